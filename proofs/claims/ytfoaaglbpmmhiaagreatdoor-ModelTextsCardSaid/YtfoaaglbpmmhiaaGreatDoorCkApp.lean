/- Problems appended to problems: an append of a row of any length, also within a region that draws its order. -/
import Derived.Test.YtfoaaglbpmmhiaaGreatDoorCkOut
import Derived.Test.YtfoaaglbpmmhiaaGreatDoorKitA
import Derived.Deep.AppendLies
import Derived.Deep.Upon
namespace Go.Proofs.YtfoaaglbpmmhiaaGreatDoor
open Go.RowKit Ck
set_option linter.unusedVariables false
set_option linter.unusedSimpArgs false

theorem run_app {w : World} (ty : TypeId) (B C : Nat) (v v2 : Value) (n m : Nat) (xs news : List Value) (hown : w.ownsRow B 164 3 v n xs) (hown2 : w.ownsRow C 164 3 v2 m news) (h1 : ∀ u ∈ news, u.oneCell' = true) (hnm : n + m ≤ 4000000000) (hB : B ≤ w.heap.size) :
    ∃ (q : Option Addr) (cap : Nat) (w' : World), (Builtin.append_ #[114, 114] ty #[v, v2]).run Tryz.prog w = .ok (.slice q (n + m) cap) w' ∧ w'.ownsRow B 164 3 (.slice q (n + m) cap) (n + m) (xs ++ news) ∧ w.grownBy w' v.ownBlock ∧ ∀ g, (Value.slice q (n + m) cap).ownBlock = some g → v.ownBlock = some g ∨ g = w.heap.size := by
  obtain ⟨i0, hi, hz0, hz1, hz2⟩ := info_parts prob_info
  cases m with
  | zero =>
    have hnews : news = [] := by have := hown2.1; simpa using this
    subst hnews
    rw [List.append_nil]
    have hgr : w.grownBy w v.ownBlock := ⟨rfl, rfl, rfl, Nat.le_refl _, fun k _ _ => rfl⟩
    rcases hown2.2 with ⟨rfl, _⟩ | ⟨g2, c2, cur2, rfl, _, hg2, hc2, _⟩
    · have hrun := run_append_owned_none (P := Tryz.prog) (w := w) B 114 ty 164 i0 3 Tryz.underlying114 hi v n xs hown
      rcases hown.2 with ⟨rfl, rfl⟩ | ⟨g, cap, cur, rfl, _⟩
      · exact ⟨none, 0, w, hrun, hown, hgr, fun g h => by simp [Value.ownBlock] at h⟩
      · exact ⟨some ⟨g, 0, none⟩, cap, w, hrun, hown, hgr, fun g h => .inl h⟩
    · have hsrc : Src Tryz.prog i0.size 114 (.slice (some ⟨g2, 0, none⟩) 0 c2) 0 [] w := by
        exact Src.ofSlice w Tryz.underlying114 ⟨g2, 0, none⟩ 0 c2 [] (by simp) (fun j u h => by simp at h) (fun u h => by cases h)
      rcases hown.2 with ⟨rfl, rfl⟩ | ⟨g, cap, cur, rfl, _, _, hc, _⟩
      · exact ⟨none, 0, w, run_append_nothing w _ _ _ _ i0 Tryz.underlying114 hi none 0 0 (Nat.le_refl _) _ hsrc, hown, hgr, fun g h => by simp [Value.ownBlock] at h⟩
      · exact ⟨some ⟨g, 0, none⟩, cap, w, run_append_nothing w _ _ _ _ i0 Tryz.underlying114 hi (some ⟨g, 0, none⟩) n cap hc _ hsrc, hown, hgr, fun g h => .inl h⟩
  | succ m =>
    rcases hown2.2 with ⟨_, h⟩ | ⟨g2, c2, cur2, rfl, _, hg2, hc2, _⟩
    · omega
    · obtain ⟨g, cap, w', hr, q1, q2, q3, q4⟩ := run_append_lies (P := Tryz.prog) w 114 ty B 164 i0 (.agg #[.string ByteArray.empty, .int .i64 0, .int .i64 0]) 3 32 Tryz.underlying114 hi hz0 hz1 hz2 rfl (by decide) v n xs hown ⟨g2, 0, none⟩ (m + 1) c2 news hown2.1 (fun j u hu => hown2.cells (g := g2) rfl j u hu) h1 (by omega) (by unfold maxLen; omega) (by omega) hB w.heap.size rfl
      exact ⟨some ⟨g, 0, none⟩, cap, w', hr, q1, q2, fun g' h => by
        have hgg : g = g' := by simpa [Value.ownBlock] using h
        subst hgg
        exact q3⟩
theorem step_app {ops : Array Oper} {o : Oper} {a : Act} {w : World} {K : Act → World → Prop} {Q : Exit → Act → World → Prop} {E : Prop} (hgd : o.guard = none) (s x : Operand)
    (ho : o.op = .call { callee := .builtin .append, args := #[s, x], argTypes := #[114, 114] })
    (B C : Nat) (v v2 : Value) (n m : Nat) (xs news : List Value) (hs : a.eval s = v) (hx : a.eval x = v2) (hown : w.ownsRow B 164 3 v n xs) (hown2 : w.ownsRow C 164 3 v2 m news) (h1 : ∀ u ∈ news, u.oneCell' = true) (hnm : n + m ≤ 4000000000) (hB : B ≤ w.heap.size)
    (h : ∀ (q : Option Addr) (cap : Nat) (w' : World), w'.ownsRow B 164 3 (.slice q (n + m) cap) (n + m) (xs ++ news) → w.grownBy w' v.ownBlock → (∀ g, (Value.slice q (n + m) cap).ownBlock = some g → v.ownBlock = some g ∨ g = w.heap.size) → K (a.put o.dst (.slice q (n + m) cap)) w') :
    if Region.wanted o (yielded ops a.tmps) = true then Oper.wp Tryz.prog o a w K Q else E := by
  have hw : Region.wanted o (yielded ops a.tmps) = true := by simp [Region.wanted, hgd]
  rw [if_pos hw]
  obtain ⟨q, cap, w', hr, h2, h3, h4⟩ := run_app (w := w) o.type B C v v2 n m xs news hown hown2 h1 hnm hB
  unfold Oper.wp execOp
  simp only [ho, resolve, invoke, builtin, Sem.run_bind, Sem.run_pure, Result.andThen_ok, List.map_toArray, List.map_cons, List.map_nil, hs, hx, hr]
  exact h q cap w' h2 h3 h4
theorem prob_one (ps : List PProb) : ∀ u ∈ ps.flatMap probC, u.oneCell' = true := by
  intro u hu
  rw [List.mem_flatMap] at hu
  obtain ⟨p, _, hp⟩ := hu
  unfold probC at hp
  simp only [List.mem_cons, List.not_mem_nil, or_false] at hp
  rcases hp with rfl | rfl | rfl <;> rfl
theorem map_oth {H : Type} {R : Value → Option (DataW H × List MemPlace)} {w w' : World} {b n fb : Nat} {e : TypeId} {f : List UInt8 → Option (DataW H)} (h : MapIs R w b n f) (k : Lib.OthersKept e (some fb) w w') (hb : b ≠ fb) : MapIs R w' b n f := by
  obtain ⟨D, ⟨es, clock, h1, F, hs, hD⟩, h2, h3⟩ := h
  exact ⟨D, ⟨es, clock, k b _ h1 (fun e => hb (by injection e)) (fun c fz he => by cases he), F, hs, hD⟩, h2, h3⟩
section
variable {w0 : World} {fb : Nat} {d : Str} {num : Int} {w : World} {bl : List (Nat × Array Value × TypeId)} {N : Nat} {ps : List PProb} {wx : World}
theorem FS.app {w2 : World} {v : Value} {ps2 : List PProb} {q : Option Addr} {cap : Nat} (h : FS w0 fb d num w bl N ps wx) (hv : wx.cell? ⟨fb, 2, none⟩ = some v)
    (hown : w2.ownsRow w0.heap.size 164 3 (.slice q (ps.length + ps2.length) cap) (ps.length + ps2.length) (ps.flatMap probC ++ ps2.flatMap probC)) (hg : wx.grownBy w2 v.ownBlock) (hq : ∀ g, (Value.slice q (ps.length + ps2.length) cap).ownBlock = some g → v.ownBlock = some g ∨ g = wx.heap.size) :
    (FS w0 fb d num w bl (N + ps2.length) (ps ++ ps2) (w2.setCell ⟨fb, 2, none⟩ (.slice q (ps.length + ps2.length) cap)) ∧ Lib.OthersKept 164 (some fb) wx (w2.setCell ⟨fb, 2, none⟩ (.slice q (ps.length + ps2.length) cap))) ∧ w2.cell? ⟨fb, 2, none⟩ = some v ∧ w2.frozen? ⟨fb, 2, none⟩ = false ∧ ∀ b ∈ bl, w2.heap[b.1]? = some (.cells b.2.1 b.2.2 (0, 0)) := by
  have hflt := h.1.lt
  obtain ⟨⟨hB, v', hb, hown', hne⟩, h2, h3, h4, h5⟩ := h
  have hvv : v' = v := by
    rw [Lib.cell_of_heap hb] at hv
    simpa using hv
  subst hvv
  have hb2 : w2.heap[fb]? = some (.cells #[.string (S d), .int .i64 num, v'] 141 (0, 0)) := (hg.block fb hflt (Ne.symm hne)).trans hb
  have hoth : Lib.OthersKept 164 (some fb) wx w2 := (Lib.OthersKept.refl _ _ wx).grown hg (row_kind hown')
  have hne2 : (Value.slice q (ps.length + ps2.length) cap).ownBlock ≠ some fb := fun e => by
    rcases hq fb e with e2 | e2
    · exact hne e2
    · omega
  have hos := hoth.setCell (⟨fb, 2, none⟩ : Addr) rfl (.slice q (ps.length + ps2.length) cap)
  refine ⟨⟨⟨⟨hB, _, heap_setCell_same w2 fb 2 _ _ _ hb2, ?_, hne2⟩, ?_, h3.trans hos, ?_, fun b hb => ?_⟩, hos⟩, by rw [Lib.cell_of_heap hb2]; rfl, Lib.frozen_of_heap hb2 2, fun b hb => by
    obtain ⟨q1, q2, q3⟩ := h5 b hb
    exact kept_cell hoth q1 (fun e => q2 (by injection e)) q3⟩
  · have := hown.kept (grown_setCell w2 fb 2 (.slice q (ps.length + ps2.length) cap)) (Or.inr hne2)
    rw [List.flatMap_append, List.length_append]
    exact this
  · exact bel_set (Below.grown h2 hg h2.size (fun k hk => (hown'.lt k hk).1)) hB
  · rw [List.length_append]; omega
  · obtain ⟨q1, q2, q3⟩ := h5 b hb
    exact ⟨kept_cell hos q1 (fun e => q2 (by injection e)) q3, q2, q3⟩
end
end Go.Proofs.YtfoaaglbpmmhiaaGreatDoor
