/- Layer 35 walked: looking up. Printed by genfind.py. -/
import Derived.Test.YtfoaaglbpmmhiaaGreatDoorMdChoice
import Derived.Deep.Upon
import Derived.Deep.AppendLies
import Derived.Test.YtfoaaglbpmmhiaaGreatDoorMdAwake
namespace Go.Proofs.YtfoaaglbpmmhiaaGreatDoor
open Go.RowKit Ck Md
set_option linter.unusedVariables false
set_option linter.unusedSimpArgs false
theorem wpl_app_zero {ops : Array Oper} {rest : List Oper} {o : Oper} {a : Act} {w : World} {Q : Exit → Act → World → Prop} (hgd : o.guard = none) (s x : Operand)
    (ho : o.op = .call { callee := .builtin .append, args := #[s, x], argTypes := #[45, 45] }) (p q : Option Addr) (n cap c : Nat) (hs : a.eval s = .slice p n cap) (hn : n ≤ cap) (hx : a.eval x = .slice q 0 c)
    (h : wpList Tryz.prog ops Q rest (a.put o.dst (.slice p n cap)) w) : wpList Tryz.prog ops Q (o :: rest) a w := by
  obtain ⟨i0, hi, hz0, hz1, hz2⟩ := info_parts mem_info
  have hsrc : Src Tryz.prog i0.size 45 (.slice q 0 c) 0 [] w := by
    cases q with
    | none => exact Src.ofNil w Tryz.underlying45 c
    | some ad => exact Src.ofSlice w Tryz.underlying45 ad 0 c [] (by simp) (fun j u h => by simp at h) (fun u h => by cases h)
  have hr := run_append_nothing w 45 45 o.type 80 i0 Tryz.underlying45 hi p n cap hn _ hsrc
  refine wpList_plain hgd fun _ hK => ?_
  unfold Oper.wp execOp
  simp only [ho, resolve, invoke, builtin, Sem.run_bind, Sem.run_pure, Result.andThen_ok, List.map_toArray, List.map_cons, List.map_nil, hs, hx, hr]
  exact hK _ _ h
/-- a declaration's cells, by value -/
def declV (d : PDecl) (mv : Value) : Value := .agg #[.int .i64 d.kind, .string (S d.name), .string (S d.frm), mv]
def CopyOut (w : World) (d : PDecl) (e : Ending) (w' : World) : Prop := ∃ (p : Option Addr) (c : Nat), e = .returned (declV d (.slice p d.mems.length c)) ∧ Mems w' (.slice p d.mems.length c) d.mems ∧ Bel w w' ∧ ∀ a, p = some a → w.heap.size ≤ a.block
theorem mems_cells (l : List PMem) : ∀ u ∈ l.flatMap memC, u.oneCell' = true := by
  intro u hu
  rw [List.mem_flatMap] at hu
  obtain ⟨p, _, hp⟩ := hu
  unfold memC at hp
  simp only [List.mem_cons, List.not_mem_nil, or_false] at hp
  rcases hp with rfl | rfl | rfl <;> rfl
theorem flat_at : ∀ (l : List PMem) (j : Nat) (u : Value), (l.flatMap memC)[j]? = some u → ∃ m, l[j / 3]? = some m ∧ (memC m)[j % 3]? = some u
  | [], j, u, h => by simp at h
  | m :: l, j, u, h => by
    rw [List.flatMap_cons] at h
    rcases Nat.lt_or_ge j 3 with hj | hj
    · rw [List.getElem?_append_left (by simpa [memC] using hj)] at h
      refine ⟨m, ?_, by rwa [Nat.mod_eq_of_lt hj]⟩
      rw [Nat.div_eq_of_lt hj]
      rfl
    · rw [List.getElem?_append_right (by simpa [memC] using hj)] at h
      obtain ⟨x, h1, h2⟩ := flat_at l (j - 3) u h
      refine ⟨x, ?_, ?_⟩
      · rw [show j / 3 = (j - 3) / 3 + 1 by omega]
        simpa using h1
      · rwa [show j % 3 = (j - 3) % 3 by omega]
theorem flat_len3 : ∀ l : List PMem, (l.flatMap memC).length = l.length * 3
  | [] => rfl
  | m :: l => by rw [List.flatMap_cons, List.length_append, flat_len3 l, List.length_cons]; simp [memC]; omega
theorem set4 {w1 : World} {g : Nat} {t : TypeId} {c0 c1 c2 c3 : Value} (hg : w1.heap[g]? = some (.cells #[c0, c1, c2, c3] t (0, 0))) (v0 v1 v2 v3 : Value) :
    ((((w1.setCell ⟨g, 0, none⟩ v0).setCell ⟨g, 1, none⟩ v1).setCell ⟨g, 2, none⟩ v2).setCell ⟨g, 3, none⟩ v3).heap[g]? = some (.cells #[v0, v1, v2, v3] t (0, 0)) := by
  have h0 := heap_setCell_same w1 g 0 _ t v0 hg
  rw [show (#[c0, c1, c2, c3] : Array Value).setIfInBounds 0 v0 = #[v0, c1, c2, c3] from rfl] at h0
  have h1 := heap_setCell_same _ g 1 _ t v1 h0
  rw [show (#[v0, c1, c2, c3] : Array Value).setIfInBounds 1 v1 = #[v0, v1, c2, c3] from rfl] at h1
  have h2 := heap_setCell_same _ g 2 _ t v2 h1
  rw [show (#[v0, v1, c2, c3] : Array Value).setIfInBounds 2 v2 = #[v0, v1, v2, c3] from rfl] at h2
  exact heap_setCell_same _ g 3 _ t v3 h2
/-- what looking for a declaration leaves -/
def FindOut (w : World) (OD : Option PDecl) (e : Ending) (w' : World) : Prop := ∃ (p : Option Addr) (c : Nat), e = .returned (.tuple #[declV (OD.getD zeroD) (.slice p (OD.getD zeroD).mems.length c), .bool OD.isSome]) ∧ Mems w' (.slice p (OD.getD zeroD).mems.length c) (OD.getD zeroD).mems ∧ Bel w w'
theorem find_drop {α : Type} (P : α → Bool) (l : List α) (k : Nat) (h : k < l.length) : (l.drop k).find? P = if P l[k] = true then some l[k] else (l.drop (k + 1)).find? P := by
  rw [List.drop_eq_getElem_cons h, List.find?_cons]
  cases P l[k] <;> rfl
/-- members that lie elsewhere stay behind a store -/
theorem mems_set {w : World} {v : Value} {l : List PMem} (h : Mems w v l) (g o : Nat) (u : Value) (hg : ∀ (p : Addr) n c, v = .slice (some p) n c → p.block ≠ g) : Mems (w.setCell ⟨g, o, none⟩ u) v l := by
  obtain ⟨q, c, rfl, hl, hc, hel⟩ := h
  refine ⟨q, c, rfl, hl, hc, fun i x hx => ?_⟩
  obtain ⟨b, off, rfl, hb, vs, hce, hvs⟩ := hel i x hx
  refine ⟨b, off, rfl, by simpa [World.setCell] using hb, vs, fun j y hy => ?_, hvs⟩
  have := hce j y hy
  rw [← this]
  exact World.cell?_of_block (Below.heap_setCell _ _ _ _ (hg ⟨b, off, none⟩ _ _ rfl))
def zeroM : PMem := ⟨[], [], 0⟩
def memV (m : PMem) : Value := .agg #[.string (S m.name), .string (S m.ty), .int .i64 m.num]
def MemOut (w : World) (OM : Option PMem) (e : Ending) (w' : World) : Prop := e = .returned (.tuple #[memV (OM.getD zeroM), .bool OM.isSome]) ∧ Bel w w'
theorem set3M {w1 : World} {g : Nat} {t : TypeId} {c0 c1 c2 : Value} (hg : w1.heap[g]? = some (.cells #[c0, c1, c2] t (0, 0))) (v0 v1 v2 : Value) :
    (((w1.setCell ⟨g, 0, none⟩ v0).setCell ⟨g, 1, none⟩ v1).setCell ⟨g, 2, none⟩ v2).heap[g]? = some (.cells #[v0, v1, v2] t (0, 0)) := by
  have h0 := heap_setCell_same w1 g 0 _ t v0 hg
  rw [show (#[c0, c1, c2] : Array Value).setIfInBounds 0 v0 = #[v0, c1, c2] from rfl] at h0
  have h1 := heap_setCell_same _ g 1 _ t v1 h0
  rw [show (#[v0, c1, c2] : Array Value).setIfInBounds 1 v1 = #[v0, v1, c2] from rfl] at h1
  exact heap_setCell_same _ g 2 _ t v2 h1
theorem mems_row {w : World} {B : Nat} {g c : Nat} {l : List PMem} (h : w.ownsRow B 80 3 (.slice (some ⟨g, 0, none⟩) l.length c) l.length (l.flatMap memC)) (hl : l.length ≤ 140737488355328) : Mems w (.slice (some ⟨g, 0, none⟩) l.length c) l :=
  sv_of_own memC (fun _ => rfl) h hl (fun x _ => rfl)
theorem wpl_copy {ops : Array Oper} {rest : List Oper} {o : Oper} {a : Act} {w : World} {Q : Exit → Act → World → Prop} (hgd : o.guard = none) (s x : Operand)
    (ho : o.op = .call { callee := .builtin .append, args := #[s, x], argTypes := #[45, 45] }) (B g0 cap0 : Nat) (hs : a.eval s = .slice (some ⟨g0, 0, none⟩) 0 cap0)
    (hown : w.ownsRow B 80 3 (.slice (some ⟨g0, 0, none⟩) 0 cap0) 0 []) (q : Option Addr) (c : Nat) (l : List PMem) (hx : a.eval x = .slice q l.length c) (hm : Mems w (.slice q l.length c) l) (hl : l.length ≤ 3518437208883) (hB : B ≤ w.heap.size)
    (h : ∀ g cap w', w'.ownsRow B 80 3 (.slice (some ⟨g, 0, none⟩) l.length cap) l.length (l.flatMap memC) → w.grownBy w' (Value.slice (some ⟨g0, 0, none⟩) 0 cap0).ownBlock → ((Value.slice (some ⟨g0, 0, none⟩) 0 cap0).ownBlock = some g ∨ g = w.heap.size) → wpList Tryz.prog ops Q rest (a.put o.dst (.slice (some ⟨g, 0, none⟩) l.length cap)) w') : wpList Tryz.prog ops Q (o :: rest) a w := by
  obtain ⟨i0, hi, hz0, hz1, hz2⟩ := info_parts mem_info
  cases l with
  | nil => exact wpl_app_zero hgd s x ho (some ⟨g0, 0, none⟩) q 0 cap0 c hs (Nat.zero_le _) hx (h g0 cap0 w hown ⟨rfl, rfl, rfl, Nat.le_refl _, fun k _ _ => rfl⟩ (.inl rfl))
  | cons m0 ms =>
    obtain ⟨q2, c2, hq, _, hcap, hel⟩ := hm
    cases hq
    obtain ⟨b, off, hq, hb, _, _, _⟩ := hel 0 m0 rfl
    subst hq
    refine wpList_append_lies w hgd s x 45 ho B 80 i0 (.agg #[.string ByteArray.empty, .string ByteArray.empty, .int .i64 0]) 3 40 Tryz.underlying45 hi hz0 hz1 hz2 rfl (by decide) _ 0 [] hs hown ⟨b, off, none⟩ (m0 :: ms).length c ((m0 :: ms).flatMap memC) hx (flat_len3 _) ?_ (mems_cells _) (by simp) (by unfold maxLen; omega) (by omega) hB w.heap.size rfl ?_
    · intro j u hu
      obtain ⟨m, h1, h2⟩ := flat_at _ _ _ hu
      obtain ⟨b2, off2, hq, hb2, vs, hce, hvs⟩ := hel (j / 3) m h1
      cases hq
      have hvs' : vs = memC m := hvs
      subst hvs'
      have := hce (j % 3) u h2
      rw [Addr.add_lit]
      rwa [show off + j / 3 * 3 + j % 3 = off + j by omega] at this
    · intro g cap w' h1 h2 h3 h4
      rw [Nat.zero_add] at h1 ⊢
      rw [List.nil_append] at h1
      exact h g cap w' h1 h2 h3
set_option maxHeartbeats 4000000 in
set_option maxRecDepth 100000 in
theorem md_copied (d : PDecl) (q : Option Addr) (c : Nat) (w : World) (hm : Mems w (.slice q d.mems.length c) d.mems) (hl : d.mems.length ≤ 3518437208883) :
    Calls Tryz.prog 56 #[declV d (.slice q d.mems.length c)] w (CopyOut w d) := by
  have hms := Lib.hid hm
  clear hm
  unfold declV
  obtain ⟨W2, hW2⟩ : ∃ W2, W2 = (w.alloc (.cells #[.int .i64 d.kind, .string (S d.name), .string (S d.frm), .slice q d.mems.length c] 47)).alloc (.cells #[.int .i64 0, .string ⟨#[]⟩, .string ⟨#[]⟩, .slice none 0 0] 47) := ⟨_, rfl⟩
  have S2 : ST w [] [⟨w.heap.size + 1, #[.int .i64 0, .string ⟨#[]⟩, .string ⟨#[]⟩, .slice none 0 0], 47⟩, ⟨w.heap.size, #[.int .i64 d.kind, .string (S d.name), .string (S d.frm), .slice q d.mems.length c], 47⟩] W2 := by
    have := ((ST.start w).addbox #[.int .i64 d.kind, .string (S d.name), .string (S d.frm), .slice q d.mems.length c] 47).addbox #[.int .i64 0, .string ⟨#[]⟩, .string ⟨#[]⟩, .slice none 0 0] 47
    rw [World.size_alloc] at this
    rw [hW2]
    exact this
  have HW2 := Lib.hid hW2
  have S3 := Lib.hid (S2.addrow ((Bel.refl W2).alloc (.cells #[] 80)) (World.ownsRow_lit (e := 80) (size := 3) W2 #[] 0 (Nat.le_refl _) (by unfold maxLen; omega) rfl))
  have hst := S3.out.bel.size
  have ea := Lib.hid (fun o => S3.out.cell 1 rfl o)
  have e0 : (W2.alloc (.cells #[] 80)).cell? ⟨w.heap.size, 3, none⟩ = some (.slice q d.mems.length c) := ea.out 3
  have hw2 : w.heap.size + 1 < W2.heap.size := (S2.boxlt 0 rfl).2
  clear S2 hW2 ea
  go_enter Tryz.func56, Tryz.ntmps56
  go_upto_region 1 with (fail)
  rw [← HW2.out]
  go_upto_region 2 with (at_builtin; refine wpl_copy rfl _ _ rfl w.heap.size _ _ rfl (S3.out.row 0 rfl) q c d.mems rfl (hms.out.bel VMem.stays S3.out.bel) hl S3.out.bel.size ?_; intro g cap w4 hown hgrow hfr; have S4 := Lib.hid (S3.out.grow 0 rfl hgrow hown (fr_own hfr (Nat.le_refl _))); have e3 : w4.cell? ⟨w.heap.size, 3, none⟩ = some (.slice q d.mems.length c) := S4.out.cell 1 rfl 3; have z3 : w4.frozen? ⟨w.heap.size, 3, none⟩ = false := S4.out.frz 1 rfl 3)
  have S5 := S4.out.setbox 1 rfl 3 (.slice (some ⟨g, 0, none⟩) d.mems.length cap)
  generalize w4.setCell ⟨w.heap.size, 3, none⟩ (.slice (some ⟨g, 0, none⟩) d.mems.length cap) = w5 at S5 ⊢
  have c0 : w5.cell? ⟨w.heap.size, 0, none⟩ = some (.int .i64 d.kind) := S5.cell 1 rfl 0
  have c1 : w5.cell? ⟨w.heap.size, 1, none⟩ = some (.string (S d.name)) := S5.cell 1 rfl 1
  have c2 : w5.cell? ⟨w.heap.size, 2, none⟩ = some (.string (S d.frm)) := S5.cell 1 rfl 2
  have c3 : w5.cell? ⟨w.heap.size, 3, none⟩ = some (.slice (some ⟨g, 0, none⟩) d.mems.length cap) := S5.cell 1 rfl 3
  have d0 : w5.cell? ⟨w.heap.size + 1, 0, none⟩ = some (.int .i64 0) := S5.cell 0 rfl 0
  have d1 : w5.cell? ⟨w.heap.size + 1, 1, none⟩ = some (.string ⟨#[]⟩) := S5.cell 0 rfl 1
  have d2 : w5.cell? ⟨w.heap.size + 1, 2, none⟩ = some (.string ⟨#[]⟩) := S5.cell 0 rfl 2
  have d3 : w5.cell? ⟨w.heap.size + 1, 3, none⟩ = some (.slice none 0 0) := S5.cell 0 rfl 3
  have z0 : ∀ o, w5.frozen? ⟨w.heap.size + 1, o, none⟩ = false := fun o => S5.frz 0 rfl o
  have S6 := S5.setbox 0 rfl 0 (.int .i64 d.kind)
  have S7 := S6.setbox 0 rfl 1 (.string (S d.name))
  have S8 := S7.setbox 0 rfl 2 (.string (S d.frm))
  have S9 := Lib.hid (S8.setbox 0 rfl 3 (.slice (some ⟨g, 0, none⟩) d.mems.length cap))
  clear S5 S6 S7 S8 S4 S3 e3 z3 hown hgrow hfr e0 hms
  go_wp2
  refine bodyPost_ret (v := declV d (.slice (some ⟨g, 0, none⟩) d.mems.length cap)) ?hres rfl ?hpost
  case hres => exact results_cell_row rfl _ _ _ _ _ _ _ rfl (S9.out.box 0 rfl) Tryz.underlying47 rfl (by kernel_rfl)
  case hpost => exact ⟨some ⟨g, 0, none⟩, cap, rfl, mems_row (S9.out.row 0 rfl) (by omega), S9.out.bel, fun a ha => by cases ha; exact ((S9.out.row 0 rfl).lt g rfl).1⟩
set_option maxHeartbeats 4000000 in
set_option maxRecDepth 100000 in
theorem md_Find (v : Value) (l : List PDecl) (n : Str) (w : World) (hv : Decls w v l) (hL : ∀ d ∈ l, d.mems.length ≤ 3518437208883) :
    Calls Tryz.prog 28 #[v, .string (S n)] w (FindOut w (findD l n)) := by
  obtain ⟨q, c, rfl, hl, hcap, hel⟩ := hv
  have V := Lib.hid (show (l.drop 0).find? (fun d => decide (d.name = n)) = findD l n from rfl)
  generalize findD l n = OD at V
  have EL := Lib.hid hel
  have HL := Lib.hid hL
  clear hel hL
  have hb0 := Lib.hid (heap_alloc_new w (.cells #[.int .i64 0, .string ⟨#[]⟩, .string ⟨#[]⟩, .slice none 0 0] 47))
  have kw := Lib.hid (show Bel w (w.alloc (.cells #[.int .i64 0, .string ⟨#[]⟩, .string ⟨#[]⟩, .slice none 0 0] 47)) from (Bel.refl w).alloc _)
  go_enter Tryz.func28, Tryz.ntmps28
  go_wp2
  go_loopw [10] (fun i wr => ∃ k : Nat, k ≤ l.length ∧ i = .int .i64 k ∧ Bel (w.alloc (.cells #[.int .i64 0, .string ⟨#[]⟩, .string ⟨#[]⟩, .slice none 0 0] 47)) wr ∧ Hid ((l.drop k).find? (fun d => decide (d.name = n)) = OD)) (fun i _ => l.length - (intOf i).toNat)
  case atStart => exact ⟨0, by omega, rfl, Bel.refl _, V⟩
  case round =>
    obtain ⟨k, hk, rfl, hbw, hx⟩ := hrel
    have kr : Bel w wr := Bel.of kw.out hbw.out
    have hlw : w.heap.size < wr.heap.size := by have := hbw.size; simp at this; omega
    by_cases hlt : k < l.length
    · have hki : (k : Int) < (l.length : Int) := by omega
      have hg := List.getElem?_eq_getElem hlt
      have hml := HL.out _ (List.getElem_mem hlt)
      obtain ⟨b, off, rfl, hbs, vs, hce, hvs⟩ := EL.out k _ hg
      obtain ⟨mv, hvs1, hmv⟩ := hvs
      subst hvs1
      have hst := hx.out
      rw [find_drop _ _ _ hlt] at hst
      have hms := Lib.hid hmv
      obtain ⟨qm, cm, rfl, _, _, _⟩ := hmv
      have e0 := kr.some (hce 0 _ rfl)
      rw [Nat.add_zero] at e0
      have e1 := kr.some (hce 1 _ rfl)
      have e2 := kr.some (hce 2 _ rfl)
      have e3 := kr.some (hce 3 _ rfl)
      have hbl : b < w.heap.size := hbs
      clear hx hg hce
      generalize l[k] = d at *
      by_cases he : d.name = n
      · rw [if_pos (by simpa using he)] at hst
        have HT := Lib.hid hst
        have hcmp : ((S d.name).toList == (S n).toList) = true := by rw [ByteArray.toList_eq, ByteArray.toList_eq, S_list, S_list, he]; simp
        have kb : Bel wr (wr.alloc (.cells #[.int .i64 d.kind, .string (S d.name), .string (S d.frm), .slice qm d.mems.length cm] 47)) := (Bel.refl wr).alloc _
        have CC := Lib.hid (md_copied d qm cm (wr.alloc (.cells #[.int .i64 d.kind, .string (S d.name), .string (S d.frm), .slice qm d.mems.length cm] 47)) (hms.out.bel VMem.stays (Bel.of kr kb.out)) hml)
        unfold declV at CC
        clear hst he
        go_wp2_with (go_at_call 56; (with_reducible refine CC.out.mono ?_); rintro e w2 ⟨p2, c2, he2, m2, k2, f2⟩; unfold declV at he2; subst he2; have hb2 := block_of_below (Bel.of hbw (Bel.of kb k2.out).out).out hb0.out; have x0 : w2.cell? ⟨w.heap.size, 0, none⟩ = some (.int .i64 0) := Lib.cell_of_heap hb2 0; have x1 : w2.cell? ⟨w.heap.size, 1, none⟩ = some (.string ⟨#[]⟩) := Lib.cell_of_heap hb2 1; have x2 : w2.cell? ⟨w.heap.size, 2, none⟩ = some (.string ⟨#[]⟩) := Lib.cell_of_heap hb2 2; have x3 : w2.cell? ⟨w.heap.size, 3, none⟩ = some (.slice none 0 0) := Lib.cell_of_heap hb2 3; have fz : ∀ o, w2.frozen? ⟨w.heap.size, o, none⟩ = false := fun o => Lib.frozen_of_heap hb2 o; have kk2 : Bel w w2 := Bel.of kr (Bel.of kb k2.out).out)
        refine bodyPost_ret (v := .tuple #[declV d (.slice p2 d.mems.length c2), .bool true]) ?hres rfl ?hpost
        case hres => exact res_row rfl rfl rfl (set4 hb2 _ _ _ _) Tryz.underlying47 rfl (by kernel_rfl)
        case hpost =>
          rw [← HT.out]
          have hne : ∀ (p : Addr) n c, Value.slice p2 d.mems.length c2 = .slice (some p) n c → p.block ≠ w.heap.size := fun p n c he => by
            injection he with h1 h2 h3
            have := f2 p h1
            rw [World.size_alloc] at this
            omega
          have kf : Bel w _ := bel_set (bel_set (bel_set (bel_set kk2 (Nat.le_refl _) (o := 0) (v := .int .i64 d.kind)) (Nat.le_refl _) (o := 1) (v := .string (S d.name))) (Nat.le_refl _) (o := 2) (v := .string (S d.frm))) (Nat.le_refl _) (o := 3) (v := .slice p2 d.mems.length c2)
          exact ⟨p2, c2, rfl, mems_set (mems_set (mems_set (mems_set m2 _ _ _ hne) _ _ _ hne) _ _ _ hne) _ _ _ hne, kf⟩
      · rw [if_neg (by simpa using he)] at hst
        have HT := Lib.hid hst
        have hcmp : ((S d.name).toList == (S n).toList) = false := by rw [ByteArray.toList_eq, ByteArray.toList_eq, S_list, S_list]; simpa using he
        clear hst he
        go_wp2
        go_roundw
        case rel => exact ⟨k + 1, by omega, by go_num, hbw.alloc _, HT⟩
        case measure => simp [intOf]; omega
    · have hxe : OD = none := by rw [← hx.out, List.drop_eq_nil_of_le (by omega)]; rfl
      have HT := Lib.hid hxe
      have hb2 := block_of_below hbw.out hb0.out
      have x0 : wr.cell? ⟨w.heap.size, 0, none⟩ = some (.int .i64 0) := Lib.cell_of_heap hb2 0
      have x1 : wr.cell? ⟨w.heap.size, 1, none⟩ = some (.string ⟨#[]⟩) := Lib.cell_of_heap hb2 1
      have x2 : wr.cell? ⟨w.heap.size, 2, none⟩ = some (.string ⟨#[]⟩) := Lib.cell_of_heap hb2 2
      have x3 : wr.cell? ⟨w.heap.size, 3, none⟩ = some (.slice none 0 0) := Lib.cell_of_heap hb2 3
      have fz : ∀ o, wr.frozen? ⟨w.heap.size, o, none⟩ = false := fun o => Lib.frozen_of_heap hb2 o
      clear hxe hx
      go_wp2
      refine bodyPost_ret (v := .tuple #[declV zeroD (.slice none 0 0), .bool false]) ?hres rfl ?hpost
      case hres => exact res_row rfl rfl rfl (set4 hb2 _ _ _ _) Tryz.underlying47 rfl (by kernel_rfl)
      case hpost =>
        rw [HT.out]
        have kf : Bel w _ := bel_set (bel_set (bel_set (bel_set kr (Nat.le_refl _) (o := 0) (v := .int .i64 0)) (Nat.le_refl _) (o := 1) (v := .string ⟨#[]⟩)) (Nat.le_refl _) (o := 2) (v := .string ⟨#[]⟩)) (Nat.le_refl _) (o := 3) (v := .slice none 0 0)
        exact ⟨none, 0, rfl, Sl.nil _ _ _ _ _, kf⟩
set_option maxHeartbeats 4000000 in
set_option maxRecDepth 100000 in
theorem md_Of (v : Value) (l : List PDecl) (n : Str) (w : World) (hv : Decls w v l) (hL : ∀ d ∈ l, d.mems.length ≤ 3518437208883) :
    Calls Tryz.prog 22 #[v, .string (S n)] w (FindOut w (ofD l n)) := by
  obtain ⟨q, c, rfl, hl, hcap, hel⟩ := hv
  have V := Lib.hid (show (l.drop 0).find? (fun d => decide (d.frm = n)) = ofD l n from rfl)
  generalize ofD l n = OD at V
  have EL := Lib.hid hel
  have HL := Lib.hid hL
  clear hel hL
  have hb0 := Lib.hid (heap_alloc_new w (.cells #[.int .i64 0, .string ⟨#[]⟩, .string ⟨#[]⟩, .slice none 0 0] 47))
  have kw := Lib.hid (show Bel w (w.alloc (.cells #[.int .i64 0, .string ⟨#[]⟩, .string ⟨#[]⟩, .slice none 0 0] 47)) from (Bel.refl w).alloc _)
  go_enter Tryz.func22, Tryz.ntmps22
  go_wp2
  go_loopw [10] (fun i wr => ∃ k : Nat, k ≤ l.length ∧ i = .int .i64 k ∧ Bel (w.alloc (.cells #[.int .i64 0, .string ⟨#[]⟩, .string ⟨#[]⟩, .slice none 0 0] 47)) wr ∧ Hid ((l.drop k).find? (fun d => decide (d.frm = n)) = OD)) (fun i _ => l.length - (intOf i).toNat)
  case atStart => exact ⟨0, by omega, rfl, Bel.refl _, V⟩
  case round =>
    obtain ⟨k, hk, rfl, hbw, hx⟩ := hrel
    have kr : Bel w wr := Bel.of kw.out hbw.out
    have hlw : w.heap.size < wr.heap.size := by have := hbw.size; simp at this; omega
    by_cases hlt : k < l.length
    · have hki : (k : Int) < (l.length : Int) := by omega
      have hg := List.getElem?_eq_getElem hlt
      have hml := HL.out _ (List.getElem_mem hlt)
      obtain ⟨b, off, rfl, hbs, vs, hce, hvs⟩ := EL.out k _ hg
      obtain ⟨mv, hvs1, hmv⟩ := hvs
      subst hvs1
      have hst := hx.out
      rw [find_drop _ _ _ hlt] at hst
      have hms := Lib.hid hmv
      obtain ⟨qm, cm, rfl, _, _, _⟩ := hmv
      have e0 := kr.some (hce 0 _ rfl)
      rw [Nat.add_zero] at e0
      have e1 := kr.some (hce 1 _ rfl)
      have e2 := kr.some (hce 2 _ rfl)
      have e3 := kr.some (hce 3 _ rfl)
      have hbl : b < w.heap.size := hbs
      clear hx hg hce
      generalize l[k] = d at *
      by_cases he : d.frm = n
      · rw [if_pos (by simpa using he)] at hst
        have HT := Lib.hid hst
        have hcmp : ((S d.frm).toList == (S n).toList) = true := by rw [ByteArray.toList_eq, ByteArray.toList_eq, S_list, S_list, he]; simp
        have kb : Bel wr (wr.alloc (.cells #[.int .i64 d.kind, .string (S d.name), .string (S d.frm), .slice qm d.mems.length cm] 47)) := (Bel.refl wr).alloc _
        have CC := Lib.hid (md_copied d qm cm (wr.alloc (.cells #[.int .i64 d.kind, .string (S d.name), .string (S d.frm), .slice qm d.mems.length cm] 47)) (hms.out.bel VMem.stays (Bel.of kr kb.out)) hml)
        unfold declV at CC
        clear hst he
        go_wp2_with (go_at_call 56; (with_reducible refine CC.out.mono ?_); rintro e w2 ⟨p2, c2, he2, m2, k2, f2⟩; unfold declV at he2; subst he2; have hb2 := block_of_below (Bel.of hbw (Bel.of kb k2.out).out).out hb0.out; have x0 : w2.cell? ⟨w.heap.size, 0, none⟩ = some (.int .i64 0) := Lib.cell_of_heap hb2 0; have x1 : w2.cell? ⟨w.heap.size, 1, none⟩ = some (.string ⟨#[]⟩) := Lib.cell_of_heap hb2 1; have x2 : w2.cell? ⟨w.heap.size, 2, none⟩ = some (.string ⟨#[]⟩) := Lib.cell_of_heap hb2 2; have x3 : w2.cell? ⟨w.heap.size, 3, none⟩ = some (.slice none 0 0) := Lib.cell_of_heap hb2 3; have fz : ∀ o, w2.frozen? ⟨w.heap.size, o, none⟩ = false := fun o => Lib.frozen_of_heap hb2 o; have kk2 : Bel w w2 := Bel.of kr (Bel.of kb k2.out).out)
        refine bodyPost_ret (v := .tuple #[declV d (.slice p2 d.mems.length c2), .bool true]) ?hres rfl ?hpost
        case hres => exact res_row rfl rfl rfl (set4 hb2 _ _ _ _) Tryz.underlying47 rfl (by kernel_rfl)
        case hpost =>
          rw [← HT.out]
          have hne : ∀ (p : Addr) n c, Value.slice p2 d.mems.length c2 = .slice (some p) n c → p.block ≠ w.heap.size := fun p n c he => by
            injection he with h1 h2 h3
            have := f2 p h1
            rw [World.size_alloc] at this
            omega
          have kf : Bel w _ := bel_set (bel_set (bel_set (bel_set kk2 (Nat.le_refl _) (o := 0) (v := .int .i64 d.kind)) (Nat.le_refl _) (o := 1) (v := .string (S d.name))) (Nat.le_refl _) (o := 2) (v := .string (S d.frm))) (Nat.le_refl _) (o := 3) (v := .slice p2 d.mems.length c2)
          exact ⟨p2, c2, rfl, mems_set (mems_set (mems_set (mems_set m2 _ _ _ hne) _ _ _ hne) _ _ _ hne) _ _ _ hne, kf⟩
      · rw [if_neg (by simpa using he)] at hst
        have HT := Lib.hid hst
        have hcmp : ((S d.frm).toList == (S n).toList) = false := by rw [ByteArray.toList_eq, ByteArray.toList_eq, S_list, S_list]; simpa using he
        clear hst he
        go_wp2
        go_roundw
        case rel => exact ⟨k + 1, by omega, by go_num, hbw.alloc _, HT⟩
        case measure => simp [intOf]; omega
    · have hxe : OD = none := by rw [← hx.out, List.drop_eq_nil_of_le (by omega)]; rfl
      have HT := Lib.hid hxe
      have hb2 := block_of_below hbw.out hb0.out
      have x0 : wr.cell? ⟨w.heap.size, 0, none⟩ = some (.int .i64 0) := Lib.cell_of_heap hb2 0
      have x1 : wr.cell? ⟨w.heap.size, 1, none⟩ = some (.string ⟨#[]⟩) := Lib.cell_of_heap hb2 1
      have x2 : wr.cell? ⟨w.heap.size, 2, none⟩ = some (.string ⟨#[]⟩) := Lib.cell_of_heap hb2 2
      have x3 : wr.cell? ⟨w.heap.size, 3, none⟩ = some (.slice none 0 0) := Lib.cell_of_heap hb2 3
      have fz : ∀ o, wr.frozen? ⟨w.heap.size, o, none⟩ = false := fun o => Lib.frozen_of_heap hb2 o
      clear hxe hx
      go_wp2
      refine bodyPost_ret (v := .tuple #[declV zeroD (.slice none 0 0), .bool false]) ?hres rfl ?hpost
      case hres => exact res_row rfl rfl rfl (set4 hb2 _ _ _ _) Tryz.underlying47 rfl (by kernel_rfl)
      case hpost =>
        rw [HT.out]
        have kf : Bel w _ := bel_set (bel_set (bel_set (bel_set kr (Nat.le_refl _) (o := 0) (v := .int .i64 0)) (Nat.le_refl _) (o := 1) (v := .string ⟨#[]⟩)) (Nat.le_refl _) (o := 2) (v := .string ⟨#[]⟩)) (Nat.le_refl _) (o := 3) (v := .slice none 0 0)
        exact ⟨none, 0, rfl, Sl.nil _ _ _ _ _, kf⟩
end Go.Proofs.YtfoaaglbpmmhiaaGreatDoor

/- The reference's layer 35 walked: looking up. Printed by genfind2.py. -/
namespace Go.Proofs.YtfoaaglbpmmhiaaGreatDoor
open Go.RowKit Ck Md
set_option linter.unusedVariables false
set_option linter.unusedSimpArgs false
set_option maxHeartbeats 4000000 in
set_option maxRecDepth 100000 in
theorem rd_Find (v : Value) (l : List PDecl) (n : Str) (w : World) (hv : Decls w v l) :
    Calls Tryz.prog 31 #[v, .string (S n)] w (FindOut w (findD l n)) := by
  obtain ⟨q, c, rfl, hl, hcap, hel⟩ := hv
  have V := Lib.hid (show (l.drop 0).find? (fun d => decide (d.name = n)) = findD l n from rfl)
  generalize findD l n = OD at V
  have EL := Lib.hid hel
  clear hel
  have hb0 := heap_alloc_new w (.cells #[.int .i64 0, .string ⟨#[]⟩, .string ⟨#[]⟩, .slice none 0 0] 47)
  have kw : Bel w (w.alloc (.cells #[.int .i64 0, .string ⟨#[]⟩, .string ⟨#[]⟩, .slice none 0 0] 47)) := (Bel.refl w).alloc _
  go_enter Tryz.func31, Tryz.ntmps31
  go_wp2
  go_loop [6] (fun i => ∃ k : Nat, k ≤ l.length ∧ i = .int .i64 k ∧ Hid ((l.drop k).find? (fun d => decide (d.name = n)) = OD)) (fun i => l.length - (intOf i).toNat)
  case atStart => exact ⟨0, by omega, rfl, V⟩
  case round =>
    obtain ⟨k, hk, rfl, hx⟩ := hrel
    by_cases hlt : k < l.length
    · have hki : (k : Int) < (l.length : Int) := by omega
      have hg := List.getElem?_eq_getElem hlt
      obtain ⟨b, off, rfl, hbs, vs, hce, hvs⟩ := EL.out k _ hg
      obtain ⟨mv, hvs1, hmv⟩ := hvs
      subst hvs1
      have hst := hx.out
      rw [find_drop _ _ _ hlt] at hst
      have hms := Lib.hid hmv
      obtain ⟨qm, cm, rfl, _, _, _⟩ := hmv
      have e0 := kw.some (hce 0 _ rfl)
      rw [Nat.add_zero] at e0
      have e1 := kw.some (hce 1 _ rfl)
      have e2 := kw.some (hce 2 _ rfl)
      have e3 := kw.some (hce 3 _ rfl)
      have e0w := hce 0 _ rfl
      rw [Nat.add_zero] at e0w
      have e1w := hce 1 _ rfl
      have e2w := hce 2 _ rfl
      have e3w := hce 3 _ rfl
      clear hx hg hce
      generalize l[k] = d at *
      by_cases he : d.name = n
      · rw [if_pos (by simpa using he)] at hst
        have HT := Lib.hid hst
        have hcmp : ((S d.name).toList == (S n).toList) = true := by rw [ByteArray.toList_eq, ByteArray.toList_eq, S_list, S_list, he]; simp
        clear hst he
        go_wp2
        refine bodyPost_ret (v := .tuple #[declV d (.slice qm d.mems.length cm), .bool true]) ?hres rfl ?hpost
        case hres => exact res_row rfl rfl rfl (heap_alloc_new w _) Tryz.underlying47 rfl (by kernel_rfl)
        case hpost =>
          rw [← HT.out]
          have kf : Bel w _ := (Bel.refl w).alloc (.cells #[.int .i64 d.kind, .string (S d.name), .string (S d.frm), .slice qm d.mems.length cm] 47)
          exact ⟨qm, cm, rfl, hms.out.bel VMem.stays kf, kf⟩
      · rw [if_neg (by simpa using he)] at hst
        have HT := Lib.hid hst
        have hcmp : ((S d.name).toList == (S n).toList) = false := by rw [ByteArray.toList_eq, ByteArray.toList_eq, S_list, S_list]; simpa using he
        clear hst he
        go_wp2
        go_round
        case rel => exact ⟨k + 1, by omega, by go_num, HT⟩
        case measure => simp [intOf]; omega
    · have hxe : OD = none := by rw [← hx.out, List.drop_eq_nil_of_le (by omega)]; rfl
      have HT := Lib.hid hxe
      clear hxe hx
      go_wp2
      refine bodyPost_ret (v := .tuple #[declV zeroD (.slice none 0 0), .bool false]) ?hres rfl ?hpost
      case hres => exact res_row rfl rfl rfl (heap_alloc_new w _) Tryz.underlying47 rfl (by kernel_rfl)
      case hpost =>
        rw [HT.out]
        have kf : Bel w _ := (Bel.refl w).alloc (.cells #[.int .i64 0, .string ⟨#[]⟩, .string ⟨#[]⟩, .slice none 0 0] 47)
        exact ⟨none, 0, rfl, Sl.nil _ _ _ _ _, kf⟩
set_option maxHeartbeats 4000000 in
set_option maxRecDepth 100000 in
theorem rd_Of (v : Value) (l : List PDecl) (n : Str) (w : World) (hv : Decls w v l) :
    Calls Tryz.prog 32 #[v, .string (S n)] w (FindOut w (ofD l n)) := by
  obtain ⟨q, c, rfl, hl, hcap, hel⟩ := hv
  have V := Lib.hid (show (l.drop 0).find? (fun d => decide (d.frm = n)) = ofD l n from rfl)
  generalize ofD l n = OD at V
  have EL := Lib.hid hel
  clear hel
  have hb0 := heap_alloc_new w (.cells #[.int .i64 0, .string ⟨#[]⟩, .string ⟨#[]⟩, .slice none 0 0] 47)
  have kw : Bel w (w.alloc (.cells #[.int .i64 0, .string ⟨#[]⟩, .string ⟨#[]⟩, .slice none 0 0] 47)) := (Bel.refl w).alloc _
  go_enter Tryz.func32, Tryz.ntmps32
  go_wp2
  go_loop [6] (fun i => ∃ k : Nat, k ≤ l.length ∧ i = .int .i64 k ∧ Hid ((l.drop k).find? (fun d => decide (d.frm = n)) = OD)) (fun i => l.length - (intOf i).toNat)
  case atStart => exact ⟨0, by omega, rfl, V⟩
  case round =>
    obtain ⟨k, hk, rfl, hx⟩ := hrel
    by_cases hlt : k < l.length
    · have hki : (k : Int) < (l.length : Int) := by omega
      have hg := List.getElem?_eq_getElem hlt
      obtain ⟨b, off, rfl, hbs, vs, hce, hvs⟩ := EL.out k _ hg
      obtain ⟨mv, hvs1, hmv⟩ := hvs
      subst hvs1
      have hst := hx.out
      rw [find_drop _ _ _ hlt] at hst
      have hms := Lib.hid hmv
      obtain ⟨qm, cm, rfl, _, _, _⟩ := hmv
      have e0 := kw.some (hce 0 _ rfl)
      rw [Nat.add_zero] at e0
      have e1 := kw.some (hce 1 _ rfl)
      have e2 := kw.some (hce 2 _ rfl)
      have e3 := kw.some (hce 3 _ rfl)
      have e0w := hce 0 _ rfl
      rw [Nat.add_zero] at e0w
      have e1w := hce 1 _ rfl
      have e2w := hce 2 _ rfl
      have e3w := hce 3 _ rfl
      clear hx hg hce
      generalize l[k] = d at *
      by_cases he : d.frm = n
      · rw [if_pos (by simpa using he)] at hst
        have HT := Lib.hid hst
        have hcmp : ((S d.frm).toList == (S n).toList) = true := by rw [ByteArray.toList_eq, ByteArray.toList_eq, S_list, S_list, he]; simp
        clear hst he
        go_wp2
        refine bodyPost_ret (v := .tuple #[declV d (.slice qm d.mems.length cm), .bool true]) ?hres rfl ?hpost
        case hres => exact res_row rfl rfl rfl (heap_alloc_new w _) Tryz.underlying47 rfl (by kernel_rfl)
        case hpost =>
          rw [← HT.out]
          have kf : Bel w _ := (Bel.refl w).alloc (.cells #[.int .i64 d.kind, .string (S d.name), .string (S d.frm), .slice qm d.mems.length cm] 47)
          exact ⟨qm, cm, rfl, hms.out.bel VMem.stays kf, kf⟩
      · rw [if_neg (by simpa using he)] at hst
        have HT := Lib.hid hst
        have hcmp : ((S d.frm).toList == (S n).toList) = false := by rw [ByteArray.toList_eq, ByteArray.toList_eq, S_list, S_list]; simpa using he
        clear hst he
        go_wp2
        go_round
        case rel => exact ⟨k + 1, by omega, by go_num, HT⟩
        case measure => simp [intOf]; omega
    · have hxe : OD = none := by rw [← hx.out, List.drop_eq_nil_of_le (by omega)]; rfl
      have HT := Lib.hid hxe
      clear hxe hx
      go_wp2
      refine bodyPost_ret (v := .tuple #[declV zeroD (.slice none 0 0), .bool false]) ?hres rfl ?hpost
      case hres => exact res_row rfl rfl rfl (heap_alloc_new w _) Tryz.underlying47 rfl (by kernel_rfl)
      case hpost =>
        rw [HT.out]
        have kf : Bel w _ := (Bel.refl w).alloc (.cells #[.int .i64 0, .string ⟨#[]⟩, .string ⟨#[]⟩, .slice none 0 0] 47)
        exact ⟨none, 0, rfl, Sl.nil _ _ _ _ _, kf⟩
set_option maxHeartbeats 4000000 in
set_option maxRecDepth 100000 in
theorem rd_Member (d : PDecl) (q : Option Addr) (c : Nat) (n : Str) (w : World) (hm : Mems w (.slice q d.mems.length c) d.mems) :
    Calls Tryz.prog 34 #[declV d (.slice q d.mems.length c), .string (S n)] w (MemOut w (memD d.mems n)) := by
  obtain ⟨_, _, hq, hl, hcap, hel⟩ := hm
  cases hq
  have V := Lib.hid (show (d.mems.drop 0).find? (fun m => decide (m.name = n)) = memD d.mems n from rfl)
  generalize memD d.mems n = OM at V
  have EL := Lib.hid hel
  clear hel
  have hb0 := Lib.hid (show (((w.alloc (.cells #[.int .i64 d.kind, .string (S d.name), .string (S d.frm), .slice q d.mems.length c] 47)).alloc (.cells #[.string ⟨#[]⟩, .string ⟨#[]⟩, .int .i64 0] 80)).heap[w.heap.size + 1]? = some (.cells #[.string ⟨#[]⟩, .string ⟨#[]⟩, .int .i64 0] 80 (0, 0))) from heap_alloc_at _ _ _ (by simp))
  have c3 : ((w.alloc (.cells #[.int .i64 d.kind, .string (S d.name), .string (S d.frm), .slice q d.mems.length c] 47)).alloc (.cells #[.string ⟨#[]⟩, .string ⟨#[]⟩, .int .i64 0] 80)).cell? ⟨w.heap.size, 3, none⟩ = some (.slice q d.mems.length c) := by
    rw [World.cell?_alloc_past _ _ _ (by simp), World.cell?_alloc_at _ _ _ _ rfl]
    rfl
  have K0 := Lib.hid (show Bel w ((w.alloc (.cells #[.int .i64 d.kind, .string (S d.name), .string (S d.frm), .slice q d.mems.length c] 47)).alloc (.cells #[.string ⟨#[]⟩, .string ⟨#[]⟩, .int .i64 0] 80)) from ((Bel.refl w).alloc (.cells #[.int .i64 d.kind, .string (S d.name), .string (S d.frm), .slice q d.mems.length c] 47)).alloc (.cells #[.string ⟨#[]⟩, .string ⟨#[]⟩, .int .i64 0] 80))
  unfold declV
  go_enter Tryz.func34, Tryz.ntmps34
  go_wp2
  go_loop [6] (fun i => ∃ k : Nat, k ≤ d.mems.length ∧ i = .int .i64 k ∧ Hid ((d.mems.drop k).find? (fun m => decide (m.name = n)) = OM)) (fun i => d.mems.length - (intOf i).toNat)
  case atStart => exact ⟨0, by omega, rfl, V⟩
  case round =>
    obtain ⟨k, hk, rfl, hx⟩ := hrel
    have kr : Bel w ((w.alloc (.cells #[.int .i64 d.kind, .string (S d.name), .string (S d.frm), .slice q d.mems.length c] 47)).alloc (.cells #[.string ⟨#[]⟩, .string ⟨#[]⟩, .int .i64 0] 80)) := K0.out
    skip
    skip
    by_cases hlt : k < d.mems.length
    · have hki : (k : Int) < (d.mems.length : Int) := by omega
      have hg := List.getElem?_eq_getElem hlt
      obtain ⟨b, off, rfl, hbs, vs, hce, hvs⟩ := EL.out k _ hg
      have hvs' : vs = memC d.mems[k] := hvs
      subst hvs'
      have hst := hx.out
      rw [find_drop _ _ _ hlt] at hst
      have e0 : ((w.alloc (.cells #[.int .i64 d.kind, .string (S d.name), .string (S d.frm), .slice (some ⟨b, off, none⟩) d.mems.length c] 47)).alloc (.cells #[.string ⟨#[]⟩, .string ⟨#[]⟩, .int .i64 0] 80)).cell? ⟨b, off + k * 3, none⟩ = some (.string (S d.mems[k].name)) := kr.some (by have := hce 0 (.string (S d.mems[k].name)) rfl; rwa [Nat.add_zero] at this)
      have e1 : ((w.alloc (.cells #[.int .i64 d.kind, .string (S d.name), .string (S d.frm), .slice (some ⟨b, off, none⟩) d.mems.length c] 47)).alloc (.cells #[.string ⟨#[]⟩, .string ⟨#[]⟩, .int .i64 0] 80)).cell? ⟨b, off + k * 3 + 1, none⟩ = some (.string (S d.mems[k].ty)) := kr.some (hce 1 _ rfl)
      have e2 : ((w.alloc (.cells #[.int .i64 d.kind, .string (S d.name), .string (S d.frm), .slice (some ⟨b, off, none⟩) d.mems.length c] 47)).alloc (.cells #[.string ⟨#[]⟩, .string ⟨#[]⟩, .int .i64 0] 80)).cell? ⟨b, off + k * 3 + 2, none⟩ = some (.int .i64 d.mems[k].num) := kr.some (hce 2 _ rfl)
      have hbl : b < w.heap.size := hbs
      clear hx hg hce hvs
      generalize d.mems[k] = m at *
      by_cases he : m.name = n
      · rw [if_pos (by simpa using he)] at hst
        have HT := Lib.hid hst
        have hcmp : ((S m.name).toList == (S n).toList) = true := by rw [ByteArray.toList_eq, ByteArray.toList_eq, S_list, S_list, he]; simp
        clear hst he
        have hbk := hb0.out
        skip
        go_wp2
        refine bodyPost_ret (v := .tuple #[memV m, .bool true]) ?hres rfl ?hpost
        case hres => exact res_row rfl rfl rfl (heap_alloc_at _ _ _ (by simp)) Tryz.underlying80 rfl (by kernel_rfl)
        case hpost =>
          rw [← HT.out]
          exact ⟨rfl, ((Bel.refl w).alloc _).alloc _⟩
      · rw [if_neg (by simpa using he)] at hst
        have HT := Lib.hid hst
        have hcmp : ((S m.name).toList == (S n).toList) = false := by rw [ByteArray.toList_eq, ByteArray.toList_eq, S_list, S_list]; simpa using he
        clear hst he
        go_wp2
        go_round
        case rel => exact ⟨k + 1, by omega, by go_num, HT⟩
        case measure => simp [intOf]; omega
    · have hxe : OM = none := by rw [← hx.out, List.drop_eq_nil_of_le (by omega)]; rfl
      have HT := Lib.hid hxe
      clear hxe hx
      have hbk := hb0.out
      skip
      go_wp2
      refine bodyPost_ret (v := .tuple #[memV zeroM, .bool false]) ?hres rfl ?hpost
      case hres => exact res_row rfl rfl rfl (heap_alloc_at _ _ _ (by simp)) Tryz.underlying80 rfl (by kernel_rfl)
      case hpost =>
        rw [HT.out]
        exact ⟨rfl, ((Bel.refl w).alloc _).alloc _⟩
end Go.Proofs.YtfoaaglbpmmhiaaGreatDoor

/- Layer 35 walked: looking up. Printed by genfind2.py. -/
namespace Go.Proofs.YtfoaaglbpmmhiaaGreatDoor
open Go.RowKit Ck Md
set_option linter.unusedVariables false
set_option linter.unusedSimpArgs false
set_option maxHeartbeats 4000000 in
set_option maxRecDepth 100000 in
theorem md_Member (d : PDecl) (q : Option Addr) (c : Nat) (n : Str) (w : World) (hm : Mems w (.slice q d.mems.length c) d.mems) :
    Calls Tryz.prog 33 #[declV d (.slice q d.mems.length c), .string (S n)] w (MemOut w (memD d.mems n)) := by
  obtain ⟨_, _, hq, hl, hcap, hel⟩ := hm
  cases hq
  have V := Lib.hid (show (d.mems.drop 0).find? (fun m => decide (m.name = n)) = memD d.mems n from rfl)
  generalize memD d.mems n = OM at V
  have EL := Lib.hid hel
  clear hel
  have hb0 := Lib.hid (show (((w.alloc (.cells #[.int .i64 d.kind, .string (S d.name), .string (S d.frm), .slice q d.mems.length c] 47)).alloc (.cells #[.string ⟨#[]⟩, .string ⟨#[]⟩, .int .i64 0] 80)).heap[w.heap.size + 1]? = some (.cells #[.string ⟨#[]⟩, .string ⟨#[]⟩, .int .i64 0] 80 (0, 0))) from heap_alloc_at _ _ _ (by simp))
  have c3 : ((w.alloc (.cells #[.int .i64 d.kind, .string (S d.name), .string (S d.frm), .slice q d.mems.length c] 47)).alloc (.cells #[.string ⟨#[]⟩, .string ⟨#[]⟩, .int .i64 0] 80)).cell? ⟨w.heap.size, 3, none⟩ = some (.slice q d.mems.length c) := by
    rw [World.cell?_alloc_past _ _ _ (by simp), World.cell?_alloc_at _ _ _ _ rfl]
    rfl
  have K0 := Lib.hid (show Bel w ((w.alloc (.cells #[.int .i64 d.kind, .string (S d.name), .string (S d.frm), .slice q d.mems.length c] 47)).alloc (.cells #[.string ⟨#[]⟩, .string ⟨#[]⟩, .int .i64 0] 80)) from ((Bel.refl w).alloc (.cells #[.int .i64 d.kind, .string (S d.name), .string (S d.frm), .slice q d.mems.length c] 47)).alloc (.cells #[.string ⟨#[]⟩, .string ⟨#[]⟩, .int .i64 0] 80))
  unfold declV
  go_enter Tryz.func33, Tryz.ntmps33
  go_wp2
  go_loopw [11] (fun i wr => ∃ k : Nat, k ≤ d.mems.length ∧ i = .int .i64 k ∧ Bel ((w.alloc (.cells #[.int .i64 d.kind, .string (S d.name), .string (S d.frm), .slice q d.mems.length c] 47)).alloc (.cells #[.string ⟨#[]⟩, .string ⟨#[]⟩, .int .i64 0] 80)) wr ∧ Hid ((d.mems.drop k).find? (fun m => decide (m.name = n)) = OM)) (fun i _ => d.mems.length - (intOf i).toNat)
  case atStart => exact ⟨0, by omega, rfl, Bel.refl _, V⟩
  case round =>
    obtain ⟨k, hk, rfl, hbw, hx⟩ := hrel
    have kr : Bel w wr := Bel.of K0.out hbw.out
    have hlw : w.heap.size + 1 < wr.heap.size := by have := hbw.size; simp at this; omega
    have hlw0 : w.heap.size < wr.heap.size := by omega
    by_cases hlt : k < d.mems.length
    · have hki : (k : Int) < (d.mems.length : Int) := by omega
      have hg := List.getElem?_eq_getElem hlt
      obtain ⟨b, off, rfl, hbs, vs, hce, hvs⟩ := EL.out k _ hg
      have hvs' : vs = memC d.mems[k] := hvs
      subst hvs'
      have hst := hx.out
      rw [find_drop _ _ _ hlt] at hst
      have e0 : wr.cell? ⟨b, off + k * 3, none⟩ = some (.string (S d.mems[k].name)) := kr.some (by have := hce 0 (.string (S d.mems[k].name)) rfl; rwa [Nat.add_zero] at this)
      have e1 : wr.cell? ⟨b, off + k * 3 + 1, none⟩ = some (.string (S d.mems[k].ty)) := kr.some (hce 1 _ rfl)
      have e2 : wr.cell? ⟨b, off + k * 3 + 2, none⟩ = some (.int .i64 d.mems[k].num) := kr.some (hce 2 _ rfl)
      have hbl : b < w.heap.size := hbs
      clear hx hg hce hvs
      generalize d.mems[k] = m at *
      by_cases he : m.name = n
      · rw [if_pos (by simpa using he)] at hst
        have HT := Lib.hid hst
        have hcmp : ((S m.name).toList == (S n).toList) = true := by rw [ByteArray.toList_eq, ByteArray.toList_eq, S_list, S_list, he]; simp
        clear hst he
        have hbk := block_of_below hbw hb0.out
        have x0 : wr.cell? ⟨(w.heap.size + 1), 0, none⟩ = some (.string ⟨#[]⟩) := Lib.cell_of_heap hbk 0
        have x1 : wr.cell? ⟨(w.heap.size + 1), 1, none⟩ = some (.string ⟨#[]⟩) := Lib.cell_of_heap hbk 1
        have x2 : wr.cell? ⟨(w.heap.size + 1), 2, none⟩ = some (.int .i64 0) := Lib.cell_of_heap hbk 2
        have fz : ∀ o, wr.frozen? ⟨(w.heap.size + 1), o, none⟩ = false := fun o => Lib.frozen_of_heap hbk o
        go_wp2
        refine bodyPost_ret (v := .tuple #[memV m, .bool true]) ?hres rfl ?hpost
        case hres => exact res_row rfl rfl rfl (block_of_below ((Bel.refl _).alloc _) (set3M hbk _ _ _)) Tryz.underlying80 rfl (by kernel_rfl)
        case hpost =>
          rw [← HT.out]
          exact ⟨rfl, (bel_set (bel_set (bel_set kr (Nat.le_succ _)) (Nat.le_succ _)) (Nat.le_succ _)).alloc _⟩
      · rw [if_neg (by simpa using he)] at hst
        have HT := Lib.hid hst
        have hcmp : ((S m.name).toList == (S n).toList) = false := by rw [ByteArray.toList_eq, ByteArray.toList_eq, S_list, S_list]; simpa using he
        clear hst he
        go_wp2
        go_roundw
        case rel => exact ⟨k + 1, by omega, by go_num, hbw.alloc _, HT⟩
        case measure => simp [intOf]; omega
    · have hxe : OM = none := by rw [← hx.out, List.drop_eq_nil_of_le (by omega)]; rfl
      have HT := Lib.hid hxe
      clear hxe hx
      have hbk := block_of_below hbw hb0.out
      have x0 : wr.cell? ⟨(w.heap.size + 1), 0, none⟩ = some (.string ⟨#[]⟩) := Lib.cell_of_heap hbk 0
      have x1 : wr.cell? ⟨(w.heap.size + 1), 1, none⟩ = some (.string ⟨#[]⟩) := Lib.cell_of_heap hbk 1
      have x2 : wr.cell? ⟨(w.heap.size + 1), 2, none⟩ = some (.int .i64 0) := Lib.cell_of_heap hbk 2
      have fz : ∀ o, wr.frozen? ⟨(w.heap.size + 1), o, none⟩ = false := fun o => Lib.frozen_of_heap hbk o
      go_wp2
      refine bodyPost_ret (v := .tuple #[memV zeroM, .bool false]) ?hres rfl ?hpost
      case hres => exact res_row rfl rfl rfl (set3M hbk _ _ _) Tryz.underlying80 rfl (by kernel_rfl)
      case hpost =>
        rw [HT.out]
        exact ⟨rfl, bel_set (bel_set (bel_set kr (Nat.le_succ _)) (Nat.le_succ _)) (Nat.le_succ _)⟩
end Go.Proofs.YtfoaaglbpmmhiaaGreatDoor

/- The reference's layer 35 walked: equal declarations are found equal. Printed by gensame.py. -/
namespace Go.Proofs.YtfoaaglbpmmhiaaGreatDoor
open Go.RowKit Ck Md
set_option linter.unusedVariables false
set_option linter.unusedSimpArgs false
set_option maxHeartbeats 4000000 in
set_option maxRecDepth 100000 in
theorem rd_SameDecl (d : PDecl) (qa qb : Option Addr) (ca cb : Nat) (w : World) (ha : Mems w (.slice qa d.mems.length ca) d.mems) (hb : Mems w (.slice qb d.mems.length cb) d.mems) :
    Calls Tryz.prog 29 #[declV d (.slice qa d.mems.length ca), declV d (.slice qb d.mems.length cb)] w fun e w' => e = .returned (.bool true) ∧ Bel w w' := by
  obtain ⟨_, _, hq, hl, hcap, hela⟩ := ha
  cases hq
  obtain ⟨_, _, hq, _, hcapb, helb⟩ := hb
  cases hq
  have EA := Lib.hid hela
  have EB := Lib.hid helb
  clear hela helb
  have S2 := Lib.hid (show ST w [] [⟨w.heap.size + 1, #[.int .i64 d.kind, .string (S d.name), .string (S d.frm), .slice qb d.mems.length cb], 47⟩, ⟨w.heap.size, #[.int .i64 d.kind, .string (S d.name), .string (S d.frm), .slice qa d.mems.length ca], 47⟩] ((w.alloc (.cells #[.int .i64 d.kind, .string (S d.name), .string (S d.frm), .slice qa d.mems.length ca] 47)).alloc (.cells #[.int .i64 d.kind, .string (S d.name), .string (S d.frm), .slice qb d.mems.length cb] 47)) from by
    have := ((ST.start w).addbox #[.int .i64 d.kind, .string (S d.name), .string (S d.frm), .slice qa d.mems.length ca] 47).addbox #[.int .i64 d.kind, .string (S d.name), .string (S d.frm), .slice qb d.mems.length cb] 47
    rw [World.size_alloc] at this
    exact this)
  unfold declV
  go_enter Tryz.func29, Tryz.ntmps29
  go_upto_region 2 with (fail)
  go_wp2
  go_loopw [5, 6] (fun o i wr => ∃ k : Nat, k ≤ d.mems.length ∧ o = .bool true ∧ i = .int .i64 k ∧ Hid (ST w [] [⟨w.heap.size + 1, #[.int .i64 d.kind, .string (S d.name), .string (S d.frm), .slice qb d.mems.length cb], 47⟩, ⟨w.heap.size, #[.int .i64 d.kind, .string (S d.name), .string (S d.frm), .slice qa d.mems.length ca], 47⟩] wr)) (fun _ i _ => d.mems.length - (intOf i).toNat)
  case atStart => exact ⟨0, by omega, by simp, rfl, S2⟩
  case round =>
    clear S2
    obtain ⟨k, hk, rfl, rfl, hST⟩ := hrel
    have xa : wr.cell? ⟨w.heap.size, 3, none⟩ = some (.slice qa d.mems.length ca) := hST.out.cell 1 rfl 3
    by_cases hlt : k < d.mems.length
    · have hki : (k : Int) < (d.mems.length : Int) := by omega
      have hg := List.getElem?_eq_getElem hlt
      obtain ⟨b1, o1, rfl, hs1, vs1, hc1, hv1⟩ := EA.out k _ hg
      obtain ⟨b2, o2, rfl, hs2, vs2, hc2, hv2⟩ := EB.out k _ hg
      have hv1' : vs1 = memC d.mems[k] := hv1
      have hv2' : vs2 = memC d.mems[k] := hv2
      subst hv1' hv2'
      generalize d.mems[k] = m at *
      go_upto_region 5 with (fail)
      obtain ⟨wd, hwd⟩ : ∃ wd, wd = wr.drew := ⟨_, rfl⟩
      have HD := Lib.hid (show ST w _ _ wd by rw [hwd]; exact hST.out.belw (Bel.refl _).drew)
      have HWD := Lib.hid hwd
      clear hwd hST xa
      have kd := HD.out.bel
      have xa : wd.cell? ⟨w.heap.size, 3, none⟩ = some (.slice (some ⟨b1, o1, none⟩) d.mems.length ca) := HD.out.cell 1 rfl 3
      have xb : wd.cell? ⟨w.heap.size + 1, 3, none⟩ = some (.slice (some ⟨b2, o2, none⟩) d.mems.length cb) := HD.out.cell 0 rfl 3
      have e0 : wd.cell? ⟨b1, o1 + k * 3, none⟩ = some (.string (S m.name)) := kd.some (by have := hc1 0 (.string (S m.name)) rfl; rwa [Nat.add_zero] at this)
      have e1 : wd.cell? ⟨b1, o1 + k * 3 + 1, none⟩ = some (.string (S m.ty)) := kd.some (hc1 1 _ rfl)
      have e2 : wd.cell? ⟨b1, o1 + k * 3 + 2, none⟩ = some (.int .i64 m.num) := kd.some (hc1 2 _ rfl)
      have f0 : wd.cell? ⟨b2, o2 + k * 3, none⟩ = some (.string (S m.name)) := kd.some (by have := hc2 0 (.string (S m.name)) rfl; rwa [Nat.add_zero] at this)
      have f1 : wd.cell? ⟨b2, o2 + k * 3 + 1, none⟩ = some (.string (S m.ty)) := kd.some (hc2 1 _ rfl)
      have f2 : wd.cell? ⟨b2, o2 + k * 3 + 2, none⟩ = some (.int .i64 m.num) := kd.some (hc2 2 _ rfl)
      refine rg_tail 10 (by kernel_rfl) (by kernel_rfl) HWD.out ?_
      (simp only [List.take_succ_cons, List.take_zero, List.drop_succ_cons, List.drop_zero]); (repeat (first | ((with_reducible refine wpStill_step (fun K hK => ?_)); go_simp; (with_reducible refine hK _ ?_); clear hK K) | ((with_reducible refine rg_skip ?_ ?_); (with_unfolding_all rfl)))); (with_reducible refine wpStill_nil ?_)
      go_wp2
      go_roundw
      case rel => exact ⟨k + 1, by omega, by simp, by go_num, HD⟩
      case measure => simp [intOf]; omega
    · have hki : ¬ (k : Int) < (d.mems.length : Int) := by omega
      go_wp2
      go_ret
      exact ⟨rfl, hST.out.bel⟩
end Go.Proofs.YtfoaaglbpmmhiaaGreatDoor

/- Law ModelFinds walked. Printed by gensame.py. -/
namespace Go.Proofs.YtfoaaglbpmmhiaaGreatDoor
open Go.RowKit Ck Md
set_option linter.unusedVariables false
set_option linter.unusedSimpArgs false
set_option maxHeartbeats 4000000 in
set_option maxRecDepth 100000 in
theorem law_Finds (q : Option Addr) (c : Nat) (l : List PDecl) (n : Str) (w : World) (hv : Decls w (.slice q l.length c) l) (hL : ∀ d ∈ l, d.mems.length ≤ 3518437208883) (hP : PT w) (hM : ML w) :
    Calls Tryz.prog 9 #[.slice q l.length c, .string (S n)] w fun e w' => e = .returned (.bool true) ∧ Bel w w' := by
  have CF := Lib.hid (md_Find _ l n w hv hL)
  have CG := Lib.hid (fun W (k : Bel w W) => rd_Find _ l n W (hv.bel VDecl.stays k))
  have CO := Lib.hid (fun W (k : Bel w W) => md_Of _ l n W (hv.bel VDecl.stays k) hL)
  have CP := Lib.hid (fun W (k : Bel w W) => rd_Of _ l n W (hv.bel VDecl.stays k))
  have CA := Lib.hid (fun W (k : Bel w W) => law_awake W (hP.bel k) (hM.below k.out))
  obtain ⟨_, _, hq, hl, hcap, hel⟩ := hv
  cases hq
  have EL := Lib.hid hel
  clear hP hM hel hL
  generalize hFD : findD l n = FD at CF CG
  generalize hOD : ofD l n = OD at CO CP
  unfold FindOut at CF CG CO CP
  generalize FD.getD zeroD = D1 at CF CG
  generalize OD.getD zeroD = D2 at CO CP
  generalize FD.isSome = B1 at CF CG
  generalize OD.isSome = B2 at CO CP
  clear hFD hOD
  unfold declV at CF CG CO CP
  go_enter Tryz.func9, Tryz.ntmps9
  go_upto_region 2 with (go_at_call 28; (with_reducible refine CF.out.mono ?_); rintro e w1 ⟨p1, c1, rfl, m1, k1⟩)
  generalize hW : World.alloc w1 _ = V1
  have hb1 : V1.heap[w1.heap.size]? = some (.cells #[.int .i64 D1.kind, .string (S D1.name), .string (S D1.frm), .slice p1 D1.mems.length c1] 47 (0, 0)) := by rw [← hW]; exact heap_alloc_new _ _
  have j1 : Bel w1 V1 := by rw [← hW]; exact (Bel.refl _).alloc _
  have kk1 : Bel w V1 := Bel.of k1 j1.out
  have M1 := Lib.hid (m1.bel VMem.stays j1)
  clear hW m1 CF k1 j1
  generalize w1.heap.size = g1 at hb1 ⊢
  go_upto_region 3 with (go_at_call 31; (with_reducible refine (CG.out _ kk1).mono ?_); rintro e w2 ⟨p2, c2, rfl, m2, k2⟩)
  generalize hW : World.alloc w2 _ = V2
  have hb2 : V2.heap[w2.heap.size]? = some (.cells #[.int .i64 D1.kind, .string (S D1.name), .string (S D1.frm), .slice p2 D1.mems.length c2] 47 (0, 0)) := by rw [← hW]; exact heap_alloc_new _ _
  have j2 : Bel w2 V2 := by rw [← hW]; exact (Bel.refl _).alloc _
  have j12 : Bel V1 V2 := Bel.of k2 j2.out
  have kk2 : Bel w V2 := Bel.of kk1 j12.out
  have M2 := Lib.hid (m2.bel VMem.stays j2)
  have M1b := Lib.hid (M1.out.bel VMem.stays j12)
  have hb1b := block_of_below j12 hb1
  clear hW m2 CG k2 j2 M1 hb1 j12
  generalize w2.heap.size = g2 at hb2 ⊢
  go_upto_region 4 with (go_at_call 22; (with_reducible refine (CO.out _ kk2).mono ?_); rintro e w3 ⟨p3, c3, rfl, m3, k3⟩)
  generalize hW : World.alloc w3 _ = V3
  have hb3 : V3.heap[w3.heap.size]? = some (.cells #[.int .i64 D2.kind, .string (S D2.name), .string (S D2.frm), .slice p3 D2.mems.length c3] 47 (0, 0)) := by rw [← hW]; exact heap_alloc_new _ _
  have j3 : Bel w3 V3 := by rw [← hW]; exact (Bel.refl _).alloc _
  have j23 : Bel V2 V3 := Bel.of k3 j3.out
  have kk3 : Bel w V3 := Bel.of kk2 j23.out
  have M3 := Lib.hid (m3.bel VMem.stays j3)
  have M1c := Lib.hid (M1b.out.bel VMem.stays j23)
  have M2c := Lib.hid (M2.out.bel VMem.stays j23)
  have hb1c := block_of_below j23 hb1b
  have hb2c := block_of_below j23 hb2
  clear hW m3 CO k3 j3 M1b M2 hb1b hb2 j23
  generalize w3.heap.size = g3 at hb3 ⊢
  go_upto_region 5 with (go_at_call 32; (with_reducible refine (CP.out _ kk3).mono ?_); rintro e w4 ⟨p4, c4, rfl, m4, k4⟩)
  generalize hW : World.alloc w4 _ = V4
  have hb4 : V4.heap[w4.heap.size]? = some (.cells #[.int .i64 D2.kind, .string (S D2.name), .string (S D2.frm), .slice p4 D2.mems.length c4] 47 (0, 0)) := by rw [← hW]; exact heap_alloc_new _ _
  have j4 : Bel w4 V4 := by rw [← hW]; exact (Bel.refl _).alloc _
  have j34 : Bel V3 V4 := Bel.of k4 j4.out
  have kk4 : Bel w V4 := Bel.of kk3 j34.out
  have M4 := Lib.hid (m4.bel VMem.stays j4)
  have M1d := Lib.hid (M1c.out.bel VMem.stays j34)
  have M2d := Lib.hid (M2c.out.bel VMem.stays j34)
  have M3d := Lib.hid (M3.out.bel VMem.stays j34)
  have hb1d := block_of_below j34 hb1c
  have hb2d := block_of_below j34 hb2c
  have hb3d := block_of_below j34 hb3
  clear hW m4 CP k4 j4 M1c M2c M3 hb1c hb2c hb3 j34
  generalize w4.heap.size = g4 at hb4 ⊢
  have z10 : V4.cell? ⟨g1, 0, none⟩ = some (.int .i64 D1.kind) := by rw [Lib.cell_of_heap hb1d]; rfl
  have z11 : V4.cell? ⟨g1, 1, none⟩ = some (.string (S D1.name)) := by rw [Lib.cell_of_heap hb1d]; rfl
  have z12 : V4.cell? ⟨g1, 2, none⟩ = some (.string (S D1.frm)) := by rw [Lib.cell_of_heap hb1d]; rfl
  have z13 : V4.cell? ⟨g1, 3, none⟩ = some (.slice p1 D1.mems.length c1) := by rw [Lib.cell_of_heap hb1d]; rfl
  have z20 : V4.cell? ⟨g2, 0, none⟩ = some (.int .i64 D1.kind) := by rw [Lib.cell_of_heap hb2d]; rfl
  have z21 : V4.cell? ⟨g2, 1, none⟩ = some (.string (S D1.name)) := by rw [Lib.cell_of_heap hb2d]; rfl
  have z22 : V4.cell? ⟨g2, 2, none⟩ = some (.string (S D1.frm)) := by rw [Lib.cell_of_heap hb2d]; rfl
  have z23 : V4.cell? ⟨g2, 3, none⟩ = some (.slice p2 D1.mems.length c2) := by rw [Lib.cell_of_heap hb2d]; rfl
  have z30 : V4.cell? ⟨g3, 0, none⟩ = some (.int .i64 D2.kind) := by rw [Lib.cell_of_heap hb3d]; rfl
  have z31 : V4.cell? ⟨g3, 1, none⟩ = some (.string (S D2.name)) := by rw [Lib.cell_of_heap hb3d]; rfl
  have z32 : V4.cell? ⟨g3, 2, none⟩ = some (.string (S D2.frm)) := by rw [Lib.cell_of_heap hb3d]; rfl
  have z33 : V4.cell? ⟨g3, 3, none⟩ = some (.slice p3 D2.mems.length c3) := by rw [Lib.cell_of_heap hb3d]; rfl
  have z40 : V4.cell? ⟨g4, 0, none⟩ = some (.int .i64 D2.kind) := by rw [Lib.cell_of_heap hb4]; rfl
  have z41 : V4.cell? ⟨g4, 1, none⟩ = some (.string (S D2.name)) := by rw [Lib.cell_of_heap hb4]; rfl
  have z42 : V4.cell? ⟨g4, 2, none⟩ = some (.string (S D2.frm)) := by rw [Lib.cell_of_heap hb4]; rfl
  have z43 : V4.cell? ⟨g4, 3, none⟩ = some (.slice p4 D2.mems.length c4) := by rw [Lib.cell_of_heap hb4]; rfl
  have SD1 := Lib.hid (rd_SameDecl D1 p1 p2 c1 c2 V4 M1d.out M2d.out)
  have SD2 := Lib.hid (fun W (k : Bel V4 W) => rd_SameDecl D2 p3 p4 c3 c4 W (M3d.out.bel VMem.stays k) (M4.out.bel VMem.stays k))
  unfold declV at SD1 SD2
  clear hb1d hb2d hb3d hb4 M1d M2d M3d M4
  have KZ := Lib.hid (fun (W : World) (k : Bel V4 W) => show W.cell? ⟨g3, 0, none⟩ = some (.int .i64 D2.kind) ∧ W.cell? ⟨g3, 1, none⟩ = some (.string (S D2.name)) ∧ W.cell? ⟨g3, 2, none⟩ = some (.string (S D2.frm)) ∧ W.cell? ⟨g3, 3, none⟩ = some (.slice p3 D2.mems.length c3) ∧ W.cell? ⟨g4, 0, none⟩ = some (.int .i64 D2.kind) ∧ W.cell? ⟨g4, 1, none⟩ = some (.string (S D2.name)) ∧ W.cell? ⟨g4, 2, none⟩ = some (.string (S D2.frm)) ∧ W.cell? ⟨g4, 3, none⟩ = some (.slice p4 D2.mems.length c4) from ⟨k.some z30, k.some z31, k.some z32, k.some z33, k.some z40, k.some z41, k.some z42, k.some z43⟩)
  go_wp2_with (first
    | (go_at_call 29; (with_reducible refine SD1.out.mono ?_); rintro e w5 ⟨rfl, k5⟩; obtain ⟨x1, x2, x3, x4, x5, x6, x7, x8⟩ := KZ.out w5 k5; clear SD1)
    | (go_at_call 29; (with_reducible refine (SD2.out _ k5).mono ?_); rintro e w6 ⟨rfl, k6⟩; have kk6 : Bel w w6 := Bel.of kk4 (Bel.of k5 k6.out).out))
  clear KZ SD2 k5 k6 x1 x2 x3 x4 x5 x6 x7 x8 z10 z11 z12 z13 z20 z21 z22 z23 z30 z31 z32 z33 z40 z41 z42 z43
  go_loopw [13] (fun i wr => ∃ k : Nat, k ≤ l.length ∧ i = .int .i64 k ∧ Bel w wr) (fun i _ => l.length - (intOf i).toNat)
  case atStart => exact ⟨0, by omega, rfl, kk6⟩
  case round =>
    clear kk6
    obtain ⟨k, hk, rfl, hb⟩ := hrel
    by_cases hlt : k < l.length
    · have hki : (k : Int) < (l.length : Int) := by omega
      have hg := List.getElem?_eq_getElem hlt
      obtain ⟨b, off, rfl, hbs, vs, hce, hvs⟩ := EL.out k _ hg
      obtain ⟨mv, hvs1, hmv⟩ := hvs
      subst hvs1
      have hms := Lib.hid hmv
      obtain ⟨qm, cm, rfl, _, _, _⟩ := hmv
      generalize l[k] = d at *
      have CM := Lib.hid (fun W (kk : Bel w W) => md_Member d qm cm n W (hms.out.bel VMem.stays kk))
      have CN := Lib.hid (fun W (kk : Bel w W) => rd_Member d qm cm n W (hms.out.bel VMem.stays kk))
      unfold MemOut declV memV at CM CN
      generalize (memD d.mems n).getD zeroM = X at CM CN
      generalize (memD d.mems n).isSome = BX at CM CN
      have KE := Lib.hid (fun (W : World) (kk : Bel w W) => show W.cell? ⟨b, off + k * 4, none⟩ = some (.int .i64 d.kind) ∧ W.cell? ⟨b, off + k * 4 + 1, none⟩ = some (.string (S d.name)) ∧ W.cell? ⟨b, off + k * 4 + 2, none⟩ = some (.string (S d.frm)) ∧ W.cell? ⟨b, off + k * 4 + 3, none⟩ = some (.slice qm d.mems.length cm) from ⟨kk.some (by have := hce 0 (.int .i64 d.kind) rfl; rwa [Nat.add_zero] at this), kk.some (hce 1 _ rfl), kk.some (hce 2 _ rfl), kk.some (hce 3 _ rfl)⟩)
      obtain ⟨y0, y1, y2, y3⟩ := KE.out _ hb
      clear hg hce hms
      go_upto_region 11 with (go_at_call 33; (with_reducible refine (CM.out _ hb).mono ?_); rintro e w1 ⟨rfl, k1⟩)
      clear y0 y1 y2 y3
      generalize hW : World.alloc w1 _ = V1
      have hb1 : V1.heap[w1.heap.size]? = some (.cells #[.string (S X.name), .string (S X.ty), .int .i64 X.num] 80 (0, 0)) := by rw [← hW]; exact heap_alloc_new _ _
      have kk1 : Bel w V1 := by rw [← hW]; exact (Bel.of hb k1.out).alloc _
      clear hW k1 CM
      generalize w1.heap.size = h1 at hb1 ⊢
      obtain ⟨y0, y1, y2, y3⟩ := KE.out _ kk1
      go_upto_region 12 with (go_at_call 34; (with_reducible refine (CN.out _ kk1).mono ?_); rintro e w2 ⟨rfl, k2⟩)
      clear y0 y1 y2 y3
      generalize hW : World.alloc w2 _ = V2
      have hb2 : V2.heap[w2.heap.size]? = some (.cells #[.string (S X.name), .string (S X.ty), .int .i64 X.num] 80 (0, 0)) := by rw [← hW]; exact heap_alloc_new _ _
      have j2 : Bel V1 V2 := by rw [← hW]; exact k2.alloc _
      have kk2 : Bel w V2 := Bel.of kk1 j2.out
      have hb1b := block_of_below j2 hb1
      clear hW k2 CN hb1 j2
      generalize w2.heap.size = h2 at hb2 ⊢
      have y0 : V2.cell? ⟨h1, 0, none⟩ = some (.string (S X.name)) := by rw [Lib.cell_of_heap hb1b]; rfl
      have y1 : V2.cell? ⟨h1, 1, none⟩ = some (.string (S X.ty)) := by rw [Lib.cell_of_heap hb1b]; rfl
      have y2 : V2.cell? ⟨h1, 2, none⟩ = some (.int .i64 X.num) := by rw [Lib.cell_of_heap hb1b]; rfl
      have y3 : V2.cell? ⟨h2, 0, none⟩ = some (.string (S X.name)) := by rw [Lib.cell_of_heap hb2]; rfl
      have y4 : V2.cell? ⟨h2, 1, none⟩ = some (.string (S X.ty)) := by rw [Lib.cell_of_heap hb2]; rfl
      have y5 : V2.cell? ⟨h2, 2, none⟩ = some (.int .i64 X.num) := by rw [Lib.cell_of_heap hb2]; rfl
      clear hb1b hb2
      go_wp2
      go_roundw
      case rel => exact ⟨k + 1, by omega, by go_num, kk2⟩
      case measure => simp [intOf]; omega
    · have hki : ¬ (k : Int) < (l.length : Int) := by omega
      go_wp2_with (go_at_call 14; (with_reducible refine (CA.out _ hb).mono ?_); rintro e w2 ⟨rfl, k2⟩)
      go_ret
      exact ⟨rfl, Bel.of hb k2.out⟩
end Go.Proofs.YtfoaaglbpmmhiaaGreatDoor
