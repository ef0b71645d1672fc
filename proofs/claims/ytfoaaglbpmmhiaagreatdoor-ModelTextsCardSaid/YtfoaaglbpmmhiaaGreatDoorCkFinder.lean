/- Layer 12 walked: the finder and its rule. -/
import Derived.Test.YtfoaaglbpmmhiaaGreatDoorKitH
import Derived.Deep.RegionLaw
import Derived.Deep.AppendLies
namespace Go.Proofs.YtfoaaglbpmmhiaaGreatDoor
open Go.RowKit Ck
set_option linter.unusedVariables false
set_option linter.unusedSimpArgs false

theorem prob_info : (Tryz.prog.info? 164).map (fun i => (i.zero, i.size, i.bytes)) = some (some (.agg #[.string ByteArray.empty, .int .i64 0, .int .i64 0]), 3, 32) := by kernel_rfl
/-- a finder in block f: the definition, the number, and a row of its own (from block B on) that holds the problems so far -/
def Finder (B f : Nat) (d : Str) (num : Int) (ps : List PProb) (w : World) : Prop :=
  B ≤ f ∧ ∃ v, w.heap[f]? = some (.cells #[.string (S d), .int .i64 num, v] 141 (0, 0)) ∧ w.ownsRow B 164 3 v ps.length (ps.flatMap probC) ∧ v.ownBlock ≠ some f
theorem probs_cells (ps : List PProb) (d : Str) (num e : Int) : (ps ++ [(⟨d, num, e⟩ : PProb)]).flatMap probC = ps.flatMap probC ++ [.string (S d), .int .i64 num, .int .i64 e] := by
  simp [probC]
theorem grown_setCell (w : World) (b i : Nat) (v : Value) : w.grownBy (w.setCell ⟨b, i, none⟩ v) (some b) :=
  ⟨rfl, rfl, rfl, by simp [World.setCell], fun k _ hk => Below.heap_setCell _ _ _ _ (fun e => hk (by rw [e]))⟩
theorem row_kind {w : World} {B : Nat} {e : TypeId} {size : Nat} {v : Value} {n : Nat} {xs : List Value} (h : w.ownsRow B e size v n xs) : ∀ g, v.ownBlock = some g → ∃ c fz, w.heap[g]? = some (.cells c e fz) := fun g hg => by
  rcases h.2 with ⟨hv, _⟩ | ⟨g', _, cur, hv, _, hgg, _⟩
  · rw [hv] at hg
    cases hg
  · rw [hv] at hg
    cases hg
    exact ⟨cur, _, hgg⟩
/-- behind the store of the grown row -/
theorem finder_store {B f : Nat} {d : Str} {num e : Int} {ps : List PProb} {v : Value} {w w2 : World} {g cap : Nat} (hB : B ≤ f) (hb : w2.heap[f]? = some (.cells #[.string (S d), .int .i64 num, v] 141 (0, 0)))
    (hown : w2.ownsRow B 164 3 (.slice (some ⟨g, 0, none⟩) (ps.length + 1) cap) (ps.length + 1) (ps.flatMap probC ++ [.string (S d), .int .i64 num, .int .i64 e])) (hgf : g ≠ f)
    (hbel : Below B w w2) (hoth : Lib.OthersKept 164 (some f) w w2) :
    Finder B f d num (ps ++ [(⟨d, num, e⟩ : PProb)]) (w2.setCell ⟨f, 2, none⟩ (.slice (some ⟨g, 0, none⟩) (ps.length + 1) cap)) ∧ Below B w (w2.setCell ⟨f, 2, none⟩ (.slice (some ⟨g, 0, none⟩) (ps.length + 1) cap)) ∧ Lib.OthersKept 164 (some f) w (w2.setCell ⟨f, 2, none⟩ (.slice (some ⟨g, 0, none⟩) (ps.length + 1) cap)) := by
  have hne : (Value.slice (some ⟨g, 0, none⟩) (ps.length + 1) cap).ownBlock ≠ some f := by simp [Value.ownBlock, hgf]
  refine ⟨⟨hB, _, heap_setCell_same w2 f 2 _ _ _ hb, ?_, hne⟩, hbel.setCell hB _, hoth.setCell _ rfl _⟩
  have := hown.kept (grown_setCell w2 f 2 (.slice (some ⟨g, 0, none⟩) (ps.length + 1) cap)) (Or.inr hne)
  rw [probs_cells]
  simpa using this
set_option maxHeartbeats 4000000 in
set_option maxRecDepth 100000 in
theorem unless_bad (B f : Nat) (d : Str) (num e : Int) (ps : List PProb) (w : World) (h : Finder B f d num ps w) (hps : ps.length ≤ 1000000000) (hBw : B ≤ w.heap.size) :
    Calls Tryz.prog 80 #[.pointer (some ⟨f, 0, none⟩), .bool false, .int .i64 e] w fun e' w' => e' = .returned (.tuple #[]) ∧ (Finder B f d num (ps ++ [(⟨d, num, e⟩ : PProb)]) w' ∧ Below B w w' ∧ Lib.OthersKept 164 (some f) w w') := by
  obtain ⟨hB, v, hbk, hown, hne⟩ := h
  obtain ⟨i0, hi, hz0, hz1, hz2⟩ := info_parts prob_info
  have c0 : w.cell? ⟨f, 0, none⟩ = some (.string (S d)) := by rw [Lib.cell_of_heap hbk]; rfl
  have c1 : w.cell? ⟨f, 1, none⟩ = some (.int .i64 num) := by rw [Lib.cell_of_heap hbk]; rfl
  have c2 : w.cell? ⟨f, 2, none⟩ = some v := by rw [Lib.cell_of_heap hbk]; rfl
  have f2 : w.frozen? ⟨f, 2, none⟩ = false := Lib.frozen_of_heap hbk 2
  have hlt : f < w.heap.size := World.block_lt_of_cell? w _ c0
  have t0 : (w.drew.alloc (.cells #[.string (S d), .int .i64 num, .int .i64 e] 164)).heap.size = w.heap.size + 1 := by simp
  have t1 : (w.drew.alloc (.cells #[.string (S d), .int .i64 num, .int .i64 e] 164)).ownsRow B 164 3 v ps.length (ps.flatMap probC) := (hown.drew).alloc _
  have t2 : ∀ j u, [Value.string (S d), .int .i64 num, .int .i64 e][j]? = some u → (w.drew.alloc (.cells #[.string (S d), .int .i64 num, .int .i64 e] 164)).cell? ((⟨w.heap.size, 0, none⟩ : Addr).add j) = some u := World.news_of_block (heap_alloc_new w.drew _)
  have t3 : ∀ u ∈ [Value.string (S d), .int .i64 num, .int .i64 e], u.oneCell' = true := by simp [Value.oneCell']
  have t4 : (ps.length + 1) * 32 ≤ 140737488355328 := by omega
  have t5 : ps.length + 1 ≤ maxLen := by unfold maxLen; omega
  have t6 : B ≤ (w.drew.alloc (.cells #[.string (S d), .int .i64 num, .int .i64 e] 164)).heap.size := by rw [t0]; omega
  have t7 : f < (w.drew.alloc (.cells #[.string (S d), .int .i64 num, .int .i64 e] 164)).heap.size := by rw [t0]; omega
  have t8 : ∀ w2, (w.drew.alloc (.cells #[.string (S d), .int .i64 num, .int .i64 e] 164)).grownBy w2 v.ownBlock → w2.heap[f]? = some (.cells #[.string (S d), .int .i64 num, v] 141 (0, 0)) := fun w2 hg => (hg.block f t7 (Ne.symm hne)).trans ((heap_alloc_old w.drew _ hlt).trans hbk)
  have t9 : ∀ (g cap : Nat) (w2 : World), (w.drew.alloc (.cells #[.string (S d), .int .i64 num, .int .i64 e] 164)).grownBy w2 v.ownBlock → w2.ownsRow B 164 3 (.slice (some ⟨g, 0, none⟩) (ps.length + 1) cap) (ps.length + 1) (ps.flatMap probC ++ [.string (S d), .int .i64 num, .int .i64 e]) → (v.ownBlock = some g ∨ g = w.heap.size + 1) →
      (Finder B f d num (ps ++ [(⟨d, num, e⟩ : PProb)]) (w2.setCell ⟨f, 2, none⟩ (.slice (some ⟨g, 0, none⟩) (ps.length + 1) cap)) ∧ Below B w (w2.setCell ⟨f, 2, none⟩ (.slice (some ⟨g, 0, none⟩) (ps.length + 1) cap)) ∧ Lib.OthersKept 164 (some f) w (w2.setCell ⟨f, 2, none⟩ (.slice (some ⟨g, 0, none⟩) (ps.length + 1) cap))) := fun g cap w2 hg ho hh => by
    refine finder_store hB (t8 w2 hg) ho ?_ ?_ ?_
    · intro hgf
      subst hgf
      rcases hh with hh | hh
      · exact hne hh
      · omega
    · refine Below.grown (((Below.refl B w).drew).alloc hBw _) hg t6 (fun k hk => (t1.lt k hk).1)
    · exact ((((Lib.OthersKept.refl _ _ w).drew).alloc _).grown hg (row_kind t1))
  go_enter Tryz.func80, Tryz.ntmps80
  go_wp2
  go_region_law ((refine step_append_lies _ (by rfl) _ _ _ (by rfl) B 164 i0 (.agg #[.string ByteArray.empty, .int .i64 0, .int .i64 0]) 3 32 Tryz.underlying114 hi hz0 hz1 hz2 rfl (by decide) v ps.length _ (by rfl) t1 ⟨w.heap.size, 0, none⟩ 1 1 [.string (S d), .int .i64 num, .int .i64 e] (by rfl) (by rfl) t2 t3 (by decide) t5 t4 t6 (w.heap.size + 1) t0 ?_; intro g cap w2 hown2 hgrow hgg hglt; have hb2 := Lib.hid (t8 w2 hgrow); have hend := Lib.hid (t9 g cap w2 hgrow hown2 hgg); have e2 := Lib.cell_of_heap hb2.out 2; have e3 := Lib.frozen_of_heap hb2.out 2))
  all_goals clear t1 t2 t3 t8 t9
  all_goals exact bodyPost_end (results_none (by rfl) _ _ _) rfl ⟨rfl, hend.out⟩
theorem unless_ok (f : Nat) (e : Int) (w : World) :
    Calls Tryz.prog 80 #[.pointer (some ⟨f, 0, none⟩), .bool true, .int .i64 e] w fun e' w' => e' = .returned (.tuple #[]) ∧ w = w' := by
  go_enter Tryz.func80, Tryz.ntmps80
  go_wp2
  exact bodyPost_end (results_none (by rfl) _ _ _) rfl ⟨rfl, rfl⟩
end Go.Proofs.YtfoaaglbpmmhiaaGreatDoor
