/- The arguments of layer 6's laws: lists of strings, opened. -/
import Derived.Test.YtfoaaglbpmmhiaaGreatDoorKitA
import Derived.Test.YtfoaaglbpmmhiaaGreatDoorKitB
import Derived.Deep.Strs
import Derived.WideShapes
namespace Go.Proofs.YtfoaaglbpmmhiaaGreatDoor
open Go.ChangeShapes Go.WideShapes Go.RowKit Go.Deep
section
variable {H : Type} {enc : TypeId × Value → H} {w : World} {base : Nat} {spare : Nat → Bool} {held : Bool}
set_option maxRecDepth 100000 in
theorem open_strs_arg {r : Reach} {b0 : Nat} {v : Value} {d : DataW H} {p : List MemPlace} (hv : Value.okWide Tryz.prog w r b0 37 v) (h : DataW.Trod enc Tryz.prog w base spare held 37 v d p) :
    ∃ (q : Option Addr) (n c : Nat), v = .slice q n c ∧ (n ≤ 140737488355328 → ∃ ks : List (List UInt8), ks.length = n ∧ Strs w v ks) := by
  obtain ⟨q, n, c, rfl⟩ := okWide_slice Tryz.underlying37 hv
  refine ⟨q, n, c, rfl, fun hn => ?_⟩
  obtain ⟨fuel, hf⟩ := h
  rcases open_strs Tryz.underlying37 Tryz.underlying9 (by kernel_rfl) hf with ⟨hcs, hx⟩ | ⟨a, len', cap', m, Sx, hcs, _, hl, hm, hmm, hx, hcell⟩
  · simp [Value.cells] at hcs
    obtain ⟨rfl, rfl, rfl⟩ := hcs
    exact ⟨[], rfl, .inl ⟨rfl, none, 0, rfl⟩⟩
  · simp [Value.cells] at hcs
    obtain ⟨rfl, rfl, rfl⟩ := hcs
    by_cases h0 : n = 0
    · subst h0
      exact ⟨[], rfl, .inl ⟨rfl, _, _, rfl⟩⟩
    · have hnm : n ≤ m := by rw [hmm]; split <;> omega
      obtain ⟨b, off, spot⟩ := a
      have hspot : spot = none := by simpa [Addr.add] using World.cell?_spot (hcell 0 (by omega)).1
      subst hspot
      have hcell' : ∀ j, j < m → w.cell? ⟨b, off + j, none⟩ = some (.string (Sx j)) := fun j hj => by rw [← add_plain]; exact (hcell j hj).1
      have hbW : b < w.heap.size := World.block_lt_of_cell? _ _ (hcell' 0 (by omega))
      have hlen : ((List.range n).map fun i => (Sx i).data.toList).length = n := by simp
      refine ⟨(List.range n).map fun i => (Sx i).data.toList, hlen, .inr ⟨b, off, c, by rw [hlen], by rw [hlen]; exact hn, hbW, fun j k hk => ?_⟩⟩
      have hj : j < n := by
        have := (List.getElem?_eq_some_iff.1 hk).1
        simpa using this
      rw [List.getElem?_map, List.getElem?_range hj] at hk
      simp at hk
      subst hk
      rw [hcell' j (by omega)]
      rfl
end
theorem ml_of {W : World} (h : W.ShapedOpen Tryz.prog) : ML W := Tryz.laysM146.s1_3 W h
end Go.Proofs.YtfoaaglbpmmhiaaGreatDoor
