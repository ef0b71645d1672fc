/- A row of bools in memory. Printed by gensound.py. -/
import Derived.Test.YtigfjnbgchndkaaDoorCkFd
import Derived.Test.YtigfjnbgchndkaaDoorCkFs
import Derived.Deep.OwnRows
namespace Go.Proofs.YtigfjnbgchndkaaDoor
open Go.RowKit Ck
set_option linter.unusedVariables false
set_option linter.unusedSimpArgs false

/-- a row of bools of the walk's own -/
def BitsAt (w0 : World) (Bf : Nat) (fin : List Bool) (wx : World) : Prop := w0.heap.size ≤ Bf ∧ wx.heap[Bf]? = some (.cells (fin.map Value.bool).toArray 4 (0, 0)) ∧ Bel w0 wx
theorem BitsAt.base {w0 wx : World} {Bf : Nat} {fin : List Bool} (h : BitsAt w0 Bf fin wx) : Bel w0 wx := h.2.2
theorem BitsAt.bel {w0 wx w' : World} {Bf : Nat} {fin : List Bool} (h : BitsAt w0 Bf fin wx) (k : Bel wx w') : BitsAt w0 Bf fin w' :=
  ⟨h.1, (Below.block k Bf (Array.getElem?_eq_some_iff.1 h.2.1).1).trans h.2.1, Bel.of h.2.2 k.out⟩
theorem BitsAt.cell {w0 wx : World} {Bf : Nat} {fin : List Bool} (h : BitsAt w0 Bf fin wx) (i : Nat) (hi : i < fin.length) : wx.cell? ⟨Bf, i, none⟩ = some (.bool (fin.getD i false)) := by
  rw [Lib.cell_of_heap h.2.1]
  simp [List.getD, hi]
theorem BitsAt.frozen {w0 wx : World} {Bf : Nat} {fin : List Bool} (h : BitsAt w0 Bf fin wx) (i : Nat) : wx.frozen? ⟨Bf, i, none⟩ = false := Lib.frozen_of_heap h.2.1 i
theorem BitsAt.set {w0 wx : World} {Bf : Nat} {fin : List Bool} (h : BitsAt w0 Bf fin wx) (i : Nat) (b : Bool) : BitsAt w0 Bf (fin.set i b) (wx.setCell ⟨Bf, i, none⟩ (.bool b)) := by
  refine ⟨h.1, ?_, bel_set h.2.2 h.1⟩
  rw [heap_setCell_same wx Bf i _ _ _ h.2.1]
  simp [List.map_set]
theorem BitsAt.start {w0 wc : World} (k : Bel w0 wc) (n : Nat) : BitsAt w0 wc.heap.size (List.replicate n false) (wc.alloc (.cells (madeCells #[.bool false] n) 4)) := by
  refine ⟨k.size, ?_, k.alloc _⟩
  rw [heap_alloc_new]
  congr 2
  apply Array.ext
  · simp [madeCells]
  · intro i h1 h2
    simp [madeCells, Nat.mod_one]
theorem boolsInfo : (Tryd.prog.info? 4).map (fun i => (i.zero, i.size, i.bytes)) = some (some (.bool false), 1, 1) := by kernel_rfl
end Go.Proofs.YtigfjnbgchndkaaDoor
