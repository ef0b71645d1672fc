/- Worlds behind calls that change nothing that was there. -/
import Derived.Test.YtefnihgjacnjfaaDoorBase
namespace Go.Proofs.YtefnihgjacnjfaaDoor
open Go.RowKit
/-- what was there before w stands in a -/
def Bel (w a : World) : Prop := Below w.heap.size w a
theorem Bel.refl (w : World) : Bel w w := Below.refl _ _
theorem Bel.of {w a b : World} (h : Bel w a) (k : Below a.heap.size a b) : Bel w b := Below.trans h (k.mono h.size)
theorem Bel.drew {w a : World} (h : Bel w a) : Bel w a.drew := Below.drew h
theorem Bel.drewN {w a : World} (h : Bel w a) (n : Nat) : Bel w (a.drewN n) := below_drewN h n
theorem Bel.alloc {w a : World} (h : Bel w a) (o : Obj) : Bel w (a.alloc o) := Below.alloc h h.size o
theorem Bel.out {w a : World} (h : Bel w a) : Below w.heap.size w a := h
theorem Bel.cell {w a : World} (h : Bel w a) {b o : Nat} (hb : b < w.heap.size) : a.cell? ⟨b, o, none⟩ = w.cell? ⟨b, o, none⟩ := Below.cell h hb
theorem Bel.size {w a : World} (h : Bel w a) : w.heap.size ≤ a.heap.size := Below.size h
end Go.Proofs.YtefnihgjacnjfaaDoor
