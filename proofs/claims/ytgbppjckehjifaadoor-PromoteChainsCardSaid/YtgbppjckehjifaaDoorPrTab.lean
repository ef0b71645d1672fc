/- The two tables of promote lie as the row's list says. -/
import Derived.Test.YtgbppjckehjifaaDoorPrProg2
import Derived.Test.YtgbppjckehjifaaDoorFlat
namespace Go.Proofs.YtgbppjckehjifaaDoor
open Go.RowKit

theorem gFam : Tryd.prog.globalNamed "wireschema/promote.families" = some 1 := by kernel_rfl
theorem gBnd : Tryd.prog.globalNamed "wireschema/promote.bounds" = some 0 := by kernel_rfl
theorem pFam : ((Tryd.prog.globals[1]?).map (·.type)).all (fun t => plainT Tryd.prog 4 t) = true := by kernel_rfl
theorem pBnd : ((Tryd.prog.globals[0]?).map (·.type)).all (fun t => plainT Tryd.prog 4 t) = true := by kernel_rfl
theorem fFam : flat (Rows.laid_wireschema_promote_families (H := Unit)) = Pr.famT.map (Value.int .i64) := by kernel_rfl
theorem fBnd : flat (Rows.laid_wireschema_promote_bounds (H := Unit)) = Pr.boundT.map (Value.int .u64) := by kernel_rfl
theorem tab_of {W : World} (h : laidMet Tryd.prog [("wireschema/promote.families", Rows.laid_wireschema_promote_families), ("wireschema/promote.bounds", Rows.laid_wireschema_promote_bounds)] W) : Tab W := by
  obtain ⟨ps, ⟨g, t, cs, fuel, p, q, hg, ht, hv, hd, ⟨g2, t2, cs2, fuel2, p2, q2, hg2, ht2, hv2, hd2, hr, hq⟩, hp⟩, _⟩ := h
  obtain rfl := Option.some.inj (gFam.symm.trans hg)
  obtain rfl := Option.some.inj (gBnd.symm.trans hg2)
  have k1 := pFam
  rw [ht] at k1
  have k2 := pBnd
  rw [ht2] at k2
  have e1 := flat_of_trod 4 t cs.toList _ fuel k1 hd
  have e2 := flat_of_trod 4 t2 cs2.toList _ fuel2 k2 hd2
  rw [fFam] at e1
  rw [fBnd] at e2
  have c1 : ∀ i, i < 27 → W.cell? ⟨1, i, none⟩ = some (.int .i64 (Pr.famT.getD i 0)) := by
    intro i hi
    rw [World.var?_cell hg hv i, ← Array.getElem?_toList, e1, List.getElem?_map]
    have hl : i < Pr.famT.length := hi
    simp [List.getD, hl]
  have c2 : ∀ i, i < 18 → W.cell? ⟨0, i, none⟩ = some (.int .u64 (Pr.boundT.getD i 0)) := by
    intro i hi
    rw [World.var?_cell hg2 hv2 i, ← Array.getElem?_toList, e2, List.getElem?_map]
    have hl : i < Pr.boundT.length := hi
    simp [List.getD, hl]
  refine ⟨c1, c2, ?_⟩
  have := block_lt_of_cell (c1 0 (by decide))
  simp at this
  omega
end Go.Proofs.YtgbppjckehjifaaDoor
