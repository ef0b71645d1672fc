/- The table that strconv.Itoa reads, out of the row's list of laid variables. -/
import Derived.Test.YtfoaaglbpmmhiaaGreatDoorLay
import Derived.Test.YtfoaaglbpmmhiaaGreatDoorKitT
import Derived.Lib.LaidTab
import Derived.Stop.LaidErr
namespace Go.Proofs.YtfoaaglbpmmhiaaGreatDoor
open Go.RowKit
set_option maxRecDepth 100000 in
theorem tab_eq : (Rows.laid_internal_strconv_uint64pow10 : DataW Unit) = Lib.tabData .u64 Lib.pow10Tab := by kernel_rfl
set_option maxRecDepth 100000 in
theorem pt_of {W : World} (h : laidMetH Tryz.prog layList W) : PT W := by
  rw [MakeChecks.laidMetH_plain _ _ _ (by kernel_rfl)] at h
  have h2 := h.tail.tail
  rw [tab_eq] at h2
  exact Lib.tabIs_of_head (g := 1) (t := 218) (e := 55) (n := 20) (by kernel_rfl) (by kernel_rfl) (by kernel_rfl) (by kernel_rfl) (by kernel_rfl) (by kernel_rfl) h2
end Go.Proofs.YtfoaaglbpmmhiaaGreatDoor
