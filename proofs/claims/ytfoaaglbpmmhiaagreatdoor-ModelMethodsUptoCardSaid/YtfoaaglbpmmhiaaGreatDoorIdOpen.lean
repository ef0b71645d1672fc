import Derived.Test.YtfoaaglbpmmhiaaGreatDoorKitA
import Derived.Lay
import Derived.MakeChecks
import Derived.LaidLaws
import Derived.Deep.DeepHandedRow
import Derived.Test.YtfoaaglbpmmhiaaGreatDoorKitT
import Derived.Lib.LaidTab
import Derived.Stop.LaidErr
import Derived.Test.YtfoaaglbpmmhiaaGreatDoorCkNote1
import Derived.Deep.Strs
import Derived.WideShapes
set_option maxRecDepth 100000
set_option maxHeartbeats 4000000
set_option linter.unusedVariables false
set_option linter.unusedSimpArgs false
namespace Go.Proofs.YtfoaaglbpmmhiaaGreatDoor
open Go.RowKit
section
variable {H : Type} {enc : TypeId × Value → H}
theorem witness_row_shaped {C:Checked} {os:Os} {f:FuncId} {fn:Func} {s:OpenSpec} {conds:List PathCond} {apart:Bool} {laid:List (String × DataW Unit)} (modest:Bool) (w0:World) (args:Array Value) (hos:w0.os=os)
  (hsh:(w0.forCall (fun _ _ => 0) ⟨#[],args,[]⟩).Shaped C.prog)
  (hok:Input.okWideB C.prog (w0.forCall (fun _ _ => 0) ⟨#[],args,[]⟩) f ⟨#[],args,[]⟩=true)
  (hrow:s.preRow enc C.prog fn conds apart laid (w0.forCall (fun _ _ => 0) ⟨#[],args,[]⟩).memory args) :
  ∃ (w:World) (tape:Tape) (i:Input),w.os=os/\(w.forCall tape i).Shaped C.prog/\i.vars=[]/\Input.okWide C.prog (w.forCall tape i) .any w.heap.size f i ∧
   s.preRow enc C.prog fn conds apart laid (w.forCall tape i).memory i.args/\({ modest:=modest }:Assume).holds C.prog (lone (Frame.enter C.prog f i.args .normal) [] (w.forCall tape i)):=
 ⟨w0,fun _ _ => 0,⟨#[],args,[]⟩,hos,hsh,(Input.okWide_of_okWideB (base:=0) hok).1,(Input.okWide_of_okWideB hok).2,hrow,by
  simp only [Assume.holds]
  exact ⟨by simp,by simp,fun _ => Modest.zero,by simp,by simp⟩⟩
end
def layList:List (String × DataW Unit):=Rows.modelUniquesRow.laid
noncomputable def layWorld (os:Os):World:=World.laidAll Tryz.prog os layList
theorem lay_shape (os:Os) (args:Array Value):((layWorld os).forCall (fun _ _ => 0) ⟨#[],args,[]⟩).Shaped Tryz.prog:=World.shaped_of_ZipB (by kernel_rfl) (by kernel_rfl)
theorem lay_met (os:Os) (args:Array Value):laidMetH Tryz.prog layList ((layWorld os).forCall (fun _ _ => 0) ⟨#[],args,[]⟩).memory:=by
 rw [MakeChecks.laidMetH_plain _ _ _ (by kernel_rfl)];exact laidMet_laidAll _ (by kernel_rfl) (by kernel_rfl)
end Go.Proofs.YtfoaaglbpmmhiaaGreatDoor
namespace Go.Proofs.YtfoaaglbpmmhiaaGreatDoor
open Go.RowKit
theorem tab_eq:(Rows.laid_internal_strconv_uint64pow10:DataW Unit)=Lib.tabData .u64 Lib.pow10Tab:=by kernel_rfl
theorem pt_of {W:World} (h:laidMetH Tryz.prog layList W):PT W:=by
 rw [MakeChecks.laidMetH_plain _ _ _ (by kernel_rfl)] at h;have h2:=h.tail.tail;rw [tab_eq] at h2;exact Lib.tabIs_of_head (g:=1) (t:=218) (e:=55) (n:=20) (by kernel_rfl) (by kernel_rfl) (by kernel_rfl) (by kernel_rfl) (by kernel_rfl) (by kernel_rfl) h2
end Go.Proofs.YtfoaaglbpmmhiaaGreatDoor
namespace Go.Proofs.YtfoaaglbpmmhiaaGreatDoor
open Go.ChangeShapes Go.WideShapes Go.RowKit Go.Deep
section
variable {H : Type} {enc : TypeId × Value → H} {w : World} {base : Nat} {spare : Nat → Bool} {held : Bool}
end
theorem ml_of {W:World} (h:W.ShapedOpen Tryz.prog):ML W:=Tryz.laysM146.s1_3 W h
end Go.Proofs.YtfoaaglbpmmhiaaGreatDoor
