/- What RsLawK2 needs beyond the texts of RsRowM,RsRowN. Put together by prune5.py. -/
import Derived.Test.YtgpjhibdongmbaaGreatDoorCkIdx
import Derived.Test.YtgpjhibdongmbaaGreatDoorCkMl
import Derived.Test.YtgpjhibdongmbaaGreatDoorCkUse
import Derived.Test.YtgpjhibdongmbaaGreatDoorIdRef1
import Derived.Test.YtgpjhibdongmbaaGreatDoorIdWord
import Derived.Test.YtgpjhibdongmbaaGreatDoorMap
import Derived.Test.YtgpjhibdongmbaaGreatDoorMzTree
import Derived.Test.YtgpjhibdongmbaaGreatDoorOrd
import Derived.Test.YtgpjhibdongmbaaGreatDoorRkC
import Derived.Test.YtgpjhibdongmbaaGreatDoorRsAw
import Derived.Test.YtgpjhibdongmbaaGreatDoorRsEnd
import Derived.Test.YtgpjhibdongmbaaGreatDoorRsFin
import Derived.Test.YtgpjhibdongmbaaGreatDoorRsIdx
import Derived.Test.YtgpjhibdongmbaaGreatDoorRsOrd
import Derived.Test.YtgpjhibdongmbaaGreatDoorRsR22C
import Derived.Test.YtgpjhibdongmbaaGreatDoorRsR22D
import Derived.Test.YtgpjhibdongmbaaGreatDoorRsR22F
import Derived.Test.YtgpjhibdongmbaaGreatDoorRsR22H
import Derived.Test.YtgpjhibdongmbaaGreatDoorRsR22J
import Derived.Test.YtgpjhibdongmbaaGreatDoorRsR31S
import Derived.Test.YtgpjhibdongmbaaGreatDoorRsRep
import Derived.Test.YtgpjhibdongmbaaGreatDoorRsRes11
import Derived.Test.YtgpjhibdongmbaaGreatDoorRsRes12
import Derived.Test.YtgpjhibdongmbaaGreatDoorRsRes2
import Derived.Test.YtgpjhibdongmbaaGreatDoorRsRes4
import Derived.Test.YtgpjhibdongmbaaGreatDoorRsRes5
import Derived.Test.YtgpjhibdongmbaaGreatDoorRsRes6
import Derived.Test.YtgpjhibdongmbaaGreatDoorRsRes9
import Derived.Test.YtgpjhibdongmbaaGreatDoorRsThm
import Derived.Test.YtgpjhibdongmbaaGreatDoorRsWro
import Derived.Test.YtgpjhibdongmbaaGreatDoorShelf
import Derived.Test.YtgpjhibdongmbaaGreatDoorStillL
import Derived.Test.YtgpjhibdongmbaaGreatDoorUtfDec
import Derived.Test.YtgpjhibdongmbaaGreatDoorRsLawK1
import Derived.BigQuiet
import Derived.Deep.AppendLies
import Derived.Deep.CutBlock
import Derived.Deep.DeepCutAuto
import Derived.Deep.Light
import Derived.Deep.OwnRows
import Derived.Deep.QuietTactic
import Derived.Deep.RegionHeld3
import Derived.Deep.RegionLaw
import Derived.Deep.Upon
import Derived.Deep.WholeRow
import Derived.Handy
import Derived.IntWalk
import Derived.Laws.Bits64b
import Derived.Laws.CopyRow
import Derived.Laws.RangeAny
import Derived.Laws.Strings
import Derived.Laws.Tables
import Derived.Lib.AppendIntMem
import Derived.Lib.Hide
import Derived.Lib.ItoaLen
import Derived.Lib.ItoaNum
import Derived.Lib.LaidTab
import Derived.Lib.LastIndexByte
import Derived.Lib.OthersKept
import Derived.Lib.Split
import Derived.Maps.OwnSet
import Derived.Maps.Views
import Derived.OrdersHeld
import Derived.Shelf.LaysM
import Derived.Shelf.SlicesQ.Load
import Derived.Shelf.Strconv.Itoa0
import Derived.Shelf.Strconv.Itoa1
import Derived.Shelf.Strconv.Itoa2
import Derived.Shelf.Strconv.Itoa3
import Derived.Shelf.Strings.Builder1
import Derived.Shelf.Strings.BuilderF
import Derived.Shelf.Strings.BuilderK
import Derived.Shelf.Strings.Count
import Derived.Shelf.Strings.Prefix
import Derived.Shelf.Strings.Search1
import Derived.Shelf.Strings.Search2
import Derived.Shelf.Strings.Search3
import Derived.Shelf.Strings.Shaped
import Derived.Shelf.Strings.Split
import Derived.Shelf.Strings.SplitShaped
import Derived.Shelf.Unicode.DecodeSlow
import Derived.StillTailTactics
import Derived.StringKeys
import Derived.WalkKit
import Derived.WalkLawsBesides
import Derived.WalkSpells
import GoSem.Core.Utf8
set_option maxRecDepth 100000
set_option maxHeartbeats 200000000
set_option linter.unusedVariables false
set_option linter.unusedSimpArgs false
namespace Go.Proofs.YtgpjhibdongmbaaGreatDoor
open Go.RowKit
set_option linter.unusedVariables false
set_option linter.unusedSimpArgs false
section
variable {P : Program} {ops : Array Oper} {S : World → Prop} {Q : Exit → Act → World → Prop} {K : Act → World → Prop} {a : Act} {w : World} {o : Oper} {r m : OrdT Oper}
theorem wanted_undef {j : Nat} {b : Bool} {t : Tmp} (hg : o.guard = some (j, b)) (hj : (ops[j]?).bind (·.dst) = some t) (hv : a.eval (.tmp t) = undef) : Region.wanted o (yielded ops a.tmps) = false := by
  have h : a.tmps[t]? = none ∨ a.tmps[t]? = some undef := by
    simp only [Act.eval] at hv
    rw [Array.getD_eq_getD_getElem?] at hv
    cases h : a.tmps[t]? with
    | none => exact .inl rfl
    | some x => rw [h] at hv; right; simpa using hv
  unfold Region.wanted yielded
  rw [hg]
  simp only [hj, Option.bind_some]
  rcases h with h | h <;> rw [h] <;> rfl
theorem tree_skip_u {i : Tmp} {j : Nat} {b : Bool} {t : Tmp} (hd : o.dst = some i) (hg : o.guard = some (j, b)) (hj : (ops[j]?).bind (·.dst) = some t) (hv : a.eval (.tmp t) = undef) (h : qap P ops S Q K r (a.put (some i) undef) w) : qap P ops S Q K (.take o r) a w :=
  qlm (wanted_undef hg hj hv) (by rw [hd]; exact h)
theorem list_held_g {l : List Oper} {i : Tmp} {v : Value} {w' : World} {j : Nat} {b : Bool} {t : Tmp} (hd : o.dst = some i) (hg : o.guard = some (j, b)) (hj : (ops[j]?).bind (·.dst) = some t) (hv : a.eval (.tmp t) = .bool b) (hy : ∀ ρ : Operand → Value, (∀ x, ρ x = a.eval x) → (execOp ρ o).run P w = .ok (.value v) w') (h : wpList P ops Q l (a.put (some i) v) w') : wpList P ops Q (o :: l) a w :=
  qdb hd (by rw [qcj hg hj hv]; simp) hy h
theorem list_off {l : List Oper} {i : Tmp} (hd : o.dst = some i) (hw : Region.wanted o (yielded ops a.tmps) = false) (h : wpList P ops Q l (a.put (some i) undef) w) : wpList P ops Q (o :: l) a w := by
  unfold wpList
  rw [if_neg (by rw [hw]; simp), hd]
  exact h
theorem list_off_g {l : List Oper} {i : Tmp} {j : Nat} {b c : Bool} {t : Tmp} (hd : o.dst = some i) (hg : o.guard = some (j, b)) (hj : (ops[j]?).bind (·.dst) = some t) (hv : a.eval (.tmp t) = .bool c) (hc : (c == b) = false) (h : wpList P ops Q l (a.put (some i) undef) w) : wpList P ops Q (o :: l) a w :=
  list_off hd (by rw [qcj hg hj hv]; exact hc) h
theorem list_off_u {l : List Oper} {i : Tmp} {j : Nat} {b : Bool} {t : Tmp} (hd : o.dst = some i) (hg : o.guard = some (j, b)) (hj : (ops[j]?).bind (·.dst) = some t) (hv : a.eval (.tmp t) = undef) (h : wpList P ops Q l (a.put (some i) undef) w) : wpList P ops Q (o :: l) a w :=
  list_off hd (wanted_undef hg hj hv) h
/-! a region in the text's order, the frame behind a letter -/
end
end Go.Proofs.YtgpjhibdongmbaaGreatDoor

