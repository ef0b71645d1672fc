/- What RsRowK needs beyond the texts of RsRowM,RsRowN. Put together by prune5.py. -/
import Derived.Test.YtgpjhibdongmbaaGreatDoorCkIdx
import Derived.Test.YtgpjhibdongmbaaGreatDoorCkMl
import Derived.Test.YtgpjhibdongmbaaGreatDoorCkUse
import Derived.Test.YtgpjhibdongmbaaGreatDoorIdRef1
import Derived.Test.YtgpjhibdongmbaaGreatDoorIdWord
import Derived.Test.YtgpjhibdongmbaaGreatDoorMap
import Derived.Test.YtgpjhibdongmbaaGreatDoorMzTree
import Derived.Test.YtgpjhibdongmbaaGreatDoorOrd
import Derived.Test.YtgpjhibdongmbaaGreatDoorRkC
import Derived.Test.YtgpjhibdongmbaaGreatDoorRsAw
import Derived.Test.YtgpjhibdongmbaaGreatDoorRsEnd
import Derived.Test.YtgpjhibdongmbaaGreatDoorRsFin
import Derived.Test.YtgpjhibdongmbaaGreatDoorRsIdx
import Derived.Test.YtgpjhibdongmbaaGreatDoorRsOrd
import Derived.Test.YtgpjhibdongmbaaGreatDoorRsR22C
import Derived.Test.YtgpjhibdongmbaaGreatDoorRsR22D
import Derived.Test.YtgpjhibdongmbaaGreatDoorRsR22F
import Derived.Test.YtgpjhibdongmbaaGreatDoorRsR22H
import Derived.Test.YtgpjhibdongmbaaGreatDoorRsR22J
import Derived.Test.YtgpjhibdongmbaaGreatDoorRsR31S
import Derived.Test.YtgpjhibdongmbaaGreatDoorRsRep
import Derived.Test.YtgpjhibdongmbaaGreatDoorRsRes11
import Derived.Test.YtgpjhibdongmbaaGreatDoorRsRes12
import Derived.Test.YtgpjhibdongmbaaGreatDoorRsRes2
import Derived.Test.YtgpjhibdongmbaaGreatDoorRsRes4
import Derived.Test.YtgpjhibdongmbaaGreatDoorRsRes5
import Derived.Test.YtgpjhibdongmbaaGreatDoorRsRes6
import Derived.Test.YtgpjhibdongmbaaGreatDoorRsRes9
import Derived.Test.YtgpjhibdongmbaaGreatDoorRsThm
import Derived.Test.YtgpjhibdongmbaaGreatDoorRsWro
import Derived.Test.YtgpjhibdongmbaaGreatDoorShelf
import Derived.Test.YtgpjhibdongmbaaGreatDoorStillL
import Derived.Test.YtgpjhibdongmbaaGreatDoorUtfDec
import Derived.Test.YtgpjhibdongmbaaGreatDoorRsLawK1
import Derived.Test.YtgpjhibdongmbaaGreatDoorRsLawK2
import Derived.BigQuiet
import Derived.Deep.AppendLies
import Derived.Deep.CutBlock
import Derived.Deep.DeepCutAuto
import Derived.Deep.DeepHandedRow
import Derived.Deep.Light
import Derived.Deep.OwnRows
import Derived.Deep.QuietTactic
import Derived.Deep.RegionHeld3
import Derived.Deep.RegionLaw
import Derived.Deep.Slices
import Derived.Deep.Upon
import Derived.Deep.WholeRow
import Derived.Handy
import Derived.IntWalk
import Derived.LaidLaws
import Derived.Laws.Bits64b
import Derived.Laws.CopyRow
import Derived.Laws.RangeAny
import Derived.Laws.Strings
import Derived.Laws.Tables
import Derived.Lay
import Derived.Lib.AppendIntMem
import Derived.Lib.Hide
import Derived.Lib.ItoaLen
import Derived.Lib.ItoaNum
import Derived.Lib.LaidTab
import Derived.Lib.LastIndexByte
import Derived.Lib.OthersKept
import Derived.Lib.Split
import Derived.MakeChecks
import Derived.Maps.OwnSet
import Derived.Maps.Views
import Derived.OpenShut
import Derived.OrdersHeld
import Derived.ProofKit
import Derived.ReadAgain
import Derived.Shelf.LaysM
import Derived.Shelf.SlicesQ.Load
import Derived.Shelf.Strconv.Itoa0
import Derived.Shelf.Strconv.Itoa1
import Derived.Shelf.Strconv.Itoa2
import Derived.Shelf.Strconv.Itoa3
import Derived.Shelf.Strings.Builder1
import Derived.Shelf.Strings.BuilderF
import Derived.Shelf.Strings.BuilderK
import Derived.Shelf.Strings.Count
import Derived.Shelf.Strings.Prefix
import Derived.Shelf.Strings.Search1
import Derived.Shelf.Strings.Search2
import Derived.Shelf.Strings.Search3
import Derived.Shelf.Strings.Shaped
import Derived.Shelf.Strings.Split
import Derived.Shelf.Strings.SplitShaped
import Derived.Shelf.Unicode.DecodeSlow
import Derived.StillTailTactics
import Derived.Stop.LaidErr
import Derived.StringKeys
import Derived.WalkKit
import Derived.WalkLawsBesides
import Derived.WalkSpells
import GoSem.Core.Utf8
set_option maxRecDepth 100000
set_option maxHeartbeats 200000000
set_option linter.unusedVariables false
set_option linter.unusedSimpArgs false
namespace Go.Proofs.YtgpjhibdongmbaaGreatDoor
open Go.RowKit Ck Rs
set_option linter.unusedVariables false
set_option linter.unusedSimpArgs false
theorem law_Complete (p q : PPlan) (p1 p2 p3 p4 : Option Addr) (c1 c2 c3 c4 : Nat) (nm : Str) (W : World) (hG : Pl p q p1 p2 p3 p4 c1 c2 c3 c4 W) (hP : PT W) (hM : ML W) (hT : Tab W) :
    Calls Tryz.prog 6 #[.agg #[.slice p1 p.progs.length c1, .slice p2 p.enums.length c2], .agg #[.slice p3 q.progs.length c3, .slice p4 q.enums.length c4], .string (S nm)] W fun e w' => e = .returned (.bool true) ∧ Bel W w' := by
  cases hpa : qbg p nm with
  | none =>
    cases hpb : qbg q nm with
    | none => exact law_CompleteNN p q p1 p2 p3 p4 c1 c2 c3 c4 nm W hG hP hM hT hpa hpb
    | some b => exact law_CompleteNS p q p1 p2 p3 p4 c1 c2 c3 c4 nm W hG hP hM hT b hpa hpb
  | some a =>
    cases hpb : qbg q nm with
    | none => exact law_CompleteSN p q p1 p2 p3 p4 c1 c2 c3 c4 nm W hG hP hM hT a hpa hpb
    | some b => exact law_CompleteS p q p1 p2 p3 p4 c1 c2 c3 c4 nm W hG hP hM hT a b hpa hpb
end Go.Proofs.YtgpjhibdongmbaaGreatDoor

