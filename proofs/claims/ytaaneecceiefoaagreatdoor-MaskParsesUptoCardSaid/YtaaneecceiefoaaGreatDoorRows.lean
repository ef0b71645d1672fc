/-
  NARROWER THAN 'FOR EVERY INPUT', by the rows' own cells (each row's printed sentence says how): MaskChecks: loops, laid · MaskParses: loops, laid · MaskTexts: loops, laid · MaskMinus: loops, laid · MaskAlgebra: loops, laid.
  DERIVED. THE GIVEN ROWS OF THIS SEAT. 5 by the template 'for every input the law returns true; each argument reads behind the call as it read before'; 0 by the template 'total and deterministic' (their statements: YtaaneecceiefoaaGreatDoorTotals.lean).
  GIVEN WITH THE SEED: the statements are not yours to turn. If you find one false, say at which input.
  Laid BY PROGRAM, IN A SANDBOX (cutbox-rows.mjs): the forced cells as the released guide's own fill.sh prints them over the translation dee3e716ea17910f… (all of the seat's roots in one cut). By AI agents, Wed Nov 11 2026. No macro, syntax, notation, axiom, sorry.
-/
import Derived.Test.YtaaneecceiefoaaGreatDoorChecked
import GoSem.PinnedTables
import GoSem.Claim
import GoSem.ClaimJoined
import GoSem.ClaimMapViews
import Derived.JoinedTies
import Derived.KernelRfl
namespace Go.Proofs.YtaaneecceiefoaaGreatDoor
/- THE CELL 'sum', in the pinned program and in every row, IS THE sha256 OF THE DUMP (.gsa) THAT YtaaneecceiefoaaGreatDoorProg.lean LOADS. Nothing in Lean hashes anything: it is a label: what it is worth is what the hold of that sum in a sandbox is worth. -/
noncomputable def Tryz.pinned : Pinned := { name := "ytaaneecceiefoaagreatdoor", sum := "dee3e716ea17910f120ef02247625b0079f31cb6e549ee5892dac287403eed30", checked := Tryz.checked }
namespace Rows
def none {H : Type} : Left H := { results := [], args := [] }

/- WHAT THE LISTED PACKAGE-LEVEL VARIABLES READ AS WHEN THE CALL BEGINS. Each datum BY PROGRAM (the guide's laid-datum.mjs) off the statement by which the dump's own 'gosem.cut.vars' lays the variable. In a bare row this is a premise. The card (YtaaneecceiefoaaGreatDoorCards.lean) ties it to the program's text. -/
def laid_unicode_utf8_acceptRanges {H : Type} : DataW H := .agg [.agg [.lit (.int .u8 128), .lit (.int .u8 191)], .agg [.lit (.int .u8 160), .lit (.int .u8 191)], .agg [.lit (.int .u8 128), .lit (.int .u8 159)], .agg [.lit (.int .u8 144), .lit (.int .u8 191)], .agg [.lit (.int .u8 128), .lit (.int .u8 143)], .agg [.lit (.int .u8 0), .lit (.int .u8 0)], .agg [.lit (.int .u8 0), .lit (.int .u8 0)], .agg [.lit (.int .u8 0), .lit (.int .u8 0)], .agg [.lit (.int .u8 0), .lit (.int .u8 0)], .agg [.lit (.int .u8 0), .lit (.int .u8 0)], .agg [.lit (.int .u8 0), .lit (.int .u8 0)], .agg [.lit (.int .u8 0), .lit (.int .u8 0)], .agg [.lit (.int .u8 0), .lit (.int .u8 0)], .agg [.lit (.int .u8 0), .lit (.int .u8 0)], .agg [.lit (.int .u8 0), .lit (.int .u8 0)], .agg [.lit (.int .u8 0), .lit (.int .u8 0)]]
/-- One of Go's own tables, pinned by name: the form's constant. -/
def laid_unicode_utf8_first : DataW Unit := Go.Pinned.utf8First

/-- 'wireschemalaw19.MaskChecks': WHATEVER THE INPUT: true; the input reads as it did. -/
def maskChecksSpec : ChangeSpec := { name := "maskChecks", fn := fun _ => fun
  | [d1, d2, d3] => { results := [.lit (.bool true)], args := [d1, d2, d3] }
  | _ => none }
def maskChecksRow : OpenClaim := { program := "ytaaneecceiefoaagreatdoor", sum := "dee3e716ea17910f120ef02247625b0079f31cb6e549ee5892dac287403eed30", func := "wireschema/wireschemalaw19.MaskChecks", spec := "maskChecks", inPlace := ["internal/bytealg.CountString", "internal/bytealg.IndexByteString", "internal/bytealg.IndexString", "internal/abi.NoEscape", "internal/bytealg.MakeNoZero"], unfollowed := true, recurses := true, named := ["unicode/utf8.first", "unicode/utf8.acceptRanges", "internal/bytealg.MaxLen"], loops := true, apart := false, laid := [("unicode/utf8.acceptRanges", laid_unicode_utf8_acceptRanges), ("unicode/utf8.first", laid_unicode_utf8_first)] }
def MaskChecksSaid : Prop := maskChecksRow.holds Tryz.pinned (OpenSpec.ofChange maskChecksSpec)

/-- ITS FALSE NEIGHBOUR: 'it returns false'. Refute it at one input. -/
def maskChecksWrong : ChangeSpec := { name := "maskChecks", fn := fun _ => fun
  | [d1, d2, d3] => { results := [.lit (.bool false)], args := [d1, d2, d3] }
  | _ => none }
def MaskChecksWrongFalsely : Prop := maskChecksRow.holds Tryz.pinned (OpenSpec.ofChange maskChecksWrong)

/-- 'wireschemalaw19.MaskParses': WHATEVER THE INPUT: true; the input reads as it did. -/
def maskParsesSpec : ChangeSpec := { name := "maskParses", fn := fun _ => fun
  | [d1, d2, d3] => { results := [.lit (.bool true)], args := [d1, d2, d3] }
  | _ => none }
def maskParsesRow : OpenClaim := { program := "ytaaneecceiefoaagreatdoor", sum := "dee3e716ea17910f120ef02247625b0079f31cb6e549ee5892dac287403eed30", func := "wireschema/wireschemalaw19.MaskParses", spec := "maskParses", inPlace := ["internal/bytealg.CountString", "internal/bytealg.IndexByteString", "internal/bytealg.IndexString", "internal/abi.NoEscape", "internal/bytealg.MakeNoZero"], unfollowed := true, recurses := true, named := ["unicode/utf8.first", "unicode/utf8.acceptRanges", "internal/bytealg.MaxLen"], loops := true, apart := false, laid := [("unicode/utf8.acceptRanges", laid_unicode_utf8_acceptRanges), ("unicode/utf8.first", laid_unicode_utf8_first)] }
def MaskParsesSaid : Prop := maskParsesRow.holds Tryz.pinned (OpenSpec.ofChange maskParsesSpec)

/-- ITS FALSE NEIGHBOUR: 'it returns false'. Refute it at one input. -/
def maskParsesWrong : ChangeSpec := { name := "maskParses", fn := fun _ => fun
  | [d1, d2, d3] => { results := [.lit (.bool false)], args := [d1, d2, d3] }
  | _ => none }
def MaskParsesWrongFalsely : Prop := maskParsesRow.holds Tryz.pinned (OpenSpec.ofChange maskParsesWrong)

/-- 'wireschemalaw19.MaskTexts': WHATEVER THE INPUT: true; the input reads as it did. -/
def maskTextsSpec : ChangeSpec := { name := "maskTexts", fn := fun _ => fun
  | [d1, d2, d3] => { results := [.lit (.bool true)], args := [d1, d2, d3] }
  | _ => none }
def maskTextsRow : OpenClaim := { program := "ytaaneecceiefoaagreatdoor", sum := "dee3e716ea17910f120ef02247625b0079f31cb6e549ee5892dac287403eed30", func := "wireschema/wireschemalaw19.MaskTexts", spec := "maskTexts", inPlace := ["internal/abi.NoEscape", "internal/bytealg.MakeNoZero", "internal/bytealg.CountString", "internal/bytealg.IndexByteString", "internal/bytealg.IndexString"], unfollowed := true, recurses := true, named := ["unicode/utf8.first", "unicode/utf8.acceptRanges", "internal/bytealg.MaxLen"], loops := true, apart := false, laid := [("unicode/utf8.acceptRanges", laid_unicode_utf8_acceptRanges), ("unicode/utf8.first", laid_unicode_utf8_first)] }
def MaskTextsSaid : Prop := maskTextsRow.holds Tryz.pinned (OpenSpec.ofChange maskTextsSpec)

/-- ITS FALSE NEIGHBOUR: 'it returns false'. Refute it at one input. -/
def maskTextsWrong : ChangeSpec := { name := "maskTexts", fn := fun _ => fun
  | [d1, d2, d3] => { results := [.lit (.bool false)], args := [d1, d2, d3] }
  | _ => none }
def MaskTextsWrongFalsely : Prop := maskTextsRow.holds Tryz.pinned (OpenSpec.ofChange maskTextsWrong)

/-- 'wireschemalaw19.MaskMinus': WHATEVER THE INPUT: true; the input reads as it did. -/
def maskMinusSpec : ChangeSpec := { name := "maskMinus", fn := fun _ => fun
  | [d1, d2, d3, d4] => { results := [.lit (.bool true)], args := [d1, d2, d3, d4] }
  | _ => none }
def maskMinusRow : OpenClaim := { program := "ytaaneecceiefoaagreatdoor", sum := "dee3e716ea17910f120ef02247625b0079f31cb6e549ee5892dac287403eed30", func := "wireschema/wireschemalaw19.MaskMinus", spec := "maskMinus", inPlace := ["internal/bytealg.CountString", "internal/bytealg.IndexByteString", "internal/bytealg.IndexString", "internal/abi.NoEscape", "internal/bytealg.MakeNoZero"], unfollowed := true, recurses := true, named := ["unicode/utf8.first", "unicode/utf8.acceptRanges", "internal/bytealg.MaxLen"], loops := true, apart := false, laid := [("unicode/utf8.acceptRanges", laid_unicode_utf8_acceptRanges), ("unicode/utf8.first", laid_unicode_utf8_first)] }
def MaskMinusSaid : Prop := maskMinusRow.holds Tryz.pinned (OpenSpec.ofChange maskMinusSpec)

/-- ITS FALSE NEIGHBOUR: 'it returns false'. Refute it at one input. -/
def maskMinusWrong : ChangeSpec := { name := "maskMinus", fn := fun _ => fun
  | [d1, d2, d3, d4] => { results := [.lit (.bool false)], args := [d1, d2, d3, d4] }
  | _ => none }
def MaskMinusWrongFalsely : Prop := maskMinusRow.holds Tryz.pinned (OpenSpec.ofChange maskMinusWrong)

/-- 'wireschemalaw19.MaskAlgebra': WHATEVER THE INPUT: true; the input reads as it did. -/
def maskAlgebraSpec : ChangeSpec := { name := "maskAlgebra", fn := fun _ => fun
  | [d1, d2, d3, d4] => { results := [.lit (.bool true)], args := [d1, d2, d3, d4] }
  | _ => none }
def maskAlgebraRow : OpenClaim := { program := "ytaaneecceiefoaagreatdoor", sum := "dee3e716ea17910f120ef02247625b0079f31cb6e549ee5892dac287403eed30", func := "wireschema/wireschemalaw19.MaskAlgebra", spec := "maskAlgebra", inPlace := ["internal/bytealg.CountString", "internal/bytealg.IndexByteString", "internal/bytealg.IndexString", "internal/abi.NoEscape", "internal/bytealg.MakeNoZero"], unfollowed := true, recurses := true, named := ["unicode/utf8.first", "unicode/utf8.acceptRanges", "internal/bytealg.MaxLen"], loops := true, apart := false, laid := [("unicode/utf8.acceptRanges", laid_unicode_utf8_acceptRanges), ("unicode/utf8.first", laid_unicode_utf8_first)] }
def MaskAlgebraSaid : Prop := maskAlgebraRow.holds Tryz.pinned (OpenSpec.ofChange maskAlgebraSpec)

/-- ITS FALSE NEIGHBOUR: 'it returns false'. Refute it at one input. -/
def maskAlgebraWrong : ChangeSpec := { name := "maskAlgebra", fn := fun _ => fun
  | [d1, d2, d3, d4] => { results := [.lit (.bool false)], args := [d1, d2, d3, d4] }
  | _ => none }
def MaskAlgebraWrongFalsely : Prop := maskAlgebraRow.holds Tryz.pinned (OpenSpec.ofChange maskAlgebraWrong)

/- THE SECOND FORM. 'bulk': how many values and letters a reading holds, each counted each time it is reached (what is shared counts as often as it is met; a slice's spare places count too). A statement '..UptoSaid' is the law's where the arguments, and the package variables that the reading takes, are together of bulk at most 1048576: NARROWER than '..Said'. Prove '..Said' where nothing that the law and all that it calls make is longer than what came in: it says more and counts as full. Else prove '..UptoSaid'. A law counts once. -/
mutual
def uptoBulk {H : Type} : DataW H → Nat
  | .lit (.string bytes) => bytes.length + 1
  | .lit _ => 1
  | .nil => 1
  | .ptr d => uptoBulk d + 1
  | .slice elems spare => uptoBulkAll elems + uptoBulkAll spare + 1
  | .agg parts => uptoBulkAll parts + 1
  | .iface _ d => uptoBulk d + 1
  | .map entries => uptoBulkEntries entries + 1
  | .held _ => 1
def uptoBulkAll {H : Type} : List (DataW H) → Nat
  | [] => 0
  | d :: r => uptoBulk d + uptoBulkAll r
def uptoBulkEntries {H : Type} : List (Lit × DataW H) → Nat
  | [] => 0
  | x :: r => uptoBulkEntry x + uptoBulkEntries r
def uptoBulkEntry {H : Type} : Lit × DataW H → Nat
  | (.string bytes, d) => bytes.length + uptoBulk d + 1
  | (_, d) => uptoBulk d + 1
 end
def uptoSmall : (H : Type) → List (DataW H) → Bool := fun _ ds => decide (uptoBulkAll ds ≤ 1048576)
def OpenSpec.upto (s : _root_.Go.ChangeSpec) : _root_.Go.OpenSpec := { _root_.Go.OpenSpec.ofChange s with cond := some uptoSmall }

/-- 'wireschemalaw19.MaskChecks', WHERE WHAT IT READS IS OF BULK AT MOST 1048576: true; the input reads as it did. -/
def maskChecksUptoRow : OpenClaim := { program := "ytaaneecceiefoaagreatdoor", sum := "dee3e716ea17910f120ef02247625b0079f31cb6e549ee5892dac287403eed30", func := "wireschema/wireschemalaw19.MaskChecks", spec := "maskChecks", inPlace := ["internal/bytealg.CountString", "internal/bytealg.IndexByteString", "internal/bytealg.IndexString", "internal/abi.NoEscape", "internal/bytealg.MakeNoZero"], unfollowed := true, recurses := true, named := ["unicode/utf8.first", "unicode/utf8.acceptRanges", "internal/bytealg.MaxLen"], loops := true, apart := false, laid := [("unicode/utf8.acceptRanges", laid_unicode_utf8_acceptRanges), ("unicode/utf8.first", laid_unicode_utf8_first)], narrowed := true }
def MaskChecksUptoSaid : Prop := maskChecksUptoRow.holds Tryz.pinned (OpenSpec.upto maskChecksSpec)

/-- 'wireschemalaw19.MaskParses', WHERE WHAT IT READS IS OF BULK AT MOST 1048576: true; the input reads as it did. -/
def maskParsesUptoRow : OpenClaim := { program := "ytaaneecceiefoaagreatdoor", sum := "dee3e716ea17910f120ef02247625b0079f31cb6e549ee5892dac287403eed30", func := "wireschema/wireschemalaw19.MaskParses", spec := "maskParses", inPlace := ["internal/bytealg.CountString", "internal/bytealg.IndexByteString", "internal/bytealg.IndexString", "internal/abi.NoEscape", "internal/bytealg.MakeNoZero"], unfollowed := true, recurses := true, named := ["unicode/utf8.first", "unicode/utf8.acceptRanges", "internal/bytealg.MaxLen"], loops := true, apart := false, laid := [("unicode/utf8.acceptRanges", laid_unicode_utf8_acceptRanges), ("unicode/utf8.first", laid_unicode_utf8_first)], narrowed := true }
def MaskParsesUptoSaid : Prop := maskParsesUptoRow.holds Tryz.pinned (OpenSpec.upto maskParsesSpec)

/-- 'wireschemalaw19.MaskTexts', WHERE WHAT IT READS IS OF BULK AT MOST 1048576: true; the input reads as it did. -/
def maskTextsUptoRow : OpenClaim := { program := "ytaaneecceiefoaagreatdoor", sum := "dee3e716ea17910f120ef02247625b0079f31cb6e549ee5892dac287403eed30", func := "wireschema/wireschemalaw19.MaskTexts", spec := "maskTexts", inPlace := ["internal/abi.NoEscape", "internal/bytealg.MakeNoZero", "internal/bytealg.CountString", "internal/bytealg.IndexByteString", "internal/bytealg.IndexString"], unfollowed := true, recurses := true, named := ["unicode/utf8.first", "unicode/utf8.acceptRanges", "internal/bytealg.MaxLen"], loops := true, apart := false, laid := [("unicode/utf8.acceptRanges", laid_unicode_utf8_acceptRanges), ("unicode/utf8.first", laid_unicode_utf8_first)], narrowed := true }
def MaskTextsUptoSaid : Prop := maskTextsUptoRow.holds Tryz.pinned (OpenSpec.upto maskTextsSpec)

/-- 'wireschemalaw19.MaskMinus', WHERE WHAT IT READS IS OF BULK AT MOST 1048576: true; the input reads as it did. -/
def maskMinusUptoRow : OpenClaim := { program := "ytaaneecceiefoaagreatdoor", sum := "dee3e716ea17910f120ef02247625b0079f31cb6e549ee5892dac287403eed30", func := "wireschema/wireschemalaw19.MaskMinus", spec := "maskMinus", inPlace := ["internal/bytealg.CountString", "internal/bytealg.IndexByteString", "internal/bytealg.IndexString", "internal/abi.NoEscape", "internal/bytealg.MakeNoZero"], unfollowed := true, recurses := true, named := ["unicode/utf8.first", "unicode/utf8.acceptRanges", "internal/bytealg.MaxLen"], loops := true, apart := false, laid := [("unicode/utf8.acceptRanges", laid_unicode_utf8_acceptRanges), ("unicode/utf8.first", laid_unicode_utf8_first)], narrowed := true }
def MaskMinusUptoSaid : Prop := maskMinusUptoRow.holds Tryz.pinned (OpenSpec.upto maskMinusSpec)

/-- 'wireschemalaw19.MaskAlgebra', WHERE WHAT IT READS IS OF BULK AT MOST 1048576: true; the input reads as it did. -/
def maskAlgebraUptoRow : OpenClaim := { program := "ytaaneecceiefoaagreatdoor", sum := "dee3e716ea17910f120ef02247625b0079f31cb6e549ee5892dac287403eed30", func := "wireschema/wireschemalaw19.MaskAlgebra", spec := "maskAlgebra", inPlace := ["internal/bytealg.CountString", "internal/bytealg.IndexByteString", "internal/bytealg.IndexString", "internal/abi.NoEscape", "internal/bytealg.MakeNoZero"], unfollowed := true, recurses := true, named := ["unicode/utf8.first", "unicode/utf8.acceptRanges", "internal/bytealg.MaxLen"], loops := true, apart := false, laid := [("unicode/utf8.acceptRanges", laid_unicode_utf8_acceptRanges), ("unicode/utf8.first", laid_unicode_utf8_first)], narrowed := true }
def MaskAlgebraUptoSaid : Prop := maskAlgebraUptoRow.holds Tryz.pinned (OpenSpec.upto maskAlgebraSpec)

end Rows
end Go.Proofs.YtaaneecceiefoaaGreatDoor
