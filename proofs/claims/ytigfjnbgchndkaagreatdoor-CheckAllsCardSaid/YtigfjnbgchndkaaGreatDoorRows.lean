/-
  NARROWER THAN 'FOR EVERY INPUT', by the rows' own cells (each row's printed sentence says how): CheckAlls: loops, laid · CheckMessages: loops, laid · CheckEnums: loops, laid · CheckServices: loops, laid.
  DERIVED. THE GIVEN ROWS OF THIS SEAT. 4 by the template 'for every input the law returns true; each argument reads behind the call as it read before'; 0 by the template 'total and deterministic' (their statements: YtigfjnbgchndkaaGreatDoorTotals.lean).
  GIVEN WITH THE SEED: the statements are not yours to turn. If you find one false, say at which input.
  Laid BY PROGRAM, IN A SANDBOX (cutbox-rows.mjs): the forced cells as the released guide's own fill.sh prints them over the translation 2102d08b88af715f… (all of the seat's roots in one cut). By AI agents, Wed Nov 11 2026. No macro, syntax, notation, axiom, sorry.
-/
import Derived.Test.YtigfjnbgchndkaaGreatDoorChecked
import GoSem.PinnedTables
import GoSem.Claim
import GoSem.ClaimJoined
import GoSem.ClaimMapViews
import Derived.JoinedTies
import Derived.KernelRfl
namespace Go.Proofs.YtigfjnbgchndkaaGreatDoor
/- THE CELL 'sum', in the pinned program and in every row, IS THE sha256 OF THE DUMP (.gsa) THAT YtigfjnbgchndkaaGreatDoorProg.lean LOADS. Nothing in Lean hashes anything: it is a label: what it is worth is what the hold of that sum in a sandbox is worth. -/
noncomputable def Tryz.pinned : Pinned := { name := "ytigfjnbgchndkaagreatdoor", sum := "2102d08b88af715f3820566931648392d8b8cfc2574c794ec84defb7bacc4841", checked := Tryz.checked }
namespace Rows
def none {H : Type} : Left H := { results := [], args := [] }

/- WHAT THE LISTED PACKAGE-LEVEL VARIABLES READ AS WHEN THE CALL BEGINS. Each datum BY PROGRAM (the guide's laid-datum.mjs) off the statement by which the dump's own 'gosem.cut.vars' lays the variable. In a bare row this is a premise. The card (YtigfjnbgchndkaaGreatDoorCards.lean) ties it to the program's text. -/
def laid_unicode_utf8_acceptRanges {H : Type} : DataW H := .agg [.agg [.lit (.int .u8 128), .lit (.int .u8 191)], .agg [.lit (.int .u8 160), .lit (.int .u8 191)], .agg [.lit (.int .u8 128), .lit (.int .u8 159)], .agg [.lit (.int .u8 144), .lit (.int .u8 191)], .agg [.lit (.int .u8 128), .lit (.int .u8 143)], .agg [.lit (.int .u8 0), .lit (.int .u8 0)], .agg [.lit (.int .u8 0), .lit (.int .u8 0)], .agg [.lit (.int .u8 0), .lit (.int .u8 0)], .agg [.lit (.int .u8 0), .lit (.int .u8 0)], .agg [.lit (.int .u8 0), .lit (.int .u8 0)], .agg [.lit (.int .u8 0), .lit (.int .u8 0)], .agg [.lit (.int .u8 0), .lit (.int .u8 0)], .agg [.lit (.int .u8 0), .lit (.int .u8 0)], .agg [.lit (.int .u8 0), .lit (.int .u8 0)], .agg [.lit (.int .u8 0), .lit (.int .u8 0)], .agg [.lit (.int .u8 0), .lit (.int .u8 0)]]
/-- One of Go's own tables, pinned by name: the form's constant. -/
def laid_unicode_utf8_first : DataW Unit := Go.Pinned.utf8First

/-- 'wireschemalaw12.CheckAlls': WHATEVER THE INPUT: true; the input reads as it did. -/
def checkAllsSpec : ChangeSpec := { name := "checkAlls", fn := fun _ => fun
  | [d] => { results := [.lit (.bool true)], args := [d] }
  | _ => none }
def checkAllsRow : OpenClaim := { program := "ytigfjnbgchndkaagreatdoor", sum := "2102d08b88af715f3820566931648392d8b8cfc2574c794ec84defb7bacc4841", func := "wireschema/wireschemalaw12.CheckAlls", spec := "checkAlls", inPlace := ["internal/bytealg.CountString", "internal/bytealg.IndexByteString", "internal/bytealg.IndexString"], unfollowed := true, recurses := true, named := ["unicode/utf8.first", "unicode/utf8.acceptRanges", "internal/bytealg.MaxLen"], loops := true, apart := false, laid := [("unicode/utf8.acceptRanges", laid_unicode_utf8_acceptRanges), ("unicode/utf8.first", laid_unicode_utf8_first)] }
def CheckAllsSaid : Prop := checkAllsRow.holds Tryz.pinned (OpenSpec.ofChange checkAllsSpec)

/-- ITS FALSE NEIGHBOUR: 'it returns false'. Refute it at one input. -/
def checkAllsWrong : ChangeSpec := { name := "checkAlls", fn := fun _ => fun
  | [d] => { results := [.lit (.bool false)], args := [d] }
  | _ => none }
def CheckAllsWrongFalsely : Prop := checkAllsRow.holds Tryz.pinned (OpenSpec.ofChange checkAllsWrong)

/-- 'wireschemalaw12.CheckMessages': WHATEVER THE INPUT: true; the input reads as it did. -/
def checkMessagesSpec : ChangeSpec := { name := "checkMessages", fn := fun _ => fun
  | [d1, d2] => { results := [.lit (.bool true)], args := [d1, d2] }
  | _ => none }
def checkMessagesRow : OpenClaim := { program := "ytigfjnbgchndkaagreatdoor", sum := "2102d08b88af715f3820566931648392d8b8cfc2574c794ec84defb7bacc4841", func := "wireschema/wireschemalaw12.CheckMessages", spec := "checkMessages", inPlace := ["internal/bytealg.CountString", "internal/bytealg.IndexByteString", "internal/bytealg.IndexString"], unfollowed := true, recurses := true, named := ["unicode/utf8.first", "unicode/utf8.acceptRanges", "internal/bytealg.MaxLen"], loops := true, apart := false, laid := [("unicode/utf8.acceptRanges", laid_unicode_utf8_acceptRanges), ("unicode/utf8.first", laid_unicode_utf8_first)] }
def CheckMessagesSaid : Prop := checkMessagesRow.holds Tryz.pinned (OpenSpec.ofChange checkMessagesSpec)

/-- ITS FALSE NEIGHBOUR: 'it returns false'. Refute it at one input. -/
def checkMessagesWrong : ChangeSpec := { name := "checkMessages", fn := fun _ => fun
  | [d1, d2] => { results := [.lit (.bool false)], args := [d1, d2] }
  | _ => none }
def CheckMessagesWrongFalsely : Prop := checkMessagesRow.holds Tryz.pinned (OpenSpec.ofChange checkMessagesWrong)

/-- 'wireschemalaw12.CheckEnums': WHATEVER THE INPUT: true; the input reads as it did. -/
def checkEnumsSpec : ChangeSpec := { name := "checkEnums", fn := fun _ => fun
  | [d] => { results := [.lit (.bool true)], args := [d] }
  | _ => none }
def checkEnumsRow : OpenClaim := { program := "ytigfjnbgchndkaagreatdoor", sum := "2102d08b88af715f3820566931648392d8b8cfc2574c794ec84defb7bacc4841", func := "wireschema/wireschemalaw12.CheckEnums", spec := "checkEnums", inPlace := ["internal/bytealg.CountString", "internal/bytealg.IndexByteString", "internal/bytealg.IndexString"], unfollowed := true, recurses := true, named := ["unicode/utf8.first", "unicode/utf8.acceptRanges", "internal/bytealg.MaxLen"], loops := true, apart := false, laid := [("unicode/utf8.acceptRanges", laid_unicode_utf8_acceptRanges), ("unicode/utf8.first", laid_unicode_utf8_first)] }
def CheckEnumsSaid : Prop := checkEnumsRow.holds Tryz.pinned (OpenSpec.ofChange checkEnumsSpec)

/-- ITS FALSE NEIGHBOUR: 'it returns false'. Refute it at one input. -/
def checkEnumsWrong : ChangeSpec := { name := "checkEnums", fn := fun _ => fun
  | [d] => { results := [.lit (.bool false)], args := [d] }
  | _ => none }
def CheckEnumsWrongFalsely : Prop := checkEnumsRow.holds Tryz.pinned (OpenSpec.ofChange checkEnumsWrong)

/-- 'wireschemalaw12.CheckServices': WHATEVER THE INPUT: true; the input reads as it did. -/
def checkServicesSpec : ChangeSpec := { name := "checkServices", fn := fun _ => fun
  | [d1, d2] => { results := [.lit (.bool true)], args := [d1, d2] }
  | _ => none }
def checkServicesRow : OpenClaim := { program := "ytigfjnbgchndkaagreatdoor", sum := "2102d08b88af715f3820566931648392d8b8cfc2574c794ec84defb7bacc4841", func := "wireschema/wireschemalaw12.CheckServices", spec := "checkServices", inPlace := ["internal/bytealg.CountString", "internal/bytealg.IndexByteString", "internal/bytealg.IndexString"], unfollowed := true, recurses := true, named := ["unicode/utf8.first", "unicode/utf8.acceptRanges", "internal/bytealg.MaxLen"], loops := true, apart := false, laid := [("unicode/utf8.acceptRanges", laid_unicode_utf8_acceptRanges), ("unicode/utf8.first", laid_unicode_utf8_first)] }
def CheckServicesSaid : Prop := checkServicesRow.holds Tryz.pinned (OpenSpec.ofChange checkServicesSpec)

/-- ITS FALSE NEIGHBOUR: 'it returns false'. Refute it at one input. -/
def checkServicesWrong : ChangeSpec := { name := "checkServices", fn := fun _ => fun
  | [d1, d2] => { results := [.lit (.bool false)], args := [d1, d2] }
  | _ => none }
def CheckServicesWrongFalsely : Prop := checkServicesRow.holds Tryz.pinned (OpenSpec.ofChange checkServicesWrong)

/- THE SECOND FORM. 'bulk': how many values and letters a reading holds, each counted each time it is reached (what is shared counts as often as it is met; a slice's spare places count too). A statement '..UptoSaid' is the law's where the arguments, and the package variables that the reading takes, are together of bulk at most 1048576: NARROWER than '..Said'. Prove '..Said' where nothing that the law and all that it calls make is longer than what came in: it says more and counts as full. Else prove '..UptoSaid'. A law counts once. -/
mutual
def uptoBulk {H : Type} : DataW H → Nat
  | .lit (.string bytes) => bytes.length + 1
  | .lit _ => 1
  | .nil => 1
  | .ptr d => uptoBulk d + 1
  | .slice elems spare => uptoBulkAll elems + uptoBulkAll spare + 1
  | .agg parts => uptoBulkAll parts + 1
  | .iface _ d => uptoBulk d + 1
  | .map entries => uptoBulkEntries entries + 1
  | .held _ => 1
def uptoBulkAll {H : Type} : List (DataW H) → Nat
  | [] => 0
  | d :: r => uptoBulk d + uptoBulkAll r
def uptoBulkEntries {H : Type} : List (Lit × DataW H) → Nat
  | [] => 0
  | x :: r => uptoBulkEntry x + uptoBulkEntries r
def uptoBulkEntry {H : Type} : Lit × DataW H → Nat
  | (.string bytes, d) => bytes.length + uptoBulk d + 1
  | (_, d) => uptoBulk d + 1
 end
def uptoSmall : (H : Type) → List (DataW H) → Bool := fun _ ds => decide (uptoBulkAll ds ≤ 1048576)
def OpenSpec.upto (s : _root_.Go.ChangeSpec) : _root_.Go.OpenSpec := { _root_.Go.OpenSpec.ofChange s with cond := some uptoSmall }

/-- 'wireschemalaw12.CheckAlls', WHERE WHAT IT READS IS OF BULK AT MOST 1048576: true; the input reads as it did. -/
def checkAllsUptoRow : OpenClaim := { program := "ytigfjnbgchndkaagreatdoor", sum := "2102d08b88af715f3820566931648392d8b8cfc2574c794ec84defb7bacc4841", func := "wireschema/wireschemalaw12.CheckAlls", spec := "checkAlls", inPlace := ["internal/bytealg.CountString", "internal/bytealg.IndexByteString", "internal/bytealg.IndexString"], unfollowed := true, recurses := true, named := ["unicode/utf8.first", "unicode/utf8.acceptRanges", "internal/bytealg.MaxLen"], loops := true, apart := false, laid := [("unicode/utf8.acceptRanges", laid_unicode_utf8_acceptRanges), ("unicode/utf8.first", laid_unicode_utf8_first)], narrowed := true }
def CheckAllsUptoSaid : Prop := checkAllsUptoRow.holds Tryz.pinned (OpenSpec.upto checkAllsSpec)

/-- 'wireschemalaw12.CheckMessages', WHERE WHAT IT READS IS OF BULK AT MOST 1048576: true; the input reads as it did. -/
def checkMessagesUptoRow : OpenClaim := { program := "ytigfjnbgchndkaagreatdoor", sum := "2102d08b88af715f3820566931648392d8b8cfc2574c794ec84defb7bacc4841", func := "wireschema/wireschemalaw12.CheckMessages", spec := "checkMessages", inPlace := ["internal/bytealg.CountString", "internal/bytealg.IndexByteString", "internal/bytealg.IndexString"], unfollowed := true, recurses := true, named := ["unicode/utf8.first", "unicode/utf8.acceptRanges", "internal/bytealg.MaxLen"], loops := true, apart := false, laid := [("unicode/utf8.acceptRanges", laid_unicode_utf8_acceptRanges), ("unicode/utf8.first", laid_unicode_utf8_first)], narrowed := true }
def CheckMessagesUptoSaid : Prop := checkMessagesUptoRow.holds Tryz.pinned (OpenSpec.upto checkMessagesSpec)

/-- 'wireschemalaw12.CheckEnums', WHERE WHAT IT READS IS OF BULK AT MOST 1048576: true; the input reads as it did. -/
def checkEnumsUptoRow : OpenClaim := { program := "ytigfjnbgchndkaagreatdoor", sum := "2102d08b88af715f3820566931648392d8b8cfc2574c794ec84defb7bacc4841", func := "wireschema/wireschemalaw12.CheckEnums", spec := "checkEnums", inPlace := ["internal/bytealg.CountString", "internal/bytealg.IndexByteString", "internal/bytealg.IndexString"], unfollowed := true, recurses := true, named := ["unicode/utf8.first", "unicode/utf8.acceptRanges", "internal/bytealg.MaxLen"], loops := true, apart := false, laid := [("unicode/utf8.acceptRanges", laid_unicode_utf8_acceptRanges), ("unicode/utf8.first", laid_unicode_utf8_first)], narrowed := true }
def CheckEnumsUptoSaid : Prop := checkEnumsUptoRow.holds Tryz.pinned (OpenSpec.upto checkEnumsSpec)

/-- 'wireschemalaw12.CheckServices', WHERE WHAT IT READS IS OF BULK AT MOST 1048576: true; the input reads as it did. -/
def checkServicesUptoRow : OpenClaim := { program := "ytigfjnbgchndkaagreatdoor", sum := "2102d08b88af715f3820566931648392d8b8cfc2574c794ec84defb7bacc4841", func := "wireschema/wireschemalaw12.CheckServices", spec := "checkServices", inPlace := ["internal/bytealg.CountString", "internal/bytealg.IndexByteString", "internal/bytealg.IndexString"], unfollowed := true, recurses := true, named := ["unicode/utf8.first", "unicode/utf8.acceptRanges", "internal/bytealg.MaxLen"], loops := true, apart := false, laid := [("unicode/utf8.acceptRanges", laid_unicode_utf8_acceptRanges), ("unicode/utf8.first", laid_unicode_utf8_first)], narrowed := true }
def CheckServicesUptoSaid : Prop := checkServicesUptoRow.holds Tryz.pinned (OpenSpec.upto checkServicesSpec)

end Rows
end Go.Proofs.YtigfjnbgchndkaaGreatDoor
