/-
  NARROWER THAN 'FOR EVERY INPUT', by the rows' own cells (each row's printed sentence says how): IdentNames: laid · IdentJoins: laid · IdentMeans: laid · IdentCases: laid · IdentResolves: laid · IdentSplits: laid · IdentCamels: laid.
  DERIVED. THE GIVEN ROWS OF THIS SEAT. 7 by the template 'for every input the law returns true; each argument reads behind the call as it read before'; 0 by the template 'total and deterministic' (their statements: YtefnihgjacnjfaaDoorTotals.lean).
  GIVEN WITH THE SEED: the statements are not yours to turn. If you find one false, say at which input.
  Laid BY PROGRAM, IN A SANDBOX (cutbox-rows.mjs): the forced cells as the released guide's own fill.sh prints them over the translation 59d919000d977fe4… (all of the seat's roots in one cut). By AI agents, Wed Nov 11 2026. No macro, syntax, notation, axiom, sorry.
-/
import Derived.Test.YtefnihgjacnjfaaDoorChecked
import GoSem.PinnedTables
import GoSem.Claim
import GoSem.ClaimJoined
import GoSem.ClaimMapViews
import Derived.JoinedTies
import Derived.KernelRfl
namespace Go.Proofs.YtefnihgjacnjfaaDoor
/- THE CELL 'sum', in the pinned program and in every row, IS THE sha256 OF THE DUMP (.gsa) THAT YtefnihgjacnjfaaDoorProg.lean LOADS. Nothing in Lean hashes anything: it is a label: what it is worth is what the hold of that sum in a sandbox is worth. -/
noncomputable def Tryd.pinned : Pinned := { name := "ytefnihgjacnjfaadoor", sum := "59d919000d977fe49fe05465af85f0be96dcb543f0205cd4fe4817eb56c0ff86", checked := Tryd.checked }
namespace Rows
def none {H : Type} : Left H := { results := [], args := [] }

/- WHAT THE LISTED PACKAGE-LEVEL VARIABLES READ AS WHEN THE CALL BEGINS. Each datum BY PROGRAM (the guide's laid-datum.mjs) off the statement by which the dump's own 'gosem.cut.vars' lays the variable. In a bare row this is a premise. The card (YtefnihgjacnjfaaDoorCards.lean) ties it to the program's text. -/
def laid_unicode_utf8_acceptRanges {H : Type} : DataW H := .agg [.agg [.lit (.int .u8 128), .lit (.int .u8 191)], .agg [.lit (.int .u8 160), .lit (.int .u8 191)], .agg [.lit (.int .u8 128), .lit (.int .u8 159)], .agg [.lit (.int .u8 144), .lit (.int .u8 191)], .agg [.lit (.int .u8 128), .lit (.int .u8 143)], .agg [.lit (.int .u8 0), .lit (.int .u8 0)], .agg [.lit (.int .u8 0), .lit (.int .u8 0)], .agg [.lit (.int .u8 0), .lit (.int .u8 0)], .agg [.lit (.int .u8 0), .lit (.int .u8 0)], .agg [.lit (.int .u8 0), .lit (.int .u8 0)], .agg [.lit (.int .u8 0), .lit (.int .u8 0)], .agg [.lit (.int .u8 0), .lit (.int .u8 0)], .agg [.lit (.int .u8 0), .lit (.int .u8 0)], .agg [.lit (.int .u8 0), .lit (.int .u8 0)], .agg [.lit (.int .u8 0), .lit (.int .u8 0)], .agg [.lit (.int .u8 0), .lit (.int .u8 0)]]
/-- One of Go's own tables, pinned by name: the form's constant. -/
def laid_unicode_CaseRanges : DataW Unit := Go.Pinned.caseRanges
/-- One of Go's own tables, pinned by name: the form's constant. -/
def laid_unicode_utf8_first : DataW Unit := Go.Pinned.utf8First

/-- 'wireschemalaw06.IdentNames': WHATEVER THE INPUT: true; the input reads as it did. -/
def identNamesSpec : ChangeSpec := { name := "identNames", fn := fun _ => fun
  | [d] => { results := [.lit (.bool true)], args := [d] }
  | _ => none }
def identNamesRow : OpenClaim := { program := "ytefnihgjacnjfaadoor", sum := "59d919000d977fe49fe05465af85f0be96dcb543f0205cd4fe4817eb56c0ff86", func := "wireschema/wireschemalaw06.IdentNames", spec := "identNames", inPlace := ["internal/bytealg.CountString", "internal/bytealg.IndexByteString", "internal/bytealg.IndexString", "internal/abi.NoEscape", "internal/bytealg.MakeNoZero"], unfollowed := true, recurses := true, named := ["unicode/utf8.first", "unicode/utf8.acceptRanges", "internal/bytealg.MaxLen", "unicode.CaseRanges"], apart := false, laid := [("unicode/utf8.acceptRanges", laid_unicode_utf8_acceptRanges), ("unicode.CaseRanges", laid_unicode_CaseRanges), ("unicode/utf8.first", laid_unicode_utf8_first)] }
def IdentNamesSaid : Prop := identNamesRow.holds Tryd.pinned (OpenSpec.ofChange identNamesSpec)

/-- ITS FALSE NEIGHBOUR: 'it returns false'. Refute it at one input. -/
def identNamesWrong : ChangeSpec := { name := "identNames", fn := fun _ => fun
  | [d] => { results := [.lit (.bool false)], args := [d] }
  | _ => none }
def IdentNamesWrongFalsely : Prop := identNamesRow.holds Tryd.pinned (OpenSpec.ofChange identNamesWrong)

/-- 'wireschemalaw06.IdentJoins': WHATEVER THE INPUT: true; the input reads as it did. -/
def identJoinsSpec : ChangeSpec := { name := "identJoins", fn := fun _ => fun
  | [d1, d2] => { results := [.lit (.bool true)], args := [d1, d2] }
  | _ => none }
def identJoinsRow : OpenClaim := { program := "ytefnihgjacnjfaadoor", sum := "59d919000d977fe49fe05465af85f0be96dcb543f0205cd4fe4817eb56c0ff86", func := "wireschema/wireschemalaw06.IdentJoins", spec := "identJoins", inPlace := ["internal/bytealg.CountString", "internal/bytealg.IndexByteString", "internal/bytealg.IndexString", "internal/abi.NoEscape", "internal/bytealg.MakeNoZero"], unfollowed := true, recurses := true, named := ["unicode/utf8.first", "unicode/utf8.acceptRanges", "internal/bytealg.MaxLen", "unicode.CaseRanges"], apart := false, laid := [("unicode/utf8.acceptRanges", laid_unicode_utf8_acceptRanges), ("unicode.CaseRanges", laid_unicode_CaseRanges), ("unicode/utf8.first", laid_unicode_utf8_first)] }
def IdentJoinsSaid : Prop := identJoinsRow.holds Tryd.pinned (OpenSpec.ofChange identJoinsSpec)

/-- ITS FALSE NEIGHBOUR: 'it returns false'. Refute it at one input. -/
def identJoinsWrong : ChangeSpec := { name := "identJoins", fn := fun _ => fun
  | [d1, d2] => { results := [.lit (.bool false)], args := [d1, d2] }
  | _ => none }
def IdentJoinsWrongFalsely : Prop := identJoinsRow.holds Tryd.pinned (OpenSpec.ofChange identJoinsWrong)

/-- 'wireschemalaw06.IdentMeans': WHATEVER THE INPUT: true; the input reads as it did. -/
def identMeansSpec : ChangeSpec := { name := "identMeans", fn := fun _ => fun
  | [d1, d2, d3] => { results := [.lit (.bool true)], args := [d1, d2, d3] }
  | _ => none }
def identMeansRow : OpenClaim := { program := "ytefnihgjacnjfaadoor", sum := "59d919000d977fe49fe05465af85f0be96dcb543f0205cd4fe4817eb56c0ff86", func := "wireschema/wireschemalaw06.IdentMeans", spec := "identMeans", inPlace := ["internal/bytealg.CountString", "internal/bytealg.IndexByteString", "internal/bytealg.IndexString", "internal/abi.NoEscape", "internal/bytealg.MakeNoZero"], unfollowed := true, recurses := true, named := ["unicode/utf8.first", "unicode/utf8.acceptRanges", "internal/bytealg.MaxLen", "unicode.CaseRanges"], apart := false, laid := [("unicode/utf8.acceptRanges", laid_unicode_utf8_acceptRanges), ("unicode.CaseRanges", laid_unicode_CaseRanges), ("unicode/utf8.first", laid_unicode_utf8_first)] }
def IdentMeansSaid : Prop := identMeansRow.holds Tryd.pinned (OpenSpec.ofChange identMeansSpec)

/-- ITS FALSE NEIGHBOUR: 'it returns false'. Refute it at one input. -/
def identMeansWrong : ChangeSpec := { name := "identMeans", fn := fun _ => fun
  | [d1, d2, d3] => { results := [.lit (.bool false)], args := [d1, d2, d3] }
  | _ => none }
def IdentMeansWrongFalsely : Prop := identMeansRow.holds Tryd.pinned (OpenSpec.ofChange identMeansWrong)

/-- 'wireschemalaw06.IdentCases': WHATEVER THE INPUT: true; the input reads as it did. -/
def identCasesSpec : ChangeSpec := { name := "identCases", fn := fun _ => fun
  | [d] => { results := [.lit (.bool true)], args := [d] }
  | _ => none }
def identCasesRow : OpenClaim := { program := "ytefnihgjacnjfaadoor", sum := "59d919000d977fe49fe05465af85f0be96dcb543f0205cd4fe4817eb56c0ff86", func := "wireschema/wireschemalaw06.IdentCases", spec := "identCases", inPlace := ["internal/bytealg.CountString", "internal/bytealg.IndexByteString", "internal/bytealg.IndexString", "internal/abi.NoEscape", "internal/bytealg.MakeNoZero"], unfollowed := true, recurses := true, named := ["unicode/utf8.first", "unicode/utf8.acceptRanges", "internal/bytealg.MaxLen", "unicode.CaseRanges"], apart := false, laid := [("unicode/utf8.acceptRanges", laid_unicode_utf8_acceptRanges), ("unicode.CaseRanges", laid_unicode_CaseRanges), ("unicode/utf8.first", laid_unicode_utf8_first)] }
def IdentCasesSaid : Prop := identCasesRow.holds Tryd.pinned (OpenSpec.ofChange identCasesSpec)

/-- ITS FALSE NEIGHBOUR: 'it returns false'. Refute it at one input. -/
def identCasesWrong : ChangeSpec := { name := "identCases", fn := fun _ => fun
  | [d] => { results := [.lit (.bool false)], args := [d] }
  | _ => none }
def IdentCasesWrongFalsely : Prop := identCasesRow.holds Tryd.pinned (OpenSpec.ofChange identCasesWrong)

/-- 'wireschemalaw06.IdentResolves': WHATEVER THE INPUT: true; the input reads as it did. -/
def identResolvesSpec : ChangeSpec := { name := "identResolves", fn := fun _ => fun
  | [d1, d2, d3] => { results := [.lit (.bool true)], args := [d1, d2, d3] }
  | _ => none }
def identResolvesRow : OpenClaim := { program := "ytefnihgjacnjfaadoor", sum := "59d919000d977fe49fe05465af85f0be96dcb543f0205cd4fe4817eb56c0ff86", func := "wireschema/wireschemalaw06.IdentResolves", spec := "identResolves", inPlace := ["internal/bytealg.CountString", "internal/bytealg.IndexByteString", "internal/bytealg.IndexString", "internal/abi.NoEscape", "internal/bytealg.MakeNoZero"], unfollowed := true, recurses := true, named := ["unicode/utf8.first", "unicode/utf8.acceptRanges", "internal/bytealg.MaxLen", "unicode.CaseRanges"], apart := false, laid := [("unicode/utf8.acceptRanges", laid_unicode_utf8_acceptRanges), ("unicode.CaseRanges", laid_unicode_CaseRanges), ("unicode/utf8.first", laid_unicode_utf8_first)] }
def IdentResolvesSaid : Prop := identResolvesRow.holds Tryd.pinned (OpenSpec.ofChange identResolvesSpec)

/-- ITS FALSE NEIGHBOUR: 'it returns false'. Refute it at one input. -/
def identResolvesWrong : ChangeSpec := { name := "identResolves", fn := fun _ => fun
  | [d1, d2, d3] => { results := [.lit (.bool false)], args := [d1, d2, d3] }
  | _ => none }
def IdentResolvesWrongFalsely : Prop := identResolvesRow.holds Tryd.pinned (OpenSpec.ofChange identResolvesWrong)

/-- 'wireschemalaw06.IdentSplits': WHATEVER THE INPUT: true; the input reads as it did. -/
def identSplitsSpec : ChangeSpec := { name := "identSplits", fn := fun _ => fun
  | [d] => { results := [.lit (.bool true)], args := [d] }
  | _ => none }
def identSplitsRow : OpenClaim := { program := "ytefnihgjacnjfaadoor", sum := "59d919000d977fe49fe05465af85f0be96dcb543f0205cd4fe4817eb56c0ff86", func := "wireschema/wireschemalaw06.IdentSplits", spec := "identSplits", inPlace := ["internal/bytealg.CountString", "internal/bytealg.IndexByteString", "internal/bytealg.IndexString", "internal/abi.NoEscape", "internal/bytealg.MakeNoZero"], unfollowed := true, recurses := true, named := ["unicode/utf8.first", "unicode/utf8.acceptRanges", "internal/bytealg.MaxLen", "unicode.CaseRanges"], apart := false, laid := [("unicode/utf8.acceptRanges", laid_unicode_utf8_acceptRanges), ("unicode.CaseRanges", laid_unicode_CaseRanges), ("unicode/utf8.first", laid_unicode_utf8_first)] }
def IdentSplitsSaid : Prop := identSplitsRow.holds Tryd.pinned (OpenSpec.ofChange identSplitsSpec)

/-- ITS FALSE NEIGHBOUR: 'it returns false'. Refute it at one input. -/
def identSplitsWrong : ChangeSpec := { name := "identSplits", fn := fun _ => fun
  | [d] => { results := [.lit (.bool false)], args := [d] }
  | _ => none }
def IdentSplitsWrongFalsely : Prop := identSplitsRow.holds Tryd.pinned (OpenSpec.ofChange identSplitsWrong)

/-- 'wireschemalaw06.IdentCamels': WHATEVER THE INPUT: true; the input reads as it did. -/
def identCamelsSpec : ChangeSpec := { name := "identCamels", fn := fun _ => fun
  | [d] => { results := [.lit (.bool true)], args := [d] }
  | _ => none }
def identCamelsRow : OpenClaim := { program := "ytefnihgjacnjfaadoor", sum := "59d919000d977fe49fe05465af85f0be96dcb543f0205cd4fe4817eb56c0ff86", func := "wireschema/wireschemalaw06.IdentCamels", spec := "identCamels", inPlace := ["internal/bytealg.CountString", "internal/bytealg.IndexByteString", "internal/bytealg.IndexString", "internal/abi.NoEscape", "internal/bytealg.MakeNoZero"], unfollowed := true, recurses := true, named := ["unicode/utf8.first", "unicode/utf8.acceptRanges", "internal/bytealg.MaxLen", "unicode.CaseRanges"], apart := false, laid := [("unicode/utf8.acceptRanges", laid_unicode_utf8_acceptRanges), ("unicode.CaseRanges", laid_unicode_CaseRanges), ("unicode/utf8.first", laid_unicode_utf8_first)] }
def IdentCamelsSaid : Prop := identCamelsRow.holds Tryd.pinned (OpenSpec.ofChange identCamelsSpec)

/-- ITS FALSE NEIGHBOUR: 'it returns false'. Refute it at one input. -/
def identCamelsWrong : ChangeSpec := { name := "identCamels", fn := fun _ => fun
  | [d] => { results := [.lit (.bool false)], args := [d] }
  | _ => none }
def IdentCamelsWrongFalsely : Prop := identCamelsRow.holds Tryd.pinned (OpenSpec.ofChange identCamelsWrong)

/- THE SECOND FORM. 'bulk': how many values and letters a reading holds, each counted each time it is reached (what is shared counts as often as it is met; a slice's spare places count too). A statement '..UptoSaid' is the law's where the arguments, and the package variables that the reading takes, are together of bulk at most 1048576: NARROWER than '..Said'. Prove '..Said' where nothing that the law and all that it calls make is longer than what came in: it says more and counts as full. Else prove '..UptoSaid'. A law counts once. -/
mutual
def uptoBulk {H : Type} : DataW H → Nat
  | .lit (.string bytes) => bytes.length + 1
  | .lit _ => 1
  | .nil => 1
  | .ptr d => uptoBulk d + 1
  | .slice elems spare => uptoBulkAll elems + uptoBulkAll spare + 1
  | .agg parts => uptoBulkAll parts + 1
  | .iface _ d => uptoBulk d + 1
  | .map entries => uptoBulkEntries entries + 1
  | .held _ => 1
def uptoBulkAll {H : Type} : List (DataW H) → Nat
  | [] => 0
  | d :: r => uptoBulk d + uptoBulkAll r
def uptoBulkEntries {H : Type} : List (Lit × DataW H) → Nat
  | [] => 0
  | x :: r => uptoBulkEntry x + uptoBulkEntries r
def uptoBulkEntry {H : Type} : Lit × DataW H → Nat
  | (.string bytes, d) => bytes.length + uptoBulk d + 1
  | (_, d) => uptoBulk d + 1
 end
def uptoSmall : (H : Type) → List (DataW H) → Bool := fun _ ds => decide (uptoBulkAll ds ≤ 1048576)
def OpenSpec.upto (s : _root_.Go.ChangeSpec) : _root_.Go.OpenSpec := { _root_.Go.OpenSpec.ofChange s with cond := some uptoSmall }

/-- 'wireschemalaw06.IdentNames', WHERE WHAT IT READS IS OF BULK AT MOST 1048576: true; the input reads as it did. -/
def identNamesUptoRow : OpenClaim := { program := "ytefnihgjacnjfaadoor", sum := "59d919000d977fe49fe05465af85f0be96dcb543f0205cd4fe4817eb56c0ff86", func := "wireschema/wireschemalaw06.IdentNames", spec := "identNames", inPlace := ["internal/bytealg.CountString", "internal/bytealg.IndexByteString", "internal/bytealg.IndexString", "internal/abi.NoEscape", "internal/bytealg.MakeNoZero"], unfollowed := true, recurses := true, named := ["unicode/utf8.first", "unicode/utf8.acceptRanges", "internal/bytealg.MaxLen", "unicode.CaseRanges"], apart := false, laid := [("unicode/utf8.acceptRanges", laid_unicode_utf8_acceptRanges), ("unicode.CaseRanges", laid_unicode_CaseRanges), ("unicode/utf8.first", laid_unicode_utf8_first)], narrowed := true }
def IdentNamesUptoSaid : Prop := identNamesUptoRow.holds Tryd.pinned (OpenSpec.upto identNamesSpec)

/-- 'wireschemalaw06.IdentJoins', WHERE WHAT IT READS IS OF BULK AT MOST 1048576: true; the input reads as it did. -/
def identJoinsUptoRow : OpenClaim := { program := "ytefnihgjacnjfaadoor", sum := "59d919000d977fe49fe05465af85f0be96dcb543f0205cd4fe4817eb56c0ff86", func := "wireschema/wireschemalaw06.IdentJoins", spec := "identJoins", inPlace := ["internal/bytealg.CountString", "internal/bytealg.IndexByteString", "internal/bytealg.IndexString", "internal/abi.NoEscape", "internal/bytealg.MakeNoZero"], unfollowed := true, recurses := true, named := ["unicode/utf8.first", "unicode/utf8.acceptRanges", "internal/bytealg.MaxLen", "unicode.CaseRanges"], apart := false, laid := [("unicode/utf8.acceptRanges", laid_unicode_utf8_acceptRanges), ("unicode.CaseRanges", laid_unicode_CaseRanges), ("unicode/utf8.first", laid_unicode_utf8_first)], narrowed := true }
def IdentJoinsUptoSaid : Prop := identJoinsUptoRow.holds Tryd.pinned (OpenSpec.upto identJoinsSpec)

/-- 'wireschemalaw06.IdentMeans', WHERE WHAT IT READS IS OF BULK AT MOST 1048576: true; the input reads as it did. -/
def identMeansUptoRow : OpenClaim := { program := "ytefnihgjacnjfaadoor", sum := "59d919000d977fe49fe05465af85f0be96dcb543f0205cd4fe4817eb56c0ff86", func := "wireschema/wireschemalaw06.IdentMeans", spec := "identMeans", inPlace := ["internal/bytealg.CountString", "internal/bytealg.IndexByteString", "internal/bytealg.IndexString", "internal/abi.NoEscape", "internal/bytealg.MakeNoZero"], unfollowed := true, recurses := true, named := ["unicode/utf8.first", "unicode/utf8.acceptRanges", "internal/bytealg.MaxLen", "unicode.CaseRanges"], apart := false, laid := [("unicode/utf8.acceptRanges", laid_unicode_utf8_acceptRanges), ("unicode.CaseRanges", laid_unicode_CaseRanges), ("unicode/utf8.first", laid_unicode_utf8_first)], narrowed := true }
def IdentMeansUptoSaid : Prop := identMeansUptoRow.holds Tryd.pinned (OpenSpec.upto identMeansSpec)

/-- 'wireschemalaw06.IdentCases', WHERE WHAT IT READS IS OF BULK AT MOST 1048576: true; the input reads as it did. -/
def identCasesUptoRow : OpenClaim := { program := "ytefnihgjacnjfaadoor", sum := "59d919000d977fe49fe05465af85f0be96dcb543f0205cd4fe4817eb56c0ff86", func := "wireschema/wireschemalaw06.IdentCases", spec := "identCases", inPlace := ["internal/bytealg.CountString", "internal/bytealg.IndexByteString", "internal/bytealg.IndexString", "internal/abi.NoEscape", "internal/bytealg.MakeNoZero"], unfollowed := true, recurses := true, named := ["unicode/utf8.first", "unicode/utf8.acceptRanges", "internal/bytealg.MaxLen", "unicode.CaseRanges"], apart := false, laid := [("unicode/utf8.acceptRanges", laid_unicode_utf8_acceptRanges), ("unicode.CaseRanges", laid_unicode_CaseRanges), ("unicode/utf8.first", laid_unicode_utf8_first)], narrowed := true }
def IdentCasesUptoSaid : Prop := identCasesUptoRow.holds Tryd.pinned (OpenSpec.upto identCasesSpec)

/-- 'wireschemalaw06.IdentResolves', WHERE WHAT IT READS IS OF BULK AT MOST 1048576: true; the input reads as it did. -/
def identResolvesUptoRow : OpenClaim := { program := "ytefnihgjacnjfaadoor", sum := "59d919000d977fe49fe05465af85f0be96dcb543f0205cd4fe4817eb56c0ff86", func := "wireschema/wireschemalaw06.IdentResolves", spec := "identResolves", inPlace := ["internal/bytealg.CountString", "internal/bytealg.IndexByteString", "internal/bytealg.IndexString", "internal/abi.NoEscape", "internal/bytealg.MakeNoZero"], unfollowed := true, recurses := true, named := ["unicode/utf8.first", "unicode/utf8.acceptRanges", "internal/bytealg.MaxLen", "unicode.CaseRanges"], apart := false, laid := [("unicode/utf8.acceptRanges", laid_unicode_utf8_acceptRanges), ("unicode.CaseRanges", laid_unicode_CaseRanges), ("unicode/utf8.first", laid_unicode_utf8_first)], narrowed := true }
def IdentResolvesUptoSaid : Prop := identResolvesUptoRow.holds Tryd.pinned (OpenSpec.upto identResolvesSpec)

/-- 'wireschemalaw06.IdentSplits', WHERE WHAT IT READS IS OF BULK AT MOST 1048576: true; the input reads as it did. -/
def identSplitsUptoRow : OpenClaim := { program := "ytefnihgjacnjfaadoor", sum := "59d919000d977fe49fe05465af85f0be96dcb543f0205cd4fe4817eb56c0ff86", func := "wireschema/wireschemalaw06.IdentSplits", spec := "identSplits", inPlace := ["internal/bytealg.CountString", "internal/bytealg.IndexByteString", "internal/bytealg.IndexString", "internal/abi.NoEscape", "internal/bytealg.MakeNoZero"], unfollowed := true, recurses := true, named := ["unicode/utf8.first", "unicode/utf8.acceptRanges", "internal/bytealg.MaxLen", "unicode.CaseRanges"], apart := false, laid := [("unicode/utf8.acceptRanges", laid_unicode_utf8_acceptRanges), ("unicode.CaseRanges", laid_unicode_CaseRanges), ("unicode/utf8.first", laid_unicode_utf8_first)], narrowed := true }
def IdentSplitsUptoSaid : Prop := identSplitsUptoRow.holds Tryd.pinned (OpenSpec.upto identSplitsSpec)

/-- 'wireschemalaw06.IdentCamels', WHERE WHAT IT READS IS OF BULK AT MOST 1048576: true; the input reads as it did. -/
def identCamelsUptoRow : OpenClaim := { program := "ytefnihgjacnjfaadoor", sum := "59d919000d977fe49fe05465af85f0be96dcb543f0205cd4fe4817eb56c0ff86", func := "wireschema/wireschemalaw06.IdentCamels", spec := "identCamels", inPlace := ["internal/bytealg.CountString", "internal/bytealg.IndexByteString", "internal/bytealg.IndexString", "internal/abi.NoEscape", "internal/bytealg.MakeNoZero"], unfollowed := true, recurses := true, named := ["unicode/utf8.first", "unicode/utf8.acceptRanges", "internal/bytealg.MaxLen", "unicode.CaseRanges"], apart := false, laid := [("unicode/utf8.acceptRanges", laid_unicode_utf8_acceptRanges), ("unicode.CaseRanges", laid_unicode_CaseRanges), ("unicode/utf8.first", laid_unicode_utf8_first)], narrowed := true }
def IdentCamelsUptoSaid : Prop := identCamelsUptoRow.holds Tryd.pinned (OpenSpec.upto identCamelsSpec)

end Rows
end Go.Proofs.YtefnihgjacnjfaaDoor
