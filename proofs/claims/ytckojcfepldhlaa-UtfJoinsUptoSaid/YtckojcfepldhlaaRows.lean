/-
  No cell of these rows narrows 'for every input' (looked for: loops, veiled, ifaces, maps, wideKeys, modest, calm, conditions, laid).
  DERIVED. THE GIVEN ROWS OF THIS SEAT. 8 by the template 'for every input the law returns true; each argument reads behind the call as it read before'; 0 by the template 'total and deterministic' (their statements: YtckojcfepldhlaaTotals.lean).
  GIVEN WITH THE SEED: the statements are not yours to turn. If you find one false, say at which input.
  Laid BY PROGRAM, IN A SANDBOX (cutbox-rows.mjs): the forced cells as the released guide's own fill.sh prints them over the translation d99b51fe6b33369b… (all of the seat's roots in one cut). By AI agents, Wed Nov 11 2026. No macro, syntax, notation, axiom, sorry.
-/
import Derived.Test.YtckojcfepldhlaaChecked
import GoSem.Claim
import GoSem.ClaimJoined
import GoSem.ClaimMapViews
import Derived.JoinedTies
import Derived.KernelRfl
namespace Go.Proofs.Ytckojcfepldhlaa
/- THE CELL 'sum', in the pinned program and in every row, IS THE sha256 OF THE DUMP (.gsa) THAT YtckojcfepldhlaaProg.lean LOADS. Nothing in Lean hashes anything: it is a label: what it is worth is what the hold of that sum in a sandbox is worth. -/
noncomputable def Try.pinned : Pinned := { name := "ytckojcfepldhlaa", sum := "d99b51fe6b33369b9bfc7a2881960f56324e96563690302b64c370e518eff495", checked := Try.checked }
namespace Rows
def none {H : Type} : Left H := { results := [], args := [] }

/-- 'wireschemalaw03.UtfValids': WHATEVER THE INPUT: true; the input reads as it did. -/
def utfValidsSpec : ChangeSpec := { name := "utfValids", fn := fun _ => fun
  | [d] => { results := [.lit (.bool true)], args := [d] }
  | _ => none }
def utfValidsRow : OpenClaim := { program := "ytckojcfepldhlaa", sum := "d99b51fe6b33369b9bfc7a2881960f56324e96563690302b64c370e518eff495", func := "wireschema/wireschemalaw03.UtfValids", spec := "utfValids", inPlace := ["internal/bytealg.IndexByteString", "internal/abi.NoEscape"], apart := false }
def UtfValidsSaid : Prop := utfValidsRow.holds Try.pinned (OpenSpec.ofChange utfValidsSpec)

/-- ITS FALSE NEIGHBOUR: 'it returns false'. Refute it at one input. -/
def utfValidsWrong : ChangeSpec := { name := "utfValids", fn := fun _ => fun
  | [d] => { results := [.lit (.bool false)], args := [d] }
  | _ => none }
def UtfValidsWrongFalsely : Prop := utfValidsRow.holds Try.pinned (OpenSpec.ofChange utfValidsWrong)

/-- 'wireschemalaw03.UtfQuotesTexts': WHATEVER THE INPUT: true; the input reads as it did. -/
def utfQuotesTextsSpec : ChangeSpec := { name := "utfQuotesTexts", fn := fun _ => fun
  | [d] => { results := [.lit (.bool true)], args := [d] }
  | _ => none }
def utfQuotesTextsRow : OpenClaim := { program := "ytckojcfepldhlaa", sum := "d99b51fe6b33369b9bfc7a2881960f56324e96563690302b64c370e518eff495", func := "wireschema/wireschemalaw03.UtfQuotesTexts", spec := "utfQuotesTexts", inPlace := ["internal/bytealg.IndexByteString", "internal/abi.NoEscape"], apart := false }
def UtfQuotesTextsSaid : Prop := utfQuotesTextsRow.holds Try.pinned (OpenSpec.ofChange utfQuotesTextsSpec)

/-- ITS FALSE NEIGHBOUR: 'it returns false'. Refute it at one input. -/
def utfQuotesTextsWrong : ChangeSpec := { name := "utfQuotesTexts", fn := fun _ => fun
  | [d] => { results := [.lit (.bool false)], args := [d] }
  | _ => none }
def UtfQuotesTextsWrongFalsely : Prop := utfQuotesTextsRow.holds Try.pinned (OpenSpec.ofChange utfQuotesTextsWrong)

/-- 'wireschemalaw03.UtfUnquotes': WHATEVER THE INPUT: true; the input reads as it did. -/
def utfUnquotesSpec : ChangeSpec := { name := "utfUnquotes", fn := fun _ => fun
  | [d] => { results := [.lit (.bool true)], args := [d] }
  | _ => none }
def utfUnquotesRow : OpenClaim := { program := "ytckojcfepldhlaa", sum := "d99b51fe6b33369b9bfc7a2881960f56324e96563690302b64c370e518eff495", func := "wireschema/wireschemalaw03.UtfUnquotes", spec := "utfUnquotes", inPlace := ["internal/bytealg.IndexByteString", "internal/abi.NoEscape"], apart := false }
def UtfUnquotesSaid : Prop := utfUnquotesRow.holds Try.pinned (OpenSpec.ofChange utfUnquotesSpec)

/-- ITS FALSE NEIGHBOUR: 'it returns false'. Refute it at one input. -/
def utfUnquotesWrong : ChangeSpec := { name := "utfUnquotes", fn := fun _ => fun
  | [d] => { results := [.lit (.bool false)], args := [d] }
  | _ => none }
def UtfUnquotesWrongFalsely : Prop := utfUnquotesRow.holds Try.pinned (OpenSpec.ofChange utfUnquotesWrong)

/-- 'wireschemalaw03.UtfHexes': WHATEVER THE INPUT: true; the input reads as it did. -/
def utfHexesSpec : ChangeSpec := { name := "utfHexes", fn := fun _ => fun
  | [d] => { results := [.lit (.bool true)], args := [d] }
  | _ => none }
def utfHexesRow : OpenClaim := { program := "ytckojcfepldhlaa", sum := "d99b51fe6b33369b9bfc7a2881960f56324e96563690302b64c370e518eff495", func := "wireschema/wireschemalaw03.UtfHexes", spec := "utfHexes", inPlace := ["internal/bytealg.IndexByteString", "internal/abi.NoEscape"], apart := false }
def UtfHexesSaid : Prop := utfHexesRow.holds Try.pinned (OpenSpec.ofChange utfHexesSpec)

/-- ITS FALSE NEIGHBOUR: 'it returns false'. Refute it at one input. -/
def utfHexesWrong : ChangeSpec := { name := "utfHexes", fn := fun _ => fun
  | [d] => { results := [.lit (.bool false)], args := [d] }
  | _ => none }
def UtfHexesWrongFalsely : Prop := utfHexesRow.holds Try.pinned (OpenSpec.ofChange utfHexesWrong)

/-- 'wireschemalaw03.UtfQuotes': WHATEVER THE INPUT: true; the input reads as it did. -/
def utfQuotesSpec : ChangeSpec := { name := "utfQuotes", fn := fun _ => fun
  | [d1, d2, d3] => { results := [.lit (.bool true)], args := [d1, d2, d3] }
  | _ => none }
def utfQuotesRow : OpenClaim := { program := "ytckojcfepldhlaa", sum := "d99b51fe6b33369b9bfc7a2881960f56324e96563690302b64c370e518eff495", func := "wireschema/wireschemalaw03.UtfQuotes", spec := "utfQuotes", inPlace := ["internal/abi.NoEscape", "internal/bytealg.IndexByteString"], apart := false }
def UtfQuotesSaid : Prop := utfQuotesRow.holds Try.pinned (OpenSpec.ofChange utfQuotesSpec)

/-- ITS FALSE NEIGHBOUR: 'it returns false'. Refute it at one input. -/
def utfQuotesWrong : ChangeSpec := { name := "utfQuotes", fn := fun _ => fun
  | [d1, d2, d3] => { results := [.lit (.bool false)], args := [d1, d2, d3] }
  | _ => none }
def UtfQuotesWrongFalsely : Prop := utfQuotesRow.holds Try.pinned (OpenSpec.ofChange utfQuotesWrong)

/-- 'wireschemalaw03.UtfPrintable': WHATEVER THE INPUT: true; the input reads as it did. -/
def utfPrintableSpec : ChangeSpec := { name := "utfPrintable", fn := fun _ => fun
  | [d] => { results := [.lit (.bool true)], args := [d] }
  | _ => none }
def utfPrintableRow : OpenClaim := { program := "ytckojcfepldhlaa", sum := "d99b51fe6b33369b9bfc7a2881960f56324e96563690302b64c370e518eff495", func := "wireschema/wireschemalaw03.UtfPrintable", spec := "utfPrintable", inPlace := ["internal/abi.NoEscape", "internal/bytealg.IndexByteString"], apart := false }
def UtfPrintableSaid : Prop := utfPrintableRow.holds Try.pinned (OpenSpec.ofChange utfPrintableSpec)

/-- ITS FALSE NEIGHBOUR: 'it returns false'. Refute it at one input. -/
def utfPrintableWrong : ChangeSpec := { name := "utfPrintable", fn := fun _ => fun
  | [d] => { results := [.lit (.bool false)], args := [d] }
  | _ => none }
def UtfPrintableWrongFalsely : Prop := utfPrintableRow.holds Try.pinned (OpenSpec.ofChange utfPrintableWrong)

/-- 'wireschemalaw03.UtfDigits': WHATEVER THE INPUT: true; the input reads as it did. -/
def utfDigitsSpec : ChangeSpec := { name := "utfDigits", fn := fun _ => fun
  | [d1, d2] => { results := [.lit (.bool true)], args := [d1, d2] }
  | _ => none }
def utfDigitsRow : OpenClaim := { program := "ytckojcfepldhlaa", sum := "d99b51fe6b33369b9bfc7a2881960f56324e96563690302b64c370e518eff495", func := "wireschema/wireschemalaw03.UtfDigits", spec := "utfDigits", inPlace := ["internal/bytealg.IndexByteString", "internal/abi.NoEscape"], apart := false }
def UtfDigitsSaid : Prop := utfDigitsRow.holds Try.pinned (OpenSpec.ofChange utfDigitsSpec)

/-- ITS FALSE NEIGHBOUR: 'it returns false'. Refute it at one input. -/
def utfDigitsWrong : ChangeSpec := { name := "utfDigits", fn := fun _ => fun
  | [d1, d2] => { results := [.lit (.bool false)], args := [d1, d2] }
  | _ => none }
def UtfDigitsWrongFalsely : Prop := utfDigitsRow.holds Try.pinned (OpenSpec.ofChange utfDigitsWrong)

/-- 'wireschemalaw03.UtfJoins': WHATEVER THE INPUT: true; the input reads as it did. -/
def utfJoinsSpec : ChangeSpec := { name := "utfJoins", fn := fun _ => fun
  | [d1, d2] => { results := [.lit (.bool true)], args := [d1, d2] }
  | _ => none }
def utfJoinsRow : OpenClaim := { program := "ytckojcfepldhlaa", sum := "d99b51fe6b33369b9bfc7a2881960f56324e96563690302b64c370e518eff495", func := "wireschema/wireschemalaw03.UtfJoins", spec := "utfJoins", inPlace := ["internal/bytealg.IndexByteString", "internal/abi.NoEscape"], apart := false }
def UtfJoinsSaid : Prop := utfJoinsRow.holds Try.pinned (OpenSpec.ofChange utfJoinsSpec)

/-- ITS FALSE NEIGHBOUR: 'it returns false'. Refute it at one input. -/
def utfJoinsWrong : ChangeSpec := { name := "utfJoins", fn := fun _ => fun
  | [d1, d2] => { results := [.lit (.bool false)], args := [d1, d2] }
  | _ => none }
def UtfJoinsWrongFalsely : Prop := utfJoinsRow.holds Try.pinned (OpenSpec.ofChange utfJoinsWrong)

/- THE SECOND FORM. 'bulk': how many values and letters a reading holds, each counted each time it is reached (what is shared counts as often as it is met; a slice's spare places count too). A statement '..UptoSaid' is the law's where the arguments, and the package variables that the reading takes, are together of bulk at most 1048576: NARROWER than '..Said'. Prove '..Said' where nothing that the law and all that it calls make is longer than what came in: it says more and counts as full. Else prove '..UptoSaid'. A law counts once. -/
mutual
def uptoBulk {H : Type} : DataW H → Nat
  | .lit (.string bytes) => bytes.length + 1
  | .lit _ => 1
  | .nil => 1
  | .ptr d => uptoBulk d + 1
  | .slice elems spare => uptoBulkAll elems + uptoBulkAll spare + 1
  | .agg parts => uptoBulkAll parts + 1
  | .iface _ d => uptoBulk d + 1
  | .map entries => uptoBulkEntries entries + 1
  | .held _ => 1
def uptoBulkAll {H : Type} : List (DataW H) → Nat
  | [] => 0
  | d :: r => uptoBulk d + uptoBulkAll r
def uptoBulkEntries {H : Type} : List (Lit × DataW H) → Nat
  | [] => 0
  | x :: r => uptoBulkEntry x + uptoBulkEntries r
def uptoBulkEntry {H : Type} : Lit × DataW H → Nat
  | (.string bytes, d) => bytes.length + uptoBulk d + 1
  | (_, d) => uptoBulk d + 1
 end
def uptoSmall : (H : Type) → List (DataW H) → Bool := fun _ ds => decide (uptoBulkAll ds ≤ 1048576)
def OpenSpec.upto (s : _root_.Go.ChangeSpec) : _root_.Go.OpenSpec := { _root_.Go.OpenSpec.ofChange s with cond := some uptoSmall }

/-- 'wireschemalaw03.UtfValids', WHERE WHAT IT READS IS OF BULK AT MOST 1048576: true; the input reads as it did. -/
def utfValidsUptoRow : OpenClaim := { program := "ytckojcfepldhlaa", sum := "d99b51fe6b33369b9bfc7a2881960f56324e96563690302b64c370e518eff495", func := "wireschema/wireschemalaw03.UtfValids", spec := "utfValids", inPlace := ["internal/bytealg.IndexByteString", "internal/abi.NoEscape"], apart := false, narrowed := true }
def UtfValidsUptoSaid : Prop := utfValidsUptoRow.holds Try.pinned (OpenSpec.upto utfValidsSpec)

/-- 'wireschemalaw03.UtfQuotesTexts', WHERE WHAT IT READS IS OF BULK AT MOST 1048576: true; the input reads as it did. -/
def utfQuotesTextsUptoRow : OpenClaim := { program := "ytckojcfepldhlaa", sum := "d99b51fe6b33369b9bfc7a2881960f56324e96563690302b64c370e518eff495", func := "wireschema/wireschemalaw03.UtfQuotesTexts", spec := "utfQuotesTexts", inPlace := ["internal/bytealg.IndexByteString", "internal/abi.NoEscape"], apart := false, narrowed := true }
def UtfQuotesTextsUptoSaid : Prop := utfQuotesTextsUptoRow.holds Try.pinned (OpenSpec.upto utfQuotesTextsSpec)

/-- 'wireschemalaw03.UtfUnquotes', WHERE WHAT IT READS IS OF BULK AT MOST 1048576: true; the input reads as it did. -/
def utfUnquotesUptoRow : OpenClaim := { program := "ytckojcfepldhlaa", sum := "d99b51fe6b33369b9bfc7a2881960f56324e96563690302b64c370e518eff495", func := "wireschema/wireschemalaw03.UtfUnquotes", spec := "utfUnquotes", inPlace := ["internal/bytealg.IndexByteString", "internal/abi.NoEscape"], apart := false, narrowed := true }
def UtfUnquotesUptoSaid : Prop := utfUnquotesUptoRow.holds Try.pinned (OpenSpec.upto utfUnquotesSpec)

/-- 'wireschemalaw03.UtfHexes', WHERE WHAT IT READS IS OF BULK AT MOST 1048576: true; the input reads as it did. -/
def utfHexesUptoRow : OpenClaim := { program := "ytckojcfepldhlaa", sum := "d99b51fe6b33369b9bfc7a2881960f56324e96563690302b64c370e518eff495", func := "wireschema/wireschemalaw03.UtfHexes", spec := "utfHexes", inPlace := ["internal/bytealg.IndexByteString", "internal/abi.NoEscape"], apart := false, narrowed := true }
def UtfHexesUptoSaid : Prop := utfHexesUptoRow.holds Try.pinned (OpenSpec.upto utfHexesSpec)

/-- 'wireschemalaw03.UtfQuotes', WHERE WHAT IT READS IS OF BULK AT MOST 1048576: true; the input reads as it did. -/
def utfQuotesUptoRow : OpenClaim := { program := "ytckojcfepldhlaa", sum := "d99b51fe6b33369b9bfc7a2881960f56324e96563690302b64c370e518eff495", func := "wireschema/wireschemalaw03.UtfQuotes", spec := "utfQuotes", inPlace := ["internal/abi.NoEscape", "internal/bytealg.IndexByteString"], apart := false, narrowed := true }
def UtfQuotesUptoSaid : Prop := utfQuotesUptoRow.holds Try.pinned (OpenSpec.upto utfQuotesSpec)

/-- 'wireschemalaw03.UtfPrintable', WHERE WHAT IT READS IS OF BULK AT MOST 1048576: true; the input reads as it did. -/
def utfPrintableUptoRow : OpenClaim := { program := "ytckojcfepldhlaa", sum := "d99b51fe6b33369b9bfc7a2881960f56324e96563690302b64c370e518eff495", func := "wireschema/wireschemalaw03.UtfPrintable", spec := "utfPrintable", inPlace := ["internal/abi.NoEscape", "internal/bytealg.IndexByteString"], apart := false, narrowed := true }
def UtfPrintableUptoSaid : Prop := utfPrintableUptoRow.holds Try.pinned (OpenSpec.upto utfPrintableSpec)

/-- 'wireschemalaw03.UtfDigits', WHERE WHAT IT READS IS OF BULK AT MOST 1048576: true; the input reads as it did. -/
def utfDigitsUptoRow : OpenClaim := { program := "ytckojcfepldhlaa", sum := "d99b51fe6b33369b9bfc7a2881960f56324e96563690302b64c370e518eff495", func := "wireschema/wireschemalaw03.UtfDigits", spec := "utfDigits", inPlace := ["internal/bytealg.IndexByteString", "internal/abi.NoEscape"], apart := false, narrowed := true }
def UtfDigitsUptoSaid : Prop := utfDigitsUptoRow.holds Try.pinned (OpenSpec.upto utfDigitsSpec)

/-- 'wireschemalaw03.UtfJoins', WHERE WHAT IT READS IS OF BULK AT MOST 1048576: true; the input reads as it did. -/
def utfJoinsUptoRow : OpenClaim := { program := "ytckojcfepldhlaa", sum := "d99b51fe6b33369b9bfc7a2881960f56324e96563690302b64c370e518eff495", func := "wireschema/wireschemalaw03.UtfJoins", spec := "utfJoins", inPlace := ["internal/bytealg.IndexByteString", "internal/abi.NoEscape"], apart := false, narrowed := true }
def UtfJoinsUptoSaid : Prop := utfJoinsUptoRow.holds Try.pinned (OpenSpec.upto utfJoinsSpec)

end Rows
end Go.Proofs.Ytckojcfepldhlaa
