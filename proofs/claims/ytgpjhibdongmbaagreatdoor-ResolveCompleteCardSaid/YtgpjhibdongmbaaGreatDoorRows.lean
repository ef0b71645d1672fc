/-
  NARROWER THAN 'FOR EVERY INPUT', by the rows' own cells (each row's printed sentence says how): ResolveMakes: loops, laid · ResolveLooks: laid · ResolveChecks: loops, laid · ResolveComplete: loops, laid · ResolveSelf: loops, laid · ResolveScalars: loops, laid.
  DERIVED. THE GIVEN ROWS OF THIS SEAT. 6 by the template 'for every input the law returns true; each argument reads behind the call as it read before'; 0 by the template 'total and deterministic' (their statements: YtgpjhibdongmbaaGreatDoorTotals.lean).
  GIVEN WITH THE SEED: the statements are not yours to turn. If you find one false, say at which input.
  Laid BY PROGRAM, IN A SANDBOX (cutbox-rows.mjs): the forced cells as the released guide's own fill.sh prints them over the translation 637186cae7c0290d… (all of the seat's roots in one cut). By AI agents, Wed Nov 11 2026. No macro, syntax, notation, axiom, sorry.
-/
import Derived.Test.YtgpjhibdongmbaaGreatDoorChecked
import GoSem.PinnedTables
import GoSem.Claim
import GoSem.ClaimJoined
import GoSem.ClaimMapViews
import Derived.JoinedTies
import Derived.KernelRfl
namespace Go.Proofs.YtgpjhibdongmbaaGreatDoor
/- THE CELL 'sum', in the pinned program and in every row, IS THE sha256 OF THE DUMP (.gsa) THAT YtgpjhibdongmbaaGreatDoorProg.lean LOADS. Nothing in Lean hashes anything: it is a label: what it is worth is what the hold of that sum in a sandbox is worth. -/
noncomputable def Tryz.pinned : Pinned := { name := "ytgpjhibdongmbaagreatdoor", sum := "637186cae7c0290da6444faa6eb34b8f58ae04518b132547790832b46f9f1166", checked := Tryz.checked }
namespace Rows
def none {H : Type} : Left H := { results := [], args := [] }

/- WHAT THE LISTED PACKAGE-LEVEL VARIABLES READ AS WHEN THE CALL BEGINS. Each datum BY PROGRAM (the guide's laid-datum.mjs) off the statement by which the dump's own 'gosem.cut.vars' lays the variable. In a bare row this is a premise. The card (YtgpjhibdongmbaaGreatDoorCards.lean) ties it to the program's text. -/
def laid_math_bits_deBruijn32tab {H : Type} : DataW H := .agg [.lit (.int .u8 0), .lit (.int .u8 1), .lit (.int .u8 28), .lit (.int .u8 2), .lit (.int .u8 29), .lit (.int .u8 14), .lit (.int .u8 24), .lit (.int .u8 3), .lit (.int .u8 30), .lit (.int .u8 22), .lit (.int .u8 20), .lit (.int .u8 15), .lit (.int .u8 25), .lit (.int .u8 17), .lit (.int .u8 4), .lit (.int .u8 8), .lit (.int .u8 31), .lit (.int .u8 27), .lit (.int .u8 13), .lit (.int .u8 23), .lit (.int .u8 21), .lit (.int .u8 19), .lit (.int .u8 16), .lit (.int .u8 7), .lit (.int .u8 26), .lit (.int .u8 12), .lit (.int .u8 18), .lit (.int .u8 6), .lit (.int .u8 11), .lit (.int .u8 5), .lit (.int .u8 10), .lit (.int .u8 9)]
def laid_math_bits_deBruijn64tab {H : Type} : DataW H := .agg [.lit (.int .u8 0), .lit (.int .u8 1), .lit (.int .u8 56), .lit (.int .u8 2), .lit (.int .u8 57), .lit (.int .u8 49), .lit (.int .u8 28), .lit (.int .u8 3), .lit (.int .u8 61), .lit (.int .u8 58), .lit (.int .u8 42), .lit (.int .u8 50), .lit (.int .u8 38), .lit (.int .u8 29), .lit (.int .u8 17), .lit (.int .u8 4), .lit (.int .u8 62), .lit (.int .u8 47), .lit (.int .u8 59), .lit (.int .u8 36), .lit (.int .u8 45), .lit (.int .u8 43), .lit (.int .u8 51), .lit (.int .u8 22), .lit (.int .u8 53), .lit (.int .u8 39), .lit (.int .u8 33), .lit (.int .u8 30), .lit (.int .u8 24), .lit (.int .u8 18), .lit (.int .u8 12), .lit (.int .u8 5), .lit (.int .u8 63), .lit (.int .u8 55), .lit (.int .u8 48), .lit (.int .u8 27), .lit (.int .u8 60), .lit (.int .u8 41), .lit (.int .u8 37), .lit (.int .u8 16), .lit (.int .u8 46), .lit (.int .u8 35), .lit (.int .u8 44), .lit (.int .u8 21), .lit (.int .u8 52), .lit (.int .u8 32), .lit (.int .u8 23), .lit (.int .u8 11), .lit (.int .u8 54), .lit (.int .u8 26), .lit (.int .u8 40), .lit (.int .u8 15), .lit (.int .u8 34), .lit (.int .u8 20), .lit (.int .u8 31), .lit (.int .u8 10), .lit (.int .u8 25), .lit (.int .u8 14), .lit (.int .u8 19), .lit (.int .u8 9), .lit (.int .u8 13), .lit (.int .u8 8), .lit (.int .u8 7), .lit (.int .u8 6)]
def laid_internal_strconv_uint64pow10 {H : Type} : DataW H := .agg [.lit (.int .u64 1), .lit (.int .u64 10), .lit (.int .u64 100), .lit (.int .u64 1000), .lit (.int .u64 10000), .lit (.int .u64 100000), .lit (.int .u64 1000000), .lit (.int .u64 10000000), .lit (.int .u64 100000000), .lit (.int .u64 1000000000), .lit (.int .u64 10000000000), .lit (.int .u64 100000000000), .lit (.int .u64 1000000000000), .lit (.int .u64 10000000000000), .lit (.int .u64 100000000000000), .lit (.int .u64 1000000000000000), .lit (.int .u64 10000000000000000), .lit (.int .u64 100000000000000000), .lit (.int .u64 1000000000000000000), .lit (.int .u64 10000000000000000000)]
def laid_unicode_utf8_acceptRanges {H : Type} : DataW H := .agg [.agg [.lit (.int .u8 128), .lit (.int .u8 191)], .agg [.lit (.int .u8 160), .lit (.int .u8 191)], .agg [.lit (.int .u8 128), .lit (.int .u8 159)], .agg [.lit (.int .u8 144), .lit (.int .u8 191)], .agg [.lit (.int .u8 128), .lit (.int .u8 143)], .agg [.lit (.int .u8 0), .lit (.int .u8 0)], .agg [.lit (.int .u8 0), .lit (.int .u8 0)], .agg [.lit (.int .u8 0), .lit (.int .u8 0)], .agg [.lit (.int .u8 0), .lit (.int .u8 0)], .agg [.lit (.int .u8 0), .lit (.int .u8 0)], .agg [.lit (.int .u8 0), .lit (.int .u8 0)], .agg [.lit (.int .u8 0), .lit (.int .u8 0)], .agg [.lit (.int .u8 0), .lit (.int .u8 0)], .agg [.lit (.int .u8 0), .lit (.int .u8 0)], .agg [.lit (.int .u8 0), .lit (.int .u8 0)], .agg [.lit (.int .u8 0), .lit (.int .u8 0)]]
def laid_wireschema_promote_families {H : Type} : DataW H := .agg [.agg [.lit (.int .i64 1), .lit (.int .i64 2), .lit (.int .i64 2), .lit (.int .i64 1), .lit (.int .i64 1), .lit (.int .i64 6), .lit (.int .i64 7), .lit (.int .i64 7), .lit (.int .i64 1)], .agg [.lit (.int .i64 1), .lit (.int .i64 2), .lit (.int .i64 2), .lit (.int .i64 2), .lit (.int .i64 2), .lit (.int .i64 6), .lit (.int .i64 7), .lit (.int .i64 7), .lit (.int .i64 2)], .agg [.lit (.int .i64 1), .lit (.int .i64 2), .lit (.int .i64 2), .lit (.int .i64 2), .lit (.int .i64 2), .lit (.int .i64 6), .lit (.int .i64 7), .lit (.int .i64 8), .lit (.int .i64 9)]]
def laid_wireschema_promote_bounds {H : Type} : DataW H := .agg [.agg [.lit (.int .u64 0), .lit (.int .u64 1)], .agg [.lit (.int .u64 2147483648), .lit (.int .u64 2147483647)], .agg [.lit (.int .u64 9223372036854775808), .lit (.int .u64 9223372036854775807)], .agg [.lit (.int .u64 0), .lit (.int .u64 4294967295)], .agg [.lit (.int .u64 0), .lit (.int .u64 18446744073709551615)], .agg [.lit (.int .u64 0), .lit (.int .u64 0)], .agg [.lit (.int .u64 0), .lit (.int .u64 0)], .agg [.lit (.int .u64 0), .lit (.int .u64 0)], .agg [.lit (.int .u64 0), .lit (.int .u64 2147483647)]]
/-- One of Go's own tables, pinned by name: the form's constant. -/
def laid_unicode_utf8_first : DataW Unit := Go.Pinned.utf8First

/-- 'wireschemalaw31.ResolveMakes': WHATEVER THE INPUT: true; the input reads as it did. -/
def resolveMakesSpec : ChangeSpec := { name := "resolveMakes", fn := fun _ => fun
  | [d1, d2, d3] => { results := [.lit (.bool true)], args := [d1, d2, d3] }
  | _ => none }
def resolveMakesRow : OpenClaim := { program := "ytgpjhibdongmbaagreatdoor", sum := "637186cae7c0290da6444faa6eb34b8f58ae04518b132547790832b46f9f1166", func := "wireschema/wireschemalaw31.ResolveMakes", spec := "resolveMakes", inPlace := ["internal/bytealg.CountString", "internal/bytealg.IndexByteString", "internal/bytealg.IndexString", "internal/abi.NoEscape"], unfollowed := true, recurses := true, named := ["unicode/utf8.first", "unicode/utf8.acceptRanges", "internal/bytealg.MaxLen", "wireschema/promote.bounds", "wireschema/promote.families", "internal/strconv.uint64pow10", "math/bits.deBruijn32tab", "math/bits.deBruijn64tab"], loops := true, apart := false, laid := [("math/bits.deBruijn32tab", laid_math_bits_deBruijn32tab), ("math/bits.deBruijn64tab", laid_math_bits_deBruijn64tab), ("internal/strconv.uint64pow10", laid_internal_strconv_uint64pow10), ("unicode/utf8.acceptRanges", laid_unicode_utf8_acceptRanges), ("wireschema/promote.families", laid_wireschema_promote_families), ("wireschema/promote.bounds", laid_wireschema_promote_bounds), ("unicode/utf8.first", laid_unicode_utf8_first)] }
def ResolveMakesSaid : Prop := resolveMakesRow.holds Tryz.pinned (OpenSpec.ofChange resolveMakesSpec)

/-- ITS FALSE NEIGHBOUR: 'it returns false'. Refute it at one input. -/
def resolveMakesWrong : ChangeSpec := { name := "resolveMakes", fn := fun _ => fun
  | [d1, d2, d3] => { results := [.lit (.bool false)], args := [d1, d2, d3] }
  | _ => none }
def ResolveMakesWrongFalsely : Prop := resolveMakesRow.holds Tryz.pinned (OpenSpec.ofChange resolveMakesWrong)

/-- 'wireschemalaw31.ResolveLooks': WHATEVER THE INPUT: true; the input reads as it did. -/
def resolveLooksSpec : ChangeSpec := { name := "resolveLooks", fn := fun _ => fun
  | [d1, d2, d3, d4] => { results := [.lit (.bool true)], args := [d1, d2, d3, d4] }
  | _ => none }
def resolveLooksRow : OpenClaim := { program := "ytgpjhibdongmbaagreatdoor", sum := "637186cae7c0290da6444faa6eb34b8f58ae04518b132547790832b46f9f1166", func := "wireschema/wireschemalaw31.ResolveLooks", spec := "resolveLooks", inPlace := ["internal/bytealg.CountString", "internal/bytealg.IndexByteString", "internal/bytealg.IndexString", "internal/abi.NoEscape"], unfollowed := true, recurses := true, named := ["unicode/utf8.first", "unicode/utf8.acceptRanges", "internal/bytealg.MaxLen", "wireschema/promote.bounds", "wireschema/promote.families", "internal/strconv.uint64pow10", "math/bits.deBruijn32tab", "math/bits.deBruijn64tab"], apart := false, laid := [("math/bits.deBruijn32tab", laid_math_bits_deBruijn32tab), ("math/bits.deBruijn64tab", laid_math_bits_deBruijn64tab), ("internal/strconv.uint64pow10", laid_internal_strconv_uint64pow10), ("unicode/utf8.acceptRanges", laid_unicode_utf8_acceptRanges), ("wireschema/promote.families", laid_wireschema_promote_families), ("wireschema/promote.bounds", laid_wireschema_promote_bounds), ("unicode/utf8.first", laid_unicode_utf8_first)] }
def ResolveLooksSaid : Prop := resolveLooksRow.holds Tryz.pinned (OpenSpec.ofChange resolveLooksSpec)

/-- ITS FALSE NEIGHBOUR: 'it returns false'. Refute it at one input. -/
def resolveLooksWrong : ChangeSpec := { name := "resolveLooks", fn := fun _ => fun
  | [d1, d2, d3, d4] => { results := [.lit (.bool false)], args := [d1, d2, d3, d4] }
  | _ => none }
def ResolveLooksWrongFalsely : Prop := resolveLooksRow.holds Tryz.pinned (OpenSpec.ofChange resolveLooksWrong)

/-- 'wireschemalaw31.ResolveChecks': WHATEVER THE INPUT: true; the input reads as it did. -/
def resolveChecksSpec : ChangeSpec := { name := "resolveChecks", fn := fun _ => fun
  | [d1, d2, d3] => { results := [.lit (.bool true)], args := [d1, d2, d3] }
  | _ => none }
def resolveChecksRow : OpenClaim := { program := "ytgpjhibdongmbaagreatdoor", sum := "637186cae7c0290da6444faa6eb34b8f58ae04518b132547790832b46f9f1166", func := "wireschema/wireschemalaw31.ResolveChecks", spec := "resolveChecks", inPlace := ["internal/bytealg.CountString", "internal/bytealg.IndexByteString", "internal/bytealg.IndexString", "internal/abi.NoEscape"], unfollowed := true, recurses := true, named := ["unicode/utf8.first", "unicode/utf8.acceptRanges", "internal/bytealg.MaxLen", "wireschema/promote.bounds", "wireschema/promote.families", "internal/strconv.uint64pow10", "math/bits.deBruijn32tab", "math/bits.deBruijn64tab"], loops := true, apart := false, laid := [("math/bits.deBruijn32tab", laid_math_bits_deBruijn32tab), ("math/bits.deBruijn64tab", laid_math_bits_deBruijn64tab), ("internal/strconv.uint64pow10", laid_internal_strconv_uint64pow10), ("unicode/utf8.acceptRanges", laid_unicode_utf8_acceptRanges), ("wireschema/promote.families", laid_wireschema_promote_families), ("wireschema/promote.bounds", laid_wireschema_promote_bounds), ("unicode/utf8.first", laid_unicode_utf8_first)] }
def ResolveChecksSaid : Prop := resolveChecksRow.holds Tryz.pinned (OpenSpec.ofChange resolveChecksSpec)

/-- ITS FALSE NEIGHBOUR: 'it returns false'. Refute it at one input. -/
def resolveChecksWrong : ChangeSpec := { name := "resolveChecks", fn := fun _ => fun
  | [d1, d2, d3] => { results := [.lit (.bool false)], args := [d1, d2, d3] }
  | _ => none }
def ResolveChecksWrongFalsely : Prop := resolveChecksRow.holds Tryz.pinned (OpenSpec.ofChange resolveChecksWrong)

/-- 'wireschemalaw31.ResolveComplete': WHATEVER THE INPUT: true; the input reads as it did. -/
def resolveCompleteSpec : ChangeSpec := { name := "resolveComplete", fn := fun _ => fun
  | [d1, d2, d3] => { results := [.lit (.bool true)], args := [d1, d2, d3] }
  | _ => none }
def resolveCompleteRow : OpenClaim := { program := "ytgpjhibdongmbaagreatdoor", sum := "637186cae7c0290da6444faa6eb34b8f58ae04518b132547790832b46f9f1166", func := "wireschema/wireschemalaw31.ResolveComplete", spec := "resolveComplete", inPlace := ["internal/bytealg.CountString", "internal/bytealg.IndexByteString", "internal/bytealg.IndexString", "internal/abi.NoEscape"], unfollowed := true, recurses := true, named := ["unicode/utf8.first", "unicode/utf8.acceptRanges", "internal/bytealg.MaxLen", "wireschema/promote.bounds", "wireschema/promote.families", "internal/strconv.uint64pow10", "math/bits.deBruijn32tab", "math/bits.deBruijn64tab"], loops := true, apart := false, laid := [("math/bits.deBruijn32tab", laid_math_bits_deBruijn32tab), ("math/bits.deBruijn64tab", laid_math_bits_deBruijn64tab), ("internal/strconv.uint64pow10", laid_internal_strconv_uint64pow10), ("unicode/utf8.acceptRanges", laid_unicode_utf8_acceptRanges), ("wireschema/promote.families", laid_wireschema_promote_families), ("wireschema/promote.bounds", laid_wireschema_promote_bounds), ("unicode/utf8.first", laid_unicode_utf8_first)] }
def ResolveCompleteSaid : Prop := resolveCompleteRow.holds Tryz.pinned (OpenSpec.ofChange resolveCompleteSpec)

/-- ITS FALSE NEIGHBOUR: 'it returns false'. Refute it at one input. -/
def resolveCompleteWrong : ChangeSpec := { name := "resolveComplete", fn := fun _ => fun
  | [d1, d2, d3] => { results := [.lit (.bool false)], args := [d1, d2, d3] }
  | _ => none }
def ResolveCompleteWrongFalsely : Prop := resolveCompleteRow.holds Tryz.pinned (OpenSpec.ofChange resolveCompleteWrong)

/-- 'wireschemalaw31.ResolveSelf': WHATEVER THE INPUT: true; the input reads as it did. -/
def resolveSelfSpec : ChangeSpec := { name := "resolveSelf", fn := fun _ => fun
  | [d1, d2] => { results := [.lit (.bool true)], args := [d1, d2] }
  | _ => none }
def resolveSelfRow : OpenClaim := { program := "ytgpjhibdongmbaagreatdoor", sum := "637186cae7c0290da6444faa6eb34b8f58ae04518b132547790832b46f9f1166", func := "wireschema/wireschemalaw31.ResolveSelf", spec := "resolveSelf", inPlace := ["internal/bytealg.CountString", "internal/bytealg.IndexByteString", "internal/bytealg.IndexString", "internal/abi.NoEscape"], unfollowed := true, recurses := true, named := ["unicode/utf8.first", "unicode/utf8.acceptRanges", "internal/bytealg.MaxLen", "wireschema/promote.bounds", "wireschema/promote.families", "internal/strconv.uint64pow10", "math/bits.deBruijn32tab", "math/bits.deBruijn64tab"], loops := true, apart := false, laid := [("math/bits.deBruijn32tab", laid_math_bits_deBruijn32tab), ("math/bits.deBruijn64tab", laid_math_bits_deBruijn64tab), ("internal/strconv.uint64pow10", laid_internal_strconv_uint64pow10), ("unicode/utf8.acceptRanges", laid_unicode_utf8_acceptRanges), ("wireschema/promote.families", laid_wireschema_promote_families), ("wireschema/promote.bounds", laid_wireschema_promote_bounds), ("unicode/utf8.first", laid_unicode_utf8_first)] }
def ResolveSelfSaid : Prop := resolveSelfRow.holds Tryz.pinned (OpenSpec.ofChange resolveSelfSpec)

/-- ITS FALSE NEIGHBOUR: 'it returns false'. Refute it at one input. -/
def resolveSelfWrong : ChangeSpec := { name := "resolveSelf", fn := fun _ => fun
  | [d1, d2] => { results := [.lit (.bool false)], args := [d1, d2] }
  | _ => none }
def ResolveSelfWrongFalsely : Prop := resolveSelfRow.holds Tryz.pinned (OpenSpec.ofChange resolveSelfWrong)

/-- 'wireschemalaw31.ResolveScalars': WHATEVER THE INPUT: true; the input reads as it did. -/
def resolveScalarsSpec : ChangeSpec := { name := "resolveScalars", fn := fun _ => fun
  | [d1, d2, d3] => { results := [.lit (.bool true)], args := [d1, d2, d3] }
  | _ => none }
def resolveScalarsRow : OpenClaim := { program := "ytgpjhibdongmbaagreatdoor", sum := "637186cae7c0290da6444faa6eb34b8f58ae04518b132547790832b46f9f1166", func := "wireschema/wireschemalaw31.ResolveScalars", spec := "resolveScalars", inPlace := ["internal/bytealg.CountString", "internal/bytealg.IndexByteString", "internal/bytealg.IndexString", "internal/abi.NoEscape"], unfollowed := true, recurses := true, named := ["unicode/utf8.first", "unicode/utf8.acceptRanges", "internal/bytealg.MaxLen", "wireschema/promote.bounds", "wireschema/promote.families", "internal/strconv.uint64pow10", "math/bits.deBruijn32tab", "math/bits.deBruijn64tab"], loops := true, apart := false, laid := [("math/bits.deBruijn32tab", laid_math_bits_deBruijn32tab), ("math/bits.deBruijn64tab", laid_math_bits_deBruijn64tab), ("internal/strconv.uint64pow10", laid_internal_strconv_uint64pow10), ("unicode/utf8.acceptRanges", laid_unicode_utf8_acceptRanges), ("wireschema/promote.families", laid_wireschema_promote_families), ("wireschema/promote.bounds", laid_wireschema_promote_bounds), ("unicode/utf8.first", laid_unicode_utf8_first)] }
def ResolveScalarsSaid : Prop := resolveScalarsRow.holds Tryz.pinned (OpenSpec.ofChange resolveScalarsSpec)

/-- ITS FALSE NEIGHBOUR: 'it returns false'. Refute it at one input. -/
def resolveScalarsWrong : ChangeSpec := { name := "resolveScalars", fn := fun _ => fun
  | [d1, d2, d3] => { results := [.lit (.bool false)], args := [d1, d2, d3] }
  | _ => none }
def ResolveScalarsWrongFalsely : Prop := resolveScalarsRow.holds Tryz.pinned (OpenSpec.ofChange resolveScalarsWrong)

/- THE SECOND FORM. 'bulk': how many values and letters a reading holds, each counted each time it is reached (what is shared counts as often as it is met; a slice's spare places count too). A statement '..UptoSaid' is the law's where the arguments, and the package variables that the reading takes, are together of bulk at most 1048576: NARROWER than '..Said'. Prove '..Said' where nothing that the law and all that it calls make is longer than what came in: it says more and counts as full. Else prove '..UptoSaid'. A law counts once. -/
mutual
def uptoBulk {H : Type} : DataW H → Nat
  | .lit (.string bytes) => bytes.length + 1
  | .lit _ => 1
  | .nil => 1
  | .ptr d => uptoBulk d + 1
  | .slice elems spare => uptoBulkAll elems + uptoBulkAll spare + 1
  | .agg parts => uptoBulkAll parts + 1
  | .iface _ d => uptoBulk d + 1
  | .map entries => uptoBulkEntries entries + 1
  | .held _ => 1
def uptoBulkAll {H : Type} : List (DataW H) → Nat
  | [] => 0
  | d :: r => uptoBulk d + uptoBulkAll r
def uptoBulkEntries {H : Type} : List (Lit × DataW H) → Nat
  | [] => 0
  | x :: r => uptoBulkEntry x + uptoBulkEntries r
def uptoBulkEntry {H : Type} : Lit × DataW H → Nat
  | (.string bytes, d) => bytes.length + uptoBulk d + 1
  | (_, d) => uptoBulk d + 1
 end
def uptoSmall : (H : Type) → List (DataW H) → Bool := fun _ ds => decide (uptoBulkAll ds ≤ 1048576)
def OpenSpec.upto (s : _root_.Go.ChangeSpec) : _root_.Go.OpenSpec := { _root_.Go.OpenSpec.ofChange s with cond := some uptoSmall }

/-- 'wireschemalaw31.ResolveMakes', WHERE WHAT IT READS IS OF BULK AT MOST 1048576: true; the input reads as it did. -/
def resolveMakesUptoRow : OpenClaim := { program := "ytgpjhibdongmbaagreatdoor", sum := "637186cae7c0290da6444faa6eb34b8f58ae04518b132547790832b46f9f1166", func := "wireschema/wireschemalaw31.ResolveMakes", spec := "resolveMakes", inPlace := ["internal/bytealg.CountString", "internal/bytealg.IndexByteString", "internal/bytealg.IndexString", "internal/abi.NoEscape"], unfollowed := true, recurses := true, named := ["unicode/utf8.first", "unicode/utf8.acceptRanges", "internal/bytealg.MaxLen", "wireschema/promote.bounds", "wireschema/promote.families", "internal/strconv.uint64pow10", "math/bits.deBruijn32tab", "math/bits.deBruijn64tab"], loops := true, apart := false, laid := [("math/bits.deBruijn32tab", laid_math_bits_deBruijn32tab), ("math/bits.deBruijn64tab", laid_math_bits_deBruijn64tab), ("internal/strconv.uint64pow10", laid_internal_strconv_uint64pow10), ("unicode/utf8.acceptRanges", laid_unicode_utf8_acceptRanges), ("wireschema/promote.families", laid_wireschema_promote_families), ("wireschema/promote.bounds", laid_wireschema_promote_bounds), ("unicode/utf8.first", laid_unicode_utf8_first)], narrowed := true }
def ResolveMakesUptoSaid : Prop := resolveMakesUptoRow.holds Tryz.pinned (OpenSpec.upto resolveMakesSpec)

/-- 'wireschemalaw31.ResolveLooks', WHERE WHAT IT READS IS OF BULK AT MOST 1048576: true; the input reads as it did. -/
def resolveLooksUptoRow : OpenClaim := { program := "ytgpjhibdongmbaagreatdoor", sum := "637186cae7c0290da6444faa6eb34b8f58ae04518b132547790832b46f9f1166", func := "wireschema/wireschemalaw31.ResolveLooks", spec := "resolveLooks", inPlace := ["internal/bytealg.CountString", "internal/bytealg.IndexByteString", "internal/bytealg.IndexString", "internal/abi.NoEscape"], unfollowed := true, recurses := true, named := ["unicode/utf8.first", "unicode/utf8.acceptRanges", "internal/bytealg.MaxLen", "wireschema/promote.bounds", "wireschema/promote.families", "internal/strconv.uint64pow10", "math/bits.deBruijn32tab", "math/bits.deBruijn64tab"], apart := false, laid := [("math/bits.deBruijn32tab", laid_math_bits_deBruijn32tab), ("math/bits.deBruijn64tab", laid_math_bits_deBruijn64tab), ("internal/strconv.uint64pow10", laid_internal_strconv_uint64pow10), ("unicode/utf8.acceptRanges", laid_unicode_utf8_acceptRanges), ("wireschema/promote.families", laid_wireschema_promote_families), ("wireschema/promote.bounds", laid_wireschema_promote_bounds), ("unicode/utf8.first", laid_unicode_utf8_first)], narrowed := true }
def ResolveLooksUptoSaid : Prop := resolveLooksUptoRow.holds Tryz.pinned (OpenSpec.upto resolveLooksSpec)

/-- 'wireschemalaw31.ResolveChecks', WHERE WHAT IT READS IS OF BULK AT MOST 1048576: true; the input reads as it did. -/
def resolveChecksUptoRow : OpenClaim := { program := "ytgpjhibdongmbaagreatdoor", sum := "637186cae7c0290da6444faa6eb34b8f58ae04518b132547790832b46f9f1166", func := "wireschema/wireschemalaw31.ResolveChecks", spec := "resolveChecks", inPlace := ["internal/bytealg.CountString", "internal/bytealg.IndexByteString", "internal/bytealg.IndexString", "internal/abi.NoEscape"], unfollowed := true, recurses := true, named := ["unicode/utf8.first", "unicode/utf8.acceptRanges", "internal/bytealg.MaxLen", "wireschema/promote.bounds", "wireschema/promote.families", "internal/strconv.uint64pow10", "math/bits.deBruijn32tab", "math/bits.deBruijn64tab"], loops := true, apart := false, laid := [("math/bits.deBruijn32tab", laid_math_bits_deBruijn32tab), ("math/bits.deBruijn64tab", laid_math_bits_deBruijn64tab), ("internal/strconv.uint64pow10", laid_internal_strconv_uint64pow10), ("unicode/utf8.acceptRanges", laid_unicode_utf8_acceptRanges), ("wireschema/promote.families", laid_wireschema_promote_families), ("wireschema/promote.bounds", laid_wireschema_promote_bounds), ("unicode/utf8.first", laid_unicode_utf8_first)], narrowed := true }
def ResolveChecksUptoSaid : Prop := resolveChecksUptoRow.holds Tryz.pinned (OpenSpec.upto resolveChecksSpec)

/-- 'wireschemalaw31.ResolveComplete', WHERE WHAT IT READS IS OF BULK AT MOST 1048576: true; the input reads as it did. -/
def resolveCompleteUptoRow : OpenClaim := { program := "ytgpjhibdongmbaagreatdoor", sum := "637186cae7c0290da6444faa6eb34b8f58ae04518b132547790832b46f9f1166", func := "wireschema/wireschemalaw31.ResolveComplete", spec := "resolveComplete", inPlace := ["internal/bytealg.CountString", "internal/bytealg.IndexByteString", "internal/bytealg.IndexString", "internal/abi.NoEscape"], unfollowed := true, recurses := true, named := ["unicode/utf8.first", "unicode/utf8.acceptRanges", "internal/bytealg.MaxLen", "wireschema/promote.bounds", "wireschema/promote.families", "internal/strconv.uint64pow10", "math/bits.deBruijn32tab", "math/bits.deBruijn64tab"], loops := true, apart := false, laid := [("math/bits.deBruijn32tab", laid_math_bits_deBruijn32tab), ("math/bits.deBruijn64tab", laid_math_bits_deBruijn64tab), ("internal/strconv.uint64pow10", laid_internal_strconv_uint64pow10), ("unicode/utf8.acceptRanges", laid_unicode_utf8_acceptRanges), ("wireschema/promote.families", laid_wireschema_promote_families), ("wireschema/promote.bounds", laid_wireschema_promote_bounds), ("unicode/utf8.first", laid_unicode_utf8_first)], narrowed := true }
def ResolveCompleteUptoSaid : Prop := resolveCompleteUptoRow.holds Tryz.pinned (OpenSpec.upto resolveCompleteSpec)

/-- 'wireschemalaw31.ResolveSelf', WHERE WHAT IT READS IS OF BULK AT MOST 1048576: true; the input reads as it did. -/
def resolveSelfUptoRow : OpenClaim := { program := "ytgpjhibdongmbaagreatdoor", sum := "637186cae7c0290da6444faa6eb34b8f58ae04518b132547790832b46f9f1166", func := "wireschema/wireschemalaw31.ResolveSelf", spec := "resolveSelf", inPlace := ["internal/bytealg.CountString", "internal/bytealg.IndexByteString", "internal/bytealg.IndexString", "internal/abi.NoEscape"], unfollowed := true, recurses := true, named := ["unicode/utf8.first", "unicode/utf8.acceptRanges", "internal/bytealg.MaxLen", "wireschema/promote.bounds", "wireschema/promote.families", "internal/strconv.uint64pow10", "math/bits.deBruijn32tab", "math/bits.deBruijn64tab"], loops := true, apart := false, laid := [("math/bits.deBruijn32tab", laid_math_bits_deBruijn32tab), ("math/bits.deBruijn64tab", laid_math_bits_deBruijn64tab), ("internal/strconv.uint64pow10", laid_internal_strconv_uint64pow10), ("unicode/utf8.acceptRanges", laid_unicode_utf8_acceptRanges), ("wireschema/promote.families", laid_wireschema_promote_families), ("wireschema/promote.bounds", laid_wireschema_promote_bounds), ("unicode/utf8.first", laid_unicode_utf8_first)], narrowed := true }
def ResolveSelfUptoSaid : Prop := resolveSelfUptoRow.holds Tryz.pinned (OpenSpec.upto resolveSelfSpec)

/-- 'wireschemalaw31.ResolveScalars', WHERE WHAT IT READS IS OF BULK AT MOST 1048576: true; the input reads as it did. -/
def resolveScalarsUptoRow : OpenClaim := { program := "ytgpjhibdongmbaagreatdoor", sum := "637186cae7c0290da6444faa6eb34b8f58ae04518b132547790832b46f9f1166", func := "wireschema/wireschemalaw31.ResolveScalars", spec := "resolveScalars", inPlace := ["internal/bytealg.CountString", "internal/bytealg.IndexByteString", "internal/bytealg.IndexString", "internal/abi.NoEscape"], unfollowed := true, recurses := true, named := ["unicode/utf8.first", "unicode/utf8.acceptRanges", "internal/bytealg.MaxLen", "wireschema/promote.bounds", "wireschema/promote.families", "internal/strconv.uint64pow10", "math/bits.deBruijn32tab", "math/bits.deBruijn64tab"], loops := true, apart := false, laid := [("math/bits.deBruijn32tab", laid_math_bits_deBruijn32tab), ("math/bits.deBruijn64tab", laid_math_bits_deBruijn64tab), ("internal/strconv.uint64pow10", laid_internal_strconv_uint64pow10), ("unicode/utf8.acceptRanges", laid_unicode_utf8_acceptRanges), ("wireschema/promote.families", laid_wireschema_promote_families), ("wireschema/promote.bounds", laid_wireschema_promote_bounds), ("unicode/utf8.first", laid_unicode_utf8_first)], narrowed := true }
def ResolveScalarsUptoSaid : Prop := resolveScalarsUptoRow.holds Tryz.pinned (OpenSpec.upto resolveScalarsSpec)

end Rows
end Go.Proofs.YtgpjhibdongmbaaGreatDoor
