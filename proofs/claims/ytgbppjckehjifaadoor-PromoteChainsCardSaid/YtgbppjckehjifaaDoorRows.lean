/-
  NARROWER THAN 'FOR EVERY INPUT', by the rows' own cells (each row's printed sentence says how): PromoteLevels: laid · PromoteTurns: loops, laid · PromoteHonest: loops, laid · PromoteBack: loops, laid · PromoteChains: loops, laid.
  DERIVED. THE GIVEN ROWS OF THIS SEAT. 5 by the template 'for every input the law returns true; each argument reads behind the call as it read before'; 0 by the template 'total and deterministic' (their statements: YtgbppjckehjifaaDoorTotals.lean).
  GIVEN WITH THE SEED: the statements are not yours to turn. If you find one false, say at which input.
  Laid BY PROGRAM, IN A SANDBOX (cutbox-rows.mjs): the forced cells as the released guide's own fill.sh prints them over the translation a2d1bec418374e28… (all of the seat's roots in one cut). By AI agents, Wed Nov 11 2026. No macro, syntax, notation, axiom, sorry.
-/
import Derived.Test.YtgbppjckehjifaaDoorChecked
import GoSem.Claim
import GoSem.ClaimJoined
import GoSem.ClaimMapViews
import Derived.JoinedTies
import Derived.KernelRfl
namespace Go.Proofs.YtgbppjckehjifaaDoor
/- THE CELL 'sum', in the pinned program and in every row, IS THE sha256 OF THE DUMP (.gsa) THAT YtgbppjckehjifaaDoorProg.lean LOADS. Nothing in Lean hashes anything: it is a label: what it is worth is what the hold of that sum in a sandbox is worth. -/
noncomputable def Tryd.pinned : Pinned := { name := "ytgbppjckehjifaadoor", sum := "a2d1bec418374e28edf480df86905a83df6e3356dbec5ce2f18cc4e46b1ac278", checked := Tryd.checked }
namespace Rows
def none {H : Type} : Left H := { results := [], args := [] }

/- WHAT THE LISTED PACKAGE-LEVEL VARIABLES READ AS WHEN THE CALL BEGINS. Each datum BY PROGRAM (the guide's laid-datum.mjs) off the statement by which the dump's own 'gosem.cut.vars' lays the variable. In a bare row this is a premise. The card (YtgbppjckehjifaaDoorCards.lean) ties it to the program's text. -/
def laid_wireschema_promote_families {H : Type} : DataW H := .agg [.agg [.lit (.int .i64 1), .lit (.int .i64 2), .lit (.int .i64 2), .lit (.int .i64 1), .lit (.int .i64 1), .lit (.int .i64 6), .lit (.int .i64 7), .lit (.int .i64 7), .lit (.int .i64 1)], .agg [.lit (.int .i64 1), .lit (.int .i64 2), .lit (.int .i64 2), .lit (.int .i64 2), .lit (.int .i64 2), .lit (.int .i64 6), .lit (.int .i64 7), .lit (.int .i64 7), .lit (.int .i64 2)], .agg [.lit (.int .i64 1), .lit (.int .i64 2), .lit (.int .i64 2), .lit (.int .i64 2), .lit (.int .i64 2), .lit (.int .i64 6), .lit (.int .i64 7), .lit (.int .i64 8), .lit (.int .i64 9)]]
def laid_wireschema_promote_bounds {H : Type} : DataW H := .agg [.agg [.lit (.int .u64 0), .lit (.int .u64 1)], .agg [.lit (.int .u64 2147483648), .lit (.int .u64 2147483647)], .agg [.lit (.int .u64 9223372036854775808), .lit (.int .u64 9223372036854775807)], .agg [.lit (.int .u64 0), .lit (.int .u64 4294967295)], .agg [.lit (.int .u64 0), .lit (.int .u64 18446744073709551615)], .agg [.lit (.int .u64 0), .lit (.int .u64 0)], .agg [.lit (.int .u64 0), .lit (.int .u64 0)], .agg [.lit (.int .u64 0), .lit (.int .u64 0)], .agg [.lit (.int .u64 0), .lit (.int .u64 2147483647)]]

/-- 'wireschemalaw29.PromoteLevels': WHATEVER THE INPUT: true; the input reads as it did. -/
def promoteLevelsSpec : ChangeSpec := { name := "promoteLevels", fn := fun _ => fun
  | [d1, d2, d3] => { results := [.lit (.bool true)], args := [d1, d2, d3] }
  | _ => none }
def promoteLevelsRow : OpenClaim := { program := "ytgbppjckehjifaadoor", sum := "a2d1bec418374e28edf480df86905a83df6e3356dbec5ce2f18cc4e46b1ac278", func := "wireschema/wireschemalaw29.PromoteLevels", spec := "promoteLevels", named := ["wireschema/promote.bounds", "wireschema/promote.families"], apart := false, laid := [("wireschema/promote.families", laid_wireschema_promote_families), ("wireschema/promote.bounds", laid_wireschema_promote_bounds)] }
def PromoteLevelsSaid : Prop := promoteLevelsRow.holds Tryd.pinned (OpenSpec.ofChange promoteLevelsSpec)

/-- ITS FALSE NEIGHBOUR: 'it returns false'. Refute it at one input. -/
def promoteLevelsWrong : ChangeSpec := { name := "promoteLevels", fn := fun _ => fun
  | [d1, d2, d3] => { results := [.lit (.bool false)], args := [d1, d2, d3] }
  | _ => none }
def PromoteLevelsWrongFalsely : Prop := promoteLevelsRow.holds Tryd.pinned (OpenSpec.ofChange promoteLevelsWrong)

/-- 'wireschemalaw29.PromoteTurns': WHATEVER THE INPUT: true; the input reads as it did. -/
def promoteTurnsSpec : ChangeSpec := { name := "promoteTurns", fn := fun _ => fun
  | [d1, d2] => { results := [.lit (.bool true)], args := [d1, d2] }
  | _ => none }
def promoteTurnsRow : OpenClaim := { program := "ytgbppjckehjifaadoor", sum := "a2d1bec418374e28edf480df86905a83df6e3356dbec5ce2f18cc4e46b1ac278", func := "wireschema/wireschemalaw29.PromoteTurns", spec := "promoteTurns", named := ["wireschema/promote.families", "wireschema/promote.bounds"], loops := true, apart := false, laid := [("wireschema/promote.families", laid_wireschema_promote_families), ("wireschema/promote.bounds", laid_wireschema_promote_bounds)] }
def PromoteTurnsSaid : Prop := promoteTurnsRow.holds Tryd.pinned (OpenSpec.ofChange promoteTurnsSpec)

/-- ITS FALSE NEIGHBOUR: 'it returns false'. Refute it at one input. -/
def promoteTurnsWrong : ChangeSpec := { name := "promoteTurns", fn := fun _ => fun
  | [d1, d2] => { results := [.lit (.bool false)], args := [d1, d2] }
  | _ => none }
def PromoteTurnsWrongFalsely : Prop := promoteTurnsRow.holds Tryd.pinned (OpenSpec.ofChange promoteTurnsWrong)

/-- 'wireschemalaw29.PromoteHonest': WHATEVER THE INPUT: true; the input reads as it did. -/
def promoteHonestSpec : ChangeSpec := { name := "promoteHonest", fn := fun _ => fun
  | [d1, d2] => { results := [.lit (.bool true)], args := [d1, d2] }
  | _ => none }
def promoteHonestRow : OpenClaim := { program := "ytgbppjckehjifaadoor", sum := "a2d1bec418374e28edf480df86905a83df6e3356dbec5ce2f18cc4e46b1ac278", func := "wireschema/wireschemalaw29.PromoteHonest", spec := "promoteHonest", named := ["wireschema/promote.bounds", "wireschema/promote.families"], loops := true, apart := false, laid := [("wireschema/promote.families", laid_wireschema_promote_families), ("wireschema/promote.bounds", laid_wireschema_promote_bounds)] }
def PromoteHonestSaid : Prop := promoteHonestRow.holds Tryd.pinned (OpenSpec.ofChange promoteHonestSpec)

/-- ITS FALSE NEIGHBOUR: 'it returns false'. Refute it at one input. -/
def promoteHonestWrong : ChangeSpec := { name := "promoteHonest", fn := fun _ => fun
  | [d1, d2] => { results := [.lit (.bool false)], args := [d1, d2] }
  | _ => none }
def PromoteHonestWrongFalsely : Prop := promoteHonestRow.holds Tryd.pinned (OpenSpec.ofChange promoteHonestWrong)

/-- 'wireschemalaw29.PromoteBack': WHATEVER THE INPUT: true; the input reads as it did. -/
def promoteBackSpec : ChangeSpec := { name := "promoteBack", fn := fun _ => fun
  | [d1, d2] => { results := [.lit (.bool true)], args := [d1, d2] }
  | _ => none }
def promoteBackRow : OpenClaim := { program := "ytgbppjckehjifaadoor", sum := "a2d1bec418374e28edf480df86905a83df6e3356dbec5ce2f18cc4e46b1ac278", func := "wireschema/wireschemalaw29.PromoteBack", spec := "promoteBack", named := ["wireschema/promote.families", "wireschema/promote.bounds"], loops := true, apart := false, laid := [("wireschema/promote.families", laid_wireschema_promote_families), ("wireschema/promote.bounds", laid_wireschema_promote_bounds)] }
def PromoteBackSaid : Prop := promoteBackRow.holds Tryd.pinned (OpenSpec.ofChange promoteBackSpec)

/-- ITS FALSE NEIGHBOUR: 'it returns false'. Refute it at one input. -/
def promoteBackWrong : ChangeSpec := { name := "promoteBack", fn := fun _ => fun
  | [d1, d2] => { results := [.lit (.bool false)], args := [d1, d2] }
  | _ => none }
def PromoteBackWrongFalsely : Prop := promoteBackRow.holds Tryd.pinned (OpenSpec.ofChange promoteBackWrong)

/-- 'wireschemalaw29.PromoteChains': WHATEVER THE INPUT: true; the input reads as it did. -/
def promoteChainsSpec : ChangeSpec := { name := "promoteChains", fn := fun _ => fun
  | [d1, d2, d3] => { results := [.lit (.bool true)], args := [d1, d2, d3] }
  | _ => none }
def promoteChainsRow : OpenClaim := { program := "ytgbppjckehjifaadoor", sum := "a2d1bec418374e28edf480df86905a83df6e3356dbec5ce2f18cc4e46b1ac278", func := "wireschema/wireschemalaw29.PromoteChains", spec := "promoteChains", named := ["wireschema/promote.bounds", "wireschema/promote.families"], loops := true, apart := false, laid := [("wireschema/promote.families", laid_wireschema_promote_families), ("wireschema/promote.bounds", laid_wireschema_promote_bounds)] }
def PromoteChainsSaid : Prop := promoteChainsRow.holds Tryd.pinned (OpenSpec.ofChange promoteChainsSpec)

/-- ITS FALSE NEIGHBOUR: 'it returns false'. Refute it at one input. -/
def promoteChainsWrong : ChangeSpec := { name := "promoteChains", fn := fun _ => fun
  | [d1, d2, d3] => { results := [.lit (.bool false)], args := [d1, d2, d3] }
  | _ => none }
def PromoteChainsWrongFalsely : Prop := promoteChainsRow.holds Tryd.pinned (OpenSpec.ofChange promoteChainsWrong)

/- THE SECOND FORM. 'bulk': how many values and letters a reading holds, each counted each time it is reached (what is shared counts as often as it is met; a slice's spare places count too). A statement '..UptoSaid' is the law's where the arguments, and the package variables that the reading takes, are together of bulk at most 1048576: NARROWER than '..Said'. Prove '..Said' where nothing that the law and all that it calls make is longer than what came in: it says more and counts as full. Else prove '..UptoSaid'. A law counts once. -/
mutual
def uptoBulk {H : Type} : DataW H → Nat
  | .lit (.string bytes) => bytes.length + 1
  | .lit _ => 1
  | .nil => 1
  | .ptr d => uptoBulk d + 1
  | .slice elems spare => uptoBulkAll elems + uptoBulkAll spare + 1
  | .agg parts => uptoBulkAll parts + 1
  | .iface _ d => uptoBulk d + 1
  | .map entries => uptoBulkEntries entries + 1
  | .held _ => 1
def uptoBulkAll {H : Type} : List (DataW H) → Nat
  | [] => 0
  | d :: r => uptoBulk d + uptoBulkAll r
def uptoBulkEntries {H : Type} : List (Lit × DataW H) → Nat
  | [] => 0
  | x :: r => uptoBulkEntry x + uptoBulkEntries r
def uptoBulkEntry {H : Type} : Lit × DataW H → Nat
  | (.string bytes, d) => bytes.length + uptoBulk d + 1
  | (_, d) => uptoBulk d + 1
 end
def uptoSmall : (H : Type) → List (DataW H) → Bool := fun _ ds => decide (uptoBulkAll ds ≤ 1048576)
def OpenSpec.upto (s : _root_.Go.ChangeSpec) : _root_.Go.OpenSpec := { _root_.Go.OpenSpec.ofChange s with cond := some uptoSmall }

/-- 'wireschemalaw29.PromoteLevels', WHERE WHAT IT READS IS OF BULK AT MOST 1048576: true; the input reads as it did. -/
def promoteLevelsUptoRow : OpenClaim := { program := "ytgbppjckehjifaadoor", sum := "a2d1bec418374e28edf480df86905a83df6e3356dbec5ce2f18cc4e46b1ac278", func := "wireschema/wireschemalaw29.PromoteLevels", spec := "promoteLevels", named := ["wireschema/promote.bounds", "wireschema/promote.families"], apart := false, laid := [("wireschema/promote.families", laid_wireschema_promote_families), ("wireschema/promote.bounds", laid_wireschema_promote_bounds)], narrowed := true }
def PromoteLevelsUptoSaid : Prop := promoteLevelsUptoRow.holds Tryd.pinned (OpenSpec.upto promoteLevelsSpec)

/-- 'wireschemalaw29.PromoteTurns', WHERE WHAT IT READS IS OF BULK AT MOST 1048576: true; the input reads as it did. -/
def promoteTurnsUptoRow : OpenClaim := { program := "ytgbppjckehjifaadoor", sum := "a2d1bec418374e28edf480df86905a83df6e3356dbec5ce2f18cc4e46b1ac278", func := "wireschema/wireschemalaw29.PromoteTurns", spec := "promoteTurns", named := ["wireschema/promote.families", "wireschema/promote.bounds"], loops := true, apart := false, laid := [("wireschema/promote.families", laid_wireschema_promote_families), ("wireschema/promote.bounds", laid_wireschema_promote_bounds)], narrowed := true }
def PromoteTurnsUptoSaid : Prop := promoteTurnsUptoRow.holds Tryd.pinned (OpenSpec.upto promoteTurnsSpec)

/-- 'wireschemalaw29.PromoteHonest', WHERE WHAT IT READS IS OF BULK AT MOST 1048576: true; the input reads as it did. -/
def promoteHonestUptoRow : OpenClaim := { program := "ytgbppjckehjifaadoor", sum := "a2d1bec418374e28edf480df86905a83df6e3356dbec5ce2f18cc4e46b1ac278", func := "wireschema/wireschemalaw29.PromoteHonest", spec := "promoteHonest", named := ["wireschema/promote.bounds", "wireschema/promote.families"], loops := true, apart := false, laid := [("wireschema/promote.families", laid_wireschema_promote_families), ("wireschema/promote.bounds", laid_wireschema_promote_bounds)], narrowed := true }
def PromoteHonestUptoSaid : Prop := promoteHonestUptoRow.holds Tryd.pinned (OpenSpec.upto promoteHonestSpec)

/-- 'wireschemalaw29.PromoteBack', WHERE WHAT IT READS IS OF BULK AT MOST 1048576: true; the input reads as it did. -/
def promoteBackUptoRow : OpenClaim := { program := "ytgbppjckehjifaadoor", sum := "a2d1bec418374e28edf480df86905a83df6e3356dbec5ce2f18cc4e46b1ac278", func := "wireschema/wireschemalaw29.PromoteBack", spec := "promoteBack", named := ["wireschema/promote.families", "wireschema/promote.bounds"], loops := true, apart := false, laid := [("wireschema/promote.families", laid_wireschema_promote_families), ("wireschema/promote.bounds", laid_wireschema_promote_bounds)], narrowed := true }
def PromoteBackUptoSaid : Prop := promoteBackUptoRow.holds Tryd.pinned (OpenSpec.upto promoteBackSpec)

/-- 'wireschemalaw29.PromoteChains', WHERE WHAT IT READS IS OF BULK AT MOST 1048576: true; the input reads as it did. -/
def promoteChainsUptoRow : OpenClaim := { program := "ytgbppjckehjifaadoor", sum := "a2d1bec418374e28edf480df86905a83df6e3356dbec5ce2f18cc4e46b1ac278", func := "wireschema/wireschemalaw29.PromoteChains", spec := "promoteChains", named := ["wireschema/promote.bounds", "wireschema/promote.families"], loops := true, apart := false, laid := [("wireschema/promote.families", laid_wireschema_promote_families), ("wireschema/promote.bounds", laid_wireschema_promote_bounds)], narrowed := true }
def PromoteChainsUptoSaid : Prop := promoteChainsUptoRow.holds Tryd.pinned (OpenSpec.upto promoteChainsSpec)

end Rows
end Go.Proofs.YtgbppjckehjifaaDoor
