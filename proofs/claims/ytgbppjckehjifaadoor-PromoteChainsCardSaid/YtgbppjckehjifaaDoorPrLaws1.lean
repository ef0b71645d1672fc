/- The laws' own functions. -/
import Derived.Test.YtgbppjckehjifaaDoorPrProg5
import Derived.Test.YtgbppjckehjifaaDoorPrRef8
import Derived.Test.YtgbppjckehjifaaDoorPrRef9
namespace Go.Proofs.YtgbppjckehjifaaDoor
open Go.RowKit
set_option linter.unusedVariables false
set_option linter.unusedSimpArgs false

set_option maxHeartbeats 1000000 in
set_option maxRecDepth 100000 in
theorem law_same (k x : Int) (t : ByteArray) (p1 p2 p3 p4 : Option Addr) (n1 n2 n3 n4 q1 q2 q3 q4 : Nat) (w : World) (hz : (n1 + n2 + n3 + n4) = 0) : Calls Tryd.prog 14 #[.agg #[.int .i64 k, .int .u64 x, .string t, .slice none 0 0, .slice none 0 0, .slice none 0 0, .slice none 0 0], .agg #[.int .i64 k, .int .u64 x, .string t, .slice p1 n1 q1, .slice p2 n2 q2, .slice p3 n3 q3, .slice p4 n4 q4]] w fun e w' => e = .returned (.bool true) ∧ Below w.heap.size w w' := by
  have z1 : n1 = 0 := by omega
  have z2 : n2 = 0 := by omega
  have z3 : n3 = 0 := by omega
  have z4 : n4 = 0 := by omega
  subst z1 z2 z3 z4
  have hn := eq_yes t t rfl
  clear hz
  go_enter Tryd.func14, Tryd.ntmps14
  go_wp2
  go_ret
  exact ⟨rfl, by (repeat (first | (with_reducible exact Below.refl _ _) | (with_reducible refine Below.drew ?_) | (with_reducible refine Below.bal ?_ _) | (with_reducible refine Below.setCell ?_ (by simp) _) | (with_reducible refine Below.link (by assumption) ?_)))⟩
end Go.Proofs.YtgbppjckehjifaaDoor
