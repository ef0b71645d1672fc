/- Facts for layer 12's law CheckSound. Printed by gensound.py. -/
import Derived.Test.YtigfjnbgchndkaaDoorCkSoundL
import Derived.Test.YtigfjnbgchndkaaDoorCkSmall
import Derived.Test.YtigfjnbgchndkaaDoorKitF
import Derived.Test.YtigfjnbgchndkaaDoorCkBits
namespace Go.Proofs.YtigfjnbgchndkaaDoor
open Go.RowKit Ck
set_option linter.unusedVariables false
set_option linter.unusedSimpArgs false

theorem lt_bytes {a b : Str} (h : a < b) : Op.bytesLess (S b).toList (S a).toList = false ∧ ((S b).toList == (S a).toList) = false := by
  constructor
  · rw [less_S]
    exact decide_eq_false (fun h2 => lt_irrefl' _ (lt_trans' h h2))
  · rw [eq_S]
    exact decide_eq_false (fun e => by subst e; exact lt_irrefl' _ h)
end Go.Proofs.YtigfjnbgchndkaaDoor
