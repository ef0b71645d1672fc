/- The reference's Message walked. Printed by genrefx.py. -/
import Derived.Test.YtigfjnbgchndkaaGreatDoorRkW
import Derived.Deep.DeepCutAuto
namespace Go.Proofs.YtigfjnbgchndkaaGreatDoor
open Go.RowKit Ck
set_option linter.unusedVariables false
set_option linter.unusedSimpArgs false

theorem refMsg_eq (s : PSchema) (m : PMsg) : refMsg s m (refFinite s) = message s m := by
 unfold refMsg message inMessage
 rw [refNeeds_cyclic]
 rfl
end Go.Proofs.YtigfjnbgchndkaaGreatDoor
