import Derived.Test.YtaaneecceiefoaaGreatDoorRkW
import Derived.Deep.DeepCutAuto
set_option maxRecDepth 100000
set_option maxHeartbeats 4000000
set_option linter.unusedVariables false
set_option linter.unusedSimpArgs false
namespace Go.Proofs.YtaaneecceiefoaaGreatDoor
open Go.RowKit Ck
theorem qla (s:PSchema) (m:PMsg):qcm s m (qau s)=qjs s m:=by
 unfold qcm qjs qb9;rw [qej];rfl
end Go.Proofs.YtaaneecceiefoaaGreatDoor
