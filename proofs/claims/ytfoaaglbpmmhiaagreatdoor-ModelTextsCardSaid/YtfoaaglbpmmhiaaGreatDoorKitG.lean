/- The reference's fewTexts walked. -/
import Derived.Test.YtfoaaglbpmmhiaaGreatDoorCkNeeds
namespace Go.Proofs.YtfoaaglbpmmhiaaGreatDoor
open Go.RowKit Ck
set_option linter.unusedVariables false
set_option linter.unusedSimpArgs false

/-- how many texts there are; left + 10 if one of the first left + 1 is long -/
def ftGo (n left : Int) : Nat → List Str → Int
  | _, [] => n
  | k, x :: r => if (k : Int) ≤ left then (if 300 < x.length then left + 10 else ftGo n left (k + 1) r) else n
end Go.Proofs.YtfoaaglbpmmhiaaGreatDoor

/- The reference's fewNotes walked. -/
namespace Go.Proofs.YtfoaaglbpmmhiaaGreatDoor
open Go.RowKit Ck
set_option linter.unusedVariables false
set_option linter.unusedSimpArgs false

def longN (x : PNote) : Prop := 300 < x.name.length ∨ 300 < x.val.t.length ∨ 0 < x.val.n
instance (x : PNote) : Decidable (longN x) := by unfold longN; infer_instance
/-- how many annotations there are; left + 10 if one of the first left + 1 is long -/
def fnGo (n left : Int) : Nat → List PNote → Int
  | _, [] => n
  | k, x :: r => if (k : Int) ≤ left then (if longN x then left + 10 else fnGo n left (k + 1) r) else n
end Go.Proofs.YtfoaaglbpmmhiaaGreatDoor
