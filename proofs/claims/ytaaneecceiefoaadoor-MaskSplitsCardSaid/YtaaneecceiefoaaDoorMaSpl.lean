/- Plain facts for the law that what a mask keeps and what it drops add up; no program in sight. -/
import Derived.Test.YtaaneecceiefoaaDoorKitM
namespace Go.Proofs.YtaaneecceiefoaaDoor.Ma
set_option linter.unusedVariables false
set_option linter.unusedSimpArgs false
theorem keep_not {n : Nat} {v : CV} (h : v.isMsg = false) (m : List PMask) : keep n v m = v := by
  cases n with
  | zero => rfl
  | succ n => cases v <;> first | rfl | cases h
theorem drop_not {n : Nat} {v : CV} (h : v.isMsg = false) (m : List PMask) : drop n v m = v := by
  cases n with
  | zero => rfl
  | succ n => cases v <;> first | rfl | cases h
/-- how many of the first i are taken -/
def tkn {α β : Type} (F : α → Option β) (l : List α) (i : Nat) : Nat := ((l.take i).filterMap F).length
theorem tkn_zero {α β : Type} (F : α → Option β) (l : List α) : tkn F l 0 = 0 := rfl
theorem tkn_all {α β : Type} (F : α → Option β) (l : List α) : tkn F l l.length = (l.filterMap F).length := by
  unfold tkn
  rw [List.take_length]
theorem tkn_take {α : Type} {l : List α} {i : Nat} (h : i < l.length) : l.take (i + 1) = l.take i ++ [l[i]] := by
  rw [List.take_add_one, List.getElem?_eq_getElem h]
  rfl
theorem tkn_some {α β : Type} {F : α → Option β} {l : List α} {i : Nat} (h : i < l.length) {y : β} (hy : F l[i] = some y) : tkn F l (i + 1) = tkn F l i + 1 ∧ (l.filterMap F)[tkn F l i]? = some y := by
  unfold tkn
  rw [tkn_take h, List.filterMap_append, List.filterMap_cons_some hy, List.filterMap_nil, List.length_append]
  refine ⟨rfl, ?_⟩
  conv =>
    lhs
    arg 1
    rw [← List.take_append_drop i l, List.filterMap_append, List.drop_eq_getElem_cons h, List.filterMap_cons_some hy]
  rw [List.getElem?_append_right (Nat.le_refl _), Nat.sub_self]
  rfl
theorem tkn_none {α β : Type} {F : α → Option β} {l : List α} {i : Nat} (h : i < l.length) (hy : F l[i] = none) : tkn F l (i + 1) = tkn F l i := by
  unfold tkn
  rw [tkn_take h, List.filterMap_append, List.filterMap_cons_none hy, List.filterMap_nil, List.append_nil]
theorem tkn_le {α β : Type} (F : α → Option β) (l : List α) (i : Nat) : tkn F l i ≤ i := by
  unfold tkn
  have := List.length_filterMap_le F (l.take i)
  rw [List.length_take] at this
  omega
/-- a slot that is found, and whose element goes on -/
theorem both_of {n : Nat} {m : List PMask} {x : Int × CV} {y : PMask} (hz : find m x.1 = some y) (hw : whole y = false) (hm : x.2.isMsg = true) : keepO (keep n) m x = some (x.1, keep n x.2 y.subs) ∧ dropO (drop n) m x = some (x.1, drop n x.2 y.subs) := by
  unfold keepO dropO
  rw [hz]
  simp [hw, hm]
/-- a slot that is kept as a whole -/
theorem kept_of {n : Nat} {m : List PMask} {x : Int × CV} {y : PMask} (hz : find m x.1 = some y) (hw : whole y = true ∨ x.2.isMsg = false) : keepO (keep n) m x = some x ∧ dropO (drop n) m x = none := by
  unfold keepO dropO
  rw [hz]
  rcases hw with hw | hw
  · simp [hw]
  · refine ⟨?_, by simp [hw]⟩
    show some (if whole y = true then x else (x.1, keep n x.2 y.subs)) = some x
    rw [keep_not hw]
    cases whole y <;> rfl
theorem gone_of {n : Nat} {m : List PMask} {x : Int × CV} (hz : find m x.1 = none) : keepO (keep n) m x = none ∧ dropO (drop n) m x = some x := by
  unfold keepO dropO
  rw [hz]
  exact ⟨rfl, rfl⟩
end Go.Proofs.YtaaneecceiefoaaDoor.Ma
