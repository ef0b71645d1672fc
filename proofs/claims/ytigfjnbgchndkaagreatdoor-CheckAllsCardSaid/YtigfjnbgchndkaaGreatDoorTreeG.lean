/- Regions that draw their order, walked along a tree of orders: operations under a guard. -/
import Derived.Test.YtigfjnbgchndkaaGreatDoorKitA
namespace Go.Proofs.YtigfjnbgchndkaaGreatDoor
open Go.RowKit
set_option linter.unusedVariables false
set_option linter.unusedSimpArgs false
section
variable {P : Program} {ops : Array Oper} {S : World → Prop} {Q : Exit → Act → World → Prop} {K : Act → World → Prop} {a : Act} {w : World} {o : Oper} {r m : OrdT Oper}
theorem wanted_of {j : Nat} {b c : Bool} {t : Tmp} (hg : o.guard = some (j, b)) (hj : (ops[j]?).bind (·.dst) = some t) (hv : a.eval (.tmp t) = .bool c) : Region.wanted o (yielded ops a.tmps) = (c == b) := by
 have h : a.tmps[t]? = some (.bool c) := by
  simp only [Act.eval] at hv
  rw [Array.getD_eq_getD_getElem?] at hv
  cases h : a.tmps[t]? with
  | none => rw [h] at hv; simp [undef] at hv
  | some x => rw [h] at hv; simpa using hv
 unfold Region.wanted yielded
 rw [hg]
 simp only [hj, Option.bind_some, h]
 cases c <;> cases b <;> rfl
theorem tree_held_g {i : Tmp} {v : Value} {j : Nat} {b : Bool} {t : Tmp} (hd : o.dst = some i) (hg : o.guard = some (j, b)) (hj : (ops[j]?).bind (·.dst) = some t) (hv : a.eval (.tmp t) = .bool b) (hy : ∀ ρ : Operand → Value, (∀ x, ρ x = a.eval x) → ∀ W, S W → (execOp ρ o).run P W = .ok (.value v) W) (h : wpTree P ops S Q K r (a.put (some i) v) w) : wpTree P ops S Q K (.take o r) a w :=
 tree_held hd (by rw [wanted_of hg hj hv]; simp) hy h
theorem tree_skip_g {i : Tmp} {j : Nat} {b c : Bool} {t : Tmp} (hd : o.dst = some i) (hg : o.guard = some (j, b)) (hj : (ops[j]?).bind (·.dst) = some t) (hv : a.eval (.tmp t) = .bool c) (hc : (c == b) = false) (h : wpTree P ops S Q K r (a.put (some i) undef) w) : wpTree P ops S Q K (.take o r) a w :=
 tree_skip (by rw [wanted_of hg hj hv]; exact hc) (by rw [hd]; exact h)
theorem tree_enter_g {i : Tmp} {f : FuncId} {args : Array Value} {j : Nat} {b : Bool} {t : Tmp} (hd : o.dst = some i) (hg : o.guard = some (j, b)) (hj : (ops[j]?).bind (·.dst) = some t) (hv : a.eval (.tmp t) = .bool b) (hy : ∀ ρ : Operand → Value, (∀ x, ρ x = a.eval x) → (execOp ρ o).run P w = .ok (.enter f args) w) (h : Calls P f args w (fun e w' => ∃ v, e = .returned v ∧ S w' ∧ wpTree P ops S Q K r (a.put (some i) v) w')) (hm : wpTree P ops S Q K m a w) : wpTree P ops S Q K (.alt o r m) a w :=
 tree_enter hd (by rw [wanted_of hg hj hv]; simp) hy h hm
theorem tree_off {i : Tmp} (hd : o.dst = some i) (hw : Region.wanted o (yielded ops a.tmps) = false) (hS : S w) (h : wpTree P ops S Q K r (a.put (some i) undef) w) (hm : wpTree P ops S Q K m a w) : wpTree P ops S Q K (.alt o r m) a w := by
 refine ⟨?_, hm⟩
 rw [hw, hd]
 exact ⟨hS, h⟩
theorem tree_off_g {i : Tmp} {j : Nat} {b c : Bool} {t : Tmp} (hd : o.dst = some i) (hg : o.guard = some (j, b)) (hj : (ops[j]?).bind (·.dst) = some t) (hv : a.eval (.tmp t) = .bool c) (hc : (c == b) = false) (hS : S w) (h : wpTree P ops S Q K r (a.put (some i) undef) w) (hm : wpTree P ops S Q K m a w) : wpTree P ops S Q K (.alt o r m) a w :=
 tree_off hd (by rw [wanted_of hg hj hv]; exact hc) hS h hm
theorem tree_from {t : OrdT Oper} (h : ∀ a', a' = a → wpTree P ops S Q K t a' w) : wpTree P ops S Q K t a w := h a rfl
/-! a region in the text's order, the frame behind a letter -/
end
end Go.Proofs.YtigfjnbgchndkaaGreatDoor
