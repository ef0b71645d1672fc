/- The reference's SameProblems walked. -/
import Derived.Test.YtigfjnbgchndkaaGreatDoorCkOut
import Derived.Test.YtigfjnbgchndkaaGreatDoorKitA
import Derived.Deep.DeepCutAuto
namespace Go.Proofs.YtigfjnbgchndkaaGreatDoor
open Go.RowKit Ck
set_option linter.unusedVariables false
set_option linter.unusedSimpArgs false

def VProb (w : World) (vs : List Value) (p : PProb) : Prop := vs = probC p
theorem VProb.stays : Stays VProb := fun _ _ _ _ _ h => h
def sameFrom (a b : List PProb) (k : Nat) : Prop := a.drop k = b.drop k
theorem same_step (a b : List PProb) (k : Nat) (x y : PProb) (hx : a[k]? = some x) (hy : b[k]? = some y) : sameFrom a b k ↔ x = y ∧ sameFrom a b (k + 1) := by
 obtain ⟨h1, rfl⟩ := List.getElem?_eq_some_iff.1 hx
 obtain ⟨h2, rfl⟩ := List.getElem?_eq_some_iff.1 hy
 unfold sameFrom
 rw [List.drop_eq_getElem_cons h1, List.drop_eq_getElem_cons h2]
 exact List.cons_eq_cons
def SamePost (a b : List PProb) (w : World) (e : Ending) (w' : World) : Prop := (∃ r, e = .returned (.bool r) ∧ (r = true ↔ a = b)) ∧ Below w.heap.size w w'
set_option maxHeartbeats 4000000 in
set_option maxRecDepth 100000 in
theorem rf_Same (va vb : Value) (a b : List PProb) (w : World) (ha : Sv 3 VProb w va a) (hb : Sv 3 VProb w vb b) :
  Calls Tryz.prog 11 #[va, vb] w (SamePost a b w) := by
 obtain ⟨qa, ca, rfl, hla, hca, hea⟩ := ha
 obtain ⟨qb, cb, rfl, hlb, hcb, heb⟩ := hb
 by_cases hlen : a.length = b.length
 ·have V := Lib.hid (show (a = b) ↔ sameFrom a b 0 from Iff.rfl)
  have EA := Lib.hid hea
  have EB := Lib.hid heb
  clear hea heb
  have hl1 : ((a.length : Int) != (b.length : Int)) = false := by rw [hlen]; simp
  have hbl : b.length ≤ a.length := by omega
  have hbl2 : a.length ≤ b.length := by omega
  clear hlen
  go_enter Tryz.func11, Tryz.ntmps11
  go_wp2
  go_loopw [5] (fun i wr => ∃ k : Nat, k ≤ a.length ∧ i = .int .i64 k ∧ Bel w wr ∧ Hid ((a = b) ↔ sameFrom a b k)) (fun i _ => a.length - (intOf i).toNat)
  case atStart => exact ⟨0, by omega, rfl, Bel.refl _, V⟩
  case round =>
   obtain ⟨k, hk, rfl, kw, hgo⟩ := hrel
   by_cases hlt : k < a.length
   ·have hki : (k : Int) < (a.length : Int) := by omega
    have hkb : (k : Int) < (b.length : Int) := by omega
    have k0 : (0 : Int) ≤ (k : Int) := by omega
    have hwk : IntKind.i64.wrap (k : Int) = (k : Int) := wrap_small _ (by omega) (by omega)
    have hga := List.getElem?_eq_getElem hlt
    have hgb := List.getElem?_eq_getElem (show k < b.length by omega)
    obtain ⟨b1, o1, rfl, _, vs1, hc1, hv1⟩ := EA.out k _ hga
    obtain ⟨b2, o2, rfl, _, vs2, hc2, hv2⟩ := EB.out k _ hgb
    have hst := Lib.hid (hgo.out.trans (same_step a b k _ _ hga hgb))
    have hv1' : vs1 = probC a[k] := hv1
    have hv2' : vs2 = probC b[k] := hv2
    subst hv1' hv2'
    clear hv1 hv2 hga hgb hgo
    generalize a[k] = x at *
    generalize b[k] = y at *
    obtain ⟨xd, xn, xe⟩ := x
    obtain ⟨yd, yn, ye⟩ := y
    obtain ⟨wd, hwd⟩ : ∃ wd, wd = wr.drew := ⟨_, rfl⟩
    have kd : Bel w wd := by rw [hwd]; exact kw.drew
    have x0 := kd.some (hc1 0 _ rfl)
    rw [Nat.add_zero] at x0
    have x1 := kd.some (hc1 1 _ rfl)
    have x2 := kd.some (hc1 2 _ rfl)
    have y0 := kd.some (hc2 0 _ rfl)
    rw [Nat.add_zero] at y0
    have y1 := kd.some (hc2 1 _ rfl)
    have y2 := kd.some (hc2 2 _ rfl)
    have HWD := Lib.hid hwd
    clear hwd hc1 hc2
    have hcase : (xd = yd ∧ xn = yn ∧ xe = ye) ∨ (xd ≠ yd) ∨ (xd = yd ∧ xn ≠ yn) ∨ (xd = yd ∧ xn = yn ∧ xe ≠ ye) := by
     by_cases h1 : xd = yd
     ·by_cases h2 : xn = yn
      ·by_cases h3 : xe = ye
       ·exact .inl ⟨h1, h2, h3⟩
       ·exact .inr (.inr (.inr ⟨h1, h2, h3⟩))
      ·exact .inr (.inr (.inl ⟨h1, h2⟩))
     ·exact .inr (.inl h1)
    rcases hcase with ⟨rfl, rfl, rfl⟩ | h1 | ⟨rfl, h2⟩ | ⟨rfl, rfl, h3⟩
    ·have ht : ((S xd).toList == (S xd).toList) = true := by simp
     go_upto_region 6 with (fail)
     refine rg_tail 36 (by kernel_rfl) (by kernel_rfl) HWD.out ?_
     (simp only [List.take_succ_cons, List.take_zero, List.drop_succ_cons, List.drop_zero]); (repeat (first | ((with_reducible refine wpStill_step (fun K hK => ?_)); go_simp; (with_reducible refine hK _ ?_); clear hK K) | ((with_reducible refine rg_skip ?_ ?_); (with_unfolding_all rfl)))); (with_reducible refine wpStill_nil ?_)
     go_wp2
     exact ⟨⟨k + 1, by omega, rfl, kd, Lib.hid (by have := hst.out; simpa using this)⟩, by simp [intOf]; omega⟩
    ·have ht : ((S xd).toList == (S yd).toList) = false := by rw [eq_S]; exact decide_eq_false h1
     have HN := Lib.hid (show ¬ (a = b) from fun h => h1 (by have := (hst.out.1 h).1; injection this))
     clear h1 hst
     go_upto_region 6 with (fail)
     refine rg_tail 36 (by kernel_rfl) (by kernel_rfl) HWD.out ?_
     (simp only [List.take_succ_cons, List.take_zero, List.drop_succ_cons, List.drop_zero]); (repeat (first | ((with_reducible refine wpStill_step (fun K hK => ?_)); go_simp; (with_reducible refine hK _ ?_); clear hK K) | ((with_reducible refine rg_skip ?_ ?_); (with_unfolding_all rfl)))); (with_reducible refine wpStill_nil ?_)
     go_wp2
     go_ret
     exact ⟨⟨false, rfl, by simpa using HN.out⟩, kd.out⟩
    ·have ht : ((S xd).toList == (S xd).toList) = true := by simp
     have hn := bne_t h2
     have HN := Lib.hid (show ¬ (a = b) from fun h => h2 (by have := (hst.out.1 h).1; injection this))
     clear h2 hst
     go_upto_region 6 with (fail)
     refine rg_tail 36 (by kernel_rfl) (by kernel_rfl) HWD.out ?_
     (simp only [List.take_succ_cons, List.take_zero, List.drop_succ_cons, List.drop_zero]); (repeat (first | ((with_reducible refine wpStill_step (fun K hK => ?_)); go_simp; (with_reducible refine hK _ ?_); clear hK K) | ((with_reducible refine rg_skip ?_ ?_); (with_unfolding_all rfl)))); (with_reducible refine wpStill_nil ?_)
     go_wp2
     go_ret
     exact ⟨⟨false, rfl, by simpa using HN.out⟩, kd.out⟩
    ·have ht : ((S xd).toList == (S xd).toList) = true := by simp
     have hn := bne_t h3
     have HN := Lib.hid (show ¬ (a = b) from fun h => h3 (by have := (hst.out.1 h).1; injection this))
     clear h3 hst
     go_upto_region 6 with (fail)
     refine rg_tail 36 (by kernel_rfl) (by kernel_rfl) HWD.out ?_
     (simp only [List.take_succ_cons, List.take_zero, List.drop_succ_cons, List.drop_zero]); (repeat (first | ((with_reducible refine wpStill_step (fun K hK => ?_)); go_simp; (with_reducible refine hK _ ?_); clear hK K) | ((with_reducible refine rg_skip ?_ ?_); (with_unfolding_all rfl)))); (with_reducible refine wpStill_nil ?_)
     go_wp2
     go_ret
     exact ⟨⟨false, rfl, by simpa using HN.out⟩, kd.out⟩
   ·have hki : ¬ (k : Int) < (a.length : Int) := by omega
    have hY := Lib.hid (show a = b from hgo.out.2 (by unfold sameFrom; rw [List.drop_eq_nil_of_le (by omega), List.drop_eq_nil_of_le (by omega)]))
    clear hgo
    go_wp2
    go_ret
    exact ⟨⟨true, rfl, by simpa using hY.out⟩, kw.out⟩
 ·have hl1 : ((a.length : Int) != (b.length : Int)) = true := bne_t (by omega)
  have HN := Lib.hid (show ¬ (a = b) from fun h => hlen (by rw [h]))
  clear hea heb hlen
  go_enter Tryz.func11, Tryz.ntmps11
  go_wp2
  go_ret
  exact ⟨⟨false, rfl, by simpa using HN.out⟩, Below.refl _ _⟩
end Go.Proofs.YtigfjnbgchndkaaGreatDoor
