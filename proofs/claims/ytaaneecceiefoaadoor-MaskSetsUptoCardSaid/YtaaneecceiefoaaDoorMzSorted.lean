/- Layer 19 walked: Sorted of the reference. Printed by gsorted.py. -/
import Derived.Test.YtaaneecceiefoaaDoorMzFind
namespace Go.Proofs.YtaaneecceiefoaaDoor
open Go.RowKit Ma
set_option linter.unusedVariables false
set_option linter.unusedSimpArgs false
def SortedC (n : Nat) : Prop := ∀ (A : Nat → Prop) (v : Value) (a : List PMask) (w : World), MaskD A n w v a → Calls Tryd.prog 13 #[v] w fun e w' => e = .returned (.bool (srtB n a)) ∧ Bel w w'
set_option maxHeartbeats 4000000 in
set_option maxRecDepth 100000 in
theorem rm_Sorted_nil : SortedC 0 := by
  intro A v a w0 ha
  obtain ⟨rfl, p, c, rfl⟩ := ha
  show Calls _ _ _ _ fun e w' => e = .returned (.bool true) ∧ Bel w0 w'
  go_enter Tryd.func13, Tryd.ntmps13
  go_wp2
  go_loopw [3] (fun i wr => i = .int .i64 0 ∧ Hid (Bel w0 wr)) (fun i _ => 0)
  case atStart => exact ⟨rfl, Lib.hid (Bel.refl _)⟩
  case round =>
    obtain ⟨rfl, hS⟩ := hrel
    go_wp2
    go_ret
    exact ⟨rfl, hS.out⟩
set_option maxHeartbeats 4000000 in
set_option maxRecDepth 100000 in
theorem rm_Sorted_step (n : Nat) (II : SortedC n) : SortedC (n + 1) := by
  intro A v a w0 ha
  obtain ⟨p, c, rfl, hl, hcap, hel⟩ := ha
  have EL := Lib.hid hel
  have V := Lib.hid (show srtGo (srtB n) (pvM a 0) (a.drop 0) = srtB (n + 1) a from rfl)
  generalize srtB (n + 1) a = Z at V
  clear hel hcap
  have CI := Lib.hid (fun W v a h => II A v a W h)
  clear II
  go_enter Tryd.func13, Tryd.ntmps13
  go_wp2
  go_loopw [3] (fun i wr => ∃ k : Nat, k ≤ a.length ∧ i = .int .i64 k ∧ Hid (Bel w0 wr) ∧ Hid (srtGo (srtB n) (pvM a k) (a.drop k) = Z)) (fun i _ => a.length - (intOf i).toNat)
  case atStart => exact ⟨0, by omega, rfl, Lib.hid (Bel.refl _), V⟩
  case round => as_aux_lemma =>
    clear V
    obtain ⟨k, hk, rfl, hS, hx⟩ := hrel
    by_cases hlt : k < a.length
    · obtain ⟨g, off, sv, rfl, hbs, hab, hc0, hc1, hd⟩ := EL.out k _ (List.getElem?_eq_getElem hlt)
      obtain ⟨sp, sc, rfl⟩ := hd.form
      have hki : (k : Int) < (a.length : Int) := by omega
      have hst := hx.out
      rw [srtGo_at hlt] at hst
      clear hx
      generalize hxk : a[k] = x at *
      clear hxk
      go_upto_region 4 with (fail)
      obtain ⟨wd, hwd⟩ : ∃ wd, wd = wr.drew := ⟨_, rfl⟩
      have KD := Lib.hid (show Bel w0 wd by rw [hwd]; exact hS.out.drew)
      have HWD := Lib.hid hwd
      clear hwd hS
      have e0 := KD.out.some hc0
      have e1 := KD.out.some hc1
      clear hc0 hc1 hab
      have CS := Lib.hid (CI.out wd _ x.subs (hd.bel KD.out))
      generalize srtB n x.subs = C at CS hst
      by_cases hk0 : k = 0
      · subst hk0
        have hki2 : ((0 : Nat) : Int) = 0 := rfl
        rw [if_neg (show ¬ ((pvM a 0).any fun p => decide (x.num ≤ p)) = true from Bool.false_ne_true)] at hst
        refine rg_tail 22 (by kernel_rfl) (by kernel_rfl) HWD.out ?_
        (simp only [List.take_succ_cons, List.take_zero, List.drop_succ_cons, List.drop_zero]); (repeat (first | ((with_reducible refine wpStill_step (fun K hK => ?_)); go_simp; (with_reducible refine hK _ ?_); clear hK K) | ((with_reducible refine rg_skip ?_ ?_); (with_unfolding_all rfl); (simp only [Act.put, List.setIfInBounds_toArray, List.set_cons_zero, List.set_cons_succ])))); (with_reducible refine wpStill_nil ?_)
        cases C with
        | true =>
          rw [if_pos rfl] at hst
          have HST := Lib.hid hst
          clear hst
          go_wp2_with (go_at_call 13; (with_reducible refine CS.out.mono ?_); rintro e w1 ⟨rfl, k1⟩; have K1 := Lib.hid (Bel.of KD.out k1); clear k1)
          go_roundw
          case rel => exact ⟨0 + 1, by omega, by go_num, K1, HST⟩
          case measure => simp [intOf]; omega
        | false =>
          rw [if_neg Bool.false_ne_true] at hst
          subst hst
          go_wp2_with (go_at_call 13; (with_reducible refine CS.out.mono ?_); rintro e w1 ⟨rfl, k1⟩; have K1 := Lib.hid (Bel.of KD.out k1); clear k1)
          go_ret
          exact ⟨rfl, K1.out⟩
      · obtain ⟨kp, hkk⟩ : ∃ kp, k = kp + 1 := ⟨k - 1, by omega⟩
        have hkp : kp < a.length := by omega
        have hkpi : (kp : Int) < (a.length : Int) := by omega
        have hki0 : (0 : Int) < (k : Int) := by omega
        have hkn0 : 0 < k := by omega
        have jw2 : IntKind.i64.wrap (kp : Int) = (kp : Int) := IntWalk.i64_in _ (by omega)
        have jw : IntKind.i64.wrap ((k : Int) - 1) = (kp : Int) := by rw [show (k : Int) - 1 = (kp : Int) by omega]; exact jw2
        have hpv : pvM a k = some a[kp].num := by rw [hkk]; exact pvM_succ hkp
        obtain ⟨b2, off2, sv2, hq2, hs2, hab2, hp0, _, _⟩ := EL.out kp _ (List.getElem?_eq_getElem hkp)
        cases hq2
        have y0 := KD.out.some hp0
        rw [hpv] at hst
        clear hp0 hab2 hpv
        generalize a[kp].num = z at *
        by_cases hz : x.num ≤ z
        · rw [if_pos (by simpa using hz)] at hst
          subst hst
          clear hkk
          refine rg_tail 22 (by kernel_rfl) (by kernel_rfl) HWD.out ?_
          (simp only [List.take_succ_cons, List.take_zero, List.drop_succ_cons, List.drop_zero]); (repeat (first | ((with_reducible refine wpStill_step (fun K hK => ?_)); go_simp; (with_reducible refine hK _ ?_); clear hK K) | ((with_reducible refine rg_skip ?_ ?_); (with_unfolding_all rfl); (simp only [Act.put, List.setIfInBounds_toArray, List.set_cons_zero, List.set_cons_succ])))); (with_reducible refine wpStill_nil ?_)
          go_wp2
          go_ret
          exact ⟨rfl, KD.out⟩
        · rw [if_neg (by simpa using hz)] at hst
          have hzd : decide (x.num ≤ z) = false := by simpa using hz
          have hz2 : z < x.num := by omega
          clear hz hkk
          refine rg_tail 22 (by kernel_rfl) (by kernel_rfl) HWD.out ?_
          (simp only [List.take_succ_cons, List.take_zero, List.drop_succ_cons, List.drop_zero]); (repeat (first | ((with_reducible refine wpStill_step (fun K hK => ?_)); go_simp; (with_reducible refine hK _ ?_); clear hK K) | ((with_reducible refine rg_skip ?_ ?_); (with_unfolding_all rfl); (simp only [Act.put, List.setIfInBounds_toArray, List.set_cons_zero, List.set_cons_succ])))); (with_reducible refine wpStill_nil ?_)
          cases C with
          | true =>
            rw [if_pos rfl] at hst
            have HST := Lib.hid hst
            clear hst
            go_wp2_with (go_at_call 13; (with_reducible refine CS.out.mono ?_); rintro e w1 ⟨rfl, k1⟩; have K1 := Lib.hid (Bel.of KD.out k1); clear k1)
            go_roundw
            case rel => exact ⟨k + 1, by omega, by go_num, K1, HST⟩
            case measure => simp [intOf]; omega
          | false =>
            rw [if_neg Bool.false_ne_true] at hst
            subst hst
            go_wp2_with (go_at_call 13; (with_reducible refine CS.out.mono ?_); rintro e w1 ⟨rfl, k1⟩; have K1 := Lib.hid (Bel.of KD.out k1); clear k1)
            go_ret
            exact ⟨rfl, K1.out⟩
    · have hkl : k = a.length := by omega
      have hz : true = Z := by have := hx.out; rw [hkl, List.drop_length] at this; exact this
      subst hz
      clear hx
      go_wp2
      go_ret
      exact ⟨rfl, hS.out⟩
theorem rm_Sorted : ∀ n : Nat, SortedC n
  | 0 => rm_Sorted_nil
  | n + 1 => rm_Sorted_step n (rm_Sorted n)
end Go.Proofs.YtaaneecceiefoaaDoor
