/- Layer 19 walked: Covers of the reference. Printed by grcov.py. -/
import Derived.Test.YtaaneecceiefoaaDoorMzFind
namespace Go.Proofs.YtaaneecceiefoaaDoor
open Go.RowKit Ma
set_option linter.unusedVariables false
set_option linter.unusedSimpArgs false
theorem len_pos {l : List PMask} (h : l ≠ []) : 0 < l.length ∧ (0 : Int) < (l.length : Int) ∧ ((l.length : Int) == 0) = false ∧ ((l.length : Int) != 0) = true := by
  have h0 : 0 < l.length := List.length_pos_iff.2 h
  exact ⟨h0, by omega, ine (by omega), bne_t (by omega)⟩
theorem len_zero {l : List PMask} (h : l = []) : decide (0 < l.length) = false ∧ ((l.length : Int) == 0) = true ∧ decide ((0 : Int) < (l.length : Int)) = false := by
  subst h
  exact ⟨rfl, rfl, rfl⟩
def CovRC (n : Nat) : Prop := ∀ (A : Nat → Prop) (v1 v2 : Value) (a b : List PMask) (w : World), MaskD A n w v1 a → MaskD A n w v2 b → Calls Tryd.prog 20 #[v1, v2] w fun e w' => e = .returned (.bool (covers n a b)) ∧ Bel w w'
set_option maxHeartbeats 4000000 in
set_option maxRecDepth 100000 in
theorem rm_Covers_step (n : Nat) (IH : n ≠ 0 → CovRC n) : CovRC (n + 1) := by
  intro A v1 v2 a b w0 ha hb
  obtain ⟨pa, ca, rfl⟩ := ha.form
  have DA := Lib.hid ha
  obtain ⟨p, c, rfl, hl, hcap, hel⟩ := hb
  have EL := Lib.hid hel
  have V := Lib.hid (show (b.drop 0).all (covOne (covers n) a) = covers (n + 1) a b from rfl)
  generalize covers (n + 1) a b = Z at V
  clear hel hcap ha
  go_enter Tryd.func20, Tryd.ntmps20
  go_wp2
  go_loopw [5] (fun i wr => ∃ k : Nat, k ≤ b.length ∧ i = .int .i64 k ∧ Hid (Bel w0 wr) ∧ Hid ((b.drop k).all (covOne (covers n) a) = Z)) (fun i _ => b.length - (intOf i).toNat)
  case atStart => exact ⟨0, by omega, rfl, Lib.hid (Bel.refl _), V⟩
  case round => as_aux_lemma =>
    clear V
    obtain ⟨k, hk, rfl, hS, hx⟩ := hrel
    by_cases hlt : k < b.length
    · obtain ⟨g, off, sv, rfl, hbs, hab, hc0, hc1, hd⟩ := EL.out k _ (List.getElem?_eq_getElem hlt)
      obtain ⟨sp, sc, rfl⟩ := hd.form
      have hki : (k : Int) < (b.length : Int) := by omega
      have hst := hx.out
      rw [all_at hlt] at hst
      clear hx
      generalize b[k] = y at *
      have HD := Lib.hid (show MaskD A n w0 (.slice sp y.subs.length sc) y.subs from hd)
      have HW := Lib.hid hS.out
      have c0 := HW.out.some hc0
      clear hS hd hab
      cases hz : find a y.num with
      | none =>
        have hr : false = Z := by rw [← hst]; unfold covOne; rw [hz]; rfl
        have CF := Lib.hid (rm_Find_none hz _ (DA.out.bel HW.out))
        subst hr
        clear hst hz
        go_upto_region 5 with (go_at_call 25; (with_reducible refine CF.out.mono ?_); rintro e w1 ⟨fp, fc, rfl, k1⟩; have K1 := Lib.hid (Bel.alloc (Bel.of HW.out k1) (.cells #[.int .i64 0, .slice fp 0 fc] 42)); clear k1)
        generalize hwz : World.alloc w1 _ = wz at K1 ⊢
        clear hwz
        obtain ⟨wd, hwd⟩ : ∃ wd, wd = wz.drew := ⟨_, rfl⟩
        have KD := Lib.hid (show Bel w0 wd by rw [hwd]; exact K1.out.drew)
        have HWD := Lib.hid hwd
        clear hwd
        refine rg_tail 23 (by kernel_rfl) (by kernel_rfl) HWD.out ?_
        (simp only [List.take_succ_cons, List.take_zero, List.drop_succ_cons, List.drop_zero]); (repeat (first | ((with_reducible refine wpStill_step (fun K hK => ?_)); go_simp; (with_reducible refine hK _ ?_); clear hK K) | ((with_reducible refine rg_skip ?_ ?_); (with_unfolding_all rfl); (simp only [Act.put, List.setIfInBounds_toArray, List.set_cons_zero, List.set_cons_succ])))); (with_reducible refine wpStill_nil ?_)
        go_wp2
        go_ret
        exact ⟨rfl, KD.out⟩
      | some x =>
        have hone : covOne (covers n) a y = (whole x || (!whole y && covers n x.subs y.subs)) := by unfold covOne; rw [hz]
        rw [hone] at hst
        have CF := Lib.hid (rm_Find_some hz _ (DA.out.bel HW.out))
        clear hz hone
        cases hwx : whole x with
        | true =>
          rw [hwx, Bool.true_or, Bool.true_and] at hst
          have HST := Lib.hid hst
          obtain ⟨q1, q2, q3⟩ := len_zero (whole_iff.1 hwx)
          clear hst hwx
          go_upto_region 5 with (go_at_call 25; (with_reducible refine CF.out.mono ?_); rintro e w1 ⟨fp, fc, rfl, hfd, k1⟩; have k1 : Bel _ w1 := k1; have H1 := Lib.hid (((ST.start wr).belw k1).addbox #[.int .i64 x.num, .slice fp x.subs.length fc] 42); have HFD := Lib.hid (hfd.bel ((Bel.refl _).alloc (.cells #[.int .i64 x.num, .slice fp x.subs.length fc] 42))); clear k1 hfd)
          generalize hwz : World.alloc w1 _ = wz at H1 HFD ⊢
          clear hwz
          obtain ⟨wd, hwd⟩ : ∃ wd, wd = wz.drew := ⟨_, rfl⟩
          have H2 := Lib.hid (show ST wr [] _ wd by rw [hwd]; exact H1.out.belw (Bel.refl _).drew)
          have FD2 := Lib.hid (show MaskD A n wd (.slice fp x.subs.length fc) x.subs by rw [hwd]; exact HFD.out.bel (Bel.refl _).drew)
          have HWD := Lib.hid hwd
          clear hwd H1 HFD
          have KD := Lib.hid (Bel.of HW.out H2.out.bel)
          have e0 := KD.out.some hc0
          have e1 := KD.out.some hc1
          have x0 := H2.out.cell 0 rfl 0
          have x1 := H2.out.cell 0 rfl 1
          dsimp only at x0 x1
          refine rg_tail 23 (by kernel_rfl) (by kernel_rfl) HWD.out ?_
          (simp only [List.take_succ_cons, List.take_zero, List.drop_succ_cons, List.drop_zero]); (repeat (first | ((with_reducible refine wpStill_step (fun K hK => ?_)); go_simp; (with_reducible refine hK _ ?_); clear hK K) | ((with_reducible refine rg_skip ?_ ?_); (with_unfolding_all rfl); (simp only [Act.put, List.setIfInBounds_toArray, List.set_cons_zero, List.set_cons_succ])))); (with_reducible refine wpStill_nil ?_)
          go_wp2
          go_roundw
          case rel => exact ⟨k + 1, by omega, by go_num, KD, HST⟩
          case measure => simp [intOf]; omega
        | false =>
          rw [hwx, Bool.false_or] at hst
          obtain ⟨q1, q2, q3, q4⟩ := len_pos (whole_no hwx)
          cases hwy : whole y with
          | true =>
            rw [hwy] at hst
            have hr : false = Z := hst
            subst hr
            obtain ⟨r1, r2, r3⟩ := len_zero (whole_iff.1 hwy)
            clear hst hwx hwy
            go_upto_region 5 with (go_at_call 25; (with_reducible refine CF.out.mono ?_); rintro e w1 ⟨fp, fc, rfl, hfd, k1⟩; have k1 : Bel _ w1 := k1; have H1 := Lib.hid (((ST.start wr).belw k1).addbox #[.int .i64 x.num, .slice fp x.subs.length fc] 42); have HFD := Lib.hid (hfd.bel ((Bel.refl _).alloc (.cells #[.int .i64 x.num, .slice fp x.subs.length fc] 42))); clear k1 hfd)
            generalize hwz : World.alloc w1 _ = wz at H1 HFD ⊢
            clear hwz
            obtain ⟨wd, hwd⟩ : ∃ wd, wd = wz.drew := ⟨_, rfl⟩
            have H2 := Lib.hid (show ST wr [] _ wd by rw [hwd]; exact H1.out.belw (Bel.refl _).drew)
            have FD2 := Lib.hid (show MaskD A n wd (.slice fp x.subs.length fc) x.subs by rw [hwd]; exact HFD.out.bel (Bel.refl _).drew)
            have HWD := Lib.hid hwd
            clear hwd H1 HFD
            have KD := Lib.hid (Bel.of HW.out H2.out.bel)
            have e0 := KD.out.some hc0
            have e1 := KD.out.some hc1
            have x0 := H2.out.cell 0 rfl 0
            have x1 := H2.out.cell 0 rfl 1
            dsimp only at x0 x1
            refine rg_tail 23 (by kernel_rfl) (by kernel_rfl) HWD.out ?_
            (simp only [List.take_succ_cons, List.take_zero, List.drop_succ_cons, List.drop_zero]); (repeat (first | ((with_reducible refine wpStill_step (fun K hK => ?_)); go_simp; (with_reducible refine hK _ ?_); clear hK K) | ((with_reducible refine rg_skip ?_ ?_); (with_unfolding_all rfl); (simp only [Act.put, List.setIfInBounds_toArray, List.set_cons_zero, List.set_cons_succ])))); (with_reducible refine wpStill_nil ?_)
            go_wp2
            go_ret
            exact ⟨rfl, KD.out⟩
          | false =>
            rw [hwy, Bool.not_false, Bool.true_and] at hst
            obtain ⟨r1, r2, r3, r4⟩ := len_pos (whole_no hwy)
            have CI := Lib.hid (fun W v1 v2 h1 h2 => IH (HD.out.ne (whole_no hwy)) A v1 v2 x.subs y.subs W h1 h2)
            generalize hC : covers n x.subs y.subs = C at CI hst
            clear hwx hwy hC
            go_upto_region 5 with (go_at_call 25; (with_reducible refine CF.out.mono ?_); rintro e w1 ⟨fp, fc, rfl, hfd, k1⟩; have k1 : Bel _ w1 := k1; have H1 := Lib.hid (((ST.start wr).belw k1).addbox #[.int .i64 x.num, .slice fp x.subs.length fc] 42); have HFD := Lib.hid (hfd.bel ((Bel.refl _).alloc (.cells #[.int .i64 x.num, .slice fp x.subs.length fc] 42))); clear k1 hfd)
            generalize hwz : World.alloc w1 _ = wz at H1 HFD ⊢
            clear hwz
            obtain ⟨wd, hwd⟩ : ∃ wd, wd = wz.drew := ⟨_, rfl⟩
            have H2 := Lib.hid (show ST wr [] _ wd by rw [hwd]; exact H1.out.belw (Bel.refl _).drew)
            have FD2 := Lib.hid (show MaskD A n wd (.slice fp x.subs.length fc) x.subs by rw [hwd]; exact HFD.out.bel (Bel.refl _).drew)
            have HWD := Lib.hid hwd
            clear hwd H1 HFD
            have KD := Lib.hid (Bel.of HW.out H2.out.bel)
            have e0 := KD.out.some hc0
            have e1 := KD.out.some hc1
            have x0 := H2.out.cell 0 rfl 0
            have x1 := H2.out.cell 0 rfl 1
            dsimp only at x0 x1
            refine rg_tail 23 (by kernel_rfl) (by kernel_rfl) HWD.out ?_
            (simp only [List.take_succ_cons, List.take_zero, List.drop_succ_cons, List.drop_zero]); (repeat (first | ((with_reducible refine wpStill_step (fun K hK => ?_)); go_simp; (with_reducible refine hK _ ?_); clear hK K) | ((with_reducible refine rg_skip ?_ ?_); (with_unfolding_all rfl); (simp only [Act.put, List.setIfInBounds_toArray, List.set_cons_zero, List.set_cons_succ])))); (with_reducible refine wpStill_nil ?_)
            cases C with
            | true =>
              have HST := Lib.hid hst
              clear hst
              go_wp2_with (go_at_call 20; (with_reducible refine (CI.out _ _ _ FD2.out (HD.out.bel KD.out)).mono ?_); rintro e w4 ⟨rfl, k4⟩; have K4 := Lib.hid (Bel.of KD.out k4); clear k4)
              go_roundw
              case rel => exact ⟨k + 1, by omega, by go_num, K4, by simpa using HST⟩
              case measure => simp [intOf]; omega
            | false =>
              have hr : false = Z := hst
              subst hr
              clear hst
              go_wp2_with (go_at_call 20; (with_reducible refine (CI.out _ _ _ FD2.out (HD.out.bel KD.out)).mono ?_); rintro e w4 ⟨rfl, k4⟩; have K4 := Lib.hid (Bel.of KD.out k4); clear k4)
              go_ret
              exact ⟨rfl, K4.out⟩
    · have hkl : k = b.length := by omega
      have hz : true = Z := by have := hx.out; rw [hkl, List.drop_length] at this; exact this
      subst hz
      clear hx
      go_wp2
      go_ret
      exact ⟨rfl, hS.out⟩
theorem rm_Covers : ∀ n : Nat, CovRC (n + 1)
  | 0 => rm_Covers_step 0 (fun h => absurd rfl h)
  | n + 1 => rm_Covers_step (n + 1) (fun _ => rm_Covers n)
end Go.Proofs.YtaaneecceiefoaaDoor
