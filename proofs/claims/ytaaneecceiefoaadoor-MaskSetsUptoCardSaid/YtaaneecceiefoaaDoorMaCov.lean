/- Layer 19 walked: Covers. -/
import Derived.Test.YtaaneecceiefoaaDoorMaFind
namespace Go.Proofs.YtaaneecceiefoaaDoor
open Go.RowKit Ma
set_option linter.unusedVariables false
set_option linter.unusedSimpArgs false
def CovC (n : Nat) : Prop := ∀ (A : Nat → Prop) (v1 v2 : Value) (a b : List PMask) (w : World), MaskD A n w v1 a → MaskD A n w v2 b → Calls Tryd.prog 19 #[v1, v2] w fun e w' => e = .returned (.bool (covers n a b)) ∧ Bel w w'
set_option maxHeartbeats 4000000 in
set_option maxRecDepth 100000 in
theorem mk_Covers_step (n : Nat) (IH : n ≠ 0 → CovC n) : CovC (n + 1) := by
  intro A v1 v2 a b w0 ha hb
  obtain ⟨pa, ca, rfl⟩ := ha.form
  have DA := Lib.hid ha
  obtain ⟨p, c, rfl, hl, hcap, hel⟩ := hb
  have EL := Lib.hid hel
  have V := Lib.hid (show (b.drop 0).all (covOne (covers n) a) = covers (n + 1) a b from rfl)
  generalize covers (n + 1) a b = Z at V
  clear hel hcap ha
  go_enter Tryd.func19, Tryd.ntmps19
  go_wp2
  go_loopw [11] (fun i wr => ∃ k : Nat, k ≤ b.length ∧ i = .int .i64 k ∧ Hid (Bel w0 wr) ∧ Hid ((b.drop k).all (covOne (covers n) a) = Z)) (fun i _ => b.length - (intOf i).toNat)
  case atStart => exact ⟨0, by omega, rfl, Lib.hid (Bel.refl _), V⟩
  case round => as_aux_lemma =>
    clear V
    obtain ⟨k, hk, rfl, hS, hx⟩ := hrel
    by_cases hlt : k < b.length
    · obtain ⟨g, off, sv, rfl, hbs, hab, hc0, hc1, hd⟩ := EL.out k _ (List.getElem?_eq_getElem hlt)
      obtain ⟨sp, sc, rfl⟩ := hd.form
      have hki : (k : Int) < (b.length : Int) := by omega
      have e0 := hS.out.some hc0
      have e1 := hS.out.some hc1
      clear hc0 hc1 hab
      have hst := hx.out
      rw [all_at hlt] at hst
      clear hx
      generalize b[k] = y at *
      have HD := Lib.hid (show MaskD A n w0 (.slice sp y.subs.length sc) y.subs from hd)
      have HA := Lib.hid ((ST.start wr).addbox #[.int .i64 y.num, .slice sp y.subs.length sc] 42)
      have HW := Lib.hid hS.out
      clear hS hd
      cases hz : find a y.num with
      | none =>
        have hr : false = Z := by rw [← hst]; unfold covOne; rw [hz]; rfl
        have CF := Lib.hid (mk_find_none hz _ (DA.out.bel (HW.out.alloc (.cells #[.int .i64 y.num, .slice sp y.subs.length sc] 42))))
        subst hr
        clear hst hz
        go_wp2_with (go_at_call 22; (with_reducible refine CF.out.mono ?_); rintro e w1 ⟨fp, fc, rfl, k1⟩; have k2 := Lib.hid (Bel.of (HW.out.alloc _) k1); clear k1)
        go_ret
        exact ⟨rfl, k2.out.alloc _⟩
      | some x =>
        have hone : covOne (covers n) a y = (whole x || (!whole y && covers n x.subs y.subs)) := by unfold covOne; rw [hz]
        rw [hone] at hst
        have CF := Lib.hid (mk_find_some hz _ (DA.out.bel (HW.out.alloc (.cells #[.int .i64 y.num, .slice sp y.subs.length sc] 42))))
        clear hz hone
        cases hwx : whole x with
        | true =>
          rw [hwx, Bool.true_or, Bool.true_and] at hst
          have HST := Lib.hid hst
          have CX := Lib.hid (fun p c W => mk_whole_of hwx p c W)
          clear hst hwx
          go_wp2_with (first
            | (go_at_call 22; (with_reducible refine CF.out.mono ?_); rintro e w1 ⟨fp, fc, rfl, hfd, k1⟩; have k1 : Bel _ w1 := k1; have H1 := Lib.hid ((HA.out.belw k1).addbox #[.int .i64 x.num, .slice fp x.subs.length fc] 42); have K1 := Lib.hid (Bel.of (HW.out.alloc _) k1); clear k1 hfd)
            | (go_at_call 24; (with_reducible refine (CX.out _ _ _).mono ?_); rintro e w2 ⟨rfl, k2⟩; have K2 := Lib.hid (Bel.of (K1.out.alloc _) k2); clear k2))
          go_roundw
          case rel => exact ⟨k + 1, by omega, by go_num, K2, HST⟩
          case measure => simp [intOf]; omega
        | false =>
          rw [hwx, Bool.false_or] at hst
          have CX := Lib.hid (fun p c W => mk_whole_of hwx p c W)
          cases hwy : whole y with
          | true =>
            rw [hwy] at hst
            have CY := Lib.hid (fun p c W => mk_whole_of hwy p c W)
            have hr : false = Z := hst
            subst hr
            clear hst hwx hwy
            go_wp2_with (first
              | (go_at_call 22; (with_reducible refine CF.out.mono ?_); rintro e w1 ⟨fp, fc, rfl, hfd, k1⟩; have k1 : Bel _ w1 := k1; have H1 := Lib.hid ((HA.out.belw k1).addbox #[.int .i64 x.num, .slice fp x.subs.length fc] 42); have K1 := Lib.hid (Bel.of (HW.out.alloc _) k1); clear k1 hfd)
              | (go_at_call 24; (with_reducible refine (CX.out _ _ _).mono ?_); rintro e w2 ⟨rfl, k2⟩; have k2 : Bel _ w2 := k2; have H2 := Lib.hid (H1.out.belw k2); have K2 := Lib.hid (Bel.of (K1.out.alloc _) k2); have y0 := H2.out.cell 1 rfl 0; have y1 := H2.out.cell 1 rfl 1; dsimp only at y0 y1; clear k2)
              | (go_at_call 24; (with_reducible refine (CY.out _ _ _).mono ?_); rintro e w3 ⟨rfl, k3⟩; have K3 := Lib.hid (Bel.of K2.out k3); clear k3))
            go_ret
            exact ⟨rfl, K3.out⟩
          | false =>
            rw [hwy, Bool.not_false, Bool.true_and] at hst
            have CY := Lib.hid (fun p c W => mk_whole_of hwy p c W)
            have CI := Lib.hid (fun W v1 v2 h1 h2 => IH (HD.out.ne (whole_no hwy)) A v1 v2 x.subs y.subs W h1 h2)
            generalize hC : covers n x.subs y.subs = C at CI hst
            clear hwx hwy hC
            cases C with
            | true =>
              have HST := Lib.hid hst
              clear hst
              go_wp2_with (first
                | (go_at_call 22; (with_reducible refine CF.out.mono ?_); rintro e w1 ⟨fp, fc, rfl, hfd, k1⟩; have k1 : Bel _ w1 := k1; have H1 := Lib.hid ((HA.out.belw k1).addbox #[.int .i64 x.num, .slice fp x.subs.length fc] 42); have K1 := Lib.hid (Bel.of (HW.out.alloc _) k1); have HFD := Lib.hid (hfd.bel ((Bel.refl _).alloc (.cells #[.int .i64 x.num, .slice fp x.subs.length fc] 42))); clear k1 hfd)
                | (go_at_call 24; (with_reducible refine (CX.out _ _ _).mono ?_); rintro e w2 ⟨rfl, k2⟩; have k2 : Bel _ w2 := k2; have H2 := Lib.hid (H1.out.belw k2); have K2 := Lib.hid (Bel.of (K1.out.alloc _) k2); have HFD2 := Lib.hid (HFD.out.bel k2); have y0 := H2.out.cell 1 rfl 0; have y1 := H2.out.cell 1 rfl 1; dsimp only at y0 y1; clear k2)
                | (go_at_call 24; (with_reducible refine (CY.out _ _ _).mono ?_); rintro e w3 ⟨rfl, k3⟩; have k3 : Bel _ w3 := k3; have H3 := Lib.hid (H2.out.belw k3); have K3 := Lib.hid (Bel.of K2.out k3); have HFD3 := Lib.hid (HFD2.out.bel k3); have x1 := H3.out.cell 0 rfl 1; have u1 := H3.out.cell 1 rfl 1; dsimp only at x1 u1; clear k3)
                | (go_at_call 19; (with_reducible refine (CI.out _ _ _ HFD3.out (HD.out.bel K3.out)).mono ?_); rintro e w4 ⟨rfl, k4⟩; have K4 := Lib.hid (Bel.of K3.out k4); clear k4))
              go_roundw
              case rel => exact ⟨k + 1, by omega, by go_num, K4, by simpa using HST⟩
              case measure => simp [intOf]; omega
            | false =>
              have hr : false = Z := hst
              subst hr
              clear hst
              go_wp2_with (first
                | (go_at_call 22; (with_reducible refine CF.out.mono ?_); rintro e w1 ⟨fp, fc, rfl, hfd, k1⟩; have k1 : Bel _ w1 := k1; have H1 := Lib.hid ((HA.out.belw k1).addbox #[.int .i64 x.num, .slice fp x.subs.length fc] 42); have K1 := Lib.hid (Bel.of (HW.out.alloc _) k1); have HFD := Lib.hid (hfd.bel ((Bel.refl _).alloc (.cells #[.int .i64 x.num, .slice fp x.subs.length fc] 42))); clear k1 hfd)
                | (go_at_call 24; (with_reducible refine (CX.out _ _ _).mono ?_); rintro e w2 ⟨rfl, k2⟩; have k2 : Bel _ w2 := k2; have H2 := Lib.hid (H1.out.belw k2); have K2 := Lib.hid (Bel.of (K1.out.alloc _) k2); have HFD2 := Lib.hid (HFD.out.bel k2); have y0 := H2.out.cell 1 rfl 0; have y1 := H2.out.cell 1 rfl 1; dsimp only at y0 y1; clear k2)
                | (go_at_call 24; (with_reducible refine (CY.out _ _ _).mono ?_); rintro e w3 ⟨rfl, k3⟩; have k3 : Bel _ w3 := k3; have H3 := Lib.hid (H2.out.belw k3); have K3 := Lib.hid (Bel.of K2.out k3); have HFD3 := Lib.hid (HFD2.out.bel k3); have x1 := H3.out.cell 0 rfl 1; have u1 := H3.out.cell 1 rfl 1; dsimp only at x1 u1; clear k3)
                | (go_at_call 19; (with_reducible refine (CI.out _ _ _ HFD3.out (HD.out.bel K3.out)).mono ?_); rintro e w4 ⟨rfl, k4⟩; have K4 := Lib.hid (Bel.of K3.out k4); clear k4))
              go_ret
              exact ⟨rfl, K4.out⟩
    · have hkl : k = b.length := by omega
      have hz : true = Z := by have := hx.out; rw [hkl, List.drop_length] at this; exact this
      subst hz
      clear hx
      go_wp2
      go_ret
      exact ⟨rfl, hS.out⟩
theorem mk_Covers : ∀ n : Nat, CovC (n + 1)
  | 0 => mk_Covers_step 0 (fun h => absurd rfl h)
  | n + 1 => mk_Covers_step (n + 1) (fun _ => mk_Covers n)
end Go.Proofs.YtaaneecceiefoaaDoor
