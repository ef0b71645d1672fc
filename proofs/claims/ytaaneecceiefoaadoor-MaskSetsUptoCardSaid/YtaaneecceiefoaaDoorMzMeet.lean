/- Layer 19 walked: Meet of the reference. Printed by grmeet.py. -/
import Derived.Test.YtaaneecceiefoaaDoorMzCov
import Derived.Test.YtaaneecceiefoaaDoorKitN
namespace Go.Proofs.YtaaneecceiefoaaDoor
open Go.RowKit Ma
set_option linter.unusedVariables false
set_option linter.unusedSimpArgs false
def MeetRC (n : Nat) : Prop := ∀ (A : Nat → Prop) (v1 v2 : Value) (a b : List PMask) (w : World), (∀ b, A b → b < w.heap.size) → MaskD A n w v1 a → MaskD A n w v2 b → Wd 1000000000 n a → Wd 1000000000 n b → Calls Tryd.prog 18 #[v1, v2] w (MaskOut A n w (meet n a b))
set_option maxHeartbeats 4000000 in
set_option maxRecDepth 100000 in
theorem rm_Meet_step (n : Nat) (IH : n ≠ 0 → MeetRC n) : MeetRC (n + 1) := by
  intro A v1 v2 a b w0 hA ha hb hwa hwb
  obtain ⟨i1, hi1, hy0, hy1, hy2⟩ := info_parts mask_info
  obtain ⟨pb, cb, rfl⟩ := hb.form
  have DB := Lib.hid hb
  have HA0 := Lib.hid hA
  have WA := Lib.hid hwa
  have WB := Lib.hid hwb
  obtain ⟨p, c, rfl, hl, hcap, hel⟩ := ha
  have EL := Lib.hid hel
  have V := Lib.hid (show ([] : List ME).map (·.x) ++ (a.drop 0).filterMap (pickO (meet n) b) = meet (n + 1) a b from rfl)
  generalize meet (n + 1) a b = Z at V
  have hal : a.length ≤ 1000000000 := hwa.1
  have hS0 := Lib.hid (show ST w0 [medge (.slice none 0 0) []] [] w0 from (ST.start w0).nilrow 42 2)
  clear hel hcap hb hA hwa hwb
  go_enter Tryd.func18, Tryd.ntmps18
  go_wp2
  go_loopw [5, 6] (fun vo i wr => ∃ (k : Nat) (L : List ME), k ≤ a.length ∧ i = .int .i64 k ∧ Hid (ST w0 [medge vo L] [] wr) ∧ L.length ≤ k ∧ Hid (RowOK A w0.heap.size n vo L wr) ∧ Hid (L.map (·.x) ++ (a.drop k).filterMap (pickO (meet n) b) = Z)) (fun _ i _ => a.length - (intOf i).toNat)
  case atStart => exact ⟨0, [], by omega, rfl, hS0, by simp, Lib.hid (RowOK.nil _ _ _ _ _), V⟩
  case round => as_aux_lemma =>
    clear V hS0
    obtain ⟨k, L, hk, rfl, hS, hLk, hO, hx⟩ := hrel
    by_cases hlt : k < a.length
    · obtain ⟨g, off, sv, rfl, hbs, hab, hc0, hc1, hd⟩ := EL.out k _ (List.getElem?_eq_getElem hlt)
      obtain ⟨sp, sc, rfl⟩ := hd.form
      have hki : (k : Int) < (a.length : Int) := by omega
      have hst := hx.out
      rw [fm_at hlt] at hst
      have WX := Lib.hid (WA.out.2 _ (List.getElem_mem hlt))
      clear hx WA hab
      generalize a[k] = x at *
      have HD := Lib.hid (show MaskD A n w0 (.slice sp x.subs.length sc) x.subs from hd)
      obtain ⟨qo, co, hvo⟩ := own_form (hS.out.row 0 rfl)
      dsimp only [medge] at hvo
      subst hvo
      have O0 := hO
      have H0 := hS
      have d0 := H0.out.bel.some hc0
      clear hS hd hO
      have CF0 : MaskD A (n + 1) wr (.slice pb b.length cb) b := DB.out.bel H0.out.bel
      cases hz : find b x.num with
      | none =>
        have CF := Lib.hid (rm_Find_none hz _ CF0)
        have hp : pickO (meet n) b x = none := by unfold pickO; rw [hz]; rfl
        rw [hp, Option.toList_none, List.nil_append] at hst
        have HST := Lib.hid hst
        clear hst hz hp CF0
        go_wp2_with (go_at_call 25; (with_reducible refine CF.out.mono ?_); rintro e w1 ⟨fp, fc, rfl, k1⟩; have k1 : Bel _ w1 := k1; have k2 := Lib.hid (Bel.alloc k1 (.cells #[.int .i64 0, .slice fp 0 fc] 42)); clear k1)
        go_roundw
        case rel => exact ⟨k + 1, L, by omega, by go_num, Lib.hid (H0.out.belw k2.out), by omega, Lib.hid (O0.out.bel k2.out), HST⟩
        case measure => simp [intOf]; omega
      | some y =>
        have hyn : y.num = x.num := (find_some hz).2
        have CF := rm_Find_some hz _ CF0
        rw [hyn] at CF
        have CF := Lib.hid CF
        have hp : pickO (meet n) b x = meetO (meet n) x y := by unfold pickO; rw [hz]; rfl
        have WY := Lib.hid (WB.out.find hz)
        have hye : y = .mk x.num y.subs := by rw [← hyn]; exact y.eta.symm
        have hxe : x = .mk x.num x.subs := x.eta.symm
        rw [hp] at hst
        clear hz hp CF0 WB hyn
        cases hwx : whole x with
        | true =>
          obtain ⟨q1, q2, q3⟩ := len_zero (whole_iff.1 hwx)
          have hp : meetO (meet n) x y = some (.mk x.num y.subs) := by unfold meetO; rw [if_pos hwx, ← hye]
          rw [hp] at hst
          cases hwy : whole y with
          | true =>
            obtain ⟨r1, r2, r3⟩ := len_zero (whole_iff.1 hwy)
            have hxs : PMask.mk x.num y.subs = x := by rw [whole_iff.1 hwy, ← whole_iff.1 hwx]; exact x.eta
            rw [hxs] at hst
            have HST := Lib.hid hst
            clear hst hwx hwy hp hxs hye hxe
            go_upto_region 7 with (go_at_call 25; (with_reducible refine CF.out.mono ?_); rintro e w1 ⟨fp, fc, rfl, hfd, k1⟩; have k1 : Bel _ w1 := k1; have K0 := Lib.hid k1; have H1 := Lib.hid ((H0.out.belw k1).addbox #[.int .i64 x.num, .slice fp y.subs.length fc] 42); have K1 := Lib.hid (Bel.alloc k1 (.cells #[.int .i64 x.num, .slice fp y.subs.length fc] 42)); have FD1 := Lib.hid (hfd.bel ((Bel.refl _).alloc (.cells #[.int .i64 x.num, .slice fp y.subs.length fc] 42))); have OZ := Lib.hid (O0.out.bel (Bel.alloc k1 (.cells #[.int .i64 x.num, .slice fp y.subs.length fc] 42))); clear k1 hfd)
            have KW := Lib.hid H1.out.bel
            have e0 := KW.out.some hc0
            have e1 := KW.out.some hc1
            have y0 := H1.out.cell 0 rfl 0
            have y1 := H1.out.cell 0 rfl 1
            have yf0 := H1.out.frz 0 rfl 0
            have yf1 := H1.out.frz 0 rfl 1
            dsimp only at y0 y1 yf0 yf1
            go_upto_region 12 with (fail)
            have HZ := Lib.hid ((H0.out.belw K0.out).addbox #[.int .i64 x.num, .slice sp x.subs.length sc] 42)
            have OZ := Lib.hid (O0.out.bel (K0.out.alloc (.cells #[.int .i64 x.num, .slice sp x.subs.length sc] 42)))
            clear H1 K1 FD1 KW e0 e1 y0 y1 yf0 yf1
            generalize hwz : World.alloc w1 _ = wz at HZ OZ ⊢
            clear hwz
            have y0 := HZ.out.cell 0 rfl 0
            have y1 := HZ.out.cell 0 rfl 1
            dsimp only at y0 y1
            have HB := Lib.hid (HZ.out.belw ((Bel.refl wz).alloc (.cells #[.int .i64 x.num, .slice sp x.subs.length sc] 42)))
            have OB := Lib.hid (OZ.out.bel ((Bel.refl wz).alloc (.cells #[.int .i64 x.num, .slice sp x.subs.length sc] 42)))
            have EB := Lib.hid ((off_old (A := A) (N := w0.heap.size) (v := .slice qo L.length co) (e := ⟨x, sp, sc⟩) (HD.out.bel HB.out.bel)))
            go_wp2_with (at_builtin; refine wpList_append_lies _ rfl _ _ 29 rfl w0.heap.size 42 i1 (.agg #[.int .i64 0, .slice none 0 0]) 2 32 Tryd.underlying29 hi1 hy0 hy1 hy2 rfl (by decide) _ L.length _ rfl (HB.out.row 0 rfl) ⟨wz.heap.size, 0, none⟩ 1 1 [.int .i64 x.num, .slice sp x.subs.length sc] rfl rfl (one_new _ _ _) (by simp [Value.oneCell']) (by decide) (by unfold maxLen; omega) (by omega) HB.out.bel.size (wz.heap.size + 1) (by simp) ?_)
            intro g9 cap9 w9 hown hgrow hfr hlt9
            have OO := Lib.hid (RowOK.snoc (e := ⟨x, sp, sc⟩) (m := L.length + 1) (c := cap9) OB.out HB.out HA0.out EB.out hgrow hfr (by simp))
            have HH := Lib.hid (medge_snoc (e := ⟨x, sp, sc⟩) (HB.out.grow 0 rfl hgrow hown (fr_own hfr (by simp))))
            clear hown hgrow hfr
            go_wp2
            go_roundw
            case rel => exact ⟨k + 1, L ++ [⟨x, sp, sc⟩], by omega, by go_num, Lib.hid HH.out.dropbox0, by rw [List.length_append, List.length_singleton]; omega, OO, by simpa using HST⟩
            case measure => simp [intOf]; omega
          | false =>
            obtain ⟨r1, r2, r3, r4⟩ := len_pos (whole_no hwy)
            have HST := Lib.hid hst
            clear hst hwx hwy hp hye hxe
            go_upto_region 7 with (go_at_call 25; (with_reducible refine CF.out.mono ?_); rintro e w1 ⟨fp, fc, rfl, hfd, k1⟩; have k1 : Bel _ w1 := k1; have K0 := Lib.hid k1; have H1 := Lib.hid ((H0.out.belw k1).addbox #[.int .i64 x.num, .slice fp y.subs.length fc] 42); have K1 := Lib.hid (Bel.alloc k1 (.cells #[.int .i64 x.num, .slice fp y.subs.length fc] 42)); have FD1 := Lib.hid (hfd.bel ((Bel.refl _).alloc (.cells #[.int .i64 x.num, .slice fp y.subs.length fc] 42))); have OZ := Lib.hid (O0.out.bel (Bel.alloc k1 (.cells #[.int .i64 x.num, .slice fp y.subs.length fc] 42))); clear k1 hfd)
            have KW := Lib.hid H1.out.bel
            have e0 := KW.out.some hc0
            have e1 := KW.out.some hc1
            have y0 := H1.out.cell 0 rfl 0
            have y1 := H1.out.cell 0 rfl 1
            have yf0 := H1.out.frz 0 rfl 0
            have yf1 := H1.out.frz 0 rfl 1
            dsimp only at y0 y1 yf0 yf1
            go_upto_region 12 with (fail)
            clear yf0 yf1
            generalize hwz : World.alloc w1 _ = wz at H1 K1 OZ FD1 KW e0 e1 y0 y1 ⊢
            clear hwz
            have HB := Lib.hid (H1.out.belw ((Bel.refl wz).alloc (.cells #[.int .i64 x.num, .slice fp y.subs.length fc] 42)))
            have OB := Lib.hid (OZ.out.bel ((Bel.refl wz).alloc (.cells #[.int .i64 x.num, .slice fp y.subs.length fc] 42)))
            have EB := Lib.hid ((off_old (A := A) (N := w0.heap.size) (v := .slice qo L.length co) (e := ⟨.mk x.num y.subs, fp, fc⟩) (FD1.out.bel ((Bel.refl wz).alloc (.cells #[.int .i64 x.num, .slice fp y.subs.length fc] 42)))))
            go_wp2_with (at_builtin; refine wpList_append_lies _ rfl _ _ 29 rfl w0.heap.size 42 i1 (.agg #[.int .i64 0, .slice none 0 0]) 2 32 Tryd.underlying29 hi1 hy0 hy1 hy2 rfl (by decide) _ L.length _ rfl (HB.out.row 0 rfl) ⟨wz.heap.size, 0, none⟩ 1 1 [.int .i64 x.num, .slice fp y.subs.length fc] rfl rfl (one_new _ _ _) (by simp [Value.oneCell']) (by decide) (by unfold maxLen; omega) (by omega) HB.out.bel.size (wz.heap.size + 1) (by simp) ?_)
            intro g9 cap9 w9 hown hgrow hfr hlt9
            have OO := Lib.hid (RowOK.snoc (e := ⟨.mk x.num y.subs, fp, fc⟩) (m := L.length + 1) (c := cap9) OB.out HB.out HA0.out EB.out hgrow hfr (by simp))
            have HH := Lib.hid (medge_snoc (e := ⟨.mk x.num y.subs, fp, fc⟩) (HB.out.grow 0 rfl hgrow hown (fr_own hfr (by simp))))
            clear hown hgrow hfr
            go_wp2
            go_roundw
            case rel => exact ⟨k + 1, L ++ [⟨.mk x.num y.subs, fp, fc⟩], by omega, by go_num, Lib.hid HH.out.dropbox0, by rw [List.length_append, List.length_singleton]; omega, OO, by simpa using HST⟩
            case measure => simp [intOf]; omega
        | false =>
          have hp0 : meetO (meet n) x y = if whole y then some x else if (meet n x.subs y.subs).isEmpty then none else some (.mk x.num (meet n x.subs y.subs)) := by unfold meetO; rw [if_neg (by rw [hwx]; exact Bool.false_ne_true)]
          rw [hp0] at hst
          obtain ⟨q1, q2, q3, q4⟩ := len_pos (whole_no hwx)
          cases hwy : whole y with
          | true =>
            obtain ⟨r1, r2, r3⟩ := len_zero (whole_iff.1 hwy)
            rw [if_pos hwy] at hst
            have HST := Lib.hid hst
            clear hst hwx hwy hp0 hye hxe
            go_upto_region 7 with (go_at_call 25; (with_reducible refine CF.out.mono ?_); rintro e w1 ⟨fp, fc, rfl, hfd, k1⟩; have k1 : Bel _ w1 := k1; have K0 := Lib.hid k1; have H1 := Lib.hid ((H0.out.belw k1).addbox #[.int .i64 x.num, .slice fp y.subs.length fc] 42); have K1 := Lib.hid (Bel.alloc k1 (.cells #[.int .i64 x.num, .slice fp y.subs.length fc] 42)); have FD1 := Lib.hid (hfd.bel ((Bel.refl _).alloc (.cells #[.int .i64 x.num, .slice fp y.subs.length fc] 42))); have OZ := Lib.hid (O0.out.bel (Bel.alloc k1 (.cells #[.int .i64 x.num, .slice fp y.subs.length fc] 42))); clear k1 hfd)
            have KW := Lib.hid H1.out.bel
            have e0 := KW.out.some hc0
            have e1 := KW.out.some hc1
            have y0 := H1.out.cell 0 rfl 0
            have y1 := H1.out.cell 0 rfl 1
            have yf0 := H1.out.frz 0 rfl 0
            have yf1 := H1.out.frz 0 rfl 1
            dsimp only at y0 y1 yf0 yf1
            go_upto_region 12 with (fail)
            have HZ := Lib.hid ((H0.out.belw K0.out).addbox #[.int .i64 x.num, .slice sp x.subs.length sc] 42)
            have OZ := Lib.hid (O0.out.bel (K0.out.alloc (.cells #[.int .i64 x.num, .slice sp x.subs.length sc] 42)))
            clear H1 K1 FD1 KW e0 e1 y0 y1 yf0 yf1
            generalize hwz : World.alloc w1 _ = wz at HZ OZ ⊢
            clear hwz
            have y0 := HZ.out.cell 0 rfl 0
            have y1 := HZ.out.cell 0 rfl 1
            dsimp only at y0 y1
            have HB := Lib.hid (HZ.out.belw ((Bel.refl wz).alloc (.cells #[.int .i64 x.num, .slice sp x.subs.length sc] 42)))
            have OB := Lib.hid (OZ.out.bel ((Bel.refl wz).alloc (.cells #[.int .i64 x.num, .slice sp x.subs.length sc] 42)))
            have EB := Lib.hid ((off_old (A := A) (N := w0.heap.size) (v := .slice qo L.length co) (e := ⟨x, sp, sc⟩) (HD.out.bel HB.out.bel)))
            go_wp2_with (at_builtin; refine wpList_append_lies _ rfl _ _ 29 rfl w0.heap.size 42 i1 (.agg #[.int .i64 0, .slice none 0 0]) 2 32 Tryd.underlying29 hi1 hy0 hy1 hy2 rfl (by decide) _ L.length _ rfl (HB.out.row 0 rfl) ⟨wz.heap.size, 0, none⟩ 1 1 [.int .i64 x.num, .slice sp x.subs.length sc] rfl rfl (one_new _ _ _) (by simp [Value.oneCell']) (by decide) (by unfold maxLen; omega) (by omega) HB.out.bel.size (wz.heap.size + 1) (by simp) ?_)
            intro g9 cap9 w9 hown hgrow hfr hlt9
            have OO := Lib.hid (RowOK.snoc (e := ⟨x, sp, sc⟩) (m := L.length + 1) (c := cap9) OB.out HB.out HA0.out EB.out hgrow hfr (by simp))
            have HH := Lib.hid (medge_snoc (e := ⟨x, sp, sc⟩) (HB.out.grow 0 rfl hgrow hown (fr_own hfr (by simp))))
            clear hown hgrow hfr
            go_wp2
            go_roundw
            case rel => exact ⟨k + 1, L ++ [⟨x, sp, sc⟩], by omega, by go_num, Lib.hid HH.out.dropbox0, by rw [List.length_append, List.length_singleton]; omega, OO, by simpa using HST⟩
            case measure => simp [intOf]; omega
          | false =>
            obtain ⟨r1, r2, r3, r4⟩ := len_pos (whole_no hwy)
            rw [if_neg (by rw [hwy]; exact Bool.false_ne_true)] at hst
            have hn0 := HD.out.ne (whole_no hwx)
            have CI := Lib.hid (fun W v1 v2 (k : Bel w0 W) h1 h2 => IH hn0 A v1 v2 x.subs y.subs W (fun b hb => Nat.lt_of_lt_of_le (HA0.out b hb) k.size) h1 h2 WX.out WY.out)
            generalize meet n x.subs y.subs = M at CI hst
            clear hwx hwy hp0 hn0 IH WX WY hye hxe
            go_upto_region 7 with (go_at_call 25; (with_reducible refine CF.out.mono ?_); rintro e w1 ⟨fp, fc, rfl, hfd, k1⟩; have k1 : Bel _ w1 := k1; have K0 := Lib.hid k1; have H1 := Lib.hid ((H0.out.belw k1).addbox #[.int .i64 x.num, .slice fp y.subs.length fc] 42); have K1 := Lib.hid (Bel.alloc k1 (.cells #[.int .i64 x.num, .slice fp y.subs.length fc] 42)); have FD1 := Lib.hid (hfd.bel ((Bel.refl _).alloc (.cells #[.int .i64 x.num, .slice fp y.subs.length fc] 42))); have OZ := Lib.hid (O0.out.bel (Bel.alloc k1 (.cells #[.int .i64 x.num, .slice fp y.subs.length fc] 42))); clear k1 hfd)
            have KW := Lib.hid H1.out.bel
            have e0 := KW.out.some hc0
            have e1 := KW.out.some hc1
            have y0 := H1.out.cell 0 rfl 0
            have y1 := H1.out.cell 0 rfl 1
            have yf0 := H1.out.frz 0 rfl 0
            have yf1 := H1.out.frz 0 rfl 1
            dsimp only at y0 y1 yf0 yf1
            go_upto_region 8 with (fail)
            generalize hwz : World.alloc w1 _ = wz at H1 K1 OZ FD1 KW e0 e1 y0 y1 yf0 yf1 ⊢
            clear hwz
            have hwb : wr.heap.size ≤ w1.heap.size := K0.out.size
            generalize hbg : w1.heap.size = bg at H1 y0 y1 yf0 yf1 hwb ⊢
            clear hbg
            have KD := Lib.hid (show Bel wr wz.drew from K1.out.drew)
            obtain ⟨wd, hwd⟩ : ∃ wd, wd = wz.drew := ⟨_, rfl⟩
            have H2 := Lib.hid (show ST w0 _ _ wd by rw [hwd]; exact H1.out.belw (Bel.refl _).drew)
            have FD2 := Lib.hid (show MaskD A n wd (.slice fp y.subs.length fc) y.subs by rw [hwd]; exact FD1.out.bel (Bel.refl _).drew)
            have O2 := Lib.hid (show RowOK A w0.heap.size n (.slice qo L.length co) L wd by rw [hwd]; exact OZ.out.bel (Bel.refl _).drew)
            rw [← hwd] at KD
            have HWD := Lib.hid hwd
            clear hwd H1 FD1 OZ O2 KW e0 e1 y0 y1 yf0 yf1 K1 K0
            have e0 := H2.out.bel.some hc0
            have e1 := H2.out.bel.some hc1
            have y0 := H2.out.cell 0 rfl 0
            have y1 := H2.out.cell 0 rfl 1
            dsimp only at y0 y1
            refine rg_tail 7 (by kernel_rfl) (by kernel_rfl) HWD.out ?_
            (simp only [List.take_succ_cons, List.take_zero, List.drop_succ_cons, List.drop_zero]); (repeat (first | ((with_reducible refine wpStill_step (fun K hK => ?_)); go_simp; (with_reducible refine hK _ ?_); clear hK K) | ((with_reducible refine rg_skip ?_ ?_); (with_unfolding_all rfl); (simp only [Act.put, List.setIfInBounds_toArray, List.set_cons_zero, List.set_cons_succ])))); (with_reducible refine wpStill_nil ?_)
            go_upto_region 9 with (go_at_call 18; (with_reducible refine (CI.out _ _ _ H2.out.bel (HD.out.bel H2.out.bel) FD2.out).mono ?_); rintro e w4 ⟨mv, rfl, hmd, k4⟩; have k4 : Bel _ w4 := k4; obtain ⟨mp, mc, hmv⟩ := hmd.form; subst hmv; have H4 := Lib.hid (H2.out.belw k4); have K4 := Lib.hid (Bel.of KD.out k4); have MD4 := Lib.hid hmd; clear e0 e1 y0 y1; have y0 := H4.out.cell 0 rfl 0; have y1 := H4.out.cell 0 rfl 1; have yf1 := H4.out.frz 0 rfl 1; dsimp only at y0 y1 yf1; clear k4 hmd)
            have HZ := Lib.hid (show ST w0 [medge (.slice qo L.length co) L] [⟨bg, #[.int .i64 x.num, .slice mp M.length mc], 42⟩] _ from H4.out.setbox 0 rfl 1 (.slice mp M.length mc))
            have hbl : w0.heap.size ≤ bg ∧ bg < wd.heap.size := ⟨(H2.out.boxlt 0 rfl).1, (H2.out.boxlt 0 rfl).2⟩
            have hgr := grown_setCell w4 bg 1 (.slice mp M.length mc)
            have OZ := Lib.hid (show RowOK A w0.heap.size n (.slice qo L.length co) L _ from O0.out.bel (bel_set (o := 1) (v := .slice mp M.length mc) K4.out hwb))
            have MZ := Lib.hid (MaskD.weak (A' := Off A w0.heap.size (.slice qo L.length co)) (MD4.out.kept (Keep.grown hgr (fun b hb e => by
              have e2 : b = bg := by injection e
              rcases hb with hb | hb
              · have := HA0.out b hb
                omega
              · omega))) (fun b hb _ => off_new H2.out hb))
            clear hgr y0 y1 yf1
            generalize hwz : World.setCell _ _ _ = wz2 at HZ OZ MZ ⊢
            clear hwz
            have y0 := HZ.out.cell 0 rfl 0
            have y1 := HZ.out.cell 0 rfl 1
            dsimp only at y0 y1
            by_cases hM : M = []
            · subst hM
              have hst2 : L.map (·.x) ++ (a.drop (k + 1)).filterMap (pickO (meet n) b) = Z := hst
              have HST := Lib.hid hst2
              clear hst hst2
              simp only [List.length_nil] at y1
              go_wp2
              go_roundw
              case rel => exact ⟨k + 1, L, by omega, by go_num, Lib.hid HZ.out.dropbox0, by omega, OZ, HST⟩
              case measure => simp [intOf]; omega
            · have hme : M.isEmpty = false := by cases M with | nil => exact absurd rfl hM | cons _ _ => rfl
              rw [hme, if_neg Bool.false_ne_true] at hst
              have HST := Lib.hid hst
              obtain ⟨m1, m2, m3, m4⟩ := len_pos hM
              clear hst hM hme
              go_upto_region 12 with (fail)
              have HB := Lib.hid (HZ.out.belw ((Bel.refl wz2).alloc (.cells #[.int .i64 x.num, .slice mp M.length mc] 42)))
              have OB := Lib.hid (OZ.out.bel ((Bel.refl wz2).alloc (.cells #[.int .i64 x.num, .slice mp M.length mc] 42)))
              have EB := Lib.hid ((MaskD.bel MZ.out ((Bel.refl wz2).alloc (.cells #[.int .i64 x.num, .slice mp M.length mc] 42)) : MEok (Off A w0.heap.size (.slice qo L.length co)) n (wz2.alloc (.cells #[.int .i64 x.num, .slice mp M.length mc] 42)) ⟨.mk x.num M, mp, mc⟩))
              go_wp2_with (at_builtin; refine wpList_append_lies _ rfl _ _ 29 rfl w0.heap.size 42 i1 (.agg #[.int .i64 0, .slice none 0 0]) 2 32 Tryd.underlying29 hi1 hy0 hy1 hy2 rfl (by decide) _ L.length _ rfl (HB.out.row 0 rfl) ⟨wz2.heap.size, 0, none⟩ 1 1 [.int .i64 x.num, .slice mp M.length mc] rfl rfl (one_new _ _ _) (by simp [Value.oneCell']) (by decide) (by unfold maxLen; omega) (by omega) HB.out.bel.size (wz2.heap.size + 1) (by simp) ?_)
              intro g9 cap9 w9 hown hgrow hfr hlt9
              have OO := Lib.hid (RowOK.snoc (e := ⟨.mk x.num M, mp, mc⟩) (m := L.length + 1) (c := cap9) OB.out HB.out HA0.out EB.out hgrow hfr (by simp))
              have HH := Lib.hid (medge_snoc (e := ⟨.mk x.num M, mp, mc⟩) (HB.out.grow 0 rfl hgrow hown (fr_own hfr (by simp))))
              clear hown hgrow hfr
              go_wp2
              go_roundw
              case rel => exact ⟨k + 1, L ++ [⟨.mk x.num M, mp, mc⟩], by omega, by go_num, Lib.hid HH.out.dropbox0, by rw [List.length_append, List.length_singleton]; omega, OO, by simpa using HST⟩
              case measure => simp [intOf]; omega
    · have hkl : k = a.length := by omega
      have hz : L.map (·.x) = Z := by have := hx.out; rw [hkl, List.drop_length] at this; simpa using this
      have HR := Lib.hid (mask_out hS.out hO.out (by omega) hz)
      clear hx
      obtain ⟨qo, co, hvo⟩ := own_form (hS.out.row 0 rfl)
      dsimp only [medge] at hvo
      subst hvo
      go_wp2
      go_ret
      exact ⟨_, rfl, HR.out, hS.out.bel⟩
theorem rm_Meet : ∀ n : Nat, MeetRC (n + 1)
  | 0 => rm_Meet_step 0 (fun h => absurd rfl h)
  | n + 1 => rm_Meet_step (n + 1) (fun _ => rm_Meet n)
end Go.Proofs.YtaaneecceiefoaaDoor
