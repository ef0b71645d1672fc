/- Layer 19 walked: Meet. Printed by gmeet.py. -/
import Derived.Test.YtaaneecceiefoaaDoorMaFind
import Derived.Test.YtaaneecceiefoaaDoorKitN
namespace Go.Proofs.YtaaneecceiefoaaDoor
open Go.RowKit Ma
set_option linter.unusedVariables false
set_option linter.unusedSimpArgs false
def MeetC (n : Nat) : Prop := ∀ (A : Nat → Prop) (v1 v2 : Value) (a b : List PMask) (w : World), (∀ b, A b → b < w.heap.size) → MaskD A n w v1 a → MaskD A n w v2 b → Wd 1000000000 n a → Wd 1000000000 n b → Calls Tryd.prog 17 #[v1, v2] w (MaskOut A n w (meet n a b))
set_option maxHeartbeats 4000000 in
set_option maxRecDepth 100000 in
theorem mk_Meet_step (n : Nat) (IH : n ≠ 0 → MeetC n) : MeetC (n + 1) := by
  intro A v1 v2 a b w0 hA ha hb hwa hwb
  obtain ⟨i1, hi1, hy0, hy1, hy2⟩ := info_parts mask_info
  obtain ⟨pb, cb, rfl⟩ := hb.form
  have DB := Lib.hid hb
  have HA0 := Lib.hid hA
  have WA := Lib.hid hwa
  have WB := Lib.hid hwb
  obtain ⟨p, c, rfl, hl, hcap, hel⟩ := ha
  have EL := Lib.hid hel
  have V := Lib.hid (show ([] : List ME).map (·.x) ++ (a.drop 0).filterMap (pickO (meet n) b) = meet (n + 1) a b from rfl)
  generalize meet (n + 1) a b = Z at V
  have hal : a.length ≤ 1000000000 := hwa.1
  have hS0 := Lib.hid (show ST w0 [medge (.slice none 0 0) []] [] w0 from (ST.start w0).nilrow 42 2)
  clear hel hcap hb hA hwa hwb
  go_enter Tryd.func17, Tryd.ntmps17
  go_wp2
  go_loopw [5, 13] (fun vo i wr => ∃ (k : Nat) (L : List ME), k ≤ a.length ∧ i = .int .i64 k ∧ Hid (ST w0 [medge vo L] [] wr) ∧ L.length ≤ k ∧ Hid (RowOK A w0.heap.size n vo L wr) ∧ Hid (L.map (·.x) ++ (a.drop k).filterMap (pickO (meet n) b) = Z)) (fun _ i _ => a.length - (intOf i).toNat)
  case atStart => exact ⟨0, [], by omega, rfl, hS0, by simp, Lib.hid (RowOK.nil _ _ _ _ _), V⟩
  case round => as_aux_lemma =>
    clear V hS0
    obtain ⟨k, L, hk, rfl, hS, hLk, hO, hx⟩ := hrel
    by_cases hlt : k < a.length
    · obtain ⟨g, off, sv, rfl, hbs, hab, hc0, hc1, hd⟩ := EL.out k _ (List.getElem?_eq_getElem hlt)
      obtain ⟨sp, sc, rfl⟩ := hd.form
      have hki : (k : Int) < (a.length : Int) := by omega
      have e0 := hS.out.bel.some hc0
      have e1 := hS.out.bel.some hc1
      clear hc0 hc1 hab
      have hst := hx.out
      rw [fm_at hlt] at hst
      have WX := Lib.hid (WA.out.2 _ (List.getElem_mem hlt))
      clear hx WA
      generalize a[k] = x at *
      have HD := Lib.hid (show MaskD A n w0 (.slice sp x.subs.length sc) x.subs from hd)
      obtain ⟨qo, co, hvo⟩ := own_form (hS.out.row 0 rfl)
      dsimp only [medge] at hvo
      subst hvo
      have HX := Lib.hid (hS.out.addbox #[.int .i64 x.num, .slice sp x.subs.length sc] 42)
      have O0 := hO
      have H0 := hS
      clear hS hd hO
      have CF0 : MaskD A (n + 1) (wr.alloc (.cells #[.int .i64 x.num, .slice sp x.subs.length sc] 42)) (.slice pb b.length cb) b := DB.out.bel (H0.out.bel.alloc _)
      cases hz : find b x.num with
      | none =>
        have CF := Lib.hid (mk_find_none hz _ CF0)
        have hp : pickO (meet n) b x = none := by unfold pickO; rw [hz]; rfl
        rw [hp, Option.toList_none, List.nil_append] at hst
        have HST := Lib.hid hst
        clear hst hz hp CF0
        go_wp2_with (go_at_call 22; (with_reducible refine CF.out.mono ?_); rintro e w1 ⟨fp, fc, rfl, k1⟩; have k1 : Bel _ w1 := k1; have k2 := Lib.hid (Bel.of ((Bel.refl wr).alloc _) (Bel.alloc k1 (.cells #[.int .i64 0, .slice fp 0 fc] 42))); clear k1)
        go_roundw
        case rel => exact ⟨k + 1, L, by omega, by go_num, Lib.hid (H0.out.belw k2.out), by omega, Lib.hid (O0.out.bel k2.out), HST⟩
        case measure => simp [intOf]; omega
      | some y =>
        have CF := Lib.hid (mk_find_some hz _ CF0)
        have hp : pickO (meet n) b x = meetO (meet n) x y := by unfold pickO; rw [hz]; rfl
        have WY := Lib.hid (WB.out.find hz)
        rw [hp] at hst
        clear hz hp CF0 WB
        cases hwx : whole x with
        | true =>
          have hp : meetO (meet n) x y = some y := by unfold meetO; rw [if_pos hwx]
          rw [hp] at hst
          have HST := Lib.hid hst
          have CX := Lib.hid (fun p c W => mk_whole_of hwx p c W)
          clear hst hwx hp
          go_wp2_with (first
            | (go_at_call 22; (with_reducible refine CF.out.mono ?_); rintro e w1 ⟨fp, fc, rfl, hfd, k1⟩; have k1 : Bel _ w1 := k1; have H1 := Lib.hid ((HX.out.belw k1).addbox #[.int .i64 y.num, .slice fp y.subs.length fc] 42); have K1 := Lib.hid (Bel.of ((Bel.refl wr).alloc _) (Bel.alloc k1 (.cells #[.int .i64 y.num, .slice fp y.subs.length fc] 42))); have FD1 := Lib.hid (hfd.bel ((Bel.refl _).alloc (.cells #[.int .i64 y.num, .slice fp y.subs.length fc] 42))); have x0 := H1.out.cell 1 rfl 0; have x1 := H1.out.cell 1 rfl 1; dsimp only at x0 x1; clear k1 hfd)
            | (go_at_call 24; (with_reducible refine (CX.out _ _ _).mono ?_); rintro e w2 ⟨rfl, k2⟩; have k2 : Bel _ w2 := k2; have H2 := Lib.hid (H1.out.belw k2); have K2 := Lib.hid (Bel.of K1.out k2); have FD2 := Lib.hid (FD1.out.bel k2); have y0 := H2.out.cell 0 rfl 0; have y1 := H2.out.cell 0 rfl 1; dsimp only at y0 y1; have H3 := Lib.hid (H2.out.belw ((Bel.refl w2).alloc (.cells #[.int .i64 y.num, .slice fp y.subs.length fc] 42))); have O3 := Lib.hid ((O0.out.bel K2.out).bel ((Bel.refl w2).alloc (.cells #[.int .i64 y.num, .slice fp y.subs.length fc] 42))); have FD3 := Lib.hid (FD2.out.bel ((Bel.refl w2).alloc (.cells #[.int .i64 y.num, .slice fp y.subs.length fc] 42))); clear k2)
            | (at_builtin; refine wpList_append_lies _ rfl _ _ 29 rfl w0.heap.size 42 i1 (.agg #[.int .i64 0, .slice none 0 0]) 2 32 Tryd.underlying29 hi1 hy0 hy1 hy2 rfl (by decide) _ L.length _ rfl (H3.out.row 0 rfl) ⟨w2.heap.size, 0, none⟩ 1 1 [.int .i64 y.num, .slice fp y.subs.length fc] rfl rfl (one_new _ _ _) (by simp [Value.oneCell']) (by decide) (by unfold maxLen; omega) (by omega) H3.out.bel.size (w2.heap.size + 1) (by simp) ?_))
          intro g4 cap4 w4 hown hgrow hfr hlt4
          have O4 := Lib.hid (RowOK.snoc (e := ⟨y, fp, fc⟩) (m := L.length + 1) (c := cap4) O3.out H3.out HA0.out (off_old (e := ⟨y, fp, fc⟩) FD3.out) hgrow hfr (by simp))
          have H4 := Lib.hid (medge_snoc (e := ⟨y, fp, fc⟩) (H3.out.grow 0 rfl hgrow hown (fr_own hfr (by simp))))
          clear hown hgrow hfr
          go_wp2
          go_roundw
          case rel => exact ⟨k + 1, L ++ [⟨y, fp, fc⟩], by omega, by go_num, Lib.hid H4.out.dropbox0.dropbox0, by rw [List.length_append, List.length_singleton]; omega, O4, by simpa using HST⟩
          case measure => simp [intOf]; omega
        | false =>
          have hp0 : meetO (meet n) x y = if whole y then some x else if (meet n x.subs y.subs).isEmpty then none else some (.mk x.num (meet n x.subs y.subs)) := by unfold meetO; rw [if_neg (by rw [hwx]; exact Bool.false_ne_true)]
          rw [hp0] at hst
          have CX := Lib.hid (fun p c W => mk_whole_of hwx p c W)
          cases hwy : whole y with
          | true =>
            rw [if_pos hwy] at hst
            have HST := Lib.hid hst
            have CY := Lib.hid (fun p c W => mk_whole_of hwy p c W)
            clear hst hwx hwy hp0
            go_wp2_with (first
              | (go_at_call 22; (with_reducible refine CF.out.mono ?_); rintro e w1 ⟨fp, fc, rfl, hfd, k1⟩; have k1 : Bel _ w1 := k1; have H1 := Lib.hid ((HX.out.belw k1).addbox #[.int .i64 y.num, .slice fp y.subs.length fc] 42); have K1 := Lib.hid (Bel.of ((Bel.refl wr).alloc _) (Bel.alloc k1 (.cells #[.int .i64 y.num, .slice fp y.subs.length fc] 42))); have FD1 := Lib.hid (hfd.bel ((Bel.refl _).alloc (.cells #[.int .i64 y.num, .slice fp y.subs.length fc] 42))); have x0 := H1.out.cell 1 rfl 0; have x1 := H1.out.cell 1 rfl 1; dsimp only at x0 x1; clear k1 hfd)
              | (go_at_call 24; (with_reducible refine (CX.out _ _ _).mono ?_); rintro e w2 ⟨rfl, k2⟩; have k2 : Bel _ w2 := k2; have H2 := Lib.hid (H1.out.belw k2); have K2 := Lib.hid (Bel.of K1.out k2); have FD2 := Lib.hid (FD1.out.bel k2); have y0 := H2.out.cell 0 rfl 0; have y1 := H2.out.cell 0 rfl 1; dsimp only at y0 y1; clear k2)
              | (go_at_call 24; (with_reducible refine (CY.out _ _ _).mono ?_); rintro e w3 ⟨rfl, k3⟩; have k3 : Bel _ w3 := k3; have HA3 := Lib.hid (H2.out.belw k3); have K3 := Lib.hid (Bel.of K2.out k3); have u0 := HA3.out.cell 1 rfl 0; have u1 := HA3.out.cell 1 rfl 1; dsimp only at u0 u1; have H3 := Lib.hid (HA3.out.belw ((Bel.refl w3).alloc (.cells #[.int .i64 x.num, .slice sp x.subs.length sc] 42))); have O3 := Lib.hid ((O0.out.bel K3.out).bel ((Bel.refl w3).alloc (.cells #[.int .i64 x.num, .slice sp x.subs.length sc] 42))); have XD3 := Lib.hid (HD.out.bel H3.out.bel); clear k3)
              | (at_builtin; refine wpList_append_lies _ rfl _ _ 29 rfl w0.heap.size 42 i1 (.agg #[.int .i64 0, .slice none 0 0]) 2 32 Tryd.underlying29 hi1 hy0 hy1 hy2 rfl (by decide) _ L.length _ rfl (H3.out.row 0 rfl) ⟨w3.heap.size, 0, none⟩ 1 1 [.int .i64 x.num, .slice sp x.subs.length sc] rfl rfl (one_new _ _ _) (by simp [Value.oneCell']) (by decide) (by unfold maxLen; omega) (by omega) H3.out.bel.size (w3.heap.size + 1) (by simp) ?_))
            intro g4 cap4 w4 hown hgrow hfr hlt4
            have O4 := Lib.hid (RowOK.snoc (e := ⟨x, sp, sc⟩) (m := L.length + 1) (c := cap4) O3.out H3.out HA0.out (off_old (e := ⟨x, sp, sc⟩) XD3.out) hgrow hfr (by simp))
            have H4 := Lib.hid (medge_snoc (e := ⟨x, sp, sc⟩) (H3.out.grow 0 rfl hgrow hown (fr_own hfr (by simp))))
            clear hown hgrow hfr
            go_wp2
            go_roundw
            case rel => exact ⟨k + 1, L ++ [⟨x, sp, sc⟩], by omega, by go_num, Lib.hid H4.out.dropbox0.dropbox0, by rw [List.length_append, List.length_singleton]; omega, O4, by simpa using HST⟩
            case measure => simp [intOf]; omega
          | false =>
            rw [if_neg (by rw [hwy]; exact Bool.false_ne_true)] at hst
            have CY := Lib.hid (fun p c W => mk_whole_of hwy p c W)
            have hn0 := HD.out.ne (whole_no hwx)
            have CI := Lib.hid (fun W v1 v2 (k : Bel w0 W) h1 h2 => IH hn0 A v1 v2 x.subs y.subs W (fun b hb => Nat.lt_of_lt_of_le (HA0.out b hb) k.size) h1 h2 WX.out WY.out)
            generalize meet n x.subs y.subs = M at CI hst
            clear hwx hwy hp0 hn0 IH WX WY
            cases M with
            | nil =>
              have HST := Lib.hid (show L.map (·.x) ++ (a.drop (k + 1)).filterMap (pickO (meet n) b) = Z from hst)
              clear hst
              go_wp2_with (first
                | (go_at_call 22; (with_reducible refine CF.out.mono ?_); rintro e w1 ⟨fp, fc, rfl, hfd, k1⟩; have k1 : Bel _ w1 := k1; have H1 := Lib.hid ((HX.out.belw k1).addbox #[.int .i64 y.num, .slice fp y.subs.length fc] 42); have K1 := Lib.hid (Bel.of ((Bel.refl wr).alloc _) (Bel.alloc k1 (.cells #[.int .i64 y.num, .slice fp y.subs.length fc] 42))); have FD1 := Lib.hid (hfd.bel ((Bel.refl _).alloc (.cells #[.int .i64 y.num, .slice fp y.subs.length fc] 42))); have x0 := H1.out.cell 1 rfl 0; have x1 := H1.out.cell 1 rfl 1; dsimp only at x0 x1; clear k1 hfd)
                | (go_at_call 24; (with_reducible refine (CX.out _ _ _).mono ?_); rintro e w2 ⟨rfl, k2⟩; have k2 : Bel _ w2 := k2; have H2 := Lib.hid (H1.out.belw k2); have K2 := Lib.hid (Bel.of K1.out k2); have FD2 := Lib.hid (FD1.out.bel k2); have y0 := H2.out.cell 0 rfl 0; have y1 := H2.out.cell 0 rfl 1; dsimp only at y0 y1; clear k2)
                | (go_at_call 24; (with_reducible refine (CY.out _ _ _).mono ?_); rintro e w3 ⟨rfl, k3⟩; have k3 : Bel _ w3 := k3; have H3 := Lib.hid (H2.out.belw k3); have K3 := Lib.hid (Bel.of K2.out k3); have FD3 := Lib.hid (FD2.out.bel k3); have u1 := H3.out.cell 1 rfl 1; have t1 := H3.out.cell 0 rfl 1; dsimp only at u1 t1; clear k3)
                | (go_at_call 17; (with_reducible refine (CI.out _ _ _ H3.out.bel (HD.out.bel H3.out.bel) FD3.out).mono ?_); rintro e w4 ⟨mv, rfl, hmd, k4⟩; have k4 : Bel _ w4 := k4; obtain ⟨mp, mc, hmv⟩ := hmd.form; subst hmv; have H4 := Lib.hid (H3.out.belw k4); have K4 := Lib.hid (Bel.of K3.out k4); have MD4 := Lib.hid (MaskD.weak hmd (fun b hb _ => off_new H3.out hb)); have q0 := H4.out.cell 1 rfl 0; dsimp only at q0; have H5 := Lib.hid (H4.out.belw ((Bel.refl w4).alloc (.cells #[.int .i64 x.num, .slice mp 0 mc] 42))); have O5 := Lib.hid ((O0.out.bel K4.out).bel ((Bel.refl w4).alloc (.cells #[.int .i64 x.num, .slice mp 0 mc] 42))); have MD5 := Lib.hid (MaskD.bel MD4.out ((Bel.refl w4).alloc (.cells #[.int .i64 x.num, .slice mp 0 mc] 42))); clear k4 hmd))
              go_roundw
              case rel => exact ⟨k + 1, L, by omega, by go_num, Lib.hid (H4.out.dropbox0.dropbox0), by omega, Lib.hid (O0.out.bel K4.out), HST⟩
              case measure => simp [intOf]; omega
            | cons m0 M' =>
              have hst2 : L.map (·.x) ++ ([PMask.mk x.num (m0 :: M')] ++ (a.drop (k + 1)).filterMap (pickO (meet n) b)) = Z := hst
              have hMl : (m0 :: M').length = M'.length + 1 := rfl
              generalize m0 :: M' = M at CI hst2 hMl
              have hMp : (0 : Int) < (M.length : Int) := by omega
              have HST := Lib.hid hst2
              clear hst hst2 hMl
              go_wp2_with (first
                | (go_at_call 22; (with_reducible refine CF.out.mono ?_); rintro e w1 ⟨fp, fc, rfl, hfd, k1⟩; have k1 : Bel _ w1 := k1; have H1 := Lib.hid ((HX.out.belw k1).addbox #[.int .i64 y.num, .slice fp y.subs.length fc] 42); have K1 := Lib.hid (Bel.of ((Bel.refl wr).alloc _) (Bel.alloc k1 (.cells #[.int .i64 y.num, .slice fp y.subs.length fc] 42))); have FD1 := Lib.hid (hfd.bel ((Bel.refl _).alloc (.cells #[.int .i64 y.num, .slice fp y.subs.length fc] 42))); have x0 := H1.out.cell 1 rfl 0; have x1 := H1.out.cell 1 rfl 1; dsimp only at x0 x1; clear k1 hfd)
                | (go_at_call 24; (with_reducible refine (CX.out _ _ _).mono ?_); rintro e w2 ⟨rfl, k2⟩; have k2 : Bel _ w2 := k2; have H2 := Lib.hid (H1.out.belw k2); have K2 := Lib.hid (Bel.of K1.out k2); have FD2 := Lib.hid (FD1.out.bel k2); have y0 := H2.out.cell 0 rfl 0; have y1 := H2.out.cell 0 rfl 1; dsimp only at y0 y1; clear k2)
                | (go_at_call 24; (with_reducible refine (CY.out _ _ _).mono ?_); rintro e w3 ⟨rfl, k3⟩; have k3 : Bel _ w3 := k3; have H3 := Lib.hid (H2.out.belw k3); have K3 := Lib.hid (Bel.of K2.out k3); have FD3 := Lib.hid (FD2.out.bel k3); have u1 := H3.out.cell 1 rfl 1; have t1 := H3.out.cell 0 rfl 1; dsimp only at u1 t1; clear k3)
                | (go_at_call 17; (with_reducible refine (CI.out _ _ _ H3.out.bel (HD.out.bel H3.out.bel) FD3.out).mono ?_); rintro e w4 ⟨mv, rfl, hmd, k4⟩; have k4 : Bel _ w4 := k4; obtain ⟨mp, mc, hmv⟩ := hmd.form; subst hmv; have H4 := Lib.hid (H3.out.belw k4); have K4 := Lib.hid (Bel.of K3.out k4); have MD4 := Lib.hid (MaskD.weak hmd (fun b hb _ => off_new H3.out hb)); have q0 := H4.out.cell 1 rfl 0; dsimp only at q0; have H5 := Lib.hid (H4.out.belw ((Bel.refl w4).alloc (.cells #[.int .i64 x.num, .slice mp M.length mc] 42))); have O5 := Lib.hid ((O0.out.bel K4.out).bel ((Bel.refl w4).alloc (.cells #[.int .i64 x.num, .slice mp M.length mc] 42))); have MD5 := Lib.hid (MaskD.bel MD4.out ((Bel.refl w4).alloc (.cells #[.int .i64 x.num, .slice mp M.length mc] 42))); clear k4 hmd)
                | (at_builtin; refine wpList_append_lies _ rfl _ _ 29 rfl w0.heap.size 42 i1 (.agg #[.int .i64 0, .slice none 0 0]) 2 32 Tryd.underlying29 hi1 hy0 hy1 hy2 rfl (by decide) _ L.length _ rfl (H5.out.row 0 rfl) ⟨w4.heap.size, 0, none⟩ 1 1 [.int .i64 x.num, .slice mp M.length mc] rfl rfl (one_new _ _ _) (by simp [Value.oneCell']) (by decide) (by unfold maxLen; omega) (by omega) H5.out.bel.size (w4.heap.size + 1) (by simp) ?_))
              intro g6 cap6 w6 hown hgrow hfr hlt6
              have O6 := Lib.hid (RowOK.snoc (e := ⟨.mk x.num M, mp, mc⟩) (m := L.length + 1) (c := cap6) O5.out H5.out HA0.out MD5.out hgrow hfr (by simp))
              have H6 := Lib.hid (medge_snoc (e := ⟨.mk x.num M, mp, mc⟩) (H5.out.grow 0 rfl hgrow hown (fr_own hfr (by simp))))
              clear hown hgrow hfr
              go_wp2
              go_roundw
              case rel => exact ⟨k + 1, L ++ [⟨.mk x.num M, mp, mc⟩], by omega, by go_num, Lib.hid H6.out.dropbox0.dropbox0, by rw [List.length_append, List.length_singleton]; omega, O6, by simpa using HST⟩
              case measure => simp [intOf]; omega
    · have hkl : k = a.length := by omega
      have hz : L.map (·.x) = Z := by have := hx.out; rw [hkl, List.drop_length] at this; simpa using this
      have HR := Lib.hid (mask_out hS.out hO.out (by omega) hz)
      clear hx
      obtain ⟨qo, co, hvo⟩ := own_form (hS.out.row 0 rfl)
      dsimp only [medge] at hvo
      subst hvo
      go_wp2
      go_ret
      exact ⟨_, rfl, HR.out, hS.out.bel⟩
theorem mk_Meet : ∀ n : Nat, MeetC (n + 1)
  | 0 => mk_Meet_step 0 (fun h => absurd rfl h)
  | n + 1 => mk_Meet_step (n + 1) (fun _ => mk_Meet n)
end Go.Proofs.YtaaneecceiefoaaDoor
