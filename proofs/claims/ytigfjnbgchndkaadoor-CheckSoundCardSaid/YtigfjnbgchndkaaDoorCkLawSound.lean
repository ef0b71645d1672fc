/- Layer 12's law CheckSound walked. Printed by gensound.py. -/
import Derived.Test.YtigfjnbgchndkaaDoorCkSouMem
import Derived.Test.YtigfjnbgchndkaaDoorTreeG
import Derived.Deep.DeepCutAuto
import Derived.Deep.CutBlock
import Derived.IntWalk
namespace Go.Proofs.YtigfjnbgchndkaaDoor
open Go.RowKit Ck
set_option linter.unusedVariables false
set_option linter.unusedSimpArgs false

set_option maxHeartbeats 4000000 in
set_option maxRecDepth 100000 in
theorem law_Sound (sq1 sq2 sq3 : Option Addr) (sc1 sc2 sc3 : Nat) (s : PSchema) (w : World) (hM : ML w) (hs : VSchema w [.slice sq1 s.msgs.length sc1, .slice sq2 s.enums.length sc2, .slice sq3 s.svcs.length sc3] s) (hu : UnB s) :
    Calls Tryd.prog 4 #[.agg #[.slice sq1 s.msgs.length sc1, .slice sq2 s.enums.length sc2, .slice sq3 s.svcs.length sc3]] w fun e w' => e = .returned (.bool true) ∧ Below w.heap.size w w' := by
  have KB := Lib.hid (fun W' (k : Bel (w.alloc (.cells #[.slice sq1 s.msgs.length sc1, .slice sq2 s.enums.length sc2, .slice sq3 s.svcs.length sc3] 31)) W') => show W'.cell? ⟨w.heap.size, 0, none⟩ = some (.slice sq1 s.msgs.length sc1) ∧ W'.cell? ⟨w.heap.size, 1, none⟩ = some (.slice sq2 s.enums.length sc2) ∧ W'.cell? ⟨w.heap.size, 2, none⟩ = some (.slice sq3 s.svcs.length sc3) from ⟨k.some ((World.cell?_alloc_at _ _ _ _ rfl).trans rfl), k.some ((World.cell?_alloc_at _ _ _ _ rfl).trans rfl), k.some ((World.cell?_alloc_at _ _ _ _ rfl).trans rfl)⟩)
  have kb : Bel w (w.alloc (.cells #[.slice sq1 s.msgs.length sc1, .slice sq2 s.enums.length sc2, .slice sq3 s.svcs.length sc3] 31)) := (Bel.refl _).alloc _
  have CA := Lib.hid (fun W (k : Bel w W) => law_awake W (hM.below k.out))
  have CS := Lib.hid (fun W (k : Bel w W) => rf_Small sq1 sq2 sq3 s.msgs.length s.enums.length s.svcs.length sc1 sc2 sc3 s W (hs.stays_bel k))
  have CV := Lib.hid (fun W (k : Bel w W) (hp : SmallP s) => ck_Valid sq1 sq2 sq3 s.msgs.length s.enums.length s.svcs.length sc1 sc2 sc3 s W (hs.stays_bel k) (hM.below k.out) (short_of_small hp hu))
  have CD := Lib.hid (fun (n : Str) W (k : Bel w W) => ld_defined sq1 sq2 sq3 sc1 sc2 sc3 s n W (hs.stays_bel k))
  have CT := Lib.hid (fun (tk : Int) (tn : Str) W (k : Bel w W) => ld_typed sq1 sq2 sq3 sc1 sc2 sc3 s tk tn W (hs.stays_bel k))
  obtain ⟨V, hV⟩ : ∃ V, V = valid s := ⟨_, rfl⟩
  rw [← hV] at CV
  have HVV := Lib.hid hV
  clear hV
  obtain ⟨_, _, _, hcs, hm1, hm2, hm3⟩ := id hs
  cases hcs
  have HM1 := Lib.hid hm1
  clear hm1 hm2 hm3 hs hM
  go_enter Tryd.func4, Tryd.ntmps4
  go_upto_region 1 with (fail)
  go_cut [22] (fun s22 wx => ∃ B : Bool, s22 = .bool B ∧ Bel (w.alloc (.cells #[.slice sq1 s.msgs.length sc1, .slice sq2 s.enums.length sc2, .slice sq3 s.svcs.length sc3] 31)) wx ∧ Hid (B = false → SmallP s ∧ V = true))
  case first =>
    obtain ⟨c0, c1, c2⟩ := KB.out _ (Bel.refl _)
    go_wp2_with (first
      | (go_at_call 9; (with_reducible refine (CS.out _ (Bel.of kb (by (repeat (first | (with_reducible assumption) | (with_reducible exact Bel.refl _) | (with_reducible refine Bel.drew ?_) | (with_reducible refine Bel.drewN ?_ _) | (with_reducible refine Bel.alloc ?_ _))) : Bel (w.alloc (.cells #[.slice sq1 s.msgs.length sc1, .slice sq2 s.enums.length sc2, .slice sq3 s.svcs.length sc3] 31)) _).out)).mono ?_); rintro e w1 ⟨b, rfl, hsm, h1⟩; have k1 : Bel (w.alloc (.cells #[.slice sq1 s.msgs.length sc1, .slice sq2 s.enums.length sc2, .slice sq3 s.svcs.length sc3] 31)) w1 := Bel.of (by (repeat (first | (with_reducible assumption) | (with_reducible exact Bel.refl _) | (with_reducible refine Bel.drew ?_) | (with_reducible refine Bel.drewN ?_ _) | (with_reducible refine Bel.alloc ?_ _)))) h1; have HSM := Lib.hid hsm; clear h1 hsm; obtain ⟨c0, c1, c2⟩ := KB.out _ k1)
      | (go_at_call 10; (with_reducible refine (CV.out _ (Bel.of kb (by (repeat (first | (with_reducible assumption) | (with_reducible exact Bel.refl _) | (with_reducible refine Bel.drew ?_) | (with_reducible refine Bel.drewN ?_ _) | (with_reducible refine Bel.alloc ?_ _))) : Bel (w.alloc (.cells #[.slice sq1 s.msgs.length sc1, .slice sq2 s.enums.length sc2, .slice sq3 s.svcs.length sc3] 31)) _).out) (HSM.out (by first | rfl | assumption | simp_all))).mono ?_); rintro e w2 ⟨rfl, h2⟩; have k2 : Bel (w.alloc (.cells #[.slice sq1 s.msgs.length sc1, .slice sq2 s.enums.length sc2, .slice sq3 s.svcs.length sc3] 31)) w2 := Bel.of (by (repeat (first | (with_reducible assumption) | (with_reducible exact Bel.refl _) | (with_reducible refine Bel.drew ?_) | (with_reducible refine Bel.drewN ?_ _) | (with_reducible refine Bel.alloc ?_ _)))) h2; clear h2))
    · go_meet
      exact ⟨!V, rfl, k2, Lib.hid (fun h => ⟨HSM.out (by assumption), by simpa using h⟩)⟩
    · go_meet
      exact ⟨true, rfl, k1, Lib.hid (fun h => by cases h)⟩
  case rest =>
    obtain ⟨B, hs22, kc, hF⟩ := hcut
    subst hs22
    generalize hWB : (w.alloc (.cells #[.slice sq1 s.msgs.length sc1, .slice sq2 s.enums.length sc2, .slice sq3 s.svcs.length sc3] 31)) = WB at kc KB kb
    clear hWB
    cases B with
    | true =>
      go_wp2_with (go_at_call 7; (with_reducible refine (CA.out _ (Bel.of kb kc.out)).mono ?_); rintro e w3 ⟨rfl, h3⟩; have k3 : Bel w w3 := Bel.of (Bel.of kb kc.out) h3; clear h3)
      go_ret
      exact ⟨rfl, k3.out⟩
    | false =>
      obtain ⟨hsm, hVt⟩ := hF.out rfl
      have hall : all s = [] := valid_iff.1 (by rw [← HVV.out]; exact hVt)
      have HSB := Lib.hid (sound_bits hall)
      have HSO := Lib.hid (fun i m (hm : s.msgs[i]? = some m) => sound_m hall i m hm)
      have hn : s.msgs.length ≤ 150 := hsm.1
      clear hF hVt hall hsm HVV CS CV
      obtain ⟨c0, c1, c2⟩ := KB.out _ kc
      have hmk := run_make_row' (P := Tryd.prog) 33 4 (.bool false) 1 Tryd.underlying33 boolsInfo rfl .i64 .i64 s.msgs.length (by omega) (by omega)
      go_upto_region 4 with (fail)
      have hBS := BitsAt.start kc s.msgs.length
      clear hmk c0 c1 c2
      generalize World.alloc wc _ = wb at *
      generalize wc.heap.size = Bf at *
      obtain ⟨FT, hFT⟩ : ∃ FT, FT = sRounds s s.msgs.length (List.replicate s.msgs.length false) := ⟨_, rfl⟩
      have HSB2 := Lib.hid (show ∀ i, i < s.msgs.length → FT.getD i false = true by rw [hFT]; exact HSB.out)
      have HF0 := Lib.hid (show sRounds s (s.msgs.length - 0) (List.replicate s.msgs.length false) = FT from hFT.symm)
      clear hFT HSB
      have hrl : (List.replicate s.msgs.length false).length = s.msgs.length := List.length_replicate
      have hBS' := Lib.hid hBS
      clear hBS
      obtain ⟨c0, c1, c2⟩ := KB.out _ hBS'.out.base
      go_wp2
      go_loopw [4] (fun i wr => ∃ (r : Nat) (fin : List Bool), r ≤ s.msgs.length ∧ i = .int .i64 r ∧ BitsAt WB Bf fin wr ∧ fin.length = s.msgs.length ∧ Hid (sRounds s (s.msgs.length - r) fin = FT)) (fun i _ => s.msgs.length - (intOf i).toNat)
      case atStart => exact ⟨0, _, by omega, rfl, hBS'.out, hrl, HF0⟩
      case round => as_aux_lemma =>
        clear c0 c1 c2 hrl HF0 hBS'
        obtain ⟨r, fin, hr, rfl, hB, hfl, hgo⟩ := hrel
        obtain ⟨c0, c1, c2⟩ := KB.out _ hB.base
        by_cases hlt : r < s.msgs.length
        · have hri : (r : Int) < (s.msgs.length : Int) := by omega
          obtain ⟨R1, hR1⟩ : ∃ R1, R1 = sRound s fin := ⟨_, rfl⟩
          have HG := Lib.hid (show sRounds s (s.msgs.length - (r + 1)) R1 = FT by
            have h := hgo.out
            rw [show s.msgs.length - r = (s.msgs.length - (r + 1)) + 1 by omega] at h
            rw [hR1]
            exact h)
          have HR1 := Lib.hid (show ((List.range s.msgs.length).drop 0).foldl (sStep s) fin = R1 from hR1.symm)
          clear hR1 hgo
          go_wp2
          go_loopw [5] (fun i wr => ∃ (j : Nat) (fin2 : List Bool), j ≤ s.msgs.length ∧ i = .int .i64 j ∧ BitsAt WB Bf fin2 wr ∧ fin2.length = s.msgs.length ∧ Hid (((List.range s.msgs.length).drop j).foldl (sStep s) fin2 = R1)) (fun i _ => s.msgs.length - (intOf i).toNat)
          case atStart => exact ⟨0, fin, by omega, rfl, hB, hfl, HR1⟩
          case round => as_aux_lemma =>
            clear c0 c1 c2 hB HR1 hfl
            obtain ⟨j, fin2, hj, rfl, hB2, hfl2, hgo2⟩ := hrel
            obtain ⟨c0, c1, c2⟩ := KB.out _ hB2.base
            by_cases hlt2 : j < s.msgs.length
            · have hji : (j : Int) < (s.msgs.length : Int) := by omega
              have hj0 : (0 : Int) ≤ (j : Int) := by omega
              have hg := List.getElem?_eq_getElem hlt2
              have hl1 := HM1.out
              obtain ⟨qq1, cq1, hqe1, _, _, hel1⟩ := hl1
              cases hqe1
              obtain ⟨b1', off1, hqq1, hbs1, cs1, hce1, hvs1⟩ := hel1 j _ hg
              have hst : sStep s fin2 j = fin2.set j (fin2.getD j false || sNeeds s s.msgs[j] fin2) := by unfold sStep; rw [hg]
              have HST := Lib.hid (show ((List.range s.msgs.length).drop (j + 1)).foldl (sStep s) (fin2.set j (fin2.getD j false || sNeeds s s.msgs[j] fin2)) = R1 by
                have h := hgo2.out
                rw [range_drop _ _ hlt2, List.foldl_cons, hst] at h
                exact h)
              have HN0 := Lib.hid (show (true && (s.msgs[j].fields.drop 0).all (needF s fin2)) = sNeeds s s.msgs[j] fin2 by rw [sNeeds_all, List.drop_zero, Bool.true_and])
              obtain ⟨_, _, _, _, hvv1, g1, g2, g3, g4⟩ := hvs1
              obtain ⟨u1, y1, rfl, _⟩ := sl_form g1
              obtain ⟨u2, y2, rfl, _⟩ := sl_form g2
              obtain ⟨u3, y3, rfl, _⟩ := sl_form g3
              obtain ⟨u4, y4, rfl, _⟩ := sl_form g4
              have G1 := Lib.hid g1
              subst hvv1
              have E1 := Lib.hid (hce1 1 _ rfl)
              subst hqq1
              clear hel1 hce1 hg hst hgo2 g1 g2 g3 g4
              generalize s.msgs[j] = m at *
              generalize sNeeds s m fin2 = NB at *
              have e1 := (Bel.of kb hB2.base.out).some E1.out
              go_wp2
              go_loopw [6, 7] (fun o i wr => ∃ (k : Nat) (ok : Bool), k ≤ m.fields.length ∧ i = .int .i64 k ∧ o = .bool ok ∧ BitsAt WB Bf fin2 wr ∧ Hid ((ok && (m.fields.drop k).all (needF s fin2)) = NB)) (fun _ i _ => m.fields.length - (intOf i).toNat)
              case atStart => exact ⟨0, true, by omega, rfl, rfl, hB2, HN0⟩
              case round => as_aux_lemma =>
                clear c0 c1 c2 e1 hB2 HN0
                obtain ⟨k, ok, hk, rfl, rfl, hB3, hgo3⟩ := hrel
                obtain ⟨c0, c1, c2⟩ := KB.out _ hB3.base
                have hw3 : Bel w wr := Bel.of kb hB3.base.out
                have e1 := hw3.some E1.out
                by_cases hlt3 : k < m.fields.length
                · have hki : (k : Int) < (m.fields.length : Int) := by omega
                  have hk0 : (0 : Int) ≤ (k : Int) := by omega
                  have hg2 := List.getElem?_eq_getElem hlt3
                  have hl3 := G1.out
                  obtain ⟨qq3, cq3, hqe3, _, _, hel3⟩ := hl3
                  cases hqe3
                  obtain ⟨b4, off4, hqq4, hbs4, cs4, hce4, hvs4⟩ := hel3 k _ hg2
                  have HST3 := Lib.hid (show (ok && (needF s fin2 m.fields[k] && (m.fields.drop (k + 1)).all (needF s fin2))) = NB by rw [← hgo3.out, drop_all _ _ _ _ hg2])
                  obtain ⟨_, _, hvv4, ⟨r1, r2, r3, r4, d1, d2, d3, d4, hvv5, _⟩, hnt⟩ := hvs4
                  obtain ⟨v1, z1, hnv, _⟩ := sl_form hnt
                  subst hvv4 hvv5 hnv
                  generalize m.fields[k] = f at *
                  have aE := agg_Field
                  obtain ⟨K, hK⟩ : ∃ K, K = 16 := ⟨_, rfl⟩
                  have zE : ∀ w, (Go.sizeOf 49).run Tryd.prog w = .ok K w := hK ▸ size_Field
                  have l2 : Sem.run Tryd.prog (loadCellsFrom ⟨b4, off4 + k * K, none⟩ 0 K #[]) wr = .ok #[.int .i64 f.num, .string (S f.name), .int .i64 f.card, .int .i64 f.key, .int .i64 f.tk, .string (S f.tn), .string (S f.un), .bool f.hd, .int .i64 f.df.k, .int .u64 f.df.x, .string (S f.df.t), .slice r1 f.df.n1 d1, .slice r2 f.df.n2 d2, .slice r3 f.df.n3 d3, .slice r4 f.df.n4 d4, .slice v1 f.notes.length z1] wr := run_loadCellsFrom_list Tryd.prog _ _ _ K hK.symm (fun i v hi => by
                    rw [hK, Addr.add_lit]
                    exact hw3.some (hce4 i v hi))
                  have HK := Lib.hid hK
                  subst hqq4
                  clear hK hce4 hg2 hnt hel3 hgo3
                  go_upto_region 15 with (fail)
                  all_goals (first | (exfalso; exact absurd HK.out.symm (by assumption)) | (have h16 : 16 = K := (by assumption); subst h16))
                  clear l2 aE zE HK
                  generalize hwF : World.alloc wr _ = wF
                  have kF : Bel wr wF := by rw [← hwF]; exact (Bel.refl _).alloc _
                  have x2 : wF.cell? ⟨wr.heap.size, 2, none⟩ = some (.int .i64 f.card) := by rw [← hwF, World.cell?_alloc_at _ _ _ _ rfl]; rfl
                  have x4 : wF.cell? ⟨wr.heap.size, 4, none⟩ = some (.int .i64 f.tk) := by rw [← hwF, World.cell?_alloc_at _ _ _ _ rfl]; rfl
                  have x5 : wF.cell? ⟨wr.heap.size, 5, none⟩ = some (.string (S f.tn)) := by rw [← hwF, World.cell?_alloc_at _ _ _ _ rfl]; rfl
                  have HBF := Lib.hid (hB3.bel kF)
                  clear hwF c0 c1 c2 e1 hB3
                  obtain ⟨c0, c1, c2⟩ := KB.out _ HBF.out.base
                  by_cases hb : f.card = 1 ∧ f.tk = 10
                  · have q1 : (f.card == 1) = true := by rw [hb.1]; rfl
                    have q2 : (f.tk == 10) = true := by rw [hb.2]; rfl
                    have HN := Lib.hid (show (ok && (onIdx fin2 (idxOf s f.tn) && (m.fields.drop (k + 1)).all (needF s fin2))) = NB by rw [← HST3.out, needF_of hb])
                    clear hb HST3
                    go_upto_region 16 with (fail)
                    go_cut [9, 10] (fun s9 s10 wx => ∃ (at9 : Int) (b : Bool), s9 = .int .i64 at9 ∧ s10 = .bool b ∧ Bel wF wx ∧ Hid ((∃ kx : Nat, idxOf s f.tn = some kx ∧ at9 = kx ∧ kx < s.msgs.length ∧ b = true) ∨ (idxOf s f.tn = none ∧ at9 = 0 ∧ b = false)))
                    case first => as_aux_lemma =>
                      go_wp2_with (go_at_call 11; (with_reducible refine (CD.out _ _ (Bel.of kb HBF.out.base.out)).mono ?_); rintro e w4 ⟨⟨i4, b4x, rfl, hi4⟩, h4⟩; have k4 : Bel wF w4 := Bel.of (Bel.refl _) h4; have HI4 := Lib.hid hi4; clear h4 hi4)
                      go_meet
                      exact ⟨i4, b4x, rfl, rfl, k4, HI4⟩
                    case rest =>
                      obtain ⟨at9, b9, hs9, hs10, k9, hi9⟩ := hcut
                      subst hs9 hs10
                      have HB9 := Lib.hid (HBF.out.bel k9)
                      clear c0 c1 c2 x2 x4 x5
                      rcases hi9.out with ⟨kx, hx, rfl, hkx, rfl⟩ | ⟨hx, rfl, rfl⟩
                      · have y := HB9.out.cell kx (by omega)
                        have HN2 := Lib.hid (show (ok && (fin2.getD kx false && (m.fields.drop (k + 1)).all (needF s fin2))) = NB by rw [← HN.out, hx]; rfl)
                        have hx0 : (0 : Int) ≤ (kx : Int) := by omega
                        have hx1 : (kx : Int) < (s.msgs.length : Int) := by omega
                        clear hx HN hi9
                        generalize fin2.getD kx false = bk at *
                        cases ok
                        all_goals
                          go_wp2
                          refine ⟨⟨k + 1, _, by omega, by go_num, rfl, HB9.out, Lib.hid ?_⟩, by simp [intOf]; omega⟩
                          have h9 := HN2.out
                          simpa using h9
                      · have HN2 := Lib.hid (show (ok && (false && (m.fields.drop (k + 1)).all (needF s fin2))) = NB by rw [← HN.out, hx]; rfl)
                        clear hx HN hi9
                        cases ok
                        all_goals
                          go_wp2
                          refine ⟨⟨k + 1, _, by omega, by go_num, rfl, HB9.out, Lib.hid ?_⟩, by simp [intOf]; omega⟩
                          have h9 := HN2.out
                          simpa using h9
                  · have HN := Lib.hid (show (ok && (m.fields.drop (k + 1)).all (needF s fin2)) = NB by rw [← HST3.out, needF_not hb, Bool.true_and])
                    clear HST3
                    have hq : ((f.card == 1) = true ∧ (f.tk == 10) = false) ∨ (f.card == 1) = false := by
                      by_cases h1 : f.card = 1
                      · exact .inl ⟨by rw [h1]; rfl, beq_eq_false_iff_ne.2 (fun h => hb ⟨h1, h⟩)⟩
                      · exact .inr (beq_eq_false_iff_ne.2 h1)
                    clear hb
                    rcases hq with ⟨q1, q2⟩ | q1
                    all_goals
                      go_wp2
                      exact ⟨⟨k + 1, ok, by omega, by go_num, rfl, HBF.out, HN⟩, by simp [intOf]; omega⟩
                · have hki : ¬ (k : Int) < (m.fields.length : Int) := by omega
                  have hok : ok = NB := by
                    have h := hgo3.out
                    rw [show k = m.fields.length by omega, List.drop_length] at h
                    simpa using h
                  subst hok
                  have y := hB3.cell j (by omega)
                  have yf := hB3.frozen j
                  have HB3 := Lib.hid hB3
                  clear hgo3 hB3
                  generalize hbj : fin2.getD j false = bj at *
                  have HBJ := Lib.hid hbj
                  clear hbj
                  cases bj
                  all_goals
                    go_wp2
                    refine ⟨⟨j + 1, _, by omega, by go_num, HB3.out.set j _, by simpa using hfl2, ?_⟩, by simp [intOf]; omega⟩
                    exact HST
            · have hji : ¬ (j : Int) < (s.msgs.length : Int) := by omega
              have hfR : fin2 = R1 := by
                have h := hgo2.out
                rw [show j = s.msgs.length by omega, List.drop_eq_nil_of_le (by simp)] at h
                exact h
              subst hfR
              have HB2 := Lib.hid hB2
              clear hgo2 hB2
              go_wp2
              exact ⟨⟨r + 1, fin2, by omega, by go_num, HB2.out, hfl2, HG⟩, by simp [intOf]; omega⟩
        · have hri : ¬ (r : Int) < (s.msgs.length : Int) := by omega
          have hfT : fin = FT := by
            have h := hgo.out
            rw [show s.msgs.length - r = 0 by omega] at h
            exact h
          subst hfT
          clear hgo
          have HB := Lib.hid hB
          clear hB c0 c1 c2
          obtain ⟨c0, c1, c2⟩ := KB.out _ HB.out.base
          go_wp2
          go_loopw [11] (fun i wr => ∃ j : Nat, j ≤ s.msgs.length ∧ i = .int .i64 j ∧ BitsAt WB Bf fin wr) (fun i _ => s.msgs.length - (intOf i).toNat)
          case atStart => exact ⟨0, by omega, rfl, HB.out⟩
          case round => as_aux_lemma =>
            clear c0 c1 c2 HB
            obtain ⟨j, hj, rfl, hB2⟩ := hrel
            obtain ⟨c0, c1, c2⟩ := KB.out _ hB2.base
            by_cases hlt2 : j < s.msgs.length
            · have hji : (j : Int) < (s.msgs.length : Int) := by omega
              have hj0 : (0 : Int) ≤ (j : Int) := by omega
              have hg := List.getElem?_eq_getElem hlt2
              have hl1 := HM1.out
              obtain ⟨qq1, cq1, hqe1, _, _, hel1⟩ := hl1
              cases hqe1
              obtain ⟨b1', off1, hqq1, hbs1, cs1, hce1, hvs1⟩ := hel1 j _ hg
              have HSM := Lib.hid (HSO.out j _ hg)
              have hprev : j = 0 ∨ ∃ (jp : Nat) (pn : Str), j = jp + 1 ∧ pn < s.msgs[j].name ∧ w.cell? ⟨b1', off1 + jp * 5, none⟩ = some (.string (S pn)) := by
                by_cases h0 : j = 0
                · exact .inl h0
                · right
                  have hgp := List.getElem?_eq_getElem (show j - 1 < s.msgs.length by omega)
                  obtain ⟨b9, off9, hq9, _, cs9, hce9, hvs9⟩ := hel1 (j - 1) _ hgp
                  have hqq := hqq1.symm.trans hq9
                  cases hqq
                  obtain ⟨_, _, _, _, hvv9, _⟩ := hvs9
                  subst hvv9
                  have e9 := hce9 0 _ rfl
                  rw [Nat.add_zero] at e9
                  exact ⟨j - 1, _, by omega, HSM.out.ord _ (by omega) hgp, e9⟩
              obtain ⟨_, _, _, _, hvv1, g1, g2, g3, g4⟩ := hvs1
              obtain ⟨u1, y1, rfl, _⟩ := sl_form g1
              obtain ⟨u2, y2, rfl, _⟩ := sl_form g2
              obtain ⟨u3, y3, rfl, _⟩ := sl_form g3
              obtain ⟨u4, y4, rfl, _⟩ := sl_form g4
              have G1 := Lib.hid g1
              subst hvv1
              have hwr : Bel w wr := Bel.of kb hB2.base.out
              have e0 := hwr.some (hce1 0 _ rfl)
              rw [Nat.add_zero] at e0
              have e1 := hwr.some (hce1 1 _ rfl)
              have E1 := Lib.hid e1
              subst hqq1
              have y := hB2.cell j (by omega)
              rw [HSB2.out j hlt2] at y
              have HPV := Lib.hid hprev
              clear hel1 hce1 hg g1 g2 g3 g4 hprev
              generalize s.msgs[j] = m at *
              have hl64 : (m.fields.length : Int) ≤ 64 := by have := HSM.out.len; omega
              have hl64' : ¬ ((64 : Int) < (m.fields.length : Int)) := by omega
              have HB2 := Lib.hid hB2
              clear hB2
              go_upto_region 23 with (fail)
              go_cut [141] (fun s141 wx => s141 = .bool false ∧ Bel wr wx)
              case first => as_aux_lemma =>
                have KS := Lib.hid (And.intro c0 (And.intro c1 (And.intro c2 (And.intro e0 (And.intro e1 y)))))
                clear c0 c1 c2 e0 e1 y
                obtain ⟨wd, hwd⟩ : ∃ wd, wd = wr.drew := ⟨_, rfl⟩
                have kd : Bel wr wd := by rw [hwd]; exact (Bel.refl _).drew
                have HWD := Lib.hid hwd
                clear hwd
                have c0 := kd.some KS.out.1
                have c1 := kd.some KS.out.2.1
                have c2 := kd.some KS.out.2.2.1
                have e0 := kd.some KS.out.2.2.2.1
                have e1 := kd.some KS.out.2.2.2.2.1
                have y := kd.some KS.out.2.2.2.2.2
                rcases HPV.out with h0 | ⟨jp, pn, hjp, hlt9, hc9⟩
                · subst h0
                  refine rg_tail 22 (by kernel_rfl) (by kernel_rfl) HWD.out ?_
                  (simp only [List.take_succ_cons, List.take_zero, List.drop_succ_cons, List.drop_zero]); (repeat (first | ((with_reducible refine wpStill_step (fun K hK => ?_)); go_simp; (with_reducible refine hK _ ?_); clear hK K) | ((with_reducible refine rg_skip ?_ ?_); (with_unfolding_all rfl)))); (with_reducible refine wpStill_nil ?_)
                  go_wp2
                  go_meet
                  exact ⟨rfl, kd⟩
                · have hj00 : (0 : Int) < (j : Int) := by omega
                  have hj00n : 0 < j := by omega
                  have jw : IntKind.i64.wrap ((j : Int) - 1) = (jp : Int) := by rw [show (j : Int) - 1 = (jp : Int) by omega]; exact wrap_small _ (by omega) (by omega)
                  have jw3 : (j : Int) - 1 = (jp : Int) := by omega
                  have jw2 : IntKind.i64.wrap (jp : Int) = (jp : Int) := wrap_small _ (by omega) (by omega)
                  have j1 : (jp : Int) < (s.msgs.length : Int) := by omega
                  have j0 : (0 : Int) ≤ (jp : Int) := by omega
                  obtain ⟨z1, z2⟩ := lt_bytes hlt9
                  have ep := kd.some (hwr.some hc9)
                  clear hjp hlt9 hc9
                  refine rg_tail 22 (by kernel_rfl) (by kernel_rfl) HWD.out ?_
                  (simp only [List.take_succ_cons, List.take_zero, List.drop_succ_cons, List.drop_zero]); (repeat (first | ((with_reducible refine wpStill_step (fun K hK => ?_)); go_simp; (with_reducible refine hK _ ?_); clear hK K) | ((with_reducible refine rg_skip ?_ ?_); (with_unfolding_all rfl)))); (with_reducible refine wpStill_nil ?_)
                  go_wp2
                  go_meet
                  exact ⟨rfl, kd⟩
              case rest =>
                obtain ⟨hs141, kz⟩ := hcut
                subst hs141
                have HB3 := Lib.hid (HB2.out.bel kz)
                clear c0 c1 c2 e0 e1 y
                go_wp2
                go_loopw [13] (fun i wr => ∃ k : Nat, k ≤ m.fields.length ∧ i = .int .i64 k ∧ BitsAt WB Bf fin wr) (fun i _ => m.fields.length - (intOf i).toNat)
                case atStart => exact ⟨0, by omega, rfl, HB3.out⟩
                case round => as_aux_lemma =>
                  obtain ⟨wo, hwo⟩ : ∃ wo, wo = wr := ⟨_, rfl⟩
                  obtain ⟨k, hk, rfl, hB4⟩ := hrel
                  clear hwo wo
                  obtain ⟨c0, c1, c2⟩ := KB.out _ hB4.base
                  by_cases hlt3 : k < m.fields.length
                  · have hki : (k : Int) < (m.fields.length : Int) := by omega
                    have hk0 : (0 : Int) ≤ (k : Int) := by omega
                    have hg2 := List.getElem?_eq_getElem hlt3
                    have hl3 := G1.out
                    obtain ⟨qq3, cq3, hqe3, hle3, _, hel3⟩ := hl3
                    cases hqe3
                    obtain ⟨b4, off4, hqq4, hbs4, cs4, hce4, hvs4⟩ := hel3 k _ hg2
                    subst hqq4
                    have HSF := Lib.hid (HSM.out.field k _ hg2)
                    have hprev : k = 0 ∨ ∃ (kp : Nat) (pn : Int), k = kp + 1 ∧ pn < m.fields[k].num ∧ w.cell? ⟨b4, off4 + kp * 16, none⟩ = some (.int .i64 pn) := by
                      by_cases h0 : k = 0
                      · exact .inl h0
                      · right
                        have hgp := List.getElem?_eq_getElem (show k - 1 < m.fields.length by omega)
                        obtain ⟨b9, off9, hq9, _, cs9, hce9, hvs9⟩ := hel3 (k - 1) _ hgp
                        cases hq9
                        obtain ⟨_, _, hvv9, _⟩ := hvs9
                        subst hvv9
                        have e9 := hce9 0 _ rfl
                        rw [Nat.add_zero] at e9
                        exact ⟨k - 1, _, by omega, HSF.out.ord _ (by omega) hgp, e9⟩
                    have HPR := Lib.hid (fun (n2 : Nat) (hn2 : n2 < k) => (show ∃ gn : Str, gn ≠ m.fields[k].name ∧ w.cell? ⟨b4, off4 + n2 * 16 + 1, none⟩ = some (.string (S gn)) by
                      have hgp := List.getElem?_eq_getElem (show n2 < m.fields.length by omega)
                      obtain ⟨b9, off9, hq9, _, cs9, hce9, hvs9⟩ := hel3 n2 _ hgp
                      cases hq9
                      obtain ⟨_, _, hvv9, _⟩ := hvs9
                      subst hvv9
                      exact ⟨_, HSF.out.names n2 _ hn2 hgp, hce9 1 _ rfl⟩))
                    obtain ⟨_, _, hvv4, _, _⟩ := hvs4
                    subst hvv4
                    have hwr4 : Bel w wr := Bel.of kb hB4.base.out
                    have x0 := hwr4.some (hce4 0 _ rfl)
                    rw [Nat.add_zero] at x0
                    have x1 := hwr4.some (hce4 1 _ rfl)
                    have HX1 := Lib.hid (hce4 1 _ rfl)
                    have x4 := hwr4.some (hce4 4 _ rfl)
                    have x5 := hwr4.some (hce4 5 _ rfl)
                    have HPV2 := Lib.hid hprev
                    clear hel3 hce4 hg2 hprev
                    generalize m.fields[k] = f at *
                    have CTx := Lib.hid (fun W (k : Bel w W) => (show Calls Tryd.prog 12 #[.agg #[.slice (some ⟨b1', off1, none⟩) s.msgs.length sc1, .slice sq2 s.enums.length sc2, .slice sq3 s.svcs.length sc3], .agg #[.int .i64 f.tk, .string (S f.tn)]] W (fun e w' => e = .returned (.bool true) ∧ Below W.heap.size W w') by have h := CT.out f.tk f.tn W k; rw [HSF.out.typ] at h; exact h))
                    have hlo : ¬ (f.num < 1) := by have := HSF.out.lo; omega
                    have hhi : ¬ (65535 < f.num) := by have := HSF.out.hi; omega
                    have HB4 := Lib.hid hB4
                    clear hB4
                    obtain ⟨wr4, hwr4'⟩ : ∃ wr4, wr4 = wr := ⟨_, rfl⟩
                    subst hwr4'
                    have X1 := Lib.hid x1
                    go_upto_region 28 with (fail)
                    go_cut [189] (fun s189 wx => s189 = .bool false ∧ Bel wr4 wx)
                    case first => as_aux_lemma =>
                      have KW := Lib.hid (fun W' (kq : Bel wr4 W') => And.intro (kq.some c0) (And.intro (kq.some c1) (And.intro (kq.some c2) (And.intro (kq.some x0) (And.intro (kq.some x1) (And.intro (kq.some x4) (kq.some x5)))))))
                      clear c0 c1 c2 x0 x1 x4 x5
                      obtain ⟨wd, hwd⟩ : ∃ wd, wd = wr4.drew := ⟨_, rfl⟩
                      have kd : Bel wr4 wd := by rw [hwd]; exact (Bel.refl _).drew
                      have HWD := Lib.hid hwd
                      clear hwd
                      obtain ⟨c0, c1, c2, x0, x1, x4, x5⟩ := KW.out _ kd
                      rcases HPV2.out with h0 | ⟨kp, pn, hkp, hlt9, hc9⟩
                      · have hk0n : ¬ (0 < k) := by omega
                        clear h0
                        refine region_two 6 37 (by kernel_rfl) (by kernel_rfl) HWD.out ?_
                        (simp only [List.take_succ_cons, List.take_zero, List.drop_succ_cons, List.drop_zero]); (repeat (first | ((with_reducible refine wpStill_step (fun K hK => ?_)); go_simp; (with_reducible refine hK _ ?_); clear hK K) | ((with_reducible refine rg_skip ?_ ?_); (with_unfolding_all rfl)))); (with_reducible refine wpStill_nil ?_)
                        unfold wpOp
                        go_simp
                        refine Or.inl ((CTx.out _ (Bel.of hwr4 kd.out)).mono ?_)
                        rintro e w5 ⟨rfl, h5⟩
                        have k5 : Bel wr4 w5 := Bel.of kd h5
                        clear h5 c0 c1 c2 x0 x1 x4 x5
                        obtain ⟨c0, c1, c2, x0, x1, x4, x5⟩ := KW.out _ k5

                        go_simp
                        (repeat (first | ((with_reducible refine wpStill_step (fun K hK => ?_)); go_simp; (with_reducible refine hK _ ?_); clear hK K) | ((with_reducible refine rg_skip ?_ ?_); (with_unfolding_all rfl)))); (with_reducible refine wpStill_nil ?_)
                        go_wp2
                        go_meet
                        exact ⟨rfl, k5⟩
                      · have hk00 : (0 : Int) < (k : Int) := by omega
                        have hk00n : 0 < k := by omega
                        have jw : IntKind.i64.wrap ((k : Int) - 1) = (kp : Int) := by rw [show (k : Int) - 1 = (kp : Int) by omega]; exact wrap_small _ (by omega) (by omega)
                        have jw3 : (k : Int) - 1 = (kp : Int) := by omega
                        have jw2 : IntKind.i64.wrap (kp : Int) = (kp : Int) := wrap_small _ (by omega) (by omega)
                        have j1 : (kp : Int) < (m.fields.length : Int) := by omega
                        have j0 : (0 : Int) ≤ (kp : Int) := by omega
                        have hno : ¬ (f.num ≤ pn) := by omega
                        have EP := Lib.hid (hwr4.some hc9)
                        have ep := kd.some EP.out
                        clear hkp hlt9 hc9
                        refine region_two 6 37 (by kernel_rfl) (by kernel_rfl) HWD.out ?_
                        (simp only [List.take_succ_cons, List.take_zero, List.drop_succ_cons, List.drop_zero]); (repeat (first | ((with_reducible refine wpStill_step (fun K hK => ?_)); go_simp; (with_reducible refine hK _ ?_); clear hK K) | ((with_reducible refine rg_skip ?_ ?_); (with_unfolding_all rfl)))); (with_reducible refine wpStill_nil ?_)
                        unfold wpOp
                        go_simp
                        refine Or.inl ((CTx.out _ (Bel.of hwr4 kd.out)).mono ?_)
                        rintro e w5 ⟨rfl, h5⟩
                        have k5 : Bel wr4 w5 := Bel.of kd h5
                        clear h5 c0 c1 c2 x0 x1 x4 x5 ep
                        obtain ⟨c0, c1, c2, x0, x1, x4, x5⟩ := KW.out _ k5
                        have ep := k5.some EP.out
                        go_simp
                        (repeat (first | ((with_reducible refine wpStill_step (fun K hK => ?_)); go_simp; (with_reducible refine hK _ ?_); clear hK K) | ((with_reducible refine rg_skip ?_ ?_); (with_unfolding_all rfl)))); (with_reducible refine wpStill_nil ?_)
                        go_wp2
                        go_meet
                        exact ⟨rfl, k5⟩
                    case rest =>
                      obtain ⟨hs189, kz4⟩ := hcut
                      subst hs189
                      have HB5 := Lib.hid (HB4.out.bel kz4)
                      clear c0 c1 c2 x0 x1 x4 x5
                      go_wp2
                      go_loopw [14] (fun i wr => ∃ n2 : Nat, n2 ≤ k ∧ i = .int .i64 n2 ∧ BitsAt WB Bf fin wr) (fun i _ => k - (intOf i).toNat)
                      case atStart => exact ⟨0, by omega, rfl, HB5.out⟩
                      case round => as_aux_lemma =>
                        obtain ⟨n2, hn2, rfl, hB6⟩ := hrel
                        obtain ⟨wr6, hwr6⟩ : ∃ wr6, wr6 = wr := ⟨_, rfl⟩
                        subst hwr6
                        have hw6 : Bel w wr6 := Bel.of kb hB6.base.out
                        by_cases hlt6 : n2 < k
                        · have h6i : (n2 : Int) < (k : Int) := by omega
                          have h60 : (0 : Int) ≤ (n2 : Int) := by omega
                          have h6l : (n2 : Int) < (m.fields.length : Int) := by omega
                          have hkl : (k : Int) < (m.fields.length : Int) := by omega
                          have hk0' : (0 : Int) ≤ (k : Int) := by omega
                          obtain ⟨gn, hgn, hcn⟩ := HPR.out n2 hlt6
                          have qn : ((S gn).toList == (S f.name).toList) = false := by rw [eq_S]; exact decide_eq_false hgn
                          have x1 := hw6.some hcn
                          clear hgn hcn
                          have x2 : wr6.cell? ⟨b4, off4 + k * 16 + 1, none⟩ = some (.string (S f.name)) := hw6.some HX1.out
                          go_upto_region 33 with (fail)
                          have KS := Lib.hid (And.intro x1 x2)
                          clear x1 x2
                          obtain ⟨wd, hwd⟩ : ∃ wd, wd = wr6.drew := ⟨_, rfl⟩
                          have kd : Bel wr6 wd := by rw [hwd]; exact (Bel.refl _).drew
                          have HWD := Lib.hid hwd
                          clear hwd
                          have x1 := kd.some KS.out.1
                          have x2 := kd.some KS.out.2
                          refine rg_tail 10 (by kernel_rfl) (by kernel_rfl) HWD.out ?_
                          (simp only [List.take_succ_cons, List.take_zero, List.drop_succ_cons, List.drop_zero]); (repeat (first | ((with_reducible refine wpStill_step (fun K hK => ?_)); go_simp; (with_reducible refine hK _ ?_); clear hK K) | ((with_reducible refine rg_skip ?_ ?_); (with_unfolding_all rfl)))); (with_reducible refine wpStill_nil ?_)
                          go_wp2
                          exact ⟨⟨n2 + 1, by omega, by go_num, hB6.bel kd⟩, by simp [intOf]; omega⟩
                        · have h6i : ¬ ((n2 : Int) < (k : Int)) := by omega
                          have HB6 := Lib.hid hB6
                          clear hB6
                          go_wp2
                          exact ⟨⟨k + 1, by omega, by go_num, HB6.out⟩, by simp [intOf]; omega⟩
                  · have hki : ¬ (k : Int) < (m.fields.length : Int) := by omega
                    have HB4 := Lib.hid hB4
                    clear hB4
                    go_wp2
                    exact ⟨⟨j + 1, by omega, by go_num, HB4.out⟩, by simp [intOf]; omega⟩
            · have hji : ¬ (j : Int) < (s.msgs.length : Int) := by omega
              have hwr : Bel w wr := Bel.of kb hB2.base.out
              go_wp2_with (go_at_call 7; (with_reducible refine (CA.out _ hwr).mono ?_); rintro e w3 ⟨rfl, h3⟩; have k3 : Bel w w3 := Bel.of hwr h3; clear h3)
              go_ret
              exact ⟨rfl, k3.out⟩


end Go.Proofs.YtigfjnbgchndkaaDoor
