/- Layer 12's law CheckRemoves walked. Printed by genremoves.py. -/
import Derived.Test.YtigfjnbgchndkaaDoorCkRemMem
import Derived.Test.YtigfjnbgchndkaaDoorCkSmall
import Derived.Deep.DeepCutAuto
import Derived.Deep.CutBlock
import Derived.IntWalk
namespace Go.Proofs.YtigfjnbgchndkaaDoor
open Go.RowKit Ck
set_option linter.unusedVariables false
set_option linter.unusedSimpArgs false

def usedF (n : Str) (l : List PField) : Bool := l.any fun f => decide (f.tk = 9 ∧ f.tn = n)
def usedM (n : Str) (l : List PMsg) : Bool := l.any fun m => usedF n m.fields
theorem any_take {α : Type} (p : α → Bool) (l : List α) (k : Nat) (x : α) (h : l[k]? = some x) : (l.take (k + 1)).any p = ((l.take k).any p || p x) := by
  rw [List.take_add_one, h, List.any_append]
  simp
set_option maxHeartbeats 4000000 in
set_option maxRecDepth 100000 in
theorem law_Removes (sq1 sq2 sq3 : Option Addr) (sc1 sc2 sc3 : Nat) (s : PSchema) (w : World) (hM : ML w) (hs : VSchema w [.slice sq1 s.msgs.length sc1, .slice sq2 s.enums.length sc2, .slice sq3 s.svcs.length sc3] s) (hu : UnB s) (n : Int) (hn0 : 0 ≤ n) (hn1 : n < 18446744073709551616) :
    Calls Tryd.prog 6 #[.agg #[.slice sq1 s.msgs.length sc1, .slice sq2 s.enums.length sc2, .slice sq3 s.svcs.length sc3], .int .u64 n] w fun e w' => e = .returned (.bool true) ∧ Below w.heap.size w w' := by
  have KB := Lib.hid (fun W' (k : Bel (w.alloc (.cells #[.slice sq1 s.msgs.length sc1, .slice sq2 s.enums.length sc2, .slice sq3 s.svcs.length sc3] 31)) W') => show W'.cell? ⟨w.heap.size, 0, none⟩ = some (.slice sq1 s.msgs.length sc1) ∧ W'.cell? ⟨w.heap.size, 1, none⟩ = some (.slice sq2 s.enums.length sc2) ∧ W'.cell? ⟨w.heap.size, 2, none⟩ = some (.slice sq3 s.svcs.length sc3) from ⟨k.some ((World.cell?_alloc_at _ _ _ _ rfl).trans rfl), k.some ((World.cell?_alloc_at _ _ _ _ rfl).trans rfl), k.some ((World.cell?_alloc_at _ _ _ _ rfl).trans rfl)⟩)
  have kb : Bel w (w.alloc (.cells #[.slice sq1 s.msgs.length sc1, .slice sq2 s.enums.length sc2, .slice sq3 s.svcs.length sc3] 31)) := (Bel.refl _).alloc _
  have CA := Lib.hid (fun W (k : Bel w W) => law_awake W (hM.below k.out))
  have CS := Lib.hid (fun W (k : Bel w W) => rf_Small sq1 sq2 sq3 s.msgs.length s.enums.length s.svcs.length sc1 sc2 sc3 s W (hs.stays_bel k))
  have CV := Lib.hid (fun W (k : Bel w W) (hp : SmallP s) => ck_Valid sq1 sq2 sq3 s.msgs.length s.enums.length s.svcs.length sc1 sc2 sc3 s W (hs.stays_bel k) (hM.below k.out) (short_of_small hp hu))

  obtain ⟨V, hV⟩ : ∃ V, V = valid s := ⟨_, rfl⟩
  rw [← hV] at CV
  have HVV := Lib.hid hV
  clear hV
  obtain ⟨_, _, _, hcs, hm1, hm2, hm3⟩ := id hs
  cases hcs
  have HM1 := Lib.hid hm1
  have HM2 := Lib.hid hm2
  clear hm1 hm2 hm3
  have HS := Lib.hid hs
  have HMM := Lib.hid hM
  clear hs hM
  have hz : s.enums.length = 0 ∨ 0 < s.enums.length := by omega
  go_enter Tryd.func6, Tryd.ntmps6
  go_upto_region 1 with (fail)
  go_cut [25] (fun s25 wx => ∃ B : Bool, s25 = .bool B ∧ Bel (w.alloc (.cells #[.slice sq1 s.msgs.length sc1, .slice sq2 s.enums.length sc2, .slice sq3 s.svcs.length sc3] 31)) wx ∧ Hid (B = false → SmallP s ∧ 0 < s.enums.length ∧ V = true))
  case first =>
    obtain ⟨c0, c1, c2⟩ := KB.out _ (Bel.refl _)
    rcases hz with hz | hz
    · have hz2 : ((s.enums.length : Int) == 0) = true := by rw [hz]; rfl
      clear hz
      go_wp2_with (go_at_call 9; (with_reducible refine (CS.out _ (Bel.of kb (by (repeat (first | (with_reducible assumption) | (with_reducible exact Bel.refl _) | (with_reducible refine Bel.drew ?_) | (with_reducible refine Bel.drewN ?_ _) | (with_reducible refine Bel.alloc ?_ _))) : Bel (w.alloc (.cells #[.slice sq1 s.msgs.length sc1, .slice sq2 s.enums.length sc2, .slice sq3 s.svcs.length sc3] 31)) _).out)).mono ?_); rintro e w1 ⟨b, rfl, hsm, h1⟩; have k1 : Bel (w.alloc (.cells #[.slice sq1 s.msgs.length sc1, .slice sq2 s.enums.length sc2, .slice sq3 s.svcs.length sc3] 31)) w1 := Bel.of (by (repeat (first | (with_reducible assumption) | (with_reducible exact Bel.refl _) | (with_reducible refine Bel.drew ?_) | (with_reducible refine Bel.drewN ?_ _) | (with_reducible refine Bel.alloc ?_ _)))) h1; have HSM := Lib.hid hsm; clear h1 hsm; obtain ⟨c0, c1, c2⟩ := KB.out _ k1)
      all_goals go_meet
      all_goals exact ⟨true, rfl, k1, Lib.hid (fun h => by cases h)⟩
    · have hz2 : ((s.enums.length : Int) == 0) = false := beq_eq_false_iff_ne.2 (by omega)
      have HZ := Lib.hid hz
      clear hz
      go_wp2_with (first
        | (go_at_call 9; (with_reducible refine (CS.out _ (Bel.of kb (by (repeat (first | (with_reducible assumption) | (with_reducible exact Bel.refl _) | (with_reducible refine Bel.drew ?_) | (with_reducible refine Bel.drewN ?_ _) | (with_reducible refine Bel.alloc ?_ _))) : Bel (w.alloc (.cells #[.slice sq1 s.msgs.length sc1, .slice sq2 s.enums.length sc2, .slice sq3 s.svcs.length sc3] 31)) _).out)).mono ?_); rintro e w1 ⟨b, rfl, hsm, h1⟩; have k1 : Bel (w.alloc (.cells #[.slice sq1 s.msgs.length sc1, .slice sq2 s.enums.length sc2, .slice sq3 s.svcs.length sc3] 31)) w1 := Bel.of (by (repeat (first | (with_reducible assumption) | (with_reducible exact Bel.refl _) | (with_reducible refine Bel.drew ?_) | (with_reducible refine Bel.drewN ?_ _) | (with_reducible refine Bel.alloc ?_ _)))) h1; have HSM := Lib.hid hsm; clear h1 hsm; obtain ⟨c0, c1, c2⟩ := KB.out _ k1)
        | (go_at_call 10; (with_reducible refine (CV.out _ (Bel.of kb (by (repeat (first | (with_reducible assumption) | (with_reducible exact Bel.refl _) | (with_reducible refine Bel.drew ?_) | (with_reducible refine Bel.drewN ?_ _) | (with_reducible refine Bel.alloc ?_ _))) : Bel (w.alloc (.cells #[.slice sq1 s.msgs.length sc1, .slice sq2 s.enums.length sc2, .slice sq3 s.svcs.length sc3] 31)) _).out) (HSM.out (by first | rfl | assumption | simp_all))).mono ?_); rintro e w2 ⟨rfl, h2⟩; have k2 : Bel (w.alloc (.cells #[.slice sq1 s.msgs.length sc1, .slice sq2 s.enums.length sc2, .slice sq3 s.svcs.length sc3] 31)) w2 := Bel.of (by (repeat (first | (with_reducible assumption) | (with_reducible exact Bel.refl _) | (with_reducible refine Bel.drew ?_) | (with_reducible refine Bel.drewN ?_ _) | (with_reducible refine Bel.alloc ?_ _)))) h2; clear h2))
      · go_meet
        exact ⟨!V, rfl, k2, Lib.hid (fun h => ⟨HSM.out (by assumption), HZ.out, by simpa using h⟩)⟩
      · go_meet
        exact ⟨true, rfl, k1, Lib.hid (fun h => by cases h)⟩
  case rest =>
    obtain ⟨B, hs25, kc, hF⟩ := hcut
    subst hs25
    cases B with
    | true =>
      go_wp2_with (go_at_call 7; (with_reducible refine (CA.out _ (Bel.of kb (by (repeat (first | (with_reducible assumption) | (with_reducible exact Bel.refl _) | (with_reducible refine Bel.drew ?_) | (with_reducible refine Bel.drewN ?_ _) | (with_reducible refine Bel.alloc ?_ _))) : Bel (w.alloc (.cells #[.slice sq1 s.msgs.length sc1, .slice sq2 s.enums.length sc2, .slice sq3 s.svcs.length sc3] 31)) _).out)).mono ?_); rintro e w3 ⟨rfl, h3⟩; have k3 : Bel (w.alloc (.cells #[.slice sq1 s.msgs.length sc1, .slice sq2 s.enums.length sc2, .slice sq3 s.svcs.length sc3] 31)) w3 := Bel.of (by (repeat (first | (with_reducible assumption) | (with_reducible exact Bel.refl _) | (with_reducible refine Bel.drew ?_) | (with_reducible refine Bel.drewN ?_ _) | (with_reducible refine Bel.alloc ?_ _)))) h3; clear h3)
      go_ret
      exact ⟨rfl, Bel.out (Bel.of kb k3.out)⟩
    | false =>
      obtain ⟨hsm, hz0, hVt⟩ := hF.out rfl
      obtain ⟨c0, c1, c2⟩ := KB.out _ kc
      have b2 : (s.enums.length : Int) ≤ 1000 := by have := hsm.2.1; omega
      have b3 : 0 < (s.enums.length : Int) := by omega
      obtain ⟨kk, hkk, hkl⟩ : ∃ kk : Nat, n % (s.enums.length : Int) = (kk : Int) ∧ kk < s.enums.length := by
        have h1 := Int.emod_nonneg n (show (s.enums.length : Int) ≠ 0 by omega)
        have h2 := Int.emod_lt_of_pos n b3
        exact ⟨(n % (s.enums.length : Int)).toNat, by omega, by omega⟩
      have hkI : (kk : Int) < (s.enums.length : Int) := by omega
      have hk0 : (0 : Int) ≤ (kk : Int) := by omega
      go_upto_region 4 with (fail)
      clear hkk c0 c1 c2
      obtain ⟨en, hen⟩ : ∃ en, s.enums[kk]? = some en := ⟨_, List.getElem?_eq_getElem hkl⟩
      have hl2 := HM2.out
      obtain ⟨qq2, cq2, hqe2, _, _, hel2⟩ := hl2
      cases hqe2
      obtain ⟨b3', off3, hqq2, hbs3, cs3, hce3, hvs3⟩ := hel2 kk en hen
      have HEN := Lib.hid hen
      have hvs3c := hvs3
      obtain ⟨_, _, _, hvv3, _, _, _⟩ := hvs3c
      subst hvv3
      have en0 : w.cell? ⟨b3', off3 + kk * 5, none⟩ = some (.string (S en.name)) := by
        have := hce3 0 _ rfl
        rwa [Nat.add_zero] at this
      have EN0 := Lib.hid en0
      subst hqq2
      clear hel2 hce3 hvs3 en0
      go_wp2
      go_loopw [6, 7] (fun u i wr => ∃ (j : Nat) (U : Bool), j ≤ s.msgs.length ∧ i = .int .i64 j ∧ u = .bool U ∧ Bel (w.alloc (.cells #[.slice sq1 s.msgs.length sc1, .slice (some ⟨b3', off3, none⟩) s.enums.length sc2, .slice sq3 s.svcs.length sc3] 31)) wr ∧ Hid (U = usedM en.name (s.msgs.take j))) (fun _ i _ => s.msgs.length - (intOf i).toNat)
      case atStart => exact ⟨0, false, by omega, rfl, rfl, kc, Lib.hid rfl⟩
      case round =>
        obtain ⟨j, U, hj, rfl, rfl, kw, hU⟩ := hrel
        obtain ⟨wm, hwm⟩ : ∃ wm, wm = wr := ⟨_, rfl⟩
        subst hwm
        obtain ⟨c0, c1, c2⟩ := KB.out _ kw
        by_cases hlt : j < s.msgs.length
        · have hji : (j : Int) < (s.msgs.length : Int) := by omega
          have hj0 : (0 : Int) ≤ (j : Int) := by omega
          have hg := List.getElem?_eq_getElem hlt
          have hl1 := HM1.out
          obtain ⟨qq1, cq1, hqe1, _, _, hel1⟩ := hl1
          cases hqe1
          obtain ⟨b1', off1, hqq1, hbs1, cs1, hce1, hvs1⟩ := hel1 j _ hg
          have hstep := any_take (fun m : PMsg => usedF en.name m.fields) s.msgs j _ hg
          have HST := Lib.hid (show usedM en.name (s.msgs.take (j + 1)) = (usedM en.name (s.msgs.take j) || usedF en.name s.msgs[j].fields) from hstep)
          obtain ⟨_, _, _, _, hvv1, g1, g2, g3, g4⟩ := hvs1
          obtain ⟨u1, y1, rfl, hfl⟩ := sl_form g1
          obtain ⟨u2, y2, rfl, _⟩ := sl_form g2
          obtain ⟨u3, y3, rfl, _⟩ := sl_form g3
          obtain ⟨u4, y4, rfl, _⟩ := sl_form g4
          have G1 := Lib.hid g1
          subst hvv1
          have E1 := Lib.hid (hce1 1 _ rfl)
          subst hqq1
          clear hel1 hce1 hg hstep g1 g2 g3 g4
          generalize s.msgs[j] = m at *
          go_wp2
          go_loopw [6, 8] (fun u i wr => ∃ (jj : Nat) (U2 : Bool), jj ≤ m.fields.length ∧ i = .int .i64 jj ∧ u = .bool U2 ∧ Bel (w.alloc (.cells #[.slice (some ⟨b1', off1, none⟩) s.msgs.length sc1, .slice (some ⟨b3', off3, none⟩) s.enums.length sc2, .slice sq3 s.svcs.length sc3] 31)) wr ∧ Hid (U2 = (U || usedF en.name (m.fields.take jj)))) (fun _ i _ => m.fields.length - (intOf i).toNat)
          case atStart => exact ⟨0, U, by omega, rfl, rfl, kw, Lib.hid (by simp [usedF])⟩
          case round =>
            clear c0 c1 c2
            obtain ⟨jj, U2, hjj, rfl, rfl, kw2, hU2⟩ := hrel
            obtain ⟨c0, c1, c2⟩ := KB.out _ kw2
            have e1 := (Bel.of kb kw2.out).some E1.out
            by_cases hlt2 : jj < m.fields.length
            · have hjji : (jj : Int) < (m.fields.length : Int) := by omega
              have hjj0 : (0 : Int) ≤ (jj : Int) := by omega
              have hg2 := List.getElem?_eq_getElem hlt2
              have hl3 := G1.out
              obtain ⟨qq3, cq3, hqe3, _, _, hel3⟩ := hl3
              cases hqe3
              obtain ⟨b4, off4, hqq4, hbs4, cs4, hce4, hvs4⟩ := hel3 jj _ hg2
              have HST2 := Lib.hid (show usedF en.name (m.fields.take (jj + 1)) = (usedF en.name (m.fields.take jj) || decide (m.fields[jj].tk = 9 ∧ m.fields[jj].tn = en.name)) from any_take (fun f : PField => decide (f.tk = 9 ∧ f.tn = en.name)) m.fields jj _ hg2)
              obtain ⟨_, _, hvv4, ⟨r1, r2, r3, r4, d1, d2, d3, d4, hvv5, _⟩, _⟩ := hvs4
              subst hvv4 hvv5
              have f4 := (Bel.of kb kw2.out).some (hce4 4 _ rfl)
              have f5 := (Bel.of kb kw2.out).some (hce4 5 _ rfl)
              subst hqq4
              clear hce4 hel3 hg2
              generalize m.fields[jj] = f at *
              have KN := Lib.hid (fun W' (k : Bel wr W') => And.intro ((Bel.of (Bel.of kb kw2.out) k.out).some EN0.out) (KB.out _ (Bel.of kw2 k.out)))
              go_upto_region 12 with (fail)
              by_cases h9 : f.tk = 9
              · have q9 : (f.tk == 9) = true := by rw [h9]; rfl
                by_cases hn : f.tn = en.name
                · have qn : ((S f.tn).toList == (S en.name).toList) = true := by rw [eq_S]; exact decide_eq_true hn
                  have HX := Lib.hid (show true = (U || usedF en.name (m.fields.take (jj + 1))) by rw [HST2.out, decide_eq_true ⟨h9, hn⟩, Bool.or_true, Bool.or_true])
                  clear h9 hn HST2
                  obtain ⟨wd, hwd⟩ : ∃ wd, wd = (wr.alloc (.cells #[.int .i64 f.tk, .string (S f.tn)] 40)).drew := ⟨_, rfl⟩
                  have kx : Bel (wr.alloc (.cells #[.int .i64 f.tk, .string (S f.tn)] 40)) wd := by rw [hwd]; exact (Bel.refl _).drew
                  have kd : Bel wr wd := Bel.of ((Bel.refl _).alloc _) kx.out
                  have t0 : wd.cell? ⟨wr.heap.size, 0, none⟩ = some (.int .i64 f.tk) := kx.some ((World.cell?_alloc_at _ _ _ _ rfl).trans rfl)
                  have t1 : wd.cell? ⟨wr.heap.size, 1, none⟩ = some (.string (S f.tn)) := kx.some ((World.cell?_alloc_at _ _ _ _ rfl).trans rfl)
                  have HWD := Lib.hid hwd
                  clear hwd c0 c1 c2 f4 f5 e1 kx
                  obtain ⟨n0, c0, c1, c2⟩ := KN.out _ kd
                  refine rg_tail 12 (by kernel_rfl) (by kernel_rfl) HWD.out ?_
                  (simp only [List.take_succ_cons, List.take_zero, List.drop_succ_cons, List.drop_zero]); (repeat (first | ((with_reducible refine wpStill_step (fun K hK => ?_)); go_simp; (with_reducible refine hK _ ?_); clear hK K) | ((with_reducible refine rg_skip ?_ ?_); (with_unfolding_all rfl)))); (with_reducible refine wpStill_nil ?_)
                  go_wp2
                  exact ⟨⟨jj + 1, true, by omega, by go_num, rfl, Bel.of kw2 kd.out, HX⟩, by simp [intOf]; omega⟩
                · have qn : ((S f.tn).toList == (S en.name).toList) = false := by rw [eq_S]; exact decide_eq_false hn
                  have HX := Lib.hid (show U2 = (U || usedF en.name (m.fields.take (jj + 1))) by rw [HST2.out, decide_eq_false (fun h => hn h.2), Bool.or_false, hU2.out])
                  clear h9 hn HST2
                  obtain ⟨wd, hwd⟩ : ∃ wd, wd = (wr.alloc (.cells #[.int .i64 f.tk, .string (S f.tn)] 40)).drew := ⟨_, rfl⟩
                  have kx : Bel (wr.alloc (.cells #[.int .i64 f.tk, .string (S f.tn)] 40)) wd := by rw [hwd]; exact (Bel.refl _).drew
                  have kd : Bel wr wd := Bel.of ((Bel.refl _).alloc _) kx.out
                  have t0 : wd.cell? ⟨wr.heap.size, 0, none⟩ = some (.int .i64 f.tk) := kx.some ((World.cell?_alloc_at _ _ _ _ rfl).trans rfl)
                  have t1 : wd.cell? ⟨wr.heap.size, 1, none⟩ = some (.string (S f.tn)) := kx.some ((World.cell?_alloc_at _ _ _ _ rfl).trans rfl)
                  have HWD := Lib.hid hwd
                  clear hwd c0 c1 c2 f4 f5 e1 kx
                  obtain ⟨n0, c0, c1, c2⟩ := KN.out _ kd
                  refine rg_tail 12 (by kernel_rfl) (by kernel_rfl) HWD.out ?_
                  (simp only [List.take_succ_cons, List.take_zero, List.drop_succ_cons, List.drop_zero]); (repeat (first | ((with_reducible refine wpStill_step (fun K hK => ?_)); go_simp; (with_reducible refine hK _ ?_); clear hK K) | ((with_reducible refine rg_skip ?_ ?_); (with_unfolding_all rfl)))); (with_reducible refine wpStill_nil ?_)
                  go_wp2
                  exact ⟨⟨jj + 1, U2, by omega, by go_num, rfl, Bel.of kw2 kd.out, HX⟩, by simp [intOf]; omega⟩
              · have q9 : (f.tk == 9) = false := beq_eq_false_iff_ne.2 h9
                have HX := Lib.hid (show U2 = (U || usedF en.name (m.fields.take (jj + 1))) by rw [HST2.out, decide_eq_false (fun h => h9 h.1), Bool.or_false, hU2.out])
                clear h9 HST2
                obtain ⟨wd, hwd⟩ : ∃ wd, wd = (wr.alloc (.cells #[.int .i64 f.tk, .string (S f.tn)] 40)).drew := ⟨_, rfl⟩
                have kx : Bel (wr.alloc (.cells #[.int .i64 f.tk, .string (S f.tn)] 40)) wd := by rw [hwd]; exact (Bel.refl _).drew
                have kd : Bel wr wd := Bel.of ((Bel.refl _).alloc _) kx.out
                have t0 : wd.cell? ⟨wr.heap.size, 0, none⟩ = some (.int .i64 f.tk) := kx.some ((World.cell?_alloc_at _ _ _ _ rfl).trans rfl)
                have t1 : wd.cell? ⟨wr.heap.size, 1, none⟩ = some (.string (S f.tn)) := kx.some ((World.cell?_alloc_at _ _ _ _ rfl).trans rfl)
                have HWD := Lib.hid hwd
                clear hwd c0 c1 c2 f4 f5 e1 kx
                obtain ⟨n0, c0, c1, c2⟩ := KN.out _ kd
                refine rg_tail 12 (by kernel_rfl) (by kernel_rfl) HWD.out ?_
                (simp only [List.take_succ_cons, List.take_zero, List.drop_succ_cons, List.drop_zero]); (repeat (first | ((with_reducible refine wpStill_step (fun K hK => ?_)); go_simp; (with_reducible refine hK _ ?_); clear hK K) | ((with_reducible refine rg_skip ?_ ?_); (with_unfolding_all rfl)))); (with_reducible refine wpStill_nil ?_)
                go_wp2
                exact ⟨⟨jj + 1, U2, by omega, by go_num, rfl, Bel.of kw2 kd.out, HX⟩, by simp [intOf]; omega⟩
            · have hjji : ¬ (jj : Int) < (m.fields.length : Int) := by omega
              have HNEW := Lib.hid (show U2 = usedM en.name (s.msgs.take (j + 1)) by rw [HST.out, ← hU.out, hU2.out, show jj = m.fields.length by omega, List.take_length])
              clear HST hU2
              go_wp2
              exact ⟨⟨j + 1, U2, by omega, by go_num, rfl, kw2, HNEW⟩, by simp [intOf]; omega⟩
        · have hji : ¬ (j : Int) < (s.msgs.length : Int) := by omega
          have HU := Lib.hid (show U = usedM en.name s.msgs by rw [hU.out, show j = s.msgs.length by omega, List.take_length])
          clear hU
          obtain ⟨i0, hi, hz0, hz1, hz2⟩ := info_parts enum_info
          go_upto_region 15 with (fail)
          obtain ⟨wx, hwx⟩ : ∃ wx, wx = wm.alloc (.cells #[.slice sq1 s.msgs.length sc1, .slice none 0 0, .slice sq3 s.svcs.length sc3] 31) := ⟨_, rfl⟩
          have hXS : XS (w.alloc (.cells #[.slice sq1 s.msgs.length sc1, .slice (some ⟨b3', off3, none⟩) s.enums.length sc2, .slice sq3 s.svcs.length sc3] 31)) wm.heap.size (.slice sq1 s.msgs.length sc1) (.slice sq3 s.svcs.length sc3) [] ((s.enums.take 0).eraseIdx kk) wx := by rw [hwx]; exact XS.start _ _ _ _ kw
          rw [← hwx]
          have hxl : w.heap.size < wm.heap.size := by have := kw.size; simp only [World.size_alloc] at this; omega
          clear hwx c0 c1 c2
          go_wp2
          go_loopw [11] (fun i wr => ∃ (t : Nat) (css : List (List Value)), t ≤ s.enums.length ∧ i = .int .i64 t ∧ XS (w.alloc (.cells #[.slice sq1 s.msgs.length sc1, .slice (some ⟨b3', off3, none⟩) s.enums.length sc2, .slice sq3 s.svcs.length sc3] 31)) wm.heap.size (.slice sq1 s.msgs.length sc1) (.slice sq3 s.svcs.length sc3) css ((s.enums.take t).eraseIdx kk) wr) (fun i _ => s.enums.length - (intOf i).toNat)
          case atStart => exact ⟨0, [], by omega, rfl, hXS⟩
          case round =>
            clear hXS
            obtain ⟨t, css, ht, rfl, hXS⟩ := hrel
            have hb0 := hXS.2.2.1
            obtain ⟨c0, c1, c2⟩ := KB.out _ hb0
            obtain ⟨⟨v, hbx, hown, hne⟩, hrest⟩ := id hXS
            clear hrest
            have x1 : wr.cell? ⟨wm.heap.size, 1, none⟩ = some v := by rw [Lib.cell_of_heap hbx]; rfl
            have x0 : wr.cell? ⟨wm.heap.size, 0, none⟩ = some (.slice sq1 s.msgs.length sc1) := by rw [Lib.cell_of_heap hbx]; rfl
            have x2 : wr.cell? ⟨wm.heap.size, 2, none⟩ = some (.slice sq3 s.svcs.length sc3) := by rw [Lib.cell_of_heap hbx]; rfl
            by_cases hlt3 : t < s.enums.length
            · have hti : (t : Int) < (s.enums.length : Int) := by omega
              have ht0 : (0 : Int) ≤ (t : Int) := by omega
              have hg := List.getElem?_eq_getElem hlt3
              have HER := Lib.hid (erase_take s.enums kk t _ hg)
              by_cases htk : t = kk
              · have HX := Lib.hid (show XS (w.alloc (.cells #[.slice sq1 s.msgs.length sc1, .slice (some ⟨b3', off3, none⟩) s.enums.length sc2, .slice sq3 s.svcs.length sc3] 31)) wm.heap.size (.slice sq1 s.msgs.length sc1) (.slice sq3 s.svcs.length sc3) css ((s.enums.take (t + 1)).eraseIdx kk) wr by rw [HER.out, if_pos htk]; exact hXS)
                have q1 : ((t : Int) != (kk : Int)) = false := by rw [htk]; simp
                have q2 : ((t : Int) == (kk : Int)) = true := by rw [htk]; simp
                clear hg hXS HER hown hne hbx
                go_wp2
                exact ⟨⟨t + 1, css, by omega, by go_num, HX.out⟩, by simp [intOf]; omega⟩
              · have q1 : ((t : Int) != (kk : Int)) = true := by simp; omega
                have q2 : ((t : Int) == (kk : Int)) = false := by simp; omega
                have hl4 := HM2.out
                obtain ⟨qq5, cq5, hqe5, _, _, hel5⟩ := hl4
                cases hqe5
                obtain ⟨b5, off5, hqq5, hbs5, cs5, hce5, hvs5⟩ := hel5 t _ hg
                cases hqq5
                have HER2 := Lib.hid (show (s.enums.take (t + 1)).eraseIdx kk = (s.enums.take t).eraseIdx kk ++ [s.enums[t]] by rw [HER.out, if_neg htk])
                have hvs5c := hvs5
                obtain ⟨_, _, _, hvv5, g1, g2, g3⟩ := hvs5
                obtain ⟨v1, z1, rfl, _⟩ := sl_form g1
                obtain ⟨v2, z2, rfl, _⟩ := sl_form g2
                obtain ⟨v3, z3, rfl, _⟩ := sl_form g3
                subst hvv5
                have HVE := Lib.hid (VEnum.stays _ _ _ _ kb hvs5c)
                clear g1 g2 g3 hvs5c hel5 HER hg htk
                generalize s.enums[t] = en2 at *
                have hw := (Bel.of kb hb0.out)
                have KS := Lib.hid (fun W' (k : Bel wr W') => show W'.cell? ⟨w.heap.size, 0, none⟩ = some (.slice sq1 s.msgs.length sc1) ∧ W'.cell? ⟨w.heap.size, 1, none⟩ = some (.slice (some ⟨b3', off3, none⟩) s.enums.length sc2) ∧ W'.cell? ⟨w.heap.size, 2, none⟩ = some (.slice sq3 s.svcs.length sc3) ∧ W'.cell? ⟨wm.heap.size, 1, none⟩ = some v ∧ W'.cell? ⟨b3', off3 + t * 5, none⟩ = some (.string (S en2.name)) ∧ W'.cell? ⟨b3', off3 + t * 5 + 1, none⟩ = some (.bool en2.op) ∧ W'.cell? ⟨b3', off3 + t * 5 + 2, none⟩ = some (.slice v1 en2.items.length z1) ∧ W'.cell? ⟨b3', off3 + t * 5 + 3, none⟩ = some (.slice v2 en2.res.length z2) ∧ W'.cell? ⟨b3', off3 + t * 5 + 4, none⟩ = some (.slice v3 en2.notes.length z3) from ⟨k.some c0, k.some c1, k.some c2, k.some x1, k.some (by have := hw.some (hce5 0 _ rfl); rwa [Nat.add_zero] at this), k.some (hw.some (hce5 1 _ rfl)), k.some (hw.some (hce5 2 _ rfl)), k.some (hw.some (hce5 3 _ rfl)), k.some (hw.some (hce5 4 _ rfl))⟩)
                have hcl : css.length ≤ 1000 := by
                  have h1 := hXS.2.2.2.2.1
                  have h2 := List.length_eraseIdx_le (s.enums.take t) kk
                  rw [List.length_take] at h2
                  omega
                have HXS := Lib.hid hXS
                have HOWN := Lib.hid hown
                clear hce5 hXS hown hne hbx
                go_upto_region 19 with (fail)
                clear x0 x1 x2 c0 c1 c2
                obtain ⟨wd, hwd⟩ : ∃ wd, wd = wr.drew := ⟨_, rfl⟩
                have kd : Bel wr wd := by rw [hwd]; exact (Bel.refl _).drew
                have HXD := Lib.hid (show XS (w.alloc (.cells #[.slice sq1 s.msgs.length sc1, .slice (some ⟨b3', off3, none⟩) s.enums.length sc2, .slice sq3 s.svcs.length sc3] 31)) wm.heap.size (.slice sq1 s.msgs.length sc1) (.slice sq3 s.svcs.length sc3) css ((s.enums.take t).eraseIdx kk) wd by rw [hwd]; exact HXS.out.drew)
                have HOD := Lib.hid (show wd.ownsRow _ 58 5 v css.length css.flatten by rw [hwd]; exact HOWN.out)
                have HWD := Lib.hid hwd
                clear hwd HXS HOWN
                refine region_treeA (fun W => Bel wr W) (.take 0 (.take 1 (.take 2 (.take 3 (.take 4 (.take 5 (.take 6 (.alt 7 .done .no)))))))) 8 (by kernel_rfl) (by kernel_rfl) HWD.out kd (fun a ha => ?_)
                (simp only [pickT, List.getD_cons_zero, List.getD_cons_succ])
                have hsz : a.tmps.size = 109 := (by rw [ha]; kernel_rfl)
                have a2 : a.eval (.tmp 2) = .pointer (some ⟨w.heap.size, 0, none⟩) := (by rw [ha]; kernel_rfl)
                have a10 : a.eval (.tmp 10) = .pointer (some ⟨wm.heap.size, 0, none⟩) := (by rw [ha]; kernel_rfl)
                have a11 : a.eval (.tmp 11) = .int .i64 t := (by rw [ha]; kernel_rfl)
                (with_reducible refine tree_held (v := ?_) rfl (by with_unfolding_all rfl) (fun ρ hρ W hW => ?_) ?_); (rotate_left 1)
                focus (clear hW; have p10 := hρ (.tmp 10); (simp (disch := (first | decide | ((try simp only [sz_put]); rw [hsz]; decide))) only [ev_eq, ev_ne, a2, a10, a11] at p10); have hc : ∀ c, ρ (.const c) = c := (fun c => hρ (.const c)); have hfn : ∀ f, ρ (.func f) = .func (.func f) #[] #[] := (fun f => hρ (.func f)); clear hρ; go_simp; (all_goals (first | (with_reducible rfl) | (constructor <;> with_reducible rfl))))
                (with_reducible refine tree_held (v := ?_) rfl (by with_unfolding_all rfl) (fun ρ hρ W hW => ?_) ?_); (rotate_left 1)
                focus (have hS := KS.out _ hW; clear hW; have p91 := hρ (.tmp 91); (simp (disch := (first | decide | ((try simp only [sz_put]); rw [hsz]; decide))) only [ev_eq, ev_ne, a2, a10, a11] at p91); have hc : ∀ c, ρ (.const c) = c := (fun c => hρ (.const c)); have hfn : ∀ f, ρ (.func f) = .func (.func f) #[] #[] := (fun f => hρ (.func f)); clear hρ; go_simp; (all_goals (first | (with_reducible rfl) | (constructor <;> with_reducible rfl))))
                (with_reducible refine tree_held (v := ?_) rfl (by with_unfolding_all rfl) (fun ρ hρ W hW => ?_) ?_); (rotate_left 1)
                focus (clear hW; have p2 := hρ (.tmp 2); (simp (disch := (first | decide | ((try simp only [sz_put]); rw [hsz]; decide))) only [ev_eq, ev_ne, a2, a10, a11] at p2); have hc : ∀ c, ρ (.const c) = c := (fun c => hρ (.const c)); have hfn : ∀ f, ρ (.func f) = .func (.func f) #[] #[] := (fun f => hρ (.func f)); clear hρ; go_simp; (all_goals (first | (with_reducible rfl) | (constructor <;> with_reducible rfl))))
                (with_reducible refine tree_held (v := ?_) rfl (by with_unfolding_all rfl) (fun ρ hρ W hW => ?_) ?_); (rotate_left 1)
                focus (have hS := KS.out _ hW; clear hW; have p93 := hρ (.tmp 93); (simp (disch := (first | decide | ((try simp only [sz_put]); rw [hsz]; decide))) only [ev_eq, ev_ne, a2, a10, a11] at p93); have hc : ∀ c, ρ (.const c) = c := (fun c => hρ (.const c)); have hfn : ∀ f, ρ (.func f) = .func (.func f) #[] #[] := (fun f => hρ (.func f)); clear hρ; go_simp; (all_goals (first | (with_reducible rfl) | (constructor <;> with_reducible rfl))))
                (with_reducible refine tree_held (v := ?_) rfl (by with_unfolding_all rfl) (fun ρ hρ W hW => ?_) ?_); (rotate_left 1)
                focus (clear hW; have p11 := hρ (.tmp 11); (simp (disch := (first | decide | ((try simp only [sz_put]); rw [hsz]; decide))) only [ev_eq, ev_ne, a2, a10, a11] at p11); have hc : ∀ c, ρ (.const c) = c := (fun c => hρ (.const c)); have hfn : ∀ f, ρ (.func f) = .func (.func f) #[] #[] := (fun f => hρ (.func f)); clear hρ; go_simp; (all_goals (first | (with_reducible rfl) | (constructor <;> with_reducible rfl))))
                (with_reducible refine tree_held (v := ?_) rfl (by with_unfolding_all rfl) (fun ρ hρ W hW => ?_) ?_); (rotate_left 1)
                focus (clear hW; have p94 := hρ (.tmp 94); (simp (disch := (first | decide | ((try simp only [sz_put]); rw [hsz]; decide))) only [ev_eq, ev_ne, a2, a10, a11] at p94); have p95 := hρ (.tmp 95); (simp (disch := (first | decide | ((try simp only [sz_put]); rw [hsz]; decide))) only [ev_eq, ev_ne, a2, a10, a11] at p95); have hc : ∀ c, ρ (.const c) = c := (fun c => hρ (.const c)); have hfn : ∀ f, ρ (.func f) = .func (.func f) #[] #[] := (fun f => hρ (.func f)); clear hρ; go_simp; (all_goals (first | (with_reducible rfl) | (constructor <;> with_reducible rfl))))
                (with_reducible refine tree_held (v := ?_) rfl (by with_unfolding_all rfl) (fun ρ hρ W hW => ?_) ?_); (rotate_left 1)
                focus (have hS := KS.out _ hW; clear hW; have p96 := hρ (.tmp 96); (simp (disch := (first | decide | ((try simp only [sz_put]); rw [hsz]; decide))) only [ev_eq, ev_ne, a2, a10, a11] at p96); have hc : ∀ c, ρ (.const c) = c := (fun c => hρ (.const c)); have hfn : ∀ f, ρ (.func f) = .func (.func f) #[] #[] := (fun f => hρ (.func f)); clear hρ; go_simp; (all_goals (first | (with_reducible rfl) | (constructor <;> with_reducible rfl))))
                (with_reducible refine tree_step (v := ?_) (w' := ?_) rfl (by with_unfolding_all rfl) (fun ρ hρ => ?_) ?_ ?_ ?_); (rotate_left 2)
                focus (have p97 := hρ (.tmp 97); (simp (disch := (first | decide | ((try simp only [sz_put]); rw [hsz]; decide))) only [ev_eq, ev_ne, a2, a10, a11] at p97); have hc : ∀ c, ρ (.const c) = c := (fun c => hρ (.const c)); have hfn : ∀ f, ρ (.func f) = .func (.func f) #[] #[] := (fun f => hρ (.func f)); clear hρ; go_simp; (all_goals (first | (with_reducible rfl) | (constructor <;> with_reducible rfl))))
                focus (repeat (first | (with_reducible assumption) | (with_reducible exact Bel.refl _) | (with_reducible refine Bel.drew ?_) | (with_reducible refine Bel.drewN ?_ _) | (with_reducible refine Bel.alloc ?_ _)))
                rotate_left 1
                focus exact tree_no
                refine tree_done ?_
                (simp only [List.drop_succ_cons, List.drop_zero])
                subst ha
                (simp only [put_some, set_s, set_z])
                have HXA := Lib.hid (HXD.out.alloc (.cells #[.string (S en2.name), .bool en2.op, .slice v1 en2.items.length z1, .slice v2 en2.res.length z2, .slice v3 en2.notes.length z3] 58))
                have x1 : (wd.alloc (.cells #[.string (S en2.name), .bool en2.op, .slice v1 en2.items.length z1, .slice v2 en2.res.length z2, .slice v3 en2.notes.length z3] 58)).cell? ⟨wm.heap.size, 1, none⟩ = some v := by obtain ⟨⟨v', hb', _⟩, _⟩ := HXA.out; have h0 := (Bel.alloc kd (.cells #[.string (S en2.name), .bool en2.op, .slice v1 en2.items.length z1, .slice v2 en2.res.length z2, .slice v3 en2.notes.length z3] 58)).some (KS.out wr (Bel.refl _)).2.2.2.1; exact h0
                have hBW := HXA.out.2.2.1.size
                go_wp2_with (at_builtin; refine wpList_append_lies _ rfl _ _ 28 rfl _ 58 i0 (.agg #[.string ByteArray.empty, .bool false, .slice none 0 0, .slice none 0 0, .slice none 0 0]) 5 96 Tryd.underlying28 hi hz0 hz1 hz2 rfl (by decide) v css.length css.flatten rfl (HOD.out.alloc _) ⟨wd.heap.size, 0, none⟩ 1 1 [.string (S en2.name), .bool en2.op, .slice v1 en2.items.length z1, .slice v2 en2.res.length z2, .slice v3 en2.notes.length z3] rfl rfl (fun jq uq hq => by rw [Addr.add_lit, Nat.zero_add, World.cell?_alloc_at _ _ _ _ rfl]; simpa using hq) (by simp [Value.oneCell']) (by decide) ?c63 ?cby hBW (wd.heap.size + 1) (by simp) ?_)
                case c63 => unfold maxLen; omega
                case cby => omega
                intro g cap w2 r1 r2 r3 r4
                have HP := Lib.hid (XS.more (q := some ⟨g, 0, none⟩) (cap := cap) HXA.out x1 (by rw [World.size_alloc]; exact r1) r2 (fun g' hg' => by have e := Option.some.inj hg'; simp only at e; subst e; simpa using r3) rfl (by simp [Value.oneCell']) HVE.out)
                clear r1 r2 r3 r4 x1
                have c1 := HP.out.2.1
                have f1 := HP.out.2.2
                go_wp2
                exact ⟨⟨t + 1, css ++ [[.string (S en2.name), .bool en2.op, .slice v1 en2.items.length z1, .slice v2 en2.res.length z2, .slice v3 en2.notes.length z3]], by omega, by go_num, by rw [HER2.out]; exact HP.out.1⟩, by simp [intOf]; omega⟩
            · have hti : ¬ (t : Int) < (s.enums.length : Int) := by omega
              have hes : (s.enums.take t).eraseIdx kk = s.enums.eraseIdx kk := by rw [show t = s.enums.length by omega, List.take_length]
              rw [hes] at hXS
              have hlen2 : (s.enums.eraseIdx kk).length ≤ 1000000000 := by have := List.length_eraseIdx_le s.enums kk; omega
              obtain ⟨q9, c9, hb9, hsv9⟩ := hXS.enums hlen2
              have hwr := Bel.of kb hb0.out
              have hVS : VSchema wr [.slice sq1 s.msgs.length sc1, .slice q9 (s.enums.eraseIdx kk).length c9, .slice sq3 s.svcs.length sc3] (without s kk) := by
                obtain ⟨_, _, _, hcs, h1, _, h3⟩ := VSchema.stays w wr _ s hwr HS.out
                cases hcs
                exact ⟨_, _, _, rfl, h1, hsv9, h3⟩
              obtain ⟨hsh, hsp⟩ := short_without hsm hu kk
              have hall : all s = [] := valid_iff.1 (by rw [← HVV.out]; exact hVt)
              have HR : valid (without s kk) = !U := by rw [removes hall HEN.out, HU.out]; rfl
              have hCX := fun W (k : Bel wr W) => ck_Valid sq1 q9 sq3 s.msgs.length (s.enums.eraseIdx kk).length s.svcs.length sc1 c9 sc3 (without s kk) W (hVS.stays_bel k) ((HMM.out.below hwr.out).below k.out) hsh
              rw [HR] at hCX
              have CX := Lib.hid hCX
              have x0' : wr.cell? ⟨wm.heap.size, 0, none⟩ = some (.slice sq1 s.msgs.length sc1) := (Lib.cell_of_heap hb9 0).trans rfl
              have x1' : wr.cell? ⟨wm.heap.size, 1, none⟩ = some (.slice q9 (s.enums.eraseIdx kk).length c9) := (Lib.cell_of_heap hb9 1).trans rfl
              have x2' : wr.cell? ⟨wm.heap.size, 2, none⟩ = some (.slice sq3 s.svcs.length sc3) := (Lib.cell_of_heap hb9 2).trans rfl
              generalize (s.enums.eraseIdx kk).length = L9 at *
              clear hXS hown hne hbx x0 x1 x2 hb9 hsv9 hVS hsh hsp hall HR hCX hes hlen2
              go_wp2_with (first
                | (go_at_call 10; (with_reducible refine (CX.out _ (Bel.refl _)).mono ?_); rintro e w5 ⟨rfl, h5⟩; have k5 : Bel w w5 := Bel.of hwr h5; clear h5)
                | (go_at_call 7; (with_reducible refine (CA.out _ k5).mono ?_); rintro e w6 ⟨rfl, h6⟩; have k6 : Bel w w6 := Bel.of k5 h6; clear h6))
              go_ret
              exact ⟨rfl, k6.out⟩
end Go.Proofs.YtigfjnbgchndkaaDoor
