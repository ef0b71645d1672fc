/- Layer 12's law CheckAlls walked. Printed by genlawa.py. -/
import Derived.Test.YtigfjnbgchndkaaGreatDoorRkF
import Derived.Test.YtigfjnbgchndkaaGreatDoorCkSmall
import Derived.Test.YtigfjnbgchndkaaGreatDoorCkParMem
import Derived.Test.YtigfjnbgchndkaaGreatDoorKitF
import Derived.Test.YtigfjnbgchndkaaGreatDoorTreeG
import Derived.Deep.DeepCutAuto
namespace Go.Proofs.YtigfjnbgchndkaaGreatDoor
open Go.RowKit Ck
set_option linter.unusedVariables false
set_option linter.unusedSimpArgs false

theorem rhoCfRkLawA {a : Act} {ρ : Operand → Value} (h : ∀ x, ρ x = a.eval x) : (∀ c, ρ (.const c) = c) ∧ ∀ f, ρ (.func f) = .func (.func f) #[] #[] := ⟨fun c => h (.const c), fun f => h (.func f)⟩
theorem firstV_form (T : List PProb) : ∃ pd pn pe OK, firstV T = .tuple #[.agg #[.string (S pd), .int .i64 pn, .int .i64 pe], .bool OK] := by
 cases T with
 | nil => exact ⟨[], 0, 0, false, rfl⟩
 | cons p r => exact ⟨_, _, _, true, rfl⟩
set_option maxHeartbeats 4000000 in
set_option maxRecDepth 100000 in
theorem law_Alls (sq1 sq2 sq3 : Option Addr) (sc1 sc2 sc3 : Nat) (s : PSchema) (w : World) (hM : ML w) (hs : VSchema w [.slice sq1 s.msgs.length sc1, .slice sq2 s.enums.length sc2, .slice sq3 s.svcs.length sc3] s) (hu : UnB s) :
  Calls Tryz.prog 3 #[.agg #[.slice sq1 s.msgs.length sc1, .slice sq2 s.enums.length sc2, .slice sq3 s.svcs.length sc3]] w fun e w' => e = .returned (.bool true) ∧ Below w.heap.size w w' := by
 have KB := Lib.hid (fun W' (k : Bel (w.alloc (.cells #[.slice sq1 s.msgs.length sc1, .slice sq2 s.enums.length sc2, .slice sq3 s.svcs.length sc3] 26)) W') => show W'.cell? ⟨w.heap.size, 0, none⟩ = some (.slice sq1 s.msgs.length sc1) ∧ W'.cell? ⟨w.heap.size, 1, none⟩ = some (.slice sq2 s.enums.length sc2) ∧ W'.cell? ⟨w.heap.size, 2, none⟩ = some (.slice sq3 s.svcs.length sc3) from ⟨k.some ((World.cell?_alloc_at _ _ _ _ rfl).trans rfl), k.some ((World.cell?_alloc_at _ _ _ _ rfl).trans rfl), k.some ((World.cell?_alloc_at _ _ _ _ rfl).trans rfl)⟩)
 have kb : Bel w (w.alloc (.cells #[.slice sq1 s.msgs.length sc1, .slice sq2 s.enums.length sc2, .slice sq3 s.svcs.length sc3] 26)) := (Bel.refl _).alloc _
 have CA := Lib.hid (fun W (k : Bel w W) => law_awake W (hM.below k.out))
 have CS := Lib.hid (fun W (k : Bel w W) => rf_Small sq1 sq2 sq3 s.msgs.length s.enums.length s.svcs.length sc1 sc2 sc3 s W (hs.stays_bel k))
 have HS := Lib.hid hs
 have HMM := Lib.hid hM
 clear hs hM
 go_enter Tryz.func3, Tryz.ntmps3
 go_upto_region 1 with (fail)
 go_cut [9] (fun s9 wx => ∃ B : Bool, s9 = .bool B ∧ Bel (w.alloc (.cells #[.slice sq1 s.msgs.length sc1, .slice sq2 s.enums.length sc2, .slice sq3 s.svcs.length sc3] 26)) wx ∧ Hid (B = false → SmallP s))
 case first =>
  obtain ⟨c0, c1, c2⟩ := KB.out _ (Bel.refl _)
  go_wp2_with (go_at_call 7; (with_reducible refine (CS.out _ (Bel.of kb (by (with_reducible repeat first | assumption | exact Bel.refl _ | refine Bel.drew ?_ | refine Bel.drewN ?_ _ | refine Bel.alloc ?_ _) : Bel (w.alloc (.cells #[.slice sq1 s.msgs.length sc1, .slice sq2 s.enums.length sc2, .slice sq3 s.svcs.length sc3] 26)) _).out)).mono ?_); rintro e w1 ⟨b, rfl, hsm, h1⟩; have k1 : Bel (w.alloc (.cells #[.slice sq1 s.msgs.length sc1, .slice sq2 s.enums.length sc2, .slice sq3 s.svcs.length sc3] 26)) w1 := Bel.of (by (with_reducible repeat first | assumption | exact Bel.refl _ | refine Bel.drew ?_ | refine Bel.drewN ?_ _ | refine Bel.alloc ?_ _)) h1; have HSM := Lib.hid hsm; clear h1 hsm)
  go_meet
  exact ⟨!b, rfl, k1, Lib.hid (fun h => HSM.out (by simpa using h))⟩
 case rest =>
  obtain ⟨B, hs9, kc, hF⟩ := hcut
  subst hs9
  cases B with
  | true =>
   go_wp2_with (go_at_call 8; (with_reducible refine (CA.out _ (Bel.of kb (by (with_reducible repeat first | assumption | exact Bel.refl _ | refine Bel.drew ?_ | refine Bel.drewN ?_ _ | refine Bel.alloc ?_ _) : Bel (w.alloc (.cells #[.slice sq1 s.msgs.length sc1, .slice sq2 s.enums.length sc2, .slice sq3 s.svcs.length sc3] 26)) _).out)).mono ?_); rintro e w3 ⟨rfl, h3⟩; have k3 : Bel (w.alloc (.cells #[.slice sq1 s.msgs.length sc1, .slice sq2 s.enums.length sc2, .slice sq3 s.svcs.length sc3] 26)) w3 := Bel.of (by (with_reducible repeat first | assumption | exact Bel.refl _ | refine Bel.drew ?_ | refine Bel.drewN ?_ _ | refine Bel.alloc ?_ _)) h3; clear h3)
   go_ret
   exact ⟨rfl, Bel.out (Bel.of kb k3.out)⟩
  | false =>
   have hsm := hF.out rfl
   have hsh := short_of_small hsm hu
   have HLN := Lib.hid (show (all s).length ≤ 1000000000 from hsh.2.2.2.2)
   have hCAL : ∀ W, Bel w W → Calls Tryz.prog 12 #[.agg #[.slice sq1 s.msgs.length sc1, .slice sq2 s.enums.length sc2, .slice sq3 s.svcs.length sc3]] W (ProbsOut W (all s)) := fun W k => ck_All sq1 sq2 sq3 s.msgs.length s.enums.length s.svcs.length sc1 sc2 sc3 s W (HS.out.stays_bel k) (HMM.out.below k.out) hsh
   have hRAL : ∀ W, Bel w W → Calls Tryz.prog 13 #[.agg #[.slice sq1 s.msgs.length sc1, .slice sq2 s.enums.length sc2, .slice sq3 s.svcs.length sc3]] W (ProbsOut W (all s)) := fun W k => rk_All sq1 sq2 sq3 sc1 sc2 sc3 s W (HS.out.stays_bel k) hsh
   have hCFI := fun W (k : Bel w W) => ck_First sq1 sq2 sq3 s.msgs.length s.enums.length s.svcs.length sc1 sc2 sc3 s W (HS.out.stays_bel k) (HMM.out.below k.out) hsh
   have hRFI := fun W (k : Bel w W) => rk_First sq1 sq2 sq3 sc1 sc2 sc3 s W (HS.out.stays_bel k) hsh
   have hCVA := fun W (k : Bel w W) => ck_Valid sq1 sq2 sq3 s.msgs.length s.enums.length s.svcs.length sc1 sc2 sc3 s W (HS.out.stays_bel k) (HMM.out.below k.out) hsh
   have hRVA := fun W (k : Bel w W) => rk_Valid sq1 sq2 sq3 sc1 sc2 sc3 s W (HS.out.stays_bel k) hsh
   obtain ⟨pd, pn, pe, OK, hfv⟩ := firstV_form (all s)
   rw [hfv] at hCFI hRFI
   have CAL := Lib.hid hCAL
   have RAL := Lib.hid hRAL
   have CFI := Lib.hid hCFI
   have RFI := Lib.hid hRFI
   have CVA := Lib.hid hCVA
   have RVA := Lib.hid hRVA
   clear hCAL hRAL hCFI hRFI hCVA hRVA hfv hsm hsh hF CS HMM hu
   generalize all s = T at CAL RAL HLN
   generalize valid s = VD at CVA RVA
   go_upto_region 3 with (fail)
   go_cut [3, 4] (fun s3 s4 wx => ∃ pb : Nat, s3 = .pointer (some ⟨pb, 0, none⟩) ∧ s4 = .bool OK ∧ Bel (w.alloc (.cells #[.slice sq1 s.msgs.length sc1, .slice sq2 s.enums.length sc2, .slice sq3 s.svcs.length sc3] 26)) wx ∧ wx.heap[pb]? = some (.cells #[.string (S pd), .int .i64 pn, .int .i64 pe] 31 (0, 0)))
   case first =>
    obtain ⟨c0, c1, c2⟩ := KB.out _ kc
    go_wp2_with (go_at_call 9; (with_reducible refine (CFI.out _ (Bel.of kb (by (with_reducible repeat first | assumption | exact Bel.refl _ | refine Bel.drew ?_ | refine Bel.drewN ?_ _ | refine Bel.alloc ?_ _) : Bel (w.alloc (.cells #[.slice sq1 s.msgs.length sc1, .slice sq2 s.enums.length sc2, .slice sq3 s.svcs.length sc3] 26)) _).out)).mono ?_); rintro e w4 ⟨rfl, h4⟩; have k4 : Bel (w.alloc (.cells #[.slice sq1 s.msgs.length sc1, .slice sq2 s.enums.length sc2, .slice sq3 s.svcs.length sc3] 26)) w4 := Bel.of (by (with_reducible repeat first | assumption | exact Bel.refl _ | refine Bel.drew ?_ | refine Bel.drewN ?_ _ | refine Bel.alloc ?_ _)) h4; clear h4)
    go_meet
    exact ⟨w4.heap.size, rfl, rfl, (by (with_reducible repeat first | assumption | exact Bel.refl _ | refine Bel.drew ?_ | refine Bel.drewN ?_ _ | refine Bel.alloc ?_ _)), heap_alloc_at _ _ _ rfl⟩
   case rest =>
    clear kc
    obtain ⟨pb, hs3, hs4, kp, hpb⟩ := hcut
    subst hs3 hs4
    obtain ⟨wp, hwp⟩ : ∃ wp, wp = wc := ⟨_, rfl⟩
    subst hwp
    go_upto_region 4 with (fail)
    go_cut [5, 6] (fun s5 s6 wx => ∃ qb : Nat, s5 = .pointer (some ⟨qb, 0, none⟩) ∧ s6 = .bool OK ∧ Bel (w.alloc (.cells #[.slice sq1 s.msgs.length sc1, .slice sq2 s.enums.length sc2, .slice sq3 s.svcs.length sc3] 26)) wx ∧ wx.heap[pb]? = some (.cells #[.string (S pd), .int .i64 pn, .int .i64 pe] 31 (0, 0)) ∧ wx.heap[qb]? = some (.cells #[.string (S pd), .int .i64 pn, .int .i64 pe] 31 (0, 0)))
    case first =>
     obtain ⟨c0, c1, c2⟩ := KB.out _ kp
     go_wp2_with (go_at_call 10; (with_reducible refine (RFI.out _ (Bel.of kb (by (with_reducible repeat first | assumption | exact Bel.refl _ | refine Bel.drew ?_ | refine Bel.drewN ?_ _ | refine Bel.alloc ?_ _) : Bel (w.alloc (.cells #[.slice sq1 s.msgs.length sc1, .slice sq2 s.enums.length sc2, .slice sq3 s.svcs.length sc3] 26)) _).out)).mono ?_); rintro e w4 ⟨rfl, h4⟩; have k4 : Bel (w.alloc (.cells #[.slice sq1 s.msgs.length sc1, .slice sq2 s.enums.length sc2, .slice sq3 s.svcs.length sc3] 26)) w4 := Bel.of (by (with_reducible repeat first | assumption | exact Bel.refl _ | refine Bel.drew ?_ | refine Bel.drewN ?_ _ | refine Bel.alloc ?_ _)) h4; have g4 := h4; clear h4; have kw4 : Bel wp w4 := g4)
     go_meet
     have kz := kw4.alloc (.cells #[.string (S pd), .int .i64 pn, .int .i64 pe] 31)
     exact ⟨w4.heap.size, rfl, rfl, (by (with_reducible repeat first | assumption | exact Bel.refl _ | refine Bel.drew ?_ | refine Bel.drewN ?_ _ | refine Bel.alloc ?_ _)), (Below.block kz _ (Array.getElem?_eq_some_iff.1 hpb).1).trans hpb, heap_alloc_at _ _ _ rfl⟩
    case rest =>
     clear kp hpb
     obtain ⟨qb, hs5, hs6, kq, hpb, hqb⟩ := hcut
     subst hs5 hs6
     have kbq : Bel w wc := Bel.of kb kq.out
     go_upto_region 5 with (fail)
     obtain ⟨wd, hwd⟩ : ∃ wd, wd = wc.drew := ⟨_, rfl⟩
     have kd : Bel wc wd := by rw [hwd]; exact (Bel.refl _).drew
     have HWD := Lib.hid hwd
     clear hwd
     have KS := Lib.hid (fun W' (k : Bel wc W') => show W'.cell? ⟨w.heap.size, 0, none⟩ = some (.slice sq1 s.msgs.length sc1) ∧ W'.cell? ⟨w.heap.size, 1, none⟩ = some (.slice sq2 s.enums.length sc2) ∧ W'.cell? ⟨w.heap.size, 2, none⟩ = some (.slice sq3 s.svcs.length sc3) ∧ W'.cell? ⟨pb, 0, none⟩ = some (.string (S pd)) ∧ W'.cell? ⟨pb, 1, none⟩ = some (.int .i64 pn) ∧ W'.cell? ⟨pb, 2, none⟩ = some (.int .i64 pe) ∧ W'.cell? ⟨qb, 0, none⟩ = some (.string (S pd)) ∧ W'.cell? ⟨qb, 1, none⟩ = some (.int .i64 pn) ∧ W'.cell? ⟨qb, 2, none⟩ = some (.int .i64 pe) from by
      obtain ⟨c0, c1, c2⟩ := KB.out _ (Bel.of kq k.out)
      exact ⟨c0, c1, c2, k.some ((Lib.cell_of_heap hpb 0).trans rfl), k.some ((Lib.cell_of_heap hpb 1).trans rfl), k.some ((Lib.cell_of_heap hpb 2).trans rfl), k.some ((Lib.cell_of_heap hqb 0).trans rfl), k.some ((Lib.cell_of_heap hqb 1).trans rfl), k.some ((Lib.cell_of_heap hqb 2).trans rfl)⟩)
     clear hpb hqb
     refine region_treeA (fun W => Bel wc W) (.take 0 (.take 2 (.alt 1 (.alt 3 (.alt 4 (.take 5 (.take 6 (.take 7 (.take 8 (.take 9 (.take 10 (.take 11 (.take 12 (.take 13 (.take 14 (.take 15 (.take 16 (.take 17 (.take 18 (.take 19 (.take 20 (.take 21 (.take 22 (.take 23 (.take 24 (.take 25 (.take 26 (.take 27 (.take 28 (.take 29 (.take 30 (.take 31 (.take 32 (.take 34 (.alt 33 .done .no)))))))))))))))))))))))))))))) .no) .no) .no))) 35 (by kernel_rfl) (by kernel_rfl) HWD.out kd (fun a ha => ?_)
     (simp only [pickT, List.getD_cons_zero, List.getD_cons_succ])
     have hsz : a.tmps.size = 62 := (by rw [ha]; kernel_rfl)
     have a1 : a.eval (.tmp 1) = .pointer (some ⟨w.heap.size, 0, none⟩) := (by rw [ha]; kernel_rfl)
     have a3 : a.eval (.tmp 3) = .pointer (some ⟨pb, 0, none⟩) := (by rw [ha]; kernel_rfl)
     have a4 : a.eval (.tmp 4) = .bool OK := (by rw [ha]; kernel_rfl)
     have a5 : a.eval (.tmp 5) = .pointer (some ⟨qb, 0, none⟩) := (by rw [ha]; kernel_rfl)
     have a6 : a.eval (.tmp 6) = .bool OK := (by rw [ha]; kernel_rfl)
     (with_reducible refine tree_held (v := ?_) rfl (by with_unfolding_all rfl) (fun ρ hρ W hW => ?_) ?_); (rotate_left 1)
     focus (have hS := KS.out _ hW; clear hW; have p1 := hρ (.tmp 1); (simp (disch := (first | decide | ((try simp only [sz_put]); rw [hsz]; decide))) only [ev_eq, ev_ne, a1, a3, a4, a5, a6] at p1); obtain ⟨hc, hfn⟩ := rhoCfRkLawA hρ; clear hρ; go_simp; (all_goals with_reducible first | rfl | (constructor <;> rfl)))
     (with_reducible refine tree_held (v := ?_) rfl (by with_unfolding_all rfl) (fun ρ hρ W hW => ?_) ?_); (rotate_left 1)
     focus (have hS := KS.out _ hW; clear hW; have p1 := hρ (.tmp 1); (simp (disch := (first | decide | ((try simp only [sz_put]); rw [hsz]; decide))) only [ev_eq, ev_ne, a1, a3, a4, a5, a6] at p1); obtain ⟨hc, hfn⟩ := rhoCfRkLawA hρ; clear hρ; go_simp; (all_goals with_reducible first | rfl | (constructor <;> rfl)))
     (with_reducible refine tree_enter (f := ?_) (args := ?_) rfl (by with_unfolding_all rfl) (fun ρ hρ => ?_) ?_ ?_); (rotate_left 2)
     focus (have p21 := hρ (.tmp 21); (simp (disch := (first | decide | ((try simp only [sz_put]); rw [hsz]; decide))) only [ev_eq, ev_ne, a1, a3, a4, a5, a6] at p21); obtain ⟨hc, hfn⟩ := rhoCfRkLawA hρ; clear hρ; rw [execOp_call_rho (hfn _)]; clear hfn; go_simp; (all_goals with_reducible first | rfl | (constructor <;> rfl)))
     (with_reducible refine (CAL.out _ (Bel.of kbq kd.out)).mono ?_)
     rintro e w5 ⟨va, rfl, own5, g5⟩
     have k5 : Bel wc w5 := Bel.of kd g5
     obtain ⟨qa, ca, rfl⟩ := own_form own5
     have OWN5 := Lib.hid own5
     clear own5 g5
     refine ⟨_, rfl, k5, ?_⟩
     rotate_left 1
     focus exact tree_no
     (with_reducible refine tree_enter (f := ?_) (args := ?_) rfl (by with_unfolding_all rfl) (fun ρ hρ => ?_) ?_ ?_); (rotate_left 2)
     focus (have p23 := hρ (.tmp 23); (simp (disch := (first | decide | ((try simp only [sz_put]); rw [hsz]; decide))) only [ev_eq, ev_ne, a1, a3, a4, a5, a6] at p23); obtain ⟨hc, hfn⟩ := rhoCfRkLawA hρ; clear hρ; rw [execOp_call_rho (hfn _)]; clear hfn; go_simp; (all_goals with_reducible first | rfl | (constructor <;> rfl)))
     (with_reducible refine (RAL.out _ (Bel.of kbq k5.out)).mono ?_)
     rintro e w6 ⟨vb, rfl, own6, g6⟩
     have k6 : Bel wc w6 := Bel.of k5 g6
     obtain ⟨qb2, cb, rfl⟩ := own_form own6
     have SA := Lib.hid (probs_sv (row_bel OWN5.out (Bel.of (Bel.refl _) g6)) HLN.out)
     have SB := Lib.hid (probs_sv own6 HLN.out)
     clear own6 g6 OWN5
     refine ⟨_, rfl, k6, ?_⟩
     rotate_left 1
     focus exact tree_no
     (with_reducible refine tree_enter (f := ?_) (args := ?_) rfl (by with_unfolding_all rfl) (fun ρ hρ => ?_) ?_ ?_); (rotate_left 2)
     focus (have p22 := hρ (.tmp 22); have p24 := hρ (.tmp 24); (simp (disch := (first | decide | ((try simp only [sz_put]); rw [hsz]; decide))) only [ev_eq, ev_ne, a1, a3, a4, a5, a6] at p22 p24); obtain ⟨hc, hfn⟩ := rhoCfRkLawA hρ; clear hρ; rw [execOp_call_rho (hfn _)]; clear hfn; go_simp; (all_goals with_reducible first | rfl | (constructor <;> rfl)))
     (with_reducible refine (rf_Same _ _ _ _ _ SA.out SB.out).mono ?_)
     rintro e w7 ⟨⟨r, rfl, hr⟩, h7⟩
     have k7 : Bel wc w7 := Bel.of k6 h7
     have hr2 := hr.2 rfl
     subst hr2
     clear h7 hr SA SB
     refine ⟨_, rfl, k7, ?_⟩
     rotate_left 1
     focus exact tree_no
     (with_reducible refine tree_held (v := .bool true) rfl (by with_unfolding_all rfl) (fun ρ hρ W hW => ?_) ?_); skip
     focus (clear hW; have p25 := hρ (.tmp 25); (simp (disch := (first | decide | ((try simp only [sz_put]); rw [hsz]; decide))) only [ev_eq, ev_ne, a1, a3, a4, a5, a6] at p25); obtain ⟨hc, hfn⟩ := rhoCfRkLawA hρ; clear hρ; go_simp; (first | done | (all_goals with_reducible first | rfl | (constructor <;> rfl)) | (simp only [decide_true, beq_self_eq_true, decide_eq_true_eq]; done) | (simp [decide_true, beq_self_eq_true, decide_eq_true_eq]; done) | ((try simp only [decide_true, beq_self_eq_true, decide_eq_true_eq]); done)))
     (with_reducible refine tree_from (fun fr1 hfr1 => ?_))
     have b1_1 := congrArg (fun x => Act.eval x (.tmp 1)) hfr1; (simp (disch := (first | decide | ((try simp only [sz_put]); rw [hsz]; decide))) only [ev_eq, ev_ne, a1, a3, a4, a5, a6] at b1_1)
     have b1_3 := congrArg (fun x => Act.eval x (.tmp 3)) hfr1; (simp (disch := (first | decide | ((try simp only [sz_put]); rw [hsz]; decide))) only [ev_eq, ev_ne, a1, a3, a4, a5, a6] at b1_3)
     have b1_4 := congrArg (fun x => Act.eval x (.tmp 4)) hfr1; (simp (disch := (first | decide | ((try simp only [sz_put]); rw [hsz]; decide))) only [ev_eq, ev_ne, a1, a3, a4, a5, a6] at b1_4)
     have b1_5 := congrArg (fun x => Act.eval x (.tmp 5)) hfr1; (simp (disch := (first | decide | ((try simp only [sz_put]); rw [hsz]; decide))) only [ev_eq, ev_ne, a1, a3, a4, a5, a6] at b1_5)
     have b1_6 := congrArg (fun x => Act.eval x (.tmp 6)) hfr1; (simp (disch := (first | decide | ((try simp only [sz_put]); rw [hsz]; decide))) only [ev_eq, ev_ne, a1, a3, a4, a5, a6] at b1_6)
     have b1_26 := congrArg (fun x => Act.eval x (.tmp 26)) hfr1; (simp (disch := (first | decide | ((try simp only [sz_put]); rw [hsz]; decide))) only [ev_eq, ev_ne, a1, a3, a4, a5, a6] at b1_26)
     have hsz1 := congrArg (fun x => x.tmps.size) hfr1; (simp only [sz_put, hsz] at hsz1)
     clear a1 a3 a4 a5 a6 hsz
     (with_reducible refine tree_held_g (v := ?_) (t := 26) rfl rfl (by with_unfolding_all rfl) ?_ (fun ρ hρ W hW => ?_) ?_); (rotate_left 1)
     focus (simp (disch := (first | decide | ((try simp only [sz_put]); rw [hsz1]; decide))) only [ev_eq, ev_ne, b1_1, b1_3, b1_4, b1_5, b1_6, b1_26])
     focus (clear hW; have p3 := hρ (.tmp 3); (simp (disch := (first | decide | ((try simp only [sz_put]); rw [hsz1]; decide))) only [ev_eq, ev_ne, b1_1, b1_3, b1_4, b1_5, b1_6, b1_26] at p3); obtain ⟨hc, hfn⟩ := rhoCfRkLawA hρ; clear hρ; go_simp; (all_goals with_reducible first | rfl | (constructor <;> rfl)))
     (with_reducible refine tree_held_g (v := ?_) (t := 26) rfl rfl (by with_unfolding_all rfl) ?_ (fun ρ hρ W hW => ?_) ?_); (rotate_left 1)
     focus (simp (disch := (first | decide | ((try simp only [sz_put]); rw [hsz1]; decide))) only [ev_eq, ev_ne, b1_1, b1_3, b1_4, b1_5, b1_6, b1_26])
     focus (have hS := KS.out _ hW; clear hW; have p27 := hρ (.tmp 27); (simp (disch := (first | decide | ((try simp only [sz_put]); rw [hsz1]; decide))) only [ev_eq, ev_ne, b1_1, b1_3, b1_4, b1_5, b1_6, b1_26] at p27); obtain ⟨hc, hfn⟩ := rhoCfRkLawA hρ; clear hρ; go_simp; (all_goals with_reducible first | rfl | (constructor <;> rfl)))
     (with_reducible refine tree_held_g (v := ?_) (t := 26) rfl rfl (by with_unfolding_all rfl) ?_ (fun ρ hρ W hW => ?_) ?_); (rotate_left 1)
     focus (simp (disch := (first | decide | ((try simp only [sz_put]); rw [hsz1]; decide))) only [ev_eq, ev_ne, b1_1, b1_3, b1_4, b1_5, b1_6, b1_26])
     focus (clear hW; have p5 := hρ (.tmp 5); (simp (disch := (first | decide | ((try simp only [sz_put]); rw [hsz1]; decide))) only [ev_eq, ev_ne, b1_1, b1_3, b1_4, b1_5, b1_6, b1_26] at p5); obtain ⟨hc, hfn⟩ := rhoCfRkLawA hρ; clear hρ; go_simp; (all_goals with_reducible first | rfl | (constructor <;> rfl)))
     (with_reducible refine tree_held_g (v := ?_) (t := 26) rfl rfl (by with_unfolding_all rfl) ?_ (fun ρ hρ W hW => ?_) ?_); (rotate_left 1)
     focus (simp (disch := (first | decide | ((try simp only [sz_put]); rw [hsz1]; decide))) only [ev_eq, ev_ne, b1_1, b1_3, b1_4, b1_5, b1_6, b1_26])
     focus (have hS := KS.out _ hW; clear hW; have p29 := hρ (.tmp 29); (simp (disch := (first | decide | ((try simp only [sz_put]); rw [hsz1]; decide))) only [ev_eq, ev_ne, b1_1, b1_3, b1_4, b1_5, b1_6, b1_26] at p29); obtain ⟨hc, hfn⟩ := rhoCfRkLawA hρ; clear hρ; go_simp; (all_goals with_reducible first | rfl | (constructor <;> rfl)))
     (with_reducible refine tree_held_g (v := .bool true) (t := 26) rfl rfl (by with_unfolding_all rfl) ?_ (fun ρ hρ W hW => ?_) ?_); skip
     focus (simp (disch := (first | decide | ((try simp only [sz_put]); rw [hsz1]; decide))) only [ev_eq, ev_ne, b1_1, b1_3, b1_4, b1_5, b1_6, b1_26])
     focus (clear hW; have p28 := hρ (.tmp 28); have p30 := hρ (.tmp 30); (simp (disch := (first | decide | ((try simp only [sz_put]); rw [hsz1]; decide))) only [ev_eq, ev_ne, b1_1, b1_3, b1_4, b1_5, b1_6, b1_26] at p28 p30); obtain ⟨hc, hfn⟩ := rhoCfRkLawA hρ; clear hρ; go_simp; (first | done | (all_goals with_reducible first | rfl | (constructor <;> rfl)) | (simp only [decide_true, beq_self_eq_true, decide_eq_true_eq]; done) | (simp [decide_true, beq_self_eq_true, decide_eq_true_eq]; done) | ((try simp only [decide_true, beq_self_eq_true, decide_eq_true_eq]); done)))
     (with_reducible refine tree_held (v := .bool true) rfl (by with_unfolding_all rfl) (fun ρ hρ W hW => ?_) ?_); skip
     focus (clear hW; have p26 := hρ (.tmp 26); have p31 := hρ (.tmp 31); (simp (disch := (first | decide | ((try simp only [sz_put]); rw [hsz1]; decide))) only [ev_eq, ev_ne, b1_1, b1_3, b1_4, b1_5, b1_6, b1_26] at p26 p31); obtain ⟨hc, hfn⟩ := rhoCfRkLawA hρ; clear hρ; go_simp; (first | done | (all_goals with_reducible first | rfl | (constructor <;> rfl)) | (simp only [decide_true, beq_self_eq_true, decide_eq_true_eq]; done) | (simp [decide_true, beq_self_eq_true, decide_eq_true_eq]; done) | ((try simp only [decide_true, beq_self_eq_true, decide_eq_true_eq]); done)))
     (with_reducible refine tree_from (fun fr2 hfr2 => ?_))
     have b2_1 := congrArg (fun x => Act.eval x (.tmp 1)) hfr2; (simp (disch := (first | decide | ((try simp only [sz_put]); rw [hsz1]; decide))) only [ev_eq, ev_ne, b1_1, b1_3, b1_4, b1_5, b1_6, b1_26] at b2_1)
     have b2_3 := congrArg (fun x => Act.eval x (.tmp 3)) hfr2; (simp (disch := (first | decide | ((try simp only [sz_put]); rw [hsz1]; decide))) only [ev_eq, ev_ne, b1_1, b1_3, b1_4, b1_5, b1_6, b1_26] at b2_3)
     have b2_4 := congrArg (fun x => Act.eval x (.tmp 4)) hfr2; (simp (disch := (first | decide | ((try simp only [sz_put]); rw [hsz1]; decide))) only [ev_eq, ev_ne, b1_1, b1_3, b1_4, b1_5, b1_6, b1_26] at b2_4)
     have b2_5 := congrArg (fun x => Act.eval x (.tmp 5)) hfr2; (simp (disch := (first | decide | ((try simp only [sz_put]); rw [hsz1]; decide))) only [ev_eq, ev_ne, b1_1, b1_3, b1_4, b1_5, b1_6, b1_26] at b2_5)
     have b2_6 := congrArg (fun x => Act.eval x (.tmp 6)) hfr2; (simp (disch := (first | decide | ((try simp only [sz_put]); rw [hsz1]; decide))) only [ev_eq, ev_ne, b1_1, b1_3, b1_4, b1_5, b1_6, b1_26] at b2_6)
     have b2_32 := congrArg (fun x => Act.eval x (.tmp 32)) hfr2; (simp (disch := (first | decide | ((try simp only [sz_put]); rw [hsz1]; decide))) only [ev_eq, ev_ne, b1_1, b1_3, b1_4, b1_5, b1_6, b1_26] at b2_32)
     have hsz2 := congrArg (fun x => x.tmps.size) hfr2; (simp only [sz_put, hsz1] at hsz2)
     clear b1_1 b1_3 b1_4 b1_5 b1_6 b1_26 hsz1
     (with_reducible refine tree_held (v := .bool true) rfl (by with_unfolding_all rfl) (fun ρ hρ W hW => ?_) ?_); skip
     focus (clear hW; have p32 := hρ (.tmp 32); (simp (disch := (first | decide | ((try simp only [sz_put]); rw [hsz2]; decide))) only [ev_eq, ev_ne, b2_1, b2_3, b2_4, b2_5, b2_6, b2_32] at p32); obtain ⟨hc, hfn⟩ := rhoCfRkLawA hρ; clear hρ; go_simp; (first | done | (all_goals with_reducible first | rfl | (constructor <;> rfl)) | (simp only [decide_true, beq_self_eq_true, decide_eq_true_eq]; done) | (simp [decide_true, beq_self_eq_true, decide_eq_true_eq]; done) | ((try simp only [decide_true, beq_self_eq_true, decide_eq_true_eq]); done)))
     (with_reducible refine tree_held_g (v := ?_) (t := 33) rfl rfl (by with_unfolding_all rfl) ?_ (fun ρ hρ W hW => ?_) ?_); (rotate_left 1)
     focus (simp (disch := (first | decide | ((try simp only [sz_put]); rw [hsz2]; decide))) only [ev_eq, ev_ne, b2_1, b2_3, b2_4, b2_5, b2_6, b2_32])
     focus (clear hW; have p3 := hρ (.tmp 3); (simp (disch := (first | decide | ((try simp only [sz_put]); rw [hsz2]; decide))) only [ev_eq, ev_ne, b2_1, b2_3, b2_4, b2_5, b2_6, b2_32] at p3); obtain ⟨hc, hfn⟩ := rhoCfRkLawA hρ; clear hρ; go_simp; (all_goals with_reducible first | rfl | (constructor <;> rfl)))
     (with_reducible refine tree_held_g (v := ?_) (t := 33) rfl rfl (by with_unfolding_all rfl) ?_ (fun ρ hρ W hW => ?_) ?_); (rotate_left 1)
     focus (simp (disch := (first | decide | ((try simp only [sz_put]); rw [hsz2]; decide))) only [ev_eq, ev_ne, b2_1, b2_3, b2_4, b2_5, b2_6, b2_32])
     focus (have hS := KS.out _ hW; clear hW; have p34 := hρ (.tmp 34); (simp (disch := (first | decide | ((try simp only [sz_put]); rw [hsz2]; decide))) only [ev_eq, ev_ne, b2_1, b2_3, b2_4, b2_5, b2_6, b2_32] at p34); obtain ⟨hc, hfn⟩ := rhoCfRkLawA hρ; clear hρ; go_simp; (all_goals with_reducible first | rfl | (constructor <;> rfl)))
     (with_reducible refine tree_held_g (v := ?_) (t := 33) rfl rfl (by with_unfolding_all rfl) ?_ (fun ρ hρ W hW => ?_) ?_); (rotate_left 1)
     focus (simp (disch := (first | decide | ((try simp only [sz_put]); rw [hsz2]; decide))) only [ev_eq, ev_ne, b2_1, b2_3, b2_4, b2_5, b2_6, b2_32])
     focus (clear hW; have p5 := hρ (.tmp 5); (simp (disch := (first | decide | ((try simp only [sz_put]); rw [hsz2]; decide))) only [ev_eq, ev_ne, b2_1, b2_3, b2_4, b2_5, b2_6, b2_32] at p5); obtain ⟨hc, hfn⟩ := rhoCfRkLawA hρ; clear hρ; go_simp; (all_goals with_reducible first | rfl | (constructor <;> rfl)))
     (with_reducible refine tree_held_g (v := ?_) (t := 33) rfl rfl (by with_unfolding_all rfl) ?_ (fun ρ hρ W hW => ?_) ?_); (rotate_left 1)
     focus (simp (disch := (first | decide | ((try simp only [sz_put]); rw [hsz2]; decide))) only [ev_eq, ev_ne, b2_1, b2_3, b2_4, b2_5, b2_6, b2_32])
     focus (have hS := KS.out _ hW; clear hW; have p36 := hρ (.tmp 36); (simp (disch := (first | decide | ((try simp only [sz_put]); rw [hsz2]; decide))) only [ev_eq, ev_ne, b2_1, b2_3, b2_4, b2_5, b2_6, b2_32] at p36); obtain ⟨hc, hfn⟩ := rhoCfRkLawA hρ; clear hρ; go_simp; (all_goals with_reducible first | rfl | (constructor <;> rfl)))
     (with_reducible refine tree_held_g (v := .bool true) (t := 33) rfl rfl (by with_unfolding_all rfl) ?_ (fun ρ hρ W hW => ?_) ?_); skip
     focus (simp (disch := (first | decide | ((try simp only [sz_put]); rw [hsz2]; decide))) only [ev_eq, ev_ne, b2_1, b2_3, b2_4, b2_5, b2_6, b2_32])
     focus (clear hW; have p35 := hρ (.tmp 35); have p37 := hρ (.tmp 37); (simp (disch := (first | decide | ((try simp only [sz_put]); rw [hsz2]; decide))) only [ev_eq, ev_ne, b2_1, b2_3, b2_4, b2_5, b2_6, b2_32] at p35 p37); obtain ⟨hc, hfn⟩ := rhoCfRkLawA hρ; clear hρ; go_simp; (first | done | (all_goals with_reducible first | rfl | (constructor <;> rfl)) | (simp only [decide_true, beq_self_eq_true, decide_eq_true_eq]; done) | (simp [decide_true, beq_self_eq_true, decide_eq_true_eq]; done) | ((try simp only [decide_true, beq_self_eq_true, decide_eq_true_eq]); done)))
     (with_reducible refine tree_from (fun fr3 hfr3 => ?_))
     have b3_1 := congrArg (fun x => Act.eval x (.tmp 1)) hfr3; (simp (disch := (first | decide | ((try simp only [sz_put]); rw [hsz2]; decide))) only [ev_eq, ev_ne, b2_1, b2_3, b2_4, b2_5, b2_6, b2_32] at b3_1)
     have b3_3 := congrArg (fun x => Act.eval x (.tmp 3)) hfr3; (simp (disch := (first | decide | ((try simp only [sz_put]); rw [hsz2]; decide))) only [ev_eq, ev_ne, b2_1, b2_3, b2_4, b2_5, b2_6, b2_32] at b3_3)
     have b3_4 := congrArg (fun x => Act.eval x (.tmp 4)) hfr3; (simp (disch := (first | decide | ((try simp only [sz_put]); rw [hsz2]; decide))) only [ev_eq, ev_ne, b2_1, b2_3, b2_4, b2_5, b2_6, b2_32] at b3_4)
     have b3_5 := congrArg (fun x => Act.eval x (.tmp 5)) hfr3; (simp (disch := (first | decide | ((try simp only [sz_put]); rw [hsz2]; decide))) only [ev_eq, ev_ne, b2_1, b2_3, b2_4, b2_5, b2_6, b2_32] at b3_5)
     have b3_6 := congrArg (fun x => Act.eval x (.tmp 6)) hfr3; (simp (disch := (first | decide | ((try simp only [sz_put]); rw [hsz2]; decide))) only [ev_eq, ev_ne, b2_1, b2_3, b2_4, b2_5, b2_6, b2_32] at b3_6)
     have b3_33 := congrArg (fun x => Act.eval x (.tmp 33)) hfr3; (simp (disch := (first | decide | ((try simp only [sz_put]); rw [hsz2]; decide))) only [ev_eq, ev_ne, b2_1, b2_3, b2_4, b2_5, b2_6, b2_32] at b3_33)
     have b3_38 := congrArg (fun x => Act.eval x (.tmp 38)) hfr3; (simp (disch := (first | decide | ((try simp only [sz_put]); rw [hsz2]; decide))) only [ev_eq, ev_ne, b2_1, b2_3, b2_4, b2_5, b2_6, b2_32] at b3_38)
     have hsz3 := congrArg (fun x => x.tmps.size) hfr3; (simp only [sz_put, hsz2] at hsz3)
     clear b2_1 b2_3 b2_4 b2_5 b2_6 b2_32 hsz2
     (with_reducible refine tree_held (v := .bool true) rfl (by with_unfolding_all rfl) (fun ρ hρ W hW => ?_) ?_); skip
     focus (clear hW; have p33 := hρ (.tmp 33); have p38 := hρ (.tmp 38); (simp (disch := (first | decide | ((try simp only [sz_put]); rw [hsz3]; decide))) only [ev_eq, ev_ne, b3_1, b3_3, b3_4, b3_5, b3_6, b3_33, b3_38] at p33 p38); obtain ⟨hc, hfn⟩ := rhoCfRkLawA hρ; clear hρ; go_simp; (first | done | (all_goals with_reducible first | rfl | (constructor <;> rfl)) | (simp only [decide_true, beq_self_eq_true, decide_eq_true_eq]; done) | (simp [decide_true, beq_self_eq_true, decide_eq_true_eq]; done) | ((try simp only [decide_true, beq_self_eq_true, decide_eq_true_eq]); done)))
     (with_reducible refine tree_held (v := .bool true) rfl (by with_unfolding_all rfl) (fun ρ hρ W hW => ?_) ?_); skip
     focus (clear hW; have p39 := hρ (.tmp 39); (simp (disch := (first | decide | ((try simp only [sz_put]); rw [hsz3]; decide))) only [ev_eq, ev_ne, b3_1, b3_3, b3_4, b3_5, b3_6, b3_33, b3_38] at p39); obtain ⟨hc, hfn⟩ := rhoCfRkLawA hρ; clear hρ; go_simp; (first | done | (all_goals with_reducible first | rfl | (constructor <;> rfl)) | (simp only [decide_true, beq_self_eq_true, decide_eq_true_eq]; done) | (simp [decide_true, beq_self_eq_true, decide_eq_true_eq]; done) | ((try simp only [decide_true, beq_self_eq_true, decide_eq_true_eq]); done)))
     (with_reducible refine tree_held_g (v := ?_) (t := 40) rfl rfl (by with_unfolding_all rfl) ?_ (fun ρ hρ W hW => ?_) ?_); (rotate_left 1)
     focus (simp (disch := (first | decide | ((try simp only [sz_put]); rw [hsz3]; decide))) only [ev_eq, ev_ne, b3_1, b3_3, b3_4, b3_5, b3_6, b3_33, b3_38])
     focus (clear hW; have p3 := hρ (.tmp 3); (simp (disch := (first | decide | ((try simp only [sz_put]); rw [hsz3]; decide))) only [ev_eq, ev_ne, b3_1, b3_3, b3_4, b3_5, b3_6, b3_33, b3_38] at p3); obtain ⟨hc, hfn⟩ := rhoCfRkLawA hρ; clear hρ; go_simp; (all_goals with_reducible first | rfl | (constructor <;> rfl)))
     (with_reducible refine tree_held_g (v := ?_) (t := 40) rfl rfl (by with_unfolding_all rfl) ?_ (fun ρ hρ W hW => ?_) ?_); (rotate_left 1)
     focus (simp (disch := (first | decide | ((try simp only [sz_put]); rw [hsz3]; decide))) only [ev_eq, ev_ne, b3_1, b3_3, b3_4, b3_5, b3_6, b3_33, b3_38])
     focus (have hS := KS.out _ hW; clear hW; have p41 := hρ (.tmp 41); (simp (disch := (first | decide | ((try simp only [sz_put]); rw [hsz3]; decide))) only [ev_eq, ev_ne, b3_1, b3_3, b3_4, b3_5, b3_6, b3_33, b3_38] at p41); obtain ⟨hc, hfn⟩ := rhoCfRkLawA hρ; clear hρ; go_simp; (all_goals with_reducible first | rfl | (constructor <;> rfl)))
     (with_reducible refine tree_held_g (v := ?_) (t := 40) rfl rfl (by with_unfolding_all rfl) ?_ (fun ρ hρ W hW => ?_) ?_); (rotate_left 1)
     focus (simp (disch := (first | decide | ((try simp only [sz_put]); rw [hsz3]; decide))) only [ev_eq, ev_ne, b3_1, b3_3, b3_4, b3_5, b3_6, b3_33, b3_38])
     focus (clear hW; have p5 := hρ (.tmp 5); (simp (disch := (first | decide | ((try simp only [sz_put]); rw [hsz3]; decide))) only [ev_eq, ev_ne, b3_1, b3_3, b3_4, b3_5, b3_6, b3_33, b3_38] at p5); obtain ⟨hc, hfn⟩ := rhoCfRkLawA hρ; clear hρ; go_simp; (all_goals with_reducible first | rfl | (constructor <;> rfl)))
     (with_reducible refine tree_held_g (v := ?_) (t := 40) rfl rfl (by with_unfolding_all rfl) ?_ (fun ρ hρ W hW => ?_) ?_); (rotate_left 1)
     focus (simp (disch := (first | decide | ((try simp only [sz_put]); rw [hsz3]; decide))) only [ev_eq, ev_ne, b3_1, b3_3, b3_4, b3_5, b3_6, b3_33, b3_38])
     focus (have hS := KS.out _ hW; clear hW; have p43 := hρ (.tmp 43); (simp (disch := (first | decide | ((try simp only [sz_put]); rw [hsz3]; decide))) only [ev_eq, ev_ne, b3_1, b3_3, b3_4, b3_5, b3_6, b3_33, b3_38] at p43); obtain ⟨hc, hfn⟩ := rhoCfRkLawA hρ; clear hρ; go_simp; (all_goals with_reducible first | rfl | (constructor <;> rfl)))
     (with_reducible refine tree_from (fun fr4 hfr4 => ?_))
     have b4_1 := congrArg (fun x => Act.eval x (.tmp 1)) hfr4; (simp (disch := (first | decide | ((try simp only [sz_put]); rw [hsz3]; decide))) only [ev_eq, ev_ne, b3_1, b3_3, b3_4, b3_5, b3_6, b3_33, b3_38] at b4_1)
     have b4_4 := congrArg (fun x => Act.eval x (.tmp 4)) hfr4; (simp (disch := (first | decide | ((try simp only [sz_put]); rw [hsz3]; decide))) only [ev_eq, ev_ne, b3_1, b3_3, b3_4, b3_5, b3_6, b3_33, b3_38] at b4_4)
     have b4_6 := congrArg (fun x => Act.eval x (.tmp 6)) hfr4; (simp (disch := (first | decide | ((try simp only [sz_put]); rw [hsz3]; decide))) only [ev_eq, ev_ne, b3_1, b3_3, b3_4, b3_5, b3_6, b3_33, b3_38] at b4_6)
     have b4_40 := congrArg (fun x => Act.eval x (.tmp 40)) hfr4; (simp (disch := (first | decide | ((try simp only [sz_put]); rw [hsz3]; decide))) only [ev_eq, ev_ne, b3_1, b3_3, b3_4, b3_5, b3_6, b3_33, b3_38] at b4_40)
     have b4_42 := congrArg (fun x => Act.eval x (.tmp 42)) hfr4; (simp (disch := (first | decide | ((try simp only [sz_put]); rw [hsz3]; decide))) only [ev_eq, ev_ne, b3_1, b3_3, b3_4, b3_5, b3_6, b3_33, b3_38] at b4_42)
     have b4_44 := congrArg (fun x => Act.eval x (.tmp 44)) hfr4; (simp (disch := (first | decide | ((try simp only [sz_put]); rw [hsz3]; decide))) only [ev_eq, ev_ne, b3_1, b3_3, b3_4, b3_5, b3_6, b3_33, b3_38] at b4_44)
     have hsz4 := congrArg (fun x => x.tmps.size) hfr4; (simp only [sz_put, hsz3] at hsz4)
     clear b3_1 b3_3 b3_4 b3_5 b3_6 b3_33 b3_38 hsz3
     (with_reducible refine tree_held_g (v := .bool true) (t := 40) rfl rfl (by with_unfolding_all rfl) ?_ (fun ρ hρ W hW => ?_) ?_); skip
     focus (simp (disch := (first | decide | ((try simp only [sz_put]); rw [hsz4]; decide))) only [ev_eq, ev_ne, b4_1, b4_4, b4_6, b4_40, b4_42, b4_44])
     focus (clear hW; have p42 := hρ (.tmp 42); have p44 := hρ (.tmp 44); (simp (disch := (first | decide | ((try simp only [sz_put]); rw [hsz4]; decide))) only [ev_eq, ev_ne, b4_1, b4_4, b4_6, b4_40, b4_42, b4_44] at p42 p44); obtain ⟨hc, hfn⟩ := rhoCfRkLawA hρ; clear hρ; go_simp; (first | done | (all_goals with_reducible first | rfl | (constructor <;> rfl)) | (simp only [decide_true, beq_self_eq_true, decide_eq_true_eq]; done) | (simp [decide_true, beq_self_eq_true, decide_eq_true_eq]; done) | ((try simp only [decide_true, beq_self_eq_true, decide_eq_true_eq]); done)))
     (with_reducible refine tree_held (v := .bool true) rfl (by with_unfolding_all rfl) (fun ρ hρ W hW => ?_) ?_); skip
     focus (clear hW; have p40 := hρ (.tmp 40); have p45 := hρ (.tmp 45); (simp (disch := (first | decide | ((try simp only [sz_put]); rw [hsz4]; decide))) only [ev_eq, ev_ne, b4_1, b4_4, b4_6, b4_40, b4_42, b4_44] at p40 p45); obtain ⟨hc, hfn⟩ := rhoCfRkLawA hρ; clear hρ; go_simp; (first | done | (all_goals with_reducible first | rfl | (constructor <;> rfl)) | (simp only [decide_true, beq_self_eq_true, decide_eq_true_eq]; done) | (simp [decide_true, beq_self_eq_true, decide_eq_true_eq]; done) | ((try simp only [decide_true, beq_self_eq_true, decide_eq_true_eq]); done)))
     (with_reducible refine tree_held (v := .bool true) rfl (by with_unfolding_all rfl) (fun ρ hρ W hW => ?_) ?_); skip
     focus (clear hW; have p46 := hρ (.tmp 46); (simp (disch := (first | decide | ((try simp only [sz_put]); rw [hsz4]; decide))) only [ev_eq, ev_ne, b4_1, b4_4, b4_6, b4_40, b4_42, b4_44] at p46); obtain ⟨hc, hfn⟩ := rhoCfRkLawA hρ; clear hρ; go_simp; (first | done | (all_goals with_reducible first | rfl | (constructor <;> rfl)) | (simp only [decide_true, beq_self_eq_true, decide_eq_true_eq]; done) | (simp [decide_true, beq_self_eq_true, decide_eq_true_eq]; done) | ((try simp only [decide_true, beq_self_eq_true, decide_eq_true_eq]); done)))
     (with_reducible refine tree_held_g (v := ?_) (t := 47) rfl rfl (by with_unfolding_all rfl) ?_ (fun ρ hρ W hW => ?_) ?_); (rotate_left 1)
     focus (simp (disch := (first | decide | ((try simp only [sz_put]); rw [hsz4]; decide))) only [ev_eq, ev_ne, b4_1, b4_4, b4_6, b4_40, b4_42, b4_44])
     focus (clear hW; have p4 := hρ (.tmp 4); (simp (disch := (first | decide | ((try simp only [sz_put]); rw [hsz4]; decide))) only [ev_eq, ev_ne, b4_1, b4_4, b4_6, b4_40, b4_42, b4_44] at p4); obtain ⟨hc, hfn⟩ := rhoCfRkLawA hρ; clear hρ; go_simp; (all_goals with_reducible first | rfl | (constructor <;> rfl)))
     (with_reducible refine tree_held_g (v := ?_) (t := 47) rfl rfl (by with_unfolding_all rfl) ?_ (fun ρ hρ W hW => ?_) ?_); (rotate_left 1)
     focus (simp (disch := (first | decide | ((try simp only [sz_put]); rw [hsz4]; decide))) only [ev_eq, ev_ne, b4_1, b4_4, b4_6, b4_40, b4_42, b4_44])
     focus (clear hW; have p6 := hρ (.tmp 6); (simp (disch := (first | decide | ((try simp only [sz_put]); rw [hsz4]; decide))) only [ev_eq, ev_ne, b4_1, b4_4, b4_6, b4_40, b4_42, b4_44] at p6); obtain ⟨hc, hfn⟩ := rhoCfRkLawA hρ; clear hρ; go_simp; (all_goals with_reducible first | rfl | (constructor <;> rfl)))
     (with_reducible refine tree_held_g (v := .bool true) (t := 47) rfl rfl (by with_unfolding_all rfl) ?_ (fun ρ hρ W hW => ?_) ?_); skip
     focus (simp (disch := (first | decide | ((try simp only [sz_put]); rw [hsz4]; decide))) only [ev_eq, ev_ne, b4_1, b4_4, b4_6, b4_40, b4_42, b4_44])
     focus (clear hW; have p48 := hρ (.tmp 48); have p49 := hρ (.tmp 49); (simp (disch := (first | decide | ((try simp only [sz_put]); rw [hsz4]; decide))) only [ev_eq, ev_ne, b4_1, b4_4, b4_6, b4_40, b4_42, b4_44] at p48 p49); obtain ⟨hc, hfn⟩ := rhoCfRkLawA hρ; clear hρ; go_simp; (first | done | (all_goals with_reducible first | rfl | (constructor <;> rfl)) | (simp only [decide_true, beq_self_eq_true, decide_eq_true_eq]; done) | (simp [decide_true, beq_self_eq_true, decide_eq_true_eq]; done) | ((try simp only [decide_true, beq_self_eq_true, decide_eq_true_eq]); done)))
     (with_reducible refine tree_from (fun fr5 hfr5 => ?_))
     have b5_1 := congrArg (fun x => Act.eval x (.tmp 1)) hfr5; (simp (disch := (first | decide | ((try simp only [sz_put]); rw [hsz4]; decide))) only [ev_eq, ev_ne, b4_1, b4_4, b4_6, b4_40, b4_42, b4_44] at b5_1)
     have b5_47 := congrArg (fun x => Act.eval x (.tmp 47)) hfr5; (simp (disch := (first | decide | ((try simp only [sz_put]); rw [hsz4]; decide))) only [ev_eq, ev_ne, b4_1, b4_4, b4_6, b4_40, b4_42, b4_44] at b5_47)
     have b5_50 := congrArg (fun x => Act.eval x (.tmp 50)) hfr5; (simp (disch := (first | decide | ((try simp only [sz_put]); rw [hsz4]; decide))) only [ev_eq, ev_ne, b4_1, b4_4, b4_6, b4_40, b4_42, b4_44] at b5_50)
     have hsz5 := congrArg (fun x => x.tmps.size) hfr5; (simp only [sz_put, hsz4] at hsz5)
     clear b4_1 b4_4 b4_6 b4_40 b4_42 b4_44 hsz4
     (with_reducible refine tree_held (v := .bool true) rfl (by with_unfolding_all rfl) (fun ρ hρ W hW => ?_) ?_); skip
     focus (clear hW; have p47 := hρ (.tmp 47); have p50 := hρ (.tmp 50); (simp (disch := (first | decide | ((try simp only [sz_put]); rw [hsz5]; decide))) only [ev_eq, ev_ne, b5_1, b5_47, b5_50] at p47 p50); obtain ⟨hc, hfn⟩ := rhoCfRkLawA hρ; clear hρ; go_simp; (first | done | (all_goals with_reducible first | rfl | (constructor <;> rfl)) | (simp only [decide_true, beq_self_eq_true, decide_eq_true_eq]; done) | (simp [decide_true, beq_self_eq_true, decide_eq_true_eq]; done) | ((try simp only [decide_true, beq_self_eq_true, decide_eq_true_eq]); done)))
     (with_reducible refine tree_held (v := .bool true) rfl (by with_unfolding_all rfl) (fun ρ hρ W hW => ?_) ?_); skip
     focus (clear hW; have p51 := hρ (.tmp 51); (simp (disch := (first | decide | ((try simp only [sz_put]); rw [hsz5]; decide))) only [ev_eq, ev_ne, b5_1, b5_47, b5_50] at p51); obtain ⟨hc, hfn⟩ := rhoCfRkLawA hρ; clear hρ; go_simp; (first | done | (all_goals with_reducible first | rfl | (constructor <;> rfl)) | (simp only [decide_true, beq_self_eq_true, decide_eq_true_eq]; done) | (simp [decide_true, beq_self_eq_true, decide_eq_true_eq]; done) | ((try simp only [decide_true, beq_self_eq_true, decide_eq_true_eq]); done)))
     (with_reducible refine tree_held_g (v := ?_) (t := 52) rfl rfl (by with_unfolding_all rfl) ?_ (fun ρ hρ W hW => ?_) ?_); (rotate_left 1)
     focus (simp (disch := (first | decide | ((try simp only [sz_put]); rw [hsz5]; decide))) only [ev_eq, ev_ne, b5_1, b5_47, b5_50])
     focus (have hS := KS.out _ hW; clear hW; have p1 := hρ (.tmp 1); (simp (disch := (first | decide | ((try simp only [sz_put]); rw [hsz5]; decide))) only [ev_eq, ev_ne, b5_1, b5_47, b5_50] at p1); obtain ⟨hc, hfn⟩ := rhoCfRkLawA hρ; clear hρ; go_simp; (all_goals with_reducible first | rfl | (constructor <;> rfl)))
     (with_reducible refine tree_held_g (v := ?_) (t := 52) rfl rfl (by with_unfolding_all rfl) ?_ (fun ρ hρ W hW => ?_) ?_); (rotate_left 1)
     focus (simp (disch := (first | decide | ((try simp only [sz_put]); rw [hsz5]; decide))) only [ev_eq, ev_ne, b5_1, b5_47, b5_50])
     focus (have hS := KS.out _ hW; clear hW; have p1 := hρ (.tmp 1); (simp (disch := (first | decide | ((try simp only [sz_put]); rw [hsz5]; decide))) only [ev_eq, ev_ne, b5_1, b5_47, b5_50] at p1); obtain ⟨hc, hfn⟩ := rhoCfRkLawA hρ; clear hρ; go_simp; (all_goals with_reducible first | rfl | (constructor <;> rfl)))
     (with_reducible refine tree_enter_g (f := ?_) (args := ?_) (t := 52) rfl rfl (by with_unfolding_all rfl) ?_ (fun ρ hρ => ?_) ?_ ?_); (rotate_left 2)
     focus (simp (disch := (first | decide | ((try simp only [sz_put]); rw [hsz5]; decide))) only [ev_eq, ev_ne, b5_1, b5_47, b5_50])
     focus (have p53 := hρ (.tmp 53); (simp (disch := (first | decide | ((try simp only [sz_put]); rw [hsz5]; decide))) only [ev_eq, ev_ne, b5_1, b5_47, b5_50] at p53); obtain ⟨hc, hfn⟩ := rhoCfRkLawA hρ; clear hρ; rw [execOp_call_rho (hfn _)]; clear hfn; go_simp; (all_goals with_reducible first | rfl | (constructor <;> rfl)))
     (with_reducible refine (CVA.out _ (Bel.of kbq k7.out)).mono ?_)
     rintro e w8 ⟨rfl, h8⟩
     have k8 : Bel wc w8 := Bel.of k7 h8
     clear h8
     refine ⟨_, rfl, k8, ?_⟩
     rotate_left 1
     focus exact tree_no
     refine tree_done ?_
     (simp only [List.drop_succ_cons, List.drop_zero])
     subst hfr5 hfr4 hfr3 hfr2 hfr1 ha
     (simp only [put_some, set_s, set_z])
     go_wp2_with (first | (go_at_call 15; (with_reducible refine (RVA.out _ (Bel.of kbq k8.out)).mono ?_); rintro e w9 ⟨rfl, h9⟩; have k9 : Bel wc w9 := Bel.of k8 h9; clear h9) | (go_at_call 8; (with_reducible refine (CA.out _ (Bel.of kbq k9.out)).mono ?_); rintro e w10 ⟨rfl, h10⟩; have k10 : Bel wc w10 := Bel.of k9 h10; clear h10))
     go_ret
     exact ⟨rfl, (Bel.of kbq k10.out).out⟩
end Go.Proofs.YtigfjnbgchndkaaGreatDoor
