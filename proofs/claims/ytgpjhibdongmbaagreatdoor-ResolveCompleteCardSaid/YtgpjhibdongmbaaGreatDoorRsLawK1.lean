/- Law ResolveComplete walked: a name that is not in both plans. Printed by genlawk.py. -/
import Derived.Test.YtgpjhibdongmbaaGreatDoorRestKa
import Derived.Test.YtgpjhibdongmbaaGreatDoorRsR31S
namespace Go.Proofs.YtgpjhibdongmbaaGreatDoor
open Go.RowKit Ck Rs
set_option linter.unusedVariables false
set_option linter.unusedSimpArgs false
set_option maxHeartbeats 200000000 in
set_option maxRecDepth 100000 in
theorem law_CompleteNN (p q : PPlan) (p1 p2 p3 p4 : Option Addr) (c1 c2 c3 c4 : Nat) (nm : Str) (W : World) (hG : Pl p q p1 p2 p3 p4 c1 c2 c3 c4 W) (hP : PT W) (hM : ML W) (hT : Tab W) (hpa : qbg p nm = none) (hpb : qbg q nm = none) :
    Calls Tryz.prog 6 #[.agg #[.slice p1 p.progs.length c1, .slice p2 p.enums.length c2], .agg #[.slice p3 q.progs.length c3, .slice p4 q.enums.length c4], .string (S nm)] W fun e w' => e = .returned (.bool true) ∧ Bel W w' := by
  have hS0 := ((ST.start W).addbox #[.slice p1 p.progs.length c1, .slice p2 p.enums.length c2] 25).addbox #[.slice p3 q.progs.length c3, .slice p4 q.enums.length c4] 25
  simp only [World.size_alloc] at hS0
  have H0 := Lib.hid hS0
  have CA := Lib.hid (fun WW (k : Bel W WW) => qhn WW (hP.bel k) (hM.below k.out) (hT.below k))
  have KS := Lib.hid (fun WW (T : ST W [] [⟨W.heap.size + 1, #[.slice p3 q.progs.length c3, .slice p4 q.enums.length c4], 25⟩, ⟨W.heap.size, #[.slice p1 p.progs.length c1, .slice p2 p.enums.length c2], 25⟩] WW) => show (WW.cell? ⟨W.heap.size, 0, none⟩ = some (.slice p1 p.progs.length c1) ∧ WW.cell? ⟨W.heap.size, 1, none⟩ = some (.slice p2 p.enums.length c2) ∧ WW.cell? ⟨W.heap.size + 1, 0, none⟩ = some (.slice p3 q.progs.length c3) ∧ WW.cell? ⟨W.heap.size + 1, 1, none⟩ = some (.slice p4 q.enums.length c4)) from ⟨T.cell 1 rfl 0, T.cell 1 rfl 1, T.cell 0 rfl 0, T.cell 0 rfl 1⟩)
  have CG := Lib.hid (fun WW (T : ST W [] [⟨W.heap.size + 1, #[.slice p3 q.progs.length c3, .slice p4 q.enums.length c4], 25⟩, ⟨W.heap.size, #[.slice p1 p.progs.length c1, .slice p2 p.enums.length c2], 25⟩] WW) => qkm p q p1 p2 p3 p4 c1 c2 c3 c4 WW (show Pl p q p1 p2 p3 p4 c1 c2 c3 c4 WW from ⟨hG.g0.bel VProg.stays T.bel, hG.g1.bel VEnum.stays T.bel, hG.g2.bel VProg.stays T.bel, hG.g3.bel VEnum.stays T.bel⟩))
  have CM := Lib.hid (fun WW (T : ST W [] [⟨W.heap.size + 1, #[.slice p3 q.progs.length c3, .slice p4 q.enums.length c4], 25⟩, ⟨W.heap.size, #[.slice p1 p.progs.length c1, .slice p2 p.enums.length c2], 25⟩] WW) (hd : Gd p q) => qjl p q p1 p2 p3 p4 c1 c2 c3 c4 nm WW (show Pl p q p1 p2 p3 p4 c1 c2 c3 c4 WW from ⟨hG.g0.bel VProg.stays T.bel, hG.g1.bel VEnum.stays T.bel, hG.g2.bel VProg.stays T.bel, hG.g3.bel VEnum.stays T.bel⟩) hd (hM.below T.bel) (hT.below T.bel))
  have CF1 := Lib.hid (fun WW (T : ST W [] [⟨W.heap.size + 1, #[.slice p3 q.progs.length c3, .slice p4 q.enums.length c4], 25⟩, ⟨W.heap.size, #[.slice p1 p.progs.length c1, .slice p2 p.enums.length c2], 25⟩] WW) => qem p _ nm WW (show VPlan WW [.slice p1 p.progs.length c1, .slice p2 p.enums.length c2] p from ⟨_, _, rfl, hG.g0.bel VProg.stays T.bel, hG.g1.bel VEnum.stays T.bel⟩))
  have CF2 := Lib.hid (fun WW (T : ST W [] [⟨W.heap.size + 1, #[.slice p3 q.progs.length c3, .slice p4 q.enums.length c4], 25⟩, ⟨W.heap.size, #[.slice p1 p.progs.length c1, .slice p2 p.enums.length c2], 25⟩] WW) => qem q _ nm WW (show VPlan WW [.slice p3 q.progs.length c3, .slice p4 q.enums.length c4] q from ⟨_, _, rfl, hG.g2.bel VProg.stays T.bel, hG.g3.bel VEnum.stays T.bel⟩))
  have HPL := Lib.hid hG
  clear hG hP hM hT hS0
  go_enter Tryz.func6, Tryz.ntmps6
  go_upto_region 1 with (fail)
  obtain ⟨x0, x1, x2, x3⟩ := KS.out _ H0.out
  go_wp2_with (first
    | (go_at_call 9; (with_reducible refine (CG.out _ H0.out).mono ?_); rintro e' w1 ⟨B, rfl, hB, k1⟩; have k1 : Bel _ w1 := k1; have H1 := Lib.hid (H0.out.belw k1); have hB := Lib.hid hB; obtain ⟨x0, x1, x2, x3⟩ := KS.out _ H1.out; clear k1)
    | (go_at_call 10; (with_reducible refine (CA.out _ H1.out.bel).mono ?_); rintro e' w9 ⟨rfl, k9⟩; have k9 : Bel _ w9 := k9))
  focus
    go_ret
    exact ⟨rfl, Bel.of H1.out.bel k9⟩
  rotate_left 1
  focus
    go_ret
    exact ⟨rfl, Bel.of H1.out.bel k9⟩
  have hd := hB.out (by assumption)
  have CM := Lib.hid (fun WW T => CM.out WW T hd)
  clear hB CG
  rw [qkk (.inl hpa)] at CM
  rw [qi1 hpa] at CF1
  rw [qi1 hpb] at CF2
  go_upto_region 4 with (go_at_call 11; (with_reducible refine (CM.out _ H1.out).mono ?_); rintro e' w2 ⟨v, rfl, hv, k2⟩; have k2 : Bel _ w2 := k2; have H2 := Lib.hid (H1.out.belw k2); obtain ⟨vq, vc, rfl, vl⟩ := qbc hv; have HV := Lib.hid hv; obtain ⟨x0, x1, x2, x3⟩ := KS.out _ H2.out; clear hv k2)
  clear H1 CM
  go_upto_region 5 with (go_at_call 25; (with_reducible refine (CF1.out _ H2.out).mono ?_); rintro e' w3 ⟨rfl, k3⟩; have k3 : Bel _ w3 := k3; have H3 := Lib.hid (H2.out.belw k3); have K3 := Lib.hid (k3); obtain ⟨x0, x1, x2, x3⟩ := KS.out _ H3.out; clear k3)
  go_upto_region 6 with (go_at_call 25; (with_reducible refine (CF2.out _ H3.out).mono ?_); rintro e' w4 ⟨rfl, k4⟩; have k4 : Bel _ w4 := k4; have H4 := Lib.hid (H3.out.belw k4); have K4 := Lib.hid (Bel.of K3.out k4); obtain ⟨x0, x1, x2, x3⟩ := KS.out _ H4.out; clear k4)
  clear HV CF1 CF2 x0 x1 x2 x3 KS HPL
  go_upto_region 9 with (fail)
  have H9 := Lib.hid (Bel.of H2.out.bel K4.out)
  go_loopw [13] (fun ii wr => ii = .int .i64 0 ∧ Hid (Bel W wr)) (fun ii _ => 0)
  case atStart => exact ⟨rfl, H9⟩
  case round => as_aux_lemma =>
    clear H9
    obtain ⟨rfl, kw⟩ := hrel
    go_wp2_with (go_at_call 10; (with_reducible refine (CA.out _ kw.out).mono ?_); rintro e' w9 ⟨rfl, k9⟩; have k9 : Bel _ w9 := k9)
    go_ret
    exact ⟨rfl, Bel.of kw.out k9⟩
set_option maxHeartbeats 200000000 in
set_option maxRecDepth 100000 in
theorem law_CompleteNS (p q : PPlan) (p1 p2 p3 p4 : Option Addr) (c1 c2 c3 c4 : Nat) (nm : Str) (W : World) (hG : Pl p q p1 p2 p3 p4 c1 c2 c3 c4 W) (hP : PT W) (hM : ML W) (hT : Tab W) (b : Nat) (hpa : qbg p nm = none) (hpb : qbg q nm = some b) :
    Calls Tryz.prog 6 #[.agg #[.slice p1 p.progs.length c1, .slice p2 p.enums.length c2], .agg #[.slice p3 q.progs.length c3, .slice p4 q.enums.length c4], .string (S nm)] W fun e w' => e = .returned (.bool true) ∧ Bel W w' := by
  have hS0 := ((ST.start W).addbox #[.slice p1 p.progs.length c1, .slice p2 p.enums.length c2] 25).addbox #[.slice p3 q.progs.length c3, .slice p4 q.enums.length c4] 25
  simp only [World.size_alloc] at hS0
  have H0 := Lib.hid hS0
  have CA := Lib.hid (fun WW (k : Bel W WW) => qhn WW (hP.bel k) (hM.below k.out) (hT.below k))
  have KS := Lib.hid (fun WW (T : ST W [] [⟨W.heap.size + 1, #[.slice p3 q.progs.length c3, .slice p4 q.enums.length c4], 25⟩, ⟨W.heap.size, #[.slice p1 p.progs.length c1, .slice p2 p.enums.length c2], 25⟩] WW) => show (WW.cell? ⟨W.heap.size, 0, none⟩ = some (.slice p1 p.progs.length c1) ∧ WW.cell? ⟨W.heap.size, 1, none⟩ = some (.slice p2 p.enums.length c2) ∧ WW.cell? ⟨W.heap.size + 1, 0, none⟩ = some (.slice p3 q.progs.length c3) ∧ WW.cell? ⟨W.heap.size + 1, 1, none⟩ = some (.slice p4 q.enums.length c4)) from ⟨T.cell 1 rfl 0, T.cell 1 rfl 1, T.cell 0 rfl 0, T.cell 0 rfl 1⟩)
  have CG := Lib.hid (fun WW (T : ST W [] [⟨W.heap.size + 1, #[.slice p3 q.progs.length c3, .slice p4 q.enums.length c4], 25⟩, ⟨W.heap.size, #[.slice p1 p.progs.length c1, .slice p2 p.enums.length c2], 25⟩] WW) => qkm p q p1 p2 p3 p4 c1 c2 c3 c4 WW (show Pl p q p1 p2 p3 p4 c1 c2 c3 c4 WW from ⟨hG.g0.bel VProg.stays T.bel, hG.g1.bel VEnum.stays T.bel, hG.g2.bel VProg.stays T.bel, hG.g3.bel VEnum.stays T.bel⟩))
  have CM := Lib.hid (fun WW (T : ST W [] [⟨W.heap.size + 1, #[.slice p3 q.progs.length c3, .slice p4 q.enums.length c4], 25⟩, ⟨W.heap.size, #[.slice p1 p.progs.length c1, .slice p2 p.enums.length c2], 25⟩] WW) (hd : Gd p q) => qjl p q p1 p2 p3 p4 c1 c2 c3 c4 nm WW (show Pl p q p1 p2 p3 p4 c1 c2 c3 c4 WW from ⟨hG.g0.bel VProg.stays T.bel, hG.g1.bel VEnum.stays T.bel, hG.g2.bel VProg.stays T.bel, hG.g3.bel VEnum.stays T.bel⟩) hd (hM.below T.bel) (hT.below T.bel))
  have CF1 := Lib.hid (fun WW (T : ST W [] [⟨W.heap.size + 1, #[.slice p3 q.progs.length c3, .slice p4 q.enums.length c4], 25⟩, ⟨W.heap.size, #[.slice p1 p.progs.length c1, .slice p2 p.enums.length c2], 25⟩] WW) => qem p _ nm WW (show VPlan WW [.slice p1 p.progs.length c1, .slice p2 p.enums.length c2] p from ⟨_, _, rfl, hG.g0.bel VProg.stays T.bel, hG.g1.bel VEnum.stays T.bel⟩))
  have CF2 := Lib.hid (fun WW (T : ST W [] [⟨W.heap.size + 1, #[.slice p3 q.progs.length c3, .slice p4 q.enums.length c4], 25⟩, ⟨W.heap.size, #[.slice p1 p.progs.length c1, .slice p2 p.enums.length c2], 25⟩] WW) => qem q _ nm WW (show VPlan WW [.slice p3 q.progs.length c3, .slice p4 q.enums.length c4] q from ⟨_, _, rfl, hG.g2.bel VProg.stays T.bel, hG.g3.bel VEnum.stays T.bel⟩))
  have HPL := Lib.hid hG
  clear hG hP hM hT hS0
  go_enter Tryz.func6, Tryz.ntmps6
  go_upto_region 1 with (fail)
  obtain ⟨x0, x1, x2, x3⟩ := KS.out _ H0.out
  go_wp2_with (first
    | (go_at_call 9; (with_reducible refine (CG.out _ H0.out).mono ?_); rintro e' w1 ⟨B, rfl, hB, k1⟩; have k1 : Bel _ w1 := k1; have H1 := Lib.hid (H0.out.belw k1); have hB := Lib.hid hB; obtain ⟨x0, x1, x2, x3⟩ := KS.out _ H1.out; clear k1)
    | (go_at_call 10; (with_reducible refine (CA.out _ H1.out.bel).mono ?_); rintro e' w9 ⟨rfl, k9⟩; have k9 : Bel _ w9 := k9))
  focus
    go_ret
    exact ⟨rfl, Bel.of H1.out.bel k9⟩
  rotate_left 1
  focus
    go_ret
    exact ⟨rfl, Bel.of H1.out.bel k9⟩
  have hd := hB.out (by assumption)
  have CM := Lib.hid (fun WW T => CM.out WW T hd)
  clear hB CG
  rw [qkk (.inl hpa)] at CM
  rw [qi1 hpa] at CF1
  rw [qi0 hpb] at CF2
  go_upto_region 4 with (go_at_call 11; (with_reducible refine (CM.out _ H1.out).mono ?_); rintro e' w2 ⟨v, rfl, hv, k2⟩; have k2 : Bel _ w2 := k2; have H2 := Lib.hid (H1.out.belw k2); obtain ⟨vq, vc, rfl, vl⟩ := qbc hv; have HV := Lib.hid hv; obtain ⟨x0, x1, x2, x3⟩ := KS.out _ H2.out; clear hv k2)
  clear H1 CM
  go_upto_region 5 with (go_at_call 25; (with_reducible refine (CF1.out _ H2.out).mono ?_); rintro e' w3 ⟨rfl, k3⟩; have k3 : Bel _ w3 := k3; have H3 := Lib.hid (H2.out.belw k3); have K3 := Lib.hid (k3); obtain ⟨x0, x1, x2, x3⟩ := KS.out _ H3.out; clear k3)
  go_upto_region 6 with (go_at_call 25; (with_reducible refine (CF2.out _ H3.out).mono ?_); rintro e' w4 ⟨rfl, k4⟩; have k4 : Bel _ w4 := k4; have H4 := Lib.hid (H3.out.belw k4); have K4 := Lib.hid (Bel.of K3.out k4); obtain ⟨x0, x1, x2, x3⟩ := KS.out _ H4.out; clear k4)
  clear HV CF1 CF2 x0 x1 x2 x3 KS HPL
  go_upto_region 9 with (fail)
  have H9 := Lib.hid (Bel.of H2.out.bel K4.out)
  go_loopw [13] (fun ii wr => ii = .int .i64 0 ∧ Hid (Bel W wr)) (fun ii _ => 0)
  case atStart => exact ⟨rfl, H9⟩
  case round => as_aux_lemma =>
    clear H9
    obtain ⟨rfl, kw⟩ := hrel
    go_wp2_with (go_at_call 10; (with_reducible refine (CA.out _ kw.out).mono ?_); rintro e' w9 ⟨rfl, k9⟩; have k9 : Bel _ w9 := k9)
    go_ret
    exact ⟨rfl, Bel.of kw.out k9⟩
set_option maxHeartbeats 200000000 in
set_option maxRecDepth 100000 in
theorem law_CompleteSN (p q : PPlan) (p1 p2 p3 p4 : Option Addr) (c1 c2 c3 c4 : Nat) (nm : Str) (W : World) (hG : Pl p q p1 p2 p3 p4 c1 c2 c3 c4 W) (hP : PT W) (hM : ML W) (hT : Tab W) (a : Nat) (hpa : qbg p nm = some a) (hpb : qbg q nm = none) :
    Calls Tryz.prog 6 #[.agg #[.slice p1 p.progs.length c1, .slice p2 p.enums.length c2], .agg #[.slice p3 q.progs.length c3, .slice p4 q.enums.length c4], .string (S nm)] W fun e w' => e = .returned (.bool true) ∧ Bel W w' := by
  have hS0 := ((ST.start W).addbox #[.slice p1 p.progs.length c1, .slice p2 p.enums.length c2] 25).addbox #[.slice p3 q.progs.length c3, .slice p4 q.enums.length c4] 25
  simp only [World.size_alloc] at hS0
  have H0 := Lib.hid hS0
  have CA := Lib.hid (fun WW (k : Bel W WW) => qhn WW (hP.bel k) (hM.below k.out) (hT.below k))
  have KS := Lib.hid (fun WW (T : ST W [] [⟨W.heap.size + 1, #[.slice p3 q.progs.length c3, .slice p4 q.enums.length c4], 25⟩, ⟨W.heap.size, #[.slice p1 p.progs.length c1, .slice p2 p.enums.length c2], 25⟩] WW) => show (WW.cell? ⟨W.heap.size, 0, none⟩ = some (.slice p1 p.progs.length c1) ∧ WW.cell? ⟨W.heap.size, 1, none⟩ = some (.slice p2 p.enums.length c2) ∧ WW.cell? ⟨W.heap.size + 1, 0, none⟩ = some (.slice p3 q.progs.length c3) ∧ WW.cell? ⟨W.heap.size + 1, 1, none⟩ = some (.slice p4 q.enums.length c4)) from ⟨T.cell 1 rfl 0, T.cell 1 rfl 1, T.cell 0 rfl 0, T.cell 0 rfl 1⟩)
  have CG := Lib.hid (fun WW (T : ST W [] [⟨W.heap.size + 1, #[.slice p3 q.progs.length c3, .slice p4 q.enums.length c4], 25⟩, ⟨W.heap.size, #[.slice p1 p.progs.length c1, .slice p2 p.enums.length c2], 25⟩] WW) => qkm p q p1 p2 p3 p4 c1 c2 c3 c4 WW (show Pl p q p1 p2 p3 p4 c1 c2 c3 c4 WW from ⟨hG.g0.bel VProg.stays T.bel, hG.g1.bel VEnum.stays T.bel, hG.g2.bel VProg.stays T.bel, hG.g3.bel VEnum.stays T.bel⟩))
  have CM := Lib.hid (fun WW (T : ST W [] [⟨W.heap.size + 1, #[.slice p3 q.progs.length c3, .slice p4 q.enums.length c4], 25⟩, ⟨W.heap.size, #[.slice p1 p.progs.length c1, .slice p2 p.enums.length c2], 25⟩] WW) (hd : Gd p q) => qjl p q p1 p2 p3 p4 c1 c2 c3 c4 nm WW (show Pl p q p1 p2 p3 p4 c1 c2 c3 c4 WW from ⟨hG.g0.bel VProg.stays T.bel, hG.g1.bel VEnum.stays T.bel, hG.g2.bel VProg.stays T.bel, hG.g3.bel VEnum.stays T.bel⟩) hd (hM.below T.bel) (hT.below T.bel))
  have CF1 := Lib.hid (fun WW (T : ST W [] [⟨W.heap.size + 1, #[.slice p3 q.progs.length c3, .slice p4 q.enums.length c4], 25⟩, ⟨W.heap.size, #[.slice p1 p.progs.length c1, .slice p2 p.enums.length c2], 25⟩] WW) => qem p _ nm WW (show VPlan WW [.slice p1 p.progs.length c1, .slice p2 p.enums.length c2] p from ⟨_, _, rfl, hG.g0.bel VProg.stays T.bel, hG.g1.bel VEnum.stays T.bel⟩))
  have CF2 := Lib.hid (fun WW (T : ST W [] [⟨W.heap.size + 1, #[.slice p3 q.progs.length c3, .slice p4 q.enums.length c4], 25⟩, ⟨W.heap.size, #[.slice p1 p.progs.length c1, .slice p2 p.enums.length c2], 25⟩] WW) => qem q _ nm WW (show VPlan WW [.slice p3 q.progs.length c3, .slice p4 q.enums.length c4] q from ⟨_, _, rfl, hG.g2.bel VProg.stays T.bel, hG.g3.bel VEnum.stays T.bel⟩))
  have HPL := Lib.hid hG
  clear hG hP hM hT hS0
  go_enter Tryz.func6, Tryz.ntmps6
  go_upto_region 1 with (fail)
  obtain ⟨x0, x1, x2, x3⟩ := KS.out _ H0.out
  go_wp2_with (first
    | (go_at_call 9; (with_reducible refine (CG.out _ H0.out).mono ?_); rintro e' w1 ⟨B, rfl, hB, k1⟩; have k1 : Bel _ w1 := k1; have H1 := Lib.hid (H0.out.belw k1); have hB := Lib.hid hB; obtain ⟨x0, x1, x2, x3⟩ := KS.out _ H1.out; clear k1)
    | (go_at_call 10; (with_reducible refine (CA.out _ H1.out.bel).mono ?_); rintro e' w9 ⟨rfl, k9⟩; have k9 : Bel _ w9 := k9))
  focus
    go_ret
    exact ⟨rfl, Bel.of H1.out.bel k9⟩
  rotate_left 1
  focus
    go_ret
    exact ⟨rfl, Bel.of H1.out.bel k9⟩
  have hd := hB.out (by assumption)
  have CM := Lib.hid (fun WW T => CM.out WW T hd)
  clear hB CG
  rw [qkk (.inr hpb)] at CM
  rw [qi0 hpa] at CF1
  rw [qi1 hpb] at CF2
  go_upto_region 4 with (go_at_call 11; (with_reducible refine (CM.out _ H1.out).mono ?_); rintro e' w2 ⟨v, rfl, hv, k2⟩; have k2 : Bel _ w2 := k2; have H2 := Lib.hid (H1.out.belw k2); obtain ⟨vq, vc, rfl, vl⟩ := qbc hv; have HV := Lib.hid hv; obtain ⟨x0, x1, x2, x3⟩ := KS.out _ H2.out; clear hv k2)
  clear H1 CM
  go_upto_region 5 with (go_at_call 25; (with_reducible refine (CF1.out _ H2.out).mono ?_); rintro e' w3 ⟨rfl, k3⟩; have k3 : Bel _ w3 := k3; have H3 := Lib.hid (H2.out.belw k3); have K3 := Lib.hid (k3); obtain ⟨x0, x1, x2, x3⟩ := KS.out _ H3.out; clear k3)
  go_upto_region 6 with (go_at_call 25; (with_reducible refine (CF2.out _ H3.out).mono ?_); rintro e' w4 ⟨rfl, k4⟩; have k4 : Bel _ w4 := k4; have H4 := Lib.hid (H3.out.belw k4); have K4 := Lib.hid (Bel.of K3.out k4); obtain ⟨x0, x1, x2, x3⟩ := KS.out _ H4.out; clear k4)
  clear HV CF1 CF2 x0 x1 x2 x3 KS HPL
  go_upto_region 9 with (fail)
  have H9 := Lib.hid (Bel.of H2.out.bel K4.out)
  go_loopw [13] (fun ii wr => ii = .int .i64 0 ∧ Hid (Bel W wr)) (fun ii _ => 0)
  case atStart => exact ⟨rfl, H9⟩
  case round => as_aux_lemma =>
    clear H9
    obtain ⟨rfl, kw⟩ := hrel
    go_wp2_with (go_at_call 10; (with_reducible refine (CA.out _ kw.out).mono ?_); rintro e' w9 ⟨rfl, k9⟩; have k9 : Bel _ w9 := k9)
    go_ret
    exact ⟨rfl, Bel.of kw.out k9⟩
end Go.Proofs.YtgpjhibdongmbaaGreatDoor
