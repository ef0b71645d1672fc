/- Law ResolveComplete walked. Printed by genlawk.py. -/
import Derived.Test.YtgpjhibdongmbaaGreatDoorRestKb
import Derived.Test.YtgpjhibdongmbaaGreatDoorRsR31S
namespace Go.Proofs.YtgpjhibdongmbaaGreatDoor
open Go.RowKit Ck Rs
set_option linter.unusedVariables false
set_option linter.unusedSimpArgs false
theorem filt_at {α : Type} {P : α → Bool} : ∀ {l : List α} {i : Nat} {y : α}, l[i]? = some y → P y = true → (l.filter P)[((l.take i).filter P).length]? = some y
  | [], i, y, h, _ => by cases i <;> cases h
  | z :: l, 0, y, h, hp => by
    cases h
    rw [List.filter_cons_of_pos hp]
    rfl
  | z :: l, i + 1, y, h, hp => by
    have h2 : l[i]? = some y := h
    rw [List.take_succ_cons]
    cases hz : P z with
    | true => rw [List.filter_cons_of_pos hz, List.filter_cons_of_pos hz, List.length_cons, List.getElem?_cons_succ]; exact filt_at h2 hp
    | false => rw [List.filter_cons_of_neg (by simp [hz]), List.filter_cons_of_neg (by simp [hz])]; exact filt_at h2 hp
theorem filt_suc {α : Type} {P : α → Bool} {l : List α} {i : Nat} {y : α} (h : l[i]? = some y) : ((l.take (i + 1)).filter P).length = ((l.take i).filter P).length + if P y = true then 1 else 0 := by
  rw [List.take_add_one, h, List.filter_append, List.length_append]
  cases hy : P y <;> simp [hy]
def lackP (g : PProg) (y : POp) : Bool := (opOf g y.num).isNone && decide (y.card = 1)
/-- how many of the first i operations are lacking -/
def lackN (g h : PProg) (i : Nat) : Nat := ((h.ops.take i).filter (lackP g)).length
theorem lack_at {g h : PProg} {i : Nat} {y : POp} (hy : h.ops[i]? = some y) (hp : lackP g y = true) : (qcf g h)[lackN g h i]? = some y.num := by
  unfold qcf lackN
  rw [List.getElem?_map]
  have := filt_at hy hp
  rw [show (h.ops.filter fun q => (opOf g q.num).isNone && decide (q.card = 1)) = h.ops.filter (lackP g) from rfl, this]
  rfl
theorem lack_end {g h : PProg} : lackN g h h.ops.length = (qcf g h).length := by
  unfold qcf lackN
  rw [List.length_map, List.take_length]
  rfl
theorem kind_le {w r : PPlan} {o q : POp} : 2 ≤ qac w r o q ∧ qac w r o q ≤ 4 := by
  have hk : ∀ a b : Int, 2 ≤ qav a b ∧ qav a b ≤ 4 := fun a b => by unfold qav; split <;> (try split) <;> omega
  have he : 2 ≤ elemR w r o q ∧ elemR w r o q ≤ 4 := by
    unfold elemR
    split
    · omega
    · split
      · omega
      · split
        · split
          · split <;> omega
          · omega
        · exact hk _ _
  unfold qac
  have := hk o.key q.key
  split
  · exact he
  · split
    · omega
    · split
      · omega
      · omega
theorem comp_act {w r : PPlan} {F : List (Int × Int)} {h : PProg} {o : POp} {a : PAct} {L : Nat} {C : Nat → Int → Int → Prop} (hok : ActOK w r F h o a) {z : Option POp} (hz : opOf h o.num = z) (hF : ∀ s t u, F[s]? = some (t, u) → s < L ∧ C s t u) :
    (opB z == (a.kind == 1)) = false ∧ ¬ a.kind < 1 ∧ ¬ 4 < a.kind ∧ ¬ (L : Int) ≤ a.sub ∧ ¬ a.sub < -1 ∧
    ((a.sub = -1 ∧ (o.kind = 10 → (a.kind == 2) = false ∧ (a.kind == 3) = false)) ∨ ∃ (s : Nat) (y : POp), a.sub = (s : Int) ∧ z = some y ∧ o.kind = 10 ∧ y.kind = 10 ∧ s < L ∧ C s o.tgt y.tgt) := by
  cases z with
  | none =>
    obtain ⟨e1, e2⟩ := hok.no hz
    rw [e1, e2]
    refine ⟨rfl, by omega, by omega, by omega, by omega, .inl ⟨rfl, fun _ => ⟨rfl, rfl⟩⟩⟩
  | some y =>
    obtain ⟨hk, hss⟩ := hok.yes y hz
    have hkl := kind_le (w := w) (r := r) (o := o) (q := y)
    rw [← hk] at hkl
    have hb : (a.kind == 1) = false := beq_eq_false_iff_ne.2 (by omega)
    refine ⟨by rw [hb]; rfl, by omega, by omega, ?_⟩
    rcases hss with ⟨hs, h4⟩ | ⟨h4, h10, y10, s, hs, hFs⟩
    · refine ⟨by omega, by omega, .inl ⟨hs, fun h10 => ?_⟩⟩
      have h44 : a.kind = 4 := h4.resolve_right (fun h => h h10)
      rw [h44]
      exact ⟨rfl, rfl⟩
    · obtain ⟨s1, hC⟩ := hF s _ _ hFs
      exact ⟨by omega, by omega, .inr ⟨s, y, hs, rfl, h10, y10, s1, hC⟩⟩
set_option maxHeartbeats 200000000 in
set_option maxRecDepth 100000 in
theorem law_CompleteS (p q : PPlan) (p1 p2 p3 p4 : Option Addr) (c1 c2 c3 c4 : Nat) (nm : Str) (W : World) (hG : Pl p q p1 p2 p3 p4 c1 c2 c3 c4 W) (hP : PT W) (hM : ML W) (hT : Tab W) (a b : Nat) (hpa : qbg p nm = some a) (hpb : qbg q nm = some b) :
    Calls Tryz.prog 6 #[.agg #[.slice p1 p.progs.length c1, .slice p2 p.enums.length c2], .agg #[.slice p3 q.progs.length c3, .slice p4 q.enums.length c4], .string (S nm)] W fun e w' => e = .returned (.bool true) ∧ Bel W w' := by
  have hS0 := ((ST.start W).addbox #[.slice p1 p.progs.length c1, .slice p2 p.enums.length c2] 25).addbox #[.slice p3 q.progs.length c3, .slice p4 q.enums.length c4] 25
  simp only [World.size_alloc] at hS0
  have H0 := Lib.hid hS0
  have CA := Lib.hid (fun WW (k : Bel W WW) => qhn WW (hP.bel k) (hM.below k.out) (hT.below k))
  have KS := Lib.hid (fun WW (T : ST W [] [⟨W.heap.size + 1, #[.slice p3 q.progs.length c3, .slice p4 q.enums.length c4], 25⟩, ⟨W.heap.size, #[.slice p1 p.progs.length c1, .slice p2 p.enums.length c2], 25⟩] WW) => show (WW.cell? ⟨W.heap.size, 0, none⟩ = some (.slice p1 p.progs.length c1) ∧ WW.cell? ⟨W.heap.size, 1, none⟩ = some (.slice p2 p.enums.length c2) ∧ WW.cell? ⟨W.heap.size + 1, 0, none⟩ = some (.slice p3 q.progs.length c3) ∧ WW.cell? ⟨W.heap.size + 1, 1, none⟩ = some (.slice p4 q.enums.length c4)) from ⟨T.cell 1 rfl 0, T.cell 1 rfl 1, T.cell 0 rfl 0, T.cell 0 rfl 1⟩)
  have CG := Lib.hid (fun WW (T : ST W [] [⟨W.heap.size + 1, #[.slice p3 q.progs.length c3, .slice p4 q.enums.length c4], 25⟩, ⟨W.heap.size, #[.slice p1 p.progs.length c1, .slice p2 p.enums.length c2], 25⟩] WW) => qkm p q p1 p2 p3 p4 c1 c2 c3 c4 WW (show Pl p q p1 p2 p3 p4 c1 c2 c3 c4 WW from ⟨hG.g0.bel VProg.stays T.bel, hG.g1.bel VEnum.stays T.bel, hG.g2.bel VProg.stays T.bel, hG.g3.bel VEnum.stays T.bel⟩))
  have CM := Lib.hid (fun WW (T : ST W [] [⟨W.heap.size + 1, #[.slice p3 q.progs.length c3, .slice p4 q.enums.length c4], 25⟩, ⟨W.heap.size, #[.slice p1 p.progs.length c1, .slice p2 p.enums.length c2], 25⟩] WW) (hd : Gd p q) => qjl p q p1 p2 p3 p4 c1 c2 c3 c4 nm WW (show Pl p q p1 p2 p3 p4 c1 c2 c3 c4 WW from ⟨hG.g0.bel VProg.stays T.bel, hG.g1.bel VEnum.stays T.bel, hG.g2.bel VProg.stays T.bel, hG.g3.bel VEnum.stays T.bel⟩) hd (hM.below T.bel) (hT.below T.bel))
  have CF1 := Lib.hid (fun WW (T : ST W [] [⟨W.heap.size + 1, #[.slice p3 q.progs.length c3, .slice p4 q.enums.length c4], 25⟩, ⟨W.heap.size, #[.slice p1 p.progs.length c1, .slice p2 p.enums.length c2], 25⟩] WW) => qem p _ nm WW (show VPlan WW [.slice p1 p.progs.length c1, .slice p2 p.enums.length c2] p from ⟨_, _, rfl, hG.g0.bel VProg.stays T.bel, hG.g1.bel VEnum.stays T.bel⟩))
  have CF2 := Lib.hid (fun WW (T : ST W [] [⟨W.heap.size + 1, #[.slice p3 q.progs.length c3, .slice p4 q.enums.length c4], 25⟩, ⟨W.heap.size, #[.slice p1 p.progs.length c1, .slice p2 p.enums.length c2], 25⟩] WW) => qem q _ nm WW (show VPlan WW [.slice p3 q.progs.length c3, .slice p4 q.enums.length c4] q from ⟨_, _, rfl, hG.g2.bel VProg.stays T.bel, hG.g3.bel VEnum.stays T.bel⟩))
  have HPL := Lib.hid hG
  clear hG hP hM hT hS0
  go_enter Tryz.func6, Tryz.ntmps6
  go_upto_region 1 with (fail)
  obtain ⟨x0, x1, x2, x3⟩ := KS.out _ H0.out
  go_wp2_with (first
    | (go_at_call 9; (with_reducible refine (CG.out _ H0.out).mono ?_); rintro e' w1 ⟨B, rfl, hB, k1⟩; have k1 : Bel _ w1 := k1; have H1 := Lib.hid (H0.out.belw k1); have hB := Lib.hid hB; obtain ⟨x0, x1, x2, x3⟩ := KS.out _ H1.out; clear k1)
    | (go_at_call 10; (with_reducible refine (CA.out _ H1.out.bel).mono ?_); rintro e' w9 ⟨rfl, k9⟩; have k9 : Bel _ w9 := k9))
  focus
    go_ret
    exact ⟨rfl, Bel.of H1.out.bel k9⟩
  rotate_left 1
  focus
    go_ret
    exact ⟨rfl, Bel.of H1.out.bel k9⟩
  have hd := hB.out (by assumption)
  have CM := Lib.hid (fun WW T => CM.out WW T hd)
  clear hB CG
  obtain ⟨g, hga, hgn, hal⟩ := qbl hpa
  obtain ⟨h, hhb, hhn, hbl⟩ := qbl hpb
  clear hgn hhn
  have ha : (0 : Int) ≤ (a : Int) ∧ (a : Int) < (p.progs.length : Int) := ⟨by omega, by omega⟩
  have hb : (0 : Int) ≤ (b : Int) ∧ (b : Int) < (q.progs.length : Int) := ⟨by omega, by omega⟩
  rw [mk_some hpa hpb] at CM
  rw [qi0 hpa] at CF1
  rw [qi0 hpb] at CF2
  obtain ⟨F, hFl, _, _, hres⟩ := from_ok hd.vw hd.vr ha hb
  obtain ⟨x00, x01, x02, x03, hlen⟩ := from_pos hd.vw hd.vr ha hb
  have HRES0 := Lib.hid hres
  have HFL := Lib.hid hFl
  generalize fromR p q (a : Int) (b : Int) = l at *
  have hl0 : (0 : Int) < (l.length : Int) := by omega
  have hl0b : decide (0 < l.length) = true := decide_eq_true (by omega)
  clear hres hFl hd hpa hpb hga hhb x01 x02 x03 x00
  go_upto_region 4 with (go_at_call 11; (with_reducible refine (CM.out _ H1.out).mono ?_); rintro e' w2 ⟨v, rfl, hv, k2⟩; have k2 : Bel _ w2 := k2; have H2 := Lib.hid (H1.out.belw k2); obtain ⟨vq, vc, rfl, vl⟩ := qbc hv; have HV := Lib.hid hv; obtain ⟨x0, x1, x2, x3⟩ := KS.out _ H2.out; clear hv k2)
  clear H1 CM
  go_upto_region 5 with (go_at_call 25; (with_reducible refine (CF1.out _ H2.out).mono ?_); rintro e' w3 ⟨rfl, k3⟩; have k3 : Bel _ w3 := k3; have H3 := Lib.hid (H2.out.belw k3); have K3 := Lib.hid (k3); obtain ⟨x0, x1, x2, x3⟩ := KS.out _ H3.out; clear k3)
  go_upto_region 6 with (go_at_call 25; (with_reducible refine (CF2.out _ H3.out).mono ?_); rintro e' w4 ⟨rfl, k4⟩; have k4 : Bel _ w4 := k4; have H4 := Lib.hid (H3.out.belw k4); have K4 := Lib.hid (Bel.of K3.out k4); obtain ⟨x0, x1, x2, x3⟩ := KS.out _ H4.out; clear k4)
  obtain ⟨q1', c1', he1, _, _, hel1⟩ := HPL.out.g0
  cases he1
  have EG := Lib.hid hel1
  obtain ⟨q2', c2', he2, _, _, hel2⟩ := HPL.out.g2
  cases he2
  have EQ := Lib.hid hel2
  obtain ⟨_, _, he4, _, _, hel4⟩ := HV.out
  cases he4
  have EL := Lib.hid hel4
  have K2W := Lib.hid (show Bel W w2 from H2.out.bel)
  have FP0 := KS.out _ H2.out
  have FP := Lib.hid (show w2.cell? ⟨W.heap.size, 0, none⟩ = some (.slice p1 p.progs.length c1) ∧ w2.cell? ⟨W.heap.size + 1, 0, none⟩ = some (.slice p3 q.progs.length c3) from ⟨FP0.1, FP0.2.2.1⟩)
  have HS := Lib.hid (show ST w2 [] [] w4 from (ST.start w2).belw K4.out)
  clear hel1 hel2 hel4 HV HPL KS H2 H3 H4 K3 K4 CF1 CF2 x0 x1 x2 x3 FP0 ha hb g h hal hbl
  go_upto_region 9 with (fail)
  clear hl0 hl0b
  go_loopw [13] (fun nn wr => ∃ n : Nat, n ≤ l.length ∧ nn = .int .i64 n ∧ Hid (ST w2 [] [] wr)) (fun nn _ => l.length - (intOf nn).toNat)
  case atStart => exact ⟨0, by omega, rfl, HS⟩
  case round => as_aux_lemma =>
    clear HS
    obtain ⟨n, hn, rfl, hS⟩ := hrel
    by_cases hlt : n < l.length
    · skip
      have hni : (n : Int) < (l.length : Int) := by omega
      have hn0 : (0 : Int) ≤ (n : Int) := by omega
      have hln : l[n]? = some l[n] := List.getElem?_eq_getElem hlt
      obtain ⟨lb, loff, hql, hbl', vx, hcx, hvx⟩ := EL.out n _ hln
      subst hql
      obtain ⟨g, h, e1, e2, e3, e4, e5, e6, e7, e8⟩ := (HRES0.out n _ hln).ex
      have HLS := Lib.hid (show ∀ (s : Nat) (t u : Int), F[s]? = some (t, u) → s < l.length ∧ w2.cell? ⟨lb, loff + s * 4, none⟩ = some (.int .i64 t) ∧ w2.cell? ⟨lb, loff + s * 4 + 1, none⟩ = some (.int .i64 u) from fun s t u hs => by
        have hsl : s < l.length := by rw [← HFL.out]; exact (List.getElem?_eq_some_iff.1 hs).1
        have hls : l[s]? = some l[s] := List.getElem?_eq_getElem hsl
        obtain ⟨_, _, z1, _⟩ := (HRES0.out s _ hls).ex
        rw [hs] at z1
        cases z1
        obtain ⟨lb', loff', hq', _, vs', hc', hv'⟩ := EL.out s _ hls
        cases hq'
        obtain ⟨_, _, rfl, _⟩ := hv'
        exact ⟨hsl, by have := hc' 0 _ rfl; rwa [Nat.add_zero] at this, hc' 1 _ rfl⟩)
      clear HRES0 e1 hln
      generalize l[n] = x at *
      obtain ⟨wn, hwn⟩ : ∃ k : Nat, x.w = (k : Int) := ⟨x.w.toNat, by omega⟩
      obtain ⟨rn, hrn⟩ : ∃ k : Nat, x.r = (k : Int) := ⟨x.r.toNat, by omega⟩
      rw [hwn] at e2 e4
      rw [hrn] at e3 e5
      rw [Int.toNat_natCast] at e4 e5
      obtain ⟨aq, lq, ac, lc, rfl, hsa, hsl, _, _⟩ := hvx.form
      have LC := Lib.hid (show ∀ WW, Bel w2 WW → WW.cell? ⟨lb, loff + n * 4, none⟩ = some (.int .i64 (wn : Int)) ∧ WW.cell? ⟨lb, loff + n * 4 + 1, none⟩ = some (.int .i64 (rn : Int)) ∧ WW.cell? ⟨lb, loff + n * 4 + 2, none⟩ = some (.slice aq x.acts.length ac) ∧ WW.cell? ⟨lb, loff + n * 4 + 3, none⟩ = some (.slice lq x.lacks.length lc) from fun WW k => ⟨by have := k.some (hcx 0 _ rfl); rw [Nat.add_zero, hwn] at this; exact this, by have := k.some (hcx 1 _ rfl); rw [hrn] at this; exact this, k.some (hcx 2 _ rfl), k.some (hcx 3 _ rfl)⟩)
      obtain ⟨pb, poff, hqp, _, vg, hcg, hvg⟩ := EG.out wn g e4
      subst hqp
      obtain ⟨qb, qoff, hqq, _, vh, hch, hvh⟩ := EQ.out rn h e5
      subst hqq
      have hvg0 := hvg
      have hvh0 := hvh
      obtain ⟨gq, gc, rfl, hgs, _⟩ := hvg.form
      obtain ⟨hq, hc, rfl, hhs, _⟩ := hvh.form
      obtain ⟨_, _, hea, _, _, hela⟩ := hsa
      cases hea
      have EA := Lib.hid hela
      obtain ⟨_, _, hek, _, _, helk⟩ := hsl
      cases hek
      have EK := Lib.hid helk
      obtain ⟨_, _, hei, _, _, heli⟩ := hgs
      cases hei
      have EI := Lib.hid heli
      obtain ⟨_, _, hej, _, _, helj⟩ := hhs
      cases hej
      have EJ := Lib.hid helj
      have VG := Lib.hid (VProg.stays _ _ _ _ K2W.out hvg0)
      have VH := Lib.hid (VProg.stays _ _ _ _ K2W.out hvh0)
      have HRES := Lib.hid e7
      have HLK := Lib.hid e8
      have PC := Lib.hid (show ∀ WW, Bel w2 WW → WW.cell? ⟨W.heap.size, 0, none⟩ = some (.slice (some ⟨pb, poff, none⟩) p.progs.length c1) ∧ WW.cell? ⟨W.heap.size + 1, 0, none⟩ = some (.slice (some ⟨qb, qoff, none⟩) q.progs.length c3) from fun WW k => ⟨k.some FP.out.1, k.some FP.out.2⟩)
      have GP := Lib.hid (show ∀ WW, Bel w2 WW → WW.cell? ⟨pb, poff + wn * 3, none⟩ = some (.string (S g.name)) ∧ WW.cell? ⟨pb, poff + wn * 3 + 1, none⟩ = some (.slice gq g.ops.length gc) ∧ WW.cell? ⟨pb, poff + wn * 3 + 2, none⟩ = some (.int .i64 g.uns) from fun WW k => ⟨by have := (Bel.of K2W.out k).some (hcg 0 _ rfl); rwa [Nat.add_zero] at this, (Bel.of K2W.out k).some (hcg 1 _ rfl), (Bel.of K2W.out k).some (hcg 2 _ rfl)⟩)
      have HP2 := Lib.hid (show ∀ WW, Bel w2 WW → WW.cell? ⟨qb, qoff + rn * 3, none⟩ = some (.string (S h.name)) ∧ WW.cell? ⟨qb, qoff + rn * 3 + 1, none⟩ = some (.slice hq h.ops.length hc) ∧ WW.cell? ⟨qb, qoff + rn * 3 + 2, none⟩ = some (.int .i64 h.uns) from fun WW k => ⟨by have := (Bel.of K2W.out k).some (hch 0 _ rfl); rwa [Nat.add_zero] at this, (Bel.of K2W.out k).some (hch 1 _ rfl), (Bel.of K2W.out k).some (hch 2 _ rfl)⟩)
      have w0 : (0 : Int) ≤ (wn : Int) := by omega
      have w1' : (wn : Int) < (p.progs.length : Int) := e2.2
      have w3 : ¬ (p.progs.length : Int) ≤ (wn : Int) := by omega
      have w4 : ¬ (wn : Int) < 0 := by omega
      have r0 : (0 : Int) ≤ (rn : Int) := by omega
      have r1 : (rn : Int) < (q.progs.length : Int) := e3.2
      have r3 : ¬ (q.progs.length : Int) ≤ (rn : Int) := by omega
      have r4 : ¬ (rn : Int) < 0 := by omega
      have hal : x.acts.length = g.ops.length := e6
      have alb : ((x.acts.length : Int) != (g.ops.length : Int)) = false := by rw [hal]; simp
      clear hcx hvx hcg hch hela helk heli helj hvg0 hvh0 hvg hvh e2 e3 e4 e5 e6 e7 e8 FP hwn hrn hbl'
      go_upto_region 11 with (fail)
      obtain ⟨we, hwd⟩ : ∃ x, x = wr.drew := ⟨_, rfl⟩
      have T := Lib.hid (show ST w2 [] [] we by rw [hwd]; exact hS.out.belw (Bel.refl _).drew)
      have HWD := Lib.hid hwd
      clear hwd hS
      have KS := Lib.hid (fun WW (hh : ST w2 [] [] WW) => show (WW.cell? ⟨lb, loff + n * 4, none⟩ = some (.int .i64 (wn : Int)) ∧ WW.cell? ⟨lb, loff + n * 4 + 1, none⟩ = some (.int .i64 (rn : Int)) ∧ WW.cell? ⟨lb, loff + n * 4 + 2, none⟩ = some (.slice aq x.acts.length ac) ∧ WW.cell? ⟨lb, loff + n * 4 + 3, none⟩ = some (.slice lq x.lacks.length lc)) ∧ (WW.cell? ⟨W.heap.size, 0, none⟩ = some (.slice (some ⟨pb, poff, none⟩) p.progs.length c1) ∧ WW.cell? ⟨W.heap.size + 1, 0, none⟩ = some (.slice (some ⟨qb, qoff, none⟩) q.progs.length c3)) from ⟨LC.out _ hh.bel, PC.out _ hh.bel⟩)
      obtain ⟨⟨m0, m1, m2, m3⟩, z0, z1⟩ := KS.out _ T.out
      refine qa8 34 (by kernel_rfl) (by kernel_rfl) HWD.out ?_
      (simp only [List.take_succ_cons, List.take_zero, List.drop_succ_cons, List.drop_zero]); (repeat (first | ((with_reducible refine wpStill_step (fun K hK => ?_)); go_simp; (with_reducible refine hK _ ?_); clear hK K) | ((with_reducible refine qab ?_ ?_); (with_unfolding_all rfl); (simp only [Act.put, List.setIfInBounds_toArray, List.set_cons_zero, List.set_cons_succ])))); (with_reducible refine wpStill_nil ?_)
      go_upto_region 13 with (fail)
      clear m0 m1 m2 m3 z0 z1
      clear HWD KS
      go_cut [14] (fun s14 wx => ∃ gb, s14 = .pointer (some ⟨gb, 0, none⟩) ∧ Hid (ST w2 [] [⟨gb, #[.string (S g.name), .slice gq g.ops.length gc, .int .i64 g.uns], 52⟩] wx))
      case first => as_aux_lemma =>
        obtain ⟨wd, hwd⟩ : ∃ x, x = we.drew := ⟨_, rfl⟩
        have T := Lib.hid (show ST w2 [] [] wd by rw [hwd]; exact T.out.belw (Bel.refl _).drew)
        have HWD := Lib.hid hwd
        clear hwd
        clear EI HRES EA HLS VH EJ HLK EK VG CA
        have KS := Lib.hid (fun WW (hh : ST w2 [] [] WW) => show (WW.cell? ⟨lb, loff + n * 4, none⟩ = some (.int .i64 (wn : Int)) ∧ WW.cell? ⟨lb, loff + n * 4 + 1, none⟩ = some (.int .i64 (rn : Int)) ∧ WW.cell? ⟨lb, loff + n * 4 + 2, none⟩ = some (.slice aq x.acts.length ac) ∧ WW.cell? ⟨lb, loff + n * 4 + 3, none⟩ = some (.slice lq x.lacks.length lc)) ∧ (WW.cell? ⟨W.heap.size, 0, none⟩ = some (.slice (some ⟨pb, poff, none⟩) p.progs.length c1) ∧ WW.cell? ⟨W.heap.size + 1, 0, none⟩ = some (.slice (some ⟨qb, qoff, none⟩) q.progs.length c3)) ∧ WW.cell? ⟨pb, poff + wn * 3, none⟩ = some (.string (S g.name)) ∧ WW.cell? ⟨pb, poff + wn * 3 + 1, none⟩ = some (.slice gq g.ops.length gc) ∧ WW.cell? ⟨pb, poff + wn * 3 + 2, none⟩ = some (.int .i64 g.uns) from ⟨LC.out _ hh.bel, PC.out _ hh.bel, GP.out _ hh.bel⟩)
        refine qag (fun WW => ST w2 [] [] WW) (.take 0 (.take 1 (.take 2 (.take 3 (.take 4 (.take 5 (.take 6 (.take 7 (.take 8 (.alt 9 .done .no)))))))))) 10 (by kernel_rfl) (by kernel_rfl) HWD.out T.out (fun a ha => ?_)
        (simp only [pickT, List.getD_cons_zero, List.getD_cons_succ])
        have hsz : a.tmps.size = 339 := (by rw [ha]; kernel_rfl)
        have a7 : a.eval (.tmp 7) = .slice (some ⟨lb, loff, none⟩) l.length vc := (by rw [ha]; kernel_rfl)
        have a13 : a.eval (.tmp 13) = .int .i64 n := (by rw [ha]; kernel_rfl)
        have a3 : a.eval (.tmp 3) = .pointer (some ⟨W.heap.size, 0, none⟩) := (by rw [ha]; kernel_rfl)
        (with_reducible refine qa1 (v := ?_) rfl (by with_unfolding_all rfl) (fun ρ hρ W hW => ?_) ?_); (rotate_left 1)
        focus (clear hW; have p3 := hρ (.tmp 3); (simp (disch := (first | decide | ((try simp only [qa2]); rw [hsz]; decide))) only [ev_eq, ev_ne, a7, a13, a3] at p3); have hc : ∀ c, ρ (.const c) = c := (fun c => hρ (.const c)); have hfn : ∀ f, ρ (.func f) = .func (.func f) #[] #[] := (fun f => hρ (.func f)); clear hρ; go_simp; (all_goals (first | (with_reducible rfl) | (constructor <;> with_reducible rfl))))
        (with_reducible refine qa1 (v := ?_) rfl (by with_unfolding_all rfl) (fun ρ hρ W hW => ?_) ?_); (rotate_left 1)
        focus (have hS := KS.out _ hW; clear hW; have p118 := hρ (.tmp 118); (simp (disch := (first | decide | ((try simp only [qa2]); rw [hsz]; decide))) only [ev_eq, ev_ne, a7, a13, a3] at p118); have hc : ∀ c, ρ (.const c) = c := (fun c => hρ (.const c)); have hfn : ∀ f, ρ (.func f) = .func (.func f) #[] #[] := (fun f => hρ (.func f)); clear hρ; go_simp; (all_goals (first | (with_reducible rfl) | (constructor <;> with_reducible rfl))))
        (with_reducible refine qa1 (v := ?_) rfl (by with_unfolding_all rfl) (fun ρ hρ W hW => ?_) ?_); (rotate_left 1)
        focus (clear hW; have p7 := hρ (.tmp 7); (simp (disch := (first | decide | ((try simp only [qa2]); rw [hsz]; decide))) only [ev_eq, ev_ne, a7, a13, a3] at p7); have hc : ∀ c, ρ (.const c) = c := (fun c => hρ (.const c)); have hfn : ∀ f, ρ (.func f) = .func (.func f) #[] #[] := (fun f => hρ (.func f)); clear hρ; go_simp; (all_goals (first | (with_reducible rfl) | (constructor <;> with_reducible rfl))))
        (with_reducible refine qa1 (v := ?_) rfl (by with_unfolding_all rfl) (fun ρ hρ W hW => ?_) ?_); (rotate_left 1)
        focus (clear hW; have p13 := hρ (.tmp 13); (simp (disch := (first | decide | ((try simp only [qa2]); rw [hsz]; decide))) only [ev_eq, ev_ne, a7, a13, a3] at p13); have hc : ∀ c, ρ (.const c) = c := (fun c => hρ (.const c)); have hfn : ∀ f, ρ (.func f) = .func (.func f) #[] #[] := (fun f => hρ (.func f)); clear hρ; go_simp; (all_goals (first | (with_reducible rfl) | (constructor <;> with_reducible rfl))))
        (with_reducible refine qa1 (v := ?_) rfl (by with_unfolding_all rfl) (fun ρ hρ W hW => ?_) ?_); (rotate_left 1)
        focus (clear hW; have p120 := hρ (.tmp 120); (simp (disch := (first | decide | ((try simp only [qa2]); rw [hsz]; decide))) only [ev_eq, ev_ne, a7, a13, a3] at p120); have p121 := hρ (.tmp 121); (simp (disch := (first | decide | ((try simp only [qa2]); rw [hsz]; decide))) only [ev_eq, ev_ne, a7, a13, a3] at p121); have hc : ∀ c, ρ (.const c) = c := (fun c => hρ (.const c)); have hfn : ∀ f, ρ (.func f) = .func (.func f) #[] #[] := (fun f => hρ (.func f)); clear hρ; go_simp; (all_goals (first | (with_reducible rfl) | (constructor <;> with_reducible rfl))))
        (with_reducible refine qa1 (v := ?_) rfl (by with_unfolding_all rfl) (fun ρ hρ W hW => ?_) ?_); (rotate_left 1)
        focus (clear hW; have p122 := hρ (.tmp 122); (simp (disch := (first | decide | ((try simp only [qa2]); rw [hsz]; decide))) only [ev_eq, ev_ne, a7, a13, a3] at p122); have hc : ∀ c, ρ (.const c) = c := (fun c => hρ (.const c)); have hfn : ∀ f, ρ (.func f) = .func (.func f) #[] #[] := (fun f => hρ (.func f)); clear hρ; go_simp; (all_goals (first | (with_reducible rfl) | (constructor <;> with_reducible rfl))))
        (with_reducible refine qa1 (v := ?_) rfl (by with_unfolding_all rfl) (fun ρ hρ W hW => ?_) ?_); (rotate_left 1)
        focus (have hS := KS.out _ hW; clear hW; have p123 := hρ (.tmp 123); (simp (disch := (first | decide | ((try simp only [qa2]); rw [hsz]; decide))) only [ev_eq, ev_ne, a7, a13, a3] at p123); have hc : ∀ c, ρ (.const c) = c := (fun c => hρ (.const c)); have hfn : ∀ f, ρ (.func f) = .func (.func f) #[] #[] := (fun f => hρ (.func f)); clear hρ; go_simp; (all_goals (first | (with_reducible rfl) | (constructor <;> with_reducible rfl))))
        (with_reducible refine qa1 (v := ?_) rfl (by with_unfolding_all rfl) (fun ρ hρ W hW => ?_) ?_); (rotate_left 1)
        focus (clear hW; have p119 := hρ (.tmp 119); (simp (disch := (first | decide | ((try simp only [qa2]); rw [hsz]; decide))) only [ev_eq, ev_ne, a7, a13, a3] at p119); have p124 := hρ (.tmp 124); (simp (disch := (first | decide | ((try simp only [qa2]); rw [hsz]; decide))) only [ev_eq, ev_ne, a7, a13, a3] at p124); have hc : ∀ c, ρ (.const c) = c := (fun c => hρ (.const c)); have hfn : ∀ f, ρ (.func f) = .func (.func f) #[] #[] := (fun f => hρ (.func f)); clear hρ; go_simp; (all_goals (first | (with_reducible rfl) | (constructor <;> with_reducible rfl))))
        (with_reducible refine qa1 (v := ?_) rfl (by with_unfolding_all rfl) (fun ρ hρ W hW => ?_) ?_); (rotate_left 1)
        focus (have hS := KS.out _ hW; clear hW; have p125 := hρ (.tmp 125); (simp (disch := (first | decide | ((try simp only [qa2]); rw [hsz]; decide))) only [ev_eq, ev_ne, a7, a13, a3] at p125); have hc : ∀ c, ρ (.const c) = c := (fun c => hρ (.const c)); have hfn : ∀ f, ρ (.func f) = .func (.func f) #[] #[] := (fun f => hρ (.func f)); clear hρ; go_simp; (all_goals (first | (with_reducible rfl) | (constructor <;> with_reducible rfl))))
        (with_reducible refine qb2 (v := ?_) (w' := ?_) rfl (by with_unfolding_all rfl) (fun ρ hρ => ?_) ?_ ?_ ?_); (rotate_left 2)
        focus (have hc : ∀ c, ρ (.const c) = c := (fun c => hρ (.const c)); have hfn : ∀ f, ρ (.func f) = .func (.func f) #[] #[] := (fun f => hρ (.func f)); clear hρ; go_simp; (all_goals (first | (with_reducible rfl) | (constructor <;> with_reducible rfl))))
        focus exact (T.out.addbox #[.string ⟨#[]⟩, .slice none 0 0, .int .i64 0] 52).dropbox0
        have T := Lib.hid (T.out.addbox #[.string ⟨#[]⟩, .slice none 0 0, .int .i64 0] 52)
        obtain ⟨gb, hgb⟩ : ∃ g, g = wd.heap.size := ⟨_, rfl⟩
        rw [← hgb] at T
        rw [← hgb]
        generalize hA : World.alloc wd _ = wa at T ⊢
        clear hA hgb
        rotate_left 1
        focus exact qak
        (with_reducible refine qan ?_)
        (simp only [List.drop_succ_cons, List.drop_zero])
        subst ha
        (simp only [qaz, set_s, set_z])
        have HBX := Lib.hid (T.out.box 0 rfl)
        refine qa6 rfl 52 _ _ rfl gb #[.string (S g.name), .slice gq g.ops.length gc, .int .i64 g.uns] #[.string ⟨#[]⟩, .slice none 0 0, .int .i64 0] 52 (by with_unfolding_all rfl) (by with_unfolding_all rfl) HBX.out (show (Tryz.prog.info? 52).map (·.size) = some 3 by kernel_rfl) rfl (by simp [Value.oneCell']) ?_
        have T := Lib.hid (T.out.setrowbox 0 rfl #[.string (S g.name), .slice gq g.ops.length gc, .int .i64 g.uns])
        generalize hA : World.setRow wa _ _ = wz at T ⊢
        clear hA HBX
        go_wp2
        go_meet
        exact ⟨_, rfl, T⟩
      case rest => as_aux_lemma =>
        obtain ⟨gb, h14, T⟩ := hcut
        subst h14
        clear GP
        go_upto_region 14 with (fail)
        go_cut [15] (fun s15 wx => ∃ hb, s15 = .pointer (some ⟨hb, 0, none⟩) ∧ Hid (ST w2 [] [⟨hb, #[.string (S h.name), .slice hq h.ops.length hc, .int .i64 h.uns], 52⟩, ⟨gb, #[.string (S g.name), .slice gq g.ops.length gc, .int .i64 g.uns], 52⟩] wx))
        case first => as_aux_lemma =>
          obtain ⟨wd, hwd⟩ : ∃ x, x = wc.drew := ⟨_, rfl⟩
          have T := Lib.hid (show ST w2 [] [⟨gb, #[.string (S g.name), .slice gq g.ops.length gc, .int .i64 g.uns], 52⟩] wd by rw [hwd]; exact T.out.belw (Bel.refl _).drew)
          have HWD := Lib.hid hwd
          clear hwd
          clear EI HRES EA HLS VH EJ HLK EK VG CA
          have KS := Lib.hid (fun WW (hh : ST w2 [] [⟨gb, #[.string (S g.name), .slice gq g.ops.length gc, .int .i64 g.uns], 52⟩] WW) => show (WW.cell? ⟨lb, loff + n * 4, none⟩ = some (.int .i64 (wn : Int)) ∧ WW.cell? ⟨lb, loff + n * 4 + 1, none⟩ = some (.int .i64 (rn : Int)) ∧ WW.cell? ⟨lb, loff + n * 4 + 2, none⟩ = some (.slice aq x.acts.length ac) ∧ WW.cell? ⟨lb, loff + n * 4 + 3, none⟩ = some (.slice lq x.lacks.length lc)) ∧ (WW.cell? ⟨W.heap.size, 0, none⟩ = some (.slice (some ⟨pb, poff, none⟩) p.progs.length c1) ∧ WW.cell? ⟨W.heap.size + 1, 0, none⟩ = some (.slice (some ⟨qb, qoff, none⟩) q.progs.length c3)) ∧ WW.cell? ⟨qb, qoff + rn * 3, none⟩ = some (.string (S h.name)) ∧ WW.cell? ⟨qb, qoff + rn * 3 + 1, none⟩ = some (.slice hq h.ops.length hc) ∧ WW.cell? ⟨qb, qoff + rn * 3 + 2, none⟩ = some (.int .i64 h.uns) from ⟨LC.out _ hh.bel, PC.out _ hh.bel, HP2.out _ hh.bel⟩)
          refine qag (fun WW => ST w2 [] [⟨gb, #[.string (S g.name), .slice gq g.ops.length gc, .int .i64 g.uns], 52⟩] WW) (.take 0 (.take 1 (.take 2 (.take 3 (.take 4 (.take 5 (.take 6 (.take 7 (.take 8 (.alt 9 .done .no)))))))))) 10 (by kernel_rfl) (by kernel_rfl) HWD.out T.out (fun a ha => ?_)
          (simp only [pickT, List.getD_cons_zero, List.getD_cons_succ])
          have hsz : a.tmps.size = 339 := (by rw [ha]; kernel_rfl)
          have a7 : a.eval (.tmp 7) = .slice (some ⟨lb, loff, none⟩) l.length vc := (by rw [ha]; kernel_rfl)
          have a13 : a.eval (.tmp 13) = .int .i64 n := (by rw [ha]; kernel_rfl)
          have a4 : a.eval (.tmp 4) = .pointer (some ⟨W.heap.size + 1, 0, none⟩) := (by rw [ha]; kernel_rfl)
          (with_reducible refine qa1 (v := ?_) rfl (by with_unfolding_all rfl) (fun ρ hρ W hW => ?_) ?_); (rotate_left 1)
          focus (clear hW; have p4 := hρ (.tmp 4); (simp (disch := (first | decide | ((try simp only [qa2]); rw [hsz]; decide))) only [ev_eq, ev_ne, a7, a13, a4] at p4); have hc : ∀ c, ρ (.const c) = c := (fun c => hρ (.const c)); have hfn : ∀ f, ρ (.func f) = .func (.func f) #[] #[] := (fun f => hρ (.func f)); clear hρ; go_simp; (all_goals (first | (with_reducible rfl) | (constructor <;> with_reducible rfl))))
          (with_reducible refine qa1 (v := ?_) rfl (by with_unfolding_all rfl) (fun ρ hρ W hW => ?_) ?_); (rotate_left 1)
          focus (have hS := KS.out _ hW; clear hW; have p127 := hρ (.tmp 127); (simp (disch := (first | decide | ((try simp only [qa2]); rw [hsz]; decide))) only [ev_eq, ev_ne, a7, a13, a4] at p127); have hc : ∀ c, ρ (.const c) = c := (fun c => hρ (.const c)); have hfn : ∀ f, ρ (.func f) = .func (.func f) #[] #[] := (fun f => hρ (.func f)); clear hρ; go_simp; (all_goals (first | (with_reducible rfl) | (constructor <;> with_reducible rfl))))
          (with_reducible refine qa1 (v := ?_) rfl (by with_unfolding_all rfl) (fun ρ hρ W hW => ?_) ?_); (rotate_left 1)
          focus (clear hW; have p7 := hρ (.tmp 7); (simp (disch := (first | decide | ((try simp only [qa2]); rw [hsz]; decide))) only [ev_eq, ev_ne, a7, a13, a4] at p7); have hc : ∀ c, ρ (.const c) = c := (fun c => hρ (.const c)); have hfn : ∀ f, ρ (.func f) = .func (.func f) #[] #[] := (fun f => hρ (.func f)); clear hρ; go_simp; (all_goals (first | (with_reducible rfl) | (constructor <;> with_reducible rfl))))
          (with_reducible refine qa1 (v := ?_) rfl (by with_unfolding_all rfl) (fun ρ hρ W hW => ?_) ?_); (rotate_left 1)
          focus (clear hW; have p13 := hρ (.tmp 13); (simp (disch := (first | decide | ((try simp only [qa2]); rw [hsz]; decide))) only [ev_eq, ev_ne, a7, a13, a4] at p13); have hc : ∀ c, ρ (.const c) = c := (fun c => hρ (.const c)); have hfn : ∀ f, ρ (.func f) = .func (.func f) #[] #[] := (fun f => hρ (.func f)); clear hρ; go_simp; (all_goals (first | (with_reducible rfl) | (constructor <;> with_reducible rfl))))
          (with_reducible refine qa1 (v := ?_) rfl (by with_unfolding_all rfl) (fun ρ hρ W hW => ?_) ?_); (rotate_left 1)
          focus (clear hW; have p129 := hρ (.tmp 129); (simp (disch := (first | decide | ((try simp only [qa2]); rw [hsz]; decide))) only [ev_eq, ev_ne, a7, a13, a4] at p129); have p130 := hρ (.tmp 130); (simp (disch := (first | decide | ((try simp only [qa2]); rw [hsz]; decide))) only [ev_eq, ev_ne, a7, a13, a4] at p130); have hc : ∀ c, ρ (.const c) = c := (fun c => hρ (.const c)); have hfn : ∀ f, ρ (.func f) = .func (.func f) #[] #[] := (fun f => hρ (.func f)); clear hρ; go_simp; (all_goals (first | (with_reducible rfl) | (constructor <;> with_reducible rfl))))
          (with_reducible refine qa1 (v := ?_) rfl (by with_unfolding_all rfl) (fun ρ hρ W hW => ?_) ?_); (rotate_left 1)
          focus (clear hW; have p131 := hρ (.tmp 131); (simp (disch := (first | decide | ((try simp only [qa2]); rw [hsz]; decide))) only [ev_eq, ev_ne, a7, a13, a4] at p131); have hc : ∀ c, ρ (.const c) = c := (fun c => hρ (.const c)); have hfn : ∀ f, ρ (.func f) = .func (.func f) #[] #[] := (fun f => hρ (.func f)); clear hρ; go_simp; (all_goals (first | (with_reducible rfl) | (constructor <;> with_reducible rfl))))
          (with_reducible refine qa1 (v := ?_) rfl (by with_unfolding_all rfl) (fun ρ hρ W hW => ?_) ?_); (rotate_left 1)
          focus (have hS := KS.out _ hW; clear hW; have p132 := hρ (.tmp 132); (simp (disch := (first | decide | ((try simp only [qa2]); rw [hsz]; decide))) only [ev_eq, ev_ne, a7, a13, a4] at p132); have hc : ∀ c, ρ (.const c) = c := (fun c => hρ (.const c)); have hfn : ∀ f, ρ (.func f) = .func (.func f) #[] #[] := (fun f => hρ (.func f)); clear hρ; go_simp; (all_goals (first | (with_reducible rfl) | (constructor <;> with_reducible rfl))))
          (with_reducible refine qa1 (v := ?_) rfl (by with_unfolding_all rfl) (fun ρ hρ W hW => ?_) ?_); (rotate_left 1)
          focus (clear hW; have p128 := hρ (.tmp 128); (simp (disch := (first | decide | ((try simp only [qa2]); rw [hsz]; decide))) only [ev_eq, ev_ne, a7, a13, a4] at p128); have p133 := hρ (.tmp 133); (simp (disch := (first | decide | ((try simp only [qa2]); rw [hsz]; decide))) only [ev_eq, ev_ne, a7, a13, a4] at p133); have hc : ∀ c, ρ (.const c) = c := (fun c => hρ (.const c)); have hfn : ∀ f, ρ (.func f) = .func (.func f) #[] #[] := (fun f => hρ (.func f)); clear hρ; go_simp; (all_goals (first | (with_reducible rfl) | (constructor <;> with_reducible rfl))))
          (with_reducible refine qa1 (v := ?_) rfl (by with_unfolding_all rfl) (fun ρ hρ W hW => ?_) ?_); (rotate_left 1)
          focus (have hS := KS.out _ hW; clear hW; have p134 := hρ (.tmp 134); (simp (disch := (first | decide | ((try simp only [qa2]); rw [hsz]; decide))) only [ev_eq, ev_ne, a7, a13, a4] at p134); have hc : ∀ c, ρ (.const c) = c := (fun c => hρ (.const c)); have hfn : ∀ f, ρ (.func f) = .func (.func f) #[] #[] := (fun f => hρ (.func f)); clear hρ; go_simp; (all_goals (first | (with_reducible rfl) | (constructor <;> with_reducible rfl))))
          (with_reducible refine qb2 (v := ?_) (w' := ?_) rfl (by with_unfolding_all rfl) (fun ρ hρ => ?_) ?_ ?_ ?_); (rotate_left 2)
          focus (have hc : ∀ c, ρ (.const c) = c := (fun c => hρ (.const c)); have hfn : ∀ f, ρ (.func f) = .func (.func f) #[] #[] := (fun f => hρ (.func f)); clear hρ; go_simp; (all_goals (first | (with_reducible rfl) | (constructor <;> with_reducible rfl))))
          focus exact (T.out.addbox #[.string ⟨#[]⟩, .slice none 0 0, .int .i64 0] 52).dropbox0
          have T := Lib.hid (T.out.addbox #[.string ⟨#[]⟩, .slice none 0 0, .int .i64 0] 52)
          obtain ⟨hb, hgb⟩ : ∃ g, g = wd.heap.size := ⟨_, rfl⟩
          rw [← hgb] at T
          rw [← hgb]
          generalize hA : World.alloc wd _ = wa at T ⊢
          clear hA hgb
          rotate_left 1
          focus exact qak
          (with_reducible refine qan ?_)
          (simp only [List.drop_succ_cons, List.drop_zero])
          subst ha
          (simp only [qaz, set_s, set_z])
          have HBX := Lib.hid (T.out.box 0 rfl)
          refine qa6 rfl 52 _ _ rfl hb #[.string (S h.name), .slice hq h.ops.length hc, .int .i64 h.uns] #[.string ⟨#[]⟩, .slice none 0 0, .int .i64 0] 52 (by with_unfolding_all rfl) (by with_unfolding_all rfl) HBX.out (show (Tryz.prog.info? 52).map (·.size) = some 3 by kernel_rfl) rfl (by simp [Value.oneCell']) ?_
          have T := Lib.hid (T.out.setrowbox 0 rfl #[.string (S h.name), .slice hq h.ops.length hc, .int .i64 h.uns])
          generalize hA : World.setRow wa _ _ = wz at T ⊢
          clear hA HBX
          go_wp2
          go_meet
          exact ⟨_, rfl, T⟩
        case rest => as_aux_lemma =>
          obtain ⟨hb, h15, T⟩ := hcut
          subst h15
          clear HP2 PC
          go_upto_region 15 with (fail)
          obtain ⟨wd, hwd⟩ : ∃ x, x = wc.drew := ⟨_, rfl⟩
          have T := Lib.hid (show ST w2 [] [⟨hb, #[.string (S h.name), .slice hq h.ops.length hc, .int .i64 h.uns], 52⟩, ⟨gb, #[.string (S g.name), .slice gq g.ops.length gc, .int .i64 g.uns], 52⟩] wd by rw [hwd]; exact T.out.belw (Bel.refl _).drew)
          have HWD := Lib.hid hwd
          clear hwd
          obtain ⟨m0, m1, m2, m3⟩ := LC.out _ T.out.bel
          have f0 := T.out.cell 1 rfl 1
          dsimp only at f0
          refine qa8 9 (by kernel_rfl) (by kernel_rfl) HWD.out ?_
          (simp only [List.take_succ_cons, List.take_zero, List.drop_succ_cons, List.drop_zero]); (repeat (first | ((with_reducible refine wpStill_step (fun K hK => ?_)); go_simp; (with_reducible refine hK _ ?_); clear hK K) | ((with_reducible refine qab ?_ ?_); (with_unfolding_all rfl); (simp only [Act.put, List.setIfInBounds_toArray, List.set_cons_zero, List.set_cons_succ])))); (with_reducible refine wpStill_nil ?_)
          go_upto_region 18 with (fail)
          clear m0 m1 m2 m3 f0 HWD
          go_loopw [16] (fun ii wr => ∃ i : Nat, i ≤ g.ops.length ∧ ii = .int .i64 i ∧ Hid (ST w2 [] [⟨hb, #[.string (S h.name), .slice hq h.ops.length hc, .int .i64 h.uns], 52⟩, ⟨gb, #[.string (S g.name), .slice gq g.ops.length gc, .int .i64 g.uns], 52⟩] wr)) (fun ii _ => g.ops.length - (intOf ii).toNat)
          case atStart => exact ⟨0, by omega, rfl, T⟩
          case round => as_aux_lemma =>
            clear T
            obtain ⟨i, hi, rfl, hS⟩ := hrel
            have f0 := hS.out.cell 1 rfl 1
            dsimp only at f0
            by_cases hlt2 : i < g.ops.length
            · skip
              clear EJ HLK EK VG EG EQ EL
              have hki : (i : Int) < (g.ops.length : Int) := by omega
              have hi0 : (0 : Int) ≤ (i : Int) := by omega
              have hgo : g.ops[i]? = some g.ops[i] := List.getElem?_eq_getElem hlt2
              obtain ⟨gb3, off3, hq3, hbs3, vs3, hce3, hvs3⟩ := EI.out i _ hgo
              subst hq3
              obtain ⟨c, hca, hok⟩ := HRES.out i _ hgo
              obtain ⟨cb, coff, hq4, hbs4, vs4, hce4, hvs4⟩ := EA.out i c hca
              subst hq4
              clear EI HRES EA
              generalize g.ops[i] = o at *
              obtain rfl : vs3 = opC o := hvs3
              obtain rfl : vs4 = actC c := hvs4
              have al : (x.acts.length : Int) = (g.ops.length : Int) := by omega
              have hki2 : (i : Int) < (x.acts.length : Int) := by omega
              have OC := Lib.hid (show w2.cell? ⟨gb3, off3 + i * 8, none⟩ = some (.int .i64 o.num) ∧ w2.cell? ⟨gb3, off3 + i * 8 + 5, none⟩ = some (.int .i64 o.kind) ∧ w2.cell? ⟨gb3, off3 + i * 8 + 6, none⟩ = some (.int .i64 o.tgt) from ⟨by have := K2W.out.some (hce3 0 _ rfl); rwa [Nat.add_zero] at this, K2W.out.some (hce3 5 _ rfl), K2W.out.some (hce3 6 _ rfl)⟩)
              have a0 := hS.out.bel.some (hce4 0 _ rfl)
              rw [Nat.add_zero] at a0
              have a1 := hS.out.bel.some (hce4 1 _ rfl)
              have a2 := hS.out.bel.some (hce4 2 _ rfl)
              have HX := Lib.hid (hS.out.addbox #[.int .i64 c.num, .int .i64 c.kind, .int .i64 c.sub] 38)
              obtain ⟨m0, m1, m2, m3⟩ := LC.out _ hS.out.bel
              have CO := (fun WW (k : Bel w2 WW) => rf_Op h _ o.num WW (VProg.stays _ _ _ _ k VH.out))
              unfold OpOut at CO
              clear hce3 hbs3 hce4 hbs4 hca hgo al
              go_upto_region 21 with (fail)
              generalize wr.heap.size = ab at HX ⊢
              generalize World.alloc wr _ = wb at HX ⊢
              clear a0 a1 a2 m0 m1 m2 m3 f0 hS
              generalize hr : opOf h o.num = r at CO
              obtain ⟨vo, hvo⟩ : ∃ vo, vo = opV r := ⟨_, rfl⟩
              have Z0 : vo.toArray.size = 8 := by rw [hvo, List.size_toArray]; exact qhg r
              have Z1 := Lib.hid (show (Tryz.prog.info? 54).map (·.size) = some vo.toArray.size by rw [Z0]; exact qg3)
              have Z2 := Lib.hid (show (#[.int .i64 0, .string ⟨#[]⟩, .string ⟨#[]⟩, .int .i64 0, .int .i64 0, .int .i64 0, .int .i64 0, .int .i64 0] : Array Value).size = vo.toArray.size by rw [Z0]; rfl)
              have HO := Lib.hid (show vo.toArray.all (·.oneCell') = true by rw [hvo]; exact qd2 r)
              rw [← hvo] at CO
              have CO := Lib.hid CO
              have HVO := Lib.hid hvo
              have HOK := Lib.hid hok
              have HR := Lib.hid hr
              clear Z0 hvo hok hr
              go_cut [18, 19] (fun s18 s19 wx => ∃ rb, s18 = .pointer (some ⟨rb, 0, none⟩) ∧ s19 = .bool (opB r) ∧ Hid (ST w2 [] [⟨rb, vo.toArray, 54⟩, ⟨ab, #[.int .i64 c.num, .int .i64 c.kind, .int .i64 c.sub], 38⟩, ⟨hb, #[.string (S h.name), .slice hq h.ops.length hc, .int .i64 h.uns], 52⟩, ⟨gb, #[.string (S g.name), .slice (some ⟨gb3, off3, none⟩) g.ops.length gc, .int .i64 g.uns], 52⟩] wx))
              case first => as_aux_lemma =>
                obtain ⟨wd, hwd⟩ : ∃ wd, wd = wb.drew := ⟨_, rfl⟩
                have T := Lib.hid (show ST w2 [] [⟨ab, #[.int .i64 c.num, .int .i64 c.kind, .int .i64 c.sub], 38⟩, ⟨hb, #[.string (S h.name), .slice hq h.ops.length hc, .int .i64 h.uns], 52⟩, ⟨gb, #[.string (S g.name), .slice (some ⟨gb3, off3, none⟩) g.ops.length gc, .int .i64 g.uns], 52⟩] wd by rw [hwd]; exact HX.out.belw (Bel.refl _).drew)
                have HWD := Lib.hid hwd
                clear hwd HX HVO HOK HR HLS LC CA
                generalize opB r = ok at *
                have KS := Lib.hid (fun WW (hh : ST w2 [] [⟨ab, #[.int .i64 c.num, .int .i64 c.kind, .int .i64 c.sub], 38⟩, ⟨hb, #[.string (S h.name), .slice hq h.ops.length hc, .int .i64 h.uns], 52⟩, ⟨gb, #[.string (S g.name), .slice (some ⟨gb3, off3, none⟩) g.ops.length gc, .int .i64 g.uns], 52⟩] WW) => show WW.cell? ⟨hb, 0, none⟩ = some (.string (S h.name)) ∧ WW.cell? ⟨hb, 1, none⟩ = some (.slice hq h.ops.length hc) ∧ WW.cell? ⟨hb, 2, none⟩ = some (.int .i64 h.uns) ∧ WW.cell? ⟨gb, 1, none⟩ = some (.slice (some ⟨gb3, off3, none⟩) g.ops.length gc) ∧ WW.cell? ⟨gb3, off3 + i * 8, none⟩ = some (.int .i64 o.num) from ⟨hh.cell 1 rfl 0, hh.cell 1 rfl 1, hh.cell 1 rfl 2, hh.cell 2 rfl 1, hh.bel.some OC.out.1⟩)
                refine qag (fun WW => ST w2 [] [⟨ab, #[.int .i64 c.num, .int .i64 c.kind, .int .i64 c.sub], 38⟩, ⟨hb, #[.string (S h.name), .slice hq h.ops.length hc, .int .i64 h.uns], 52⟩, ⟨gb, #[.string (S g.name), .slice (some ⟨gb3, off3, none⟩) g.ops.length gc, .int .i64 g.uns], 52⟩] WW) (.take 0 (.take 1 (.take 2 (.take 3 (.take 4 (.take 5 (.take 6 (.alt 7 (.take 8 (.take 9 (.take 10 (.alt 11 (.alt 12 .done .no) .no)))) (.alt 11 (.alt 7 (.take 8 (.take 9 (.take 10 (.alt 12 .done .no)))) .no) .no))))))))) 13 (by kernel_rfl) (by kernel_rfl) HWD.out T.out (fun a ha => ?_)
                (simp only [pickT, List.getD_cons_zero, List.getD_cons_succ])
                have hsz : a.tmps.size = 339 := (by rw [ha]; kernel_rfl)
                have a14 : a.eval (.tmp 14) = .pointer (some ⟨gb, 0, none⟩) := (by rw [ha]; kernel_rfl)
                have a15 : a.eval (.tmp 15) = .pointer (some ⟨hb, 0, none⟩) := (by rw [ha]; kernel_rfl)
                have a16 : a.eval (.tmp 16) = .int .i64 i := (by rw [ha]; kernel_rfl)
                (with_reducible refine qa1 (v := ?_) rfl (by with_unfolding_all rfl) (fun ρ hρ W hW => ?_) ?_); (rotate_left 1)
                focus (have hS := KS.out _ hW; clear hW; have p15 := hρ (.tmp 15); (simp (disch := (first | decide | ((try simp only [qa2]); rw [hsz]; decide))) only [ev_eq, ev_ne, a14, a15, a16] at p15); have hc : ∀ c, ρ (.const c) = c := (fun c => hρ (.const c)); have hfn : ∀ f, ρ (.func f) = .func (.func f) #[] #[] := (fun f => hρ (.func f)); clear hρ; go_simp; (all_goals (first | (with_reducible rfl) | (constructor <;> with_reducible rfl))))
                (with_reducible refine qa1 (v := ?_) rfl (by with_unfolding_all rfl) (fun ρ hρ W hW => ?_) ?_); (rotate_left 1)
                focus (clear hW; have p14 := hρ (.tmp 14); (simp (disch := (first | decide | ((try simp only [qa2]); rw [hsz]; decide))) only [ev_eq, ev_ne, a14, a15, a16] at p14); have hc : ∀ c, ρ (.const c) = c := (fun c => hρ (.const c)); have hfn : ∀ f, ρ (.func f) = .func (.func f) #[] #[] := (fun f => hρ (.func f)); clear hρ; go_simp; (all_goals (first | (with_reducible rfl) | (constructor <;> with_reducible rfl))))
                (with_reducible refine qa1 (v := ?_) rfl (by with_unfolding_all rfl) (fun ρ hρ W hW => ?_) ?_); (rotate_left 1)
                focus (have hS := KS.out _ hW; clear hW; have p163 := hρ (.tmp 163); (simp (disch := (first | decide | ((try simp only [qa2]); rw [hsz]; decide))) only [ev_eq, ev_ne, a14, a15, a16] at p163); have hc : ∀ c, ρ (.const c) = c := (fun c => hρ (.const c)); have hfn : ∀ f, ρ (.func f) = .func (.func f) #[] #[] := (fun f => hρ (.func f)); clear hρ; go_simp; (all_goals (first | (with_reducible rfl) | (constructor <;> with_reducible rfl))))
                (with_reducible refine qa1 (v := ?_) rfl (by with_unfolding_all rfl) (fun ρ hρ W hW => ?_) ?_); (rotate_left 1)
                focus (clear hW; have p16 := hρ (.tmp 16); (simp (disch := (first | decide | ((try simp only [qa2]); rw [hsz]; decide))) only [ev_eq, ev_ne, a14, a15, a16] at p16); have hc : ∀ c, ρ (.const c) = c := (fun c => hρ (.const c)); have hfn : ∀ f, ρ (.func f) = .func (.func f) #[] #[] := (fun f => hρ (.func f)); clear hρ; go_simp; (all_goals (first | (with_reducible rfl) | (constructor <;> with_reducible rfl))))
                (with_reducible refine qa1 (v := ?_) rfl (by with_unfolding_all rfl) (fun ρ hρ W hW => ?_) ?_); (rotate_left 1)
                focus (clear hW; have p164 := hρ (.tmp 164); (simp (disch := (first | decide | ((try simp only [qa2]); rw [hsz]; decide))) only [ev_eq, ev_ne, a14, a15, a16] at p164); have p165 := hρ (.tmp 165); (simp (disch := (first | decide | ((try simp only [qa2]); rw [hsz]; decide))) only [ev_eq, ev_ne, a14, a15, a16] at p165); have hc : ∀ c, ρ (.const c) = c := (fun c => hρ (.const c)); have hfn : ∀ f, ρ (.func f) = .func (.func f) #[] #[] := (fun f => hρ (.func f)); clear hρ; go_simp; (all_goals (first | (with_reducible rfl) | (constructor <;> with_reducible rfl))))
                (with_reducible refine qa1 (v := ?_) rfl (by with_unfolding_all rfl) (fun ρ hρ W hW => ?_) ?_); (rotate_left 1)
                focus (clear hW; have p166 := hρ (.tmp 166); (simp (disch := (first | decide | ((try simp only [qa2]); rw [hsz]; decide))) only [ev_eq, ev_ne, a14, a15, a16] at p166); have hc : ∀ c, ρ (.const c) = c := (fun c => hρ (.const c)); have hfn : ∀ f, ρ (.func f) = .func (.func f) #[] #[] := (fun f => hρ (.func f)); clear hρ; go_simp; (all_goals (first | (with_reducible rfl) | (constructor <;> with_reducible rfl))))
                (with_reducible refine qa1 (v := ?_) rfl (by with_unfolding_all rfl) (fun ρ hρ W hW => ?_) ?_); (rotate_left 1)
                focus (have hS := KS.out _ hW; clear hW; have p167 := hρ (.tmp 167); (simp (disch := (first | decide | ((try simp only [qa2]); rw [hsz]; decide))) only [ev_eq, ev_ne, a14, a15, a16] at p167); have hc : ∀ c, ρ (.const c) = c := (fun c => hρ (.const c)); have hfn : ∀ f, ρ (.func f) = .func (.func f) #[] #[] := (fun f => hρ (.func f)); clear hρ; go_simp; (all_goals (first | (with_reducible rfl) | (constructor <;> with_reducible rfl))))
                (with_reducible refine qbe (f := ?_) (args := ?_) rfl (by with_unfolding_all rfl) (fun ρ hρ => ?_) ?_ ?_); (rotate_left 2)
                focus (have p162 := hρ (.tmp 162); (simp (disch := (first | decide | ((try simp only [qa2]); rw [hsz]; decide))) only [ev_eq, ev_ne, a14, a15, a16] at p162); have p168 := hρ (.tmp 168); (simp (disch := (first | decide | ((try simp only [qa2]); rw [hsz]; decide))) only [ev_eq, ev_ne, a14, a15, a16] at p168); have hc : ∀ c, ρ (.const c) = c := (fun c => hρ (.const c)); have hfn : ∀ f, ρ (.func f) = .func (.func f) #[] #[] := (fun f => hρ (.func f)); clear hρ; rw [qad (hfn _)]; clear hfn; go_simp; (all_goals (first | (with_reducible rfl) | (constructor <;> with_reducible rfl))))
                (with_reducible refine (CO.out _ T.out.bel).mono ?_)
                rintro e w_7 ⟨rfl, g⟩
                have g : Bel wd w_7 := g
                have T := Lib.hid (T.out.belw g)
                clear g
                refine ⟨_, rfl, T.out, ?_⟩
                · (with_reducible refine qa1 (v := ?_) rfl (by with_unfolding_all rfl) (fun ρ hρ W hW => ?_) ?_); (rotate_left 1)
                  focus (clear hW; have p169 := hρ (.tmp 169); (simp (disch := (first | decide | ((try simp only [qa2]); rw [hsz]; decide))) only [ev_eq, ev_ne, a14, a15, a16] at p169); have hc : ∀ c, ρ (.const c) = c := (fun c => hρ (.const c)); have hfn : ∀ f, ρ (.func f) = .func (.func f) #[] #[] := (fun f => hρ (.func f)); clear hρ; go_simp; (all_goals (first | (with_reducible rfl) | (constructor <;> with_reducible rfl))))
                  (with_reducible refine qa1 (v := ?_) rfl (by with_unfolding_all rfl) (fun ρ hρ W hW => ?_) ?_); (rotate_left 1)
                  focus (clear hW; have p161 := hρ (.tmp 161); (simp (disch := (first | decide | ((try simp only [qa2]); rw [hsz]; decide))) only [ev_eq, ev_ne, a14, a15, a16] at p161); have hc : ∀ c, ρ (.const c) = c := (fun c => hρ (.const c)); have hfn : ∀ f, ρ (.func f) = .func (.func f) #[] #[] := (fun f => hρ (.func f)); clear hρ; go_simp; (all_goals (first | (with_reducible rfl) | (constructor <;> with_reducible rfl))))
                  (with_reducible refine qa1 (v := ?_) rfl (by with_unfolding_all rfl) (fun ρ hρ W hW => ?_) ?_); (rotate_left 1)
                  focus (clear hW; have p161 := hρ (.tmp 161); (simp (disch := (first | decide | ((try simp only [qa2]); rw [hsz]; decide))) only [ev_eq, ev_ne, a14, a15, a16] at p161); have hc : ∀ c, ρ (.const c) = c := (fun c => hρ (.const c)); have hfn : ∀ f, ρ (.func f) = .func (.func f) #[] #[] := (fun f => hρ (.func f)); clear hρ; go_simp; (all_goals (first | (with_reducible rfl) | (constructor <;> with_reducible rfl))))
                  (with_reducible refine qb2 (v := ?_) (w' := ?_) rfl (by with_unfolding_all rfl) (fun ρ hρ => ?_) ?_ ?_ ?_); (rotate_left 2)
                  focus (have hc : ∀ c, ρ (.const c) = c := (fun c => hρ (.const c)); have hfn : ∀ f, ρ (.func f) = .func (.func f) #[] #[] := (fun f => hρ (.func f)); clear hρ; go_simp; (all_goals (first | (with_reducible rfl) | (constructor <;> with_reducible rfl))))
                  focus exact (T.out.addbox #[.int .i64 0, .string ⟨#[]⟩, .string ⟨#[]⟩, .int .i64 0, .int .i64 0, .int .i64 0, .int .i64 0, .int .i64 0] 54).dropbox0
                  have T := Lib.hid (T.out.addbox #[.int .i64 0, .string ⟨#[]⟩, .string ⟨#[]⟩, .int .i64 0, .int .i64 0, .int .i64 0, .int .i64 0, .int .i64 0] 54)
                  generalize hA : World.alloc w_7 _ = w_11 at T ⊢
                  clear hA
                  rotate_left 1
                  focus exact qak
                  (refine qb1 rfl 54 (.tmp 18) (.tmp 170) (by with_unfolding_all rfl) _ vo.toArray #[.int .i64 0, .string ⟨#[]⟩, .string ⟨#[]⟩, .int .i64 0, .int .i64 0, .int .i64 0, .int .i64 0, .int .i64 0] 54 ?_ ?_ (T.out.box 0 rfl) Z1.out Z2.out HO.out ?_ ?_ ?_)
                  focus (simp (disch := (first | decide | ((try simp only [qa2]); rw [hsz]; decide))) only [ev_eq, ev_ne, a14, a15, a16])
                  focus (simp (disch := (first | decide | ((try simp only [qa2]); rw [hsz]; decide))) only [ev_eq, ev_ne, a14, a15, a16])
                  focus exact (T.out.setrowbox 0 rfl vo.toArray).dropbox0
                  have T := Lib.hid (T.out.setrowbox 0 rfl vo.toArray)
                  generalize hA : World.setRow w_11 _ _ = w_12 at T ⊢
                  clear hA
                  rotate_left 1
                  focus exact qak
                  (with_reducible refine qan ?_)
                  (simp only [List.drop_succ_cons, List.drop_zero])
                  subst ha
                  (simp only [qaz, set_s, set_z])
                  go_wp2
                  go_meet
                  exact ⟨_, rfl, rfl, T⟩
                (with_reducible refine qb2 (v := ?_) (w' := ?_) rfl (by with_unfolding_all rfl) (fun ρ hρ => ?_) ?_ ?_ ?_); (rotate_left 2)
                focus (have hc : ∀ c, ρ (.const c) = c := (fun c => hρ (.const c)); have hfn : ∀ f, ρ (.func f) = .func (.func f) #[] #[] := (fun f => hρ (.func f)); clear hρ; go_simp; (all_goals (first | (with_reducible rfl) | (constructor <;> with_reducible rfl))))
                focus exact (T.out.addbox #[.int .i64 0, .string ⟨#[]⟩, .string ⟨#[]⟩, .int .i64 0, .int .i64 0, .int .i64 0, .int .i64 0, .int .i64 0] 54).dropbox0
                have T := Lib.hid (T.out.addbox #[.int .i64 0, .string ⟨#[]⟩, .string ⟨#[]⟩, .int .i64 0, .int .i64 0, .int .i64 0, .int .i64 0, .int .i64 0] 54)
                generalize hA : World.alloc wd _ = w_11 at T ⊢
                clear hA
                rotate_left 1
                focus exact qak
                (with_reducible refine qbe (f := ?_) (args := ?_) rfl (by with_unfolding_all rfl) (fun ρ hρ => ?_) ?_ ?_); (rotate_left 2)
                focus (have p162 := hρ (.tmp 162); (simp (disch := (first | decide | ((try simp only [qa2]); rw [hsz]; decide))) only [ev_eq, ev_ne, a14, a15, a16] at p162); have p168 := hρ (.tmp 168); (simp (disch := (first | decide | ((try simp only [qa2]); rw [hsz]; decide))) only [ev_eq, ev_ne, a14, a15, a16] at p168); have hc : ∀ c, ρ (.const c) = c := (fun c => hρ (.const c)); have hfn : ∀ f, ρ (.func f) = .func (.func f) #[] #[] := (fun f => hρ (.func f)); clear hρ; rw [qad (hfn _)]; clear hfn; go_simp; (all_goals (first | (with_reducible rfl) | (constructor <;> with_reducible rfl))))
                (with_reducible refine (CO.out _ T.out.bel).mono ?_)
                rintro e w_7 ⟨rfl, g⟩
                have g : Bel w_11 w_7 := g
                have T := Lib.hid (T.out.belw g)
                clear g
                refine ⟨_, rfl, T.out.dropbox0, ?_⟩
                rotate_left 1
                focus exact qak
                (with_reducible refine qa1 (v := ?_) rfl (by with_unfolding_all rfl) (fun ρ hρ W hW => ?_) ?_); (rotate_left 1)
                focus (clear hW; have p169 := hρ (.tmp 169); (simp (disch := (first | decide | ((try simp only [qa2]); rw [hsz]; decide))) only [ev_eq, ev_ne, a14, a15, a16] at p169); have hc : ∀ c, ρ (.const c) = c := (fun c => hρ (.const c)); have hfn : ∀ f, ρ (.func f) = .func (.func f) #[] #[] := (fun f => hρ (.func f)); clear hρ; go_simp; (all_goals (first | (with_reducible rfl) | (constructor <;> with_reducible rfl))))
                (with_reducible refine qa1 (v := ?_) rfl (by with_unfolding_all rfl) (fun ρ hρ W hW => ?_) ?_); (rotate_left 1)
                focus (clear hW; have p161 := hρ (.tmp 161); (simp (disch := (first | decide | ((try simp only [qa2]); rw [hsz]; decide))) only [ev_eq, ev_ne, a14, a15, a16] at p161); have hc : ∀ c, ρ (.const c) = c := (fun c => hρ (.const c)); have hfn : ∀ f, ρ (.func f) = .func (.func f) #[] #[] := (fun f => hρ (.func f)); clear hρ; go_simp; (all_goals (first | (with_reducible rfl) | (constructor <;> with_reducible rfl))))
                (with_reducible refine qa1 (v := ?_) rfl (by with_unfolding_all rfl) (fun ρ hρ W hW => ?_) ?_); (rotate_left 1)
                focus (clear hW; have p161 := hρ (.tmp 161); (simp (disch := (first | decide | ((try simp only [qa2]); rw [hsz]; decide))) only [ev_eq, ev_ne, a14, a15, a16] at p161); have hc : ∀ c, ρ (.const c) = c := (fun c => hρ (.const c)); have hfn : ∀ f, ρ (.func f) = .func (.func f) #[] #[] := (fun f => hρ (.func f)); clear hρ; go_simp; (all_goals (first | (with_reducible rfl) | (constructor <;> with_reducible rfl))))
                (refine qb1 rfl 54 (.tmp 18) (.tmp 170) (by with_unfolding_all rfl) _ vo.toArray #[.int .i64 0, .string ⟨#[]⟩, .string ⟨#[]⟩, .int .i64 0, .int .i64 0, .int .i64 0, .int .i64 0, .int .i64 0] 54 ?_ ?_ (T.out.box 0 rfl) Z1.out Z2.out HO.out ?_ ?_ ?_)
                focus (simp (disch := (first | decide | ((try simp only [qa2]); rw [hsz]; decide))) only [ev_eq, ev_ne, a14, a15, a16])
                focus (simp (disch := (first | decide | ((try simp only [qa2]); rw [hsz]; decide))) only [ev_eq, ev_ne, a14, a15, a16])
                focus exact (T.out.setrowbox 0 rfl vo.toArray).dropbox0
                have T := Lib.hid (T.out.setrowbox 0 rfl vo.toArray)
                generalize hA : World.setRow w_7 _ _ = w_12 at T ⊢
                clear hA
                rotate_left 1
                focus exact qak
                (with_reducible refine qan ?_)
                (simp only [List.drop_succ_cons, List.drop_zero])
                subst ha
                (simp only [qaz, set_s, set_z])
                go_wp2
                go_meet
                exact ⟨_, rfl, rfl, T⟩
              case rest => as_aux_lemma =>
                obtain ⟨rb, h18, h19, T⟩ := hcut
                subst h18 h19
                clear Z1 Z2 HO CO HX CA LC
                have hok := HOK.out
                have hr := HR.out
                clear HOK HR
                have n0 : (c.num != o.num) = false := by rw [hok.num]; simp
                obtain ⟨hob, k2, k3, s2, s3, hsub⟩ := comp_act hok hr (fun s t u hs => HLS.out s t u hs)
                clear HLS hok hr
                go_upto_region 22 with (fail)
                go_cut [209] (fun s209 wx => s209 = .bool false ∧ Hid (ST w2 [] [⟨rb, vo.toArray, 54⟩, ⟨ab, #[.int .i64 c.num, .int .i64 c.kind, .int .i64 c.sub], 38⟩, ⟨hb, #[.string (S h.name), .slice hq h.ops.length hc, .int .i64 h.uns], 52⟩, ⟨gb, #[.string (S g.name), .slice (some ⟨gb3, off3, none⟩) g.ops.length gc, .int .i64 g.uns], 52⟩] wx))
                case first => as_aux_lemma =>
                  obtain ⟨wd, hwd⟩ : ∃ x, x = wc.drew := ⟨_, rfl⟩
                  have T := Lib.hid (show ST w2 [] [⟨rb, vo.toArray, 54⟩, ⟨ab, #[.int .i64 c.num, .int .i64 c.kind, .int .i64 c.sub], 38⟩, ⟨hb, #[.string (S h.name), .slice hq h.ops.length hc, .int .i64 h.uns], 52⟩, ⟨gb, #[.string (S g.name), .slice (some ⟨gb3, off3, none⟩) g.ops.length gc, .int .i64 g.uns], 52⟩] wd by rw [hwd]; exact T.out.belw (Bel.refl _).drew)
                  have HWD := Lib.hid hwd
                  clear hwd
                  have KS := Lib.hid (fun WW (hh : ST w2 [] [⟨rb, vo.toArray, 54⟩, ⟨ab, #[.int .i64 c.num, .int .i64 c.kind, .int .i64 c.sub], 38⟩, ⟨hb, #[.string (S h.name), .slice hq h.ops.length hc, .int .i64 h.uns], 52⟩, ⟨gb, #[.string (S g.name), .slice (some ⟨gb3, off3, none⟩) g.ops.length gc, .int .i64 g.uns], 52⟩] WW) => show WW.cell? ⟨ab, 0, none⟩ = some (.int .i64 c.num) ∧ WW.cell? ⟨ab, 1, none⟩ = some (.int .i64 c.kind) ∧ WW.cell? ⟨ab, 2, none⟩ = some (.int .i64 c.sub) ∧ WW.cell? ⟨gb, 1, none⟩ = some (.slice (some ⟨gb3, off3, none⟩) g.ops.length gc) ∧ WW.cell? ⟨gb3, off3 + i * 8, none⟩ = some (.int .i64 o.num) from ⟨hh.cell 1 rfl 0, hh.cell 1 rfl 1, hh.cell 1 rfl 2, hh.cell 3 rfl 1, hh.bel.some OC.out.1⟩)
                  clear hsub
                  refine qag (fun WW => ST w2 [] [⟨rb, vo.toArray, 54⟩, ⟨ab, #[.int .i64 c.num, .int .i64 c.kind, .int .i64 c.sub], 38⟩, ⟨hb, #[.string (S h.name), .slice hq h.ops.length hc, .int .i64 h.uns], 52⟩, ⟨gb, #[.string (S g.name), .slice (some ⟨gb3, off3, none⟩) g.ops.length gc, .int .i64 g.uns], 52⟩] WW) (.take 0 (.take 1 (.take 2 (.take 3 (.take 4 (.take 5 (.take 6 (.take 7 (.take 8 (.take 9 (.take 10 (.take 11 (.take 12 (.take 13 (.take 14 (.take 15 (.take 16 (.take 17 (.take 18 (.take 19 (.take 20 (.take 21 (.take 22 (.take 23 (.take 24 (.take 25 (.take 26 (.take 27 (.take 28 (.take 29 (.take 30 .done))))))))))))))))))))))))))))))) 31 (by kernel_rfl) (by kernel_rfl) HWD.out T.out (fun a ha => ?_)
                  (simp only [pickT, List.getD_cons_zero, List.getD_cons_succ])
                  have hsz : a.tmps.size = 339 := (by rw [ha]; kernel_rfl)
                  have a17 : a.eval (.tmp 17) = .pointer (some ⟨ab, 0, none⟩) := (by rw [ha]; kernel_rfl)
                  have a14 : a.eval (.tmp 14) = .pointer (some ⟨gb, 0, none⟩) := (by rw [ha]; kernel_rfl)
                  have a16 : a.eval (.tmp 16) = .int .i64 i := (by rw [ha]; kernel_rfl)
                  have a19 : a.eval (.tmp 19) = .bool (opB r) := (by rw [ha]; kernel_rfl)
                  have a7 : a.eval (.tmp 7) = .slice (some ⟨lb, loff, none⟩) l.length vc := (by rw [ha]; kernel_rfl)
                  have hA0 := Lib.hid ha
                  clear ha
                  (with_reducible refine qa1 (v := ?_) rfl (by with_unfolding_all rfl) (fun ρ hρ W hW => ?_) ?_); (rotate_left 1)
                  focus (clear hW; have p17 := hρ (.tmp 17); (simp (disch := (first | decide | ((try simp only [qa2]); rw [hsz]; decide))) only [ev_eq, ev_ne, a17, a14, a16, a19, a7] at p17); have hc : ∀ c, ρ (.const c) = c := (fun c => hρ (.const c)); have hfn : ∀ f, ρ (.func f) = .func (.func f) #[] #[] := (fun f => hρ (.func f)); clear hρ; go_simp; (all_goals (first | (with_reducible rfl) | (constructor <;> with_reducible rfl))))
                  (with_reducible refine qa1 (v := ?_) rfl (by with_unfolding_all rfl) (fun ρ hρ W hW => ?_) ?_); (rotate_left 1)
                  focus (have hS := KS.out _ hW; clear hW; have p172 := hρ (.tmp 172); (simp (disch := (first | decide | ((try simp only [qa2]); rw [hsz]; decide))) only [ev_eq, ev_ne, a17, a14, a16, a19, a7] at p172); have hc : ∀ c, ρ (.const c) = c := (fun c => hρ (.const c)); have hfn : ∀ f, ρ (.func f) = .func (.func f) #[] #[] := (fun f => hρ (.func f)); clear hρ; go_simp; (all_goals (first | (with_reducible rfl) | (constructor <;> with_reducible rfl))))
                  (with_reducible refine qa1 (v := ?_) rfl (by with_unfolding_all rfl) (fun ρ hρ W hW => ?_) ?_); (rotate_left 1)
                  focus (clear hW; have p14 := hρ (.tmp 14); (simp (disch := (first | decide | ((try simp only [qa2]); rw [hsz]; decide))) only [ev_eq, ev_ne, a17, a14, a16, a19, a7] at p14); have hc : ∀ c, ρ (.const c) = c := (fun c => hρ (.const c)); have hfn : ∀ f, ρ (.func f) = .func (.func f) #[] #[] := (fun f => hρ (.func f)); clear hρ; go_simp; (all_goals (first | (with_reducible rfl) | (constructor <;> with_reducible rfl))))
                  (with_reducible refine qa1 (v := ?_) rfl (by with_unfolding_all rfl) (fun ρ hρ W hW => ?_) ?_); (rotate_left 1)
                  focus (have hS := KS.out _ hW; clear hW; have p174 := hρ (.tmp 174); (simp (disch := (first | decide | ((try simp only [qa2]); rw [hsz]; decide))) only [ev_eq, ev_ne, a17, a14, a16, a19, a7] at p174); have hc : ∀ c, ρ (.const c) = c := (fun c => hρ (.const c)); have hfn : ∀ f, ρ (.func f) = .func (.func f) #[] #[] := (fun f => hρ (.func f)); clear hρ; go_simp; (all_goals (first | (with_reducible rfl) | (constructor <;> with_reducible rfl))))
                  (with_reducible refine qa1 (v := ?_) rfl (by with_unfolding_all rfl) (fun ρ hρ W hW => ?_) ?_); (rotate_left 1)
                  focus (clear hW; have p16 := hρ (.tmp 16); (simp (disch := (first | decide | ((try simp only [qa2]); rw [hsz]; decide))) only [ev_eq, ev_ne, a17, a14, a16, a19, a7] at p16); have hc : ∀ c, ρ (.const c) = c := (fun c => hρ (.const c)); have hfn : ∀ f, ρ (.func f) = .func (.func f) #[] #[] := (fun f => hρ (.func f)); clear hρ; go_simp; (all_goals (first | (with_reducible rfl) | (constructor <;> with_reducible rfl))))
                  (with_reducible refine qa1 (v := ?_) rfl (by with_unfolding_all rfl) (fun ρ hρ W hW => ?_) ?_); (rotate_left 1)
                  focus (clear hW; have p175 := hρ (.tmp 175); (simp (disch := (first | decide | ((try simp only [qa2]); rw [hsz]; decide))) only [ev_eq, ev_ne, a17, a14, a16, a19, a7] at p175); have p176 := hρ (.tmp 176); (simp (disch := (first | decide | ((try simp only [qa2]); rw [hsz]; decide))) only [ev_eq, ev_ne, a17, a14, a16, a19, a7] at p176); have hc : ∀ c, ρ (.const c) = c := (fun c => hρ (.const c)); have hfn : ∀ f, ρ (.func f) = .func (.func f) #[] #[] := (fun f => hρ (.func f)); clear hρ; go_simp; (all_goals (first | (with_reducible rfl) | (constructor <;> with_reducible rfl))))
                  (with_reducible refine qa1 (v := ?_) rfl (by with_unfolding_all rfl) (fun ρ hρ W hW => ?_) ?_); (rotate_left 1)
                  focus (clear hW; have p177 := hρ (.tmp 177); (simp (disch := (first | decide | ((try simp only [qa2]); rw [hsz]; decide))) only [ev_eq, ev_ne, a17, a14, a16, a19, a7] at p177); have hc : ∀ c, ρ (.const c) = c := (fun c => hρ (.const c)); have hfn : ∀ f, ρ (.func f) = .func (.func f) #[] #[] := (fun f => hρ (.func f)); clear hρ; go_simp; (all_goals (first | (with_reducible rfl) | (constructor <;> with_reducible rfl))))
                  (with_reducible refine qa1 (v := ?_) rfl (by with_unfolding_all rfl) (fun ρ hρ W hW => ?_) ?_); (rotate_left 1)
                  focus (have hS := KS.out _ hW; clear hW; have p178 := hρ (.tmp 178); (simp (disch := (first | decide | ((try simp only [qa2]); rw [hsz]; decide))) only [ev_eq, ev_ne, a17, a14, a16, a19, a7] at p178); have hc : ∀ c, ρ (.const c) = c := (fun c => hρ (.const c)); have hfn : ∀ f, ρ (.func f) = .func (.func f) #[] #[] := (fun f => hρ (.func f)); clear hρ; go_simp; (all_goals (first | (with_reducible rfl) | (constructor <;> with_reducible rfl))))
                  (with_reducible refine qa1 (v := .bool false) rfl (by with_unfolding_all rfl) (fun ρ hρ W hW => ?_) ?_); skip
                  focus (clear hW; have p173 := hρ (.tmp 173); (simp (disch := (first | decide | ((try simp only [qa2]); rw [hsz]; decide))) only [ev_eq, ev_ne, a17, a14, a16, a19, a7] at p173); have p179 := hρ (.tmp 179); (simp (disch := (first | decide | ((try simp only [qa2]); rw [hsz]; decide))) only [ev_eq, ev_ne, a17, a14, a16, a19, a7] at p179); have hc : ∀ c, ρ (.const c) = c := (fun c => hρ (.const c)); have hfn : ∀ f, ρ (.func f) = .func (.func f) #[] #[] := (fun f => hρ (.func f)); clear hρ; go_simp; (first | done | (all_goals (first | (with_reducible rfl) | (constructor <;> with_reducible rfl))) | (simp only [n0, hob, k2, k3, s2, s3]; done) | (simp [n0, hob, k2, k3, s2, s3]; done) | ((try simp only [n0, hob, k2, k3, s2, s3]); done)))
                  (with_reducible refine qa1 (v := .bool false) rfl (by with_unfolding_all rfl) (fun ρ hρ W hW => ?_) ?_); skip
                  focus (clear hW; have p180 := hρ (.tmp 180); (simp (disch := (first | decide | ((try simp only [qa2]); rw [hsz]; decide))) only [ev_eq, ev_ne, a17, a14, a16, a19, a7] at p180); have hc : ∀ c, ρ (.const c) = c := (fun c => hρ (.const c)); have hfn : ∀ f, ρ (.func f) = .func (.func f) #[] #[] := (fun f => hρ (.func f)); clear hρ; go_simp; (first | done | (all_goals (first | (with_reducible rfl) | (constructor <;> with_reducible rfl))) | (simp only [n0, hob, k2, k3, s2, s3]; done) | (simp [n0, hob, k2, k3, s2, s3]; done) | ((try simp only [n0, hob, k2, k3, s2, s3]); done)))
                  (with_reducible refine qa9 (v := ?_) (t := 181) rfl rfl (by with_unfolding_all rfl) ?_ (fun ρ hρ W hW => ?_) ?_); (rotate_left 1)
                  focus (simp (disch := (first | decide | ((try simp only [qa2]); rw [hsz]; decide))) only [ev_eq, ev_ne, a17, a14, a16, a19, a7])
                  focus (clear hW; have p19 := hρ (.tmp 19); (simp (disch := (first | decide | ((try simp only [qa2]); rw [hsz]; decide))) only [ev_eq, ev_ne, a17, a14, a16, a19, a7] at p19); have hc : ∀ c, ρ (.const c) = c := (fun c => hρ (.const c)); have hfn : ∀ f, ρ (.func f) = .func (.func f) #[] #[] := (fun f => hρ (.func f)); clear hρ; go_simp; (all_goals (first | (with_reducible rfl) | (constructor <;> with_reducible rfl))))
                  (with_reducible refine qa9 (v := ?_) (t := 181) rfl rfl (by with_unfolding_all rfl) ?_ (fun ρ hρ W hW => ?_) ?_); (rotate_left 1)
                  focus (simp (disch := (first | decide | ((try simp only [qa2]); rw [hsz]; decide))) only [ev_eq, ev_ne, a17, a14, a16, a19, a7])
                  focus (clear hW; have p17 := hρ (.tmp 17); (simp (disch := (first | decide | ((try simp only [qa2]); rw [hsz]; decide))) only [ev_eq, ev_ne, a17, a14, a16, a19, a7] at p17); have hc : ∀ c, ρ (.const c) = c := (fun c => hρ (.const c)); have hfn : ∀ f, ρ (.func f) = .func (.func f) #[] #[] := (fun f => hρ (.func f)); clear hρ; go_simp; (all_goals (first | (with_reducible rfl) | (constructor <;> with_reducible rfl))))
                  (with_reducible refine qa9 (v := ?_) (t := 181) rfl rfl (by with_unfolding_all rfl) ?_ (fun ρ hρ W hW => ?_) ?_); (rotate_left 1)
                  focus (simp (disch := (first | decide | ((try simp only [qa2]); rw [hsz]; decide))) only [ev_eq, ev_ne, a17, a14, a16, a19, a7])
                  focus (have hS := KS.out _ hW; clear hW; have p183 := hρ (.tmp 183); (simp (disch := (first | decide | ((try simp only [qa2]); rw [hsz]; decide))) only [ev_eq, ev_ne, a17, a14, a16, a19, a7] at p183); have hc : ∀ c, ρ (.const c) = c := (fun c => hρ (.const c)); have hfn : ∀ f, ρ (.func f) = .func (.func f) #[] #[] := (fun f => hρ (.func f)); clear hρ; go_simp; (all_goals (first | (with_reducible rfl) | (constructor <;> with_reducible rfl))))
                  (with_reducible refine qa9 (v := ?_) (t := 181) rfl rfl (by with_unfolding_all rfl) ?_ (fun ρ hρ W hW => ?_) ?_); (rotate_left 1)
                  focus (simp (disch := (first | decide | ((try simp only [qa2]); rw [hsz]; decide))) only [ev_eq, ev_ne, a17, a14, a16, a19, a7])
                  focus (clear hW; have p184 := hρ (.tmp 184); (simp (disch := (first | decide | ((try simp only [qa2]); rw [hsz]; decide))) only [ev_eq, ev_ne, a17, a14, a16, a19, a7] at p184); have hc : ∀ c, ρ (.const c) = c := (fun c => hρ (.const c)); have hfn : ∀ f, ρ (.func f) = .func (.func f) #[] #[] := (fun f => hρ (.func f)); clear hρ; go_simp; (all_goals (first | (with_reducible rfl) | (constructor <;> with_reducible rfl))))
                  (with_reducible refine qa9 (v := .bool false) (t := 181) rfl rfl (by with_unfolding_all rfl) ?_ (fun ρ hρ W hW => ?_) ?_); skip
                  focus (simp (disch := (first | decide | ((try simp only [qa2]); rw [hsz]; decide))) only [ev_eq, ev_ne, a17, a14, a16, a19, a7])
                  focus (clear hW; have p182 := hρ (.tmp 182); (simp (disch := (first | decide | ((try simp only [qa2]); rw [hsz]; decide))) only [ev_eq, ev_ne, a17, a14, a16, a19, a7] at p182); have p185 := hρ (.tmp 185); (simp (disch := (first | decide | ((try simp only [qa2]); rw [hsz]; decide))) only [ev_eq, ev_ne, a17, a14, a16, a19, a7] at p185); have hc : ∀ c, ρ (.const c) = c := (fun c => hρ (.const c)); have hfn : ∀ f, ρ (.func f) = .func (.func f) #[] #[] := (fun f => hρ (.func f)); clear hρ; go_simp; (first | done | (all_goals (first | (with_reducible rfl) | (constructor <;> with_reducible rfl))) | (simp only [n0, hob, k2, k3, s2, s3]; done) | (simp [n0, hob, k2, k3, s2, s3]; done) | ((try simp only [n0, hob, k2, k3, s2, s3]); done)))
                  (with_reducible refine qa1 (v := .bool false) rfl (by with_unfolding_all rfl) (fun ρ hρ W hW => ?_) ?_); skip
                  focus (clear hW; have p181 := hρ (.tmp 181); (simp (disch := (first | decide | ((try simp only [qa2]); rw [hsz]; decide))) only [ev_eq, ev_ne, a17, a14, a16, a19, a7] at p181); have p186 := hρ (.tmp 186); (simp (disch := (first | decide | ((try simp only [qa2]); rw [hsz]; decide))) only [ev_eq, ev_ne, a17, a14, a16, a19, a7] at p186); have hc : ∀ c, ρ (.const c) = c := (fun c => hρ (.const c)); have hfn : ∀ f, ρ (.func f) = .func (.func f) #[] #[] := (fun f => hρ (.func f)); clear hρ; go_simp; (first | done | (all_goals (first | (with_reducible rfl) | (constructor <;> with_reducible rfl))) | (simp only [n0, hob, k2, k3, s2, s3]; done) | (simp [n0, hob, k2, k3, s2, s3]; done) | ((try simp only [n0, hob, k2, k3, s2, s3]); done)))
                  (with_reducible refine qa1 (v := .bool false) rfl (by with_unfolding_all rfl) (fun ρ hρ W hW => ?_) ?_); skip
                  focus (clear hW; have p187 := hρ (.tmp 187); (simp (disch := (first | decide | ((try simp only [qa2]); rw [hsz]; decide))) only [ev_eq, ev_ne, a17, a14, a16, a19, a7] at p187); have hc : ∀ c, ρ (.const c) = c := (fun c => hρ (.const c)); have hfn : ∀ f, ρ (.func f) = .func (.func f) #[] #[] := (fun f => hρ (.func f)); clear hρ; go_simp; (first | done | (all_goals (first | (with_reducible rfl) | (constructor <;> with_reducible rfl))) | (simp only [n0, hob, k2, k3, s2, s3]; done) | (simp [n0, hob, k2, k3, s2, s3]; done) | ((try simp only [n0, hob, k2, k3, s2, s3]); done)))
                  (with_reducible refine qa9 (v := ?_) (t := 188) rfl rfl (by with_unfolding_all rfl) ?_ (fun ρ hρ W hW => ?_) ?_); (rotate_left 1)
                  focus (simp (disch := (first | decide | ((try simp only [qa2]); rw [hsz]; decide))) only [ev_eq, ev_ne, a17, a14, a16, a19, a7])
                  focus (clear hW; have p17 := hρ (.tmp 17); (simp (disch := (first | decide | ((try simp only [qa2]); rw [hsz]; decide))) only [ev_eq, ev_ne, a17, a14, a16, a19, a7] at p17); have hc : ∀ c, ρ (.const c) = c := (fun c => hρ (.const c)); have hfn : ∀ f, ρ (.func f) = .func (.func f) #[] #[] := (fun f => hρ (.func f)); clear hρ; go_simp; (all_goals (first | (with_reducible rfl) | (constructor <;> with_reducible rfl))))
                  (with_reducible refine qa9 (v := ?_) (t := 188) rfl rfl (by with_unfolding_all rfl) ?_ (fun ρ hρ W hW => ?_) ?_); (rotate_left 1)
                  focus (simp (disch := (first | decide | ((try simp only [qa2]); rw [hsz]; decide))) only [ev_eq, ev_ne, a17, a14, a16, a19, a7])
                  focus (have hS := KS.out _ hW; clear hW; have p189 := hρ (.tmp 189); (simp (disch := (first | decide | ((try simp only [qa2]); rw [hsz]; decide))) only [ev_eq, ev_ne, a17, a14, a16, a19, a7] at p189); have hc : ∀ c, ρ (.const c) = c := (fun c => hρ (.const c)); have hfn : ∀ f, ρ (.func f) = .func (.func f) #[] #[] := (fun f => hρ (.func f)); clear hρ; go_simp; (all_goals (first | (with_reducible rfl) | (constructor <;> with_reducible rfl))))
                  (with_reducible refine qa9 (v := .bool false) (t := 188) rfl rfl (by with_unfolding_all rfl) ?_ (fun ρ hρ W hW => ?_) ?_); skip
                  focus (simp (disch := (first | decide | ((try simp only [qa2]); rw [hsz]; decide))) only [ev_eq, ev_ne, a17, a14, a16, a19, a7])
                  focus (clear hW; have p190 := hρ (.tmp 190); (simp (disch := (first | decide | ((try simp only [qa2]); rw [hsz]; decide))) only [ev_eq, ev_ne, a17, a14, a16, a19, a7] at p190); have hc : ∀ c, ρ (.const c) = c := (fun c => hρ (.const c)); have hfn : ∀ f, ρ (.func f) = .func (.func f) #[] #[] := (fun f => hρ (.func f)); clear hρ; go_simp; (first | done | (all_goals (first | (with_reducible rfl) | (constructor <;> with_reducible rfl))) | (simp only [n0, hob, k2, k3, s2, s3]; done) | (simp [n0, hob, k2, k3, s2, s3]; done) | ((try simp only [n0, hob, k2, k3, s2, s3]); done)))
                  (with_reducible refine qa1 (v := .bool false) rfl (by with_unfolding_all rfl) (fun ρ hρ W hW => ?_) ?_); skip
                  focus (clear hW; have p188 := hρ (.tmp 188); (simp (disch := (first | decide | ((try simp only [qa2]); rw [hsz]; decide))) only [ev_eq, ev_ne, a17, a14, a16, a19, a7] at p188); have p191 := hρ (.tmp 191); (simp (disch := (first | decide | ((try simp only [qa2]); rw [hsz]; decide))) only [ev_eq, ev_ne, a17, a14, a16, a19, a7] at p191); have hc : ∀ c, ρ (.const c) = c := (fun c => hρ (.const c)); have hfn : ∀ f, ρ (.func f) = .func (.func f) #[] #[] := (fun f => hρ (.func f)); clear hρ; go_simp; (first | done | (all_goals (first | (with_reducible rfl) | (constructor <;> with_reducible rfl))) | (simp only [n0, hob, k2, k3, s2, s3]; done) | (simp [n0, hob, k2, k3, s2, s3]; done) | ((try simp only [n0, hob, k2, k3, s2, s3]); done)))
                  (with_reducible refine qa1 (v := .bool false) rfl (by with_unfolding_all rfl) (fun ρ hρ W hW => ?_) ?_); skip
                  focus (clear hW; have p192 := hρ (.tmp 192); (simp (disch := (first | decide | ((try simp only [qa2]); rw [hsz]; decide))) only [ev_eq, ev_ne, a17, a14, a16, a19, a7] at p192); have hc : ∀ c, ρ (.const c) = c := (fun c => hρ (.const c)); have hfn : ∀ f, ρ (.func f) = .func (.func f) #[] #[] := (fun f => hρ (.func f)); clear hρ; go_simp; (first | done | (all_goals (first | (with_reducible rfl) | (constructor <;> with_reducible rfl))) | (simp only [n0, hob, k2, k3, s2, s3]; done) | (simp [n0, hob, k2, k3, s2, s3]; done) | ((try simp only [n0, hob, k2, k3, s2, s3]); done)))
                  (with_reducible refine qa9 (v := ?_) (t := 193) rfl rfl (by with_unfolding_all rfl) ?_ (fun ρ hρ W hW => ?_) ?_); (rotate_left 1)
                  focus (simp (disch := (first | decide | ((try simp only [qa2]); rw [hsz]; decide))) only [ev_eq, ev_ne, a17, a14, a16, a19, a7])
                  focus (clear hW; have p17 := hρ (.tmp 17); (simp (disch := (first | decide | ((try simp only [qa2]); rw [hsz]; decide))) only [ev_eq, ev_ne, a17, a14, a16, a19, a7] at p17); have hc : ∀ c, ρ (.const c) = c := (fun c => hρ (.const c)); have hfn : ∀ f, ρ (.func f) = .func (.func f) #[] #[] := (fun f => hρ (.func f)); clear hρ; go_simp; (all_goals (first | (with_reducible rfl) | (constructor <;> with_reducible rfl))))
                  (with_reducible refine qa9 (v := ?_) (t := 193) rfl rfl (by with_unfolding_all rfl) ?_ (fun ρ hρ W hW => ?_) ?_); (rotate_left 1)
                  focus (simp (disch := (first | decide | ((try simp only [qa2]); rw [hsz]; decide))) only [ev_eq, ev_ne, a17, a14, a16, a19, a7])
                  focus (have hS := KS.out _ hW; clear hW; have p194 := hρ (.tmp 194); (simp (disch := (first | decide | ((try simp only [qa2]); rw [hsz]; decide))) only [ev_eq, ev_ne, a17, a14, a16, a19, a7] at p194); have hc : ∀ c, ρ (.const c) = c := (fun c => hρ (.const c)); have hfn : ∀ f, ρ (.func f) = .func (.func f) #[] #[] := (fun f => hρ (.func f)); clear hρ; go_simp; (all_goals (first | (with_reducible rfl) | (constructor <;> with_reducible rfl))))
                  (with_reducible refine qa9 (v := .bool false) (t := 193) rfl rfl (by with_unfolding_all rfl) ?_ (fun ρ hρ W hW => ?_) ?_); skip
                  focus (simp (disch := (first | decide | ((try simp only [qa2]); rw [hsz]; decide))) only [ev_eq, ev_ne, a17, a14, a16, a19, a7])
                  focus (clear hW; have p195 := hρ (.tmp 195); (simp (disch := (first | decide | ((try simp only [qa2]); rw [hsz]; decide))) only [ev_eq, ev_ne, a17, a14, a16, a19, a7] at p195); have hc : ∀ c, ρ (.const c) = c := (fun c => hρ (.const c)); have hfn : ∀ f, ρ (.func f) = .func (.func f) #[] #[] := (fun f => hρ (.func f)); clear hρ; go_simp; (first | done | (all_goals (first | (with_reducible rfl) | (constructor <;> with_reducible rfl))) | (simp only [n0, hob, k2, k3, s2, s3]; done) | (simp [n0, hob, k2, k3, s2, s3]; done) | ((try simp only [n0, hob, k2, k3, s2, s3]); done)))
                  (with_reducible refine qa1 (v := .bool false) rfl (by with_unfolding_all rfl) (fun ρ hρ W hW => ?_) ?_); skip
                  focus (clear hW; have p193 := hρ (.tmp 193); (simp (disch := (first | decide | ((try simp only [qa2]); rw [hsz]; decide))) only [ev_eq, ev_ne, a17, a14, a16, a19, a7] at p193); have p196 := hρ (.tmp 196); (simp (disch := (first | decide | ((try simp only [qa2]); rw [hsz]; decide))) only [ev_eq, ev_ne, a17, a14, a16, a19, a7] at p196); have hc : ∀ c, ρ (.const c) = c := (fun c => hρ (.const c)); have hfn : ∀ f, ρ (.func f) = .func (.func f) #[] #[] := (fun f => hρ (.func f)); clear hρ; go_simp; (first | done | (all_goals (first | (with_reducible rfl) | (constructor <;> with_reducible rfl))) | (simp only [n0, hob, k2, k3, s2, s3]; done) | (simp [n0, hob, k2, k3, s2, s3]; done) | ((try simp only [n0, hob, k2, k3, s2, s3]); done)))
                  (with_reducible refine qa1 (v := .bool false) rfl (by with_unfolding_all rfl) (fun ρ hρ W hW => ?_) ?_); skip
                  focus (clear hW; have p197 := hρ (.tmp 197); (simp (disch := (first | decide | ((try simp only [qa2]); rw [hsz]; decide))) only [ev_eq, ev_ne, a17, a14, a16, a19, a7] at p197); have hc : ∀ c, ρ (.const c) = c := (fun c => hρ (.const c)); have hfn : ∀ f, ρ (.func f) = .func (.func f) #[] #[] := (fun f => hρ (.func f)); clear hρ; go_simp; (first | done | (all_goals (first | (with_reducible rfl) | (constructor <;> with_reducible rfl))) | (simp only [n0, hob, k2, k3, s2, s3]; done) | (simp [n0, hob, k2, k3, s2, s3]; done) | ((try simp only [n0, hob, k2, k3, s2, s3]); done)))
                  (with_reducible refine qa9 (v := ?_) (t := 198) rfl rfl (by with_unfolding_all rfl) ?_ (fun ρ hρ W hW => ?_) ?_); (rotate_left 1)
                  focus (simp (disch := (first | decide | ((try simp only [qa2]); rw [hsz]; decide))) only [ev_eq, ev_ne, a17, a14, a16, a19, a7])
                  focus (clear hW; have p17 := hρ (.tmp 17); (simp (disch := (first | decide | ((try simp only [qa2]); rw [hsz]; decide))) only [ev_eq, ev_ne, a17, a14, a16, a19, a7] at p17); have hc : ∀ c, ρ (.const c) = c := (fun c => hρ (.const c)); have hfn : ∀ f, ρ (.func f) = .func (.func f) #[] #[] := (fun f => hρ (.func f)); clear hρ; go_simp; (all_goals (first | (with_reducible rfl) | (constructor <;> with_reducible rfl))))
                  (with_reducible refine qa9 (v := ?_) (t := 198) rfl rfl (by with_unfolding_all rfl) ?_ (fun ρ hρ W hW => ?_) ?_); (rotate_left 1)
                  focus (simp (disch := (first | decide | ((try simp only [qa2]); rw [hsz]; decide))) only [ev_eq, ev_ne, a17, a14, a16, a19, a7])
                  focus (have hS := KS.out _ hW; clear hW; have p199 := hρ (.tmp 199); (simp (disch := (first | decide | ((try simp only [qa2]); rw [hsz]; decide))) only [ev_eq, ev_ne, a17, a14, a16, a19, a7] at p199); have hc : ∀ c, ρ (.const c) = c := (fun c => hρ (.const c)); have hfn : ∀ f, ρ (.func f) = .func (.func f) #[] #[] := (fun f => hρ (.func f)); clear hρ; go_simp; (all_goals (first | (with_reducible rfl) | (constructor <;> with_reducible rfl))))
                  (with_reducible refine qa9 (v := ?_) (t := 198) rfl rfl (by with_unfolding_all rfl) ?_ (fun ρ hρ W hW => ?_) ?_); (rotate_left 1)
                  focus (simp (disch := (first | decide | ((try simp only [qa2]); rw [hsz]; decide))) only [ev_eq, ev_ne, a17, a14, a16, a19, a7])
                  focus (clear hW; have p7 := hρ (.tmp 7); (simp (disch := (first | decide | ((try simp only [qa2]); rw [hsz]; decide))) only [ev_eq, ev_ne, a17, a14, a16, a19, a7] at p7); have hc : ∀ c, ρ (.const c) = c := (fun c => hρ (.const c)); have hfn : ∀ f, ρ (.func f) = .func (.func f) #[] #[] := (fun f => hρ (.func f)); clear hρ; go_simp; (all_goals (first | (with_reducible rfl) | (constructor <;> with_reducible rfl))))
                  (with_reducible refine qa9 (v := ?_) (t := 198) rfl rfl (by with_unfolding_all rfl) ?_ (fun ρ hρ W hW => ?_) ?_); (rotate_left 1)
                  focus (simp (disch := (first | decide | ((try simp only [qa2]); rw [hsz]; decide))) only [ev_eq, ev_ne, a17, a14, a16, a19, a7])
                  focus (clear hW; have p201 := hρ (.tmp 201); (simp (disch := (first | decide | ((try simp only [qa2]); rw [hsz]; decide))) only [ev_eq, ev_ne, a17, a14, a16, a19, a7] at p201); have hc : ∀ c, ρ (.const c) = c := (fun c => hρ (.const c)); have hfn : ∀ f, ρ (.func f) = .func (.func f) #[] #[] := (fun f => hρ (.func f)); clear hρ; go_simp; (all_goals (first | (with_reducible rfl) | (constructor <;> with_reducible rfl))))
                  have ha := hA0.out
                  have hS9 := KS.out _ T.out
                  (with_reducible refine qan ?_)
                  (simp only [List.drop_succ_cons, List.drop_zero])
                  (with_reducible refine list_held_g (v := .bool false) (w' := ?_) (t := 198) rfl rfl (by with_unfolding_all rfl) ?_ (fun ρ hρ => ?_) ?_); (rotate_left 1)
                  focus (simp (disch := (first | decide | ((try simp only [qa2]); rw [hsz]; decide))) only [ev_eq, ev_ne, a17, a14, a16, a19, a7])
                  focus (have p200 := hρ (.tmp 200); (simp (disch := (first | decide | ((try simp only [qa2]); rw [hsz]; decide))) only [ev_eq, ev_ne, a17, a14, a16, a19, a7] at p200); have p202 := hρ (.tmp 202); (simp (disch := (first | decide | ((try simp only [qa2]); rw [hsz]; decide))) only [ev_eq, ev_ne, a17, a14, a16, a19, a7] at p202); have hc : ∀ c, ρ (.const c) = c := (fun c => hρ (.const c)); have hfn : ∀ f, ρ (.func f) = .func (.func f) #[] #[] := (fun f => hρ (.func f)); clear hρ; go_simp; (first | done | (all_goals (first | (with_reducible rfl) | (constructor <;> with_reducible rfl))) | (simp only [n0, hob, k2, k3, s2, s3]; done) | (simp [n0, hob, k2, k3, s2, s3]; done) | ((try simp only [n0, hob, k2, k3, s2, s3]); done)))
                  (with_reducible refine qdb (v := .bool false) (w' := ?_) rfl (by with_unfolding_all rfl) (fun ρ hρ => ?_) ?_); (rotate_left 1)
                  focus (have p198 := hρ (.tmp 198); (simp (disch := (first | decide | ((try simp only [qa2]); rw [hsz]; decide))) only [ev_eq, ev_ne, a17, a14, a16, a19, a7] at p198); have p203 := hρ (.tmp 203); (simp (disch := (first | decide | ((try simp only [qa2]); rw [hsz]; decide))) only [ev_eq, ev_ne, a17, a14, a16, a19, a7] at p203); have hc : ∀ c, ρ (.const c) = c := (fun c => hρ (.const c)); have hfn : ∀ f, ρ (.func f) = .func (.func f) #[] #[] := (fun f => hρ (.func f)); clear hρ; go_simp; (first | done | (all_goals (first | (with_reducible rfl) | (constructor <;> with_reducible rfl))) | (simp only [n0, hob, k2, k3, s2, s3]; done) | (simp [n0, hob, k2, k3, s2, s3]; done) | ((try simp only [n0, hob, k2, k3, s2, s3]); done)))
                  (with_reducible refine qdb (v := .bool false) (w' := ?_) rfl (by with_unfolding_all rfl) (fun ρ hρ => ?_) ?_); (rotate_left 1)
                  focus (have p204 := hρ (.tmp 204); (simp (disch := (first | decide | ((try simp only [qa2]); rw [hsz]; decide))) only [ev_eq, ev_ne, a17, a14, a16, a19, a7] at p204); have hc : ∀ c, ρ (.const c) = c := (fun c => hρ (.const c)); have hfn : ∀ f, ρ (.func f) = .func (.func f) #[] #[] := (fun f => hρ (.func f)); clear hρ; go_simp; (first | done | (all_goals (first | (with_reducible rfl) | (constructor <;> with_reducible rfl))) | (simp only [n0, hob, k2, k3, s2, s3]; done) | (simp [n0, hob, k2, k3, s2, s3]; done) | ((try simp only [n0, hob, k2, k3, s2, s3]); done)))
                  (with_reducible refine list_held_g (v := ?_) (w' := ?_) (t := 205) rfl rfl (by with_unfolding_all rfl) ?_ (fun ρ hρ => ?_) ?_); (rotate_left 2)
                  focus (simp (disch := (first | decide | ((try simp only [qa2]); rw [hsz]; decide))) only [ev_eq, ev_ne, a17, a14, a16, a19, a7])
                  focus (have p17 := hρ (.tmp 17); (simp (disch := (first | decide | ((try simp only [qa2]); rw [hsz]; decide))) only [ev_eq, ev_ne, a17, a14, a16, a19, a7] at p17); have hc : ∀ c, ρ (.const c) = c := (fun c => hρ (.const c)); have hfn : ∀ f, ρ (.func f) = .func (.func f) #[] #[] := (fun f => hρ (.func f)); clear hρ; go_simp; (all_goals (first | (with_reducible rfl) | (constructor <;> with_reducible rfl))))
                  (with_reducible refine list_held_g (v := ?_) (w' := ?_) (t := 205) rfl rfl (by with_unfolding_all rfl) ?_ (fun ρ hρ => ?_) ?_); (rotate_left 2)
                  focus (simp (disch := (first | decide | ((try simp only [qa2]); rw [hsz]; decide))) only [ev_eq, ev_ne, a17, a14, a16, a19, a7])
                  focus (have p206 := hρ (.tmp 206); (simp (disch := (first | decide | ((try simp only [qa2]); rw [hsz]; decide))) only [ev_eq, ev_ne, a17, a14, a16, a19, a7] at p206); have hc : ∀ c, ρ (.const c) = c := (fun c => hρ (.const c)); have hfn : ∀ f, ρ (.func f) = .func (.func f) #[] #[] := (fun f => hρ (.func f)); clear hρ; go_simp; (all_goals (first | (with_reducible rfl) | (constructor <;> with_reducible rfl))))
                  (with_reducible refine list_held_g (v := .bool false) (w' := ?_) (t := 205) rfl rfl (by with_unfolding_all rfl) ?_ (fun ρ hρ => ?_) ?_); (rotate_left 1)
                  focus (simp (disch := (first | decide | ((try simp only [qa2]); rw [hsz]; decide))) only [ev_eq, ev_ne, a17, a14, a16, a19, a7])
                  focus (have p207 := hρ (.tmp 207); (simp (disch := (first | decide | ((try simp only [qa2]); rw [hsz]; decide))) only [ev_eq, ev_ne, a17, a14, a16, a19, a7] at p207); have hc : ∀ c, ρ (.const c) = c := (fun c => hρ (.const c)); have hfn : ∀ f, ρ (.func f) = .func (.func f) #[] #[] := (fun f => hρ (.func f)); clear hρ; go_simp; (first | done | (all_goals (first | (with_reducible rfl) | (constructor <;> with_reducible rfl))) | (simp only [n0, hob, k2, k3, s2, s3]; done) | (simp [n0, hob, k2, k3, s2, s3]; done) | ((try simp only [n0, hob, k2, k3, s2, s3]); done)))
                  (with_reducible refine qdb (v := .bool false) (w' := ?_) rfl (by with_unfolding_all rfl) (fun ρ hρ => ?_) ?_); (rotate_left 1)
                  focus (have p205 := hρ (.tmp 205); (simp (disch := (first | decide | ((try simp only [qa2]); rw [hsz]; decide))) only [ev_eq, ev_ne, a17, a14, a16, a19, a7] at p205); have p208 := hρ (.tmp 208); (simp (disch := (first | decide | ((try simp only [qa2]); rw [hsz]; decide))) only [ev_eq, ev_ne, a17, a14, a16, a19, a7] at p208); have hc : ∀ c, ρ (.const c) = c := (fun c => hρ (.const c)); have hfn : ∀ f, ρ (.func f) = .func (.func f) #[] #[] := (fun f => hρ (.func f)); clear hρ; go_simp; (first | done | (all_goals (first | (with_reducible rfl) | (constructor <;> with_reducible rfl))) | (simp only [n0, hob, k2, k3, s2, s3]; done) | (simp [n0, hob, k2, k3, s2, s3]; done) | ((try simp only [n0, hob, k2, k3, s2, s3]); done)))
                  refine wpList_nil ?_
                  subst ha
                  (simp only [qaz, set_s, set_z])
                  (first | go_meet | (go_wp2; go_meet))
                  exact ⟨rfl, T⟩
                case rest => as_aux_lemma =>
                  obtain ⟨h209, T⟩ := hcut
                  subst h209
                  clear n0 hob k2 k3
                  go_upto_region 24 with (fail)
                  go_cut [252] (fun s252 wx => s252 = .bool false ∧ Hid (ST w2 [] [⟨rb, vo.toArray, 54⟩, ⟨ab, #[.int .i64 c.num, .int .i64 c.kind, .int .i64 c.sub], 38⟩, ⟨hb, #[.string (S h.name), .slice hq h.ops.length hc, .int .i64 h.uns], 52⟩, ⟨gb, #[.string (S g.name), .slice (some ⟨gb3, off3, none⟩) g.ops.length gc, .int .i64 g.uns], 52⟩] wx))
                  case first => as_aux_lemma =>
                    obtain ⟨wd, hwd⟩ : ∃ x, x = wc.drew := ⟨_, rfl⟩
                    have T := Lib.hid (show ST w2 [] [⟨rb, vo.toArray, 54⟩, ⟨ab, #[.int .i64 c.num, .int .i64 c.kind, .int .i64 c.sub], 38⟩, ⟨hb, #[.string (S h.name), .slice hq h.ops.length hc, .int .i64 h.uns], 52⟩, ⟨gb, #[.string (S g.name), .slice (some ⟨gb3, off3, none⟩) g.ops.length gc, .int .i64 g.uns], 52⟩] wd by rw [hwd]; exact T.out.belw (Bel.refl _).drew)
                    have HWD := Lib.hid hwd
                    clear hwd
                    rcases hsub with ⟨hs, hm⟩ | ⟨s, y, hs, hry, h10, y10, s1, LS0⟩
                    · have HBK := Lib.hid (show ∀ WW, ST w2 [] [⟨rb, vo.toArray, 54⟩, ⟨ab, #[.int .i64 c.num, .int .i64 c.kind, .int .i64 (-1)], 38⟩, ⟨hb, #[.string (S h.name), .slice hq h.ops.length hc, .int .i64 h.uns], 52⟩, ⟨gb, #[.string (S g.name), .slice (some ⟨gb3, off3, none⟩) g.ops.length gc, .int .i64 g.uns], 52⟩] WW → ST w2 [] [⟨rb, vo.toArray, 54⟩, ⟨ab, #[.int .i64 c.num, .int .i64 c.kind, .int .i64 c.sub], 38⟩, ⟨hb, #[.string (S h.name), .slice hq h.ops.length hc, .int .i64 h.uns], 52⟩, ⟨gb, #[.string (S g.name), .slice (some ⟨gb3, off3, none⟩) g.ops.length gc, .int .i64 g.uns], 52⟩] WW from fun WW h => by rw [hs]; exact h)
                      have T := Lib.hid (show ST w2 [] [⟨rb, vo.toArray, 54⟩, ⟨ab, #[.int .i64 c.num, .int .i64 c.kind, .int .i64 (-1)], 38⟩, ⟨hb, #[.string (S h.name), .slice hq h.ops.length hc, .int .i64 h.uns], 52⟩, ⟨gb, #[.string (S g.name), .slice (some ⟨gb3, off3, none⟩) g.ops.length gc, .int .i64 g.uns], 52⟩] wd from by have h := T.out; rw [hs] at h; exact h)
                      have KS := Lib.hid (fun WW (hh : ST w2 [] [⟨rb, vo.toArray, 54⟩, ⟨ab, #[.int .i64 c.num, .int .i64 c.kind, .int .i64 (-1)], 38⟩, ⟨hb, #[.string (S h.name), .slice hq h.ops.length hc, .int .i64 h.uns], 52⟩, ⟨gb, #[.string (S g.name), .slice (some ⟨gb3, off3, none⟩) g.ops.length gc, .int .i64 g.uns], 52⟩] WW) => show WW.cell? ⟨ab, 2, none⟩ = some (.int .i64 (-1)) from hh.cell 1 rfl 2)
                      clear s2 s3 hs HVO hm
                      refine qag (fun WW => ST w2 [] [⟨rb, vo.toArray, 54⟩, ⟨ab, #[.int .i64 c.num, .int .i64 c.kind, .int .i64 (-1)], 38⟩, ⟨hb, #[.string (S h.name), .slice hq h.ops.length hc, .int .i64 h.uns], 52⟩, ⟨gb, #[.string (S g.name), .slice (some ⟨gb3, off3, none⟩) g.ops.length gc, .int .i64 g.uns], 52⟩] WW) (.take 0 (.take 1 (.take 2 (.take 3 (.take 4 (.take 5 (.take 6 (.take 7 (.take 8 (.take 9 (.take 10 (.take 11 (.take 12 (.take 13 (.take 14 (.take 15 (.take 16 (.take 17 (.take 18 (.take 19 (.take 20 (.take 21 (.take 22 (.take 23 (.take 24 (.take 25 (.take 26 (.take 27 (.take 28 (.take 29 (.take 30 (.take 31 .done)))))))))))))))))))))))))))))))) 32 (by kernel_rfl) (by kernel_rfl) HWD.out T.out (fun a ha => ?_)
                      (simp only [pickT, List.getD_cons_zero, List.getD_cons_succ])
                      have hsz : a.tmps.size = 339 := (by rw [ha]; kernel_rfl)
                      have a17 : a.eval (.tmp 17) = .pointer (some ⟨ab, 0, none⟩) := (by rw [ha]; kernel_rfl)
                      have hA0 := Lib.hid ha
                      clear ha
                      (with_reducible refine qa1 (v := ?_) rfl (by with_unfolding_all rfl) (fun ρ hρ W hW => ?_) ?_); (rotate_left 1)
                      focus (clear hW; have p17 := hρ (.tmp 17); (simp (disch := (first | decide | ((try simp only [qa2]); rw [hsz]; decide))) only [ev_eq, ev_ne, a17] at p17); have hc : ∀ c, ρ (.const c) = c := (fun c => hρ (.const c)); have hfn : ∀ f, ρ (.func f) = .func (.func f) #[] #[] := (fun f => hρ (.func f)); clear hρ; go_simp; (all_goals (first | (with_reducible rfl) | (constructor <;> with_reducible rfl))))
                      (with_reducible refine qa1 (v := ?_) rfl (by with_unfolding_all rfl) (fun ρ hρ W hW => ?_) ?_); (rotate_left 1)
                      focus (have hS := KS.out _ hW; clear hW; have p210 := hρ (.tmp 210); (simp (disch := (first | decide | ((try simp only [qa2]); rw [hsz]; decide))) only [ev_eq, ev_ne, a17] at p210); have hc : ∀ c, ρ (.const c) = c := (fun c => hρ (.const c)); have hfn : ∀ f, ρ (.func f) = .func (.func f) #[] #[] := (fun f => hρ (.func f)); clear hρ; go_simp; (all_goals (first | (with_reducible rfl) | (constructor <;> with_reducible rfl))))
                      (with_reducible refine qa1 (v := .bool false) rfl (by with_unfolding_all rfl) (fun ρ hρ W hW => ?_) ?_); skip
                      focus (clear hW; have p211 := hρ (.tmp 211); (simp (disch := (first | decide | ((try simp only [qa2]); rw [hsz]; decide))) only [ev_eq, ev_ne, a17] at p211); have hc : ∀ c, ρ (.const c) = c := (fun c => hρ (.const c)); have hfn : ∀ f, ρ (.func f) = .func (.func f) #[] #[] := (fun f => hρ (.func f)); clear hρ; go_simp; (first | done | (all_goals (first | (with_reducible rfl) | (constructor <;> with_reducible rfl))) | (simp only []; done) | (simp []; done) | ((try simp only []); done)))
                      (with_reducible refine qa1 (v := .bool false) rfl (by with_unfolding_all rfl) (fun ρ hρ W hW => ?_) ?_); skip
                      focus (clear hW; have p212 := hρ (.tmp 212); (simp (disch := (first | decide | ((try simp only [qa2]); rw [hsz]; decide))) only [ev_eq, ev_ne, a17] at p212); have hc : ∀ c, ρ (.const c) = c := (fun c => hρ (.const c)); have hfn : ∀ f, ρ (.func f) = .func (.func f) #[] #[] := (fun f => hρ (.func f)); clear hρ; go_simp; (first | done | (all_goals (first | (with_reducible rfl) | (constructor <;> with_reducible rfl))) | (simp only []; done) | (simp []; done) | ((try simp only []); done)))
                      (with_reducible refine qae (c := false) (t := 213) rfl rfl (by with_unfolding_all rfl) ?_ rfl ?_)
                      focus (simp (disch := (first | decide | ((try simp only [qa2]); rw [hsz]; decide))) only [ev_eq, ev_ne, a17])
                      (with_reducible refine qae (c := false) (t := 213) rfl rfl (by with_unfolding_all rfl) ?_ rfl ?_)
                      focus (simp (disch := (first | decide | ((try simp only [qa2]); rw [hsz]; decide))) only [ev_eq, ev_ne, a17])
                      (with_reducible refine qae (c := false) (t := 213) rfl rfl (by with_unfolding_all rfl) ?_ rfl ?_)
                      focus (simp (disch := (first | decide | ((try simp only [qa2]); rw [hsz]; decide))) only [ev_eq, ev_ne, a17])
                      (with_reducible refine qae (c := false) (t := 213) rfl rfl (by with_unfolding_all rfl) ?_ rfl ?_)
                      focus (simp (disch := (first | decide | ((try simp only [qa2]); rw [hsz]; decide))) only [ev_eq, ev_ne, a17])
                      (with_reducible refine qae (c := false) (t := 213) rfl rfl (by with_unfolding_all rfl) ?_ rfl ?_)
                      focus (simp (disch := (first | decide | ((try simp only [qa2]); rw [hsz]; decide))) only [ev_eq, ev_ne, a17])
                      (with_reducible refine qae (c := false) (t := 213) rfl rfl (by with_unfolding_all rfl) ?_ rfl ?_)
                      focus (simp (disch := (first | decide | ((try simp only [qa2]); rw [hsz]; decide))) only [ev_eq, ev_ne, a17])
                      (with_reducible refine qae (c := false) (t := 213) rfl rfl (by with_unfolding_all rfl) ?_ rfl ?_)
                      focus (simp (disch := (first | decide | ((try simp only [qa2]); rw [hsz]; decide))) only [ev_eq, ev_ne, a17])
                      (with_reducible refine qae (c := false) (t := 213) rfl rfl (by with_unfolding_all rfl) ?_ rfl ?_)
                      focus (simp (disch := (first | decide | ((try simp only [qa2]); rw [hsz]; decide))) only [ev_eq, ev_ne, a17])
                      (with_reducible refine qae (c := false) (t := 213) rfl rfl (by with_unfolding_all rfl) ?_ rfl ?_)
                      focus (simp (disch := (first | decide | ((try simp only [qa2]); rw [hsz]; decide))) only [ev_eq, ev_ne, a17])
                      (with_reducible refine qae (c := false) (t := 213) rfl rfl (by with_unfolding_all rfl) ?_ rfl ?_)
                      focus (simp (disch := (first | decide | ((try simp only [qa2]); rw [hsz]; decide))) only [ev_eq, ev_ne, a17])
                      (with_reducible refine qae (c := false) (t := 213) rfl rfl (by with_unfolding_all rfl) ?_ rfl ?_)
                      focus (simp (disch := (first | decide | ((try simp only [qa2]); rw [hsz]; decide))) only [ev_eq, ev_ne, a17])
                      (with_reducible refine qae (c := false) (t := 213) rfl rfl (by with_unfolding_all rfl) ?_ rfl ?_)
                      focus (simp (disch := (first | decide | ((try simp only [qa2]); rw [hsz]; decide))) only [ev_eq, ev_ne, a17])
                      (with_reducible refine qae (c := false) (t := 213) rfl rfl (by with_unfolding_all rfl) ?_ rfl ?_)
                      focus (simp (disch := (first | decide | ((try simp only [qa2]); rw [hsz]; decide))) only [ev_eq, ev_ne, a17])
                      (with_reducible refine qae (c := false) (t := 213) rfl rfl (by with_unfolding_all rfl) ?_ rfl ?_)
                      focus (simp (disch := (first | decide | ((try simp only [qa2]); rw [hsz]; decide))) only [ev_eq, ev_ne, a17])
                      (with_reducible refine tree_skip_u (t := 227) rfl rfl (by with_unfolding_all rfl) ?_ ?_)
                      focus (simp (disch := (first | decide | ((try simp only [qa2]); rw [hsz]; decide))) only [ev_eq, ev_ne, a17])
                      (with_reducible refine tree_skip_u (t := 227) rfl rfl (by with_unfolding_all rfl) ?_ ?_)
                      focus (simp (disch := (first | decide | ((try simp only [qa2]); rw [hsz]; decide))) only [ev_eq, ev_ne, a17])
                      (with_reducible refine tree_skip_u (t := 227) rfl rfl (by with_unfolding_all rfl) ?_ ?_)
                      focus (simp (disch := (first | decide | ((try simp only [qa2]); rw [hsz]; decide))) only [ev_eq, ev_ne, a17])
                      (with_reducible refine tree_skip_u (t := 227) rfl rfl (by with_unfolding_all rfl) ?_ ?_)
                      focus (simp (disch := (first | decide | ((try simp only [qa2]); rw [hsz]; decide))) only [ev_eq, ev_ne, a17])
                      (with_reducible refine tree_skip_u (t := 227) rfl rfl (by with_unfolding_all rfl) ?_ ?_)
                      focus (simp (disch := (first | decide | ((try simp only [qa2]); rw [hsz]; decide))) only [ev_eq, ev_ne, a17])
                      (with_reducible refine tree_skip_u (t := 227) rfl rfl (by with_unfolding_all rfl) ?_ ?_)
                      focus (simp (disch := (first | decide | ((try simp only [qa2]); rw [hsz]; decide))) only [ev_eq, ev_ne, a17])
                      (with_reducible refine tree_skip_u (t := 227) rfl rfl (by with_unfolding_all rfl) ?_ ?_)
                      focus (simp (disch := (first | decide | ((try simp only [qa2]); rw [hsz]; decide))) only [ev_eq, ev_ne, a17])
                      (with_reducible refine tree_skip_u (t := 227) rfl rfl (by with_unfolding_all rfl) ?_ ?_)
                      focus (simp (disch := (first | decide | ((try simp only [qa2]); rw [hsz]; decide))) only [ev_eq, ev_ne, a17])
                      (with_reducible refine tree_skip_u (t := 227) rfl rfl (by with_unfolding_all rfl) ?_ ?_)
                      focus (simp (disch := (first | decide | ((try simp only [qa2]); rw [hsz]; decide))) only [ev_eq, ev_ne, a17])
                      (with_reducible refine qae (c := false) (t := 213) rfl rfl (by with_unfolding_all rfl) ?_ rfl ?_)
                      focus (simp (disch := (first | decide | ((try simp only [qa2]); rw [hsz]; decide))) only [ev_eq, ev_ne, a17])
                      (with_reducible refine qae (c := false) (t := 213) rfl rfl (by with_unfolding_all rfl) ?_ rfl ?_)
                      focus (simp (disch := (first | decide | ((try simp only [qa2]); rw [hsz]; decide))) only [ev_eq, ev_ne, a17])
                      (with_reducible refine tree_skip_u (t := 238) rfl rfl (by with_unfolding_all rfl) ?_ ?_)
                      focus (simp (disch := (first | decide | ((try simp only [qa2]); rw [hsz]; decide))) only [ev_eq, ev_ne, a17])
                      (with_reducible refine tree_skip_u (t := 238) rfl rfl (by with_unfolding_all rfl) ?_ ?_)
                      focus (simp (disch := (first | decide | ((try simp only [qa2]); rw [hsz]; decide))) only [ev_eq, ev_ne, a17])
                      (with_reducible refine tree_skip_u (t := 238) rfl rfl (by with_unfolding_all rfl) ?_ ?_)
                      focus (simp (disch := (first | decide | ((try simp only [qa2]); rw [hsz]; decide))) only [ev_eq, ev_ne, a17])
                      have ha := hA0.out
                      have hS9 := KS.out _ T.out
                      (with_reducible refine qan ?_)
                      (simp only [List.drop_succ_cons, List.drop_zero])
                      (with_reducible refine list_off_u (t := 238) rfl rfl (by with_unfolding_all rfl) ?_ ?_)
                      focus (simp (disch := (first | decide | ((try simp only [qa2]); rw [hsz]; decide))) only [ev_eq, ev_ne, a17])
                      (with_reducible refine list_off_u (t := 238) rfl rfl (by with_unfolding_all rfl) ?_ ?_)
                      focus (simp (disch := (first | decide | ((try simp only [qa2]); rw [hsz]; decide))) only [ev_eq, ev_ne, a17])
                      (with_reducible refine list_off_u (t := 238) rfl rfl (by with_unfolding_all rfl) ?_ ?_)
                      focus (simp (disch := (first | decide | ((try simp only [qa2]); rw [hsz]; decide))) only [ev_eq, ev_ne, a17])
                      (with_reducible refine list_off_u (t := 238) rfl rfl (by with_unfolding_all rfl) ?_ ?_)
                      focus (simp (disch := (first | decide | ((try simp only [qa2]); rw [hsz]; decide))) only [ev_eq, ev_ne, a17])
                      (with_reducible refine list_off_g (c := false) (t := 213) rfl rfl (by with_unfolding_all rfl) ?_ rfl ?_)
                      focus (simp (disch := (first | decide | ((try simp only [qa2]); rw [hsz]; decide))) only [ev_eq, ev_ne, a17])
                      (with_reducible refine list_off_g (c := false) (t := 213) rfl rfl (by with_unfolding_all rfl) ?_ rfl ?_)
                      focus (simp (disch := (first | decide | ((try simp only [qa2]); rw [hsz]; decide))) only [ev_eq, ev_ne, a17])
                      (with_reducible refine list_off_u (t := 247) rfl rfl (by with_unfolding_all rfl) ?_ ?_)
                      focus (simp (disch := (first | decide | ((try simp only [qa2]); rw [hsz]; decide))) only [ev_eq, ev_ne, a17])
                      (with_reducible refine list_off_u (t := 247) rfl rfl (by with_unfolding_all rfl) ?_ ?_)
                      focus (simp (disch := (first | decide | ((try simp only [qa2]); rw [hsz]; decide))) only [ev_eq, ev_ne, a17])
                      (with_reducible refine list_off_u (t := 247) rfl rfl (by with_unfolding_all rfl) ?_ ?_)
                      focus (simp (disch := (first | decide | ((try simp only [qa2]); rw [hsz]; decide))) only [ev_eq, ev_ne, a17])
                      (with_reducible refine list_off_g (c := false) (t := 213) rfl rfl (by with_unfolding_all rfl) ?_ rfl ?_)
                      focus (simp (disch := (first | decide | ((try simp only [qa2]); rw [hsz]; decide))) only [ev_eq, ev_ne, a17])
                      (with_reducible refine qdb (v := ?_) (w' := ?_) rfl (by with_unfolding_all rfl) (fun ρ hρ => ?_) ?_); (rotate_left 2)
                      focus (have p213 := hρ (.tmp 213); (simp (disch := (first | decide | ((try simp only [qa2]); rw [hsz]; decide))) only [ev_eq, ev_ne, a17] at p213); have p251 := hρ (.tmp 251); (simp (disch := (first | decide | ((try simp only [qa2]); rw [hsz]; decide))) only [ev_eq, ev_ne, a17] at p251); have hc : ∀ c, ρ (.const c) = c := (fun c => hρ (.const c)); have hfn : ∀ f, ρ (.func f) = .func (.func f) #[] #[] := (fun f => hρ (.func f)); clear hρ; go_simp; (all_goals (first | (with_reducible rfl) | (constructor <;> with_reducible rfl))))
                      refine wpList_nil ?_
                      subst ha
                      (simp only [qaz, set_s, set_z])
                      (first | go_meet | (go_wp2; go_meet))
                      exact ⟨rfl, Lib.hid (HBK.out _ T.out)⟩
                    · have HBK := Lib.hid (show ∀ WW, ST w2 [] [⟨rb, #[.int .i64 y.num, .string (S y.name), .string (S y.ali), .int .i64 y.card, .int .i64 y.key, .int .i64 y.kind, .int .i64 y.tgt, .int .i64 y.un], 54⟩, ⟨ab, #[.int .i64 c.num, .int .i64 c.kind, .int .i64 (s : Int)], 38⟩, ⟨hb, #[.string (S h.name), .slice hq h.ops.length hc, .int .i64 h.uns], 52⟩, ⟨gb, #[.string (S g.name), .slice (some ⟨gb3, off3, none⟩) g.ops.length gc, .int .i64 g.uns], 52⟩] WW → ST w2 [] [⟨rb, vo.toArray, 54⟩, ⟨ab, #[.int .i64 c.num, .int .i64 c.kind, .int .i64 c.sub], 38⟩, ⟨hb, #[.string (S h.name), .slice hq h.ops.length hc, .int .i64 h.uns], 52⟩, ⟨gb, #[.string (S g.name), .slice (some ⟨gb3, off3, none⟩) g.ops.length gc, .int .i64 g.uns], 52⟩] WW from fun WW h => by rw [hs, HVO.out, hry]; exact h)
                      have T := Lib.hid (show ST w2 [] [⟨rb, #[.int .i64 y.num, .string (S y.name), .string (S y.ali), .int .i64 y.card, .int .i64 y.key, .int .i64 y.kind, .int .i64 y.tgt, .int .i64 y.un], 54⟩, ⟨ab, #[.int .i64 c.num, .int .i64 c.kind, .int .i64 (s : Int)], 38⟩, ⟨hb, #[.string (S h.name), .slice hq h.ops.length hc, .int .i64 h.uns], 52⟩, ⟨gb, #[.string (S g.name), .slice (some ⟨gb3, off3, none⟩) g.ops.length gc, .int .i64 g.uns], 52⟩] wd from by have h1 := T.out; rw [hs, HVO.out, hry] at h1; exact h1)
                      have LS := Lib.hid LS0
                      have ok10 : (o.kind != 10) = false := by rw [h10]; rfl
                      have yk10 : (y.kind != 10) = false := by rw [y10]; rfl
                      have tt1 : (o.tgt != o.tgt) = false := by simp
                      have tt2 : (y.tgt != y.tgt) = false := by simp
                      have s0 : (0 : Int) ≤ (s : Int) := by omega
                      have s1i : (s : Int) < (l.length : Int) := by omega
                      have KS := Lib.hid (fun WW (hh : ST w2 [] [⟨rb, #[.int .i64 y.num, .string (S y.name), .string (S y.ali), .int .i64 y.card, .int .i64 y.key, .int .i64 y.kind, .int .i64 y.tgt, .int .i64 y.un], 54⟩, ⟨ab, #[.int .i64 c.num, .int .i64 c.kind, .int .i64 (s : Int)], 38⟩, ⟨hb, #[.string (S h.name), .slice hq h.ops.length hc, .int .i64 h.uns], 52⟩, ⟨gb, #[.string (S g.name), .slice (some ⟨gb3, off3, none⟩) g.ops.length gc, .int .i64 g.uns], 52⟩] WW) => show WW.cell? ⟨ab, 2, none⟩ = some (.int .i64 (s : Int)) ∧ WW.cell? ⟨lb, loff + s * 4, none⟩ = some (.int .i64 o.tgt) ∧ WW.cell? ⟨lb, loff + s * 4 + 1, none⟩ = some (.int .i64 y.tgt) ∧ WW.cell? ⟨gb, 1, none⟩ = some (.slice (some ⟨gb3, off3, none⟩) g.ops.length gc) ∧ WW.cell? ⟨gb3, off3 + i * 8 + 5, none⟩ = some (.int .i64 o.kind) ∧ WW.cell? ⟨gb3, off3 + i * 8 + 6, none⟩ = some (.int .i64 o.tgt) ∧ WW.cell? ⟨rb, 5, none⟩ = some (.int .i64 y.kind) ∧ WW.cell? ⟨rb, 6, none⟩ = some (.int .i64 y.tgt) from ⟨hh.cell 1 rfl 2, hh.bel.some LS.out.1, hh.bel.some LS.out.2, hh.cell 3 rfl 1, hh.bel.some OC.out.2.1, hh.bel.some OC.out.2.2, hh.cell 0 rfl 5, hh.cell 0 rfl 6⟩)
                      clear s2 s3 hs HVO hry h10 y10 LS0
                      refine qag (fun WW => ST w2 [] [⟨rb, #[.int .i64 y.num, .string (S y.name), .string (S y.ali), .int .i64 y.card, .int .i64 y.key, .int .i64 y.kind, .int .i64 y.tgt, .int .i64 y.un], 54⟩, ⟨ab, #[.int .i64 c.num, .int .i64 c.kind, .int .i64 (s : Int)], 38⟩, ⟨hb, #[.string (S h.name), .slice hq h.ops.length hc, .int .i64 h.uns], 52⟩, ⟨gb, #[.string (S g.name), .slice (some ⟨gb3, off3, none⟩) g.ops.length gc, .int .i64 g.uns], 52⟩] WW) (.take 0 (.take 1 (.take 2 (.take 3 (.take 4 (.take 5 (.take 6 (.take 7 (.take 8 (.take 9 (.take 10 (.take 11 (.take 12 (.take 13 (.take 14 (.take 15 (.take 16 (.take 17 (.take 18 (.take 19 (.take 20 (.take 21 (.take 22 (.take 23 (.take 24 (.take 25 (.take 26 (.take 27 (.take 28 (.take 29 (.take 30 (.take 31 .done)))))))))))))))))))))))))))))))) 32 (by kernel_rfl) (by kernel_rfl) HWD.out T.out (fun a ha => ?_)
                      (simp only [pickT, List.getD_cons_zero, List.getD_cons_succ])
                      have hsz : a.tmps.size = 339 := (by rw [ha]; kernel_rfl)
                      have a17 : a.eval (.tmp 17) = .pointer (some ⟨ab, 0, none⟩) := (by rw [ha]; kernel_rfl)
                      have a18 : a.eval (.tmp 18) = .pointer (some ⟨rb, 0, none⟩) := (by rw [ha]; kernel_rfl)
                      have a14 : a.eval (.tmp 14) = .pointer (some ⟨gb, 0, none⟩) := (by rw [ha]; kernel_rfl)
                      have a16 : a.eval (.tmp 16) = .int .i64 i := (by rw [ha]; kernel_rfl)
                      have a7 : a.eval (.tmp 7) = .slice (some ⟨lb, loff, none⟩) l.length vc := (by rw [ha]; kernel_rfl)
                      have hA0 := Lib.hid ha
                      clear ha
                      (with_reducible refine qa1 (v := ?_) rfl (by with_unfolding_all rfl) (fun ρ hρ W hW => ?_) ?_); (rotate_left 1)
                      focus (clear hW; have p17 := hρ (.tmp 17); (simp (disch := (first | decide | ((try simp only [qa2]); rw [hsz]; decide))) only [ev_eq, ev_ne, a17, a18, a14, a16, a7] at p17); have hc : ∀ c, ρ (.const c) = c := (fun c => hρ (.const c)); have hfn : ∀ f, ρ (.func f) = .func (.func f) #[] #[] := (fun f => hρ (.func f)); clear hρ; go_simp; (all_goals (first | (with_reducible rfl) | (constructor <;> with_reducible rfl))))
                      (with_reducible refine qa1 (v := ?_) rfl (by with_unfolding_all rfl) (fun ρ hρ W hW => ?_) ?_); (rotate_left 1)
                      focus (have hS := KS.out _ hW; clear hW; have p210 := hρ (.tmp 210); (simp (disch := (first | decide | ((try simp only [qa2]); rw [hsz]; decide))) only [ev_eq, ev_ne, a17, a18, a14, a16, a7] at p210); have hc : ∀ c, ρ (.const c) = c := (fun c => hρ (.const c)); have hfn : ∀ f, ρ (.func f) = .func (.func f) #[] #[] := (fun f => hρ (.func f)); clear hρ; go_simp; (all_goals (first | (with_reducible rfl) | (constructor <;> with_reducible rfl))))
                      (with_reducible refine qa1 (v := .bool true) rfl (by with_unfolding_all rfl) (fun ρ hρ W hW => ?_) ?_); skip
                      focus (clear hW; have p211 := hρ (.tmp 211); (simp (disch := (first | decide | ((try simp only [qa2]); rw [hsz]; decide))) only [ev_eq, ev_ne, a17, a18, a14, a16, a7] at p211); have hc : ∀ c, ρ (.const c) = c := (fun c => hρ (.const c)); have hfn : ∀ f, ρ (.func f) = .func (.func f) #[] #[] := (fun f => hρ (.func f)); clear hρ; go_simp; (first | done | (all_goals (first | (with_reducible rfl) | (constructor <;> with_reducible rfl))) | (simp only [s0, tt1, tt2, ok10, yk10]; done) | (simp [s0, tt1, tt2, ok10, yk10]; done) | ((try simp only [s0, tt1, tt2, ok10, yk10]); done)))
                      (with_reducible refine qa1 (v := .bool true) rfl (by with_unfolding_all rfl) (fun ρ hρ W hW => ?_) ?_); skip
                      focus (clear hW; have p212 := hρ (.tmp 212); (simp (disch := (first | decide | ((try simp only [qa2]); rw [hsz]; decide))) only [ev_eq, ev_ne, a17, a18, a14, a16, a7] at p212); have hc : ∀ c, ρ (.const c) = c := (fun c => hρ (.const c)); have hfn : ∀ f, ρ (.func f) = .func (.func f) #[] #[] := (fun f => hρ (.func f)); clear hρ; go_simp; (first | done | (all_goals (first | (with_reducible rfl) | (constructor <;> with_reducible rfl))) | (simp only [s0, tt1, tt2, ok10, yk10]; done) | (simp [s0, tt1, tt2, ok10, yk10]; done) | ((try simp only [s0, tt1, tt2, ok10, yk10]); done)))
                      (with_reducible refine qa9 (v := ?_) (t := 213) rfl rfl (by with_unfolding_all rfl) ?_ (fun ρ hρ W hW => ?_) ?_); (rotate_left 1)
                      focus (simp (disch := (first | decide | ((try simp only [qa2]); rw [hsz]; decide))) only [ev_eq, ev_ne, a17, a18, a14, a16, a7])
                      focus (clear hW; have p7 := hρ (.tmp 7); (simp (disch := (first | decide | ((try simp only [qa2]); rw [hsz]; decide))) only [ev_eq, ev_ne, a17, a18, a14, a16, a7] at p7); have hc : ∀ c, ρ (.const c) = c := (fun c => hρ (.const c)); have hfn : ∀ f, ρ (.func f) = .func (.func f) #[] #[] := (fun f => hρ (.func f)); clear hρ; go_simp; (all_goals (first | (with_reducible rfl) | (constructor <;> with_reducible rfl))))
                      (with_reducible refine qa9 (v := ?_) (t := 213) rfl rfl (by with_unfolding_all rfl) ?_ (fun ρ hρ W hW => ?_) ?_); (rotate_left 1)
                      focus (simp (disch := (first | decide | ((try simp only [qa2]); rw [hsz]; decide))) only [ev_eq, ev_ne, a17, a18, a14, a16, a7])
                      focus (clear hW; have p17 := hρ (.tmp 17); (simp (disch := (first | decide | ((try simp only [qa2]); rw [hsz]; decide))) only [ev_eq, ev_ne, a17, a18, a14, a16, a7] at p17); have hc : ∀ c, ρ (.const c) = c := (fun c => hρ (.const c)); have hfn : ∀ f, ρ (.func f) = .func (.func f) #[] #[] := (fun f => hρ (.func f)); clear hρ; go_simp; (all_goals (first | (with_reducible rfl) | (constructor <;> with_reducible rfl))))
                      (with_reducible refine qa9 (v := ?_) (t := 213) rfl rfl (by with_unfolding_all rfl) ?_ (fun ρ hρ W hW => ?_) ?_); (rotate_left 1)
                      focus (simp (disch := (first | decide | ((try simp only [qa2]); rw [hsz]; decide))) only [ev_eq, ev_ne, a17, a18, a14, a16, a7])
                      focus (have hS := KS.out _ hW; clear hW; have p215 := hρ (.tmp 215); (simp (disch := (first | decide | ((try simp only [qa2]); rw [hsz]; decide))) only [ev_eq, ev_ne, a17, a18, a14, a16, a7] at p215); have hc : ∀ c, ρ (.const c) = c := (fun c => hρ (.const c)); have hfn : ∀ f, ρ (.func f) = .func (.func f) #[] #[] := (fun f => hρ (.func f)); clear hρ; go_simp; (all_goals (first | (with_reducible rfl) | (constructor <;> with_reducible rfl))))
                      (with_reducible refine qa9 (v := ?_) (t := 213) rfl rfl (by with_unfolding_all rfl) ?_ (fun ρ hρ W hW => ?_) ?_); (rotate_left 1)
                      focus (simp (disch := (first | decide | ((try simp only [qa2]); rw [hsz]; decide))) only [ev_eq, ev_ne, a17, a18, a14, a16, a7])
                      focus (clear hW; have p214 := hρ (.tmp 214); (simp (disch := (first | decide | ((try simp only [qa2]); rw [hsz]; decide))) only [ev_eq, ev_ne, a17, a18, a14, a16, a7] at p214); have p216 := hρ (.tmp 216); (simp (disch := (first | decide | ((try simp only [qa2]); rw [hsz]; decide))) only [ev_eq, ev_ne, a17, a18, a14, a16, a7] at p216); have hc : ∀ c, ρ (.const c) = c := (fun c => hρ (.const c)); have hfn : ∀ f, ρ (.func f) = .func (.func f) #[] #[] := (fun f => hρ (.func f)); clear hρ; go_simp; (all_goals (first | (with_reducible rfl) | (constructor <;> with_reducible rfl))))
                      (with_reducible refine qa9 (v := ?_) (t := 213) rfl rfl (by with_unfolding_all rfl) ?_ (fun ρ hρ W hW => ?_) ?_); (rotate_left 1)
                      focus (simp (disch := (first | decide | ((try simp only [qa2]); rw [hsz]; decide))) only [ev_eq, ev_ne, a17, a18, a14, a16, a7])
                      focus (clear hW; have p217 := hρ (.tmp 217); (simp (disch := (first | decide | ((try simp only [qa2]); rw [hsz]; decide))) only [ev_eq, ev_ne, a17, a18, a14, a16, a7] at p217); have hc : ∀ c, ρ (.const c) = c := (fun c => hρ (.const c)); have hfn : ∀ f, ρ (.func f) = .func (.func f) #[] #[] := (fun f => hρ (.func f)); clear hρ; go_simp; (all_goals (first | (with_reducible rfl) | (constructor <;> with_reducible rfl))))
                      (with_reducible refine qa9 (v := ?_) (t := 213) rfl rfl (by with_unfolding_all rfl) ?_ (fun ρ hρ W hW => ?_) ?_); (rotate_left 1)
                      focus (simp (disch := (first | decide | ((try simp only [qa2]); rw [hsz]; decide))) only [ev_eq, ev_ne, a17, a18, a14, a16, a7])
                      focus (have hS := KS.out _ hW; clear hW; have p218 := hρ (.tmp 218); (simp (disch := (first | decide | ((try simp only [qa2]); rw [hsz]; decide))) only [ev_eq, ev_ne, a17, a18, a14, a16, a7] at p218); have hc : ∀ c, ρ (.const c) = c := (fun c => hρ (.const c)); have hfn : ∀ f, ρ (.func f) = .func (.func f) #[] #[] := (fun f => hρ (.func f)); clear hρ; go_simp; (all_goals (first | (with_reducible rfl) | (constructor <;> with_reducible rfl))))
                      (with_reducible refine qa9 (v := ?_) (t := 213) rfl rfl (by with_unfolding_all rfl) ?_ (fun ρ hρ W hW => ?_) ?_); (rotate_left 1)
                      focus (simp (disch := (first | decide | ((try simp only [qa2]); rw [hsz]; decide))) only [ev_eq, ev_ne, a17, a18, a14, a16, a7])
                      focus (clear hW; have p14 := hρ (.tmp 14); (simp (disch := (first | decide | ((try simp only [qa2]); rw [hsz]; decide))) only [ev_eq, ev_ne, a17, a18, a14, a16, a7] at p14); have hc : ∀ c, ρ (.const c) = c := (fun c => hρ (.const c)); have hfn : ∀ f, ρ (.func f) = .func (.func f) #[] #[] := (fun f => hρ (.func f)); clear hρ; go_simp; (all_goals (first | (with_reducible rfl) | (constructor <;> with_reducible rfl))))
                      (with_reducible refine qa9 (v := ?_) (t := 213) rfl rfl (by with_unfolding_all rfl) ?_ (fun ρ hρ W hW => ?_) ?_); (rotate_left 1)
                      focus (simp (disch := (first | decide | ((try simp only [qa2]); rw [hsz]; decide))) only [ev_eq, ev_ne, a17, a18, a14, a16, a7])
                      focus (have hS := KS.out _ hW; clear hW; have p220 := hρ (.tmp 220); (simp (disch := (first | decide | ((try simp only [qa2]); rw [hsz]; decide))) only [ev_eq, ev_ne, a17, a18, a14, a16, a7] at p220); have hc : ∀ c, ρ (.const c) = c := (fun c => hρ (.const c)); have hfn : ∀ f, ρ (.func f) = .func (.func f) #[] #[] := (fun f => hρ (.func f)); clear hρ; go_simp; (all_goals (first | (with_reducible rfl) | (constructor <;> with_reducible rfl))))
                      (with_reducible refine qa9 (v := ?_) (t := 213) rfl rfl (by with_unfolding_all rfl) ?_ (fun ρ hρ W hW => ?_) ?_); (rotate_left 1)
                      focus (simp (disch := (first | decide | ((try simp only [qa2]); rw [hsz]; decide))) only [ev_eq, ev_ne, a17, a18, a14, a16, a7])
                      focus (clear hW; have p16 := hρ (.tmp 16); (simp (disch := (first | decide | ((try simp only [qa2]); rw [hsz]; decide))) only [ev_eq, ev_ne, a17, a18, a14, a16, a7] at p16); have hc : ∀ c, ρ (.const c) = c := (fun c => hρ (.const c)); have hfn : ∀ f, ρ (.func f) = .func (.func f) #[] #[] := (fun f => hρ (.func f)); clear hρ; go_simp; (all_goals (first | (with_reducible rfl) | (constructor <;> with_reducible rfl))))
                      (with_reducible refine qa9 (v := ?_) (t := 213) rfl rfl (by with_unfolding_all rfl) ?_ (fun ρ hρ W hW => ?_) ?_); (rotate_left 1)
                      focus (simp (disch := (first | decide | ((try simp only [qa2]); rw [hsz]; decide))) only [ev_eq, ev_ne, a17, a18, a14, a16, a7])
                      focus (clear hW; have p221 := hρ (.tmp 221); (simp (disch := (first | decide | ((try simp only [qa2]); rw [hsz]; decide))) only [ev_eq, ev_ne, a17, a18, a14, a16, a7] at p221); have p222 := hρ (.tmp 222); (simp (disch := (first | decide | ((try simp only [qa2]); rw [hsz]; decide))) only [ev_eq, ev_ne, a17, a18, a14, a16, a7] at p222); have hc : ∀ c, ρ (.const c) = c := (fun c => hρ (.const c)); have hfn : ∀ f, ρ (.func f) = .func (.func f) #[] #[] := (fun f => hρ (.func f)); clear hρ; go_simp; (all_goals (first | (with_reducible rfl) | (constructor <;> with_reducible rfl))))
                      (with_reducible refine qa9 (v := ?_) (t := 213) rfl rfl (by with_unfolding_all rfl) ?_ (fun ρ hρ W hW => ?_) ?_); (rotate_left 1)
                      focus (simp (disch := (first | decide | ((try simp only [qa2]); rw [hsz]; decide))) only [ev_eq, ev_ne, a17, a18, a14, a16, a7])
                      focus (clear hW; have p223 := hρ (.tmp 223); (simp (disch := (first | decide | ((try simp only [qa2]); rw [hsz]; decide))) only [ev_eq, ev_ne, a17, a18, a14, a16, a7] at p223); have hc : ∀ c, ρ (.const c) = c := (fun c => hρ (.const c)); have hfn : ∀ f, ρ (.func f) = .func (.func f) #[] #[] := (fun f => hρ (.func f)); clear hρ; go_simp; (all_goals (first | (with_reducible rfl) | (constructor <;> with_reducible rfl))))
                      (with_reducible refine qa9 (v := ?_) (t := 213) rfl rfl (by with_unfolding_all rfl) ?_ (fun ρ hρ W hW => ?_) ?_); (rotate_left 1)
                      focus (simp (disch := (first | decide | ((try simp only [qa2]); rw [hsz]; decide))) only [ev_eq, ev_ne, a17, a18, a14, a16, a7])
                      focus (have hS := KS.out _ hW; clear hW; have p224 := hρ (.tmp 224); (simp (disch := (first | decide | ((try simp only [qa2]); rw [hsz]; decide))) only [ev_eq, ev_ne, a17, a18, a14, a16, a7] at p224); have hc : ∀ c, ρ (.const c) = c := (fun c => hρ (.const c)); have hfn : ∀ f, ρ (.func f) = .func (.func f) #[] #[] := (fun f => hρ (.func f)); clear hρ; go_simp; (all_goals (first | (with_reducible rfl) | (constructor <;> with_reducible rfl))))
                      (with_reducible refine qa9 (v := .bool false) (t := 213) rfl rfl (by with_unfolding_all rfl) ?_ (fun ρ hρ W hW => ?_) ?_); skip
                      focus (simp (disch := (first | decide | ((try simp only [qa2]); rw [hsz]; decide))) only [ev_eq, ev_ne, a17, a18, a14, a16, a7])
                      focus (clear hW; have p219 := hρ (.tmp 219); (simp (disch := (first | decide | ((try simp only [qa2]); rw [hsz]; decide))) only [ev_eq, ev_ne, a17, a18, a14, a16, a7] at p219); have p225 := hρ (.tmp 225); (simp (disch := (first | decide | ((try simp only [qa2]); rw [hsz]; decide))) only [ev_eq, ev_ne, a17, a18, a14, a16, a7] at p225); have hc : ∀ c, ρ (.const c) = c := (fun c => hρ (.const c)); have hfn : ∀ f, ρ (.func f) = .func (.func f) #[] #[] := (fun f => hρ (.func f)); clear hρ; go_simp; (first | done | (all_goals (first | (with_reducible rfl) | (constructor <;> with_reducible rfl))) | (simp only [s0, tt1, tt2, ok10, yk10]; done) | (simp [s0, tt1, tt2, ok10, yk10]; done) | ((try simp only [s0, tt1, tt2, ok10, yk10]); done)))
                      (with_reducible refine qa9 (v := .bool false) (t := 213) rfl rfl (by with_unfolding_all rfl) ?_ (fun ρ hρ W hW => ?_) ?_); skip
                      focus (simp (disch := (first | decide | ((try simp only [qa2]); rw [hsz]; decide))) only [ev_eq, ev_ne, a17, a18, a14, a16, a7])
                      focus (clear hW; have p226 := hρ (.tmp 226); (simp (disch := (first | decide | ((try simp only [qa2]); rw [hsz]; decide))) only [ev_eq, ev_ne, a17, a18, a14, a16, a7] at p226); have hc : ∀ c, ρ (.const c) = c := (fun c => hρ (.const c)); have hfn : ∀ f, ρ (.func f) = .func (.func f) #[] #[] := (fun f => hρ (.func f)); clear hρ; go_simp; (first | done | (all_goals (first | (with_reducible rfl) | (constructor <;> with_reducible rfl))) | (simp only [s0, tt1, tt2, ok10, yk10]; done) | (simp [s0, tt1, tt2, ok10, yk10]; done) | ((try simp only [s0, tt1, tt2, ok10, yk10]); done)))
                      (with_reducible refine qa9 (v := ?_) (t := 227) rfl rfl (by with_unfolding_all rfl) ?_ (fun ρ hρ W hW => ?_) ?_); (rotate_left 1)
                      focus (simp (disch := (first | decide | ((try simp only [qa2]); rw [hsz]; decide))) only [ev_eq, ev_ne, a17, a18, a14, a16, a7])
                      focus (clear hW; have p7 := hρ (.tmp 7); (simp (disch := (first | decide | ((try simp only [qa2]); rw [hsz]; decide))) only [ev_eq, ev_ne, a17, a18, a14, a16, a7] at p7); have hc : ∀ c, ρ (.const c) = c := (fun c => hρ (.const c)); have hfn : ∀ f, ρ (.func f) = .func (.func f) #[] #[] := (fun f => hρ (.func f)); clear hρ; go_simp; (all_goals (first | (with_reducible rfl) | (constructor <;> with_reducible rfl))))
                      (with_reducible refine qa9 (v := ?_) (t := 227) rfl rfl (by with_unfolding_all rfl) ?_ (fun ρ hρ W hW => ?_) ?_); (rotate_left 1)
                      focus (simp (disch := (first | decide | ((try simp only [qa2]); rw [hsz]; decide))) only [ev_eq, ev_ne, a17, a18, a14, a16, a7])
                      focus (clear hW; have p17 := hρ (.tmp 17); (simp (disch := (first | decide | ((try simp only [qa2]); rw [hsz]; decide))) only [ev_eq, ev_ne, a17, a18, a14, a16, a7] at p17); have hc : ∀ c, ρ (.const c) = c := (fun c => hρ (.const c)); have hfn : ∀ f, ρ (.func f) = .func (.func f) #[] #[] := (fun f => hρ (.func f)); clear hρ; go_simp; (all_goals (first | (with_reducible rfl) | (constructor <;> with_reducible rfl))))
                      (with_reducible refine qa9 (v := ?_) (t := 227) rfl rfl (by with_unfolding_all rfl) ?_ (fun ρ hρ W hW => ?_) ?_); (rotate_left 1)
                      focus (simp (disch := (first | decide | ((try simp only [qa2]); rw [hsz]; decide))) only [ev_eq, ev_ne, a17, a18, a14, a16, a7])
                      focus (have hS := KS.out _ hW; clear hW; have p229 := hρ (.tmp 229); (simp (disch := (first | decide | ((try simp only [qa2]); rw [hsz]; decide))) only [ev_eq, ev_ne, a17, a18, a14, a16, a7] at p229); have hc : ∀ c, ρ (.const c) = c := (fun c => hρ (.const c)); have hfn : ∀ f, ρ (.func f) = .func (.func f) #[] #[] := (fun f => hρ (.func f)); clear hρ; go_simp; (all_goals (first | (with_reducible rfl) | (constructor <;> with_reducible rfl))))
                      (with_reducible refine qa9 (v := ?_) (t := 227) rfl rfl (by with_unfolding_all rfl) ?_ (fun ρ hρ W hW => ?_) ?_); (rotate_left 1)
                      focus (simp (disch := (first | decide | ((try simp only [qa2]); rw [hsz]; decide))) only [ev_eq, ev_ne, a17, a18, a14, a16, a7])
                      focus (clear hW; have p228 := hρ (.tmp 228); (simp (disch := (first | decide | ((try simp only [qa2]); rw [hsz]; decide))) only [ev_eq, ev_ne, a17, a18, a14, a16, a7] at p228); have p230 := hρ (.tmp 230); (simp (disch := (first | decide | ((try simp only [qa2]); rw [hsz]; decide))) only [ev_eq, ev_ne, a17, a18, a14, a16, a7] at p230); have hc : ∀ c, ρ (.const c) = c := (fun c => hρ (.const c)); have hfn : ∀ f, ρ (.func f) = .func (.func f) #[] #[] := (fun f => hρ (.func f)); clear hρ; go_simp; (all_goals (first | (with_reducible rfl) | (constructor <;> with_reducible rfl))))
                      (with_reducible refine qa9 (v := ?_) (t := 227) rfl rfl (by with_unfolding_all rfl) ?_ (fun ρ hρ W hW => ?_) ?_); (rotate_left 1)
                      focus (simp (disch := (first | decide | ((try simp only [qa2]); rw [hsz]; decide))) only [ev_eq, ev_ne, a17, a18, a14, a16, a7])
                      focus (clear hW; have p231 := hρ (.tmp 231); (simp (disch := (first | decide | ((try simp only [qa2]); rw [hsz]; decide))) only [ev_eq, ev_ne, a17, a18, a14, a16, a7] at p231); have hc : ∀ c, ρ (.const c) = c := (fun c => hρ (.const c)); have hfn : ∀ f, ρ (.func f) = .func (.func f) #[] #[] := (fun f => hρ (.func f)); clear hρ; go_simp; (all_goals (first | (with_reducible rfl) | (constructor <;> with_reducible rfl))))
                      (with_reducible refine qa9 (v := ?_) (t := 227) rfl rfl (by with_unfolding_all rfl) ?_ (fun ρ hρ W hW => ?_) ?_); (rotate_left 1)
                      focus (simp (disch := (first | decide | ((try simp only [qa2]); rw [hsz]; decide))) only [ev_eq, ev_ne, a17, a18, a14, a16, a7])
                      focus (have hS := KS.out _ hW; clear hW; have p232 := hρ (.tmp 232); (simp (disch := (first | decide | ((try simp only [qa2]); rw [hsz]; decide))) only [ev_eq, ev_ne, a17, a18, a14, a16, a7] at p232); have hc : ∀ c, ρ (.const c) = c := (fun c => hρ (.const c)); have hfn : ∀ f, ρ (.func f) = .func (.func f) #[] #[] := (fun f => hρ (.func f)); clear hρ; go_simp; (all_goals (first | (with_reducible rfl) | (constructor <;> with_reducible rfl))))
                      (with_reducible refine qa9 (v := ?_) (t := 227) rfl rfl (by with_unfolding_all rfl) ?_ (fun ρ hρ W hW => ?_) ?_); (rotate_left 1)
                      focus (simp (disch := (first | decide | ((try simp only [qa2]); rw [hsz]; decide))) only [ev_eq, ev_ne, a17, a18, a14, a16, a7])
                      focus (clear hW; have p18 := hρ (.tmp 18); (simp (disch := (first | decide | ((try simp only [qa2]); rw [hsz]; decide))) only [ev_eq, ev_ne, a17, a18, a14, a16, a7] at p18); have hc : ∀ c, ρ (.const c) = c := (fun c => hρ (.const c)); have hfn : ∀ f, ρ (.func f) = .func (.func f) #[] #[] := (fun f => hρ (.func f)); clear hρ; go_simp; (all_goals (first | (with_reducible rfl) | (constructor <;> with_reducible rfl))))
                      (with_reducible refine qa9 (v := ?_) (t := 227) rfl rfl (by with_unfolding_all rfl) ?_ (fun ρ hρ W hW => ?_) ?_); (rotate_left 1)
                      focus (simp (disch := (first | decide | ((try simp only [qa2]); rw [hsz]; decide))) only [ev_eq, ev_ne, a17, a18, a14, a16, a7])
                      focus (have hS := KS.out _ hW; clear hW; have p234 := hρ (.tmp 234); (simp (disch := (first | decide | ((try simp only [qa2]); rw [hsz]; decide))) only [ev_eq, ev_ne, a17, a18, a14, a16, a7] at p234); have hc : ∀ c, ρ (.const c) = c := (fun c => hρ (.const c)); have hfn : ∀ f, ρ (.func f) = .func (.func f) #[] #[] := (fun f => hρ (.func f)); clear hρ; go_simp; (all_goals (first | (with_reducible rfl) | (constructor <;> with_reducible rfl))))
                      (with_reducible refine qa9 (v := .bool false) (t := 227) rfl rfl (by with_unfolding_all rfl) ?_ (fun ρ hρ W hW => ?_) ?_); skip
                      focus (simp (disch := (first | decide | ((try simp only [qa2]); rw [hsz]; decide))) only [ev_eq, ev_ne, a17, a18, a14, a16, a7])
                      focus (clear hW; have p233 := hρ (.tmp 233); (simp (disch := (first | decide | ((try simp only [qa2]); rw [hsz]; decide))) only [ev_eq, ev_ne, a17, a18, a14, a16, a7] at p233); have p235 := hρ (.tmp 235); (simp (disch := (first | decide | ((try simp only [qa2]); rw [hsz]; decide))) only [ev_eq, ev_ne, a17, a18, a14, a16, a7] at p235); have hc : ∀ c, ρ (.const c) = c := (fun c => hρ (.const c)); have hfn : ∀ f, ρ (.func f) = .func (.func f) #[] #[] := (fun f => hρ (.func f)); clear hρ; go_simp; (first | done | (all_goals (first | (with_reducible rfl) | (constructor <;> with_reducible rfl))) | (simp only [s0, tt1, tt2, ok10, yk10]; done) | (simp [s0, tt1, tt2, ok10, yk10]; done) | ((try simp only [s0, tt1, tt2, ok10, yk10]); done)))
                      (with_reducible refine qa9 (v := .bool false) (t := 213) rfl rfl (by with_unfolding_all rfl) ?_ (fun ρ hρ W hW => ?_) ?_); skip
                      focus (simp (disch := (first | decide | ((try simp only [qa2]); rw [hsz]; decide))) only [ev_eq, ev_ne, a17, a18, a14, a16, a7])
                      focus (clear hW; have p227 := hρ (.tmp 227); (simp (disch := (first | decide | ((try simp only [qa2]); rw [hsz]; decide))) only [ev_eq, ev_ne, a17, a18, a14, a16, a7] at p227); have p236 := hρ (.tmp 236); (simp (disch := (first | decide | ((try simp only [qa2]); rw [hsz]; decide))) only [ev_eq, ev_ne, a17, a18, a14, a16, a7] at p236); have hc : ∀ c, ρ (.const c) = c := (fun c => hρ (.const c)); have hfn : ∀ f, ρ (.func f) = .func (.func f) #[] #[] := (fun f => hρ (.func f)); clear hρ; go_simp; (first | done | (all_goals (first | (with_reducible rfl) | (constructor <;> with_reducible rfl))) | (simp only [s0, tt1, tt2, ok10, yk10]; done) | (simp [s0, tt1, tt2, ok10, yk10]; done) | ((try simp only [s0, tt1, tt2, ok10, yk10]); done)))
                      (with_reducible refine qa9 (v := .bool false) (t := 213) rfl rfl (by with_unfolding_all rfl) ?_ (fun ρ hρ W hW => ?_) ?_); skip
                      focus (simp (disch := (first | decide | ((try simp only [qa2]); rw [hsz]; decide))) only [ev_eq, ev_ne, a17, a18, a14, a16, a7])
                      focus (clear hW; have p237 := hρ (.tmp 237); (simp (disch := (first | decide | ((try simp only [qa2]); rw [hsz]; decide))) only [ev_eq, ev_ne, a17, a18, a14, a16, a7] at p237); have hc : ∀ c, ρ (.const c) = c := (fun c => hρ (.const c)); have hfn : ∀ f, ρ (.func f) = .func (.func f) #[] #[] := (fun f => hρ (.func f)); clear hρ; go_simp; (first | done | (all_goals (first | (with_reducible rfl) | (constructor <;> with_reducible rfl))) | (simp only [s0, tt1, tt2, ok10, yk10]; done) | (simp [s0, tt1, tt2, ok10, yk10]; done) | ((try simp only [s0, tt1, tt2, ok10, yk10]); done)))
                      (with_reducible refine qa9 (v := ?_) (t := 238) rfl rfl (by with_unfolding_all rfl) ?_ (fun ρ hρ W hW => ?_) ?_); (rotate_left 1)
                      focus (simp (disch := (first | decide | ((try simp only [qa2]); rw [hsz]; decide))) only [ev_eq, ev_ne, a17, a18, a14, a16, a7])
                      focus (clear hW; have p14 := hρ (.tmp 14); (simp (disch := (first | decide | ((try simp only [qa2]); rw [hsz]; decide))) only [ev_eq, ev_ne, a17, a18, a14, a16, a7] at p14); have hc : ∀ c, ρ (.const c) = c := (fun c => hρ (.const c)); have hfn : ∀ f, ρ (.func f) = .func (.func f) #[] #[] := (fun f => hρ (.func f)); clear hρ; go_simp; (all_goals (first | (with_reducible rfl) | (constructor <;> with_reducible rfl))))
                      (with_reducible refine qa9 (v := ?_) (t := 238) rfl rfl (by with_unfolding_all rfl) ?_ (fun ρ hρ W hW => ?_) ?_); (rotate_left 1)
                      focus (simp (disch := (first | decide | ((try simp only [qa2]); rw [hsz]; decide))) only [ev_eq, ev_ne, a17, a18, a14, a16, a7])
                      focus (have hS := KS.out _ hW; clear hW; have p239 := hρ (.tmp 239); (simp (disch := (first | decide | ((try simp only [qa2]); rw [hsz]; decide))) only [ev_eq, ev_ne, a17, a18, a14, a16, a7] at p239); have hc : ∀ c, ρ (.const c) = c := (fun c => hρ (.const c)); have hfn : ∀ f, ρ (.func f) = .func (.func f) #[] #[] := (fun f => hρ (.func f)); clear hρ; go_simp; (all_goals (first | (with_reducible rfl) | (constructor <;> with_reducible rfl))))
                      (with_reducible refine qa9 (v := ?_) (t := 238) rfl rfl (by with_unfolding_all rfl) ?_ (fun ρ hρ W hW => ?_) ?_); (rotate_left 1)
                      focus (simp (disch := (first | decide | ((try simp only [qa2]); rw [hsz]; decide))) only [ev_eq, ev_ne, a17, a18, a14, a16, a7])
                      focus (clear hW; have p16 := hρ (.tmp 16); (simp (disch := (first | decide | ((try simp only [qa2]); rw [hsz]; decide))) only [ev_eq, ev_ne, a17, a18, a14, a16, a7] at p16); have hc : ∀ c, ρ (.const c) = c := (fun c => hρ (.const c)); have hfn : ∀ f, ρ (.func f) = .func (.func f) #[] #[] := (fun f => hρ (.func f)); clear hρ; go_simp; (all_goals (first | (with_reducible rfl) | (constructor <;> with_reducible rfl))))
                      have ha := hA0.out
                      have hS9 := KS.out _ T.out
                      (with_reducible refine qan ?_)
                      (simp only [List.drop_succ_cons, List.drop_zero])
                      (with_reducible refine list_held_g (v := ?_) (w' := ?_) (t := 238) rfl rfl (by with_unfolding_all rfl) ?_ (fun ρ hρ => ?_) ?_); (rotate_left 2)
                      focus (simp (disch := (first | decide | ((try simp only [qa2]); rw [hsz]; decide))) only [ev_eq, ev_ne, a17, a18, a14, a16, a7])
                      focus (have p240 := hρ (.tmp 240); (simp (disch := (first | decide | ((try simp only [qa2]); rw [hsz]; decide))) only [ev_eq, ev_ne, a17, a18, a14, a16, a7] at p240); have p241 := hρ (.tmp 241); (simp (disch := (first | decide | ((try simp only [qa2]); rw [hsz]; decide))) only [ev_eq, ev_ne, a17, a18, a14, a16, a7] at p241); have hc : ∀ c, ρ (.const c) = c := (fun c => hρ (.const c)); have hfn : ∀ f, ρ (.func f) = .func (.func f) #[] #[] := (fun f => hρ (.func f)); clear hρ; go_simp; (all_goals (first | (with_reducible rfl) | (constructor <;> with_reducible rfl))))
                      (with_reducible refine list_held_g (v := ?_) (w' := ?_) (t := 238) rfl rfl (by with_unfolding_all rfl) ?_ (fun ρ hρ => ?_) ?_); (rotate_left 2)
                      focus (simp (disch := (first | decide | ((try simp only [qa2]); rw [hsz]; decide))) only [ev_eq, ev_ne, a17, a18, a14, a16, a7])
                      focus (have p242 := hρ (.tmp 242); (simp (disch := (first | decide | ((try simp only [qa2]); rw [hsz]; decide))) only [ev_eq, ev_ne, a17, a18, a14, a16, a7] at p242); have hc : ∀ c, ρ (.const c) = c := (fun c => hρ (.const c)); have hfn : ∀ f, ρ (.func f) = .func (.func f) #[] #[] := (fun f => hρ (.func f)); clear hρ; go_simp; (all_goals (first | (with_reducible rfl) | (constructor <;> with_reducible rfl))))
                      (with_reducible refine list_held_g (v := ?_) (w' := ?_) (t := 238) rfl rfl (by with_unfolding_all rfl) ?_ (fun ρ hρ => ?_) ?_); (rotate_left 2)
                      focus (simp (disch := (first | decide | ((try simp only [qa2]); rw [hsz]; decide))) only [ev_eq, ev_ne, a17, a18, a14, a16, a7])
                      focus (have p243 := hρ (.tmp 243); (simp (disch := (first | decide | ((try simp only [qa2]); rw [hsz]; decide))) only [ev_eq, ev_ne, a17, a18, a14, a16, a7] at p243); have hc : ∀ c, ρ (.const c) = c := (fun c => hρ (.const c)); have hfn : ∀ f, ρ (.func f) = .func (.func f) #[] #[] := (fun f => hρ (.func f)); clear hρ; go_simp; (all_goals (first | (with_reducible rfl) | (constructor <;> with_reducible rfl))))
                      (with_reducible refine list_held_g (v := .bool false) (w' := ?_) (t := 238) rfl rfl (by with_unfolding_all rfl) ?_ (fun ρ hρ => ?_) ?_); (rotate_left 1)
                      focus (simp (disch := (first | decide | ((try simp only [qa2]); rw [hsz]; decide))) only [ev_eq, ev_ne, a17, a18, a14, a16, a7])
                      focus (have p244 := hρ (.tmp 244); (simp (disch := (first | decide | ((try simp only [qa2]); rw [hsz]; decide))) only [ev_eq, ev_ne, a17, a18, a14, a16, a7] at p244); have hc : ∀ c, ρ (.const c) = c := (fun c => hρ (.const c)); have hfn : ∀ f, ρ (.func f) = .func (.func f) #[] #[] := (fun f => hρ (.func f)); clear hρ; go_simp; (first | done | (all_goals (first | (with_reducible rfl) | (constructor <;> with_reducible rfl))) | (simp only [s0, tt1, tt2, ok10, yk10]; done) | (simp [s0, tt1, tt2, ok10, yk10]; done) | ((try simp only [s0, tt1, tt2, ok10, yk10]); done)))
                      (with_reducible refine list_held_g (v := .bool false) (w' := ?_) (t := 213) rfl rfl (by with_unfolding_all rfl) ?_ (fun ρ hρ => ?_) ?_); (rotate_left 1)
                      focus (simp (disch := (first | decide | ((try simp only [qa2]); rw [hsz]; decide))) only [ev_eq, ev_ne, a17, a18, a14, a16, a7])
                      focus (have p238 := hρ (.tmp 238); (simp (disch := (first | decide | ((try simp only [qa2]); rw [hsz]; decide))) only [ev_eq, ev_ne, a17, a18, a14, a16, a7] at p238); have p245 := hρ (.tmp 245); (simp (disch := (first | decide | ((try simp only [qa2]); rw [hsz]; decide))) only [ev_eq, ev_ne, a17, a18, a14, a16, a7] at p245); have hc : ∀ c, ρ (.const c) = c := (fun c => hρ (.const c)); have hfn : ∀ f, ρ (.func f) = .func (.func f) #[] #[] := (fun f => hρ (.func f)); clear hρ; go_simp; (first | done | (all_goals (first | (with_reducible rfl) | (constructor <;> with_reducible rfl))) | (simp only [s0, tt1, tt2, ok10, yk10]; done) | (simp [s0, tt1, tt2, ok10, yk10]; done) | ((try simp only [s0, tt1, tt2, ok10, yk10]); done)))
                      (with_reducible refine list_held_g (v := .bool false) (w' := ?_) (t := 213) rfl rfl (by with_unfolding_all rfl) ?_ (fun ρ hρ => ?_) ?_); (rotate_left 1)
                      focus (simp (disch := (first | decide | ((try simp only [qa2]); rw [hsz]; decide))) only [ev_eq, ev_ne, a17, a18, a14, a16, a7])
                      focus (have p246 := hρ (.tmp 246); (simp (disch := (first | decide | ((try simp only [qa2]); rw [hsz]; decide))) only [ev_eq, ev_ne, a17, a18, a14, a16, a7] at p246); have hc : ∀ c, ρ (.const c) = c := (fun c => hρ (.const c)); have hfn : ∀ f, ρ (.func f) = .func (.func f) #[] #[] := (fun f => hρ (.func f)); clear hρ; go_simp; (first | done | (all_goals (first | (with_reducible rfl) | (constructor <;> with_reducible rfl))) | (simp only [s0, tt1, tt2, ok10, yk10]; done) | (simp [s0, tt1, tt2, ok10, yk10]; done) | ((try simp only [s0, tt1, tt2, ok10, yk10]); done)))
                      (with_reducible refine list_held_g (v := ?_) (w' := ?_) (t := 247) rfl rfl (by with_unfolding_all rfl) ?_ (fun ρ hρ => ?_) ?_); (rotate_left 2)
                      focus (simp (disch := (first | decide | ((try simp only [qa2]); rw [hsz]; decide))) only [ev_eq, ev_ne, a17, a18, a14, a16, a7])
                      focus (have p18 := hρ (.tmp 18); (simp (disch := (first | decide | ((try simp only [qa2]); rw [hsz]; decide))) only [ev_eq, ev_ne, a17, a18, a14, a16, a7] at p18); have hc : ∀ c, ρ (.const c) = c := (fun c => hρ (.const c)); have hfn : ∀ f, ρ (.func f) = .func (.func f) #[] #[] := (fun f => hρ (.func f)); clear hρ; go_simp; (all_goals (first | (with_reducible rfl) | (constructor <;> with_reducible rfl))))
                      (with_reducible refine list_held_g (v := ?_) (w' := ?_) (t := 247) rfl rfl (by with_unfolding_all rfl) ?_ (fun ρ hρ => ?_) ?_); (rotate_left 2)
                      focus (simp (disch := (first | decide | ((try simp only [qa2]); rw [hsz]; decide))) only [ev_eq, ev_ne, a17, a18, a14, a16, a7])
                      focus (have p248 := hρ (.tmp 248); (simp (disch := (first | decide | ((try simp only [qa2]); rw [hsz]; decide))) only [ev_eq, ev_ne, a17, a18, a14, a16, a7] at p248); have hc : ∀ c, ρ (.const c) = c := (fun c => hρ (.const c)); have hfn : ∀ f, ρ (.func f) = .func (.func f) #[] #[] := (fun f => hρ (.func f)); clear hρ; go_simp; (all_goals (first | (with_reducible rfl) | (constructor <;> with_reducible rfl))))
                      (with_reducible refine list_held_g (v := .bool false) (w' := ?_) (t := 247) rfl rfl (by with_unfolding_all rfl) ?_ (fun ρ hρ => ?_) ?_); (rotate_left 1)
                      focus (simp (disch := (first | decide | ((try simp only [qa2]); rw [hsz]; decide))) only [ev_eq, ev_ne, a17, a18, a14, a16, a7])
                      focus (have p249 := hρ (.tmp 249); (simp (disch := (first | decide | ((try simp only [qa2]); rw [hsz]; decide))) only [ev_eq, ev_ne, a17, a18, a14, a16, a7] at p249); have hc : ∀ c, ρ (.const c) = c := (fun c => hρ (.const c)); have hfn : ∀ f, ρ (.func f) = .func (.func f) #[] #[] := (fun f => hρ (.func f)); clear hρ; go_simp; (first | done | (all_goals (first | (with_reducible rfl) | (constructor <;> with_reducible rfl))) | (simp only [s0, tt1, tt2, ok10, yk10]; done) | (simp [s0, tt1, tt2, ok10, yk10]; done) | ((try simp only [s0, tt1, tt2, ok10, yk10]); done)))
                      (with_reducible refine list_held_g (v := .bool false) (w' := ?_) (t := 213) rfl rfl (by with_unfolding_all rfl) ?_ (fun ρ hρ => ?_) ?_); (rotate_left 1)
                      focus (simp (disch := (first | decide | ((try simp only [qa2]); rw [hsz]; decide))) only [ev_eq, ev_ne, a17, a18, a14, a16, a7])
                      focus (have p247 := hρ (.tmp 247); (simp (disch := (first | decide | ((try simp only [qa2]); rw [hsz]; decide))) only [ev_eq, ev_ne, a17, a18, a14, a16, a7] at p247); have p250 := hρ (.tmp 250); (simp (disch := (first | decide | ((try simp only [qa2]); rw [hsz]; decide))) only [ev_eq, ev_ne, a17, a18, a14, a16, a7] at p250); have hc : ∀ c, ρ (.const c) = c := (fun c => hρ (.const c)); have hfn : ∀ f, ρ (.func f) = .func (.func f) #[] #[] := (fun f => hρ (.func f)); clear hρ; go_simp; (first | done | (all_goals (first | (with_reducible rfl) | (constructor <;> with_reducible rfl))) | (simp only [s0, tt1, tt2, ok10, yk10]; done) | (simp [s0, tt1, tt2, ok10, yk10]; done) | ((try simp only [s0, tt1, tt2, ok10, yk10]); done)))
                      (with_reducible refine qdb (v := .bool false) (w' := ?_) rfl (by with_unfolding_all rfl) (fun ρ hρ => ?_) ?_); (rotate_left 1)
                      focus (have p213 := hρ (.tmp 213); (simp (disch := (first | decide | ((try simp only [qa2]); rw [hsz]; decide))) only [ev_eq, ev_ne, a17, a18, a14, a16, a7] at p213); have p251 := hρ (.tmp 251); (simp (disch := (first | decide | ((try simp only [qa2]); rw [hsz]; decide))) only [ev_eq, ev_ne, a17, a18, a14, a16, a7] at p251); have hc : ∀ c, ρ (.const c) = c := (fun c => hρ (.const c)); have hfn : ∀ f, ρ (.func f) = .func (.func f) #[] #[] := (fun f => hρ (.func f)); clear hρ; go_simp; (first | done | (all_goals (first | (with_reducible rfl) | (constructor <;> with_reducible rfl))) | (simp only [s0, tt1, tt2, ok10, yk10]; done) | (simp [s0, tt1, tt2, ok10, yk10]; done) | ((try simp only [s0, tt1, tt2, ok10, yk10]); done)))
                      refine wpList_nil ?_
                      subst ha
                      (simp only [qaz, set_s, set_z])
                      (first | go_meet | (go_wp2; go_meet))
                      exact ⟨rfl, Lib.hid (HBK.out _ T.out)⟩
                  case rest => as_aux_lemma =>
                    obtain ⟨h252, T⟩ := hcut
                    subst h252
                    go_upto_region 26 with (fail)
                    rcases hsub with ⟨hs, hm⟩ | ⟨s, y, hs, hry, h10, y10, s1, LS0⟩
                    · rw [hs] at T
                      clear s2 s3 hs HVO
                      have d1 := T.out.cell 1 rfl 1
                      have d2 := T.out.cell 1 rfl 2
                      have dg := T.out.cell 3 rfl 1
                      dsimp only at d1 d2 dg
                      have do5 := T.out.bel.some OC.out.2.1
                      by_cases h10 : o.kind = 10
                      · have ok10 : (o.kind == 10) = true := by rw [h10]; rfl
                        obtain ⟨k5, k6⟩ := hm h10
                        clear h10 hm
                        go_wp2
                        go_roundw
                        case rel => exact ⟨i + 1, by omega, by go_num, Lib.hid T.out.dropbox0.dropbox0⟩
                        case measure => simp [intOf]; omega
                      · have ok10 : (o.kind == 10) = false := beq_eq_false_iff_ne.2 h10
                        clear h10 hm
                        go_wp2
                        go_roundw
                        case rel => exact ⟨i + 1, by omega, by go_num, Lib.hid T.out.dropbox0.dropbox0⟩
                        case measure => simp [intOf]; omega
                    · have T := Lib.hid (show ST w2 [] [⟨rb, #[.int .i64 y.num, .string (S y.name), .string (S y.ali), .int .i64 y.card, .int .i64 y.key, .int .i64 y.kind, .int .i64 y.tgt, .int .i64 y.un], 54⟩, ⟨ab, #[.int .i64 c.num, .int .i64 c.kind, .int .i64 (s : Int)], 38⟩, ⟨hb, #[.string (S h.name), .slice hq h.ops.length hc, .int .i64 h.uns], 52⟩, ⟨gb, #[.string (S g.name), .slice (some ⟨gb3, off3, none⟩) g.ops.length gc, .int .i64 g.uns], 52⟩] wc from by have h1 := T.out; rw [hs, HVO.out, hry] at h1; exact h1)
                      clear s2 s3 hs HVO hry h10 y10 LS0
                      have d1 := T.out.cell 1 rfl 1
                      have d2 := T.out.cell 1 rfl 2
                      have dg := T.out.cell 3 rfl 1
                      dsimp only at d1 d2 dg
                      have do5 := T.out.bel.some OC.out.2.1
                      have s4 : ¬ (s : Int) < 0 := by omega
                      go_wp2
                      go_roundw
                      case rel => exact ⟨i + 1, by omega, by go_num, Lib.hid T.out.dropbox0.dropbox0⟩
                      case measure => simp [intOf]; omega
            · have hki : ¬ (i : Int) < (g.ops.length : Int) := by omega
              clear EI HRES EA HLS VH
              go_upto_region 30 with (fail)
              clear f0
              go_loopw [20, 21] (fun kk ii wr => ∃ i : Nat, i ≤ h.ops.length ∧ kk = .int .i64 (lackN g h i : Int) ∧ ii = .int .i64 i ∧ Hid (ST w2 [] [⟨hb, #[.string (S h.name), .slice hq h.ops.length hc, .int .i64 h.uns], 52⟩, ⟨gb, #[.string (S g.name), .slice gq g.ops.length gc, .int .i64 g.uns], 52⟩] wr)) (fun _ ii _ => h.ops.length - (intOf ii).toNat)
              case atStart => exact ⟨0, by omega, rfl, rfl, hS⟩
              case round => as_aux_lemma =>
                clear hS
                obtain ⟨i, hi, rfl, rfl, hS⟩ := hrel
                have f0 := hS.out.cell 0 rfl 1
                dsimp only at f0
                by_cases hlt2 : i < h.ops.length
                · skip
                  have hki : (i : Int) < (h.ops.length : Int) := by omega
                  have hi0 : (0 : Int) ≤ (i : Int) := by omega
                  have hgo : h.ops[i]? = some h.ops[i] := List.getElem?_eq_getElem hlt2
                  obtain ⟨gb3, off3, hq3, hbs3, vs3, hce3, hvs3⟩ := EJ.out i _ hgo
                  subst hq3
                  have HY := Lib.hid (show ∀ P, lackP g h.ops[i] = P → (P = true → x.lacks[lackN g h i]? = some (h.ops[i]).num) ∧ lackN g h (i + 1) = lackN g h i + if P = true then 1 else 0 from fun P hP => ⟨fun hp => by rw [HLK.out]; exact lack_at hgo (hP.trans hp), by rw [← hP]; exact filt_suc hgo⟩)
                  clear EJ
                  generalize h.ops[i] = o at *
                  obtain rfl : vs3 = opC o := hvs3
                  have OC := Lib.hid (show w2.cell? ⟨gb3, off3 + i * 8, none⟩ = some (.int .i64 o.num) ∧ w2.cell? ⟨gb3, off3 + i * 8 + 3, none⟩ = some (.int .i64 o.card) from ⟨by have := K2W.out.some (hce3 0 _ rfl); rwa [Nat.add_zero] at this, K2W.out.some (hce3 3 _ rfl)⟩)
                  have CO := (fun WW (k : Bel w2 WW) => rf_Op g _ o.num WW (VProg.stays _ _ _ _ k VG.out))
                  unfold OpOut at CO
                  clear hce3 hbs3 hgo
                  go_upto_region 32 with (fail)
                  clear f0
                  generalize hr : opOf g o.num = r at CO
                  obtain ⟨vo, hvo⟩ : ∃ vo, vo = opV r := ⟨_, rfl⟩
                  have Z0 : vo.toArray.size = 8 := by rw [hvo, List.size_toArray]; exact qhg r
                  have Z1 := Lib.hid (show (Tryz.prog.info? 54).map (·.size) = some vo.toArray.size by rw [Z0]; exact qg3)
                  have Z2 := Lib.hid (show (#[.int .i64 0, .string ⟨#[]⟩, .string ⟨#[]⟩, .int .i64 0, .int .i64 0, .int .i64 0, .int .i64 0, .int .i64 0] : Array Value).size = vo.toArray.size by rw [Z0]; rfl)
                  have HO := Lib.hid (show vo.toArray.all (·.oneCell') = true by rw [hvo]; exact qd2 r)
                  rw [← hvo] at CO
                  have CO := Lib.hid CO
                  have HR := Lib.hid hr
                  clear Z0 hvo hr
                  go_cut [22, 23] (fun s22 s23 wx => ∃ rb, s22 = .pointer (some ⟨rb, 0, none⟩) ∧ s23 = .bool (opB r) ∧ Hid (ST w2 [] [⟨hb, #[.string (S h.name), .slice (some ⟨gb3, off3, none⟩) h.ops.length hc, .int .i64 h.uns], 52⟩, ⟨gb, #[.string (S g.name), .slice gq g.ops.length gc, .int .i64 g.uns], 52⟩] wx))
                  case first => as_aux_lemma =>
                    obtain ⟨wd, hwd⟩ : ∃ wd, wd = wr.drew := ⟨_, rfl⟩
                    have T := Lib.hid (show ST w2 [] [⟨hb, #[.string (S h.name), .slice (some ⟨gb3, off3, none⟩) h.ops.length hc, .int .i64 h.uns], 52⟩, ⟨gb, #[.string (S g.name), .slice gq g.ops.length gc, .int .i64 g.uns], 52⟩] wd by rw [hwd]; exact hS.out.belw (Bel.refl _).drew)
                    have HWD := Lib.hid hwd
                    clear hwd hS HR HY LC CA EL HLK
                    generalize opB r = ok at *
                    have KS := Lib.hid (fun WW (hh : ST w2 [] [⟨hb, #[.string (S h.name), .slice (some ⟨gb3, off3, none⟩) h.ops.length hc, .int .i64 h.uns], 52⟩, ⟨gb, #[.string (S g.name), .slice gq g.ops.length gc, .int .i64 g.uns], 52⟩] WW) => show WW.cell? ⟨gb, 0, none⟩ = some (.string (S g.name)) ∧ WW.cell? ⟨gb, 1, none⟩ = some (.slice gq g.ops.length gc) ∧ WW.cell? ⟨gb, 2, none⟩ = some (.int .i64 g.uns) ∧ WW.cell? ⟨hb, 1, none⟩ = some (.slice (some ⟨gb3, off3, none⟩) h.ops.length hc) ∧ WW.cell? ⟨gb3, off3 + i * 8, none⟩ = some (.int .i64 o.num) from ⟨hh.cell 1 rfl 0, hh.cell 1 rfl 1, hh.cell 1 rfl 2, hh.cell 0 rfl 1, hh.bel.some OC.out.1⟩)
                    refine qag (fun WW => ST w2 [] [⟨hb, #[.string (S h.name), .slice (some ⟨gb3, off3, none⟩) h.ops.length hc, .int .i64 h.uns], 52⟩, ⟨gb, #[.string (S g.name), .slice gq g.ops.length gc, .int .i64 g.uns], 52⟩] WW) (.take 0 (.take 1 (.take 2 (.take 3 (.take 4 (.take 5 (.take 6 (.alt 7 (.take 8 (.take 9 (.take 10 (.alt 11 (.alt 12 .done .no) .no)))) (.alt 11 (.alt 7 (.take 8 (.take 9 (.take 10 (.alt 12 .done .no)))) .no) .no))))))))) 13 (by kernel_rfl) (by kernel_rfl) HWD.out T.out (fun a ha => ?_)
                    (simp only [pickT, List.getD_cons_zero, List.getD_cons_succ])
                    have hsz : a.tmps.size = 339 := (by rw [ha]; kernel_rfl)
                    have a14 : a.eval (.tmp 14) = .pointer (some ⟨gb, 0, none⟩) := (by rw [ha]; kernel_rfl)
                    have a15 : a.eval (.tmp 15) = .pointer (some ⟨hb, 0, none⟩) := (by rw [ha]; kernel_rfl)
                    have a21 : a.eval (.tmp 21) = .int .i64 i := (by rw [ha]; kernel_rfl)
                    (with_reducible refine qa1 (v := ?_) rfl (by with_unfolding_all rfl) (fun ρ hρ W hW => ?_) ?_); (rotate_left 1)
                    focus (have hS := KS.out _ hW; clear hW; have p14 := hρ (.tmp 14); (simp (disch := (first | decide | ((try simp only [qa2]); rw [hsz]; decide))) only [ev_eq, ev_ne, a14, a15, a21] at p14); have hc : ∀ c, ρ (.const c) = c := (fun c => hρ (.const c)); have hfn : ∀ f, ρ (.func f) = .func (.func f) #[] #[] := (fun f => hρ (.func f)); clear hρ; go_simp; (all_goals (first | (with_reducible rfl) | (constructor <;> with_reducible rfl))))
                    (with_reducible refine qa1 (v := ?_) rfl (by with_unfolding_all rfl) (fun ρ hρ W hW => ?_) ?_); (rotate_left 1)
                    focus (clear hW; have p15 := hρ (.tmp 15); (simp (disch := (first | decide | ((try simp only [qa2]); rw [hsz]; decide))) only [ev_eq, ev_ne, a14, a15, a21] at p15); have hc : ∀ c, ρ (.const c) = c := (fun c => hρ (.const c)); have hfn : ∀ f, ρ (.func f) = .func (.func f) #[] #[] := (fun f => hρ (.func f)); clear hρ; go_simp; (all_goals (first | (with_reducible rfl) | (constructor <;> with_reducible rfl))))
                    (with_reducible refine qa1 (v := ?_) rfl (by with_unfolding_all rfl) (fun ρ hρ W hW => ?_) ?_); (rotate_left 1)
                    focus (have hS := KS.out _ hW; clear hW; have p284 := hρ (.tmp 284); (simp (disch := (first | decide | ((try simp only [qa2]); rw [hsz]; decide))) only [ev_eq, ev_ne, a14, a15, a21] at p284); have hc : ∀ c, ρ (.const c) = c := (fun c => hρ (.const c)); have hfn : ∀ f, ρ (.func f) = .func (.func f) #[] #[] := (fun f => hρ (.func f)); clear hρ; go_simp; (all_goals (first | (with_reducible rfl) | (constructor <;> with_reducible rfl))))
                    (with_reducible refine qa1 (v := ?_) rfl (by with_unfolding_all rfl) (fun ρ hρ W hW => ?_) ?_); (rotate_left 1)
                    focus (clear hW; have p21 := hρ (.tmp 21); (simp (disch := (first | decide | ((try simp only [qa2]); rw [hsz]; decide))) only [ev_eq, ev_ne, a14, a15, a21] at p21); have hc : ∀ c, ρ (.const c) = c := (fun c => hρ (.const c)); have hfn : ∀ f, ρ (.func f) = .func (.func f) #[] #[] := (fun f => hρ (.func f)); clear hρ; go_simp; (all_goals (first | (with_reducible rfl) | (constructor <;> with_reducible rfl))))
                    (with_reducible refine qa1 (v := ?_) rfl (by with_unfolding_all rfl) (fun ρ hρ W hW => ?_) ?_); (rotate_left 1)
                    focus (clear hW; have p285 := hρ (.tmp 285); (simp (disch := (first | decide | ((try simp only [qa2]); rw [hsz]; decide))) only [ev_eq, ev_ne, a14, a15, a21] at p285); have p286 := hρ (.tmp 286); (simp (disch := (first | decide | ((try simp only [qa2]); rw [hsz]; decide))) only [ev_eq, ev_ne, a14, a15, a21] at p286); have hc : ∀ c, ρ (.const c) = c := (fun c => hρ (.const c)); have hfn : ∀ f, ρ (.func f) = .func (.func f) #[] #[] := (fun f => hρ (.func f)); clear hρ; go_simp; (all_goals (first | (with_reducible rfl) | (constructor <;> with_reducible rfl))))
                    (with_reducible refine qa1 (v := ?_) rfl (by with_unfolding_all rfl) (fun ρ hρ W hW => ?_) ?_); (rotate_left 1)
                    focus (clear hW; have p287 := hρ (.tmp 287); (simp (disch := (first | decide | ((try simp only [qa2]); rw [hsz]; decide))) only [ev_eq, ev_ne, a14, a15, a21] at p287); have hc : ∀ c, ρ (.const c) = c := (fun c => hρ (.const c)); have hfn : ∀ f, ρ (.func f) = .func (.func f) #[] #[] := (fun f => hρ (.func f)); clear hρ; go_simp; (all_goals (first | (with_reducible rfl) | (constructor <;> with_reducible rfl))))
                    (with_reducible refine qa1 (v := ?_) rfl (by with_unfolding_all rfl) (fun ρ hρ W hW => ?_) ?_); (rotate_left 1)
                    focus (have hS := KS.out _ hW; clear hW; have p288 := hρ (.tmp 288); (simp (disch := (first | decide | ((try simp only [qa2]); rw [hsz]; decide))) only [ev_eq, ev_ne, a14, a15, a21] at p288); have hc : ∀ c, ρ (.const c) = c := (fun c => hρ (.const c)); have hfn : ∀ f, ρ (.func f) = .func (.func f) #[] #[] := (fun f => hρ (.func f)); clear hρ; go_simp; (all_goals (first | (with_reducible rfl) | (constructor <;> with_reducible rfl))))
                    (with_reducible refine qbe (f := ?_) (args := ?_) rfl (by with_unfolding_all rfl) (fun ρ hρ => ?_) ?_ ?_); (rotate_left 2)
                    focus (have p283 := hρ (.tmp 283); (simp (disch := (first | decide | ((try simp only [qa2]); rw [hsz]; decide))) only [ev_eq, ev_ne, a14, a15, a21] at p283); have p289 := hρ (.tmp 289); (simp (disch := (first | decide | ((try simp only [qa2]); rw [hsz]; decide))) only [ev_eq, ev_ne, a14, a15, a21] at p289); have hc : ∀ c, ρ (.const c) = c := (fun c => hρ (.const c)); have hfn : ∀ f, ρ (.func f) = .func (.func f) #[] #[] := (fun f => hρ (.func f)); clear hρ; rw [qad (hfn _)]; clear hfn; go_simp; (all_goals (first | (with_reducible rfl) | (constructor <;> with_reducible rfl))))
                    (with_reducible refine (CO.out _ T.out.bel).mono ?_)
                    rintro e w_7 ⟨rfl, g⟩
                    have g : Bel wd w_7 := g
                    have T := Lib.hid (T.out.belw g)
                    clear g
                    refine ⟨_, rfl, T.out, ?_⟩
                    · (with_reducible refine qa1 (v := ?_) rfl (by with_unfolding_all rfl) (fun ρ hρ W hW => ?_) ?_); (rotate_left 1)
                      focus (clear hW; have p290 := hρ (.tmp 290); (simp (disch := (first | decide | ((try simp only [qa2]); rw [hsz]; decide))) only [ev_eq, ev_ne, a14, a15, a21] at p290); have hc : ∀ c, ρ (.const c) = c := (fun c => hρ (.const c)); have hfn : ∀ f, ρ (.func f) = .func (.func f) #[] #[] := (fun f => hρ (.func f)); clear hρ; go_simp; (all_goals (first | (with_reducible rfl) | (constructor <;> with_reducible rfl))))
                      (with_reducible refine qa1 (v := ?_) rfl (by with_unfolding_all rfl) (fun ρ hρ W hW => ?_) ?_); (rotate_left 1)
                      focus (clear hW; have p282 := hρ (.tmp 282); (simp (disch := (first | decide | ((try simp only [qa2]); rw [hsz]; decide))) only [ev_eq, ev_ne, a14, a15, a21] at p282); have hc : ∀ c, ρ (.const c) = c := (fun c => hρ (.const c)); have hfn : ∀ f, ρ (.func f) = .func (.func f) #[] #[] := (fun f => hρ (.func f)); clear hρ; go_simp; (all_goals (first | (with_reducible rfl) | (constructor <;> with_reducible rfl))))
                      (with_reducible refine qa1 (v := ?_) rfl (by with_unfolding_all rfl) (fun ρ hρ W hW => ?_) ?_); (rotate_left 1)
                      focus (clear hW; have p282 := hρ (.tmp 282); (simp (disch := (first | decide | ((try simp only [qa2]); rw [hsz]; decide))) only [ev_eq, ev_ne, a14, a15, a21] at p282); have hc : ∀ c, ρ (.const c) = c := (fun c => hρ (.const c)); have hfn : ∀ f, ρ (.func f) = .func (.func f) #[] #[] := (fun f => hρ (.func f)); clear hρ; go_simp; (all_goals (first | (with_reducible rfl) | (constructor <;> with_reducible rfl))))
                      (with_reducible refine qb2 (v := ?_) (w' := ?_) rfl (by with_unfolding_all rfl) (fun ρ hρ => ?_) ?_ ?_ ?_); (rotate_left 2)
                      focus (have hc : ∀ c, ρ (.const c) = c := (fun c => hρ (.const c)); have hfn : ∀ f, ρ (.func f) = .func (.func f) #[] #[] := (fun f => hρ (.func f)); clear hρ; go_simp; (all_goals (first | (with_reducible rfl) | (constructor <;> with_reducible rfl))))
                      focus exact (T.out.addbox #[.int .i64 0, .string ⟨#[]⟩, .string ⟨#[]⟩, .int .i64 0, .int .i64 0, .int .i64 0, .int .i64 0, .int .i64 0] 54).dropbox0
                      have T := Lib.hid (T.out.addbox #[.int .i64 0, .string ⟨#[]⟩, .string ⟨#[]⟩, .int .i64 0, .int .i64 0, .int .i64 0, .int .i64 0, .int .i64 0] 54)
                      generalize hA : World.alloc w_7 _ = w_11 at T ⊢
                      clear hA
                      rotate_left 1
                      focus exact qak
                      (refine qb1 rfl 54 (.tmp 22) (.tmp 291) (by with_unfolding_all rfl) _ vo.toArray #[.int .i64 0, .string ⟨#[]⟩, .string ⟨#[]⟩, .int .i64 0, .int .i64 0, .int .i64 0, .int .i64 0, .int .i64 0] 54 ?_ ?_ (T.out.box 0 rfl) Z1.out Z2.out HO.out ?_ ?_ ?_)
                      focus (simp (disch := (first | decide | ((try simp only [qa2]); rw [hsz]; decide))) only [ev_eq, ev_ne, a14, a15, a21])
                      focus (simp (disch := (first | decide | ((try simp only [qa2]); rw [hsz]; decide))) only [ev_eq, ev_ne, a14, a15, a21])
                      focus exact (T.out.setrowbox 0 rfl vo.toArray).dropbox0
                      have T := Lib.hid (T.out.setrowbox 0 rfl vo.toArray)
                      generalize hA : World.setRow w_11 _ _ = w_12 at T ⊢
                      clear hA
                      rotate_left 1
                      focus exact qak
                      (with_reducible refine qan ?_)
                      (simp only [List.drop_succ_cons, List.drop_zero])
                      subst ha
                      (simp only [qaz, set_s, set_z])
                      go_wp2
                      go_meet
                      exact ⟨_, rfl, rfl, Lib.hid T.out.dropbox0⟩
                    (with_reducible refine qb2 (v := ?_) (w' := ?_) rfl (by with_unfolding_all rfl) (fun ρ hρ => ?_) ?_ ?_ ?_); (rotate_left 2)
                    focus (have hc : ∀ c, ρ (.const c) = c := (fun c => hρ (.const c)); have hfn : ∀ f, ρ (.func f) = .func (.func f) #[] #[] := (fun f => hρ (.func f)); clear hρ; go_simp; (all_goals (first | (with_reducible rfl) | (constructor <;> with_reducible rfl))))
                    focus exact (T.out.addbox #[.int .i64 0, .string ⟨#[]⟩, .string ⟨#[]⟩, .int .i64 0, .int .i64 0, .int .i64 0, .int .i64 0, .int .i64 0] 54).dropbox0
                    have T := Lib.hid (T.out.addbox #[.int .i64 0, .string ⟨#[]⟩, .string ⟨#[]⟩, .int .i64 0, .int .i64 0, .int .i64 0, .int .i64 0, .int .i64 0] 54)
                    generalize hA : World.alloc wd _ = w_11 at T ⊢
                    clear hA
                    rotate_left 1
                    focus exact qak
                    (with_reducible refine qbe (f := ?_) (args := ?_) rfl (by with_unfolding_all rfl) (fun ρ hρ => ?_) ?_ ?_); (rotate_left 2)
                    focus (have p283 := hρ (.tmp 283); (simp (disch := (first | decide | ((try simp only [qa2]); rw [hsz]; decide))) only [ev_eq, ev_ne, a14, a15, a21] at p283); have p289 := hρ (.tmp 289); (simp (disch := (first | decide | ((try simp only [qa2]); rw [hsz]; decide))) only [ev_eq, ev_ne, a14, a15, a21] at p289); have hc : ∀ c, ρ (.const c) = c := (fun c => hρ (.const c)); have hfn : ∀ f, ρ (.func f) = .func (.func f) #[] #[] := (fun f => hρ (.func f)); clear hρ; rw [qad (hfn _)]; clear hfn; go_simp; (all_goals (first | (with_reducible rfl) | (constructor <;> with_reducible rfl))))
                    (with_reducible refine (CO.out _ T.out.bel).mono ?_)
                    rintro e w_7 ⟨rfl, g⟩
                    have g : Bel w_11 w_7 := g
                    have T := Lib.hid (T.out.belw g)
                    clear g
                    refine ⟨_, rfl, T.out.dropbox0, ?_⟩
                    rotate_left 1
                    focus exact qak
                    (with_reducible refine qa1 (v := ?_) rfl (by with_unfolding_all rfl) (fun ρ hρ W hW => ?_) ?_); (rotate_left 1)
                    focus (clear hW; have p290 := hρ (.tmp 290); (simp (disch := (first | decide | ((try simp only [qa2]); rw [hsz]; decide))) only [ev_eq, ev_ne, a14, a15, a21] at p290); have hc : ∀ c, ρ (.const c) = c := (fun c => hρ (.const c)); have hfn : ∀ f, ρ (.func f) = .func (.func f) #[] #[] := (fun f => hρ (.func f)); clear hρ; go_simp; (all_goals (first | (with_reducible rfl) | (constructor <;> with_reducible rfl))))
                    (with_reducible refine qa1 (v := ?_) rfl (by with_unfolding_all rfl) (fun ρ hρ W hW => ?_) ?_); (rotate_left 1)
                    focus (clear hW; have p282 := hρ (.tmp 282); (simp (disch := (first | decide | ((try simp only [qa2]); rw [hsz]; decide))) only [ev_eq, ev_ne, a14, a15, a21] at p282); have hc : ∀ c, ρ (.const c) = c := (fun c => hρ (.const c)); have hfn : ∀ f, ρ (.func f) = .func (.func f) #[] #[] := (fun f => hρ (.func f)); clear hρ; go_simp; (all_goals (first | (with_reducible rfl) | (constructor <;> with_reducible rfl))))
                    (with_reducible refine qa1 (v := ?_) rfl (by with_unfolding_all rfl) (fun ρ hρ W hW => ?_) ?_); (rotate_left 1)
                    focus (clear hW; have p282 := hρ (.tmp 282); (simp (disch := (first | decide | ((try simp only [qa2]); rw [hsz]; decide))) only [ev_eq, ev_ne, a14, a15, a21] at p282); have hc : ∀ c, ρ (.const c) = c := (fun c => hρ (.const c)); have hfn : ∀ f, ρ (.func f) = .func (.func f) #[] #[] := (fun f => hρ (.func f)); clear hρ; go_simp; (all_goals (first | (with_reducible rfl) | (constructor <;> with_reducible rfl))))
                    (refine qb1 rfl 54 (.tmp 22) (.tmp 291) (by with_unfolding_all rfl) _ vo.toArray #[.int .i64 0, .string ⟨#[]⟩, .string ⟨#[]⟩, .int .i64 0, .int .i64 0, .int .i64 0, .int .i64 0, .int .i64 0] 54 ?_ ?_ (T.out.box 0 rfl) Z1.out Z2.out HO.out ?_ ?_ ?_)
                    focus (simp (disch := (first | decide | ((try simp only [qa2]); rw [hsz]; decide))) only [ev_eq, ev_ne, a14, a15, a21])
                    focus (simp (disch := (first | decide | ((try simp only [qa2]); rw [hsz]; decide))) only [ev_eq, ev_ne, a14, a15, a21])
                    focus exact (T.out.setrowbox 0 rfl vo.toArray).dropbox0
                    have T := Lib.hid (T.out.setrowbox 0 rfl vo.toArray)
                    generalize hA : World.setRow w_7 _ _ = w_12 at T ⊢
                    clear hA
                    rotate_left 1
                    focus exact qak
                    (with_reducible refine qan ?_)
                    (simp only [List.drop_succ_cons, List.drop_zero])
                    subst ha
                    (simp only [qaz, set_s, set_z])
                    go_wp2
                    go_meet
                    exact ⟨_, rfl, rfl, Lib.hid T.out.dropbox0⟩
                  case rest => as_aux_lemma =>
                    obtain ⟨rb, h22, h23, T⟩ := hcut
                    subst h22 h23
                    clear Z1 Z2 HO CO hS CA
                    have hr := HR.out
                    have f0 := T.out.cell 0 rfl 1
                    dsimp only at f0
                    have do3 := T.out.bel.some OC.out.2
                    have do0 := T.out.bel.some OC.out.1
                    clear HR
                    cases r with
                    | some y =>
                      obtain ⟨_, hN⟩ := HY.out false (by unfold lackP; rw [hr]; rfl)
                      rw [if_neg (by decide)] at hN
                      have ob1 : opB (some y) = true := rfl
                      have HN := Lib.hid (show lackN g h (i + 1) = lackN g h i from hN)
                      clear HY hr hN LC EL HLK
                      go_wp2
                      go_roundw
                      case rel => exact ⟨i + 1, by omega, by rw [HN.out], by go_num, T⟩
                      case measure => simp [intOf]; omega
                    | none =>
                      have ob1 : opB none = false := rfl
                      by_cases hc1 : o.card = 1
                      · have hcb : (o.card != 1) = false := by rw [hc1]; rfl
                        obtain ⟨hA, hN⟩ := HY.out true (by unfold lackP; rw [hr, hc1]; rfl)
                        rw [if_pos rfl] at hN
                        have hA := hA rfl
                        obtain ⟨N, hNN⟩ : ∃ N, N = lackN g h i := ⟨_, rfl⟩
                        rw [← hNN] at hN hA ⊢
                        have hNl : N < x.lacks.length := (List.getElem?_eq_some_iff.1 hA).1
                        obtain ⟨kb, koff, hqk, hbsk, vsk, hcek, hvsk⟩ := EK.out N _ hA
                        subst hqk
                        obtain rfl : vsk = [.int .i64 o.num] := hvsk
                        have KN := Lib.hid (hcek 0 _ rfl)
                        have nn : (o.num != o.num) = false := by simp
                        have N0 : (0 : Int) ≤ (N : Int) := by omega
                        have N1 : (N : Int) < (x.lacks.length : Int) := by omega
                        have N2 : ¬ (x.lacks.length : Int) ≤ (N : Int) := by omega
                        have N3 : (N : Int) + 1 ≤ 9223372036854775807 := by omega
                        have HN := Lib.hid hN
                        clear HY hr hN hA hc1 EL HLK hNN hcek hbsk
                        go_upto_region 34 with (fail)
                        clear f0 do3 do0
                        obtain ⟨wd, hwd⟩ : ∃ x, x = wc.drew := ⟨_, rfl⟩
                        have T := Lib.hid (show ST w2 [] [⟨hb, #[.string (S h.name), .slice (some ⟨gb3, off3, none⟩) h.ops.length hc, .int .i64 h.uns], 52⟩, ⟨gb, #[.string (S g.name), .slice gq g.ops.length gc, .int .i64 g.uns], 52⟩] wd by rw [hwd]; exact T.out.belw (Bel.refl _).drew)
                        have HWD := Lib.hid hwd
                        clear hwd
                        have KS := Lib.hid (fun WW (hh : ST w2 [] [⟨hb, #[.string (S h.name), .slice (some ⟨gb3, off3, none⟩) h.ops.length hc, .int .i64 h.uns], 52⟩, ⟨gb, #[.string (S g.name), .slice gq g.ops.length gc, .int .i64 g.uns], 52⟩] WW) => show WW.cell? ⟨lb, loff + n * 4 + 3, none⟩ = some (.slice (some ⟨kb, koff, none⟩) x.lacks.length lc) ∧ WW.cell? ⟨kb, koff + N, none⟩ = some (.int .i64 o.num) ∧ WW.cell? ⟨hb, 1, none⟩ = some (.slice (some ⟨gb3, off3, none⟩) h.ops.length hc) ∧ WW.cell? ⟨gb3, off3 + i * 8, none⟩ = some (.int .i64 o.num) from ⟨(LC.out _ hh.bel).2.2.2, by have := hh.bel.some KN.out; rwa [Nat.mul_one, Nat.add_zero] at this, hh.cell 0 rfl 1, hh.bel.some OC.out.1⟩)
                        obtain ⟨m0, m1, m2, m3⟩ := KS.out _ T.out
                        refine qa8 23 (by kernel_rfl) (by kernel_rfl) HWD.out ?_
                        (simp only [List.take_succ_cons, List.take_zero, List.drop_succ_cons, List.drop_zero]); (repeat (first | ((with_reducible refine wpStill_step (fun K hK => ?_)); go_simp; (with_reducible refine hK _ ?_); clear hK K) | ((with_reducible refine qab ?_ ?_); (with_unfolding_all rfl); (simp only [Act.put, List.setIfInBounds_toArray, List.set_cons_zero, List.set_cons_succ])))); (with_reducible refine wpStill_nil ?_)
                        go_wp2
                        go_roundw
                        case rel => exact ⟨i + 1, by omega, by rw [HN.out]; go_num, by go_num, T⟩
                        case measure => simp [intOf]; omega
                      · have hcb : (o.card != 1) = true := bne_iff_ne.2 hc1
                        obtain ⟨_, hN⟩ := HY.out false (by unfold lackP; rw [hr, decide_eq_false hc1]; rfl)
                        rw [if_neg (by decide)] at hN
                        have HN := Lib.hid (show lackN g h (i + 1) = lackN g h i from hN)
                        clear HY hr hN hc1 LC EL HLK
                        go_wp2
                        go_roundw
                        case rel => exact ⟨i + 1, by omega, by rw [HN.out], by go_num, T⟩
                        case measure => simp [intOf]; omega
                · have hki : ¬ (i : Int) < (h.ops.length : Int) := by omega
                  have hend : (lackN g h i : Int) = (x.lacks.length : Int) := by rw [show i = h.ops.length by omega, lack_end, HLK.out]
                  rw [hend]
                  have lne : ((x.lacks.length : Int) != (x.lacks.length : Int)) = false := by simp
                  obtain ⟨m0, m1, m2, m3⟩ := LC.out _ hS.out.bel
                  clear hend EJ HLK VG EK
                  go_wp2
                  go_roundw
                  case rel => exact ⟨n + 1, by omega, by go_num, Lib.hid hS.out.dropbox0.dropbox0⟩
                  case measure => simp [intOf]; omega
    · have hni : ¬ (n : Int) < (l.length : Int) := by omega
      have H9 := Lib.hid (Bel.of K2W.out hS.out.bel)
      clear EL EG EQ HRES0 FP HFL
      go_wp2_with (go_at_call 10; (with_reducible refine (CA.out _ H9.out).mono ?_); rintro e' w9 ⟨rfl, k9⟩; have k9 : Bel _ w9 := k9)
      go_ret
      exact ⟨rfl, Bel.of H9.out k9⟩
end Go.Proofs.YtgpjhibdongmbaaGreatDoor
