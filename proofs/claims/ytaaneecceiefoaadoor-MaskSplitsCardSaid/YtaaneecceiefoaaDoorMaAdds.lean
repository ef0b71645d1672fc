/- Law MaskSplits walked: whole, adds. Printed by gsplit.py. -/
import Derived.Test.YtaaneecceiefoaaDoorMaSpl
import Derived.Test.YtaaneecceiefoaaDoorKitQ
import Derived.Test.YtaaneecceiefoaaDoorMzFind
import Derived.Test.YtaaneecceiefoaaDoorMaKeep
import Derived.Test.YtaaneecceiefoaaDoorMaFind
namespace Go.Proofs.YtaaneecceiefoaaDoor
open Go.RowKit Ma
set_option linter.unusedVariables false
set_option linter.unusedSimpArgs false
set_option maxHeartbeats 4000000 in
set_option maxRecDepth 100000 in
theorem law_whole (a : Int) (fp : Option Addr) (n fc : Nat) (x1 : Int) (d : VC) (w0 : World) : Calls Tryd.prog 28 #[.agg #[.int .i64 a, .slice fp n fc], .agg #[.int .i64 x1, .int .i64 d.k, .int .u64 d.b, .string (S d.t), .slice d.p1 d.n1 d.c1, .slice d.p2 d.n2 d.c2, .slice d.p3 d.n3 d.c3, .slice d.p4 d.n4 d.c4]] w0 fun e w' => e = .returned (.bool (decide (n = 0) || decide (d.k ≠ 10))) ∧ Bel w0 w' := by
  have hS0' := ((ST.start w0).addbox #[.int .i64 a, .slice fp n fc] 42).addbox #[.int .i64 x1, .int .i64 d.k, .int .u64 d.b, .string (S d.t), .slice d.p1 d.n1 d.c1, .slice d.p2 d.n2 d.c2, .slice d.p3 d.n3 d.c3, .slice d.p4 d.n4 d.c4] 40
  have hB := Lib.hid hS0'.bel
  clear hS0'
  by_cases h0 : n = 0
  · subst h0
    go_enter Tryd.func28, Tryd.ntmps28
    go_wp2
    go_ret
    exact ⟨by simp, hB.out⟩
  · obtain ⟨n', rfl⟩ : ∃ n', n = n' + 1 := ⟨n - 1, by omega⟩
    have hn : ((n' + 1 : Nat) : Int) ≠ 0 := by omega
    have hnb : (((n' + 1 : Nat) : Int) == 0) = false := beq_eq_false_iff_ne.2 hn
    by_cases hk : d.k = 10
    · rw [hk] at hB ⊢
      have hkk := Lib.hid hk
      clear hk
      go_enter Tryd.func28, Tryd.ntmps28
      go_wp2
      go_ret
      exact ⟨by simp; omega, hB.out⟩
    · have hkb : (d.k != 10) = true := bne_t hk
      have HK := Lib.hid hk
      clear hk
      go_enter Tryd.func28, Tryd.ntmps28
      go_wp2
      go_ret
      exact ⟨by simp [HK.out], hB.out⟩
/-- the parts of a message add up to it -/
def AddsC (n : Nat) : Prop := ∀ (A1 A2 A3 A4 : Nat → Prop) (mk : Nat) (dv dk dd : VC) (cv : CV) (v : Value) (m : List PMask) (w : World), ValC A1 n w dv cv → ValC A2 n w dk (keep n cv m) → ValC A3 n w dd (drop n cv m) → MaskD A4 mk w v m → cv.isMsg = true → Calls Tryd.prog 12 #[.agg dv.cells.toArray, .agg dk.cells.toArray, .agg dd.cells.toArray, v] w fun e w' => e = .returned (.bool true) ∧ Bel w w'
/-- what the loop over the slots knows -/
structure AddE (A1 A2 A3 : Nat → Prop) (n : Nat) (w0 : World) (vp3 kp3 dp3 : Option Addr) (sl KL DL : List (Int × CV)) : Prop where
  v : ∀ i x, sl[i]? = some x → ∃ b off vs, vp3 = some ⟨b, off, none⟩ ∧ b < w0.heap.size ∧ A1 b ∧ Cells w0 b (off + i * 8) vs ∧ VSlot A1 n w0 vs x
  k : ∀ i x, KL[i]? = some x → ∃ b off vs, kp3 = some ⟨b, off, none⟩ ∧ b < w0.heap.size ∧ A2 b ∧ Cells w0 b (off + i * 8) vs ∧ VSlot A2 n w0 vs x
  d : ∀ i x, DL[i]? = some x → ∃ b off vs, dp3 = some ⟨b, off, none⟩ ∧ b < w0.heap.size ∧ A3 b ∧ Cells w0 b (off + i * 8) vs ∧ VSlot A3 n w0 vs x
set_option maxHeartbeats 16000000 in
set_option maxRecDepth 100000 in
theorem law_adds_step (n : Nat) (IH : AddsC n) : AddsC (n + 1) := by
  intro A1 A2 A3 A4 mk dv dk dd cv mv m w0 hv hk hd hm hmsg
  obtain ⟨sl, rw0, rfl⟩ : ∃ sl rw0, cv = .msg sl rw0 := by
    cases cv with
    | msg sl rw0 => exact ⟨sl, rw0, rfl⟩
    | scalar a b c => cases hmsg
    | list a => cases hmsg
    | map a => cases hmsg
  have hkw : keep (n + 1) (.msg sl rw0) m = .msg (sl.filterMap (keepO (keep n) m)) [] := rfl
  have hdw : drop (n + 1) (.msg sl rw0) m = .msg (sl.filterMap (dropO (drop n) m)) rw0 := rfl
  rw [hkw] at hk
  rw [hdw] at hd
  clear hkw hdw hmsg
  obtain ⟨vk, vb, vt, vp1, vn1, vc1, vp2, vn2, vc2, vp3, vn3, vc3, vp4, vn4, vc4⟩ := dv
  obtain ⟨kk, kb, kt, kp1, kn1, kc1, kp2, kn2, kc2, kp3, kn3, kc3, kp4, kn4, kc4⟩ := dk
  obtain ⟨dk, db, dt, dp1, dn1, dc1, dp2, dn2, dc2, dp3, dn3, dc3, dp4, dn4, dc4⟩ := dd
  obtain ⟨e1, ⟨_, _, e2, hll, _, hel⟩, hr⟩ := hv
  obtain ⟨f1, ⟨_, _, f2, _, _, helk⟩, ⟨_, _, f3, _⟩⟩ := hk
  obtain ⟨g1, ⟨_, _, g2, _, _, held⟩, hrd⟩ := hd
  obtain ⟨_, _, e3, _⟩ := id hr
  obtain ⟨_, _, g3, _⟩ := id hrd
  dsimp only at e1 e2 e3 f1 f2 f3 g1 g2 g3 hr hrd
  cases e1
  cases e2
  cases e3
  cases f1
  cases f2
  cases f3
  cases g1
  cases g2
  cases g3
  have HE := Lib.hid (show AddE A1 A2 A3 n w0 vp3 kp3 dp3 sl (sl.filterMap (keepO (keep n) m)) (sl.filterMap (dropO (drop n) m)) from ⟨hel, helk, held⟩)
  have CE0 := Lib.hid (fun W (k : Bel w0 W) => show Calls Tryd.prog 6 #[(.agg #[.int .i64 10, .int .u64 0, .string ⟨#[]⟩, .slice none 0 0, .slice none 0 0, .slice none 0 0, .slice dp4 rw0.length dc4]), (.agg #[.int .i64 10, .int .u64 0, .string ⟨#[]⟩, .slice none 0 0, .slice none 0 0, .slice none 0 0, .slice vp4 rw0.length vc4])] W _ from rq_Equal (n + 1) A3 A1 ⟨10, 0, [], none, 0, 0, none, 0, 0, none, 0, 0, dp4, rw0.length, dc4⟩ ⟨10, 0, [], none, 0, 0, none, 0, 0, none, 0, 0, vp4, rw0.length, vc4⟩ (.msg [] rw0) W ⟨rfl, SlA.nil _ _ _ _ _ _, hrd.kept (Keep.bel k) (fun _ _ h => h)⟩ ⟨rfl, SlA.nil _ _ _ _ _ _, hr.kept (Keep.bel k) (fun _ _ h => h)⟩)
  have DM := Lib.hid (MaskD.up hm)
  obtain ⟨mp, mc, rfl⟩ := hm.form
  have TK0 := tkn_zero (keepO (keep n) m) sl
  have TD0 := tkn_zero (dropO (drop n) m) sl
  have TKA := tkn_all (keepO (keep n) m) sl
  have TDA := tkn_all (dropO (drop n) m) sl
  have TKL := Lib.hid (tkn_le (keepO (keep n) m) sl)
  have TDL := Lib.hid (tkn_le (dropO (drop n) m) sl)
  have TBO := Lib.hid (fun i (hi : i < sl.length) y (hz : find m sl[i].1 = some y) (hw : whole y = false) (hx : sl[i].2.isMsg = true) => (show _ ∧ _ from ⟨tkn_some (F := keepO (keep n) m) hi (both_of hz hw hx).1, tkn_some (F := dropO (drop n) m) hi (both_of (n := n) hz hw hx).2⟩))
  have TKE := Lib.hid (fun i (hi : i < sl.length) y (hz : find m sl[i].1 = some y) (hw : whole y = true ∨ sl[i].2.isMsg = false) => (show _ ∧ _ from ⟨tkn_some (F := keepO (keep n) m) hi (kept_of hz hw).1, tkn_none (F := dropO (drop n) m) hi (kept_of (n := n) hz hw).2⟩))
  have TGO := Lib.hid (fun i (hi : i < sl.length) (hz : find m sl[i].1 = none) => (show _ ∧ _ from ⟨tkn_none (F := keepO (keep n) m) hi (gone_of hz).1, tkn_some (F := dropO (drop n) m) hi (gone_of (n := n) hz).2⟩))
  generalize hTK : tkn (keepO (keep n) m) sl = TK at *
  generalize hTD : tkn (dropO (drop n) m) sl = TD at *
  clear hTK hTD
  generalize hKL : sl.filterMap (keepO (keep n) m) = KL at *
  generalize hDL : sl.filterMap (dropO (drop n) m) = DL at *
  clear hKL hDL hel helk held hm hr hrd
  show Calls _ _ #[.agg #[.int .i64 10, .int .u64 vb, .string (S vt), .slice vp1 vn1 vc1, .slice vp2 vn2 vc2, .slice vp3 sl.length vc3, .slice vp4 rw0.length vc4], .agg #[.int .i64 10, .int .u64 kb, .string (S kt), .slice kp1 kn1 kc1, .slice kp2 kn2 kc2, .slice kp3 KL.length kc3, .slice kp4 0 kc4], .agg #[.int .i64 10, .int .u64 db, .string (S dt), .slice dp1 dn1 dc1, .slice dp2 dn2 dc2, .slice dp3 DL.length dc3, .slice dp4 rw0.length dc4], _] _ _
  have hS0 := ((((ST.start w0).addbox #[.int .i64 10, .int .u64 vb, .string (S vt), .slice vp1 vn1 vc1, .slice vp2 vn2 vc2, .slice vp3 sl.length vc3, .slice vp4 rw0.length vc4] 28).addbox #[.int .i64 10, .int .u64 kb, .string (S kt), .slice kp1 kn1 kc1, .slice kp2 kn2 kc2, .slice kp3 KL.length kc3, .slice kp4 0 kc4] 28).addbox #[.int .i64 10, .int .u64 db, .string (S dt), .slice dp1 dn1 dc1, .slice dp2 dn2 dc2, .slice dp3 DL.length dc3, .slice dp4 rw0.length dc4] 28)
  simp only [World.size_alloc] at hS0
  have H0 := Lib.hid (show ST w0 [] [⟨w0.heap.size + 2, #[.int .i64 10, .int .u64 db, .string (S dt), .slice dp1 dn1 dc1, .slice dp2 dn2 dc2, .slice dp3 DL.length dc3, .slice dp4 rw0.length dc4], 28⟩, ⟨w0.heap.size + 1, #[.int .i64 10, .int .u64 kb, .string (S kt), .slice kp1 kn1 kc1, .slice kp2 kn2 kc2, .slice kp3 KL.length kc3, .slice kp4 0 kc4], 28⟩, ⟨w0.heap.size, #[.int .i64 10, .int .u64 vb, .string (S vt), .slice vp1 vn1 vc1, .slice vp2 vn2 vc2, .slice vp3 sl.length vc3, .slice vp4 rw0.length vc4], 28⟩] _ from hS0)
  clear hS0
  go_enter Tryd.func12, Tryd.ntmps12
  go_upto_region 1 with (fail)
  generalize hwz : World.alloc _ _ = wz at H0 ⊢
  clear hwz
  have c1 := H0.out.cell 1 rfl 0
  have c2 := H0.out.cell 0 rfl 0
  have c3 := H0.out.cell 1 rfl 6
  have c4 := H0.out.cell 0 rfl 6
  have c5 := H0.out.cell 2 rfl 6
  dsimp only at c1 c2 c3 c4 c5
  go_wp2_with (go_at_call 6; (with_reducible refine (CE0.out _ H0.out.bel).mono ?_); rintro e w1 ⟨rfl, k1⟩; have k1 : Bel _ w1 := k1; have H1 := Lib.hid (H0.out.belw k1); clear k1)
  clear c1 c2 c3 c4 c5 H0 CE0
  go_loopw [9, 10, 11] (fun vk vd vi wr => ∃ j : Nat, j ≤ sl.length ∧ vk = .int .i64 (TK j) ∧ vd = .int .i64 (TD j) ∧ vi = .int .i64 j ∧ Hid (ST w0 [] [⟨w0.heap.size + 2, #[.int .i64 10, .int .u64 db, .string (S dt), .slice dp1 dn1 dc1, .slice dp2 dn2 dc2, .slice dp3 DL.length dc3, .slice dp4 rw0.length dc4], 28⟩, ⟨w0.heap.size + 1, #[.int .i64 10, .int .u64 kb, .string (S kt), .slice kp1 kn1 kc1, .slice kp2 kn2 kc2, .slice kp3 KL.length kc3, .slice kp4 0 kc4], 28⟩, ⟨w0.heap.size, #[.int .i64 10, .int .u64 vb, .string (S vt), .slice vp1 vn1 vc1, .slice vp2 vn2 vc2, .slice vp3 sl.length vc3, .slice vp4 rw0.length vc4], 28⟩] wr)) (fun _ _ vi _ => sl.length - (intOf vi).toNat)
  case atStart => exact ⟨0, by omega, by rw [TK0]; rfl, by rw [TD0]; rfl, rfl, H1⟩
  case round => as_aux_lemma =>
    clear H1
    obtain ⟨j, hj, rfl, rfl, rfl, hS⟩ := hrel
    have hkj := TKL.out j
    have hdj := TDL.out j
    by_cases hlt : j < sl.length
    · have hki : (j : Int) < (sl.length : Int) := by omega
      obtain ⟨b, off, vs, rfl, hbs, hab, hce, dx, hvs, hdx⟩ := HE.out.v j _ (List.getElem?_eq_getElem hlt)
      have HDX := Lib.hid (show ValC A1 n w0 dx sl[j].2 from hdx)
      have HC := Lib.hid (fun i v hi => hS.out.bel.some (hce i v hi))
      have HVS := Lib.hid hvs
      have hl8 : vs.length = 8 := by rw [hvs]; rfl
      have HL := Lib.hid hl8
      have Z0 : vs.toArray.size = 8 := by rw [List.size_toArray]; exact hl8
      have Z1 := Lib.hid (show (Tryd.prog.info? 40).map (·.size) = some vs.toArray.size by rw [Z0]; exact ar_S)
      have Z2 := Lib.hid (show (#[.int .i64 0, .int .i64 0, .int .u64 0, .string ⟨#[]⟩, .slice none 0 0, .slice none 0 0, .slice none 0 0, .slice none 0 0] : Array Value).size = vs.toArray.size by rw [Z0]; rfl)
      have HO1 := Lib.hid (show ∀ u ∈ vs, u.oneCell' = true by rw [hvs]; exact seC_one ⟨sl[j], dx⟩)
      have HOA := Lib.hid (all_one HO1.out)
      have HX := Lib.hid (hS.out.addbox vs.toArray 40)
      have x0 := (HX.out.cell 0 rfl 0).trans (show vs.toArray[0]? = some (.int .i64 sl[j].1) by rw [hvs]; rfl)
      dsimp only at x0
      have CF0 : MaskD A4 (mk + 1) (wr.alloc (.cells vs.toArray 40)) (.slice mp m.length mc) m := DM.out.bel HX.out.bel
      have v5 := hS.out.cell 2 rfl 5
      dsimp only at v5
      have K0 := Lib.hid (show Bel wr (wr.alloc (.cells vs.toArray 40)) from (Bel.refl wr).alloc _)
      have hmsg := HDX.out.msg
      clear hce hvs hdx hab hbs Z0
      have hbw : w0.heap.size + 2 < wr.heap.size := (hS.out.boxlt 0 rfl).2
      cases hz : find m sl[j].1 with
      | none =>
        obtain ⟨tk1, td1, dg⟩ := TGO.out j hlt hz
        obtain ⟨db, doff, dvs, rfl, dbs, _, dce, ddx, dvv, ddd⟩ := HE.out.d _ _ dg
        have dlt : TD j < DL.length := (List.getElem?_eq_some_iff.1 dg).1
        have di : ((TD j : Nat) : Int) < (DL.length : Int) := by omega
        have dne : ¬ ((TD j : Nat) : Int) = (DL.length : Int) := by omega
        have dnb : (((TD j : Nat) : Int) == (DL.length : Int)) = false := beq_eq_false_iff_ne.2 dne
        have dz := (dce 0 (.int .i64 sl[j].1) (by rw [dvv]; rfl))
        rw [Nat.add_zero] at dz
        have dHV := Lib.hid (show ValC A3 n w0 ddx (sl[j].2) from ddd)
        have dHC := Lib.hid (fun i v (hi : ddx.cells[i]? = some v) => (by have := dce (1 + i) v (by rw [dvv, Nat.add_comm, List.getElem?_cons_succ]; exact hi); rw [← Nat.add_assoc] at this; exact this : w0.cell? ⟨db, doff + TD j * 8 + 1 + i, none⟩ = some v))
        clear dce dvv ddd dg dlt
        have CF := Lib.hid (rm_Find_none hz _ CF0)
        clear CF0 hz TBO TKE TGO HE
        go_upto_region 9 with (first
          | (refine wpl_load_at rfl 40 _ rfl b (off + j * 8) 8 vs rfl HC.out ag_S sz_S HL.out ?_)
          | (refine wpl_store_new (old := #[.int .i64 0, .int .i64 0, .int .u64 0, .string ⟨#[]⟩, .slice none 0 0, .slice none 0 0, .slice none 0 0, .slice none 0 0]) rfl 40 _ _ rfl wr rfl wr.heap.size rfl vs.toArray rfl rfl Z1.out Z2.out HOA.out ?_)
          | (go_at_call 25; (with_reducible refine CF.out.mono ?_); rintro e w1 ⟨fp, fc, rfl, k1⟩; have k1 : Bel _ w1 := k1; have H2 := Lib.hid ((HX.out.belw k1).addbox #[.int .i64 0, .slice fp 0 fc] 42); clear k1))
        generalize hwa : World.alloc w1 _ = w2 at H2 ⊢
        clear hwa
        go_upto_region 10 with (fail)
        clear x0
        obtain ⟨wd, hwd⟩ : ∃ wd, wd = w2.drew := ⟨_, rfl⟩
        have HD := Lib.hid (show ST w0 [] _ wd by rw [hwd]; exact H2.out.belw (Bel.refl _).drew)
        have HWD := Lib.hid hwd
        have HWD0 := Lib.hid hwd
        clear hwd
        have x0 := (HD.out.cell 1 rfl 0).trans (show vs.toArray[0]? = some (.int .i64 sl[j].1) by rw [HVS.out]; rfl)
        have kf := HD.out.cell 3 rfl 5
        have df := HD.out.cell 2 rfl 5
        dsimp only at x0 kf df
        have de := HD.out.bel.some (show w0.cell? ⟨db, doff + TD j * 8, none⟩ = some (.int .i64 sl[j].1) from dz)
        refine rg_tail 36 (by kernel_rfl) (by kernel_rfl) HWD.out ?_
        (simp only [List.take_succ_cons, List.take_zero, List.drop_succ_cons, List.drop_zero]); (repeat (first | ((with_reducible refine wpStill_step (fun K hK => ?_)); go_simp; (with_reducible refine hK _ ?_); clear hK K) | ((with_reducible refine rg_skip ?_ ?_); (with_unfolding_all rfl); (simp only [Act.put, List.setIfInBounds_toArray, List.set_cons_zero, List.set_cons_succ])))); (with_reducible refine wpStill_nil ?_)
        go_upto_region 12 with (fail)
        clear HWD x0
        clear kf df de
        obtain ⟨we, hwe⟩ : ∃ we, we = wd.drew := ⟨_, rfl⟩
        have HE := Lib.hid (show ST w0 [] _ we by rw [hwe]; exact HD.out.belw (Bel.refl _).drew)
        have HWE := Lib.hid hwe
        clear hwe
        have kf := HE.out.cell 3 rfl 5
        have df := HE.out.cell 2 rfl 5
        dsimp only at kf df
        have HXC := Lib.hid (show ∀ i u, dx.cells[i]? = some u → we.cell? ⟨wr.heap.size, 1 + i, none⟩ = some u from fun i u hu => (HE.out.cell 1 rfl (1 + i)).trans (by rw [HVS.out]; show (Value.int .i64 sl[j].1 :: dx.cells).toArray[1 + i]? = some u; rw [Nat.add_comm, List.getElem?_toArray, List.getElem?_cons_succ]; exact hu))
        have DHC := Lib.hid (fun i v hi => HE.out.bel.some (dHC.out i v hi))
        have CS := Lib.hid (show Calls Tryd.prog 6 #[.agg ddx.cells.toArray, .agg dx.cells.toArray] we _ from rq_Equal n _ _ _ dx sl[j].2 we (dHV.out.bel HE.out.bel) (HDX.out.bel HE.out.bel))
        refine rg_tail 8 (by kernel_rfl) (by kernel_rfl) HWE.out ?_
        (simp only [List.take_succ_cons, List.take_zero, List.drop_succ_cons, List.drop_zero])
        repeat (first
          | (refine still_load_at rfl 28 _ rfl db (doff + TD j * 8 + 1) 7 ddx.cells rfl DHC.out vg_V vz_V rfl ?_; simp only [Act.put, List.setIfInBounds_toArray, List.set_cons_zero, List.set_cons_succ])
          | (refine still_load_at rfl 28 _ rfl wr.heap.size 1 7 dx.cells rfl HXC.out vg_V vz_V rfl ?_; simp only [Act.put, List.setIfInBounds_toArray, List.set_cons_zero, List.set_cons_succ])
          | ((with_reducible refine wpStill_step (fun K hK => ?_)); go_simp; (with_reducible refine hK _ ?_); clear hK K)
          | ((with_reducible refine rg_skip ?_ ?_); (with_unfolding_all rfl); (simp only [Act.put, List.setIfInBounds_toArray, List.set_cons_zero, List.set_cons_succ])))
        with_reducible refine wpStill_nil ?_
        go_upto_region 20 with (go_at_call 6; (with_reducible refine CS.out.mono ?_); rintro e w5 ⟨rfl, k5⟩; have k5 : Bel _ w5 := k5; have H5 := Lib.hid (HE.out.belw k5); clear k5)
        go_wp2
        go_roundw
        case rel => exact ⟨j + 1, by omega, by rw [tk1], by rw [td1]; go_num, by go_num, Lib.hid H5.out.dropbox0.dropbox0⟩
        case measure => simp [intOf]; omega
      | some y =>
        cases hwb : (decide (y.subs.length = 0) || decide (dx.k ≠ 10)) with
        | true =>
          have hor : whole y = true ∨ sl[j].2.isMsg = false := by
            rw [Bool.or_eq_true, decide_eq_true_eq, decide_eq_true_eq] at hwb
            rcases hwb with h | h
            · exact .inl (whole_iff.2 (List.length_eq_zero_iff.1 h))
            · refine .inr ?_
              cases h2 : sl[j].2.isMsg with
              | false => rfl
              | true => exact absurd (hmsg.2 h2) h
          clear hmsg
          obtain ⟨⟨tk1, kg⟩, td1⟩ := TKE.out j hlt y hz hor
          obtain ⟨kb, koff, kvs, rfl, kbs, _, kce, kx, kvv, kd⟩ := HE.out.k _ _ kg
          have klt : TK j < KL.length := (List.getElem?_eq_some_iff.1 kg).1
          have ki : ((TK j : Nat) : Int) < (KL.length : Int) := by omega
          have kne : ¬ ((TK j : Nat) : Int) = (KL.length : Int) := by omega
          have knb : (((TK j : Nat) : Int) == (KL.length : Int)) = false := beq_eq_false_iff_ne.2 kne
          have kz := (kce 0 (.int .i64 sl[j].1) (by rw [kvv]; rfl))
          rw [Nat.add_zero] at kz
          have kHV := Lib.hid (show ValC A2 n w0 kx (sl[j].2) from kd)
          have kHC := Lib.hid (fun i v (hi : kx.cells[i]? = some v) => (by have := kce (1 + i) v (by rw [kvv, Nat.add_comm, List.getElem?_cons_succ]; exact hi); rw [← Nat.add_assoc] at this; exact this : w0.cell? ⟨kb, koff + TK j * 8 + 1 + i, none⟩ = some v))
          clear kce kvv kd kg klt
          have CF := Lib.hid (rm_Find_some hz _ CF0)
          have WB : (decide (y.subs.length = 0) || decide (dx.k ≠ 10)) = true := hwb
          clear CF0 hz TBO TKE TGO HE
          go_upto_region 9 with (first
            | (refine wpl_load_at rfl 40 _ rfl b (off + j * 8) 8 vs rfl HC.out ag_S sz_S HL.out ?_)
            | (refine wpl_store_new (old := #[.int .i64 0, .int .i64 0, .int .u64 0, .string ⟨#[]⟩, .slice none 0 0, .slice none 0 0, .slice none 0 0, .slice none 0 0]) rfl 40 _ _ rfl wr rfl wr.heap.size rfl vs.toArray rfl rfl Z1.out Z2.out HOA.out ?_)
            | (go_at_call 25; (with_reducible refine CF.out.mono ?_); rintro e w1 ⟨fp, fc, rfl, hfd, k1⟩; have k1 : Bel _ w1 := k1; have H2 := Lib.hid ((HX.out.belw k1).addbox #[.int .i64 y.num, .slice fp y.subs.length fc] 42); have FD2 := Lib.hid (hfd.bel ((Bel.refl _).alloc (.cells #[.int .i64 y.num, .slice fp y.subs.length fc] 42))); clear k1 hfd))
          generalize hwa : World.alloc w1 _ = w2 at H2 FD2 ⊢
          clear hwa
          have q0 := H2.out.cell 0 rfl 0
          have q1 := H2.out.cell 0 rfl 1
          dsimp only at q0 q1
          have xx0 := (H2.out.cell 1 rfl 0).trans (show vs.toArray[0]? = some (.int .i64 sl[j].1) by rw [HVS.out]; rfl)
          have xx1 := (H2.out.cell 1 rfl 1).trans (show vs.toArray[1]? = some (.int .i64 dx.k) by rw [HVS.out]; rfl)
          have xx2 := (H2.out.cell 1 rfl 2).trans (show vs.toArray[2]? = some (.int .u64 dx.b) by rw [HVS.out]; rfl)
          have xx3 := (H2.out.cell 1 rfl 3).trans (show vs.toArray[3]? = some (.string (S dx.t)) by rw [HVS.out]; rfl)
          have xx4 := (H2.out.cell 1 rfl 4).trans (show vs.toArray[4]? = some (.slice dx.p1 dx.n1 dx.c1) by rw [HVS.out]; rfl)
          have xx5 := (H2.out.cell 1 rfl 5).trans (show vs.toArray[5]? = some (.slice dx.p2 dx.n2 dx.c2) by rw [HVS.out]; rfl)
          have xx6 := (H2.out.cell 1 rfl 6).trans (show vs.toArray[6]? = some (.slice dx.p3 dx.n3 dx.c3) by rw [HVS.out]; rfl)
          have xx7 := (H2.out.cell 1 rfl 7).trans (show vs.toArray[7]? = some (.slice dx.p4 dx.n4 dx.c4) by rw [HVS.out]; rfl)
          dsimp only at xx0 xx1 xx2 xx3 xx4 xx5 xx6 xx7
          have CW := Lib.hid (law_whole y.num fp y.subs.length fc sl[j].1 dx w2)
          rw [WB] at CW
          go_upto_region 10 with (go_at_call 28; (with_reducible refine CW.out.mono ?_); rintro e w3 ⟨rfl, k3⟩; have k3 : Bel _ w3 := k3; have H3 := Lib.hid (H2.out.belw k3); have FD3 := Lib.hid (FD2.out.bel k3); clear k3)
          clear q0 q1 xx0 xx1 xx2 xx3 xx4 xx5 xx6 xx7 CW FD2 H2
          clear x0
          obtain ⟨wd, hwd⟩ : ∃ wd, wd = w3.drew := ⟨_, rfl⟩
          have HD := Lib.hid (show ST w0 [] _ wd by rw [hwd]; exact H3.out.belw (Bel.refl _).drew)
          have HWD := Lib.hid hwd
          have HWD0 := Lib.hid hwd
          clear hwd
          have x0 := (HD.out.cell 1 rfl 0).trans (show vs.toArray[0]? = some (.int .i64 sl[j].1) by rw [HVS.out]; rfl)
          have kf := HD.out.cell 3 rfl 5
          have df := HD.out.cell 2 rfl 5
          dsimp only at x0 kf df
          have ke := HD.out.bel.some (show w0.cell? ⟨kb, koff + TK j * 8, none⟩ = some (.int .i64 sl[j].1) from kz)
          refine rg_tail 36 (by kernel_rfl) (by kernel_rfl) HWD.out ?_
          (simp only [List.take_succ_cons, List.take_zero, List.drop_succ_cons, List.drop_zero]); (repeat (first | ((with_reducible refine wpStill_step (fun K hK => ?_)); go_simp; (with_reducible refine hK _ ?_); clear hK K) | ((with_reducible refine rg_skip ?_ ?_); (with_unfolding_all rfl); (simp only [Act.put, List.setIfInBounds_toArray, List.set_cons_zero, List.set_cons_succ])))); (with_reducible refine wpStill_nil ?_)
          go_upto_region 18 with (fail)
          clear HWD x0
          clear kf df ke
          obtain ⟨we, hwe⟩ : ∃ we, we = wd.drew := ⟨_, rfl⟩
          have HE := Lib.hid (show ST w0 [] _ we by rw [hwe]; exact HD.out.belw (Bel.refl _).drew)
          have HWE := Lib.hid hwe
          clear hwe
          have kf := HE.out.cell 3 rfl 5
          have df := HE.out.cell 2 rfl 5
          dsimp only at kf df
          have HXC := Lib.hid (show ∀ i u, dx.cells[i]? = some u → we.cell? ⟨wr.heap.size, 1 + i, none⟩ = some u from fun i u hu => (HE.out.cell 1 rfl (1 + i)).trans (by rw [HVS.out]; show (Value.int .i64 sl[j].1 :: dx.cells).toArray[1 + i]? = some u; rw [Nat.add_comm, List.getElem?_toArray, List.getElem?_cons_succ]; exact hu))
          have q1 := HE.out.cell 0 rfl 1
          dsimp only at q1
          have KHC := Lib.hid (fun i v hi => HE.out.bel.some (kHC.out i v hi))
          have CS := Lib.hid (show Calls Tryd.prog 6 #[.agg kx.cells.toArray, .agg dx.cells.toArray] we _ from rq_Equal n _ _ _ dx sl[j].2 we (kHV.out.bel HE.out.bel) (HDX.out.bel HE.out.bel))
          refine rg_tail 8 (by kernel_rfl) (by kernel_rfl) HWE.out ?_
          (simp only [List.take_succ_cons, List.take_zero, List.drop_succ_cons, List.drop_zero])
          repeat (first
            | (refine still_load_at rfl 28 _ rfl kb (koff + TK j * 8 + 1) 7 kx.cells rfl KHC.out vg_V vz_V rfl ?_; simp only [Act.put, List.setIfInBounds_toArray, List.set_cons_zero, List.set_cons_succ])
            | (refine still_load_at rfl 28 _ rfl wr.heap.size 1 7 dx.cells rfl HXC.out vg_V vz_V rfl ?_; simp only [Act.put, List.setIfInBounds_toArray, List.set_cons_zero, List.set_cons_succ])
            | ((with_reducible refine wpStill_step (fun K hK => ?_)); go_simp; (with_reducible refine hK _ ?_); clear hK K)
            | ((with_reducible refine rg_skip ?_ ?_); (with_unfolding_all rfl); (simp only [Act.put, List.setIfInBounds_toArray, List.set_cons_zero, List.set_cons_succ])))
          with_reducible refine wpStill_nil ?_
          go_upto_region 20 with (go_at_call 6; (with_reducible refine CS.out.mono ?_); rintro e w5 ⟨rfl, k5⟩; have k5 : Bel _ w5 := k5; have H5 := Lib.hid (HE.out.belw k5); clear k5)
          go_wp2
          go_roundw
          case rel => exact ⟨j + 1, by omega, by rw [tk1]; go_num, by rw [td1], by go_num, Lib.hid H5.out.dropbox0.dropbox0⟩
          case measure => simp [intOf]; omega
        | false =>
          have hfl := hwb
          rw [Bool.or_eq_false_iff, decide_eq_false_iff_not, decide_eq_false_iff_not] at hfl
          have hwy : whole y = false := by
            cases h : whole y with
            | false => rfl
            | true => exact absurd (List.length_eq_zero_iff.2 (whole_iff.1 h)) hfl.1
          have hxm := hmsg.1 (Decidable.not_not.1 hfl.2)
          clear hfl hmsg
          obtain ⟨⟨tk1, kg⟩, td1, dg⟩ := TBO.out j hlt y hz hwy hxm
          obtain ⟨kb, koff, kvs, rfl, kbs, _, kce, kx, kvv, kd⟩ := HE.out.k _ _ kg
          have klt : TK j < KL.length := (List.getElem?_eq_some_iff.1 kg).1
          have ki : ((TK j : Nat) : Int) < (KL.length : Int) := by omega
          have kne : ¬ ((TK j : Nat) : Int) = (KL.length : Int) := by omega
          have knb : (((TK j : Nat) : Int) == (KL.length : Int)) = false := beq_eq_false_iff_ne.2 kne
          have kz := (kce 0 (.int .i64 sl[j].1) (by rw [kvv]; rfl))
          rw [Nat.add_zero] at kz
          have kHV := Lib.hid (show ValC A2 n w0 kx (keep n sl[j].2 y.subs) from kd)
          have kHC := Lib.hid (fun i v (hi : kx.cells[i]? = some v) => (by have := kce (1 + i) v (by rw [kvv, Nat.add_comm, List.getElem?_cons_succ]; exact hi); rw [← Nat.add_assoc] at this; exact this : w0.cell? ⟨kb, koff + TK j * 8 + 1 + i, none⟩ = some v))
          clear kce kvv kd kg klt
          obtain ⟨db, doff, dvs, rfl, dbs, _, dce, ddx, dvv, ddd⟩ := HE.out.d _ _ dg
          have dlt : TD j < DL.length := (List.getElem?_eq_some_iff.1 dg).1
          have di : ((TD j : Nat) : Int) < (DL.length : Int) := by omega
          have dne : ¬ ((TD j : Nat) : Int) = (DL.length : Int) := by omega
          have dnb : (((TD j : Nat) : Int) == (DL.length : Int)) = false := beq_eq_false_iff_ne.2 dne
          have dz := (dce 0 (.int .i64 sl[j].1) (by rw [dvv]; rfl))
          rw [Nat.add_zero] at dz
          have dHV := Lib.hid (show ValC A3 n w0 ddx (drop n sl[j].2 y.subs) from ddd)
          have dHC := Lib.hid (fun i v (hi : ddx.cells[i]? = some v) => (by have := dce (1 + i) v (by rw [dvv, Nat.add_comm, List.getElem?_cons_succ]; exact hi); rw [← Nat.add_assoc] at this; exact this : w0.cell? ⟨db, doff + TD j * 8 + 1 + i, none⟩ = some v))
          clear dce dvv ddd dg dlt
          have CF := Lib.hid (rm_Find_some hz _ CF0)
          have WB : (decide (y.subs.length = 0) || decide (dx.k ≠ 10)) = false := hwb
          clear CF0 hz TBO TKE TGO HE
          go_upto_region 9 with (first
            | (refine wpl_load_at rfl 40 _ rfl b (off + j * 8) 8 vs rfl HC.out ag_S sz_S HL.out ?_)
            | (refine wpl_store_new (old := #[.int .i64 0, .int .i64 0, .int .u64 0, .string ⟨#[]⟩, .slice none 0 0, .slice none 0 0, .slice none 0 0, .slice none 0 0]) rfl 40 _ _ rfl wr rfl wr.heap.size rfl vs.toArray rfl rfl Z1.out Z2.out HOA.out ?_)
            | (go_at_call 25; (with_reducible refine CF.out.mono ?_); rintro e w1 ⟨fp, fc, rfl, hfd, k1⟩; have k1 : Bel _ w1 := k1; have H2 := Lib.hid ((HX.out.belw k1).addbox #[.int .i64 y.num, .slice fp y.subs.length fc] 42); have FD2 := Lib.hid (hfd.bel ((Bel.refl _).alloc (.cells #[.int .i64 y.num, .slice fp y.subs.length fc] 42))); clear k1 hfd))
          generalize hwa : World.alloc w1 _ = w2 at H2 FD2 ⊢
          clear hwa
          have q0 := H2.out.cell 0 rfl 0
          have q1 := H2.out.cell 0 rfl 1
          dsimp only at q0 q1
          have xx0 := (H2.out.cell 1 rfl 0).trans (show vs.toArray[0]? = some (.int .i64 sl[j].1) by rw [HVS.out]; rfl)
          have xx1 := (H2.out.cell 1 rfl 1).trans (show vs.toArray[1]? = some (.int .i64 dx.k) by rw [HVS.out]; rfl)
          have xx2 := (H2.out.cell 1 rfl 2).trans (show vs.toArray[2]? = some (.int .u64 dx.b) by rw [HVS.out]; rfl)
          have xx3 := (H2.out.cell 1 rfl 3).trans (show vs.toArray[3]? = some (.string (S dx.t)) by rw [HVS.out]; rfl)
          have xx4 := (H2.out.cell 1 rfl 4).trans (show vs.toArray[4]? = some (.slice dx.p1 dx.n1 dx.c1) by rw [HVS.out]; rfl)
          have xx5 := (H2.out.cell 1 rfl 5).trans (show vs.toArray[5]? = some (.slice dx.p2 dx.n2 dx.c2) by rw [HVS.out]; rfl)
          have xx6 := (H2.out.cell 1 rfl 6).trans (show vs.toArray[6]? = some (.slice dx.p3 dx.n3 dx.c3) by rw [HVS.out]; rfl)
          have xx7 := (H2.out.cell 1 rfl 7).trans (show vs.toArray[7]? = some (.slice dx.p4 dx.n4 dx.c4) by rw [HVS.out]; rfl)
          dsimp only at xx0 xx1 xx2 xx3 xx4 xx5 xx6 xx7
          have CW := Lib.hid (law_whole y.num fp y.subs.length fc sl[j].1 dx w2)
          rw [WB] at CW
          go_upto_region 10 with (go_at_call 28; (with_reducible refine CW.out.mono ?_); rintro e w3 ⟨rfl, k3⟩; have k3 : Bel _ w3 := k3; have H3 := Lib.hid (H2.out.belw k3); have FD3 := Lib.hid (FD2.out.bel k3); clear k3)
          clear q0 q1 xx0 xx1 xx2 xx3 xx4 xx5 xx6 xx7 CW FD2 H2
          clear x0
          obtain ⟨wd, hwd⟩ : ∃ wd, wd = w3.drew := ⟨_, rfl⟩
          have HD := Lib.hid (show ST w0 [] _ wd by rw [hwd]; exact H3.out.belw (Bel.refl _).drew)
          have HWD := Lib.hid hwd
          have HWD0 := Lib.hid hwd
          clear hwd
          have x0 := (HD.out.cell 1 rfl 0).trans (show vs.toArray[0]? = some (.int .i64 sl[j].1) by rw [HVS.out]; rfl)
          have kf := HD.out.cell 3 rfl 5
          have df := HD.out.cell 2 rfl 5
          dsimp only at x0 kf df
          have ke := HD.out.bel.some (show w0.cell? ⟨kb, koff + TK j * 8, none⟩ = some (.int .i64 sl[j].1) from kz)
          have de := HD.out.bel.some (show w0.cell? ⟨db, doff + TD j * 8, none⟩ = some (.int .i64 sl[j].1) from dz)
          refine rg_tail 36 (by kernel_rfl) (by kernel_rfl) HWD.out ?_
          (simp only [List.take_succ_cons, List.take_zero, List.drop_succ_cons, List.drop_zero]); (repeat (first | ((with_reducible refine wpStill_step (fun K hK => ?_)); go_simp; (with_reducible refine hK _ ?_); clear hK K) | ((with_reducible refine rg_skip ?_ ?_); (with_unfolding_all rfl); (simp only [Act.put, List.setIfInBounds_toArray, List.set_cons_zero, List.set_cons_succ])))); (with_reducible refine wpStill_nil ?_)
          go_upto_region 15 with (fail)
          clear HWD x0
          clear kf df ke de
          obtain ⟨we, hwe⟩ : ∃ we, we = wd.drew := ⟨_, rfl⟩
          have HE := Lib.hid (show ST w0 [] _ we by rw [hwe]; exact HD.out.belw (Bel.refl _).drew)
          have HWE := Lib.hid hwe
          clear hwe
          have kf := HE.out.cell 3 rfl 5
          have df := HE.out.cell 2 rfl 5
          dsimp only at kf df
          have HXC := Lib.hid (show ∀ i u, dx.cells[i]? = some u → we.cell? ⟨wr.heap.size, 1 + i, none⟩ = some u from fun i u hu => (HE.out.cell 1 rfl (1 + i)).trans (by rw [HVS.out]; show (Value.int .i64 sl[j].1 :: dx.cells).toArray[1 + i]? = some u; rw [Nat.add_comm, List.getElem?_toArray, List.getElem?_cons_succ]; exact hu))
          have q1 := HE.out.cell 0 rfl 1
          dsimp only at q1
          have KHC := Lib.hid (fun i v hi => HE.out.bel.some (kHC.out i v hi))
          have DHC := Lib.hid (fun i v hi => HE.out.bel.some (dHC.out i v hi))
          have CS := Lib.hid (show Calls Tryd.prog 12 #[.agg dx.cells.toArray, .agg kx.cells.toArray, .agg ddx.cells.toArray, .slice fp y.subs.length fc] we _ from IH A1 A2 A3 A4 mk dx kx ddx sl[j].2 _ y.subs we (HDX.out.bel HE.out.bel) (kHV.out.bel HE.out.bel) (dHV.out.bel HE.out.bel) (FD3.out.bel (Bel.of (Bel.of (Bel.refl w3) (show Bel w3 wd from by rw [HWD0.out]; exact (Bel.refl _).drew)) (show Bel wd we from by rw [HWE.out]; exact (Bel.refl _).drew))) hxm)
          refine rg_tail 16 (by kernel_rfl) (by kernel_rfl) HWE.out ?_
          (simp only [List.take_succ_cons, List.take_zero, List.drop_succ_cons, List.drop_zero])
          repeat (first
            | (refine still_load_at rfl 28 _ rfl wr.heap.size 1 7 dx.cells rfl HXC.out vg_V vz_V rfl ?_; simp only [Act.put, List.setIfInBounds_toArray, List.set_cons_zero, List.set_cons_succ])
            | (refine still_load_at rfl 28 _ rfl kb (koff + TK j * 8 + 1) 7 kx.cells rfl KHC.out vg_V vz_V rfl ?_; simp only [Act.put, List.setIfInBounds_toArray, List.set_cons_zero, List.set_cons_succ])
            | (refine still_load_at rfl 28 _ rfl db (doff + TD j * 8 + 1) 7 ddx.cells rfl DHC.out vg_V vz_V rfl ?_; simp only [Act.put, List.setIfInBounds_toArray, List.set_cons_zero, List.set_cons_succ])
            | ((with_reducible refine wpStill_step (fun K hK => ?_)); go_simp; (with_reducible refine hK _ ?_); clear hK K)
            | ((with_reducible refine rg_skip ?_ ?_); (with_unfolding_all rfl); (simp only [Act.put, List.setIfInBounds_toArray, List.set_cons_zero, List.set_cons_succ])))
          with_reducible refine wpStill_nil ?_
          go_upto_region 20 with (go_at_call 12; (with_reducible refine CS.out.mono ?_); rintro e w5 ⟨rfl, k5⟩; have k5 : Bel _ w5 := k5; have H5 := Lib.hid (HE.out.belw k5); clear k5)
          go_wp2
          go_roundw
          case rel => exact ⟨j + 1, by omega, by rw [tk1]; go_num, by rw [td1]; go_num, by go_num, Lib.hid H5.out.dropbox0.dropbox0⟩
          case measure => simp [intOf]; omega
    · have hjl : j = sl.length := by omega
      have hki : ¬ (j : Int) < (sl.length : Int) := by omega
      rw [hjl, TKA, TDA]
      have v5 := hS.out.cell 2 rfl 5
      have k5 := hS.out.cell 1 rfl 5
      have d5 := hS.out.cell 0 rfl 5
      dsimp only at v5 k5 d5
      clear HE TBO TKE TGO hkj hdj
      go_wp2
      go_ret
      exact ⟨by simp, hS.out.bel⟩
theorem law_adds : ∀ n : Nat, AddsC n
  | 0 => fun _ _ _ _ _ _ _ _ _ _ _ _ h => h.elim
  | n + 1 => law_adds_step n (law_adds n)
end Go.Proofs.YtaaneecceiefoaaDoor
