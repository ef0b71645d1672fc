/- Layer 19 walked: the mask of a path. Printed by gmpath.py. -/
import Derived.Test.YtaaneecceiefoaaDoorMaDPath
import Derived.Test.YtaaneecceiefoaaDoorKitI
namespace Go.Proofs.YtaaneecceiefoaaDoor
open Go.RowKit Ck Ma
set_option linter.unusedVariables false
set_option linter.unusedSimpArgs false
/-- a mask and an error -/
def MaskErr (n : Nat) (w : World) (R : Int × List PMask) (e : Ending) (w' : World) : Prop := ∃ v, e = .returned (.tuple #[v, .int .i64 R.1]) ∧ MaskD (fun b => w.heap.size ≤ b) n w' v R.2 ∧ Bel w w'
theorem err_nil {n : Nat} {w w' : World} {c : Int} (h : Bel w w') : MaskErr n w (c, []) (.returned (.tuple #[.slice none 0 0, .int .i64 c])) w' := ⟨_, rfl, MaskD.nil _ _, h⟩
theorem nest_at {l : List Int} {k : Nat} (h : k < l.length) : nest (l.drop k) = [.mk l[k] (nest (l.drop (k + 1)))] := by
  rw [List.drop_eq_getElem_cons h]
  rfl
theorem maskD_one {A : Nat → Prop} {n : Nat} {w : World} {z : Int} {v : Value} {l : List PMask} (h : MaskD A n w v l) (hA : A w.heap.size) : MaskD A (n + 1) (w.alloc (.cells #[.int .i64 z, v] 42)) (.slice (some ⟨w.heap.size, 0, none⟩) 1 1) [.mk z l] := by
  refine ⟨some ⟨w.heap.size, 0, none⟩, 1, rfl, by simp, by simp, fun i x hx => ?_⟩
  have hi : i = 0 := by
    have := (List.getElem?_eq_some_iff.1 hx).1
    simpa using this
  subst hi
  have hx2 : PMask.mk z l = x := by simpa using hx
  subst hx2
  exact ⟨w.heap.size, 0, v, rfl, by simp, hA, by simp [PMask.num], by simp, h.bel ((Bel.refl w).alloc _)⟩
set_option maxHeartbeats 4000000 in
set_option maxRecDepth 100000 in
theorem mk_path (mv ev sv : Value) (s : PSchema) (name t : Str) (w0 : World) (hs : VSchema w0 [mv, ev, sv] s) (hM : ML w0) (ht : t.length ≤ 1000000) :
    Calls Tryd.prog 40 #[.agg #[mv, ev, sv], .string (S name), .string (S t)] w0 (MaskErr (t.length + 2) w0 (pathM (envOf s) (namesOf s) name t)) := by
  have CP := Lib.hid (fun W (k : Bel w0 W) => ds_Path mv ev sv s name t W (VSchema.staysB hs k) (by obtain ⟨q, hq⟩ := hM; exact ⟨q, k.some hq⟩) ht)
  have CSp := Lib.hid (fun W (k : Bel w0 W) => id_split (S t) 46 t W (S_list _) (by rw [S_size]; omega) (by obtain ⟨q, hq⟩ := hM; exact ⟨q, k.some hq⟩))
  have hpl : (Id.cut 46 t).length ≤ t.length + 1 := by rw [cut_pieces]; exact pieces_len 46 t
  have hple : ∀ p ∈ Id.cut 46 t, p.length ≤ 1000000 := by rw [cut_pieces]; exact fun p hp => Nat.le_trans (pieces_le 46 t p hp) ht
  have HPL := Lib.hid hple
  have V := Lib.hid (show ((Id.cut 46 t).drop 0).all Id.isPart = (pieces 46 t).all (namesOf s).part by rw [← cut_pieces]; rfl)
  have hno : (pieces 46 t).all (namesOf s).part = false → pathM (envOf s) (namesOf s) name t = (2, []) := fun h => by unfold pathM; rw [h]; rfl
  have hyes : (pieces 46 t).all (namesOf s).part = true → pathM (envOf s) (namesOf s) name t = (if (pathR s name t).1 = 0 then (0, nest ((pathR s name t).2.map PField.num)) else ((pathR s name t).1, [])) := fun h => (pathM_eq s name t (fun e => by subst e; cases h) h).1
  have hrl : (pathR s name t).2.length ≤ t.length + 1 := pathR_len s name t
  have HNO := Lib.hid hno
  have HYES := Lib.hid hyes
  generalize (pieces 46 t).all (namesOf s).part = B at V HNO HYES
  generalize pathM (envOf s) (namesOf s) name t = R at HNO HYES
  generalize pathR s name t = Q at HYES CP hrl
  generalize Id.cut 46 t = ps at CSp hpl V HPL
  obtain ⟨_, _, _, he, hm, hev, hsv⟩ := hs
  cases he
  obtain ⟨q2, c2, rfl, hl2⟩ := sl_form hev
  obtain ⟨q3, c3, rfl, hl3⟩ := sl_form hsv
  obtain ⟨q1, c1, rfl, hl1⟩ := sl_form hm
  clear hm hev hsv
  have hS0 := Lib.hid ((ST.start w0).addbox #[.slice q1 s.msgs.length c1, .slice q2 s.enums.length c2, .slice q3 s.svcs.length c3] 62)
  clear hM hple hno hyes
  have C1 := Lib.hid (CSp.out _ hS0.out.bel)
  have H1' := hS0.out.addbox (ps.map strV).toArray 9
  simp only [World.size_alloc] at H1'
  have H1 := Lib.hid H1'
  clear H1' CSp
  go_enter Tryd.func40, Tryd.ntmps40
  go_wp2_with (go_at_call 39; (with_reducible refine C1.out.mono ?_); rintro e w2 ⟨rfl, hw2⟩; subst hw2)
  generalize hwp : World.alloc (World.alloc w0 _) _ = wp at H1 ⊢
  clear hwp
  go_loopw [17] (fun i wr => ∃ (k : Nat), k ≤ ps.length ∧ i = .int .i64 k ∧ Hid (ST w0 [] [⟨w0.heap.size + 1, (ps.map strV).toArray, 9⟩, ⟨w0.heap.size, #[.slice q1 s.msgs.length c1, .slice q2 s.enums.length c2, .slice q3 s.svcs.length c3], 62⟩] wr) ∧ Hid ((ps.drop k).all Id.isPart = B)) (fun i _ => ps.length - (intOf i).toNat)
  case atStart => exact ⟨0, by omega, rfl, H1, V⟩
  case round => as_aux_lemma =>
    clear V H1 C1
    obtain ⟨k, hk, rfl, hS, hx⟩ := hrel
    by_cases hlt : k < ps.length
    · have hki : (k : Int) < (ps.length : Int) := by omega
      have c0 := (hS.out.cell 0 rfl k).trans (show (ps.map strV).toArray[k]? = some (.string (S ps[k])) by simp [strV, hlt])
      dsimp only at c0
      have hst := hx.out
      rw [List.drop_eq_getElem_cons hlt, List.all_cons] at hst
      have hpl1 := HPL.out _ (List.getElem_mem hlt)
      clear hx CP
      generalize ps[k] = p at *
      have CI := Lib.hid (fun W => id_IsPart (S p) p W (S_list _) (by rw [S_size]; omega))
      generalize Id.isPart p = P at CI hst
      cases P with
      | true =>
        have HST := Lib.hid (show (ps.drop (k + 1)).all Id.isPart = B from hst)
        clear hst
        go_wp2_with (go_at_call 54; (with_reducible refine (CI.out _).mono ?_); rintro e w3 ⟨rfl, k3⟩; have k3 : Bel _ w3 := k3; have H3 := Lib.hid (hS.out.belw k3); clear k3)
        go_roundw
        case rel => exact ⟨k + 1, by omega, by go_num, H3, HST⟩
        case measure => simp [intOf]; omega
      | false =>
        have hb : false = B := hst
        have hr := HNO.out hb.symm
        subst hr
        clear hst hb
        go_wp2_with (go_at_call 54; (with_reducible refine (CI.out _).mono ?_); rintro e w3 ⟨rfl, k3⟩; have k3 : Bel _ w3 := k3; have H3 := Lib.hid (hS.out.belw k3); clear k3)
        go_ret2
        exact err_nil H3.out.bel
    · have hkl : k = ps.length := by omega
      have hb : true = B := by have := hx.out; rw [hkl, List.drop_length] at this; exact this
      have hr := HYES.out hb.symm
      have C2 := Lib.hid (CP.out wr hS.out.bel)
      have t0 := hS.out.cell 1 rfl 0
      have t1 := hS.out.cell 1 rfl 1
      have t2 := hS.out.cell 1 rfl 2
      dsimp only at t0 t1 t2
      have HBel := Lib.hid hS.out.bel
      clear hx CP HNO HYES HPL hb
      subst hkl
      by_cases hq : Q.1 = 0
      · rw [if_pos hq] at hr
        obtain ⟨q1, ql⟩ := Q
        dsimp only at hq hrl C2 hr
        subst hq
        obtain ⟨NS, hNS⟩ : ∃ NS, NS = ql.map PField.num := ⟨_, rfl⟩
        rw [← hNS] at hr
        subst hr
        have HNS := Lib.hid hNS
        clear hNS
        go_upto_region 10 with (go_at_call 55; (with_reducible refine C2.out.mono ?_); rintro e w3 ⟨v3, rfl, L, hS3, hfe, hLe⟩; have HFE := Lib.hid hfe; have HLE := Lib.hid hLe; have H3 := Lib.hid hS3; clear hS3 hfe hLe)
        obtain ⟨qo, co, hvo⟩ := own_form (H3.out.row 0 rfl)
        dsimp only [frow] at hvo
        subst hvo
        have hLl : L.length ≤ t.length + 1 := by have := congrArg List.length HLE.out; simp at this; omega
        have HLN := Lib.hid (show (L.map fun x => x.f.num) = NS by rw [HNS.out, ← HLE.out, List.map_map]; rfl)
        have hnl : NS.length = L.length := by rw [← HLN.out, List.length_map]
        have HNL := Lib.hid hnl
        clear C2 t0 t1 t2 hnl
        obtain ⟨wo, hwo⟩ : ∃ wo : World, wo = wr := ⟨_, rfl⟩
        subst hwo
        go_wp2
        go_loopw [12, 13] (fun vo vi wr => ∃ (k : Nat) (z : Int), k ≤ L.length ∧ z = (k : Int) - 1 ∧ vi = .int .i64 z ∧ Hid (ST wo [frow (.slice qo L.length co) L] [] wr) ∧ Hid (MaskD (fun b => w0.heap.size ≤ b) (L.length - k) wr vo (nest (NS.drop k)))) (fun _ vi _ => (intOf vi + 1).toNat)
        case atStart => exact ⟨L.length, _, by omega, rfl, rfl, H3, Lib.hid (by rw [List.drop_of_length_le (by rw [HNL.out]; omega)]; exact MaskD.nil _ _)⟩
        case round => as_aux_lemma =>
          clear H3
          obtain ⟨k, z, hk, hz, rfl, hS, hM⟩ := hrel
          obtain ⟨mp, mc, hvo⟩ := hM.out.form
          subst hvo
          cases k with
          | zero =>
            have hz2 : z = -1 := by rw [hz]; rfl
            subst hz2
            have HMM := Lib.hid (hM.out.le (show L.length - 0 ≤ t.length + 2 by omega))
            have HBB := Lib.hid (Bel.of HBel.out hS.out.bel)
            clear hz hM
            go_wp2
            go_ret2
            exact ⟨.slice mp (nest (NS.drop 0)).length mc, rfl, HMM.out, HBB.out⟩
          | succ kp =>
            have hz2 : z = (kp : Int) := by rw [hz]; simp
            subst hz2
            have hkp : kp < L.length := by omega
            have hkpi : (kp : Int) < (L.length : Int) := by omega
            have hkn : kp < NS.length := by rw [HNL.out]; exact hkp
            have hnk : NS[kp] = L[kp].f.num := by
              have := congrArg (fun l => l[kp]?) HLN.out
              simp only [List.getElem?_map, List.getElem?_eq_getElem hkp, List.getElem?_eq_getElem hkn, Option.map_some] at this
              exact (Option.some.inj this).symm
            have hnest := nest_at hkn
            rw [hnk] at hnest
            rcases own_at feC_len (hS.out.row 0 rfl) with ⟨_, h2⟩ | ⟨gq, cq, hvo2, hgb, hgl, hcl, hel⟩
            · change L = [] at h2
              rw [h2] at hkp
              cases hkp
            dsimp only [frow] at hvo2 hel
            cases hvo2
            have e0 := hel kp _ (List.getElem?_eq_getElem hkp) 0 _ (HFE.out _ (List.getElem_mem hkp)).1
            rw [Nat.add_zero] at e0
            have HNE := Lib.hid hnest
            have hbw : w0.heap.size ≤ wr.heap.size := (Bel.of HBel.out hS.out.bel).size
            have hM2 := Lib.hid (maskD_one (z := L[kp].f.num) hM.out hbw)
            generalize L[kp].f.num = nk at *
            have hlev : L.length - (kp + 1) + 1 = L.length - kp := by omega
            have HLV := Lib.hid hlev
            have HSN := Lib.hid (hS.out.belw ((Bel.refl wr).alloc (.cells #[.int .i64 nk, .slice mp (nest (NS.drop (kp + 1))).length mc] 42)))
            clear hz hel hnest hnk hM hS hlev
            go_wp2
            go_roundw
            case rel => exact ⟨kp, _, by omega, rfl, by go_num, HSN, Lib.hid (by rw [HNE.out, ← HLV.out]; exact hM2.out)⟩
            case measure => simp [intOf] <;> omega
      · rw [if_neg hq] at hr
        subst hr
        have hqb : (Q.1 != 0) = true := bne_t hq
        clear hq
        go_wp2_with (go_at_call 55; (with_reducible refine C2.out.mono ?_); rintro e w3 ⟨v3, rfl, L, hS3, hfe, hLe⟩; have H3 := Lib.hid (Bel.of HBel.out hS3.bel); obtain ⟨qo, co, hvo⟩ := own_form (hS3.row 0 rfl); dsimp only [frow] at hvo; subst hvo; clear hS3 hfe hLe)
        go_ret2
        exact err_nil H3.out
end Go.Proofs.YtaaneecceiefoaaDoor
