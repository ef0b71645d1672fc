/- Layer 35 walked: the members of a choice. Printed by genchoice.py. -/
import Derived.Test.YtfoaaglbpmmhiaaGreatDoorKitU
namespace Go.Proofs.YtfoaaglbpmmhiaaGreatDoor
open Go.RowKit Ck Md
set_option linter.unusedVariables false
set_option linter.unusedSimpArgs false
theorem mem_info : (Tryz.prog.info? 80).map (fun i => (i.zero, i.size, i.bytes)) = some (some (.agg #[.string ByteArray.empty, .string ByteArray.empty, .int .i64 0]), 3, 40) := by kernel_rfl
/-- the rows of a walk that makes members -/
def memR (vn vw v : Value) (out : List PMem) (R : List Row) : List Row := ⟨9, 1, vn, (out.map (·.name)).length, nmC (out.map (·.name))⟩ :: ⟨3, 1, vw, (out.map (·.name)).length, out.map (fun x => .int .i64 x.num)⟩ :: ⟨80, 3, v, out.length, out.flatMap memC⟩ :: R
def MemsOut (w : World) (l : List PMem) (e : Ending) (w' : World) : Prop := ∃ v, e = .returned v ∧ w'.ownsRow w.heap.size 80 3 v l.length (l.flatMap memC) ∧ Bel w w'
theorem memR_add (vn vw v : Value) (out : List PMem) (U ty : Str) (x : Int) (R : List Row) :
    (⟨9, 1, vn, (out.map (·.name)).length + 1, nmC (out.map (·.name) ++ [U])⟩ :: ⟨3, 1, vw, (out.map (·.name)).length + 1, out.map (fun x => Value.int .i64 x.num) ++ [.int .i64 x]⟩ :: ⟨80, 3, v, out.length + 1, out.flatMap memC ++ [.string (S U), .string (S ty), .int .i64 x]⟩ :: R : List Row) = memR vn vw v (out ++ [⟨U, ty, x⟩]) R := by
  unfold memR
  simp [memC]
theorem addM_eq (out : List PMem) (n ty : Str) (x : Int) : addM out n ty x = out ++ [⟨unique (out.map (·.name)) (Id.camel n), ty, x⟩] := rfl
set_option maxHeartbeats 4000000 in
set_option maxRecDepth 100000 in
theorem md_choice (g : Nat) (D : List PDecl) (mn : Str) (mq1 mq2 mq3 mq4 : Option Addr) (mm1 mm2 mm3 mm4 mc1 mc2 mc3 mc4 : Nat) (m : PMsg) (u : Str) (w : World) (h : NM w g D) (hv : VMsg w [.string (S mn), .slice mq1 mm1 mc1, .slice mq2 mm2 mc2, .slice mq3 mm3 mc3, .slice mq4 mm4 mc4] m) (hP : PT w) (hM : ML w) (hfn : m.fields.length ≤ 2000000) (hfl : ∀ f ∈ m.fields, f.name.length ≤ 100000000) :
    Calls Tryz.prog 41 #[.pointer (some ⟨g, 0, none⟩), .agg #[.string (S mn), .slice mq1 mm1 mc1, .slice mq2 mm2 mc2, .slice mq3 mm3 mc3, .slice mq4 mm4 mc4], .string (S u)] w (MemsOut w (choice D m u)) := by
  obtain ⟨i1, hi1, hy0, hy1, hy2⟩ := info_parts mem_info
  obtain ⟨_, _, _, _, hcm, hm1, _, _, _⟩ := hv
  cases hcm
  obtain ⟨q, c, hq, hl, hcap, hel⟩ := hm1
  cases hq
  have V := Lib.hid (show chGo D u [] (m.fields.drop 0) = choice D m u from rfl)
  generalize choice D m u = T at V
  have EL := Lib.hid hel
  have HF := Lib.hid hfl
  have HNM := Lib.hid (fun W (kk : Bel w W) => h.bel kk)
  clear hel hfl h
  have hS0 := Lib.hid (((((ST.start w).addbox #[.string (S m.name), .slice mq1 m.fields.length mc1, .slice mq2 mm2 mc2, .slice mq3 mm3 mc3, .slice mq4 mm4 mc4] 44).addbox #[.slice none 0 0, .slice none 0 0] 97).nilrow 80 3).nilrow 3 1 |>.nilrow 9 1)
  go_enter Tryz.func41, Tryz.ntmps41
  go_wp2
  go_loopw [8, 14] (fun v i wr => ∃ (k : Nat) (out : List PMem) (vn vw vo : Value), vo = v ∧ k ≤ m.fields.length ∧ i = .int .i64 k ∧ Hid (ST w (memR vn vw vo out []) [⟨w.heap.size + 1, #[vn, vw], 97⟩, ⟨w.heap.size, #[.string (S m.name), .slice mq1 m.fields.length mc1, .slice mq2 mm2 mc2, .slice mq3 mm3 mc3, .slice mq4 mm4 mc4], 44⟩] wr) ∧ out.length ≤ k ∧ Hid (chGo D u out (m.fields.drop k) = T)) (fun _ i _ => m.fields.length - (intOf i).toNat)
  case atStart => exact ⟨0, [], .slice none 0 0, .slice none 0 0, .slice none 0 0, rfl, by omega, rfl, Lib.hid (by have := hS0.out; simpa [memR, nmC] using this), by simp, V⟩
  case round =>
    clear hS0
    obtain ⟨k, out, vn, vw, vo, rfl, hk, rfl, hSH, hol, hx⟩ := hrel
    have hST := hSH.out
    have hfr := (hST.boxlt 0 rfl).2
    by_cases hlt : k < m.fields.length
    · have hg2 := List.getElem?_eq_getElem hlt
      obtain ⟨b, off, rfl, hbs, vs, hce, hvs⟩ := EL.out k _ hg2
      have hdr : m.fields.drop k = m.fields[k] :: m.fields.drop (k + 1) := List.drop_eq_getElem_cons hlt
      obtain ⟨_, _, hvs1, ⟨r1, r2, r3, r4, d1, d2, d3, d4, hvv, _⟩, hnt⟩ := hvs
      obtain ⟨r5, d5, hnv, hnl⟩ := sl_form hnt
      subst hvs1 hvv hnv
      have hfb := HF.out _ (List.getElem_mem hlt)
      generalize m.fields[k] = f at *
      have hki : (k : Int) < (m.fields.length : Int) := by omega
      have aE := agg_Field
      obtain ⟨K, hK⟩ : ∃ K, K = 16 := ⟨_, rfl⟩
      have zE : ∀ w, (Go.sizeOf 63).run Tryz.prog w = .ok K w := hK ▸ size_Field
      have l2 : Sem.run Tryz.prog (loadCellsFrom ⟨b, off + k * K, none⟩ 0 K #[]) wr = .ok #[.int .i64 f.num, .string (S f.name), .int .i64 f.card, .int .i64 f.key, .int .i64 f.tk, .string (S f.tn), .string (S f.un), .bool f.hd, .int .i64 f.df.k, .int .u64 f.df.x, .string (S f.df.t), .slice r1 f.df.n1 d1, .slice r2 f.df.n2 d2, .slice r3 f.df.n3 d3, .slice r4 f.df.n4 d4, .slice r5 f.notes.length d5] wr := run_loadCellsFrom_list Tryz.prog _ _ _ K hK.symm (fun j v hj => by
        rw [hK, Addr.add_lit]
        exact Bel.some hST.bel (hce j v hj))
      have HK := Lib.hid hK
      clear hK hce hg2 hnt
      have hst := hx.out
      rw [hdr] at hst
      unfold chGo at hst
      clear hx hdr
      by_cases hu : f.un = u
      · rw [if_pos hu, addM_eq] at hst
        have hue : ((S f.un).toList == (S u).toList) = true := by rw [ByteArray.toList_eq, ByteArray.toList_eq, S_list, S_list, hu]; simp
        have HA := Lib.hid (hST.addbox #[.int .i64 f.num, .string (S f.name), .int .i64 f.card, .int .i64 f.key, .int .i64 f.tk, .string (S f.tn), .string (S f.un), .bool f.hd, .int .i64 f.df.k, .int .u64 f.df.x, .string (S f.df.t), .slice r1 f.df.n1 d1, .slice r2 f.df.n2 d2, .slice r3 f.df.n3 d3, .slice r4 f.df.n4 d4, .slice r5 f.notes.length d5] 63)
        have hol2 : (out.map (·.name)).length ≤ 1000000000 := by rw [List.length_map]; omega
        have cam := Lib.hid (fun W (kk : Bel w W) => id_Camel (S f.name) f.name W (S_list _) (by rw [S_size]; exact hfb) (hM.below kk.out))
        have hcl := camel_len f.name
        have CE := Lib.hid (fun W (kk : Bel w W) => md_element g D f.tk f.tn W (HNM.out W kk))
        generalize element D f.tk f.tn = E at CE hst
        generalize Id.camel f.name = CN at cam hcl hst
        generalize hU : unique (out.map (·.name)) CN = U at hst
        have HU := Lib.hid hU
        have HST2 := Lib.hid hst
        clear hU hst hu hST hSH
        go_upto_region 7 with (fail)
        all_goals (first | (exfalso; exact absurd HK.out.symm (by assumption)) | (have h16 : 16 = K := (by assumption); subst h16))
        clear l2 aE zE HK
        obtain ⟨wd, hwd⟩ : ∃ wd, wd = (wr.alloc (.cells #[.int .i64 f.num, .string (S f.name), .int .i64 f.card, .int .i64 f.key, .int .i64 f.tk, .string (S f.tn), .string (S f.un), .bool f.hd, .int .i64 f.df.k, .int .u64 f.df.x, .string (S f.df.t), .slice r1 f.df.n1 d1, .slice r2 f.df.n2 d2, .slice r3 f.df.n3 d3, .slice r4 f.df.n4 d4, .slice r5 f.notes.length d5] 63)).drew := ⟨_, rfl⟩
        have HD := Lib.hid (show ST w _ _ wd by rw [hwd]; exact HA.out.belw (Bel.refl _).drew)
        have HWD := Lib.hid hwd
        clear hwd HA
        have SS := Lib.hid (fun (R : List Row) (X : List Box) (W : World) (hs : ST w R X W) (i : Nat) (hi : X[i]? = some ⟨wr.heap.size, #[.int .i64 f.num, .string (S f.name), .int .i64 f.card, .int .i64 f.key, .int .i64 f.tk, .string (S f.tn), .string (S f.un), .bool f.hd, .int .i64 f.df.k, .int .u64 f.df.x, .string (S f.df.t), .slice r1 f.df.n1 d1, .slice r2 f.df.n2 d2, .slice r3 f.df.n3 d3, .slice r4 f.df.n4 d4, .slice r5 f.notes.length d5], 63⟩) => show W.cell? ⟨wr.heap.size, 1, none⟩ = some (.string (S f.name)) ∧ W.cell? ⟨wr.heap.size, 0, none⟩ = some (.int .i64 f.num) ∧ W.cell? ⟨wr.heap.size, 4, none⟩ = some (.int .i64 f.tk) ∧ W.cell? ⟨wr.heap.size, 5, none⟩ = some (.string (S f.tn)) from ⟨hs.cell i hi 1, hs.cell i hi 0, hs.cell i hi 4, hs.cell i hi 5⟩)
        refine region_ord (fun W => W.cell? ⟨wr.heap.size, 1, none⟩ = some (.string (S f.name)) ∧ W.cell? ⟨wr.heap.size, 0, none⟩ = some (.int .i64 f.num) ∧ W.cell? ⟨wr.heap.size, 4, none⟩ = some (.int .i64 f.tk) ∧ W.cell? ⟨wr.heap.size, 5, none⟩ = some (.string (S f.tn))) [(0, true), (1, true), (2, true), (4, true), (5, true), (7, true), (8, true), (9, true), (11, true), (12, true), (3, false), (6, false), (10, false), (13, true), (14, false)] 15 (by kernel_rfl) (by kernel_rfl) HWD.out (SS.out _ _ _ HD.out 0 rfl) ?_
        simp only [pickOps, List.getElem?_cons_zero, List.getElem?_cons_succ]
        (with_reducible refine ord_take (v := ?vv170) (by with_unfolding_all rfl) (fun W hW => ?hy170) ?hr170); (case hy170 => ((try dsimp only at hW); go_simp; (all_goals with_reducible rfl))); (simp only [Act.put, List.setIfInBounds_toArray, List.set_cons_zero, List.set_cons_succ])
        (with_reducible refine ord_take (v := ?vv171) (by with_unfolding_all rfl) (fun W hW => ?hy171) ?hr171); (case hy171 => ((try dsimp only at hW); go_simp; (all_goals with_reducible rfl))); (simp only [Act.put, List.setIfInBounds_toArray, List.set_cons_zero, List.set_cons_succ])
        (with_reducible refine ord_take (v := ?vv172) (by with_unfolding_all rfl) (fun W hW => ?hy172) ?hr172); (case hy172 => ((try dsimp only at hW); go_simp; (all_goals with_reducible rfl))); (simp only [Act.put, List.setIfInBounds_toArray, List.set_cons_zero, List.set_cons_succ])
        (with_reducible refine ord_take (v := ?vv173) (by with_unfolding_all rfl) (fun W hW => ?hy173) ?hr173); (case hy173 => ((try dsimp only at hW); go_simp; (all_goals with_reducible rfl))); (simp only [Act.put, List.setIfInBounds_toArray, List.set_cons_zero, List.set_cons_succ])
        (with_reducible refine ord_take (v := ?vv174) (by with_unfolding_all rfl) (fun W hW => ?hy174) ?hr174); (case hy174 => ((try dsimp only at hW); go_simp; (all_goals with_reducible rfl))); (simp only [Act.put, List.setIfInBounds_toArray, List.set_cons_zero, List.set_cons_succ])
        (with_reducible refine ord_take (v := ?vv175) (by with_unfolding_all rfl) (fun W hW => ?hy175) ?hr175); (case hy175 => ((try dsimp only at hW); go_simp; (all_goals with_reducible rfl))); (simp only [Act.put, List.setIfInBounds_toArray, List.set_cons_zero, List.set_cons_succ])
        (with_reducible refine ord_take (v := ?vv176) (by with_unfolding_all rfl) (fun W hW => ?hy176) ?hr176); (case hy176 => ((try dsimp only at hW); go_simp; (all_goals with_reducible rfl))); (simp only [Act.put, List.setIfInBounds_toArray, List.set_cons_zero, List.set_cons_succ])
        (with_reducible refine ord_take (v := ?vv177) (by with_unfolding_all rfl) (fun W hW => ?hy177) ?hr177); (case hy177 => ((try dsimp only at hW); go_simp; (all_goals with_reducible rfl))); (simp only [Act.put, List.setIfInBounds_toArray, List.set_cons_zero, List.set_cons_succ])
        (with_reducible refine ord_take (v := ?vv178) (by with_unfolding_all rfl) (fun W hW => ?hy178) ?hr178); (case hy178 => ((try dsimp only at hW); go_simp; (all_goals with_reducible rfl))); (simp only [Act.put, List.setIfInBounds_toArray, List.set_cons_zero, List.set_cons_succ])
        (with_reducible refine ord_take (v := ?vv179) (by with_unfolding_all rfl) (fun W hW => ?hy179) ?hr179); (case hy179 => ((try dsimp only at hW); go_simp; (all_goals with_reducible rfl))); (simp only [Act.put, List.setIfInBounds_toArray, List.set_cons_zero, List.set_cons_succ])
        (with_reducible refine ord_call (fun K hK => ?_))
        go_simp
        (with_reducible refine (cam.out _ HD.out.bel).mono ?_)
        rintro e w1 ⟨rfl, g1⟩
        have H1 := Lib.hid (HD.out.belw g1).swapX
        refine hK _ _ (SS.out _ _ _ H1.out 1 rfl) ?_
        clear hK K g1 HD cam
        (try simp only [Act.put, List.setIfInBounds_toArray, List.set_cons_zero, List.set_cons_succ])
        have ADD := Lib.hid (md_addI w _ _ _ _ vn vw (out.map fun x : PMem => x.name) _ CN f.num w1 H1.out hP (by omega) hol2)
        rw [HU.out] at ADD
        (with_reducible refine ord_call (fun K hK => ?_))
        go_simp
        (with_reducible refine ADD.out.mono ?_)
        rintro e w2 ⟨vn', vw', rfl, h2⟩
        have H2 := Lib.hid h2
        refine hK _ _ (SS.out _ _ _ H2.out 1 rfl) ?_
        clear hK K h2 ADD H1
        (try simp only [Act.put, List.setIfInBounds_toArray, List.set_cons_zero, List.set_cons_succ])
        (with_reducible refine ord_call (fun K hK => ?_))
        go_simp
        (with_reducible refine (CE.out _ H2.out.bel).mono ?_)
        rintro e w3 ⟨rfl, g3⟩
        have H3 := Lib.hid (H2.out.belw g3)
        refine hK _ _ (SS.out _ _ _ H3.out 1 rfl) ?_
        clear hK K g3 H2 CE
        (try simp only [Act.put, List.setIfInBounds_toArray, List.set_cons_zero, List.set_cons_succ])
        (with_reducible refine ord_take (v := ?vv180) (by with_unfolding_all rfl) (fun W hW => ?hy180) ?hr180); (case hy180 => ((try dsimp only at hW); go_simp; (all_goals with_reducible rfl))); (simp only [Act.put, List.setIfInBounds_toArray, List.set_cons_zero, List.set_cons_succ])
        (with_reducible refine ord_call (fun K hK => ?_))
        go_simp
        have H4 := Lib.hid (H3.out.belw ((Bel.refl w3).alloc (.cells #[.string (S U), .string (S E), .int .i64 f.num] 80)))
        refine hK _ _ (SS.out _ _ _ H4.out 1 rfl) ?_
        clear hK K H3
        (try simp only [Act.put, List.setIfInBounds_toArray, List.set_cons_zero, List.set_cons_succ])
        refine ord_nil ?_
        simp only [List.drop_succ_cons, List.drop_zero]
        have hol3 : out.length ≤ 2000000 := by omega
        go_wp2_with (at_builtin; refine wpList_append_lies _ rfl _ _ 45 rfl w.heap.size 80 i1 (.agg #[.string ByteArray.empty, .string ByteArray.empty, .int .i64 0]) 3 40 Tryz.underlying45 hi1 hy0 hy1 hy2 rfl (by decide) vo out.length _ rfl (H4.out.row 2 rfl) ⟨w3.heap.size, 0, none⟩ 1 1 [.string (S U), .string (S E), .int .i64 f.num] rfl rfl (one_new _ _ _) (by simp [Value.oneCell']) (by decide) (by unfold maxLen; omega) (by omega) H4.out.bel.size (w3.heap.size + 1) (by simp) ?_)
        intro g3 cap3 w4 hown hgrow hfr3 hlt2
        have H7 := H4.out.grow 2 rfl hgrow hown (fr_own hfr3 (by simp))
        have H8 := Lib.hid (H7.swapX.dropbox0)
        clear H4 H7 hown hgrow hfr3 hlt2 SS
        go_wp2
        refine ⟨⟨k + 1, out ++ [⟨U, E, f.num⟩], vn', vw', _, rfl, by omega, rfl, Lib.hid (by rw [← memR_add]; exact H8.out), by simp; omega, HST2⟩, by simp [intOf]; omega⟩
      · rw [if_neg hu] at hst
        have hue : ((S f.un).toList == (S u).toList) = false := by rw [ByteArray.toList_eq, ByteArray.toList_eq, S_list, S_list]; simpa using hu
        have HST2 := Lib.hid hst
        have HA := Lib.hid (hST.belw ((Bel.refl wr).alloc (.cells #[.int .i64 f.num, .string (S f.name), .int .i64 f.card, .int .i64 f.key, .int .i64 f.tk, .string (S f.tn), .string (S f.un), .bool f.hd, .int .i64 f.df.k, .int .u64 f.df.x, .string (S f.df.t), .slice r1 f.df.n1 d1, .slice r2 f.df.n2 d2, .slice r3 f.df.n3 d3, .slice r4 f.df.n4 d4, .slice r5 f.notes.length d5] 63)))
        clear hst hu hSH hST
        go_upto_region 6 with (fail)
        all_goals (first | (exfalso; exact absurd HK.out.symm (by assumption)) | (have h16 : 16 = K := (by assumption); subst h16))
        clear l2 aE zE HK
        go_wp2
        refine ⟨⟨k + 1, out, vn, vw, _, rfl, by omega, rfl, HA, by omega, HST2⟩, by simp [intOf]; omega⟩
    · have hkl : k = m.fields.length := by omega
      have hxe : out = T := by have := hx.out; rw [hkl, List.drop_length] at this; exact this
      subst hxe
      subst hkl
      clear hx V EL
      go_wp2
      go_ret
      exact ⟨_, rfl, hST.row 2 rfl, hST.bel⟩
end Go.Proofs.YtfoaaglbpmmhiaaGreatDoor
