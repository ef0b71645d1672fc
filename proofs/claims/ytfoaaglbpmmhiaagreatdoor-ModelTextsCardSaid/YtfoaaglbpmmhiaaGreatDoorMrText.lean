/- The reference's layer 35 walked: Text. Printed by genrtext.py. -/
import Derived.Test.YtfoaaglbpmmhiaaGreatDoorMdText
import Derived.Test.YtfoaaglbpmmhiaaGreatDoorKitV
namespace Go.Proofs.YtfoaaglbpmmhiaaGreatDoor
open Go.RowKit Ck Md
set_option linter.unusedVariables false
set_option linter.unusedSimpArgs false
theorem words_at (w : World) (j : Nat) (h : j ≤ 4) : (w.alloc (.cells #[.string ⟨#[63]⟩, .string ⟨#[114, 101, 99, 111, 114, 100]⟩, .string ⟨#[99, 104, 111, 105, 99, 101]⟩, .string ⟨#[110, 97, 109, 101, 115]⟩, .string ⟨#[99, 108, 105, 101, 110, 116]⟩] 9)).cell? ⟨w.heap.size, j, none⟩ = some (.string (S (kindW j))) := by
  rw [World.cell?_alloc_at _ _ _ _ rfl]
  rcases (by omega : j = 0 ∨ j = 1 ∨ j = 2 ∨ j = 3 ∨ j = 4) with rfl | rfl | rfl | rfl | rfl <;> rfl
theorem kindW_out {k : Int} (h : k < 1 ∨ 4 < k) : kindW k = kindW ((0 : Nat) : Int) := by
  unfold kindW
  rw [if_neg (by omega), if_neg (by omega), if_neg (by omega), if_neg (by omega)]
  rfl
theorem ret_val {a b : ByteArray} (h : a = b) : Value.string a = .string b := by rw [h]
set_option maxHeartbeats 4000000 in
set_option maxRecDepth 100000 in
theorem rd_Text (v : Value) (l : List PDecl) (w : World) (hv : Decls w v l) (hB : declB 1000000000 l) :
    Calls Tryz.prog 17 #[v] w fun e w' => e = .returned (.string (S (Md.text l))) ∧ Bel w w' := by
  obtain ⟨q, c, rfl, hl, hcap, hel⟩ := hv
  have EL := Lib.hid hel
  have HBd := Lib.hid hB.2
  have hTl := hB.1
  have V := Lib.hid (show [] ++ Md.text (l.drop 0) = Md.text l from rfl)
  generalize Md.text l = T at V hTl
  have kV : Bel w (w.alloc (.cells #[.string ⟨#[63]⟩, .string ⟨#[114, 101, 99, 111, 114, 100]⟩, .string ⟨#[99, 104, 111, 105, 99, 101]⟩, .string ⟨#[110, 97, 109, 101, 115]⟩, .string ⟨#[99, 108, 105, 101, 110, 116]⟩] 9)) := (Bel.refl w).alloc _
  have HW := Lib.hid (fun W (k : Bel (w.alloc (.cells #[.string ⟨#[63]⟩, .string ⟨#[114, 101, 99, 111, 114, 100]⟩, .string ⟨#[99, 104, 111, 105, 99, 101]⟩, .string ⟨#[110, 97, 109, 101, 115]⟩, .string ⟨#[99, 108, 105, 101, 110, 116]⟩] 9)) W) (j : Nat) (h : j ≤ 4) => k.some (words_at w j h))
  clear hel hB
  go_enter Tryz.func17, Tryz.ntmps17
  go_wp2
  generalize hV1 : (w.alloc (.cells #[.string ⟨#[63]⟩, .string ⟨#[114, 101, 99, 111, 114, 100]⟩, .string ⟨#[99, 104, 111, 105, 99, 101]⟩, .string ⟨#[110, 97, 109, 101, 115]⟩, .string ⟨#[99, 108, 105, 101, 110, 116]⟩] 9)) = V1 at kV HW ⊢
  have KV := Lib.hid kV
  clear hV1 kV
  generalize w.heap.size = gw at HW ⊢
  go_loopw [4, 5] (fun o i wr => ∃ (k : Nat) (acc : Str), k ≤ l.length ∧ i = .int .i64 k ∧ o = .string (S acc) ∧ Hid (Bel V1 wr) ∧ Hid (acc ++ Md.text (l.drop k) = T)) (fun _ i _ => l.length - (intOf i).toNat)
  case atStart => exact ⟨0, [], by omega, rfl, rfl, Lib.hid (Bel.refl _), V⟩
  case round => as_aux_lemma =>
    obtain ⟨k, acc, hk, rfl, rfl, hb, hx⟩ := hrel
    by_cases hlt : k < l.length
    · have hki : (k : Int) < (l.length : Int) := by omega
      have hg := List.getElem?_eq_getElem hlt
      have hbd := HBd.out _ (List.getElem_mem hlt)
      obtain ⟨b, off, rfl, hbs, vs, hce, hvs⟩ := EL.out k _ hg
      obtain ⟨mv, hvs1, hmv⟩ := hvs
      subst hvs1
      have hx1 := Lib.hid (show (acc ++ headT l[k]) ++ ((l[k]).mems.flatMap memT ++ Md.text (l.drop (k + 1))) = T by rw [← hx.out, List.drop_eq_getElem_cons hlt, text_cons, declT_eq]; simp only [List.append_assoc])
      clear hx
      generalize l[k] = d at *
      obtain ⟨qm, cm, rfl, hml, hmc, hem⟩ := hmv
      have ED := Lib.hid (fun (W : World) (kk : Bel w W) => show W.cell? ⟨b, off + k * 4, none⟩ = some (.int .i64 d.kind) ∧ W.cell? ⟨b, off + k * 4 + 1, none⟩ = some (.string (S d.name)) ∧ W.cell? ⟨b, off + k * 4 + 2, none⟩ = some (.string (S d.frm)) ∧ W.cell? ⟨b, off + k * 4 + 3, none⟩ = some (.slice qm d.mems.length cm) from ⟨kk.some (by have := hce 0 (.int .i64 d.kind) rfl; rwa [Nat.add_zero] at this), kk.some (hce 1 _ rfl), kk.some (hce 2 _ rfl), kk.some (hce 3 _ rfl)⟩)
      have ELM := Lib.hid hem
      have HBm := Lib.hid hbd.2.2
      have hb1 := hbd.1
      have hb2 := hbd.2.1
      have hkl := kind_len d.kind
      clear hg hce hem hbd
      obtain ⟨y0, y1, y2, y3⟩ := ED.out _ (Bel.of KV.out hb.out).out
      go_upto_region 7 with (fail)
      clear y0 y1 y2 y3
      go_cut [26] (fun s26 wx => wx = wr ∧ ∃ B : Bool, s26 = .bool B ∧ Hid (B = true → kindW d.kind = kindW ((0 : Nat) : Int)) ∧ Hid (B = false → ∃ j : Nat, j ≤ 4 ∧ d.kind = j))
      case first =>
        by_cases h1 : d.kind < 1
        · have hj := Lib.hid (kindW_out (k := d.kind) (.inl h1))
          go_wp2
          go_meet
          exact ⟨rfl, true, rfl, Lib.hid (fun _ => hj.out), Lib.hid (fun h => by cases h)⟩
        · by_cases h4 : 4 < d.kind
          · have hj := Lib.hid (kindW_out (k := d.kind) (.inr h4))
            go_wp2
            go_meet
            exact ⟨rfl, true, rfl, Lib.hid (fun _ => hj.out), Lib.hid (fun h => by cases h)⟩
          · have hj := Lib.hid (show ∃ j : Nat, j ≤ 4 ∧ d.kind = j from ⟨d.kind.toNat, by omega, by omega⟩)
            go_wp2
            go_meet
            exact ⟨rfl, false, rfl, Lib.hid (fun h => by cases h), Lib.hid (fun _ => hj.out)⟩
      case rest =>
        obtain ⟨hwx, B, hs26, hT, hF⟩ := hcut
        subst hs26
        have HJ := Lib.hid hwx
        clear hwx
        rw [HJ.out]
        clear HJ
        go_upto_if 26 with (fail)
        go_cut [6] (fun s6 wx => wx = wr ∧ ∃ j : Nat, j ≤ 4 ∧ s6 = .int .i64 j ∧ Hid (kindW d.kind = kindW j))
        case first =>
          cases B with
          | true =>
            go_wp2
            go_meet
            exact ⟨rfl, 0, by omega, rfl, Lib.hid (by simpa using hT.out)⟩
          | false =>
            obtain ⟨j, hj4, hj⟩ := hF.out rfl
            have HJ := Lib.hid hj
            clear hj
            go_wp2
            go_meet
            exact ⟨rfl, j, hj4, by rw [HJ.out], Lib.hid (by rw [HJ.out])⟩
        clear hT hF
        rename_i _ wc
        obtain ⟨hwx, j, hj, hs6, hkj⟩ := hcut
        subst hs6
        have HJ := Lib.hid hwx
        clear hwx
        rw [HJ.out]
        have hji : (j : Int) < 5 := by omega
        go_upto_region 9 with (fail)
        obtain ⟨wd, hwd⟩ : ∃ wd, wd = wr.drew := ⟨_, rfl⟩
        have HD := Lib.hid (show Bel V1 wd by rw [hwd]; exact hb.out.drew)
        have HWD := Lib.hid hwd
        have a0 : wd.cell? ⟨gw, j, none⟩ = some (.string (S (kindW j))) := HW.out _ HD.out j hj
        obtain ⟨y0, y1, y2, y3⟩ := ED.out _ (Bel.of KV.out HD.out).out
        clear hwd y0 y3 HJ
        rw [← hkj.out] at a0
        have HH := Lib.hid (show S acc ++ S (kindW d.kind) ++ (⟨#[32]⟩ : ByteArray) ++ S d.name ++ (⟨#[32, 61, 32]⟩ : ByteArray) ++ S d.frm ++ (⟨#[10]⟩ : ByteArray) = S (acc ++ headT d) by unfold headT; simp only [← S_app, ByteArray.append_assoc]; rfl)
        have hhl : (headT d).length = (kindW d.kind).length + 5 + d.name.length + d.frm.length := by unfold headT; simp only [List.length_append, List.length_cons, List.length_nil]; omega
        have hal : acc.length + (headT d).length ≤ 1000000000 := by
          have := congrArg List.length hx1.out
          simp only [List.length_append] at this
          omega
        have hx2 := Lib.hid (show (acc ++ headT d) ++ (d.mems.drop 0).flatMap memT ++ Md.text (l.drop (k + 1)) = T by rw [← hx1.out]; simp)
        generalize acc ++ headT d = acc1 at HH hx2
        generalize headT d = HT at hx1 hal hhl
        generalize kindW d.kind = KD at a0 HH hkl hhl hkj
        have s0 := S_size acc
        have s1 := S_size KD
        have s2 := S_size d.name
        have s3 := S_size d.frm
        have q1 : ¬ (9223372036854775807 < (S acc).size + (S KD).size) := by omega
        have q2 : ¬ (9223372036854775807 < (S acc).size + (S KD).size + 1) := by omega
        have q3 : ¬ (9223372036854775807 < (S acc).size + (S KD).size + 1 + (S d.name).size) := by omega
        have q4 : ¬ (9223372036854775807 < (S acc).size + (S KD).size + 1 + (S d.name).size + 3) := by omega
        have q5 : ¬ (9223372036854775807 < (S acc).size + (S KD).size + 1 + (S d.name).size + 3 + (S d.frm).size) := by omega
        have q6 : ¬ (9223372036854775807 < (S acc).size + (S KD).size + 1 + (S d.name).size + 3 + (S d.frm).size + 1) := by omega
        clear s0 s1 s2 s3
        refine rg_tail 19 (by kernel_rfl) (by kernel_rfl) HWD.out ?_
        (simp only [List.take_succ_cons, List.take_zero, List.drop_succ_cons, List.drop_zero]); (repeat (first | ((with_reducible refine wpStill_step (fun K hK => ?_)); go_simp; (with_reducible refine hK _ ?_); clear hK K) | ((with_reducible refine rg_skip ?_ ?_); (with_unfolding_all rfl)))); (with_reducible refine wpStill_nil ?_)
        go_upto_region 10 with (fail)
        clear a0 y1 y2 q1 q2 q3 q4 q5 q6 HWD
        go_upto_region 11 with (fail)
        go_loopw [4, 7] (fun o i wr => ∃ (j2 : Nat) (acc2 : Str), j2 ≤ d.mems.length ∧ i = .int .i64 j2 ∧ o = .string (S acc2) ∧ Hid (Bel V1 wr) ∧ Hid (acc2 ++ (d.mems.drop j2).flatMap memT ++ Md.text (l.drop (k + 1)) = T)) (fun _ i _ => d.mems.length - (intOf i).toNat)
        case atStart => exact ⟨0, acc1, by omega, rfl, ret_val HH.out, HD, hx2⟩
        case round =>
          clear HD hx2 HH hb hal hhl hx1 hkj
          obtain ⟨j2, acc2, hj2, rfl, rfl, hb, hx⟩ := hrel
          obtain ⟨y0, y1, y2, y3⟩ := ED.out _ (Bel.of KV.out hb.out).out
          clear y0 y1 y2
          by_cases hlt2 : j2 < d.mems.length
          · have hji2 : (j2 : Int) < (d.mems.length : Int) := by omega
            have hg2 := List.getElem?_eq_getElem hlt2
            have hbm := HBm.out _ (List.getElem_mem hlt2)
            obtain ⟨bm, om, rfl, hbsm, vs, hcem, hvsm⟩ := ELM.out j2 _ hg2
            have hvs' : vs = memC d.mems[j2] := hvsm
            subst hvs'
            have hx1 := Lib.hid (show acc2 ++ memT d.mems[j2] ++ (d.mems.drop (j2 + 1)).flatMap memT ++ Md.text (l.drop (k + 1)) = T by rw [← hx.out, List.drop_eq_getElem_cons hlt2, List.flatMap_cons]; simp only [List.append_assoc])
            clear hx
            generalize d.mems[j2] = m at *
            have kr : Bel w wr := (Bel.of KV.out hb.out).out
            have x0 : wr.cell? ⟨bm, om + j2 * 3, none⟩ = some (.string (S m.name)) := kr.some (by have := hcem 0 (.string (S m.name)) rfl; rwa [Nat.add_zero] at this)
            have x1 : wr.cell? ⟨bm, om + j2 * 3 + 1, none⟩ = some (.string (S m.ty)) := kr.some (hcem 1 _ rfl)
            have x2 : wr.cell? ⟨bm, om + j2 * 3 + 2, none⟩ = some (.int .i64 m.num) := kr.some (hcem 2 _ rfl)
            clear hg2 hcem hvsm kr
            go_upto_region 14 with (fail)
            clear x0 x1 x2 y3
            generalize hW : World.alloc wr _ = W1
            have hbx : W1.heap[wr.heap.size]? = some (.cells #[.string (S m.name), .string (S m.ty), .int .i64 m.num] 80 (0, 0)) := by rw [← hW]; exact heap_alloc_new _ _
            have HB1 := Lib.hid (show Bel V1 W1 by rw [← hW]; exact hb.out.alloc _)
            clear hW hb
            generalize wr.heap.size = gm at hbx ⊢
            obtain ⟨wd2, hwd⟩ : ∃ wd2, wd2 = W1.drew := ⟨_, rfl⟩
            have HD2 := Lib.hid (show Bel W1 wd2 by rw [hwd]; exact (Bel.refl _).drew)
            have HWD := Lib.hid hwd
            clear hwd
            have SS := Lib.hid (fun (W : World) (kk : Bel W1 W) => show W.cell? ⟨gm, 0, none⟩ = some (.string (S m.name)) ∧ W.cell? ⟨gm, 1, none⟩ = some (.string (S m.ty)) ∧ W.cell? ⟨gm, 2, none⟩ = some (.int .i64 m.num) from ⟨kk.some (Lib.cell_of_heap hbx 0), kk.some (Lib.cell_of_heap hbx 1), kk.some (Lib.cell_of_heap hbx 2)⟩)
            have CI2 := Lib.hid (rd_decimal m.num wd2 hbm.2.2.1 hbm.2.2.2)
            have hil := Lib.itoa_length_le m.num hbm.2.2.1 hbm.2.2.2
            have HH := Lib.hid (show S acc2 ++ (⟨#[32, 32]⟩ : ByteArray) ++ S m.name ++ (⟨#[32]⟩ : ByteArray) ++ S (Lib.itoa m.num) = S (acc2 ++ [32, 32] ++ m.name ++ [32] ++ Lib.itoa m.num) by simp only [← S_app]; rfl)
            have hx1 := Lib.hid (show acc2 ++ [32, 32] ++ m.name ++ [32] ++ Lib.itoa m.num ++ (if m.ty = [] then [] else 32 :: m.ty) ++ [10] ++ (d.mems.drop (j2 + 1)).flatMap memT ++ Md.text (l.drop (k + 1)) = T by have := hx1.out; rw [memT_eq] at this; simpa only [List.append_assoc] using this)
            have hml2 := congrArg List.length hx1.out
            simp only [List.length_append, List.length_cons, List.length_nil] at hml2
            have hbn := hbm.1
            have hbt := hbm.2.1
            generalize Lib.itoa m.num = NU at CI2 hil HH hx1 hml2
            clear hbm
            have s0 := S_size acc2
            have s1 := S_size m.name
            have s2 := S_size NU
            have s3 := S_size m.ty
            have q1 : ¬ (9223372036854775807 < (S acc2).size + 2) := by omega
            have q2 : ¬ (9223372036854775807 < (S acc2).size + 2 + (S m.name).size) := by omega
            have q3 : ¬ (9223372036854775807 < (S acc2).size + 2 + (S m.name).size + 1) := by omega
            have q4 : ¬ (9223372036854775807 < (S acc2).size + 2 + (S m.name).size + 1 + (S NU).size) := by omega
            have q5 : ¬ (9223372036854775807 < (S acc2).size + 2 + (S m.name).size + 1 + (S NU).size + 1) := by omega
            have q6 : ¬ (9223372036854775807 < (S acc2).size + 2 + (S m.name).size + 1 + (S NU).size + 1 + (S m.ty).size) := by omega
            have q7 : ¬ (9223372036854775807 < (S acc2).size + 2 + (S m.name).size + 1 + (S NU).size + 1 + (S m.ty).size + 1) := by omega
            clear s0 s1 s2 s3
            refine region_ord (fun W => W.cell? ⟨gm, 0, none⟩ = some (.string (S m.name)) ∧ W.cell? ⟨gm, 1, none⟩ = some (.string (S m.ty)) ∧ W.cell? ⟨gm, 2, none⟩ = some (.int .i64 m.num)) [(0, true), (1, true), (2, true), (3, true), (4, true), (5, true), (6, true), (7, true), (8, false)] 9 (by kernel_rfl) (by kernel_rfl) HWD.out (SS.out _ HD2.out) ?_
            simp only [pickOps, List.getElem?_cons_zero, List.getElem?_cons_succ]
            (with_reducible refine ord_take (v := ?vv3) (by with_unfolding_all rfl) (fun W hW => ?hy3) ?hr3); (case hy3 => ((try dsimp only at hW); go_simp; (all_goals with_reducible rfl))); (simp only [Act.put, List.setIfInBounds_toArray, List.set_cons_zero, List.set_cons_succ])
            (with_reducible refine ord_take (v := ?vv4) (by with_unfolding_all rfl) (fun W hW => ?hy4) ?hr4); (case hy4 => ((try dsimp only at hW); go_simp; (all_goals with_reducible rfl))); (simp only [Act.put, List.setIfInBounds_toArray, List.set_cons_zero, List.set_cons_succ])
            (with_reducible refine ord_take (v := ?vv5) (by with_unfolding_all rfl) (fun W hW => ?hy5) ?hr5); (case hy5 => ((try dsimp only at hW); go_simp; (all_goals with_reducible rfl))); (simp only [Act.put, List.setIfInBounds_toArray, List.set_cons_zero, List.set_cons_succ])
            (with_reducible refine ord_take (v := ?vv6) (by with_unfolding_all rfl) (fun W hW => ?hy6) ?hr6); (case hy6 => ((try dsimp only at hW); go_simp; (all_goals with_reducible rfl))); (simp only [Act.put, List.setIfInBounds_toArray, List.set_cons_zero, List.set_cons_succ])
            (with_reducible refine ord_take (v := ?vv7) (by with_unfolding_all rfl) (fun W hW => ?hy7) ?hr7); (case hy7 => ((try dsimp only at hW); go_simp; (all_goals with_reducible rfl))); (simp only [Act.put, List.setIfInBounds_toArray, List.set_cons_zero, List.set_cons_succ])
            (with_reducible refine ord_take (v := ?vv8) (by with_unfolding_all rfl) (fun W hW => ?hy8) ?hr8); (case hy8 => ((try dsimp only at hW); go_simp; (all_goals with_reducible rfl))); (simp only [Act.put, List.setIfInBounds_toArray, List.set_cons_zero, List.set_cons_succ])
            (with_reducible refine ord_take (v := ?vv9) (by with_unfolding_all rfl) (fun W hW => ?hy9) ?hr9); (case hy9 => ((try dsimp only at hW); go_simp; (all_goals with_reducible rfl))); (simp only [Act.put, List.setIfInBounds_toArray, List.set_cons_zero, List.set_cons_succ])
            (with_reducible refine ord_take (v := ?vv10) (by with_unfolding_all rfl) (fun W hW => ?hy10) ?hr10); (case hy10 => ((try dsimp only at hW); go_simp; (all_goals with_reducible rfl))); (simp only [Act.put, List.setIfInBounds_toArray, List.set_cons_zero, List.set_cons_succ])
            (with_reducible refine ord_call (fun K hK => ?_))
            go_simp
            (with_reducible refine CI2.out.mono ?_)
            rintro e w1 ⟨rfl, k1⟩
            have K1 := Lib.hid (Bel.of HD2.out k1).out
            refine hK _ _ (SS.out _ K1.out) ?_
            clear hK K HD2 CI2 k1
            (try simp only [Act.put, List.setIfInBounds_toArray, List.set_cons_zero, List.set_cons_succ])
            refine ord_nil ?_
            simp only [List.drop_succ_cons, List.drop_zero]
            obtain ⟨x0, x1, x2⟩ := SS.out _ K1.out
            have KF := Lib.hid (show Bel V1 w1 from (Bel.of HB1.out K1.out).out)
            by_cases hty : m.ty = []
            · have hte : (S m.ty).toList = [] := by rw [ByteArray.toList_eq, S_list, hty]
              have hx3 := Lib.hid (show (acc2 ++ [32, 32] ++ m.name ++ [32] ++ NU ++ [10]) ++ (d.mems.drop (j2 + 1)).flatMap memT ++ Md.text (l.drop (k + 1)) = T by rw [← hx1.out, if_pos hty]; simp only [List.append_assoc, List.nil_append])
              have HH2 := Lib.hid (show S acc2 ++ (⟨#[32, 32]⟩ : ByteArray) ++ S m.name ++ (⟨#[32]⟩ : ByteArray) ++ S NU ++ (⟨#[10]⟩ : ByteArray) = S (acc2 ++ [32, 32] ++ m.name ++ [32] ++ NU ++ [10]) by rw [HH.out, ← S_app]; rfl)
              clear hx1 hty HB1 SS K1 HH HWD hml2
              go_wp2
              go_roundw
              case rel => exact ⟨j2 + 1, _, by omega, by go_num, ret_val HH2.out, KF, hx3⟩
              case measure => simp [intOf]; omega
            · have hte : (S m.ty).toList ≠ [] := by rw [ByteArray.toList_eq, S_list]; exact hty
              have hte2 : (S m.ty).toList.isEmpty = false := by rw [S_isEmpty]; simpa using hty
              have hx3 := Lib.hid (show (acc2 ++ [32, 32] ++ m.name ++ [32] ++ NU ++ [32] ++ m.ty ++ [10]) ++ (d.mems.drop (j2 + 1)).flatMap memT ++ Md.text (l.drop (k + 1)) = T by rw [← hx1.out, if_neg hty]; simp only [List.append_assoc]; rfl)
              have HH2 := Lib.hid (show S acc2 ++ (⟨#[32, 32]⟩ : ByteArray) ++ S m.name ++ (⟨#[32]⟩ : ByteArray) ++ S NU ++ (⟨#[32]⟩ : ByteArray) ++ S m.ty ++ (⟨#[10]⟩ : ByteArray) = S (acc2 ++ [32, 32] ++ m.name ++ [32] ++ NU ++ [32] ++ m.ty ++ [10]) by rw [HH.out, ← S_app, ← S_app, ← S_app]; rfl)
              clear hx1 hty HB1 SS K1 HH HWD hml2
              go_wp2
              go_roundw
              case rel => exact ⟨j2 + 1, _, by omega, by go_num, ret_val HH2.out, KF, hx3⟩
              case measure => simp [intOf]; omega
          · have hjl : j2 = d.mems.length := by omega
            have hx3 := Lib.hid (show acc2 ++ Md.text (l.drop (k + 1)) = T by have := hx.out; rw [hjl, List.drop_length] at this; simpa using this)
            clear hx
            go_wp2
            go_roundw
            case rel => exact ⟨k + 1, acc2, by omega, by go_num, rfl, hb, hx3⟩
            case measure => simp [intOf]; omega
    · have hkl : k = l.length := by omega
      have hxe : acc = T := by have := hx.out; rw [hkl, List.drop_length] at this; simpa [Md.text] using this
      subst hxe
      clear hx
      go_wp2
      go_ret
      exact ⟨rfl, (Bel.of KV.out hb.out).out⟩
end Go.Proofs.YtfoaaglbpmmhiaaGreatDoor
