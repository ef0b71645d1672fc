/- Layer 19 walked: the paths of a mask, as a text. Printed by gpaths.py. -/
import Derived.Test.YtaaneecceiefoaaDoorMaCheck
import Derived.Test.YtaaneecceiefoaaDoorKitM
import Derived.Test.YtaaneecceiefoaaDoorShelf
namespace Go.Proofs.YtaaneecceiefoaaDoor
open Go.RowKit Ck Ma
set_option linter.unusedVariables false
set_option linter.unusedSimpArgs false
theorem textN_pos {E : Env} {M : Names} : ∀ (n : Nat) {nm : List UInt8} {l : List PMask}, Dp n l → l ≠ [] → textN E M n nm l ≠ []
  | 0, _, l, h, hl => absurd h hl
  | n + 1, nm, [], _, hl => absurd rfl hl
  | n + 1, nm, x :: r, h, _ => by
    show (List.flatMap _ (x :: r)) ≠ []
    rw [List.flatMap_cons]
    intro e
    have e1 := (List.append_eq_nil_iff.1 e).1
    split at e1
    · cases e1
    · rename_i hw
      have := textN_pos (E := E) (M := M) n (nm := E.ty nm x.num) (h x (List.mem_cons_self ..)) (fun hs => hw (whole_iff.2 hs))
      exact this (List.map_eq_nil_iff.1 e1)
theorem textN_ne0 {E : Env} {M : Names} : ∀ (n : Nat) {nm : List UInt8} {l : List PMask}, ∀ q ∈ textN E M n nm l, q ≠ []
  | 0, _, _, q, hq => (by cases hq)
  | n + 1, nm, l, q, hq => by
    obtain ⟨x, _, hx⟩ := List.mem_flatMap.1 hq
    split at hx
    · rw [List.mem_singleton] at hx
      subst hx
      simp
    · obtain ⟨r, _, rfl⟩ := List.mem_map.1 hx
      simp
/-- the texts of the paths of one element -/
def ptx (E : Env) (M : Names) (n : Nat) (nm pre : List UInt8) (x : PMask) : List (List UInt8) := if whole x then [pre ++ M.name nm x.num] else (textN E M n (E.ty nm x.num) x.subs).map fun q => (pre ++ M.name nm x.num ++ [46]) ++ glue 46 q
theorem ptx_all (E : Env) (M : Names) (n : Nat) (nm pre : List UInt8) (l : List PMask) : (textN E M (n + 1) nm l).map (fun q => pre ++ glue 46 q) = l.flatMap (ptx E M n nm pre) := by
  show (l.flatMap _).map _ = _
  rw [List.map_flatMap]
  congr 1
  funext x
  unfold ptx
  split
  · rfl
  · rw [List.map_map]
    refine List.map_congr_left fun q hq => ?_
    show pre ++ glue 46 (M.name nm x.num :: q) = _
    rw [glue_cons 46 _ (textN_ne0 n q hq)]
    simp
theorem flat_at {α β : Type} {f : α → List β} {l : List α} {k : Nat} (h : k < l.length) : (l.drop k).flatMap f = f l[k] ++ (l.drop (k + 1)).flatMap f := by
  rw [List.drop_eq_getElem_cons h, List.flatMap_cons]
def srow (v : Value) (xs : List Str) : Row := ⟨9, 1, v, xs.length, nmC xs⟩
theorem srow_app {w0 w : World} {R : List Row} {X : List Box} {v : Value} {xs ys : List Str} (h : ST w0 (⟨9, 1, v, xs.length + ys.length, nmC xs ++ nmC ys⟩ :: R) X w) : ST w0 (srow v (xs ++ ys) :: R) X w := by
  unfold srow
  rw [List.length_append]
  have : nmC (xs ++ ys) = nmC xs ++ nmC ys := by unfold nmC; simp
  rw [this]
  exact h
theorem nmC_len (xs : List Str) : (nmC xs).length = xs.length := by unfold nmC; simp
theorem nmC_one (xs : List Str) : ∀ u ∈ nmC xs, u.oneCell' = true := by
  intro u hu
  unfold nmC at hu
  obtain ⟨x, _, rfl⟩ := List.mem_map.1 hu
  rfl
theorem str_info2 : (Tryd.prog.info? 9).map (fun i => (i.zero, i.size, i.bytes)) = some (some (.string ByteArray.empty), 1, 16) := by kernel_rfl
def StrOut (w : World) (us : List Str) (e : Ending) (w' : World) : Prop := ∃ v, e = .returned v ∧ w'.ownsRow w.heap.size 9 1 v us.length (nmC us) ∧ Bel w w'
theorem own_strs_at {w : World} {B : Nat} {v : Value} {us : List Str} (h : w.ownsRow B 9 1 v us.length (nmC us)) (hl : 0 < us.length) : ∃ g c, v = .slice (some ⟨g, 0, none⟩) us.length c ∧ ∀ j u, (nmC us)[j]? = some u → w.cell? ((⟨g, 0, none⟩ : Addr).add j) = some u := by
  rcases h.2 with ⟨_, h0⟩ | ⟨g, cap, cur, rfl, _⟩
  · omega
  · exact ⟨g, cap, rfl, fun j u hu => h.cells (g := g) rfl j u hu⟩
def PathsC (n : Nat) : Prop := ∀ (A : Nat → Prop) (mv ev sv : Value) (s : PSchema) (name pre : Str) (v : Value) (l : List PMask) (w : World), VSchema w [mv, ev, sv] s → MaskD A n w v l → Nm (envOf s) n name l → (textN (envOf s) (namesOf s) n name l).length ≤ 1000000 → (∀ m ∈ s.msgs, ∀ f ∈ m.fields, f.name.length ≤ 1000000) → pre.length + n * 2000000 ≤ 1000000000000000 → Calls Tryd.prog 43 #[.agg #[mv, ev, sv], .string (S name), .string (S pre), v] w (StrOut w ((textN (envOf s) (namesOf s) n name l).map fun q => pre ++ glue 46 q))
set_option maxHeartbeats 4000000 in
set_option maxRecDepth 100000 in
theorem mk_paths_step (n : Nat) (IH : n ≠ 0 → PathsC n) : PathsC (n + 1) := by
  intro A mv ev sv s name pre v l w0 hs hl0 hN hcnt hnm hpre
  obtain ⟨i0, hi, hz0, hz1, hz2⟩ := info_parts str_info2
  have HS := Lib.hid (fun (W : World) (k : Bel w0 W) => VSchema.staysB hs k)
  have CM0 := Lib.hid (fun W (k : Bel w0 W) => ds_Message mv ev sv s name w0 W k hs)
  obtain ⟨_, _, _, he, hm, hev, hsv⟩ := hs
  cases he
  obtain ⟨q2, c2, rfl, hl2⟩ := sl_form hev
  obtain ⟨q3, c3, rfl, hl3⟩ := sl_form hsv
  obtain ⟨q1, c1, rfl, hl1⟩ := sl_form hm
  clear hm hev hsv
  obtain ⟨p, c, rfl, hl, hcap, hel⟩ := hl0
  have EL := Lib.hid hel
  clear hel hcap
  have hS0 := Lib.hid ((ST.start w0).addbox #[.slice q1 s.msgs.length c1, .slice q2 s.enums.length c2, .slice q3 s.svcs.length c3] 62)
  obtain ⟨m, hm⟩ : ∃ m, msgOf s name = some m := Option.isSome_iff_exists.1 hN.1
  have hmem : m ∈ s.msgs := List.mem_of_find?_eq_some hm
  have HNX := Lib.hid (show ∀ x ∈ l, ∃ f, fieldNo m x.num = some f ∧ (x.subs = [] ∨ Nm (envOf s) n f.tn x.subs) from fun x hx => by
    obtain ⟨f, hf, hh⟩ := hN.2.2 x hx
    rw [fld_of hm] at hf
    obtain ⟨g, hg, rfl⟩ := Option.map_eq_some_iff.1 hf
    exact ⟨g, hg, hh.imp id (fun h => h.2)⟩)
  have HFN := Lib.hid (show ∀ f ∈ m.fields, f.name.length ≤ 1000000 from hnm m hmem)
  have HNM := Lib.hid hnm
  have V := Lib.hid (show ([] : List Str) ++ (l.drop 0).flatMap (ptx (envOf s) (namesOf s) n name pre) = (textN (envOf s) (namesOf s) (n + 1) name l).map (fun q => pre ++ glue 46 q) by rw [ptx_all]; rfl)
  have htl : ((textN (envOf s) (namesOf s) (n + 1) name l).map (fun q => pre ++ glue 46 q)).length ≤ 1000000 := by rw [List.length_map]; exact hcnt
  generalize (textN (envOf s) (namesOf s) (n + 1) name l).map (fun q => pre ++ glue 46 q) = T at V htl
  rw [hm] at CM0
  have HM := Lib.hid hm
  have zpre : (S pre).size = pre.length := S_size _
  have hpl : pre.length + 2000000 + n * 2000000 ≤ 1000000000000000 := by rw [Nat.add_mul] at hpre; omega
  have HPL := Lib.hid hpl
  have hpl2 : pre.length ≤ 999999998000000 := by omega
  clear hm hN hcnt hnm hpre hmem hpl
  go_enter Tryd.func43, Tryd.ntmps43
  go_upto_region 2 with (first
    | (go_at_call 38; (with_reducible refine (CM0.out _ hS0.out.bel).mono ?_); rintro e w1 ⟨vm, rfl, hvs, k1⟩; have k1 : Bel _ w1 := k1; have HVM := Lib.hid (show VMsg w0 vm m from hvs); obtain ⟨hlen, hone⟩ := found_M hvs; have HVS := Lib.hid hvs; have Z0 : vm.toArray.size = 5 := (by rw [List.size_toArray]; exact hlen); have Z1 := Lib.hid (show (Tryd.prog.info? 57).map (·.size) = some vm.toArray.size by rw [Z0]; exact ar_M); have Z2 := Lib.hid (show (#[.string ⟨#[]⟩, .slice none 0 0, .slice none 0 0, .slice none 0 0, .slice none 0 0] : Array Value).size = vm.toArray.size by rw [Z0]; rfl); have HO := Lib.hid hone; clear hlen hone Z0 hvs; have H1 := Lib.hid ((hS0.out.belw k1).addbox vm.toArray 57); clear k1)
    | (refine wpl_store_new (old := #[.string ⟨#[]⟩, .slice none 0 0, .slice none 0 0, .slice none 0 0, .slice none 0 0]) rfl 57 _ _ rfl w1 rfl w1.heap.size rfl vm.toArray rfl rfl Z1.out Z2.out HO.out ?_))
  generalize hwz : World.alloc w1 _ = wz at H1 ⊢
  clear hwz
  generalize hmb : w1.heap.size = mb at H1 ⊢
  clear hmb HVS HO Z2
  have HZ1 := Z1
  have H2 := Lib.hid (show ST w0 [srow (.slice none 0 0) []] [⟨mb, vm.toArray, 57⟩, ⟨w0.heap.size, #[.slice q1 s.msgs.length c1, .slice q2 s.enums.length c2, .slice q3 s.svcs.length c3], 62⟩] wz from H1.out.nilrow 9 1)
  have CFd := Lib.hid (fun W (kk : Bel w0 W) q => ds_FieldM (m := m) (vs := vm) q w0 W kk HVM.out)
  clear Z1 CM0 hS0 H1
  go_wp2_with (fail)
  go_loopw [11, 24] (fun vo i wr => ∃ (k : Nat) (xs : List Str), k ≤ l.length ∧ i = .int .i64 k ∧ Hid (ST w0 [srow vo xs] [⟨mb, vm.toArray, 57⟩, ⟨w0.heap.size, #[.slice q1 s.msgs.length c1, .slice q2 s.enums.length c2, .slice q3 s.svcs.length c3], 62⟩] wr) ∧ Hid (xs ++ (l.drop k).flatMap (ptx (envOf s) (namesOf s) n name pre) = T)) (fun _ i _ => l.length - (intOf i).toNat)
  case atStart => exact ⟨0, [], by omega, rfl, H2, V⟩
  case round => as_aux_lemma =>
    clear V H2
    obtain ⟨k, xs, hk, rfl, hS, hx⟩ := hrel
    obtain ⟨qo, co, hvo⟩ := own_form (hS.out.row 0 rfl)
    dsimp only [srow] at hvo
    subst hvo
    by_cases hlt : k < l.length
    · obtain ⟨g, off, sv, rfl, hbs, hab, hc0, hc1, hd⟩ := EL.out k _ (List.getElem?_eq_getElem hlt)
      obtain ⟨sp, sc, rfl⟩ := hd.form
      have hki : (k : Int) < (l.length : Int) := by omega
      have e0 := hS.out.bel.some hc0
      have e1 := hS.out.bel.some hc1
      have hst := hx.out
      rw [flat_at hlt] at hst
      obtain ⟨f, hf, hsub⟩ := HNX.out _ (List.getElem_mem hlt)
      have hxl : xs.length + (ptx (envOf s) (namesOf s) n name pre l[k]).length ≤ 1000000 := by
        have := congrArg List.length hst
        simp only [List.length_append] at this
        omega
      clear hx hab EL HNX
      generalize l[k] = x at *
      have hfm : f ∈ m.fields := List.mem_of_find?_eq_some hf
      have hfl := HFN.out f hfm
      have zf : (S f.name).size = f.name.length := S_size _
      have hty : (envOf s).ty name x.num = f.tn := by unfold Env.ty; rw [fld_of HM.out, hf]; rfl
      have hna : (namesOf s).name name x.num = f.name := by show (((msgOf s name).bind fun m => fieldNo m x.num).map (·.name)).getD [] = _; rw [HM.out]; show ((fieldNo m x.num).map (·.name)).getD [] = _; rw [hf]; rfl
      have DX := Lib.hid (show MaskD A n w0 (.slice sp x.subs.length sc) x.subs from hd)
      have HX := Lib.hid (hS.out.addbox #[.int .i64 x.num, .slice sp x.subs.length sc] 42)
      have HBm := Lib.hid (HX.out.box 1 rfl)
      have CF1 := CFd.out (wr.alloc (.cells #[.int .i64 x.num, .slice sp x.subs.length sc] 42)) HX.out.bel x.num
      rw [hf] at CF1
      have CF := Lib.hid CF1
      clear hc0 hc1 hd hf hfm CF1
      go_upto_region 7 with (first
        | (refine wpl_load_box rfl 57 _ rfl mb vm.toArray 57 rfl HBm.out _ Tryd.underlying57 rfl HZ1.out ?_)
        | (go_at_call 56; (with_reducible refine CF.out.mono ?_); rintro e w1 ⟨vs, rfl, hvs, k1⟩; have k1 : Bel _ w1 := k1; have HVF := Lib.hid (show VField w0 vs f from hvs); obtain ⟨hlen, hone⟩ := found_F hvs; have HVS := Lib.hid hvs; have Z0 : vs.toArray.size = 16 := (by rw [List.size_toArray]; exact hlen); have Z1 := Lib.hid (show (Tryd.prog.info? 52).map (·.size) = some vs.toArray.size by rw [Z0]; exact ar_F); have Z2 := Lib.hid (show (#[.int .i64 0, .string ⟨#[]⟩, .int .i64 0, .int .i64 0, .int .i64 0, .string ⟨#[]⟩, .string ⟨#[]⟩, .bool false, .int .i64 0, .int .u64 0, .string ⟨#[]⟩, .slice none 0 0, .slice none 0 0, .slice none 0 0, .slice none 0 0, .slice none 0 0] : Array Value).size = vs.toArray.size by rw [Z0]; rfl); have HO := Lib.hid hone; clear hlen hone Z0 hvs; have H1 := Lib.hid ((HX.out.belw k1).addbox vs.toArray 52); clear k1)
        | (refine wpl_store_new (old := #[.int .i64 0, .string ⟨#[]⟩, .int .i64 0, .int .i64 0, .int .i64 0, .string ⟨#[]⟩, .string ⟨#[]⟩, .bool false, .int .i64 0, .int .u64 0, .string ⟨#[]⟩, .slice none 0 0, .slice none 0 0, .slice none 0 0, .slice none 0 0, .slice none 0 0]) rfl 52 _ _ rfl w1 rfl w1.heap.size rfl vs.toArray rfl rfl Z1.out Z2.out HO.out ?_))
      generalize hwz2 : World.alloc w1 _ = wy at H1 ⊢
      clear hwz2
      generalize hfb : w1.heap.size = fb at H1 ⊢
      clear hfb HX HBm CF HVS Z2
      have F1 := Lib.hid (VField.at HVF.out).2.1
      have F5 := Lib.hid (VField.at HVF.out).2.2.2.2
      have x0 := H1.out.cell 1 rfl 0
      have x1 := H1.out.cell 1 rfl 1
      dsimp only at x0 x1
      cases hwx : whole x with
      | true =>
        have CX := Lib.hid (fun p c W => mk_whole_of hwx p c W)
        have hpt : ptx (envOf s) (namesOf s) n name pre x = [pre ++ f.name] := by unfold ptx; rw [if_pos hwx, hna]
        rw [hpt] at hst hxl
        have HST := Lib.hid hst
        have hxl2 : xs.length + 1 ≤ 1000000 := hxl
        have hsum : (S pre).size + (S f.name).size ≤ 9223372036854775807 := by omega
        have hcat : S pre ++ S f.name = S (pre ++ f.name) := S_of (cat_list _ _)
        clear hwx hpt hst hty hna hsub hxl
        go_upto_region 8 with (go_at_call 24; (with_reducible refine (CX.out _ _ _).mono ?_); rintro e w2 ⟨rfl, k2⟩; have k2 : Bel _ w2 := k2; have H2 := Lib.hid (H1.out.belw k2); have t1 := (H2.out.cell 0 rfl 1).trans F1.out; dsimp only at t1; clear x0 x1; clear k2)
        have HB := Lib.hid (H2.out.belw ((Bel.refl _).alloc (.cells #[.string (S (pre ++ f.name))] 9)))
        go_wp2_with (at_builtin; refine wpList_append_lies _ rfl _ _ 55 rfl w0.heap.size 9 i0 (.string ByteArray.empty) 1 16 Tryd.underlying55 hi hz0 hz1 hz2 rfl (by decide) _ xs.length _ rfl (HB.out.row 0 rfl) ⟨w2.heap.size, 0, none⟩ 1 1 [.string (S (pre ++ f.name))] rfl rfl (one_new _ _ _) (by simp [Value.oneCell']) (by decide) (by unfold maxLen; omega) (by omega) HB.out.bel.size (w2.heap.size + 1) (by simp) ?_)
        intro g9 cap9 w9 hown hgrow hfr hlt9
        have HH := Lib.hid (srow_app (ys := [pre ++ f.name]) (HB.out.grow 0 rfl hgrow hown (fr_own hfr (by simp))))
        clear hown hgrow hfr hcat hsum
        go_wp2
        go_roundw
        case rel => exact ⟨k + 1, xs ++ [pre ++ f.name], by omega, by go_num, Lib.hid HH.out.dropbox0.dropbox0, by simpa using HST⟩
        case measure => simp [intOf]; omega
      | false =>
        have CX := Lib.hid (fun p c W => mk_whole_of hwx p c W)
        have hsn := whole_no hwx
        have hpt : ptx (envOf s) (namesOf s) n name pre x = (textN (envOf s) (namesOf s) n f.tn x.subs).map fun q => (pre ++ f.name ++ [46]) ++ glue 46 q := by unfold ptx; rw [hwx, if_neg Bool.false_ne_true, hna, hty]
        rw [hpt] at hst hxl
        have hdp : Dp n x.subs := DX.out.dp
        have hne := textN_pos (E := envOf s) (M := namesOf s) n (nm := f.tn) hdp hsn
        have hcn : (textN (envOf s) (namesOf s) n f.tn x.subs).length ≤ 1000000 := by rw [List.length_map] at hxl; omega
        have hpr2 : (pre ++ f.name ++ [46]).length + n * 2000000 ≤ 1000000000000000 := by
          simp only [List.length_append, List.length_singleton]
          have := HPL.out
          omega
        have CI := Lib.hid (fun W (k : Bel w0 W) (h : MaskD A n W (.slice sp x.subs.length sc) x.subs) => IH (DX.out.ne hsn) A (.slice q1 s.msgs.length c1) (.slice q2 s.enums.length c2) (.slice q3 s.svcs.length c3) s f.tn (pre ++ f.name ++ [46]) _ x.subs W (HS.out W k) h (hsub.resolve_left hsn) hcn HNM.out hpr2)
        have hul : 0 < ((textN (envOf s) (namesOf s) n f.tn x.subs).map fun q => (pre ++ f.name ++ [46]) ++ glue 46 q).length := by rw [List.length_map]; exact List.length_pos_iff.2 hne
        generalize ((textN (envOf s) (namesOf s) n f.tn x.subs).map fun q => (pre ++ f.name ++ [46]) ++ glue 46 q) = us at hst hxl CI hul
        have HST := Lib.hid hst
        have hsum : (S pre).size + (S f.name).size ≤ 9223372036854775807 := by omega
        have hcat : S pre ++ S f.name = S (pre ++ f.name) := S_of (cat_list _ _)
        have zs : (S (pre ++ f.name)).size = pre.length + f.name.length := by rw [S_size, List.length_append]
        have hsum2 : (S (pre ++ f.name)).size + (S [46]).size ≤ 9223372036854775807 := by rw [zs]; show _ + 1 ≤ _; omega
        have hcat2 : S (pre ++ f.name) ++ ⟨#[46]⟩ = S (pre ++ f.name ++ [46]) := S_of (cat_list _ (S [46]))
        generalize pre ++ f.name ++ [46] = PP at CI hcat2
        clear hwx hpt hst hty hna hsub hsn hdp hne hcn hpr2
        go_wp2_with (first
          | (go_at_call 24; (with_reducible refine (CX.out _ _ _).mono ?_); rintro e w2 ⟨rfl, k2⟩; have k2 : Bel _ w2 := k2; have H2 := Lib.hid (H1.out.belw k2); have t1 := (H2.out.cell 0 rfl 1).trans F1.out; have t5 := (H2.out.cell 0 rfl 5).trans F5.out; have a0 := H2.out.cell 3 rfl 0; have a1 := H2.out.cell 3 rfl 1; have a2 := H2.out.cell 3 rfl 2; have u1 := H2.out.cell 1 rfl 1; dsimp only at t1 t5 a0 a1 a2 u1; clear x0 x1; clear k2)
          | (go_at_call 43; (with_reducible refine (CI.out _ H2.out.bel (DX.out.bel H2.out.bel)).mono ?_); rintro e w4 ⟨v4, rfl, hown4, k4⟩; have k4 : Bel _ w4 := k4; have H4 := Lib.hid (H2.out.belw k4); obtain ⟨g4, cap4, hv4, hcl4⟩ := own_strs_at hown4 hul; subst hv4; have HC4 := Lib.hid hcl4; clear k4 hown4 hcl4)
          | (at_builtin; refine wpList_append_lies _ rfl _ _ 55 rfl w0.heap.size 9 i0 (.string ByteArray.empty) 1 16 Tryd.underlying55 hi hz0 hz1 hz2 rfl (by decide) _ xs.length _ rfl (H4.out.row 0 rfl) ⟨g4, 0, none⟩ us.length cap4 (nmC us) rfl (by rw [nmC_len, Nat.mul_one]) HC4.out (nmC_one us) hul (by unfold maxLen; omega) (by omega) H4.out.bel.size w4.heap.size rfl ?_))
        intro g9 cap9 w9 hown hgrow hfr hlt9
        have HH := Lib.hid (srow_app (ys := us) (H4.out.grow 0 rfl hgrow hown (fr_own hfr (by simp))))
        clear hown hgrow hfr hcat hsum hcat2 hsum2
        go_wp2
        go_roundw
        case rel => exact ⟨k + 1, xs ++ us, by omega, by go_num, Lib.hid HH.out.dropbox0.dropbox0, by simpa using HST⟩
        case measure => simp [intOf]; omega
    · have hkl : k = l.length := by omega
      have hz : xs = T := by have := hx.out; rw [hkl, List.drop_length] at this; simpa using this
      subst hz
      clear hx EL HNX
      go_wp2
      go_ret
      exact ⟨_, rfl, hS.out.row 0 rfl, hS.out.bel⟩
theorem mk_paths : ∀ n : Nat, PathsC (n + 1)
  | 0 => mk_paths_step 0 (fun h => absurd rfl h)
  | n + 1 => mk_paths_step (n + 1) (fun _ => mk_paths n)
end Go.Proofs.YtaaneecceiefoaaDoor
