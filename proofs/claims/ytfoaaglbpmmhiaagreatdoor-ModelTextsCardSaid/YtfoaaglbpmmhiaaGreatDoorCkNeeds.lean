/- Layer 12 walked: needs. Printed by genneeds.py. -/
import Derived.Test.YtfoaaglbpmmhiaaGreatDoorCkSeen
import Derived.Test.YtfoaaglbpmmhiaaGreatDoorKitB
import Derived.Deep.DeepCutAuto
namespace Go.Proofs.YtfoaaglbpmmhiaaGreatDoor
open Go.RowKit Ck
set_option linter.unusedVariables false
set_option linter.unusedSimpArgs false

theorem texts_of_own {w : World} {B : Nat} {v : Value} {ks : List Str} (h : w.ownsRow B 9 1 v ks.length (ks.map strV)) (hl : ks.length ≤ 1000000000) : Texts w v ks := by
  have h0 := h
  rcases h.2 with ⟨rfl, hx⟩ | ⟨g, cap, cur, rfl, hBg, hg, hc, _⟩
  · have hk := List.eq_nil_of_length_eq_zero hx
    subst hk
    exact Sl.nil _ _ _ _ _
  · refine ⟨some ⟨g, 0, none⟩, cap, rfl, by omega, hc, fun j k hk => ⟨g, 0, rfl, (h0.lt g rfl).2, [.string (S k)], ?_, rfl⟩⟩
    intro i u hu
    have hi0 : i = 0 := by
      cases i with
      | zero => rfl
      | succ i => simp at hu
    subst hi0
    simp at hu
    subst hu
    have := h0.cells (g := g) rfl j (.string (S k)) (by rw [List.getElem?_map, hk]; rfl)
    rw [Addr.add_lit] at this
    rw [Nat.zero_add, Nat.mul_one, Nat.add_zero]
    simpa using this
def needL (l : List PField) : List Str := (l.filter fun f => decide (f.card = 1 ∧ f.tk = 10)).map (·.tn)
theorem needL_cons (f : PField) (l : List PField) : needL (f :: l) = if f.card = 1 ∧ f.tk = 10 then f.tn :: needL l else needL l := by
  unfold needL
  by_cases h : f.card = 1 ∧ f.tk = 10
  · rw [if_pos h, List.filter_cons_of_pos (by simpa using h)]; rfl
  · rw [if_neg h, List.filter_cons_of_neg (by simpa using h)]
theorem new_one2 (w : World) (o : Obj) (v : Value) (t : TypeId) : ∀ (j : Nat) (u : Value), [v][j]? = some u → ((w.alloc o).alloc (.cells #[v] t)).cell? ((⟨w.heap.size + 1, 0, none⟩ : Addr).add j) = some u := by
  intro j u h
  cases j with
  | zero =>
    simp at h
    subst h
    rw [Addr.add_lit, World.cell?_alloc_at _ _ _ _ (by simp)]
    rfl
  | succ j => simp at h
set_option maxHeartbeats 4000000 in
set_option maxRecDepth 100000 in
theorem ck_needs (mn : Str) (mq1 mq2 mq3 mq4 : Option Addr) (mm1 mm2 mm3 mm4 mc1 mc2 mc3 mc4 : Nat) (m : PMsg) (w : World) (hv : VMsg w [.string (S mn), .slice mq1 mm1 mc1, .slice mq2 mm2 mc2, .slice mq3 mm3 mc3, .slice mq4 mm4 mc4] m) (hfn : m.fields.length ≤ 2000000) :
    Calls Tryz.prog 116 #[.agg #[.string (S mn), .slice mq1 mm1 mc1, .slice mq2 mm2 mc2, .slice mq3 mm3 mc3, .slice mq4 mm4 mc4]] w fun e w' => ∃ v, e = .returned v ∧ Texts w' v (needs m) ∧ Below w.heap.size w w' := by
  obtain ⟨_, _, _, _, hcm, hm1, _, _, _⟩ := hv
  cases hcm
  obtain ⟨q, c, hq, hl, hcap, hel⟩ := hm1
  cases hq
  have VT : needL (m.fields.drop 0) = needs m := rfl
  have hTl : (needs m).length ≤ m.fields.length := by unfold needs; rw [List.length_map]; exact List.length_filter_le _ _
  generalize needs m = T at VT hTl
  have V := Lib.hid VT
  have EL := Lib.hid hel
  clear hel VT
  obtain ⟨i0, hi, hz0, hz1, hz2⟩ := info_parts str_info
  go_enter Tryz.func116, Tryz.ntmps116
  go_wp2
  go_loopw [3, 9] (fun v i wr => ∃ (k : Nat) (xs : List Str), k ≤ m.fields.length ∧ i = .int .i64 k ∧ wr.ownsRow w.heap.size 9 1 v xs.length (xs.map strV) ∧ Below w.heap.size w wr ∧ w.heap.size < wr.heap.size ∧ xs.length ≤ k ∧ Hid (xs ++ needL (m.fields.drop k) = T)) (fun _ i _ => m.fields.length - (intOf i).toNat)
  case atStart => exact ⟨0, [], by omega, rfl, ⟨rfl, .inl ⟨rfl, rfl⟩⟩, by simpa using (Below.refl _ _).alloc (Nat.le_refl _) _, by simp, by simp, by simpa using V⟩
  case round =>
    obtain ⟨k, xs, hk, rfl, hown, hb, hbz, hxl, hx⟩ := hrel
    by_cases hlt : k < m.fields.length
    · have hg := List.getElem?_eq_getElem hlt
      obtain ⟨b, off, rfl, hbs, vs, hce, hvs⟩ := EL.out k _ hg
      have hdr : m.fields.drop k = m.fields[k] :: m.fields.drop (k + 1) := List.drop_eq_getElem_cons hlt
      obtain ⟨_, _, hvs1, ⟨r1, r2, r3, r4, d1, d2, d3, d4, hvv, _⟩, hnt⟩ := hvs
      obtain ⟨r5, d5, hnv, hnl⟩ := sl_form hnt
      subst hvs1 hvv hnv
      generalize m.fields[k] = f at *
      have hki : (k : Int) < (m.fields.length : Int) := by omega
      have aE := agg_Field
      obtain ⟨K, hK⟩ : ∃ K, K = 16 := ⟨_, rfl⟩
      have zE : ∀ w, (Go.sizeOf 63).run Tryz.prog w = .ok K w := hK ▸ size_Field
      have l2 : Sem.run Tryz.prog (loadCellsFrom ⟨b, off + k * K, none⟩ 0 K #[]) wr = .ok #[.int .i64 f.num, .string (S f.name), .int .i64 f.card, .int .i64 f.key, .int .i64 f.tk, .string (S f.tn), .string (S f.un), .bool f.hd, .int .i64 f.df.k, .int .u64 f.df.x, .string (S f.df.t), .slice r1 f.df.n1 d1, .slice r2 f.df.n2 d2, .slice r3 f.df.n3 d3, .slice r4 f.df.n4 d4, .slice r5 f.notes.length d5] wr := run_loadCellsFrom_list Tryz.prog _ _ _ K hK.symm (fun j v hj => by
        rw [hK, Addr.add_lit]
        exact Bel.some hb (hce j v hj))
      have HK := Lib.hid hK
      clear hK hce hg hnt
      have hxl3 : (xs ++ needL (m.fields.drop k)).length = T.length := by rw [hx.out]
      by_cases hyes : f.card = 1 ∧ f.tk = 10
      · obtain ⟨h1, h10⟩ := hyes
        have hx2 := Lib.hid (show xs ++ [f.tn] ++ needL (m.fields.drop (k + 1)) = T by rw [← hx.out, hdr, needL_cons, if_pos ⟨h1, h10⟩]; simp)
        have t1 := ieq h1
        have t10 := ieq h10
        clear hx hdr h1 h10 hxl3
        go_upto_region 5 with (fail)
        all_goals (first | (exfalso; exact absurd HK.out.symm (by assumption)) | (have h16 : 16 = K := (by assumption); subst h16))
        clear l2 aE zE HK
        go_wp2_with (at_builtin; refine wpList_append_own _ rfl _ _ 37 rfl w.heap.size 9 i0 (.string ByteArray.empty) 1 16 Tryz.underlying37 hi hz0 hz1 hz2 rfl (by decide) _ _ _ rfl ((hown.alloc _).alloc _) ⟨wr.heap.size + 1, 0, none⟩ 1 1 [.string (S f.tn)] rfl rfl ?c1 ?c2 ?c3 ?c4 ?c5 ?_)
        case c2 => rfl
        case c3 => unfold maxLen; omega
        case c4 => omega
        case c5 => first | omega | (simp; omega)
        intro v' w1 hown1 hgrow _
        have hb1 := (((hb.alloc (by omega) (.cells #[.int .i64 f.num, .string (S f.name), .int .i64 f.card, .int .i64 f.key, .int .i64 f.tk, .string (S f.tn), .string (S f.un), .bool f.hd, .int .i64 f.df.k, .int .u64 f.df.x, .string (S f.df.t), .slice r1 f.df.n1 d1, .slice r2 f.df.n2 d2, .slice r3 f.df.n3 d3, .slice r4 f.df.n4 d4, .slice r5 f.notes.length d5] 63)).alloc (by simp; omega) (.cells #[.string (S f.tn)] 9))).grown hgrow (by simp; omega) (fun g hg => (hown.lt g hg).1)
        have hown2 : w1.ownsRow w.heap.size 9 1 v' (xs ++ [f.tn]).length ((xs ++ [f.tn]).map strV) := by
          rw [List.map_append, List.length_append]
          exact hown1
        have hz := hgrow.size
        clear hgrow hown1
        go_wp2
        refine ⟨⟨k + 1, xs ++ [f.tn], by omega, rfl, hown2, hb1, by simp at hz; omega, by simp; omega, hx2⟩, by simp [intOf]; omega⟩
      · have hx2 := Lib.hid (show xs ++ needL (m.fields.drop (k + 1)) = T by rw [← hx.out, hdr, needL_cons, if_neg hyes])
        clear hx hdr hxl3
        by_cases h1 : f.card = 1
        · have t1 := ieq h1
          have t10 := ine (show f.tk ≠ 10 from fun h => hyes ⟨h1, h⟩)
          clear hyes h1
          go_upto_region 5 with (fail)
          all_goals (first | (exfalso; exact absurd HK.out.symm (by assumption)) | (have h16 : 16 = K := (by assumption); subst h16))
          clear l2 aE zE HK
          go_wp2
          refine ⟨⟨k + 1, xs, by omega, rfl, hown.alloc _, hb.alloc (by omega) _, by simp; omega, by omega, hx2⟩, by simp [intOf]; omega⟩
        · have t1 := ine h1
          clear hyes h1
          go_upto_region 5 with (fail)
          all_goals (first | (exfalso; exact absurd HK.out.symm (by assumption)) | (have h16 : 16 = K := (by assumption); subst h16))
          clear l2 aE zE HK
          go_wp2
          refine ⟨⟨k + 1, xs, by omega, rfl, hown.alloc _, hb.alloc (by omega) _, by simp; omega, by omega, hx2⟩, by simp [intOf]; omega⟩
    · have hkl : k = m.fields.length := by omega
      have hxe : xs = T := by have := hx.out; rw [hkl, List.drop_length] at this; simpa [needL] using this
      subst hxe
      subst hkl
      clear hx V EL
      go_wp2
      go_ret
      exact ⟨_, rfl, texts_of_own hown (by omega), hb⟩
end Go.Proofs.YtfoaaglbpmmhiaaGreatDoor
