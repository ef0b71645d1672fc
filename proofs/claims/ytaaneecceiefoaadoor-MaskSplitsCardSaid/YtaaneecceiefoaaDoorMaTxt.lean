/- Layer 19 walked: Text. Printed by gtext.py. -/
import Derived.Test.YtaaneecceiefoaaDoorMaPaths
namespace Go.Proofs.YtaaneecceiefoaaDoor
open Go.RowKit Ck Ma
set_option linter.unusedVariables false
set_option linter.unusedSimpArgs false
theorem join_glue : ∀ l : List (List UInt8), Lib.join l [44] = glue 44 l
  | [] => rfl
  | [x] => Lib.join_one x [44]
  | x :: y :: r => by
    have ih := join_glue (y :: r)
    show _ = x ++ 44 :: glue 44 (y :: r)
    rw [← ih]
    simp [Lib.join, List.intercalate, List.intersperse]
theorem own_texts {w : World} {B : Nat} {v : Value} {us : List Str} (h : w.ownsRow B 9 1 v us.length (nmC us)) : (us = [] ∧ v = .slice none 0 0) ∨ ∃ g c, v = .slice (some ⟨g, 0, none⟩) us.length c ∧ us.length ≤ c ∧ g < w.heap.size ∧ ∀ j x, us[j]? = some x → w.cell? ⟨g, 0 + j, none⟩ = some (.string (S x)) := by
  rcases h.2 with ⟨rfl, h0⟩ | ⟨g, cap, cur, rfl, h1, h2, h3, _⟩
  · exact .inl ⟨List.length_eq_zero_iff.1 h0, rfl⟩
  · refine .inr ⟨g, cap, rfl, h3, (Array.getElem?_eq_some_iff.1 h2).1, fun j x hx => ?_⟩
    have := h.cells (g := g) rfl j (.string (S x)) (by unfold nmC; rw [List.getElem?_map, hx]; rfl)
    rw [Addr.add_lit] at this
    exact this
theorem sl_join {w : World} {B : Nat} {v : Value} {us : List Str} (h : w.ownsRow B 9 1 v us.length (nmC us)) (hl : us.length ≤ 1000000) (hg : (glue 44 us).length ≤ 140737488355328) : Calls Tryd.prog 42 #[v, .string ⟨#[44]⟩] w fun e w' => e = .returned (.string (S (glue 44 us))) ∧ Bel w w' := by
  rcases own_texts h with ⟨rfl, rfl⟩ | ⟨g, c, rfl, hc, hgl, hce⟩
  · refine (Tryd.strings_Join_none none 0 ⟨#[44]⟩ w).mono fun e w' ⟨he, hw⟩ => ?_
    subst hw
    exact ⟨he, Bel.refl _⟩
  · have hmm : (us.map S).map (fun x => x.data.toList) = us := by
      rw [List.map_map]
      exact List.map_id us
    have hj : Lib.join ((us.map S).map (fun x => x.data.toList)) (⟨#[44]⟩ : ByteArray).data.toList = glue 44 us := by rw [hmm]; exact join_glue us
    have hlen : us.length = (us.map S).length := by simp
    have hcon := Tryd.strings_Join g 0 c (us.map S) ⟨#[44]⟩ w (fun j x hx => by
      rw [List.getElem?_map] at hx
      cases hu : us[j]? with
      | none => rw [hu] at hx; cases hx
      | some u =>
        rw [hu] at hx
        cases hx
        exact hce j u hu) hgl (by rw [← hlen]; omega) (by rw [← hlen]; exact hc) (by rw [hj]; exact hg)
    rw [← hlen] at hcon
    refine hcon.mono fun e w' ⟨he, hw⟩ => ⟨?_, hw⟩
    rw [he, hj]
    rfl
set_option maxHeartbeats 4000000 in
set_option maxRecDepth 100000 in
theorem mk_Text (n : Nat) (A : Nat → Prop) (mv ev sv : Value) (s : PSchema) (name : Str) (v : Value) (l : List PMask) (w0 : World) (hs : VSchema w0 [mv, ev, sv] s) (hl : MaskD A (n + 1) w0 v l) (hcnt : (textN (envOf s) (namesOf s) (n + 1) name l).length ≤ 1000000) (hnm : ∀ m ∈ s.msgs, ∀ f ∈ m.fields, f.name.length ≤ 1000000) (hn : (n + 1) * 2000000 ≤ 1000000000000000) (hg : (glue 44 ((textN (envOf s) (namesOf s) (n + 1) name l).map (glue 46))).length ≤ 140737488355328) :
    Calls Tryd.prog 27 #[.agg #[mv, ev, sv], .string (S name), v] w0 fun e w' => e = .returned (.string (S (text (envOf s) (namesOf s) (n + 1) name l))) ∧ Bel w0 w' := by
  have hck := chk_iff (E := envOf s) (n + 1) name l hl.dp
  have CC := Lib.hid (fun W (k : Bel w0 W) => mk_Check n A mv ev sv s name v l W (VSchema.staysB hs k) (hl.bel k))
  have CPt := Lib.hid (fun W (k : Bel w0 W) hN => mk_paths n A mv ev sv s name [] v l W (VSchema.staysB hs k) (hl.bel k) hN hcnt hnm (by simpa using hn))
  have htx : text (envOf s) (namesOf s) (n + 1) name l = if chk (envOf s) (n + 1) name l ≠ 0 then [] else glue 44 ((textN (envOf s) (namesOf s) (n + 1) name l).map (glue 46)) := rfl
  have hme : ((textN (envOf s) (namesOf s) (n + 1) name l).map fun q => ([] : Str) ++ glue 46 q) = (textN (envOf s) (namesOf s) (n + 1) name l).map (glue 46) := rfl
  have hml : ((textN (envOf s) (namesOf s) (n + 1) name l).map (glue 46)).length ≤ 1000000 := by rw [List.length_map]; exact hcnt
  rw [hme] at CPt
  generalize text (envOf s) (namesOf s) (n + 1) name l = R at htx
  generalize (textN (envOf s) (namesOf s) (n + 1) name l).map (glue 46) = us at htx CPt hg hml
  generalize chk (envOf s) (n + 1) name l = RC at htx CC hck
  obtain ⟨mp, mc, rfl⟩ := hl.form
  obtain ⟨_, _, _, he, hm, hev, hsv⟩ := hs
  cases he
  obtain ⟨q2, c2, rfl, hl2⟩ := sl_form hev
  obtain ⟨q3, c3, rfl, hl3⟩ := sl_form hsv
  obtain ⟨q1, c1, rfl, hl1⟩ := sl_form hm
  clear hm hev hsv
  have hS0 := Lib.hid ((ST.start w0).addbox #[.slice q1 s.msgs.length c1, .slice q2 s.enums.length c2, .slice q3 s.svcs.length c3] 62)
  clear hl hcnt hnm hn hme
  by_cases h0 : RC = 0
  · subst h0
    rw [if_neg (by simp)] at htx
    subst htx
    have CP2 := Lib.hid (fun W k => CPt.out W k (hck.1 rfl))
    have hg2 := Lib.hid hg
    clear hck CPt hg
    go_enter Tryd.func27, Tryd.ntmps27
    go_wp2_with (first
      | (go_at_call 41; (with_reducible refine (CC.out _ hS0.out.bel).mono ?_); rintro e w1 ⟨rfl, k1⟩; have k1 : Bel _ w1 := k1; have H1 := Lib.hid (hS0.out.belw k1); have t0 := H1.out.cell 0 rfl 0; have t1 := H1.out.cell 0 rfl 1; have t2 := H1.out.cell 0 rfl 2; dsimp only at t0 t1 t2; clear k1)
      | (go_at_call 43; (refine (CP2.out _ H1.out.bel).mono ?_); rintro e w2 ⟨v2, rfl, hown, k2⟩; have k2 : Bel _ w2 := k2; have K2 := Lib.hid (Bel.of H1.out.bel k2); have CJ := Lib.hid (sl_join hown hml hg2.out); obtain ⟨p2, c2, hv2⟩ := own_form hown; subst hv2; clear k2 hown)
      | (go_at_call 42; (with_reducible refine CJ.out.mono ?_); rintro e w3 ⟨rfl, k3⟩; have K3 := Lib.hid (Bel.of K2.out k3); clear k3))
    go_ret
    exact ⟨rfl, K3.out⟩
  · rw [if_pos h0] at htx
    subst htx
    have hb : (RC != 0) = true := bne_t h0
    clear h0 hck CPt
    go_enter Tryd.func27, Tryd.ntmps27
    go_wp2_with (go_at_call 41; (with_reducible refine (CC.out _ hS0.out.bel).mono ?_); rintro e w1 ⟨rfl, k1⟩; have k1 : Bel _ w1 := k1; have H1 := Lib.hid (hS0.out.belw k1); clear k1)
    go_ret
    exact ⟨rfl, H1.out.bel⟩
end Go.Proofs.YtaaneecceiefoaaDoor
