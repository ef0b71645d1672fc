/- The reference of layer 19 walked: Find, Same, Sorted. -/
import Derived.Test.YtaaneecceiefoaaDoorMaFind
namespace Go.Proofs.YtaaneecceiefoaaDoor
open Go.RowKit Ma
set_option linter.unusedVariables false
set_option linter.unusedSimpArgs false
set_option maxHeartbeats 4000000 in
set_option maxRecDepth 100000 in
theorem rm_Find (A : Nat → Prop) (n : Nat) (v : Value) (l : List PMask) (q : Int) (w0 : World) (h : MaskD A (n + 1) w0 v l) : Calls Tryd.prog 25 #[v, .int .i64 q] w0 (FoundM A n w0 (find l q)) := by
  obtain ⟨p, c, rfl, hl, hcap, hel⟩ := h
  have EL := Lib.hid hel
  have V := Lib.hid (show find (l.drop 0) q = find l q from rfl)
  generalize find l q = Z at V
  have hS0 := Lib.hid ((ST.start w0).addbox #[.int .i64 0, .slice none 0 0] 42)
  clear hel hcap
  go_enter Tryd.func25, Tryd.ntmps25
  go_wp2
  go_loopw [6] (fun i wr => ∃ k : Nat, k ≤ l.length ∧ i = .int .i64 k ∧ Hid (ST w0 [] [⟨w0.heap.size, #[.int .i64 0, .slice none 0 0], 42⟩] wr) ∧ Hid (find (l.drop k) q = Z)) (fun i _ => l.length - (intOf i).toNat)
  case atStart => exact ⟨0, by omega, rfl, hS0, V⟩
  case round => as_aux_lemma =>
    clear hS0 V
    obtain ⟨k, hk, rfl, hS, hx⟩ := hrel
    have f0 := hS.out.cell 0 rfl 0
    have f1 := hS.out.cell 0 rfl 1
    have z0 := hS.out.frz 0 rfl 0
    have z1 := hS.out.frz 0 rfl 1
    have zl := (hS.out.boxlt 0 rfl).2
    dsimp only at f0 f1 z0 z1 zl
    by_cases hlt : k < l.length
    · obtain ⟨b, off, sv, rfl, hbs, hab, hc0, hc1, hd⟩ := EL.out k _ (List.getElem?_eq_getElem hlt)
      obtain ⟨sp, sc, rfl⟩ := hd.form
      have hki : (k : Int) < (l.length : Int) := by omega
      have e0 := hS.out.bel.some hc0
      have e1 := hS.out.bel.some hc1
      clear hc0 hc1 hab
      have hst := hx.out
      rw [find_at hlt] at hst
      clear hx
      generalize l[k] = x at *
      by_cases he : x.num = q
      · have hb : (x.num == q) = true := ieq he
        rw [if_pos he] at hst
        have HST := Lib.hid hst
        clear hst he
        go_wp2
        have HB := Lib.hid (show ST w0 [] [⟨w0.heap.size, #[.int .i64 x.num, .slice sp x.subs.length sc], 42⟩] _ from (hS.out.setbox 0 rfl 0 (.int .i64 x.num)).setbox 0 rfl 1 (.slice sp x.subs.length sc))
        refine bodyPost_ret (v := .tuple #[.agg #[.int .i64 x.num, .slice sp x.subs.length sc], .bool true]) ?hres1 rfl ?hpost1
        case hres1 => exact res_row rfl rfl rfl (HB.out.box 0 rfl) Tryd.underlying42 rfl (by kernel_rfl)
        case hpost1 => exact ⟨x, sp, sc, .inl HST.out.symm, by rw [← HST.out]; rfl, hd.bel HB.out.bel, HB.out.bel⟩
      · have hb : (x.num == q) = false := ine he
        rw [if_neg he] at hst
        have HST := Lib.hid hst
        clear hst he
        go_wp2
        go_roundw
        case rel => exact ⟨k + 1, by omega, by go_num, hS, HST⟩
        case measure => simp [intOf]; omega
    · have hkl : k = l.length := by omega
      have hz : none = Z := by have := hx.out; rw [hkl, List.drop_length] at this; exact this
      subst hz
      clear hx
      go_wp2
      have HB := Lib.hid (show ST w0 [] [⟨w0.heap.size, #[.int .i64 0, .slice none 0 0], 42⟩] _ from (hS.out.setbox 0 rfl 0 (.int .i64 0)).setbox 0 rfl 1 (.slice none 0 0))
      refine bodyPost_ret (v := .tuple #[.agg #[.int .i64 0, .slice none 0 0], .bool false]) ?hres2 rfl ?hpost2
      case hres2 => exact res_row rfl rfl rfl (HB.out.box 0 rfl) Tryd.underlying42 rfl (by kernel_rfl)
      case hpost2 => exact ⟨.mk 0 [], none, 0, .inr ⟨rfl, rfl⟩, rfl, MaskD.nil _ _, HB.out.bel⟩
theorem rm_Find_some {A : Nat → Prop} {n : Nat} {v : Value} {l : List PMask} {q : Int} {x : PMask} (hz : find l q = some x) (w0 : World) (h : MaskD A (n + 1) w0 v l) : Calls Tryd.prog 25 #[v, .int .i64 q] w0 fun e w' => ∃ p c, e = .returned (.tuple #[.agg #[.int .i64 x.num, .slice p x.subs.length c], .bool true]) ∧ MaskD A n w' (.slice p x.subs.length c) x.subs ∧ Bel w0 w' := by
  have := rm_Find A n v l q w0 h
  rw [hz] at this
  refine this.mono fun e w' ⟨y, p, c, hy, he, hd, k⟩ => ?_
  rcases hy with hy | ⟨hy, _⟩
  · cases hy
    exact ⟨p, c, he, hd, k⟩
  · cases hy
theorem rm_Find_none {A : Nat → Prop} {n : Nat} {v : Value} {l : List PMask} {q : Int} (hz : find l q = none) (w0 : World) (h : MaskD A (n + 1) w0 v l) : Calls Tryd.prog 25 #[v, .int .i64 q] w0 fun e w' => ∃ p c, e = .returned (.tuple #[.agg #[.int .i64 0, .slice p 0 c], .bool false]) ∧ Bel w0 w' := by
  have := rm_Find A n v l q w0 h
  rw [hz] at this
  refine this.mono fun e w' ⟨y, p, c, hy, he, hd, k⟩ => ?_
  rcases hy with hy | ⟨_, rfl⟩
  · cases hy
  · exact ⟨p, c, he, k⟩
def SameC (n : Nat) : Prop := ∀ (A1 A2 : Nat → Prop) (v1 v2 : Value) (a b : List PMask) (w : World), MaskD A1 n w v1 a → MaskD A2 n w v2 b → Calls Tryd.prog 14 #[v1, v2] w fun e w' => e = .returned (.bool (samB n a b)) ∧ Bel w w'
set_option maxHeartbeats 4000000 in
set_option maxRecDepth 100000 in
theorem rm_Same_nil : SameC 0 := by
  intro A1 A2 v1 v2 a b w0 ha hb
  obtain ⟨rfl, p, c, rfl⟩ := ha
  obtain ⟨rfl, p2, c2, rfl⟩ := hb
  show Calls _ _ _ _ fun e w' => e = .returned (.bool true) ∧ Bel w0 w'
  go_enter Tryd.func14, Tryd.ntmps14
  go_wp2
  go_loopw [5] (fun i wr => i = .int .i64 0 ∧ Hid (Bel w0 wr)) (fun i _ => 0)
  case atStart => exact ⟨rfl, Lib.hid (Bel.refl _)⟩
  case round =>
    obtain ⟨rfl, hS⟩ := hrel
    go_wp2
    go_ret
    exact ⟨rfl, hS.out⟩
set_option maxHeartbeats 4000000 in
set_option maxRecDepth 100000 in
theorem rm_Same_step (n : Nat) (II : SameC n) : SameC (n + 1) := by
  intro A1 A2 v1 v2 a b w0 ha hb
  obtain ⟨p, c, rfl, hl, hcap, hel⟩ := ha
  obtain ⟨p2, c2, rfl, hl2, hcap2, hel2⟩ := hb
  have EL := Lib.hid hel
  have EL2 := Lib.hid hel2
  have V := Lib.hid (show samL (samB n) (a.drop 0) (b.drop 0) = samB (n + 1) a b from rfl)
  have V0 := Lib.hid (show samL (samB n) a b = samB (n + 1) a b from rfl)
  generalize samB (n + 1) a b = Z at V V0
  clear hel hcap hel2 hcap2
  have CI := Lib.hid (fun W v1 v2 a b h1 h2 => II A1 A2 v1 v2 a b W h1 h2)
  clear II
  by_cases hle : a.length = b.length
  · have hli : ((a.length : Int) != (b.length : Int)) = false := by rw [hle]; simp
    have hl1 : a.length ≤ b.length := by omega
    have HLE := Lib.hid hle
    clear V0 hle
    go_enter Tryd.func14, Tryd.ntmps14
    go_wp2
    go_loopw [5] (fun i wr => ∃ k : Nat, k ≤ a.length ∧ i = .int .i64 k ∧ Hid (Bel w0 wr) ∧ Hid (samL (samB n) (a.drop k) (b.drop k) = Z)) (fun i _ => a.length - (intOf i).toNat)
    case atStart => exact ⟨0, by omega, rfl, Lib.hid (Bel.refl _), V⟩
    case round => as_aux_lemma =>
      clear V
      obtain ⟨k, hk, rfl, hS, hx⟩ := hrel
      by_cases hlt : k < a.length
      · have hlt2 : k < b.length := by omega
        obtain ⟨g, off, sv, rfl, hbs, hab, hc0, hc1, hd⟩ := EL.out k _ (List.getElem?_eq_getElem hlt)
        obtain ⟨g2, off2, sv2, rfl, hbs2, hab2, hd0, hd1, he⟩ := EL2.out k _ (List.getElem?_eq_getElem hlt2)
        obtain ⟨sp, sc, rfl⟩ := hd.form
        obtain ⟨sp2, sc2, rfl⟩ := he.form
        have hki : (k : Int) < (a.length : Int) := by omega
        have hki2 : (k : Int) < (b.length : Int) := by omega
        have hst := hx.out
        rw [samL_at hlt hlt2] at hst
        clear hx EL EL2
        generalize a[k] = x at *
        generalize b[k] = y at *
        go_upto_region 6 with (fail)
        obtain ⟨wd, hwd⟩ : ∃ wd, wd = wr.drew := ⟨_, rfl⟩
        have KD := Lib.hid (show Bel w0 wd by rw [hwd]; exact hS.out.drew)
        have HWD := Lib.hid hwd
        clear hwd hS
        have e0 := KD.out.some hc0
        have e1 := KD.out.some hc1
        have u0 := KD.out.some hd0
        have u1 := KD.out.some hd1
        clear hc0 hc1 hd0 hd1 hab hab2
        by_cases hn : x.num = y.num
        · have hnb : (x.num != y.num) = false := bne_f hn
          rw [if_pos hn] at hst
          have CS := Lib.hid (CI.out wd _ _ x.subs y.subs (hd.bel KD.out) (he.bel KD.out))
          generalize samB n x.subs y.subs = C at CS hst
          clear hn
          refine rg_tail 22 (by kernel_rfl) (by kernel_rfl) HWD.out ?_
          (simp only [List.take_succ_cons, List.take_zero, List.drop_succ_cons, List.drop_zero]); (repeat (first | ((with_reducible refine wpStill_step (fun K hK => ?_)); go_simp; (with_reducible refine hK _ ?_); clear hK K) | ((with_reducible refine rg_skip ?_ ?_); (with_unfolding_all rfl); (simp only [Act.put, List.setIfInBounds_toArray, List.set_cons_zero, List.set_cons_succ])))); (with_reducible refine wpStill_nil ?_)
          cases C with
          | true =>
            rw [if_pos rfl] at hst
            have HST := Lib.hid hst
            clear hst
            go_wp2_with (go_at_call 14; (with_reducible refine CS.out.mono ?_); rintro e w1 ⟨rfl, k1⟩; have K1 := Lib.hid (Bel.of KD.out k1); clear k1)
            go_roundw
            case rel => exact ⟨k + 1, by omega, by go_num, K1, HST⟩
            case measure => simp [intOf]; omega
          | false =>
            rw [if_neg Bool.false_ne_true] at hst
            subst hst
            go_wp2_with (go_at_call 14; (with_reducible refine CS.out.mono ?_); rintro e w1 ⟨rfl, k1⟩; have K1 := Lib.hid (Bel.of KD.out k1); clear k1)
            go_ret
            exact ⟨rfl, K1.out⟩
        · have hnb : (x.num != y.num) = true := bne_t hn
          rw [if_neg hn] at hst
          subst hst
          clear hn
          refine rg_tail 22 (by kernel_rfl) (by kernel_rfl) HWD.out ?_
          (simp only [List.take_succ_cons, List.take_zero, List.drop_succ_cons, List.drop_zero]); (repeat (first | ((with_reducible refine wpStill_step (fun K hK => ?_)); go_simp; (with_reducible refine hK _ ?_); clear hK K) | ((with_reducible refine rg_skip ?_ ?_); (with_unfolding_all rfl); (simp only [Act.put, List.setIfInBounds_toArray, List.set_cons_zero, List.set_cons_succ])))); (with_reducible refine wpStill_nil ?_)
          go_wp2
          go_ret
          exact ⟨rfl, KD.out⟩
      · have hkl : k = a.length := by omega
        have hz : true = Z := by have := hx.out; rw [hkl, List.drop_length, HLE.out, List.drop_length] at this; exact this
        subst hz
        clear hx
        go_wp2
        go_ret
        exact ⟨rfl, hS.out⟩
  · have hli : ((a.length : Int) != (b.length : Int)) = true := bne_t (by omega)
    have hz : false = Z := by rw [← V0.out, samL_len hle]
    subst hz
    clear V V0 hle
    go_enter Tryd.func14, Tryd.ntmps14
    go_wp2
    go_ret
    exact ⟨rfl, Bel.refl _⟩
theorem rm_Same : ∀ n : Nat, SameC n
  | 0 => rm_Same_nil
  | n + 1 => rm_Same_step n (rm_Same n)
end Go.Proofs.YtaaneecceiefoaaDoor
