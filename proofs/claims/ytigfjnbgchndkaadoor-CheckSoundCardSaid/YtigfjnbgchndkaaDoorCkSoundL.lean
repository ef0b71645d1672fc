/- Layer 12's law file walked: defined, typed. Printed by gensound.py. -/
import Derived.Test.YtigfjnbgchndkaaDoorCkOut
import Derived.Test.YtigfjnbgchndkaaDoorCkNeeds
import Derived.Test.YtigfjnbgchndkaaDoorCkSound2
import Derived.Test.YtigfjnbgchndkaaDoorKitA
import Derived.Test.YtigfjnbgchndkaaDoorKitC
import Derived.Deep.DeepCutAuto
namespace Go.Proofs.YtigfjnbgchndkaaDoor
open Go.RowKit Ck
set_option linter.unusedVariables false
set_option linter.unusedSimpArgs false

def DefPost (s : PSchema) (n : Str) (w : World) (e : Ending) (w' : World) : Prop := (∃ (i : Int) (b : Bool), e = .returned (.tuple #[.int .i64 i, .bool b]) ∧ ((∃ k : Nat, idxOf s n = some k ∧ i = k ∧ k < s.msgs.length ∧ b = true) ∨ (idxOf s n = none ∧ i = 0 ∧ b = false))) ∧ Below w.heap.size w w'
set_option maxHeartbeats 4000000 in
set_option maxRecDepth 100000 in
theorem ld_defined (sq1 sq2 sq3 : Option Addr) (sc1 sc2 sc3 : Nat) (s : PSchema) (n : Str) (w : World) (hs : VSchema w [.slice sq1 s.msgs.length sc1, .slice sq2 s.enums.length sc2, .slice sq3 s.svcs.length sc3] s) :
    Calls Tryd.prog 11 #[.agg #[.slice sq1 s.msgs.length sc1, .slice sq2 s.enums.length sc2, .slice sq3 s.svcs.length sc3], .string (S n)] w (DefPost s n w) := by
  have KB := Lib.hid (fun W' (k : Bel (w.alloc (.cells #[.slice sq1 s.msgs.length sc1, .slice sq2 s.enums.length sc2, .slice sq3 s.svcs.length sc3] 31)) W') => show W'.cell? ⟨w.heap.size, 0, none⟩ = some (.slice sq1 s.msgs.length sc1) ∧ W'.cell? ⟨w.heap.size, 1, none⟩ = some (.slice sq2 s.enums.length sc2) ∧ W'.cell? ⟨w.heap.size, 2, none⟩ = some (.slice sq3 s.svcs.length sc3) from ⟨k.some ((World.cell?_alloc_at _ _ _ _ rfl).trans rfl), k.some ((World.cell?_alloc_at _ _ _ _ rfl).trans rfl), k.some ((World.cell?_alloc_at _ _ _ _ rfl).trans rfl)⟩)
  have kb : Bel w (w.alloc (.cells #[.slice sq1 s.msgs.length sc1, .slice sq2 s.enums.length sc2, .slice sq3 s.svcs.length sc3] 31)) := (Bel.refl _).alloc _
  obtain ⟨_, _, _, hcs, hm1, hm2, hm3⟩ := id hs
  cases hcs
  have HM1 := Lib.hid hm1
  have hll : s.msgs.length ≤ 140737488355328 := by obtain ⟨_, _, _, h, _⟩ := hm1; exact h
  clear hm1 hm2 hm3 hs
  have HV := Lib.hid (show idxGo n (s.msgs.drop 0) 0 = idxOf s n from rfl)
  go_enter Tryd.func11, Tryd.ntmps11
  go_wp2
  go_loopw [6] (fun i wr => ∃ k : Nat, k ≤ s.msgs.length ∧ i = .int .i64 k ∧ Bel (w.alloc (.cells #[.slice sq1 s.msgs.length sc1, .slice sq2 s.enums.length sc2, .slice sq3 s.svcs.length sc3] 31)) wr ∧ Hid (idxGo n (s.msgs.drop k) k = idxOf s n)) (fun i _ => s.msgs.length - (intOf i).toNat)
  case atStart => exact ⟨0, by omega, rfl, Bel.refl _, HV⟩
  case round =>
    obtain ⟨k, hk, rfl, kw, hgo⟩ := hrel
    obtain ⟨c0, c1, c2⟩ := KB.out _ kw
    have hb0 : Bel w wr := Bel.of kb kw.out
    by_cases hlt : k < s.msgs.length
    · have hki : (k : Int) < (s.msgs.length : Int) := by omega
      have hk0 : (0 : Int) ≤ (k : Int) := by omega
      have hg := List.getElem?_eq_getElem hlt
      have hlist := HM1.out
      obtain ⟨qq, cq, hqe, _, _, hel⟩ := hlist
      cases hqe
      obtain ⟨b, off, hqq, hbs, cs, hce, hvs⟩ := hel k _ hg
      have hdr : s.msgs.drop k = s.msgs[k] :: s.msgs.drop (k + 1) := List.drop_eq_getElem_cons hlt
      have hst := hgo.out
      rw [hdr] at hst
      unfold idxGo at hst
      subst hqq
      obtain ⟨_, _, _, _, hvv, _⟩ := hvs
      subst hvv
      have e0 := hb0.some (hce 0 _ rfl)
      rw [Nat.add_zero] at e0
      have HST := Lib.hid hst
      clear hst hgo hdr hg hel hce
      generalize s.msgs[k] = x at *
      by_cases hn : x.name = n
      · have qn : ((S x.name).toList == (S n).toList) = true := by rw [eq_S]; exact decide_eq_true hn
        have hR : idxOf s n = some k := by have := HST.out; rw [if_pos hn] at this; exact this.symm
        clear hn HST
        go_wp2
        go_ret2
        exact ⟨⟨_, _, rfl, .inl ⟨k, hR, rfl, hlt, rfl⟩⟩, hb0.out⟩
      · have qn : ((S x.name).toList == (S n).toList) = false := by rw [eq_S]; exact decide_eq_false hn
        have HG := Lib.hid (show idxGo n (s.msgs.drop (k + 1)) (k + 1) = idxOf s n by have := HST.out; rw [if_neg hn] at this; exact this)
        clear hn HST
        go_wp2
        exact ⟨⟨k + 1, by omega, by go_num, kw, HG⟩, by simp [intOf]; omega⟩
    · have hki : ¬ (k : Int) < (s.msgs.length : Int) := by omega
      have hR : idxOf s n = none := by
        have := hgo.out
        rw [show k = s.msgs.length by omega, List.drop_length] at this
        exact this.symm
      clear hgo
      go_wp2
      go_ret2
      exact ⟨⟨_, _, rfl, .inr ⟨hR, rfl, rfl⟩⟩, hb0.out⟩
set_option maxHeartbeats 4000000 in
set_option maxRecDepth 100000 in
theorem ld_typed (sq1 sq2 sq3 : Option Addr) (sc1 sc2 sc3 : Nat) (s : PSchema) (tk : Int) (tn : Str) (w : World) (hs : VSchema w [.slice sq1 s.msgs.length sc1, .slice sq2 s.enums.length sc2, .slice sq3 s.svcs.length sc3] s) :
    Calls Tryd.prog 12 #[.agg #[.slice sq1 s.msgs.length sc1, .slice sq2 s.enums.length sc2, .slice sq3 s.svcs.length sc3], .agg #[.int .i64 tk, .string (S tn)]] w fun e w' => e = .returned (.bool (lTyped s tk tn)) ∧ Below w.heap.size w w' := by
  have hKB : ∀ W', Bel ((w.alloc (.cells #[.slice sq1 s.msgs.length sc1, .slice sq2 s.enums.length sc2, .slice sq3 s.svcs.length sc3] 31)).alloc (.cells #[.int .i64 tk, .string (S tn)] 40)) W' → W'.cell? ⟨w.heap.size, 0, none⟩ = some (.slice sq1 s.msgs.length sc1) ∧ W'.cell? ⟨w.heap.size, 1, none⟩ = some (.slice sq2 s.enums.length sc2) ∧ W'.cell? ⟨w.heap.size, 2, none⟩ = some (.slice sq3 s.svcs.length sc3) ∧ W'.cell? ⟨(w.heap.size + 1), 0, none⟩ = some (.int .i64 tk) ∧ W'.cell? ⟨(w.heap.size + 1), 1, none⟩ = some (.string (S tn)) := fun W' k => by
    refine ⟨k.some ?_, k.some ?_, k.some ?_, k.some ?_, k.some ?_⟩
    all_goals first
      | (rw [World.cell?_alloc_at _ _ _ _ (by simp)]; rfl)
      | (rw [World.cell?_alloc_past _ _ _ (by simp), World.cell?_alloc_at _ _ _ _ rfl]; rfl)
  have KB := Lib.hid hKB
  clear hKB
  have kb : Bel w ((w.alloc (.cells #[.slice sq1 s.msgs.length sc1, .slice sq2 s.enums.length sc2, .slice sq3 s.svcs.length sc3] 31)).alloc (.cells #[.int .i64 tk, .string (S tn)] 40)) := ((Bel.refl _).alloc _).alloc _
  obtain ⟨_, _, _, hcs, hm1, hm2, hm3⟩ := id hs
  cases hcs
  have HM2 := Lib.hid hm2
  have hll : s.enums.length ≤ 140737488355328 := by obtain ⟨_, _, _, h, _⟩ := hm2; exact h
  have CD := Lib.hid (fun W (k : Bel w W) => ld_defined sq1 sq2 sq3 sc1 sc2 sc3 s tn W (hs.stays_bel k))
  clear hm1 hm2 hm3 hs
  have HV := Lib.hid (show lTyped s tk tn = if tk = 10 then (idxOf s tn).isSome else if tk = 9 ∧ (s.enums.any fun e => decide (e.name = tn)) = true then true else decide (1 ≤ tk ∧ tk ≤ 8) from rfl)
  generalize lTyped s tk tn = R at HV
  obtain ⟨c0, c1, c2, d0, d1⟩ := KB.out _ (Bel.refl _)
  go_enter Tryd.func12, Tryd.ntmps12
  by_cases h10 : tk = 10
  · have q10 : (tk == 10) = true := by rw [h10]; rfl
    have hR : R = (idxOf s tn).isSome := by rw [HV.out, if_pos h10]
    clear HV h10
    go_wp2_with (go_at_call 11; (with_reducible refine (CD.out _ (Bel.of kb (by (repeat (first | (with_reducible assumption) | (with_reducible exact Bel.refl _) | (with_reducible refine Bel.drew ?_) | (with_reducible refine Bel.drewN ?_ _) | (with_reducible refine Bel.alloc ?_ _))) : Bel ((w.alloc (.cells #[.slice sq1 s.msgs.length sc1, .slice sq2 s.enums.length sc2, .slice sq3 s.svcs.length sc3] 31)).alloc (.cells #[.int .i64 tk, .string (S tn)] 40)) _).out)).mono ?_); rintro e w1 ⟨⟨i, b, rfl, hi⟩, h1⟩; have k1 : Bel ((w.alloc (.cells #[.slice sq1 s.msgs.length sc1, .slice sq2 s.enums.length sc2, .slice sq3 s.svcs.length sc3] 31)).alloc (.cells #[.int .i64 tk, .string (S tn)] 40)) w1 := Bel.of (by (repeat (first | (with_reducible assumption) | (with_reducible exact Bel.refl _) | (with_reducible refine Bel.drew ?_) | (with_reducible refine Bel.drewN ?_ _) | (with_reducible refine Bel.alloc ?_ _)))) h1; clear h1)
    go_ret
    refine ⟨ret_bool ?_, Bel.out (Bel.of kb k1.out)⟩
    rw [hR]
    rcases hi with ⟨k, h, _, _, hb⟩ | ⟨h, _, hb⟩ <;> rw [h, hb] <;> rfl
  · have q10 : (tk == 10) = false := beq_eq_false_iff_ne.2 h10
    have HR := Lib.hid (show R = if tk = 9 ∧ (s.enums.any fun e => decide (e.name = tn)) = true then true else decide (1 ≤ tk ∧ tk ≤ 8) by rw [HV.out, if_neg h10])
    clear HV
    have HA := Lib.hid (show ((s.enums.drop 0).any fun e => decide (e.name = tn)) = (s.enums.any fun e => decide (e.name = tn)) from rfl)
    generalize (s.enums.any fun e => decide (e.name = tn)) = Y at HA HR
    go_wp2
    go_loopw [4, 7] (fun _ i wr => ∃ k : Nat, k ≤ s.enums.length ∧ i = .int .i64 k ∧ Bel ((w.alloc (.cells #[.slice sq1 s.msgs.length sc1, .slice sq2 s.enums.length sc2, .slice sq3 s.svcs.length sc3] 31)).alloc (.cells #[.int .i64 tk, .string (S tn)] 40)) wr ∧ Hid (((s.enums.drop k).any fun e => decide (e.name = tn)) = Y)) (fun _ i _ => s.enums.length - (intOf i).toNat)
    case atStart => exact ⟨0, by omega, rfl, Bel.refl _, HA⟩
    case round =>
      clear c0 c1 c2 d0 d1
      obtain ⟨k, hk, rfl, kw, hgo⟩ := hrel
      obtain ⟨c0, c1, c2, d0, d1⟩ := KB.out _ kw
      have hb0 : Bel w wr := Bel.of kb kw.out
      by_cases h9 : tk = 9
      · have q9 : (tk == 9) = true := by rw [h9]; rfl
        have H9 := Lib.hid h9
        clear h9
        by_cases hlt : k < s.enums.length
        · have hki : (k : Int) < (s.enums.length : Int) := by omega
          have hk0 : (0 : Int) ≤ (k : Int) := by omega
          have hg := List.getElem?_eq_getElem hlt
          have hlist := HM2.out
          obtain ⟨qq, cq, hqe, _, _, hel⟩ := hlist
          cases hqe
          obtain ⟨b, off, hqq, hbs, cs, hce, hvs⟩ := hel k _ hg
          have hdr : s.enums.drop k = s.enums[k] :: s.enums.drop (k + 1) := List.drop_eq_getElem_cons hlt
          have hst := hgo.out
          rw [hdr, List.any_cons] at hst
          subst hqq
          obtain ⟨_, _, _, hvv, _⟩ := hvs
          subst hvv
          have e0 := hb0.some (hce 0 _ rfl)
          rw [Nat.add_zero] at e0
          have HST := Lib.hid hst
          clear hst hgo hdr hg hel hce
          generalize s.enums[k] = x at *
          go_upto_region 7 with (fail)
          have KS := Lib.hid (And.intro c0 (And.intro c1 (And.intro d0 (And.intro d1 e0))))
          clear c0 c1 c2 d0 d1 e0
          obtain ⟨wd, hwd⟩ : ∃ wd, wd = wr.drew := ⟨_, rfl⟩
          have kd : Bel wr wd := by rw [hwd]; exact (Bel.refl _).drew
          have HWD := Lib.hid hwd
          clear hwd
          have c0 := kd.some KS.out.1
          have c1 := kd.some KS.out.2.1
          have d0 := kd.some KS.out.2.2.1
          have d1 := kd.some KS.out.2.2.2.1
          have e0 := kd.some KS.out.2.2.2.2
          by_cases hn : x.name = tn
          · have qn : ((S x.name).toList == (S tn).toList) = true := by rw [eq_S]; exact decide_eq_true hn
            have hY : Y = true := by have := HST.out; rw [decide_eq_true hn, Bool.true_or] at this; exact this.symm
            have HR2 := Lib.hid (show R = true by rw [HR.out, if_pos ⟨H9.out, hY⟩])
            clear hn HST hY
            refine rg_tail 8 (by kernel_rfl) (by kernel_rfl) HWD.out ?_
            (simp only [List.take_succ_cons, List.take_zero, List.drop_succ_cons, List.drop_zero]); (repeat (first | ((with_reducible refine wpStill_step (fun K hK => ?_)); go_simp; (with_reducible refine hK _ ?_); clear hK K) | ((with_reducible refine rg_skip ?_ ?_); (with_unfolding_all rfl)))); (with_reducible refine wpStill_nil ?_)
            go_wp2
            go_ret
            exact ⟨ret_bool HR2.out.symm, (Bel.of hb0 kd.out).out⟩
          · have qn : ((S x.name).toList == (S tn).toList) = false := by rw [eq_S]; exact decide_eq_false hn
            have HG := Lib.hid (show ((s.enums.drop (k + 1)).any fun e => decide (e.name = tn)) = Y by have := HST.out; rw [decide_eq_false hn, Bool.false_or] at this; exact this)
            clear hn HST
            refine rg_tail 8 (by kernel_rfl) (by kernel_rfl) HWD.out ?_
            (simp only [List.take_succ_cons, List.take_zero, List.drop_succ_cons, List.drop_zero]); (repeat (first | ((with_reducible refine wpStill_step (fun K hK => ?_)); go_simp; (with_reducible refine hK _ ?_); clear hK K) | ((with_reducible refine rg_skip ?_ ?_); (with_unfolding_all rfl)))); (with_reducible refine wpStill_nil ?_)
            go_wp2
            exact ⟨⟨k + 1, by omega, by go_num, Bel.of kw kd.out, HG⟩, by simp [intOf]; omega⟩
        · have hki : ¬ (k : Int) < (s.enums.length : Int) := by omega
          have hY : Y = false := by
            have := hgo.out
            rw [show k = s.enums.length by omega, List.drop_length] at this
            exact this.symm
          have hR : R = false := by rw [HR.out, if_neg (fun h => by rw [hY] at h; exact absurd h.2 (by simp))]; exact decide_eq_false (by have := H9.out; omega)
          have HR2 := Lib.hid hR
          clear hgo HR hR
          have h9 := H9.out
          subst h9
          go_wp2
          all_goals go_ret
          all_goals exact ⟨ret_bool HR2.out.symm, hb0.out⟩
      · have q9 : (tk == 9) = false := beq_eq_false_iff_ne.2 h9
        have hR : R = decide (1 ≤ tk ∧ tk ≤ 8) := by rw [HR.out, if_neg (fun h => h9 h.1)]
        have HR2 := Lib.hid hR
        clear HR hgo hR
        by_cases ha : 1 ≤ tk
        all_goals
          go_wp2
          all_goals go_ret
          all_goals exact ⟨ret_bool (by rw [HR2.out, Bool.eq_iff_iff]; first | (simp [ha]; done) | (simp; omega)), hb0.out⟩
end Go.Proofs.YtigfjnbgchndkaaDoor
