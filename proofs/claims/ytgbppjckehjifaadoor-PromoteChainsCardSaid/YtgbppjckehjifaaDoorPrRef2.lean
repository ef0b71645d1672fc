/- More contracts of the reference's functions. -/
import Derived.Test.YtgbppjckehjifaaDoorPrRef1
namespace Go.Proofs.YtgbppjckehjifaaDoor
open Go.RowKit
set_option linter.unusedVariables false
set_option linter.unusedSimpArgs false

set_option maxHeartbeats 1000000 in
set_option maxRecDepth 100000 in
theorem r4_Class (x : Int) (w : World) (h0 : 0 ≤ x) (h1 : x < 18446744073709551616) : Calls Tryd.prog 45 #[.int .u64 x] w fun e w' => e = .returned (.int .i64 (Pr.cls x)) ∧ w = w' := by
  go_enter Tryd.func45, Tryd.ntmps45
  go_wp2
  all_goals go_ret
  all_goals
    refine ⟨ret_int ?_, rfl⟩
    try simp only [beq_iff_eq, beq_eq_false_iff_ne, bne_iff_ne, bne_eq_false_iff_eq, ne_eq] at *
    unfold Pr.cls
    (repeat' split) <;> omega
set_option maxHeartbeats 1000000 in
set_option maxRecDepth 100000 in
theorem r4_Norm (k x : Int) (t : ByteArray) (p1 p2 p3 p4 : Option Addr) (n1 n2 n3 n4 q1 q2 q3 q4 : Nat) (w : World) (h0 : 0 ≤ x) (h1 : x < 18446744073709551616) (b1 : n1 ≤ 140737488355328) (b2 : n2 ≤ 140737488355328) (b3 : n3 ≤ 140737488355328) (b4 : n4 ≤ 140737488355328) : Calls Tryd.prog 34 #[.agg #[.int .i64 k, .int .u64 x, .string t, .slice p1 n1 q1, .slice p2 n2 q2, .slice p3 n3 q3, .slice p4 n4 q4]] w fun e w' => e = .returned (.agg #[.int .i64 k, .int .u64 (Pr.normB k x), .string t, .slice p1 n1 q1, .slice p2 n2 q2, .slice p3 n3 q3, .slice p4 n4 q4]) ∧ Below w.heap.size w w' := by
  by_cases hk : k = 6
  · subst hk
    have c := Lib.hid (fun W => r4_Class x W h0 h1)
    by_cases hc : Pr.cls x = 0
    · have hn : Pr.normB 6 x = 9221120237041090560 := if_pos ⟨rfl, hc⟩
      rw [hn]
      rw [hc] at c
      clear hc hn
      go_enter Tryd.func34, Tryd.ntmps34
      go_wp2_with (first
        | (go_at_call 45; (with_reducible refine (c.out _).mono ?_); rintro e w' ⟨rfl, rfl⟩))
      exact bodyPost_ret (by simp [results, Tryd.results34, go_sem]) rfl ⟨rfl, ((Below.refl _ _).bal _).bal _⟩
    · have hn : Pr.normB 6 x = x := if_neg (fun h => hc h.2)
      have hc' : (Pr.cls x == 0) = false := beq_eq_false_iff_ne.2 hc
      rw [hn]
      clear hc hn
      go_enter Tryd.func34, Tryd.ntmps34
      go_wp2_with (first
        | (go_at_call 45; (with_reducible refine (c.out _).mono ?_); rintro e w' ⟨rfl, rfl⟩))
      exact bodyPost_ret (by simp [results, Tryd.results34, go_sem]) rfl ⟨rfl, ((Below.refl _ _).bal _).bal _⟩
  · have hn : Pr.normB k x = x := if_neg (fun h => hk h.1)
    have hk' : (k == 6) = false := beq_eq_false_iff_ne.2 hk
    rw [hn]
    clear hk hn
    go_enter Tryd.func34, Tryd.ntmps34
    go_wp2
    exact bodyPost_ret (by simp [results, Tryd.results34, go_sem]) rfl ⟨rfl, ((Below.refl _ _).bal _).bal _⟩
set_option maxHeartbeats 1000000 in
set_option maxRecDepth 100000 in
theorem r4_Zero (k : Int) (w : World) (h : Pr.isK k = true) : Calls Tryd.prog 25 #[.int .i64 k] w fun e w' => e = .returned (.agg #[.int .i64 k, .int .u64 0, .string ⟨#[]⟩, .slice none 0 0, .slice none 0 0, .slice none 0 0, .slice none 0 0]) ∧ Below w.heap.size w w' := by
  have c1 := Lib.hid (fun W => r4_Is k W)
  rw [h] at c1
  clear h
  go_enter Tryd.func25, Tryd.ntmps25
  go_wp2_with (first
    | (go_at_call 39; (with_reducible refine (c1.out _).mono ?_); rintro e w' ⟨rfl, rfl⟩))
  exact bodyPost_ret (by simp [results, Tryd.results25, go_sem]) rfl ⟨rfl, by (repeat (first | (with_reducible exact Below.refl _ _) | (with_reducible refine Below.drew ?_) | (with_reducible refine Below.bal ?_ _) | (with_reducible refine Below.setCell ?_ (by simp) _) | (with_reducible refine Below.link (by assumption) ?_)))⟩
set_option maxHeartbeats 1000000 in
set_option maxRecDepth 100000 in
theorem r4_Zero_no (k : Int) (w : World) (h : Pr.isK k = false) : Calls Tryd.prog 25 #[.int .i64 k] w fun e w' => e = .returned (.agg #[.int .i64 0, .int .u64 0, .string ⟨#[]⟩, .slice none 0 0, .slice none 0 0, .slice none 0 0, .slice none 0 0]) ∧ Below w.heap.size w w' := by
  have c1 := Lib.hid (fun W => r4_Is k W)
  rw [h] at c1
  clear h
  go_enter Tryd.func25, Tryd.ntmps25
  go_wp2_with (first
    | (go_at_call 39; (with_reducible refine (c1.out _).mono ?_); rintro e w' ⟨rfl, rfl⟩))
  exact bodyPost_ret (by simp [results, Tryd.results25, go_sem]) rfl ⟨rfl, by (repeat (first | (with_reducible exact Below.refl _ _) | (with_reducible refine Below.drew ?_) | (with_reducible refine Below.bal ?_ _) | (with_reducible refine Below.setCell ?_ (by simp) _) | (with_reducible refine Below.link (by assumption) ?_)))⟩
set_option maxHeartbeats 1000000 in
set_option maxRecDepth 100000 in
theorem r_Level (f a b : Int) (w : World) : Calls Tryd.prog 11 #[.int .i64 f, .int .i64 a, .int .i64 b] w fun e w' => e = .returned (.int .i64 (Pr.lev f a b)) ∧ w = w' := by
  rw [← Pr.levR_eq]
  have hv := Lib.hid (show Pr.levR f a b = (if Pr.famR f a = 0 ∨ Pr.famR f a ≠ Pr.famR f b then 0 else if a = b ∨ a = 7 then 2 else if a = 8 ∨ Pr.inR a b = false then 1 else 2) from rfl)
  rw [Pr.famR_eq, Pr.famR_eq] at hv
  have c1 := Lib.hid (fun W => r_Family f a W)
  have c2 := Lib.hid (fun W => r_Family f b W)
  have c3 := Lib.hid (fun W => r_within a b W)
  generalize Pr.levR f a b = R at hv ⊢
  generalize Pr.fam f a = fa at c1 hv
  generalize Pr.fam f b = fb at c2 hv
  generalize Pr.inR a b = br at c3 hv
  go_enter Tryd.func11, Tryd.ntmps11
  go_wp2_with (first
    | (go_at_call 13; (with_reducible refine (c1.out _).mono ?_); rintro e w' ⟨rfl, rfl⟩)
    | (go_at_call 13; (with_reducible refine (c2.out _).mono ?_); rintro e w' ⟨rfl, rfl⟩)
    | (go_at_call 29; (with_reducible refine (c3.out _).mono ?_); rintro e w' ⟨rfl, rfl⟩))
  all_goals go_ret
  all_goals refine ⟨ret_int ?_, rfl⟩
  all_goals rw [hv.out]
  all_goals (simp only [beq_iff_eq, beq_eq_false_iff_ne, bne_iff_ne, bne_eq_false_iff_eq, ne_eq, Bool.not_eq_true] at *)
  all_goals simp_all
set_option maxHeartbeats 1000000 in
set_option maxRecDepth 100000 in
theorem r4_lone (k x : Int) (t : ByteArray) (p1 p2 p3 p4 : Option Addr) (n1 n2 n3 n4 q1 q2 q3 q4 : Nat) (w : World) : Calls Tryd.prog 42 #[.agg #[.int .i64 k, .int .u64 x, .string t, .slice p1 n1 q1, .slice p2 n2 q2, .slice p3 n3 q3, .slice p4 n4 q4]] w fun e w' => e = .returned (.bool (decide ((n1 + n2 + n3 + n4) = 0))) ∧ Below w.heap.size w w' := by
  go_enter Tryd.func42, Tryd.ntmps42
  go_wp2
  all_goals go_ret
  all_goals refine ⟨ret_bool ?_, by (repeat (first | (with_reducible exact Below.refl _ _) | (with_reducible refine Below.drew ?_) | (with_reducible refine Below.bal ?_ _) | (with_reducible refine Below.setCell ?_ (by simp) _) | (with_reducible refine Below.link (by assumption) ?_)))⟩
  all_goals rw [Bool.eq_iff_iff]
  all_goals simp_all
  all_goals try omega
end Go.Proofs.YtgbppjckehjifaaDoor
