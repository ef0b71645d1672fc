/- Contracts of the reference's functions that promote's laws reach. -/
import Derived.Test.YtigfjnbgchndkaaGreatDoorPrProg1
import Derived.Test.YtigfjnbgchndkaaGreatDoorKitI
import Derived.StillTailTactics
namespace Go.Proofs.YtigfjnbgchndkaaGreatDoor
open Go.RowKit
set_option linter.unusedVariables false
set_option linter.unusedSimpArgs false

set_option maxHeartbeats 1000000 in
set_option maxRecDepth 100000 in
theorem r4_Is (k : Int) (w : World) : Calls Tryz.prog 117 #[.int .i64 k] w fun e w' => e = .returned (.bool (Pr.isK k)) ∧ w = w' := by
 go_enter Tryz.func117, Tryz.ntmps117
 go_wp2
 all_goals go_ret
 all_goals exact ⟨ret_bool (by rw [Bool.eq_iff_iff]; simp [Pr.isK] at *; try omega), rfl⟩
set_option maxHeartbeats 1000000 in
set_option maxRecDepth 100000 in
theorem r4_texts (k : Int) (w : World) : Calls Tryz.prog 119 #[.int .i64 k] w fun e w' => e = .returned (.bool (Pr.txt k)) ∧ w = w' := by
 go_enter Tryz.func119, Tryz.ntmps119
 go_wp2
 all_goals go_ret
 all_goals exact ⟨ret_bool (by rw [Bool.eq_iff_iff]; simp [Pr.txt] at *; try omega), rfl⟩
end Go.Proofs.YtigfjnbgchndkaaGreatDoor

/- More contracts of the reference's functions. -/
namespace Go.Proofs.YtigfjnbgchndkaaGreatDoor
open Go.RowKit
set_option linter.unusedVariables false
set_option linter.unusedSimpArgs false

set_option maxHeartbeats 1000000 in
set_option maxRecDepth 100000 in
theorem r4_Class (x : Int) (w : World) (h0 : 0 ≤ x) (h1 : x < 18446744073709551616) : Calls Tryz.prog 120 #[.int .u64 x] w fun e w' => e = .returned (.int .i64 (Pr.cls x)) ∧ w = w' := by
 go_enter Tryz.func120, Tryz.ntmps120
 go_wp2
 all_goals go_ret
 all_goals
  refine ⟨ret_int ?_, rfl⟩
  try simp only [beq_iff_eq, beq_eq_false_iff_ne, bne_iff_ne, bne_eq_false_iff_eq, ne_eq] at *
  unfold Pr.cls
  (repeat' split) <;> omega
set_option maxHeartbeats 1000000 in
set_option maxRecDepth 100000 in
theorem r4_Norm (k x : Int) (t : ByteArray) (p1 p2 p3 p4 : Option Addr) (n1 n2 n3 n4 q1 q2 q3 q4 : Nat) (w : World) (h0 : 0 ≤ x) (h1 : x < 18446744073709551616) (b1 : n1 ≤ 140737488355328) (b2 : n2 ≤ 140737488355328) (b3 : n3 ≤ 140737488355328) (b4 : n4 ≤ 140737488355328) : Calls Tryz.prog 96 #[.agg #[.int .i64 k, .int .u64 x, .string t, .slice p1 n1 q1, .slice p2 n2 q2, .slice p3 n3 q3, .slice p4 n4 q4]] w fun e w' => e = .returned (.agg #[.int .i64 k, .int .u64 (Pr.normB k x), .string t, .slice p1 n1 q1, .slice p2 n2 q2, .slice p3 n3 q3, .slice p4 n4 q4]) ∧ Below w.heap.size w w' := by
 by_cases hk : k = 6
 ·subst hk
  have c := Lib.hid (fun W => r4_Class x W h0 h1)
  by_cases hc : Pr.cls x = 0
  ·have hn : Pr.normB 6 x = 9221120237041090560 := if_pos ⟨rfl, hc⟩
   rw [hn]
   rw [hc] at c
   clear hc hn
   go_enter Tryz.func96, Tryz.ntmps96
   go_wp2_with (first
    | (go_at_call 120; (with_reducible refine (c.out _).mono ?_); rintro e w' ⟨rfl, rfl⟩))
   exact bodyPost_ret (by simp [results, Tryz.results96, go_sem]) rfl ⟨rfl, ((Below.refl _ _).bal _).bal _⟩
  ·have hn : Pr.normB 6 x = x := if_neg (fun h => hc h.2)
   have hc' : (Pr.cls x == 0) = false := beq_eq_false_iff_ne.2 hc
   rw [hn]
   clear hc hn
   go_enter Tryz.func96, Tryz.ntmps96
   go_wp2_with (first
    | (go_at_call 120; (with_reducible refine (c.out _).mono ?_); rintro e w' ⟨rfl, rfl⟩))
   exact bodyPost_ret (by simp [results, Tryz.results96, go_sem]) rfl ⟨rfl, ((Below.refl _ _).bal _).bal _⟩
 ·have hn : Pr.normB k x = x := if_neg (fun h => hk h.1)
  have hk' : (k == 6) = false := beq_eq_false_iff_ne.2 hk
  rw [hn]
  clear hk hn
  go_enter Tryz.func96, Tryz.ntmps96
  go_wp2
  exact bodyPost_ret (by simp [results, Tryz.results96, go_sem]) rfl ⟨rfl, ((Below.refl _ _).bal _).bal _⟩
set_option maxHeartbeats 1000000 in
set_option maxRecDepth 100000 in
theorem r4_lone (k x : Int) (t : ByteArray) (p1 p2 p3 p4 : Option Addr) (n1 n2 n3 n4 q1 q2 q3 q4 : Nat) (w : World) : Calls Tryz.prog 118 #[.agg #[.int .i64 k, .int .u64 x, .string t, .slice p1 n1 q1, .slice p2 n2 q2, .slice p3 n3 q3, .slice p4 n4 q4]] w fun e w' => e = .returned (.bool (decide ((n1 + n2 + n3 + n4) = 0))) ∧ Below w.heap.size w w' := by
 go_enter Tryz.func118, Tryz.ntmps118
 go_wp2
 all_goals go_ret
 all_goals refine ⟨ret_bool ?_, by (repeat (first | (with_reducible exact Below.refl _ _) | (with_reducible refine Below.drew ?_) | (with_reducible refine Below.bal ?_ _) | (with_reducible refine Below.setCell ?_ (by simp) _) | (with_reducible refine Below.link (by assumption) ?_)))⟩
 all_goals rw [Bool.eq_iff_iff]
 all_goals simp_all
 all_goals try omega
end Go.Proofs.YtigfjnbgchndkaaGreatDoor

/- The reference's Fits. -/
namespace Go.Proofs.YtigfjnbgchndkaaGreatDoor
open Go.RowKit
set_option linter.unusedVariables false
set_option linter.unusedSimpArgs false

set_option maxHeartbeats 1000000 in
set_option maxRecDepth 100000 in
theorem r4_Fits_ne (kind k : Int) (x : Int) (t : ByteArray) (p1 p2 p3 p4 : Option Addr) (n1 n2 n3 n4 q1 q2 q3 q4 : Nat) (w : World) (h0 : 0 ≤ x) (h1 : x < 18446744073709551616) (b1 : n1 ≤ 140737488355328) (b2 : n2 ≤ 140737488355328) (b3 : n3 ≤ 140737488355328) (b4 : n4 ≤ 140737488355328) (hk : k ≠ kind) : Calls Tryz.prog 95 #[.int .i64 kind, .agg #[.int .i64 k, .int .u64 x, .string t, .slice p1 n1 q1, .slice p2 n2 q2, .slice p3 n3 q3, .slice p4 n4 q4]] w fun e w' => e = .returned (.bool (Pr.fitsB kind k x t.data.toList (n1 + n2 + n3 + n4))) ∧ Below w.heap.size w w' := by
 have e : Pr.fitsB kind k x t.data.toList (n1 + n2 + n3 + n4) = false := by unfold Pr.fitsB; rw [decide_eq_false hk]; simp
 rw [e]
 have hk' : (k != kind) = true := bne_iff_ne.2 hk
 have c1 := Lib.hid (fun W => r4_Is kind W)
 generalize Pr.isK kind = bi at c1
 clear hk e
 go_enter Tryz.func95, Tryz.ntmps95
 go_wp2_with (first
  | (go_at_call 117; (with_reducible refine (c1.out _).mono ?_); rintro e w' ⟨rfl, rfl⟩))
 all_goals go_ret
 all_goals exact ⟨rfl, by (repeat (first | (with_reducible exact Below.refl _ _) | (with_reducible refine Below.drew ?_) | (with_reducible refine Below.bal ?_ _) | (with_reducible refine Below.setCell ?_ (by simp) _) | (with_reducible refine Below.link (by assumption) ?_)))⟩
set_option maxHeartbeats 1000000 in
set_option maxRecDepth 100000 in
theorem r4_Fits_txt (k : Int) (x : Int) (t : ByteArray) (p1 p2 p3 p4 : Option Addr) (n1 n2 n3 n4 q1 q2 q3 q4 : Nat) (w : World) (hk : Pr.txt k = true) (c4 : Hid (∀ W : World, t.size ≤ 4096 → Calls Tryz.prog 67 #[.string t] W fun e w' => e = .returned (.bool (decide (Utf.bad t.data.toList < 0))) ∧ W = w')): Calls Tryz.prog 95 #[.int .i64 k, .agg #[.int .i64 k, .int .u64 x, .string t, .slice p1 n1 q1, .slice p2 n2 q2, .slice p3 n3 q3, .slice p4 n4 q4]] w fun e w' => e = .returned (.bool (Pr.fitsB k k x t.data.toList (n1 + n2 + n3 + n4))) ∧ Below w.heap.size w w' := by
 have hE := Pr.fits_ref k x t.data.toList (n1 + n2 + n3 + n4)
 rw [if_pos hk, len_l] at hE
 have hE' := Lib.hid hE
 have c1 := Lib.hid (fun W => r4_Is k W)
 have c2 := Lib.hid (fun W => r4_lone k x t p1 p2 p3 p4 n1 n2 n3 n4 q1 q2 q3 q4 W)
 have c3 := Lib.hid (fun W => r4_texts k W)
 rw [hk] at c3
 clear hE hk
 generalize Pr.fitsB k k x t.data.toList (n1 + n2 + n3 + n4) = R at hE' ⊢
 generalize decide (n1 + n2 + n3 + n4 = 0) = bl at c2 hE'
 generalize Pr.isK k = bi at c1 hE'
 generalize decide (Utf.bad t.data.toList < 0) = bv at c4 hE'
 go_enter Tryz.func95, Tryz.ntmps95
 go_wp2_with (first
  | (go_at_call 117; (with_reducible refine (c1.out _).mono ?_); rintro e w' ⟨rfl, rfl⟩)
  | (go_at_call 118; (with_reducible refine (c2.out _).mono ?_); rintro e w1 ⟨rfl, hb1⟩; obtain ⟨hc1, hf1⟩ := bcell hb1; have hz1 := hb1.size; (try simp at hz1); (try have hx1 : w.heap.size + 1 < w1.heap.size := by omega); (try have hy1 : w.heap.size < w1.heap.size := by omega))
  | (go_at_call 119; (with_reducible refine (c3.out _).mono ?_); rintro e w' ⟨rfl, rfl⟩)
  | (go_at_call 67; (with_reducible refine (c4.out _ (by omega)).mono ?_); rintro e w' ⟨rfl, rfl⟩))
 all_goals go_ret
 all_goals refine ⟨ret_bool ?_, by (repeat (first | (with_reducible exact Below.refl _ _) | (with_reducible refine Below.drew ?_) | (with_reducible refine Below.bal ?_ _) | (with_reducible refine Below.setCell ?_ (by simp) _) | (with_reducible refine Below.link (by assumption) ?_)))⟩
 all_goals rw [hE'.out]
 all_goals (try simp only [beq_iff_eq, beq_eq_false_iff_ne, bne_iff_ne, bne_eq_false_iff_eq, ne_eq, Bool.not_eq_true] at *)
 all_goals simp_all
 all_goals (first | omega | (intros; omega) | (cases bv <;> simp_all <;> omega))
set_option maxHeartbeats 1000000 in
set_option maxRecDepth 100000 in
theorem r4_Fits_num (k : Int) (x : Int) (t : ByteArray) (p1 p2 p3 p4 : Option Addr) (n1 n2 n3 n4 q1 q2 q3 q4 : Nat) (w : World) (h0 : 0 ≤ x) (h1 : x < 18446744073709551616) (hk : Pr.txt k = false) : Calls Tryz.prog 95 #[.int .i64 k, .agg #[.int .i64 k, .int .u64 x, .string t, .slice p1 n1 q1, .slice p2 n2 q2, .slice p3 n3 q3, .slice p4 n4 q4]] w fun e w' => e = .returned (.bool (Pr.fitsB k k x t.data.toList (n1 + n2 + n3 + n4))) ∧ Below w.heap.size w w' := by
 have hE := Pr.fits_ref k x t.data.toList (n1 + n2 + n3 + n4)
 rw [if_neg (by rw [hk]; decide)] at hE
 have hE' := Lib.hid hE
 have c1 := Lib.hid (fun W => r4_Is k W)
 have c2 := Lib.hid (fun W => r4_lone k x t p1 p2 p3 p4 n1 n2 n3 n4 q1 q2 q3 q4 W)
 have c3 := Lib.hid (fun W => r4_texts k W)
 rw [hk] at c3
 clear hE hk
 have hw := Lib.hid (wrap64_u x h0 h1)
 generalize Pr.fitsB k k x t.data.toList (n1 + n2 + n3 + n4) = R at hE' ⊢
 generalize decide (n1 + n2 + n3 + n4 = 0) = bl at c2 hE'
 generalize Pr.isK k = bi at c1 hE'
 by_cases ht : t.data.toList = []
 ·have ht1 : t.toList = [] := by rw [ByteArray.toList_eq]; exact ht
  rw [decide_eq_true ht] at hE'
  clear ht
  go_enter Tryz.func95, Tryz.ntmps95
  go_wp2_with (first
   | (go_at_call 117; (with_reducible refine (c1.out _).mono ?_); rintro e w' ⟨rfl, rfl⟩)
   | (go_at_call 118; (with_reducible refine (c2.out _).mono ?_); rintro e w1 ⟨rfl, hb1⟩; obtain ⟨hc1, hf1⟩ := bcell hb1; have hz1 := hb1.size; (try simp at hz1); (try have hx1 : w.heap.size + 1 < w1.heap.size := by omega); (try have hy1 : w.heap.size < w1.heap.size := by omega))
   | (go_at_call 119; (with_reducible refine (c3.out _).mono ?_); rintro e w' ⟨rfl, rfl⟩))
  all_goals go_ret
  all_goals refine ⟨ret_bool ?_, by (repeat (first | (with_reducible exact Below.refl _ _) | (with_reducible refine Below.drew ?_) | (with_reducible refine Below.bal ?_ _) | (with_reducible refine Below.setCell ?_ (by simp) _) | (with_reducible refine Below.link (by assumption) ?_)))⟩
  all_goals rw [hE'.out]
  all_goals (try simp only [beq_iff_eq, beq_eq_false_iff_ne, bne_iff_ne, bne_eq_false_iff_eq, ne_eq, Bool.not_eq_true] at *)
  all_goals (simp_all [Pr.withB])
  all_goals (have hw' := hw.out; first | omega | (rw [Bool.eq_iff_iff]; simp; split at hw' <;> omega) | (split at hw' <;> omega))
 ·have ht1 : t.toList ≠ [] := by rw [ByteArray.toList_eq]; exact ht
  rw [decide_eq_false ht] at hE'
  have ht2 : t.toList.isEmpty = false := by rw [emp, decide_eq_false ht]
  clear ht
  go_enter Tryz.func95, Tryz.ntmps95
  go_wp2_with (first
   | (go_at_call 117; (with_reducible refine (c1.out _).mono ?_); rintro e w' ⟨rfl, rfl⟩)
   | (go_at_call 118; (with_reducible refine (c2.out _).mono ?_); rintro e w1 ⟨rfl, hb1⟩; obtain ⟨hc1, hf1⟩ := bcell hb1; have hz1 := hb1.size; (try simp at hz1); (try have hx1 : w.heap.size + 1 < w1.heap.size := by omega); (try have hy1 : w.heap.size < w1.heap.size := by omega))
   | (go_at_call 119; (with_reducible refine (c3.out _).mono ?_); rintro e w' ⟨rfl, rfl⟩))
  all_goals go_ret
  all_goals refine ⟨ret_bool ?_, by (repeat (first | (with_reducible exact Below.refl _ _) | (with_reducible refine Below.drew ?_) | (with_reducible refine Below.bal ?_ _) | (with_reducible refine Below.setCell ?_ (by simp) _) | (with_reducible refine Below.link (by assumption) ?_)))⟩
  all_goals rw [hE'.out]
  all_goals simp_all
end Go.Proofs.YtigfjnbgchndkaaGreatDoor

/- The reference's Fits, joined. -/
namespace Go.Proofs.YtigfjnbgchndkaaGreatDoor
open Go.RowKit
set_option linter.unusedVariables false
set_option linter.unusedSimpArgs false

theorem r4_Fits (kind k : Int) (x : Int) (t : ByteArray) (p1 p2 p3 p4 : Option Addr) (n1 n2 n3 n4 q1 q2 q3 q4 : Nat) (w : World) (h0 : 0 ≤ x) (h1 : x < 18446744073709551616) (b1 : n1 ≤ 140737488355328) (b2 : n2 ≤ 140737488355328) (b3 : n3 ≤ 140737488355328) (b4 : n4 ≤ 140737488355328) : Calls Tryz.prog 95 #[.int .i64 kind, .agg #[.int .i64 k, .int .u64 x, .string t, .slice p1 n1 q1, .slice p2 n2 q2, .slice p3 n3 q3, .slice p4 n4 q4]] w fun e w' => e = .returned (.bool (Pr.fitsB kind k x t.data.toList (n1 + n2 + n3 + n4))) ∧ Below w.heap.size w w' := by
 by_cases hk : k = kind
 ·subst hk
  cases ht : Pr.txt k
  ·exact r4_Fits_num k x t p1 p2 p3 p4 n1 n2 n3 n4 q1 q2 q3 q4 w h0 h1 ht
  ·exact r4_Fits_txt k x t p1 p2 p3 p4 n1 n2 n3 n4 q1 q2 q3 q4 w ht (Lib.hid (fun W h => ref_Valid t t.data.toList W rfl (by omega)))
 ·exact r4_Fits_ne kind k x t p1 p2 p3 p4 n1 n2 n3 n4 q1 q2 q3 q4 w h0 h1 b1 b2 b3 b4 hk
end Go.Proofs.YtigfjnbgchndkaaGreatDoor
