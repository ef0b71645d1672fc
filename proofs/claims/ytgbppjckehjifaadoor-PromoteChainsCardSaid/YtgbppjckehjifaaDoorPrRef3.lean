/- The reference's Fits. -/
import Derived.Test.YtgbppjckehjifaaDoorPrRef2
namespace Go.Proofs.YtgbppjckehjifaaDoor
open Go.RowKit
set_option linter.unusedVariables false
set_option linter.unusedSimpArgs false

set_option maxHeartbeats 1000000 in
set_option maxRecDepth 100000 in
theorem r4_Fits_ne (kind k : Int) (x : Int) (t : ByteArray) (p1 p2 p3 p4 : Option Addr) (n1 n2 n3 n4 q1 q2 q3 q4 : Nat) (w : World) (h0 : 0 ≤ x) (h1 : x < 18446744073709551616) (b1 : n1 ≤ 140737488355328) (b2 : n2 ≤ 140737488355328) (b3 : n3 ≤ 140737488355328) (b4 : n4 ≤ 140737488355328) (hk : k ≠ kind) : Calls Tryd.prog 33 #[.int .i64 kind, .agg #[.int .i64 k, .int .u64 x, .string t, .slice p1 n1 q1, .slice p2 n2 q2, .slice p3 n3 q3, .slice p4 n4 q4]] w fun e w' => e = .returned (.bool (Pr.fitsB kind k x t.data.toList (n1 + n2 + n3 + n4))) ∧ Below w.heap.size w w' := by
  have e : Pr.fitsB kind k x t.data.toList (n1 + n2 + n3 + n4) = false := by unfold Pr.fitsB; rw [decide_eq_false hk]; simp
  rw [e]
  have hk' : (k != kind) = true := bne_iff_ne.2 hk
  have c1 := Lib.hid (fun W => r4_Is kind W)
  generalize Pr.isK kind = bi at c1
  clear hk e
  go_enter Tryd.func33, Tryd.ntmps33
  go_wp2_with (first
    | (go_at_call 39; (with_reducible refine (c1.out _).mono ?_); rintro e w' ⟨rfl, rfl⟩))
  all_goals go_ret
  all_goals exact ⟨rfl, by (repeat (first | (with_reducible exact Below.refl _ _) | (with_reducible refine Below.drew ?_) | (with_reducible refine Below.bal ?_ _) | (with_reducible refine Below.setCell ?_ (by simp) _) | (with_reducible refine Below.link (by assumption) ?_)))⟩
set_option maxHeartbeats 1000000 in
set_option maxRecDepth 100000 in
theorem r4_Fits_txt (k : Int) (x : Int) (t : ByteArray) (p1 p2 p3 p4 : Option Addr) (n1 n2 n3 n4 q1 q2 q3 q4 : Nat) (w : World) (hk : Pr.txt k = true) (c4 : Hid (∀ W : World, t.size ≤ 4096 → Calls Tryd.prog 44 #[.string t] W fun e w' => e = .returned (.bool (decide (Utf.bad t.data.toList < 0))) ∧ W = w')): Calls Tryd.prog 33 #[.int .i64 k, .agg #[.int .i64 k, .int .u64 x, .string t, .slice p1 n1 q1, .slice p2 n2 q2, .slice p3 n3 q3, .slice p4 n4 q4]] w fun e w' => e = .returned (.bool (Pr.fitsB k k x t.data.toList (n1 + n2 + n3 + n4))) ∧ Below w.heap.size w w' := by
  have hE := Pr.fits_ref k x t.data.toList (n1 + n2 + n3 + n4)
  rw [if_pos hk, len_l] at hE
  have hE' := Lib.hid hE
  have c1 := Lib.hid (fun W => r4_Is k W)
  have c2 := Lib.hid (fun W => r4_lone k x t p1 p2 p3 p4 n1 n2 n3 n4 q1 q2 q3 q4 W)
  have c3 := Lib.hid (fun W => r4_texts k W)
  rw [hk] at c3
  clear hE hk
  generalize Pr.fitsB k k x t.data.toList (n1 + n2 + n3 + n4) = R at hE' ⊢
  generalize decide (n1 + n2 + n3 + n4 = 0) = bl at c2 hE'
  generalize Pr.isK k = bi at c1 hE'
  generalize decide (Utf.bad t.data.toList < 0) = bv at c4 hE'
  go_enter Tryd.func33, Tryd.ntmps33
  go_wp2_with (first
    | (go_at_call 39; (with_reducible refine (c1.out _).mono ?_); rintro e w' ⟨rfl, rfl⟩)
    | (go_at_call 42; (with_reducible refine (c2.out _).mono ?_); rintro e w1 ⟨rfl, hb1⟩; obtain ⟨hc1, hf1⟩ := bcell hb1; have hz1 := hb1.size; (try simp at hz1); (try have hx1 : w.heap.size + 1 < w1.heap.size := by omega); (try have hy1 : w.heap.size < w1.heap.size := by omega))
    | (go_at_call 43; (with_reducible refine (c3.out _).mono ?_); rintro e w' ⟨rfl, rfl⟩)
    | (go_at_call 44; (with_reducible refine (c4.out _ (by omega)).mono ?_); rintro e w' ⟨rfl, rfl⟩))
  all_goals go_ret
  all_goals refine ⟨ret_bool ?_, by (repeat (first | (with_reducible exact Below.refl _ _) | (with_reducible refine Below.drew ?_) | (with_reducible refine Below.bal ?_ _) | (with_reducible refine Below.setCell ?_ (by simp) _) | (with_reducible refine Below.link (by assumption) ?_)))⟩
  all_goals rw [hE'.out]
  all_goals (try simp only [beq_iff_eq, beq_eq_false_iff_ne, bne_iff_ne, bne_eq_false_iff_eq, ne_eq, Bool.not_eq_true] at *)
  all_goals simp_all
  all_goals (first | omega | (intros; omega) | (cases bv <;> simp_all <;> omega))
set_option maxHeartbeats 1000000 in
set_option maxRecDepth 100000 in
theorem r4_Fits_num (k : Int) (x : Int) (t : ByteArray) (p1 p2 p3 p4 : Option Addr) (n1 n2 n3 n4 q1 q2 q3 q4 : Nat) (w : World) (h0 : 0 ≤ x) (h1 : x < 18446744073709551616) (hk : Pr.txt k = false) : Calls Tryd.prog 33 #[.int .i64 k, .agg #[.int .i64 k, .int .u64 x, .string t, .slice p1 n1 q1, .slice p2 n2 q2, .slice p3 n3 q3, .slice p4 n4 q4]] w fun e w' => e = .returned (.bool (Pr.fitsB k k x t.data.toList (n1 + n2 + n3 + n4))) ∧ Below w.heap.size w w' := by
  have hE := Pr.fits_ref k x t.data.toList (n1 + n2 + n3 + n4)
  rw [if_neg (by rw [hk]; decide)] at hE
  have hE' := Lib.hid hE
  have c1 := Lib.hid (fun W => r4_Is k W)
  have c2 := Lib.hid (fun W => r4_lone k x t p1 p2 p3 p4 n1 n2 n3 n4 q1 q2 q3 q4 W)
  have c3 := Lib.hid (fun W => r4_texts k W)
  rw [hk] at c3
  clear hE hk
  have hw := Lib.hid (wrap64_u x h0 h1)
  generalize Pr.fitsB k k x t.data.toList (n1 + n2 + n3 + n4) = R at hE' ⊢
  generalize decide (n1 + n2 + n3 + n4 = 0) = bl at c2 hE'
  generalize Pr.isK k = bi at c1 hE'
  by_cases ht : t.data.toList = []
  · have ht1 : t.toList = [] := by rw [ByteArray.toList_eq]; exact ht
    rw [decide_eq_true ht] at hE'
    clear ht
    go_enter Tryd.func33, Tryd.ntmps33
    go_wp2_with (first
      | (go_at_call 39; (with_reducible refine (c1.out _).mono ?_); rintro e w' ⟨rfl, rfl⟩)
      | (go_at_call 42; (with_reducible refine (c2.out _).mono ?_); rintro e w1 ⟨rfl, hb1⟩; obtain ⟨hc1, hf1⟩ := bcell hb1; have hz1 := hb1.size; (try simp at hz1); (try have hx1 : w.heap.size + 1 < w1.heap.size := by omega); (try have hy1 : w.heap.size < w1.heap.size := by omega))
      | (go_at_call 43; (with_reducible refine (c3.out _).mono ?_); rintro e w' ⟨rfl, rfl⟩))
    all_goals go_ret
    all_goals refine ⟨ret_bool ?_, by (repeat (first | (with_reducible exact Below.refl _ _) | (with_reducible refine Below.drew ?_) | (with_reducible refine Below.bal ?_ _) | (with_reducible refine Below.setCell ?_ (by simp) _) | (with_reducible refine Below.link (by assumption) ?_)))⟩
    all_goals rw [hE'.out]
    all_goals (try simp only [beq_iff_eq, beq_eq_false_iff_ne, bne_iff_ne, bne_eq_false_iff_eq, ne_eq, Bool.not_eq_true] at *)
    all_goals (simp_all [Pr.withB])
    all_goals (have hw' := hw.out; first | omega | (rw [Bool.eq_iff_iff]; simp; split at hw' <;> omega) | (split at hw' <;> omega))
  · have ht1 : t.toList ≠ [] := by rw [ByteArray.toList_eq]; exact ht
    rw [decide_eq_false ht] at hE'
    have ht2 : t.toList.isEmpty = false := by rw [emp, decide_eq_false ht]
    clear ht
    go_enter Tryd.func33, Tryd.ntmps33
    go_wp2_with (first
      | (go_at_call 39; (with_reducible refine (c1.out _).mono ?_); rintro e w' ⟨rfl, rfl⟩)
      | (go_at_call 42; (with_reducible refine (c2.out _).mono ?_); rintro e w1 ⟨rfl, hb1⟩; obtain ⟨hc1, hf1⟩ := bcell hb1; have hz1 := hb1.size; (try simp at hz1); (try have hx1 : w.heap.size + 1 < w1.heap.size := by omega); (try have hy1 : w.heap.size < w1.heap.size := by omega))
      | (go_at_call 43; (with_reducible refine (c3.out _).mono ?_); rintro e w' ⟨rfl, rfl⟩))
    all_goals go_ret
    all_goals refine ⟨ret_bool ?_, by (repeat (first | (with_reducible exact Below.refl _ _) | (with_reducible refine Below.drew ?_) | (with_reducible refine Below.bal ?_ _) | (with_reducible refine Below.setCell ?_ (by simp) _) | (with_reducible refine Below.link (by assumption) ?_)))⟩
    all_goals rw [hE'.out]
    all_goals simp_all
end Go.Proofs.YtgbppjckehjifaaDoor
