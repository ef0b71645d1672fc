/- Contracts of the reference's functions that promote's laws reach. -/
import Derived.Test.YtgbppjckehjifaaDoorPrProg1
import Derived.Test.YtgbppjckehjifaaDoorUtfRef2
namespace Go.Proofs.YtgbppjckehjifaaDoor
open Go.RowKit
set_option linter.unusedVariables false
set_option linter.unusedSimpArgs false

set_option maxHeartbeats 1000000 in
set_option maxRecDepth 100000 in
theorem r_isF (k : Int) (w : World) : Calls Tryd.prog 23 #[.int .i64 k] w fun e w' => e = .returned (.bool (Pr.isF k)) ∧ w = w' := by
  go_enter Tryd.func23, Tryd.ntmps23
  go_wp2
  all_goals go_ret
  all_goals exact ⟨ret_bool (by rw [Bool.eq_iff_iff]; simp [Pr.isF] at *; try omega), rfl⟩
set_option maxHeartbeats 1000000 in
set_option maxRecDepth 100000 in
theorem r_isK (k : Int) (w : World) : Calls Tryd.prog 24 #[.int .i64 k] w fun e w' => e = .returned (.bool (Pr.isK k)) ∧ w = w' := by
  go_enter Tryd.func24, Tryd.ntmps24
  go_wp2
  all_goals go_ret
  all_goals exact ⟨ret_bool (by rw [Bool.eq_iff_iff]; simp [Pr.isK] at *; try omega), rfl⟩
set_option maxHeartbeats 1000000 in
set_option maxRecDepth 100000 in
theorem r_sgn (k : Int) (w : World) : Calls Tryd.prog 35 #[.int .i64 k] w fun e w' => e = .returned (.bool (Pr.sgn k)) ∧ w = w' := by
  go_enter Tryd.func35, Tryd.ntmps35
  go_wp2
  all_goals go_ret
  all_goals exact ⟨ret_bool (by rw [Bool.eq_iff_iff]; simp [Pr.sgn] at *; try omega), rfl⟩
set_option maxHeartbeats 1000000 in
set_option maxRecDepth 100000 in
theorem r4_Is (k : Int) (w : World) : Calls Tryd.prog 39 #[.int .i64 k] w fun e w' => e = .returned (.bool (Pr.isK k)) ∧ w = w' := by
  go_enter Tryd.func39, Tryd.ntmps39
  go_wp2
  all_goals go_ret
  all_goals exact ⟨ret_bool (by rw [Bool.eq_iff_iff]; simp [Pr.isK] at *; try omega), rfl⟩
set_option maxHeartbeats 1000000 in
set_option maxRecDepth 100000 in
theorem r4_texts (k : Int) (w : World) : Calls Tryd.prog 43 #[.int .i64 k] w fun e w' => e = .returned (.bool (Pr.txt k)) ∧ w = w' := by
  go_enter Tryd.func43, Tryd.ntmps43
  go_wp2
  all_goals go_ret
  all_goals exact ⟨ret_bool (by rw [Bool.eq_iff_iff]; simp [Pr.txt] at *; try omega), rfl⟩
set_option maxHeartbeats 1000000 in
set_option maxRecDepth 100000 in
theorem r_int (k : Int) (w : World) : Calls Tryd.prog 30 #[.int .i64 k] w fun e w' => e = .returned (.bool (decide (k = 2 ∨ k = 3 ∨ k = 4 ∨ k = 5))) ∧ w = w' := by
  go_enter Tryd.func30, Tryd.ntmps30
  go_wp2
  all_goals go_ret
  all_goals exact ⟨ret_bool (by rw [Bool.eq_iff_iff]; simp at *; try omega), rfl⟩
set_option maxHeartbeats 1000000 in
set_option maxRecDepth 100000 in
theorem r_great (k : Int) (w : World) : Calls Tryd.prog 26 #[.int .i64 k] w fun e w' => e = .returned (.int .u64 (Pr.great k)) ∧ w = w' := by
  go_enter Tryd.func26, Tryd.ntmps26
  go_wp2
  all_goals go_ret
  all_goals exact ⟨ret_int (by simp only [beq_iff_eq, beq_eq_false_iff_ne, ne_eq] at *; simp [Pr.great, *]), rfl⟩
set_option maxHeartbeats 1000000 in
set_option maxRecDepth 100000 in
theorem r_within (a b : Int) (w : World) : Calls Tryd.prog 29 #[.int .i64 a, .int .i64 b] w fun e w' => e = .returned (.bool (Pr.inR a b)) ∧ w = w' := by
  have hv := Lib.hid (show Pr.inR a b = decide (Pr.great a ≤ Pr.great b ∧ (Pr.sgn a = false ∨ Pr.sgn b = true)) from rfl)
  have c1 := Lib.hid (fun W => r_great a W)
  have c2 := Lib.hid (fun W => r_great b W)
  have c3 := Lib.hid (fun W => r_sgn a W)
  have c4 := Lib.hid (fun W => r_sgn b W)
  generalize Pr.inR a b = R at hv ⊢
  generalize Pr.great a = ga at c1 hv
  generalize Pr.great b = gb at c2 hv
  generalize Pr.sgn a = sa at c3 hv
  generalize Pr.sgn b = sb at c4 hv
  go_enter Tryd.func29, Tryd.ntmps29
  go_wp2_with (first
    | (go_at_call 26; (with_reducible refine (c1.out _).mono ?_); rintro e w' ⟨rfl, rfl⟩)
    | (go_at_call 26; (with_reducible refine (c2.out _).mono ?_); rintro e w' ⟨rfl, rfl⟩)
    | (go_at_call 35; (with_reducible refine (c3.out _).mono ?_); rintro e w' ⟨rfl, rfl⟩)
    | (go_at_call 35; (with_reducible refine (c4.out _).mono ?_); rintro e w' ⟨rfl, rfl⟩))
  all_goals go_ret
  all_goals refine ⟨ret_bool ?_, rfl⟩
  all_goals rw [hv.out, Bool.eq_iff_iff]
  all_goals (simp_all; try omega)
set_option maxHeartbeats 1000000 in
set_option maxRecDepth 100000 in
theorem r_Family (f k : Int) (w : World) : Calls Tryd.prog 13 #[.int .i64 f, .int .i64 k] w fun e w' => e = .returned (.int .i64 (Pr.fam f k)) ∧ w = w' := by
  rw [← Pr.famR_eq]
  have hv := Lib.hid (show Pr.famR f k = (if Pr.isF f = false ∨ Pr.isK k = false then 0
  else if k = 8 ∧ f ≠ 4 then 7
  else if f = 1 then (if k = 4 ∨ k = 5 ∨ k = 9 then 1 else if k = 3 then 2 else k)
  else if (k = 2 ∨ k = 3 ∨ k = 4 ∨ k = 5) ∨ (k = 9 ∧ f = 2) then 2 else k) from rfl)
  have c1 := Lib.hid (fun W => r_isF f W)
  have c2 := Lib.hid (fun W => r_isK k W)
  generalize Pr.famR f k = R at hv ⊢
  generalize Pr.isF f = bf at c1 hv
  generalize Pr.isK k = bk at c2 hv
  go_enter Tryd.func13, Tryd.ntmps13
  go_wp2_with (first
    | (go_at_call 23; (with_reducible refine (c1.out _).mono ?_); rintro e w' ⟨rfl, rfl⟩)
    | (go_at_call 24; (with_reducible refine (c2.out _).mono ?_); rintro e w' ⟨rfl, rfl⟩)
    | (go_at_call 30; (with_reducible refine (r_int _ _).mono ?_); rintro e w' ⟨rfl, rfl⟩))
  all_goals go_ret
  all_goals refine ⟨ret_int ?_, rfl⟩
  all_goals rw [hv.out]
  all_goals (simp only [beq_iff_eq, beq_eq_false_iff_ne, bne_iff_ne, bne_eq_false_iff_eq, ne_eq, Bool.not_eq_true] at *)
  all_goals simp_all
end Go.Proofs.YtgbppjckehjifaaDoor
