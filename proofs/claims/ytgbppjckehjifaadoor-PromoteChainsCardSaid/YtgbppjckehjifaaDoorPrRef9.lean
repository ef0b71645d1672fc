/- The reference's Example. -/
import Derived.Test.YtgbppjckehjifaaDoorPrRef4
import Derived.Test.YtgbppjckehjifaaDoorPrProg6
namespace Go.Proofs.YtgbppjckehjifaaDoor
open Go.RowKit
set_option linter.unusedVariables false
set_option linter.unusedSimpArgs false

set_option maxHeartbeats 4000000 in
set_option maxRecDepth 100000 in
theorem r_Ex_f (f a b l ga gb nx : Int) (w : World) (c1 : Hid (∀ W : World, Calls Tryd.prog 23 #[.int .i64 f] W fun e w' => e = .returned (.bool false) ∧ W = w')) : Calls Tryd.prog 9 #[.int .i64 f, .int .i64 a, .int .i64 b] w fun e w' => e = .returned (.tuple #[.agg #[.int .i64 0, .int .u64 0, .string ⟨#[]⟩, .slice none 0 0, .slice none 0 0, .slice none 0 0, .slice none 0 0], .bool false]) ∧ Below w.heap.size w w' := by
  go_enter Tryd.func9, Tryd.ntmps9
  go_wp2_with (first
    | (go_at_call 23; (with_reducible refine (c1.out _).mono ?_); rintro e w' ⟨rfl, rfl⟩))
  exact bodyPost_ret (by simp [results, Tryd.results9, go_sem]) rfl ⟨rfl, by (repeat (first | (with_reducible exact Below.refl _ _) | (with_reducible refine Below.drew ?_) | (with_reducible refine Below.bal ?_ _) | (with_reducible refine Below.setCell ?_ (by simp) _) | (with_reducible refine Below.link (by assumption) ?_)))⟩
set_option maxHeartbeats 4000000 in
set_option maxRecDepth 100000 in
theorem r_Ex_a (f a b l ga gb nx : Int) (w : World) (c1 : Hid (∀ W : World, Calls Tryd.prog 23 #[.int .i64 f] W fun e w' => e = .returned (.bool true) ∧ W = w')) (c2 : Hid (∀ W : World, Calls Tryd.prog 24 #[.int .i64 a] W fun e w' => e = .returned (.bool false) ∧ W = w')) : Calls Tryd.prog 9 #[.int .i64 f, .int .i64 a, .int .i64 b] w fun e w' => e = .returned (.tuple #[.agg #[.int .i64 0, .int .u64 0, .string ⟨#[]⟩, .slice none 0 0, .slice none 0 0, .slice none 0 0, .slice none 0 0], .bool false]) ∧ Below w.heap.size w w' := by
  go_enter Tryd.func9, Tryd.ntmps9
  go_wp2_with (first
    | (go_at_call 23; (with_reducible refine (c1.out _).mono ?_); rintro e w' ⟨rfl, rfl⟩)
    | (go_at_call 24; (with_reducible refine (c2.out _).mono ?_); rintro e w' ⟨rfl, rfl⟩))
  exact bodyPost_ret (by simp [results, Tryd.results9, go_sem]) rfl ⟨rfl, by (repeat (first | (with_reducible exact Below.refl _ _) | (with_reducible refine Below.drew ?_) | (with_reducible refine Below.bal ?_ _) | (with_reducible refine Below.setCell ?_ (by simp) _) | (with_reducible refine Below.link (by assumption) ?_)))⟩
set_option maxHeartbeats 4000000 in
set_option maxRecDepth 100000 in
theorem r_Ex_b (f a b l ga gb nx : Int) (w : World) (c1 : Hid (∀ W : World, Calls Tryd.prog 23 #[.int .i64 f] W fun e w' => e = .returned (.bool true) ∧ W = w')) (c2 : Hid (∀ W : World, Calls Tryd.prog 24 #[.int .i64 a] W fun e w' => e = .returned (.bool true) ∧ W = w')) (c3 : Hid (∀ W : World, Calls Tryd.prog 24 #[.int .i64 b] W fun e w' => e = .returned (.bool false) ∧ W = w')) : Calls Tryd.prog 9 #[.int .i64 f, .int .i64 a, .int .i64 b] w fun e w' => e = .returned (.tuple #[.agg #[.int .i64 0, .int .u64 0, .string ⟨#[]⟩, .slice none 0 0, .slice none 0 0, .slice none 0 0, .slice none 0 0], .bool false]) ∧ Below w.heap.size w w' := by
  go_enter Tryd.func9, Tryd.ntmps9
  go_wp2_with (first
    | (go_at_call 23; (with_reducible refine (c1.out _).mono ?_); rintro e w' ⟨rfl, rfl⟩)
    | (go_at_call 24; (with_reducible refine (c2.out _).mono ?_); rintro e w' ⟨rfl, rfl⟩)
    | (go_at_call 24; (with_reducible refine (c3.out _).mono ?_); rintro e w' ⟨rfl, rfl⟩))
  exact bodyPost_ret (by simp [results, Tryd.results9, go_sem]) rfl ⟨rfl, by (repeat (first | (with_reducible exact Below.refl _ _) | (with_reducible refine Below.drew ?_) | (with_reducible refine Below.bal ?_ _) | (with_reducible refine Below.setCell ?_ (by simp) _) | (with_reducible refine Below.link (by assumption) ?_)))⟩
set_option maxHeartbeats 4000000 in
set_option maxRecDepth 100000 in
theorem r_Ex_l0 (f a b l ga gb nx : Int) (w : World) (c1 : Hid (∀ W : World, Calls Tryd.prog 23 #[.int .i64 f] W fun e w' => e = .returned (.bool true) ∧ W = w')) (c2 : Hid (∀ W : World, Calls Tryd.prog 24 #[.int .i64 a] W fun e w' => e = .returned (.bool true) ∧ W = w')) (c3 : Hid (∀ W : World, Calls Tryd.prog 24 #[.int .i64 b] W fun e w' => e = .returned (.bool true) ∧ W = w')) (c4 : Hid (∀ W : World, Calls Tryd.prog 11 #[.int .i64 f, .int .i64 a, .int .i64 b] W fun e w' => e = .returned (.int .i64 0) ∧ W = w')) (c5 : Hid (∀ W : World, Calls Tryd.prog 25 #[.int .i64 a] W fun e w' => e = .returned (.agg #[.int .i64 a, .int .u64 0, .string ⟨#[]⟩, .slice none 0 0, .slice none 0 0, .slice none 0 0, .slice none 0 0]) ∧ Below W.heap.size W w')) : Calls Tryd.prog 9 #[.int .i64 f, .int .i64 a, .int .i64 b] w fun e w' => e = .returned (.tuple #[.agg #[.int .i64 a, .int .u64 0, .string ⟨#[]⟩, .slice none 0 0, .slice none 0 0, .slice none 0 0, .slice none 0 0], .bool true]) ∧ Below w.heap.size w w' := by
  go_enter Tryd.func9, Tryd.ntmps9
  go_wp2_with (first
    | (go_at_call 23; (with_reducible refine (c1.out _).mono ?_); rintro e w' ⟨rfl, rfl⟩)
    | (go_at_call 24; (with_reducible refine (c2.out _).mono ?_); rintro e w' ⟨rfl, rfl⟩)
    | (go_at_call 24; (with_reducible refine (c3.out _).mono ?_); rintro e w' ⟨rfl, rfl⟩)
    | (go_at_call 11; (with_reducible refine (c4.out _).mono ?_); rintro e w' ⟨rfl, rfl⟩)
    | (go_at_call 25; (with_reducible refine (c5.out _).mono ?_); rintro e w1 ⟨rfl, hb1⟩; obtain ⟨hc1, hf1⟩ := bcell hb1; have hz1 := hb1.size; (try simp at hz1); (try have hx1 : w.heap.size + 1 < w1.heap.size := by omega); (try have hy1 : w.heap.size < w1.heap.size := by omega)))
  refine bodyPost_ret_by (v := .tuple #[.agg #[.int .i64 a, .int .u64 0, .string ⟨#[]⟩, .slice none 0 0, .slice none 0 0, .slice none 0 0, .slice none 0 0], .bool true]) ?hres rfl ?hpost
  case hres =>
    refine res7 (g := w.heap.size) (t := 28) Tryd.results9 rfl rfl ?_ Tryd.underlying28 rfl (by kernel_rfl)
    apply set7
    (repeat (first | exact heap_alloc_new w _ | apply block_of_below (by assumption)))
  case hpost => exact ⟨rfl, by (repeat (first | (with_reducible exact Below.refl _ _) | (with_reducible refine Below.drew ?_) | (with_reducible refine Below.bal ?_ _) | (with_reducible refine Below.setCell ?_ (by simp) _) | (with_reducible refine Below.link (by assumption) ?_)))⟩
set_option maxHeartbeats 4000000 in
set_option maxRecDepth 100000 in
theorem r_Ex_l2 (f a b l ga gb nx : Int) (w : World) (c1 : Hid (∀ W : World, Calls Tryd.prog 23 #[.int .i64 f] W fun e w' => e = .returned (.bool true) ∧ W = w')) (c2 : Hid (∀ W : World, Calls Tryd.prog 24 #[.int .i64 a] W fun e w' => e = .returned (.bool true) ∧ W = w')) (c3 : Hid (∀ W : World, Calls Tryd.prog 24 #[.int .i64 b] W fun e w' => e = .returned (.bool true) ∧ W = w')) (c4 : Hid (∀ W : World, Calls Tryd.prog 11 #[.int .i64 f, .int .i64 a, .int .i64 b] W fun e w' => e = .returned (.int .i64 2) ∧ W = w')) : Calls Tryd.prog 9 #[.int .i64 f, .int .i64 a, .int .i64 b] w fun e w' => e = .returned (.tuple #[.agg #[.int .i64 0, .int .u64 0, .string ⟨#[]⟩, .slice none 0 0, .slice none 0 0, .slice none 0 0, .slice none 0 0], .bool false]) ∧ Below w.heap.size w w' := by
  go_enter Tryd.func9, Tryd.ntmps9
  go_wp2_with (first
    | (go_at_call 23; (with_reducible refine (c1.out _).mono ?_); rintro e w' ⟨rfl, rfl⟩)
    | (go_at_call 24; (with_reducible refine (c2.out _).mono ?_); rintro e w' ⟨rfl, rfl⟩)
    | (go_at_call 24; (with_reducible refine (c3.out _).mono ?_); rintro e w' ⟨rfl, rfl⟩)
    | (go_at_call 11; (with_reducible refine (c4.out _).mono ?_); rintro e w' ⟨rfl, rfl⟩))
  exact bodyPost_ret (by simp [results, Tryd.results9, go_sem]) rfl ⟨rfl, by (repeat (first | (with_reducible exact Below.refl _ _) | (with_reducible refine Below.drew ?_) | (with_reducible refine Below.bal ?_ _) | (with_reducible refine Below.setCell ?_ (by simp) _) | (with_reducible refine Below.link (by assumption) ?_)))⟩
set_option maxHeartbeats 4000000 in
set_option maxRecDepth 100000 in
theorem r_Ex_y (f a b l ga gb nx : Int) (w : World) (c1 : Hid (∀ W : World, Calls Tryd.prog 23 #[.int .i64 f] W fun e w' => e = .returned (.bool true) ∧ W = w')) (c2 : Hid (∀ W : World, Calls Tryd.prog 24 #[.int .i64 a] W fun e w' => e = .returned (.bool true) ∧ W = w')) (c3 : Hid (∀ W : World, Calls Tryd.prog 24 #[.int .i64 b] W fun e w' => e = .returned (.bool true) ∧ W = w')) (c4 : Hid (∀ W : World, Calls Tryd.prog 11 #[.int .i64 f, .int .i64 a, .int .i64 b] W fun e w' => e = .returned (.int .i64 1) ∧ W = w')) (h8 : (a == 8) = true) : Calls Tryd.prog 9 #[.int .i64 f, .int .i64 a, .int .i64 b] w fun e w' => e = .returned (.tuple #[.agg #[.int .i64 a, .int .u64 0, .string ⟨#[255]⟩, .slice none 0 0, .slice none 0 0, .slice none 0 0, .slice none 0 0], .bool true]) ∧ Below w.heap.size w w' := by
  go_enter Tryd.func9, Tryd.ntmps9
  go_wp2_with (first
    | (go_at_call 23; (with_reducible refine (c1.out _).mono ?_); rintro e w' ⟨rfl, rfl⟩)
    | (go_at_call 24; (with_reducible refine (c2.out _).mono ?_); rintro e w' ⟨rfl, rfl⟩)
    | (go_at_call 24; (with_reducible refine (c3.out _).mono ?_); rintro e w' ⟨rfl, rfl⟩)
    | (go_at_call 11; (with_reducible refine (c4.out _).mono ?_); rintro e w' ⟨rfl, rfl⟩))
  exact bodyPost_ret (by simp [results, Tryd.results9, go_sem]) rfl ⟨rfl, by (repeat (first | (with_reducible exact Below.refl _ _) | (with_reducible refine Below.drew ?_) | (with_reducible refine Below.bal ?_ _) | (with_reducible refine Below.setCell ?_ (by simp) _) | (with_reducible refine Below.link (by assumption) ?_)))⟩
set_option maxHeartbeats 4000000 in
set_option maxRecDepth 100000 in
theorem r_Ex_g (f a b l ga gb nx : Int) (w : World) (c1 : Hid (∀ W : World, Calls Tryd.prog 23 #[.int .i64 f] W fun e w' => e = .returned (.bool true) ∧ W = w')) (c2 : Hid (∀ W : World, Calls Tryd.prog 24 #[.int .i64 a] W fun e w' => e = .returned (.bool true) ∧ W = w')) (c3 : Hid (∀ W : World, Calls Tryd.prog 24 #[.int .i64 b] W fun e w' => e = .returned (.bool true) ∧ W = w')) (c4 : Hid (∀ W : World, Calls Tryd.prog 11 #[.int .i64 f, .int .i64 a, .int .i64 b] W fun e w' => e = .returned (.int .i64 1) ∧ W = w')) (c6 : Hid (∀ W : World, Calls Tryd.prog 26 #[.int .i64 a] W fun e w' => e = .returned (.int .u64 ga) ∧ W = w')) (c7 : Hid (∀ W : World, Calls Tryd.prog 26 #[.int .i64 b] W fun e w' => e = .returned (.int .u64 gb) ∧ W = w')) (h8 : (a == 8) = false) (hg : gb < ga) (hnx : IntKind.u64.wrap (gb + 1) = nx) : Calls Tryd.prog 9 #[.int .i64 f, .int .i64 a, .int .i64 b] w fun e w' => e = .returned (.tuple #[.agg #[.int .i64 a, .int .u64 nx, .string ⟨#[]⟩, .slice none 0 0, .slice none 0 0, .slice none 0 0, .slice none 0 0], .bool true]) ∧ Below w.heap.size w w' := by
  go_enter Tryd.func9, Tryd.ntmps9
  go_wp2_with (first
    | (go_at_call 23; (with_reducible refine (c1.out _).mono ?_); rintro e w' ⟨rfl, rfl⟩)
    | (go_at_call 24; (with_reducible refine (c2.out _).mono ?_); rintro e w' ⟨rfl, rfl⟩)
    | (go_at_call 24; (with_reducible refine (c3.out _).mono ?_); rintro e w' ⟨rfl, rfl⟩)
    | (go_at_call 11; (with_reducible refine (c4.out _).mono ?_); rintro e w' ⟨rfl, rfl⟩)
    | (go_at_call 26; (with_reducible refine (c6.out _).mono ?_); rintro e w' ⟨rfl, rfl⟩)
    | (go_at_call 26; (with_reducible refine (c7.out _).mono ?_); rintro e w' ⟨rfl, rfl⟩))
  exact bodyPost_ret (by simp [results, Tryd.results9, go_sem]) rfl ⟨rfl, by (repeat (first | (with_reducible exact Below.refl _ _) | (with_reducible refine Below.drew ?_) | (with_reducible refine Below.bal ?_ _) | (with_reducible refine Below.setCell ?_ (by simp) _) | (with_reducible refine Below.link (by assumption) ?_)))⟩
set_option maxHeartbeats 4000000 in
set_option maxRecDepth 100000 in
theorem r_Ex_m (f a b l ga gb nx : Int) (w : World) (c1 : Hid (∀ W : World, Calls Tryd.prog 23 #[.int .i64 f] W fun e w' => e = .returned (.bool true) ∧ W = w')) (c2 : Hid (∀ W : World, Calls Tryd.prog 24 #[.int .i64 a] W fun e w' => e = .returned (.bool true) ∧ W = w')) (c3 : Hid (∀ W : World, Calls Tryd.prog 24 #[.int .i64 b] W fun e w' => e = .returned (.bool true) ∧ W = w')) (c4 : Hid (∀ W : World, Calls Tryd.prog 11 #[.int .i64 f, .int .i64 a, .int .i64 b] W fun e w' => e = .returned (.int .i64 1) ∧ W = w')) (c6 : Hid (∀ W : World, Calls Tryd.prog 26 #[.int .i64 a] W fun e w' => e = .returned (.int .u64 ga) ∧ W = w')) (c7 : Hid (∀ W : World, Calls Tryd.prog 26 #[.int .i64 b] W fun e w' => e = .returned (.int .u64 gb) ∧ W = w')) (h8 : (a == 8) = false) (hg : ga ≤ gb) : Calls Tryd.prog 9 #[.int .i64 f, .int .i64 a, .int .i64 b] w fun e w' => e = .returned (.tuple #[.agg #[.int .i64 a, .int .u64 18446744073709551615, .string ⟨#[]⟩, .slice none 0 0, .slice none 0 0, .slice none 0 0, .slice none 0 0], .bool true]) ∧ Below w.heap.size w w' := by
  go_enter Tryd.func9, Tryd.ntmps9
  go_wp2_with (first
    | (go_at_call 23; (with_reducible refine (c1.out _).mono ?_); rintro e w' ⟨rfl, rfl⟩)
    | (go_at_call 24; (with_reducible refine (c2.out _).mono ?_); rintro e w' ⟨rfl, rfl⟩)
    | (go_at_call 24; (with_reducible refine (c3.out _).mono ?_); rintro e w' ⟨rfl, rfl⟩)
    | (go_at_call 11; (with_reducible refine (c4.out _).mono ?_); rintro e w' ⟨rfl, rfl⟩)
    | (go_at_call 26; (with_reducible refine (c6.out _).mono ?_); rintro e w' ⟨rfl, rfl⟩)
    | (go_at_call 26; (with_reducible refine (c7.out _).mono ?_); rintro e w' ⟨rfl, rfl⟩))
  exact bodyPost_ret (by simp [results, Tryd.results9, go_sem]) rfl ⟨rfl, by (repeat (first | (with_reducible exact Below.refl _ _) | (with_reducible refine Below.drew ?_) | (with_reducible refine Below.bal ?_ _) | (with_reducible refine Below.setCell ?_ (by simp) _) | (with_reducible refine Below.link (by assumption) ?_)))⟩
theorem r_Example (f a b : Int) (w : World) : Calls Tryd.prog 9 #[.int .i64 f, .int .i64 a, .int .i64 b] w fun e w' => e = .returned (exV (Pr.exam f a b)) ∧ Below w.heap.size w w' := by
  have c1 := Lib.hid (fun W => r_isF f W)
  have c2 := Lib.hid (fun W => r_isK a W)
  have c3 := Lib.hid (fun W => r_isK b W)
  have c4 := Lib.hid (fun W => r_Level f a b W)
  have c6 := Lib.hid (fun W => r_great a W)
  have c7 := Lib.hid (fun W => r_great b W)
  have ends : ∀ {q : Int × Int × List UInt8 × Bool} {v : Value}, exV q = v → Calls Tryd.prog 9 #[.int .i64 f, .int .i64 a, .int .i64 b] w (fun e w' => e = .returned v ∧ Below w.heap.size w w') → Calls Tryd.prog 9 #[.int .i64 f, .int .i64 a, .int .i64 b] w fun e w' => e = .returned (exV q) ∧ Below w.heap.size w w' :=
    fun h k => by rw [h]; exact k
  rw [← Pr.examR_eq]
  unfold Pr.examR
  cases hf : Pr.isF f
  · rw [hf] at c1
    rw [if_pos (.inl rfl)]
    exact ends rfl (r_Ex_f f a b 0 0 0 0 w c1)
  · rw [hf] at c1
    cases ha : Pr.isK a
    · rw [ha] at c2
      rw [if_pos (.inr (.inl rfl))]
      exact ends rfl (r_Ex_a f a b 0 0 0 0 w c1 c2)
    · rw [ha] at c2
      cases hb : Pr.isK b
      · rw [hb] at c3
        rw [if_pos (.inr (.inr rfl))]
        exact ends rfl (r_Ex_b f a b 0 0 0 0 w c1 c2 c3)
      · rw [hb] at c3
        have c5 := Lib.hid (fun W => r4_Zero a W ha)
        rw [if_neg (by simp)]
        by_cases h0 : Pr.lev f a b = 0
        · rw [h0] at c4
          rw [if_pos h0]
          exact ends rfl (r_Ex_l0 f a b 0 0 0 0 w c1 c2 c3 c4 c5)
        · rw [if_neg h0]
          by_cases h2 : Pr.lev f a b = 2
          · rw [h2] at c4
            rw [if_pos h2]
            exact ends rfl (r_Ex_l2 f a b 0 0 0 0 w c1 c2 c3 c4)
          · rw [if_neg h2]
            have h1 : Pr.lev f a b = 1 := by
              have : Pr.lev f a b = 0 ∨ Pr.lev f a b = 1 ∨ Pr.lev f a b = 2 := by
                unfold Pr.lev
                (repeat' split) <;> simp
              omega
            rw [h1] at c4
            by_cases h8 : a = 8
            · rw [if_pos h8]
              exact ends rfl (r_Ex_y f a b 0 0 0 0 w c1 c2 c3 c4 (beq_iff_eq.2 h8))
            · rw [if_neg h8]
              have h8' : (a == 8) = false := beq_eq_false_iff_ne.2 h8
              by_cases hg : Pr.great b < Pr.great a
              · rw [if_pos hg]
                have hw : IntKind.u64.wrap (Pr.great b + 1) = Pr.great b + 1 := by
                  rcases Pr.isK_true ha with rfl | rfl | rfl | rfl | rfl | rfl | rfl | rfl | rfl <;> rcases Pr.isK_true hb with rfl | rfl | rfl | rfl | rfl | rfl | rfl | rfl | rfl <;> first | rfl | (exfalso; revert hg; decide)
                exact ends rfl (r_Ex_g f a b 0 _ _ _ w c1 c2 c3 c4 c6 c7 h8' hg hw)
              · rw [if_neg hg]
                exact ends rfl (r_Ex_m f a b 0 _ _ 0 w c1 c2 c3 c4 c6 c7 h8' (by omega))
end Go.Proofs.YtgbppjckehjifaaDoor
