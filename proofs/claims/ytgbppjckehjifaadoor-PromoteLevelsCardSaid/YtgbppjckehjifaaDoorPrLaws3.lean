/- The law PromoteLevels, walked. -/
import Derived.Test.YtgbppjckehjifaaDoorPrLaws2
namespace Go.Proofs.YtgbppjckehjifaaDoor
open Go.RowKit
set_option linter.unusedVariables false
set_option linter.unusedSimpArgs false

set_option maxHeartbeats 4000000 in
set_option maxRecDepth 100000 in
theorem law_Levels (f a b : Int) (w : World) (hT : Tab w) : Calls Tryd.prog 3 #[.int .i64 f, .int .i64 a, .int .i64 b] w fun e w' => e = .returned (.bool true) ∧ Below w.heap.size w w' := by
  have hT' := Lib.hid hT
  clear hT
  obtain ⟨q, hq⟩ : ∃ q, Pr.exam f a b = q := ⟨_, rfl⟩
  obtain ⟨K, X, T, ok⟩ := q
  have d1 : ∀ W, Tab W → Calls Tryd.prog 8 #[.int .i64 f, .int .i64 a, .int .i64 b] W fun e w' => e = .returned (.tuple #[.agg #[.int .i64 K, .int .u64 X, .string (S T), .slice none 0 0, .slice none 0 0, .slice none 0 0, .slice none 0 0], .bool ok]) ∧ Below W.heap.size W w' := fun W h => by
    have := pr_Example f a b W h
    rw [hq] at this
    exact this
  have d2 : ∀ W : World, Calls Tryd.prog 9 #[.int .i64 f, .int .i64 a, .int .i64 b] W fun e w' => e = .returned (.tuple #[.agg #[.int .i64 K, .int .u64 X, .string (S T), .slice none 0 0, .slice none 0 0, .slice none 0 0, .slice none 0 0], .bool ok]) ∧ Below W.heap.size W w' := fun W => by
    have := r_Example f a b W
    rw [hq] at this
    exact this
  have c1 := Lib.hid d1
  have c2 := Lib.hid d2
  have c3 := Lib.hid (fun W h => pr_Level f a b W h)
  have c4 := Lib.hid (fun W => r_Level f a b W)
  have c5 := Lib.hid (fun W h => pr_Family f a W h)
  have c6 := Lib.hid (fun W => r_Family f a W)
  have c7 := Lib.hid (fun W => law_same K X (S T) none none none none 0 0 0 0 0 0 0 0 W rfl)
  have c8 := Lib.hid (fun W h => law_awake W h)
  clear d1 d2 hq
  generalize Pr.lev f a b = L at c3 c4
  generalize Pr.fam f a = F at c5 c6
  go_enter Tryd.func3, Tryd.ntmps3
  go_wp2_with (first
    | (go_at_call 8; (with_reducible refine (c1.out _ ?_).mono ?_); (refine hT'.out.below ?_; (repeat (first | (with_reducible exact Below.refl _ _) | (with_reducible refine Below.drew ?_) | (with_reducible refine Below.bal ?_ _) | (with_reducible refine Below.setCell ?_ (by simp) _) | (with_reducible refine Below.link (by assumption) ?_)))); rintro e w1 ⟨rfl, hb1⟩; obtain ⟨hc1, hf1⟩ := bcell hb1; have hz1 := hb1.size; (try simp at hz1); (try have hy1 : w.heap.size < w1.heap.size := by omega); (try have hx1 : w.heap.size + 1 < w1.heap.size := by omega); (try have hu1 : w.heap.size + 2 < w1.heap.size := by omega))
    | (go_at_call 9; (with_reducible refine (c2.out _).mono ?_); rintro e w2 ⟨rfl, hb2⟩; obtain ⟨hc2, hf2⟩ := bcell hb2; have hz2 := hb2.size; (try simp at hz2); (try have hy2 : w.heap.size < w2.heap.size := by omega); (try have hx2 : w.heap.size + 1 < w2.heap.size := by omega); (try have hu2 : w.heap.size + 2 < w2.heap.size := by omega); (try have hs12 : w1.heap.size < w2.heap.size := by omega))
    | (go_at_call 10; (with_reducible refine (c3.out _ ?_).mono ?_); (refine hT'.out.below ?_; (repeat (first | (with_reducible exact Below.refl _ _) | (with_reducible refine Below.drew ?_) | (with_reducible refine Below.bal ?_ _) | (with_reducible refine Below.setCell ?_ (by simp) _) | (with_reducible refine Below.link (by assumption) ?_)))); rintro e w3 ⟨rfl, hb3⟩; obtain ⟨hc3, hf3⟩ := bcell hb3; have hz3 := hb3.size; (try simp at hz3); (try have hy3 : w.heap.size < w3.heap.size := by omega); (try have hx3 : w.heap.size + 1 < w3.heap.size := by omega); (try have hu3 : w.heap.size + 2 < w3.heap.size := by omega); (try have hs13 : w1.heap.size < w3.heap.size := by omega); (try have hs23 : w2.heap.size < w3.heap.size := by omega))
    | (go_at_call 11; (with_reducible refine (c4.out _).mono ?_); rintro e w' ⟨rfl, rfl⟩)
    | (go_at_call 12; (with_reducible refine (c5.out _ ?_).mono ?_); (refine hT'.out.below ?_; (repeat (first | (with_reducible exact Below.refl _ _) | (with_reducible refine Below.drew ?_) | (with_reducible refine Below.bal ?_ _) | (with_reducible refine Below.setCell ?_ (by simp) _) | (with_reducible refine Below.link (by assumption) ?_)))); rintro e w' ⟨rfl, rfl⟩)
    | (go_at_call 13; (with_reducible refine (c6.out _).mono ?_); rintro e w' ⟨rfl, rfl⟩)
    | (go_at_call 14; (with_reducible refine (c7.out _).mono ?_); rintro e w4 ⟨rfl, hb4⟩; obtain ⟨hc4, hf4⟩ := bcell hb4; have hz4 := hb4.size; (try simp at hz4); (try have hy4 : w.heap.size < w4.heap.size := by omega); (try have hx4 : w.heap.size + 1 < w4.heap.size := by omega); (try have hu4 : w.heap.size + 2 < w4.heap.size := by omega); (try have hs14 : w1.heap.size < w4.heap.size := by omega); (try have hs24 : w2.heap.size < w4.heap.size := by omega); (try have hs34 : w3.heap.size < w4.heap.size := by omega))
    | (go_at_call 15; (with_reducible refine (c8.out _ ?_).mono ?_); (refine hT'.out.below ?_; (repeat (first | (with_reducible exact Below.refl _ _) | (with_reducible refine Below.drew ?_) | (with_reducible refine Below.bal ?_ _) | (with_reducible refine Below.setCell ?_ (by simp) _) | (with_reducible refine Below.link (by assumption) ?_)))); rintro e w5 ⟨rfl, hb5⟩; obtain ⟨hc5, hf5⟩ := bcell hb5; have hz5 := hb5.size; (try simp at hz5); (try have hy5 : w.heap.size < w5.heap.size := by omega); (try have hx5 : w.heap.size + 1 < w5.heap.size := by omega); (try have hu5 : w.heap.size + 2 < w5.heap.size := by omega); (try have hs15 : w1.heap.size < w5.heap.size := by omega); (try have hs25 : w2.heap.size < w5.heap.size := by omega); (try have hs35 : w3.heap.size < w5.heap.size := by omega); (try have hs45 : w4.heap.size < w5.heap.size := by omega)))
  go_ret
  exact ⟨rfl, by (repeat (first | (with_reducible exact Below.refl _ _) | (with_reducible refine Below.drew ?_) | (with_reducible refine Below.bal ?_ _) | (with_reducible refine Below.setCell ?_ (by simp) _) | (with_reducible refine Below.link (by assumption) ?_)))⟩
end Go.Proofs.YtgbppjckehjifaaDoor
