/- awake of layer 29's laws. -/
import Derived.Test.YtgbppjckehjifaaDoorPrLaws1
namespace Go.Proofs.YtgbppjckehjifaaDoor
open Go.RowKit
set_option linter.unusedVariables false
set_option linter.unusedSimpArgs false

theorem aw1 (W : World) (h : Tab W) : Calls Tryd.prog 8 #[.int .i64 2, .int .i64 3, .int .i64 2] W fun e w' => e = .returned (.tuple #[.agg #[.int .i64 3, .int .u64 2147483648, .string ⟨#[]⟩, .slice none 0 0, .slice none 0 0, .slice none 0 0, .slice none 0 0], .bool true]) ∧ Below W.heap.size W w' := pr_Example 2 3 2 W h
theorem aw2 (W : World) (h : Tab W) : Calls Tryd.prog 16 #[.int .i64 2, .int .i64 3, .int .i64 2, .agg #[.int .i64 3, .int .u64 2147483648, .string ⟨#[]⟩, .slice none 0 0, .slice none 0 0, .slice none 0 0, .slice none 0 0]] W fun e w' => e = .returned (.tuple #[.agg #[.int .i64 0, .int .u64 0, .string ⟨#[]⟩, .slice none 0 0, .slice none 0 0, .slice none 0 0, .slice none 0 0], .int .i64 6]) ∧ Below W.heap.size W w' := pr_Turn 2 3 2 3 2147483648 ⟨#[]⟩ none none none none 0 0 0 0 0 0 0 0 W (by decide) (by decide) (by decide) (by decide) (by decide) (by decide) h
theorem aw3 (W : World) (h : Tab W) : Calls Tryd.prog 16 #[.int .i64 2, .int .i64 3, .int .i64 2, .agg #[.int .i64 3, .int .u64 7, .string ⟨#[]⟩, .slice none 0 0, .slice none 0 0, .slice none 0 0, .slice none 0 0]] W fun e w' => e = .returned (.tuple #[.agg #[.int .i64 2, .int .u64 7, .string ⟨#[]⟩, .slice none 0 0, .slice none 0 0, .slice none 0 0, .slice none 0 0], .int .i64 0]) ∧ Below W.heap.size W w' := pr_Turn 2 3 2 3 7 ⟨#[]⟩ none none none none 0 0 0 0 0 0 0 0 W (by decide) (by decide) (by decide) (by decide) (by decide) (by decide) h
theorem aw4 (W : World) (h : Tab W) : Calls Tryd.prog 10 #[.int .i64 2, .int .i64 2, .int .i64 3] W fun e w' => e = .returned (.int .i64 2) ∧ Below W.heap.size W w' := pr_Level 2 2 3 W h
set_option maxHeartbeats 1000000 in
set_option maxRecDepth 100000 in
theorem law_awake (w : World) (hT : Tab w) : Calls Tryd.prog 15 #[] w fun e w' => e = .returned (.bool true) ∧ Below w.heap.size w w' := by
  have hT' := Lib.hid hT
  clear hT
  have c1 := Lib.hid aw1
  have c2 := Lib.hid aw2
  have c3 := Lib.hid aw3
  have c4 := Lib.hid aw4
  go_enter Tryd.func15, Tryd.ntmps15
  go_wp2_with (first
    | (go_at_call 8; (with_reducible refine (c1.out _ ?_).mono ?_); (refine hT'.out.below ?_; (repeat (first | (with_reducible exact Below.refl _ _) | (with_reducible refine Below.drew ?_) | (with_reducible refine Below.bal ?_ _) | (with_reducible refine Below.setCell ?_ (by simp) _) | (with_reducible refine Below.link (by assumption) ?_)))); rintro e w1 ⟨rfl, hb1⟩; obtain ⟨hc1, hf1⟩ := bcell hb1; have hz1 := hb1.size; (try simp at hz1); (try have hy1 : w.heap.size < w1.heap.size := by omega); (try have hx1 : w.heap.size + 1 < w1.heap.size := by omega); (try have hu1 : w.heap.size + 2 < w1.heap.size := by omega))
    | (go_at_call 16; (with_reducible refine (c2.out _ ?_).mono ?_); (refine hT'.out.below ?_; (repeat (first | (with_reducible exact Below.refl _ _) | (with_reducible refine Below.drew ?_) | (with_reducible refine Below.bal ?_ _) | (with_reducible refine Below.setCell ?_ (by simp) _) | (with_reducible refine Below.link (by assumption) ?_)))); rintro e w2 ⟨rfl, hb2⟩; obtain ⟨hc2, hf2⟩ := bcell hb2; have hz2 := hb2.size; (try simp at hz2); (try have hy2 : w.heap.size < w2.heap.size := by omega); (try have hx2 : w.heap.size + 1 < w2.heap.size := by omega); (try have hu2 : w.heap.size + 2 < w2.heap.size := by omega); (try have hs12 : w1.heap.size < w2.heap.size := by omega))
    | (go_at_call 16; (with_reducible refine (c3.out _ ?_).mono ?_); (refine hT'.out.below ?_; (repeat (first | (with_reducible exact Below.refl _ _) | (with_reducible refine Below.drew ?_) | (with_reducible refine Below.bal ?_ _) | (with_reducible refine Below.setCell ?_ (by simp) _) | (with_reducible refine Below.link (by assumption) ?_)))); rintro e w3 ⟨rfl, hb3⟩; obtain ⟨hc3, hf3⟩ := bcell hb3; have hz3 := hb3.size; (try simp at hz3); (try have hy3 : w.heap.size < w3.heap.size := by omega); (try have hx3 : w.heap.size + 1 < w3.heap.size := by omega); (try have hu3 : w.heap.size + 2 < w3.heap.size := by omega); (try have hs13 : w1.heap.size < w3.heap.size := by omega); (try have hs23 : w2.heap.size < w3.heap.size := by omega))
    | (go_at_call 10; (with_reducible refine (c4.out _ ?_).mono ?_); (refine hT'.out.below ?_; (repeat (first | (with_reducible exact Below.refl _ _) | (with_reducible refine Below.drew ?_) | (with_reducible refine Below.bal ?_ _) | (with_reducible refine Below.setCell ?_ (by simp) _) | (with_reducible refine Below.link (by assumption) ?_)))); rintro e w4 ⟨rfl, hb4⟩; obtain ⟨hc4, hf4⟩ := bcell hb4; have hz4 := hb4.size; (try simp at hz4); (try have hy4 : w.heap.size < w4.heap.size := by omega); (try have hx4 : w.heap.size + 1 < w4.heap.size := by omega); (try have hu4 : w.heap.size + 2 < w4.heap.size := by omega); (try have hs14 : w1.heap.size < w4.heap.size := by omega); (try have hs24 : w2.heap.size < w4.heap.size := by omega); (try have hs34 : w3.heap.size < w4.heap.size := by omega)))
  go_ret
  exact ⟨rfl, by (repeat (first | (with_reducible exact Below.refl _ _) | (with_reducible refine Below.drew ?_) | (with_reducible refine Below.bal ?_ _) | (with_reducible refine Below.setCell ?_ (by simp) _) | (with_reducible refine Below.link (by assumption) ?_)))⟩
end Go.Proofs.YtgbppjckehjifaaDoor
