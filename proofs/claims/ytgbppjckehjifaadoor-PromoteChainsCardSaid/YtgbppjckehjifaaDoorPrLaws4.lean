/- The law PromoteTurns, walked. -/
import Derived.Test.YtgbppjckehjifaaDoorPrLaws2
namespace Go.Proofs.YtgbppjckehjifaaDoor
open Go.RowKit
set_option linter.unusedVariables false
set_option linter.unusedSimpArgs false

/-- what a conversion returns, by letters -/
theorem tupV_at (e b y : Int) (t : ByteArray) : ∃ (K X : Int) (T : ByteArray) (E : Int), tupV e b y t = .tuple #[.agg #[.int .i64 K, .int .u64 X, .string T, .slice none 0 0, .slice none 0 0, .slice none 0 0, .slice none 0 0], .int .i64 E] := by
  unfold tupV
  split
  · exact ⟨_, _, _, _, rfl⟩
  · exact ⟨_, _, _, _, rfl⟩
set_option maxHeartbeats 4000000 in
set_option maxRecDepth 100000 in
theorem law_Turns (f a b : Int) (k x : Int) (t : ByteArray) (p1 p2 p3 p4 : Option Addr) (n1 n2 n3 n4 q1 q2 q3 q4 : Nat) (w : World) (h0 : 0 ≤ x) (h1 : x < 18446744073709551616) (b1 : n1 ≤ 140737488355328) (b2 : n2 ≤ 140737488355328) (b3 : n3 ≤ 140737488355328) (b4 : n4 ≤ 140737488355328) (hT : Tab w) : Calls Tryd.prog 4 #[.agg #[.int .i64 f, .int .i64 a, .int .i64 b], .agg #[.int .i64 k, .int .u64 x, .string t, .slice p1 n1 q1, .slice p2 n2 q2, .slice p3 n3 q3, .slice p4 n4 q4]] w fun e w' => e = .returned (.bool true) ∧ Below w.heap.size w w' := by
  have hT' := Lib.hid hT
  clear hT
  obtain ⟨K, X, T, E, hq⟩ := tupV_at (Pr.turnE f a b k x t.data.toList (n1 + n2 + n3 + n4)) b (Pr.normB b x) t
  have d1 : ∀ W, Tab W → Calls Tryd.prog 16 #[.int .i64 f, .int .i64 a, .int .i64 b, .agg #[.int .i64 k, .int .u64 x, .string t, .slice p1 n1 q1, .slice p2 n2 q2, .slice p3 n3 q3, .slice p4 n4 q4]] W fun e w' => e = .returned (.tuple #[.agg #[.int .i64 K, .int .u64 X, .string T, .slice none 0 0, .slice none 0 0, .slice none 0 0, .slice none 0 0], .int .i64 E]) ∧ Below W.heap.size W w' := fun W h => by
    have := pr_Turn f a b k x t p1 p2 p3 p4 n1 n2 n3 n4 q1 q2 q3 q4 W h0 h1 b1 b2 b3 b4 h
    rw [hq] at this
    exact this
  have d2 : ∀ W : World, Calls Tryd.prog 17 #[.int .i64 f, .int .i64 a, .int .i64 b, .agg #[.int .i64 k, .int .u64 x, .string t, .slice p1 n1 q1, .slice p2 n2 q2, .slice p3 n3 q3, .slice p4 n4 q4]] W fun e w' => e = .returned (.tuple #[.agg #[.int .i64 K, .int .u64 X, .string T, .slice none 0 0, .slice none 0 0, .slice none 0 0, .slice none 0 0], .int .i64 E]) ∧ Below W.heap.size W w' := fun W => by
    have := r_Turn f a b k x t p1 p2 p3 p4 n1 n2 n3 n4 q1 q2 q3 q4 W h0 h1 b1 b2 b3 b4
    rw [hq] at this
    exact this
  have c1 := Lib.hid d1
  have c2 := Lib.hid d2
  have c7 := Lib.hid (fun W => law_same K X T none none none none 0 0 0 0 0 0 0 0 W rfl)
  have c8 := Lib.hid (fun W h => law_awake W h)
  clear d1 d2 hq h0 h1
  go_enter Tryd.func4, Tryd.ntmps4
  go_wp2_with (first
    | (go_at_call 16; (with_reducible refine (c1.out _ ?_).mono ?_); (refine hT'.out.below ?_; (repeat (first | (with_reducible exact Below.refl _ _) | (with_reducible refine Below.drew ?_) | (with_reducible refine Below.bal ?_ _) | (with_reducible refine Below.setCell ?_ (by simp) _) | (with_reducible refine Below.link (by assumption) ?_)))); rintro e w1 ⟨rfl, hb1⟩; obtain ⟨hc1, hf1⟩ := bcell hb1; have hz1 := hb1.size; (try simp at hz1); (try have hy1 : w.heap.size < w1.heap.size := by omega); (try have hx1 : w.heap.size + 1 < w1.heap.size := by omega); (try have hu1 : w.heap.size + 2 < w1.heap.size := by omega))
    | (go_at_call 17; (with_reducible refine (c2.out _).mono ?_); rintro e w2 ⟨rfl, hb2⟩; obtain ⟨hc2, hf2⟩ := bcell hb2; have hz2 := hb2.size; (try simp at hz2); (try have hy2 : w.heap.size < w2.heap.size := by omega); (try have hx2 : w.heap.size + 1 < w2.heap.size := by omega); (try have hu2 : w.heap.size + 2 < w2.heap.size := by omega); (try have hs12 : w1.heap.size < w2.heap.size := by omega))
    | (go_at_call 14; (with_reducible refine (c7.out _).mono ?_); rintro e w4 ⟨rfl, hb4⟩; obtain ⟨hc4, hf4⟩ := bcell hb4; have hz4 := hb4.size; (try simp at hz4); (try have hy4 : w.heap.size < w4.heap.size := by omega); (try have hx4 : w.heap.size + 1 < w4.heap.size := by omega); (try have hu4 : w.heap.size + 2 < w4.heap.size := by omega); (try have hs14 : w1.heap.size < w4.heap.size := by omega); (try have hs24 : w2.heap.size < w4.heap.size := by omega); (try have hs34 : w3.heap.size < w4.heap.size := by omega))
    | (go_at_call 15; (with_reducible refine (c8.out _ ?_).mono ?_); (refine hT'.out.below ?_; (repeat (first | (with_reducible exact Below.refl _ _) | (with_reducible refine Below.drew ?_) | (with_reducible refine Below.bal ?_ _) | (with_reducible refine Below.setCell ?_ (by simp) _) | (with_reducible refine Below.link (by assumption) ?_)))); rintro e w5 ⟨rfl, hb5⟩; obtain ⟨hc5, hf5⟩ := bcell hb5; have hz5 := hb5.size; (try simp at hz5); (try have hy5 : w.heap.size < w5.heap.size := by omega); (try have hx5 : w.heap.size + 1 < w5.heap.size := by omega); (try have hu5 : w.heap.size + 2 < w5.heap.size := by omega); (try have hs15 : w1.heap.size < w5.heap.size := by omega); (try have hs25 : w2.heap.size < w5.heap.size := by omega); (try have hs35 : w3.heap.size < w5.heap.size := by omega); (try have hs45 : w4.heap.size < w5.heap.size := by omega)))
  go_ret
  exact ⟨rfl, by (repeat (first | (with_reducible exact Below.refl _ _) | (with_reducible refine Below.drew ?_) | (with_reducible refine Below.bal ?_ _) | (with_reducible refine Below.setCell ?_ (by simp) _) | (with_reducible refine Below.link (by assumption) ?_)))⟩
end Go.Proofs.YtgbppjckehjifaaDoor
