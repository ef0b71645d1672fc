/- promote.Turn, all ways; promote.Example. -/
import Derived.Test.YtgbppjckehjifaaDoorPrProg3
import Derived.Test.YtgbppjckehjifaaDoorPrProg4
namespace Go.Proofs.YtgbppjckehjifaaDoor
open Go.RowKit
set_option linter.unusedVariables false
set_option linter.unusedSimpArgs false

theorem pr_Turn (f a b : Int) (k x : Int) (t : ByteArray) (p1 p2 p3 p4 : Option Addr) (n1 n2 n3 n4 q1 q2 q3 q4 : Nat) (w : World) (h0 : 0 ≤ x) (h1 : x < 18446744073709551616) (b1 : n1 ≤ 140737488355328) (b2 : n2 ≤ 140737488355328) (b3 : n3 ≤ 140737488355328) (b4 : n4 ≤ 140737488355328) (hT : Tab w) : Calls Tryd.prog 16 #[.int .i64 f, .int .i64 a, .int .i64 b, .agg #[.int .i64 k, .int .u64 x, .string t, .slice p1 n1 q1, .slice p2 n2 q2, .slice p3 n3 q3, .slice p4 n4 q4]] w fun e w' => e = .returned (tupV (Pr.turnE f a b k x t.data.toList (n1 + n2 + n3 + n4)) b (Pr.normB b x) t) ∧ Below w.heap.size w w' := by
  have hT' := Lib.hid hT
  have c1 := Lib.hid (fun W => pr_row f W)
  have c2 := Lib.hid (fun W => sc_Is a W)
  have c3 := Lib.hid (fun W => sc_Is b W)
  have good : ∀ {E : Int}, E = 0 → Calls Tryd.prog 16 #[.int .i64 f, .int .i64 a, .int .i64 b, .agg #[.int .i64 k, .int .u64 x, .string t, .slice p1 n1 q1, .slice p2 n2 q2, .slice p3 n3 q3, .slice p4 n4 q4]] w (fun e w' => e = .returned (.tuple #[.agg #[.int .i64 b, .int .u64 (Pr.normB b x), .string t, .slice none 0 0, .slice none 0 0, .slice none 0 0, .slice none 0 0], .int .i64 0]) ∧ Below w.heap.size w w') → Calls Tryd.prog 16 #[.int .i64 f, .int .i64 a, .int .i64 b, .agg #[.int .i64 k, .int .u64 x, .string t, .slice p1 n1 q1, .slice p2 n2 q2, .slice p3 n3 q3, .slice p4 n4 q4]] w fun e w' => e = .returned (tupV E b (Pr.normB b x) t) ∧ Below w.heap.size w w' :=
    fun hE h => h.mono fun _ _ ⟨he, hw⟩ => ⟨he.trans (tup_good _ _ _ _ hE), hw⟩
  have badd : ∀ {E D : Int}, E = D → D ≠ 0 → Calls Tryd.prog 16 #[.int .i64 f, .int .i64 a, .int .i64 b, .agg #[.int .i64 k, .int .u64 x, .string t, .slice p1 n1 q1, .slice p2 n2 q2, .slice p3 n3 q3, .slice p4 n4 q4]] w (fun e w' => e = .returned (.tuple #[.agg #[.int .i64 0, .int .u64 0, .string ⟨#[]⟩, .slice none 0 0, .slice none 0 0, .slice none 0 0, .slice none 0 0], .int .i64 D]) ∧ Below w.heap.size w w') → Calls Tryd.prog 16 #[.int .i64 f, .int .i64 a, .int .i64 b, .agg #[.int .i64 k, .int .u64 x, .string t, .slice p1 n1 q1, .slice p2 n2 q2, .slice p3 n3 q3, .slice p4 n4 q4]] w fun e w' => e = .returned (tupV E b (Pr.normB b x) t) ∧ Below w.heap.size w w' :=
    fun hE h0 h => h.mono fun _ _ ⟨he, hw⟩ => ⟨he.trans (tup_bad _ _ _ _ _ hE h0), hw⟩
  unfold Pr.turnE
  cases hf : Pr.isF f
  · rw [row_no hf] at c1
    exact badd (if_pos (.inl rfl)) (by decide) (pr_Turn_f f a b k x t p1 p2 p3 p4 n1 n2 n3 n4 q1 q2 q3 q4 w hT' (-1) (by decide) c1)
  · obtain ⟨r1, r2⟩ := row_yes hf
    cases ha : Pr.isK a
    · rw [ha] at c2
      exact badd (if_pos (.inr (.inl rfl))) (by decide) (pr_Turn_a f a b k x t p1 p2 p3 p4 n1 n2 n3 n4 q1 q2 q3 q4 w hT' _ r1 r2 c1 c2)
    · rw [ha] at c2
      cases hb : Pr.isK b
      · rw [hb] at c3
        exact badd (if_pos (.inr (.inr (.inl rfl)))) (by decide) (pr_Turn_b f a b k x t p1 p2 p3 p4 n1 n2 n3 n4 q1 q2 q3 q4 w hT' _ r1 r2 c1 c2 c3)
      · rw [hb] at c3
        have c4 := Lib.hid (fun W => sc_Fits a k x t p1 p2 p3 p4 n1 n2 n3 n4 q1 q2 q3 q4 W h0 h1 b1 b2 b3 b4)
        cases hfit : Pr.fitsB a k x t.data.toList (n1 + n2 + n3 + n4)
        · rw [hfit] at c4
          exact badd (if_pos (.inr (.inr (.inr rfl)))) (by decide) (pr_Turn_fit f a b k x t p1 p2 p3 p4 n1 n2 n3 n4 q1 q2 q3 q4 w hT' _ r1 r2 c1 c2 c3 c4)
        · have htl : t.size ≤ 1000000000 := by
            have := (Pr.fits_parts hfit).2.2.2.2.1
            rw [len_l] at this; omega
          have c5 := Lib.hid (fun W h => pr_related f a b W h)
          have c6 := Lib.hid (fun W => pr_numeric a W)
          have c7 := Lib.hid (fun W h => pr_inside a b x W h hb h0 h1)
          have c8 := Lib.hid (fun W => utf_Valid t t.data.toList W rfl htl)
          have c9 := Lib.hid (fun W => sc_Norm b x t none none none none 0 0 0 0 0 0 0 0 W h0 h1 (by omega) (by omega) (by omega) (by omega))
          rw [hfit] at c4
          rw [if_neg (by simp)]
          cases hR : Pr.rel f a b
          · rw [hR] at c5
            rw [if_pos rfl]
            by_cases hf1 : f = 1
            · exact badd (if_pos hf1) (by decide) (pr_Turn_w1 f a b k x t p1 p2 p3 p4 n1 n2 n3 n4 q1 q2 q3 q4 w hT' _ r1 r2 c1 c2 c3 c4 c5 (beq_iff_eq.2 hf1))
            · exact badd (if_neg hf1) (by decide) (pr_Turn_w2 f a b k x t p1 p2 p3 p4 n1 n2 n3 n4 q1 q2 q3 q4 w hT' _ r1 r2 c1 c2 c3 c4 c5 (beq_eq_false_iff_ne.2 hf1))
          · rw [hR] at c5
            rw [if_neg (by decide)]
            cases hn : Pr.num a
            · rw [hn] at c6
              rw [if_neg (by simp)]
              by_cases h7 : b = 7
              · cases hv : decide (Utf.bad t.data.toList < 0)
                · rw [hv] at c8
                  exact badd (if_pos ⟨h7, of_decide_eq_false hv⟩) (by decide) (pr_Turn_u2 f a b k x t p1 p2 p3 p4 n1 n2 n3 n4 q1 q2 q3 q4 w hT' _ r1 r2 c1 c2 c3 c4 c5 c6 c8 (beq_iff_eq.2 h7))
                · rw [hv] at c8
                  exact good (if_neg (fun h => h.2 (of_decide_eq_true hv))) (pr_Turn_o2 f a b k x t p1 p2 p3 p4 n1 n2 n3 n4 q1 q2 q3 q4 w hT' _ r1 r2 c1 c2 c3 c4 c5 c6 c8 c9 (beq_iff_eq.2 h7))
              · exact good (if_neg (fun h => h7 h.1)) (pr_Turn_o4 f a b k x t p1 p2 p3 p4 n1 n2 n3 n4 q1 q2 q3 q4 w hT' _ r1 r2 c1 c2 c3 c4 c5 c6 c9 (beq_eq_false_iff_ne.2 h7))
            · rw [hn] at c6
              cases hi : Pr.insB a b x
              · rw [hi] at c7
                exact badd (if_pos ⟨rfl, rfl⟩) (by decide) (pr_Turn_r f a b k x t p1 p2 p3 p4 n1 n2 n3 n4 q1 q2 q3 q4 w hT' _ r1 r2 c1 c2 c3 c4 c5 c6 c7)
              · rw [hi] at c7
                rw [if_neg (by simp)]
                by_cases h7 : b = 7
                · cases hv : decide (Utf.bad t.data.toList < 0)
                  · rw [hv] at c8
                    exact badd (if_pos ⟨h7, of_decide_eq_false hv⟩) (by decide) (pr_Turn_u1 f a b k x t p1 p2 p3 p4 n1 n2 n3 n4 q1 q2 q3 q4 w hT' _ r1 r2 c1 c2 c3 c4 c5 c6 c7 c8 (beq_iff_eq.2 h7))
                  · rw [hv] at c8
                    exact good (if_neg (fun h => h.2 (of_decide_eq_true hv))) (pr_Turn_o1 f a b k x t p1 p2 p3 p4 n1 n2 n3 n4 q1 q2 q3 q4 w hT' _ r1 r2 c1 c2 c3 c4 c5 c6 c7 c8 c9 (beq_iff_eq.2 h7))
                · exact good (if_neg (fun h => h7 h.1)) (pr_Turn_o3 f a b k x t p1 p2 p3 p4 n1 n2 n3 n4 q1 q2 q3 q4 w hT' _ r1 r2 c1 c2 c3 c4 c5 c6 c7 c9 (beq_eq_false_iff_ne.2 h7))
end Go.Proofs.YtgbppjckehjifaaDoor
