/- The reference's Turn, all ways. -/
import Derived.Test.YtgbppjckehjifaaDoorPrRef5
import Derived.Test.YtgbppjckehjifaaDoorPrRef6
import Derived.Test.YtgbppjckehjifaaDoorPrRef7
namespace Go.Proofs.YtgbppjckehjifaaDoor
open Go.RowKit
set_option linter.unusedVariables false
set_option linter.unusedSimpArgs false

theorem b_ne6 {f a b : Int} (h : Pr.lev f a b ≠ 0) (ha : a ≠ 6) : b ≠ 6 := by
  have hr : Pr.rel f a b = true := by
    cases hr : Pr.rel f a b
    · exact absurd (if_pos hr) h
    · rfl
  obtain ⟨h1, h2, h3⟩ := Pr.rel_true hr
  rintro rfl
  rcases Pr.isF_true h1 with rfl | rfl | rfl <;> rcases Pr.isK_true h2 with rfl | rfl | rfl | rfl | rfl | rfl | rfl | rfl | rfl <;> first | (exact ha rfl) | (revert hr; decide)
theorem r_Turn (f a b : Int) (k x : Int) (t : ByteArray) (p1 p2 p3 p4 : Option Addr) (n1 n2 n3 n4 q1 q2 q3 q4 : Nat) (w : World) (h0 : 0 ≤ x) (h1 : x < 18446744073709551616) (b1 : n1 ≤ 140737488355328) (b2 : n2 ≤ 140737488355328) (b3 : n3 ≤ 140737488355328) (b4 : n4 ≤ 140737488355328) : Calls Tryd.prog 17 #[.int .i64 f, .int .i64 a, .int .i64 b, .agg #[.int .i64 k, .int .u64 x, .string t, .slice p1 n1 q1, .slice p2 n2 q2, .slice p3 n3 q3, .slice p4 n4 q4]] w fun e w' => e = .returned (tupV (Pr.turnE f a b k x t.data.toList (n1 + n2 + n3 + n4)) b (Pr.normB b x) t) ∧ Below w.heap.size w w' := by
  have c1 := Lib.hid (fun W => r_isF f W)
  have c2 := Lib.hid (fun W => r_isK a W)
  have c3 := Lib.hid (fun W => r_isK b W)
  have c4 := Lib.hid (fun W => r4_Fits a k x t p1 p2 p3 p4 n1 n2 n3 n4 q1 q2 q3 q4 W h0 h1 b1 b2 b3 b4)
  have c5 := Lib.hid (fun W => r_Level f a b W)
  have c6 := Lib.hid (fun W => r4_Norm b x t none none none none 0 0 0 0 0 0 0 0 W h0 h1 (by omega) (by omega) (by omega) (by omega))
  have c7 := Lib.hid (fun W => r4_Fits b b x t none none none none 0 0 0 0 0 0 0 0 W h0 h1 (by omega) (by omega) (by omega) (by omega))
  have c8 := Lib.hid (fun W => r_sgn a W)
  have c9 := Lib.hid (fun W => r_sgn b W)
  have c10 := Lib.hid (fun W => r_great b W)
  have good : ∀ {E y : Int}, E = 0 → Pr.normB b x = y → Calls Tryd.prog 17 #[.int .i64 f, .int .i64 a, .int .i64 b, .agg #[.int .i64 k, .int .u64 x, .string t, .slice p1 n1 q1, .slice p2 n2 q2, .slice p3 n3 q3, .slice p4 n4 q4]] w (fun e w' => e = .returned (.tuple #[.agg #[.int .i64 b, .int .u64 y, .string t, .slice none 0 0, .slice none 0 0, .slice none 0 0, .slice none 0 0], .int .i64 0]) ∧ Below w.heap.size w w') → Calls Tryd.prog 17 #[.int .i64 f, .int .i64 a, .int .i64 b, .agg #[.int .i64 k, .int .u64 x, .string t, .slice p1 n1 q1, .slice p2 n2 q2, .slice p3 n3 q3, .slice p4 n4 q4]] w fun e w' => e = .returned (tupV E b (Pr.normB b x) t) ∧ Below w.heap.size w w' :=
    fun hE hy h => h.mono fun _ _ ⟨he, hw⟩ => ⟨by rw [he, hy]; exact tup_good _ _ _ _ hE, hw⟩
  have badd : ∀ {E D : Int}, E = D → D ≠ 0 → Calls Tryd.prog 17 #[.int .i64 f, .int .i64 a, .int .i64 b, .agg #[.int .i64 k, .int .u64 x, .string t, .slice p1 n1 q1, .slice p2 n2 q2, .slice p3 n3 q3, .slice p4 n4 q4]] w (fun e w' => e = .returned (.tuple #[.agg #[.int .i64 0, .int .u64 0, .string ⟨#[]⟩, .slice none 0 0, .slice none 0 0, .slice none 0 0, .slice none 0 0], .int .i64 D]) ∧ Below w.heap.size w w') → Calls Tryd.prog 17 #[.int .i64 f, .int .i64 a, .int .i64 b, .agg #[.int .i64 k, .int .u64 x, .string t, .slice p1 n1 q1, .slice p2 n2 q2, .slice p3 n3 q3, .slice p4 n4 q4]] w fun e w' => e = .returned (tupV E b (Pr.normB b x) t) ∧ Below w.heap.size w w' :=
    fun hE h0 h => h.mono fun _ _ ⟨he, hw⟩ => ⟨he.trans (tup_bad _ _ _ _ _ hE h0), hw⟩
  rw [← Pr.turnER_eq f a b k x _ _ h0 h1]
  unfold Pr.turnER
  cases hf : Pr.isF f
  · rw [hf] at c1
    exact badd (if_pos (.inl rfl)) (by decide) (r_Turn_f f a b k x t p1 p2 p3 p4 n1 n2 n3 n4 q1 q2 q3 q4 0 0 0 w c1)
  · rw [hf] at c1
    cases ha : Pr.isK a
    · rw [ha] at c2
      exact badd (if_pos (.inr (.inl rfl))) (by decide) (r_Turn_a f a b k x t p1 p2 p3 p4 n1 n2 n3 n4 q1 q2 q3 q4 0 0 0 w c1 c2)
    · rw [ha] at c2
      cases hb : Pr.isK b
      · rw [hb] at c3
        exact badd (if_pos (.inr (.inr (.inl rfl)))) (by decide) (r_Turn_b f a b k x t p1 p2 p3 p4 n1 n2 n3 n4 q1 q2 q3 q4 0 0 0 w c1 c2 c3)
      · rw [hb] at c3
        by_cases hk : k = a
        · have hk' : (k != a) = false := bne_eq_false_iff_eq.2 hk
          cases hfit : Pr.fitsB a k x t.data.toList (n1 + n2 + n3 + n4)
          · rw [hfit] at c4
            exact badd (if_pos (.inr (.inr (.inr (.inr rfl))))) (by decide) (r_Turn_fit f a b k x t p1 p2 p3 p4 n1 n2 n3 n4 q1 q2 q3 q4 0 0 0 w c1 c2 c3 c4 hk')
          · rw [hfit] at c4
            rw [if_neg (by simp [hk])]
            by_cases hl : Pr.lev f a b = 0
            · rw [hl] at c5
              rw [if_pos hl]
              by_cases hf1 : f = 1
              · exact badd (if_pos hf1) (by decide) (r_Turn_w1 f a b k x t p1 p2 p3 p4 n1 n2 n3 n4 q1 q2 q3 q4 0 0 0 w c1 c2 c3 c4 c5 hk' (beq_iff_eq.2 hf1))
              · exact badd (if_neg hf1) (by decide) (r_Turn_w2 f a b k x t p1 p2 p3 p4 n1 n2 n3 n4 q1 q2 q3 q4 0 0 0 w c1 c2 c3 c4 c5 hk' (beq_eq_false_iff_ne.2 hf1))
            · rw [if_neg hl]
              have hl' : (Pr.lev f a b == 0) = false := beq_eq_false_iff_ne.2 hl
              by_cases h6 : a = 6
              · exact good (if_pos h6) rfl (r_Turn_d f a b k x t p1 p2 p3 p4 n1 n2 n3 n4 q1 q2 q3 q4 _ _ 0 w c1 c2 c3 c4 c5 c6 hk' hl' (beq_iff_eq.2 h6))
              · have h6' : (a == 6) = false := beq_eq_false_iff_ne.2 h6
                have hy : Pr.normB b x = x := if_neg (fun h => b_ne6 hl h6 h.1)
                rw [if_neg h6]
                by_cases h7 : a = 7
                · rw [if_pos (.inl h7)]
                  cases ho : Pr.fitsB b b x t.data.toList 0
                  · rw [ho] at c7
                    exact badd (if_pos rfl) (by decide) (r_Turn_t1 f a b k x t p1 p2 p3 p4 n1 n2 n3 n4 q1 q2 q3 q4 _ 0 0 w c1 c2 c3 c4 c5 c7 hk' hl' h6' (beq_iff_eq.2 h7))
                  · rw [ho] at c7
                    exact good (if_neg (by decide)) hy (r_Turn_t2 f a b k x t p1 p2 p3 p4 n1 n2 n3 n4 q1 q2 q3 q4 _ 0 0 w c1 c2 c3 c4 c5 c7 hk' hl' h6' (beq_iff_eq.2 h7))
                · have h7' : (a == 7) = false := beq_eq_false_iff_ne.2 h7
                  by_cases h8 : a = 8
                  · rw [if_pos (.inr h8)]
                    cases ho : Pr.fitsB b b x t.data.toList 0
                    · rw [ho] at c7
                      exact badd (if_pos rfl) (by decide) (r_Turn_b1 f a b k x t p1 p2 p3 p4 n1 n2 n3 n4 q1 q2 q3 q4 _ 0 0 w c1 c2 c3 c4 c5 c7 hk' hl' h6' h7' (beq_iff_eq.2 h8))
                    · rw [ho] at c7
                      exact good (if_neg (by decide)) hy (r_Turn_b2 f a b k x t p1 p2 p3 p4 n1 n2 n3 n4 q1 q2 q3 q4 _ 0 0 w c1 c2 c3 c4 c5 c7 hk' hl' h6' h7' (beq_iff_eq.2 h8))
                  · have h8' : (a == 8) = false := beq_eq_false_iff_ne.2 h8
                    rw [if_neg (by simp [h7, h8])]
                    have hneg : Pr.neg a x = (Pr.sgn a && decide (9223372036854775808 ≤ x)) := rfl
                    have small : ∀ (hn : Pr.neg a x = false), (Pr.sgn a = false ∨ (Pr.sgn a = true ∧ decide (9223372036854775808 ≤ x) = false)) := by
                      intro hn
                      rw [hneg] at hn
                      cases hs : Pr.sgn a
                      · exact .inl rfl
                      · rw [hs] at hn; exact .inr ⟨rfl, by simpa using hn⟩
                    cases hn : Pr.neg a x
                    · by_cases hg : Pr.great b < x
                      · refine badd (if_pos (.inr (.inl ⟨rfl, hg⟩))) (by decide) ?_
                        rcases small hn with hs | ⟨hs, hx0⟩
                        · rw [hs] at c8
                          exact r_Turn_n4a f a b k x t p1 p2 p3 p4 n1 n2 n3 n4 q1 q2 q3 q4 _ 0 _ w c1 c2 c3 c4 c5 c8 c10 hk' hl' h6' h7' h8' hg
                        · rw [hs] at c8
                          exact r_Turn_n4b f a b k x t p1 p2 p3 p4 n1 n2 n3 n4 q1 q2 q3 q4 _ 0 _ w c1 c2 c3 c4 c5 c8 c10 hk' hl' h6' h7' h8' hx0 hg
                      · have hg' : x ≤ Pr.great b := by omega
                        cases ho : Pr.fitsB b b x t.data.toList 0
                        · rw [ho] at c7
                          refine badd (if_pos (.inr (.inr rfl))) (by decide) ?_
                          rcases small hn with hs | ⟨hs, hx0⟩
                          · rw [hs] at c8
                            exact r_Turn_n5a f a b k x t p1 p2 p3 p4 n1 n2 n3 n4 q1 q2 q3 q4 _ 0 _ w c1 c2 c3 c4 c5 c8 c10 c7 hk' hl' h6' h7' h8' hg'
                          · rw [hs] at c8
                            exact r_Turn_n5b f a b k x t p1 p2 p3 p4 n1 n2 n3 n4 q1 q2 q3 q4 _ 0 _ w c1 c2 c3 c4 c5 c8 c10 c7 hk' hl' h6' h7' h8' hx0 hg'
                        · rw [ho] at c7
                          refine good (if_neg (by simp [hg])) hy ?_
                          rcases small hn with hs | ⟨hs, hx0⟩
                          · rw [hs] at c8
                            exact r_Turn_n6a f a b k x t p1 p2 p3 p4 n1 n2 n3 n4 q1 q2 q3 q4 _ 0 _ w c1 c2 c3 c4 c5 c8 c10 c7 hk' hl' h6' h7' h8' hg'
                          · rw [hs] at c8
                            exact r_Turn_n6b f a b k x t p1 p2 p3 p4 n1 n2 n3 n4 q1 q2 q3 q4 _ 0 _ w c1 c2 c3 c4 c5 c8 c10 c7 hk' hl' h6' h7' h8' hx0 hg'
                    · have hn2 := hn
                      rw [hneg, Bool.and_eq_true] at hn2
                      obtain ⟨hs, hx⟩ := hn2
                      rw [hs] at c8
                      cases hsb : Pr.sgn b
                      · rw [hsb] at c9
                        exact badd (if_pos (.inl ⟨rfl, rfl⟩)) (by decide) (r_Turn_n1 f a b k x t p1 p2 p3 p4 n1 n2 n3 n4 q1 q2 q3 q4 _ 0 0 w c1 c2 c3 c4 c5 c8 c9 hk' hl' h6' h7' h8' hx)
                      · rw [hsb] at c9
                        cases ho : Pr.fitsB b b x t.data.toList 0
                        · rw [ho] at c7
                          exact badd (if_pos (.inr (.inr rfl))) (by decide) (r_Turn_n2 f a b k x t p1 p2 p3 p4 n1 n2 n3 n4 q1 q2 q3 q4 _ 0 0 w c1 c2 c3 c4 c5 c8 c9 c7 hk' hl' h6' h7' h8' hx)
                        · rw [ho] at c7
                          exact good (if_neg (by simp)) hy (r_Turn_n3 f a b k x t p1 p2 p3 p4 n1 n2 n3 n4 q1 q2 q3 q4 _ 0 0 w c1 c2 c3 c4 c5 c8 c9 c7 hk' hl' h6' h7' h8' hx)
        · exact badd (if_pos (.inr (.inr (.inr (.inl hk))))) (by decide) (r_Turn_k f a b k x t p1 p2 p3 p4 n1 n2 n3 n4 q1 q2 q3 q4 0 0 0 w c1 c2 c3 (bne_iff_ne.2 hk))
end Go.Proofs.YtgbppjckehjifaaDoor
