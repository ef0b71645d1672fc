/- The reference of layer 3 walked, part 2: Bad, Valid, Count. -/
import Derived.Test.YtckojcfepldhlaaUtfRef1
namespace Go.Proofs.Ytckojcfepldhlaa
open Go.RowKit
set_option linter.unusedVariables false

set_option maxHeartbeats 400000 in
theorem ref_Bad (s : ByteArray) (l : List UInt8) (w : World) (hl : s.data.toList = l) (hs : s.size ≤ 1000000000) :
    Calls Try.prog 15 #[.string s] w fun e w' => e = .returned (.int .i64 (Utf.bad l)) ∧ w = w' := by
  have hn := len_l s
  have hnn := Lib.hid hn
  clear hn
  subst hl
  go_enter Try.func15, Try.ntmps15
  go_wp2
  go_loop [3] (fun v => ∃ k : Nat, k ≤ s.size ∧ v = .int .i64 k ∧ Hid (Utf.badS 0 k (s.data.toList.drop k) = Utf.bad s.data.toList)) (fun v => s.size - (intOf v).toNat)
  case atStart => exact ⟨0, by omega, rfl, rfl⟩
  case round =>
    obtain ⟨k, hk, rfl, H⟩ := hrel
    by_cases hlt : k < s.size
    · have HS := Lib.hid (Utf.badS_step s.data.toList k (by rw [hnn.out]; exact hlt))
      have hle := @Utf.szAt_lt s.data.toList k
      rw [hnn.out] at hle
      by_cases h0 : Utf.szAt s.data.toList k = 0
      · have h0' : ((Utf.szAt s.data.toList k : Int) == 0) = true := by simp [h0]
        have h0h := Lib.hid h0
        clear h0 hle
        go_wp2_with (go_at_call 27; refine (ref_Size s k _ _ (by omega) hs (by omega)).mono ?_; rintro e w' ⟨rfl, rfl⟩)
        go_ret
        exact ⟨ret_int (by rw [← H.out, HS.out, if_pos h0h.out]), rfl⟩
      · have hle2 := hle h0
        have h0' : ((Utf.szAt s.data.toList k : Int) == 0) = false := by simp [h0]
        have h0h := Lib.hid h0
        clear h0 hle
        go_wp2_with (go_at_call 27; refine (ref_Size s k _ _ (by omega) hs (by omega)).mono ?_; rintro e w' ⟨rfl, rfl⟩)
        go_round
        case rel => exact ⟨k + Utf.szAt s.data.toList k, by omega, by go_num, Lib.hid (by rw [← H.out, HS.out, if_neg h0h.out])⟩
        case measure => have := h0h.out; simp [intOf]; omega
    · go_wp2
      go_ret
      exact ⟨ret_int (by rw [← H.out, Utf.bad_end _ _ (by rw [hnn.out]; omega)]), rfl⟩

set_option maxHeartbeats 400000 in
theorem ref_Valid (s : ByteArray) (l : List UInt8) (w : World) (hl : s.data.toList = l) (hs : s.size ≤ 1000000000) :
    Calls Try.prog 13 #[.string s] w fun e w' => e = .returned (.bool (decide (Utf.bad l < 0))) ∧ w = w' := by
  go_enter Try.func13, Try.ntmps13
  go_wp2_with (go_at_call 15; refine (ref_Bad s l _ hl hs).mono ?_; rintro e w' ⟨rfl, rfl⟩)
  go_ret
  exact ⟨rfl, rfl⟩

set_option maxHeartbeats 400000 in
theorem ref_Count (s : ByteArray) (l : List UInt8) (w : World) (hl : s.data.toList = l) (hs : s.size ≤ 1000000000) :
    Calls Try.prog 17 #[.string s] w fun e w' => e = .returned (.int .i64 (Utf.cnt l)) ∧ w = w' := by
  have hn := len_l s
  have hnn := Lib.hid hn
  clear hn
  subst hl
  go_enter Try.func17, Try.ntmps17
  go_wp2
  go_loop [3, 4] (fun c v => ∃ k n : Nat, k ≤ s.size ∧ n ≤ k ∧ c = .int .i64 n ∧ v = .int .i64 k ∧ Hid (n + Utf.cnt (s.data.toList.drop k) = Utf.cnt s.data.toList)) (fun _ v => s.size - (intOf v).toNat)
  case atStart => exact ⟨0, 0, by omega, by omega, rfl, rfl, by simp [Hid]⟩
  case round =>
    obtain ⟨k, n, hk, hnk, rfl, rfl, H⟩ := hrel
    by_cases hlt : k < s.size
    · have HS := Lib.hid (Utf.cnt_step s.data.toList k (by rw [hnn.out]; exact hlt))
      have hle := @Utf.szAt_lt s.data.toList k
      rw [hnn.out] at hle
      by_cases h0 : Utf.szAt s.data.toList k = 0
      · have h0' : ((Utf.szAt s.data.toList k : Int) == 0) = true := by simp [h0]
        have h0h := Lib.hid h0
        clear h0 hle
        go_wp2_with (go_at_call 27; refine (ref_Size s k _ _ (by omega) hs (by omega)).mono ?_; rintro e w' ⟨rfl, rfl⟩)
        go_round
        case rel => exact ⟨k + 1, n + 1, by omega, by omega, by go_num, by go_num, Lib.hid (by rw [← H.out, HS.out, h0h.out]; simp; omega)⟩
        case measure => simp [intOf]; omega
      · have hle2 := hle h0
        have h0' : ((Utf.szAt s.data.toList k : Int) == 0) = false := by simp [h0]
        have h0h := Lib.hid h0
        clear h0 hle
        go_wp2_with (go_at_call 27; refine (ref_Size s k _ _ (by omega) hs (by omega)).mono ?_; rintro e w' ⟨rfl, rfl⟩)
        go_round
        case rel => exact ⟨k + Utf.szAt s.data.toList k, n + 1, by omega, by have := h0h.out; omega, by go_num, by go_num, Lib.hid (by rw [← H.out, HS.out, show max 1 (Utf.szAt s.data.toList k) = Utf.szAt s.data.toList k from by have := h0h.out; omega]; omega)⟩
        case measure => have := h0h.out; simp [intOf]; omega
    · go_wp2
      go_ret
      exact ⟨ret_int (by rw [← H.out, Utf.cnt_end _ _ (by rw [hnn.out]; omega)]; rfl), rfl⟩
end Go.Proofs.Ytckojcfepldhlaa
