/- The reference of layer 3 walked, part 2: Bad, Valid, Count. -/
import Derived.Test.YtgbppjckehjifaaDoorUtfRef1
namespace Go.Proofs.YtgbppjckehjifaaDoor
open Go.RowKit
set_option linter.unusedVariables false

set_option maxHeartbeats 400000 in
theorem ref_Bad (s : ByteArray) (l : List UInt8) (w : World) (hl : s.data.toList = l) (hs : s.size ≤ 1000000000) :
    Calls Tryd.prog 48 #[.string s] w fun e w' => e = .returned (.int .i64 (Utf.bad l)) ∧ w = w' := by
  have hn := len_l s
  have hnn := Lib.hid hn
  clear hn
  subst hl
  go_enter Tryd.func48, Tryd.ntmps48
  go_wp2
  go_loop [3] (fun v => ∃ k : Nat, k ≤ s.size ∧ v = .int .i64 k ∧ Hid (Utf.badS 0 k (s.data.toList.drop k) = Utf.bad s.data.toList)) (fun v => s.size - (intOf v).toNat)
  case atStart => exact ⟨0, by omega, rfl, rfl⟩
  case round =>
    obtain ⟨k, hk, rfl, H⟩ := hrel
    by_cases hlt : k < s.size
    · have HS := Lib.hid (Utf.badS_step s.data.toList k (by rw [hnn.out]; exact hlt))
      have hle := @Utf.szAt_lt s.data.toList k
      rw [hnn.out] at hle
      by_cases h0 : Utf.szAt s.data.toList k = 0
      · have h0' : ((Utf.szAt s.data.toList k : Int) == 0) = true := by simp [h0]
        have h0h := Lib.hid h0
        clear h0 hle
        go_wp2_with (go_at_call 50; refine (ref_Size s k _ _ (by omega) hs (by omega)).mono ?_; rintro e w' ⟨rfl, rfl⟩)
        go_ret
        exact ⟨ret_int (by rw [← H.out, HS.out, if_pos h0h.out]), rfl⟩
      · have hle2 := hle h0
        have h0' : ((Utf.szAt s.data.toList k : Int) == 0) = false := by simp [h0]
        have h0h := Lib.hid h0
        clear h0 hle
        go_wp2_with (go_at_call 50; refine (ref_Size s k _ _ (by omega) hs (by omega)).mono ?_; rintro e w' ⟨rfl, rfl⟩)
        go_round
        case rel => exact ⟨k + Utf.szAt s.data.toList k, by omega, by go_num, Lib.hid (by rw [← H.out, HS.out, if_neg h0h.out])⟩
        case measure => have := h0h.out; simp [intOf]; omega
    · go_wp2
      go_ret
      exact ⟨ret_int (by rw [← H.out, Utf.bad_end _ _ (by rw [hnn.out]; omega)]), rfl⟩

set_option maxHeartbeats 400000 in
theorem ref_Valid (s : ByteArray) (l : List UInt8) (w : World) (hl : s.data.toList = l) (hs : s.size ≤ 1000000000) :
    Calls Tryd.prog 44 #[.string s] w fun e w' => e = .returned (.bool (decide (Utf.bad l < 0))) ∧ w = w' := by
  go_enter Tryd.func44, Tryd.ntmps44
  go_wp2_with (go_at_call 48; refine (ref_Bad s l _ hl hs).mono ?_; rintro e w' ⟨rfl, rfl⟩)
  go_ret
  exact ⟨rfl, rfl⟩

end Go.Proofs.YtgbppjckehjifaaDoor
