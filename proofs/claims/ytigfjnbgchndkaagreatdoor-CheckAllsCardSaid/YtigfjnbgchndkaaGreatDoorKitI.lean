/- The reference of layer 3 walked, part 1: between, tail, Size, Bad, Valid, Count. -/
import Derived.Test.YtigfjnbgchndkaaGreatDoorKitA
namespace Go.Proofs.YtigfjnbgchndkaaGreatDoor
open Go.RowKit
set_option linter.unusedVariables false

set_option maxHeartbeats 400000 in
theorem ref_between (s : ByteArray) (i lo hi : Nat) (a b c : Int) (w : World) (ha : a = i) (hb : b = lo) (hc : c = hi) (hs : s.size ≤ 1000000000) (hi1 : i ≤ 2000000000) :
  Calls Tryz.prog 136 #[.string s, .int .i64 a, .int .u8 b, .int .u8 c] w fun e w' => e = .returned (.bool (Utf.btw s.data.toList i lo hi)) ∧ w = w' := by
 subst ha hb hc
 go_enter Tryz.func136, Tryz.ntmps136
 go_wp2
 ·have h1 : i < s.size := by assumption
  have h2 : lo ≤ s[i].toNat := by assumption
  go_ret
  exact ⟨by simp [Utf.btw, get_l s i h1, h2], rfl⟩
 ·have h1 : i < s.size := by assumption
  have h2 : ¬ lo ≤ s[i].toNat := by assumption
  go_ret
  exact ⟨by simp [Utf.btw, get_l s i h1, h2], rfl⟩
 ·have h1 : ¬ i < s.size := by assumption
  go_ret
  exact ⟨by simp [Utf.btw, get_l_none s i h1], rfl⟩

theorem tl_step (l : List UInt8) (i k n : Nat) (h : k < n) : Utf.tl l (i + k) (n - k) = (Utf.btw l (i + k) 128 191 && Utf.tl l (i + (k + 1)) (n - (k + 1))) := by
 obtain ⟨m, rfl⟩ : ∃ m, n = k + 1 + m := ⟨n - (k + 1), by omega⟩
 rw [show k + 1 + m - k = m + 1 from by omega, show k + 1 + m - (k + 1) = m from by omega]
 rfl

set_option maxHeartbeats 400000 in
theorem ref_tail (s : ByteArray) (i n : Nat) (a b : Int) (w : World) (ha : a = i) (hb : b = n) (hs : s.size ≤ 1000000000) (hi : i ≤ 1000000010) (hn : n ≤ 10) :
  Calls Tryz.prog 135 #[.string s, .int .i64 a, .int .i64 b] w fun e w' => e = .returned (.bool (Utf.tl s.data.toList i n)) ∧ w = w' := by
 subst ha hb
 go_enter Tryz.func135, Tryz.ntmps135
 go_wp2
 go_loop [7] (fun v => ∃ k : Nat, k ≤ n ∧ v = .int .i64 k ∧ Hid (Utf.tl s.data.toList (i + k) (n - k) = Utf.tl s.data.toList i n)) (fun v => n - (intOf v).toNat)
 case atStart => exact ⟨0, by omega, rfl, rfl⟩
 case round =>
  obtain ⟨k, hk, rfl, H⟩ := hrel
  by_cases hlt : k < n
  ·have HS := Lib.hid (tl_step s.data.toList i k n hlt)
   by_cases hb : Utf.btw s.data.toList (i + k) 128 191 = true
   ·go_wp2_with (go_at_call 136; refine (ref_between s (i + k) 128 191 _ _ _ _ (by omega) rfl rfl hs (by omega)).mono ?_; rintro e w' ⟨rfl, rfl⟩)
    go_round
    case rel => exact ⟨k + 1, by omega, by go_num, Lib.hid (by rw [← H.out, HS.out, hb]; rfl)⟩
    case measure => simp [intOf]; omega
   ·have hb' : Utf.btw s.data.toList (i + k) 128 191 = false := by simpa using hb
    clear hb
    go_wp2_with (go_at_call 136; refine (ref_between s (i + k) 128 191 _ _ _ _ (by omega) rfl rfl hs (by omega)).mono ?_; rintro e w' ⟨rfl, rfl⟩)
    go_ret
    exact ⟨by rw [← H.out, HS.out, hb']; rfl, rfl⟩
  ·go_wp2
   go_ret
   have : k = n := by omega
   subst this
   exact ⟨by rw [← H.out]; simp [Utf.tl], rfl⟩

set_option maxHeartbeats 2000000 in
set_option maxRecDepth 100000 in
theorem ref_Size (s : ByteArray) (i : Nat) (a : Int) (w : World) (ha : a = i) (hs : s.size ≤ 1000000000) (hi : i < s.size) :
  Calls Tryz.prog 121 #[.string s, .int .i64 a] w fun e w' => e = .returned (.int .i64 (Utf.szAt s.data.toList i)) ∧ w = w' := by
 subst ha
 have hg := Lib.hid (get_l s i hi)
 go_enter Tryz.func121, Tryz.ntmps121
 go_wp2_with (first
  | (go_at_call 136; refine (ref_between s (i + 1) 160 191 _ _ _ _ (by omega) (by omega) (by omega) hs (by omega)).mono ?_; rintro e w' ⟨rfl, rfl⟩)
  | (go_at_call 136; refine (ref_between s (i + 1) 128 159 _ _ _ _ (by omega) (by omega) (by omega) hs (by omega)).mono ?_; rintro e w' ⟨rfl, rfl⟩)
  | (go_at_call 136; refine (ref_between s (i + 1) 144 191 _ _ _ _ (by omega) (by omega) (by omega) hs (by omega)).mono ?_; rintro e w' ⟨rfl, rfl⟩)
  | (go_at_call 136; refine (ref_between s (i + 1) 128 143 _ _ _ _ (by omega) (by omega) (by omega) hs (by omega)).mono ?_; rintro e w' ⟨rfl, rfl⟩)
  | (go_at_call 135; refine (ref_tail s (i + 1) 1 _ _ _ (by omega) (by omega) hs (by omega) (by omega)).mono ?_; rintro e w' ⟨rfl, rfl⟩)
  | (go_at_call 135; refine (ref_tail s (i + 2) 1 _ _ _ (by omega) (by omega) hs (by omega) (by omega)).mono ?_; rintro e w' ⟨rfl, rfl⟩)
  | (go_at_call 135; refine (ref_tail s (i + 1) 2 _ _ _ (by omega) (by omega) hs (by omega) (by omega)).mono ?_; rintro e w' ⟨rfl, rfl⟩)
  | (go_at_call 135; refine (ref_tail s (i + 2) 2 _ _ _ (by omega) (by omega) hs (by omega) (by omega)).mono ?_; rintro e w' ⟨rfl, rfl⟩)
  | (go_at_call 135; refine (ref_tail s (i + 1) 3 _ _ _ (by omega) (by omega) hs (by omega) (by omega)).mono ?_; rintro e w' ⟨rfl, rfl⟩))
 all_goals go_ret
 all_goals refine ⟨ret_int ?_, rfl⟩
 all_goals simp only [Utf.szAt, hg.out]
 all_goals clear hg
 all_goals go_tidy
 all_goals grind
end Go.Proofs.YtigfjnbgchndkaaGreatDoor

/- The reference of layer 3 walked, part 2: Bad, Valid, Count. -/
namespace Go.Proofs.YtigfjnbgchndkaaGreatDoor
open Go.RowKit
set_option linter.unusedVariables false

set_option maxHeartbeats 400000 in
theorem ref_Bad (s : ByteArray) (l : List UInt8) (w : World) (hl : s.data.toList = l) (hs : s.size ≤ 1000000000) :
  Calls Tryz.prog 97 #[.string s] w fun e w' => e = .returned (.int .i64 (Utf.bad l)) ∧ w = w' := by
 have hn := len_l s
 have hnn := Lib.hid hn
 clear hn
 subst hl
 go_enter Tryz.func97, Tryz.ntmps97
 go_wp2
 go_loop [3] (fun v => ∃ k : Nat, k ≤ s.size ∧ v = .int .i64 k ∧ Hid (Utf.badS 0 k (s.data.toList.drop k) = Utf.bad s.data.toList)) (fun v => s.size - (intOf v).toNat)
 case atStart => exact ⟨0, by omega, rfl, rfl⟩
 case round =>
  obtain ⟨k, hk, rfl, H⟩ := hrel
  by_cases hlt : k < s.size
  ·have HS := Lib.hid (Utf.badS_step s.data.toList k (by rw [hnn.out]; exact hlt))
   have hle := @Utf.szAt_lt s.data.toList k
   rw [hnn.out] at hle
   by_cases h0 : Utf.szAt s.data.toList k = 0
   ·have h0' : ((Utf.szAt s.data.toList k : Int) == 0) = true := by simp [h0]
    have h0h := Lib.hid h0
    clear h0 hle
    go_wp2_with (go_at_call 121; refine (ref_Size s k _ _ (by omega) hs (by omega)).mono ?_; rintro e w' ⟨rfl, rfl⟩)
    go_ret
    exact ⟨ret_int (by rw [← H.out, HS.out, if_pos h0h.out]), rfl⟩
   ·have hle2 := hle h0
    have h0' : ((Utf.szAt s.data.toList k : Int) == 0) = false := by simp [h0]
    have h0h := Lib.hid h0
    clear h0 hle
    go_wp2_with (go_at_call 121; refine (ref_Size s k _ _ (by omega) hs (by omega)).mono ?_; rintro e w' ⟨rfl, rfl⟩)
    go_round
    case rel => exact ⟨k + Utf.szAt s.data.toList k, by omega, by go_num, Lib.hid (by rw [← H.out, HS.out, if_neg h0h.out])⟩
    case measure => have := h0h.out; simp [intOf]; omega
  ·go_wp2
   go_ret
   exact ⟨ret_int (by rw [← H.out, Utf.bad_end _ _ (by rw [hnn.out]; omega)]), rfl⟩

set_option maxHeartbeats 400000 in
theorem ref_Valid (s : ByteArray) (l : List UInt8) (w : World) (hl : s.data.toList = l) (hs : s.size ≤ 1000000000) :
  Calls Tryz.prog 67 #[.string s] w fun e w' => e = .returned (.bool (decide (Utf.bad l < 0))) ∧ w = w' := by
 go_enter Tryz.func67, Tryz.ntmps67
 go_wp2_with (go_at_call 97; refine (ref_Bad s l _ hl hs).mono ?_; rintro e w' ⟨rfl, rfl⟩)
 go_ret
 exact ⟨rfl, rfl⟩

end Go.Proofs.YtigfjnbgchndkaaGreatDoor
