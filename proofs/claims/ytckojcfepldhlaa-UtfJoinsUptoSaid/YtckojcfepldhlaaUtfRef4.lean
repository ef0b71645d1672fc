/- The reference of layer 3 walked, part 4: digit, escape. -/
import Derived.Test.YtckojcfepldhlaaUtfRef3
namespace Go.Proofs.Ytckojcfepldhlaa
open Go.RowKit
set_option linter.unusedVariables false

theorem val_lt (u : UInt8) : Utf.val u < 16 := by unfold Utf.val; (repeat' split) <;> omega
theorem val_ge (u : UInt8) : -1 ≤ Utf.val u := by unfold Utf.val; (repeat' split) <;> omega

set_option maxHeartbeats 400000 in
theorem ref_digit (u : UInt8) (a : Int) (w : World) (ha : a = u.toNat) :
    Calls Try.prog 35 #[.int .u8 a] w fun e w' => e = .returned (.int .i64 (Utf.val u)) ∧ w = w' := by
  subst ha
  have hu : u.toNat < 256 := u.toNat_lt
  go_enter Try.func35, Try.ntmps35
  go_wp2
  all_goals go_ret
  all_goals refine ⟨ret_int ?_, rfl⟩
  all_goals go_light
  all_goals unfold Utf.val
  all_goals grind

theorem escAt_some (l : List UInt8) (i : Nat) (c : UInt8) (h : l[i + 1]? = some c) : Utf.escAt l i =
    if c.toNat = 34 then (34, 2) else if c.toNat = 92 then (92, 2) else if c.toNat = 110 then (10, 2)
    else if c.toNat = 116 then (9, 2) else if c.toNat = 114 then (13, 2)
    else if c.toNat = 120 then Utf.escX l[i + 2]? l[i + 3]?
    else (0, 0) := by simp only [Utf.escAt, h]
theorem ret_pair {a b : Int} {c d : Int} (h : a = b) (h' : c = d) : Ending.returned (.tuple #[.int .u8 a, .int .i64 c]) = .returned (.tuple #[.int .u8 b, .int .i64 d]) := by rw [h, h']

theorem hexval (h k : UInt8) (h0 : 0 ≤ Utf.val h) (k0 : 0 ≤ Utf.val k) : ((UInt8.ofNat (16 * (Utf.val h).toNat + (Utf.val k).toNat)).toNat : Int) = 16 * Utf.val h + Utf.val k := by
  have := val_lt h; have := val_lt k
  rw [UInt8.toNat_ofNat', Nat.mod_eq_of_lt (by omega)]; omega

theorem escX_yes (h k : UInt8) (h0 : 0 ≤ Utf.val h) (k0 : 0 ≤ Utf.val k) : Utf.escX (some h) (some k) = (UInt8.ofNat (16 * (Utf.val h).toNat + (Utf.val k).toNat), 4) := by
  simp [Utf.escX, h0, k0]
theorem escX_no1 (h : UInt8) (y : Option UInt8) (h0 : ¬ 0 ≤ Utf.val h) : Utf.escX (some h) y = (0, 0) := by
  cases y <;> simp [Utf.escX, h0]
theorem escX_no2 (x : Option UInt8) (k : UInt8) (h0 : ¬ 0 ≤ Utf.val k) : Utf.escX x (some k) = (0, 0) := by
  cases x <;> simp [Utf.escX, h0]
theorem escX_no3 (x : Option UInt8) : Utf.escX x none = (0, 0) := by cases x <;> rfl

set_option maxHeartbeats 1000000 in
set_option maxRecDepth 100000 in
theorem ref_escape_yes (s : ByteArray) (i : Nat) (a : Int) (w : World) (ha : a = i) (hs : s.size ≤ 1000000000) (h3 : i + 3 < s.size)
    (k2 : 0 ≤ Utf.val s[i + 2]) (k3 : 0 ≤ Utf.val s[i + 3]) :
    Calls Try.prog 33 #[.string s, .int .i64 a] w fun e w' => e = .returned (.tuple #[.int .u8 (Utf.escAt s.data.toList i).1.toNat, .int .i64 (Utf.escAt s.data.toList i).2]) ∧ ∃ n, w.drewN n = w' := by
  subst ha
  have hg := Lib.hid (escAt_some _ _ _ (get_l s (i + 1) (by omega)))
  have g2 := Lib.hid (get_l s (i + 2) (by omega))
  have g3 := Lib.hid (get_l s (i + 3) (by omega))
  have v1 := val_lt s[i + 2]
  have v2 := val_lt s[i + 3]
  have hx := Lib.hid (hexval _ _ k2 k3)
  have hX := Lib.hid (escX_yes _ _ k2 k3)
  have d2 := Lib.hid (fun W => ref_digit s[i + 2] _ W rfl)
  have d3 := Lib.hid (fun W => ref_digit s[i + 3] _ W rfl)
  have j1 : ((i : Int) + 2) < s.size := by omega
  have j2 : ((i : Int) + 3) < s.size := by omega
  have j3 : 0 ≤ ((i : Int) + 2) := by omega
  have j4 : 0 ≤ ((i : Int) + 3) := by omega
  go_enter Try.func33, Try.ntmps33
  go_wp2_with (first
    | (go_at_call 35; refine (ref_digit s[i + 2] _ _ (by omega)).mono ?_; rintro e w' ⟨rfl, rfl⟩)
    | (go_at_call 35; refine (ref_digit s[i + 3] _ _ (by omega)).mono ?_; rintro e w' ⟨rfl, rfl⟩))
  all_goals (try (go_quiet ((go_at_call 35; first | (with_reducible exact q_same (d2.out _)) | (with_reducible exact q_same (d3.out _))))))
  all_goals go_wp2
  all_goals go_ret2
  all_goals refine ⟨ret_pair ?_ ?_, by first | exact ⟨_, rfl⟩ | exact ⟨0, rfl⟩⟩
  all_goals rw [hg.out, g2.out, g3.out, hX.out]
  all_goals have hxx := hx.out
  all_goals go_light
  all_goals clear hg g2 g3 hX hx d2 d3
  all_goals generalize UInt8.ofNat (16 * (Utf.val s[i + 2]).toNat + (Utf.val s[i + 3]).toNat) = z at *
  all_goals simp only [beq_iff_eq, beq_eq_false_iff_ne, ne_eq] at *
  all_goals (repeat (first | rw [if_pos (by omega)] | rw [if_neg (by omega)]))
  all_goals first | rfl | omega | (simp only [hxx]; done) | (simp; omega)

theorem escAt_none (l : List UInt8) (i : Nat) (h : l[i + 1]? = none) : Utf.escAt l i = (0, 0) := by simp only [Utf.escAt, h]

set_option maxHeartbeats 1000000 in
set_option maxRecDepth 100000 in
theorem ref_escape_no0 (s : ByteArray) (i : Nat) (a : Int) (w : World) (ha : a = i) (hs : s.size ≤ 1000000000) (h3 : i < s.size) (h1 : ¬ i + 1 < s.size) :
    Calls Try.prog 33 #[.string s, .int .i64 a] w fun e w' => e = .returned (.tuple #[.int .u8 (Utf.escAt s.data.toList i).1.toNat, .int .i64 (Utf.escAt s.data.toList i).2]) ∧ ∃ n, w.drewN n = w' := by
  subst ha
  have hg := Lib.hid (escAt_none _ _ (get_l_none s (i + 1) h1))
  go_enter Try.func33, Try.ntmps33
  go_wp2
  go_ret2
  exact ⟨ret_pair (by rw [hg.out]; rfl) (by rw [hg.out]; rfl), 0, rfl⟩

set_option maxHeartbeats 1000000 in
set_option maxRecDepth 100000 in
theorem ref_escape_no1 (s : ByteArray) (i : Nat) (a : Int) (w : World) (ha : a = i) (hs : s.size ≤ 1000000000) (h1 : i + 1 < s.size) (h3 : ¬ i + 3 < s.size) :
    Calls Try.prog 33 #[.string s, .int .i64 a] w fun e w' => e = .returned (.tuple #[.int .u8 (Utf.escAt s.data.toList i).1.toNat, .int .i64 (Utf.escAt s.data.toList i).2]) ∧ ∃ n, w.drewN n = w' := by
  subst ha
  have hg := Lib.hid (escAt_some _ _ _ (get_l s (i + 1) h1))
  have g3 := Lib.hid (get_l_none s (i + 3) h3)
  go_enter Try.func33, Try.ntmps33
  go_wp2
  all_goals go_ret2
  all_goals refine ⟨ret_pair ?_ ?_, 0, rfl⟩
  all_goals rw [hg.out, g3.out, escX_no3]
  all_goals go_light
  all_goals clear hg g3
  all_goals simp only [beq_iff_eq, beq_eq_false_iff_ne, ne_eq] at *
  all_goals (repeat (first | rw [if_pos (by omega)] | rw [if_neg (by omega)]))
  all_goals first | rfl | omega | (simp; omega)

set_option maxHeartbeats 1000000 in
set_option maxRecDepth 100000 in
theorem ref_escape_no2 (s : ByteArray) (i : Nat) (a : Int) (w : World) (ha : a = i) (hs : s.size ≤ 1000000000) (h3 : i + 3 < s.size) (k2 : ¬ 0 ≤ Utf.val s[i + 2]) :
    Calls Try.prog 33 #[.string s, .int .i64 a] w fun e w' => e = .returned (.tuple #[.int .u8 (Utf.escAt s.data.toList i).1.toNat, .int .i64 (Utf.escAt s.data.toList i).2]) ∧ ∃ n, w.drewN n = w' := by
  subst ha
  have hg := Lib.hid (escAt_some _ _ _ (get_l s (i + 1) (by omega)))
  have g2 := Lib.hid (get_l s (i + 2) (by omega))
  have hX := Lib.hid (fun y => escX_no1 _ y k2)
  go_enter Try.func33, Try.ntmps33
  go_wp2_with (go_at_call 35; refine (ref_digit s[i + 2] _ _ (by omega)).mono ?_; rintro e w' ⟨rfl, rfl⟩)
  all_goals go_ret2
  all_goals refine ⟨ret_pair ?_ ?_, 0, rfl⟩
  all_goals rw [hg.out, g2.out, hX.out]
  all_goals go_light
  all_goals clear hg g2 hX
  all_goals simp only [beq_iff_eq, beq_eq_false_iff_ne, ne_eq] at *
  all_goals (repeat (first | rw [if_pos (by omega)] | rw [if_neg (by omega)]))
  all_goals first | rfl | omega | (simp; omega)

set_option maxHeartbeats 1000000 in
set_option maxRecDepth 100000 in
theorem ref_escape_no3 (s : ByteArray) (i : Nat) (a : Int) (w : World) (ha : a = i) (hs : s.size ≤ 1000000000) (h3 : i + 3 < s.size) (k2 : 0 ≤ Utf.val s[i + 2]) (k3 : ¬ 0 ≤ Utf.val s[i + 3]) :
    Calls Try.prog 33 #[.string s, .int .i64 a] w fun e w' => e = .returned (.tuple #[.int .u8 (Utf.escAt s.data.toList i).1.toNat, .int .i64 (Utf.escAt s.data.toList i).2]) ∧ ∃ n, w.drewN n = w' := by
  subst ha
  have hg := Lib.hid (escAt_some _ _ _ (get_l s (i + 1) (by omega)))
  have g3 := Lib.hid (get_l s (i + 3) (by omega))
  have hX := Lib.hid (fun y => escX_no2 y _ k3)
  go_enter Try.func33, Try.ntmps33
  go_wp2_with (first
    | (go_at_call 35; refine (ref_digit s[i + 2] _ _ (by omega)).mono ?_; rintro e w' ⟨rfl, rfl⟩)
    | (go_at_call 35; refine (ref_digit s[i + 3] _ _ (by omega)).mono ?_; rintro e w' ⟨rfl, rfl⟩))
  all_goals go_ret2
  all_goals refine ⟨ret_pair ?_ ?_, 0, rfl⟩
  all_goals rw [hg.out, g3.out, hX.out]
  all_goals go_light
  all_goals clear hg g3 hX
  all_goals simp only [beq_iff_eq, beq_eq_false_iff_ne, ne_eq] at *
  all_goals (repeat (first | rw [if_pos (by omega)] | rw [if_neg (by omega)]))
  all_goals first | rfl | omega | (simp; omega)

theorem ref_escape (s : ByteArray) (l : List UInt8) (i : Nat) (a : Int) (w : World) (hl : s.data.toList = l) (ha : a = i) (hs : s.size ≤ 1000000000) (hi : i < s.size) :
    Calls Try.prog 33 #[.string s, .int .i64 a] w fun e w' => e = .returned (.tuple #[.int .u8 (Utf.escAt l i).1.toNat, .int .i64 (Utf.escAt l i).2]) ∧ ∃ n, w.drewN n = w' := by
  subst hl
  by_cases h1 : i + 1 < s.size
  · by_cases h3 : i + 3 < s.size
    · by_cases k2 : 0 ≤ Utf.val s[i + 2]
      · by_cases k3 : 0 ≤ Utf.val s[i + 3]
        · exact ref_escape_yes s i a w ha hs h3 k2 k3
        · exact ref_escape_no3 s i a w ha hs h3 k2 k3
      · exact ref_escape_no2 s i a w ha hs h3 k2
    · exact ref_escape_no1 s i a w ha hs h1 h3
  · exact ref_escape_no0 s i a w ha hs hi h1
end Go.Proofs.Ytckojcfepldhlaa
