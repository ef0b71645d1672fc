/- The program's layer 3 walked, part 3: unescape. -/
import Derived.Test.YtckojcfepldhlaaUtfProg2
namespace Go.Proofs.Ytckojcfepldhlaa
open Go.RowKit
set_option linter.unusedVariables false

theorem esc_yes (l : List UInt8) (i : Nat) (c : UInt8) (h : l[i + 1]? = some c) (hp : (plainV c).2 = true) : Utf.escAt l i = ((plainV c).1, 2) := by
  rw [escAt_some l i c h]
  unfold plainV at hp ⊢
  (repeat' split at hp) <;> simp_all
theorem esc_no (l : List UInt8) (i : Nat) (c : UInt8) (h : l[i + 1]? = some c) (hp : (plainV c).2 = false) : Utf.escAt l i = if c.toNat = 120 then Utf.escX l[i + 2]? l[i + 3]? else (0, 0) := by
  rw [escAt_some l i c h]
  unfold plainV at hp
  (repeat' split at hp) <;> simp_all
def escV (l : List UInt8) (i : Nat) : Value := .tuple #[.int .u8 (Utf.escAt l i).1.toNat, .int .i64 (Utf.escAt l i).2]
theorem escV_of (l : List UInt8) (i : Nat) {a b : Int} {x : UInt8} {n : Nat} (h : Utf.escAt l i = (x, n)) (ha : a = x.toNat) (hb : b = n) : Ending.returned (.tuple #[.int .u8 a, .int .i64 b]) = .returned (escV l i) := by
  unfold escV; rw [h, ha, hb]

theorem or_hexN : ∀ a b : Fin 16, bits .or .i64 (((a.val : Nat) : Int) * 16) ((b.val : Nat) : Int) = 16 * ((a.val : Nat) : Int) + ((b.val : Nat) : Int) := by decide +kernel
theorem or_hex' (x y : Int) (hx : 0 ≤ x) (hx' : x < 16) (hy : 0 ≤ y) (hy' : y < 16) : bits .or .i64 (x * 16) y = 16 * x + y := by
  obtain ⟨n, rfl⟩ := Int.eq_ofNat_of_zero_le hx
  obtain ⟨m, rfl⟩ := Int.eq_ofNat_of_zero_le hy
  exact or_hexN ⟨n, by omega⟩ ⟨m, by omega⟩
theorem or_hex (x y : Int) (hx : 0 ≤ x) (hx' : x < 16) (hy : 0 ≤ y) (hy' : y < 16) : bits .or .i64 (x * 16) y % 256 = 16 * x + y := by
  rw [or_hex' x y hx hx' hy hy']; omega
set_option maxHeartbeats 1000000 in
set_option maxRecDepth 100000 in
theorem utf_unescape_end (s : ByteArray) (i : Nat) (a : Int) (w : World) (ha : a = i) (hs : s.size ≤ 1000000000) (hi : i < s.size) (h1 : ¬ i + 1 < s.size) :
    Calls Try.prog 32 #[.string s, .int .i64 a] w fun e w' => e = .returned (escV s.data.toList i) ∧ ∃ n, w.drewN n = w' := by
  subst ha
  have hg := Lib.hid (escV_of _ _ (escAt_none _ _ (get_l_none s (i + 1) h1)) rfl rfl)
  go_enter Try.func32, Try.ntmps32
  go_wp2
  go_ret2
  exact ⟨hg.out, 0, rfl⟩

set_option maxHeartbeats 1000000 in
set_option maxRecDepth 100000 in
theorem utf_unescape_plain (s : ByteArray) (i : Nat) (a : Int) (w : World) (ha : a = i) (hs : s.size ≤ 1000000000) (h1 : i + 1 < s.size) (hp : (plainV s[i + 1]).2 = true) :
    Calls Try.prog 32 #[.string s, .int .i64 a] w fun e w' => e = .returned (escV s.data.toList i) ∧ ∃ n, w.drewN n = w' := by
  subst ha
  have hg := Lib.hid (escV_of _ _ (esc_yes _ _ _ (get_l s (i + 1) h1) hp) rfl rfl)
  have hc := Lib.hid (fun W => utf_plain s[i + 1] _ W rfl)
  rw [hp] at hc
  clear hp
  go_enter Try.func32, Try.ntmps32
  go_wp2_with (go_at_call 41; (with_reducible refine (hc.out _).mono ?_); rintro e w' ⟨rfl, rfl⟩)
  go_ret2
  exact ⟨hg.out, 0, rfl⟩

set_option maxHeartbeats 1000000 in
set_option maxRecDepth 100000 in
theorem utf_unescape_x (s : ByteArray) (i : Nat) (a : Int) (w : World) (ha : a = i) (hs : s.size ≤ 1000000000) (h3 : i + 3 < s.size) (hp : (plainV s[i + 1]).2 = false) (hx : s[i + 1].toNat = 120)
    (k2 : 0 ≤ Utf.val s[i + 2]) (k3 : 0 ≤ Utf.val s[i + 3]) :
    Calls Try.prog 32 #[.string s, .int .i64 a] w fun e w' => e = .returned (escV s.data.toList i) ∧ ∃ n, w.drewN n = w' := by
  subst ha
  have hg0 := esc_no _ _ _ (get_l s (i + 1) (by omega)) hp
  rw [if_pos hx, get_l s (i + 2) (by omega), get_l s (i + 3) (by omega), escX_yes _ _ k2 k3] at hg0
  have hg := Lib.hid hg0
  have hc := Lib.hid (fun W => utf_plain s[i + 1] _ W rfl)
  rw [hp] at hc
  have d2 := Lib.hid (fun W => utf_value s[i + 2] _ W rfl)
  have d3 := Lib.hid (fun W => utf_value s[i + 3] _ W rfl)
  have v1 := val_lt s[i + 2]
  have v2 := val_lt s[i + 3]
  have hxx := Lib.hid (hexval _ _ k2 k3)
  have e120 : ((s[i + 1].toNat : Int) != 120) = false := bne_f (by omega)
  have j1 : ((i : Int) + 2) < s.size := by omega
  have j2 : ((i : Int) + 3) < s.size := by omega
  have j3 : 0 ≤ ((i : Int) + 2) := by omega
  have j4 : 0 ≤ ((i : Int) + 3) := by omega
  clear hp hg0 hx
  go_enter Try.func32, Try.ntmps32
  go_wp2_with (first
    | (go_at_call 41; (with_reducible refine (hc.out _).mono ?_); rintro e w' ⟨rfl, rfl⟩)
    | (go_at_call 34; (with_reducible refine (d2.out _).mono ?_); rintro e w' ⟨rfl, rfl⟩)
    | (go_at_call 34; (with_reducible refine (d3.out _).mono ?_); rintro e w' ⟨rfl, rfl⟩))
  go_quiet ((go_at_call 34; first | (with_reducible exact q_same (d2.out _)) | (with_reducible exact q_same (d3.out _))))
  go_wp2
  go_ret2
  refine ⟨escV_of _ _ hg.out ?_ rfl, _, rfl⟩
  rw [hxx.out]
  exact or_hex _ _ k2 v1 k3 v2

set_option maxHeartbeats 1000000 in
set_option maxRecDepth 100000 in
theorem utf_unescape_nox (s : ByteArray) (i : Nat) (a : Int) (w : World) (ha : a = i) (hs : s.size ≤ 1000000000) (h1 : i + 1 < s.size) (hp : (plainV s[i + 1]).2 = false) (hx : s[i + 1].toNat ≠ 120) :
    Calls Try.prog 32 #[.string s, .int .i64 a] w fun e w' => e = .returned (escV s.data.toList i) ∧ ∃ n, w.drewN n = w' := by
  subst ha
  have hg0 := esc_no _ _ _ (get_l s (i + 1) (by omega)) hp
  rw [if_neg hx] at hg0
  have hg := Lib.hid (escV_of _ _ hg0 rfl rfl)
  have hc := Lib.hid (fun W => utf_plain s[i + 1] _ W rfl)
  rw [hp] at hc
  have e120 : ((s[i + 1].toNat : Int) != 120) = true := bne_t (by omega)
  clear hp hg0 hx
  go_enter Try.func32, Try.ntmps32
  go_wp2_with (go_at_call 41; (with_reducible refine (hc.out _).mono ?_); rintro e w' ⟨rfl, rfl⟩)
  go_ret2
  exact ⟨hg.out, 0, rfl⟩

set_option maxHeartbeats 1000000 in
set_option maxRecDepth 100000 in
theorem utf_unescape_short (s : ByteArray) (i : Nat) (a : Int) (w : World) (ha : a = i) (hs : s.size ≤ 1000000000) (h1 : i + 1 < s.size) (h3 : ¬ i + 3 < s.size) (hp : (plainV s[i + 1]).2 = false) (hx : s[i + 1].toNat = 120) :
    Calls Try.prog 32 #[.string s, .int .i64 a] w fun e w' => e = .returned (escV s.data.toList i) ∧ ∃ n, w.drewN n = w' := by
  subst ha
  have hg0 := esc_no _ _ _ (get_l s (i + 1) (by omega)) hp
  rw [if_pos hx, get_l_none s (i + 3) h3, escX_no3] at hg0
  have hg := Lib.hid (escV_of _ _ hg0 rfl rfl)
  have hc := Lib.hid (fun W => utf_plain s[i + 1] _ W rfl)
  rw [hp] at hc
  have e120 : ((s[i + 1].toNat : Int) != 120) = false := bne_f (by omega)
  clear hp hg0 hx
  go_enter Try.func32, Try.ntmps32
  go_wp2_with (go_at_call 41; (with_reducible refine (hc.out _).mono ?_); rintro e w' ⟨rfl, rfl⟩)
  go_ret2
  exact ⟨hg.out, 0, rfl⟩

set_option maxHeartbeats 1000000 in
set_option maxRecDepth 100000 in
theorem utf_unescape_d2 (s : ByteArray) (i : Nat) (a : Int) (w : World) (ha : a = i) (hs : s.size ≤ 1000000000) (h3 : i + 3 < s.size) (hp : (plainV s[i + 1]).2 = false) (hx : s[i + 1].toNat = 120)
    (k2 : ¬ (0 ≤ Utf.val s[i + 2])) :
    Calls Try.prog 32 #[.string s, .int .i64 a] w fun e w' => e = .returned (escV s.data.toList i) ∧ ∃ n, w.drewN n = w' := by
  subst ha
  have hg0 := esc_no _ _ _ (get_l s (i + 1) (by omega)) hp
  rw [if_pos hx, get_l s (i + 2) (by omega), escX_no1 _ _ k2] at hg0
  have hg := Lib.hid (escV_of _ _ hg0 rfl rfl)
  have hc := Lib.hid (fun W => utf_plain s[i + 1] _ W rfl)
  rw [hp] at hc
  have d2 := Lib.hid (fun W => utf_value s[i + 2] _ W rfl)
  have e120 : ((s[i + 1].toNat : Int) != 120) = false := bne_f (by omega)
  clear hp hg0 hx
  go_enter Try.func32, Try.ntmps32
  go_wp2_with (first
    | (go_at_call 41; (with_reducible refine (hc.out _).mono ?_); rintro e w' ⟨rfl, rfl⟩)
    | (go_at_call 34; (with_reducible refine (d2.out _).mono ?_); rintro e w' ⟨rfl, rfl⟩))
  go_ret2
  exact ⟨hg.out, 0, rfl⟩

set_option maxHeartbeats 1000000 in
set_option maxRecDepth 100000 in
theorem utf_unescape_d3 (s : ByteArray) (i : Nat) (a : Int) (w : World) (ha : a = i) (hs : s.size ≤ 1000000000) (h3 : i + 3 < s.size) (hp : (plainV s[i + 1]).2 = false) (hx : s[i + 1].toNat = 120)
    (k2 : 0 ≤ Utf.val s[i + 2]) (k3 : ¬ (0 ≤ Utf.val s[i + 3])) :
    Calls Try.prog 32 #[.string s, .int .i64 a] w fun e w' => e = .returned (escV s.data.toList i) ∧ ∃ n, w.drewN n = w' := by
  subst ha
  have hg0 := esc_no _ _ _ (get_l s (i + 1) (by omega)) hp
  rw [if_pos hx, get_l s (i + 3) (by omega), escX_no2 _ _ k3] at hg0
  have hg := Lib.hid (escV_of _ _ hg0 rfl rfl)
  have hc := Lib.hid (fun W => utf_plain s[i + 1] _ W rfl)
  rw [hp] at hc
  have d2 := Lib.hid (fun W => utf_value s[i + 2] _ W rfl)
  have d3 := Lib.hid (fun W => utf_value s[i + 3] _ W rfl)
  have e120 : ((s[i + 1].toNat : Int) != 120) = false := bne_f (by omega)
  clear hp hg0 hx
  go_enter Try.func32, Try.ntmps32
  go_wp2_with (first
    | (go_at_call 41; (with_reducible refine (hc.out _).mono ?_); rintro e w' ⟨rfl, rfl⟩)
    | (go_at_call 34; (with_reducible refine (d2.out _).mono ?_); rintro e w' ⟨rfl, rfl⟩)
    | (go_at_call 34; (with_reducible refine (d3.out _).mono ?_); rintro e w' ⟨rfl, rfl⟩))
  go_ret2
  exact ⟨hg.out, 0, rfl⟩

theorem utf_unescape (s : ByteArray) (l : List UInt8) (i : Nat) (a : Int) (w : World) (hl : s.data.toList = l) (ha : a = i) (hs : s.size ≤ 1000000000) (hi : i < s.size) :
    Calls Try.prog 32 #[.string s, .int .i64 a] w fun e w' => e = .returned (escV l i) ∧ ∃ n, w.drewN n = w' := by
  subst hl
  by_cases h1 : i + 1 < s.size
  · cases hp : (plainV s[i + 1]).2 with
    | true => exact utf_unescape_plain s i a w ha hs h1 hp
    | false =>
      by_cases hx : s[i + 1].toNat = 120
      · by_cases h3 : i + 3 < s.size
        · by_cases k2 : 0 ≤ Utf.val s[i + 2]
          · by_cases k3 : 0 ≤ Utf.val s[i + 3]
            · exact utf_unescape_x s i a w ha hs h3 hp hx k2 k3
            · exact utf_unescape_d3 s i a w ha hs h3 hp hx k2 k3
          · exact utf_unescape_d2 s i a w ha hs h3 hp hx k2
        · exact utf_unescape_short s i a w ha hs h1 h3 hp hx
      · exact utf_unescape_nox s i a w ha hs h1 hp hx
  · exact utf_unescape_end s i a w ha hs hi h1
end Go.Proofs.Ytckojcfepldhlaa
