/- The program's layer 3 walked, part 2: escape, form, Quote, value, plain, unescape. -/
import Derived.Test.YtckojcfepldhlaaUtfProg1
import Derived.Test.YtckojcfepldhlaaUtfRef4
namespace Go.Proofs.Ytckojcfepldhlaa
open Go.RowKit
set_option linter.unusedVariables false

set_option maxHeartbeats 400000 in
theorem utf_escape (u : UInt8) (a : Int) (w : World) (ha : a = u.toNat) :
    Calls Try.prog 40 #[.int .u8 a] w fun e w' => e = .returned (.string (S (92 :: 120 :: Utf.esc u))) ∧ ∃ n, w.drewN n = w' := by
  subst ha
  have hu : u.toNat < 256 := u.toNat_lt
  generalize hb : u.toNat = b at hu
  have hbb := Lib.hid hb
  clear hb
  go_enter Try.func40, Try.ntmps40
  go_wp2
  go_quiet (fail)
  go_wp2
  go_ret
  refine ⟨ret_str ?_, _, rfl⟩
  rw [dig_cut _ (by omega), dig_cut _ (by omega), ← hbb.out]
  rfl

theorem szAt_one (l : List UInt8) (i : Nat) (u : UInt8) (h : l[i]? = some u) (hu : u.toNat < 128) : Utf.szAt l i = 1 := by
  simp only [Utf.szAt, h, if_pos hu]

theorem enc_low (s : ByteArray) (i b : Nat) (c : Int) (hi : i < s.size) (hcb : c = b) (hbu : s[i].toNat = b) (hlo : b < 128) : Utf8.encode c = S ((s.data.toList.drop i).take 1) := by
  have hls : s.data.toList.length = s.size := len_l s
  have h1 := szAt_one _ _ _ (get_l s i hi) (by omega)
  have hE := (Utf.decode_good s i (by omega) (by omega)).2.2
  rw [decode_ascii s i hi (by omega), h1, hbu] at hE
  simp only at hE
  rw [hcb]
  exact S_of hE
set_option maxHeartbeats 1000000 in
set_option maxRecDepth 100000 in
theorem utf_form_low (s : ByteArray) (i b : Nat) (c : Int) (w : World) (hcb : c = b) (hs : s.size ≤ 1000000000) (hi : i < s.size) (hbu : s[i].toNat = b) (hlo : b < 128) :
    Calls Try.prog 29 #[.string s, .int .i64 i, .int .i32 c] w fun e w' => e = .returned (.string (S (Utf.formAt s.data.toList i))) ∧ ∃ n, w.drewN n = w' := by
  have hls : s.data.toList.length = s.size := len_l s
  have hg := formAt_some _ _ _ (get_l s i hi)
  have h1 := szAt_one _ _ _ (get_l s i hi) (by omega)
  rw [hbu] at hg
  have hbuh := Lib.hid hbu
  have hgh := Lib.hid hg
  have hwh := Lib.hid (fun W => utf_wrong s _ i _ c W rfl rfl (by rw [decode_ascii s i hi (by omega), hbu, hcb]) hs hi)
  rw [decide_eq_false (show ¬ Utf.szAt s.data.toList i = 0 by omega)] at hwh
  have heh := Lib.hid (fun W => utf_escape s[i] _ W rfl)
  have h1h := Lib.hid h1
  have hc0 : 0 ≤ c := by omega
  have hc1 : c < 128 := by omega
  have hcbh := Lib.hid hcb
  clear h1 hls hbu hg hlo hcb
  go_enter Try.func29, Try.ntmps29
  go_wp2_with (first
    | (go_at_call 26; (with_reducible refine (hwh.out _).mono ?_); rintro e w' ⟨rfl, rfl⟩)
    | (go_at_call 40; (with_reducible refine (heh.out _).mono ?_); rintro e w' ⟨rfl, nq, rfl⟩))
  all_goals go_ret
  all_goals refine ⟨ret_str ?_, by first | exact ⟨_, rfl⟩ | exact ⟨0, rfl⟩⟩
  all_goals have hcb := hcbh.out
  all_goals rw [hgh.out, h1h.out]
  all_goals go_light
  all_goals simp only [beq_iff_eq, beq_eq_false_iff_ne, ne_eq] at *
  all_goals (repeat (first | rw [if_pos (by omega)] | rw [if_neg (by omega)]))
  all_goals first | (exfalso; omega) | rfl | exact enc_low s i b c hi hcb hbuh.out (by omega)

set_option maxHeartbeats 1000000 in
set_option maxRecDepth 100000 in
theorem utf_form_high (s : ByteArray) (i : Nat) (c : Int) (w : World) (hc : c = ((Utf8.decode s i).1 : Nat)) (hs : s.size ≤ 1000000000) (hi : i < s.size) (hhi : 128 ≤ s[i].toNat) :
    Calls Try.prog 29 #[.string s, .int .i64 i, .int .i32 c] w fun e w' => e = .returned (.string (S (Utf.formAt s.data.toList i))) ∧ ∃ n, w.drewN n = w' := by
  have hls : s.data.toList.length = s.size := len_l s
  have hg := Lib.hid (formAt_some _ _ _ (get_l s i hi))
  have h2 : 128 ≤ c := by have := (decode_high s i hi hhi).1; omega
  have h3 : c ≤ 2147483647 := by have := decode_le s i; omega
  have h4 : (c == 127) = false := ine (by omega)
  have h5 : decide (c < 32) = false := decide_eq_false (by omega)
  have hwh := Lib.hid (fun W => utf_wrong s _ i _ c W rfl rfl hc hs hi)
  have heh := Lib.hid (fun W => utf_escape s[i] _ W rfl)
  by_cases h0 : Utf.szAt s.data.toList i = 0
  · rw [decide_eq_true h0] at hwh
    have h0h := Lib.hid h0
    clear h0 hc hls
    go_enter Try.func29, Try.ntmps29
    go_wp2_with (first
      | (go_at_call 26; (with_reducible refine (hwh.out _).mono ?_); rintro e w' ⟨rfl, rfl⟩)
      | (go_at_call 40; (with_reducible refine (heh.out _).mono ?_); rintro e w' ⟨rfl, nq, rfl⟩))
    go_ret
    refine ⟨ret_str ?_, _, rfl⟩
    rw [hg.out, if_neg (by omega), if_neg (by omega), if_neg (by omega), if_neg (by omega), if_neg (by omega), if_pos (.inr (.inr h0h.out))]
  · rw [decide_eq_false h0] at hwh
    have hE := Lib.hid (S_of (Utf.decode_good s i (by omega) h0).2.2)
    rw [← hc] at hE
    have h0h := Lib.hid h0
    clear h0 hc hls
    go_enter Try.func29, Try.ntmps29
    go_wp2_with (first
      | (go_at_call 26; (with_reducible refine (hwh.out _).mono ?_); rintro e w' ⟨rfl, rfl⟩)
      | (go_at_call 40; (with_reducible refine (heh.out _).mono ?_); rintro e w' ⟨rfl, nq, rfl⟩))
    go_ret
    refine ⟨ret_str ?_, 0, rfl⟩
    rw [hg.out, if_neg (by omega), if_neg (by omega), if_neg (by omega), if_neg (by omega), if_neg (by omega), if_neg (by have := h0h.out; omega)]
    exact hE.out

theorem utf_form (s : ByteArray) (l : List UInt8) (i : Nat) (a c : Int) (w : World) (hl : s.data.toList = l) (ha : a = i) (hc : c = ((Utf8.decode s i).1 : Nat)) (hs : s.size ≤ 1000000000) (hi : i < s.size) :
    Calls Try.prog 29 #[.string s, .int .i64 a, .int .i32 c] w fun e w' => e = .returned (.string (S (Utf.formAt l i))) ∧ ∃ n, w.drewN n = w' := by
  subst ha hl
  by_cases h : s[i].toNat < 128
  · rw [decode_ascii s i hi h] at hc
    subst hc
    exact utf_form_low s i _ _ w rfl hs hi rfl h
  · exact utf_form_high s i c w hc hs hi (by omega)

theorem index_val (u : UInt8) : Lib.indexByte [48, 49, 50, 51, 52, 53, 54, 55, 56, 57, 97, 98, 99, 100, 101, 102] u = Utf.val u := by
  have h : ∀ n : Fin 256, Lib.indexByte [48, 49, 50, 51, 52, 53, 54, 55, 56, 57, 97, 98, 99, 100, 101, 102] (UInt8.ofNat n.val) = Utf.val (UInt8.ofNat n.val) := by decide +kernel
  have := h ⟨u.toNat, u.toNat_lt⟩
  simpa using this

set_option maxHeartbeats 400000 in
theorem utf_value (u : UInt8) (a : Int) (w : World) (ha : a = u.toNat) :
    Calls Try.prog 34 #[.int .u8 a] w fun e w' => e = .returned (.int .i64 (Utf.val u)) ∧ w = w' := by
  subst ha
  have h := fun W => Try.strings_IndexByte ⟨#[48, 49, 50, 51, 52, 53, 54, 55, 56, 57, 97, 98, 99, 100, 101, 102]⟩ (u.toNat : Int) W
  have e : ((u.toNat : Int).toNat.toUInt8) = u := by simp
  rw [e, show (⟨#[48, 49, 50, 51, 52, 53, 54, 55, 56, 57, 97, 98, 99, 100, 101, 102]⟩ : ByteArray).data.toList = [48, 49, 50, 51, 52, 53, 54, 55, 56, 57, 97, 98, 99, 100, 101, 102] from rfl, index_val] at h
  have hh := Lib.hid h
  clear h e
  go_enter Try.func34, Try.ntmps34
  go_wp2_with (go_at_call 42; (with_reducible refine (hh.out _).mono ?_); rintro e w' ⟨rfl, rfl⟩)
  go_ret
  exact ⟨rfl, rfl⟩

/-- the byte of a short escape -/
def plainV (u : UInt8) : UInt8 × Bool :=
  if u.toNat = 34 then (34, true) else if u.toNat = 92 then (92, true) else if u.toNat = 110 then (10, true) else if u.toNat = 116 then (9, true) else if u.toNat = 114 then (13, true) else (0, false)
theorem ret_bb {a b : Int} {c d : Bool} (h : a = b) (h' : c = d) : Ending.returned (.tuple #[.int .u8 a, .bool c]) = .returned (.tuple #[.int .u8 b, .bool d]) := by rw [h, h']
set_option maxHeartbeats 400000 in
theorem utf_plain (u : UInt8) (a : Int) (w : World) (ha : a = u.toNat) :
    Calls Try.prog 41 #[.int .u8 a] w fun e w' => e = .returned (.tuple #[.int .u8 (plainV u).1.toNat, .bool (plainV u).2]) ∧ w = w' := by
  subst ha
  go_enter Try.func41, Try.ntmps41
  go_wp2
  all_goals go_ret2
  all_goals refine ⟨ret_bb ?_ ?_, rfl⟩
  all_goals go_light
  all_goals simp only [beq_iff_eq, beq_eq_false_iff_ne, ne_eq] at *
  all_goals unfold plainV
  all_goals (repeat (first | rw [if_pos (by omega)] | rw [if_neg (by omega)]))
  all_goals first | rfl | omega | (simp; omega)
end Go.Proofs.Ytckojcfepldhlaa
