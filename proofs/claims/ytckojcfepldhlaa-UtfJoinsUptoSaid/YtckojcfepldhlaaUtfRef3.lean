/- The reference of layer 3 walked, part 3: pair, Quote, Hex. -/
import Derived.Test.YtckojcfepldhlaaUtfRef2
namespace Go.Proofs.Ytckojcfepldhlaa
open Go.RowKit
set_option linter.unusedVariables false

theorem dig_cut (q : Nat) (h : q < 16) : (⟨#[48, 49, 50, 51, 52, 53, 54, 55, 56, 57, 97, 98, 99, 100, 101, 102]⟩ : ByteArray).extract q (q + 1) = ⟨#[Utf.dig q]⟩ := by
  have : q = 0 ∨ q = 1 ∨ q = 2 ∨ q = 3 ∨ q = 4 ∨ q = 5 ∨ q = 6 ∨ q = 7 ∨ q = 8 ∨ q = 9 ∨ q = 10 ∨ q = 11 ∨ q = 12 ∨ q = 13 ∨ q = 14 ∨ q = 15 := by omega
  rcases this with rfl | rfl | rfl | rfl | rfl | rfl | rfl | rfl | rfl | rfl | rfl | rfl | rfl | rfl | rfl | rfl <;> rfl

set_option maxHeartbeats 400000 in
theorem ref_pair (u : UInt8) (a : Int) (w : World) (ha : a = u.toNat) :
    Calls Try.prog 31 #[.int .u8 a] w fun e w' => e = .returned (.string (S (Utf.esc u))) ∧ ∃ n, w.drewN n = w' := by
  subst ha
  have hu : u.toNat < 256 := u.toNat_lt
  generalize hb : u.toNat = b at hu
  have hbb := Lib.hid hb
  clear hb
  go_enter Try.func31, Try.ntmps31
  go_wp2
  go_quiet (fail)
  go_wp2
  go_ret
  refine ⟨ret_str ?_, _, rfl⟩
  rw [dig_cut _ (by omega), dig_cut _ (by omega), ← hbb.out]
  rfl

theorem esc_size (u : UInt8) : (S (Utf.esc u)).size ≤ 2 := Nat.le_refl 2
theorem hex_step (l : List UInt8) (k : Nat) (u : UInt8) (h : l[k]? = some u) : Utf.hex (l.drop k) = Utf.esc u ++ Utf.hex (l.drop (k + 1)) := by
  obtain ⟨hk, rfl⟩ := List.getElem?_eq_some_iff.1 h
  rw [List.drop_eq_getElem_cons hk]
  show List.flatMap _ (_ :: _) = _
  rw [List.flatMap_cons]
  rfl

set_option maxHeartbeats 1000000 in
theorem ref_Hex (s : ByteArray) (l : List UInt8) (w : World) (hl : s.data.toList = l) (hs : s.size ≤ 1000000000) :
    Calls Try.prog 25 #[.string s] w fun e w' => e = .returned (.string (S (Utf.hex l))) ∧ ∃ n, w.drewN n = w' := by
  have hn := len_l s
  have hnn := Lib.hid hn
  clear hn
  subst hl
  go_enter Try.func25, Try.ntmps25
  go_wp2
  go_loopw [3, 4] (fun t v wr => ∃ (k : Nat) (x : ByteArray), k ≤ s.size ∧ x.size ≤ 2 * k ∧ t = .string x ∧ v = .int .i64 k ∧ Hid (x.data.toList ++ Utf.hex (s.data.toList.drop k) = Utf.hex s.data.toList) ∧ ∃ nq, wr = w.drewN nq) (fun _ v _ => s.size - (intOf v).toNat)
  case atStart => exact ⟨0, _, by omega, Nat.le_refl _, rfl, rfl, Lib.hid rfl, 0, rfl⟩
  case round =>
    obtain ⟨k, x, hk, hx, rfl, rfl, H, nq, rfl⟩ := hrel
    by_cases hlt : k < s.size
    · have HS := Lib.hid (hex_step _ _ _ (get_l s k hlt))
      have he := esc_size s[k]
      go_wp2_with (go_at_call 31; refine (ref_pair s[k] _ _ (by omega)).mono ?_; rintro e w' ⟨rfl, nq, rfl⟩)
      go_roundw
      case rel =>
        refine ⟨k + 1, _, by omega, ?_, rfl, by go_num, Lib.hid ?_, _, rfl⟩
        · simp only [ByteArray.size_append]; omega
        · rw [← H.out, HS.out, cat_list, S_list, List.append_assoc]
      case measure => simp [intOf]; omega
    · go_wp2
      go_ret
      refine ⟨ret_str (S_of ?_), _, rfl⟩
      rw [← H.out, List.drop_eq_nil_of_le (by rw [hnn.out]; omega)]; simp [Utf.hex]

theorem formAt_some (l : List UInt8) (k : Nat) (u : UInt8) (h : l[k]? = some u) : Utf.formAt l k =
    if u.toNat = 34 then [92, 34] else if u.toNat = 92 then [92, 92] else if u.toNat = 10 then [92, 110]
    else if u.toNat = 9 then [92, 116] else if u.toNat = 13 then [92, 114]
    else if u.toNat < 32 ∨ u.toNat = 127 ∨ Utf.szAt l k = 0 then 92 :: 120 :: Utf.esc u
    else (l.drop k).take (Utf.szAt l k) := by simp only [Utf.formAt, h]
theorem quote_round (l : List UInt8) (k n : Nat) (x y q : List UInt8) (hn : n = k + max 1 (Utf.szAt l k)) (H : x ++ Utf.quoteS 0 (l.drop k) ++ [34] = q) (hy : y = x ++ Utf.formAt l k) (hk : k < l.length) :
    y ++ Utf.quoteS 0 (l.drop n) ++ [34] = q := by
  rw [← H, hy, hn, Utf.quote_step l k hk]; simp
set_option maxHeartbeats 2000000 in
set_option maxRecDepth 100000 in
theorem ref_Quote (s : ByteArray) (l : List UInt8) (w : World) (hl : s.data.toList = l) (hs : s.size ≤ 1000000000) :
    Calls Try.prog 19 #[.string s] w fun e w' => e = .returned (.string (S (Utf.quote l))) ∧ ∃ n, w.drewN n = w' := by
  have hn := len_l s
  have hnn := Lib.hid hn
  clear hn
  subst hl
  go_enter Try.func19, Try.ntmps19
  go_wp2
  go_loopw [3, 4] (fun t v wr => ∃ (k : Nat) (x : ByteArray), k ≤ s.size ∧ x.size ≤ 4 * k + 1 ∧ t = .string x ∧ v = .int .i64 k ∧ Hid (x.data.toList ++ Utf.quoteS 0 (s.data.toList.drop k) ++ [34] = Utf.quote s.data.toList) ∧ ∃ nq, wr = w.drewN nq) (fun _ v _ => s.size - (intOf v).toNat)
  case atStart => exact ⟨0, _, by omega, Nat.le_refl _, rfl, rfl, Lib.hid rfl, 0, rfl⟩
  case round =>
    obtain ⟨k, x, hk, hx, rfl, rfl, H, nq, rfl⟩ := hrel
    by_cases hlt : k < s.size
    · have HS := Lib.hid (Utf.quote_step s.data.toList k (by rw [hnn.out]; exact hlt))
      have hle := @Utf.szAt_lt s.data.toList k
      rw [hnn.out] at hle
      have h4 := Utf.szAt_le4 s.data.toList k
      have he := esc_size s[k]
      have hg := Lib.hid (formAt_some _ _ _ (get_l s k hlt))
      by_cases h0 : Utf.szAt s.data.toList k = 0
      · have h0' : ((Utf.szAt s.data.toList k : Int) == 0) = true := by simp [h0]
        have h0h := Lib.hid h0
        clear h0 hle
        go_wp2_with (first
          | (go_at_call 27; refine (ref_Size s k _ _ (by omega) hs (by omega)).mono ?_; rintro e w' ⟨rfl, rfl⟩)
          | (go_at_call 31; refine (ref_pair s[k] _ _ (by omega)).mono ?_; rintro e w' ⟨rfl, nq, rfl⟩))
        all_goals go_roundw
        all_goals first
          | (case measure => simp [intOf]; omega)
          | (case rel =>
              refine ⟨k + 1, _, by omega, ?_, rfl, by go_num, Lib.hid ?_, _, rfl⟩
              · simp only [ByteArray.size_append]; (try simp only [ByteArray.size_mk', List.size_toArray, List.length_cons, List.length_nil]); omega
              · refine quote_round _ _ _ _ _ _ (by rw [h0h.out]; rfl) H.out ?_ (by rw [hnn.out]; exact hlt)
                simp only [cat_list, S_list, List.append_assoc]
                congr 1
                rw [hg.out, h0h.out]
                go_light
                grind)
      · have hle2 := hle h0
        have h0' : ((Utf.szAt s.data.toList k : Int) == 0) = false := by simp [h0]
        have h0h := Lib.hid h0
        have hx2 : (s.extract k (k + Utf.szAt s.data.toList k)).size = Utf.szAt s.data.toList k := by simp only [ByteArray.size_extract]; omega
        have hx3 : (s.extract k (k + Utf.szAt s.data.toList k)).size ≤ 4 := by omega
        have hx2h := Lib.hid hx2
        clear h0 hle hx2
        go_wp2_with (first
          | (go_at_call 27; refine (ref_Size s k _ _ (by omega) hs (by omega)).mono ?_; rintro e w' ⟨rfl, rfl⟩)
          | (go_at_call 31; refine (ref_pair s[k] _ _ (by omega)).mono ?_; rintro e w' ⟨rfl, nq, rfl⟩))
        all_goals go_roundw
        all_goals first
          | (case measure => have := h0h.out; simp [intOf]; omega)
          | (case rel =>
              have h00 := h0h.out
              have hxx := hx2h.out
              refine ⟨k + Utf.szAt s.data.toList k, _, by omega, ?_, rfl, by go_num, Lib.hid ?_, _, rfl⟩
              · simp only [ByteArray.size_append]; (try simp only [ByteArray.size_mk', List.size_toArray, List.length_cons, List.length_nil]); omega
              · refine quote_round _ _ _ _ _ _ (by omega) H.out ?_ (by rw [hnn.out]; exact hlt)
                simp only [cat_list, S_list, sub_list, List.append_assoc]
                congr 1
                rw [hg.out]
                clear hxx
                go_light
                grind)
    · go_wp2
      go_ret
      refine ⟨ret_str (S_of ?_), _, rfl⟩
      rw [← H.out, Utf.quote_end _ _ (by rw [hnn.out]; omega), cat_list]; simp
end Go.Proofs.Ytckojcfepldhlaa
