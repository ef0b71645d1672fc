/- The program's layer 3 walked, part 1: wrong, Bad, Valid, Count. -/
import Derived.Test.YtfoaaglbpmmhiaaGreatDoorKitA
import Derived.Test.YtfoaaglbpmmhiaaGreatDoorUtfDec
import Derived.Test.YtfoaaglbpmmhiaaGreatDoorShelf
namespace Go.Proofs.YtfoaaglbpmmhiaaGreatDoor
open Go.RowKit
set_option linter.unusedVariables false

theorem rep_list (m : List UInt8) (h : 0 < m.length) : Lib.hasPrefix m [239, 191, 189] = true ↔
    (Utf.gb m 0 = 239 ∧ (decide (1 < m.length) = true ∧ Utf.gb m 1 = 191) ∧ decide (2 < m.length) = true ∧ Utf.gb m 2 = 189) := by
  have e : ∀ (b : UInt8) (n : Nat), n < 256 → (b.toNat = n ↔ UInt8.ofNat n = b) := by
    intro b n hn
    constructor
    · rintro rfl; simp
    · rintro rfl; simp [UInt8.toNat_ofNat', Nat.mod_eq_of_lt hn]
  match m, h with
  | [a], _ => simp [Lib.hasPrefix, List.isPrefixOf]
  | [a, b], _ => simp [Lib.hasPrefix, List.isPrefixOf]
  | a :: b :: c :: t, _ =>
    simp only [Lib.hasPrefix, List.isPrefixOf, Bool.and_eq_true, beq_iff_eq, Utf.gb, List.getElem?_cons_zero, List.getElem?_cons_succ, Option.getD_some, List.length_cons, decide_eq_true_eq, e _ _ (show 239 < 256 by omega), e _ _ (show 191 < 256 by omega), e _ _ (show 189 < 256 by omega)]
    constructor
    · rintro ⟨h1, h2, h3, _⟩; exact ⟨h1, ⟨by omega, h2⟩, by omega, h3⟩
    · rintro ⟨h1, ⟨_, h2⟩, _, h3⟩; exact ⟨h1, h2, h3, trivial⟩
theorem isRep_prefix (l : List UInt8) (i : Nat) (hi : i < l.length) : Lib.hasPrefix (l.drop i) [239, 191, 189] = true ↔ Utf.isRep l i := by
  have hg : ∀ k, Utf.gb (l.drop i) k = Utf.gb l (i + k) := fun k => by unfold Utf.gb; rw [List.getElem?_drop]
  rw [rep_list _ (by simp; omega), hg, hg, hg, List.length_drop]
  unfold Utf.isRep
  rw [show decide (1 < l.length - i) = decide (i + 1 < l.length) from by rw [decide_eq_decide]; omega, show decide (2 < l.length - i) = decide (i + 2 < l.length) from by rw [decide_eq_decide]; omega]
  rfl
theorem below_iter (w : World) (s : ByteArray) (k : Nat) : Below w.heap.size w (w.iter s k) := (Below.refl _ _).alloc (Nat.le_refl _) _

set_option maxHeartbeats 400000 in
theorem utf_wrong (s : ByteArray) (l : List UInt8) (i : Nat) (a c : Int) (w : World) (hl : s.data.toList = l) (ha : a = i) (hc : c = ((Utf8.decode s i).1 : Nat)) (hs : s.size ≤ 1000000000) (hi : i < s.size) :
    Calls Tryz.prog 198 #[.string s, .int .i64 a, .int .i32 c] w fun e w' => e = .returned (.bool (decide (Utf.szAt l i = 0))) ∧ w = w' := by
  have hls : s.data.toList.length = s.size := len_l s
  have hsub : (s.extract i s.size).data.toList = s.data.toList.drop i := by rw [sub_list, List.take_of_length_le (by simp)]
  have hP := fun W => Tryz.strings_HasPrefix (s.extract i s.size) ⟨#[239, 191, 189]⟩ W
  rw [hsub] at hP
  have hp := isRep_prefix s.data.toList i (by omega)
  subst ha hl
  by_cases h0 : Utf.szAt s.data.toList i = 0
  · have hb := Utf.decode_bad s i (by omega) h0
    have hp' : Lib.hasPrefix (s.data.toList.drop i) [239, 191, 189] = false := by
      cases hh : Lib.hasPrefix (s.data.toList.drop i) [239, 191, 189] with
      | false => rfl
      | true => exact absurd (hp.1 hh) hb.2
    have hc' : (c == 65533) = true := by rw [hc, hb.1]; rfl
    have hd := Lib.hid (decide_eq_true h0)
    rw [show (⟨#[239, 191, 189]⟩ : ByteArray).data.toList = [239, 191, 189] from rfl, hp'] at hP
    have HP := Lib.hid hP
    clear hP hp hb h0 hp' hls hsub hc
    go_enter Tryz.func198, Tryz.ntmps198
    go_wp2_with (go_at_call 220; (with_reducible refine (HP.out _).mono ?_); rintro e w' ⟨rfl, rfl⟩)
    go_ret
    exact ⟨ret_bool hd.out.symm, rfl⟩
  · have hg := Utf.decode_good s i (by omega) h0
    have hd := Lib.hid (decide_eq_false h0)
    by_cases hr : (Utf8.decode s i).1 = 65533
    · have hp' : Lib.hasPrefix (s.data.toList.drop i) [239, 191, 189] = true := hp.2 (hg.2.1 hr)
      have hc' : (c == 65533) = true := by rw [hc, hr]; rfl
      rw [show (⟨#[239, 191, 189]⟩ : ByteArray).data.toList = [239, 191, 189] from rfl, hp'] at hP
      have HP := Lib.hid hP
      clear hP hp hg h0 hp' hls hsub hc hr
      go_enter Tryz.func198, Tryz.ntmps198
      go_wp2_with (go_at_call 220; (with_reducible refine (HP.out _).mono ?_); rintro e w' ⟨rfl, rfl⟩)
      go_ret
      exact ⟨ret_bool hd.out.symm, rfl⟩
    · have hc' : (c == 65533) = false := ine (by omega)
      clear hP hp hg h0 hls hsub hc hr
      go_enter Tryz.func198, Tryz.ntmps198
      go_wp2
      go_ret
      exact ⟨ret_bool hd.out.symm, rfl⟩

theorem dec_pos (s : ByteArray) (i : Nat) (hi : i < s.size) : (Utf8.decode s i).2 = max 1 (Utf.szAt s.data.toList i) := by
  have hls : s.data.toList.length = s.size := len_l s
  by_cases h0 : Utf.szAt s.data.toList i = 0
  · rw [(Utf.decode_bad s i (by omega) h0).1, h0]; rfl
  · rw [(Utf.decode_good s i (by omega) h0).1]; omega

set_option maxHeartbeats 400000 in
theorem utf_Bad (s : ByteArray) (l : List UInt8) (w : World) (hl : s.data.toList = l) (hs : s.size ≤ 1000000000) :
    Calls Tryz.prog 162 #[.string s] w fun e w' => e = .returned (.int .i64 (Utf.bad l)) ∧ Below w.heap.size w w' := by
  have hnn := Lib.hid (len_l s)
  subst hl
  go_enter Tryz.func162, Tryz.ntmps162
  go_wp2
  go_loopw [] (fun wr => ∃ k : Nat, k ≤ s.size ∧ wr = w.iter s k ∧ Hid (Utf.badS 0 k (s.data.toList.drop k) = Utf.bad s.data.toList)) (fun wr => s.size - wr.iterPos w.heap.size)
  case atStart => exact ⟨0, by omega, rfl, rfl⟩
  case round =>
    obtain ⟨k, hk, rfl, H⟩ := hrel
    by_cases hlt : k < s.size
    · have hnx := fun ty => run_next_any (P := Tryz.prog) w s k ty hlt
      have HS := Lib.hid (Utf.badS_step s.data.toList k (by rw [hnn.out]; exact hlt))
      have hdp := dec_pos s k hlt
      have hle := @Utf.szAt_lt s.data.toList k
      rw [hnn.out] at hle
      by_cases h0 : Utf.szAt s.data.toList k = 0
      · have h0' : decide (Utf.szAt s.data.toList k = 0) = true := decide_eq_true h0
        have h0h := Lib.hid h0
        clear h0 hle hdp
        go_wp2_with (go_at_call 198; refine (utf_wrong s _ k _ _ _ rfl (by omega) (by omega) hs hlt).mono ?_; rintro e w' ⟨rfl, rfl⟩)
        go_ret
        refine ⟨ret_int (by rw [← H.out, HS.out, if_pos h0h.out]), below_iter _ _ _⟩
      · have hle2 := hle h0
        have h0' : decide (Utf.szAt s.data.toList k = 0) = false := decide_eq_false h0
        have h0h := Lib.hid h0
        rw [show max 1 (Utf.szAt s.data.toList k) = Utf.szAt s.data.toList k from by omega] at hdp
        have hdh := Lib.hid hdp
        clear h0 hle hdp
        go_wp2_with (go_at_call 198; refine (utf_wrong s _ k _ _ _ rfl (by omega) (by omega) hs hlt).mono ?_; rintro e w' ⟨rfl, rfl⟩)
        go_roundw
        case rel => exact ⟨k + Utf.szAt s.data.toList k, by omega, by rw [hdh.out], Lib.hid (by rw [← H.out, HS.out, if_neg h0h.out])⟩
        case measure => have := h0h.out; have := hdh.out; simp; omega
    · have hnx := fun ty => run_next_end (P := Tryz.prog) w s k ty hlt
      go_wp2
      go_ret
      refine ⟨ret_int (by rw [← H.out, Utf.bad_end _ _ (by rw [hnn.out]; omega)]), below_iter _ _ _⟩

set_option maxHeartbeats 400000 in
theorem utf_Valid (s : ByteArray) (l : List UInt8) (w : World) (hl : s.data.toList = l) (hs : s.size ≤ 1000000000) :
    Calls Tryz.prog 121 #[.string s] w fun e w' => e = .returned (.bool (decide (Utf.bad l < 0))) ∧ Below w.heap.size w w' := by
  go_enter Tryz.func121, Tryz.ntmps121
  go_wp2_with (go_at_call 162; refine (utf_Bad s l _ hl hs).mono ?_; rintro e w' ⟨rfl, hb⟩)
  go_ret
  exact ⟨rfl, hb⟩

end Go.Proofs.YtfoaaglbpmmhiaaGreatDoor
