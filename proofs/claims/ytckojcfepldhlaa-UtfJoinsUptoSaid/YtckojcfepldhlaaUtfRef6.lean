/- The reference of layer 3 walked, part 6: Unhex. -/
import Derived.Test.YtckojcfepldhlaaUtfRef5
import Derived.Deep.RegionWith
namespace Go.Proofs.Ytckojcfepldhlaa
open Go.RowKit
set_option linter.unusedVariables false

/-- what Unhex returns -/
def unhR (l : List UInt8) : Value := .tuple #[.string (S (Utf.unhex l).1), .int .i64 (Utf.unhex l).2]

/-- two digits at a time, with what came before -/
def unhRest (out : List UInt8) (l : List UInt8) : List UInt8 × Nat := match Utf.unhexL l with
  | none => ([], 2)
  | some r => (out ++ r, 0)
theorem unh_start (l : List UInt8) : unhRest [] l = Utf.unhex l := by unfold unhRest Utf.unhex; cases Utf.unhexL l <;> rfl
theorem unh_end (out l : List UInt8) (k : Nat) (h : l.length ≤ k) : unhRest out (l.drop k) = (out, 0) := by
  rw [List.drop_eq_nil_of_le h]; simp [unhRest, Utf.unhexL]
theorem unh_yes (out l : List UInt8) (k : Nat) (a b : UInt8) (h : l[k]? = some a) (h' : l[k + 1]? = some b) (va : 0 ≤ Utf.val a) (vb : 0 ≤ Utf.val b) :
    unhRest out (l.drop k) = unhRest (out ++ [UInt8.ofNat (16 * (Utf.val a).toNat + (Utf.val b).toNat)]) (l.drop (k + 2)) := by
  obtain ⟨hk, rfl⟩ := List.getElem?_eq_some_iff.1 h
  obtain ⟨hk', rfl⟩ := List.getElem?_eq_some_iff.1 h'
  rw [List.drop_eq_getElem_cons hk, List.drop_eq_getElem_cons hk']
  unfold unhRest
  rw [Utf.unhexL, if_pos ⟨va, vb⟩]
  cases Utf.unhexL (l.drop (k + 1 + 1)) <;> simp
theorem unh_no (out l : List UInt8) (k : Nat) (a b : UInt8) (h : l[k]? = some a) (h' : l[k + 1]? = some b) (v : ¬ (0 ≤ Utf.val a ∧ 0 ≤ Utf.val b)) : unhRest out (l.drop k) = ([], 2) := by
  obtain ⟨hk, rfl⟩ := List.getElem?_eq_some_iff.1 h
  obtain ⟨hk', rfl⟩ := List.getElem?_eq_some_iff.1 h'
  rw [List.drop_eq_getElem_cons hk, List.drop_eq_getElem_cons hk']
  unfold unhRest
  rw [Utf.unhexL, if_neg v]
theorem unhexL_odd : ∀ (n : Nat) (l : List UInt8), l.length = 2 * n + 1 → Utf.unhexL l = none
  | 0, [_], _ => rfl
  | 0, [], h => by simp at h
  | 0, _ :: _ :: _, h => by simp at h
  | n + 1, [], h => by simp at h
  | n + 1, [_], h => by simp at h
  | n + 1, a :: b :: t, h => by
    have := unhexL_odd n t (by simp at h; omega)
    simp [Utf.unhexL, this]
theorem unh_odd (l : List UInt8) (h : l.length % 2 ≠ 0) : Utf.unhex l = ([], 2) := by
  have := unhexL_odd (l.length / 2) l (by omega)
  simp [Utf.unhex, this]
theorem unhR_bad (l : List UInt8) (h : Utf.unhex l = ([], 2)) : Ending.returned (.tuple #[.string ⟨#[]⟩, .int .i64 2]) = .returned (unhR l) := by
  unfold unhR; rw [h]; rfl
theorem unhR_good (l : List UInt8) {x : ByteArray} (h : Utf.unhex l = (x.data.toList, 0)) : Ending.returned (.tuple #[.string x, .int .i64 0]) = .returned (unhR l) := by
  unfold unhR; rw [h]; rfl

theorem still_of {P : Program} {f : FuncId} {args : Array Value} {w : World} {v : Value} (h : Calls P f args w fun e w' => e = .returned v ∧ w = w') : Calls P f args w fun e w' => e = .returned v ∧ w' = w :=
  h.mono fun _ _ ⟨he, hm⟩ => ⟨he, hm.symm⟩
set_option maxHeartbeats 1000000 in
set_option maxRecDepth 100000 in
theorem ref_Unhex_odd (s : ByteArray) (w : World) (hs : s.size ≤ 1000000000) (h0 : s.size % 2 ≠ 0) :
    Calls Try.prog 23 #[.string s] w fun e w' => e = .returned (unhR s.data.toList) ∧ Below w.heap.size w w' := by
  have h := Lib.hid (unhR_bad _ (unh_odd s.data.toList (by rw [len_l]; exact h0)))
  have hq : ((s.size : Int) % 2 != 0) = true := bne_t (by omega)
  clear h0
  go_enter Try.func23, Try.ntmps23
  go_wp2
  go_ret2
  exact ⟨h.out, Below.refl _ _⟩

set_option maxHeartbeats 1000000 in
set_option maxRecDepth 100000 in
theorem ref_Unhex_even (s : ByteArray) (n : Nat) (w : World) (hs : s.size ≤ 1000000000) (h0 : s.size = 2 * n) :
    Calls Try.prog 23 #[.string s] w fun e w' => e = .returned (unhR s.data.toList) ∧ Below w.heap.size w w' := by
  have hq : ((s.size : Int) % 2 != 0) = false := bne_f (by omega)
  have hnn := Lib.hid (len_l s)
  have hns : n ≤ s.size := by omega
  have h0h := Lib.hid h0
  clear h0
  go_enter Try.func23, Try.ntmps23
  go_wp2
  go_loopw [4, 5] (fun t v wr => ∃ (m : Nat) (x : ByteArray), m ≤ n ∧ x.size ≤ m ∧ t = .string x ∧ v = .int .i64 (2 * m : Nat) ∧ Hid (unhRest x.data.toList (s.data.toList.drop (2 * m)) = Utf.unhex s.data.toList) ∧ Below w.heap.size w wr) (fun _ v _ => s.size - (intOf v).toNat)
  case atStart => exact ⟨0, _, by omega, Nat.zero_le _, rfl, rfl, Lib.hid (unh_start _), Below.refl _ _⟩
  case round =>
    obtain ⟨m, x, hm, hx, rfl, rfl, H, hb⟩ := hrel
    obtain ⟨k, hk⟩ : ∃ k, 2 * m = k := ⟨_, rfl⟩
    rw [hk] at H ⊢
    have hkh := Lib.hid hk
    clear hk
    by_cases hlt : m < n
    · have hk1 : k + 1 < s.size := by have := h0h.out; have := hkh.out; omega
      have hg := Lib.hid (get_l s k (by omega))
      have hg1 := Lib.hid (get_l s (k + 1) hk1)
      have v1 := val_lt s[k]
      have v2 := val_lt s[k + 1]
      have d2 := Lib.hid (fun W => ref_digit s[k] _ W rfl)
      have d3 := Lib.hid (fun W => ref_digit s[k + 1] _ W rfl)
      have j1 : (k : Int) < s.size := by omega
      have j2 : (k : Int) + 1 < s.size := by omega
      have j4 : 0 ≤ (k : Int) + 1 := by omega
      by_cases va : 0 ≤ Utf.val s[k]
      · by_cases vb : 0 ≤ Utf.val s[k + 1]
        · have hu := Lib.hid (unh_yes x.data.toList _ k _ _ hg.out hg1.out va vb)
          go_wp2_with (first
            | (go_at_call 35; refine (ref_digit s[k] _ _ (by omega)).mono ?_; rintro e w' ⟨rfl, rfl⟩)
            | (go_at_call 35; refine (ref_digit s[k + 1] _ _ (by omega)).mono ?_; rintro e w' ⟨rfl, rfl⟩))
          have w1 : IntKind.i64.wrap ((k : Int) + 1) = (k : Int) + 1 := IntWalk.i64_in _ (by omega)
          have w2 : ((k : Int) + 1).toNat = k + 1 := by omega
          have w3 : IntKind.i64.wrap (16 * Utf.val s[k]) = 16 * Utf.val s[k] := IntWalk.i64_in _ (by omega)
          have w4 : IntKind.i64.wrap (16 * Utf.val s[k] + Utf.val s[k + 1]) = 16 * Utf.val s[k] + Utf.val s[k + 1] := IntWalk.i64_in _ (by omega)
          have w5 : IntKind.u8.wrap (16 * Utf.val s[k] + Utf.val s[k + 1]) = 16 * Utf.val s[k] + Utf.val s[k + 1] := IntWalk.u8_in _ (by omega)
          have hxv := hexval _ _ va vb
          generalize UInt8.ofNat (16 * (Utf.val s[k]).toNat + (Utf.val s[k + 1]).toNat) = c at hu hxv
          have hcv := conv_byte_drew wr c (16 * Utf.val s[k] + Utf.val s[k + 1]) hxv.symm
          have hs1 : (S [c]).size ≤ 1 := Nat.le_refl _
          clear hxv
          have hadd : ¬ 9223372036854775807 < x.size + (S [c]).size := by omega
          go_region_with (first | (go_at_call 35; (with_reducible refine (d2.out _).mono ?_); rintro e w' ⟨rfl, rfl⟩) | (go_at_call 35; (with_reducible refine (d3.out _).mono ?_); rintro e w' ⟨rfl, rfl⟩))
          all_goals
            clear hcv
            go_wp2
            go_roundw
            case rel =>
              refine ⟨m + 1, _, by omega, ?_, rfl, ?_, Lib.hid ?_, (hb.alloc hb.size _).drew⟩
              · simp only [ByteArray.size_append]; omega
              · have := hkh.out
                rw [show ((2 * (m + 1) : Nat) : Int) = (k : Int) + 2 from by omega]
              · rw [← H.out, hu.out, cat_list, S_list, show 2 * (m + 1) = k + 2 from by have := hkh.out; omega]
            case measure => simp [intOf]; omega
        · have hu := Lib.hid (unh_no x.data.toList _ k _ _ hg.out hg1.out (fun h => vb h.2))
          go_wp2_with (first
            | (go_at_call 35; refine (ref_digit s[k] _ _ (by omega)).mono ?_; rintro e w' ⟨rfl, rfl⟩)
            | (go_at_call 35; refine (ref_digit s[k + 1] _ _ (by omega)).mono ?_; rintro e w' ⟨rfl, rfl⟩))
          go_ret2
          refine ⟨?_, hb⟩
          refine unhR_bad _ ?_
          rw [← H.out, hu.out]
      · have hu := Lib.hid (unh_no x.data.toList _ k _ _ hg.out hg1.out (fun h => va h.1))
        go_wp2_with (go_at_call 35; refine (ref_digit s[k] _ _ (by omega)).mono ?_; rintro e w' ⟨rfl, rfl⟩)
        go_ret2
        refine ⟨?_, hb⟩
        refine unhR_bad _ ?_
        rw [← H.out, hu.out]
    · have hk1 : s.size ≤ k := by have := h0h.out; have := hkh.out; omega
      have hu := Lib.hid (unh_end x.data.toList s.data.toList k (by rw [hnn.out]; exact hk1))
      go_wp2
      go_ret2
      refine ⟨?_, hb⟩
      refine unhR_good _ ?_
      rw [← H.out, hu.out]
end Go.Proofs.Ytckojcfepldhlaa
