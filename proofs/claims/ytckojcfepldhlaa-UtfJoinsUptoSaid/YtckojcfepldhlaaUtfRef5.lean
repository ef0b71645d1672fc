/- The reference of layer 3 walked, part 5: Unquote. -/
import Derived.Test.YtckojcfepldhlaaUtfRef4
namespace Go.Proofs.Ytckojcfepldhlaa
open Go.RowKit
set_option linter.unusedVariables false

theorem unq34 (l out : List UInt8) (k : Nat) (u : UInt8) (h : l[k]? = some u) (h34 : u.toNat = 34) : Utf.unqS 0 k out (l.drop k) = some (out, k + 1) := by
  obtain ⟨hk, rfl⟩ := List.getElem?_eq_some_iff.1 h
  rw [List.drop_eq_getElem_cons hk, Utf.unqS, if_pos h34]
theorem unq92 (l out : List UInt8) (k : Nat) (u : UInt8) (h : l[k]? = some u) (h92 : u.toNat = 92) : Utf.unqS 0 k out (l.drop k) =
    if (Utf.escAt l k).2 = 0 then none else Utf.unqS 0 (k + (Utf.escAt l k).2) (out ++ [(Utf.escAt l k).1]) (l.drop (k + (Utf.escAt l k).2)) := by
  obtain ⟨hk, rfl⟩ := List.getElem?_eq_some_iff.1 h
  have e : Utf.escAt (l[k] :: l.drop (k + 1)) 0 = Utf.escAt l k := by rw [← List.drop_eq_getElem_cons hk, Utf.escAt_drop]; rfl
  rw [List.drop_eq_getElem_cons hk, Utf.unqS, if_neg (by omega), if_pos h92, e]
  split
  · rfl
  · rw [Utf.unqS_drop, List.drop_drop, show k + 1 + ((Utf.escAt l k).2 - 1) = k + (Utf.escAt l k).2 from by omega]
theorem unqOther (l out : List UInt8) (k : Nat) (u : UInt8) (h : l[k]? = some u) (h34 : u.toNat ≠ 34) (h92 : u.toNat ≠ 92) : Utf.unqS 0 k out (l.drop k) = Utf.unqS 0 (k + 1) (out ++ [u]) (l.drop (k + 1)) := by
  obtain ⟨hk, rfl⟩ := List.getElem?_eq_some_iff.1 h
  rw [List.drop_eq_getElem_cons hk, Utf.unqS, if_neg h34, if_neg h92]
theorem unqEnd (l out : List UInt8) (k : Nat) (h : l.length ≤ k) : Utf.unqS 0 k out (l.drop k) = none := by
  rw [List.drop_eq_nil_of_le h]; rfl
theorem unq_nil (l : List UInt8) (h : l[0]? = none) : Utf.unq l = ([], 0, 2) := by
  cases l with
  | nil => rfl
  | cons b t => simp at h
theorem unq_not (l : List UInt8) (u : UInt8) (h : l[0]? = some u) (hu : u.toNat ≠ 34) : Utf.unq l = ([], 0, 2) := by
  cases l with
  | nil => rfl
  | cons b t => simp at h; subst h; simp [Utf.unq, hu]
theorem unq_yes (l : List UInt8) (u : UInt8) (h : l[0]? = some u) (hu : u.toNat = 34) : Utf.unq l = Utf.unqM l (Utf.unqS 0 1 [] (l.drop 1)) := by
  cases l with
  | nil => simp at h
  | cons b t => simp at h; subst h; simp [Utf.unq, hu]

theorem escAt_le (l : List UInt8) (k : Nat) : (Utf.escAt l k).2 ≤ 4 := by
  unfold Utf.escAt
  split
  · simp
  · (repeat' split) <;> first | (simp; done) | (unfold Utf.escX; (repeat' split) <;> simp)

/-- what Unquote returns -/
def unqR (l : List UInt8) : Value := .tuple #[.string (S (Utf.unq l).1), .int .i64 (Utf.unq l).2.1, .int .i64 (Utf.unq l).2.2]
theorem unqR_bad (l : List UInt8) (h : Utf.unq l = ([], 0, 2)) : Ending.returned (.tuple #[.string ⟨#[]⟩, .int .i64 0, .int .i64 2]) = .returned (unqR l) := by
  unfold unqR; rw [h]; rfl
theorem unqR_good (l : List UInt8) (n : Nat) {x : ByteArray} {a : Int} (h : Utf.unq l = (x.data.toList, n, 0)) (ha : a = n) : Ending.returned (.tuple #[.string x, .int .i64 a, .int .i64 0]) = .returned (unqR l) := by
  subst ha; unfold unqR; rw [h]; rfl
theorem escAt_lt {l : List UInt8} {k : Nat} : (Utf.escAt l k).2 ≠ 0 → k + (Utf.escAt l k).2 ≤ l.length := by
  unfold Utf.escAt
  cases h : l[k + 1]? with
  | none => simp
  | some c =>
    obtain ⟨h1, _⟩ := List.getElem?_eq_some_iff.1 h
    simp only
    repeat' split
    all_goals intro h0
    all_goals first
      | (exact absurd rfl h0)
      | (show k + 2 ≤ _; omega)
      | skip
    cases h2 : l[k + 2]? with
    | none => simp [h2, Utf.escX] at h0
    | some a =>
      cases h3 : l[k + 3]? with
      | none => simp [h2, h3, Utf.escX] at h0
      | some b =>
        obtain ⟨h4, _⟩ := List.getElem?_eq_some_iff.1 h3
        rw [h2, h3] at h0
        simp only [Utf.escX] at h0 ⊢
        split at h0
        · simp_all; omega
        · exact absurd rfl h0

set_option maxHeartbeats 1000000 in
set_option maxRecDepth 100000 in
theorem ref_Unquote_no (s : ByteArray) (w : World) (hs : s.size ≤ 1000000000) (h0 : ∀ h : 0 < s.size, s[0].toNat ≠ 34) :
    Calls Try.prog 21 #[.string s] w fun e w' => e = .returned (unqR s.data.toList) ∧ Below w.heap.size w w' := by
  by_cases hz : 0 < s.size
  · have h := Lib.hid (unqR_bad _ (unq_not _ _ (get_l s 0 hz) (h0 hz)))
    have hq : ((s[0].toNat : Int) == 34) = false := ine (by have := h0 hz; omega)
    have hq' : ((s[0].toNat : Int) != 34) = true := bne_t (by have := h0 hz; omega)
    have hzz : ((s.size : Int) == 0) = false := ine (by omega)
    clear h0
    go_enter Try.func21, Try.ntmps21
    go_wp2
    go_ret3
    exact ⟨h.out, Below.refl _ _⟩
  · have h := Lib.hid (unqR_bad _ (unq_nil _ (get_l_none s 0 hz)))
    have hzz : ((s.size : Int) == 0) = true := ieq (by omega)
    clear h0
    go_enter Try.func21, Try.ntmps21
    go_wp2
    go_ret3
    exact ⟨h.out, Below.refl _ _⟩

set_option maxHeartbeats 1000000 in
set_option maxRecDepth 100000 in
theorem ref_Unquote_yes (s : ByteArray) (w : World) (hs : s.size ≤ 1000000000) (hz : 0 < s.size) (h0 : s[0].toNat = 34) :
    Calls Try.prog 21 #[.string s] w fun e w' => e = .returned (unqR s.data.toList) ∧ Below w.heap.size w w' := by
  have hU := Lib.hid (unq_yes _ _ (get_l s 0 hz) h0)
  have hnn := Lib.hid (len_l s)
  have hq' : ((s[0].toNat : Int) != 34) = false := bne_f (by omega)
  have hzz : ((s.size : Int) == 0) = false := ine (by omega)
  clear h0
  go_enter Try.func21, Try.ntmps21
  go_wp2
  go_loopw [5, 6] (fun t v wr => ∃ (k : Nat) (x : ByteArray), k ≤ s.size ∧ 1 ≤ k ∧ x.size ≤ k ∧ t = .string x ∧ v = .int .i64 k ∧ Hid (Utf.unqS 0 k x.data.toList (s.data.toList.drop k) = Utf.unqS 0 1 [] (s.data.toList.drop 1)) ∧ Below w.heap.size w wr) (fun _ v _ => s.size - (intOf v).toNat)
  case atStart => exact ⟨1, _, by omega, by omega, Nat.zero_le _, rfl, rfl, Lib.hid rfl, Below.refl _ _⟩
  case round =>
    obtain ⟨k, x, hk, hk1, hx, rfl, rfl, H, hb⟩ := hrel
    by_cases hlt : k < s.size
    · have hg := Lib.hid (get_l s k hlt)
      by_cases h34 : s[k].toNat = 34
      · have hu := Lib.hid (unq34 _ x.data.toList _ _ hg.out h34)
        have e34 : ((s[k].toNat : Int) == 34) = true := ieq (by omega)
        have h34h := Lib.hid h34
        clear h34
        have j1 : 0 ≤ (k : Int) + 1 := by omega
        have j2 : (k : Int) + 1 ≤ s.size := by omega
        have hQ := Lib.hid (fun W => ref_Quote x _ W rfl (by omega))
        by_cases hqq : Utf.quote x.data.toList = (s.data.toList.drop 0).take (k + 1 - 0)
        · have hn := neq_yes (S (Utf.quote x.data.toList)) (s.extract 0 (k + 1)) (by rw [sub_list]; exact hqq)
          have hqh := Lib.hid hqq
          clear hqq
          go_wp2
          go_quiet ((go_at_call 19; exact q_drew (hQ.out _)))
          go_wp2
          go_ret3
          refine ⟨?_, below_drewN hb _⟩
          refine unqR_good _ (k + 1) ?_ (by omega)
          rw [hU.out, ← H.out, hu.out, Utf.unqM, if_pos (show Utf.quote x.data.toList = s.data.toList.take (k + 1) from hqh.out)]
        · have hn := neq_no (S (Utf.quote x.data.toList)) (s.extract 0 (k + 1)) (by rw [sub_list]; exact hqq)
          have hqh := Lib.hid hqq
          clear hqq
          go_wp2
          go_quiet ((go_at_call 19; exact q_drew (hQ.out _)))
          go_wp2
          go_ret3
          refine ⟨?_, below_drewN hb _⟩
          refine unqR_bad _ ?_
          rw [hU.out, ← H.out, hu.out, Utf.unqM, if_neg (show ¬ Utf.quote x.data.toList = s.data.toList.take (k + 1) from hqh.out)]
      · have e34 : ((s[k].toNat : Int) == 34) = false := ine (by omega)
        by_cases h92 : s[k].toNat = 92
        · have hu := Lib.hid (unq92 s.data.toList x.data.toList _ _ hg.out h92)
          have e92 : ((s[k].toNat : Int) != 92) = false := bne_f (by omega)
          clear h34 h92
          have h4 := escAt_le s.data.toList k
          have hlt2 := @escAt_lt s.data.toList k
          by_cases hz2 : (Utf.escAt s.data.toList k).2 = 0
          · have hz3 : (((Utf.escAt s.data.toList k).2 : Int) == 0) = true := ieq (by omega)
            have hzh := Lib.hid hz2
            clear hz2 hlt2
            go_wp2_with (go_at_call 33; refine (ref_escape s _ k _ _ rfl (by omega) hs hlt).mono ?_; rintro e w' ⟨rfl, nq, rfl⟩)
            go_ret3
            refine ⟨?_, below_drewN hb _⟩
            refine unqR_bad _ ?_
            rw [hU.out, ← H.out, hu.out, if_pos hzh.out]; rfl
          · have hz3 : (((Utf.escAt s.data.toList k).2 : Int) == 0) = false := ine (by omega)
            have hlt3 := hlt2 hz2
            rw [hnn.out] at hlt3
            have hzh := Lib.hid hz2
            have hcv := conv_byte_at
            have hs1 : (S [(Utf.escAt s.data.toList k).1]).size ≤ 1 := Nat.le_refl _
            clear hz2 hlt2
            go_wp2_with (go_at_call 33; refine (ref_escape s _ k _ _ rfl (by omega) hs hlt).mono ?_; rintro e w' ⟨rfl, nq, rfl⟩)
            go_roundw
            case rel =>
              refine ⟨k + (Utf.escAt s.data.toList k).2, _, by omega, by omega, ?_, rfl, by go_num, Lib.hid ?_, (below_drewN hb _).alloc hb.size _⟩
              · simp only [ByteArray.size_append]; have := hzh.out; omega
              · rw [← H.out, hu.out, if_neg hzh.out, cat_list, S_list]
            case measure => have := hzh.out; simp [intOf]; omega
        · have hu := Lib.hid (unqOther s.data.toList x.data.toList _ _ hg.out h34 h92)
          have e92 : ((s[k].toNat : Int) != 92) = true := bne_t (by omega)
          have hsz : (s.extract k (k + 1)).size ≤ 1 := by simp only [ByteArray.size_extract]; omega
          clear h34 h92
          go_wp2
          go_roundw
          case rel =>
            refine ⟨k + 1, _, by omega, by omega, ?_, rfl, by go_num, Lib.hid ?_, hb⟩
            · simp only [ByteArray.size_append]; omega
            · rw [← H.out, hu.out, cat_list, sub_list, Nat.add_sub_cancel_left]
              congr 2
              obtain ⟨hk, e⟩ := List.getElem?_eq_some_iff.1 hg.out
              rw [List.drop_eq_getElem_cons hk, e]; rfl
          case measure => simp [intOf]; omega
    · have hu := Lib.hid (unqEnd s.data.toList x.data.toList k (by rw [hnn.out]; omega))
      go_wp2
      go_ret3
      refine ⟨?_, hb⟩
      refine unqR_bad _ ?_
      rw [hU.out, ← H.out, hu.out]; rfl
end Go.Proofs.Ytckojcfepldhlaa
