/- The program's layer 3 walked, part 7: Unquote. -/
import Derived.Test.YtckojcfepldhlaaUtfProg6
import Derived.Lib.SmallJoins
namespace Go.Proofs.Ytckojcfepldhlaa
open Go.RowKit
set_option linter.unusedVariables false

theorem conv_any (W : World) (B n : Nat) (v : Value) (l : List UInt8) (hown : W.ownsRow B 5 1 v n (Lib.byteCells l)) :
    (convert 36 9 v).run Try.prog W = .ok (.string (S l)) W := by
  rcases Joins.ownsRow_forms hown with ⟨rfl, rfl⟩ | ⟨g, cap, rfl⟩
  · have hl : l = [] := by have := hown.1; rw [Lib.byteCells_length] at this; exact List.eq_nil_of_length_eq_zero (by omega)
    subst hl
    rw [run_convert_bytes_nil (P := Try.prog) W 36 5 Try.underlying36 Try.underlying5 0 0 9 Try.underlying9]
    rfl
  · exact conv_row W B g n cap l hown

set_option maxHeartbeats 1000000 in
set_option maxRecDepth 100000 in
theorem utf_Unquote_no (s : ByteArray) (w : World) (hs : s.size ≤ 1000000000) (h0 : ∀ h : 0 < s.size, s[0].toNat ≠ 34) :
    Calls Try.prog 20 #[.string s] w fun e w' => e = .returned (unqR s.data.toList) ∧ Below w.heap.size w w' := by
  by_cases hz : 0 < s.size
  · have h := Lib.hid (unqR_bad _ (unq_not _ _ (get_l s 0 hz) (h0 hz)))
    have hq' : ((s[0].toNat : Int) != 34) = true := bne_t (by have := h0 hz; omega)
    have hzz : s.toList.isEmpty = false := by rw [ByteArray.toList_eq]; have := len_l s; cases hh : s.data.toList with
      | nil => rw [hh] at this; simp at this; omega
      | cons a t => rfl
    clear h0
    go_enter Try.func20, Try.ntmps20
    go_wp2
    go_ret3
    exact ⟨h.out, Below.refl _ _⟩
  · have h := Lib.hid (unqR_bad _ (unq_nil _ (get_l_none s 0 hz)))
    have hzz : s.toList.isEmpty = true := by rw [ByteArray.toList_eq]; have := len_l s; cases hh : s.data.toList with
      | nil => rfl
      | cons a t => rw [hh] at this; simp at this; omega
    clear h0
    go_enter Try.func20, Try.ntmps20
    go_wp2
    go_ret3
    exact ⟨h.out, Below.refl _ _⟩

set_option maxHeartbeats 2000000 in
set_option maxRecDepth 100000 in
theorem utf_Unquote_yes (s : ByteArray) (w : World) (hs : s.size ≤ 1000000000) (hz : 0 < s.size) (h0 : s[0].toNat = 34) :
    Calls Try.prog 20 #[.string s] w fun e w' => e = .returned (unqR s.data.toList) ∧ Below w.heap.size w w' := by
  have hU := Lib.hid (unq_yes _ _ (get_l s 0 hz) h0)
  have hnn := Lib.hid (len_l s)
  have hq' : ((s[0].toNat : Int) != 34) = false := bne_f (by omega)
  have hzz : s.toList.isEmpty = false := by rw [ByteArray.toList_eq]; have := len_l s; cases hh : s.data.toList with
    | nil => rw [hh] at this; simp at this; omega
    | cons a t => rfl
  obtain ⟨i0, hi, hz0, hz1, hz2⟩ := info_parts byte_info
  clear h0
  go_enter Try.func20, Try.ntmps20
  go_wp2
  go_loopw [5, 6] (fun t v wr => ∃ (k : Nat) (x : Value) (acc : List UInt8), k ≤ s.size ∧ 1 ≤ k ∧ acc.length ≤ k ∧ t = x ∧ v = .int .i64 k ∧ wr.ownsRow w.heap.size 5 1 x acc.length (Lib.byteCells acc) ∧ Hid (Utf.unqS 0 k acc (s.data.toList.drop k) = Utf.unqS 0 1 [] (s.data.toList.drop 1)) ∧ Below w.heap.size w wr) (fun _ v _ => s.size - (intOf v).toNat)
  case atStart => exact ⟨1, _, [], by omega, by omega, Nat.zero_le _, rfl, rfl, World.ownsRow_nil _ _ _ _, Lib.hid rfl, Below.refl _ _⟩
  case round =>
    obtain ⟨k, x, acc, hk, hk1, hx, rfl, rfl, hown, H, hb⟩ := hrel
    have hcv := conv_any wr w.heap.size _ _ acc hown
    by_cases hlt : k < s.size
    · have hg := Lib.hid (get_l s k hlt)
      by_cases h34 : s[k].toNat = 34
      · have hu := Lib.hid (unq34 _ acc _ _ hg.out h34)
        have e34 : ((s[k].toNat : Int) != 34) = false := bne_f (by omega)
        have hd : decide ((s.size : Int) ≤ (k : Int)) = false := decide_eq_false (by omega)
        have hd' : decide (s.size ≤ k) = false := decide_eq_false (by omega)
        have j1 : 0 ≤ (k : Int) + 1 := by omega
        have j2 : (k : Int) + 1 ≤ s.size := by omega
        have w1 : IntKind.i64.wrap ((k : Int) + 1) = (k : Int) + 1 := IntWalk.i64_in _ (by omega)
        have w2 : ((k : Int) + 1).toNat = k + 1 := by omega
        have hQ := Lib.hid (fun W => utf_Quote (S acc) acc W (S_list acc) (by rw [S_size]; omega))
        clear h34
        by_cases hqq : Utf.quote acc = (s.data.toList.drop 0).take (k + 1 - 0)
        · have hn := neq_yes (S (Utf.quote acc)) (s.extract 0 (k + 1)) (by rw [sub_list]; exact hqq)
          have hqh := Lib.hid hqq
          clear hqq
          go_wp2
          go_region_held3 (fun w' => True) (trivial) ((first | (go_at_call 18; (with_reducible refine (hQ.out _).mono ?_); rintro e w' ⟨rfl, hbq⟩)))
          all_goals
            go_wp2
            go_ret3
            refine ⟨?_, hb.drew.trans (hbq.mono hb.size)⟩
            refine unqR_good _ (k + 1) ?_ (Int.natCast_succ k).symm
            rw [hU.out, ← H.out, hu.out, Utf.unqM, if_pos (show Utf.quote acc = s.data.toList.take (k + 1) from hqh.out)]
            rfl
        · have hn := neq_no (S (Utf.quote acc)) (s.extract 0 (k + 1)) (by rw [sub_list]; exact hqq)
          have hqh := Lib.hid hqq
          clear hqq
          go_wp2
          go_region_held3 (fun w' => True) (trivial) ((first | (go_at_call 18; (with_reducible refine (hQ.out _).mono ?_); rintro e w' ⟨rfl, hbq⟩)))
          all_goals
            go_wp2
            go_ret3
            refine ⟨?_, hb.drew.trans (hbq.mono hb.size)⟩
            refine unqR_bad _ ?_
            rw [hU.out, ← H.out, hu.out, Utf.unqM, if_neg (show ¬ Utf.quote acc = s.data.toList.take (k + 1) from hqh.out)]
      · have e34 : ((s[k].toNat : Int) != 34) = true := bne_t (by omega)
        clear hcv
        by_cases h92 : s[k].toNat = 92
        · have hu := Lib.hid (unq92 s.data.toList acc _ _ hg.out h92)
          have e92 : ((s[k].toNat : Int) == 92) = true := ieq (by omega)
          clear h34 h92
          have h4 := escAt_le s.data.toList k
          have hlt2 := @escAt_lt s.data.toList k
          by_cases hz2 : (Utf.escAt s.data.toList k).2 = 0
          · have hz3 : (((Utf.escAt s.data.toList k).2 : Int) == 0) = true := ieq (by omega)
            have hzh := Lib.hid hz2
            clear hz2 hlt2
            go_wp2_with (go_at_call 32; refine (utf_unescape s _ k _ _ rfl (by omega) hs hlt).mono ?_; unfold escV; rintro e w' ⟨rfl, nq, rfl⟩)
            go_ret3
            refine ⟨?_, below_drewN hb _⟩
            refine unqR_bad _ ?_
            rw [hU.out, ← H.out, hu.out, if_pos hzh.out]; rfl
          · have hz3 : (((Utf.escAt s.data.toList k).2 : Int) == 0) = false := ine (by omega)
            have hlt3 := hlt2 hz2
            rw [hnn.out] at hlt3
            have hzh := Lib.hid hz2
            clear hz2 hlt2
            go_wp2_with (first
              | (go_at_call 32; refine (utf_unescape s _ k _ _ rfl (by omega) hs hlt).mono ?_; unfold escV; rintro e w' ⟨rfl, nq, rfl⟩)
              | (at_builtin; refine wpList_append_own _ rfl _ _ 36 rfl w.heap.size 5 i0 (.int .u8 0) 1 1 Try.underlying36 hi hz0 hz1 hz2 rfl (by decide) _ _ _ rfl (World.ownsRow.alloc (w := wr.drewN nq) hown _) ⟨wr.heap.size, 0, none⟩ 1 1 [.int .u8 (Utf.escAt s.data.toList k).1.toNat] rfl rfl ?c1 ?c2 ?c3 ?c4 ?c5 ?_))
            case c1 => exact cell_one_new (wr.drewN nq) _ _
            case c2 => intro u hu; simp at hu; subst hu; rfl
            case c3 => unfold maxLen; omega
            case c4 => omega
            case c5 => have := hb.size; simp; omega
            intro v' w2 hown2 hgrow2 _
            have hb2 := ((below_drewN hb nq).alloc hb.size (.cells #[.int .u8 (Utf.escAt s.data.toList k).1.toNat] 5)).grown hgrow2 (by have := hb.size; simp; omega) (fun g'' hg' => (hown.lt g'' hg').1)
            clear hgrow2
            go_wp2
            go_roundw
            case rel =>
              refine ⟨k + (Utf.escAt s.data.toList k).2, _, acc ++ [(Utf.escAt s.data.toList k).1], by omega, by omega, ?_, rfl, by go_num, ?_, Lib.hid ?_, hb2⟩
              · have := hzh.out; simp; omega
              · rw [Lib.byteCells_append, List.length_append]; exact hown2
              · rw [← H.out, hu.out, if_neg hzh.out]
            case measure => have := hzh.out; simp [intOf]; omega
        · have hu := Lib.hid (unqOther s.data.toList acc _ _ hg.out h34 h92)
          have e92 : ((s[k].toNat : Int) == 92) = false := ine (by omega)
          clear h34 h92
          go_wp2_with (at_builtin; refine wpList_append_own _ rfl _ _ 36 rfl w.heap.size 5 i0 (.int .u8 0) 1 1 Try.underlying36 hi hz0 hz1 hz2 rfl (by decide) _ _ _ rfl (hown.alloc _) ⟨wr.heap.size, 0, none⟩ 1 1 [.int .u8 s[k].toNat] rfl rfl ?c1 ?c2 ?c3 ?c4 ?c5 ?_)
          case c1 =>
            intro j u hj
            match j, hj with
            | 0, hj => simp at hj; subst hj; simp [Addr.add]
          case c2 => intro u hu; simp at hu; subst hu; rfl
          case c3 => unfold maxLen; omega
          case c4 => omega
          case c5 => have := hb.size; simp; omega
          intro v' w2 hown2 hgrow2 _
          have hb2 := (hb.alloc hb.size (.cells #[.int .u8 s[k].toNat] 5)).grown hgrow2 (by have := hb.size; simp; omega) (fun g'' hg' => (hown.lt g'' hg').1)
          clear hgrow2
          go_wp2
          go_roundw
          case rel =>
            refine ⟨k + 1, _, acc ++ [s[k]], by omega, by omega, by simp; omega, rfl, by go_num, ?_, Lib.hid ?_, hb2⟩
            · rw [Lib.byteCells_append, List.length_append]; exact hown2
            · rw [← H.out, hu.out]
          case measure => simp [intOf]; omega
    · have hu := Lib.hid (unqEnd s.data.toList acc k (by rw [hnn.out]; omega))
      have hd : decide ((s.size : Int) ≤ (k : Int)) = true := decide_eq_true (by omega)
      have hd' : decide (s.size ≤ k) = true := decide_eq_true (by omega)
      go_wp2
      go_quiet (fail)
      go_wp2
      go_ret3
      refine ⟨?_, below_drewN hb _⟩
      refine unqR_bad _ ?_
      rw [hU.out, ← H.out, hu.out]; rfl

theorem utf_Unquote (s : ByteArray) (l : List UInt8) (w : World) (hl : s.data.toList = l) (hs : s.size ≤ 1000000000) :
    Calls Try.prog 20 #[.string s] w fun e w' => e = .returned (unqR l) ∧ Below w.heap.size w w' := by
  subst hl
  by_cases h : ∃ h : 0 < s.size, s[0].toNat = 34
  · obtain ⟨h0, h1⟩ := h
    exact utf_Unquote_yes s w hs h0 h1
  · exact utf_Unquote_no s w hs (fun h0 h1 => h ⟨h0, h1⟩)
end Go.Proofs.Ytckojcfepldhlaa
