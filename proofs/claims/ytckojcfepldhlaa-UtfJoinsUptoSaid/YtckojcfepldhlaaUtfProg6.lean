/- The program's layer 3 walked, part 6: Unhex. -/
import Derived.Test.YtckojcfepldhlaaUtfProg5
import Derived.Test.YtckojcfepldhlaaUtfRef6
namespace Go.Proofs.Ytckojcfepldhlaa
open Go.RowKit
set_option linter.unusedVariables false

set_option maxHeartbeats 1000000 in
set_option maxRecDepth 100000 in
theorem utf_Unhex_odd (s : ByteArray) (w : World) (hs : s.size ≤ 1000000000) (h0 : s.size % 2 ≠ 0) :
    Calls Try.prog 22 #[.string s] w fun e w' => e = .returned (unhR s.data.toList) ∧ Below w.heap.size w w' := by
  have h := Lib.hid (unhR_bad _ (unh_odd s.data.toList (by rw [len_l]; exact h0)))
  have hq : ((s.size : Int) % 2 != 0) = true := bne_t (by omega)
  clear h0
  go_enter Try.func22, Try.ntmps22
  go_wp2
  go_ret2
  exact ⟨h.out, Below.refl _ _⟩

set_option maxHeartbeats 2000000 in
set_option maxRecDepth 100000 in
theorem utf_Unhex_even (s : ByteArray) (n : Nat) (w : World) (hs : s.size ≤ 1000000000) (h0 : s.size = 2 * n) :
    Calls Try.prog 22 #[.string s] w fun e w' => e = .returned (unhR s.data.toList) ∧ Below w.heap.size w w' := by
  have hq : ((s.size : Int) % 2 != 0) = false := bne_f (by omega)
  have hnn := Lib.hid (len_l s)
  have hns : n ≤ s.size := by omega
  have h0h := Lib.hid h0
  clear h0
  obtain ⟨i0, hi, hz0, hz1, hz2⟩ := info_parts byte_info
  go_enter Try.func22, Try.ntmps22
  go_wp2_with (at_make; refine wpList_make_own _ rfl _ _ 36 rfl w.heap.size 5 i0 (.int .u8 0) 1 Try.underlying36 hi hz0 hz1 .i64 .i64 _ n rfl rfl ?e1 ?b2 ?b3 (Nat.le_refl _) ?_)
  case e1 => have := h0h.out; omega
  case b2 => rw [hz2]; omega
  case b3 => unfold maxLen; omega
  intro w1 hown1 hgrow1
  have hb1 : Below w.heap.size w w1 := (Below.refl _ _).grown hgrow1 (Nat.le_refl _) (fun g h => by cases h)
  clear hgrow1
  go_wp2
  go_loopw [4, 5] (fun t v wr => ∃ (m g cap : Nat) (acc : List UInt8), m ≤ n ∧ t = .slice (some ⟨g, 0, none⟩) m cap ∧ v = .int .i64 (2 * m : Nat) ∧ wr.ownsRow w.heap.size 5 1 (.slice (some ⟨g, 0, none⟩) m cap) m (Lib.byteCells acc) ∧ Hid (unhRest acc (s.data.toList.drop (2 * m)) = Utf.unhex s.data.toList) ∧ Below w.heap.size w wr) (fun _ v _ => s.size - (intOf v).toNat)
  case atStart => exact ⟨0, _, _, [], by omega, rfl, rfl, hown1, Lib.hid (unh_start _), hb1⟩
  case round =>
    obtain ⟨m, g, cap, acc, hm, rfl, rfl, hown, H, hb⟩ := hrel
    obtain ⟨k, hk⟩ : ∃ k, 2 * m = k := ⟨_, rfl⟩
    rw [hk] at H ⊢
    have hkh := Lib.hid hk
    clear hk
    by_cases hlt : m < n
    · have hk1 : k + 1 < s.size := by have := h0h.out; have := hkh.out; omega
      have hg := Lib.hid (get_l s k (by omega))
      have hg1 := Lib.hid (get_l s (k + 1) hk1)
      have v1 := val_lt s[k]
      have v2 := val_lt s[k + 1]
      have v3 := val_ge s[k]
      have v4 := val_ge s[k + 1]
      have d2 := Lib.hid (fun W => utf_value s[k] _ W rfl)
      have d3 := Lib.hid (fun W => utf_value s[k + 1] _ W rfl)
      have j1 : (k : Int) < s.size := by omega
      have j2 : (k : Int) + 1 < s.size := by omega
      have j4 : 0 ≤ (k : Int) + 1 := by omega
      by_cases va : 0 ≤ Utf.val s[k]
      · by_cases vb : 0 ≤ Utf.val s[k + 1]
        · have hu := Lib.hid (unh_yes acc _ k _ _ hg.out hg1.out va vb)
          have hxv := hexval _ _ va vb
          generalize UInt8.ofNat (16 * (Utf.val s[k]).toNat + (Utf.val s[k + 1]).toNat) = c at hu hxv
          have hor := or_hex _ _ va v1 vb v2
          rw [← hxv] at hor
          have hxh := Lib.hid hxv
          clear hxv
          go_wp2
          go_quiet ((go_at_call 34; first | (with_reducible exact q_same (d2.out _)) | (with_reducible exact q_same (d3.out _))))
          have hown' : (wr.drewN nq).ownsRow w.heap.size 5 1 (.slice (some ⟨g, 0, none⟩) m cap) m (Lib.byteCells acc) := hown
          have hb' := below_drewN hb nq
          clear hown hb
          generalize wr.drewN nq = wx at *
          go_wp2_with (at_builtin; refine wpList_append_own _ rfl _ _ 36 rfl w.heap.size 5 i0 (.int .u8 0) 1 1 Try.underlying36 hi hz0 hz1 hz2 rfl (by decide) _ _ _ rfl (hown'.alloc _) ⟨wx.heap.size, 0, none⟩ 1 1 [.int .u8 c.toNat] rfl rfl ?c1 ?c2 ?c3 ?c4 ?c5 ?_)
          case c1 =>
            intro j u hj
            match j, hj with
            | 0, hj => simp at hj; subst hj; simp [Addr.add]
          case c2 => intro u hu; simp at hu; subst hu; rfl
          case c3 => unfold maxLen; omega
          case c4 => omega
          case c5 => have := hb'.size; simp; omega
          intro v' w2 hown2 hgrow2 _
          obtain ⟨g', cap', hv'⟩ : ∃ g' cap', v' = .slice (some ⟨g', 0, none⟩) (m + 1) cap' := by
            obtain ⟨g', cap', h1, _⟩ := hown2.form (by omega)
            exact ⟨g', cap', h1⟩
          rw [hv'] at hown2 ⊢
          have hb2 := (hb'.alloc hb'.size (.cells #[.int .u8 c.toNat] 5)).grown hgrow2 (by have := hb'.size; simp; omega) (fun g'' hg' => (hown'.lt g'' hg').1)
          clear hgrow2 hor hv' hown'
          go_wp2
          go_roundw
          case rel =>
            refine ⟨m + 1, g', cap', acc ++ [c], by omega, rfl, ?_, ?_, Lib.hid ?_, hb2⟩
            · have := hkh.out
              rw [show ((2 * (m + 1) : Nat) : Int) = (k : Int) + 2 from by omega]
            · rw [Lib.byteCells_append]; exact hown2
            · rw [← H.out, hu.out, show 2 * (m + 1) = k + 2 from by have := hkh.out; omega]
          case measure => simp [intOf]; omega
        · have hu := Lib.hid (unh_no acc _ k _ _ hg.out hg1.out (fun h => vb h.2))
          have hd : decide (Utf.val s[k + 1] < 0) = true := decide_eq_true (by omega)
          have hd1 : decide (Utf.val s[k] < 0) = false := decide_eq_false (by omega)
          go_wp2
          go_quiet ((go_at_call 34; first | (with_reducible exact q_same (d2.out _)) | (with_reducible exact q_same (d3.out _))))
          go_wp2
          go_ret2
          refine ⟨?_, below_drewN hb _⟩
          refine unhR_bad _ ?_
          rw [← H.out, hu.out]
      · have hu := Lib.hid (unh_no acc _ k _ _ hg.out hg1.out (fun h => va h.1))
        have hd1 : decide (Utf.val s[k] < 0) = true := decide_eq_true (by omega)
        go_wp2
        go_quiet ((go_at_call 34; first | (with_reducible exact q_same (d2.out _)) | (with_reducible exact q_same (d3.out _))))
        go_wp2
        go_ret2
        refine ⟨?_, below_drewN hb _⟩
        refine unhR_bad _ ?_
        rw [← H.out, hu.out]
    · have hk1 : s.size ≤ k := by have := h0h.out; have := hkh.out; omega
      have hu := Lib.hid (unh_end acc s.data.toList k (by rw [hnn.out]; exact hk1))
      have hcv := conv_row wr w.heap.size g _ cap _ hown
      go_wp2
      go_ret2
      refine ⟨?_, hb⟩
      refine unhR_good _ ?_
      rw [← H.out, hu.out]; rfl

theorem utf_Unhex (s : ByteArray) (l : List UInt8) (w : World) (hl : s.data.toList = l) (hs : s.size ≤ 1000000000) :
    Calls Try.prog 22 #[.string s] w fun e w' => e = .returned (unhR l) ∧ Below w.heap.size w w' := by
  subst hl
  by_cases h : s.size % 2 = 0
  · exact utf_Unhex_even s (s.size / 2) w hs (by omega)
  · exact utf_Unhex_odd s w hs h
theorem ref_Unhex (s : ByteArray) (l : List UInt8) (w : World) (hl : s.data.toList = l) (hs : s.size ≤ 1000000000) :
    Calls Try.prog 23 #[.string s] w fun e w' => e = .returned (unhR l) ∧ Below w.heap.size w w' := by
  subst hl
  by_cases h : s.size % 2 = 0
  · exact ref_Unhex_even s (s.size / 2) w hs (by omega)
  · exact ref_Unhex_odd s w hs h
theorem ref_Unquote (s : ByteArray) (l : List UInt8) (w : World) (hl : s.data.toList = l) (hs : s.size ≤ 1000000000) :
    Calls Try.prog 21 #[.string s] w fun e w' => e = .returned (unqR l) ∧ Below w.heap.size w w' := by
  subst hl
  by_cases h : ∃ h : 0 < s.size, s[0].toNat = 34
  · obtain ⟨h0, h1⟩ := h
    exact ref_Unquote_yes s w hs h0 h1
  · exact ref_Unquote_no s w hs (fun h0 h1 => h ⟨h0, h1⟩)
end Go.Proofs.Ytckojcfepldhlaa
