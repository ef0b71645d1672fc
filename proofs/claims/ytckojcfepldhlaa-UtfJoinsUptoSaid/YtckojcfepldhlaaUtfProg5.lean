/- The program's layer 3 walked, part 5: Hex. -/
import Derived.Test.YtckojcfepldhlaaUtfProg4
import Derived.Deep.RegionHeld3
import Derived.Deep.AppendLies
namespace Go.Proofs.Ytckojcfepldhlaa
open Go.RowKit
set_option linter.unusedVariables false

theorem dig_at (q : Nat) (h : q < 16) : ((⟨#[48, 49, 50, 51, 52, 53, 54, 55, 56, 57, 97, 98, 99, 100, 101, 102]⟩ : ByteArray)[q]'h) = Utf.dig q := by
  have : q = 0 ∨ q = 1 ∨ q = 2 ∨ q = 3 ∨ q = 4 ∨ q = 5 ∨ q = 6 ∨ q = 7 ∨ q = 8 ∨ q = 9 ∨ q = 10 ∨ q = 11 ∨ q = 12 ∨ q = 13 ∨ q = 14 ∨ q = 15 := by omega
  rcases this with rfl | rfl | rfl | rfl | rfl | rfl | rfl | rfl | rfl | rfl | rfl | rfl | rfl | rfl | rfl | rfl <;> rfl

theorem hex_take (l : List UInt8) (k : Nat) (u : UInt8) (h : l[k]? = some u) : Lib.byteCells (Utf.hex (l.take (k + 1))) = Lib.byteCells (Utf.hex (l.take k)) ++ [.int .u8 (Utf.dig (u.toNat / 16)).toNat, .int .u8 (Utf.dig (u.toNat % 16)).toNat] := by
  obtain ⟨hk, rfl⟩ := List.getElem?_eq_some_iff.1 h
  rw [List.take_succ_eq_append_getElem hk]
  unfold Utf.hex
  rw [List.flatMap_append, Lib.byteCells_append]
  rfl
theorem conv_row (W : World) (B g n cap : Nat) (l : List UInt8) (hown : W.ownsRow B 5 1 (.slice (some ⟨g, 0, none⟩) n cap) n (Lib.byteCells l)) :
    (convert 36 9 (.slice (some ⟨g, 0, none⟩) n cap)).run Try.prog W = .ok (.string (S l)) W := by
  have hl : l.length = n := by have := hown.1; rw [Lib.byteCells_length] at this; omega
  have h := run_convert_bytes_arg (P := Try.prog) W 36 5 Try.underlying36 Try.underlying5 g 0 n cap (l.map fun b => (b.toNat : Int)) (by simp [hl]) (fun i hi => by
    have hc := hown.cells (g := g) rfl i (.int .u8 ((l[i]'(by omega)).toNat : Int)) (by simp [Lib.byteCells, List.getElem?_map, List.getElem?_eq_getElem (show i < l.length by omega)])
    rw [Addr.add_lit] at hc
    rw [hc]
    simp [List.getD, List.getElem?_map, List.getElem?_eq_getElem (show i < l.length by omega)]) 9 Try.underlying9
  rw [h]
  congr 2
  simp [strOfNums, S, Function.comp_def]
theorem and15N : ∀ b : Fin 256, bits .and .u8 (b.val : Int) 15 = (b.val : Int) % 16 := by decide +kernel
theorem and15 (b : Nat) (h : b < 256) : bits .and .u8 (b : Int) 15 = (b : Int) % 16 := and15N ⟨b, h⟩
set_option maxHeartbeats 2000000 in
set_option maxRecDepth 100000 in
theorem utf_Hex (s : ByteArray) (l : List UInt8) (w : World) (hl : s.data.toList = l) (hs : s.size ≤ 1000000000) :
    Calls Try.prog 24 #[.string s] w fun e w' => e = .returned (.string (S (Utf.hex l))) ∧ Below w.heap.size w w' := by
  have hnn := Lib.hid (len_l s)
  subst hl
  go_enter Try.func24, Try.ntmps24
  obtain ⟨i0, hi, hz0, hz1, hz2⟩ := info_parts byte_info
  go_wp2_with (at_make; refine wpList_make_own _ rfl _ _ 36 rfl w.heap.size 5 i0 (.int .u8 0) 1 Try.underlying36 hi hz0 hz1 .i64 .i64 _ (2 * s.size) rfl rfl ?e1 ?b2 ?b3 (Nat.le_refl _) ?_)
  case e1 => omega
  case b2 => rw [hz2]; omega
  case b3 => unfold maxLen; omega
  intro w1 hown1 hgrow1
  have hb1 : Below w.heap.size w w1 := (Below.refl _ _).grown hgrow1 (Nat.le_refl _) (fun g h => by cases h)
  clear hgrow1
  go_wp2
  go_loopw [3, 11] (fun t v wr => ∃ (k g cap : Nat), k ≤ s.size ∧ t = .slice (some ⟨g, 0, none⟩) (2 * k) cap ∧ v = .int .i64 k ∧ wr.ownsRow w.heap.size 5 1 (.slice (some ⟨g, 0, none⟩) (2 * k) cap) (2 * k) (Lib.byteCells (Utf.hex (s.data.toList.take k))) ∧ Below w.heap.size w wr) (fun _ v _ => s.size - (intOf v).toNat)
  case atStart => exact ⟨0, _, _, by omega, rfl, rfl, hown1, hb1⟩
  case round =>
    obtain ⟨k, g, cap, hk, rfl, rfl, hown, hb⟩ := hrel
    by_cases hlt : k < s.size
    · have hu : s[k].toNat < 256 := s[k].toNat_lt
      have j1 : (k : Int) < s.size := by omega
      have hand := and15 s[k].toNat hu
      have q1 : (s[k].toNat : Int) / 16 < 16 := by omega
      have q2 : 0 ≤ (s[k].toNat : Int) / 16 := by omega
      have q3 : s[k].toNat / 16 < 16 := by omega
      have q4 : (s[k].toNat : Int) % 16 < 16 := by omega
      have q5 : 0 ≤ (s[k].toNat : Int) % 16 := by omega
      have q6 : s[k].toNat % 16 < 16 := by omega
      go_wp2
      have ge1 : i0.bytes = 1 := hz2
      go_region_held3 (fun w' => True) (trivial) ((refine step_append_lies _ (by rfl) _ _ _ (by rfl) w.heap.size 5 i0 (.int .u8 0) 1 1 Try.underlying36 hi hz0 hz1 hz2 rfl (by omega) _ (2 * k) _ (by rfl) ((hown.alloc _).drew) ⟨wr.heap.size, 0, none⟩ 2 2 [.int .u8 ((⟨#[48, 49, 50, 51, 52, 53, 54, 55, 56, 57, 97, 98, 99, 100, 101, 102]⟩ : ByteArray)[s[k].toNat / 16]'q3).toNat, .int .u8 ((⟨#[48, 49, 50, 51, 52, 53, 54, 55, 56, 57, 97, 98, 99, 100, 101, 102]⟩ : ByteArray)[s[k].toNat % 16]'q6).toNat] (by rfl) (by rfl) (World.news_of_block (cs := #[.int .u8 ((⟨#[48, 49, 50, 51, 52, 53, 54, 55, 56, 57, 97, 98, 99, 100, 101, 102]⟩ : ByteArray)[s[k].toNat / 16]'q3).toNat, .int .u8 ((⟨#[48, 49, 50, 51, 52, 53, 54, 55, 56, 57, 97, 98, 99, 100, 101, 102]⟩ : ByteArray)[s[k].toNat % 16]'q6).toNat]) (t := 5) (fr := (0, 0)) (heap_alloc_new wr _)) (by simp [Value.oneCell']) (by omega) (by unfold maxLen; omega) (by omega) (by have := hb.size; simp; omega) (wr.heap.size + 1) (by simp) ?_; intro gg cap' w2 hown2 hgrow2 hat hlt2))
      all_goals
        have hgr := hb.alloc hb.size (.cells #[.int .u8 ((⟨#[48, 49, 50, 51, 52, 53, 54, 55, 56, 57, 97, 98, 99, 100, 101, 102]⟩ : ByteArray)[s[k].toNat / 16]'q3).toNat, .int .u8 ((⟨#[48, 49, 50, 51, 52, 53, 54, 55, 56, 57, 97, 98, 99, 100, 101, 102]⟩ : ByteArray)[s[k].toNat % 16]'q6).toNat] 5)
        have hb2 := hgr.drew.grown hgrow2 (by have := hb.size; simp; omega) (fun g' hg' => (hown.lt g' hg').1)
        clear hgrow2 hat
        go_wp2
        go_roundw
        case rel =>
          refine ⟨k + 1, gg, cap', by omega, rfl, by go_num, ?_, hb2⟩
          rw [hex_take _ _ _ (get_l s k hlt), ← dig_at _ q3, ← dig_at _ q6]
          exact hown2
        case measure => simp [intOf]; omega
    · have hks : k = s.size := by omega
      subst hks
      have hcv := conv_row wr w.heap.size g _ cap _ hown
      rw [List.take_of_length_le (by rw [hnn.out]; exact Nat.le_refl _)] at hcv
      go_wp2
      go_ret
      exact ⟨rfl, hb⟩
end Go.Proofs.Ytckojcfepldhlaa
