/- The program's layer 3 walked, part 4: Quote. -/
import Derived.Test.YtckojcfepldhlaaUtfProg3
import Derived.Test.YtckojcfepldhlaaBuilder
namespace Go.Proofs.Ytckojcfepldhlaa
open Go.RowKit
set_option linter.unusedVariables false

theorem formAt_len (l : List UInt8) (i : Nat) : (Utf.formAt l i).length ≤ 4 := by
  unfold Utf.formAt
  split
  · simp
  · (repeat' split) <;> first | (simp [Utf.esc]; done) | (have := Utf.szAt_le4 l i; simp; omega)

set_option maxHeartbeats 1000000 in
set_option maxRecDepth 100000 in
theorem utf_Quote (s : ByteArray) (l : List UInt8) (w : World) (hl : s.data.toList = l) (hs : s.size ≤ 1000000000) :
    Calls Try.prog 18 #[.string s] w fun e w' => e = .returned (.string (S (Utf.quote l))) ∧ Below w.heap.size w w' := by
  have hnn := Lib.hid (len_l s)
  subst hl
  go_enter Try.func18, Try.ntmps18
  go_wp2_with (go_at_call 28; go_must (refine (bld_WriteString w.heap.size w.heap.size [] ⟨#[34]⟩ _ (Lib.IsBuilderF.of (Lib.fresh_isBuilder 38 5 w)) ?c1 ?c2).mono ?_))
  case c1 => decide
  case c2 => simp
  rintro e W1 ⟨rfl, h1, b1, k1⟩
  have hW1 : w.heap.size < W1.heap.size := by have := b1.size; simp at this; omega
  have hB1 : Below w.heap.size w W1 := ((Below.refl _ w).alloc (Nat.le_refl _) _).trans b1
  go_wp2
  go_loopw [] (fun wr => ∃ (pos : Nat) (acc : List UInt8), pos ≤ s.size ∧ acc.length ≤ 4 * pos + 1 ∧ Lib.IsBuilderF 38 5 w.heap.size w.heap.size (Lib.byteCells acc) wr ∧ wr.heap[W1.heap.size]? = some (.stringIter s pos) ∧ Below w.heap.size w wr ∧ Hid (acc ++ Utf.quoteS 0 (s.data.toList.drop pos) ++ [34] = Utf.quote s.data.toList)) (fun wr => s.size - wr.iterPos W1.heap.size)
  case atStart =>
    refine ⟨0, [34], by omega, by simp, Lib.IsBuilderF.alloc (Or.inr h1) _, ?_, hB1.alloc (by omega) _, Lib.hid rfl⟩
    have := World.iter_heap W1 s 0
    simpa using this
  case round =>
    obtain ⟨pos, acc, hpos, hacc, hI, hit, hbw, H⟩ := hrel
    have hsz : W1.heap.size < wr.heap.size := (Array.getElem?_eq_some_iff.1 hit).1
    by_cases hp : pos < s.size
    · have hnx : ∀ ty, (Instr.next (.pointer (some ⟨W1.heap.size, 0, none⟩)) true ty).run Try.prog wr = _ := fun ty => Lib.run_next_any_at wr W1.heap.size s pos ty hit hp
      have hdp := dec_pos s pos hp
      have HS := Lib.hid (Utf.quote_step s.data.toList pos (by rw [hnn.out]; exact hp))
      have hfl := formAt_len s.data.toList pos
      have hle := @Utf.szAt_lt s.data.toList pos
      rw [hnn.out] at hle
      have hI2 := hI.iterAt hit (pos + (Utf8.decode s pos).2)
      have hit2 := Lib.iterAt_heap wr W1.heap.size s pos (pos + (Utf8.decode s pos).2) hit
      have hbw2 := Lib.below_iterAt hbw (k := W1.heap.size) (by omega) s (pos + (Utf8.decode s pos).2)
      have hsz2 : w.heap.size ≤ (wr.iterAt W1.heap.size s (pos + (Utf8.decode s pos).2)).heap.size := by rw [Lib.iterAt_size]; omega
      have hdh := Lib.hid hdp
      have hleh := Lib.hid hle
      have hI2h := Lib.hid hI2
      have hith := Lib.hid hit2
      clear hdp hle hI2 hit2
      go_wp2_with (go_at_call 29; refine (utf_form s _ pos _ _ _ rfl rfl rfl hs hp).mono ?_; rintro e w' ⟨rfl, nq, rfl⟩)
      refine (bld_WriteString w.heap.size w.heap.size (Lib.byteCells acc) (S (Utf.formAt s.data.toList pos)) _ ?_ ?_ ?_).mono ?_
      · exact hI2h.out
      · rw [Lib.byteCells_length, S_size]; omega
      · exact hsz2
      rintro e W2 ⟨rfl, h2, b2, k2⟩
      have k2' : Lib.OthersKept 5 (some w.heap.size) (wr.iterAt W1.heap.size s (pos + (Utf8.decode s pos).2)) W2 := k2
      have hit3 := k2'.iter hith.out (by omega)
      have hith3 := Lib.hid hit3
      clear hit3
      go_wp2
      go_roundw
      case rel =>
        refine ⟨pos + max 1 (Utf.szAt s.data.toList pos), acc ++ Utf.formAt s.data.toList pos, ?_, ?_, ?_, ?_, (below_drewN hbw2 nq).trans b2, Lib.hid ?_⟩
        · have := hleh.out; omega
        · rw [List.length_append]; omega
        · rw [Lib.byteCells_append]; exact Or.inr h2
        · rw [hith3.out, hdh.out]
        · rw [← H.out, HS.out]; simp
      case measure =>
        have := hdh.out
        rw [iterPos_of hith3.out, iterPos_of hit]
        omega
    · have hnx : ∀ ty, (Instr.next (.pointer (some ⟨W1.heap.size, 0, none⟩)) true ty).run Try.prog wr = _ := fun ty => Lib.run_next_end_at wr W1.heap.size s pos ty hit hp
      go_wp2_with (go_at_call 28; refine (bld_WriteString w.heap.size w.heap.size _ ⟨#[34]⟩ _ hI ?d1 (by omega)).mono ?_)
      case d1 => rw [Lib.byteCells_length]; simp only [ByteArray.size_mk', List.size_toArray, List.length_cons, List.length_nil]; omega
      rintro e W2 ⟨rfl, h2, b2, k2⟩
      go_wp2_with (go_at_call 30; refine (Try.Builder_String_any_k w.heap.size w.heap.size (acc ++ [34]) _ (by rw [Lib.byteCells_append]; exact Or.inr h2) (by have := b2.size; omega)).mono ?_)
      rintro e W3 ⟨rfl, _, b3, _⟩
      go_wp2
      go_ret
      refine ⟨ret_str ?_, (hbw.trans b2).trans b3⟩
      rw [← H.out, Utf.quote_end _ _ (by rw [hnn.out]; omega)]; simp [S]
end Go.Proofs.Ytckojcfepldhlaa
