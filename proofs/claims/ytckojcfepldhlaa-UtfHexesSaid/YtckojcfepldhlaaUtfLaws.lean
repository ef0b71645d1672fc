/- The laws of layer 3 that compare with the reference: walked from the contracts. -/
import Derived.Test.YtckojcfepldhlaaUtfAwake
namespace Go.Proofs.Ytckojcfepldhlaa
open Go.RowKit
set_option linter.unusedVariables false

set_option maxHeartbeats 2000000 in
set_option maxRecDepth 100000 in
theorem law_Valids (s : ByteArray) (w : World) (hs : s.size ≤ 9223372036854775807) : Calls Try.prog 3 #[.string s] w fun e w' => e = .returned (.bool true) ∧ Below w.heap.size w w' := by
  have hb := Below.refl w.heap.size w
  by_cases hlt : s.size ≤ 5000
  · have c1 := Lib.hid (fun W => utf_Valid s _ W rfl (by omega))
    have c2 := Lib.hid (fun W => ref_Valid s _ W rfl (by omega))
    have c3 := Lib.hid (fun W => utf_Bad s _ W rfl (by omega))
    have c4 := Lib.hid (fun W => ref_Bad s _ W rfl (by omega))
    have c5 := Lib.hid (fun W => utf_Count s _ W rfl (by omega))
    have c6 := Lib.hid (fun W => ref_Count s _ W rfl (by omega))
    go_enter Try.func3, Try.ntmps3
    go_wp2_with (first
      | (go_at_call 12; (with_reducible refine (c1.out _).mono ?_); rintro e w' ⟨rfl, hb2⟩; replace hb := hb.trans (hb2.mono hb.size); clear hb2)
      | (go_at_call 13; (with_reducible refine (c2.out _).mono ?_); rintro e w' ⟨rfl, rfl⟩)
      | (go_at_call 14; (with_reducible refine (c3.out _).mono ?_); rintro e w' ⟨rfl, hb2⟩; replace hb := hb.trans (hb2.mono hb.size); clear hb2)
      | (go_at_call 15; (with_reducible refine (c4.out _).mono ?_); rintro e w' ⟨rfl, rfl⟩)
      | (go_at_call 16; (with_reducible refine (c5.out _).mono ?_); rintro e w' ⟨rfl, hb2⟩; replace hb := hb.trans (hb2.mono hb.size); clear hb2)
      | (go_at_call 17; (with_reducible refine (c6.out _).mono ?_); rintro e w' ⟨rfl, rfl⟩)
      | (go_at_call 11; (with_reducible refine (utf_awake _).mono ?_); rintro e w' ⟨rfl, hb2⟩; replace hb := hb.trans (hb2.mono hb.size); clear hb2))
    go_ret
    exact ⟨rfl, hb⟩
  · go_enter Try.func3, Try.ntmps3
    go_wp2_with (go_at_call 11; (with_reducible refine (utf_awake _).mono ?_); rintro e w' ⟨rfl, hb2⟩; replace hb := hb.trans (hb2.mono hb.size); clear hb2)
    go_ret
    exact ⟨rfl, hb⟩

set_option maxHeartbeats 2000000 in
set_option maxRecDepth 100000 in
theorem law_QuotesTexts (s : ByteArray) (w : World) (hs : s.size ≤ 9223372036854775807) : Calls Try.prog 4 #[.string s] w fun e w' => e = .returned (.bool true) ∧ Below w.heap.size w w' := by
  have hb := Below.refl w.heap.size w
  by_cases hlt : s.size ≤ 5000
  · skip
    have c1 := Lib.hid (fun W => utf_Quote s _ W rfl (by omega))
    have c2 := Lib.hid (fun W => ref_Quote s _ W rfl (by omega))
    go_enter Try.func4, Try.ntmps4
    go_wp2_with (first
      | (go_at_call 18; (with_reducible refine (c1.out _).mono ?_); rintro e w' ⟨rfl, hb2⟩; replace hb := hb.trans (hb2.mono hb.size); clear hb2)
      | (go_at_call 19; (with_reducible refine (c2.out _).mono ?_); rintro e w' ⟨rfl, nq, rfl⟩; replace hb := below_drewN hb nq)
      | (go_at_call 11; (with_reducible refine (utf_awake _).mono ?_); rintro e w' ⟨rfl, hb2⟩; replace hb := hb.trans (hb2.mono hb.size); clear hb2))
    go_ret
    exact ⟨rfl, hb⟩
  · go_enter Try.func4, Try.ntmps4
    go_wp2_with (go_at_call 11; (with_reducible refine (utf_awake _).mono ?_); rintro e w' ⟨rfl, hb2⟩; replace hb := hb.trans (hb2.mono hb.size); clear hb2)
    go_ret
    exact ⟨rfl, hb⟩

set_option maxHeartbeats 2000000 in
set_option maxRecDepth 100000 in
theorem law_Unquotes (s : ByteArray) (w : World) (hs : s.size ≤ 9223372036854775807) : Calls Try.prog 5 #[.string s] w fun e w' => e = .returned (.bool true) ∧ Below w.heap.size w w' := by
  have hb := Below.refl w.heap.size w
  by_cases hlt : s.size ≤ 5000
  · skip
    have c1 := Lib.hid (fun W => utf_Unquote s _ W rfl (by omega))
    have c2 := Lib.hid (fun W => ref_Unquote s _ W rfl (by omega))
    go_enter Try.func5, Try.ntmps5
    go_wp2_with (first
      | (go_at_call 20; (with_reducible refine (c1.out _).mono ?_); unfold unqR; rintro e w' ⟨rfl, hb2⟩; replace hb := hb.trans (hb2.mono hb.size); clear hb2)
      | (go_at_call 21; (with_reducible refine (c2.out _).mono ?_); unfold unqR; rintro e w' ⟨rfl, hb2⟩; replace hb := hb.trans (hb2.mono hb.size); clear hb2)
      | (go_at_call 11; (with_reducible refine (utf_awake _).mono ?_); rintro e w' ⟨rfl, hb2⟩; replace hb := hb.trans (hb2.mono hb.size); clear hb2))
    go_ret
    exact ⟨rfl, hb⟩
  · go_enter Try.func5, Try.ntmps5
    go_wp2_with (go_at_call 11; (with_reducible refine (utf_awake _).mono ?_); rintro e w' ⟨rfl, hb2⟩; replace hb := hb.trans (hb2.mono hb.size); clear hb2)
    go_ret
    exact ⟨rfl, hb⟩

set_option maxHeartbeats 2000000 in
set_option maxRecDepth 100000 in
theorem law_Hexes (s : ByteArray) (w : World) (hs : s.size ≤ 9223372036854775807) : Calls Try.prog 6 #[.string s] w fun e w' => e = .returned (.bool true) ∧ Below w.heap.size w w' := by
  have hb := Below.refl w.heap.size w
  by_cases hlt : s.size ≤ 5000
  · skip
    have c1 := Lib.hid (fun W => utf_Hex s _ W rfl (by omega))
    have c2 := Lib.hid (fun W => ref_Hex s _ W rfl (by omega))
    have c3 := Lib.hid (fun W => utf_Unhex s _ W rfl (by omega))
    have c4 := Lib.hid (fun W => ref_Unhex s _ W rfl (by omega))
    go_enter Try.func6, Try.ntmps6
    go_wp2_with (first
      | (go_at_call 24; (with_reducible refine (c1.out _).mono ?_); rintro e w' ⟨rfl, hb2⟩; replace hb := hb.trans (hb2.mono hb.size); clear hb2)
      | (go_at_call 25; (with_reducible refine (c2.out _).mono ?_); rintro e w' ⟨rfl, nq, rfl⟩; replace hb := below_drewN hb nq)
      | (go_at_call 22; (with_reducible refine (c3.out _).mono ?_); unfold unhR; rintro e w' ⟨rfl, hb2⟩; replace hb := hb.trans (hb2.mono hb.size); clear hb2)
      | (go_at_call 23; (with_reducible refine (c4.out _).mono ?_); unfold unhR; rintro e w' ⟨rfl, hb2⟩; replace hb := hb.trans (hb2.mono hb.size); clear hb2)
      | (go_at_call 11; (with_reducible refine (utf_awake _).mono ?_); rintro e w' ⟨rfl, hb2⟩; replace hb := hb.trans (hb2.mono hb.size); clear hb2))
    go_ret
    exact ⟨rfl, hb⟩
  · go_enter Try.func6, Try.ntmps6
    go_wp2_with (go_at_call 11; (with_reducible refine (utf_awake _).mono ?_); rintro e w' ⟨rfl, hb2⟩; replace hb := hb.trans (hb2.mono hb.size); clear hb2)
    go_ret
    exact ⟨rfl, hb⟩
end Go.Proofs.Ytckojcfepldhlaa
