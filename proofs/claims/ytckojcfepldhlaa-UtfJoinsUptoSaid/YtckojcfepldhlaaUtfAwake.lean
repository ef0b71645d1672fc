/- awake of layer 3's laws: true. -/
import Derived.Test.YtckojcfepldhlaaUtfProg7
namespace Go.Proofs.Ytckojcfepldhlaa
open Go.RowKit
set_option linter.unusedVariables false

theorem awk1 (W : World) : Calls Try.prog 20 #[.string ⟨#[34, 97, 34, 32, 98]⟩] W fun e w' => e = .returned (.tuple #[.string ⟨#[97]⟩, .int .i64 3, .int .i64 0]) ∧ Below W.heap.size W w' :=
  utf_Unquote ⟨#[34, 97, 34, 32, 98]⟩ [34, 97, 34, 32, 98] W rfl (by decide)
theorem awk2 (W : World) : Calls Try.prog 20 #[.string ⟨#[34, 97]⟩] W fun e w' => e = .returned (.tuple #[.string ⟨#[]⟩, .int .i64 0, .int .i64 2]) ∧ Below W.heap.size W w' :=
  utf_Unquote ⟨#[34, 97]⟩ [34, 97] W rfl (by decide)
theorem awk3 (W : World) : Calls Try.prog 22 #[.string ⟨#[48, 48, 97, 98]⟩] W fun e w' => e = .returned (.tuple #[.string ⟨#[0, 171]⟩, .int .i64 0]) ∧ Below W.heap.size W w' :=
  utf_Unhex ⟨#[48, 48, 97, 98]⟩ [48, 48, 97, 98] W rfl (by decide)
theorem awk4 (W : World) : Calls Try.prog 22 #[.string ⟨#[48]⟩] W fun e w' => e = .returned (.tuple #[.string ⟨#[]⟩, .int .i64 2]) ∧ Below W.heap.size W w' :=
  utf_Unhex ⟨#[48]⟩ [48] W rfl (by decide)
theorem awk5 (W : World) : Calls Try.prog 12 #[.string ⟨#[97, 195, 169]⟩] W fun e w' => e = .returned (.bool true) ∧ Below W.heap.size W w' :=
  utf_Valid ⟨#[97, 195, 169]⟩ [97, 195, 169] W rfl (by decide)
theorem awk6 (W : World) : Calls Try.prog 14 #[.string ⟨#[97, 195, 40]⟩] W fun e w' => e = .returned (.int .i64 1) ∧ Below W.heap.size W w' :=
  utf_Bad ⟨#[97, 195, 40]⟩ [97, 195, 40] W rfl (by decide)
theorem awk7 (W : World) : Calls Try.prog 16 #[.string ⟨#[237, 160, 128]⟩] W fun e w' => e = .returned (.int .i64 3) ∧ Below W.heap.size W w' :=
  utf_Count ⟨#[237, 160, 128]⟩ [237, 160, 128] W rfl (by decide)
theorem awk8 (W : World) : Calls Try.prog 18 #[.string ⟨#[97, 34, 10, 0, 255]⟩] W fun e w' => e = .returned (.string ⟨#[34, 97, 92, 34, 92, 110, 92, 120, 48, 48, 92, 120, 102, 102, 34]⟩) ∧ Below W.heap.size W w' :=
  utf_Quote ⟨#[97, 34, 10, 0, 255]⟩ [97, 34, 10, 0, 255] W rfl (by decide)
theorem awk9 (W : World) : Calls Try.prog 24 #[.string ⟨#[0, 171]⟩] W fun e w' => e = .returned (.string ⟨#[48, 48, 97, 98]⟩) ∧ Below W.heap.size W w' :=
  utf_Hex ⟨#[0, 171]⟩ [0, 171] W rfl (by decide)

set_option maxHeartbeats 2000000 in
set_option maxRecDepth 100000 in
theorem utf_awake (w : World) : Calls Try.prog 11 #[] w fun e w' => e = .returned (.bool true) ∧ Below w.heap.size w w' := by
  have hb := Below.refl w.heap.size w
  go_enter Try.func11, Try.ntmps11
  go_wp2_with (first
    | (go_at_call 20; (with_reducible refine (awk1 _).mono ?_); rintro e w' ⟨rfl, hb2⟩; replace hb := hb.trans (hb2.mono hb.size); clear hb2)
    | (go_at_call 20; (with_reducible refine (awk2 _).mono ?_); rintro e w' ⟨rfl, hb2⟩; replace hb := hb.trans (hb2.mono hb.size); clear hb2)
    | (go_at_call 22; (with_reducible refine (awk3 _).mono ?_); rintro e w' ⟨rfl, hb2⟩; replace hb := hb.trans (hb2.mono hb.size); clear hb2)
    | (go_at_call 22; (with_reducible refine (awk4 _).mono ?_); rintro e w' ⟨rfl, hb2⟩; replace hb := hb.trans (hb2.mono hb.size); clear hb2)
    | (go_at_call 12; (with_reducible refine (awk5 _).mono ?_); rintro e w' ⟨rfl, hb2⟩; replace hb := hb.trans (hb2.mono hb.size); clear hb2)
    | (go_at_call 14; (with_reducible refine (awk6 _).mono ?_); rintro e w' ⟨rfl, hb2⟩; replace hb := hb.trans (hb2.mono hb.size); clear hb2)
    | (go_at_call 16; (with_reducible refine (awk7 _).mono ?_); rintro e w' ⟨rfl, hb2⟩; replace hb := hb.trans (hb2.mono hb.size); clear hb2)
    | (go_at_call 18; (with_reducible refine (awk8 _).mono ?_); rintro e w' ⟨rfl, hb2⟩; replace hb := hb.trans (hb2.mono hb.size); clear hb2)
    | (go_at_call 24; (with_reducible refine (awk9 _).mono ?_); rintro e w' ⟨rfl, hb2⟩; replace hb := hb.trans (hb2.mono hb.size); clear hb2))
  all_goals go_ways
  go_ret
  exact ⟨rfl, hb⟩
end Go.Proofs.Ytckojcfepldhlaa
