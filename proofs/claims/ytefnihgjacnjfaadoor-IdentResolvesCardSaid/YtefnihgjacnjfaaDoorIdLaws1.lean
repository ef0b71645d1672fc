/- awake of layer 6's laws, and what it calls. -/
import Derived.Test.YtefnihgjacnjfaaDoorIdRef3
import Derived.Test.YtefnihgjacnjfaaDoorIdRef4
import Derived.Test.YtefnihgjacnjfaaDoorBelow
namespace Go.Proofs.YtefnihgjacnjfaaDoor
open Go.RowKit
set_option linter.unusedVariables false
set_option linter.unusedSimpArgs false

theorem strs_two (W : World) (a b : List UInt8) (t : TypeId) : Strs (W.alloc (.cells #[.string (S a), .string (S b)] t)) (.slice (some ⟨W.heap.size, 0, none⟩) 2 2) [a, b] := by
  refine .inr ⟨W.heap.size, 0, 2, rfl, by simp, by simp, fun j k hk => ?_⟩
  rw [Nat.zero_add, World.cell?_alloc_at _ _ _ _ rfl]
  match j, hk with
  | 0, hk => simp at hk; subst hk; rfl
  | 1, hk => simp at hk; subst hk; rfl
/-- what Up of a.b.C returns -/
def AwUp (w : World) (e : Ending) (w' : World) : Prop := ∃ b off c : Nat, e = .returned (.slice (some ⟨b, off, none⟩) 4 c) ∧ b < w'.heap.size ∧ w'.cell? ⟨b, off + 1, none⟩ = some (.string ⟨#[97, 46, 98]⟩) ∧ Below w.heap.size w w'
theorem aw_up (w : World) : Calls Tryd.prog 22 #[.string ⟨#[97, 46, 98, 46, 67]⟩] w (AwUp w) := by
  have hn : (Id.up [97, 46, 98, 46, 67]).length = 4 := by decide
  have h1 : (Id.up [97, 46, 98, 46, 67])[1]? = some [97, 46, 98] := by decide
  have hU := id_Up ⟨#[97, 46, 98, 46, 67]⟩ [97, 46, 98, 46, 67] w rfl (by decide)
  generalize Id.up [97, 46, 98, 46, 67] = U at hn h1 hU
  refine hU.mono ?_
  rintro e w' ⟨b, off, c, rfl, ⟨h2, h3⟩, h4⟩
  rw [hn]
  exact ⟨b, off, c, rfl, h2, h3 1 _ h1, h4⟩
theorem ML.bel {w W : World} (h : ML w) (k : Bel w W) : ML W := h.below k
theorem aw_res (W : World) : Calls Tryd.prog 24 #[.string ⟨#[97, 46, 98]⟩, .string ⟨#[68]⟩, .slice (some ⟨W.heap.size, 0, none⟩) 2 2] (W.alloc (.cells #[.string ⟨#[68]⟩, .string ⟨#[97, 46, 68]⟩] 9)) fun e w' => e = .returned (.tuple #[.string ⟨#[97, 46, 68]⟩, .bool true]) ∧ Below (W.alloc (.cells #[.string ⟨#[68]⟩, .string ⟨#[97, 46, 68]⟩] 9)).heap.size (W.alloc (.cells #[.string ⟨#[68]⟩, .string ⟨#[97, 46, 68]⟩] 9)) w' := by
  have hv : Id.resolve [97, 46, 98] [68] [[68], [97, 46, 68]] = ([97, 46, 68], true) := by decide
  have := id_Resolve ⟨#[97, 46, 98]⟩ ⟨#[68]⟩ [97, 46, 98] [68] _ [[68], [97, 46, 68]] _ rfl rfl (by decide) (by decide) (strs_two W [68] [97, 46, 68] 9)
  rw [hv] at this
  exact this
theorem aw_split (W : World) : Calls Tryd.prog 17 #[.string ⟨#[97, 46, 98, 46, 67]⟩] W fun e w' => e = .returned (.tuple #[.string ⟨#[97, 46, 98]⟩, .string ⟨#[67]⟩]) ∧ ∃ n, W.drewN n = w' := by
  have hv : Id.splitL [97, 46, 98, 46, 67] = ([97, 46, 98], [67]) := by decide
  have := id_Split ⟨#[97, 46, 98, 46, 67]⟩ [97, 46, 98, 46, 67] W rfl (by decide)
  rw [hv] at this
  exact this
theorem aw_0 {w : World} (hM : ML w) (W : World) (h : Bel w W) : Calls Tryd.prog 11 #[.string ⟨#[97, 95, 49]⟩] W fun e w' => e = .returned (.bool true) ∧ Below W.heap.size W w' := by
  have hv : Id.isPart [97, 95, 49] = true := by decide
  have := id_IsPart ⟨#[97, 95, 49]⟩ [97, 95, 49] W rfl (by decide)
  rw [hv] at this
  exact this
theorem aw_1 {w : World} (hM : ML w) (W : World) (h : Bel w W) : Calls Tryd.prog 11 #[.string ⟨#[49, 97]⟩] W fun e w' => e = .returned (.bool false) ∧ Below W.heap.size W w' := by
  have hv : Id.isPart [49, 97] = false := by decide
  have := id_IsPart ⟨#[49, 97]⟩ [49, 97] W rfl (by decide)
  rw [hv] at this
  exact this
theorem aw_2 {w : World} (hM : ML w) (W : World) (h : Bel w W) : Calls Tryd.prog 13 #[.string ⟨#[97, 46, 66, 50]⟩] W fun e w' => e = .returned (.bool true) ∧ Below W.heap.size W w' := by
  have hv : Id.isFull [97, 46, 66, 50] = true := by decide
  have := id_IsFull ⟨#[97, 46, 66, 50]⟩ [97, 46, 66, 50] W rfl (by decide) (hM.bel h)
  rw [hv] at this
  exact this
theorem aw_3 {w : World} (hM : ML w) (W : World) (h : Bel w W) : Calls Tryd.prog 13 #[.string ⟨#[46, 97]⟩] W fun e w' => e = .returned (.bool false) ∧ Below W.heap.size W w' := by
  have hv : Id.isFull [46, 97] = false := by decide
  have := id_IsFull ⟨#[46, 97]⟩ [46, 97] W rfl (by decide) (hM.bel h)
  rw [hv] at this
  exact this
theorem aw_4 {w : World} (hM : ML w) (W : World) (h : Bel w W) : Calls Tryd.prog 26 #[.string ⟨#[117, 115, 101, 114, 95, 105, 100]⟩] W fun e w' => e = .returned (.string ⟨#[85, 115, 101, 114, 73, 100]⟩) ∧ Below W.heap.size W w' := by
  have hv : Id.camel [117, 115, 101, 114, 95, 105, 100] = [85, 115, 101, 114, 73, 100] := by decide
  have := id_Camel ⟨#[117, 115, 101, 114, 95, 105, 100]⟩ [117, 115, 101, 114, 95, 105, 100] W rfl (by decide) (hM.bel h)
  rw [hv] at this
  exact this
theorem aw_5 {w : World} (hM : ML w) (W : World) (h : Bel w W) : Calls Tryd.prog 28 #[.string ⟨#[85, 115, 101, 114, 73, 100]⟩] W fun e w' => e = .returned (.string ⟨#[117, 115, 101, 114, 95, 105, 100]⟩) ∧ Below W.heap.size W w' := by
  have hv : Id.snake [85, 115, 101, 114, 73, 100] = [117, 115, 101, 114, 95, 105, 100] := by decide
  have := id_Snake ⟨#[85, 115, 101, 114, 73, 100]⟩ [85, 115, 101, 114, 73, 100] W rfl (by decide)
  rw [hv] at this
  exact this
theorem aw_w0 (W : World) : Calls Tryd.prog 15 #[.string ⟨#[114, 112, 99]⟩] W fun e w' => e = .returned (.bool true) ∧ W = w' := by
  have hv : Id.isWord [114, 112, 99] = true := by decide
  have := id_IsWord ⟨#[114, 112, 99]⟩ [114, 112, 99] W rfl
  rw [hv] at this
  exact this
theorem aw_w1 (W : World) : Calls Tryd.prog 15 #[.string ⟨#[97]⟩] W fun e w' => e = .returned (.bool false) ∧ W = w' := by
  have hv : Id.isWord [97] = false := by decide
  have := id_IsWord ⟨#[97]⟩ [97] W rfl
  rw [hv] at this
  exact this
theorem aw_join (W : World) : Calls Tryd.prog 19 #[.string ⟨#[97]⟩, .string ⟨#[98]⟩] W fun e w' => e = .returned (.string ⟨#[97, 46, 98]⟩) ∧ W = w' := by
  have hv : Id.join [97] [98] = [97, 46, 98] := by decide
  have := id_Join ⟨#[97]⟩ ⟨#[98]⟩ [97] [98] W rfl rfl (by decide) (by decide)
  rw [hv] at this
  exact this
set_option maxHeartbeats 4000000 in
set_option maxRecDepth 100000 in
theorem law_awake (w : World) (hM : ML w) : Calls Tryd.prog 10 #[] w fun e w' => e = .returned (.bool true) ∧ Below w.heap.size w w' := by
  have cu := Lib.hid (fun W => aw_up W)
  have cs := Lib.hid aw_split
  have cr := Lib.hid aw_res
  have c0 := Lib.hid (fun W h => aw_0 hM W h)
  have c1 := Lib.hid (fun W h => aw_1 hM W h)
  have c2 := Lib.hid (fun W h => aw_2 hM W h)
  have c3 := Lib.hid (fun W h => aw_3 hM W h)
  have c4 := Lib.hid (fun W h => aw_4 hM W h)
  have c5 := Lib.hid (fun W h => aw_5 hM W h)
  have d0 := Lib.hid aw_w0
  have d1 := Lib.hid aw_w1
  have dj := Lib.hid aw_join
  clear hM
  go_enter Tryd.func10, Tryd.ntmps10
  go_wp2_with (first
    | (go_at_call 22; (with_reducible refine (cu.out _).mono ?_); rintro e w1 ⟨ub, uo, uc, rfl, hub, hcl1, h1⟩; have k1 : Bel w w1 := h1; have hcl := Lib.hid (fun (W : World) (h : Bel w1 W) => (h.cell hub).trans hcl1); have j1 : Bel w1 w1 := Bel.refl w1; clear h1 hub hcl1)
    | (go_at_call 17; (with_reducible refine (cs.out _).mono ?_); rintro e w' ⟨rfl, q1, rfl⟩)
    | (go_at_call 24; refine (cr.out _).mono ?_; rintro e w2 ⟨rfl, h2⟩; have k2 : Bel w w2 := Bel.of (by (repeat (first | (with_reducible assumption) | (with_reducible exact Bel.refl _) | (with_reducible refine Bel.drew ?_) | (with_reducible refine Bel.drewN ?_ _) | (with_reducible refine Bel.alloc ?_ _)))) h2; have j2 : Bel w1 w2 := Bel.of (by (repeat (first | (with_reducible assumption) | (with_reducible exact Bel.refl _) | (with_reducible refine Bel.drew ?_) | (with_reducible refine Bel.drewN ?_ _) | (with_reducible refine Bel.alloc ?_ _)))) h2; clear h2 j1)
    | (go_at_call 11; (with_reducible refine (c0.out _ ?_).mono ?_); (repeat (first | (with_reducible assumption) | (with_reducible exact Bel.refl _) | (with_reducible refine Bel.drew ?_) | (with_reducible refine Bel.drewN ?_ _) | (with_reducible refine Bel.alloc ?_ _))); rintro e w3 ⟨rfl, h3⟩; have k3 : Bel w w3 := Bel.of (by (repeat (first | (with_reducible assumption) | (with_reducible exact Bel.refl _) | (with_reducible refine Bel.drew ?_) | (with_reducible refine Bel.drewN ?_ _) | (with_reducible refine Bel.alloc ?_ _)))) h3; have j3 : Bel w1 w3 := Bel.of (by (repeat (first | (with_reducible assumption) | (with_reducible exact Bel.refl _) | (with_reducible refine Bel.drew ?_) | (with_reducible refine Bel.drewN ?_ _) | (with_reducible refine Bel.alloc ?_ _)))) h3; have z3 := hcl.out _ j3; clear h3)
    | (go_at_call 11; (with_reducible refine (c1.out _ ?_).mono ?_); (repeat (first | (with_reducible assumption) | (with_reducible exact Bel.refl _) | (with_reducible refine Bel.drew ?_) | (with_reducible refine Bel.drewN ?_ _) | (with_reducible refine Bel.alloc ?_ _))); rintro e w4 ⟨rfl, h4⟩; have k4 : Bel w w4 := Bel.of (by (repeat (first | (with_reducible assumption) | (with_reducible exact Bel.refl _) | (with_reducible refine Bel.drew ?_) | (with_reducible refine Bel.drewN ?_ _) | (with_reducible refine Bel.alloc ?_ _)))) h4; have j4 : Bel w1 w4 := Bel.of (by (repeat (first | (with_reducible assumption) | (with_reducible exact Bel.refl _) | (with_reducible refine Bel.drew ?_) | (with_reducible refine Bel.drewN ?_ _) | (with_reducible refine Bel.alloc ?_ _)))) h4; have z4 := hcl.out _ j4; clear h4)
    | (go_at_call 13; (with_reducible refine (c2.out _ ?_).mono ?_); (repeat (first | (with_reducible assumption) | (with_reducible exact Bel.refl _) | (with_reducible refine Bel.drew ?_) | (with_reducible refine Bel.drewN ?_ _) | (with_reducible refine Bel.alloc ?_ _))); rintro e w5 ⟨rfl, h5⟩; have k5 : Bel w w5 := Bel.of (by (repeat (first | (with_reducible assumption) | (with_reducible exact Bel.refl _) | (with_reducible refine Bel.drew ?_) | (with_reducible refine Bel.drewN ?_ _) | (with_reducible refine Bel.alloc ?_ _)))) h5; have j5 : Bel w1 w5 := Bel.of (by (repeat (first | (with_reducible assumption) | (with_reducible exact Bel.refl _) | (with_reducible refine Bel.drew ?_) | (with_reducible refine Bel.drewN ?_ _) | (with_reducible refine Bel.alloc ?_ _)))) h5; have z5 := hcl.out _ j5; clear h5)
    | (go_at_call 13; (with_reducible refine (c3.out _ ?_).mono ?_); (repeat (first | (with_reducible assumption) | (with_reducible exact Bel.refl _) | (with_reducible refine Bel.drew ?_) | (with_reducible refine Bel.drewN ?_ _) | (with_reducible refine Bel.alloc ?_ _))); rintro e w6 ⟨rfl, h6⟩; have k6 : Bel w w6 := Bel.of (by (repeat (first | (with_reducible assumption) | (with_reducible exact Bel.refl _) | (with_reducible refine Bel.drew ?_) | (with_reducible refine Bel.drewN ?_ _) | (with_reducible refine Bel.alloc ?_ _)))) h6; have j6 : Bel w1 w6 := Bel.of (by (repeat (first | (with_reducible assumption) | (with_reducible exact Bel.refl _) | (with_reducible refine Bel.drew ?_) | (with_reducible refine Bel.drewN ?_ _) | (with_reducible refine Bel.alloc ?_ _)))) h6; have z6 := hcl.out _ j6; clear h6)
    | (go_at_call 26; (with_reducible refine (c4.out _ ?_).mono ?_); (repeat (first | (with_reducible assumption) | (with_reducible exact Bel.refl _) | (with_reducible refine Bel.drew ?_) | (with_reducible refine Bel.drewN ?_ _) | (with_reducible refine Bel.alloc ?_ _))); rintro e w7 ⟨rfl, h7⟩; have k7 : Bel w w7 := Bel.of (by (repeat (first | (with_reducible assumption) | (with_reducible exact Bel.refl _) | (with_reducible refine Bel.drew ?_) | (with_reducible refine Bel.drewN ?_ _) | (with_reducible refine Bel.alloc ?_ _)))) h7; have j7 : Bel w1 w7 := Bel.of (by (repeat (first | (with_reducible assumption) | (with_reducible exact Bel.refl _) | (with_reducible refine Bel.drew ?_) | (with_reducible refine Bel.drewN ?_ _) | (with_reducible refine Bel.alloc ?_ _)))) h7; have z7 := hcl.out _ j7; clear h7)
    | (go_at_call 28; (with_reducible refine (c5.out _ ?_).mono ?_); (repeat (first | (with_reducible assumption) | (with_reducible exact Bel.refl _) | (with_reducible refine Bel.drew ?_) | (with_reducible refine Bel.drewN ?_ _) | (with_reducible refine Bel.alloc ?_ _))); rintro e w8 ⟨rfl, h8⟩; have k8 : Bel w w8 := Bel.of (by (repeat (first | (with_reducible assumption) | (with_reducible exact Bel.refl _) | (with_reducible refine Bel.drew ?_) | (with_reducible refine Bel.drewN ?_ _) | (with_reducible refine Bel.alloc ?_ _)))) h8; have j8 : Bel w1 w8 := Bel.of (by (repeat (first | (with_reducible assumption) | (with_reducible exact Bel.refl _) | (with_reducible refine Bel.drew ?_) | (with_reducible refine Bel.drewN ?_ _) | (with_reducible refine Bel.alloc ?_ _)))) h8; have z8 := hcl.out _ j8; clear h8)
    | (go_at_call 15; (with_reducible refine (d0.out _).mono ?_); rintro e w' ⟨rfl, rfl⟩)
    | (go_at_call 15; (with_reducible refine (d1.out _).mono ?_); rintro e w' ⟨rfl, rfl⟩)
    | (go_at_call 19; (with_reducible refine (dj.out _).mono ?_); rintro e w' ⟨rfl, rfl⟩))
  go_ret
  exact ⟨rfl, Bel.out (by (repeat (first | (with_reducible assumption) | (with_reducible exact Bel.refl _) | (with_reducible refine Bel.drew ?_) | (with_reducible refine Bel.drewN ?_ _) | (with_reducible refine Bel.alloc ?_ _))))⟩
end Go.Proofs.YtefnihgjacnjfaaDoor
