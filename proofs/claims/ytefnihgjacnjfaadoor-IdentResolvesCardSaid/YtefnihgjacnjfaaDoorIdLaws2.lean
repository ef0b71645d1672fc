/- The laws Names, Joins, Means, Cases of layer 6, walked. -/
import Derived.Test.YtefnihgjacnjfaaDoorIdLaws1
namespace Go.Proofs.YtefnihgjacnjfaaDoor
open Go.RowKit
set_option linter.unusedVariables false
set_option linter.unusedSimpArgs false

set_option maxHeartbeats 4000000 in
set_option maxRecDepth 100000 in
theorem law_Names_big (s : ByteArray) (w : World) (hM : ML w) (hs : 5000 < s.size) : Calls Tryd.prog 3 #[.string s] w fun e w' => e = .returned (.bool true) ∧ Below w.heap.size w w' := by
  have ca := Lib.hid (law_awake w hM)
  clear hM
  · go_enter Tryd.func3, Tryd.ntmps3
    go_wp2_with (go_at_call 10; (with_reducible refine ca.out.mono ?_); rintro e w1 ⟨rfl, h1⟩)
    go_ret
    exact ⟨rfl, h1⟩
set_option maxHeartbeats 4000000 in
set_option maxRecDepth 100000 in
theorem law_Names_small (s : ByteArray) (w : World) (hM : ML w) (hs : s.size ≤ 5000) : Calls Tryd.prog 3 #[.string s] w fun e w' => e = .returned (.bool true) ∧ Below w.heap.size w w' := by
  have ca := Lib.hid (fun W (h : Bel w W) => law_awake W (hM.bel h))
  have c1 := fun W (h : Bel w W) => id_IsPart s s.data.toList W rfl (by omega)
  have c2 := fun W => ref_IsPart s s.data.toList W rfl (by omega)
  have c3 := fun W (h : Bel w W) => id_IsFull s s.data.toList W rfl (by omega) (hM.bel h)
  have c4 := fun W => ref_IsFull s s.data.toList W rfl (by omega)
  have c5 := fun W => id_IsWord s s.data.toList W rfl
  have c6 := fun W => ref_IsWord s s.data.toList W rfl
  generalize Id.isPart s.data.toList = P at c1 c2
  generalize Id.isFull s.data.toList = F at c3 c4
  generalize Id.isWord s.data.toList = D at c5 c6
  have C1 := Lib.hid c1
  have C2 := Lib.hid c2
  have C3 := Lib.hid c3
  have C4 := Lib.hid c4
  have C5 := Lib.hid c5
  have C6 := Lib.hid c6
  clear c1 c2 c3 c4 c5 c6 hM
  go_enter Tryd.func3, Tryd.ntmps3
  go_wp2_with (first
    | (go_at_call 11; (with_reducible refine (C1.out _ ?_).mono ?_); (repeat (first | (with_reducible assumption) | (with_reducible exact Bel.refl _) | (with_reducible refine Bel.drew ?_) | (with_reducible refine Bel.drewN ?_ _) | (with_reducible refine Bel.alloc ?_ _))); rintro e w1 ⟨rfl, h1⟩; have k1 : Bel w w1 := Bel.of (by (repeat (first | (with_reducible assumption) | (with_reducible exact Bel.refl _) | (with_reducible refine Bel.drew ?_) | (with_reducible refine Bel.drewN ?_ _) | (with_reducible refine Bel.alloc ?_ _)))) h1; clear h1)
    | (go_at_call 12; (with_reducible refine (C2.out _).mono ?_); rintro e w' ⟨rfl, rfl⟩)
    | (go_at_call 13; (with_reducible refine (C3.out _ ?_).mono ?_); (repeat (first | (with_reducible assumption) | (with_reducible exact Bel.refl _) | (with_reducible refine Bel.drew ?_) | (with_reducible refine Bel.drewN ?_ _) | (with_reducible refine Bel.alloc ?_ _))); rintro e w2 ⟨rfl, h2⟩; have k2 : Bel w w2 := Bel.of (by (repeat (first | (with_reducible assumption) | (with_reducible exact Bel.refl _) | (with_reducible refine Bel.drew ?_) | (with_reducible refine Bel.drewN ?_ _) | (with_reducible refine Bel.alloc ?_ _)))) h2; clear h2)
    | (go_at_call 14; (with_reducible refine (C4.out _).mono ?_); rintro e w' ⟨rfl, rfl⟩)
    | (go_at_call 15; (with_reducible refine (C5.out _).mono ?_); rintro e w' ⟨rfl, rfl⟩)
    | (go_at_call 16; (with_reducible refine (C6.out _).mono ?_); rintro e w' ⟨rfl, rfl⟩)
    | (go_at_call 10; (with_reducible refine (ca.out _ ?_).mono ?_); (repeat (first | (with_reducible assumption) | (with_reducible exact Bel.refl _) | (with_reducible refine Bel.drew ?_) | (with_reducible refine Bel.drewN ?_ _) | (with_reducible refine Bel.alloc ?_ _))); rintro e w3 ⟨rfl, h3⟩; have k3 : Bel w w3 := Bel.of (by (repeat (first | (with_reducible assumption) | (with_reducible exact Bel.refl _) | (with_reducible refine Bel.drew ?_) | (with_reducible refine Bel.drewN ?_ _) | (with_reducible refine Bel.alloc ?_ _)))) h3; clear h3))
  go_ret
  exact ⟨rfl, Bel.out (by (repeat (first | (with_reducible assumption) | (with_reducible exact Bel.refl _) | (with_reducible refine Bel.drew ?_) | (with_reducible refine Bel.drewN ?_ _) | (with_reducible refine Bel.alloc ?_ _))))⟩
set_option maxHeartbeats 4000000 in
set_option maxRecDepth 100000 in
theorem law_Cases_big (s : ByteArray) (w : World) (hM : ML w) (hs : 5000 < s.size) : Calls Tryd.prog 6 #[.string s] w fun e w' => e = .returned (.bool true) ∧ Below w.heap.size w w' := by
  have ca := Lib.hid (law_awake w hM)
  clear hM
  · go_enter Tryd.func6, Tryd.ntmps6
    go_wp2_with (go_at_call 10; (with_reducible refine ca.out.mono ?_); rintro e w1 ⟨rfl, h1⟩)
    go_ret
    exact ⟨rfl, h1⟩
set_option maxHeartbeats 4000000 in
set_option maxRecDepth 100000 in
theorem law_Cases_small (s : ByteArray) (w : World) (hM : ML w) (hs : s.size ≤ 5000) : Calls Tryd.prog 6 #[.string s] w fun e w' => e = .returned (.bool true) ∧ Below w.heap.size w w' := by
  have ca := Lib.hid (fun W (h : Bel w W) => law_awake W (hM.bel h))
  have c1 := fun W (h : Bel w W) => id_Camel s s.data.toList W rfl (by omega) (hM.bel h)
  have c2 := fun W (h : Bel w W) => ref_Camel s s.data.toList W rfl (by omega)
  have c3 := fun W (h : Bel w W) => id_Snake s s.data.toList W rfl (by omega)
  have c4 := fun W (h : Bel w W) => ref_Snake s s.data.toList W rfl (by omega)
  have e1 := eq_yes (S (Id.camel s.data.toList)) (S (Id.camel s.data.toList)) rfl
  have e2 := eq_yes (S (Id.snake s.data.toList)) (S (Id.snake s.data.toList)) rfl
  generalize S (Id.camel s.data.toList) = P at c1 c2 e1
  generalize S (Id.snake s.data.toList) = F at c3 c4 e2
  have C1 := Lib.hid c1
  have C2 := Lib.hid c2
  have C3 := Lib.hid c3
  have C4 := Lib.hid c4
  clear c1 c2 c3 c4 hM
  go_enter Tryd.func6, Tryd.ntmps6
  go_wp2_with (first
    | (go_at_call 26; (with_reducible refine (C1.out _ ?_).mono ?_); (repeat (first | (with_reducible assumption) | (with_reducible exact Bel.refl _) | (with_reducible refine Bel.drew ?_) | (with_reducible refine Bel.drewN ?_ _) | (with_reducible refine Bel.alloc ?_ _))); rintro e w1 ⟨rfl, h1⟩; have k1 : Bel w w1 := Bel.of (by (repeat (first | (with_reducible assumption) | (with_reducible exact Bel.refl _) | (with_reducible refine Bel.drew ?_) | (with_reducible refine Bel.drewN ?_ _) | (with_reducible refine Bel.alloc ?_ _)))) h1; clear h1)
    | (go_at_call 27; (with_reducible refine (C2.out _ ?_).mono ?_); (repeat (first | (with_reducible assumption) | (with_reducible exact Bel.refl _) | (with_reducible refine Bel.drew ?_) | (with_reducible refine Bel.drewN ?_ _) | (with_reducible refine Bel.alloc ?_ _))); rintro e w2 ⟨rfl, h2⟩; have k2 : Bel w w2 := Bel.of (by (repeat (first | (with_reducible assumption) | (with_reducible exact Bel.refl _) | (with_reducible refine Bel.drew ?_) | (with_reducible refine Bel.drewN ?_ _) | (with_reducible refine Bel.alloc ?_ _)))) h2; clear h2)
    | (go_at_call 28; (with_reducible refine (C3.out _ ?_).mono ?_); (repeat (first | (with_reducible assumption) | (with_reducible exact Bel.refl _) | (with_reducible refine Bel.drew ?_) | (with_reducible refine Bel.drewN ?_ _) | (with_reducible refine Bel.alloc ?_ _))); rintro e w3 ⟨rfl, h3⟩; have k3 : Bel w w3 := Bel.of (by (repeat (first | (with_reducible assumption) | (with_reducible exact Bel.refl _) | (with_reducible refine Bel.drew ?_) | (with_reducible refine Bel.drewN ?_ _) | (with_reducible refine Bel.alloc ?_ _)))) h3; clear h3)
    | (go_at_call 29; (with_reducible refine (C4.out _ ?_).mono ?_); (repeat (first | (with_reducible assumption) | (with_reducible exact Bel.refl _) | (with_reducible refine Bel.drew ?_) | (with_reducible refine Bel.drewN ?_ _) | (with_reducible refine Bel.alloc ?_ _))); rintro e w4 ⟨rfl, h4⟩; have k4 : Bel w w4 := Bel.of (by (repeat (first | (with_reducible assumption) | (with_reducible exact Bel.refl _) | (with_reducible refine Bel.drew ?_) | (with_reducible refine Bel.drewN ?_ _) | (with_reducible refine Bel.alloc ?_ _)))) h4; clear h4)
    | (go_at_call 10; (with_reducible refine (ca.out _ ?_).mono ?_); (repeat (first | (with_reducible assumption) | (with_reducible exact Bel.refl _) | (with_reducible refine Bel.drew ?_) | (with_reducible refine Bel.drewN ?_ _) | (with_reducible refine Bel.alloc ?_ _))); rintro e w5 ⟨rfl, h5⟩; have k5 : Bel w w5 := Bel.of (by (repeat (first | (with_reducible assumption) | (with_reducible exact Bel.refl _) | (with_reducible refine Bel.drew ?_) | (with_reducible refine Bel.drewN ?_ _) | (with_reducible refine Bel.alloc ?_ _)))) h5; clear h5))
  go_ret
  exact ⟨rfl, Bel.out (by (repeat (first | (with_reducible assumption) | (with_reducible exact Bel.refl _) | (with_reducible refine Bel.drew ?_) | (with_reducible refine Bel.drewN ?_ _) | (with_reducible refine Bel.alloc ?_ _))))⟩
set_option maxHeartbeats 4000000 in
set_option maxRecDepth 100000 in
theorem law_Joins_big (s t : ByteArray) (w : World) (hM : ML w) (hs : 1000 < s.size ∨ 1000 < t.size) : Calls Tryd.prog 4 #[.string s, .string t] w fun e w' => e = .returned (.bool true) ∧ Below w.heap.size w w' := by
  have ca := Lib.hid (law_awake w hM)
  clear hM
  by_cases h1 : 1000 < s.size
  · clear hs
    go_enter Tryd.func4, Tryd.ntmps4
    go_wp2_with (go_at_call 10; (with_reducible refine ca.out.mono ?_); rintro e w1 ⟨rfl, h1⟩)
    go_ret
    exact ⟨rfl, h1⟩
  · have h2 : 1000 < t.size := by omega
    have h3 : s.size ≤ 1000 := by omega
    clear hs h1
    go_enter Tryd.func4, Tryd.ntmps4
    go_wp2_with (go_at_call 10; (with_reducible refine ca.out.mono ?_); rintro e w1 ⟨rfl, h1⟩)
    go_ret
    exact ⟨rfl, h1⟩
set_option maxHeartbeats 4000000 in
set_option maxRecDepth 100000 in
theorem law_Joins_small (s t : ByteArray) (w : World) (hM : ML w) (hs : s.size ≤ 1000) (ht : t.size ≤ 1000) : Calls Tryd.prog 4 #[.string s, .string t] w fun e w' => e = .returned (.bool true) ∧ Below w.heap.size w w' := by
  have ca := Lib.hid (fun W (h : Bel w W) => law_awake W (hM.bel h))
  have c1 := fun W => id_Split s s.data.toList W rfl (by omega)
  have c2 := fun W => ref_Split s s.data.toList W rfl (by omega)
  have c3 := fun W => id_Join s t s.data.toList t.data.toList W rfl rfl (by omega) (by omega)
  have c4 := fun W => ref_Join s t s.data.toList t.data.toList W rfl rfl (by omega) (by omega)
  have c5 := fun W => id_Up s s.data.toList W rfl (by omega)
  have c6 := fun W => ref_Up s s.data.toList W rfl (by omega)
  have hul : (Id.up s.data.toList).length ≤ 1000000000 := by
    have := up_length s.data.toList
    rw [len_l] at this
    omega
  generalize Id.up s.data.toList = U at c5 c6 hul
  have e1 := eq_yes (S (Id.splitL s.data.toList).1) (S (Id.splitL s.data.toList).1) rfl
  have e2 := eq_yes (S (Id.splitL s.data.toList).2) (S (Id.splitL s.data.toList).2) rfl
  have e3 := eq_yes (S (Id.join s.data.toList t.data.toList)) (S (Id.join s.data.toList t.data.toList)) rfl
  generalize S (Id.splitL s.data.toList).1 = A at c1 c2 e1
  generalize S (Id.splitL s.data.toList).2 = B at c1 c2 e2
  generalize S (Id.join s.data.toList t.data.toList) = J at c3 c4 e3
  have C1 := Lib.hid c1
  have C2 := Lib.hid c2
  have C3 := Lib.hid c3
  have C4 := Lib.hid c4
  have C5 := Lib.hid c5
  have C6 := Lib.hid c6
  have hul2 := Lib.hid hul
  clear c1 c2 c3 c4 c5 c6 hM hul
  go_enter Tryd.func4, Tryd.ntmps4
  go_wp2_with (first
    | (go_at_call 17; (with_reducible refine (C1.out _).mono ?_); rintro e w' ⟨rfl, q1, rfl⟩)
    | (go_at_call 18; (with_reducible refine (C2.out _).mono ?_); rintro e w' ⟨rfl, q2, rfl⟩)
    | (go_at_call 19; (with_reducible refine (C3.out _).mono ?_); rintro e w' ⟨rfl, rfl⟩)
    | (go_at_call 20; (with_reducible refine (C4.out _).mono ?_); rintro e w' ⟨rfl, rfl⟩)
    | (go_at_call 22; (with_reducible refine (C5.out _).mono ?_); rintro e w1 ⟨b1, o1, c1, rfl, ⟨hb1, hc1⟩, h1⟩; have k1 : Bel w w1 := Bel.of (by (repeat (first | (with_reducible assumption) | (with_reducible exact Bel.refl _) | (with_reducible refine Bel.drew ?_) | (with_reducible refine Bel.drewN ?_ _) | (with_reducible refine Bel.alloc ?_ _)))) h1; have H1 := Lib.hid hc1; clear h1 hc1)
    | (go_at_call 23; (with_reducible refine (C6.out _).mono ?_); rintro e w2 ⟨b2, o2, c2, rfl, ⟨hb2, hc2⟩, h2⟩; have k2 : Bel w w2 := Bel.of (by (repeat (first | (with_reducible assumption) | (with_reducible exact Bel.refl _) | (with_reducible refine Bel.drew ?_) | (with_reducible refine Bel.drewN ?_ _) | (with_reducible refine Bel.alloc ?_ _)))) h2; have H2 := Lib.hid hc2; have j2 : Bel w1 w2 := h2; clear h2 hc2)
    | (go_at_call 21; refine (ref_SameTexts b1 o1 c1 b2 o2 c2 U w2 hul2.out (fun j k hk => (j2.cell hb1).trans (H1.out j k hk)) H2.out).mono ?_; rintro e w' ⟨rfl, q3, rfl⟩)
    | (go_at_call 10; (with_reducible refine (ca.out _ ?_).mono ?_); (repeat (first | (with_reducible assumption) | (with_reducible exact Bel.refl _) | (with_reducible refine Bel.drew ?_) | (with_reducible refine Bel.drewN ?_ _) | (with_reducible refine Bel.alloc ?_ _))); rintro e w3 ⟨rfl, h3⟩; have k3 : Bel w w3 := Bel.of (by (repeat (first | (with_reducible assumption) | (with_reducible exact Bel.refl _) | (with_reducible refine Bel.drew ?_) | (with_reducible refine Bel.drewN ?_ _) | (with_reducible refine Bel.alloc ?_ _)))) h3; clear h3))
  go_ret
  exact ⟨rfl, Bel.out (by (repeat (first | (with_reducible assumption) | (with_reducible exact Bel.refl _) | (with_reducible refine Bel.drew ?_) | (with_reducible refine Bel.drewN ?_ _) | (with_reducible refine Bel.alloc ?_ _))))⟩
set_option maxHeartbeats 4000000 in
set_option maxRecDepth 100000 in
theorem law_Means_big (s t : ByteArray) (p : Option Addr) (n c : Nat) (w : World) (hM : ML w) (hs : 300 < s.size ∨ 300 < t.size ∨ 60 < n) : Calls Tryd.prog 5 #[.string s, .string t, .slice p n c] w fun e w' => e = .returned (.bool true) ∧ Below w.heap.size w w' := by
  have ca := Lib.hid (law_awake w hM)
  clear hM
  by_cases h1 : 300 < s.size
  · clear hs
    go_enter Tryd.func5, Tryd.ntmps5
    go_wp2_with (go_at_call 10; (with_reducible refine ca.out.mono ?_); rintro e w1 ⟨rfl, h1⟩)
    go_ret
    exact ⟨rfl, h1⟩
  · have h3 : s.size ≤ 300 := by omega
    by_cases h2 : 300 < t.size
    · clear hs h1
      go_enter Tryd.func5, Tryd.ntmps5
      go_wp2_with (go_at_call 10; (with_reducible refine ca.out.mono ?_); rintro e w1 ⟨rfl, h1⟩)
      go_ret
      exact ⟨rfl, h1⟩
    · have h4 : t.size ≤ 300 := by omega
      have h5 : 60 < n := by omega
      clear hs h1 h2
      go_enter Tryd.func5, Tryd.ntmps5
      go_wp2_with (go_at_call 10; (with_reducible refine ca.out.mono ?_); rintro e w1 ⟨rfl, h1⟩)
      go_ret
      exact ⟨rfl, h1⟩
set_option maxHeartbeats 4000000 in
set_option maxRecDepth 100000 in
theorem law_Means_small (s t : ByteArray) (p : Option Addr) (n c : Nat) (ks : List (List UInt8)) (w : World) (hM : ML w) (hs : s.size ≤ 300) (ht : t.size ≤ 300) (hn : n ≤ 60) (hk : Strs w (.slice p n c) ks) : Calls Tryd.prog 5 #[.string s, .string t, .slice p n c] w fun e w' => e = .returned (.bool true) ∧ Below w.heap.size w w' := by
  have ca := Lib.hid (fun W (h : Bel w W) => law_awake W (hM.bel h))
  have c1 := fun W (h : Bel w W) => id_Resolve s t s.data.toList t.data.toList _ ks W rfl rfl (by omega) (by omega) (hk.below h)
  have c2 := fun W (h : Bel w W) => ref_Resolve s t s.data.toList t.data.toList _ ks W rfl rfl (by omega) (by omega) (hk.below h)
  unfold resV at c1 c2
  have e1 := eq_yes (S (Id.resolve s.data.toList t.data.toList ks).1) (S (Id.resolve s.data.toList t.data.toList ks).1) rfl
  generalize S (Id.resolve s.data.toList t.data.toList ks).1 = A at c1 c2 e1
  generalize (Id.resolve s.data.toList t.data.toList ks).2 = B at c1 c2
  have C1 := Lib.hid c1
  have C2 := Lib.hid c2
  clear c1 c2 hM hk
  go_enter Tryd.func5, Tryd.ntmps5
  go_wp2_with (first
    | (go_at_call 24; (with_reducible refine (C1.out _ ?_).mono ?_); (repeat (first | (with_reducible assumption) | (with_reducible exact Bel.refl _) | (with_reducible refine Bel.drew ?_) | (with_reducible refine Bel.drewN ?_ _) | (with_reducible refine Bel.alloc ?_ _))); rintro e w1 ⟨rfl, h1⟩; have k1 : Bel w w1 := Bel.of (by (repeat (first | (with_reducible assumption) | (with_reducible exact Bel.refl _) | (with_reducible refine Bel.drew ?_) | (with_reducible refine Bel.drewN ?_ _) | (with_reducible refine Bel.alloc ?_ _)))) h1; clear h1)
    | (go_at_call 25; (with_reducible refine (C2.out _ ?_).mono ?_); (repeat (first | (with_reducible assumption) | (with_reducible exact Bel.refl _) | (with_reducible refine Bel.drew ?_) | (with_reducible refine Bel.drewN ?_ _) | (with_reducible refine Bel.alloc ?_ _))); rintro e w2 ⟨rfl, h2⟩; have k2 : Bel w w2 := Bel.of (by (repeat (first | (with_reducible assumption) | (with_reducible exact Bel.refl _) | (with_reducible refine Bel.drew ?_) | (with_reducible refine Bel.drewN ?_ _) | (with_reducible refine Bel.alloc ?_ _)))) h2; clear h2)
    | (go_at_call 10; (with_reducible refine (ca.out _ ?_).mono ?_); (repeat (first | (with_reducible assumption) | (with_reducible exact Bel.refl _) | (with_reducible refine Bel.drew ?_) | (with_reducible refine Bel.drewN ?_ _) | (with_reducible refine Bel.alloc ?_ _))); rintro e w3 ⟨rfl, h3⟩; have k3 : Bel w w3 := Bel.of (by (repeat (first | (with_reducible assumption) | (with_reducible exact Bel.refl _) | (with_reducible refine Bel.drew ?_) | (with_reducible refine Bel.drewN ?_ _) | (with_reducible refine Bel.alloc ?_ _)))) h3; clear h3))
  go_ret
  exact ⟨rfl, Bel.out (by (repeat (first | (with_reducible assumption) | (with_reducible exact Bel.refl _) | (with_reducible refine Bel.drew ?_) | (with_reducible refine Bel.drewN ?_ _) | (with_reducible refine Bel.alloc ?_ _))))⟩
end Go.Proofs.YtefnihgjacnjfaaDoor
