/- Layer 8 walked: the map of the known annotations. -/
import Derived.Test.YtfoaaglbpmmhiaaGreatDoorKitA
namespace Go.Proofs.YtfoaaglbpmmhiaaGreatDoor
open Go.RowKit Ck
set_option linter.unusedVariables false
set_option linter.unusedSimpArgs false

/-- an element of the map of the known annotations -/
def ruleList : List Value → Option (DataW Unit × List MemPlace)
  | [.int .i64 a, .int .i64 b] => some (.agg [.lit (.int .i64 a), .lit (.int .i64 b)], [])
  | _ => none
def ruleElem : Value → Option (DataW Unit × List MemPlace)
  | .agg cs => ruleList cs.toList
  | _ => none
theorem ruleElem_inv {v : Value} {d : DataW Unit × List MemPlace} {a b : Int} (h : ruleElem v = some d) (hd : d.1 = .agg [.lit (.int .i64 a), .lit (.int .i64 b)]) : v = .agg #[.int .i64 a, .int .i64 b] := by
  unfold ruleElem at h
  split at h
  · rename_i cs
    obtain ⟨l⟩ := cs
    simp only at h
    unfold ruleList at h
    split at h
    · cases h
      simp at hd
      obtain ⟨rfl, rfl⟩ := hd
      rfl
    · cases h
  · cases h
def ruleD (r : Int × Int) : DataW Unit := .agg [.lit (.int .i64 r.1), .lit (.int .i64 r.2)]
def knownF (name : Str) : Option (DataW Unit) := (Ck.find? name).map ruleD
def knownF1 : Str → Option (DataW Unit) := fun k => if k = [100, 101, 112, 114, 101, 99, 97, 116, 101, 100] then some (ruleD (1, 126)) else none
def knownF2 : Str → Option (DataW Unit) := fun k => if k = [100, 111, 99] then some (ruleD (7, 126)) else knownF1 k
def knownF3 : Str → Option (DataW Unit) := fun k => if k = [97, 108, 105, 97, 115] then some (ruleD (7, 84)) else knownF2 k
def knownF4 : Str → Option (DataW Unit) := fun k => if k = [115, 105, 110, 99, 101] then some (ruleD (4, 84)) else knownF3 k
def knownF5 : Str → Option (DataW Unit) := fun k => if k = [117, 110, 116, 105, 108] then some (ruleD (4, 84)) else knownF4 k
def knownF6 : Str → Option (DataW Unit) := fun k => if k = [109, 105, 110] then some (ruleD (3, 4)) else knownF5 k
def knownF7 : Str → Option (DataW Unit) := fun k => if k = [109, 97, 120] then some (ruleD (3, 4)) else knownF6 k
def knownF8 : Str → Option (DataW Unit) := fun k => if k = [108, 101, 110, 103, 116, 104] then some (ruleD (4, 4)) else knownF7 k
def knownF9 : Str → Option (DataW Unit) := fun k => if k = [115, 101, 99, 114, 101, 116] then some (ruleD (1, 4)) else knownF8 k
def knownF10 : Str → Option (DataW Unit) := fun k => if k = [105, 100, 101, 109, 112, 111, 116, 101, 110, 116] then some (ruleD (1, 64)) else knownF9 k
def knownF11 : Str → Option (DataW Unit) := fun k => if k = [116, 105, 109, 101, 111, 117, 116] then some (ruleD (4, 64)) else knownF10 k
def knownF12 : Str → Option (DataW Unit) := fun k => if k = [114, 111, 117, 116, 101] then some (ruleD (7, 64)) else knownF11 k
def knownF13 : Str → Option (DataW Unit) := fun k => if k = [111, 119, 110, 101, 114] then some (ruleD (7, 34)) else knownF12 k
theorem knownF_eq : knownF13 = knownF := by
  funext k
  unfold knownF Ck.find? Ck.known
  unfold knownF13
  unfold knownF12
  unfold knownF11
  unfold knownF10
  unfold knownF9
  unfold knownF8
  unfold knownF7
  unfold knownF6
  unfold knownF5
  unfold knownF4
  unfold knownF3
  unfold knownF2
  unfold knownF1
  simp only [List.find?_cons, List.find?_nil]
  by_cases h0 : k = [100, 101, 112, 114, 101, 99, 97, 116, 101, 100]
  · subst h0; rfl
  by_cases h1 : k = [100, 111, 99]
  · subst h1; rfl
  by_cases h2 : k = [97, 108, 105, 97, 115]
  · subst h2; rfl
  by_cases h3 : k = [115, 105, 110, 99, 101]
  · subst h3; rfl
  by_cases h4 : k = [117, 110, 116, 105, 108]
  · subst h4; rfl
  by_cases h5 : k = [109, 105, 110]
  · subst h5; rfl
  by_cases h6 : k = [109, 97, 120]
  · subst h6; rfl
  by_cases h7 : k = [108, 101, 110, 103, 116, 104]
  · subst h7; rfl
  by_cases h8 : k = [115, 101, 99, 114, 101, 116]
  · subst h8; rfl
  by_cases h9 : k = [105, 100, 101, 109, 112, 111, 116, 101, 110, 116]
  · subst h9; rfl
  by_cases h10 : k = [116, 105, 109, 101, 111, 117, 116]
  · subst h10; rfl
  by_cases h11 : k = [114, 111, 117, 116, 101]
  · subst h11; rfl
  by_cases h12 : k = [111, 119, 110, 101, 114]
  · subst h12; rfl
  simp [h0, h1, h2, h3, h4, h5, h6, h7, h8, h9, h10, h11, h12, Ne.symm h0, Ne.symm h1, Ne.symm h2, Ne.symm h3, Ne.symm h4, Ne.symm h5, Ne.symm h6, Ne.symm h7, Ne.symm h8, Ne.symm h9, Ne.symm h10, Ne.symm h11, Ne.symm h12]
/-- what known returns -/
def KnownPost (w : World) (e : Ending) (w' : World) : Prop := ∃ B : Nat, e = .returned (.map (some B)) ∧ MapIs ruleElem w' B 13 knownF ∧ Below w.heap.size w w'
theorem grown_below {w a b : World} {B : Nat} (h : Below w.heap.size w a) (hB : w.heap.size ≤ B) (hg : a.grownBy b (some B)) : Below w.heap.size w b := h.grown hg h.size (fun k hk => by cases hk; exact hB)
set_option maxHeartbeats 4000000 in
set_option maxRecDepth 100000 in
theorem nt_known (w : World) : Calls Tryz.prog 221 #[] w (KnownPost w) := by
  have hmm := @run_makeMap Tryz.prog
  go_enter Tryz.func221, Tryz.ntmps221
  have m0 : MapIs (H := Unit) ruleElem (w.alloc (.map #[] 0)) w.heap.size 0 (fun _ => none) := MapIs.made w ruleElem
  have b0 : Below w.heap.size w (w.alloc (.map #[] 0)) := (Below.refl _ _).alloc (Nat.le_refl _) _
  go_wp2_with (refine wpList_insert_map _ rfl _ _ _ 255 253 rfl Tryz.underlying255 w.heap.size 0 (fun _ => none) rfl m0 (by decide) [100, 101, 112, 114, 101, 99, 97, 116, 101, 100] (by decide) (.agg #[.int .i64 1, .int .i64 126]) rfl rfl (ruleD (1, 126)) [] rfl ?_)
  intro w1 m g
  have b1 := grown_below b0 (Nat.le_refl _) g
  have m1 : MapIs ruleElem w1 w.heap.size 1 knownF1 := m
  clear m g m0 b0
  go_wp2_with (refine wpList_insert_map _ rfl _ _ _ 255 253 rfl Tryz.underlying255 w.heap.size 1 knownF1 rfl m1 (by decide) [100, 111, 99] (by decide) (.agg #[.int .i64 7, .int .i64 126]) rfl rfl (ruleD (7, 126)) [] rfl ?_)
  intro w2 m g
  have b2 := grown_below b1 (Nat.le_refl _) g
  have m2 : MapIs ruleElem w2 w.heap.size 2 knownF2 := m
  clear m g m1 b1
  go_wp2_with (refine wpList_insert_map _ rfl _ _ _ 255 253 rfl Tryz.underlying255 w.heap.size 2 knownF2 rfl m2 (by decide) [97, 108, 105, 97, 115] (by decide) (.agg #[.int .i64 7, .int .i64 84]) rfl rfl (ruleD (7, 84)) [] rfl ?_)
  intro w3 m g
  have b3 := grown_below b2 (Nat.le_refl _) g
  have m3 : MapIs ruleElem w3 w.heap.size 3 knownF3 := m
  clear m g m2 b2
  go_wp2_with (refine wpList_insert_map _ rfl _ _ _ 255 253 rfl Tryz.underlying255 w.heap.size 3 knownF3 rfl m3 (by decide) [115, 105, 110, 99, 101] (by decide) (.agg #[.int .i64 4, .int .i64 84]) rfl rfl (ruleD (4, 84)) [] rfl ?_)
  intro w4 m g
  have b4 := grown_below b3 (Nat.le_refl _) g
  have m4 : MapIs ruleElem w4 w.heap.size 4 knownF4 := m
  clear m g m3 b3
  go_wp2_with (refine wpList_insert_map _ rfl _ _ _ 255 253 rfl Tryz.underlying255 w.heap.size 4 knownF4 rfl m4 (by decide) [117, 110, 116, 105, 108] (by decide) (.agg #[.int .i64 4, .int .i64 84]) rfl rfl (ruleD (4, 84)) [] rfl ?_)
  intro w5 m g
  have b5 := grown_below b4 (Nat.le_refl _) g
  have m5 : MapIs ruleElem w5 w.heap.size 5 knownF5 := m
  clear m g m4 b4
  go_wp2_with (refine wpList_insert_map _ rfl _ _ _ 255 253 rfl Tryz.underlying255 w.heap.size 5 knownF5 rfl m5 (by decide) [109, 105, 110] (by decide) (.agg #[.int .i64 3, .int .i64 4]) rfl rfl (ruleD (3, 4)) [] rfl ?_)
  intro w6 m g
  have b6 := grown_below b5 (Nat.le_refl _) g
  have m6 : MapIs ruleElem w6 w.heap.size 6 knownF6 := m
  clear m g m5 b5
  go_wp2_with (refine wpList_insert_map _ rfl _ _ _ 255 253 rfl Tryz.underlying255 w.heap.size 6 knownF6 rfl m6 (by decide) [109, 97, 120] (by decide) (.agg #[.int .i64 3, .int .i64 4]) rfl rfl (ruleD (3, 4)) [] rfl ?_)
  intro w7 m g
  have b7 := grown_below b6 (Nat.le_refl _) g
  have m7 : MapIs ruleElem w7 w.heap.size 7 knownF7 := m
  clear m g m6 b6
  go_wp2_with (refine wpList_insert_map _ rfl _ _ _ 255 253 rfl Tryz.underlying255 w.heap.size 7 knownF7 rfl m7 (by decide) [108, 101, 110, 103, 116, 104] (by decide) (.agg #[.int .i64 4, .int .i64 4]) rfl rfl (ruleD (4, 4)) [] rfl ?_)
  intro w8 m g
  have b8 := grown_below b7 (Nat.le_refl _) g
  have m8 : MapIs ruleElem w8 w.heap.size 8 knownF8 := m
  clear m g m7 b7
  go_wp2_with (refine wpList_insert_map _ rfl _ _ _ 255 253 rfl Tryz.underlying255 w.heap.size 8 knownF8 rfl m8 (by decide) [115, 101, 99, 114, 101, 116] (by decide) (.agg #[.int .i64 1, .int .i64 4]) rfl rfl (ruleD (1, 4)) [] rfl ?_)
  intro w9 m g
  have b9 := grown_below b8 (Nat.le_refl _) g
  have m9 : MapIs ruleElem w9 w.heap.size 9 knownF9 := m
  clear m g m8 b8
  go_wp2_with (refine wpList_insert_map _ rfl _ _ _ 255 253 rfl Tryz.underlying255 w.heap.size 9 knownF9 rfl m9 (by decide) [105, 100, 101, 109, 112, 111, 116, 101, 110, 116] (by decide) (.agg #[.int .i64 1, .int .i64 64]) rfl rfl (ruleD (1, 64)) [] rfl ?_)
  intro w10 m g
  have b10 := grown_below b9 (Nat.le_refl _) g
  have m10 : MapIs ruleElem w10 w.heap.size 10 knownF10 := m
  clear m g m9 b9
  go_wp2_with (refine wpList_insert_map _ rfl _ _ _ 255 253 rfl Tryz.underlying255 w.heap.size 10 knownF10 rfl m10 (by decide) [116, 105, 109, 101, 111, 117, 116] (by decide) (.agg #[.int .i64 4, .int .i64 64]) rfl rfl (ruleD (4, 64)) [] rfl ?_)
  intro w11 m g
  have b11 := grown_below b10 (Nat.le_refl _) g
  have m11 : MapIs ruleElem w11 w.heap.size 11 knownF11 := m
  clear m g m10 b10
  go_wp2_with (refine wpList_insert_map _ rfl _ _ _ 255 253 rfl Tryz.underlying255 w.heap.size 11 knownF11 rfl m11 (by decide) [114, 111, 117, 116, 101] (by decide) (.agg #[.int .i64 7, .int .i64 64]) rfl rfl (ruleD (7, 64)) [] rfl ?_)
  intro w12 m g
  have b12 := grown_below b11 (Nat.le_refl _) g
  have m12 : MapIs ruleElem w12 w.heap.size 12 knownF12 := m
  clear m g m11 b11
  go_wp2_with (refine wpList_insert_map _ rfl _ _ _ 255 253 rfl Tryz.underlying255 w.heap.size 12 knownF12 rfl m12 (by decide) [111, 119, 110, 101, 114] (by decide) (.agg #[.int .i64 7, .int .i64 34]) rfl rfl (ruleD (7, 34)) [] rfl ?_)
  intro w13 m g
  have b13 := grown_below b12 (Nat.le_refl _) g
  have m13 : MapIs ruleElem w13 w.heap.size 13 knownF13 := m
  clear m g m12 b12
  go_wp2
  go_ret
  exact ⟨w.heap.size, rfl, knownF_eq ▸ m13, b13⟩
end Go.Proofs.YtfoaaglbpmmhiaaGreatDoor
