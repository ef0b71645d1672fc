/- Contracts of layer 29's functions (promote). -/
import Derived.Test.YtgbppjckehjifaaDoorPrProg1
import Derived.Deep.RegionHeld3
import Derived.IntWalk
namespace Go.Proofs.YtgbppjckehjifaaDoor
open Go.RowKit
set_option linter.unusedVariables false
set_option linter.unusedSimpArgs false

/-- the two tables lie as the program's text lays them -/
def Tab (w : World) : Prop := (∀ i, i < 27 → w.cell? ⟨1, i, none⟩ = some (.int .i64 (Pr.famT.getD i 0))) ∧ (∀ i, i < 18 → w.cell? ⟨0, i, none⟩ = some (.int .u64 (Pr.boundT.getD i 0))) ∧ 2 ≤ w.heap.size
theorem Tab.below {w w' : World} (h : Tab w) (hb : Below w.heap.size w w') : Tab w' := by
  obtain ⟨h1, h2, h3⟩ := h
  refine ⟨fun i hi => ?_, fun i hi => ?_, by have := hb.size; omega⟩
  · rw [hb.cell (show 1 < w.heap.size by omega)]; exact h1 i hi
  · rw [hb.cell (show 0 < w.heap.size by omega)]; exact h2 i hi
set_option maxHeartbeats 1000000 in
set_option maxRecDepth 100000 in
theorem pr_row (f : Int) (w : World) : Calls Tryd.prog 21 #[.int .i64 f] w fun e w' => e = .returned (.int .i64 (Pr.rowOf f)) ∧ w = w' := by
  go_enter Tryd.func21, Tryd.ntmps21
  go_wp2
  all_goals go_ret
  all_goals exact ⟨ret_int (by simp only [beq_iff_eq, beq_eq_false_iff_ne, ne_eq] at *; simp [Pr.rowOf, *]), rfl⟩
set_option maxHeartbeats 1000000 in
set_option maxRecDepth 100000 in
theorem pr_numeric (k : Int) (w : World) : Calls Tryd.prog 28 #[.int .i64 k] w fun e w' => e = .returned (.bool (Pr.num k)) ∧ w = w' := by
  go_enter Tryd.func28, Tryd.ntmps28
  go_wp2
  all_goals go_ret
  all_goals exact ⟨ret_bool (by rw [Bool.eq_iff_iff]; simp [Pr.num] at *; try omega), rfl⟩
set_option maxHeartbeats 1000000 in
set_option maxRecDepth 100000 in
theorem pr_signed (k : Int) (w : World) : Calls Tryd.prog 40 #[.int .i64 k] w fun e w' => e = .returned (.bool (Pr.sgn k)) ∧ w = w' := by
  go_enter Tryd.func40, Tryd.ntmps40
  go_wp2
  all_goals go_ret
  all_goals exact ⟨ret_bool (by rw [Bool.eq_iff_iff]; simp [Pr.sgn] at *; try omega), rfl⟩
theorem row_no {f : Int} (hf : Pr.isF f = false) : Pr.rowOf f = -1 := by
  have := of_decide_eq_false hf
  unfold Pr.rowOf
  rw [if_neg (by omega), if_neg (by omega), if_neg (by omega)]
theorem row_yes {f : Int} (hf : Pr.isF f = true) : 0 ≤ Pr.rowOf f ∧ Pr.rowOf f ≤ 2 := by
  rcases Pr.isF_true hf with rfl | rfl | rfl <;> decide
set_option maxHeartbeats 1000000 in
set_option maxRecDepth 100000 in
theorem pr_Family (f k : Int) (w : World) (hT : Tab w) : Calls Tryd.prog 12 #[.int .i64 f, .int .i64 k] w fun e w' => e = .returned (.int .i64 (Pr.fam f k)) ∧ w = w' := by
  cases hf : Pr.isF f
  · have hv : Pr.fam f k = 0 := by unfold Pr.fam; rw [if_neg (by simp [hf])]
    have c1 := Lib.hid (fun W => pr_row f W)
    rw [row_no hf] at c1
    rw [hv]
    clear hf hv hT
    go_enter Tryd.func12, Tryd.ntmps12
    go_wp2_with (first
      | (go_at_call 21; (with_reducible refine (c1.out _).mono ?_); rintro e w' ⟨rfl, rfl⟩))
    go_ret
    exact ⟨rfl, rfl⟩
  · have c1 := Lib.hid (fun W => pr_row f W)
    have c2 := Lib.hid (fun W => sc_Is k W)
    obtain ⟨r1, r2⟩ := row_yes hf
    cases hk : Pr.isK k
    · have hv : Pr.fam f k = 0 := by unfold Pr.fam; rw [if_neg (by simp [hk])]
      rw [hv]
      rw [hk] at c2
      generalize Pr.rowOf f = r at c1 r1 r2
      clear hf hv hT hk
      go_enter Tryd.func12, Tryd.ntmps12
      go_wp2_with (first
        | (go_at_call 21; (with_reducible refine (c1.out _).mono ?_); rintro e w' ⟨rfl, rfl⟩)
        | (go_at_call 22; (with_reducible refine (c2.out _).mono ?_); rintro e w' ⟨rfl, rfl⟩))
      go_ret
      exact ⟨rfl, rfl⟩
    · have hv : Pr.fam f k = Pr.famT.getD (Pr.rowOf f * 9 + (k - 1)).toNat 0 := by unfold Pr.fam; rw [if_pos ⟨hf, hk⟩]
      have hv' := Lib.hid hv
      have hk2 := of_decide_eq_true hk
      obtain ⟨k1, k2⟩ := hk2
      rw [hk] at c2
      obtain ⟨r, hr⟩ := Int.eq_ofNat_of_zero_le r1
      obtain ⟨j, hj⟩ := Int.eq_ofNat_of_zero_le (show 0 ≤ k - 1 by omega)
      have e : (Pr.rowOf f * 9 + (k - 1)).toNat = r * 9 + j := by omega
      rw [e] at hv'
      have hx := hT.1 (r * 9 + j) (by omega)
      have hx' : w.cell? ⟨1, r * 9 + j, none⟩ = some (.int .i64 (Pr.fam f k)) := by rw [hx, hv'.out]
      rw [hr] at c1
      generalize Pr.fam f k = y at hx' hv' hv ⊢
      have r3 : r < 3 := by omega
      have j3 : j < 9 := by omega
      obtain rfl : k = (j : Int) + 1 := by omega
      clear hf hv hT hk hj hr e hx r1 r2 hv' k1 k2
      go_enter Tryd.func12, Tryd.ntmps12
      go_wp2_with (first
        | (go_at_call 21; (with_reducible refine (c1.out _).mono ?_); rintro e w' ⟨rfl, rfl⟩)
        | (go_at_call 22; (with_reducible refine (c2.out _).mono ?_); rintro e w' ⟨rfl, rfl⟩))
      go_ret
      exact ⟨rfl, rfl⟩
set_option maxHeartbeats 1000000 in
set_option maxRecDepth 100000 in
theorem pr_related (f a b : Int) (w : World) (hT : Tab w) : Calls Tryd.prog 27 #[.int .i64 f, .int .i64 a, .int .i64 b] w fun e w' => e = .returned (.bool (Pr.rel f a b)) ∧ w = w' := by
  have c1 := Lib.hid (fun W h => pr_Family f a W h)
  have c2 := Lib.hid (fun W h => pr_Family f b W h)
  have hv := Lib.hid (show Pr.rel f a b = decide (Pr.fam f a ≠ 0 ∧ Pr.fam f a = Pr.fam f b) from rfl)
  generalize Pr.rel f a b = R at hv ⊢
  generalize Pr.fam f a = fa at c1 hv
  generalize Pr.fam f b = fb at c2 hv
  have hT' := Lib.hid hT
  clear hT
  go_enter Tryd.func27, Tryd.ntmps27
  go_wp2_with (first
    | (go_at_call 12; (with_reducible refine (c1.out _ hT'.out).mono ?_); rintro e w' ⟨rfl, rfl⟩)
    | (go_at_call 12; (with_reducible refine (c2.out _ hT'.out).mono ?_); rintro e w' ⟨rfl, rfl⟩))
  all_goals go_ret
  all_goals refine ⟨ret_bool ?_, rfl⟩
  all_goals rw [hv.out, Bool.eq_iff_iff]
  all_goals simp_all
theorem u64_neg (x : Int) (h : 0 < x) (h1 : x < 18446744073709551616) : IntKind.u64.wrap (-x) = 18446744073709551616 - x := by
  simp [IntKind.wrap, IntKind.signed, IntKind.bits]; omega
theorem bound_at (w : World) (hT : Tab w) (k : Int) (hk : Pr.isK k = true) : ∃ j : Nat, k = (j : Int) + 1 ∧ j < 9 ∧ w.cell? ⟨0, j * 2, none⟩ = some (.int .u64 (Pr.below k)) ∧ w.cell? ⟨0, j * 2 + 1, none⟩ = some (.int .u64 (Pr.most k)) := by
  obtain ⟨k1, k2⟩ := of_decide_eq_true hk
  obtain ⟨j, hj⟩ := Int.eq_ofNat_of_zero_le (show 0 ≤ k - 1 by omega)
  refine ⟨j, by omega, by omega, ?_, ?_⟩
  · rw [hT.2.1 (j * 2) (by omega)]
    unfold Pr.below
    have e : (2 * (k - 1)).toNat = j * 2 := by omega
    rw [e]
  · rw [hT.2.1 (j * 2 + 1) (by omega)]
    unfold Pr.most
    have e : (2 * (k - 1) + 1).toNat = j * 2 + 1 := by omega
    rw [e]
set_option maxHeartbeats 1000000 in
set_option maxRecDepth 100000 in
theorem pr_inside (a b x : Int) (w : World) (hT : Tab w) (hk : Pr.isK b = true) (h0 : 0 ≤ x) (h1 : x < 18446744073709551616) : Calls Tryd.prog 31 #[.int .i64 a, .int .i64 b, .int .u64 x] w fun e w' => e = .returned (.bool (Pr.insB a b x)) ∧ w = w' := by
  obtain ⟨j, hj, hj9, hb1, hb2⟩ := bound_at w hT b hk
  have hv := Lib.hid (show Pr.insB a b x = if (Pr.sgn a && decide (9223372036854775808 ≤ x)) = true then decide (18446744073709551616 - x ≤ Pr.below b) else decide (x ≤ Pr.most b) from rfl)
  have c1 := Lib.hid (fun W => pr_signed a W)
  generalize Pr.insB a b x = R at hv ⊢
  generalize Pr.sgn a = sa at c1 hv
  generalize Pr.below b = y at hb1 hv
  generalize Pr.most b = z at hb2 hv
  subst hj
  clear hk hT
  go_enter Tryd.func31, Tryd.ntmps31
  go_wp2_with (first
    | (go_at_call 40; (with_reducible refine (c1.out _).mono ?_); rintro e w' ⟨rfl, rfl⟩))
  all_goals go_ret
  all_goals refine ⟨ret_bool ?_, rfl⟩
  all_goals rw [hv.out, Bool.eq_iff_iff]
  · have e := u64_neg x (by omega) h1
    simp_all
  · simp_all
    intros; omega
  · simp_all
set_option maxHeartbeats 1000000 in
set_option maxRecDepth 100000 in
theorem pr_Level (f a b : Int) (w : World) (hT : Tab w) : Calls Tryd.prog 10 #[.int .i64 f, .int .i64 a, .int .i64 b] w fun e w' => e = .returned (.int .i64 (Pr.lev f a b)) ∧ Below w.heap.size w w' := by
  have c1 := Lib.hid (fun W h => pr_related f a b W h)
  have c2 := Lib.hid (fun W => pr_numeric a W)
  have hT' := Lib.hid hT
  cases hr : Pr.rel f a b
  · have hv : Pr.lev f a b = 0 := if_pos hr
    rw [hr] at c1
    rw [hv]
    clear hr hv hT
    go_enter Tryd.func10, Tryd.ntmps10
    go_wp2_with (first
      | (go_at_call 27; (with_reducible refine (c1.out _ hT'.out).mono ?_); rintro e w' ⟨rfl, rfl⟩))
    go_ret
    exact ⟨rfl, Below.refl _ _⟩
  · have hv : Pr.lev f a b = if a = b then 2 else if Pr.num a = true then (if Pr.below b < Pr.below a ∨ Pr.most b < Pr.most a then 1 else 2) else if a = 8 then 1 else 2 := if_neg (by rw [hr]; decide)
    obtain ⟨_, ka, kb⟩ := Pr.rel_true hr
    rw [hr] at c1
    clear hr
    by_cases hab : a = b
    · rw [hv, if_pos hab]
      have hab' : (a == b) = true := beq_iff_eq.2 hab
      clear hv hab hT ka kb
      go_enter Tryd.func10, Tryd.ntmps10
      go_wp2_with (first
        | (go_at_call 27; (with_reducible refine (c1.out _ hT'.out).mono ?_); rintro e w' ⟨rfl, rfl⟩))
      go_ret
      exact ⟨rfl, Below.refl _ _⟩
    · rw [if_neg hab] at hv
      have hab' : (a == b) = false := beq_eq_false_iff_ne.2 hab
      cases hn : Pr.num a
      · rw [hn] at c2 hv
        have hv' := Lib.hid hv
        clear hv hab hT ka kb hn
        go_enter Tryd.func10, Tryd.ntmps10
        go_wp2_with (first
          | (go_at_call 27; (with_reducible refine (c1.out _ hT'.out).mono ?_); rintro e w' ⟨rfl, rfl⟩)
          | (go_at_call 28; (with_reducible refine (c2.out _).mono ?_); rintro e w' ⟨rfl, rfl⟩))
        all_goals go_ret
        all_goals exact ⟨ret_int (by rw [hv'.out]; simp_all), Below.refl _ _⟩
      · rw [hn, if_pos rfl] at hv
        rw [hn] at c2
        have hv' := Lib.hid hv
        obtain ⟨i, hi, hi9, ha1, ha2⟩ := bound_at w hT a ka
        obtain ⟨j, hj, hj9, hb1, hb2⟩ := bound_at w hT b kb
        generalize Pr.lev f a b = R at hv' ⊢
        generalize Pr.below a = ya at ha1 hv'
        generalize Pr.most a = za at ha2 hv'
        generalize Pr.below b = yb at hb1 hv'
        generalize Pr.most b = zb at hb2 hv'
        clear hv hab hT ka kb hn
        subst hi hj
        go_enter Tryd.func10, Tryd.ntmps10
        go_wp2_with (first
          | (go_at_call 27; (with_reducible refine (c1.out _ hT'.out).mono ?_); rintro e w' ⟨rfl, rfl⟩)
          | (go_at_call 28; (with_reducible refine (c2.out _).mono ?_); rintro e w' ⟨rfl, rfl⟩))
        have s1 : IntKind.i64.wrap ((i : Int) + 1 - 1) = i := by rw [IntWalk.i64_in _ (by omega)]; omega
        have s2 : IntKind.i64.wrap ((j : Int) + 1 - 1) = j := by rw [IntWalk.i64_in _ (by omega)]; omega
        have s7 : IntKind.i64.wrap (i : Int) = i := IntWalk.i64_in _ (by omega)
        have s8 : IntKind.i64.wrap (j : Int) = j := IntWalk.i64_in _ (by omega)
        have s3 : (0 : Int) ≤ i := by omega
        have s4 : (0 : Int) ≤ j := by omega
        have s5 : (i : Int) < 9 := by omega
        have s6 : (j : Int) < 9 := by omega
        go_region_held3 (fun w' => w'.cell? ⟨0, i * 2, none⟩ = some (.int .u64 ya) ∧ w'.cell? ⟨0, i * 2 + 1, none⟩ = some (.int .u64 za) ∧ w'.cell? ⟨0, j * 2, none⟩ = some (.int .u64 yb) ∧ w'.cell? ⟨0, j * 2 + 1, none⟩ = some (.int .u64 zb)) (go_keep) (fail)
        all_goals (clear s1 s2 s7 s8; go_wp2)
        all_goals go_ret
        all_goals exact ⟨ret_int (by rw [hv'.out]; first | rw [if_pos (by omega)] | rw [if_neg (by omega)]), by (repeat (first | (with_reducible exact Below.refl _ _) | (with_reducible refine Below.drew ?_) | (with_reducible refine Below.bal ?_ _) | (with_reducible refine Below.setCell ?_ (by simp) _) | (with_reducible refine Below.link (by assumption) ?_)))⟩
theorem block_of_below {w a : World} {g : Nat} {o : Obj} (hb : Below a.heap.size a w) (h : a.heap[g]? = some o) : w.heap[g]? = some o := by
  have hlt : g < a.heap.size := by
    by_cases hlt : g < a.heap.size
    · exact hlt
    · rw [Array.getElem?_eq_none (by omega)] at h; cases h
  rw [hb.block g hlt]; exact h
theorem set7 {w1 : World} {g : Nat} {t : TypeId} {c0 c1 c2 c3 c4 c5 c6 : Value} (hg : w1.heap[g]? = some (.cells #[c0, c1, c2, c3, c4, c5, c6] t (0, 0))) (v0 v1 v2 v3 v4 v5 v6 : Value) :
    (((((((w1.setCell ⟨g, 0, none⟩ v0).setCell ⟨g, 1, none⟩ v1).setCell ⟨g, 2, none⟩ v2).setCell ⟨g, 3, none⟩ v3).setCell ⟨g, 4, none⟩ v4).setCell ⟨g, 5, none⟩ v5).setCell ⟨g, 6, none⟩ v6).heap[g]? = some (.cells #[v0, v1, v2, v3, v4, v5, v6] t (0, 0)) := by
  have h0 := heap_setCell_same w1 g 0 _ t v0 hg
  rw [show (#[c0, c1, c2, c3, c4, c5, c6] : Array Value).setIfInBounds 0 v0 = #[v0, c1, c2, c3, c4, c5, c6] from rfl] at h0
  have h1 := heap_setCell_same _ g 1 _ t v1 h0
  rw [show (#[v0, c1, c2, c3, c4, c5, c6] : Array Value).setIfInBounds 1 v1 = #[v0, v1, c2, c3, c4, c5, c6] from rfl] at h1
  have h2 := heap_setCell_same _ g 2 _ t v2 h1
  rw [show (#[v0, v1, c2, c3, c4, c5, c6] : Array Value).setIfInBounds 2 v2 = #[v0, v1, v2, c3, c4, c5, c6] from rfl] at h2
  have h3 := heap_setCell_same _ g 3 _ t v3 h2
  rw [show (#[v0, v1, v2, c3, c4, c5, c6] : Array Value).setIfInBounds 3 v3 = #[v0, v1, v2, v3, c4, c5, c6] from rfl] at h3
  have h4 := heap_setCell_same _ g 4 _ t v4 h3
  rw [show (#[v0, v1, v2, v3, c4, c5, c6] : Array Value).setIfInBounds 4 v4 = #[v0, v1, v2, v3, v4, c5, c6] from rfl] at h4
  have h5 := heap_setCell_same _ g 5 _ t v5 h4
  rw [show (#[v0, v1, v2, v3, v4, c5, c6] : Array Value).setIfInBounds 5 v5 = #[v0, v1, v2, v3, v4, v5, c6] from rfl] at h5
  have h6 := heap_setCell_same _ g 6 _ t v6 h5
  rw [show (#[v0, v1, v2, v3, v4, v5, c6] : Array Value).setIfInBounds 6 v6 = #[v0, v1, v2, v3, v4, v5, v6] from rfl] at h6
  exact h6
theorem res7 {P : Program} {fn : Func} {p u : Tmp} {ty : TypeId} (h : fn.results = #[.cell p ty, .tmp u]) {tmps : Array Value} {w : World} {g : Nat} {t : TypeId} {cs : Array Value} {d : TypeDesc} {y : Value}
    (hp : tmps.getD p undef = .pointer (some ⟨g, 0, none⟩)) (hy : tmps.getD u undef = y) (hg : w.heap[g]? = some (.cells cs t (0, 0)))
    (hu : P.underlying ty = some d) (hd : (match d with | .struct _ | .array _ _ => true | _ => false) = true) (hi : (P.info? ty).map (·.size) = some cs.size) :
    (results fn tmps).run P w = .ok (.tuple #[.agg cs, y]) w := by
  rw [results_cell_tmp h, hp, hy]
  simp [asAddr, run_loadVar_row w g t ty cs (0, 0) d hg hu hd hi]
/-- what a conversion returns -/
def tupV (e b y : Int) (t : ByteArray) : Value := if e = 0 then .tuple #[.agg #[.int .i64 b, .int .u64 y, .string t, .slice none 0 0, .slice none 0 0, .slice none 0 0, .slice none 0 0], .int .i64 0] else .tuple #[.agg #[.int .i64 0, .int .u64 0, .string ⟨#[]⟩, .slice none 0 0, .slice none 0 0, .slice none 0 0, .slice none 0 0], .int .i64 e]
theorem tup_bad (e b y : Int) (t : ByteArray) (E : Int) (h : e = E) (h0 : E ≠ 0) : Ending.returned (.tuple #[.agg #[.int .i64 0, .int .u64 0, .string ⟨#[]⟩, .slice none 0 0, .slice none 0 0, .slice none 0 0, .slice none 0 0], .int .i64 E]) = .returned (tupV e b y t) := by
  subst h; unfold tupV; rw [if_neg h0]
theorem tup_good (e b y : Int) (t : ByteArray) (h : e = 0) : Ending.returned (.tuple #[.agg #[.int .i64 b, .int .u64 y, .string t, .slice none 0 0, .slice none 0 0, .slice none 0 0, .slice none 0 0], .int .i64 0]) = .returned (tupV e b y t) := by
  subst h; unfold tupV; rw [if_pos rfl]
end Go.Proofs.YtgbppjckehjifaaDoor
