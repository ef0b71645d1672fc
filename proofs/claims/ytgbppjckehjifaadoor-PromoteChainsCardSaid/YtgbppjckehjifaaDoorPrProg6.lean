/- Ways of promote.Example. -/
import Derived.Test.YtgbppjckehjifaaDoorPrProg2
namespace Go.Proofs.YtgbppjckehjifaaDoor
open Go.RowKit
set_option linter.unusedVariables false
set_option linter.unusedSimpArgs false

set_option maxHeartbeats 4000000 in
set_option maxRecDepth 100000 in
theorem pr_Ex_f (f a b : Int) (w : World) (hT' : Hid (Tab w)) (r : Int) (r1 : r < 0) (c1 : Hid (∀ W : World, Calls Tryd.prog 21 #[.int .i64 f] W fun e w' => e = .returned (.int .i64 r) ∧ W = w')) : Calls Tryd.prog 8 #[.int .i64 f, .int .i64 a, .int .i64 b] w fun e w' => e = .returned (.tuple #[.agg #[.int .i64 0, .int .u64 0, .string ⟨#[]⟩, .slice none 0 0, .slice none 0 0, .slice none 0 0, .slice none 0 0], .bool false]) ∧ Below w.heap.size w w' := by
  go_enter Tryd.func8, Tryd.ntmps8
  go_wp2_with (first
    | (go_at_call 21; (with_reducible refine (c1.out _).mono ?_); rintro e w' ⟨rfl, rfl⟩))
  exact bodyPost_ret (by simp [results, Tryd.results8, go_sem]) rfl ⟨rfl, by (repeat (first | (with_reducible exact Below.refl _ _) | (with_reducible refine Below.drew ?_) | (with_reducible refine Below.bal ?_ _) | (with_reducible refine Below.setCell ?_ (by simp) _) | (with_reducible refine Below.link (by assumption) ?_)))⟩
set_option maxHeartbeats 4000000 in
set_option maxRecDepth 100000 in
theorem pr_Ex_a (f a b : Int) (w : World) (hT' : Hid (Tab w)) (r : Int) (r1 : 0 ≤ r) (r2 : r ≤ 2) (c1 : Hid (∀ W : World, Calls Tryd.prog 21 #[.int .i64 f] W fun e w' => e = .returned (.int .i64 r) ∧ W = w')) (c2 : Hid (∀ W : World, Calls Tryd.prog 22 #[.int .i64 a] W fun e w' => e = .returned (.bool false) ∧ W = w')) : Calls Tryd.prog 8 #[.int .i64 f, .int .i64 a, .int .i64 b] w fun e w' => e = .returned (.tuple #[.agg #[.int .i64 0, .int .u64 0, .string ⟨#[]⟩, .slice none 0 0, .slice none 0 0, .slice none 0 0, .slice none 0 0], .bool false]) ∧ Below w.heap.size w w' := by
  go_enter Tryd.func8, Tryd.ntmps8
  go_wp2_with (first
    | (go_at_call 21; (with_reducible refine (c1.out _).mono ?_); rintro e w' ⟨rfl, rfl⟩)
    | (go_at_call 22; (with_reducible refine (c2.out _).mono ?_); rintro e w' ⟨rfl, rfl⟩))
  exact bodyPost_ret (by simp [results, Tryd.results8, go_sem]) rfl ⟨rfl, by (repeat (first | (with_reducible exact Below.refl _ _) | (with_reducible refine Below.drew ?_) | (with_reducible refine Below.bal ?_ _) | (with_reducible refine Below.setCell ?_ (by simp) _) | (with_reducible refine Below.link (by assumption) ?_)))⟩
set_option maxHeartbeats 4000000 in
set_option maxRecDepth 100000 in
theorem pr_Ex_b (f a b : Int) (w : World) (hT' : Hid (Tab w)) (r : Int) (r1 : 0 ≤ r) (r2 : r ≤ 2) (c1 : Hid (∀ W : World, Calls Tryd.prog 21 #[.int .i64 f] W fun e w' => e = .returned (.int .i64 r) ∧ W = w')) (c2 : Hid (∀ W : World, Calls Tryd.prog 22 #[.int .i64 a] W fun e w' => e = .returned (.bool true) ∧ W = w')) (c3 : Hid (∀ W : World, Calls Tryd.prog 22 #[.int .i64 b] W fun e w' => e = .returned (.bool false) ∧ W = w')) : Calls Tryd.prog 8 #[.int .i64 f, .int .i64 a, .int .i64 b] w fun e w' => e = .returned (.tuple #[.agg #[.int .i64 0, .int .u64 0, .string ⟨#[]⟩, .slice none 0 0, .slice none 0 0, .slice none 0 0, .slice none 0 0], .bool false]) ∧ Below w.heap.size w w' := by
  go_enter Tryd.func8, Tryd.ntmps8
  go_wp2_with (first
    | (go_at_call 21; (with_reducible refine (c1.out _).mono ?_); rintro e w' ⟨rfl, rfl⟩)
    | (go_at_call 22; (with_reducible refine (c2.out _).mono ?_); rintro e w' ⟨rfl, rfl⟩)
    | (go_at_call 22; (with_reducible refine (c3.out _).mono ?_); rintro e w' ⟨rfl, rfl⟩))
  exact bodyPost_ret (by simp [results, Tryd.results8, go_sem]) rfl ⟨rfl, by (repeat (first | (with_reducible exact Below.refl _ _) | (with_reducible refine Below.drew ?_) | (with_reducible refine Below.bal ?_ _) | (with_reducible refine Below.setCell ?_ (by simp) _) | (with_reducible refine Below.link (by assumption) ?_)))⟩
set_option maxHeartbeats 4000000 in
set_option maxRecDepth 100000 in
theorem pr_Ex_l2 (f a b : Int) (w : World) (hT' : Hid (Tab w)) (r : Int) (r1 : 0 ≤ r) (r2 : r ≤ 2) (c1 : Hid (∀ W : World, Calls Tryd.prog 21 #[.int .i64 f] W fun e w' => e = .returned (.int .i64 r) ∧ W = w')) (c2 : Hid (∀ W : World, Calls Tryd.prog 22 #[.int .i64 a] W fun e w' => e = .returned (.bool true) ∧ W = w')) (c3 : Hid (∀ W : World, Calls Tryd.prog 22 #[.int .i64 b] W fun e w' => e = .returned (.bool true) ∧ W = w')) (c5 : Hid (∀ W : World, Tab W → Calls Tryd.prog 10 #[.int .i64 f, .int .i64 a, .int .i64 b] W fun e w' => e = .returned (.int .i64 2) ∧ Below W.heap.size W w')) : Calls Tryd.prog 8 #[.int .i64 f, .int .i64 a, .int .i64 b] w fun e w' => e = .returned (.tuple #[.agg #[.int .i64 0, .int .u64 0, .string ⟨#[]⟩, .slice none 0 0, .slice none 0 0, .slice none 0 0, .slice none 0 0], .bool false]) ∧ Below w.heap.size w w' := by
  go_enter Tryd.func8, Tryd.ntmps8
  go_wp2_with (first
    | (go_at_call 21; (with_reducible refine (c1.out _).mono ?_); rintro e w' ⟨rfl, rfl⟩)
    | (go_at_call 22; (with_reducible refine (c2.out _).mono ?_); rintro e w' ⟨rfl, rfl⟩)
    | (go_at_call 22; (with_reducible refine (c3.out _).mono ?_); rintro e w' ⟨rfl, rfl⟩)
    | (go_at_call 10; (with_reducible refine (c5.out _ ?_).mono ?_); (refine hT'.out.below ?_; (repeat (first | (with_reducible exact Below.refl _ _) | (with_reducible refine Below.drew ?_) | (with_reducible refine Below.bal ?_ _) | (with_reducible refine Below.setCell ?_ (by simp) _) | (with_reducible refine Below.link (by assumption) ?_)))); rintro e wl ⟨rfl, hbl⟩; obtain ⟨hcl, hfl⟩ := bcell hbl; have hzl := hbl.size; (try simp at hzl); (try have hyl : w.heap.size < wl.heap.size := by omega); (try have h0l : 0 < wl.heap.size := by omega)))
  refine bodyPost_ret_by (v := .tuple #[.agg #[.int .i64 0, .int .u64 0, .string ⟨#[]⟩, .slice none 0 0, .slice none 0 0, .slice none 0 0, .slice none 0 0], .bool false]) ?hres rfl ?hpost
  case hres =>
    refine res7 (g := w.heap.size) (t := 28) Tryd.results8 rfl rfl ?_ Tryd.underlying28 rfl (by kernel_rfl)
    apply set7
    (repeat (first | exact heap_alloc_new w _ | apply block_of_below (by assumption)))
  case hpost => exact ⟨rfl, by (repeat (first | (with_reducible exact Below.refl _ _) | (with_reducible refine Below.drew ?_) | (with_reducible refine Below.bal ?_ _) | (with_reducible refine Below.setCell ?_ (by simp) _) | (with_reducible refine Below.link (by assumption) ?_)))⟩
set_option maxHeartbeats 4000000 in
set_option maxRecDepth 100000 in
theorem pr_Ex_l0 (f a b : Int) (w : World) (hT' : Hid (Tab w)) (r : Int) (r1 : 0 ≤ r) (r2 : r ≤ 2) (c1 : Hid (∀ W : World, Calls Tryd.prog 21 #[.int .i64 f] W fun e w' => e = .returned (.int .i64 r) ∧ W = w')) (c2 : Hid (∀ W : World, Calls Tryd.prog 22 #[.int .i64 a] W fun e w' => e = .returned (.bool true) ∧ W = w')) (c3 : Hid (∀ W : World, Calls Tryd.prog 22 #[.int .i64 b] W fun e w' => e = .returned (.bool true) ∧ W = w')) (c5 : Hid (∀ W : World, Tab W → Calls Tryd.prog 10 #[.int .i64 f, .int .i64 a, .int .i64 b] W fun e w' => e = .returned (.int .i64 0) ∧ Below W.heap.size W w')) (c6 : Hid (∀ W : World, Calls Tryd.prog 19 #[.int .i64 a] W fun e w' => e = .returned (.agg #[.int .i64 a, .int .u64 0, .string ⟨#[]⟩, .slice none 0 0, .slice none 0 0, .slice none 0 0, .slice none 0 0]) ∧ Below W.heap.size W w')) : Calls Tryd.prog 8 #[.int .i64 f, .int .i64 a, .int .i64 b] w fun e w' => e = .returned (.tuple #[.agg #[.int .i64 a, .int .u64 0, .string ⟨#[]⟩, .slice none 0 0, .slice none 0 0, .slice none 0 0, .slice none 0 0], .bool true]) ∧ Below w.heap.size w w' := by
  go_enter Tryd.func8, Tryd.ntmps8
  go_wp2_with (first
    | (go_at_call 21; (with_reducible refine (c1.out _).mono ?_); rintro e w' ⟨rfl, rfl⟩)
    | (go_at_call 22; (with_reducible refine (c2.out _).mono ?_); rintro e w' ⟨rfl, rfl⟩)
    | (go_at_call 22; (with_reducible refine (c3.out _).mono ?_); rintro e w' ⟨rfl, rfl⟩)
    | (go_at_call 10; (with_reducible refine (c5.out _ ?_).mono ?_); (refine hT'.out.below ?_; (repeat (first | (with_reducible exact Below.refl _ _) | (with_reducible refine Below.drew ?_) | (with_reducible refine Below.bal ?_ _) | (with_reducible refine Below.setCell ?_ (by simp) _) | (with_reducible refine Below.link (by assumption) ?_)))); rintro e wl ⟨rfl, hbl⟩; obtain ⟨hcl, hfl⟩ := bcell hbl; have hzl := hbl.size; (try simp at hzl); (try have hyl : w.heap.size < wl.heap.size := by omega); (try have h0l : 0 < wl.heap.size := by omega))
    | (go_at_call 19; (with_reducible refine (c6.out _).mono ?_); rintro e w2 ⟨rfl, hb2⟩; obtain ⟨hc2, hf2⟩ := bcell hb2; have hz2 := hb2.size; (try simp at hz2); (try have hx2 : w.heap.size + 1 < w2.heap.size := by omega); (try have hy2 : w.heap.size < w2.heap.size := by omega)))
  refine bodyPost_ret_by (v := .tuple #[.agg #[.int .i64 a, .int .u64 0, .string ⟨#[]⟩, .slice none 0 0, .slice none 0 0, .slice none 0 0, .slice none 0 0], .bool true]) ?hres rfl ?hpost
  case hres =>
    refine res7 (g := w.heap.size) (t := 28) Tryd.results8 rfl rfl ?_ Tryd.underlying28 rfl (by kernel_rfl)
    apply set7
    (repeat (first | exact heap_alloc_new w _ | apply block_of_below (by assumption)))
  case hpost => exact ⟨rfl, by (repeat (first | (with_reducible exact Below.refl _ _) | (with_reducible refine Below.drew ?_) | (with_reducible refine Below.bal ?_ _) | (with_reducible refine Below.setCell ?_ (by simp) _) | (with_reducible refine Below.link (by assumption) ?_)))⟩
set_option maxHeartbeats 4000000 in
set_option maxRecDepth 100000 in
theorem pr_Ex_y (f a b : Int) (w : World) (hT' : Hid (Tab w)) (r : Int) (r1 : 0 ≤ r) (r2 : r ≤ 2) (c1 : Hid (∀ W : World, Calls Tryd.prog 21 #[.int .i64 f] W fun e w' => e = .returned (.int .i64 r) ∧ W = w')) (c2 : Hid (∀ W : World, Calls Tryd.prog 22 #[.int .i64 a] W fun e w' => e = .returned (.bool true) ∧ W = w')) (c3 : Hid (∀ W : World, Calls Tryd.prog 22 #[.int .i64 b] W fun e w' => e = .returned (.bool true) ∧ W = w')) (c5 : Hid (∀ W : World, Tab W → Calls Tryd.prog 10 #[.int .i64 f, .int .i64 a, .int .i64 b] W fun e w' => e = .returned (.int .i64 1) ∧ Below W.heap.size W w')) (h8 : (a == 8) = true) : Calls Tryd.prog 8 #[.int .i64 f, .int .i64 a, .int .i64 b] w fun e w' => e = .returned (.tuple #[.agg #[.int .i64 a, .int .u64 0, .string ⟨#[255]⟩, .slice none 0 0, .slice none 0 0, .slice none 0 0, .slice none 0 0], .bool true]) ∧ Below w.heap.size w w' := by
  go_enter Tryd.func8, Tryd.ntmps8
  go_wp2_with (first
    | (go_at_call 21; (with_reducible refine (c1.out _).mono ?_); rintro e w' ⟨rfl, rfl⟩)
    | (go_at_call 22; (with_reducible refine (c2.out _).mono ?_); rintro e w' ⟨rfl, rfl⟩)
    | (go_at_call 22; (with_reducible refine (c3.out _).mono ?_); rintro e w' ⟨rfl, rfl⟩)
    | (go_at_call 10; (with_reducible refine (c5.out _ ?_).mono ?_); (refine hT'.out.below ?_; (repeat (first | (with_reducible exact Below.refl _ _) | (with_reducible refine Below.drew ?_) | (with_reducible refine Below.bal ?_ _) | (with_reducible refine Below.setCell ?_ (by simp) _) | (with_reducible refine Below.link (by assumption) ?_)))); rintro e wl ⟨rfl, hbl⟩; obtain ⟨hcl, hfl⟩ := bcell hbl; have hzl := hbl.size; (try simp at hzl); (try have hyl : w.heap.size < wl.heap.size := by omega); (try have h0l : 0 < wl.heap.size := by omega)))
  refine bodyPost_ret_by (v := .tuple #[.agg #[.int .i64 a, .int .u64 0, .string ⟨#[255]⟩, .slice none 0 0, .slice none 0 0, .slice none 0 0, .slice none 0 0], .bool true]) ?hres rfl ?hpost
  case hres =>
    refine res7 (g := w.heap.size) (t := 28) Tryd.results8 rfl rfl ?_ Tryd.underlying28 rfl (by kernel_rfl)
    apply set7
    (repeat (first | exact heap_alloc_new w _ | apply block_of_below (by assumption)))
  case hpost => exact ⟨rfl, by (repeat (first | (with_reducible exact Below.refl _ _) | (with_reducible refine Below.drew ?_) | (with_reducible refine Below.bal ?_ _) | (with_reducible refine Below.setCell ?_ (by simp) _) | (with_reducible refine Below.link (by assumption) ?_)))⟩
set_option maxHeartbeats 4000000 in
set_option maxRecDepth 100000 in
theorem pr_Ex_m1 (f a b : Int) (w : World) (hT' : Hid (Tab w)) (r : Int) (r1 : 0 ≤ r) (r2 : r ≤ 2) (c1 : Hid (∀ W : World, Calls Tryd.prog 21 #[.int .i64 f] W fun e w' => e = .returned (.int .i64 r) ∧ W = w')) (c2 : Hid (∀ W : World, Calls Tryd.prog 22 #[.int .i64 a] W fun e w' => e = .returned (.bool true) ∧ W = w')) (c3 : Hid (∀ W : World, Calls Tryd.prog 22 #[.int .i64 b] W fun e w' => e = .returned (.bool true) ∧ W = w')) (c5 : Hid (∀ W : World, Tab W → Calls Tryd.prog 10 #[.int .i64 f, .int .i64 a, .int .i64 b] W fun e w' => e = .returned (.int .i64 1) ∧ Below W.heap.size W w')) (h8 : (a == 8) = false) (j i : Nat) (hj9 : j < 9) (hi9 : i < 9) (hb : b = (j : Int) + 1) (ha : a = (i : Int) + 1) (zb za nx : Int) (e1 : w.cell? ⟨0, j * 2 + 1, none⟩ = some (.int .u64 zb)) (e2 : w.cell? ⟨0, i * 2 + 1, none⟩ = some (.int .u64 za)) (hnx : IntKind.u64.wrap (zb + 1) = nx) (hw2 : 2 ≤ w.heap.size) (hn : (nx == 0) = true) : Calls Tryd.prog 8 #[.int .i64 f, .int .i64 a, .int .i64 b] w fun e w' => e = .returned (.tuple #[.agg #[.int .i64 a, .int .u64 18446744073709551615, .string ⟨#[]⟩, .slice none 0 0, .slice none 0 0, .slice none 0 0, .slice none 0 0], .bool true]) ∧ Below w.heap.size w w' := by
  have hw0 : 0 < w.heap.size := by omega
  subst hb ha
  go_enter Tryd.func8, Tryd.ntmps8
  go_wp2_with (first
    | (go_at_call 21; (with_reducible refine (c1.out _).mono ?_); rintro e w' ⟨rfl, rfl⟩)
    | (go_at_call 22; (with_reducible refine (c2.out _).mono ?_); rintro e w' ⟨rfl, rfl⟩)
    | (go_at_call 22; (with_reducible refine (c3.out _).mono ?_); rintro e w' ⟨rfl, rfl⟩)
    | (go_at_call 10; (with_reducible refine (c5.out _ ?_).mono ?_); (refine hT'.out.below ?_; (repeat (first | (with_reducible exact Below.refl _ _) | (with_reducible refine Below.drew ?_) | (with_reducible refine Below.bal ?_ _) | (with_reducible refine Below.setCell ?_ (by simp) _) | (with_reducible refine Below.link (by assumption) ?_)))); rintro e wl ⟨rfl, hbl⟩; obtain ⟨hcl, hfl⟩ := bcell hbl; have hzl := hbl.size; (try simp at hzl); (try have hyl : w.heap.size < wl.heap.size := by omega); (try have h0l : 0 < wl.heap.size := by omega)))
  refine bodyPost_ret_by (v := .tuple #[.agg #[.int .i64 ((i : Int) + 1), .int .u64 18446744073709551615, .string ⟨#[]⟩, .slice none 0 0, .slice none 0 0, .slice none 0 0, .slice none 0 0], .bool true]) ?hres rfl ?hpost
  case hres =>
    refine res7 (g := w.heap.size) (t := 28) Tryd.results8 rfl rfl ?_ Tryd.underlying28 rfl (by kernel_rfl)
    apply set7
    (repeat (first | exact heap_alloc_new w _ | apply block_of_below (by assumption)))
  case hpost => exact ⟨rfl, by (repeat (first | (with_reducible exact Below.refl _ _) | (with_reducible refine Below.drew ?_) | (with_reducible refine Below.bal ?_ _) | (with_reducible refine Below.setCell ?_ (by simp) _) | (with_reducible refine Below.link (by assumption) ?_)))⟩
set_option maxHeartbeats 4000000 in
set_option maxRecDepth 100000 in
theorem pr_Ex_m2 (f a b : Int) (w : World) (hT' : Hid (Tab w)) (r : Int) (r1 : 0 ≤ r) (r2 : r ≤ 2) (c1 : Hid (∀ W : World, Calls Tryd.prog 21 #[.int .i64 f] W fun e w' => e = .returned (.int .i64 r) ∧ W = w')) (c2 : Hid (∀ W : World, Calls Tryd.prog 22 #[.int .i64 a] W fun e w' => e = .returned (.bool true) ∧ W = w')) (c3 : Hid (∀ W : World, Calls Tryd.prog 22 #[.int .i64 b] W fun e w' => e = .returned (.bool true) ∧ W = w')) (c5 : Hid (∀ W : World, Tab W → Calls Tryd.prog 10 #[.int .i64 f, .int .i64 a, .int .i64 b] W fun e w' => e = .returned (.int .i64 1) ∧ Below W.heap.size W w')) (h8 : (a == 8) = false) (j i : Nat) (hj9 : j < 9) (hi9 : i < 9) (hb : b = (j : Int) + 1) (ha : a = (i : Int) + 1) (zb za nx : Int) (e1 : w.cell? ⟨0, j * 2 + 1, none⟩ = some (.int .u64 zb)) (e2 : w.cell? ⟨0, i * 2 + 1, none⟩ = some (.int .u64 za)) (hnx : IntKind.u64.wrap (zb + 1) = nx) (hw2 : 2 ≤ w.heap.size) (hn : (nx == 0) = false) (hn2 : za < nx) : Calls Tryd.prog 8 #[.int .i64 f, .int .i64 a, .int .i64 b] w fun e w' => e = .returned (.tuple #[.agg #[.int .i64 a, .int .u64 18446744073709551615, .string ⟨#[]⟩, .slice none 0 0, .slice none 0 0, .slice none 0 0, .slice none 0 0], .bool true]) ∧ Below w.heap.size w w' := by
  have hw0 : 0 < w.heap.size := by omega
  subst hb ha
  go_enter Tryd.func8, Tryd.ntmps8
  go_wp2_with (first
    | (go_at_call 21; (with_reducible refine (c1.out _).mono ?_); rintro e w' ⟨rfl, rfl⟩)
    | (go_at_call 22; (with_reducible refine (c2.out _).mono ?_); rintro e w' ⟨rfl, rfl⟩)
    | (go_at_call 22; (with_reducible refine (c3.out _).mono ?_); rintro e w' ⟨rfl, rfl⟩)
    | (go_at_call 10; (with_reducible refine (c5.out _ ?_).mono ?_); (refine hT'.out.below ?_; (repeat (first | (with_reducible exact Below.refl _ _) | (with_reducible refine Below.drew ?_) | (with_reducible refine Below.bal ?_ _) | (with_reducible refine Below.setCell ?_ (by simp) _) | (with_reducible refine Below.link (by assumption) ?_)))); rintro e wl ⟨rfl, hbl⟩; obtain ⟨hcl, hfl⟩ := bcell hbl; have hzl := hbl.size; (try simp at hzl); (try have hyl : w.heap.size < wl.heap.size := by omega); (try have h0l : 0 < wl.heap.size := by omega)))
  refine bodyPost_ret_by (v := .tuple #[.agg #[.int .i64 ((i : Int) + 1), .int .u64 18446744073709551615, .string ⟨#[]⟩, .slice none 0 0, .slice none 0 0, .slice none 0 0, .slice none 0 0], .bool true]) ?hres rfl ?hpost
  case hres =>
    refine res7 (g := w.heap.size) (t := 28) Tryd.results8 rfl rfl ?_ Tryd.underlying28 rfl (by kernel_rfl)
    apply set7
    (repeat (first | exact heap_alloc_new w _ | apply block_of_below (by assumption)))
  case hpost => exact ⟨rfl, by (repeat (first | (with_reducible exact Below.refl _ _) | (with_reducible refine Below.drew ?_) | (with_reducible refine Below.bal ?_ _) | (with_reducible refine Below.setCell ?_ (by simp) _) | (with_reducible refine Below.link (by assumption) ?_)))⟩
set_option maxHeartbeats 4000000 in
set_option maxRecDepth 100000 in
theorem pr_Ex_n (f a b : Int) (w : World) (hT' : Hid (Tab w)) (r : Int) (r1 : 0 ≤ r) (r2 : r ≤ 2) (c1 : Hid (∀ W : World, Calls Tryd.prog 21 #[.int .i64 f] W fun e w' => e = .returned (.int .i64 r) ∧ W = w')) (c2 : Hid (∀ W : World, Calls Tryd.prog 22 #[.int .i64 a] W fun e w' => e = .returned (.bool true) ∧ W = w')) (c3 : Hid (∀ W : World, Calls Tryd.prog 22 #[.int .i64 b] W fun e w' => e = .returned (.bool true) ∧ W = w')) (c5 : Hid (∀ W : World, Tab W → Calls Tryd.prog 10 #[.int .i64 f, .int .i64 a, .int .i64 b] W fun e w' => e = .returned (.int .i64 1) ∧ Below W.heap.size W w')) (h8 : (a == 8) = false) (j i : Nat) (hj9 : j < 9) (hi9 : i < 9) (hb : b = (j : Int) + 1) (ha : a = (i : Int) + 1) (zb za nx : Int) (e1 : w.cell? ⟨0, j * 2 + 1, none⟩ = some (.int .u64 zb)) (e2 : w.cell? ⟨0, i * 2 + 1, none⟩ = some (.int .u64 za)) (hnx : IntKind.u64.wrap (zb + 1) = nx) (hw2 : 2 ≤ w.heap.size) (hn : (nx == 0) = false) (hn2 : nx ≤ za) : Calls Tryd.prog 8 #[.int .i64 f, .int .i64 a, .int .i64 b] w fun e w' => e = .returned (.tuple #[.agg #[.int .i64 a, .int .u64 nx, .string ⟨#[]⟩, .slice none 0 0, .slice none 0 0, .slice none 0 0, .slice none 0 0], .bool true]) ∧ Below w.heap.size w w' := by
  have hw0 : 0 < w.heap.size := by omega
  subst hb ha
  go_enter Tryd.func8, Tryd.ntmps8
  go_wp2_with (first
    | (go_at_call 21; (with_reducible refine (c1.out _).mono ?_); rintro e w' ⟨rfl, rfl⟩)
    | (go_at_call 22; (with_reducible refine (c2.out _).mono ?_); rintro e w' ⟨rfl, rfl⟩)
    | (go_at_call 22; (with_reducible refine (c3.out _).mono ?_); rintro e w' ⟨rfl, rfl⟩)
    | (go_at_call 10; (with_reducible refine (c5.out _ ?_).mono ?_); (refine hT'.out.below ?_; (repeat (first | (with_reducible exact Below.refl _ _) | (with_reducible refine Below.drew ?_) | (with_reducible refine Below.bal ?_ _) | (with_reducible refine Below.setCell ?_ (by simp) _) | (with_reducible refine Below.link (by assumption) ?_)))); rintro e wl ⟨rfl, hbl⟩; obtain ⟨hcl, hfl⟩ := bcell hbl; have hzl := hbl.size; (try simp at hzl); (try have hyl : w.heap.size < wl.heap.size := by omega); (try have h0l : 0 < wl.heap.size := by omega)))
  refine bodyPost_ret_by (v := .tuple #[.agg #[.int .i64 ((i : Int) + 1), .int .u64 nx, .string ⟨#[]⟩, .slice none 0 0, .slice none 0 0, .slice none 0 0, .slice none 0 0], .bool true]) ?hres rfl ?hpost
  case hres =>
    refine res7 (g := w.heap.size) (t := 28) Tryd.results8 rfl rfl ?_ Tryd.underlying28 rfl (by kernel_rfl)
    apply set7
    (repeat (first | exact heap_alloc_new w _ | apply block_of_below (by assumption)))
  case hpost => exact ⟨rfl, by (repeat (first | (with_reducible exact Below.refl _ _) | (with_reducible refine Below.drew ?_) | (with_reducible refine Below.bal ?_ _) | (with_reducible refine Below.setCell ?_ (by simp) _) | (with_reducible refine Below.link (by assumption) ?_)))⟩
/-- what an example returns -/
def exV (q : Int × Int × List UInt8 × Bool) : Value := .tuple #[.agg #[.int .i64 q.1, .int .u64 q.2.1, .string (S q.2.2.1), .slice none 0 0, .slice none 0 0, .slice none 0 0, .slice none 0 0], .bool q.2.2.2]
theorem pr_Example (f a b : Int) (w : World) (hT : Tab w) : Calls Tryd.prog 8 #[.int .i64 f, .int .i64 a, .int .i64 b] w fun e w' => e = .returned (exV (Pr.exam f a b)) ∧ Below w.heap.size w w' := by
  have hT' := Lib.hid hT
  have c1 := Lib.hid (fun W => pr_row f W)
  have c2 := Lib.hid (fun W => sc_Is a W)
  have c3 := Lib.hid (fun W => sc_Is b W)
  have ends : ∀ {q : Int × Int × List UInt8 × Bool} {v : Value}, exV q = v → Calls Tryd.prog 8 #[.int .i64 f, .int .i64 a, .int .i64 b] w (fun e w' => e = .returned v ∧ Below w.heap.size w w') → Calls Tryd.prog 8 #[.int .i64 f, .int .i64 a, .int .i64 b] w fun e w' => e = .returned (exV q) ∧ Below w.heap.size w w' :=
    fun h k => by rw [h]; exact k
  unfold Pr.exam
  cases hf : Pr.isF f
  · rw [row_no hf] at c1
    rw [if_pos (.inl rfl)]
    exact ends rfl (pr_Ex_f f a b w hT' (-1) (by decide) c1)
  · obtain ⟨r1, r2⟩ := row_yes hf
    cases ha : Pr.isK a
    · rw [ha] at c2
      rw [if_pos (.inr (.inl rfl))]
      exact ends rfl (pr_Ex_a f a b w hT' _ r1 r2 c1 c2)
    · rw [ha] at c2
      cases hb : Pr.isK b
      · rw [hb] at c3
        rw [if_pos (.inr (.inr (.inl rfl)))]
        exact ends rfl (pr_Ex_b f a b w hT' _ r1 r2 c1 c2 c3)
      · rw [hb] at c3
        have c5 := Lib.hid (fun W h => pr_Level f a b W h)
        have c6 := Lib.hid (fun W => sc_Zero a W ha)
        by_cases h2 : Pr.lev f a b = 2
        · rw [h2] at c5
          rw [if_pos (.inr (.inr (.inr h2)))]
          exact ends rfl (pr_Ex_l2 f a b w hT' _ r1 r2 c1 c2 c3 c5)
        · rw [if_neg (by simp [h2])]
          by_cases h0 : Pr.lev f a b = 0
          · rw [h0] at c5
            rw [if_pos h0]
            exact ends rfl (pr_Ex_l0 f a b w hT' _ r1 r2 c1 c2 c3 c5 c6)
          · have h1 : Pr.lev f a b = 1 := by
              have : Pr.lev f a b = 0 ∨ Pr.lev f a b = 1 ∨ Pr.lev f a b = 2 := by
                unfold Pr.lev
                (repeat' split) <;> simp
              omega
            rw [h1] at c5
            rw [if_neg h0]
            by_cases h8 : a = 8
            · rw [if_pos h8]
              exact ends rfl (pr_Ex_y f a b w hT' _ r1 r2 c1 c2 c3 c5 (beq_iff_eq.2 h8))
            · rw [if_neg h8]
              obtain ⟨i, hi, hi9, _, e2⟩ := bound_at w hT a ha
              obtain ⟨j, hj, hj9, _, e1⟩ := bound_at w hT b hb
              have h8' : (a == 8) = false := beq_eq_false_iff_ne.2 h8
              have mb : 0 ≤ Pr.most b ∧ Pr.most b ≤ 18446744073709551615 := by
                rcases Pr.isK_true hb with rfl | rfl | rfl | rfl | rfl | rfl | rfl | rfl | rfl <;> decide
              by_cases hm : Pr.most b = 18446744073709551615
              · rw [if_pos (.inl hm)]
                exact ends rfl (pr_Ex_m1 f a b w hT' _ r1 r2 c1 c2 c3 c5 h8' j i hj9 hi9 hj hi _ _ _ e1 e2 rfl hT.2.2 (by rw [hm]; rfl))
              · have hw : IntKind.u64.wrap (Pr.most b + 1) = Pr.most b + 1 := by
                  simp [IntKind.wrap, IntKind.signed, IntKind.bits]; omega
                have hn : (Pr.most b + 1 == 0) = false := beq_eq_false_iff_ne.2 (by omega)
                by_cases hl : Pr.most a < Pr.most b + 1
                · rw [if_pos (.inr hl)]
                  exact ends rfl (pr_Ex_m2 f a b w hT' _ r1 r2 c1 c2 c3 c5 h8' j i hj9 hi9 hj hi _ _ _ e1 e2 hw hT.2.2 hn hl)
                · rw [if_neg (by rintro (h | h); exact hm h; exact hl h)]
                  exact ends rfl (pr_Ex_n f a b w hT' _ r1 r2 c1 c2 c3 c5 h8' j i hj9 hi9 hj hi _ _ _ e1 e2 hw hT.2.2 hn (show Pr.most b + 1 ≤ Pr.most a by omega))
end Go.Proofs.YtgbppjckehjifaaDoor
