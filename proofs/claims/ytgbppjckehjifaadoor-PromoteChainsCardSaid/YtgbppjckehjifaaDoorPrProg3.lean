/- Ways of promote.Turn. -/
import Derived.Test.YtgbppjckehjifaaDoorPrProg2
namespace Go.Proofs.YtgbppjckehjifaaDoor
open Go.RowKit
set_option linter.unusedVariables false
set_option linter.unusedSimpArgs false

set_option maxHeartbeats 4000000 in
set_option maxRecDepth 100000 in
theorem pr_Turn_f (f a b : Int) (k x : Int) (t : ByteArray) (p1 p2 p3 p4 : Option Addr) (n1 n2 n3 n4 q1 q2 q3 q4 : Nat) (w : World) (hT' : Hid (Tab w)) (r : Int) (r1 : r < 0) (c1 : Hid (∀ W : World, Calls Tryd.prog 21 #[.int .i64 f] W fun e w' => e = .returned (.int .i64 r) ∧ W = w')) : Calls Tryd.prog 16 #[.int .i64 f, .int .i64 a, .int .i64 b, .agg #[.int .i64 k, .int .u64 x, .string t, .slice p1 n1 q1, .slice p2 n2 q2, .slice p3 n3 q3, .slice p4 n4 q4]] w fun e w' => e = .returned (.tuple #[.agg #[.int .i64 0, .int .u64 0, .string ⟨#[]⟩, .slice none 0 0, .slice none 0 0, .slice none 0 0, .slice none 0 0], .int .i64 1]) ∧ Below w.heap.size w w' := by
  go_enter Tryd.func16, Tryd.ntmps16
  go_wp2_with (first
    | (go_at_call 21; (with_reducible refine (c1.out _).mono ?_); rintro e w' ⟨rfl, rfl⟩))
  exact bodyPost_ret (by simp [results, Tryd.results16, go_sem]) rfl ⟨rfl, by (repeat (first | (with_reducible exact Below.refl _ _) | (with_reducible refine Below.drew ?_) | (with_reducible refine Below.bal ?_ _) | (with_reducible refine Below.setCell ?_ (by simp) _) | (with_reducible refine Below.link (by assumption) ?_)))⟩
set_option maxHeartbeats 4000000 in
set_option maxRecDepth 100000 in
theorem pr_Turn_a (f a b : Int) (k x : Int) (t : ByteArray) (p1 p2 p3 p4 : Option Addr) (n1 n2 n3 n4 q1 q2 q3 q4 : Nat) (w : World) (hT' : Hid (Tab w)) (r : Int) (r1 : 0 ≤ r) (r2 : r ≤ 2) (c1 : Hid (∀ W : World, Calls Tryd.prog 21 #[.int .i64 f] W fun e w' => e = .returned (.int .i64 r) ∧ W = w')) (c2 : Hid (∀ W : World, Calls Tryd.prog 22 #[.int .i64 a] W fun e w' => e = .returned (.bool false) ∧ W = w')) : Calls Tryd.prog 16 #[.int .i64 f, .int .i64 a, .int .i64 b, .agg #[.int .i64 k, .int .u64 x, .string t, .slice p1 n1 q1, .slice p2 n2 q2, .slice p3 n3 q3, .slice p4 n4 q4]] w fun e w' => e = .returned (.tuple #[.agg #[.int .i64 0, .int .u64 0, .string ⟨#[]⟩, .slice none 0 0, .slice none 0 0, .slice none 0 0, .slice none 0 0], .int .i64 1]) ∧ Below w.heap.size w w' := by
  go_enter Tryd.func16, Tryd.ntmps16
  go_wp2_with (first
    | (go_at_call 21; (with_reducible refine (c1.out _).mono ?_); rintro e w' ⟨rfl, rfl⟩)
    | (go_at_call 22; (with_reducible refine (c2.out _).mono ?_); rintro e w' ⟨rfl, rfl⟩))
  exact bodyPost_ret (by simp [results, Tryd.results16, go_sem]) rfl ⟨rfl, by (repeat (first | (with_reducible exact Below.refl _ _) | (with_reducible refine Below.drew ?_) | (with_reducible refine Below.bal ?_ _) | (with_reducible refine Below.setCell ?_ (by simp) _) | (with_reducible refine Below.link (by assumption) ?_)))⟩
set_option maxHeartbeats 4000000 in
set_option maxRecDepth 100000 in
theorem pr_Turn_b (f a b : Int) (k x : Int) (t : ByteArray) (p1 p2 p3 p4 : Option Addr) (n1 n2 n3 n4 q1 q2 q3 q4 : Nat) (w : World) (hT' : Hid (Tab w)) (r : Int) (r1 : 0 ≤ r) (r2 : r ≤ 2) (c1 : Hid (∀ W : World, Calls Tryd.prog 21 #[.int .i64 f] W fun e w' => e = .returned (.int .i64 r) ∧ W = w')) (c2 : Hid (∀ W : World, Calls Tryd.prog 22 #[.int .i64 a] W fun e w' => e = .returned (.bool true) ∧ W = w')) (c3 : Hid (∀ W : World, Calls Tryd.prog 22 #[.int .i64 b] W fun e w' => e = .returned (.bool false) ∧ W = w')) : Calls Tryd.prog 16 #[.int .i64 f, .int .i64 a, .int .i64 b, .agg #[.int .i64 k, .int .u64 x, .string t, .slice p1 n1 q1, .slice p2 n2 q2, .slice p3 n3 q3, .slice p4 n4 q4]] w fun e w' => e = .returned (.tuple #[.agg #[.int .i64 0, .int .u64 0, .string ⟨#[]⟩, .slice none 0 0, .slice none 0 0, .slice none 0 0, .slice none 0 0], .int .i64 1]) ∧ Below w.heap.size w w' := by
  go_enter Tryd.func16, Tryd.ntmps16
  go_wp2_with (first
    | (go_at_call 21; (with_reducible refine (c1.out _).mono ?_); rintro e w' ⟨rfl, rfl⟩)
    | (go_at_call 22; (with_reducible refine (c2.out _).mono ?_); rintro e w' ⟨rfl, rfl⟩)
    | (go_at_call 22; (with_reducible refine (c3.out _).mono ?_); rintro e w' ⟨rfl, rfl⟩))
  exact bodyPost_ret (by simp [results, Tryd.results16, go_sem]) rfl ⟨rfl, by (repeat (first | (with_reducible exact Below.refl _ _) | (with_reducible refine Below.drew ?_) | (with_reducible refine Below.bal ?_ _) | (with_reducible refine Below.setCell ?_ (by simp) _) | (with_reducible refine Below.link (by assumption) ?_)))⟩
set_option maxHeartbeats 4000000 in
set_option maxRecDepth 100000 in
theorem pr_Turn_fit (f a b : Int) (k x : Int) (t : ByteArray) (p1 p2 p3 p4 : Option Addr) (n1 n2 n3 n4 q1 q2 q3 q4 : Nat) (w : World) (hT' : Hid (Tab w)) (r : Int) (r1 : 0 ≤ r) (r2 : r ≤ 2) (c1 : Hid (∀ W : World, Calls Tryd.prog 21 #[.int .i64 f] W fun e w' => e = .returned (.int .i64 r) ∧ W = w')) (c2 : Hid (∀ W : World, Calls Tryd.prog 22 #[.int .i64 a] W fun e w' => e = .returned (.bool true) ∧ W = w')) (c3 : Hid (∀ W : World, Calls Tryd.prog 22 #[.int .i64 b] W fun e w' => e = .returned (.bool true) ∧ W = w')) (c4 : Hid (∀ W : World, Calls Tryd.prog 18 #[.int .i64 a, .agg #[.int .i64 k, .int .u64 x, .string t, .slice p1 n1 q1, .slice p2 n2 q2, .slice p3 n3 q3, .slice p4 n4 q4]] W fun e w' => e = .returned (.bool false) ∧ Below W.heap.size W w')) : Calls Tryd.prog 16 #[.int .i64 f, .int .i64 a, .int .i64 b, .agg #[.int .i64 k, .int .u64 x, .string t, .slice p1 n1 q1, .slice p2 n2 q2, .slice p3 n3 q3, .slice p4 n4 q4]] w fun e w' => e = .returned (.tuple #[.agg #[.int .i64 0, .int .u64 0, .string ⟨#[]⟩, .slice none 0 0, .slice none 0 0, .slice none 0 0, .slice none 0 0], .int .i64 1]) ∧ Below w.heap.size w w' := by
  go_enter Tryd.func16, Tryd.ntmps16
  go_wp2_with (first
    | (go_at_call 21; (with_reducible refine (c1.out _).mono ?_); rintro e w' ⟨rfl, rfl⟩)
    | (go_at_call 22; (with_reducible refine (c2.out _).mono ?_); rintro e w' ⟨rfl, rfl⟩)
    | (go_at_call 22; (with_reducible refine (c3.out _).mono ?_); rintro e w' ⟨rfl, rfl⟩)
    | (go_at_call 18; (with_reducible refine (c4.out _).mono ?_); rintro e w1 ⟨rfl, hb1⟩; obtain ⟨hc1, hf1⟩ := bcell hb1; have hz1 := hb1.size; (try simp at hz1); (try have hx1 : w.heap.size + 1 < w1.heap.size := by omega); (try have hy1 : w.heap.size < w1.heap.size := by omega)))
  refine bodyPost_ret_by (v := .tuple #[.agg #[.int .i64 0, .int .u64 0, .string ⟨#[]⟩, .slice none 0 0, .slice none 0 0, .slice none 0 0, .slice none 0 0], .int .i64 1]) ?hres rfl ?hpost
  case hres =>
    refine res7 (g := w.heap.size + 1) (t := 28) Tryd.results16 rfl rfl ?_ Tryd.underlying28 rfl (by kernel_rfl)
    apply set7
    (repeat (first | exact heap_alloc2_new w _ _ | apply block_of_below (by assumption)))
  case hpost => exact ⟨rfl, by (repeat (first | (with_reducible exact Below.refl _ _) | (with_reducible refine Below.drew ?_) | (with_reducible refine Below.bal ?_ _) | (with_reducible refine Below.setCell ?_ (by simp) _) | (with_reducible refine Below.link (by assumption) ?_)))⟩
set_option maxHeartbeats 4000000 in
set_option maxRecDepth 100000 in
theorem pr_Turn_w1 (f a b : Int) (k x : Int) (t : ByteArray) (p1 p2 p3 p4 : Option Addr) (n1 n2 n3 n4 q1 q2 q3 q4 : Nat) (w : World) (hT' : Hid (Tab w)) (r : Int) (r1 : 0 ≤ r) (r2 : r ≤ 2) (c1 : Hid (∀ W : World, Calls Tryd.prog 21 #[.int .i64 f] W fun e w' => e = .returned (.int .i64 r) ∧ W = w')) (c2 : Hid (∀ W : World, Calls Tryd.prog 22 #[.int .i64 a] W fun e w' => e = .returned (.bool true) ∧ W = w')) (c3 : Hid (∀ W : World, Calls Tryd.prog 22 #[.int .i64 b] W fun e w' => e = .returned (.bool true) ∧ W = w')) (c4 : Hid (∀ W : World, Calls Tryd.prog 18 #[.int .i64 a, .agg #[.int .i64 k, .int .u64 x, .string t, .slice p1 n1 q1, .slice p2 n2 q2, .slice p3 n3 q3, .slice p4 n4 q4]] W fun e w' => e = .returned (.bool true) ∧ Below W.heap.size W w')) (c5 : Hid (∀ W : World, Tab W → Calls Tryd.prog 27 #[.int .i64 f, .int .i64 a, .int .i64 b] W fun e w' => e = .returned (.bool false) ∧ W = w')) (hf1 : (f == 1) = true) : Calls Tryd.prog 16 #[.int .i64 f, .int .i64 a, .int .i64 b, .agg #[.int .i64 k, .int .u64 x, .string t, .slice p1 n1 q1, .slice p2 n2 q2, .slice p3 n3 q3, .slice p4 n4 q4]] w fun e w' => e = .returned (.tuple #[.agg #[.int .i64 0, .int .u64 0, .string ⟨#[]⟩, .slice none 0 0, .slice none 0 0, .slice none 0 0, .slice none 0 0], .int .i64 13]) ∧ Below w.heap.size w w' := by
  go_enter Tryd.func16, Tryd.ntmps16
  go_wp2_with (first
    | (go_at_call 21; (with_reducible refine (c1.out _).mono ?_); rintro e w' ⟨rfl, rfl⟩)
    | (go_at_call 22; (with_reducible refine (c2.out _).mono ?_); rintro e w' ⟨rfl, rfl⟩)
    | (go_at_call 22; (with_reducible refine (c3.out _).mono ?_); rintro e w' ⟨rfl, rfl⟩)
    | (go_at_call 18; (with_reducible refine (c4.out _).mono ?_); rintro e w1 ⟨rfl, hb1⟩; obtain ⟨hc1, hf1⟩ := bcell hb1; have hz1 := hb1.size; (try simp at hz1); (try have hx1 : w.heap.size + 1 < w1.heap.size := by omega); (try have hy1 : w.heap.size < w1.heap.size := by omega))
    | (go_at_call 27; (with_reducible refine (c5.out _ ?_).mono ?_); (refine hT'.out.below ?_; (repeat (first | (with_reducible exact Below.refl _ _) | (with_reducible refine Below.drew ?_) | (with_reducible refine Below.bal ?_ _) | (with_reducible refine Below.setCell ?_ (by simp) _) | (with_reducible refine Below.link (by assumption) ?_)))); rintro e w' ⟨rfl, rfl⟩))
  refine bodyPost_ret_by (v := .tuple #[.agg #[.int .i64 0, .int .u64 0, .string ⟨#[]⟩, .slice none 0 0, .slice none 0 0, .slice none 0 0, .slice none 0 0], .int .i64 13]) ?hres rfl ?hpost
  case hres =>
    refine res7 (g := w.heap.size + 1) (t := 28) Tryd.results16 rfl rfl ?_ Tryd.underlying28 rfl (by kernel_rfl)
    apply set7
    (repeat (first | exact heap_alloc2_new w _ _ | apply block_of_below (by assumption)))
  case hpost => exact ⟨rfl, by (repeat (first | (with_reducible exact Below.refl _ _) | (with_reducible refine Below.drew ?_) | (with_reducible refine Below.bal ?_ _) | (with_reducible refine Below.setCell ?_ (by simp) _) | (with_reducible refine Below.link (by assumption) ?_)))⟩
set_option maxHeartbeats 4000000 in
set_option maxRecDepth 100000 in
theorem pr_Turn_w2 (f a b : Int) (k x : Int) (t : ByteArray) (p1 p2 p3 p4 : Option Addr) (n1 n2 n3 n4 q1 q2 q3 q4 : Nat) (w : World) (hT' : Hid (Tab w)) (r : Int) (r1 : 0 ≤ r) (r2 : r ≤ 2) (c1 : Hid (∀ W : World, Calls Tryd.prog 21 #[.int .i64 f] W fun e w' => e = .returned (.int .i64 r) ∧ W = w')) (c2 : Hid (∀ W : World, Calls Tryd.prog 22 #[.int .i64 a] W fun e w' => e = .returned (.bool true) ∧ W = w')) (c3 : Hid (∀ W : World, Calls Tryd.prog 22 #[.int .i64 b] W fun e w' => e = .returned (.bool true) ∧ W = w')) (c4 : Hid (∀ W : World, Calls Tryd.prog 18 #[.int .i64 a, .agg #[.int .i64 k, .int .u64 x, .string t, .slice p1 n1 q1, .slice p2 n2 q2, .slice p3 n3 q3, .slice p4 n4 q4]] W fun e w' => e = .returned (.bool true) ∧ Below W.heap.size W w')) (c5 : Hid (∀ W : World, Tab W → Calls Tryd.prog 27 #[.int .i64 f, .int .i64 a, .int .i64 b] W fun e w' => e = .returned (.bool false) ∧ W = w')) (hf1 : (f == 1) = false) : Calls Tryd.prog 16 #[.int .i64 f, .int .i64 a, .int .i64 b, .agg #[.int .i64 k, .int .u64 x, .string t, .slice p1 n1 q1, .slice p2 n2 q2, .slice p3 n3 q3, .slice p4 n4 q4]] w fun e w' => e = .returned (.tuple #[.agg #[.int .i64 0, .int .u64 0, .string ⟨#[]⟩, .slice none 0 0, .slice none 0 0, .slice none 0 0, .slice none 0 0], .int .i64 12]) ∧ Below w.heap.size w w' := by
  go_enter Tryd.func16, Tryd.ntmps16
  go_wp2_with (first
    | (go_at_call 21; (with_reducible refine (c1.out _).mono ?_); rintro e w' ⟨rfl, rfl⟩)
    | (go_at_call 22; (with_reducible refine (c2.out _).mono ?_); rintro e w' ⟨rfl, rfl⟩)
    | (go_at_call 22; (with_reducible refine (c3.out _).mono ?_); rintro e w' ⟨rfl, rfl⟩)
    | (go_at_call 18; (with_reducible refine (c4.out _).mono ?_); rintro e w1 ⟨rfl, hb1⟩; obtain ⟨hc1, hf1⟩ := bcell hb1; have hz1 := hb1.size; (try simp at hz1); (try have hx1 : w.heap.size + 1 < w1.heap.size := by omega); (try have hy1 : w.heap.size < w1.heap.size := by omega))
    | (go_at_call 27; (with_reducible refine (c5.out _ ?_).mono ?_); (refine hT'.out.below ?_; (repeat (first | (with_reducible exact Below.refl _ _) | (with_reducible refine Below.drew ?_) | (with_reducible refine Below.bal ?_ _) | (with_reducible refine Below.setCell ?_ (by simp) _) | (with_reducible refine Below.link (by assumption) ?_)))); rintro e w' ⟨rfl, rfl⟩))
  refine bodyPost_ret_by (v := .tuple #[.agg #[.int .i64 0, .int .u64 0, .string ⟨#[]⟩, .slice none 0 0, .slice none 0 0, .slice none 0 0, .slice none 0 0], .int .i64 12]) ?hres rfl ?hpost
  case hres =>
    refine res7 (g := w.heap.size + 1) (t := 28) Tryd.results16 rfl rfl ?_ Tryd.underlying28 rfl (by kernel_rfl)
    apply set7
    (repeat (first | exact heap_alloc2_new w _ _ | apply block_of_below (by assumption)))
  case hpost => exact ⟨rfl, by (repeat (first | (with_reducible exact Below.refl _ _) | (with_reducible refine Below.drew ?_) | (with_reducible refine Below.bal ?_ _) | (with_reducible refine Below.setCell ?_ (by simp) _) | (with_reducible refine Below.link (by assumption) ?_)))⟩
set_option maxHeartbeats 4000000 in
set_option maxRecDepth 100000 in
theorem pr_Turn_r (f a b : Int) (k x : Int) (t : ByteArray) (p1 p2 p3 p4 : Option Addr) (n1 n2 n3 n4 q1 q2 q3 q4 : Nat) (w : World) (hT' : Hid (Tab w)) (r : Int) (r1 : 0 ≤ r) (r2 : r ≤ 2) (c1 : Hid (∀ W : World, Calls Tryd.prog 21 #[.int .i64 f] W fun e w' => e = .returned (.int .i64 r) ∧ W = w')) (c2 : Hid (∀ W : World, Calls Tryd.prog 22 #[.int .i64 a] W fun e w' => e = .returned (.bool true) ∧ W = w')) (c3 : Hid (∀ W : World, Calls Tryd.prog 22 #[.int .i64 b] W fun e w' => e = .returned (.bool true) ∧ W = w')) (c4 : Hid (∀ W : World, Calls Tryd.prog 18 #[.int .i64 a, .agg #[.int .i64 k, .int .u64 x, .string t, .slice p1 n1 q1, .slice p2 n2 q2, .slice p3 n3 q3, .slice p4 n4 q4]] W fun e w' => e = .returned (.bool true) ∧ Below W.heap.size W w')) (c5 : Hid (∀ W : World, Tab W → Calls Tryd.prog 27 #[.int .i64 f, .int .i64 a, .int .i64 b] W fun e w' => e = .returned (.bool true) ∧ W = w')) (c6 : Hid (∀ W : World, Calls Tryd.prog 28 #[.int .i64 a] W fun e w' => e = .returned (.bool true) ∧ W = w')) (c7 : Hid (∀ W : World, Tab W → Calls Tryd.prog 31 #[.int .i64 a, .int .i64 b, .int .u64 x] W fun e w' => e = .returned (.bool false) ∧ W = w')) : Calls Tryd.prog 16 #[.int .i64 f, .int .i64 a, .int .i64 b, .agg #[.int .i64 k, .int .u64 x, .string t, .slice p1 n1 q1, .slice p2 n2 q2, .slice p3 n3 q3, .slice p4 n4 q4]] w fun e w' => e = .returned (.tuple #[.agg #[.int .i64 0, .int .u64 0, .string ⟨#[]⟩, .slice none 0 0, .slice none 0 0, .slice none 0 0, .slice none 0 0], .int .i64 6]) ∧ Below w.heap.size w w' := by
  go_enter Tryd.func16, Tryd.ntmps16
  go_wp2_with (first
    | (go_at_call 21; (with_reducible refine (c1.out _).mono ?_); rintro e w' ⟨rfl, rfl⟩)
    | (go_at_call 22; (with_reducible refine (c2.out _).mono ?_); rintro e w' ⟨rfl, rfl⟩)
    | (go_at_call 22; (with_reducible refine (c3.out _).mono ?_); rintro e w' ⟨rfl, rfl⟩)
    | (go_at_call 18; (with_reducible refine (c4.out _).mono ?_); rintro e w1 ⟨rfl, hb1⟩; obtain ⟨hc1, hf1⟩ := bcell hb1; have hz1 := hb1.size; (try simp at hz1); (try have hx1 : w.heap.size + 1 < w1.heap.size := by omega); (try have hy1 : w.heap.size < w1.heap.size := by omega))
    | (go_at_call 27; (with_reducible refine (c5.out _ ?_).mono ?_); (refine hT'.out.below ?_; (repeat (first | (with_reducible exact Below.refl _ _) | (with_reducible refine Below.drew ?_) | (with_reducible refine Below.bal ?_ _) | (with_reducible refine Below.setCell ?_ (by simp) _) | (with_reducible refine Below.link (by assumption) ?_)))); rintro e w' ⟨rfl, rfl⟩)
    | (go_at_call 28; (with_reducible refine (c6.out _).mono ?_); rintro e w' ⟨rfl, rfl⟩)
    | (go_at_call 31; (with_reducible refine (c7.out _ ?_).mono ?_); (refine hT'.out.below ?_; (repeat (first | (with_reducible exact Below.refl _ _) | (with_reducible refine Below.drew ?_) | (with_reducible refine Below.bal ?_ _) | (with_reducible refine Below.setCell ?_ (by simp) _) | (with_reducible refine Below.link (by assumption) ?_)))); rintro e w' ⟨rfl, rfl⟩))
  refine bodyPost_ret_by (v := .tuple #[.agg #[.int .i64 0, .int .u64 0, .string ⟨#[]⟩, .slice none 0 0, .slice none 0 0, .slice none 0 0, .slice none 0 0], .int .i64 6]) ?hres rfl ?hpost
  case hres =>
    refine res7 (g := w.heap.size + 1) (t := 28) Tryd.results16 rfl rfl ?_ Tryd.underlying28 rfl (by kernel_rfl)
    apply set7
    (repeat (first | exact heap_alloc2_new w _ _ | apply block_of_below (by assumption)))
  case hpost => exact ⟨rfl, by (repeat (first | (with_reducible exact Below.refl _ _) | (with_reducible refine Below.drew ?_) | (with_reducible refine Below.bal ?_ _) | (with_reducible refine Below.setCell ?_ (by simp) _) | (with_reducible refine Below.link (by assumption) ?_)))⟩
end Go.Proofs.YtgbppjckehjifaaDoor
