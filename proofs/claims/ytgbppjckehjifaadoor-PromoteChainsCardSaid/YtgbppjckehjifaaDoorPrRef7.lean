/- Ways of the reference's Turn. -/
import Derived.Test.YtgbppjckehjifaaDoorPrRef4
import Derived.Test.YtgbppjckehjifaaDoorPrProg2
import Derived.StillTailTactics
namespace Go.Proofs.YtgbppjckehjifaaDoor
open Go.RowKit
set_option linter.unusedVariables false
set_option linter.unusedSimpArgs false

set_option maxHeartbeats 4000000 in
set_option maxRecDepth 100000 in
theorem r_Turn_n4a (f a b : Int) (k x : Int) (t : ByteArray) (p1 p2 p3 p4 : Option Addr) (n1 n2 n3 n4 q1 q2 q3 q4 : Nat) (l y G : Int) (w : World) (c1 : Hid (∀ W : World, Calls Tryd.prog 23 #[.int .i64 f] W fun e w' => e = .returned (.bool true) ∧ W = w')) (c2 : Hid (∀ W : World, Calls Tryd.prog 24 #[.int .i64 a] W fun e w' => e = .returned (.bool true) ∧ W = w')) (c3 : Hid (∀ W : World, Calls Tryd.prog 24 #[.int .i64 b] W fun e w' => e = .returned (.bool true) ∧ W = w')) (c4 : Hid (∀ W : World, Calls Tryd.prog 33 #[.int .i64 a, .agg #[.int .i64 k, .int .u64 x, .string t, .slice p1 n1 q1, .slice p2 n2 q2, .slice p3 n3 q3, .slice p4 n4 q4]] W fun e w' => e = .returned (.bool true) ∧ Below W.heap.size W w')) (c5 : Hid (∀ W : World, Calls Tryd.prog 11 #[.int .i64 f, .int .i64 a, .int .i64 b] W fun e w' => e = .returned (.int .i64 l) ∧ W = w')) (c8 : Hid (∀ W : World, Calls Tryd.prog 35 #[.int .i64 a] W fun e w' => e = .returned (.bool false) ∧ W = w')) (c10 : Hid (∀ W : World, Calls Tryd.prog 26 #[.int .i64 b] W fun e w' => e = .returned (.int .u64 G) ∧ W = w')) (hk : (k != a) = false) (hl : (l == 0) = false) (h6 : (a == 6) = false) (h7 : (a == 7) = false) (h8 : (a == 8) = false) (hx : G < x) : Calls Tryd.prog 17 #[.int .i64 f, .int .i64 a, .int .i64 b, .agg #[.int .i64 k, .int .u64 x, .string t, .slice p1 n1 q1, .slice p2 n2 q2, .slice p3 n3 q3, .slice p4 n4 q4]] w fun e w' => e = .returned (.tuple #[.agg #[.int .i64 0, .int .u64 0, .string ⟨#[]⟩, .slice none 0 0, .slice none 0 0, .slice none 0 0, .slice none 0 0], .int .i64 6]) ∧ Below w.heap.size w w' := by
  go_enter Tryd.func17, Tryd.ntmps17
  go_wp2_with (first
    | (go_at_call 23; (with_reducible refine (c1.out _).mono ?_); rintro e w' ⟨rfl, rfl⟩)
    | (go_at_call 24; (with_reducible refine (c2.out _).mono ?_); rintro e w' ⟨rfl, rfl⟩)
    | (go_at_call 24; (with_reducible refine (c3.out _).mono ?_); rintro e w' ⟨rfl, rfl⟩)
    | (go_at_call 33; (with_reducible refine (c4.out _).mono ?_); rintro e w1 ⟨rfl, hb1⟩; obtain ⟨hc1, hf1⟩ := bcell hb1; have hz1 := hb1.size; (try simp at hz1); (try have hx1 : w.heap.size + 1 < w1.heap.size := by omega); (try have hy1 : w.heap.size < w1.heap.size := by omega))
    | (go_at_call 11; (with_reducible refine (c5.out _).mono ?_); rintro e w' ⟨rfl, rfl⟩)
    | (go_at_call 35; (with_reducible refine (c8.out _).mono ?_); rintro e w' ⟨rfl, rfl⟩))
  obtain ⟨wd, hwd⟩ : ∃ wd, wd = (w1.alloc (.cells #[.int .i64 b, .int .u64 x, .string t, .slice none 0 0, .slice none 0 0, .slice none 0 0, .slice none 0 0] 28)).drew := ⟨_, rfl⟩
  have hbd : Below w1.heap.size w1 wd := by rw [hwd]; exact ((Below.refl _ _).bal _).drew
  have hzd : w1.heap.size < wd.heap.size := by rw [hwd]; simp
  have hxd : w.heap.size + 1 < wd.heap.size := by omega
  have hv0 : wd.cell? ⟨w1.heap.size, 0, none⟩ = some (.int .i64 b) := by rw [hwd]; simp [go_sem]
  have hv1 : wd.cell? ⟨w1.heap.size, 1, none⟩ = some (.int .u64 x) := by rw [hwd]; simp [go_sem]
  have hv2 : wd.cell? ⟨w1.heap.size, 2, none⟩ = some (.string t) := by rw [hwd]; simp [go_sem]
  have hv3 : wd.cell? ⟨w1.heap.size, 3, none⟩ = some (.slice none 0 0) := by rw [hwd]; simp [go_sem]
  have hv4 : wd.cell? ⟨w1.heap.size, 4, none⟩ = some (.slice none 0 0) := by rw [hwd]; simp [go_sem]
  have hv5 : wd.cell? ⟨w1.heap.size, 5, none⟩ = some (.slice none 0 0) := by rw [hwd]; simp [go_sem]
  have hv6 : wd.cell? ⟨w1.heap.size, 6, none⟩ = some (.slice none 0 0) := by rw [hwd]; simp [go_sem]
  refine region_tail 20 (by kernel_rfl) (by kernel_rfl) hwd ?_
  clear hwd
  obtain ⟨hcd, hfd⟩ := bcell hbd
  have hs1 : wd.cell? ⟨w.heap.size, 1, none⟩ = some (.int .u64 x) := by
    rw [hcd _ _ hy1, hc1 _ _ (by simp; omega)]
    simp [go_sem]
  simp only [List.take_succ_cons, List.take_zero, List.drop_succ_cons, List.drop_zero]
  repeat (with_reducible refine wpStill_step (fun K hK => ?_); go_simp; with_reducible refine hK _ ?_; clear hK K)
  (with_reducible refine wpStill_step (fun K hK => ?_); go_simp; with_reducible refine ⟨_, (c10.out _).mono fun _ _ h => ⟨h.1, h.2.symm⟩, hK _ ?_⟩; clear hK K)
  repeat (first | (with_reducible refine wpStill_step (fun K hK => ?_); go_simp; with_reducible refine hK _ ?_; clear hK K) | (with_reducible refine still_skip ?_ ?_; with_unfolding_all rfl))
  with_reducible refine wpStill_nil ?_
  go_wp2
  refine bodyPost_ret_by (v := .tuple #[.agg #[.int .i64 0, .int .u64 0, .string ⟨#[]⟩, .slice none 0 0, .slice none 0 0, .slice none 0 0, .slice none 0 0], .int .i64 6]) ?hres rfl ?hpost
  case hres =>
    refine res7 (g := w.heap.size + 1) (t := 28) Tryd.results17 rfl rfl ?_ Tryd.underlying28 rfl (by kernel_rfl)
    apply set7
    (repeat (first | exact heap_alloc2_new w _ _ | apply block_of_below (by assumption) | apply block_of_drew | apply block_of_alloc))
  case hpost => exact ⟨rfl, by (repeat (first | (with_reducible exact Below.refl _ _) | (with_reducible refine Below.drew ?_) | (with_reducible refine Below.bal ?_ _) | (with_reducible refine Below.setCell ?_ (by simp) _) | (with_reducible refine Below.link (by assumption) ?_)))⟩
set_option maxHeartbeats 4000000 in
set_option maxRecDepth 100000 in
theorem r_Turn_n4b (f a b : Int) (k x : Int) (t : ByteArray) (p1 p2 p3 p4 : Option Addr) (n1 n2 n3 n4 q1 q2 q3 q4 : Nat) (l y G : Int) (w : World) (c1 : Hid (∀ W : World, Calls Tryd.prog 23 #[.int .i64 f] W fun e w' => e = .returned (.bool true) ∧ W = w')) (c2 : Hid (∀ W : World, Calls Tryd.prog 24 #[.int .i64 a] W fun e w' => e = .returned (.bool true) ∧ W = w')) (c3 : Hid (∀ W : World, Calls Tryd.prog 24 #[.int .i64 b] W fun e w' => e = .returned (.bool true) ∧ W = w')) (c4 : Hid (∀ W : World, Calls Tryd.prog 33 #[.int .i64 a, .agg #[.int .i64 k, .int .u64 x, .string t, .slice p1 n1 q1, .slice p2 n2 q2, .slice p3 n3 q3, .slice p4 n4 q4]] W fun e w' => e = .returned (.bool true) ∧ Below W.heap.size W w')) (c5 : Hid (∀ W : World, Calls Tryd.prog 11 #[.int .i64 f, .int .i64 a, .int .i64 b] W fun e w' => e = .returned (.int .i64 l) ∧ W = w')) (c8 : Hid (∀ W : World, Calls Tryd.prog 35 #[.int .i64 a] W fun e w' => e = .returned (.bool true) ∧ W = w')) (c10 : Hid (∀ W : World, Calls Tryd.prog 26 #[.int .i64 b] W fun e w' => e = .returned (.int .u64 G) ∧ W = w')) (hk : (k != a) = false) (hl : (l == 0) = false) (h6 : (a == 6) = false) (h7 : (a == 7) = false) (h8 : (a == 8) = false) (hx0 : decide (9223372036854775808 ≤ x) = false) (hx : G < x) : Calls Tryd.prog 17 #[.int .i64 f, .int .i64 a, .int .i64 b, .agg #[.int .i64 k, .int .u64 x, .string t, .slice p1 n1 q1, .slice p2 n2 q2, .slice p3 n3 q3, .slice p4 n4 q4]] w fun e w' => e = .returned (.tuple #[.agg #[.int .i64 0, .int .u64 0, .string ⟨#[]⟩, .slice none 0 0, .slice none 0 0, .slice none 0 0, .slice none 0 0], .int .i64 6]) ∧ Below w.heap.size w w' := by
  go_enter Tryd.func17, Tryd.ntmps17
  go_wp2_with (first
    | (go_at_call 23; (with_reducible refine (c1.out _).mono ?_); rintro e w' ⟨rfl, rfl⟩)
    | (go_at_call 24; (with_reducible refine (c2.out _).mono ?_); rintro e w' ⟨rfl, rfl⟩)
    | (go_at_call 24; (with_reducible refine (c3.out _).mono ?_); rintro e w' ⟨rfl, rfl⟩)
    | (go_at_call 33; (with_reducible refine (c4.out _).mono ?_); rintro e w1 ⟨rfl, hb1⟩; obtain ⟨hc1, hf1⟩ := bcell hb1; have hz1 := hb1.size; (try simp at hz1); (try have hx1 : w.heap.size + 1 < w1.heap.size := by omega); (try have hy1 : w.heap.size < w1.heap.size := by omega))
    | (go_at_call 11; (with_reducible refine (c5.out _).mono ?_); rintro e w' ⟨rfl, rfl⟩)
    | (go_at_call 35; (with_reducible refine (c8.out _).mono ?_); rintro e w' ⟨rfl, rfl⟩))
  obtain ⟨wd, hwd⟩ : ∃ wd, wd = (w1.alloc (.cells #[.int .i64 b, .int .u64 x, .string t, .slice none 0 0, .slice none 0 0, .slice none 0 0, .slice none 0 0] 28)).drew := ⟨_, rfl⟩
  have hbd : Below w1.heap.size w1 wd := by rw [hwd]; exact ((Below.refl _ _).bal _).drew
  have hzd : w1.heap.size < wd.heap.size := by rw [hwd]; simp
  have hxd : w.heap.size + 1 < wd.heap.size := by omega
  have hv0 : wd.cell? ⟨w1.heap.size, 0, none⟩ = some (.int .i64 b) := by rw [hwd]; simp [go_sem]
  have hv1 : wd.cell? ⟨w1.heap.size, 1, none⟩ = some (.int .u64 x) := by rw [hwd]; simp [go_sem]
  have hv2 : wd.cell? ⟨w1.heap.size, 2, none⟩ = some (.string t) := by rw [hwd]; simp [go_sem]
  have hv3 : wd.cell? ⟨w1.heap.size, 3, none⟩ = some (.slice none 0 0) := by rw [hwd]; simp [go_sem]
  have hv4 : wd.cell? ⟨w1.heap.size, 4, none⟩ = some (.slice none 0 0) := by rw [hwd]; simp [go_sem]
  have hv5 : wd.cell? ⟨w1.heap.size, 5, none⟩ = some (.slice none 0 0) := by rw [hwd]; simp [go_sem]
  have hv6 : wd.cell? ⟨w1.heap.size, 6, none⟩ = some (.slice none 0 0) := by rw [hwd]; simp [go_sem]
  refine region_tail 20 (by kernel_rfl) (by kernel_rfl) hwd ?_
  clear hwd
  obtain ⟨hcd, hfd⟩ := bcell hbd
  have hs1 : wd.cell? ⟨w.heap.size, 1, none⟩ = some (.int .u64 x) := by
    rw [hcd _ _ hy1, hc1 _ _ (by simp; omega)]
    simp [go_sem]
  simp only [List.take_succ_cons, List.take_zero, List.drop_succ_cons, List.drop_zero]
  repeat (with_reducible refine wpStill_step (fun K hK => ?_); go_simp; with_reducible refine hK _ ?_; clear hK K)
  (with_reducible refine wpStill_step (fun K hK => ?_); go_simp; with_reducible refine ⟨_, (c10.out _).mono fun _ _ h => ⟨h.1, h.2.symm⟩, hK _ ?_⟩; clear hK K)
  repeat (first | (with_reducible refine wpStill_step (fun K hK => ?_); go_simp; with_reducible refine hK _ ?_; clear hK K) | (with_reducible refine still_skip ?_ ?_; with_unfolding_all rfl))
  with_reducible refine wpStill_nil ?_
  go_wp2
  refine bodyPost_ret_by (v := .tuple #[.agg #[.int .i64 0, .int .u64 0, .string ⟨#[]⟩, .slice none 0 0, .slice none 0 0, .slice none 0 0, .slice none 0 0], .int .i64 6]) ?hres rfl ?hpost
  case hres =>
    refine res7 (g := w.heap.size + 1) (t := 28) Tryd.results17 rfl rfl ?_ Tryd.underlying28 rfl (by kernel_rfl)
    apply set7
    (repeat (first | exact heap_alloc2_new w _ _ | apply block_of_below (by assumption) | apply block_of_drew | apply block_of_alloc))
  case hpost => exact ⟨rfl, by (repeat (first | (with_reducible exact Below.refl _ _) | (with_reducible refine Below.drew ?_) | (with_reducible refine Below.bal ?_ _) | (with_reducible refine Below.setCell ?_ (by simp) _) | (with_reducible refine Below.link (by assumption) ?_)))⟩
set_option maxHeartbeats 4000000 in
set_option maxRecDepth 100000 in
theorem r_Turn_n5a (f a b : Int) (k x : Int) (t : ByteArray) (p1 p2 p3 p4 : Option Addr) (n1 n2 n3 n4 q1 q2 q3 q4 : Nat) (l y G : Int) (w : World) (c1 : Hid (∀ W : World, Calls Tryd.prog 23 #[.int .i64 f] W fun e w' => e = .returned (.bool true) ∧ W = w')) (c2 : Hid (∀ W : World, Calls Tryd.prog 24 #[.int .i64 a] W fun e w' => e = .returned (.bool true) ∧ W = w')) (c3 : Hid (∀ W : World, Calls Tryd.prog 24 #[.int .i64 b] W fun e w' => e = .returned (.bool true) ∧ W = w')) (c4 : Hid (∀ W : World, Calls Tryd.prog 33 #[.int .i64 a, .agg #[.int .i64 k, .int .u64 x, .string t, .slice p1 n1 q1, .slice p2 n2 q2, .slice p3 n3 q3, .slice p4 n4 q4]] W fun e w' => e = .returned (.bool true) ∧ Below W.heap.size W w')) (c5 : Hid (∀ W : World, Calls Tryd.prog 11 #[.int .i64 f, .int .i64 a, .int .i64 b] W fun e w' => e = .returned (.int .i64 l) ∧ W = w')) (c8 : Hid (∀ W : World, Calls Tryd.prog 35 #[.int .i64 a] W fun e w' => e = .returned (.bool false) ∧ W = w')) (c10 : Hid (∀ W : World, Calls Tryd.prog 26 #[.int .i64 b] W fun e w' => e = .returned (.int .u64 G) ∧ W = w')) (c7 : Hid (∀ W : World, Calls Tryd.prog 33 #[.int .i64 b, .agg #[.int .i64 b, .int .u64 x, .string t, .slice none 0 0, .slice none 0 0, .slice none 0 0, .slice none 0 0]] W fun e w' => e = .returned (.bool false) ∧ Below W.heap.size W w')) (hk : (k != a) = false) (hl : (l == 0) = false) (h6 : (a == 6) = false) (h7 : (a == 7) = false) (h8 : (a == 8) = false) (hx : x ≤ G) : Calls Tryd.prog 17 #[.int .i64 f, .int .i64 a, .int .i64 b, .agg #[.int .i64 k, .int .u64 x, .string t, .slice p1 n1 q1, .slice p2 n2 q2, .slice p3 n3 q3, .slice p4 n4 q4]] w fun e w' => e = .returned (.tuple #[.agg #[.int .i64 0, .int .u64 0, .string ⟨#[]⟩, .slice none 0 0, .slice none 0 0, .slice none 0 0, .slice none 0 0], .int .i64 6]) ∧ Below w.heap.size w w' := by
  go_enter Tryd.func17, Tryd.ntmps17
  go_wp2_with (first
    | (go_at_call 23; (with_reducible refine (c1.out _).mono ?_); rintro e w' ⟨rfl, rfl⟩)
    | (go_at_call 24; (with_reducible refine (c2.out _).mono ?_); rintro e w' ⟨rfl, rfl⟩)
    | (go_at_call 24; (with_reducible refine (c3.out _).mono ?_); rintro e w' ⟨rfl, rfl⟩)
    | (go_at_call 33; (with_reducible refine (c4.out _).mono ?_); rintro e w1 ⟨rfl, hb1⟩; obtain ⟨hc1, hf1⟩ := bcell hb1; have hz1 := hb1.size; (try simp at hz1); (try have hx1 : w.heap.size + 1 < w1.heap.size := by omega); (try have hy1 : w.heap.size < w1.heap.size := by omega))
    | (go_at_call 11; (with_reducible refine (c5.out _).mono ?_); rintro e w' ⟨rfl, rfl⟩)
    | (go_at_call 35; (with_reducible refine (c8.out _).mono ?_); rintro e w' ⟨rfl, rfl⟩))
  obtain ⟨wd, hwd⟩ : ∃ wd, wd = (w1.alloc (.cells #[.int .i64 b, .int .u64 x, .string t, .slice none 0 0, .slice none 0 0, .slice none 0 0, .slice none 0 0] 28)).drew := ⟨_, rfl⟩
  have hbd : Below w1.heap.size w1 wd := by rw [hwd]; exact ((Below.refl _ _).bal _).drew
  have hzd : w1.heap.size < wd.heap.size := by rw [hwd]; simp
  have hxd : w.heap.size + 1 < wd.heap.size := by omega
  have hv0 : wd.cell? ⟨w1.heap.size, 0, none⟩ = some (.int .i64 b) := by rw [hwd]; simp [go_sem]
  have hv1 : wd.cell? ⟨w1.heap.size, 1, none⟩ = some (.int .u64 x) := by rw [hwd]; simp [go_sem]
  have hv2 : wd.cell? ⟨w1.heap.size, 2, none⟩ = some (.string t) := by rw [hwd]; simp [go_sem]
  have hv3 : wd.cell? ⟨w1.heap.size, 3, none⟩ = some (.slice none 0 0) := by rw [hwd]; simp [go_sem]
  have hv4 : wd.cell? ⟨w1.heap.size, 4, none⟩ = some (.slice none 0 0) := by rw [hwd]; simp [go_sem]
  have hv5 : wd.cell? ⟨w1.heap.size, 5, none⟩ = some (.slice none 0 0) := by rw [hwd]; simp [go_sem]
  have hv6 : wd.cell? ⟨w1.heap.size, 6, none⟩ = some (.slice none 0 0) := by rw [hwd]; simp [go_sem]
  refine region_tail 20 (by kernel_rfl) (by kernel_rfl) hwd ?_
  clear hwd
  obtain ⟨hcd, hfd⟩ := bcell hbd
  have hs1 : wd.cell? ⟨w.heap.size, 1, none⟩ = some (.int .u64 x) := by
    rw [hcd _ _ hy1, hc1 _ _ (by simp; omega)]
    simp [go_sem]
  simp only [List.take_succ_cons, List.take_zero, List.drop_succ_cons, List.drop_zero]
  repeat (with_reducible refine wpStill_step (fun K hK => ?_); go_simp; with_reducible refine hK _ ?_; clear hK K)
  (with_reducible refine wpStill_step (fun K hK => ?_); go_simp; with_reducible refine ⟨_, (c10.out _).mono fun _ _ h => ⟨h.1, h.2.symm⟩, hK _ ?_⟩; clear hK K)
  repeat (first | (with_reducible refine wpStill_step (fun K hK => ?_); go_simp; with_reducible refine hK _ ?_; clear hK K) | (with_reducible refine still_skip ?_ ?_; with_unfolding_all rfl))
  with_reducible refine wpStill_nil ?_
  go_wp2_with (first
    | (go_at_call 33; (with_reducible refine (c7.out _).mono ?_); rintro e w3 ⟨rfl, hb3⟩; obtain ⟨hc3, hf3⟩ := bcell hb3; have hz3 := hb3.size; (try simp at hz3); (try have hx3 : w.heap.size + 1 < w3.heap.size := by omega); (try have hy3 : w.heap.size < w3.heap.size := by omega)))
  refine bodyPost_ret_by (v := .tuple #[.agg #[.int .i64 0, .int .u64 0, .string ⟨#[]⟩, .slice none 0 0, .slice none 0 0, .slice none 0 0, .slice none 0 0], .int .i64 6]) ?hres rfl ?hpost
  case hres =>
    refine res7 (g := w.heap.size + 1) (t := 28) Tryd.results17 rfl rfl ?_ Tryd.underlying28 rfl (by kernel_rfl)
    apply set7
    (repeat (first | exact heap_alloc2_new w _ _ | apply block_of_below (by assumption) | apply block_of_drew | apply block_of_alloc))
  case hpost => exact ⟨rfl, by (repeat (first | (with_reducible exact Below.refl _ _) | (with_reducible refine Below.drew ?_) | (with_reducible refine Below.bal ?_ _) | (with_reducible refine Below.setCell ?_ (by simp) _) | (with_reducible refine Below.link (by assumption) ?_)))⟩
set_option maxHeartbeats 4000000 in
set_option maxRecDepth 100000 in
theorem r_Turn_n5b (f a b : Int) (k x : Int) (t : ByteArray) (p1 p2 p3 p4 : Option Addr) (n1 n2 n3 n4 q1 q2 q3 q4 : Nat) (l y G : Int) (w : World) (c1 : Hid (∀ W : World, Calls Tryd.prog 23 #[.int .i64 f] W fun e w' => e = .returned (.bool true) ∧ W = w')) (c2 : Hid (∀ W : World, Calls Tryd.prog 24 #[.int .i64 a] W fun e w' => e = .returned (.bool true) ∧ W = w')) (c3 : Hid (∀ W : World, Calls Tryd.prog 24 #[.int .i64 b] W fun e w' => e = .returned (.bool true) ∧ W = w')) (c4 : Hid (∀ W : World, Calls Tryd.prog 33 #[.int .i64 a, .agg #[.int .i64 k, .int .u64 x, .string t, .slice p1 n1 q1, .slice p2 n2 q2, .slice p3 n3 q3, .slice p4 n4 q4]] W fun e w' => e = .returned (.bool true) ∧ Below W.heap.size W w')) (c5 : Hid (∀ W : World, Calls Tryd.prog 11 #[.int .i64 f, .int .i64 a, .int .i64 b] W fun e w' => e = .returned (.int .i64 l) ∧ W = w')) (c8 : Hid (∀ W : World, Calls Tryd.prog 35 #[.int .i64 a] W fun e w' => e = .returned (.bool true) ∧ W = w')) (c10 : Hid (∀ W : World, Calls Tryd.prog 26 #[.int .i64 b] W fun e w' => e = .returned (.int .u64 G) ∧ W = w')) (c7 : Hid (∀ W : World, Calls Tryd.prog 33 #[.int .i64 b, .agg #[.int .i64 b, .int .u64 x, .string t, .slice none 0 0, .slice none 0 0, .slice none 0 0, .slice none 0 0]] W fun e w' => e = .returned (.bool false) ∧ Below W.heap.size W w')) (hk : (k != a) = false) (hl : (l == 0) = false) (h6 : (a == 6) = false) (h7 : (a == 7) = false) (h8 : (a == 8) = false) (hx0 : decide (9223372036854775808 ≤ x) = false) (hx : x ≤ G) : Calls Tryd.prog 17 #[.int .i64 f, .int .i64 a, .int .i64 b, .agg #[.int .i64 k, .int .u64 x, .string t, .slice p1 n1 q1, .slice p2 n2 q2, .slice p3 n3 q3, .slice p4 n4 q4]] w fun e w' => e = .returned (.tuple #[.agg #[.int .i64 0, .int .u64 0, .string ⟨#[]⟩, .slice none 0 0, .slice none 0 0, .slice none 0 0, .slice none 0 0], .int .i64 6]) ∧ Below w.heap.size w w' := by
  go_enter Tryd.func17, Tryd.ntmps17
  go_wp2_with (first
    | (go_at_call 23; (with_reducible refine (c1.out _).mono ?_); rintro e w' ⟨rfl, rfl⟩)
    | (go_at_call 24; (with_reducible refine (c2.out _).mono ?_); rintro e w' ⟨rfl, rfl⟩)
    | (go_at_call 24; (with_reducible refine (c3.out _).mono ?_); rintro e w' ⟨rfl, rfl⟩)
    | (go_at_call 33; (with_reducible refine (c4.out _).mono ?_); rintro e w1 ⟨rfl, hb1⟩; obtain ⟨hc1, hf1⟩ := bcell hb1; have hz1 := hb1.size; (try simp at hz1); (try have hx1 : w.heap.size + 1 < w1.heap.size := by omega); (try have hy1 : w.heap.size < w1.heap.size := by omega))
    | (go_at_call 11; (with_reducible refine (c5.out _).mono ?_); rintro e w' ⟨rfl, rfl⟩)
    | (go_at_call 35; (with_reducible refine (c8.out _).mono ?_); rintro e w' ⟨rfl, rfl⟩))
  obtain ⟨wd, hwd⟩ : ∃ wd, wd = (w1.alloc (.cells #[.int .i64 b, .int .u64 x, .string t, .slice none 0 0, .slice none 0 0, .slice none 0 0, .slice none 0 0] 28)).drew := ⟨_, rfl⟩
  have hbd : Below w1.heap.size w1 wd := by rw [hwd]; exact ((Below.refl _ _).bal _).drew
  have hzd : w1.heap.size < wd.heap.size := by rw [hwd]; simp
  have hxd : w.heap.size + 1 < wd.heap.size := by omega
  have hv0 : wd.cell? ⟨w1.heap.size, 0, none⟩ = some (.int .i64 b) := by rw [hwd]; simp [go_sem]
  have hv1 : wd.cell? ⟨w1.heap.size, 1, none⟩ = some (.int .u64 x) := by rw [hwd]; simp [go_sem]
  have hv2 : wd.cell? ⟨w1.heap.size, 2, none⟩ = some (.string t) := by rw [hwd]; simp [go_sem]
  have hv3 : wd.cell? ⟨w1.heap.size, 3, none⟩ = some (.slice none 0 0) := by rw [hwd]; simp [go_sem]
  have hv4 : wd.cell? ⟨w1.heap.size, 4, none⟩ = some (.slice none 0 0) := by rw [hwd]; simp [go_sem]
  have hv5 : wd.cell? ⟨w1.heap.size, 5, none⟩ = some (.slice none 0 0) := by rw [hwd]; simp [go_sem]
  have hv6 : wd.cell? ⟨w1.heap.size, 6, none⟩ = some (.slice none 0 0) := by rw [hwd]; simp [go_sem]
  refine region_tail 20 (by kernel_rfl) (by kernel_rfl) hwd ?_
  clear hwd
  obtain ⟨hcd, hfd⟩ := bcell hbd
  have hs1 : wd.cell? ⟨w.heap.size, 1, none⟩ = some (.int .u64 x) := by
    rw [hcd _ _ hy1, hc1 _ _ (by simp; omega)]
    simp [go_sem]
  simp only [List.take_succ_cons, List.take_zero, List.drop_succ_cons, List.drop_zero]
  repeat (with_reducible refine wpStill_step (fun K hK => ?_); go_simp; with_reducible refine hK _ ?_; clear hK K)
  (with_reducible refine wpStill_step (fun K hK => ?_); go_simp; with_reducible refine ⟨_, (c10.out _).mono fun _ _ h => ⟨h.1, h.2.symm⟩, hK _ ?_⟩; clear hK K)
  repeat (first | (with_reducible refine wpStill_step (fun K hK => ?_); go_simp; with_reducible refine hK _ ?_; clear hK K) | (with_reducible refine still_skip ?_ ?_; with_unfolding_all rfl))
  with_reducible refine wpStill_nil ?_
  go_wp2_with (first
    | (go_at_call 33; (with_reducible refine (c7.out _).mono ?_); rintro e w3 ⟨rfl, hb3⟩; obtain ⟨hc3, hf3⟩ := bcell hb3; have hz3 := hb3.size; (try simp at hz3); (try have hx3 : w.heap.size + 1 < w3.heap.size := by omega); (try have hy3 : w.heap.size < w3.heap.size := by omega)))
  refine bodyPost_ret_by (v := .tuple #[.agg #[.int .i64 0, .int .u64 0, .string ⟨#[]⟩, .slice none 0 0, .slice none 0 0, .slice none 0 0, .slice none 0 0], .int .i64 6]) ?hres rfl ?hpost
  case hres =>
    refine res7 (g := w.heap.size + 1) (t := 28) Tryd.results17 rfl rfl ?_ Tryd.underlying28 rfl (by kernel_rfl)
    apply set7
    (repeat (first | exact heap_alloc2_new w _ _ | apply block_of_below (by assumption) | apply block_of_drew | apply block_of_alloc))
  case hpost => exact ⟨rfl, by (repeat (first | (with_reducible exact Below.refl _ _) | (with_reducible refine Below.drew ?_) | (with_reducible refine Below.bal ?_ _) | (with_reducible refine Below.setCell ?_ (by simp) _) | (with_reducible refine Below.link (by assumption) ?_)))⟩
set_option maxHeartbeats 4000000 in
set_option maxRecDepth 100000 in
theorem r_Turn_n6a (f a b : Int) (k x : Int) (t : ByteArray) (p1 p2 p3 p4 : Option Addr) (n1 n2 n3 n4 q1 q2 q3 q4 : Nat) (l y G : Int) (w : World) (c1 : Hid (∀ W : World, Calls Tryd.prog 23 #[.int .i64 f] W fun e w' => e = .returned (.bool true) ∧ W = w')) (c2 : Hid (∀ W : World, Calls Tryd.prog 24 #[.int .i64 a] W fun e w' => e = .returned (.bool true) ∧ W = w')) (c3 : Hid (∀ W : World, Calls Tryd.prog 24 #[.int .i64 b] W fun e w' => e = .returned (.bool true) ∧ W = w')) (c4 : Hid (∀ W : World, Calls Tryd.prog 33 #[.int .i64 a, .agg #[.int .i64 k, .int .u64 x, .string t, .slice p1 n1 q1, .slice p2 n2 q2, .slice p3 n3 q3, .slice p4 n4 q4]] W fun e w' => e = .returned (.bool true) ∧ Below W.heap.size W w')) (c5 : Hid (∀ W : World, Calls Tryd.prog 11 #[.int .i64 f, .int .i64 a, .int .i64 b] W fun e w' => e = .returned (.int .i64 l) ∧ W = w')) (c8 : Hid (∀ W : World, Calls Tryd.prog 35 #[.int .i64 a] W fun e w' => e = .returned (.bool false) ∧ W = w')) (c10 : Hid (∀ W : World, Calls Tryd.prog 26 #[.int .i64 b] W fun e w' => e = .returned (.int .u64 G) ∧ W = w')) (c7 : Hid (∀ W : World, Calls Tryd.prog 33 #[.int .i64 b, .agg #[.int .i64 b, .int .u64 x, .string t, .slice none 0 0, .slice none 0 0, .slice none 0 0, .slice none 0 0]] W fun e w' => e = .returned (.bool true) ∧ Below W.heap.size W w')) (hk : (k != a) = false) (hl : (l == 0) = false) (h6 : (a == 6) = false) (h7 : (a == 7) = false) (h8 : (a == 8) = false) (hx : x ≤ G) : Calls Tryd.prog 17 #[.int .i64 f, .int .i64 a, .int .i64 b, .agg #[.int .i64 k, .int .u64 x, .string t, .slice p1 n1 q1, .slice p2 n2 q2, .slice p3 n3 q3, .slice p4 n4 q4]] w fun e w' => e = .returned (.tuple #[.agg #[.int .i64 b, .int .u64 x, .string t, .slice none 0 0, .slice none 0 0, .slice none 0 0, .slice none 0 0], .int .i64 0]) ∧ Below w.heap.size w w' := by
  go_enter Tryd.func17, Tryd.ntmps17
  go_wp2_with (first
    | (go_at_call 23; (with_reducible refine (c1.out _).mono ?_); rintro e w' ⟨rfl, rfl⟩)
    | (go_at_call 24; (with_reducible refine (c2.out _).mono ?_); rintro e w' ⟨rfl, rfl⟩)
    | (go_at_call 24; (with_reducible refine (c3.out _).mono ?_); rintro e w' ⟨rfl, rfl⟩)
    | (go_at_call 33; (with_reducible refine (c4.out _).mono ?_); rintro e w1 ⟨rfl, hb1⟩; obtain ⟨hc1, hf1⟩ := bcell hb1; have hz1 := hb1.size; (try simp at hz1); (try have hx1 : w.heap.size + 1 < w1.heap.size := by omega); (try have hy1 : w.heap.size < w1.heap.size := by omega))
    | (go_at_call 11; (with_reducible refine (c5.out _).mono ?_); rintro e w' ⟨rfl, rfl⟩)
    | (go_at_call 35; (with_reducible refine (c8.out _).mono ?_); rintro e w' ⟨rfl, rfl⟩))
  obtain ⟨wd, hwd⟩ : ∃ wd, wd = (w1.alloc (.cells #[.int .i64 b, .int .u64 x, .string t, .slice none 0 0, .slice none 0 0, .slice none 0 0, .slice none 0 0] 28)).drew := ⟨_, rfl⟩
  have hbd : Below w1.heap.size w1 wd := by rw [hwd]; exact ((Below.refl _ _).bal _).drew
  have hzd : w1.heap.size < wd.heap.size := by rw [hwd]; simp
  have hxd : w.heap.size + 1 < wd.heap.size := by omega
  have hv0 : wd.cell? ⟨w1.heap.size, 0, none⟩ = some (.int .i64 b) := by rw [hwd]; simp [go_sem]
  have hv1 : wd.cell? ⟨w1.heap.size, 1, none⟩ = some (.int .u64 x) := by rw [hwd]; simp [go_sem]
  have hv2 : wd.cell? ⟨w1.heap.size, 2, none⟩ = some (.string t) := by rw [hwd]; simp [go_sem]
  have hv3 : wd.cell? ⟨w1.heap.size, 3, none⟩ = some (.slice none 0 0) := by rw [hwd]; simp [go_sem]
  have hv4 : wd.cell? ⟨w1.heap.size, 4, none⟩ = some (.slice none 0 0) := by rw [hwd]; simp [go_sem]
  have hv5 : wd.cell? ⟨w1.heap.size, 5, none⟩ = some (.slice none 0 0) := by rw [hwd]; simp [go_sem]
  have hv6 : wd.cell? ⟨w1.heap.size, 6, none⟩ = some (.slice none 0 0) := by rw [hwd]; simp [go_sem]
  refine region_tail 20 (by kernel_rfl) (by kernel_rfl) hwd ?_
  clear hwd
  obtain ⟨hcd, hfd⟩ := bcell hbd
  have hs1 : wd.cell? ⟨w.heap.size, 1, none⟩ = some (.int .u64 x) := by
    rw [hcd _ _ hy1, hc1 _ _ (by simp; omega)]
    simp [go_sem]
  simp only [List.take_succ_cons, List.take_zero, List.drop_succ_cons, List.drop_zero]
  repeat (with_reducible refine wpStill_step (fun K hK => ?_); go_simp; with_reducible refine hK _ ?_; clear hK K)
  (with_reducible refine wpStill_step (fun K hK => ?_); go_simp; with_reducible refine ⟨_, (c10.out _).mono fun _ _ h => ⟨h.1, h.2.symm⟩, hK _ ?_⟩; clear hK K)
  repeat (first | (with_reducible refine wpStill_step (fun K hK => ?_); go_simp; with_reducible refine hK _ ?_; clear hK K) | (with_reducible refine still_skip ?_ ?_; with_unfolding_all rfl))
  with_reducible refine wpStill_nil ?_
  go_wp2_with (first
    | (go_at_call 33; (with_reducible refine (c7.out _).mono ?_); rintro e w3 ⟨rfl, hb3⟩; obtain ⟨hc3, hf3⟩ := bcell hb3; have hz3 := hb3.size; (try simp at hz3); (try have hx3 : w.heap.size + 1 < w3.heap.size := by omega); (try have hy3 : w.heap.size < w3.heap.size := by omega)))
  refine bodyPost_ret_by (v := .tuple #[.agg #[.int .i64 b, .int .u64 x, .string t, .slice none 0 0, .slice none 0 0, .slice none 0 0, .slice none 0 0], .int .i64 0]) ?hres rfl ?hpost
  case hres =>
    refine res7 (g := w.heap.size + 1) (t := 28) Tryd.results17 rfl rfl ?_ Tryd.underlying28 rfl (by kernel_rfl)
    apply set7
    (repeat (first | exact heap_alloc2_new w _ _ | apply block_of_below (by assumption) | apply block_of_drew | apply block_of_alloc))
  case hpost => exact ⟨rfl, by (repeat (first | (with_reducible exact Below.refl _ _) | (with_reducible refine Below.drew ?_) | (with_reducible refine Below.bal ?_ _) | (with_reducible refine Below.setCell ?_ (by simp) _) | (with_reducible refine Below.link (by assumption) ?_)))⟩
set_option maxHeartbeats 4000000 in
set_option maxRecDepth 100000 in
theorem r_Turn_n6b (f a b : Int) (k x : Int) (t : ByteArray) (p1 p2 p3 p4 : Option Addr) (n1 n2 n3 n4 q1 q2 q3 q4 : Nat) (l y G : Int) (w : World) (c1 : Hid (∀ W : World, Calls Tryd.prog 23 #[.int .i64 f] W fun e w' => e = .returned (.bool true) ∧ W = w')) (c2 : Hid (∀ W : World, Calls Tryd.prog 24 #[.int .i64 a] W fun e w' => e = .returned (.bool true) ∧ W = w')) (c3 : Hid (∀ W : World, Calls Tryd.prog 24 #[.int .i64 b] W fun e w' => e = .returned (.bool true) ∧ W = w')) (c4 : Hid (∀ W : World, Calls Tryd.prog 33 #[.int .i64 a, .agg #[.int .i64 k, .int .u64 x, .string t, .slice p1 n1 q1, .slice p2 n2 q2, .slice p3 n3 q3, .slice p4 n4 q4]] W fun e w' => e = .returned (.bool true) ∧ Below W.heap.size W w')) (c5 : Hid (∀ W : World, Calls Tryd.prog 11 #[.int .i64 f, .int .i64 a, .int .i64 b] W fun e w' => e = .returned (.int .i64 l) ∧ W = w')) (c8 : Hid (∀ W : World, Calls Tryd.prog 35 #[.int .i64 a] W fun e w' => e = .returned (.bool true) ∧ W = w')) (c10 : Hid (∀ W : World, Calls Tryd.prog 26 #[.int .i64 b] W fun e w' => e = .returned (.int .u64 G) ∧ W = w')) (c7 : Hid (∀ W : World, Calls Tryd.prog 33 #[.int .i64 b, .agg #[.int .i64 b, .int .u64 x, .string t, .slice none 0 0, .slice none 0 0, .slice none 0 0, .slice none 0 0]] W fun e w' => e = .returned (.bool true) ∧ Below W.heap.size W w')) (hk : (k != a) = false) (hl : (l == 0) = false) (h6 : (a == 6) = false) (h7 : (a == 7) = false) (h8 : (a == 8) = false) (hx0 : decide (9223372036854775808 ≤ x) = false) (hx : x ≤ G) : Calls Tryd.prog 17 #[.int .i64 f, .int .i64 a, .int .i64 b, .agg #[.int .i64 k, .int .u64 x, .string t, .slice p1 n1 q1, .slice p2 n2 q2, .slice p3 n3 q3, .slice p4 n4 q4]] w fun e w' => e = .returned (.tuple #[.agg #[.int .i64 b, .int .u64 x, .string t, .slice none 0 0, .slice none 0 0, .slice none 0 0, .slice none 0 0], .int .i64 0]) ∧ Below w.heap.size w w' := by
  go_enter Tryd.func17, Tryd.ntmps17
  go_wp2_with (first
    | (go_at_call 23; (with_reducible refine (c1.out _).mono ?_); rintro e w' ⟨rfl, rfl⟩)
    | (go_at_call 24; (with_reducible refine (c2.out _).mono ?_); rintro e w' ⟨rfl, rfl⟩)
    | (go_at_call 24; (with_reducible refine (c3.out _).mono ?_); rintro e w' ⟨rfl, rfl⟩)
    | (go_at_call 33; (with_reducible refine (c4.out _).mono ?_); rintro e w1 ⟨rfl, hb1⟩; obtain ⟨hc1, hf1⟩ := bcell hb1; have hz1 := hb1.size; (try simp at hz1); (try have hx1 : w.heap.size + 1 < w1.heap.size := by omega); (try have hy1 : w.heap.size < w1.heap.size := by omega))
    | (go_at_call 11; (with_reducible refine (c5.out _).mono ?_); rintro e w' ⟨rfl, rfl⟩)
    | (go_at_call 35; (with_reducible refine (c8.out _).mono ?_); rintro e w' ⟨rfl, rfl⟩))
  obtain ⟨wd, hwd⟩ : ∃ wd, wd = (w1.alloc (.cells #[.int .i64 b, .int .u64 x, .string t, .slice none 0 0, .slice none 0 0, .slice none 0 0, .slice none 0 0] 28)).drew := ⟨_, rfl⟩
  have hbd : Below w1.heap.size w1 wd := by rw [hwd]; exact ((Below.refl _ _).bal _).drew
  have hzd : w1.heap.size < wd.heap.size := by rw [hwd]; simp
  have hxd : w.heap.size + 1 < wd.heap.size := by omega
  have hv0 : wd.cell? ⟨w1.heap.size, 0, none⟩ = some (.int .i64 b) := by rw [hwd]; simp [go_sem]
  have hv1 : wd.cell? ⟨w1.heap.size, 1, none⟩ = some (.int .u64 x) := by rw [hwd]; simp [go_sem]
  have hv2 : wd.cell? ⟨w1.heap.size, 2, none⟩ = some (.string t) := by rw [hwd]; simp [go_sem]
  have hv3 : wd.cell? ⟨w1.heap.size, 3, none⟩ = some (.slice none 0 0) := by rw [hwd]; simp [go_sem]
  have hv4 : wd.cell? ⟨w1.heap.size, 4, none⟩ = some (.slice none 0 0) := by rw [hwd]; simp [go_sem]
  have hv5 : wd.cell? ⟨w1.heap.size, 5, none⟩ = some (.slice none 0 0) := by rw [hwd]; simp [go_sem]
  have hv6 : wd.cell? ⟨w1.heap.size, 6, none⟩ = some (.slice none 0 0) := by rw [hwd]; simp [go_sem]
  refine region_tail 20 (by kernel_rfl) (by kernel_rfl) hwd ?_
  clear hwd
  obtain ⟨hcd, hfd⟩ := bcell hbd
  have hs1 : wd.cell? ⟨w.heap.size, 1, none⟩ = some (.int .u64 x) := by
    rw [hcd _ _ hy1, hc1 _ _ (by simp; omega)]
    simp [go_sem]
  simp only [List.take_succ_cons, List.take_zero, List.drop_succ_cons, List.drop_zero]
  repeat (with_reducible refine wpStill_step (fun K hK => ?_); go_simp; with_reducible refine hK _ ?_; clear hK K)
  (with_reducible refine wpStill_step (fun K hK => ?_); go_simp; with_reducible refine ⟨_, (c10.out _).mono fun _ _ h => ⟨h.1, h.2.symm⟩, hK _ ?_⟩; clear hK K)
  repeat (first | (with_reducible refine wpStill_step (fun K hK => ?_); go_simp; with_reducible refine hK _ ?_; clear hK K) | (with_reducible refine still_skip ?_ ?_; with_unfolding_all rfl))
  with_reducible refine wpStill_nil ?_
  go_wp2_with (first
    | (go_at_call 33; (with_reducible refine (c7.out _).mono ?_); rintro e w3 ⟨rfl, hb3⟩; obtain ⟨hc3, hf3⟩ := bcell hb3; have hz3 := hb3.size; (try simp at hz3); (try have hx3 : w.heap.size + 1 < w3.heap.size := by omega); (try have hy3 : w.heap.size < w3.heap.size := by omega)))
  refine bodyPost_ret_by (v := .tuple #[.agg #[.int .i64 b, .int .u64 x, .string t, .slice none 0 0, .slice none 0 0, .slice none 0 0, .slice none 0 0], .int .i64 0]) ?hres rfl ?hpost
  case hres =>
    refine res7 (g := w.heap.size + 1) (t := 28) Tryd.results17 rfl rfl ?_ Tryd.underlying28 rfl (by kernel_rfl)
    apply set7
    (repeat (first | exact heap_alloc2_new w _ _ | apply block_of_below (by assumption) | apply block_of_drew | apply block_of_alloc))
  case hpost => exact ⟨rfl, by (repeat (first | (with_reducible exact Below.refl _ _) | (with_reducible refine Below.drew ?_) | (with_reducible refine Below.bal ?_ _) | (with_reducible refine Below.setCell ?_ (by simp) _) | (with_reducible refine Below.link (by assumption) ?_)))⟩
end Go.Proofs.YtgbppjckehjifaaDoor
