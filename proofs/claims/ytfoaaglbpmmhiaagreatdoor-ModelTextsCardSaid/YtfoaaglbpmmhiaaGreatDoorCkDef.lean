/- Layer 12 walked: defaulted. Printed by gendef.py. -/
import Derived.Test.YtfoaaglbpmmhiaaGreatDoorKitC
import Derived.Test.YtfoaaglbpmmhiaaGreatDoorKitA
import Derived.Test.YtfoaaglbpmmhiaaGreatDoorPrProg1
import Derived.Deep.RegionHeld3
import Derived.Deep.DeepCutAuto
namespace Go.Proofs.YtfoaaglbpmmhiaaGreatDoor
open Go.RowKit Ck
set_option linter.unusedVariables false
set_option linter.unusedSimpArgs false

theorem val_field (k y : Int) (t : ByteArray) (p1 p2 p3 p4 : Option Addr) (n1 n2 n3 n4 q1 q2 q3 q4 : Nat) (w : World) : (Instr.field 61 (.agg #[.int .i64 k, .int .u64 y, .string t, .slice p1 n1 q1, .slice p2 n2 q2, .slice p3 n3 q3, .slice p4 n4 q4]) 1).run Tryz.prog w = .ok (.int .u64 y) w := by kernel_rfl
set_option maxHeartbeats 4000000 in
set_option maxRecDepth 100000 in
theorem df_Z (sq1 sq2 sq3 : Option Addr) (sm1 sm2 sm3 sc1 sc2 sc3 : Nat) (fu : Int) (fn : Str) (fca fke ftk : Int) (ftn fun0 : Str) (fvk fvx : Int) (fvt : Str) (fr1 fr2 fr3 fr4 fr5 : Option Addr) (fm1 fd1 fm2 fd2 fm3 fd3 fm4 fd4 fm5 fd5 : Nat) (w : World) (R : Bool) (hR : zeroV ⟨fvk, fvx, fvt, fm1, fm2, fm3, fm4⟩ = R) (x0 : 0 ≤ fvx) (x1 : fvx < 18446744073709551616) (b1 : fm1 ≤ 140737488355328) (b2 : fm2 ≤ 140737488355328) (b3 : fm3 ≤ 140737488355328) (b4 : fm4 ≤ 140737488355328) :
    Calls Tryz.prog 161 #[.agg #[.slice sq1 sm1 sc1, .slice sq2 sm2 sc2, .slice sq3 sm3 sc3], .agg #[.int .i64 fu, .string (S fn), .int .i64 fca, .int .i64 fke, .int .i64 ftk, .string (S ftn), .string (S fun0), .bool false, .int .i64 fvk, .int .u64 fvx, .string (S fvt), .slice fr1 fm1 fd1, .slice fr2 fm2 fd2, .slice fr3 fm3 fd3, .slice fr4 fm4 fd4, .slice fr5 fm5 fd5]] w fun e w' => e = .returned (.bool R) ∧ Below w.heap.size w w' := by
  have cz := fun W => ck_zero fvk fvx fvt fr1 fr2 fr3 fr4 fm1 fm2 fm3 fm4 fd1 fd2 fd3 fd4 W b1 b2 b3 b4
  rw [hR] at cz
  have CZ := Lib.hid cz
  clear cz hR
  go_enter Tryz.func161, Tryz.ntmps161
  go_wp2_with (go_at_call 194; (with_reducible refine (CZ.out _).mono ?_); rintro e w1 ⟨rfl, g1⟩; have k1 : Bel w w1 := Bel.of (by (repeat (first | (with_reducible assumption) | (with_reducible exact Bel.refl _) | (with_reducible refine Bel.drew ?_) | (with_reducible refine Bel.drewN ?_ _) | (with_reducible refine Bel.alloc ?_ _) | ((with_reducible refine bel_set ?_ ?hge); (case hge => (first | omega | (simp; omega))))))) g1; clear g1)
  go_ret
  exact ⟨rfl, k1.out⟩
set_option maxHeartbeats 4000000 in
set_option maxRecDepth 100000 in
theorem df_B (sq1 sq2 sq3 : Option Addr) (sm1 sm2 sm3 sc1 sc2 sc3 : Nat) (fu : Int) (fn : Str) (fca fke ftk : Int) (ftn fun0 : Str) (fvk fvx : Int) (fvt : Str) (fr1 fr2 fr3 fr4 fr5 : Option Addr) (fm1 fd1 fm2 fd2 fm3 fd3 fm4 fd4 fm5 fd5 : Nat) (w : World) (R : Bool) (hc : fca ≠ 2) (hR : R = false) :
    Calls Tryz.prog 161 #[.agg #[.slice sq1 sm1 sc1, .slice sq2 sm2 sc2, .slice sq3 sm3 sc3], .agg #[.int .i64 fu, .string (S fn), .int .i64 fca, .int .i64 fke, .int .i64 ftk, .string (S ftn), .string (S fun0), .bool true, .int .i64 fvk, .int .u64 fvx, .string (S fvt), .slice fr1 fm1 fd1, .slice fr2 fm2 fd2, .slice fr3 fm3 fd3, .slice fr4 fm4 fd4, .slice fr5 fm5 fd5]] w fun e w' => e = .returned (.bool R) ∧ Below w.heap.size w w' := by
  obtain ⟨Wb, hWb⟩ : ∃ Wb, Wb = (w.alloc (.cells #[.slice sq1 sm1 sc1, .slice sq2 sm2 sc2, .slice sq3 sm3 sc3] 26)).alloc (.cells #[.int .i64 fu, .string (S fn), .int .i64 fca, .int .i64 fke, .int .i64 ftk, .string (S ftn), .string (S fun0), .bool true, .int .i64 fvk, .int .u64 fvx, .string (S fvt), .slice fr1 fm1 fd1, .slice fr2 fm2 fd2, .slice fr3 fm3 fd3, .slice fr4 fm4 fd4, .slice fr5 fm5 fd5] 63) := ⟨_, rfl⟩
  have kb : Bel w Wb := by rw [hWb]; exact ((Bel.refl w).alloc _).alloc _
  have hKS : ∀ w', Bel Wb w' → w'.cell? ⟨w.heap.size, 0, none⟩ = some (.slice sq1 sm1 sc1) ∧ w'.cell? ⟨w.heap.size, 1, none⟩ = some (.slice sq2 sm2 sc2) ∧ w'.cell? ⟨w.heap.size, 2, none⟩ = some (.slice sq3 sm3 sc3) ∧ w'.cell? ⟨w.heap.size + 1, 0, none⟩ = some (.int .i64 fu) ∧ w'.cell? ⟨w.heap.size + 1, 1, none⟩ = some (.string (S fn)) ∧ w'.cell? ⟨w.heap.size + 1, 2, none⟩ = some (.int .i64 fca) ∧ w'.cell? ⟨w.heap.size + 1, 3, none⟩ = some (.int .i64 fke) ∧ w'.cell? ⟨w.heap.size + 1, 4, none⟩ = some (.int .i64 ftk) ∧ w'.cell? ⟨w.heap.size + 1, 5, none⟩ = some (.string (S ftn)) ∧ w'.cell? ⟨w.heap.size + 1, 6, none⟩ = some (.string (S fun0)) ∧ w'.cell? ⟨w.heap.size + 1, 7, none⟩ = some (.bool true) ∧ w'.cell? ⟨w.heap.size + 1, 8, none⟩ = some (.int .i64 fvk) ∧ w'.cell? ⟨w.heap.size + 1, 9, none⟩ = some (.int .u64 fvx) ∧ w'.cell? ⟨w.heap.size + 1, 10, none⟩ = some (.string (S fvt)) ∧ w'.cell? ⟨w.heap.size + 1, 11, none⟩ = some (.slice fr1 fm1 fd1) ∧ w'.cell? ⟨w.heap.size + 1, 12, none⟩ = some (.slice fr2 fm2 fd2) ∧ w'.cell? ⟨w.heap.size + 1, 13, none⟩ = some (.slice fr3 fm3 fd3) ∧ w'.cell? ⟨w.heap.size + 1, 14, none⟩ = some (.slice fr4 fm4 fd4) ∧ w'.cell? ⟨w.heap.size + 1, 15, none⟩ = some (.slice fr5 fm5 fd5) := fun w' k => by
    refine ⟨k.some ?_, k.some ?_, k.some ?_, k.some ?_, k.some ?_, k.some ?_, k.some ?_, k.some ?_, k.some ?_, k.some ?_, k.some ?_, k.some ?_, k.some ?_, k.some ?_, k.some ?_, k.some ?_, k.some ?_, k.some ?_, k.some ?_⟩
    all_goals first
      | (rw [hWb, World.cell?_alloc_at _ _ _ _ (by simp)]; rfl)
      | (rw [hWb, World.cell?_alloc_past _ _ _ (by simp), World.cell?_alloc_at _ _ _ _ rfl]; rfl)
  have KS := Lib.hid hKS
  have HW := Lib.hid hWb
  clear hKS hWb
  have hb := bne_t hc
  clear hc
  subst hR
  go_enter Tryz.func161, Tryz.ntmps161
  go_upto_region 3 with (fail)
  obtain ⟨wd, hwd⟩ : ∃ wd, wd = ((w.alloc (.cells #[.slice sq1 sm1 sc1, .slice sq2 sm2 sc2, .slice sq3 sm3 sc3] 26)).alloc (.cells #[.int .i64 fu, .string (S fn), .int .i64 fca, .int .i64 fke, .int .i64 ftk, .string (S ftn), .string (S fun0), .bool true, .int .i64 fvk, .int .u64 fvx, .string (S fvt), .slice fr1 fm1 fd1, .slice fr2 fm2 fd2, .slice fr3 fm3 fd3, .slice fr4 fm4 fd4, .slice fr5 fm5 fd5] 63)).drew := ⟨_, rfl⟩
  have kd : Bel Wb wd := by rw [hwd, ← HW.out]; exact (Bel.refl _).drew
  have HWD := Lib.hid hwd
  clear hwd
  obtain ⟨s0, s1, s2, s3, s4, s5, s6, s7, s8, s9, s10, s11, s12, s13, s14, s15, s16, s17, s18⟩ := KS.out _ kd
  refine rg_tail 26 (by kernel_rfl) (by kernel_rfl) HWD.out ?_
  (simp only [List.take_succ_cons, List.take_zero, List.drop_succ_cons, List.drop_zero]); (repeat (first | ((with_reducible refine wpStill_step (fun K hK => ?_)); go_simp; (with_reducible refine hK _ ?_); clear hK K) | ((with_reducible refine rg_skip ?_ ?_); (with_unfolding_all rfl)))); (with_reducible refine wpStill_nil ?_)
  go_wp2
  go_ret
  exact ⟨rfl, Bel.out (Bel.of kb kd)⟩
set_option maxHeartbeats 4000000 in
set_option maxRecDepth 100000 in
theorem df_C (sq1 sq2 sq3 : Option Addr) (sm1 sm2 sm3 sc1 sc2 sc3 : Nat) (fu : Int) (fn : Str) (fke ftk : Int) (ftn fun0 : Str) (fvk fvx : Int) (fvt : Str) (fr1 fr2 fr3 fr4 fr5 : Option Addr) (fm1 fd1 fm2 fd2 fm3 fd3 fm4 fd4 fm5 fd5 : Nat) (w : World) (R : Bool) (hu : fun0 ≠ []) (hR : R = false) :
    Calls Tryz.prog 161 #[.agg #[.slice sq1 sm1 sc1, .slice sq2 sm2 sc2, .slice sq3 sm3 sc3], .agg #[.int .i64 fu, .string (S fn), .int .i64 2, .int .i64 fke, .int .i64 ftk, .string (S ftn), .string (S fun0), .bool true, .int .i64 fvk, .int .u64 fvx, .string (S fvt), .slice fr1 fm1 fd1, .slice fr2 fm2 fd2, .slice fr3 fm3 fd3, .slice fr4 fm4 fd4, .slice fr5 fm5 fd5]] w fun e w' => e = .returned (.bool R) ∧ Below w.heap.size w w' := by
  obtain ⟨Wb, hWb⟩ : ∃ Wb, Wb = (w.alloc (.cells #[.slice sq1 sm1 sc1, .slice sq2 sm2 sc2, .slice sq3 sm3 sc3] 26)).alloc (.cells #[.int .i64 fu, .string (S fn), .int .i64 2, .int .i64 fke, .int .i64 ftk, .string (S ftn), .string (S fun0), .bool true, .int .i64 fvk, .int .u64 fvx, .string (S fvt), .slice fr1 fm1 fd1, .slice fr2 fm2 fd2, .slice fr3 fm3 fd3, .slice fr4 fm4 fd4, .slice fr5 fm5 fd5] 63) := ⟨_, rfl⟩
  have kb : Bel w Wb := by rw [hWb]; exact ((Bel.refl w).alloc _).alloc _
  have hKS : ∀ w', Bel Wb w' → w'.cell? ⟨w.heap.size, 0, none⟩ = some (.slice sq1 sm1 sc1) ∧ w'.cell? ⟨w.heap.size, 1, none⟩ = some (.slice sq2 sm2 sc2) ∧ w'.cell? ⟨w.heap.size, 2, none⟩ = some (.slice sq3 sm3 sc3) ∧ w'.cell? ⟨w.heap.size + 1, 0, none⟩ = some (.int .i64 fu) ∧ w'.cell? ⟨w.heap.size + 1, 1, none⟩ = some (.string (S fn)) ∧ w'.cell? ⟨w.heap.size + 1, 2, none⟩ = some (.int .i64 2) ∧ w'.cell? ⟨w.heap.size + 1, 3, none⟩ = some (.int .i64 fke) ∧ w'.cell? ⟨w.heap.size + 1, 4, none⟩ = some (.int .i64 ftk) ∧ w'.cell? ⟨w.heap.size + 1, 5, none⟩ = some (.string (S ftn)) ∧ w'.cell? ⟨w.heap.size + 1, 6, none⟩ = some (.string (S fun0)) ∧ w'.cell? ⟨w.heap.size + 1, 7, none⟩ = some (.bool true) ∧ w'.cell? ⟨w.heap.size + 1, 8, none⟩ = some (.int .i64 fvk) ∧ w'.cell? ⟨w.heap.size + 1, 9, none⟩ = some (.int .u64 fvx) ∧ w'.cell? ⟨w.heap.size + 1, 10, none⟩ = some (.string (S fvt)) ∧ w'.cell? ⟨w.heap.size + 1, 11, none⟩ = some (.slice fr1 fm1 fd1) ∧ w'.cell? ⟨w.heap.size + 1, 12, none⟩ = some (.slice fr2 fm2 fd2) ∧ w'.cell? ⟨w.heap.size + 1, 13, none⟩ = some (.slice fr3 fm3 fd3) ∧ w'.cell? ⟨w.heap.size + 1, 14, none⟩ = some (.slice fr4 fm4 fd4) ∧ w'.cell? ⟨w.heap.size + 1, 15, none⟩ = some (.slice fr5 fm5 fd5) := fun w' k => by
    refine ⟨k.some ?_, k.some ?_, k.some ?_, k.some ?_, k.some ?_, k.some ?_, k.some ?_, k.some ?_, k.some ?_, k.some ?_, k.some ?_, k.some ?_, k.some ?_, k.some ?_, k.some ?_, k.some ?_, k.some ?_, k.some ?_, k.some ?_⟩
    all_goals first
      | (rw [hWb, World.cell?_alloc_at _ _ _ _ (by simp)]; rfl)
      | (rw [hWb, World.cell?_alloc_past _ _ _ (by simp), World.cell?_alloc_at _ _ _ _ rfl]; rfl)
  have KS := Lib.hid hKS
  have HW := Lib.hid hWb
  clear hKS hWb
  have he := nonempty_S fun0 hu
  have he2 := nonempty_S' fun0 hu
  clear hu
  subst hR
  go_enter Tryz.func161, Tryz.ntmps161
  go_upto_region 3 with (fail)
  obtain ⟨wd, hwd⟩ : ∃ wd, wd = ((w.alloc (.cells #[.slice sq1 sm1 sc1, .slice sq2 sm2 sc2, .slice sq3 sm3 sc3] 26)).alloc (.cells #[.int .i64 fu, .string (S fn), .int .i64 2, .int .i64 fke, .int .i64 ftk, .string (S ftn), .string (S fun0), .bool true, .int .i64 fvk, .int .u64 fvx, .string (S fvt), .slice fr1 fm1 fd1, .slice fr2 fm2 fd2, .slice fr3 fm3 fd3, .slice fr4 fm4 fd4, .slice fr5 fm5 fd5] 63)).drew := ⟨_, rfl⟩
  have kd : Bel Wb wd := by rw [hwd, ← HW.out]; exact (Bel.refl _).drew
  have HWD := Lib.hid hwd
  clear hwd
  obtain ⟨s0, s1, s2, s3, s4, s5, s6, s7, s8, s9, s10, s11, s12, s13, s14, s15, s16, s17, s18⟩ := KS.out _ kd
  refine rg_tail 26 (by kernel_rfl) (by kernel_rfl) HWD.out ?_
  (simp only [List.take_succ_cons, List.take_zero, List.drop_succ_cons, List.drop_zero]); (repeat (first | ((with_reducible refine wpStill_step (fun K hK => ?_)); go_simp; (with_reducible refine hK _ ?_); clear hK K) | ((with_reducible refine rg_skip ?_ ?_); (with_unfolding_all rfl)))); (with_reducible refine wpStill_nil ?_)
  go_wp2
  go_ret
  exact ⟨rfl, Bel.out (Bel.of kb kd)⟩
set_option maxHeartbeats 4000000 in
set_option maxRecDepth 100000 in
theorem df_D (sq1 sq2 sq3 : Option Addr) (sm1 sm2 sm3 sc1 sc2 sc3 : Nat) (fu : Int) (fn : Str) (fke ftk : Int) (ftn : Str) (fvk fvx : Int) (fvt : Str) (fr1 fr2 fr3 fr4 fr5 : Option Addr) (fm1 fd1 fm2 fd2 fm3 fd3 fm4 fd4 fm5 fd5 : Nat) (w : World) (R : Bool) (hfit : Pr.fitsB ftk fvk fvx fvt (fm1 + fm2 + fm3 + fm4) = false) (hR : R = false) (x0 : 0 ≤ fvx) (x1 : fvx < 18446744073709551616) (b1 : fm1 ≤ 140737488355328) (b2 : fm2 ≤ 140737488355328) (b3 : fm3 ≤ 140737488355328) (b4 : fm4 ≤ 140737488355328) :
    Calls Tryz.prog 161 #[.agg #[.slice sq1 sm1 sc1, .slice sq2 sm2 sc2, .slice sq3 sm3 sc3], .agg #[.int .i64 fu, .string (S fn), .int .i64 2, .int .i64 fke, .int .i64 ftk, .string (S ftn), .string (S []), .bool true, .int .i64 fvk, .int .u64 fvx, .string (S fvt), .slice fr1 fm1 fd1, .slice fr2 fm2 fd2, .slice fr3 fm3 fd3, .slice fr4 fm4 fd4, .slice fr5 fm5 fd5]] w fun e w' => e = .returned (.bool R) ∧ Below w.heap.size w w' := by
  subst hR
  obtain ⟨Wb, hWb⟩ : ∃ Wb, Wb = (w.alloc (.cells #[.slice sq1 sm1 sc1, .slice sq2 sm2 sc2, .slice sq3 sm3 sc3] 26)).alloc (.cells #[.int .i64 fu, .string (S fn), .int .i64 2, .int .i64 fke, .int .i64 ftk, .string (S ftn), .string (S []), .bool true, .int .i64 fvk, .int .u64 fvx, .string (S fvt), .slice fr1 fm1 fd1, .slice fr2 fm2 fd2, .slice fr3 fm3 fd3, .slice fr4 fm4 fd4, .slice fr5 fm5 fd5] 63) := ⟨_, rfl⟩
  have kb : Bel w Wb := by rw [hWb]; exact ((Bel.refl w).alloc _).alloc _
  have hKS : ∀ w', Bel Wb w' → w'.cell? ⟨w.heap.size, 0, none⟩ = some (.slice sq1 sm1 sc1) ∧ w'.cell? ⟨w.heap.size, 1, none⟩ = some (.slice sq2 sm2 sc2) ∧ w'.cell? ⟨w.heap.size, 2, none⟩ = some (.slice sq3 sm3 sc3) ∧ w'.cell? ⟨w.heap.size + 1, 0, none⟩ = some (.int .i64 fu) ∧ w'.cell? ⟨w.heap.size + 1, 1, none⟩ = some (.string (S fn)) ∧ w'.cell? ⟨w.heap.size + 1, 2, none⟩ = some (.int .i64 2) ∧ w'.cell? ⟨w.heap.size + 1, 3, none⟩ = some (.int .i64 fke) ∧ w'.cell? ⟨w.heap.size + 1, 4, none⟩ = some (.int .i64 ftk) ∧ w'.cell? ⟨w.heap.size + 1, 5, none⟩ = some (.string (S ftn)) ∧ w'.cell? ⟨w.heap.size + 1, 6, none⟩ = some (.string (S [])) ∧ w'.cell? ⟨w.heap.size + 1, 7, none⟩ = some (.bool true) ∧ w'.cell? ⟨w.heap.size + 1, 8, none⟩ = some (.int .i64 fvk) ∧ w'.cell? ⟨w.heap.size + 1, 9, none⟩ = some (.int .u64 fvx) ∧ w'.cell? ⟨w.heap.size + 1, 10, none⟩ = some (.string (S fvt)) ∧ w'.cell? ⟨w.heap.size + 1, 11, none⟩ = some (.slice fr1 fm1 fd1) ∧ w'.cell? ⟨w.heap.size + 1, 12, none⟩ = some (.slice fr2 fm2 fd2) ∧ w'.cell? ⟨w.heap.size + 1, 13, none⟩ = some (.slice fr3 fm3 fd3) ∧ w'.cell? ⟨w.heap.size + 1, 14, none⟩ = some (.slice fr4 fm4 fd4) ∧ w'.cell? ⟨w.heap.size + 1, 15, none⟩ = some (.slice fr5 fm5 fd5) := fun w' k => by
    refine ⟨k.some ?_, k.some ?_, k.some ?_, k.some ?_, k.some ?_, k.some ?_, k.some ?_, k.some ?_, k.some ?_, k.some ?_, k.some ?_, k.some ?_, k.some ?_, k.some ?_, k.some ?_, k.some ?_, k.some ?_, k.some ?_, k.some ?_⟩
    all_goals first
      | (rw [hWb, World.cell?_alloc_at _ _ _ _ (by simp)]; rfl)
      | (rw [hWb, World.cell?_alloc_past _ _ _ (by simp), World.cell?_alloc_at _ _ _ _ rfl]; rfl)
  have KS := Lib.hid hKS
  have HW := Lib.hid hWb
  clear hKS hWb
  have cF := fun W => sc_Fits ftk fvk fvx (S fvt) fr1 fr2 fr3 fr4 fm1 fm2 fm3 fm4 fd1 fd2 fd3 fd4 W x0 x1 b1 b2 b3 b4
  rw [S_list, hfit] at cF
  have CF := Lib.hid cF
  clear cF hfit
  have he : (S []).toList = [] := empty_S [] rfl
  have he2 : (S []).toList.isEmpty = true := by rw [he]; rfl
  go_enter Tryz.func161, Tryz.ntmps161
  go_upto_region 3 with (fail)
  obtain ⟨wd, hwd⟩ : ∃ wd, wd = ((w.alloc (.cells #[.slice sq1 sm1 sc1, .slice sq2 sm2 sc2, .slice sq3 sm3 sc3] 26)).alloc (.cells #[.int .i64 fu, .string (S fn), .int .i64 2, .int .i64 fke, .int .i64 ftk, .string (S ftn), .string (S []), .bool true, .int .i64 fvk, .int .u64 fvx, .string (S fvt), .slice fr1 fm1 fd1, .slice fr2 fm2 fd2, .slice fr3 fm3 fd3, .slice fr4 fm4 fd4, .slice fr5 fm5 fd5] 63)).drew := ⟨_, rfl⟩
  have kd : Bel Wb wd := by rw [hwd, ← HW.out]; exact (Bel.refl _).drew
  have HWD := Lib.hid hwd
  clear hwd
  obtain ⟨s0, s1, s2, s3, s4, s5, s6, s7, s8, s9, s10, s11, s12, s13, s14, s15, s16, s17, s18⟩ := KS.out _ kd
  refine region_two 14 26 (by kernel_rfl) (by kernel_rfl) HWD.out ?_
  (simp only [List.take_succ_cons, List.take_zero, List.drop_succ_cons, List.drop_zero]); (repeat (first | ((with_reducible refine wpStill_step (fun K hK => ?_)); go_simp; (with_reducible refine hK _ ?_); clear hK K) | ((with_reducible refine rg_skip ?_ ?_); (with_unfolding_all rfl)))); (with_reducible refine wpStill_nil ?_)
  unfold wpOp
  go_simp
  refine Or.inl ((CF.out _).mono ?_)
  rintro e w1 ⟨rfl, g1⟩
  have k1 : Bel Wb w1 := Bel.of kd g1
  clear s0 s1 s2 s3 s4 s5 s6 s7 s8 s9 s10 s11 s12 s13 s14 s15 s16 s17 s18 g1
  obtain ⟨s0, s1, s2, s3, s4, s5, s6, s7, s8, s9, s10, s11, s12, s13, s14, s15, s16, s17, s18⟩ := KS.out _ k1
  go_simp
  (repeat (first | ((with_reducible refine wpStill_step (fun K hK => ?_)); go_simp; (with_reducible refine hK _ ?_); clear hK K) | ((with_reducible refine rg_skip ?_ ?_); (with_unfolding_all rfl)))); (with_reducible refine wpStill_nil ?_)
  go_wp2
  go_ret
  exact ⟨rfl, Bel.out (Bel.of kb k1)⟩
set_option maxHeartbeats 4000000 in
set_option maxRecDepth 100000 in
theorem df_E (sq1 sq2 sq3 : Option Addr) (sm1 sm2 sm3 sc1 sc2 sc3 : Nat) (fu : Int) (fn : Str) (fke ftk : Int) (ftn : Str) (fvk fvx : Int) (fvt : Str) (fr1 fr2 fr3 fr4 fr5 : Option Addr) (fm1 fd1 fm2 fd2 fm3 fd3 fm4 fd4 fm5 fd5 : Nat) (w : World) (R : Bool) (hfit : Pr.fitsB ftk fvk fvx fvt (fm1 + fm2 + fm3 + fm4) = true) (hY : Pr.normB fvk fvx ≠ fvx) (hR : R = false) (x0 : 0 ≤ fvx) (x1 : fvx < 18446744073709551616) (b1 : fm1 ≤ 140737488355328) (b2 : fm2 ≤ 140737488355328) (b3 : fm3 ≤ 140737488355328) (b4 : fm4 ≤ 140737488355328) :
    Calls Tryz.prog 161 #[.agg #[.slice sq1 sm1 sc1, .slice sq2 sm2 sc2, .slice sq3 sm3 sc3], .agg #[.int .i64 fu, .string (S fn), .int .i64 2, .int .i64 fke, .int .i64 ftk, .string (S ftn), .string (S []), .bool true, .int .i64 fvk, .int .u64 fvx, .string (S fvt), .slice fr1 fm1 fd1, .slice fr2 fm2 fd2, .slice fr3 fm3 fd3, .slice fr4 fm4 fd4, .slice fr5 fm5 fd5]] w fun e w' => e = .returned (.bool R) ∧ Below w.heap.size w w' := by
  subst hR
  have hKS : ∀ w', Bel ((w.alloc (.cells #[.slice sq1 sm1 sc1, .slice sq2 sm2 sc2, .slice sq3 sm3 sc3] 26)).alloc (.cells #[.int .i64 fu, .string (S fn), .int .i64 2, .int .i64 fke, .int .i64 ftk, .string (S ftn), .string (S []), .bool true, .int .i64 fvk, .int .u64 fvx, .string (S fvt), .slice fr1 fm1 fd1, .slice fr2 fm2 fd2, .slice fr3 fm3 fd3, .slice fr4 fm4 fd4, .slice fr5 fm5 fd5] 63)) w' → w'.cell? ⟨w.heap.size, 0, none⟩ = some (.slice sq1 sm1 sc1) ∧ w'.cell? ⟨w.heap.size, 1, none⟩ = some (.slice sq2 sm2 sc2) ∧ w'.cell? ⟨w.heap.size, 2, none⟩ = some (.slice sq3 sm3 sc3) ∧ w'.cell? ⟨w.heap.size + 1, 0, none⟩ = some (.int .i64 fu) ∧ w'.cell? ⟨w.heap.size + 1, 1, none⟩ = some (.string (S fn)) ∧ w'.cell? ⟨w.heap.size + 1, 2, none⟩ = some (.int .i64 2) ∧ w'.cell? ⟨w.heap.size + 1, 3, none⟩ = some (.int .i64 fke) ∧ w'.cell? ⟨w.heap.size + 1, 4, none⟩ = some (.int .i64 ftk) ∧ w'.cell? ⟨w.heap.size + 1, 5, none⟩ = some (.string (S ftn)) ∧ w'.cell? ⟨w.heap.size + 1, 6, none⟩ = some (.string (S [])) ∧ w'.cell? ⟨w.heap.size + 1, 7, none⟩ = some (.bool true) ∧ w'.cell? ⟨w.heap.size + 1, 8, none⟩ = some (.int .i64 fvk) ∧ w'.cell? ⟨w.heap.size + 1, 9, none⟩ = some (.int .u64 fvx) ∧ w'.cell? ⟨w.heap.size + 1, 10, none⟩ = some (.string (S fvt)) ∧ w'.cell? ⟨w.heap.size + 1, 11, none⟩ = some (.slice fr1 fm1 fd1) ∧ w'.cell? ⟨w.heap.size + 1, 12, none⟩ = some (.slice fr2 fm2 fd2) ∧ w'.cell? ⟨w.heap.size + 1, 13, none⟩ = some (.slice fr3 fm3 fd3) ∧ w'.cell? ⟨w.heap.size + 1, 14, none⟩ = some (.slice fr4 fm4 fd4) ∧ w'.cell? ⟨w.heap.size + 1, 15, none⟩ = some (.slice fr5 fm5 fd5) := fun w' k => by
    refine ⟨k.some ?_, k.some ?_, k.some ?_, k.some ?_, k.some ?_, k.some ?_, k.some ?_, k.some ?_, k.some ?_, k.some ?_, k.some ?_, k.some ?_, k.some ?_, k.some ?_, k.some ?_, k.some ?_, k.some ?_, k.some ?_, k.some ?_⟩
    all_goals first
      | (rw [World.cell?_alloc_at _ _ _ _ (by simp)]; rfl)
      | (rw [World.cell?_alloc_past _ _ _ (by simp), World.cell?_alloc_at _ _ _ _ rfl]; rfl)
  have KS := Lib.hid hKS
  clear hKS
  have cF := fun W => sc_Fits ftk fvk fvx (S fvt) fr1 fr2 fr3 fr4 fm1 fm2 fm3 fm4 fd1 fd2 fd3 fd4 W x0 x1 b1 b2 b3 b4
  rw [S_list, hfit] at cF
  have CF := Lib.hid cF
  clear cF hfit
  have cN := fun W => sc_Norm fvk fvx (S fvt) fr1 fr2 fr3 fr4 fm1 fm2 fm3 fm4 fd1 fd2 fd3 fd4 W x0 x1 b1 b2 b3 b4
  have hvf := fun W => val_field fvk (Pr.normB fvk fvx) (S fvt) fr1 fr2 fr3 fr4 fm1 fm2 fm3 fm4 fd1 fd2 fd3 fd4 W
  generalize Pr.normB fvk fvx = Y at cN hvf hY
  have CN := Lib.hid cN
  clear cN
  have he : (S []).toList = [] := empty_S [] rfl
  have he2 : (S []).toList.isEmpty = true := by rw [he]; rfl
  have hb := bne_t hY
  clear hY
  go_enter Tryz.func161, Tryz.ntmps161
  go_upto_region 3 with (fail)
  go_region_held3 (fun w' => w'.cell? ⟨w.heap.size, 0, none⟩ = some (.slice sq1 sm1 sc1) ∧ w'.cell? ⟨w.heap.size, 1, none⟩ = some (.slice sq2 sm2 sc2) ∧ w'.cell? ⟨w.heap.size, 2, none⟩ = some (.slice sq3 sm3 sc3) ∧ w'.cell? ⟨w.heap.size + 1, 0, none⟩ = some (.int .i64 fu) ∧ w'.cell? ⟨w.heap.size + 1, 1, none⟩ = some (.string (S fn)) ∧ w'.cell? ⟨w.heap.size + 1, 2, none⟩ = some (.int .i64 2) ∧ w'.cell? ⟨w.heap.size + 1, 3, none⟩ = some (.int .i64 fke) ∧ w'.cell? ⟨w.heap.size + 1, 4, none⟩ = some (.int .i64 ftk) ∧ w'.cell? ⟨w.heap.size + 1, 5, none⟩ = some (.string (S ftn)) ∧ w'.cell? ⟨w.heap.size + 1, 6, none⟩ = some (.string (S [])) ∧ w'.cell? ⟨w.heap.size + 1, 7, none⟩ = some (.bool true) ∧ w'.cell? ⟨w.heap.size + 1, 8, none⟩ = some (.int .i64 fvk) ∧ w'.cell? ⟨w.heap.size + 1, 9, none⟩ = some (.int .u64 fvx) ∧ w'.cell? ⟨w.heap.size + 1, 10, none⟩ = some (.string (S fvt)) ∧ w'.cell? ⟨w.heap.size + 1, 11, none⟩ = some (.slice fr1 fm1 fd1) ∧ w'.cell? ⟨w.heap.size + 1, 12, none⟩ = some (.slice fr2 fm2 fd2) ∧ w'.cell? ⟨w.heap.size + 1, 13, none⟩ = some (.slice fr3 fm3 fd3) ∧ w'.cell? ⟨w.heap.size + 1, 14, none⟩ = some (.slice fr4 fm4 fd4) ∧ w'.cell? ⟨w.heap.size + 1, 15, none⟩ = some (.slice fr5 fm5 fd5)) (first | (exact KS.out _ (by (repeat (first | (with_reducible assumption) | (with_reducible exact Bel.refl _) | (with_reducible refine Bel.drew ?_) | (with_reducible refine Bel.drewN ?_ _) | (with_reducible refine Bel.alloc ?_ _))))))
    (first
      | (go_at_call 195; (with_reducible refine (CF.out _).mono ?_); rintro e w1 ⟨rfl, g1⟩; have k1 : Bel ((w.alloc (.cells #[.slice sq1 sm1 sc1, .slice sq2 sm2 sc2, .slice sq3 sm3 sc3] 26)).alloc (.cells #[.int .i64 fu, .string (S fn), .int .i64 2, .int .i64 fke, .int .i64 ftk, .string (S ftn), .string (S []), .bool true, .int .i64 fvk, .int .u64 fvx, .string (S fvt), .slice fr1 fm1 fd1, .slice fr2 fm2 fd2, .slice fr3 fm3 fd3, .slice fr4 fm4 fd4, .slice fr5 fm5 fd5] 63)) w1 := Bel.of (by (repeat (first | (with_reducible assumption) | (with_reducible exact Bel.refl _) | (with_reducible refine Bel.drew ?_) | (with_reducible refine Bel.drewN ?_ _) | (with_reducible refine Bel.alloc ?_ _)))) g1; clear g1)
      | (go_at_call 196; (with_reducible refine (CN.out _).mono ?_); rintro e w2 ⟨rfl, g1⟩; have k2 : Bel ((w.alloc (.cells #[.slice sq1 sm1 sc1, .slice sq2 sm2 sc2, .slice sq3 sm3 sc3] 26)).alloc (.cells #[.int .i64 fu, .string (S fn), .int .i64 2, .int .i64 fke, .int .i64 ftk, .string (S ftn), .string (S []), .bool true, .int .i64 fvk, .int .u64 fvx, .string (S fvt), .slice fr1 fm1 fd1, .slice fr2 fm2 fd2, .slice fr3 fm3 fd3, .slice fr4 fm4 fd4, .slice fr5 fm5 fd5] 63)) w2 := Bel.of (by (repeat (first | (with_reducible assumption) | (with_reducible exact Bel.refl _) | (with_reducible refine Bel.drew ?_) | (with_reducible refine Bel.drewN ?_ _) | (with_reducible refine Bel.alloc ?_ _)))) g1; clear g1))
  all_goals go_wp2
  all_goals go_ret
  all_goals exact ⟨rfl, Bel.out (Bel.of (((Bel.refl w).alloc _).alloc _) (show Bel ((w.alloc (.cells #[.slice sq1 sm1 sc1, .slice sq2 sm2 sc2, .slice sq3 sm3 sc3] 26)).alloc (.cells #[.int .i64 fu, .string (S fn), .int .i64 2, .int .i64 fke, .int .i64 ftk, .string (S ftn), .string (S []), .bool true, .int .i64 fvk, .int .u64 fvx, .string (S fvt), .slice fr1 fm1 fd1, .slice fr2 fm2 fd2, .slice fr3 fm3 fd3, .slice fr4 fm4 fd4, .slice fr5 fm5 fd5] 63)) _ by (repeat (first | (with_reducible assumption) | (with_reducible exact Bel.refl _) | (with_reducible refine Bel.drew ?_) | (with_reducible refine Bel.drewN ?_ _) | (with_reducible refine Bel.alloc ?_ _)))))⟩
set_option maxHeartbeats 4000000 in
set_option maxRecDepth 100000 in
theorem df_F (sq1 sq2 sq3 : Option Addr) (sm1 sm2 sm3 sc1 sc2 sc3 : Nat) (fu : Int) (fn : Str) (fke ftk : Int) (ftn : Str) (fvk fvx : Int) (fvt : Str) (fr1 fr2 fr3 fr4 fr5 : Option Addr) (fm1 fd1 fm2 fd2 fm3 fd3 fm4 fd4 fm5 fd5 : Nat) (w : World) (R : Bool) (hfit : Pr.fitsB ftk fvk fvx fvt (fm1 + fm2 + fm3 + fm4) = true) (hY : Pr.normB fvk fvx = fvx) (ht : ftk ≠ 9) (hR : R = true) (x0 : 0 ≤ fvx) (x1 : fvx < 18446744073709551616) (b1 : fm1 ≤ 140737488355328) (b2 : fm2 ≤ 140737488355328) (b3 : fm3 ≤ 140737488355328) (b4 : fm4 ≤ 140737488355328) :
    Calls Tryz.prog 161 #[.agg #[.slice sq1 sm1 sc1, .slice sq2 sm2 sc2, .slice sq3 sm3 sc3], .agg #[.int .i64 fu, .string (S fn), .int .i64 2, .int .i64 fke, .int .i64 ftk, .string (S ftn), .string (S []), .bool true, .int .i64 fvk, .int .u64 fvx, .string (S fvt), .slice fr1 fm1 fd1, .slice fr2 fm2 fd2, .slice fr3 fm3 fd3, .slice fr4 fm4 fd4, .slice fr5 fm5 fd5]] w fun e w' => e = .returned (.bool R) ∧ Below w.heap.size w w' := by
  subst hR
  have hKS : ∀ w', Bel ((w.alloc (.cells #[.slice sq1 sm1 sc1, .slice sq2 sm2 sc2, .slice sq3 sm3 sc3] 26)).alloc (.cells #[.int .i64 fu, .string (S fn), .int .i64 2, .int .i64 fke, .int .i64 ftk, .string (S ftn), .string (S []), .bool true, .int .i64 fvk, .int .u64 fvx, .string (S fvt), .slice fr1 fm1 fd1, .slice fr2 fm2 fd2, .slice fr3 fm3 fd3, .slice fr4 fm4 fd4, .slice fr5 fm5 fd5] 63)) w' → w'.cell? ⟨w.heap.size, 0, none⟩ = some (.slice sq1 sm1 sc1) ∧ w'.cell? ⟨w.heap.size, 1, none⟩ = some (.slice sq2 sm2 sc2) ∧ w'.cell? ⟨w.heap.size, 2, none⟩ = some (.slice sq3 sm3 sc3) ∧ w'.cell? ⟨w.heap.size + 1, 0, none⟩ = some (.int .i64 fu) ∧ w'.cell? ⟨w.heap.size + 1, 1, none⟩ = some (.string (S fn)) ∧ w'.cell? ⟨w.heap.size + 1, 2, none⟩ = some (.int .i64 2) ∧ w'.cell? ⟨w.heap.size + 1, 3, none⟩ = some (.int .i64 fke) ∧ w'.cell? ⟨w.heap.size + 1, 4, none⟩ = some (.int .i64 ftk) ∧ w'.cell? ⟨w.heap.size + 1, 5, none⟩ = some (.string (S ftn)) ∧ w'.cell? ⟨w.heap.size + 1, 6, none⟩ = some (.string (S [])) ∧ w'.cell? ⟨w.heap.size + 1, 7, none⟩ = some (.bool true) ∧ w'.cell? ⟨w.heap.size + 1, 8, none⟩ = some (.int .i64 fvk) ∧ w'.cell? ⟨w.heap.size + 1, 9, none⟩ = some (.int .u64 fvx) ∧ w'.cell? ⟨w.heap.size + 1, 10, none⟩ = some (.string (S fvt)) ∧ w'.cell? ⟨w.heap.size + 1, 11, none⟩ = some (.slice fr1 fm1 fd1) ∧ w'.cell? ⟨w.heap.size + 1, 12, none⟩ = some (.slice fr2 fm2 fd2) ∧ w'.cell? ⟨w.heap.size + 1, 13, none⟩ = some (.slice fr3 fm3 fd3) ∧ w'.cell? ⟨w.heap.size + 1, 14, none⟩ = some (.slice fr4 fm4 fd4) ∧ w'.cell? ⟨w.heap.size + 1, 15, none⟩ = some (.slice fr5 fm5 fd5) := fun w' k => by
    refine ⟨k.some ?_, k.some ?_, k.some ?_, k.some ?_, k.some ?_, k.some ?_, k.some ?_, k.some ?_, k.some ?_, k.some ?_, k.some ?_, k.some ?_, k.some ?_, k.some ?_, k.some ?_, k.some ?_, k.some ?_, k.some ?_, k.some ?_⟩
    all_goals first
      | (rw [World.cell?_alloc_at _ _ _ _ (by simp)]; rfl)
      | (rw [World.cell?_alloc_past _ _ _ (by simp), World.cell?_alloc_at _ _ _ _ rfl]; rfl)
  have KS := Lib.hid hKS
  clear hKS
  have cF := fun W => sc_Fits ftk fvk fvx (S fvt) fr1 fr2 fr3 fr4 fm1 fm2 fm3 fm4 fd1 fd2 fd3 fd4 W x0 x1 b1 b2 b3 b4
  rw [S_list, hfit] at cF
  have CF := Lib.hid cF
  clear cF hfit
  have cN := fun W => sc_Norm fvk fvx (S fvt) fr1 fr2 fr3 fr4 fm1 fm2 fm3 fm4 fd1 fd2 fd3 fd4 W x0 x1 b1 b2 b3 b4
  have hvf := fun W => val_field fvk (Pr.normB fvk fvx) (S fvt) fr1 fr2 fr3 fr4 fm1 fm2 fm3 fm4 fd1 fd2 fd3 fd4 W
  generalize Pr.normB fvk fvx = Y at cN hvf hY
  have CN := Lib.hid cN
  clear cN
  have he : (S []).toList = [] := empty_S [] rfl
  have he2 : (S []).toList.isEmpty = true := by rw [he]; rfl
  have hb := bne_f hY
  have hb9 := bne_t ht
  clear hY ht
  go_enter Tryz.func161, Tryz.ntmps161
  go_upto_region 3 with (fail)
  go_region_held3 (fun w' => w'.cell? ⟨w.heap.size, 0, none⟩ = some (.slice sq1 sm1 sc1) ∧ w'.cell? ⟨w.heap.size, 1, none⟩ = some (.slice sq2 sm2 sc2) ∧ w'.cell? ⟨w.heap.size, 2, none⟩ = some (.slice sq3 sm3 sc3) ∧ w'.cell? ⟨w.heap.size + 1, 0, none⟩ = some (.int .i64 fu) ∧ w'.cell? ⟨w.heap.size + 1, 1, none⟩ = some (.string (S fn)) ∧ w'.cell? ⟨w.heap.size + 1, 2, none⟩ = some (.int .i64 2) ∧ w'.cell? ⟨w.heap.size + 1, 3, none⟩ = some (.int .i64 fke) ∧ w'.cell? ⟨w.heap.size + 1, 4, none⟩ = some (.int .i64 ftk) ∧ w'.cell? ⟨w.heap.size + 1, 5, none⟩ = some (.string (S ftn)) ∧ w'.cell? ⟨w.heap.size + 1, 6, none⟩ = some (.string (S [])) ∧ w'.cell? ⟨w.heap.size + 1, 7, none⟩ = some (.bool true) ∧ w'.cell? ⟨w.heap.size + 1, 8, none⟩ = some (.int .i64 fvk) ∧ w'.cell? ⟨w.heap.size + 1, 9, none⟩ = some (.int .u64 fvx) ∧ w'.cell? ⟨w.heap.size + 1, 10, none⟩ = some (.string (S fvt)) ∧ w'.cell? ⟨w.heap.size + 1, 11, none⟩ = some (.slice fr1 fm1 fd1) ∧ w'.cell? ⟨w.heap.size + 1, 12, none⟩ = some (.slice fr2 fm2 fd2) ∧ w'.cell? ⟨w.heap.size + 1, 13, none⟩ = some (.slice fr3 fm3 fd3) ∧ w'.cell? ⟨w.heap.size + 1, 14, none⟩ = some (.slice fr4 fm4 fd4) ∧ w'.cell? ⟨w.heap.size + 1, 15, none⟩ = some (.slice fr5 fm5 fd5)) (first | (exact KS.out _ (by (repeat (first | (with_reducible assumption) | (with_reducible exact Bel.refl _) | (with_reducible refine Bel.drew ?_) | (with_reducible refine Bel.drewN ?_ _) | (with_reducible refine Bel.alloc ?_ _))))))
    (first
      | (go_at_call 195; (with_reducible refine (CF.out _).mono ?_); rintro e w1 ⟨rfl, g1⟩; have k1 : Bel ((w.alloc (.cells #[.slice sq1 sm1 sc1, .slice sq2 sm2 sc2, .slice sq3 sm3 sc3] 26)).alloc (.cells #[.int .i64 fu, .string (S fn), .int .i64 2, .int .i64 fke, .int .i64 ftk, .string (S ftn), .string (S []), .bool true, .int .i64 fvk, .int .u64 fvx, .string (S fvt), .slice fr1 fm1 fd1, .slice fr2 fm2 fd2, .slice fr3 fm3 fd3, .slice fr4 fm4 fd4, .slice fr5 fm5 fd5] 63)) w1 := Bel.of (by (repeat (first | (with_reducible assumption) | (with_reducible exact Bel.refl _) | (with_reducible refine Bel.drew ?_) | (with_reducible refine Bel.drewN ?_ _) | (with_reducible refine Bel.alloc ?_ _)))) g1; clear g1)
      | (go_at_call 196; (with_reducible refine (CN.out _).mono ?_); rintro e w2 ⟨rfl, g1⟩; have k2 : Bel ((w.alloc (.cells #[.slice sq1 sm1 sc1, .slice sq2 sm2 sc2, .slice sq3 sm3 sc3] 26)).alloc (.cells #[.int .i64 fu, .string (S fn), .int .i64 2, .int .i64 fke, .int .i64 ftk, .string (S ftn), .string (S []), .bool true, .int .i64 fvk, .int .u64 fvx, .string (S fvt), .slice fr1 fm1 fd1, .slice fr2 fm2 fd2, .slice fr3 fm3 fd3, .slice fr4 fm4 fd4, .slice fr5 fm5 fd5] 63)) w2 := Bel.of (by (repeat (first | (with_reducible assumption) | (with_reducible exact Bel.refl _) | (with_reducible refine Bel.drew ?_) | (with_reducible refine Bel.drewN ?_ _) | (with_reducible refine Bel.alloc ?_ _)))) g1; clear g1))
  all_goals go_wp2
  all_goals go_ret
  all_goals exact ⟨rfl, Bel.out (Bel.of (((Bel.refl w).alloc _).alloc _) (show Bel ((w.alloc (.cells #[.slice sq1 sm1 sc1, .slice sq2 sm2 sc2, .slice sq3 sm3 sc3] 26)).alloc (.cells #[.int .i64 fu, .string (S fn), .int .i64 2, .int .i64 fke, .int .i64 ftk, .string (S ftn), .string (S []), .bool true, .int .i64 fvk, .int .u64 fvx, .string (S fvt), .slice fr1 fm1 fd1, .slice fr2 fm2 fd2, .slice fr3 fm3 fd3, .slice fr4 fm4 fd4, .slice fr5 fm5 fd5] 63)) _ by (repeat (first | (with_reducible assumption) | (with_reducible exact Bel.refl _) | (with_reducible refine Bel.drew ?_) | (with_reducible refine Bel.drewN ?_ _) | (with_reducible refine Bel.alloc ?_ _)))))⟩
end Go.Proofs.YtfoaaglbpmmhiaaGreatDoor
