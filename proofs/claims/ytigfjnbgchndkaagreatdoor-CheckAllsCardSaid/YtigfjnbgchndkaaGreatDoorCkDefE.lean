/- Layer 12 walked: defaulted, an enum's. Printed by gendef.py. -/
import Derived.Test.YtigfjnbgchndkaaGreatDoorCkDef
namespace Go.Proofs.YtigfjnbgchndkaaGreatDoor
open Go.RowKit Ck
set_option linter.unusedVariables false
set_option linter.unusedSimpArgs false

theorem beq_dec (a b : Int) : (a == b) = decide (a = b) := by rw [Bool.eq_iff_iff]; simp
theorem wrap_u64 (n : Int) : IntKind.u64.wrap n = u64 n := by
 unfold IntKind.wrap u64
 simp [IntKind.signed, IntKind.bits]
set_option maxHeartbeats 4000000 in
set_option maxRecDepth 100000 in
theorem cl_defaulted (xn : Str) (xu : Int) (xq : Option Addr) (xm xc : Nat) (y : Int) (B : Nat) (W : World) (hB : W.cell? ⟨B, 9, none⟩ = some (.int .u64 y)) :
  Calls Tryz.prog 115 #[.agg #[.string (S xn), .int .i64 xu, .slice xq xm xc], .pointer (some ⟨B, 0, none⟩)] W fun e w' => e = .returned (.bool (decide (u64 xu = y))) ∧ Below W.heap.size W w' := by
 have hlt : B < W.heap.size := World.block_lt_of_cell? W _ hB
 have hu := Lib.hid (wrap_u64 xu)
 go_enter Tryz.func115, Tryz.ntmps115
 go_wp2
 go_ret
 exact ⟨ret_bool (by rw [hu.out]; exact beq_dec _ _), Bel.out (by (repeat (first | (with_reducible assumption) | (with_reducible exact Bel.refl _) | (with_reducible refine Bel.drew ?_) | (with_reducible refine Bel.drewN ?_ _) | (with_reducible refine Bel.alloc ?_ _) | ((with_reducible refine bel_set ?_ ?hge); (case hge => (first | omega | (simp; omega)))))))⟩
set_option maxHeartbeats 4000000 in
set_option maxRecDepth 100000 in
theorem df_G (sq1 sq2 sq3 : Option Addr) (sm1 sm2 sm3 sc1 sc2 sc3 : Nat) (fu : Int) (fn : Str) (fke : Int) (ftn : Str) (fvk fvx : Int) (fvt : Str) (fr1 fr2 fr3 fr4 fr5 : Option Addr) (fm1 fd1 fm2 fd2 fm3 fd3 fm4 fd4 fm5 fd5 : Nat) (w : World) (R : Bool) (s : PSchema) (hv : VSchema w [.slice sq1 sm1 sc1, .slice sq2 sm2 sc2, .slice sq3 sm3 sc3] s) (hen : enumOf s ftn = none) (hfit : Pr.fitsB 9 fvk fvx fvt (fm1 + fm2 + fm3 + fm4) = true) (hY : Pr.normB fvk fvx = fvx) (hR : R = false) (x0 : 0 ≤ fvx) (x1 : fvx < 18446744073709551616) (b1 : fm1 ≤ 140737488355328) (b2 : fm2 ≤ 140737488355328) (b3 : fm3 ≤ 140737488355328) (b4 : fm4 ≤ 140737488355328) :
  Calls Tryz.prog 90 #[.agg #[.slice sq1 sm1 sc1, .slice sq2 sm2 sc2, .slice sq3 sm3 sc3], .agg #[.int .i64 fu, .string (S fn), .int .i64 2, .int .i64 fke, .int .i64 9, .string (S ftn), .string (S []), .bool true, .int .i64 fvk, .int .u64 fvx, .string (S fvt), .slice fr1 fm1 fd1, .slice fr2 fm2 fd2, .slice fr3 fm3 fd3, .slice fr4 fm4 fd4, .slice fr5 fm5 fd5]] w fun e w' => e = .returned (.bool R) ∧ Below w.heap.size w w' := by
 subst hR
 have hKS : ∀ w', Bel ((w.alloc (.cells #[.slice sq1 sm1 sc1, .slice sq2 sm2 sc2, .slice sq3 sm3 sc3] 26)).alloc (.cells #[.int .i64 fu, .string (S fn), .int .i64 2, .int .i64 fke, .int .i64 9, .string (S ftn), .string (S []), .bool true, .int .i64 fvk, .int .u64 fvx, .string (S fvt), .slice fr1 fm1 fd1, .slice fr2 fm2 fd2, .slice fr3 fm3 fd3, .slice fr4 fm4 fd4, .slice fr5 fm5 fd5] 68)) w' → w'.cell? ⟨w.heap.size, 0, none⟩ = some (.slice sq1 sm1 sc1) ∧ w'.cell? ⟨w.heap.size, 1, none⟩ = some (.slice sq2 sm2 sc2) ∧ w'.cell? ⟨w.heap.size, 2, none⟩ = some (.slice sq3 sm3 sc3) ∧ w'.cell? ⟨w.heap.size + 1, 0, none⟩ = some (.int .i64 fu) ∧ w'.cell? ⟨w.heap.size + 1, 1, none⟩ = some (.string (S fn)) ∧ w'.cell? ⟨w.heap.size + 1, 2, none⟩ = some (.int .i64 2) ∧ w'.cell? ⟨w.heap.size + 1, 3, none⟩ = some (.int .i64 fke) ∧ w'.cell? ⟨w.heap.size + 1, 4, none⟩ = some (.int .i64 9) ∧ w'.cell? ⟨w.heap.size + 1, 5, none⟩ = some (.string (S ftn)) ∧ w'.cell? ⟨w.heap.size + 1, 6, none⟩ = some (.string (S [])) ∧ w'.cell? ⟨w.heap.size + 1, 7, none⟩ = some (.bool true) ∧ w'.cell? ⟨w.heap.size + 1, 8, none⟩ = some (.int .i64 fvk) ∧ w'.cell? ⟨w.heap.size + 1, 9, none⟩ = some (.int .u64 fvx) ∧ w'.cell? ⟨w.heap.size + 1, 10, none⟩ = some (.string (S fvt)) ∧ w'.cell? ⟨w.heap.size + 1, 11, none⟩ = some (.slice fr1 fm1 fd1) ∧ w'.cell? ⟨w.heap.size + 1, 12, none⟩ = some (.slice fr2 fm2 fd2) ∧ w'.cell? ⟨w.heap.size + 1, 13, none⟩ = some (.slice fr3 fm3 fd3) ∧ w'.cell? ⟨w.heap.size + 1, 14, none⟩ = some (.slice fr4 fm4 fd4) ∧ w'.cell? ⟨w.heap.size + 1, 15, none⟩ = some (.slice fr5 fm5 fd5) := fun w' k => by
  refine ⟨k.some ?_, k.some ?_, k.some ?_, k.some ?_, k.some ?_, k.some ?_, k.some ?_, k.some ?_, k.some ?_, k.some ?_, k.some ?_, k.some ?_, k.some ?_, k.some ?_, k.some ?_, k.some ?_, k.some ?_, k.some ?_, k.some ?_⟩
  all_goals first
   | (rw [World.cell?_alloc_at _ _ _ _ (by simp)]; rfl)
   | (rw [World.cell?_alloc_past _ _ _ (by simp), World.cell?_alloc_at _ _ _ _ rfl]; rfl)
 have KS := Lib.hid hKS
 clear hKS
 have cF := fun W => sc_Fits 9 fvk fvx (S fvt) fr1 fr2 fr3 fr4 fm1 fm2 fm3 fm4 fd1 fd2 fd3 fd4 W x0 x1 b1 b2 b3 b4
 rw [S_list, hfit] at cF
 have CF := Lib.hid cF
 clear cF hfit
 have cN := fun W => sc_Norm fvk fvx (S fvt) fr1 fr2 fr3 fr4 fm1 fm2 fm3 fm4 fd1 fd2 fd3 fd4 W x0 x1 b1 b2 b3 b4
 have hvf := fun W => val_field fvk (Pr.normB fvk fvx) (S fvt) fr1 fr2 fr3 fr4 fm1 fm2 fm3 fm4 fd1 fd2 fd3 fd4 W
 generalize Pr.normB fvk fvx = Y at cN hvf hY
 have CN := Lib.hid cN
 clear cN
 have he : (S []).toList = [] := empty_S [] rfl
 have he2 : (S []).toList.isEmpty = true := by rw [he]; rfl
 have hb := bne_f hY
 clear hY
 have ce := fun W (k : Bel ((w.alloc (.cells #[.slice sq1 sm1 sc1, .slice sq2 sm2 sc2, .slice sq3 sm3 sc3] 26)).alloc (.cells #[.int .i64 fu, .string (S fn), .int .i64 2, .int .i64 fke, .int .i64 9, .string (S ftn), .string (S []), .bool true, .int .i64 fvk, .int .u64 fvx, .string (S fvt), .slice fr1 fm1 fd1, .slice fr2 fm2 fd2, .slice fr3 fm3 fd3, .slice fr4 fm4 fd4, .slice fr5 fm5 fd5] 68)) W) => ck_enum2 _ _ _ s ftn W (hv.stays_bel (Bel.of (((Bel.refl w).alloc _).alloc _) k))
 simp only [hen] at ce
 have CE := Lib.hid ce
 clear ce hen hv
 go_enter Tryz.func90, Tryz.ntmps90
 go_upto_region 3 with (fail)
 go_region_held3 (fun w' => w'.cell? ⟨w.heap.size, 0, none⟩ = some (.slice sq1 sm1 sc1) ∧ w'.cell? ⟨w.heap.size, 1, none⟩ = some (.slice sq2 sm2 sc2) ∧ w'.cell? ⟨w.heap.size, 2, none⟩ = some (.slice sq3 sm3 sc3) ∧ w'.cell? ⟨w.heap.size + 1, 0, none⟩ = some (.int .i64 fu) ∧ w'.cell? ⟨w.heap.size + 1, 1, none⟩ = some (.string (S fn)) ∧ w'.cell? ⟨w.heap.size + 1, 2, none⟩ = some (.int .i64 2) ∧ w'.cell? ⟨w.heap.size + 1, 3, none⟩ = some (.int .i64 fke) ∧ w'.cell? ⟨w.heap.size + 1, 4, none⟩ = some (.int .i64 9) ∧ w'.cell? ⟨w.heap.size + 1, 5, none⟩ = some (.string (S ftn)) ∧ w'.cell? ⟨w.heap.size + 1, 6, none⟩ = some (.string (S [])) ∧ w'.cell? ⟨w.heap.size + 1, 7, none⟩ = some (.bool true) ∧ w'.cell? ⟨w.heap.size + 1, 8, none⟩ = some (.int .i64 fvk) ∧ w'.cell? ⟨w.heap.size + 1, 9, none⟩ = some (.int .u64 fvx) ∧ w'.cell? ⟨w.heap.size + 1, 10, none⟩ = some (.string (S fvt)) ∧ w'.cell? ⟨w.heap.size + 1, 11, none⟩ = some (.slice fr1 fm1 fd1) ∧ w'.cell? ⟨w.heap.size + 1, 12, none⟩ = some (.slice fr2 fm2 fd2) ∧ w'.cell? ⟨w.heap.size + 1, 13, none⟩ = some (.slice fr3 fm3 fd3) ∧ w'.cell? ⟨w.heap.size + 1, 14, none⟩ = some (.slice fr4 fm4 fd4) ∧ w'.cell? ⟨w.heap.size + 1, 15, none⟩ = some (.slice fr5 fm5 fd5)) (first | (exact KS.out _ (by (with_reducible repeat first | assumption | exact Bel.refl _ | refine Bel.drew ?_ | refine Bel.drewN ?_ _ | refine Bel.alloc ?_ _))))
  (first
   | (go_at_call 113; (with_reducible refine (CF.out _).mono ?_); rintro e w1 ⟨rfl, g1⟩; have k1 : Bel ((w.alloc (.cells #[.slice sq1 sm1 sc1, .slice sq2 sm2 sc2, .slice sq3 sm3 sc3] 26)).alloc (.cells #[.int .i64 fu, .string (S fn), .int .i64 2, .int .i64 fke, .int .i64 9, .string (S ftn), .string (S []), .bool true, .int .i64 fvk, .int .u64 fvx, .string (S fvt), .slice fr1 fm1 fd1, .slice fr2 fm2 fd2, .slice fr3 fm3 fd3, .slice fr4 fm4 fd4, .slice fr5 fm5 fd5] 68)) w1 := Bel.of (by (with_reducible repeat first | assumption | exact Bel.refl _ | refine Bel.drew ?_ | refine Bel.drewN ?_ _ | refine Bel.alloc ?_ _)) g1; clear g1)
   | (go_at_call 114; (with_reducible refine (CN.out _).mono ?_); rintro e w2 ⟨rfl, g1⟩; have k2 : Bel ((w.alloc (.cells #[.slice sq1 sm1 sc1, .slice sq2 sm2 sc2, .slice sq3 sm3 sc3] 26)).alloc (.cells #[.int .i64 fu, .string (S fn), .int .i64 2, .int .i64 fke, .int .i64 9, .string (S ftn), .string (S []), .bool true, .int .i64 fvk, .int .u64 fvx, .string (S fvt), .slice fr1 fm1 fd1, .slice fr2 fm2 fd2, .slice fr3 fm3 fd3, .slice fr4 fm4 fd4, .slice fr5 fm5 fd5] 68)) w2 := Bel.of (by (with_reducible repeat first | assumption | exact Bel.refl _ | refine Bel.drew ?_ | refine Bel.drewN ?_ _ | refine Bel.alloc ?_ _)) g1; clear g1))
 all_goals go_wp2_with (go_at_call 109; (with_reducible refine (CE.out _ (show Bel ((w.alloc (.cells #[.slice sq1 sm1 sc1, .slice sq2 sm2 sc2, .slice sq3 sm3 sc3] 26)).alloc (.cells #[.int .i64 fu, .string (S fn), .int .i64 2, .int .i64 fke, .int .i64 9, .string (S ftn), .string (S []), .bool true, .int .i64 fvk, .int .u64 fvx, .string (S fvt), .slice fr1 fm1 fd1, .slice fr2 fm2 fd2, .slice fr3 fm3 fd3, .slice fr4 fm4 fd4, .slice fr5 fm5 fd5] 68)) _ by (with_reducible repeat first | assumption | exact Bel.refl _ | refine Bel.drew ?_ | refine Bel.drewN ?_ _ | refine Bel.alloc ?_ _))).mono ?_); rintro e w3 ⟨ja, jb, jc, jd, je, jf, jg, jh, ji, jj, jk, rfl, hx, g1⟩; have k3 : Bel ((w.alloc (.cells #[.slice sq1 sm1 sc1, .slice sq2 sm2 sc2, .slice sq3 sm3 sc3] 26)).alloc (.cells #[.int .i64 fu, .string (S fn), .int .i64 2, .int .i64 fke, .int .i64 9, .string (S ftn), .string (S []), .bool true, .int .i64 fvk, .int .u64 fvx, .string (S fvt), .slice fr1 fm1 fd1, .slice fr2 fm2 fd2, .slice fr3 fm3 fd3, .slice fr4 fm4 fd4, .slice fr5 fm5 fd5] 68)) w3 := Bel.of (show Bel ((w.alloc (.cells #[.slice sq1 sm1 sc1, .slice sq2 sm2 sc2, .slice sq3 sm3 sc3] 26)).alloc (.cells #[.int .i64 fu, .string (S fn), .int .i64 2, .int .i64 fke, .int .i64 9, .string (S ftn), .string (S []), .bool true, .int .i64 fvk, .int .u64 fvx, .string (S fvt), .slice fr1 fm1 fd1, .slice fr2 fm2 fd2, .slice fr3 fm3 fd3, .slice fr4 fm4 fd4, .slice fr5 fm5 fd5] 68)) _ by (with_reducible repeat first | assumption | exact Bel.refl _ | refine Bel.drew ?_ | refine Bel.drewN ?_ _ | refine Bel.alloc ?_ _)) g1; obtain ⟨t0, t1, t2, t3, t4, t5, t6, t7, t8, t9, t10, t11, t12, t13, t14, t15, t16, t17, t18⟩ := KS.out _ k3; clear g1)
 all_goals go_ret
 all_goals exact ⟨rfl, Bel.out (Bel.of (((Bel.refl w).alloc _).alloc _) (show Bel ((w.alloc (.cells #[.slice sq1 sm1 sc1, .slice sq2 sm2 sc2, .slice sq3 sm3 sc3] 26)).alloc (.cells #[.int .i64 fu, .string (S fn), .int .i64 2, .int .i64 fke, .int .i64 9, .string (S ftn), .string (S []), .bool true, .int .i64 fvk, .int .u64 fvx, .string (S fvt), .slice fr1 fm1 fd1, .slice fr2 fm2 fd2, .slice fr3 fm3 fd3, .slice fr4 fm4 fd4, .slice fr5 fm5 fd5] 68)) _ by (with_reducible repeat first | assumption | exact Bel.refl _ | refine Bel.drew ?_ | refine Bel.drewN ?_ _ | refine Bel.alloc ?_ _)))⟩
set_option maxHeartbeats 4000000 in
set_option maxRecDepth 100000 in
theorem df_H (sq1 sq2 sq3 : Option Addr) (sm1 sm2 sm3 sc1 sc2 sc3 : Nat) (fu : Int) (fn : Str) (fke : Int) (ftn : Str) (fvk fvx : Int) (fvt : Str) (fr1 fr2 fr3 fr4 fr5 : Option Addr) (fm1 fd1 fm2 fd2 fm3 fd3 fm4 fd4 fm5 fd5 : Nat) (w : World) (R : Bool) (s : PSchema) (en : PEnum) (hv : VSchema w [.slice sq1 sm1 sc1, .slice sq2 sm2 sc2, .slice sq3 sm3 sc3] s) (hen : enumOf s ftn = some en) (hfit : Pr.fitsB 9 fvk fvx fvt (fm1 + fm2 + fm3 + fm4) = true) (hY : Pr.normB fvk fvx = fvx) (hR : R = en.items.any fun it => decide (u64 it.num = fvx)) (x0 : 0 ≤ fvx) (x1 : fvx < 18446744073709551616) (b1 : fm1 ≤ 140737488355328) (b2 : fm2 ≤ 140737488355328) (b3 : fm3 ≤ 140737488355328) (b4 : fm4 ≤ 140737488355328) :
  Calls Tryz.prog 90 #[.agg #[.slice sq1 sm1 sc1, .slice sq2 sm2 sc2, .slice sq3 sm3 sc3], .agg #[.int .i64 fu, .string (S fn), .int .i64 2, .int .i64 fke, .int .i64 9, .string (S ftn), .string (S []), .bool true, .int .i64 fvk, .int .u64 fvx, .string (S fvt), .slice fr1 fm1 fd1, .slice fr2 fm2 fd2, .slice fr3 fm3 fd3, .slice fr4 fm4 fd4, .slice fr5 fm5 fd5]] w fun e w' => e = .returned (.bool R) ∧ Below w.heap.size w w' := by
 have hKS : ∀ w', Bel ((w.alloc (.cells #[.slice sq1 sm1 sc1, .slice sq2 sm2 sc2, .slice sq3 sm3 sc3] 26)).alloc (.cells #[.int .i64 fu, .string (S fn), .int .i64 2, .int .i64 fke, .int .i64 9, .string (S ftn), .string (S []), .bool true, .int .i64 fvk, .int .u64 fvx, .string (S fvt), .slice fr1 fm1 fd1, .slice fr2 fm2 fd2, .slice fr3 fm3 fd3, .slice fr4 fm4 fd4, .slice fr5 fm5 fd5] 68)) w' → w'.cell? ⟨w.heap.size, 0, none⟩ = some (.slice sq1 sm1 sc1) ∧ w'.cell? ⟨w.heap.size, 1, none⟩ = some (.slice sq2 sm2 sc2) ∧ w'.cell? ⟨w.heap.size, 2, none⟩ = some (.slice sq3 sm3 sc3) ∧ w'.cell? ⟨w.heap.size + 1, 0, none⟩ = some (.int .i64 fu) ∧ w'.cell? ⟨w.heap.size + 1, 1, none⟩ = some (.string (S fn)) ∧ w'.cell? ⟨w.heap.size + 1, 2, none⟩ = some (.int .i64 2) ∧ w'.cell? ⟨w.heap.size + 1, 3, none⟩ = some (.int .i64 fke) ∧ w'.cell? ⟨w.heap.size + 1, 4, none⟩ = some (.int .i64 9) ∧ w'.cell? ⟨w.heap.size + 1, 5, none⟩ = some (.string (S ftn)) ∧ w'.cell? ⟨w.heap.size + 1, 6, none⟩ = some (.string (S [])) ∧ w'.cell? ⟨w.heap.size + 1, 7, none⟩ = some (.bool true) ∧ w'.cell? ⟨w.heap.size + 1, 8, none⟩ = some (.int .i64 fvk) ∧ w'.cell? ⟨w.heap.size + 1, 9, none⟩ = some (.int .u64 fvx) ∧ w'.cell? ⟨w.heap.size + 1, 10, none⟩ = some (.string (S fvt)) ∧ w'.cell? ⟨w.heap.size + 1, 11, none⟩ = some (.slice fr1 fm1 fd1) ∧ w'.cell? ⟨w.heap.size + 1, 12, none⟩ = some (.slice fr2 fm2 fd2) ∧ w'.cell? ⟨w.heap.size + 1, 13, none⟩ = some (.slice fr3 fm3 fd3) ∧ w'.cell? ⟨w.heap.size + 1, 14, none⟩ = some (.slice fr4 fm4 fd4) ∧ w'.cell? ⟨w.heap.size + 1, 15, none⟩ = some (.slice fr5 fm5 fd5) := fun w' k => by
  refine ⟨k.some ?_, k.some ?_, k.some ?_, k.some ?_, k.some ?_, k.some ?_, k.some ?_, k.some ?_, k.some ?_, k.some ?_, k.some ?_, k.some ?_, k.some ?_, k.some ?_, k.some ?_, k.some ?_, k.some ?_, k.some ?_, k.some ?_⟩
  all_goals first
   | (rw [World.cell?_alloc_at _ _ _ _ (by simp)]; rfl)
   | (rw [World.cell?_alloc_past _ _ _ (by simp), World.cell?_alloc_at _ _ _ _ rfl]; rfl)
 have KS := Lib.hid hKS
 clear hKS
 have cF := fun W => sc_Fits 9 fvk fvx (S fvt) fr1 fr2 fr3 fr4 fm1 fm2 fm3 fm4 fd1 fd2 fd3 fd4 W x0 x1 b1 b2 b3 b4
 rw [S_list, hfit] at cF
 have CF := Lib.hid cF
 clear cF hfit
 have cN := fun W => sc_Norm fvk fvx (S fvt) fr1 fr2 fr3 fr4 fm1 fm2 fm3 fm4 fd1 fd2 fd3 fd4 W x0 x1 b1 b2 b3 b4
 have hvf := fun W => val_field fvk (Pr.normB fvk fvx) (S fvt) fr1 fr2 fr3 fr4 fm1 fm2 fm3 fm4 fd1 fd2 fd3 fd4 W
 generalize Pr.normB fvk fvx = Y at cN hvf hY
 have CN := Lib.hid cN
 clear cN
 have he : (S []).toList = [] := empty_S [] rfl
 have he2 : (S []).toList.isEmpty = true := by rw [he]; rfl
 have hb := bne_f hY
 clear hY
 have ce := fun W (k : Bel ((w.alloc (.cells #[.slice sq1 sm1 sc1, .slice sq2 sm2 sc2, .slice sq3 sm3 sc3] 26)).alloc (.cells #[.int .i64 fu, .string (S fn), .int .i64 2, .int .i64 fke, .int .i64 9, .string (S ftn), .string (S []), .bool true, .int .i64 fvk, .int .u64 fvx, .string (S fvt), .slice fr1 fm1 fd1, .slice fr2 fm2 fd2, .slice fr3 fm3 fd3, .slice fr4 fm4 fd4, .slice fr5 fm5 fd5] 68)) W) => ck_enum2 _ _ _ s ftn W (hv.stays_bel (Bel.of (((Bel.refl w).alloc _).alloc _) k))
 simp only [hen] at ce
 have CE := Lib.hid ce
 have hci : ∀ (ja : Str) (jb : Bool) (jc jd je : Option Addr) (jf jg jh ji jj jk : Nat) (W W2 : World), VEnum W [.string (S ja), .bool jb, .slice jc jf ji, .slice jd jg jj, .slice je jh jk] en → Bel ((w.alloc (.cells #[.slice sq1 sm1 sc1, .slice sq2 sm2 sc2, .slice sq3 sm3 sc3] 26)).alloc (.cells #[.int .i64 fu, .string (S fn), .int .i64 2, .int .i64 fke, .int .i64 9, .string (S ftn), .string (S []), .bool true, .int .i64 fvk, .int .u64 fvx, .string (S fvt), .slice fr1 fm1 fd1, .slice fr2 fm2 fd2, .slice fr3 fm3 fd3, .slice fr4 fm4 fd4, .slice fr5 fm5 fd5] 68)) W → Bel W W2 → Calls Tryz.prog 72 #[.slice jc jf ji, .func (.func 115) #[] #[.pointer (some ⟨w.heap.size + 1, 0, none⟩)]] W2 fun e w' => e = .returned (.bool R) ∧ Below W2.heap.size W2 w' := fun ja jb jc jd je jf jg jh ji jj jk W W2 hx hb hb2 => by
  obtain ⟨iv, rv, nv, hvv, g1, g2, g3⟩ := hx
  cases hvv
  subst hR
  refine cf_Item VItem VItem.len _ _ (enters_of Tryz.func115 (by kernel_rfl) rfl) _ en.items _ W2 (g1.bel VItem.stays hb2) (fun x vx W3 _ hx hb3 => ?_)
  obtain ⟨_, rfl, hxn⟩ := hx
  obtain ⟨_, _, rfl, _⟩ := sl_form hxn
  have hk9 := KS.out _ (Bel.of (Bel.of hb hb2) hb3)
  exact cl_defaulted x.name x.num _ _ _ fvx _ W3 hk9.2.2.2.2.2.2.2.2.2.2.2.2.1
 have CI := Lib.hid hci
 clear ce hen hv hci hR
 go_enter Tryz.func90, Tryz.ntmps90
 go_upto_region 3 with (fail)
 go_region_held3 (fun w' => w'.cell? ⟨w.heap.size, 0, none⟩ = some (.slice sq1 sm1 sc1) ∧ w'.cell? ⟨w.heap.size, 1, none⟩ = some (.slice sq2 sm2 sc2) ∧ w'.cell? ⟨w.heap.size, 2, none⟩ = some (.slice sq3 sm3 sc3) ∧ w'.cell? ⟨w.heap.size + 1, 0, none⟩ = some (.int .i64 fu) ∧ w'.cell? ⟨w.heap.size + 1, 1, none⟩ = some (.string (S fn)) ∧ w'.cell? ⟨w.heap.size + 1, 2, none⟩ = some (.int .i64 2) ∧ w'.cell? ⟨w.heap.size + 1, 3, none⟩ = some (.int .i64 fke) ∧ w'.cell? ⟨w.heap.size + 1, 4, none⟩ = some (.int .i64 9) ∧ w'.cell? ⟨w.heap.size + 1, 5, none⟩ = some (.string (S ftn)) ∧ w'.cell? ⟨w.heap.size + 1, 6, none⟩ = some (.string (S [])) ∧ w'.cell? ⟨w.heap.size + 1, 7, none⟩ = some (.bool true) ∧ w'.cell? ⟨w.heap.size + 1, 8, none⟩ = some (.int .i64 fvk) ∧ w'.cell? ⟨w.heap.size + 1, 9, none⟩ = some (.int .u64 fvx) ∧ w'.cell? ⟨w.heap.size + 1, 10, none⟩ = some (.string (S fvt)) ∧ w'.cell? ⟨w.heap.size + 1, 11, none⟩ = some (.slice fr1 fm1 fd1) ∧ w'.cell? ⟨w.heap.size + 1, 12, none⟩ = some (.slice fr2 fm2 fd2) ∧ w'.cell? ⟨w.heap.size + 1, 13, none⟩ = some (.slice fr3 fm3 fd3) ∧ w'.cell? ⟨w.heap.size + 1, 14, none⟩ = some (.slice fr4 fm4 fd4) ∧ w'.cell? ⟨w.heap.size + 1, 15, none⟩ = some (.slice fr5 fm5 fd5)) (first | (exact KS.out _ (by (with_reducible repeat first | assumption | exact Bel.refl _ | refine Bel.drew ?_ | refine Bel.drewN ?_ _ | refine Bel.alloc ?_ _))))
  (first
   | (go_at_call 113; (with_reducible refine (CF.out _).mono ?_); rintro e w1 ⟨rfl, g1⟩; have k1 : Bel ((w.alloc (.cells #[.slice sq1 sm1 sc1, .slice sq2 sm2 sc2, .slice sq3 sm3 sc3] 26)).alloc (.cells #[.int .i64 fu, .string (S fn), .int .i64 2, .int .i64 fke, .int .i64 9, .string (S ftn), .string (S []), .bool true, .int .i64 fvk, .int .u64 fvx, .string (S fvt), .slice fr1 fm1 fd1, .slice fr2 fm2 fd2, .slice fr3 fm3 fd3, .slice fr4 fm4 fd4, .slice fr5 fm5 fd5] 68)) w1 := Bel.of (by (with_reducible repeat first | assumption | exact Bel.refl _ | refine Bel.drew ?_ | refine Bel.drewN ?_ _ | refine Bel.alloc ?_ _)) g1; clear g1)
   | (go_at_call 114; (with_reducible refine (CN.out _).mono ?_); rintro e w2 ⟨rfl, g1⟩; have k2 : Bel ((w.alloc (.cells #[.slice sq1 sm1 sc1, .slice sq2 sm2 sc2, .slice sq3 sm3 sc3] 26)).alloc (.cells #[.int .i64 fu, .string (S fn), .int .i64 2, .int .i64 fke, .int .i64 9, .string (S ftn), .string (S []), .bool true, .int .i64 fvk, .int .u64 fvx, .string (S fvt), .slice fr1 fm1 fd1, .slice fr2 fm2 fd2, .slice fr3 fm3 fd3, .slice fr4 fm4 fd4, .slice fr5 fm5 fd5] 68)) w2 := Bel.of (by (with_reducible repeat first | assumption | exact Bel.refl _ | refine Bel.drew ?_ | refine Bel.drewN ?_ _ | refine Bel.alloc ?_ _)) g1; clear g1))
 all_goals go_wp2_with (first
  | (go_at_call 109; (with_reducible refine (CE.out _ (show Bel ((w.alloc (.cells #[.slice sq1 sm1 sc1, .slice sq2 sm2 sc2, .slice sq3 sm3 sc3] 26)).alloc (.cells #[.int .i64 fu, .string (S fn), .int .i64 2, .int .i64 fke, .int .i64 9, .string (S ftn), .string (S []), .bool true, .int .i64 fvk, .int .u64 fvx, .string (S fvt), .slice fr1 fm1 fd1, .slice fr2 fm2 fd2, .slice fr3 fm3 fd3, .slice fr4 fm4 fd4, .slice fr5 fm5 fd5] 68)) _ by (with_reducible repeat first | assumption | exact Bel.refl _ | refine Bel.drew ?_ | refine Bel.drewN ?_ _ | refine Bel.alloc ?_ _))).mono ?_); rintro e w3 ⟨ja, jb, jc, jd, je, jf, jg, jh, ji, jj, jk, rfl, hx, g1⟩; have k3 : Bel ((w.alloc (.cells #[.slice sq1 sm1 sc1, .slice sq2 sm2 sc2, .slice sq3 sm3 sc3] 26)).alloc (.cells #[.int .i64 fu, .string (S fn), .int .i64 2, .int .i64 fke, .int .i64 9, .string (S ftn), .string (S []), .bool true, .int .i64 fvk, .int .u64 fvx, .string (S fvt), .slice fr1 fm1 fd1, .slice fr2 fm2 fd2, .slice fr3 fm3 fd3, .slice fr4 fm4 fd4, .slice fr5 fm5 fd5] 68)) w3 := Bel.of (show Bel ((w.alloc (.cells #[.slice sq1 sm1 sc1, .slice sq2 sm2 sc2, .slice sq3 sm3 sc3] 26)).alloc (.cells #[.int .i64 fu, .string (S fn), .int .i64 2, .int .i64 fke, .int .i64 9, .string (S ftn), .string (S []), .bool true, .int .i64 fvk, .int .u64 fvx, .string (S fvt), .slice fr1 fm1 fd1, .slice fr2 fm2 fd2, .slice fr3 fm3 fd3, .slice fr4 fm4 fd4, .slice fr5 fm5 fd5] 68)) _ by (with_reducible repeat first | assumption | exact Bel.refl _ | refine Bel.drew ?_ | refine Bel.drewN ?_ _ | refine Bel.alloc ?_ _)) g1; obtain ⟨t0, t1, t2, t3, t4, t5, t6, t7, t8, t9, t10, t11, t12, t13, t14, t15, t16, t17, t18⟩ := KS.out _ k3; have hx2 := Lib.hid (hx _ rfl); have kx : Bel _ w3 := g1; clear g1 hx)
  | (go_at_call 72; (with_reducible refine (CI.out _ _ _ _ _ _ _ _ _ _ _ _ _ hx2.out (show Bel ((w.alloc (.cells #[.slice sq1 sm1 sc1, .slice sq2 sm2 sc2, .slice sq3 sm3 sc3] 26)).alloc (.cells #[.int .i64 fu, .string (S fn), .int .i64 2, .int .i64 fke, .int .i64 9, .string (S ftn), .string (S []), .bool true, .int .i64 fvk, .int .u64 fvx, .string (S fvt), .slice fr1 fm1 fd1, .slice fr2 fm2 fd2, .slice fr3 fm3 fd3, .slice fr4 fm4 fd4, .slice fr5 fm5 fd5] 68)) _ by (with_reducible repeat first | assumption | exact Bel.refl _ | refine Bel.drew ?_ | refine Bel.drewN ?_ _ | refine Bel.alloc ?_ _)) (by (with_reducible repeat first | assumption | exact Bel.refl _ | refine Bel.drew ?_ | refine Bel.drewN ?_ _ | refine Bel.alloc ?_ _))).mono ?_); rintro e w4 ⟨rfl, g1⟩; have k4 : Bel ((w.alloc (.cells #[.slice sq1 sm1 sc1, .slice sq2 sm2 sc2, .slice sq3 sm3 sc3] 26)).alloc (.cells #[.int .i64 fu, .string (S fn), .int .i64 2, .int .i64 fke, .int .i64 9, .string (S ftn), .string (S []), .bool true, .int .i64 fvk, .int .u64 fvx, .string (S fvt), .slice fr1 fm1 fd1, .slice fr2 fm2 fd2, .slice fr3 fm3 fd3, .slice fr4 fm4 fd4, .slice fr5 fm5 fd5] 68)) w4 := Bel.of (show Bel ((w.alloc (.cells #[.slice sq1 sm1 sc1, .slice sq2 sm2 sc2, .slice sq3 sm3 sc3] 26)).alloc (.cells #[.int .i64 fu, .string (S fn), .int .i64 2, .int .i64 fke, .int .i64 9, .string (S ftn), .string (S []), .bool true, .int .i64 fvk, .int .u64 fvx, .string (S fvt), .slice fr1 fm1 fd1, .slice fr2 fm2 fd2, .slice fr3 fm3 fd3, .slice fr4 fm4 fd4, .slice fr5 fm5 fd5] 68)) _ by (with_reducible repeat first | assumption | exact Bel.refl _ | refine Bel.drew ?_ | refine Bel.drewN ?_ _ | refine Bel.alloc ?_ _)) g1; clear g1))
 all_goals go_ret
 all_goals exact ⟨rfl, Bel.out (Bel.of (((Bel.refl w).alloc _).alloc _) (show Bel ((w.alloc (.cells #[.slice sq1 sm1 sc1, .slice sq2 sm2 sc2, .slice sq3 sm3 sc3] 26)).alloc (.cells #[.int .i64 fu, .string (S fn), .int .i64 2, .int .i64 fke, .int .i64 9, .string (S ftn), .string (S []), .bool true, .int .i64 fvk, .int .u64 fvx, .string (S fvt), .slice fr1 fm1 fd1, .slice fr2 fm2 fd2, .slice fr3 fm3 fd3, .slice fr4 fm4 fd4, .slice fr5 fm5 fd5] 68)) _ by (with_reducible repeat first | assumption | exact Bel.refl _ | refine Bel.drew ?_ | refine Bel.drewN ?_ _ | refine Bel.alloc ?_ _)))⟩
set_option maxHeartbeats 4000000 in
set_option maxRecDepth 100000 in
theorem ck_defaulted (sq1 sq2 sq3 : Option Addr) (sm1 sm2 sm3 sc1 sc2 sc3 : Nat) (s : PSchema) (fu : Int) (fn : Str) (fca fke ftk : Int) (ftn fun0 : Str) (fhd : Bool) (fvk fvx : Int) (fvt : Str) (fr1 fr2 fr3 fr4 fr5 : Option Addr) (fm1 fd1 fm2 fd2 fm3 fd3 fm4 fd4 fm5 fd5 : Nat) (nts : List PNote) (w : World) (hv : VSchema w [.slice sq1 sm1 sc1, .slice sq2 sm2 sc2, .slice sq3 sm3 sc3] s) (x0 : 0 ≤ fvx) (x1 : fvx < 18446744073709551616) (b1 : fm1 ≤ 140737488355328) (b2 : fm2 ≤ 140737488355328) (b3 : fm3 ≤ 140737488355328) (b4 : fm4 ≤ 140737488355328) :
  Calls Tryz.prog 90 #[.agg #[.slice sq1 sm1 sc1, .slice sq2 sm2 sc2, .slice sq3 sm3 sc3], .agg #[.int .i64 fu, .string (S fn), .int .i64 fca, .int .i64 fke, .int .i64 ftk, .string (S ftn), .string (S fun0), .bool fhd, .int .i64 fvk, .int .u64 fvx, .string (S fvt), .slice fr1 fm1 fd1, .slice fr2 fm2 fd2, .slice fr3 fm3 fd3, .slice fr4 fm4 fd4, .slice fr5 fm5 fd5]] w fun e w' => e = .returned (.bool (defaulted s ⟨fu, fn, fca, fke, ftk, ftn, fun0, fhd, ⟨fvk, fvx, fvt, fm1, fm2, fm3, fm4⟩, nts⟩)) ∧ Below w.heap.size w w' := by
 have V : defaulted s ⟨fu, fn, fca, fke, ftk, ftn, fun0, fhd, ⟨fvk, fvx, fvt, fm1, fm2, fm3, fm4⟩, nts⟩ = if fhd = false then zeroV ⟨fvk, fvx, fvt, fm1, fm2, fm3, fm4⟩ else if fca ≠ 2 ∨ fun0 ≠ [] ∨ Pr.fitsB ftk fvk fvx fvt (fm1 + fm2 + fm3 + fm4) = false ∨ Pr.normB fvk fvx ≠ fvx then false else if ftk ≠ 9 then true else match enumOf s ftn with | none => false | some e => e.items.any fun it => decide (u64 it.num = fvx) := rfl
 cases fhd with
 | false => exact df_Z sq1 sq2 sq3 sm1 sm2 sm3 sc1 sc2 sc3 fu fn fca fke ftk ftn fun0 fvk fvx fvt fr1 fr2 fr3 fr4 fr5 fm1 fd1 fm2 fd2 fm3 fd3 fm4 fd4 fm5 fd5 w _ (by rw [V, if_pos rfl]) x0 x1 b1 b2 b3 b4
 | true =>
  rw [if_neg (by simp)] at V
  by_cases hc : fca = 2
  ·subst hc
   by_cases hu : fun0 = []
   ·subst hu
    cases hfit : Pr.fitsB ftk fvk fvx fvt (fm1 + fm2 + fm3 + fm4) with
    | false => exact df_D sq1 sq2 sq3 sm1 sm2 sm3 sc1 sc2 sc3 fu fn fke ftk ftn fvk fvx fvt fr1 fr2 fr3 fr4 fr5 fm1 fd1 fm2 fd2 fm3 fd3 fm4 fd4 fm5 fd5 w _ hfit (by rw [V, if_pos (.inr (.inr (.inl hfit)))]) x0 x1 b1 b2 b3 b4
    | true =>
     by_cases hY : Pr.normB fvk fvx = fvx
     ·rw [if_neg (by rw [hfit]; simp [hY])] at V
      by_cases ht : ftk = 9
      ·subst ht
       rw [if_neg (by simp)] at V
       cases hen : enumOf s ftn with
       | none => exact df_G sq1 sq2 sq3 sm1 sm2 sm3 sc1 sc2 sc3 fu fn fke ftn fvk fvx fvt fr1 fr2 fr3 fr4 fr5 fm1 fd1 fm2 fd2 fm3 fd3 fm4 fd4 fm5 fd5 w _ s hv hen hfit hY (by rw [V, hen]) x0 x1 b1 b2 b3 b4
       | some en => exact df_H sq1 sq2 sq3 sm1 sm2 sm3 sc1 sc2 sc3 fu fn fke ftn fvk fvx fvt fr1 fr2 fr3 fr4 fr5 fm1 fd1 fm2 fd2 fm3 fd3 fm4 fd4 fm5 fd5 w _ s en hv hen hfit hY (by rw [V, hen]) x0 x1 b1 b2 b3 b4
      ·exact df_F sq1 sq2 sq3 sm1 sm2 sm3 sc1 sc2 sc3 fu fn fke ftk ftn fvk fvx fvt fr1 fr2 fr3 fr4 fr5 fm1 fd1 fm2 fd2 fm3 fd3 fm4 fd4 fm5 fd5 w _ hfit hY ht (by rw [V, if_pos ht]) x0 x1 b1 b2 b3 b4
     ·exact df_E sq1 sq2 sq3 sm1 sm2 sm3 sc1 sc2 sc3 fu fn fke ftk ftn fvk fvx fvt fr1 fr2 fr3 fr4 fr5 fm1 fd1 fm2 fd2 fm3 fd3 fm4 fd4 fm5 fd5 w _ hfit hY (by rw [V, if_pos (.inr (.inr (.inr hY)))]) x0 x1 b1 b2 b3 b4
   ·exact df_C sq1 sq2 sq3 sm1 sm2 sm3 sc1 sc2 sc3 fu fn fke ftk ftn fun0 fvk fvx fvt fr1 fr2 fr3 fr4 fr5 fm1 fd1 fm2 fd2 fm3 fd3 fm4 fd4 fm5 fd5 w _ hu (by rw [V, if_pos (.inr (.inl hu))])
  ·exact df_B sq1 sq2 sq3 sm1 sm2 sm3 sc1 sc2 sc3 fu fn fca fke ftk ftn fun0 fvk fvx fvt fr1 fr2 fr3 fr4 fr5 fm1 fd1 fm2 fd2 fm3 fd3 fm4 fd4 fm5 fd5 w _ hc (by rw [V, if_pos (.inl hc)])
end Go.Proofs.YtigfjnbgchndkaaGreatDoor
