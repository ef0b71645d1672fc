/- The reference's First, Valid walked. Printed by genreff.py (from XCkFirst). -/
import Derived.Test.YtigfjnbgchndkaaGreatDoorRkAll
import Derived.Test.YtigfjnbgchndkaaGreatDoorKitF
namespace Go.Proofs.YtigfjnbgchndkaaGreatDoor
open Go.RowKit Ck
set_option linter.unusedVariables false
set_option linter.unusedSimpArgs false

set_option maxHeartbeats 4000000 in
set_option maxRecDepth 100000 in
theorem rk_Valid (sq1 sq2 sq3 : Option Addr) (sc1 sc2 sc3 : Nat) (s : PSchema) (w : World) (hs : VSchema w [.slice sq1 s.msgs.length sc1, .slice sq2 s.enums.length sc2, .slice sq3 s.svcs.length sc3] s) (hsh : Short s) :
  Calls Tryz.prog 15 #[.agg #[.slice sq1 s.msgs.length sc1, .slice sq2 s.enums.length sc2, .slice sq3 s.svcs.length sc3]] w fun e w' => e = .returned (.bool (valid s)) ∧ Below w.heap.size w w' := by
 have CA := Lib.hid (fun W (k : Bel w W) => rk_All sq1 sq2 sq3 sc1 sc2 sc3 s W (hs.stays_bel k) hsh)
 have HV := Lib.hid (show valid s = (all s).isEmpty from rfl)
 have hlen : (all s).length ≤ 1000000000 := hsh.2.2.2.2
 clear hs hsh
 generalize all s = T at CA HV hlen
 go_enter Tryz.func15, Tryz.ntmps15
 go_wp2_with (go_at_call 13; (with_reducible refine (CA.out _ (by (repeat (first | (with_reducible assumption) | (with_reducible exact Bel.refl _) | (with_reducible refine Bel.drew ?_) | (with_reducible refine Bel.drewN ?_ _) | (with_reducible refine Bel.alloc ?_ _) | ((with_reducible refine bel_set ?_ ?hge); (case hge => (first | omega | (simp; omega)))))))).mono ?_); rintro e w1 ⟨v, rfl, hown, g1⟩; obtain ⟨q, c, rfl⟩ := own_form hown; have k1 : Bel w w1 := Bel.of (by (repeat (first | (with_reducible assumption) | (with_reducible exact Bel.refl _) | (with_reducible refine Bel.drew ?_) | (with_reducible refine Bel.drewN ?_ _) | (with_reducible refine Bel.alloc ?_ _) | ((with_reducible refine bel_set ?_ ?hge); (case hge => (first | omega | (simp; omega))))))) g1; clear g1 hown)
 go_ret
 refine ⟨ret_bool ?_, k1.out⟩
 rw [HV.out, Bool.eq_iff_iff]
 cases T <;> simp <;> omega
set_option maxHeartbeats 4000000 in
set_option maxRecDepth 100000 in
theorem rk_First (sq1 sq2 sq3 : Option Addr) (sc1 sc2 sc3 : Nat) (s : PSchema) (w : World) (hs : VSchema w [.slice sq1 s.msgs.length sc1, .slice sq2 s.enums.length sc2, .slice sq3 s.svcs.length sc3] s) (hsh : Short s) :
  Calls Tryz.prog 10 #[.agg #[.slice sq1 s.msgs.length sc1, .slice sq2 s.enums.length sc2, .slice sq3 s.svcs.length sc3]] w fun e w' => e = .returned (firstV (all s)) ∧ Below w.heap.size w w' := by
 have CA := Lib.hid (fun W (k : Bel w W) => rk_All sq1 sq2 sq3 sc1 sc2 sc3 s W (hs.stays_bel k) hsh)
 have hlen : (all s).length ≤ 1000000000 := hsh.2.2.2.2
 clear hs hsh
 generalize all s = T at CA hlen
 go_enter Tryz.func10, Tryz.ntmps10
 cases T with
 | nil =>
  go_wp2_with (go_at_call 13; (with_reducible refine (CA.out _ (by (repeat (first | (with_reducible assumption) | (with_reducible exact Bel.refl _) | (with_reducible refine Bel.drew ?_) | (with_reducible refine Bel.drewN ?_ _) | (with_reducible refine Bel.alloc ?_ _) | ((with_reducible refine bel_set ?_ ?hge); (case hge => (first | omega | (simp; omega)))))))).mono ?_); rintro e w1 ⟨v, rfl, hown, g1⟩; obtain ⟨q, c, rfl⟩ := own_form hown; have k1 : Bel w w1 := Bel.of (by (repeat (first | (with_reducible assumption) | (with_reducible exact Bel.refl _) | (with_reducible refine Bel.drew ?_) | (with_reducible refine Bel.drewN ?_ _) | (with_reducible refine Bel.alloc ?_ _) | ((with_reducible refine bel_set ?_ ?hge); (case hge => (first | omega | (simp; omega))))))) g1; have hbk := Lib.hid (block_of_below g1 (heap_alloc_new _ _)); obtain ⟨hc, hf⟩ := bcell g1; have hz := g1.size; simp at hz; clear g1 hown)
  have hb0 := hbk.out
  simp only [World.size_alloc] at hb0
  clear hbk hc hf CA
  refine bodyPost_ret (v := .tuple #[.agg #[.string ⟨#[]⟩, .int .i64 0, .int .i64 0], .bool false]) ?hres rfl ?hpost
  case hres => exact res_row rfl rfl rfl (set3 hb0 _ _ _) Tryz.underlying31 rfl (by kernel_rfl)
  case hpost => exact ⟨rfl, Bel.out (by (repeat (first | (with_reducible assumption) | (with_reducible exact Bel.refl _) | (with_reducible refine Bel.drew ?_) | (with_reducible refine Bel.drewN ?_ _) | (with_reducible refine Bel.alloc ?_ _) | ((with_reducible refine bel_set ?_ ?hge); (case hge => (first | omega | (simp; omega)))))))⟩
 | cons p r =>
  have hpos : (0 : Int) < ((p :: r).length : Int) := by simp only [List.length_cons]; omega
  have hne : (((p :: r).length : Int) == 0) = false := beq_eq_false_iff_ne.2 (by simp only [List.length_cons]; omega)
  have HF := Lib.hid (show firstV (p :: r) = .tuple #[.agg #[.string (S p.df), .int .i64 p.num, .int .i64 p.err], .bool true] from rfl)
  have hfl : (p :: r).flatMap probC = .string (S p.df) :: .int .i64 p.num :: .int .i64 p.err :: r.flatMap probC := rfl
  have HFL := Lib.hid hfl
  have hn0 : (p :: r).length ≠ 0 := by simp
  have HN0 := Lib.hid hn0
  clear hfl hn0
  generalize firstV (p :: r) = FV at HF
  generalize hXS : (p :: r).flatMap probC = XS at HFL
  have HXS := Lib.hid hXS
  clear hXS
  generalize hLL : (p :: r).length = LL at hpos hne hlen HN0
  have HLL := Lib.hid hLL
  clear hLL
  go_wp2_with (go_at_call 13; (with_reducible refine (CA.out _ (by (repeat (first | (with_reducible assumption) | (with_reducible exact Bel.refl _) | (with_reducible refine Bel.drew ?_) | (with_reducible refine Bel.drewN ?_ _) | (with_reducible refine Bel.alloc ?_ _) | ((with_reducible refine bel_set ?_ ?hge); (case hge => (first | omega | (simp; omega)))))))).mono ?_); rintro e w1 ⟨v, rfl, hown, g1⟩; rw [HLL.out, HXS.out] at hown; obtain ⟨g, c, rfl, hcells⟩ := own_cells hown HN0.out; have e0 := hcells 0 _ (by rw [HFL.out]; rfl); have e1 := hcells 1 _ (by rw [HFL.out]; rfl); have e2 := hcells 2 _ (by rw [HFL.out]; rfl); have k1 : Bel w w1 := Bel.of (by (repeat (first | (with_reducible assumption) | (with_reducible exact Bel.refl _) | (with_reducible refine Bel.drew ?_) | (with_reducible refine Bel.drewN ?_ _) | (with_reducible refine Bel.alloc ?_ _) | ((with_reducible refine bel_set ?_ ?hge); (case hge => (first | omega | (simp; omega))))))) g1; have hbk := Lib.hid (block_of_below g1 (heap_alloc_new _ _)); obtain ⟨hc, hf⟩ := bcell g1; have hz := g1.size; simp at hz; clear g1 hown hcells)
  have hb0 := hbk.out
  simp only [World.size_alloc] at hb0
  clear hbk hc hf CA
  refine bodyPost_ret (v := .tuple #[.agg #[.string (S p.df), .int .i64 p.num, .int .i64 p.err], .bool true]) ?hres rfl ?hpost
  case hres => exact res_row rfl rfl rfl (set3 hb0 _ _ _) Tryz.underlying31 rfl (by kernel_rfl)
  case hpost => exact ⟨by rw [HF.out], Bel.out (by (repeat (first | (with_reducible assumption) | (with_reducible exact Bel.refl _) | (with_reducible refine Bel.drew ?_) | (with_reducible refine Bel.drewN ?_ _) | (with_reducible refine Bel.alloc ?_ _) | ((with_reducible refine bel_set ?_ ?hge); (case hge => (first | omega | (simp; omega)))))))⟩
end Go.Proofs.YtigfjnbgchndkaaGreatDoor
