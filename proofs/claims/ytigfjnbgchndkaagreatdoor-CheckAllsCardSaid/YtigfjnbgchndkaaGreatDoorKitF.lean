/- Layer 12 walked: First, Valid. -/
import Derived.Test.YtigfjnbgchndkaaGreatDoorCkAll
import Derived.Deep.DeepCutAuto
namespace Go.Proofs.YtigfjnbgchndkaaGreatDoor
open Go.RowKit Ck
set_option linter.unusedVariables false
set_option linter.unusedSimpArgs false

set_option maxHeartbeats 4000000 in
set_option maxRecDepth 100000 in
theorem ck_Valid (sq1 sq2 sq3 : Option Addr) (sm1 sm2 sm3 sc1 sc2 sc3 : Nat) (s : PSchema) (w : World) (hs : VSchema w [.slice sq1 sm1 sc1, .slice sq2 sm2 sc2, .slice sq3 sm3 sc3] s) (hM : ML w) (hsh : Short s) :
  Calls Tryz.prog 14 #[.agg #[.slice sq1 sm1 sc1, .slice sq2 sm2 sc2, .slice sq3 sm3 sc3]] w fun e w' => e = .returned (.bool (valid s)) ∧ Below w.heap.size w w' := by
 have CA := Lib.hid (fun W (k : Bel w W) => ck_All sq1 sq2 sq3 sm1 sm2 sm3 sc1 sc2 sc3 s W (hs.stays_bel k) (hM.below k) hsh)
 have HV := Lib.hid (show valid s = (all s).isEmpty from rfl)
 have hlen : (all s).length ≤ 1000000000 := hsh.2.2.2.2
 clear hs hM hsh
 generalize all s = T at CA HV hlen
 go_enter Tryz.func14, Tryz.ntmps14
 go_wp2_with (go_at_call 12; (with_reducible refine (CA.out _ (by (repeat (first | (with_reducible assumption) | (with_reducible exact Bel.refl _) | (with_reducible refine Bel.drew ?_) | (with_reducible refine Bel.drewN ?_ _) | (with_reducible refine Bel.alloc ?_ _) | ((with_reducible refine bel_set ?_ ?hge); (case hge => (first | omega | (simp; omega)))))))).mono ?_); rintro e w1 ⟨v, rfl, hown, g1⟩; obtain ⟨q, c, rfl⟩ := own_form hown; have k1 : Bel w w1 := Bel.of (by (repeat (first | (with_reducible assumption) | (with_reducible exact Bel.refl _) | (with_reducible refine Bel.drew ?_) | (with_reducible refine Bel.drewN ?_ _) | (with_reducible refine Bel.alloc ?_ _) | ((with_reducible refine bel_set ?_ ?hge); (case hge => (first | omega | (simp; omega))))))) g1; clear g1 hown)
 go_ret
 refine ⟨ret_bool ?_, k1.out⟩
 rw [HV.out, Bool.eq_iff_iff]
 cases T <;> simp <;> omega
theorem set3 {w1 : World} {g : Nat} {t : TypeId} {c0 c1 c2 : Value} (hg : w1.heap[g]? = some (.cells #[c0, c1, c2] t (0, 0))) (v0 v1 v2 : Value) :
  (((w1.setCell ⟨g, 0, none⟩ v0).setCell ⟨g, 1, none⟩ v1).setCell ⟨g, 2, none⟩ v2).heap[g]? = some (.cells #[v0, v1, v2] t (0, 0)) := by
 have h0 := heap_setCell_same w1 g 0 _ t v0 hg
 have h1 := heap_setCell_same _ g 1 _ t v1 h0
 exact heap_setCell_same _ g 2 _ t v2 h1
theorem own_cells {w : World} {B : Nat} {e : TypeId} {z : Nat} {v : Value} {n : Nat} {xs : List Value} (h : w.ownsRow B e z v n xs) (hn : n ≠ 0) : ∃ g c, v = .slice (some ⟨g, 0, none⟩) n c ∧ ∀ j u, xs[j]? = some u → w.cell? ⟨g, j, none⟩ = some u := by
 have h0 := h
 rcases h.2 with ⟨_, h2⟩ | ⟨g, cap, cur, rfl, _⟩
 ·exact absurd h2 hn
 ·refine ⟨g, cap, rfl, fun j u hu => ?_⟩
  have := h0.cells (g := g) rfl j u hu
  rw [Addr.add_lit, Nat.zero_add] at this
  exact this
def firstV (ps : List PProb) : Value := match ps with
 | [] => .tuple #[.agg #[.string ⟨#[]⟩, .int .i64 0, .int .i64 0], .bool false]
 | p :: _ => .tuple #[.agg #[.string (S p.df), .int .i64 p.num, .int .i64 p.err], .bool true]
set_option maxHeartbeats 4000000 in
set_option maxRecDepth 100000 in
theorem ck_First (sq1 sq2 sq3 : Option Addr) (sm1 sm2 sm3 sc1 sc2 sc3 : Nat) (s : PSchema) (w : World) (hs : VSchema w [.slice sq1 sm1 sc1, .slice sq2 sm2 sc2, .slice sq3 sm3 sc3] s) (hM : ML w) (hsh : Short s) :
  Calls Tryz.prog 9 #[.agg #[.slice sq1 sm1 sc1, .slice sq2 sm2 sc2, .slice sq3 sm3 sc3]] w fun e w' => e = .returned (firstV (all s)) ∧ Below w.heap.size w w' := by
 have CA := Lib.hid (fun W (k : Bel w W) => ck_All sq1 sq2 sq3 sm1 sm2 sm3 sc1 sc2 sc3 s W (hs.stays_bel k) (hM.below k) hsh)
 have hlen : (all s).length ≤ 1000000000 := hsh.2.2.2.2
 clear hs hM hsh
 generalize all s = T at CA hlen
 go_enter Tryz.func9, Tryz.ntmps9
 cases T with
 | nil =>
  go_wp2_with (go_at_call 12; (with_reducible refine (CA.out _ (by (repeat (first | (with_reducible assumption) | (with_reducible exact Bel.refl _) | (with_reducible refine Bel.drew ?_) | (with_reducible refine Bel.drewN ?_ _) | (with_reducible refine Bel.alloc ?_ _) | ((with_reducible refine bel_set ?_ ?hge); (case hge => (first | omega | (simp; omega)))))))).mono ?_); rintro e w1 ⟨v, rfl, hown, g1⟩; obtain ⟨q, c, rfl⟩ := own_form hown; have k1 : Bel w w1 := Bel.of (by (repeat (first | (with_reducible assumption) | (with_reducible exact Bel.refl _) | (with_reducible refine Bel.drew ?_) | (with_reducible refine Bel.drewN ?_ _) | (with_reducible refine Bel.alloc ?_ _) | ((with_reducible refine bel_set ?_ ?hge); (case hge => (first | omega | (simp; omega))))))) g1; have hbk := Lib.hid (block_of_below g1 (heap_alloc_new _ _)); obtain ⟨hc, hf⟩ := bcell g1; have hz := g1.size; simp at hz; clear g1 hown)
  have hb0 := hbk.out
  simp only [World.size_alloc] at hb0
  clear hbk hc hf CA
  refine bodyPost_ret (v := .tuple #[.agg #[.string ⟨#[]⟩, .int .i64 0, .int .i64 0], .bool false]) ?hres rfl ?hpost
  case hres => exact res_row rfl rfl rfl (set3 hb0 _ _ _) Tryz.underlying31 rfl (by kernel_rfl)
  case hpost => exact ⟨rfl, Bel.out (by (repeat (first | (with_reducible assumption) | (with_reducible exact Bel.refl _) | (with_reducible refine Bel.drew ?_) | (with_reducible refine Bel.drewN ?_ _) | (with_reducible refine Bel.alloc ?_ _) | ((with_reducible refine bel_set ?_ ?hge); (case hge => (first | omega | (simp; omega)))))))⟩
 | cons p r =>
  have hpos : (0 : Int) < ((p :: r).length : Int) := by simp only [List.length_cons]; omega
  have hne : (((p :: r).length : Int) == 0) = false := beq_eq_false_iff_ne.2 (by simp only [List.length_cons]; omega)
  have HF := Lib.hid (show firstV (p :: r) = .tuple #[.agg #[.string (S p.df), .int .i64 p.num, .int .i64 p.err], .bool true] from rfl)
  have hfl : (p :: r).flatMap probC = .string (S p.df) :: .int .i64 p.num :: .int .i64 p.err :: r.flatMap probC := rfl
  have HFL := Lib.hid hfl
  have hn0 : (p :: r).length ≠ 0 := by simp
  have HN0 := Lib.hid hn0
  clear hfl hn0
  generalize firstV (p :: r) = FV at HF
  generalize hXS : (p :: r).flatMap probC = XS at HFL
  have HXS := Lib.hid hXS
  clear hXS
  generalize hLL : (p :: r).length = LL at hpos hne hlen HN0
  have HLL := Lib.hid hLL
  clear hLL
  go_wp2_with (go_at_call 12; (with_reducible refine (CA.out _ (by (repeat (first | (with_reducible assumption) | (with_reducible exact Bel.refl _) | (with_reducible refine Bel.drew ?_) | (with_reducible refine Bel.drewN ?_ _) | (with_reducible refine Bel.alloc ?_ _) | ((with_reducible refine bel_set ?_ ?hge); (case hge => (first | omega | (simp; omega)))))))).mono ?_); rintro e w1 ⟨v, rfl, hown, g1⟩; rw [HLL.out, HXS.out] at hown; obtain ⟨g, c, rfl, hcells⟩ := own_cells hown HN0.out; have e0 := hcells 0 _ (by rw [HFL.out]; rfl); have e1 := hcells 1 _ (by rw [HFL.out]; rfl); have e2 := hcells 2 _ (by rw [HFL.out]; rfl); have k1 : Bel w w1 := Bel.of (by (repeat (first | (with_reducible assumption) | (with_reducible exact Bel.refl _) | (with_reducible refine Bel.drew ?_) | (with_reducible refine Bel.drewN ?_ _) | (with_reducible refine Bel.alloc ?_ _) | ((with_reducible refine bel_set ?_ ?hge); (case hge => (first | omega | (simp; omega))))))) g1; have hbk := Lib.hid (block_of_below g1 (heap_alloc_new _ _)); obtain ⟨hc, hf⟩ := bcell g1; have hz := g1.size; simp at hz; clear g1 hown hcells)
  have hb0 := hbk.out
  simp only [World.size_alloc] at hb0
  clear hbk hc hf CA
  refine bodyPost_ret (v := .tuple #[.agg #[.string (S p.df), .int .i64 p.num, .int .i64 p.err], .bool true]) ?hres rfl ?hpost
  case hres => exact res_row rfl rfl rfl (set3 hb0 _ _ _) Tryz.underlying31 rfl (by kernel_rfl)
  case hpost => exact ⟨by rw [HF.out], Bel.out (by (repeat (first | (with_reducible assumption) | (with_reducible exact Bel.refl _) | (with_reducible refine Bel.drew ?_) | (with_reducible refine Bel.drewN ?_ _) | (with_reducible refine Bel.alloc ?_ _) | ((with_reducible refine bel_set ?_ ?hge); (case hge => (first | omega | (simp; omega)))))))⟩
end Go.Proofs.YtigfjnbgchndkaaGreatDoor

/- The schema that layer 12's laws try first, and what the plain functions say of it; no program. -/
namespace Go.Proofs.YtigfjnbgchndkaaGreatDoor
open Go.RowKit Ck
set_option linter.unusedVariables false
set_option linter.unusedSimpArgs false
def fW : PField := ⟨1, [120], 1, 0, 10, [97, 46, 77], [], false, ⟨0, 0, [], 0, 0, 0, 0⟩, []⟩
def mW : PMsg := ⟨[97, 46, 77], [fW], [], [], []⟩
def sW : PSchema := ⟨[mW], [], []⟩
def eW : PEnum := ⟨[97, 46, 69], false, [], [], []⟩
def vW : PSvc := ⟨[108, 105, 115, 116], [], []⟩
set_option maxRecDepth 100000 in
theorem all_W : all sW = [⟨[97, 46, 77], -1, 19⟩] := by kernel_rfl
set_option maxRecDepth 100000 in
theorem message_W : message sW mW = [⟨[97, 46, 77], -1, 19⟩] := by kernel_rfl
set_option maxRecDepth 100000 in
theorem enum_W : enum eW = [⟨[97, 46, 69], -1, 3⟩] := by kernel_rfl
set_option maxRecDepth 100000 in
theorem service_W : service sW vW = [⟨[108, 105, 115, 116], -1, 8⟩] := by kernel_rfl
set_option maxRecDepth 100000 in
theorem valid_0 : valid ⟨[], [], []⟩ = true := by kernel_rfl
theorem all_0 : (all ⟨[], [], []⟩).length ≤ 1000000000 := by
 have := valid_0
 unfold valid at this
 rw [List.isEmpty_iff.1 this]
 exact Nat.zero_le _
theorem short_W : Short sW := by
 refine ⟨fun m hm => ?_, (fun e he => by cases he), (fun e he => by cases he), ⟨by decide, by decide, by decide⟩, by rw [all_W]; decide⟩
 have hm' : m = mW := List.mem_singleton.1 hm
 subst hm'
 refine ⟨by decide, by decide, by decide, by decide, fun f hf => ?_, (fun e he => by cases he), (fun e he => by cases he)⟩
 have hf' : f = fW := List.mem_singleton.1 hf
 subst hf'
 exact ⟨by decide, by decide, by decide, (fun e he => by cases he)⟩
theorem short_0 : Short ⟨[], [], []⟩ := ⟨(fun m hm => by cases hm), (fun e he => by cases he), (fun e he => by cases he), ⟨by decide, by decide, by decide⟩, all_0⟩
end Go.Proofs.YtigfjnbgchndkaaGreatDoor

/- Layer 12's awake walked. -/
namespace Go.Proofs.YtigfjnbgchndkaaGreatDoor
open Go.RowKit Ck
set_option linter.unusedVariables false
set_option linter.unusedSimpArgs false
def fC : Array Value := #[.int .i64 1, .string ⟨#[120]⟩, .int .i64 1, .int .i64 0, .int .i64 10, .string ⟨#[97, 46, 77]⟩, .string ⟨#[]⟩, .bool false, .int .i64 0, .int .u64 0, .string ⟨#[]⟩, .slice none 0 0, .slice none 0 0, .slice none 0 0, .slice none 0 0, .slice none 0 0]
theorem vmsg_W {W : World} {b : Nat} {t : TypeId} (h : W.heap[b]? = some (.cells fC t (0, 0))) : VMsg W [.string (S [97, 46, 77]), .slice (some ⟨b, 0, none⟩) 1 1, .slice none 0 0, .slice none 0 0, .slice none 0 0] mW := by
 refine ⟨_, _, _, _, rfl, ⟨some ⟨b, 0, none⟩, 1, rfl, by decide, by decide, fun i x hx => ?_⟩, Sl.nil _ _ _ _ _, Sl.nil _ _ _ _ _, Sl.nil _ _ _ _ _⟩
 have hi : i = 0 := by
  have := (List.getElem?_eq_some_iff.1 hx).1
  have h1 : mW.fields.length = 1 := rfl
  omega
 subst hi
 have hxe : fW = x := by
  have : mW.fields[0]? = some fW := rfl
  rw [this] at hx
  exact Option.some.inj hx
 subst hxe
 refine ⟨b, 0, rfl, (Array.getElem?_eq_some_iff.1 h).1, fC.toList, fun j v hv => ?_, ?_⟩
 ·rw [Lib.cell_of_heap h, Nat.zero_mul, Nat.zero_add]
  simpa using hv
 ·exact ⟨[.int .i64 0, .int .u64 0, .string ⟨#[]⟩, .slice none 0 0, .slice none 0 0, .slice none 0 0, .slice none 0 0], .slice none 0 0, rfl, ⟨none, none, none, none, 0, 0, 0, 0, rfl, by decide, by decide, by decide, by decide, by decide, by decide⟩, Sl.nil _ _ _ _ _⟩
theorem vschema_W {W : World} {b c : Nat} {t t2 : TypeId} (h : W.heap[b]? = some (.cells fC t (0, 0))) (h2 : W.heap[c]? = some (.cells #[.string (S [97, 46, 77]), .slice (some ⟨b, 0, none⟩) 1 1, .slice none 0 0, .slice none 0 0, .slice none 0 0] t2 (0, 0))) :
  VSchema W [.slice (some ⟨c, 0, none⟩) 1 1, .slice none 0 0, .slice none 0 0] sW := by
 refine ⟨_, _, _, rfl, ⟨some ⟨c, 0, none⟩, 1, rfl, by decide, by decide, fun i x hx => ?_⟩, Sl.nil _ _ _ _ _, Sl.nil _ _ _ _ _⟩
 have hi : i = 0 := by
  have := (List.getElem?_eq_some_iff.1 hx).1
  have h1 : sW.msgs.length = 1 := rfl
  omega
 subst hi
 have hxe : mW = x := by
  have : sW.msgs[0]? = some mW := rfl
  rw [this] at hx
  exact Option.some.inj hx
 subst hxe
 refine ⟨c, 0, rfl, (Array.getElem?_eq_some_iff.1 h2).1, _, fun j v hv => ?_, vmsg_W h⟩
 rw [Lib.cell_of_heap h2, Nat.zero_mul, Nat.zero_add]
 simpa using hv
theorem vschema_0 (W : World) : VSchema W [.slice none 0 0, .slice none 0 0, .slice none 0 0] ⟨[], [], []⟩ := ⟨_, _, _, rfl, Sl.nil _ _ _ _ _, Sl.nil _ _ _ _ _, Sl.nil _ _ _ _ _⟩
theorem spans_W {W : World} {b : Nat} {t : TypeId} (h : W.heap[b]? = some (.cells #[.int .i64 3, .int .i64 5] t (0, 0))) : Spans W (.slice (some ⟨b, 0, none⟩) 1 1) [⟨3, 5⟩] := by
 refine ⟨some ⟨b, 0, none⟩, 1, rfl, by decide, by decide, fun i x hx => ?_⟩
 have hi : i = 0 := by
  have := (List.getElem?_eq_some_iff.1 hx).1
  simpa using this
 subst hi
 simp at hx
 subst hx
 refine ⟨b, 0, rfl, (Array.getElem?_eq_some_iff.1 h).1, _, fun j v hv => ?_, rfl⟩
 rw [Lib.cell_of_heap h, Nat.zero_mul, Nat.zero_add]
 simpa using hv
theorem one_prob {f : FuncId} {args : Array Value} {w : World} {ps : List PProb} {d : Str} {n er : Int} (h : Calls Tryz.prog f args w (ProbsOut w ps)) (hp : ps = [⟨d, n, er⟩]) :
  Calls Tryz.prog f args w fun e w' => ∃ g c, e = .returned (.slice (some ⟨g, 0, none⟩) 1 c) ∧ w'.cell? ⟨g, 0, none⟩ = some (.string (S d)) ∧ w'.cell? ⟨g, 1, none⟩ = some (.int .i64 n) ∧ w'.cell? ⟨g, 2, none⟩ = some (.int .i64 er) ∧ Below w.heap.size w w' := by
 subst hp
 refine h.mono fun e w' he => ?_
 obtain ⟨v, rfl, hown, hb⟩ := he
 obtain ⟨g, c, rfl, hc⟩ := own_cells hown (by simp)
 exact ⟨g, c, rfl, hc 0 _ rfl, hc 1 _ rfl, hc 2 _ rfl, hb⟩
set_option maxHeartbeats 4000000 in
set_option maxRecDepth 100000 in
theorem law_awake (w : World) (hM : ML w) : Calls Tryz.prog 8 #[] w fun e w' => e = .returned (.bool true) ∧ Below w.heap.size w w' := by
 have aE := agg_Field
 obtain ⟨K, hK⟩ : ∃ K, K = 16 := ⟨_, rfl⟩
 have zE : ∀ w, (Go.sizeOf 68).run Tryz.prog w = .ok K w := hK ▸ size_Field
 have l2 : Sem.run Tryz.prog (loadCellsFrom ⟨w.heap.size, 0, none⟩ 0 K #[]) (w.alloc (.cells fC 68)) = .ok fC (w.alloc (.cells fC 68)) := run_loadCellsFrom_list Tryz.prog _ _ _ K hK.symm (fun j v hj => by
  rw [Addr.add_lit, Nat.zero_add, World.cell?_alloc_at _ _ _ _ rfl]
  simpa [fC] using hj)
 have HK := Lib.hid hK
 clear hK
 unfold fC at l2
 go_enter Tryz.func8, Tryz.ntmps8
 go_upto_region 3 with (fail)
 all_goals (first | (exfalso; exact absurd HK.out.symm (by assumption)) | (have h16 : 16 = K := (by assumption); subst h16))
 clear l2 aE zE HK
 generalize hX : Array.setIfInBounds _ 15 (Value.slice none 0 0) = X
 have hXf : X = fC := by
  rw [← hX]
  kernel_rfl
 clear hX
 subst hXf
 generalize hW : World.alloc _ (.cells #[.slice (some ⟨w.heap.size + 1 + 1, 0, none⟩) 1 1, .slice none 0 0, .slice none 0 0] 26) = W4
 have hb1 : W4.heap[w.heap.size + 1]? = some (.cells fC 68 (0, 0)) := by
  rw [← hW]
  exact (heap_alloc_old _ _ (by simp)).trans ((heap_alloc_old _ _ (by simp)).trans (heap_alloc_at _ _ _ (by simp)))
 have hb2 : W4.heap[w.heap.size + 1 + 1]? = some (.cells #[.string ⟨#[97, 46, 77]⟩, .slice (some ⟨w.heap.size + 1, 0, none⟩) 1 1, .slice none 0 0, .slice none 0 0, .slice none 0 0] 42 (0, 0)) := by
  rw [← hW]
  exact (heap_alloc_old _ _ (by simp)).trans (heap_alloc_at _ _ _ (by simp))
 have hb3 : W4.heap[w.heap.size + 1 + 1 + 1]? = some (.cells #[.slice (some ⟨w.heap.size + 1 + 1, 0, none⟩) 1 1, .slice none 0 0, .slice none 0 0] 26 (0, 0)) := by
  rw [← hW]
  exact heap_alloc_at _ _ _ (by simp)
 have kb : Bel w W4 := by
  rw [← hW]
  exact ((((Bel.refl _).alloc _).alloc _).alloc _).alloc _
 clear hW
 have KQ := Lib.hid (fun W' (k : Bel W4 W') => show W'.cell? ⟨w.heap.size + 1 + 1 + 1, 0, none⟩ = some (.slice (some ⟨w.heap.size + 1 + 1, 0, none⟩) 1 1) ∧ W'.cell? ⟨w.heap.size + 1 + 1 + 1, 1, none⟩ = some (.slice none 0 0) ∧ W'.cell? ⟨w.heap.size + 1 + 1 + 1, 2, none⟩ = some (.slice none 0 0) ∧ W'.cell? ⟨w.heap.size + 1 + 1, 0, none⟩ = some (.string ⟨#[97, 46, 77]⟩) ∧ W'.cell? ⟨w.heap.size + 1 + 1, 1, none⟩ = some (.slice (some ⟨w.heap.size + 1, 0, none⟩) 1 1) ∧ W'.cell? ⟨w.heap.size + 1 + 1, 2, none⟩ = some (.slice none 0 0) ∧ W'.cell? ⟨w.heap.size + 1 + 1, 3, none⟩ = some (.slice none 0 0) ∧ W'.cell? ⟨w.heap.size + 1 + 1, 4, none⟩ = some (.slice none 0 0) from ⟨k.some ((Lib.cell_of_heap hb3 0).trans rfl), k.some ((Lib.cell_of_heap hb3 1).trans rfl), k.some ((Lib.cell_of_heap hb3 2).trans rfl), k.some ((Lib.cell_of_heap hb2 0).trans rfl), k.some ((Lib.cell_of_heap hb2 1).trans rfl), k.some ((Lib.cell_of_heap hb2 2).trans rfl), k.some ((Lib.cell_of_heap hb2 3).trans rfl), k.some ((Lib.cell_of_heap hb2 4).trans rfl)⟩)
 have hVS : VSchema W4 [.slice (some ⟨w.heap.size + 1 + 1, 0, none⟩) 1 1, .slice none 0 0, .slice none 0 0] sW := vschema_W hb1 hb2
 have hVM : VMsg W4 [.string (S [97, 46, 77]), .slice (some ⟨w.heap.size + 1, 0, none⟩) 1 1, .slice none 0 0, .slice none 0 0, .slice none 0 0] mW := vmsg_W hb1
 have hM4 : ML W4 := hM.below kb.out
 have CA : Hid (∀ W, Bel W4 W → Calls Tryz.prog 12 #[.agg #[.slice (some ⟨w.heap.size + 1 + 1, 0, none⟩) 1 1, .slice none 0 0, .slice none 0 0]] W (fun e w' => ∃ g c, e = .returned (.slice (some ⟨g, 0, none⟩) 1 c) ∧ w'.cell? ⟨g, 0, none⟩ = some (.string ⟨#[97, 46, 77]⟩) ∧ w'.cell? ⟨g, 1, none⟩ = some (.int .i64 (-1)) ∧ w'.cell? ⟨g, 2, none⟩ = some (.int .i64 19) ∧ Below W.heap.size W w')) := Lib.hid (fun W k => one_prob (ck_All _ _ _ _ _ _ _ _ _ sW W (hVS.stays_bel k) (hM4.below k.out) short_W) all_W)
 have CF : Hid (∀ W, Bel W4 W → Calls Tryz.prog 9 #[.agg #[.slice (some ⟨w.heap.size + 1 + 1, 0, none⟩) 1 1, .slice none 0 0, .slice none 0 0]] W (fun e w' => e = .returned (.tuple #[.agg #[.string ⟨#[97, 46, 77]⟩, .int .i64 (-1), .int .i64 19], .bool true]) ∧ Below W.heap.size W w')) := Lib.hid (fun W k => (ck_First _ _ _ _ _ _ _ _ _ sW W (hVS.stays_bel k) (hM4.below k.out) short_W).mono fun e w' h => ⟨by rw [h.1, all_W]; rfl, h.2⟩)
 have CV : Hid (∀ W, Bel W4 W → Calls Tryz.prog 14 #[.agg #[.slice (some ⟨w.heap.size + 1 + 1, 0, none⟩) 1 1, .slice none 0 0, .slice none 0 0]] W (fun e w' => e = .returned (.bool false) ∧ Below W.heap.size W w')) := Lib.hid (fun W k => (ck_Valid _ _ _ _ _ _ _ _ _ sW W (hVS.stays_bel k) (hM4.below k.out) short_W).mono fun e w' h => ⟨by rw [h.1]; unfold valid; rw [all_W]; rfl, h.2⟩)
 have CV0 : Hid (∀ W, Bel W4 W → Calls Tryz.prog 14 #[.agg #[.slice none 0 0, .slice none 0 0, .slice none 0 0]] W (fun e w' => e = .returned (.bool true) ∧ Below W.heap.size W w')) := Lib.hid (fun W k => (ck_Valid _ _ _ _ _ _ _ _ _ _ W (vschema_0 W) (hM4.below k.out) short_0).mono fun e w' h => ⟨by rw [h.1, valid_0], h.2⟩)
 have CM : Hid (∀ W, Bel W4 W → Calls Tryz.prog 17 #[.agg #[.slice (some ⟨w.heap.size + 1 + 1, 0, none⟩) 1 1, .slice none 0 0, .slice none 0 0], .agg #[.string ⟨#[97, 46, 77]⟩, .slice (some ⟨w.heap.size + 1, 0, none⟩) 1 1, .slice none 0 0, .slice none 0 0, .slice none 0 0]] W (fun e w' => ∃ g c, e = .returned (.slice (some ⟨g, 0, none⟩) 1 c) ∧ w'.cell? ⟨g, 0, none⟩ = some (.string ⟨#[97, 46, 77]⟩) ∧ w'.cell? ⟨g, 1, none⟩ = some (.int .i64 (-1)) ∧ w'.cell? ⟨g, 2, none⟩ = some (.int .i64 19) ∧ Below W.heap.size W w')) := Lib.hid (fun W k => one_prob (ck_Message _ _ _ _ _ _ _ _ _ sW [97, 46, 77] _ _ _ _ _ _ _ _ _ _ _ _ mW W (hVS.stays_bel k) (VMsg.stays _ _ _ _ k hVM) (hM4.below k.out) (by decide) (by decide) (by decide) (by decide) (short_W.1 mW (List.mem_singleton.2 rfl)).2.2.2.2.1 (fun g hg => by cases hg) (fun g hg => by cases hg) (by decide) (fun m hm => Nat.le_trans (short_W.1 m hm).1 (by decide)) (fun m hm => ⟨(short_W.1 m hm).2.1, fun f hf => ((short_W.1 m hm).2.2.2.2.1 f hf).2.2.1⟩)) message_W)
 have CE : Hid (∀ W, Bel W4 W → Calls Tryz.prog 19 #[.agg #[.string ⟨#[97, 46, 69]⟩, .bool false, .slice none 0 0, .slice none 0 0, .slice none 0 0]] W (fun e w' => ∃ g c, e = .returned (.slice (some ⟨g, 0, none⟩) 1 c) ∧ w'.cell? ⟨g, 0, none⟩ = some (.string ⟨#[97, 46, 69]⟩) ∧ w'.cell? ⟨g, 1, none⟩ = some (.int .i64 (-1)) ∧ w'.cell? ⟨g, 2, none⟩ = some (.int .i64 3) ∧ Below W.heap.size W w')) := Lib.hid (fun W k => one_prob (ck_Enum [97, 46, 69] false none none none 0 0 0 0 0 0 eW W ⟨_, _, _, rfl, Sl.nil _ _ _ _ _, Sl.nil _ _ _ _ _, Sl.nil _ _ _ _ _⟩ (hM4.below k.out) (by decide) (by decide) (by decide) (fun g hg => by cases hg) (fun g hg => by cases hg)) enum_W)
 have CS : Hid (∀ W, Bel W4 W → Calls Tryz.prog 21 #[.agg #[.slice (some ⟨w.heap.size + 1 + 1, 0, none⟩) 1 1, .slice none 0 0, .slice none 0 0], .agg #[.string ⟨#[108, 105, 115, 116]⟩, .slice none 0 0, .slice none 0 0]] W (fun e w' => ∃ g c, e = .returned (.slice (some ⟨g, 0, none⟩) 1 c) ∧ w'.cell? ⟨g, 0, none⟩ = some (.string ⟨#[108, 105, 115, 116]⟩) ∧ w'.cell? ⟨g, 1, none⟩ = some (.int .i64 (-1)) ∧ w'.cell? ⟨g, 2, none⟩ = some (.int .i64 8) ∧ Below W.heap.size W w')) := Lib.hid (fun W k => one_prob (ck_Service _ _ _ _ _ _ _ _ _ sW [108, 105, 115, 116] none none 0 0 0 0 vW W (hVS.stays_bel k) ⟨_, _, rfl, Sl.nil _ _ _ _ _, Sl.nil _ _ _ _ _⟩ (hM4.below k.out) (by decide) (by decide) (fun g hg => by cases hg) (fun g hg => by cases hg)) service_W)
 have CR : Hid (∀ (W W' : World), Bel (W.alloc (.cells #[.int .i64 3, .int .i64 5] 75)) W' → ∀ n, Calls Tryz.prog 25 #[.slice (some ⟨W.heap.size, 0, none⟩) 1 1, .int .i64 n] W' (fun e w' => e = .returned (.bool (reserved [⟨3, 5⟩] n)) ∧ Below W'.heap.size W' w')) := Lib.hid (fun W W' k n => ck_Reserved _ _ n W' ((spans_W (heap_alloc_at W _ _ rfl)).bel VSpan.stays k))
 clear hb1 hb2 hb3 hVS hVM hM4 hM
 have k0 : Bel W4 W4 := Bel.refl _
 obtain ⟨y0, y1, y2, y3, y4, y5, y6, y7⟩ := KQ.out _ k0
 go_upto_region 4 with (go_at_call 12; (with_reducible refine (CA.out _ (by (with_reducible repeat first | assumption | exact Bel.refl _ | refine Bel.drew ?_ | refine Bel.drewN ?_ _ | refine Bel.alloc ?_ _))).mono ?_); rintro e w1 ⟨g1, c1, rfl, x0, x1, x2, h1⟩; have j1 := Bel.of (Bel.refl _) h1; have k1 : Bel W4 w1 := Bel.of (by (with_reducible repeat first | assumption | exact Bel.refl _ | refine Bel.drew ?_ | refine Bel.drewN ?_ _ | refine Bel.alloc ?_ _)) h1; clear h1;  obtain ⟨y0, y1, y2, y3, y4, y5, y6, y7⟩ := KQ.out _ k1; have X1 := Lib.hid (And.intro x0 (And.intro x1 x2)); clear x0 x1 x2 y0 y1 y2 y3 y4 y5 y6 y7; obtain ⟨y0, y1, y2, y3, y4, y5, y6, y7⟩ := KQ.out _ k1)
 go_upto_region 5 with (go_at_call 9; (with_reducible refine (CF.out _ (by (with_reducible repeat first | assumption | exact Bel.refl _ | refine Bel.drew ?_ | refine Bel.drewN ?_ _ | refine Bel.alloc ?_ _))).mono ?_); rintro e w2 ⟨rfl, h2⟩; have j2 := Bel.of (Bel.refl _) h2; have k2 : Bel W4 w2 := Bel.of (by (with_reducible repeat first | assumption | exact Bel.refl _ | refine Bel.drew ?_ | refine Bel.drewN ?_ _ | refine Bel.alloc ?_ _)) h2; clear h2;  obtain ⟨y0, y1, y2, y3, y4, y5, y6, y7⟩ := KQ.out _ k2)
 generalize hW5 : World.alloc w2 _ = W5
 have j5 : Bel w2 W5 := by rw [← hW5]; exact (Bel.refl _).alloc _
 have p2 : W5.cell? ⟨w2.heap.size, 2, none⟩ = some (.int .i64 19) := by rw [← hW5, World.cell?_alloc_at _ _ _ _ rfl]; rfl
 clear hW5
 have k5 : Bel W4 W5 := Bel.of k2 j5.out
 have j15 : Bel w1 W5 := Bel.of j2 j5.out
 clear y0 y1 y2 y3 y4 y5 y6 y7
 obtain ⟨y0, y1, y2, y3, y4, y5, y6, y7⟩ := KQ.out _ k5
 have x0 := j15.some X1.out.1
 have x1 := j15.some X1.out.2.1
 have x2 := j15.some X1.out.2.2
 go_upto_region 7 with (go_at_call 14; (with_reducible refine (CV.out _ (by (with_reducible repeat first | assumption | exact Bel.refl _ | refine Bel.drew ?_ | refine Bel.drewN ?_ _ | refine Bel.alloc ?_ _))).mono ?_); rintro e w6 ⟨rfl, h6⟩; have j6 := Bel.of (Bel.refl _) h6; have k6 : Bel W4 w6 := Bel.of (by (with_reducible repeat first | assumption | exact Bel.refl _ | refine Bel.drew ?_ | refine Bel.drewN ?_ _ | refine Bel.alloc ?_ _)) h6; clear h6;  obtain ⟨y0, y1, y2, y3, y4, y5, y6, y7⟩ := KQ.out _ k6)
 clear x0 x1 x2 p2
 go_upto_region 8 with (go_at_call 19; (with_reducible refine (CE.out _ (by (with_reducible repeat first | assumption | exact Bel.refl _ | refine Bel.drew ?_ | refine Bel.drewN ?_ _ | refine Bel.alloc ?_ _))).mono ?_); rintro e w7 ⟨g2, c2, rfl, x0, x1, x2, h7⟩; have j7 := Bel.of (Bel.refl _) h7; have k7 : Bel W4 w7 := Bel.of (by (with_reducible repeat first | assumption | exact Bel.refl _ | refine Bel.drew ?_ | refine Bel.drewN ?_ _ | refine Bel.alloc ?_ _)) h7; clear h7;  obtain ⟨y0, y1, y2, y3, y4, y5, y6, y7⟩ := KQ.out _ k7; have X2 := Lib.hid (And.intro x0 (And.intro x1 x2)); clear x0 x1 x2)
 go_upto_region 9 with (go_at_call 21; (with_reducible refine (CS.out _ (by (with_reducible repeat first | assumption | exact Bel.refl _ | refine Bel.drew ?_ | refine Bel.drewN ?_ _ | refine Bel.alloc ?_ _))).mono ?_); rintro e w8 ⟨g3, c3, rfl, x0, x1, x2, h8⟩; have j8 := Bel.of (Bel.refl _) h8; have k8 : Bel W4 w8 := Bel.of (by (with_reducible repeat first | assumption | exact Bel.refl _ | refine Bel.drew ?_ | refine Bel.drewN ?_ _ | refine Bel.alloc ?_ _)) h8; clear h8;  obtain ⟨y0, y1, y2, y3, y4, y5, y6, y7⟩ := KQ.out _ k8; have X3 := Lib.hid (And.intro x0 (And.intro x1 x2)); clear x0 x1 x2)
 clear CA CF CV CE CS j1 j2 j5 k0 k1 k2 k5 k6 j6 j7 j15 X1
 obtain ⟨wd, hwd⟩ : ∃ wd, wd = w8.drew := ⟨_, rfl⟩
 have jd : Bel w8 wd := by rw [hwd]; exact (Bel.refl _).drew
 have kd : Bel W4 wd := Bel.of k8 jd.out
 have HWD := Lib.hid hwd
 clear hwd
 refine region_two 1 8 (by kernel_rfl) (by kernel_rfl) HWD.out ?_
 (simp only [List.take_succ_cons, List.take_zero, List.drop_succ_cons, List.drop_zero]); (repeat (first | ((with_reducible refine wpStill_step (fun K hK => ?_)); go_simp; (with_reducible refine hK _ ?_); clear hK K) | ((with_reducible refine rg_skip ?_ ?_); (with_unfolding_all rfl)))); (with_reducible refine wpStill_nil ?_)
 unfold wpOp
 go_simp
 refine Or.inl ((CV0.out _ kd).mono ?_)
 rintro e w9 ⟨rfl, h9⟩
 have k9 : Bel W4 w9 := Bel.of kd h9
 have j89 : Bel w8 w9 := Bel.of jd h9
 have j79 : Bel w7 w9 := Bel.of j8 j89.out
 clear h9 jd kd HWD
 obtain ⟨y0, y1, y2, y3, y4, y5, y6, y7⟩ := KQ.out _ k9
 have HX2 : Hid (∀ W, Bel w9 W → W.cell? ⟨g2, 2, none⟩ = some (.int .i64 3) ∧ W.cell? ⟨g3, 2, none⟩ = some (.int .i64 8)) := Lib.hid (fun W k => ⟨k.some (j79.some X2.out.2.2), k.some (j89.some X3.out.2.2)⟩)
 have CR5 : Hid (∀ (W W' : World), Bel (W.alloc (.cells #[.int .i64 3, .int .i64 5] 75)) W' → Calls Tryz.prog 25 #[.slice (some ⟨W.heap.size, 0, none⟩) 1 1, .int .i64 5] W' (fun e w' => e = .returned (.bool true) ∧ Below W'.heap.size W' w')) := Lib.hid (fun W W' k => CR.out W W' k 5)
 have CR6 : Hid (∀ (W W' : World), Bel (W.alloc (.cells #[.int .i64 3, .int .i64 5] 75)) W' → Calls Tryz.prog 25 #[.slice (some ⟨W.heap.size, 0, none⟩) 1 1, .int .i64 6] W' (fun e w' => e = .returned (.bool false) ∧ Below W'.heap.size W' w')) := Lib.hid (fun W W' k => CR.out W W' k 6)
 clear CR X2 X3 j8 j79 j89 k7 k8
 have b9 : Bel w w9 := Bel.of kb k9.out
 go_simp
 (repeat (first | ((with_reducible refine wpStill_step (fun K hK => ?_)); go_simp; (with_reducible refine hK _ ?_); clear hK K) | ((with_reducible refine rg_skip ?_ ?_); (with_unfolding_all rfl)))); (with_reducible refine wpStill_nil ?_)
 go_wp2_with (first
  | (go_at_call 17; (with_reducible refine (CM.out _ k9).mono ?_); rintro e w10 ⟨g4, c4, rfl, _, _, _, h⟩; have j10 : Bel w9 w10 := Bel.of (Bel.refl _) h; have b10 : Bel w w10 := Bel.of b9 h; clear h; obtain ⟨z2, z3⟩ := HX2.out _ j10)
  | (go_at_call 25; (with_reducible refine (CR5.out _ _ (Bel.refl _)).mono ?_); rintro e w11 ⟨rfl, h⟩; have b11 : Bel w w11 := Bel.of (b10.alloc _) h; clear h z2 z3)
  | (go_at_call 25; (with_reducible refine (CR6.out _ _ (Bel.refl _)).mono ?_); rintro e w12 ⟨rfl, h⟩; have b12 : Bel w w12 := Bel.of (b11.alloc _) h; clear h))
 go_ret
 exact ⟨rfl, b12.out⟩
end Go.Proofs.YtigfjnbgchndkaaGreatDoor
