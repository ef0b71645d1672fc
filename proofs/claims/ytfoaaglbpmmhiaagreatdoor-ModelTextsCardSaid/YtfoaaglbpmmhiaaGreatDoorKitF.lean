/- Layer 12 walked: First, Valid. -/
import Derived.Test.YtfoaaglbpmmhiaaGreatDoorCkAll
import Derived.Deep.DeepCutAuto
namespace Go.Proofs.YtfoaaglbpmmhiaaGreatDoor
open Go.RowKit Ck
set_option linter.unusedVariables false
set_option linter.unusedSimpArgs false

set_option maxHeartbeats 4000000 in
set_option maxRecDepth 100000 in
theorem ck_Valid (sq1 sq2 sq3 : Option Addr) (sm1 sm2 sm3 sc1 sc2 sc3 : Nat) (s : PSchema) (w : World) (hs : VSchema w [.slice sq1 sm1 sc1, .slice sq2 sm2 sc2, .slice sq3 sm3 sc3] s) (hM : ML w) (hsh : Short s) :
    Calls Tryz.prog 35 #[.agg #[.slice sq1 sm1 sc1, .slice sq2 sm2 sc2, .slice sq3 sm3 sc3]] w fun e w' => e = .returned (.bool (valid s)) ∧ Below w.heap.size w w' := by
  have CA := Lib.hid (fun W (k : Bel w W) => ck_All sq1 sq2 sq3 sm1 sm2 sm3 sc1 sc2 sc3 s W (hs.stays_bel k) (hM.below k) hsh)
  have HV := Lib.hid (show valid s = (all s).isEmpty from rfl)
  have hlen : (all s).length ≤ 1000000000 := hsh.2.2.2.2
  clear hs hM hsh
  generalize all s = T at CA HV hlen
  go_enter Tryz.func35, Tryz.ntmps35
  go_wp2_with (go_at_call 58; (with_reducible refine (CA.out _ (by (repeat (first | (with_reducible assumption) | (with_reducible exact Bel.refl _) | (with_reducible refine Bel.drew ?_) | (with_reducible refine Bel.drewN ?_ _) | (with_reducible refine Bel.alloc ?_ _) | ((with_reducible refine bel_set ?_ ?hge); (case hge => (first | omega | (simp; omega)))))))).mono ?_); rintro e w1 ⟨v, rfl, hown, g1⟩; obtain ⟨q, c, rfl⟩ := own_form hown; have k1 : Bel w w1 := Bel.of (by (repeat (first | (with_reducible assumption) | (with_reducible exact Bel.refl _) | (with_reducible refine Bel.drew ?_) | (with_reducible refine Bel.drewN ?_ _) | (with_reducible refine Bel.alloc ?_ _) | ((with_reducible refine bel_set ?_ ?hge); (case hge => (first | omega | (simp; omega))))))) g1; clear g1 hown)
  go_ret
  refine ⟨ret_bool ?_, k1.out⟩
  rw [HV.out, Bool.eq_iff_iff]
  cases T <;> simp <;> omega
theorem set3 {w1 : World} {g : Nat} {t : TypeId} {c0 c1 c2 : Value} (hg : w1.heap[g]? = some (.cells #[c0, c1, c2] t (0, 0))) (v0 v1 v2 : Value) :
    (((w1.setCell ⟨g, 0, none⟩ v0).setCell ⟨g, 1, none⟩ v1).setCell ⟨g, 2, none⟩ v2).heap[g]? = some (.cells #[v0, v1, v2] t (0, 0)) := by
  have h0 := heap_setCell_same w1 g 0 _ t v0 hg
  have h1 := heap_setCell_same _ g 1 _ t v1 h0
  exact heap_setCell_same _ g 2 _ t v2 h1
theorem own_cells {w : World} {B : Nat} {e : TypeId} {z : Nat} {v : Value} {n : Nat} {xs : List Value} (h : w.ownsRow B e z v n xs) (hn : n ≠ 0) : ∃ g c, v = .slice (some ⟨g, 0, none⟩) n c ∧ ∀ j u, xs[j]? = some u → w.cell? ⟨g, j, none⟩ = some u := by
  have h0 := h
  rcases h.2 with ⟨_, h2⟩ | ⟨g, cap, cur, rfl, _⟩
  · exact absurd h2 hn
  · refine ⟨g, cap, rfl, fun j u hu => ?_⟩
    have := h0.cells (g := g) rfl j u hu
    rw [Addr.add_lit, Nat.zero_add] at this
    exact this
/-- what First returns -/
def firstV (ps : List PProb) : Value := match ps with
  | [] => .tuple #[.agg #[.string ⟨#[]⟩, .int .i64 0, .int .i64 0], .bool false]
  | p :: _ => .tuple #[.agg #[.string (S p.df), .int .i64 p.num, .int .i64 p.err], .bool true]
end Go.Proofs.YtfoaaglbpmmhiaaGreatDoor

/- The schema that layer 12's laws try first, and what the plain functions say of it; no program. -/
namespace Go.Proofs.YtfoaaglbpmmhiaaGreatDoor
open Go.RowKit Ck
set_option linter.unusedVariables false
set_option linter.unusedSimpArgs false
def fW : PField := ⟨1, [120], 1, 0, 10, [97, 46, 77], [], false, ⟨0, 0, [], 0, 0, 0, 0⟩, []⟩
def mW : PMsg := ⟨[97, 46, 77], [fW], [], [], []⟩
def sW : PSchema := ⟨[mW], [], []⟩
def eW : PEnum := ⟨[97, 46, 69], false, [], [], []⟩
def vW : PSvc := ⟨[108, 105, 115, 116], [], []⟩
set_option maxRecDepth 100000 in
theorem all_W : all sW = [⟨[97, 46, 77], -1, 19⟩] := by kernel_rfl
set_option maxRecDepth 100000 in
theorem message_W : message sW mW = [⟨[97, 46, 77], -1, 19⟩] := by kernel_rfl
set_option maxRecDepth 100000 in
theorem enum_W : enum eW = [⟨[97, 46, 69], -1, 3⟩] := by kernel_rfl
set_option maxRecDepth 100000 in
theorem service_W : service sW vW = [⟨[108, 105, 115, 116], -1, 8⟩] := by kernel_rfl
set_option maxRecDepth 100000 in
theorem valid_0 : valid ⟨[], [], []⟩ = true := by kernel_rfl
theorem all_0 : (all ⟨[], [], []⟩).length ≤ 1000000000 := by
  have := valid_0
  unfold valid at this
  rw [List.isEmpty_iff.1 this]
  exact Nat.zero_le _
theorem short_W : Short sW := by
  refine ⟨fun m hm => ?_, (fun e he => by cases he), (fun e he => by cases he), ⟨by decide, by decide, by decide⟩, by rw [all_W]; decide⟩
  have hm' : m = mW := List.mem_singleton.1 hm
  subst hm'
  refine ⟨by decide, by decide, by decide, by decide, fun f hf => ?_, (fun e he => by cases he), (fun e he => by cases he)⟩
  have hf' : f = fW := List.mem_singleton.1 hf
  subst hf'
  exact ⟨by decide, by decide, by decide, (fun e he => by cases he)⟩
theorem short_0 : Short ⟨[], [], []⟩ := ⟨(fun m hm => by cases hm), (fun e he => by cases he), (fun e he => by cases he), ⟨by decide, by decide, by decide⟩, all_0⟩
end Go.Proofs.YtfoaaglbpmmhiaaGreatDoor

/- Layer 12's awake walked. -/
namespace Go.Proofs.YtfoaaglbpmmhiaaGreatDoor
open Go.RowKit Ck
set_option linter.unusedVariables false
set_option linter.unusedSimpArgs false
def fC : Array Value := #[.int .i64 1, .string ⟨#[120]⟩, .int .i64 1, .int .i64 0, .int .i64 10, .string ⟨#[97, 46, 77]⟩, .string ⟨#[]⟩, .bool false, .int .i64 0, .int .u64 0, .string ⟨#[]⟩, .slice none 0 0, .slice none 0 0, .slice none 0 0, .slice none 0 0, .slice none 0 0]
/-- the message whose only field lies in block b -/
theorem vmsg_W {W : World} {b : Nat} {t : TypeId} (h : W.heap[b]? = some (.cells fC t (0, 0))) : VMsg W [.string (S [97, 46, 77]), .slice (some ⟨b, 0, none⟩) 1 1, .slice none 0 0, .slice none 0 0, .slice none 0 0] mW := by
  refine ⟨_, _, _, _, rfl, ⟨some ⟨b, 0, none⟩, 1, rfl, by decide, by decide, fun i x hx => ?_⟩, Sl.nil _ _ _ _ _, Sl.nil _ _ _ _ _, Sl.nil _ _ _ _ _⟩
  have hi : i = 0 := by
    have := (List.getElem?_eq_some_iff.1 hx).1
    have h1 : mW.fields.length = 1 := rfl
    omega
  subst hi
  have hxe : fW = x := by
    have : mW.fields[0]? = some fW := rfl
    rw [this] at hx
    exact Option.some.inj hx
  subst hxe
  refine ⟨b, 0, rfl, (Array.getElem?_eq_some_iff.1 h).1, fC.toList, fun j v hv => ?_, ?_⟩
  · rw [Lib.cell_of_heap h, Nat.zero_mul, Nat.zero_add]
    simpa using hv
  · exact ⟨[.int .i64 0, .int .u64 0, .string ⟨#[]⟩, .slice none 0 0, .slice none 0 0, .slice none 0 0, .slice none 0 0], .slice none 0 0, rfl, ⟨none, none, none, none, 0, 0, 0, 0, rfl, by decide, by decide, by decide, by decide, by decide, by decide⟩, Sl.nil _ _ _ _ _⟩
theorem vschema_W {W : World} {b c : Nat} {t t2 : TypeId} (h : W.heap[b]? = some (.cells fC t (0, 0))) (h2 : W.heap[c]? = some (.cells #[.string (S [97, 46, 77]), .slice (some ⟨b, 0, none⟩) 1 1, .slice none 0 0, .slice none 0 0, .slice none 0 0] t2 (0, 0))) :
    VSchema W [.slice (some ⟨c, 0, none⟩) 1 1, .slice none 0 0, .slice none 0 0] sW := by
  refine ⟨_, _, _, rfl, ⟨some ⟨c, 0, none⟩, 1, rfl, by decide, by decide, fun i x hx => ?_⟩, Sl.nil _ _ _ _ _, Sl.nil _ _ _ _ _⟩
  have hi : i = 0 := by
    have := (List.getElem?_eq_some_iff.1 hx).1
    have h1 : sW.msgs.length = 1 := rfl
    omega
  subst hi
  have hxe : mW = x := by
    have : sW.msgs[0]? = some mW := rfl
    rw [this] at hx
    exact Option.some.inj hx
  subst hxe
  refine ⟨c, 0, rfl, (Array.getElem?_eq_some_iff.1 h2).1, _, fun j v hv => ?_, vmsg_W h⟩
  rw [Lib.cell_of_heap h2, Nat.zero_mul, Nat.zero_add]
  simpa using hv
theorem vschema_0 (W : World) : VSchema W [.slice none 0 0, .slice none 0 0, .slice none 0 0] ⟨[], [], []⟩ := ⟨_, _, _, rfl, Sl.nil _ _ _ _ _, Sl.nil _ _ _ _ _, Sl.nil _ _ _ _ _⟩
theorem spans_W {W : World} {b : Nat} {t : TypeId} (h : W.heap[b]? = some (.cells #[.int .i64 3, .int .i64 5] t (0, 0))) : Spans W (.slice (some ⟨b, 0, none⟩) 1 1) [⟨3, 5⟩] := by
  refine ⟨some ⟨b, 0, none⟩, 1, rfl, by decide, by decide, fun i x hx => ?_⟩
  have hi : i = 0 := by
    have := (List.getElem?_eq_some_iff.1 hx).1
    simpa using this
  subst hi
  simp at hx
  subst hx
  refine ⟨b, 0, rfl, (Array.getElem?_eq_some_iff.1 h).1, _, fun j v hv => ?_, rfl⟩
  rw [Lib.cell_of_heap h, Nat.zero_mul, Nat.zero_add]
  simpa using hv
/-- one problem returned -/
theorem one_prob {f : FuncId} {args : Array Value} {w : World} {ps : List PProb} {d : Str} {n er : Int} (h : Calls Tryz.prog f args w (ProbsOut w ps)) (hp : ps = [⟨d, n, er⟩]) :
    Calls Tryz.prog f args w fun e w' => ∃ g c, e = .returned (.slice (some ⟨g, 0, none⟩) 1 c) ∧ w'.cell? ⟨g, 0, none⟩ = some (.string (S d)) ∧ w'.cell? ⟨g, 1, none⟩ = some (.int .i64 n) ∧ w'.cell? ⟨g, 2, none⟩ = some (.int .i64 er) ∧ Below w.heap.size w w' := by
  subst hp
  refine h.mono fun e w' he => ?_
  obtain ⟨v, rfl, hown, hb⟩ := he
  obtain ⟨g, c, rfl, hc⟩ := own_cells hown (by simp)
  exact ⟨g, c, rfl, hc 0 _ rfl, hc 1 _ rfl, hc 2 _ rfl, hb⟩
end Go.Proofs.YtfoaaglbpmmhiaaGreatDoor
