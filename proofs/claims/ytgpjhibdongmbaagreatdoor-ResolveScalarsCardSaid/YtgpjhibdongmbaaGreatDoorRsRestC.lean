/- What RsRowC needs beyond the texts of RsRowS. Put together by prune5.py. -/
import Derived.Test.YtgpjhibdongmbaaGreatDoorCkFinder
import Derived.Test.YtgpjhibdongmbaaGreatDoorCkIdx
import Derived.Test.YtgpjhibdongmbaaGreatDoorCkMl
import Derived.Test.YtgpjhibdongmbaaGreatDoorIdRef1
import Derived.Test.YtgpjhibdongmbaaGreatDoorIdWord
import Derived.Test.YtgpjhibdongmbaaGreatDoorMap
import Derived.Test.YtgpjhibdongmbaaGreatDoorMzTree
import Derived.Test.YtgpjhibdongmbaaGreatDoorOrd
import Derived.Test.YtgpjhibdongmbaaGreatDoorPrProg1
import Derived.Test.YtgpjhibdongmbaaGreatDoorPrRef2
import Derived.Test.YtgpjhibdongmbaaGreatDoorRkD
import Derived.Test.YtgpjhibdongmbaaGreatDoorRowBox
import Derived.Test.YtgpjhibdongmbaaGreatDoorRsAw
import Derived.Test.YtgpjhibdongmbaaGreatDoorRsEnd
import Derived.Test.YtgpjhibdongmbaaGreatDoorRsFin
import Derived.Test.YtgpjhibdongmbaaGreatDoorRsIdx
import Derived.Test.YtgpjhibdongmbaaGreatDoorRsLawS
import Derived.Test.YtgpjhibdongmbaaGreatDoorRsMem
import Derived.Test.YtgpjhibdongmbaaGreatDoorRsOrd
import Derived.Test.YtgpjhibdongmbaaGreatDoorRsPt
import Derived.Test.YtgpjhibdongmbaaGreatDoorRsR22C
import Derived.Test.YtgpjhibdongmbaaGreatDoorRsR22D
import Derived.Test.YtgpjhibdongmbaaGreatDoorRsR22F
import Derived.Test.YtgpjhibdongmbaaGreatDoorRsR22G
import Derived.Test.YtgpjhibdongmbaaGreatDoorRsR22H
import Derived.Test.YtgpjhibdongmbaaGreatDoorRsR22J
import Derived.Test.YtgpjhibdongmbaaGreatDoorRsRep
import Derived.Test.YtgpjhibdongmbaaGreatDoorRsRes11
import Derived.Test.YtgpjhibdongmbaaGreatDoorRsRes12
import Derived.Test.YtgpjhibdongmbaaGreatDoorRsRes2
import Derived.Test.YtgpjhibdongmbaaGreatDoorRsRes4
import Derived.Test.YtgpjhibdongmbaaGreatDoorRsRes5
import Derived.Test.YtgpjhibdongmbaaGreatDoorRsRes6
import Derived.Test.YtgpjhibdongmbaaGreatDoorRsRes9
import Derived.Test.YtgpjhibdongmbaaGreatDoorRsText
import Derived.Test.YtgpjhibdongmbaaGreatDoorRsThm
import Derived.Test.YtgpjhibdongmbaaGreatDoorRsWro
import Derived.Test.YtgpjhibdongmbaaGreatDoorShelf
import Derived.Test.YtgpjhibdongmbaaGreatDoorStillL
import Derived.Test.YtgpjhibdongmbaaGreatDoorTreeG
import Derived.Test.YtgpjhibdongmbaaGreatDoorUtfDec
import Derived.BigQuiet
import Derived.Deep.AppendLies
import Derived.Deep.CutBlock
import Derived.Deep.DeepCutAuto
import Derived.Deep.DeepHandedRow
import Derived.Deep.Light
import Derived.Deep.OwnRows
import Derived.Deep.QuietTactic
import Derived.Deep.RegionHeld3
import Derived.Deep.RegionLaw
import Derived.Deep.Slices
import Derived.Deep.Upon
import Derived.Deep.WholeRow
import Derived.Handy
import Derived.IntWalk
import Derived.LaidLaws
import Derived.Laws.Bits64b
import Derived.Laws.CopyRow
import Derived.Laws.RangeAny
import Derived.Laws.Strings
import Derived.Laws.Tables
import Derived.Lay
import Derived.Lib.AppendIntMem
import Derived.Lib.Hide
import Derived.Lib.ItoaLen
import Derived.Lib.ItoaNum
import Derived.Lib.LaidTab
import Derived.Lib.LastIndexByte
import Derived.Lib.OthersKept
import Derived.Lib.Split
import Derived.MakeChecks
import Derived.Maps.OwnSet
import Derived.Maps.Views
import Derived.OpenShut
import Derived.OrdersHeld
import Derived.ProofKit
import Derived.ReadAgain
import Derived.Shelf.LaysM
import Derived.Shelf.SlicesQ.Load
import Derived.Shelf.Strconv.Itoa0
import Derived.Shelf.Strconv.Itoa1
import Derived.Shelf.Strconv.Itoa2
import Derived.Shelf.Strconv.Itoa3
import Derived.Shelf.Strings.Builder1
import Derived.Shelf.Strings.BuilderF
import Derived.Shelf.Strings.BuilderK
import Derived.Shelf.Strings.Count
import Derived.Shelf.Strings.Prefix
import Derived.Shelf.Strings.Search1
import Derived.Shelf.Strings.Search2
import Derived.Shelf.Strings.Search3
import Derived.Shelf.Strings.Shaped
import Derived.Shelf.Strings.Split
import Derived.Shelf.Strings.SplitShaped
import Derived.Shelf.Unicode.DecodeSlow
import Derived.StillTailTactics
import Derived.Stop.LaidErr
import Derived.StringKeys
import Derived.WalkKit
import Derived.WalkLawsBesides
import Derived.WalkSpells
import GoSem.Core.Utf8
set_option maxRecDepth 100000
set_option maxHeartbeats 6000000
set_option linter.unusedVariables false
set_option linter.unusedSimpArgs false
namespace Go.Proofs.YtgpjhibdongmbaaGreatDoor.Pr

/-! the specification's way -/
def famR (f k : Int) : Int :=
  if isF f = false ∨ isK k = false then 0
  else if k = 8 ∧ f ≠ 4 then 7
  else if f = 1 then (if k = 4 ∨ k = 5 ∨ k = 9 then 1 else if k = 3 then 2 else k)
  else if (k = 2 ∨ k = 3 ∨ k = 4 ∨ k = 5) ∨ (k = 9 ∧ f = 2) then 2 else k
def levR (f a b : Int) : Int := if famR f a = 0 ∨ famR f a ≠ famR f b then 0 else if a = b ∨ a = 7 then 2 else if a = 8 ∨ inR a b = false then 1 else 2

theorem famR_eq (f k : Int) : famR f k = fam f k := by
  unfold famR fam
  cases hf : isF f with
  | false => simp
  | true =>
    cases hk : isK k with
    | false => simp
    | true =>
      rcases isF_true hf with rfl | rfl | rfl <;> rcases qbp hk with rfl | rfl | rfl | rfl | rfl | rfl | rfl | rfl | rfl <;> decide
theorem levR_eq (f a b : Int) : levR f a b = lev f a b := by
  unfold levR lev
  rw [famR_eq, famR_eq]
  cases hr : rel f a b with
  | false =>
    rw [if_pos rfl, if_pos]
    have := of_decide_eq_false hr
    omega
  | true =>
    obtain ⟨h1, h2, h3⟩ := rel_true hr
    rcases isF_true h1 with rfl | rfl | rfl <;> rcases qbp h2 with rfl | rfl | rfl | rfl | rfl | rfl | rfl | rfl | rfl <;> rcases qbp h3 with rfl | rfl | rfl | rfl | rfl | rfl | rfl | rfl | rfl <;> first | (exfalso; revert hr; decide) | decide

/-! scalars -/
/-! conversions -/
/-! the specification's way -/
end Go.Proofs.YtgpjhibdongmbaaGreatDoor.Pr

namespace Go.Proofs.YtgpjhibdongmbaaGreatDoor
open Go.RowKit
set_option linter.unusedVariables false
set_option linter.unusedSimpArgs false

theorem r_isF (k : Int) (w : World) : Calls Tryz.prog 72 #[.int .i64 k] w fun e w' => e = .returned (.bool (Pr.isF k)) ∧ w = w' := by
  go_enter Tryz.func72, Tryz.ntmps72
  go_wp2
  all_goals go_ret
  all_goals exact ⟨qa3 (by rw [Bool.eq_iff_iff]; simp [Pr.isF] at *; try omega), rfl⟩
theorem r_isK (k : Int) (w : World) : Calls Tryz.prog 73 #[.int .i64 k] w fun e w' => e = .returned (.bool (Pr.isK k)) ∧ w = w' := by
  go_enter Tryz.func73, Tryz.ntmps73
  go_wp2
  all_goals go_ret
  all_goals exact ⟨qa3 (by rw [Bool.eq_iff_iff]; simp [Pr.isK] at *; try omega), rfl⟩
theorem r_sgn (k : Int) (w : World) : Calls Tryz.prog 76 #[.int .i64 k] w fun e w' => e = .returned (.bool (Pr.sgn k)) ∧ w = w' := by
  go_enter Tryz.func76, Tryz.ntmps76
  go_wp2
  all_goals go_ret
  all_goals exact ⟨qa3 (by rw [Bool.eq_iff_iff]; simp [Pr.sgn] at *; try omega), rfl⟩
theorem r_int (k : Int) (w : World) : Calls Tryz.prog 74 #[.int .i64 k] w fun e w' => e = .returned (.bool (decide (k = 2 ∨ k = 3 ∨ k = 4 ∨ k = 5))) ∧ w = w' := by
  go_enter Tryz.func74, Tryz.ntmps74
  go_wp2
  all_goals go_ret
  all_goals exact ⟨qa3 (by rw [Bool.eq_iff_iff]; simp at *; try omega), rfl⟩
theorem r_great (k : Int) (w : World) : Calls Tryz.prog 75 #[.int .i64 k] w fun e w' => e = .returned (.int .u64 (Pr.great k)) ∧ w = w' := by
  go_enter Tryz.func75, Tryz.ntmps75
  go_wp2
  all_goals go_ret
  all_goals exact ⟨qad (by simp only [beq_iff_eq, beq_eq_false_iff_ne, ne_eq] at *; simp [Pr.great, *]), rfl⟩
theorem r_within (a b : Int) (w : World) : Calls Tryz.prog 47 #[.int .i64 a, .int .i64 b] w fun e w' => e = .returned (.bool (Pr.inR a b)) ∧ w = w' := by
  have hv := Lib.hid (show Pr.inR a b = decide (Pr.great a ≤ Pr.great b ∧ (Pr.sgn a = false ∨ Pr.sgn b = true)) from rfl)
  have c1 := Lib.hid (fun W => r_great a W)
  have c2 := Lib.hid (fun W => r_great b W)
  have c3 := Lib.hid (fun W => r_sgn a W)
  have c4 := Lib.hid (fun W => r_sgn b W)
  generalize Pr.inR a b = R at hv ⊢
  generalize Pr.great a = ga at c1 hv
  generalize Pr.great b = gb at c2 hv
  generalize Pr.sgn a = sa at c3 hv
  generalize Pr.sgn b = sb at c4 hv
  go_enter Tryz.func47, Tryz.ntmps47
  go_wp2_with (first
    | (go_at_call 75; (with_reducible refine (c1.out _).mono ?_); rintro e w' ⟨rfl, rfl⟩)
    | (go_at_call 75; (with_reducible refine (c2.out _).mono ?_); rintro e w' ⟨rfl, rfl⟩)
    | (go_at_call 76; (with_reducible refine (c3.out _).mono ?_); rintro e w' ⟨rfl, rfl⟩)
    | (go_at_call 76; (with_reducible refine (c4.out _).mono ?_); rintro e w' ⟨rfl, rfl⟩))
  all_goals go_ret
  all_goals refine ⟨qa3 ?_, rfl⟩
  all_goals rw [hv.out, Bool.eq_iff_iff]
  all_goals (simp_all; try omega)
theorem r_Family (f k : Int) (w : World) : Calls Tryz.prog 46 #[.int .i64 f, .int .i64 k] w fun e w' => e = .returned (.int .i64 (Pr.fam f k)) ∧ w = w' := by
  rw [← Pr.famR_eq]
  have hv := Lib.hid (show Pr.famR f k = (if Pr.isF f = false ∨ Pr.isK k = false then 0
  else if k = 8 ∧ f ≠ 4 then 7
  else if f = 1 then (if k = 4 ∨ k = 5 ∨ k = 9 then 1 else if k = 3 then 2 else k)
  else if (k = 2 ∨ k = 3 ∨ k = 4 ∨ k = 5) ∨ (k = 9 ∧ f = 2) then 2 else k) from rfl)
  have c1 := Lib.hid (fun W => r_isF f W)
  have c2 := Lib.hid (fun W => r_isK k W)
  generalize Pr.famR f k = R at hv ⊢
  generalize Pr.isF f = bf at c1 hv
  generalize Pr.isK k = bk at c2 hv
  go_enter Tryz.func46, Tryz.ntmps46
  go_wp2_with (first
    | (go_at_call 72; (with_reducible refine (c1.out _).mono ?_); rintro e w' ⟨rfl, rfl⟩)
    | (go_at_call 73; (with_reducible refine (c2.out _).mono ?_); rintro e w' ⟨rfl, rfl⟩)
    | (go_at_call 74; (with_reducible refine (r_int _ _).mono ?_); rintro e w' ⟨rfl, rfl⟩))
  all_goals go_ret
  all_goals refine ⟨qad ?_, rfl⟩
  all_goals rw [hv.out]
  all_goals (simp only [beq_iff_eq, beq_eq_false_iff_ne, bne_iff_ne, bne_eq_false_iff_eq, ne_eq, Bool.not_eq_true] at *)
  all_goals simp_all
end Go.Proofs.YtgpjhibdongmbaaGreatDoor

namespace Go.Proofs.YtgpjhibdongmbaaGreatDoor
open Go.RowKit
set_option linter.unusedVariables false
set_option linter.unusedSimpArgs false

theorem r_Level (f a b : Int) (w : World) : Calls Tryz.prog 27 #[.int .i64 f, .int .i64 a, .int .i64 b] w fun e w' => e = .returned (.int .i64 (Pr.lev f a b)) ∧ w = w' := by
  rw [← Pr.levR_eq]
  have hv := Lib.hid (show Pr.levR f a b = (if Pr.famR f a = 0 ∨ Pr.famR f a ≠ Pr.famR f b then 0 else if a = b ∨ a = 7 then 2 else if a = 8 ∨ Pr.inR a b = false then 1 else 2) from rfl)
  rw [Pr.famR_eq, Pr.famR_eq] at hv
  have c1 := Lib.hid (fun W => r_Family f a W)
  have c2 := Lib.hid (fun W => r_Family f b W)
  have c3 := Lib.hid (fun W => r_within a b W)
  generalize Pr.levR f a b = R at hv ⊢
  generalize Pr.fam f a = fa at c1 hv
  generalize Pr.fam f b = fb at c2 hv
  generalize Pr.inR a b = br at c3 hv
  go_enter Tryz.func27, Tryz.ntmps27
  go_wp2_with (first
    | (go_at_call 46; (with_reducible refine (c1.out _).mono ?_); rintro e w' ⟨rfl, rfl⟩)
    | (go_at_call 46; (with_reducible refine (c2.out _).mono ?_); rintro e w' ⟨rfl, rfl⟩)
    | (go_at_call 47; (with_reducible refine (c3.out _).mono ?_); rintro e w' ⟨rfl, rfl⟩))
  all_goals go_ret
  all_goals refine ⟨qad ?_, rfl⟩
  all_goals rw [hv.out]
  all_goals (simp only [beq_iff_eq, beq_eq_false_iff_ne, bne_iff_ne, bne_eq_false_iff_eq, ne_eq, Bool.not_eq_true] at *)
  all_goals simp_all
end Go.Proofs.YtgpjhibdongmbaaGreatDoor

namespace Go.Proofs.YtgpjhibdongmbaaGreatDoor
open Go.RowKit
set_option linter.unusedVariables false
set_option linter.unusedSimpArgs false
section
variable {P : Program} {ops : Array Oper} {md : Region.Mode} {S : World → Prop} {Q : Exit → Act → World → Prop} {K : Act → World → Prop} {a : Act} {w : World} {o : Oper} {r m : OrdT Oper}
/-! the same with the frame behind a letter: what a temporary holds is looked up along the chain of puts -/
theorem list_held {l : List Oper} {i : Tmp} {v : Value} {w' : World} (hd : o.dst = some i) (hw : Region.wanted o (yielded ops a.tmps) = true) (hy : ∀ ρ : Operand → Value, (∀ x, ρ x = a.eval x) → (execOp ρ o).run P w = .ok (.value v) w') (h : wpList P ops Q l (a.put (some i) v) w') : wpList P ops Q (o :: l) a w := by
  unfold wpList
  rw [if_pos hw]
  refine .inl ?_
  unfold Oper.wp
  rw [hy _ (fun _ => rfl), Oper.upon_value, hd]
  exact h
end
end Go.Proofs.YtgpjhibdongmbaaGreatDoor

namespace Go.Proofs.YtgpjhibdongmbaaGreatDoor
open Go.RowKit
set_option linter.unusedVariables false
set_option linter.unusedSimpArgs false
section
variable {P : Program} {ops : Array Oper} {S : World → Prop} {Q : Exit → Act → World → Prop} {K : Act → World → Prop} {a : Act} {w : World} {o : Oper} {r m : OrdT Oper}
theorem list_held_g {l : List Oper} {i : Tmp} {v : Value} {w' : World} {j : Nat} {b : Bool} {t : Tmp} (hd : o.dst = some i) (hg : o.guard = some (j, b)) (hj : (ops[j]?).bind (·.dst) = some t) (hv : a.eval (.tmp t) = .bool b) (hy : ∀ ρ : Operand → Value, (∀ x, ρ x = a.eval x) → (execOp ρ o).run P w = .ok (.value v) w') (h : wpList P ops Q l (a.put (some i) v) w') : wpList P ops Q (o :: l) a w :=
  list_held hd (by rw [qc7 hg hj hv]; simp) hy h
/-! a region in the text's order, the frame behind a letter -/
end
end Go.Proofs.YtgpjhibdongmbaaGreatDoor

namespace Go.Proofs.YtgpjhibdongmbaaGreatDoor.Rs
open Ck
set_option linter.unusedSimpArgs false
set_option linter.unusedVariables false
/-! a plan and itself -/
/-! qdz scalars -/
theorem lev_self {k : Int} (h1 : 1 ≤ k) (h2 : k ≤ 8) : Pr.lev 2 k k = 2 := by
  have : k = 1 ∨ k = 2 ∨ k = 3 ∨ k = 4 ∨ k = 5 ∨ k = 6 ∨ k = 7 ∨ k = 8 := by omega
  rcases this with rfl | rfl | rfl | rfl | rfl | rfl | rfl | rfl <;> rfl
theorem scal_field {w r : PPlan} {o q : POp} (ho : o.card ≤ 3) (hq : q.card ≤ 3) (hk : o.kind ≤ 8) (hk2 : q.kind ≤ 8) (h1 : 1 ≤ o.kind) : (qb5 w r o q = 2 ↔ o.kind = q.kind) ∧ (qb5 w r o q = 4 ↔ Pr.lev 2 o.kind q.kind = 0) := by
  have he : qb5 w r o q = qb9 o.kind q.kind := by
    unfold qb5 oneR
    rw [if_pos (.inl (by constructor <;> (rw [decide_eq_true_eq]; omega)))]
    unfold elemR
    rw [if_neg (by omega), if_neg (by omega), if_neg (by omega)]
  rw [he]
  unfold qb9
  by_cases e : o.kind = q.kind
  · rw [if_pos e, ← e, lev_self h1 hk]
    simp
  · rw [if_neg e]
    split
    · rename_i hz
      rw [hz]
      simp [e]
    · rename_i hz
      simp [e, hz]
theorem action_of {w r : PPlan} (hw : Valid w) {F : List (Int × Int)} {n : Nat} {x : PAdapt} (hx : Res w r F n x) {g : PProg} (hg : w.progs[x.w.toNat]? = some g) {i : Nat} {o : POp} (ho : g.ops[i]? = some o) : ∃ c h, r.progs[x.r.toNat]? = some h ∧ qhj x o.num = (c, true) ∧ ActOK w r F h o c := by
  obtain ⟨g2, h, _, _, _, e2, e3, e4, e5, _⟩ := hx.ex
  rw [hg] at e2
  cases e2
  obtain ⟨c, hc, hok⟩ := e5 i o ho
  refine ⟨c, h, e3, ?_, hok⟩
  unfold qhj
  have hs : (x.acts.find? fun y => decide (y.num = o.num)).isSome = true := by
    rw [List.find?_isSome]
    exact ⟨c, List.mem_of_getElem? hc, by simp [hok.num]⟩
  obtain ⟨d, hd⟩ := Option.isSome_iff_exists.1 hs
  have hdn : d.num = o.num := by
    have := List.find?_some hd
    simpa using this
  obtain ⟨j, hj, rfl⟩ := List.getElem_of_mem (List.mem_of_find?_eq_some hd)
  rw [e4] at hj
  obtain ⟨c2, hc2, hok2⟩ := e5 j _ (List.getElem?_eq_getElem hj)
  rw [List.getElem?_eq_getElem (by rw [e4]; exact hj)] at hc2
  have hc3 := Option.some.inj hc2
  have hnn : (g.ops[j]).num = o.num := by rw [← hok2.num, ← hc3, hdn]
  have := num_inj hw (List.mem_of_getElem? hg) (List.getElem?_eq_getElem hj) ho hnn
  subst this
  rw [List.getElem?_eq_getElem (by rw [e4]; exact hj)] at hc
  have hc4 := Option.some.inj hc
  rw [hd, hc4]
end Go.Proofs.YtgpjhibdongmbaaGreatDoor.Rs

namespace Go.Proofs.YtgpjhibdongmbaaGreatDoor
open Go.RowKit Ck Rs
set_option linter.unusedVariables false
set_option linter.unusedSimpArgs false
def findFrom (l : List PProg) (nm : Str) (k : Nat) : Value := match (l.drop k).findIdx? fun g => decide (g.name = nm) with | some i => .tuple #[.int .i64 ((k + i : Nat) : Int), .bool true] | none => .tuple #[.int .i64 0, .bool false]
theorem findFrom_0 (p : PPlan) (nm : Str) : findFrom p.progs nm 0 = qaz p nm := by
  unfold findFrom qaz qc1
  rw [List.drop_zero]
  cases List.findIdx? (fun g => decide (g.name = nm)) p.progs <;> simp
theorem findFrom_hit {l : List PProg} {nm : Str} {k : Nat} {x : PProg} (hx : l[k]? = some x) (h : x.name = nm) : findFrom l nm k = .tuple #[.int .i64 (k : Int), .bool true] := by
  obtain ⟨hk, rfl⟩ := List.getElem?_eq_some_iff.1 hx
  unfold findFrom
  rw [List.drop_eq_getElem_cons hk, List.findIdx?_cons, decide_eq_true h]
  rfl
theorem findFrom_miss {l : List PProg} {nm : Str} {k : Nat} {x : PProg} (hx : l[k]? = some x) (h : ¬ x.name = nm) : findFrom l nm k = findFrom l nm (k + 1) := by
  obtain ⟨hk, rfl⟩ := List.getElem?_eq_some_iff.1 hx
  unfold findFrom
  rw [List.drop_eq_getElem_cons hk, List.findIdx?_cons, decide_eq_false h]
  cases List.findIdx? (fun g => decide (g.name = nm)) (l.drop (k + 1)) with
  | none => rfl
  | some i => simp only [Option.map_some, Bool.false_eq_true, if_false]; congr 5; omega
theorem findFrom_end {l : List PProg} {nm : Str} {k : Nat} (h : l.length ≤ k) : findFrom l nm k = .tuple #[.int .i64 0, .bool false] := by
  unfold findFrom
  rw [List.drop_eq_nil_of_le h]
  rfl
theorem rf_FindP (p : PPlan) (vs : List Value) (nm : Str) (w : World) (hv : VPlan w vs p) :
    Calls Tryz.prog 25 #[.agg vs.toArray, .string (S nm)] w fun e' w' => e' = .returned (qaz p nm) ∧ Bel w w' := by
  obtain ⟨q1, q2, c1, c2, rfl, h1, h2, l1, l2⟩ := hv.form
  have hS0 := (ST.start w).addbox #[.slice q1 p.progs.length c1, .slice q2 p.enums.length c2] 25
  have HS := Lib.hid hS0
  rw [← findFrom_0]
  generalize hT : findFrom p.progs nm 0 = T
  have V := Lib.hid hT
  obtain ⟨_, _, he, _, _, hel⟩ := h1
  cases he
  have EL := Lib.hid hel
  clear hv h2 hel hT hS0
  go_enter Tryz.func25, Tryz.ntmps25
  go_wp2
  go_loopw [6] (fun i wr => ∃ k : Nat, k ≤ p.progs.length ∧ i = .int .i64 k ∧ Hid (ST w [] [⟨w.heap.size, #[.slice q1 p.progs.length c1, .slice q2 p.enums.length c2], 25⟩] wr) ∧ Hid (findFrom p.progs nm k = T)) (fun i _ => p.progs.length - (intOf i).toNat)
  case atStart => exact ⟨0, by omega, rfl, HS, V⟩
  case round => as_aux_lemma =>
    clear V HS
    obtain ⟨k, hk, rfl, hS, hx⟩ := hrel
    have f0 := hS.out.cell 0 rfl 0
    dsimp only at f0
    by_cases hlt : k < p.progs.length
    · have hg : p.progs[k]? = some p.progs[k] := List.getElem?_eq_getElem hlt
      obtain ⟨g, off, rfl, hbs, vs, hce, hvs⟩ := EL.out k _ hg
      obtain ⟨oq, oc, rfl, _, _⟩ := hvs.form
      have hki : (k : Int) < (p.progs.length : Int) := by omega
      have hk0 : (0 : Int) ≤ (k : Int) := by omega
      clear EL
      generalize p.progs[k] = x at *
      have e0 := hS.out.bel.some (hce 0 _ rfl)
      rw [Nat.add_zero] at e0
      clear hce hvs
      by_cases h1 : x.name = nm
      · have b1 : ((S x.name).toList == (S nm).toList) = true := by rw [h1]; simp
        have b2 : (S x.name).toList = (S nm).toList := by rw [h1]
        have HST := Lib.hid (show T = .tuple #[.int .i64 (k : Int), .bool true] by rw [← hx.out, findFrom_hit hg h1])
        clear h1 hx hg
        go_wp2
        go_ret2
        exact ⟨by rw [HST.out]; rfl, hS.out.bel⟩
      · have b2 : ¬ (S x.name).toList = (S nm).toList := by rw [ByteArray.toList_eq, ByteArray.toList_eq, qbz, qbz]; exact h1
        have b1 : ((S x.name).toList == (S nm).toList) = false := beq_eq_false_iff_ne.2 b2
        have HST := Lib.hid (show findFrom p.progs nm (k + 1) = T by rw [← hx.out, findFrom_miss hg h1])
        clear h1 hx hg
        go_wp2
        go_roundw
        case rel => exact ⟨k + 1, by omega, by go_num, hS, HST⟩
        case measure => simp [intOf]; omega
    · have hki : ¬ (k : Int) < (p.progs.length : Int) := by omega
      have HST := Lib.hid (show T = .tuple #[.int .i64 0, .bool false] by rw [← hx.out, findFrom_end (by omega)])
      clear hx
      go_wp2
      go_ret2
      exact ⟨by rw [HST.out]; rfl, hS.out.bel⟩
def opFrom (l : List POp) (num : Int) : Option POp := l.find? fun o => decide (o.num = num)
theorem opFrom_at {l : List POp} {num : Int} {k : Nat} {x : POp} (hx : l[k]? = some x) : opFrom (l.drop k) num = if x.num = num then some x else opFrom (l.drop (k + 1)) num := by
  obtain ⟨hk, rfl⟩ := List.getElem?_eq_some_iff.1 hx
  unfold opFrom
  rw [List.drop_eq_getElem_cons hk, List.find?_cons]
  by_cases h : (l[k]).num = num
  · rw [decide_eq_true h, if_pos h]
  · rw [decide_eq_false h, if_neg h]
theorem rf_Op (g : PProg) (vs : List Value) (num : Int) (W : World) (hv : VProg W vs g) :
    Calls Tryz.prog 26 #[.agg vs.toArray, .int .i64 num] W (OpOut (opOf g num) W) := by
  obtain ⟨oq, oc, rfl, h1, l1⟩ := hv.form
  have hS0 := ((ST.start W).addbox #[.string (S g.name), .slice oq g.ops.length oc, .int .i64 g.uns] 52).addbox (opV none).toArray 54
  simp only [World.size_alloc] at hS0
  have HS := Lib.hid hS0
  obtain ⟨_, _, he, _, _, hel⟩ := h1
  cases he
  have EL := Lib.hid hel
  obtain ⟨R, hR⟩ : ∃ R, R = opOf g num := ⟨_, rfl⟩
  have V := Lib.hid (show opFrom (g.ops.drop 0) num = R by rw [hR]; rfl)
  rw [← hR]
  clear hv hel hS0 hR
  unfold OpOut
  go_enter Tryz.func26, Tryz.ntmps26
  go_wp2
  go_loopw [6] (fun i wr => ∃ k : Nat, k ≤ g.ops.length ∧ i = .int .i64 k ∧ Hid (ST W [] [⟨W.heap.size + 1, (opV none).toArray, 54⟩, ⟨W.heap.size, #[.string (S g.name), .slice oq g.ops.length oc, .int .i64 g.uns], 52⟩] wr) ∧ Hid (opFrom (g.ops.drop k) num = R)) (fun i _ => g.ops.length - (intOf i).toNat)
  case atStart => exact ⟨0, by omega, rfl, HS, V⟩
  case round => as_aux_lemma =>
    clear HS V
    obtain ⟨k, hk, rfl, hS, hx⟩ := hrel
    have f1 := hS.out.cell 1 rfl 1
    dsimp only at f1
    by_cases hlt : k < g.ops.length
    · have hg : g.ops[k]? = some g.ops[k] := List.getElem?_eq_getElem hlt
      obtain ⟨b, off, rfl, hbs, vs, hce, hvs⟩ := EL.out k _ hg
      have hki : (k : Int) < (g.ops.length : Int) := by omega
      have hst := hx.out
      rw [opFrom_at hg] at hst
      clear hx hg EL
      generalize g.ops[k] = x at *
      rw [show vs = opC x from hvs] at hce
      have e0 := hS.out.bel.some (hce 0 _ rfl)
      rw [Nat.add_zero] at e0
      have e1 := hS.out.bel.some (hce 1 _ rfl)
      have e2 := hS.out.bel.some (hce 2 _ rfl)
      have e3 := hS.out.bel.some (hce 3 _ rfl)
      have e4 := hS.out.bel.some (hce 4 _ rfl)
      have e5 := hS.out.bel.some (hce 5 _ rfl)
      have e6 := hS.out.bel.some (hce 6 _ rfl)
      have e7 := hS.out.bel.some (hce 7 _ rfl)
      clear hce hvs
      by_cases hn : x.num = num
      · have hb : (x.num == num) = true := by rw [hn]; simp
        rw [if_pos hn] at hst
        have HST := Lib.hid hst
        clear hn hst
        have HR := Lib.hid (hS.out.box 0 rfl)
        go_wp2_with (refine qa8 rfl 54 _ _ rfl (W.heap.size + 1) (opV (some x)).toArray (opV none).toArray 54 rfl rfl HR.out qkd rfl (qey _) ?_)
        have TZ := Lib.hid (hS.out.setrowbox 0 rfl (opV (some x)).toArray)
        refine bodyPost_ret (v := .tuple #[.agg (opV (some x)).toArray, .bool true]) ?hres9 rfl ?hpost9
        case hres9 => exact qeq rfl rfl rfl (TZ.out.box 0 rfl) Tryz.underlying54 rfl (by kernel_rfl)
        case hpost9 => exact ⟨by rw [← HST.out]; rfl, TZ.out.bel⟩
      · have hb : (x.num == num) = false := beq_eq_false_iff_ne.2 hn
        rw [if_neg hn] at hst
        have HST := Lib.hid hst
        clear hn hst
        go_wp2
        go_roundw
        case rel => exact ⟨k + 1, by omega, by go_num, hS, HST⟩
        case measure => simp [intOf]; omega
    · have hki : ¬ (k : Int) < (g.ops.length : Int) := by omega
      have HST := Lib.hid (show R = none by rw [← hx.out, List.drop_eq_nil_of_le (by omega)]; rfl)
      have HR := Lib.hid (hS.out.box 0 rfl)
      clear hx EL
      go_wp2_with (refine qa8 rfl 54 _ _ rfl (W.heap.size + 1) (opV none).toArray (opV none).toArray 54 rfl rfl HR.out qkd rfl (qey _) ?_)
      have TZ := Lib.hid (hS.out.setrowbox 0 rfl (opV none).toArray)
      refine bodyPost_ret (v := .tuple #[.agg (opV none).toArray, .bool false]) ?hres8 rfl ?hpost8
      case hres8 => exact qeq rfl rfl rfl (TZ.out.box 0 rfl) Tryz.underlying54 rfl (by kernel_rfl)
      case hpost8 => exact ⟨by rw [HST.out]; rfl, TZ.out.bel⟩
end Go.Proofs.YtgpjhibdongmbaaGreatDoor

namespace Go.Proofs.YtgpjhibdongmbaaGreatDoor
open Go.RowKit Ck Rs
set_option linter.unusedVariables false
set_option linter.unusedSimpArgs false
theorem fo_some {p : PPlan} {nm : Str} {a : Nat} (h : qc1 p nm = some a) : qaz p nm = .tuple #[.int .i64 (a : Int), .bool true] := by
  unfold qaz
  rw [h]
theorem law_Scalars (p q : PPlan) (p1 p2 p3 p4 : Option Addr) (c1 c2 c3 c4 : Nat) (nm : Str) (W : World) (hG : Pl p q p1 p2 p3 p4 c1 c2 c3 c4 W) (hP : PT W) (hM : ML W) (hT : Tab W) :
    Calls Tryz.prog 8 #[.agg #[.slice p1 p.progs.length c1, .slice p2 p.enums.length c2], .agg #[.slice p3 q.progs.length c3, .slice p4 q.enums.length c4], .string (S nm)] W fun e w' => e = .returned (.bool true) ∧ Bel W w' := by
  have hS0 := ((ST.start W).addbox #[.slice p1 p.progs.length c1, .slice p2 p.enums.length c2] 25).addbox #[.slice p3 q.progs.length c3, .slice p4 q.enums.length c4] 25
  simp only [World.size_alloc] at hS0
  have H0 := Lib.hid hS0
  have CA := Lib.hid (fun WW (k : Bel W WW) => ql8 WW (hP.bel k) (hM.below k.out) (hT.below k))
  have KS := Lib.hid (fun WW (T : ST W [] [⟨W.heap.size + 1, #[.slice p3 q.progs.length c3, .slice p4 q.enums.length c4], 25⟩, ⟨W.heap.size, #[.slice p1 p.progs.length c1, .slice p2 p.enums.length c2], 25⟩] WW) => show (WW.cell? ⟨W.heap.size, 0, none⟩ = some (.slice p1 p.progs.length c1) ∧ WW.cell? ⟨W.heap.size, 1, none⟩ = some (.slice p2 p.enums.length c2) ∧ WW.cell? ⟨W.heap.size + 1, 0, none⟩ = some (.slice p3 q.progs.length c3) ∧ WW.cell? ⟨W.heap.size + 1, 1, none⟩ = some (.slice p4 q.enums.length c4)) from ⟨T.cell 1 rfl 0, T.cell 1 rfl 1, T.cell 0 rfl 0, T.cell 0 rfl 1⟩)
  have CG := Lib.hid (fun WW (T : ST W [] [⟨W.heap.size + 1, #[.slice p3 q.progs.length c3, .slice p4 q.enums.length c4], 25⟩, ⟨W.heap.size, #[.slice p1 p.progs.length c1, .slice p2 p.enums.length c2], 25⟩] WW) => law_good p q p1 p2 p3 p4 c1 c2 c3 c4 WW (show Pl p q p1 p2 p3 p4 c1 c2 c3 c4 WW from ⟨hG.g0.bel VProg.stays T.bel, hG.g1.bel VEnum.stays T.bel, hG.g2.bel VProg.stays T.bel, hG.g3.bel VEnum.stays T.bel⟩))
  have CM := Lib.hid (fun WW (T : ST W [] [⟨W.heap.size + 1, #[.slice p3 q.progs.length c3, .slice p4 q.enums.length c4], 25⟩, ⟨W.heap.size, #[.slice p1 p.progs.length c1, .slice p2 p.enums.length c2], 25⟩] WW) (hd : Gd p q) => qiw p q p1 p2 p3 p4 c1 c2 c3 c4 nm WW (show Pl p q p1 p2 p3 p4 c1 c2 c3 c4 WW from ⟨hG.g0.bel VProg.stays T.bel, hG.g1.bel VEnum.stays T.bel, hG.g2.bel VProg.stays T.bel, hG.g3.bel VEnum.stays T.bel⟩) hd (hM.below T.bel) (hT.below T.bel))
  have CF1 := Lib.hid (fun WW (T : ST W [] [⟨W.heap.size + 1, #[.slice p3 q.progs.length c3, .slice p4 q.enums.length c4], 25⟩, ⟨W.heap.size, #[.slice p1 p.progs.length c1, .slice p2 p.enums.length c2], 25⟩] WW) => rf_FindP p _ nm WW (show VPlan WW [.slice p1 p.progs.length c1, .slice p2 p.enums.length c2] p from ⟨_, _, rfl, hG.g0.bel VProg.stays T.bel, hG.g1.bel VEnum.stays T.bel⟩))
  have CF2 := Lib.hid (fun WW (T : ST W [] [⟨W.heap.size + 1, #[.slice p3 q.progs.length c3, .slice p4 q.enums.length c4], 25⟩, ⟨W.heap.size, #[.slice p1 p.progs.length c1, .slice p2 p.enums.length c2], 25⟩] WW) => rf_FindP q _ nm WW (show VPlan WW [.slice p3 q.progs.length c3, .slice p4 q.enums.length c4] q from ⟨_, _, rfl, hG.g2.bel VProg.stays T.bel, hG.g3.bel VEnum.stays T.bel⟩))
  have HPL := Lib.hid hG
  clear hG hP hM hT hS0
  go_enter Tryz.func8, Tryz.ntmps8
  go_upto_region 1 with (fail)
  obtain ⟨x0, x1, x2, x3⟩ := KS.out _ H0.out
  go_wp2_with (first
    | (go_at_call 9; (with_reducible refine (CG.out _ H0.out).mono ?_); rintro e' w1 ⟨B, rfl, hB, k1⟩; have k1 : Bel _ w1 := k1; have H1 := Lib.hid (H0.out.belw k1); have hB := Lib.hid hB; obtain ⟨x0, x1, x2, x3⟩ := KS.out _ H1.out; clear k1)
    | (go_at_call 10; (with_reducible refine (CA.out _ H1.out.bel).mono ?_); rintro e' w9 ⟨rfl, k9⟩; have k9 : Bel _ w9 := k9))
  focus
    go_ret
    exact ⟨rfl, Bel.of H1.out.bel k9⟩
  rotate_left 1
  focus
    go_ret
    exact ⟨rfl, Bel.of H1.out.bel k9⟩
  have hd := hB.out (by assumption)
  have CM := Lib.hid (fun WW T => CM.out WW T hd)
  clear hB CG
  cases hpa : qc1 p nm with
  | none =>
    rw [mk_none (.inl hpa)] at CM
    go_wp2_with (first
      | (go_at_call 11; (with_reducible refine (CM.out _ H1.out).mono ?_); rintro e' w2 ⟨v, rfl, hv, k2⟩; have k2 : Bel _ w2 := k2; have H2 := Lib.hid (H1.out.belw k2); obtain ⟨vq, vc, rfl, vl⟩ := qb6 hv; have HV := Lib.hid hv; obtain ⟨x0, x1, x2, x3⟩ := KS.out _ H2.out; clear hv k2)
      | (go_at_call 10; (with_reducible refine (CA.out _ H2.out.bel).mono ?_); rintro e' w9 ⟨rfl, k9⟩; have k9 : Bel _ w9 := k9))
    go_ret
    exact ⟨rfl, Bel.of H2.out.bel k9⟩
  | some a =>
    cases hpb : qc1 q nm with
    | none =>
      rw [mk_none (.inr hpb)] at CM
      go_wp2_with (first
        | (go_at_call 11; (with_reducible refine (CM.out _ H1.out).mono ?_); rintro e' w2 ⟨v, rfl, hv, k2⟩; have k2 : Bel _ w2 := k2; have H2 := Lib.hid (H1.out.belw k2); obtain ⟨vq, vc, rfl, vl⟩ := qb6 hv; have HV := Lib.hid hv; obtain ⟨x0, x1, x2, x3⟩ := KS.out _ H2.out; clear hv k2)
        | (go_at_call 10; (with_reducible refine (CA.out _ H2.out.bel).mono ?_); rintro e' w9 ⟨rfl, k9⟩; have k9 : Bel _ w9 := k9))
      go_ret
      exact ⟨rfl, Bel.of H2.out.bel k9⟩
    | some b =>
      obtain ⟨g, hga, hgn, hal⟩ := qcc hpa
      obtain ⟨h, hhb, hhn, hbl⟩ := qcc hpb
      clear hgn hhn
      have ha : (0 : Int) ≤ (a : Int) ∧ (a : Int) < (p.progs.length : Int) := ⟨by omega, by omega⟩
      have hb : (0 : Int) ≤ (b : Int) ∧ (b : Int) < (q.progs.length : Int) := ⟨by omega, by omega⟩
      rw [mk_some hpa hpb] at CM
      rw [fo_some hpa] at CF1
      rw [fo_some hpb] at CF2
      obtain ⟨F, _, _, _, hres⟩ := from_ok hd.vw hd.vr ha hb
      obtain ⟨x, hx0, hxw, hxr, hlen⟩ := qjw hd.vw hd.vr ha hb
      have hre := hres 0 x hx0
      have HACT := Lib.hid (show ∀ (i : Nat) o, g.ops[i]? = some o → ∃ c, qhj x o.num = (c, true) ∧ ActOK p q F h o c from fun i o ho => by
        obtain ⟨c, h2, e1, e2, e3⟩ := action_of hd.vw hre (show p.progs[x.w.toNat]? = some g by rw [hxw, Int.toNat_natCast]; exact hga) ho
        rw [hxr, Int.toNat_natCast, hhb] at e1
        cases e1
        exact ⟨c, e2, e3⟩)
      have HKIN := Lib.hid (show ∀ o ∈ g.ops, 1 ≤ o.kind from fun o ho => ((qby hd.vw) g (List.mem_of_getElem? hga) o ho).2.2.2.2.1)
      generalize fromR p q (a : Int) (b : Int) = l at *
      have hl0 : ((l.length : Int) == 0) = false := beq_eq_false_iff_ne.2 (by omega)
      clear hres hre hxw hxr hd hpa hpb
      go_upto_region 8 with (go_at_call 11; (with_reducible refine (CM.out _ H1.out).mono ?_); rintro e' w2 ⟨v, rfl, hv, k2⟩; have k2 : Bel _ w2 := k2; have H2 := Lib.hid (H1.out.belw k2); obtain ⟨vq, vc, rfl, vl⟩ := qb6 hv; have HV := Lib.hid hv; obtain ⟨x0, x1, x2, x3⟩ := KS.out _ H2.out; clear hv k2)
      clear H1 CM
      go_upto_region 9 with (go_at_call 25; (with_reducible refine (CF1.out _ H2.out).mono ?_); rintro e' w3 ⟨rfl, k3⟩; have k3 : Bel _ w3 := k3; have H3 := Lib.hid (H2.out.belw k3); have K3 := Lib.hid (k3); obtain ⟨x0, x1, x2, x3⟩ := KS.out _ H3.out; clear k3)
      go_upto_region 10 with (go_at_call 25; (with_reducible refine (CF2.out _ H3.out).mono ?_); rintro e' w4 ⟨rfl, k4⟩; have k4 : Bel _ w4 := k4; have H4 := Lib.hid (H3.out.belw k4); have K4 := Lib.hid (Bel.of K3.out k4); obtain ⟨x0, x1, x2, x3⟩ := KS.out _ H4.out; clear k4)
      obtain ⟨q1', c1', he1, _, _, hel1⟩ := HPL.out.g0
      cases he1
      obtain ⟨pb, poff, rfl, _, vg, hcg, hvg⟩ := hel1 a g hga
      obtain ⟨q2', c2', he2, _, _, hel2⟩ := HPL.out.g2
      cases he2
      obtain ⟨qb, qoff, rfl, _, vh, hch, hvh⟩ := hel2 b h hhb
      obtain ⟨gq, gc, rfl, hgs, _⟩ := hvg.form
      have hvh0 := hvh
      obtain ⟨hq, hc, rfl, hhs, _⟩ := hvh.form
      obtain ⟨_, _, he3, _, _, hel3⟩ := hgs
      cases he3
      have EI := Lib.hid hel3
      obtain ⟨_, _, he4, _, _, hel4⟩ := HV.out
      cases he4
      obtain ⟨lb, loff, rfl, _, vx, hcx, hvx⟩ := hel4 0 x hx0
      have hvx0 := hvx
      obtain ⟨aq, lq, ac, lc, rfl, _, _, _, _⟩ := hvx.form
      have K2W := Lib.hid (show Bel W w2 from H2.out.bel)
      have VX := Lib.hid hvx0
      have VH := Lib.hid (VProg.stays _ _ _ _ K2W.out hvh0)
      have L0 := Lib.hid (show w2.cell? ⟨lb, loff, none⟩ = some (.int .i64 x.w) ∧ w2.cell? ⟨lb, loff + 1, none⟩ = some (.int .i64 x.r) ∧ w2.cell? ⟨lb, loff + 2, none⟩ = some (.slice aq x.acts.length ac) ∧ w2.cell? ⟨lb, loff + 3, none⟩ = some (.slice lq x.lacks.length lc) from ⟨by have := hcx 0 _ rfl; simpa using this, by have := hcx 1 _ rfl; simpa using this, by have := hcx 2 _ rfl; simpa using this, by have := hcx 3 _ rfl; simpa using this⟩)
      have FP0 := KS.out _ H2.out
      have FP := Lib.hid (show ∀ WW, Bel w2 WW → WW.cell? ⟨W.heap.size, 0, none⟩ = some (.slice (some ⟨pb, poff, none⟩) p.progs.length c1) ∧ WW.cell? ⟨W.heap.size, 1, none⟩ = some (.slice p2 p.enums.length c2) ∧ WW.cell? ⟨W.heap.size + 1, 0, none⟩ = some (.slice (some ⟨qb, qoff, none⟩) q.progs.length c3) ∧ WW.cell? ⟨W.heap.size + 1, 1, none⟩ = some (.slice p4 q.enums.length c4) from fun WW k => ⟨k.some FP0.1, k.some FP0.2.1, k.some FP0.2.2.1, k.some FP0.2.2.2⟩)
      have GP := Lib.hid (show ∀ WW, Bel w2 WW → WW.cell? ⟨qb, qoff + b * 3, none⟩ = some (.string (S h.name)) ∧ WW.cell? ⟨qb, qoff + b * 3 + 1, none⟩ = some (.slice hq h.ops.length hc) ∧ WW.cell? ⟨qb, qoff + b * 3 + 2, none⟩ = some (.int .i64 h.uns) from fun WW k => ⟨by have := (Bel.of K2W.out k).some (hch 0 _ rfl); rwa [Nat.add_zero] at this, (Bel.of K2W.out k).some (hch 1 _ rfl), (Bel.of K2W.out k).some (hch 2 _ rfl)⟩)
      have GG := Lib.hid (hcg 1 _ rfl)
      have HS := Lib.hid (show ST w2 [] [] w4 from (ST.start w2).belw K4.out)
      have ha1 : (a : Int) < (p.progs.length : Int) := ha.2
      have ha0 : (0 : Int) ≤ (a : Int) := by omega
      have hb1 : (b : Int) < (q.progs.length : Int) := hb.2
      have hb0 : (0 : Int) ≤ (b : Int) := by omega
      have hlen1 : (0 : Int) < (l.length : Int) := by omega
      clear hel1 hel2 hel3 hel4 hcg hch hcx hvh0 hvx0 hhs hvh hvg hvx HV HPL KS H2 H3 H4 K3 K4 CF1 CF2 x0 x1 x2 x3 FP0 ha hb hx0 hga hhb hl0
      go_upto_region 11 with (fail)
      go_loopw [13] (fun ii wr => ∃ i : Nat, i ≤ g.ops.length ∧ ii = .int .i64 i ∧ Hid (ST w2 [] [] wr)) (fun ii _ => g.ops.length - (intOf ii).toNat)
      case atStart => exact ⟨0, by omega, rfl, HS⟩
      case round => as_aux_lemma =>
        clear HS
        obtain ⟨i, hi, rfl, hS⟩ := hrel
        have e1 := (Bel.of K2W.out hS.out.bel).some GG.out
        obtain ⟨f0, f1, f2, f3⟩ := FP.out _ hS.out.bel
        by_cases hlt : i < g.ops.length
        · skip
          have hki : (i : Int) < (g.ops.length : Int) := by omega
          have hi0 : (0 : Int) ≤ (i : Int) := by omega
          have hgo : g.ops[i]? = some g.ops[i] := List.getElem?_eq_getElem hlt
          obtain ⟨gb3, off3, hq3, hbs3, vs3, hce3, hvs3⟩ := EI.out i _ hgo
          subst hq3
          obtain ⟨c, hca, hok⟩ := HACT.out i _ hgo
          have hkin := HKIN.out _ (List.getElem_mem hlt)
          clear EI HKIN
          generalize g.ops[i] = o at *
          obtain rfl : vs3 = opC o := hvs3
          have HKD := Lib.hid (show ∀ y, opOf h o.num = some y → o.card ≤ 3 → y.card ≤ 3 → o.kind ≤ 8 → y.kind ≤ 8 → (c.kind = 2 ↔ o.kind = y.kind) ∧ (c.kind = 4 ↔ Pr.lev 2 o.kind y.kind = 0) from fun y hy z1 z2 z3 z4 => by
            rw [(hok.yes y hy).1]
            exact scal_field z1 z2 z3 z4 hkin)
          have CC := Lib.hid (fun WW (k : Bel w2 WW) => show Calls Tryz.prog 19 #[.agg #[.int .i64 x.w, .int .i64 x.r, .slice aq x.acts.length ac, .slice lq x.lacks.length lc], .int .i64 o.num] WW (fun e w' => e = .returned (.tuple #[.agg #[.int .i64 c.num, .int .i64 c.kind, .int .i64 c.sub], .bool true]) ∧ Bel WW w') from by
            have := qks x _ o.num WW (VAdapt.stays _ _ _ _ k VX.out)
            rw [hca] at this
            exact this)
          have CO := (fun WW (k : Bel w2 WW) => rf_Op h _ o.num WW (VProg.stays _ _ _ _ k VH.out))
          unfold OpOut at CO
          have CL0 := (fun (y : POp) (WW : World) => r_Level 2 o.kind y.kind WW)
          clear hok hca VX VH hkin hgo
          have y0 := (Bel.of K2W.out hS.out.bel).some (hce3 0 _ rfl)
          have y1 := (Bel.of K2W.out hS.out.bel).some (hce3 1 _ rfl)
          have y2 := (Bel.of K2W.out hS.out.bel).some (hce3 2 _ rfl)
          have y3 := (Bel.of K2W.out hS.out.bel).some (hce3 3 _ rfl)
          have y4 := (Bel.of K2W.out hS.out.bel).some (hce3 4 _ rfl)
          have y5 := (Bel.of K2W.out hS.out.bel).some (hce3 5 _ rfl)
          have y6 := (Bel.of K2W.out hS.out.bel).some (hce3 6 _ rfl)
          have y7 := (Bel.of K2W.out hS.out.bel).some (hce3 7 _ rfl)
          rw [Nat.add_zero] at y0
          have HX := Lib.hid (hS.out.addbox #[.int .i64 o.num, .string (S o.name), .string (S o.ali), .int .i64 o.card, .int .i64 o.key, .int .i64 o.kind, .int .i64 o.tgt, .int .i64 o.un] 54)
          obtain ⟨f0, f1, f2, f3⟩ := FP.out _ hS.out.bel
          obtain ⟨g0, g1, g2⟩ := GP.out _ hS.out.bel
          clear hce3 hbs3
          go_upto_region 14 with (fail)
          generalize wr.heap.size = ob at HX ⊢
          generalize World.alloc wr _ = wb at HX ⊢
          clear y0 y1 y2 y3 y4 y5 y6 y7 f0 f1 f2 f3 g0 g1 g2 hS
          generalize hr : opOf h o.num = r at CO HKD
          obtain ⟨vo, hvo⟩ : ∃ vo, vo = opV r := ⟨_, rfl⟩
          have Z0 : vo.toArray.size = 8 := by rw [hvo, List.size_toArray]; exact qjj r
          have Z1 := Lib.hid (show (Tryz.prog.info? 54).map (·.size) = some vo.toArray.size by rw [Z0]; exact qkd)
          have Z2 := Lib.hid (show (#[.int .i64 0, .string ⟨#[]⟩, .string ⟨#[]⟩, .int .i64 0, .int .i64 0, .int .i64 0, .int .i64 0, .int .i64 0] : Array Value).size = vo.toArray.size by rw [Z0]; rfl)
          have HO := Lib.hid (show vo.toArray.all (·.oneCell') = true by rw [hvo]; exact qey r)
          rw [← hvo] at CO
          have CO := Lib.hid CO
          have HVO := Lib.hid hvo
          clear hr Z0 hvo
          go_cut [15, 16] (fun s15 s16 wx => ∃ rb, s15 = .pointer (some ⟨rb, 0, none⟩) ∧ s16 = .bool (opB r) ∧ Hid (ST w2 [] [⟨rb, vo.toArray, 54⟩, ⟨ob, #[.int .i64 o.num, .string (S o.name), .string (S o.ali), .int .i64 o.card, .int .i64 o.key, .int .i64 o.kind, .int .i64 o.tgt, .int .i64 o.un], 54⟩] wx))
          case first => as_aux_lemma =>
            obtain ⟨wd, hwd⟩ : ∃ wd, wd = wb.drew := ⟨_, rfl⟩
            have T := Lib.hid (show ST w2 [] [⟨ob, #[.int .i64 o.num, .string (S o.name), .string (S o.ali), .int .i64 o.card, .int .i64 o.key, .int .i64 o.kind, .int .i64 o.tgt, .int .i64 o.un], 54⟩] wd by rw [hwd]; exact HX.out.belw (Bel.refl _).drew)
            have HWD := Lib.hid hwd
            clear hwd HX CL0 CC CA HACT HKD HVO
            generalize opB r = ok at *
            have KS := Lib.hid (fun WW (hh : ST w2 [] [⟨ob, #[.int .i64 o.num, .string (S o.name), .string (S o.ali), .int .i64 o.card, .int .i64 o.key, .int .i64 o.kind, .int .i64 o.tgt, .int .i64 o.un], 54⟩] WW) => show WW.cell? ⟨W.heap.size + 1, 0, none⟩ = some (.slice (some ⟨qb, qoff, none⟩) q.progs.length c3) ∧ WW.cell? ⟨qb, qoff + b * 3, none⟩ = some (.string (S h.name)) ∧ WW.cell? ⟨qb, qoff + b * 3 + 1, none⟩ = some (.slice hq h.ops.length hc) ∧ WW.cell? ⟨qb, qoff + b * 3 + 2, none⟩ = some (.int .i64 h.uns) ∧ WW.cell? ⟨ob, 0, none⟩ = some (.int .i64 o.num) from ⟨(FP.out _ hh.bel).2.2.1, (GP.out _ hh.bel).1, (GP.out _ hh.bel).2.1, (GP.out _ hh.bel).2.2, hh.cell 0 rfl 0⟩)
            refine qao (fun WW => ST w2 [] [⟨ob, #[.int .i64 o.num, .string (S o.name), .string (S o.ali), .int .i64 o.card, .int .i64 o.key, .int .i64 o.kind, .int .i64 o.tgt, .int .i64 o.un], 54⟩] WW) (.take 0 (.take 1 (.take 2 (.take 3 (.take 4 (.take 5 (.take 6 (.alt 7 (.take 8 (.take 9 (.take 10 (.alt 11 (.alt 12 .done .no) .no)))) (.alt 11 (.alt 7 (.take 8 (.take 9 (.take 10 (.alt 12 .done .no)))) .no) .no))))))))) 13 (by kernel_rfl) (by kernel_rfl) HWD.out T.out (fun a ha => ?_)
            (simp only [pickT, List.getD_cons_zero, List.getD_cons_succ])
            have hsz : a.tmps.size = 142 := (by rw [ha]; kernel_rfl)
            have a4 : a.eval (.tmp 4) = .pointer (some ⟨W.heap.size + 1, 0, none⟩) := (by rw [ha]; kernel_rfl)
            have a11 : a.eval (.tmp 11) = .int .i64 b := (by rw [ha]; kernel_rfl)
            have a14 : a.eval (.tmp 14) = .pointer (some ⟨ob, 0, none⟩) := (by rw [ha]; kernel_rfl)
            (with_reducible refine qa1 (v := ?_) rfl (by with_unfolding_all rfl) (fun ρ hρ W hW => ?_) ?_); (rotate_left 1)
            focus (clear hW; have p4 := hρ (.tmp 4); (simp (disch := (first | decide | ((try simp only [qa2]); rw [hsz]; decide))) only [ev_eq, ev_ne, a4, a11, a14] at p4); have hc : ∀ c, ρ (.const c) = c := (fun c => hρ (.const c)); have hfn : ∀ f, ρ (.func f) = .func (.func f) #[] #[] := (fun f => hρ (.func f)); clear hρ; go_simp; (all_goals (first | (with_reducible rfl) | (constructor <;> with_reducible rfl))))
            (with_reducible refine qa1 (v := ?_) rfl (by with_unfolding_all rfl) (fun ρ hρ W hW => ?_) ?_); (rotate_left 1)
            focus (have hS := KS.out _ hW; clear hW; have p75 := hρ (.tmp 75); (simp (disch := (first | decide | ((try simp only [qa2]); rw [hsz]; decide))) only [ev_eq, ev_ne, a4, a11, a14] at p75); have hc : ∀ c, ρ (.const c) = c := (fun c => hρ (.const c)); have hfn : ∀ f, ρ (.func f) = .func (.func f) #[] #[] := (fun f => hρ (.func f)); clear hρ; go_simp; (all_goals (first | (with_reducible rfl) | (constructor <;> with_reducible rfl))))
            (with_reducible refine qa1 (v := ?_) rfl (by with_unfolding_all rfl) (fun ρ hρ W hW => ?_) ?_); (rotate_left 1)
            focus (clear hW; have p11 := hρ (.tmp 11); (simp (disch := (first | decide | ((try simp only [qa2]); rw [hsz]; decide))) only [ev_eq, ev_ne, a4, a11, a14] at p11); have hc : ∀ c, ρ (.const c) = c := (fun c => hρ (.const c)); have hfn : ∀ f, ρ (.func f) = .func (.func f) #[] #[] := (fun f => hρ (.func f)); clear hρ; go_simp; (all_goals (first | (with_reducible rfl) | (constructor <;> with_reducible rfl))))
            (with_reducible refine qa1 (v := ?_) rfl (by with_unfolding_all rfl) (fun ρ hρ W hW => ?_) ?_); (rotate_left 1)
            focus (clear hW; have p76 := hρ (.tmp 76); (simp (disch := (first | decide | ((try simp only [qa2]); rw [hsz]; decide))) only [ev_eq, ev_ne, a4, a11, a14] at p76); have p77 := hρ (.tmp 77); (simp (disch := (first | decide | ((try simp only [qa2]); rw [hsz]; decide))) only [ev_eq, ev_ne, a4, a11, a14] at p77); have hc : ∀ c, ρ (.const c) = c := (fun c => hρ (.const c)); have hfn : ∀ f, ρ (.func f) = .func (.func f) #[] #[] := (fun f => hρ (.func f)); clear hρ; go_simp; (all_goals (first | (with_reducible rfl) | (constructor <;> with_reducible rfl))))
            (with_reducible refine qa1 (v := ?_) rfl (by with_unfolding_all rfl) (fun ρ hρ W hW => ?_) ?_); (rotate_left 1)
            focus (have hS := KS.out _ hW; clear hW; have p78 := hρ (.tmp 78); (simp (disch := (first | decide | ((try simp only [qa2]); rw [hsz]; decide))) only [ev_eq, ev_ne, a4, a11, a14] at p78); have hc : ∀ c, ρ (.const c) = c := (fun c => hρ (.const c)); have hfn : ∀ f, ρ (.func f) = .func (.func f) #[] #[] := (fun f => hρ (.func f)); clear hρ; go_simp; (all_goals (first | (with_reducible rfl) | (constructor <;> with_reducible rfl))))
            (with_reducible refine qa1 (v := ?_) rfl (by with_unfolding_all rfl) (fun ρ hρ W hW => ?_) ?_); (rotate_left 1)
            focus (clear hW; have p14 := hρ (.tmp 14); (simp (disch := (first | decide | ((try simp only [qa2]); rw [hsz]; decide))) only [ev_eq, ev_ne, a4, a11, a14] at p14); have hc : ∀ c, ρ (.const c) = c := (fun c => hρ (.const c)); have hfn : ∀ f, ρ (.func f) = .func (.func f) #[] #[] := (fun f => hρ (.func f)); clear hρ; go_simp; (all_goals (first | (with_reducible rfl) | (constructor <;> with_reducible rfl))))
            (with_reducible refine qa1 (v := ?_) rfl (by with_unfolding_all rfl) (fun ρ hρ W hW => ?_) ?_); (rotate_left 1)
            focus (have hS := KS.out _ hW; clear hW; have p80 := hρ (.tmp 80); (simp (disch := (first | decide | ((try simp only [qa2]); rw [hsz]; decide))) only [ev_eq, ev_ne, a4, a11, a14] at p80); have hc : ∀ c, ρ (.const c) = c := (fun c => hρ (.const c)); have hfn : ∀ f, ρ (.func f) = .func (.func f) #[] #[] := (fun f => hρ (.func f)); clear hρ; go_simp; (all_goals (first | (with_reducible rfl) | (constructor <;> with_reducible rfl))))
            (with_reducible refine qih (f := ?_) (args := ?_) rfl (by with_unfolding_all rfl) (fun ρ hρ => ?_) ?_ ?_); (rotate_left 2)
            focus (have p79 := hρ (.tmp 79); (simp (disch := (first | decide | ((try simp only [qa2]); rw [hsz]; decide))) only [ev_eq, ev_ne, a4, a11, a14] at p79); have p81 := hρ (.tmp 81); (simp (disch := (first | decide | ((try simp only [qa2]); rw [hsz]; decide))) only [ev_eq, ev_ne, a4, a11, a14] at p81); have hc : ∀ c, ρ (.const c) = c := (fun c => hρ (.const c)); have hfn : ∀ f, ρ (.func f) = .func (.func f) #[] #[] := (fun f => hρ (.func f)); clear hρ; rw [qbg (hfn _)]; clear hfn; go_simp; (all_goals (first | (with_reducible rfl) | (constructor <;> with_reducible rfl))))
            (with_reducible refine (CO.out _ T.out.bel).mono ?_)
            rintro e w_7 ⟨rfl, g⟩
            have g : Bel wd w_7 := g
            have T := Lib.hid (T.out.belw g)
            clear g
            refine ⟨_, rfl, T.out, ?_⟩
            · (with_reducible refine qa1 (v := ?_) rfl (by with_unfolding_all rfl) (fun ρ hρ W hW => ?_) ?_); (rotate_left 1)
              focus (clear hW; have p82 := hρ (.tmp 82); (simp (disch := (first | decide | ((try simp only [qa2]); rw [hsz]; decide))) only [ev_eq, ev_ne, a4, a11, a14] at p82); have hc : ∀ c, ρ (.const c) = c := (fun c => hρ (.const c)); have hfn : ∀ f, ρ (.func f) = .func (.func f) #[] #[] := (fun f => hρ (.func f)); clear hρ; go_simp; (all_goals (first | (with_reducible rfl) | (constructor <;> with_reducible rfl))))
              (with_reducible refine qa1 (v := ?_) rfl (by with_unfolding_all rfl) (fun ρ hρ W hW => ?_) ?_); (rotate_left 1)
              focus (clear hW; have p74 := hρ (.tmp 74); (simp (disch := (first | decide | ((try simp only [qa2]); rw [hsz]; decide))) only [ev_eq, ev_ne, a4, a11, a14] at p74); have hc : ∀ c, ρ (.const c) = c := (fun c => hρ (.const c)); have hfn : ∀ f, ρ (.func f) = .func (.func f) #[] #[] := (fun f => hρ (.func f)); clear hρ; go_simp; (all_goals (first | (with_reducible rfl) | (constructor <;> with_reducible rfl))))
              (with_reducible refine qa1 (v := ?_) rfl (by with_unfolding_all rfl) (fun ρ hρ W hW => ?_) ?_); (rotate_left 1)
              focus (clear hW; have p74 := hρ (.tmp 74); (simp (disch := (first | decide | ((try simp only [qa2]); rw [hsz]; decide))) only [ev_eq, ev_ne, a4, a11, a14] at p74); have hc : ∀ c, ρ (.const c) = c := (fun c => hρ (.const c)); have hfn : ∀ f, ρ (.func f) = .func (.func f) #[] #[] := (fun f => hρ (.func f)); clear hρ; go_simp; (all_goals (first | (with_reducible rfl) | (constructor <;> with_reducible rfl))))
              (with_reducible refine qb8 (v := ?_) (w' := ?_) rfl (by with_unfolding_all rfl) (fun ρ hρ => ?_) ?_ ?_ ?_); (rotate_left 2)
              focus (have hc : ∀ c, ρ (.const c) = c := (fun c => hρ (.const c)); have hfn : ∀ f, ρ (.func f) = .func (.func f) #[] #[] := (fun f => hρ (.func f)); clear hρ; go_simp; (all_goals (first | (with_reducible rfl) | (constructor <;> with_reducible rfl))))
              focus exact (T.out.addbox #[.int .i64 0, .string ⟨#[]⟩, .string ⟨#[]⟩, .int .i64 0, .int .i64 0, .int .i64 0, .int .i64 0, .int .i64 0] 54).dropbox0
              have T := Lib.hid (T.out.addbox #[.int .i64 0, .string ⟨#[]⟩, .string ⟨#[]⟩, .int .i64 0, .int .i64 0, .int .i64 0, .int .i64 0, .int .i64 0] 54)
              generalize hA : World.alloc w_7 _ = w_11 at T ⊢
              clear hA
              rotate_left 1
              focus exact qax
              (refine qb7 rfl 54 (.tmp 15) (.tmp 83) (by with_unfolding_all rfl) _ vo.toArray #[.int .i64 0, .string ⟨#[]⟩, .string ⟨#[]⟩, .int .i64 0, .int .i64 0, .int .i64 0, .int .i64 0, .int .i64 0] 54 ?_ ?_ (T.out.box 0 rfl) Z1.out Z2.out HO.out ?_ ?_ ?_)
              focus (simp (disch := (first | decide | ((try simp only [qa2]); rw [hsz]; decide))) only [ev_eq, ev_ne, a4, a11, a14])
              focus (simp (disch := (first | decide | ((try simp only [qa2]); rw [hsz]; decide))) only [ev_eq, ev_ne, a4, a11, a14])
              focus exact (T.out.setrowbox 0 rfl vo.toArray).dropbox0
              have T := Lib.hid (T.out.setrowbox 0 rfl vo.toArray)
              generalize hA : World.setRow w_11 _ _ = w_12 at T ⊢
              clear hA
              rotate_left 1
              focus exact qax
              (with_reducible refine qb3 ?_)
              (simp only [List.drop_succ_cons, List.drop_zero])
              subst ha
              (simp only [qbf, set_s, set_z])
              go_wp2
              go_meet
              exact ⟨_, rfl, rfl, T⟩
            (with_reducible refine qb8 (v := ?_) (w' := ?_) rfl (by with_unfolding_all rfl) (fun ρ hρ => ?_) ?_ ?_ ?_); (rotate_left 2)
            focus (have hc : ∀ c, ρ (.const c) = c := (fun c => hρ (.const c)); have hfn : ∀ f, ρ (.func f) = .func (.func f) #[] #[] := (fun f => hρ (.func f)); clear hρ; go_simp; (all_goals (first | (with_reducible rfl) | (constructor <;> with_reducible rfl))))
            focus exact (T.out.addbox #[.int .i64 0, .string ⟨#[]⟩, .string ⟨#[]⟩, .int .i64 0, .int .i64 0, .int .i64 0, .int .i64 0, .int .i64 0] 54).dropbox0
            have T := Lib.hid (T.out.addbox #[.int .i64 0, .string ⟨#[]⟩, .string ⟨#[]⟩, .int .i64 0, .int .i64 0, .int .i64 0, .int .i64 0, .int .i64 0] 54)
            generalize hA : World.alloc wd _ = w_11 at T ⊢
            clear hA
            rotate_left 1
            focus exact qax
            (with_reducible refine qih (f := ?_) (args := ?_) rfl (by with_unfolding_all rfl) (fun ρ hρ => ?_) ?_ ?_); (rotate_left 2)
            focus (have p79 := hρ (.tmp 79); (simp (disch := (first | decide | ((try simp only [qa2]); rw [hsz]; decide))) only [ev_eq, ev_ne, a4, a11, a14] at p79); have p81 := hρ (.tmp 81); (simp (disch := (first | decide | ((try simp only [qa2]); rw [hsz]; decide))) only [ev_eq, ev_ne, a4, a11, a14] at p81); have hc : ∀ c, ρ (.const c) = c := (fun c => hρ (.const c)); have hfn : ∀ f, ρ (.func f) = .func (.func f) #[] #[] := (fun f => hρ (.func f)); clear hρ; rw [qbg (hfn _)]; clear hfn; go_simp; (all_goals (first | (with_reducible rfl) | (constructor <;> with_reducible rfl))))
            (with_reducible refine (CO.out _ T.out.bel).mono ?_)
            rintro e w_7 ⟨rfl, g⟩
            have g : Bel w_11 w_7 := g
            have T := Lib.hid (T.out.belw g)
            clear g
            refine ⟨_, rfl, T.out.dropbox0, ?_⟩
            rotate_left 1
            focus exact qax
            (with_reducible refine qa1 (v := ?_) rfl (by with_unfolding_all rfl) (fun ρ hρ W hW => ?_) ?_); (rotate_left 1)
            focus (clear hW; have p82 := hρ (.tmp 82); (simp (disch := (first | decide | ((try simp only [qa2]); rw [hsz]; decide))) only [ev_eq, ev_ne, a4, a11, a14] at p82); have hc : ∀ c, ρ (.const c) = c := (fun c => hρ (.const c)); have hfn : ∀ f, ρ (.func f) = .func (.func f) #[] #[] := (fun f => hρ (.func f)); clear hρ; go_simp; (all_goals (first | (with_reducible rfl) | (constructor <;> with_reducible rfl))))
            (with_reducible refine qa1 (v := ?_) rfl (by with_unfolding_all rfl) (fun ρ hρ W hW => ?_) ?_); (rotate_left 1)
            focus (clear hW; have p74 := hρ (.tmp 74); (simp (disch := (first | decide | ((try simp only [qa2]); rw [hsz]; decide))) only [ev_eq, ev_ne, a4, a11, a14] at p74); have hc : ∀ c, ρ (.const c) = c := (fun c => hρ (.const c)); have hfn : ∀ f, ρ (.func f) = .func (.func f) #[] #[] := (fun f => hρ (.func f)); clear hρ; go_simp; (all_goals (first | (with_reducible rfl) | (constructor <;> with_reducible rfl))))
            (with_reducible refine qa1 (v := ?_) rfl (by with_unfolding_all rfl) (fun ρ hρ W hW => ?_) ?_); (rotate_left 1)
            focus (clear hW; have p74 := hρ (.tmp 74); (simp (disch := (first | decide | ((try simp only [qa2]); rw [hsz]; decide))) only [ev_eq, ev_ne, a4, a11, a14] at p74); have hc : ∀ c, ρ (.const c) = c := (fun c => hρ (.const c)); have hfn : ∀ f, ρ (.func f) = .func (.func f) #[] #[] := (fun f => hρ (.func f)); clear hρ; go_simp; (all_goals (first | (with_reducible rfl) | (constructor <;> with_reducible rfl))))
            (refine qb7 rfl 54 (.tmp 15) (.tmp 83) (by with_unfolding_all rfl) _ vo.toArray #[.int .i64 0, .string ⟨#[]⟩, .string ⟨#[]⟩, .int .i64 0, .int .i64 0, .int .i64 0, .int .i64 0, .int .i64 0] 54 ?_ ?_ (T.out.box 0 rfl) Z1.out Z2.out HO.out ?_ ?_ ?_)
            focus (simp (disch := (first | decide | ((try simp only [qa2]); rw [hsz]; decide))) only [ev_eq, ev_ne, a4, a11, a14])
            focus (simp (disch := (first | decide | ((try simp only [qa2]); rw [hsz]; decide))) only [ev_eq, ev_ne, a4, a11, a14])
            focus exact (T.out.setrowbox 0 rfl vo.toArray).dropbox0
            have T := Lib.hid (T.out.setrowbox 0 rfl vo.toArray)
            generalize hA : World.setRow w_7 _ _ = w_12 at T ⊢
            clear hA
            rotate_left 1
            focus exact qax
            (with_reducible refine qb3 ?_)
            (simp only [List.drop_succ_cons, List.drop_zero])
            subst ha
            (simp only [qbf, set_s, set_z])
            go_wp2
            go_meet
            exact ⟨_, rfl, rfl, T⟩
          case rest =>
            obtain ⟨rb, h15, h16, T⟩ := hcut
            subst h15 h16
            clear Z1 Z2 HO CO HX
            cases r with
            | none =>
              have HD0 := Lib.hid T.out.dropbox0.dropbox0
              clear CC CL0 HKD HVO
              have hb : opB none = false := rfl
              go_wp2
              go_roundw
              case rel => exact ⟨i + 1, by omega, by go_num, HD0⟩
              case measure => simp [intOf]; omega
            | some y =>
              rw [HVO.out] at T
              have T := Lib.hid (show ST w2 [] [⟨rb, #[.int .i64 y.num, .string (S y.name), .string (S y.ali), .int .i64 y.card, .int .i64 y.key, .int .i64 y.kind, .int .i64 y.tgt, .int .i64 y.un], 54⟩, ⟨ob, #[.int .i64 o.num, .string (S o.name), .string (S o.ali), .int .i64 o.card, .int .i64 o.key, .int .i64 o.kind, .int .i64 o.tgt, .int .i64 o.un], 54⟩] wc from T.out)
              have CL := Lib.hid (fun WW => CL0 y WW)
              have CO := Lib.hid trivial
              have hb : opB (some y) = true := rfl
              clear CL0 HVO
              have HKX := Lib.hid (HKD.out y rfl)
              have t3 := T.out.cell 1 rfl 3
              have t5 := T.out.cell 1 rfl 5
              have t0 := T.out.cell 1 rfl 0
              have r3 := T.out.cell 0 rfl 3
              have r5 := T.out.cell 0 rfl 5
              dsimp only at t3 t5 t0 r3 r5
              have HKY := Lib.hid trivial
              by_cases h1 : 3 < o.card
              · have HD0 := Lib.hid T.out.dropbox0.dropbox0
                clear CC CL HKX HKY
                go_wp2
                go_roundw
                case rel => exact ⟨i + 1, by omega, by go_num, HD0⟩
                case measure => simp [intOf]; omega
              · by_cases h2 : 3 < y.card
                · have HD0 := Lib.hid T.out.dropbox0.dropbox0
                  clear CC CL HKX HKY
                  go_wp2
                  go_roundw
                  case rel => exact ⟨i + 1, by omega, by go_num, HD0⟩
                  case measure => simp [intOf]; omega
                · by_cases h3 : 8 < o.kind
                  · have HD0 := Lib.hid T.out.dropbox0.dropbox0
                    clear CC CL HKX HKY
                    go_wp2
                    go_roundw
                    case rel => exact ⟨i + 1, by omega, by go_num, HD0⟩
                    case measure => simp [intOf]; omega
                  · by_cases h4 : 8 < y.kind
                    · have HD0 := Lib.hid T.out.dropbox0.dropbox0
                      clear CC CL HKX HKY
                      go_wp2
                      go_roundw
                      case rel => exact ⟨i + 1, by omega, by go_num, HD0⟩
                      case measure => simp [intOf]; omega
                    · obtain ⟨hk2, hk4⟩ := HKX.out (by omega) (by omega) (by omega) (by omega)
                      obtain ⟨X, hX2⟩ : ∃ X, (o.kind == y.kind) = X := ⟨_, rfl⟩
                      have hX1 : (c.kind == 2) = X := by rw [← hX2, Bool.eq_iff_iff, beq_iff_eq, beq_iff_eq]; exact hk2
                      obtain ⟨Y, hY2⟩ : ∃ Y, (Pr.lev 2 o.kind y.kind == 0) = Y := ⟨_, rfl⟩
                      have hY1 : (c.kind == 4) = Y := by rw [← hY2, Bool.eq_iff_iff, beq_iff_eq, beq_iff_eq]; exact hk4
                      clear hk2 hk4 HKX HKY
                      go_upto_region 16 with (fail)
                      clear h1 h2 h3 h4 t3 t5 t0 r3 r5
                      go_cut [17, 18] (fun s17 s18 wx => ∃ ab, s17 = .pointer (some ⟨ab, 0, none⟩) ∧ s18 = .bool true ∧ Hid (ST w2 [] [⟨ab, #[.int .i64 c.num, .int .i64 c.kind, .int .i64 c.sub], 38⟩, ⟨rb, #[.int .i64 y.num, .string (S y.name), .string (S y.ali), .int .i64 y.card, .int .i64 y.key, .int .i64 y.kind, .int .i64 y.tgt, .int .i64 y.un], 54⟩, ⟨ob, #[.int .i64 o.num, .string (S o.name), .string (S o.ali), .int .i64 o.card, .int .i64 o.key, .int .i64 o.kind, .int .i64 o.tgt, .int .i64 o.un], 54⟩] wx))
                      case first => as_aux_lemma =>
                        obtain ⟨wd, hwd⟩ : ∃ wd, wd = wc.drew := ⟨_, rfl⟩
                        have T := Lib.hid (show ST w2 [] [⟨rb, #[.int .i64 y.num, .string (S y.name), .string (S y.ali), .int .i64 y.card, .int .i64 y.key, .int .i64 y.kind, .int .i64 y.tgt, .int .i64 y.un], 54⟩, ⟨ob, #[.int .i64 o.num, .string (S o.name), .string (S o.ali), .int .i64 o.card, .int .i64 o.key, .int .i64 o.kind, .int .i64 o.tgt, .int .i64 o.un], 54⟩] wd by rw [hwd]; exact T.out.belw (Bel.refl _).drew)
                        have HWD := Lib.hid hwd
                        clear hwd
                        have KS := Lib.hid (fun WW (hh : ST w2 [] [⟨rb, #[.int .i64 y.num, .string (S y.name), .string (S y.ali), .int .i64 y.card, .int .i64 y.key, .int .i64 y.kind, .int .i64 y.tgt, .int .i64 y.un], 54⟩, ⟨ob, #[.int .i64 o.num, .string (S o.name), .string (S o.ali), .int .i64 o.card, .int .i64 o.key, .int .i64 o.kind, .int .i64 o.tgt, .int .i64 o.un], 54⟩] WW) => show WW.cell? ⟨lb, loff, none⟩ = some (.int .i64 x.w) ∧ WW.cell? ⟨lb, loff + 1, none⟩ = some (.int .i64 x.r) ∧ WW.cell? ⟨lb, loff + 2, none⟩ = some (.slice aq x.acts.length ac) ∧ WW.cell? ⟨lb, loff + 3, none⟩ = some (.slice lq x.lacks.length lc) ∧ WW.cell? ⟨ob, 0, none⟩ = some (.int .i64 o.num) from ⟨hh.bel.some L0.out.1, hh.bel.some L0.out.2.1, hh.bel.some L0.out.2.2.1, hh.bel.some L0.out.2.2.2, hh.cell 1 rfl 0⟩)
                        have HO3 : (#[.int .i64 c.num, .int .i64 c.kind, .int .i64 c.sub] : Array Value).all (·.oneCell') = true := by simp [Value.oneCell']
                        clear CL CO CA HACT
                        refine qao (fun WW => ST w2 [] [⟨rb, #[.int .i64 y.num, .string (S y.name), .string (S y.ali), .int .i64 y.card, .int .i64 y.key, .int .i64 y.kind, .int .i64 y.tgt, .int .i64 y.un], 54⟩, ⟨ob, #[.int .i64 o.num, .string (S o.name), .string (S o.ali), .int .i64 o.card, .int .i64 o.key, .int .i64 o.kind, .int .i64 o.tgt, .int .i64 o.un], 54⟩] WW) (.take 0 (.take 1 (.take 2 (.take 3 (.take 4 (.alt 5 (.take 6 (.take 7 (.take 8 (.alt 9 (.alt 10 .done .no) .no)))) (.alt 9 (.alt 5 (.take 6 (.take 7 (.take 8 (.alt 10 .done .no)))) .no) .no))))))) 11 (by kernel_rfl) (by kernel_rfl) HWD.out T.out (fun a ha => ?_)
                        (simp only [pickT, List.getD_cons_zero, List.getD_cons_succ])
                        have hsz : a.tmps.size = 142 := (by rw [ha]; kernel_rfl)
                        have a7 : a.eval (.tmp 7) = .slice (some ⟨lb, loff, none⟩) l.length vc := (by rw [ha]; kernel_rfl)
                        have a14 : a.eval (.tmp 14) = .pointer (some ⟨ob, 0, none⟩) := (by rw [ha]; kernel_rfl)
                        (with_reducible refine qa1 (v := ?_) rfl (by with_unfolding_all rfl) (fun ρ hρ W hW => ?_) ?_); (rotate_left 1)
                        focus (clear hW; have p7 := hρ (.tmp 7); (simp (disch := (first | decide | ((try simp only [qa2]); rw [hsz]; decide))) only [ev_eq, ev_ne, a7, a14] at p7); have hc : ∀ c, ρ (.const c) = c := (fun c => hρ (.const c)); have hfn : ∀ f, ρ (.func f) = .func (.func f) #[] #[] := (fun f => hρ (.func f)); clear hρ; go_simp; (all_goals (first | (with_reducible rfl) | (constructor <;> with_reducible rfl))))
                        (with_reducible refine qa1 (v := ?_) rfl (by with_unfolding_all rfl) (fun ρ hρ W hW => ?_) ?_); (rotate_left 1)
                        focus (clear hW; have p108 := hρ (.tmp 108); (simp (disch := (first | decide | ((try simp only [qa2]); rw [hsz]; decide))) only [ev_eq, ev_ne, a7, a14] at p108); have hc : ∀ c, ρ (.const c) = c := (fun c => hρ (.const c)); have hfn : ∀ f, ρ (.func f) = .func (.func f) #[] #[] := (fun f => hρ (.func f)); clear hρ; go_simp; (all_goals (first | (with_reducible rfl) | (constructor <;> with_reducible rfl))))
                        (with_reducible refine qa1 (v := ?_) rfl (by with_unfolding_all rfl) (fun ρ hρ W hW => ?_) ?_); (rotate_left 1)
                        focus (have hS := KS.out _ hW; clear hW; have p109 := hρ (.tmp 109); (simp (disch := (first | decide | ((try simp only [qa2]); rw [hsz]; decide))) only [ev_eq, ev_ne, a7, a14] at p109); have hc : ∀ c, ρ (.const c) = c := (fun c => hρ (.const c)); have hfn : ∀ f, ρ (.func f) = .func (.func f) #[] #[] := (fun f => hρ (.func f)); clear hρ; go_simp; (all_goals (first | (with_reducible rfl) | (constructor <;> with_reducible rfl))))
                        (with_reducible refine qa1 (v := ?_) rfl (by with_unfolding_all rfl) (fun ρ hρ W hW => ?_) ?_); (rotate_left 1)
                        focus (clear hW; have p14 := hρ (.tmp 14); (simp (disch := (first | decide | ((try simp only [qa2]); rw [hsz]; decide))) only [ev_eq, ev_ne, a7, a14] at p14); have hc : ∀ c, ρ (.const c) = c := (fun c => hρ (.const c)); have hfn : ∀ f, ρ (.func f) = .func (.func f) #[] #[] := (fun f => hρ (.func f)); clear hρ; go_simp; (all_goals (first | (with_reducible rfl) | (constructor <;> with_reducible rfl))))
                        (with_reducible refine qa1 (v := ?_) rfl (by with_unfolding_all rfl) (fun ρ hρ W hW => ?_) ?_); (rotate_left 1)
                        focus (have hS := KS.out _ hW; clear hW; have p111 := hρ (.tmp 111); (simp (disch := (first | decide | ((try simp only [qa2]); rw [hsz]; decide))) only [ev_eq, ev_ne, a7, a14] at p111); have hc : ∀ c, ρ (.const c) = c := (fun c => hρ (.const c)); have hfn : ∀ f, ρ (.func f) = .func (.func f) #[] #[] := (fun f => hρ (.func f)); clear hρ; go_simp; (all_goals (first | (with_reducible rfl) | (constructor <;> with_reducible rfl))))
                        (with_reducible refine qih (f := ?_) (args := ?_) rfl (by with_unfolding_all rfl) (fun ρ hρ => ?_) ?_ ?_); (rotate_left 2)
                        focus (have p110 := hρ (.tmp 110); (simp (disch := (first | decide | ((try simp only [qa2]); rw [hsz]; decide))) only [ev_eq, ev_ne, a7, a14] at p110); have p112 := hρ (.tmp 112); (simp (disch := (first | decide | ((try simp only [qa2]); rw [hsz]; decide))) only [ev_eq, ev_ne, a7, a14] at p112); have hc : ∀ c, ρ (.const c) = c := (fun c => hρ (.const c)); have hfn : ∀ f, ρ (.func f) = .func (.func f) #[] #[] := (fun f => hρ (.func f)); clear hρ; rw [qbg (hfn _)]; clear hfn; go_simp; (all_goals (first | (with_reducible rfl) | (constructor <;> with_reducible rfl))))
                        (with_reducible refine (CC.out _ T.out.bel).mono ?_)
                        rintro e w_5 ⟨rfl, g⟩
                        have g : Bel wd w_5 := g
                        have T := Lib.hid (T.out.belw g)
                        clear g
                        refine ⟨_, rfl, T.out, ?_⟩
                        · (with_reducible refine qa1 (v := ?_) rfl (by with_unfolding_all rfl) (fun ρ hρ W hW => ?_) ?_); (rotate_left 1)
                          focus (clear hW; have p113 := hρ (.tmp 113); (simp (disch := (first | decide | ((try simp only [qa2]); rw [hsz]; decide))) only [ev_eq, ev_ne, a7, a14] at p113); have hc : ∀ c, ρ (.const c) = c := (fun c => hρ (.const c)); have hfn : ∀ f, ρ (.func f) = .func (.func f) #[] #[] := (fun f => hρ (.func f)); clear hρ; go_simp; (all_goals (first | (with_reducible rfl) | (constructor <;> with_reducible rfl))))
                          (with_reducible refine qa1 (v := ?_) rfl (by with_unfolding_all rfl) (fun ρ hρ W hW => ?_) ?_); (rotate_left 1)
                          focus (clear hW; have p107 := hρ (.tmp 107); (simp (disch := (first | decide | ((try simp only [qa2]); rw [hsz]; decide))) only [ev_eq, ev_ne, a7, a14] at p107); have hc : ∀ c, ρ (.const c) = c := (fun c => hρ (.const c)); have hfn : ∀ f, ρ (.func f) = .func (.func f) #[] #[] := (fun f => hρ (.func f)); clear hρ; go_simp; (all_goals (first | (with_reducible rfl) | (constructor <;> with_reducible rfl))))
                          (with_reducible refine qa1 (v := ?_) rfl (by with_unfolding_all rfl) (fun ρ hρ W hW => ?_) ?_); (rotate_left 1)
                          focus (clear hW; have p107 := hρ (.tmp 107); (simp (disch := (first | decide | ((try simp only [qa2]); rw [hsz]; decide))) only [ev_eq, ev_ne, a7, a14] at p107); have hc : ∀ c, ρ (.const c) = c := (fun c => hρ (.const c)); have hfn : ∀ f, ρ (.func f) = .func (.func f) #[] #[] := (fun f => hρ (.func f)); clear hρ; go_simp; (all_goals (first | (with_reducible rfl) | (constructor <;> with_reducible rfl))))
                          (with_reducible refine qb8 (v := ?_) (w' := ?_) rfl (by with_unfolding_all rfl) (fun ρ hρ => ?_) ?_ ?_ ?_); (rotate_left 2)
                          focus (have hc : ∀ c, ρ (.const c) = c := (fun c => hρ (.const c)); have hfn : ∀ f, ρ (.func f) = .func (.func f) #[] #[] := (fun f => hρ (.func f)); clear hρ; go_simp; (all_goals (first | (with_reducible rfl) | (constructor <;> with_reducible rfl))))
                          focus exact (T.out.addbox #[.int .i64 0, .int .i64 0, .int .i64 0] 38).dropbox0
                          have T := Lib.hid (T.out.addbox #[.int .i64 0, .int .i64 0, .int .i64 0] 38)
                          generalize hA : World.alloc w_5 _ = w_9 at T ⊢
                          clear hA
                          rotate_left 1
                          focus exact qax
                          (refine qb7 rfl 38 (.tmp 17) (.tmp 114) (by with_unfolding_all rfl) _ #[.int .i64 c.num, .int .i64 c.kind, .int .i64 c.sub] #[.int .i64 0, .int .i64 0, .int .i64 0] 38 ?_ ?_ (T.out.box 0 rfl) qbe rfl HO3 ?_ ?_ ?_)
                          focus (simp (disch := (first | decide | ((try simp only [qa2]); rw [hsz]; decide))) only [ev_eq, ev_ne, a7, a14])
                          focus (simp (disch := (first | decide | ((try simp only [qa2]); rw [hsz]; decide))) only [ev_eq, ev_ne, a7, a14])
                          focus exact (T.out.setrowbox 0 rfl #[.int .i64 c.num, .int .i64 c.kind, .int .i64 c.sub]).dropbox0
                          have T := Lib.hid (T.out.setrowbox 0 rfl #[.int .i64 c.num, .int .i64 c.kind, .int .i64 c.sub])
                          generalize hA : World.setRow w_9 _ _ = w_10 at T ⊢
                          clear hA
                          rotate_left 1
                          focus exact qax
                          (with_reducible refine qb3 ?_)
                          (simp only [List.drop_succ_cons, List.drop_zero])
                          subst ha
                          (simp only [qbf, set_s, set_z])
                          go_wp2
                          go_meet
                          exact ⟨_, rfl, rfl, T⟩
                        (with_reducible refine qb8 (v := ?_) (w' := ?_) rfl (by with_unfolding_all rfl) (fun ρ hρ => ?_) ?_ ?_ ?_); (rotate_left 2)
                        focus (have hc : ∀ c, ρ (.const c) = c := (fun c => hρ (.const c)); have hfn : ∀ f, ρ (.func f) = .func (.func f) #[] #[] := (fun f => hρ (.func f)); clear hρ; go_simp; (all_goals (first | (with_reducible rfl) | (constructor <;> with_reducible rfl))))
                        focus exact (T.out.addbox #[.int .i64 0, .int .i64 0, .int .i64 0] 38).dropbox0
                        have T := Lib.hid (T.out.addbox #[.int .i64 0, .int .i64 0, .int .i64 0] 38)
                        generalize hA : World.alloc wd _ = w_9 at T ⊢
                        clear hA
                        rotate_left 1
                        focus exact qax
                        (with_reducible refine qih (f := ?_) (args := ?_) rfl (by with_unfolding_all rfl) (fun ρ hρ => ?_) ?_ ?_); (rotate_left 2)
                        focus (have p110 := hρ (.tmp 110); (simp (disch := (first | decide | ((try simp only [qa2]); rw [hsz]; decide))) only [ev_eq, ev_ne, a7, a14] at p110); have p112 := hρ (.tmp 112); (simp (disch := (first | decide | ((try simp only [qa2]); rw [hsz]; decide))) only [ev_eq, ev_ne, a7, a14] at p112); have hc : ∀ c, ρ (.const c) = c := (fun c => hρ (.const c)); have hfn : ∀ f, ρ (.func f) = .func (.func f) #[] #[] := (fun f => hρ (.func f)); clear hρ; rw [qbg (hfn _)]; clear hfn; go_simp; (all_goals (first | (with_reducible rfl) | (constructor <;> with_reducible rfl))))
                        (with_reducible refine (CC.out _ T.out.bel).mono ?_)
                        rintro e w_5 ⟨rfl, g⟩
                        have g : Bel w_9 w_5 := g
                        have T := Lib.hid (T.out.belw g)
                        clear g
                        refine ⟨_, rfl, T.out.dropbox0, ?_⟩
                        rotate_left 1
                        focus exact qax
                        (with_reducible refine qa1 (v := ?_) rfl (by with_unfolding_all rfl) (fun ρ hρ W hW => ?_) ?_); (rotate_left 1)
                        focus (clear hW; have p113 := hρ (.tmp 113); (simp (disch := (first | decide | ((try simp only [qa2]); rw [hsz]; decide))) only [ev_eq, ev_ne, a7, a14] at p113); have hc : ∀ c, ρ (.const c) = c := (fun c => hρ (.const c)); have hfn : ∀ f, ρ (.func f) = .func (.func f) #[] #[] := (fun f => hρ (.func f)); clear hρ; go_simp; (all_goals (first | (with_reducible rfl) | (constructor <;> with_reducible rfl))))
                        (with_reducible refine qa1 (v := ?_) rfl (by with_unfolding_all rfl) (fun ρ hρ W hW => ?_) ?_); (rotate_left 1)
                        focus (clear hW; have p107 := hρ (.tmp 107); (simp (disch := (first | decide | ((try simp only [qa2]); rw [hsz]; decide))) only [ev_eq, ev_ne, a7, a14] at p107); have hc : ∀ c, ρ (.const c) = c := (fun c => hρ (.const c)); have hfn : ∀ f, ρ (.func f) = .func (.func f) #[] #[] := (fun f => hρ (.func f)); clear hρ; go_simp; (all_goals (first | (with_reducible rfl) | (constructor <;> with_reducible rfl))))
                        (with_reducible refine qa1 (v := ?_) rfl (by with_unfolding_all rfl) (fun ρ hρ W hW => ?_) ?_); (rotate_left 1)
                        focus (clear hW; have p107 := hρ (.tmp 107); (simp (disch := (first | decide | ((try simp only [qa2]); rw [hsz]; decide))) only [ev_eq, ev_ne, a7, a14] at p107); have hc : ∀ c, ρ (.const c) = c := (fun c => hρ (.const c)); have hfn : ∀ f, ρ (.func f) = .func (.func f) #[] #[] := (fun f => hρ (.func f)); clear hρ; go_simp; (all_goals (first | (with_reducible rfl) | (constructor <;> with_reducible rfl))))
                        (refine qb7 rfl 38 (.tmp 17) (.tmp 114) (by with_unfolding_all rfl) _ #[.int .i64 c.num, .int .i64 c.kind, .int .i64 c.sub] #[.int .i64 0, .int .i64 0, .int .i64 0] 38 ?_ ?_ (T.out.box 0 rfl) qbe rfl HO3 ?_ ?_ ?_)
                        focus (simp (disch := (first | decide | ((try simp only [qa2]); rw [hsz]; decide))) only [ev_eq, ev_ne, a7, a14])
                        focus (simp (disch := (first | decide | ((try simp only [qa2]); rw [hsz]; decide))) only [ev_eq, ev_ne, a7, a14])
                        focus exact (T.out.setrowbox 0 rfl #[.int .i64 c.num, .int .i64 c.kind, .int .i64 c.sub]).dropbox0
                        have T := Lib.hid (T.out.setrowbox 0 rfl #[.int .i64 c.num, .int .i64 c.kind, .int .i64 c.sub])
                        generalize hA : World.setRow w_5 _ _ = w_10 at T ⊢
                        clear hA
                        rotate_left 1
                        focus exact qax
                        (with_reducible refine qb3 ?_)
                        (simp only [List.drop_succ_cons, List.drop_zero])
                        subst ha
                        (simp only [qbf, set_s, set_z])
                        go_wp2
                        go_meet
                        exact ⟨_, rfl, rfl, T⟩
                      case rest =>
                        obtain ⟨ab, h17, h18, T⟩ := hcut
                        subst h17 h18
                        go_upto_region 17 with (fail)
                        obtain ⟨wd, hwd⟩ : ∃ wd, wd = wc.drew := ⟨_, rfl⟩
                        have T := Lib.hid (show ST w2 [] [⟨ab, #[.int .i64 c.num, .int .i64 c.kind, .int .i64 c.sub], 38⟩, ⟨rb, #[.int .i64 y.num, .string (S y.name), .string (S y.ali), .int .i64 y.card, .int .i64 y.key, .int .i64 y.kind, .int .i64 y.tgt, .int .i64 y.un], 54⟩, ⟨ob, #[.int .i64 o.num, .string (S o.name), .string (S o.ali), .int .i64 o.card, .int .i64 o.key, .int .i64 o.kind, .int .i64 o.tgt, .int .i64 o.un], 54⟩] wd by rw [hwd]; exact T.out.belw (Bel.refl _).drew)
                        have HWD := Lib.hid hwd
                        clear hwd
                        have KS := Lib.hid (fun WW (hh : ST w2 [] [⟨ab, #[.int .i64 c.num, .int .i64 c.kind, .int .i64 c.sub], 38⟩, ⟨rb, #[.int .i64 y.num, .string (S y.name), .string (S y.ali), .int .i64 y.card, .int .i64 y.key, .int .i64 y.kind, .int .i64 y.tgt, .int .i64 y.un], 54⟩, ⟨ob, #[.int .i64 o.num, .string (S o.name), .string (S o.ali), .int .i64 o.card, .int .i64 o.key, .int .i64 o.kind, .int .i64 o.tgt, .int .i64 o.un], 54⟩] WW) => show WW.cell? ⟨ab, 1, none⟩ = some (.int .i64 c.kind) ∧ WW.cell? ⟨ob, 5, none⟩ = some (.int .i64 o.kind) ∧ WW.cell? ⟨rb, 5, none⟩ = some (.int .i64 y.kind) from ⟨hh.cell 0 rfl 1, hh.cell 2 rfl 5, hh.cell 1 rfl 5⟩)
                        clear CC CO CA HACT
                        refine qao (fun WW => ST w2 [] [⟨ab, #[.int .i64 c.num, .int .i64 c.kind, .int .i64 c.sub], 38⟩, ⟨rb, #[.int .i64 y.num, .string (S y.name), .string (S y.ali), .int .i64 y.card, .int .i64 y.key, .int .i64 y.kind, .int .i64 y.tgt, .int .i64 y.un], 54⟩, ⟨ob, #[.int .i64 o.num, .string (S o.name), .string (S o.ali), .int .i64 o.card, .int .i64 o.key, .int .i64 o.kind, .int .i64 o.tgt, .int .i64 o.un], 54⟩] WW) (.take 0 (.take 1 (.take 2 (.take 3 (.take 4 (.take 5 (.take 6 (.take 7 (.take 8 (.take 9 (.take 10 (.take 11 (.take 12 (.take 13 (.take 14 (.take 15 (.take 16 (.take 17 (.take 18 (.take 19 (.take 20 (.alt 21 (.take 22 .done) .no)))))))))))))))))))))) 23 (by kernel_rfl) (by kernel_rfl) HWD.out T.out (fun a ha => ?_)
                        (simp only [pickT, List.getD_cons_zero, List.getD_cons_succ])
                        have hsz : a.tmps.size = 142 := (by rw [ha]; kernel_rfl)
                        have a18 : a.eval (.tmp 18) = .bool true := (by rw [ha]; kernel_rfl)
                        have a17 : a.eval (.tmp 17) = .pointer (some ⟨ab, 0, none⟩) := (by rw [ha]; kernel_rfl)
                        have a14 : a.eval (.tmp 14) = .pointer (some ⟨ob, 0, none⟩) := (by rw [ha]; kernel_rfl)
                        have a15 : a.eval (.tmp 15) = .pointer (some ⟨rb, 0, none⟩) := (by rw [ha]; kernel_rfl)
                        (with_reducible refine qa1 (v := ?_) rfl (by with_unfolding_all rfl) (fun ρ hρ W hW => ?_) ?_); (rotate_left 1)
                        focus (clear hW; have p18 := hρ (.tmp 18); (simp (disch := (first | decide | ((try simp only [qa2]); rw [hsz]; decide))) only [ev_eq, ev_ne, a18, a17, a14, a15] at p18); have hc : ∀ c, ρ (.const c) = c := (fun c => hρ (.const c)); have hfn : ∀ f, ρ (.func f) = .func (.func f) #[] #[] := (fun f => hρ (.func f)); clear hρ; go_simp; (all_goals (first | (with_reducible rfl) | (constructor <;> with_reducible rfl))))
                        (with_reducible refine qa1 (v := ?_) rfl (by with_unfolding_all rfl) (fun ρ hρ W hW => ?_) ?_); (rotate_left 1)
                        focus (clear hW; have p116 := hρ (.tmp 116); (simp (disch := (first | decide | ((try simp only [qa2]); rw [hsz]; decide))) only [ev_eq, ev_ne, a18, a17, a14, a15] at p116); have hc : ∀ c, ρ (.const c) = c := (fun c => hρ (.const c)); have hfn : ∀ f, ρ (.func f) = .func (.func f) #[] #[] := (fun f => hρ (.func f)); clear hρ; go_simp; (all_goals (first | (with_reducible rfl) | (constructor <;> with_reducible rfl))))
                        (with_reducible refine qa1 (v := .bool false) rfl (by with_unfolding_all rfl) (fun ρ hρ W hW => ?_) ?_); skip
                        focus (clear hW; have p117 := hρ (.tmp 117); (simp (disch := (first | decide | ((try simp only [qa2]); rw [hsz]; decide))) only [ev_eq, ev_ne, a18, a17, a14, a15] at p117); have hc : ∀ c, ρ (.const c) = c := (fun c => hρ (.const c)); have hfn : ∀ f, ρ (.func f) = .func (.func f) #[] #[] := (fun f => hρ (.func f)); clear hρ; go_simp; (first | done | (all_goals (first | (with_reducible rfl) | (constructor <;> with_reducible rfl))) | (simp only [hX1, hX2, hY1, hY2]; done) | (simp [hX1, hX2, hY1, hY2]; done) | ((try simp only [hX1, hX2, hY1, hY2]); done)))
                        (with_reducible refine qab (v := ?_) (t := 118) rfl rfl (by with_unfolding_all rfl) ?_ (fun ρ hρ W hW => ?_) ?_); (rotate_left 1)
                        focus (simp (disch := (first | decide | ((try simp only [qa2]); rw [hsz]; decide))) only [ev_eq, ev_ne, a18, a17, a14, a15])
                        focus (clear hW; have p17 := hρ (.tmp 17); (simp (disch := (first | decide | ((try simp only [qa2]); rw [hsz]; decide))) only [ev_eq, ev_ne, a18, a17, a14, a15] at p17); have hc : ∀ c, ρ (.const c) = c := (fun c => hρ (.const c)); have hfn : ∀ f, ρ (.func f) = .func (.func f) #[] #[] := (fun f => hρ (.func f)); clear hρ; go_simp; (all_goals (first | (with_reducible rfl) | (constructor <;> with_reducible rfl))))
                        (with_reducible refine qab (v := ?_) (t := 118) rfl rfl (by with_unfolding_all rfl) ?_ (fun ρ hρ W hW => ?_) ?_); (rotate_left 1)
                        focus (simp (disch := (first | decide | ((try simp only [qa2]); rw [hsz]; decide))) only [ev_eq, ev_ne, a18, a17, a14, a15])
                        focus (have hS := KS.out _ hW; clear hW; have p119 := hρ (.tmp 119); (simp (disch := (first | decide | ((try simp only [qa2]); rw [hsz]; decide))) only [ev_eq, ev_ne, a18, a17, a14, a15] at p119); have hc : ∀ c, ρ (.const c) = c := (fun c => hρ (.const c)); have hfn : ∀ f, ρ (.func f) = .func (.func f) #[] #[] := (fun f => hρ (.func f)); clear hρ; go_simp; (all_goals (first | (with_reducible rfl) | (constructor <;> with_reducible rfl))))
                        (with_reducible refine qab (v := ?_) (t := 118) rfl rfl (by with_unfolding_all rfl) ?_ (fun ρ hρ W hW => ?_) ?_); (rotate_left 1)
                        focus (simp (disch := (first | decide | ((try simp only [qa2]); rw [hsz]; decide))) only [ev_eq, ev_ne, a18, a17, a14, a15])
                        focus (clear hW; have p120 := hρ (.tmp 120); (simp (disch := (first | decide | ((try simp only [qa2]); rw [hsz]; decide))) only [ev_eq, ev_ne, a18, a17, a14, a15] at p120); have hc : ∀ c, ρ (.const c) = c := (fun c => hρ (.const c)); have hfn : ∀ f, ρ (.func f) = .func (.func f) #[] #[] := (fun f => hρ (.func f)); clear hρ; go_simp; (all_goals (first | (with_reducible rfl) | (constructor <;> with_reducible rfl))))
                        (with_reducible refine qab (v := ?_) (t := 118) rfl rfl (by with_unfolding_all rfl) ?_ (fun ρ hρ W hW => ?_) ?_); (rotate_left 1)
                        focus (simp (disch := (first | decide | ((try simp only [qa2]); rw [hsz]; decide))) only [ev_eq, ev_ne, a18, a17, a14, a15])
                        focus (clear hW; have p14 := hρ (.tmp 14); (simp (disch := (first | decide | ((try simp only [qa2]); rw [hsz]; decide))) only [ev_eq, ev_ne, a18, a17, a14, a15] at p14); have hc : ∀ c, ρ (.const c) = c := (fun c => hρ (.const c)); have hfn : ∀ f, ρ (.func f) = .func (.func f) #[] #[] := (fun f => hρ (.func f)); clear hρ; go_simp; (all_goals (first | (with_reducible rfl) | (constructor <;> with_reducible rfl))))
                        (with_reducible refine qab (v := ?_) (t := 118) rfl rfl (by with_unfolding_all rfl) ?_ (fun ρ hρ W hW => ?_) ?_); (rotate_left 1)
                        focus (simp (disch := (first | decide | ((try simp only [qa2]); rw [hsz]; decide))) only [ev_eq, ev_ne, a18, a17, a14, a15])
                        focus (have hS := KS.out _ hW; clear hW; have p122 := hρ (.tmp 122); (simp (disch := (first | decide | ((try simp only [qa2]); rw [hsz]; decide))) only [ev_eq, ev_ne, a18, a17, a14, a15] at p122); have hc : ∀ c, ρ (.const c) = c := (fun c => hρ (.const c)); have hfn : ∀ f, ρ (.func f) = .func (.func f) #[] #[] := (fun f => hρ (.func f)); clear hρ; go_simp; (all_goals (first | (with_reducible rfl) | (constructor <;> with_reducible rfl))))
                        (with_reducible refine qab (v := ?_) (t := 118) rfl rfl (by with_unfolding_all rfl) ?_ (fun ρ hρ W hW => ?_) ?_); (rotate_left 1)
                        focus (simp (disch := (first | decide | ((try simp only [qa2]); rw [hsz]; decide))) only [ev_eq, ev_ne, a18, a17, a14, a15])
                        focus (clear hW; have p15 := hρ (.tmp 15); (simp (disch := (first | decide | ((try simp only [qa2]); rw [hsz]; decide))) only [ev_eq, ev_ne, a18, a17, a14, a15] at p15); have hc : ∀ c, ρ (.const c) = c := (fun c => hρ (.const c)); have hfn : ∀ f, ρ (.func f) = .func (.func f) #[] #[] := (fun f => hρ (.func f)); clear hρ; go_simp; (all_goals (first | (with_reducible rfl) | (constructor <;> with_reducible rfl))))
                        (with_reducible refine qab (v := ?_) (t := 118) rfl rfl (by with_unfolding_all rfl) ?_ (fun ρ hρ W hW => ?_) ?_); (rotate_left 1)
                        focus (simp (disch := (first | decide | ((try simp only [qa2]); rw [hsz]; decide))) only [ev_eq, ev_ne, a18, a17, a14, a15])
                        focus (have hS := KS.out _ hW; clear hW; have p124 := hρ (.tmp 124); (simp (disch := (first | decide | ((try simp only [qa2]); rw [hsz]; decide))) only [ev_eq, ev_ne, a18, a17, a14, a15] at p124); have hc : ∀ c, ρ (.const c) = c := (fun c => hρ (.const c)); have hfn : ∀ f, ρ (.func f) = .func (.func f) #[] #[] := (fun f => hρ (.func f)); clear hρ; go_simp; (all_goals (first | (with_reducible rfl) | (constructor <;> with_reducible rfl))))
                        (with_reducible refine qab (v := ?_) (t := 118) rfl rfl (by with_unfolding_all rfl) ?_ (fun ρ hρ W hW => ?_) ?_); (rotate_left 1)
                        focus (simp (disch := (first | decide | ((try simp only [qa2]); rw [hsz]; decide))) only [ev_eq, ev_ne, a18, a17, a14, a15])
                        focus (clear hW; have p123 := hρ (.tmp 123); (simp (disch := (first | decide | ((try simp only [qa2]); rw [hsz]; decide))) only [ev_eq, ev_ne, a18, a17, a14, a15] at p123); have p125 := hρ (.tmp 125); (simp (disch := (first | decide | ((try simp only [qa2]); rw [hsz]; decide))) only [ev_eq, ev_ne, a18, a17, a14, a15] at p125); have hc : ∀ c, ρ (.const c) = c := (fun c => hρ (.const c)); have hfn : ∀ f, ρ (.func f) = .func (.func f) #[] #[] := (fun f => hρ (.func f)); clear hρ; go_simp; (all_goals (first | (with_reducible rfl) | (constructor <;> with_reducible rfl))))
                        (with_reducible refine qab (v := .bool false) (t := 118) rfl rfl (by with_unfolding_all rfl) ?_ (fun ρ hρ W hW => ?_) ?_); skip
                        focus (simp (disch := (first | decide | ((try simp only [qa2]); rw [hsz]; decide))) only [ev_eq, ev_ne, a18, a17, a14, a15])
                        focus (clear hW; have p121 := hρ (.tmp 121); (simp (disch := (first | decide | ((try simp only [qa2]); rw [hsz]; decide))) only [ev_eq, ev_ne, a18, a17, a14, a15] at p121); have p126 := hρ (.tmp 126); (simp (disch := (first | decide | ((try simp only [qa2]); rw [hsz]; decide))) only [ev_eq, ev_ne, a18, a17, a14, a15] at p126); have hc : ∀ c, ρ (.const c) = c := (fun c => hρ (.const c)); have hfn : ∀ f, ρ (.func f) = .func (.func f) #[] #[] := (fun f => hρ (.func f)); clear hρ; go_simp; (first | done | (all_goals (first | (with_reducible rfl) | (constructor <;> with_reducible rfl))) | (simp only [hX1, hX2, hY1, hY2]; done) | (simp [hX1, hX2, hY1, hY2]; done) | ((try simp only [hX1, hX2, hY1, hY2]); done)))
                        (with_reducible refine qa1 (v := .bool false) rfl (by with_unfolding_all rfl) (fun ρ hρ W hW => ?_) ?_); skip
                        focus (clear hW; have p118 := hρ (.tmp 118); (simp (disch := (first | decide | ((try simp only [qa2]); rw [hsz]; decide))) only [ev_eq, ev_ne, a18, a17, a14, a15] at p118); have p127 := hρ (.tmp 127); (simp (disch := (first | decide | ((try simp only [qa2]); rw [hsz]; decide))) only [ev_eq, ev_ne, a18, a17, a14, a15] at p127); have hc : ∀ c, ρ (.const c) = c := (fun c => hρ (.const c)); have hfn : ∀ f, ρ (.func f) = .func (.func f) #[] #[] := (fun f => hρ (.func f)); clear hρ; go_simp; (first | done | (all_goals (first | (with_reducible rfl) | (constructor <;> with_reducible rfl))) | (simp only [hX1, hX2, hY1, hY2]; done) | (simp [hX1, hX2, hY1, hY2]; done) | ((try simp only [hX1, hX2, hY1, hY2]); done)))
                        (with_reducible refine qa1 (v := .bool false) rfl (by with_unfolding_all rfl) (fun ρ hρ W hW => ?_) ?_); skip
                        focus (clear hW; have p128 := hρ (.tmp 128); (simp (disch := (first | decide | ((try simp only [qa2]); rw [hsz]; decide))) only [ev_eq, ev_ne, a18, a17, a14, a15] at p128); have hc : ∀ c, ρ (.const c) = c := (fun c => hρ (.const c)); have hfn : ∀ f, ρ (.func f) = .func (.func f) #[] #[] := (fun f => hρ (.func f)); clear hρ; go_simp; (first | done | (all_goals (first | (with_reducible rfl) | (constructor <;> with_reducible rfl))) | (simp only [hX1, hX2, hY1, hY2]; done) | (simp [hX1, hX2, hY1, hY2]; done) | ((try simp only [hX1, hX2, hY1, hY2]); done)))
                        (with_reducible refine qab (v := ?_) (t := 129) rfl rfl (by with_unfolding_all rfl) ?_ (fun ρ hρ W hW => ?_) ?_); (rotate_left 1)
                        focus (simp (disch := (first | decide | ((try simp only [qa2]); rw [hsz]; decide))) only [ev_eq, ev_ne, a18, a17, a14, a15])
                        focus (clear hW; have p17 := hρ (.tmp 17); (simp (disch := (first | decide | ((try simp only [qa2]); rw [hsz]; decide))) only [ev_eq, ev_ne, a18, a17, a14, a15] at p17); have hc : ∀ c, ρ (.const c) = c := (fun c => hρ (.const c)); have hfn : ∀ f, ρ (.func f) = .func (.func f) #[] #[] := (fun f => hρ (.func f)); clear hρ; go_simp; (all_goals (first | (with_reducible rfl) | (constructor <;> with_reducible rfl))))
                        (with_reducible refine qab (v := ?_) (t := 129) rfl rfl (by with_unfolding_all rfl) ?_ (fun ρ hρ W hW => ?_) ?_); (rotate_left 1)
                        focus (simp (disch := (first | decide | ((try simp only [qa2]); rw [hsz]; decide))) only [ev_eq, ev_ne, a18, a17, a14, a15])
                        focus (have hS := KS.out _ hW; clear hW; have p130 := hρ (.tmp 130); (simp (disch := (first | decide | ((try simp only [qa2]); rw [hsz]; decide))) only [ev_eq, ev_ne, a18, a17, a14, a15] at p130); have hc : ∀ c, ρ (.const c) = c := (fun c => hρ (.const c)); have hfn : ∀ f, ρ (.func f) = .func (.func f) #[] #[] := (fun f => hρ (.func f)); clear hρ; go_simp; (all_goals (first | (with_reducible rfl) | (constructor <;> with_reducible rfl))))
                        (with_reducible refine qab (v := ?_) (t := 129) rfl rfl (by with_unfolding_all rfl) ?_ (fun ρ hρ W hW => ?_) ?_); (rotate_left 1)
                        focus (simp (disch := (first | decide | ((try simp only [qa2]); rw [hsz]; decide))) only [ev_eq, ev_ne, a18, a17, a14, a15])
                        focus (clear hW; have p131 := hρ (.tmp 131); (simp (disch := (first | decide | ((try simp only [qa2]); rw [hsz]; decide))) only [ev_eq, ev_ne, a18, a17, a14, a15] at p131); have hc : ∀ c, ρ (.const c) = c := (fun c => hρ (.const c)); have hfn : ∀ f, ρ (.func f) = .func (.func f) #[] #[] := (fun f => hρ (.func f)); clear hρ; go_simp; (all_goals (first | (with_reducible rfl) | (constructor <;> with_reducible rfl))))
                        (with_reducible refine qab (v := ?_) (t := 129) rfl rfl (by with_unfolding_all rfl) ?_ (fun ρ hρ W hW => ?_) ?_); (rotate_left 1)
                        focus (simp (disch := (first | decide | ((try simp only [qa2]); rw [hsz]; decide))) only [ev_eq, ev_ne, a18, a17, a14, a15])
                        focus (clear hW; have p14 := hρ (.tmp 14); (simp (disch := (first | decide | ((try simp only [qa2]); rw [hsz]; decide))) only [ev_eq, ev_ne, a18, a17, a14, a15] at p14); have hc : ∀ c, ρ (.const c) = c := (fun c => hρ (.const c)); have hfn : ∀ f, ρ (.func f) = .func (.func f) #[] #[] := (fun f => hρ (.func f)); clear hρ; go_simp; (all_goals (first | (with_reducible rfl) | (constructor <;> with_reducible rfl))))
                        (with_reducible refine qab (v := ?_) (t := 129) rfl rfl (by with_unfolding_all rfl) ?_ (fun ρ hρ W hW => ?_) ?_); (rotate_left 1)
                        focus (simp (disch := (first | decide | ((try simp only [qa2]); rw [hsz]; decide))) only [ev_eq, ev_ne, a18, a17, a14, a15])
                        focus (have hS := KS.out _ hW; clear hW; have p133 := hρ (.tmp 133); (simp (disch := (first | decide | ((try simp only [qa2]); rw [hsz]; decide))) only [ev_eq, ev_ne, a18, a17, a14, a15] at p133); have hc : ∀ c, ρ (.const c) = c := (fun c => hρ (.const c)); have hfn : ∀ f, ρ (.func f) = .func (.func f) #[] #[] := (fun f => hρ (.func f)); clear hρ; go_simp; (all_goals (first | (with_reducible rfl) | (constructor <;> with_reducible rfl))))
                        (with_reducible refine qab (v := ?_) (t := 129) rfl rfl (by with_unfolding_all rfl) ?_ (fun ρ hρ W hW => ?_) ?_); (rotate_left 1)
                        focus (simp (disch := (first | decide | ((try simp only [qa2]); rw [hsz]; decide))) only [ev_eq, ev_ne, a18, a17, a14, a15])
                        focus (clear hW; have p15 := hρ (.tmp 15); (simp (disch := (first | decide | ((try simp only [qa2]); rw [hsz]; decide))) only [ev_eq, ev_ne, a18, a17, a14, a15] at p15); have hc : ∀ c, ρ (.const c) = c := (fun c => hρ (.const c)); have hfn : ∀ f, ρ (.func f) = .func (.func f) #[] #[] := (fun f => hρ (.func f)); clear hρ; go_simp; (all_goals (first | (with_reducible rfl) | (constructor <;> with_reducible rfl))))
                        (with_reducible refine qab (v := ?_) (t := 129) rfl rfl (by with_unfolding_all rfl) ?_ (fun ρ hρ W hW => ?_) ?_); (rotate_left 1)
                        focus (simp (disch := (first | decide | ((try simp only [qa2]); rw [hsz]; decide))) only [ev_eq, ev_ne, a18, a17, a14, a15])
                        focus (have hS := KS.out _ hW; clear hW; have p135 := hρ (.tmp 135); (simp (disch := (first | decide | ((try simp only [qa2]); rw [hsz]; decide))) only [ev_eq, ev_ne, a18, a17, a14, a15] at p135); have hc : ∀ c, ρ (.const c) = c := (fun c => hρ (.const c)); have hfn : ∀ f, ρ (.func f) = .func (.func f) #[] #[] := (fun f => hρ (.func f)); clear hρ; go_simp; (all_goals (first | (with_reducible rfl) | (constructor <;> with_reducible rfl))))
                        (with_reducible refine qc3 (f := ?_) (args := ?_) (t := 129) rfl rfl (by with_unfolding_all rfl) ?_ (fun ρ hρ => ?_) ?_ ?_); (rotate_left 2)
                        focus (simp (disch := (first | decide | ((try simp only [qa2]); rw [hsz]; decide))) only [ev_eq, ev_ne, a18, a17, a14, a15])
                        focus (have p134 := hρ (.tmp 134); (simp (disch := (first | decide | ((try simp only [qa2]); rw [hsz]; decide))) only [ev_eq, ev_ne, a18, a17, a14, a15] at p134); have p136 := hρ (.tmp 136); (simp (disch := (first | decide | ((try simp only [qa2]); rw [hsz]; decide))) only [ev_eq, ev_ne, a18, a17, a14, a15] at p136); have hc : ∀ c, ρ (.const c) = c := (fun c => hρ (.const c)); have hfn : ∀ f, ρ (.func f) = .func (.func f) #[] #[] := (fun f => hρ (.func f)); clear hρ; rw [qbg (hfn _)]; clear hfn; go_simp; (all_goals (first | (with_reducible rfl) | (constructor <;> with_reducible rfl))))
                        (with_reducible refine (CL.out _).mono ?_)
                        rintro e w_21 ⟨rfl, rfl⟩
                        refine ⟨_, rfl, T.out, ?_⟩
                        rotate_left 1
                        focus exact qax
                        (with_reducible refine qab (v := ?_) (t := 129) rfl rfl (by with_unfolding_all rfl) ?_ (fun ρ hρ W hW => ?_) ?_); (rotate_left 1)
                        focus (simp (disch := (first | decide | ((try simp only [qa2]); rw [hsz]; decide))) only [ev_eq, ev_ne, a18, a17, a14, a15])
                        focus (clear hW; have p137 := hρ (.tmp 137); (simp (disch := (first | decide | ((try simp only [qa2]); rw [hsz]; decide))) only [ev_eq, ev_ne, a18, a17, a14, a15] at p137); have hc : ∀ c, ρ (.const c) = c := (fun c => hρ (.const c)); have hfn : ∀ f, ρ (.func f) = .func (.func f) #[] #[] := (fun f => hρ (.func f)); clear hρ; go_simp; (all_goals (first | (with_reducible rfl) | (constructor <;> with_reducible rfl))))
                        (with_reducible refine qb3 ?_)
                        (simp only [List.drop_succ_cons, List.drop_zero])
                        (with_reducible refine list_held_g (v := .bool false) (w' := ?_) (t := 129) rfl rfl (by with_unfolding_all rfl) ?_ (fun ρ hρ => ?_) ?_); (rotate_left 1)
                        focus (simp (disch := (first | decide | ((try simp only [qa2]); rw [hsz]; decide))) only [ev_eq, ev_ne, a18, a17, a14, a15])
                        focus (have p132 := hρ (.tmp 132); (simp (disch := (first | decide | ((try simp only [qa2]); rw [hsz]; decide))) only [ev_eq, ev_ne, a18, a17, a14, a15] at p132); have p138 := hρ (.tmp 138); (simp (disch := (first | decide | ((try simp only [qa2]); rw [hsz]; decide))) only [ev_eq, ev_ne, a18, a17, a14, a15] at p138); have hc : ∀ c, ρ (.const c) = c := (fun c => hρ (.const c)); have hfn : ∀ f, ρ (.func f) = .func (.func f) #[] #[] := (fun f => hρ (.func f)); clear hρ; go_simp; (first | done | (all_goals (first | (with_reducible rfl) | (constructor <;> with_reducible rfl))) | (simp only [hX1, hX2, hY1, hY2]; done) | (simp [hX1, hX2, hY1, hY2]; done) | ((try simp only [hX1, hX2, hY1, hY2]); done)))
                        (with_reducible refine list_held (v := .bool false) (w' := ?_) rfl (by with_unfolding_all rfl) (fun ρ hρ => ?_) ?_); (rotate_left 1)
                        focus (have p129 := hρ (.tmp 129); (simp (disch := (first | decide | ((try simp only [qa2]); rw [hsz]; decide))) only [ev_eq, ev_ne, a18, a17, a14, a15] at p129); have p139 := hρ (.tmp 139); (simp (disch := (first | decide | ((try simp only [qa2]); rw [hsz]; decide))) only [ev_eq, ev_ne, a18, a17, a14, a15] at p139); have hc : ∀ c, ρ (.const c) = c := (fun c => hρ (.const c)); have hfn : ∀ f, ρ (.func f) = .func (.func f) #[] #[] := (fun f => hρ (.func f)); clear hρ; go_simp; (first | done | (all_goals (first | (with_reducible rfl) | (constructor <;> with_reducible rfl))) | (simp only [hX1, hX2, hY1, hY2]; done) | (simp [hX1, hX2, hY1, hY2]; done) | ((try simp only [hX1, hX2, hY1, hY2]); done)))
                        refine wpList_nil ?_
                        subst ha
                        (simp only [qbf, set_s, set_z])
                        go_wp2
                        go_roundw
                        case rel => exact ⟨i + 1, by omega, by go_num, Lib.hid T.out.dropbox0.dropbox0.dropbox0⟩
                        case measure => simp [intOf]; omega
        · have hki : ¬ (i : Int) < (g.ops.length : Int) := by omega
          have H9 := Lib.hid (Bel.of K2W.out hS.out.bel)
          clear EI HACT VX VH
          go_wp2_with (go_at_call 10; (with_reducible refine (CA.out _ H9.out).mono ?_); rintro e' w9 ⟨rfl, k9⟩; have k9 : Bel _ w9 := k9)
          go_ret
          exact ⟨rfl, Bel.of H9.out k9⟩
end Go.Proofs.YtgpjhibdongmbaaGreatDoor

