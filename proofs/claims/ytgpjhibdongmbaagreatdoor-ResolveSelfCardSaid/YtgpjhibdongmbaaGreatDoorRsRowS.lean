/- Proved here: ResolveSelfCardSaid, under no condition of its own. -/
import Derived.Test.YtgpjhibdongmbaaGreatDoorCards
import Derived.Test.YtgpjhibdongmbaaGreatDoorTie
import Derived.Test.YtgpjhibdongmbaaGreatDoorRsPt
import Derived.Test.YtgpjhibdongmbaaGreatDoorCkMl
import Derived.Test.YtgpjhibdongmbaaGreatDoorRsLawS
import Derived.Deep.DeepHandedRow
namespace Go.Proofs.YtgpjhibdongmbaaGreatDoor.resolveSelf
open Go.ChangeShapes Go.WideShapes Go.ChangeAt Go.RowKit
open Go.ChangeMaps (open_string)
set_option linter.unusedVariables false
set_option linter.unusedSimpArgs false

set_option maxRecDepth 100000 in
theorem contract (H : Type) (enc : TypeId × Value → H) (W : World) (base : Nat) (args : Array Value) (ds gs : List (DataW H)) (before : List MemPlace)
  (hval : ∀ (j : Nat) t v, Tryz.f7.params[j]? = some t → args[j]? = some v → Value.okWide Tryz.prog W .any base t v)
  (hW : DataW.Whole enc Tryz.prog Tryz.f7.params.toList Rows.resolveSelfSpec.vars false W args.toList ds gs before)
  (hwt : (DataW.weightsEach Tryz.prog (Tryz.f7.params.toList ++ (OpenSpec.ofChange Rows.resolveSelfSpec).bare.plain.varTypes Tryz.prog) (ds ++ gs)).all (· ≤ reachBytes) = true) (hL : laidMetH Tryz.prog Rows.resolveSelfRow.laid W) (hSh : W.ShapedOpen Tryz.prog) :
  Calls Tryz.prog 7 args W fun e W' => ∃ v, e = .returned v ∧ Rows.resolveSelfSpec.post enc Tryz.prog Tryz.f7 false true false false W args v W' := by
 have hW' := hW
 obtain ⟨p, q, hA0, hV, rfl, hfz, hnd⟩ := hW
 have hA : DataW.TrodAll enc Tryz.prog W 0 (fun _ => true) true Tryz.f7.params.toList args.toList ds p := hA0
 obtain ⟨rfl, rfl⟩ := trodVars_none hV
 rw [List.append_nil] at hwt
 have hts : ∀ t ∈ Tryz.f7.params.toList, t < Tryz.prog.types.size := by
  rw [Tryz.params7]
  exact of_decide_eq_true (by kernel_rfl)
 rw [Tryz.params7] at hA hval hwt
 obtain ⟨v0, vs0, d0, ds0, p0, q0, hargs, rfl, rfl, h0, r0⟩ := trodAll_cons hA
 obtain ⟨v1, vs1, d1, ds1, p1, q1, rfl, rfl, rfl, h1, r1⟩ := trodAll_cons r0
 obtain ⟨rfl, rfl, rfl⟩ := trodAll_nil r1
 obtain rfl : args = #[v0, v1] := by cases args; simp_all
 have hwt2 : (DataW.weightsEach Tryz.prog [25, 9] [d0, d1]).all (· ≤ reachBytes) = true := hwt
 simp only [DataW.weightsEach, List.all_append, Bool.and_eq_true] at hwt2
 obtain ⟨w0, w1, _⟩ := hwt2
 clear hA0 hwt hfz hnd
 have main : Calls Tryz.prog 7 #[v0, v1] W fun e W' => e = .returned (.bool true) ∧ Below W.heap.size W W' := by
  obtain ⟨vs, p, rfl, hp⟩ := arg_Plan (hval 0 _ v0 rfl rfl) h0 w0
  obtain ⟨nm, rfl, rfl, rfl, ws⟩ := open_string Tryz.underlying9 (hval 1 _ v1 rfl rfl) h1
  obtain ⟨a1, a2, b1, b2, rfl, g1, g2, _⟩ := hp.form
  exact law_Self p a1 a2 b1 b2 nm.data.toList W ⟨g1, g2, g1, g2⟩ (pt_of hL) (ml_of hSh) (tab_of hL)
 refine main.mono fun e W' ⟨he, hb⟩ => ?_
 subst he
 exact ⟨_, rfl, law_post rfl hts hW' rfl rfl rfl rfl hb⟩

theorem reads (os : Os) {H : Type} (enc : TypeId × Value → H) : ∃ places, DataW.whole enc Tryz.prog ((layWorld os).forCall (fun _ _ => 0) ⟨#[], #[.agg #[.slice none 0 0, .slice none 0 0], .string ⟨#[]⟩], []⟩).memory Tryz.f7.params.toList Rows.resolveSelfSpec.vars false (#[.agg #[.slice none 0 0, .slice none 0 0], .string ⟨#[]⟩] : Array Value).toList 8 = some ([.agg [.nil, .nil], .lit (.string [])], [], places) :=
 ⟨[], by kernel_rfl⟩

set_option maxRecDepth 100000 in
theorem lifted (os : Os) (started : os.Started) (H : Type) (enc : TypeId × Value → H) (F : Stop.Interp) :
  ReturnsInHanded {} Tryz.checked os 7 .any ((OpenSpec.ofChange Rows.resolveSelfSpec).preRow enc Tryz.prog Tryz.f7 Rows.resolveSelfRow.domain false Rows.resolveSelfRow.laid) (((OpenSpec.ofChange Rows.resolveSelfSpec).at F).post enc Tryz.prog Tryz.f7 false true false false) := by
 obtain ⟨places, hx⟩ := reads os enc
 refine returnsInHanded_of_row (C := Tryz.checked) (s := (OpenSpec.ofChange Rows.resolveSelfSpec)) own started (by kernel_rfl) Tryz.func7
  (qcb (enc := enc) (C := Tryz.checked) false (layWorld os) #[.agg #[.slice none 0 0, .slice none 0 0], .string ⟨#[]⟩] (World.laidAll_os _ _ _) (ql7 os _) (by kernel_rfl)
   (OpenSpec.preRow_of_cond 8 hx (by kernel_rfl) (fun k hk => by cases hk) (by kernel_rfl) (lay_met os _))) ?_
 intro W base args ds gs before hval hW _ _ hwt hL hSh _
 exact contract H enc W base args ds gs before hval hW hwt hL hSh

theorem said : Rows.ResolveSelfSaid :=
 OpenClaim.holds_of_cond 7 Tryz.f7 rfl rfl rfl rfl rfl rfl rfl ⟨rfl, rfl, rfl, rfl, rfl⟩ rfl rfl rfl rfl rfl (by kernel_rfl) Tryz.func7 (by kernel_rfl)
  (of_decide_eq_true (by kernel_rfl)) (by unfold Func.isWrapper; first | (rw [if_pos (by decide +kernel)]; kernel_rfl) | (rw [if_neg (by decide +kernel)]; exact ⟨rfl, rfl⟩))
  (fun os started H enc _ F => by rw [OpenClaim.pre_eq_preRow]; exact lifted os started H enc F)

theorem plain (f : FuncId) (fn : Func) (hf : Tryz.pinned.checked.prog.funcNamed "wireschema/wireschemalaw31.ResolveSelf" = some f) (hfn : Tryz.pinned.checked.prog.funcs[f]? = some fn) :
  false = Tryz.pinned.checked.prog.looks [] ∧ ∀ (j : Nat) t, fn.params[j]? = some t → Tryz.pinned.checked.prog.wantsStandIn t = false := by
 obtain rfl : f = 7 := Option.some.inj ((show Tryz.prog.funcNamed "wireschema/wireschemalaw31.ResolveSelf" = some 7 by kernel_rfl).symm.trans hf) |>.symm
 obtain rfl : fn = Tryz.f7 := (Option.some.inj (Tryz.func7.symm.trans hfn)).symm
 refine ⟨by kernel_rfl, fun j t ht => ?_⟩
 have hall : ∀ t ∈ Tryz.f7.params.toList, Tryz.prog.wantsStandIn t = false := by
  rw [Tryz.params7]
  exact of_decide_eq_true (by kernel_rfl)
 exact hall t (by simpa using Array.mem_of_getElem? ht)

theorem card : Rows.ResolveSelfCardSaid :=
 Claim7.holds_tied_plain_at .later [] _ _ _ _ said (fun _ h => by cases h) (by kernel_rfl) (fun _ h => by cases h) resolveSelf_row_tie rfl ⟨rfl, rfl⟩ (by kernel_rfl) rfl plain (by kernel_rfl)
end Go.Proofs.YtgpjhibdongmbaaGreatDoor.resolveSelf
