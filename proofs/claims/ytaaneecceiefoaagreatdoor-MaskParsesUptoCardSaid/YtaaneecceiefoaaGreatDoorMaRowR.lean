/- Proved here: MaskParsesUptoCardSaid, under no condition of its own. -/
import Derived.Test.YtaaneecceiefoaaGreatDoorCards
import Derived.Test.YtaaneecceiefoaaGreatDoorTie
import Derived.Test.YtaaneecceiefoaaGreatDoorMdOpenU
import Derived.Test.YtaaneecceiefoaaGreatDoorMaLawR
import Derived.Test.YtaaneecceiefoaaGreatDoorLay
import Derived.Test.YtaaneecceiefoaaGreatDoorIdWord
import Derived.Deep.DeepHandedRow
namespace Go.Proofs.YtaaneecceiefoaaGreatDoor.maskParsesUpto
open Go.ChangeShapes Go.WideShapes Go.ChangeAt Go.RowKit
open Go.ChangeMaps (open_string)
set_option linter.unusedVariables false
set_option linter.unusedSimpArgs false

set_option maxRecDepth 100000 in
theorem contract (H : Type) (enc : TypeId × Value → H) (W : World) (base : Nat) (args : Array Value) (ds gs : List (DataW H)) (before : List MemPlace) (hk : Rows.uptoSmall H (ds ++ gs) = true)
  (hval : ∀ (j : Nat) t v, Tryz.f4.params[j]? = some t → args[j]? = some v → Value.okWide Tryz.prog W .any base t v)
  (hW : DataW.Whole enc Tryz.prog Tryz.f4.params.toList Rows.maskParsesSpec.vars false W args.toList ds gs before)
  (hwt : (DataW.weightsEach Tryz.prog (Tryz.f4.params.toList ++ (Rows.OpenSpec.upto Rows.maskParsesSpec).bare.plain.varTypes Tryz.prog) (ds ++ gs)).all (· ≤ reachBytes) = true) (hL : laidMetH Tryz.prog Rows.maskParsesUptoRow.laid W) (hSh : W.ShapedOpen Tryz.prog) :
  Calls Tryz.prog 4 args W fun e W' => ∃ v, e = .returned v ∧ Rows.maskParsesSpec.post enc Tryz.prog Tryz.f4 false true false false W args v W' := by
 have hW' := hW
 obtain ⟨p, q, hA0, hV, rfl, hfz, hnd⟩ := hW
 have hA : DataW.TrodAll enc Tryz.prog W 0 (fun _ => true) true Tryz.f4.params.toList args.toList ds p := hA0
 obtain ⟨rfl, rfl⟩ := trodVars_none hV
 rw [List.append_nil] at hwt hk
 have hts : ∀ t ∈ Tryz.f4.params.toList, t < Tryz.prog.types.size := by
  rw [Tryz.params4]
  exact of_decide_eq_true (by kernel_rfl)
 rw [Tryz.params4] at hA hval hwt
 obtain ⟨v0, vs0, d0, ds0, p0, q0, hargs, rfl, rfl, h0, r0⟩ := trodAll_cons hA
 obtain ⟨v1, vs1, d1, ds1, p1, q1, rfl, rfl, rfl, h1, r1⟩ := trodAll_cons r0
 obtain ⟨v2, vs2, d2, ds2, p2, q2, rfl, rfl, rfl, h2, r2⟩ := trodAll_cons r1
 obtain ⟨rfl, rfl, rfl⟩ := trodAll_nil r2
 obtain rfl : args = #[v0, v1, v2] := by cases args; simp_all
 have hwt2 : (DataW.weightsEach Tryz.prog [26, 9, 9] [d0, d1, d2]).all (· ≤ reachBytes) = true := hwt
 simp only [DataW.weightsEach, List.all_append, Bool.and_eq_true] at hwt2
 obtain ⟨w0, w1, w2, _⟩ := hwt2
 clear hA0 hwt hfz hnd
 have main : Calls Tryz.prog 4 #[v0, v1, v2] W fun e W' => e = .returned (.bool true) ∧ Below W.heap.size W W' := by
  have hk2 : Rows.uptoBulkAll ([d0, d1, d2] : List (DataW H)) ≤ 1048576 := of_decide_eq_true hk
  have hk3 : Rows.uptoBulkAll ([d0, d1, d2] : List (DataW H)) = Rows.uptoBulk d0 + (Rows.uptoBulk d1 + (Rows.uptoBulk d2 + 0)) := rfl
  obtain ⟨q1, q2, q3, c1, c2, c3, s, rfl, hS, hQ⟩ := qei (hval 0 _ v0 rfl rfl) h0 w0 (by omega)
  obtain ⟨nm, rfl, rfl, rfl, ws⟩ := open_string Tryz.underlying9 (hval 1 _ v1 rfl rfl) h1
  obtain ⟨tx, rfl, rfl, rfl, wt⟩ := open_string Tryz.underlying9 (hval 2 _ v2 rfl rfl) h2
  have hM := ml_of hSh
  exact qh1 q1 q2 q3 c1 c2 c3 s nm.data.toList tx.data.toList W hS hQ hM
 refine main.mono fun e W' ⟨he, hb⟩ => ?_
 subst he
 exact ⟨_, rfl, qja rfl hts hW' rfl rfl rfl rfl hb⟩

theorem fact_laid : laidOutB Tryz.prog = true := by kernel_rfl
theorem fact_maps : mapsRowed Tryz.prog = true := by kernel_rfl
theorem fact_keys : (Rows.maskParsesUptoRow.plainKeys == Tryz.prog.plainKeys) = true := by kernel_rfl
theorem fact_heard : Tryz.prog.stopsHeard = true := by kernel_rfl
theorem fact_may : Tryz.prog.mayEnter = true := by kernel_rfl
theorem fact_lift : (Rows.maskParsesUptoRow.lifted == Tryz.prog.liftsFinal) = true := by kernel_rfl
theorem fact_inPl : (Rows.maskParsesUptoRow.inPlace == Tryz.prog.inPlace 4) = true := by kernel_rfl
theorem fact_unf : (Rows.maskParsesUptoRow.unfollowed == Tryz.prog.unfollowed 4) = true := by kernel_rfl
theorem fact_rec : (Rows.maskParsesUptoRow.recurses == Tryz.prog.recurses 4) = true := by kernel_rfl
theorem fact_nam : (Rows.maskParsesUptoRow.named == Tryz.prog.varsNamed 4) = true := by kernel_rfl
theorem closed : joinedFacts Tryz.prog 4 Tryz.f4 (Rows.OpenSpec.upto Rows.maskParsesSpec).bare Rows.maskParsesUptoRow = true := by
 unfold joinedFacts
 rw [fact_laid, fact_maps, fact_keys, fact_heard, fact_may, fact_lift, fact_inPl, fact_unf, fact_rec, fact_nam]
 kernel_rfl

theorem reads (os : Os) {H : Type} (enc : TypeId × Value → H) : ∃ places, DataW.whole enc Tryz.prog ((layWorld os).forCall (fun _ _ => 0) ⟨#[], #[.agg #[.slice none 0 0, .slice none 0 0, .slice none 0 0], .string ⟨#[]⟩, .string ⟨#[]⟩], []⟩).memory Tryz.f4.params.toList Rows.maskParsesSpec.vars false (#[.agg #[.slice none 0 0, .slice none 0 0, .slice none 0 0], .string ⟨#[]⟩, .string ⟨#[]⟩] : Array Value).toList 8 = some ([.agg [.nil, .nil, .nil], .lit (.string []), .lit (.string [])], [], places) :=
 ⟨[], by kernel_rfl⟩

set_option maxRecDepth 100000 in
theorem lifted (os : Os) (started : os.Started) (H : Type) (enc : TypeId × Value → H) (F : Stop.Interp) :
  ReturnsInHanded {} Tryz.checked os 4 .any ((Rows.OpenSpec.upto Rows.maskParsesSpec).preRow enc Tryz.prog Tryz.f4 Rows.maskParsesUptoRow.domain false Rows.maskParsesUptoRow.laid) (((Rows.OpenSpec.upto Rows.maskParsesSpec).at F).post enc Tryz.prog Tryz.f4 false true false false) := by
 obtain ⟨places, hx⟩ := reads os enc
 refine returnsInHanded_of_row (C := Tryz.checked) (s := (Rows.OpenSpec.upto Rows.maskParsesSpec)) own started (by kernel_rfl) Tryz.func4
  (qbv (enc := enc) (C := Tryz.checked) false (layWorld os) #[.agg #[.slice none 0 0, .slice none 0 0, .slice none 0 0], .string ⟨#[]⟩, .string ⟨#[]⟩] (World.laidAll_os _ _ _) (qgz os _) (by kernel_rfl)
   (OpenSpec.preRow_of_cond 8 hx (by kernel_rfl) (fun k hk => by cases hk; kernel_rfl) (by kernel_rfl) (qnh os _))) ?_
 intro W base args ds gs before hval hW _ hcond hwt hL hSh _
 exact contract H enc W base args ds gs before (hcond _ rfl) hval hW hwt hL hSh

theorem said : Rows.MaskParsesUptoSaid :=
 OpenClaim.holds_of_cond 4 Tryz.f4 rfl rfl rfl rfl rfl rfl rfl ⟨rfl, rfl, rfl, rfl, rfl⟩ rfl rfl rfl rfl rfl (by kernel_rfl) Tryz.func4 closed
  (of_decide_eq_true (by kernel_rfl)) (by unfold Func.isWrapper; first | (rw [if_pos (by decide +kernel)]; kernel_rfl) | (rw [if_neg (by decide +kernel)]; exact ⟨rfl, rfl⟩))
  (fun os started H enc _ F => by rw [OpenClaim.pre_eq_preRow]; exact lifted os started H enc F)

theorem plain (f : FuncId) (fn : Func) (hf : Tryz.pinned.checked.prog.funcNamed "wireschema/wireschemalaw19.MaskParses" = some f) (hfn : Tryz.pinned.checked.prog.funcs[f]? = some fn) :
  false = Tryz.pinned.checked.prog.looks [] ∧ ∀ (j : Nat) t, fn.params[j]? = some t → Tryz.pinned.checked.prog.wantsStandIn t = false := by
 obtain rfl : f = 4 := Option.some.inj ((show Tryz.prog.funcNamed "wireschema/wireschemalaw19.MaskParses" = some 4 by kernel_rfl).symm.trans hf) |>.symm
 obtain rfl : fn = Tryz.f4 := (Option.some.inj (Tryz.func4.symm.trans hfn)).symm
 refine ⟨by kernel_rfl, fun j t ht => ?_⟩
 have hall : ∀ t ∈ Tryz.f4.params.toList, Tryz.prog.wantsStandIn t = false := by
  rw [Tryz.params4]
  exact of_decide_eq_true (by kernel_rfl)
 exact hall t (by simpa using Array.mem_of_getElem? ht)

theorem card : Rows.MaskParsesUptoCardSaid :=
 Claim7.holds_tied_plain_at .later [] _ _ _ _ said (fun _ h => by cases h) (by kernel_rfl) (fun _ h => by cases h) maskParsesUpto_row_tie rfl ⟨rfl, rfl⟩ (by kernel_rfl) rfl plain (by kernel_rfl)
end Go.Proofs.YtaaneecceiefoaaGreatDoor.maskParsesUpto
