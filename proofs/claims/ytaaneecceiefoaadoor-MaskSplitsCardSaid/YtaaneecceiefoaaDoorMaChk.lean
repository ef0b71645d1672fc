/- Layer 19: one round of the check; lookups in terms of messages and fields. -/
import Derived.Test.YtaaneecceiefoaaDoorMaDesc3
import Derived.Test.YtaaneecceiefoaaDoorKitM
import Derived.Test.YtaaneecceiefoaaDoorMaFind
namespace Go.Proofs.YtaaneecceiefoaaDoor
open Go.RowKit Ck Ma
set_option linter.unusedVariables false
set_option linter.unusedSimpArgs false
section
variable {s : PSchema} {nm : Str} {m : PMsg} {rec : List UInt8 → List PMask → Int} {l : List PMask} {k : Nat}
theorem fld_of (hm : msgOf s nm = some m) (q : Int) : (envOf s).fld nm q = (fieldNo m q).map fun f => (singleF f, f.tn) := by
  show ((msgOf s nm).bind _).map _ = _
  rw [hm]
  rfl
theorem chk_step (h : k < l.length) : chkGo (envOf s) rec nm (pvM l k) (l.drop k) = if ((pvM l k).any fun p => decide (l[k].num ≤ p)) = true then 11 else match (envOf s).fld nm l[k].num with
    | none => 8
    | some f => if whole l[k] = true then chkGo (envOf s) rec nm (pvM l (k + 1)) (l.drop (k + 1)) else if f.1 = false then 12 else if rec f.2 l[k].subs ≠ 0 then rec f.2 l[k].subs else chkGo (envOf s) rec nm (pvM l (k + 1)) (l.drop (k + 1)) := by
  rw [drop_at h, pvM_succ h]
  rfl
theorem chk_ord (h : k < l.length) (hp : ((pvM l k).any fun p => decide (l[k].num ≤ p)) = true) : chkGo (envOf s) rec nm (pvM l k) (l.drop k) = 11 := by rw [chk_step h, if_pos hp]
theorem chk_none (h : k < l.length) (hp : ¬ ((pvM l k).any fun p => decide (l[k].num ≤ p)) = true) (hm : msgOf s nm = some m) (hf : fieldNo m l[k].num = none) : chkGo (envOf s) rec nm (pvM l k) (l.drop k) = 8 := by rw [chk_step h, if_neg hp, fld_of hm, hf]; rfl
theorem chk_whole (h : k < l.length) (hp : ¬ ((pvM l k).any fun p => decide (l[k].num ≤ p)) = true) (hm : msgOf s nm = some m) {f : PField} (hf : fieldNo m l[k].num = some f) (hw : whole l[k] = true) : chkGo (envOf s) rec nm (pvM l k) (l.drop k) = chkGo (envOf s) rec nm (pvM l (k + 1)) (l.drop (k + 1)) := by
  rw [chk_step h, if_neg hp, fld_of hm, hf]
  exact if_pos hw
theorem chk_type (h : k < l.length) (hp : ¬ ((pvM l k).any fun p => decide (l[k].num ≤ p)) = true) (hm : msgOf s nm = some m) {f : PField} (hf : fieldNo m l[k].num = some f) (hw : whole l[k] = false) (hs : singleF f = false) : chkGo (envOf s) rec nm (pvM l k) (l.drop k) = 12 := by
  rw [chk_step h, if_neg hp, fld_of hm, hf]
  show (if _ then _ else if singleF f = false then _ else _) = _
  rw [if_neg (by rw [hw]; exact Bool.false_ne_true), if_pos hs]
theorem chk_rec (h : k < l.length) (hp : ¬ ((pvM l k).any fun p => decide (l[k].num ≤ p)) = true) (hm : msgOf s nm = some m) {f : PField} (hf : fieldNo m l[k].num = some f) (hw : whole l[k] = false) (hs : singleF f = true) : chkGo (envOf s) rec nm (pvM l k) (l.drop k) = if rec f.tn l[k].subs = 0 then chkGo (envOf s) rec nm (pvM l (k + 1)) (l.drop (k + 1)) else rec f.tn l[k].subs := by
  rw [chk_step h, if_neg hp, fld_of hm, hf]
  show (if _ then _ else if singleF f = false then _ else if rec f.tn l[k].subs ≠ 0 then _ else _) = _
  rw [if_neg (by rw [hw]; exact Bool.false_ne_true), if_neg (by rw [hs]; exact Bool.noConfusion)]
  by_cases h0 : rec f.tn l[k].subs = 0
  · rw [if_neg (fun e => e h0), if_pos h0]
  · rw [if_pos h0, if_neg h0]
end
theorem VField.at {w : World} {vs : List Value} {f : PField} (h : VField w vs f) : vs.toArray[0]? = some (.int .i64 f.num) ∧ vs.toArray[1]? = some (.string (S f.name)) ∧ vs.toArray[2]? = some (.int .i64 f.card) ∧ vs.toArray[4]? = some (.int .i64 f.tk) ∧ vs.toArray[5]? = some (.string (S f.tn)) := by
  obtain ⟨_, nv, rfl, ⟨_, _, _, _, _, _, _, _, rfl, _⟩, h1⟩ := h
  exact ⟨rfl, rfl, rfl, rfl, rfl⟩
theorem ds_FieldM {m : PMsg} {vs : List Value} (k : Int) (wv w0 : World) (hvb : Bel wv w0) (hv : VMsg wv vs m) : Calls Tryd.prog 56 #[.agg vs.toArray, .int .i64 k] w0 (FoundAt VField zFld (fieldNo m k) wv w0) := by
  obtain ⟨_, _, _, _, rfl, h1, h2, h3, h4⟩ := hv
  have h1' := h1
  obtain ⟨_, _, rfl, _⟩ := sl_form h1
  obtain ⟨_, _, rfl, _⟩ := sl_form h2
  obtain ⟨_, _, rfl, _⟩ := sl_form h3
  obtain ⟨_, _, rfl, _⟩ := sl_form h4
  exact ds_Field m.name m.fields _ _ _ _ _ _ _ _ _ _ _ k wv w0 hvb h1'
theorem ds_FieldNamedM {m : PMsg} {vs : List Value} (p : Str) (wv w0 : World) (hvb : Bel wv w0) (hv : VMsg wv vs m) : Calls Tryd.prog 77 #[.agg vs.toArray, .string (S p)] w0 (FoundAt VField zFld (fieldNm m p) wv w0) := by
  obtain ⟨_, _, _, _, rfl, h1, h2, h3, h4⟩ := hv
  have h1' := h1
  obtain ⟨_, _, rfl, _⟩ := sl_form h1
  obtain ⟨_, _, rfl, _⟩ := sl_form h2
  obtain ⟨_, _, rfl, _⟩ := sl_form h3
  obtain ⟨_, _, rfl, _⟩ := sl_form h4
  exact ds_FieldNamed m.name m.fields _ _ _ _ _ _ _ _ _ _ _ p wv w0 hvb h1'
set_option maxHeartbeats 4000000 in
set_option maxRecDepth 100000 in
theorem mk_single_lit (num card key tk dk dx : Int) (name tn un dt : Str) (hd : Bool) (r1 r2 r3 r4 r5 : Option Addr) (n1 n2 n3 n4 n5 d1 d2 d3 d4 d5 : Nat) (w : World) :
    Calls Tryd.prog 57 #[.agg #[.int .i64 num, .string (S name), .int .i64 card, .int .i64 key, .int .i64 tk, .string (S tn), .string (S un), .bool hd, .int .i64 dk, .int .u64 dx, .string (S dt), .slice r1 n1 d1, .slice r2 n2 d2, .slice r3 n3 d3, .slice r4 n4 d4, .slice r5 n5 d5]] w fun e w' => e = .returned (.bool (decide (tk = 10) && (decide (card = 1) || decide (card = 2)))) ∧ Bel w w' := by
  have HB := Lib.hid ((Bel.refl w).alloc (.cells #[.int .i64 num, .string (S name), .int .i64 card, .int .i64 key, .int .i64 tk, .string (S tn), .string (S un), .bool hd, .int .i64 dk, .int .u64 dx, .string (S dt), .slice r1 n1 d1, .slice r2 n2 d2, .slice r3 n3 d3, .slice r4 n4 d4, .slice r5 n5 d5] 52))
  by_cases h1 : tk = 10
  · have h1b : (tk == 10) = true := ieq h1
    have HR := Lib.hid (show (decide (tk = 10) && (decide (card = 1) || decide (card = 2))) = (decide (card = 1) || decide (card = 2)) by simp [h1])
    clear h1
    by_cases h2 : card = 1
    · have h2b : (card == 1) = true := ieq h2
      have HR2 := Lib.hid (show (decide (card = 1) || decide (card = 2)) = true by simp [h2])
      clear h2
      go_enter Tryd.func57, Tryd.ntmps57
      go_wp2
      go_ret
      exact ⟨ret_bool (HR.out.trans HR2.out).symm, HB.out⟩
    · have h2b : (card == 1) = false := ine h2
      have HR2 := Lib.hid (show (decide (card = 1) || decide (card = 2)) = (card == 2) by rw [decide_eq_false h2, Bool.false_or, Bool.eq_iff_iff]; simp)
      clear h2
      go_enter Tryd.func57, Tryd.ntmps57
      go_wp2
      go_ret
      exact ⟨ret_bool (HR.out.trans HR2.out).symm, HB.out⟩
  · have h1b : (tk == 10) = false := ine h1
    have HR := Lib.hid (show (decide (tk = 10) && (decide (card = 1) || decide (card = 2))) = false by simp [h1])
    clear h1
    go_enter Tryd.func57, Tryd.ntmps57
    go_wp2
    go_ret
    exact ⟨ret_bool HR.out.symm, HB.out⟩
theorem mk_single {f : PField} {vs : List Value} (w : World) {wv : World} (hv : VField wv vs f) : Calls Tryd.prog 57 #[.agg vs.toArray] w fun e w' => e = .returned (.bool (singleF f)) ∧ Bel w w' := by
  obtain ⟨_, nv, rfl, ⟨_, _, _, _, _, _, _, _, rfl, _⟩, h1⟩ := hv
  obtain ⟨_, _, rfl, _⟩ := sl_form h1
  exact mk_single_lit f.num f.card f.key f.tk f.df.k f.df.x f.name f.tn f.un f.df.t f.hd _ _ _ _ _ _ _ _ _ _ _ _ _ _ _ w
end Go.Proofs.YtaaneecceiefoaaDoor
