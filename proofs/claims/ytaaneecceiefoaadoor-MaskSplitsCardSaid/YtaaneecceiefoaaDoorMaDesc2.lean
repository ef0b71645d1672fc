/- Layers 8 (note) and 14 (desc) walked: annotations and fields looked up. Printed by gdesc2.py. -/
import Derived.Test.YtaaneecceiefoaaDoorMaDesc
import Derived.Test.YtaaneecceiefoaaDoorKitA
namespace Go.Proofs.YtaaneecceiefoaaDoor
open Go.RowKit Ck Ma
set_option linter.unusedVariables false
set_option linter.unusedSimpArgs false
theorem agg_Note (w : World) : (isAgg 155).run Tryd.prog w = .ok true w := by kernel_rfl
theorem size_Note (w : World) : (Go.sizeOf 155).run Tryd.prog w = .ok 8 w := by kernel_rfl
set_option maxHeartbeats 4000000 in
set_option maxRecDepth 100000 in
theorem ix_Note {α : Type} (V : World → List Value → α → Prop) (hV : ∀ W vs x, V W vs x → vs.length = 8) (g : Nat) (lb : Array Value) (eg : ∀ args w, (callFunc g args).run Tryd.prog w = .ok (.enter g args) w) (v : Value) (xs : List α) (p : α → Bool) (w : World)
    (hv : Sv 8 V w v xs) (hp : PredOf α V w xs p g lb) :
    Calls Tryd.prog 106 #[v, .func (.func g) #[] lb] w fun e w' => e = .returned (.int .i64 (idxL p xs)) ∧ Below w.heap.size w w' := by
  obtain ⟨q, c, rfl, hl, hcap, hel⟩ := hv
  have EL := Lib.hid hel
  have HP := Lib.hid hp
  have HV := Lib.hid hV
  have aE := agg_Note
  obtain ⟨K, hK⟩ : ∃ K, K = 8 := ⟨_, rfl⟩
  have zE : ∀ w, (Go.sizeOf 155).run Tryd.prog w = .ok K w := hK ▸ size_Note
  have HK := Lib.hid hK
  clear hel hp hV hK
  go_enter Tryd.func106, Tryd.ntmps106
  go_wp2
  go_loopw [5, 8] (fun _ i wr => ∃ k : Nat, k ≤ xs.length ∧ i = .int .i64 k ∧ Bel w wr ∧ Hid (∀ j y, j < k → xs[j]? = some y → p y = false)) (fun _ i _ => xs.length - (intOf i).toNat)
  case atStart => exact ⟨0, by omega, rfl, Bel.refl _, Lib.hid fun j y hj => absurd hj (Nat.not_lt_zero _)⟩
  case round =>
    obtain ⟨k, hk, rfl, kw, A⟩ := hrel
    by_cases hlt : k < xs.length
    · have hg : xs[k]? = some xs[k] := List.getElem?_eq_getElem hlt
      obtain ⟨b, off, rfl, hbs, vs, hce, hvs⟩ := EL.out k _ hg
      have hki : (k : Int) < (xs.length : Int) := by omega
      have l2 : Sem.run Tryd.prog (loadCellsFrom ⟨b, off + k * K, none⟩ 0 K #[]) wr = .ok vs.toArray wr := run_loadCellsFrom_list Tryd.prog _ _ vs K ((HV.out _ _ _ hvs).trans HK.out.symm) (fun i v hi => by
        rw [HK.out, Addr.add_lit]
        exact kw.some (hce i v hi))
      have HG := Lib.hid hg
      have hcall := HP.out _ _ wr (List.getElem_mem hlt) hvs kw
      clear hce hvs hg
      generalize xs[k] = y at *
      cases hq : p y with
      | true =>
        rw [hq] at hcall
        have HC := Lib.hid hcall
        have HQ := Lib.hid hq
        clear hcall hq
        go_wp2_with (go_at_fn g; (with_reducible refine HC.out.mono ?_); rintro e w' ⟨rfl, hb'⟩)
        go_ret
        exact ⟨ret_int (idxL_hit p xs k y HG.out HQ.out A.out).symm, Bel.of kw hb'⟩
      | false =>
        rw [hq] at hcall
        have HC := Lib.hid hcall
        have HQ := Lib.hid hq
        clear hcall hq
        go_wp2_with (go_at_fn g; (with_reducible refine HC.out.mono ?_); rintro e w' ⟨rfl, hb'⟩; have k2 := Bel.of kw hb'; clear hb')
        refine ⟨⟨k + 1, by omega, rfl, k2, Lib.hid fun j z hj hz => ?_⟩, by simp [intOf]; omega⟩
        by_cases e : j = k
        · subst e
          have := HG.out
          rw [hz] at this
          cases this
          exact HQ.out
        · exact A.out j z (by omega) hz
    · have hki : ¬ (k : Int) < (xs.length : Int) := by omega
      have hkl : k = xs.length := by omega
      subst hkl
      go_wp2
      go_ret
      exact ⟨ret_int (idxL_miss p xs A.out).symm, kw.out⟩
theorem VNote.len (w : World) (vs : List Value) (x : PNote) (h : VNote w vs x) : vs.length = 8 := by
  obtain ⟨_, rfl, _, _, _, _, _, _, _, _, rfl, _⟩ := h
  rfl
set_option maxHeartbeats 4000000 in
set_option maxRecDepth 100000 in
theorem cl_note (nm name : Str) (k x : Int) (t : Str) (p1 p2 p3 p4 : Option Addr) (n1 n2 n3 n4 c1 c2 c3 c4 : Nat) (B : Nat) (W : World) (hB : W.cell? ⟨B, 0, none⟩ = some (.string (S name))) :
    Calls Tryd.prog 107 #[.agg #[.string (S nm), .int .i64 k, .int .u64 x, .string (S t), .slice p1 n1 c1, .slice p2 n2 c2, .slice p3 n3 c3, .slice p4 n4 c4], .pointer (some ⟨B, 0, none⟩)] W fun e w' => e = .returned (.bool (decide (nm = name))) ∧ Below W.heap.size W w' := by
  have hlt : B < W.heap.size := World.block_lt_of_cell? W _ hB
  have hv := Lib.hid (eq_S nm name)
  go_enter Tryd.func107, Tryd.ntmps107
  go_wp2
  go_ret
  exact ⟨ret_bool hv.out, (Below.refl _ _).alloc (Nat.le_refl _) _⟩
set_option maxHeartbeats 4000000 in
set_option maxRecDepth 100000 in
theorem nt_index (v : Value) (l : List PNote) (name : Str) (w : World) (hv : Notes w v l) :
    Calls Tryd.prog 105 #[v, .string (S name)] w fun e w' => e = .returned (.int .i64 (idxL (fun n => decide (n.name = name)) l)) ∧ Bel w w' := by
  have hs : ∀ W, Bel w W → W.cell? ⟨w.heap.size, 0, none⟩ = some (.string (S name)) → Calls Tryd.prog 106 #[v, .func (.func 107) #[] #[.pointer (some ⟨w.heap.size, 0, none⟩)]] W fun e w' => e = .returned (.int .i64 (idxL (fun n => decide (n.name = name)) l)) ∧ Below W.heap.size W w' := fun W hb hc => by
    refine ix_Note VNote VNote.len _ _ (enters_of Tryd.func107 (by kernel_rfl) rfl) v l _ W (hv.bel VNote.stays hb) (fun x vs W2 _ hx hb2 => ?_)
    obtain ⟨_, rfl, _, _, _, _, _, _, _, _, rfl, _⟩ := hx
    exact cl_note x.name name _ _ _ _ _ _ _ _ _ _ _ _ _ _ _ _ W2 (hb2.some hc)
  have cs := Lib.hid hs
  clear hs
  obtain ⟨q, c, rfl, hl⟩ := sl_form hv
  clear hv
  generalize idxL (fun n : PNote => decide (n.name = name)) l = R at cs
  go_enter Tryd.func105, Tryd.ntmps105
  go_wp2_with (go_at_call 106; (with_reducible refine (cs.out _ (by (repeat (first | (with_reducible assumption) | (with_reducible exact Bel.refl _) | (with_reducible refine Bel.drew ?_) | (with_reducible refine Bel.drewN ?_ _) | (with_reducible refine Bel.alloc ?_ _) | ((with_reducible refine bel_set ?_ ?hge); (case hge => (first | omega | (simp; omega))))))) (by go_simp)).mono ?_); rintro e w1 ⟨rfl, h1⟩; have k1 : Bel w w1 := Bel.of (by (repeat (first | (with_reducible assumption) | (with_reducible exact Bel.refl _) | (with_reducible refine Bel.drew ?_) | (with_reducible refine Bel.drewN ?_ _) | (with_reducible refine Bel.alloc ?_ _) | ((with_reducible refine bel_set ?_ ?hge); (case hge => (first | omega | (simp; omega))))))) h1; clear h1)
  go_ret
  exact ⟨rfl, k1⟩
def zVal : List Value := [.int .i64 0, .int .u64 0, .string ByteArray.empty, .slice none 0 0, .slice none 0 0, .slice none 0 0, .slice none 0 0]
def ValAt (vs : List Value) : Option PNote → Prop
  | some n => VVal vs n.val
  | none => vs = zVal
def NoteAt (r : Option PNote) (w : World) (e : Ending) (w' : World) : Prop := ∃ vs, e = .returned (.tuple #[.agg vs.toArray, .bool r.isSome]) ∧ ValAt vs r ∧ Bel w w'
theorem ar_V : (Tryd.prog.info? 28).map (·.size) = some 7 := by kernel_rfl
theorem ag_V (w : World) : (isAgg 28).run Tryd.prog w = .ok true w := by kernel_rfl
theorem sz_V (w : World) : (Go.sizeOf 28).run Tryd.prog w = .ok 7 w := by kernel_rfl
set_option maxHeartbeats 4000000 in
set_option maxRecDepth 100000 in
theorem nt_Find (v : Value) (l : List PNote) (name : Str) (w0 : World) (hv : Notes w0 v l) :
    Calls Tryd.prog 102 #[v, .string (S name)] w0 (NoteAt (l.find? fun n => decide (n.name = name)) w0) := by
  have CI := Lib.hid (fun W (kk : Bel w0 W) => nt_index v l name W (hv.bel VNote.stays kk))
  have hS0 := Lib.hid ((ST.start w0).addbox #[.int .i64 0, .int .u64 0, .string ⟨#[]⟩, .slice none 0 0, .slice none 0 0, .slice none 0 0, .slice none 0 0] 28)
  obtain ⟨p, c, rfl, hl, hcap, hel⟩ := hv
  rcases idxL_find (fun n : PNote => decide (n.name = name)) l with ⟨hneg, hnone⟩ | ⟨k, x, hk, hx, hsome, hkl⟩
  · rw [hnone]
    have hneg2 : decide (idxL (fun n : PNote => decide (n.name = name)) l < 0) = true := by simpa using hneg
    generalize idxL (fun n : PNote => decide (n.name = name)) l = R at CI hneg hneg2
    clear hel hnone
    go_enter Tryd.func102, Tryd.ntmps102
    go_wp2_with (first
      | (go_at_call 105; (with_reducible refine (CI.out _ hS0.out.bel).mono ?_); rintro e w1 ⟨rfl, k1⟩; have k1 : Bel _ w1 := k1; have H1 := Lib.hid (hS0.out.belw k1); have HB1 := Lib.hid (H1.out.box 0 rfl); clear k1)
      | (refine wpl_store_box rfl 28 _ _ rfl w0.heap.size zVal.toArray _ 28 rfl rfl HB1.out ar_V rfl (by simp [zVal, Value.oneCell']) ?_))
    have HZ := Lib.hid (H1.out.setrowbox 0 rfl zVal.toArray)
    refine bodyPost_ret (v := .tuple #[.agg zVal.toArray, .bool false]) ?hres1 rfl ?hpost1
    case hres1 => exact res_row rfl rfl rfl (HZ.out.box 0 rfl) Tryd.underlying28 rfl ar_V
    case hpost1 => exact ⟨zVal, rfl, rfl, HZ.out.bel⟩
  · rw [hsome]
    rw [hk] at CI
    obtain ⟨b, off, rfl, hbs, vs, hce, hvs⟩ := hel k x hx
    obtain ⟨vv, rfl, hval⟩ := hvs
    have HV := Lib.hid hval
    have hvl : vv.length = 7 := by obtain ⟨_, _, _, _, _, _, _, _, rfl, _⟩ := hval; rfl
    have hvo : vv.toArray.all (·.oneCell') = true := by obtain ⟨_, _, _, _, _, _, _, _, rfl, _⟩ := hval; simp [Value.oneCell']
    have HC := Lib.hid (show ∀ i u, vv[i]? = some u → w0.cell? ⟨b, off + k * 8 + 1 + i, none⟩ = some u from fun i u hu => by
      have := hce (i + 1) u (by simpa using hu)
      rwa [show off + k * 8 + (i + 1) = off + k * 8 + 1 + i by omega] at this)
    have Z0 : vv.toArray.size = 7 := by rw [List.size_toArray]; exact hvl
    have Z1 := Lib.hid (show (Tryd.prog.info? 28).map (·.size) = some vv.toArray.size by rw [Z0]; exact ar_V)
    have Z2 := Lib.hid (show (#[.int .i64 0, .int .u64 0, .string ⟨#[]⟩, .slice none 0 0, .slice none 0 0, .slice none 0 0, .slice none 0 0] : Array Value).size = vv.toArray.size by rw [Z0]; rfl)
    have HL := Lib.hid hvl
    have HO := Lib.hid hvo
    have hki : (k : Int) < (l.length : Int) := by omega
    have hkn : ¬ ((k : Int) < 0) := by omega
    clear hel hce hval hvl hvo Z0 hx hk hsome
    go_enter Tryd.func102, Tryd.ntmps102
    go_wp2_with (first
      | (go_at_call 105; (with_reducible refine (CI.out _ hS0.out.bel).mono ?_); rintro e w1 ⟨rfl, k1⟩; have k1 : Bel _ w1 := k1; have H1 := Lib.hid (hS0.out.belw k1); have HB1 := Lib.hid (H1.out.box 0 rfl); have HC1 := Lib.hid (fun i u hu => H1.out.bel.some (HC.out i u hu)); clear k1)
      | (refine wpl_load_at rfl 28 _ rfl b (off + k * 8 + 1) 7 vv rfl HC1.out ag_V sz_V HL.out ?_)
      | (refine wpl_store_box rfl 28 _ _ rfl w0.heap.size vv.toArray _ 28 rfl rfl HB1.out Z1.out Z2.out HO.out ?_))
    have HZ := Lib.hid (H1.out.setrowbox 0 rfl vv.toArray)
    refine bodyPost_ret (v := .tuple #[.agg vv.toArray, .bool true]) ?hres2 rfl ?hpost2
    case hres2 => exact res_row rfl rfl rfl (HZ.out.box 0 rfl) Tryd.underlying28 rfl Z1.out
    case hpost2 => exact ⟨vv, rfl, HV.out, HZ.out.bel⟩
set_option maxHeartbeats 4000000 in
set_option maxRecDepth 100000 in
theorem ds_aliased (v : Value) (l : List PNote) (nm : Str) (w0 : World) (hv : Notes w0 v l) :
    Calls Tryd.prog 93 #[v, .string (S nm)] w0 fun e w' => e = .returned (.bool (aliased l nm)) ∧ Bel w0 w' := by
  have CF := Lib.hid (show Calls Tryd.prog 102 #[v, .string ⟨#[97, 108, 105, 97, 115]⟩] w0 (NoteAt (l.find? fun n => decide (n.name = aliasW)) w0) from nt_Find v l aliasW w0 hv)
  have hal : aliased l nm = match l.find? (fun n => decide (n.name = aliasW)) with | some n => decide (n.val.k = 7) && decide (n.val.t = nm) | none => false := rfl
  generalize aliased l nm = R at hal
  obtain ⟨q, c, rfl, _⟩ := sl_form hv
  clear hv
  cases hz : l.find? (fun n => decide (n.name = aliasW)) with
  | none =>
    rw [hz] at CF hal
    have hal2 : R = false := hal
    subst hal2
    clear hal hz
    go_enter Tryd.func93, Tryd.ntmps93
    go_wp2_with (go_at_call 102; (with_reducible refine CF.out.mono ?_); rintro e w1 ⟨vs, rfl, hvs, k1⟩; have hvs2 : vs = [.int .i64 0, .int .u64 0, .string ⟨#[]⟩, .slice none 0 0, .slice none 0 0, .slice none 0 0, .slice none 0 0] := hvs; subst hvs2; have K1 := Lib.hid k1; clear k1 hvs)
    go_ret
    exact ⟨rfl, K1.out.alloc _⟩
  | some n =>
    rw [hz] at CF hal
    have hal2 : R = (decide (n.val.k = 7) && decide (n.val.t = nm)) := hal
    have HR := Lib.hid hal2
    have HE := Lib.hid (eq_S n.val.t nm)
    have HK := Lib.hid (show (n.val.k == 7) = decide (n.val.k = 7) by rw [Bool.eq_iff_iff]; simp)
    clear hal hz hal2
    by_cases h7 : n.val.k = 7
    · have h7b : (n.val.k == 7) = true := ieq h7
      have HR2 := Lib.hid (show R = decide (n.val.t = nm) by rw [HR.out, h7]; simp)
      clear h7
      go_enter Tryd.func93, Tryd.ntmps93
      go_wp2_with (go_at_call 102; (with_reducible refine CF.out.mono ?_); rintro e w1 ⟨vs, rfl, hvs, k1⟩; have hvs2 : VVal vs n.val := hvs; obtain ⟨p1, p2, p3, p4, c1, c2, c3, c4, hvc, _⟩ := hvs2; subst hvc; have K1 := Lib.hid k1; clear k1 hvs)
      go_ret
      exact ⟨ret_bool (HE.out.trans HR2.out.symm), K1.out.alloc _⟩
    · have h7b : (n.val.k == 7) = false := ine h7
      have HR2 : R = false := by rw [HR.out]; simp [h7]
      subst HR2
      clear h7
      go_enter Tryd.func93, Tryd.ntmps93
      go_wp2_with (go_at_call 102; (with_reducible refine CF.out.mono ?_); rintro e w1 ⟨vs, rfl, hvs, k1⟩; have hvs2 : VVal vs n.val := hvs; obtain ⟨p1, p2, p3, p4, c1, c2, c3, c4, hvc, _⟩ := hvs2; subst hvc; have K1 := Lib.hid k1; clear k1 hvs)
      go_ret
      exact ⟨rfl, K1.out.alloc _⟩
end Go.Proofs.YtaaneecceiefoaaDoor
