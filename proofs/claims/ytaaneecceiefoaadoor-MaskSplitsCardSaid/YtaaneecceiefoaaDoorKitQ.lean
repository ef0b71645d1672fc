/- The reference's order (layer 16) at equal arguments: number, raw. -/
import Derived.Test.YtaaneecceiefoaaDoorKitN
import Derived.Test.YtaaneecceiefoaaDoorMaFind
import Derived.Test.YtaaneecceiefoaaDoorKitA
import Derived.Test.YtaaneecceiefoaaDoorMaKeep
namespace Go.Proofs.YtaaneecceiefoaaDoor
open Go.RowKit Ma
set_option linter.unusedVariables false
set_option linter.unusedSimpArgs false
theorem bytes_irr : ∀ l : List UInt8, Op.bytesLess l l = false
  | [] => rfl
  | a :: l => by
    unfold Op.bytesLess
    rw [bytes_irr l, Bool.and_false, Bool.or_false]
    exact decide_eq_false (UInt8.lt_irrefl a)
set_option maxHeartbeats 4000000 in
set_option maxRecDepth 100000 in
theorem rq_number (a : Int) (w0 : World) : Calls Tryd.prog 32 #[.int .i64 a, .int .i64 a] w0 fun e w' => e = .returned (.int .i64 0) ∧ Bel w0 w' := by
  have hS := Lib.hid (Bel.refl w0)
  have h1 : decide (a < a) = false := decide_eq_false (Int.lt_irrefl a)
  go_enter Tryd.func32, Tryd.ntmps32
  go_wp2
  go_ret
  exact ⟨rfl, hS.out⟩
set_option maxHeartbeats 4000000 in
set_option maxRecDepth 100000 in
theorem rq_raw (r : PRaw) (w0 : World) : Calls Tryd.prog 47 #[.agg (rawC r).toArray, .agg (rawC r).toArray] w0 fun e w' => e = .returned (.int .i64 0) ∧ Bel w0 w' := by
  obtain ⟨n, wi, b, s⟩ := r
  show Calls _ _ #[.agg #[.int .i64 n, .int .i64 wi, .int .u64 b, .string (S s)], .agg #[.int .i64 n, .int .i64 wi, .int .u64 b, .string (S s)]] _ _
  have hS0 := ((ST.start w0).addbox #[.int .i64 n, .int .i64 wi, .int .u64 b, .string (S s)] 89).addbox #[.int .i64 n, .int .i64 wi, .int .u64 b, .string (S s)] 89
  simp only [World.size_alloc] at hS0
  have hS := Lib.hid hS0.bel
  clear hS0
  have h1 : (n != n) = false := by simp
  have h2 : (wi != wi) = false := by simp
  have h4 : Op.bytesLess (S s).toList (S s).toList = false := bytes_irr _
  go_enter Tryd.func47, Tryd.ntmps47
  go_wp2
  go_ret
  exact ⟨rfl, hS.out⟩
end Go.Proofs.YtaaneecceiefoaaDoor

/- The reference's order of scalars (layer 04) at equal arguments: Is, texts, signed, Class, rank. -/
namespace Go.Proofs.YtaaneecceiefoaaDoor
open Go.RowKit Ma
set_option linter.unusedVariables false
set_option linter.unusedSimpArgs false
def isK (k : Int) : Bool := decide (1 ≤ k ∧ k ≤ 9)
def txK (k : Int) : Bool := decide (k = 7 ∨ k = 8)
def sgK (k : Int) : Bool := decide (k = 2 ∨ k = 3)
def clsK (b : Int) : Int :=
  if 9218868437227405312 < b % 9223372036854775808 then 0 else if b % 9223372036854775808 = 9218868437227405312 then 1
  else if b % 9223372036854775808 = 0 then 2 else if b % 9223372036854775808 < 4503599627370496 then 3 else 4
set_option maxHeartbeats 4000000 in
set_option maxRecDepth 100000 in
theorem rq_Is (k : Int) (w : World) : Calls Tryd.prog 48 #[.int .i64 k] w fun e w' => e = .returned (.bool (isK k)) ∧ w = w' := by
  go_enter Tryd.func48, Tryd.ntmps48
  go_wp2
  all_goals go_ret
  all_goals exact ⟨ret_bool (by rw [Bool.eq_iff_iff]; simp [isK] at *; try omega), rfl⟩
set_option maxHeartbeats 4000000 in
set_option maxRecDepth 100000 in
theorem rq_texts (k : Int) (w : World) : Calls Tryd.prog 49 #[.int .i64 k] w fun e w' => e = .returned (.bool (txK k)) ∧ w = w' := by
  go_enter Tryd.func49, Tryd.ntmps49
  go_wp2
  all_goals go_ret
  all_goals exact ⟨ret_bool (by rw [Bool.eq_iff_iff]; simp [txK] at *; try omega), rfl⟩
set_option maxHeartbeats 4000000 in
set_option maxRecDepth 100000 in
theorem rq_signed (k : Int) (w : World) : Calls Tryd.prog 71 #[.int .i64 k] w fun e w' => e = .returned (.bool (sgK k)) ∧ w = w' := by
  go_enter Tryd.func71, Tryd.ntmps71
  go_wp2
  all_goals go_ret
  all_goals exact ⟨ret_bool (by rw [Bool.eq_iff_iff]; simp [sgK] at *; try omega), rfl⟩
theorem ret_intK {k : IntKind} {a b : Int} (h : a = b) : Ending.returned (.int k a) = Ending.returned (.int k b) := by rw [h]
set_option maxHeartbeats 4000000 in
set_option maxRecDepth 100000 in
theorem rq_Class (x : Int) (w : World) (h0 : 0 ≤ x) (h1 : x < 18446744073709551616) : Calls Tryd.prog 72 #[.int .u64 x] w fun e w' => e = .returned (.int .i64 (clsK x)) ∧ w = w' := by
  go_enter Tryd.func72, Tryd.ntmps72
  go_wp2
  all_goals go_ret
  all_goals
    refine ⟨ret_intK ?_, rfl⟩
    try simp only [beq_iff_eq, beq_eq_false_iff_ne, bne_iff_ne, bne_eq_false_iff_eq, ne_eq] at *
    unfold clsK
    (repeat' split) <;> omega
def rankV (k b : Int) : Int := if sgK k = true then IntKind.u64.wrap (b + 9223372036854775808) else if k ≠ 6 then b else if clsK b = 0 then 18446744073709551615 else if 9223372036854775808 ≤ b then 18446744073709551615 - b else b + 9223372036854775808
set_option maxHeartbeats 4000000 in
set_option maxRecDepth 100000 in
theorem rq_rank (d : VC) (h0 : 0 ≤ d.b) (h1 : d.b < 18446744073709551616) (w0 : World) : Calls Tryd.prog 50 #[.agg d.cells.toArray] w0 fun e w' => e = .returned (.int .u64 (rankV d.k d.b)) ∧ Bel w0 w' := by
  have c1 := Lib.hid (fun W => rq_signed d.k W)
  have c2 := Lib.hid (fun W => rq_Class d.b W h0 h1)
  have hv := Lib.hid (show rankV d.k d.b = if sgK d.k = true then IntKind.u64.wrap (d.b + 9223372036854775808) else if d.k ≠ 6 then d.b else if clsK d.b = 0 then 18446744073709551615 else if 9223372036854775808 ≤ d.b then 18446744073709551615 - d.b else d.b + 9223372036854775808 from rfl)
  generalize rankV d.k d.b = R at hv ⊢
  generalize sgK d.k = B at c1 hv
  generalize clsK d.b = C at c2 hv
  show Calls _ _ #[.agg #[.int .i64 d.k, .int .u64 d.b, .string (S d.t), .slice d.p1 d.n1 d.c1, .slice d.p2 d.n2 d.c2, .slice d.p3 d.n3 d.c3, .slice d.p4 d.n4 d.c4]] _ _
  have hS0 := (ST.start w0).addbox #[.int .i64 d.k, .int .u64 d.b, .string (S d.t), .slice d.p1 d.n1 d.c1, .slice d.p2 d.n2 d.c2, .slice d.p3 d.n3 d.c3, .slice d.p4 d.n4 d.c4] 28
  have hS := Lib.hid hS0.bel
  clear hS0
  go_enter Tryd.func50, Tryd.ntmps50
  go_wp2_with (first
    | (go_at_call 71; (with_reducible refine (c1.out _).mono ?_); rintro e w' ⟨rfl, rfl⟩)
    | (go_at_call 72; (with_reducible refine (c2.out _).mono ?_); rintro e w' ⟨rfl, rfl⟩))
  all_goals go_ret
  all_goals
    refine ⟨ret_intK ?_, hS.out⟩
    have hw := hv.out
    clear hv hS c1 c2
    simp_all
    try omega
end Go.Proofs.YtaaneecceiefoaaDoor

/- The reference's order (layer 16): raws of equal lists. -/
namespace Go.Proofs.YtaaneecceiefoaaDoor
open Go.RowKit Ma
set_option linter.unusedVariables false
set_option linter.unusedSimpArgs false
theorem still_load_at {P : Program} {ops : Array Oper} {w : World} {Q : Act → Prop} {rest : List Oper} {a : Act} {o : Oper} (hgd : o.guard = none) (ty : TypeId) (x : Operand) (ho : o.op = .load ty x) (b off n : Nat) (vs : List Value) (hx : a.eval x = .pointer (some ⟨b, off, none⟩)) (hc : ∀ i v, vs[i]? = some v → w.cell? ⟨b, off + i, none⟩ = some v) (aE : ∀ w, (isAgg ty).run P w = .ok true w) (zE : ∀ w, (Go.sizeOf ty).run P w = .ok n w) (hn : vs.length = n)
    (h : wpStill P ops w Q rest (a.put o.dst (.agg vs.toArray))) : wpStill P ops w Q (o :: rest) a := by
  refine wpStill_step (fun K hK => ?_)
  have hw : Region.wanted o (yielded ops a.tmps) = true := by simp [Region.wanted, hgd]
  rw [if_pos hw]
  have hl : Sem.run P (loadCellsFrom ⟨b, off, none⟩ 0 n #[]) w = .ok vs.toArray w := run_loadCellsFrom_list P w ⟨b, off, none⟩ vs n hn (fun i v hi => by rw [Addr.add_lit]; exact hc i v hi)
  have hv : (loadVar ty ⟨b, off, none⟩).run P w = .ok (.agg vs.toArray) w := by
    unfold loadVar loadCells
    simp only [Sem.run_bind, aE, Result.andThen_ok, if_true, zE, hl, Sem.run_pure]
  unfold Oper.still execOp
  simp only [ho, hx, Instr.loadAt, Instr.sureAddr, Sem.run_bind, Sem.run_pure, Result.andThen_ok, hv]
  rw [Oper.stillUpon_value]
  exact hK _ h
theorem ag_R (w : World) : (isAgg 89).run Tryd.prog w = .ok true w := by kernel_rfl
theorem sz_R (w : World) : (Go.sizeOf 89).run Tryd.prog w = .ok 4 w := by kernel_rfl
set_option maxHeartbeats 4000000 in
set_option maxRecDepth 100000 in
theorem rq_raws (A1 A2 : Nat → Prop) (v1 v2 : Value) (l : List PRaw) (w0 : World) (h1 : SlA A1 4 VRaw w0 v1 l) (h2 : SlA A2 4 VRaw w0 v2 l) : Calls Tryd.prog 36 #[v1, v2] w0 fun e w' => e = .returned (.int .i64 0) ∧ Bel w0 w' := by
  obtain ⟨p, c, rfl, hl, hcap, hel⟩ := h1
  obtain ⟨p2, c2, rfl, hl2, hcap2, hel2⟩ := h2
  have EL := Lib.hid hel
  have EL2 := Lib.hid hel2
  clear hel hcap hel2 hcap2
  have CN := Lib.hid (fun W => rq_number (l.length : Int) W)
  have CR := Lib.hid (fun r W => rq_raw r W)
  go_enter Tryd.func36, Tryd.ntmps36
  go_wp2
  go_loopw [5] (fun i wr => ∃ k : Nat, k ≤ l.length ∧ i = .int .i64 k ∧ Hid (Bel w0 wr)) (fun i _ => l.length - (intOf i).toNat)
  case atStart => exact ⟨0, by omega, rfl, Lib.hid (Bel.refl _)⟩
  case round => as_aux_lemma =>
    obtain ⟨k, hk, rfl, hS⟩ := hrel
    by_cases hlt : k < l.length
    · obtain ⟨b, off, vs, rfl, hbs, hab, hce, hvs⟩ := EL.out k _ (List.getElem?_eq_getElem hlt)
      obtain ⟨b2, off2, vs2, rfl, hbs2, hab2, hce2, hvs2⟩ := EL2.out k _ (List.getElem?_eq_getElem hlt)
      have hki : (k : Int) < (l.length : Int) := by omega
      clear EL EL2
      generalize l[k] = r at *
      have CX := Lib.hid (CR.out r)
      clear CR
      obtain ⟨n, wi, bt, s⟩ := r
      have hvs : vs = [.int .i64 n, .int .i64 wi, .int .u64 bt, .string (S s)] := hvs
      have hvs2 : vs2 = [.int .i64 n, .int .i64 wi, .int .u64 bt, .string (S s)] := hvs2
      subst hvs hvs2
      go_upto_region 4 with (fail)
      obtain ⟨wd, hwd⟩ : ∃ wd, wd = wr.drew := ⟨_, rfl⟩
      have KD := Lib.hid (show Bel w0 wd by rw [hwd]; exact hS.out.drew)
      have HWD := Lib.hid hwd
      clear hwd hS
      have HC1 := Lib.hid (fun i v hi => KD.out.some (hce i v hi))
      have HC2 := Lib.hid (fun i v hi => KD.out.some (hce2 i v hi))
      clear hce hce2 hab hab2
      have CS := Lib.hid (show Calls Tryd.prog 47 #[.agg #[.int .i64 n, .int .i64 wi, .int .u64 bt, .string (S s)], .agg #[.int .i64 n, .int .i64 wi, .int .u64 bt, .string (S s)]] wd _ from CX.out wd)
      clear CX
      refine rg_tail 8 (by kernel_rfl) (by kernel_rfl) HWD.out ?_
      simp only [List.take_succ_cons, List.take_zero, List.drop_succ_cons, List.drop_zero]
      repeat (first
        | (refine still_load_at rfl 89 _ rfl b (off + k * 4) 4 [.int .i64 n, .int .i64 wi, .int .u64 bt, .string (S s)] rfl HC1.out ag_R sz_R rfl ?_; simp only [Act.put, List.setIfInBounds_toArray, List.set_cons_zero, List.set_cons_succ])
        | (refine still_load_at rfl 89 _ rfl b2 (off2 + k * 4) 4 [.int .i64 n, .int .i64 wi, .int .u64 bt, .string (S s)] rfl HC2.out ag_R sz_R rfl ?_; simp only [Act.put, List.setIfInBounds_toArray, List.set_cons_zero, List.set_cons_succ])
        | ((with_reducible refine wpStill_step (fun K hK => ?_)); go_simp; (with_reducible refine hK _ ?_); clear hK K))
      with_reducible refine wpStill_nil ?_
      go_wp2_with (go_at_call 47; (with_reducible refine CS.out.mono ?_); rintro e w1 ⟨rfl, k1⟩; have K1 := Lib.hid (Bel.of KD.out k1); clear k1)
      go_roundw
      case rel => exact ⟨k + 1, by omega, by go_num, K1⟩
      case measure => simp [intOf]; omega
    · have hkl : k = l.length := by omega
      have hki : ¬ (k : Int) < (l.length : Int) := by omega
      clear EL EL2
      go_wp2_with (go_at_call 32; (with_reducible refine (CN.out _).mono ?_); rintro e w1 ⟨rfl, k1⟩; have K1 := Lib.hid (Bel.of hS.out k1); clear k1)
      go_ret
      exact ⟨rfl, K1.out⟩
end Go.Proofs.YtaaneecceiefoaaDoor

/- The reference's order of scalars (layer 04): Cmp at equal arguments. -/
namespace Go.Proofs.YtaaneecceiefoaaDoor
open Go.RowKit Ma
set_option linter.unusedVariables false
set_option linter.unusedSimpArgs false
theorem load_V {ρ : Operand → Value} {dst : Option Tmp} {pos : String} {after : Array Edge} {guard : Option (Nat × Bool)} {x : Operand} {ty : TypeId} {g : Nat} {cs : Array Value} {t : TypeId} {W : World} (hx : ρ x = .pointer (some ⟨g, 0, none⟩)) (hg : W.heap[g]? = some (.cells cs t (0, 0))) (hs : cs.size = 7) :
    (execOp ρ { dst := dst, op := .load 28 x, type := ty, pos := pos, after := after, guard := guard }).run Tryd.prog W = .ok (.value (.agg cs)) W := by
  have hv := run_loadVar_row (P := Tryd.prog) W g t 28 cs (0, 0) _ hg Tryd.underlying28 rfl (by rw [vr_V, hs])
  unfold execOp
  simp only [hx, Instr.loadAt, Instr.sureAddr, Sem.run_bind, Sem.run_pure, Result.andThen_ok, hv]
set_option maxHeartbeats 4000000 in
set_option maxRecDepth 100000 in
theorem rq_Cmp4 (d d2 : VC) (hk : d2.k = d.k) (hb : d2.b = d.b) (ht : d2.t = d.t) (h0 : 0 ≤ d.b) (h1 : d.b < 18446744073709551616) (w0 : World) : Calls Tryd.prog 37 #[.agg d.cells.toArray, .agg d2.cells.toArray] w0 fun e w' => e = .returned (.int .i64 0) ∧ Bel w0 w' := by
  have c1 := Lib.hid (fun W => rq_Is d.k W)
  have c2 := Lib.hid (fun W => rq_texts d.k W)
  have c3 := Lib.hid (fun W => rq_rank d h0 h1 W)
  have c4 := fun W => rq_rank d2 (hb ▸ h0) (hb ▸ h1) W
  rw [hk, hb] at c4
  have c4 := Lib.hid c4
  have h4 : Op.bytesLess (S d.t).toList (S d.t).toList = false := bytes_irr _
  have h5 : decide (d.k < d.k) = false := decide_eq_false (Int.lt_irrefl _)
  generalize rankV d.k d.b = R at c3 c4
  generalize isK d.k = B at c1
  generalize txK d.k = C at c2
  have h6 : decide (R < R) = false := decide_eq_false (Int.lt_irrefl _)
  show Calls _ _ #[.agg #[.int .i64 d.k, .int .u64 d.b, .string (S d.t), .slice d.p1 d.n1 d.c1, .slice d.p2 d.n2 d.c2, .slice d.p3 d.n3 d.c3, .slice d.p4 d.n4 d.c4], .agg #[.int .i64 d2.k, .int .u64 d2.b, .string (S d2.t), .slice d2.p1 d2.n1 d2.c1, .slice d2.p2 d2.n2 d2.c2, .slice d2.p3 d2.n3 d2.c3, .slice d2.p4 d2.n4 d2.c4]] _ _
  rw [hk, hb, ht]
  have hS0 := ((ST.start w0).addbox #[.int .i64 d.k, .int .u64 d.b, .string (S d.t), .slice d.p1 d.n1 d.c1, .slice d.p2 d.n2 d.c2, .slice d.p3 d.n3 d.c3, .slice d.p4 d.n4 d.c4] 28).addbox #[.int .i64 d.k, .int .u64 d.b, .string (S d.t), .slice d2.p1 d2.n1 d2.c1, .slice d2.p2 d2.n2 d2.c2, .slice d2.p3 d2.n3 d2.c3, .slice d2.p4 d2.n4 d2.c4] 28
  simp only [World.size_alloc] at hS0
  have c4 := Lib.hid (show ∀ W, Calls Tryd.prog 50 #[.agg #[.int .i64 d.k, .int .u64 d.b, .string (S d.t), .slice d2.p1 d2.n1 d2.c1, .slice d2.p2 d2.n2 d2.c2, .slice d2.p3 d2.n3 d2.c3, .slice d2.p4 d2.n4 d2.c4]] W _ from fun W => by have := c4.out W; simp only [VC.cells, hk, hb, ht] at this; exact this)
  have c3 := Lib.hid (show ∀ W, Calls Tryd.prog 50 #[.agg #[.int .i64 d.k, .int .u64 d.b, .string (S d.t), .slice d.p1 d.n1 d.c1, .slice d.p2 d.n2 d.c2, .slice d.p3 d.n3 d.c3, .slice d.p4 d.n4 d.c4]] W _ from c3.out)
  have HS := Lib.hid hS0
  clear hS0 hk hb ht
  go_enter Tryd.func37, Tryd.ntmps37
  go_upto_region 13 with (first
    | (go_at_call 48; (with_reducible refine (c1.out _).mono ?_); rintro e w' ⟨rfl, rfl⟩)
    | (go_at_call 49; (with_reducible refine (c2.out _).mono ?_); rintro e w' ⟨rfl, rfl⟩))
  · go_ret
    exact ⟨rfl, HS.out.bel⟩
  · go_ret
    exact ⟨rfl, HS.out.bel⟩
  · generalize hwz : World.alloc _ _ = wz at HS ⊢
    clear hwz
    obtain ⟨wd, hwd⟩ : ∃ wd, wd = wz.drew := ⟨_, rfl⟩
    have HD := Lib.hid (show ST w0 _ _ wd by rw [hwd]; exact HS.out.belw (Bel.refl _).drew)
    have HWD := Lib.hid hwd
    clear hwd HS
    have KS := Lib.hid (fun W (h : ST w0 [] [⟨w0.heap.size + 1, #[.int .i64 d.k, .int .u64 d.b, .string (S d.t), .slice d2.p1 d2.n1 d2.c1, .slice d2.p2 d2.n2 d2.c2, .slice d2.p3 d2.n3 d2.c3, .slice d2.p4 d2.n4 d2.c4], 28⟩, ⟨w0.heap.size, #[.int .i64 d.k, .int .u64 d.b, .string (S d.t), .slice d.p1 d.n1 d.c1, .slice d.p2 d.n2 d.c2, .slice d.p3 d.n3 d.c3, .slice d.p4 d.n4 d.c4], 28⟩] W) => h)
    refine region_treeA (fun W => ST w0 [] [⟨w0.heap.size + 1, #[.int .i64 d.k, .int .u64 d.b, .string (S d.t), .slice d2.p1 d2.n1 d2.c1, .slice d2.p2 d2.n2 d2.c2, .slice d2.p3 d2.n3 d2.c3, .slice d2.p4 d2.n4 d2.c4], 28⟩, ⟨w0.heap.size, #[.int .i64 d.k, .int .u64 d.b, .string (S d.t), .slice d.p1 d.n1 d.c1, .slice d.p2 d.n2 d.c2, .slice d.p3 d.n3 d.c3, .slice d.p4 d.n4 d.c4], 28⟩] W) (.take 0 (.take 2 (.alt 1 .done .no))) 3 (by kernel_rfl) (by kernel_rfl) HWD.out HD.out (fun a ha => ?_)
    (simp only [pickT, List.getD_cons_zero, List.getD_cons_succ])
    have hsz : a.tmps.size = 60 := (by rw [ha]; kernel_rfl)
    have a2 : a.eval (.tmp 2) = .pointer (some ⟨w0.heap.size, 0, none⟩) := (by rw [ha]; kernel_rfl)
    have a3 : a.eval (.tmp 3) = .pointer (some ⟨w0.heap.size + 1, 0, none⟩) := (by rw [ha]; kernel_rfl)
    (with_reducible refine tree_held (v := ?_) rfl (by with_unfolding_all rfl) (fun ρ hρ W hW => ?_) ?_); (rotate_left 1)
    focus (have hS := KS.out _ hW; clear hW; have p2 := hρ (.tmp 2); (simp (disch := (first | decide | ((try simp only [sz_put]); rw [hsz]; decide))) only [ev_eq, ev_ne, a2, a3] at p2); have hc : ∀ c, ρ (.const c) = c := (fun c => hρ (.const c)); have hfn : ∀ f, ρ (.func f) = .func (.func f) #[] #[] := (fun f => hρ (.func f)); clear hρ; exact load_V p2 (hS.box 1 rfl) rfl)
    (with_reducible refine tree_held (v := ?_) rfl (by with_unfolding_all rfl) (fun ρ hρ W hW => ?_) ?_); (rotate_left 1)
    focus (have hS := KS.out _ hW; clear hW; have p3 := hρ (.tmp 3); (simp (disch := (first | decide | ((try simp only [sz_put]); rw [hsz]; decide))) only [ev_eq, ev_ne, a2, a3] at p3); have hc : ∀ c, ρ (.const c) = c := (fun c => hρ (.const c)); have hfn : ∀ f, ρ (.func f) = .func (.func f) #[] #[] := (fun f => hρ (.func f)); clear hρ; exact load_V p3 (hS.box 0 rfl) rfl)
    (with_reducible refine tree_enter (f := ?_) (args := ?_) rfl (by with_unfolding_all rfl) (fun ρ hρ => ?_) ?_ ?_); (rotate_left 2)
    focus (have p49 := hρ (.tmp 49); (simp (disch := (first | decide | ((try simp only [sz_put]); rw [hsz]; decide))) only [ev_eq, ev_ne, a2, a3] at p49); have hc : ∀ c, ρ (.const c) = c := (fun c => hρ (.const c)); have hfn : ∀ f, ρ (.func f) = .func (.func f) #[] #[] := (fun f => hρ (.func f)); clear hρ; rw [execOp_call_rho (hfn _)]; clear hfn; go_simp; (all_goals (first | (with_reducible rfl) | (constructor <;> with_reducible rfl))))
    (with_reducible refine (c3.out _).mono ?_)
    rintro e w131 ⟨rfl, g1⟩
    have g1 : Bel _ w131 := g1
    have T13 := Lib.hid (HD.out.belw g1)
    clear g1
    refine ⟨_, rfl, T13.out, ?_⟩
    rotate_left 1
    focus exact tree_no
    refine tree_done ?_
    (simp only [List.drop_succ_cons, List.drop_zero])
    subst ha
    (simp only [put_some, set_s, set_z])
    go_upto_region 15 with (go_at_call 50; (with_reducible refine (c4.out _).mono ?_); rintro e u13 ⟨rfl, g9⟩; have g9 : Bel _ u13 := g9; have U13 := Lib.hid (T13.out.belw g9); clear g9)
    obtain ⟨we, hwe⟩ : ∃ we, we = u13.drew := ⟨_, rfl⟩
    have HE := Lib.hid (show ST w0 [] [⟨w0.heap.size + 1, #[.int .i64 d.k, .int .u64 d.b, .string (S d.t), .slice d2.p1 d2.n1 d2.c1, .slice d2.p2 d2.n2 d2.c2, .slice d2.p3 d2.n3 d2.c3, .slice d2.p4 d2.n4 d2.c4], 28⟩, ⟨w0.heap.size, #[.int .i64 d.k, .int .u64 d.b, .string (S d.t), .slice d.p1 d.n1 d.c1, .slice d.p2 d.n2 d.c2, .slice d.p3 d.n3 d.c3, .slice d.p4 d.n4 d.c4], 28⟩] we by rw [hwe]; exact U13.out.belw (Bel.refl _).drew)
    have HWD := Lib.hid hwe
    clear hwe HD T13 U13
    refine region_treeA (fun W => ST w0 [] [⟨w0.heap.size + 1, #[.int .i64 d.k, .int .u64 d.b, .string (S d.t), .slice d2.p1 d2.n1 d2.c1, .slice d2.p2 d2.n2 d2.c2, .slice d2.p3 d2.n3 d2.c3, .slice d2.p4 d2.n4 d2.c4], 28⟩, ⟨w0.heap.size, #[.int .i64 d.k, .int .u64 d.b, .string (S d.t), .slice d.p1 d.n1 d.c1, .slice d.p2 d.n2 d.c2, .slice d.p3 d.n3 d.c3, .slice d.p4 d.n4 d.c4], 28⟩] W) (.take 0 (.take 2 (.alt 1 .done .no))) 3 (by kernel_rfl) (by kernel_rfl) HWD.out HE.out (fun a ha => ?_)
    (simp only [pickT, List.getD_cons_zero, List.getD_cons_succ])
    have hsz : a.tmps.size = 60 := (by rw [ha]; kernel_rfl)
    have a2 : a.eval (.tmp 2) = .pointer (some ⟨w0.heap.size, 0, none⟩) := (by rw [ha]; kernel_rfl)
    have a3 : a.eval (.tmp 3) = .pointer (some ⟨w0.heap.size + 1, 0, none⟩) := (by rw [ha]; kernel_rfl)
    (with_reducible refine tree_held (v := ?_) rfl (by with_unfolding_all rfl) (fun ρ hρ W hW => ?_) ?_); (rotate_left 1)
    focus (have hS := KS.out _ hW; clear hW; have p2 := hρ (.tmp 2); (simp (disch := (first | decide | ((try simp only [sz_put]); rw [hsz]; decide))) only [ev_eq, ev_ne, a2, a3] at p2); have hc : ∀ c, ρ (.const c) = c := (fun c => hρ (.const c)); have hfn : ∀ f, ρ (.func f) = .func (.func f) #[] #[] := (fun f => hρ (.func f)); clear hρ; exact load_V p2 (hS.box 1 rfl) rfl)
    (with_reducible refine tree_held (v := ?_) rfl (by with_unfolding_all rfl) (fun ρ hρ W hW => ?_) ?_); (rotate_left 1)
    focus (have hS := KS.out _ hW; clear hW; have p3 := hρ (.tmp 3); (simp (disch := (first | decide | ((try simp only [sz_put]); rw [hsz]; decide))) only [ev_eq, ev_ne, a2, a3] at p3); have hc : ∀ c, ρ (.const c) = c := (fun c => hρ (.const c)); have hfn : ∀ f, ρ (.func f) = .func (.func f) #[] #[] := (fun f => hρ (.func f)); clear hρ; exact load_V p3 (hS.box 0 rfl) rfl)
    (with_reducible refine tree_enter (f := ?_) (args := ?_) rfl (by with_unfolding_all rfl) (fun ρ hρ => ?_) ?_ ?_); (rotate_left 2)
    focus (have p55 := hρ (.tmp 55); (simp (disch := (first | decide | ((try simp only [sz_put]); rw [hsz]; decide))) only [ev_eq, ev_ne, a2, a3] at p55); have hc : ∀ c, ρ (.const c) = c := (fun c => hρ (.const c)); have hfn : ∀ f, ρ (.func f) = .func (.func f) #[] #[] := (fun f => hρ (.func f)); clear hρ; rw [execOp_call_rho (hfn _)]; clear hfn; go_simp; (all_goals (first | (with_reducible rfl) | (constructor <;> with_reducible rfl))))
    (with_reducible refine (c3.out _).mono ?_)
    rintro e w151 ⟨rfl, g1⟩
    have g1 : Bel _ w151 := g1
    have T15 := Lib.hid (HE.out.belw g1)
    clear g1
    refine ⟨_, rfl, T15.out, ?_⟩
    rotate_left 1
    focus exact tree_no
    refine tree_done ?_
    (simp only [List.drop_succ_cons, List.drop_zero])
    subst ha
    (simp only [put_some, set_s, set_z])
    go_wp2_with (go_at_call 50; (with_reducible refine (c4.out _).mono ?_); rintro e u15 ⟨rfl, g9⟩; have g9 : Bel _ u15 := g9; have U15 := Lib.hid (T15.out.belw g9); clear g9)
    go_ret
    exact ⟨rfl, U15.out.bel⟩
end Go.Proofs.YtaaneecceiefoaaDoor

/- The reference's order (layer 16): lists of equal values, Cmp one level down. Printed by grlists.py. -/
namespace Go.Proofs.YtaaneecceiefoaaDoor
open Go.RowKit Ma
set_option linter.unusedVariables false
set_option linter.unusedSimpArgs false
def RCmpC (n : Nat) : Prop := ∀ (A1 A2 : Nat → Prop) (d1 d2 : VC) (cv : CV) (w : World), ValC A1 n w d1 cv → ValC A2 n w d2 cv → Calls Tryd.prog 21 #[.agg d1.cells.toArray, .agg d2.cells.toArray] w fun e w' => e = .returned (.int .i64 0) ∧ Bel w w'
set_option maxHeartbeats 4000000 in
set_option maxRecDepth 100000 in
theorem rq_lists (n : Nat) (IH : RCmpC n) (A1 A2 : Nat → Prop) (v1 v2 : Value) (l : List CV) (w0 : World) (h1 : SlA A1 7 (VList A1 n) w0 v1 l) (h2 : SlA A2 7 (VList A2 n) w0 v2 l) : Calls Tryd.prog 33 #[v1, v2] w0 fun e w' => e = .returned (.int .i64 0) ∧ Bel w0 w' := by
  obtain ⟨p, c, rfl, hl, hcap, hel⟩ := h1
  obtain ⟨p2, c2, rfl, hl2, hcap2, hel2⟩ := h2
  have EL := Lib.hid hel
  have EL2 := Lib.hid hel2
  clear hel hcap hel2 hcap2
  have CN := Lib.hid (fun W => rq_number (l.length : Int) W)
  have CR := Lib.hid (fun cv d1 d2 W (h1 : ValC A1 n W d1 cv) (h2 : ValC A2 n W d2 cv) => IH A1 A2 d1 d2 cv W h1 h2)
  clear IH
  go_enter Tryd.func33, Tryd.ntmps33
  go_wp2
  go_loopw [5] (fun i wr => ∃ k : Nat, k ≤ l.length ∧ i = .int .i64 k ∧ Hid (Bel w0 wr)) (fun i _ => l.length - (intOf i).toNat)
  case atStart => exact ⟨0, by omega, rfl, Lib.hid (Bel.refl _)⟩
  case round => as_aux_lemma =>
    obtain ⟨k, hk, rfl, hS⟩ := hrel
    by_cases hlt : k < l.length
    · obtain ⟨b, off, vs, rfl, hbs, hab, hce, d1, hvs, hv⟩ := EL.out k _ (List.getElem?_eq_getElem hlt)
      obtain ⟨b2, off2, vs2, rfl, hbs2, hab2, hce2, d2, hvs2, hv2⟩ := EL2.out k _ (List.getElem?_eq_getElem hlt)
      have hki : (k : Int) < (l.length : Int) := by omega
      clear EL EL2
      generalize l[k] = r at *
      have HL1 := Lib.hid (show vs.length = 7 by rw [hvs]; rfl)
      have HL2 := Lib.hid (show vs2.length = 7 by rw [hvs2]; rfl)
      have HV1 := Lib.hid hvs
      have HV2 := Lib.hid hvs2
      have hv : ValC A1 n w0 d1 r := hv
      have hv2 : ValC A2 n w0 d2 r := hv2
      clear hvs hvs2
      go_upto_region 4 with (fail)
      obtain ⟨wd, hwd⟩ : ∃ wd, wd = wr.drew := ⟨_, rfl⟩
      have KD := Lib.hid (show Bel w0 wd by rw [hwd]; exact hS.out.drew)
      have HWD := Lib.hid hwd
      clear hwd hS
      have HC1 := Lib.hid (fun i v hi => KD.out.some (hce i v hi))
      have HC2 := Lib.hid (fun i v hi => KD.out.some (hce2 i v hi))
      clear hce hce2 hab hab2
      have CS := Lib.hid (show Calls Tryd.prog 21 #[.agg vs.toArray, .agg vs2.toArray] wd _ from by rw [HV1.out, HV2.out]; exact CR.out r d1 d2 wd (hv.bel KD.out) (hv2.bel KD.out))
      clear CR hv hv2
      refine rg_tail 8 (by kernel_rfl) (by kernel_rfl) HWD.out ?_
      simp only [List.take_succ_cons, List.take_zero, List.drop_succ_cons, List.drop_zero]
      repeat (first
        | (refine still_load_at rfl 28 _ rfl b (off + k * 7) 7 vs rfl HC1.out vg_V vz_V HL1.out ?_; simp only [Act.put, List.setIfInBounds_toArray, List.set_cons_zero, List.set_cons_succ])
        | (refine still_load_at rfl 28 _ rfl b2 (off2 + k * 7) 7 vs2 rfl HC2.out vg_V vz_V HL2.out ?_; simp only [Act.put, List.setIfInBounds_toArray, List.set_cons_zero, List.set_cons_succ])
        | ((with_reducible refine wpStill_step (fun K hK => ?_)); go_simp; (with_reducible refine hK _ ?_); clear hK K))
      with_reducible refine wpStill_nil ?_
      go_wp2_with (go_at_call 21; (with_reducible refine CS.out.mono ?_); rintro e w1 ⟨rfl, k1⟩; have K1 := Lib.hid (Bel.of KD.out k1); clear k1)
      go_roundw
      case rel => exact ⟨k + 1, by omega, by go_num, K1⟩
      case measure => simp [intOf]; omega
    · have hkl : k = l.length := by omega
      have hki : ¬ (k : Int) < (l.length : Int) := by omega
      clear EL EL2
      go_wp2_with (go_at_call 32; (with_reducible refine (CN.out _).mono ?_); rintro e w1 ⟨rfl, k1⟩; have K1 := Lib.hid (Bel.of hS.out k1); clear k1)
      go_ret
      exact ⟨rfl, K1.out⟩
end Go.Proofs.YtaaneecceiefoaaDoor

/- The reference's order (layer 16): slots of equal messages, Cmp one level down. Printed by grslots.py. -/
namespace Go.Proofs.YtaaneecceiefoaaDoor
open Go.RowKit Ma
set_option linter.unusedVariables false
set_option linter.unusedSimpArgs false
set_option maxHeartbeats 4000000 in
set_option maxRecDepth 100000 in
theorem rq_slots (n : Nat) (IH : RCmpC n) (A1 A2 : Nat → Prop) (v1 v2 : Value) (l : List (Int × CV)) (w0 : World) (h1 : SlA A1 8 (VSlot A1 n) w0 v1 l) (h2 : SlA A2 8 (VSlot A2 n) w0 v2 l) : Calls Tryd.prog 35 #[v1, v2] w0 fun e w' => e = .returned (.int .i64 0) ∧ Bel w0 w' := by
  obtain ⟨p, c, rfl, hl, hcap, hel⟩ := h1
  obtain ⟨p2, c2, rfl, hl2, hcap2, hel2⟩ := h2
  have EL := Lib.hid hel
  have EL2 := Lib.hid hel2
  clear hel hcap hel2 hcap2
  have CN := Lib.hid (fun a W => rq_number a W)
  have CR := Lib.hid (fun cv d1 d2 W (h1 : ValC A1 n W d1 cv) (h2 : ValC A2 n W d2 cv) => IH A1 A2 d1 d2 cv W h1 h2)
  clear IH
  go_enter Tryd.func35, Tryd.ntmps35
  go_wp2
  go_loopw [5] (fun i wr => ∃ k : Nat, k ≤ l.length ∧ i = .int .i64 k ∧ Hid (Bel w0 wr)) (fun i _ => l.length - (intOf i).toNat)
  case atStart => exact ⟨0, by omega, rfl, Lib.hid (Bel.refl _)⟩
  case round => as_aux_lemma =>
    obtain ⟨k, hk, rfl, hS⟩ := hrel
    by_cases hlt : k < l.length
    · obtain ⟨b, off, vs, rfl, hbs, hab, hce, d1, hvs, hv⟩ := EL.out k _ (List.getElem?_eq_getElem hlt)
      obtain ⟨b2, off2, vs2, rfl, hbs2, hab2, hce2, d2, hvs2, hv2⟩ := EL2.out k _ (List.getElem?_eq_getElem hlt)
      have hki : (k : Int) < (l.length : Int) := by omega
      clear EL EL2
      generalize l[k] = r at *
      have hv : ValC A1 n w0 d1 r.2 := hv
      have hv2 : ValC A2 n w0 d2 r.2 := hv2
      subst hvs hvs2
      go_upto_region 4 with (fail)
      obtain ⟨wd, hwd⟩ : ∃ wd, wd = wr.drew := ⟨_, rfl⟩
      have KD := Lib.hid (show Bel w0 wd by rw [hwd]; exact hS.out.drew)
      have HWD := Lib.hid hwd
      clear hwd hS
      have a0 := KD.out.some (hce 0 _ rfl)
      have b0 := KD.out.some (hce2 0 _ rfl)
      rw [Nat.add_zero] at a0 b0
      refine rg_tail 10 (by kernel_rfl) (by kernel_rfl) HWD.out ?_
      (simp only [List.take_succ_cons, List.take_zero, List.drop_succ_cons, List.drop_zero]); (repeat (first | ((with_reducible refine wpStill_step (fun K hK => ?_)); go_simp; (with_reducible refine hK _ ?_); clear hK K) | ((with_reducible refine rg_skip ?_ ?_); (with_unfolding_all rfl); (simp only [Act.put, List.setIfInBounds_toArray, List.set_cons_zero, List.set_cons_succ])))); (with_reducible refine wpStill_nil ?_)
      go_upto_region 7 with (go_at_call 32; (with_reducible refine (CN.out _ _).mono ?_); rintro e w1 ⟨rfl, k1⟩; have K1 := Lib.hid (Bel.of KD.out k1); clear k1)
      obtain ⟨we, hwe⟩ : ∃ we, we = w1.drew := ⟨_, rfl⟩
      have KE := Lib.hid (show Bel w0 we by rw [hwe]; exact K1.out.drew)
      have HWE := Lib.hid hwe
      clear hwe K1 a0 b0 HWD KD
      have HC1 := Lib.hid (fun i v (hi : d1.cells[i]? = some v) => (by have := KE.out.some (hce (1 + i) v (by rw [Nat.add_comm, List.getElem?_cons_succ]; exact hi)); rw [← Nat.add_assoc] at this; exact this : we.cell? ⟨b, off + k * 8 + 1 + i, none⟩ = some v))
      have HC2 := Lib.hid (fun i v (hi : d2.cells[i]? = some v) => (by have := KE.out.some (hce2 (1 + i) v (by rw [Nat.add_comm, List.getElem?_cons_succ]; exact hi)); rw [← Nat.add_assoc] at this; exact this : we.cell? ⟨b2, off2 + k * 8 + 1 + i, none⟩ = some v))
      clear hce hce2 hab hab2
      have CS := Lib.hid (show Calls Tryd.prog 21 #[.agg d1.cells.toArray, .agg d2.cells.toArray] we _ from CR.out r.2 d1 d2 we (hv.bel KE.out) (hv2.bel KE.out))
      clear CR hv hv2
      refine rg_tail 10 (by kernel_rfl) (by kernel_rfl) HWE.out ?_
      simp only [List.take_succ_cons, List.take_zero, List.drop_succ_cons, List.drop_zero]
      repeat (first
        | (refine still_load_at rfl 28 _ rfl b (off + k * 8 + 1) 7 d1.cells rfl HC1.out vg_V vz_V rfl ?_; simp only [Act.put, List.setIfInBounds_toArray, List.set_cons_zero, List.set_cons_succ])
        | (refine still_load_at rfl 28 _ rfl b2 (off2 + k * 8 + 1) 7 d2.cells rfl HC2.out vg_V vz_V rfl ?_; simp only [Act.put, List.setIfInBounds_toArray, List.set_cons_zero, List.set_cons_succ])
        | ((with_reducible refine wpStill_step (fun K hK => ?_)); go_simp; (with_reducible refine hK _ ?_); clear hK K))
      with_reducible refine wpStill_nil ?_
      go_wp2_with (go_at_call 21; (with_reducible refine CS.out.mono ?_); rintro e w2 ⟨rfl, k2⟩; have K2 := Lib.hid (Bel.of KE.out k2); clear k2)
      go_roundw
      case rel => exact ⟨k + 1, by omega, by go_num, K2⟩
      case measure => simp [intOf]; omega
    · have hkl : k = l.length := by omega
      have hki : ¬ (k : Int) < (l.length : Int) := by omega
      clear EL EL2
      go_wp2_with (go_at_call 32; (with_reducible refine (CN.out _ _).mono ?_); rintro e w1 ⟨rfl, k1⟩; have K1 := Lib.hid (Bel.of hS.out k1); clear k1)
      go_ret
      exact ⟨rfl, K1.out⟩
end Go.Proofs.YtaaneecceiefoaaDoor

/- The reference's order (layer 16): pairs of equal maps, Cmp one level down. Printed by grpairs.py. -/
namespace Go.Proofs.YtaaneecceiefoaaDoor
open Go.RowKit Ma
set_option linter.unusedVariables false
set_option linter.unusedSimpArgs false
set_option maxHeartbeats 4000000 in
set_option maxRecDepth 100000 in
theorem rq_pairs (n : Nat) (IH : RCmpC n) (A1 A2 : Nat → Prop) (v1 v2 : Value) (l : List (CV × CV)) (w0 : World) (h1 : SlA A1 14 (VPair A1 n) w0 v1 l) (h2 : SlA A2 14 (VPair A2 n) w0 v2 l) : Calls Tryd.prog 34 #[v1, v2] w0 fun e w' => e = .returned (.int .i64 0) ∧ Bel w0 w' := by
  obtain ⟨p, c, rfl, hl, hcap, hel⟩ := h1
  obtain ⟨p2, c2, rfl, hl2, hcap2, hel2⟩ := h2
  have EL := Lib.hid hel
  have EL2 := Lib.hid hel2
  clear hel hcap hel2 hcap2
  have CN := Lib.hid (fun a W => rq_number a W)
  have CR := Lib.hid (fun cv d1 d2 W (h1 : ValC A1 n W d1 cv) (h2 : ValC A2 n W d2 cv) => IH A1 A2 d1 d2 cv W h1 h2)
  clear IH
  go_enter Tryd.func34, Tryd.ntmps34
  go_wp2
  go_loopw [5] (fun i wr => ∃ k : Nat, k ≤ l.length ∧ i = .int .i64 k ∧ Hid (Bel w0 wr)) (fun i _ => l.length - (intOf i).toNat)
  case atStart => exact ⟨0, by omega, rfl, Lib.hid (Bel.refl _)⟩
  case round => as_aux_lemma =>
    obtain ⟨k, hk, rfl, hS⟩ := hrel
    by_cases hlt : k < l.length
    · obtain ⟨b, off, vs, rfl, hbs, hab, hce, d1, f1, hvs, hv, hf⟩ := EL.out k _ (List.getElem?_eq_getElem hlt)
      obtain ⟨b2, off2, vs2, rfl, hbs2, hab2, hce2, d2, f2, hvs2, hv2, hf2⟩ := EL2.out k _ (List.getElem?_eq_getElem hlt)
      have hki : (k : Int) < (l.length : Int) := by omega
      clear EL EL2
      generalize l[k] = r at *
      have hv : ValC A1 n w0 d1 r.1 := hv
      have hv2 : ValC A2 n w0 d2 r.1 := hv2
      have hf : ValC A1 n w0 f1 r.2 := hf
      have hf2 : ValC A2 n w0 f2 r.2 := hf2
      subst hvs hvs2
      go_upto_region 4 with (fail)
      obtain ⟨wd, hwd⟩ : ∃ wd, wd = wr.drew := ⟨_, rfl⟩
      have KD := Lib.hid (show Bel w0 wd by rw [hwd]; exact hS.out.drew)
      have HWD := Lib.hid hwd
      clear hwd hS
      have HC1 := Lib.hid (fun i v (hi : d1.cells[i]? = some v) => (by have := KD.out.some (hce i v (by rw [List.getElem?_append_left (List.getElem?_eq_some_iff.1 hi).1]; exact hi)); exact this : wd.cell? ⟨b, off + k * 14 + i, none⟩ = some v))
      have HC2 := Lib.hid (fun i v (hi : d2.cells[i]? = some v) => (by have := KD.out.some (hce2 i v (by rw [List.getElem?_append_left (List.getElem?_eq_some_iff.1 hi).1]; exact hi)); exact this : wd.cell? ⟨b2, off2 + k * 14 + i, none⟩ = some v))
      have CS1 := Lib.hid (show Calls Tryd.prog 21 #[.agg d1.cells.toArray, .agg d2.cells.toArray] wd _ from CR.out r.1 d1 d2 wd (hv.bel KD.out) (hv2.bel KD.out))
      refine rg_tail 10 (by kernel_rfl) (by kernel_rfl) HWD.out ?_
      simp only [List.take_succ_cons, List.take_zero, List.drop_succ_cons, List.drop_zero]
      repeat (first
        | (refine still_load_at rfl 28 _ rfl b (off + k * 14) 7 d1.cells rfl HC1.out vg_V vz_V rfl ?_; simp only [Act.put, List.setIfInBounds_toArray, List.set_cons_zero, List.set_cons_succ])
        | (refine still_load_at rfl 28 _ rfl b2 (off2 + k * 14) 7 d2.cells rfl HC2.out vg_V vz_V rfl ?_; simp only [Act.put, List.setIfInBounds_toArray, List.set_cons_zero, List.set_cons_succ])
        | ((with_reducible refine wpStill_step (fun K hK => ?_)); go_simp; (with_reducible refine hK _ ?_); clear hK K))
      with_reducible refine wpStill_nil ?_
      go_upto_region 7 with (go_at_call 21; (with_reducible refine CS1.out.mono ?_); rintro e w1 ⟨rfl, k1⟩; have K1 := Lib.hid (Bel.of KD.out k1); clear k1)
      clear HC1 HC2 CS1
      obtain ⟨we, hwe⟩ : ∃ we, we = w1.drew := ⟨_, rfl⟩
      have KE := Lib.hid (show Bel w0 we by rw [hwe]; exact K1.out.drew)
      have HWE := Lib.hid hwe
      clear hwe K1 HWD KD
      have HC1 := Lib.hid (fun i v (hi : f1.cells[i]? = some v) => (by have := KE.out.some (hce (7 + i) v (by rw [List.getElem?_append_right (show d1.cells.length ≤ 7 + i from Nat.le_add_right 7 i), show 7 + i - d1.cells.length = i from Nat.add_sub_cancel_left 7 i]; exact hi)); rw [← Nat.add_assoc] at this; exact this : we.cell? ⟨b, off + k * 14 + 7 + i, none⟩ = some v))
      have HC2 := Lib.hid (fun i v (hi : f2.cells[i]? = some v) => (by have := KE.out.some (hce2 (7 + i) v (by rw [List.getElem?_append_right (show d2.cells.length ≤ 7 + i from Nat.le_add_right 7 i), show 7 + i - d2.cells.length = i from Nat.add_sub_cancel_left 7 i]; exact hi)); rw [← Nat.add_assoc] at this; exact this : we.cell? ⟨b2, off2 + k * 14 + 7 + i, none⟩ = some v))
      clear hce hce2 hab hab2
      have CS := Lib.hid (show Calls Tryd.prog 21 #[.agg f1.cells.toArray, .agg f2.cells.toArray] we _ from CR.out r.2 f1 f2 we (hf.bel KE.out) (hf2.bel KE.out))
      clear CR hv hv2 hf hf2
      refine rg_tail 10 (by kernel_rfl) (by kernel_rfl) HWE.out ?_
      simp only [List.take_succ_cons, List.take_zero, List.drop_succ_cons, List.drop_zero]
      repeat (first
        | (refine still_load_at rfl 28 _ rfl b (off + k * 14 + 7) 7 f1.cells rfl HC1.out vg_V vz_V rfl ?_; simp only [Act.put, List.setIfInBounds_toArray, List.set_cons_zero, List.set_cons_succ])
        | (refine still_load_at rfl 28 _ rfl b2 (off2 + k * 14 + 7) 7 f2.cells rfl HC2.out vg_V vz_V rfl ?_; simp only [Act.put, List.setIfInBounds_toArray, List.set_cons_zero, List.set_cons_succ])
        | ((with_reducible refine wpStill_step (fun K hK => ?_)); go_simp; (with_reducible refine hK _ ?_); clear hK K))
      with_reducible refine wpStill_nil ?_
      go_wp2_with (go_at_call 21; (with_reducible refine CS.out.mono ?_); rintro e w2 ⟨rfl, k2⟩; have K2 := Lib.hid (Bel.of KE.out k2); clear k2)
      go_roundw
      case rel => exact ⟨k + 1, by omega, by go_num, K2⟩
      case measure => simp [intOf]; omega
    · have hkl : k = l.length := by omega
      have hki : ¬ (k : Int) < (l.length : Int) := by omega
      clear EL EL2
      go_wp2_with (go_at_call 32; (with_reducible refine (CN.out _ _).mono ?_); rintro e w1 ⟨rfl, k1⟩; have K1 := Lib.hid (Bel.of hS.out k1); clear k1)
      go_ret
      exact ⟨rfl, K1.out⟩
end Go.Proofs.YtaaneecceiefoaaDoor

/- The reference's Cmp (layer 16) at equal values, and Equal. Printed by grcmp.py. -/
namespace Go.Proofs.YtaaneecceiefoaaDoor
open Go.RowKit Ma
set_option linter.unusedVariables false
set_option linter.unusedSimpArgs false
set_option maxHeartbeats 4000000 in
set_option maxRecDepth 100000 in
theorem rq_Cmp_step (n : Nat) (IH : RCmpC n) : RCmpC (n + 1) := by
  intro A1 A2 d1 d2 cv w0 h1 h2
  cases cv with
  | list l =>
    obtain ⟨ha, hl1⟩ := h1
    obtain ⟨hb, hl2⟩ := h2
    show Calls _ _ #[.agg #[.int .i64 d1.k, .int .u64 d1.b, .string (S d1.t), .slice d1.p1 d1.n1 d1.c1, .slice d1.p2 d1.n2 d1.c2, .slice d1.p3 d1.n3 d1.c3, .slice d1.p4 d1.n4 d1.c4], .agg #[.int .i64 d2.k, .int .u64 d2.b, .string (S d2.t), .slice d2.p1 d2.n1 d2.c1, .slice d2.p2 d2.n2 d2.c2, .slice d2.p3 d2.n3 d2.c3, .slice d2.p4 d2.n4 d2.c4]] _ _
    rw [ha, hb]
    have CL := Lib.hid (rq_lists n IH A1 A2 _ _ l ((w0.alloc (.cells #[.int .i64 11, .int .u64 d1.b, .string (S d1.t), .slice d1.p1 d1.n1 d1.c1, .slice d1.p2 d1.n2 d1.c2, .slice d1.p3 d1.n3 d1.c3, .slice d1.p4 d1.n4 d1.c4] 28)).alloc (.cells #[.int .i64 11, .int .u64 d2.b, .string (S d2.t), .slice d2.p1 d2.n1 d2.c1, .slice d2.p2 d2.n2 d2.c2, .slice d2.p3 d2.n3 d2.c3, .slice d2.p4 d2.n4 d2.c4] 28)) (hl1.kept (Keep.bel (((Bel.refl w0).alloc _).alloc _)) (fun _ _ ⟨d, e, h⟩ => ⟨d, e, h.bel (((Bel.refl w0).alloc _).alloc _)⟩)) (hl2.kept (Keep.bel (((Bel.refl w0).alloc _).alloc _)) (fun _ _ ⟨d, e, h⟩ => ⟨d, e, h.bel (((Bel.refl w0).alloc _).alloc _)⟩)))
    clear hl1 hl2 ha hb IH
    have hS0 := ((ST.start w0).addbox #[.int .i64 11, .int .u64 d1.b, .string (S d1.t), .slice d1.p1 d1.n1 d1.c1, .slice d1.p2 d1.n2 d1.c2, .slice d1.p3 d1.n3 d1.c3, .slice d1.p4 d1.n4 d1.c4] 28).addbox #[.int .i64 11, .int .u64 d2.b, .string (S d2.t), .slice d2.p1 d2.n1 d2.c1, .slice d2.p2 d2.n2 d2.c2, .slice d2.p3 d2.n3 d2.c3, .slice d2.p4 d2.n4 d2.c4] 28
    simp only [World.size_alloc] at hS0
    have H0 := Lib.hid hS0
    clear hS0
    go_enter Tryd.func21, Tryd.ntmps21
    go_wp2_with (first
    | (go_at_call 33; (with_reducible refine (CL.out).mono ?_); rintro e w1 ⟨rfl, k1⟩; have H1 := Lib.hid (H0.out.belw (show Bel _ w1 from k1)); clear k1))
    go_ret
    exact ⟨rfl, H1.out.bel⟩
  | map l =>
    obtain ⟨ha, hl1⟩ := h1
    obtain ⟨hb, hl2⟩ := h2
    show Calls _ _ #[.agg #[.int .i64 d1.k, .int .u64 d1.b, .string (S d1.t), .slice d1.p1 d1.n1 d1.c1, .slice d1.p2 d1.n2 d1.c2, .slice d1.p3 d1.n3 d1.c3, .slice d1.p4 d1.n4 d1.c4], .agg #[.int .i64 d2.k, .int .u64 d2.b, .string (S d2.t), .slice d2.p1 d2.n1 d2.c1, .slice d2.p2 d2.n2 d2.c2, .slice d2.p3 d2.n3 d2.c3, .slice d2.p4 d2.n4 d2.c4]] _ _
    rw [ha, hb]
    have CL := Lib.hid (rq_pairs n IH A1 A2 _ _ l ((w0.alloc (.cells #[.int .i64 12, .int .u64 d1.b, .string (S d1.t), .slice d1.p1 d1.n1 d1.c1, .slice d1.p2 d1.n2 d1.c2, .slice d1.p3 d1.n3 d1.c3, .slice d1.p4 d1.n4 d1.c4] 28)).alloc (.cells #[.int .i64 12, .int .u64 d2.b, .string (S d2.t), .slice d2.p1 d2.n1 d2.c1, .slice d2.p2 d2.n2 d2.c2, .slice d2.p3 d2.n3 d2.c3, .slice d2.p4 d2.n4 d2.c4] 28)) (hl1.kept (Keep.bel (((Bel.refl w0).alloc _).alloc _)) (fun _ _ ⟨d, f, e, h, g⟩ => ⟨d, f, e, h.bel (((Bel.refl w0).alloc _).alloc _), g.bel (((Bel.refl w0).alloc _).alloc _)⟩)) (hl2.kept (Keep.bel (((Bel.refl w0).alloc _).alloc _)) (fun _ _ ⟨d, f, e, h, g⟩ => ⟨d, f, e, h.bel (((Bel.refl w0).alloc _).alloc _), g.bel (((Bel.refl w0).alloc _).alloc _)⟩)))
    clear hl1 hl2 ha hb IH
    have hS0 := ((ST.start w0).addbox #[.int .i64 12, .int .u64 d1.b, .string (S d1.t), .slice d1.p1 d1.n1 d1.c1, .slice d1.p2 d1.n2 d1.c2, .slice d1.p3 d1.n3 d1.c3, .slice d1.p4 d1.n4 d1.c4] 28).addbox #[.int .i64 12, .int .u64 d2.b, .string (S d2.t), .slice d2.p1 d2.n1 d2.c1, .slice d2.p2 d2.n2 d2.c2, .slice d2.p3 d2.n3 d2.c3, .slice d2.p4 d2.n4 d2.c4] 28
    simp only [World.size_alloc] at hS0
    have H0 := Lib.hid hS0
    clear hS0
    go_enter Tryd.func21, Tryd.ntmps21
    go_wp2_with (first
    | (go_at_call 34; (with_reducible refine (CL.out).mono ?_); rintro e w1 ⟨rfl, k1⟩; have H1 := Lib.hid (H0.out.belw (show Bel _ w1 from k1)); clear k1))
    go_ret
    exact ⟨rfl, H1.out.bel⟩
  | msg l rw0 =>
    obtain ⟨ha, hl1, hr1⟩ := h1
    obtain ⟨hb, hl2, hr2⟩ := h2
    show Calls _ _ #[.agg #[.int .i64 d1.k, .int .u64 d1.b, .string (S d1.t), .slice d1.p1 d1.n1 d1.c1, .slice d1.p2 d1.n2 d1.c2, .slice d1.p3 d1.n3 d1.c3, .slice d1.p4 d1.n4 d1.c4], .agg #[.int .i64 d2.k, .int .u64 d2.b, .string (S d2.t), .slice d2.p1 d2.n1 d2.c1, .slice d2.p2 d2.n2 d2.c2, .slice d2.p3 d2.n3 d2.c3, .slice d2.p4 d2.n4 d2.c4]] _ _
    rw [ha, hb]
    have CL := Lib.hid (rq_slots n IH A1 A2 _ _ l ((w0.alloc (.cells #[.int .i64 10, .int .u64 d1.b, .string (S d1.t), .slice d1.p1 d1.n1 d1.c1, .slice d1.p2 d1.n2 d1.c2, .slice d1.p3 d1.n3 d1.c3, .slice d1.p4 d1.n4 d1.c4] 28)).alloc (.cells #[.int .i64 10, .int .u64 d2.b, .string (S d2.t), .slice d2.p1 d2.n1 d2.c1, .slice d2.p2 d2.n2 d2.c2, .slice d2.p3 d2.n3 d2.c3, .slice d2.p4 d2.n4 d2.c4] 28)) (hl1.kept (Keep.bel (((Bel.refl w0).alloc _).alloc _)) (fun _ _ ⟨d, e, h⟩ => ⟨d, e, h.bel (((Bel.refl w0).alloc _).alloc _)⟩)) (hl2.kept (Keep.bel (((Bel.refl w0).alloc _).alloc _)) (fun _ _ ⟨d, e, h⟩ => ⟨d, e, h.bel (((Bel.refl w0).alloc _).alloc _)⟩)))
    have CW := Lib.hid (fun W (k : Bel w0 W) => rq_raws A1 A2 _ _ rw0 W (hr1.kept (Keep.bel k) (fun _ _ h => h)) (hr2.kept (Keep.bel k) (fun _ _ h => h)))
    clear hl1 hl2 hr1 hr2 ha hb IH
    have hS0 := ((ST.start w0).addbox #[.int .i64 10, .int .u64 d1.b, .string (S d1.t), .slice d1.p1 d1.n1 d1.c1, .slice d1.p2 d1.n2 d1.c2, .slice d1.p3 d1.n3 d1.c3, .slice d1.p4 d1.n4 d1.c4] 28).addbox #[.int .i64 10, .int .u64 d2.b, .string (S d2.t), .slice d2.p1 d2.n1 d2.c1, .slice d2.p2 d2.n2 d2.c2, .slice d2.p3 d2.n3 d2.c3, .slice d2.p4 d2.n4 d2.c4] 28
    simp only [World.size_alloc] at hS0
    have H0 := Lib.hid hS0
    clear hS0
    go_enter Tryd.func21, Tryd.ntmps21
    go_wp2_with (first
    | (go_at_call 35; (with_reducible refine (CL.out).mono ?_); rintro e w1 ⟨rfl, k1⟩; have H1 := Lib.hid (H0.out.belw (show Bel _ w1 from k1)); clear k1; have x6 := H1.out.cell 1 rfl 6; have y6 := H1.out.cell 0 rfl 6; dsimp only at x6 y6)
    | (go_at_call 36; (with_reducible refine (CW.out _ H1.out.bel).mono ?_); rintro e w2 ⟨rfl, k2⟩; have H2 := Lib.hid (H1.out.belw (show Bel _ w2 from k2)); clear k2))
    go_ret
    exact ⟨rfl, H2.out.bel⟩
  | scalar k b t =>
    obtain ⟨ha, g10, g11, g12, hb, h0, h1, ht⟩ := h1
    obtain ⟨ha2, _, _, _, hb2, _, _, ht2⟩ := h2
    have hk : d2.k = d1.k := by rw [ha, ha2]
    have CS := Lib.hid (fun W => (by have := rq_Cmp4 d1 d2 hk (by rw [hb, hb2]) (by rw [ht, ht2]) h0 h1 W; simp only [VC.cells, hk] at this; exact this : Calls Tryd.prog 37 #[.agg #[.int .i64 d1.k, .int .u64 d1.b, .string (S d1.t), .slice d1.p1 d1.n1 d1.c1, .slice d1.p2 d1.n2 d1.c2, .slice d1.p3 d1.n3 d1.c3, .slice d1.p4 d1.n4 d1.c4], .agg #[.int .i64 d1.k, .int .u64 d2.b, .string (S d2.t), .slice d2.p1 d2.n1 d2.c1, .slice d2.p2 d2.n2 d2.c2, .slice d2.p3 d2.n3 d2.c3, .slice d2.p4 d2.n4 d2.c4]] W _))
    show Calls _ _ #[.agg #[.int .i64 d1.k, .int .u64 d1.b, .string (S d1.t), .slice d1.p1 d1.n1 d1.c1, .slice d1.p2 d1.n2 d1.c2, .slice d1.p3 d1.n3 d1.c3, .slice d1.p4 d1.n4 d1.c4], .agg #[.int .i64 d2.k, .int .u64 d2.b, .string (S d2.t), .slice d2.p1 d2.n1 d2.c1, .slice d2.p2 d2.n2 d2.c2, .slice d2.p3 d2.n3 d2.c3, .slice d2.p4 d2.n4 d2.c4]] _ _
    rw [hk]
    have e10 : (d1.k == 10) = false := beq_eq_false_iff_ne.2 (ha ▸ g10)
    have e11 : (d1.k == 11) = false := beq_eq_false_iff_ne.2 (ha ▸ g11)
    have e12 : (d1.k == 12) = false := beq_eq_false_iff_ne.2 (ha ▸ g12)
    have enn : (d1.k != d1.k) = false := by simp
    clear ha g10 g11 g12 hb h0 h1 ht ha2 hb2 ht2 hk IH
    have hS0 := ((ST.start w0).addbox #[.int .i64 d1.k, .int .u64 d1.b, .string (S d1.t), .slice d1.p1 d1.n1 d1.c1, .slice d1.p2 d1.n2 d1.c2, .slice d1.p3 d1.n3 d1.c3, .slice d1.p4 d1.n4 d1.c4] 28).addbox #[.int .i64 d1.k, .int .u64 d2.b, .string (S d2.t), .slice d2.p1 d2.n1 d2.c1, .slice d2.p2 d2.n2 d2.c2, .slice d2.p3 d2.n3 d2.c3, .slice d2.p4 d2.n4 d2.c4] 28
    simp only [World.size_alloc] at hS0
    have H0 := Lib.hid hS0
    clear hS0
    go_enter Tryd.func21, Tryd.ntmps21
    go_wp2_with (first
    | (go_at_call 37; (with_reducible refine (CS.out _).mono ?_); rintro e w1 ⟨rfl, k1⟩; have H1 := Lib.hid (H0.out.belw (show Bel _ w1 from k1)); clear k1))
    go_ret
    exact ⟨rfl, H1.out.bel⟩
theorem rq_Cmp : ∀ n : Nat, RCmpC n
  | 0 => fun _ _ _ _ _ _ h => h.elim
  | n + 1 => rq_Cmp_step n (rq_Cmp n)
end Go.Proofs.YtaaneecceiefoaaDoor

/- The reference's Equal (layer 16) at equal values. -/
namespace Go.Proofs.YtaaneecceiefoaaDoor
open Go.RowKit Ma
set_option linter.unusedVariables false
set_option linter.unusedSimpArgs false
set_option maxHeartbeats 4000000 in
set_option maxRecDepth 100000 in
theorem rq_Equal (n : Nat) (A1 A2 : Nat → Prop) (d1 d2 : VC) (cv : CV) (w0 : World) (h1 : ValC A1 n w0 d1 cv) (h2 : ValC A2 n w0 d2 cv) : Calls Tryd.prog 6 #[.agg d1.cells.toArray, .agg d2.cells.toArray] w0 fun e w' => e = .returned (.bool true) ∧ Bel w0 w' := by
  show Calls _ _ #[.agg #[.int .i64 d1.k, .int .u64 d1.b, .string (S d1.t), .slice d1.p1 d1.n1 d1.c1, .slice d1.p2 d1.n2 d1.c2, .slice d1.p3 d1.n3 d1.c3, .slice d1.p4 d1.n4 d1.c4], .agg #[.int .i64 d2.k, .int .u64 d2.b, .string (S d2.t), .slice d2.p1 d2.n1 d2.c1, .slice d2.p2 d2.n2 d2.c2, .slice d2.p3 d2.n3 d2.c3, .slice d2.p4 d2.n4 d2.c4]] _ _
  have hS0 := ((ST.start w0).addbox #[.int .i64 d1.k, .int .u64 d1.b, .string (S d1.t), .slice d1.p1 d1.n1 d1.c1, .slice d1.p2 d1.n2 d1.c2, .slice d1.p3 d1.n3 d1.c3, .slice d1.p4 d1.n4 d1.c4] 28).addbox #[.int .i64 d2.k, .int .u64 d2.b, .string (S d2.t), .slice d2.p1 d2.n1 d2.c1, .slice d2.p2 d2.n2 d2.c2, .slice d2.p3 d2.n3 d2.c3, .slice d2.p4 d2.n4 d2.c4] 28
  simp only [World.size_alloc] at hS0
  have H0 := Lib.hid hS0
  have CS := Lib.hid (show Calls Tryd.prog 21 #[.agg #[.int .i64 d1.k, .int .u64 d1.b, .string (S d1.t), .slice d1.p1 d1.n1 d1.c1, .slice d1.p2 d1.n2 d1.c2, .slice d1.p3 d1.n3 d1.c3, .slice d1.p4 d1.n4 d1.c4], .agg #[.int .i64 d2.k, .int .u64 d2.b, .string (S d2.t), .slice d2.p1 d2.n1 d2.c1, .slice d2.p2 d2.n2 d2.c2, .slice d2.p3 d2.n3 d2.c3, .slice d2.p4 d2.n4 d2.c4]] _ _ from rq_Cmp n A1 A2 d1 d2 cv _ (h1.bel hS0.bel) (h2.bel hS0.bel))
  clear hS0 h1 h2
  go_enter Tryd.func6, Tryd.ntmps6
  go_wp2_with (go_at_call 21; (with_reducible refine (CS.out).mono ?_); rintro e w1 ⟨rfl, k1⟩; have H1 := Lib.hid (H0.out.belw (show Bel _ w1 from k1)); clear k1)
  go_ret
  exact ⟨rfl, H1.out.bel⟩
end Go.Proofs.YtaaneecceiefoaaDoor
