/- Layer 19 walked: finding an element of a mask. -/
import Derived.Test.YtaaneecceiefoaaDoorKitN
import Derived.Test.YtaaneecceiefoaaDoorKitM
namespace Go.Proofs.YtaaneecceiefoaaDoor
open Go.RowKit Ma
set_option linter.unusedVariables false
set_option linter.unusedSimpArgs false
set_option maxHeartbeats 4000000 in
set_option maxRecDepth 100000 in
theorem mk_num (k : Int) (v : Value) (w : World) (q : Option Addr) (m c : Nat) (hv : v = .slice q m c) : Calls Tryd.prog 23 #[.agg #[.int .i64 k, v]] w fun e w' => e = .returned (.int .i64 k) ∧ Bel w w' := by
  subst hv
  go_enter Tryd.func23, Tryd.ntmps23
  go_wp2
  go_ret
  exact ⟨rfl, (Bel.refl w).alloc _⟩
set_option maxHeartbeats 4000000 in
set_option maxRecDepth 100000 in
theorem mk_whole (k : Int) (q : Option Addr) (m c : Nat) (w : World) : Calls Tryd.prog 24 #[.agg #[.int .i64 k, .slice q m c]] w fun e w' => e = .returned (.bool (decide (m = 0))) ∧ Bel w w' := by
  go_enter Tryd.func24, Tryd.ntmps24
  go_wp2
  go_ret
  refine ⟨ret_bool ?_, (Bel.refl w).alloc _⟩
  rw [Bool.eq_iff_iff]; simp
def FoundM (A : Nat → Prop) (n : Nat) (w : World) (z : Option PMask) (e : Ending) (w' : World) : Prop := ∃ (y : PMask) (p : Option Addr) (c : Nat), (z = some y ∨ z = none ∧ y = .mk 0 []) ∧ e = .returned (.tuple #[.agg #[.int .i64 y.num, .slice p y.subs.length c], .bool z.isSome]) ∧ MaskD A n w' (.slice p y.subs.length c) y.subs ∧ Bel w w'
set_option maxHeartbeats 4000000 in
set_option maxRecDepth 100000 in
theorem mk_find (A : Nat → Prop) (n : Nat) (v : Value) (l : List PMask) (q : Int) (w0 : World) (h : MaskD A (n + 1) w0 v l) : Calls Tryd.prog 22 #[v, .int .i64 q, .func (.func 23) #[] #[]] w0 (FoundM A n w0 (find l q)) := by
  obtain ⟨p, c, rfl, hl, hcap, hel⟩ := h
  have EL := Lib.hid hel
  have V := Lib.hid (show find (l.drop 0) q = find l q from rfl)
  generalize find l q = Z at V
  have CN := Lib.hid (fun k v W a m c hv => mk_num k v W a m c hv)
  have hS0 := Lib.hid ((ST.start w0).addbox #[.int .i64 0, .slice none 0 0] 42)
  clear hel hcap
  go_enter Tryd.func22, Tryd.ntmps22
  go_wp2
  go_loopw [13] (fun i wr => ∃ k : Nat, k ≤ l.length ∧ i = .int .i64 k ∧ Hid (ST w0 [] [⟨w0.heap.size, #[.int .i64 0, .slice none 0 0], 42⟩] wr) ∧ Hid (find (l.drop k) q = Z)) (fun i _ => l.length - (intOf i).toNat)
  case atStart => exact ⟨0, by omega, rfl, hS0, V⟩
  case round => as_aux_lemma =>
    clear hS0 V
    obtain ⟨k, hk, rfl, hS, hx⟩ := hrel
    by_cases hlt : k < l.length
    · obtain ⟨b, off, sv, rfl, hbs, hab, hc0, hc1, hd⟩ := EL.out k _ (List.getElem?_eq_getElem hlt)
      obtain ⟨sp, sc, rfl⟩ := hd.form
      have hki : (k : Int) < (l.length : Int) := by omega
      have e0 := hS.out.bel.some hc0
      have e1 := hS.out.bel.some hc1
      clear hc0 hc1 hab
      have f0 := hS.out.cell 0 rfl 0
      have f1 := hS.out.cell 0 rfl 1
      have z0 := hS.out.frz 0 rfl 0
      have z1 := hS.out.frz 0 rfl 1
      have zl := (hS.out.boxlt 0 rfl).2
      dsimp only at f0 f1 z0 z1 zl
      have hst := hx.out
      rw [find_at hlt] at hst
      clear hx
      generalize l[k] = x at *
      have HA := Lib.hid (hS.out.addbox #[.int .i64 x.num, .slice sp x.subs.length sc] 42)
      by_cases he : x.num = q
      · have hb : (x.num == q) = true := ieq he
        rw [if_pos he] at hst
        have HST := Lib.hid hst
        clear hst he
        go_wp2
        have HB := Lib.hid (show ST w0 [] [⟨w0.heap.size, #[.int .i64 x.num, .slice sp x.subs.length sc], 42⟩] _ from ((hS.out.setbox 0 rfl 0 (.int .i64 x.num)).setbox 0 rfl 1 (.slice sp x.subs.length sc)).belw (((Bel.refl _).alloc (.cells #[.int .i64 x.num, .slice sp x.subs.length sc] 42)).alloc (.cells #[.int .i64 x.num, .slice sp x.subs.length sc] 42)))
        refine bodyPost_ret (v := .tuple #[.agg #[.int .i64 x.num, .slice sp x.subs.length sc], .bool true]) ?hres1 rfl ?hpost1
        case hres1 => exact res_row rfl rfl rfl (HB.out.box 0 rfl) Tryd.underlying42 rfl (by kernel_rfl)
        case hpost1 => exact ⟨x, sp, sc, .inl HST.out.symm, by rw [← HST.out]; rfl, hd.bel HB.out.bel, HB.out.bel⟩
      · have hb : (x.num == q) = false := ine he
        rw [if_neg he] at hst
        have HST := Lib.hid hst
        clear hst he
        go_wp2
        go_roundw
        case rel => exact ⟨k + 1, by omega, by go_num, Lib.hid (HA.out.dropbox0.belw ((Bel.refl _).alloc _)), HST⟩
        case measure => simp [intOf]; omega
    · have hkl : k = l.length := by omega
      have hz : none = Z := by have := hx.out; rw [hkl, List.drop_length] at this; exact this
      subst hz
      have f0 := hS.out.cell 0 rfl 0
      have f1 := hS.out.cell 0 rfl 1
      have z0 := hS.out.frz 0 rfl 0
      have z1 := hS.out.frz 0 rfl 1
      have zl := (hS.out.boxlt 0 rfl).2
      dsimp only at f0 f1 z0 z1 zl
      clear hx
      go_wp2
      have HB := Lib.hid (show ST w0 [] [⟨w0.heap.size, #[.int .i64 0, .slice none 0 0], 42⟩] _ from ((hS.out.setbox 0 rfl 0 (.int .i64 0)).setbox 0 rfl 1 (.slice none 0 0)).belw ((Bel.refl _).alloc (.cells #[.int .i64 0, .slice none 0 0] 42)))
      refine bodyPost_ret (v := .tuple #[.agg #[.int .i64 0, .slice none 0 0], .bool false]) ?hres2 rfl ?hpost2
      case hres2 => exact res_row rfl rfl rfl (HB.out.box 0 rfl) Tryd.underlying42 rfl (by kernel_rfl)
      case hpost2 => exact ⟨.mk 0 [], none, 0, .inr ⟨rfl, rfl⟩, rfl, MaskD.nil _ _, HB.out.bel⟩
theorem mk_find_some {A : Nat → Prop} {n : Nat} {v : Value} {l : List PMask} {q : Int} {x : PMask} (hz : find l q = some x) (w0 : World) (h : MaskD A (n + 1) w0 v l) : Calls Tryd.prog 22 #[v, .int .i64 q, .func (.func 23) #[] #[]] w0 fun e w' => ∃ p c, e = .returned (.tuple #[.agg #[.int .i64 x.num, .slice p x.subs.length c], .bool true]) ∧ MaskD A n w' (.slice p x.subs.length c) x.subs ∧ Bel w0 w' := by
  have := mk_find A n v l q w0 h
  rw [hz] at this
  refine this.mono fun e w' ⟨y, p, c, hy, he, hd, k⟩ => ?_
  rcases hy with hy | ⟨hy, _⟩
  · cases hy
    exact ⟨p, c, he, hd, k⟩
  · cases hy
theorem mk_find_none {A : Nat → Prop} {n : Nat} {v : Value} {l : List PMask} {q : Int} (hz : find l q = none) (w0 : World) (h : MaskD A (n + 1) w0 v l) : Calls Tryd.prog 22 #[v, .int .i64 q, .func (.func 23) #[] #[]] w0 fun e w' => ∃ p c, e = .returned (.tuple #[.agg #[.int .i64 0, .slice p 0 c], .bool false]) ∧ Bel w0 w' := by
  have := mk_find A n v l q w0 h
  rw [hz] at this
  refine this.mono fun e w' ⟨y, p, c, hy, he, hd, k⟩ => ?_
  rcases hy with hy | ⟨_, rfl⟩
  · cases hy
  · exact ⟨p, c, he, k⟩
theorem mk_whole_of {x : PMask} {B : Bool} (hB : whole x = B) (p : Option Addr) (c : Nat) (w : World) : Calls Tryd.prog 24 #[.agg #[.int .i64 x.num, .slice p x.subs.length c]] w fun e w' => e = .returned (.bool B) ∧ Bel w w' := by
  refine (mk_whole x.num p x.subs.length c w).mono fun e w' ⟨he, k⟩ => ⟨?_, k⟩
  rw [he]
  refine ret_bool ?_
  rw [← hB, Bool.eq_iff_iff, whole_iff]
  simp
theorem whole_no {x : PMask} (h : whole x = false) : x.subs ≠ [] := fun e => by
  have := whole_iff.2 e
  rw [h] at this
  cases this
end Go.Proofs.YtaaneecceiefoaaDoor
