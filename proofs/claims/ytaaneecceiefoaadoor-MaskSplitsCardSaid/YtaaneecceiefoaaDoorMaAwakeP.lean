/- Layer 19's awake: the plain part (its schema, its mask, what is computed). -/
import Derived.Test.YtaaneecceiefoaaDoorMaTxt
import Derived.Test.YtaaneecceiefoaaDoorMaParse
import Derived.Test.YtaaneecceiefoaaDoorKitN
import Derived.Test.YtaaneecceiefoaaDoorMaKeep
import Derived.Test.YtaaneecceiefoaaDoorMaDrop
namespace Go.Proofs.YtaaneecceiefoaaDoor
open Go.RowKit Ck Ma
set_option linter.unusedVariables false
set_option linter.unusedSimpArgs false
namespace Ma
def fA1 : PField := ⟨1, [97], 2, 0, 2, [], [], false, ⟨0, 0, [], 0, 0, 0, 0⟩, []⟩
def fA2 : PField := ⟨2, [98], 2, 0, 10, [77], [], false, ⟨0, 0, [], 0, 0, 0, 0⟩, []⟩
def mA : PMsg := ⟨[77], [fA1, fA2], [], [], []⟩
def sA : PSchema := ⟨[mA], [], []⟩
def lA : List PMask := [.mk 1 [], .mk 2 [.mk 1 []]]
end Ma
set_option maxRecDepth 100000 in
theorem parse_A : parse (envOf Ma.sA) (namesOf Ma.sA) 7 [77] [98, 46, 97, 44, 97] = (0, Ma.lA) := by kernel_rfl
set_option maxRecDepth 100000 in
theorem text_A : text (envOf Ma.sA) (namesOf Ma.sA) 7 [77] Ma.lA = [97, 44, 98, 46, 97] := by kernel_rfl
set_option maxRecDepth 100000 in
theorem textN_A : textN (envOf Ma.sA) (namesOf Ma.sA) 7 [77] Ma.lA = [[[97]], [[98], [97]]] := by kernel_rfl
def vA : CV := .msg [(1, .scalar 2 0 [])] []
theorem keep_A : keep 2 vA Ma.lA = .msg [(1, .scalar 2 0 [])] [] := by kernel_rfl
theorem drop_A : drop 2 vA Ma.lA = .msg [] [] := by kernel_rfl
theorem wdV_A : WdV 1034834473170 2 vA := ⟨by decide, fun x hx => by
  have : x = (1, .scalar 2 0 []) := List.mem_singleton.1 hx
  subst this
  exact trivial⟩
def fC1 : Array Value := #[.int .i64 1, .string ⟨#[97]⟩, .int .i64 2, .int .i64 0, .int .i64 2, .string ⟨#[]⟩, .string ⟨#[]⟩, .bool false, .int .i64 0, .int .u64 0, .string ⟨#[]⟩, .slice none 0 0, .slice none 0 0, .slice none 0 0, .slice none 0 0, .slice none 0 0]
def fC2 : Array Value := #[.int .i64 2, .string ⟨#[98]⟩, .int .i64 2, .int .i64 0, .int .i64 10, .string ⟨#[77]⟩, .string ⟨#[]⟩, .bool false, .int .i64 0, .int .u64 0, .string ⟨#[]⟩, .slice none 0 0, .slice none 0 0, .slice none 0 0, .slice none 0 0, .slice none 0 0]
theorem vfield_A (W : World) (f : PField) (n nm tn : ByteArray) (z t : Int) (hf : f = ⟨z, nm.data.toList, 2, 0, t, tn.data.toList, [], false, ⟨0, 0, [], 0, 0, 0, 0⟩, []⟩) : VField W [.int .i64 z, .string nm, .int .i64 2, .int .i64 0, .int .i64 t, .string tn, .string ⟨#[]⟩, .bool false, .int .i64 0, .int .u64 0, .string ⟨#[]⟩, .slice none 0 0, .slice none 0 0, .slice none 0 0, .slice none 0 0, .slice none 0 0] f := by
  subst hf
  exact ⟨[.int .i64 0, .int .u64 0, .string ⟨#[]⟩, .slice none 0 0, .slice none 0 0, .slice none 0 0, .slice none 0 0], .slice none 0 0, rfl, ⟨none, none, none, none, 0, 0, 0, 0, rfl, Int.le_refl 0, (show (0 : Int) < 18446744073709551616 by decide), Nat.zero_le _, Nat.zero_le _, Nat.zero_le _, Nat.zero_le _⟩, Sl.nil _ _ _ _ _⟩
theorem vmsg_A {W : World} {b : Nat} {t : TypeId} (h : W.heap[b]? = some (.cells (fC1 ++ fC2) t (0, 0))) : VMsg W [.string (S [77]), .slice (some ⟨b, 0, none⟩) 2 2, .slice none 0 0, .slice none 0 0, .slice none 0 0] Ma.mA := by
  refine ⟨_, _, _, _, rfl, ⟨some ⟨b, 0, none⟩, 2, rfl, by decide, by decide, fun i x hx => ?_⟩, Sl.nil _ _ _ _ _, Sl.nil _ _ _ _ _, Sl.nil _ _ _ _ _⟩
  have hi : i = 0 ∨ i = 1 := by
    have := (List.getElem?_eq_some_iff.1 hx).1
    have h1 : Ma.mA.fields.length = 2 := rfl
    omega
  rcases hi with rfl | rfl
  · have hxe : Ma.fA1 = x := by
      have : Ma.mA.fields[0]? = some Ma.fA1 := rfl
      rw [this] at hx
      exact Option.some.inj hx
    subst hxe
    refine ⟨b, 0, rfl, (Array.getElem?_eq_some_iff.1 h).1, fC1.toList, fun j v hv => ?_, vfield_A W _ ⟨#[]⟩ ⟨#[97]⟩ ⟨#[]⟩ 1 2 rfl⟩
    have hj : j < 16 := (List.getElem?_eq_some_iff.1 hv).1
    rw [Lib.cell_of_heap h]
    simp only [Nat.zero_mul, Nat.zero_add]
    rw [Array.getElem?_append_left hj]
    simpa using hv
  · have hxe : Ma.fA2 = x := by
      have : Ma.mA.fields[1]? = some Ma.fA2 := rfl
      rw [this] at hx
      exact Option.some.inj hx
    subst hxe
    refine ⟨b, 0, rfl, (Array.getElem?_eq_some_iff.1 h).1, fC2.toList, fun j v hv => ?_, vfield_A W _ ⟨#[]⟩ ⟨#[98]⟩ ⟨#[77]⟩ 2 10 rfl⟩
    rw [Lib.cell_of_heap h, Nat.one_mul, Nat.zero_add, Array.getElem?_append_right (show fC1.size ≤ 16 + j from Nat.le_add_right 16 j), show 16 + j - fC1.size = j from Nat.add_sub_cancel_left 16 j]
    simpa using hv
theorem vschema_A {W : World} {b c : Nat} {t t2 : TypeId} (h : W.heap[b]? = some (.cells (fC1 ++ fC2) t (0, 0))) (h2 : W.heap[c]? = some (.cells #[.string (S [77]), .slice (some ⟨b, 0, none⟩) 2 2, .slice none 0 0, .slice none 0 0, .slice none 0 0] t2 (0, 0))) :
    VSchema W [.slice (some ⟨c, 0, none⟩) 1 1, .slice none 0 0, .slice none 0 0] Ma.sA := by
  refine ⟨_, _, _, rfl, ⟨some ⟨c, 0, none⟩, 1, rfl, by decide, by decide, fun i x hx => ?_⟩, Sl.nil _ _ _ _ _, Sl.nil _ _ _ _ _⟩
  have hi : i = 0 := by
    have := (List.getElem?_eq_some_iff.1 hx).1
    have h1 : Ma.sA.msgs.length = 1 := rfl
    omega
  subst hi
  have hxe : Ma.mA = x := by
    have : Ma.sA.msgs[0]? = some Ma.mA := rfl
    rw [this] at hx
    exact Option.some.inj hx
  subst hxe
  refine ⟨c, 0, rfl, (Array.getElem?_eq_some_iff.1 h2).1, _, fun j v hv => ?_, vmsg_A h⟩
  rw [Lib.cell_of_heap h2, Nat.zero_mul, Nat.zero_add]
  simpa using hv
/-- the calls of awake -/
theorem parse_call (p : Option Addr) (W : World) (hs : VSchema W [.slice p 1 1, .slice none 0 0, .slice none 0 0] Ma.sA) (hM : ML W) : Calls Tryd.prog 26 #[.agg #[.slice p 1 1, .slice none 0 0, .slice none 0 0], .string ⟨#[77]⟩, .string ⟨#[98, 46, 97, 44, 97]⟩] W fun e w' => ∃ q c, e = .returned (.tuple #[.slice q 2 c, .int .i64 0]) ∧ MaskD (fun b => b < w'.heap.size) 7 w' (.slice q 2 c) Ma.lA ∧ Bel W w' := by
  refine (mk_Parse _ _ _ Ma.sA [77] [98, 46, 97, 44, 97] W hs hM (by decide)).mono fun e w' h => ?_
  obtain ⟨v, rfl, hd, k⟩ := h
  have hp : parse (envOf Ma.sA) (namesOf Ma.sA) (([98, 46, 97, 44, 97] : List UInt8).length + 2) [77] [98, 46, 97, 44, 97] = (0, Ma.lA) := parse_A
  rw [hp] at hd ⊢
  obtain ⟨q, c, rfl⟩ := hd.form
  exact ⟨q, c, rfl, hd.weak (fun b _ hb => hb), k⟩
theorem text_call (p q : Option Addr) (c : Nat) (W : World) (A : Nat → Prop) (hs : VSchema W [.slice p 1 1, .slice none 0 0, .slice none 0 0] Ma.sA) (hm : MaskD A 7 W (.slice q 2 c) Ma.lA) : Calls Tryd.prog 27 #[.agg #[.slice p 1 1, .slice none 0 0, .slice none 0 0], .string ⟨#[77]⟩, .slice q 2 c] W fun e w' => e = .returned (.string ⟨#[97, 44, 98, 46, 97]⟩) ∧ Bel W w' := by
  refine (mk_Text 6 A _ _ _ Ma.sA [77] _ Ma.lA W hs hm (by rw [textN_A]; decide) (fun m hm f hf => ?_) (by decide) (by rw [textN_A]; decide)).mono fun e w' h => ?_
  · have : m = Ma.mA := List.mem_singleton.1 hm
    subst this
    have hf2 : f = Ma.fA1 ∨ f = Ma.fA2 := by
      rcases List.mem_cons.1 hf with h | h
      · exact .inl h
      · exact .inr (List.mem_singleton.1 h)
    rcases hf2 with rfl | rfl <;> decide
  · rw [text_A] at h
    exact h
theorem value_A {A : Nat → Prop} {W : World} {b : Nat} {t : TypeId} (hA : A b) (h : W.heap[b]? = some (.cells #[.int .i64 1, .int .i64 2, .int .u64 0, .string ⟨#[]⟩, .slice none 0 0, .slice none 0 0, .slice none 0 0, .slice none 0 0] t (0, 0))) : ValC A 2 W ⟨10, 0, [], none, 0, 0, none, 0, 0, some ⟨b, 0, none⟩, 1, 1, none, 0, 0⟩ vA := by
  refine ⟨rfl, ⟨some ⟨b, 0, none⟩, 1, rfl, by decide, by decide, fun i x hx => ?_⟩, SlA.nil _ _ _ _ _ _⟩
  have hi : i = 0 := by
    have := (List.getElem?_eq_some_iff.1 hx).1
    simpa using this
  subst hi
  have hxe : (1, CV.scalar 2 0 []) = x := by simpa using hx
  subst hxe
  refine ⟨b, 0, _, rfl, (Array.getElem?_eq_some_iff.1 h).1, hA, fun j v hv => ?_, ⟨2, 0, [], none, 0, 0, none, 0, 0, none, 0, 0, none, 0, 0⟩, rfl, rfl, by decide, by decide, by decide, rfl, by decide, by decide, rfl⟩
  rw [Lib.cell_of_heap h]
  simp only [Nat.zero_mul, Nat.zero_add]
  rw [List.getElem?_toArray]
  exact hv
theorem keep_call (q : Option Addr) (c b : Nat) (W : World) (t : TypeId) (hm : MaskD (fun b => b < W.heap.size) 7 W (.slice q 2 c) Ma.lA) (h : W.heap[b]? = some (.cells #[.int .i64 1, .int .i64 2, .int .u64 0, .string ⟨#[]⟩, .slice none 0 0, .slice none 0 0, .slice none 0 0, .slice none 0 0] t (0, 0))) : Calls Tryd.prog 7 #[.agg #[.int .i64 10, .int .u64 0, .string ⟨#[]⟩, .slice none 0 0, .slice none 0 0, .slice (some ⟨b, 0, none⟩) 1 1, .slice none 0 0], .slice q 2 c] W fun e w' => ∃ d : VC, e = .returned (.agg #[.int .i64 d.k, .int .u64 d.b, .string (S d.t), .slice d.p1 d.n1 d.c1, .slice d.p2 d.n2 d.c2, .slice d.p3 1 d.c3, .slice d.p4 d.n4 d.c4]) ∧ Bel W w' := by
  have hb := (Array.getElem?_eq_some_iff.1 h).1
  refine (mk_Keep 2 _ 7 _ vA _ Ma.lA W (fun b hb => hb) (value_A hb h) hm wdV_A).mono fun e w' h => ?_
  rw [keep_A] at h
  obtain ⟨d, rfl, hd, k⟩ := h
  obtain ⟨_, _, he, _⟩ := hd.2.1
  have hn : d.n3 = 1 := by
    injection he with _ h2 _
  refine ⟨d, ?_, k⟩
  rw [← hn]
  rfl
theorem drop_call (q : Option Addr) (c b : Nat) (W : World) (t : TypeId) (hm : MaskD (fun b => b < W.heap.size) 7 W (.slice q 2 c) Ma.lA) (h : W.heap[b]? = some (.cells #[.int .i64 1, .int .i64 2, .int .u64 0, .string ⟨#[]⟩, .slice none 0 0, .slice none 0 0, .slice none 0 0, .slice none 0 0] t (0, 0))) : Calls Tryd.prog 9 #[.agg #[.int .i64 10, .int .u64 0, .string ⟨#[]⟩, .slice none 0 0, .slice none 0 0, .slice (some ⟨b, 0, none⟩) 1 1, .slice none 0 0], .slice q 2 c] W fun e w' => ∃ d : VC, e = .returned (.agg #[.int .i64 d.k, .int .u64 d.b, .string (S d.t), .slice d.p1 d.n1 d.c1, .slice d.p2 d.n2 d.c2, .slice d.p3 0 d.c3, .slice d.p4 d.n4 d.c4]) ∧ Bel W w' := by
  have hb := (Array.getElem?_eq_some_iff.1 h).1
  refine (mk_Drop 2 _ 7 _ vA _ Ma.lA W (fun b hb => hb) (value_A hb h) hm wdV_A).mono fun e w' h => ?_
  rw [drop_A] at h
  obtain ⟨d, rfl, hd, k⟩ := h
  obtain ⟨_, _, he, _⟩ := hd.2.1
  have hn : d.n3 = 0 := by
    injection he with _ h2 _
  refine ⟨d, ?_, k⟩
  rw [← hn]
  rfl
end Go.Proofs.YtaaneecceiefoaaDoor
