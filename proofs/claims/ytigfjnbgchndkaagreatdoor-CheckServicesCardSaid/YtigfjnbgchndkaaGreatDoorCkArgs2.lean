/- The arguments of layer 12's laws as values: a message, an enum, a service. -/
import Derived.Test.YtigfjnbgchndkaaGreatDoorKitE
namespace Go.Proofs.YtigfjnbgchndkaaGreatDoor
open Go.ChangeShapes Go.WideShapes Go.RowKit Go.Deep Ck
set_option linter.unusedVariables false
section
variable {H : Type} {enc : TypeId × Value → H} {w : World} {base : Nat} {spare : Nat → Bool} {held : Bool}
set_option maxRecDepth 100000 in
theorem arg_Msg {r : Reach} {b0 : Nat} {v : Value} {d : DataW H} {p : List MemPlace} (hv : Value.okWide Tryz.prog w r b0 42 v) (h : DataW.Trod enc Tryz.prog w base spare held 42 v d p) (hw : (d.weights Tryz.prog 42).all (· ≤ reachBytes) = true) :
    ∃ (q1 q2 q3 q4 : Option Addr) (c1 c2 c3 c4 : Nat) (m : PMsg), v = .agg #[.string (S m.name), .slice q1 m.fields.length c1, .slice q2 m.res.length c2, .slice q3 m.gone.length c3, .slice q4 m.notes.length c4] ∧ VMsg w [.string (S m.name), .slice q1 m.fields.length c1, .slice q2 m.res.length c2, .slice q3 m.gone.length c3, .slice q4 m.notes.length c4] m ∧ ∀ f ∈ m.fields, f.un.length ≤ 1000000000000000 := by
  obtain ⟨cs, rfl, hsz⟩ := okWide_struct Tryz.underlying42 hv
  obtain ⟨fuel, hf⟩ := h
  obtain ⟨m, hs, hu⟩ := op_Msg fuel _ (d, p) hf hw
  have hs0 := hs
  obtain ⟨fv, rv, gv, nv, hc, h1, h2, h3, h4⟩ := hs
  obtain ⟨q1, c1, rfl⟩ := sv_slice h1
  obtain ⟨q2, c2, rfl⟩ := sv_slice h2
  obtain ⟨q3, c3, rfl⟩ := sv_slice h3
  obtain ⟨q4, c4, rfl⟩ := sv_slice h4
  have hcs : cs = #[.string (S m.name), .slice q1 m.fields.length c1, .slice q2 m.res.length c2, .slice q3 m.gone.length c3, .slice q4 m.notes.length c4] := by
    have : cs.toList = [.string (S m.name), .slice q1 m.fields.length c1, .slice q2 m.res.length c2, .slice q3 m.gone.length c3, .slice q4 m.notes.length c4] := hc
    rw [← Array.toArray_toList (xs := cs), this]
  subst hcs
  exact ⟨q1, q2, q3, q4, c1, c2, c3, c4, m, rfl, hs0, fun f hf => Nat.le_trans (hu f hf) (by decide)⟩
set_option maxRecDepth 100000 in
theorem arg_Enum {r : Reach} {b0 : Nat} {v : Value} {d : DataW H} {p : List MemPlace} (hv : Value.okWide Tryz.prog w r b0 48 v) (h : DataW.Trod enc Tryz.prog w base spare held 48 v d p) (hw : (d.weights Tryz.prog 48).all (· ≤ reachBytes) = true) :
    ∃ (q1 q2 q3 : Option Addr) (c1 c2 c3 : Nat) (e : PEnum), v = .agg #[.string (S e.name), .bool e.op, .slice q1 e.items.length c1, .slice q2 e.res.length c2, .slice q3 e.notes.length c3] ∧ VEnum w [.string (S e.name), .bool e.op, .slice q1 e.items.length c1, .slice q2 e.res.length c2, .slice q3 e.notes.length c3] e := by
  obtain ⟨cs, rfl, hsz⟩ := okWide_struct Tryz.underlying48 hv
  obtain ⟨fuel, hf⟩ := h
  obtain ⟨e, hs, _⟩ := op_Enum fuel _ (d, p) hf hw
  have hs0 := hs
  obtain ⟨iv, rv, nv, hc, h1, h2, h3⟩ := hs
  obtain ⟨q1, c1, rfl⟩ := sv_slice h1
  obtain ⟨q2, c2, rfl⟩ := sv_slice h2
  obtain ⟨q3, c3, rfl⟩ := sv_slice h3
  have hcs : cs = #[.string (S e.name), .bool e.op, .slice q1 e.items.length c1, .slice q2 e.res.length c2, .slice q3 e.notes.length c3] := by
    have : cs.toList = [.string (S e.name), .bool e.op, .slice q1 e.items.length c1, .slice q2 e.res.length c2, .slice q3 e.notes.length c3] := hc
    rw [← Array.toArray_toList (xs := cs), this]
  subst hcs
  exact ⟨q1, q2, q3, c1, c2, c3, e, rfl, hs0⟩
set_option maxRecDepth 100000 in
theorem arg_Svc {r : Reach} {b0 : Nat} {v : Value} {d : DataW H} {p : List MemPlace} (hv : Value.okWide Tryz.prog w r b0 53 v) (h : DataW.Trod enc Tryz.prog w base spare held 53 v d p) (hw : (d.weights Tryz.prog 53).all (· ≤ reachBytes) = true) :
    ∃ (q1 q2 : Option Addr) (c1 c2 : Nat) (x : PSvc), v = .agg #[.string (S x.name), .slice q1 x.meths.length c1, .slice q2 x.notes.length c2] ∧ VSvc w [.string (S x.name), .slice q1 x.meths.length c1, .slice q2 x.notes.length c2] x := by
  obtain ⟨cs, rfl, hsz⟩ := okWide_struct Tryz.underlying53 hv
  obtain ⟨fuel, hf⟩ := h
  obtain ⟨x, hs, _⟩ := op_Svc fuel _ (d, p) hf hw
  have hs0 := hs
  obtain ⟨mv, nv, hc, h1, h2⟩ := hs
  obtain ⟨q1, c1, rfl⟩ := sv_slice h1
  obtain ⟨q2, c2, rfl⟩ := sv_slice h2
  have hcs : cs = #[.string (S x.name), .slice q1 x.meths.length c1, .slice q2 x.notes.length c2] := by
    have : cs.toList = [.string (S x.name), .slice q1 x.meths.length c1, .slice q2 x.notes.length c2] := hc
    rw [← Array.toArray_toList (xs := cs), this]
  subst hcs
  exact ⟨q1, q2, c1, c2, x, rfl, hs0⟩
end
end Go.Proofs.YtigfjnbgchndkaaGreatDoor
