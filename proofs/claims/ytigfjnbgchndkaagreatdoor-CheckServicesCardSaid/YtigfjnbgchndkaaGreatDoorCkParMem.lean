/- Rows of problems read as lists, and appended within a list of operations: for the law CheckParts. -/
import Derived.Test.YtigfjnbgchndkaaGreatDoorCkApp
import Derived.Test.YtigfjnbgchndkaaGreatDoorCkSame
import Derived.Test.YtigfjnbgchndkaaGreatDoorKitF
import Derived.Test.YtigfjnbgchndkaaGreatDoorKitL
namespace Go.Proofs.YtigfjnbgchndkaaGreatDoor
open Go.RowKit Ck
set_option linter.unusedVariables false
set_option linter.unusedSimpArgs false

theorem list_app {ops : Array Oper} {rest : List Oper} {o : Oper} {a : Act} {w : World} {Q : Exit → Act → World → Prop} (hgd : o.guard = none) (s x : Operand)
    (ho : o.op = .call { callee := .builtin .append, args := #[s, x], argTypes := #[35, 35] })
    (B C : Nat) (v v2 : Value) (n m : Nat) (xs news : List Value) (hs : a.eval s = v) (hx : a.eval x = v2) (hown : w.ownsRow B 31 3 v n xs) (hown2 : w.ownsRow C 31 3 v2 m news) (h1 : ∀ u ∈ news, u.oneCell' = true) (hnm : n + m ≤ 4000000000) (hB : B ≤ w.heap.size)
    (h : ∀ (q : Option Addr) (cap : Nat) (w' : World), w'.ownsRow B 31 3 (.slice q (n + m) cap) (n + m) (xs ++ news) → w.grownBy w' v.ownBlock → (∀ g, (Value.slice q (n + m) cap).ownBlock = some g → v.ownBlock = some g ∨ g = w.heap.size) → wpList Tryz.prog ops Q rest (a.put o.dst (.slice q (n + m) cap)) w') : wpList Tryz.prog ops Q (o :: rest) a w :=
  wpList_plain hgd fun K hK => by
    have h2 := step_app (ops := ops) (K := K) (Q := Q) (E := True) hgd s x ho B C v v2 n m xs news hs hx hown hown2 h1 hnm hB (fun q cap w' a1 a2 a3 => hK _ _ (h q cap w' a1 a2 a3))
    rwa [if_pos (by simp [Region.wanted, hgd])] at h2
/-- the cells of one problem among a row's -/
theorem flat_get : ∀ (ps : List PProb) (i : Nat) (p : PProb), ps[i]? = some p → ∀ j u, (probC p)[j]? = some u → (ps.flatMap probC)[i * 3 + j]? = some u
  | [], i, p, h, _, _, _ => by simp at h
  | x :: r, i, p, h, j, u, hu => by
    have hl : ∀ y : PProb, (probC y).length = 3 := fun _ => rfl
    have hj : j < 3 := by have := (List.getElem?_eq_some_iff.1 hu).1; rwa [hl] at this
    rw [List.flatMap_cons]
    cases i with
    | zero =>
      simp at h
      subst h
      rw [Nat.zero_mul, Nat.zero_add, List.getElem?_append_left (by rw [hl]; exact hj)]
      exact hu
    | succ i =>
      rw [List.getElem?_append_right (by rw [hl]; omega), hl]
      rw [show (i + 1) * 3 + j - 3 = i * 3 + j by omega]
      exact flat_get r i p (by simpa using h) j u hu
/-- a row of its own reads as a slice of problems, from a place on -/
theorem probs_drop {w : World} {B : Nat} {q : Option Addr} {n c : Nat} {ps : List PProb} (h : w.ownsRow B 31 3 (.slice q n c) ps.length (ps.flatMap probC)) (hl : ps.length ≤ 1000000000) :
    n = ps.length ∧ n ≤ c ∧ ∀ i p, ps[i]? = some p → ∃ g, q = some ⟨g, 0, none⟩ ∧ g < w.heap.size ∧ ∀ j u, (probC p)[j]? = some u → w.cell? ⟨g, i * 3 + j, none⟩ = some u := by
  have h0 := h
  rcases h.2 with ⟨hv, hx⟩ | ⟨g, cap, cur, hv, hBg, hg, hc, _⟩
  · cases hv
    have hk := List.eq_nil_of_length_eq_zero hx
    subst hk
    exact ⟨rfl, by simp, fun i p hp => by simp at hp⟩
  · cases hv
    refine ⟨rfl, hc, fun i p hp => ⟨g, rfl, (h0.lt g rfl).2, fun j u hu => ?_⟩⟩
    have := h0.cells (g := g) rfl (i * 3 + j) u (flat_get ps i p hp j u hu)
    rw [Addr.add_lit, Nat.zero_add] at this
    exact this
theorem addr_shift (g n : Nat) : (⟨g, 0, none⟩ : Addr).add n = ⟨g, n, none⟩ := by rw [Addr.add_lit, Nat.zero_add]
theorem probs_from {w : World} {B : Nat} {q : Option Addr} {c : Nat} {T H R : List PProb} (h : w.ownsRow B 31 3 (.slice q T.length c) T.length (T.flatMap probC)) (hl : T.length ≤ 1000000000) (hT : T = H ++ R) :
    Sv 3 VProb w (.slice (if c = H.length then q else q.map (fun x => x.add (H.length * 3))) (T.length - H.length) (c - H.length)) R := by
  obtain ⟨_, hc, hel⟩ := probs_drop h hl
  have hTl : T.length = H.length + R.length := by rw [hT, List.length_append]
  rw [show T.length - H.length = R.length by omega]
  refine ⟨_, _, rfl, by omega, by omega, fun i x hx => ?_⟩
  have hx' : T[H.length + i]? = some x := by rw [hT, List.getElem?_append_right (by omega), show H.length + i - H.length = i by omega]; exact hx
  have hi := (List.getElem?_eq_some_iff.1 hx).1
  obtain ⟨g, rfl, hg, hcl⟩ := hel _ _ hx'
  refine ⟨g, H.length * 3, ?_, hg, probC x, fun j u hu => ?_, rfl⟩
  · rw [if_neg (by omega), Option.map_some, addr_shift]
  · rw [show H.length * 3 + i * 3 + j = (H.length + i) * 3 + j by omega]
    exact hcl j u hu
theorem probs_sv {w : World} {B : Nat} {q : Option Addr} {c : Nat} {T : List PProb} (h : w.ownsRow B 31 3 (.slice q T.length c) T.length (T.flatMap probC)) (hl : T.length ≤ 1000000000) : Sv 3 VProb w (.slice q T.length c) T := by
  obtain ⟨_, hc, hel⟩ := probs_drop h hl
  refine ⟨_, _, rfl, by omega, by omega, fun i x hx => ?_⟩
  obtain ⟨g, rfl, hg, hcl⟩ := hel _ _ hx
  exact ⟨g, 0, rfl, hg, probC x, fun j u hu => by rw [Nat.zero_add]; exact hcl j u hu, rfl⟩
/-! plain -/
theorem parts_pos {H R : List PProb} : ((H ++ R).length : Int) - (R.length : Int) = (H.length : Int) := by
  rw [List.length_append]; omega
end Go.Proofs.YtigfjnbgchndkaaGreatDoor
