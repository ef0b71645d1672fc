/- Rows of problems read as lists, and appended within a list of operations: for the law CheckParts. -/
import Derived.Test.YtigfjnbgchndkaaGreatDoorCkApp
import Derived.Test.YtigfjnbgchndkaaGreatDoorCkSame
import Derived.Test.YtigfjnbgchndkaaGreatDoorKitF
import Derived.Test.YtigfjnbgchndkaaGreatDoorKitL
namespace Go.Proofs.YtigfjnbgchndkaaGreatDoor
open Go.RowKit Ck
set_option linter.unusedVariables false
set_option linter.unusedSimpArgs false

theorem flat_get : ∀ (ps : List PProb) (i : Nat) (p : PProb), ps[i]? = some p → ∀ j u, (probC p)[j]? = some u → (ps.flatMap probC)[i * 3 + j]? = some u
 | [], i, p, h, _, _, _ => by simp at h
 | x :: r, i, p, h, j, u, hu => by
  have hl : ∀ y : PProb, (probC y).length = 3 := fun _ => rfl
  have hj : j < 3 := by have := (List.getElem?_eq_some_iff.1 hu).1; rwa [hl] at this
  rw [List.flatMap_cons]
  cases i with
  | zero =>
   simp at h
   subst h
   rw [Nat.zero_mul, Nat.zero_add, List.getElem?_append_left (by rw [hl]; exact hj)]
   exact hu
  | succ i =>
   rw [List.getElem?_append_right (by rw [hl]; omega), hl]
   rw [show (i + 1) * 3 + j - 3 = i * 3 + j by omega]
   exact flat_get r i p (by simpa using h) j u hu
theorem probs_drop {w : World} {B : Nat} {q : Option Addr} {n c : Nat} {ps : List PProb} (h : w.ownsRow B 31 3 (.slice q n c) ps.length (ps.flatMap probC)) (hl : ps.length ≤ 1000000000) :
  n = ps.length ∧ n ≤ c ∧ ∀ i p, ps[i]? = some p → ∃ g, q = some ⟨g, 0, none⟩ ∧ g < w.heap.size ∧ ∀ j u, (probC p)[j]? = some u → w.cell? ⟨g, i * 3 + j, none⟩ = some u := by
 have h0 := h
 rcases h.2 with ⟨hv, hx⟩ | ⟨g, cap, cur, hv, hBg, hg, hc, _⟩
 ·cases hv
  have hk := List.eq_nil_of_length_eq_zero hx
  subst hk
  exact ⟨rfl, by simp, fun i p hp => by simp at hp⟩
 ·cases hv
  refine ⟨rfl, hc, fun i p hp => ⟨g, rfl, (h0.lt g rfl).2, fun j u hu => ?_⟩⟩
  have := h0.cells (g := g) rfl (i * 3 + j) u (flat_get ps i p hp j u hu)
  rw [Addr.add_lit, Nat.zero_add] at this
  exact this
theorem probs_sv {w : World} {B : Nat} {q : Option Addr} {c : Nat} {T : List PProb} (h : w.ownsRow B 31 3 (.slice q T.length c) T.length (T.flatMap probC)) (hl : T.length ≤ 1000000000) : Sv 3 VProb w (.slice q T.length c) T := by
 obtain ⟨_, hc, hel⟩ := probs_drop h hl
 refine ⟨_, _, rfl, by omega, by omega, fun i x hx => ?_⟩
 obtain ⟨g, rfl, hg, hcl⟩ := hel _ _ hx
 exact ⟨g, 0, rfl, hg, probC x, fun j u hu => by rw [Nat.zero_add]; exact hcl j u hu, rfl⟩
/-! plain -/
end Go.Proofs.YtigfjnbgchndkaaGreatDoor
