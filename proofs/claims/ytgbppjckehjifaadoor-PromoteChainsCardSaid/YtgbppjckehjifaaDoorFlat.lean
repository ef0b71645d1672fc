/- A variable whose type is built of arrays and structs of integers holds, cell for cell, the integers of the datum that it reads as. -/
import Derived.Test.YtgbppjckehjifaaDoorRows
import Derived.LaidLaws
import Derived.OpenShut
namespace Go.Proofs.YtgbppjckehjifaaDoor
open Go.RowKit

mutual
def flat {H : Type} : DataW H → List Value
  | .lit (.int k z) => [.int k z]
  | .agg ps => flatAll ps
  | _ => []
def flatAll {H : Type} : List (DataW H) → List Value
  | [] => []
  | d :: ds => flat d ++ flatAll ds
end
/-- fields one behind the other, from an offset on -/
def inRow (P : Program) : Nat → List Field → Bool
  | _, [] => true
  | o, f :: fs => f.offset == o && inRow P (o + P.cellsOf f.type) fs
def rowLen (P : Program) : List Field → Nat
  | [] => 0
  | f :: fs => P.cellsOf f.type + rowLen P fs
/-- a type built of arrays and structs of integers -/
def plainT (P : Program) : Nat → TypeId → Bool
  | 0, _ => false
  | m + 1, t => match P.underlying t with
    | some (.int _) => P.cellsOf t == 1
    | some (.array n e) => plainT P m e && P.cellsOf t == n * P.cellsOf e
    | some (.struct fs) => inRow P 0 fs.toList && fs.toList.all (fun f => plainT P m f.type) && P.cellsOf t == rowLen P fs.toList
    | _ => false

theorem chunks {H : Type} (c : Nat) : ∀ (n : Nat) (cs : List Value) (xs : List (DataW H × List MemPlace)), cs.length = n * c → xs.length = n → (∀ i, i < n → ∃ y, xs[i]? = some y ∧ (cs.drop (i * c)).take c = flat y.1) → cs = flatAll (xs.map (·.1)) := by
  intro n
  induction n with
  | zero =>
    intro cs xs hc hx _
    have : cs = [] := List.eq_nil_of_length_eq_zero (by omega)
    have h2 : xs = [] := List.eq_nil_of_length_eq_zero hx
    subst this h2; rfl
  | succ n ih =>
    intro cs xs hc hx h
    match xs, hx with
    | y :: ys, hx =>
      obtain ⟨y', hy, h0⟩ := h 0 (by omega)
      simp at hy
      subst hy
      have := ih (cs.drop c) ys (by simp [hc, Nat.succ_mul]) (by simpa using hx) (fun i hi => by
        obtain ⟨z, hz, h1⟩ := h (i + 1) (by omega)
        refine ⟨z, by simpa using hz, ?_⟩
        rw [← h1, List.drop_drop]
        congr 2; rw [Nat.succ_mul]; omega)
      show cs = flat y.1 ++ flatAll (ys.map (·.1))
      rw [← this, ← h0]
      simp
theorem fields_row {H : Type} (P : Program) (cs : List Value) : ∀ (fs : List Field) (o : Nat) (xs : List (DataW H × List MemPlace)), xs.length = fs.length → inRow P o fs = true →
    (∀ (i : Nat) (f : Field), fs[i]? = some f → ∃ y, xs[i]? = some y ∧ (cs.drop f.offset).take (P.cellsOf f.type) = flat y.1) → (cs.drop o).take (rowLen P fs) = flatAll (xs.map (·.1)) := by
  intro fs
  induction fs with
  | nil =>
    intro o xs hx _ _
    have h2 : xs = [] := List.eq_nil_of_length_eq_zero hx
    subst h2; simp [rowLen, flatAll]
  | cons f fs ih =>
    intro o xs hx hr h
    match xs, hx with
    | y :: ys, hx =>
      simp only [inRow, Bool.and_eq_true, beq_iff_eq] at hr
      obtain ⟨y', hy, h0⟩ := h 0 f rfl
      simp at hy
      subst hy
      have := ih (o + P.cellsOf f.type) ys (by simpa using hx) hr.2 (fun i g hg => by
        obtain ⟨z, hz, h1⟩ := h (i + 1) g (by simpa using hg)
        exact ⟨z, by simpa using hz, h1⟩)
      show (cs.drop o).take (P.cellsOf f.type + rowLen P fs) = flat y.1 ++ flatAll (ys.map (·.1))
      rw [← this, ← h0, hr.1, List.take_add, List.drop_drop]
theorem flat_of_trod {H : Type} {enc : TypeId × Value → H} {P : Program} {w : World} {base : Nat} {sp : Nat → Bool} {held : Bool} : ∀ (m : Nat) (t : TypeId) (cs : List Value) (x : DataW H × List MemPlace) (fuel : Nat),
    plainT P m t = true → DataW.trod enc P w base sp held fuel t cs = some x → cs = flat x.1 := by
  intro m
  induction m with
  | zero => intro t cs x fuel h; cases h
  | succ m ih =>
    intro t cs x fuel hp h
    unfold plainT at hp
    split at hp
    · rename_i k ht
      obtain ⟨n, rfl, rfl, _⟩ := DataW.trod_int ht h
      rfl
    · rename_i n e ht
      simp only [Bool.and_eq_true, beq_iff_eq] at hp
      obtain ⟨xs, m', rfl, rfl, hl, hn, hi⟩ := DataW.trod_array ht h
      refine chunks (P.cellsOf e) n cs xs (by rw [hl, hp.2]) hn (fun i hlt => ?_)
      have hx : xs[i]? = some (xs[i]'(by omega)) := List.getElem?_eq_getElem (by omega)
      have := hi i hlt
      rw [hx] at this
      exact ⟨_, hx, ih _ _ _ _ hp.1 this⟩
    · rename_i fs ht
      simp only [Bool.and_eq_true, beq_iff_eq] at hp
      obtain ⟨xs, m', rfl, rfl, hl, hn, hi⟩ := DataW.trod_struct ht h
      have := fields_row P cs fs.toList 0 xs (by simpa using hn) hp.1.1 (fun i f hf => by
        have hf' : fs[i]? = some f := by simpa using hf
        have hlt : i < xs.length := by rw [hn]; exact (Array.getElem?_eq_some_iff.1 hf').1
        have hx : xs[i]? = some (xs[i]'hlt) := List.getElem?_eq_getElem hlt
        have h1 := hi i f hf'
        rw [hx] at h1
        exact ⟨_, hx, ih _ _ _ _ (List.all_eq_true.1 hp.1.2 f (List.mem_of_getElem? hf)) h1⟩)
      rw [List.drop_zero, ← hp.2, ← hl, List.take_length] at this
      exact this
    · cases hp
end Go.Proofs.YtgbppjckehjifaaDoor
