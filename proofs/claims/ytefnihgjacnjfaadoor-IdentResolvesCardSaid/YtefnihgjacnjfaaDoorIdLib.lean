/- The library's words and the plain functions of layer 6. -/
import Derived.Test.YtefnihgjacnjfaaDoorIdFacts
import Derived.Test.YtefnihgjacnjfaaDoorBase
import Derived.Lib.LastIndexByte
namespace Go.Proofs.YtefnihgjacnjfaaDoor
open Go.RowKit
set_option linter.unusedSimpArgs false

theorem data_get (s : ByteArray) (j : Nat) (h : j < s.size) : s.data[j]! = s.data.toList[j]'(by rw [len_l]; exact h) := by
  have h' : j < s.data.size := h
  rw [getElem!_pos s.data j h', Array.getElem_toList]
theorem last_dot (s : ByteArray) (l : List UInt8) (hl : s.data.toList = l) : Lib.lastIndexByte s 46 = Id.lastDot l := by
  subst hl
  have hsz := len_l s
  unfold Lib.lastIndexByte
  have hto : ∀ b : UInt8, ((b.toNat : Int) = 46) ↔ b = 46 := by
    intro b
    constructor
    · intro h
      apply UInt8.toNat_inj.1
      show b.toNat = 46
      omega
    · intro h; subst h; rfl
  rcases Lib.lastIdx_spec s 46 s.size with ⟨h1, h2⟩ | ⟨i, h1, h2, h3, h4⟩
  · rw [h1]
    refine ((Id.lastDot_none _).2 fun hm => ?_).symm
    obtain ⟨j, hj, he⟩ := List.mem_iff_getElem.1 hm
    have hj' : j < s.size := by omega
    have := h2 j hj'
    rw [data_get s j hj', he] at this
    exact this rfl
  · rw [h2]
    refine (Id.lastDot_at _ i ?_ fun j hj hc => ?_).symm
    · rw [data_get s i h1, hto] at h3
      rw [List.getElem?_eq_getElem (by omega), h3]
    · obtain ⟨hj2, he⟩ := List.getElem?_eq_some_iff.1 hc
      have hj' : j < s.size := by omega
      have := h4 j hj hj'
      rw [data_get s j hj', he] at this
      exact this rfl
/-! the loop of IsPart -/
theorem okB_pre (a b : List UInt8) (h : Id.okB (a ++ b) = true) : Id.okB a = true := by
  cases a with
  | nil => rfl
  | cons x a =>
    simp only [List.cons_append, Id.okB, List.all_append, Bool.and_eq_true] at h ⊢
    exact ⟨h.1, h.2.1⟩
theorem okB_snoc (l : List UInt8) (b : UInt8) : Id.okB (l ++ [b]) = (Id.okB l && if l = [] then Id.letB b else Id.nmB b) := by
  cases l with
  | nil => simp [Id.okB]
  | cons x a =>
    simp only [List.cons_append, Id.okB, List.all_append, List.all_cons, List.all_nil, Bool.and_true]
    rw [if_neg (by simp), Bool.and_assoc]
theorem take_one (l : List UInt8) (k : Nat) (b : UInt8) (h : l[k]? = some b) : l.take (k + 1) = l.take k ++ [b] := by
  obtain ⟨hk, rfl⟩ := List.getElem?_eq_some_iff.1 h
  exact List.take_succ_eq_append_getElem hk
theorem okB_take (l : List UInt8) (k : Nat) (b : UInt8) (h : l[k]? = some b) : Id.okB (l.take (k + 1)) = (Id.okB (l.take k) && if k = 0 then Id.letB b else Id.nmB b) := by
  rw [take_one l k b h, okB_snoc]
  congr 1
  have hk : k < l.length := (List.getElem?_eq_some_iff.1 h).1
  by_cases h0 : k = 0
  · subst h0; simp
  · rw [if_neg (fun e => h0 (by have := congrArg List.length e; simp only [List.length_take, List.length_nil] at this; omega)), if_neg h0]
theorem okB_bad (l : List UInt8) (k : Nat) (b : UInt8) (h : l[k]? = some b) (hb : (if k = 0 then Id.letB b else Id.nmB b) = false) : Id.isPart l = false := by
  have h1 := okB_take l k b h
  rw [hb, Bool.and_false] at h1
  cases he : Id.okB l
  · simp [Id.isPart, he]
  · rw [← List.take_append_drop (k + 1) l] at he
    rw [okB_pre _ _ he] at h1
    cases h1
theorem isPart_end (l : List UInt8) (h : Id.okB l = true) : Id.isPart l = (decide (1 ≤ l.length) && decide (l.length ≤ 40)) := by
  unfold Id.isPart
  rw [h, Bool.true_and, Bool.eq_iff_iff]
  simp
theorem nm_cls (b : UInt8) : Id.nmB b = decide (Id.cls b.toNat ≠ 0) := rfl
theorem let_cls (b : UInt8) : Id.letB b = decide (Id.cls b.toNat = 1 ∨ Id.cls b.toNat = 2) := by
  unfold Id.letB
  rw [Id.bcls]
  cases h1 : Id.smB b <;> cases h2 : Id.caB b <;> simp
  (repeat' split) <;> simp
theorem cls_high (c : Int) (h : 128 ≤ c) : Id.cls c = 0 := by
  unfold Id.cls
  (repeat' split) <;> omega
theorem nm_high (b : UInt8) (h : 128 ≤ b.toNat) (k : Nat) : (if k = 0 then Id.letB b else Id.nmB b) = false := by
  have := cls_high b.toNat (by omega)
  rw [let_cls, nm_cls, this]
  split <;> rfl
end Go.Proofs.YtefnihgjacnjfaaDoor
