/- Small words for the walks: endings, strings as lists of bytes, calls inside a region that draws its order. -/
import Derived.Test.YtefnihgjacnjfaaDoorRows
import Derived.WalkKit
import Derived.WalkSpells
import Derived.WalkLawsBesides
import Derived.Handy
import Derived.Lib.Hide
import Derived.Deep.QuietTactic
import Derived.BigQuiet
import Derived.Deep.Light
namespace Go.Proofs.YtefnihgjacnjfaaDoor
open Go.RowKit

theorem ret_int {k : IntKind} {a b : Int} (h : a = b) : Ending.returned (.int k a) = .returned (.int k b) := by rw [h]
theorem ret_bool {a b : Bool} (h : a = b) : Ending.returned (.bool a) = .returned (.bool b) := by rw [h]
theorem ret_str {a b : ByteArray} (h : a = b) : Ending.returned (.string a) = .returned (.string b) := by rw [h]
theorem len_l (s : ByteArray) : s.data.toList.length = s.size := Array.length_toList
theorem get_l (s : ByteArray) (i : Nat) (h : i < s.size) : s.data.toList[i]? = some s[i] := by
  have h' : i < s.data.size := h
  rw [Array.getElem?_toList, Array.getElem?_eq_getElem h']; rfl
theorem get_l_none (s : ByteArray) (i : Nat) (h : ¬ i < s.size) : s.data.toList[i]? = none := by
  have h' : s.data.size ≤ i := Nat.not_lt.1 h
  rw [Array.getElem?_toList, Array.getElem?_eq_none h']

/-- the string of a list of bytes -/
def S (l : List UInt8) : ByteArray := ⟨l.toArray⟩
theorem S_list (l : List UInt8) : (S l).data.toList = l := rfl
theorem S_of {s : ByteArray} {l : List UInt8} (h : s.data.toList = l) : s = S l := by
  subst h; rfl
theorem S_inj {a b : List UInt8} (h : S a = S b) : a = b := by
  have := congrArg (fun s : ByteArray => s.data.toList) h
  exact this
theorem cat_list (a b : ByteArray) : (a ++ b).data.toList = a.data.toList ++ b.data.toList := by simp [ByteArray.data_append]
theorem S_size (l : List UInt8) : (S l).size = l.length := rfl
theorem sub_list (s : ByteArray) (i j : Nat) : (s.extract i j).data.toList = (s.data.toList.drop i).take (j - i) := by
  simp [ByteArray.data_extract, List.take_drop]

theorem eq_yes (a b : ByteArray) (h : a.data.toList = b.data.toList) : (a.toList == b.toList) = true := by
  rw [ByteArray.toList_eq, ByteArray.toList_eq, h]; simp
theorem eq_no (a b : ByteArray) (h : a.data.toList ≠ b.data.toList) : (a.toList == b.toList) = false := by
  rw [ByteArray.toList_eq, ByteArray.toList_eq]; simpa using h
theorem neq_yes (a b : ByteArray) (h : a.data.toList = b.data.toList) : (!(a.toList == b.toList)) = false := by rw [eq_yes a b h]; rfl
theorem neq_no (a b : ByteArray) (h : a.data.toList ≠ b.data.toList) : (!(a.toList == b.toList)) = true := by rw [eq_no a b h]; rfl
theorem ieq {a b : Int} (h : a = b) : (a == b) = true := beq_iff_eq.2 h
theorem ine {a b : Int} (h : a ≠ b) : (a == b) = false := beq_eq_false_iff_ne.2 h
theorem bne_t {a b : Int} (h : a ≠ b) : (a != b) = true := bne_iff_ne.2 h
theorem bne_f {a b : Int} (h : a = b) : (a != b) = false := by subst h; simp

section
variable {P : Program} {f : FuncId} {args : Array Value} {w : World} {a n : Nat} {v : Value}
theorem q_same (h : Calls P f args (w.drewN n) fun e w' => e = .returned v ∧ w.drewN n = w') : Calls P f args (w.drewN n) fun e w'' => e = .returned v ∧ ∃ m, w'' = w.drewN m :=
  h.mono fun _ _ ⟨he, hm⟩ => ⟨he, n, hm.symm⟩
theorem q_drew (h : Calls P f args (w.drewN n) fun e w' => e = .returned v ∧ ∃ k, (w.drewN n).drewN k = w') : Calls P f args (w.drewN n) fun e w'' => e = .returned v ∧ ∃ m, w'' = w.drewN m :=
  h.mono fun _ _ ⟨he, k, hm⟩ => ⟨he, n + k, by rw [← hm, World.drewN_drewN]⟩
theorem q_same' (h : Calls P f args (w.drewN (a + n)) fun e w' => e = .returned v ∧ w.drewN (a + n) = w') : Calls P f args (w.drewN (a + n)) fun e w'' => e = .returned v ∧ ∃ m, w'' = w.drewN (a + m) :=
  h.mono fun _ _ ⟨he, hm⟩ => ⟨he, n, hm.symm⟩
theorem q_drew' (h : Calls P f args (w.drewN (a + n)) fun e w' => e = .returned v ∧ ∃ k, (w.drewN (a + n)).drewN k = w') : Calls P f args (w.drewN (a + n)) fun e w'' => e = .returned v ∧ ∃ m, w'' = w.drewN (a + m) :=
  h.mono fun _ _ ⟨he, k, hm⟩ => ⟨he, n + k, by rw [← hm, World.drewN_drewN, Nat.add_assoc]⟩
end
theorem conv_byte (W : World) (c : UInt8) : (convert 41 9 (.slice (some ⟨W.heap.size, 0, none⟩) 1 1)).run Tryd.prog (W.alloc (.cells #[.int .u8 (c.toNat : Int)] 5)) = .ok (.string (S [c])) (W.alloc (.cells #[.int .u8 (c.toNat : Int)] 5)) := by
  have h := run_convert_bytes_arg (P := Tryd.prog) (W.alloc (.cells #[.int .u8 (c.toNat : Int)] 5)) 41 5 Tryd.underlying41 Tryd.underlying5 W.heap.size 0 1 1 [(c.toNat : Int)] rfl (fun i hi => by
    obtain rfl : i = 0 := by omega
    simp) 9 Tryd.underlying9
  rw [h]
  congr 2
  simp [strOfNums, S]
theorem conv_byte_drewN (W : World) (nq : Nat) (c : UInt8) : (convert 41 9 (.slice (some ⟨W.heap.size, 0, none⟩) 1 1)).run Tryd.prog ((W.alloc (.cells #[.int .u8 (c.toNat : Int)] 5)).drewN nq) = .ok (.string (S [c])) ((W.alloc (.cells #[.int .u8 (c.toNat : Int)] 5)).drewN nq) := by
  have h := conv_byte (W.drewN nq) c
  exact h
theorem conv_byte_at (W : World) (nq : Nat) (c : UInt8) : (convert 41 9 (.slice (some ⟨W.heap.size, 0, none⟩) 1 1)).run Tryd.prog ((W.drewN nq).alloc (.cells #[.int .u8 (c.toNat : Int)] 5)) = .ok (.string (S [c])) ((W.drewN nq).alloc (.cells #[.int .u8 (c.toNat : Int)] 5)) :=
  conv_byte (W.drewN nq) c
theorem conv_byte_drew (W : World) (c : UInt8) (n : Int) (h : n = c.toNat) : (convert 41 9 (.slice (some ⟨W.heap.size, 0, none⟩) 1 1)).run Tryd.prog (W.alloc (.cells #[.int .u8 n] 5)).drew = .ok (.string (S [c])) (W.alloc (.cells #[.int .u8 n] 5)).drew := by
  subst h; exact conv_byte_drewN W 1 c
theorem below_drewN {B : Nat} {a w : World} (h : Below B a w) (n : Nat) : Below B a (w.drewN n) := ⟨h.os, h.tape, h.output, h.size, h.block⟩
end Go.Proofs.YtefnihgjacnjfaaDoor
