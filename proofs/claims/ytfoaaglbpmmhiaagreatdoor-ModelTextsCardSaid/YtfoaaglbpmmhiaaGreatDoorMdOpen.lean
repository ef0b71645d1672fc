/- The arguments of layer 35's laws, opened: declarations. -/
import Derived.Test.YtfoaaglbpmmhiaaGreatDoorKitE
import Derived.Test.YtfoaaglbpmmhiaaGreatDoorKitS
namespace Go.Proofs.YtfoaaglbpmmhiaaGreatDoor
open Go.ChangeShapes Go.WideShapes Go.RowKit Go.Deep Ck Md
set_option linter.unusedVariables false
set_option linter.unusedSimpArgs false
theorem i64_bounds {x : Int} (h : (Lit.int .i64 x).wf = true) : -9223372036854775808 ≤ x ∧ x ≤ 9223372036854775807 := by
  simpa [Lit.wf, IntKind.min, IntKind.max, IntKind.signed, IntKind.bits] using h
section
variable {H : Type} {enc : TypeId × Value → H} {w : World} {base : Nat} {spare : Nat → Bool} {held : Bool}
def MemB (m : PMem) : Prop := m.name.length ≤ 140737488355328 ∧ m.ty.length ≤ 140737488355328 ∧ -9223372036854775808 ≤ m.num ∧ m.num ≤ 9223372036854775807
def DeclB (d : PDecl) : Prop := d.name.length ≤ 140737488355328 ∧ d.frm.length ≤ 140737488355328 ∧ d.mems.length ≤ 3518437208883 ∧ ∀ m ∈ d.mems, MemB m
theorem list4 {α : Type} {l : List α} (h : l.length = 4) : ∃ a0 a1 a2 a3, l = [a0, a1, a2, a3] := by
  match l, h with
  | [a0, a1, a2, a3], _ => exact ⟨a0, a1, a2, a3, rfl⟩
/-- a slice whose elements do not matter: its length, closely -/
theorem opens_lenB {t e : TypeId} (ht : Tryz.prog.underlying t = some (.slice e)) : Opens enc w base spare held t (fun cs => ∃ (p : Option Addr) (n c : Nat), cs = [.slice p n c] ∧ n * Tryz.prog.bytesOf e ≤ reachBytes) := by
  intro n cs y h hw
  rcases open_slice ht h with ⟨rfl, _⟩ | ⟨a, len, cap, m, k, D, Pl, rfl, _, hl, hm, hmm, hy, _⟩
  · exact ⟨_, _, _, rfl, by omega⟩
  · subst hy
    unfold Wt at hw
    simp only [DataW.weights, ht, List.all_cons, Bool.and_eq_true, decide_eq_true_eq, List.length_map, List.length_range] at hw
    have h2 := hw.1
    exact ⟨_, _, _, rfl, Nat.le_trans (Nat.mul_le_mul_right _ (Nat.le_add_right _ _)) h2⟩
theorem op_Member : Opens enc w base spare held 80 (fun cs => ∃ x, VMem w cs x ∧ MemB x) := by
  refine opens_struct Tryz.underlying80 3 (by kernel_rfl) (fun cs hl hp => ?_)
  obtain ⟨a0, a1, a2, rfl⟩ := list3 hl
  obtain ⟨l, h0, x0⟩ : ∃ l : List UInt8, [a0] = [.string (S l)] ∧ l.length ≤ 140737488355328 := hp 0 0 1 9 _ rfl c_string op_string
  obtain rfl : a0 = _ := (List.cons.inj h0).1
  obtain ⟨t, h1, x1⟩ : ∃ l : List UInt8, [a1] = [.string (S l)] ∧ l.length ≤ 140737488355328 := hp 1 1 1 9 _ rfl c_string op_string
  obtain rfl : a1 = _ := (List.cons.inj h1).1
  obtain ⟨n, h2, x2⟩ : ∃ z, [a2] = [.int .i64 z] ∧ (Lit.int .i64 z).wf = true := hp 2 2 1 3 _ rfl c_int op_int
  obtain rfl : a2 = _ := (List.cons.inj h2).1
  exact ⟨⟨l, t, n⟩, rfl, x0, x1, (i64_bounds x2).1, (i64_bounds x2).2⟩
theorem ops_Member : Opens enc w base spare held 45 (fun cs => ∃ v xs, cs = [v] ∧ Mems w v xs ∧ xs.length ≤ 3518437208883 ∧ ∀ x ∈ xs, MemB x) := by
  intro n cs y h hw
  obtain ⟨v, xs, rfl, h1, h2⟩ := opens_slice (C := 3) (V := VMem) (Q := MemB) Tryz.underlying45 (by kernel_rfl) (by decide) (by kernel_rfl) op_Member n cs y h hw
  obtain ⟨p, k, c, h3, h4⟩ := opens_lenB Tryz.underlying45 n _ y h hw
  rw [show Tryz.prog.bytesOf 80 = 40 by kernel_rfl] at h4
  obtain ⟨q', c', e⟩ := sv_slice h1
  subst e
  cases h3
  refine ⟨_, xs, rfl, h1, ?_, h2⟩
  unfold reachBytes at h4
  omega
theorem op_Decl : Opens enc w base spare held 47 (fun cs => ∃ x, VDecl w cs x ∧ DeclB x) := by
  refine opens_struct Tryz.underlying47 4 (by kernel_rfl) (fun cs hl hp => ?_)
  obtain ⟨a0, a1, a2, a3, rfl⟩ := list4 hl
  obtain ⟨k, h0, x0⟩ : ∃ z, [a0] = [.int .i64 z] ∧ (Lit.int .i64 z).wf = true := hp 0 0 1 3 _ rfl c_int op_int
  obtain rfl : a0 = _ := (List.cons.inj h0).1
  obtain ⟨l, h1, x1⟩ : ∃ l : List UInt8, [a1] = [.string (S l)] ∧ l.length ≤ 140737488355328 := hp 1 1 1 9 _ rfl c_string op_string
  obtain rfl : a1 = _ := (List.cons.inj h1).1
  obtain ⟨f, h2, x2⟩ : ∃ l : List UInt8, [a2] = [.string (S l)] ∧ l.length ≤ 140737488355328 := hp 2 2 1 9 _ rfl c_string op_string
  obtain rfl : a2 = _ := (List.cons.inj h2).1
  obtain ⟨v, ms, h3, x3, x4, x5⟩ : ∃ v xs, [a3] = [v] ∧ Mems w v xs ∧ xs.length ≤ 3518437208883 ∧ ∀ x ∈ xs, MemB x := hp 3 3 1 45 _ rfl (by kernel_rfl) ops_Member
  obtain rfl : a3 = _ := (List.cons.inj h3).1
  exact ⟨⟨k, l, f, ms⟩, ⟨_, rfl, x3⟩, x1, x2, x4, x5⟩
theorem ops_Decl : Opens enc w base spare held 28 (fun cs => ∃ v xs, cs = [v] ∧ Sv 4 VDecl w v xs ∧ ∀ x ∈ xs, DeclB x) := opens_slice (C := 4) (V := VDecl) (Q := DeclB) Tryz.underlying28 (by kernel_rfl) (by decide) (by kernel_rfl) op_Decl
set_option maxRecDepth 100000 in
theorem arg_Decls {r : Reach} {b0 : Nat} {v : Value} {d : DataW H} {p : List MemPlace} (hv : Value.okWide Tryz.prog w r b0 28 v) (h : DataW.Trod enc Tryz.prog w base spare held 28 v d p) (hw : (d.weights Tryz.prog 28).all (· ≤ reachBytes) = true) :
    ∃ (q : Option Addr) (c : Nat) (l : List PDecl), v = .slice q l.length c ∧ Decls w (.slice q l.length c) l ∧ ∀ x ∈ l, DeclB x := by
  obtain ⟨q, n, c, rfl⟩ := okWide_slice Tryz.underlying28 hv
  obtain ⟨fuel, hf⟩ := h
  obtain ⟨u, xs, hc, hs, hq⟩ := ops_Decl fuel _ (d, p) hf hw
  have hu : u = .slice q n c := by
    have : [Value.slice q n c] = [u] := hc
    exact (List.cons.inj this).1.symm
  subst hu
  obtain ⟨q', c', e⟩ := sv_slice hs
  cases e
  exact ⟨q, c, xs, rfl, hs, hq⟩
end
end Go.Proofs.YtfoaaglbpmmhiaaGreatDoor
