/- What the reference's Small tells of a schema, and the texts' bounds that follow; no program. -/
import Derived.Test.YtfoaaglbpmmhiaaGreatDoorKitG
import Derived.Test.YtfoaaglbpmmhiaaGreatDoorCkAll
import Derived.Test.YtfoaaglbpmmhiaaGreatDoorKitA
import Derived.Test.YtfoaaglbpmmhiaaGreatDoorKitB
namespace Go.Proofs.YtfoaaglbpmmhiaaGreatDoor
open Go.RowKit Ck
set_option linter.unusedVariables false
set_option linter.unusedSimpArgs false

theorem ft_pos (n left : Int) (hn : 0 ≤ n) (hl : 0 ≤ left) : ∀ (l : List Str) (k : Nat), 0 ≤ ftGo n left k l ∧ (ftGo n left k l = n ∨ ftGo n left k l = left + 10)
  | [], k => by unfold ftGo; exact ⟨hn, .inl rfl⟩
  | x :: r, k => by
    unfold ftGo
    have ih := ft_pos n left hn hl r (k + 1)
    by_cases h : (k : Int) ≤ left
    · rw [if_pos h]
      by_cases h2 : 300 < x.length
      · rw [if_pos h2]; exact ⟨by omega, .inr rfl⟩
      · rw [if_neg h2]; exact ih
    · rw [if_neg h]; exact ⟨hn, .inl rfl⟩
theorem ft_ok (n left : Int) : ∀ (l : List Str) (k : Nat), ftGo n left k l ≠ left + 10 → ∀ (i : Nat) x, l[i]? = some x → ((k + i : Nat) : Int) ≤ left → x.length ≤ 300
  | [], k, _, i, x, hx, _ => by simp at hx
  | y :: r, k, h, i, x, hx, hi => by
    unfold ftGo at h
    rw [if_pos (by omega)] at h
    by_cases h2 : 300 < y.length
    · rw [if_pos h2] at h; exact absurd rfl h
    · rw [if_neg h2] at h
      cases i with
      | zero => simp at hx; subst hx; omega
      | succ i => exact ft_ok n left r (k + 1) h i x (by simpa using hx) (by omega)
theorem fn_pos (n left : Int) (hn : 0 ≤ n) (hl : 0 ≤ left) : ∀ (l : List PNote) (k : Nat), 0 ≤ fnGo n left k l ∧ (fnGo n left k l = n ∨ fnGo n left k l = left + 10)
  | [], k => by unfold fnGo; exact ⟨hn, .inl rfl⟩
  | x :: r, k => by
    unfold fnGo
    have ih := fn_pos n left hn hl r (k + 1)
    by_cases h : (k : Int) ≤ left
    · rw [if_pos h]
      by_cases h2 : longN x
      · rw [if_pos h2]; exact ⟨by omega, .inr rfl⟩
      · rw [if_neg h2]; exact ih
    · rw [if_neg h]; exact ⟨hn, .inl rfl⟩
theorem fn_ok (n left : Int) : ∀ (l : List PNote) (k : Nat), fnGo n left k l ≠ left + 10 → ∀ (i : Nat) x, l[i]? = some x → ((k + i : Nat) : Int) ≤ left → x.name.length ≤ 300
  | [], k, _, i, x, hx, _ => by simp at hx
  | y :: r, k, h, i, x, hx, hi => by
    unfold fnGo at h
    rw [if_pos (by omega)] at h
    by_cases h2 : longN y
    · rw [if_pos h2] at h; exact absurd rfl h
    · rw [if_neg h2] at h
      cases i with
      | zero =>
        simp at hx
        subst hx
        have : ¬ 300 < y.name.length := fun h => h2 (.inl h)
        omega
      | succ i => exact fn_ok n left r (k + 1) h i x (by simpa using hx) (by omega)
def okN (l : List PNote) : Prop := l.length ≤ 400 ∧ ∀ n ∈ l, n.name.length ≤ 300
theorem fn_end {l : List PNote} {left : Int} (h0 : 0 ≤ left) (h4 : left ≤ 400) (h : fnGo l.length left 0 l ≤ left + 5) (hl : (l.length : Int) ≤ left + 5 → (l.length : Int) ≤ left) : okN l := by
  have h1 := fn_pos l.length left (by omega) h0 l 0
  have h2 : fnGo l.length left 0 l ≠ left + 10 := by omega
  have h3 : fnGo l.length left 0 l = l.length := by omega
  have h5 := hl (by omega)
  refine ⟨by omega, fun n hn => ?_⟩
  obtain ⟨i, hi, he⟩ := List.mem_iff_getElem.1 hn
  exact fn_ok l.length left l 0 h2 i n (by rw [List.getElem?_eq_getElem hi, he]) (by omega)
def okF (f : PField) : Prop := f.name.length ≤ 300 ∧ f.tn.length ≤ 300 ∧ okN f.notes
def okM (m : PMsg) : Prop := m.name.length ≤ 300 ∧ m.res.length ≤ 400 ∧ m.gone.length ≤ 400 ∧ (∀ g ∈ m.gone, g.length ≤ 300) ∧ okN m.notes
def okMsg (m : PMsg) : Prop := okM m ∧ m.fields.length ≤ 400 ∧ ∀ f ∈ m.fields, okF f
def okI (i : PItem) : Prop := i.name.length ≤ 300 ∧ okN i.notes
def okE (e : PEnum) : Prop := e.name.length ≤ 300 ∧ e.res.length ≤ 400 ∧ okN e.notes
def okEnum (e : PEnum) : Prop := okE e ∧ e.items.length ≤ 400 ∧ ∀ i ∈ e.items, okI i
def okMeth (m : PMeth) : Prop := m.name.length ≤ 300 ∧ okN m.notes
def okV (v : PSvc) : Prop := v.name.length ≤ 300 ∧ okN v.notes
def okSvc (v : PSvc) : Prop := okV v ∧ v.meths.length ≤ 400 ∧ ∀ m ∈ v.meths, okMeth m
def SmallP (s : PSchema) : Prop := s.msgs.length ≤ 150 ∧ s.enums.length ≤ 150 ∧ s.svcs.length ≤ 150 ∧ (∀ m ∈ s.msgs, okMsg m) ∧ (∀ e ∈ s.enums, okEnum e) ∧ ∀ v ∈ s.svcs, okSvc v
/-- the texts that Small does not look at are no longer than memory -/
def UnB (s : PSchema) : Prop := ∀ m ∈ s.msgs, ∀ f ∈ m.fields, f.un.length ≤ 1000000000000000
/-! the steps of Small, as facts of numbers -/
theorem step_msg {m : PMsg} {L : Int} (h0 : 0 ≤ L) (h4 : L ≤ 400) (h : 0 ≤ L - fnGo m.notes.length L 0 m.notes - m.res.length - ftGo m.gone.length L 0 m.gone - ftGo 1 L 0 [m.name]) : okM m := by
  have a1 := fn_pos m.notes.length L (by omega) h0 m.notes 0
  have a2 := ft_pos m.gone.length L (by omega) h0 m.gone 0
  have a3 := ft_pos 1 L (by omega) h0 [m.name] 0
  refine ⟨?_, by omega, by omega, fun g hg => ?_, fn_end h0 h4 (by omega) (by omega)⟩
  · exact ft_ok 1 L [m.name] 0 (by omega) 0 _ rfl (by omega)
  · obtain ⟨i, hi, he⟩ := List.mem_iff_getElem.1 hg
    exact ft_ok m.gone.length L m.gone 0 (by omega) i g (by rw [List.getElem?_eq_getElem hi, he]) (by omega)
theorem step_field {f : PField} {L : Int} (h0 : 0 ≤ L) (h4 : L ≤ 400) (h : 0 ≤ L - 1 - fnGo f.notes.length L 0 f.notes - ftGo 3 L 0 [f.name, f.tn, f.un] + 3) : okF f ∧ L - 1 - fnGo f.notes.length L 0 f.notes - ftGo 3 L 0 [f.name, f.tn, f.un] + 3 ≤ L - 1 := by
  have a1 := fn_pos f.notes.length L (by omega) h0 f.notes 0
  have a3 := ft_pos 3 L (by omega) h0 [f.name, f.tn, f.un] 0
  have a4 : ftGo 3 L 0 [f.name, f.tn, f.un] = 3 := by omega
  refine ⟨⟨?_, ?_, fn_end h0 h4 (by omega) (by omega)⟩, by omega⟩
  · exact ft_ok 3 L [f.name, f.tn, f.un] 0 (by omega) 0 _ rfl (by omega)
  · exact ft_ok 3 L [f.name, f.tn, f.un] 0 (by omega) 1 _ rfl (by omega)
theorem step_enum {e : PEnum} {L : Int} (h0 : 0 ≤ L) (h4 : L ≤ 400) (h : 0 ≤ L - fnGo e.notes.length L 0 e.notes - e.res.length - ftGo 1 L 0 [e.name]) : okE e := by
  have a1 := fn_pos e.notes.length L (by omega) h0 e.notes 0
  have a3 := ft_pos 1 L (by omega) h0 [e.name] 0
  exact ⟨ft_ok 1 L [e.name] 0 (by omega) 0 _ rfl (by omega), by omega, fn_end h0 h4 (by omega) (by omega)⟩
theorem step_item {i : PItem} {L : Int} (h0 : 0 ≤ L) (h4 : L ≤ 400) (h : 0 ≤ L - fnGo i.notes.length L 0 i.notes - ftGo 1 L 0 [i.name]) : okI i ∧ L - fnGo i.notes.length L 0 i.notes - ftGo 1 L 0 [i.name] ≤ L - 1 := by
  have a1 := fn_pos i.notes.length L (by omega) h0 i.notes 0
  have a3 := ft_pos 1 L (by omega) h0 [i.name] 0
  exact ⟨⟨ft_ok 1 L [i.name] 0 (by omega) 0 _ rfl (by omega), fn_end h0 h4 (by omega) (by omega)⟩, by omega⟩
theorem step_svc {v : PSvc} {L : Int} (h0 : 0 ≤ L) (h4 : L ≤ 400) (h : 0 ≤ L - fnGo v.notes.length L 0 v.notes - ftGo 1 L 0 [v.name]) : okV v := by
  have a1 := fn_pos v.notes.length L (by omega) h0 v.notes 0
  have a3 := ft_pos 1 L (by omega) h0 [v.name] 0
  exact ⟨ft_ok 1 L [v.name] 0 (by omega) 0 _ rfl (by omega), fn_end h0 h4 (by omega) (by omega)⟩
theorem step_meth {m : PMeth} {L : Int} (h0 : 0 ≤ L) (h4 : L ≤ 400) (h : 0 ≤ L - fnGo m.notes.length L 0 m.notes - ftGo 3 L 0 [m.name, m.inn, m.out] + 2) : okMeth m ∧ L - fnGo m.notes.length L 0 m.notes - ftGo 3 L 0 [m.name, m.inn, m.out] + 2 ≤ L - 1 := by
  have a1 := fn_pos m.notes.length L (by omega) h0 m.notes 0
  have a3 := ft_pos 3 L (by omega) h0 [m.name, m.inn, m.out] 0
  refine ⟨⟨ft_ok 3 L [m.name, m.inn, m.out] 0 (by omega) 0 _ rfl (by omega), fn_end h0 h4 (by omega) (by omega)⟩, by omega⟩
/-! the number of problems of a small schema -/
theorem flat_len {α β : Type} (f : α → List β) (B : Nat) : ∀ (l : List α), (∀ x ∈ l, (f x).length ≤ B) → (l.flatMap f).length ≤ B * l.length
  | [], _ => by simp
  | x :: r, h => by
    have ih := flat_len f B r (fun y hy => h y (List.mem_cons_of_mem _ hy))
    have h1 := h x List.mem_cons_self
    rw [List.flatMap_cons, List.length_append, List.length_cons, Nat.mul_add, Nat.mul_one]
    omega
theorem fieldsGo_len (s : PSchema) (m : PMsg) : ∀ (l : List PField) (i : Nat), (fieldsGo s m i l).length ≤ 10 * l.length
  | [], i => by simp [fieldsGo]
  | f :: r, i => by
    have ih := fieldsGo_len s m r (i + 1)
    have h := fieldP_len s m i f
    unfold fieldsGo
    rw [List.length_append, List.length_cons]
    omega
theorem goneP_len (d : Str) : ∀ (l : List Str), (l.flatMap (fun g => un d (-1) (decide (Utf.bad g < 0)) 7)).length ≤ l.length
  | [] => by simp
  | g :: r => by
    have ih := goneP_len d r
    have h := un_len d (-1) (decide (Utf.bad g < 0)) 7
    rw [List.flatMap_cons, List.length_append, List.length_cons]
    omega
theorem noted_len (d : Str) (n : Int) (l : List PNote) (t : Int) : (noted d n l t).length ≤ 1 := un_len _ _ _ _
theorem inMessage_len (s : PSchema) (m : PMsg) (fin : Str → Bool) : (inMessage s m fin).length ≤ 4 + 10 * m.fields.length + 2 * m.res.length + m.gone.length := by
  have h1 := un_len m.name (-1) (usableName m.name) 8
  have h2 := un_len m.name (-1) (decide (m.fields.length ≤ 64 ∧ m.res.length ≤ 16 ∧ m.gone.length ≤ 16)) 3
  have h3 := fieldsGo_len s m m.fields 0
  have h4 := spans_len m.name 1 65535 none m.res
  have h5 := goneP_len m.name m.gone
  have h6 := noted_len m.name (-1) m.notes 1
  have h7 := un_len m.name (-1) (!cyclic s m fin) 19
  unfold inMessage spans
  simp only [List.length_append]
  omega
theorem itemsGo_len (e : PEnum) : ∀ (l : List PItem) (i : Nat), (itemsGo e i l).length ≤ 6 * l.length
  | [], i => by simp [itemsGo]
  | f :: r, i => by
    have ih := itemsGo_len e r (i + 1)
    have h := itemP_len e i f
    unfold itemsGo
    rw [List.length_append, List.length_cons]
    omega
theorem enum_len (e : PEnum) : (enum e).length ≤ 4 + 6 * e.items.length + 2 * e.res.length := by
  unfold enum spans noted
  refine Nat.le_trans (app_len (app_len (app_len (app_len (app_len (un_len _ _ _ _) (un_len _ _ _ _)) (un_len _ _ _ _)) (itemsGo_len e e.items 0)) (spans_len e.name 0 2147483647 none e.res)) (un_len _ _ _ _)) ?_
  omega
theorem methsGo_len (s : PSchema) (v : PSvc) : ∀ (l : List PMeth) (i : Nat), (methsGo s v i l).length ≤ 5 * l.length
  | [], i => by simp [methsGo]
  | f :: r, i => by
    have ih := methsGo_len s v r (i + 1)
    have h := methP_len s v i f
    unfold methsGo
    rw [List.length_append, List.length_cons]
    omega
theorem service_len (s : PSchema) (v : PSvc) : (service s v).length ≤ 3 + 5 * v.meths.length := by
  unfold service noted
  have h1 := un_len v.name (-1) (usableName v.name) 8
  have h2 := un_len v.name (-1) (decide (v.meths.length ≤ 64)) 3
  have h4 := methsGo_len s v v.meths 0
  have h6 := un_len v.name (-1) (decide (noteCheck v.notes 5 = 0)) (noteCheck v.notes 5)
  simp only [List.length_append]
  omega
theorem listP_len (l : List Str) : (listP l).length ≤ 2 := app_len (un_len _ _ _ _) (un_len _ _ _ _)
theorem headP_len (s : PSchema) : (head s).length ≤ 7 := by
  unfold head
  exact app_len (app_len (app_len (listP_len _) (listP_len _)) (listP_len _)) (un_len _ _ _ _)
theorem all_len {s : PSchema} (h : SmallP s) : (Ck.all s).length ≤ 10000000 := by
  obtain ⟨h1, h2, h3, h4, h5, h6⟩ := h
  have a1 := headP_len s
  have a2 := flat_len (fun m => inMessage s m (finite s)) 6000 s.msgs (fun m hm => by
    have := inMessage_len s m (finite s)
    obtain ⟨⟨_, b1, b2, _⟩, b3, _⟩ := h4 m hm
    show (inMessage s m (finite s)).length ≤ 6000
    omega)
  have a3 := flat_len enum 6000 s.enums (fun e he => by
    have := enum_len e
    obtain ⟨⟨_, b1, _⟩, b3, _⟩ := h5 e he
    omega)
  have a4 := flat_len (service s) 6000 s.svcs (fun v hv => by
    have := service_len s v
    obtain ⟨_, b3, _⟩ := h6 v hv
    omega)
  unfold Ck.all
  simp only [List.length_append]
  omega
theorem short_of_small {s : PSchema} (h : SmallP s) (hu : UnB s) : Short s := by
  have ha := all_len h
  obtain ⟨h1, h2, h3, h4, h5, h6⟩ := h
  have hN : ∀ {l : List PNote}, okN l → ∀ n ∈ l, n.name.length ≤ 1000000000 := fun h n hn => Nat.le_trans (h.2 n hn) (by omega)
  refine ⟨fun m hm => ?_, fun e he => ?_, fun v hv => ?_, ⟨by omega, by omega, by omega⟩, by omega⟩
  · obtain ⟨⟨b0, b1, b2, b4, b5⟩, b3, b6⟩ := h4 m hm
    exact ⟨by omega, by omega, by omega, by omega, fun f hf => by
      obtain ⟨c1, c2, c3⟩ := b6 f hf
      have := hu m hm f hf
      exact ⟨by omega, by omega, by omega, hN c3⟩, fun g hg => Nat.le_trans (b4 g hg) (by omega), hN b5⟩
  · obtain ⟨⟨b0, b1, b5⟩, b3, b6⟩ := h5 e he
    exact ⟨by omega, by omega, by omega, fun f hf => by
      obtain ⟨c1, c3⟩ := b6 f hf
      exact ⟨by omega, hN c3⟩, hN b5⟩
  · obtain ⟨⟨b0, b5⟩, b3, b6⟩ := h6 v hv
    exact ⟨by omega, by omega, fun f hf => by
      obtain ⟨c1, c3⟩ := b6 f hf
      exact ⟨by omega, hN c3⟩, hN b5⟩
end Go.Proofs.YtfoaaglbpmmhiaaGreatDoor

/- The arguments of layer 12's laws, opened: schemas, messages, enums, services, spans. Printed by genopen.py. -/
namespace Go.Proofs.YtfoaaglbpmmhiaaGreatDoor
open Go.ChangeShapes Go.WideShapes Go.RowKit Go.Deep Ck
set_option linter.unusedVariables false
set_option linter.unusedSimpArgs false

section
variable {H : Type} {enc : TypeId × Value → H} {w : World} {base : Nat} {spare : Nat → Bool} {held : Bool}
theorem list1 {α : Type} {l : List α} (h : l.length = 1) : ∃ a0, l = [a0] := by
  match l, h with
  | [a0], _ => exact ⟨a0, rfl⟩
theorem list2 {α : Type} {l : List α} (h : l.length = 2) : ∃ a0 a1, l = [a0, a1] := by
  match l, h with
  | [a0, a1], _ => exact ⟨a0, a1, rfl⟩
theorem list3 {α : Type} {l : List α} (h : l.length = 3) : ∃ a0 a1 a2, l = [a0, a1, a2] := by
  match l, h with
  | [a0, a1, a2], _ => exact ⟨a0, a1, a2, rfl⟩
theorem list5 {α : Type} {l : List α} (h : l.length = 5) : ∃ a0 a1 a2 a3 a4, l = [a0, a1, a2, a3, a4] := by
  match l, h with
  | [a0, a1, a2, a3, a4], _ => exact ⟨a0, a1, a2, a3, a4, rfl⟩
theorem list7 {α : Type} {l : List α} (h : l.length = 7) : ∃ a0 a1 a2 a3 a4 a5 a6, l = [a0, a1, a2, a3, a4, a5, a6] := by
  match l, h with
  | [a0, a1, a2, a3, a4, a5, a6], _ => exact ⟨a0, a1, a2, a3, a4, a5, a6, rfl⟩
theorem list8 {α : Type} {l : List α} (h : l.length = 8) : ∃ a0 a1 a2 a3 a4 a5 a6 a7, l = [a0, a1, a2, a3, a4, a5, a6, a7] := by
  match l, h with
  | [a0, a1, a2, a3, a4, a5, a6, a7], _ => exact ⟨a0, a1, a2, a3, a4, a5, a6, a7, rfl⟩
theorem list16 {α : Type} {l : List α} (h : l.length = 16) : ∃ a0 a1 a2 a3 a4 a5 a6 a7 a8 a9 a10 a11 a12 a13 a14 a15, l = [a0, a1, a2, a3, a4, a5, a6, a7, a8, a9, a10, a11, a12, a13, a14, a15] := by
  match l, h with
  | [a0, a1, a2, a3, a4, a5, a6, a7, a8, a9, a10, a11, a12, a13, a14, a15], _ => exact ⟨a0, a1, a2, a3, a4, a5, a6, a7, a8, a9, a10, a11, a12, a13, a14, a15, rfl⟩
theorem c_int : Tryz.prog.cellsOf 3 = 1 := by kernel_rfl
theorem op_int : Opens enc w base spare held 3 (fun cs => ∃ z, cs = [.int .i64 z] ∧ (Lit.int .i64 z).wf = true) := opens_int Tryz.underlying3
theorem c_uint64 : Tryz.prog.cellsOf 55 = 1 := by kernel_rfl
theorem op_uint64 : Opens enc w base spare held 55 (fun cs => ∃ z, cs = [.int .u64 z] ∧ (Lit.int .u64 z).wf = true) := opens_int Tryz.underlying55
theorem c_string : Tryz.prog.cellsOf 9 = 1 := by kernel_rfl
theorem op_string : Opens enc w base spare held 9 (fun cs => ∃ l : List UInt8, cs = [.string (S l)] ∧ l.length ≤ 140737488355328) := opens_string Tryz.underlying9
theorem c_bool : Tryz.prog.cellsOf 4 = 1 := by kernel_rfl
theorem op_bool : Opens enc w base spare held 4 (fun cs => ∃ b, cs = [.bool b]) := opens_bool Tryz.underlying4
theorem op_Value : Opens enc w base spare held 61 (fun cs => ∃ v, VVal cs v) := by
  refine opens_struct Tryz.underlying61 7 (by kernel_rfl) (fun cs hl hp => ?_)
  obtain ⟨a0, a1, a2, a3, a4, a5, a6, rfl⟩ := list7 hl
  obtain ⟨k, h0, x0⟩ : ∃ z, [a0] = [.int .i64 z] ∧ (Lit.int .i64 z).wf = true := hp 0 0 1 3 _ rfl c_int op_int
  obtain rfl : a0 = _ := (List.cons.inj h0).1
  obtain ⟨x, h1, x1⟩ : ∃ z, [a1] = [.int .u64 z] ∧ (Lit.int .u64 z).wf = true := hp 1 1 1 55 _ rfl c_uint64 op_uint64
  obtain rfl : a1 = _ := (List.cons.inj h1).1
  obtain ⟨l, h2, x2⟩ : ∃ l : List UInt8, [a2] = [.string (S l)] ∧ l.length ≤ 140737488355328 := hp 2 2 1 9 _ rfl c_string op_string
  obtain rfl : a2 = _ := (List.cons.inj h2).1
  obtain ⟨p3, n1, c3, h3, x3⟩ : ∃ (p : Option Addr) (n c : Nat), [a3] = [.slice p n c] ∧ n ≤ 140737488355328 := hp 3 3 1 56 _ rfl (by kernel_rfl) (opens_len Tryz.underlying56 (by kernel_rfl))
  obtain rfl : a3 = _ := (List.cons.inj h3).1
  obtain ⟨p4, n2, c4, h4, x4⟩ : ∃ (p : Option Addr) (n c : Nat), [a4] = [.slice p n c] ∧ n ≤ 140737488355328 := hp 4 4 1 57 _ rfl (by kernel_rfl) (opens_len Tryz.underlying57 (by kernel_rfl))
  obtain rfl : a4 = _ := (List.cons.inj h4).1
  obtain ⟨p5, n3, c5, h5, x5⟩ : ∃ (p : Option Addr) (n c : Nat), [a5] = [.slice p n c] ∧ n ≤ 140737488355328 := hp 5 5 1 58 _ rfl (by kernel_rfl) (opens_len Tryz.underlying58 (by kernel_rfl))
  obtain rfl : a5 = _ := (List.cons.inj h5).1
  obtain ⟨p6, n4, c6, h6, x6⟩ : ∃ (p : Option Addr) (n c : Nat), [a6] = [.slice p n c] ∧ n ≤ 140737488355328 := hp 6 6 1 59 _ rfl (by kernel_rfl) (opens_len Tryz.underlying59 (by kernel_rfl))
  obtain rfl : a6 = _ := (List.cons.inj h6).1
  exact ⟨⟨k, x, l, n1, n2, n3, n4⟩, p3, p4, p5, p6, c3, c4, c5, c6, rfl, (u64_bounds x1).1, (u64_bounds x1).2, x3, x4, x5, x6⟩
theorem op_Note : Opens enc w base spare held 226 (fun cs => ∃ x, VNote w cs x ∧ True) := by
  refine opens_struct Tryz.underlying226 8 (by kernel_rfl) (fun cs hl hp => ?_)
  obtain ⟨a0, a1, a2, a3, a4, a5, a6, a7, rfl⟩ := list8 hl
  obtain ⟨l, h0, x0⟩ : ∃ l : List UInt8, [a0] = [.string (S l)] ∧ l.length ≤ 140737488355328 := hp 0 0 1 9 _ rfl c_string op_string
  obtain rfl : a0 = _ := (List.cons.inj h0).1
  obtain ⟨v, s1⟩ : ∃ v, VVal [a1, a2, a3, a4, a5, a6, a7] v := hp 1 1 7 61 _ rfl (by kernel_rfl) op_Value
  exact ⟨⟨l, v⟩, ⟨_, rfl, s1⟩, trivial⟩
theorem ops_Note : Opens enc w base spare held 42 (fun cs => ∃ v xs, cs = [v] ∧ Sv 8 VNote w v xs ∧ ∀ x ∈ xs, True) := opens_slice (V := VNote) (Q := fun x : PNote => True) Tryz.underlying42 (by kernel_rfl) (by decide) (by kernel_rfl) op_Note
theorem op_Span : Opens enc w base spare held 194 (fun cs => ∃ x, VSpan w cs x ∧ True) := by
  refine opens_struct Tryz.underlying194 2 (by kernel_rfl) (fun cs hl hp => ?_)
  obtain ⟨a0, a1, rfl⟩ := list2 hl
  obtain ⟨a, h0, x0⟩ : ∃ z, [a0] = [.int .i64 z] ∧ (Lit.int .i64 z).wf = true := hp 0 0 1 3 _ rfl c_int op_int
  obtain rfl : a0 = _ := (List.cons.inj h0).1
  obtain ⟨b, h1, x1⟩ : ∃ z, [a1] = [.int .i64 z] ∧ (Lit.int .i64 z).wf = true := hp 1 1 1 3 _ rfl c_int op_int
  obtain rfl : a1 = _ := (List.cons.inj h1).1
  exact ⟨⟨a, b⟩, rfl, trivial⟩
theorem ops_Span : Opens enc w base spare held 41 (fun cs => ∃ v xs, cs = [v] ∧ Sv 2 VSpan w v xs ∧ ∀ x ∈ xs, True) := opens_slice (V := VSpan) (Q := fun x : PSpan => True) Tryz.underlying41 (by kernel_rfl) (by decide) (by kernel_rfl) op_Span
theorem op_Str : Opens enc w base spare held 9 (fun cs => ∃ x, VStr w cs x ∧ True) := by
  intro n cs y h hw
  obtain ⟨l, e, _⟩ := op_string n cs y h hw
  exact ⟨l, e, trivial⟩
theorem ops_Str : Opens enc w base spare held 37 (fun cs => ∃ v xs, cs = [v] ∧ Sv 1 VStr w v xs ∧ ∀ x ∈ xs, True) := opens_slice (V := VStr) (Q := fun x : Str => True) Tryz.underlying37 (by kernel_rfl) (by decide) (by kernel_rfl) op_Str
theorem op_Type : Opens enc w base spare held 54 (fun cs => ∃ (k : Int) (l : List UInt8), cs = [.int .i64 k, .string (S l)]) := by
  refine opens_struct Tryz.underlying54 2 (by kernel_rfl) (fun cs hl hp => ?_)
  obtain ⟨a0, a1, rfl⟩ := list2 hl
  obtain ⟨k, h0, x0⟩ : ∃ z, [a0] = [.int .i64 z] ∧ (Lit.int .i64 z).wf = true := hp 0 0 1 3 _ rfl c_int op_int
  obtain rfl : a0 = _ := (List.cons.inj h0).1
  obtain ⟨l, h1, x1⟩ : ∃ l : List UInt8, [a1] = [.string (S l)] ∧ l.length ≤ 140737488355328 := hp 1 1 1 9 _ rfl c_string op_string
  obtain rfl : a1 = _ := (List.cons.inj h1).1
  exact ⟨k, l, rfl⟩
theorem op_Field : Opens enc w base spare held 63 (fun cs => ∃ x, VField w cs x ∧ x.un.length ≤ 140737488355328) := by
  refine opens_struct Tryz.underlying63 16 (by kernel_rfl) (fun cs hl hp => ?_)
  obtain ⟨a0, a1, a2, a3, a4, a5, a6, a7, a8, a9, a10, a11, a12, a13, a14, a15, rfl⟩ := list16 hl
  obtain ⟨num, h0, x0⟩ : ∃ z, [a0] = [.int .i64 z] ∧ (Lit.int .i64 z).wf = true := hp 0 0 1 3 _ rfl c_int op_int
  obtain rfl : a0 = _ := (List.cons.inj h0).1
  obtain ⟨nm, h1, x1⟩ : ∃ l : List UInt8, [a1] = [.string (S l)] ∧ l.length ≤ 140737488355328 := hp 1 1 1 9 _ rfl c_string op_string
  obtain rfl : a1 = _ := (List.cons.inj h1).1
  obtain ⟨ca, h2, x2⟩ : ∃ z, [a2] = [.int .i64 z] ∧ (Lit.int .i64 z).wf = true := hp 2 2 1 3 _ rfl c_int op_int
  obtain rfl : a2 = _ := (List.cons.inj h2).1
  obtain ⟨ke, h3, x3⟩ : ∃ z, [a3] = [.int .i64 z] ∧ (Lit.int .i64 z).wf = true := hp 3 3 1 3 _ rfl c_int op_int
  obtain rfl : a3 = _ := (List.cons.inj h3).1
  obtain ⟨tyk, tyn, h4⟩ : ∃ (k : Int) (l : List UInt8), [a4, a5] = [.int .i64 k, .string (S l)] := hp 4 4 2 54 _ rfl (by kernel_rfl) op_Type
  obtain rfl : a4 = _ := (List.cons.inj h4).1
  obtain rfl : a5 = _ := (List.cons.inj (List.cons.inj h4).2).1
  obtain ⟨un, h5, x5⟩ : ∃ l : List UInt8, [a6] = [.string (S l)] ∧ l.length ≤ 140737488355328 := hp 5 6 1 9 _ rfl c_string op_string
  obtain rfl : a6 = _ := (List.cons.inj h5).1
  obtain ⟨hd, h6⟩ : ∃ b, [a7] = [.bool b] := hp 6 7 1 4 _ rfl c_bool op_bool
  obtain rfl : a7 = _ := (List.cons.inj h6).1
  obtain ⟨df, s7⟩ : ∃ v, VVal [a8, a9, a10, a11, a12, a13, a14] v := hp 7 8 7 61 _ rfl (by kernel_rfl) op_Value
  obtain ⟨v8, ns, h8, s8, q8⟩ : ∃ v xs, [a15] = [v] ∧ Sv 8 VNote w v xs ∧ ∀ x ∈ xs, True := hp 8 15 1 42 _ rfl (by kernel_rfl) ops_Note
  obtain rfl : a15 = _ := (List.cons.inj h8).1
  exact ⟨⟨num, nm, ca, ke, tyk, tyn, un, hd, df, ns⟩, ⟨_, _, rfl, s7, s8⟩, x5⟩
theorem ops_Field : Opens enc w base spare held 40 (fun cs => ∃ v xs, cs = [v] ∧ Sv 16 VField w v xs ∧ ∀ x ∈ xs, x.un.length ≤ 140737488355328) := opens_slice (V := VField) (Q := fun x : PField => x.un.length ≤ 140737488355328) Tryz.underlying40 (by kernel_rfl) (by decide) (by kernel_rfl) op_Field
theorem op_Item : Opens enc w base spare held 76 (fun cs => ∃ x, VItem w cs x ∧ True) := by
  refine opens_struct Tryz.underlying76 3 (by kernel_rfl) (fun cs hl hp => ?_)
  obtain ⟨a0, a1, a2, rfl⟩ := list3 hl
  obtain ⟨nm, h0, x0⟩ : ∃ l : List UInt8, [a0] = [.string (S l)] ∧ l.length ≤ 140737488355328 := hp 0 0 1 9 _ rfl c_string op_string
  obtain rfl : a0 = _ := (List.cons.inj h0).1
  obtain ⟨num, h1, x1⟩ : ∃ z, [a1] = [.int .i64 z] ∧ (Lit.int .i64 z).wf = true := hp 1 1 1 3 _ rfl c_int op_int
  obtain rfl : a1 = _ := (List.cons.inj h1).1
  obtain ⟨v2, ns, h2, s2, q2⟩ : ∃ v xs, [a2] = [v] ∧ Sv 8 VNote w v xs ∧ ∀ x ∈ xs, True := hp 2 2 1 42 _ rfl (by kernel_rfl) ops_Note
  obtain rfl : a2 = _ := (List.cons.inj h2).1
  exact ⟨⟨nm, num, ns⟩, ⟨_, rfl, s2⟩, trivial⟩
theorem ops_Item : Opens enc w base spare held 72 (fun cs => ∃ v xs, cs = [v] ∧ Sv 3 VItem w v xs ∧ ∀ x ∈ xs, True) := opens_slice (V := VItem) (Q := fun x : PItem => True) Tryz.underlying72 (by kernel_rfl) (by decide) (by kernel_rfl) op_Item
theorem op_Meth : Opens enc w base spare held 71 (fun cs => ∃ x, VMeth w cs x ∧ True) := by
  refine opens_struct Tryz.underlying71 5 (by kernel_rfl) (fun cs hl hp => ?_)
  obtain ⟨a0, a1, a2, a3, a4, rfl⟩ := list5 hl
  obtain ⟨nm, h0, x0⟩ : ∃ l : List UInt8, [a0] = [.string (S l)] ∧ l.length ≤ 140737488355328 := hp 0 0 1 9 _ rfl c_string op_string
  obtain rfl : a0 = _ := (List.cons.inj h0).1
  obtain ⟨inn, h1, x1⟩ : ∃ l : List UInt8, [a1] = [.string (S l)] ∧ l.length ≤ 140737488355328 := hp 1 1 1 9 _ rfl c_string op_string
  obtain rfl : a1 = _ := (List.cons.inj h1).1
  obtain ⟨out, h2, x2⟩ : ∃ l : List UInt8, [a2] = [.string (S l)] ∧ l.length ≤ 140737488355328 := hp 2 2 1 9 _ rfl c_string op_string
  obtain rfl : a2 = _ := (List.cons.inj h2).1
  obtain ⟨sh, h3, x3⟩ : ∃ z, [a3] = [.int .i64 z] ∧ (Lit.int .i64 z).wf = true := hp 3 3 1 3 _ rfl c_int op_int
  obtain rfl : a3 = _ := (List.cons.inj h3).1
  obtain ⟨v4, ns, h4, s4, q4⟩ : ∃ v xs, [a4] = [v] ∧ Sv 8 VNote w v xs ∧ ∀ x ∈ xs, True := hp 4 4 1 42 _ rfl (by kernel_rfl) ops_Note
  obtain rfl : a4 = _ := (List.cons.inj h4).1
  exact ⟨⟨nm, inn, out, sh, ns⟩, ⟨_, rfl, s4⟩, trivial⟩
theorem ops_Meth : Opens enc w base spare held 66 (fun cs => ∃ v xs, cs = [v] ∧ Sv 5 VMeth w v xs ∧ ∀ x ∈ xs, True) := opens_slice (V := VMeth) (Q := fun x : PMeth => True) Tryz.underlying66 (by kernel_rfl) (by decide) (by kernel_rfl) op_Meth
theorem op_Msg : Opens enc w base spare held 44 (fun cs => ∃ x, VMsg w cs x ∧ ∀ f ∈ x.fields, f.un.length ≤ 140737488355328) := by
  refine opens_struct Tryz.underlying44 5 (by kernel_rfl) (fun cs hl hp => ?_)
  obtain ⟨a0, a1, a2, a3, a4, rfl⟩ := list5 hl
  obtain ⟨nm, h0, x0⟩ : ∃ l : List UInt8, [a0] = [.string (S l)] ∧ l.length ≤ 140737488355328 := hp 0 0 1 9 _ rfl c_string op_string
  obtain rfl : a0 = _ := (List.cons.inj h0).1
  obtain ⟨v1, fs, h1, s1, q1⟩ : ∃ v xs, [a1] = [v] ∧ Sv 16 VField w v xs ∧ ∀ x ∈ xs, x.un.length ≤ 140737488355328 := hp 1 1 1 40 _ rfl (by kernel_rfl) ops_Field
  obtain rfl : a1 = _ := (List.cons.inj h1).1
  obtain ⟨v2, rs, h2, s2, q2⟩ : ∃ v xs, [a2] = [v] ∧ Sv 2 VSpan w v xs ∧ ∀ x ∈ xs, True := hp 2 2 1 41 _ rfl (by kernel_rfl) ops_Span
  obtain rfl : a2 = _ := (List.cons.inj h2).1
  obtain ⟨v3, gs, h3, s3, q3⟩ : ∃ v xs, [a3] = [v] ∧ Sv 1 VStr w v xs ∧ ∀ x ∈ xs, True := hp 3 3 1 37 _ rfl (by kernel_rfl) ops_Str
  obtain rfl : a3 = _ := (List.cons.inj h3).1
  obtain ⟨v4, ns, h4, s4, q4⟩ : ∃ v xs, [a4] = [v] ∧ Sv 8 VNote w v xs ∧ ∀ x ∈ xs, True := hp 4 4 1 42 _ rfl (by kernel_rfl) ops_Note
  obtain rfl : a4 = _ := (List.cons.inj h4).1
  exact ⟨⟨nm, fs, rs, gs, ns⟩, ⟨_, _, _, _, rfl, s1, s2, s3, s4⟩, q1⟩
theorem ops_Msg : Opens enc w base spare held 22 (fun cs => ∃ v xs, cs = [v] ∧ Sv 5 VMsg w v xs ∧ ∀ x ∈ xs, ∀ f ∈ x.fields, f.un.length ≤ 140737488355328) := opens_slice (V := VMsg) (Q := fun x : PMsg => ∀ f ∈ x.fields, f.un.length ≤ 140737488355328) Tryz.underlying22 (by kernel_rfl) (by decide) (by kernel_rfl) op_Msg
theorem op_Enum : Opens enc w base spare held 74 (fun cs => ∃ x, VEnum w cs x ∧ True) := by
  refine opens_struct Tryz.underlying74 5 (by kernel_rfl) (fun cs hl hp => ?_)
  obtain ⟨a0, a1, a2, a3, a4, rfl⟩ := list5 hl
  obtain ⟨nm, h0, x0⟩ : ∃ l : List UInt8, [a0] = [.string (S l)] ∧ l.length ≤ 140737488355328 := hp 0 0 1 9 _ rfl c_string op_string
  obtain rfl : a0 = _ := (List.cons.inj h0).1
  obtain ⟨op, h1⟩ : ∃ b, [a1] = [.bool b] := hp 1 1 1 4 _ rfl c_bool op_bool
  obtain rfl : a1 = _ := (List.cons.inj h1).1
  obtain ⟨v2, its, h2, s2, q2⟩ : ∃ v xs, [a2] = [v] ∧ Sv 3 VItem w v xs ∧ ∀ x ∈ xs, True := hp 2 2 1 72 _ rfl (by kernel_rfl) ops_Item
  obtain rfl : a2 = _ := (List.cons.inj h2).1
  obtain ⟨v3, rs, h3, s3, q3⟩ : ∃ v xs, [a3] = [v] ∧ Sv 2 VSpan w v xs ∧ ∀ x ∈ xs, True := hp 3 3 1 41 _ rfl (by kernel_rfl) ops_Span
  obtain rfl : a3 = _ := (List.cons.inj h3).1
  obtain ⟨v4, ns, h4, s4, q4⟩ : ∃ v xs, [a4] = [v] ∧ Sv 8 VNote w v xs ∧ ∀ x ∈ xs, True := hp 4 4 1 42 _ rfl (by kernel_rfl) ops_Note
  obtain rfl : a4 = _ := (List.cons.inj h4).1
  exact ⟨⟨nm, op, its, rs, ns⟩, ⟨_, _, _, rfl, s2, s3, s4⟩, trivial⟩
theorem ops_Enum : Opens enc w base spare held 23 (fun cs => ∃ v xs, cs = [v] ∧ Sv 5 VEnum w v xs ∧ ∀ x ∈ xs, True) := opens_slice (V := VEnum) (Q := fun x : PEnum => True) Tryz.underlying23 (by kernel_rfl) (by decide) (by kernel_rfl) op_Enum
theorem op_Svc : Opens enc w base spare held 68 (fun cs => ∃ x, VSvc w cs x ∧ True) := by
  refine opens_struct Tryz.underlying68 3 (by kernel_rfl) (fun cs hl hp => ?_)
  obtain ⟨a0, a1, a2, rfl⟩ := list3 hl
  obtain ⟨nm, h0, x0⟩ : ∃ l : List UInt8, [a0] = [.string (S l)] ∧ l.length ≤ 140737488355328 := hp 0 0 1 9 _ rfl c_string op_string
  obtain rfl : a0 = _ := (List.cons.inj h0).1
  obtain ⟨v1, ms, h1, s1, q1⟩ : ∃ v xs, [a1] = [v] ∧ Sv 5 VMeth w v xs ∧ ∀ x ∈ xs, True := hp 1 1 1 66 _ rfl (by kernel_rfl) ops_Meth
  obtain rfl : a1 = _ := (List.cons.inj h1).1
  obtain ⟨v2, ns, h2, s2, q2⟩ : ∃ v xs, [a2] = [v] ∧ Sv 8 VNote w v xs ∧ ∀ x ∈ xs, True := hp 2 2 1 42 _ rfl (by kernel_rfl) ops_Note
  obtain rfl : a2 = _ := (List.cons.inj h2).1
  exact ⟨⟨nm, ms, ns⟩, ⟨_, _, rfl, s1, s2⟩, trivial⟩
theorem ops_Svc : Opens enc w base spare held 24 (fun cs => ∃ v xs, cs = [v] ∧ Sv 3 VSvc w v xs ∧ ∀ x ∈ xs, True) := opens_slice (V := VSvc) (Q := fun x : PSvc => True) Tryz.underlying24 (by kernel_rfl) (by decide) (by kernel_rfl) op_Svc
theorem op_Schema : Opens enc w base spare held 26 (fun cs => ∃ s, VSchema w cs s ∧ UnB s) := by
  refine opens_struct Tryz.underlying26 3 (by kernel_rfl) (fun cs hl hp => ?_)
  obtain ⟨a0, a1, a2, rfl⟩ := list3 hl
  obtain ⟨v0, ms, h0, s0, q0⟩ : ∃ v xs, [a0] = [v] ∧ Sv 5 VMsg w v xs ∧ ∀ x ∈ xs, ∀ f ∈ x.fields, f.un.length ≤ 140737488355328 := hp 0 0 1 22 _ rfl (by kernel_rfl) ops_Msg
  obtain rfl : a0 = _ := (List.cons.inj h0).1
  obtain ⟨v1, es, h1, s1, q1⟩ : ∃ v xs, [a1] = [v] ∧ Sv 5 VEnum w v xs ∧ ∀ x ∈ xs, True := hp 1 1 1 23 _ rfl (by kernel_rfl) ops_Enum
  obtain rfl : a1 = _ := (List.cons.inj h1).1
  obtain ⟨v2, ss, h2, s2, q2⟩ : ∃ v xs, [a2] = [v] ∧ Sv 3 VSvc w v xs ∧ ∀ x ∈ xs, True := hp 2 2 1 24 _ rfl (by kernel_rfl) ops_Svc
  obtain rfl : a2 = _ := (List.cons.inj h2).1
  exact ⟨⟨ms, es, ss⟩, ⟨_, _, _, rfl, s0, s1, s2⟩, fun m hm f hf => Nat.le_trans (q0 m hm f hf) (by decide)⟩
end
end Go.Proofs.YtfoaaglbpmmhiaaGreatDoor

/- The arguments of layer 12's laws as values: a schema, a list of spans. -/
namespace Go.Proofs.YtfoaaglbpmmhiaaGreatDoor
open Go.ChangeShapes Go.WideShapes Go.RowKit Go.Deep Ck
set_option linter.unusedVariables false
section
variable {H : Type} {enc : TypeId × Value → H} {w : World} {base : Nat} {spare : Nat → Bool} {held : Bool}
theorem sv_slice {α : Type} {C : Nat} {V : World → List Value → α → Prop} {w : World} {v : Value} {xs : List α} (h : Sv C V w v xs) : ∃ (q : Option Addr) (c : Nat), v = .slice q xs.length c := by
  obtain ⟨q, c, h1, h2⟩ := sl_form h
  exact ⟨q, c, h1⟩
set_option maxRecDepth 100000 in
theorem arg_Schema {r : Reach} {b0 : Nat} {v : Value} {d : DataW H} {p : List MemPlace} (hv : Value.okWide Tryz.prog w r b0 26 v) (h : DataW.Trod enc Tryz.prog w base spare held 26 v d p) (hw : (d.weights Tryz.prog 26).all (· ≤ reachBytes) = true) :
    ∃ (q1 q2 q3 : Option Addr) (c1 c2 c3 : Nat) (s : PSchema), v = .agg #[.slice q1 s.msgs.length c1, .slice q2 s.enums.length c2, .slice q3 s.svcs.length c3] ∧ VSchema w [.slice q1 s.msgs.length c1, .slice q2 s.enums.length c2, .slice q3 s.svcs.length c3] s ∧ UnB s := by
  obtain ⟨cs, rfl, hsz⟩ := okWide_struct Tryz.underlying26 hv
  obtain ⟨fuel, hf⟩ := h
  obtain ⟨s, hs, hu⟩ := op_Schema fuel _ (d, p) hf hw
  have hs0 := hs
  obtain ⟨mv, ev, sv, hc, h1, h2, h3⟩ := hs
  obtain ⟨q1, c1, rfl⟩ := sv_slice h1
  obtain ⟨q2, c2, rfl⟩ := sv_slice h2
  obtain ⟨q3, c3, rfl⟩ := sv_slice h3
  have hcs : cs = #[.slice q1 s.msgs.length c1, .slice q2 s.enums.length c2, .slice q3 s.svcs.length c3] := by
    have : cs.toList = [.slice q1 s.msgs.length c1, .slice q2 s.enums.length c2, .slice q3 s.svcs.length c3] := hc
    rw [← Array.toArray_toList (xs := cs), this]
  subst hcs
  exact ⟨q1, q2, q3, c1, c2, c3, s, rfl, hs0, hu⟩
set_option maxRecDepth 100000 in
theorem arg_Spans {r : Reach} {b0 : Nat} {v : Value} {d : DataW H} {p : List MemPlace} (hv : Value.okWide Tryz.prog w r b0 41 v) (h : DataW.Trod enc Tryz.prog w base spare held 41 v d p) (hw : (d.weights Tryz.prog 41).all (· ≤ reachBytes) = true) :
    ∃ (q : Option Addr) (c : Nat) (l : List PSpan), v = .slice q l.length c ∧ Spans w (.slice q l.length c) l := by
  obtain ⟨q, n, c, rfl⟩ := okWide_slice Tryz.underlying41 hv
  obtain ⟨fuel, hf⟩ := h
  obtain ⟨u, xs, hc, hs, _⟩ := ops_Span fuel _ (d, p) hf hw
  have hu : u = .slice q n c := by
    have : [Value.slice q n c] = [u] := hc
    exact (List.cons.inj this).1.symm
  subst hu
  obtain ⟨q', c', e⟩ := sv_slice hs
  cases e
  exact ⟨q, c, xs, rfl, hs⟩
end
end Go.Proofs.YtfoaaglbpmmhiaaGreatDoor

/- The great tables of utf8 stand in every world of a row. -/
namespace Go.Proofs.YtfoaaglbpmmhiaaGreatDoor
open Go.RowKit
theorem ml_of {W : World} (h : W.ShapedOpen Tryz.prog) : ML W := Tryz.laysM146.s1_3 W h
end Go.Proofs.YtfoaaglbpmmhiaaGreatDoor
