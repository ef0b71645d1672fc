/- Plain functions of layer 19 (mask), and their laws; no program in sight. -/
import Derived.Test.YtaaneecceiefoaaDoorKitA
namespace Go.Proofs.YtaaneecceiefoaaDoor.Ma
set_option linter.unusedVariables false
set_option linter.unusedSimpArgs false
inductive PMask where
  | mk (num : Int) (subs : List PMask)
def PMask.num : PMask → Int
  | .mk n _ => n
def PMask.subs : PMask → List PMask
  | .mk _ l => l
theorem PMask.eta (x : PMask) : PMask.mk x.num x.subs = x := by cases x; rfl
theorem PMask.ext2 {x y : PMask} (h1 : x.num = y.num) (h2 : x.subs = y.subs) : x = y := by
  rw [← x.eta, ← y.eta, h1, h2]
def whole (x : PMask) : Bool := x.subs.isEmpty
/-- the first with a number -/
def find (l : List PMask) (k : Int) : Option PMask := l.find? (fun x => decide (x.num = k))
/-- at most n levels -/
def Dp : Nat → List PMask → Prop
  | 0, l => l = []
  | n + 1, l => ∀ x ∈ l, Dp n x.subs
def Asc (l : List PMask) : Prop := l.Pairwise (fun x y => x.num < y.num)
/-- sorted on every level, and at most n levels -/
def Srt : Nat → List PMask → Prop
  | 0, l => l = []
  | n + 1, l => Asc l ∧ ∀ x ∈ l, Srt n x.subs
theorem Srt.asc {n : Nat} {l : List PMask} (h : Srt n l) : Asc l := by
  cases n with
  | zero => rw [show l = [] from h]; exact List.Pairwise.nil
  | succ n => exact h.1
theorem Srt.dp : ∀ {n : Nat} {l : List PMask}, Srt n l → Dp n l
  | 0, _, h => h
  | n + 1, _, h => fun x hx => Srt.dp (h.2 x hx)
theorem Srt.nil : ∀ n : Nat, Srt n []
  | 0 => rfl
  | n + 1 => ⟨List.Pairwise.nil, fun x hx => by cases hx⟩
theorem Dp.nil : ∀ n : Nat, Dp n []
  | 0 => rfl
  | n + 1 => fun x hx => by cases hx
theorem Srt.up : ∀ {n : Nat} {l : List PMask}, Srt n l → Srt (n + 1) l
  | 0, l, h => by rw [show l = [] from h]; exact Srt.nil 1
  | n + 1, l, h => ⟨h.1, fun x hx => Srt.up (h.2 x hx)⟩
theorem Dp.up : ∀ {n : Nat} {l : List PMask}, Dp n l → Dp (n + 1) l
  | 0, l, h => by rw [show l = [] from h]; exact Dp.nil 1
  | n + 1, l, h => fun x hx => Dp.up (h x hx)
theorem Srt.le {n m : Nat} {l : List PMask} (h : Srt n l) (hm : n ≤ m) : Srt m l := by
  induction hm with
  | refl => exact h
  | step _ ih => exact ih.up
theorem Dp.le {n m : Nat} {l : List PMask} (h : Dp n l) (hm : n ≤ m) : Dp m l := by
  induction hm with
  | refl => exact h
  | step _ ih => exact ih.up
/-! finding -/
theorem find_nil (k : Int) : find [] k = none := rfl
theorem find_cons (x : PMask) (l : List PMask) (k : Int) : find (x :: l) k = if x.num = k then some x else find l k := by
  unfold find
  rw [List.find?_cons]
  by_cases h : x.num = k <;> simp [h]
theorem find_some {l : List PMask} {k : Int} {x : PMask} (h : find l k = some x) : x ∈ l ∧ x.num = k := by
  refine ⟨List.mem_of_find?_eq_some h, ?_⟩
  have := List.find?_some h
  simpa using this
theorem find_none {l : List PMask} {k : Int} : find l k = none ↔ ∀ x ∈ l, x.num ≠ k := by
  unfold find
  rw [List.find?_eq_none]
  simp
theorem find_append (a b : List PMask) (k : Int) : find (a ++ b) k = (find a k).or (find b k) := by
  unfold find
  rw [List.find?_append]
theorem Asc.head {x : PMask} {l : List PMask} (h : Asc (x :: l)) : ∀ y ∈ l, x.num < y.num := (List.pairwise_cons.1 h).1
theorem Asc.tail {x : PMask} {l : List PMask} (h : Asc (x :: l)) : Asc l := (List.pairwise_cons.1 h).2
theorem find_mem {l : List PMask} (h : Asc l) {x : PMask} (hx : x ∈ l) : find l x.num = some x := by
  induction l with
  | nil => cases hx
  | cons y l ih =>
    rw [find_cons]
    rcases List.mem_cons.1 hx with rfl | hx
    · rw [if_pos rfl]
    · rw [if_neg (by have := h.head x hx; omega)]
      exact ih h.tail hx
theorem find_lt {x : PMask} {l : List PMask} (h : Asc (x :: l)) {k : Int} (hk : k ≤ x.num) : find l k = none :=
  find_none.2 fun y hy => by have := h.head y hy; omega
/-- two ascending lists in which the same is found are equal -/
theorem ext : ∀ {a b : List PMask}, Asc a → Asc b → (∀ k, find a k = find b k) → a = b
  | [], [], _, _, _ => rfl
  | [], y :: b, _, _, h => by have := h y.num; rw [find_nil, find_cons, if_pos rfl] at this; cases this
  | x :: a, [], _, _, h => by have := h x.num; rw [find_nil, find_cons, if_pos rfl] at this; cases this
  | x :: a, y :: b, ha, hb, h => by
    have h1 := h x.num
    have h2 := h y.num
    rw [find_cons, if_pos rfl, find_cons] at h1
    rw [find_cons, find_cons (x := y), if_pos rfl] at h2
    have hxy : x = y := by
      by_cases e : y.num = x.num
      · rw [if_pos e] at h1; exact Option.some.inj h1
      · rw [if_neg e] at h1
        rw [if_neg (fun e' => e e'.symm)] at h2
        have m1 := (find_some h1.symm).1
        have m2 := (find_some h2).1
        have := hb.head x m1
        have := ha.head y m2
        omega
    subst hxy
    refine congrArg (x :: ·) (ext ha.tail hb.tail fun k => ?_)
    have := h k
    rw [find_cons, find_cons] at this
    by_cases e : x.num = k
    · subst e
      rw [find_lt ha (Int.le_refl _), find_lt hb (Int.le_refl _)]
    · rwa [if_neg e, if_neg e] at this
/-! sorting -/
def ins (x : PMask) : List PMask → List PMask
  | [] => [x]
  | y :: l => if x.num ≤ y.num then x :: y :: l else y :: ins x l
def isort : List PMask → List PMask
  | [] => []
  | x :: l => ins x (isort l)
theorem mem_ins {x z : PMask} : ∀ {l : List PMask}, z ∈ ins x l ↔ z = x ∨ z ∈ l
  | [] => by simp [ins]
  | y :: l => by
    unfold ins
    split
    · simp
    · simp only [List.mem_cons, mem_ins (l := l)]
      constructor
      · rintro (h | h | h)
        · exact .inr (.inl h)
        · exact .inl h
        · exact .inr (.inr h)
      · rintro (h | h | h)
        · exact .inr (.inl h)
        · exact .inl h
        · exact .inr (.inr h)
theorem mem_isort {z : PMask} : ∀ {l : List PMask}, z ∈ isort l ↔ z ∈ l
  | [] => by simp [isort]
  | x :: l => by unfold isort; rw [mem_ins, mem_isort (l := l), List.mem_cons]
/-- different numbers -/
def Dif (l : List PMask) : Prop := l.Pairwise (fun x y => x.num ≠ y.num)
theorem asc_ins {x : PMask} : ∀ {l : List PMask}, Asc l → (∀ y ∈ l, x.num ≠ y.num) → Asc (ins x l)
  | [], _, _ => List.pairwise_singleton ..
  | y :: l, h, hd => by
    unfold ins
    have hy := hd y (List.mem_cons_self ..)
    split
    · refine List.pairwise_cons.2 ⟨fun z hz => ?_, h⟩
      rcases List.mem_cons.1 hz with rfl | hz
      · omega
      · have := h.head z hz; omega
    · refine List.pairwise_cons.2 ⟨fun z hz => ?_, asc_ins h.tail (fun z hz => hd z (List.mem_cons_of_mem _ hz))⟩
      rcases mem_ins.1 hz with rfl | hz
      · omega
      · exact h.head z hz
theorem asc_isort : ∀ {l : List PMask}, Dif l → Asc (isort l)
  | [], _ => List.Pairwise.nil
  | x :: l, h => asc_ins (asc_isort (List.pairwise_cons.1 h).2) (fun y hy => (List.pairwise_cons.1 h).1 y (mem_isort.1 hy))
theorem find_dif : ∀ {l : List PMask}, Dif l → ∀ {x : PMask}, x ∈ l → find l x.num = some x
  | y :: l, h, x, hx => by
    rw [find_cons]
    rcases List.mem_cons.1 hx with rfl | hx
    · rw [if_pos rfl]
    · rw [if_neg ((List.pairwise_cons.1 h).1 x hx)]
      exact find_dif (List.pairwise_cons.1 h).2 hx
theorem find_same {a b : List PMask} (ha : Dif a) (hb : Dif b) (h : ∀ x, x ∈ a ↔ x ∈ b) (k : Int) : find a k = find b k := by
  cases e : find a k with
  | none =>
    refine (find_none.2 fun x hx => ?_).symm
    exact find_none.1 e x ((h x).2 hx)
  | some x =>
    obtain ⟨h1, h2⟩ := find_some e
    subst h2
    exact (find_dif hb ((h x).1 h1)).symm
theorem Asc.dif {l : List PMask} (h : Asc l) : Dif l := List.Pairwise.imp (R := fun x y : PMask => x.num < y.num) (fun hab => by omega) h
theorem find_isort {l : List PMask} (h : Dif l) (k : Int) : find (isort l) k = find l k := find_same (asc_isort h).dif h (fun _ => mem_isort) k
/-- what a sort leaves is the sorted list -/
theorem sort_eq {l l' : List PMask} (h : Dif l) (hp : l'.Perm l) (hs : l'.Pairwise (fun x y => x.num ≤ y.num)) : l' = isort l := by
  have hd : Dif l' := (hp.pairwise_iff (R := fun x y : PMask => x.num ≠ y.num) (fun hab => Ne.symm hab)).2 h
  have ha : Asc l' := by
    have := List.Pairwise.and hs hd
    exact List.Pairwise.imp (R := fun x y : PMask => x.num ≤ y.num ∧ x.num ≠ y.num) (fun hab => by omega) this
  exact ext ha (asc_isort h) fun k => (find_same hd h (fun x => hp.mem_iff) k).trans (find_isort h k).symm
/-! union -/
def joinF (f : List PMask → List PMask → List PMask) (x y : PMask) : PMask := .mk x.num (if whole x || whole y then [] else f x.subs y.subs)
def uniA (f : List PMask → List PMask → List PMask) (b : List PMask) (x : PMask) : PMask := match find b x.num with
  | some y => joinF f x y
  | none => x
theorem uniA_num (f : List PMask → List PMask → List PMask) (b : List PMask) (x : PMask) : (uniA f b x).num = x.num := by
  unfold uniA
  split <;> rfl
def rawUnion (f : List PMask → List PMask → List PMask) (a b : List PMask) : List PMask := a.map (uniA f b) ++ b.filter (fun y => (find a y.num).isNone)
def union : Nat → List PMask → List PMask → List PMask
  | 0, _, _ => []
  | n + 1, a, b => isort (rawUnion (union n) a b)
/-- the reference's: of two elements the one with the lesser number first -/
def mergeF (f : List PMask → List PMask → List PMask) : Nat → List PMask → List PMask → List PMask
  | 0, _, _ => []
  | _ + 1, [], b => b
  | _ + 1, a, [] => a
  | n + 1, x :: a, y :: b => if x.num < y.num then x :: mergeF f n a (y :: b) else if y.num < x.num then y :: mergeF f n (x :: a) b else joinF f x y :: mergeF f n a b
def unionR : Nat → List PMask → List PMask → List PMask
  | 0, _, _ => []
  | n + 1, a, b => mergeF (unionR n) (a.length + b.length) a b
/-- what is found in a union -/
def uniO (f : List PMask → List PMask → List PMask) : Option PMask → Option PMask → Option PMask
  | some x, some y => some (joinF f x y)
  | some x, none => some x
  | none, y => y
theorem find_map (F : PMask → PMask) (hF : ∀ x, (F x).num = x.num) (l : List PMask) (k : Int) : find (l.map F) k = (find l k).map F := by
  induction l with
  | nil => rfl
  | cons x l ih =>
    rw [List.map_cons, find_cons, find_cons, hF, ih]
    split <;> rfl
theorem find_filter {p : PMask → Bool} {k : Int} (hp : ∀ x : PMask, x.num = k → p x = true) (l : List PMask) : find (l.filter p) k = find l k := by
  induction l with
  | nil => rfl
  | cons x l ih =>
    by_cases e : x.num = k
    · rw [List.filter_cons_of_pos (hp x e), find_cons, find_cons, if_pos e, if_pos e]
    · rw [find_cons, if_neg e]
      by_cases q : p x = true
      · rw [List.filter_cons_of_pos q, find_cons, if_neg e, ih]
      · rw [List.filter_cons_of_neg q, ih]
theorem find_raw (f : List PMask → List PMask → List PMask) (a b : List PMask) (k : Int) : find (rawUnion f a b) k = uniO f (find a k) (find b k) := by
  unfold rawUnion
  rw [find_append, find_map _ (uniA_num f b)]
  cases e : find a k with
  | some x =>
    have hk := (find_some e).2
    show some (uniA f b x) = _
    unfold uniA
    rw [hk]
    cases find b k <;> rfl
  | none =>
    show find _ k = find b k
    exact find_filter (fun x hx => by rw [hx, e]; rfl) b
theorem dif_raw (f : List PMask → List PMask → List PMask) {a b : List PMask} (ha : Asc a) (hb : Asc b) : Dif (rawUnion f a b) := by
  unfold rawUnion Dif
  rw [List.pairwise_append]
  refine ⟨?_, (hb.dif).filter _, fun x hx y hy => ?_⟩
  · rw [List.pairwise_map]
    exact List.Pairwise.imp (R := fun x y : PMask => x.num ≠ y.num) (fun hxy => by rw [uniA_num, uniA_num]; exact hxy) ha.dif
  · obtain ⟨x0, h1, rfl⟩ := List.mem_map.1 hx
    have h2 := (List.mem_filter.1 hy).2
    rw [Option.isNone_iff_eq_none] at h2
    rw [uniA_num]
    exact find_none.1 h2 x0 h1
theorem find_union {n : Nat} {a b : List PMask} (ha : Asc a) (hb : Asc b) (k : Int) : find (union (n + 1) a b) k = uniO (union n) (find a k) (find b k) := by
  show find (isort _) k = _
  rw [find_isort (dif_raw _ ha hb), find_raw]
theorem asc_union {n : Nat} {a b : List PMask} (ha : Asc a) (hb : Asc b) : Asc (union n a b) := by
  cases n with
  | zero => exact List.Pairwise.nil
  | succ n => exact asc_isort (dif_raw _ ha hb)
theorem find_merge (f : List PMask → List PMask → List PMask) : ∀ (m : Nat) {a b : List PMask}, a.length + b.length ≤ m → Asc a → Asc b → (∀ k, find (mergeF f m a b) k = uniO f (find a k) (find b k)) ∧ Asc (mergeF f m a b) ∧ ∀ z ∈ mergeF f m a b, (∃ x ∈ a, z.num = x.num) ∨ ∃ y ∈ b, z.num = y.num
  | 0, [], [], _, _, _ => ⟨fun _ => rfl, List.Pairwise.nil, fun z hz => by cases hz⟩
  | 0, x :: a, _, hl, _, _ => by simp at hl
  | 0, [], y :: b, hl, _, _ => by simp at hl
  | m + 1, [], b, _, _, hb => ⟨fun _ => rfl, hb, fun z hz => .inr ⟨z, hz, rfl⟩⟩
  | m + 1, x :: a, [], _, ha, _ => by
    refine ⟨fun k => ?_, ha, fun z hz => .inl ⟨z, hz, rfl⟩⟩
    show find (x :: a) k = uniO f (find (x :: a) k) none
    cases find (x :: a) k <;> rfl
  | m + 1, x :: a, y :: b, hl, ha, hb => by
    simp only [List.length_cons] at hl
    unfold mergeF
    split
    · rename_i h
      obtain ⟨i1, i2, i3⟩ := find_merge f m (a := a) (b := y :: b) (by simp; omega) ha.tail hb
      refine ⟨fun k => ?_, List.pairwise_cons.2 ⟨fun z hz => ?_, i2⟩, fun z hz => ?_⟩
      · rw [find_cons, i1, find_cons (x := x)]
        by_cases e : x.num = k
        · rw [if_pos e, if_pos e]
          rw [find_cons, if_neg (by omega), find_lt hb (by omega)]
          rfl
        · rw [if_neg e, if_neg e]
      · rcases i3 z hz with ⟨u, hu, e⟩ | ⟨u, hu, e⟩
        · have := ha.head u hu; omega
        · rcases List.mem_cons.1 hu with rfl | hu
          · omega
          · have := hb.head u hu; omega
      · rcases List.mem_cons.1 hz with rfl | hz
        · exact .inl ⟨_, List.mem_cons_self .., rfl⟩
        · rcases i3 z hz with ⟨u, hu, e⟩ | h
          · exact .inl ⟨u, List.mem_cons_of_mem _ hu, e⟩
          · exact .inr h
    · rename_i h
      split
      · rename_i h'
        obtain ⟨i1, i2, i3⟩ := find_merge f m (a := x :: a) (b := b) (by simp; omega) ha hb.tail
        refine ⟨fun k => ?_, List.pairwise_cons.2 ⟨fun z hz => ?_, i2⟩, fun z hz => ?_⟩
        · rw [find_cons, i1, find_cons (x := y)]
          by_cases e : y.num = k
          · rw [if_pos e, if_pos e]
            rw [find_cons, if_neg (by omega), find_lt ha (by omega)]
            rfl
          · rw [if_neg e, if_neg e]
        · rcases i3 z hz with ⟨u, hu, e⟩ | ⟨u, hu, e⟩
          · rcases List.mem_cons.1 hu with rfl | hu
            · omega
            · have := ha.head u hu; omega
          · have := hb.head u hu; omega
        · rcases List.mem_cons.1 hz with rfl | hz
          · exact .inr ⟨_, List.mem_cons_self .., rfl⟩
          · rcases i3 z hz with h | ⟨u, hu, e⟩
            · exact .inl h
            · exact .inr ⟨u, List.mem_cons_of_mem _ hu, e⟩
      · rename_i h'
        have hxy : x.num = y.num := by omega
        obtain ⟨i1, i2, i3⟩ := find_merge f m (a := a) (b := b) (by omega) ha.tail hb.tail
        refine ⟨fun k => ?_, List.pairwise_cons.2 ⟨fun z hz => ?_, i2⟩, fun z hz => ?_⟩
        · rw [find_cons, i1, find_cons (x := x), find_cons (x := y)]
          show (if x.num = k then _ else _) = _
          by_cases e : x.num = k
          · rw [if_pos e, if_pos e, if_pos (by omega)]
            rfl
          · rw [if_neg e, if_neg e, if_neg (by omega)]
        · show x.num < z.num
          rcases i3 z hz with ⟨u, hu, e⟩ | ⟨u, hu, e⟩
          · have := ha.head u hu; omega
          · have := hb.head u hu; omega
        · rcases List.mem_cons.1 hz with rfl | hz
          · exact .inl ⟨x, List.mem_cons_self .., rfl⟩
          · rcases i3 z hz with ⟨u, hu, e⟩ | ⟨u, hu, e⟩
            · exact .inl ⟨u, List.mem_cons_of_mem _ hu, e⟩
            · exact .inr ⟨u, List.mem_cons_of_mem _ hu, e⟩
/-- both sides' unions of sorted masks are equal -/
theorem union_eq : ∀ (n : Nat) {a b : List PMask}, Srt n a → Srt n b → union n a b = unionR n a b
  | 0, _, _, _, _ => rfl
  | n + 1, a, b, ha, hb => by
    obtain ⟨h1, h2, _⟩ := find_merge (unionR n) (a.length + b.length) (Nat.le_refl _) ha.1 hb.1
    refine ext (asc_union ha.1 hb.1) h2 fun k => ?_
    rw [find_union ha.1 hb.1]
    refine Eq.trans ?_ (h1 k).symm
    cases ea : find a k with
    | none => rfl
    | some x =>
      cases eb : find b k with
      | none => rfl
      | some y =>
        show some (joinF _ x y) = some (joinF _ x y)
        unfold joinF
        rw [union_eq n (ha.2 x (find_some ea).1) (hb.2 y (find_some eb).1)]
end Go.Proofs.YtaaneecceiefoaaDoor.Ma

/- Plain laws of layer 19 (mask): meet, covers, minus, normal masks and their algebra; no program in sight. -/
namespace Go.Proofs.YtaaneecceiefoaaDoor.Ma
set_option linter.unusedVariables false
set_option linter.unusedSimpArgs false
theorem whole_iff {x : PMask} : whole x = true ↔ x.subs = [] := by unfold whole; exact List.isEmpty_iff
theorem whole_mk (k : Int) (l : List PMask) : whole (.mk k l) = l.isEmpty := rfl
/-! meet -/
def meetO (f : List PMask → List PMask → List PMask) (x y : PMask) : Option PMask := if whole x then some y else if whole y then some x else if (f x.subs y.subs).isEmpty then none else some (.mk x.num (f x.subs y.subs))
def pickO (f : List PMask → List PMask → List PMask) (b : List PMask) (x : PMask) : Option PMask := (find b x.num).bind (meetO f x)
def meet : Nat → List PMask → List PMask → List PMask
  | 0, _, _ => []
  | n + 1, a, b => a.filterMap (pickO (meet n) b)
theorem pickO_num {f : List PMask → List PMask → List PMask} {b : List PMask} {x z : PMask} (h : pickO f b x = some z) : z.num = x.num := by
  unfold pickO at h
  obtain ⟨y, h1, h2⟩ := Option.bind_eq_some_iff.1 h
  have hy := (find_some h1).2
  unfold meetO at h2
  split at h2
  · cases h2; exact hy
  · split at h2
    · cases h2; rfl
    · split at h2
      · cases h2
      · cases h2; rfl
/-- what is found where elements are kept, changed or dropped -/
theorem find_fm {F : PMask → Option PMask} (hF : ∀ x z, F x = some z → z.num = x.num) : ∀ {l : List PMask}, Asc l → ∀ k, find (l.filterMap F) k = (find l k).bind F
  | [], _, _ => rfl
  | x :: l, h, k => by
    have ih := find_fm hF h.tail k
    rw [find_cons]
    by_cases e : x.num = k
    · rw [if_pos e]
      show _ = F x
      have hn : find l k = none := find_lt h (by omega)
      rw [hn] at ih
      cases q : F x with
      | none => rw [List.filterMap_cons_none q, ih]; rfl
      | some z => rw [List.filterMap_cons_some q, find_cons, if_pos (by rw [hF x z q]; exact e)]
    · rw [if_neg e]
      cases q : F x with
      | none => rw [List.filterMap_cons_none q, ih]
      | some z => rw [List.filterMap_cons_some q, find_cons, if_neg (by rw [hF x z q]; exact e), ih]
theorem asc_fm {F : PMask → Option PMask} (hF : ∀ x z, F x = some z → z.num = x.num) : ∀ {l : List PMask}, Asc l → Asc (l.filterMap F)
  | [], _ => List.Pairwise.nil
  | x :: l, h => by
    have ih := asc_fm hF h.tail
    cases q : F x with
    | none => rw [List.filterMap_cons_none q]; exact ih
    | some z =>
      rw [List.filterMap_cons_some q]
      refine List.pairwise_cons.2 ⟨fun u hu => ?_, ih⟩
      obtain ⟨v, hv, e⟩ := List.mem_filterMap.1 hu
      rw [hF x z q, hF v u e]
      exact h.head v hv
theorem find_meet {n : Nat} {a b : List PMask} (ha : Asc a) (k : Int) : find (meet (n + 1) a b) k = (find a k).bind (pickO (meet n) b) := find_fm (fun _ _ h => pickO_num h) ha k
theorem asc_meet {n : Nat} {a b : List PMask} (ha : Asc a) : Asc (meet n a b) := by
  cases n with
  | zero => exact List.Pairwise.nil
  | succ n => exact asc_fm (fun _ _ h => pickO_num h) ha
/-- what is found in a meet -/
def metO (f : List PMask → List PMask → List PMask) : Option PMask → Option PMask → Option PMask
  | some x, some y => meetO f x y
  | _, _ => none
theorem find_meet2 {n : Nat} {a b : List PMask} (ha : Asc a) (k : Int) : find (meet (n + 1) a b) k = metO (meet n) (find a k) (find b k) := by
  rw [find_meet ha]
  cases e : find a k with
  | none => rfl
  | some x =>
    show pickO _ b x = _
    unfold pickO
    rw [(find_some e).2]
    cases find b k <;> rfl
/-! the order does not matter -/
theorem joinF_comm {f : List PMask → List PMask → List PMask} {x y : PMask} (h : x.num = y.num) (hf : f x.subs y.subs = f y.subs x.subs) : joinF f x y = joinF f y x := by
  unfold joinF
  rw [h, hf, Bool.or_comm]
theorem union_comm : ∀ (n : Nat) {a b : List PMask}, Srt n a → Srt n b → union n a b = union n b a
  | 0, _, _, _, _ => rfl
  | n + 1, a, b, ha, hb => by
    refine ext (asc_union ha.1 hb.1) (asc_union hb.1 ha.1) fun k => ?_
    rw [find_union ha.1 hb.1, find_union hb.1 ha.1]
    cases ea : find a k with
    | none => cases find b k <;> rfl
    | some x =>
      cases eb : find b k with
      | none => rfl
      | some y =>
        obtain ⟨m1, k1⟩ := find_some ea
        obtain ⟨m2, k2⟩ := find_some eb
        exact congrArg some (joinF_comm (k1.trans k2.symm) (union_comm n (ha.2 x m1) (hb.2 y m2)))
theorem meet_comm : ∀ (n : Nat) {a b : List PMask}, Srt n a → Srt n b → meet n a b = meet n b a
  | 0, _, _, _, _ => rfl
  | n + 1, a, b, ha, hb => by
    refine ext (asc_meet ha.1) (asc_meet hb.1) fun k => ?_
    rw [find_meet2 ha.1, find_meet2 hb.1]
    cases ea : find a k with
    | none => cases find b k <;> rfl
    | some x =>
      cases eb : find b k with
      | none => rfl
      | some y =>
        obtain ⟨m1, k1⟩ := find_some ea
        obtain ⟨m2, k2⟩ := find_some eb
        have ih := meet_comm n (ha.2 x m1) (hb.2 y m2)
        have hk := k1.trans k2.symm
        show meetO _ x y = meetO _ y x
        unfold meetO
        rw [ih, hk]
        cases hx : whole x <;> cases hy : whole y
        · simp
        · simp
        · simp
        · simp only [if_true]
          exact congrArg some (PMask.ext2 hk.symm (by rw [whole_iff.1 hx, whole_iff.1 hy]))
/-! covers -/
def covOne (f : List PMask → List PMask → Bool) (a : List PMask) (y : PMask) : Bool := match find a y.num with
  | some x => whole x || (!whole y && f x.subs y.subs)
  | none => false
def covers : Nat → List PMask → List PMask → Bool
  | 0, _, _ => true
  | n + 1, a, b => b.all (covOne (covers n) a)
theorem covers_iff {n : Nat} {a b : List PMask} : covers (n + 1) a b = true ↔ ∀ y ∈ b, ∃ x, find a y.num = some x ∧ (whole x = true ∨ (whole y = false ∧ covers n x.subs y.subs = true)) := by
  show b.all _ = true ↔ _
  rw [List.all_eq_true]
  refine ⟨fun h y hy => ?_, fun h y hy => ?_⟩
  · have := h y hy
    unfold covOne at this
    cases e : find a y.num with
    | none => rw [e] at this; cases this
    | some x =>
      rw [e] at this
      refine ⟨x, rfl, ?_⟩
      simpa [Bool.or_eq_true, Bool.and_eq_true] using this
  · obtain ⟨x, h1, h2⟩ := h y hy
    unfold covOne
    rw [h1]
    simpa [Bool.or_eq_true, Bool.and_eq_true] using h2
theorem covers_refl : ∀ (n : Nat) {a : List PMask}, Srt n a → covers n a a = true
  | 0, _, _ => rfl
  | n + 1, a, ha => covers_iff.2 fun y hy => ⟨y, find_mem ha.1 hy, by
      cases hw : whole y with
      | true => exact .inl rfl
      | false => exact .inr ⟨rfl, covers_refl n (ha.2 y hy)⟩⟩
/-- covers agrees with union -/
theorem covers_union : ∀ (n : Nat) {a b : List PMask}, Srt n a → Srt n b → (covers n a b = true ↔ union n a b = a)
  | 0, a, b, ha, hb => by
    rw [show a = [] from ha]
    exact ⟨fun _ => rfl, fun _ => rfl⟩
  | n + 1, a, b, ha, hb => by
    rw [covers_iff]
    constructor
    · intro h
      refine ext (asc_union ha.1 hb.1) ha.1 fun k => ?_
      rw [find_union ha.1 hb.1]
      cases eb : find b k with
      | none => cases find a k <;> rfl
      | some y =>
        obtain ⟨m2, k2⟩ := find_some eb
        obtain ⟨x, h1, h2⟩ := h y m2
        rw [k2] at h1
        rw [h1]
        obtain ⟨m1, k1⟩ := find_some h1
        refine congrArg some (PMask.ext2 rfl ?_)
        show (if _ then _ else _) = _
        cases hw : whole x with
        | true => simp [whole_iff.1 hw]
        | false =>
          rw [hw] at h2
          rcases h2 with h2 | ⟨h2, h3⟩
          · cases h2
          · rw [h2]
            simpa using (covers_union n (ha.2 x m1) (hb.2 y m2)).1 h3
    · intro h y hy
      have hf := find_mem hb.1 hy
      have := congrArg (fun l => find l y.num) h
      (try dsimp only at this)
      rw [find_union ha.1 hb.1, hf] at this
      cases ea : find a y.num with
      | none => rw [ea] at this; cases this
      | some x =>
        rw [ea] at this
        refine ⟨x, rfl, ?_⟩
        have hs := congrArg PMask.subs (Option.some.inj this)
        cases hw : whole x with
        | true => exact .inl rfl
        | false =>
          right
          have hx : x.subs ≠ [] := fun e => by rw [whole_iff.2 e] at hw; cases hw
          have hs2 : (if whole x || whole y then [] else union n x.subs y.subs) = x.subs := hs
          rw [hw] at hs2
          cases hy2 : whole y with
          | true => rw [hy2] at hs2; exact absurd hs2.symm hx
          | false =>
            rw [hy2] at hs2
            exact ⟨rfl, (covers_union n (ha.2 x (find_some ea).1) (hb.2 y hy)).2 (by simpa using hs2)⟩
/-- covers agrees with meet -/
theorem covers_meet : ∀ (n : Nat) {a b : List PMask}, Srt n a → Srt n b → (covers n a b = true ↔ meet n a b = b)
  | 0, a, b, ha, hb => by
    rw [show b = [] from hb]
    exact ⟨fun _ => rfl, fun _ => rfl⟩
  | n + 1, a, b, ha, hb => by
    rw [covers_iff]
    constructor
    · intro h
      refine ext (asc_meet ha.1) hb.1 fun k => ?_
      rw [find_meet2 ha.1]
      cases eb : find b k with
      | none => cases find a k <;> rfl
      | some y =>
        obtain ⟨m2, k2⟩ := find_some eb
        obtain ⟨x, h1, h2⟩ := h y m2
        rw [k2] at h1
        rw [h1]
        obtain ⟨m1, k1⟩ := find_some h1
        show meetO _ x y = some y
        unfold meetO
        cases hw : whole x with
        | true => simp
        | false =>
          rw [hw] at h2
          rcases h2 with h2 | ⟨h2, h3⟩
          · cases h2
          · rw [h2]
            have hm := (covers_meet n (ha.2 x m1) (hb.2 y m2)).1 h3
            have hy : y.subs ≠ [] := fun e => by rw [whole_iff.2 e] at h2; cases h2
            rw [hm]
            have he : y.subs.isEmpty = false := by simpa using hy
            simp only [Bool.false_eq_true, if_false, he]
            exact congrArg some (PMask.ext2 (k1.trans k2.symm) rfl)
    · intro h y hy
      have hf := find_mem hb.1 hy
      have := congrArg (fun l => find l y.num) h
      (try dsimp only at this)
      rw [find_meet2 ha.1, hf] at this
      cases ea : find a y.num with
      | none => rw [ea] at this; cases this
      | some x =>
        rw [ea] at this
        refine ⟨x, rfl, ?_⟩
        have hs : meetO (meet n) x y = some y := this
        unfold meetO at hs
        cases hw : whole x with
        | true => exact .inl rfl
        | false =>
          right
          rw [hw] at hs
          cases hy2 : whole y with
          | true =>
            rw [hy2] at hs
            simp only [Bool.false_eq_true, if_false, if_true] at hs
            cases hs
            rw [hw] at hy2
            cases hy2
          | false =>
            rw [hy2] at hs
            simp only [Bool.false_eq_true, if_false] at hs
            split at hs
            · cases hs
            · have := congrArg PMask.subs (Option.some.inj hs)
              exact ⟨rfl, (covers_meet n (ha.2 x (find_some ea).1) (hb.2 y hy)).2 this⟩
end Go.Proofs.YtaaneecceiefoaaDoor.Ma

/- Plain laws of layer 19 (mask): normal masks of a message, minus, and what the operations keep; no program in sight. -/
namespace Go.Proofs.YtaaneecceiefoaaDoor.Ma
set_option linter.unusedVariables false
set_option linter.unusedSimpArgs false
/-- what a mask has to know of a schema: is there a message; a field's 'is it a single message' and its type's name; the fields' numbers -/
structure Env where
  has : List UInt8 → Bool
  fld : List UInt8 → Int → Option (Bool × List UInt8)
  nums : List UInt8 → List Int
def Env.ty (E : Env) (nm : List UInt8) (k : Int) : List UInt8 := ((E.fld nm k).map (·.2)).getD []
/-- of a valid schema -/
structure Env.Ok (E : Env) : Prop where
  asc : ∀ nm, (E.nums nm).Pairwise (· < ·)
  fld : ∀ nm k, k ∈ E.nums nm → (E.fld nm k).isSome = true
  has : ∀ nm k f, E.fld nm k = some f → f.1 = true → E.has f.2 = true
/-- normal -/
def Nm (E : Env) : Nat → List UInt8 → List PMask → Prop
  | 0, nm, l => E.has nm = true ∧ l = []
  | n + 1, nm, l => E.has nm = true ∧ Asc l ∧ ∀ x ∈ l, ∃ f, E.fld nm x.num = some f ∧ (x.subs = [] ∨ (f.1 = true ∧ Nm E n f.2 x.subs))
theorem Nm.hs {E : Env} {n : Nat} {nm : List UInt8} {l : List PMask} (h : Nm E n nm l) : E.has nm = true := by
  cases n <;> exact h.1
theorem Nm.srt {E : Env} : ∀ {n : Nat} {nm : List UInt8} {l : List PMask}, Nm E n nm l → Srt n l
  | 0, _, _, h => h.2
  | n + 1, nm, l, h => ⟨h.2.1, fun x hx => by
    obtain ⟨f, _, h2⟩ := h.2.2 x hx
    rcases h2 with e | ⟨_, h2⟩
    · rw [e]; exact Srt.nil n
    · exact h2.srt⟩
theorem Nm.nil {E : Env} {nm : List UInt8} (h : E.has nm = true) : ∀ n : Nat, Nm E n nm []
  | 0 => ⟨h, rfl⟩
  | n + 1 => ⟨h, List.Pairwise.nil, fun x hx => by cases hx⟩
/-! the check -/
def chkGo (E : Env) (rec : List UInt8 → List PMask → Int) (nm : List UInt8) : Option Int → List PMask → Int
  | _, [] => 0
  | pv, x :: r => if (pv.any fun p => decide (x.num ≤ p)) = true then 11 else match E.fld nm x.num with
    | none => 8
    | some f => if whole x = true then chkGo E rec nm (some x.num) r else if f.1 = false then 12 else if rec f.2 x.subs ≠ 0 then rec f.2 x.subs else chkGo E rec nm (some x.num) r
def chk (E : Env) : Nat → List UInt8 → List PMask → Int
  | 0, nm, _ => if E.has nm then 0 else 10
  | n + 1, nm, l => if E.has nm then chkGo E (chk E n) nm none l else 10
theorem chkGo_iff {E : Env} {rec : List UInt8 → List PMask → Int} {nm : List UInt8} : ∀ (l : List PMask) (pv : Option Int), chkGo E rec nm pv l = 0 ↔ (∀ p, pv = some p → ∀ x ∈ l, p < x.num) ∧ Asc l ∧ ∀ x ∈ l, ∃ f, E.fld nm x.num = some f ∧ (x.subs = [] ∨ (f.1 = true ∧ rec f.2 x.subs = 0))
  | [], pv => by
    refine ⟨fun _ => ⟨fun p _ x hx => (by cases hx), List.Pairwise.nil, fun x hx => (by cases hx)⟩, fun _ => rfl⟩
  | x :: r, pv => by
    have ih := chkGo_iff (E := E) (rec := rec) (nm := nm) r (some x.num)
    unfold chkGo
    have hp : (pv.any fun p => decide (x.num ≤ p)) = true ↔ ∃ p, pv = some p ∧ x.num ≤ p := by
      cases pv <;> simp
    constructor
    · intro h
      split at h
      · cases h
      · rename_i h0
        rw [hp] at h0
        have hlt : ∀ p, pv = some p → p < x.num := fun p hq => by
          rcases Int.lt_or_le p x.num with h' | h'
          · exact h'
          · exact absurd ⟨p, hq, h'⟩ h0
        split at h
        · cases h
        · rename_i f hf
          have fin : chkGo E rec nm (some x.num) r = 0 → (x.subs = [] ∨ (f.1 = true ∧ rec f.2 x.subs = 0)) → _ := fun h1 h2 => by
            obtain ⟨g1, g2, g3⟩ := ih.1 h1
            refine (⟨fun p hq y hy => ?_, List.pairwise_cons.2 ⟨fun y hy => g1 _ rfl y hy, g2⟩, fun y hy => ?_⟩ : (∀ p, pv = some p → ∀ y ∈ x :: r, p < y.num) ∧ Asc (x :: r) ∧ ∀ y ∈ x :: r, ∃ f, E.fld nm y.num = some f ∧ (y.subs = [] ∨ (f.1 = true ∧ rec f.2 y.subs = 0)))
            · rcases List.mem_cons.1 hy with rfl | hy
              · exact hlt p hq
              · have := g1 _ rfl y hy
                have := hlt p hq
                omega
            · rcases List.mem_cons.1 hy with rfl | hy
              · exact ⟨f, hf, h2⟩
              · exact g3 y hy
          split at h
          · rename_i hw
            exact fin h (.inl (whole_iff.1 hw))
          · split at h
            · cases h
            · rename_i hs
              split at h
              · rename_i hr
                exact absurd h hr
              · rename_i hr
                exact fin h (.inr ⟨by simpa using hs, by simpa using hr⟩)
    · rintro ⟨h1, h2, h3⟩
      rw [if_neg (by
        rw [hp]
        rintro ⟨p, hq, h'⟩
        have := h1 p hq x (List.mem_cons_self ..)
        omega)]
      obtain ⟨f, hf, hx⟩ := h3 x (List.mem_cons_self ..)
      rw [hf]
      have hr : chkGo E rec nm (some x.num) r = 0 := ih.2 ⟨fun p hq y hy => by cases hq; exact h2.head y hy, h2.tail, fun y hy => h3 y (List.mem_cons_of_mem _ hy)⟩
      show (if _ then _ else _) = _
      rcases hx with e | ⟨e1, e2⟩
      · rw [if_pos (whole_iff.2 e)]
        exact hr
      · by_cases hw : whole x = true
        · rw [if_pos hw]; exact hr
        · rw [if_neg hw, if_neg (by rw [e1]; simp), if_neg (by simp [e2])]
          exact hr
theorem chk_iff {E : Env} : ∀ (n : Nat) (nm : List UInt8) (l : List PMask), Dp n l → (chk E n nm l = 0 ↔ Nm E n nm l)
  | 0, nm, l, hd => by
    unfold chk
    rw [show l = [] from hd]
    cases h : E.has nm with
    | true => exact ⟨fun _ => ⟨h, rfl⟩, fun _ => rfl⟩
    | false => exact ⟨fun h' => (by cases h'), fun h' => (by have := h'.1; rw [h] at this; cases this)⟩
  | n + 1, nm, l, hd => by
    unfold chk
    cases h : E.has nm with
    | false => exact ⟨fun h' => (by cases h'), fun h' => (by have := h'.1; rw [h] at this; cases this)⟩
    | true =>
      simp only [if_true]
      rw [chkGo_iff]
      constructor
      · rintro ⟨_, h2, h3⟩
        refine ⟨h, h2, fun x hx => ?_⟩
        obtain ⟨f, hf, hx'⟩ := h3 x hx
        refine ⟨f, hf, ?_⟩
        rcases hx' with e | ⟨e1, e2⟩
        · exact .inl e
        · exact .inr ⟨e1, (chk_iff n f.2 x.subs (hd x hx)).1 e2⟩
      · rintro ⟨_, h2, h3⟩
        refine ⟨fun p hq => (by cases hq), h2, fun x hx => ?_⟩
        obtain ⟨f, hf, hx'⟩ := h3 x hx
        refine ⟨f, hf, ?_⟩
        rcases hx' with e | ⟨e1, e2⟩
        · exact .inl e
        · exact .inr ⟨e1, (chk_iff n f.2 x.subs (hd x hx)).2 e2⟩
/-! union and meet of normal masks are normal -/
theorem union_nm {E : Env} : ∀ (n : Nat) {nm : List UInt8} {a b : List PMask}, Nm E n nm a → Nm E n nm b → Nm E n nm (union n a b)
  | 0, _, _, _, h, _ => ⟨h.1, rfl⟩
  | n + 1, nm, a, b, ha, hb => by
    have ac := asc_union (n := n + 1) ha.2.1 hb.2.1
    refine ⟨ha.1, ac, fun x hx => ?_⟩
    have hf := find_mem ac hx
    rw [find_union ha.2.1 hb.2.1] at hf
    cases ea : find a x.num with
    | none =>
      rw [ea] at hf
      exact hb.2.2 x (find_some hf).1
    | some u =>
      rw [ea] at hf
      obtain ⟨m1, k1⟩ := find_some ea
      obtain ⟨f, hf1, hf2⟩ := ha.2.2 u m1
      cases eb : find b x.num with
      | none =>
        rw [eb] at hf
        cases hf
        exact ⟨f, hf1, hf2⟩
      | some v =>
        rw [eb] at hf
        obtain ⟨m2, k2⟩ := find_some eb
        obtain ⟨g, hg1, hg2⟩ := hb.2.2 v m2
        have hj : joinF (union n) u v = x := Option.some.inj hf
        rw [k1] at hf1
        rw [k2] at hg1
        rw [hf1] at hg1
        cases hg1
        refine ⟨f, hf1, ?_⟩
        rw [← hj]
        unfold joinF
        cases hu : whole u with
        | true => exact .inl (by simp [PMask.subs])
        | false =>
          cases hv : whole v with
          | true => exact .inl (by simp [PMask.subs])
          | false =>
            rcases hf2 with e | ⟨e1, e2⟩
            · rw [whole_iff.2 e] at hu; cases hu
            · rcases hg2 with e | ⟨_, e3⟩
              · rw [whole_iff.2 e] at hv; cases hv
              · exact .inr ⟨e1, by simpa [PMask.subs] using union_nm n e2 e3⟩
theorem meet_nm {E : Env} : ∀ (n : Nat) {nm : List UInt8} {a b : List PMask}, Nm E n nm a → Nm E n nm b → Nm E n nm (meet n a b)
  | 0, _, _, _, h, _ => ⟨h.1, rfl⟩
  | n + 1, nm, a, b, ha, hb => by
    have ac := asc_meet (n := n + 1) (b := b) ha.2.1
    refine ⟨ha.1, ac, fun x hx => ?_⟩
    have hf := find_mem ac hx
    rw [find_meet2 ha.2.1] at hf
    cases ea : find a x.num with
    | none => rw [ea] at hf; cases hf
    | some u =>
      cases eb : find b x.num with
      | none => rw [ea, eb] at hf; cases hf
      | some v =>
        rw [ea, eb] at hf
        obtain ⟨m1, k1⟩ := find_some ea
        obtain ⟨m2, k2⟩ := find_some eb
        obtain ⟨f, hf1, hf2⟩ := ha.2.2 u m1
        obtain ⟨g, hg1, hg2⟩ := hb.2.2 v m2
        have hj : meetO (meet n) u v = some x := hf
        unfold meetO at hj
        split at hj
        · cases hj; exact ⟨g, hg1, hg2⟩
        · rename_i hu
          split at hj
          · cases hj; exact ⟨f, hf1, hf2⟩
          · rename_i hv
            split at hj
            · cases hj
            · have hx2 := Option.some.inj hj
              rw [k1] at hf1
              rw [k2] at hg1
              rw [hf1] at hg1
              cases hg1
              refine ⟨f, hf1, ?_⟩
              rcases hf2 with e | ⟨e1, e2⟩
              · exact absurd (whole_iff.2 e) hu
              · rcases hg2 with e | ⟨_, e3⟩
                · exact absurd (whole_iff.2 e) hv
                · rw [← hx2]
                  exact .inr ⟨e1, meet_nm n e2 e3⟩
/-! minus -/
def all (E : Env) (nm : List UInt8) : List PMask := (E.nums nm).map fun k => .mk k []
def fromF (E : Env) (nm : List UInt8) (x : PMask) : List PMask := if whole x then all E (E.ty nm x.num) else x.subs
def minO (E : Env) (f : List UInt8 → List PMask → List PMask → List PMask) (nm : List UInt8) (b : List PMask) (x : PMask) : Option PMask := match find b x.num with
  | none => some x
  | some y => if whole y then none else if (f (E.ty nm x.num) (fromF E nm x) y.subs).isEmpty then none else some (.mk x.num (f (E.ty nm x.num) (fromF E nm x) y.subs))
def minus (E : Env) : Nat → List UInt8 → List PMask → List PMask → List PMask
  | 0, _, a, _ => a
  | n + 1, nm, a, b => a.filterMap (minO E (minus E n) nm b)
theorem minO_num {E : Env} {f : List UInt8 → List PMask → List PMask → List PMask} {nm : List UInt8} {b : List PMask} {x z : PMask} (h : minO E f nm b x = some z) : z.num = x.num := by
  unfold minO at h
  split at h
  · cases h; rfl
  · split at h
    · cases h
    · split at h
      · cases h
      · cases h; rfl
theorem find_minus {E : Env} {n : Nat} {nm : List UInt8} {a b : List PMask} (ha : Asc a) (k : Int) : find (minus E (n + 1) nm a b) k = (find a k).bind (minO E (minus E n) nm b) := find_fm (fun _ _ h => minO_num h) ha k
theorem asc_minus {E : Env} {n : Nat} {nm : List UInt8} {a b : List PMask} (ha : Asc a) : Asc (minus E n nm a b) := by
  cases n with
  | zero => exact ha
  | succ n => exact asc_fm (fun _ _ h => minO_num h) ha
theorem asc_all {E : Env} (hE : E.Ok) (nm : List UInt8) : Asc (all E nm) := by
  unfold all Asc
  rw [List.pairwise_map]
  exact hE.asc nm
theorem all_nm {E : Env} (hE : E.Ok) {nm : List UInt8} (h : E.has nm = true) (n : Nat) : Nm E (n + 1) nm (all E nm) := by
  refine ⟨h, asc_all hE nm, fun x hx => ?_⟩
  obtain ⟨k, hk, rfl⟩ := List.mem_map.1 hx
  obtain ⟨f, hf⟩ := Option.isSome_iff_exists.1 (hE.fld nm k hk)
  exact ⟨f, hf, .inl rfl⟩
/-- what the fields of a partly selected element are taken from -/
theorem from_nm {E : Env} (hE : E.Ok) {n : Nat} {nm : List UInt8} {x y : PMask} {f : Bool × List UInt8} (hf : E.fld nm x.num = some f) (hx : x.subs = [] ∨ (f.1 = true ∧ Nm E n f.2 x.subs)) (hy : f.1 = true ∧ Nm E n f.2 y.subs) (hw : whole y = false) :
    E.ty nm x.num = f.2 ∧ Nm E n f.2 (fromF E nm x) := by
  have ht : E.ty nm x.num = f.2 := by unfold Env.ty; rw [hf]; rfl
  refine ⟨ht, ?_⟩
  unfold fromF
  rw [ht]
  cases e : whole x with
  | true =>
    simp only [if_true]
    cases n with
    | zero => rw [whole_iff.2 hy.2.2] at hw; cases hw
    | succ n => exact all_nm hE (hE.has _ _ _ hf hy.1) n
  | false =>
    rcases hx with h | h
    · rw [whole_iff.2 h] at e; cases e
    · simpa using h.2
theorem minus_nm {E : Env} (hE : E.Ok) : ∀ (n : Nat) {nm : List UInt8} {a b : List PMask}, Nm E n nm a → Nm E n nm b → Nm E n nm (minus E n nm a b)
  | 0, _, _, _, h, _ => h
  | n + 1, nm, a, b, ha, hb => by
    have ac := asc_minus (E := E) (n := n + 1) (nm := nm) (b := b) ha.2.1
    refine ⟨ha.1, ac, fun z hz => ?_⟩
    have hf := find_mem ac hz
    rw [find_minus ha.2.1] at hf
    obtain ⟨x, hx, hm⟩ := Option.bind_eq_some_iff.1 hf
    obtain ⟨m1, k1⟩ := find_some hx
    obtain ⟨f, hf1, hf2⟩ := ha.2.2 x m1
    unfold minO at hm
    split at hm
    · cases hm; exact ⟨f, hf1, hf2⟩
    · rename_i y hy
      obtain ⟨m2, k2⟩ := find_some hy
      obtain ⟨g, hg1, hg2⟩ := hb.2.2 y m2
      rw [k2, hf1] at hg1
      cases hg1
      split at hm
      · cases hm
      · rename_i hwy
        have hwy' : whole y = false := by simpa using hwy
        have hy2 : f.1 = true ∧ Nm E n f.2 y.subs := by
          rcases hg2 with e | e
          · exact absurd (whole_iff.2 e) hwy
          · exact e
        obtain ⟨t1, t2⟩ := from_nm hE hf1 hf2 hy2 hwy'
        rw [t1] at hm
        split at hm
        · cases hm
        · cases hm
          exact ⟨f, hf1, .inr ⟨hy2.1, minus_nm hE n t2 hy2.2⟩⟩
/-- what minus leaves is covered -/
theorem covers_minus {E : Env} (hE : E.Ok) : ∀ (n : Nat) {nm : List UInt8} {a b : List PMask}, Nm E n nm a → Nm E n nm b → covers n a (minus E n nm a b) = true
  | 0, _, _, _, _, _ => rfl
  | n + 1, nm, a, b, ha, hb => by
    have ac := asc_minus (E := E) (n := n + 1) (nm := nm) (b := b) ha.2.1
    refine covers_iff.2 fun z hz => ?_
    have hf := find_mem ac hz
    rw [find_minus ha.2.1] at hf
    obtain ⟨x, hx, hm⟩ := Option.bind_eq_some_iff.1 hf
    obtain ⟨m1, k1⟩ := find_some hx
    refine ⟨x, hx, ?_⟩
    obtain ⟨f, hf1, hf2⟩ := ha.2.2 x m1
    unfold minO at hm
    split at hm
    · have e := Option.some.inj hm
      subst e
      cases hw : whole x with
      | true => exact .inl rfl
      | false => exact .inr ⟨rfl, covers_refl n (ha.srt.2 x m1)⟩
    · rename_i y hy
      obtain ⟨m2, k2⟩ := find_some hy
      obtain ⟨g, hg1, hg2⟩ := hb.2.2 y m2
      rw [k2, hf1] at hg1
      cases hg1
      split at hm
      · cases hm
      · rename_i hwy
        have hwy' : whole y = false := by simpa using hwy
        have hy2 : f.1 = true ∧ Nm E n f.2 y.subs := by
          rcases hg2 with e | e
          · exact absurd (whole_iff.2 e) hwy
          · exact e
        obtain ⟨t1, t2⟩ := from_nm hE hf1 hf2 hy2 hwy'
        rw [t1] at hm
        split at hm
        · cases hm
        · rename_i hne
          cases hw : whole x with
          | true => exact .inl rfl
          | false =>
            right
            have e := Option.some.inj hm
            subst e
            have hfr : fromF E nm x = x.subs := by unfold fromF; rw [hw]; rfl
            rw [hfr] at t2 hne ⊢
            exact ⟨by rw [whole_mk]; simpa using hne, covers_minus hE n t2 hy2.2⟩
/-- what minus leaves does not meet the second mask -/
theorem meet_minus {E : Env} (hE : E.Ok) : ∀ (n : Nat) {nm : List UInt8} {a b : List PMask}, Nm E n nm a → Nm E n nm b → meet n (minus E n nm a b) b = []
  | 0, _, _, _, _, _ => rfl
  | n + 1, nm, a, b, ha, hb => by
    have ac := asc_minus (E := E) (n := n + 1) (nm := nm) (b := b) ha.2.1
    refine ext (asc_meet ac) List.Pairwise.nil fun k => ?_
    rw [find_meet2 ac, find_minus ha.2.1, find_nil]
    cases ea : find a k with
    | none => rfl
    | some x =>
      obtain ⟨m1, k1⟩ := find_some ea
      obtain ⟨f, hf1, hf2⟩ := ha.2.2 x m1
      show metO _ (minO E (minus E n) nm b x) (find b k) = none
      unfold minO
      rw [k1]
      cases eb : find b k with
      | none => rfl
      | some y =>
        obtain ⟨m2, k2⟩ := find_some eb
        obtain ⟨g, hg1, hg2⟩ := hb.2.2 y m2
        rw [k1] at hf1
        rw [k2, hf1] at hg1
        cases hg1
        dsimp only
        cases hwy : whole y with
        | true => rfl
        | false =>
          simp only [Bool.false_eq_true, if_false]
          have hy2 : f.1 = true ∧ Nm E n f.2 y.subs := by
            rcases hg2 with e | e
            · rw [whole_iff.2 e] at hwy; cases hwy
            · exact e
          have hf1' : E.fld nm x.num = some f := by rw [k1]; exact hf1
          obtain ⟨t1, t2⟩ := from_nm hE hf1' hf2 hy2 hwy
          rw [k1] at t1
          rw [t1]
          generalize hfr : fromF E nm x = fr at t2
          split
          · rfl
          · rename_i hne
            have hne' : (minus E n f.2 fr y.subs).isEmpty = false := by simpa using hne
            show meetO _ (.mk k (minus E n f.2 fr y.subs)) y = none
            unfold meetO
            rw [whole_mk, hwy, hne']
            simp only [Bool.false_eq_true, if_false]
            rw [show (PMask.mk k (minus E n f.2 fr y.subs)).subs = minus E n f.2 fr y.subs from rfl, meet_minus hE n t2 hy2.2]
            rfl
end Go.Proofs.YtaaneecceiefoaaDoor.Ma

/- Plain laws of layer 19 (mask): a mask is the union of its paths; no program in sight. -/
namespace Go.Proofs.YtaaneecceiefoaaDoor.Ma
set_option linter.unusedVariables false
set_option linter.unusedSimpArgs false
/-- the mask of a path -/
def nest : List Int → List PMask
  | [] => []
  | k :: r => [.mk k (nest r)]
/-- the paths of a mask, as numbers -/
def paths : Nat → List PMask → List (List Int)
  | 0, _ => []
  | n + 1, l => l.flatMap fun x => if whole x then [[x.num]] else (paths n x.subs).map (x.num :: ·)
def unionAll (n : Nat) (acc : List PMask) (l : List (List Int)) : List PMask := l.foldl (fun acc p => union n acc (nest p)) acc
theorem nest_ne {p : List Int} (h : p ≠ []) : (nest p).isEmpty = false := by
  cases p with
  | nil => exact absurd rfl h
  | cons k r => rfl
theorem asc_nest (p : List Int) : Asc (nest p) := by
  cases p with
  | nil => exact List.Pairwise.nil
  | cons k r => exact List.pairwise_singleton ..
theorem srt_nest : ∀ (n : Nat) (p : List Int), p.length ≤ n → Srt n (nest p)
  | 0, p, h => by rw [List.length_eq_zero_iff.1 (by omega : p.length = 0)]; rfl
  | n + 1, [], _ => Srt.nil _
  | n + 1, k :: r, h => ⟨List.pairwise_singleton .., fun x hx => by
    obtain rfl := List.mem_singleton.1 hx
    exact srt_nest n r (by simpa using h)⟩
theorem paths_ne : ∀ (n : Nat) {l : List PMask}, Dp n l → (∀ p ∈ paths n l, p ≠ [] ∧ p.length ≤ n) ∧ (l ≠ [] → paths n l ≠ [])
  | 0, l, h => ⟨fun p hp => (by cases hp), fun h' => absurd h h'⟩
  | n + 1, l, h => by
    refine ⟨fun p hp => ?_, fun hl => ?_⟩
    · obtain ⟨x, hx, hp⟩ := List.mem_flatMap.1 hp
      split at hp
      · obtain rfl := List.mem_singleton.1 hp
        exact ⟨by simp, by simp⟩
      · obtain ⟨q, hq, rfl⟩ := List.mem_map.1 hp
        have := ((paths_ne n (h x hx)).1 q hq).2
        exact ⟨by simp, by simpa using this⟩
    · cases l with
      | nil => exact absurd rfl hl
      | cons x l =>
        intro e
        have e := List.append_eq_nil_iff.1 (show (if whole x then [[x.num]] else (paths n x.subs).map (x.num :: ·)) ++ l.flatMap _ = [] from e)
        have e := e.1
        split at e
        · cases e
        · rename_i hw
          exact (paths_ne n (h x (List.mem_cons_self ..))).2 (fun h' => hw (whole_iff.2 h')) (List.map_eq_nil_iff.1 e)
theorem asc_snoc {a : List PMask} {x : PMask} (ha : Asc a) (h : ∀ y ∈ a, y.num < x.num) : Asc (a ++ [x]) :=
  List.pairwise_append.2 ⟨ha, List.pairwise_singleton .., fun y hy z hz => by obtain rfl := List.mem_singleton.1 hz; exact h y hy⟩
theorem find_below {a : List PMask} {k : Int} (h : ∀ y ∈ a, y.num < k) : find a k = none := find_none.2 fun y hy => by have := h y hy; omega
/-- a union with one element behind all others -/
theorem union_new {n : Nat} {a : List PMask} {x : PMask} (ha : Asc a) (h : ∀ y ∈ a, y.num < x.num) : union (n + 1) a [x] = a ++ [x] := by
  have hx : Asc [x] := List.pairwise_singleton ..
  refine ext (asc_union ha hx) (asc_snoc ha h) fun k => ?_
  rw [find_union ha hx, find_append]
  cases e : find a k with
  | none => rfl
  | some y =>
    obtain ⟨m, hk⟩ := find_some e
    rw [find_cons, if_neg (by have := h y m; omega)]
    rfl
/-- a union with another part of the last element -/
theorem union_last {n : Nat} {a : List PMask} {k : Int} {s t : List PMask} (ha : Asc a) (h : ∀ y ∈ a, y.num < k) (hs : s.isEmpty = false) (ht : t.isEmpty = false) : union (n + 1) (a ++ [.mk k s]) [.mk k t] = a ++ [.mk k (union n s t)] := by
  have h1 := asc_snoc (x := .mk k s) ha h
  have hx : Asc [PMask.mk k t] := List.pairwise_singleton ..
  refine ext (asc_union h1 hx) (asc_snoc (x := .mk k (union n s t)) ha h) fun j => ?_
  rw [find_union h1 hx, find_append, find_append]
  cases e : find a j with
  | some y =>
    obtain ⟨m, hk⟩ := find_some e
    rw [find_cons (x := .mk k t), if_neg (by have := h y m; show ¬ k = j; omega)]
    rfl
  | none =>
    rw [find_cons, find_cons, find_cons]
    show uniO _ (if k = j then _ else _) (if k = j then _ else _) = (if k = j then _ else _)
    by_cases e' : k = j
    · rw [if_pos e', if_pos e', if_pos e']
      show some (joinF _ _ _) = _
      unfold joinF
      rw [whole_mk, whole_mk, hs, ht]
      rfl
    · rw [if_neg e', if_neg e', if_neg e']
      rfl
theorem unionAll_under {n : Nat} {a : List PMask} {k : Int} (ha : Asc a) (h : ∀ y ∈ a, y.num < k) : ∀ (l : List (List Int)) (s : List PMask), s.isEmpty = false → (∀ p ∈ l, p ≠ []) → (∀ s t, s.isEmpty = false → (union n s t).isEmpty = false) → unionAll (n + 1) (a ++ [.mk k s]) (l.map (k :: ·)) = a ++ [.mk k (unionAll n s l)]
  | [], s, _, _, _ => rfl
  | p :: l, s, hs, hp, hu => by
    have hne := hp p (List.mem_cons_self ..)
    show unionAll (n + 1) (union (n + 1) (a ++ [.mk k s]) [.mk k (nest p)]) (l.map (k :: ·)) = _
    rw [union_last ha h hs (nest_ne hne)]
    exact unionAll_under ha h l _ (hu s _ hs) (fun q hq => hp q (List.mem_cons_of_mem _ hq)) hu
theorem ins_ne (x : PMask) (l : List PMask) : ins x l ≠ [] := by
  cases l with
  | nil => simp [ins]
  | cons y l => unfold ins; split <;> simp
theorem union_ne {n : Nat} {s t : List PMask} (h : s.isEmpty = false) : (union (n + 1) s t).isEmpty = false := by
  cases s with
  | nil => cases h
  | cons x s =>
    show (isort (rawUnion _ (x :: s) t)).isEmpty = false
    unfold rawUnion
    rw [List.map_cons, List.cons_append]
    show (ins _ _).isEmpty = false
    have := ins_ne (uniA (union n) t x) (isort (s.map (uniA (union n) t) ++ t.filter fun y => (find (x :: s) y.num).isNone))
    simpa using this
theorem unionAll_append (n : Nat) (a : List PMask) (l r : List (List Int)) : unionAll n a (l ++ r) = unionAll n (unionAll n a l) r := List.foldl_append ..
/-- a sorted mask is the union of its paths -/
theorem unionAll_paths : ∀ (n : Nat) {l : List PMask}, Srt n l → unionAll n [] (paths n l) = l
  | 0, l, h => by rw [show l = [] from h]; rfl
  | n + 1, l, h => by
    have key : ∀ (l a : List PMask), Asc (a ++ l) → (∀ x ∈ l, Srt n x.subs) → unionAll (n + 1) a (paths (n + 1) l) = a ++ l := by
      intro l
      induction l with
      | nil => intro a _ _; simp [paths, unionAll]
      | cons x l ih =>
        intro a ha hl
        have ha1 := List.pairwise_append.1 ha
        have hax : ∀ y ∈ a, y.num < x.num := fun y hy => ha1.2.2 y hy x (List.mem_cons_self ..)
        have step : unionAll (n + 1) a (if whole x then [[x.num]] else (paths n x.subs).map (x.num :: ·)) = a ++ [x] := by
          split
          · rename_i hw
            show union (n + 1) a [.mk x.num []] = _
            rw [show PMask.mk x.num [] = x from PMask.ext2 rfl (whole_iff.1 hw).symm]
            exact union_new ha1.1 hax
          · rename_i hw
            have hs := hl x (List.mem_cons_self ..)
            have hne : x.subs ≠ [] := fun e => hw (whole_iff.2 e)
            obtain ⟨g1, g2⟩ := paths_ne n hs.dp
            have g2 := g2 hne
            have ih2 := unionAll_paths n hs
            cases n with
            | zero => exact absurd hs hne
            | succ n =>
              cases hp : paths (n + 1) x.subs with
              | nil => exact absurd hp g2
              | cons p ps =>
                rw [hp] at g1 ih2
                have hpn := (g1 p (List.mem_cons_self ..)).1
                rw [List.map_cons]
                show unionAll (n + 1 + 1) (union (n + 1 + 1) a [.mk x.num (nest p)]) _ = _
                rw [union_new (x := .mk x.num (nest p)) ha1.1 hax]
                rw [unionAll_under ha1.1 hax ps (nest p) (nest_ne hpn) (fun q hq => (g1 q (List.mem_cons_of_mem _ hq)).1) (fun s t hs => union_ne hs)]
                have hfirst : union (n + 1) [] (nest p) = nest p := by
                  refine ext (asc_union List.Pairwise.nil (asc_nest p)) (asc_nest p) fun k => ?_
                  rw [find_union List.Pairwise.nil (asc_nest p)]
                  rfl
                have ih3 : unionAll (n + 1) (nest p) ps = x.subs := by
                  have : unionAll (n + 1) (union (n + 1) [] (nest p)) ps = x.subs := ih2
                  rwa [hfirst] at this
                rw [ih3]
                rw [PMask.eta]
        show unionAll (n + 1) a ((if whole x then [[x.num]] else (paths n x.subs).map (x.num :: ·)) ++ paths (n + 1) l) = _
        rw [unionAll_append, step, ih (a ++ [x]) (by rw [List.append_assoc]; exact ha) (fun y hy => hl y (List.mem_cons_of_mem _ hy)), List.append_assoc]
        rfl
    exact key l [] h.1 h.2
end Go.Proofs.YtaaneecceiefoaaDoor.Ma

/- Plain functions of layer 19 (mask): equal masks, sorted masks, the number of paths; how lists are run through; no program in sight. -/
namespace Go.Proofs.YtaaneecceiefoaaDoor.Ma
set_option linter.unusedVariables false
set_option linter.unusedSimpArgs false
def samL (f : List PMask → List PMask → Bool) : List PMask → List PMask → Bool
  | [], [] => true
  | x :: a, y :: b => if x.num = y.num then (if f x.subs y.subs = true then samL f a b else false) else false
  | _, _ => false
def samB : Nat → List PMask → List PMask → Bool
  | 0, _, _ => true
  | n + 1, a, b => samL (samB n) a b
theorem samB_iff : ∀ (n : Nat) {a b : List PMask}, Dp n a → Dp n b → (samB n a b = true ↔ a = b)
  | 0, a, b, ha, hb => by
    have h1 : a = [] := ha
    have h2 : b = [] := hb
    subst h1 h2
    exact ⟨fun _ => rfl, fun _ => rfl⟩
  | n + 1, a, b, ha, hb => by
    show samL (samB n) a b = true ↔ a = b
    induction a generalizing b with
    | nil => cases b <;> simp [samL]
    | cons x a ih =>
      cases b with
      | nil => simp [samL]
      | cons y b =>
        unfold samL
        have i1 := samB_iff n (ha x (List.mem_cons_self ..)) (hb y (List.mem_cons_self ..))
        have i2 := ih (b := b) (fun z hz => ha z (List.mem_cons_of_mem _ hz)) (fun z hz => hb z (List.mem_cons_of_mem _ hz))
        constructor
        · intro h
          split at h
          · rename_i e1
            split at h
            · rename_i e2
              rw [PMask.ext2 e1 (i1.1 e2), i2.1 h]
            · cases h
          · cases h
        · intro h
          cases h
          rw [if_pos rfl, if_pos (i1.2 rfl)]
          exact i2.2 rfl
theorem samB_self {n : Nat} {a : List PMask} (h : Dp n a) : samB n a a = true := (samB_iff n h h).2 rfl
def srtGo (f : List PMask → Bool) : Option Int → List PMask → Bool
  | _, [] => true
  | pv, x :: r => if (pv.any fun p => decide (x.num ≤ p)) = true then false else if f x.subs = true then srtGo f (some x.num) r else false
def srtB : Nat → List PMask → Bool
  | 0, _ => true
  | n + 1, l => srtGo (srtB n) none l
theorem srtGo_iff {f : List PMask → Bool} : ∀ (l : List PMask) (pv : Option Int), srtGo f pv l = true ↔ (∀ p, pv = some p → ∀ x ∈ l, p < x.num) ∧ Asc l ∧ ∀ x ∈ l, f x.subs = true
  | [], pv => by
    refine ⟨fun _ => ⟨fun _ _ x hx => (by cases hx), List.Pairwise.nil, fun x hx => (by cases hx)⟩, fun _ => rfl⟩
  | x :: r, pv => by
    unfold srtGo
    have ih := srtGo_iff (f := f) r (some x.num)
    constructor
    · intro h
      split at h
      · cases h
      · rename_i hp
        split at h
        · rename_i hf
          obtain ⟨i1, i2, i3⟩ := ih.1 h
          have hlt : ∀ p, pv = some p → p < x.num := fun p hp2 => by
            subst hp2
            have : ¬ (x.num ≤ p) := by simpa using hp
            omega
          refine ⟨fun p hp2 y hy => ?_, List.pairwise_cons.2 ⟨i1 _ rfl, i2⟩, fun y hy => ?_⟩
          · rcases List.mem_cons.1 hy with rfl | hy
            · exact hlt p hp2
            · have := i1 _ rfl y hy
              have := hlt p hp2
              omega
          · rcases List.mem_cons.1 hy with rfl | hy
            · exact hf
            · exact i3 y hy
        · cases h
    · rintro ⟨h1, h2, h3⟩
      rw [if_neg, if_pos (h3 x (List.mem_cons_self ..))]
      · refine ih.2 ⟨fun p hp y hy => ?_, h2.tail, fun y hy => h3 y (List.mem_cons_of_mem _ hy)⟩
        cases hp
        exact h2.head y hy
      · cases pv with
        | none => simp
        | some p =>
          have := h1 p rfl x (List.mem_cons_self ..)
          simp
          omega
theorem srtB_iff : ∀ (n : Nat) {l : List PMask}, Dp n l → (srtB n l = true ↔ Srt n l)
  | 0, l, h => by
    have : l = [] := h
    subst this
    exact ⟨fun _ => rfl, fun _ => rfl⟩
  | n + 1, l, h => by
    show srtGo (srtB n) none l = true ↔ _
    rw [srtGo_iff]
    constructor
    · rintro ⟨_, h2, h3⟩
      exact ⟨h2, fun x hx => (srtB_iff n (h x hx)).1 (h3 x hx)⟩
    · rintro ⟨h2, h3⟩
      exact ⟨fun p hp => (by cases hp), h2, fun x hx => (srtB_iff n (h x hx)).2 (h3 x hx)⟩
def cntGo (f : List PMask → Nat) : List PMask → Nat
  | [] => 0
  | x :: r => (if whole x then 1 else f x.subs) + cntGo f r
def cnt : Nat → List PMask → Nat
  | 0, _ => 0
  | n + 1, l => cntGo (cnt n) l
theorem cnt_paths : ∀ (n : Nat) (l : List PMask), cnt n l = (paths n l).length
  | 0, _ => rfl
  | n + 1, l => by
    show cntGo (cnt n) l = (l.flatMap _).length
    induction l with
    | nil => rfl
    | cons x r ih =>
      rw [List.flatMap_cons, List.length_append, ← ih]
      show (if whole x then 1 else cnt n x.subs) + cntGo (cnt n) r = _
      congr 1
      by_cases h : whole x = true
      · simp [h]
      · simp [h, cnt_paths n]
theorem samL_len {f : List PMask → List PMask → Bool} : ∀ {a b : List PMask}, a.length ≠ b.length → samL f a b = false
  | [], [], h => absurd rfl h
  | [], _ :: _, _ => rfl
  | _ :: _, [], _ => rfl
  | x :: a, y :: b, h => by
    unfold samL
    rw [samL_len (f := f) (a := a) (b := b) (fun e => h (by simp [e]))]
    split
    · split <;> rfl
    · rfl
/-! running through a list -/
theorem drop_at {α : Type} {l : List α} {k : Nat} (h : k < l.length) : l.drop k = l[k] :: l.drop (k + 1) := List.drop_eq_getElem_cons h
theorem find_at {l : List PMask} {k : Nat} (h : k < l.length) (q : Int) : find (l.drop k) q = if l[k].num = q then some l[k] else find (l.drop (k + 1)) q := by rw [drop_at h, find_cons]
theorem fm_at {α β : Type} {f : α → Option β} {l : List α} {k : Nat} (h : k < l.length) : (l.drop k).filterMap f = (f l[k]).toList ++ (l.drop (k + 1)).filterMap f := by
  rw [drop_at h, List.filterMap_cons]
  cases f l[k] <;> rfl
theorem map_at {α β : Type} {f : α → β} {l : List α} {k : Nat} (h : k < l.length) : (l.drop k).map f = f l[k] :: (l.drop (k + 1)).map f := by rw [drop_at h, List.map_cons]
theorem filter_at {α : Type} {f : α → Bool} {l : List α} {k : Nat} (h : k < l.length) : (l.drop k).filter f = (if f l[k] = true then [l[k]] else []) ++ (l.drop (k + 1)).filter f := by
  rw [drop_at h, List.filter_cons]
  split <;> rfl
theorem all_at {α : Type} {f : α → Bool} {l : List α} {k : Nat} (h : k < l.length) : (l.drop k).all f = (f l[k] && (l.drop (k + 1)).all f) := by rw [drop_at h, List.all_cons]
/-- the number before a place -/
def pvM (l : List PMask) : Nat → Option Int
  | 0 => none
  | k + 1 => (l[k]?).map PMask.num
theorem pvM_succ {l : List PMask} {k : Nat} (h : k < l.length) : pvM l (k + 1) = some l[k].num := by
  show (l[k]?).map _ = _
  rw [List.getElem?_eq_getElem h]
  rfl
theorem samL_at {f : List PMask → List PMask → Bool} {a b : List PMask} {k : Nat} (ha : k < a.length) (hb : k < b.length) : samL f (a.drop k) (b.drop k) = if a[k].num = b[k].num then (if f a[k].subs b[k].subs = true then samL f (a.drop (k + 1)) (b.drop (k + 1)) else false) else false := by
  rw [drop_at ha, drop_at hb]
  rfl
theorem srtGo_at {f : List PMask → Bool} {l : List PMask} {k : Nat} (h : k < l.length) : srtGo f (pvM l k) (l.drop k) = if ((pvM l k).any fun p => decide (l[k].num ≤ p)) = true then false else if f l[k].subs = true then srtGo f (pvM l (k + 1)) (l.drop (k + 1)) else false := by
  rw [drop_at h, pvM_succ h]
  rfl
theorem cntGo_at {f : List PMask → Nat} {l : List PMask} {k : Nat} (h : k < l.length) : cntGo f (l.drop k) = (if whole l[k] then 1 else f l[k].subs) + cntGo f (l.drop (k + 1)) := by
  rw [drop_at h]
  rfl
/-! the reference's union, free of its bound on the rounds -/
theorem merge_fuel (f : List PMask → List PMask → List PMask) : ∀ (m m' : Nat) (a b : List PMask), a.length + b.length ≤ m → a.length + b.length ≤ m' → mergeF f m a b = mergeF f m' a b
  | 0, 0, _, _, _, _ => rfl
  | 0, m' + 1, [], [], _, _ => rfl
  | 0, m' + 1, x :: a, _, h, _ => by simp at h
  | 0, m' + 1, [], y :: b, h, _ => by simp at h
  | m + 1, 0, [], [], _, _ => rfl
  | m + 1, 0, x :: a, _, _, h => by simp at h
  | m + 1, 0, [], y :: b, _, h => by simp at h
  | m + 1, m' + 1, [], b, _, _ => rfl
  | m + 1, m' + 1, x :: a, [], _, _ => rfl
  | m + 1, m' + 1, x :: a, y :: b, h, h' => by
    simp only [List.length_cons] at h h'
    unfold mergeF
    rw [merge_fuel f m m' a (y :: b) (by simp; omega) (by simp; omega), merge_fuel f m m' (x :: a) b (by simp; omega) (by simp; omega), merge_fuel f m m' a b (by omega) (by omega)]
def mrg (f : List PMask → List PMask → List PMask) (a b : List PMask) : List PMask := mergeF f (a.length + b.length) a b
theorem mrg_nil (f : List PMask → List PMask → List PMask) (b : List PMask) : mrg f [] b = b := by
  unfold mrg
  cases b with
  | nil => rfl
  | cons y b => rfl
theorem mrg_nil' (f : List PMask → List PMask → List PMask) (a : List PMask) : mrg f a [] = a := by
  unfold mrg
  cases a with
  | nil => rfl
  | cons x a => rfl
theorem mrg_cons (f : List PMask → List PMask → List PMask) (x y : PMask) (a b : List PMask) : mrg f (x :: a) (y :: b) = if x.num < y.num then x :: mrg f a (y :: b) else if y.num < x.num then y :: mrg f (x :: a) b else joinF f x y :: mrg f a b := by
  unfold mrg
  rw [show (x :: a).length + (y :: b).length = (a.length + b.length + 1) + 1 by simp; omega]
  show (if _ then _ else _) = _
  rw [merge_fuel f (a.length + b.length + 1) (a.length + (y :: b).length) a (y :: b) (by simp; omega) (by simp), merge_fuel f (a.length + b.length + 1) ((x :: a).length + b.length) (x :: a) b (by simp; omega) (by simp), merge_fuel f (a.length + b.length + 1) (a.length + b.length) a b (by omega) (by omega)]
theorem mrg_ab {f : List PMask → List PMask → List PMask} {a b : List PMask} {i k : Nat} (hi : i < a.length) (hk : k < b.length) : mrg f (a.drop i) (b.drop k) = if a[i].num < b[k].num then a[i] :: mrg f (a.drop (i + 1)) (b.drop k) else if b[k].num < a[i].num then b[k] :: mrg f (a.drop i) (b.drop (k + 1)) else joinF f a[i] b[k] :: mrg f (a.drop (i + 1)) (b.drop (k + 1)) := by
  rw [drop_at hi, drop_at hk, mrg_cons, ← drop_at hi, ← drop_at hk]
theorem mrg_a {f : List PMask → List PMask → List PMask} {a b : List PMask} {i k : Nat} (hi : i < a.length) (hk : b.length ≤ k) : mrg f (a.drop i) (b.drop k) = a[i] :: mrg f (a.drop (i + 1)) (b.drop k) := by
  rw [List.drop_of_length_le hk, mrg_nil', mrg_nil', drop_at hi]
theorem mrg_b {f : List PMask → List PMask → List PMask} {a b : List PMask} {i k : Nat} (hi : a.length ≤ i) (hk : k < b.length) : mrg f (a.drop i) (b.drop k) = b[k] :: mrg f (a.drop i) (b.drop (k + 1)) := by
  rw [List.drop_of_length_le hi, mrg_nil, mrg_nil, drop_at hk]
end Go.Proofs.YtaaneecceiefoaaDoor.Ma

/- Plain functions of layer 19 (mask): values as far as the order sees them, what a mask keeps and drops; no program in sight. -/
namespace Go.Proofs.YtaaneecceiefoaaDoor.Ma
set_option linter.unusedVariables false
set_option linter.unusedSimpArgs false
structure PRaw where
  num : Int
  wire : Int
  bits : Nat
  data : List UInt8
/-- a value: what its kind does not use is left out (Cmp of layer 16, Keep, Drop, Of do not look at it) -/
inductive CV where
  | scalar (kind : Int) (bits : Nat) (text : List UInt8)
  | list (l : List CV)
  | map (l : List (CV × CV))
  | msg (slots : List (Int × CV)) (raws : List PRaw)
def CV.isMsg : CV → Bool
  | .msg _ _ => true
  | _ => false
def CV.kind : CV → Int
  | .scalar k _ _ => k
  | .list _ => 11
  | .map _ => 12
  | .msg _ _ => 10
def keepO (f : CV → List PMask → CV) (m : List PMask) (x : Int × CV) : Option (Int × CV) := (find m x.1).map fun e => if whole e then x else (x.1, f x.2 e.subs)
def keep : Nat → CV → List PMask → CV
  | n + 1, .msg sl rw, m => .msg (sl.filterMap (keepO (keep n) m)) []
  | _, v, _ => v
def dropO (f : CV → List PMask → CV) (m : List PMask) (x : Int × CV) : Option (Int × CV) := match find m x.1 with
  | some e => if whole e || !x.2.isMsg then none else some (x.1, f x.2 e.subs)
  | none => some x
def drop : Nat → CV → List PMask → CV
  | n + 1, .msg sl rw, m => .msg (sl.filterMap (dropO (drop n) m)) rw
  | _, v, _ => v
theorem keepO_num {f : CV → List PMask → CV} {m : List PMask} {x y : Int × CV} (h : keepO f m x = some y) : y.1 = x.1 := by
  unfold keepO at h
  obtain ⟨e, _, he⟩ := Option.map_eq_some_iff.1 h
  split at he <;> (subst he; rfl)
theorem dropO_num {f : CV → List PMask → CV} {m : List PMask} {x y : Int × CV} (h : dropO f m x = some y) : y.1 = x.1 := by
  unfold dropO at h
  split at h
  · split at h
    · cases h
    · cases h; rfl
  · cases h; rfl
/-- is a slot in the part that is kept, in the part that is dropped -/
theorem keepO_some {f : CV → List PMask → CV} {m : List PMask} {x : Int × CV} : (keepO f m x).isSome = (find m x.1).isSome := by
  unfold keepO
  cases find m x.1 <;> rfl
theorem dropO_some {f : CV → List PMask → CV} {m : List PMask} {x : Int × CV} : (dropO f m x).isSome = match find m x.1 with
    | some e => !(whole e || !x.2.isMsg)
    | none => true := by
  unfold dropO
  cases find m x.1 with
  | none => rfl
  | some e =>
    dsimp only
    cases h : (whole e || !x.2.isMsg) <;> simp
/-- the first slot with a number -/
def slotOf (l : List (Int × CV)) (k : Int) : Option CV := (l.find? fun x => decide (x.1 = k)).map (·.2)
/-- the mask of the fields that are set: 'single' fields go on -/
def ofV (E : Env) : Nat → List UInt8 → CV → List PMask
  | n + 1, nm, .msg sl _ => if E.has nm then (E.nums nm).filterMap fun k => (slotOf sl k).map fun v => PMask.mk k (if ((E.fld nm k).map (·.1)).getD false then ofV E n (E.ty nm k) v else []) else []
  | _, _, _ => []
end Go.Proofs.YtaaneecceiefoaaDoor.Ma

/- Plain laws of layer 19 (mask): texts of masks, read and written; no program in sight. -/
namespace Go.Proofs.YtaaneecceiefoaaDoor.Ma
set_option linter.unusedVariables false
set_option linter.unusedSimpArgs false
/-- what the texts of masks have to know besides: a field's name by its number; a field by its name (or alias): its number, 'a path may go on', its type's name; is it a part -/
structure Names where
  name : List UInt8 → Int → List UInt8
  byName : List UInt8 → List UInt8 → Option (Int × Bool × List UInt8)
  part : List UInt8 → Bool
/-- of a valid schema -/
structure Names.Ok (E : Env) (M : Names) : Prop where
  clean : ∀ p, M.part p = true → p ≠ [] ∧ 46 ∉ p ∧ 44 ∉ p
  part : ∀ nm k f, E.fld nm k = some f → M.part (M.name nm k) = true
  back : ∀ nm k f, E.has nm = true → E.fld nm k = some f → ∃ b, M.byName nm (M.name nm k) = some (k, b, f.2) ∧ (f.1 = true → b = true)
  fwd : ∀ nm p k b t, E.has nm = true → M.byName nm p = some (k, b, t) → ∃ s, E.fld nm k = some (s, t) ∧ (b = true → s = true)
def onFst (b : UInt8) : List (List UInt8) → List (List UInt8)
  | [] => [[b]]
  | p :: r => (b :: p) :: r
def pieces (c : UInt8) : List UInt8 → List (List UInt8)
  | [] => [[]]
  | b :: r => if b = c then [] :: pieces c r else onFst b (pieces c r)
def glue (c : UInt8) : List (List UInt8) → List UInt8
  | [] => []
  | [p] => p
  | p :: q :: r => p ++ c :: glue c (q :: r)
theorem pieces_cons (c b : UInt8) (r : List UInt8) : pieces c (b :: r) = if b = c then [] :: pieces c r else onFst b (pieces c r) := rfl
theorem pieces_one (c : UInt8) : ∀ p : List UInt8, c ∉ p → pieces c p = [p]
  | [], _ => rfl
  | b :: r, h => by
    rw [pieces_cons, if_neg (fun e => h (by rw [e]; exact List.mem_cons_self ..)), pieces_one c r (fun e => h (List.mem_cons_of_mem _ e))]
    rfl
theorem pieces_app (c : UInt8) (s : List UInt8) : ∀ p : List UInt8, c ∉ p → pieces c (p ++ c :: s) = p :: pieces c s
  | [], _ => by
    show pieces c (c :: s) = _
    rw [pieces_cons, if_pos rfl]
  | b :: r, h => by
    show pieces c (b :: (r ++ c :: s)) = _
    rw [pieces_cons, if_neg (fun e => h (by rw [e]; exact List.mem_cons_self ..)), pieces_app c s r (fun e => h (List.mem_cons_of_mem _ e))]
    rfl
theorem pieces_glue (c : UInt8) : ∀ l : List (List UInt8), l ≠ [] → (∀ p ∈ l, c ∉ p) → pieces c (glue c l) = l
  | [], h, _ => absurd rfl h
  | [p], _, h => pieces_one c p (h p (List.mem_cons_self ..))
  | p :: q :: r, _, h => by
    unfold glue
    rw [pieces_app c _ p (h p (List.mem_cons_self ..)), pieces_glue c (q :: r) (by simp) (fun x hx => h x (List.mem_cons_of_mem _ hx))]
/-! paths -/
def walkP (E : Env) (M : Names) : List UInt8 → List (List UInt8) → Int × List Int
  | _, [] => (0, [])
  | nm, p :: r => match M.byName nm p with
    | none => (8, [])
    | some f => if r.isEmpty then (0, [f.1]) else if f.2.1 && E.has f.2.2 then (if (walkP E M f.2.2 r).1 = 0 then (0, f.1 :: (walkP E M f.2.2 r).2) else ((walkP E M f.2.2 r).1, [])) else (12, [])
def pathM (E : Env) (M : Names) (nm t : List UInt8) : Int × List PMask :=
  if (pieces 46 t).all M.part then (if E.has nm then (if (walkP E M nm (pieces 46 t)).1 = 0 then (0, nest (walkP E M nm (pieces 46 t)).2) else ((walkP E M nm (pieces 46 t)).1, [])) else (10, [])) else (2, [])
def parseGo (E : Env) (M : Names) (n : Nat) (nm : List UInt8) : List PMask → List (List UInt8) → Int × List PMask
  | acc, [] => (0, acc)
  | acc, t :: r => if (pathM E M nm t).1 ≠ 0 then ((pathM E M nm t).1, []) else parseGo E M n nm (union n acc (pathM E M nm t).2) r
def parse (E : Env) (M : Names) (n : Nat) (nm t : List UInt8) : Int × List PMask :=
  if E.has nm = false then (10, []) else if t = [] then (0, []) else if 32 < (pieces 44 t).length then (3, []) else parseGo E M n nm [] (pieces 44 t)
/-- the names along the paths of a mask -/
def textN (E : Env) (M : Names) : Nat → List UInt8 → List PMask → List (List (List UInt8))
  | 0, _, _ => []
  | n + 1, nm, l => l.flatMap fun x => if whole x then [[M.name nm x.num]] else (textN E M n (E.ty nm x.num) x.subs).map (M.name nm x.num :: ·)
def text (E : Env) (M : Names) (n : Nat) (nm : List UInt8) (l : List PMask) : List UInt8 :=
  if chk E n nm l ≠ 0 then [] else glue 44 ((textN E M n nm l).map (glue 46))
/-- what the path's names lead to -/
theorem walk_text {E : Env} {M : Names} (hE : E.Ok) (hM : M.Ok E) : ∀ (n : Nat) {nm : List UInt8} {l : List PMask}, Nm E n nm l → (textN E M n nm l).map (walkP E M nm) = (paths n l).map (fun p => (0, p)) ∧ ∀ q ∈ textN E M n nm l, q ≠ [] ∧ ∀ p ∈ q, M.part p = true
  | 0, nm, l, h => ⟨rfl, fun q hq => by cases hq⟩
  | n + 1, nm, l, h => by
    have key : ∀ x ∈ l, ((if whole x then [[M.name nm x.num]] else (textN E M n (E.ty nm x.num) x.subs).map (M.name nm x.num :: ·)).map (walkP E M nm) = (if whole x then [[x.num]] else (paths n x.subs).map (x.num :: ·)).map (fun p => ((0 : Int), p))) ∧ ∀ q ∈ (if whole x then [[M.name nm x.num]] else (textN E M n (E.ty nm x.num) x.subs).map (M.name nm x.num :: ·)), q ≠ [] ∧ ∀ p ∈ q, M.part p = true := by
      intro x hx
      obtain ⟨f, hf, hs⟩ := h.2.2 x hx
      have hpt := hM.part nm x.num f hf
      obtain ⟨b, hb, hb2⟩ := hM.back nm x.num f h.1 hf
      have ht : E.ty nm x.num = f.2 := by unfold Env.ty; rw [hf]; rfl
      cases hw : whole x with
      | true =>
        refine ⟨?_, fun q hq => ?_⟩
        · simp only [if_true, List.map_cons, List.map_nil]
          unfold walkP
          rw [hb]
          rfl
        · simp only [if_true] at hq
          obtain rfl := List.mem_singleton.1 hq
          exact ⟨by simp, fun p hp => by obtain rfl := List.mem_singleton.1 hp; exact hpt⟩
      | false =>
        have h2 : f.1 = true ∧ Nm E n f.2 x.subs := by
          rcases hs with e | e
          · rw [whole_iff.2 e] at hw; cases hw
          · exact e
        obtain ⟨i1, i2⟩ := walk_text hE hM n h2.2
        rw [ht]
        simp only [Bool.false_eq_true, if_false, List.map_map]
        refine ⟨?_, fun q hq => ?_⟩
        · have hgo : ∀ q ∈ textN E M n f.2 x.subs, (walkP E M nm ∘ (M.name nm x.num :: ·)) q = (if (walkP E M f.2 q).1 = 0 then (0, x.num :: (walkP E M f.2 q).2) else ((walkP E M f.2 q).1, [])) := by
            intro q hq
            show walkP E M nm (M.name nm x.num :: q) = _
            conv => lhs; unfold walkP
            rw [hb]
            have hq1 : q.isEmpty = false := by simpa using (i2 q hq).1
            have hh := h2.2.hs
            simp [hq1, hb2 h2.1, hh]
          rw [List.map_congr_left hgo]
          have := congrArg (List.map fun (r : Int × List Int) => if r.1 = 0 then ((0 : Int), x.num :: r.2) else (r.1, [])) i1
          rw [List.map_map, List.map_map] at this
          exact this
        · obtain ⟨q', hq', rfl⟩ := List.mem_map.1 hq
          exact ⟨by simp, fun p hp => by
            rcases List.mem_cons.1 hp with rfl | hp
            · exact hpt
            · exact (i2 q' hq').2 p hp⟩
    clear h
    show (List.flatMap _ l).map _ = (List.flatMap _ l).map _ ∧ ∀ q ∈ List.flatMap _ l, _
    induction l with
    | nil => exact ⟨rfl, fun q hq => by cases hq⟩
    | cons x l ih =>
      obtain ⟨j1, j2⟩ := ih (fun y hy => key y (List.mem_cons_of_mem _ hy))
      obtain ⟨k1, k2⟩ := key x (List.mem_cons_self ..)
      rw [List.flatMap_cons, List.flatMap_cons, List.map_append, List.map_append, k1, j1]
      refine ⟨rfl, fun q hq => ?_⟩
      rcases List.mem_append.1 hq with hq | hq
      · exact k2 q hq
      · exact j2 q hq
theorem glue_no {c d : UInt8} (hcd : c ≠ d) : ∀ l : List (List UInt8), (∀ p ∈ l, d ∉ p) → d ∉ glue c l
  | [], _ => by simp [glue]
  | [p], h => h p (List.mem_cons_self ..)
  | p :: q :: r, h => by
    unfold glue
    intro hm
    rcases List.mem_append.1 hm with hm | hm
    · exact h p (List.mem_cons_self ..) hm
    · rcases List.mem_cons.1 hm with e | hm
      · exact hcd e.symm
      · exact glue_no hcd (q :: r) (fun x hx => h x (List.mem_cons_of_mem _ hx)) hm
theorem path_text {E : Env} {M : Names} (hM : M.Ok E) {nm : List UInt8} (hn : E.has nm = true) {q : List (List UInt8)} {p : List Int} (h1 : q ≠ []) (h2 : ∀ x ∈ q, M.part x = true) (hw : walkP E M nm q = (0, p)) : pathM E M nm (glue 46 q) = (0, nest p) := by
  unfold pathM
  rw [pieces_glue 46 q h1 (fun x hx => (hM.clean x (h2 x hx)).2.1), if_pos (List.all_eq_true.2 h2), if_pos hn, hw]
  rfl
theorem parseGo_text {E : Env} {M : Names} (hM : M.Ok E) {n : Nat} {nm : List UInt8} (hn : E.has nm = true) : ∀ (qs : List (List (List UInt8))) (ps : List (List Int)) (acc : List PMask), qs.map (walkP E M nm) = ps.map (fun p => (0, p)) → (∀ q ∈ qs, q ≠ [] ∧ ∀ p ∈ q, M.part p = true) → parseGo E M n nm acc (qs.map (glue 46)) = (0, unionAll n acc ps)
  | [], [], acc, _, _ => rfl
  | [], p :: ps, _, h, _ => by cases h
  | q :: qs, [], _, h, _ => by cases h
  | q :: qs, p :: ps, acc, h, hq => by
    rw [List.map_cons, List.map_cons] at h
    obtain ⟨e1, e2⟩ := List.cons.inj h
    obtain ⟨g1, g2⟩ := hq q (List.mem_cons_self ..)
    have hp := path_text hM hn g1 g2 e1
    rw [List.map_cons]
    unfold parseGo
    rw [hp]
    exact parseGo_text hM hn qs ps _ e2 (fun r hr => hq r (List.mem_cons_of_mem _ hr))
theorem glue_ne {c : UInt8} {l : List (List UInt8)} (h : l ≠ []) (hp : ∀ p ∈ l, p ≠ []) : glue c l ≠ [] := by
  match l, h, hp with
  | [p], _, hp => exact hp p (List.mem_cons_self ..)
  | p :: q :: r, _, _ => unfold glue; simp
/-- a normal mask is read again from its text -/
theorem parse_text {E : Env} {M : Names} (hE : E.Ok) (hM : M.Ok E) {n : Nat} {nm : List UInt8} {l : List PMask} (h : Nm E n nm l) (hl : (paths n l).length ≤ 32) : parse E M n nm (text E M n nm l) = (0, l) := by
  obtain ⟨w1, w2⟩ := walk_text hE hM n h
  have hc := (chk_iff n nm l h.srt.dp).2 h
  have hlen : (textN E M n nm l).length = (paths n l).length := by simpa using congrArg List.length w1
  have ht : text E M n nm l = glue 44 ((textN E M n nm l).map (glue 46)) := by
    unfold text
    rw [if_neg (fun h' => h' hc)]
  rw [ht]
  unfold parse
  rw [if_neg (by simp [h.hs])]
  by_cases he : l = []
  · subst he
    have : textN E M n nm [] = [] := by cases n <;> rfl
    rw [this]
    rfl
  · have hne : paths n l ≠ [] := (paths_ne n h.srt.dp).2 he
    have hne2 : (textN E M n nm l).map (glue 46) ≠ [] := fun e => hne (List.length_eq_zero_iff.1 (by rw [← hlen, List.map_eq_nil_iff.1 e]; rfl))
    have hcl : ∀ p ∈ (textN E M n nm l).map (glue 46), p ≠ [] ∧ (44 : UInt8) ∉ p := by
      intro p hp
      obtain ⟨q, hq, rfl⟩ := List.mem_map.1 hp
      obtain ⟨g1, g2⟩ := w2 q hq
      exact ⟨glue_ne g1 (fun x hx => (hM.clean x (g2 x hx)).1), glue_no (by decide) q (fun x hx => (hM.clean x (g2 x hx)).2.2)⟩
    rw [if_neg (glue_ne hne2 (fun p hp => (hcl p hp).1)), pieces_glue 44 _ hne2 (fun p hp => (hcl p hp).2), if_neg (by rw [List.length_map, hlen]; omega)]
    rw [parseGo_text hM h.hs _ _ [] w1 w2, unionAll_paths n h.srt]
/-- what a path gives is normal -/
theorem walk_nm {E : Env} {M : Names} (hM : M.Ok E) : ∀ (ps : List (List UInt8)) {n : Nat} {nm : List UInt8} {l : List Int}, ps ≠ [] → ps.length ≤ n → E.has nm = true → walkP E M nm ps = (0, l) → Nm E n nm (nest l) ∧ l ≠ []
  | [], _, _, _, h, _, _, _ => absurd rfl h
  | p :: r, 0, _, _, _, hn, _, _ => by simp at hn
  | p :: r, n + 1, nm, l, _, hn, hh, hw => by
    unfold walkP at hw
    split at hw
    · cases hw
    · rename_i f hf
      obtain ⟨k, b, t⟩ := f
      obtain ⟨s, hs1, hs2⟩ := hM.fwd nm p k b t hh hf
      dsimp only at hw
      split at hw
      · cases hw
        exact ⟨⟨hh, List.pairwise_singleton .., fun x hx => by
          obtain rfl := List.mem_singleton.1 hx
          exact ⟨(s, t), hs1, .inl rfl⟩⟩, by simp⟩
      · rename_i hr
        split at hw
        · rename_i hb
          rw [Bool.and_eq_true] at hb
          split at hw
          · rename_i h0
            cases hw
            obtain ⟨i1, i2⟩ := walk_nm hM r (n := n) (fun e => hr (by rw [e]; rfl)) (by simpa using hn) hb.2 (show walkP E M t r = (0, (walkP E M t r).2) by rw [← h0])
            exact ⟨⟨hh, List.pairwise_singleton .., fun x hx => by
              obtain rfl := List.mem_singleton.1 hx
              exact ⟨(s, t), hs1, .inr ⟨hs2 hb.1, i1⟩⟩⟩, by simp⟩
          · rename_i h0
            have := congrArg Prod.fst hw
            exact absurd this h0
        · cases hw
theorem pieces_ne (c : UInt8) (l : List UInt8) : pieces c l ≠ [] := by
  cases l with
  | nil => simp [pieces]
  | cons b r =>
    rw [pieces_cons]
    split
    · simp
    · cases pieces c r <;> simp [onFst]
theorem pieces_len (c : UInt8) : ∀ l : List UInt8, (pieces c l).length ≤ l.length + 1
  | [] => by simp [pieces]
  | b :: r => by
    have ih := pieces_len c r
    rw [pieces_cons]
    split
    · simpa using ih
    · cases h : pieces c r with
      | nil => simp [onFst]
      | cons p q => rw [h] at ih; simp only [onFst, List.length_cons] at ih ⊢; omega
theorem path_nm {E : Env} {M : Names} (hM : M.Ok E) {n : Nat} {nm t : List UInt8} (hn : t.length + 1 ≤ n) (h : (pathM E M nm t).1 = 0) : Nm E n nm (pathM E M nm t).2 := by
  unfold pathM at h ⊢
  split at h
  · rename_i h1
    rw [if_pos h1]
    split at h
    · rename_i h2
      rw [if_pos h2]
      split at h
      · rename_i h3
        rw [if_pos h3]
        exact (walk_nm hM (pieces 46 t) (pieces_ne 46 t) (Nat.le_trans (pieces_len 46 t) hn) h2 (show walkP E M nm (pieces 46 t) = (0, (walkP E M nm (pieces 46 t)).2) by rw [← h3])).1
      · rename_i h3
        exact absurd h h3
    · cases h
  · cases h
theorem parseGo_nm {E : Env} {M : Names} (hM : M.Ok E) {n : Nat} {nm : List UInt8} : ∀ (l : List (List UInt8)) (acc m : List PMask), (∀ t ∈ l, t.length + 1 ≤ n) → Nm E n nm acc → parseGo E M n nm acc l = (0, m) → Nm E n nm m
  | [], acc, m, _, ha, h => by cases h; exact ha
  | t :: r, acc, m, hl, ha, h => by
    unfold parseGo at h
    split at h
    · rename_i h1
      have := congrArg Prod.fst h
      exact absurd this h1
    · rename_i h1
      have h1' : (pathM E M nm t).1 = 0 := by simpa using h1
      exact parseGo_nm hM r _ m (fun x hx => hl x (List.mem_cons_of_mem _ hx)) (union_nm n ha (path_nm hM (hl t (List.mem_cons_self ..)) h1')) h
theorem pieces_le (c : UInt8) : ∀ (l : List UInt8), ∀ p ∈ pieces c l, p.length ≤ l.length
  | [], p, h => by
    obtain rfl := List.mem_singleton.1 (show p ∈ [[]] from h)
    simp
  | b :: r, p, h => by
    rw [pieces_cons] at h
    split at h
    · rcases List.mem_cons.1 h with rfl | h
      · simp
      · have := pieces_le c r p h
        rw [List.length_cons]; omega
    · cases e : pieces c r with
      | nil => exact absurd e (pieces_ne c r)
      | cons q s =>
        rw [e] at h
        rcases List.mem_cons.1 (show p ∈ (b :: q) :: s from h) with rfl | h
        · have := pieces_le c r q (by rw [e]; exact List.mem_cons_self ..)
          simpa using this
        · have := pieces_le c r p (by rw [e]; exact List.mem_cons_of_mem _ h)
          rw [List.length_cons]; omega
/-- what Parse gives is normal -/
theorem parse_nm {E : Env} {M : Names} (hM : M.Ok E) {n : Nat} {nm t : List UInt8} (hn : t.length + 1 ≤ n) {m : List PMask} (h : parse E M n nm t = (0, m)) : Nm E n nm m := by
  unfold parse at h
  split at h
  · cases h
  · rename_i h1
    have hh : E.has nm = true := by simpa using h1
    split at h
    · cases h; exact Nm.nil hh n
    · split at h
      · cases h
      · exact parseGo_nm hM _ [] m (fun p hp => by have := pieces_le 44 t p hp; omega) (Nm.nil hh n) h
end Go.Proofs.YtaaneecceiefoaaDoor.Ma

/- Plain laws of layer 19 (mask): the reference's ways of reading and writing texts come to the same; no program in sight. -/
namespace Go.Proofs.YtaaneecceiefoaaDoor.Ma
set_option linter.unusedVariables false
set_option linter.unusedSimpArgs false
def parseGoR (E : Env) (M : Names) (n : Nat) (nm : List UInt8) : List PMask → List (List UInt8) → Int × List PMask
  | acc, [] => (0, acc)
  | acc, t :: r => if (pathM E M nm t).1 ≠ 0 then ((pathM E M nm t).1, []) else parseGoR E M n nm (unionR n acc (pathM E M nm t).2) r
theorem parseGo_eq {E : Env} {M : Names} (hM : M.Ok E) {n : Nat} {nm : List UInt8} : ∀ (l : List (List UInt8)) (acc : List PMask), (∀ t ∈ l, t.length + 1 ≤ n) → Nm E n nm acc → parseGoR E M n nm acc l = parseGo E M n nm acc l
  | [], acc, _, _ => rfl
  | t :: r, acc, hl, ha => by
    unfold parseGoR parseGo
    split
    · rfl
    · rename_i h1
      have h1' : (pathM E M nm t).1 = 0 := by simpa using h1
      have hp := path_nm hM (hl t (List.mem_cons_self ..)) h1'
      rw [← union_eq n ha.srt hp.srt]
      exact parseGo_eq hM r _ (fun x hx => hl x (List.mem_cons_of_mem _ hx)) (union_nm n ha hp)
/-- the reference's text: pieces put behind each other, a comma between -/
def comma (out p : List UInt8) : List UInt8 := (if out ≠ [] then out ++ [44] else out) ++ p
def textR (E : Env) (M : Names) : Nat → List UInt8 → List UInt8 → List PMask → List UInt8
  | 0, _, _, _ => []
  | n + 1, nm, pre, l => l.foldl (fun out x => comma out (if whole x then pre ++ M.name nm x.num else textR E M n (E.ty nm x.num) (pre ++ M.name nm x.num ++ [46]) x.subs)) []
theorem glue_snoc (c : UInt8) (p : List UInt8) : ∀ l : List (List UInt8), l ≠ [] → glue c (l ++ [p]) = glue c l ++ c :: p
  | [], h => absurd rfl h
  | [a], _ => rfl
  | a :: b :: r, _ => by
    show a ++ c :: glue c (b :: (r ++ [p])) = (a ++ c :: glue c (b :: r)) ++ c :: p
    have := glue_snoc c p (b :: r) (by simp)
    rw [show b :: (r ++ [p]) = (b :: r) ++ [p] from rfl, this]
    simp
theorem glue_app (c : UInt8) : ∀ (a b : List (List UInt8)), a ≠ [] → b ≠ [] → glue c (a ++ b) = glue c a ++ c :: glue c b
  | [], _, h, _ => absurd rfl h
  | [x], [], _, h => absurd rfl h
  | [x], y :: b, _, _ => rfl
  | x :: y :: r, b, _, hb => by
    show x ++ c :: glue c ((y :: r) ++ b) = (x ++ c :: glue c (y :: r)) ++ c :: glue c b
    rw [glue_app c (y :: r) b (by simp) hb]
    simp
/-- commas between lists of texts -/
theorem comma_glue {a b : List (List UInt8)} (ha : ∀ p ∈ a, p ≠ []) (hb : b ≠ []) : comma (glue 44 a) (glue 44 b) = glue 44 (a ++ b) := by
  unfold comma
  by_cases h : a = []
  · subst h
    rfl
  · rw [if_pos (glue_ne h ha), glue_app 44 a b h hb]
    simp
theorem glue_cons (c : UInt8) (p : List UInt8) {l : List (List UInt8)} (h : l ≠ []) : glue c (p :: l) = p ++ c :: glue c l := by
  cases l with
  | nil => exact absurd rfl h
  | cons q r => rfl
theorem textN_ne {E : Env} {M : Names} {n : Nat} {nm : List UInt8} {l : List PMask} (h : Nm E n nm l) (hE : E.Ok) (hM : M.Ok E) (hl : l ≠ []) : textN E M n nm l ≠ [] := fun e => by
  have := (walk_text hE hM n h).1
  rw [e] at this
  exact (paths_ne n h.srt.dp).2 hl (List.map_eq_nil_iff.1 this.symm)
theorem textR_eq {E : Env} {M : Names} (hE : E.Ok) (hM : M.Ok E) : ∀ (n : Nat) {nm pre : List UInt8} {l : List PMask}, Nm E n nm l → textR E M n nm pre l = glue 44 ((textN E M n nm l).map fun q => pre ++ glue 46 q)
  | 0, _, _, _, _ => rfl
  | n + 1, nm, pre, l, h => by
    have one : ∀ x ∈ l, (if whole x then pre ++ M.name nm x.num else textR E M n (E.ty nm x.num) (pre ++ M.name nm x.num ++ [46]) x.subs) = glue 44 ((if whole x then [[M.name nm x.num]] else (textN E M n (E.ty nm x.num) x.subs).map (M.name nm x.num :: ·)).map fun q => pre ++ glue 46 q) ∧ (if whole x then [[M.name nm x.num]] else (textN E M n (E.ty nm x.num) x.subs).map (M.name nm x.num :: ·)) ≠ [] ∧ ∀ q ∈ (if whole x then [[M.name nm x.num]] else (textN E M n (E.ty nm x.num) x.subs).map (M.name nm x.num :: ·)), pre ++ glue 46 q ≠ [] := by
      intro x hx
      obtain ⟨f, hf, hs⟩ := h.2.2 x hx
      have hpt := hM.clean _ (hM.part nm x.num f hf)
      have ht : E.ty nm x.num = f.2 := by unfold Env.ty; rw [hf]; rfl
      cases hw : whole x with
      | true =>
        refine ⟨rfl, by simp, fun q hq => ?_⟩
        simp only [if_true] at hq
        obtain rfl := List.mem_singleton.1 hq
        intro e
        exact hpt.1 (List.append_eq_nil_iff.1 e).2
      | false =>
        have h2 : f.1 = true ∧ Nm E n f.2 x.subs := by
          rcases hs with e | e
          · rw [whole_iff.2 e] at hw; cases hw
          · exact e
        have hne : x.subs ≠ [] := fun e => by rw [whole_iff.2 e] at hw; cases hw
        have hq2 := (walk_text hE hM n h2.2).2
        rw [ht]
        simp only [Bool.false_eq_true, if_false]
        refine ⟨?_, fun e => textN_ne h2.2 hE hM hne (List.map_eq_nil_iff.1 e), fun q hq => ?_⟩
        · rw [textR_eq hE hM n h2.2, List.map_map]
          refine congrArg (glue 44) (List.map_congr_left fun q hq => ?_)
          show pre ++ M.name nm x.num ++ [46] ++ glue 46 q = pre ++ glue 46 (M.name nm x.num :: q)
          rw [glue_cons 46 _ (hq2 q hq).1]
          simp
        · obtain ⟨q', hq', rfl⟩ := List.mem_map.1 hq
          rw [glue_cons 46 _ (hq2 q' hq').1]
          simp
    have go : ∀ (r : List PMask) (ts : List (List (List UInt8))), (∀ x ∈ r, x ∈ l) → (∀ q ∈ ts, pre ++ glue 46 q ≠ []) → r.foldl (fun out x => comma out (if whole x then pre ++ M.name nm x.num else textR E M n (E.ty nm x.num) (pre ++ M.name nm x.num ++ [46]) x.subs)) (glue 44 (ts.map fun q => pre ++ glue 46 q)) = glue 44 ((ts ++ textN E M (n + 1) nm r).map fun q => pre ++ glue 46 q) := by
      intro r
      induction r with
      | nil => intro ts _ _; simp [textN]
      | cons x r ih =>
        intro ts hr hts
        obtain ⟨o1, o2, o3⟩ := one x (hr x (List.mem_cons_self ..))
        rw [List.foldl_cons, o1, comma_glue (fun p hp => by obtain ⟨q, hq, rfl⟩ := List.mem_map.1 hp; exact hts q hq) (fun e => o2 (List.map_eq_nil_iff.1 e)), ← List.map_append, ih _ (fun y hy => hr y (List.mem_cons_of_mem _ hy)) (fun q hq => by
          rcases List.mem_append.1 hq with hq | hq
          · exact hts q hq
          · exact o3 q hq), List.append_assoc]
        rfl
    have := go l [] (fun x hx => hx) (fun q hq => by cases hq)
    exact this
end Go.Proofs.YtaaneecceiefoaaDoor.Ma

/- What masks know of a schema: words; no program in sight. -/
namespace Go.Proofs.YtaaneecceiefoaaDoor.Ma
open Ck
set_option linter.unusedVariables false
set_option linter.unusedSimpArgs false
def singleF (f : PField) : Bool := decide (f.tk = 10) && (decide (f.card = 1) || decide (f.card = 2))
def fieldNo (m : PMsg) (k : Int) : Option PField := m.fields.find? fun f => decide (f.num = k)
def aliasW : Str := [97, 108, 105, 97, 115]
def aliased (l : List PNote) (nm : Str) : Bool := match l.find? (fun n => decide (n.name = aliasW)) with
  | some n => decide (n.val.k = 7) && decide (n.val.t = nm)
  | none => false
def fieldNm (m : PMsg) (nm : Str) : Option PField := match m.fields.find? (fun f => decide (f.name = nm)) with
  | some f => some f
  | none => m.fields.find? (fun f => aliased f.notes nm)
/-- may a path go on behind a field -/
def goesOn (f : PField) : Bool := decide (f.tk = 10) && !decide (f.card = 4) && !decide (f.card = 5)
def envOf (s : PSchema) : Env where
  has nm := (msgOf s nm).isSome
  fld nm k := ((msgOf s nm).bind fun m => fieldNo m k).map fun f => (singleF f, f.tn)
  nums nm := ((msgOf s nm).map fun m => m.fields.map (·.num)).getD []
def namesOf (s : PSchema) : Names where
  name nm k := (((msgOf s nm).bind fun m => fieldNo m k).map (·.name)).getD []
  byName nm p := ((msgOf s nm).bind fun m => fieldNm m p).map fun f => (f.num, goesOn f, f.tn)
  part := Id.isPart
end Go.Proofs.YtaaneecceiefoaaDoor.Ma
