/- Masks in memory: by levels, and in which blocks they may lie. -/
import Derived.Test.YtaaneecceiefoaaDoorKitM
import Derived.Test.YtaaneecceiefoaaDoorKitA
import Derived.Shelf.SlSortCmp.WholeK
import Derived.Test.YtaaneecceiefoaaDoorRows
namespace Go.Proofs.YtaaneecceiefoaaDoor
open Go.RowKit Ma
set_option linter.unusedVariables false
set_option linter.unusedSimpArgs false
/-- a list of masks of at most n levels, in blocks that satisfy A: an element's cells are its number and its list -/
def MaskD (A : Nat → Prop) : Nat → World → Value → List PMask → Prop
  | 0, _, v, l => l = [] ∧ ∃ p c, v = .slice p 0 c
  | n + 1, w, v, l => ∃ p c, v = .slice p l.length c ∧ l.length ≤ 140737488355328 ∧ l.length ≤ c ∧ ∀ i x, l[i]? = some x → ∃ b off sv, p = some ⟨b, off, none⟩ ∧ b < w.heap.size ∧ A b ∧ w.cell? ⟨b, off + i * 2, none⟩ = some (.int .i64 x.num) ∧ w.cell? ⟨b, off + i * 2 + 1, none⟩ = some sv ∧ MaskD A n w sv x.subs
/-- w' keeps the blocks of A -/
def Keep (A : Nat → Prop) (w w' : World) : Prop := w.heap.size ≤ w'.heap.size ∧ ∀ b, A b → b < w.heap.size → w'.heap[b]? = w.heap[b]?
theorem Keep.cell {A : Nat → Prop} {w w' : World} (h : Keep A w w') {b o : Nat} {v : Value} (hA : A b) (hv : w.cell? ⟨b, o, none⟩ = some v) : w'.cell? ⟨b, o, none⟩ = some v :=
  (World.cell?_of_block (h.2 b hA (World.block_lt_of_cell? w _ hv))).trans hv
theorem Keep.bel {A : Nat → Prop} {w w' : World} (h : Bel w w') : Keep A w w' := ⟨h.size, fun b _ hb => h.out.block b hb⟩
theorem Keep.grown {A : Nat → Prop} {w w' : World} {row : Option Nat} (h : w.grownBy w' row) (hA : ∀ b, A b → some b ≠ row) : Keep A w w' := ⟨h.size, fun b hb hl => h.block b hl (hA b hb)⟩
section
variable {A A' : Nat → Prop}
theorem MaskD.dp : ∀ {n : Nat} {w : World} {v : Value} {l : List PMask}, MaskD A n w v l → Dp n l
  | 0, _, _, _, h => h.1
  | n + 1, w, v, l, h => fun x hx => by
    obtain ⟨q, c, _, _, _, hel⟩ := h
    obtain ⟨i, hi⟩ := List.getElem?_of_mem hx
    obtain ⟨b, off, sv, _, _, _, _, _, hd⟩ := hel i x hi
    exact hd.dp
theorem MaskD.kept : ∀ {n : Nat} {w w' : World} {v : Value} {l : List PMask}, MaskD A n w v l → Keep A w w' → MaskD A n w' v l
  | 0, _, _, _, _, h, _ => h
  | n + 1, w, w', v, l, h, k => by
    obtain ⟨p, c, h1, h2, h3, hel⟩ := h
    refine ⟨p, c, h1, h2, h3, fun i x hx => ?_⟩
    obtain ⟨b, off, sv, e1, e2, e3, e4, e5, hd⟩ := hel i x hx
    exact ⟨b, off, sv, e1, Nat.lt_of_lt_of_le e2 k.1, e3, k.cell e3 e4, k.cell e3 e5, hd.kept k⟩
theorem MaskD.bel {n : Nat} {w w' : World} {v : Value} {l : List PMask} (h : MaskD A n w v l) (k : Bel w w') : MaskD A n w' v l := h.kept (Keep.bel k)
/-- other blocks allowed; those that are there are below the world's size -/
theorem MaskD.weak : ∀ {n : Nat} {w : World} {v : Value} {l : List PMask}, MaskD A n w v l → (∀ b, A b → b < w.heap.size → A' b) → MaskD A' n w v l
  | 0, _, _, _, h, _ => h
  | n + 1, w, v, l, h, k => by
    obtain ⟨p, c, h1, h2, h3, hel⟩ := h
    refine ⟨p, c, h1, h2, h3, fun i x hx => ?_⟩
    obtain ⟨b, off, sv, e1, e2, e3, e4, e5, hd⟩ := hel i x hx
    exact ⟨b, off, sv, e1, e2, k b e3 e2, e4, e5, hd.weak k⟩
theorem MaskD.form {n : Nat} {w : World} {v : Value} {l : List PMask} (h : MaskD A n w v l) : ∃ p c, v = .slice p l.length c := by
  cases n with
  | zero =>
    obtain ⟨rfl, p, c, h⟩ := h
    exact ⟨p, c, h⟩
  | succ n =>
    obtain ⟨p, c, h, _⟩ := h
    exact ⟨p, c, h⟩
theorem MaskD.empty (n : Nat) (w : World) (p : Option Addr) (c : Nat) : MaskD A n w (.slice p 0 c) [] := by
  cases n with
  | zero => exact ⟨rfl, p, c, rfl⟩
  | succ n => exact ⟨p, c, rfl, by simp, by simp, fun i x hx => by simp at hx⟩
theorem MaskD.nil (n : Nat) (w : World) : MaskD A n w (.slice none 0 0) [] := MaskD.empty n w none 0
theorem MaskD.len {n : Nat} {w : World} {v : Value} {l : List PMask} (h : MaskD A n w v l) : l.length ≤ 140737488355328 := by
  cases n with
  | zero => rw [h.1]; simp
  | succ n =>
    obtain ⟨_, _, _, hl, _⟩ := h
    exact hl
/-- one level more does no harm -/
theorem MaskD.up : ∀ {n : Nat} {w : World} {v : Value} {l : List PMask}, MaskD A n w v l → MaskD A (n + 1) w v l
  | 0, w, v, l, h => by
    obtain ⟨rfl, p, c, rfl⟩ := h
    exact MaskD.empty 1 w p c
  | n + 1, w, v, l, h => by
    obtain ⟨p, c, h1, h2, h3, hel⟩ := h
    refine ⟨p, c, h1, h2, h3, fun i x hx => ?_⟩
    obtain ⟨b, off, sv, e1, e2, e3, e4, e5, hd⟩ := hel i x hx
    exact ⟨b, off, sv, e1, e2, e3, e4, e5, hd.up⟩
theorem MaskD.le {n m : Nat} {w : World} {v : Value} {l : List PMask} (h : MaskD A n w v l) (hm : n ≤ m) : MaskD A m w v l := by
  induction hm with
  | refl => exact h
  | step _ ih => exact ih.up
theorem MaskD.ne {n : Nat} {w : World} {v : Value} {l : List PMask} (h : MaskD A n w v l) (hl : l ≠ []) : n ≠ 0 := by
  intro e
  subst e
  exact hl h.1
end
/-! how wide lists of masks are -/
def Wd (B : Nat) : Nat → List PMask → Prop
  | 0, _ => True
  | n + 1, l => l.length ≤ B ∧ ∀ x ∈ l, Wd B n x.subs
theorem Wd.mono {B C : Nat} (hB : B ≤ C) : ∀ {n : Nat} {l : List PMask}, Wd B n l → Wd C n l
  | 0, _, _ => trivial
  | n + 1, l, h => ⟨Nat.le_trans h.1 hB, fun x hx => (h.2 x hx).mono hB⟩
theorem Wd.find {B n : Nat} {l : List PMask} (h : Wd B (n + 1) l) {q : Int} {x : PMask} (hx : find l q = some x) : Wd B n x.subs := h.2 x (find_some hx).1
theorem Wd.nil (B : Nat) : ∀ n : Nat, Wd B n []
  | 0 => trivial
  | n + 1 => ⟨by simp, fun x hx => by cases hx⟩
end Go.Proofs.YtaaneecceiefoaaDoor

/- A row that is sorted in place: what it holds, and what else stands. -/
namespace Go.Proofs.YtaaneecceiefoaaDoor
open Go.RowKit Ma
set_option linter.unusedVariables false
set_option linter.unusedSimpArgs false
theorem flatMap_at {α : Type} {enc : α → List Value} {k : Nat} (hk : ∀ x, (enc x).length = k) (k0 : 0 < k) : ∀ (l : List α) (t : Nat), (l.flatMap enc)[t]? = (l[t / k]?).bind (fun x => (enc x)[t % k]?)
  | [], t => by simp
  | a :: l, t => by
    rw [List.flatMap_cons]
    rcases Nat.lt_or_ge t k with ht | ht
    · rw [List.getElem?_append_left (by rw [hk]; exact ht), Nat.div_eq_of_lt ht, Nat.mod_eq_of_lt ht]
      rfl
    · rw [List.getElem?_append_right (by rw [hk]; exact ht), hk, flatMap_at hk k0 l (t - k)]
      obtain ⟨u, rfl⟩ : ∃ u, t = u + k := ⟨t - k, by omega⟩
      rw [Nat.add_sub_cancel, Nat.add_div_right u k0, Nat.add_mod_right]
      rfl
theorem flatMap_size {α : Type} {enc : α → List Value} {k : Nat} (hk : ∀ x, (enc x).length = k) : ∀ (l : List α), (l.flatMap enc).length = l.length * k
  | [] => by simp
  | a :: l => by rw [List.flatMap_cons, List.length_append, hk, flatMap_size hk l, List.length_cons, Nat.add_mul, Nat.one_mul, Nat.add_comm]
theorem flatK_get {α : Type} [Inhabited α] {enc : α → List Value} {k : Nat} (hk : ∀ x, (enc x).length = k) (k0 : 0 < k) (d : Array α) (t : Nat) (ht : t < d.size * k) : (d.toList.flatMap enc)[t]? = some ((Sort.flatK enc k d)[t]!) := by
  have hd : t / k < d.size := (Nat.div_lt_iff_lt_mul k0).2 ht
  have hm : t % k < k := Nat.mod_lt _ k0
  rw [Sort.get_flatK _ _ _ _ ht, flatMap_at hk k0, Array.getElem?_toList, Array.getElem?_eq_getElem hd, getElem!_pos d _ hd]
  have hl : t % k < (enc d[t / k]).length := by rw [hk]; exact hm
  show (enc d[t / k])[t % k]? = _
  rw [List.getElem?_eq_getElem hl, getElem!_pos (enc d[t / k]) (t % k) hl]
theorem own_sorted {α : Type} [Inhabited α] {enc : α → List Value} {k : Nat} (hk : ∀ x, (enc x).length = k) (k0 : 0 < k) {w : World} {B : Nat} {e : TypeId} {g cap : Nat} {d : Array α} (h : w.ownsRow B e k (.slice (some ⟨g, 0, none⟩) d.size cap) d.size (d.toList.flatMap enc)) :
    Sort.HoldsK enc k w g 0 d ∧ g < w.heap.size ∧ ∀ (d' : Array α) (n : Nat) (os : Array Obj), d'.size = d.size →
      (sortWorldK enc k w g 0 n d' os).ownsRow B e k (.slice (some ⟨g, 0, none⟩) d.size cap) d.size (d'.toList.flatMap enc) ∧ w.grownBy (sortWorldK enc k w g 0 n d' os) (some g) := by
  rcases h.2 with ⟨h1, _⟩ | ⟨g', cap', cur, h1, hB, hg, hn, hc, hs, hx⟩
  · cases h1
  cases h1
  have hle : d.size * k ≤ cur.size := by rw [hs]; exact Nat.mul_le_mul_right k hn
  have hcur : ∀ t, t < d.size * k → cur[t]? = some ((Sort.flatK enc k d)[t]!) := fun t ht => by
    rw [← flatK_get hk k0 d t ht, ← hx, List.getElem?_take_of_lt ht, Array.getElem?_toList]
  have hglt := (Array.getElem?_eq_some_iff.1 hg).1
  refine ⟨fun j hj => ?_, hglt, fun d' n os hsz => ⟨⟨?_, .inr ⟨g, cap, Sort.putCells id 0 (Sort.flatK enc k d') cur, rfl, hB, ?_, hn, hc, ?_, ?_⟩⟩, ?_⟩⟩
  · rw [Sort.size_flatK] at hj
    rw [Nat.zero_add]
    exact ⟨(Lib.cell_of_heap hg j).trans (hcur j hj), Lib.frozen_of_heap hg j⟩
  · rw [flatMap_size hk, Array.length_toList, hsz]
  · unfold sortWorldK Sort.grow Sort.putRowK Sort.putRow Sort.mapBlock Sort.ahead
    show ((w.heap.modify g _) ++ os)[g]? = _
    rw [Array.getElem?_append_left (by simpa using hglt), Array.getElem?_modify, if_pos rfl, hg]
    rfl
  · unfold Sort.putCells
    rw [Array.size_mapIdx, hs]
  · refine List.ext_getElem? fun t => ?_
    rcases Nat.lt_or_ge t (d.size * k) with ht | ht
    · rw [List.getElem?_take_of_lt ht, flatK_get hk k0 d' t (by rw [hsz]; exact ht), Array.getElem?_toList]
      unfold Sort.putCells
      rw [Array.getElem?_mapIdx, hcur t ht, Option.map_some, if_pos ⟨Nat.zero_le _, by rw [Sort.size_flatK, hsz]; omega⟩]
      rfl
    · rw [List.getElem?_eq_none (by rw [List.length_take]; omega), List.getElem?_eq_none (by rw [flatMap_size hk, Array.length_toList, hsz]; exact ht)]
  · refine ⟨rfl, rfl, rfl, ?_, fun j hj hne => ?_⟩
    · show w.heap.size ≤ ((w.heap.modify g _) ++ os).size
      rw [Array.size_append, Array.size_modify]
      omega
    · show ((w.heap.modify g _) ++ os)[j]? = _
      rw [Array.getElem?_append_left (by simpa using hj), Array.getElem?_modify, if_neg (fun e => hne (by rw [e]))]
/-- an element of a row of masks: its mask, and where its list stands -/
structure ME where
  x : PMask
  p : Option Addr
  c : Nat
instance : Inhabited ME := ⟨⟨.mk 0 [], none, 0⟩⟩
def meC (e : ME) : List Value := [.int .i64 e.x.num, .slice e.p e.x.subs.length e.c]
def MEok (A : Nat → Prop) (n : Nat) (w : World) (e : ME) : Prop := MaskD A n w (.slice e.p e.x.subs.length e.c) e.x.subs
theorem meC_len (e : ME) : (meC e).length = 2 := rfl
theorem meC_one (e : ME) : ∀ v ∈ meC e, v.oneCell' = true := by
  intro v hv
  simp only [meC, List.mem_cons, List.not_mem_nil, or_false] at hv
  rcases hv with rfl | rfl <;> rfl
theorem own_at {α : Type} {enc : α → List Value} {k : Nat} (hk : ∀ x, (enc x).length = k) {w : World} {B : Nat} {e : TypeId} {v : Value} {L : List α} (h : w.ownsRow B e k v L.length (L.flatMap enc)) : (v = .slice none 0 0 ∧ L = []) ∨ ∃ g c, v = .slice (some ⟨g, 0, none⟩) L.length c ∧ B ≤ g ∧ g < w.heap.size ∧ L.length ≤ c ∧ ∀ i x, L[i]? = some x → ∀ j u, (enc x)[j]? = some u → w.cell? ⟨g, i * k + j, none⟩ = some u := by
  rcases h.2 with ⟨rfl, h0⟩ | ⟨g, cap, cur, rfl, h1, h2, h3, h4, h5, h6⟩
  · exact .inl ⟨rfl, List.length_eq_zero_iff.1 h0⟩
  · refine .inr ⟨g, cap, rfl, h1, (Array.getElem?_eq_some_iff.1 h2).1, h3, fun i x hx j u hu => ?_⟩
    have hj : j < k := by
      have := (List.getElem?_eq_some_iff.1 hu).1
      rwa [hk] at this
    have := h.cells (g := g) rfl (i * k + j) u (by
      rw [flatMap_at hk (by omega), Nat.mul_comm i k, Nat.mul_add_div (by omega), Nat.mul_add_mod, Nat.div_eq_of_lt hj, Nat.mod_eq_of_lt hj, Nat.add_zero, hx]
      exact hu)
    rw [Addr.add_lit] at this
    simpa using this
/-- an own row of masks reads as a list of masks -/
theorem maskD_own {A A' : Nat → Prop} {n : Nat} {w : World} {B : Nat} {e : TypeId} {v : Value} {L : List ME} (h : w.ownsRow B e 2 v L.length (L.flatMap meC)) (hl : L.length ≤ 140737488355328) (hV : ∀ x ∈ L, MEok A n w x) (hA : ∀ b, A b → A' b) (hB : ∀ b, B ≤ b → A' b) : MaskD A' (n + 1) w v (L.map (·.x)) := by
  rcases own_at meC_len h with ⟨rfl, rfl⟩ | ⟨g, c, rfl, hg, hs, hc, hel⟩
  · exact MaskD.empty (n + 1) w none 0
  · refine ⟨some ⟨g, 0, none⟩, c, by rw [List.length_map], by rw [List.length_map]; exact hl, by rw [List.length_map]; exact hc, fun i y hy => ?_⟩
    rw [List.getElem?_map] at hy
    cases hx : L[i]? with
    | none => rw [hx] at hy; cases hy
    | some x =>
      rw [hx] at hy
      cases hy
      have e0 := hel i x hx 0 _ rfl
      have e1 := hel i x hx 1 _ rfl
      refine ⟨g, 0, .slice x.p x.x.subs.length x.c, rfl, hs, hB g hg, by simpa using e0, by simpa using e1, (hV x (List.mem_of_getElem? hx)).weak (fun b hb _ => hA b hb)⟩
/-- a walk's row of masks -/
def medge (v : Value) (L : List ME) : Row := ⟨42, 2, v, L.length, L.flatMap meC⟩
theorem medge_snoc {w0 w : World} {R : List Row} {X : List Box} {v : Value} {L : List ME} {e : ME} (h : ST w0 (⟨42, 2, v, L.length + 1, L.flatMap meC ++ meC e⟩ :: R) X w) : ST w0 (medge v (L ++ [e]) :: R) X w := by
  unfold medge
  rw [List.length_append, List.flatMap_append]
  simpa using h
theorem mask_info : (Tryd.prog.info? 42).map (fun i => (i.zero, i.size, i.bytes)) = some (some (.agg #[.int .i64 0, .slice none 0 0]), 2, 32) := by kernel_rfl
/-- the blocks that a walk's elements may lie in, whose row is v: those of A, and new ones that are not the row's -/
def Off (A : Nat → Prop) (N : Nat) (v : Value) (b : Nat) : Prop := A b ∨ N ≤ b ∧ some b ≠ v.ownBlock
/-- the elements behind the row's growth -/
theorem MEok.grown {A : Nat → Prop} {N n : Nat} {w w' : World} {e : ME} {v : Value} {g m c : Nat} (h : MEok (Off A N v) n w e) (hg : w.grownBy w' v.ownBlock) (hA : ∀ b, A b → b < N) (hv : ∀ k, v.ownBlock = some k → N ≤ k) (hfr : v.ownBlock = some g ∨ g = w.heap.size) : MEok (Off A N (.slice (some ⟨g, 0, none⟩) m c)) n w' e := by
  have h1 : MaskD (fun b => Off A N v b ∧ b < w.heap.size) n w (.slice e.p e.x.subs.length e.c) e.x.subs := MaskD.weak h (fun b hb hl => ⟨hb, hl⟩)
  refine MaskD.weak (h1.kept (Keep.grown hg fun b hb e2 => ?_)) (fun b hb _ => ?_)
  · rcases hb.1 with hb1 | hb1
    · have := hA b hb1
      have := hv b e2.symm
      omega
    · exact hb1.2 e2
  · rcases hb.1 with hb1 | hb1
    · exact .inl hb1
    · refine .inr ⟨hb1.1, fun e2 => ?_⟩
      have e3 : b = g := by injection e2
      subst e3
      rcases hfr with h4 | h4
      · exact hb1.2 h4.symm
      · have := hb.2
        omega
def RowOK (A : Nat → Prop) (N n : Nat) (v : Value) (L : List ME) (w : World) : Prop := ∀ e ∈ L, MEok (Off A N v) n w e
theorem RowOK.nil (A : Nat → Prop) (N n : Nat) (v : Value) (w : World) : RowOK A N n v [] w := fun e he => by cases he
theorem RowOK.bel {A : Nat → Prop} {N n : Nat} {v : Value} {L : List ME} {w w' : World} (h : RowOK A N n v L w) (k : Bel w w') : RowOK A N n v L w' := fun e he => MaskD.bel (h e he) k
theorem RowOK.snoc {A : Nat → Prop} {w0 : World} {n : Nat} {v : Value} {L : List ME} {w w' : World} {e : ME} {R : List Row} {X : List Box} {g m c : Nat} (h : RowOK A w0.heap.size n v L w) (hS : ST w0 (medge v L :: R) X w) (hA : ∀ b, A b → b < w0.heap.size) (he : MEok (Off A w0.heap.size v) n w e) (hg : w.grownBy w' v.ownBlock) {H : Nat} (hfr : v.ownBlock = some g ∨ g = H) (hH : w.heap.size = H) : RowOK A w0.heap.size n (.slice (some ⟨g, 0, none⟩) m c) (L ++ [e]) w' := by
  subst hH
  have hv : ∀ k, v.ownBlock = some k → w0.heap.size ≤ k := fun k hk => ((hS.row 0 rfl).lt k hk).1
  intro x hx
  rcases List.mem_append.1 hx with hx | hx
  · exact (h x hx).grown hg hA hv hfr
  · rw [List.mem_singleton] at hx
    subst hx
    exact MEok.grown he hg hA hv hfr
/-- blocks made behind the row's last growth are not the row's -/
theorem off_new {A : Nat → Prop} {w0 W : World} {v : Value} {L : List ME} {R : List Row} {X : List Box} (hS : ST w0 (medge v L :: R) X W) {b : Nat} (hb : A b ∨ W.heap.size ≤ b) : Off A w0.heap.size v b := by
  rcases hb with hb | hb
  · exact .inl hb
  · refine .inr ⟨Nat.le_trans hS.bel.size hb, fun e => ?_⟩
    have := ((hS.row 0 rfl).lt b e.symm).2
    omega
theorem off_old {A : Nat → Prop} {N n : Nat} {v : Value} {w : World} {e : ME} (h : MaskD A n w (.slice e.p e.x.subs.length e.c) e.x.subs) : MEok (Off A N v) n w e := h.weak (fun b hb _ => .inl hb)
/-- what a function gives that makes a mask -/
def MaskOut (A : Nat → Prop) (n : Nat) (w : World) (l : List PMask) (e : Ending) (w' : World) : Prop := ∃ v, e = .returned v ∧ MaskD (fun b => A b ∨ w.heap.size ≤ b) n w' v l ∧ Bel w w'
theorem mask_out {A : Nat → Prop} {n : Nat} {w0 w : World} {v : Value} {L : List ME} {R : List Row} {X : List Box} {l : List PMask} (hS : ST w0 (medge v L :: R) X w) (h : RowOK A w0.heap.size n v L w) (hl : L.length ≤ 140737488355328) (e : L.map (·.x) = l) : MaskD (fun b => A b ∨ w0.heap.size ≤ b) (n + 1) w v l := by
  subst e
  refine maskD_own (hS.row 0 rfl) hl h (fun b hb => ?_) (fun b hb => .inr hb)
  rcases hb with hb | hb
  · exact .inl hb
  · exact .inr hb.1
end Go.Proofs.YtaaneecceiefoaaDoor

/- Values in memory, by levels, and in which blocks they may lie; rows of slots. -/
namespace Go.Proofs.YtaaneecceiefoaaDoor
open Go.RowKit Ma
set_option linter.unusedVariables false
set_option linter.unusedSimpArgs false
/-- a slice of elements of C cells, in blocks that satisfy A -/
def SlA {α : Type} (A : Nat → Prop) (C : Nat) (V : World → List Value → α → Prop) (w : World) (v : Value) (xs : List α) : Prop :=
  ∃ (p : Option Addr) (c : Nat), v = .slice p xs.length c ∧ xs.length ≤ 140737488355328 ∧ xs.length ≤ c ∧ ∀ i x, xs[i]? = some x → ∃ b off vs, p = some ⟨b, off, none⟩ ∧ b < w.heap.size ∧ A b ∧ Cells w b (off + i * C) vs ∧ V w vs x
theorem SlA.kept {α : Type} {A : Nat → Prop} {C : Nat} {V : World → List Value → α → Prop} {w w' : World} {v : Value} {xs : List α} (h : SlA A C V w v xs) (k : Keep A w w') (hV : ∀ vs x, V w vs x → V w' vs x) : SlA A C V w' v xs := by
  obtain ⟨p, c, h1, h2, h3, hel⟩ := h
  refine ⟨p, c, h1, h2, h3, fun i x hx => ?_⟩
  obtain ⟨b, off, vs, e1, e2, e3, e4, e5⟩ := hel i x hx
  exact ⟨b, off, vs, e1, Nat.lt_of_lt_of_le e2 k.1, e3, fun j u hu => k.cell e3 (e4 j u hu), hV vs x e5⟩
theorem SlA.weak {α : Type} {A A' : Nat → Prop} {C : Nat} {V V' : World → List Value → α → Prop} {w : World} {v : Value} {xs : List α} (h : SlA A C V w v xs) (k : ∀ b, A b → b < w.heap.size → A' b) (hV : ∀ vs x, V w vs x → V' w vs x) : SlA A' C V' w v xs := by
  obtain ⟨p, c, h1, h2, h3, hel⟩ := h
  refine ⟨p, c, h1, h2, h3, fun i x hx => ?_⟩
  obtain ⟨b, off, vs, e1, e2, e3, e4, e5⟩ := hel i x hx
  exact ⟨b, off, vs, e1, e2, k b e3 e2, e4, hV vs x e5⟩
theorem SlA.nil {α : Type} (A : Nat → Prop) (C : Nat) (V : World → List Value → α → Prop) (w : World) (p : Option Addr) (c : Nat) : SlA A C V w (.slice p 0 c) [] := ⟨p, c, rfl, by simp, by simp, fun i x hx => by simp at hx⟩
/-- a value's seven cells -/
structure VC where
  k : Int
  b : Int
  t : List UInt8
  p1 : Option Addr
  n1 : Nat
  c1 : Nat
  p2 : Option Addr
  n2 : Nat
  c2 : Nat
  p3 : Option Addr
  n3 : Nat
  c3 : Nat
  p4 : Option Addr
  n4 : Nat
  c4 : Nat
def VC.cells (v : VC) : List Value := [.int .i64 v.k, .int .u64 v.b, .string (S v.t), .slice v.p1 v.n1 v.c1, .slice v.p2 v.n2 v.c2, .slice v.p3 v.n3 v.c3, .slice v.p4 v.n4 v.c4]
def rawC (r : PRaw) : List Value := [.int .i64 r.num, .int .i64 r.wire, .int .u64 r.bits, .string (S r.data)]
def VRaw (w : World) (vs : List Value) (r : PRaw) : Prop := vs = rawC r
/-- the value that seven cells hold, of at most n levels -/
def ValC (A : Nat → Prop) : Nat → World → VC → CV → Prop
  | 0, _, _, _ => False
  | n + 1, w, c, .scalar k b t => c.k = k ∧ k ≠ 10 ∧ k ≠ 11 ∧ k ≠ 12 ∧ c.b = b ∧ 0 ≤ c.b ∧ c.b < 18446744073709551616 ∧ c.t = t
  | n + 1, w, c, .list l => c.k = 11 ∧ SlA A 7 (fun w vs v => ∃ d : VC, vs = d.cells ∧ ValC A n w d v) w (.slice c.p1 c.n1 c.c1) l
  | n + 1, w, c, .map l => c.k = 12 ∧ SlA A 14 (fun w vs (v : CV × CV) => ∃ d1 d2 : VC, vs = d1.cells ++ d2.cells ∧ ValC A n w d1 v.1 ∧ ValC A n w d2 v.2) w (.slice c.p2 c.n2 c.c2) l
  | n + 1, w, c, .msg sl rw => c.k = 10 ∧ SlA A 8 (fun w vs (v : Int × CV) => ∃ d : VC, vs = .int .i64 v.1 :: d.cells ∧ ValC A n w d v.2) w (.slice c.p3 c.n3 c.c3) sl ∧ SlA A 4 VRaw w (.slice c.p4 c.n4 c.c4) rw
def VList (A : Nat → Prop) (n : Nat) (w : World) (vs : List Value) (v : CV) : Prop := ∃ d : VC, vs = d.cells ∧ ValC A n w d v
def VPair (A : Nat → Prop) (n : Nat) (w : World) (vs : List Value) (v : CV × CV) : Prop := ∃ d1 d2 : VC, vs = d1.cells ++ d2.cells ∧ ValC A n w d1 v.1 ∧ ValC A n w d2 v.2
def VSlot (A : Nat → Prop) (n : Nat) (w : World) (vs : List Value) (v : Int × CV) : Prop := ∃ d : VC, vs = .int .i64 v.1 :: d.cells ∧ ValC A n w d v.2
theorem ValC.kept {A : Nat → Prop} : ∀ {n : Nat} {w w' : World} {c : VC} {v : CV}, ValC A n w c v → Keep A w w' → ValC A n w' c v
  | 0, _, _, _, _, h, _ => h.elim
  | n + 1, _, _, _, .scalar k b t, h, _ => h
  | n + 1, _, _, _, .list l, h, k => ⟨h.1, (show SlA A 7 (VList A n) _ _ _ from h.2).kept k (fun _ _ ⟨d, h1, h2⟩ => ⟨d, h1, ValC.kept h2 k⟩)⟩
  | n + 1, _, _, _, .map l, h, k => ⟨h.1, (show SlA A 14 (VPair A n) _ _ _ from h.2).kept k (fun _ _ ⟨d1, d2, h1, h2, h3⟩ => ⟨d1, d2, h1, ValC.kept h2 k, ValC.kept h3 k⟩)⟩
  | n + 1, _, _, _, .msg sl rw, h, k => ⟨h.1, (show SlA A 8 (VSlot A n) _ _ _ from h.2.1).kept k (fun _ _ ⟨d, h1, h2⟩ => ⟨d, h1, ValC.kept h2 k⟩), h.2.2.kept k (fun _ _ h => h)⟩
theorem ValC.bel {A : Nat → Prop} {n : Nat} {w w' : World} {c : VC} {v : CV} (h : ValC A n w c v) (k : Bel w w') : ValC A n w' c v := h.kept (Keep.bel k)
theorem ValC.weak {A A' : Nat → Prop} : ∀ {n : Nat} {w : World} {c : VC} {v : CV}, ValC A n w c v → (∀ b, A b → b < w.heap.size → A' b) → ValC A' n w c v
  | 0, _, _, _, h, _ => h.elim
  | n + 1, _, _, .scalar k b t, h, _ => h
  | n + 1, _, _, .list l, h, k => ⟨h.1, (show SlA A 7 (VList A n) _ _ _ from h.2).weak k (fun _ _ ⟨d, h1, h2⟩ => ⟨d, h1, ValC.weak h2 k⟩)⟩
  | n + 1, _, _, .map l, h, k => ⟨h.1, (show SlA A 14 (VPair A n) _ _ _ from h.2).weak k (fun _ _ ⟨d1, d2, h1, h2, h3⟩ => ⟨d1, d2, h1, ValC.weak h2 k, ValC.weak h3 k⟩)⟩
  | n + 1, _, _, .msg sl rw, h, k => ⟨h.1, (show SlA A 8 (VSlot A n) _ _ _ from h.2.1).weak k (fun _ _ ⟨d, h1, h2⟩ => ⟨d, h1, ValC.weak h2 k⟩), h.2.2.weak k (fun _ _ h => h)⟩
theorem ValC.kind {A : Nat → Prop} : ∀ {n : Nat} {w : World} {c : VC} {v : CV}, ValC A n w c v → c.k = v.kind
  | 0, _, _, _, h => h.elim
  | n + 1, _, _, .scalar k b t, h => h.1
  | n + 1, _, _, .list l, h => h.1
  | n + 1, _, _, .map l, h => h.1
  | n + 1, _, _, .msg sl rw, h => h.1
theorem ValC.msg {A : Nat → Prop} {n : Nat} {w : World} {c : VC} {v : CV} (h : ValC A n w c v) : c.k = 10 ↔ v.isMsg = true := by
  cases n with
  | zero => exact h.elim
  | succ n =>
    cases v with
    | scalar k b t => exact ⟨fun e => absurd (h.1.symm.trans e) h.2.1, fun e => (by cases e)⟩
    | list l => exact ⟨fun e => (by have := h.1.symm.trans e; omega), fun e => (by cases e)⟩
    | map l => exact ⟨fun e => (by have := h.1.symm.trans e; omega), fun e => (by cases e)⟩
    | msg sl rw => exact ⟨fun _ => rfl, fun _ => h.1⟩
/-- one level more does no harm -/
theorem ValC.up {A : Nat → Prop} : ∀ {n : Nat} {w : World} {c : VC} {v : CV}, ValC A n w c v → ValC A (n + 1) w c v
  | 0, _, _, _, h => h.elim
  | n + 1, _, _, .scalar k b t, h => h
  | n + 1, _, _, .list l, h => ⟨h.1, (show SlA A 7 (VList A n) _ _ _ from h.2).weak (fun _ hb _ => hb) (fun _ _ ⟨d, h1, h2⟩ => ⟨d, h1, ValC.up h2⟩)⟩
  | n + 1, _, _, .map l, h => ⟨h.1, (show SlA A 14 (VPair A n) _ _ _ from h.2).weak (fun _ hb _ => hb) (fun _ _ ⟨d1, d2, h1, h2, h3⟩ => ⟨d1, d2, h1, ValC.up h2, ValC.up h3⟩)⟩
  | n + 1, _, _, .msg sl rw, h => ⟨h.1, (show SlA A 8 (VSlot A n) _ _ _ from h.2.1).weak (fun _ hb _ => hb) (fun _ _ ⟨d, h1, h2⟩ => ⟨d, h1, ValC.up h2⟩), h.2.2⟩
/-- an element of a row of slots -/
structure SE where
  x : Int × CV
  d : VC
def seC (e : SE) : List Value := .int .i64 e.x.1 :: e.d.cells
def SEok (A : Nat → Prop) (n : Nat) (w : World) (e : SE) : Prop := ValC A n w e.d e.x.2
theorem seC_len (e : SE) : (seC e).length = 8 := rfl
theorem seC_one (e : SE) : ∀ v ∈ seC e, v.oneCell' = true := by
  intro v hv
  simp only [seC, VC.cells, List.mem_cons, List.not_mem_nil, or_false] at hv
  rcases hv with rfl | rfl | rfl | rfl | rfl | rfl | rfl | rfl <;> rfl
theorem slots_own {A A' : Nat → Prop} {n : Nat} {w : World} {B : Nat} {e : TypeId} {v : Value} {L : List SE} (h : w.ownsRow B e 8 v L.length (L.flatMap seC)) (hl : L.length ≤ 140737488355328) (hV : ∀ x ∈ L, SEok A n w x) (hA : ∀ b, A b → A' b) (hB : ∀ b, B ≤ b → A' b) : SlA A' 8 (VSlot A' n) w v (L.map (·.x)) := by
  rcases own_at seC_len h with ⟨rfl, rfl⟩ | ⟨g, c, rfl, hg, hs, hc, hel⟩
  · exact SlA.nil _ _ _ _ _ _
  · refine ⟨some ⟨g, 0, none⟩, c, by rw [List.length_map], by rw [List.length_map]; exact hl, by rw [List.length_map]; exact hc, fun i y hy => ?_⟩
    rw [List.getElem?_map] at hy
    cases hx : L[i]? with
    | none => rw [hx] at hy; cases hy
    | some x =>
      rw [hx] at hy
      cases hy
      refine ⟨g, 0, seC x, rfl, hs, hB g hg, fun j u hu => by have := hel i x hx j u hu; rwa [Nat.zero_add], x.d, rfl, (hV x (List.mem_of_getElem? hx)).weak (fun b hb _ => hA b hb)⟩
def sedge (v : Value) (L : List SE) : Row := ⟨40, 8, v, L.length, L.flatMap seC⟩
theorem sedge_snoc {w0 w : World} {R : List Row} {X : List Box} {v : Value} {L : List SE} {e : SE} (h : ST w0 (⟨40, 8, v, L.length + 1, L.flatMap seC ++ seC e⟩ :: R) X w) : ST w0 (sedge v (L ++ [e]) :: R) X w := by
  unfold sedge
  rw [List.length_append, List.flatMap_append]
  simpa using h
theorem slot_info : (Tryd.prog.info? 40).map (fun i => (i.zero, i.size, i.bytes)) = some (some (.agg #[.int .i64 0, .int .i64 0, .int .u64 0, .string ByteArray.empty, .slice none 0 0, .slice none 0 0, .slice none 0 0, .slice none 0 0]), 8, 136) := by kernel_rfl
theorem SEok.grown {A : Nat → Prop} {M N n : Nat} {w w' : World} {e : SE} {v : Value} {g m c : Nat} (h : SEok (Off A N v) n w e) (hg : w.grownBy w' v.ownBlock) (hA : ∀ b, A b → b < M) (hv : ∀ k, v.ownBlock = some k → M ≤ k) (hfr : v.ownBlock = some g ∨ g = w.heap.size) : SEok (Off A N (.slice (some ⟨g, 0, none⟩) m c)) n w' e := by
  have h1 : ValC (fun b => Off A N v b ∧ b < w.heap.size) n w e.d e.x.2 := ValC.weak h (fun b hb hl => ⟨hb, hl⟩)
  refine ValC.weak (h1.kept (Keep.grown hg fun b hb e2 => ?_)) (fun b hb _ => ?_)
  · rcases hb.1 with hb1 | hb1
    · have := hA b hb1
      have := hv b e2.symm
      omega
    · exact hb1.2 e2
  · rcases hb.1 with hb1 | hb1
    · exact .inl hb1
    · refine .inr ⟨hb1.1, fun e2 => ?_⟩
      have e3 : b = g := by injection e2
      subst e3
      rcases hfr with h4 | h4
      · exact hb1.2 h4.symm
      · have := hb.2
        omega
def SRowOK (A : Nat → Prop) (N n : Nat) (v : Value) (L : List SE) (w : World) : Prop := ∀ e ∈ L, SEok (Off A N v) n w e
theorem SRowOK.nil (A : Nat → Prop) (N n : Nat) (v : Value) (w : World) : SRowOK A N n v [] w := fun e he => by cases he
theorem SRowOK.bel {A : Nat → Prop} {N n : Nat} {v : Value} {L : List SE} {w w' : World} (h : SRowOK A N n v L w) (k : Bel w w') : SRowOK A N n v L w' := fun e he => ValC.bel (h e he) k
theorem SRowOK.kept {A : Nat → Prop} {N n : Nat} {v : Value} {L : List SE} {w w' : World} (h : SRowOK A N n v L w) (k : Keep (Off A N v) w w') : SRowOK A N n v L w' := fun e he => ValC.kept (h e he) k
theorem SRowOK.snoc {A : Nat → Prop} {w0 : World} {N n : Nat} {v : Value} {L : List SE} {w w' : World} {e : SE} {R : List Row} {X : List Box} {g m c : Nat} (h : SRowOK A N n v L w) (hS : ST w0 (sedge v L :: R) X w) (hA : ∀ b, A b → b < w0.heap.size) (he : SEok (Off A N v) n w e) (hg : w.grownBy w' v.ownBlock) {H : Nat} (hfr : v.ownBlock = some g ∨ g = H) (hH : w.heap.size = H) : SRowOK A N n (.slice (some ⟨g, 0, none⟩) m c) (L ++ [e]) w' := by
  subst hH
  have hv : ∀ k, v.ownBlock = some k → w0.heap.size ≤ k := fun k hk => ((hS.row 0 rfl).lt k hk).1
  intro x hx
  rcases List.mem_append.1 hx with hx | hx
  · exact (h x hx).grown hg hA hv hfr
  · rw [List.mem_singleton] at hx
    subst hx
    exact SEok.grown he hg hA hv hfr
theorem soff_new {A : Nat → Prop} {w0 W : World} {v : Value} {L : List SE} {R : List Row} {X : List Box} (hS : ST w0 (sedge v L :: R) X W) {N : Nat} (hN : N ≤ W.heap.size) {b : Nat} (hb : A b ∨ W.heap.size ≤ b) : Off A N v b := by
  rcases hb with hb | hb
  · exact .inl hb
  · refine .inr ⟨Nat.le_trans hN hb, fun e => ?_⟩
    have := ((hS.row 0 rfl).lt b e.symm).2
    omega
theorem keep_set {A : Nat → Prop} {N : Nat} {v : Value} {w : World} {g o : Nat} {u : Value} (hA : ∀ b, A b → b < g) (hN : g < N) : Keep (Off A N v) w (w.setCell ⟨g, o, none⟩ u) := Keep.grown (grown_setCell w g o u) fun b hb e => by
  have e2 : b = g := by injection e
  subst e2
  rcases hb with hb | hb
  · have := hA b hb
    omega
  · omega
theorem soff_old {A : Nat → Prop} {N n : Nat} {v : Value} {w : World} {e : SE} (h : ValC A n w e.d e.x.2) : SEok (Off A N v) n w e := h.weak (fun b hb _ => .inl hb)
/-! how wide a value's lists of slots are -/
def WdV (B : Nat) : Nat → CV → Prop
  | 0, _ => True
  | n + 1, .msg sl rw => sl.length ≤ B ∧ ∀ x ∈ sl, WdV B n x.2
  | _ + 1, _ => True
/-- what a function gives that makes a value -/
def ValOut (A : Nat → Prop) (n : Nat) (w : World) (cv : CV) (e : Ending) (w' : World) : Prop := ∃ d : VC, e = .returned (.agg d.cells.toArray) ∧ ValC (fun b => A b ∨ w.heap.size ≤ b) n w' d cv ∧ Bel w w'
end Go.Proofs.YtaaneecceiefoaaDoor

/- How wide meet, union, minus are. -/
namespace Go.Proofs.YtaaneecceiefoaaDoor
open Ma
set_option linter.unusedVariables false
set_option linter.unusedSimpArgs false
theorem fm_len {α β : Type} (f : α → Option β) (l : List α) : (l.filterMap f).length ≤ l.length := List.length_filterMap_le f l
theorem wd_meet (B : Nat) : ∀ (n : Nat) {a b : List PMask}, Wd B n a → Wd B n b → Wd B n (meet n a b)
  | 0, _, _, _, _ => trivial
  | n + 1, a, b, ha, hb => by
    refine ⟨Nat.le_trans (fm_len _ _) ha.1, fun z hz => ?_⟩
    obtain ⟨x, hx, hz⟩ := List.mem_filterMap.1 hz
    unfold pickO at hz
    obtain ⟨y, hy, hz⟩ := Option.bind_eq_some_iff.1 hz
    have h2 := hb.find hy
    have h1 := ha.2 x hx
    unfold meetO at hz
    split at hz
    · cases hz; exact h2
    · split at hz
      · cases hz; exact h1
      · split at hz
        · cases hz
        · cases hz; exact wd_meet B n h1 h2
theorem isort_len : ∀ {l : List PMask}, (isort l).length = l.length
  | [] => rfl
  | x :: l => by
    have hi : ∀ m : List PMask, (ins x m).length = m.length + 1 := by
      intro m
      induction m with
      | nil => rfl
      | cons y m ih =>
        unfold ins
        split
        · rfl
        · simp [ih]
    show (ins x (isort l)).length = _
    rw [hi, isort_len (l := l)]
    rfl
theorem wd_union (A B : Nat) : ∀ (n : Nat) {a b : List PMask}, Wd A n a → Wd B n b → Wd (A + B) n (union n a b)
  | 0, _, _, _, _ => trivial
  | n + 1, a, b, ha, hb => by
    refine ⟨?_, fun z hz => ?_⟩
    · show (isort _).length ≤ _
      rw [isort_len]
      unfold rawUnion
      rw [List.length_append, List.length_map]
      have := List.length_filter_le (fun y => (find a y.num).isNone) b
      have := ha.1
      have := hb.1
      omega
    · have hz2 := mem_isort.1 hz
      unfold rawUnion at hz2
      rcases List.mem_append.1 hz2 with h | h
      · obtain ⟨x, hx, rfl⟩ := List.mem_map.1 h
        have h1 := ha.2 x hx
        unfold uniA
        split
        · rename_i y hy
          unfold joinF
          show Wd _ n (if _ then _ else _)
          split
          · exact Wd.nil _ _
          · exact wd_union A B n h1 (hb.find hy)
        · exact h1.mono (by omega)
      · exact (hb.2 z (List.mem_filter.1 h).1).mono (by omega)
theorem wd_minus {E : Env} {B : Nat} (hE : ∀ nm, (E.nums nm).length ≤ B) : ∀ (n : Nat) {nm : List UInt8} {a b : List PMask}, Wd B n a → Wd B n (minus E n nm a b)
  | 0, _, _, _, _ => trivial
  | n + 1, nm, a, b, ha => by
    refine ⟨Nat.le_trans (fm_len _ _) ha.1, fun z hz => ?_⟩
    obtain ⟨x, hx, hz⟩ := List.mem_filterMap.1 hz
    have h1 := ha.2 x hx
    unfold minO at hz
    split at hz
    · cases hz; exact h1
    · split at hz
      · cases hz
      · split at hz
        · cases hz
        · cases hz
          refine wd_minus hE n ?_
          unfold fromF
          split
          · cases n with
            | zero => trivial
            | succ n =>
              refine ⟨by unfold all; rw [List.length_map]; exact hE _, fun y hy => ?_⟩
              unfold all at hy
              obtain ⟨k, _, rfl⟩ := List.mem_map.1 hy
              exact Wd.nil _ _
          · exact h1
theorem wd_nest : ∀ (n : Nat) (p : List Int), Wd 1 n (nest p)
  | 0, _ => trivial
  | n + 1, [] => Wd.nil _ _
  | n + 1, k :: r => ⟨by simp [nest], fun x hx => by
      have : x = .mk k (nest r) := by simpa [nest] using hx
      subst this
      exact wd_nest n r⟩
end Go.Proofs.YtaaneecceiefoaaDoor

/- The arguments of layer 19's laws, opened: masks and values, of any depth; the bulk of what is read bounds their levels. -/
namespace Go.Proofs.YtaaneecceiefoaaDoor
open Go.ChangeShapes Go.WideShapes Go.RowKit Go.Deep Ma
set_option linter.unusedVariables false
set_option linter.unusedSimpArgs false
section
variable {H : Type} {enc : TypeId × Value → H} {w : World} {base : Nat} {spare : Nat → Bool} {held : Bool}
def OpensN (N : Nat) (enc : TypeId × Value → H) (w : World) (base : Nat) (spare : Nat → Bool) (held : Bool) (t : TypeId) (T : List Value → Prop) : Prop :=
  ∀ (n : Nat) (cs : List Value) (y : DataW H × List MemPlace), DataW.trod enc Tryd.prog w base spare held n t cs = some y → Wt t y → Rows.uptoBulk y.1 ≤ N → T cs
theorem bk_pos (d : DataW H) : 1 ≤ Rows.uptoBulk d := by
  cases d with
  | lit l => cases l <;> simp [Rows.uptoBulk]
  | _ => simp [Rows.uptoBulk]
theorem bk_mem : ∀ {l : List (DataW H)} {d : DataW H}, d ∈ l → Rows.uptoBulk d ≤ Rows.uptoBulkAll l
  | a :: l, d, h => by
    rw [Rows.uptoBulkAll]
    rcases List.mem_cons.1 h with rfl | h
    · omega
    · have := bk_mem h
      omega
theorem bk_len : ∀ (l : List (DataW H)), l.length ≤ Rows.uptoBulkAll l
  | [] => by simp
  | a :: l => by
    rw [Rows.uptoBulkAll, List.length_cons]
    have := bk_len l
    have := bk_pos a
    omega
theorem on_zero (t : TypeId) (T : List Value → Prop) : OpensN 0 enc w base spare held t T := fun n cs y _ _ hk => by
  have := bk_pos y.1
  omega
theorem on_slice {α : Type} {N : Nat} {t e : TypeId} {C : Nat} {V : World → List Value → α → Prop} {Q : α → Prop} (ht : Tryd.prog.underlying t = some (.slice e)) (hC : Tryd.prog.cellsOf e = C) (hC0 : 0 < C) (hb : decide (1 ≤ Tryd.prog.bytesOf e) = true)
    (hV : OpensN N enc w base spare held e (fun cs => ∃ x, V w cs x ∧ Q x)) : OpensN N enc w base spare held t (fun cs => ∃ v xs, cs = [v] ∧ SlA (fun b => b < w.heap.size) C V w v xs ∧ xs.length ≤ N ∧ xs.length * Tryd.prog.bytesOf e ≤ 140737488351232 ∧ ∀ x ∈ xs, Q x) := by
  intro fuel cs y h hw hk
  have hby := of_decide_eq_true hb
  rcases open_slice ht h with ⟨rfl, _⟩ | ⟨a, len, cap, m, k, D, Pl, rfl, hbase, hl, hm, hmm, hy, hel⟩
  · exact ⟨_, [], rfl, SlA.nil _ _ _ _ _ _, by simp, by simp, fun x hx => by cases hx⟩
  · have hlm : len ≤ m := by rw [hmm]; split <;> omega
    subst hy
    simp only [Rows.uptoBulk] at hk
    unfold Wt at hw
    simp only [DataW.weights, ht, List.all_cons, List.all_append, Bool.and_eq_true, decide_eq_true_eq, List.length_map, List.length_range] at hw
    obtain ⟨hw1, hw2, _⟩ := hw
    have hlen : len ≤ 140737488355328 := by
      have h3 : len ≤ (len + (m - len)) * Tryd.prog.bytesOf e := Nat.le_trans (Nat.le_add_right len (m - len)) (Nat.le_mul_of_pos_right _ hby)
      unfold reachBytes at hw1
      omega
    have hlb : len * Tryd.prog.bytesOf e ≤ 140737488351232 := by
      unfold reachBytes at hw1
      exact Nat.le_trans (Nat.mul_le_mul_right _ (Nat.le_add_right len (m - len))) hw1
    have hk1 := bk_len ((List.range len).map D)
    rw [List.length_map, List.length_range] at hk1
    have hkl : len ≤ N := by omega
    obtain ⟨xs, hxl, hxs⟩ := collect (fun i x => ∃ cs', w.cells? base (a.add (i * C)) C = some cs' ∧ V w cs' x ∧ Q x) len (fun i hi => by
      obtain ⟨cs', h1, h2⟩ := hel i (by omega)
      obtain ⟨x, hx1, hx2⟩ := hV k cs' (D i, Pl i) h2 (all_of_mem hw2 (D i) (List.mem_map.2 ⟨i, List.mem_range.2 hi, rfl⟩)) (by have := bk_mem (l := (List.range len).map D) (List.mem_map.2 ⟨i, List.mem_range.2 hi, rfl⟩); show Rows.uptoBulk (D i) ≤ _; omega)
      rw [hC] at h1
      exact ⟨x, cs', h1, hx1, hx2⟩)
    subst hxl
    refine ⟨_, xs, rfl, ⟨some a, cap, rfl, hlen, hl, fun i x hx => ?_⟩, hkl, hlb, fun x hx => ?_⟩
    · obtain ⟨cs', h1, hx1, _⟩ := hxs i x hx
      obtain ⟨h2, h3, h4⟩ := World.cells?_some h1
      obtain ⟨b, off, spot⟩ := a
      have hlc : 0 < cs'.length := by omega
      have hx0 : 0 < xs.length := by
        have := (List.getElem?_eq_some_iff.1 hx).1
        omega
      obtain ⟨cs0, g1, _⟩ := hxs 0 _ (List.getElem?_eq_getElem hx0)
      obtain ⟨_, g3, g4⟩ := World.cells?_some g1
      have hlc0 : 0 < cs0.length := by omega
      have hc1 : w.cell? (((⟨b, off, spot⟩ : Addr).add (0 * C)).add 0) = some cs0[0] := by
        rw [g4 0 hC0]; exact List.getElem?_eq_getElem hlc0
      have hspot : spot = none := by simpa [Addr.add] using World.cell?_spot hc1
      subst hspot
      have hcell : Cells w b (off + i * C) cs' := fun j v hv => by
        have hj : j < C := by
          have := (List.getElem?_eq_some_iff.1 hv).1
          omega
        have := h4 j hj
        rw [add_plain, add_plain] at this
        rw [this]; exact hv
      have hblt := World.block_lt_of_cell? w _ (hcell 0 cs'[0] (List.getElem?_eq_getElem hlc))
      exact ⟨b, off, cs', rfl, hblt, hblt, hcell, hx1⟩
    · obtain ⟨i, hi⟩ := List.getElem?_of_mem hx
      obtain ⟨_, _, _, h⟩ := hxs i x hi
      exact h
theorem on_int {N : Nat} {t : TypeId} {k : IntKind} (ht : Tryd.prog.underlying t = some (.int k)) : OpensN N enc w base spare held t (fun cs => ∃ z, cs = [.int k z] ∧ (Lit.int k z).wf = true) := by
  intro n cs y h _ _
  obtain ⟨z, e, _, g⟩ := DataW.trod_int ht h
  exact ⟨z, e, g⟩
theorem on_string {N : Nat} {t : TypeId} (ht : Tryd.prog.underlying t = some .string) : OpensN N enc w base spare held t (fun cs => ∃ l : List UInt8, cs = [.string (S l)] ∧ l.length ≤ N) := by
  intro n cs y h hw hk
  obtain ⟨s, e, hy, _⟩ := DataW.trod_string ht h
  subst hy
  simp only [Rows.uptoBulk] at hk
  exact ⟨s.data.toList, e, by omega⟩
/-- a struct's parts, each opened: field i lies at 'off' and has n cells -/
theorem on_struct {N : Nat} {t : TypeId} {fs : Array Field} {T : List Value → Prop} (ht : Tryd.prog.underlying t = some (.struct fs)) (C : Nat) (hC : Tryd.prog.cellsOf t = C)
    (hT : ∀ cs, cs.length = C → (∀ (i off n : Nat) (t' : TypeId) (X : List Value → Prop), (fs[i]?).map (fun f => (f.offset, f.type)) = some (off, t') → Tryd.prog.cellsOf t' = n → OpensN N enc w base spare held t' X → X ((cs.drop off).take n)) → T cs) : OpensN (N + 1) enc w base spare held t T := by
  intro n cs y h hw hb
  obtain ⟨xs, m, _, hy, hl, hlen, hf⟩ := DataW.trod_struct ht h
  refine hT cs (hl.trans hC) (fun i off k t' X hi hk hX => ?_)
  obtain ⟨f, hfi, hfe⟩ := Option.map_eq_some_iff.1 hi
  simp only [Prod.mk.injEq] at hfe
  obtain ⟨rfl, rfl⟩ := hfe
  have hi' : i < xs.length := by
    have := (Array.getElem?_eq_some_iff.1 hfi).1
    omega
  have h1 := hf i f hfi
  rw [List.getElem?_eq_getElem hi', hk] at h1
  subst hy
  refine hX m _ xs[i] h1 ?_ (by have := bk_mem (l := xs.map (·.1)) (d := xs[i].1) (List.mem_map.2 ⟨xs[i], List.getElem_mem hi', rfl⟩); simp only [Rows.uptoBulk] at hb; omega)
  unfold Wt at hw ⊢
  simp only [DataW.weights, ht] at hw
  exact each_get hw i f.type xs[i].1 (by simp [hfi]) (by simp [hi'])
theorem on_structw {N : Nat} {t : TypeId} {fs : Array Field} {T : List Value → Prop} (ht : Tryd.prog.underlying t = some (.struct fs)) (C : Nat) (hC : Tryd.prog.cellsOf t = C)
    (hT : ∀ cs, cs.length = C → (∀ (i off n : Nat) (t' : TypeId) (X : List Value → Prop), (fs[i]?).map (fun f => (f.offset, f.type)) = some (off, t') → Tryd.prog.cellsOf t' = n → OpensN N enc w base spare held t' X → X ((cs.drop off).take n)) → T cs) : OpensN N enc w base spare held t T :=
  fun n cs y h hw hb => on_struct (N := N) ht C hC hT n cs y h hw (Nat.le_succ_of_le hb)
theorem nlist2 {α : Type} {l : List α} (h : l.length = 2) : ∃ a0 a1, l = [a0, a1] := by
  match l, h with
  | [a0, a1], _ => exact ⟨a0, a1, rfl⟩
theorem nlist4 {α : Type} {l : List α} (h : l.length = 4) : ∃ a0 a1 a2 a3, l = [a0, a1, a2, a3] := by
  match l, h with
  | [a0, a1, a2, a3], _ => exact ⟨a0, a1, a2, a3, rfl⟩
theorem nlist7 {α : Type} {l : List α} (h : l.length = 7) : ∃ a0 a1 a2 a3 a4 a5 a6, l = [a0, a1, a2, a3, a4, a5, a6] := by
  match l, h with
  | [a0, a1, a2, a3, a4, a5, a6], _ => exact ⟨a0, a1, a2, a3, a4, a5, a6, rfl⟩
theorem nlist8 {α : Type} {l : List α} (h : l.length = 8) : ∃ a0 a1 a2 a3 a4 a5 a6 a7, l = [a0, a1, a2, a3, a4, a5, a6, a7] := by
  match l, h with
  | [a0, a1, a2, a3, a4, a5, a6, a7], _ => exact ⟨a0, a1, a2, a3, a4, a5, a6, a7, rfl⟩
theorem nlist14 {α : Type} {l : List α} (h : l.length = 14) : ∃ a0 a1 a2 a3 a4 a5 a6 a7 a8 a9 a10 a11 a12 a13, l = [a0, a1, a2, a3, a4, a5, a6, a7, a8, a9, a10, a11, a12, a13] := by
  match l, h with
  | [a0, a1, a2, a3, a4, a5, a6, a7, a8, a9, a10, a11, a12, a13], _ => exact ⟨a0, a1, a2, a3, a4, a5, a6, a7, a8, a9, a10, a11, a12, a13, rfl⟩
theorem nc_int : Tryd.prog.cellsOf 3 = 1 := by kernel_rfl
theorem nc_uint64 : Tryd.prog.cellsOf 22 = 1 := by kernel_rfl
theorem nc_string : Tryd.prog.cellsOf 9 = 1 := by kernel_rfl
/-! masks -/
def VMk (n : Nat) (w : World) (vs : List Value) (x : PMask) : Prop := ∃ sv, vs = [.int .i64 x.num, sv] ∧ MaskD (fun b => b < w.heap.size) n w sv x.subs
theorem maskD_of {n : Nat} {w : World} {v : Value} {l : List PMask} (h : SlA (fun b => b < w.heap.size) 2 (VMk n) w v l) : MaskD (fun b => b < w.heap.size) (n + 1) w v l := by
  obtain ⟨p, c, h1, h2, h3, hel⟩ := h
  refine ⟨p, c, h1, h2, h3, fun i x hx => ?_⟩
  obtain ⟨b, off, vs, e1, e2, e3, e4, sv, e5, e6⟩ := hel i x hx
  subst e5
  exact ⟨b, off, sv, e1, e2, e3, e4 0 _ rfl, e4 1 _ rfl, e6⟩
set_option maxRecDepth 100000 in
theorem on_Masks (B : Nat) : ∀ N : Nat, OpensN N enc w base spare held 29 (fun cs => ∃ v l, cs = [v] ∧ MaskD (fun b => b < w.heap.size) N w v l ∧ (N ≤ B → Wd B N l))
  | 0 => on_zero _ _
  | N + 1 => by
    have hE : OpensN (N + 1) enc w base spare held 42 (fun cs => ∃ x, VMk N w cs x ∧ (N ≤ B → Wd B N x.subs)) := by
      refine on_struct Tryd.underlying42 2 (by kernel_rfl) (fun cs hl hp => ?_)
      obtain ⟨a0, a1, rfl⟩ := nlist2 hl
      obtain ⟨z, h0, _⟩ : ∃ z, [a0] = [.int .i64 z] ∧ (Lit.int .i64 z).wf = true := hp 0 0 1 3 _ rfl nc_int (on_int Tryd.underlying3)
      obtain rfl : a0 = _ := (List.cons.inj h0).1
      obtain ⟨v, l, h1, h2, h3⟩ : ∃ v l, [a1] = [v] ∧ MaskD (fun b => b < w.heap.size) N w v l ∧ (N ≤ B → Wd B N l) := hp 1 1 1 29 _ rfl (by kernel_rfl) (on_Masks B N)
      obtain rfl : a1 = _ := (List.cons.inj h1).1
      exact ⟨.mk z l, ⟨_, rfl, h2⟩, h3⟩
    intro fuel cs y h hw hk
    obtain ⟨v, l, e, h1, h2, _, h3⟩ := on_slice (C := 2) (V := VMk N) (Q := fun x => N ≤ B → Wd B N x.subs) Tryd.underlying29 (by kernel_rfl) (by decide) (by kernel_rfl) hE fuel cs y h hw hk
    exact ⟨v, l, e, maskD_of h1, fun hB => ⟨Nat.le_trans h2 hB, fun x hx => h3 x hx (by omega)⟩⟩
set_option maxRecDepth 100000 in
theorem arg_Masks {r : Reach} {b0 : Nat} {v : Value} {d : DataW H} {p : List MemPlace} (hv : Value.okWide Tryd.prog w r b0 29 v) (h : DataW.Trod enc Tryd.prog w base spare held 29 v d p) (hw : (d.weights Tryd.prog 29).all (· ≤ reachBytes) = true) (N : Nat) (hb : Rows.uptoBulk d ≤ N) :
    ∃ (q : Option Addr) (c : Nat) (l : List PMask), v = .slice q l.length c ∧ MaskD (fun b => b < w.heap.size) N w (.slice q l.length c) l ∧ ∀ B, N ≤ B → Wd B N l := by
  obtain ⟨q, n, c, rfl⟩ := okWide_slice Tryd.underlying29 hv
  obtain ⟨fuel, hf⟩ := h
  obtain ⟨u, l, hc, hs, hq⟩ := on_Masks N N fuel _ (d, p) hf hw hb
  have hu : u = .slice q n c := by
    have : [Value.slice q n c] = [u] := hc
    exact (List.cons.inj this).1.symm
  subst hu
  obtain ⟨q', c', e⟩ := hs.form
  cases e
  exact ⟨q, c, l, rfl, hs, fun B hB => (hq (Nat.le_refl _)).mono hB⟩
/-! values -/
set_option maxRecDepth 100000 in
theorem on_Raw (N : Nat) : OpensN N enc w base spare held 89 (fun cs => ∃ x : PRaw, VRaw w cs x ∧ True) := by
  cases N with
  | zero => exact on_zero _ _
  | succ N =>
    refine on_struct Tryd.underlying89 4 (by kernel_rfl) (fun cs hl hp => ?_)
    obtain ⟨a0, a1, a2, a3, rfl⟩ := nlist4 hl
    obtain ⟨n, h0, _⟩ : ∃ z, [a0] = [.int .i64 z] ∧ (Lit.int .i64 z).wf = true := hp 0 0 1 3 _ rfl nc_int (on_int Tryd.underlying3)
    obtain rfl : a0 = _ := (List.cons.inj h0).1
    obtain ⟨k, h1, _⟩ : ∃ z, [a1] = [.int .i64 z] ∧ (Lit.int .i64 z).wf = true := hp 1 1 1 3 _ rfl nc_int (on_int Tryd.underlying3)
    obtain rfl : a1 = _ := (List.cons.inj h1).1
    obtain ⟨x, h2, x2⟩ : ∃ z, [a2] = [.int .u64 z] ∧ (Lit.int .u64 z).wf = true := hp 2 2 1 22 _ rfl nc_uint64 (on_int Tryd.underlying22)
    obtain rfl : a2 = _ := (List.cons.inj h2).1
    obtain ⟨l, h3, _⟩ : ∃ l : List UInt8, [a3] = [.string (S l)] ∧ l.length ≤ N := hp 3 3 1 9 _ rfl nc_string (on_string Tryd.underlying9)
    obtain rfl : a3 = _ := (List.cons.inj h3).1
    have hx := (u64_bounds x2).1
    refine ⟨⟨n, k, x.toNat, l⟩, ?_, trivial⟩
    show _ = [_, _, Value.int .u64 (x.toNat : Int), _]
    rw [Int.toNat_of_nonneg hx]
/-- the tree that seven cells hold -/
def valT (n : Nat) (w : World) (cs : List Value) (v : CV) : Prop := ∃ d : VC, cs = d.cells ∧ ValC (fun b => b < w.heap.size) n w d v
set_option maxRecDepth 100000 in
theorem on_Value : ∀ N : Nat, OpensN N enc w base spare held 28 (fun cs => ∃ v, valT N w cs v ∧ WdV 1034834473170 N v)
  | 0 => on_zero _ _
  | N + 1 => by
    have IH := on_Value N
    have hSlot : OpensN N enc w base spare held 40 (fun cs => ∃ x : Int × CV, VSlot (fun b => b < w.heap.size) N w cs x ∧ WdV 1034834473170 N x.2) := by
      refine on_structw Tryd.underlying40 8 (by kernel_rfl) (fun cs hl hp => ?_)
      obtain ⟨a0, a1, a2, a3, a4, a5, a6, a7, rfl⟩ := nlist8 hl
      obtain ⟨z, h0, _⟩ : ∃ z, [a0] = [.int .i64 z] ∧ (Lit.int .i64 z).wf = true := hp 0 0 1 3 _ rfl nc_int (on_int Tryd.underlying3)
      obtain rfl : a0 = _ := (List.cons.inj h0).1
      obtain ⟨v, ⟨d, e, h1⟩, h2⟩ : ∃ v, valT N w [a1, a2, a3, a4, a5, a6, a7] v ∧ WdV 1034834473170 N v := hp 1 1 7 28 _ rfl (by kernel_rfl) IH
      exact ⟨(z, v), ⟨d, by rw [e], h1⟩, h2⟩
    have hPair : OpensN N enc w base spare held 86 (fun cs => ∃ x : CV × CV, VPair (fun b => b < w.heap.size) N w cs x ∧ True) := by
      refine on_structw Tryd.underlying86 14 (by kernel_rfl) (fun cs hl hp => ?_)
      obtain ⟨a0, a1, a2, a3, a4, a5, a6, a7, a8, a9, a10, a11, a12, a13, rfl⟩ := nlist14 hl
      obtain ⟨v1, ⟨d1, e1, h1⟩, _⟩ : ∃ v, valT N w [a0, a1, a2, a3, a4, a5, a6] v ∧ WdV 1034834473170 N v := hp 0 0 7 28 _ rfl (by kernel_rfl) IH
      obtain ⟨v2, ⟨d2, e2, h2⟩, _⟩ : ∃ v, valT N w [a7, a8, a9, a10, a11, a12, a13] v ∧ WdV 1034834473170 N v := hp 1 7 7 28 _ rfl (by kernel_rfl) IH
      exact ⟨(v1, v2), ⟨d1, d2, by rw [← e1, ← e2]; rfl, h1, h2⟩, trivial⟩
    have hElem : OpensN N enc w base spare held 28 (fun cs => ∃ v : CV, VList (fun b => b < w.heap.size) N w cs v ∧ True) := fun fuel cs y h hw hk => by
      obtain ⟨v, ⟨d, e, h1⟩, _⟩ := IH fuel cs y h hw hk
      exact ⟨v, ⟨d, e, h1⟩, trivial⟩
    have sl1 := on_slice (C := 7) (V := VList (fun b => b < w.heap.size) N) (Q := fun _ => True) Tryd.underlying23 (by kernel_rfl) (by decide) (by kernel_rfl) hElem
    have sl2 := on_slice (C := 14) (V := VPair (fun b => b < w.heap.size) N) (Q := fun _ => True) Tryd.underlying24 (by kernel_rfl) (by decide) (by kernel_rfl) hPair
    have sl3 := on_slice (C := 8) (V := VSlot (fun b => b < w.heap.size) N) (Q := fun x => WdV 1034834473170 N x.2) Tryd.underlying25 (by kernel_rfl) (by decide) (by kernel_rfl) hSlot
    have sl4 := on_slice (C := 4) (V := VRaw) (Q := fun _ => True) Tryd.underlying26 (by kernel_rfl) (by decide) (by kernel_rfl) (on_Raw (enc := enc) (w := w) (base := base) (spare := spare) (held := held) N)
    refine on_struct Tryd.underlying28 7 (by kernel_rfl) (fun cs hl hp => ?_)
    obtain ⟨a0, a1, a2, a3, a4, a5, a6, rfl⟩ := nlist7 hl
    obtain ⟨k, h0, _⟩ : ∃ z, [a0] = [.int .i64 z] ∧ (Lit.int .i64 z).wf = true := hp 0 0 1 3 _ rfl nc_int (on_int Tryd.underlying3)
    obtain rfl : a0 = _ := (List.cons.inj h0).1
    obtain ⟨x, h1, x1⟩ : ∃ z, [a1] = [.int .u64 z] ∧ (Lit.int .u64 z).wf = true := hp 1 1 1 22 _ rfl nc_uint64 (on_int Tryd.underlying22)
    obtain rfl : a1 = _ := (List.cons.inj h1).1
    obtain ⟨l, h2, _⟩ : ∃ l : List UInt8, [a2] = [.string (S l)] ∧ l.length ≤ N := hp 2 2 1 9 _ rfl nc_string (on_string Tryd.underlying9)
    obtain rfl : a2 = _ := (List.cons.inj h2).1
    obtain ⟨v3, xs3, h3, s3, _, _, _⟩ : ∃ v xs, [a3] = [v] ∧ SlA (fun b => b < w.heap.size) 7 (VList (fun b => b < w.heap.size) N) w v xs ∧ xs.length ≤ N ∧ xs.length * Tryd.prog.bytesOf 28 ≤ 140737488351232 ∧ ∀ x ∈ xs, True := hp 3 3 1 23 _ rfl (by kernel_rfl) sl1
    obtain rfl : a3 = _ := (List.cons.inj h3).1
    obtain ⟨v4, xs4, h4, s4, _, _, _⟩ : ∃ v xs, [a4] = [v] ∧ SlA (fun b => b < w.heap.size) 14 (VPair (fun b => b < w.heap.size) N) w v xs ∧ xs.length ≤ N ∧ xs.length * Tryd.prog.bytesOf 86 ≤ 140737488351232 ∧ ∀ x ∈ xs, True := hp 4 4 1 24 _ rfl (by kernel_rfl) sl2
    obtain rfl : a4 = _ := (List.cons.inj h4).1
    obtain ⟨v5, xs5, h5, s5, _, l5, q5⟩ : ∃ v xs, [a5] = [v] ∧ SlA (fun b => b < w.heap.size) 8 (VSlot (fun b => b < w.heap.size) N) w v xs ∧ xs.length ≤ N ∧ xs.length * Tryd.prog.bytesOf 40 ≤ 140737488351232 ∧ ∀ x ∈ xs, WdV 1034834473170 N x.2 := hp 5 5 1 25 _ rfl (by kernel_rfl) sl3
    obtain rfl : a5 = _ := (List.cons.inj h5).1
    obtain ⟨v6, xs6, h6, s6, _, _, _⟩ : ∃ v xs, [a6] = [v] ∧ SlA (fun b => b < w.heap.size) 4 VRaw w v xs ∧ xs.length ≤ N ∧ xs.length * Tryd.prog.bytesOf 89 ≤ 140737488351232 ∧ ∀ x ∈ xs, True := hp 6 6 1 26 _ rfl (by kernel_rfl) sl4
    obtain rfl : a6 = _ := (List.cons.inj h6).1
    clear hp sl1 sl2 sl3 sl4 hElem hPair hSlot IH h0 h1 h2 h3 h4 h5 h6 hl
    obtain ⟨p3, c3, rfl, r3⟩ := s3
    obtain ⟨p4, c4, rfl, r4⟩ := s4
    obtain ⟨p5, c5, rfl, r5⟩ := s5
    obtain ⟨p6, c6, rfl, r6⟩ := s6
    have hx := u64_bounds x1
    rw [show Tryd.prog.bytesOf 40 = 136 by kernel_rfl] at l5
    by_cases k1 : k = 10
    · subst k1
      exact ⟨.msg xs5 xs6, ⟨⟨10, x, l, p3, xs3.length, c3, p4, xs4.length, c4, p5, xs5.length, c5, p6, xs6.length, c6⟩, rfl, rfl, ⟨p5, c5, rfl, r5⟩, ⟨p6, c6, rfl, r6⟩⟩, by omega, q5⟩
    · by_cases k2 : k = 11
      · subst k2
        exact ⟨.list xs3, ⟨⟨11, x, l, p3, xs3.length, c3, p4, xs4.length, c4, p5, xs5.length, c5, p6, xs6.length, c6⟩, rfl, rfl, ⟨p3, c3, rfl, r3⟩⟩, trivial⟩
      · by_cases k3 : k = 12
        · subst k3
          exact ⟨.map xs4, ⟨⟨12, x, l, p3, xs3.length, c3, p4, xs4.length, c4, p5, xs5.length, c5, p6, xs6.length, c6⟩, rfl, rfl, ⟨p4, c4, rfl, r4⟩⟩, trivial⟩
        · exact ⟨.scalar k x.toNat l, ⟨⟨k, x, l, p3, xs3.length, c3, p4, xs4.length, c4, p5, xs5.length, c5, p6, xs6.length, c6⟩, rfl, rfl, k1, k2, k3, (Int.toNat_of_nonneg hx.1).symm, hx.1, hx.2, rfl⟩, trivial⟩
set_option maxRecDepth 100000 in
theorem arg_Value {r : Reach} {b0 : Nat} {v : Value} {d : DataW H} {p : List MemPlace} (hv : Value.okWide Tryd.prog w r b0 28 v) (h : DataW.Trod enc Tryd.prog w base spare held 28 v d p) (hw : (d.weights Tryd.prog 28).all (· ≤ reachBytes) = true) (N : Nat) (hb : Rows.uptoBulk d ≤ N) :
    ∃ (u : VC) (cv : CV), v = .agg u.cells.toArray ∧ ValC (fun b => b < w.heap.size) N w u cv ∧ WdV 1034834473170 N cv := by
  obtain ⟨cs, rfl, hsz⟩ := okWide_struct Tryd.underlying28 hv
  obtain ⟨fuel, hf⟩ := h
  obtain ⟨cv, ⟨u, hu, h1⟩, h2⟩ := on_Value N fuel _ (d, p) hf hw hb
  have hcs : cs = u.cells.toArray := by
    have : cs.toList = u.cells := hu
    rw [← this, Array.toArray_toList]
  subst hcs
  exact ⟨u, cv, rfl, h1, h2⟩
end
end Go.Proofs.YtaaneecceiefoaaDoor
