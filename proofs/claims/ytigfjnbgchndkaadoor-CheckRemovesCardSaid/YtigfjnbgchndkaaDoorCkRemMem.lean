/- A schema whose list of enums is being made anew: what stands in memory while CheckRemoves copies them. -/
import Derived.Test.YtigfjnbgchndkaaDoorCkOut
import Derived.Test.YtigfjnbgchndkaaDoorKitE
import Derived.Test.YtigfjnbgchndkaaDoorKitF
import Derived.Test.YtigfjnbgchndkaaDoorCkSound
namespace Go.Proofs.YtigfjnbgchndkaaDoor
open Go.RowKit Ck
set_option linter.unusedVariables false
set_option linter.unusedSimpArgs false

theorem enum_info : (Tryd.prog.info? 58).map (fun i => (i.zero, i.size, i.bytes)) = some (some (.agg #[.string ByteArray.empty, .bool false, .slice none 0 0, .slice none 0 0, .slice none 0 0]), 5, 96) := by kernel_rfl
/-- five cells each -/
def Fives (css : List (List Value)) : Prop := ∀ cs ∈ css, cs.length = 5 ∧ ∀ u ∈ cs, u.oneCell' = true
theorem fives_len : ∀ {css : List (List Value)}, Fives css → css.flatten.length = 5 * css.length
  | [], _ => rfl
  | c :: r, h => by
    have h1 := (h c List.mem_cons_self).1
    have ih := fives_len (fun x hx => h x (List.mem_cons_of_mem _ hx))
    rw [List.flatten_cons, List.length_append, List.length_cons, ih]
    omega
theorem fives_get : ∀ {css : List (List Value)}, Fives css → ∀ (i : Nat) cs, css[i]? = some cs → ∀ j u, cs[j]? = some u → css.flatten[i * 5 + j]? = some u
  | [], _, i, cs, h, _, _, _ => by simp at h
  | c :: r, hF, i, cs, h, j, u, hu => by
    have h5 := (hF c List.mem_cons_self).1
    cases i with
    | zero =>
      simp at h
      subst h
      have hj : j < c.length := (List.getElem?_eq_some_iff.1 hu).1
      rw [List.flatten_cons, Nat.zero_mul, Nat.zero_add, List.getElem?_append_left hj]
      exact hu
    | succ i =>
      have ih := fives_get (fun x hx => hF x (List.mem_cons_of_mem _ hx)) i cs (by simpa using h) j u hu
      rw [List.flatten_cons, List.getElem?_append_right (by omega)]
      rw [show (i + 1) * 5 + j - c.length = i * 5 + j by omega]
      exact ih
/-- the box of a schema with the enums so far -/
def XS (w : World) (xb : Nat) (c0 c2 : Value) (css : List (List Value)) (es : List PEnum) (wx : World) : Prop :=
  (∃ v, wx.heap[xb]? = some (.cells #[c0, v, c2] 31 (0, 0)) ∧ wx.ownsRow w.heap.size 58 5 v css.length css.flatten ∧ v.ownBlock ≠ some xb) ∧ w.heap.size ≤ xb ∧ Bel w wx ∧ Fives css ∧ css.length = es.length ∧ ∀ (i : Nat) cs e, css[i]? = some cs → es[i]? = some e → VEnum w cs e
theorem XS.start (w a : World) (c0 c2 : Value) (k : Bel w a) : XS w a.heap.size c0 c2 [] [] (a.alloc (.cells #[c0, .slice none 0 0, c2] 31)) :=
  ⟨⟨.slice none 0 0, heap_alloc_new _ _, ⟨rfl, .inl ⟨rfl, rfl⟩⟩, by simp [Value.ownBlock]⟩, k.size, k.alloc _, (fun cs h => by cases h), rfl, fun i cs e h => by simp at h⟩
theorem XS.alloc {w : World} {xb : Nat} {c0 c2 : Value} {css : List (List Value)} {es : List PEnum} {wx : World} (h : XS w xb c0 c2 css es wx) (o : Obj) : XS w xb c0 c2 css es (wx.alloc o) := by
  obtain ⟨⟨v, h1, h2, h3⟩, h4, h5, h6⟩ := h
  exact ⟨⟨v, (heap_alloc_old _ _ (Array.getElem?_eq_some_iff.1 h1).1).trans h1, h2.alloc _, h3⟩, h4, h5.alloc _, h6⟩
theorem XS.drew {w : World} {xb : Nat} {c0 c2 : Value} {css : List (List Value)} {es : List PEnum} {wx : World} (h : XS w xb c0 c2 css es wx) : XS w xb c0 c2 css es wx.drew := by
  obtain ⟨⟨v, h1, h2, h3⟩, h4, h5, h6⟩ := h
  exact ⟨⟨v, h1, h2, h3⟩, h4, h5.drew, h6⟩
/-- the enums made so far, as a list in memory -/
theorem XS.enums {w : World} {xb : Nat} {c0 c2 : Value} {css : List (List Value)} {es : List PEnum} {wx : World} (h : XS w xb c0 c2 css es wx) (hlen : es.length ≤ 1000000000) : ∃ (q : Option Addr) (c : Nat), wx.heap[xb]? = some (.cells #[c0, .slice q es.length c, c2] 31 (0, 0)) ∧ Sv 5 VEnum wx (.slice q es.length c) es := by
  obtain ⟨⟨v, h1, h2, h3⟩, h4, h5, hF, hl, hV⟩ := h
  have h20 := h2
  rcases h2.2 with ⟨rfl, hn⟩ | ⟨g, cap, cur, rfl, _, hg, hc, _⟩
  · have he : es = [] := List.eq_nil_of_length_eq_zero (by omega)
    subst he
    exact ⟨none, 0, h1, Sl.nil _ _ _ _ _⟩
  · refine ⟨some ⟨g, 0, none⟩, cap, by rw [← hl]; exact h1, some ⟨g, 0, none⟩, cap, rfl, by omega, by omega, fun i e he => ?_⟩
    have hi : i < css.length := by
      have := (List.getElem?_eq_some_iff.1 he).1
      omega
    have hcs : css[i]? = some css[i] := List.getElem?_eq_getElem hi
    refine ⟨g, 0, rfl, (h20.lt g rfl).2, css[i], fun j u hu => ?_, VEnum.stays _ _ _ _ h5 (hV i _ e hcs he)⟩
    have := h20.cells (g := g) rfl (i * 5 + j) u (fives_get hF i _ hcs j u hu)
    rw [Addr.add_lit] at this
    rw [show 0 + i * 5 + j = 0 + (i * 5 + j) by omega]
    exact this
/-- one more enum, appended and stored -/
theorem XS.more {w : World} {xb : Nat} {c0 c2 : Value} {css : List (List Value)} {es : List PEnum} {wx w2 : World} {v : Value} {q : Option Addr} {cap : Nat} {cs : List Value} {e : PEnum} (h : XS w xb c0 c2 css es wx) (hv : wx.cell? ⟨xb, 1, none⟩ = some v)
    (hown : w2.ownsRow w.heap.size 58 5 (.slice q (css.length + 1) cap) (css.length + 1) (css.flatten ++ cs)) (hg : wx.grownBy w2 v.ownBlock) (hq : ∀ g, (Value.slice q (css.length + 1) cap).ownBlock = some g → v.ownBlock = some g ∨ g = wx.heap.size)
    (h5 : cs.length = 5) (h1 : ∀ u ∈ cs, u.oneCell' = true) (hve : VEnum w cs e) :
    XS w xb c0 c2 (css ++ [cs]) (es ++ [e]) (w2.setCell ⟨xb, 1, none⟩ (.slice q (css.length + 1) cap)) ∧ w2.cell? ⟨xb, 1, none⟩ = some v ∧ w2.frozen? ⟨xb, 1, none⟩ = false := by
  obtain ⟨⟨v', hb, hown', hne⟩, hB, hbel, hF, hl, hV⟩ := h
  have hvv : v' = v := by
    rw [Lib.cell_of_heap hb] at hv
    simpa using hv
  subst hvv
  have hlt : xb < wx.heap.size := (Array.getElem?_eq_some_iff.1 hb).1
  have hb2 : w2.heap[xb]? = some (.cells #[c0, v', c2] 31 (0, 0)) := (hg.block xb hlt (Ne.symm hne)).trans hb
  have hne2 : (Value.slice q (css.length + 1) cap).ownBlock ≠ some xb := fun e => by
    rcases hq xb e with e2 | e2
    · exact hne e2
    · omega
  have hflat : (css ++ [cs]).flatten = css.flatten ++ cs := by simp
  refine ⟨⟨⟨_, heap_setCell_same w2 xb 1 _ _ _ hb2, ?_, hne2⟩, hB, bel_set (Below.grown hbel hg hbel.size (fun k hk => (hown'.lt k hk).1)) hB, ?_, by simp [hl], ?_⟩, by rw [Lib.cell_of_heap hb2]; rfl, Lib.frozen_of_heap hb2 1⟩
  · have := hown.kept (grown_setCell w2 xb 1 (.slice q (css.length + 1) cap)) (Or.inr hne2)
    rw [hflat, List.length_append]
    exact this
  · intro x hx
    rcases List.mem_append.1 hx with hx | hx
    · exact hF x hx
    · have := List.mem_singleton.1 hx
      subst this
      exact ⟨h5, h1⟩
  · intro i x y hx hy
    rcases Nat.lt_or_ge i css.length with hi | hi
    · rw [List.getElem?_append_left hi] at hx
      rw [List.getElem?_append_left (by omega)] at hy
      exact hV i x y hx hy
    · rw [List.getElem?_append_right hi] at hx
      rw [List.getElem?_append_right (by omega)] at hy
      have hi0 : i - css.length = 0 := by
        have := (List.getElem?_eq_some_iff.1 hx).1
        simpa using this
      rw [hi0] at hx
      rw [show i - es.length = 0 by omega] at hy
      simp at hx hy
      subst hx hy
      exact hve
/-! the copy without element k -/
theorem erase_take {α : Type} (l : List α) (k i : Nat) (x : α) (h : l[i]? = some x) : (l.take (i + 1)).eraseIdx k = if i = k then (l.take i).eraseIdx k else (l.take i).eraseIdx k ++ [x] := by
  have hi := (List.getElem?_eq_some_iff.1 h).1
  have hlen : (l.take i).length = i := by rw [List.length_take]; omega
  rw [List.take_add_one, h]
  by_cases hik : i = k
  · subst hik
    rw [if_pos rfl, List.eraseIdx_of_length_le (l := l.take i) (by omega), List.eraseIdx_append_of_length_le (by omega), hlen]
    simp
  · rw [if_neg hik]
    by_cases hk : k < i
    · rw [List.eraseIdx_append_of_lt_length (by omega)]
      rfl
    · rw [List.eraseIdx_of_length_le (l := l.take i) (by omega), List.eraseIdx_of_length_le (by simp; omega)]
      rfl
theorem short_without {s : PSchema} (h : SmallP s) (hu : UnB s) (k : Nat) : Short (without s k) ∧ SmallP (without s k) := by
  have hs : SmallP (without s k) := by
    obtain ⟨h1, h2, h3, h4, h5, h6⟩ := h
    refine ⟨h1, ?_, h3, h4, fun e he => h5 e (List.mem_of_mem_eraseIdx he), h6⟩
    exact Nat.le_trans (List.length_eraseIdx_le s.enums k) h2
  exact ⟨short_of_small hs hu, hs⟩
end Go.Proofs.YtigfjnbgchndkaaDoor
