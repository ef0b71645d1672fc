/- Layer 12 walked: starts and ends of walks with a finder. Printed by genmsg.py. -/
import Derived.Test.YtfoaaglbpmmhiaaGreatDoorKitR
import Derived.Test.YtfoaaglbpmmhiaaGreatDoorCkNeeds
namespace Go.Proofs.YtfoaaglbpmmhiaaGreatDoor
open Go.RowKit Ck
set_option linter.unusedVariables false
set_option linter.unusedSimpArgs false

theorem sl_len {α : Type} {C : Nat} {E : World → Nat → Nat → α → Prop} {w : World} {q : Option Addr} {n c : Nat} {xs : List α} (h : Sl C E w (.slice q n c) xs) : n = xs.length := by
  obtain ⟨_, _, he, _⟩ := h
  cases he
  rfl
/-- what a function that returns problems leaves -/
def ProbsOut (w : World) (ps : List PProb) (e : Ending) (w' : World) : Prop := ∃ v, e = .returned v ∧ w'.ownsRow w.heap.size 164 3 v ps.length (ps.flatMap probC) ∧ Below w.heap.size w w'
theorem own_lower {w : World} {B C : Nat} {e : TypeId} {z : Nat} {v : Value} {n : Nat} {xs : List Value} (h : w.ownsRow C e z v n xs) (hb : B ≤ C) : w.ownsRow B e z v n xs := by
  refine ⟨h.1, ?_⟩
  rcases h.2 with hn | ⟨g, cap, cur, h1, h2, rest⟩
  · exact .inl hn
  · exact .inr ⟨g, cap, cur, h1, Nat.le_trans hb h2, rest⟩
theorem FS.out {w0 : World} {fb : Nat} {d : Str} {num : Int} {w : World} {bl : List (Nat × Array Value × TypeId)} {N : Nat} {ps : List PProb} {wx : World} (h : FS w0 fb d num w bl N ps wx) : ∃ v, wx.cell? ⟨fb, 2, none⟩ = some v ∧ wx.ownsRow w0.heap.size 164 3 v ps.length (ps.flatMap probC) := by
  obtain ⟨⟨hB, v, hb, hown, hne⟩, _⟩ := h
  exact ⟨v, by rw [Lib.cell_of_heap hb]; rfl, hown⟩
theorem FS.of_post {w0 : World} {fb : Nat} {d : Str} {num n2 : Int} {w : World} {bl : List (Nat × Array Value × TypeId)} {N N2 : Nat} {ps ps2 : List PProb} {wx w' : World} {e : Ending} (h : FS w0 fb d num w bl N ps wx) (p : FdPost w0 fb d n2 ps2 wx e w') (hl : ps2.length ≤ N2) : FS w0 fb d n2 w bl N2 ps2 w' := by
  obtain ⟨h1, h2, h3, h4, h5⟩ := h
  obtain ⟨_, g1, g2, g3⟩ := p
  refine ⟨g1, g2, h3.trans g3, hl, fun b hb => ?_⟩
  obtain ⟨q1, q2, q3⟩ := h5 b hb
  exact ⟨kept_cell g3 q1 (fun e => q2 (by injection e)) q3, q2, q3⟩
/-- a finder just made, behind n boxes -/
theorem FS.start (w a : World) (d : Str) (num : Int) (bl : List (Nat × Array Value × TypeId)) (hk : Bel w a) (hbl : ∀ b ∈ bl, a.heap[b.1]? = some (.cells b.2.1 b.2.2 (0, 0)) ∧ b.2.2 ≠ 164) :
    FS w a.heap.size d num w bl 0 [] (a.alloc (.cells #[.string (S d), .int .i64 num, .slice none 0 0] 141)) := by
  refine ⟨⟨hk.size, .slice none 0 0, heap_alloc_new _ _, ⟨rfl, .inl ⟨rfl, rfl⟩⟩, by simp [Value.ownBlock]⟩, hk.alloc _, oth_bel (hk.alloc _), by simp, fun b hb => ?_⟩
  obtain ⟨h1, h2⟩ := hbl b hb
  have hlt : b.1 < a.heap.size := (Array.getElem?_eq_some_iff.1 h1).1
  exact ⟨(heap_alloc_old _ _ hlt).trans h1, by omega, h2⟩
theorem app_len {α : Type} {a b : List α} {n k : Nat} (h : a.length ≤ n) (h2 : b.length ≤ k) : (a ++ b).length ≤ n + k := by rw [List.length_append]; omega
theorem fieldP_len (s : PSchema) (m : PMsg) (i : Nat) (f : PField) : (fieldP s m i f).length ≤ 10 := by
  unfold fieldP noted
  exact app_len (app_len (app_len (app_len (app_len (app_len (app_len (app_len (app_len (un_len _ _ _ _) (un_len _ _ _ _)) (un_len _ _ _ _)) (un_len _ _ _ _)) (un_len _ _ _ _)) (un_len _ _ _ _)) (un_len _ _ _ _)) (un_len _ _ _ _)) (un_len _ _ _ _)) (un_len _ _ _ _)
theorem spans_len (d : Str) (lo hi : Int) : ∀ (q : Option PSpan) (l : List PSpan), (spansGo d lo hi q l).length ≤ 2 * l.length
  | q, [] => by rw [span_end]; simp
  | q, p :: r => by
    have ih := spans_len d lo hi (some p) r
    rw [span_cons]
    unfold spanP
    refine Nat.le_trans (app_len (app_len (un_len _ _ _ _) (un_len _ _ _ _)) ih) ?_
    rw [List.length_cons]; omega
def goneP (d : Str) (l : List Str) : List PProb := l.flatMap fun g => un d (-1) (decide (Utf.bad g < 0)) 7
theorem goneP_cons (d : Str) (g : Str) (l : List Str) : goneP d (g :: l) = un d (-1) (decide (Utf.bad g < 0)) 7 ++ goneP d l := rfl
end Go.Proofs.YtfoaaglbpmmhiaaGreatDoor
