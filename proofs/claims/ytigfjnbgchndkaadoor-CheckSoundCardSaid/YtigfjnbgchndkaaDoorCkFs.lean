/- Layer 12 walked: the state of a walk that holds a finder and boxes of its own. Printed by genfield.py. -/
import Derived.Test.YtigfjnbgchndkaaDoorCkFd
import Derived.Test.YtigfjnbgchndkaaDoorCkSpans
namespace Go.Proofs.YtigfjnbgchndkaaDoor
open Go.RowKit Ck
set_option linter.unusedVariables false
set_option linter.unusedSimpArgs false

theorem heap_alloc_at (w : World) (o : Obj) (n : Nat) (h : n = w.heap.size) : (w.alloc o).heap[n]? = some o := by subst h; exact heap_alloc_new w o
theorem Finder.setnum {B f : Nat} {d : Str} {num n2 : Int} {ps : List PProb} {w : World} (h : Finder B f d num ps w) : Finder B f d n2 ps (w.setCell ⟨f, 1, none⟩ (.int .i64 n2)) := by
  obtain ⟨hB, v, hb, hown, hne⟩ := h
  refine ⟨hB, v, heap_setCell_same w f 1 _ _ _ hb, ?_, hne⟩
  exact hown.kept (grown_setCell w f 1 (.int .i64 n2)) (Or.inr hne)
/-- a finder, and blocks of the walk's own that stay -/
def FS (w0 : World) (fb : Nat) (d : Str) (num : Int) (w : World) (bl : List (Nat × Array Value × TypeId)) (N : Nat) (ps : List PProb) (wx : World) : Prop :=
  Finder w0.heap.size fb d num ps wx ∧ Bel w0 wx ∧ Lib.OthersKept 66 (some fb) w wx ∧ ps.length ≤ N ∧ ∀ b ∈ bl, wx.heap[b.1]? = some (.cells b.2.1 b.2.2 (0, 0)) ∧ b.1 ≠ fb ∧ b.2.2 ≠ 66
section
variable {w0 : World} {fb : Nat} {d : Str} {num : Int} {w : World} {bl : List (Nat × Array Value × TypeId)} {N : Nat} {ps : List PProb} {wx : World}
theorem FS.bel {w1 : World} (h : FS w0 fb d num w bl N ps wx) (k : Bel wx w1) : FS w0 fb d num w bl N ps w1 := by
  obtain ⟨h1, h2, h3, h4, h5⟩ := h
  refine ⟨h1.bel k, Bel.of h2 k, h3.trans (oth_bel k), h4, fun b hb => ?_⟩
  obtain ⟨g1, g2, g3⟩ := h5 b hb
  exact ⟨(Below.block k _ (Array.getElem?_eq_some_iff.1 g1).1).trans g1, g2, g3⟩
theorem FS.cell (h : FS w0 fb d num w bl N ps wx) {g : Nat} {cs : Array Value} {T : TypeId} (hb : (g, cs, T) ∈ bl) : ∀ o, wx.cell? ⟨g, o, none⟩ = cs[o]? := fun o => Lib.cell_of_heap (h.2.2.2.2 _ hb).1 o
theorem FS.unless (h : FS w0 fb d num w bl N ps wx) (hN : N ≤ 1000000000) (ok : Bool) (e : Int) :
    Calls Tryd.prog 25 #[.pointer (some ⟨fb, 0, none⟩), .bool ok, .int .i64 e] wx fun e' w' => e' = .returned (.tuple #[]) ∧ FS w0 fb d num w bl (N + 1) (ps ++ un d num ok e) w' := by
  obtain ⟨h1, h2, h3, h4, h5⟩ := h
  refine (fd_unless w0 fb d num ps wx ok e h1 (by omega) h2).mono ?_
  rintro e' w' ⟨rfl, g1, g2, g3⟩
  refine ⟨rfl, g1, g2, h3.trans g3, ?_, fun b hb => ?_⟩
  · have := un_len d num ok e
    rw [List.length_append]; omega
  · obtain ⟨q1, q2, q3⟩ := h5 b hb
    exact ⟨kept_cell g3 q1 (fun e => q2 (by injection e)) q3, q2, q3⟩
theorem FS.noted (h : FS w0 fb d num w bl N ps wx) (hN : N ≤ 1000000000) (v : Value) (l : List PNote) (tg : Int) (hv : Notes w0 v l) (hl : ∀ n ∈ l, n.name.length ≤ 1000000000) :
    Calls Tryd.prog 30 #[.pointer (some ⟨fb, 0, none⟩), v, .int .i64 tg] wx fun e' w' => e' = .returned (.tuple #[]) ∧ FS w0 fb d num w bl (N + 1) (ps ++ noted d num l tg) w' := by
  obtain ⟨h1, h2, h3, h4, h5⟩ := h
  refine (fd_noted w0 fb d num ps wx v l tg h1 (by omega) h2 (hv.bel VNote.stays h2) hl).mono ?_
  rintro e' w' ⟨rfl, g1, g2, g3⟩
  refine ⟨rfl, g1, g2, h3.trans g3, ?_, fun b hb => ?_⟩
  · have : (Ck.noted d num l tg).length ≤ 1 := un_len _ _ _ _
    rw [List.length_append]; omega
  · obtain ⟨q1, q2, q3⟩ := h5 b hb
    exact ⟨kept_cell g3 q1 (fun e => q2 (by injection e)) q3, q2, q3⟩
theorem FS.okc {ok ok' : Bool} {e : Int} (h : FS w0 fb d num w bl N (ps ++ un d num ok e) wx) (he : ok = ok') : FS w0 fb d num w bl N (ps ++ un d num ok' e) wx := he ▸ h
theorem FS.setnum {n2 : Int} (h : FS w0 fb d num w bl N ps wx) : FS w0 fb d n2 w bl N ps (wx.setCell ⟨fb, 1, none⟩ (.int .i64 n2)) := by
  obtain ⟨h1, h2, h3, h4, h5⟩ := h
  refine ⟨h1.setnum, bel_set h2 h1.1, h3.setCell _ rfl _, h4, fun b hb => ?_⟩
  obtain ⟨g1, g2, g3⟩ := h5 b hb
  exact ⟨(Below.heap_setCell _ _ _ _ (fun e => g2 (by rw [e]))).trans g1, g2, g3⟩
theorem FS.fdcell (h : FS w0 fb d num w bl N ps wx) : wx.cell? ⟨fb, 1, none⟩ = some (.int .i64 num) ∧ wx.frozen? ⟨fb, 1, none⟩ = false := by
  obtain ⟨⟨hB, v, hb, hown, hne⟩, _⟩ := h
  exact ⟨by rw [Lib.cell_of_heap hb]; rfl, Lib.frozen_of_heap hb 1⟩
theorem FS.bel0 (h : FS w0 fb d num w bl N ps wx) : Bel w0 wx := h.2.1
theorem FS.thin (h : FS w0 fb d num w bl N ps wx) : FS w0 fb d num w [] N ps wx := ⟨h.1, h.2.1, h.2.2.1, h.2.2.2.1, fun b hb => by cases hb⟩
end
end Go.Proofs.YtigfjnbgchndkaaDoor
