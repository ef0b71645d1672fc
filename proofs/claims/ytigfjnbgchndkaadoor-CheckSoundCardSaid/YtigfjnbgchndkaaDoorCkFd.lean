/- Layer 12 walked: the finder's frame; noted. -/
import Derived.Test.YtigfjnbgchndkaaDoorCkFinder
import Derived.Test.YtigfjnbgchndkaaDoorKitH
namespace Go.Proofs.YtigfjnbgchndkaaDoor
open Go.RowKit Ck
set_option linter.unusedVariables false
set_option linter.unusedSimpArgs false

theorem Finder.lt {B f : Nat} {d : Str} {num : Int} {ps : List PProb} {w : World} (h : Finder B f d num ps w) : f < w.heap.size := by
  obtain ⟨_, v, hb, _⟩ := h
  exact (Array.getElem?_eq_some_iff.1 hb).1
theorem row_bel {w w' : World} {B : Nat} {e : TypeId} {size : Nat} {v : Value} {n : Nat} {xs : List Value} (h : w.ownsRow B e size v n xs) (k : Bel w w') : w'.ownsRow B e size v n xs := by
  refine ⟨h.1, ?_⟩
  rcases h.2 with hn | ⟨g, cap, cur, rfl, hb, hgg, rest⟩
  · exact .inl hn
  · exact .inr ⟨g, cap, cur, rfl, hb, (Below.block k g (Array.getElem?_eq_some_iff.1 hgg).1).trans hgg, rest⟩
theorem Finder.bel {B f : Nat} {d : Str} {num : Int} {ps : List PProb} {w w' : World} (h : Finder B f d num ps w) (k : Bel w w') : Finder B f d num ps w' := by
  have hlt := h.lt
  obtain ⟨hB, v, hb, hown, hne⟩ := h
  exact ⟨hB, v, (Below.block k f hlt).trans hb, row_bel hown k, hne⟩
theorem oth_bel {e : TypeId} {b : Option Nat} {w w' : World} (k : Bel w w') : Lib.OthersKept e b w w' := fun i o hi _ _ => (Below.block k i (Array.getElem?_eq_some_iff.1 hi).1).trans hi
/-- what a method of the finder leaves -/
def FdPost (w0 : World) (f : Nat) (d : Str) (num : Int) (ps : List PProb) (w : World) (e : Ending) (w' : World) : Prop :=
  e = .returned (.tuple #[]) ∧ Finder w0.heap.size f d num ps w' ∧ Bel w0 w' ∧ Lib.OthersKept 66 (some f) w w'
theorem fd_unless (w0 : World) (f : Nat) (d : Str) (num : Int) (ps : List PProb) (w : World) (ok : Bool) (e : Int) (h : Finder w0.heap.size f d num ps w) (hps : ps.length ≤ 1000000000) (k0 : Bel w0 w) :
    Calls Tryd.prog 25 #[.pointer (some ⟨f, 0, none⟩), .bool ok, .int .i64 e] w (FdPost w0 f d num (ps ++ un d num ok e) w) := by
  cases ok with
  | false =>
    refine (unless_bad w0.heap.size f d num e ps w h hps k0.size).mono ?_
    rintro e' w' ⟨rfl, h1, h2, h3⟩
    exact ⟨rfl, h1, Below.trans k0 h2, h3⟩
  | true =>
    refine (unless_ok f e w).mono ?_
    rintro e' w' ⟨rfl, rfl⟩
    exact ⟨rfl, by rw [show un d num true e = [] from rfl, List.append_nil]; exact h, k0, Lib.OthersKept.refl _ _ _⟩
set_option maxHeartbeats 4000000 in
set_option maxRecDepth 100000 in
theorem fd_noted (w0 : World) (f : Nat) (d : Str) (num : Int) (ps : List PProb) (w : World) (v : Value) (l : List PNote) (tg : Int) (h : Finder w0.heap.size f d num ps w) (hps : ps.length ≤ 1000000000) (k0 : Bel w0 w) (hv : Notes w v l) (hl : ∀ n ∈ l, n.name.length ≤ 1000000000) :
    Calls Tryd.prog 30 #[.pointer (some ⟨f, 0, none⟩), v, .int .i64 tg] w (FdPost w0 f d num (ps ++ noted d num l tg) w) := by
  have cc := Lib.hid (nt_Check v l tg w hv hl)
  have cu := Lib.hid (fun W ok (k : Bel w W) => fd_unless w0 f d num ps W ok (noteCheck l tg) (h.bel k) hps (Below.trans k0 (k.mono k0.size)))
  have hn := Lib.hid (show noted d num l tg = un d num (decide (noteCheck l tg = 0)) (noteCheck l tg) from rfl)
  clear hv hl h hps
  generalize noteCheck l tg = R at cc cu hn
  generalize noted d num l tg = NN at hn
  go_enter Tryd.func30, Tryd.ntmps30
  go_wp2_with (first
    | (go_at_call 49; (with_reducible refine cc.out.mono ?_); rintro e w1 ⟨rfl, h1⟩; have k1 : Bel w w1 := Bel.of (by (repeat (first | (with_reducible assumption) | (with_reducible exact Bel.refl _) | (with_reducible refine Bel.drew ?_) | (with_reducible refine Bel.drewN ?_ _) | (with_reducible refine Bel.alloc ?_ _) | ((with_reducible refine bel_set ?_ ?hge); (case hge => (first | omega | (simp; omega))))))) h1; clear h1)
    | (go_at_call 25; (with_reducible refine (cu.out _ _ k1).mono ?_); rintro e w2 ⟨rfl, h2⟩; have hend := Lib.hid h2; clear h2))
  obtain ⟨g1, g2, g3⟩ := hend.out
  refine bodyPost_end (results_none (by rfl) _ _ _) rfl ⟨rfl, ?_, g2, (oth_bel k1).trans g3⟩
  rw [hn.out, show decide (R = 0) = (R == 0) from rfl]
  exact g1
end Go.Proofs.YtigfjnbgchndkaaDoor
