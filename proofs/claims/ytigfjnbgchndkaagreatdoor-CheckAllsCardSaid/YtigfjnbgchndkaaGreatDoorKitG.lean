/- The reference's fewTexts walked. -/
import Derived.Test.YtigfjnbgchndkaaGreatDoorCkNeeds
namespace Go.Proofs.YtigfjnbgchndkaaGreatDoor
open Go.RowKit Ck
set_option linter.unusedVariables false
set_option linter.unusedSimpArgs false

def ftGo (n left : Int) : Nat → List Str → Int
 | _, [] => n
 | k, x :: r => if (k : Int) ≤ left then (if 300 < x.length then left + 10 else ftGo n left (k + 1) r) else n
set_option maxHeartbeats 4000000 in
set_option maxRecDepth 100000 in
theorem rf_fewTexts (v : Value) (l : List Str) (left : Int) (w : World) (hv : Texts w v l) (h1 : -1000000000000 ≤ left) (h2 : left ≤ 1000000000000) :
  Calls Tryz.prog 24 #[v, .int .i64 left] w fun e w' => e = .returned (.int .i64 (ftGo l.length left 0 l)) ∧ w = w' := by
 obtain ⟨q, c, rfl, hl, hcap, hel⟩ := hv
 have V := Lib.hid (show ftGo l.length left 0 (l.drop 0) = ftGo l.length left 0 l from rfl)
 generalize ftGo l.length left 0 l = T at V
 have EL := Lib.hid hel
 clear hel
 go_enter Tryz.func24, Tryz.ntmps24
 go_wp2
 go_loop [5] (fun i => ∃ k : Nat, k ≤ l.length ∧ i = .int .i64 k ∧ Hid (ftGo l.length left k (l.drop k) = T)) (fun i => l.length - (intOf i).toNat)
 case atStart => exact ⟨0, by omega, rfl, V⟩
 case round =>
  obtain ⟨k, hk, rfl, hgo⟩ := hrel
  by_cases hlt : k < l.length
  ·have hki : (k : Int) < (l.length : Int) := by omega
   have hg := List.getElem?_eq_getElem hlt
   obtain ⟨b, off, rfl, hbs, vs, hce, hvs⟩ := EL.out k _ hg
   have hdr : l.drop k = l[k] :: l.drop (k + 1) := List.drop_eq_getElem_cons hlt
   have hvs' : vs = [.string (S l[k])] := hvs
   have e0 : w.cell? ⟨b, off + k, none⟩ = some (.string (S l[k])) := by
    have := hce 0 (.string (S l[k])) (by rw [hvs']; rfl)
    rwa [Nat.mul_one, Nat.add_zero] at this
   have hst := hgo.out
   rw [hdr] at hst
   unfold ftGo at hst
   clear hce hvs hvs' hdr hg hgo
   generalize l[k] = x at *
   by_cases hle : (k : Int) ≤ left
   ·rw [if_pos hle] at hst
    by_cases hlg : 300 < x.length
    ·rw [if_pos hlg] at hst
     have hsz : (300 : Int) < ((S x).size : Int) := by rw [S_size]; omega
     have HT := Lib.hid hst
     clear hst
     go_wp2
     go_ret
     exact ⟨ret_int HT.out, rfl⟩
    ·rw [if_neg hlg] at hst
     have hsz : ¬ (300 : Int) < ((S x).size : Int) := by rw [S_size]; omega
     have HT := Lib.hid hst
     clear hst
     go_wp2
     go_round
     case rel => exact ⟨k + 1, by omega, by go_num, HT⟩
     case measure => simp [intOf]; omega
   ·rw [if_neg hle] at hst
    have HT := Lib.hid hst
    clear hst
    go_wp2
    go_ret
    exact ⟨ret_int HT.out, rfl⟩
  ·have hki : ¬ (k : Int) < (l.length : Int) := by omega
   have HT := Lib.hid (show (l.length : Int) = T by have := hgo.out; rw [List.drop_eq_nil_of_le (by omega)] at this; exact this)
   clear hgo
   go_wp2
   go_ret
   exact ⟨ret_int HT.out, rfl⟩
end Go.Proofs.YtigfjnbgchndkaaGreatDoor

/- The reference's fewNotes walked. -/
namespace Go.Proofs.YtigfjnbgchndkaaGreatDoor
open Go.RowKit Ck
set_option linter.unusedVariables false
set_option linter.unusedSimpArgs false

def longN (x : PNote) : Prop := 300 < x.name.length ∨ 300 < x.val.t.length ∨ 0 < x.val.n
instance (x : PNote) : Decidable (longN x) := by unfold longN; infer_instance
def fnGo (n left : Int) : Nat → List PNote → Int
 | _, [] => n
 | k, x :: r => if (k : Int) ≤ left then (if longN x then left + 10 else fnGo n left (k + 1) r) else n
set_option maxHeartbeats 4000000 in
set_option maxRecDepth 100000 in
theorem rf_fewNotes (v : Value) (l : List PNote) (left : Int) (w : World) (hv : Notes w v l) (h1 : -1000000000000 ≤ left) (h2 : left ≤ 1000000000000) :
  Calls Tryz.prog 23 #[v, .int .i64 left] w fun e w' => e = .returned (.int .i64 (fnGo l.length left 0 l)) ∧ Below w.heap.size w w' := by
 obtain ⟨q, c, rfl, hl, hcap, hel⟩ := hv
 have V := Lib.hid (show fnGo l.length left 0 (l.drop 0) = fnGo l.length left 0 l from rfl)
 generalize fnGo l.length left 0 l = T at V
 have EL := Lib.hid hel
 clear hel
 go_enter Tryz.func23, Tryz.ntmps23
 go_wp2
 go_loopw [5] (fun i wr => ∃ k : Nat, k ≤ l.length ∧ i = .int .i64 k ∧ Bel w wr ∧ Hid (fnGo l.length left k (l.drop k) = T)) (fun i _ => l.length - (intOf i).toNat)
 case atStart => exact ⟨0, by omega, rfl, Bel.refl _, V⟩
 case round =>
  obtain ⟨k, hk, rfl, kw, hgo⟩ := hrel
  by_cases hlt : k < l.length
  ·have hki : (k : Int) < (l.length : Int) := by omega
   have hg := List.getElem?_eq_getElem hlt
   obtain ⟨b, off, rfl, hbs, vs, hce, nv, rfl, p1, p2, p3, p4, c1, c2, c3, c4, rfl, u0, u1, g1, g2, g3, g4⟩ := EL.out k _ hg
   have hdr : l.drop k = l[k] :: l.drop (k + 1) := List.drop_eq_getElem_cons hlt
   have e0 := kw.some (hce 0 _ rfl)
   rw [Nat.add_zero] at e0
   have e1 := kw.some (hce 1 _ rfl)
   have e2 := kw.some (hce 2 _ rfl)
   have e3 := kw.some (hce 3 _ rfl)
   have e4 := kw.some (hce 4 _ rfl)
   have e5 := kw.some (hce 5 _ rfl)
   have e6 := kw.some (hce 6 _ rfl)
   have e7 := kw.some (hce 7 _ rfl)
   have hst := hgo.out
   rw [hdr] at hst
   unfold fnGo at hst
   clear hce hdr hg hgo
   generalize l[k] = x at *
   obtain ⟨nm, ⟨vk, vx, vt, n1, n2, n3, n4⟩⟩ := x
   have hlong : longN ⟨nm, ⟨vk, vx, vt, n1, n2, n3, n4⟩⟩ ↔ (300 < nm.length ∨ 300 < vt.length ∨ 0 < n1 + n2 + n3 + n4) := Iff.rfl
   have hs1 : ((S nm).size : Int) = nm.length := by rw [S_size]
   have hs2 : ((S vt).size : Int) = vt.length := by rw [S_size]
   simp only at g1 g2 g3 g4 e1 e2 e3 e4 e5 e6 e7 e0
   have hbr : b < wr.heap.size := Nat.lt_of_lt_of_le hbs kw.size
   by_cases hle : (k : Int) ≤ left
   ·rw [if_pos hle] at hst
    by_cases q1 : 300 < nm.length
    ·rw [if_pos (hlong.2 (.inl q1))] at hst
     have z1 : (300 : Int) < ((S nm).size : Int) := by omega
     have HT := Lib.hid hst
     clear hst hlong hs1 hs2
     go_wp2
     go_ret
     exact ⟨ret_int HT.out, Bel.out (kw.alloc _)⟩
    ·have z1 : ¬ (300 : Int) < ((S nm).size : Int) := by omega
     by_cases q2 : 300 < vt.length
     ·rw [if_pos (hlong.2 (.inr (.inl q2)))] at hst
      have z2 : (300 : Int) < ((S vt).size : Int) := by omega
      have HT := Lib.hid hst
      clear hst hlong hs1 hs2
      go_wp2
      go_ret
      exact ⟨ret_int HT.out, Bel.out (kw.alloc _)⟩
     ·have z2 : ¬ (300 : Int) < ((S vt).size : Int) := by omega
      by_cases q3 : 0 < n1 + n2 + n3 + n4
      ·rw [if_pos (hlong.2 (.inr (.inr q3)))] at hst
       have z3 : (0 : Int) < (n1 : Int) + n2 + n3 + n4 := by omega
       have HT := Lib.hid hst
       clear hst hlong hs1 hs2
       go_wp2
       go_ret
       exact ⟨ret_int HT.out, Bel.out (kw.alloc _)⟩
      ·rw [if_neg (fun h => by rcases hlong.1 h with h | h | h <;> contradiction)] at hst
       have z3 : ¬ (0 : Int) < (n1 : Int) + n2 + n3 + n4 := by omega
       have HT := Lib.hid hst
       clear hst hlong hs1 hs2
       go_wp2
       exact ⟨⟨k + 1, by omega, by go_num, kw.alloc _, HT⟩, by simp [intOf]; omega⟩
   ·rw [if_neg hle] at hst
    have HT := Lib.hid hst
    clear hst hlong hs1 hs2
    go_wp2
    go_ret
    exact ⟨ret_int HT.out, kw.out⟩
  ·have hki : ¬ (k : Int) < (l.length : Int) := by omega
   have HT := Lib.hid (show (l.length : Int) = T by have := hgo.out; rw [List.drop_eq_nil_of_le (by omega)] at this; exact this)
   clear hgo
   go_wp2
   go_ret
   exact ⟨ret_int HT.out, kw.out⟩
end Go.Proofs.YtigfjnbgchndkaaGreatDoor
