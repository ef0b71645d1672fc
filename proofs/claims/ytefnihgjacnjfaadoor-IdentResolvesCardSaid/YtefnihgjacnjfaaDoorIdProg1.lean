/- The program's layer 6 walked, part 1: class, IsPart, IsWord, Join. -/
import Derived.Test.YtefnihgjacnjfaaDoorIdLib
import Derived.Lib.OthersKept
namespace Go.Proofs.YtefnihgjacnjfaaDoor
open Go.RowKit
set_option linter.unusedVariables false
set_option linter.unusedSimpArgs false

set_option maxHeartbeats 1000000 in
set_option maxRecDepth 100000 in
theorem id_class (c : Int) (w : World) : Calls Tryd.prog 31 #[.int .i32 c] w fun e w' => e = .returned (.int .i64 (Id.cls c)) ∧ w = w' := by
  go_enter Tryd.func31, Tryd.ntmps31
  go_wp2
  all_goals go_ret
  all_goals
    refine ⟨ret_int ?_, rfl⟩
    (try simp only [beq_iff_eq, beq_eq_false_iff_ne, ne_eq] at *)
    unfold Id.cls
    (repeat' split) <;> omega
theorem below_iter {B : Nat} {w : World} (h : B ≤ w.heap.size) (s : ByteArray) (pos : Nat) : Below B w (w.iter s pos) := by
  have := (Below.refl B w).alloc h (.stringIter s pos)
  exact this
set_option maxHeartbeats 1000000 in
set_option maxRecDepth 100000 in
theorem id_IsPart (s : ByteArray) (l : List UInt8) (w : World) (hl : s.data.toList = l) (hs : s.size ≤ 1000000000) :
    Calls Tryd.prog 11 #[.string s] w fun e w' => e = .returned (.bool (Id.isPart l)) ∧ Below w.heap.size w w' := by
  have hsz := Lib.hid (len_l s)
  have c := Lib.hid (fun c W => id_class c W)
  have H := Lib.hid hl
  clear hl
  go_enter Tryd.func11, Tryd.ntmps11
  go_wp2
  go_loopw [] (fun w' => ∃ pos : Nat, w' = w.iter s pos ∧ pos ≤ s.size ∧ Hid (Id.okB (l.take pos) = true)) (fun w' => s.size - w'.iterPos w.heap.size)
  case atStart => exact ⟨0, rfl, by omega, Lib.hid rfl⟩
  case round =>
    obtain ⟨pos, rfl, hps, hok⟩ := hrel
    by_cases hp : pos < s.size
    · have hg : l[pos]? = some (s[pos]'hp) := by rw [← H.out]; exact get_l s pos hp
      have hg' := Lib.hid hg
      clear hg
      by_cases ha : (s[pos]'hp).toNat < 128
      · have hnx : ∀ ty, (Instr.next (.pointer (some ⟨w.heap.size, 0, none⟩)) true ty).run Tryd.prog (w.iter s pos) = _ := fun ty => run_next_ascii w s pos ty hp ha
        have hcl := let_cls (s[pos]'hp)
        have hnm := nm_cls (s[pos]'hp)
        have hb := okB_bad l pos _ hg'.out
        have ht := okB_take l pos _ hg'.out
        rw [hok.out, Bool.true_and] at ht
        rw [hcl, hnm] at hb ht
        have hb' := Lib.hid hb
        have ht' := Lib.hid ht
        clear hb ht hcl hnm
        generalize hK : Id.cls ((s[pos]'hp).toNat : Int) = K at hb' ht'
        have cc : ∀ W, Calls Tryd.prog 31 #[.int .i32 ((s[pos]'hp).toNat : Int)] W fun e w' => e = .returned (.int .i64 K) ∧ W = w' := fun W => by
          have := c.out ((s[pos]'hp).toNat : Int) W
          rw [hK] at this
          exact this
        have cc' := Lib.hid cc
        clear cc hK
        have ends : ∀ (b : Bool), (if pos = 0 then decide (K = 1 ∨ K = 2) else decide (K ≠ 0)) = false → b = false → Ending.returned (Value.bool b) = .returned (.bool (Id.isPart l)) := fun b h1 h2 => by rw [h2, hb'.out h1]
        have goes : (if pos = 0 then decide (K = 1 ∨ K = 2) else decide (K ≠ 0)) = true → Hid (Id.okB (l.take (pos + 1)) = true) := fun h => Lib.hid (ht'.out.trans h)
        clear hb' ht'
        by_cases h0 : pos = 0
        · subst h0
          have h0' : (((0 : Nat) : Int) == 0) = true := rfl
          rw [if_pos rfl] at ends goes
          have E := Lib.hid ends
          have G := Lib.hid goes
          clear ends goes
          go_wp2_with (go_at_call 31; (with_reducible refine (cc'.out _).mono ?_); rintro e w' ⟨rfl, rfl⟩)
          all_goals first
            | (go_ret; exact ⟨E.out _ (by simp_all) rfl, below_iter (Nat.le_refl _) _ _⟩)
            | (go_roundw
               case rel => exact ⟨1, rfl, by omega, G.out (by simp_all)⟩
               case measure => simp; omega)
        · have h0' : ((pos : Int) == 0) = false := by simpa using h0
          rw [if_neg h0] at ends goes
          have E := Lib.hid ends
          have G := Lib.hid goes
          clear ends goes
          go_wp2_with (go_at_call 31; (with_reducible refine (cc'.out _).mono ?_); rintro e w' ⟨rfl, rfl⟩)
          all_goals first
            | (go_ret; exact ⟨E.out _ (by simp_all) rfl, below_iter (Nat.le_refl _) _ _⟩)
            | (go_roundw
               case rel => exact ⟨pos + 1, rfl, by omega, G.out (by simp_all)⟩
               case measure => simp; omega)
      · have hnx : ∀ ty, (Instr.next (.pointer (some ⟨w.heap.size, 0, none⟩)) true ty).run Tryd.prog (w.iter s pos) = _ := fun ty => run_next_any w s pos ty hp
        have hd := decode_high s pos hp (by omega)
        generalize (Utf8.decode s pos).1 = r at hnx hd
        generalize (Utf8.decode s pos).2 = wd at hnx hd
        have cc : ∀ W, Calls Tryd.prog 31 #[.int .i32 (r : Int)] W fun e w' => e = .returned (.int .i64 0) ∧ W = w' := fun W => by
          have := c.out (r : Int) W
          rw [cls_high (r : Int) (by omega)] at this
          exact this
        have cc' := Lib.hid cc
        clear cc
        have hf := Lib.hid (okB_bad l pos _ hg'.out (nm_high _ (by omega) pos))
        go_wp2_with (go_at_call 31; (with_reducible refine (cc'.out _).mono ?_); rintro e w' ⟨rfl, rfl⟩)
        all_goals (go_ret; exact ⟨ret_bool hf.out.symm, below_iter (Nat.le_refl _) _ _⟩)
    · have hnx : ∀ ty, (Instr.next (.pointer (some ⟨w.heap.size, 0, none⟩)) true ty).run Tryd.prog (w.iter s pos) = _ := fun ty => run_next_end w s pos ty hp
      have hln : l.length = s.size := by rw [← H.out]; exact hsz.out
      have hfin := isPart_end l (by have := hok.out; rwa [List.take_of_length_le (by omega)] at this)
      rw [hln] at hfin
      have F := Lib.hid hfin
      clear hfin hln
      by_cases h1 : 1 ≤ s.size
      · have F' : Hid (Id.isPart l = decide (s.size ≤ 40)) := Lib.hid (by rw [F.out, decide_eq_true h1, Bool.true_and])
        clear F
        go_wp2
        all_goals go_ret
        all_goals exact ⟨ret_bool (by rw [F'.out, Bool.eq_iff_iff]; simp; omega), below_iter (Nat.le_refl _) _ _⟩
      · have F' : Hid (Id.isPart l = false) := Lib.hid (by rw [F.out, decide_eq_false h1, Bool.false_and])
        clear F
        go_wp2
        all_goals go_ret
        all_goals exact ⟨ret_bool F'.out.symm, below_iter (Nat.le_refl _) _ _⟩
set_option maxHeartbeats 2000000 in
set_option maxRecDepth 100000 in
theorem id_Join (s t : ByteArray) (a b : List UInt8) (w : World) (ha : s.data.toList = a) (hb : t.data.toList = b) (h1 : s.size ≤ 1000000000) (h2 : t.size ≤ 1000000000) :
    Calls Tryd.prog 19 #[.string s, .string t] w fun e w' => e = .returned (.string (S (Id.join a b))) ∧ w = w' := by
  have hsum : (s.size : Int) + 1 + t.size ≤ 9223372036854775807 := by omega
  by_cases hs : s.data.toList = []
  · have hn : s.toList = [] := by rw [ByteArray.toList_eq]; exact hs
    have hv : Id.join a b = b := by unfold Id.join; rw [if_pos (by rw [← ha, hs])]
    have F := Lib.hid hv
    have G := Lib.hid hb
    clear ha hv hb hs
    go_enter Tryd.func19, Tryd.ntmps19
    go_wp2
    all_goals go_ret
    all_goals exact ⟨ret_str (by rw [F.out, ← G.out]; rfl), rfl⟩
  · have hn : s.toList.isEmpty = false := by rw [ByteArray.toList_eq]; simpa using hs
    have hn2 : s.toList ≠ [] := by rw [ByteArray.toList_eq]; exact hs
    have hv : Id.join a b = s.data.toList ++ 46 :: t.data.toList := by unfold Id.join; rw [if_neg (by rw [← ha]; exact hs), ← ha, ← hb]
    have F := Lib.hid hv
    clear ha hv hb hs
    go_enter Tryd.func19, Tryd.ntmps19
    go_wp2
    all_goals go_ret
    all_goals exact ⟨ret_str (by rw [F.out]; apply S_of; simp [ByteArray.data_append]), rfl⟩
end Go.Proofs.YtefnihgjacnjfaaDoor
