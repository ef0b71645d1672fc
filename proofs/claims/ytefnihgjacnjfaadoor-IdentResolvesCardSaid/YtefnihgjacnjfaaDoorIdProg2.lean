/- The program's layer 6 walked, part 2: lists of strings, Contains, Split, Up. -/
import Derived.Test.YtefnihgjacnjfaaDoorIdProg1
import Derived.Test.YtefnihgjacnjfaaDoorShelf
namespace Go.Proofs.YtefnihgjacnjfaaDoor
open Go.RowKit
set_option linter.unusedVariables false
set_option linter.unusedSimpArgs false

/-- v is a slice of strings that reads as ks -/
def Strs (w : World) (v : Value) (ks : List (List UInt8)) : Prop :=
  (ks = [] ∧ ∃ (a : Option Addr) (c : Nat), v = .slice a 0 c) ∨ ∃ b off c : Nat, v = .slice (some ⟨b, off, none⟩) ks.length c ∧ ks.length ≤ 1000000000 ∧ b < w.heap.size ∧ ∀ j k, ks[j]? = some k → w.cell? ⟨b, off + j, none⟩ = some (.string (S k))
theorem Strs.below {w w' : World} {v : Value} {ks : List (List UInt8)} (h : Strs w v ks) (hb : Below w.heap.size w w') : Strs w' v ks := by
  rcases h with h | ⟨b, off, c, h1, h2, h3, h4⟩
  · exact .inl h
  · exact .inr ⟨b, off, c, h1, h2, Nat.lt_of_lt_of_le h3 hb.size, fun j k hk => by rw [hb.cell h3]; exact h4 j k hk⟩
theorem contains_has (ks : List (List UInt8)) (s : ByteArray) (x : List UInt8) (hx : s.data.toList = x) : Lib.containsS (ks.map S) s = Id.has ks x := by
  subst hx
  rw [Bool.eq_iff_iff, Lib.containsS_iff]
  unfold Id.has
  rw [decide_eq_true_iff, List.mem_map]
  constructor
  · rintro ⟨k, hk, rfl⟩
    exact hk
  · intro h
    exact ⟨_, h, rfl⟩
theorem id_contains (v : Value) (ks : List (List UInt8)) (s : ByteArray) (x : List UInt8) (w : World) (h : Strs w v ks) (hx : s.data.toList = x) :
    Calls Tryd.prog 37 #[v, .string s] w fun e w' => e = .returned (.bool (Id.has ks x)) ∧ w = w' := by
  rcases h with ⟨rfl, a, c, rfl⟩ | ⟨b, off, c, rfl, h2, h3, h4⟩
  · refine (Tryd.slices_Contains_string_empty a c s w).mono ?_
    rintro e w' ⟨rfl, rfl⟩
    exact ⟨rfl, rfl⟩
  · have hl : ks.length = (ks.map S).length := by simp
    refine (Tryd.slices_Contains_string b off ks.length c (ks.map S) s w (by simp) (by omega) (fun j hj => ?_)).mono ?_
    · have hj' : j < ks.length := by simpa using hj
      rw [h4 j _ (List.getElem?_eq_getElem hj')]
      simp [List.getD, hj']
    · rintro e w' ⟨rfl, rfl⟩
      refine ⟨ret_bool ?_, rfl⟩
      rw [hl, List.take_length]
      exact contains_has ks s x hx
set_option maxHeartbeats 1000000 in
set_option maxRecDepth 100000 in
theorem id_Split (s : ByteArray) (l : List UInt8) (w : World) (hl : s.data.toList = l) (hs : s.size ≤ 1000000000) :
    Calls Tryd.prog 17 #[.string s] w fun e w' => e = .returned (.tuple #[.string (S (Id.splitL l).1), .string (S (Id.splitL l).2)]) ∧ ∃ n, w.drewN n = w' := by
  have c : ∀ W, Calls Tryd.prog 35 #[.string s, .int .u8 46] W fun e w' => e = .returned (.int .i64 (Id.lastDot l)) ∧ W = w' := fun W => by
    refine (Tryd.strings_LastIndexByte s 46 (by omega) W).mono ?_
    rintro e w' ⟨rfl, rfl⟩
    exact ⟨ret_int (last_dot s l hl), rfl⟩
  have hsz : l.length = s.size := by rw [← hl]; exact len_l s
  rcases Id.lastDot_spec l with ⟨e, hn⟩ | ⟨i, e, hi, h3, h4⟩
  · have hv : Id.splitL l = ([], l) := by unfold Id.splitL; rw [if_pos e]
    rw [e] at c
    rw [hv]
    have c' := Lib.hid c
    have H := Lib.hid hl
    clear c e hv hl hsz hn
    go_enter Tryd.func17, Tryd.ntmps17
    go_wp2_with (go_at_call 35; (with_reducible refine (c'.out _).mono ?_); rintro e w' ⟨rfl, rfl⟩)
    go_ret2
    exact ⟨by rw [← H.out]; rfl, 0, rfl⟩
  · have hv : Id.splitL l = (l.take i, l.drop (i + 1)) := by unfold Id.splitL; rw [if_neg (by omega), e]; rfl
    rw [e] at c
    rw [hv]
    have c' := Lib.hid c
    have hlt : (i : Int) + 1 ≤ s.size := by omega
    have hlt2 : i + 1 ≤ s.size := by omega
    have h1 : S (l.take i) = s.extract 0 i := by symm; apply S_of; rw [sub_list, hl]; simp
    have h2 : S (l.drop (i + 1)) = s.extract (i + 1) s.size := by
      symm; apply S_of
      rw [sub_list, hl]
      exact List.take_of_length_le (by rw [List.length_drop, hsz]; exact Nat.le_refl _)
    have H1 := Lib.hid h1
    have H2 := Lib.hid h2
    clear c e hv hl hsz h3 h4 hi h1 h2
    go_enter Tryd.func17, Tryd.ntmps17
    have s1 : IntKind.i64.wrap ((i : Int) + 1) = (i : Int) + 1 := IntWalk.i64_in _ (by omega)
    have s2 : (0 : Int) ≤ (i : Int) + 1 := by omega
    have s3 : ((i : Int) + 1).toNat = i + 1 := by omega
    go_wp2_with (go_at_call 35; (with_reducible refine (c'.out _).mono ?_); rintro e w' ⟨rfl, rfl⟩)
    go_quiet (fail)
    go_wp2
    go_ret2
    exact ⟨by (rw [H1.out, H2.out]); rfl, _, rfl⟩
theorem str_info : (Tryd.prog.info? 9).map (fun i => (i.zero, i.size, i.bytes)) = some (some (.string ByteArray.empty), 1, 16) := by kernel_rfl
def strV (k : List UInt8) : Value := .string (S k)
/-- what Up returns -/
def UpPost (w : World) (ks : List (List UInt8)) (e : Ending) (w' : World) : Prop :=
  ∃ b off c : Nat, e = .returned (.slice (some ⟨b, off, none⟩) ks.length c) ∧ (b < w'.heap.size ∧ ∀ j k, ks[j]? = some k → w'.cell? ⟨b, off + j, none⟩ = some (.string (S k))) ∧ Below w.heap.size w w'
theorem strs_of_own {w : World} {B : Nat} {v : Value} {ks : List (List UInt8)} (h : w.ownsRow B 9 1 v ks.length (ks.map strV)) (hne : ks ≠ []) : ∃ b c : Nat, v = .slice (some ⟨b, 0, none⟩) ks.length c ∧ (b < w.heap.size ∧ ∀ j k, ks[j]? = some k → w.cell? ⟨b, 0 + j, none⟩ = some (.string (S k))) := by
  have h0 := h
  rcases h.2 with ⟨_, hx⟩ | ⟨g, cap, cur, rfl, _⟩
  · exact absurd (List.eq_nil_of_length_eq_zero hx) hne
  · refine ⟨g, cap, rfl, (h0.lt g rfl).2, fun j k hk => ?_⟩
    have := h0.cells (g := g) rfl j (.string (S k)) (by rw [List.getElem?_map, hk]; rfl)
    rw [Addr.add_lit] at this
    exact this
/-- the scopes behind the innermost -/
def upRest (l : List UInt8) : List (List UInt8) := if l = [] then [] else Id.up (Id.splitL l).1
theorem up_rest (l : List UInt8) : Id.up l = l :: upRest l := by
  unfold upRest
  by_cases h : l = []
  · subst h; rfl
  · rw [if_neg h, Id.up_cons l h]
theorem own_drewN {w : World} {base : Nat} {e : TypeId} {size : Nat} {v : Value} {n : Nat} {xs : List Value} (h : w.ownsRow base e size v n xs) (q : Nat) : (w.drewN q).ownsRow base e size v n xs := h
theorem new_one (w : World) (q : Nat) (v : Value) (t : TypeId) : ∀ (j : Nat) (u : Value), [v][j]? = some u → ((w.drewN q).alloc (.cells #[v] t)).cell? ((⟨w.heap.size, 0, none⟩ : Addr).add j) = some u := by
  intro j u h
  cases j with
  | zero =>
    simp at h
    subst h
    rw [Addr.add_lit]
    exact (World.cell?_alloc_at _ _ _ _ rfl).trans rfl
  | succ j => simp at h
def strLen : Value → Nat
  | .string s => s.size
  | _ => 0
theorem splitL_le (l : List UInt8) : (Id.splitL l).1.length ≤ l.length := by
  by_cases h : l = []
  · subst h; decide
  · exact Nat.le_of_lt (Id.splitL_lt l h)
theorem upF_length : ∀ (n : Nat) (l : List UInt8), (Id.upF n l).length ≤ n + 1
  | 0, l => Nat.le_refl _
  | n + 1, l => by
    unfold Id.upF
    split
    · simp
    · have := upF_length n (Id.splitL l).1
      simp only [List.length_cons]; omega
theorem up_length (l : List UInt8) : (Id.up l).length ≤ l.length + 1 := upF_length _ _
set_option maxHeartbeats 2000000 in
set_option maxRecDepth 100000 in
theorem id_Up (s : ByteArray) (l : List UInt8) (w : World) (hl : s.data.toList = l) (hs : s.size ≤ 100000000) :
    Calls Tryd.prog 22 #[.string s] w (UpPost w (Id.up l)) := by
  obtain ⟨i0, hi, hz0, hz1, hz2⟩ := info_parts str_info
  have hsl : s = S l := S_of hl
  have hlen : l.length = s.size := by rw [← hl]; exact len_l s
  have hul := up_length l
  subst hsl
  clear hl
  go_enter Tryd.func22, Tryd.ntmps22
  go_wp2
  go_loopw [0, 3] (fun t v wr => ∃ (cur : List UInt8) (xs : List (List UInt8)), t = .string (S cur) ∧ wr.ownsRow w.heap.size 9 1 v xs.length (xs.map strV) ∧ Below w.heap.size w wr ∧ Hid (xs ++ upRest cur = Id.up l) ∧ cur.length ≤ l.length ∧ xs.length ≤ l.length + 1 ∧ 0 < xs.length) (fun t _ _ => strLen t)
  case atStart => exact ⟨l, [l], rfl, World.ownsRow_lit w #[strV l] 1 (Nat.le_refl _) (by unfold maxLen; omega) rfl, (Below.refl _ _).alloc (Nat.le_refl _) _, Lib.hid (up_rest l).symm, Nat.le_refl _, by simp, by simp⟩
  case round =>
    obtain ⟨cur, xs, rfl, hown, hb, hx, hcl, hxl, hx0⟩ := hrel
    by_cases hc : cur = []
    · subst hc
      have hfin : xs = Id.up l := by have := hx.out; simpa [upRest] using this
      have H := Lib.hid hfin
      clear hx hfin
      have hn : (S []).toList = [] := by rw [ByteArray.toList_eq]; rfl
      go_wp2
      go_ret
      have hown' := hown
      rw [H.out] at hown'
      obtain ⟨b, c, hv, hcells⟩ := strs_of_own hown' (by rw [up_rest]; simp)
      exact ⟨b, 0, c, by subst hv; rfl, hcells, hb⟩
    · have hn : (S cur).toList ≠ [] := by rw [ByteArray.toList_eq]; exact hc
      have hn2 : (S cur).toList.isEmpty = false := by rw [ByteArray.toList_eq, S_list]; simpa using hc
      have hlt := Id.splitL_lt cur hc
      have hr : upRest cur = (Id.splitL cur).1 :: upRest (Id.splitL cur).1 := by
        rw [← up_rest]
        unfold upRest
        rw [if_neg hc]
      have hx2 : Hid ((xs ++ [(Id.splitL cur).1]) ++ upRest (Id.splitL cur).1 = Id.up l) := Lib.hid (by rw [← hx.out, hr]; simp)
      have hxl2 : (xs ++ [(Id.splitL cur).1]).length ≤ (Id.up l).length := by rw [← hx2.out]; simp
      have hsp := fun W => id_Split (S cur) cur W rfl (by rw [S_size]; omega)
      generalize (Id.splitL cur).1 = a at hsp hx2 hlt hxl2
      generalize (Id.splitL cur).2 = a2 at hsp
      have c := Lib.hid hsp
      clear hsp hr hx hc
      simp only [List.length_append, List.length_cons, List.length_nil] at hxl2
      go_wp2_with (first
        | (go_at_call 17; (with_reducible refine (c.out _).mono ?_); rintro e w2 ⟨rfl, nq, rfl⟩)
        | (at_builtin; refine wpList_append_own _ rfl _ _ 28 rfl w.heap.size 9 i0 (.string ByteArray.empty) 1 16 Tryd.underlying28 hi hz0 hz1 hz2 rfl (by decide) _ _ _ rfl ((own_drewN hown nq).alloc _) ⟨wr.heap.size, 0, none⟩ 1 1 [.string (S a)] rfl rfl ?c1 ?c2 ?c3 ?c4 ?c5 ?_))
      case c1 => exact new_one wr nq _ _
      case c2 => simp [Value.oneCell']
      case c3 => unfold maxLen; omega
      case c4 => omega
      case c5 => have := hb.size; simp; omega
      intro v' w1 hown1 hgrow _
      have hb1 := ((below_drewN hb nq).alloc (by have := hb.size; simpa using this) (.cells #[.string (S a)] 9)).grown hgrow (by have := hb.size; simp; omega) (fun g hg => (hown.lt g hg).1)
      clear hgrow
      have hown2 : w1.ownsRow w.heap.size 9 1 v' (xs ++ [a]).length ((xs ++ [a]).map strV) := by
        rw [List.map_append, List.length_append]
        exact hown1
      go_wp2
      go_roundw
      case rel => exact ⟨a, xs ++ [a], rfl, hown2, hb1, hx2, by omega, by simp; omega, by simp⟩
      case measure => simp [strLen, S_size]; omega
end Go.Proofs.YtefnihgjacnjfaaDoor
