/- The program's layer 6 walked, part 1: class, IsPart, IsWord, Join. -/
import Derived.Test.YtaaneecceiefoaaDoorKitA
import Derived.Lib.OthersKept
import Derived.Test.YtaaneecceiefoaaDoorShelf
import Derived.Deep.Strs
import Derived.WideShapes
namespace Go.Proofs.YtaaneecceiefoaaDoor
open Go.RowKit
set_option linter.unusedVariables false
set_option linter.unusedSimpArgs false

set_option maxHeartbeats 1000000 in
set_option maxRecDepth 100000 in
theorem id_class (c : Int) (w : World) : Calls Tryd.prog 76 #[.int .i32 c] w fun e w' => e = .returned (.int .i64 (Id.cls c)) ∧ w = w' := by
  go_enter Tryd.func76, Tryd.ntmps76
  go_wp2
  all_goals go_ret
  all_goals
    refine ⟨ret_int ?_, rfl⟩
    (try simp only [beq_iff_eq, beq_eq_false_iff_ne, ne_eq] at *)
    unfold Id.cls
    (repeat' split) <;> omega
theorem below_iterI {B : Nat} {w : World} (h : B ≤ w.heap.size) (s : ByteArray) (pos : Nat) : Below B w (w.iter s pos) := by
  have := (Below.refl B w).alloc h (.stringIter s pos)
  exact this
set_option maxHeartbeats 1000000 in
set_option maxRecDepth 100000 in
theorem id_IsPart (s : ByteArray) (l : List UInt8) (w : World) (hl : s.data.toList = l) (hs : s.size ≤ 1000000000000000) :
    Calls Tryd.prog 54 #[.string s] w fun e w' => e = .returned (.bool (Id.isPart l)) ∧ Below w.heap.size w w' := by
  have hsz := Lib.hid (len_l s)
  have c := Lib.hid (fun c W => id_class c W)
  have H := Lib.hid hl
  clear hl
  go_enter Tryd.func54, Tryd.ntmps54
  go_wp2
  go_loopw [] (fun w' => ∃ pos : Nat, w' = w.iter s pos ∧ pos ≤ s.size ∧ Hid (Id.okB (l.take pos) = true)) (fun w' => s.size - w'.iterPos w.heap.size)
  case atStart => exact ⟨0, rfl, by omega, Lib.hid rfl⟩
  case round =>
    obtain ⟨pos, rfl, hps, hok⟩ := hrel
    by_cases hp : pos < s.size
    · have hg : l[pos]? = some (s[pos]'hp) := by rw [← H.out]; exact get_l s pos hp
      have hg' := Lib.hid hg
      clear hg
      by_cases ha : (s[pos]'hp).toNat < 128
      · have hnx : ∀ ty, (Instr.next (.pointer (some ⟨w.heap.size, 0, none⟩)) true ty).run Tryd.prog (w.iter s pos) = _ := fun ty => run_next_ascii w s pos ty hp ha
        have hcl := let_cls (s[pos]'hp)
        have hnm := nm_cls (s[pos]'hp)
        have hb := okB_bad l pos _ hg'.out
        have ht := okB_take l pos _ hg'.out
        rw [hok.out, Bool.true_and] at ht
        rw [hcl, hnm] at hb ht
        have hb' := Lib.hid hb
        have ht' := Lib.hid ht
        clear hb ht hcl hnm
        generalize hK : Id.cls ((s[pos]'hp).toNat : Int) = K at hb' ht'
        have cc : ∀ W, Calls Tryd.prog 76 #[.int .i32 ((s[pos]'hp).toNat : Int)] W fun e w' => e = .returned (.int .i64 K) ∧ W = w' := fun W => by
          have := c.out ((s[pos]'hp).toNat : Int) W
          rw [hK] at this
          exact this
        have cc' := Lib.hid cc
        clear cc hK
        have ends : ∀ (b : Bool), (if pos = 0 then decide (K = 1 ∨ K = 2) else decide (K ≠ 0)) = false → b = false → Ending.returned (Value.bool b) = .returned (.bool (Id.isPart l)) := fun b h1 h2 => by rw [h2, hb'.out h1]
        have goes : (if pos = 0 then decide (K = 1 ∨ K = 2) else decide (K ≠ 0)) = true → Hid (Id.okB (l.take (pos + 1)) = true) := fun h => Lib.hid (ht'.out.trans h)
        clear hb' ht'
        by_cases h0 : pos = 0
        · subst h0
          have h0' : (((0 : Nat) : Int) == 0) = true := rfl
          rw [if_pos rfl] at ends goes
          have E := Lib.hid ends
          have G := Lib.hid goes
          clear ends goes
          go_wp2_with (go_at_call 76; (with_reducible refine (cc'.out _).mono ?_); rintro e w' ⟨rfl, rfl⟩)
          all_goals first
            | (go_ret; exact ⟨E.out _ (by simp_all) rfl, below_iterI (Nat.le_refl _) _ _⟩)
            | (go_roundw
               case rel => exact ⟨1, rfl, by omega, G.out (by simp_all)⟩
               case measure => simp; omega)
        · have h0' : ((pos : Int) == 0) = false := by simpa using h0
          rw [if_neg h0] at ends goes
          have E := Lib.hid ends
          have G := Lib.hid goes
          clear ends goes
          go_wp2_with (go_at_call 76; (with_reducible refine (cc'.out _).mono ?_); rintro e w' ⟨rfl, rfl⟩)
          all_goals first
            | (go_ret; exact ⟨E.out _ (by simp_all) rfl, below_iterI (Nat.le_refl _) _ _⟩)
            | (go_roundw
               case rel => exact ⟨pos + 1, rfl, by omega, G.out (by simp_all)⟩
               case measure => simp; omega)
      · have hnx : ∀ ty, (Instr.next (.pointer (some ⟨w.heap.size, 0, none⟩)) true ty).run Tryd.prog (w.iter s pos) = _ := fun ty => run_next_any w s pos ty hp
        have hd := decode_high s pos hp (by omega)
        generalize (Utf8.decode s pos).1 = r at hnx hd
        generalize (Utf8.decode s pos).2 = wd at hnx hd
        have cc : ∀ W, Calls Tryd.prog 76 #[.int .i32 (r : Int)] W fun e w' => e = .returned (.int .i64 0) ∧ W = w' := fun W => by
          have := c.out (r : Int) W
          rw [cls_high (r : Int) (by omega)] at this
          exact this
        have cc' := Lib.hid cc
        clear cc
        have hf := Lib.hid (okB_bad l pos _ hg'.out (nm_high _ (by omega) pos))
        go_wp2_with (go_at_call 76; (with_reducible refine (cc'.out _).mono ?_); rintro e w' ⟨rfl, rfl⟩)
        all_goals (go_ret; exact ⟨ret_bool hf.out.symm, below_iterI (Nat.le_refl _) _ _⟩)
    · have hnx : ∀ ty, (Instr.next (.pointer (some ⟨w.heap.size, 0, none⟩)) true ty).run Tryd.prog (w.iter s pos) = _ := fun ty => run_next_end w s pos ty hp
      have hln : l.length = s.size := by rw [← H.out]; exact hsz.out
      have hfin := isPart_end l (by have := hok.out; rwa [List.take_of_length_le (by omega)] at this)
      rw [hln] at hfin
      have F := Lib.hid hfin
      clear hfin hln
      by_cases h1 : 1 ≤ s.size
      · have F' : Hid (Id.isPart l = decide (s.size ≤ 40)) := Lib.hid (by rw [F.out, decide_eq_true h1, Bool.true_and])
        clear F
        go_wp2
        all_goals go_ret
        all_goals exact ⟨ret_bool (by rw [F'.out, Bool.eq_iff_iff]; simp; omega), below_iterI (Nat.le_refl _) _ _⟩
      · have F' : Hid (Id.isPart l = false) := Lib.hid (by rw [F.out, decide_eq_false h1, Bool.false_and])
        clear F
        go_wp2
        all_goals go_ret
        all_goals exact ⟨ret_bool F'.out.symm, below_iterI (Nat.le_refl _) _ _⟩
end Go.Proofs.YtaaneecceiefoaaDoor

/- The program's layer 6 walked, part 2: lists of strings, Contains, Split, Up. -/
namespace Go.Proofs.YtaaneecceiefoaaDoor
open Go.RowKit
set_option linter.unusedVariables false
set_option linter.unusedSimpArgs false

/-- v is a slice of strings that reads as ks -/
def Strs (w : World) (v : Value) (ks : List (List UInt8)) : Prop :=
  (ks = [] ∧ ∃ (a : Option Addr) (c : Nat), v = .slice a 0 c) ∨ ∃ b off c : Nat, v = .slice (some ⟨b, off, none⟩) ks.length c ∧ ks.length ≤ 140737488355328 ∧ b < w.heap.size ∧ ∀ j k, ks[j]? = some k → w.cell? ⟨b, off + j, none⟩ = some (.string (S k))
theorem Strs.below {w w' : World} {v : Value} {ks : List (List UInt8)} (h : Strs w v ks) (hb : Below w.heap.size w w') : Strs w' v ks := by
  rcases h with h | ⟨b, off, c, h1, h2, h3, h4⟩
  · exact .inl h
  · exact .inr ⟨b, off, c, h1, h2, Nat.lt_of_lt_of_le h3 hb.size, fun j k hk => by rw [hb.cell h3]; exact h4 j k hk⟩
theorem contains_has (ks : List (List UInt8)) (s : ByteArray) (x : List UInt8) (hx : s.data.toList = x) : Lib.containsS (ks.map S) s = Id.has ks x := by
  subst hx
  rw [Bool.eq_iff_iff, Lib.containsS_iff]
  unfold Id.has
  rw [decide_eq_true_iff, List.mem_map]
  constructor
  · rintro ⟨k, hk, rfl⟩
    exact hk
  · intro h
    exact ⟨_, h, rfl⟩
theorem str_info : (Tryd.prog.info? 9).map (fun i => (i.zero, i.size, i.bytes)) = some (some (.string ByteArray.empty), 1, 16) := by kernel_rfl
def strV (k : List UInt8) : Value := .string (S k)
/-- what Up returns -/
def UpPost (w : World) (ks : List (List UInt8)) (e : Ending) (w' : World) : Prop :=
  ∃ b off c : Nat, e = .returned (.slice (some ⟨b, off, none⟩) ks.length c) ∧ (b < w'.heap.size ∧ ∀ j k, ks[j]? = some k → w'.cell? ⟨b, off + j, none⟩ = some (.string (S k))) ∧ Below w.heap.size w w'
theorem strs_of_own {w : World} {B : Nat} {v : Value} {ks : List (List UInt8)} (h : w.ownsRow B 9 1 v ks.length (ks.map strV)) (hne : ks ≠ []) : ∃ b c : Nat, v = .slice (some ⟨b, 0, none⟩) ks.length c ∧ (b < w.heap.size ∧ ∀ j k, ks[j]? = some k → w.cell? ⟨b, 0 + j, none⟩ = some (.string (S k))) := by
  have h0 := h
  rcases h.2 with ⟨_, hx⟩ | ⟨g, cap, cur, rfl, _⟩
  · exact absurd (List.eq_nil_of_length_eq_zero hx) hne
  · refine ⟨g, cap, rfl, (h0.lt g rfl).2, fun j k hk => ?_⟩
    have := h0.cells (g := g) rfl j (.string (S k)) (by rw [List.getElem?_map, hk]; rfl)
    rw [Addr.add_lit] at this
    exact this
/-- the scopes behind the innermost -/
def upRest (l : List UInt8) : List (List UInt8) := if l = [] then [] else Id.up (Id.splitL l).1
theorem up_rest (l : List UInt8) : Id.up l = l :: upRest l := by
  unfold upRest
  by_cases h : l = []
  · subst h; rfl
  · rw [if_neg h, Id.up_cons l h]
theorem own_drewN {w : World} {base : Nat} {e : TypeId} {size : Nat} {v : Value} {n : Nat} {xs : List Value} (h : w.ownsRow base e size v n xs) (q : Nat) : (w.drewN q).ownsRow base e size v n xs := h
theorem new_one (w : World) (q : Nat) (v : Value) (t : TypeId) : ∀ (j : Nat) (u : Value), [v][j]? = some u → ((w.drewN q).alloc (.cells #[v] t)).cell? ((⟨w.heap.size, 0, none⟩ : Addr).add j) = some u := by
  intro j u h
  cases j with
  | zero =>
    simp at h
    subst h
    rw [Addr.add_lit]
    exact (World.cell?_alloc_at _ _ _ _ rfl).trans rfl
  | succ j => simp at h
def strLen : Value → Nat
  | .string s => s.size
  | _ => 0
theorem splitL_le (l : List UInt8) : (Id.splitL l).1.length ≤ l.length := by
  by_cases h : l = []
  · subst h; decide
  · exact Nat.le_of_lt (Id.splitL_lt l h)
theorem upF_length : ∀ (n : Nat) (l : List UInt8), (Id.upF n l).length ≤ n + 1
  | 0, l => Nat.le_refl _
  | n + 1, l => by
    unfold Id.upF
    split
    · simp
    · have := upF_length n (Id.splitL l).1
      simp only [List.length_cons]; omega
theorem up_length (l : List UInt8) : (Id.up l).length ≤ l.length + 1 := upF_length _ _
end Go.Proofs.YtaaneecceiefoaaDoor

/- The program's layer 6 walked, part 3: strings.Split at one byte, IsFull, IsWord. -/
namespace Go.Proofs.YtaaneecceiefoaaDoor
open Go.RowKit
set_option linter.unusedVariables false
set_option linter.unusedSimpArgs false

theorem word_of (l : List UInt8) (h : l ∈ Id.words) : Id.isWord l = true := decide_eq_true h
/-- internal/bytealg.MaxLen holds a number -/
def ML (w : World) : Prop := ∃ m : Int, w.cell? ⟨0, 0, none⟩ = some (.int .i64 m)
theorem ML.below {w w' : World} (h : ML w) (hb : Below w.heap.size w w') : ML w' := by
  obtain ⟨m, hm⟩ := h
  exact ⟨m, by rw [hb.cell (World.block_lt_of_cell? w _ hm)]; exact hm⟩
theorem cut_count (c : UInt8) : ∀ l : List UInt8, (Id.cut c l).length = Lib.count l [c] + 1
  | [] => by
    rw [Lib.count_miss (by simp [Lib.index])]
    rfl
  | b :: r => by
    have ih := cut_count c r
    by_cases hb : c = b
    · subst hb
      have hi : Lib.index (c :: r) [c] = ((0 : Nat) : Int) := by unfold Lib.index; simp [List.isPrefixOf]
      rw [Lib.count_hit (by simp) hi, Id.cut_hit]
      simp only [List.length_cons, List.length_nil, Nat.zero_add, List.drop_succ_cons, List.drop_zero, ih]
      omega
    · have hp : ([c].isPrefixOf (b :: r)) = false := by simp [List.isPrefixOf, hb]
      rw [Id.cut_miss c b r (fun e => hb e.symm)]
      have hoh : ∀ x : List (List UInt8), x ≠ [] → (Id.onHead b x).length = x.length := by
        intro x hx
        cases x with
        | nil => exact absurd rfl hx
        | cons p ps => rfl
      rw [hoh _ (Id.cut_ne c r), ih]
      rcases Id.idx_one c r with ⟨h1, h2⟩ | h
      · have hi : Lib.index (b :: r) [c] = -1 := by
          unfold Lib.index
          rw [if_neg (by simp [hp]), if_pos (by simp [h1])]
        rw [Lib.count_miss hi, Lib.count_miss h1]
      · obtain ⟨i, hi⟩ := Int.eq_ofNat_of_zero_le h
        have hi' : Lib.index r [c] = (i : Int) := hi
        have hi2 : Lib.index (b :: r) [c] = ((i + 1 : Nat) : Int) := by
          unfold Lib.index
          rw [if_neg (by simp [hp]), if_neg (by simp; omega), hi']
          rfl
        rw [Lib.count_hit (by simp) hi', Lib.count_hit (by simp) hi2]
        rfl
theorem S_data (s : ByteArray) : S s.data.toList = s := rfl
theorem split_pieces (s : ByteArray) (c : UInt8) (l : List UInt8) (hl : s.data.toList = l) : Lib.splitB (S [c]) 0 (Lib.countB s (S [c])) s = (Id.cut c l).map S := by
  have h := Lib.splitB_data (S [c]) 0 (Lib.countB s (S [c])) s
  have h2 := Id.split_cut c s.data.toList
  have h3 : Lib.splitK (S [c]).data.toList 0 (Lib.countB s (S [c])) s.data.toList = Id.cut c s.data.toList := h2
  rw [h3, hl] at h
  rw [← h, List.map_map]
  have : (S ∘ fun x : ByteArray => x.data.toList) = id := by funext x; rfl
  rw [this, List.map_id]
theorem split_count (s : ByteArray) (c : UInt8) (l : List UInt8) (hl : s.data.toList = l) : Lib.countB s (S [c]) + 1 = (Id.cut c l).length := by
  rw [cut_count, ← hl]
  rfl
theorem id_split (s : ByteArray) (c : UInt8) (l : List UInt8) (w : World) (hl : s.data.toList = l) (hs : s.size ≤ 1000000000) (hM : ML w) :
    Calls Tryd.prog 39 #[.string s, .string ⟨#[c]⟩] w fun e w' => e = .returned (.slice (some ⟨w.heap.size, 0, none⟩) (Id.cut c l).length (Id.cut c l).length) ∧ w' = w.alloc (.cells ((Id.cut c l).map strV).toArray 9) := by
  obtain ⟨m, hm⟩ := hM
  refine (Tryd.strings_Split s (S [c]) m w (by omega) hm (by rw [S_size]; simp)).mono ?_
  rintro e w' ⟨rfl, rfl⟩
  rw [split_count s c l hl, split_pieces s c l hl, List.map_map]
  exact ⟨rfl, rfl⟩
theorem cut_len (c : UInt8) : ∀ (l : List UInt8) (p : List UInt8), p ∈ Id.cut c l → p.length ≤ l.length
  | [], p, h => by
    simp [Id.cut] at h
    subst h; simp
  | b :: r, p, h => by
    by_cases hb : b = c
    · subst hb
      rw [Id.cut_hit] at h
      rcases List.mem_cons.1 h with rfl | h
      · simp
      · have := cut_len b r p h
        simp only [List.length_cons]; omega
    · rw [Id.cut_miss c b r hb] at h
      have hn := Id.cut_ne c r
      cases hc : Id.cut c r with
      | nil => exact absurd hc hn
      | cons q qs =>
        rw [hc] at h
        rcases List.mem_cons.1 h with rfl | h
        · have := cut_len c r q (by rw [hc]; simp)
          simp only [List.length_cons]; omega
        · have := cut_len c r p (by rw [hc]; simp [h])
          simp only [List.length_cons]; omega
theorem cut_many (c : UInt8) : ∀ (l : List UInt8), (Id.cut c l).length ≤ l.length + 1
  | [] => by simp [Id.cut]
  | b :: r => by
    have := cut_many c r
    by_cases hb : b = c
    · subst hb
      rw [Id.cut_hit]
      simp only [List.length_cons]; omega
    · rw [Id.cut_miss c b r hb]
      have hn := Id.cut_ne c r
      cases hc : Id.cut c r with
      | nil => exact absurd hc hn
      | cons q qs =>
        rw [hc] at this
        simp only [Id.onHead, List.length_cons] at this ⊢; omega
theorem piece_cell (w : World) (P : List (List UInt8)) (t : TypeId) (k : Nat) (p : List UInt8) (h : P[k]? = some p) : (w.alloc (.cells (P.map strV).toArray t)).cell? ⟨w.heap.size, k, none⟩ = some (.string (S p)) := by
  rw [World.cell?_alloc_at _ _ _ _ rfl, List.getElem?_toArray, List.getElem?_map, h]
  rfl
end Go.Proofs.YtaaneecceiefoaaDoor

/- The arguments of layer 6's laws: lists of strings, opened. -/
namespace Go.Proofs.YtaaneecceiefoaaDoor
open Go.ChangeShapes Go.WideShapes Go.RowKit Go.Deep
section
variable {H : Type} {enc : TypeId × Value → H} {w : World} {base : Nat} {spare : Nat → Bool} {held : Bool}
set_option maxRecDepth 100000 in
theorem open_strs_arg {r : Reach} {b0 : Nat} {v : Value} {d : DataW H} {p : List MemPlace} (hv : Value.okWide Tryd.prog w r b0 55 v) (h : DataW.Trod enc Tryd.prog w base spare held 55 v d p) :
    ∃ (q : Option Addr) (n c : Nat), v = .slice q n c ∧ (n ≤ 140737488355328 → ∃ ks : List (List UInt8), ks.length = n ∧ Strs w v ks) := by
  obtain ⟨q, n, c, rfl⟩ := okWide_slice Tryd.underlying55 hv
  refine ⟨q, n, c, rfl, fun hn => ?_⟩
  obtain ⟨fuel, hf⟩ := h
  rcases open_strs Tryd.underlying55 Tryd.underlying9 (by kernel_rfl) hf with ⟨hcs, hx⟩ | ⟨a, len', cap', m, Sx, hcs, _, hl, hm, hmm, hx, hcell⟩
  · simp [Value.cells] at hcs
    obtain ⟨rfl, rfl, rfl⟩ := hcs
    exact ⟨[], rfl, .inl ⟨rfl, none, 0, rfl⟩⟩
  · simp [Value.cells] at hcs
    obtain ⟨rfl, rfl, rfl⟩ := hcs
    by_cases h0 : n = 0
    · subst h0
      exact ⟨[], rfl, .inl ⟨rfl, _, _, rfl⟩⟩
    · have hnm : n ≤ m := by rw [hmm]; split <;> omega
      obtain ⟨b, off, spot⟩ := a
      have hspot : spot = none := by simpa [Addr.add] using World.cell?_spot (hcell 0 (by omega)).1
      subst hspot
      have hcell' : ∀ j, j < m → w.cell? ⟨b, off + j, none⟩ = some (.string (Sx j)) := fun j hj => by rw [← add_plain]; exact (hcell j hj).1
      have hbW : b < w.heap.size := World.block_lt_of_cell? _ _ (hcell' 0 (by omega))
      have hlen : ((List.range n).map fun i => (Sx i).data.toList).length = n := by simp
      refine ⟨(List.range n).map fun i => (Sx i).data.toList, hlen, .inr ⟨b, off, c, by rw [hlen], by rw [hlen]; exact hn, hbW, fun j k hk => ?_⟩⟩
      have hj : j < n := by
        have := (List.getElem?_eq_some_iff.1 hk).1
        simpa using this
      rw [List.getElem?_map, List.getElem?_range hj] at hk
      simp at hk
      subst hk
      rw [hcell' j (by omega)]
      rfl
end
theorem ml_of {W : World} (h : W.ShapedOpen Tryd.prog) : ML W := Tryd.laysM146.s1_3 W h
end Go.Proofs.YtaaneecceiefoaaDoor
