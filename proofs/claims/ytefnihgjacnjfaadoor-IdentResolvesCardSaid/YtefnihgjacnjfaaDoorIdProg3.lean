/- The program's layer 6 walked, part 3: strings.Split at one byte, IsFull, IsWord. -/
import Derived.Test.YtefnihgjacnjfaaDoorIdProg2
namespace Go.Proofs.YtefnihgjacnjfaaDoor
open Go.RowKit
set_option linter.unusedVariables false
set_option linter.unusedSimpArgs false

def Id.words : List (List UInt8) := [[109, 101, 115, 115, 97, 103, 101], [101, 110, 117, 109], [115, 101, 114, 118, 105, 99, 101], [117, 110, 105, 111, 110], [109, 97, 112], [108, 105, 115, 116], [114, 101, 113, 117, 105, 114, 101, 100], [111, 112, 116, 105, 111, 110, 97, 108], [112, 108, 97, 105, 110], [100, 101, 102, 97, 117, 108, 116], [114, 101, 115, 101, 114, 118, 101, 100], [105, 109, 112, 111, 114, 116], [115, 112, 97, 99, 101], [114, 112, 99], [115, 116, 114, 101, 97, 109], [114, 101, 116, 117, 114, 110, 115], [111, 112, 101, 110], [116, 114, 117, 101], [102, 97, 108, 115, 101], [110, 97, 110], [105, 110, 102]]
def Id.isWord (l : List UInt8) : Bool := decide (l ∈ Id.words)
theorem word_of (l : List UInt8) (h : l ∈ Id.words) : Id.isWord l = true := decide_eq_true h
set_option maxHeartbeats 4000000 in
set_option maxRecDepth 100000 in
theorem id_IsWord (s : ByteArray) (l : List UInt8) (w : World) (hl : s.data.toList = l) :
    Calls Tryd.prog 15 #[.string s] w fun e w' => e = .returned (.bool (Id.isWord l)) ∧ w = w' := by
  have hb : s.toList = l := by rw [ByteArray.toList_eq]; exact hl
  have H := Lib.hid hb
  clear hl hb
  go_enter Tryd.func15, Tryd.ntmps15
  go_wp2
  all_goals go_ret
  all_goals
    refine ⟨ret_bool ?_, rfl⟩
    simp only [H.out, beq_iff_eq, beq_eq_false_iff_ne, ne_eq] at *
    first
    | contradiction
    | (symm; apply word_of; subst l; decide)
    | (symm; apply decide_eq_false; simp only [Id.words, List.mem_cons, List.not_mem_nil, or_false, not_or]; (repeat' (first | assumption | apply And.intro)); done)
/-- internal/bytealg.MaxLen holds a number -/
def ML (w : World) : Prop := ∃ m : Int, w.cell? ⟨0, 0, none⟩ = some (.int .i64 m)
theorem ML.below {w w' : World} (h : ML w) (hb : Below w.heap.size w w') : ML w' := by
  obtain ⟨m, hm⟩ := h
  exact ⟨m, by rw [hb.cell (World.block_lt_of_cell? w _ hm)]; exact hm⟩
theorem cut_count (c : UInt8) : ∀ l : List UInt8, (Id.cut c l).length = Lib.count l [c] + 1
  | [] => by
    rw [Lib.count_miss (by simp [Lib.index])]
    rfl
  | b :: r => by
    have ih := cut_count c r
    by_cases hb : c = b
    · subst hb
      have hi : Lib.index (c :: r) [c] = ((0 : Nat) : Int) := by unfold Lib.index; simp [List.isPrefixOf]
      rw [Lib.count_hit (by simp) hi, Id.cut_hit]
      simp only [List.length_cons, List.length_nil, Nat.zero_add, List.drop_succ_cons, List.drop_zero, ih]
      omega
    · have hp : ([c].isPrefixOf (b :: r)) = false := by simp [List.isPrefixOf, hb]
      rw [Id.cut_miss c b r (fun e => hb e.symm)]
      have hoh : ∀ x : List (List UInt8), x ≠ [] → (Id.onHead b x).length = x.length := by
        intro x hx
        cases x with
        | nil => exact absurd rfl hx
        | cons p ps => rfl
      rw [hoh _ (Id.cut_ne c r), ih]
      rcases Id.idx_one c r with ⟨h1, h2⟩ | h
      · have hi : Lib.index (b :: r) [c] = -1 := by
          unfold Lib.index
          rw [if_neg (by simp [hp]), if_pos (by simp [h1])]
        rw [Lib.count_miss hi, Lib.count_miss h1]
      · obtain ⟨i, hi⟩ := Int.eq_ofNat_of_zero_le h
        have hi' : Lib.index r [c] = (i : Int) := hi
        have hi2 : Lib.index (b :: r) [c] = ((i + 1 : Nat) : Int) := by
          unfold Lib.index
          rw [if_neg (by simp [hp]), if_neg (by simp; omega), hi']
          rfl
        rw [Lib.count_hit (by simp) hi', Lib.count_hit (by simp) hi2]
        rfl
theorem S_data (s : ByteArray) : S s.data.toList = s := rfl
theorem split_pieces (s : ByteArray) (c : UInt8) (l : List UInt8) (hl : s.data.toList = l) : Lib.splitB (S [c]) 0 (Lib.countB s (S [c])) s = (Id.cut c l).map S := by
  have h := Lib.splitB_data (S [c]) 0 (Lib.countB s (S [c])) s
  have h2 := Id.split_cut c s.data.toList
  have h3 : Lib.splitK (S [c]).data.toList 0 (Lib.countB s (S [c])) s.data.toList = Id.cut c s.data.toList := h2
  rw [h3, hl] at h
  rw [← h, List.map_map]
  have : (S ∘ fun x : ByteArray => x.data.toList) = id := by funext x; rfl
  rw [this, List.map_id]
theorem split_count (s : ByteArray) (c : UInt8) (l : List UInt8) (hl : s.data.toList = l) : Lib.countB s (S [c]) + 1 = (Id.cut c l).length := by
  rw [cut_count, ← hl]
  rfl
theorem id_split (s : ByteArray) (c : UInt8) (l : List UInt8) (w : World) (hl : s.data.toList = l) (hs : s.size ≤ 1000000000) (hM : ML w) :
    Calls Tryd.prog 34 #[.string s, .string ⟨#[c]⟩] w fun e w' => e = .returned (.slice (some ⟨w.heap.size, 0, none⟩) (Id.cut c l).length (Id.cut c l).length) ∧ w' = w.alloc (.cells ((Id.cut c l).map strV).toArray 9) := by
  obtain ⟨m, hm⟩ := hM
  refine (Tryd.strings_Split s (S [c]) m w (by omega) hm (by rw [S_size]; simp)).mono ?_
  rintro e w' ⟨rfl, rfl⟩
  rw [split_count s c l hl, split_pieces s c l hl, List.map_map]
  exact ⟨rfl, rfl⟩
theorem cut_len (c : UInt8) : ∀ (l : List UInt8) (p : List UInt8), p ∈ Id.cut c l → p.length ≤ l.length
  | [], p, h => by
    simp [Id.cut] at h
    subst h; simp
  | b :: r, p, h => by
    by_cases hb : b = c
    · subst hb
      rw [Id.cut_hit] at h
      rcases List.mem_cons.1 h with rfl | h
      · simp
      · have := cut_len b r p h
        simp only [List.length_cons]; omega
    · rw [Id.cut_miss c b r hb] at h
      have hn := Id.cut_ne c r
      cases hc : Id.cut c r with
      | nil => exact absurd hc hn
      | cons q qs =>
        rw [hc] at h
        rcases List.mem_cons.1 h with rfl | h
        · have := cut_len c r q (by rw [hc]; simp)
          simp only [List.length_cons]; omega
        · have := cut_len c r p (by rw [hc]; simp [h])
          simp only [List.length_cons]; omega
theorem cut_many (c : UInt8) : ∀ (l : List UInt8), (Id.cut c l).length ≤ l.length + 1
  | [] => by simp [Id.cut]
  | b :: r => by
    have := cut_many c r
    by_cases hb : b = c
    · subst hb
      rw [Id.cut_hit]
      simp only [List.length_cons]; omega
    · rw [Id.cut_miss c b r hb]
      have hn := Id.cut_ne c r
      cases hc : Id.cut c r with
      | nil => exact absurd hc hn
      | cons q qs =>
        rw [hc] at this
        simp only [Id.onHead, List.length_cons] at this ⊢; omega
theorem piece_cell (w : World) (P : List (List UInt8)) (t : TypeId) (k : Nat) (p : List UInt8) (h : P[k]? = some p) : (w.alloc (.cells (P.map strV).toArray t)).cell? ⟨w.heap.size, k, none⟩ = some (.string (S p)) := by
  rw [World.cell?_alloc_at _ _ _ _ rfl, List.getElem?_toArray, List.getElem?_map, h]
  rfl
set_option maxHeartbeats 2000000 in
set_option maxRecDepth 100000 in
theorem id_IsFull (s : ByteArray) (l : List UInt8) (w : World) (hl : s.data.toList = l) (hs : s.size ≤ 100000000) (hM : ML w) :
    Calls Tryd.prog 13 #[.string s] w fun e w' => e = .returned (.bool (Id.isFull l)) ∧ Below w.heap.size w w' := by
  have c := Lib.hid (id_split s 46 l w hl (by omega) hM)
  have hlen : l.length = s.size := by rw [← hl]; exact len_l s
  have hpl : ∀ p, p ∈ Id.cut 46 l → p.length ≤ s.size := fun p hp => by have := cut_len 46 l p hp; omega
  have hpm := cut_many 46 l
  have hv : Id.isFull l = ((Id.cut 46 l).all Id.isPart && decide (s.size ≤ 120)) := by unfold Id.isFull; rw [hlen]
  generalize Id.cut 46 l = P at c hpl hpm hv
  have V := Lib.hid hv
  have PL := Lib.hid hpl
  clear hv hpl hl
  have hcl := Lib.hid (piece_cell w P 9)
  go_enter Tryd.func13, Tryd.ntmps13
  go_wp2_with (go_at_call 34; (with_reducible refine c.out.mono ?_); rintro e w' ⟨rfl, rfl⟩)
  go_loopw [8] (fun i wr => ∃ k : Nat, k ≤ P.length ∧ i = .int .i64 k ∧ Below (w.heap.size + 1) (w.alloc (.cells (P.map strV).toArray 9)) wr ∧ Hid ((P.take k).all Id.isPart = true)) (fun i _ => P.length - (intOf i).toNat)
  case atStart => exact ⟨0, by omega, rfl, Below.refl _ _, Lib.hid rfl⟩
  case round =>
    obtain ⟨k, hk, rfl, hb, hok⟩ := hrel
    have hbw : Below w.heap.size w wr := ((Below.refl _ _).alloc (Nat.le_refl _) _).trans (hb.mono (by omega))
    by_cases hlt : k < P.length
    · have hg : P[k]? = some P[k] := List.getElem?_eq_getElem hlt
      have hcell : wr.cell? ⟨w.heap.size, k, none⟩ = some (.string (S P[k])) := by
        rw [hb.cell (p := ⟨w.heap.size, k, none⟩) (Nat.lt_succ_self _)]
        exact hcl.out k _ hg
      have hpk := PL.out _ (List.getElem_mem hlt)
      have cc := fun W => id_IsPart (S P[k]) P[k] W rfl (by rw [S_size]; omega)
      have htk : (P.take (k + 1)).all Id.isPart = ((P.take k).all Id.isPart && Id.isPart P[k]) := by
        rw [List.take_succ_eq_append_getElem hlt, List.all_append]
        simp
      have T := Lib.hid htk
      have hall : Id.isPart P[k] = false → P.all Id.isPart = false := by
        intro h
        cases ha : P.all Id.isPart
        · rfl
        · rw [List.all_eq_true.1 ha _ (List.getElem_mem hlt)] at h
          cases h
      have A := Lib.hid hall
      clear htk hall hg
      generalize P[k] = p at cc T A hcell hpk
      cases hp : Id.isPart p
      · rw [hp] at cc
        have cc' := Lib.hid cc
        have hf := Lib.hid (A.out hp)
        clear cc hp
        go_wp2_with (go_at_call 11; (with_reducible refine (cc'.out _).mono ?_); rintro e w' ⟨rfl, hb2⟩)
        go_ret
        exact ⟨ret_bool (by rw [V.out, hf.out]; rfl), hbw.trans (hb2.mono hbw.size)⟩
      · rw [hp] at cc
        have cc' := Lib.hid cc
        have hp' := Lib.hid hp
        clear cc hp
        go_wp2_with (go_at_call 11; (with_reducible refine (cc'.out _).mono ?_); rintro e w' ⟨rfl, hb2⟩)
        go_roundw
        case rel => exact ⟨k + 1, by omega, by go_num, hb.trans (hb2.mono (by have := hb.size; simpa using this)), Lib.hid (by rw [T.out, hok.out, hp'.out]; rfl)⟩
        case measure => simp [intOf]; omega
    · have hk' : k = P.length := by omega
      have hfin : P.all Id.isPart = true := by have := hok.out; rwa [List.take_of_length_le (by omega)] at this
      have F := Lib.hid hfin
      subst hk'
      clear hfin
      go_wp2
      go_ret
      exact ⟨ret_bool (by rw [V.out, F.out, Bool.true_and, Bool.eq_iff_iff]; simp; omega), hbw⟩
end Go.Proofs.YtefnihgjacnjfaaDoor
