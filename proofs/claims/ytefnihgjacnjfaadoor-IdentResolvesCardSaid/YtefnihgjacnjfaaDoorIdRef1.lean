/- The reference's layer 6 walked, part 1. -/
import Derived.Test.YtefnihgjacnjfaaDoorIdProg3
namespace Go.Proofs.YtefnihgjacnjfaaDoor
open Go.RowKit
set_option linter.unusedVariables false
set_option linter.unusedSimpArgs false

set_option maxHeartbeats 2000000 in
set_option maxRecDepth 100000 in
theorem ref_Join (s t : ByteArray) (a b : List UInt8) (w : World) (ha : s.data.toList = a) (hb : t.data.toList = b) (h1 : s.size ≤ 1000000000) (h2 : t.size ≤ 1000000000) :
    Calls Tryd.prog 20 #[.string s, .string t] w fun e w' => e = .returned (.string (S (Id.join a b))) ∧ w = w' := by
  have hsum : (s.size : Int) + 1 + t.size ≤ 9223372036854775807 := by omega
  by_cases hs : s.data.toList = []
  · have hn : s.toList = [] := by rw [ByteArray.toList_eq]; exact hs
    have hv : Id.join a b = b := by unfold Id.join; rw [if_pos (by rw [← ha, hs])]
    have F := Lib.hid hv
    have G := Lib.hid hb
    clear ha hv hb hs
    go_enter Tryd.func20, Tryd.ntmps20
    go_wp2
    all_goals go_ret
    all_goals exact ⟨ret_str (by rw [F.out, ← G.out]; rfl), rfl⟩
  · have hn : s.toList.isEmpty = false := by rw [ByteArray.toList_eq]; simpa using hs
    have hn2 : s.toList ≠ [] := by rw [ByteArray.toList_eq]; exact hs
    have hv : Id.join a b = s.data.toList ++ 46 :: t.data.toList := by unfold Id.join; rw [if_neg (by rw [← ha]; exact hs), ← ha, ← hb]
    have F := Lib.hid hv
    clear ha hv hb hs
    go_enter Tryd.func20, Tryd.ntmps20
    go_wp2
    all_goals go_ret
    all_goals exact ⟨ret_str (by rw [F.out]; apply S_of; simp [ByteArray.data_append]), rfl⟩
set_option maxHeartbeats 4000000 in
set_option maxRecDepth 100000 in
theorem ref_IsWord (s : ByteArray) (l : List UInt8) (w : World) (hl : s.data.toList = l) :
    Calls Tryd.prog 16 #[.string s] w fun e w' => e = .returned (.bool (Id.isWord l)) ∧ w = w' := by
  have hb : s.toList = l := by rw [ByteArray.toList_eq]; exact hl
  have H := Lib.hid hb
  clear hl hb
  go_enter Tryd.func16, Tryd.ntmps16
  go_wp2
  all_goals go_ret
  all_goals
    refine ⟨ret_bool ?_, rfl⟩
    simp only [H.out, beq_iff_eq, beq_eq_false_iff_ne, ne_eq] at *
    first
    | contradiction
    | (symm; apply word_of; subst l; decide)
    | (symm; apply decide_eq_false; simp only [Id.words, List.mem_cons, List.not_mem_nil, or_false, not_or]; (repeat' (first | assumption | apply And.intro)); done)
set_option maxHeartbeats 1000000 in
set_option maxRecDepth 100000 in
theorem ref_small (b : UInt8) (w : World) : Calls Tryd.prog 32 #[.int .u8 (b.toNat : Int)] w fun e w' => e = .returned (.bool (Id.smB b)) ∧ w = w' := by
  have hb := b.toNat_lt
  go_enter Tryd.func32, Tryd.ntmps32
  go_wp2
  all_goals go_ret
  all_goals exact ⟨ret_bool (by rw [Bool.eq_iff_iff]; simp [Id.smB] at *; try omega), rfl⟩
set_option maxHeartbeats 1000000 in
set_option maxRecDepth 100000 in
theorem ref_capital (b : UInt8) (w : World) : Calls Tryd.prog 33 #[.int .u8 (b.toNat : Int)] w fun e w' => e = .returned (.bool (Id.caB b)) ∧ w = w' := by
  have hb := b.toNat_lt
  go_enter Tryd.func33, Tryd.ntmps33
  go_wp2
  all_goals go_ret
  all_goals exact ⟨ret_bool (by rw [Bool.eq_iff_iff]; simp [Id.caB] at *; try omega), rfl⟩
set_option maxHeartbeats 2000000 in
set_option maxRecDepth 100000 in
theorem ref_Split (s : ByteArray) (l : List UInt8) (w : World) (hl : s.data.toList = l) (hs : s.size ≤ 1000000000) :
    Calls Tryd.prog 18 #[.string s] w fun e w' => e = .returned (.tuple #[.string (S (Id.splitL l).1), .string (S (Id.splitL l).2)]) ∧ ∃ n, w.drewN n = w' := by
  have hsz : l.length = s.size := by rw [← hl]; exact len_l s
  have HL := Lib.hid hl
  clear hl
  go_enter Tryd.func18, Tryd.ntmps18
  go_wp2
  go_loopw [4] (fun i wr => ∃ k : Nat, k ≤ s.size ∧ i = .int .i64 ((k : Int) - 1) ∧ w = wr ∧ Hid (∀ j, k ≤ j → l[j]? ≠ some 46)) (fun i _ => (intOf i + 1).toNat)
  case atStart => exact ⟨s.size, Nat.le_refl _, rfl, rfl, Lib.hid (fun j hj => by rw [List.getElem?_eq_none (by omega)]; simp)⟩
  case round =>
    obtain ⟨k, hk, rfl, rfl, hno⟩ := hrel
    cases k with
    | zero =>
      have hd : Id.lastDot l = -1 := (Id.lastDot_none l).2 fun hm => by
        obtain ⟨j, hj⟩ := List.mem_iff_getElem?.1 hm
        exact hno.out j (by omega) hj
      have hv : Id.splitL l = ([], l) := by unfold Id.splitL; rw [if_pos hd]
      have V := Lib.hid hv
      have hneg : ¬ ((0 : Int) ≤ ((0 : Nat) : Int) - 1) := by omega
      clear hd hv
      go_wp2
      go_ret2
      exact ⟨by rw [V.out, ← HL.out]; rfl, 0, rfl⟩
    | succ j =>
      have hj : j < s.size := by omega
      have hg : l[j]? = some (s[j]'hj) := by rw [← HL.out]; exact get_l s j hj
      have hij : ((j + 1 : Nat) : Int) - 1 = (j : Int) := by omega
      have q0 : (0 : Int) ≤ j := by omega
      have q1 : (j : Int) < s.size := by omega
      have q2 : s[j].toNat < 256 := UInt8.toNat_lt _
      simp only [hij]
      by_cases hc : s[j]'hj = 46
      · have hd : Id.lastDot l = j := Id.lastDot_at l j (by rw [hg, hc]) (fun i hi => hno.out i (by omega))
        have hv : Id.splitL l = (l.take j, l.drop (j + 1)) := by unfold Id.splitL; rw [if_neg (by omega), hd]; rfl
        have h1 : S (l.take j) = s.extract 0 j := by symm; apply S_of; rw [sub_list, HL.out]; simp
        have h2 : S (l.drop (j + 1)) = s.extract (j + 1) s.size := by
          symm; apply S_of
          rw [sub_list, HL.out]
          exact List.take_of_length_le (by rw [List.length_drop, hsz]; exact Nat.le_refl _)
        have V := Lib.hid hv
        have H1 := Lib.hid h1
        have H2 := Lib.hid h2
        have hb : ((s[j].toNat : Int) == 46) = true := by rw [hc]; rfl
        clear hd hv h1 h2 hg hc hij
        have s1 : IntKind.i64.wrap ((j : Int) + 1) = (j : Int) + 1 := IntWalk.i64_in _ (by omega)
        have s2 : (0 : Int) ≤ (j : Int) + 1 := by omega
        have s3 : ((j : Int) + 1).toNat = j + 1 := by omega
        have s4 : j + 1 ≤ s.size := by omega
        have s5 : (j : Int) + 1 ≤ s.size := by omega
        go_wp2
        go_quiet (fail)
        go_wp2
        go_ret2
        exact ⟨by (rw [V.out, H1.out, H2.out]); rfl, _, rfl⟩
      · have hb : ((s[j].toNat : Int) == 46) = false := beq_eq_false_iff_ne.2 (fun e => hc (by apply UInt8.toNat_inj.1; show s[j].toNat = 46; omega))
        have hno2 : Hid (∀ i, j ≤ i → l[i]? ≠ some 46) := Lib.hid (fun i hi => by
          by_cases e : i = j
          · subst e; rw [hg]; simpa using hc
          · exact hno.out i (by omega))
        clear hg hc hij
        go_wp2
        go_roundw
        case rel => exact ⟨j, by omega, rfl, trivial, hno2⟩
        case measure => simp [intOf]
theorem has_cons_no (u : List UInt8) (r : List (List UInt8)) (x : List UInt8) (h : u ≠ x) : Id.has (u :: r) x = Id.has r x := by
  unfold Id.has
  simp [Ne.symm h]
set_option maxHeartbeats 2000000 in
set_option maxRecDepth 100000 in
theorem ref_Has (v : Value) (ks : List (List UInt8)) (s : ByteArray) (x : List UInt8) (w : World) (h : Strs w v ks) (hx : s.data.toList = x) :
    Calls Tryd.prog 30 #[v, .string s] w fun e w' => e = .returned (.bool (Id.has ks x)) ∧ w = w' := by
  rcases h with ⟨rfl, a, c, rfl⟩ | ⟨b, off, c, rfl, h2, h3, h4⟩
  · have hv : Id.has [] x = false := rfl
    have V := Lib.hid hv
    clear hv hx
    go_enter Tryd.func30, Tryd.ntmps30
    go_wp2
    go_loop [5] (fun i => i = .int .i64 0) (fun _ => 0)
    case atStart => rfl
    case round =>
      obtain rfl := hrel
      go_wp2
      go_ret
      exact ⟨ret_bool V.out.symm, rfl⟩
  · have hcells := Lib.hid h4
    have hsx : s.toList = x := by rw [ByteArray.toList_eq]; exact hx
    have HX := Lib.hid hsx
    clear h4 hx hsx
    go_enter Tryd.func30, Tryd.ntmps30
    go_wp2
    go_loop [5] (fun i => ∃ k : Nat, k ≤ ks.length ∧ i = .int .i64 k ∧ Hid (Id.has (ks.drop k) x = Id.has ks x)) (fun i => ks.length - (intOf i).toNat)
    case atStart => exact ⟨0, by omega, rfl, Lib.hid rfl⟩
    case round =>
      obtain ⟨k, hk, rfl, hr⟩ := hrel
      by_cases hlt : k < ks.length
      · have hg : ks[k]? = some ks[k] := List.getElem?_eq_getElem hlt
        have hcell := hcells.out k _ hg
        have hdr : ks.drop k = ks[k] :: ks.drop (k + 1) := List.drop_eq_getElem_cons hlt
        have hstep := hr.out
        rw [hdr] at hstep
        by_cases he : ks[k] = x
        · have hb : ((S ks[k]).toList == s.toList) = true := by rw [ByteArray.toList_eq, HX.out, S_list, he]; simp
          have hv : Id.has ks x = true := by rw [← hstep]; unfold Id.has; simp [he]
          have V := Lib.hid hv
          clear hv hstep hg hdr he
          generalize ks[k] = u at hcell hb
          go_wp2
          go_ret
          exact ⟨ret_bool V.out.symm, rfl⟩
        · have hb : ((S ks[k]).toList == s.toList) = false := by rw [ByteArray.toList_eq, HX.out, S_list]; simpa using he
          have hv : Hid (Id.has (ks.drop (k + 1)) x = Id.has ks x) := Lib.hid (by rw [← hstep, has_cons_no _ _ _ he])
          clear hstep hg hdr he
          generalize ks[k] = u at hcell hb
          go_wp2
          go_round
          case rel => exact ⟨k + 1, by omega, by go_num, hv⟩
          case measure => simp [intOf]; omega
      · have hv : Id.has ks x = false := by rw [← hr.out, List.drop_eq_nil_of_le (by omega)]; rfl
        have V := Lib.hid hv
        clear hv
        go_wp2
        go_ret
        exact ⟨ret_bool V.out.symm, rfl⟩
set_option maxHeartbeats 2000000 in
set_option maxRecDepth 100000 in
theorem ref_Up (s : ByteArray) (l : List UInt8) (w : World) (hl : s.data.toList = l) (hs : s.size ≤ 100000000) :
    Calls Tryd.prog 23 #[.string s] w (UpPost w (Id.up l)) := by
  obtain ⟨i0, hi, hz0, hz1, hz2⟩ := info_parts str_info
  have hsl : s = S l := S_of hl
  have hlen : l.length = s.size := by rw [← hl]; exact len_l s
  have hul := up_length l
  subst hsl
  clear hl
  go_enter Tryd.func23, Tryd.ntmps23
  go_wp2
  go_loopw [0, 3] (fun t v wr => ∃ (cur : List UInt8) (xs : List (List UInt8)), t = .string (S cur) ∧ wr.ownsRow w.heap.size 9 1 v xs.length (xs.map strV) ∧ Below w.heap.size w wr ∧ Hid (xs ++ upRest cur = Id.up l) ∧ cur.length ≤ l.length ∧ xs.length ≤ l.length + 1 ∧ 0 < xs.length) (fun t _ _ => strLen t)
  case atStart => exact ⟨l, [l], rfl, World.ownsRow_lit w #[strV l] 1 (Nat.le_refl _) (by unfold maxLen; omega) rfl, (Below.refl _ _).alloc (Nat.le_refl _) _, Lib.hid (up_rest l).symm, Nat.le_refl _, by simp, by simp⟩
  case round =>
    obtain ⟨cur, xs, rfl, hown, hb, hx, hcl, hxl, hx0⟩ := hrel
    by_cases hc : cur = []
    · subst hc
      have hfin : xs = Id.up l := by have := hx.out; simpa [upRest] using this
      have H := Lib.hid hfin
      clear hx hfin
      have hn : (S []).toList = [] := by rw [ByteArray.toList_eq]; rfl
      go_wp2
      go_ret
      have hown' := hown
      rw [H.out] at hown'
      obtain ⟨b, c, hv, hcells⟩ := strs_of_own hown' (by rw [up_rest]; simp)
      exact ⟨b, 0, c, by subst hv; rfl, hcells, hb⟩
    · have hn : (S cur).toList ≠ [] := by rw [ByteArray.toList_eq]; exact hc
      have hn2 : (S cur).toList.isEmpty = false := by rw [ByteArray.toList_eq, S_list]; simpa using hc
      have hlt := Id.splitL_lt cur hc
      have hr : upRest cur = (Id.splitL cur).1 :: upRest (Id.splitL cur).1 := by
        rw [← up_rest]
        unfold upRest
        rw [if_neg hc]
      have hx2 : Hid ((xs ++ [(Id.splitL cur).1]) ++ upRest (Id.splitL cur).1 = Id.up l) := Lib.hid (by rw [← hx.out, hr]; simp)
      have hxl2 : (xs ++ [(Id.splitL cur).1]).length ≤ (Id.up l).length := by rw [← hx2.out]; simp
      have hsp := fun W => ref_Split (S cur) cur W rfl (by rw [S_size]; omega)
      generalize (Id.splitL cur).1 = a at hsp hx2 hlt hxl2
      generalize (Id.splitL cur).2 = a2 at hsp
      have c := Lib.hid hsp
      clear hsp hr hx hc
      simp only [List.length_append, List.length_cons, List.length_nil] at hxl2
      go_wp2_with (first
        | (go_at_call 18; (with_reducible refine (c.out _).mono ?_); rintro e w2 ⟨rfl, nq, rfl⟩)
        | (at_builtin; refine wpList_append_own _ rfl _ _ 28 rfl w.heap.size 9 i0 (.string ByteArray.empty) 1 16 Tryd.underlying28 hi hz0 hz1 hz2 rfl (by decide) _ _ _ rfl ((own_drewN hown nq).alloc _) ⟨wr.heap.size, 0, none⟩ 1 1 [.string (S a)] rfl rfl ?c1 ?c2 ?c3 ?c4 ?c5 ?_))
      case c1 => exact new_one wr nq _ _
      case c2 => simp [Value.oneCell']
      case c3 => unfold maxLen; omega
      case c4 => omega
      case c5 => have := hb.size; simp; omega
      intro v' w1 hown1 hgrow _
      have hb1 := ((below_drewN hb nq).alloc (by have := hb.size; simpa using this) (.cells #[.string (S a)] 9)).grown hgrow (by have := hb.size; simp; omega) (fun g hg => (hown.lt g hg).1)
      clear hgrow
      have hown2 : w1.ownsRow w.heap.size 9 1 v' (xs ++ [a]).length ((xs ++ [a]).map strV) := by
        rw [List.map_append, List.length_append]
        exact hown1
      go_wp2
      go_roundw
      case rel => exact ⟨a, xs ++ [a], rfl, hown2, hb1, hx2, by omega, by simp; omega, by simp⟩
      case measure => simp [strLen, S_size]; omega
end Go.Proofs.YtefnihgjacnjfaaDoor
