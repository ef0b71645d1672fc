/- The law Splits of layer 6, walked. -/
import Derived.Test.YtefnihgjacnjfaaDoorIdLaws2
namespace Go.Proofs.YtefnihgjacnjfaaDoor
open Go.RowKit
set_option linter.unusedVariables false
set_option linter.unusedSimpArgs false

set_option maxHeartbeats 4000000 in
set_option maxRecDepth 100000 in
theorem law_Splits_big (s : ByteArray) (w : World) (hM : ML w) (hs : 5000 < s.size) : Calls Tryd.prog 8 #[.string s] w fun e w' => e = .returned (.bool true) ∧ Below w.heap.size w w' := by
  have ca := Lib.hid (law_awake w hM)
  clear hM
  · go_enter Tryd.func8, Tryd.ntmps8
    go_wp2_with (go_at_call 10; (with_reducible refine ca.out.mono ?_); rintro e w1 ⟨rfl, h1⟩)
    go_ret
    exact ⟨rfl, h1⟩
set_option maxHeartbeats 4000000 in
set_option maxRecDepth 100000 in
theorem law_Splits_no (s : ByteArray) (w : World) (hM : ML w) (hs : s.size ≤ 5000) (hf : Id.isFull s.data.toList = false) : Calls Tryd.prog 8 #[.string s] w fun e w' => e = .returned (.bool true) ∧ Below w.heap.size w w' := by
  have ca := Lib.hid (fun W (h : Bel w W) => law_awake W (hM.bel h))
  have c1 := fun W (h : Bel w W) => id_IsFull s s.data.toList W rfl (by omega) (hM.bel h)
  rw [hf] at c1
  have C1 := Lib.hid c1
  clear c1 hf hM
  go_enter Tryd.func8, Tryd.ntmps8
  go_wp2_with (first
    | (go_at_call 13; (with_reducible refine (C1.out _ ?_).mono ?_); (repeat (first | (with_reducible assumption) | (with_reducible exact Bel.refl _) | (with_reducible refine Bel.drew ?_) | (with_reducible refine Bel.drewN ?_ _) | (with_reducible refine Bel.alloc ?_ _))); rintro e w1 ⟨rfl, h1⟩; have k1 : Bel w w1 := Bel.of (by (repeat (first | (with_reducible assumption) | (with_reducible exact Bel.refl _) | (with_reducible refine Bel.drew ?_) | (with_reducible refine Bel.drewN ?_ _) | (with_reducible refine Bel.alloc ?_ _)))) h1; clear h1)
    | (go_at_call 10; (with_reducible refine (ca.out _ ?_).mono ?_); (repeat (first | (with_reducible assumption) | (with_reducible exact Bel.refl _) | (with_reducible refine Bel.drew ?_) | (with_reducible refine Bel.drewN ?_ _) | (with_reducible refine Bel.alloc ?_ _))); rintro e w2 ⟨rfl, h2⟩; have k2 : Bel w w2 := Bel.of (by (repeat (first | (with_reducible assumption) | (with_reducible exact Bel.refl _) | (with_reducible refine Bel.drew ?_) | (with_reducible refine Bel.drewN ?_ _) | (with_reducible refine Bel.alloc ?_ _)))) h2; clear h2))
  go_ret
  exact ⟨rfl, Bel.out (by (repeat (first | (with_reducible assumption) | (with_reducible exact Bel.refl _) | (with_reducible refine Bel.drew ?_) | (with_reducible refine Bel.drewN ?_ _) | (with_reducible refine Bel.alloc ?_ _))))⟩
set_option maxHeartbeats 4000000 in
set_option maxRecDepth 100000 in
theorem law_Splits_yes (l : List UInt8) (w : World) (hM : ML w) (hf : Id.isFull l = true) : Calls Tryd.prog 8 #[.string (S l)] w fun e w' => e = .returned (.bool true) ∧ Below w.heap.size w w' := by
  have ca := Lib.hid (fun W (h : Bel w W) => law_awake W (hM.bel h))
  have hl120 : l.length ≤ 120 := by
    unfold Id.isFull at hf
    simp only [Bool.and_eq_true, decide_eq_true_eq] at hf
    exact hf.2
  have hne := Id.isFull_ne hf
  have hsz : (S l).size ≤ 120 := hl120
  have c1 := fun W (h : Bel w W) => id_IsFull (S l) l W rfl (by omega) (hM.bel h)
  rw [hf] at c1
  have C1 := Lib.hid c1
  have C2 := Lib.hid (fun W => id_Up (S l) l W rfl (by omega))
  have C3 := Lib.hid (fun (q : List UInt8) W (h : Bel w W) (h2 : q.length ≤ 120) => id_IsFull (S q) q W rfl (by rw [S_size]; omega) (hM.bel h))
  have HF := Lib.hid hf
  have HN := Lib.hid hne
  clear c1 hM hf hne
  go_enter Tryd.func8, Tryd.ntmps8
  go_wp2_with (first
    | (go_at_call 13; (with_reducible refine (C1.out _ ?_).mono ?_); (repeat (first | (with_reducible assumption) | (with_reducible exact Bel.refl _) | (with_reducible refine Bel.drew ?_) | (with_reducible refine Bel.drewN ?_ _) | (with_reducible refine Bel.alloc ?_ _))); rintro e w1 ⟨rfl, h1⟩; have k1 : Bel w w1 := Bel.of (by (repeat (first | (with_reducible assumption) | (with_reducible exact Bel.refl _) | (with_reducible refine Bel.drew ?_) | (with_reducible refine Bel.drewN ?_ _) | (with_reducible refine Bel.alloc ?_ _)))) h1; clear h1))
  go_loopw [3, 4, 5] (fun c r i wr => ∃ (j : Nat) (cur : List UInt8), c = .int .i64 j ∧ r = .string (S cur) ∧ i = .int .i64 j ∧ cur.length + j ≤ 120 ∧ Hid (cur ≠ [] → Id.isFull cur = true) ∧ Hid ((Id.up l).drop j = Id.up cur) ∧ Hid (cur = [] → 0 < j) ∧ Bel w wr) (fun _ r _ _ => strLen r)
  case atStart => exact ⟨0, l, rfl, rfl, rfl, by omega, Lib.hid (fun _ => HF.out), Lib.hid rfl, Lib.hid (fun h => absurd h HN.out), k1⟩
  case round =>
    obtain ⟨j, cur, rfl, rfl, rfl, hlen, hfull, hup, hpos, kb⟩ := hrel
    have j200 : (j : Int) < 200 := by omega
    by_cases hc : cur = []
    · subst hc
      have hn : (S []).toList = [] := by rw [ByteArray.toList_eq]; rfl
      have hjp := hpos.out rfl
      have hU := hup.out
      have cu := C2.out
      have h0 : (Id.up l)[0]? = some l := by rw [up_rest]; rfl
      have hj : (Id.up l)[j]? = some [] := by
        have : ((Id.up l).drop j)[0]? = some [] := by rw [hU]; rfl
        simpa using this
      have hlU : (Id.up l).length = j + 1 := by
        have h1 := congrArg List.length hU
        rw [List.length_drop] at h1
        have h2 : (Id.up []).length = 1 := rfl
        rw [h2] at h1
        omega
      generalize Id.up l = U at cu h0 hj hlU
      have C5 := Lib.hid cu
      have e2 : ((U.length : Int) == (j : Int) + 1) = true := beq_iff_eq.2 (by omega)
      have i1 : (j : Int) < U.length := by omega
      have i0 : (0 : Int) < U.length := by omega
      have H0 := Lib.hid h0
      have HJ := Lib.hid hj
      have e1 := eq_yes (S l) (S l) rfl
      have jp : (0 : Int) < j := by omega
      clear hU hup hpos hfull cu h0 hj hlU C2
      go_wp2_with (first
        | (go_at_call 22; (with_reducible refine (C5.out _).mono ?_); rintro e w2 ⟨b, o, c, rfl, ⟨hb, hcells⟩, h2⟩; have k2 : Bel w w2 := Bel.of (by (repeat (first | (with_reducible assumption) | (with_reducible exact Bel.refl _) | (with_reducible refine Bel.drew ?_) | (with_reducible refine Bel.drewN ?_ _) | (with_reducible refine Bel.alloc ?_ _)))) h2; have z0 := hcells 0 _ H0.out; rw [Nat.add_zero] at z0; have z1 := hcells j _ HJ.out; clear h2 hcells)
        | (go_at_call 10; (with_reducible refine (ca.out _ ?_).mono ?_); (repeat (first | (with_reducible assumption) | (with_reducible exact Bel.refl _) | (with_reducible refine Bel.drew ?_) | (with_reducible refine Bel.drewN ?_ _) | (with_reducible refine Bel.alloc ?_ _))); rintro e w3 ⟨rfl, h3⟩; have k3 : Bel w w3 := Bel.of (by (repeat (first | (with_reducible assumption) | (with_reducible exact Bel.refl _) | (with_reducible refine Bel.drew ?_) | (with_reducible refine Bel.drewN ?_ _) | (with_reducible refine Bel.alloc ?_ _)))) h3; clear h3))
      go_ret
      exact ⟨rfl, Bel.out (by (repeat (first | (with_reducible assumption) | (with_reducible exact Bel.refl _) | (with_reducible refine Bel.drew ?_) | (with_reducible refine Bel.drewN ?_ _) | (with_reducible refine Bel.alloc ?_ _))))⟩
    · obtain ⟨f1, f2, f3⟩ := Id.full_split (hfull.out hc)
      have hn : (S cur).toList ≠ [] := by rw [ByteArray.toList_eq]; exact hc
      have hn2 : (S cur).toList.isEmpty = false := by rw [ByteArray.toList_eq, S_list]; simpa using hc
      have hlt := Id.splitL_lt cur hc
      have hlt2 : (Id.splitL cur).2.length ≤ 120 := by
        have := (Id.isPart_parts f1)
        obtain ⟨x, r, hx, _, _, hr⟩ := this
        rw [hx]; simp; omega
      have cs := fun W => id_Split (S cur) cur W rfl (by rw [S_size]; omega)
      have cp := fun W (h : Bel w W) => id_IsPart (S (Id.splitL cur).2) (Id.splitL cur).2 W rfl (by rw [S_size]; omega)
      have cj := fun W => id_Join (S (Id.splitL cur).1) (S (Id.splitL cur).2) (Id.splitL cur).1 (Id.splitL cur).2 W rfl rfl (by rw [S_size]; omega) (by rw [S_size]; omega)
      have hup2 : Hid ((Id.up l).drop (j + 1) = Id.up (Id.splitL cur).1) := Lib.hid (by
        have h1 := hup.out
        rw [Id.up_cons cur hc] at h1
        have h2 := congrArg (List.drop 1) h1
        rw [List.drop_drop] at h2
        simpa using h2)
      rw [f1] at cp
      rw [f2] at cj
      have e1 := neq_yes (S cur) (S cur) rfl
      have cf := fun (h0 : (Id.splitL cur).1 ≠ []) W (h : Bel w W) => (f3 h0) ▸ C3.out (Id.splitL cur).1 W h (by omega)
      have hp2 : Hid ((Id.splitL cur).1 = [] → 0 < j + 1) := Lib.hid (fun _ => by omega)
      have f3' := Lib.hid f3
      clear f1 f2 f3 hup hpos hfull C3
      generalize (Id.splitL cur).1 = a at cs cp cj hup2 cf hlt f3' hp2
      generalize (Id.splitL cur).2 = b at cs cp cj hlt2
      have D1 := Lib.hid cs
      have D2 := Lib.hid cp
      have D3 := Lib.hid cj
      clear cs cp cj
      by_cases ha : a = []
      · subst ha
        have hna : (S []).toList = [] := by rw [ByteArray.toList_eq]; rfl
        clear cf hc
        go_wp2_with (first
          | (go_at_call 17; (with_reducible refine (D1.out _).mono ?_); rintro e w' ⟨rfl, q1, rfl⟩)
          | (go_at_call 11; (with_reducible refine (D2.out _ ?_).mono ?_); (repeat (first | (with_reducible assumption) | (with_reducible exact Bel.refl _) | (with_reducible refine Bel.drew ?_) | (with_reducible refine Bel.drewN ?_ _) | (with_reducible refine Bel.alloc ?_ _))); rintro e w4 ⟨rfl, h4⟩; have k4 : Bel w w4 := Bel.of (by (repeat (first | (with_reducible assumption) | (with_reducible exact Bel.refl _) | (with_reducible refine Bel.drew ?_) | (with_reducible refine Bel.drewN ?_ _) | (with_reducible refine Bel.alloc ?_ _)))) h4; clear h4)
          | (go_at_call 19; (with_reducible refine (D3.out _).mono ?_); rintro e w' ⟨rfl, rfl⟩))
        go_roundw
        case rel => exact ⟨j + 1, [], by go_num, rfl, by go_num, by omega, f3', hup2, Lib.hid (fun _ => by omega), by (repeat (first | (with_reducible assumption) | (with_reducible exact Bel.refl _) | (with_reducible refine Bel.drew ?_) | (with_reducible refine Bel.drewN ?_ _) | (with_reducible refine Bel.alloc ?_ _)))⟩
        case measure => simp [strLen, S_size]; omega
      · have hna : (S a).toList ≠ [] := by rw [ByteArray.toList_eq]; exact ha
        have hna2 : (S a).toList.isEmpty = false := by rw [ByteArray.toList_eq, S_list]; simpa using ha
        have D4 := Lib.hid (cf ha)
        clear cf hc ha
        go_wp2_with (first
          | (go_at_call 17; (with_reducible refine (D1.out _).mono ?_); rintro e w' ⟨rfl, q1, rfl⟩)
          | (go_at_call 11; (with_reducible refine (D2.out _ ?_).mono ?_); (repeat (first | (with_reducible assumption) | (with_reducible exact Bel.refl _) | (with_reducible refine Bel.drew ?_) | (with_reducible refine Bel.drewN ?_ _) | (with_reducible refine Bel.alloc ?_ _))); rintro e w4 ⟨rfl, h4⟩; have k4 : Bel w w4 := Bel.of (by (repeat (first | (with_reducible assumption) | (with_reducible exact Bel.refl _) | (with_reducible refine Bel.drew ?_) | (with_reducible refine Bel.drewN ?_ _) | (with_reducible refine Bel.alloc ?_ _)))) h4; clear h4)
          | (go_at_call 19; (with_reducible refine (D3.out _).mono ?_); rintro e w' ⟨rfl, rfl⟩)
          | (go_at_call 13; (with_reducible refine (D4.out _ ?_).mono ?_); (repeat (first | (with_reducible assumption) | (with_reducible exact Bel.refl _) | (with_reducible refine Bel.drew ?_) | (with_reducible refine Bel.drewN ?_ _) | (with_reducible refine Bel.alloc ?_ _))); rintro e w5 ⟨rfl, h5⟩; have k5 : Bel w w5 := Bel.of (by (repeat (first | (with_reducible assumption) | (with_reducible exact Bel.refl _) | (with_reducible refine Bel.drew ?_) | (with_reducible refine Bel.drewN ?_ _) | (with_reducible refine Bel.alloc ?_ _)))) h5; clear h5))
        go_roundw
        case rel => exact ⟨j + 1, a, by go_num, rfl, by go_num, by omega, f3', hup2, Lib.hid (fun _ => by omega), by (repeat (first | (with_reducible assumption) | (with_reducible exact Bel.refl _) | (with_reducible refine Bel.drew ?_) | (with_reducible refine Bel.drewN ?_ _) | (with_reducible refine Bel.alloc ?_ _)))⟩
        case measure => simp [strLen, S_size]; omega
end Go.Proofs.YtefnihgjacnjfaaDoor
