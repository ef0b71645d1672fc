/- The reference's layer 6 walked, part 4: Camel, Snake. -/
import Derived.Test.YtefnihgjacnjfaaDoorIdRef2
import Derived.Test.YtefnihgjacnjfaaDoorIdProg6
namespace Go.Proofs.YtefnihgjacnjfaaDoor
open Go.RowKit
set_option linter.unusedVariables false
set_option linter.unusedSimpArgs false

theorem conv_byte_n (W : World) (c : UInt8) (n : Int) (h : n = c.toNat) : (convert 41 9 (.slice (some ⟨W.heap.size, 0, none⟩) 1 1)).run Tryd.prog (W.alloc (.cells #[.int .u8 n] 5)) = .ok (.string (S [c])) (W.alloc (.cells #[.int .u8 n] 5)) := by
  subst h; exact conv_byte W c
theorem up_num (b : UInt8) (h : Id.smB b = true) : ((b.toNat : Int) - 97 + 65) = ((Id.upB b).toNat : Int) := by
  have := Id.u8_all (fun b => !Id.smB b || decide (((b.toNat : Int) - 97 + 65) = ((Id.upB b).toNat : Int))) (by decide +kernel) b
  simp only [Bool.or_eq_true, Bool.not_eq_true', decide_eq_true_eq] at this
  rcases this with e | e
  · rw [h] at e; cases e
  · exact e
theorem lo_num (b : UInt8) (h : Id.caB b = true) : ((b.toNat : Int) - 65 + 97) = ((Id.loB b).toNat : Int) := by
  have := Id.u8_all (fun b => !Id.caB b || decide (((b.toNat : Int) - 65 + 97) = ((Id.loB b).toNat : Int))) (by decide +kernel) b
  simp only [Bool.or_eq_true, Bool.not_eq_true', decide_eq_true_eq] at this
  rcases this with e | e
  · rw [h] at e; cases e
  · exact e
/-- does a word begin at place k? -/
def stAt (l : List UInt8) (k : Nat) : Bool := decide (k = 0) || decide (l[k - 1]? = some 95)
theorem camelG_cons (st : Bool) (b : UInt8) (r : List UInt8) : Id.camelG st (b :: r) = if b = 95 then Id.camelG true r else (if st = true then Id.upB b else b) :: Id.camelG false r := rfl
theorem snakeG_cons (f : Bool) (b : UInt8) (r : List UInt8) : Id.snakeG f (b :: r) = (if Id.caB b = true then (if f = true then [Id.loB b] else [95, Id.loB b]) else [b]) ++ Id.snakeG false r := rfl
theorem snakeG_len : ∀ (l : List UInt8) (f : Bool), (Id.snakeG f l).length ≤ 2 * l.length
  | [], _ => by simp [Id.snakeG]
  | b :: r, f => by
    have := snakeG_len r false
    rw [snakeG_cons]
    cases Id.caB b <;> cases f <;> simp <;> omega
theorem below_alloc2 {B : Nat} {w wr : World} (hb : Below B w wr) (hB : B ≤ w.heap.size) (o : Obj) : Below B w (wr.alloc o) := hb.alloc (by have := hb.size; omega) o
set_option maxHeartbeats 4000000 in
set_option maxRecDepth 100000 in
theorem ref_Camel (s : ByteArray) (l : List UInt8) (w : World) (hl : s.data.toList = l) (hs : s.size ≤ 100000000) :
    Calls Tryd.prog 27 #[.string s] w fun e w' => e = .returned (.string (S (Id.camel l))) ∧ Below w.heap.size w w' := by
  have cp := fun W => ref_IsPart s l W hl (by omega)
  have hsz : l.length = s.size := by rw [← hl]; exact len_l s
  cases hp : Id.isPart l
  · have hv : Id.camel l = [] := by unfold Id.camel; rw [if_neg (by rw [hp]; decide)]
    rw [hp] at cp
    have cp' := Lib.hid cp
    have V := Lib.hid hv
    clear cp hp hv hl
    go_enter Tryd.func27, Tryd.ntmps27
    go_wp2_with (go_at_call 12; (with_reducible refine (cp'.out _).mono ?_); rintro e w' ⟨rfl, rfl⟩)
    go_ret
    exact ⟨ret_str (by rw [V.out]; rfl), Below.refl _ _⟩
  · have hv : Id.camel l = Id.camelG true l := by unfold Id.camel; rw [if_pos hp]
    obtain ⟨b0, r0, hlr, _, _, hlen⟩ := Id.isPart_parts hp
    have hl40 : l.length ≤ 40 := by rw [hlr]; simp; omega
    have hcl := camelG_len l true
    rw [hp] at cp
    rw [hv]
    have cp' := Lib.hid cp
    have HL := Lib.hid hl
    have cs := Lib.hid (fun (b : UInt8) W => ref_small b W)
    clear cp hp hv hlr hl
    go_enter Tryd.func27, Tryd.ntmps27
    go_wp2_with (go_at_call 12; (with_reducible refine (cp'.out _).mono ?_); rintro e w' ⟨rfl, rfl⟩)
    go_loopw [3, 4] (fun t i wr => ∃ (k : Nat) (acc : List UInt8), k ≤ s.size ∧ t = .string (S acc) ∧ i = .int .i64 k ∧ Below w.heap.size w wr ∧ Hid (acc ++ Id.camelG (stAt l k) (l.drop k) = Id.camelG true l)) (fun _ i _ => s.size - (intOf i).toNat)
    case atStart => exact ⟨0, [], by omega, rfl, rfl, Below.refl _ _, Lib.hid rfl⟩
    case round =>
      obtain ⟨k, acc, hk, rfl, rfl, hb, hacc⟩ := hrel
      have hal : acc.length ≤ 40 := by
        have := congrArg List.length hacc.out
        simp only [List.length_append] at this
        omega
      by_cases hlt : k < s.size
      · have hg : l[k]? = some (s[k]'hlt) := by rw [← HL.out]; exact get_l s k hlt
        obtain ⟨hkl, hge⟩ := List.getElem?_eq_some_iff.1 hg
        have hdr : l.drop k = s[k] :: l.drop (k + 1) := by rw [List.drop_eq_getElem_cons hkl, hge]
        have hst : stAt l (k + 1) = decide (s[k]'hlt = 95) := by unfold stAt; simp [hg]
        have hstep := hacc.out
        rw [hdr, camelG_cons] at hstep
        have r1 : (k : Int) < s.size := by omega
        have r2 : s[k].toNat < 256 := UInt8.toNat_lt _
        have r3 : (0 : Int) ≤ k := by omega
        have hx : s.extract k (k + 1) = S [s[k]'hlt] := by
          apply S_of
          rw [sub_list, HL.out, hdr]
          simp
        by_cases h95 : s[k]'hlt = 95
        · rw [if_pos h95] at hstep
          rw [decide_eq_true h95] at hst
          have hstep2 : acc ++ Id.camelG (stAt l (k + 1)) (l.drop (k + 1)) = Id.camelG true l := by rw [hst]; exact hstep
          have HS := Lib.hid hstep2
          clear hstep2
          have hb' : ((s[k].toNat : Int) == 95) = true := by rw [h95]; rfl
          clear hacc hstep hst h95 hdr hge hg hx
          go_wp2
          go_roundw
          case rel => exact ⟨k + 1, acc, by omega, rfl, by go_num, hb, HS⟩
          case measure => simp [intOf]; omega
        · rw [if_neg h95] at hstep
          rw [decide_eq_false h95] at hst
          rw [← hst] at hstep
          have hb' : ((s[k].toNat : Int) == 95) = false := beq_eq_false_iff_ne.2 (fun e => h95 (by apply UInt8.toNat_inj.1; show s[k].toNat = 95; omega))
          have c1 := fun W => cs.out (s[k]'hlt) W
          have X := Lib.hid hx
          have j1 : (k : Int) + 1 ≤ s.size := by omega
          have j2 : k + 1 ≤ s.size := by omega
          have j3 : (S acc).size ≤ 40 := hal
          cases hsm : Id.smB (s[k]'hlt)
          · have hup : (if stAt l k = true then Id.upB (s[k]'hlt) else s[k]'hlt) = s[k]'hlt := by
              unfold Id.upB
              rw [hsm]
              simp
            rw [hup] at hstep
            rw [hsm] at c1
            have C1 := Lib.hid c1
            have HS : Hid ((acc ++ [s[k]'hlt]) ++ Id.camelG (stAt l (k + 1)) (l.drop (k + 1)) = Id.camelG true l) := Lib.hid (by rw [← hstep]; simp)
            clear hacc hstep hst h95 hdr hge hg hx c1 hsm hup
            go_wp2_with (go_at_call 32; (with_reducible refine (C1.out _).mono ?_); rintro e w' ⟨rfl, rfl⟩)
            go_roundw
            case rel => exact ⟨k + 1, acc ++ [s[k]'hlt], by omega, by rw [X.out, S_cat], by go_num, hb, HS⟩
            case measure => simp [intOf]; omega
          · rw [hsm] at c1
            have C1 := Lib.hid c1
            have hnum := up_num _ hsm
            have hsm2 : 97 ≤ (s[k].toNat : Int) ∧ (s[k].toNat : Int) ≤ 122 := by
              unfold Id.smB at hsm
              have := of_decide_eq_true hsm
              omega
            obtain ⟨m1, m2⟩ := hsm2
            by_cases h0 : k = 0
            · subst h0
              have hs0 : stAt l 0 = true := rfl
              rw [hs0, if_pos rfl] at hstep
              have HS : Hid ((acc ++ [Id.upB (s[0]'hlt)]) ++ Id.camelG (stAt l 1) (l.drop 1) = Id.camelG true l) := Lib.hid (by rw [← hstep]; simp)
              have hcv := conv_byte_n wr (Id.upB (s[0]'hlt)) _ hnum
              have hk0 : (((0 : Nat) : Int) == 0) = true := rfl
              clear hacc hstep hst h95 hdr hge hg hx c1 hsm hs0 hnum
              generalize Id.upB (s[0]'hlt) = u at HS hcv
              have j4 : (S [u]).size ≤ 1 := Nat.le_refl _
              go_wp2_with (go_at_call 32; (with_reducible refine (C1.out _).mono ?_); rintro e w' ⟨rfl, rfl⟩)
              go_roundw
              case rel => exact ⟨1, acc ++ [u], by omega, by rw [S_cat], rfl, below_alloc2 hb (Nat.le_refl _) _, HS⟩
              case measure => simp [intOf]; omega
            · have hp0 : k - 1 < s.size := by omega
              have hgp : l[k - 1]? = some (s[k - 1]'hp0) := by rw [← HL.out]; exact get_l s (k - 1) hp0
              have hs0 : stAt l k = decide (s[k - 1]'hp0 = 95) := by unfold stAt; rw [hgp]; simp [h0]
              have hk0 : ((k : Int) == 0) = false := beq_eq_false_iff_ne.2 (by omega)
              have hki : (k : Int) - 1 = ((k - 1 : Nat) : Int) := by omega
              have r4 : ((k - 1 : Nat) : Int) < s.size := by omega
              have r5 : s[k - 1].toNat < 256 := UInt8.toNat_lt _
              have r6 : (1 : Int) ≤ k := by omega
              have r7 : ((k : Int) - 1).toNat = k - 1 := by omega
              by_cases hq : s[k - 1]'hp0 = 95
              · rw [hs0, decide_eq_true hq, if_pos rfl] at hstep
                have HS : Hid ((acc ++ [Id.upB (s[k]'hlt)]) ++ Id.camelG (stAt l (k + 1)) (l.drop (k + 1)) = Id.camelG true l) := Lib.hid (by rw [← hstep]; simp)
                have hcv := conv_byte_n wr (Id.upB (s[k]'hlt)) _ hnum
                have hq' : ((s[k - 1].toNat : Int) == 95) = true := by rw [hq]; rfl
                clear hacc hstep hst h95 hdr hge hg hx c1 hsm hs0 hnum hgp hq hki
                generalize Id.upB (s[k]'hlt) = u at HS hcv
                have j4 : (S [u]).size ≤ 1 := Nat.le_refl _
                go_wp2_with (go_at_call 32; (with_reducible refine (C1.out _).mono ?_); rintro e w' ⟨rfl, rfl⟩)
                go_roundw
                case rel => exact ⟨k + 1, acc ++ [u], by omega, by rw [S_cat], by go_num, below_alloc2 hb (Nat.le_refl _) _, HS⟩
                case measure => simp [intOf]; omega
              · rw [hs0, decide_eq_false hq, if_neg (by decide)] at hstep
                have HS : Hid ((acc ++ [s[k]'hlt]) ++ Id.camelG (stAt l (k + 1)) (l.drop (k + 1)) = Id.camelG true l) := Lib.hid (by rw [← hstep]; simp)
                have hq' : ((s[k - 1].toNat : Int) == 95) = false := beq_eq_false_iff_ne.2 (fun e => hq (by apply UInt8.toNat_inj.1; show s[k - 1].toNat = 95; omega))
                clear hacc hstep hst h95 hdr hge hg hx c1 hsm hs0 hnum hgp hq hki
                go_wp2_with (go_at_call 32; (with_reducible refine (C1.out _).mono ?_); rintro e w' ⟨rfl, rfl⟩)
                go_roundw
                case rel => exact ⟨k + 1, acc ++ [s[k]'hlt], by omega, by rw [X.out, S_cat], by go_num, hb, HS⟩
                case measure => simp [intOf]; omega
      · have hv := hacc.out
        rw [List.drop_eq_nil_of_le (by omega)] at hv
        have V : Hid (acc = Id.camelG true l) := Lib.hid (by rw [← hv]; simp [Id.camelG])
        clear hv hacc
        go_wp2
        go_ret
        exact ⟨ret_str (by rw [V.out]), hb⟩
set_option maxHeartbeats 4000000 in
set_option maxRecDepth 100000 in
theorem ref_Snake (s : ByteArray) (l : List UInt8) (w : World) (hl : s.data.toList = l) (hs : s.size ≤ 100000000) :
    Calls Tryd.prog 29 #[.string s] w fun e w' => e = .returned (.string (S (Id.snake l))) ∧ Below w.heap.size w w' := by
  have cp := fun W => ref_IsPart s l W hl (by omega)
  have hsz : l.length = s.size := by rw [← hl]; exact len_l s
  cases hp : Id.isPart l
  · have hv : Id.snake l = [] := by unfold Id.snake; rw [if_neg (by rw [hp]; decide)]
    rw [hp] at cp
    have cp' := Lib.hid cp
    have V := Lib.hid hv
    clear cp hp hv hl
    go_enter Tryd.func29, Tryd.ntmps29
    go_wp2_with (go_at_call 12; (with_reducible refine (cp'.out _).mono ?_); rintro e w' ⟨rfl, rfl⟩)
    go_ret
    exact ⟨ret_str (by rw [V.out]; rfl), Below.refl _ _⟩
  · have hv : Id.snake l = Id.snakeG true l := by unfold Id.snake; rw [if_pos hp]
    obtain ⟨b0, r0, hlr, _, _, hlen⟩ := Id.isPart_parts hp
    have hl40 : l.length ≤ 40 := by rw [hlr]; simp; omega
    have hcl := snakeG_len l true
    rw [hp] at cp
    rw [hv]
    have cp' := Lib.hid cp
    have HL := Lib.hid hl
    have cs := Lib.hid (fun (b : UInt8) W => ref_capital b W)
    clear cp hp hv hlr hl
    go_enter Tryd.func29, Tryd.ntmps29
    go_wp2_with (go_at_call 12; (with_reducible refine (cp'.out _).mono ?_); rintro e w' ⟨rfl, rfl⟩)
    go_loopw [3, 4] (fun t i wr => ∃ (k : Nat) (acc : List UInt8), k ≤ s.size ∧ t = .string (S acc) ∧ i = .int .i64 k ∧ Below w.heap.size w wr ∧ Hid (acc ++ Id.snakeG (decide (k = 0)) (l.drop k) = Id.snakeG true l)) (fun _ i _ => s.size - (intOf i).toNat)
    case atStart => exact ⟨0, [], by omega, rfl, rfl, Below.refl _ _, Lib.hid rfl⟩
    case round =>
      obtain ⟨k, acc, hk, rfl, rfl, hb, hacc⟩ := hrel
      have hal : acc.length ≤ 80 := by
        have := congrArg List.length hacc.out
        simp only [List.length_append] at this
        omega
      by_cases hlt : k < s.size
      · have hg : l[k]? = some (s[k]'hlt) := by rw [← HL.out]; exact get_l s k hlt
        obtain ⟨hkl, hge⟩ := List.getElem?_eq_some_iff.1 hg
        have hdr : l.drop k = s[k] :: l.drop (k + 1) := by rw [List.drop_eq_getElem_cons hkl, hge]
        have hstep := hacc.out
        rw [hdr, snakeG_cons] at hstep
        have r1 : (k : Int) < s.size := by omega
        have r2 : s[k].toNat < 256 := UInt8.toNat_lt _
        have r3 : (0 : Int) ≤ k := by omega
        have j3 : (S acc).size ≤ 80 := hal
        have c1 := fun W => cs.out (s[k]'hlt) W
        have hd1 : decide (k + 1 = 0) = false := by simp
        cases hca : Id.caB (s[k]'hlt)
        · have hx : s.extract k (k + 1) = S [s[k]'hlt] := by
            apply S_of
            rw [sub_list, HL.out, hdr]
            simp
          rw [hca, if_neg (by decide)] at hstep
          rw [hca] at c1
          have C1 := Lib.hid c1
          have X := Lib.hid hx
          have HS : Hid ((acc ++ [s[k]'hlt]) ++ Id.snakeG (decide (k + 1 = 0)) (l.drop (k + 1)) = Id.snakeG true l) := Lib.hid (by rw [← hstep, hd1]; simp)
          have j1 : (k : Int) + 1 ≤ s.size := by omega
          have j2 : k + 1 ≤ s.size := by omega
          clear hacc hstep hdr hge hg hx c1 hca hd1
          go_wp2_with (go_at_call 33; (with_reducible refine (C1.out _).mono ?_); rintro e w' ⟨rfl, rfl⟩)
          go_roundw
          case rel => exact ⟨k + 1, acc ++ [s[k]'hlt], by omega, by rw [X.out, S_cat], by go_num, hb, HS⟩
          case measure => simp [intOf]; omega
        · rw [hca, if_pos rfl] at hstep
          rw [hca] at c1
          have C1 := Lib.hid c1
          have hnum := lo_num _ hca
          have hca2 : 65 ≤ (s[k].toNat : Int) ∧ (s[k].toNat : Int) ≤ 90 := by
            unfold Id.caB at hca
            have := of_decide_eq_true hca
            omega
          obtain ⟨m1, m2⟩ := hca2
          have hcv := conv_byte_n wr (Id.loB (s[k]'hlt)) _ hnum
          by_cases h0 : k = 0
          · subst h0
            rw [decide_eq_true rfl, if_pos rfl] at hstep
            have HS : Hid ((acc ++ [Id.loB (s[0]'hlt)]) ++ Id.snakeG (decide (0 + 1 = 0)) (l.drop 1) = Id.snakeG true l) := Lib.hid (by rw [← hstep]; simp)
            clear hacc hstep hdr hge hg c1 hca hd1 hnum
            generalize Id.loB (s[0]'hlt) = u at HS hcv
            have j4 : (S [u]).size ≤ 1 := Nat.le_refl _
            go_wp2_with (go_at_call 33; (with_reducible refine (C1.out _).mono ?_); rintro e w' ⟨rfl, rfl⟩)
            go_roundw
            case rel => exact ⟨1, acc ++ [u], by omega, by rw [S_cat], rfl, below_alloc2 hb (Nat.le_refl _) _, HS⟩
            case measure => simp [intOf]; omega
          · rw [decide_eq_false h0, if_neg (by decide)] at hstep
            have HS : Hid ((acc ++ [95] ++ [Id.loB (s[k]'hlt)]) ++ Id.snakeG (decide (k + 1 = 0)) (l.drop (k + 1)) = Id.snakeG true l) := Lib.hid (by rw [← hstep, hd1]; simp)
            have hk1 : (0 : Int) < k := by omega
            clear hacc hstep hdr hge hg c1 hca hd1 hnum
            generalize Id.loB (s[k]'hlt) = u at HS hcv
            have j4 : (S [u]).size ≤ 1 := Nat.le_refl _
            go_wp2_with (go_at_call 33; (with_reducible refine (C1.out _).mono ?_); rintro e w' ⟨rfl, rfl⟩)
            go_roundw
            case rel => exact ⟨k + 1, acc ++ [95] ++ [u], by omega, by rw [← S_cat, ← S_cat]; rfl, by go_num, below_alloc2 hb (Nat.le_refl _) _, HS⟩
            case measure => simp [intOf]; omega
      · have hv := hacc.out
        rw [List.drop_eq_nil_of_le (by omega)] at hv
        have V : Hid (acc = Id.snakeG true l) := Lib.hid (by rw [← hv]; simp [Id.snakeG])
        clear hv hacc
        go_wp2
        go_ret
        exact ⟨ret_str (by rw [V.out]), hb⟩
end Go.Proofs.YtefnihgjacnjfaaDoor
