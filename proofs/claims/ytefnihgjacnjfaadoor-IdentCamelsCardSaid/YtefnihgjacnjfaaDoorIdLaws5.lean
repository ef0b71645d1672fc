/- The law Camels of layer 6, walked. -/
import Derived.Test.YtefnihgjacnjfaaDoorIdLaws2
namespace Go.Proofs.YtefnihgjacnjfaaDoor
open Go.RowKit
set_option linter.unusedVariables false
set_option linter.unusedSimpArgs false

set_option maxHeartbeats 4000000 in
set_option maxRecDepth 100000 in
theorem law_Camels_big (s : ByteArray) (w : World) (hM : ML w) (hs : 5000 < s.size) : Calls Tryd.prog 9 #[.string s] w fun e w' => e = .returned (.bool true) ∧ Below w.heap.size w w' := by
  have ca := Lib.hid (law_awake w hM)
  clear hM
  · go_enter Tryd.func9, Tryd.ntmps9
    go_wp2_with (go_at_call 10; (with_reducible refine ca.out.mono ?_); rintro e w1 ⟨rfl, h1⟩)
    go_ret
    exact ⟨rfl, h1⟩
set_option maxHeartbeats 4000000 in
set_option maxRecDepth 100000 in
theorem law_Camels_no (s : ByteArray) (w : World) (hM : ML w) (hs : s.size ≤ 5000) (hf : Id.isPart s.data.toList = false) : Calls Tryd.prog 9 #[.string s] w fun e w' => e = .returned (.bool true) ∧ Below w.heap.size w w' := by
  have ca := Lib.hid (fun W (h : Bel w W) => law_awake W (hM.bel h))
  have c1 := fun W (h : Bel w W) => id_IsPart s s.data.toList W rfl (by omega)
  rw [hf] at c1
  have C1 := Lib.hid c1
  clear c1 hf hM
  go_enter Tryd.func9, Tryd.ntmps9
  go_wp2_with (first
    | (go_at_call 11; (with_reducible refine (C1.out _ ?_).mono ?_); (repeat (first | (with_reducible assumption) | (with_reducible exact Bel.refl _) | (with_reducible refine Bel.drew ?_) | (with_reducible refine Bel.drewN ?_ _) | (with_reducible refine Bel.alloc ?_ _))); rintro e w1 ⟨rfl, h1⟩; have k1 : Bel w w1 := Bel.of (by (repeat (first | (with_reducible assumption) | (with_reducible exact Bel.refl _) | (with_reducible refine Bel.drew ?_) | (with_reducible refine Bel.drewN ?_ _) | (with_reducible refine Bel.alloc ?_ _)))) h1; clear h1)
    | (go_at_call 10; (with_reducible refine (ca.out _ ?_).mono ?_); (repeat (first | (with_reducible assumption) | (with_reducible exact Bel.refl _) | (with_reducible refine Bel.drew ?_) | (with_reducible refine Bel.drewN ?_ _) | (with_reducible refine Bel.alloc ?_ _))); rintro e w2 ⟨rfl, h2⟩; have k2 : Bel w w2 := Bel.of (by (repeat (first | (with_reducible assumption) | (with_reducible exact Bel.refl _) | (with_reducible refine Bel.drew ?_) | (with_reducible refine Bel.drewN ?_ _) | (with_reducible refine Bel.alloc ?_ _)))) h2; clear h2))
  go_ret
  exact ⟨rfl, Bel.out (by (repeat (first | (with_reducible assumption) | (with_reducible exact Bel.refl _) | (with_reducible refine Bel.drew ?_) | (with_reducible refine Bel.drewN ?_ _) | (with_reducible refine Bel.alloc ?_ _))))⟩
theorem plain_cons (b : UInt8) (r : List UInt8) : Id.plainB (b :: r) = (!Id.caB b && (if b = 95 then (match r with | [] => false | c :: _ => Id.smB c) else true) && Id.plainB r) := rfl
theorem get_S (C : List UInt8) (i : Nat) (h : i < (S C).size) : C[i]? = some ((S C)[i]'h) := by
  have := get_l (S C) i h
  exact this
set_option maxHeartbeats 4000000 in
set_option maxRecDepth 100000 in
theorem law_Camels_yes (s : ByteArray) (l : List UInt8) (w : World) (hM : ML w) (hl : s.data.toList = l) (hf : Id.isPart l = true) : Calls Tryd.prog 9 #[.string s] w fun e w' => e = .returned (.bool true) ∧ Below w.heap.size w w' := by
  have ca := Lib.hid (fun W (h : Bel w W) => law_awake W (hM.bel h))
  have hsz : l.length = s.size := by rw [← hl]; exact len_l s
  have hl40 : l.length ≤ 40 := by
    obtain ⟨x, r, hx, _, _, hr⟩ := Id.isPart_parts hf
    rw [hx]; simp; omega
  obtain ⟨p1, ⟨b0, r0, hC, hca⟩, p3⟩ := Id.camel_part hf
  have hback := fun h => Id.snake_back hf h
  have c1 := fun W (h : Bel w W) => id_IsPart s l W hl (by omega)
  have c2 := fun W (h : Bel w W) => id_Camel s l W hl (by omega) (hM.bel h)
  have hcl : (Id.camel l).length ≤ 40 := by
    obtain ⟨x, r, hx, _, _, hr⟩ := Id.isPart_parts p1
    rw [hx]; simp; omega
  have c3 := fun W (h : Bel w W) => id_IsPart (S (Id.camel l)) (Id.camel l) W rfl (by rw [S_size]; omega)
  have c4 := fun W (h : Bel w W) => id_Snake (S (Id.camel l)) (Id.camel l) W rfl (by rw [S_size]; omega)
  rw [hf] at c1
  rw [p1] at c3
  generalize Id.camel l = C at c2 c3 c4 hC p3 hback hcl
  have hC0 : 0 < (S C).size := by rw [S_size, hC]; simp
  have hg0 := get_S C 0 hC0
  have hb0 : b0 = (S C)[0]'hC0 := by
    have h1 : C[0]? = some b0 := by rw [hC]; rfl
    rw [h1] at hg0
    exact Option.some.inj hg0
  have m0 : 65 ≤ ((S C)[0].toNat : Int) ∧ ((S C)[0].toNat : Int) ≤ 90 := by
    rw [← hb0]
    unfold Id.caB at hca
    have := of_decide_eq_true hca
    omega
  obtain ⟨m1, m2⟩ := m0
  have q0 : (0 : Int) < (S C).size := by omega
  have q1 : (S C)[0].toNat < 256 := UInt8.toNat_lt _
  have hno : ∀ (i : Nat) (h : i < (S C).size), (((S C)[i].toNat : Int) == 95) = false := fun i h => beq_eq_false_iff_ne.2 (fun e => p3 (by
    have hg := get_S C i h
    have : (S C)[i]'h = 95 := by apply UInt8.toNat_inj.1; show (S C)[i].toNat = 95; omega
    rw [this] at hg
    exact List.mem_of_getElem? hg))
  have C1 := Lib.hid c1
  have C2 := Lib.hid c2
  have C3 := Lib.hid c3
  have C4 := Lib.hid c4
  have BACK := Lib.hid hback
  have NO := Lib.hid hno
  have HL := Lib.hid hl
  clear c1 c2 c3 c4 hM hf p1 p3 hC hca hback hg0 hb0 hno hl
  generalize hSC : S C = sc at C2 C3 C4 hC0 m1 m2 q0 q1 NO
  have j0 : sc.size ≤ 40 := by rw [← hSC]; exact hcl
  clear hSC
  go_enter Tryd.func9, Tryd.ntmps9
  go_wp2_with (first
    | (go_at_call 11; (with_reducible refine (C1.out _ ?_).mono ?_); (repeat (first | (with_reducible assumption) | (with_reducible exact Bel.refl _) | (with_reducible refine Bel.drew ?_) | (with_reducible refine Bel.drewN ?_ _) | (with_reducible refine Bel.alloc ?_ _))); rintro e w1 ⟨rfl, h1⟩; have k1 : Bel w w1 := Bel.of (by (repeat (first | (with_reducible assumption) | (with_reducible exact Bel.refl _) | (with_reducible refine Bel.drew ?_) | (with_reducible refine Bel.drewN ?_ _) | (with_reducible refine Bel.alloc ?_ _)))) h1; clear h1)
    | (go_at_call 26; (with_reducible refine (C2.out _ ?_).mono ?_); (repeat (first | (with_reducible assumption) | (with_reducible exact Bel.refl _) | (with_reducible refine Bel.drew ?_) | (with_reducible refine Bel.drewN ?_ _) | (with_reducible refine Bel.alloc ?_ _))); rintro e w2 ⟨rfl, h2⟩; have k2 : Bel w w2 := Bel.of (by (repeat (first | (with_reducible assumption) | (with_reducible exact Bel.refl _) | (with_reducible refine Bel.drew ?_) | (with_reducible refine Bel.drewN ?_ _) | (with_reducible refine Bel.alloc ?_ _)))) h2; clear h2)
    | (go_at_call 11; (with_reducible refine (C3.out _ ?_).mono ?_); (repeat (first | (with_reducible assumption) | (with_reducible exact Bel.refl _) | (with_reducible refine Bel.drew ?_) | (with_reducible refine Bel.drewN ?_ _) | (with_reducible refine Bel.alloc ?_ _))); rintro e w3 ⟨rfl, h3⟩; have k3 : Bel w w3 := Bel.of (by (repeat (first | (with_reducible assumption) | (with_reducible exact Bel.refl _) | (with_reducible refine Bel.drew ?_) | (with_reducible refine Bel.drewN ?_ _) | (with_reducible refine Bel.alloc ?_ _)))) h3; clear h3))
  go_loop [4] (fun i => ∃ k : Nat, k ≤ sc.size ∧ i = .int .i64 k) (fun i => sc.size - (intOf i).toNat)
  case atStart => exact ⟨0, by omega, rfl⟩
  case round =>
    obtain ⟨k, hk, rfl⟩ := hrel
    by_cases hlt : k < sc.size
    · have hb := NO.out k hlt
      have r1 : (k : Int) < sc.size := by omega
      have r2 : sc[k].toNat < 256 := UInt8.toNat_lt _
      have r3 : (0 : Int) ≤ k := by omega
      go_wp2
      go_round
      case rel => exact ⟨k + 1, by omega, by go_num⟩
      case measure => simp [intOf]; omega
    · go_wp2
      go_loop [5] (fun i => ∃ k : Nat, k ≤ s.size ∧ i = .int .i64 k ∧ Hid (Id.plainB (l.drop k) = true → Id.plainB l = true)) (fun i => s.size - (intOf i).toNat)
      case atStart => exact ⟨0, by omega, rfl, Lib.hid (fun h => h)⟩
      case round =>
        obtain ⟨k, hk, rfl, hpl⟩ := hrel
        by_cases hlt : k < s.size
        · have hg : l[k]? = some (s[k]'hlt) := by rw [← HL.out]; exact get_l s k hlt
          obtain ⟨hkl, hge⟩ := List.getElem?_eq_some_iff.1 hg
          have hdr : l.drop k = s[k] :: l.drop (k + 1) := by rw [List.drop_eq_getElem_cons hkl, hge]
          have hstep := hpl.out
          rw [hdr, plain_cons] at hstep
          have r1 : (k : Int) < s.size := by omega
          have r2 : s[k].toNat < 256 := UInt8.toNat_lt _
          have r3 : (0 : Int) ≤ k := by omega
          have hcaE : Id.caB (s[k]'hlt) = decide (65 ≤ s[k].toNat ∧ s[k].toNat ≤ 90) := rfl
          have h95E : (s[k]'hlt = 95) ↔ s[k].toNat = 95 := ⟨fun e => by rw [e]; rfl, fun e => by apply UInt8.toNat_inj.1; exact e⟩
          by_cases hcap : 65 ≤ s[k].toNat ∧ s[k].toNat ≤ 90
          · obtain ⟨n1, n2⟩ := hcap
            clear hstep hcaE h95E hdr hge hg hpl
            go_wp2_with (go_at_call 10; (with_reducible refine (ca.out _ ?_).mono ?_); (repeat (first | (with_reducible assumption) | (with_reducible exact Bel.refl _) | (with_reducible refine Bel.drew ?_) | (with_reducible refine Bel.drewN ?_ _) | (with_reducible refine Bel.alloc ?_ _))); rintro e w5 ⟨rfl, h5⟩; have k5 : Bel w w5 := Bel.of (by (repeat (first | (with_reducible assumption) | (with_reducible exact Bel.refl _) | (with_reducible refine Bel.drew ?_) | (with_reducible refine Bel.drewN ?_ _) | (with_reducible refine Bel.alloc ?_ _)))) h5; clear h5)
            go_ret
            exact ⟨rfl, Bel.out (by (repeat (first | (with_reducible assumption) | (with_reducible exact Bel.refl _) | (with_reducible refine Bel.drew ?_) | (with_reducible refine Bel.drewN ?_ _) | (with_reducible refine Bel.alloc ?_ _))))⟩
          · rw [hcaE, decide_eq_false hcap, Bool.not_false, Bool.true_and] at hstep
            by_cases h95 : s[k].toNat = 95
            · rw [if_pos (h95E.2 h95)] at hstep
              have hb' : ((s[k].toNat : Int) == 95) = true := by rw [h95]; rfl
              have n1 : ¬ ((s[k].toNat : Int) ≤ 90) := by omega
              have n2 : 65 ≤ (s[k].toNat : Int) := by omega
              by_cases hend : k + 1 = s.size
              · have he' : ((k : Int) + 1 == s.size) = true := beq_iff_eq.2 (by omega)
                clear hstep hcaE h95E hdr hge hg hpl hend h95 hcap
                go_wp2_with (go_at_call 10; (with_reducible refine (ca.out _ ?_).mono ?_); (repeat (first | (with_reducible assumption) | (with_reducible exact Bel.refl _) | (with_reducible refine Bel.drew ?_) | (with_reducible refine Bel.drewN ?_ _) | (with_reducible refine Bel.alloc ?_ _))); rintro e w5 ⟨rfl, h5⟩; have k5 : Bel w w5 := Bel.of (by (repeat (first | (with_reducible assumption) | (with_reducible exact Bel.refl _) | (with_reducible refine Bel.drew ?_) | (with_reducible refine Bel.drewN ?_ _) | (with_reducible refine Bel.alloc ?_ _)))) h5; clear h5)
                go_ret
                exact ⟨rfl, Bel.out (by (repeat (first | (with_reducible assumption) | (with_reducible exact Bel.refl _) | (with_reducible refine Bel.drew ?_) | (with_reducible refine Bel.drewN ?_ _) | (with_reducible refine Bel.alloc ?_ _))))⟩
              · have he' : ((k : Int) + 1 == s.size) = false := beq_eq_false_iff_ne.2 (by omega)
                have hlt2 : k + 1 < s.size := by omega
                have hg2 : l[k + 1]? = some (s[k + 1]'hlt2) := by rw [← HL.out]; exact get_l s (k + 1) hlt2
                obtain ⟨hkl2, hge2⟩ := List.getElem?_eq_some_iff.1 hg2
                have hdr2 : l.drop (k + 1) = s[k + 1] :: l.drop (k + 2) := by rw [List.drop_eq_getElem_cons hkl2, hge2]
                have r4 : (k : Int) + 1 < s.size := by omega
                have r5 : s[k + 1].toNat < 256 := UInt8.toNat_lt _
                have hsmE : Id.smB (s[k + 1]'hlt2) = decide (97 ≤ s[k + 1].toNat ∧ s[k + 1].toNat ≤ 122) := rfl
                by_cases hsm : 97 ≤ s[k + 1].toNat ∧ s[k + 1].toNat ≤ 122
                · have HS : Hid (Id.plainB (l.drop (k + 1)) = true → Id.plainB l = true) := Lib.hid (fun h => hstep (by rw [hdr2] at h ⊢; simp only [hsmE, decide_eq_true hsm, Bool.true_and]; exact h))
                  obtain ⟨n3, n4⟩ := hsm
                  clear hstep hcaE h95E hdr hge hg hpl hend h95 hcap hg2 hge2 hdr2 hsmE
                  go_wp2
                  go_round
                  case rel => exact ⟨k + 1, by omega, by go_num, HS⟩
                  case measure => simp [intOf]; omega
                · have hor : s[k + 1].toNat < 97 ∨ 122 < s[k + 1].toNat := by omega
                  clear hstep hcaE h95E hdr hge hg hpl hend h95 hcap hg2 hge2 hdr2 hsmE hsm
                  rcases hor with n3 | n3
                  · go_wp2_with (go_at_call 10; (with_reducible refine (ca.out _ ?_).mono ?_); (repeat (first | (with_reducible assumption) | (with_reducible exact Bel.refl _) | (with_reducible refine Bel.drew ?_) | (with_reducible refine Bel.drewN ?_ _) | (with_reducible refine Bel.alloc ?_ _))); rintro e w5 ⟨rfl, h5⟩; have k5 : Bel w w5 := Bel.of (by (repeat (first | (with_reducible assumption) | (with_reducible exact Bel.refl _) | (with_reducible refine Bel.drew ?_) | (with_reducible refine Bel.drewN ?_ _) | (with_reducible refine Bel.alloc ?_ _)))) h5; clear h5)
                    go_ret
                    exact ⟨rfl, Bel.out (by (repeat (first | (with_reducible assumption) | (with_reducible exact Bel.refl _) | (with_reducible refine Bel.drew ?_) | (with_reducible refine Bel.drewN ?_ _) | (with_reducible refine Bel.alloc ?_ _))))⟩
                  · go_wp2_with (go_at_call 10; (with_reducible refine (ca.out _ ?_).mono ?_); (repeat (first | (with_reducible assumption) | (with_reducible exact Bel.refl _) | (with_reducible refine Bel.drew ?_) | (with_reducible refine Bel.drewN ?_ _) | (with_reducible refine Bel.alloc ?_ _))); rintro e w5 ⟨rfl, h5⟩; have k5 : Bel w w5 := Bel.of (by (repeat (first | (with_reducible assumption) | (with_reducible exact Bel.refl _) | (with_reducible refine Bel.drew ?_) | (with_reducible refine Bel.drewN ?_ _) | (with_reducible refine Bel.alloc ?_ _)))) h5; clear h5)
                    go_ret
                    exact ⟨rfl, Bel.out (by (repeat (first | (with_reducible assumption) | (with_reducible exact Bel.refl _) | (with_reducible refine Bel.drew ?_) | (with_reducible refine Bel.drewN ?_ _) | (with_reducible refine Bel.alloc ?_ _))))⟩
            · rw [if_neg (fun e => h95 (h95E.1 e)), Bool.true_and] at hstep
              have hb' : ((s[k].toNat : Int) == 95) = false := beq_eq_false_iff_ne.2 (by omega)
              have HS := Lib.hid hstep
              have hor : s[k].toNat < 65 ∨ 90 < s[k].toNat := by omega
              clear hstep hcaE h95E hdr hge hg hpl h95 hcap
              rcases hor with n3 | n3
              · go_wp2
                go_round
                case rel => exact ⟨k + 1, by omega, by go_num, HS⟩
                case measure => simp [intOf]; omega
              · have n4 : 65 ≤ (s[k].toNat : Int) := by omega
                go_wp2
                go_round
                case rel => exact ⟨k + 1, by omega, by go_num, HS⟩
                case measure => simp [intOf]; omega
        · have hpb := hpl.out (by rw [List.drop_eq_nil_of_le (by omega)]; rfl)
          have hsn := BACK.out hpb
          have c4 := C4.out
          rw [hsn] at c4
          have D4 := Lib.hid c4
          have e1 := eq_yes (S l) s (by rw [S_list, HL.out])
          clear hpb hsn c4 C4 hpl
          go_wp2_with (first
            | (go_at_call 28; (with_reducible refine (D4.out _ ?_).mono ?_); (repeat (first | (with_reducible assumption) | (with_reducible exact Bel.refl _) | (with_reducible refine Bel.drew ?_) | (with_reducible refine Bel.drewN ?_ _) | (with_reducible refine Bel.alloc ?_ _))); rintro e w4 ⟨rfl, h4⟩; have k4 : Bel w w4 := Bel.of (by (repeat (first | (with_reducible assumption) | (with_reducible exact Bel.refl _) | (with_reducible refine Bel.drew ?_) | (with_reducible refine Bel.drewN ?_ _) | (with_reducible refine Bel.alloc ?_ _)))) h4; clear h4)
            | (go_at_call 10; (with_reducible refine (ca.out _ ?_).mono ?_); (repeat (first | (with_reducible assumption) | (with_reducible exact Bel.refl _) | (with_reducible refine Bel.drew ?_) | (with_reducible refine Bel.drewN ?_ _) | (with_reducible refine Bel.alloc ?_ _))); rintro e w5 ⟨rfl, h5⟩; have k5 : Bel w w5 := Bel.of (by (repeat (first | (with_reducible assumption) | (with_reducible exact Bel.refl _) | (with_reducible refine Bel.drew ?_) | (with_reducible refine Bel.drewN ?_ _) | (with_reducible refine Bel.alloc ?_ _)))) h5; clear h5))
          go_ret
          exact ⟨rfl, Bel.out (by (repeat (first | (with_reducible assumption) | (with_reducible exact Bel.refl _) | (with_reducible refine Bel.drew ?_) | (with_reducible refine Bel.drewN ?_ _) | (with_reducible refine Bel.alloc ?_ _))))⟩
end Go.Proofs.YtefnihgjacnjfaaDoor
