/- The law Resolves of layer 6, walked. -/
import Derived.Test.YtefnihgjacnjfaaDoorIdLaws2
namespace Go.Proofs.YtefnihgjacnjfaaDoor
open Go.RowKit
set_option linter.unusedVariables false
set_option linter.unusedSimpArgs false

set_option maxHeartbeats 4000000 in
set_option maxRecDepth 100000 in
theorem law_Resolves_big (s t : ByteArray) (p : Option Addr) (n c : Nat) (w : World) (hM : ML w) (hs : 300 < s.size ∨ 300 < t.size ∨ 60 < n) : Calls Tryd.prog 7 #[.string s, .string t, .slice p n c] w fun e w' => e = .returned (.bool true) ∧ Below w.heap.size w w' := by
  have ca := Lib.hid (law_awake w hM)
  clear hM
  by_cases h1 : 300 < s.size
  · clear hs
    go_enter Tryd.func7, Tryd.ntmps7
    go_wp2_with (go_at_call 10; (with_reducible refine ca.out.mono ?_); rintro e w1 ⟨rfl, h1⟩)
    go_ret
    exact ⟨rfl, h1⟩
  · have h3 : s.size ≤ 300 := by omega
    by_cases h2 : 300 < t.size
    · clear hs h1
      go_enter Tryd.func7, Tryd.ntmps7
      go_wp2_with (go_at_call 10; (with_reducible refine ca.out.mono ?_); rintro e w1 ⟨rfl, h1⟩)
      go_ret
      exact ⟨rfl, h1⟩
    · have h4 : t.size ≤ 300 := by omega
      have h5 : 60 < n := by omega
      clear hs h1 h2
      go_enter Tryd.func7, Tryd.ntmps7
      go_wp2_with (go_at_call 10; (with_reducible refine ca.out.mono ?_); rintro e w1 ⟨rfl, h1⟩)
      go_ret
      exact ⟨rfl, h1⟩
set_option maxHeartbeats 4000000 in
set_option maxRecDepth 100000 in
theorem law_Resolves_small (s t : ByteArray) (l m : List UInt8) (p : Option Addr) (n c : Nat) (ks : List (List UInt8)) (w : World) (hM : ML w) (hl : s.data.toList = l) (hm : t.data.toList = m) (hs : s.size ≤ 300) (ht : t.size ≤ 300) (hn : n ≤ 60) (hk : Strs w (.slice p n c) ks) : Calls Tryd.prog 7 #[.string s, .string t, .slice p n c] w fun e w' => e = .returned (.bool true) ∧ Below w.heap.size w w' := by
  have ca := Lib.hid (fun W (h : Bel w W) => law_awake W (hM.bel h))
  have hmm : m.length = t.size := by rw [← hm]; exact len_l t
  have c1 := fun W (h : Bel w W) => id_Resolve s t l m _ ks W hl hm (by omega) (by omega) (hk.below h)
  have HM := Lib.hid hm
  by_cases hd : m.head? = some 46
  · obtain ⟨a, rfl⟩ : ∃ a, m = 46 :: a := by
      cases m with
      | nil => simp at hd
      | cons b r => simp at hd; subst hd; exact ⟨r, rfl⟩
    have hp : 0 < t.size := by simp at hmm; omega
    have hp' : (0 : Int) < t.size := by omega
    have hp1 : (1 : Int) ≤ t.size := by omega
    have hp2 : 1 ≤ t.size := by omega
    have hg := get_l t 0 hp
    rw [HM.out] at hg
    have hb : t[0]'hp = 46 := by simpa using hg.symm
    have hb' : ((t[0].toNat : Int) == 46) = true := by rw [hb]; rfl
    have hx : t.extract 1 t.size = S a := by
      apply S_of
      rw [sub_list, HM.out]
      simp
      exact List.take_of_length_le (by simp at hmm; omega)
    have cc := fun W (h : Bel w W) => ref_Has _ ks (t.extract 1 t.size) a W (hk.below h) (by rw [hx]; rfl)
    rw [resolve_dot] at c1
    have e1 := eq_yes (S a) (t.extract 1 t.size) (by rw [hx])
    have e0 := eq_yes (S []) ⟨#[]⟩ rfl
    have C0 : (S []).toList = [] := by rw [ByteArray.toList_eq]; rfl
    clear hd hg hb hx hmm hm hl hk hM
    cases hh : Id.has ks a
    · rw [hh] at cc c1
      rw [if_neg (by decide)] at c1
      have C2 := Lib.hid cc
      have C1 := Lib.hid c1
      unfold resV at C1
      clear cc c1 hh
      go_enter Tryd.func7, Tryd.ntmps7
      go_wp2_with (first
        | (go_at_call 24; (with_reducible refine (C1.out _ ?_).mono ?_); (repeat (first | (with_reducible assumption) | (with_reducible exact Bel.refl _) | (with_reducible refine Bel.drew ?_) | (with_reducible refine Bel.drewN ?_ _) | (with_reducible refine Bel.alloc ?_ _))); rintro e w1 ⟨rfl, h1⟩; have k1 : Bel w w1 := Bel.of (by (repeat (first | (with_reducible assumption) | (with_reducible exact Bel.refl _) | (with_reducible refine Bel.drew ?_) | (with_reducible refine Bel.drewN ?_ _) | (with_reducible refine Bel.alloc ?_ _)))) h1; clear h1)
        | (go_at_call 30; (with_reducible refine (C2.out _ ?_).mono ?_); (repeat (first | (with_reducible assumption) | (with_reducible exact Bel.refl _) | (with_reducible refine Bel.drew ?_) | (with_reducible refine Bel.drewN ?_ _) | (with_reducible refine Bel.alloc ?_ _))); rintro e w' ⟨rfl, rfl⟩)
        | (go_at_call 10; (with_reducible refine (ca.out _ ?_).mono ?_); (repeat (first | (with_reducible assumption) | (with_reducible exact Bel.refl _) | (with_reducible refine Bel.drew ?_) | (with_reducible refine Bel.drewN ?_ _) | (with_reducible refine Bel.alloc ?_ _))); rintro e w2 ⟨rfl, h2⟩; have k2 : Bel w w2 := Bel.of (by (repeat (first | (with_reducible assumption) | (with_reducible exact Bel.refl _) | (with_reducible refine Bel.drew ?_) | (with_reducible refine Bel.drewN ?_ _) | (with_reducible refine Bel.alloc ?_ _)))) h2; clear h2))
      go_ret
      exact ⟨rfl, Bel.out (by (repeat (first | (with_reducible assumption) | (with_reducible exact Bel.refl _) | (with_reducible refine Bel.drew ?_) | (with_reducible refine Bel.drewN ?_ _) | (with_reducible refine Bel.alloc ?_ _))))⟩
    · rw [hh] at cc c1
      rw [if_pos rfl] at c1
      have C2 := Lib.hid cc
      have C1 := Lib.hid c1
      unfold resV at C1
      clear cc c1 hh
      go_enter Tryd.func7, Tryd.ntmps7
      go_wp2_with (first
        | (go_at_call 24; (with_reducible refine (C1.out _ ?_).mono ?_); (repeat (first | (with_reducible assumption) | (with_reducible exact Bel.refl _) | (with_reducible refine Bel.drew ?_) | (with_reducible refine Bel.drewN ?_ _) | (with_reducible refine Bel.alloc ?_ _))); rintro e w1 ⟨rfl, h1⟩; have k1 : Bel w w1 := Bel.of (by (repeat (first | (with_reducible assumption) | (with_reducible exact Bel.refl _) | (with_reducible refine Bel.drew ?_) | (with_reducible refine Bel.drewN ?_ _) | (with_reducible refine Bel.alloc ?_ _)))) h1; clear h1)
        | (go_at_call 30; (with_reducible refine (C2.out _ ?_).mono ?_); (repeat (first | (with_reducible assumption) | (with_reducible exact Bel.refl _) | (with_reducible refine Bel.drew ?_) | (with_reducible refine Bel.drewN ?_ _) | (with_reducible refine Bel.alloc ?_ _))); rintro e w' ⟨rfl, rfl⟩)
        | (go_at_call 10; (with_reducible refine (ca.out _ ?_).mono ?_); (repeat (first | (with_reducible assumption) | (with_reducible exact Bel.refl _) | (with_reducible refine Bel.drew ?_) | (with_reducible refine Bel.drewN ?_ _) | (with_reducible refine Bel.alloc ?_ _))); rintro e w2 ⟨rfl, h2⟩; have k2 : Bel w w2 := Bel.of (by (repeat (first | (with_reducible assumption) | (with_reducible exact Bel.refl _) | (with_reducible refine Bel.drew ?_) | (with_reducible refine Bel.drewN ?_ _) | (with_reducible refine Bel.alloc ?_ _)))) h2; clear h2))
      go_ret
      exact ⟨rfl, Bel.out (by (repeat (first | (with_reducible assumption) | (with_reducible exact Bel.refl _) | (with_reducible refine Bel.drew ?_) | (with_reducible refine Bel.drewN ?_ _) | (with_reducible refine Bel.alloc ?_ _))))⟩
  · have hv := resolve_no l m ks hd
    have cu := fun W => id_Up s l W hl (by omega)
    have hul := up_len l
    have hn2 := up_length l
    have hll : l.length = s.size := by rw [← hl]; exact len_l s
    have hbn : ∀ hp : 0 < t.size, ((t[0].toNat : Int) == 46) = false := fun hp => by
      have hg := get_l t 0 hp
      rw [HM.out] at hg
      refine beq_eq_false_iff_ne.2 fun e => hd ?_
      have : t[0]'hp = 46 := by apply UInt8.toNat_inj.1; show t[0].toNat = 46; omega
      rw [this] at hg
      cases m with
      | nil => simp at hg
      | cons b r => simpa using hg
    generalize Id.up l = U at hv cu hul hn2
    generalize hq : Id.resolve l m ks = q at hv c1
    obtain ⟨X, ok⟩ := q
    have V := Lib.hid hv
    have cu' := Lib.hid cu
    have UL := Lib.hid hul
    have C1 := Lib.hid c1
    have K := Lib.hid hk
    unfold resV at C1
    clear hv cu hl hd hul c1 hk hq hM hm
    have main : ((∃ hp : 0 < t.size, ((t[0].toNat : Int) == 46) = false ∧ (0 : Int) < t.size ∧ t[0].toNat < 256) ∨ (t.size : Int) ≤ 0) → Calls Tryd.prog 7 #[.string s, .string t, .slice p n c] w fun e w' => e = .returned (.bool true) ∧ Below w.heap.size w w' := by
      intro hc
      rcases hc with ⟨hp, hb', q0, q1⟩ | q0
      all_goals
        go_enter Tryd.func7, Tryd.ntmps7
        go_wp2_with (first
          | (go_at_call 24; (with_reducible refine (C1.out _ ?_).mono ?_); (repeat (first | (with_reducible assumption) | (with_reducible exact Bel.refl _) | (with_reducible refine Bel.drew ?_) | (with_reducible refine Bel.drewN ?_ _) | (with_reducible refine Bel.alloc ?_ _))); rintro e w1 ⟨rfl, h1⟩; have k1 : Bel w w1 := Bel.of (by (repeat (first | (with_reducible assumption) | (with_reducible exact Bel.refl _) | (with_reducible refine Bel.drew ?_) | (with_reducible refine Bel.drewN ?_ _) | (with_reducible refine Bel.alloc ?_ _)))) h1; clear h1)
          | (go_at_call 22; (with_reducible refine (cu'.out _).mono ?_); rintro e w2 ⟨ub, uo, uc, rfl, ⟨hub, hcells⟩, h2⟩; have k2 : Bel w w2 := Bel.of (by (repeat (first | (with_reducible assumption) | (with_reducible exact Bel.refl _) | (with_reducible refine Bel.drew ?_) | (with_reducible refine Bel.drewN ?_ _) | (with_reducible refine Bel.alloc ?_ _)))) h2; have hcells' := Lib.hid hcells; clear h2 hcells))
        go_loopw [10] (fun i wr => ∃ k : Nat, k ≤ U.length ∧ i = .int .i64 k ∧ w2 = wr ∧ Hid (resFind (U.drop k) m ks = (X, ok))) (fun i _ => U.length - (intOf i).toNat)
        case atStart => exact ⟨0, by omega, rfl, rfl, Lib.hid V.out.symm⟩
        case round =>
          obtain ⟨k, hk, rfl, rfl, hr⟩ := hrel
          by_cases hlt : k < U.length
          · have hg : U[k]? = some U[k] := List.getElem?_eq_getElem hlt
            have hcell := hcells'.out k _ hg
            have hdr : U.drop k = U[k] :: U.drop (k + 1) := List.drop_eq_getElem_cons hlt
            have hstep := resFind_cons U[k] (U.drop (k + 1)) m ks
            rw [← hdr, hr.out] at hstep
            have hle := UL.out _ (List.getElem_mem hlt)
            clear hg hdr hr
            generalize U[k] = u at hcell hstep hle
            have cj := fun W => id_Join (S u) t u m W rfl HM.out (by rw [S_size]; omega) (by omega)
            have cc := fun W (h : Bel w W) => ref_Has _ ks (S (Id.join u m)) (Id.join u m) W (K.out.below h) rfl
            generalize Id.join u m = j at hstep cj cc
            have cj' := Lib.hid cj
            clear cj
            cases hh : Id.has ks j
            · rw [hh] at cc hstep
              rw [if_neg (by decide)] at hstep
              have cc' := Lib.hid cc
              have hs := Lib.hid hstep
              clear cc hh hstep
              go_wp2_with (first
                | (go_at_call 19; (with_reducible refine (cj'.out _).mono ?_); rintro e w' ⟨rfl, rfl⟩)
                | (go_at_call 30; refine (cc'.out _ k2).mono ?_; rintro e w' ⟨rfl, rfl⟩))
              go_roundw
              case rel => exact ⟨k + 1, by omega, by go_num, trivial, Lib.hid hs.out.symm⟩
              case measure => simp [intOf]; omega
            · rw [hh] at cc hstep
              rw [if_pos rfl] at hstep
              obtain ⟨rfl, rfl⟩ := Prod.mk.inj hstep
              have cc' := Lib.hid cc
              have e1 := eq_yes (S X) (S X) rfl
              clear cc hh hstep
              go_wp2_with (first
                | (go_at_call 19; (with_reducible refine (cj'.out _).mono ?_); rintro e w' ⟨rfl, rfl⟩)
                | (go_at_call 30; refine (cc'.out _ k2).mono ?_; rintro e w' ⟨rfl, rfl⟩)
                | (go_at_call 10; (with_reducible refine (ca.out _ ?_).mono ?_); (repeat (first | (with_reducible assumption) | (with_reducible exact Bel.refl _) | (with_reducible refine Bel.drew ?_) | (with_reducible refine Bel.drewN ?_ _) | (with_reducible refine Bel.alloc ?_ _))); rintro e w3 ⟨rfl, h3⟩; have k3 : Bel w w3 := Bel.of (by (repeat (first | (with_reducible assumption) | (with_reducible exact Bel.refl _) | (with_reducible refine Bel.drew ?_) | (with_reducible refine Bel.drewN ?_ _) | (with_reducible refine Bel.alloc ?_ _)))) h3; clear h3))
              go_ret
              exact ⟨rfl, Bel.out (by (repeat (first | (with_reducible assumption) | (with_reducible exact Bel.refl _) | (with_reducible refine Bel.drew ?_) | (with_reducible refine Bel.drewN ?_ _) | (with_reducible refine Bel.alloc ?_ _))))⟩
          · have hk' : U.drop k = [] := List.drop_eq_nil_of_le (by omega)
            have hfin := hr.out
            rw [hk'] at hfin
            obtain ⟨rfl, rfl⟩ := Prod.mk.inj hfin
            have e0 : (S []).toList = [] := by rw [ByteArray.toList_eq]; rfl
            clear hk' hfin hr
            go_wp2_with (go_at_call 10; (with_reducible refine (ca.out _ ?_).mono ?_); (repeat (first | (with_reducible assumption) | (with_reducible exact Bel.refl _) | (with_reducible refine Bel.drew ?_) | (with_reducible refine Bel.drewN ?_ _) | (with_reducible refine Bel.alloc ?_ _))); rintro e w3 ⟨rfl, h3⟩; have k3 : Bel w w3 := Bel.of (by (repeat (first | (with_reducible assumption) | (with_reducible exact Bel.refl _) | (with_reducible refine Bel.drew ?_) | (with_reducible refine Bel.drewN ?_ _) | (with_reducible refine Bel.alloc ?_ _)))) h3; clear h3)
            go_ret
            exact ⟨rfl, Bel.out (by (repeat (first | (with_reducible assumption) | (with_reducible exact Bel.refl _) | (with_reducible refine Bel.drew ?_) | (with_reducible refine Bel.drewN ?_ _) | (with_reducible refine Bel.alloc ?_ _))))⟩
    by_cases hp : 0 < t.size
    · exact main (.inl ⟨hp, hbn hp, by omega, UInt8.toNat_lt _⟩)
    · exact main (.inr (by omega))
end Go.Proofs.YtefnihgjacnjfaaDoor
