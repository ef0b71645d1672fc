/- The reference's layer 6 walked, part 3: Resolve, SameTexts. -/
import Derived.Test.YtefnihgjacnjfaaDoorIdRef1
import Derived.Test.YtefnihgjacnjfaaDoorIdProg4
namespace Go.Proofs.YtefnihgjacnjfaaDoor
open Go.RowKit
set_option linter.unusedVariables false
set_option linter.unusedSimpArgs false

set_option maxHeartbeats 4000000 in
set_option maxRecDepth 100000 in
theorem ref_Resolve (s t : ByteArray) (l m : List UInt8) (v : Value) (ks : List (List UInt8)) (w : World) (hl : s.data.toList = l) (hm : t.data.toList = m) (h1 : s.size ≤ 10000000) (h2 : t.size ≤ 10000000) (hk : Strs w v ks) :
    Calls Tryd.prog 25 #[.string s, .string t, v] w fun e w' => e = .returned (resV (Id.resolve l m ks)) ∧ Below w.heap.size w w' := by
  have hmm : m.length = t.size := by rw [← hm]; exact len_l t
  have K := Lib.hid hk
  have HM := Lib.hid hm
  clear hk hm
  by_cases hd : m.head? = some 46
  · obtain ⟨a, rfl⟩ : ∃ a, m = 46 :: a := by
      cases m with
      | nil => simp at hd
      | cons b r => simp at hd; subst hd; exact ⟨r, rfl⟩
    have hp : 0 < t.size := by simp at hmm; omega
    have hp' : (0 : Int) < t.size := by omega
    have hp1 : (1 : Int) ≤ t.size := by omega
    have hp2 : 1 ≤ t.size := by omega
    have hg := get_l t 0 hp
    rw [HM.out] at hg
    have hb : t[0]'hp = 46 := by simpa using hg.symm
    have hb' : ((t[0].toNat : Int) == 46) = true := by rw [hb]; rfl
    have hx : t.extract 1 t.size = S a := by
      apply S_of
      rw [sub_list, HM.out]
      simp
      exact List.take_of_length_le (by simp at hmm; omega)
    have cc := fun W (h : Below w.heap.size w W) => ref_Has v ks (t.extract 1 t.size) a W (K.out.below h) (by rw [hx]; rfl)
    rw [resolve_dot]
    have X := Lib.hid hx
    clear hd hg hb hx hmm
    cases hh : Id.has ks a
    · rw [hh] at cc
      have cc' := Lib.hid cc
      clear cc hh
      rw [if_neg (by decide)]
      go_enter Tryd.func25, Tryd.ntmps25
      go_wp2_with (go_at_call 30; refine (cc'.out _ (Below.refl _ _)).mono ?_; rintro e w' ⟨rfl, rfl⟩)
      go_ret2
      exact ⟨rfl, Below.refl _ _⟩
    · rw [hh] at cc
      have cc' := Lib.hid cc
      clear cc hh
      rw [if_pos rfl]
      go_enter Tryd.func25, Tryd.ntmps25
      go_wp2_with (go_at_call 30; refine (cc'.out _ (Below.refl _ _)).mono ?_; rintro e w' ⟨rfl, rfl⟩)
      go_ret2
      exact ⟨by (rw [X.out]); rfl, Below.refl _ _⟩
  · have hv := resolve_no l m ks hd
    have cu := ref_Up s l w hl (by omega)
    have hul := up_len l
    have hn := up_length l
    have hll : l.length = s.size := by rw [← hl]; exact len_l s
    have hbn : ∀ hp : 0 < t.size, ((t[0].toNat : Int) == 46) = false := fun hp => by
      have hg := get_l t 0 hp
      rw [HM.out] at hg
      refine beq_eq_false_iff_ne.2 fun e => hd ?_
      have : t[0]'hp = 46 := by apply UInt8.toNat_inj.1; show t[0].toNat = 46; omega
      rw [this] at hg
      cases m with
      | nil => simp at hg
      | cons b r => simpa using hg
    generalize Id.up l = U at hv cu hul hn
    have V := Lib.hid hv
    have cu' := Lib.hid cu
    have UL := Lib.hid hul
    have BN := Lib.hid hbn
    clear hv cu hl hd hul hbn
    have main : ((∃ hp : 0 < t.size, ((t[0].toNat : Int) == 46) = false ∧ (0 : Int) < t.size ∧ t[0].toNat < 256) ∨ (t.size : Int) ≤ 0) → Calls Tryd.prog 25 #[.string s, .string t, v] w fun e w' => e = .returned (resV (Id.resolve l m ks)) ∧ Below w.heap.size w w' := by
      intro hc
      rcases hc with ⟨hp, hb', q0, q1⟩ | q0
      all_goals
        go_enter Tryd.func25, Tryd.ntmps25
        go_wp2_with (go_at_call 23; (with_reducible refine cu'.out.mono ?_); rintro e w1 ⟨ub, uo, uc, rfl, ⟨hub, hcells⟩, hbU⟩)
        have hcells' := Lib.hid hcells
        have hbU' := Lib.hid hbU
        clear hcells hbU
        go_loopw [9] (fun i wr => ∃ k : Nat, k ≤ U.length ∧ i = .int .i64 k ∧ w1 = wr ∧ Hid (resFind (U.drop k) m ks = Id.resolve l m ks)) (fun i _ => U.length - (intOf i).toNat)
        case atStart => exact ⟨0, by omega, rfl, rfl, Lib.hid V.out.symm⟩
        case round =>
          obtain ⟨k, hk, rfl, rfl, hr⟩ := hrel
          by_cases hlt : k < U.length
          · have hg : U[k]? = some U[k] := List.getElem?_eq_getElem hlt
            have hcell := hcells'.out k _ hg
            have hdr : U.drop k = U[k] :: U.drop (k + 1) := List.drop_eq_getElem_cons hlt
            have hstep := resFind_cons U[k] (U.drop (k + 1)) m ks
            rw [← hdr, hr.out] at hstep
            have hle := UL.out _ (List.getElem_mem hlt)
            clear hg hdr
            generalize U[k] = u at hcell hstep hle
            have cj := fun W => ref_Join (S u) t u m W rfl HM.out (by rw [S_size]; omega) (by omega)
            have cc := fun W (h : Below w.heap.size w W) => ref_Has v ks (S (Id.join u m)) (Id.join u m) W (K.out.below h) rfl
            generalize Id.join u m = j at hstep cj cc
            have cj' := Lib.hid cj
            clear cj
            cases hh : Id.has ks j
            · rw [hh] at cc hstep
              rw [if_neg (by decide)] at hstep
              have cc' := Lib.hid cc
              have hs := Lib.hid hstep
              clear cc hh hstep
              go_wp2_with (first
                | (go_at_call 20; (with_reducible refine (cj'.out _).mono ?_); rintro e w' ⟨rfl, rfl⟩)
                | (go_at_call 30; refine (cc'.out _ hbU'.out).mono ?_; rintro e w' ⟨rfl, rfl⟩))
              go_roundw
              case rel => exact ⟨k + 1, by omega, by go_num, trivial, Lib.hid hs.out.symm⟩
              case measure => simp [intOf]; omega
            · rw [hh] at cc hstep
              rw [if_pos rfl] at hstep
              have cc' := Lib.hid cc
              have hs := Lib.hid hstep
              clear cc hh hstep
              go_wp2_with (first
                | (go_at_call 20; (with_reducible refine (cj'.out _).mono ?_); rintro e w' ⟨rfl, rfl⟩)
                | (go_at_call 30; refine (cc'.out _ hbU'.out).mono ?_; rintro e w' ⟨rfl, rfl⟩))
              go_ret2
              exact ⟨by rw [hs.out]; rfl, hbU'.out⟩
          · have hk' : U.drop k = [] := List.drop_eq_nil_of_le (by omega)
            have hfin := hr.out
            rw [hk'] at hfin
            have F := Lib.hid hfin
            clear hk' hfin
            go_wp2
            go_ret2
            exact ⟨by rw [← F.out]; rfl, hbU'.out⟩
    by_cases hp : 0 < t.size
    · exact main (.inl ⟨hp, BN.out hp, by omega, UInt8.toNat_lt _⟩)
    · exact main (.inr (by omega))
set_option maxHeartbeats 2000000 in
set_option maxRecDepth 100000 in
theorem ref_SameTexts (b1 o1 c1 b2 o2 c2 : Nat) (ks : List (List UInt8)) (w : World) (hn : ks.length ≤ 1000000000) (h1 : ∀ j k, ks[j]? = some k → w.cell? ⟨b1, o1 + j, none⟩ = some (.string (S k))) (h2 : ∀ j k, ks[j]? = some k → w.cell? ⟨b2, o2 + j, none⟩ = some (.string (S k))) :
    Calls Tryd.prog 21 #[.slice (some ⟨b1, o1, none⟩) ks.length c1, .slice (some ⟨b2, o2, none⟩) ks.length c2] w fun e w' => e = .returned (.bool true) ∧ ∃ n, w.drewN n = w' := by
  have H1 := Lib.hid h1
  have H2 := Lib.hid h2
  clear h1 h2
  go_enter Tryd.func21, Tryd.ntmps21
  go_wp2
  go_loopw [5] (fun i wr => ∃ k : Nat, k ≤ ks.length ∧ i = .int .i64 k ∧ ∃ n, w.drewN n = wr) (fun i _ => ks.length - (intOf i).toNat)
  case atStart => exact ⟨0, by omega, rfl, 0, rfl⟩
  case round =>
    obtain ⟨k, hk, rfl, n, rfl⟩ := hrel
    by_cases hlt : k < ks.length
    · have hg : ks[k]? = some ks[k] := List.getElem?_eq_getElem hlt
      have hc1 := H1.out k _ hg
      have hc2 := H2.out k _ hg
      have hb : ((S ks[k]).toList == (S ks[k]).toList) = true := by simp
      have hb2 : (!((S ks[k]).toList == (S ks[k]).toList)) = false := by simp
      clear hg
      generalize S ks[k] = u at hc1 hc2 hb hb2
      have j1 : (0 : Int) ≤ k := by omega
      have j2 : (k : Int) < ks.length := by omega
      go_wp2
      go_quiet (fail)
      go_wp2
      go_roundw
      case rel => exact ⟨k + 1, by omega, by go_num, _, rfl⟩
      case measure => simp [intOf]; omega
    · go_wp2
      go_ret
      exact ⟨rfl, n, rfl⟩
end Go.Proofs.YtefnihgjacnjfaaDoor
