/- The program's layer 6 walked, part 4: Resolve. -/
import Derived.Test.YtefnihgjacnjfaaDoorIdProg3
namespace Go.Proofs.YtefnihgjacnjfaaDoor
open Go.RowKit
set_option linter.unusedVariables false
set_option linter.unusedSimpArgs false

theorem prefix_dot (a : List UInt8) : Lib.hasPrefix (46 :: a) [46] = true ∧ Lib.trimPrefix (46 :: a) [46] = a := by
  constructor <;> simp [Lib.hasPrefix, Lib.trimPrefix]
theorem prefix_no (l : List UInt8) (h : l.head? ≠ some 46) : Lib.hasPrefix l [46] = false ∧ Lib.trimPrefix l [46] = l := by
  cases l with
  | nil => constructor <;> simp [Lib.hasPrefix, Lib.trimPrefix]
  | cons b r =>
    have hb : ¬ (46 : UInt8) = b := fun e => h (by simp [← e])
    constructor <;> simp [Lib.hasPrefix, Lib.trimPrefix, List.isPrefixOf, hb]
theorem resolve_dot (scope a : List UInt8) (ks : List (List UInt8)) : Id.resolve scope (46 :: a) ks = if Id.has ks a = true then (a, true) else ([], false) := rfl
def resFind (ups : List (List UInt8)) (name : List UInt8) (ks : List (List UInt8)) : List UInt8 × Bool :=
  match ups.find? (fun s => Id.has ks (Id.join s name)) with
    | some s => (Id.join s name, true)
    | none => ([], false)
theorem resolve_no (scope l : List UInt8) (ks : List (List UInt8)) (h : l.head? ≠ some 46) : Id.resolve scope l ks = resFind (Id.up scope) l ks := by
  unfold Id.resolve resFind
  split
  · rename_i a
    exact absurd rfl h
  · rfl
theorem resFind_cons (s : List UInt8) (ups : List (List UInt8)) (name : List UInt8) (ks : List (List UInt8)) : resFind (s :: ups) name ks = if Id.has ks (Id.join s name) = true then (Id.join s name, true) else resFind ups name ks := by
  unfold resFind
  rw [List.find?_cons]
  cases h : Id.has ks (Id.join s name) <;> simp [h]
def resV (q : List UInt8 × Bool) : Value := .tuple #[.string (S q.1), .bool q.2]
theorem up_len (l : List UInt8) : ∀ k, k ∈ Id.up l → k.length ≤ l.length := by
  have : ∀ (n : Nat) (l : List UInt8), ∀ k, k ∈ Id.upF n l → k.length ≤ l.length := by
    intro n
    induction n with
    | zero => intro l k h; simp [Id.upF] at h; subst h; exact Nat.le_refl _
    | succ n ih =>
      intro l k h
      unfold Id.upF at h
      split at h
      · simp at h; subst h; exact Nat.le_refl _
      · rcases List.mem_cons.1 h with rfl | h
        · exact Nat.le_refl _
        · exact Nat.le_trans (ih _ k h) (splitL_le l)
  exact this _ l
theorem join_len (a b : List UInt8) : (Id.join a b).length ≤ a.length + 1 + b.length := by
  unfold Id.join
  split
  · omega
  · simp; omega
set_option maxHeartbeats 4000000 in
set_option maxRecDepth 100000 in
theorem id_Resolve (s t : ByteArray) (l m : List UInt8) (v : Value) (ks : List (List UInt8)) (w : World) (hl : s.data.toList = l) (hm : t.data.toList = m) (h1 : s.size ≤ 10000000) (h2 : t.size ≤ 10000000) (hk : Strs w v ks) :
    Calls Tryd.prog 24 #[.string s, .string t, v] w fun e w' => e = .returned (resV (Id.resolve l m ks)) ∧ Below w.heap.size w w' := by
  have cp : ∀ W, Calls Tryd.prog 36 #[.string t, .string ⟨#[46]⟩] W fun e w' => e = .returned (.tuple #[.string (S (Lib.trimPrefix t.data.toList (⟨#[46]⟩ : ByteArray).data.toList)), .bool (Lib.hasPrefix t.data.toList (⟨#[46]⟩ : ByteArray).data.toList)]) ∧ W = w' := fun W => (Tryd.strings_CutPrefix t ⟨#[46]⟩ W).mono fun _ _ h => ⟨h.1, h.2.symm⟩
  have hp0 : (⟨#[46]⟩ : ByteArray).data.toList = [46] := rfl
  rw [hp0, hm] at cp
  have K := Lib.hid hk
  clear hk
  by_cases hd : m.head? = some 46
  · obtain ⟨a, rfl⟩ : ∃ a, m = 46 :: a := by
      cases m with
      | nil => simp at hd
      | cons b r => simp at hd; subst hd; exact ⟨r, rfl⟩
    rw [(prefix_dot a).1, (prefix_dot a).2] at cp
    have cc := fun W (h : Below w.heap.size w W) => id_contains v ks (S a) a W (K.out.below h) rfl
    rw [resolve_dot]
    have cp' := Lib.hid cp
    clear cp hd hm
    cases hh : Id.has ks a
    · rw [hh] at cc
      have cc' := Lib.hid cc
      clear cc hh
      rw [if_neg (by decide)]
      go_enter Tryd.func24, Tryd.ntmps24
      go_wp2_with (first
        | (go_at_call 36; (with_reducible refine (cp'.out _).mono ?_); rintro e w' ⟨rfl, rfl⟩)
        | (go_at_call 37; refine (cc'.out _ (Below.refl _ _)).mono ?_; rintro e w' ⟨rfl, rfl⟩))
      go_ret2
      exact ⟨rfl, Below.refl _ _⟩
    · rw [hh] at cc
      have cc' := Lib.hid cc
      clear cc hh
      rw [if_pos rfl]
      go_enter Tryd.func24, Tryd.ntmps24
      go_wp2_with (first
        | (go_at_call 36; (with_reducible refine (cp'.out _).mono ?_); rintro e w' ⟨rfl, rfl⟩)
        | (go_at_call 37; refine (cc'.out _ (Below.refl _ _)).mono ?_; rintro e w' ⟨rfl, rfl⟩))
      go_ret2
      exact ⟨rfl, Below.refl _ _⟩
  · rw [(prefix_no m hd).1, (prefix_no m hd).2] at cp
    have hv := resolve_no l m ks hd
    have cu := id_Up s l w hl (by omega)
    have hul := up_len l
    have hn := up_length l
    have hll : l.length = s.size := by rw [← hl]; exact len_l s
    have hmm : m.length = t.size := by rw [← hm]; exact len_l t
    generalize Id.up l = U at hv cu hul hn
    have V := Lib.hid hv
    have cp' := Lib.hid cp
    have cu' := Lib.hid cu
    have UL := Lib.hid hul
    have HM := Lib.hid hm
    clear cp hv cu hl hd hul hm
    go_enter Tryd.func24, Tryd.ntmps24
    go_wp2_with (first
      | (go_at_call 36; (with_reducible refine (cp'.out _).mono ?_); rintro e w' ⟨rfl, rfl⟩)
      | (go_at_call 22; (with_reducible refine cu'.out.mono ?_); rintro e w1 ⟨ub, uo, uc, rfl, ⟨hub, hcells⟩, hbU⟩))
    have hcells' := Lib.hid hcells
    have hbU' := Lib.hid hbU
    clear hcells hbU
    go_loopw [26] (fun i wr => ∃ k : Nat, k ≤ U.length ∧ i = .int .i64 k ∧ w1 = wr ∧ Hid (resFind (U.drop k) m ks = Id.resolve l m ks)) (fun i _ => U.length - (intOf i).toNat)
    case atStart => exact ⟨0, by omega, rfl, rfl, Lib.hid V.out.symm⟩
    case round =>
      obtain ⟨k, hk, rfl, rfl, hr⟩ := hrel
      by_cases hlt : k < U.length
      · have hg : U[k]? = some U[k] := List.getElem?_eq_getElem hlt
        have hcell := hcells'.out k _ hg
        have hdr : U.drop k = U[k] :: U.drop (k + 1) := List.drop_eq_getElem_cons hlt
        have hstep := resFind_cons U[k] (U.drop (k + 1)) m ks
        rw [← hdr, hr.out] at hstep
        have hle := UL.out _ (List.getElem_mem hlt)
        clear hg hdr
        generalize U[k] = u at hcell hstep hle
        have cj := fun W => id_Join (S u) t u m W rfl HM.out (by rw [S_size]; omega) (by omega)
        have cc := fun W (h : Below w.heap.size w W) => id_contains v ks (S (Id.join u m)) (Id.join u m) W (K.out.below h) rfl
        generalize Id.join u m = j at hstep cj cc
        have cj' := Lib.hid cj
        clear cj
        cases hh : Id.has ks j
        · rw [hh] at cc hstep
          rw [if_neg (by decide)] at hstep
          have cc' := Lib.hid cc
          have hs := Lib.hid hstep
          clear cc hh hstep
          go_wp2_with (first
            | (go_at_call 19; (with_reducible refine (cj'.out _).mono ?_); rintro e w' ⟨rfl, rfl⟩)
            | (go_at_call 37; refine (cc'.out _ hbU'.out).mono ?_; rintro e w' ⟨rfl, rfl⟩))
          go_roundw
          case rel => exact ⟨k + 1, by omega, by go_num, trivial, Lib.hid hs.out.symm⟩
          case measure => simp [intOf]; omega
        · rw [hh] at cc hstep
          rw [if_pos rfl] at hstep
          have cc' := Lib.hid cc
          have hs := Lib.hid hstep
          clear cc hh hstep
          go_wp2_with (first
            | (go_at_call 19; (with_reducible refine (cj'.out _).mono ?_); rintro e w' ⟨rfl, rfl⟩)
            | (go_at_call 37; refine (cc'.out _ hbU'.out).mono ?_; rintro e w' ⟨rfl, rfl⟩))
          go_ret2
          exact ⟨by rw [hs.out]; rfl, hbU'.out⟩
      · have hk' : U.drop k = [] := List.drop_eq_nil_of_le (by omega)
        have hfin := hr.out
        rw [hk'] at hfin
        have F := Lib.hid hfin
        clear hk' hfin
        go_wp2
        go_ret2
        exact ⟨by rw [← F.out]; rfl, hbU'.out⟩
end Go.Proofs.YtefnihgjacnjfaaDoor
