/- The laws of layer 3 without the reference, for texts of a bounded size: walked from the contracts, by the plain laws. -/
import Derived.Test.YtckojcfepldhlaaUtfAwake
import Derived.Test.YtckojcfepldhlaaUtfPlain
namespace Go.Proofs.Ytckojcfepldhlaa
open Go.RowKit
set_option linter.unusedVariables false

/-- a call gives a value in every world, and nothing that existed changes -/
abbrev Gives (f : FuncId) (args : Array Value) (v : Value) : Prop := ∀ W : World, Calls Try.prog f args W fun e w' => e = .returned v ∧ Below W.heap.size W w'
theorem g_quote (s : ByteArray) (h : s.size ≤ 1000000000) : Gives 18 #[.string s] (.string (S (Utf.quote s.data.toList))) := fun W => utf_Quote s _ W rfl h
theorem g_hex (s : ByteArray) (h : s.size ≤ 1000000000) : Gives 24 #[.string s] (.string (S (Utf.hex s.data.toList))) := fun W => utf_Hex s _ W rfl h
theorem g_unquote (s : ByteArray) (u m e) (h : s.size ≤ 1000000000) (hu : Utf.unq s.data.toList = (u, m, e)) {t : ByteArray} {M E : Int} (ht : S u = t) (hM : (m : Int) = M) (hE : (e : Int) = E) : Gives 20 #[.string s] (.tuple #[.string t, .int .i64 M, .int .i64 E]) := by
  intro W
  have := utf_Unquote s _ W rfl h
  unfold unqR at this
  rw [hu] at this
  subst ht hM hE
  exact this
theorem g_unhex (s : ByteArray) (u e) (h : s.size ≤ 1000000000) (hu : Utf.unhex s.data.toList = (u, e)) {t : ByteArray} {E : Int} (ht : S u = t) (hE : (e : Int) = E) : Gives 22 #[.string s] (.tuple #[.string t, .int .i64 E]) := by
  intro W
  have := utf_Unhex s _ W rfl h
  unfold unhR at this
  rw [hu] at this
  subst ht hE
  exact this
theorem g_valid (s : ByteArray) (b : Bool) (h : s.size ≤ 1000000000) (hb : decide (Utf.bad s.data.toList < 0) = b) : Gives 12 #[.string s] (.bool b) := by
  intro W
  have := utf_Valid s _ W rfl h
  rwa [hb] at this
theorem g_bad (s : ByteArray) (b : Int) (h : s.size ≤ 1000000000) (hb : Utf.bad s.data.toList = b) : Gives 14 #[.string s] (.int .i64 b) := by
  intro W
  have := utf_Bad s _ W rfl h
  rwa [hb] at this
theorem g_count (s : ByteArray) (b : Int) (h : s.size ≤ 1000000000) (hb : (Utf.cnt s.data.toList : Int) = b) : Gives 16 #[.string s] (.int .i64 b) := by
  intro W
  have := utf_Count s _ W rfl h
  rwa [hb] at this
theorem g_awake : Gives 11 #[] (.bool true) := fun W => utf_awake W

set_option maxHeartbeats 2000000 in
set_option maxRecDepth 100000 in
theorem law_Quotes (s a q : ByteArray) (w : World) (hs : s.size ≤ 2000000) (ha : a.size ≤ 2000000) (hq : q.size ≤ 2000000) : Calls Try.prog 7 #[.string s, .string a, .string q] w fun e w' => e = .returned (.bool true) ∧ Below w.heap.size w w' := by
  have hb := Below.refl w.heap.size w
  have hcat : (S (Utf.quote s.data.toList) ++ a).data.toList = Utf.quote s.data.toList ++ a.data.toList := by rw [cat_list]; rfl
  have hql := Utf.quote_len s.data.toList
  rw [len_l] at hql
  have hsz : (S (Utf.quote s.data.toList)).size = (Utf.quote s.data.toList).length := rfl
  have hcs : (S (Utf.quote s.data.toList) ++ a).size ≤ 1000000000 := by rw [ByteArray.size_append]; omega
  have hcs2 : (S (Utf.quote s.data.toList)).size + a.size ≤ 1000000000 := by omega
  have c1 := Lib.hid (g_quote s (by omega))
  have c2 := Lib.hid (g_unquote (S (Utf.quote s.data.toList) ++ a) s.data.toList (Utf.quote s.data.toList).length 0 hcs (by rw [hcat]; exact Utf.unq_quote _ _) (t := s) (M := ((S (Utf.quote s.data.toList)).size : Int)) (E := 0) (S_of rfl).symm rfl rfl)
  have cw := Lib.hid g_awake
  have hn := neq_yes s s rfl
  clear hcat hql
  by_cases h0 : (Utf.unq q.data.toList).2.2 = 0
  · obtain ⟨g1, g2, g3⟩ := Utf.unq_yes _ h0
    rw [len_l] at g2
    generalize hu : Utf.unq q.data.toList = p at *
    obtain ⟨u, m, e⟩ := p
    simp only at h0 g1 g2 g3
    subst h0
    obtain ⟨M, hM⟩ : ∃ M : Int, (m : Int) = M := ⟨_, rfl⟩
    have c3 := Lib.hid (g_unquote q u m 0 (by omega) hu (t := S u) (M := M) (E := 0) rfl hM rfl)
    have hul : (S u).size ≤ 1000000000 := by
      have := Utf.quote_length u
      have h3 := congrArg List.length g3
      rw [List.length_take, len_l] at h3
      show u.length ≤ _
      omega
    have c4 := Lib.hid (g_quote (S u) hul)
    have m1 : 1 < M := by omega
    have m2 : M ≤ q.size := by omega
    have m3 : 0 ≤ M := by omega
    have hy := eq_yes (S (Utf.quote (S u).data.toList)) (q.extract 0 M.toNat) (by rw [sub_list, S_list, S_list, g3]; simp; omega)
    clear g1 g2 g3 hu hM hul hsz hcs
    go_enter Try.func7, Try.ntmps7
    go_wp2_with (first
      | (go_at_call 18; (with_reducible refine (c1.out _).mono ?_); rintro e w' ⟨rfl, hb2⟩; replace hb := hb.trans (hb2.mono hb.size); clear hb2)
      | (go_at_call 20; (with_reducible refine (c2.out _).mono ?_); rintro e w' ⟨rfl, hb2⟩; replace hb := hb.trans (hb2.mono hb.size); clear hb2)
      | (go_at_call 20; (with_reducible refine (c3.out _).mono ?_); rintro e w' ⟨rfl, hb2⟩; replace hb := hb.trans (hb2.mono hb.size); clear hb2))
    go_region_held3 (fun w' => True) (trivial) ((first | (go_at_call 18; (with_reducible refine (c4.out _).mono ?_); rintro e w' ⟨rfl, hb2⟩) | (go_at_call 11; (with_reducible refine (cw.out _).mono ?_); rintro e w' ⟨rfl, hb3⟩)))
    all_goals
      go_wp2
      go_ret
      refine ⟨rfl, ?_⟩
      have hb4 := hb.drew.trans (hb2.mono hb.size)
      exact hb4.trans (hb3.mono hb4.size)
  · have g := Utf.unq_no _ h0
    have c3 := Lib.hid (g_unquote q [] 0 2 (by omega) g (t := ⟨#[]⟩) (M := 0) (E := 2) rfl rfl rfl)
    clear g h0 hsz hcs
    go_enter Try.func7, Try.ntmps7
    go_wp2_with (first
      | (go_at_call 18; (with_reducible refine (c1.out _).mono ?_); rintro e w' ⟨rfl, hb2⟩; replace hb := hb.trans (hb2.mono hb.size); clear hb2)
      | (go_at_call 20; (with_reducible refine (c2.out _).mono ?_); rintro e w' ⟨rfl, hb2⟩; replace hb := hb.trans (hb2.mono hb.size); clear hb2)
      | (go_at_call 20; (with_reducible refine (c3.out _).mono ?_); rintro e w' ⟨rfl, hb2⟩; replace hb := hb.trans (hb2.mono hb.size); clear hb2)
      | (go_at_call 11; (with_reducible refine (cw.out _).mono ?_); rintro e w' ⟨rfl, hb2⟩; replace hb := hb.trans (hb2.mono hb.size); clear hb2))
    go_ret
    exact ⟨rfl, hb⟩

set_option maxHeartbeats 2000000 in
set_option maxRecDepth 100000 in
theorem law_Printable (s : ByteArray) (w : World) (hs : s.size ≤ 2000000) : Calls Try.prog 8 #[.string s] w fun e w' => e = .returned (.bool true) ∧ Below w.heap.size w w' := by
  have hb := Below.refl w.heap.size w
  have hql := Utf.quote_len s.data.toList
  have hqg := Utf.quote_length s.data.toList
  have hp := Lib.hid (Utf.quote_print s.data.toList)
  have hv := Utf.quote_valid s.data.toList
  rw [len_l] at hql hqg
  have c1 := Lib.hid (g_quote s (by omega))
  obtain ⟨Q, hQ⟩ : ∃ Q, S (Utf.quote s.data.toList) = Q := ⟨_, rfl⟩
  have hQl : Q.data.toList = Utf.quote s.data.toList := by rw [← hQ]; rfl
  have hQs : Q.size = (Utf.quote s.data.toList).length := by rw [← hQ]; rfl
  have q1 : (s.size : Int) ≤ (Q.size : Int) - 2 := by omega
  have q2 : 2 ≤ Q.size := by omega
  have q3 : Q.size ≤ 8000002 := by omega
  rw [hQ] at c1
  have c2 := Lib.hid (g_valid Q true (by omega) (by rw [hQl, hv]; rfl))
  have c3 := Lib.hid (g_bad Q (-1) (by omega) (by rw [hQl, hv]))
  have cw := Lib.hid g_awake
  have hpr : Hid (∀ k (h : k < Q.size), 32 ≤ Q[k].toNat ∧ Q[k].toNat ≠ 127) := Lib.hid (by
    intro k h
    have hg := get_l Q k h
    refine hp.out _ ?_
    rw [← hQl]
    exact List.mem_of_getElem? hg)
  clear hql hqg hp hv hQ hQl hQs
  go_enter Try.func8, Try.ntmps8
  go_wp2_with (first
    | (go_at_call 18; (with_reducible refine (c1.out _).mono ?_); rintro e w' ⟨rfl, hb2⟩; replace hb := hb.trans (hb2.mono hb.size); clear hb2))
  go_loop [4] (fun t => ∃ k : Nat, k ≤ Q.size ∧ t = .int .i64 k) (fun t => Q.size - (intOf t).toNat)
  case atStart => exact ⟨0, Nat.zero_le _, rfl⟩
  case round =>
    obtain ⟨k, hk, rfl⟩ := hrel
    by_cases hlt : k < Q.size
    · obtain ⟨p1, p2⟩ := hpr.out k hlt
      have p3 : (32 : Int) ≤ (Q[k].toNat : Int) := by omega
      have p4 : ((Q[k].toNat : Int) == 127) = false := ine (by omega)
      go_wp2
      go_round
      case rel => exact ⟨k + 1, by omega, by go_num⟩
      case measure => simp [intOf]; omega
    · go_wp2_with (first
        | (go_at_call 12; (with_reducible refine (c2.out _).mono ?_); rintro e w' ⟨rfl, hb2⟩; replace hb := hb.trans (hb2.mono hb.size); clear hb2)
        | (go_at_call 14; (with_reducible refine (c3.out _).mono ?_); rintro e w' ⟨rfl, hb2⟩; replace hb := hb.trans (hb2.mono hb.size); clear hb2)
        | (go_at_call 11; (with_reducible refine (cw.out _).mono ?_); rintro e w' ⟨rfl, hb2⟩; replace hb := hb.trans (hb2.mono hb.size); clear hb2))
      go_ret
      exact ⟨rfl, hb⟩

set_option maxHeartbeats 2000000 in
set_option maxRecDepth 100000 in
theorem law_Digits (s h : ByteArray) (w : World) (hs : s.size ≤ 2000000) (hh : h.size ≤ 2000000) : Calls Try.prog 9 #[.string s, .string h] w fun e w' => e = .returned (.bool true) ∧ Below w.heap.size w w' := by
  have hb := Below.refl w.heap.size w
  have hhl : (S (Utf.hex s.data.toList)).size ≤ 1000000000 := by
    show (Utf.hex s.data.toList).length ≤ _
    have : (Utf.hex s.data.toList).length = 2 * s.data.toList.length := by
      generalize s.data.toList = l
      induction l with
      | nil => rfl
      | cons b t ih => show (Utf.esc b ++ Utf.hex t).length = _; rw [List.length_append, ih]; simp [Utf.esc]; omega
    rw [this, len_l]; omega
  have c1 := Lib.hid (g_hex s (by omega))
  have c2 := Lib.hid (g_unhex (S (Utf.hex s.data.toList)) s.data.toList 0 hhl (Utf.unhex_hex _) (t := s) (E := 0) (S_of rfl).symm rfl)
  have cw := Lib.hid g_awake
  have hn := eq_yes s s rfl
  clear hhl
  by_cases h0 : (Utf.unhex h.data.toList).2 = 0
  · have g := Utf.unhex_yes _ h0
    have hle : (Utf.unhex h.data.toList).1.length ≤ h.size := by
      have h3 := congrArg List.length g
      rw [len_l] at h3
      have : ∀ l : List UInt8, l.length ≤ (Utf.hex l).length := by
        intro l
        induction l with
        | nil => exact Nat.le_refl _
        | cons b t ih => show _ ≤ (Utf.esc b ++ Utf.hex t).length; rw [List.length_append]; simp [Utf.esc]; omega
      have := this (Utf.unhex h.data.toList).1
      omega
    generalize hu : Utf.unhex h.data.toList = p at *
    obtain ⟨u, e⟩ := p
    simp only at h0 g hle
    subst h0
    have c3 := Lib.hid (g_unhex h u 0 (by omega) hu (t := S u) (E := 0) rfl rfl)
    have c4 := Lib.hid (g_hex (S u) (by rw [S_size]; omega))
    have hy := eq_yes (S (Utf.hex (S u).data.toList)) h (by rw [S_list, S_list, g])
    clear g hle hu
    go_enter Try.func9, Try.ntmps9
    go_wp2_with (first
      | (go_at_call 24; (with_reducible refine (c1.out _).mono ?_); rintro e w' ⟨rfl, hb2⟩; replace hb := hb.trans (hb2.mono hb.size); clear hb2)
      | (go_at_call 22; (with_reducible refine (c2.out _).mono ?_); rintro e w' ⟨rfl, hb2⟩; replace hb := hb.trans (hb2.mono hb.size); clear hb2)
      | (go_at_call 22; (with_reducible refine (c3.out _).mono ?_); rintro e w' ⟨rfl, hb2⟩; replace hb := hb.trans (hb2.mono hb.size); clear hb2)
      | (go_at_call 24; (with_reducible refine (c4.out _).mono ?_); rintro e w' ⟨rfl, hb2⟩; replace hb := hb.trans (hb2.mono hb.size); clear hb2)
      | (go_at_call 11; (with_reducible refine (cw.out _).mono ?_); rintro e w' ⟨rfl, hb2⟩; replace hb := hb.trans (hb2.mono hb.size); clear hb2))
    go_ret
    exact ⟨rfl, hb⟩
  · obtain ⟨g1, g2⟩ := Utf.unhex_no _ h0
    have c3 := Lib.hid (g_unhex h [] 2 (by omega) (Prod.ext g1 g2) (t := ⟨#[]⟩) (E := 2) rfl rfl)
    clear g1 g2 h0
    go_enter Try.func9, Try.ntmps9
    go_wp2_with (first
      | (go_at_call 24; (with_reducible refine (c1.out _).mono ?_); rintro e w' ⟨rfl, hb2⟩; replace hb := hb.trans (hb2.mono hb.size); clear hb2)
      | (go_at_call 22; (with_reducible refine (c2.out _).mono ?_); rintro e w' ⟨rfl, hb2⟩; replace hb := hb.trans (hb2.mono hb.size); clear hb2)
      | (go_at_call 22; (with_reducible refine (c3.out _).mono ?_); rintro e w' ⟨rfl, hb2⟩; replace hb := hb.trans (hb2.mono hb.size); clear hb2)
      | (go_at_call 11; (with_reducible refine (cw.out _).mono ?_); rintro e w' ⟨rfl, hb2⟩; replace hb := hb.trans (hb2.mono hb.size); clear hb2))
    go_ret
    exact ⟨rfl, hb⟩

set_option maxHeartbeats 2000000 in
set_option maxRecDepth 100000 in
theorem law_Joins (a b : ByteArray) (w : World) (ha : a.size ≤ 2000000) (hbs : b.size ≤ 2000000) : Calls Try.prog 10 #[.string a, .string b] w fun e w' => e = .returned (.bool true) ∧ Below w.heap.size w w' := by
  have hb := Below.refl w.heap.size w
  have cw := Lib.hid g_awake
  have hge := Utf.bad_ge a.data.toList 0 0
  change -1 ≤ Utf.bad a.data.toList at hge
  by_cases hv : Utf.bad a.data.toList < 0
  · have c1 := Lib.hid (g_bad a (-1) (by omega) (by omega))
    have c2 := Lib.hid (g_valid a true (by omega) (decide_eq_true hv))
    have hcat : (a ++ b).data.toList = a.data.toList ++ b.data.toList := cat_list a b
    have hcs : (a ++ b).size ≤ 1000000000 := by rw [ByteArray.size_append]; omega
    have hbj := Utf.bad_join _ a.data.toList b.data.toList rfl hv
    have hcj := Utf.cnt_join _ a.data.toList b.data.toList rfl hv
    have hgb := Utf.bad_ge b.data.toList 0 0
    change -1 ≤ Utf.bad b.data.toList at hgb
    have hlb : Utf.bad b.data.toList ≤ b.size := by
      rcases Utf.bad_lt b.data.toList with h | h
      · rw [len_l] at h; omega
      · rw [h, Utf.bad_nil]; omega
    rw [len_l, ← hcat] at hbj
    rw [← hcat] at hcj
    have cntle : ∀ l : List UInt8, Utf.cnt l ≤ l.length := by
      suffices h : ∀ (l : List UInt8) (k : Nat), Utf.cntS k l ≤ l.length from fun l => h l 0
      intro l
      induction l with
      | nil => intro k; cases k <;> exact Nat.le_refl _
      | cons b t ih =>
        intro k
        cases k with
        | zero => have := ih (Utf.sz (b :: t) - 1); simp only [Utf.cntS, List.length_cons]; omega
        | succ k => have := ih k; simp only [Utf.cntS, List.length_cons]; omega
    have n1 := cntle a.data.toList
    have n2 := cntle b.data.toList
    rw [len_l] at n1 n2
    obtain ⟨C, hC⟩ : ∃ C : Int, (Utf.cnt a.data.toList : Int) = C := ⟨_, rfl⟩
    obtain ⟨D, hD⟩ : ∃ D : Int, (Utf.cnt b.data.toList : Int) = D := ⟨_, rfl⟩
    have c5 := Lib.hid (g_count a C (by omega) hC)
    have c6 := Lib.hid (g_count b D (by omega) hD)
    have c7 := Lib.hid (g_count (a ++ b) (C + D) hcs (by omega))
    have k1 : 0 ≤ C := by omega
    have k2 : C ≤ 2000000 := by omega
    have k3 : 0 ≤ D := by omega
    have k4 : D ≤ 2000000 := by omega
    by_cases hvb : Utf.bad b.data.toList < 0
    · have c3 := Lib.hid (g_bad b (-1) (by omega) (by omega))
      have c4 := Lib.hid (g_valid b true (by omega) (decide_eq_true hvb))
      rw [if_pos hvb] at hbj
      have c8 := Lib.hid (g_bad (a ++ b) (-1) hcs hbj)
      have c9 := Lib.hid (g_valid (a ++ b) true hcs (by rw [hbj]; rfl))
      clear hcat hcs hbj hcj hgb hlb cntle n1 n2 hC hD hvb hv hge
      go_enter Try.func10, Try.ntmps10
      go_wp2_with (first
        | (go_at_call 14; (with_reducible refine (c1.out _).mono ?_); rintro e w' ⟨rfl, hb2⟩; replace hb := hb.trans (hb2.mono hb.size); clear hb2)
        | (go_at_call 12; (with_reducible refine (c2.out _).mono ?_); rintro e w' ⟨rfl, hb2⟩; replace hb := hb.trans (hb2.mono hb.size); clear hb2)
        | (go_at_call 14; (with_reducible refine (c3.out _).mono ?_); rintro e w' ⟨rfl, hb2⟩; replace hb := hb.trans (hb2.mono hb.size); clear hb2)
        | (go_at_call 12; (with_reducible refine (c4.out _).mono ?_); rintro e w' ⟨rfl, hb2⟩; replace hb := hb.trans (hb2.mono hb.size); clear hb2)
        | (go_at_call 16; (with_reducible refine (c5.out _).mono ?_); rintro e w' ⟨rfl, hb2⟩; replace hb := hb.trans (hb2.mono hb.size); clear hb2)
        | (go_at_call 16; (with_reducible refine (c6.out _).mono ?_); rintro e w' ⟨rfl, hb2⟩; replace hb := hb.trans (hb2.mono hb.size); clear hb2)
        | (go_at_call 16; (with_reducible refine (c7.out _).mono ?_); rintro e w' ⟨rfl, hb2⟩; replace hb := hb.trans (hb2.mono hb.size); clear hb2)
        | (go_at_call 14; (with_reducible refine (c8.out _).mono ?_); rintro e w' ⟨rfl, hb2⟩; replace hb := hb.trans (hb2.mono hb.size); clear hb2)
        | (go_at_call 12; (with_reducible refine (c9.out _).mono ?_); rintro e w' ⟨rfl, hb2⟩; replace hb := hb.trans (hb2.mono hb.size); clear hb2)
        | (go_at_call 11; (with_reducible refine (cw.out _).mono ?_); rintro e w' ⟨rfl, hb2⟩; replace hb := hb.trans (hb2.mono hb.size); clear hb2))
      go_ret
      exact ⟨rfl, hb⟩
    · obtain ⟨B, hB⟩ : ∃ B : Int, Utf.bad b.data.toList = B := ⟨_, rfl⟩
      have c3 := Lib.hid (g_bad b B (by omega) hB)
      have c4 := Lib.hid (g_valid b false (by omega) (decide_eq_false hvb))
      rw [if_neg hvb, hB] at hbj
      have c8 := Lib.hid (g_bad (a ++ b) (B + a.size) hcs hbj)
      have c9 := Lib.hid (g_valid (a ++ b) false hcs (by rw [hbj]; exact decide_eq_false (by omega)))
      have b1 : 0 ≤ B := by omega
      have b2 : B ≤ 2000000 := by omega
      clear hcat hcs hbj hcj hgb hlb cntle n1 n2 hC hD hvb hv hge hB
      go_enter Try.func10, Try.ntmps10
      go_wp2_with (first
        | (go_at_call 14; (with_reducible refine (c1.out _).mono ?_); rintro e w' ⟨rfl, hb2⟩; replace hb := hb.trans (hb2.mono hb.size); clear hb2)
        | (go_at_call 12; (with_reducible refine (c2.out _).mono ?_); rintro e w' ⟨rfl, hb2⟩; replace hb := hb.trans (hb2.mono hb.size); clear hb2)
        | (go_at_call 14; (with_reducible refine (c3.out _).mono ?_); rintro e w' ⟨rfl, hb2⟩; replace hb := hb.trans (hb2.mono hb.size); clear hb2)
        | (go_at_call 12; (with_reducible refine (c4.out _).mono ?_); rintro e w' ⟨rfl, hb2⟩; replace hb := hb.trans (hb2.mono hb.size); clear hb2)
        | (go_at_call 16; (with_reducible refine (c5.out _).mono ?_); rintro e w' ⟨rfl, hb2⟩; replace hb := hb.trans (hb2.mono hb.size); clear hb2)
        | (go_at_call 16; (with_reducible refine (c6.out _).mono ?_); rintro e w' ⟨rfl, hb2⟩; replace hb := hb.trans (hb2.mono hb.size); clear hb2)
        | (go_at_call 16; (with_reducible refine (c7.out _).mono ?_); rintro e w' ⟨rfl, hb2⟩; replace hb := hb.trans (hb2.mono hb.size); clear hb2)
        | (go_at_call 14; (with_reducible refine (c8.out _).mono ?_); rintro e w' ⟨rfl, hb2⟩; replace hb := hb.trans (hb2.mono hb.size); clear hb2)
        | (go_at_call 12; (with_reducible refine (c9.out _).mono ?_); rintro e w' ⟨rfl, hb2⟩; replace hb := hb.trans (hb2.mono hb.size); clear hb2)
        | (go_at_call 11; (with_reducible refine (cw.out _).mono ?_); rintro e w' ⟨rfl, hb2⟩; replace hb := hb.trans (hb2.mono hb.size); clear hb2))
      go_ret
      exact ⟨rfl, hb⟩
  · obtain ⟨B, hB⟩ : ∃ B : Int, Utf.bad a.data.toList = B := ⟨_, rfl⟩
    have hlt : B < a.size := by
      rcases Utf.bad_lt a.data.toList with h | h
      · rw [len_l] at h; omega
      · rw [h, Utf.bad_nil] at hv; omega
    have c1 := Lib.hid (g_bad a B (by omega) hB)
    have c2 := Lib.hid (g_valid a false (by omega) (decide_eq_false hv))
    have ht := Utf.bad_take _ a.data.toList rfl (by omega)
    rw [hB] at ht
    have c3 := Lib.hid (g_valid (a.extract 0 B.toNat) true (by rw [ByteArray.size_extract]; omega) (by rw [sub_list, List.drop_zero, Nat.sub_zero, ht]; rfl))
    have b1 : 0 ≤ B := by omega
    have b2 : B ≤ 2000000 := by omega
    have b3 : B ≤ a.size := by omega
    have b4 : (B == -1) = false := ine (by omega)
    clear hv hge hB ht
    go_enter Try.func10, Try.ntmps10
    go_wp2_with (first
      | (go_at_call 14; (with_reducible refine (c1.out _).mono ?_); rintro e w' ⟨rfl, hb2⟩; replace hb := hb.trans (hb2.mono hb.size); clear hb2)
      | (go_at_call 12; (with_reducible refine (c2.out _).mono ?_); rintro e w' ⟨rfl, hb2⟩; replace hb := hb.trans (hb2.mono hb.size); clear hb2)
      | (go_at_call 12; (with_reducible refine (c3.out _).mono ?_); rintro e w' ⟨rfl, hb2⟩; replace hb := hb.trans (hb2.mono hb.size); clear hb2)
      | (go_at_call 11; (with_reducible refine (cw.out _).mono ?_); rintro e w' ⟨rfl, hb2⟩; replace hb := hb.trans (hb2.mono hb.size); clear hb2))
    go_ret
    exact ⟨rfl, hb⟩

end Go.Proofs.Ytckojcfepldhlaa
