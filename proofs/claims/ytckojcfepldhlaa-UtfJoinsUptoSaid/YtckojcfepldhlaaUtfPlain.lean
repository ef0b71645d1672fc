/- Plain laws of layer 3: quoted forms lead back, are printable; hexadecimal digits lead back; parts of joined strings. No program in sight. -/
import Derived.Test.YtckojcfepldhlaaUtfSpec
namespace Go.Proofs.Ytckojcfepldhlaa.Utf

theorem btw_some {l : List UInt8} {i lo hi : Nat} (h : btw l i lo hi = true) : ∃ b, l[i]? = some b ∧ lo ≤ b.toNat ∧ b.toNat ≤ hi := by
  unfold btw at h
  cases hl : l[i]? with
  | none => simp [hl] at h
  | some b => exact ⟨b, rfl, by simpa [hl] using h⟩
theorem btw_mk {l : List UInt8} {i lo hi : Nat} {b : UInt8} (h : l[i]? = some b) (h1 : lo ≤ b.toNat) (h2 : b.toNat ≤ hi) : btw l i lo hi = true := by
  simp [btw, h, h1, h2]
/-- two lists that agree on the first n bytes -/
def Agree (n : Nat) (l r : List UInt8) : Prop := ∀ i, i < n → ∀ b, l[i]? = some b → r[i]? = some b
theorem Agree.app (l r : List UInt8) (n : Nat) : Agree n l (l ++ r) := by
  intro i _ b hb
  rw [List.getElem?_append_left (List.getElem?_eq_some_iff.1 hb).1]; exact hb
theorem Agree.takeApp (l r : List UInt8) (n : Nat) : Agree n l (l.take n ++ r) := by
  intro i hi b hb
  have hl := (List.getElem?_eq_some_iff.1 hb).1
  rw [List.getElem?_append_left (by simp; omega), List.getElem?_take, if_pos hi]; exact hb
theorem btw_agree {n : Nat} {l r : List UInt8} (A : Agree n l r) {i lo hi : Nat} (hi' : i < n) (h : btw l i lo hi = true) : btw r i lo hi = true := by
  obtain ⟨b, hb, h1, h2⟩ := btw_some h
  exact btw_mk (A i hi' b hb) h1 h2
theorem tl_agree {n : Nat} {l r : List UInt8} (A : Agree n l r) : ∀ {k i : Nat}, i + k ≤ n → tl l i k = true → tl r i k = true := by
  intro k
  induction k with
  | zero => intro i _ _; rfl
  | succ k ih =>
    intro i hi h
    simp only [tl, Bool.and_eq_true] at h ⊢
    exact ⟨btw_agree A (by omega) h.1, ih (by omega) h.2⟩
theorem szAt_agree {l r : List UInt8} {n : Nat} (hn : szAt l 0 = n) (h0 : n ≠ 0) (A : Agree n l r) : szAt r 0 = n := by
  unfold szAt at hn
  cases hl : l[0]? with
  | none => simp [hl] at hn; omega
  | some u =>
    simp only [hl] at hn
    have hr : r[0]? = some u := A 0 (by omega) u hl
    unfold szAt
    simp only [hr]
    (repeat' split at hn) <;> (try omega)
    · rw [if_pos (by assumption)]; exact hn
    · rename_i h
      obtain ⟨h1, h2, h3⟩ := h
      rw [if_neg (by omega), if_pos ⟨h1, h2, tl_agree A (by omega) h3⟩]; exact hn
    · rename_i h
      obtain ⟨h1, h2, h3⟩ := h
      rw [if_neg (by omega), if_neg (by omega), if_pos ⟨h1, btw_agree A (by omega) h2, tl_agree A (by omega) h3⟩]; exact hn
    · rename_i h
      obtain ⟨h1, h2, h3⟩ := h
      rw [if_neg (by omega), if_neg (by omega), if_neg (by omega), if_pos ⟨h1, btw_agree A (by omega) h2, tl_agree A (by omega) h3⟩]; exact hn
    · rename_i h
      obtain ⟨h1, h2, h3, h4⟩ := h
      rw [if_neg (by omega), if_neg (by omega)]
      have h3' : tl r 1 2 = true := tl_agree A (by omega) h4
      by_cases e2 : u.toNat = 224 ∧ btw r (0 + 1) 160 191 = true ∧ tl r (0 + 2) 1 = true
      · rw [if_pos e2]; exact hn
      · rw [if_neg e2, if_neg (by omega), if_pos ⟨h1, h2, h3, h3'⟩]; exact hn
    · rename_i h
      obtain ⟨h1, h2, h3⟩ := h
      rw [if_neg (by omega), if_neg (by omega), if_neg (by omega), if_neg (by omega), if_neg (by omega), if_pos ⟨h1, btw_agree A (by omega) h2, tl_agree A (by omega) h3⟩]; exact hn
    · rename_i h
      obtain ⟨h1, h2, h3⟩ := h
      rw [if_neg (by omega), if_neg (by omega), if_neg (by omega), if_neg (by omega), if_neg (by omega), if_neg (by omega), if_pos ⟨h1, h2, tl_agree A (by omega) h3⟩]; exact hn
    · rename_i h
      obtain ⟨h1, h2, h3⟩ := h
      rw [if_neg (by omega), if_neg (by omega), if_neg (by omega), if_neg (by omega), if_neg (by omega), if_neg (by omega), if_neg (by omega), if_pos ⟨h1, btw_agree A (by omega) h2, tl_agree A (by omega) h3⟩]; exact hn
/-- a byte below 128 at the head is a part alone -/
theorem szAt_low {l : List UInt8} {u : UInt8} (hl : l[0]? = some u) (h : u.toNat < 128) : szAt l 0 = 1 := by
  unfold szAt; simp only [hl]; rw [if_pos h]
/-- bytes of a part of more than one byte are at least 128 -/
theorem tl_ge {l : List UInt8} : ∀ {k i : Nat}, tl l i k = true → ∀ j, i ≤ j → j < i + k → ∃ b, l[j]? = some b ∧ 128 ≤ b.toNat ∧ b.toNat ≤ 191 := by
  intro k
  induction k with
  | zero => intro i _ j h1 h2; omega
  | succ k ih =>
    intro i h j h1 h2
    simp only [tl, Bool.and_eq_true] at h
    by_cases hj : j = i
    · subst hj; obtain ⟨b, hb, h3, h4⟩ := btw_some h.1; exact ⟨b, hb, h3, h4⟩
    · exact ih h.2 j (by omega) (by omega)
theorem szAt_ge {l : List UInt8} (j : Nat) (h0 : 1 < szAt l 0) (hj : j < szAt l 0) : ∃ b, l[j]? = some b ∧ 128 ≤ b.toNat := by
  unfold szAt at h0 hj
  cases hl : l[0]? with
  | none => simp [hl] at h0
  | some u =>
    simp only [hl] at h0 hj
    (repeat' split at h0) <;> (try omega)
    all_goals rename_i h
    all_goals
      by_cases hj0 : j = 0
      · subst hj0; exact ⟨u, hl, by omega⟩
    · rw [if_neg (by omega), if_pos h] at hj
      obtain ⟨b, hb, h1, _⟩ := tl_ge h.2.2 j (by omega) (by omega); exact ⟨b, hb, h1⟩
    · rw [if_neg (by omega), if_neg (by omega), if_pos h] at hj
      by_cases hj1 : j = 1
      · subst hj1; obtain ⟨b, hb, h1, _⟩ := btw_some h.2.1; exact ⟨b, hb, by omega⟩
      · obtain ⟨b, hb, h1, _⟩ := tl_ge h.2.2 j (by omega) (by omega); exact ⟨b, hb, h1⟩
    · rw [if_neg (by omega), if_neg (by omega), if_neg (by omega), if_pos h] at hj
      by_cases hj1 : j = 1
      · subst hj1; obtain ⟨b, hb, h1, _⟩ := btw_some h.2.1; exact ⟨b, hb, by omega⟩
      · obtain ⟨b, hb, h1, _⟩ := tl_ge h.2.2 j (by omega) (by omega); exact ⟨b, hb, h1⟩
    · have hj3 : j < 3 := by
        (repeat' split at hj) <;> omega
      obtain ⟨b, hb, h1, _⟩ := tl_ge h.2.2.2 j (by omega) (by omega); exact ⟨b, hb, h1⟩
    all_goals
      have hj4 : j < 4 := by
        (repeat' split at hj) <;> omega
    · by_cases hj1 : j = 1
      · subst hj1; obtain ⟨b, hb, h1, _⟩ := btw_some h.2.1; exact ⟨b, hb, by omega⟩
      · obtain ⟨b, hb, h1, _⟩ := tl_ge h.2.2 j (by omega) (by omega); exact ⟨b, hb, h1⟩
    · obtain ⟨b, hb, h1, _⟩ := tl_ge h.2.2 j (by omega) (by omega); exact ⟨b, hb, h1⟩
    · by_cases hj1 : j = 1
      · subst hj1; obtain ⟨b, hb, h1, _⟩ := btw_some h.2.1; exact ⟨b, hb, by omega⟩
      · obtain ⟨b, hb, h1, _⟩ := tl_ge h.2.2 j (by omega) (by omega); exact ⟨b, hb, h1⟩

/-! ### bad and cnt by whole parts -/
theorem bad_shift (l : List UInt8) : ∀ k i, badS k i l = if badS k 0 l < 0 then -1 else badS k 0 l + i := by
  induction l with
  | nil => intro k i; cases k <;> simp [badS]
  | cons b t ih =>
    intro k i
    cases k with
    | zero =>
      simp only [badS]
      split
      · simp
      · rw [ih _ (i + 1), ih _ (0 + 1)]
        split <;> split <;> omega
    | succ k =>
      have e1 : ∀ i, badS (k + 1) i (b :: t) = badS k (i + 1) t := fun _ => rfl
      rw [e1, e1, ih _ (i + 1), ih _ (0 + 1)]
      split <;> split <;> omega
theorem bad_ge (l : List UInt8) : ∀ k i, -1 ≤ badS k i l := by
  induction l with
  | nil => intro k i; cases k <;> simp [badS]
  | cons b t ih =>
    intro k i
    cases k with
    | zero => simp only [badS]; split; omega; exact ih _ _
    | succ k => simp only [badS]; exact ih _ _
theorem bad_nil : bad [] = -1 := rfl
theorem bad_cons (l : List UInt8) (h : l ≠ []) : bad l = if szAt l 0 = 0 then 0 else if bad (l.drop (szAt l 0)) < 0 then -1 else bad (l.drop (szAt l 0)) + szAt l 0 := by
  have h1 := badS_step l 0 (List.length_pos_iff.2 h)
  simp only [List.drop_zero, Nat.zero_add] at h1
  unfold bad
  rw [h1]
  split
  · rfl
  · rw [bad_shift]
theorem cnt_nil : cnt [] = 0 := rfl
theorem cnt_cons (l : List UInt8) (h : l ≠ []) : cnt l = 1 + cnt (l.drop (max 1 (szAt l 0))) := by
  have h1 := cnt_step l 0 (List.length_pos_iff.2 h)
  simpa using h1

theorem sz_pos_lt {l : List UInt8} (h : szAt l 0 ≠ 0) : szAt l 0 ≤ l.length := by have := szAt_lt h; omega

/-- the parts after a valid string are those of the string alone -/
theorem bad_join : ∀ (n : Nat) (a b : List UInt8), a.length = n → bad a < 0 → bad (a ++ b) = if bad b < 0 then -1 else bad b + a.length := by
  intro n
  induction n using Nat.strongRecOn with
  | ind n ih =>
    intro a b hn hv
    by_cases ha : a = []
    · subst ha
      have := bad_ge b 0 0
      simp only [List.nil_append, List.length_nil]
      unfold bad at *
      split <;> omega
    · rw [bad_cons a ha] at hv
      by_cases hz : szAt a 0 = 0
      · rw [if_pos hz] at hv; omega
      rw [if_neg hz] at hv
      have hle := sz_pos_lt hz
      have hd : bad (a.drop (szAt a 0)) < 0 := by
        by_cases hd : bad (a.drop (szAt a 0)) < 0
        · exact hd
        · rw [if_neg hd] at hv; omega
      have hs : szAt (a ++ b) 0 = szAt a 0 := szAt_agree rfl hz (Agree.app _ _ _)
      rw [bad_cons (a ++ b) (by simp [ha]), hs, if_neg hz, List.drop_append_of_le_length hle, ih (a.drop (szAt a 0)).length (by simp; omega) _ b rfl hd]
      have := bad_ge b 0 0
      simp only [List.length_drop]
      unfold bad
      split
      · simp
      · rw [if_neg (by omega)]; omega
theorem cnt_join : ∀ (n : Nat) (a b : List UInt8), a.length = n → bad a < 0 → cnt (a ++ b) = cnt a + cnt b := by
  intro n
  induction n using Nat.strongRecOn with
  | ind n ih =>
    intro a b hn hv
    by_cases ha : a = []
    · subst ha; simp [cnt_nil]
    · rw [bad_cons a ha] at hv
      by_cases hz : szAt a 0 = 0
      · rw [if_pos hz] at hv; omega
      rw [if_neg hz] at hv
      have hle := sz_pos_lt hz
      have hd : bad (a.drop (szAt a 0)) < 0 := by
        by_cases hd : bad (a.drop (szAt a 0)) < 0
        · exact hd
        · rw [if_neg hd] at hv; omega
      have hs : szAt (a ++ b) 0 = szAt a 0 := szAt_agree rfl hz (Agree.app _ _ _)
      have hm : max 1 (szAt a 0) = szAt a 0 := by omega
      rw [cnt_cons (a ++ b) (by simp [ha]), hs, hm, List.drop_append_of_le_length hle, ih (a.drop (szAt a 0)).length (by simp; omega) _ b rfl hd, cnt_cons a ha, hm]
      omega
/-- before the first wrong byte all is valid -/
theorem bad_lt (l : List UInt8) : bad l < l.length ∨ l = [] := by
  suffices h : ∀ (l : List UInt8) (k i : Nat), badS k i l < i + l.length ∨ l = [] by
    have := h l 0 0
    unfold bad
    rcases this with h | h
    · left; simpa using h
    · exact .inr h
  intro l
  induction l with
  | nil => intro k i; exact .inr rfl
  | cons b t ih =>
    intro k i
    left
    have he : ∀ k' i', badS k' i' [] = -1 := by intro k' i'; cases k' <;> rfl
    have hg : ∀ k', badS k' (i + 1) t < i + (b :: t).length := by
      intro k'
      rcases ih k' (i + 1) with h1 | h1
      · simp; omega
      · subst h1; rw [he]; simp; omega
    cases k with
    | zero => simp only [badS]; split; simp; omega; exact hg _
    | succ k => simp only [badS]; exact hg _
theorem bad_take : ∀ (n : Nat) (l : List UInt8), l.length = n → 0 ≤ bad l → bad (l.take (bad l).toNat) = -1 := by
  intro n
  induction n using Nat.strongRecOn with
  | ind n ih =>
    intro l hn h0
    by_cases hl : l = []
    · subst hl; rfl
    have hc := bad_cons l hl
    by_cases hz : szAt l 0 = 0
    · rw [if_pos hz] at hc; rw [hc]; rfl
    rw [if_neg hz] at hc
    by_cases hd : bad (l.drop (szAt l 0)) < 0
    · rw [if_pos hd] at hc; omega
    rw [if_neg hd] at hc
    have hle := sz_pos_lt hz
    have h2 := ih (l.drop (szAt l 0)).length (by simp; omega) _ rfl (by omega)
    have e : (bad l).toNat = szAt l 0 + (bad (l.drop (szAt l 0))).toNat := by omega
    have hs : szAt (l.take (bad l).toNat) 0 = szAt l 0 := by
      refine szAt_agree rfl hz ?_
      intro i hi b hb
      rw [List.getElem?_take, if_pos (by omega)]; exact hb
    have hne : l.take (bad l).toNat ≠ [] := by
      intro he
      rw [he] at hs
      exact hz (by rw [← hs]; rfl)
    rw [bad_cons _ hne, hs, if_neg hz, List.drop_take]
    have e2 : (bad l).toNat - szAt l 0 = (bad (l.drop (szAt l 0))).toNat := by omega
    rw [e2, h2, if_pos (by omega)]

/-! ### digits -/
theorem val_dig : ∀ n : Nat, n < 16 → val (dig n) = n := by decide
theorem esc_val (b : UInt8) : val (dig (b.toNat / 16)) = (b.toNat / 16 : Nat) ∧ val (dig (b.toNat % 16)) = (b.toNat % 16 : Nat) := by
  have := b.toNat_lt
  exact ⟨val_dig _ (by omega), val_dig _ (by omega)⟩
theorem esc_back (b : UInt8) : UInt8.ofNat (16 * (val (dig (b.toNat / 16))).toNat + (val (dig (b.toNat % 16))).toNat) = b := by
  obtain ⟨h1, h2⟩ := esc_val b
  rw [h1, h2]
  have e : 16 * ((b.toNat / 16 : Nat) : Int).toNat + ((b.toNat % 16 : Nat) : Int).toNat = b.toNat := by omega
  rw [e]; exact UInt8.ofNat_toNat
theorem unhexL_hex (l : List UInt8) : unhexL (hex l) = some l := by
  induction l with
  | nil => rfl
  | cons b t ih =>
    show unhexL (dig (b.toNat / 16) :: dig (b.toNat % 16) :: hex t) = _
    obtain ⟨h1, h2⟩ := esc_val b
    rw [unhexL, if_pos (by rw [h1, h2]; omega), ih, esc_back]; rfl
theorem val_lt (b : UInt8) : val b < 16 := by
  unfold val; split
  · omega
  · split <;> omega
theorem dig_val (b : UInt8) (h : 0 ≤ val b) : dig (val b).toNat = b := by
  have hl := b.toNat_lt
  unfold val at *
  split at h
  · rename_i h1
    rw [if_pos h1]
    unfold dig
    have e : ((b.toNat : Int) - 48).toNat = b.toNat - 48 := by omega
    rw [e, if_pos (by omega)]
    have e2 : 48 + (b.toNat - 48) = b.toNat := by omega
    rw [e2]; exact UInt8.ofNat_toNat
  · split at h
    · rename_i h1 h2
      rw [if_neg h1, if_pos h2]
      unfold dig
      have e : ((b.toNat : Int) - 87).toNat = b.toNat - 87 := by omega
      rw [e, if_neg (by omega)]
      have e2 : 87 + (b.toNat - 87) = b.toNat := by omega
      rw [e2]; exact UInt8.ofNat_toNat
    · omega
theorem esc_of (a b : UInt8) (ha : 0 ≤ val a) (hb : 0 ≤ val b) : esc (UInt8.ofNat (16 * (val a).toNat + (val b).toNat)) = [a, b] := by
  have h1 := val_lt a
  have h2 := val_lt b
  have e : (UInt8.ofNat (16 * (val a).toNat + (val b).toNat)).toNat = 16 * (val a).toNat + (val b).toNat := by
    rw [UInt8.toNat_ofNat']; omega
  unfold esc
  rw [e]
  have e1 : (16 * (val a).toNat + (val b).toNat) / 16 = (val a).toNat := by omega
  have e2 : (16 * (val a).toNat + (val b).toNat) % 16 = (val b).toNat := by omega
  rw [e1, e2, dig_val a ha, dig_val b hb]
theorem hex_unhexL : ∀ (n : Nat) (l r : List UInt8), l.length = n → unhexL l = some r → hex r = l := by
  intro n
  induction n using Nat.strongRecOn with
  | ind n ih =>
    intro l r hn h
    match l, h with
    | [], h => simp [unhexL] at h; subst h; rfl
    | [_], h => simp [unhexL] at h
    | a :: b :: t, h =>
      rw [unhexL] at h
      split at h
      · rename_i hv
        cases ht : unhexL t with
        | none => rw [ht] at h; simp at h
        | some r' =>
          rw [ht] at h
          have h := Option.some.inj h
          subst h
          have := ih t.length (by simp at hn; omega) t r' rfl ht
          show esc _ ++ hex r' = _
          rw [esc_of a b hv.1 hv.2, this]; rfl
      · cases h
theorem unhex_hex (l : List UInt8) : unhex (hex l) = (l, 0) := by unfold unhex; rw [unhexL_hex]
theorem unhex_no (l : List UInt8) (h : (unhex l).2 ≠ 0) : (unhex l).1 = [] ∧ (unhex l).2 = 2 := by
  unfold unhex at *
  split at h <;> simp_all
theorem unhex_yes (l : List UInt8) (h : (unhex l).2 = 0) : hex (unhex l).1 = l := by
  unfold unhex at *
  split at h
  · simp at h
  · rename_i r hr; exact hex_unhexL _ _ _ rfl hr

/-! ### quoted forms -/
theorem unqS_plain (p r out : List UInt8) (i : Nat) (h : ∀ b ∈ p, b.toNat ≠ 34 ∧ b.toNat ≠ 92) : unqS 0 i out (p ++ r) = unqS 0 (i + p.length) (out ++ p) r := by
  induction p generalizing i out with
  | nil => simp
  | cons b t ih =>
    have hb := h b (by simp)
    rw [List.cons_append, unqS, if_neg hb.1, if_neg hb.2, ih _ _ (fun c hc => h c (by simp [hc]))]
    simp; congr 1; omega
theorem escX_dig (b : UInt8) : escX (some (dig (b.toNat / 16))) (some (dig (b.toNat % 16))) = (b, 4) := by
  obtain ⟨h1, h2⟩ := esc_val b
  show (if _ then _ else _) = _
  rw [if_pos (by rw [h1, h2]; omega), esc_back]
theorem unqS_form (l r out : List UInt8) (i : Nat) (h : l ≠ []) :
    unqS 0 i out (formAt l 0 ++ r) = unqS 0 (i + (formAt l 0).length) (out ++ l.take (max 1 (szAt l 0))) r := by
  match l, h with
  | b :: t, _ =>
    have hone : b.toNat < 128 → max 1 (szAt (b :: t) 0) = 1 := fun h => by rw [szAt_low rfl h]; rfl
    have hb : (b :: t)[0]? = some b := rfl
    unfold formAt
    simp only [hb]
    have step : ∀ (c : UInt8), escAt (92 :: c :: r) 0 = (b, 2) → max 1 (szAt (b :: t) 0) = 1 → unqS 0 i out ([92, c] ++ r) = unqS 0 (i + 2) (out ++ (b :: t).take (max 1 (szAt (b :: t) 0))) r := by
      intro c hc hm
      show unqS 0 i out (92 :: c :: r) = _
      rw [unqS, if_neg (by decide), if_pos (by decide), hc, hm]
      simp [unqS]
    split
    · rename_i h
      refine step 34 ?_ (hone (by omega))
      have : b = 34 := UInt8.toNat_inj.1 h
      rw [this]; rfl
    · split
      · rename_i h
        refine step 92 ?_ (hone (by omega))
        have : b = 92 := UInt8.toNat_inj.1 h
        rw [this]; rfl
      · split
        · rename_i h
          refine step 110 ?_ (hone (by omega))
          have : b = 10 := UInt8.toNat_inj.1 h
          rw [this]; rfl
        · split
          · rename_i h
            refine step 116 ?_ (hone (by omega))
            have : b = 9 := UInt8.toNat_inj.1 h
            rw [this]; rfl
          · split
            · rename_i h
              refine step 114 ?_ (hone (by omega))
              have : b = 13 := UInt8.toNat_inj.1 h
              rw [this]; rfl
            · split
              · rename_i h
                have hm : max 1 (szAt (b :: t) 0) = 1 := by
                  rcases h with h | h | h
                  · exact hone (by omega)
                  · exact hone (by omega)
                  · rw [h]; rfl
                rw [hm]
                have he : escAt (92 :: 120 :: dig (b.toNat / 16) :: dig (b.toNat % 16) :: r) 0 = (b, 4) := by
                  show escX (some (dig (b.toNat / 16))) (some (dig (b.toNat % 16))) = _
                  exact escX_dig b
                show unqS 0 i out (92 :: 120 :: dig (b.toNat / 16) :: dig (b.toNat % 16) :: r) = _
                rw [unqS, if_neg (by decide), if_pos (by decide), he]
                simp [unqS, esc]
              · rename_i h34 h92 h10 h9 h13 h
                have hz : szAt (b :: t) 0 ≠ 0 := fun hz => h (.inr (.inr hz))
                have hle := sz_pos_lt hz
                have hm : max 1 (szAt (b :: t) 0) = szAt (b :: t) 0 := by omega
                rw [List.drop_zero, hm]
                refine unqS_plain _ _ _ _ ?_
                intro c hc
                obtain ⟨j, hj, rfl⟩ := List.getElem_of_mem hc
                simp only [List.length_take] at hj
                by_cases h1 : szAt (b :: t) 0 = 1
                · have : j = 0 := by omega
                  subst this
                  simp only [List.getElem_take, List.getElem_cons_zero]
                  exact ⟨h34, h92⟩
                · obtain ⟨c, hc, hge⟩ := szAt_ge (l := b :: t) j (by omega) (by omega)
                  obtain ⟨_, rfl⟩ := List.getElem?_eq_some_iff.1 hc
                  simp only [List.getElem_take]
                  omega
theorem quote_cons (l : List UInt8) (h : l ≠ []) : quoteS 0 l = formAt l 0 ++ quoteS 0 (l.drop (max 1 (szAt l 0))) := by
  have h1 := quote_step l 0 (List.length_pos_iff.2 h)
  simpa using h1
theorem unqS_quote : ∀ (n : Nat) (l r out : List UInt8) (i : Nat), l.length = n → unqS 0 i out (quoteS 0 l ++ 34 :: r) = some (out ++ l, i + (quoteS 0 l).length + 1) := by
  intro n
  induction n using Nat.strongRecOn with
  | ind n ih =>
    intro l r out i hn
    by_cases hl : l = []
    · subst hl
      show unqS 0 i out (34 :: r) = _
      rw [unqS, if_pos (by decide)]
      simp [quoteS]
    · have h1 : 0 < l.length := List.length_pos_iff.2 hl
      rw [quote_cons l hl, List.append_assoc, unqS_form l _ _ _ hl, ih (l.drop (max 1 (szAt l 0))).length (by simp; omega) _ _ _ _ rfl]
      simp [List.append_assoc]
      omega
theorem unq_quote (l r : List UInt8) : unq (quote l ++ r) = (l, (quote l).length, 0) := by
  have e : quote l ++ r = 34 :: (quoteS 0 l ++ 34 :: r) := by simp [quote]
  have eu : ∀ t : List UInt8, unq (34 :: t) = unqM (34 :: t) (unqS 0 1 [] t) := fun _ => rfl
  rw [e, eu, unqS_quote _ l r [] 1 rfl]
  have e2 : 1 + (quoteS 0 l).length + 1 = (quote l).length := by simp [quote]; omega
  rw [e2, List.nil_append]
  have e3 : quote l = (34 :: (quoteS 0 l ++ 34 :: r)).take (quote l).length := by
    rw [← e]; simp
  exact if_pos e3
theorem unqS_index (l : List UInt8) : ∀ k i out u m, unqS k i out l = some (u, m) → i < m ∧ m ≤ i + l.length := by
  induction l with
  | nil => intro k i out u m h; cases k <;> simp [unqS] at h
  | cons b t ih =>
    intro k i out u m h
    have hg : ∀ k' out', unqS k' (i + 1) out' t = some (u, m) → i < m ∧ m ≤ i + (b :: t).length := by
      intro k' out' h'
      have := ih _ _ _ _ _ h'
      simp; omega
    cases k with
    | succ k => exact hg _ _ h
    | zero =>
      rw [unqS] at h
      split at h
      · simp at h; simp; omega
      · split at h
        · split at h
          · cases h
          · exact hg _ _ h
        · exact hg _ _ h
theorem unq_yes (q : List UInt8) (h : (unq q).2.2 = 0) : 1 < (unq q).2.1 ∧ (unq q).2.1 ≤ q.length ∧ quote (unq q).1 = q.take (unq q).2.1 := by
  match q, h with
  | [], h => simp [unq] at h
  | b :: t, h =>
    unfold unq at *
    by_cases hb : b.toNat = 34
    · simp only [if_pos hb] at h ⊢
      cases hu : unqS 0 1 [] t with
      | none => rw [hu] at h; simp [unqM] at h
      | some p =>
        obtain ⟨u, m⟩ := p
        rw [hu] at h
        have hi := unqS_index _ _ _ _ _ _ hu
        unfold unqM at *
        simp only at h ⊢
        by_cases he : quote u = (b :: t).take m
        · rw [if_pos he]; refine ⟨hi.1, ?_, he⟩; simp; omega
        · rw [if_neg he] at h; simp at h
    · simp only [if_neg hb] at h; simp at h
theorem unq_no (q : List UInt8) (h : (unq q).2.2 ≠ 0) : unq q = ([], 0, 2) := by
  match q, h with
  | [], h => rfl
  | b :: t, h =>
    unfold unq at *
    by_cases hb : b.toNat = 34
    · simp only [if_pos hb] at h ⊢
      cases hu : unqS 0 1 [] t with
      | none => rfl
      | some p =>
        obtain ⟨u, m⟩ := p
        rw [hu] at h
        unfold unqM at *
        simp only at h ⊢
        by_cases he : quote u = (b :: t).take m
        · rw [if_pos he] at h; simp at h
        · rw [if_neg he]
    · simp only [if_neg hb]

/-- the form of a part: printable, valid whatever follows, and no shorter than the part -/
def Print (l : List UInt8) : Prop := ∀ b ∈ l, 32 ≤ b.toNat ∧ b.toNat ≠ 127
theorem dig_print : ∀ n : Nat, n < 16 → 48 ≤ (dig n).toNat ∧ (dig n).toNat < 127 := by decide
theorem ascii_bad (p : List UInt8) (h : ∀ b ∈ p, b.toNat < 128) : bad p < 0 := by
  induction p with
  | nil => decide
  | cons b t ih =>
    have h1 := ih (fun c hc => h c (by simp [hc]))
    rw [bad_cons _ (by simp), szAt_low rfl (h b (by simp))]
    simp [h1]
theorem form_good (l : List UInt8) (h : l ≠ []) : Print (formAt l 0) ∧ bad (formAt l 0) < 0 ∧ max 1 (szAt l 0) ≤ (formAt l 0).length := by
  match l, h with
  | b :: t, _ =>
    have hone : b.toNat < 128 → max 1 (szAt (b :: t) 0) = 1 := fun h => by rw [szAt_low rfl h]; rfl
    have hb : (b :: t)[0]? = some b := rfl
    have two : ∀ c : UInt8, 32 ≤ c.toNat → c.toNat < 127 → max 1 (szAt (b :: t) 0) = 1 → Print [92, c] ∧ bad [92, c] < 0 ∧ max 1 (szAt (b :: t) 0) ≤ [92, c].length := by
      intro c h1 h2 hm
      refine ⟨?_, ascii_bad _ ?_, by rw [hm]; simp⟩
      · intro d hd
        simp at hd
        rcases hd with rfl | rfl
        · decide
        · omega
      · intro d hd
        simp at hd
        rcases hd with rfl | rfl
        · decide
        · omega
    unfold formAt
    simp only [hb]
    split
    · rename_i h; exact two 34 (by decide) (by decide) (hone (by omega))
    · split
      · rename_i h; exact two 92 (by decide) (by decide) (hone (by omega))
      · split
        · rename_i h; exact two 110 (by decide) (by decide) (hone (by omega))
        · split
          · rename_i h; exact two 116 (by decide) (by decide) (hone (by omega))
          · split
            · rename_i h; exact two 114 (by decide) (by decide) (hone (by omega))
            · split
              · rename_i h
                have hm : max 1 (szAt (b :: t) 0) = 1 := by
                  rcases h with h | h | h
                  · exact hone (by omega)
                  · exact hone (by omega)
                  · rw [h]; rfl
                have hbl := b.toNat_lt
                have d1 := dig_print (b.toNat / 16) (by omega)
                have d2 := dig_print (b.toNat % 16) (by omega)
                have hall : ∀ d ∈ (92 :: 120 :: esc b : List UInt8), 32 ≤ d.toNat ∧ d.toNat < 127 := by
                  intro d hd
                  simp [esc] at hd
                  rcases hd with rfl | rfl | rfl | rfl
                  · decide
                  · decide
                  · omega
                  · omega
                refine ⟨fun d hd => ?_, ascii_bad _ (fun d hd => ?_), by rw [hm]; simp⟩
                · have := hall d hd; omega
                · have := hall d hd; omega
              · rename_i h34 h92 h10 h9 h13 h
                have hz : szAt (b :: t) 0 ≠ 0 := fun hz => h (.inr (.inr hz))
                have hle := sz_pos_lt hz
                have hm : max 1 (szAt (b :: t) 0) = szAt (b :: t) 0 := by omega
                rw [List.drop_zero, hm]
                refine ⟨?_, ?_, ?_⟩
                · intro c hc
                  obtain ⟨j, hj, rfl⟩ := List.getElem_of_mem hc
                  simp only [List.length_take] at hj
                  by_cases h1 : szAt (b :: t) 0 = 1
                  · have : j = 0 := by omega
                    subst this
                    simp only [List.getElem_take, List.getElem_cons_zero]
                    omega
                  · obtain ⟨c, hc, hge⟩ := szAt_ge (l := b :: t) j (by omega) (by omega)
                    obtain ⟨_, rfl⟩ := List.getElem?_eq_some_iff.1 hc
                    simp only [List.getElem_take]
                    omega
                · have hs : szAt ((b :: t).take (szAt (b :: t) 0)) 0 = szAt (b :: t) 0 := by
                    have := szAt_agree (r := (b :: t).take (szAt (b :: t) 0) ++ []) rfl hz (Agree.takeApp _ _ _)
                    simpa using this
                  have hne : (b :: t).take (szAt (b :: t) 0) ≠ [] := by
                    intro he
                    have := congrArg List.length he
                    simp at this
                    omega
                  rw [bad_cons _ hne, hs, if_neg hz, List.drop_eq_nil_of_le (by simp; omega), bad_nil]
                  simp
                · rw [List.length_take]; omega
theorem quote_good : ∀ (n : Nat) (l : List UInt8), l.length = n → Print (quoteS 0 l) ∧ bad (quoteS 0 l) < 0 ∧ l.length ≤ (quoteS 0 l).length := by
  intro n
  induction n using Nat.strongRecOn with
  | ind n ih =>
    intro l hn
    by_cases hl : l = []
    · subst hl; exact ⟨by simp [Print, quoteS], by simp [quoteS, bad_nil], by simp⟩
    · have h1 : 0 < l.length := List.length_pos_iff.2 hl
      obtain ⟨a1, a2, a3⟩ := form_good l hl
      obtain ⟨b1, b2, b3⟩ := ih (l.drop (max 1 (szAt l 0))).length (by simp; omega) _ rfl
      rw [quote_cons l hl]
      refine ⟨?_, ?_, ?_⟩
      · intro b hb
        rw [List.mem_append] at hb
        rcases hb with hb | hb
        · exact a1 b hb
        · exact b1 b hb
      · rw [bad_join _ _ _ rfl a2, if_pos b2]; decide
      · simp at b3 ⊢; omega
theorem quote_print (l : List UInt8) : Print (quote l) := by
  obtain ⟨a1, _, _⟩ := quote_good _ l rfl
  intro b hb
  simp [quote] at hb
  rcases hb with rfl | hb | rfl
  · decide
  · exact a1 b hb
  · decide
theorem quote_valid (l : List UInt8) : bad (quote l) = -1 := by
  obtain ⟨_, a2, _⟩ := quote_good _ l rfl
  have e : quote l = [34] ++ (quoteS 0 l ++ [34]) := rfl
  have h34 : bad [34] < 0 := by decide
  rw [e, bad_join _ _ _ rfl h34, bad_join _ _ _ rfl a2, if_pos h34]
  decide
theorem quote_length (l : List UInt8) : l.length ≤ (quote l).length - 2 ∧ 2 ≤ (quote l).length := by
  obtain ⟨_, _, a3⟩ := quote_good _ l rfl
  simp [quote]; omega
/-- a form has at most four bytes for each byte -/
theorem form_len (l : List UInt8) : (formAt l 0).length ≤ 4 := by
  unfold formAt
  split
  · simp
  · have := szAt_le4 l 0
    (repeat' split) <;> simp [esc] <;> omega
theorem quoteS_len : ∀ (n : Nat) (l : List UInt8), l.length = n → (quoteS 0 l).length ≤ 4 * l.length := by
  intro n
  induction n using Nat.strongRecOn with
  | ind n ih =>
    intro l hn
    by_cases hl : l = []
    · subst hl; simp [quoteS]
    · have h1 : 0 < l.length := List.length_pos_iff.2 hl
      have a := form_len l
      have b := ih (l.drop (max 1 (szAt l 0))).length (by simp; omega) _ rfl
      rw [quote_cons l hl]
      simp at b ⊢; omega
theorem quote_len (l : List UInt8) : (quote l).length ≤ 4 * l.length + 2 := by
  have := quoteS_len _ l rfl
  simp [quote]; omega
end Go.Proofs.Ytckojcfepldhlaa.Utf
