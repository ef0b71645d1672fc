/- Plain facts of layer 6: what the laws Resolves, Splits and Camels ask; no program in sight. -/
import Derived.Test.YtefnihgjacnjfaaDoorIdSpec
namespace Go.Proofs.YtefnihgjacnjfaaDoor.Id
set_option linter.unusedSimpArgs false
set_option linter.unusedVariables false

theorem cut_append (c : UInt8) (b : List UInt8) (hb : c ∉ b) : ∀ a : List UInt8, cut c (a ++ c :: b) = cut c a ++ [b]
  | [] => by
    show cut c (c :: b) = [[]] ++ [b]
    rw [cut_hit, cut_none c b hb]
    rfl
  | x :: a => by
    have ih := cut_append c b hb a
    by_cases hx : x = c
    · subst hx
      rw [List.cons_append, cut_hit, cut_hit, ih]
      rfl
    · rw [List.cons_append, cut_miss c x _ hx, cut_miss c x _ hx, ih]
      have := cut_ne c a
      cases hc : cut c a with
      | nil => exact absurd hc this
      | cons p ps => rfl
theorem isPart_nil : isPart [] = false := by decide
theorem isFull_ne {l : List UInt8} (h : isFull l = true) : l ≠ [] := by
  intro e; subst e
  exact absurd h (by decide)
theorem split_at (l : List UInt8) (i : Nat) (h : lastDot l = i) (hi : i < l.length) (h3 : l[i]? = some 46) : l = l.take i ++ 46 :: l.drop (i + 1) := by
  conv => lhs; rw [← List.take_append_drop i l]
  rw [List.drop_eq_getElem_cons hi]
  rw [List.getElem?_eq_getElem hi] at h3
  rw [Option.some.inj h3]
theorem full_split {l : List UInt8} (h : isFull l = true) : isPart (splitL l).2 = true ∧ join (splitL l).1 (splitL l).2 = l ∧ ((splitL l).1 ≠ [] → isFull (splitL l).1 = true) := by
  unfold isFull at h
  simp only [Bool.and_eq_true, decide_eq_true_eq] at h
  obtain ⟨h1, h2⟩ := h
  rcases lastDot_spec l with ⟨e, hn⟩ | ⟨i, e, hi, h3, h4⟩
  · have hs : splitL l = ([], l) := by unfold splitL; rw [if_pos e]
    rw [cut_none 46 l hn] at h1
    rw [hs]
    simp at h1
    exact ⟨h1, by simp [join], fun h => absurd rfl h⟩
  · have hs : splitL l = (l.take i, l.drop (i + 1)) := by unfold splitL; rw [if_neg (by omega), e]; rfl
    have hl := split_at l i e hi h3
    have hn : (46 : UInt8) ∉ l.drop (i + 1) := by
      intro hm
      obtain ⟨j, hj⟩ := List.mem_iff_getElem?.1 hm
      rw [List.getElem?_drop] at hj
      exact h4 (i + 1 + j) (by omega) hj
    have hc : cut 46 l = cut 46 (l.take i) ++ [l.drop (i + 1)] := by
      conv => lhs; rw [hl]
      exact cut_append 46 _ hn _
    rw [hc, List.all_append] at h1
    simp only [Bool.and_eq_true] at h1
    have ha : l.take i ≠ [] := by
      intro e0
      rw [e0] at h1
      exact absurd h1.1 (by decide)
    rw [hs]
    refine ⟨by simpa using h1.2, ?_, fun _ => ?_⟩
    · show join (l.take i) (l.drop (i + 1)) = l
      unfold join
      rw [if_neg ha]
      exact hl.symm
    · unfold isFull
      simp only [Bool.and_eq_true, decide_eq_true_eq]
      refine ⟨h1.1, ?_⟩
      show (l.take i).length ≤ 120
      rw [List.length_take]
      omega
/-! Camel -/
theorem okB_all {l : List UInt8} (h : okB l = true) : l.all nmB = true := by
  cases l with
  | nil => rfl
  | cons b r =>
    simp only [okB, Bool.and_eq_true] at h
    simp only [List.all_cons, Bool.and_eq_true]
    exact ⟨let_nm b h.1, h.2⟩
theorem isPart_parts {l : List UInt8} (h : isPart l = true) : ∃ b r, l = b :: r ∧ letB b = true ∧ r.all nmB = true ∧ r.length ≤ 39 := by
  unfold isPart at h
  simp only [Bool.and_eq_true, decide_eq_true_eq] at h
  obtain ⟨h1, h2⟩ := h
  cases l with
  | nil => simp at h2
  | cons b r =>
    simp only [okB, Bool.and_eq_true] at h1
    simp only [List.length_cons] at h2
    exact ⟨b, r, rfl, h1.1, h1.2, by omega⟩
theorem u8_all (p : UInt8 → Bool) (h : ∀ b : Fin 256, p (UInt8.ofNat b.val) = true) (b : UInt8) : p b = true := by
  have := h ⟨b.toNat, b.toNat_lt⟩
  simpa using this
theorem up_nm (b : UInt8) : (nmB b = true → nmB (upB b) = true) := by
  have := u8_all (fun b => !nmB b || nmB (upB b)) (by decide +kernel) b
  simp only [Bool.or_eq_true, Bool.not_eq_true'] at this
  intro h
  rcases this with e | e
  · rw [h] at e; cases e
  · exact e
theorem up_ne95 (b : UInt8) : b ≠ 95 → upB b ≠ 95 := by
  have := u8_all (fun b => decide (b = 95) || decide (upB b ≠ 95)) (by decide +kernel) b
  simp only [Bool.or_eq_true, decide_eq_true_eq] at this
  intro h
  rcases this with e | e
  · exact absurd e h
  · exact e
theorem let_up (b : UInt8) : letB b = true → caB (upB b) = true ∧ b ≠ 95 := by
  have := u8_all (fun b => !letB b || (caB (upB b) && decide (b ≠ 95))) (by decide +kernel) b
  simp only [Bool.or_eq_true, Bool.not_eq_true', Bool.and_eq_true, decide_eq_true_eq] at this
  intro h
  rcases this with e | e
  · rw [h] at e; cases e
  · exact e
theorem camelG_facts : ∀ (l : List UInt8) (st : Bool), l.all nmB = true → (camelG st l).all nmB = true ∧ 95 ∉ camelG st l ∧ (camelG st l).length ≤ l.length
  | [], _, _ => by simp [camelG]
  | b :: r, st, h => by
    simp only [List.all_cons, Bool.and_eq_true] at h
    by_cases hb : b = 95
    · have hc : camelG st (b :: r) = camelG true r := by rw [camelG]; exact if_pos hb
      have := camelG_facts r true h.2
      rw [hc]
      exact ⟨this.1, this.2.1, by simp only [List.length_cons]; omega⟩
    · have hc : camelG st (b :: r) = (if st = true then upB b else b) :: camelG false r := by rw [camelG]; exact if_neg hb
      have ih := camelG_facts r false h.2
      have hu := up_nm b h.1
      have hv := up_ne95 b hb
      rw [hc]
      refine ⟨?_, ?_, by simp only [List.length_cons]; omega⟩
      · simp only [List.all_cons, Bool.and_eq_true]
        exact ⟨by cases st <;> simp [h.1, hu], ih.1⟩
      · cases st <;> simp [Ne.symm hb, Ne.symm hv, ih.2.1]
theorem camel_part {l : List UInt8} (h : isPart l = true) : isPart (camel l) = true ∧ (∃ b r, camel l = b :: r ∧ caB b = true) ∧ 95 ∉ camel l := by
  have hc : camel l = camelG true l := by unfold camel; rw [if_pos h]
  obtain ⟨b, r, rfl, hb, hr, hlen⟩ := isPart_parts h
  obtain ⟨hu, hb95⟩ := let_up b hb
  have he : camelG true (b :: r) = upB b :: camelG false r := by rw [camelG]; exact if_neg hb95
  obtain ⟨f1, f2, f3⟩ := camelG_facts r false hr
  rw [hc, he]
  refine ⟨?_, ⟨_, _, rfl, hu⟩, ?_⟩
  · unfold isPart
    simp only [okB, letB, hu, Bool.or_true, Bool.true_and, f1, decide_eq_true_eq, List.length_cons]
    omega
  · have := up_ne95 b hb95
    simp [Ne.symm this, f2]
/-- no capitals, and each underscore is followed by a small letter -/
def plainB : List UInt8 → Bool
  | [] => true
  | b :: r => !caB b && (if b = 95 then (match r with | [] => false | c :: _ => smB c) else true) && plainB r
theorem sm_facts (b : UInt8) : smB b = true → caB (upB b) = true ∧ loB (upB b) = b ∧ b ≠ 95 := by
  have := u8_all (fun b => !smB b || (caB (upB b) && decide (loB (upB b) = b) && decide (b ≠ 95))) (by decide +kernel) b
  simp only [Bool.or_eq_true, Bool.not_eq_true', Bool.and_eq_true, decide_eq_true_eq] at this
  intro h
  rcases this with e | e
  · rw [h] at e; cases e
  · exact ⟨e.1.1, e.1.2, e.2⟩
theorem snake_camel : ∀ (l : List UInt8), plainB l = true → snakeG false (camelG false l) = l
  | [], _ => rfl
  | [b], h => by
    unfold plainB at h
    by_cases hb : b = 95
    · subst hb; exact absurd h (by decide)
    · have hc : camelG false [b] = [b] := by rw [camelG]; exact if_neg hb
      rw [hc]
      simp only [Bool.and_eq_true, Bool.not_eq_true'] at h
      unfold snakeG
      rw [h.1.1]
      rfl
  | b :: c :: r, h => by
    have h0 := h
    unfold plainB at h
    simp only [Bool.and_eq_true, Bool.not_eq_true'] at h
    have ih := snake_camel (c :: r) h.2
    by_cases hb : b = 95
    · subst hb
      rw [if_pos rfl] at h
      obtain ⟨g1, g2, g3⟩ := sm_facts c h.1.2
      have hc1 : camelG false (95 :: c :: r) = upB c :: camelG false r := by
        rw [camelG, if_pos rfl, camelG]
        exact if_neg g3
      have hc2 : camelG false (c :: r) = c :: camelG false r := by rw [camelG]; exact if_neg g3
      have hcc : caB c = false := by
        have h2 := h.2
        unfold plainB at h2
        simp only [Bool.and_eq_true, Bool.not_eq_true'] at h2
        exact h2.1.1
      rw [hc2] at ih
      rw [hc1]
      unfold snakeG at ih ⊢
      rw [hcc] at ih
      rw [g1, g2]
      have : snakeG false (camelG false r) = r := by simpa using ih
      rw [this]
      rfl
    · have hc : camelG false (b :: c :: r) = b :: camelG false (c :: r) := by rw [camelG]; exact if_neg hb
      rw [hc, snakeG, h.1.1, ih]
      rfl
theorem snake_back {l : List UInt8} (h : isPart l = true) (hp : plainB l = true) : snake (camel l) = l := by
  have hq := (camel_part h).1
  unfold snake
  rw [if_pos hq]
  have hc : camel l = camelG true l := by unfold camel; rw [if_pos h]
  rw [hc]
  obtain ⟨b, r, rfl, hb, hr, hlen⟩ := isPart_parts h
  unfold plainB at hp
  simp only [Bool.and_eq_true, Bool.not_eq_true'] at hp
  have hs : smB b = true := by
    unfold letB at hb
    rw [hp.1.1] at hb
    simpa using hb
  obtain ⟨g1, g2, g3⟩ := sm_facts b hs
  have he : camelG true (b :: r) = upB b :: camelG false r := by rw [camelG]; exact if_neg g3
  rw [he, snakeG, g1, g2, snake_camel r hp.2]
  rfl
end Go.Proofs.YtefnihgjacnjfaaDoor.Id
