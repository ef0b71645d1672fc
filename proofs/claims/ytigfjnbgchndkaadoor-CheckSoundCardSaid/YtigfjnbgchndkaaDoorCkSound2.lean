/- More plain facts for the law CheckSound; no program in sight. -/
import Derived.Test.YtigfjnbgchndkaaDoorCkSound
namespace Go.Proofs.YtigfjnbgchndkaaDoor.Ck
set_option linter.unusedSimpArgs false
set_option linter.unusedVariables false

/-- one field of the law's own finite messages -/
def needF (s : PSchema) (fin : List Bool) (f : PField) : Bool := if f.card = 1 ∧ f.tk = 10 then (match idxOf s f.tn with | some k => fin.getD k false | none => false) else true
def onIdx (fin : List Bool) : Option Nat → Bool
  | some k => fin.getD k false
  | none => false
theorem needF_of {s : PSchema} {fin : List Bool} {f : PField} (h : f.card = 1 ∧ f.tk = 10) : needF s fin f = onIdx fin (idxOf s f.tn) := by
  unfold needF
  rw [if_pos h]
  cases idxOf s f.tn <;> rfl
theorem needF_not {s : PSchema} {fin : List Bool} {f : PField} (h : ¬ (f.card = 1 ∧ f.tk = 10)) : needF s fin f = true := by unfold needF; rw [if_neg h]
theorem needs_all (s : PSchema) (fin : List Bool) : ∀ l : List PField, (((l.filter fun f => decide (f.card = 1 ∧ f.tk = 10)).map (·.tn)).all fun n => match idxOf s n with | some k => fin.getD k false | none => false) = l.all (needF s fin)
  | [] => rfl
  | f :: r => by
    have ih := needs_all s fin r
    rw [List.all_cons, ← ih, List.filter_cons]
    by_cases h : f.card = 1 ∧ f.tk = 10
    · rw [if_pos (by simpa using h), List.map_cons, List.all_cons]
      unfold needF
      rw [if_pos h]
    · rw [if_neg (by simpa using h)]
      unfold needF
      rw [if_neg h, Bool.true_and]
theorem sNeeds_all (s : PSchema) (m : PMsg) (fin : List Bool) : sNeeds s m fin = m.fields.all (needF s fin) := needs_all s fin m.fields
theorem drop_all {α : Type} (p : α → Bool) (l : List α) (k : Nat) (x : α) (h : l[k]? = some x) : (l.drop k).all p = (p x && (l.drop (k + 1)).all p) := by
  obtain ⟨hk, rfl⟩ := List.getElem?_eq_some_iff.1 h
  rw [List.drop_eq_getElem_cons hk, List.all_cons]
theorem range_drop (n i : Nat) (h : i < n) : (List.range n).drop i = i :: (List.range n).drop (i + 1) := by
  rw [List.drop_eq_getElem_cons (by simpa using h), List.getElem_range]
theorem sRounds_len (s : PSchema) : ∀ (k : Nat) (fin : List Bool), fin.length = s.msgs.length → (sRounds s k fin).length = s.msgs.length
  | 0, fin, h => h
  | k + 1, fin, h => sRounds_len s k _ (by rw [← h]; exact ((sFold_le s _ fin h).1).symm)
/-- the type of a field as the law reads it -/
def lTyped (s : PSchema) (tk : Int) (tn : Str) : Bool :=
  if tk = 10 then (idxOf s tn).isSome
  else if tk = 9 ∧ (s.enums.any fun e => decide (e.name = tn)) = true then true
  else decide (1 ≤ tk ∧ tk ≤ 8)
theorem lTyped_of {s : PSchema} {f : PField} (h : typed s f = true) : lTyped s f.tk f.tn = true := by
  unfold typed at h
  unfold lTyped
  by_cases h1 : 1 ≤ f.tk ∧ f.tk ≤ 8
  · rw [if_neg (by omega), if_neg (fun c => by omega), decide_eq_true h1]
  · rw [if_neg h1] at h
    by_cases h2 : f.tk = 9
    · rw [if_pos h2] at h
      rw [if_neg (by omega), if_pos]
      refine ⟨h2, ?_⟩
      unfold enumOf at h
      rw [List.find?_isSome] at h
      rw [List.any_eq_true]
      exact h
    · rw [if_neg h2] at h
      by_cases h3 : f.tk = 10
      · rw [if_pos h3, Bool.and_eq_true] at h
        rw [if_pos h3]
        rw [idxOf_isSome]
        exact h.1
      · rw [if_neg h3] at h
        cases h
structure SoundF (s : PSchema) (m : PMsg) (k : Nat) (f : PField) : Prop where
  lo : 1 ≤ f.num
  hi : f.num ≤ 65535
  ord : ∀ g, 0 < k → m.fields[k - 1]? = some g → g.num < f.num
  names : ∀ n g, n < k → m.fields[n]? = some g → g.name ≠ f.name
  typ : lTyped s f.tk f.tn = true
structure SoundM (s : PSchema) (i : Nat) (m : PMsg) : Prop where
  len : m.fields.length ≤ 64
  ord : ∀ p, 0 < i → s.msgs[i - 1]? = some p → p.name < m.name
  field : ∀ k f, m.fields[k]? = some f → SoundF s m k f
theorem sound_m {s : PSchema} (h : all s = []) (i : Nat) (m : PMsg) (hm : s.msgs[i]? = some m) : SoundM s i m := by
  obtain ⟨h1, h2, _, _⟩ := all_nil.1 h
  have hu := (head_nil h1).1.1
  have hok := inMessage_nil (h2 m (List.mem_of_getElem? hm))
  refine ⟨hok.len, fun p hi hp => ?_, fun k f hf => ?_⟩
  · refine rising_pair _ hu (i - 1) _ _ (by rw [List.getElem?_map, hp]; rfl) ?_
    rw [show i - 1 + 1 = i by omega, List.getElem?_map, hm]
    rfl
  · have := fieldP_nil (hok.field k f hf)
    refine ⟨this.1.1, this.1.2, fun g hk hg => ?_, this.2.2.1, lTyped_of this.2.2.2.1⟩
    rcases this.2.1 with e | ⟨g2, hg2, hlt⟩
    · omega
    · rw [hg] at hg2
      have := Option.some.inj hg2
      subst this
      exact hlt
end Go.Proofs.YtigfjnbgchndkaaDoor.Ck
