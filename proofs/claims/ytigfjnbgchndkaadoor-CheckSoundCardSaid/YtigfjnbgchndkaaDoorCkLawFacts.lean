/- Plain facts of layer 12's laws: what a schema without problems has; no program in sight. -/
import Derived.Test.YtigfjnbgchndkaaDoorCkFin
namespace Go.Proofs.YtigfjnbgchndkaaDoor.Ck
set_option linter.unusedSimpArgs false
set_option linter.unusedVariables false

theorem un_nil {d : Str} {num : Int} {ok : Bool} {e : Int} : un d num ok e = [] ↔ ok = true := by
  unfold un
  cases ok <;> simp
theorem listP_nil {l : List Str} : listP l = [] ↔ l.length ≤ 64 ∧ rising l = true := by
  unfold listP
  rw [List.append_eq_nil_iff, un_nil, un_nil, decide_eq_true_iff]
theorem head_nil {s : PSchema} (h : head s = []) : (rising (s.msgs.map (·.name)) = true ∧ rising (s.enums.map (·.name)) = true ∧ rising (s.svcs.map (·.name)) = true) ∧ (s.msgs.length ≤ 64 ∧ s.enums.length ≤ 64 ∧ s.svcs.length ≤ 64) ∧ apart (s.msgs.map (·.name)) (s.enums.map (·.name)) (s.svcs.map (·.name)) = true := by
  unfold head at h
  simp only [List.append_eq_nil_iff, listP_nil, un_nil, List.length_map] at h
  obtain ⟨⟨⟨⟨a1, a2⟩, b1, b2⟩, c1, c2⟩, d⟩ := h
  exact ⟨⟨a2, b2, c2⟩, ⟨a1, b1, c1⟩, d⟩
theorem flat_nil {α β : Type} {l : List α} {f : α → List β} : l.flatMap f = [] ↔ ∀ x, x ∈ l → f x = [] := by
  simp [List.flatMap_eq_nil_iff]
theorem all_nil {s : PSchema} : all s = [] ↔ head s = [] ∧ (∀ m, m ∈ s.msgs → inMessage s m (finite s) = []) ∧ (∀ e, e ∈ s.enums → enum e = []) ∧ (∀ v, v ∈ s.svcs → service s v = []) := by
  unfold all
  simp only [List.append_eq_nil_iff, flat_nil]
  constructor
  · rintro ⟨⟨⟨a, b⟩, c⟩, d⟩; exact ⟨a, b, c, d⟩
  · rintro ⟨a, b, c, d⟩; exact ⟨⟨⟨a, b⟩, c⟩, d⟩
theorem valid_iff {s : PSchema} : valid s = true ↔ all s = [] := by unfold valid; cases all s <;> simp
/-! the parts -/
def rest (s : PSchema) : List PProb := s.msgs.flatMap (fun m => message s m) ++ s.enums.flatMap enum ++ s.svcs.flatMap (service s)
theorem all_parts (s : PSchema) : all s = head s ++ rest s := by unfold all rest message; simp [List.append_assoc]
theorem un_len (d : Str) (num : Int) (ok : Bool) (e : Int) : (un d num ok e).length ≤ 1 := by unfold un; cases ok <;> simp
theorem head_len (s : PSchema) : (head s).length ≤ 7 := by
  unfold head listP
  simp only [List.length_append]
  have := un_len
  have h1 := this [] (-1) (decide ((s.msgs.map (·.name)).length ≤ 64)) 3
  have h2 := this [] (-1) (rising (s.msgs.map (·.name))) 11
  have h3 := this [] (-1) (decide ((s.enums.map (·.name)).length ≤ 64)) 3
  have h4 := this [] (-1) (rising (s.enums.map (·.name))) 11
  have h5 := this [] (-1) (decide ((s.svcs.map (·.name)).length ≤ 64)) 3
  have h6 := this [] (-1) (rising (s.svcs.map (·.name))) 11
  have h7 := this [] (-1) (apart (s.msgs.map (·.name)) (s.enums.map (·.name)) (s.svcs.map (·.name))) 9
  omega
theorem un_plain {d : Str} {num : Int} {ok : Bool} {e : Int} {p : PProb} (h : p ∈ un d num ok e) : p.df = d ∧ p.num = num := by
  unfold un at h
  cases ok <;> simp at h
  subst h
  exact ⟨rfl, rfl⟩
theorem head_plain {s : PSchema} {p : PProb} (h : p ∈ head s) : p.df = [] ∧ p.num = -1 := by
  unfold head listP at h
  simp only [List.mem_append] at h
  rcases h with ((((h | h) | (h | h)) | (h | h)) | h) <;> exact un_plain h
/-! order -/
theorem rising_pair : ∀ (l : List Str), rising l = true → ∀ (i : Nat) a b, l[i]? = some a → l[i + 1]? = some b → a < b
  | [], _, i, a, b, h, _ => by simp at h
  | x :: r, h, i, a, b, ha, hb => by
    have h' : risingGo x r = true := h
    have go : ∀ (r : List Str) (x : Str), risingGo x r = true → ∀ (i : Nat) a b, (x :: r)[i]? = some a → (x :: r)[i + 1]? = some b → a < b := by
      intro r
      induction r with
      | nil => intro x _ i a b _ hb; simp at hb
      | cons y r ih =>
        intro x h i a b ha hb
        unfold risingGo at h
        simp only [Bool.and_eq_true, ltS, decide_eq_true_eq] at h
        cases i with
        | zero =>
          simp at ha hb
          subst ha hb
          exact h.1
        | succ i => exact ih y h.2 i a b (by simpa using ha) (by simpa using hb)
    exact go r x h' i a b ha hb
end Go.Proofs.YtigfjnbgchndkaaDoor.Ck
