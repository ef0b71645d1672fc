/- Plain functions of layer 6 (names): what both sides compute; no program in sight. -/
import Derived.Lib.Split
namespace Go.Proofs.YtefnihgjacnjfaaDoor.Id
set_option linter.unusedSimpArgs false
set_option linter.unusedVariables false

/-- the class of a rune -/
def cls (c : Int) : Int := if 97 ≤ c ∧ c ≤ 122 then 1 else if 65 ≤ c ∧ c ≤ 90 then 2 else if 48 ≤ c ∧ c ≤ 57 then 3 else if c = 95 then 4 else 0
def smB (b : UInt8) : Bool := decide (97 ≤ b.toNat ∧ b.toNat ≤ 122)
def caB (b : UInt8) : Bool := decide (65 ≤ b.toNat ∧ b.toNat ≤ 90)
def nmB (b : UInt8) : Bool := decide (cls b.toNat ≠ 0)
def letB (b : UInt8) : Bool := smB b || caB b
/-- name characters that begin with a letter -/
def okB : List UInt8 → Bool
  | [] => true
  | b :: r => letB b && r.all nmB
def isPart (l : List UInt8) : Bool := okB l && decide (1 ≤ l.length ∧ l.length ≤ 40)
def onHead (b : UInt8) : List (List UInt8) → List (List UInt8)
  | [] => [[b]]
  | p :: ps => (b :: p) :: ps
/-- cut at each c -/
def cut (c : UInt8) : List UInt8 → List (List UInt8)
  | [] => [[]]
  | b :: r => if b = c then [] :: cut c r else onHead b (cut c r)
def isFull (l : List UInt8) : Bool := (cut 46 l).all isPart && decide (l.length ≤ 120)
def join (s n : List UInt8) : List UInt8 := if s = [] then n else s ++ 46 :: n
/-- the place of the last dot, -1 if there is none -/
def lastDot : List UInt8 → Int
  | [] => -1
  | b :: r => if lastDot r = -1 then (if b = 46 then 0 else -1) else lastDot r + 1
def splitL (l : List UInt8) : List UInt8 × List UInt8 := if lastDot l = -1 then ([], l) else (l.take (lastDot l).toNat, l.drop ((lastDot l).toNat + 1))
def upF : Nat → List UInt8 → List (List UInt8)
  | 0, l => [l]
  | n + 1, l => if l = [] then [l] else l :: upF n (splitL l).1
def up (l : List UInt8) : List (List UInt8) := upF l.length l
def has (known : List (List UInt8)) (s : List UInt8) : Bool := decide (s ∈ known)
def resolve (scope name : List UInt8) (known : List (List UInt8)) : List UInt8 × Bool :=
  match name with
  | 46 :: abs => if has known abs = true then (abs, true) else ([], false)
  | _ => match (up scope).find? (fun s => has known (join s name)) with
    | some s => (join s name, true)
    | none => ([], false)
def upB (b : UInt8) : UInt8 := if smB b = true then b - 32 else b
def loB (b : UInt8) : UInt8 := if caB b = true then b + 32 else b
def cap : List UInt8 → List UInt8
  | [] => []
  | b :: r => upB b :: r
def camelG : Bool → List UInt8 → List UInt8
  | _, [] => []
  | st, b :: r => if b = 95 then camelG true r else (if st = true then upB b else b) :: camelG false r
def camel (l : List UInt8) : List UInt8 := if isPart l = true then camelG true l else []
def snakeG : Bool → List UInt8 → List UInt8
  | _, [] => []
  | first, b :: r => (if caB b = true then (if first = true then [loB b] else [95, loB b]) else [b]) ++ snakeG false r
def snakeU : Bool → List UInt8 → List UInt8
  | _, [] => []
  | first, b :: r => (if caB b = true then (if first = true then [b] else [95, b]) else [b]) ++ snakeU false r
def snake (l : List UInt8) : List UInt8 := if isPart l = true then snakeG true l else []

theorem bcls (b : UInt8) : cls b.toNat = if smB b = true then 1 else if caB b = true then 2 else if 48 ≤ b.toNat ∧ b.toNat ≤ 57 then 3 else if b.toNat = 95 then 4 else 0 := by
  unfold cls smB caB
  simp only [decide_eq_true_eq]
  (repeat' split) <;> first | rfl | omega
theorem let_nm (b : UInt8) (h : letB b = true) : nmB b = true := by
  unfold letB at h
  unfold nmB
  rw [bcls]
  cases h1 : smB b <;> cases h2 : caB b <;> simp_all
theorem cut_hit (c : UInt8) (r : List UInt8) : cut c (c :: r) = [] :: cut c r := by rw [cut]; exact if_pos rfl
theorem cut_miss (c b : UInt8) (r : List UInt8) (h : b ≠ c) : cut c (b :: r) = onHead b (cut c r) := by rw [cut]; exact if_neg h
theorem cut_ne (c : UInt8) (l : List UInt8) : cut c l ≠ [] := by
  cases l with
  | nil => simp [cut]
  | cons b r =>
    by_cases hb : b = c
    · subst hb; rw [cut_hit]; simp
    · rw [cut_miss c b r hb]
      cases cut c r <;> simp [onHead]
theorem cut_none (c : UInt8) : ∀ l : List UInt8, c ∉ l → cut c l = [l]
  | [], _ => rfl
  | b :: r, h => by
    have hb : b ≠ c := fun e => h (by simp [e])
    have hr : c ∉ r := fun e => h (by simp [e])
    rw [cut_miss c b r hb, cut_none c r hr]
    rfl
theorem idx_one (c : UInt8) : ∀ l : List UInt8, (Lib.index l [c] = -1 ∧ c ∉ l) ∨ (0 ≤ Lib.index l [c])
  | [] => .inl ⟨by simp [Lib.index], by simp⟩
  | b :: r => by
    unfold Lib.index
    by_cases hb : c = b
    · subst hb
      right
      simp [List.isPrefixOf]
    · have hp : ([c].isPrefixOf (b :: r)) = false := by simp [List.isPrefixOf, hb]
      rw [if_neg (by simp [hp])]
      rcases idx_one c r with ⟨h1, h2⟩ | h
      · left
        rw [if_pos (by simp [h1])]
        exact ⟨rfl, by simp [hb, h2]⟩
      · right
        rw [if_neg (by simp; omega)]
        omega
theorem split_cut (c : UInt8) : ∀ l : List UInt8, Lib.splitK [c] 0 (Lib.count l [c]) l = cut c l
  | [] => by
    rw [Lib.count_miss (by simp [Lib.index])]
    rfl
  | b :: r => by
    by_cases hb : c = b
    · subst hb
      have hi : Lib.index (c :: r) [c] = ((0 : Nat) : Int) := by unfold Lib.index; simp [List.isPrefixOf]
      rw [Lib.count_hit (by simp) hi, Nat.add_comm]
      unfold Lib.splitK
      rw [hi, if_neg (by simp)]
      have := split_cut c r
      simp only [Int.toNat_natCast, List.length_cons, List.length_nil, List.drop_succ_cons, List.drop_zero, List.take_zero, Nat.zero_add]
      rw [this, cut_hit]
    · have hp : ([c].isPrefixOf (b :: r)) = false := by simp [List.isPrefixOf, hb]
      have ih := split_cut c r
      rcases idx_one c r with ⟨h1, h2⟩ | h
      · have hi : Lib.index (b :: r) [c] = -1 := by
          unfold Lib.index
          rw [if_neg (by simp [hp]), if_pos (by simp [h1])]
        rw [Lib.count_miss hi, cut_none c (b :: r) (by simp [hb, h2])]
        rfl
      · obtain ⟨i, hi⟩ := Int.eq_ofNat_of_zero_le h
        have hi' : Lib.index r [c] = (i : Int) := hi
        have hi2 : Lib.index (b :: r) [c] = ((i + 1 : Nat) : Int) := by
          unfold Lib.index
          rw [if_neg (by simp [hp]), if_neg (by simp; omega), hi']
          rfl
        rw [Lib.count_hit (by simp) hi', Nat.add_comm] at ih
        rw [Lib.count_hit (by simp) hi2, Nat.add_comm]
        unfold Lib.splitK at ih ⊢
        rw [hi', if_neg (by simp)] at ih
        rw [hi2, if_neg (by simp; omega)]
        rw [cut_miss c b r (fun e => hb e.symm), ← ih]
        simp [onHead]
theorem split_one (c : UInt8) (l : List UInt8) : Lib.split l [c] = cut c l := split_cut c l

theorem camelG_cut : ∀ l : List UInt8, (cut 95 l).flatMap cap = camelG true l ∧ ∃ p ps, cut 95 l = p :: ps ∧ p ++ ps.flatMap cap = camelG false l
  | [] => ⟨rfl, [], [], rfl, rfl⟩
  | b :: r => by
    obtain ⟨h1, p, ps, h2, h3⟩ := camelG_cut r
    by_cases hb : b = 95
    · subst hb
      have hc : cut 95 (95 :: r) = [] :: cut 95 r := cut_hit 95 r
      have hg : ∀ st, camelG st (95 :: r) = camelG true r := fun st => by rw [camelG]; exact if_pos rfl
      rw [hc, hg]
      exact ⟨by simp [cap, h1], [], cut 95 r, rfl, by rw [hg]; simp [h1]⟩
    · have hc : cut 95 (b :: r) = (b :: p) :: ps := by rw [cut_miss 95 b r hb, h2]; rfl
      have hg : ∀ st, camelG st (b :: r) = (if st = true then upB b else b) :: camelG false r := fun st => by rw [camelG, if_neg hb]
      rw [hc, hg]
      refine ⟨by simp [cap, h3], b :: p, ps, rfl, by rw [hg]; simp [h3]⟩
theorem lo_snake (l : List UInt8) (h : l.all nmB = true) (f : Bool) : (snakeU f l).map loB = snakeG f l := by
  induction l generalizing f with
  | nil => rfl
  | cons b r ih =>
    simp only [List.all_cons, Bool.and_eq_true] at h
    have := ih h.2 false
    unfold snakeU snakeG
    rw [List.map_append, this]
    congr 1
    have h95 : loB 95 = 95 := by decide
    cases hc : caB b
    · simp [loB, hc]
    · cases f <;> simp [h95]
/-! the last dot -/
theorem lastDot_ge : ∀ l : List UInt8, -1 ≤ lastDot l ∧ lastDot l < l.length
  | [] => by simp [lastDot]
  | b :: r => by
    have := lastDot_ge r
    unfold lastDot
    simp only [List.length_cons]
    (repeat' split) <;> omega
theorem lastDot_none : ∀ l : List UInt8, lastDot l = -1 ↔ 46 ∉ l
  | [] => by simp [lastDot]
  | b :: r => by
    have := lastDot_none r
    have hg := lastDot_ge r
    unfold lastDot
    by_cases hr : lastDot r = -1
    · rw [if_pos hr]
      by_cases hb : b = 46
      · simp [hb]
      · simp [hb, this.1 hr, Ne.symm hb]
    · rw [if_neg hr]
      have h2 : 46 ∈ r := Decidable.byContradiction fun e => hr (this.2 e)
      simp [h2]
      omega
theorem lastDot_at (l : List UInt8) (i : Nat) (h1 : l[i]? = some 46) (h2 : ∀ j, i < j → l[j]? ≠ some 46) : lastDot l = i := by
  induction l generalizing i with
  | nil => simp at h1
  | cons b r ih =>
    unfold lastDot
    cases i with
    | zero =>
      have hr : lastDot r = -1 := (lastDot_none r).2 (fun hm => by
        obtain ⟨j, hj⟩ := List.mem_iff_getElem?.1 hm
        exact h2 (j + 1) (by omega) (by simpa using hj))
      simp at h1
      rw [if_pos hr, if_pos h1]
      rfl
    | succ i =>
      have := ih i (by simpa using h1) (fun j hj => by simpa using h2 (j + 1) (by omega))
      rw [if_neg (by omega), this]
      rfl
theorem lastDot_spec (l : List UInt8) : (lastDot l = -1 ∧ 46 ∉ l) ∨ ∃ i : Nat, lastDot l = i ∧ i < l.length ∧ l[i]? = some 46 ∧ ∀ j, i < j → l[j]? ≠ some 46 := by
  induction l with
  | nil => exact .inl ⟨rfl, by simp⟩
  | cons b r ih =>
    unfold lastDot
    rcases ih with ⟨h1, h2⟩ | ⟨i, h1, h2, h3, h4⟩
    · rw [if_pos h1]
      by_cases hb : b = 46
      · right
        refine ⟨0, by rw [if_pos hb]; rfl, by simp, by simp [hb], fun j hj hc => ?_⟩
        obtain ⟨k, rfl⟩ : ∃ k, j = k + 1 := ⟨j - 1, by omega⟩
        exact h2 (List.mem_iff_getElem?.2 ⟨k, by simpa using hc⟩)
      · left
        exact ⟨by rw [if_neg hb], by simp [Ne.symm hb, h2]⟩
    · right
      refine ⟨i + 1, by rw [if_neg (by omega), h1]; rfl, by simp; omega, by simpa using h3, fun j hj => ?_⟩
      obtain ⟨k, rfl⟩ : ∃ k, j = k + 1 := ⟨j - 1, by omega⟩
      simpa using h4 k (by omega)
theorem splitL_lt (l : List UInt8) (h : l ≠ []) : (splitL l).1.length < l.length := by
  have := lastDot_ge l
  have hp : 0 < l.length := List.length_pos_iff.2 h
  unfold splitL
  split
  · exact hp
  · simp only [List.length_take]
    omega
theorem upF_enough : ∀ (n m : Nat) (l : List UInt8), l.length ≤ n → l.length ≤ m → upF n l = upF m l
  | 0, 0, _, _, _ => rfl
  | 0, m + 1, l, h, _ => by
    have : l = [] := List.eq_nil_of_length_eq_zero (by omega)
    subst this; rfl
  | n + 1, 0, l, _, h => by
    have : l = [] := List.eq_nil_of_length_eq_zero (by omega)
    subst this; rfl
  | n + 1, m + 1, l, h1, h2 => by
    unfold upF
    split
    · rfl
    · rename_i hl
      have := splitL_lt l hl
      rw [upF_enough n m _ (by omega) (by omega)]
theorem up_cons (l : List UInt8) (h : l ≠ []) : up l = l :: up (splitL l).1 := by
  unfold up
  have := splitL_lt l h
  obtain ⟨n, hn⟩ : ∃ n, l.length = n + 1 := ⟨l.length - 1, by omega⟩
  rw [hn]
  show (if l = [] then [l] else l :: upF n (splitL l).1) = _
  rw [if_neg h, upF_enough n (splitL l).1.length _ (by omega) (Nat.le_refl _)]
theorem up_nil : up [] = [[]] := rfl
end Go.Proofs.YtefnihgjacnjfaaDoor.Id
