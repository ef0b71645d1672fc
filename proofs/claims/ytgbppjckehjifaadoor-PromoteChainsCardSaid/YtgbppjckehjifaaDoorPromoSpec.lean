/- Plain functions of layer 29 (promote) and layer 4 (scalar): what both sides compute; no program in sight. -/
import Derived.Test.YtgbppjckehjifaaDoorUtfSpec
namespace Go.Proofs.YtgbppjckehjifaaDoor.Pr

def isF (f : Int) : Bool := decide (f = 1 ∨ f = 2 ∨ f = 4)
def isK (k : Int) : Bool := decide (1 ≤ k ∧ k ≤ 9)
def rowOf (f : Int) : Int := if f = 1 then 0 else if f = 2 then 1 else if f = 4 then 2 else -1
def famT : List Int := [1, 2, 2, 1, 1, 6, 7, 7, 1, 1, 2, 2, 2, 2, 6, 7, 7, 2, 1, 2, 2, 2, 2, 6, 7, 8, 9]
def boundT : List Int := [0, 1, 2147483648, 2147483647, 9223372036854775808, 9223372036854775807, 0, 4294967295, 0, 18446744073709551615, 0, 0, 0, 0, 0, 0, 0, 2147483647]
/-- the least kind of a family -/
def fam (f k : Int) : Int := if isF f = true ∧ isK k = true then famT.getD (rowOf f * 9 + (k - 1)).toNat 0 else 0
def below (k : Int) : Int := boundT.getD (2 * (k - 1)).toNat 0
def most (k : Int) : Int := boundT.getD (2 * (k - 1) + 1).toNat 0
def rel (f a b : Int) : Bool := decide (fam f a ≠ 0 ∧ fam f a = fam f b)
def num (k : Int) : Bool := decide (k ≤ 5 ∨ k = 9)
def sgn (k : Int) : Bool := decide (k = 2 ∨ k = 3)
def txt (k : Int) : Bool := decide (k = 7 ∨ k = 8)
def lev (f a b : Int) : Int := if rel f a b = false then 0 else if a = b then 2 else if num a = true then (if below b < below a ∨ most b < most a then 1 else 2) else if a = 8 then 1 else 2

/-! the specification's way -/
def famR (f k : Int) : Int :=
  if isF f = false ∨ isK k = false then 0
  else if k = 8 ∧ f ≠ 4 then 7
  else if f = 1 then (if k = 4 ∨ k = 5 ∨ k = 9 then 1 else if k = 3 then 2 else k)
  else if (k = 2 ∨ k = 3 ∨ k = 4 ∨ k = 5) ∨ (k = 9 ∧ f = 2) then 2 else k
def great (k : Int) : Int := if k = 1 then 1 else if k = 2 ∨ k = 9 then 2147483647 else if k = 4 then 4294967295 else if k = 3 then 9223372036854775807 else 18446744073709551615
def inR (a b : Int) : Bool := decide (great a ≤ great b ∧ (sgn a = false ∨ sgn b = true))
def levR (f a b : Int) : Int := if famR f a = 0 ∨ famR f a ≠ famR f b then 0 else if a = b ∨ a = 7 then 2 else if a = 8 ∨ inR a b = false then 1 else 2

theorem isK_true {k : Int} (h : isK k = true) : k = 1 ∨ k = 2 ∨ k = 3 ∨ k = 4 ∨ k = 5 ∨ k = 6 ∨ k = 7 ∨ k = 8 ∨ k = 9 := by
  have := of_decide_eq_true h; omega
theorem isF_true {f : Int} (h : isF f = true) : f = 1 ∨ f = 2 ∨ f = 4 := of_decide_eq_true h
theorem isK_not (k : Int) : isK k = false → fam = fam := fun _ => rfl
theorem famR_eq (f k : Int) : famR f k = fam f k := by
  unfold famR fam
  cases hf : isF f with
  | false => simp
  | true =>
    cases hk : isK k with
    | false => simp
    | true =>
      rcases isF_true hf with rfl | rfl | rfl <;> rcases isK_true hk with rfl | rfl | rfl | rfl | rfl | rfl | rfl | rfl | rfl <;> decide
theorem fam_ne {f k : Int} (h : fam f k ≠ 0) : isF f = true ∧ isK k = true := by
  unfold fam at h
  split at h
  · assumption
  · exact absurd rfl h
theorem rel_true {f a b : Int} (h : rel f a b = true) : isF f = true ∧ isK a = true ∧ isK b = true := by
  obtain ⟨h1, h2⟩ := of_decide_eq_true h
  have h3 := fam_ne h1
  rw [h2] at h1
  exact ⟨h3.1, h3.2, (fam_ne h1).2⟩
theorem levR_eq (f a b : Int) : levR f a b = lev f a b := by
  unfold levR lev
  rw [famR_eq, famR_eq]
  cases hr : rel f a b with
  | false =>
    rw [if_pos rfl, if_pos]
    have := of_decide_eq_false hr
    omega
  | true =>
    obtain ⟨h1, h2, h3⟩ := rel_true hr
    rcases isF_true h1 with rfl | rfl | rfl <;> rcases isK_true h2 with rfl | rfl | rfl | rfl | rfl | rfl | rfl | rfl | rfl <;> rcases isK_true h3 with rfl | rfl | rfl | rfl | rfl | rfl | rfl | rfl | rfl <;> first | (exfalso; revert hr; decide) | decide

/-! scalars -/
/-- only the field for its kind is set; n: the parts of the other four -/
def leanB (k b : Int) (t : List UInt8) (n : Nat) : Bool := decide (n = 0) && (if txt k = true then decide (b = 0) else decide (t = []))
def withB (k b : Int) : Bool :=
  if k = 1 then decide (b ≤ 1) else if k = 2 then decide (b ≤ 2147483647 ∨ 18446744071562067968 ≤ b)
  else if k = 9 then decide (b ≤ 2147483647) else if k = 4 then decide (b ≤ 4294967295) else true
def fitsB (kind k b : Int) (t : List UInt8) (n : Nat) : Bool :=
  isK kind && decide (k = kind) && leanB k b t n && withB kind b && decide (t.length ≤ 4096) && (decide (kind ≠ 7) || decide (Utf.bad t < 0))
/-- the class of a double -/
def cls (b : Int) : Int :=
  if 9218868437227405312 < b % 9223372036854775808 then 0 else if b % 9223372036854775808 = 9218868437227405312 then 1
  else if b % 9223372036854775808 = 0 then 2 else if b % 9223372036854775808 < 4503599627370496 then 3 else 4
def normB (k b : Int) : Int := if k = 6 ∧ cls b = 0 then 9221120237041090560 else b

/-! conversions -/
def neg (a x : Int) : Bool := sgn a && decide (9223372036854775808 ≤ x)
def insB (a b x : Int) : Bool := if neg a x = true then decide (18446744073709551616 - x ≤ below b) else decide (x ≤ most b)
/-- the outcome of a conversion -/
def turnE (f a b k x : Int) (t : List UInt8) (n : Nat) : Int :=
  if isF f = false ∨ isK a = false ∨ isK b = false ∨ fitsB a k x t n = false then 1
  else if rel f a b = false then (if f = 1 then 13 else 12)
  else if num a = true ∧ insB a b x = false then 6
  else if b = 7 ∧ ¬ Utf.bad t < 0 then 7 else 0
/-- what a conversion gives: kind, bits, text, outcome -/
def turn (f a b k x : Int) (t : List UInt8) (n : Nat) : Int × Int × List UInt8 × Int :=
  if turnE f a b k x t n = 0 then (b, normB b x, t, 0) else (0, 0, [], turnE f a b k x t n)
/-- an example: kind, bits, text, whether there is one -/
def exam (f a b : Int) : Int × Int × List UInt8 × Bool :=
  if isF f = false ∨ isK a = false ∨ isK b = false ∨ lev f a b = 2 then (0, 0, [], false)
  else if lev f a b = 0 then (a, 0, [], true)
  else if a = 8 then (a, 0, [255], true)
  else if most b = 18446744073709551615 ∨ most a < most b + 1 then (a, 18446744073709551615, [], true)
  else (a, most b + 1, [], true)

/-! the specification's way -/
def turnER (f a b k x : Int) (t : List UInt8) (n : Nat) : Int :=
  if isF f = false ∨ isK a = false ∨ isK b = false ∨ k ≠ a ∨ fitsB a k x t n = false then 1
  else if lev f a b = 0 then (if f = 1 then 13 else 12)
  else if a = 6 then 0
  else if a = 7 ∨ a = 8 then (if fitsB b b x t 0 = false then 7 else 0)
  else if (neg a x = true ∧ sgn b = false) ∨ (neg a x = false ∧ great b < x) ∨ fitsB b b x t 0 = false then 6 else 0
def examR (f a b : Int) : Int × Int × List UInt8 × Bool :=
  if isF f = false ∨ isK a = false ∨ isK b = false then (0, 0, [], false)
  else if lev f a b = 0 then (a, 0, [], true)
  else if lev f a b = 2 then (0, 0, [], false)
  else if a = 8 then (a, 0, [255], true)
  else if great b < great a then (a, great b + 1, [], true)
  else (a, 18446744073709551615, [], true)
theorem examR_eq (f a b : Int) : examR f a b = exam f a b := by
  unfold examR exam
  by_cases h : isF f = false ∨ isK a = false ∨ isK b = false
  · rw [if_pos h, if_pos (by rcases h with h | h | h <;> simp [h])]
  · rw [if_neg h]
    have h1 : isF f = true := by simpa using fun e => h (.inl e)
    have h2 : isK a = true := by simpa using fun e => h (.inr (.inl e))
    have h3 : isK b = true := by simpa using fun e => h (.inr (.inr e))
    rcases isF_true h1 with rfl | rfl | rfl <;> rcases isK_true h2 with rfl | rfl | rfl | rfl | rfl | rfl | rfl | rfl | rfl <;> rcases isK_true h3 with rfl | rfl | rfl | rfl | rfl | rfl | rfl | rfl | rfl <;> decide
theorem fits_parts {kind k b : Int} {t : List UInt8} {n : Nat} (h : fitsB kind k b t n = true) : isK kind = true ∧ k = kind ∧ leanB k b t n = true ∧ withB kind b = true ∧ t.length ≤ 4096 ∧ (kind ≠ 7 ∨ Utf.bad t < 0) := by
  simp only [fitsB, Bool.and_eq_true, Bool.or_eq_true, decide_eq_true_eq] at h
  exact ⟨h.1.1.1.1.1, h.1.1.1.1.2, h.1.1.1.2, h.1.1.2, h.1.2, h.2⟩
theorem ite_dec {c : Bool} {p q : Prop} [Decidable p] [Decidable q] : (if c = true then decide p else decide q) = true ↔ (if c = true then p else q) := by cases c <;> simp
theorem turnER_eq (f a b k x : Int) (t : List UInt8) (n : Nat) (h0 : 0 ≤ x) (hx : x < 18446744073709551616) : turnER f a b k x t n = turnE f a b k x t n := by
  unfold turnER turnE
  by_cases h : isF f = false ∨ isK a = false ∨ isK b = false ∨ fitsB a k x t n = false
  · rw [if_pos h, if_pos (by rcases h with h | h | h | h <;> simp [h])]
  · have h1 : isF f = true := by simpa using fun e => h (.inl e)
    have h2 : isK a = true := by simpa using fun e => h (.inr (.inl e))
    have h3 : isK b = true := by simpa using fun e => h (.inr (.inr (.inl e)))
    have h4 : fitsB a k x t n = true := by simpa using fun e => h (.inr (.inr (.inr e)))
    obtain ⟨_, rfl, hl, hw, ht, hv⟩ := fits_parts h4
    rw [if_neg h, if_neg (by intro hc; rcases hc with e | e | e | e | e <;> simp_all)]
    have hlt : lev f k b = 0 ↔ rel f k b = false := by
      unfold lev
      cases rel f k b <;> simp
      repeat' split
      all_goals decide
    by_cases hr : rel f k b = false
    · rw [if_pos (hlt.2 hr), if_pos hr]
    · rw [if_neg (fun e => hr (hlt.1 e)), if_neg hr]
      have hr' : rel f k b = true := by simpa using hr
      have hl2 : n = 0 ∧ (if txt k = true then x = 0 else t = []) := by
        simp only [leanB, Bool.and_eq_true, decide_eq_true_eq] at hl
        exact ⟨hl.1, ite_dec.1 hl.2⟩
      clear h h4 hl hlt hr
      have key : ∀ b', fitsB b' b' x t 0 = true ↔ (isK b' = true ∧ (if txt b' = true then x = 0 else t = []) ∧ withB b' x = true ∧ (b' ≠ 7 ∨ Utf.bad t < 0)) := by
        intro b'
        simp only [fitsB, leanB, Bool.and_eq_true, Bool.or_eq_true, decide_eq_true_eq]
        constructor
        · intro h
          exact ⟨h.1.1.1.1.1, ite_dec.1 h.1.1.1.2.2, h.1.1.2, h.2⟩
        · intro h
          exact ⟨⟨⟨⟨⟨h.1, trivial⟩, trivial, ite_dec.2 h.2.1⟩, h.2.2.1⟩, ht⟩, h.2.2.2⟩
      have keyf : ∀ b', fitsB b' b' x t 0 = false ↔ ¬ (isK b' = true ∧ (if txt b' = true then x = 0 else t = []) ∧ withB b' x = true ∧ (b' ≠ 7 ∨ Utf.bad t < 0)) := by
        intro b'; rw [← key]; simp
      simp only [keyf]
      obtain ⟨_, hl2⟩ := hl2
      rcases isF_true h1 with rfl | rfl | rfl <;> rcases isK_true h2 with rfl | rfl | rfl | rfl | rfl | rfl | rfl | rfl | rfl <;> rcases isK_true h3 with rfl | rfl | rfl | rfl | rfl | rfl | rfl | rfl | rfl <;>
        first
        | (exfalso; revert hr'; decide)
        | (simp [num, txt, isK, sgn, neg, insB, withB, below, most, boundT, great] at hl2 hw hv ⊢; try subst hl2; try simp; try (repeat' split) <;> omega)
theorem fits_ref (kind x : Int) (t : List UInt8) (n : Nat) : fitsB kind kind x t n = (isK kind && decide (n = 0) && (if txt kind = true then decide (x = 0) && decide (t.length ≤ 4096) && (decide (kind = 8) || decide (Utf.bad t < 0)) else decide (t = []) && withB kind x)) := by
  unfold fitsB leanB
  cases hk : isK kind
  · simp
  · cases ht : txt kind
    · have h7 : kind ≠ 7 := by
        intro h; subst h; exact absurd ht (by decide)
      by_cases hn : t = []
      · subst hn; simp [h7]
      · simp [hn]
    · have h78 : kind = 7 ∨ kind = 8 := of_decide_eq_true ht
      rcases h78 with rfl | rfl
      · simp [withB, Bool.and_assoc]
      · simp [withB, Bool.and_assoc]
end Go.Proofs.YtgbppjckehjifaaDoor.Pr
