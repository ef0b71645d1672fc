/- Plain functions on lists of bytes: what layer 3 (utf) computes; no program in sight. -/
import GoSem.Core.Utf8
namespace Go.Proofs.YtgbppjckehjifaaDoor.Utf

/-- a byte from lo to hi at an index -/
def btw (l : List UInt8) (i lo hi : Nat) : Bool := match l[i]? with
  | some b => decide (lo ≤ b.toNat) && decide (b.toNat ≤ hi)
  | none => false
/-- n bytes from 128 to 191 from an index on -/
def tl (l : List UInt8) (i : Nat) : Nat → Bool
  | 0 => true
  | n + 1 => btw l i 128 191 && tl l (i + 1) n
/-- the length of the well-formed sequence at an index, 0 if there is none -/
def szAt (l : List UInt8) (i : Nat) : Nat := match l[i]? with
  | none => 0
  | some u =>
    if u.toNat < 128 then 1
    else if 194 ≤ u.toNat ∧ u.toNat ≤ 223 ∧ tl l (i + 1) 1 = true then 2
    else if u.toNat = 224 ∧ btw l (i + 1) 160 191 = true ∧ tl l (i + 2) 1 = true then 3
    else if u.toNat = 237 ∧ btw l (i + 1) 128 159 = true ∧ tl l (i + 2) 1 = true then 3
    else if 225 ≤ u.toNat ∧ u.toNat ≤ 239 ∧ u.toNat ≠ 237 ∧ tl l (i + 1) 2 = true then 3
    else if u.toNat = 240 ∧ btw l (i + 1) 144 191 = true ∧ tl l (i + 2) 2 = true then 4
    else if 241 ≤ u.toNat ∧ u.toNat ≤ 243 ∧ tl l (i + 1) 3 = true then 4
    else if u.toNat = 244 ∧ btw l (i + 1) 128 143 = true ∧ tl l (i + 2) 2 = true then 4
    else 0
def sz (l : List UInt8) : Nat := szAt l 0

theorem btw_drop (l : List UInt8) (i k lo hi : Nat) : btw (l.drop i) k lo hi = btw l (i + k) lo hi := by
  simp [btw, List.getElem?_drop]
theorem tl_drop (l : List UInt8) (i n : Nat) : ∀ k, tl (l.drop i) k n = tl l (i + k) n := by
  induction n with
  | zero => intro k; rfl
  | succ n ih => intro k; simp [tl, btw_drop, ih, Nat.add_assoc]
theorem szAt_drop (l : List UInt8) (i k : Nat) : szAt (l.drop i) k = szAt l (i + k) := by
  simp [szAt, List.getElem?_drop, btw_drop, tl_drop, Nat.add_assoc]
theorem sz_drop (l : List UInt8) (i : Nat) : sz (l.drop i) = szAt l i := by simp [sz, szAt_drop]

theorem szAt_le4 (l : List UInt8) (i : Nat) : szAt l i ≤ 4 := by
  unfold szAt
  split
  · omega
  · (repeat' split) <;> omega

theorem btw_lt {l : List UInt8} {i lo hi : Nat} (h : btw l i lo hi = true) : i < l.length := by
  unfold btw at h
  cases hl : l[i]? with
  | none => simp [hl] at h
  | some b => exact (List.getElem?_eq_some_iff.1 hl).1
theorem tl_lt {l : List UInt8} : ∀ {n i : Nat}, tl l i n = true → i + n ≤ l.length ∨ n = 0 := by
  intro n
  induction n with
  | zero => intro i _; exact .inr rfl
  | succ n ih =>
    intro i h
    simp only [tl, Bool.and_eq_true] at h
    have h1 := btw_lt h.1
    rcases ih h.2 with h2 | h2 <;> omega
theorem szAt_lt {l : List UInt8} {i : Nat} : szAt l i ≠ 0 → i + szAt l i ≤ l.length := by
  unfold szAt
  cases hl : l[i]? with
  | none => simp
  | some b =>
    have hi : i < l.length := (List.getElem?_eq_some_iff.1 hl).1
    simp only
    repeat' split
    all_goals intro h0
    · omega
    · rename_i h; have := tl_lt h.2.2; omega
    · rename_i h; have := tl_lt h.2.2; omega
    · rename_i h; have := tl_lt h.2.2; omega
    · rename_i h; have := tl_lt h.2.2.2; omega
    · rename_i h; have := tl_lt h.2.2; omega
    · rename_i h; have := tl_lt h.2.2; omega
    · rename_i h; have := tl_lt h.2.2; omega
    · omega

/-- the number of parts; k bytes are to be passed over -/
def cntS : Nat → List UInt8 → Nat
  | _, [] => 0
  | k + 1, _ :: t => cntS k t
  | 0, b :: t => 1 + cntS (sz (b :: t) - 1) t
def cnt (l : List UInt8) : Nat := cntS 0 l
theorem cntS_drop (l : List UInt8) : ∀ k, cntS k l = cnt (l.drop k) := by
  induction l with
  | nil => intro k; cases k <;> simp [cntS, cnt]
  | cons b t ih =>
    intro k
    cases k with
    | zero => rfl
    | succ k => simp [cntS, ih]
theorem cnt_step (l : List UInt8) (i : Nat) (h : i < l.length) : cnt (l.drop i) = 1 + cnt (l.drop (i + max 1 (szAt l i))) := by
  rw [List.drop_eq_getElem_cons h]
  rw [cnt, cntS, ← List.drop_eq_getElem_cons h, sz_drop, cntS_drop, List.drop_drop]
  congr 2; congr 1; omega

/-- the index of the first wrong byte, or -1; k bytes are to be passed over, i is the index of the first -/
def badS : Nat → Nat → List UInt8 → Int
  | _, _, [] => -1
  | k + 1, i, _ :: t => badS k (i + 1) t
  | 0, i, b :: t => if sz (b :: t) = 0 then (i : Int) else badS (sz (b :: t) - 1) (i + 1) t
def bad (l : List UInt8) : Int := badS 0 0 l
theorem badS_drop (l : List UInt8) : ∀ k i, badS k i l = badS 0 (i + k) (l.drop k) := by
  induction l with
  | nil => intro k i; cases k <;> simp [badS]
  | cons b t ih =>
    intro k i
    cases k with
    | zero => rfl
    | succ k => simp only [badS, List.drop_succ_cons]; rw [ih]; congr 1; omega
theorem badS_step (l : List UInt8) (i : Nat) (h : i < l.length) :
    badS 0 i (l.drop i) = if szAt l i = 0 then (i : Int) else badS 0 (i + szAt l i) (l.drop (i + szAt l i)) := by
  rw [List.drop_eq_getElem_cons h]
  rw [badS, ← List.drop_eq_getElem_cons h, sz_drop]
  split
  · rfl
  · rw [badS_drop, List.drop_drop]
    have e : i + 1 + (szAt l i - 1) = i + szAt l i := by omega
    rw [e]
theorem bad_end (l : List UInt8) (i : Nat) (h : l.length ≤ i) : badS 0 i (l.drop i) = -1 := by
  rw [List.drop_eq_nil_of_le h]; rfl
theorem cnt_end (l : List UInt8) (i : Nat) (h : l.length ≤ i) : cnt (l.drop i) = 0 := by
  rw [List.drop_eq_nil_of_le h]; rfl

/-- a hexadecimal digit -/
def dig (n : Nat) : UInt8 := UInt8.ofNat (if n < 10 then 48 + n else 87 + n)
def esc (b : UInt8) : List UInt8 := [dig (b.toNat / 16), dig (b.toNat % 16)]
/-- the form of the part at the head -/
def formAt (l : List UInt8) (i : Nat) : List UInt8 := match l[i]? with
  | none => []
  | some b =>
    if b.toNat = 34 then [92, 34] else if b.toNat = 92 then [92, 92] else if b.toNat = 10 then [92, 110]
    else if b.toNat = 9 then [92, 116] else if b.toNat = 13 then [92, 114]
    else if b.toNat < 32 ∨ b.toNat = 127 ∨ szAt l i = 0 then 92 :: 120 :: esc b
    else (l.drop i).take (szAt l i)
theorem formAt_drop (l : List UInt8) (i k : Nat) : formAt (l.drop i) k = formAt l (i + k) := by
  simp [formAt, List.getElem?_drop, szAt_drop, List.drop_drop]
def quoteS : Nat → List UInt8 → List UInt8
  | _, [] => []
  | k + 1, _ :: t => quoteS k t
  | 0, b :: t => formAt (b :: t) 0 ++ quoteS (sz (b :: t) - 1) t
def quote (l : List UInt8) : List UInt8 := 34 :: (quoteS 0 l ++ [34])
theorem quoteS_drop (l : List UInt8) : ∀ k, quoteS k l = quoteS 0 (l.drop k) := by
  induction l with
  | nil => intro k; cases k <;> simp [quoteS]
  | cons b t ih =>
    intro k
    cases k with
    | zero => rfl
    | succ k => simp [quoteS, ih]
theorem quote_step (l : List UInt8) (i : Nat) (h : i < l.length) :
    quoteS 0 (l.drop i) = formAt l i ++ quoteS 0 (l.drop (i + max 1 (szAt l i))) := by
  rw [List.drop_eq_getElem_cons h]
  rw [quoteS, ← List.drop_eq_getElem_cons h, sz_drop, quoteS_drop, List.drop_drop, formAt_drop]
  congr 3; omega
theorem quote_end (l : List UInt8) (i : Nat) (h : l.length ≤ i) : quoteS 0 (l.drop i) = [] := by
  rw [List.drop_eq_nil_of_le h]; rfl

/-- the value of a hexadecimal digit, or -1 -/
def val (b : UInt8) : Int := if 48 ≤ b.toNat ∧ b.toNat ≤ 57 then (b.toNat : Int) - 48 else if 97 ≤ b.toNat ∧ b.toNat ≤ 102 then (b.toNat : Int) - 87 else -1
def escX : Option UInt8 → Option UInt8 → UInt8 × Nat
  | some h, some k => if 0 ≤ val h ∧ 0 ≤ val k then (UInt8.ofNat (16 * (val h).toNat + (val k).toNat), 4) else (0, 0)
  | _, _ => (0, 0)
/-- the escape at an index: the byte and the length of the form, 0 if there is none -/
def escAt (l : List UInt8) (i : Nat) : UInt8 × Nat := match l[i + 1]? with
  | none => (0, 0)
  | some c =>
    if c.toNat = 34 then (34, 2) else if c.toNat = 92 then (92, 2) else if c.toNat = 110 then (10, 2)
    else if c.toNat = 116 then (9, 2) else if c.toNat = 114 then (13, 2)
    else if c.toNat = 120 then escX l[i + 2]? l[i + 3]?
    else (0, 0)
theorem escAt_drop (l : List UInt8) (i k : Nat) : escAt (l.drop i) k = escAt l (i + k) := by
  simp [escAt, List.getElem?_drop, Nat.add_assoc]

/-- from inside the quoted form on: what was read, and the index behind the closing sign; k bytes are to be passed over, i is the index of the first -/
def unqS : Nat → Nat → List UInt8 → List UInt8 → Option (List UInt8 × Nat)
  | _, _, _, [] => none
  | k + 1, i, out, _ :: t => unqS k (i + 1) out t
  | 0, i, out, b :: t =>
    if b.toNat = 34 then some (out, i + 1)
    else if b.toNat = 92 then (if (escAt (b :: t) 0).2 = 0 then none else unqS ((escAt (b :: t) 0).2 - 1) (i + 1) (out ++ [(escAt (b :: t) 0).1]) t)
    else unqS 0 (i + 1) (out ++ [b]) t
theorem unqS_drop (out : List UInt8) (l : List UInt8) : ∀ k i, unqS k i out l = unqS 0 (i + k) out (l.drop k) := by
  induction l with
  | nil => intro k i; cases k <;> simp [unqS]
  | cons b t ih =>
    intro k i
    cases k with
    | zero => rfl
    | succ k => simp only [unqS, List.drop_succ_cons]; rw [ih]; congr 1; omega
/-- what Unquote gives: the text, the length of the form, the outcome -/
def unqM (l : List UInt8) : Option (List UInt8 × Nat) → List UInt8 × Nat × Nat
  | none => ([], 0, 2)
  | some (out, n) => if quote out = l.take n then (out, n, 0) else ([], 0, 2)
def unq (l : List UInt8) : List UInt8 × Nat × Nat :=
  match l with
  | [] => ([], 0, 2)
  | b :: t => if b.toNat = 34 then unqM l (unqS 0 1 [] t) else ([], 0, 2)

def hex (l : List UInt8) : List UInt8 := l.flatMap esc
def unhexL : List UInt8 → Option (List UInt8)
  | [] => some []
  | [_] => none
  | a :: b :: t => if 0 ≤ val a ∧ 0 ≤ val b then (unhexL t).map (UInt8.ofNat (16 * (val a).toNat + (val b).toNat) :: ·) else none
def unhex (l : List UInt8) : List UInt8 × Nat := match unhexL l with
  | none => ([], 2)
  | some r => (r, 0)
end Go.Proofs.YtgbppjckehjifaaDoor.Utf
