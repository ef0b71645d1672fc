/- Layer 14: the fields of a path, step by step; rows of fields. -/
import Derived.Test.YtaaneecceiefoaaDoorMaChk
import Derived.Test.YtaaneecceiefoaaDoorKitM
import Derived.Test.YtaaneecceiefoaaDoorKitI
namespace Go.Proofs.YtaaneecceiefoaaDoor
open Go.RowKit Ck Ma
set_option linter.unusedVariables false
set_option linter.unusedSimpArgs false
def fieldAt (s : PSchema) (nm p : Str) : Option PField := (msgOf s nm).bind fun m => fieldNm m p
/-- may a path go on behind a field -/
def goes (s : PSchema) (g : PField) : Bool := goesOn g && (msgOf s g.tn).isSome
def onFld (o : Option PField) (k : PField → Int × List PField) : Int × List PField := match o with
  | none => (8, [])
  | some f => k f
def pgo (s : PSchema) (nm : Str) : List PField → Option PField → List Str → Int × List PField
  | acc, _, [] => (0, acc)
  | acc, none, p :: r => onFld (fieldAt s nm p) fun f => pgo s nm (acc ++ [f]) (some f) r
  | acc, some g, p :: r => if goes s g = true then onFld (fieldAt s g.tn p) (fun f => pgo s nm (acc ++ [f]) (some f) r) else (12, [])
def pathR (s : PSchema) (nm t : Str) : Int × List PField := if t = [] then (1, []) else if (msgOf s nm).isSome = true then pgo s nm [] none (Id.cut 46 t) else (10, [])
theorem byName_eq (s : PSchema) (nm p : Str) : (namesOf s).byName nm p = (fieldAt s nm p).map fun f => (f.num, goesOn f, f.tn) := rfl
theorem has_eq (s : PSchema) (nm : Str) : (envOf s).has nm = (msgOf s nm).isSome := rfl
theorem cut_pieces (c : UInt8) : ∀ l : List UInt8, Id.cut c l = pieces c l
  | [] => rfl
  | b :: r => by
    unfold Id.cut pieces
    rw [cut_pieces c r]
    cases pieces c r <;> rfl
theorem walk_cons (s : PSchema) (q p : Str) (r : List Str) {f : PField} (hf : fieldAt s q p = some f) : walkP (envOf s) (namesOf s) q (p :: r) = if r.isEmpty then (0, [f.num]) else if goes s f = true then (if (walkP (envOf s) (namesOf s) f.tn r).1 = 0 then (0, f.num :: (walkP (envOf s) (namesOf s) f.tn r).2) else ((walkP (envOf s) (namesOf s) f.tn r).1, [])) else (12, []) := by
  have hb := byName_eq s q p
  rw [hf] at hb
  show (match (namesOf s).byName q p with | none => _ | some f => _) = _
  rw [hb]
  rfl
/-- what the fields of a path come to -/
theorem pgo_walk (s : PSchema) (nm : Str) : ∀ (r : List Str) (q p : Str) (acc : List PField) (X : Int × List PField), X = onFld (fieldAt s q p) (fun f => pgo s nm (acc ++ [f]) (some f) r) →
    X.1 = (walkP (envOf s) (namesOf s) q (p :: r)).1 ∧ (X.1 = 0 → X.2.map PField.num = acc.map PField.num ++ (walkP (envOf s) (namesOf s) q (p :: r)).2) ∧ (X.1 ≠ 0 → X.2 = []) := by
  intro r
  induction r with
  | nil =>
    intro q p acc X hX
    cases hf : fieldAt s q p with
    | none =>
      have hw : walkP (envOf s) (namesOf s) q [p] = (8, []) := by
        show (match (namesOf s).byName q p with | none => _ | some f => _) = _
        rw [byName_eq, hf]
        rfl
      rw [hf] at hX
      have hX2 : X = (8, []) := hX
      subst hX2
      rw [hw]
      exact ⟨rfl, fun h => (by cases h), fun _ => rfl⟩
    | some f =>
      rw [hf] at hX
      have hX2 : X = (0, acc ++ [f]) := hX
      subst hX2
      rw [walk_cons s q p [] hf]
      exact ⟨rfl, fun _ => by simp, fun h => absurd rfl h⟩
  | cons p2 r2 ih =>
    intro q p acc X hX
    cases hf : fieldAt s q p with
    | none =>
      have hw : walkP (envOf s) (namesOf s) q (p :: p2 :: r2) = (8, []) := by
        show (match (namesOf s).byName q p with | none => _ | some f => _) = _
        rw [byName_eq, hf]
        rfl
      rw [hf] at hX
      have hX2 : X = (8, []) := hX
      subst hX2
      rw [hw]
      exact ⟨rfl, fun h => (by cases h), fun _ => rfl⟩
    | some f =>
      rw [hf] at hX
      have hX2 : X = if goes s f = true then onFld (fieldAt s f.tn p2) (fun f2 => pgo s nm ((acc ++ [f]) ++ [f2]) (some f2) r2) else (12, []) := hX
      rw [walk_cons s q p (p2 :: r2) hf, if_neg (by simp)]
      by_cases hg : goes s f = true
      · rw [if_pos hg] at hX2 ⊢
        obtain ⟨i1, i2, i3⟩ := ih f.tn p2 (acc ++ [f]) X hX2
        refine ⟨?_, fun h => ?_, i3⟩
        · rw [i1]
          split
          · rename_i h0
            exact h0
          · rfl
        · rw [i1] at h
          rw [if_pos h, i2 (i1.trans h)]
          simp
      · rw [if_neg hg] at hX2 ⊢
        subst hX2
        exact ⟨rfl, fun h => (by cases h), fun _ => rfl⟩
/-- the mask of a path, by its fields -/
theorem pathM_eq (s : PSchema) (nm t : Str) (ht : t ≠ []) (hp : (pieces 46 t).all (namesOf s).part = true) : pathM (envOf s) (namesOf s) nm t = (if (pathR s nm t).1 = 0 then (0, nest ((pathR s nm t).2.map PField.num)) else ((pathR s nm t).1, [])) ∧ ((pathR s nm t).1 ≠ 0 → (pathR s nm t).2 = []) := by
  unfold pathM pathR
  rw [if_pos hp, if_neg ht, has_eq]
  by_cases h : (msgOf s nm).isSome = true
  · rw [if_pos h, if_pos h, cut_pieces]
    obtain ⟨p, r, hpr⟩ : ∃ p r, pieces 46 t = p :: r := by
      cases e : pieces 46 t with
      | nil => exact absurd e (pieces_ne 46 t)
      | cons p r => exact ⟨p, r, rfl⟩
    rw [hpr]
    obtain ⟨i1, i2, i3⟩ := pgo_walk s nm r nm p [] (pgo s nm [] none (p :: r)) rfl
    refine ⟨?_, i3⟩
    rw [i1]
    by_cases h0 : (walkP (envOf s) (namesOf s) nm (p :: r)).1 = 0
    · rw [if_pos h0, if_pos h0, i2 (i1.trans h0)]
      rfl
    · rw [if_neg h0, if_neg h0]
  · rw [if_neg h, if_neg h]
    exact ⟨by simp, fun _ => rfl⟩
theorem onFld_len {o : Option PField} {k : PField → Int × List PField} {B : Nat} (h : ∀ f, (k f).2.length ≤ B) : (onFld o k).2.length ≤ B := by
  cases o with
  | none => exact Nat.zero_le _
  | some f => exact h f
theorem pgo_len (s : PSchema) (nm : Str) : ∀ (ps : List Str) (acc : List PField) (last : Option PField), (pgo s nm acc last ps).2.length ≤ acc.length + ps.length
  | [], acc, last => by cases last <;> exact Nat.le_add_right _ _
  | p :: r, acc, none => onFld_len fun f => by
    have := pgo_len s nm r (acc ++ [f]) (some f)
    rw [List.length_append, List.length_singleton] at this
    rw [List.length_cons]
    omega
  | p :: r, acc, some g => by
    show (if goes s g = true then onFld (fieldAt s g.tn p) (fun f => pgo s nm (acc ++ [f]) (some f) r) else ((12, []) : Int × List PField)).2.length ≤ _
    split
    · exact onFld_len fun f => by
        have := pgo_len s nm r (acc ++ [f]) (some f)
        rw [List.length_append, List.length_singleton] at this
        rw [List.length_cons]
        omega
    · exact Nat.zero_le _
theorem pathR_len (s : PSchema) (nm t : Str) : (pathR s nm t).2.length ≤ t.length + 1 := by
  unfold pathR
  split
  · exact Nat.zero_le _
  · split
    · have := pgo_len s nm (Id.cut 46 t) [] none
      rw [cut_pieces] at this ⊢
      have := pieces_len 46 t
      simp only [List.length_nil, Nat.zero_add] at *
      omega
    · exact Nat.zero_le _
/-- a field of a row: its cells -/
structure FE where
  f : PField
  vs : List Value
  h : vs.length = 16
def feC (e : FE) : List Value := e.vs
theorem feC_len (e : FE) : (feC e).length = 16 := e.h
def frow (v : Value) (L : List FE) : Row := ⟨52, 16, v, L.length, L.flatMap feC⟩
def FEok (e : FE) : Prop := e.vs[0]? = some (.int .i64 e.f.num) ∧ e.vs[2]? = some (.int .i64 e.f.card) ∧ e.vs[4]? = some (.int .i64 e.f.tk) ∧ e.vs[5]? = some (.string (S e.f.tn)) ∧ e.vs.toArray.all (·.oneCell') = true
theorem VField.fe {w : World} {vs : List Value} {f : PField} (h : VField w vs f) : FEok ⟨f, vs, VField.len _ _ _ h⟩ := by
  have ho := VField.one _ _ _ h
  obtain ⟨_, nv, rfl, ⟨_, _, _, _, _, _, _, _, rfl, _⟩, h1⟩ := h
  exact ⟨rfl, rfl, rfl, rfl, ho⟩
theorem frow_snoc {w0 w : World} {R : List Row} {X : List Box} {v : Value} {L : List FE} {e : FE} (h : ST w0 (⟨52, 16, v, L.length + 1, L.flatMap feC ++ feC e⟩ :: R) X w) : ST w0 (frow v (L ++ [e]) :: R) X w := by
  unfold frow
  rw [List.length_append, List.flatMap_append]
  simpa using h
theorem fld_info : (Tryd.prog.info? 52).map (fun i => (i.zero, i.size, i.bytes)) = some (some (.agg #[.int .i64 0, .string ByteArray.empty, .int .i64 0, .int .i64 0, .int .i64 0, .string ByteArray.empty, .string ByteArray.empty, .bool false, .int .i64 0, .int .u64 0, .string ByteArray.empty, .slice none 0 0, .slice none 0 0, .slice none 0 0, .slice none 0 0, .slice none 0 0]), 16, 240) := by kernel_rfl
end Go.Proofs.YtaaneecceiefoaaDoor
