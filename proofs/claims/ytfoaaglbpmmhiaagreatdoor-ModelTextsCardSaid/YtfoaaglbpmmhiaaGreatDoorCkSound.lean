/- Plain facts for the laws CheckSound and CheckRemoves; no program in sight. -/
import Derived.Test.YtfoaaglbpmmhiaaGreatDoorKitL
namespace Go.Proofs.YtfoaaglbpmmhiaaGreatDoor.Ck
set_option linter.unusedSimpArgs false
set_option linter.unusedVariables false

theorem lt_trans' {a b c : Str} (h1 : a < b) (h2 : b < c) : a < c := List.lt_trans h1 h2
theorem lt_irrefl' (a : Str) : ¬ a < a := List.lt_irrefl a
/-- strictly ascending -/
theorem risingGo_pw : ∀ (r : List Str) (x : Str), risingGo x r = true ↔ (x :: r).Pairwise (· < ·)
  | [], x => by simp [risingGo]
  | y :: r, x => by
    have ih := risingGo_pw r y
    unfold risingGo
    rw [Bool.and_eq_true, ih]
    simp only [ltS, decide_eq_true_eq, List.pairwise_cons]
    constructor
    · rintro ⟨h1, h2, h3⟩
      refine ⟨fun z hz => ?_, h2, h3⟩
      rcases List.mem_cons.1 hz with rfl | hz
      · exact h1
      · exact lt_trans' h1 (h2 z hz)
    · rintro ⟨h1, h2, h3⟩
      exact ⟨h1 y (by simp), h2, h3⟩
theorem rising_pw (l : List Str) : rising l = true ↔ l.Pairwise (· < ·) := by
  cases l with
  | nil => simp [rising]
  | cons x r => exact risingGo_pw r x
theorem pw_ne {α : Type} {f : α → Str} {l : List α} (h : (l.map f).Pairwise (· < ·)) {i j : Nat} {a b : α} (ha : l[i]? = some a) (hb : l[j]? = some b) (e : f a = f b) : i = j := by
  rw [List.pairwise_iff_getElem] at h
  obtain ⟨hi, rfl⟩ := List.getElem?_eq_some_iff.1 ha
  obtain ⟨hj, rfl⟩ := List.getElem?_eq_some_iff.1 hb
  rcases Nat.lt_trichotomy i j with h1 | h1 | h1
  · have := h i j (by simpa using hi) (by simpa using hj) h1
    simp only [List.getElem_map] at this
    rw [e] at this
    exact absurd this (lt_irrefl' _)
  · exact h1
  · have := h j i (by simpa using hj) (by simpa using hi) h1
    simp only [List.getElem_map] at this
    rw [e] at this
    exact absurd this (lt_irrefl' _)
/-- a name that stands once is found where it stands -/
theorem find_at {α : Type} {f : α → Str} {l : List α} (h : (l.map f).Pairwise (· < ·)) {i : Nat} {a : α} (ha : l[i]? = some a) : l.find? (fun x => f x = f a) = some a := by
  cases hf : l.find? (fun x => decide (f x = f a)) with
  | none =>
    have := List.find?_eq_none.1 hf a (List.mem_of_getElem? ha)
    simp at this
  | some b =>
    have h1 : f b = f a := by simpa using List.find?_some hf
    obtain ⟨j, hj⟩ := List.mem_iff_getElem?.1 (List.mem_of_find?_eq_some hf)
    have := pw_ne h hj ha h1
    subst this
    rw [ha] at hj
    rw [Option.some.inj hj]
theorem idxGo_at (n : Str) : ∀ (l : List PMsg) (i k : Nat) (m : PMsg), l[k]? = some m → m.name = n → (∀ j x, j < k → l[j]? = some x → x.name ≠ n) → idxGo n l i = some (i + k)
  | [], i, k, m, h, _, _ => by simp at h
  | a :: r, i, k, m, h, hn, hne => by
    unfold idxGo
    cases k with
    | zero =>
      simp at h
      subst h
      rw [if_pos hn]
      rfl
    | succ k =>
      rw [if_neg (hne 0 a (by omega) rfl), idxGo_at n r (i + 1) k m (by simpa using h) hn (fun j x hj hx => hne (j + 1) x (by omega) (by simpa using hx))]
      congr 1
      omega
theorem idxOf_at {s : PSchema} (h : (s.msgs.map (·.name)).Pairwise (· < ·)) {k : Nat} {m : PMsg} (hm : s.msgs[k]? = some m) : idxOf s m.name = some k := by
  have := idxGo_at m.name s.msgs 0 k m hm rfl (fun j x hj hx e => by
    have := pw_ne (f := fun m : PMsg => m.name) h hx hm e
    omega)
  rw [Nat.zero_add] at this
  exact this
/-! what a schema without problems has -/
theorem fieldsGo_nil {s : PSchema} {m : PMsg} : ∀ (l : List PField) (i : Nat), fieldsGo s m i l = [] → ∀ (j : Nat) f, l[j]? = some f → fieldP s m (i + j) f = []
  | [], i, _, j, f, h => by simp at h
  | a :: r, i, h, j, f, hf => by
    unfold fieldsGo at h
    rw [List.append_eq_nil_iff] at h
    cases j with
    | zero =>
      simp at hf
      subst hf
      exact h.1
    | succ j =>
      have := fieldsGo_nil r (i + 1) h.2 j f (by simpa using hf)
      rwa [show i + 1 + j = i + (j + 1) by omega] at this
theorem fieldP_nil {s : PSchema} {m : PMsg} {i : Nat} {f : PField} (h : fieldP s m i f = []) : (1 ≤ f.num ∧ f.num ≤ 65535) ∧ (i = 0 ∨ ∃ g, m.fields[i - 1]? = some g ∧ g.num < f.num) ∧ (∀ j g, j < i → m.fields[j]? = some g → g.name ≠ f.name) ∧ typed s f = true ∧ defaulted s f = true := by
  unfold fieldP at h
  simp only [List.append_eq_nil_iff, un_nil] at h
  obtain ⟨⟨⟨⟨⟨⟨⟨⟨⟨h1, h2⟩, h3⟩, h4⟩, h5⟩, h6⟩, h7⟩, h8⟩, h9⟩, h10⟩ := h
  refine ⟨of_decide_eq_true h1, ?_, fun j g hj hg e => ?_, h7, h9⟩
  · rw [Bool.or_eq_true, decide_eq_true_iff] at h2
    rcases h2 with h2 | h2
    · exact .inl h2
    · right
      split at h2
      · rename_i g hg
        exact ⟨g, hg, of_decide_eq_true h2⟩
      · cases h2
  · rw [Bool.not_eq_true', List.any_eq_false] at h4
    have hm : g ∈ m.fields.take i := by
      refine List.mem_iff_getElem?.2 ⟨j, ?_⟩
      rw [List.getElem?_take, if_pos hj]
      exact hg
    exact h4 g hm (by simpa using e)
structure MsgOk (s : PSchema) (m : PMsg) : Prop where
  len : m.fields.length ≤ 64
  field : ∀ (i : Nat) f, m.fields[i]? = some f → fieldP s m i f = []
  acyc : cyclic s m (finite s) = false
theorem inMessage_nil {s : PSchema} {m : PMsg} (h : inMessage s m (finite s) = []) : MsgOk s m := by
  unfold inMessage at h
  simp only [List.append_eq_nil_iff, un_nil] at h
  obtain ⟨⟨⟨⟨⟨⟨h1, h2⟩, h3⟩, h4⟩, h5⟩, h6⟩, h7⟩ := h
  refine ⟨(of_decide_eq_true h2).1, fun i f hf => ?_, by simpa using h7⟩
  have := fieldsGo_nil m.fields 0 h3 i f hf
  rwa [Nat.zero_add] at this
/-- the law's own finite messages: one more bit -/
def sNeeds (s : PSchema) (m : PMsg) (fin : List Bool) : Bool := (needs m).all fun n => match idxOf s n with | some k => fin.getD k false | none => false
def sStep (s : PSchema) (fin : List Bool) (i : Nat) : List Bool :=
  match s.msgs[i]? with
  | none => fin
  | some m => fin.set i (fin.getD i false || sNeeds s m fin)
def sRound (s : PSchema) (fin : List Bool) : List Bool := (List.range s.msgs.length).foldl (sStep s) fin
def sRounds (s : PSchema) : Nat → List Bool → List Bool
  | 0, fin => fin
  | k + 1, fin => sRounds s k (sRound s fin)
def Le (a b : List Bool) : Prop := a.length = b.length ∧ ∀ k, a.getD k false = true → b.getD k false = true
theorem Le.refl (a : List Bool) : Le a a := ⟨rfl, fun _ h => h⟩
theorem Le.trans {a b c : List Bool} (h : Le a b) (k : Le b c) : Le a c := ⟨h.1.trans k.1, fun i hi => k.2 i (h.2 i hi)⟩
theorem getD_set2 (l : List Bool) (i k : Nat) (v : Bool) (h : i < l.length) : (l.set i v).getD k false = if k = i then v else l.getD k false := by
  by_cases hk : k = i
  · subst hk; simp [List.getD, h]
  · simp [List.getD, hk, List.getElem?_set_ne (Ne.symm hk)]
theorem sStep_le (s : PSchema) (fin : List Bool) (i : Nat) (h : fin.length = s.msgs.length) : Le fin (sStep s fin i) := by
  unfold sStep
  split
  · exact Le.refl _
  · rename_i m hm
    have hi : i < s.msgs.length := (List.getElem?_eq_some_iff.1 hm).1
    refine ⟨by simp, fun k hk => ?_⟩
    rw [getD_set2 _ _ _ _ (by omega)]
    split
    · rename_i e
      subst e
      rw [hk]; rfl
    · exact hk
theorem sFold_le (s : PSchema) : ∀ (l : List Nat) (fin : List Bool), fin.length = s.msgs.length → Le fin (l.foldl (sStep s) fin)
  | [], fin, _ => Le.refl _
  | i :: l, fin, h => by
    have h1 := sStep_le s fin i h
    exact h1.trans (sFold_le s l _ (by rw [← h1.1]; exact h))
theorem sNeeds_le {s : PSchema} {m : PMsg} {a b : List Bool} (h : Le a b) (hn : sNeeds s m a = true) : sNeeds s m b = true := by
  unfold sNeeds at hn ⊢
  rw [List.all_eq_true] at hn ⊢
  intro n hm
  have := hn n hm
  split at this
  · exact h.2 _ this
  · cases this
theorem sFold_hits (s : PSchema) : ∀ (l : List Nat) (fin : List Bool) (i : Nat) (m : PMsg), fin.length = s.msgs.length → i ∈ l → s.msgs[i]? = some m → sNeeds s m fin = true → (l.foldl (sStep s) fin).getD i false = true
  | [], _, i, _, _, h, _, _ => by simp at h
  | j :: l, fin, i, m, hl, hi, hm, hn => by
    have h1 := sStep_le s fin j hl
    have hl' : (sStep s fin j).length = s.msgs.length := by rw [← h1.1]; exact hl
    rw [List.foldl_cons]
    by_cases e : i = j
    · subst e
      refine (sFold_le s l _ hl').2 i ?_
      have hi : i < s.msgs.length := (List.getElem?_eq_some_iff.1 hm).1
      unfold sStep
      rw [hm]
      simp only
      rw [getD_set2 _ _ _ _ (by omega), if_pos rfl, hn, Bool.or_true]
    · rcases List.mem_cons.1 hi with h2 | h2
      · exact absurd h2 e
      · exact sFold_hits s l _ i m hl' h2 hm (sNeeds_le h1 hn)
theorem rcnt_le2 : ∀ (a b : List Bool), Le a b → rcnt a ≤ rcnt b ∧ (∀ k, a.getD k false = false → b.getD k false = true → rcnt a < rcnt b)
  | [], [], _ => ⟨Nat.le_refl _, fun k _ h => by simp at h⟩
  | [], _ :: _, h => by have := h.1; simp at this
  | _ :: _, [], h => by have := h.1; simp at this
  | x :: a, y :: b, h => by
    have ih := rcnt_le2 a b ⟨by have := h.1; simpa using this, fun k hk => by have := h.2 (k + 1); simpa using this (by simpa using hk)⟩
    have h0 := h.2 0
    simp at h0
    unfold rcnt at ih ⊢
    constructor
    · cases x <;> cases y <;> simp at h0 ⊢ <;> omega
    · intro k hk hk2
      cases k with
      | zero =>
        simp at hk hk2
        subst hk hk2
        simp
        omega
      | succ k =>
        have := ih.2 k (by simpa using hk) (by simpa using hk2)
        cases x <;> cases y <;> simp at h0 ⊢ <;> omega
/-- after as many rounds as there are messages every bit is set -/
theorem sRounds_all (s : PSchema) (hu : (s.msgs.map (·.name)).Pairwise (· < ·)) (hF : ∀ m, m ∈ s.msgs → Fin s m.name) (hN : ∀ m, m ∈ s.msgs → ∀ n, n ∈ needs m → (msgOf s n).isSome = true) :
    ∀ (k : Nat) (fin : List Bool), fin.length = s.msgs.length → s.msgs.length - rcnt fin ≤ k → ∀ i, i < s.msgs.length → (sRounds s k fin).getD i false = true
  | 0, fin, h, hk, i, hi => by
    have := rcnt_le fin
    exact rcnt_all fin (by omega) i (by omega)
  | k + 1, fin, h, hk, i, hi => by
    show (sRounds s k (sRound s fin)).getD i false = true
    have hle : Le fin (sRound s fin) := sFold_le s _ fin h
    have hl : (sRound s fin).length = s.msgs.length := by rw [← hle.1]; exact h
    refine sRounds_all s hu hF hN k _ hl ?_ i hi
    have h1 := rcnt_le2 fin _ hle
    by_cases hall : ∀ j, j < s.msgs.length → fin.getD j false = true
    · have : rcnt fin = fin.length := by
        unfold rcnt
        rw [List.filter_eq_self.2]
        intro b hb
        obtain ⟨j, hj⟩ := List.mem_iff_getElem?.1 hb
        have hjl := (List.getElem?_eq_some_iff.1 hj).1
        have := hall j (by omega)
        simp [List.getD, hj] at this
        exact this
      have := h1.1
      omega
    · -- some message is not set: one of those has all its needs set
      have hmin : ∀ n, Fin s n → ∀ j m, s.msgs[j]? = some m → m.name = n → fin.getD j false = false → ∃ i m, s.msgs[i]? = some m ∧ fin.getD i false = false ∧ sNeeds s m fin = true := by
        intro n hn
        induction hn with
        | mk n m' hm' hk' ih =>
          intro j m hj hname hbit
          by_cases hs : sNeeds s m fin = true
          · exact ⟨j, m, hj, hbit, hs⟩
          · have hme : m' = m := by
              subst hname
              have := find_at (f := fun m : PMsg => m.name) hu hj
              unfold msgOf at hm'
              rw [this] at hm'
              exact (Option.some.inj hm').symm
            subst hme
            have hex : ∃ q, q ∈ needs m' ∧ (match idxOf s q with | some k => fin.getD k false | none => false) = false := by
              refine Decidable.byContradiction fun hc => hs ?_
              unfold sNeeds
              rw [List.all_eq_true]
              intro q hq
              cases hv : (match idxOf s q with | some k => fin.getD k false | none => false)
              · exact absurd ⟨q, hq, hv⟩ hc
              · rfl
            obtain ⟨q, hq, hv⟩ := hex
            have hqs := hN m' (List.mem_of_getElem? hj) q hq
            have hqi := hqs
            rw [← idxOf_isSome] at hqi
            obtain ⟨jq, hjq⟩ := Option.isSome_iff_exists.1 hqi
            obtain ⟨mq, h3, h4, h5⟩ := idxOf_some hjq
            rw [hjq] at hv
            exact ih q hq hqs jq mq h3 h4 hv
      obtain ⟨j, hj⟩ := Classical.not_forall.1 hall
      have hj1 : j < s.msgs.length := Decidable.byContradiction fun hc => hj (fun h => absurd h hc)
      have hj2 : fin.getD j false = false := by
        cases hb : fin.getD j false
        · rfl
        · exact absurd (fun _ => hb) hj
      have hgj : s.msgs[j]? = some s.msgs[j] := List.getElem?_eq_getElem hj1
      obtain ⟨i2, m2, a1, a2, a3⟩ := hmin _ (hF _ (List.getElem_mem hj1)) j _ hgj rfl hj2
      have hi2 : i2 < s.msgs.length := (List.getElem?_eq_some_iff.1 a1).1
      have hit := sFold_hits s (List.range s.msgs.length) fin i2 m2 h (by simpa using hi2) a1 a3
      have := h1.2 i2 a2 hit
      omega
theorem sound_bits {s : PSchema} (h : all s = []) : ∀ i, i < s.msgs.length → (sRounds s s.msgs.length (List.replicate s.msgs.length false)).getD i false = true := by
  obtain ⟨h1, h2, _, _⟩ := all_nil.1 h
  have hu := (rising_pw _).1 (head_nil h1).1.1
  have hT : ∀ m, m ∈ s.msgs → ∀ n, n ∈ needs m → (msgOf s n).isSome = true := by
    intro m hm n hn
    have hok := inMessage_nil (h2 m hm)
    unfold needs at hn
    obtain ⟨f, hf, rfl⟩ := List.mem_map.1 hn
    obtain ⟨hf1, hf2⟩ := List.mem_filter.1 hf
    obtain ⟨j, hj⟩ := List.mem_iff_getElem?.1 hf1
    have := (fieldP_nil (hok.field j f hj)).2.2.2.1
    have hk := of_decide_eq_true hf2
    unfold typed at this
    rw [if_neg (by omega), if_neg (by omega), if_pos hk.2, Bool.and_eq_true] at this
    exact this.1
  have hF : ∀ m, m ∈ s.msgs → Fin s m.name := by
    intro m hm
    obtain ⟨j, hj⟩ := List.mem_iff_getElem?.1 hm
    have hmo : msgOf s m.name = some m := find_at (f := fun m : PMsg => m.name) hu hj
    refine Fin.mk _ m hmo fun q hq hs => ?_
    have hc := (inMessage_nil (h2 m hm)).acyc
    unfold cyclic at hc
    rw [List.any_eq_false] at hc
    have := hc q hq
    rw [hs, Bool.true_and, Bool.not_eq_true', Bool.not_eq_false] at this
    exact (finite_iff s q).1 this
  exact sRounds_all s hu hF hT s.msgs.length _ (by simp) (by omega)
/-! an enum less -/
def without (s : PSchema) (k : Nat) : PSchema := { s with enums := s.enums.eraseIdx k }
def used (s : PSchema) (n : Str) : Bool := s.msgs.any fun m => m.fields.any fun f => decide (f.tk = 9 ∧ f.tn = n)
theorem enumOf_without {s : PSchema} (hu : (s.enums.map (·.name)).Pairwise (· < ·)) {k : Nat} {e : PEnum} (he : s.enums[k]? = some e) (n : Str) : enumOf (without s k) n = if n = e.name then none else enumOf s n := by
  have hspl : s.enums = s.enums.take k ++ e :: s.enums.drop (k + 1) := by
    obtain ⟨hk, rfl⟩ := List.getElem?_eq_some_iff.1 he
    rw [← List.drop_eq_getElem_cons hk, List.take_append_drop]
  have hw : (without s k).enums = s.enums.take k ++ s.enums.drop (k + 1) := List.eraseIdx_eq_take_drop_succ _ _
  unfold enumOf
  rw [hw]
  by_cases hn : n = e.name
  · rw [if_pos hn, List.find?_eq_none]
    intro x hx hc
    have hxn : x.name = e.name := by rw [← hn]; simpa using hc
    have hx2 : x ∈ s.enums.eraseIdx k := by rw [List.eraseIdx_eq_take_drop_succ]; exact hx
    obtain ⟨j, hj⟩ := List.mem_iff_getElem?.1 hx2
    rw [List.getElem?_eraseIdx] at hj
    split at hj
    · have := pw_ne (f := fun e : PEnum => e.name) hu hj he hxn; omega
    · have := pw_ne (f := fun e : PEnum => e.name) hu hj he hxn; omega
  · rw [if_neg hn]
    conv => rhs; rw [hspl]
    rw [List.find?_append, List.find?_append]
    congr 1
    rw [List.find?_cons_of_neg]
    simpa using fun h => hn h.symm
theorem removes {s : PSchema} (h : all s = []) {k : Nat} {e : PEnum} (he : s.enums[k]? = some e) : valid (without s k) = !used s e.name := by
  obtain ⟨h1, h2, h3, h4⟩ := all_nil.1 h
  obtain ⟨⟨r1, r2, r3⟩, ⟨l1, l2, l3⟩, ap⟩ := head_nil h1
  have hu := (rising_pw _).1 r2
  have hE := enumOf_without hu he
  have hM : (without s k).msgs = s.msgs := rfl
  have hS : (without s k).svcs = s.svcs := rfl
  have hmo : ∀ n, msgOf (without s k) n = msgOf s n := fun n => rfl
  have hst : finStep (without s k) = finStep s := rfl
  have hfin : finite (without s k) = finite s := by
    have go : ∀ (j : Nat) (fin : Str → Bool), finRounds (without s k) j fin = finRounds s j fin := by
      intro j
      induction j with
      | zero => intro fin; rfl
      | succ j ih =>
        intro fin
        show finRounds (without s k) j (finRound (without s k) fin) = finRounds s j (finRound s fin)
        have : finRound (without s k) fin = finRound s fin := by unfold finRound; rw [hst, hM]
        rw [ih, this]
    exact go _ _
  have hsv : ∀ v, service (without s k) v = service s v := by
    intro v
    have go : ∀ (l : List PMeth) (i : Nat), methsGo (without s k) v i l = methsGo s v i l := by
      intro l
      induction l with
      | nil => intro i; rfl
      | cons a r ih =>
        intro i
        unfold methsGo
        rw [ih]
        rfl
    unfold service
    rw [go]
  cases hus : used s e.name
  · -- not used: no problem arises
    rw [Bool.not_false, valid_iff, all_nil]
    have hnu : ∀ m, m ∈ s.msgs → ∀ f, f ∈ m.fields → ¬ (f.tk = 9 ∧ f.tn = e.name) := by
      intro m hm f hf hc
      unfold used at hus
      rw [List.any_eq_false] at hus
      have := hus m hm
      rw [List.any_eq_true] at this
      exact this ⟨f, hf, by simpa using hc⟩
    refine ⟨?_, fun m hm => ?_, fun e' he' => ?_, fun v hv => by rw [hsv]; exact h4 v hv⟩
    · unfold head at h1 ⊢
      simp only [List.append_eq_nil_iff, listP_nil, un_nil, List.length_map] at h1 ⊢
      obtain ⟨⟨⟨a, b⟩, c⟩, d⟩ := h1
      refine ⟨⟨⟨a, ?_, ?_⟩, c⟩, ?_⟩
      · show (s.enums.eraseIdx k).length ≤ 64
        have := List.length_eraseIdx_le s.enums k
        omega
      · rw [rising_pw] at b ⊢
        exact b.2.sublist ((List.eraseIdx_sublist s.enums k).map _)
      · unfold apart at d ⊢
        rw [Bool.not_eq_true', Bool.or_eq_false_iff, Bool.or_eq_false_iff] at d ⊢
        have hsub : ∀ x, x ∈ (without s k).enums.map (·.name) → x ∈ s.enums.map (·.name) := fun x hx => ((List.eraseIdx_sublist s.enums k).map _).mem hx
        obtain ⟨⟨d1, d2⟩, d3⟩ := d
        refine ⟨⟨?_, d2⟩, ?_⟩
        · unfold meet at d1 ⊢
          rw [List.any_eq_false] at d1 ⊢
          exact fun x hx => d1 x (hsub x hx)
        · unfold meet at d3 ⊢
          rw [List.any_eq_false] at d3 ⊢
          intro x hx
          have := d3 x hx
          unfold Id.has at this ⊢
          simp only [decide_eq_true_eq] at this ⊢
          exact fun hc => this (hsub x hc)
    · have hm' := h2 m hm
      rw [hfin]
      have hfe : ∀ i f, f ∈ m.fields → fieldP (without s k) m i f = fieldP s m i f := by
        intro i f hf
        have hne := hnu m hm f hf
        have ht : typed (without s k) f = typed s f := by
          unfold typed
          by_cases h9 : f.tk = 9
          · rw [hE, if_neg (fun e => hne ⟨h9, e⟩)]
            rfl
          · rw [if_neg h9, if_neg h9]
            rfl
        have hd : defaulted (without s k) f = defaulted s f := by
          unfold defaulted
          by_cases h9 : f.tk = 9
          · rw [hE, if_neg (fun e => hne ⟨h9, e⟩)]
          · rw [if_pos h9, if_pos h9]
        unfold fieldP
        rw [ht, hd]
      have hgo : ∀ (l : List PField) (i : Nat), (∀ f, f ∈ l → f ∈ m.fields) → fieldsGo (without s k) m i l = fieldsGo s m i l := by
        intro l
        induction l with
        | nil => intro i _; rfl
        | cons a r ih =>
          intro i hsub
          unfold fieldsGo
          rw [hfe i a (hsub a (by simp)), ih (i + 1) (fun f hf => hsub f (by simp [hf]))]
      unfold inMessage at hm' ⊢
      rw [hgo m.fields 0 (fun f hf => hf)]
      exact hm'
    · exact h3 e' ((List.eraseIdx_sublist s.enums k).mem he')
  · -- used: the field's type is not defined
    unfold used at hus
    rw [List.any_eq_true] at hus
    obtain ⟨m, hm, hmf⟩ := hus
    rw [List.any_eq_true] at hmf
    obtain ⟨f, hf, hc⟩ := hmf
    have hc' := of_decide_eq_true hc
    obtain ⟨j, hj⟩ := List.mem_iff_getElem?.1 hf
    cases hv : valid (without s k)
    · rfl
    · exfalso
      have h5 := (all_nil.1 (valid_iff.1 hv)).2.1 m hm
      have := (fieldP_nil ((inMessage_nil h5).field j f hj)).2.2.2.1
      unfold typed at this
      rw [if_neg (by omega), if_pos hc'.1, hE, if_pos hc'.2] at this
      cases this
end Go.Proofs.YtfoaaglbpmmhiaaGreatDoor.Ck
