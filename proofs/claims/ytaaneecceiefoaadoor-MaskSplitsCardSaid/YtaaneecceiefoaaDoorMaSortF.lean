/- Layer 19 walked: a row of masks sorted by the library. -/
import Derived.Test.YtaaneecceiefoaaDoorKitN
import Derived.Test.YtaaneecceiefoaaDoorKitM
import Derived.Test.YtaaneecceiefoaaDoorShelf
namespace Go.Proofs.YtaaneecceiefoaaDoor
open Go.RowKit Ma
set_option linter.unusedVariables false
set_option linter.unusedSimpArgs false
def cmpI (x y : Int) : Int := if x < y then -1 else if y < x then 1 else 0
set_option maxHeartbeats 4000000 in
set_option maxRecDepth 100000 in
theorem sl_nan (x : Int) (w : World) : Calls Tryd.prog 46 #[.int .i64 x] w fun e w' => e = .returned (.bool false) ∧ w = w' := by
  go_enter Tryd.func46, Tryd.ntmps46
  go_wp2
  go_ret
  exact ⟨rfl, rfl⟩
set_option maxHeartbeats 4000000 in
set_option maxRecDepth 100000 in
theorem sl_compare (x y : Int) (w : World) : Calls Tryd.prog 31 #[.int .i64 x, .int .i64 y] w fun e w' => e = .returned (.int .i64 (cmpI x y)) ∧ w = w' := by
  have CN := Lib.hid (fun x W => sl_nan x W)
  by_cases h1 : x < y
  · have hv := Lib.hid (show cmpI x y = -1 by unfold cmpI; rw [if_pos h1])
    go_enter Tryd.func31, Tryd.ntmps31
    go_wp2_with (go_at_call 46; (with_reducible refine (CN.out _ _).mono ?_); rintro e w1 ⟨rfl, rfl⟩)
    go_ret
    exact ⟨ret_int hv.out.symm, rfl⟩
  · by_cases h2 : y < x
    · have hv := Lib.hid (show cmpI x y = 1 by unfold cmpI; rw [if_neg h1, if_pos h2])
      go_enter Tryd.func31, Tryd.ntmps31
      go_wp2_with (go_at_call 46; (with_reducible refine (CN.out _ _).mono ?_); rintro e w1 ⟨rfl, rfl⟩)
      go_ret
      exact ⟨ret_int hv.out.symm, rfl⟩
    · have hv := Lib.hid (show cmpI x y = 0 by unfold cmpI; rw [if_neg h1, if_neg h2])
      go_enter Tryd.func31, Tryd.ntmps31
      go_wp2_with (go_at_call 46; (with_reducible refine (CN.out _ _).mono ?_); rintro e w1 ⟨rfl, rfl⟩)
      go_ret
      exact ⟨ret_int hv.out.symm, rfl⟩
set_option maxHeartbeats 4000000 in
set_option maxRecDepth 100000 in
theorem cl_union (x y : Int) (p q : Option Addr) (m n c d : Nat) (w : World) : Calls Tryd.prog 30 #[.agg #[.int .i64 x, .slice p m c], .agg #[.int .i64 y, .slice q n d]] w fun e w' => e = .returned (.int .i64 (cmpI x y)) ∧ ∃ k os', w' = Sort.grow (w.drewN k) os' := by
  have CC := Lib.hid (fun W => sl_compare x y W)
  generalize cmpI x y = r at CC
  go_enter Tryd.func30, Tryd.ntmps30
  go_wp2_with (go_at_call 31; (with_reducible refine (CC.out _).mono ?_); rintro e w1 ⟨rfl, rfl⟩)
  go_ret
  exact ⟨rfl, 0, _, by rw [Sort.alloc_eq_grow, Sort.alloc_eq_grow, Sort.grow_grow]; rfl⟩
theorem ltOf_cmpI (x y : ME) : Go.Proofs.ltOf (fun x y : ME => cmpI x.x.num y.x.num) x y = decide (x.x.num < y.x.num) := by
  unfold Go.Proofs.ltOf cmpI
  by_cases h1 : x.x.num < y.x.num
  · simp [h1]
  · by_cases h2 : y.x.num < x.x.num <;> simp [h1, h2]
theorem swo_cmpI : Sort.SWO (Go.Proofs.ltOf fun x y : ME => cmpI x.x.num y.x.num) where
  irrefl x := by rw [ltOf_cmpI]; simp
  trans x y z h1 h2 := by rw [ltOf_cmpI] at *; simp at *; omega
  ntrans x y z h1 h2 := by rw [ltOf_cmpI] at *; simp at *; omega
def SortOut (w0 w : World) (R : List Row) (X : List Box) (v : Value) (L : List ME) (e : Ending) (w' : World) : Prop := ∃ L' : List ME, e = .returned (.tuple #[]) ∧ L'.Perm L ∧ L'.Pairwise (fun x y => x.x.num ≤ y.x.num) ∧ ST w0 (medge v L' :: R) X w' ∧ w.grownBy w' v.ownBlock
theorem mk_sort (w0 w : World) (R : List Row) (X : List Box) (v : Value) (L : List ME) (h : ST w0 (medge v L :: R) X w) (hl : L.length < 4611686018427387904) : Calls Tryd.prog 29 #[v, .func (.func 30) #[] #[]] w (SortOut w0 w R X v L) := by
  have h0 : w.ownsRow w0.heap.size 42 2 v L.length (L.flatMap meC) := h.row 0 rfl
  rcases own_at meC_len h0 with ⟨rfl, rfl⟩ | ⟨g, c, rfl, hg, hs, hc, hel⟩
  · refine (AnyF.slices_SortFunc_none Tryd.sortMask none 0 _ w).mono fun e w' ⟨he, hw⟩ => ?_
    subst hw
    exact ⟨[], he, List.Perm.refl _, List.Pairwise.nil, h, World.grownBy.refl _ _⟩
  · have hos := own_sorted (α := ME) (enc := meC) meC_len (by decide) (d := L.toArray) (by simpa using h0)
    obtain ⟨hH, hgl, hnew⟩ := hos
    have eg : ∀ args w, (callFunc 30 args).run Tryd.prog w = .ok (.enter 30 args) w := enters_of Tryd.func30 (by kernel_rfl) rfl
    have hcmp : CmpLays Tryd.prog 30 #[] meC 2 (fun x y : ME => cmpI x.x.num y.x.num) g 0 L.toArray.size w := fun m os dk hdk x y => cl_union x.x.num y.x.num x.p y.p _ _ _ _ _
    have hcon := AnyQ.slices_SortFunc Tryd.sortMask 2 (fun w => (by kernel_rfl)) (fun w => (by kernel_rfl)) meC meC_len meC_one (fun x y => cmpI x.x.num y.x.num) swo_cmpI 30 #[] g 0 c L.toArray w eg hcmp hH hgl (by simpa using hl)
    have hcon2 : Calls Tryd.prog 29 #[.slice (some ⟨g, 0, none⟩) L.length c, .func (.func 30) #[] #[]] w _ := hcon
    refine hcon2.mono fun e w' ⟨he, d', n, os, hp, hso, hw⟩ => ?_
    subst hw
    have hsz : d'.size = L.toArray.size := hp.1
    obtain ⟨n1, n2⟩ := hnew d' n os hsz
    have hpl : d'.toList.Perm L := by
      have := hp.2.2
      rw [show d'.extract 0 L.toArray.size = d' by rw [← hsz]; simp] at this
      simpa using this
    have hll : d'.toList.length = L.length := hpl.length_eq
    refine ⟨d'.toList, he, hpl, ?_, ?_, n2⟩
    · rw [List.pairwise_iff_getElem]
      intro i j hi hj hij
      have hi2 : i < d'.size := by simpa using hi
      have hj2 : j < d'.size := by simpa using hj
      have := hso i j (Nat.zero_le _) hij (by rw [← hsz]; exact hj2)
      rw [ltOf_cmpI, getElem!_pos d' j hj2, getElem!_pos d' i hi2] at this
      simp at this
      simpa using this
    · have := h.grow 0 rfl n2 (v' := .slice (some ⟨g, 0, none⟩) L.length c) (n' := L.length) (xs' := d'.toList.flatMap meC) (by unfold medge; simpa using n1) (fun k hk => .inl hk)
      unfold medge at this ⊢
      rw [hll]
      exact this
theorem RowOK.sort {A : Nat → Prop} {w0 w w' : World} {n : Nat} {v : Value} {L L' : List ME} {R : List Row} {X : List Box} (h : RowOK A w0.heap.size n v L w) (hS : ST w0 (medge v L :: R) X w) (hA : ∀ b, A b → b < w0.heap.size) (hp : L'.Perm L) (hg : w.grownBy w' v.ownBlock) : RowOK A w0.heap.size n v L' w' := by
  intro e he
  have he2 := hp.mem_iff.1 he
  rcases own_at meC_len (hS.row 0 rfl) with ⟨_, h2⟩ | ⟨g, c, h1, _⟩
  · change L = [] at h2
    subst h2
    cases he2
  · change v = _ at h1
    subst h1
    exact (h e he2).grown hg hA (fun k hk => ((hS.row 0 rfl).lt k hk).1) (.inl rfl)
theorem sorted_eq {raw : List PMask} {L L' : List ME} (hd : Dif raw) (hL : L.map (·.x) = raw) (hp : L'.Perm L) (hs : L'.Pairwise (fun x y => x.x.num ≤ y.x.num)) : L'.map (·.x) = isort raw := by
  subst hL
  refine sort_eq hd (hp.map _) ?_
  rw [List.pairwise_map]
  exact hs
end Go.Proofs.YtaaneecceiefoaaDoor
