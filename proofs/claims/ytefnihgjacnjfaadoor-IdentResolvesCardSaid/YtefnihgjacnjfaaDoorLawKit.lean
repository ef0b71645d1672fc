/- The last steps of a law's row, whatever the parameters' types. -/
import Derived.Test.YtefnihgjacnjfaaDoorRowKit
import Derived.ReadAgain
import Derived.Deep.Slices
namespace Go.Proofs.YtefnihgjacnjfaaDoor
open Go.RowKit Go.WideShapes Go.ChangeShapes Go.Deep

theorem kids : Kids Tryd.prog (· < Tryd.prog.types.size) := kids_rows (by kernel_rfl) (by kernel_rfl)
theorem full : ∀ t e, t < Tryd.prog.types.size → Tryd.prog.underlying t = some (.slice e) → 0 < Tryd.prog.cellsOf e := slices_full_of Tryd.prog (by kernel_rfl)
section
variable {H : Type} {enc : TypeId × Value → H}
theorem trodAll_carry {P : Program} {w w' : World} {base : Nat} {sp : Nat → Bool} {held : Bool} : ∀ {ts : List TypeId} {vs : List Value} {ds : List (DataW H)} {ps : List MemPlace}, DataW.TrodAll enc P w base sp held ts vs ds ps → (∀ p ∈ ps, w.sameAt w' p) → DataW.TrodAll enc P w' base sp held ts vs ds ps
  | [], [], [], _, h, _ => h
  | _ :: _, _ :: _, _ :: _, _, ⟨p, q, ⟨n, h1⟩, h2, e⟩, hs => ⟨p, q, ⟨n, DataW.trod_carry n _ _ _ h1 (fun x hx => hs x (by rw [e]; exact List.mem_append_left _ hx))⟩, trodAll_carry h2 (fun x hx => hs x (by rw [e]; exact List.mem_append_right _ hx)), e⟩
/-- The arguments read again behind a call that changed nothing that was there. -/
theorem args_again {W W' : World} {ts : List TypeId} {vs : List Value} {ds : List (DataW H)} {p : List MemPlace} (hts : ∀ t ∈ ts, t < Tryd.prog.types.size) (hA : DataW.TrodAll enc Tryd.prog W 0 (fun _ => true) true ts vs ds p)
    (hlt : ∀ x ∈ p, x.block < W.heap.size) (hb : Below W.heap.size W W') (sp : Nat → Bool) (hs : ∀ x ∈ p, sp x.block = true) : DataW.TrodAll enc Tryd.prog W' 0 sp true ts vs ds p :=
  DataW.TrodAll.respare kids full hts (trodAll_carry hA (fun x hx => hb.same (hlt x hx))) hs
/-- A law that returned true and changed nothing that was there. -/
theorem law_post {f : Func} {s : ChangeSpec} {W W' : World} {args : Array Value} {ds gs : List (DataW H)} {before : List MemPlace} (hv : s.vars = []) (hts : ∀ t ∈ f.params.toList, t < Tryd.prog.types.size)
    (hW : DataW.Whole enc Tryd.prog f.params.toList s.vars false W args.toList ds gs before) (hr : f.resultTypes = #[4])
    (h1 : (s.fn H ds).results = [.lit (.bool true)]) (h2 : (s.fn H ds).args = ds) (h3 : (s.fn H ds).vars = []) (hb : Below W.heap.size W W') :
    s.post enc Tryd.prog f false true false false W args (.bool true) W' := by
  have hW' := hW
  obtain ⟨p, q, hA, hV, rfl, hfz, hnd⟩ := hW
  rw [hv] at hV
  obtain ⟨rfl, rfl⟩ := trodVars_none hV
  have hlt : ∀ x ∈ p ++ [], x.block < W.heap.size := fun x hx => hW'.lt x hx
  refine post_of_below (pa := p) (pv := []) hW' (fun b sp hd => ?_) (fun sp hs => ?_) (fun sp hs => ?_) rfl hb ?_
  · rw [List.append_nil, h1, hr]
    exact trodAll_mk1 (shut_bool Tryd.underlying4 _)
  · rw [List.append_nil, h2]
    exact args_again hts hA (fun x hx => hlt x (by simpa using hx)) hb sp (fun x hx => hs x (by simpa using hx))
  · rw [List.append_nil, h3, hv]
    rfl
  · exact ok_one hr rfl (okWide_bool_mk Tryd.underlying4 _)
theorem slice_small {P : Program} {w : World} {base : Nat} {sp : Nat → Bool} {held : Bool} {t e : TypeId} (ht : P.underlying t = some (.slice e)) (hb' : decide (1 ≤ P.bytesOf e) = true) {n : Nat} {c : Value} {y : DataW H × List MemPlace} (h : DataW.trod enc P w base sp held n t [c] = some y)
    (hw : (y.1.weights P t).all (· ≤ reachBytes) = true) : ∃ (q : Option Addr) (len cap : Nat), c = .slice q len cap ∧ len ≤ 140737488355328 := by
  have hb := of_decide_eq_true hb'
  rcases open_slice ht h with ⟨h1, _⟩ | ⟨a, len, cap, m, k, D, Pl, h1, _, hl, hm, hmm, hx, _⟩
  · simp at h1
    exact ⟨_, _, _, h1, by omega⟩
  · simp at h1
    refine ⟨_, _, _, h1, ?_⟩
    rw [hx] at hw
    simp only [DataW.weights, ht, List.all_cons, Bool.and_eq_true, decide_eq_true_eq, List.length_map, List.length_range] at hw
    have h2 := hw.1
    have h3 : len ≤ (len + (m - len)) * P.bytesOf e := Nat.le_trans (Nat.le_add_right len (m - len)) (Nat.le_mul_of_pos_right _ hb)
    unfold reachBytes at h2
    omega
theorem u64_bounds {x : Int} (h : (Lit.int .u64 x).wf = true) : 0 ≤ x ∧ x < 18446744073709551616 := by
  have : -0 ≤ x ∧ x ≤ 18446744073709551615 := by simpa [Lit.wf, IntKind.min, IntKind.max, IntKind.signed, IntKind.bits] using h
  omega
end
end Go.Proofs.YtefnihgjacnjfaaDoor
