/- Layer 12's law CheckEnums walked. Printed by genlaws2.py. -/
import Derived.Test.YtigfjnbgchndkaaGreatDoorRkE
import Derived.Test.YtigfjnbgchndkaaGreatDoorCkSmall
import Derived.Test.YtigfjnbgchndkaaGreatDoorCkParMem
import Derived.Test.YtigfjnbgchndkaaGreatDoorKitF
import Derived.Test.YtigfjnbgchndkaaGreatDoorTreeG
import Derived.Deep.DeepCutAuto
namespace Go.Proofs.YtigfjnbgchndkaaGreatDoor
open Go.RowKit Ck
set_option linter.unusedVariables false
set_option linter.unusedSimpArgs false

theorem vschema_oneE {W : World} {g : Nat} {T : TypeId} (eq1 eq2 eq3 : Option Addr) (ec1 ec2 ec3 : Nat) (x : PEnum) (h : W.heap[g]? = some (.cells #[.string (S x.name), .bool x.op, .slice eq1 x.items.length ec1, .slice eq2 x.res.length ec2, .slice eq3 x.notes.length ec3] T (0, 0))) (hm : VEnum W [.string (S x.name), .bool x.op, .slice eq1 x.items.length ec1, .slice eq2 x.res.length ec2, .slice eq3 x.notes.length ec3] x) :
    VSchema W [.slice none 0 0, .slice (some ⟨g, 0, none⟩) 1 1, .slice none 0 0] ⟨[], [x], []⟩ := by
  refine ⟨_, _, _, rfl, Sl.nil _ _ _ _ _, ⟨some ⟨g, 0, none⟩, 1, rfl, by simp, by simp, fun i y hy => ?_⟩, Sl.nil _ _ _ _ _⟩
  have hi : i = 0 := by
    have := (List.getElem?_eq_some_iff.1 hy).1
    simpa using this
  subst hi
  have hxe : x = y := by simpa using hy
  subst hxe
  refine ⟨g, 0, rfl, (Array.getElem?_eq_some_iff.1 h).1, _, fun j v hv => ?_, hm⟩
  rw [Lib.cell_of_heap h, Nat.zero_mul, Nat.zero_add]
  simpa using hv
set_option maxHeartbeats 4000000 in
set_option maxRecDepth 100000 in
theorem law_Enums (eq1 eq2 eq3 : Option Addr) (ec1 ec2 ec3 : Nat) (x : PEnum) (w : World) (hM : ML w) (hm : VEnum w [.string (S x.name), .bool x.op, .slice eq1 x.items.length ec1, .slice eq2 x.res.length ec2, .slice eq3 x.notes.length ec3] x) :
    Calls Tryz.prog 5 #[.agg #[.string (S x.name), .bool x.op, .slice eq1 x.items.length ec1, .slice eq2 x.res.length ec2, .slice eq3 x.notes.length ec3]] w fun e w' => e = .returned (.bool true) ∧ Below w.heap.size w w' := by
  have hKS : ∀ W', Bel (w.alloc (.cells #[.string (S x.name), .bool x.op, .slice eq1 x.items.length ec1, .slice eq2 x.res.length ec2, .slice eq3 x.notes.length ec3] 48)) W' → W'.cell? ⟨w.heap.size, 0, none⟩ = some (.string (S x.name)) ∧ W'.cell? ⟨w.heap.size, 1, none⟩ = some (.bool x.op) ∧ W'.cell? ⟨w.heap.size, 2, none⟩ = some (.slice eq1 x.items.length ec1) ∧ W'.cell? ⟨w.heap.size, 3, none⟩ = some (.slice eq2 x.res.length ec2) ∧ W'.cell? ⟨w.heap.size, 4, none⟩ = some (.slice eq3 x.notes.length ec3) := fun W' k => by
    refine ⟨k.some ?_, k.some ?_, k.some ?_, k.some ?_, k.some ?_⟩
    all_goals first
      | (rw [World.cell?_alloc_at _ _ _ _ (by simp)]; rfl)
      | (rw [World.cell?_alloc_at _ _ _ _ rfl]; rfl)
      | (rw [World.cell?_alloc_past _ _ _ (by simp), World.cell?_alloc_at _ _ _ _ rfl]; rfl)
  have KS := Lib.hid hKS
  have kb : Bel w (w.alloc (.cells #[.string (S x.name), .bool x.op, .slice eq1 x.items.length ec1, .slice eq2 x.res.length ec2, .slice eq3 x.notes.length ec3] 48)) := (Bel.refl _).alloc _
  have CA := Lib.hid (fun W (k : Bel w W) => law_awake W (hM.below k.out))
  have CT := Lib.hid (fun (g : Nat) W (k : Bel w W) (h : W.heap[g]? = some (.cells #[.string (S x.name), .bool x.op, .slice eq1 x.items.length ec1, .slice eq2 x.res.length ec2, .slice eq3 x.notes.length ec3] 48 (0, 0))) => rf_Small none (some ⟨g, 0, none⟩) none 0 1 0 0 1 0 ⟨[], [x], []⟩ W (vschema_oneE eq1 eq2 eq3 ec1 ec2 ec3 x h (VEnum.stays _ _ _ _ k hm)))
  have HM := Lib.hid hm
  have HML := Lib.hid hM
  clear hKS hm hM
  go_enter Tryz.func5, Tryz.ntmps5
  go_upto_region 1 with (fail)
  go_cut [7] (fun s7 wx => ∃ B : Bool, s7 = .bool B ∧ Bel (w.alloc (.cells #[.string (S x.name), .bool x.op, .slice eq1 x.items.length ec1, .slice eq2 x.res.length ec2, .slice eq3 x.notes.length ec3] 48)) wx ∧ Hid (B = false → SmallP ⟨[], [x], []⟩))
  case first =>
    obtain ⟨e0, e1, e2, e3, e4⟩ := KS.out _ (Bel.refl _)
    go_wp2_with (go_at_call 7; (with_reducible refine (CT.out _ _ (Bel.alloc kb _) (by first | (exact heap_alloc_at _ _ _ (by simp)) | (exact heap_alloc_at _ _ _ rfl))).mono ?_); rintro e w1 ⟨b, rfl, hsm, h1⟩; have k1 : Bel (w.alloc (.cells #[.string (S x.name), .bool x.op, .slice eq1 x.items.length ec1, .slice eq2 x.res.length ec2, .slice eq3 x.notes.length ec3] 48)) w1 := Bel.of ((Bel.refl _).alloc _) h1; have HSM := Lib.hid hsm; clear h1 hsm)
    go_meet
    exact ⟨!b, rfl, k1, Lib.hid (fun h => HSM.out (by simpa using h))⟩
  case rest =>
    obtain ⟨B, hs7, kc, hF⟩ := hcut
    subst hs7
    cases B with
    | true =>
      go_wp2_with (go_at_call 8; (with_reducible refine (CA.out _ (Bel.of kb kc.out)).mono ?_); rintro e w8 ⟨rfl, h8⟩; have k8 : Bel w w8 := Bel.of (Bel.of kb kc.out) h8; clear h8)
      go_ret
      exact ⟨rfl, k8.out⟩
    | false =>
      have hsm2 := hF.out rfl
      have hsh2 := (short_of_small hsm2 (fun y hy => by cases hy)).2.1 x (List.mem_singleton.2 rfl)
      have hok := hsm2.2.2.2.2.1 x (List.mem_singleton.2 rfl)
      have HLN := Lib.hid (show (enum x).length ≤ 1000000000 by
        have h1 := enum_len x
        have h2 := hok.2.1
        have h3 := hok.1.2.1
        omega)
      have CKM := Lib.hid (fun W (k : Bel w W) => ck_Enum x.name x.op eq1 eq2 eq3 x.items.length x.res.length x.notes.length ec1 ec2 ec3 x W (VEnum.stays _ _ _ _ k HM.out) (HML.out.below k.out) hsh2.1 hsh2.2.1 hsh2.2.2.1 hsh2.2.2.2.1 hsh2.2.2.2.2)
      have RKM := Lib.hid (fun W (k : Bel w W) => rk_Enum eq1 eq2 eq3 ec1 ec2 ec3 x W (VEnum.stays _ _ _ _ k HM.out) hsh2.1 hsh2.2.1 hsh2.2.2.1 (fun f hf => (hsh2.2.2.2.1 f hf).1))
      generalize enum x = T at CKM RKM HLN
      clear hF hsm2 hsh2 hok CT
      go_upto_region 3 with (fail)
      obtain ⟨wd, hwd⟩ : ∃ wd, wd = wc.drew := ⟨_, rfl⟩
      have kd : Bel wc wd := by rw [hwd]; exact (Bel.refl _).drew
      have HWD := Lib.hid hwd
      have KS0 := KS
      clear hwd KS
      have KS := Lib.hid (fun W' (k : Bel wc W') => KS0.out W' (Bel.of kc k.out))
      refine region_treeA (fun W => Bel wc W) (.take 0 (.take 2 (.alt 1 .done .no))) 3 (by kernel_rfl) (by kernel_rfl) HWD.out kd (fun a ha => ?_)
      (simp only [pickT, List.getD_cons_zero, List.getD_cons_succ])
      have hsz : a.tmps.size = 17 := (by rw [ha]; kernel_rfl)
      have a1 : a.eval (.tmp 1) = .pointer (some ⟨w.heap.size, 0, none⟩) := (by rw [ha]; kernel_rfl)
      (with_reducible refine tree_held (v := ?_) rfl (by with_unfolding_all rfl) (fun ρ hρ W hW => ?_) ?_); (rotate_left 1)
      focus (have hS := KS.out _ hW; clear hW; have p1 := hρ (.tmp 1); (simp (disch := (first | decide | ((try simp only [sz_put]); rw [hsz]; decide))) only [ev_eq, ev_ne, a1] at p1); have hc : ∀ c, ρ (.const c) = c := (fun c => hρ (.const c)); have hfn : ∀ f, ρ (.func f) = .func (.func f) #[] #[] := (fun f => hρ (.func f)); clear hρ; go_simp; (all_goals (first | (with_reducible rfl) | (constructor <;> with_reducible rfl))))
      (with_reducible refine tree_held (v := ?_) rfl (by with_unfolding_all rfl) (fun ρ hρ W hW => ?_) ?_); (rotate_left 1)
      focus (have hS := KS.out _ hW; clear hW; have p1 := hρ (.tmp 1); (simp (disch := (first | decide | ((try simp only [sz_put]); rw [hsz]; decide))) only [ev_eq, ev_ne, a1] at p1); have hc : ∀ c, ρ (.const c) = c := (fun c => hρ (.const c)); have hfn : ∀ f, ρ (.func f) = .func (.func f) #[] #[] := (fun f => hρ (.func f)); clear hρ; go_simp; (all_goals (first | (with_reducible rfl) | (constructor <;> with_reducible rfl))))
      (with_reducible refine tree_enter (f := ?_) (args := ?_) rfl (by with_unfolding_all rfl) (fun ρ hρ => ?_) ?_ ?_); (rotate_left 2)
      focus (have p9 := hρ (.tmp 9); (simp (disch := (first | decide | ((try simp only [sz_put]); rw [hsz]; decide))) only [ev_eq, ev_ne, a1] at p9); have hc : ∀ c, ρ (.const c) = c := (fun c => hρ (.const c)); have hfn : ∀ f, ρ (.func f) = .func (.func f) #[] #[] := (fun f => hρ (.func f)); clear hρ; rw [execOp_call_rho (hfn _)]; clear hfn; go_simp; (all_goals (first | (with_reducible rfl) | (constructor <;> with_reducible rfl))))
      (with_reducible refine (CKM.out _ (Bel.of kb (Bel.of kc kd.out).out)).mono ?_)
      rintro e w5 ⟨va, rfl, own5, g5⟩
      have k5 : Bel wc w5 := Bel.of kd g5
      obtain ⟨qa, ca, rfl⟩ := own_form own5
      have OWN5 := Lib.hid own5
      clear own5 g5
      refine ⟨_, rfl, k5, ?_⟩
      rotate_left 1
      focus exact tree_no
      refine tree_done ?_
      (simp only [List.drop_succ_cons, List.drop_zero])
      subst ha
      (simp only [put_some, set_s, set_z])
      go_wp2_with (first | (go_at_call 20; (with_reducible refine (RKM.out _ (Bel.of kb (Bel.of kc k5.out).out)).mono ?_); rintro e w6 ⟨vb, rfl, own6, g6⟩; have k6 : Bel wc w6 := Bel.of k5 g6; obtain ⟨qb, cb, rfl⟩ := own_form own6; have SA := Lib.hid (probs_sv (row_bel OWN5.out (Bel.of (Bel.refl _) g6)) HLN.out); have SB := Lib.hid (probs_sv own6 HLN.out); clear own6 g6) | (go_at_call 11; (with_reducible refine (rf_Same _ _ _ _ _ SA.out SB.out).mono ?_); rintro e w7 ⟨⟨r, rfl, hr⟩, h7⟩; have k7 : Bel wc w7 := Bel.of k6 h7; have hr2 := hr.2 rfl; subst hr2; clear h7 hr) | (go_at_call 8; (with_reducible refine (CA.out _ (Bel.of kb (Bel.of kc k7.out).out)).mono ?_); rintro e w8 ⟨rfl, h8⟩; have k8 : Bel wc w8 := Bel.of k7 h8; clear h8))
      go_ret
      exact ⟨rfl, (Bel.of kb (Bel.of kc k8.out).out).out⟩
end Go.Proofs.YtigfjnbgchndkaaGreatDoor
