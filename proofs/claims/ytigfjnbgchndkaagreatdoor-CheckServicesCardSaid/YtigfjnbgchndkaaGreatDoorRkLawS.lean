/- Layer 12's law CheckServices walked. Printed by genlaws2.py. -/
import Derived.Test.YtigfjnbgchndkaaGreatDoorRkS
import Derived.Test.YtigfjnbgchndkaaGreatDoorCkSmall
import Derived.Test.YtigfjnbgchndkaaGreatDoorCkParMem
import Derived.Test.YtigfjnbgchndkaaGreatDoorKitF
import Derived.Test.YtigfjnbgchndkaaGreatDoorTreeG
import Derived.Deep.DeepCutAuto
namespace Go.Proofs.YtigfjnbgchndkaaGreatDoor
open Go.RowKit Ck
set_option linter.unusedVariables false
set_option linter.unusedSimpArgs false

theorem vschema_oneS {W : World} {g : Nat} {T : TypeId} (vq1 vq2 : Option Addr) (vc1 vc2 : Nat) (x : PSvc) (h : W.heap[g]? = some (.cells #[.string (S x.name), .slice vq1 x.meths.length vc1, .slice vq2 x.notes.length vc2] T (0, 0))) (hm : VSvc W [.string (S x.name), .slice vq1 x.meths.length vc1, .slice vq2 x.notes.length vc2] x) :
    VSchema W [.slice none 0 0, .slice none 0 0, .slice (some ⟨g, 0, none⟩) 1 1] ⟨[], [], [x]⟩ := by
  refine ⟨_, _, _, rfl, Sl.nil _ _ _ _ _, Sl.nil _ _ _ _ _, ⟨some ⟨g, 0, none⟩, 1, rfl, by simp, by simp, fun i y hy => ?_⟩⟩
  have hi : i = 0 := by
    have := (List.getElem?_eq_some_iff.1 hy).1
    simpa using this
  subst hi
  have hxe : x = y := by simpa using hy
  subst hxe
  refine ⟨g, 0, rfl, (Array.getElem?_eq_some_iff.1 h).1, _, fun j v hv => ?_, hm⟩
  rw [Lib.cell_of_heap h, Nat.zero_mul, Nat.zero_add]
  simpa using hv
set_option maxHeartbeats 4000000 in
set_option maxRecDepth 100000 in
theorem law_Services (sq1 sq2 sq3 : Option Addr) (sc1 sc2 sc3 : Nat) (s : PSchema) (vq1 vq2 : Option Addr) (vc1 vc2 : Nat) (x : PSvc) (w : World) (hM : ML w) (hs : VSchema w [.slice sq1 s.msgs.length sc1, .slice sq2 s.enums.length sc2, .slice sq3 s.svcs.length sc3] s) (hu : UnB s) (hm : VSvc w [.string (S x.name), .slice vq1 x.meths.length vc1, .slice vq2 x.notes.length vc2] x) :
    Calls Tryz.prog 6 #[.agg #[.slice sq1 s.msgs.length sc1, .slice sq2 s.enums.length sc2, .slice sq3 s.svcs.length sc3], .agg #[.string (S x.name), .slice vq1 x.meths.length vc1, .slice vq2 x.notes.length vc2]] w fun e w' => e = .returned (.bool true) ∧ Below w.heap.size w w' := by
  have hKS : ∀ W', Bel ((w.alloc (.cells #[.slice sq1 s.msgs.length sc1, .slice sq2 s.enums.length sc2, .slice sq3 s.svcs.length sc3] 26)).alloc (.cells #[.string (S x.name), .slice vq1 x.meths.length vc1, .slice vq2 x.notes.length vc2] 53)) W' → W'.cell? ⟨w.heap.size, 0, none⟩ = some (.slice sq1 s.msgs.length sc1) ∧ W'.cell? ⟨w.heap.size, 1, none⟩ = some (.slice sq2 s.enums.length sc2) ∧ W'.cell? ⟨w.heap.size, 2, none⟩ = some (.slice sq3 s.svcs.length sc3) ∧ W'.cell? ⟨(w.heap.size + 1), 0, none⟩ = some (.string (S x.name)) ∧ W'.cell? ⟨(w.heap.size + 1), 1, none⟩ = some (.slice vq1 x.meths.length vc1) ∧ W'.cell? ⟨(w.heap.size + 1), 2, none⟩ = some (.slice vq2 x.notes.length vc2) := fun W' k => by
    refine ⟨k.some ?_, k.some ?_, k.some ?_, k.some ?_, k.some ?_, k.some ?_⟩
    all_goals first
      | (rw [World.cell?_alloc_at _ _ _ _ (by simp)]; rfl)
      | (rw [World.cell?_alloc_at _ _ _ _ rfl]; rfl)
      | (rw [World.cell?_alloc_past _ _ _ (by simp), World.cell?_alloc_at _ _ _ _ rfl]; rfl)
  have KS := Lib.hid hKS
  have kb : Bel w ((w.alloc (.cells #[.slice sq1 s.msgs.length sc1, .slice sq2 s.enums.length sc2, .slice sq3 s.svcs.length sc3] 26)).alloc (.cells #[.string (S x.name), .slice vq1 x.meths.length vc1, .slice vq2 x.notes.length vc2] 53)) := ((Bel.refl _).alloc _).alloc _
  have CA := Lib.hid (fun W (k : Bel w W) => law_awake W (hM.below k.out))
  have CS := Lib.hid (fun W (k : Bel w W) => rf_Small sq1 sq2 sq3 s.msgs.length s.enums.length s.svcs.length sc1 sc2 sc3 s W (hs.stays_bel k))
  have CT := Lib.hid (fun (g : Nat) W (k : Bel w W) (h : W.heap[g]? = some (.cells #[.string (S x.name), .slice vq1 x.meths.length vc1, .slice vq2 x.notes.length vc2] 53 (0, 0))) => rf_Small none none (some ⟨g, 0, none⟩) 0 0 1 0 0 1 ⟨[], [], [x]⟩ W (vschema_oneS vq1 vq2 vc1 vc2 x h (VSvc.stays _ _ _ _ k hm)))
  have HM := Lib.hid hm
  have HS := Lib.hid hs
  have HML := Lib.hid hM
  clear hKS hm hM hs
  go_enter Tryz.func6, Tryz.ntmps6
  go_upto_region 1 with (fail)
  go_cut [14] (fun s7 wx => ∃ B : Bool, s7 = .bool B ∧ Bel ((w.alloc (.cells #[.slice sq1 s.msgs.length sc1, .slice sq2 s.enums.length sc2, .slice sq3 s.svcs.length sc3] 26)).alloc (.cells #[.string (S x.name), .slice vq1 x.meths.length vc1, .slice vq2 x.notes.length vc2] 53)) wx ∧ Hid (B = false → SmallP s ∧ SmallP ⟨[], [], [x]⟩))
  case first =>
    obtain ⟨c0, c1, c2, e0, e1, e2⟩ := KS.out _ (Bel.refl _)
    go_wp2_with (first
      | (go_at_call 7; (with_reducible refine (CS.out _ kb).mono ?_); rintro e w1 ⟨b, rfl, hsm, h1⟩; have k1 : Bel ((w.alloc (.cells #[.slice sq1 s.msgs.length sc1, .slice sq2 s.enums.length sc2, .slice sq3 s.svcs.length sc3] 26)).alloc (.cells #[.string (S x.name), .slice vq1 x.meths.length vc1, .slice vq2 x.notes.length vc2] 53)) w1 := Bel.of (Bel.refl _) h1; have HSM := Lib.hid hsm; clear h1 hsm c0 c1 c2 e0 e1 e2; obtain ⟨c0, c1, c2, e0, e1, e2⟩ := KS.out _ k1)
      | (go_at_call 7; (with_reducible refine (CT.out _ _ (Bel.alloc (Bel.of kb k1.out) _) (by first | (exact heap_alloc_at _ _ _ (by simp)) | (exact heap_alloc_at _ _ _ rfl))).mono ?_); rintro e w3 ⟨b2, rfl, hsm2, h3⟩; have k3 : Bel ((w.alloc (.cells #[.slice sq1 s.msgs.length sc1, .slice sq2 s.enums.length sc2, .slice sq3 s.svcs.length sc3] 26)).alloc (.cells #[.string (S x.name), .slice vq1 x.meths.length vc1, .slice vq2 x.notes.length vc2] 53)) w3 := Bel.of (k1.alloc _) h3; have HSM2 := Lib.hid hsm2; clear h3 hsm2))
    · go_meet
      exact ⟨!b2, rfl, k3, Lib.hid (fun h => ⟨HSM.out (by assumption), HSM2.out (by simpa using h)⟩)⟩
    · go_meet
      exact ⟨true, rfl, k1, Lib.hid (fun h => by cases h)⟩
  case rest =>
    obtain ⟨B, hs7, kc, hF⟩ := hcut
    subst hs7
    cases B with
    | true =>
      go_wp2_with (go_at_call 8; (with_reducible refine (CA.out _ (Bel.of kb kc.out)).mono ?_); rintro e w8 ⟨rfl, h8⟩; have k8 : Bel w w8 := Bel.of (Bel.of kb kc.out) h8; clear h8)
      go_ret
      exact ⟨rfl, k8.out⟩
    | false =>
      obtain ⟨hsm, hsm2⟩ := hF.out rfl
      have hsh2 := (short_of_small hsm2 (fun y hy => by cases hy)).2.2.1 x (List.mem_singleton.2 rfl)
      have hok := hsm2.2.2.2.2.2 x (List.mem_singleton.2 rfl)
      have HLN := Lib.hid (show (service s x).length ≤ 1000000000 by
        have h1 := service_len s x
        have h2 := hok.2.1
        omega)
      have CKM := Lib.hid (fun W (k : Bel w W) => ck_Service sq1 sq2 sq3 s.msgs.length s.enums.length s.svcs.length sc1 sc2 sc3 s x.name vq1 vq2 x.meths.length x.notes.length vc1 vc2 x W (HS.out.stays_bel k) (VSvc.stays _ _ _ _ k HM.out) (HML.out.below k.out) hsh2.1 hsh2.2.1 hsh2.2.2.1 hsh2.2.2.2)
      have RKM := Lib.hid (fun W (k : Bel w W) => rk_Service sq1 sq2 sq3 sc1 sc2 sc3 s vq1 vq2 vc1 vc2 x W (HS.out.stays_bel k) (VSvc.stays _ _ _ _ k HM.out) hsh2.1 hsh2.2.1 (fun f hf => (hsh2.2.2.1 f hf).1))
      generalize service s x = T at CKM RKM HLN
      clear hF hsm hsm2 hsh2 hok CS CT
      go_upto_region 3 with (fail)
      obtain ⟨wd, hwd⟩ : ∃ wd, wd = wc.drew := ⟨_, rfl⟩
      have kd : Bel wc wd := by rw [hwd]; exact (Bel.refl _).drew
      have HWD := Lib.hid hwd
      have KS0 := KS
      clear hwd KS
      have KS := Lib.hid (fun W' (k : Bel wc W') => KS0.out W' (Bel.of kc k.out))
      refine region_treeA (fun W => Bel wc W) (.take 0 (.take 1 (.take 3 (.take 4 (.alt 2 .done .no))))) 5 (by kernel_rfl) (by kernel_rfl) HWD.out kd (fun a ha => ?_)
      (simp only [pickT, List.getD_cons_zero, List.getD_cons_succ])
      have hsz : a.tmps.size = 26 := (by rw [ha]; kernel_rfl)
      have a2 : a.eval (.tmp 2) = .pointer (some ⟨w.heap.size, 0, none⟩) := (by rw [ha]; kernel_rfl)
      have a3 : a.eval (.tmp 3) = .pointer (some ⟨w.heap.size + 1, 0, none⟩) := (by rw [ha]; kernel_rfl)
      (with_reducible refine tree_held (v := ?_) rfl (by with_unfolding_all rfl) (fun ρ hρ W hW => ?_) ?_); (rotate_left 1)
      focus (have hS := KS.out _ hW; clear hW; have p2 := hρ (.tmp 2); (simp (disch := (first | decide | ((try simp only [sz_put]); rw [hsz]; decide))) only [ev_eq, ev_ne, a2, a3] at p2); have hc : ∀ c, ρ (.const c) = c := (fun c => hρ (.const c)); have hfn : ∀ f, ρ (.func f) = .func (.func f) #[] #[] := (fun f => hρ (.func f)); clear hρ; go_simp; (all_goals (first | (with_reducible rfl) | (constructor <;> with_reducible rfl))))
      (with_reducible refine tree_held (v := ?_) rfl (by with_unfolding_all rfl) (fun ρ hρ W hW => ?_) ?_); (rotate_left 1)
      focus (have hS := KS.out _ hW; clear hW; have p3 := hρ (.tmp 3); (simp (disch := (first | decide | ((try simp only [sz_put]); rw [hsz]; decide))) only [ev_eq, ev_ne, a2, a3] at p3); have hc : ∀ c, ρ (.const c) = c := (fun c => hρ (.const c)); have hfn : ∀ f, ρ (.func f) = .func (.func f) #[] #[] := (fun f => hρ (.func f)); clear hρ; go_simp; (all_goals (first | (with_reducible rfl) | (constructor <;> with_reducible rfl))))
      (with_reducible refine tree_held (v := ?_) rfl (by with_unfolding_all rfl) (fun ρ hρ W hW => ?_) ?_); (rotate_left 1)
      focus (have hS := KS.out _ hW; clear hW; have p2 := hρ (.tmp 2); (simp (disch := (first | decide | ((try simp only [sz_put]); rw [hsz]; decide))) only [ev_eq, ev_ne, a2, a3] at p2); have hc : ∀ c, ρ (.const c) = c := (fun c => hρ (.const c)); have hfn : ∀ f, ρ (.func f) = .func (.func f) #[] #[] := (fun f => hρ (.func f)); clear hρ; go_simp; (all_goals (first | (with_reducible rfl) | (constructor <;> with_reducible rfl))))
      (with_reducible refine tree_held (v := ?_) rfl (by with_unfolding_all rfl) (fun ρ hρ W hW => ?_) ?_); (rotate_left 1)
      focus (have hS := KS.out _ hW; clear hW; have p3 := hρ (.tmp 3); (simp (disch := (first | decide | ((try simp only [sz_put]); rw [hsz]; decide))) only [ev_eq, ev_ne, a2, a3] at p3); have hc : ∀ c, ρ (.const c) = c := (fun c => hρ (.const c)); have hfn : ∀ f, ρ (.func f) = .func (.func f) #[] #[] := (fun f => hρ (.func f)); clear hρ; go_simp; (all_goals (first | (with_reducible rfl) | (constructor <;> with_reducible rfl))))
      (with_reducible refine tree_enter (f := ?_) (args := ?_) rfl (by with_unfolding_all rfl) (fun ρ hρ => ?_) ?_ ?_); (rotate_left 2)
      focus (have p16 := hρ (.tmp 16); (simp (disch := (first | decide | ((try simp only [sz_put]); rw [hsz]; decide))) only [ev_eq, ev_ne, a2, a3] at p16); have p17 := hρ (.tmp 17); (simp (disch := (first | decide | ((try simp only [sz_put]); rw [hsz]; decide))) only [ev_eq, ev_ne, a2, a3] at p17); have hc : ∀ c, ρ (.const c) = c := (fun c => hρ (.const c)); have hfn : ∀ f, ρ (.func f) = .func (.func f) #[] #[] := (fun f => hρ (.func f)); clear hρ; rw [execOp_call_rho (hfn _)]; clear hfn; go_simp; (all_goals (first | (with_reducible rfl) | (constructor <;> with_reducible rfl))))
      (with_reducible refine (CKM.out _ (Bel.of kb (Bel.of kc kd.out).out)).mono ?_)
      rintro e w5 ⟨va, rfl, own5, g5⟩
      have k5 : Bel wc w5 := Bel.of kd g5
      obtain ⟨qa, ca, rfl⟩ := own_form own5
      have OWN5 := Lib.hid own5
      clear own5 g5
      refine ⟨_, rfl, k5, ?_⟩
      rotate_left 1
      focus exact tree_no
      refine tree_done ?_
      (simp only [List.drop_succ_cons, List.drop_zero])
      subst ha
      (simp only [put_some, set_s, set_z])
      go_wp2_with (first | (go_at_call 22; (with_reducible refine (RKM.out _ (Bel.of kb (Bel.of kc k5.out).out)).mono ?_); rintro e w6 ⟨vb, rfl, own6, g6⟩; have k6 : Bel wc w6 := Bel.of k5 g6; obtain ⟨qb, cb, rfl⟩ := own_form own6; have SA := Lib.hid (probs_sv (row_bel OWN5.out (Bel.of (Bel.refl _) g6)) HLN.out); have SB := Lib.hid (probs_sv own6 HLN.out); clear own6 g6) | (go_at_call 11; (with_reducible refine (rf_Same _ _ _ _ _ SA.out SB.out).mono ?_); rintro e w7 ⟨⟨r, rfl, hr⟩, h7⟩; have k7 : Bel wc w7 := Bel.of k6 h7; have hr2 := hr.2 rfl; subst hr2; clear h7 hr) | (go_at_call 8; (with_reducible refine (CA.out _ (Bel.of kb (Bel.of kc k7.out).out)).mono ?_); rintro e w8 ⟨rfl, h8⟩; have k8 : Bel wc w8 := Bel.of k7 h8; clear h8))
      go_ret
      exact ⟨rfl, (Bel.of kb (Bel.of kc k8.out).out).out⟩
end Go.Proofs.YtigfjnbgchndkaaGreatDoor
