/- The reference's Message walked. Printed by genrefx.py. -/
import Derived.Test.YtigfjnbgchndkaaGreatDoorRkW
import Derived.Deep.DeepCutAuto
namespace Go.Proofs.YtigfjnbgchndkaaGreatDoor
open Go.RowKit Ck
set_option linter.unusedVariables false
set_option linter.unusedSimpArgs false

theorem refMsg_eq (s : PSchema) (m : PMsg) : refMsg s m (refFinite s) = message s m := by
  unfold refMsg message inMessage
  rw [refNeeds_cyclic]
  rfl
set_option maxHeartbeats 4000000 in
set_option maxRecDepth 100000 in
theorem rk_Message (sq1 sq2 sq3 : Option Addr) (sc1 sc2 sc3 : Nat) (s : PSchema) (mq1 mq2 mq3 mq4 : Option Addr) (mc1 mc2 mc3 mc4 : Nat) (m : PMsg) (w : World) (hs : VSchema w [.slice sq1 s.msgs.length sc1, .slice sq2 s.enums.length sc2, .slice sq3 s.svcs.length sc3] s) (hm : VMsg w [.string (S m.name), .slice mq1 m.fields.length mc1, .slice mq2 m.res.length mc2, .slice mq3 m.gone.length mc3, .slice mq4 m.notes.length mc4] m) (hnm : m.name.length ≤ 100000000) (hl1 : m.fields.length ≤ 2000000) (hl2 : m.res.length ≤ 2000000) (hl3 : m.gone.length ≤ 2000000)
    (hfl : ∀ f ∈ m.fields, f.name.length ≤ 1000000000 ∧ f.un.length ≤ 1000000000000000) (hgl : ∀ g ∈ m.gone, g.length ≤ 1000000000) :
    Calls Tryz.prog 18 #[.agg #[.slice sq1 s.msgs.length sc1, .slice sq2 s.enums.length sc2, .slice sq3 s.svcs.length sc3], .agg #[.string (S m.name), .slice mq1 m.fields.length mc1, .slice mq2 m.res.length mc2, .slice mq3 m.gone.length mc3, .slice mq4 m.notes.length mc4]] w (ProbsOut w (message s m)) := by
  have hKS : ∀ W', Bel ((w.alloc (.cells #[.slice sq1 s.msgs.length sc1, .slice sq2 s.enums.length sc2, .slice sq3 s.svcs.length sc3] 26)).alloc (.cells #[.string (S m.name), .slice mq1 m.fields.length mc1, .slice mq2 m.res.length mc2, .slice mq3 m.gone.length mc3, .slice mq4 m.notes.length mc4] 42)) W' → W'.cell? ⟨w.heap.size, 0, none⟩ = some (.slice sq1 s.msgs.length sc1) ∧ W'.cell? ⟨w.heap.size, 1, none⟩ = some (.slice sq2 s.enums.length sc2) ∧ W'.cell? ⟨w.heap.size, 2, none⟩ = some (.slice sq3 s.svcs.length sc3) ∧ W'.cell? ⟨(w.heap.size + 1), 0, none⟩ = some (.string (S m.name)) ∧ W'.cell? ⟨(w.heap.size + 1), 1, none⟩ = some (.slice mq1 m.fields.length mc1) ∧ W'.cell? ⟨(w.heap.size + 1), 2, none⟩ = some (.slice mq2 m.res.length mc2) ∧ W'.cell? ⟨(w.heap.size + 1), 3, none⟩ = some (.slice mq3 m.gone.length mc3) ∧ W'.cell? ⟨(w.heap.size + 1), 4, none⟩ = some (.slice mq4 m.notes.length mc4) := fun W' k => by
    refine ⟨k.some ?_, k.some ?_, k.some ?_, k.some ?_, k.some ?_, k.some ?_, k.some ?_, k.some ?_⟩
    all_goals first
      | (rw [World.cell?_alloc_at _ _ _ _ (by simp)]; rfl)
      | (rw [World.cell?_alloc_past _ _ _ (by simp), World.cell?_alloc_at _ _ _ _ rfl]; rfl)
  have KS := Lib.hid hKS
  have kb : Bel w ((w.alloc (.cells #[.slice sq1 s.msgs.length sc1, .slice sq2 s.enums.length sc2, .slice sq3 s.svcs.length sc3] 26)).alloc (.cells #[.string (S m.name), .slice mq1 m.fields.length mc1, .slice mq2 m.res.length mc2, .slice mq3 m.gone.length mc3, .slice mq4 m.notes.length mc4] 42)) := ((Bel.refl _).alloc _).alloc _
  have CF := Lib.hid (fun W (k : Bel w W) => rk_Finite sq1 sq2 sq3 sc1 sc2 sc3 s W (hs.stays_bel k))
  have CM := Lib.hid (fun (Bf fc : Nat) W (k : Bel w W) (h : W.heap[Bf]? = some (.cells ((refFinite s).map Value.bool).toArray 4 (0, 0))) (hl : (refFinite s).length = s.msgs.length) => rk_message sq1 sq2 sq3 sc1 sc2 sc3 s mq1 mq2 mq3 mq4 mc1 mc2 mc3 mc4 m (refFinite s) Bf fc W (hs.stays_bel k) (VMsg.stays _ _ _ _ k hm) h hl hnm hl1 hl2 hl3 hfl hgl)
  have HE := Lib.hid (refMsg_eq s m)
  clear hKS hs hm hnm hl1 hl2 hl3 hfl hgl
  generalize message s m = R at HE ⊢
  go_enter Tryz.func18, Tryz.ntmps18
  go_upto_region 1 with (fail)
  obtain ⟨wd, hwd⟩ : ∃ wd, wd = ((w.alloc (.cells #[.slice sq1 s.msgs.length sc1, .slice sq2 s.enums.length sc2, .slice sq3 s.svcs.length sc3] 26)).alloc (.cells #[.string (S m.name), .slice mq1 m.fields.length mc1, .slice mq2 m.res.length mc2, .slice mq3 m.gone.length mc3, .slice mq4 m.notes.length mc4] 42)).drew := ⟨_, rfl⟩
  have kd : Bel ((w.alloc (.cells #[.slice sq1 s.msgs.length sc1, .slice sq2 s.enums.length sc2, .slice sq3 s.svcs.length sc3] 26)).alloc (.cells #[.string (S m.name), .slice mq1 m.fields.length mc1, .slice mq2 m.res.length mc2, .slice mq3 m.gone.length mc3, .slice mq4 m.notes.length mc4] 42)) wd := by rw [hwd]; exact (Bel.refl _).drew
  have HWD := Lib.hid hwd
  clear hwd
  refine region_treeA (fun W => Bel ((w.alloc (.cells #[.slice sq1 s.msgs.length sc1, .slice sq2 s.enums.length sc2, .slice sq3 s.svcs.length sc3] 26)).alloc (.cells #[.string (S m.name), .slice mq1 m.fields.length mc1, .slice mq2 m.res.length mc2, .slice mq3 m.gone.length mc3, .slice mq4 m.notes.length mc4] 42)) W) (.take 0 (.take 1 (.take 2 (.alt 3 .done .no)))) 4 (by kernel_rfl) (by kernel_rfl) HWD.out kd (fun a ha => ?_)
  (simp only [pickT, List.getD_cons_zero, List.getD_cons_succ])
  have hsz : a.tmps.size = 10 := (by rw [ha]; kernel_rfl)
  have a2 : a.eval (.tmp 2) = .pointer (some ⟨w.heap.size, 0, none⟩) := (by rw [ha]; kernel_rfl)
  have a3 : a.eval (.tmp 3) = .pointer (some ⟨w.heap.size + 1, 0, none⟩) := (by rw [ha]; kernel_rfl)
  (with_reducible refine tree_held (v := ?_) rfl (by with_unfolding_all rfl) (fun ρ hρ W hW => ?_) ?_); (rotate_left 1)
  focus (have hS := KS.out _ hW; clear hW; have p2 := hρ (.tmp 2); (simp (disch := (first | decide | ((try simp only [sz_put]); rw [hsz]; decide))) only [ev_eq, ev_ne, a2, a3] at p2); have hc : ∀ c, ρ (.const c) = c := (fun c => hρ (.const c)); have hfn : ∀ f, ρ (.func f) = .func (.func f) #[] #[] := (fun f => hρ (.func f)); clear hρ; go_simp; (all_goals (first | (with_reducible rfl) | (constructor <;> with_reducible rfl))))
  (with_reducible refine tree_held (v := ?_) rfl (by with_unfolding_all rfl) (fun ρ hρ W hW => ?_) ?_); (rotate_left 1)
  focus (have hS := KS.out _ hW; clear hW; have p3 := hρ (.tmp 3); (simp (disch := (first | decide | ((try simp only [sz_put]); rw [hsz]; decide))) only [ev_eq, ev_ne, a2, a3] at p3); have hc : ∀ c, ρ (.const c) = c := (fun c => hρ (.const c)); have hfn : ∀ f, ρ (.func f) = .func (.func f) #[] #[] := (fun f => hρ (.func f)); clear hρ; go_simp; (all_goals (first | (with_reducible rfl) | (constructor <;> with_reducible rfl))))
  (with_reducible refine tree_held (v := ?_) rfl (by with_unfolding_all rfl) (fun ρ hρ W hW => ?_) ?_); (rotate_left 1)
  focus (have hS := KS.out _ hW; clear hW; have p2 := hρ (.tmp 2); (simp (disch := (first | decide | ((try simp only [sz_put]); rw [hsz]; decide))) only [ev_eq, ev_ne, a2, a3] at p2); have hc : ∀ c, ρ (.const c) = c := (fun c => hρ (.const c)); have hfn : ∀ f, ρ (.func f) = .func (.func f) #[] #[] := (fun f => hρ (.func f)); clear hρ; go_simp; (all_goals (first | (with_reducible rfl) | (constructor <;> with_reducible rfl))))
  (with_reducible refine tree_enter (f := ?_) (args := ?_) rfl (by with_unfolding_all rfl) (fun ρ hρ => ?_) ?_ ?_); (rotate_left 2)
  focus (have p7 := hρ (.tmp 7); (simp (disch := (first | decide | ((try simp only [sz_put]); rw [hsz]; decide))) only [ev_eq, ev_ne, a2, a3] at p7); have hc : ∀ c, ρ (.const c) = c := (fun c => hρ (.const c)); have hfn : ∀ f, ρ (.func f) = .func (.func f) #[] #[] := (fun f => hρ (.func f)); clear hρ; rw [execOp_call_rho (hfn _)]; clear hfn; go_simp; (all_goals (first | (with_reducible rfl) | (constructor <;> with_reducible rfl))))
  (with_reducible refine (CF.out _ (Bel.of kb kd.out)).mono ?_)
  rintro e w5 ⟨Bf, rfl, g5, hfl5⟩
  have k5 : Bel ((w.alloc (.cells #[.slice sq1 s.msgs.length sc1, .slice sq2 s.enums.length sc2, .slice sq3 s.svcs.length sc3] 26)).alloc (.cells #[.string (S m.name), .slice mq1 m.fields.length mc1, .slice mq2 m.res.length mc2, .slice mq3 m.gone.length mc3, .slice mq4 m.notes.length mc4] 42)) w5 := Bel.of kd g5.2.2.out
  have HB5 := Lib.hid g5.2.1
  clear g5
  refine ⟨_, rfl, k5, ?_⟩
  rotate_left 1
  focus exact tree_no
  refine tree_done ?_
  (simp only [List.drop_succ_cons, List.drop_zero])
  subst ha
  (simp only [put_some, set_s, set_z])
  go_wp2_with (go_at_call 37; (with_reducible refine (CM.out _ _ _ (Bel.of kb k5.out) HB5.out hfl5).mono ?_); rintro e w6 ⟨v, rfl, hown, h6⟩; have k6 : Bel ((w.alloc (.cells #[.slice sq1 s.msgs.length sc1, .slice sq2 s.enums.length sc2, .slice sq3 s.svcs.length sc3] 26)).alloc (.cells #[.string (S m.name), .slice mq1 m.fields.length mc1, .slice mq2 m.res.length mc2, .slice mq3 m.gone.length mc3, .slice mq4 m.notes.length mc4] 42)) w6 := Bel.of k5 h6; have HO := Lib.hid hown; clear hown h6)
  go_ret
  refine ⟨v, rfl, ?_, (Bel.of kb k6.out).out⟩
  rw [← HE.out]
  exact own_lower HO.out (Bel.of kb k5.out).size
end Go.Proofs.YtigfjnbgchndkaaGreatDoor
