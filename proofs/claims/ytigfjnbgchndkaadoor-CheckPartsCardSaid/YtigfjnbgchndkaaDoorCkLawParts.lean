/- Layer 12's law CheckParts walked. Printed by genparts.py. -/
import Derived.Test.YtigfjnbgchndkaaDoorCkParMem
import Derived.Test.YtigfjnbgchndkaaDoorCkSmall
import Derived.Test.YtigfjnbgchndkaaDoorTreeG
import Derived.Deep.DeepCutAuto
import Derived.Deep.CutBlock
import Derived.IntWalk
namespace Go.Proofs.YtigfjnbgchndkaaDoor
open Go.RowKit Ck
set_option linter.unusedVariables false
set_option linter.unusedSimpArgs false

set_option maxHeartbeats 4000000 in
set_option maxRecDepth 100000 in
theorem law_Parts (sq1 sq2 sq3 : Option Addr) (sc1 sc2 sc3 : Nat) (s : PSchema) (w : World) (hM : ML w) (hs : VSchema w [.slice sq1 s.msgs.length sc1, .slice sq2 s.enums.length sc2, .slice sq3 s.svcs.length sc3] s) (hu : UnB s) :
    Calls Tryd.prog 5 #[.agg #[.slice sq1 s.msgs.length sc1, .slice sq2 s.enums.length sc2, .slice sq3 s.svcs.length sc3]] w fun e w' => e = .returned (.bool true) ∧ Below w.heap.size w w' := by
  have KB := Lib.hid (fun W' (k : Bel (w.alloc (.cells #[.slice sq1 s.msgs.length sc1, .slice sq2 s.enums.length sc2, .slice sq3 s.svcs.length sc3] 31)) W') => show W'.cell? ⟨w.heap.size, 0, none⟩ = some (.slice sq1 s.msgs.length sc1) ∧ W'.cell? ⟨w.heap.size, 1, none⟩ = some (.slice sq2 s.enums.length sc2) ∧ W'.cell? ⟨w.heap.size, 2, none⟩ = some (.slice sq3 s.svcs.length sc3) from ⟨k.some ((World.cell?_alloc_at _ _ _ _ rfl).trans rfl), k.some ((World.cell?_alloc_at _ _ _ _ rfl).trans rfl), k.some ((World.cell?_alloc_at _ _ _ _ rfl).trans rfl)⟩)
  have kb : Bel w (w.alloc (.cells #[.slice sq1 s.msgs.length sc1, .slice sq2 s.enums.length sc2, .slice sq3 s.svcs.length sc3] 31)) := (Bel.refl _).alloc _
  have CA := Lib.hid (fun W (k : Bel w W) => law_awake W (hM.below k.out))
  have CS := Lib.hid (fun W (k : Bel w W) => rf_Small sq1 sq2 sq3 s.msgs.length s.enums.length s.svcs.length sc1 sc2 sc3 s W (hs.stays_bel k))

  obtain ⟨_, _, _, hcs, hm1, hm2, hm3⟩ := id hs
  cases hcs
  have HM1 := Lib.hid hm1
  have HM2 := Lib.hid hm2
  have HM3 := Lib.hid hm3
  clear hm1 hm2 hm3
  have HS := Lib.hid hs
  have HMM := Lib.hid hM
  clear hs hM
  go_enter Tryd.func5, Tryd.ntmps5
  go_upto_region 1 with (fail)
  go_cut [14] (fun s14 wx => ∃ B : Bool, s14 = .bool B ∧ Bel (w.alloc (.cells #[.slice sq1 s.msgs.length sc1, .slice sq2 s.enums.length sc2, .slice sq3 s.svcs.length sc3] 31)) wx ∧ Hid (B = false → SmallP s))
  case first =>
    obtain ⟨c0, c1, c2⟩ := KB.out _ (Bel.refl _)
    go_wp2_with (go_at_call 9; (with_reducible refine (CS.out _ (Bel.of kb (by (repeat (first | (with_reducible assumption) | (with_reducible exact Bel.refl _) | (with_reducible refine Bel.drew ?_) | (with_reducible refine Bel.drewN ?_ _) | (with_reducible refine Bel.alloc ?_ _))) : Bel (w.alloc (.cells #[.slice sq1 s.msgs.length sc1, .slice sq2 s.enums.length sc2, .slice sq3 s.svcs.length sc3] 31)) _).out)).mono ?_); rintro e w1 ⟨b, rfl, hsm, h1⟩; have k1 : Bel (w.alloc (.cells #[.slice sq1 s.msgs.length sc1, .slice sq2 s.enums.length sc2, .slice sq3 s.svcs.length sc3] 31)) w1 := Bel.of (by (repeat (first | (with_reducible assumption) | (with_reducible exact Bel.refl _) | (with_reducible refine Bel.drew ?_) | (with_reducible refine Bel.drewN ?_ _) | (with_reducible refine Bel.alloc ?_ _)))) h1; have HSM := Lib.hid hsm; clear h1 hsm)
    go_meet
    exact ⟨!b, rfl, k1, Lib.hid (fun h => HSM.out (by simpa using h))⟩
  case rest =>
    obtain ⟨B, hs14, kc, hF⟩ := hcut
    subst hs14
    cases B with
    | true =>
      go_wp2_with (go_at_call 7; (with_reducible refine (CA.out _ (Bel.of kb (by (repeat (first | (with_reducible assumption) | (with_reducible exact Bel.refl _) | (with_reducible refine Bel.drew ?_) | (with_reducible refine Bel.drewN ?_ _) | (with_reducible refine Bel.alloc ?_ _))) : Bel (w.alloc (.cells #[.slice sq1 s.msgs.length sc1, .slice sq2 s.enums.length sc2, .slice sq3 s.svcs.length sc3] 31)) _).out)).mono ?_); rintro e w3 ⟨rfl, h3⟩; have k3 : Bel (w.alloc (.cells #[.slice sq1 s.msgs.length sc1, .slice sq2 s.enums.length sc2, .slice sq3 s.svcs.length sc3] 31)) w3 := Bel.of (by (repeat (first | (with_reducible assumption) | (with_reducible exact Bel.refl _) | (with_reducible refine Bel.drew ?_) | (with_reducible refine Bel.drewN ?_ _) | (with_reducible refine Bel.alloc ?_ _)))) h3; clear h3)
      go_ret
      exact ⟨rfl, Bel.out (Bel.of kb k3.out)⟩
    | false =>
      have hsm := hF.out rfl
      have hsh := short_of_small hsm hu
      obtain ⟨c0, c1, c2⟩ := KB.out _ kc
      have hlen := hsh.2.2.2.1.1
      have CM := Lib.hid (fun (m : PMsg) (hm : m ∈ s.msgs) (n1 : Str) (a1 a2 a3 a4 : Option Addr) (m1 m2 m3 m4 y1 y2 y3 y4 : Nat) W (k : Bel w W) (hv : VMsg W [.string (S n1), .slice a1 m1 y1, .slice a2 m2 y2, .slice a3 m3 y3, .slice a4 m4 y4] m) => ck_Message sq1 sq2 sq3 s.msgs.length s.enums.length s.svcs.length sc1 sc2 sc3 s n1 a1 a2 a3 a4 m1 m2 m3 m4 y1 y2 y3 y4 m W (HS.out.stays_bel k) hv (HMM.out.below k.out) (hsh.1 m hm).1 (hsh.1 m hm).2.1 (hsh.1 m hm).2.2.1 (hsh.1 m hm).2.2.2.1 (hsh.1 m hm).2.2.2.2.1 (hsh.1 m hm).2.2.2.2.2.1 (hsh.1 m hm).2.2.2.2.2.2 hlen (fun m hm => Nat.le_trans (hsh.1 m hm).1 (by decide)) (fun m hm => ⟨(hsh.1 m hm).2.1, fun f hf => ((hsh.1 m hm).2.2.2.2.1 f hf).2.2.1⟩))
      have CE := Lib.hid (fun (e : PEnum) (hm : e ∈ s.enums) (n1 : Str) (op : Bool) (a1 a2 a3 : Option Addr) (m1 m2 m3 y1 y2 y3 : Nat) W (k : Bel w W) (hv : VEnum W [.string (S n1), .bool op, .slice a1 m1 y1, .slice a2 m2 y2, .slice a3 m3 y3] e) => ck_Enum n1 op a1 a2 a3 m1 m2 m3 y1 y2 y3 e W hv (HMM.out.below k.out) (hsh.2.1 e hm).1 (hsh.2.1 e hm).2.1 (hsh.2.1 e hm).2.2.1 (hsh.2.1 e hm).2.2.2.1 (hsh.2.1 e hm).2.2.2.2)
      have CSV := Lib.hid (fun (v : PSvc) (hm : v ∈ s.svcs) (n1 : Str) (a1 a2 : Option Addr) (m1 m2 y1 y2 : Nat) W (k : Bel w W) (hv : VSvc W [.string (S n1), .slice a1 m1 y1, .slice a2 m2 y2] v) => ck_Service sq1 sq2 sq3 s.msgs.length s.enums.length s.svcs.length sc1 sc2 sc3 s n1 a1 a2 m1 m2 y1 y2 v W (HS.out.stays_bel k) hv (HMM.out.below k.out) (hsh.2.2.1 v hm).1 (hsh.2.2.1 v hm).2.1 (hsh.2.2.1 v hm).2.2.1 (hsh.2.2.1 v hm).2.2.2)
      have hCAL : ∀ W, Bel w W → Calls Tryd.prog 16 #[.agg #[.slice sq1 s.msgs.length sc1, .slice sq2 s.enums.length sc2, .slice sq3 s.svcs.length sc3]] W (ProbsOut W (all s)) := fun W k => ck_All sq1 sq2 sq3 s.msgs.length s.enums.length s.svcs.length sc1 sc2 sc3 s W (HS.out.stays_bel k) (HMM.out.below k.out) hsh
      have hCFI := fun W (k : Bel w W) => ck_First sq1 sq2 sq3 s.msgs.length s.enums.length s.svcs.length sc1 sc2 sc3 s W (HS.out.stays_bel k) (HMM.out.below k.out) hsh
      have hCVA := fun W (k : Bel w W) => ck_Valid sq1 sq2 sq3 s.msgs.length s.enums.length s.svcs.length sc1 sc2 sc3 s W (HS.out.stays_bel k) (HMM.out.below k.out) hsh
      have hval : valid s = (all s).isEmpty := rfl
      have hlenT : (all s).length ≤ 1000000000 := hsh.2.2.2.2
      have hparts := all_parts s
      have hh7 := head_len s
      have hplain : ∀ p, p ∈ head s → p.df = [] ∧ p.num = -1 := fun p hp => head_plain hp
      rw [hval] at hCVA
      clear hval
      have hrest : rest s = s.msgs.flatMap (fun m => message s m) ++ s.enums.flatMap enum ++ s.svcs.flatMap (service s) := rfl
      generalize head s = H at hparts hh7 hplain
      generalize all s = T at hCAL hCFI hCVA hparts hlenT
      generalize hR : rest s = R at hparts hrest
      generalize hTM : s.msgs.flatMap (fun m => message s m) = TM at hrest
      generalize hTE : s.enums.flatMap enum = TE at hrest
      generalize hTV : s.svcs.flatMap (service s) = TV at hrest
      have V0 := Lib.hid (show [] ++ (s.msgs.drop 0).flatMap (fun m => message s m) = TM from hTM)
      obtain ⟨T1, hT1⟩ : ∃ T1, T1 = TM ++ TE := ⟨_, rfl⟩
      rw [← hT1] at hrest
      have V1 := Lib.hid (show TM ++ (s.enums.drop 0).flatMap enum = T1 by rw [List.drop_zero, hTE, hT1])
      have V2 := Lib.hid (show T1 ++ (s.svcs.drop 0).flatMap (service s) = R by rw [List.drop_zero, hTV, hrest])
      have HPA := Lib.hid hparts
      have HPL := Lib.hid hplain
      have htot : TM.length ≤ 1000000000 ∧ T1.length ≤ 1000000000 ∧ R.length ≤ 1000000000 := by
        have h1 := congrArg List.length hparts
        have h2 := congrArg List.length hrest
        have h3 := congrArg List.length hT1
        simp only [List.length_append] at h1 h2 h3
        omega
      obtain ⟨ht0, ht1, ht2⟩ := htot
      have CAL := Lib.hid hCAL
      have CFI := Lib.hid hCFI
      have CVA := Lib.hid hCVA
      clear hTM hTE hTV hT1 hrest hparts hplain hCAL hCFI hCVA hR hlen hsm hsh
      go_wp2
      go_loopw [3, 4] (fun r i wr => ∃ (k : Nat) (acc : List PProb) (q : Option Addr) (c : Nat), k ≤ s.msgs.length ∧ i = .int .i64 k ∧ r = .slice q acc.length c ∧ Bel (w.alloc (.cells #[.slice sq1 s.msgs.length sc1, .slice sq2 s.enums.length sc2, .slice sq3 s.svcs.length sc3] 31)) wr ∧ wr.ownsRow (w.heap.size + 1) 66 3 (.slice q acc.length c) acc.length (acc.flatMap probC) ∧ Hid (acc ++ (s.msgs.drop k).flatMap (fun m => message s m) = TM)) (fun _ i _ => s.msgs.length - (intOf i).toNat)
      case atStart => exact ⟨0, [], none, 0, by omega, rfl, rfl, kc, ⟨rfl, .inl ⟨rfl, rfl⟩⟩, V0⟩
      case round =>
        clear c0 c1 c2 
        obtain ⟨k, acc, q, c, hk, rfl, rfl, kw, hown, hgo⟩ := hrel
        obtain ⟨c0, c1, c2⟩ := KB.out _ kw
        by_cases hlt : k < s.msgs.length
        · have hki : (k : Int) < (s.msgs.length : Int) := by omega
          have hk0 : (0 : Int) ≤ (k : Int) := by omega
          have hg := List.getElem?_eq_getElem hlt
          have hmem : s.msgs[k] ∈ s.msgs := List.getElem_mem hlt
          have hlist := HM1.out
          obtain ⟨qq, cq, hqe, _, _, hel⟩ := hlist
          cases hqe
          obtain ⟨b, off, hqq, hbs, cs, hce, hvs⟩ := hel k _ hg
          have hdr : s.msgs.drop k = s.msgs[k] :: s.msgs.drop (k + 1) := List.drop_eq_getElem_cons hlt
          have hgo2 := Lib.hid (show (acc ++ (message s s.msgs[k])) ++ (s.msgs.drop (k + 1)).flatMap (fun m => message s m) = TM by rw [← hgo.out, hdr, List.append_assoc]; rfl)
          have hleng : acc.length + (message s s.msgs[k]).length ≤ TM.length := by
            have := congrArg List.length hgo2.out
            simp only [List.length_append] at this ⊢
            omega
          subst hqq
          have HVS := Lib.hid hvs
          obtain ⟨_, _, _, _, hvv, g1, g2, g3, g4⟩ := hvs
          obtain ⟨u1, y1, rfl, _⟩ := sl_form g1
          obtain ⟨u2, y2, rfl, _⟩ := sl_form g2
          obtain ⟨u3, y3, rfl, _⟩ := sl_form g3
          obtain ⟨u4, y4, rfl, _⟩ := sl_form g4
          subst hvv
          have hb0 : Bel w wr := Bel.of kb kw.out
          have e0 := hb0.some (hce 0 _ rfl)
          rw [Nat.add_zero] at e0
          have e1 := hb0.some (hce 1 _ rfl)
          have e2 := hb0.some (hce 2 _ rfl)
          have e3 := hb0.some (hce 3 _ rfl)
          have e4 := hb0.some (hce 4 _ rfl)
          clear hce hgo hdr hg g1 g2 g3 g4 hel
          generalize s.msgs[k] = x at *
          have hbig : acc.length + (message s x).length ≤ 4000000000 := by omega
          have KS := Lib.hid (fun W' (kq : Bel wr W') => show W'.cell? ⟨w.heap.size, 0, none⟩ = some (.slice (some ⟨b, off, none⟩) s.msgs.length sc1) ∧ W'.cell? ⟨w.heap.size, 1, none⟩ = some (.slice sq2 s.enums.length sc2) ∧ W'.cell? ⟨w.heap.size, 2, none⟩ = some (.slice sq3 s.svcs.length sc3) ∧ W'.cell? ⟨b, off + k * 5, none⟩ = some (.string (S x.name)) ∧ W'.cell? ⟨b, off + k * 5 + 1, none⟩ = some (.slice u1 x.fields.length y1) ∧ W'.cell? ⟨b, off + k * 5 + 2, none⟩ = some (.slice u2 x.res.length y2) ∧ W'.cell? ⟨b, off + k * 5 + 3, none⟩ = some (.slice u3 x.gone.length y3) ∧ W'.cell? ⟨b, off + k * 5 + 4, none⟩ = some (.slice u4 x.notes.length y4) from ⟨kq.some c0, kq.some c1, kq.some c2, kq.some e0, kq.some e1, kq.some e2, kq.some e3, kq.some e4⟩)
          have OWN := Lib.hid (fun W (kq : Bel wr W) => row_bel hown kq)
          have C1 := Lib.hid (fun W (kq : Bel wr W) => CM.out _ hmem _ _ _ _ _ _ _ _ _ _ _ _ _ W (Bel.of hb0 kq.out) (VMsg.stays _ _ _ _ (Bel.of hb0 kq.out) HVS.out))
          clear hleng hown
          generalize (message s x) = FX at C1 hgo2 hbig
          go_upto_region 7 with (fail)
          clear c0 c1 c2 e0 e1 e2 e3 e4
          obtain ⟨wd, hwd⟩ : ∃ wd, wd = wr.drew := ⟨_, rfl⟩
          have kd : Bel wr wd := by rw [hwd]; exact (Bel.refl _).drew
          have HWD := Lib.hid hwd
          clear hwd
          refine region_treeA (fun W => Bel wr W) (.take 0 (.take 1 (.take 2 (.take 3 (.take 4 (.take 5 (.take 6 (.alt 7 .done .no)))))))) 8 (by kernel_rfl) (by kernel_rfl) HWD.out kd (fun a ha => ?_)
          (simp only [pickT, List.getD_cons_zero, List.getD_cons_succ])
          have hsz : a.tmps.size = 160 := (by rw [ha]; kernel_rfl)
          have a1 : a.eval (.tmp 1) = .pointer (some ⟨w.heap.size, 0, none⟩) := (by rw [ha]; kernel_rfl)
          have a3 : a.eval (.tmp 3) = .slice q acc.length c := (by rw [ha]; kernel_rfl)
          have a4 : a.eval (.tmp 4) = .int .i64 k := (by rw [ha]; kernel_rfl)
          (with_reducible refine tree_held (v := ?_) rfl (by with_unfolding_all rfl) (fun ρ hρ W hW => ?_) ?_); (rotate_left 1)
          focus (clear hW; have p3 := hρ (.tmp 3); (simp (disch := (first | decide | ((try simp only [sz_put]); rw [hsz]; decide))) only [ev_eq, ev_ne, a1, a3, a4] at p3); have hc : ∀ c, ρ (.const c) = c := (fun c => hρ (.const c)); have hfn : ∀ f, ρ (.func f) = .func (.func f) #[] #[] := (fun f => hρ (.func f)); clear hρ; go_simp; (all_goals (first | (with_reducible rfl) | (constructor <;> with_reducible rfl))))
          (with_reducible refine tree_held (v := ?_) rfl (by with_unfolding_all rfl) (fun ρ hρ W hW => ?_) ?_); (rotate_left 1)
          focus (have hS := KS.out _ hW; clear hW; have p1 := hρ (.tmp 1); (simp (disch := (first | decide | ((try simp only [sz_put]); rw [hsz]; decide))) only [ev_eq, ev_ne, a1, a3, a4] at p1); have hc : ∀ c, ρ (.const c) = c := (fun c => hρ (.const c)); have hfn : ∀ f, ρ (.func f) = .func (.func f) #[] #[] := (fun f => hρ (.func f)); clear hρ; go_simp; (all_goals (first | (with_reducible rfl) | (constructor <;> with_reducible rfl))))
          (with_reducible refine tree_held (v := ?_) rfl (by with_unfolding_all rfl) (fun ρ hρ W hW => ?_) ?_); (rotate_left 1)
          focus (clear hW; have p1 := hρ (.tmp 1); (simp (disch := (first | decide | ((try simp only [sz_put]); rw [hsz]; decide))) only [ev_eq, ev_ne, a1, a3, a4] at p1); have hc : ∀ c, ρ (.const c) = c := (fun c => hρ (.const c)); have hfn : ∀ f, ρ (.func f) = .func (.func f) #[] #[] := (fun f => hρ (.func f)); clear hρ; go_simp; (all_goals (first | (with_reducible rfl) | (constructor <;> with_reducible rfl))))
          (with_reducible refine tree_held (v := ?_) rfl (by with_unfolding_all rfl) (fun ρ hρ W hW => ?_) ?_); (rotate_left 1)
          focus (have hS := KS.out _ hW; clear hW; have p25 := hρ (.tmp 25); (simp (disch := (first | decide | ((try simp only [sz_put]); rw [hsz]; decide))) only [ev_eq, ev_ne, a1, a3, a4] at p25); have hc : ∀ c, ρ (.const c) = c := (fun c => hρ (.const c)); have hfn : ∀ f, ρ (.func f) = .func (.func f) #[] #[] := (fun f => hρ (.func f)); clear hρ; go_simp; (all_goals (first | (with_reducible rfl) | (constructor <;> with_reducible rfl))))
          (with_reducible refine tree_held (v := ?_) rfl (by with_unfolding_all rfl) (fun ρ hρ W hW => ?_) ?_); (rotate_left 1)
          focus (clear hW; have p4 := hρ (.tmp 4); (simp (disch := (first | decide | ((try simp only [sz_put]); rw [hsz]; decide))) only [ev_eq, ev_ne, a1, a3, a4] at p4); have hc : ∀ c, ρ (.const c) = c := (fun c => hρ (.const c)); have hfn : ∀ f, ρ (.func f) = .func (.func f) #[] #[] := (fun f => hρ (.func f)); clear hρ; go_simp; (all_goals (first | (with_reducible rfl) | (constructor <;> with_reducible rfl))))
          (with_reducible refine tree_held (v := ?_) rfl (by with_unfolding_all rfl) (fun ρ hρ W hW => ?_) ?_); (rotate_left 1)
          focus (clear hW; have p26 := hρ (.tmp 26); (simp (disch := (first | decide | ((try simp only [sz_put]); rw [hsz]; decide))) only [ev_eq, ev_ne, a1, a3, a4] at p26); have p27 := hρ (.tmp 27); (simp (disch := (first | decide | ((try simp only [sz_put]); rw [hsz]; decide))) only [ev_eq, ev_ne, a1, a3, a4] at p27); have hc : ∀ c, ρ (.const c) = c := (fun c => hρ (.const c)); have hfn : ∀ f, ρ (.func f) = .func (.func f) #[] #[] := (fun f => hρ (.func f)); clear hρ; go_simp; (all_goals (first | (with_reducible rfl) | (constructor <;> with_reducible rfl))))
          (with_reducible refine tree_held (v := ?_) rfl (by with_unfolding_all rfl) (fun ρ hρ W hW => ?_) ?_); (rotate_left 1)
          focus (have hS := KS.out _ hW; clear hW; have p28 := hρ (.tmp 28); (simp (disch := (first | decide | ((try simp only [sz_put]); rw [hsz]; decide))) only [ev_eq, ev_ne, a1, a3, a4] at p28); have hc : ∀ c, ρ (.const c) = c := (fun c => hρ (.const c)); have hfn : ∀ f, ρ (.func f) = .func (.func f) #[] #[] := (fun f => hρ (.func f)); clear hρ; go_simp; (all_goals (first | (with_reducible rfl) | (constructor <;> with_reducible rfl))))
          (with_reducible refine tree_enter (f := ?_) (args := ?_) rfl (by with_unfolding_all rfl) (fun ρ hρ => ?_) ?_ ?_); (rotate_left 2)
          focus (have p24 := hρ (.tmp 24); (simp (disch := (first | decide | ((try simp only [sz_put]); rw [hsz]; decide))) only [ev_eq, ev_ne, a1, a3, a4] at p24); have p29 := hρ (.tmp 29); (simp (disch := (first | decide | ((try simp only [sz_put]); rw [hsz]; decide))) only [ev_eq, ev_ne, a1, a3, a4] at p29); have hc : ∀ c, ρ (.const c) = c := (fun c => hρ (.const c)); have hfn : ∀ f, ρ (.func f) = .func (.func f) #[] #[] := (fun f => hρ (.func f)); clear hρ; rw [execOp_call_rho (hfn _)]; clear hfn; go_simp; (all_goals (first | (with_reducible rfl) | (constructor <;> with_reducible rfl))))
          (with_reducible refine (C1.out _ kd).mono ?_)
          rintro e w1 ⟨v2, rfl, own2, g1⟩
          have k1 : Bel wr w1 := Bel.of kd g1
          have OWN2 := Lib.hid own2
          clear g1 own2
          refine ⟨_, rfl, k1, ?_⟩
          rotate_left 1
          focus exact tree_no
          refine tree_done ?_
          (simp only [List.drop_succ_cons, List.drop_zero])
          subst ha
          (simp only [put_some, set_s, set_z])
          have hB1 := (Bel.of kw k1.out).size
          simp only [World.size_alloc] at hB1
          refine list_app (by rfl) _ _ (by rfl) (w.heap.size + 1) _ (.slice q acc.length c) v2 _ _ _ _ (by rfl) (by rfl) (OWN.out _ k1) OWN2.out (prob_one _) hbig hB1 ?_
          intro q2 c2' w2 r1 r2 r3
          have k2 : Bel (w.alloc (.cells #[.slice (some ⟨b, off, none⟩) s.msgs.length sc1, .slice sq2 s.enums.length sc2, .slice sq3 s.svcs.length sc3] 31)) w2 := Below.grown (Bel.of kw k1.out) r2 (Bel.of kw k1.out).size (fun g hg => by have h9 := ((OWN.out _ k1).lt g hg).1; simpa using h9)
          have HO2 := Lib.hid (show w2.ownsRow (w.heap.size + 1) 66 3 (.slice q2 (acc ++ FX).length c2') (acc ++ FX).length ((acc ++ FX).flatMap probC) by rw [List.length_append, List.flatMap_append]; exact r1)
          clear r1 r2 r3
          go_wp2
          exact ⟨⟨k + 1, acc ++ FX, q2, c2', by omega, by go_num, by rw [List.length_append], k2, HO2.out, hgo2⟩, by simp [intOf]; omega⟩
        · have hki : ¬ (k : Int) < (s.msgs.length : Int) := by omega
          have hacc : acc = TM := by
            have := hgo.out
            rw [show k = s.msgs.length by omega, List.drop_length] at this
            simpa using this
          have HACC := Lib.hid hacc
          clear hgo hacc
          go_wp2
          go_loopw [3, 5] (fun r i wr => ∃ (k : Nat) (acc : List PProb) (q : Option Addr) (c : Nat), k ≤ s.enums.length ∧ i = .int .i64 k ∧ r = .slice q acc.length c ∧ Bel (w.alloc (.cells #[.slice sq1 s.msgs.length sc1, .slice sq2 s.enums.length sc2, .slice sq3 s.svcs.length sc3] 31)) wr ∧ wr.ownsRow (w.heap.size + 1) 66 3 (.slice q acc.length c) acc.length (acc.flatMap probC) ∧ Hid (acc ++ (s.enums.drop k).flatMap enum = T1)) (fun _ i _ => s.enums.length - (intOf i).toNat)
          case atStart => exact ⟨0, acc, q, c, by omega, rfl, rfl, kw, hown, by rw [HACC.out]; exact V1⟩
          case round =>
            clear c0 c1 c2 hown HACC kw
            obtain ⟨k, acc, q, c, hk, rfl, rfl, kw, hown, hgo⟩ := hrel
            obtain ⟨c0, c1, c2⟩ := KB.out _ kw
            by_cases hlt : k < s.enums.length
            · have hki : (k : Int) < (s.enums.length : Int) := by omega
              have hk0 : (0 : Int) ≤ (k : Int) := by omega
              have hg := List.getElem?_eq_getElem hlt
              have hmem : s.enums[k] ∈ s.enums := List.getElem_mem hlt
              have hlist := HM2.out
              obtain ⟨qq, cq, hqe, _, _, hel⟩ := hlist
              cases hqe
              obtain ⟨b, off, hqq, hbs, cs, hce, hvs⟩ := hel k _ hg
              have hdr : s.enums.drop k = s.enums[k] :: s.enums.drop (k + 1) := List.drop_eq_getElem_cons hlt
              have hgo2 := Lib.hid (show (acc ++ (enum s.enums[k])) ++ (s.enums.drop (k + 1)).flatMap enum = T1 by rw [← hgo.out, hdr, List.append_assoc]; rfl)
              have hleng : acc.length + (enum s.enums[k]).length ≤ T1.length := by
                have := congrArg List.length hgo2.out
                simp only [List.length_append] at this ⊢
                omega
              subst hqq
              have HVS := Lib.hid hvs
              obtain ⟨_, _, _, hvv, g1, g2, g3⟩ := hvs
              obtain ⟨u1, y1, rfl, _⟩ := sl_form g1
              obtain ⟨u2, y2, rfl, _⟩ := sl_form g2
              obtain ⟨u3, y3, rfl, _⟩ := sl_form g3
              subst hvv
              have hb0 : Bel w wr := Bel.of kb kw.out
              have e0 := hb0.some (hce 0 _ rfl)
              rw [Nat.add_zero] at e0
              have e1 := hb0.some (hce 1 _ rfl)
              have e2 := hb0.some (hce 2 _ rfl)
              have e3 := hb0.some (hce 3 _ rfl)
              have e4 := hb0.some (hce 4 _ rfl)
              clear hce hgo hdr hg g1 g2 g3 hel
              generalize s.enums[k] = x at *
              have hbig : acc.length + (enum x).length ≤ 4000000000 := by omega
              have KS := Lib.hid (fun W' (kq : Bel wr W') => show W'.cell? ⟨w.heap.size, 0, none⟩ = some (.slice sq1 s.msgs.length sc1) ∧ W'.cell? ⟨w.heap.size, 1, none⟩ = some (.slice (some ⟨b, off, none⟩) s.enums.length sc2) ∧ W'.cell? ⟨w.heap.size, 2, none⟩ = some (.slice sq3 s.svcs.length sc3) ∧ W'.cell? ⟨b, off + k * 5, none⟩ = some (.string (S x.name)) ∧ W'.cell? ⟨b, off + k * 5 + 1, none⟩ = some (.bool x.op) ∧ W'.cell? ⟨b, off + k * 5 + 2, none⟩ = some (.slice u1 x.items.length y1) ∧ W'.cell? ⟨b, off + k * 5 + 3, none⟩ = some (.slice u2 x.res.length y2) ∧ W'.cell? ⟨b, off + k * 5 + 4, none⟩ = some (.slice u3 x.notes.length y3) from ⟨kq.some c0, kq.some c1, kq.some c2, kq.some e0, kq.some e1, kq.some e2, kq.some e3, kq.some e4⟩)
              have OWN := Lib.hid (fun W (kq : Bel wr W) => row_bel hown kq)
              have C1 := Lib.hid (fun W (kq : Bel wr W) => CE.out _ hmem _ _ _ _ _ _ _ _ _ _ _ W (Bel.of hb0 kq.out) (VEnum.stays _ _ _ _ (Bel.of hb0 kq.out) HVS.out))
              clear hleng hown
              generalize (enum x) = FX at C1 hgo2 hbig
              go_upto_region 11 with (fail)
              refine region_lin (fun a ha => ?_)
              have hsz : a.tmps.size = 160 := (by rw [ha]; kernel_rfl)
              have a1 : a.eval (.tmp 1) = .pointer (some ⟨w.heap.size, 0, none⟩) := (by rw [ha]; kernel_rfl)
              have a3 : a.eval (.tmp 3) = .slice q acc.length c := (by rw [ha]; kernel_rfl)
              have a5 : a.eval (.tmp 5) = .int .i64 k := (by rw [ha]; kernel_rfl)
              (with_reducible refine list_held (v := ?_) (w' := ?_) rfl (by with_unfolding_all rfl) (fun ρ hρ => ?_) ?_); (rotate_left 2)
              focus (have p3 := hρ (.tmp 3); (simp (disch := (first | decide | ((try simp only [sz_put]); rw [hsz]; decide))) only [ev_eq, ev_ne, a1, a3, a5] at p3); have hc : ∀ c, ρ (.const c) = c := (fun c => hρ (.const c)); have hfn : ∀ f, ρ (.func f) = .func (.func f) #[] #[] := (fun f => hρ (.func f)); clear hρ; go_simp; (all_goals (first | (with_reducible rfl) | (constructor <;> with_reducible rfl))))
              (with_reducible refine list_held (v := ?_) (w' := ?_) rfl (by with_unfolding_all rfl) (fun ρ hρ => ?_) ?_); (rotate_left 2)
              focus (have p1 := hρ (.tmp 1); (simp (disch := (first | decide | ((try simp only [sz_put]); rw [hsz]; decide))) only [ev_eq, ev_ne, a1, a3, a5] at p1); have hc : ∀ c, ρ (.const c) = c := (fun c => hρ (.const c)); have hfn : ∀ f, ρ (.func f) = .func (.func f) #[] #[] := (fun f => hρ (.func f)); clear hρ; go_simp; (all_goals (first | (with_reducible rfl) | (constructor <;> with_reducible rfl))))
              (with_reducible refine list_held (v := ?_) (w' := ?_) rfl (by with_unfolding_all rfl) (fun ρ hρ => ?_) ?_); (rotate_left 2)
              focus (have p40 := hρ (.tmp 40); (simp (disch := (first | decide | ((try simp only [sz_put]); rw [hsz]; decide))) only [ev_eq, ev_ne, a1, a3, a5] at p40); have hc : ∀ c, ρ (.const c) = c := (fun c => hρ (.const c)); have hfn : ∀ f, ρ (.func f) = .func (.func f) #[] #[] := (fun f => hρ (.func f)); clear hρ; go_simp; (all_goals (first | (with_reducible rfl) | (constructor <;> with_reducible rfl))))
              (with_reducible refine list_held (v := ?_) (w' := ?_) rfl (by with_unfolding_all rfl) (fun ρ hρ => ?_) ?_); (rotate_left 2)
              focus (have p5 := hρ (.tmp 5); (simp (disch := (first | decide | ((try simp only [sz_put]); rw [hsz]; decide))) only [ev_eq, ev_ne, a1, a3, a5] at p5); have hc : ∀ c, ρ (.const c) = c := (fun c => hρ (.const c)); have hfn : ∀ f, ρ (.func f) = .func (.func f) #[] #[] := (fun f => hρ (.func f)); clear hρ; go_simp; (all_goals (first | (with_reducible rfl) | (constructor <;> with_reducible rfl))))
              (with_reducible refine list_held (v := ?_) (w' := ?_) rfl (by with_unfolding_all rfl) (fun ρ hρ => ?_) ?_); (rotate_left 2)
              focus (have p41 := hρ (.tmp 41); (simp (disch := (first | decide | ((try simp only [sz_put]); rw [hsz]; decide))) only [ev_eq, ev_ne, a1, a3, a5] at p41); have p42 := hρ (.tmp 42); (simp (disch := (first | decide | ((try simp only [sz_put]); rw [hsz]; decide))) only [ev_eq, ev_ne, a1, a3, a5] at p42); have hc : ∀ c, ρ (.const c) = c := (fun c => hρ (.const c)); have hfn : ∀ f, ρ (.func f) = .func (.func f) #[] #[] := (fun f => hρ (.func f)); clear hρ; go_simp; (all_goals (first | (with_reducible rfl) | (constructor <;> with_reducible rfl))))
              (with_reducible refine list_held (v := ?_) (w' := ?_) rfl (by with_unfolding_all rfl) (fun ρ hρ => ?_) ?_); (rotate_left 2)
              focus (have p43 := hρ (.tmp 43); (simp (disch := (first | decide | ((try simp only [sz_put]); rw [hsz]; decide))) only [ev_eq, ev_ne, a1, a3, a5] at p43); have hc : ∀ c, ρ (.const c) = c := (fun c => hρ (.const c)); have hfn : ∀ f, ρ (.func f) = .func (.func f) #[] #[] := (fun f => hρ (.func f)); clear hρ; go_simp; (all_goals (first | (with_reducible rfl) | (constructor <;> with_reducible rfl))))
              (with_reducible refine list_enter (f := ?_) (args := ?_) rfl (by with_unfolding_all rfl) (fun ρ hρ => ?_) ?_); (rotate_left 2)
              focus (have p44 := hρ (.tmp 44); (simp (disch := (first | decide | ((try simp only [sz_put]); rw [hsz]; decide))) only [ev_eq, ev_ne, a1, a3, a5] at p44); have hc : ∀ c, ρ (.const c) = c := (fun c => hρ (.const c)); have hfn : ∀ f, ρ (.func f) = .func (.func f) #[] #[] := (fun f => hρ (.func f)); clear hρ; rw [execOp_call_rho (hfn _)]; clear hfn; go_simp; (all_goals (first | (with_reducible rfl) | (constructor <;> with_reducible rfl))))
              (with_reducible refine (C1.out _ (Bel.refl _)).mono ?_)
              rintro e w1 ⟨v2, rfl, own2, g1⟩
              have k1 : Bel wr w1 := Bel.of (Bel.refl _) g1
              have OWN2 := Lib.hid own2
              clear g1 own2
              refine ⟨_, rfl, ?_⟩
              subst ha
              (simp only [put_some, set_s, set_z])
              have hB1 := (Bel.of kw k1.out).size
              simp only [World.size_alloc] at hB1
              refine list_app (by rfl) _ _ (by rfl) (w.heap.size + 1) _ (.slice q acc.length c) v2 _ _ _ _ (by rfl) (by rfl) (OWN.out _ k1) OWN2.out (prob_one _) hbig hB1 ?_
              intro q2 c2' w2 r1 r2 r3
              have k2 : Bel (w.alloc (.cells #[.slice sq1 s.msgs.length sc1, .slice (some ⟨b, off, none⟩) s.enums.length sc2, .slice sq3 s.svcs.length sc3] 31)) w2 := Below.grown (Bel.of kw k1.out) r2 (Bel.of kw k1.out).size (fun g hg => by have h9 := ((OWN.out _ k1).lt g hg).1; simpa using h9)
              have HO2 := Lib.hid (show w2.ownsRow (w.heap.size + 1) 66 3 (.slice q2 (acc ++ FX).length c2') (acc ++ FX).length ((acc ++ FX).flatMap probC) by rw [List.length_append, List.flatMap_append]; exact r1)
              clear r1 r2 r3
              go_wp2
              exact ⟨⟨k + 1, acc ++ FX, q2, c2', by omega, by go_num, by rw [List.length_append], k2, HO2.out, hgo2⟩, by simp [intOf]; omega⟩
            · have hki : ¬ (k : Int) < (s.enums.length : Int) := by omega
              have hacc : acc = T1 := by
                have := hgo.out
                rw [show k = s.enums.length by omega, List.drop_length] at this
                simpa using this
              have HACC := Lib.hid hacc
              clear hgo hacc
              go_wp2
              go_loopw [3, 6] (fun r i wr => ∃ (k : Nat) (acc : List PProb) (q : Option Addr) (c : Nat), k ≤ s.svcs.length ∧ i = .int .i64 k ∧ r = .slice q acc.length c ∧ Bel (w.alloc (.cells #[.slice sq1 s.msgs.length sc1, .slice sq2 s.enums.length sc2, .slice sq3 s.svcs.length sc3] 31)) wr ∧ wr.ownsRow (w.heap.size + 1) 66 3 (.slice q acc.length c) acc.length (acc.flatMap probC) ∧ Hid (acc ++ (s.svcs.drop k).flatMap (service s) = R)) (fun _ i _ => s.svcs.length - (intOf i).toNat)
              case atStart => exact ⟨0, acc, q, c, by omega, rfl, rfl, kw, hown, by rw [HACC.out]; exact V2⟩
              case round =>
                clear c0 c1 c2 hown HACC kw
                obtain ⟨k, acc, q, c, hk, rfl, rfl, kw, hown, hgo⟩ := hrel
                obtain ⟨c0, c1, c2⟩ := KB.out _ kw
                by_cases hlt : k < s.svcs.length
                · have hki : (k : Int) < (s.svcs.length : Int) := by omega
                  have hk0 : (0 : Int) ≤ (k : Int) := by omega
                  have hg := List.getElem?_eq_getElem hlt
                  have hmem : s.svcs[k] ∈ s.svcs := List.getElem_mem hlt
                  have hlist := HM3.out
                  obtain ⟨qq, cq, hqe, _, _, hel⟩ := hlist
                  cases hqe
                  obtain ⟨b, off, hqq, hbs, cs, hce, hvs⟩ := hel k _ hg
                  have hdr : s.svcs.drop k = s.svcs[k] :: s.svcs.drop (k + 1) := List.drop_eq_getElem_cons hlt
                  have hgo2 := Lib.hid (show (acc ++ (service s s.svcs[k])) ++ (s.svcs.drop (k + 1)).flatMap (service s) = R by rw [← hgo.out, hdr, List.append_assoc]; rfl)
                  have hleng : acc.length + (service s s.svcs[k]).length ≤ R.length := by
                    have := congrArg List.length hgo2.out
                    simp only [List.length_append] at this ⊢
                    omega
                  subst hqq
                  have HVS := Lib.hid hvs
                  obtain ⟨_, _, hvv, g1, g2⟩ := hvs
                  obtain ⟨u1, y1, rfl, _⟩ := sl_form g1
                  obtain ⟨u2, y2, rfl, _⟩ := sl_form g2
                  subst hvv
                  have hb0 : Bel w wr := Bel.of kb kw.out
                  have e0 := hb0.some (hce 0 _ rfl)
                  rw [Nat.add_zero] at e0
                  have e1 := hb0.some (hce 1 _ rfl)
                  have e2 := hb0.some (hce 2 _ rfl)
                  clear hce hgo hdr hg g1 g2 hel
                  generalize s.svcs[k] = x at *
                  have hbig : acc.length + (service s x).length ≤ 4000000000 := by omega
                  have KS := Lib.hid (fun W' (kq : Bel wr W') => show W'.cell? ⟨w.heap.size, 0, none⟩ = some (.slice sq1 s.msgs.length sc1) ∧ W'.cell? ⟨w.heap.size, 1, none⟩ = some (.slice sq2 s.enums.length sc2) ∧ W'.cell? ⟨w.heap.size, 2, none⟩ = some (.slice (some ⟨b, off, none⟩) s.svcs.length sc3) ∧ W'.cell? ⟨b, off + k * 3, none⟩ = some (.string (S x.name)) ∧ W'.cell? ⟨b, off + k * 3 + 1, none⟩ = some (.slice u1 x.meths.length y1) ∧ W'.cell? ⟨b, off + k * 3 + 2, none⟩ = some (.slice u2 x.notes.length y2) from ⟨kq.some c0, kq.some c1, kq.some c2, kq.some e0, kq.some e1, kq.some e2⟩)
                  have OWN := Lib.hid (fun W (kq : Bel wr W) => row_bel hown kq)
                  have C1 := Lib.hid (fun W (kq : Bel wr W) => CSV.out _ hmem _ _ _ _ _ _ _ W (Bel.of hb0 kq.out) (VSvc.stays _ _ _ _ (Bel.of hb0 kq.out) HVS.out))
                  clear hleng hown
                  generalize (service s x) = FX at C1 hgo2 hbig
                  go_upto_region 15 with (fail)
                  clear c0 c1 c2 e0 e1 e2
                  obtain ⟨wd, hwd⟩ : ∃ wd, wd = wr.drew := ⟨_, rfl⟩
                  have kd : Bel wr wd := by rw [hwd]; exact (Bel.refl _).drew
                  have HWD := Lib.hid hwd
                  clear hwd
                  refine region_treeA (fun W => Bel wr W) (.take 0 (.take 1 (.take 2 (.take 3 (.take 4 (.take 5 (.take 6 (.alt 7 .done .no)))))))) 8 (by kernel_rfl) (by kernel_rfl) HWD.out kd (fun a ha => ?_)
                  (simp only [pickT, List.getD_cons_zero, List.getD_cons_succ])
                  have hsz : a.tmps.size = 160 := (by rw [ha]; kernel_rfl)
                  have a1 : a.eval (.tmp 1) = .pointer (some ⟨w.heap.size, 0, none⟩) := (by rw [ha]; kernel_rfl)
                  have a3 : a.eval (.tmp 3) = .slice q acc.length c := (by rw [ha]; kernel_rfl)
                  have a6 : a.eval (.tmp 6) = .int .i64 k := (by rw [ha]; kernel_rfl)
                  (with_reducible refine tree_held (v := ?_) rfl (by with_unfolding_all rfl) (fun ρ hρ W hW => ?_) ?_); (rotate_left 1)
                  focus (clear hW; have p3 := hρ (.tmp 3); (simp (disch := (first | decide | ((try simp only [sz_put]); rw [hsz]; decide))) only [ev_eq, ev_ne, a1, a3, a6] at p3); have hc : ∀ c, ρ (.const c) = c := (fun c => hρ (.const c)); have hfn : ∀ f, ρ (.func f) = .func (.func f) #[] #[] := (fun f => hρ (.func f)); clear hρ; go_simp; (all_goals (first | (with_reducible rfl) | (constructor <;> with_reducible rfl))))
                  (with_reducible refine tree_held (v := ?_) rfl (by with_unfolding_all rfl) (fun ρ hρ W hW => ?_) ?_); (rotate_left 1)
                  focus (have hS := KS.out _ hW; clear hW; have p1 := hρ (.tmp 1); (simp (disch := (first | decide | ((try simp only [sz_put]); rw [hsz]; decide))) only [ev_eq, ev_ne, a1, a3, a6] at p1); have hc : ∀ c, ρ (.const c) = c := (fun c => hρ (.const c)); have hfn : ∀ f, ρ (.func f) = .func (.func f) #[] #[] := (fun f => hρ (.func f)); clear hρ; go_simp; (all_goals (first | (with_reducible rfl) | (constructor <;> with_reducible rfl))))
                  (with_reducible refine tree_held (v := ?_) rfl (by with_unfolding_all rfl) (fun ρ hρ W hW => ?_) ?_); (rotate_left 1)
                  focus (clear hW; have p1 := hρ (.tmp 1); (simp (disch := (first | decide | ((try simp only [sz_put]); rw [hsz]; decide))) only [ev_eq, ev_ne, a1, a3, a6] at p1); have hc : ∀ c, ρ (.const c) = c := (fun c => hρ (.const c)); have hfn : ∀ f, ρ (.func f) = .func (.func f) #[] #[] := (fun f => hρ (.func f)); clear hρ; go_simp; (all_goals (first | (with_reducible rfl) | (constructor <;> with_reducible rfl))))
                  (with_reducible refine tree_held (v := ?_) rfl (by with_unfolding_all rfl) (fun ρ hρ W hW => ?_) ?_); (rotate_left 1)
                  focus (have hS := KS.out _ hW; clear hW; have p56 := hρ (.tmp 56); (simp (disch := (first | decide | ((try simp only [sz_put]); rw [hsz]; decide))) only [ev_eq, ev_ne, a1, a3, a6] at p56); have hc : ∀ c, ρ (.const c) = c := (fun c => hρ (.const c)); have hfn : ∀ f, ρ (.func f) = .func (.func f) #[] #[] := (fun f => hρ (.func f)); clear hρ; go_simp; (all_goals (first | (with_reducible rfl) | (constructor <;> with_reducible rfl))))
                  (with_reducible refine tree_held (v := ?_) rfl (by with_unfolding_all rfl) (fun ρ hρ W hW => ?_) ?_); (rotate_left 1)
                  focus (clear hW; have p6 := hρ (.tmp 6); (simp (disch := (first | decide | ((try simp only [sz_put]); rw [hsz]; decide))) only [ev_eq, ev_ne, a1, a3, a6] at p6); have hc : ∀ c, ρ (.const c) = c := (fun c => hρ (.const c)); have hfn : ∀ f, ρ (.func f) = .func (.func f) #[] #[] := (fun f => hρ (.func f)); clear hρ; go_simp; (all_goals (first | (with_reducible rfl) | (constructor <;> with_reducible rfl))))
                  (with_reducible refine tree_held (v := ?_) rfl (by with_unfolding_all rfl) (fun ρ hρ W hW => ?_) ?_); (rotate_left 1)
                  focus (clear hW; have p57 := hρ (.tmp 57); (simp (disch := (first | decide | ((try simp only [sz_put]); rw [hsz]; decide))) only [ev_eq, ev_ne, a1, a3, a6] at p57); have p58 := hρ (.tmp 58); (simp (disch := (first | decide | ((try simp only [sz_put]); rw [hsz]; decide))) only [ev_eq, ev_ne, a1, a3, a6] at p58); have hc : ∀ c, ρ (.const c) = c := (fun c => hρ (.const c)); have hfn : ∀ f, ρ (.func f) = .func (.func f) #[] #[] := (fun f => hρ (.func f)); clear hρ; go_simp; (all_goals (first | (with_reducible rfl) | (constructor <;> with_reducible rfl))))
                  (with_reducible refine tree_held (v := ?_) rfl (by with_unfolding_all rfl) (fun ρ hρ W hW => ?_) ?_); (rotate_left 1)
                  focus (have hS := KS.out _ hW; clear hW; have p59 := hρ (.tmp 59); (simp (disch := (first | decide | ((try simp only [sz_put]); rw [hsz]; decide))) only [ev_eq, ev_ne, a1, a3, a6] at p59); have hc : ∀ c, ρ (.const c) = c := (fun c => hρ (.const c)); have hfn : ∀ f, ρ (.func f) = .func (.func f) #[] #[] := (fun f => hρ (.func f)); clear hρ; go_simp; (all_goals (first | (with_reducible rfl) | (constructor <;> with_reducible rfl))))
                  (with_reducible refine tree_enter (f := ?_) (args := ?_) rfl (by with_unfolding_all rfl) (fun ρ hρ => ?_) ?_ ?_); (rotate_left 2)
                  focus (have p55 := hρ (.tmp 55); (simp (disch := (first | decide | ((try simp only [sz_put]); rw [hsz]; decide))) only [ev_eq, ev_ne, a1, a3, a6] at p55); have p60 := hρ (.tmp 60); (simp (disch := (first | decide | ((try simp only [sz_put]); rw [hsz]; decide))) only [ev_eq, ev_ne, a1, a3, a6] at p60); have hc : ∀ c, ρ (.const c) = c := (fun c => hρ (.const c)); have hfn : ∀ f, ρ (.func f) = .func (.func f) #[] #[] := (fun f => hρ (.func f)); clear hρ; rw [execOp_call_rho (hfn _)]; clear hfn; go_simp; (all_goals (first | (with_reducible rfl) | (constructor <;> with_reducible rfl))))
                  (with_reducible refine (C1.out _ kd).mono ?_)
                  rintro e w1 ⟨v2, rfl, own2, g1⟩
                  have k1 : Bel wr w1 := Bel.of kd g1
                  have OWN2 := Lib.hid own2
                  clear g1 own2
                  refine ⟨_, rfl, k1, ?_⟩
                  rotate_left 1
                  focus exact tree_no
                  refine tree_done ?_
                  (simp only [List.drop_succ_cons, List.drop_zero])
                  subst ha
                  (simp only [put_some, set_s, set_z])
                  have hB1 := (Bel.of kw k1.out).size
                  simp only [World.size_alloc] at hB1
                  refine list_app (by rfl) _ _ (by rfl) (w.heap.size + 1) _ (.slice q acc.length c) v2 _ _ _ _ (by rfl) (by rfl) (OWN.out _ k1) OWN2.out (prob_one _) hbig hB1 ?_
                  intro q2 c2' w2 r1 r2 r3
                  have k2 : Bel (w.alloc (.cells #[.slice sq1 s.msgs.length sc1, .slice sq2 s.enums.length sc2, .slice (some ⟨b, off, none⟩) s.svcs.length sc3] 31)) w2 := Below.grown (Bel.of kw k1.out) r2 (Bel.of kw k1.out).size (fun g hg => by have h9 := ((OWN.out _ k1).lt g hg).1; simpa using h9)
                  have HO2 := Lib.hid (show w2.ownsRow (w.heap.size + 1) 66 3 (.slice q2 (acc ++ FX).length c2') (acc ++ FX).length ((acc ++ FX).flatMap probC) by rw [List.length_append, List.flatMap_append]; exact r1)
                  clear r1 r2 r3
                  go_wp2
                  exact ⟨⟨k + 1, acc ++ FX, q2, c2', by omega, by go_num, by rw [List.length_append], k2, HO2.out, hgo2⟩, by simp [intOf]; omega⟩
                · have hki : ¬ (k : Int) < (s.svcs.length : Int) := by omega
                  have hacc : acc = R := by
                    have := hgo.out
                    rw [show k = s.svcs.length by omega, List.drop_length] at this
                    simpa using this
                  have HACC := Lib.hid hacc
                  clear hgo hacc
                  have hacc := HACC.out.symm
                  subst hacc
                  have HO := Lib.hid hown
                  clear hown V0 V1 V2 CM CE CSV
                  go_upto_region 16 with (fail)
                  go_cut [7] (fun s7 wx => ∃ (q7 : Option Addr) (c7 : Nat), s7 = .slice q7 T.length c7 ∧ Bel (w.alloc (.cells #[.slice sq1 s.msgs.length sc1, .slice sq2 s.enums.length sc2, .slice sq3 s.svcs.length sc3] 31)) wx ∧ wx.ownsRow (w.heap.size + 1) 66 3 (.slice q R.length c) R.length (R.flatMap probC) ∧ wx.ownsRow (w.heap.size + 1) 66 3 (.slice q7 T.length c7) T.length (T.flatMap probC))
                  case first =>
                    go_wp2_with (go_at_call 16; (with_reducible refine (CAL.out _ (Bel.of kb (by (repeat (first | (with_reducible assumption) | (with_reducible exact Bel.refl _) | (with_reducible refine Bel.drew ?_) | (with_reducible refine Bel.drewN ?_ _) | (with_reducible refine Bel.alloc ?_ _))) : Bel (w.alloc (.cells #[.slice sq1 s.msgs.length sc1, .slice sq2 s.enums.length sc2, .slice sq3 s.svcs.length sc3] 31)) _).out)).mono ?_); rintro e w3 ⟨v3, rfl, own3, h3⟩; have k3 : Bel wr w3 := Bel.of (by (repeat (first | (with_reducible assumption) | (with_reducible exact Bel.refl _) | (with_reducible refine Bel.drew ?_) | (with_reducible refine Bel.drewN ?_ _) | (with_reducible refine Bel.alloc ?_ _)))) h3; obtain ⟨q7, c7, rfl⟩ := own_form own3; have OWN3 := Lib.hid own3; clear own3 h3)
                    go_meet
                    exact ⟨q7, c7, rfl, Bel.of kw k3.out, row_bel HO.out k3, own_lower OWN3.out (by have h9 := kw.size; simpa using h9)⟩
                  case rest =>
                    clear c0 c1 c2 kw
                    obtain ⟨q7, c7, hs7, kw, hown, hown7⟩ := hcut
                    subst hs7
                    have HO := Lib.hid (fun W (k : Bel wc W) => row_bel hown k)
                    have HO7 := Lib.hid (fun W (k : Bel wc W) => row_bel hown7 k)
                    obtain ⟨w7, hw7⟩ : ∃ w7, w7 = wc := ⟨_, rfl⟩
                    subst hw7
                    clear hown hown7
                    obtain ⟨c0, c1, c2⟩ := KB.out _ kw
                    go_upto_region 17 with (fail)
                    go_cut [8, 9] (fun s8 s9 wx => ∃ (pb : Nat) (pd : Str) (pn pe : Int) (OK : Bool), s8 = .pointer (some ⟨pb, 0, none⟩) ∧ s9 = .bool OK ∧ Hid (OK = !T.isEmpty) ∧ Bel w7 wx ∧ wx.heap[pb]? = some (.cells #[.string (S pd), .int .i64 pn, .int .i64 pe] 66 (0, 0)) ∧ Hid ((T = [] ∧ pe = 0) ∨ ∃ r, T = ⟨pd, pn, pe⟩ :: r))
                    case first =>
                      cases T with
                      | nil =>
                        have hfv : firstV [] = .tuple #[.agg #[.string ⟨#[]⟩, .int .i64 0, .int .i64 0], .bool false] := rfl
                        rw [hfv] at CFI
                        go_wp2_with (go_at_call 17; (with_reducible refine (CFI.out _ (Bel.of kb (by (repeat (first | (with_reducible assumption) | (with_reducible exact Bel.refl _) | (with_reducible refine Bel.drew ?_) | (with_reducible refine Bel.drewN ?_ _) | (with_reducible refine Bel.alloc ?_ _))) : Bel (w.alloc (.cells #[.slice sq1 s.msgs.length sc1, .slice sq2 s.enums.length sc2, .slice sq3 s.svcs.length sc3] 31)) _).out)).mono ?_); rintro e w4 ⟨rfl, h4⟩; have k4 : Bel w7 w4 := Bel.of (by (repeat (first | (with_reducible assumption) | (with_reducible exact Bel.refl _) | (with_reducible refine Bel.drew ?_) | (with_reducible refine Bel.drewN ?_ _) | (with_reducible refine Bel.alloc ?_ _)))) h4; clear h4)
                        go_meet
                        refine ⟨w4.heap.size, [], 0, 0, false, ?_⟩
                        exact ⟨rfl, rfl, Lib.hid rfl, (by (repeat (first | (with_reducible assumption) | (with_reducible exact Bel.refl _) | (with_reducible refine Bel.drew ?_) | (with_reducible refine Bel.drewN ?_ _) | (with_reducible refine Bel.alloc ?_ _)))), heap_alloc_at _ _ _ rfl, Lib.hid (by simp)⟩
                      | cons p r =>
                        have hfv : firstV (p :: r) = .tuple #[.agg #[.string (S p.df), .int .i64 p.num, .int .i64 p.err], .bool true] := rfl
                        rw [hfv] at CFI
                        go_wp2_with (go_at_call 17; (with_reducible refine (CFI.out _ (Bel.of kb (by (repeat (first | (with_reducible assumption) | (with_reducible exact Bel.refl _) | (with_reducible refine Bel.drew ?_) | (with_reducible refine Bel.drewN ?_ _) | (with_reducible refine Bel.alloc ?_ _))) : Bel (w.alloc (.cells #[.slice sq1 s.msgs.length sc1, .slice sq2 s.enums.length sc2, .slice sq3 s.svcs.length sc3] 31)) _).out)).mono ?_); rintro e w4 ⟨rfl, h4⟩; have k4 : Bel w7 w4 := Bel.of (by (repeat (first | (with_reducible assumption) | (with_reducible exact Bel.refl _) | (with_reducible refine Bel.drew ?_) | (with_reducible refine Bel.drewN ?_ _) | (with_reducible refine Bel.alloc ?_ _)))) h4; clear h4)
                        go_meet
                        refine ⟨w4.heap.size, p.df, p.num, p.err, true, ?_⟩
                        exact ⟨rfl, rfl, Lib.hid rfl, (by (repeat (first | (with_reducible assumption) | (with_reducible exact Bel.refl _) | (with_reducible refine Bel.drew ?_) | (with_reducible refine Bel.drewN ?_ _) | (with_reducible refine Bel.alloc ?_ _)))), heap_alloc_at _ _ _ rfl, Lib.hid (by simp)⟩
                    case rest =>
                      clear c0 c1 c2
                      obtain ⟨pb, pd, pn, pe, OK, hs8, hs9, hOK, kx, hpb, hP⟩ := hcut
                      subst hs8 hs9
                      have HTl := Lib.hid (show T.length = H.length + R.length by rw [HPA.out, List.length_append])
                      have hsub : IntKind.i64.wrap ((T.length : Int) - (R.length : Int)) = (H.length : Int) := by
                        have hTl := HTl.out
                        rw [show (T.length : Int) - (R.length : Int) = (H.length : Int) by omega]
                        exact wrap_small _ (by omega) (by omega)
                      go_upto_region 19 with (fail)
                      clear hsub
                      have kw0 : Bel w wc := Bel.of kb (Bel.of kw kx.out).out
                      go_cut [132] (fun s132 wx => s132 = .bool false ∧ Bel wc wx)
                      case first =>
                        obtain ⟨wd, hwd⟩ : ∃ wd, wd = wc.drew := ⟨_, rfl⟩
                        have kd : Bel wc wd := by rw [hwd]; exact (Bel.refl _).drew
                        have HWD := Lib.hid hwd
                        clear hwd
                        have hKS : ∀ W', Bel wc W' → W'.cell? ⟨w.heap.size, 0, none⟩ = some (.slice sq1 s.msgs.length sc1) ∧ W'.cell? ⟨w.heap.size, 1, none⟩ = some (.slice sq2 s.enums.length sc2) ∧ W'.cell? ⟨w.heap.size, 2, none⟩ = some (.slice sq3 s.svcs.length sc3) ∧ W'.cell? ⟨pb, 0, none⟩ = some (.string (S pd)) ∧ W'.cell? ⟨pb, 1, none⟩ = some (.int .i64 pn) ∧ W'.cell? ⟨pb, 2, none⟩ = some (.int .i64 pe) := fun W' k => by
                          obtain ⟨c0, c1, c2⟩ := KB.out _ (Bel.of kw (Bel.of kx k.out).out)
                          exact ⟨c0, c1, c2, k.some ((Lib.cell_of_heap hpb 0).trans rfl), k.some ((Lib.cell_of_heap hpb 1).trans rfl), k.some ((Lib.cell_of_heap hpb 2).trans rfl)⟩
                        have qn0 : ¬ ((H.length : Int) < 0) := by omega
                        have qn7 : ¬ ((7 : Int) < (H.length : Int)) := by omega
                        cases OK with
                        | false =>
                          have hem : T.isEmpty = true := by simpa using hOK.out.symm
                          have hT0 : T = [] := List.isEmpty_iff.1 hem
                          have hpe : pe = 0 := by
                            rcases hP.out with ⟨_, h⟩ | ⟨r, h⟩
                            · exact h
                            · rw [hT0] at h; cases h
                          subst hpe
                          have QT := Lib.hid hT0
                          rw [hem] at CVA
                          have KS := Lib.hid hKS
                          clear hKS hT0 hem
                          refine region_treeA (fun W => Bel wc W) (.take 0 (.take 1 (.take 2 (.take 3 (.take 4 (.take 5 (.take 6 (.take 7 (.take 8 (.take 9 (.take 10 (.take 11 (.take 12 (.take 13 (.take 14 (.take 16 (.alt 15 (.take 17 (.take 18 (.take 19 (.take 20 (.take 21 (.take 22 (.take 23 (.take 24 (.take 25 (.take 26 (.take 27 (.take 28 (.take 29 (.take 30 (.take 31 (.take 32 (.take 33 (.take 34 (.take 35 (.take 36 (.take 37 (.take 38 (.take 39 (.take 40 (.take 41 (.take 42 (.take 43 (.take 44 (.take 45 (.take 46 (.take 47 (.take 48 (.take 49 (.take 50 (.take 51 (.take 52 (.take 53 .done))))))))))))))))))))))))))))))))))))) .no))))))))))))))))) 54 (by kernel_rfl) (by kernel_rfl) HWD.out kd (fun a ha => ?_)
                          (simp only [pickT, List.getD_cons_zero, List.getD_cons_succ])
                          have hsz : a.tmps.size = 160 := (by rw [ha]; kernel_rfl)
                          have a1 : a.eval (.tmp 1) = .pointer (some ⟨w.heap.size, 0, none⟩) := (by rw [ha]; kernel_rfl)
                          have a7 : a.eval (.tmp 7) = .slice q7 T.length c7 := (by rw [ha]; kernel_rfl)
                          have a8 : a.eval (.tmp 8) = .pointer (some ⟨pb, 0, none⟩) := (by rw [ha]; kernel_rfl)
                          have a9 : a.eval (.tmp 9) = .bool false := (by rw [ha]; kernel_rfl)
                          have a10 : a.eval (.tmp 10) = .int .i64 H.length := (by rw [ha]; kernel_rfl)
                          (with_reducible refine tree_held (v := ?_) rfl (by with_unfolding_all rfl) (fun ρ hρ W hW => ?_) ?_); (rotate_left 1)
                          focus (clear hW; have p10 := hρ (.tmp 10); (simp (disch := (first | decide | ((try simp only [sz_put]); rw [hsz]; decide))) only [ev_eq, ev_ne, a1, a7, a8, a9, a10] at p10); have hc : ∀ c, ρ (.const c) = c := (fun c => hρ (.const c)); have hfn : ∀ f, ρ (.func f) = .func (.func f) #[] #[] := (fun f => hρ (.func f)); clear hρ; go_simp; (all_goals (first | (with_reducible rfl) | (constructor <;> with_reducible rfl))))
                          (with_reducible refine tree_held (v := .bool false) rfl (by with_unfolding_all rfl) (fun ρ hρ W hW => ?_) ?_); skip
                          focus (clear hW; have p75 := hρ (.tmp 75); (simp (disch := (first | decide | ((try simp only [sz_put]); rw [hsz]; decide))) only [ev_eq, ev_ne, a1, a7, a8, a9, a10] at p75); have hc : ∀ c, ρ (.const c) = c := (fun c => hρ (.const c)); have hfn : ∀ f, ρ (.func f) = .func (.func f) #[] #[] := (fun f => hρ (.func f)); clear hρ; go_simp; (first | done | (all_goals (first | (with_reducible rfl) | (constructor <;> with_reducible rfl))) | (simp only [qn0, qn7, QT.out, decide_true, decide_false, bne_self_eq_false]; done) | (simp [qn0, qn7, QT.out, decide_true, decide_false, bne_self_eq_false]; done) | ((try simp only [qn0, qn7, QT.out, decide_true, decide_false, bne_self_eq_false]); done)))
                          (with_reducible refine tree_held (v := .bool false) rfl (by with_unfolding_all rfl) (fun ρ hρ W hW => ?_) ?_); skip
                          focus (clear hW; have p76 := hρ (.tmp 76); (simp (disch := (first | decide | ((try simp only [sz_put]); rw [hsz]; decide))) only [ev_eq, ev_ne, a1, a7, a8, a9, a10] at p76); have hc : ∀ c, ρ (.const c) = c := (fun c => hρ (.const c)); have hfn : ∀ f, ρ (.func f) = .func (.func f) #[] #[] := (fun f => hρ (.func f)); clear hρ; go_simp; (first | done | (all_goals (first | (with_reducible rfl) | (constructor <;> with_reducible rfl))) | (simp only [qn0, qn7, QT.out, decide_true, decide_false, bne_self_eq_false]; done) | (simp [qn0, qn7, QT.out, decide_true, decide_false, bne_self_eq_false]; done) | ((try simp only [qn0, qn7, QT.out, decide_true, decide_false, bne_self_eq_false]); done)))
                          (with_reducible refine tree_held_g (v := ?_) (t := 77) rfl rfl (by with_unfolding_all rfl) ?_ (fun ρ hρ W hW => ?_) ?_); (rotate_left 1)
                          focus (simp (disch := (first | decide | ((try simp only [sz_put]); rw [hsz]; decide))) only [ev_eq, ev_ne, a1, a7, a8, a9, a10])
                          focus (clear hW; have p10 := hρ (.tmp 10); (simp (disch := (first | decide | ((try simp only [sz_put]); rw [hsz]; decide))) only [ev_eq, ev_ne, a1, a7, a8, a9, a10] at p10); have hc : ∀ c, ρ (.const c) = c := (fun c => hρ (.const c)); have hfn : ∀ f, ρ (.func f) = .func (.func f) #[] #[] := (fun f => hρ (.func f)); clear hρ; go_simp; (all_goals (first | (with_reducible rfl) | (constructor <;> with_reducible rfl))))
                          (with_reducible refine tree_held_g (v := .bool false) (t := 77) rfl rfl (by with_unfolding_all rfl) ?_ (fun ρ hρ W hW => ?_) ?_); skip
                          focus (simp (disch := (first | decide | ((try simp only [sz_put]); rw [hsz]; decide))) only [ev_eq, ev_ne, a1, a7, a8, a9, a10])
                          focus (clear hW; have p78 := hρ (.tmp 78); (simp (disch := (first | decide | ((try simp only [sz_put]); rw [hsz]; decide))) only [ev_eq, ev_ne, a1, a7, a8, a9, a10] at p78); have hc : ∀ c, ρ (.const c) = c := (fun c => hρ (.const c)); have hfn : ∀ f, ρ (.func f) = .func (.func f) #[] #[] := (fun f => hρ (.func f)); clear hρ; go_simp; (first | done | (all_goals (first | (with_reducible rfl) | (constructor <;> with_reducible rfl))) | (simp only [qn0, qn7, QT.out, decide_true, decide_false, bne_self_eq_false]; done) | (simp [qn0, qn7, QT.out, decide_true, decide_false, bne_self_eq_false]; done) | ((try simp only [qn0, qn7, QT.out, decide_true, decide_false, bne_self_eq_false]); done)))
                          (with_reducible refine tree_held (v := ?_) rfl (by with_unfolding_all rfl) (fun ρ hρ W hW => ?_) ?_); (rotate_left 1)
                          focus (clear hW; have p77 := hρ (.tmp 77); (simp (disch := (first | decide | ((try simp only [sz_put]); rw [hsz]; decide))) only [ev_eq, ev_ne, a1, a7, a8, a9, a10] at p77); have p79 := hρ (.tmp 79); (simp (disch := (first | decide | ((try simp only [sz_put]); rw [hsz]; decide))) only [ev_eq, ev_ne, a1, a7, a8, a9, a10] at p79); have hc : ∀ c, ρ (.const c) = c := (fun c => hρ (.const c)); have hfn : ∀ f, ρ (.func f) = .func (.func f) #[] #[] := (fun f => hρ (.func f)); clear hρ; go_simp; (all_goals (first | (with_reducible rfl) | (constructor <;> with_reducible rfl))))
                          (with_reducible refine tree_from (fun fr1 hfr1 => ?_))
                          have b1_1 := congrArg (fun x => Act.eval x (.tmp 1)) hfr1; (simp (disch := (first | decide | ((try simp only [sz_put]); rw [hsz]; decide))) only [ev_eq, ev_ne, a1, a7, a8, a9, a10] at b1_1)
                          have b1_7 := congrArg (fun x => Act.eval x (.tmp 7)) hfr1; (simp (disch := (first | decide | ((try simp only [sz_put]); rw [hsz]; decide))) only [ev_eq, ev_ne, a1, a7, a8, a9, a10] at b1_7)
                          have b1_8 := congrArg (fun x => Act.eval x (.tmp 8)) hfr1; (simp (disch := (first | decide | ((try simp only [sz_put]); rw [hsz]; decide))) only [ev_eq, ev_ne, a1, a7, a8, a9, a10] at b1_8)
                          have b1_9 := congrArg (fun x => Act.eval x (.tmp 9)) hfr1; (simp (disch := (first | decide | ((try simp only [sz_put]); rw [hsz]; decide))) only [ev_eq, ev_ne, a1, a7, a8, a9, a10] at b1_9)
                          have b1_80 := congrArg (fun x => Act.eval x (.tmp 80)) hfr1; (simp (disch := (first | decide | ((try simp only [sz_put]); rw [hsz]; decide))) only [ev_eq, ev_ne, a1, a7, a8, a9, a10] at b1_80)
                          have hsz1 := congrArg (fun x => x.tmps.size) hfr1; (simp only [sz_put, hsz] at hsz1)
                          clear a1 a7 a8 a9 a10 hsz
                          (with_reducible refine tree_held (v := .bool false) rfl (by with_unfolding_all rfl) (fun ρ hρ W hW => ?_) ?_); skip
                          focus (clear hW; have p80 := hρ (.tmp 80); (simp (disch := (first | decide | ((try simp only [sz_put]); rw [hsz1]; decide))) only [ev_eq, ev_ne, b1_1, b1_7, b1_8, b1_9, b1_80] at p80); have hc : ∀ c, ρ (.const c) = c := (fun c => hρ (.const c)); have hfn : ∀ f, ρ (.func f) = .func (.func f) #[] #[] := (fun f => hρ (.func f)); clear hρ; go_simp; (first | done | (all_goals (first | (with_reducible rfl) | (constructor <;> with_reducible rfl))) | (simp only [qn0, qn7, QT.out, decide_true, decide_false, bne_self_eq_false]; done) | (simp [qn0, qn7, QT.out, decide_true, decide_false, bne_self_eq_false]; done) | ((try simp only [qn0, qn7, QT.out, decide_true, decide_false, bne_self_eq_false]); done)))
                          (with_reducible refine tree_held_g (v := ?_) (t := 81) rfl rfl (by with_unfolding_all rfl) ?_ (fun ρ hρ W hW => ?_) ?_); (rotate_left 1)
                          focus (simp (disch := (first | decide | ((try simp only [sz_put]); rw [hsz1]; decide))) only [ev_eq, ev_ne, b1_1, b1_7, b1_8, b1_9, b1_80])
                          focus (clear hW; have p9 := hρ (.tmp 9); (simp (disch := (first | decide | ((try simp only [sz_put]); rw [hsz1]; decide))) only [ev_eq, ev_ne, b1_1, b1_7, b1_8, b1_9, b1_80] at p9); have hc : ∀ c, ρ (.const c) = c := (fun c => hρ (.const c)); have hfn : ∀ f, ρ (.func f) = .func (.func f) #[] #[] := (fun f => hρ (.func f)); clear hρ; go_simp; (all_goals (first | (with_reducible rfl) | (constructor <;> with_reducible rfl))))
                          (with_reducible refine tree_held_g (v := ?_) (t := 81) rfl rfl (by with_unfolding_all rfl) ?_ (fun ρ hρ W hW => ?_) ?_); (rotate_left 1)
                          focus (simp (disch := (first | decide | ((try simp only [sz_put]); rw [hsz1]; decide))) only [ev_eq, ev_ne, b1_1, b1_7, b1_8, b1_9, b1_80])
                          focus (clear hW; have p7 := hρ (.tmp 7); (simp (disch := (first | decide | ((try simp only [sz_put]); rw [hsz1]; decide))) only [ev_eq, ev_ne, b1_1, b1_7, b1_8, b1_9, b1_80] at p7); have hc : ∀ c, ρ (.const c) = c := (fun c => hρ (.const c)); have hfn : ∀ f, ρ (.func f) = .func (.func f) #[] #[] := (fun f => hρ (.func f)); clear hρ; go_simp; (all_goals (first | (with_reducible rfl) | (constructor <;> with_reducible rfl))))
                          (with_reducible refine tree_held_g (v := ?_) (t := 81) rfl rfl (by with_unfolding_all rfl) ?_ (fun ρ hρ W hW => ?_) ?_); (rotate_left 1)
                          focus (simp (disch := (first | decide | ((try simp only [sz_put]); rw [hsz1]; decide))) only [ev_eq, ev_ne, b1_1, b1_7, b1_8, b1_9, b1_80])
                          focus (clear hW; have p83 := hρ (.tmp 83); (simp (disch := (first | decide | ((try simp only [sz_put]); rw [hsz1]; decide))) only [ev_eq, ev_ne, b1_1, b1_7, b1_8, b1_9, b1_80] at p83); have hc : ∀ c, ρ (.const c) = c := (fun c => hρ (.const c)); have hfn : ∀ f, ρ (.func f) = .func (.func f) #[] #[] := (fun f => hρ (.func f)); clear hρ; go_simp; (all_goals (first | (with_reducible rfl) | (constructor <;> with_reducible rfl))))
                          (with_reducible refine tree_held_g (v := .bool false) (t := 81) rfl rfl (by with_unfolding_all rfl) ?_ (fun ρ hρ W hW => ?_) ?_); skip
                          focus (simp (disch := (first | decide | ((try simp only [sz_put]); rw [hsz1]; decide))) only [ev_eq, ev_ne, b1_1, b1_7, b1_8, b1_9, b1_80])
                          focus (clear hW; have p84 := hρ (.tmp 84); (simp (disch := (first | decide | ((try simp only [sz_put]); rw [hsz1]; decide))) only [ev_eq, ev_ne, b1_1, b1_7, b1_8, b1_9, b1_80] at p84); have hc : ∀ c, ρ (.const c) = c := (fun c => hρ (.const c)); have hfn : ∀ f, ρ (.func f) = .func (.func f) #[] #[] := (fun f => hρ (.func f)); clear hρ; go_simp; (first | done | (all_goals (first | (with_reducible rfl) | (constructor <;> with_reducible rfl))) | (simp only [qn0, qn7, QT.out, decide_true, decide_false, bne_self_eq_false]; done) | (simp [qn0, qn7, QT.out, decide_true, decide_false, bne_self_eq_false]; done) | ((try simp only [qn0, qn7, QT.out, decide_true, decide_false, bne_self_eq_false]); done)))
                          (with_reducible refine tree_held_g (v := .bool false) (t := 81) rfl rfl (by with_unfolding_all rfl) ?_ (fun ρ hρ W hW => ?_) ?_); skip
                          focus (simp (disch := (first | decide | ((try simp only [sz_put]); rw [hsz1]; decide))) only [ev_eq, ev_ne, b1_1, b1_7, b1_8, b1_9, b1_80])
                          focus (clear hW; have p82 := hρ (.tmp 82); (simp (disch := (first | decide | ((try simp only [sz_put]); rw [hsz1]; decide))) only [ev_eq, ev_ne, b1_1, b1_7, b1_8, b1_9, b1_80] at p82); have p85 := hρ (.tmp 85); (simp (disch := (first | decide | ((try simp only [sz_put]); rw [hsz1]; decide))) only [ev_eq, ev_ne, b1_1, b1_7, b1_8, b1_9, b1_80] at p85); have hc : ∀ c, ρ (.const c) = c := (fun c => hρ (.const c)); have hfn : ∀ f, ρ (.func f) = .func (.func f) #[] #[] := (fun f => hρ (.func f)); clear hρ; go_simp; (first | done | (all_goals (first | (with_reducible rfl) | (constructor <;> with_reducible rfl))) | (simp only [qn0, qn7, QT.out, decide_true, decide_false, bne_self_eq_false]; done) | (simp [qn0, qn7, QT.out, decide_true, decide_false, bne_self_eq_false]; done) | ((try simp only [qn0, qn7, QT.out, decide_true, decide_false, bne_self_eq_false]); done)))
                          (with_reducible refine tree_from (fun fr2 hfr2 => ?_))
                          have b2_1 := congrArg (fun x => Act.eval x (.tmp 1)) hfr2; (simp (disch := (first | decide | ((try simp only [sz_put]); rw [hsz1]; decide))) only [ev_eq, ev_ne, b1_1, b1_7, b1_8, b1_9, b1_80] at b2_1)
                          have b2_7 := congrArg (fun x => Act.eval x (.tmp 7)) hfr2; (simp (disch := (first | decide | ((try simp only [sz_put]); rw [hsz1]; decide))) only [ev_eq, ev_ne, b1_1, b1_7, b1_8, b1_9, b1_80] at b2_7)
                          have b2_8 := congrArg (fun x => Act.eval x (.tmp 8)) hfr2; (simp (disch := (first | decide | ((try simp only [sz_put]); rw [hsz1]; decide))) only [ev_eq, ev_ne, b1_1, b1_7, b1_8, b1_9, b1_80] at b2_8)
                          have b2_9 := congrArg (fun x => Act.eval x (.tmp 9)) hfr2; (simp (disch := (first | decide | ((try simp only [sz_put]); rw [hsz1]; decide))) only [ev_eq, ev_ne, b1_1, b1_7, b1_8, b1_9, b1_80] at b2_9)
                          have b2_81 := congrArg (fun x => Act.eval x (.tmp 81)) hfr2; (simp (disch := (first | decide | ((try simp only [sz_put]); rw [hsz1]; decide))) only [ev_eq, ev_ne, b1_1, b1_7, b1_8, b1_9, b1_80] at b2_81)
                          have b2_86 := congrArg (fun x => Act.eval x (.tmp 86)) hfr2; (simp (disch := (first | decide | ((try simp only [sz_put]); rw [hsz1]; decide))) only [ev_eq, ev_ne, b1_1, b1_7, b1_8, b1_9, b1_80] at b2_86)
                          have hsz2 := congrArg (fun x => x.tmps.size) hfr2; (simp only [sz_put, hsz1] at hsz2)
                          clear b1_1 b1_7 b1_8 b1_9 b1_80 hsz1
                          (with_reducible refine tree_held (v := ?_) rfl (by with_unfolding_all rfl) (fun ρ hρ W hW => ?_) ?_); (rotate_left 1)
                          focus (clear hW; have p81 := hρ (.tmp 81); (simp (disch := (first | decide | ((try simp only [sz_put]); rw [hsz2]; decide))) only [ev_eq, ev_ne, b2_1, b2_7, b2_8, b2_9, b2_81, b2_86] at p81); have p86 := hρ (.tmp 86); (simp (disch := (first | decide | ((try simp only [sz_put]); rw [hsz2]; decide))) only [ev_eq, ev_ne, b2_1, b2_7, b2_8, b2_9, b2_81, b2_86] at p86); have hc : ∀ c, ρ (.const c) = c := (fun c => hρ (.const c)); have hfn : ∀ f, ρ (.func f) = .func (.func f) #[] #[] := (fun f => hρ (.func f)); clear hρ; go_simp; (all_goals (first | (with_reducible rfl) | (constructor <;> with_reducible rfl))))
                          (with_reducible refine tree_held (v := .bool false) rfl (by with_unfolding_all rfl) (fun ρ hρ W hW => ?_) ?_); skip
                          focus (clear hW; have p87 := hρ (.tmp 87); (simp (disch := (first | decide | ((try simp only [sz_put]); rw [hsz2]; decide))) only [ev_eq, ev_ne, b2_1, b2_7, b2_8, b2_9, b2_81, b2_86] at p87); have hc : ∀ c, ρ (.const c) = c := (fun c => hρ (.const c)); have hfn : ∀ f, ρ (.func f) = .func (.func f) #[] #[] := (fun f => hρ (.func f)); clear hρ; go_simp; (first | done | (all_goals (first | (with_reducible rfl) | (constructor <;> with_reducible rfl))) | (simp only [qn0, qn7, QT.out, decide_true, decide_false, bne_self_eq_false]; done) | (simp [qn0, qn7, QT.out, decide_true, decide_false, bne_self_eq_false]; done) | ((try simp only [qn0, qn7, QT.out, decide_true, decide_false, bne_self_eq_false]); done)))
                          (with_reducible refine tree_held_g (v := ?_) (t := 88) rfl rfl (by with_unfolding_all rfl) ?_ (fun ρ hρ W hW => ?_) ?_); (rotate_left 1)
                          focus (simp (disch := (first | decide | ((try simp only [sz_put]); rw [hsz2]; decide))) only [ev_eq, ev_ne, b2_1, b2_7, b2_8, b2_9, b2_81, b2_86])
                          focus (have hS := KS.out _ hW; clear hW; have p1 := hρ (.tmp 1); (simp (disch := (first | decide | ((try simp only [sz_put]); rw [hsz2]; decide))) only [ev_eq, ev_ne, b2_1, b2_7, b2_8, b2_9, b2_81, b2_86] at p1); have hc : ∀ c, ρ (.const c) = c := (fun c => hρ (.const c)); have hfn : ∀ f, ρ (.func f) = .func (.func f) #[] #[] := (fun f => hρ (.func f)); clear hρ; go_simp; (all_goals (first | (with_reducible rfl) | (constructor <;> with_reducible rfl))))
                          (with_reducible refine tree_held_g (v := ?_) (t := 88) rfl rfl (by with_unfolding_all rfl) ?_ (fun ρ hρ W hW => ?_) ?_); (rotate_left 1)
                          focus (simp (disch := (first | decide | ((try simp only [sz_put]); rw [hsz2]; decide))) only [ev_eq, ev_ne, b2_1, b2_7, b2_8, b2_9, b2_81, b2_86])
                          focus (clear hW; have p9 := hρ (.tmp 9); (simp (disch := (first | decide | ((try simp only [sz_put]); rw [hsz2]; decide))) only [ev_eq, ev_ne, b2_1, b2_7, b2_8, b2_9, b2_81, b2_86] at p9); have hc : ∀ c, ρ (.const c) = c := (fun c => hρ (.const c)); have hfn : ∀ f, ρ (.func f) = .func (.func f) #[] #[] := (fun f => hρ (.func f)); clear hρ; go_simp; (all_goals (first | (with_reducible rfl) | (constructor <;> with_reducible rfl))))
                          (with_reducible refine tree_enter_g (f := ?_) (args := ?_) (t := 88) rfl rfl (by with_unfolding_all rfl) ?_ (fun ρ hρ => ?_) ?_ ?_); (rotate_left 2)
                          focus (simp (disch := (first | decide | ((try simp only [sz_put]); rw [hsz2]; decide))) only [ev_eq, ev_ne, b2_1, b2_7, b2_8, b2_9, b2_81, b2_86])
                          focus (have p89 := hρ (.tmp 89); (simp (disch := (first | decide | ((try simp only [sz_put]); rw [hsz2]; decide))) only [ev_eq, ev_ne, b2_1, b2_7, b2_8, b2_9, b2_81, b2_86] at p89); have hc : ∀ c, ρ (.const c) = c := (fun c => hρ (.const c)); have hfn : ∀ f, ρ (.func f) = .func (.func f) #[] #[] := (fun f => hρ (.func f)); clear hρ; rw [execOp_call_rho (hfn _)]; clear hfn; go_simp; (all_goals (first | (with_reducible rfl) | (constructor <;> with_reducible rfl))))
                          (with_reducible refine (CVA.out _ (Bel.of kw0 kd.out)).mono ?_)
                          rintro e w5 ⟨rfl, g5⟩
                          have k5 : Bel wc w5 := Bel.of kd g5
                          clear g5
                          refine ⟨_, rfl, k5, ?_⟩
                          rotate_left 1
                          focus exact tree_no
                          (with_reducible refine tree_held_g (v := .bool false) (t := 88) rfl rfl (by with_unfolding_all rfl) ?_ (fun ρ hρ W hW => ?_) ?_); skip
                          focus (simp (disch := (first | decide | ((try simp only [sz_put]); rw [hsz2]; decide))) only [ev_eq, ev_ne, b2_1, b2_7, b2_8, b2_9, b2_81, b2_86])
                          focus (clear hW; have p90 := hρ (.tmp 90); (simp (disch := (first | decide | ((try simp only [sz_put]); rw [hsz2]; decide))) only [ev_eq, ev_ne, b2_1, b2_7, b2_8, b2_9, b2_81, b2_86] at p90); have p91 := hρ (.tmp 91); (simp (disch := (first | decide | ((try simp only [sz_put]); rw [hsz2]; decide))) only [ev_eq, ev_ne, b2_1, b2_7, b2_8, b2_9, b2_81, b2_86] at p91); have hc : ∀ c, ρ (.const c) = c := (fun c => hρ (.const c)); have hfn : ∀ f, ρ (.func f) = .func (.func f) #[] #[] := (fun f => hρ (.func f)); clear hρ; go_simp; (first | done | (all_goals (first | (with_reducible rfl) | (constructor <;> with_reducible rfl))) | (simp only [qn0, qn7, QT.out, decide_true, decide_false, bne_self_eq_false]; done) | (simp [qn0, qn7, QT.out, decide_true, decide_false, bne_self_eq_false]; done) | ((try simp only [qn0, qn7, QT.out, decide_true, decide_false, bne_self_eq_false]); done)))
                          (with_reducible refine tree_from (fun fr3 hfr3 => ?_))
                          have b3_7 := congrArg (fun x => Act.eval x (.tmp 7)) hfr3; (simp (disch := (first | decide | ((try simp only [sz_put]); rw [hsz2]; decide))) only [ev_eq, ev_ne, b2_1, b2_7, b2_8, b2_9, b2_81, b2_86] at b3_7)
                          have b3_8 := congrArg (fun x => Act.eval x (.tmp 8)) hfr3; (simp (disch := (first | decide | ((try simp only [sz_put]); rw [hsz2]; decide))) only [ev_eq, ev_ne, b2_1, b2_7, b2_8, b2_9, b2_81, b2_86] at b3_8)
                          have b3_9 := congrArg (fun x => Act.eval x (.tmp 9)) hfr3; (simp (disch := (first | decide | ((try simp only [sz_put]); rw [hsz2]; decide))) only [ev_eq, ev_ne, b2_1, b2_7, b2_8, b2_9, b2_81, b2_86] at b3_9)
                          have b3_88 := congrArg (fun x => Act.eval x (.tmp 88)) hfr3; (simp (disch := (first | decide | ((try simp only [sz_put]); rw [hsz2]; decide))) only [ev_eq, ev_ne, b2_1, b2_7, b2_8, b2_9, b2_81, b2_86] at b3_88)
                          have b3_92 := congrArg (fun x => Act.eval x (.tmp 92)) hfr3; (simp (disch := (first | decide | ((try simp only [sz_put]); rw [hsz2]; decide))) only [ev_eq, ev_ne, b2_1, b2_7, b2_8, b2_9, b2_81, b2_86] at b3_92)
                          have hsz3 := congrArg (fun x => x.tmps.size) hfr3; (simp only [sz_put, hsz2] at hsz3)
                          clear b2_1 b2_7 b2_8 b2_9 b2_81 b2_86 hsz2
                          (with_reducible refine tree_held (v := ?_) rfl (by with_unfolding_all rfl) (fun ρ hρ W hW => ?_) ?_); (rotate_left 1)
                          focus (clear hW; have p88 := hρ (.tmp 88); (simp (disch := (first | decide | ((try simp only [sz_put]); rw [hsz3]; decide))) only [ev_eq, ev_ne, b3_7, b3_8, b3_9, b3_88, b3_92] at p88); have p92 := hρ (.tmp 92); (simp (disch := (first | decide | ((try simp only [sz_put]); rw [hsz3]; decide))) only [ev_eq, ev_ne, b3_7, b3_8, b3_9, b3_88, b3_92] at p92); have hc : ∀ c, ρ (.const c) = c := (fun c => hρ (.const c)); have hfn : ∀ f, ρ (.func f) = .func (.func f) #[] #[] := (fun f => hρ (.func f)); clear hρ; go_simp; (all_goals (first | (with_reducible rfl) | (constructor <;> with_reducible rfl))))
                          (with_reducible refine tree_held (v := .bool false) rfl (by with_unfolding_all rfl) (fun ρ hρ W hW => ?_) ?_); skip
                          focus (clear hW; have p93 := hρ (.tmp 93); (simp (disch := (first | decide | ((try simp only [sz_put]); rw [hsz3]; decide))) only [ev_eq, ev_ne, b3_7, b3_8, b3_9, b3_88, b3_92] at p93); have hc : ∀ c, ρ (.const c) = c := (fun c => hρ (.const c)); have hfn : ∀ f, ρ (.func f) = .func (.func f) #[] #[] := (fun f => hρ (.func f)); clear hρ; go_simp; (first | done | (all_goals (first | (with_reducible rfl) | (constructor <;> with_reducible rfl))) | (simp only [qn0, qn7, QT.out, decide_true, decide_false, bne_self_eq_false]; done) | (simp [qn0, qn7, QT.out, decide_true, decide_false, bne_self_eq_false]; done) | ((try simp only [qn0, qn7, QT.out, decide_true, decide_false, bne_self_eq_false]); done)))
                          (with_reducible refine tree_held_g (v := ?_) (t := 94) rfl rfl (by with_unfolding_all rfl) ?_ (fun ρ hρ W hW => ?_) ?_); (rotate_left 1)
                          focus (simp (disch := (first | decide | ((try simp only [sz_put]); rw [hsz3]; decide))) only [ev_eq, ev_ne, b3_7, b3_8, b3_9, b3_88, b3_92])
                          focus (clear hW; have p9 := hρ (.tmp 9); (simp (disch := (first | decide | ((try simp only [sz_put]); rw [hsz3]; decide))) only [ev_eq, ev_ne, b3_7, b3_8, b3_9, b3_88, b3_92] at p9); have hc : ∀ c, ρ (.const c) = c := (fun c => hρ (.const c)); have hfn : ∀ f, ρ (.func f) = .func (.func f) #[] #[] := (fun f => hρ (.func f)); clear hρ; go_simp; (all_goals (first | (with_reducible rfl) | (constructor <;> with_reducible rfl))))
                          (with_reducible refine tree_held_g (v := ?_) (t := 94) rfl rfl (by with_unfolding_all rfl) ?_ (fun ρ hρ W hW => ?_) ?_); (rotate_left 1)
                          focus (simp (disch := (first | decide | ((try simp only [sz_put]); rw [hsz3]; decide))) only [ev_eq, ev_ne, b3_7, b3_8, b3_9, b3_88, b3_92])
                          focus (clear hW; have p95 := hρ (.tmp 95); (simp (disch := (first | decide | ((try simp only [sz_put]); rw [hsz3]; decide))) only [ev_eq, ev_ne, b3_7, b3_8, b3_9, b3_88, b3_92] at p95); have hc : ∀ c, ρ (.const c) = c := (fun c => hρ (.const c)); have hfn : ∀ f, ρ (.func f) = .func (.func f) #[] #[] := (fun f => hρ (.func f)); clear hρ; go_simp; (all_goals (first | (with_reducible rfl) | (constructor <;> with_reducible rfl))))
                          (with_reducible refine tree_held_g (v := .bool true) (t := 94) rfl rfl (by with_unfolding_all rfl) ?_ (fun ρ hρ W hW => ?_) ?_); skip
                          focus (simp (disch := (first | decide | ((try simp only [sz_put]); rw [hsz3]; decide))) only [ev_eq, ev_ne, b3_7, b3_8, b3_9, b3_88, b3_92])
                          focus (clear hW; have p96 := hρ (.tmp 96); (simp (disch := (first | decide | ((try simp only [sz_put]); rw [hsz3]; decide))) only [ev_eq, ev_ne, b3_7, b3_8, b3_9, b3_88, b3_92] at p96); have hc : ∀ c, ρ (.const c) = c := (fun c => hρ (.const c)); have hfn : ∀ f, ρ (.func f) = .func (.func f) #[] #[] := (fun f => hρ (.func f)); clear hρ; go_simp; (first | done | (all_goals (first | (with_reducible rfl) | (constructor <;> with_reducible rfl))) | (simp only [qn0, qn7, QT.out, decide_true, decide_false, bne_self_eq_false]; done) | (simp [qn0, qn7, QT.out, decide_true, decide_false, bne_self_eq_false]; done) | ((try simp only [qn0, qn7, QT.out, decide_true, decide_false, bne_self_eq_false]); done)))
                          (with_reducible refine tree_held_g (v := ?_) (t := 97) rfl rfl (by with_unfolding_all rfl) ?_ (fun ρ hρ W hW => ?_) ?_); (rotate_left 1)
                          focus (simp (disch := (first | decide | ((try simp only [sz_put]); rw [hsz3]; decide))) only [ev_eq, ev_ne, b3_7, b3_8, b3_9, b3_88, b3_92])
                          focus (clear hW; have p8 := hρ (.tmp 8); (simp (disch := (first | decide | ((try simp only [sz_put]); rw [hsz3]; decide))) only [ev_eq, ev_ne, b3_7, b3_8, b3_9, b3_88, b3_92] at p8); have hc : ∀ c, ρ (.const c) = c := (fun c => hρ (.const c)); have hfn : ∀ f, ρ (.func f) = .func (.func f) #[] #[] := (fun f => hρ (.func f)); clear hρ; go_simp; (all_goals (first | (with_reducible rfl) | (constructor <;> with_reducible rfl))))
                          (with_reducible refine tree_from (fun fr4 hfr4 => ?_))
                          have b4_7 := congrArg (fun x => Act.eval x (.tmp 7)) hfr4; (simp (disch := (first | decide | ((try simp only [sz_put]); rw [hsz3]; decide))) only [ev_eq, ev_ne, b3_7, b3_8, b3_9, b3_88, b3_92] at b4_7)
                          have b4_8 := congrArg (fun x => Act.eval x (.tmp 8)) hfr4; (simp (disch := (first | decide | ((try simp only [sz_put]); rw [hsz3]; decide))) only [ev_eq, ev_ne, b3_7, b3_8, b3_9, b3_88, b3_92] at b4_8)
                          have b4_9 := congrArg (fun x => Act.eval x (.tmp 9)) hfr4; (simp (disch := (first | decide | ((try simp only [sz_put]); rw [hsz3]; decide))) only [ev_eq, ev_ne, b3_7, b3_8, b3_9, b3_88, b3_92] at b4_9)
                          have b4_94 := congrArg (fun x => Act.eval x (.tmp 94)) hfr4; (simp (disch := (first | decide | ((try simp only [sz_put]); rw [hsz3]; decide))) only [ev_eq, ev_ne, b3_7, b3_8, b3_9, b3_88, b3_92] at b4_94)
                          have b4_97 := congrArg (fun x => Act.eval x (.tmp 97)) hfr4; (simp (disch := (first | decide | ((try simp only [sz_put]); rw [hsz3]; decide))) only [ev_eq, ev_ne, b3_7, b3_8, b3_9, b3_88, b3_92] at b4_97)
                          have b4_98 := congrArg (fun x => Act.eval x (.tmp 98)) hfr4; (simp (disch := (first | decide | ((try simp only [sz_put]); rw [hsz3]; decide))) only [ev_eq, ev_ne, b3_7, b3_8, b3_9, b3_88, b3_92] at b4_98)
                          have hsz4 := congrArg (fun x => x.tmps.size) hfr4; (simp only [sz_put, hsz3] at hsz4)
                          clear b3_7 b3_8 b3_9 b3_88 b3_92 hsz3
                          (with_reducible refine tree_held_g (v := ?_) (t := 97) rfl rfl (by with_unfolding_all rfl) ?_ (fun ρ hρ W hW => ?_) ?_); (rotate_left 1)
                          focus (simp (disch := (first | decide | ((try simp only [sz_put]); rw [hsz4]; decide))) only [ev_eq, ev_ne, b4_7, b4_8, b4_9, b4_94, b4_97, b4_98])
                          focus (have hS := KS.out _ hW; clear hW; have p98 := hρ (.tmp 98); (simp (disch := (first | decide | ((try simp only [sz_put]); rw [hsz4]; decide))) only [ev_eq, ev_ne, b4_7, b4_8, b4_9, b4_94, b4_97, b4_98] at p98); have hc : ∀ c, ρ (.const c) = c := (fun c => hρ (.const c)); have hfn : ∀ f, ρ (.func f) = .func (.func f) #[] #[] := (fun f => hρ (.func f)); clear hρ; go_simp; (all_goals (first | (with_reducible rfl) | (constructor <;> with_reducible rfl))))
                          (with_reducible refine tree_held_g (v := .bool false) (t := 97) rfl rfl (by with_unfolding_all rfl) ?_ (fun ρ hρ W hW => ?_) ?_); skip
                          focus (simp (disch := (first | decide | ((try simp only [sz_put]); rw [hsz4]; decide))) only [ev_eq, ev_ne, b4_7, b4_8, b4_9, b4_94, b4_97, b4_98])
                          focus (clear hW; have p99 := hρ (.tmp 99); (simp (disch := (first | decide | ((try simp only [sz_put]); rw [hsz4]; decide))) only [ev_eq, ev_ne, b4_7, b4_8, b4_9, b4_94, b4_97, b4_98] at p99); have hc : ∀ c, ρ (.const c) = c := (fun c => hρ (.const c)); have hfn : ∀ f, ρ (.func f) = .func (.func f) #[] #[] := (fun f => hρ (.func f)); clear hρ; go_simp; (first | done | (all_goals (first | (with_reducible rfl) | (constructor <;> with_reducible rfl))) | (simp only [qn0, qn7, QT.out, decide_true, decide_false, bne_self_eq_false]; done) | (simp [qn0, qn7, QT.out, decide_true, decide_false, bne_self_eq_false]; done) | ((try simp only [qn0, qn7, QT.out, decide_true, decide_false, bne_self_eq_false]); done)))
                          (with_reducible refine tree_held_g (v := ?_) (t := 94) rfl rfl (by with_unfolding_all rfl) ?_ (fun ρ hρ W hW => ?_) ?_); (rotate_left 1)
                          focus (simp (disch := (first | decide | ((try simp only [sz_put]); rw [hsz4]; decide))) only [ev_eq, ev_ne, b4_7, b4_8, b4_9, b4_94, b4_97, b4_98])
                          focus (clear hW; have p97 := hρ (.tmp 97); (simp (disch := (first | decide | ((try simp only [sz_put]); rw [hsz4]; decide))) only [ev_eq, ev_ne, b4_7, b4_8, b4_9, b4_94, b4_97, b4_98] at p97); have p100 := hρ (.tmp 100); (simp (disch := (first | decide | ((try simp only [sz_put]); rw [hsz4]; decide))) only [ev_eq, ev_ne, b4_7, b4_8, b4_9, b4_94, b4_97, b4_98] at p100); have hc : ∀ c, ρ (.const c) = c := (fun c => hρ (.const c)); have hfn : ∀ f, ρ (.func f) = .func (.func f) #[] #[] := (fun f => hρ (.func f)); clear hρ; go_simp; (all_goals (first | (with_reducible rfl) | (constructor <;> with_reducible rfl))))
                          (with_reducible refine tree_held (v := ?_) rfl (by with_unfolding_all rfl) (fun ρ hρ W hW => ?_) ?_); (rotate_left 1)
                          focus (clear hW; have p94 := hρ (.tmp 94); (simp (disch := (first | decide | ((try simp only [sz_put]); rw [hsz4]; decide))) only [ev_eq, ev_ne, b4_7, b4_8, b4_9, b4_94, b4_97, b4_98] at p94); have p101 := hρ (.tmp 101); (simp (disch := (first | decide | ((try simp only [sz_put]); rw [hsz4]; decide))) only [ev_eq, ev_ne, b4_7, b4_8, b4_9, b4_94, b4_97, b4_98] at p101); have hc : ∀ c, ρ (.const c) = c := (fun c => hρ (.const c)); have hfn : ∀ f, ρ (.func f) = .func (.func f) #[] #[] := (fun f => hρ (.func f)); clear hρ; go_simp; (all_goals (first | (with_reducible rfl) | (constructor <;> with_reducible rfl))))
                          (with_reducible refine tree_held (v := .bool false) rfl (by with_unfolding_all rfl) (fun ρ hρ W hW => ?_) ?_); skip
                          focus (clear hW; have p102 := hρ (.tmp 102); (simp (disch := (first | decide | ((try simp only [sz_put]); rw [hsz4]; decide))) only [ev_eq, ev_ne, b4_7, b4_8, b4_9, b4_94, b4_97, b4_98] at p102); have hc : ∀ c, ρ (.const c) = c := (fun c => hρ (.const c)); have hfn : ∀ f, ρ (.func f) = .func (.func f) #[] #[] := (fun f => hρ (.func f)); clear hρ; go_simp; (first | done | (all_goals (first | (with_reducible rfl) | (constructor <;> with_reducible rfl))) | (simp only [qn0, qn7, QT.out, decide_true, decide_false, bne_self_eq_false]; done) | (simp [qn0, qn7, QT.out, decide_true, decide_false, bne_self_eq_false]; done) | ((try simp only [qn0, qn7, QT.out, decide_true, decide_false, bne_self_eq_false]); done)))
                          (with_reducible refine tree_held_g (v := ?_) (t := 103) rfl rfl (by with_unfolding_all rfl) ?_ (fun ρ hρ W hW => ?_) ?_); (rotate_left 1)
                          focus (simp (disch := (first | decide | ((try simp only [sz_put]); rw [hsz4]; decide))) only [ev_eq, ev_ne, b4_7, b4_8, b4_9, b4_94, b4_97, b4_98])
                          focus (clear hW; have p9 := hρ (.tmp 9); (simp (disch := (first | decide | ((try simp only [sz_put]); rw [hsz4]; decide))) only [ev_eq, ev_ne, b4_7, b4_8, b4_9, b4_94, b4_97, b4_98] at p9); have hc : ∀ c, ρ (.const c) = c := (fun c => hρ (.const c)); have hfn : ∀ f, ρ (.func f) = .func (.func f) #[] #[] := (fun f => hρ (.func f)); clear hρ; go_simp; (all_goals (first | (with_reducible rfl) | (constructor <;> with_reducible rfl))))
                          (with_reducible refine tree_from (fun fr5 hfr5 => ?_))
                          have b5_7 := congrArg (fun x => Act.eval x (.tmp 7)) hfr5; (simp (disch := (first | decide | ((try simp only [sz_put]); rw [hsz4]; decide))) only [ev_eq, ev_ne, b4_7, b4_8, b4_9, b4_94, b4_97, b4_98] at b5_7)
                          have b5_8 := congrArg (fun x => Act.eval x (.tmp 8)) hfr5; (simp (disch := (first | decide | ((try simp only [sz_put]); rw [hsz4]; decide))) only [ev_eq, ev_ne, b4_7, b4_8, b4_9, b4_94, b4_97, b4_98] at b5_8)
                          have b5_103 := congrArg (fun x => Act.eval x (.tmp 103)) hfr5; (simp (disch := (first | decide | ((try simp only [sz_put]); rw [hsz4]; decide))) only [ev_eq, ev_ne, b4_7, b4_8, b4_9, b4_94, b4_97, b4_98] at b5_103)
                          have b5_104 := congrArg (fun x => Act.eval x (.tmp 104)) hfr5; (simp (disch := (first | decide | ((try simp only [sz_put]); rw [hsz4]; decide))) only [ev_eq, ev_ne, b4_7, b4_8, b4_9, b4_94, b4_97, b4_98] at b5_104)
                          have hsz5 := congrArg (fun x => x.tmps.size) hfr5; (simp only [sz_put, hsz4] at hsz5)
                          clear b4_7 b4_8 b4_9 b4_94 b4_97 b4_98 hsz4
                          (with_reducible refine tree_held_g (v := .bool false) (t := 103) rfl rfl (by with_unfolding_all rfl) ?_ (fun ρ hρ W hW => ?_) ?_); skip
                          focus (simp (disch := (first | decide | ((try simp only [sz_put]); rw [hsz5]; decide))) only [ev_eq, ev_ne, b5_7, b5_8, b5_103, b5_104])
                          focus (clear hW; have p104 := hρ (.tmp 104); (simp (disch := (first | decide | ((try simp only [sz_put]); rw [hsz5]; decide))) only [ev_eq, ev_ne, b5_7, b5_8, b5_103, b5_104] at p104); have hc : ∀ c, ρ (.const c) = c := (fun c => hρ (.const c)); have hfn : ∀ f, ρ (.func f) = .func (.func f) #[] #[] := (fun f => hρ (.func f)); clear hρ; go_simp; (first | done | (all_goals (first | (with_reducible rfl) | (constructor <;> with_reducible rfl))) | (simp only [qn0, qn7, QT.out, decide_true, decide_false, bne_self_eq_false]; done) | (simp [qn0, qn7, QT.out, decide_true, decide_false, bne_self_eq_false]; done) | ((try simp only [qn0, qn7, QT.out, decide_true, decide_false, bne_self_eq_false]); done)))
                          (with_reducible refine tree_skip_g (c := false) (t := 105) rfl rfl (by with_unfolding_all rfl) ?_ rfl ?_)
                          focus (simp (disch := (first | decide | ((try simp only [sz_put]); rw [hsz5]; decide))) only [ev_eq, ev_ne, b5_7, b5_8, b5_103, b5_104])
                          (with_reducible refine tree_skip_g (c := false) (t := 105) rfl rfl (by with_unfolding_all rfl) ?_ rfl ?_)
                          focus (simp (disch := (first | decide | ((try simp only [sz_put]); rw [hsz5]; decide))) only [ev_eq, ev_ne, b5_7, b5_8, b5_103, b5_104])
                          (with_reducible refine tree_skip_g (c := false) (t := 105) rfl rfl (by with_unfolding_all rfl) ?_ rfl ?_)
                          focus (simp (disch := (first | decide | ((try simp only [sz_put]); rw [hsz5]; decide))) only [ev_eq, ev_ne, b5_7, b5_8, b5_103, b5_104])
                          (with_reducible refine tree_skip_g (c := false) (t := 105) rfl rfl (by with_unfolding_all rfl) ?_ rfl ?_)
                          focus (simp (disch := (first | decide | ((try simp only [sz_put]); rw [hsz5]; decide))) only [ev_eq, ev_ne, b5_7, b5_8, b5_103, b5_104])
                          (with_reducible refine tree_skip_g (c := false) (t := 105) rfl rfl (by with_unfolding_all rfl) ?_ rfl ?_)
                          focus (simp (disch := (first | decide | ((try simp only [sz_put]); rw [hsz5]; decide))) only [ev_eq, ev_ne, b5_7, b5_8, b5_103, b5_104])
                          (with_reducible refine tree_from (fun fr6 hfr6 => ?_))
                          have b6_7 := congrArg (fun x => Act.eval x (.tmp 7)) hfr6; (simp (disch := (first | decide | ((try simp only [sz_put]); rw [hsz5]; decide))) only [ev_eq, ev_ne, b5_7, b5_8, b5_103, b5_104] at b6_7)
                          have b6_8 := congrArg (fun x => Act.eval x (.tmp 8)) hfr6; (simp (disch := (first | decide | ((try simp only [sz_put]); rw [hsz5]; decide))) only [ev_eq, ev_ne, b5_7, b5_8, b5_103, b5_104] at b6_8)
                          have b6_103 := congrArg (fun x => Act.eval x (.tmp 103)) hfr6; (simp (disch := (first | decide | ((try simp only [sz_put]); rw [hsz5]; decide))) only [ev_eq, ev_ne, b5_7, b5_8, b5_103, b5_104] at b6_103)
                          have b6_105 := congrArg (fun x => Act.eval x (.tmp 105)) hfr6; (simp (disch := (first | decide | ((try simp only [sz_put]); rw [hsz5]; decide))) only [ev_eq, ev_ne, b5_7, b5_8, b5_103, b5_104] at b6_105)
                          have b6_107 := congrArg (fun x => Act.eval x (.tmp 107)) hfr6; (simp (disch := (first | decide | ((try simp only [sz_put]); rw [hsz5]; decide))) only [ev_eq, ev_ne, b5_7, b5_8, b5_103, b5_104] at b6_107)
                          have b6_110 := congrArg (fun x => Act.eval x (.tmp 110)) hfr6; (simp (disch := (first | decide | ((try simp only [sz_put]); rw [hsz5]; decide))) only [ev_eq, ev_ne, b5_7, b5_8, b5_103, b5_104] at b6_110)
                          have hsz6 := congrArg (fun x => x.tmps.size) hfr6; (simp only [sz_put, hsz5] at hsz6)
                          clear b5_7 b5_8 b5_103 b5_104 hsz5
                          (with_reducible refine tree_skip_g (c := false) (t := 105) rfl rfl (by with_unfolding_all rfl) ?_ rfl ?_)
                          focus (simp (disch := (first | decide | ((try simp only [sz_put]); rw [hsz6]; decide))) only [ev_eq, ev_ne, b6_7, b6_8, b6_103, b6_105, b6_107, b6_110])
                          (with_reducible refine tree_skip_g (c := false) (t := 105) rfl rfl (by with_unfolding_all rfl) ?_ rfl ?_)
                          focus (simp (disch := (first | decide | ((try simp only [sz_put]); rw [hsz6]; decide))) only [ev_eq, ev_ne, b6_7, b6_8, b6_103, b6_105, b6_107, b6_110])
                          (with_reducible refine tree_skip_g (c := false) (t := 105) rfl rfl (by with_unfolding_all rfl) ?_ rfl ?_)
                          focus (simp (disch := (first | decide | ((try simp only [sz_put]); rw [hsz6]; decide))) only [ev_eq, ev_ne, b6_7, b6_8, b6_103, b6_105, b6_107, b6_110])
                          (with_reducible refine tree_skip_u (t := 113) rfl rfl (by with_unfolding_all rfl) ?_ ?_)
                          focus (simp (disch := (first | decide | ((try simp only [sz_put]); rw [hsz6]; decide))) only [ev_eq, ev_ne, b6_7, b6_8, b6_103, b6_105, b6_107, b6_110])
                          (with_reducible refine tree_skip_u (t := 113) rfl rfl (by with_unfolding_all rfl) ?_ ?_)
                          focus (simp (disch := (first | decide | ((try simp only [sz_put]); rw [hsz6]; decide))) only [ev_eq, ev_ne, b6_7, b6_8, b6_103, b6_105, b6_107, b6_110])
                          (with_reducible refine tree_skip_u (t := 113) rfl rfl (by with_unfolding_all rfl) ?_ ?_)
                          focus (simp (disch := (first | decide | ((try simp only [sz_put]); rw [hsz6]; decide))) only [ev_eq, ev_ne, b6_7, b6_8, b6_103, b6_105, b6_107, b6_110])
                          (with_reducible refine tree_from (fun fr7 hfr7 => ?_))
                          have b7_7 := congrArg (fun x => Act.eval x (.tmp 7)) hfr7; (simp (disch := (first | decide | ((try simp only [sz_put]); rw [hsz6]; decide))) only [ev_eq, ev_ne, b6_7, b6_8, b6_103, b6_105, b6_107, b6_110] at b7_7)
                          have b7_8 := congrArg (fun x => Act.eval x (.tmp 8)) hfr7; (simp (disch := (first | decide | ((try simp only [sz_put]); rw [hsz6]; decide))) only [ev_eq, ev_ne, b6_7, b6_8, b6_103, b6_105, b6_107, b6_110] at b7_8)
                          have b7_103 := congrArg (fun x => Act.eval x (.tmp 103)) hfr7; (simp (disch := (first | decide | ((try simp only [sz_put]); rw [hsz6]; decide))) only [ev_eq, ev_ne, b6_7, b6_8, b6_103, b6_105, b6_107, b6_110] at b7_103)
                          have b7_105 := congrArg (fun x => Act.eval x (.tmp 105)) hfr7; (simp (disch := (first | decide | ((try simp only [sz_put]); rw [hsz6]; decide))) only [ev_eq, ev_ne, b6_7, b6_8, b6_103, b6_105, b6_107, b6_110] at b7_105)
                          have b7_113 := congrArg (fun x => Act.eval x (.tmp 113)) hfr7; (simp (disch := (first | decide | ((try simp only [sz_put]); rw [hsz6]; decide))) only [ev_eq, ev_ne, b6_7, b6_8, b6_103, b6_105, b6_107, b6_110] at b7_113)
                          have b7_115 := congrArg (fun x => Act.eval x (.tmp 115)) hfr7; (simp (disch := (first | decide | ((try simp only [sz_put]); rw [hsz6]; decide))) only [ev_eq, ev_ne, b6_7, b6_8, b6_103, b6_105, b6_107, b6_110] at b7_115)
                          have b7_116 := congrArg (fun x => Act.eval x (.tmp 116)) hfr7; (simp (disch := (first | decide | ((try simp only [sz_put]); rw [hsz6]; decide))) only [ev_eq, ev_ne, b6_7, b6_8, b6_103, b6_105, b6_107, b6_110] at b7_116)
                          have hsz7 := congrArg (fun x => x.tmps.size) hfr7; (simp only [sz_put, hsz6] at hsz7)
                          clear b6_7 b6_8 b6_103 b6_105 b6_107 b6_110 hsz6
                          (with_reducible refine tree_skip_u (t := 113) rfl rfl (by with_unfolding_all rfl) ?_ ?_)
                          focus (simp (disch := (first | decide | ((try simp only [sz_put]); rw [hsz7]; decide))) only [ev_eq, ev_ne, b7_7, b7_8, b7_103, b7_105, b7_113, b7_115, b7_116])
                          (with_reducible refine tree_skip_u (t := 113) rfl rfl (by with_unfolding_all rfl) ?_ ?_)
                          focus (simp (disch := (first | decide | ((try simp only [sz_put]); rw [hsz7]; decide))) only [ev_eq, ev_ne, b7_7, b7_8, b7_103, b7_105, b7_113, b7_115, b7_116])
                          (with_reducible refine tree_skip_u (t := 113) rfl rfl (by with_unfolding_all rfl) ?_ ?_)
                          focus (simp (disch := (first | decide | ((try simp only [sz_put]); rw [hsz7]; decide))) only [ev_eq, ev_ne, b7_7, b7_8, b7_103, b7_105, b7_113, b7_115, b7_116])
                          (with_reducible refine tree_skip_u (t := 113) rfl rfl (by with_unfolding_all rfl) ?_ ?_)
                          focus (simp (disch := (first | decide | ((try simp only [sz_put]); rw [hsz7]; decide))) only [ev_eq, ev_ne, b7_7, b7_8, b7_103, b7_105, b7_113, b7_115, b7_116])
                          (with_reducible refine tree_skip_g (c := false) (t := 105) rfl rfl (by with_unfolding_all rfl) ?_ rfl ?_)
                          focus (simp (disch := (first | decide | ((try simp only [sz_put]); rw [hsz7]; decide))) only [ev_eq, ev_ne, b7_7, b7_8, b7_103, b7_105, b7_113, b7_115, b7_116])
                          (with_reducible refine tree_skip_g (c := false) (t := 105) rfl rfl (by with_unfolding_all rfl) ?_ rfl ?_)
                          focus (simp (disch := (first | decide | ((try simp only [sz_put]); rw [hsz7]; decide))) only [ev_eq, ev_ne, b7_7, b7_8, b7_103, b7_105, b7_113, b7_115, b7_116])
                          (with_reducible refine tree_from (fun fr8 hfr8 => ?_))
                          have b8_7 := congrArg (fun x => Act.eval x (.tmp 7)) hfr8; (simp (disch := (first | decide | ((try simp only [sz_put]); rw [hsz7]; decide))) only [ev_eq, ev_ne, b7_7, b7_8, b7_103, b7_105, b7_113, b7_115, b7_116] at b8_7)
                          have b8_8 := congrArg (fun x => Act.eval x (.tmp 8)) hfr8; (simp (disch := (first | decide | ((try simp only [sz_put]); rw [hsz7]; decide))) only [ev_eq, ev_ne, b7_7, b7_8, b7_103, b7_105, b7_113, b7_115, b7_116] at b8_8)
                          have b8_103 := congrArg (fun x => Act.eval x (.tmp 103)) hfr8; (simp (disch := (first | decide | ((try simp only [sz_put]); rw [hsz7]; decide))) only [ev_eq, ev_ne, b7_7, b7_8, b7_103, b7_105, b7_113, b7_115, b7_116] at b8_103)
                          have b8_105 := congrArg (fun x => Act.eval x (.tmp 105)) hfr8; (simp (disch := (first | decide | ((try simp only [sz_put]); rw [hsz7]; decide))) only [ev_eq, ev_ne, b7_7, b7_8, b7_103, b7_105, b7_113, b7_115, b7_116] at b8_105)
                          have b8_122 := congrArg (fun x => Act.eval x (.tmp 122)) hfr8; (simp (disch := (first | decide | ((try simp only [sz_put]); rw [hsz7]; decide))) only [ev_eq, ev_ne, b7_7, b7_8, b7_103, b7_105, b7_113, b7_115, b7_116] at b8_122)
                          have hsz8 := congrArg (fun x => x.tmps.size) hfr8; (simp only [sz_put, hsz7] at hsz8)
                          clear b7_7 b7_8 b7_103 b7_105 b7_113 b7_115 b7_116 hsz7
                          (with_reducible refine tree_skip_u (t := 122) rfl rfl (by with_unfolding_all rfl) ?_ ?_)
                          focus (simp (disch := (first | decide | ((try simp only [sz_put]); rw [hsz8]; decide))) only [ev_eq, ev_ne, b8_7, b8_8, b8_103, b8_105, b8_122])
                          (with_reducible refine tree_skip_u (t := 122) rfl rfl (by with_unfolding_all rfl) ?_ ?_)
                          focus (simp (disch := (first | decide | ((try simp only [sz_put]); rw [hsz8]; decide))) only [ev_eq, ev_ne, b8_7, b8_8, b8_103, b8_105, b8_122])
                          (with_reducible refine tree_skip_u (t := 122) rfl rfl (by with_unfolding_all rfl) ?_ ?_)
                          focus (simp (disch := (first | decide | ((try simp only [sz_put]); rw [hsz8]; decide))) only [ev_eq, ev_ne, b8_7, b8_8, b8_103, b8_105, b8_122])
                          (with_reducible refine tree_skip_u (t := 122) rfl rfl (by with_unfolding_all rfl) ?_ ?_)
                          focus (simp (disch := (first | decide | ((try simp only [sz_put]); rw [hsz8]; decide))) only [ev_eq, ev_ne, b8_7, b8_8, b8_103, b8_105, b8_122])
                          (with_reducible refine tree_skip_u (t := 122) rfl rfl (by with_unfolding_all rfl) ?_ ?_)
                          focus (simp (disch := (first | decide | ((try simp only [sz_put]); rw [hsz8]; decide))) only [ev_eq, ev_ne, b8_7, b8_8, b8_103, b8_105, b8_122])
                          (with_reducible refine tree_skip_u (t := 122) rfl rfl (by with_unfolding_all rfl) ?_ ?_)
                          focus (simp (disch := (first | decide | ((try simp only [sz_put]); rw [hsz8]; decide))) only [ev_eq, ev_ne, b8_7, b8_8, b8_103, b8_105, b8_122])
                          (with_reducible refine tree_from (fun fr9 hfr9 => ?_))
                          have b9_103 := congrArg (fun x => Act.eval x (.tmp 103)) hfr9; (simp (disch := (first | decide | ((try simp only [sz_put]); rw [hsz8]; decide))) only [ev_eq, ev_ne, b8_7, b8_8, b8_103, b8_105, b8_122] at b9_103)
                          have b9_105 := congrArg (fun x => Act.eval x (.tmp 105)) hfr9; (simp (disch := (first | decide | ((try simp only [sz_put]); rw [hsz8]; decide))) only [ev_eq, ev_ne, b8_7, b8_8, b8_103, b8_105, b8_122] at b9_105)
                          have b9_122 := congrArg (fun x => Act.eval x (.tmp 122)) hfr9; (simp (disch := (first | decide | ((try simp only [sz_put]); rw [hsz8]; decide))) only [ev_eq, ev_ne, b8_7, b8_8, b8_103, b8_105, b8_122] at b9_122)
                          have b9_124 := congrArg (fun x => Act.eval x (.tmp 124)) hfr9; (simp (disch := (first | decide | ((try simp only [sz_put]); rw [hsz8]; decide))) only [ev_eq, ev_ne, b8_7, b8_8, b8_103, b8_105, b8_122] at b9_124)
                          have b9_128 := congrArg (fun x => Act.eval x (.tmp 128)) hfr9; (simp (disch := (first | decide | ((try simp only [sz_put]); rw [hsz8]; decide))) only [ev_eq, ev_ne, b8_7, b8_8, b8_103, b8_105, b8_122] at b9_128)
                          have hsz9 := congrArg (fun x => x.tmps.size) hfr9; (simp only [sz_put, hsz8] at hsz9)
                          clear b8_7 b8_8 b8_103 b8_105 b8_122 hsz8
                          refine tree_done ?_
                          (simp only [List.drop_succ_cons, List.drop_zero])
                          (with_reducible refine list_off_u (t := 122) rfl rfl (by with_unfolding_all rfl) ?_ ?_)
                          focus (simp (disch := (first | decide | ((try simp only [sz_put]); rw [hsz9]; decide))) only [ev_eq, ev_ne, b9_103, b9_105, b9_122, b9_124, b9_128])
                          (with_reducible refine list_off_g (c := false) (t := 105) rfl rfl (by with_unfolding_all rfl) ?_ rfl ?_)
                          focus (simp (disch := (first | decide | ((try simp only [sz_put]); rw [hsz9]; decide))) only [ev_eq, ev_ne, b9_103, b9_105, b9_122, b9_124, b9_128])
                          (with_reducible refine list_held_g (v := ?_) (w' := ?_) (t := 103) rfl rfl (by with_unfolding_all rfl) ?_ (fun ρ hρ => ?_) ?_); (rotate_left 2)
                          focus (simp (disch := (first | decide | ((try simp only [sz_put]); rw [hsz9]; decide))) only [ev_eq, ev_ne, b9_103, b9_105, b9_122, b9_124, b9_128])
                          focus (have p105 := hρ (.tmp 105); (simp (disch := (first | decide | ((try simp only [sz_put]); rw [hsz9]; decide))) only [ev_eq, ev_ne, b9_103, b9_105, b9_122, b9_124, b9_128] at p105); have p130 := hρ (.tmp 130); (simp (disch := (first | decide | ((try simp only [sz_put]); rw [hsz9]; decide))) only [ev_eq, ev_ne, b9_103, b9_105, b9_122, b9_124, b9_128] at p130); have hc : ∀ c, ρ (.const c) = c := (fun c => hρ (.const c)); have hfn : ∀ f, ρ (.func f) = .func (.func f) #[] #[] := (fun f => hρ (.func f)); clear hρ; go_simp; (all_goals (first | (with_reducible rfl) | (constructor <;> with_reducible rfl))))
                          (with_reducible refine list_held (v := ?_) (w' := ?_) rfl (by with_unfolding_all rfl) (fun ρ hρ => ?_) ?_); (rotate_left 2)
                          focus (have p103 := hρ (.tmp 103); (simp (disch := (first | decide | ((try simp only [sz_put]); rw [hsz9]; decide))) only [ev_eq, ev_ne, b9_103, b9_105, b9_122, b9_124, b9_128] at p103); have p131 := hρ (.tmp 131); (simp (disch := (first | decide | ((try simp only [sz_put]); rw [hsz9]; decide))) only [ev_eq, ev_ne, b9_103, b9_105, b9_122, b9_124, b9_128] at p131); have hc : ∀ c, ρ (.const c) = c := (fun c => hρ (.const c)); have hfn : ∀ f, ρ (.func f) = .func (.func f) #[] #[] := (fun f => hρ (.func f)); clear hρ; go_simp; (all_goals (first | (with_reducible rfl) | (constructor <;> with_reducible rfl))))
                          refine wpList_nil ?_
                          subst hfr9 hfr8 hfr7 hfr6 hfr5 hfr4 hfr3 hfr2 hfr1 ha
                          (simp only [put_some, set_s, set_z])
                          go_wp2
                          go_meet
                          exact ⟨rfl, k5⟩
                        | true =>
                          have hem : T.isEmpty = false := by simpa using hOK.out.symm
                          obtain ⟨r, hr⟩ : ∃ r, T = ⟨pd, pn, pe⟩ :: r := by
                            rcases hP.out with ⟨h, _⟩ | h
                            · rw [h] at hem; cases hem
                            · exact h
                          obtain ⟨_, _, hel⟩ := probs_drop (HO7.out wc kx) hlenT
                          obtain ⟨g, hq7, hg, hcl⟩ := hel 0 ⟨pd, pn, pe⟩ (by rw [hr]; rfl)
                          subst hq7
                          have qlen : (0 : Int) < (T.length : Int) := by rw [hr]; simp only [List.length_cons]; omega
                          have qlen2 : 0 < T.length := by omega
                          have l0 := hcl 0 _ rfl
                          have l1 := hcl 1 _ rfl
                          have l2 := hcl 2 _ rfl
                          simp only [Nat.zero_mul, Nat.zero_add] at l0 l1 l2
                          rw [hem] at CVA
                          have KS := Lib.hid (fun W' (k : Bel wc W') => And.intro (k.some l0) (And.intro (k.some l1) (And.intro (k.some l2) (hKS W' k))))
                          clear hKS hem hr hel hcl l0 l1 l2
                          refine region_treeA (fun W => Bel wc W) (.take 0 (.take 1 (.take 2 (.take 3 (.take 4 (.take 5 (.take 6 (.take 7 (.take 8 (.take 9 (.take 10 (.take 11 (.take 12 (.take 13 (.take 14 (.take 16 (.alt 15 (.take 17 (.take 18 (.take 19 (.take 20 (.take 21 (.take 22 (.take 23 (.take 24 (.take 25 (.take 26 (.take 27 (.take 28 (.take 29 (.take 30 (.take 31 (.take 32 (.take 33 (.take 34 (.take 35 (.take 36 (.take 37 (.take 38 (.take 39 (.take 40 (.take 41 (.take 42 (.take 43 (.take 44 (.take 45 (.take 46 (.take 47 (.take 48 (.take 49 (.take 50 (.take 51 (.take 52 (.take 53 .done))))))))))))))))))))))))))))))))))))) .no))))))))))))))))) 54 (by kernel_rfl) (by kernel_rfl) HWD.out kd (fun a ha => ?_)
                          (simp only [pickT, List.getD_cons_zero, List.getD_cons_succ])
                          have hsz : a.tmps.size = 160 := (by rw [ha]; kernel_rfl)
                          have a1 : a.eval (.tmp 1) = .pointer (some ⟨w.heap.size, 0, none⟩) := (by rw [ha]; kernel_rfl)
                          have a7 : a.eval (.tmp 7) = .slice (some ⟨g, 0, none⟩) T.length c7 := (by rw [ha]; kernel_rfl)
                          have a8 : a.eval (.tmp 8) = .pointer (some ⟨pb, 0, none⟩) := (by rw [ha]; kernel_rfl)
                          have a9 : a.eval (.tmp 9) = .bool true := (by rw [ha]; kernel_rfl)
                          have a10 : a.eval (.tmp 10) = .int .i64 H.length := (by rw [ha]; kernel_rfl)
                          (with_reducible refine tree_held (v := ?_) rfl (by with_unfolding_all rfl) (fun ρ hρ W hW => ?_) ?_); (rotate_left 1)
                          focus (clear hW; have p10 := hρ (.tmp 10); (simp (disch := (first | decide | ((try simp only [sz_put]); rw [hsz]; decide))) only [ev_eq, ev_ne, a1, a7, a8, a9, a10] at p10); have hc : ∀ c, ρ (.const c) = c := (fun c => hρ (.const c)); have hfn : ∀ f, ρ (.func f) = .func (.func f) #[] #[] := (fun f => hρ (.func f)); clear hρ; go_simp; (all_goals (first | (with_reducible rfl) | (constructor <;> with_reducible rfl))))
                          (with_reducible refine tree_held (v := .bool false) rfl (by with_unfolding_all rfl) (fun ρ hρ W hW => ?_) ?_); skip
                          focus (clear hW; have p75 := hρ (.tmp 75); (simp (disch := (first | decide | ((try simp only [sz_put]); rw [hsz]; decide))) only [ev_eq, ev_ne, a1, a7, a8, a9, a10] at p75); have hc : ∀ c, ρ (.const c) = c := (fun c => hρ (.const c)); have hfn : ∀ f, ρ (.func f) = .func (.func f) #[] #[] := (fun f => hρ (.func f)); clear hρ; go_simp; (first | done | (all_goals (first | (with_reducible rfl) | (constructor <;> with_reducible rfl))) | (simp only [qn0, qn7, qlen2, decide_true, decide_false, bne_self_eq_false]; done) | (simp [qn0, qn7, qlen2, decide_true, decide_false, bne_self_eq_false]; done) | ((try simp only [qn0, qn7, qlen2, decide_true, decide_false, bne_self_eq_false]); done)))
                          (with_reducible refine tree_held (v := .bool false) rfl (by with_unfolding_all rfl) (fun ρ hρ W hW => ?_) ?_); skip
                          focus (clear hW; have p76 := hρ (.tmp 76); (simp (disch := (first | decide | ((try simp only [sz_put]); rw [hsz]; decide))) only [ev_eq, ev_ne, a1, a7, a8, a9, a10] at p76); have hc : ∀ c, ρ (.const c) = c := (fun c => hρ (.const c)); have hfn : ∀ f, ρ (.func f) = .func (.func f) #[] #[] := (fun f => hρ (.func f)); clear hρ; go_simp; (first | done | (all_goals (first | (with_reducible rfl) | (constructor <;> with_reducible rfl))) | (simp only [qn0, qn7, qlen2, decide_true, decide_false, bne_self_eq_false]; done) | (simp [qn0, qn7, qlen2, decide_true, decide_false, bne_self_eq_false]; done) | ((try simp only [qn0, qn7, qlen2, decide_true, decide_false, bne_self_eq_false]); done)))
                          (with_reducible refine tree_held_g (v := ?_) (t := 77) rfl rfl (by with_unfolding_all rfl) ?_ (fun ρ hρ W hW => ?_) ?_); (rotate_left 1)
                          focus (simp (disch := (first | decide | ((try simp only [sz_put]); rw [hsz]; decide))) only [ev_eq, ev_ne, a1, a7, a8, a9, a10])
                          focus (clear hW; have p10 := hρ (.tmp 10); (simp (disch := (first | decide | ((try simp only [sz_put]); rw [hsz]; decide))) only [ev_eq, ev_ne, a1, a7, a8, a9, a10] at p10); have hc : ∀ c, ρ (.const c) = c := (fun c => hρ (.const c)); have hfn : ∀ f, ρ (.func f) = .func (.func f) #[] #[] := (fun f => hρ (.func f)); clear hρ; go_simp; (all_goals (first | (with_reducible rfl) | (constructor <;> with_reducible rfl))))
                          (with_reducible refine tree_held_g (v := .bool false) (t := 77) rfl rfl (by with_unfolding_all rfl) ?_ (fun ρ hρ W hW => ?_) ?_); skip
                          focus (simp (disch := (first | decide | ((try simp only [sz_put]); rw [hsz]; decide))) only [ev_eq, ev_ne, a1, a7, a8, a9, a10])
                          focus (clear hW; have p78 := hρ (.tmp 78); (simp (disch := (first | decide | ((try simp only [sz_put]); rw [hsz]; decide))) only [ev_eq, ev_ne, a1, a7, a8, a9, a10] at p78); have hc : ∀ c, ρ (.const c) = c := (fun c => hρ (.const c)); have hfn : ∀ f, ρ (.func f) = .func (.func f) #[] #[] := (fun f => hρ (.func f)); clear hρ; go_simp; (first | done | (all_goals (first | (with_reducible rfl) | (constructor <;> with_reducible rfl))) | (simp only [qn0, qn7, qlen2, decide_true, decide_false, bne_self_eq_false]; done) | (simp [qn0, qn7, qlen2, decide_true, decide_false, bne_self_eq_false]; done) | ((try simp only [qn0, qn7, qlen2, decide_true, decide_false, bne_self_eq_false]); done)))
                          (with_reducible refine tree_held (v := ?_) rfl (by with_unfolding_all rfl) (fun ρ hρ W hW => ?_) ?_); (rotate_left 1)
                          focus (clear hW; have p77 := hρ (.tmp 77); (simp (disch := (first | decide | ((try simp only [sz_put]); rw [hsz]; decide))) only [ev_eq, ev_ne, a1, a7, a8, a9, a10] at p77); have p79 := hρ (.tmp 79); (simp (disch := (first | decide | ((try simp only [sz_put]); rw [hsz]; decide))) only [ev_eq, ev_ne, a1, a7, a8, a9, a10] at p79); have hc : ∀ c, ρ (.const c) = c := (fun c => hρ (.const c)); have hfn : ∀ f, ρ (.func f) = .func (.func f) #[] #[] := (fun f => hρ (.func f)); clear hρ; go_simp; (all_goals (first | (with_reducible rfl) | (constructor <;> with_reducible rfl))))
                          (with_reducible refine tree_from (fun fr1 hfr1 => ?_))
                          have b1_1 := congrArg (fun x => Act.eval x (.tmp 1)) hfr1; (simp (disch := (first | decide | ((try simp only [sz_put]); rw [hsz]; decide))) only [ev_eq, ev_ne, a1, a7, a8, a9, a10] at b1_1)
                          have b1_7 := congrArg (fun x => Act.eval x (.tmp 7)) hfr1; (simp (disch := (first | decide | ((try simp only [sz_put]); rw [hsz]; decide))) only [ev_eq, ev_ne, a1, a7, a8, a9, a10] at b1_7)
                          have b1_8 := congrArg (fun x => Act.eval x (.tmp 8)) hfr1; (simp (disch := (first | decide | ((try simp only [sz_put]); rw [hsz]; decide))) only [ev_eq, ev_ne, a1, a7, a8, a9, a10] at b1_8)
                          have b1_9 := congrArg (fun x => Act.eval x (.tmp 9)) hfr1; (simp (disch := (first | decide | ((try simp only [sz_put]); rw [hsz]; decide))) only [ev_eq, ev_ne, a1, a7, a8, a9, a10] at b1_9)
                          have b1_80 := congrArg (fun x => Act.eval x (.tmp 80)) hfr1; (simp (disch := (first | decide | ((try simp only [sz_put]); rw [hsz]; decide))) only [ev_eq, ev_ne, a1, a7, a8, a9, a10] at b1_80)
                          have hsz1 := congrArg (fun x => x.tmps.size) hfr1; (simp only [sz_put, hsz] at hsz1)
                          clear a1 a7 a8 a9 a10 hsz
                          (with_reducible refine tree_held (v := .bool false) rfl (by with_unfolding_all rfl) (fun ρ hρ W hW => ?_) ?_); skip
                          focus (clear hW; have p80 := hρ (.tmp 80); (simp (disch := (first | decide | ((try simp only [sz_put]); rw [hsz1]; decide))) only [ev_eq, ev_ne, b1_1, b1_7, b1_8, b1_9, b1_80] at p80); have hc : ∀ c, ρ (.const c) = c := (fun c => hρ (.const c)); have hfn : ∀ f, ρ (.func f) = .func (.func f) #[] #[] := (fun f => hρ (.func f)); clear hρ; go_simp; (first | done | (all_goals (first | (with_reducible rfl) | (constructor <;> with_reducible rfl))) | (simp only [qn0, qn7, qlen2, decide_true, decide_false, bne_self_eq_false]; done) | (simp [qn0, qn7, qlen2, decide_true, decide_false, bne_self_eq_false]; done) | ((try simp only [qn0, qn7, qlen2, decide_true, decide_false, bne_self_eq_false]); done)))
                          (with_reducible refine tree_held_g (v := ?_) (t := 81) rfl rfl (by with_unfolding_all rfl) ?_ (fun ρ hρ W hW => ?_) ?_); (rotate_left 1)
                          focus (simp (disch := (first | decide | ((try simp only [sz_put]); rw [hsz1]; decide))) only [ev_eq, ev_ne, b1_1, b1_7, b1_8, b1_9, b1_80])
                          focus (clear hW; have p9 := hρ (.tmp 9); (simp (disch := (first | decide | ((try simp only [sz_put]); rw [hsz1]; decide))) only [ev_eq, ev_ne, b1_1, b1_7, b1_8, b1_9, b1_80] at p9); have hc : ∀ c, ρ (.const c) = c := (fun c => hρ (.const c)); have hfn : ∀ f, ρ (.func f) = .func (.func f) #[] #[] := (fun f => hρ (.func f)); clear hρ; go_simp; (all_goals (first | (with_reducible rfl) | (constructor <;> with_reducible rfl))))
                          (with_reducible refine tree_held_g (v := ?_) (t := 81) rfl rfl (by with_unfolding_all rfl) ?_ (fun ρ hρ W hW => ?_) ?_); (rotate_left 1)
                          focus (simp (disch := (first | decide | ((try simp only [sz_put]); rw [hsz1]; decide))) only [ev_eq, ev_ne, b1_1, b1_7, b1_8, b1_9, b1_80])
                          focus (clear hW; have p7 := hρ (.tmp 7); (simp (disch := (first | decide | ((try simp only [sz_put]); rw [hsz1]; decide))) only [ev_eq, ev_ne, b1_1, b1_7, b1_8, b1_9, b1_80] at p7); have hc : ∀ c, ρ (.const c) = c := (fun c => hρ (.const c)); have hfn : ∀ f, ρ (.func f) = .func (.func f) #[] #[] := (fun f => hρ (.func f)); clear hρ; go_simp; (all_goals (first | (with_reducible rfl) | (constructor <;> with_reducible rfl))))
                          (with_reducible refine tree_held_g (v := ?_) (t := 81) rfl rfl (by with_unfolding_all rfl) ?_ (fun ρ hρ W hW => ?_) ?_); (rotate_left 1)
                          focus (simp (disch := (first | decide | ((try simp only [sz_put]); rw [hsz1]; decide))) only [ev_eq, ev_ne, b1_1, b1_7, b1_8, b1_9, b1_80])
                          focus (clear hW; have p83 := hρ (.tmp 83); (simp (disch := (first | decide | ((try simp only [sz_put]); rw [hsz1]; decide))) only [ev_eq, ev_ne, b1_1, b1_7, b1_8, b1_9, b1_80] at p83); have hc : ∀ c, ρ (.const c) = c := (fun c => hρ (.const c)); have hfn : ∀ f, ρ (.func f) = .func (.func f) #[] #[] := (fun f => hρ (.func f)); clear hρ; go_simp; (all_goals (first | (with_reducible rfl) | (constructor <;> with_reducible rfl))))
                          (with_reducible refine tree_held_g (v := .bool true) (t := 81) rfl rfl (by with_unfolding_all rfl) ?_ (fun ρ hρ W hW => ?_) ?_); skip
                          focus (simp (disch := (first | decide | ((try simp only [sz_put]); rw [hsz1]; decide))) only [ev_eq, ev_ne, b1_1, b1_7, b1_8, b1_9, b1_80])
                          focus (clear hW; have p84 := hρ (.tmp 84); (simp (disch := (first | decide | ((try simp only [sz_put]); rw [hsz1]; decide))) only [ev_eq, ev_ne, b1_1, b1_7, b1_8, b1_9, b1_80] at p84); have hc : ∀ c, ρ (.const c) = c := (fun c => hρ (.const c)); have hfn : ∀ f, ρ (.func f) = .func (.func f) #[] #[] := (fun f => hρ (.func f)); clear hρ; go_simp; (first | done | (all_goals (first | (with_reducible rfl) | (constructor <;> with_reducible rfl))) | (simp only [qn0, qn7, qlen2, decide_true, decide_false, bne_self_eq_false]; done) | (simp [qn0, qn7, qlen2, decide_true, decide_false, bne_self_eq_false]; done) | ((try simp only [qn0, qn7, qlen2, decide_true, decide_false, bne_self_eq_false]); done)))
                          (with_reducible refine tree_held_g (v := .bool false) (t := 81) rfl rfl (by with_unfolding_all rfl) ?_ (fun ρ hρ W hW => ?_) ?_); skip
                          focus (simp (disch := (first | decide | ((try simp only [sz_put]); rw [hsz1]; decide))) only [ev_eq, ev_ne, b1_1, b1_7, b1_8, b1_9, b1_80])
                          focus (clear hW; have p82 := hρ (.tmp 82); (simp (disch := (first | decide | ((try simp only [sz_put]); rw [hsz1]; decide))) only [ev_eq, ev_ne, b1_1, b1_7, b1_8, b1_9, b1_80] at p82); have p85 := hρ (.tmp 85); (simp (disch := (first | decide | ((try simp only [sz_put]); rw [hsz1]; decide))) only [ev_eq, ev_ne, b1_1, b1_7, b1_8, b1_9, b1_80] at p85); have hc : ∀ c, ρ (.const c) = c := (fun c => hρ (.const c)); have hfn : ∀ f, ρ (.func f) = .func (.func f) #[] #[] := (fun f => hρ (.func f)); clear hρ; go_simp; (first | done | (all_goals (first | (with_reducible rfl) | (constructor <;> with_reducible rfl))) | (simp only [qn0, qn7, qlen2, decide_true, decide_false, bne_self_eq_false]; done) | (simp [qn0, qn7, qlen2, decide_true, decide_false, bne_self_eq_false]; done) | ((try simp only [qn0, qn7, qlen2, decide_true, decide_false, bne_self_eq_false]); done)))
                          (with_reducible refine tree_from (fun fr2 hfr2 => ?_))
                          have b2_1 := congrArg (fun x => Act.eval x (.tmp 1)) hfr2; (simp (disch := (first | decide | ((try simp only [sz_put]); rw [hsz1]; decide))) only [ev_eq, ev_ne, b1_1, b1_7, b1_8, b1_9, b1_80] at b2_1)
                          have b2_7 := congrArg (fun x => Act.eval x (.tmp 7)) hfr2; (simp (disch := (first | decide | ((try simp only [sz_put]); rw [hsz1]; decide))) only [ev_eq, ev_ne, b1_1, b1_7, b1_8, b1_9, b1_80] at b2_7)
                          have b2_8 := congrArg (fun x => Act.eval x (.tmp 8)) hfr2; (simp (disch := (first | decide | ((try simp only [sz_put]); rw [hsz1]; decide))) only [ev_eq, ev_ne, b1_1, b1_7, b1_8, b1_9, b1_80] at b2_8)
                          have b2_9 := congrArg (fun x => Act.eval x (.tmp 9)) hfr2; (simp (disch := (first | decide | ((try simp only [sz_put]); rw [hsz1]; decide))) only [ev_eq, ev_ne, b1_1, b1_7, b1_8, b1_9, b1_80] at b2_9)
                          have b2_81 := congrArg (fun x => Act.eval x (.tmp 81)) hfr2; (simp (disch := (first | decide | ((try simp only [sz_put]); rw [hsz1]; decide))) only [ev_eq, ev_ne, b1_1, b1_7, b1_8, b1_9, b1_80] at b2_81)
                          have b2_86 := congrArg (fun x => Act.eval x (.tmp 86)) hfr2; (simp (disch := (first | decide | ((try simp only [sz_put]); rw [hsz1]; decide))) only [ev_eq, ev_ne, b1_1, b1_7, b1_8, b1_9, b1_80] at b2_86)
                          have hsz2 := congrArg (fun x => x.tmps.size) hfr2; (simp only [sz_put, hsz1] at hsz2)
                          clear b1_1 b1_7 b1_8 b1_9 b1_80 hsz1
                          (with_reducible refine tree_held (v := ?_) rfl (by with_unfolding_all rfl) (fun ρ hρ W hW => ?_) ?_); (rotate_left 1)
                          focus (clear hW; have p81 := hρ (.tmp 81); (simp (disch := (first | decide | ((try simp only [sz_put]); rw [hsz2]; decide))) only [ev_eq, ev_ne, b2_1, b2_7, b2_8, b2_9, b2_81, b2_86] at p81); have p86 := hρ (.tmp 86); (simp (disch := (first | decide | ((try simp only [sz_put]); rw [hsz2]; decide))) only [ev_eq, ev_ne, b2_1, b2_7, b2_8, b2_9, b2_81, b2_86] at p86); have hc : ∀ c, ρ (.const c) = c := (fun c => hρ (.const c)); have hfn : ∀ f, ρ (.func f) = .func (.func f) #[] #[] := (fun f => hρ (.func f)); clear hρ; go_simp; (all_goals (first | (with_reducible rfl) | (constructor <;> with_reducible rfl))))
                          (with_reducible refine tree_held (v := .bool false) rfl (by with_unfolding_all rfl) (fun ρ hρ W hW => ?_) ?_); skip
                          focus (clear hW; have p87 := hρ (.tmp 87); (simp (disch := (first | decide | ((try simp only [sz_put]); rw [hsz2]; decide))) only [ev_eq, ev_ne, b2_1, b2_7, b2_8, b2_9, b2_81, b2_86] at p87); have hc : ∀ c, ρ (.const c) = c := (fun c => hρ (.const c)); have hfn : ∀ f, ρ (.func f) = .func (.func f) #[] #[] := (fun f => hρ (.func f)); clear hρ; go_simp; (first | done | (all_goals (first | (with_reducible rfl) | (constructor <;> with_reducible rfl))) | (simp only [qn0, qn7, qlen2, decide_true, decide_false, bne_self_eq_false]; done) | (simp [qn0, qn7, qlen2, decide_true, decide_false, bne_self_eq_false]; done) | ((try simp only [qn0, qn7, qlen2, decide_true, decide_false, bne_self_eq_false]); done)))
                          (with_reducible refine tree_held_g (v := ?_) (t := 88) rfl rfl (by with_unfolding_all rfl) ?_ (fun ρ hρ W hW => ?_) ?_); (rotate_left 1)
                          focus (simp (disch := (first | decide | ((try simp only [sz_put]); rw [hsz2]; decide))) only [ev_eq, ev_ne, b2_1, b2_7, b2_8, b2_9, b2_81, b2_86])
                          focus (have hS := KS.out _ hW; clear hW; have p1 := hρ (.tmp 1); (simp (disch := (first | decide | ((try simp only [sz_put]); rw [hsz2]; decide))) only [ev_eq, ev_ne, b2_1, b2_7, b2_8, b2_9, b2_81, b2_86] at p1); have hc : ∀ c, ρ (.const c) = c := (fun c => hρ (.const c)); have hfn : ∀ f, ρ (.func f) = .func (.func f) #[] #[] := (fun f => hρ (.func f)); clear hρ; go_simp; (all_goals (first | (with_reducible rfl) | (constructor <;> with_reducible rfl))))
                          (with_reducible refine tree_held_g (v := ?_) (t := 88) rfl rfl (by with_unfolding_all rfl) ?_ (fun ρ hρ W hW => ?_) ?_); (rotate_left 1)
                          focus (simp (disch := (first | decide | ((try simp only [sz_put]); rw [hsz2]; decide))) only [ev_eq, ev_ne, b2_1, b2_7, b2_8, b2_9, b2_81, b2_86])
                          focus (clear hW; have p9 := hρ (.tmp 9); (simp (disch := (first | decide | ((try simp only [sz_put]); rw [hsz2]; decide))) only [ev_eq, ev_ne, b2_1, b2_7, b2_8, b2_9, b2_81, b2_86] at p9); have hc : ∀ c, ρ (.const c) = c := (fun c => hρ (.const c)); have hfn : ∀ f, ρ (.func f) = .func (.func f) #[] #[] := (fun f => hρ (.func f)); clear hρ; go_simp; (all_goals (first | (with_reducible rfl) | (constructor <;> with_reducible rfl))))
                          (with_reducible refine tree_enter_g (f := ?_) (args := ?_) (t := 88) rfl rfl (by with_unfolding_all rfl) ?_ (fun ρ hρ => ?_) ?_ ?_); (rotate_left 2)
                          focus (simp (disch := (first | decide | ((try simp only [sz_put]); rw [hsz2]; decide))) only [ev_eq, ev_ne, b2_1, b2_7, b2_8, b2_9, b2_81, b2_86])
                          focus (have p89 := hρ (.tmp 89); (simp (disch := (first | decide | ((try simp only [sz_put]); rw [hsz2]; decide))) only [ev_eq, ev_ne, b2_1, b2_7, b2_8, b2_9, b2_81, b2_86] at p89); have hc : ∀ c, ρ (.const c) = c := (fun c => hρ (.const c)); have hfn : ∀ f, ρ (.func f) = .func (.func f) #[] #[] := (fun f => hρ (.func f)); clear hρ; rw [execOp_call_rho (hfn _)]; clear hfn; go_simp; (all_goals (first | (with_reducible rfl) | (constructor <;> with_reducible rfl))))
                          (with_reducible refine (CVA.out _ (Bel.of kw0 kd.out)).mono ?_)
                          rintro e w5 ⟨rfl, g5⟩
                          have k5 : Bel wc w5 := Bel.of kd g5
                          clear g5
                          refine ⟨_, rfl, k5, ?_⟩
                          rotate_left 1
                          focus exact tree_no
                          (with_reducible refine tree_held_g (v := .bool false) (t := 88) rfl rfl (by with_unfolding_all rfl) ?_ (fun ρ hρ W hW => ?_) ?_); skip
                          focus (simp (disch := (first | decide | ((try simp only [sz_put]); rw [hsz2]; decide))) only [ev_eq, ev_ne, b2_1, b2_7, b2_8, b2_9, b2_81, b2_86])
                          focus (clear hW; have p90 := hρ (.tmp 90); (simp (disch := (first | decide | ((try simp only [sz_put]); rw [hsz2]; decide))) only [ev_eq, ev_ne, b2_1, b2_7, b2_8, b2_9, b2_81, b2_86] at p90); have p91 := hρ (.tmp 91); (simp (disch := (first | decide | ((try simp only [sz_put]); rw [hsz2]; decide))) only [ev_eq, ev_ne, b2_1, b2_7, b2_8, b2_9, b2_81, b2_86] at p91); have hc : ∀ c, ρ (.const c) = c := (fun c => hρ (.const c)); have hfn : ∀ f, ρ (.func f) = .func (.func f) #[] #[] := (fun f => hρ (.func f)); clear hρ; go_simp; (first | done | (all_goals (first | (with_reducible rfl) | (constructor <;> with_reducible rfl))) | (simp only [qn0, qn7, qlen2, decide_true, decide_false, bne_self_eq_false]; done) | (simp [qn0, qn7, qlen2, decide_true, decide_false, bne_self_eq_false]; done) | ((try simp only [qn0, qn7, qlen2, decide_true, decide_false, bne_self_eq_false]); done)))
                          (with_reducible refine tree_from (fun fr3 hfr3 => ?_))
                          have b3_7 := congrArg (fun x => Act.eval x (.tmp 7)) hfr3; (simp (disch := (first | decide | ((try simp only [sz_put]); rw [hsz2]; decide))) only [ev_eq, ev_ne, b2_1, b2_7, b2_8, b2_9, b2_81, b2_86] at b3_7)
                          have b3_8 := congrArg (fun x => Act.eval x (.tmp 8)) hfr3; (simp (disch := (first | decide | ((try simp only [sz_put]); rw [hsz2]; decide))) only [ev_eq, ev_ne, b2_1, b2_7, b2_8, b2_9, b2_81, b2_86] at b3_8)
                          have b3_9 := congrArg (fun x => Act.eval x (.tmp 9)) hfr3; (simp (disch := (first | decide | ((try simp only [sz_put]); rw [hsz2]; decide))) only [ev_eq, ev_ne, b2_1, b2_7, b2_8, b2_9, b2_81, b2_86] at b3_9)
                          have b3_88 := congrArg (fun x => Act.eval x (.tmp 88)) hfr3; (simp (disch := (first | decide | ((try simp only [sz_put]); rw [hsz2]; decide))) only [ev_eq, ev_ne, b2_1, b2_7, b2_8, b2_9, b2_81, b2_86] at b3_88)
                          have b3_92 := congrArg (fun x => Act.eval x (.tmp 92)) hfr3; (simp (disch := (first | decide | ((try simp only [sz_put]); rw [hsz2]; decide))) only [ev_eq, ev_ne, b2_1, b2_7, b2_8, b2_9, b2_81, b2_86] at b3_92)
                          have hsz3 := congrArg (fun x => x.tmps.size) hfr3; (simp only [sz_put, hsz2] at hsz3)
                          clear b2_1 b2_7 b2_8 b2_9 b2_81 b2_86 hsz2
                          (with_reducible refine tree_held (v := ?_) rfl (by with_unfolding_all rfl) (fun ρ hρ W hW => ?_) ?_); (rotate_left 1)
                          focus (clear hW; have p88 := hρ (.tmp 88); (simp (disch := (first | decide | ((try simp only [sz_put]); rw [hsz3]; decide))) only [ev_eq, ev_ne, b3_7, b3_8, b3_9, b3_88, b3_92] at p88); have p92 := hρ (.tmp 92); (simp (disch := (first | decide | ((try simp only [sz_put]); rw [hsz3]; decide))) only [ev_eq, ev_ne, b3_7, b3_8, b3_9, b3_88, b3_92] at p92); have hc : ∀ c, ρ (.const c) = c := (fun c => hρ (.const c)); have hfn : ∀ f, ρ (.func f) = .func (.func f) #[] #[] := (fun f => hρ (.func f)); clear hρ; go_simp; (all_goals (first | (with_reducible rfl) | (constructor <;> with_reducible rfl))))
                          (with_reducible refine tree_held (v := .bool false) rfl (by with_unfolding_all rfl) (fun ρ hρ W hW => ?_) ?_); skip
                          focus (clear hW; have p93 := hρ (.tmp 93); (simp (disch := (first | decide | ((try simp only [sz_put]); rw [hsz3]; decide))) only [ev_eq, ev_ne, b3_7, b3_8, b3_9, b3_88, b3_92] at p93); have hc : ∀ c, ρ (.const c) = c := (fun c => hρ (.const c)); have hfn : ∀ f, ρ (.func f) = .func (.func f) #[] #[] := (fun f => hρ (.func f)); clear hρ; go_simp; (first | done | (all_goals (first | (with_reducible rfl) | (constructor <;> with_reducible rfl))) | (simp only [qn0, qn7, qlen2, decide_true, decide_false, bne_self_eq_false]; done) | (simp [qn0, qn7, qlen2, decide_true, decide_false, bne_self_eq_false]; done) | ((try simp only [qn0, qn7, qlen2, decide_true, decide_false, bne_self_eq_false]); done)))
                          (with_reducible refine tree_held_g (v := ?_) (t := 94) rfl rfl (by with_unfolding_all rfl) ?_ (fun ρ hρ W hW => ?_) ?_); (rotate_left 1)
                          focus (simp (disch := (first | decide | ((try simp only [sz_put]); rw [hsz3]; decide))) only [ev_eq, ev_ne, b3_7, b3_8, b3_9, b3_88, b3_92])
                          focus (clear hW; have p9 := hρ (.tmp 9); (simp (disch := (first | decide | ((try simp only [sz_put]); rw [hsz3]; decide))) only [ev_eq, ev_ne, b3_7, b3_8, b3_9, b3_88, b3_92] at p9); have hc : ∀ c, ρ (.const c) = c := (fun c => hρ (.const c)); have hfn : ∀ f, ρ (.func f) = .func (.func f) #[] #[] := (fun f => hρ (.func f)); clear hρ; go_simp; (all_goals (first | (with_reducible rfl) | (constructor <;> with_reducible rfl))))
                          (with_reducible refine tree_held_g (v := ?_) (t := 94) rfl rfl (by with_unfolding_all rfl) ?_ (fun ρ hρ W hW => ?_) ?_); (rotate_left 1)
                          focus (simp (disch := (first | decide | ((try simp only [sz_put]); rw [hsz3]; decide))) only [ev_eq, ev_ne, b3_7, b3_8, b3_9, b3_88, b3_92])
                          focus (clear hW; have p95 := hρ (.tmp 95); (simp (disch := (first | decide | ((try simp only [sz_put]); rw [hsz3]; decide))) only [ev_eq, ev_ne, b3_7, b3_8, b3_9, b3_88, b3_92] at p95); have hc : ∀ c, ρ (.const c) = c := (fun c => hρ (.const c)); have hfn : ∀ f, ρ (.func f) = .func (.func f) #[] #[] := (fun f => hρ (.func f)); clear hρ; go_simp; (all_goals (first | (with_reducible rfl) | (constructor <;> with_reducible rfl))))
                          (with_reducible refine tree_held_g (v := .bool false) (t := 94) rfl rfl (by with_unfolding_all rfl) ?_ (fun ρ hρ W hW => ?_) ?_); skip
                          focus (simp (disch := (first | decide | ((try simp only [sz_put]); rw [hsz3]; decide))) only [ev_eq, ev_ne, b3_7, b3_8, b3_9, b3_88, b3_92])
                          focus (clear hW; have p96 := hρ (.tmp 96); (simp (disch := (first | decide | ((try simp only [sz_put]); rw [hsz3]; decide))) only [ev_eq, ev_ne, b3_7, b3_8, b3_9, b3_88, b3_92] at p96); have hc : ∀ c, ρ (.const c) = c := (fun c => hρ (.const c)); have hfn : ∀ f, ρ (.func f) = .func (.func f) #[] #[] := (fun f => hρ (.func f)); clear hρ; go_simp; (first | done | (all_goals (first | (with_reducible rfl) | (constructor <;> with_reducible rfl))) | (simp only [qn0, qn7, qlen2, decide_true, decide_false, bne_self_eq_false]; done) | (simp [qn0, qn7, qlen2, decide_true, decide_false, bne_self_eq_false]; done) | ((try simp only [qn0, qn7, qlen2, decide_true, decide_false, bne_self_eq_false]); done)))
                          (with_reducible refine tree_skip_g (c := false) (t := 97) rfl rfl (by with_unfolding_all rfl) ?_ rfl ?_)
                          focus (simp (disch := (first | decide | ((try simp only [sz_put]); rw [hsz3]; decide))) only [ev_eq, ev_ne, b3_7, b3_8, b3_9, b3_88, b3_92])
                          (with_reducible refine tree_from (fun fr4 hfr4 => ?_))
                          have b4_7 := congrArg (fun x => Act.eval x (.tmp 7)) hfr4; (simp (disch := (first | decide | ((try simp only [sz_put]); rw [hsz3]; decide))) only [ev_eq, ev_ne, b3_7, b3_8, b3_9, b3_88, b3_92] at b4_7)
                          have b4_8 := congrArg (fun x => Act.eval x (.tmp 8)) hfr4; (simp (disch := (first | decide | ((try simp only [sz_put]); rw [hsz3]; decide))) only [ev_eq, ev_ne, b3_7, b3_8, b3_9, b3_88, b3_92] at b4_8)
                          have b4_9 := congrArg (fun x => Act.eval x (.tmp 9)) hfr4; (simp (disch := (first | decide | ((try simp only [sz_put]); rw [hsz3]; decide))) only [ev_eq, ev_ne, b3_7, b3_8, b3_9, b3_88, b3_92] at b4_9)
                          have b4_94 := congrArg (fun x => Act.eval x (.tmp 94)) hfr4; (simp (disch := (first | decide | ((try simp only [sz_put]); rw [hsz3]; decide))) only [ev_eq, ev_ne, b3_7, b3_8, b3_9, b3_88, b3_92] at b4_94)
                          have b4_97 := congrArg (fun x => Act.eval x (.tmp 97)) hfr4; (simp (disch := (first | decide | ((try simp only [sz_put]); rw [hsz3]; decide))) only [ev_eq, ev_ne, b3_7, b3_8, b3_9, b3_88, b3_92] at b4_97)
                          have b4_98 := congrArg (fun x => Act.eval x (.tmp 98)) hfr4; (simp (disch := (first | decide | ((try simp only [sz_put]); rw [hsz3]; decide))) only [ev_eq, ev_ne, b3_7, b3_8, b3_9, b3_88, b3_92] at b4_98)
                          have hsz4 := congrArg (fun x => x.tmps.size) hfr4; (simp only [sz_put, hsz3] at hsz4)
                          clear b3_7 b3_8 b3_9 b3_88 b3_92 hsz3
                          (with_reducible refine tree_skip_g (c := false) (t := 97) rfl rfl (by with_unfolding_all rfl) ?_ rfl ?_)
                          focus (simp (disch := (first | decide | ((try simp only [sz_put]); rw [hsz4]; decide))) only [ev_eq, ev_ne, b4_7, b4_8, b4_9, b4_94, b4_97, b4_98])
                          (with_reducible refine tree_skip_g (c := false) (t := 97) rfl rfl (by with_unfolding_all rfl) ?_ rfl ?_)
                          focus (simp (disch := (first | decide | ((try simp only [sz_put]); rw [hsz4]; decide))) only [ev_eq, ev_ne, b4_7, b4_8, b4_9, b4_94, b4_97, b4_98])
                          (with_reducible refine tree_held_g (v := ?_) (t := 94) rfl rfl (by with_unfolding_all rfl) ?_ (fun ρ hρ W hW => ?_) ?_); (rotate_left 1)
                          focus (simp (disch := (first | decide | ((try simp only [sz_put]); rw [hsz4]; decide))) only [ev_eq, ev_ne, b4_7, b4_8, b4_9, b4_94, b4_97, b4_98])
                          focus (clear hW; have p97 := hρ (.tmp 97); (simp (disch := (first | decide | ((try simp only [sz_put]); rw [hsz4]; decide))) only [ev_eq, ev_ne, b4_7, b4_8, b4_9, b4_94, b4_97, b4_98] at p97); have p100 := hρ (.tmp 100); (simp (disch := (first | decide | ((try simp only [sz_put]); rw [hsz4]; decide))) only [ev_eq, ev_ne, b4_7, b4_8, b4_9, b4_94, b4_97, b4_98] at p100); have hc : ∀ c, ρ (.const c) = c := (fun c => hρ (.const c)); have hfn : ∀ f, ρ (.func f) = .func (.func f) #[] #[] := (fun f => hρ (.func f)); clear hρ; go_simp; (all_goals (first | (with_reducible rfl) | (constructor <;> with_reducible rfl))))
                          (with_reducible refine tree_held (v := ?_) rfl (by with_unfolding_all rfl) (fun ρ hρ W hW => ?_) ?_); (rotate_left 1)
                          focus (clear hW; have p94 := hρ (.tmp 94); (simp (disch := (first | decide | ((try simp only [sz_put]); rw [hsz4]; decide))) only [ev_eq, ev_ne, b4_7, b4_8, b4_9, b4_94, b4_97, b4_98] at p94); have p101 := hρ (.tmp 101); (simp (disch := (first | decide | ((try simp only [sz_put]); rw [hsz4]; decide))) only [ev_eq, ev_ne, b4_7, b4_8, b4_9, b4_94, b4_97, b4_98] at p101); have hc : ∀ c, ρ (.const c) = c := (fun c => hρ (.const c)); have hfn : ∀ f, ρ (.func f) = .func (.func f) #[] #[] := (fun f => hρ (.func f)); clear hρ; go_simp; (all_goals (first | (with_reducible rfl) | (constructor <;> with_reducible rfl))))
                          (with_reducible refine tree_held (v := .bool false) rfl (by with_unfolding_all rfl) (fun ρ hρ W hW => ?_) ?_); skip
                          focus (clear hW; have p102 := hρ (.tmp 102); (simp (disch := (first | decide | ((try simp only [sz_put]); rw [hsz4]; decide))) only [ev_eq, ev_ne, b4_7, b4_8, b4_9, b4_94, b4_97, b4_98] at p102); have hc : ∀ c, ρ (.const c) = c := (fun c => hρ (.const c)); have hfn : ∀ f, ρ (.func f) = .func (.func f) #[] #[] := (fun f => hρ (.func f)); clear hρ; go_simp; (first | done | (all_goals (first | (with_reducible rfl) | (constructor <;> with_reducible rfl))) | (simp only [qn0, qn7, qlen2, decide_true, decide_false, bne_self_eq_false]; done) | (simp [qn0, qn7, qlen2, decide_true, decide_false, bne_self_eq_false]; done) | ((try simp only [qn0, qn7, qlen2, decide_true, decide_false, bne_self_eq_false]); done)))
                          (with_reducible refine tree_held_g (v := ?_) (t := 103) rfl rfl (by with_unfolding_all rfl) ?_ (fun ρ hρ W hW => ?_) ?_); (rotate_left 1)
                          focus (simp (disch := (first | decide | ((try simp only [sz_put]); rw [hsz4]; decide))) only [ev_eq, ev_ne, b4_7, b4_8, b4_9, b4_94, b4_97, b4_98])
                          focus (clear hW; have p9 := hρ (.tmp 9); (simp (disch := (first | decide | ((try simp only [sz_put]); rw [hsz4]; decide))) only [ev_eq, ev_ne, b4_7, b4_8, b4_9, b4_94, b4_97, b4_98] at p9); have hc : ∀ c, ρ (.const c) = c := (fun c => hρ (.const c)); have hfn : ∀ f, ρ (.func f) = .func (.func f) #[] #[] := (fun f => hρ (.func f)); clear hρ; go_simp; (all_goals (first | (with_reducible rfl) | (constructor <;> with_reducible rfl))))
                          (with_reducible refine tree_from (fun fr5 hfr5 => ?_))
                          have b5_7 := congrArg (fun x => Act.eval x (.tmp 7)) hfr5; (simp (disch := (first | decide | ((try simp only [sz_put]); rw [hsz4]; decide))) only [ev_eq, ev_ne, b4_7, b4_8, b4_9, b4_94, b4_97, b4_98] at b5_7)
                          have b5_8 := congrArg (fun x => Act.eval x (.tmp 8)) hfr5; (simp (disch := (first | decide | ((try simp only [sz_put]); rw [hsz4]; decide))) only [ev_eq, ev_ne, b4_7, b4_8, b4_9, b4_94, b4_97, b4_98] at b5_8)
                          have b5_103 := congrArg (fun x => Act.eval x (.tmp 103)) hfr5; (simp (disch := (first | decide | ((try simp only [sz_put]); rw [hsz4]; decide))) only [ev_eq, ev_ne, b4_7, b4_8, b4_9, b4_94, b4_97, b4_98] at b5_103)
                          have b5_104 := congrArg (fun x => Act.eval x (.tmp 104)) hfr5; (simp (disch := (first | decide | ((try simp only [sz_put]); rw [hsz4]; decide))) only [ev_eq, ev_ne, b4_7, b4_8, b4_9, b4_94, b4_97, b4_98] at b5_104)
                          have hsz5 := congrArg (fun x => x.tmps.size) hfr5; (simp only [sz_put, hsz4] at hsz5)
                          clear b4_7 b4_8 b4_9 b4_94 b4_97 b4_98 hsz4
                          (with_reducible refine tree_held_g (v := .bool true) (t := 103) rfl rfl (by with_unfolding_all rfl) ?_ (fun ρ hρ W hW => ?_) ?_); skip
                          focus (simp (disch := (first | decide | ((try simp only [sz_put]); rw [hsz5]; decide))) only [ev_eq, ev_ne, b5_7, b5_8, b5_103, b5_104])
                          focus (clear hW; have p104 := hρ (.tmp 104); (simp (disch := (first | decide | ((try simp only [sz_put]); rw [hsz5]; decide))) only [ev_eq, ev_ne, b5_7, b5_8, b5_103, b5_104] at p104); have hc : ∀ c, ρ (.const c) = c := (fun c => hρ (.const c)); have hfn : ∀ f, ρ (.func f) = .func (.func f) #[] #[] := (fun f => hρ (.func f)); clear hρ; go_simp; (first | done | (all_goals (first | (with_reducible rfl) | (constructor <;> with_reducible rfl))) | (simp only [qn0, qn7, qlen2, decide_true, decide_false, bne_self_eq_false]; done) | (simp [qn0, qn7, qlen2, decide_true, decide_false, bne_self_eq_false]; done) | ((try simp only [qn0, qn7, qlen2, decide_true, decide_false, bne_self_eq_false]); done)))
                          (with_reducible refine tree_held_g (v := ?_) (t := 105) rfl rfl (by with_unfolding_all rfl) ?_ (fun ρ hρ W hW => ?_) ?_); (rotate_left 1)
                          focus (simp (disch := (first | decide | ((try simp only [sz_put]); rw [hsz5]; decide))) only [ev_eq, ev_ne, b5_7, b5_8, b5_103, b5_104])
                          focus (clear hW; have p8 := hρ (.tmp 8); (simp (disch := (first | decide | ((try simp only [sz_put]); rw [hsz5]; decide))) only [ev_eq, ev_ne, b5_7, b5_8, b5_103, b5_104] at p8); have hc : ∀ c, ρ (.const c) = c := (fun c => hρ (.const c)); have hfn : ∀ f, ρ (.func f) = .func (.func f) #[] #[] := (fun f => hρ (.func f)); clear hρ; go_simp; (all_goals (first | (with_reducible rfl) | (constructor <;> with_reducible rfl))))
                          (with_reducible refine tree_held_g (v := ?_) (t := 105) rfl rfl (by with_unfolding_all rfl) ?_ (fun ρ hρ W hW => ?_) ?_); (rotate_left 1)
                          focus (simp (disch := (first | decide | ((try simp only [sz_put]); rw [hsz5]; decide))) only [ev_eq, ev_ne, b5_7, b5_8, b5_103, b5_104])
                          focus (have hS := KS.out _ hW; clear hW; have p106 := hρ (.tmp 106); (simp (disch := (first | decide | ((try simp only [sz_put]); rw [hsz5]; decide))) only [ev_eq, ev_ne, b5_7, b5_8, b5_103, b5_104] at p106); have hc : ∀ c, ρ (.const c) = c := (fun c => hρ (.const c)); have hfn : ∀ f, ρ (.func f) = .func (.func f) #[] #[] := (fun f => hρ (.func f)); clear hρ; go_simp; (all_goals (first | (with_reducible rfl) | (constructor <;> with_reducible rfl))))
                          (with_reducible refine tree_held_g (v := ?_) (t := 105) rfl rfl (by with_unfolding_all rfl) ?_ (fun ρ hρ W hW => ?_) ?_); (rotate_left 1)
                          focus (simp (disch := (first | decide | ((try simp only [sz_put]); rw [hsz5]; decide))) only [ev_eq, ev_ne, b5_7, b5_8, b5_103, b5_104])
                          focus (clear hW; have p7 := hρ (.tmp 7); (simp (disch := (first | decide | ((try simp only [sz_put]); rw [hsz5]; decide))) only [ev_eq, ev_ne, b5_7, b5_8, b5_103, b5_104] at p7); have hc : ∀ c, ρ (.const c) = c := (fun c => hρ (.const c)); have hfn : ∀ f, ρ (.func f) = .func (.func f) #[] #[] := (fun f => hρ (.func f)); clear hρ; go_simp; (all_goals (first | (with_reducible rfl) | (constructor <;> with_reducible rfl))))
                          (with_reducible refine tree_held_g (v := ?_) (t := 105) rfl rfl (by with_unfolding_all rfl) ?_ (fun ρ hρ W hW => ?_) ?_); (rotate_left 1)
                          focus (simp (disch := (first | decide | ((try simp only [sz_put]); rw [hsz5]; decide))) only [ev_eq, ev_ne, b5_7, b5_8, b5_103, b5_104])
                          focus (clear hW; have p108 := hρ (.tmp 108); (simp (disch := (first | decide | ((try simp only [sz_put]); rw [hsz5]; decide))) only [ev_eq, ev_ne, b5_7, b5_8, b5_103, b5_104] at p108); have hc : ∀ c, ρ (.const c) = c := (fun c => hρ (.const c)); have hfn : ∀ f, ρ (.func f) = .func (.func f) #[] #[] := (fun f => hρ (.func f)); clear hρ; go_simp; (all_goals (first | (with_reducible rfl) | (constructor <;> with_reducible rfl))))
                          (with_reducible refine tree_held_g (v := ?_) (t := 105) rfl rfl (by with_unfolding_all rfl) ?_ (fun ρ hρ W hW => ?_) ?_); (rotate_left 1)
                          focus (simp (disch := (first | decide | ((try simp only [sz_put]); rw [hsz5]; decide))) only [ev_eq, ev_ne, b5_7, b5_8, b5_103, b5_104])
                          focus (clear hW; have p109 := hρ (.tmp 109); (simp (disch := (first | decide | ((try simp only [sz_put]); rw [hsz5]; decide))) only [ev_eq, ev_ne, b5_7, b5_8, b5_103, b5_104] at p109); have hc : ∀ c, ρ (.const c) = c := (fun c => hρ (.const c)); have hfn : ∀ f, ρ (.func f) = .func (.func f) #[] #[] := (fun f => hρ (.func f)); clear hρ; go_simp; (all_goals (first | (with_reducible rfl) | (constructor <;> with_reducible rfl))))
                          (with_reducible refine tree_from (fun fr6 hfr6 => ?_))
                          have b6_7 := congrArg (fun x => Act.eval x (.tmp 7)) hfr6; (simp (disch := (first | decide | ((try simp only [sz_put]); rw [hsz5]; decide))) only [ev_eq, ev_ne, b5_7, b5_8, b5_103, b5_104] at b6_7)
                          have b6_8 := congrArg (fun x => Act.eval x (.tmp 8)) hfr6; (simp (disch := (first | decide | ((try simp only [sz_put]); rw [hsz5]; decide))) only [ev_eq, ev_ne, b5_7, b5_8, b5_103, b5_104] at b6_8)
                          have b6_103 := congrArg (fun x => Act.eval x (.tmp 103)) hfr6; (simp (disch := (first | decide | ((try simp only [sz_put]); rw [hsz5]; decide))) only [ev_eq, ev_ne, b5_7, b5_8, b5_103, b5_104] at b6_103)
                          have b6_105 := congrArg (fun x => Act.eval x (.tmp 105)) hfr6; (simp (disch := (first | decide | ((try simp only [sz_put]); rw [hsz5]; decide))) only [ev_eq, ev_ne, b5_7, b5_8, b5_103, b5_104] at b6_105)
                          have b6_107 := congrArg (fun x => Act.eval x (.tmp 107)) hfr6; (simp (disch := (first | decide | ((try simp only [sz_put]); rw [hsz5]; decide))) only [ev_eq, ev_ne, b5_7, b5_8, b5_103, b5_104] at b6_107)
                          have b6_110 := congrArg (fun x => Act.eval x (.tmp 110)) hfr6; (simp (disch := (first | decide | ((try simp only [sz_put]); rw [hsz5]; decide))) only [ev_eq, ev_ne, b5_7, b5_8, b5_103, b5_104] at b6_110)
                          have hsz6 := congrArg (fun x => x.tmps.size) hfr6; (simp only [sz_put, hsz5] at hsz6)
                          clear b5_7 b5_8 b5_103 b5_104 hsz5
                          (with_reducible refine tree_held_g (v := ?_) (t := 105) rfl rfl (by with_unfolding_all rfl) ?_ (fun ρ hρ W hW => ?_) ?_); (rotate_left 1)
                          focus (simp (disch := (first | decide | ((try simp only [sz_put]); rw [hsz6]; decide))) only [ev_eq, ev_ne, b6_7, b6_8, b6_103, b6_105, b6_107, b6_110])
                          focus (have hS := KS.out _ hW; clear hW; have p110 := hρ (.tmp 110); (simp (disch := (first | decide | ((try simp only [sz_put]); rw [hsz6]; decide))) only [ev_eq, ev_ne, b6_7, b6_8, b6_103, b6_105, b6_107, b6_110] at p110); have hc : ∀ c, ρ (.const c) = c := (fun c => hρ (.const c)); have hfn : ∀ f, ρ (.func f) = .func (.func f) #[] #[] := (fun f => hρ (.func f)); clear hρ; go_simp; (all_goals (first | (with_reducible rfl) | (constructor <;> with_reducible rfl))))
                          (with_reducible refine tree_held_g (v := .bool false) (t := 105) rfl rfl (by with_unfolding_all rfl) ?_ (fun ρ hρ W hW => ?_) ?_); skip
                          focus (simp (disch := (first | decide | ((try simp only [sz_put]); rw [hsz6]; decide))) only [ev_eq, ev_ne, b6_7, b6_8, b6_103, b6_105, b6_107, b6_110])
                          focus (clear hW; have p107 := hρ (.tmp 107); (simp (disch := (first | decide | ((try simp only [sz_put]); rw [hsz6]; decide))) only [ev_eq, ev_ne, b6_7, b6_8, b6_103, b6_105, b6_107, b6_110] at p107); have p111 := hρ (.tmp 111); (simp (disch := (first | decide | ((try simp only [sz_put]); rw [hsz6]; decide))) only [ev_eq, ev_ne, b6_7, b6_8, b6_103, b6_105, b6_107, b6_110] at p111); have hc : ∀ c, ρ (.const c) = c := (fun c => hρ (.const c)); have hfn : ∀ f, ρ (.func f) = .func (.func f) #[] #[] := (fun f => hρ (.func f)); clear hρ; go_simp; (first | done | (all_goals (first | (with_reducible rfl) | (constructor <;> with_reducible rfl))) | (simp only [qn0, qn7, qlen2, decide_true, decide_false, bne_self_eq_false]; done) | (simp [qn0, qn7, qlen2, decide_true, decide_false, bne_self_eq_false]; done) | ((try simp only [qn0, qn7, qlen2, decide_true, decide_false, bne_self_eq_false]); done)))
                          (with_reducible refine tree_held_g (v := .bool false) (t := 105) rfl rfl (by with_unfolding_all rfl) ?_ (fun ρ hρ W hW => ?_) ?_); skip
                          focus (simp (disch := (first | decide | ((try simp only [sz_put]); rw [hsz6]; decide))) only [ev_eq, ev_ne, b6_7, b6_8, b6_103, b6_105, b6_107, b6_110])
                          focus (clear hW; have p112 := hρ (.tmp 112); (simp (disch := (first | decide | ((try simp only [sz_put]); rw [hsz6]; decide))) only [ev_eq, ev_ne, b6_7, b6_8, b6_103, b6_105, b6_107, b6_110] at p112); have hc : ∀ c, ρ (.const c) = c := (fun c => hρ (.const c)); have hfn : ∀ f, ρ (.func f) = .func (.func f) #[] #[] := (fun f => hρ (.func f)); clear hρ; go_simp; (first | done | (all_goals (first | (with_reducible rfl) | (constructor <;> with_reducible rfl))) | (simp only [qn0, qn7, qlen2, decide_true, decide_false, bne_self_eq_false]; done) | (simp [qn0, qn7, qlen2, decide_true, decide_false, bne_self_eq_false]; done) | ((try simp only [qn0, qn7, qlen2, decide_true, decide_false, bne_self_eq_false]); done)))
                          (with_reducible refine tree_held_g (v := ?_) (t := 113) rfl rfl (by with_unfolding_all rfl) ?_ (fun ρ hρ W hW => ?_) ?_); (rotate_left 1)
                          focus (simp (disch := (first | decide | ((try simp only [sz_put]); rw [hsz6]; decide))) only [ev_eq, ev_ne, b6_7, b6_8, b6_103, b6_105, b6_107, b6_110])
                          focus (clear hW; have p8 := hρ (.tmp 8); (simp (disch := (first | decide | ((try simp only [sz_put]); rw [hsz6]; decide))) only [ev_eq, ev_ne, b6_7, b6_8, b6_103, b6_105, b6_107, b6_110] at p8); have hc : ∀ c, ρ (.const c) = c := (fun c => hρ (.const c)); have hfn : ∀ f, ρ (.func f) = .func (.func f) #[] #[] := (fun f => hρ (.func f)); clear hρ; go_simp; (all_goals (first | (with_reducible rfl) | (constructor <;> with_reducible rfl))))
                          (with_reducible refine tree_held_g (v := ?_) (t := 113) rfl rfl (by with_unfolding_all rfl) ?_ (fun ρ hρ W hW => ?_) ?_); (rotate_left 1)
                          focus (simp (disch := (first | decide | ((try simp only [sz_put]); rw [hsz6]; decide))) only [ev_eq, ev_ne, b6_7, b6_8, b6_103, b6_105, b6_107, b6_110])
                          focus (have hS := KS.out _ hW; clear hW; have p114 := hρ (.tmp 114); (simp (disch := (first | decide | ((try simp only [sz_put]); rw [hsz6]; decide))) only [ev_eq, ev_ne, b6_7, b6_8, b6_103, b6_105, b6_107, b6_110] at p114); have hc : ∀ c, ρ (.const c) = c := (fun c => hρ (.const c)); have hfn : ∀ f, ρ (.func f) = .func (.func f) #[] #[] := (fun f => hρ (.func f)); clear hρ; go_simp; (all_goals (first | (with_reducible rfl) | (constructor <;> with_reducible rfl))))
                          (with_reducible refine tree_held_g (v := ?_) (t := 113) rfl rfl (by with_unfolding_all rfl) ?_ (fun ρ hρ W hW => ?_) ?_); (rotate_left 1)
                          focus (simp (disch := (first | decide | ((try simp only [sz_put]); rw [hsz6]; decide))) only [ev_eq, ev_ne, b6_7, b6_8, b6_103, b6_105, b6_107, b6_110])
                          focus (clear hW; have p7 := hρ (.tmp 7); (simp (disch := (first | decide | ((try simp only [sz_put]); rw [hsz6]; decide))) only [ev_eq, ev_ne, b6_7, b6_8, b6_103, b6_105, b6_107, b6_110] at p7); have hc : ∀ c, ρ (.const c) = c := (fun c => hρ (.const c)); have hfn : ∀ f, ρ (.func f) = .func (.func f) #[] #[] := (fun f => hρ (.func f)); clear hρ; go_simp; (all_goals (first | (with_reducible rfl) | (constructor <;> with_reducible rfl))))
                          (with_reducible refine tree_from (fun fr7 hfr7 => ?_))
                          have b7_7 := congrArg (fun x => Act.eval x (.tmp 7)) hfr7; (simp (disch := (first | decide | ((try simp only [sz_put]); rw [hsz6]; decide))) only [ev_eq, ev_ne, b6_7, b6_8, b6_103, b6_105, b6_107, b6_110] at b7_7)
                          have b7_8 := congrArg (fun x => Act.eval x (.tmp 8)) hfr7; (simp (disch := (first | decide | ((try simp only [sz_put]); rw [hsz6]; decide))) only [ev_eq, ev_ne, b6_7, b6_8, b6_103, b6_105, b6_107, b6_110] at b7_8)
                          have b7_103 := congrArg (fun x => Act.eval x (.tmp 103)) hfr7; (simp (disch := (first | decide | ((try simp only [sz_put]); rw [hsz6]; decide))) only [ev_eq, ev_ne, b6_7, b6_8, b6_103, b6_105, b6_107, b6_110] at b7_103)
                          have b7_105 := congrArg (fun x => Act.eval x (.tmp 105)) hfr7; (simp (disch := (first | decide | ((try simp only [sz_put]); rw [hsz6]; decide))) only [ev_eq, ev_ne, b6_7, b6_8, b6_103, b6_105, b6_107, b6_110] at b7_105)
                          have b7_113 := congrArg (fun x => Act.eval x (.tmp 113)) hfr7; (simp (disch := (first | decide | ((try simp only [sz_put]); rw [hsz6]; decide))) only [ev_eq, ev_ne, b6_7, b6_8, b6_103, b6_105, b6_107, b6_110] at b7_113)
                          have b7_115 := congrArg (fun x => Act.eval x (.tmp 115)) hfr7; (simp (disch := (first | decide | ((try simp only [sz_put]); rw [hsz6]; decide))) only [ev_eq, ev_ne, b6_7, b6_8, b6_103, b6_105, b6_107, b6_110] at b7_115)
                          have b7_116 := congrArg (fun x => Act.eval x (.tmp 116)) hfr7; (simp (disch := (first | decide | ((try simp only [sz_put]); rw [hsz6]; decide))) only [ev_eq, ev_ne, b6_7, b6_8, b6_103, b6_105, b6_107, b6_110] at b7_116)
                          have hsz7 := congrArg (fun x => x.tmps.size) hfr7; (simp only [sz_put, hsz6] at hsz7)
                          clear b6_7 b6_8 b6_103 b6_105 b6_107 b6_110 hsz6
                          (with_reducible refine tree_held_g (v := ?_) (t := 113) rfl rfl (by with_unfolding_all rfl) ?_ (fun ρ hρ W hW => ?_) ?_); (rotate_left 1)
                          focus (simp (disch := (first | decide | ((try simp only [sz_put]); rw [hsz7]; decide))) only [ev_eq, ev_ne, b7_7, b7_8, b7_103, b7_105, b7_113, b7_115, b7_116])
                          focus (clear hW; have p116 := hρ (.tmp 116); (simp (disch := (first | decide | ((try simp only [sz_put]); rw [hsz7]; decide))) only [ev_eq, ev_ne, b7_7, b7_8, b7_103, b7_105, b7_113, b7_115, b7_116] at p116); have hc : ∀ c, ρ (.const c) = c := (fun c => hρ (.const c)); have hfn : ∀ f, ρ (.func f) = .func (.func f) #[] #[] := (fun f => hρ (.func f)); clear hρ; go_simp; (all_goals (first | (with_reducible rfl) | (constructor <;> with_reducible rfl))))
                          (with_reducible refine tree_held_g (v := ?_) (t := 113) rfl rfl (by with_unfolding_all rfl) ?_ (fun ρ hρ W hW => ?_) ?_); (rotate_left 1)
                          focus (simp (disch := (first | decide | ((try simp only [sz_put]); rw [hsz7]; decide))) only [ev_eq, ev_ne, b7_7, b7_8, b7_103, b7_105, b7_113, b7_115, b7_116])
                          focus (clear hW; have p117 := hρ (.tmp 117); (simp (disch := (first | decide | ((try simp only [sz_put]); rw [hsz7]; decide))) only [ev_eq, ev_ne, b7_7, b7_8, b7_103, b7_105, b7_113, b7_115, b7_116] at p117); have hc : ∀ c, ρ (.const c) = c := (fun c => hρ (.const c)); have hfn : ∀ f, ρ (.func f) = .func (.func f) #[] #[] := (fun f => hρ (.func f)); clear hρ; go_simp; (all_goals (first | (with_reducible rfl) | (constructor <;> with_reducible rfl))))
                          (with_reducible refine tree_held_g (v := ?_) (t := 113) rfl rfl (by with_unfolding_all rfl) ?_ (fun ρ hρ W hW => ?_) ?_); (rotate_left 1)
                          focus (simp (disch := (first | decide | ((try simp only [sz_put]); rw [hsz7]; decide))) only [ev_eq, ev_ne, b7_7, b7_8, b7_103, b7_105, b7_113, b7_115, b7_116])
                          focus (have hS := KS.out _ hW; clear hW; have p118 := hρ (.tmp 118); (simp (disch := (first | decide | ((try simp only [sz_put]); rw [hsz7]; decide))) only [ev_eq, ev_ne, b7_7, b7_8, b7_103, b7_105, b7_113, b7_115, b7_116] at p118); have hc : ∀ c, ρ (.const c) = c := (fun c => hρ (.const c)); have hfn : ∀ f, ρ (.func f) = .func (.func f) #[] #[] := (fun f => hρ (.func f)); clear hρ; go_simp; (all_goals (first | (with_reducible rfl) | (constructor <;> with_reducible rfl))))
                          (with_reducible refine tree_held_g (v := .bool false) (t := 113) rfl rfl (by with_unfolding_all rfl) ?_ (fun ρ hρ W hW => ?_) ?_); skip
                          focus (simp (disch := (first | decide | ((try simp only [sz_put]); rw [hsz7]; decide))) only [ev_eq, ev_ne, b7_7, b7_8, b7_103, b7_105, b7_113, b7_115, b7_116])
                          focus (clear hW; have p115 := hρ (.tmp 115); (simp (disch := (first | decide | ((try simp only [sz_put]); rw [hsz7]; decide))) only [ev_eq, ev_ne, b7_7, b7_8, b7_103, b7_105, b7_113, b7_115, b7_116] at p115); have p119 := hρ (.tmp 119); (simp (disch := (first | decide | ((try simp only [sz_put]); rw [hsz7]; decide))) only [ev_eq, ev_ne, b7_7, b7_8, b7_103, b7_105, b7_113, b7_115, b7_116] at p119); have hc : ∀ c, ρ (.const c) = c := (fun c => hρ (.const c)); have hfn : ∀ f, ρ (.func f) = .func (.func f) #[] #[] := (fun f => hρ (.func f)); clear hρ; go_simp; (first | done | (all_goals (first | (with_reducible rfl) | (constructor <;> with_reducible rfl))) | (simp only [qn0, qn7, qlen2, decide_true, decide_false, bne_self_eq_false]; done) | (simp [qn0, qn7, qlen2, decide_true, decide_false, bne_self_eq_false]; done) | ((try simp only [qn0, qn7, qlen2, decide_true, decide_false, bne_self_eq_false]); done)))
                          (with_reducible refine tree_held_g (v := ?_) (t := 105) rfl rfl (by with_unfolding_all rfl) ?_ (fun ρ hρ W hW => ?_) ?_); (rotate_left 1)
                          focus (simp (disch := (first | decide | ((try simp only [sz_put]); rw [hsz7]; decide))) only [ev_eq, ev_ne, b7_7, b7_8, b7_103, b7_105, b7_113, b7_115, b7_116])
                          focus (clear hW; have p113 := hρ (.tmp 113); (simp (disch := (first | decide | ((try simp only [sz_put]); rw [hsz7]; decide))) only [ev_eq, ev_ne, b7_7, b7_8, b7_103, b7_105, b7_113, b7_115, b7_116] at p113); have p120 := hρ (.tmp 120); (simp (disch := (first | decide | ((try simp only [sz_put]); rw [hsz7]; decide))) only [ev_eq, ev_ne, b7_7, b7_8, b7_103, b7_105, b7_113, b7_115, b7_116] at p120); have hc : ∀ c, ρ (.const c) = c := (fun c => hρ (.const c)); have hfn : ∀ f, ρ (.func f) = .func (.func f) #[] #[] := (fun f => hρ (.func f)); clear hρ; go_simp; (all_goals (first | (with_reducible rfl) | (constructor <;> with_reducible rfl))))
                          (with_reducible refine tree_held_g (v := .bool false) (t := 105) rfl rfl (by with_unfolding_all rfl) ?_ (fun ρ hρ W hW => ?_) ?_); skip
                          focus (simp (disch := (first | decide | ((try simp only [sz_put]); rw [hsz7]; decide))) only [ev_eq, ev_ne, b7_7, b7_8, b7_103, b7_105, b7_113, b7_115, b7_116])
                          focus (clear hW; have p121 := hρ (.tmp 121); (simp (disch := (first | decide | ((try simp only [sz_put]); rw [hsz7]; decide))) only [ev_eq, ev_ne, b7_7, b7_8, b7_103, b7_105, b7_113, b7_115, b7_116] at p121); have hc : ∀ c, ρ (.const c) = c := (fun c => hρ (.const c)); have hfn : ∀ f, ρ (.func f) = .func (.func f) #[] #[] := (fun f => hρ (.func f)); clear hρ; go_simp; (first | done | (all_goals (first | (with_reducible rfl) | (constructor <;> with_reducible rfl))) | (simp only [qn0, qn7, qlen2, decide_true, decide_false, bne_self_eq_false]; done) | (simp [qn0, qn7, qlen2, decide_true, decide_false, bne_self_eq_false]; done) | ((try simp only [qn0, qn7, qlen2, decide_true, decide_false, bne_self_eq_false]); done)))
                          (with_reducible refine tree_from (fun fr8 hfr8 => ?_))
                          have b8_7 := congrArg (fun x => Act.eval x (.tmp 7)) hfr8; (simp (disch := (first | decide | ((try simp only [sz_put]); rw [hsz7]; decide))) only [ev_eq, ev_ne, b7_7, b7_8, b7_103, b7_105, b7_113, b7_115, b7_116] at b8_7)
                          have b8_8 := congrArg (fun x => Act.eval x (.tmp 8)) hfr8; (simp (disch := (first | decide | ((try simp only [sz_put]); rw [hsz7]; decide))) only [ev_eq, ev_ne, b7_7, b7_8, b7_103, b7_105, b7_113, b7_115, b7_116] at b8_8)
                          have b8_103 := congrArg (fun x => Act.eval x (.tmp 103)) hfr8; (simp (disch := (first | decide | ((try simp only [sz_put]); rw [hsz7]; decide))) only [ev_eq, ev_ne, b7_7, b7_8, b7_103, b7_105, b7_113, b7_115, b7_116] at b8_103)
                          have b8_105 := congrArg (fun x => Act.eval x (.tmp 105)) hfr8; (simp (disch := (first | decide | ((try simp only [sz_put]); rw [hsz7]; decide))) only [ev_eq, ev_ne, b7_7, b7_8, b7_103, b7_105, b7_113, b7_115, b7_116] at b8_105)
                          have b8_122 := congrArg (fun x => Act.eval x (.tmp 122)) hfr8; (simp (disch := (first | decide | ((try simp only [sz_put]); rw [hsz7]; decide))) only [ev_eq, ev_ne, b7_7, b7_8, b7_103, b7_105, b7_113, b7_115, b7_116] at b8_122)
                          have hsz8 := congrArg (fun x => x.tmps.size) hfr8; (simp only [sz_put, hsz7] at hsz8)
                          clear b7_7 b7_8 b7_103 b7_105 b7_113 b7_115 b7_116 hsz7
                          (with_reducible refine tree_held_g (v := ?_) (t := 122) rfl rfl (by with_unfolding_all rfl) ?_ (fun ρ hρ W hW => ?_) ?_); (rotate_left 1)
                          focus (simp (disch := (first | decide | ((try simp only [sz_put]); rw [hsz8]; decide))) only [ev_eq, ev_ne, b8_7, b8_8, b8_103, b8_105, b8_122])
                          focus (clear hW; have p8 := hρ (.tmp 8); (simp (disch := (first | decide | ((try simp only [sz_put]); rw [hsz8]; decide))) only [ev_eq, ev_ne, b8_7, b8_8, b8_103, b8_105, b8_122] at p8); have hc : ∀ c, ρ (.const c) = c := (fun c => hρ (.const c)); have hfn : ∀ f, ρ (.func f) = .func (.func f) #[] #[] := (fun f => hρ (.func f)); clear hρ; go_simp; (all_goals (first | (with_reducible rfl) | (constructor <;> with_reducible rfl))))
                          (with_reducible refine tree_held_g (v := ?_) (t := 122) rfl rfl (by with_unfolding_all rfl) ?_ (fun ρ hρ W hW => ?_) ?_); (rotate_left 1)
                          focus (simp (disch := (first | decide | ((try simp only [sz_put]); rw [hsz8]; decide))) only [ev_eq, ev_ne, b8_7, b8_8, b8_103, b8_105, b8_122])
                          focus (have hS := KS.out _ hW; clear hW; have p123 := hρ (.tmp 123); (simp (disch := (first | decide | ((try simp only [sz_put]); rw [hsz8]; decide))) only [ev_eq, ev_ne, b8_7, b8_8, b8_103, b8_105, b8_122] at p123); have hc : ∀ c, ρ (.const c) = c := (fun c => hρ (.const c)); have hfn : ∀ f, ρ (.func f) = .func (.func f) #[] #[] := (fun f => hρ (.func f)); clear hρ; go_simp; (all_goals (first | (with_reducible rfl) | (constructor <;> with_reducible rfl))))
                          (with_reducible refine tree_held_g (v := ?_) (t := 122) rfl rfl (by with_unfolding_all rfl) ?_ (fun ρ hρ W hW => ?_) ?_); (rotate_left 1)
                          focus (simp (disch := (first | decide | ((try simp only [sz_put]); rw [hsz8]; decide))) only [ev_eq, ev_ne, b8_7, b8_8, b8_103, b8_105, b8_122])
                          focus (clear hW; have p7 := hρ (.tmp 7); (simp (disch := (first | decide | ((try simp only [sz_put]); rw [hsz8]; decide))) only [ev_eq, ev_ne, b8_7, b8_8, b8_103, b8_105, b8_122] at p7); have hc : ∀ c, ρ (.const c) = c := (fun c => hρ (.const c)); have hfn : ∀ f, ρ (.func f) = .func (.func f) #[] #[] := (fun f => hρ (.func f)); clear hρ; go_simp; (all_goals (first | (with_reducible rfl) | (constructor <;> with_reducible rfl))))
                          (with_reducible refine tree_held_g (v := ?_) (t := 122) rfl rfl (by with_unfolding_all rfl) ?_ (fun ρ hρ W hW => ?_) ?_); (rotate_left 1)
                          focus (simp (disch := (first | decide | ((try simp only [sz_put]); rw [hsz8]; decide))) only [ev_eq, ev_ne, b8_7, b8_8, b8_103, b8_105, b8_122])
                          focus (clear hW; have p125 := hρ (.tmp 125); (simp (disch := (first | decide | ((try simp only [sz_put]); rw [hsz8]; decide))) only [ev_eq, ev_ne, b8_7, b8_8, b8_103, b8_105, b8_122] at p125); have hc : ∀ c, ρ (.const c) = c := (fun c => hρ (.const c)); have hfn : ∀ f, ρ (.func f) = .func (.func f) #[] #[] := (fun f => hρ (.func f)); clear hρ; go_simp; (all_goals (first | (with_reducible rfl) | (constructor <;> with_reducible rfl))))
                          (with_reducible refine tree_held_g (v := ?_) (t := 122) rfl rfl (by with_unfolding_all rfl) ?_ (fun ρ hρ W hW => ?_) ?_); (rotate_left 1)
                          focus (simp (disch := (first | decide | ((try simp only [sz_put]); rw [hsz8]; decide))) only [ev_eq, ev_ne, b8_7, b8_8, b8_103, b8_105, b8_122])
                          focus (clear hW; have p126 := hρ (.tmp 126); (simp (disch := (first | decide | ((try simp only [sz_put]); rw [hsz8]; decide))) only [ev_eq, ev_ne, b8_7, b8_8, b8_103, b8_105, b8_122] at p126); have hc : ∀ c, ρ (.const c) = c := (fun c => hρ (.const c)); have hfn : ∀ f, ρ (.func f) = .func (.func f) #[] #[] := (fun f => hρ (.func f)); clear hρ; go_simp; (all_goals (first | (with_reducible rfl) | (constructor <;> with_reducible rfl))))
                          (with_reducible refine tree_held_g (v := ?_) (t := 122) rfl rfl (by with_unfolding_all rfl) ?_ (fun ρ hρ W hW => ?_) ?_); (rotate_left 1)
                          focus (simp (disch := (first | decide | ((try simp only [sz_put]); rw [hsz8]; decide))) only [ev_eq, ev_ne, b8_7, b8_8, b8_103, b8_105, b8_122])
                          focus (have hS := KS.out _ hW; clear hW; have p127 := hρ (.tmp 127); (simp (disch := (first | decide | ((try simp only [sz_put]); rw [hsz8]; decide))) only [ev_eq, ev_ne, b8_7, b8_8, b8_103, b8_105, b8_122] at p127); have hc : ∀ c, ρ (.const c) = c := (fun c => hρ (.const c)); have hfn : ∀ f, ρ (.func f) = .func (.func f) #[] #[] := (fun f => hρ (.func f)); clear hρ; go_simp; (all_goals (first | (with_reducible rfl) | (constructor <;> with_reducible rfl))))
                          (with_reducible refine tree_from (fun fr9 hfr9 => ?_))
                          have b9_103 := congrArg (fun x => Act.eval x (.tmp 103)) hfr9; (simp (disch := (first | decide | ((try simp only [sz_put]); rw [hsz8]; decide))) only [ev_eq, ev_ne, b8_7, b8_8, b8_103, b8_105, b8_122] at b9_103)
                          have b9_105 := congrArg (fun x => Act.eval x (.tmp 105)) hfr9; (simp (disch := (first | decide | ((try simp only [sz_put]); rw [hsz8]; decide))) only [ev_eq, ev_ne, b8_7, b8_8, b8_103, b8_105, b8_122] at b9_105)
                          have b9_122 := congrArg (fun x => Act.eval x (.tmp 122)) hfr9; (simp (disch := (first | decide | ((try simp only [sz_put]); rw [hsz8]; decide))) only [ev_eq, ev_ne, b8_7, b8_8, b8_103, b8_105, b8_122] at b9_122)
                          have b9_124 := congrArg (fun x => Act.eval x (.tmp 124)) hfr9; (simp (disch := (first | decide | ((try simp only [sz_put]); rw [hsz8]; decide))) only [ev_eq, ev_ne, b8_7, b8_8, b8_103, b8_105, b8_122] at b9_124)
                          have b9_128 := congrArg (fun x => Act.eval x (.tmp 128)) hfr9; (simp (disch := (first | decide | ((try simp only [sz_put]); rw [hsz8]; decide))) only [ev_eq, ev_ne, b8_7, b8_8, b8_103, b8_105, b8_122] at b9_128)
                          have hsz9 := congrArg (fun x => x.tmps.size) hfr9; (simp only [sz_put, hsz8] at hsz9)
                          clear b8_7 b8_8 b8_103 b8_105 b8_122 hsz8
                          refine tree_done ?_
                          (simp only [List.drop_succ_cons, List.drop_zero])
                          (with_reducible refine list_held_g (v := .bool false) (w' := ?_) (t := 122) rfl rfl (by with_unfolding_all rfl) ?_ (fun ρ hρ => ?_) ?_); (rotate_left 1)
                          focus (simp (disch := (first | decide | ((try simp only [sz_put]); rw [hsz9]; decide))) only [ev_eq, ev_ne, b9_103, b9_105, b9_122, b9_124, b9_128])
                          focus (have p124 := hρ (.tmp 124); (simp (disch := (first | decide | ((try simp only [sz_put]); rw [hsz9]; decide))) only [ev_eq, ev_ne, b9_103, b9_105, b9_122, b9_124, b9_128] at p124); have p128 := hρ (.tmp 128); (simp (disch := (first | decide | ((try simp only [sz_put]); rw [hsz9]; decide))) only [ev_eq, ev_ne, b9_103, b9_105, b9_122, b9_124, b9_128] at p128); have hc : ∀ c, ρ (.const c) = c := (fun c => hρ (.const c)); have hfn : ∀ f, ρ (.func f) = .func (.func f) #[] #[] := (fun f => hρ (.func f)); clear hρ; go_simp; (first | done | (all_goals (first | (with_reducible rfl) | (constructor <;> with_reducible rfl))) | (simp only [qn0, qn7, qlen2, decide_true, decide_false, bne_self_eq_false]; done) | (simp [qn0, qn7, qlen2, decide_true, decide_false, bne_self_eq_false]; done) | ((try simp only [qn0, qn7, qlen2, decide_true, decide_false, bne_self_eq_false]); done)))
                          (with_reducible refine list_held_g (v := ?_) (w' := ?_) (t := 105) rfl rfl (by with_unfolding_all rfl) ?_ (fun ρ hρ => ?_) ?_); (rotate_left 2)
                          focus (simp (disch := (first | decide | ((try simp only [sz_put]); rw [hsz9]; decide))) only [ev_eq, ev_ne, b9_103, b9_105, b9_122, b9_124, b9_128])
                          focus (have p122 := hρ (.tmp 122); (simp (disch := (first | decide | ((try simp only [sz_put]); rw [hsz9]; decide))) only [ev_eq, ev_ne, b9_103, b9_105, b9_122, b9_124, b9_128] at p122); have p129 := hρ (.tmp 129); (simp (disch := (first | decide | ((try simp only [sz_put]); rw [hsz9]; decide))) only [ev_eq, ev_ne, b9_103, b9_105, b9_122, b9_124, b9_128] at p129); have hc : ∀ c, ρ (.const c) = c := (fun c => hρ (.const c)); have hfn : ∀ f, ρ (.func f) = .func (.func f) #[] #[] := (fun f => hρ (.func f)); clear hρ; go_simp; (all_goals (first | (with_reducible rfl) | (constructor <;> with_reducible rfl))))
                          (with_reducible refine list_held_g (v := ?_) (w' := ?_) (t := 103) rfl rfl (by with_unfolding_all rfl) ?_ (fun ρ hρ => ?_) ?_); (rotate_left 2)
                          focus (simp (disch := (first | decide | ((try simp only [sz_put]); rw [hsz9]; decide))) only [ev_eq, ev_ne, b9_103, b9_105, b9_122, b9_124, b9_128])
                          focus (have p105 := hρ (.tmp 105); (simp (disch := (first | decide | ((try simp only [sz_put]); rw [hsz9]; decide))) only [ev_eq, ev_ne, b9_103, b9_105, b9_122, b9_124, b9_128] at p105); have p130 := hρ (.tmp 130); (simp (disch := (first | decide | ((try simp only [sz_put]); rw [hsz9]; decide))) only [ev_eq, ev_ne, b9_103, b9_105, b9_122, b9_124, b9_128] at p130); have hc : ∀ c, ρ (.const c) = c := (fun c => hρ (.const c)); have hfn : ∀ f, ρ (.func f) = .func (.func f) #[] #[] := (fun f => hρ (.func f)); clear hρ; go_simp; (all_goals (first | (with_reducible rfl) | (constructor <;> with_reducible rfl))))
                          (with_reducible refine list_held (v := ?_) (w' := ?_) rfl (by with_unfolding_all rfl) (fun ρ hρ => ?_) ?_); (rotate_left 2)
                          focus (have p103 := hρ (.tmp 103); (simp (disch := (first | decide | ((try simp only [sz_put]); rw [hsz9]; decide))) only [ev_eq, ev_ne, b9_103, b9_105, b9_122, b9_124, b9_128] at p103); have p131 := hρ (.tmp 131); (simp (disch := (first | decide | ((try simp only [sz_put]); rw [hsz9]; decide))) only [ev_eq, ev_ne, b9_103, b9_105, b9_122, b9_124, b9_128] at p131); have hc : ∀ c, ρ (.const c) = c := (fun c => hρ (.const c)); have hfn : ∀ f, ρ (.func f) = .func (.func f) #[] #[] := (fun f => hρ (.func f)); clear hρ; go_simp; (all_goals (first | (with_reducible rfl) | (constructor <;> with_reducible rfl))))
                          refine wpList_nil ?_
                          subst hfr9 hfr8 hfr7 hfr6 hfr5 hfr4 hfr3 hfr2 hfr1 ha
                          (simp only [put_some, set_s, set_z])
                          go_wp2
                          go_meet
                          exact ⟨rfl, k5⟩
                      case rest =>
                        obtain ⟨hs132, kz⟩ := hcut
                        subst hs132
                        have kX := Bel.of kx kz.out
                        go_wp2
                        go_loopw [11] (fun i wr => ∃ k : Nat, k ≤ H.length ∧ i = .int .i64 k ∧ Bel w7 wr) (fun i _ => H.length - (intOf i).toNat)
                        case atStart => exact ⟨0, by omega, rfl, kX⟩
                        case round =>
                          obtain ⟨k, hk, rfl, kr⟩ := hrel
                          by_cases hlt : k < H.length
                          · have hki : (k : Int) < (H.length : Int) := by omega
                            have hk0 : (0 : Int) ≤ (k : Int) := by omega
                            have hkT : (k : Int) < (T.length : Int) := by have := HTl.out; omega
                            have hgk : T[k]? = some H[k] := by rw [HPA.out, List.getElem?_append_left hlt]; exact List.getElem?_eq_getElem hlt
                            obtain ⟨h1, h2⟩ := HPL.out _ (List.getElem_mem hlt)
                            obtain ⟨_, _, hel⟩ := probs_drop (HO7.out _ kr) hlenT
                            obtain ⟨g, hq7, hg, hcl⟩ := hel k _ hgk
                            subst hq7
                            have l0 := hcl 0 _ rfl
                            have l1 := hcl 1 _ rfl
                            rw [h1] at l0
                            rw [h2] at l1
                            rw [Nat.add_zero] at l0
                            have l0' : _ = some (Value.string ⟨#[]⟩) := l0
                            clear l0 h1 h2 hel hcl hgk
                            go_wp2
                            exact ⟨⟨k + 1, by omega, by go_num, kr⟩, by simp [intOf]; omega⟩
                          · have hki : ¬ (k : Int) < (H.length : Int) := by omega
                            have hH0 : (0 : Int) ≤ (H.length : Int) := by omega
                            have hHT : (H.length : Int) ≤ (T.length : Int) := by have := HTl.out; omega
                            have kB : Bel w w7 := Bel.of kb kw.out
                            have hPF := fun W (k : Bel w7 W) => probs_from (HO7.out W k) hlenT HPA.out
                            by_cases hc : c7 = H.length
                            · have hc2 : (c7 = H.length) = True := eq_true hc
                              have CSM := Lib.hid (fun W (k : Bel w7 W) => rf_Same (.slice q7 (T.length - H.length) (c7 - H.length)) (.slice q R.length c) R R W (by have := hPF W k; rwa [if_pos hc] at this) (probs_sv (HO.out W k) ht2))
                              clear hc hPF
                              go_wp2_with (first
                                | (go_at_call 18; (with_reducible refine (CSM.out _ kr).mono ?_); rintro e w5 ⟨⟨r, rfl, hr⟩, h5⟩; have k5 : Bel w7 w5 := Bel.of kr h5; have hr2 := hr.2 rfl; subst hr2; clear h5 hr)
                                | (go_at_call 7; (with_reducible refine (CA.out _ (Bel.of kB k5.out)).mono ?_); rintro e w6 ⟨rfl, h6⟩; have k6 : Bel w w6 := Bel.of (Bel.of kB k5.out) h6; clear h6))
                              go_ret
                              exact ⟨rfl, k6.out⟩
                            · have hc2 : (c7 = H.length) = False := eq_false hc
                              obtain ⟨g, hq7⟩ : ∃ g, q7 = some ⟨g, 0, none⟩ := by
                                rcases (HO7.out _ kr).2 with ⟨hv, hx⟩ | ⟨g, _, _, hv, _⟩
                                · exfalso
                                  have h1 : c7 = 0 := by injection hv
                                  have := HTl.out
                                  omega
                                · exact ⟨g, by injection hv⟩
                              subst hq7
                              have CSM := Lib.hid (fun W (k : Bel w7 W) => rf_Same (.slice (some ⟨g, H.length * 3, none⟩) (T.length - H.length) (c7 - H.length)) (.slice q R.length c) R R W (by have := hPF W k; rwa [if_neg hc, Option.map_some, addr_shift] at this) (probs_sv (HO.out W k) ht2))
                              clear hc hPF
                              go_wp2_with (first
                                | (go_at_call 18; (with_reducible refine (CSM.out _ kr).mono ?_); rintro e w5 ⟨⟨r, rfl, hr⟩, h5⟩; have k5 : Bel w7 w5 := Bel.of kr h5; have hr2 := hr.2 rfl; subst hr2; clear h5 hr)
                                | (go_at_call 7; (with_reducible refine (CA.out _ (Bel.of kB k5.out)).mono ?_); rintro e w6 ⟨rfl, h6⟩; have k6 : Bel w w6 := Bel.of (Bel.of kB k5.out) h6; clear h6))
                              go_ret
                              exact ⟨rfl, k6.out⟩




end Go.Proofs.YtigfjnbgchndkaaDoor
