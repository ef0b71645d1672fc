/- Layer 12 walked: the closures of finite and cyclic; cyclic. Printed by genfin.py. -/
import Derived.Test.YtigfjnbgchndkaaDoorCkNeeds
import Derived.Test.YtigfjnbgchndkaaDoorKitC
import Derived.Test.YtigfjnbgchndkaaDoorKitA
import Derived.Deep.DeepCutAuto
namespace Go.Proofs.YtigfjnbgchndkaaDoor
open Go.RowKit Ck
set_option linter.unusedVariables false
set_option linter.unusedSimpArgs false

def boolElem : Value → Option (DataW Unit × List MemPlace)
  | .bool b => some (.lit (.bool b), [])
  | _ => none
theorem boolElem_inv {v : Value} {d : DataW Unit × List MemPlace} {b : Bool} (h : boolElem v = some d) (hd : d.1 = .lit (.bool b)) : v = .bool b := by
  unfold boolElem at h
  split at h
  · cases h
    simp at hd
    rw [hd]
  · cases h
def boolF (fin : Str → Bool) : Str → Option (DataW Unit) := fun k => if fin k = true then some (.lit (.bool true)) else none
theorem boolF_get (fin : Str → Bool) (k : Str) : (boolF fin k).getD (.lit (.bool false)) = .lit (.bool (fin k)) := by
  unfold boolF
  cases fin k <;> rfl
theorem bool_zero (w : World) : (zeroValue 4).run Tryd.prog w = .ok (.bool false) w := by kernel_rfl
theorem bool_look {w : World} {B k : Nat} {fin : Str → Bool} (m : MapIs boolElem w B k (boolF fin)) (n : Str) (hn : n.length ≤ 1000000000) : (Instr.lookup 81 (.map (some B)) (.string (S n)) false).run Tryd.prog w = .ok (.bool (fin n)) w := by
  obtain ⟨v, ps, h1, h2⟩ := m.look Tryd.underlying81 (bool_zero w) (zd := .lit (.bool false)) (zp := []) rfl n hn
  rw [boolF_get] at h2
  rw [h1, boolElem_inv h2 rfl]
set_option maxHeartbeats 4000000 in
set_option maxRecDepth 100000 in
theorem cl_finite (n : Str) (sq1 sq2 sq3 : Option Addr) (sm1 sm2 sm3 sc1 sc2 sc3 : Nat) (s : PSchema) (fin : Str → Bool) (Bs Bo Bm k : Nat) (W : World) (hv : VSchema W [.slice sq1 sm1 sc1, .slice sq2 sm2 sc2, .slice sq3 sm3 sc3] s) (h0 : W.cell? ⟨Bs, 0, none⟩ = some (.slice sq1 sm1 sc1)) (h1 : W.cell? ⟨Bs, 1, none⟩ = some (.slice sq2 sm2 sc2)) (h2 : W.cell? ⟨Bs, 2, none⟩ = some (.slice sq3 sm3 sc3)) (ho : W.cell? ⟨Bo, 0, none⟩ = some (.map (some Bm))) (hm : MapIs boolElem W Bm k (boolF fin)) (hn : n.length ≤ 1000000000) :
    Calls Tryd.prog 42 #[.string (S n), .pointer (some ⟨Bs, 0, none⟩), .pointer (some ⟨Bo, 0, none⟩)] W fun e w' => e = .returned (.bool ((msgOf s n).isSome && !fin n)) ∧ Below W.heap.size W w' := by
  have CM := Lib.hid (fun V => ck_message2 (.slice sq1 sm1 sc1) (.slice sq2 sm2 sc2) (.slice sq3 sm3 sc3) s n V)
  have HV := Lib.hid hv
  have hl0 := Lib.hid (fun W' (kk : Bel W W') => bool_look (hm.bel kk) n hn)
  have hbo : Bo < W.heap.size := World.block_lt_of_cell? W _ ho
  clear hv hm
  generalize hM : msgOf s n = M at CM
  have HM := Lib.hid hM
  clear hM
  generalize hF : fin n = F at hl0
  cases hQ : M.isSome
  all_goals
    have HQ := Lib.hid hQ
    go_enter Tryd.func42, Tryd.ntmps42
    go_upto_region 2 with (go_at_call 32; (with_reducible refine (CM.out _ HV.out).mono ?_); rintro e w1 ⟨ja, jb, jc, jd, je, jf, jg, jh, ji, jj, jk, jl, jm, rfl, _, g1⟩; have k1 : Bel W w1 := g1; have ho1 := k1.some ho; have hz := g1.size; clear g1)
    have hl := hl0.out _ (k1.alloc (.cells #[.string (S ja), .slice jb jf jj, .slice jc jg jk, .slice jd jh jl, .slice je ji jm] 38))
    have hb1 : Bo < w1.heap.size := (by omega)
    go_wp2
    all_goals go_ret
    all_goals exact ⟨ret_bool (by first | rfl | (rw [HQ.out]; rfl)), Bel.out (k1.alloc _)⟩
set_option maxHeartbeats 4000000 in
set_option maxRecDepth 100000 in
theorem cl_cyclic (n : Str) (sq1 sq2 sq3 : Option Addr) (sm1 sm2 sm3 sc1 sc2 sc3 : Nat) (s : PSchema) (fin : Str → Bool) (Bs Bo Bm k : Nat) (W : World) (hv : VSchema W [.slice sq1 sm1 sc1, .slice sq2 sm2 sc2, .slice sq3 sm3 sc3] s) (h0 : W.cell? ⟨Bs, 0, none⟩ = some (.slice sq1 sm1 sc1)) (h1 : W.cell? ⟨Bs, 1, none⟩ = some (.slice sq2 sm2 sc2)) (h2 : W.cell? ⟨Bs, 2, none⟩ = some (.slice sq3 sm3 sc3)) (ho : W.cell? ⟨Bo, 0, none⟩ = some (.map (some Bm))) (hm : MapIs boolElem W Bm k (boolF fin)) (hn : n.length ≤ 1000000000) :
    Calls Tryd.prog 61 #[.string (S n), .pointer (some ⟨Bs, 0, none⟩), .pointer (some ⟨Bo, 0, none⟩)] W fun e w' => e = .returned (.bool ((msgOf s n).isSome && !fin n)) ∧ Below W.heap.size W w' := by
  have CM := Lib.hid (fun V => ck_message2 (.slice sq1 sm1 sc1) (.slice sq2 sm2 sc2) (.slice sq3 sm3 sc3) s n V)
  have HV := Lib.hid hv
  have hl0 := Lib.hid (fun W' (kk : Bel W W') => bool_look (hm.bel kk) n hn)
  have hbo : Bo < W.heap.size := World.block_lt_of_cell? W _ ho
  clear hv hm
  generalize hM : msgOf s n = M at CM
  have HM := Lib.hid hM
  clear hM
  generalize hF : fin n = F at hl0
  cases hQ : M.isSome
  all_goals
    have HQ := Lib.hid hQ
    go_enter Tryd.func61, Tryd.ntmps61
    go_upto_region 2 with (go_at_call 32; (with_reducible refine (CM.out _ HV.out).mono ?_); rintro e w1 ⟨ja, jb, jc, jd, je, jf, jg, jh, ji, jj, jk, jl, jm, rfl, _, g1⟩; have k1 : Bel W w1 := g1; have ho1 := k1.some ho; have hz := g1.size; clear g1)
    have hl := hl0.out _ (k1.alloc (.cells #[.string (S ja), .slice jb jf jj, .slice jc jg jk, .slice jd jh jl, .slice je ji jm] 38))
    have hb1 : Bo < w1.heap.size := (by omega)
    go_wp2
    all_goals go_ret
    all_goals exact ⟨ret_bool (by first | rfl | (rw [HQ.out]; rfl)), Bel.out (k1.alloc _)⟩
theorem need_len (m : PMsg) (h : ∀ f ∈ m.fields, f.tn.length ≤ 1000000000) : ∀ x ∈ needs m, x.length ≤ 1000000000 := by
  intro x hx
  unfold needs at hx
  rw [List.mem_map] at hx
  obtain ⟨f, hf, rfl⟩ := hx
  exact h f (List.mem_filter.1 hf).1
set_option maxHeartbeats 4000000 in
set_option maxRecDepth 100000 in
theorem ck_cyclic (sq1 sq2 sq3 : Option Addr) (sm1 sm2 sm3 sc1 sc2 sc3 : Nat) (s : PSchema) (mn : Str) (mq1 mq2 mq3 mq4 : Option Addr) (mm1 mm2 mm3 mm4 mc1 mc2 mc3 mc4 : Nat) (m : PMsg) (fin : Str → Bool) (Bm k : Nat) (w : World) (hs : VSchema w [.slice sq1 sm1 sc1, .slice sq2 sm2 sc2, .slice sq3 sm3 sc3] s) (hv : VMsg w [.string (S mn), .slice mq1 mm1 mc1, .slice mq2 mm2 mc2, .slice mq3 mm3 mc3, .slice mq4 mm4 mc4] m) (hm : MapIs boolElem w Bm k (boolF fin)) (hn : ∀ f ∈ m.fields, f.tn.length ≤ 1000000000) (hfn : m.fields.length ≤ 2000000) :
    Calls Tryd.prog 39 #[.agg #[.slice sq1 sm1 sc1, .slice sq2 sm2 sc2, .slice sq3 sm3 sc3], .agg #[.string (S mn), .slice mq1 mm1 mc1, .slice mq2 mm2 mc2, .slice mq3 mm3 mc3, .slice mq4 mm4 mc4], .map (some Bm)] w fun e w' => e = .returned (.bool (cyclic s m fin)) ∧ Below w.heap.size w w' := by
  have CN := Lib.hid (fun W (kk : Bel w W) => ck_needs _ _ _ _ _ _ _ _ _ _ _ _ _ m W (VMsg.stays w W _ m kk hv) hfn)
  have hcc : ∀ (v : Value) (W : World), Texts W v (needs m) → Bel w W → W.cell? ⟨w.heap.size, 0, none⟩ = some (.slice sq1 sm1 sc1) → W.cell? ⟨w.heap.size, 1, none⟩ = some (.slice sq2 sm2 sc2) → W.cell? ⟨w.heap.size, 2, none⟩ = some (.slice sq3 sm3 sc3) → W.cell? ⟨w.heap.size + 1 + 1, 0, none⟩ = some (.map (some Bm)) →
      Calls Tryd.prog 40 #[v, .func (.func 61) #[] #[.pointer (some ⟨w.heap.size, 0, none⟩), .pointer (some ⟨w.heap.size + 1 + 1, 0, none⟩)]] W fun e w' => e = .returned (.bool (cyclic s m fin)) ∧ Below W.heap.size W w' := fun v W ht kW c0 c1 c2 co => by
    refine cf_Str _ _ (enters_of Tryd.func61 (by kernel_rfl) rfl) v (needs m) _ W ht (fun x W2 hx hb2 => ?_)
    exact cl_cyclic x _ _ _ _ _ _ _ _ _ s fin _ _ Bm k W2 (hs.stays_bel (Bel.of kW hb2)) (hb2.some c0) (hb2.some c1) (hb2.some c2) (hb2.some co) (hm.bel (Bel.of kW hb2)) (need_len m hn x hx)
  have CC := Lib.hid hcc
  have hKS : ∀ w', Bel (((w.alloc (.cells #[.slice sq1 sm1 sc1, .slice sq2 sm2 sc2, .slice sq3 sm3 sc3] 31)).alloc (.cells #[.string (S mn), .slice mq1 mm1 mc1, .slice mq2 mm2 mc2, .slice mq3 mm3 mc3, .slice mq4 mm4 mc4] 38)).alloc (.cells #[.map (some Bm)] 81)) w' → w'.cell? ⟨w.heap.size, 0, none⟩ = some (.slice sq1 sm1 sc1) ∧ w'.cell? ⟨w.heap.size, 1, none⟩ = some (.slice sq2 sm2 sc2) ∧ w'.cell? ⟨w.heap.size, 2, none⟩ = some (.slice sq3 sm3 sc3) ∧ w'.cell? ⟨w.heap.size + 1 + 1, 0, none⟩ = some (.map (some Bm)) := fun w' kk => by
    refine ⟨kk.some ?_, kk.some ?_, kk.some ?_, kk.some ?_⟩
    all_goals first
      | (rw [World.cell?_alloc_at _ _ _ _ (by simp)]; rfl)
      | (rw [World.cell?_alloc_past _ _ _ (by simp; omega), World.cell?_alloc_past _ _ _ (by simp), World.cell?_alloc_at _ _ _ _ rfl]; rfl)
      | (rw [World.cell?_alloc_past _ _ _ (by simp), World.cell?_alloc_past _ _ _ (by simp), World.cell?_alloc_at _ _ _ _ rfl]; rfl)
  have KS := Lib.hid hKS
  clear hs hm hcc hKS hv
  generalize cyclic s m fin = R at CC
  generalize needs m = T at CN CC
  go_enter Tryd.func39, Tryd.ntmps39
  go_wp2_with (first
    | (go_at_call 41; (with_reducible refine (CN.out _ (by (repeat (first | (with_reducible assumption) | (with_reducible exact Bel.refl _) | (with_reducible refine Bel.drew ?_) | (with_reducible refine Bel.drewN ?_ _) | (with_reducible refine Bel.alloc ?_ _))))).mono ?_); rintro e w1 ⟨v, rfl, ht, g1⟩; have k1 : Bel w w1 := Bel.of (by (repeat (first | (with_reducible assumption) | (with_reducible exact Bel.refl _) | (with_reducible refine Bel.drew ?_) | (with_reducible refine Bel.drewN ?_ _) | (with_reducible refine Bel.alloc ?_ _)))) g1; obtain ⟨c0, c1, c2, co⟩ := KS.out _ (show Bel _ w1 from g1); have HT := Lib.hid ht; clear g1 ht)
    | (go_at_call 40; (with_reducible refine (CC.out _ _ HT.out k1 c0 c1 c2 co).mono ?_); rintro e w2 ⟨rfl, g1⟩; have k2 : Bel w w2 := Bel.of k1 g1; clear g1))
  go_ret
  exact ⟨rfl, k2.out⟩
end Go.Proofs.YtigfjnbgchndkaaDoor
