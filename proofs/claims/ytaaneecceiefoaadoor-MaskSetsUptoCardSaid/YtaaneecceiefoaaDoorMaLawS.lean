/- Law MaskSets walked. -/
import Derived.Test.YtaaneecceiefoaaDoorMaUnion
import Derived.Test.YtaaneecceiefoaaDoorMaMeet
import Derived.Test.YtaaneecceiefoaaDoorMaCov
import Derived.Test.YtaaneecceiefoaaDoorMzUnion
import Derived.Test.YtaaneecceiefoaaDoorMzMeet
import Derived.Test.YtaaneecceiefoaaDoorMzCov
import Derived.Test.YtaaneecceiefoaaDoorMzSorted
import Derived.Test.YtaaneecceiefoaaDoorMzFind
import Derived.Test.YtaaneecceiefoaaDoorMaAwake
namespace Go.Proofs.YtaaneecceiefoaaDoor
open Go.RowKit Ck Ma
set_option linter.unusedVariables false
set_option linter.unusedSimpArgs false
theorem same_call {n : Nat} {A1 A2 : Nat → Prop} {v1 v2 : Value} {l : List PMask} {W : World} (h1 : MaskD A1 n W v1 l) (h2 : MaskD A2 n W v2 l) : Calls Tryd.prog 14 #[v1, v2] W fun e w' => e = .returned (.bool true) ∧ Bel W w' :=
  (rm_Same n A1 A2 v1 v2 l l W h1 h2).mono fun e w' h => by rwa [samB_self h1.dp] at h
set_option maxHeartbeats 4000000 in
set_option maxRecDepth 100000 in
theorem law_Sets_a (n : Nat) (q1 q2 : Option Addr) (c1 c2 : Nat) (a b : List PMask) (w0 : World) (h1 : MaskD (fun b => b < w0.heap.size) (n + 1) w0 (.slice q1 a.length c1) a) (hs : srtB (n + 1) a = false) :
    Calls Tryd.prog 5 #[.slice q1 a.length c1, .slice q2 b.length c2] w0 fun e w' => e = .returned (.bool true) ∧ Bel w0 w' := by
  have CS1 := Lib.hid (rm_Sorted (n + 1) _ _ a w0 h1)
  rw [hs] at CS1
  clear hs h1
  go_enter Tryd.func5, Tryd.ntmps5
  go_wp2_with (go_at_call 13; (with_reducible refine CS1.out.mono ?_); rintro e w1 ⟨rfl, k1⟩)
  go_ret
  exact ⟨rfl, k1⟩
set_option maxHeartbeats 4000000 in
set_option maxRecDepth 100000 in
theorem law_Sets_b (n : Nat) (q1 q2 : Option Addr) (c1 c2 : Nat) (a b : List PMask) (w0 : World) (h1 : MaskD (fun b => b < w0.heap.size) (n + 1) w0 (.slice q1 a.length c1) a) (h2 : MaskD (fun b => b < w0.heap.size) (n + 1) w0 (.slice q2 b.length c2) b) (hs : srtB (n + 1) a = true) (hs2 : srtB (n + 1) b = false) :
    Calls Tryd.prog 5 #[.slice q1 a.length c1, .slice q2 b.length c2] w0 fun e w' => e = .returned (.bool true) ∧ Bel w0 w' := by
  have CS1 := Lib.hid (rm_Sorted (n + 1) _ _ a w0 h1)
  have CS2 := Lib.hid (fun W (k : Bel w0 W) => rm_Sorted (n + 1) _ _ b W (h2.bel k))
  rw [hs] at CS1
  rw [hs2] at CS2
  clear hs hs2 h1 h2
  go_enter Tryd.func5, Tryd.ntmps5
  go_wp2_with (first
    | (go_at_call 13; (with_reducible refine CS1.out.mono ?_); rintro e w1 ⟨rfl, k1⟩; clear CS1)
    | (go_at_call 13; (with_reducible refine (CS2.out _ k1).mono ?_); rintro e w2 ⟨rfl, k2⟩))
  go_ret
  exact ⟨rfl, Bel.of k1 k2⟩
set_option maxHeartbeats 4000000 in
set_option maxRecDepth 100000 in
theorem law_Sets_c (n : Nat) (q1 q2 : Option Addr) (c1 c2 : Nat) (a b : List PMask) (w0 : World) (h1 : MaskD (fun b => b < w0.heap.size) (n + 1) w0 (.slice q1 a.length c1) a) (h2 : MaskD (fun b => b < w0.heap.size) (n + 1) w0 (.slice q2 b.length c2) b) (hw1 : Wd 1000000000 (n + 1) a) (hw2 : Wd 1000000000 (n + 1) b) (hM : ML w0) (hs : srtB (n + 1) a = true) (hs2 : srtB (n + 1) b = true) :
    Calls Tryd.prog 5 #[.slice q1 a.length c1, .slice q2 b.length c2] w0 fun e w' => e = .returned (.bool true) ∧ Bel w0 w' := by
  have s1 := (srtB_iff (n + 1) h1.dp).1 hs
  have s2 := (srtB_iff (n + 1) h2.dp).1 hs2
  have CS1 := Lib.hid (rm_Sorted (n + 1) _ _ a w0 h1)
  have CS2 := Lib.hid (fun W (k : Bel w0 W) => rm_Sorted (n + 1) _ _ b W (h2.bel k))
  rw [hs] at CS1
  rw [hs2] at CS2
  have CU := Lib.hid (fun W (k : Bel w0 W) => mk_Union n _ _ _ a b W (fun b hb => Nat.lt_of_lt_of_le hb k.size) (h1.bel k) (h2.bel k) s1 s2 hw1 hw2)
  have CRU := Lib.hid (fun W (k : Bel w0 W) => rm_Union n _ _ _ a b W (fun b hb => Nat.lt_of_lt_of_le hb k.size) (h1.bel k) (h2.bel k) hw1 hw2)
  rw [← union_eq (n + 1) s1 s2] at CRU
  have CM := Lib.hid (fun W (k : Bel w0 W) => mk_Meet n _ _ _ a b W (fun b hb => Nat.lt_of_lt_of_le hb k.size) (h1.bel k) (h2.bel k) hw1 hw2)
  have CRM := Lib.hid (fun W (k : Bel w0 W) => rm_Meet n _ _ _ a b W (fun b hb => Nat.lt_of_lt_of_le hb k.size) (h1.bel k) (h2.bel k) hw1 hw2)
  have CC := Lib.hid (fun W (k : Bel w0 W) => mk_Covers n _ _ _ a b W (h1.bel k) (h2.bel k))
  have CRC := Lib.hid (fun W (k : Bel w0 W) => rm_Covers n _ _ _ a b W (h1.bel k) (h2.bel k))
  have CA := Lib.hid (fun W (k : Bel w0 W) => law_awake W (hM.below k))
  generalize union (n + 1) a b = U at CU CRU
  generalize meet (n + 1) a b = X at CM CRM
  generalize covers (n + 1) a b = C at CC CRC
  unfold MaskOut at CU CRU CM CRM
  clear hs hs2 h1 h2 hw1 hw2 hM s1 s2
  go_enter Tryd.func5, Tryd.ntmps5
  go_wp2_with (first
    | (go_at_call 13; (with_reducible refine CS1.out.mono ?_); rintro e w1 ⟨rfl, k1⟩; clear CS1)
    | (go_at_call 13; (with_reducible refine (CS2.out _ k1).mono ?_); rintro e w2 ⟨rfl, k2⟩; have K2 := Lib.hid (Bel.of k1 k2); clear k1 k2 CS2)
    | (go_at_call 15; (with_reducible refine (CU.out _ K2.out).mono ?_); rintro e w3 ⟨u3, rfl, d3, k3⟩; have K3 := Lib.hid (Bel.of K2.out k3); have D3 := Lib.hid d3; clear k3 d3 CU K2)
    | (go_at_call 16; (with_reducible refine (CRU.out _ K3.out).mono ?_); rintro e w4 ⟨u4, rfl, d4, k4⟩; have K4 := Lib.hid (Bel.of K3.out k4); have CS := Lib.hid (same_call (D3.out.bel k4) d4); clear k4 d4 CRU D3 K3)
    | (go_at_call 14; (with_reducible refine CS.out.mono ?_); rintro e w5 ⟨rfl, k5⟩; have K5 := Lib.hid (Bel.of K4.out k5); clear k5 CS K4)
    | (go_at_call 17; (with_reducible refine (CM.out _ K5.out).mono ?_); rintro e w6 ⟨u6, rfl, d6, k6⟩; have K6 := Lib.hid (Bel.of K5.out k6); have D6 := Lib.hid d6; clear k6 d6 CM K5)
    | (go_at_call 18; (with_reducible refine (CRM.out _ K6.out).mono ?_); rintro e w7 ⟨u7, rfl, d7, k7⟩; have K7 := Lib.hid (Bel.of K6.out k7); have CS' := Lib.hid (same_call (D6.out.bel k7) d7); clear k7 d7 CRM D6 K6)
    | (go_at_call 14; (with_reducible refine CS'.out.mono ?_); rintro e w8 ⟨rfl, k8⟩; have K8 := Lib.hid (Bel.of K7.out k8); clear k8 CS' K7)
    | (go_at_call 19; (with_reducible refine (CC.out _ K8.out).mono ?_); rintro e w9 ⟨rfl, k9⟩; have K9 := Lib.hid (Bel.of K8.out k9); clear k9 CC K8)
    | (go_at_call 20; (with_reducible refine (CRC.out _ K9.out).mono ?_); rintro e w10 ⟨rfl, k10⟩; have K10 := Lib.hid (Bel.of K9.out k10); clear k10 CRC K9)
    | (go_at_call 11; (with_reducible refine (CA.out _ K10.out).mono ?_); rintro e w11 ⟨rfl, k11⟩; have K11 := Lib.hid (Bel.of K10.out k11); clear k11 CA K10))
  go_ret
  exact ⟨by simp, K11.out⟩
theorem law_Sets (n : Nat) (q1 q2 : Option Addr) (c1 c2 : Nat) (a b : List PMask) (w0 : World) (h1 : MaskD (fun b => b < w0.heap.size) (n + 1) w0 (.slice q1 a.length c1) a) (h2 : MaskD (fun b => b < w0.heap.size) (n + 1) w0 (.slice q2 b.length c2) b) (hw1 : Wd 1000000000 (n + 1) a) (hw2 : Wd 1000000000 (n + 1) b) (hM : ML w0) :
    Calls Tryd.prog 5 #[.slice q1 a.length c1, .slice q2 b.length c2] w0 fun e w' => e = .returned (.bool true) ∧ Bel w0 w' := by
  cases hs : srtB (n + 1) a with
  | false => exact law_Sets_a n q1 q2 c1 c2 a b w0 h1 hs
  | true =>
    cases hs2 : srtB (n + 1) b with
    | false => exact law_Sets_b n q1 q2 c1 c2 a b w0 h1 h2 hs hs2
    | true => exact law_Sets_c n q1 q2 c1 c2 a b w0 h1 h2 hw1 hw2 hM hs hs2
end Go.Proofs.YtaaneecceiefoaaDoor
