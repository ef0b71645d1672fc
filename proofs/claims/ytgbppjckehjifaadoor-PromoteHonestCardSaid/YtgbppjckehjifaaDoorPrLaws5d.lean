/- The law PromoteHonest, joined. -/
import Derived.Test.YtgbppjckehjifaaDoorPrLaws5a
import Derived.Test.YtgbppjckehjifaaDoorPrLaws5b
import Derived.Test.YtgbppjckehjifaaDoorPrLaws5c
namespace Go.Proofs.YtgbppjckehjifaaDoor
open Go.RowKit
set_option linter.unusedVariables false
set_option linter.unusedSimpArgs false

theorem law_Honest (f a b : Int) (k x : Int) (t : ByteArray) (p1 p2 p3 p4 : Option Addr) (n1 n2 n3 n4 q1 q2 q3 q4 : Nat) (w : World) (h0 : 0 ≤ x) (h1 : x < 18446744073709551616) (b1 : n1 ≤ 140737488355328) (b2 : n2 ≤ 140737488355328) (b3 : n3 ≤ 140737488355328) (b4 : n4 ≤ 140737488355328) (hT : Tab w) : Calls Tryd.prog 5 #[.agg #[.int .i64 f, .int .i64 a, .int .i64 b], .agg #[.int .i64 k, .int .u64 x, .string t, .slice p1 n1 q1, .slice p2 n2 q2, .slice p3 n3 q3, .slice p4 n4 q4]] w fun e w' => e = .returned (.bool true) ∧ Below w.heap.size w w' := by
  have cA := Lib.hid (fun W h => law_awake W h)
  have cl := Lib.hid (fun W h => pr_Level f a b W h)
  obtain ⟨K1, X1, T1, ct⟩ := turn_some (f := f) (a := a) (b := b) k x t p1 p2 p3 p4 n1 n2 n3 n4 q1 q2 q3 q4 h0 h1 b1 b2 b3 b4
  have ct := Lib.hid ct
  by_cases hk : k = a
  · have hk' : (k != a) = false := by rw [hk]; exact bne_self_eq_false a
    have cf := Lib.hid (fun W => sc_Fits a k x t p1 p2 p3 p4 n1 n2 n3 n4 q1 q2 q3 q4 W h0 h1 b1 b2 b3 b4)
    cases hf : Pr.fitsB a k x t.data.toList (n1 + n2 + n3 + n4)
    · rw [hf] at cf
      exact law_H2 f a b k x t p1 p2 p3 p4 n1 n2 n3 n4 q1 q2 q3 q4 w _ _ _ hT _ _ cl ct cf cA hk' (ne0 (Pr.turnE_bad hf))
    · rw [hf] at cf
      have ha := (Pr.fits_parts hf).1
      have cz := Lib.hid (fun W => sc_Zero a W ha)
      have hzz : ∀ m : Nat, m = 0 → m ≤ 140737488355328 := by intro m h; omega
      have NB : (0 : Int) ≤ 0 ∧ (0 : Int) < 18446744073709551616 := by decide
      have H0 := hzz 0 rfl
      rcases Pr.lev_three f a b with hl | hl | hl
      · rw [hl] at cl
        obtain ⟨k', o, hex⟩ := exam_zero hl
        have ce : ∀ W, Tab W → _ := fun W h => pr_Example f a b W h
        rw [hex] at ce
        obtain ⟨K2, X2, T2, cu⟩ := turn_some (f := f) (a := a) (b := b) k' 0 ⟨#[]⟩ none none none none 0 0 0 0 0 0 0 0 NB.1 NB.2 H0 H0 H0 H0
        obtain ⟨K3, X3, T3, cv⟩ := turn_some (f := f) (a := a) (b := b) a 0 ⟨#[]⟩ none none none none 0 0 0 0 0 0 0 0 NB.1 NB.2 H0 H0 H0 H0
        exact law_H3 f a b k x t p1 p2 p3 p4 n1 n2 n3 n4 q1 q2 q3 q4 w k' 0 K1 X1 K2 X2 K3 X3 ⟨#[]⟩ T1 T2 T3 hT o _ _ _ cl ct cf (Lib.hid ce) (Lib.hid cu) cz (Lib.hid cv) cA hk' (ne0 (Pr.honest0 hl)) (ne0 (Pr.honest0 hl))
      · rw [hl] at cl
        obtain ⟨X, T, hex, x0, x1, tl, fw, g1, z1, _⟩ := Pr.honest1 hl
        have ce : ∀ W, Tab W → _ := fun W h => pr_Example f a b W h
        rw [hex] at ce
        obtain ⟨K2, X2, T2, cu⟩ := turn_some (f := f) (a := a) (b := b) a X (S T) none none none none 0 0 0 0 0 0 0 0 x0 x1 H0 H0 H0 H0
        have cv := turn_good (f := f) (a := a) (b := b) a 0 ⟨#[]⟩ none none none none 0 0 0 0 0 0 0 0 NB.1 NB.2 H0 H0 H0 H0 z1
        have cw := fun W => sc_Fits a a X (S T) none none none none 0 0 0 0 0 0 0 0 W x0 x1 H0 H0 H0 H0
        have hfw : Pr.fitsB a a X (S T).data.toList (0 + 0 + 0 + 0) = true := fw
        rw [hfw] at cw
        exact law_H4 f a b k x t p1 p2 p3 p4 n1 n2 n3 n4 q1 q2 q3 q4 w a X K1 X1 K2 X2 b _ (S T) T1 T2 ⟨#[]⟩ hT true _ _ 0 cl ct cf (Lib.hid ce) (Lib.hid cu) cz (Lib.hid cv) cA hk' (Lib.hid cw) (ne0 g1)
      · rw [hl] at cl
        obtain ⟨he, hex⟩ := Pr.honest2 h0 h1 hl hf
        have ce : ∀ W, Tab W → _ := fun W h => pr_Example f a b W h
        rw [hex] at ce
        rw [he] at ct
        obtain ⟨K2, X2, T2, cu⟩ := turn_some (f := f) (a := a) (b := b) 0 0 ⟨#[]⟩ none none none none 0 0 0 0 0 0 0 0 NB.1 NB.2 H0 H0 H0 H0
        obtain ⟨K3, X3, T3, cv⟩ := turn_some (f := f) (a := a) (b := b) a 0 ⟨#[]⟩ none none none none 0 0 0 0 0 0 0 0 NB.1 NB.2 H0 H0 H0 H0
        exact law_H5 f a b k x t p1 p2 p3 p4 n1 n2 n3 n4 q1 q2 q3 q4 w 0 0 K1 X1 K2 X2 K3 X3 ⟨#[]⟩ T1 T2 T3 hT false 0 _ _ cl (Lib.hid ct.out) cf (Lib.hid ce) (Lib.hid cu) cz (Lib.hid cv) cA hk'
  · exact law_H1 f a b k x t p1 p2 p3 p4 n1 n2 n3 n4 q1 q2 q3 q4 w _ _ _ hT _ _ cl ct cA (bne_iff_ne.2 hk) (ne0 (Pr.turnE_bad (Pr.fits_kind hk)))
end Go.Proofs.YtgbppjckehjifaaDoor
