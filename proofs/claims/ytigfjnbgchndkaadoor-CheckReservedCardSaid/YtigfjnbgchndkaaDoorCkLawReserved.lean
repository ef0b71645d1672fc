/- Layer 12's law CheckReserved walked. -/
import Derived.Test.YtigfjnbgchndkaaDoorKitF
namespace Go.Proofs.YtigfjnbgchndkaaDoor
open Go.RowKit Ck
set_option linter.unusedVariables false
set_option linter.unusedSimpArgs false
theorem reserved_take (l : List PSpan) (n : Int) (k : Nat) (x : PSpan) (h : l[k]? = some x) : reserved (l.take (k + 1)) n = (reserved (l.take k) n || decide (x.lo ≤ n ∧ n ≤ x.hi)) := by
  unfold reserved
  rw [List.take_add_one, h, List.any_append]
  simp
set_option maxHeartbeats 4000000 in
set_option maxRecDepth 100000 in
theorem law_Reserved (q : Option Addr) (c : Nat) (l : List PSpan) (n : Int) (w : World) (hM : ML w) (hv : Spans w (.slice q l.length c) l) :
    Calls Tryd.prog 3 #[.slice q l.length c, .int .i64 n] w fun e w' => e = .returned (.bool true) ∧ Below w.heap.size w w' := by
  have CA := Lib.hid (fun W (k : Bel w W) => law_awake W (hM.below k.out))
  have CR := Lib.hid (fun W (k : Bel w W) => ck_Reserved (.slice q l.length c) l n W (hv.bel VSpan.stays k))
  clear hM
  by_cases hbig : 300 < (l.length : Int)
  · clear hv CR
    go_enter Tryd.func3, Tryd.ntmps3
    go_wp2_with (go_at_call 7; (with_reducible refine (CA.out _ (Bel.refl _)).mono ?_); rintro e w1 ⟨rfl, h1⟩)
    go_ret
    exact ⟨rfl, h1⟩
  · have hle : l.length ≤ 300 := by omega
    have HV := Lib.hid hv
    clear hv
    have HR := Lib.hid (show reserved (l.take l.length) n = reserved l n by rw [List.take_length])
    generalize reserved l n = R at CR HR
    go_enter Tryd.func3, Tryd.ntmps3
    go_wp2
    go_loop [5, 6] (fun v i => ∃ (k : Nat) (B : Bool), k ≤ l.length ∧ i = .int .i64 k ∧ v = .bool B ∧ Hid (B = reserved (l.take k) n)) (fun _ i => l.length - (intOf i).toNat)
    case atStart => exact ⟨0, false, by omega, rfl, rfl, Lib.hid rfl⟩
    case round =>
      obtain ⟨k, B, hk, rfl, rfl, hB⟩ := hrel
      by_cases hlt : k < l.length
      · have hki : (k : Int) < (l.length : Int) := by omega
        have hg := List.getElem?_eq_getElem hlt
        obtain ⟨q', c', hq, _, _, hel⟩ := HV.out
        cases hq
        obtain ⟨b, off, rfl, hbs, cs, hce, hvs⟩ := hel k _ hg
        have hvs' : cs = [.int .i64 l[k].lo, .int .i64 l[k].hi] := hvs
        subst hvs'
        have e0 := hce 0 _ rfl
        rw [Nat.add_zero] at e0
        have e1 := hce 1 _ rfl
        have hst := reserved_take l n k _ hg
        clear hce hg hel hvs
        generalize l[k] = x at *
        by_cases h1 : x.lo ≤ n
        · by_cases h2 : n ≤ x.hi
          · have HX := Lib.hid (show true = reserved (l.take (k + 1)) n by rw [hst, decide_eq_true ⟨h1, h2⟩, Bool.or_true])
            clear hst
            go_wp2
            exact ⟨⟨k + 1, _, by omega, by go_num, rfl, HX⟩, by simp [intOf]; omega⟩
          · have HX := Lib.hid (show B = reserved (l.take (k + 1)) n by rw [hst, decide_eq_false (fun h => h2 h.2), Bool.or_false, hB.out])
            clear hst
            go_wp2
            exact ⟨⟨k + 1, _, by omega, by go_num, rfl, HX⟩, by simp [intOf]; omega⟩
        · have HX := Lib.hid (show B = reserved (l.take (k + 1)) n by rw [hst, decide_eq_false (fun h => h1 h.1), Bool.or_false, hB.out])
          clear hst
          go_wp2
          exact ⟨⟨k + 1, _, by omega, by go_num, rfl, HX⟩, by simp [intOf]; omega⟩
      · have hki : ¬ (k : Int) < (l.length : Int) := by omega
        have hBR : B = R := by
          rw [hB.out, ← HR.out, show k = l.length by omega]
        subst hBR
        clear hB HR HV
        go_wp2_with (first
          | (go_at_call 8; (with_reducible refine (CR.out _ (Bel.refl _)).mono ?_); rintro e w1 ⟨rfl, h1⟩)
          | (go_at_call 7; (with_reducible refine (CA.out _ (Bel.of (Bel.refl _) h1)).mono ?_); rintro e w2 ⟨rfl, h2⟩))
        go_ret
        exact ⟨rfl, Bel.out (Bel.of (Bel.of (Bel.refl _) h1) h2)⟩
end Go.Proofs.YtigfjnbgchndkaaDoor
