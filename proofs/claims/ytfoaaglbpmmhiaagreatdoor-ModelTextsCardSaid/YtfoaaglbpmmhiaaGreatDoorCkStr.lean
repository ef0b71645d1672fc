/- The library's searches in a slice of strings, by any function value that changes nothing that was there. -/
import Derived.Test.YtfoaaglbpmmhiaaGreatDoorCkIdx
import Derived.Test.YtfoaaglbpmmhiaaGreatDoorKitA
namespace Go.Proofs.YtfoaaglbpmmhiaaGreatDoor
open Go.RowKit Ck
set_option linter.unusedVariables false
set_option linter.unusedSimpArgs false

/-- a function value that answers p at the strings of xs -/
def PredS (w : World) (xs : List Str) (p : Str → Bool) (g : Nat) (lb : Array Value) : Prop :=
  ∀ (x : Str) (W : World), x ∈ xs → Bel w W → Calls Tryz.prog g (#[.string (S x)] ++ lb) W fun e w' => e = .returned (.bool (p x)) ∧ Below W.heap.size W w'
set_option maxHeartbeats 4000000 in
set_option maxRecDepth 100000 in
theorem ix_Str (g : Nat) (lb : Array Value) (eg : ∀ args w, (callFunc g args).run Tryz.prog w = .ok (.enter g args) w) (v : Value) (xs : List Str) (p : Str → Bool) (w : World)
    (hv : Texts w v xs) (hp : PredS w xs p g lb) :
    Calls Tryz.prog 150 #[v, .func (.func g) #[] lb] w fun e w' => e = .returned (.int .i64 (idxL p xs)) ∧ Below w.heap.size w w' := by
  obtain ⟨q, c, rfl, hl, hcap, hel⟩ := hv
  have EL := Lib.hid hel
  have HP := Lib.hid hp
  clear hel hp
  go_enter Tryz.func150, Tryz.ntmps150
  go_wp2
  go_loopw [5, 8] (fun _ i wr => ∃ k : Nat, k ≤ xs.length ∧ i = .int .i64 k ∧ Bel w wr ∧ Hid (∀ j y, j < k → xs[j]? = some y → p y = false)) (fun _ i _ => xs.length - (intOf i).toNat)
  case atStart => exact ⟨0, by omega, rfl, Bel.refl _, Lib.hid fun j y hj => absurd hj (Nat.not_lt_zero _)⟩
  case round =>
    obtain ⟨k, hk, rfl, kw, A⟩ := hrel
    by_cases hlt : k < xs.length
    · have hg : xs[k]? = some xs[k] := List.getElem?_eq_getElem hlt
      obtain ⟨b, off, rfl, hbs, vs, hce, hvs⟩ := EL.out k _ hg
      have hki : (k : Int) < (xs.length : Int) := by omega
      have hvs' : vs = [.string (S xs[k])] := hvs
      have e0 : wr.cell? ⟨b, off + k, none⟩ = some (.string (S xs[k])) := by
        have := hce 0 (.string (S xs[k])) (by rw [hvs']; rfl)
        rw [Nat.mul_one, Nat.add_zero] at this
        exact kw.some this
      have HG := Lib.hid hg
      have hcall := HP.out _ wr (List.getElem_mem hlt) kw
      clear hce hvs hvs' hg
      generalize xs[k] = y at *
      cases hq : p y with
      | true =>
        rw [hq] at hcall
        have HC := Lib.hid hcall
        have HQ := Lib.hid hq
        clear hcall hq
        go_wp2_with (go_at_fn g; (with_reducible refine HC.out.mono ?_); rintro e w' ⟨rfl, hb'⟩)
        go_ret
        exact ⟨ret_int (idxL_hit p xs k y HG.out HQ.out A.out).symm, Bel.of kw hb'⟩
      | false =>
        rw [hq] at hcall
        have HC := Lib.hid hcall
        have HQ := Lib.hid hq
        clear hcall hq
        go_wp2_with (go_at_fn g; (with_reducible refine HC.out.mono ?_); rintro e w' ⟨rfl, hb'⟩; have k2 := Bel.of kw hb'; clear hb')
        refine ⟨⟨k + 1, by omega, rfl, k2, Lib.hid fun j z hj hz => ?_⟩, by simp [intOf]; omega⟩
        by_cases e : j = k
        · subst e
          have := HG.out
          rw [hz] at this
          cases this
          exact HQ.out
        · exact A.out j z (by omega) hz
    · have hki : ¬ (k : Int) < (xs.length : Int) := by omega
      have hkl : k = xs.length := by omega
      subst hkl
      go_wp2
      go_ret
      exact ⟨ret_int (idxL_miss p xs A.out).symm, kw.out⟩
set_option maxHeartbeats 4000000 in
set_option maxRecDepth 100000 in
theorem cf_Str (g : Nat) (lb : Array Value) (eg : ∀ args w, (callFunc g args).run Tryz.prog w = .ok (.enter g args) w) (v : Value) (xs : List Str) (p : Str → Bool) (w : World)
    (hv : Texts w v xs) (hp : PredS w xs p g lb) :
    Calls Tryz.prog 112 #[v, .func (.func g) #[] lb] w fun e w' => e = .returned (.bool (xs.any p)) ∧ Below w.heap.size w w' := by
  have ci := Lib.hid (fun W (h : Texts W v xs) (h2 : PredS W xs p g lb) => ix_Str g lb eg v xs p W h h2)
  have HV := Lib.hid hv
  have HP := Lib.hid hp
  have ha := Lib.hid (idxL_any p xs)
  clear hv hp
  generalize idxL p xs = R at ci ha
  go_enter Tryz.func112, Tryz.ntmps112
  go_wp2_with (go_at_call 150; (with_reducible refine (ci.out _ HV.out HP.out).mono ?_); rintro e w1 ⟨rfl, h1⟩)
  go_ret
  exact ⟨ret_bool ha.out, h1⟩
end Go.Proofs.YtfoaaglbpmmhiaaGreatDoor
