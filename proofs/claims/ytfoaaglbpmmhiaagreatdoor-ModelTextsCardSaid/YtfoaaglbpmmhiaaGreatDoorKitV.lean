/- The reference's layer 35 walked: decimal numerals, the first free name. -/
import Derived.Test.YtfoaaglbpmmhiaaGreatDoorKitT
import Derived.Lib.ItoaLen
import Derived.Test.YtfoaaglbpmmhiaaGreatDoorMdAwake
namespace Go.Proofs.YtfoaaglbpmmhiaaGreatDoor
open Go.RowKit Ck Md
set_option linter.unusedVariables false
set_option linter.unusedSimpArgs false
theorem conv_n (W : World) (c : UInt8) (n : Int) (h : n = c.toNat) : (convert 105 9 (.slice (some ⟨W.heap.size, 0, none⟩) 1 1)).run Tryz.prog (W.alloc (.cells #[.int .u8 n] 5)) = .ok (.string (S [c])) (W.alloc (.cells #[.int .u8 n] 5)) := by
  subst h; exact conv_byte W c
def dg (u : Nat) : UInt8 := UInt8.ofNat (48 + u % 10)
theorem dg_nat (u : Nat) : ((dg u).toNat : Int) = 48 + (u : Int) % 10 := by
  unfold dg
  rw [UInt8.toNat_ofNat']
  omega
/-- the digits ahead of those that stand -/
def dgRest (u : Nat) : Str := if 10 ≤ u then Lib.decDigits (u / 10) else []
theorem dec_rest (u : Nat) : Lib.decDigits u = dgRest u ++ [dg u] := by
  unfold dgRest dg
  rw [Lib.decDigits]
  by_cases h : u < 10
  · rw [dif_pos h, if_neg (by omega), List.nil_append, show u % 10 = u by omega]
  · rw [dif_neg h, if_pos (by omega)]
theorem dec_len : ∀ u : Nat, u < 18446744073709551616 → (Lib.decDigits u).length ≤ 20 := fun u hu => by
  have h : ∀ (n : Nat) (u : Nat), u < 10 ^ n → 0 < n → (Lib.decDigits u).length ≤ n := by
    intro n
    induction n with
    | zero => intro u _ h; omega
    | succ n ih =>
      intro u hu _
      rw [Lib.decDigits]
      by_cases h : u < 10
      · rw [dif_pos h]
        simp
      · rw [dif_neg h, List.length_append, List.length_singleton]
        have hn : 0 < n := by
          rcases Nat.eq_zero_or_pos n with h0 | h0
          · subst h0; omega
          · exact h0
        have := ih (u / 10) (by rw [Nat.pow_succ] at hu; omega) hn
        omega
  exact h 20 u (by omega) (by omega)
set_option maxHeartbeats 4000000 in
set_option maxRecDepth 100000 in
theorem rd_digits (u : Nat) (w : World) (hu : u < 18446744073709551616) :
    Calls Tryz.prog 70 #[.int .u64 u] w fun e w' => e = .returned (.string (S (Lib.decDigits u))) ∧ Bel w w' := by
  have V := Lib.hid (dec_rest u).symm
  have hlen := dec_len u hu
  generalize Lib.decDigits u = T at V hlen
  have hd := dg_nat u
  have hcv := fun W => conv_n W (dg u) (48 + (u : Int) % 10) hd.symm
  have h0 : (0 : Int) ≤ u := by omega
  have hu' : (u : Int) < 18446744073709551616 := by omega
  have hw1 : IntKind.u64.wrap (48 + (u : Int) % 10) = 48 + (u : Int) % 10 := by
    have : IntKind.u64.wrap (48 + (u : Int) % 10) = (48 + (u : Int) % 10) % 18446744073709551616 := by simp [IntKind.wrap, IntKind.bits, IntKind.signed]
    omega
  have hw2 : IntKind.u8.wrap (48 + (u : Int) % 10) = 48 + (u : Int) % 10 := by
    have : IntKind.u8.wrap (48 + (u : Int) % 10) = (48 + (u : Int) % 10) % 256 := by simp [IntKind.wrap, IntKind.bits, IntKind.signed]
    omega
  have hc0 := hcv w
  have hld : (S [dg u]).size = 1 := rfl
  clear hd hcv
  go_enter Tryz.func70, Tryz.ntmps70
  go_wp2
  clear hc0 hw1 hw2 hld
  go_loopw [0, 3] (fun a s wr => ∃ (c : Nat) (acc : Str), a = .int .u64 c ∧ s = .string (S acc) ∧ c < 18446744073709551616 ∧ Bel w wr ∧ Hid (dgRest c ++ acc = T)) (fun a _ _ => (intOf a).toNat)
  case atStart => exact ⟨u, [dg u], rfl, rfl, hu, (Bel.refl w).alloc _, V⟩
  case round =>
    obtain ⟨c, acc, rfl, rfl, hc, hb, hT⟩ := hrel
    have hc0 : (0 : Int) ≤ c := by omega
    have hc1 : (c : Int) < 18446744073709551616 := by omega
    have hal : acc.length ≤ 20 := by
      have := congrArg List.length hT.out
      rw [List.length_append] at this
      omega
    by_cases h10 : 10 ≤ c
    · have h10i : (10 : Int) ≤ c := by omega
      have hT2 := Lib.hid (show dgRest (c / 10) ++ (dg (c / 10) :: acc) = T by
        rw [← hT.out]
        unfold dgRest
        rw [if_pos h10, dec_rest (c / 10)]
        simp [dgRest])
      have hd := dg_nat (c / 10)
      have hdi : ((c / 10 : Nat) : Int) = (c : Int) / 10 := by omega
      rw [hdi] at hd
      have hcv := conv_n wr (dg (c / 10)) (48 + (c : Int) / 10 % 10) hd.symm
      have HD := Lib.hid hdi
      have hw1 : IntKind.u64.wrap (48 + (c : Int) / 10 % 10) = 48 + (c : Int) / 10 % 10 := by
        have : IntKind.u64.wrap (48 + (c : Int) / 10 % 10) = (48 + (c : Int) / 10 % 10) % 18446744073709551616 := by simp [IntKind.wrap, IntKind.bits, IntKind.signed]
        omega
      have hw2 : IntKind.u8.wrap (48 + (c : Int) / 10 % 10) = 48 + (c : Int) / 10 % 10 := by
        have : IntKind.u8.wrap (48 + (c : Int) / 10 % 10) = (48 + (c : Int) / 10 % 10) % 256 := by simp [IntKind.wrap, IntKind.bits, IntKind.signed]
        omega
      have hsz1 : (S [dg (c / 10)]).size = 1 := rfl
      have hsz2 : (S acc).size = acc.length := S_size _
      have hq0 : (0 : Int) ≤ (c : Int) / 10 := by omega
      have hq1 : (c : Int) / 10 < 18446744073709551616 := by omega
      have HC := Lib.hid (show S [dg (c / 10)] ++ S acc = S (dg (c / 10) :: acc) by rw [S_app]; rfl)
      clear hT hd hdi
      generalize dg (c / 10) = DD at hT2 hcv hsz1 HC
      go_wp2
      go_roundw
      case rel => exact ⟨c / 10, DD :: acc, by rw [HD.out], by rw [HC.out], by omega, hb.alloc _, hT2⟩
      case measure => simp [intOf]; omega
    · have h10i : ¬ (10 : Int) ≤ c := by omega
      have hx := Lib.hid (show acc = T by rw [← hT.out]; unfold dgRest; rw [if_neg h10]; rfl)
      clear hT
      go_wp2
      go_ret
      exact ⟨ret_str (by rw [hx.out]), hb⟩
set_option maxHeartbeats 4000000 in
set_option maxRecDepth 100000 in
theorem rd_decimal (n : Int) (w : World) (h0 : -9223372036854775808 ≤ n) (h1 : n ≤ 9223372036854775807) :
    Calls Tryz.prog 53 #[.int .i64 n] w fun e w' => e = .returned (.string (S (Lib.itoa n))) ∧ Bel w w' := by
  by_cases hn : n < 0
  · have hv : Lib.itoa n = 45 :: Lib.decDigits n.natAbs := by unfold Lib.itoa; rw [if_pos hn]
    have V := Lib.hid hv
    have C := Lib.hid (fun W => rd_digits n.natAbs W (by omega))
    have hl := dec_len n.natAbs (by omega)
    generalize Lib.decDigits n.natAbs = T at C V hl
    have hsz := S_size T
    have hz : IntKind.u64.wrap (wrap64 (-n)) = (n.natAbs : Int) := by
      have h : ∀ x : Int, IntKind.u64.wrap x = x % 18446744073709551616 := fun x => by simp [IntKind.wrap, IntKind.bits, IntKind.signed]
      rw [h]
      unfold wrap64
      omega
    have C2 := Lib.hid (fun W => show Calls Tryz.prog 70 #[.int .u64 (IntKind.u64.wrap (wrap64 (-n)))] W (fun e w' => e = .returned (.string (S T)) ∧ Bel W w') from by rw [hz]; exact C.out W)
    clear hz C hv
    go_enter Tryz.func53, Tryz.ntmps53
    go_wp2_with (go_at_call 70; (with_reducible refine (C2.out _).mono ?_); rintro e w1 ⟨rfl, k1⟩)
    go_ret
    exact ⟨ret_str (by rw [V.out, show (45 :: T) = [45] ++ T from rfl, ← S_app]; rfl), k1⟩
  · have hv : Lib.itoa n = Lib.decDigits n.toNat := by unfold Lib.itoa; rw [if_neg hn]
    have V := Lib.hid hv
    obtain ⟨k, hk⟩ : ∃ k : Nat, n = k := ⟨n.toNat, by omega⟩
    subst hk
    have C := Lib.hid (fun W => rd_digits k W (by omega))
    clear hv
    rw [Int.toNat_natCast] at V
    generalize Lib.decDigits k = T at C V
    have hw : IntKind.u64.wrap (k : Int) = k := by
      have : IntKind.u64.wrap (k : Int) = (k : Int) % 18446744073709551616 := by simp [IntKind.wrap, IntKind.bits, IntKind.signed]
      omega
    go_enter Tryz.func53, Tryz.ntmps53
    go_wp2_with (go_at_call 70; (with_reducible refine (C.out _).mono ?_); rintro e w1 ⟨rfl, k1⟩)
    go_ret
    exact ⟨ret_str (by rw [V.out]), k1⟩
theorem cand_pos (name : Str) (k : Nat) : cand name (k + 1) = name ++ Lib.itoa ((k + 2 : Nat) : Int) := rfl
set_option maxHeartbeats 4000000 in
set_option maxRecDepth 100000 in
theorem rd_Unique (v : Value) (ks : List Str) (name : Str) (w : World) (h : Strs w v ks) (hn : name.length ≤ 1000000000000000) (hk : ks.length ≤ 1000000000) :
    Calls Tryz.prog 19 #[v, .string (S name)] w fun e w' => e = .returned (.string (S (unique ks name))) ∧ Bel w w' := by
  have CH := Lib.hid (fun W (k : Bel w W) x => rd_Has v ks (S x) x W (h.below k.out) (S_list x))
  have CI := Lib.hid (fun W (n : Nat) (hn : n ≤ 4000000000) => rd_decimal n W (by omega) (by omega))
  have V := Lib.hid (show uniqF ks name ks.length 0 = unique ks name from rfl)
  generalize unique ks name = U at V
  clear h
  have z1 : (S name).size = name.length := S_size _
  by_cases h0 : Id.has ks name = true
  · have hk1 : 1 ≤ ks.length := by
      cases ks with
      | nil => simp [Id.has] at h0
      | cons a r => simp
    have C0 := Lib.hid (CH.out w (Bel.refl w) name)
    rw [h0] at C0
    have hm0 : name ∈ ks := has_mem.1 h0
    obtain ⟨f0, hf0⟩ : ∃ f0, ks.length = f0 + 1 := ⟨ks.length - 1, by omega⟩
    have V1 := Lib.hid (show uniqF ks name f0 1 = U by
      have := V.out
      rw [hf0, uniqF] at this
      rwa [if_pos (show Id.has ks (cand name 0) = true from h0)] at this)
    have HF := Lib.hid hf0
    clear V hf0 h0
    go_enter Tryz.func19, Tryz.ntmps19
    go_wp2_with (go_at_call 20; (with_reducible refine C0.out.mono ?_); rintro e w1 ⟨rfl, rfl⟩)
    go_loopw [5] (fun n wr => ∃ (k f : Nat), f + (k + 1) = ks.length ∧ n = .int .i64 (k + 2) ∧ Bel w wr ∧ Hid (∀ j, j < k + 1 → cand name j ∈ ks) ∧ Hid (uniqF ks name f (k + 1) = U)) (fun n _ => ks.length + 2 - (intOf n).toNat)
    case atStart => exact ⟨0, f0, by have := HF.out; omega, rfl, Bel.refl _, Lib.hid (fun j hj => by
      have : j = 0 := by omega
      subst this
      exact hm0), V1⟩
    case round =>
      clear V1 HF hm0 C0
      obtain ⟨k, f, hf, rfl, hb, hfree, hU⟩ := hrel
      have hl := itoa_len21 (k + 2) (by omega)
      have CI2 := Lib.hid (fun W => CI.out W (k + 2) (by omega))
      have e2 : ((k + 2 : Nat) : Int) = (k : Int) + 2 := by omega
      have hc : Hid (S name ++ S (Lib.itoa ((k + 2 : Nat) : Int)) = S (cand name (k + 1))) := Lib.hid (by rw [S_app]; rfl)
      have CH2 := Lib.hid (fun W (kk : Bel w W) => CH.out W kk (cand name (k + 1)))
      rw [← hc.out] at CH2
      by_cases hh : Id.has ks (cand name (k + 1)) = true
      · have hk1 := cand_free ks name (k + 2) (fun j hj => by
          rcases Nat.lt_or_ge j (k + 1) with h1 | h1
          · exact hfree.out j h1
          · have : j = k + 1 := by omega
            subst this
            exact has_mem.1 hh)
        have hfree2 : Hid (∀ j, j < k + 1 + 1 → cand name j ∈ ks) := Lib.hid (fun j hj => by
          rcases Nat.lt_or_ge j (k + 1) with h1 | h1
          · exact hfree.out j h1
          · have : j = k + 1 := by omega
            subst this
            exact has_mem.1 hh)
        obtain ⟨f2, rfl⟩ : ∃ f2, f = f2 + 1 := ⟨f - 1, by omega⟩
        have hU2 : Hid (uniqF ks name f2 (k + 1 + 1) = U) := Lib.hid (by have := hU.out; rwa [uniqF, if_pos hh] at this)
        rw [hh] at CH2
        generalize Lib.itoa ((k + 2 : Nat) : Int) = T at CI2 hc hl CH2
        rw [e2] at CI2
        have hsz2 : (S T).size = T.length := S_size _
        clear hfree hU hh CH CI hc e2
        go_wp2_with (first
          | (go_at_call 53; (with_reducible refine (CI2.out _).mono ?_); rintro e w2 ⟨rfl, k2⟩; have kk2 : Bel w w2 := Bel.of hb k2.out; clear k2)
          | (go_at_call 20; (with_reducible refine (CH2.out _ kk2).mono ?_); rintro e w1 ⟨rfl, rfl⟩))
        go_roundw
        case rel => exact ⟨k + 1, f2, by omega, by go_num, kk2, hfree2, hU2⟩
        case measure => simp [intOf]; omega
      · have hh' : Id.has ks (cand name (k + 1)) = false := by simpa using hh
        have hU2 : Hid (cand name (k + 1) = U) := Lib.hid (by
          have := hU.out
          cases f with
          | zero => exact this
          | succ f => rwa [uniqF, if_neg hh] at this)
        rw [hh'] at CH2
        generalize Lib.itoa ((k + 2 : Nat) : Int) = T at CI2 hc hl CH2
        rw [e2] at CI2
        have hsz2 : (S T).size = T.length := S_size _
        clear hfree hU hh hh' CH CI e2
        go_wp2_with (first
          | (go_at_call 20; (with_reducible refine (CH2.out _ (by (repeat (first | (with_reducible assumption) | (with_reducible exact Bel.refl _) | (with_reducible refine Bel.drew ?_) | (with_reducible refine Bel.drewN ?_ _) | (with_reducible refine Bel.alloc ?_ _) | ((with_reducible refine bel_set ?_ ?hge); (case hge => (first | omega | (simp; omega)))))))).mono ?_); rintro e w1 ⟨rfl, rfl⟩)
          | (go_at_call 53; (with_reducible refine (CI2.out _).mono ?_); rintro e w2 ⟨rfl, k2⟩; have kk2 : Bel w w2 := Bel.of (by (repeat (first | (with_reducible assumption) | (with_reducible exact Bel.refl _) | (with_reducible refine Bel.drew ?_) | (with_reducible refine Bel.drewN ?_ _) | (with_reducible refine Bel.alloc ?_ _) | ((with_reducible refine bel_set ?_ ?hge); (case hge => (first | omega | (simp; omega))))))) k2.out; clear k2))
        go_ret
        exact ⟨ret_str (by rw [← hU2.out, ← hc.out]), by (repeat (first | (with_reducible assumption) | (with_reducible exact Bel.refl _) | (with_reducible refine Bel.drew ?_) | (with_reducible refine Bel.drewN ?_ _) | (with_reducible refine Bel.alloc ?_ _) | ((with_reducible refine bel_set ?_ ?hge); (case hge => (first | omega | (simp; omega))))))⟩
  · have h0' : Id.has ks name = false := by simpa using h0
    have C0 := Lib.hid (CH.out w (Bel.refl w) name)
    rw [h0'] at C0
    have V1 := Lib.hid (show name = U by
      have := V.out
      cases hl : ks.length with
      | zero => rw [hl] at this; exact this
      | succ f =>
        rw [hl, uniqF] at this
        rwa [if_neg (show ¬ Id.has ks (cand name 0) = true from h0)] at this)
    clear V h0 h0' CH CI
    go_enter Tryz.func19, Tryz.ntmps19
    go_wp2_with (go_at_call 20; (with_reducible refine C0.out.mono ?_); rintro e w1 ⟨rfl, rfl⟩)
    go_ret
    exact ⟨ret_str (by rw [V1.out]), Bel.refl _⟩
end Go.Proofs.YtfoaaglbpmmhiaaGreatDoor

/- Law ModelUniques walked. -/
namespace Go.Proofs.YtfoaaglbpmmhiaaGreatDoor
open Go.RowKit Ck Md
set_option linter.unusedVariables false
set_option linter.unusedSimpArgs false
set_option maxHeartbeats 4000000 in
set_option maxRecDepth 100000 in
theorem law_Uniques_big (q : Option Addr) (n c : Nat) (s : ByteArray) (w : World) (hn : 60 < n) :
    Calls Tryz.prog 5 #[.slice q n c, .string s] w fun e w' => e = .returned (.bool true) ∧ Bel w w' := by
  have hn' : (60 : Int) < (n : Int) := by omega
  go_enter Tryz.func5, Tryz.ntmps5
  go_wp2
  go_ret
  exact ⟨rfl, Bel.refl _⟩
set_option maxHeartbeats 4000000 in
set_option maxRecDepth 100000 in
theorem law_Uniques (q : Option Addr) (n c : Nat) (ks : List Str) (name : Str) (w : World) (h : Strs w (.slice q n c) ks) (hn : n ≤ 60) (hk : ks.length ≤ 60) (hl : name.length ≤ 1000000000000000) (hP : PT w) (hM : ML w) :
    Calls Tryz.prog 5 #[.slice q n c, .string (S name)] w fun e w' => e = .returned (.bool true) ∧ Bel w w' := by
  have hn' : ¬ (60 : Int) < (n : Int) := by omega
  have C1 := Lib.hid (md_Unique _ ks name w h hP hl (by omega))
  have C2 := Lib.hid (fun W (k : Bel w W) => rd_Unique _ ks name W (h.below k.out) hl (by omega))
  have C3 := Lib.hid (fun W (k : Bel w W) => rd_Has _ ks (S (unique ks name)) (unique ks name) W (h.below k.out) (S_list _))
  have hf : Id.has ks (unique ks name) = false := by
    cases e : Id.has ks (unique ks name) with
    | false => rfl
    | true => exact absurd (has_mem.1 e) (unique_free ks name)
  rw [hf] at C3
  have C4 := Lib.hid (fun W (k : Bel w W) => law_awake W (hP.bel k) (hM.below k.out))
  generalize unique ks name = U at C1 C2 C3
  clear h hf hP hM
  go_enter Tryz.func5, Tryz.ntmps5
  go_wp2_with (first
    | (go_at_call 18; (with_reducible refine C1.out.mono ?_); rintro e w1 ⟨rfl, k1⟩)
    | (go_at_call 19; (with_reducible refine (C2.out _ k1).mono ?_); rintro e w2 ⟨rfl, k2⟩; have kk2 : Bel w w2 := Bel.of k1 k2.out)
    | (go_at_call 20; (with_reducible refine (C3.out _ kk2).mono ?_); rintro e w3 ⟨rfl, rfl⟩)
    | (go_at_call 14; (with_reducible refine (C4.out _ kk2).mono ?_); rintro e w4 ⟨rfl, k4⟩))
  go_ret
  exact ⟨rfl, Bel.of kk2 k4.out⟩
end Go.Proofs.YtfoaaglbpmmhiaaGreatDoor
