/- Law ModelTexts walked. Printed by genlawt.py. -/
import Derived.Test.YtfoaaglbpmmhiaaGreatDoorMdOpen
import Derived.Test.YtfoaaglbpmmhiaaGreatDoorMrText
import Derived.Test.YtfoaaglbpmmhiaaGreatDoorMdAwake
namespace Go.Proofs.YtfoaaglbpmmhiaaGreatDoor
open Go.RowKit Ck Md
set_option linter.unusedVariables false
set_option linter.unusedSimpArgs false
def msz (m : PMem) : Nat := m.name.length + m.ty.length
def dsz (d : PDecl) : Nat := d.name.length + d.frm.length + d.mems.length + (d.mems.map msz).sum
def sz (l : List PDecl) : Nat := l.length + (l.map dsz).sum
theorem take_sum {α : Type} (f : α → Nat) (l : List α) (k : Nat) (h : k < l.length) : ((l.take (k + 1)).map f).sum = ((l.take k).map f).sum + f l[k] := by
  rw [List.take_succ_eq_append_getElem h, List.map_append, List.sum_append]
  simp
theorem mem_le_sum {α : Type} (f : α → Nat) : ∀ (l : List α) (x : α), x ∈ l → f x ≤ (l.map f).sum
  | a :: l, x, h => by
    rw [List.map_cons, List.sum_cons]
    rcases List.mem_cons.1 h with rfl | h
    · omega
    · have := mem_le_sum f l x h
      omega
theorem memT_len (m : PMem) (h : MemB m) : (memT m).length ≤ 26 + msz m := by
  rw [memT_eq]
  have := Lib.itoa_length_le m.num h.2.2.1 h.2.2.2
  have h2 : (if m.ty = [] then ([] : Str) else 32 :: m.ty).length ≤ 1 + m.ty.length := by split <;> simp <;> omega
  unfold msz
  simp only [List.length_append, List.length_cons, List.length_nil] at h2 ⊢
  omega
theorem mems_len : ∀ (l : List PMem), (∀ m ∈ l, MemB m) → (l.flatMap memT).length ≤ 26 * l.length + (l.map msz).sum
  | [], _ => by simp
  | m :: l, h => by
    have h1 := memT_len m (h m (List.mem_cons_self ..))
    have h2 := mems_len l (fun x hx => h x (List.mem_cons_of_mem _ hx))
    rw [List.flatMap_cons, List.length_append, List.length_cons, List.map_cons, List.sum_cons]
    omega
theorem declT_len (d : PDecl) (h : DeclB d) : (declT d).length ≤ 11 + 26 * dsz d := by
  have h1 := mems_len d.mems h.2.2.2
  have h2 := kind_len d.kind
  rw [declT_eq]
  unfold headT dsz
  simp only [List.length_append, List.length_cons, List.length_nil]
  omega
theorem text_len : ∀ (l : List PDecl), (∀ d ∈ l, DeclB d) → (Md.text l).length ≤ 11 * l.length + 26 * (l.map dsz).sum
  | [], _ => by simp [Md.text]
  | d :: l, h => by
    have h1 := declT_len d (h d (List.mem_cons_self ..))
    have h2 := text_len l (fun x hx => h x (List.mem_cons_of_mem _ hx))
    rw [text_cons, List.length_append, List.length_cons, List.map_cons, List.sum_cons]
    omega
theorem declB_of (l : List PDecl) (hB : ∀ d ∈ l, DeclB d) (h : sz l ≤ 5000) : declB 1000000000 l := by
  unfold sz at h
  refine ⟨by have := text_len l hB; omega, fun d hd => ?_⟩
  have h1 := mem_le_sum dsz l d hd
  rw [show dsz d = d.name.length + d.frm.length + d.mems.length + (d.mems.map msz).sum from rfl] at h1
  refine ⟨by omega, by omega, fun m hm => ?_⟩
  have h2 := mem_le_sum msz d.mems m hm
  rw [show msz m = m.name.length + m.ty.length from rfl] at h2
  have h3 := (hB d hd).2.2.2 m hm
  exact ⟨by omega, by omega, h3.2.2.1, h3.2.2.2⟩
set_option maxHeartbeats 4000000 in
set_option maxRecDepth 100000 in
theorem md_size (v : Value) (l : List PDecl) (w : World) (hv : Decls w v l) (hB : ∀ d ∈ l, DeclB d) :
    Calls Tryz.prog 15 #[v] w fun e w' => ∃ n : Int, e = .returned (.int .i64 n) ∧ Hid (n ≤ 5000 → sz l ≤ 5000) ∧ Bel w w' := by
  obtain ⟨q, c, rfl, hl, hcap, hel⟩ := hv
  have EL := Lib.hid hel
  have HBd := Lib.hid hB
  clear hel hB
  go_enter Tryz.func15, Tryz.ntmps15
  go_wp2
  go_loopw [3, 4] (fun a i wr => ∃ (k n : Nat), k ≤ l.length ∧ i = .int .i64 k ∧ a = .int .i64 n ∧ n ≤ 140737488455327 ∧ Hid (Bel w wr) ∧ Hid (n < 99999 → l.length + ((l.take k).map dsz).sum ≤ n)) (fun _ i _ => l.length - (intOf i).toNat)
  case atStart => exact ⟨0, l.length, by omega, rfl, rfl, by omega, Lib.hid (Bel.refl _), Lib.hid (fun _ => by simp)⟩
  case round => as_aux_lemma =>
    obtain ⟨k, n, hk, rfl, rfl, hn, hb, hx⟩ := hrel
    by_cases hlt : k < l.length
    · have hki : (k : Int) < (l.length : Int) := by omega
      by_cases hn9 : n < 99999
      · have hni : (n : Int) < 99999 := by omega
        have hg := List.getElem?_eq_getElem hlt
        have hbd := HBd.out _ (List.getElem_mem hlt)
        obtain ⟨b, off, rfl, hbs, vs, hce, hvs⟩ := EL.out k _ hg
        obtain ⟨mv, hvs1, hmv⟩ := hvs
        subst hvs1
        have hx1 := Lib.hid (show l.length + ((l.take k).map dsz).sum ≤ n from hx.out hn9)
        have hx2 := Lib.hid (take_sum dsz l k hlt)
        clear hx
        generalize hd : l[k] = d at *
        clear hd
        obtain ⟨qm, cm, rfl, hml, hmc, hem⟩ := hmv
        have ED := Lib.hid (fun (W : World) (kk : Bel w W) => show W.cell? ⟨b, off + k * 4, none⟩ = some (.int .i64 d.kind) ∧ W.cell? ⟨b, off + k * 4 + 1, none⟩ = some (.string (S d.name)) ∧ W.cell? ⟨b, off + k * 4 + 2, none⟩ = some (.string (S d.frm)) ∧ W.cell? ⟨b, off + k * 4 + 3, none⟩ = some (.slice qm d.mems.length cm) from ⟨kk.some (by have := hce 0 (.int .i64 d.kind) rfl; rwa [Nat.add_zero] at this), kk.some (hce 1 _ rfl), kk.some (hce 2 _ rfl), kk.some (hce 3 _ rfl)⟩)
        have ELM := Lib.hid hem
        have HBm := Lib.hid hbd.2.2.2
        have hb1 := hbd.1
        have hb2 := hbd.2.1
        have hb3 := hbd.2.2.1
        clear hg hce hem hbd
        go_upto_region 5 with (fail)
        obtain ⟨wd, hwd⟩ : ∃ wd, wd = wr.drew := ⟨_, rfl⟩
        have HD := Lib.hid (show Bel w wd by rw [hwd]; exact hb.out.drew)
        have HWD := Lib.hid hwd
        clear hwd
        obtain ⟨y0, y1, y2, y3⟩ := ED.out _ HD.out
        clear y0
        have s1 : (S d.name).size = d.name.length := S_size _
        have s2 : (S d.frm).size = d.frm.length := S_size _
        obtain ⟨A, hA0⟩ : ∃ A : Nat, A = d.name.length + d.frm.length := ⟨_, rfl⟩
        obtain ⟨X, hX0⟩ : ∃ X : Nat, X = A + d.mems.length := ⟨_, rfl⟩
        obtain ⟨M, hM0, hM1, hM2⟩ : ∃ M : Nat, M ≤ 99999 ∧ (M = X ∨ M = 99999) ∧ min (X : Int) 99999 = M := by
          by_cases h : X ≤ 99999
          · exact ⟨X, h, .inl rfl, Int.min_eq_left (by omega)⟩
          · exact ⟨99999, by omega, .inr rfl, Int.min_eq_right (by omega)⟩
        have hX := Lib.hid (show X = d.name.length + d.frm.length + d.mems.length by omega)
        have hA : IntKind.i64.wrap ((d.name.length : Int) + (d.frm.length : Int)) = (A : Int) := by rw [IntWalk.i64_in _ (by omega)]; omega
        have hB : IntKind.i64.wrap ((A : Int) + (d.mems.length : Int)) = (X : Int) := by rw [IntWalk.i64_in _ (by omega)]; omega
        have hN : IntKind.i64.wrap ((n : Int) + (M : Int)) = (n : Int) + (M : Int) := IntWalk.i64_in _ (by omega)
        have HN := Lib.hid (show (n : Int) + (M : Int) = ((n + M : Nat) : Int) by omega)
        have HMM := Lib.hid hM1
        clear hA0 hX0 hM1
        refine rg_tail 22 (by kernel_rfl) (by kernel_rfl) HWD.out ?_
        (simp only [List.take_succ_cons, List.take_zero, List.drop_succ_cons, List.drop_zero]); (repeat (first | ((with_reducible refine wpStill_step (fun K hK => ?_)); go_simp; (with_reducible refine hK _ ?_); clear hK K) | ((with_reducible refine rg_skip ?_ ?_); (with_unfolding_all rfl)))); (with_reducible refine wpStill_nil ?_)
        go_upto_region 6 with (fail)
        have hnM : n + M ≤ 140737488455327 := by omega
        have hst := Lib.hid (show n + M < 99999 → n + X + ((d.mems.take 0).map msz).sum ≤ n + M by
          intro h
          rcases HMM.out with h2 | h2
          · simp [h2]
          · omega)
        generalize n + M = n1 at HN hst hnM
        clear hA hB hM2 y1 y2 y3 s1 s2 HWD HMM
        clear hN
        go_upto_region 7 with (fail)
        go_loopw [3, 5] (fun a i wr => ∃ (j n2 : Nat), j ≤ d.mems.length ∧ i = .int .i64 j ∧ a = .int .i64 n2 ∧ n2 ≤ 140737488455327 ∧ Hid (Bel w wr) ∧ Hid (n2 < 99999 → n + X + ((d.mems.take j).map msz).sum ≤ n2)) (fun _ i _ => d.mems.length - (intOf i).toNat)
        case atStart => exact ⟨0, n1, by omega, rfl, by rw [HN.out], hnM, HD, hst⟩
        case round =>
          clear HD hst hnM hb hni
          obtain ⟨j, n2, hj, rfl, rfl, hn2, hb, hx⟩ := hrel
          obtain ⟨y0, y1, y2, y3⟩ := ED.out _ hb.out
          clear y0 y1 y2
          by_cases hlt2 : j < d.mems.length
          · have hji : (j : Int) < (d.mems.length : Int) := by omega
            by_cases hn29 : n2 < 99999
            · have hni2 : (n2 : Int) < 99999 := by omega
              have hg2 := List.getElem?_eq_getElem hlt2
              have hbm := HBm.out _ (List.getElem_mem hlt2)
              obtain ⟨bm, om, rfl, hbsm, vs, hcem, hvsm⟩ := ELM.out j _ hg2
              have hvs' : vs = memC d.mems[j] := hvsm
              subst hvs'
              have hx3 := Lib.hid (show n + X + ((d.mems.take j).map msz).sum ≤ n2 from hx.out hn29)
              have hx4 := Lib.hid (take_sum msz d.mems j hlt2)
              clear hx
              generalize d.mems[j] = m at *
              go_upto_region 9 with (fail)
              obtain ⟨wd, hwd⟩ : ∃ wd, wd = wr.drew := ⟨_, rfl⟩
              have HD := Lib.hid (show Bel w wd by rw [hwd]; exact hb.out.drew)
              have HWD := Lib.hid hwd
              clear hwd y3
              obtain ⟨y0, y1, y2, y3⟩ := ED.out _ HD.out
              clear y0 y1 y2
              have kr := HD.out
              have x0 : wd.cell? ⟨bm, om + j * 3, none⟩ = some (.string (S m.name)) := kr.some (by have := hcem 0 (.string (S m.name)) rfl; rwa [Nat.add_zero] at this)
              have x1 : wd.cell? ⟨bm, om + j * 3 + 1, none⟩ = some (.string (S m.ty)) := kr.some (hcem 1 _ rfl)
              clear hg2 hcem hvsm kr
              have s1 : (S m.name).size = m.name.length := S_size _
              have s2 : (S m.ty).size = m.ty.length := S_size _
              have hb4 := hbm.1
              have hb5 := hbm.2.1
              clear hbm
              obtain ⟨Y, hY0⟩ : ∃ Y : Nat, Y = m.name.length + m.ty.length := ⟨_, rfl⟩
              obtain ⟨M2, hM0, hM1, hM2⟩ : ∃ M : Nat, M ≤ 99999 ∧ (M = Y ∨ M = 99999) ∧ min (Y : Int) 99999 = M := by
                by_cases h : Y ≤ 99999
                · exact ⟨Y, h, .inl rfl, Int.min_eq_left (by omega)⟩
                · exact ⟨99999, by omega, .inr rfl, Int.min_eq_right (by omega)⟩
              have hA : IntKind.i64.wrap ((m.name.length : Int) + (m.ty.length : Int)) = (Y : Int) := by rw [IntWalk.i64_in _ (by omega)]; omega
              have hN : IntKind.i64.wrap ((n2 : Int) + (M2 : Int)) = (n2 : Int) + (M2 : Int) := IntWalk.i64_in _ (by omega)
              have HN := Lib.hid (show (n2 : Int) + (M2 : Int) = ((n2 + M2 : Nat) : Int) by omega)
              have hst := Lib.hid (show n2 + M2 < 99999 → n + X + ((d.mems.take (j + 1)).map msz).sum ≤ n2 + M2 by
                intro h
                have h3 := hx3.out
                have h4 := hx4.out
                have h5 : msz m = m.name.length + m.ty.length := rfl
                rcases hM1 with h2 | h2 <;> omega)
              have hnM : n2 + M2 ≤ 140737488455327 := by omega
              clear hY0 hM1 hx3 hx4
              generalize n2 + M2 = n3 at HN hst hnM
              refine rg_tail 23 (by kernel_rfl) (by kernel_rfl) HWD.out ?_
              (simp only [List.take_succ_cons, List.take_zero, List.drop_succ_cons, List.drop_zero]); (repeat (first | ((with_reducible refine wpStill_step (fun K hK => ?_)); go_simp; (with_reducible refine hK _ ?_); clear hK K) | ((with_reducible refine rg_skip ?_ ?_); (with_unfolding_all rfl)))); (with_reducible refine wpStill_nil ?_)
              go_wp2
              go_roundw
              case rel => exact ⟨j + 1, n3, by omega, by go_num, by rw [HN.out], hnM, HD, hst⟩
              case measure => simp [intOf]; omega
            · have hni2 : ¬ (n2 : Int) < 99999 := by omega
              have hf := Lib.hid (show n2 < 99999 → l.length + ((l.take (k + 1)).map dsz).sum ≤ n2 from fun h => absurd h hn29)
              clear hx hn29
              go_wp2
              go_roundw
              case rel => exact ⟨k + 1, n2, by omega, by go_num, rfl, hn2, hb, hf⟩
              case measure => simp [intOf]; omega
          · have hji : ¬ (j : Int) < (d.mems.length : Int) := by omega
            have hf := Lib.hid (show n2 < 99999 → l.length + ((l.take (k + 1)).map dsz).sum ≤ n2 from fun h => by
              have h1 := hx.out h
              rw [List.take_of_length_le (by omega)] at h1
              have h2 := hx1.out
              have h3 := hx2.out
              have h4 := hX.out
              have h5 : dsz d = d.name.length + d.frm.length + d.mems.length + (d.mems.map msz).sum := rfl
              omega)
            clear hx
            go_wp2
            go_roundw
            case rel => exact ⟨k + 1, n2, by omega, by go_num, rfl, hn2, hb, hf⟩
            case measure => simp [intOf]; omega
      · have hni : ¬ (n : Int) < 99999 := by omega
        go_wp2
        go_ret
        exact ⟨_, rfl, Lib.hid (fun h => by omega), hb.out⟩
    · have hki : ¬ (k : Int) < (l.length : Int) := by omega
      go_wp2
      go_ret
      refine ⟨_, rfl, Lib.hid (fun h => ?_), hb.out⟩
      have := hx.out (by omega)
      rw [List.take_of_length_le (by omega)] at this
      unfold sz
      omega
set_option maxHeartbeats 4000000 in
set_option maxRecDepth 100000 in
theorem law_Texts (q : Option Addr) (c : Nat) (l : List PDecl) (w : World) (hv : Decls w (.slice q l.length c) l) (hB : ∀ d ∈ l, DeclB d) (hP : PT w) (hM : ML w) :
    Calls Tryz.prog 4 #[.slice q l.length c] w fun e w' => e = .returned (.bool true) ∧ Bel w w' := by
  have CS := Lib.hid (md_size _ l w hv hB)
  have C1 := Lib.hid (fun W (k : Bel w W) (h : sz l ≤ 5000) => md_Text _ l W (hv.bel VDecl.stays k) (hP.bel k) (declB_of l hB h))
  have C2 := Lib.hid (fun W (k : Bel w W) (h : sz l ≤ 5000) => rd_Text _ l W (hv.bel VDecl.stays k) (declB_of l hB h))
  have CA := Lib.hid (fun W (k : Bel w W) => law_awake W (hP.bel k) (hM.below k.out))
  generalize Md.text l = T at C1 C2
  clear hv hB hP hM
  go_enter Tryz.func4, Tryz.ntmps4
  go_upto_if 5 with (go_at_call 15; (with_reducible refine CS.out.mono ?_); rintro e w1 ⟨n, rfl, hn, k1⟩)
  by_cases h5 : 5000 < n
  · go_wp2
    go_ret
    exact ⟨rfl, k1⟩
  · have hz := hn.out (by omega)
    have D1 := Lib.hid (fun W (k : Bel w W) => C1.out W k hz)
    have D2 := Lib.hid (fun W (k : Bel w W) => C2.out W k hz)
    go_wp2_with (first
      | (go_at_call 16; (with_reducible refine (D1.out _ k1).mono ?_); rintro e w2 ⟨rfl, k2⟩; have kk2 : Bel w w2 := Bel.of k1 k2.out)
      | (go_at_call 17; (with_reducible refine (D2.out _ kk2).mono ?_); rintro e w3 ⟨rfl, k3⟩; have kk3 : Bel w w3 := Bel.of kk2 k3.out)
      | (go_at_call 14; (with_reducible refine (CA.out _ kk3).mono ?_); rintro e w4 ⟨rfl, k4⟩))
    go_ret
    exact ⟨rfl, Bel.of kk3 k4.out⟩
end Go.Proofs.YtfoaaglbpmmhiaaGreatDoor
