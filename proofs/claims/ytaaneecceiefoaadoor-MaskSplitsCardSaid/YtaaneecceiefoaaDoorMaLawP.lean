/- Law MaskSplits walked. Printed by gsplits.py. -/
import Derived.Test.YtaaneecceiefoaaDoorMaAdds
import Derived.Test.YtaaneecceiefoaaDoorKitQ
import Derived.Test.YtaaneecceiefoaaDoorKitA
import Derived.Test.YtaaneecceiefoaaDoorMaKeep
import Derived.Test.YtaaneecceiefoaaDoorMaDrop
import Derived.Test.YtaaneecceiefoaaDoorMaAwake
namespace Go.Proofs.YtaaneecceiefoaaDoor
open Go.RowKit Ma
set_option linter.unusedVariables false
set_option linter.unusedSimpArgs false
set_option maxHeartbeats 4000000 in
set_option maxRecDepth 100000 in
theorem law_Splits (N mk : Nat) (d : VC) (cv : CV) (q : Option Addr) (c : Nat) (m : List PMask) (w0 : World) (hd : ValC (fun b => b < w0.heap.size) N w0 d cv) (hm : MaskD (fun b => b < w0.heap.size) mk w0 (.slice q m.length c) m) (hw : WdV 1034834473170 N cv) (hM : ML w0) :
    Calls Tryd.prog 4 #[.agg d.cells.toArray, .slice q m.length c] w0 fun e w' => e = .returned (.bool true) ∧ Bel w0 w' := by
  have CK := Lib.hid (fun W (k : Bel w0 W) => show Calls Tryd.prog 7 #[.agg #[.int .i64 d.k, .int .u64 d.b, .string (S d.t), .slice d.p1 d.n1 d.c1, .slice d.p2 d.n2 d.c2, .slice d.p3 d.n3 d.c3, .slice d.p4 d.n4 d.c4], .slice q m.length c] W (fun e w' => ∃ d : VC, e = .returned (.agg #[.int .i64 d.k, .int .u64 d.b, .string (S d.t), .slice d.p1 d.n1 d.c1, .slice d.p2 d.n2 d.c2, .slice d.p3 d.n3 d.c3, .slice d.p4 d.n4 d.c4]) ∧ ValC (fun b => b < w0.heap.size ∨ W.heap.size ≤ b) N w' d (keep N cv m) ∧ Bel W w') from mk_Keep N _ mk d cv _ m W (fun b hb => Nat.lt_of_lt_of_le hb k.size) (hd.bel k) (hm.bel k) hw)
  have CDr := Lib.hid (fun W (k : Bel w0 W) => show Calls Tryd.prog 9 #[.agg #[.int .i64 d.k, .int .u64 d.b, .string (S d.t), .slice d.p1 d.n1 d.c1, .slice d.p2 d.n2 d.c2, .slice d.p3 d.n3 d.c3, .slice d.p4 d.n4 d.c4], .slice q m.length c] W (fun e w' => ∃ d : VC, e = .returned (.agg #[.int .i64 d.k, .int .u64 d.b, .string (S d.t), .slice d.p1 d.n1 d.c1, .slice d.p2 d.n2 d.c2, .slice d.p3 d.n3 d.c3, .slice d.p4 d.n4 d.c4]) ∧ ValC (fun b => b < w0.heap.size ∨ W.heap.size ≤ b) N w' d (drop N cv m) ∧ Bel W w') from mk_Drop N _ mk d cv _ m W (fun b hb => Nat.lt_of_lt_of_le hb k.size) (hd.bel k) (hm.bel k) hw)
  have CA := Lib.hid (fun W (k : Bel w0 W) => law_awake W (hM.below k))
  have HDV := Lib.hid hd
  have HM := Lib.hid hm
  obtain ⟨K1, hK1⟩ : ∃ K1, K1 = keep N cv m := ⟨_, rfl⟩
  obtain ⟨K2, hK2⟩ : ∃ K2, K2 = drop N cv m := ⟨_, rfl⟩
  rw [← hK1] at CK
  rw [← hK2] at CDr
  have HK1 := Lib.hid hK1
  have HK2 := Lib.hid hK2
  clear hd hm hw hM hK1 hK2
  show Calls _ _ #[.agg #[.int .i64 d.k, .int .u64 d.b, .string (S d.t), .slice d.p1 d.n1 d.c1, .slice d.p2 d.n2 d.c2, .slice d.p3 d.n3 d.c3, .slice d.p4 d.n4 d.c4], .slice q m.length c] _ _
  have HS := Lib.hid ((ST.start w0).addbox #[.int .i64 d.k, .int .u64 d.b, .string (S d.t), .slice d.p1 d.n1 d.c1, .slice d.p2 d.n2 d.c2, .slice d.p3 d.n3 d.c3, .slice d.p4 d.n4 d.c4] 28)
  go_enter Tryd.func4, Tryd.ntmps4
  go_upto_region 1 with (fail)
  generalize hwz : World.alloc _ _ = wz at HS ⊢
  clear hwz
  go_cut [5, 6] (fun s5 s6 wx => ∃ (g5 g6 : Nat) (d5 d6 : VC) (A5 A6 : Nat → Prop), s5 = .pointer (some ⟨g5, 0, none⟩) ∧ s6 = .pointer (some ⟨g6, 0, none⟩) ∧ Hid (ST w0 [] [⟨g6, #[.int .i64 d6.k, .int .u64 d6.b, .string (S d6.t), .slice d6.p1 d6.n1 d6.c1, .slice d6.p2 d6.n2 d6.c2, .slice d6.p3 d6.n3 d6.c3, .slice d6.p4 d6.n4 d6.c4], 28⟩, ⟨g5, #[.int .i64 d5.k, .int .u64 d5.b, .string (S d5.t), .slice d5.p1 d5.n1 d5.c1, .slice d5.p2 d5.n2 d5.c2, .slice d5.p3 d5.n3 d5.c3, .slice d5.p4 d5.n4 d5.c4], 28⟩, ⟨w0.heap.size, #[.int .i64 d.k, .int .u64 d.b, .string (S d.t), .slice d.p1 d.n1 d.c1, .slice d.p2 d.n2 d.c2, .slice d.p3 d.n3 d.c3, .slice d.p4 d.n4 d.c4], 28⟩] wx) ∧ Hid (ValC A5 N wx d5 K1) ∧ Hid (ValC A6 N wx d6 K2))
  case first => as_aux_lemma =>
    obtain ⟨wd, hwd⟩ : ∃ wd, wd = wz.drew := ⟨_, rfl⟩
    have T := Lib.hid (show ST w0 [] [⟨w0.heap.size, #[.int .i64 d.k, .int .u64 d.b, .string (S d.t), .slice d.p1 d.n1 d.c1, .slice d.p2 d.n2 d.c2, .slice d.p3 d.n3 d.c3, .slice d.p4 d.n4 d.c4], 28⟩] wd by rw [hwd]; exact HS.out.belw (Bel.refl _).drew)
    have swd := Lib.hid (show w0.heap.size < wd.heap.size from (T.out.boxlt 0 rfl).2)
    have HWD := Lib.hid hwd
    clear hwd HS
    have KS := Lib.hid (fun W (h : ST w0 [] [⟨w0.heap.size, #[.int .i64 d.k, .int .u64 d.b, .string (S d.t), .slice d.p1 d.n1 d.c1, .slice d.p2 d.n2 d.c2, .slice d.p3 d.n3 d.c3, .slice d.p4 d.n4 d.c4], 28⟩] W) => h)
    refine region_treeA (fun W => ST w0 [] [⟨w0.heap.size, #[.int .i64 d.k, .int .u64 d.b, .string (S d.t), .slice d.p1 d.n1 d.c1, .slice d.p2 d.n2 d.c2, .slice d.p3 d.n3 d.c3, .slice d.p4 d.n4 d.c4], 28⟩] W) (.take 0 (.take 1 (.take 3 (.take 4 (.alt 2 (.alt 5 (.alt 6 (.alt 7 .done .no) (.alt 7 (.alt 6 .done .no) .no)) (.alt 6 (.alt 5 (.alt 7 .done .no) (.alt 7 (.alt 5 .done .no) .no)) (.alt 7 (.alt 5 (.alt 6 .done .no) (.alt 6 (.alt 5 .done .no) .no)) .no))) (.alt 6 (.alt 2 (.alt 5 (.alt 7 .done .no) (.alt 7 (.alt 5 .done .no) .no)) (.alt 7 (.alt 2 (.alt 5 .done .no) .no) .no)) (.alt 7 (.alt 2 (.alt 5 (.alt 6 .done .no) (.alt 6 (.alt 5 .done .no) .no)) (.alt 6 (.alt 2 (.alt 5 .done .no) .no) .no)) .no))))))) 8 (by kernel_rfl) (by kernel_rfl) HWD.out T.out (fun a ha => ?_)
    (simp only [pickT, List.getD_cons_zero, List.getD_cons_succ])
    have hsz : a.tmps.size = 35 := (by rw [ha]; kernel_rfl)
    have a2 : a.eval (.tmp 2) = .pointer (some ⟨w0.heap.size, 0, none⟩) := (by rw [ha]; kernel_rfl)
    have a1 : a.eval (.tmp 1) = .slice q m.length c := (by rw [ha]; kernel_rfl)
    (with_reducible refine tree_held (v := ?_) rfl (by with_unfolding_all rfl) (fun ρ hρ W hW => ?_) ?_); (rotate_left 1)
    focus (have hS := KS.out _ hW; clear hW; have p2 := hρ (.tmp 2); (simp (disch := (first | decide | ((try simp only [sz_put]); rw [hsz]; decide))) only [ev_eq, ev_ne, a2, a1] at p2); have hc : ∀ c, ρ (.const c) = c := (fun c => hρ (.const c)); have hfn : ∀ f, ρ (.func f) = .func (.func f) #[] #[] := (fun f => hρ (.func f)); clear hρ; exact load_V p2 (hS.box 0 rfl) rfl)
    (with_reducible refine tree_held (v := ?_) rfl (by with_unfolding_all rfl) (fun ρ hρ W hW => ?_) ?_); (rotate_left 1)
    focus (clear hW; have p1 := hρ (.tmp 1); (simp (disch := (first | decide | ((try simp only [sz_put]); rw [hsz]; decide))) only [ev_eq, ev_ne, a2, a1] at p1); have hc : ∀ c, ρ (.const c) = c := (fun c => hρ (.const c)); have hfn : ∀ f, ρ (.func f) = .func (.func f) #[] #[] := (fun f => hρ (.func f)); clear hρ; go_simp; (all_goals (first | (with_reducible rfl) | (constructor <;> with_reducible rfl))))
    (with_reducible refine tree_held (v := ?_) rfl (by with_unfolding_all rfl) (fun ρ hρ W hW => ?_) ?_); (rotate_left 1)
    focus (have hS := KS.out _ hW; clear hW; have p2 := hρ (.tmp 2); (simp (disch := (first | decide | ((try simp only [sz_put]); rw [hsz]; decide))) only [ev_eq, ev_ne, a2, a1] at p2); have hc : ∀ c, ρ (.const c) = c := (fun c => hρ (.const c)); have hfn : ∀ f, ρ (.func f) = .func (.func f) #[] #[] := (fun f => hρ (.func f)); clear hρ; exact load_V p2 (hS.box 0 rfl) rfl)
    (with_reducible refine tree_held (v := ?_) rfl (by with_unfolding_all rfl) (fun ρ hρ W hW => ?_) ?_); (rotate_left 1)
    focus (clear hW; have p1 := hρ (.tmp 1); (simp (disch := (first | decide | ((try simp only [sz_put]); rw [hsz]; decide))) only [ev_eq, ev_ne, a2, a1] at p1); have hc : ∀ c, ρ (.const c) = c := (fun c => hρ (.const c)); have hfn : ∀ f, ρ (.func f) = .func (.func f) #[] #[] := (fun f => hρ (.func f)); clear hρ; go_simp; (all_goals (first | (with_reducible rfl) | (constructor <;> with_reducible rfl))))
    (with_reducible refine tree_enter (f := ?_) (args := ?_) rfl (by with_unfolding_all rfl) (fun ρ hρ => ?_) ?_ ?_); (rotate_left 2)
    focus (have p7 := hρ (.tmp 7); (simp (disch := (first | decide | ((try simp only [sz_put]); rw [hsz]; decide))) only [ev_eq, ev_ne, a2, a1] at p7); have p8 := hρ (.tmp 8); (simp (disch := (first | decide | ((try simp only [sz_put]); rw [hsz]; decide))) only [ev_eq, ev_ne, a2, a1] at p8); have hc : ∀ c, ρ (.const c) = c := (fun c => hρ (.const c)); have hfn : ∀ f, ρ (.func f) = .func (.func f) #[] #[] := (fun f => hρ (.func f)); clear hρ; rw [execOp_call_rho (hfn _)]; clear hfn; go_simp; (all_goals (first | (with_reducible rfl) | (constructor <;> with_reducible rfl))))
    (with_reducible refine (CK.out _ T.out.bel).mono ?_)
    rintro e w2 ⟨d5, rfl, h5, g⟩
    have g : Bel wd w2 := g
    have sw2 := Lib.hid (show wd.heap.size ≤ w2.heap.size from g.size)
    have T := Lib.hid (T.out.belw g)
    have V5 := Lib.hid (ValC.weak (A' := fun b => (b < w0.heap.size ∨ wd.heap.size ≤ b) ∧ b < w2.heap.size) h5 (fun b hb hl => ⟨hb, hl⟩))
    clear g h5
    refine ⟨_, rfl, T.out, ?_⟩
    · (with_reducible refine tree_enter (f := ?_) (args := ?_) rfl (by with_unfolding_all rfl) (fun ρ hρ => ?_) ?_ ?_); (rotate_left 2)
      focus (have p10 := hρ (.tmp 10); (simp (disch := (first | decide | ((try simp only [sz_put]); rw [hsz]; decide))) only [ev_eq, ev_ne, a2, a1] at p10); have p11 := hρ (.tmp 11); (simp (disch := (first | decide | ((try simp only [sz_put]); rw [hsz]; decide))) only [ev_eq, ev_ne, a2, a1] at p11); have hc : ∀ c, ρ (.const c) = c := (fun c => hρ (.const c)); have hfn : ∀ f, ρ (.func f) = .func (.func f) #[] #[] := (fun f => hρ (.func f)); clear hρ; rw [execOp_call_rho (hfn _)]; clear hfn; go_simp; (all_goals (first | (with_reducible rfl) | (constructor <;> with_reducible rfl))))
      (with_reducible refine (CDr.out _ T.out.bel).mono ?_)
      rintro e w5 ⟨d6, rfl, h6, g⟩
      have g : Bel w2 w5 := g
      have sw5 := Lib.hid (show w2.heap.size ≤ w5.heap.size from g.size)
      have T := Lib.hid (T.out.belw g)
      have V5 := Lib.hid (V5.out.bel g)
      have V6 := Lib.hid (ValC.weak (A' := fun b => (b < w0.heap.size ∨ w2.heap.size ≤ b) ∧ b < w5.heap.size) h6 (fun b hb hl => ⟨hb, hl⟩))
      clear g h6
      refine ⟨_, rfl, T.out, ?_⟩
      · (with_reducible refine tree_step (v := ?_) (w' := ?_) rfl (by with_unfolding_all rfl) (fun ρ hρ => ?_) ?_ ?_ ?_); (rotate_left 2)
        focus (have hc : ∀ c, ρ (.const c) = c := (fun c => hρ (.const c)); have hfn : ∀ f, ρ (.func f) = .func (.func f) #[] #[] := (fun f => hρ (.func f)); clear hρ; go_simp; (all_goals (first | (with_reducible rfl) | (constructor <;> with_reducible rfl))))
        focus exact (T.out.addbox #[.int .i64 0, .int .u64 0, .string ⟨#[]⟩, .slice none 0 0, .slice none 0 0, .slice none 0 0, .slice none 0 0] 28).dropbox0
        have T := Lib.hid (T.out.addbox #[.int .i64 0, .int .u64 0, .string ⟨#[]⟩, .slice none 0 0, .slice none 0 0, .slice none 0 0, .slice none 0 0] 28)
        have V5 := Lib.hid (V5.out.bel ((Bel.refl _).alloc (.cells #[.int .i64 0, .int .u64 0, .string ⟨#[]⟩, .slice none 0 0, .slice none 0 0, .slice none 0 0, .slice none 0 0] 28)))
        have V6 := Lib.hid (V6.out.bel ((Bel.refl _).alloc (.cells #[.int .i64 0, .int .u64 0, .string ⟨#[]⟩, .slice none 0 0, .slice none 0 0, .slice none 0 0, .slice none 0 0] 28)))
        have sw6 := Lib.hid (show (World.alloc w5 (.cells #[.int .i64 0, .int .u64 0, .string ⟨#[]⟩, .slice none 0 0, .slice none 0 0, .slice none 0 0, .slice none 0 0] 28)).heap.size = w5.heap.size + 1 by simp)
        generalize hA : World.alloc w5 _ = w6 at T sw6 V5 V6 ⊢
        clear hA
        · (with_reducible refine tree_step (v := ?_) (w' := ?_) rfl (by with_unfolding_all rfl) (fun ρ hρ => ?_) ?_ ?_ ?_); (rotate_left 2)
          focus (have hc : ∀ c, ρ (.const c) = c := (fun c => hρ (.const c)); have hfn : ∀ f, ρ (.func f) = .func (.func f) #[] #[] := (fun f => hρ (.func f)); clear hρ; go_simp; (all_goals (first | (with_reducible rfl) | (constructor <;> with_reducible rfl))))
          focus exact (T.out.addbox #[.int .i64 0, .int .u64 0, .string ⟨#[]⟩, .slice none 0 0, .slice none 0 0, .slice none 0 0, .slice none 0 0] 28).dropbox0.dropbox0
          have T := Lib.hid (T.out.addbox #[.int .i64 0, .int .u64 0, .string ⟨#[]⟩, .slice none 0 0, .slice none 0 0, .slice none 0 0, .slice none 0 0] 28)
          have V5 := Lib.hid (V5.out.bel ((Bel.refl _).alloc (.cells #[.int .i64 0, .int .u64 0, .string ⟨#[]⟩, .slice none 0 0, .slice none 0 0, .slice none 0 0, .slice none 0 0] 28)))
          have V6 := Lib.hid (V6.out.bel ((Bel.refl _).alloc (.cells #[.int .i64 0, .int .u64 0, .string ⟨#[]⟩, .slice none 0 0, .slice none 0 0, .slice none 0 0, .slice none 0 0] 28)))
          have sw7 := Lib.hid (show (World.alloc w6 (.cells #[.int .i64 0, .int .u64 0, .string ⟨#[]⟩, .slice none 0 0, .slice none 0 0, .slice none 0 0, .slice none 0 0] 28)).heap.size = w6.heap.size + 1 by simp)
          generalize hA : World.alloc w6 _ = w7 at T sw7 V5 V6 ⊢
          clear hA
          rotate_left 1
          focus exact tree_no
          (with_reducible refine tree_done ?_)
          (simp only [List.drop_succ_cons, List.drop_zero])
          subst ha
          (simp only [put_some, set_s, set_z])
          go_wp2_with (first
      | (refine wpl_store_box rfl 28 _ _ rfl (w5.heap.size) #[.int .i64 d5.k, .int .u64 d5.b, .string (S d5.t), .slice d5.p1 d5.n1 d5.c1, .slice d5.p2 d5.n2 d5.c2, .slice d5.p3 d5.n3 d5.c3, .slice d5.p4 d5.n4 d5.c4] #[.int .i64 0, .int .u64 0, .string ⟨#[]⟩, .slice none 0 0, .slice none 0 0, .slice none 0 0, .slice none 0 0] 28 rfl rfl (T.out.box 1 rfl) vr_V rfl (all_one (dc_one d5)) ?_; have T := Lib.hid (T.out.setrowbox 1 rfl #[.int .i64 d5.k, .int .u64 d5.b, .string (S d5.t), .slice d5.p1 d5.n1 d5.c1, .slice d5.p2 d5.n2 d5.c2, .slice d5.p3 d5.n3 d5.c3, .slice d5.p4 d5.n4 d5.c4]); have V5 := Lib.hid (V5.out.kept (Keep.grown (grown_setRow w7 (w5.heap.size) #[.int .i64 d5.k, .int .u64 d5.b, .string (S d5.t), .slice d5.p1 d5.n1 d5.c1, .slice d5.p2 d5.n2 d5.c2, .slice d5.p3 d5.n3 d5.c3, .slice d5.p4 d5.n4 d5.c4]) (fun b hb e => by have e2 : b = w5.heap.size := (by injection e); have z2 := sw2.out; have z5 := sw5.out; have z6 := sw6.out; have z7 := sw7.out; have z1 := swd.out; omega))); have V6 := Lib.hid (V6.out.kept (Keep.grown (grown_setRow w7 (w5.heap.size) #[.int .i64 d5.k, .int .u64 d5.b, .string (S d5.t), .slice d5.p1 d5.n1 d5.c1, .slice d5.p2 d5.n2 d5.c2, .slice d5.p3 d5.n3 d5.c3, .slice d5.p4 d5.n4 d5.c4]) (fun b hb e => by have e2 : b = w5.heap.size := (by injection e); have z2 := sw2.out; have z5 := sw5.out; have z6 := sw6.out; have z7 := sw7.out; have z1 := swd.out; omega))); generalize hwx : World.setRow w7 _ _ = wx at T V5 V6 ⊢; clear hwx)
      | (refine wpl_store_box rfl 28 _ _ rfl (w6.heap.size) #[.int .i64 d6.k, .int .u64 d6.b, .string (S d6.t), .slice d6.p1 d6.n1 d6.c1, .slice d6.p2 d6.n2 d6.c2, .slice d6.p3 d6.n3 d6.c3, .slice d6.p4 d6.n4 d6.c4] #[.int .i64 0, .int .u64 0, .string ⟨#[]⟩, .slice none 0 0, .slice none 0 0, .slice none 0 0, .slice none 0 0] 28 rfl rfl (T.out.box 0 rfl) vr_V rfl (all_one (dc_one d6)) ?_; have T := Lib.hid (T.out.setrowbox 0 rfl #[.int .i64 d6.k, .int .u64 d6.b, .string (S d6.t), .slice d6.p1 d6.n1 d6.c1, .slice d6.p2 d6.n2 d6.c2, .slice d6.p3 d6.n3 d6.c3, .slice d6.p4 d6.n4 d6.c4]); have V5 := Lib.hid (V5.out.kept (Keep.grown (grown_setRow wx (w6.heap.size) #[.int .i64 d6.k, .int .u64 d6.b, .string (S d6.t), .slice d6.p1 d6.n1 d6.c1, .slice d6.p2 d6.n2 d6.c2, .slice d6.p3 d6.n3 d6.c3, .slice d6.p4 d6.n4 d6.c4]) (fun b hb e => by have e2 : b = w6.heap.size := (by injection e); have z2 := sw2.out; have z5 := sw5.out; have z6 := sw6.out; have z7 := sw7.out; have z1 := swd.out; omega))); have V6 := Lib.hid (V6.out.kept (Keep.grown (grown_setRow wx (w6.heap.size) #[.int .i64 d6.k, .int .u64 d6.b, .string (S d6.t), .slice d6.p1 d6.n1 d6.c1, .slice d6.p2 d6.n2 d6.c2, .slice d6.p3 d6.n3 d6.c3, .slice d6.p4 d6.n4 d6.c4]) (fun b hb e => by have e2 : b = w6.heap.size := (by injection e); have z2 := sw2.out; have z5 := sw5.out; have z6 := sw6.out; have z7 := sw7.out; have z1 := swd.out; omega))); generalize hwy : World.setRow wx _ _ = wy at T V5 V6 ⊢; clear hwy))
          go_meet
          exact ⟨_, _, d5, d6, _, _, rfl, rfl, Lib.hid (T.out), V5, V6⟩
        (with_reducible refine tree_step (v := ?_) (w' := ?_) rfl (by with_unfolding_all rfl) (fun ρ hρ => ?_) ?_ ?_ ?_); (rotate_left 2)
        focus (have hc : ∀ c, ρ (.const c) = c := (fun c => hρ (.const c)); have hfn : ∀ f, ρ (.func f) = .func (.func f) #[] #[] := (fun f => hρ (.func f)); clear hρ; go_simp; (all_goals (first | (with_reducible rfl) | (constructor <;> with_reducible rfl))))
        focus exact (T.out.addbox #[.int .i64 0, .int .u64 0, .string ⟨#[]⟩, .slice none 0 0, .slice none 0 0, .slice none 0 0, .slice none 0 0] 28).dropbox0
        have T := Lib.hid (T.out.addbox #[.int .i64 0, .int .u64 0, .string ⟨#[]⟩, .slice none 0 0, .slice none 0 0, .slice none 0 0, .slice none 0 0] 28)
        have V5 := Lib.hid (V5.out.bel ((Bel.refl _).alloc (.cells #[.int .i64 0, .int .u64 0, .string ⟨#[]⟩, .slice none 0 0, .slice none 0 0, .slice none 0 0, .slice none 0 0] 28)))
        have V6 := Lib.hid (V6.out.bel ((Bel.refl _).alloc (.cells #[.int .i64 0, .int .u64 0, .string ⟨#[]⟩, .slice none 0 0, .slice none 0 0, .slice none 0 0, .slice none 0 0] 28)))
        have sw7 := Lib.hid (show (World.alloc w5 (.cells #[.int .i64 0, .int .u64 0, .string ⟨#[]⟩, .slice none 0 0, .slice none 0 0, .slice none 0 0, .slice none 0 0] 28)).heap.size = w5.heap.size + 1 by simp)
        generalize hA : World.alloc w5 _ = w7 at T sw7 V5 V6 ⊢
        clear hA
        rotate_left 1
        focus exact tree_no
        (with_reducible refine tree_step (v := ?_) (w' := ?_) rfl (by with_unfolding_all rfl) (fun ρ hρ => ?_) ?_ ?_ ?_); (rotate_left 2)
        focus (have hc : ∀ c, ρ (.const c) = c := (fun c => hρ (.const c)); have hfn : ∀ f, ρ (.func f) = .func (.func f) #[] #[] := (fun f => hρ (.func f)); clear hρ; go_simp; (all_goals (first | (with_reducible rfl) | (constructor <;> with_reducible rfl))))
        focus exact (T.out.addbox #[.int .i64 0, .int .u64 0, .string ⟨#[]⟩, .slice none 0 0, .slice none 0 0, .slice none 0 0, .slice none 0 0] 28).dropbox0.dropbox0
        have T := Lib.hid (T.out.addbox #[.int .i64 0, .int .u64 0, .string ⟨#[]⟩, .slice none 0 0, .slice none 0 0, .slice none 0 0, .slice none 0 0] 28)
        have V5 := Lib.hid (V5.out.bel ((Bel.refl _).alloc (.cells #[.int .i64 0, .int .u64 0, .string ⟨#[]⟩, .slice none 0 0, .slice none 0 0, .slice none 0 0, .slice none 0 0] 28)))
        have V6 := Lib.hid (V6.out.bel ((Bel.refl _).alloc (.cells #[.int .i64 0, .int .u64 0, .string ⟨#[]⟩, .slice none 0 0, .slice none 0 0, .slice none 0 0, .slice none 0 0] 28)))
        have sw6 := Lib.hid (show (World.alloc w7 (.cells #[.int .i64 0, .int .u64 0, .string ⟨#[]⟩, .slice none 0 0, .slice none 0 0, .slice none 0 0, .slice none 0 0] 28)).heap.size = w7.heap.size + 1 by simp)
        generalize hA : World.alloc w7 _ = w6 at T sw6 V5 V6 ⊢
        clear hA
        rotate_left 1
        focus exact tree_no
        (with_reducible refine tree_done ?_)
        (simp only [List.drop_succ_cons, List.drop_zero])
        subst ha
        (simp only [put_some, set_s, set_z])
        go_wp2_with (first
      | (refine wpl_store_box rfl 28 _ _ rfl (w7.heap.size) #[.int .i64 d5.k, .int .u64 d5.b, .string (S d5.t), .slice d5.p1 d5.n1 d5.c1, .slice d5.p2 d5.n2 d5.c2, .slice d5.p3 d5.n3 d5.c3, .slice d5.p4 d5.n4 d5.c4] #[.int .i64 0, .int .u64 0, .string ⟨#[]⟩, .slice none 0 0, .slice none 0 0, .slice none 0 0, .slice none 0 0] 28 rfl rfl (T.out.box 0 rfl) vr_V rfl (all_one (dc_one d5)) ?_; have T := Lib.hid (T.out.setrowbox 0 rfl #[.int .i64 d5.k, .int .u64 d5.b, .string (S d5.t), .slice d5.p1 d5.n1 d5.c1, .slice d5.p2 d5.n2 d5.c2, .slice d5.p3 d5.n3 d5.c3, .slice d5.p4 d5.n4 d5.c4]); have V5 := Lib.hid (V5.out.kept (Keep.grown (grown_setRow w6 (w7.heap.size) #[.int .i64 d5.k, .int .u64 d5.b, .string (S d5.t), .slice d5.p1 d5.n1 d5.c1, .slice d5.p2 d5.n2 d5.c2, .slice d5.p3 d5.n3 d5.c3, .slice d5.p4 d5.n4 d5.c4]) (fun b hb e => by have e2 : b = w7.heap.size := (by injection e); have z2 := sw2.out; have z5 := sw5.out; have z7 := sw7.out; have z6 := sw6.out; have z1 := swd.out; omega))); have V6 := Lib.hid (V6.out.kept (Keep.grown (grown_setRow w6 (w7.heap.size) #[.int .i64 d5.k, .int .u64 d5.b, .string (S d5.t), .slice d5.p1 d5.n1 d5.c1, .slice d5.p2 d5.n2 d5.c2, .slice d5.p3 d5.n3 d5.c3, .slice d5.p4 d5.n4 d5.c4]) (fun b hb e => by have e2 : b = w7.heap.size := (by injection e); have z2 := sw2.out; have z5 := sw5.out; have z7 := sw7.out; have z6 := sw6.out; have z1 := swd.out; omega))); generalize hwx : World.setRow w6 _ _ = wx at T V5 V6 ⊢; clear hwx)
      | (refine wpl_store_box rfl 28 _ _ rfl (w5.heap.size) #[.int .i64 d6.k, .int .u64 d6.b, .string (S d6.t), .slice d6.p1 d6.n1 d6.c1, .slice d6.p2 d6.n2 d6.c2, .slice d6.p3 d6.n3 d6.c3, .slice d6.p4 d6.n4 d6.c4] #[.int .i64 0, .int .u64 0, .string ⟨#[]⟩, .slice none 0 0, .slice none 0 0, .slice none 0 0, .slice none 0 0] 28 rfl rfl (T.out.box 1 rfl) vr_V rfl (all_one (dc_one d6)) ?_; have T := Lib.hid (T.out.setrowbox 1 rfl #[.int .i64 d6.k, .int .u64 d6.b, .string (S d6.t), .slice d6.p1 d6.n1 d6.c1, .slice d6.p2 d6.n2 d6.c2, .slice d6.p3 d6.n3 d6.c3, .slice d6.p4 d6.n4 d6.c4]); have V5 := Lib.hid (V5.out.kept (Keep.grown (grown_setRow wx (w5.heap.size) #[.int .i64 d6.k, .int .u64 d6.b, .string (S d6.t), .slice d6.p1 d6.n1 d6.c1, .slice d6.p2 d6.n2 d6.c2, .slice d6.p3 d6.n3 d6.c3, .slice d6.p4 d6.n4 d6.c4]) (fun b hb e => by have e2 : b = w5.heap.size := (by injection e); have z2 := sw2.out; have z5 := sw5.out; have z7 := sw7.out; have z6 := sw6.out; have z1 := swd.out; omega))); have V6 := Lib.hid (V6.out.kept (Keep.grown (grown_setRow wx (w5.heap.size) #[.int .i64 d6.k, .int .u64 d6.b, .string (S d6.t), .slice d6.p1 d6.n1 d6.c1, .slice d6.p2 d6.n2 d6.c2, .slice d6.p3 d6.n3 d6.c3, .slice d6.p4 d6.n4 d6.c4]) (fun b hb e => by have e2 : b = w5.heap.size := (by injection e); have z2 := sw2.out; have z5 := sw5.out; have z7 := sw7.out; have z6 := sw6.out; have z1 := swd.out; omega))); generalize hwy : World.setRow wx _ _ = wy at T V5 V6 ⊢; clear hwy))
        go_meet
        exact ⟨_, _, d5, d6, _, _, rfl, rfl, Lib.hid (T.out.perm (List.Perm.refl _) (List.Perm.swap _ _ _)), V5, V6⟩
      (with_reducible refine tree_step (v := ?_) (w' := ?_) rfl (by with_unfolding_all rfl) (fun ρ hρ => ?_) ?_ ?_ ?_); (rotate_left 2)
      focus (have hc : ∀ c, ρ (.const c) = c := (fun c => hρ (.const c)); have hfn : ∀ f, ρ (.func f) = .func (.func f) #[] #[] := (fun f => hρ (.func f)); clear hρ; go_simp; (all_goals (first | (with_reducible rfl) | (constructor <;> with_reducible rfl))))
      focus exact (T.out.addbox #[.int .i64 0, .int .u64 0, .string ⟨#[]⟩, .slice none 0 0, .slice none 0 0, .slice none 0 0, .slice none 0 0] 28).dropbox0
      have T := Lib.hid (T.out.addbox #[.int .i64 0, .int .u64 0, .string ⟨#[]⟩, .slice none 0 0, .slice none 0 0, .slice none 0 0, .slice none 0 0] 28)
      have V5 := Lib.hid (V5.out.bel ((Bel.refl _).alloc (.cells #[.int .i64 0, .int .u64 0, .string ⟨#[]⟩, .slice none 0 0, .slice none 0 0, .slice none 0 0, .slice none 0 0] 28)))
      have sw6 := Lib.hid (show (World.alloc w2 (.cells #[.int .i64 0, .int .u64 0, .string ⟨#[]⟩, .slice none 0 0, .slice none 0 0, .slice none 0 0, .slice none 0 0] 28)).heap.size = w2.heap.size + 1 by simp)
      generalize hA : World.alloc w2 _ = w6 at T sw6 V5 ⊢
      clear hA
      · (with_reducible refine tree_enter (f := ?_) (args := ?_) rfl (by with_unfolding_all rfl) (fun ρ hρ => ?_) ?_ ?_); (rotate_left 2)
        focus (have p10 := hρ (.tmp 10); (simp (disch := (first | decide | ((try simp only [sz_put]); rw [hsz]; decide))) only [ev_eq, ev_ne, a2, a1] at p10); have p11 := hρ (.tmp 11); (simp (disch := (first | decide | ((try simp only [sz_put]); rw [hsz]; decide))) only [ev_eq, ev_ne, a2, a1] at p11); have hc : ∀ c, ρ (.const c) = c := (fun c => hρ (.const c)); have hfn : ∀ f, ρ (.func f) = .func (.func f) #[] #[] := (fun f => hρ (.func f)); clear hρ; rw [execOp_call_rho (hfn _)]; clear hfn; go_simp; (all_goals (first | (with_reducible rfl) | (constructor <;> with_reducible rfl))))
        (with_reducible refine (CDr.out _ T.out.bel).mono ?_)
        rintro e w5 ⟨d6, rfl, h6, g⟩
        have g : Bel w6 w5 := g
        have sw5 := Lib.hid (show w6.heap.size ≤ w5.heap.size from g.size)
        have T := Lib.hid (T.out.belw g)
        have V5 := Lib.hid (V5.out.bel g)
        have V6 := Lib.hid (ValC.weak (A' := fun b => (b < w0.heap.size ∨ w6.heap.size ≤ b) ∧ b < w5.heap.size) h6 (fun b hb hl => ⟨hb, hl⟩))
        clear g h6
        refine ⟨_, rfl, T.out.dropbox0, ?_⟩
        · (with_reducible refine tree_step (v := ?_) (w' := ?_) rfl (by with_unfolding_all rfl) (fun ρ hρ => ?_) ?_ ?_ ?_); (rotate_left 2)
          focus (have hc : ∀ c, ρ (.const c) = c := (fun c => hρ (.const c)); have hfn : ∀ f, ρ (.func f) = .func (.func f) #[] #[] := (fun f => hρ (.func f)); clear hρ; go_simp; (all_goals (first | (with_reducible rfl) | (constructor <;> with_reducible rfl))))
          focus exact (T.out.addbox #[.int .i64 0, .int .u64 0, .string ⟨#[]⟩, .slice none 0 0, .slice none 0 0, .slice none 0 0, .slice none 0 0] 28).dropbox0.dropbox0
          have T := Lib.hid (T.out.addbox #[.int .i64 0, .int .u64 0, .string ⟨#[]⟩, .slice none 0 0, .slice none 0 0, .slice none 0 0, .slice none 0 0] 28)
          have V5 := Lib.hid (V5.out.bel ((Bel.refl _).alloc (.cells #[.int .i64 0, .int .u64 0, .string ⟨#[]⟩, .slice none 0 0, .slice none 0 0, .slice none 0 0, .slice none 0 0] 28)))
          have V6 := Lib.hid (V6.out.bel ((Bel.refl _).alloc (.cells #[.int .i64 0, .int .u64 0, .string ⟨#[]⟩, .slice none 0 0, .slice none 0 0, .slice none 0 0, .slice none 0 0] 28)))
          have sw7 := Lib.hid (show (World.alloc w5 (.cells #[.int .i64 0, .int .u64 0, .string ⟨#[]⟩, .slice none 0 0, .slice none 0 0, .slice none 0 0, .slice none 0 0] 28)).heap.size = w5.heap.size + 1 by simp)
          generalize hA : World.alloc w5 _ = w7 at T sw7 V5 V6 ⊢
          clear hA
          rotate_left 1
          focus exact tree_no
          (with_reducible refine tree_done ?_)
          (simp only [List.drop_succ_cons, List.drop_zero])
          subst ha
          (simp only [put_some, set_s, set_z])
          go_wp2_with (first
      | (refine wpl_store_box rfl 28 _ _ rfl (w2.heap.size) #[.int .i64 d5.k, .int .u64 d5.b, .string (S d5.t), .slice d5.p1 d5.n1 d5.c1, .slice d5.p2 d5.n2 d5.c2, .slice d5.p3 d5.n3 d5.c3, .slice d5.p4 d5.n4 d5.c4] #[.int .i64 0, .int .u64 0, .string ⟨#[]⟩, .slice none 0 0, .slice none 0 0, .slice none 0 0, .slice none 0 0] 28 rfl rfl (T.out.box 1 rfl) vr_V rfl (all_one (dc_one d5)) ?_; have T := Lib.hid (T.out.setrowbox 1 rfl #[.int .i64 d5.k, .int .u64 d5.b, .string (S d5.t), .slice d5.p1 d5.n1 d5.c1, .slice d5.p2 d5.n2 d5.c2, .slice d5.p3 d5.n3 d5.c3, .slice d5.p4 d5.n4 d5.c4]); have V5 := Lib.hid (V5.out.kept (Keep.grown (grown_setRow w7 (w2.heap.size) #[.int .i64 d5.k, .int .u64 d5.b, .string (S d5.t), .slice d5.p1 d5.n1 d5.c1, .slice d5.p2 d5.n2 d5.c2, .slice d5.p3 d5.n3 d5.c3, .slice d5.p4 d5.n4 d5.c4]) (fun b hb e => by have e2 : b = w2.heap.size := (by injection e); have z2 := sw2.out; have z6 := sw6.out; have z5 := sw5.out; have z7 := sw7.out; have z1 := swd.out; omega))); have V6 := Lib.hid (V6.out.kept (Keep.grown (grown_setRow w7 (w2.heap.size) #[.int .i64 d5.k, .int .u64 d5.b, .string (S d5.t), .slice d5.p1 d5.n1 d5.c1, .slice d5.p2 d5.n2 d5.c2, .slice d5.p3 d5.n3 d5.c3, .slice d5.p4 d5.n4 d5.c4]) (fun b hb e => by have e2 : b = w2.heap.size := (by injection e); have z2 := sw2.out; have z6 := sw6.out; have z5 := sw5.out; have z7 := sw7.out; have z1 := swd.out; omega))); generalize hwx : World.setRow w7 _ _ = wx at T V5 V6 ⊢; clear hwx)
      | (refine wpl_store_box rfl 28 _ _ rfl (w5.heap.size) #[.int .i64 d6.k, .int .u64 d6.b, .string (S d6.t), .slice d6.p1 d6.n1 d6.c1, .slice d6.p2 d6.n2 d6.c2, .slice d6.p3 d6.n3 d6.c3, .slice d6.p4 d6.n4 d6.c4] #[.int .i64 0, .int .u64 0, .string ⟨#[]⟩, .slice none 0 0, .slice none 0 0, .slice none 0 0, .slice none 0 0] 28 rfl rfl (T.out.box 0 rfl) vr_V rfl (all_one (dc_one d6)) ?_; have T := Lib.hid (T.out.setrowbox 0 rfl #[.int .i64 d6.k, .int .u64 d6.b, .string (S d6.t), .slice d6.p1 d6.n1 d6.c1, .slice d6.p2 d6.n2 d6.c2, .slice d6.p3 d6.n3 d6.c3, .slice d6.p4 d6.n4 d6.c4]); have V5 := Lib.hid (V5.out.kept (Keep.grown (grown_setRow wx (w5.heap.size) #[.int .i64 d6.k, .int .u64 d6.b, .string (S d6.t), .slice d6.p1 d6.n1 d6.c1, .slice d6.p2 d6.n2 d6.c2, .slice d6.p3 d6.n3 d6.c3, .slice d6.p4 d6.n4 d6.c4]) (fun b hb e => by have e2 : b = w5.heap.size := (by injection e); have z2 := sw2.out; have z6 := sw6.out; have z5 := sw5.out; have z7 := sw7.out; have z1 := swd.out; omega))); have V6 := Lib.hid (V6.out.kept (Keep.grown (grown_setRow wx (w5.heap.size) #[.int .i64 d6.k, .int .u64 d6.b, .string (S d6.t), .slice d6.p1 d6.n1 d6.c1, .slice d6.p2 d6.n2 d6.c2, .slice d6.p3 d6.n3 d6.c3, .slice d6.p4 d6.n4 d6.c4]) (fun b hb e => by have e2 : b = w5.heap.size := (by injection e); have z2 := sw2.out; have z6 := sw6.out; have z5 := sw5.out; have z7 := sw7.out; have z1 := swd.out; omega))); generalize hwy : World.setRow wx _ _ = wy at T V5 V6 ⊢; clear hwy))
          go_meet
          exact ⟨_, _, d5, d6, _, _, rfl, rfl, Lib.hid (T.out), V5, V6⟩
        (with_reducible refine tree_step (v := ?_) (w' := ?_) rfl (by with_unfolding_all rfl) (fun ρ hρ => ?_) ?_ ?_ ?_); (rotate_left 2)
        focus (have hc : ∀ c, ρ (.const c) = c := (fun c => hρ (.const c)); have hfn : ∀ f, ρ (.func f) = .func (.func f) #[] #[] := (fun f => hρ (.func f)); clear hρ; go_simp; (all_goals (first | (with_reducible rfl) | (constructor <;> with_reducible rfl))))
        focus exact (T.out.addbox #[.int .i64 0, .int .u64 0, .string ⟨#[]⟩, .slice none 0 0, .slice none 0 0, .slice none 0 0, .slice none 0 0] 28).dropbox0.dropbox0
        have T := Lib.hid (T.out.addbox #[.int .i64 0, .int .u64 0, .string ⟨#[]⟩, .slice none 0 0, .slice none 0 0, .slice none 0 0, .slice none 0 0] 28)
        have V5 := Lib.hid (V5.out.bel ((Bel.refl _).alloc (.cells #[.int .i64 0, .int .u64 0, .string ⟨#[]⟩, .slice none 0 0, .slice none 0 0, .slice none 0 0, .slice none 0 0] 28)))
        have sw7 := Lib.hid (show (World.alloc w6 (.cells #[.int .i64 0, .int .u64 0, .string ⟨#[]⟩, .slice none 0 0, .slice none 0 0, .slice none 0 0, .slice none 0 0] 28)).heap.size = w6.heap.size + 1 by simp)
        generalize hA : World.alloc w6 _ = w7 at T sw7 V5 ⊢
        clear hA
        rotate_left 1
        focus exact tree_no
        (with_reducible refine tree_enter (f := ?_) (args := ?_) rfl (by with_unfolding_all rfl) (fun ρ hρ => ?_) ?_ ?_); (rotate_left 2)
        focus (have p10 := hρ (.tmp 10); (simp (disch := (first | decide | ((try simp only [sz_put]); rw [hsz]; decide))) only [ev_eq, ev_ne, a2, a1] at p10); have p11 := hρ (.tmp 11); (simp (disch := (first | decide | ((try simp only [sz_put]); rw [hsz]; decide))) only [ev_eq, ev_ne, a2, a1] at p11); have hc : ∀ c, ρ (.const c) = c := (fun c => hρ (.const c)); have hfn : ∀ f, ρ (.func f) = .func (.func f) #[] #[] := (fun f => hρ (.func f)); clear hρ; rw [execOp_call_rho (hfn _)]; clear hfn; go_simp; (all_goals (first | (with_reducible rfl) | (constructor <;> with_reducible rfl))))
        (with_reducible refine (CDr.out _ T.out.bel).mono ?_)
        rintro e w5 ⟨d6, rfl, h6, g⟩
        have g : Bel w7 w5 := g
        have sw5 := Lib.hid (show w7.heap.size ≤ w5.heap.size from g.size)
        have T := Lib.hid (T.out.belw g)
        have V5 := Lib.hid (V5.out.bel g)
        have V6 := Lib.hid (ValC.weak (A' := fun b => (b < w0.heap.size ∨ w7.heap.size ≤ b) ∧ b < w5.heap.size) h6 (fun b hb hl => ⟨hb, hl⟩))
        clear g h6
        refine ⟨_, rfl, T.out.dropbox0.dropbox0, ?_⟩
        rotate_left 1
        focus exact tree_no
        (with_reducible refine tree_done ?_)
        (simp only [List.drop_succ_cons, List.drop_zero])
        subst ha
        (simp only [put_some, set_s, set_z])
        go_wp2_with (first
      | (refine wpl_store_box rfl 28 _ _ rfl (w2.heap.size) #[.int .i64 d5.k, .int .u64 d5.b, .string (S d5.t), .slice d5.p1 d5.n1 d5.c1, .slice d5.p2 d5.n2 d5.c2, .slice d5.p3 d5.n3 d5.c3, .slice d5.p4 d5.n4 d5.c4] #[.int .i64 0, .int .u64 0, .string ⟨#[]⟩, .slice none 0 0, .slice none 0 0, .slice none 0 0, .slice none 0 0] 28 rfl rfl (T.out.box 1 rfl) vr_V rfl (all_one (dc_one d5)) ?_; have T := Lib.hid (T.out.setrowbox 1 rfl #[.int .i64 d5.k, .int .u64 d5.b, .string (S d5.t), .slice d5.p1 d5.n1 d5.c1, .slice d5.p2 d5.n2 d5.c2, .slice d5.p3 d5.n3 d5.c3, .slice d5.p4 d5.n4 d5.c4]); have V5 := Lib.hid (V5.out.kept (Keep.grown (grown_setRow w5 (w2.heap.size) #[.int .i64 d5.k, .int .u64 d5.b, .string (S d5.t), .slice d5.p1 d5.n1 d5.c1, .slice d5.p2 d5.n2 d5.c2, .slice d5.p3 d5.n3 d5.c3, .slice d5.p4 d5.n4 d5.c4]) (fun b hb e => by have e2 : b = w2.heap.size := (by injection e); have z2 := sw2.out; have z6 := sw6.out; have z7 := sw7.out; have z5 := sw5.out; have z1 := swd.out; omega))); have V6 := Lib.hid (V6.out.kept (Keep.grown (grown_setRow w5 (w2.heap.size) #[.int .i64 d5.k, .int .u64 d5.b, .string (S d5.t), .slice d5.p1 d5.n1 d5.c1, .slice d5.p2 d5.n2 d5.c2, .slice d5.p3 d5.n3 d5.c3, .slice d5.p4 d5.n4 d5.c4]) (fun b hb e => by have e2 : b = w2.heap.size := (by injection e); have z2 := sw2.out; have z6 := sw6.out; have z7 := sw7.out; have z5 := sw5.out; have z1 := swd.out; omega))); generalize hwx : World.setRow w5 _ _ = wx at T V5 V6 ⊢; clear hwx)
      | (refine wpl_store_box rfl 28 _ _ rfl (w6.heap.size) #[.int .i64 d6.k, .int .u64 d6.b, .string (S d6.t), .slice d6.p1 d6.n1 d6.c1, .slice d6.p2 d6.n2 d6.c2, .slice d6.p3 d6.n3 d6.c3, .slice d6.p4 d6.n4 d6.c4] #[.int .i64 0, .int .u64 0, .string ⟨#[]⟩, .slice none 0 0, .slice none 0 0, .slice none 0 0, .slice none 0 0] 28 rfl rfl (T.out.box 0 rfl) vr_V rfl (all_one (dc_one d6)) ?_; have T := Lib.hid (T.out.setrowbox 0 rfl #[.int .i64 d6.k, .int .u64 d6.b, .string (S d6.t), .slice d6.p1 d6.n1 d6.c1, .slice d6.p2 d6.n2 d6.c2, .slice d6.p3 d6.n3 d6.c3, .slice d6.p4 d6.n4 d6.c4]); have V5 := Lib.hid (V5.out.kept (Keep.grown (grown_setRow wx (w6.heap.size) #[.int .i64 d6.k, .int .u64 d6.b, .string (S d6.t), .slice d6.p1 d6.n1 d6.c1, .slice d6.p2 d6.n2 d6.c2, .slice d6.p3 d6.n3 d6.c3, .slice d6.p4 d6.n4 d6.c4]) (fun b hb e => by have e2 : b = w6.heap.size := (by injection e); have z2 := sw2.out; have z6 := sw6.out; have z7 := sw7.out; have z5 := sw5.out; have z1 := swd.out; omega))); have V6 := Lib.hid (V6.out.kept (Keep.grown (grown_setRow wx (w6.heap.size) #[.int .i64 d6.k, .int .u64 d6.b, .string (S d6.t), .slice d6.p1 d6.n1 d6.c1, .slice d6.p2 d6.n2 d6.c2, .slice d6.p3 d6.n3 d6.c3, .slice d6.p4 d6.n4 d6.c4]) (fun b hb e => by have e2 : b = w6.heap.size := (by injection e); have z2 := sw2.out; have z6 := sw6.out; have z7 := sw7.out; have z5 := sw5.out; have z1 := swd.out; omega))); generalize hwy : World.setRow wx _ _ = wy at T V5 V6 ⊢; clear hwy))
        go_meet
        exact ⟨_, _, d5, d6, _, _, rfl, rfl, Lib.hid (T.out), V5, V6⟩
      (with_reducible refine tree_step (v := ?_) (w' := ?_) rfl (by with_unfolding_all rfl) (fun ρ hρ => ?_) ?_ ?_ ?_); (rotate_left 2)
      focus (have hc : ∀ c, ρ (.const c) = c := (fun c => hρ (.const c)); have hfn : ∀ f, ρ (.func f) = .func (.func f) #[] #[] := (fun f => hρ (.func f)); clear hρ; go_simp; (all_goals (first | (with_reducible rfl) | (constructor <;> with_reducible rfl))))
      focus exact (T.out.addbox #[.int .i64 0, .int .u64 0, .string ⟨#[]⟩, .slice none 0 0, .slice none 0 0, .slice none 0 0, .slice none 0 0] 28).dropbox0
      have T := Lib.hid (T.out.addbox #[.int .i64 0, .int .u64 0, .string ⟨#[]⟩, .slice none 0 0, .slice none 0 0, .slice none 0 0, .slice none 0 0] 28)
      have V5 := Lib.hid (V5.out.bel ((Bel.refl _).alloc (.cells #[.int .i64 0, .int .u64 0, .string ⟨#[]⟩, .slice none 0 0, .slice none 0 0, .slice none 0 0, .slice none 0 0] 28)))
      have sw7 := Lib.hid (show (World.alloc w2 (.cells #[.int .i64 0, .int .u64 0, .string ⟨#[]⟩, .slice none 0 0, .slice none 0 0, .slice none 0 0, .slice none 0 0] 28)).heap.size = w2.heap.size + 1 by simp)
      generalize hA : World.alloc w2 _ = w7 at T sw7 V5 ⊢
      clear hA
      rotate_left 1
      focus exact tree_no
      (with_reducible refine tree_enter (f := ?_) (args := ?_) rfl (by with_unfolding_all rfl) (fun ρ hρ => ?_) ?_ ?_); (rotate_left 2)
      focus (have p10 := hρ (.tmp 10); (simp (disch := (first | decide | ((try simp only [sz_put]); rw [hsz]; decide))) only [ev_eq, ev_ne, a2, a1] at p10); have p11 := hρ (.tmp 11); (simp (disch := (first | decide | ((try simp only [sz_put]); rw [hsz]; decide))) only [ev_eq, ev_ne, a2, a1] at p11); have hc : ∀ c, ρ (.const c) = c := (fun c => hρ (.const c)); have hfn : ∀ f, ρ (.func f) = .func (.func f) #[] #[] := (fun f => hρ (.func f)); clear hρ; rw [execOp_call_rho (hfn _)]; clear hfn; go_simp; (all_goals (first | (with_reducible rfl) | (constructor <;> with_reducible rfl))))
      (with_reducible refine (CDr.out _ T.out.bel).mono ?_)
      rintro e w5 ⟨d6, rfl, h6, g⟩
      have g : Bel w7 w5 := g
      have sw5 := Lib.hid (show w7.heap.size ≤ w5.heap.size from g.size)
      have T := Lib.hid (T.out.belw g)
      have V5 := Lib.hid (V5.out.bel g)
      have V6 := Lib.hid (ValC.weak (A' := fun b => (b < w0.heap.size ∨ w7.heap.size ≤ b) ∧ b < w5.heap.size) h6 (fun b hb hl => ⟨hb, hl⟩))
      clear g h6
      refine ⟨_, rfl, T.out.dropbox0, ?_⟩
      · (with_reducible refine tree_step (v := ?_) (w' := ?_) rfl (by with_unfolding_all rfl) (fun ρ hρ => ?_) ?_ ?_ ?_); (rotate_left 2)
        focus (have hc : ∀ c, ρ (.const c) = c := (fun c => hρ (.const c)); have hfn : ∀ f, ρ (.func f) = .func (.func f) #[] #[] := (fun f => hρ (.func f)); clear hρ; go_simp; (all_goals (first | (with_reducible rfl) | (constructor <;> with_reducible rfl))))
        focus exact (T.out.addbox #[.int .i64 0, .int .u64 0, .string ⟨#[]⟩, .slice none 0 0, .slice none 0 0, .slice none 0 0, .slice none 0 0] 28).dropbox0.dropbox0
        have T := Lib.hid (T.out.addbox #[.int .i64 0, .int .u64 0, .string ⟨#[]⟩, .slice none 0 0, .slice none 0 0, .slice none 0 0, .slice none 0 0] 28)
        have V5 := Lib.hid (V5.out.bel ((Bel.refl _).alloc (.cells #[.int .i64 0, .int .u64 0, .string ⟨#[]⟩, .slice none 0 0, .slice none 0 0, .slice none 0 0, .slice none 0 0] 28)))
        have V6 := Lib.hid (V6.out.bel ((Bel.refl _).alloc (.cells #[.int .i64 0, .int .u64 0, .string ⟨#[]⟩, .slice none 0 0, .slice none 0 0, .slice none 0 0, .slice none 0 0] 28)))
        have sw6 := Lib.hid (show (World.alloc w5 (.cells #[.int .i64 0, .int .u64 0, .string ⟨#[]⟩, .slice none 0 0, .slice none 0 0, .slice none 0 0, .slice none 0 0] 28)).heap.size = w5.heap.size + 1 by simp)
        generalize hA : World.alloc w5 _ = w6 at T sw6 V5 V6 ⊢
        clear hA
        rotate_left 1
        focus exact tree_no
        (with_reducible refine tree_done ?_)
        (simp only [List.drop_succ_cons, List.drop_zero])
        subst ha
        (simp only [put_some, set_s, set_z])
        go_wp2_with (first
      | (refine wpl_store_box rfl 28 _ _ rfl (w5.heap.size) #[.int .i64 d5.k, .int .u64 d5.b, .string (S d5.t), .slice d5.p1 d5.n1 d5.c1, .slice d5.p2 d5.n2 d5.c2, .slice d5.p3 d5.n3 d5.c3, .slice d5.p4 d5.n4 d5.c4] #[.int .i64 0, .int .u64 0, .string ⟨#[]⟩, .slice none 0 0, .slice none 0 0, .slice none 0 0, .slice none 0 0] 28 rfl rfl (T.out.box 0 rfl) vr_V rfl (all_one (dc_one d5)) ?_; have T := Lib.hid (T.out.setrowbox 0 rfl #[.int .i64 d5.k, .int .u64 d5.b, .string (S d5.t), .slice d5.p1 d5.n1 d5.c1, .slice d5.p2 d5.n2 d5.c2, .slice d5.p3 d5.n3 d5.c3, .slice d5.p4 d5.n4 d5.c4]); have V5 := Lib.hid (V5.out.kept (Keep.grown (grown_setRow w6 (w5.heap.size) #[.int .i64 d5.k, .int .u64 d5.b, .string (S d5.t), .slice d5.p1 d5.n1 d5.c1, .slice d5.p2 d5.n2 d5.c2, .slice d5.p3 d5.n3 d5.c3, .slice d5.p4 d5.n4 d5.c4]) (fun b hb e => by have e2 : b = w5.heap.size := (by injection e); have z2 := sw2.out; have z7 := sw7.out; have z5 := sw5.out; have z6 := sw6.out; have z1 := swd.out; omega))); have V6 := Lib.hid (V6.out.kept (Keep.grown (grown_setRow w6 (w5.heap.size) #[.int .i64 d5.k, .int .u64 d5.b, .string (S d5.t), .slice d5.p1 d5.n1 d5.c1, .slice d5.p2 d5.n2 d5.c2, .slice d5.p3 d5.n3 d5.c3, .slice d5.p4 d5.n4 d5.c4]) (fun b hb e => by have e2 : b = w5.heap.size := (by injection e); have z2 := sw2.out; have z7 := sw7.out; have z5 := sw5.out; have z6 := sw6.out; have z1 := swd.out; omega))); generalize hwx : World.setRow w6 _ _ = wx at T V5 V6 ⊢; clear hwx)
      | (refine wpl_store_box rfl 28 _ _ rfl (w2.heap.size) #[.int .i64 d6.k, .int .u64 d6.b, .string (S d6.t), .slice d6.p1 d6.n1 d6.c1, .slice d6.p2 d6.n2 d6.c2, .slice d6.p3 d6.n3 d6.c3, .slice d6.p4 d6.n4 d6.c4] #[.int .i64 0, .int .u64 0, .string ⟨#[]⟩, .slice none 0 0, .slice none 0 0, .slice none 0 0, .slice none 0 0] 28 rfl rfl (T.out.box 1 rfl) vr_V rfl (all_one (dc_one d6)) ?_; have T := Lib.hid (T.out.setrowbox 1 rfl #[.int .i64 d6.k, .int .u64 d6.b, .string (S d6.t), .slice d6.p1 d6.n1 d6.c1, .slice d6.p2 d6.n2 d6.c2, .slice d6.p3 d6.n3 d6.c3, .slice d6.p4 d6.n4 d6.c4]); have V5 := Lib.hid (V5.out.kept (Keep.grown (grown_setRow wx (w2.heap.size) #[.int .i64 d6.k, .int .u64 d6.b, .string (S d6.t), .slice d6.p1 d6.n1 d6.c1, .slice d6.p2 d6.n2 d6.c2, .slice d6.p3 d6.n3 d6.c3, .slice d6.p4 d6.n4 d6.c4]) (fun b hb e => by have e2 : b = w2.heap.size := (by injection e); have z2 := sw2.out; have z7 := sw7.out; have z5 := sw5.out; have z6 := sw6.out; have z1 := swd.out; omega))); have V6 := Lib.hid (V6.out.kept (Keep.grown (grown_setRow wx (w2.heap.size) #[.int .i64 d6.k, .int .u64 d6.b, .string (S d6.t), .slice d6.p1 d6.n1 d6.c1, .slice d6.p2 d6.n2 d6.c2, .slice d6.p3 d6.n3 d6.c3, .slice d6.p4 d6.n4 d6.c4]) (fun b hb e => by have e2 : b = w2.heap.size := (by injection e); have z2 := sw2.out; have z7 := sw7.out; have z5 := sw5.out; have z6 := sw6.out; have z1 := swd.out; omega))); generalize hwy : World.setRow wx _ _ = wy at T V5 V6 ⊢; clear hwy))
        go_meet
        exact ⟨_, _, d5, d6, _, _, rfl, rfl, Lib.hid (T.out.perm (List.Perm.refl _) (List.Perm.swap _ _ _)), V5, V6⟩
      (with_reducible refine tree_step (v := ?_) (w' := ?_) rfl (by with_unfolding_all rfl) (fun ρ hρ => ?_) ?_ ?_ ?_); (rotate_left 2)
      focus (have hc : ∀ c, ρ (.const c) = c := (fun c => hρ (.const c)); have hfn : ∀ f, ρ (.func f) = .func (.func f) #[] #[] := (fun f => hρ (.func f)); clear hρ; go_simp; (all_goals (first | (with_reducible rfl) | (constructor <;> with_reducible rfl))))
      focus exact (T.out.addbox #[.int .i64 0, .int .u64 0, .string ⟨#[]⟩, .slice none 0 0, .slice none 0 0, .slice none 0 0, .slice none 0 0] 28).dropbox0.dropbox0
      have T := Lib.hid (T.out.addbox #[.int .i64 0, .int .u64 0, .string ⟨#[]⟩, .slice none 0 0, .slice none 0 0, .slice none 0 0, .slice none 0 0] 28)
      have V5 := Lib.hid (V5.out.bel ((Bel.refl _).alloc (.cells #[.int .i64 0, .int .u64 0, .string ⟨#[]⟩, .slice none 0 0, .slice none 0 0, .slice none 0 0, .slice none 0 0] 28)))
      have sw6 := Lib.hid (show (World.alloc w7 (.cells #[.int .i64 0, .int .u64 0, .string ⟨#[]⟩, .slice none 0 0, .slice none 0 0, .slice none 0 0, .slice none 0 0] 28)).heap.size = w7.heap.size + 1 by simp)
      generalize hA : World.alloc w7 _ = w6 at T sw6 V5 ⊢
      clear hA
      rotate_left 1
      focus exact tree_no
      (with_reducible refine tree_enter (f := ?_) (args := ?_) rfl (by with_unfolding_all rfl) (fun ρ hρ => ?_) ?_ ?_); (rotate_left 2)
      focus (have p10 := hρ (.tmp 10); (simp (disch := (first | decide | ((try simp only [sz_put]); rw [hsz]; decide))) only [ev_eq, ev_ne, a2, a1] at p10); have p11 := hρ (.tmp 11); (simp (disch := (first | decide | ((try simp only [sz_put]); rw [hsz]; decide))) only [ev_eq, ev_ne, a2, a1] at p11); have hc : ∀ c, ρ (.const c) = c := (fun c => hρ (.const c)); have hfn : ∀ f, ρ (.func f) = .func (.func f) #[] #[] := (fun f => hρ (.func f)); clear hρ; rw [execOp_call_rho (hfn _)]; clear hfn; go_simp; (all_goals (first | (with_reducible rfl) | (constructor <;> with_reducible rfl))))
      (with_reducible refine (CDr.out _ T.out.bel).mono ?_)
      rintro e w5 ⟨d6, rfl, h6, g⟩
      have g : Bel w6 w5 := g
      have sw5 := Lib.hid (show w6.heap.size ≤ w5.heap.size from g.size)
      have T := Lib.hid (T.out.belw g)
      have V5 := Lib.hid (V5.out.bel g)
      have V6 := Lib.hid (ValC.weak (A' := fun b => (b < w0.heap.size ∨ w6.heap.size ≤ b) ∧ b < w5.heap.size) h6 (fun b hb hl => ⟨hb, hl⟩))
      clear g h6
      refine ⟨_, rfl, T.out.dropbox0.dropbox0, ?_⟩
      rotate_left 1
      focus exact tree_no
      (with_reducible refine tree_done ?_)
      (simp only [List.drop_succ_cons, List.drop_zero])
      subst ha
      (simp only [put_some, set_s, set_z])
      go_wp2_with (first
      | (refine wpl_store_box rfl 28 _ _ rfl (w7.heap.size) #[.int .i64 d5.k, .int .u64 d5.b, .string (S d5.t), .slice d5.p1 d5.n1 d5.c1, .slice d5.p2 d5.n2 d5.c2, .slice d5.p3 d5.n3 d5.c3, .slice d5.p4 d5.n4 d5.c4] #[.int .i64 0, .int .u64 0, .string ⟨#[]⟩, .slice none 0 0, .slice none 0 0, .slice none 0 0, .slice none 0 0] 28 rfl rfl (T.out.box 0 rfl) vr_V rfl (all_one (dc_one d5)) ?_; have T := Lib.hid (T.out.setrowbox 0 rfl #[.int .i64 d5.k, .int .u64 d5.b, .string (S d5.t), .slice d5.p1 d5.n1 d5.c1, .slice d5.p2 d5.n2 d5.c2, .slice d5.p3 d5.n3 d5.c3, .slice d5.p4 d5.n4 d5.c4]); have V5 := Lib.hid (V5.out.kept (Keep.grown (grown_setRow w5 (w7.heap.size) #[.int .i64 d5.k, .int .u64 d5.b, .string (S d5.t), .slice d5.p1 d5.n1 d5.c1, .slice d5.p2 d5.n2 d5.c2, .slice d5.p3 d5.n3 d5.c3, .slice d5.p4 d5.n4 d5.c4]) (fun b hb e => by have e2 : b = w7.heap.size := (by injection e); have z2 := sw2.out; have z7 := sw7.out; have z6 := sw6.out; have z5 := sw5.out; have z1 := swd.out; omega))); have V6 := Lib.hid (V6.out.kept (Keep.grown (grown_setRow w5 (w7.heap.size) #[.int .i64 d5.k, .int .u64 d5.b, .string (S d5.t), .slice d5.p1 d5.n1 d5.c1, .slice d5.p2 d5.n2 d5.c2, .slice d5.p3 d5.n3 d5.c3, .slice d5.p4 d5.n4 d5.c4]) (fun b hb e => by have e2 : b = w7.heap.size := (by injection e); have z2 := sw2.out; have z7 := sw7.out; have z6 := sw6.out; have z5 := sw5.out; have z1 := swd.out; omega))); generalize hwx : World.setRow w5 _ _ = wx at T V5 V6 ⊢; clear hwx)
      | (refine wpl_store_box rfl 28 _ _ rfl (w2.heap.size) #[.int .i64 d6.k, .int .u64 d6.b, .string (S d6.t), .slice d6.p1 d6.n1 d6.c1, .slice d6.p2 d6.n2 d6.c2, .slice d6.p3 d6.n3 d6.c3, .slice d6.p4 d6.n4 d6.c4] #[.int .i64 0, .int .u64 0, .string ⟨#[]⟩, .slice none 0 0, .slice none 0 0, .slice none 0 0, .slice none 0 0] 28 rfl rfl (T.out.box 1 rfl) vr_V rfl (all_one (dc_one d6)) ?_; have T := Lib.hid (T.out.setrowbox 1 rfl #[.int .i64 d6.k, .int .u64 d6.b, .string (S d6.t), .slice d6.p1 d6.n1 d6.c1, .slice d6.p2 d6.n2 d6.c2, .slice d6.p3 d6.n3 d6.c3, .slice d6.p4 d6.n4 d6.c4]); have V5 := Lib.hid (V5.out.kept (Keep.grown (grown_setRow wx (w2.heap.size) #[.int .i64 d6.k, .int .u64 d6.b, .string (S d6.t), .slice d6.p1 d6.n1 d6.c1, .slice d6.p2 d6.n2 d6.c2, .slice d6.p3 d6.n3 d6.c3, .slice d6.p4 d6.n4 d6.c4]) (fun b hb e => by have e2 : b = w2.heap.size := (by injection e); have z2 := sw2.out; have z7 := sw7.out; have z6 := sw6.out; have z5 := sw5.out; have z1 := swd.out; omega))); have V6 := Lib.hid (V6.out.kept (Keep.grown (grown_setRow wx (w2.heap.size) #[.int .i64 d6.k, .int .u64 d6.b, .string (S d6.t), .slice d6.p1 d6.n1 d6.c1, .slice d6.p2 d6.n2 d6.c2, .slice d6.p3 d6.n3 d6.c3, .slice d6.p4 d6.n4 d6.c4]) (fun b hb e => by have e2 : b = w2.heap.size := (by injection e); have z2 := sw2.out; have z7 := sw7.out; have z6 := sw6.out; have z5 := sw5.out; have z1 := swd.out; omega))); generalize hwy : World.setRow wx _ _ = wy at T V5 V6 ⊢; clear hwy))
      go_meet
      exact ⟨_, _, d5, d6, _, _, rfl, rfl, Lib.hid (T.out.perm (List.Perm.refl _) (List.Perm.swap _ _ _)), V5, V6⟩
    (with_reducible refine tree_step (v := ?_) (w' := ?_) rfl (by with_unfolding_all rfl) (fun ρ hρ => ?_) ?_ ?_ ?_); (rotate_left 2)
    focus (have hc : ∀ c, ρ (.const c) = c := (fun c => hρ (.const c)); have hfn : ∀ f, ρ (.func f) = .func (.func f) #[] #[] := (fun f => hρ (.func f)); clear hρ; go_simp; (all_goals (first | (with_reducible rfl) | (constructor <;> with_reducible rfl))))
    focus exact (T.out.addbox #[.int .i64 0, .int .u64 0, .string ⟨#[]⟩, .slice none 0 0, .slice none 0 0, .slice none 0 0, .slice none 0 0] 28).dropbox0
    have T := Lib.hid (T.out.addbox #[.int .i64 0, .int .u64 0, .string ⟨#[]⟩, .slice none 0 0, .slice none 0 0, .slice none 0 0, .slice none 0 0] 28)
    have sw6 := Lib.hid (show (World.alloc wd (.cells #[.int .i64 0, .int .u64 0, .string ⟨#[]⟩, .slice none 0 0, .slice none 0 0, .slice none 0 0, .slice none 0 0] 28)).heap.size = wd.heap.size + 1 by simp)
    generalize hA : World.alloc wd _ = w6 at T sw6  ⊢
    clear hA
    · (with_reducible refine tree_enter (f := ?_) (args := ?_) rfl (by with_unfolding_all rfl) (fun ρ hρ => ?_) ?_ ?_); (rotate_left 2)
      focus (have p7 := hρ (.tmp 7); (simp (disch := (first | decide | ((try simp only [sz_put]); rw [hsz]; decide))) only [ev_eq, ev_ne, a2, a1] at p7); have p8 := hρ (.tmp 8); (simp (disch := (first | decide | ((try simp only [sz_put]); rw [hsz]; decide))) only [ev_eq, ev_ne, a2, a1] at p8); have hc : ∀ c, ρ (.const c) = c := (fun c => hρ (.const c)); have hfn : ∀ f, ρ (.func f) = .func (.func f) #[] #[] := (fun f => hρ (.func f)); clear hρ; rw [execOp_call_rho (hfn _)]; clear hfn; go_simp; (all_goals (first | (with_reducible rfl) | (constructor <;> with_reducible rfl))))
      (with_reducible refine (CK.out _ T.out.bel).mono ?_)
      rintro e w2 ⟨d5, rfl, h5, g⟩
      have g : Bel w6 w2 := g
      have sw2 := Lib.hid (show w6.heap.size ≤ w2.heap.size from g.size)
      have T := Lib.hid (T.out.belw g)
      have V5 := Lib.hid (ValC.weak (A' := fun b => (b < w0.heap.size ∨ w6.heap.size ≤ b) ∧ b < w2.heap.size) h5 (fun b hb hl => ⟨hb, hl⟩))
      clear g h5
      refine ⟨_, rfl, T.out.dropbox0, ?_⟩
      · (with_reducible refine tree_enter (f := ?_) (args := ?_) rfl (by with_unfolding_all rfl) (fun ρ hρ => ?_) ?_ ?_); (rotate_left 2)
        focus (have p10 := hρ (.tmp 10); (simp (disch := (first | decide | ((try simp only [sz_put]); rw [hsz]; decide))) only [ev_eq, ev_ne, a2, a1] at p10); have p11 := hρ (.tmp 11); (simp (disch := (first | decide | ((try simp only [sz_put]); rw [hsz]; decide))) only [ev_eq, ev_ne, a2, a1] at p11); have hc : ∀ c, ρ (.const c) = c := (fun c => hρ (.const c)); have hfn : ∀ f, ρ (.func f) = .func (.func f) #[] #[] := (fun f => hρ (.func f)); clear hρ; rw [execOp_call_rho (hfn _)]; clear hfn; go_simp; (all_goals (first | (with_reducible rfl) | (constructor <;> with_reducible rfl))))
        (with_reducible refine (CDr.out _ T.out.bel).mono ?_)
        rintro e w5 ⟨d6, rfl, h6, g⟩
        have g : Bel w2 w5 := g
        have sw5 := Lib.hid (show w2.heap.size ≤ w5.heap.size from g.size)
        have T := Lib.hid (T.out.belw g)
        have V5 := Lib.hid (V5.out.bel g)
        have V6 := Lib.hid (ValC.weak (A' := fun b => (b < w0.heap.size ∨ w2.heap.size ≤ b) ∧ b < w5.heap.size) h6 (fun b hb hl => ⟨hb, hl⟩))
        clear g h6
        refine ⟨_, rfl, T.out.dropbox0, ?_⟩
        · (with_reducible refine tree_step (v := ?_) (w' := ?_) rfl (by with_unfolding_all rfl) (fun ρ hρ => ?_) ?_ ?_ ?_); (rotate_left 2)
          focus (have hc : ∀ c, ρ (.const c) = c := (fun c => hρ (.const c)); have hfn : ∀ f, ρ (.func f) = .func (.func f) #[] #[] := (fun f => hρ (.func f)); clear hρ; go_simp; (all_goals (first | (with_reducible rfl) | (constructor <;> with_reducible rfl))))
          focus exact (T.out.addbox #[.int .i64 0, .int .u64 0, .string ⟨#[]⟩, .slice none 0 0, .slice none 0 0, .slice none 0 0, .slice none 0 0] 28).dropbox0.dropbox0
          have T := Lib.hid (T.out.addbox #[.int .i64 0, .int .u64 0, .string ⟨#[]⟩, .slice none 0 0, .slice none 0 0, .slice none 0 0, .slice none 0 0] 28)
          have V5 := Lib.hid (V5.out.bel ((Bel.refl _).alloc (.cells #[.int .i64 0, .int .u64 0, .string ⟨#[]⟩, .slice none 0 0, .slice none 0 0, .slice none 0 0, .slice none 0 0] 28)))
          have V6 := Lib.hid (V6.out.bel ((Bel.refl _).alloc (.cells #[.int .i64 0, .int .u64 0, .string ⟨#[]⟩, .slice none 0 0, .slice none 0 0, .slice none 0 0, .slice none 0 0] 28)))
          have sw7 := Lib.hid (show (World.alloc w5 (.cells #[.int .i64 0, .int .u64 0, .string ⟨#[]⟩, .slice none 0 0, .slice none 0 0, .slice none 0 0, .slice none 0 0] 28)).heap.size = w5.heap.size + 1 by simp)
          generalize hA : World.alloc w5 _ = w7 at T sw7 V5 V6 ⊢
          clear hA
          rotate_left 1
          focus exact tree_no
          (with_reducible refine tree_done ?_)
          (simp only [List.drop_succ_cons, List.drop_zero])
          subst ha
          (simp only [put_some, set_s, set_z])
          go_wp2_with (first
      | (refine wpl_store_box rfl 28 _ _ rfl (wd.heap.size) #[.int .i64 d5.k, .int .u64 d5.b, .string (S d5.t), .slice d5.p1 d5.n1 d5.c1, .slice d5.p2 d5.n2 d5.c2, .slice d5.p3 d5.n3 d5.c3, .slice d5.p4 d5.n4 d5.c4] #[.int .i64 0, .int .u64 0, .string ⟨#[]⟩, .slice none 0 0, .slice none 0 0, .slice none 0 0, .slice none 0 0] 28 rfl rfl (T.out.box 1 rfl) vr_V rfl (all_one (dc_one d5)) ?_; have T := Lib.hid (T.out.setrowbox 1 rfl #[.int .i64 d5.k, .int .u64 d5.b, .string (S d5.t), .slice d5.p1 d5.n1 d5.c1, .slice d5.p2 d5.n2 d5.c2, .slice d5.p3 d5.n3 d5.c3, .slice d5.p4 d5.n4 d5.c4]); have V5 := Lib.hid (V5.out.kept (Keep.grown (grown_setRow w7 (wd.heap.size) #[.int .i64 d5.k, .int .u64 d5.b, .string (S d5.t), .slice d5.p1 d5.n1 d5.c1, .slice d5.p2 d5.n2 d5.c2, .slice d5.p3 d5.n3 d5.c3, .slice d5.p4 d5.n4 d5.c4]) (fun b hb e => by have e2 : b = wd.heap.size := (by injection e); have z6 := sw6.out; have z2 := sw2.out; have z5 := sw5.out; have z7 := sw7.out; have z1 := swd.out; omega))); have V6 := Lib.hid (V6.out.kept (Keep.grown (grown_setRow w7 (wd.heap.size) #[.int .i64 d5.k, .int .u64 d5.b, .string (S d5.t), .slice d5.p1 d5.n1 d5.c1, .slice d5.p2 d5.n2 d5.c2, .slice d5.p3 d5.n3 d5.c3, .slice d5.p4 d5.n4 d5.c4]) (fun b hb e => by have e2 : b = wd.heap.size := (by injection e); have z6 := sw6.out; have z2 := sw2.out; have z5 := sw5.out; have z7 := sw7.out; have z1 := swd.out; omega))); generalize hwx : World.setRow w7 _ _ = wx at T V5 V6 ⊢; clear hwx)
      | (refine wpl_store_box rfl 28 _ _ rfl (w5.heap.size) #[.int .i64 d6.k, .int .u64 d6.b, .string (S d6.t), .slice d6.p1 d6.n1 d6.c1, .slice d6.p2 d6.n2 d6.c2, .slice d6.p3 d6.n3 d6.c3, .slice d6.p4 d6.n4 d6.c4] #[.int .i64 0, .int .u64 0, .string ⟨#[]⟩, .slice none 0 0, .slice none 0 0, .slice none 0 0, .slice none 0 0] 28 rfl rfl (T.out.box 0 rfl) vr_V rfl (all_one (dc_one d6)) ?_; have T := Lib.hid (T.out.setrowbox 0 rfl #[.int .i64 d6.k, .int .u64 d6.b, .string (S d6.t), .slice d6.p1 d6.n1 d6.c1, .slice d6.p2 d6.n2 d6.c2, .slice d6.p3 d6.n3 d6.c3, .slice d6.p4 d6.n4 d6.c4]); have V5 := Lib.hid (V5.out.kept (Keep.grown (grown_setRow wx (w5.heap.size) #[.int .i64 d6.k, .int .u64 d6.b, .string (S d6.t), .slice d6.p1 d6.n1 d6.c1, .slice d6.p2 d6.n2 d6.c2, .slice d6.p3 d6.n3 d6.c3, .slice d6.p4 d6.n4 d6.c4]) (fun b hb e => by have e2 : b = w5.heap.size := (by injection e); have z6 := sw6.out; have z2 := sw2.out; have z5 := sw5.out; have z7 := sw7.out; have z1 := swd.out; omega))); have V6 := Lib.hid (V6.out.kept (Keep.grown (grown_setRow wx (w5.heap.size) #[.int .i64 d6.k, .int .u64 d6.b, .string (S d6.t), .slice d6.p1 d6.n1 d6.c1, .slice d6.p2 d6.n2 d6.c2, .slice d6.p3 d6.n3 d6.c3, .slice d6.p4 d6.n4 d6.c4]) (fun b hb e => by have e2 : b = w5.heap.size := (by injection e); have z6 := sw6.out; have z2 := sw2.out; have z5 := sw5.out; have z7 := sw7.out; have z1 := swd.out; omega))); generalize hwy : World.setRow wx _ _ = wy at T V5 V6 ⊢; clear hwy))
          go_meet
          exact ⟨_, _, d5, d6, _, _, rfl, rfl, Lib.hid (T.out), V5, V6⟩
        (with_reducible refine tree_step (v := ?_) (w' := ?_) rfl (by with_unfolding_all rfl) (fun ρ hρ => ?_) ?_ ?_ ?_); (rotate_left 2)
        focus (have hc : ∀ c, ρ (.const c) = c := (fun c => hρ (.const c)); have hfn : ∀ f, ρ (.func f) = .func (.func f) #[] #[] := (fun f => hρ (.func f)); clear hρ; go_simp; (all_goals (first | (with_reducible rfl) | (constructor <;> with_reducible rfl))))
        focus exact (T.out.addbox #[.int .i64 0, .int .u64 0, .string ⟨#[]⟩, .slice none 0 0, .slice none 0 0, .slice none 0 0, .slice none 0 0] 28).dropbox0.dropbox0
        have T := Lib.hid (T.out.addbox #[.int .i64 0, .int .u64 0, .string ⟨#[]⟩, .slice none 0 0, .slice none 0 0, .slice none 0 0, .slice none 0 0] 28)
        have V5 := Lib.hid (V5.out.bel ((Bel.refl _).alloc (.cells #[.int .i64 0, .int .u64 0, .string ⟨#[]⟩, .slice none 0 0, .slice none 0 0, .slice none 0 0, .slice none 0 0] 28)))
        have sw7 := Lib.hid (show (World.alloc w2 (.cells #[.int .i64 0, .int .u64 0, .string ⟨#[]⟩, .slice none 0 0, .slice none 0 0, .slice none 0 0, .slice none 0 0] 28)).heap.size = w2.heap.size + 1 by simp)
        generalize hA : World.alloc w2 _ = w7 at T sw7 V5 ⊢
        clear hA
        rotate_left 1
        focus exact tree_no
        (with_reducible refine tree_enter (f := ?_) (args := ?_) rfl (by with_unfolding_all rfl) (fun ρ hρ => ?_) ?_ ?_); (rotate_left 2)
        focus (have p10 := hρ (.tmp 10); (simp (disch := (first | decide | ((try simp only [sz_put]); rw [hsz]; decide))) only [ev_eq, ev_ne, a2, a1] at p10); have p11 := hρ (.tmp 11); (simp (disch := (first | decide | ((try simp only [sz_put]); rw [hsz]; decide))) only [ev_eq, ev_ne, a2, a1] at p11); have hc : ∀ c, ρ (.const c) = c := (fun c => hρ (.const c)); have hfn : ∀ f, ρ (.func f) = .func (.func f) #[] #[] := (fun f => hρ (.func f)); clear hρ; rw [execOp_call_rho (hfn _)]; clear hfn; go_simp; (all_goals (first | (with_reducible rfl) | (constructor <;> with_reducible rfl))))
        (with_reducible refine (CDr.out _ T.out.bel).mono ?_)
        rintro e w5 ⟨d6, rfl, h6, g⟩
        have g : Bel w7 w5 := g
        have sw5 := Lib.hid (show w7.heap.size ≤ w5.heap.size from g.size)
        have T := Lib.hid (T.out.belw g)
        have V5 := Lib.hid (V5.out.bel g)
        have V6 := Lib.hid (ValC.weak (A' := fun b => (b < w0.heap.size ∨ w7.heap.size ≤ b) ∧ b < w5.heap.size) h6 (fun b hb hl => ⟨hb, hl⟩))
        clear g h6
        refine ⟨_, rfl, T.out.dropbox0.dropbox0, ?_⟩
        rotate_left 1
        focus exact tree_no
        (with_reducible refine tree_done ?_)
        (simp only [List.drop_succ_cons, List.drop_zero])
        subst ha
        (simp only [put_some, set_s, set_z])
        go_wp2_with (first
      | (refine wpl_store_box rfl 28 _ _ rfl (wd.heap.size) #[.int .i64 d5.k, .int .u64 d5.b, .string (S d5.t), .slice d5.p1 d5.n1 d5.c1, .slice d5.p2 d5.n2 d5.c2, .slice d5.p3 d5.n3 d5.c3, .slice d5.p4 d5.n4 d5.c4] #[.int .i64 0, .int .u64 0, .string ⟨#[]⟩, .slice none 0 0, .slice none 0 0, .slice none 0 0, .slice none 0 0] 28 rfl rfl (T.out.box 1 rfl) vr_V rfl (all_one (dc_one d5)) ?_; have T := Lib.hid (T.out.setrowbox 1 rfl #[.int .i64 d5.k, .int .u64 d5.b, .string (S d5.t), .slice d5.p1 d5.n1 d5.c1, .slice d5.p2 d5.n2 d5.c2, .slice d5.p3 d5.n3 d5.c3, .slice d5.p4 d5.n4 d5.c4]); have V5 := Lib.hid (V5.out.kept (Keep.grown (grown_setRow w5 (wd.heap.size) #[.int .i64 d5.k, .int .u64 d5.b, .string (S d5.t), .slice d5.p1 d5.n1 d5.c1, .slice d5.p2 d5.n2 d5.c2, .slice d5.p3 d5.n3 d5.c3, .slice d5.p4 d5.n4 d5.c4]) (fun b hb e => by have e2 : b = wd.heap.size := (by injection e); have z6 := sw6.out; have z2 := sw2.out; have z7 := sw7.out; have z5 := sw5.out; have z1 := swd.out; omega))); have V6 := Lib.hid (V6.out.kept (Keep.grown (grown_setRow w5 (wd.heap.size) #[.int .i64 d5.k, .int .u64 d5.b, .string (S d5.t), .slice d5.p1 d5.n1 d5.c1, .slice d5.p2 d5.n2 d5.c2, .slice d5.p3 d5.n3 d5.c3, .slice d5.p4 d5.n4 d5.c4]) (fun b hb e => by have e2 : b = wd.heap.size := (by injection e); have z6 := sw6.out; have z2 := sw2.out; have z7 := sw7.out; have z5 := sw5.out; have z1 := swd.out; omega))); generalize hwx : World.setRow w5 _ _ = wx at T V5 V6 ⊢; clear hwx)
      | (refine wpl_store_box rfl 28 _ _ rfl (w2.heap.size) #[.int .i64 d6.k, .int .u64 d6.b, .string (S d6.t), .slice d6.p1 d6.n1 d6.c1, .slice d6.p2 d6.n2 d6.c2, .slice d6.p3 d6.n3 d6.c3, .slice d6.p4 d6.n4 d6.c4] #[.int .i64 0, .int .u64 0, .string ⟨#[]⟩, .slice none 0 0, .slice none 0 0, .slice none 0 0, .slice none 0 0] 28 rfl rfl (T.out.box 0 rfl) vr_V rfl (all_one (dc_one d6)) ?_; have T := Lib.hid (T.out.setrowbox 0 rfl #[.int .i64 d6.k, .int .u64 d6.b, .string (S d6.t), .slice d6.p1 d6.n1 d6.c1, .slice d6.p2 d6.n2 d6.c2, .slice d6.p3 d6.n3 d6.c3, .slice d6.p4 d6.n4 d6.c4]); have V5 := Lib.hid (V5.out.kept (Keep.grown (grown_setRow wx (w2.heap.size) #[.int .i64 d6.k, .int .u64 d6.b, .string (S d6.t), .slice d6.p1 d6.n1 d6.c1, .slice d6.p2 d6.n2 d6.c2, .slice d6.p3 d6.n3 d6.c3, .slice d6.p4 d6.n4 d6.c4]) (fun b hb e => by have e2 : b = w2.heap.size := (by injection e); have z6 := sw6.out; have z2 := sw2.out; have z7 := sw7.out; have z5 := sw5.out; have z1 := swd.out; omega))); have V6 := Lib.hid (V6.out.kept (Keep.grown (grown_setRow wx (w2.heap.size) #[.int .i64 d6.k, .int .u64 d6.b, .string (S d6.t), .slice d6.p1 d6.n1 d6.c1, .slice d6.p2 d6.n2 d6.c2, .slice d6.p3 d6.n3 d6.c3, .slice d6.p4 d6.n4 d6.c4]) (fun b hb e => by have e2 : b = w2.heap.size := (by injection e); have z6 := sw6.out; have z2 := sw2.out; have z7 := sw7.out; have z5 := sw5.out; have z1 := swd.out; omega))); generalize hwy : World.setRow wx _ _ = wy at T V5 V6 ⊢; clear hwy))
        go_meet
        exact ⟨_, _, d5, d6, _, _, rfl, rfl, Lib.hid (T.out), V5, V6⟩
      (with_reducible refine tree_step (v := ?_) (w' := ?_) rfl (by with_unfolding_all rfl) (fun ρ hρ => ?_) ?_ ?_ ?_); (rotate_left 2)
      focus (have hc : ∀ c, ρ (.const c) = c := (fun c => hρ (.const c)); have hfn : ∀ f, ρ (.func f) = .func (.func f) #[] #[] := (fun f => hρ (.func f)); clear hρ; go_simp; (all_goals (first | (with_reducible rfl) | (constructor <;> with_reducible rfl))))
      focus exact (T.out.addbox #[.int .i64 0, .int .u64 0, .string ⟨#[]⟩, .slice none 0 0, .slice none 0 0, .slice none 0 0, .slice none 0 0] 28).dropbox0.dropbox0
      have T := Lib.hid (T.out.addbox #[.int .i64 0, .int .u64 0, .string ⟨#[]⟩, .slice none 0 0, .slice none 0 0, .slice none 0 0, .slice none 0 0] 28)
      have sw7 := Lib.hid (show (World.alloc w6 (.cells #[.int .i64 0, .int .u64 0, .string ⟨#[]⟩, .slice none 0 0, .slice none 0 0, .slice none 0 0, .slice none 0 0] 28)).heap.size = w6.heap.size + 1 by simp)
      generalize hA : World.alloc w6 _ = w7 at T sw7  ⊢
      clear hA
      rotate_left 1
      focus exact tree_no
      (with_reducible refine tree_enter (f := ?_) (args := ?_) rfl (by with_unfolding_all rfl) (fun ρ hρ => ?_) ?_ ?_); (rotate_left 2)
      focus (have p7 := hρ (.tmp 7); (simp (disch := (first | decide | ((try simp only [sz_put]); rw [hsz]; decide))) only [ev_eq, ev_ne, a2, a1] at p7); have p8 := hρ (.tmp 8); (simp (disch := (first | decide | ((try simp only [sz_put]); rw [hsz]; decide))) only [ev_eq, ev_ne, a2, a1] at p8); have hc : ∀ c, ρ (.const c) = c := (fun c => hρ (.const c)); have hfn : ∀ f, ρ (.func f) = .func (.func f) #[] #[] := (fun f => hρ (.func f)); clear hρ; rw [execOp_call_rho (hfn _)]; clear hfn; go_simp; (all_goals (first | (with_reducible rfl) | (constructor <;> with_reducible rfl))))
      (with_reducible refine (CK.out _ T.out.bel).mono ?_)
      rintro e w2 ⟨d5, rfl, h5, g⟩
      have g : Bel w7 w2 := g
      have sw2 := Lib.hid (show w7.heap.size ≤ w2.heap.size from g.size)
      have T := Lib.hid (T.out.belw g)
      have V5 := Lib.hid (ValC.weak (A' := fun b => (b < w0.heap.size ∨ w7.heap.size ≤ b) ∧ b < w2.heap.size) h5 (fun b hb hl => ⟨hb, hl⟩))
      clear g h5
      refine ⟨_, rfl, T.out.dropbox0.dropbox0, ?_⟩
      rotate_left 1
      focus exact tree_no
      (with_reducible refine tree_enter (f := ?_) (args := ?_) rfl (by with_unfolding_all rfl) (fun ρ hρ => ?_) ?_ ?_); (rotate_left 2)
      focus (have p10 := hρ (.tmp 10); (simp (disch := (first | decide | ((try simp only [sz_put]); rw [hsz]; decide))) only [ev_eq, ev_ne, a2, a1] at p10); have p11 := hρ (.tmp 11); (simp (disch := (first | decide | ((try simp only [sz_put]); rw [hsz]; decide))) only [ev_eq, ev_ne, a2, a1] at p11); have hc : ∀ c, ρ (.const c) = c := (fun c => hρ (.const c)); have hfn : ∀ f, ρ (.func f) = .func (.func f) #[] #[] := (fun f => hρ (.func f)); clear hρ; rw [execOp_call_rho (hfn _)]; clear hfn; go_simp; (all_goals (first | (with_reducible rfl) | (constructor <;> with_reducible rfl))))
      (with_reducible refine (CDr.out _ T.out.bel).mono ?_)
      rintro e w5 ⟨d6, rfl, h6, g⟩
      have g : Bel w2 w5 := g
      have sw5 := Lib.hid (show w2.heap.size ≤ w5.heap.size from g.size)
      have T := Lib.hid (T.out.belw g)
      have V5 := Lib.hid (V5.out.bel g)
      have V6 := Lib.hid (ValC.weak (A' := fun b => (b < w0.heap.size ∨ w2.heap.size ≤ b) ∧ b < w5.heap.size) h6 (fun b hb hl => ⟨hb, hl⟩))
      clear g h6
      refine ⟨_, rfl, T.out.dropbox0.dropbox0, ?_⟩
      rotate_left 1
      focus exact tree_no
      (with_reducible refine tree_done ?_)
      (simp only [List.drop_succ_cons, List.drop_zero])
      subst ha
      (simp only [put_some, set_s, set_z])
      go_wp2_with (first
      | (refine wpl_store_box rfl 28 _ _ rfl (wd.heap.size) #[.int .i64 d5.k, .int .u64 d5.b, .string (S d5.t), .slice d5.p1 d5.n1 d5.c1, .slice d5.p2 d5.n2 d5.c2, .slice d5.p3 d5.n3 d5.c3, .slice d5.p4 d5.n4 d5.c4] #[.int .i64 0, .int .u64 0, .string ⟨#[]⟩, .slice none 0 0, .slice none 0 0, .slice none 0 0, .slice none 0 0] 28 rfl rfl (T.out.box 1 rfl) vr_V rfl (all_one (dc_one d5)) ?_; have T := Lib.hid (T.out.setrowbox 1 rfl #[.int .i64 d5.k, .int .u64 d5.b, .string (S d5.t), .slice d5.p1 d5.n1 d5.c1, .slice d5.p2 d5.n2 d5.c2, .slice d5.p3 d5.n3 d5.c3, .slice d5.p4 d5.n4 d5.c4]); have V5 := Lib.hid (V5.out.kept (Keep.grown (grown_setRow w5 (wd.heap.size) #[.int .i64 d5.k, .int .u64 d5.b, .string (S d5.t), .slice d5.p1 d5.n1 d5.c1, .slice d5.p2 d5.n2 d5.c2, .slice d5.p3 d5.n3 d5.c3, .slice d5.p4 d5.n4 d5.c4]) (fun b hb e => by have e2 : b = wd.heap.size := (by injection e); have z6 := sw6.out; have z7 := sw7.out; have z2 := sw2.out; have z5 := sw5.out; have z1 := swd.out; omega))); have V6 := Lib.hid (V6.out.kept (Keep.grown (grown_setRow w5 (wd.heap.size) #[.int .i64 d5.k, .int .u64 d5.b, .string (S d5.t), .slice d5.p1 d5.n1 d5.c1, .slice d5.p2 d5.n2 d5.c2, .slice d5.p3 d5.n3 d5.c3, .slice d5.p4 d5.n4 d5.c4]) (fun b hb e => by have e2 : b = wd.heap.size := (by injection e); have z6 := sw6.out; have z7 := sw7.out; have z2 := sw2.out; have z5 := sw5.out; have z1 := swd.out; omega))); generalize hwx : World.setRow w5 _ _ = wx at T V5 V6 ⊢; clear hwx)
      | (refine wpl_store_box rfl 28 _ _ rfl (w6.heap.size) #[.int .i64 d6.k, .int .u64 d6.b, .string (S d6.t), .slice d6.p1 d6.n1 d6.c1, .slice d6.p2 d6.n2 d6.c2, .slice d6.p3 d6.n3 d6.c3, .slice d6.p4 d6.n4 d6.c4] #[.int .i64 0, .int .u64 0, .string ⟨#[]⟩, .slice none 0 0, .slice none 0 0, .slice none 0 0, .slice none 0 0] 28 rfl rfl (T.out.box 0 rfl) vr_V rfl (all_one (dc_one d6)) ?_; have T := Lib.hid (T.out.setrowbox 0 rfl #[.int .i64 d6.k, .int .u64 d6.b, .string (S d6.t), .slice d6.p1 d6.n1 d6.c1, .slice d6.p2 d6.n2 d6.c2, .slice d6.p3 d6.n3 d6.c3, .slice d6.p4 d6.n4 d6.c4]); have V5 := Lib.hid (V5.out.kept (Keep.grown (grown_setRow wx (w6.heap.size) #[.int .i64 d6.k, .int .u64 d6.b, .string (S d6.t), .slice d6.p1 d6.n1 d6.c1, .slice d6.p2 d6.n2 d6.c2, .slice d6.p3 d6.n3 d6.c3, .slice d6.p4 d6.n4 d6.c4]) (fun b hb e => by have e2 : b = w6.heap.size := (by injection e); have z6 := sw6.out; have z7 := sw7.out; have z2 := sw2.out; have z5 := sw5.out; have z1 := swd.out; omega))); have V6 := Lib.hid (V6.out.kept (Keep.grown (grown_setRow wx (w6.heap.size) #[.int .i64 d6.k, .int .u64 d6.b, .string (S d6.t), .slice d6.p1 d6.n1 d6.c1, .slice d6.p2 d6.n2 d6.c2, .slice d6.p3 d6.n3 d6.c3, .slice d6.p4 d6.n4 d6.c4]) (fun b hb e => by have e2 : b = w6.heap.size := (by injection e); have z6 := sw6.out; have z7 := sw7.out; have z2 := sw2.out; have z5 := sw5.out; have z1 := swd.out; omega))); generalize hwy : World.setRow wx _ _ = wy at T V5 V6 ⊢; clear hwy))
      go_meet
      exact ⟨_, _, d5, d6, _, _, rfl, rfl, Lib.hid (T.out), V5, V6⟩
    (with_reducible refine tree_step (v := ?_) (w' := ?_) rfl (by with_unfolding_all rfl) (fun ρ hρ => ?_) ?_ ?_ ?_); (rotate_left 2)
    focus (have hc : ∀ c, ρ (.const c) = c := (fun c => hρ (.const c)); have hfn : ∀ f, ρ (.func f) = .func (.func f) #[] #[] := (fun f => hρ (.func f)); clear hρ; go_simp; (all_goals (first | (with_reducible rfl) | (constructor <;> with_reducible rfl))))
    focus exact (T.out.addbox #[.int .i64 0, .int .u64 0, .string ⟨#[]⟩, .slice none 0 0, .slice none 0 0, .slice none 0 0, .slice none 0 0] 28).dropbox0
    have T := Lib.hid (T.out.addbox #[.int .i64 0, .int .u64 0, .string ⟨#[]⟩, .slice none 0 0, .slice none 0 0, .slice none 0 0, .slice none 0 0] 28)
    have sw7 := Lib.hid (show (World.alloc wd (.cells #[.int .i64 0, .int .u64 0, .string ⟨#[]⟩, .slice none 0 0, .slice none 0 0, .slice none 0 0, .slice none 0 0] 28)).heap.size = wd.heap.size + 1 by simp)
    generalize hA : World.alloc wd _ = w7 at T sw7  ⊢
    clear hA
    rotate_left 1
    focus exact tree_no
    (with_reducible refine tree_enter (f := ?_) (args := ?_) rfl (by with_unfolding_all rfl) (fun ρ hρ => ?_) ?_ ?_); (rotate_left 2)
    focus (have p7 := hρ (.tmp 7); (simp (disch := (first | decide | ((try simp only [sz_put]); rw [hsz]; decide))) only [ev_eq, ev_ne, a2, a1] at p7); have p8 := hρ (.tmp 8); (simp (disch := (first | decide | ((try simp only [sz_put]); rw [hsz]; decide))) only [ev_eq, ev_ne, a2, a1] at p8); have hc : ∀ c, ρ (.const c) = c := (fun c => hρ (.const c)); have hfn : ∀ f, ρ (.func f) = .func (.func f) #[] #[] := (fun f => hρ (.func f)); clear hρ; rw [execOp_call_rho (hfn _)]; clear hfn; go_simp; (all_goals (first | (with_reducible rfl) | (constructor <;> with_reducible rfl))))
    (with_reducible refine (CK.out _ T.out.bel).mono ?_)
    rintro e w2 ⟨d5, rfl, h5, g⟩
    have g : Bel w7 w2 := g
    have sw2 := Lib.hid (show w7.heap.size ≤ w2.heap.size from g.size)
    have T := Lib.hid (T.out.belw g)
    have V5 := Lib.hid (ValC.weak (A' := fun b => (b < w0.heap.size ∨ w7.heap.size ≤ b) ∧ b < w2.heap.size) h5 (fun b hb hl => ⟨hb, hl⟩))
    clear g h5
    refine ⟨_, rfl, T.out.dropbox0, ?_⟩
    · (with_reducible refine tree_enter (f := ?_) (args := ?_) rfl (by with_unfolding_all rfl) (fun ρ hρ => ?_) ?_ ?_); (rotate_left 2)
      focus (have p10 := hρ (.tmp 10); (simp (disch := (first | decide | ((try simp only [sz_put]); rw [hsz]; decide))) only [ev_eq, ev_ne, a2, a1] at p10); have p11 := hρ (.tmp 11); (simp (disch := (first | decide | ((try simp only [sz_put]); rw [hsz]; decide))) only [ev_eq, ev_ne, a2, a1] at p11); have hc : ∀ c, ρ (.const c) = c := (fun c => hρ (.const c)); have hfn : ∀ f, ρ (.func f) = .func (.func f) #[] #[] := (fun f => hρ (.func f)); clear hρ; rw [execOp_call_rho (hfn _)]; clear hfn; go_simp; (all_goals (first | (with_reducible rfl) | (constructor <;> with_reducible rfl))))
      (with_reducible refine (CDr.out _ T.out.bel).mono ?_)
      rintro e w5 ⟨d6, rfl, h6, g⟩
      have g : Bel w2 w5 := g
      have sw5 := Lib.hid (show w2.heap.size ≤ w5.heap.size from g.size)
      have T := Lib.hid (T.out.belw g)
      have V5 := Lib.hid (V5.out.bel g)
      have V6 := Lib.hid (ValC.weak (A' := fun b => (b < w0.heap.size ∨ w2.heap.size ≤ b) ∧ b < w5.heap.size) h6 (fun b hb hl => ⟨hb, hl⟩))
      clear g h6
      refine ⟨_, rfl, T.out.dropbox0, ?_⟩
      · (with_reducible refine tree_step (v := ?_) (w' := ?_) rfl (by with_unfolding_all rfl) (fun ρ hρ => ?_) ?_ ?_ ?_); (rotate_left 2)
        focus (have hc : ∀ c, ρ (.const c) = c := (fun c => hρ (.const c)); have hfn : ∀ f, ρ (.func f) = .func (.func f) #[] #[] := (fun f => hρ (.func f)); clear hρ; go_simp; (all_goals (first | (with_reducible rfl) | (constructor <;> with_reducible rfl))))
        focus exact (T.out.addbox #[.int .i64 0, .int .u64 0, .string ⟨#[]⟩, .slice none 0 0, .slice none 0 0, .slice none 0 0, .slice none 0 0] 28).dropbox0.dropbox0
        have T := Lib.hid (T.out.addbox #[.int .i64 0, .int .u64 0, .string ⟨#[]⟩, .slice none 0 0, .slice none 0 0, .slice none 0 0, .slice none 0 0] 28)
        have V5 := Lib.hid (V5.out.bel ((Bel.refl _).alloc (.cells #[.int .i64 0, .int .u64 0, .string ⟨#[]⟩, .slice none 0 0, .slice none 0 0, .slice none 0 0, .slice none 0 0] 28)))
        have V6 := Lib.hid (V6.out.bel ((Bel.refl _).alloc (.cells #[.int .i64 0, .int .u64 0, .string ⟨#[]⟩, .slice none 0 0, .slice none 0 0, .slice none 0 0, .slice none 0 0] 28)))
        have sw6 := Lib.hid (show (World.alloc w5 (.cells #[.int .i64 0, .int .u64 0, .string ⟨#[]⟩, .slice none 0 0, .slice none 0 0, .slice none 0 0, .slice none 0 0] 28)).heap.size = w5.heap.size + 1 by simp)
        generalize hA : World.alloc w5 _ = w6 at T sw6 V5 V6 ⊢
        clear hA
        rotate_left 1
        focus exact tree_no
        (with_reducible refine tree_done ?_)
        (simp only [List.drop_succ_cons, List.drop_zero])
        subst ha
        (simp only [put_some, set_s, set_z])
        go_wp2_with (first
      | (refine wpl_store_box rfl 28 _ _ rfl (w5.heap.size) #[.int .i64 d5.k, .int .u64 d5.b, .string (S d5.t), .slice d5.p1 d5.n1 d5.c1, .slice d5.p2 d5.n2 d5.c2, .slice d5.p3 d5.n3 d5.c3, .slice d5.p4 d5.n4 d5.c4] #[.int .i64 0, .int .u64 0, .string ⟨#[]⟩, .slice none 0 0, .slice none 0 0, .slice none 0 0, .slice none 0 0] 28 rfl rfl (T.out.box 0 rfl) vr_V rfl (all_one (dc_one d5)) ?_; have T := Lib.hid (T.out.setrowbox 0 rfl #[.int .i64 d5.k, .int .u64 d5.b, .string (S d5.t), .slice d5.p1 d5.n1 d5.c1, .slice d5.p2 d5.n2 d5.c2, .slice d5.p3 d5.n3 d5.c3, .slice d5.p4 d5.n4 d5.c4]); have V5 := Lib.hid (V5.out.kept (Keep.grown (grown_setRow w6 (w5.heap.size) #[.int .i64 d5.k, .int .u64 d5.b, .string (S d5.t), .slice d5.p1 d5.n1 d5.c1, .slice d5.p2 d5.n2 d5.c2, .slice d5.p3 d5.n3 d5.c3, .slice d5.p4 d5.n4 d5.c4]) (fun b hb e => by have e2 : b = w5.heap.size := (by injection e); have z7 := sw7.out; have z2 := sw2.out; have z5 := sw5.out; have z6 := sw6.out; have z1 := swd.out; omega))); have V6 := Lib.hid (V6.out.kept (Keep.grown (grown_setRow w6 (w5.heap.size) #[.int .i64 d5.k, .int .u64 d5.b, .string (S d5.t), .slice d5.p1 d5.n1 d5.c1, .slice d5.p2 d5.n2 d5.c2, .slice d5.p3 d5.n3 d5.c3, .slice d5.p4 d5.n4 d5.c4]) (fun b hb e => by have e2 : b = w5.heap.size := (by injection e); have z7 := sw7.out; have z2 := sw2.out; have z5 := sw5.out; have z6 := sw6.out; have z1 := swd.out; omega))); generalize hwx : World.setRow w6 _ _ = wx at T V5 V6 ⊢; clear hwx)
      | (refine wpl_store_box rfl 28 _ _ rfl (wd.heap.size) #[.int .i64 d6.k, .int .u64 d6.b, .string (S d6.t), .slice d6.p1 d6.n1 d6.c1, .slice d6.p2 d6.n2 d6.c2, .slice d6.p3 d6.n3 d6.c3, .slice d6.p4 d6.n4 d6.c4] #[.int .i64 0, .int .u64 0, .string ⟨#[]⟩, .slice none 0 0, .slice none 0 0, .slice none 0 0, .slice none 0 0] 28 rfl rfl (T.out.box 1 rfl) vr_V rfl (all_one (dc_one d6)) ?_; have T := Lib.hid (T.out.setrowbox 1 rfl #[.int .i64 d6.k, .int .u64 d6.b, .string (S d6.t), .slice d6.p1 d6.n1 d6.c1, .slice d6.p2 d6.n2 d6.c2, .slice d6.p3 d6.n3 d6.c3, .slice d6.p4 d6.n4 d6.c4]); have V5 := Lib.hid (V5.out.kept (Keep.grown (grown_setRow wx (wd.heap.size) #[.int .i64 d6.k, .int .u64 d6.b, .string (S d6.t), .slice d6.p1 d6.n1 d6.c1, .slice d6.p2 d6.n2 d6.c2, .slice d6.p3 d6.n3 d6.c3, .slice d6.p4 d6.n4 d6.c4]) (fun b hb e => by have e2 : b = wd.heap.size := (by injection e); have z7 := sw7.out; have z2 := sw2.out; have z5 := sw5.out; have z6 := sw6.out; have z1 := swd.out; omega))); have V6 := Lib.hid (V6.out.kept (Keep.grown (grown_setRow wx (wd.heap.size) #[.int .i64 d6.k, .int .u64 d6.b, .string (S d6.t), .slice d6.p1 d6.n1 d6.c1, .slice d6.p2 d6.n2 d6.c2, .slice d6.p3 d6.n3 d6.c3, .slice d6.p4 d6.n4 d6.c4]) (fun b hb e => by have e2 : b = wd.heap.size := (by injection e); have z7 := sw7.out; have z2 := sw2.out; have z5 := sw5.out; have z6 := sw6.out; have z1 := swd.out; omega))); generalize hwy : World.setRow wx _ _ = wy at T V5 V6 ⊢; clear hwy))
        go_meet
        exact ⟨_, _, d5, d6, _, _, rfl, rfl, Lib.hid (T.out.perm (List.Perm.refl _) (List.Perm.swap _ _ _)), V5, V6⟩
      (with_reducible refine tree_step (v := ?_) (w' := ?_) rfl (by with_unfolding_all rfl) (fun ρ hρ => ?_) ?_ ?_ ?_); (rotate_left 2)
      focus (have hc : ∀ c, ρ (.const c) = c := (fun c => hρ (.const c)); have hfn : ∀ f, ρ (.func f) = .func (.func f) #[] #[] := (fun f => hρ (.func f)); clear hρ; go_simp; (all_goals (first | (with_reducible rfl) | (constructor <;> with_reducible rfl))))
      focus exact (T.out.addbox #[.int .i64 0, .int .u64 0, .string ⟨#[]⟩, .slice none 0 0, .slice none 0 0, .slice none 0 0, .slice none 0 0] 28).dropbox0.dropbox0
      have T := Lib.hid (T.out.addbox #[.int .i64 0, .int .u64 0, .string ⟨#[]⟩, .slice none 0 0, .slice none 0 0, .slice none 0 0, .slice none 0 0] 28)
      have V5 := Lib.hid (V5.out.bel ((Bel.refl _).alloc (.cells #[.int .i64 0, .int .u64 0, .string ⟨#[]⟩, .slice none 0 0, .slice none 0 0, .slice none 0 0, .slice none 0 0] 28)))
      have sw6 := Lib.hid (show (World.alloc w2 (.cells #[.int .i64 0, .int .u64 0, .string ⟨#[]⟩, .slice none 0 0, .slice none 0 0, .slice none 0 0, .slice none 0 0] 28)).heap.size = w2.heap.size + 1 by simp)
      generalize hA : World.alloc w2 _ = w6 at T sw6 V5 ⊢
      clear hA
      rotate_left 1
      focus exact tree_no
      (with_reducible refine tree_enter (f := ?_) (args := ?_) rfl (by with_unfolding_all rfl) (fun ρ hρ => ?_) ?_ ?_); (rotate_left 2)
      focus (have p10 := hρ (.tmp 10); (simp (disch := (first | decide | ((try simp only [sz_put]); rw [hsz]; decide))) only [ev_eq, ev_ne, a2, a1] at p10); have p11 := hρ (.tmp 11); (simp (disch := (first | decide | ((try simp only [sz_put]); rw [hsz]; decide))) only [ev_eq, ev_ne, a2, a1] at p11); have hc : ∀ c, ρ (.const c) = c := (fun c => hρ (.const c)); have hfn : ∀ f, ρ (.func f) = .func (.func f) #[] #[] := (fun f => hρ (.func f)); clear hρ; rw [execOp_call_rho (hfn _)]; clear hfn; go_simp; (all_goals (first | (with_reducible rfl) | (constructor <;> with_reducible rfl))))
      (with_reducible refine (CDr.out _ T.out.bel).mono ?_)
      rintro e w5 ⟨d6, rfl, h6, g⟩
      have g : Bel w6 w5 := g
      have sw5 := Lib.hid (show w6.heap.size ≤ w5.heap.size from g.size)
      have T := Lib.hid (T.out.belw g)
      have V5 := Lib.hid (V5.out.bel g)
      have V6 := Lib.hid (ValC.weak (A' := fun b => (b < w0.heap.size ∨ w6.heap.size ≤ b) ∧ b < w5.heap.size) h6 (fun b hb hl => ⟨hb, hl⟩))
      clear g h6
      refine ⟨_, rfl, T.out.dropbox0.dropbox0, ?_⟩
      rotate_left 1
      focus exact tree_no
      (with_reducible refine tree_done ?_)
      (simp only [List.drop_succ_cons, List.drop_zero])
      subst ha
      (simp only [put_some, set_s, set_z])
      go_wp2_with (first
      | (refine wpl_store_box rfl 28 _ _ rfl (w2.heap.size) #[.int .i64 d5.k, .int .u64 d5.b, .string (S d5.t), .slice d5.p1 d5.n1 d5.c1, .slice d5.p2 d5.n2 d5.c2, .slice d5.p3 d5.n3 d5.c3, .slice d5.p4 d5.n4 d5.c4] #[.int .i64 0, .int .u64 0, .string ⟨#[]⟩, .slice none 0 0, .slice none 0 0, .slice none 0 0, .slice none 0 0] 28 rfl rfl (T.out.box 0 rfl) vr_V rfl (all_one (dc_one d5)) ?_; have T := Lib.hid (T.out.setrowbox 0 rfl #[.int .i64 d5.k, .int .u64 d5.b, .string (S d5.t), .slice d5.p1 d5.n1 d5.c1, .slice d5.p2 d5.n2 d5.c2, .slice d5.p3 d5.n3 d5.c3, .slice d5.p4 d5.n4 d5.c4]); have V5 := Lib.hid (V5.out.kept (Keep.grown (grown_setRow w5 (w2.heap.size) #[.int .i64 d5.k, .int .u64 d5.b, .string (S d5.t), .slice d5.p1 d5.n1 d5.c1, .slice d5.p2 d5.n2 d5.c2, .slice d5.p3 d5.n3 d5.c3, .slice d5.p4 d5.n4 d5.c4]) (fun b hb e => by have e2 : b = w2.heap.size := (by injection e); have z7 := sw7.out; have z2 := sw2.out; have z6 := sw6.out; have z5 := sw5.out; have z1 := swd.out; omega))); have V6 := Lib.hid (V6.out.kept (Keep.grown (grown_setRow w5 (w2.heap.size) #[.int .i64 d5.k, .int .u64 d5.b, .string (S d5.t), .slice d5.p1 d5.n1 d5.c1, .slice d5.p2 d5.n2 d5.c2, .slice d5.p3 d5.n3 d5.c3, .slice d5.p4 d5.n4 d5.c4]) (fun b hb e => by have e2 : b = w2.heap.size := (by injection e); have z7 := sw7.out; have z2 := sw2.out; have z6 := sw6.out; have z5 := sw5.out; have z1 := swd.out; omega))); generalize hwx : World.setRow w5 _ _ = wx at T V5 V6 ⊢; clear hwx)
      | (refine wpl_store_box rfl 28 _ _ rfl (wd.heap.size) #[.int .i64 d6.k, .int .u64 d6.b, .string (S d6.t), .slice d6.p1 d6.n1 d6.c1, .slice d6.p2 d6.n2 d6.c2, .slice d6.p3 d6.n3 d6.c3, .slice d6.p4 d6.n4 d6.c4] #[.int .i64 0, .int .u64 0, .string ⟨#[]⟩, .slice none 0 0, .slice none 0 0, .slice none 0 0, .slice none 0 0] 28 rfl rfl (T.out.box 1 rfl) vr_V rfl (all_one (dc_one d6)) ?_; have T := Lib.hid (T.out.setrowbox 1 rfl #[.int .i64 d6.k, .int .u64 d6.b, .string (S d6.t), .slice d6.p1 d6.n1 d6.c1, .slice d6.p2 d6.n2 d6.c2, .slice d6.p3 d6.n3 d6.c3, .slice d6.p4 d6.n4 d6.c4]); have V5 := Lib.hid (V5.out.kept (Keep.grown (grown_setRow wx (wd.heap.size) #[.int .i64 d6.k, .int .u64 d6.b, .string (S d6.t), .slice d6.p1 d6.n1 d6.c1, .slice d6.p2 d6.n2 d6.c2, .slice d6.p3 d6.n3 d6.c3, .slice d6.p4 d6.n4 d6.c4]) (fun b hb e => by have e2 : b = wd.heap.size := (by injection e); have z7 := sw7.out; have z2 := sw2.out; have z6 := sw6.out; have z5 := sw5.out; have z1 := swd.out; omega))); have V6 := Lib.hid (V6.out.kept (Keep.grown (grown_setRow wx (wd.heap.size) #[.int .i64 d6.k, .int .u64 d6.b, .string (S d6.t), .slice d6.p1 d6.n1 d6.c1, .slice d6.p2 d6.n2 d6.c2, .slice d6.p3 d6.n3 d6.c3, .slice d6.p4 d6.n4 d6.c4]) (fun b hb e => by have e2 : b = wd.heap.size := (by injection e); have z7 := sw7.out; have z2 := sw2.out; have z6 := sw6.out; have z5 := sw5.out; have z1 := swd.out; omega))); generalize hwy : World.setRow wx _ _ = wy at T V5 V6 ⊢; clear hwy))
      go_meet
      exact ⟨_, _, d5, d6, _, _, rfl, rfl, Lib.hid (T.out.perm (List.Perm.refl _) (List.Perm.swap _ _ _)), V5, V6⟩
    (with_reducible refine tree_step (v := ?_) (w' := ?_) rfl (by with_unfolding_all rfl) (fun ρ hρ => ?_) ?_ ?_ ?_); (rotate_left 2)
    focus (have hc : ∀ c, ρ (.const c) = c := (fun c => hρ (.const c)); have hfn : ∀ f, ρ (.func f) = .func (.func f) #[] #[] := (fun f => hρ (.func f)); clear hρ; go_simp; (all_goals (first | (with_reducible rfl) | (constructor <;> with_reducible rfl))))
    focus exact (T.out.addbox #[.int .i64 0, .int .u64 0, .string ⟨#[]⟩, .slice none 0 0, .slice none 0 0, .slice none 0 0, .slice none 0 0] 28).dropbox0.dropbox0
    have T := Lib.hid (T.out.addbox #[.int .i64 0, .int .u64 0, .string ⟨#[]⟩, .slice none 0 0, .slice none 0 0, .slice none 0 0, .slice none 0 0] 28)
    have sw6 := Lib.hid (show (World.alloc w7 (.cells #[.int .i64 0, .int .u64 0, .string ⟨#[]⟩, .slice none 0 0, .slice none 0 0, .slice none 0 0, .slice none 0 0] 28)).heap.size = w7.heap.size + 1 by simp)
    generalize hA : World.alloc w7 _ = w6 at T sw6  ⊢
    clear hA
    rotate_left 1
    focus exact tree_no
    (with_reducible refine tree_enter (f := ?_) (args := ?_) rfl (by with_unfolding_all rfl) (fun ρ hρ => ?_) ?_ ?_); (rotate_left 2)
    focus (have p7 := hρ (.tmp 7); (simp (disch := (first | decide | ((try simp only [sz_put]); rw [hsz]; decide))) only [ev_eq, ev_ne, a2, a1] at p7); have p8 := hρ (.tmp 8); (simp (disch := (first | decide | ((try simp only [sz_put]); rw [hsz]; decide))) only [ev_eq, ev_ne, a2, a1] at p8); have hc : ∀ c, ρ (.const c) = c := (fun c => hρ (.const c)); have hfn : ∀ f, ρ (.func f) = .func (.func f) #[] #[] := (fun f => hρ (.func f)); clear hρ; rw [execOp_call_rho (hfn _)]; clear hfn; go_simp; (all_goals (first | (with_reducible rfl) | (constructor <;> with_reducible rfl))))
    (with_reducible refine (CK.out _ T.out.bel).mono ?_)
    rintro e w2 ⟨d5, rfl, h5, g⟩
    have g : Bel w6 w2 := g
    have sw2 := Lib.hid (show w6.heap.size ≤ w2.heap.size from g.size)
    have T := Lib.hid (T.out.belw g)
    have V5 := Lib.hid (ValC.weak (A' := fun b => (b < w0.heap.size ∨ w6.heap.size ≤ b) ∧ b < w2.heap.size) h5 (fun b hb hl => ⟨hb, hl⟩))
    clear g h5
    refine ⟨_, rfl, T.out.dropbox0.dropbox0, ?_⟩
    rotate_left 1
    focus exact tree_no
    (with_reducible refine tree_enter (f := ?_) (args := ?_) rfl (by with_unfolding_all rfl) (fun ρ hρ => ?_) ?_ ?_); (rotate_left 2)
    focus (have p10 := hρ (.tmp 10); (simp (disch := (first | decide | ((try simp only [sz_put]); rw [hsz]; decide))) only [ev_eq, ev_ne, a2, a1] at p10); have p11 := hρ (.tmp 11); (simp (disch := (first | decide | ((try simp only [sz_put]); rw [hsz]; decide))) only [ev_eq, ev_ne, a2, a1] at p11); have hc : ∀ c, ρ (.const c) = c := (fun c => hρ (.const c)); have hfn : ∀ f, ρ (.func f) = .func (.func f) #[] #[] := (fun f => hρ (.func f)); clear hρ; rw [execOp_call_rho (hfn _)]; clear hfn; go_simp; (all_goals (first | (with_reducible rfl) | (constructor <;> with_reducible rfl))))
    (with_reducible refine (CDr.out _ T.out.bel).mono ?_)
    rintro e w5 ⟨d6, rfl, h6, g⟩
    have g : Bel w2 w5 := g
    have sw5 := Lib.hid (show w2.heap.size ≤ w5.heap.size from g.size)
    have T := Lib.hid (T.out.belw g)
    have V5 := Lib.hid (V5.out.bel g)
    have V6 := Lib.hid (ValC.weak (A' := fun b => (b < w0.heap.size ∨ w2.heap.size ≤ b) ∧ b < w5.heap.size) h6 (fun b hb hl => ⟨hb, hl⟩))
    clear g h6
    refine ⟨_, rfl, T.out.dropbox0.dropbox0, ?_⟩
    rotate_left 1
    focus exact tree_no
    (with_reducible refine tree_done ?_)
    (simp only [List.drop_succ_cons, List.drop_zero])
    subst ha
    (simp only [put_some, set_s, set_z])
    go_wp2_with (first
      | (refine wpl_store_box rfl 28 _ _ rfl (w7.heap.size) #[.int .i64 d5.k, .int .u64 d5.b, .string (S d5.t), .slice d5.p1 d5.n1 d5.c1, .slice d5.p2 d5.n2 d5.c2, .slice d5.p3 d5.n3 d5.c3, .slice d5.p4 d5.n4 d5.c4] #[.int .i64 0, .int .u64 0, .string ⟨#[]⟩, .slice none 0 0, .slice none 0 0, .slice none 0 0, .slice none 0 0] 28 rfl rfl (T.out.box 0 rfl) vr_V rfl (all_one (dc_one d5)) ?_; have T := Lib.hid (T.out.setrowbox 0 rfl #[.int .i64 d5.k, .int .u64 d5.b, .string (S d5.t), .slice d5.p1 d5.n1 d5.c1, .slice d5.p2 d5.n2 d5.c2, .slice d5.p3 d5.n3 d5.c3, .slice d5.p4 d5.n4 d5.c4]); have V5 := Lib.hid (V5.out.kept (Keep.grown (grown_setRow w5 (w7.heap.size) #[.int .i64 d5.k, .int .u64 d5.b, .string (S d5.t), .slice d5.p1 d5.n1 d5.c1, .slice d5.p2 d5.n2 d5.c2, .slice d5.p3 d5.n3 d5.c3, .slice d5.p4 d5.n4 d5.c4]) (fun b hb e => by have e2 : b = w7.heap.size := (by injection e); have z7 := sw7.out; have z6 := sw6.out; have z2 := sw2.out; have z5 := sw5.out; have z1 := swd.out; omega))); have V6 := Lib.hid (V6.out.kept (Keep.grown (grown_setRow w5 (w7.heap.size) #[.int .i64 d5.k, .int .u64 d5.b, .string (S d5.t), .slice d5.p1 d5.n1 d5.c1, .slice d5.p2 d5.n2 d5.c2, .slice d5.p3 d5.n3 d5.c3, .slice d5.p4 d5.n4 d5.c4]) (fun b hb e => by have e2 : b = w7.heap.size := (by injection e); have z7 := sw7.out; have z6 := sw6.out; have z2 := sw2.out; have z5 := sw5.out; have z1 := swd.out; omega))); generalize hwx : World.setRow w5 _ _ = wx at T V5 V6 ⊢; clear hwx)
      | (refine wpl_store_box rfl 28 _ _ rfl (wd.heap.size) #[.int .i64 d6.k, .int .u64 d6.b, .string (S d6.t), .slice d6.p1 d6.n1 d6.c1, .slice d6.p2 d6.n2 d6.c2, .slice d6.p3 d6.n3 d6.c3, .slice d6.p4 d6.n4 d6.c4] #[.int .i64 0, .int .u64 0, .string ⟨#[]⟩, .slice none 0 0, .slice none 0 0, .slice none 0 0, .slice none 0 0] 28 rfl rfl (T.out.box 1 rfl) vr_V rfl (all_one (dc_one d6)) ?_; have T := Lib.hid (T.out.setrowbox 1 rfl #[.int .i64 d6.k, .int .u64 d6.b, .string (S d6.t), .slice d6.p1 d6.n1 d6.c1, .slice d6.p2 d6.n2 d6.c2, .slice d6.p3 d6.n3 d6.c3, .slice d6.p4 d6.n4 d6.c4]); have V5 := Lib.hid (V5.out.kept (Keep.grown (grown_setRow wx (wd.heap.size) #[.int .i64 d6.k, .int .u64 d6.b, .string (S d6.t), .slice d6.p1 d6.n1 d6.c1, .slice d6.p2 d6.n2 d6.c2, .slice d6.p3 d6.n3 d6.c3, .slice d6.p4 d6.n4 d6.c4]) (fun b hb e => by have e2 : b = wd.heap.size := (by injection e); have z7 := sw7.out; have z6 := sw6.out; have z2 := sw2.out; have z5 := sw5.out; have z1 := swd.out; omega))); have V6 := Lib.hid (V6.out.kept (Keep.grown (grown_setRow wx (wd.heap.size) #[.int .i64 d6.k, .int .u64 d6.b, .string (S d6.t), .slice d6.p1 d6.n1 d6.c1, .slice d6.p2 d6.n2 d6.c2, .slice d6.p3 d6.n3 d6.c3, .slice d6.p4 d6.n4 d6.c4]) (fun b hb e => by have e2 : b = wd.heap.size := (by injection e); have z7 := sw7.out; have z6 := sw6.out; have z2 := sw2.out; have z5 := sw5.out; have z1 := swd.out; omega))); generalize hwy : World.setRow wx _ _ = wy at T V5 V6 ⊢; clear hwy))
    go_meet
    exact ⟨_, _, d5, d6, _, _, rfl, rfl, Lib.hid (T.out.perm (List.Perm.refl _) (List.Perm.swap _ _ _)), V5, V6⟩
  case rest =>
    obtain ⟨g5, g6, d5, d6, A5, A6, h5, h6, T, V5, V6⟩ := hcut
    subst h5 h6
    clear HS CK CDr
    have kk := T.out.cell 2 rfl 0
    dsimp only at kk
    cases hmsg : cv.isMsg with
    | false =>
      have hk := HDV.out.msg
      rw [hmsg] at hk
      have hkn : d.k ≠ 10 := fun e => absurd (hk.1 e) (by simp)
      have hkb : (d.k != 10) = true := bne_t hkn
      have e1 := HK1.out
      have e2 := HK2.out
      rw [keep_not hmsg] at e1
      rw [drop_not hmsg] at e2
      subst e1 e2
      have CE1 := Lib.hid (fun W (k : Bel _ W) => show Calls Tryd.prog 6 #[.agg #[.int .i64 d5.k, .int .u64 d5.b, .string (S d5.t), .slice d5.p1 d5.n1 d5.c1, .slice d5.p2 d5.n2 d5.c2, .slice d5.p3 d5.n3 d5.c3, .slice d5.p4 d5.n4 d5.c4], .agg #[.int .i64 d.k, .int .u64 d.b, .string (S d.t), .slice d.p1 d.n1 d.c1, .slice d.p2 d.n2 d.c2, .slice d.p3 d.n3 d.c3, .slice d.p4 d.n4 d.c4]] W _ from rq_Equal N _ _ d5 d _ W (V5.out.bel k) (HDV.out.bel (Bel.of T.out.bel k)))
      have CE2 := Lib.hid (fun W (k : Bel _ W) => show Calls Tryd.prog 6 #[.agg #[.int .i64 d6.k, .int .u64 d6.b, .string (S d6.t), .slice d6.p1 d6.n1 d6.c1, .slice d6.p2 d6.n2 d6.c2, .slice d6.p3 d6.n3 d6.c3, .slice d6.p4 d6.n4 d6.c4], .agg #[.int .i64 d.k, .int .u64 d.b, .string (S d.t), .slice d.p1 d.n1 d.c1, .slice d.p2 d.n2 d.c2, .slice d.p3 d.n3 d.c3, .slice d.p4 d.n4 d.c4]] W _ from rq_Equal N _ _ d6 d _ W (V6.out.bel k) (HDV.out.bel (Bel.of T.out.bel k)))
      clear hk hkn HK1 HK2 V5 V6 HDV HM hmsg
      go_upto_region 3 with (fail)
      have xv0 := T.out.cell 2 rfl 0
      have xv1 := T.out.cell 2 rfl 1
      have xv2 := T.out.cell 2 rfl 2
      have xv3 := T.out.cell 2 rfl 3
      have xv4 := T.out.cell 2 rfl 4
      have xv5 := T.out.cell 2 rfl 5
      have xv6 := T.out.cell 2 rfl 6
      have xk0 := T.out.cell 1 rfl 0
      have xk1 := T.out.cell 1 rfl 1
      have xk2 := T.out.cell 1 rfl 2
      have xk3 := T.out.cell 1 rfl 3
      have xk4 := T.out.cell 1 rfl 4
      have xk5 := T.out.cell 1 rfl 5
      have xk6 := T.out.cell 1 rfl 6
      have xd0 := T.out.cell 0 rfl 0
      have xd1 := T.out.cell 0 rfl 1
      have xd2 := T.out.cell 0 rfl 2
      have xd3 := T.out.cell 0 rfl 3
      have xd4 := T.out.cell 0 rfl 4
      have xd5 := T.out.cell 0 rfl 5
      have xd6 := T.out.cell 0 rfl 6
      dsimp only at xv0 xv1 xv2 xv3 xv4 xv5 xv6 xk0 xk1 xk2 xk3 xk4 xk5 xk6 xd0 xd1 xd2 xd3 xd4 xd5 xd6
      go_wp2_with (first
        | (go_at_call 6; (with_reducible refine (CE1.out _ (Bel.refl _)).mono ?_); rintro e w1 ⟨rfl, k1⟩; have k1 : Bel _ w1 := k1; have T1 := Lib.hid (T.out.belw k1); have K1 := Lib.hid k1; clear CE1 k1 kk xv0 xv1 xv2 xv3 xv4 xv5 xv6 xk0 xk1 xk2 xk3 xk4 xk5 xk6 xd0 xd1 xd2 xd3 xd4 xd5 xd6; have xv0 := T1.out.cell 2 rfl 0; have xv1 := T1.out.cell 2 rfl 1; have xv2 := T1.out.cell 2 rfl 2; have xv3 := T1.out.cell 2 rfl 3; have xv4 := T1.out.cell 2 rfl 4; have xv5 := T1.out.cell 2 rfl 5; have xv6 := T1.out.cell 2 rfl 6; have xd0 := T1.out.cell 0 rfl 0; have xd1 := T1.out.cell 0 rfl 1; have xd2 := T1.out.cell 0 rfl 2; have xd3 := T1.out.cell 0 rfl 3; have xd4 := T1.out.cell 0 rfl 4; have xd5 := T1.out.cell 0 rfl 5; have xd6 := T1.out.cell 0 rfl 6; dsimp only at xv0 xv1 xv2 xv3 xv4 xv5 xv6 xd0 xd1 xd2 xd3 xd4 xd5 xd6)
        | (go_at_call 6; (with_reducible refine (CE2.out _ K1.out).mono ?_); rintro e w2 ⟨rfl, k2⟩; have k2 : Bel _ w2 := k2; have T2 := Lib.hid (T1.out.belw k2); clear k2 CE2)
        | (go_at_call 11; (with_reducible refine (CA.out _ T2.out.bel).mono ?_); rintro e w3 ⟨rfl, k3⟩; have k3 : Bel _ w3 := k3; have T3 := Lib.hid (T2.out.belw k3)))
      go_ret
      exact ⟨by simp, T3.out.bel⟩
    | true =>
      have hk : d.k = 10 := HDV.out.msg.2 hmsg
      have hkb : (d.k != 10) = false := by rw [hk]; rfl
      have e1 := HK1.out
      have e2 := HK2.out
      subst e1 e2
      have CS := Lib.hid (show Calls Tryd.prog 12 #[.agg #[.int .i64 d.k, .int .u64 d.b, .string (S d.t), .slice d.p1 d.n1 d.c1, .slice d.p2 d.n2 d.c2, .slice d.p3 d.n3 d.c3, .slice d.p4 d.n4 d.c4], .agg #[.int .i64 d5.k, .int .u64 d5.b, .string (S d5.t), .slice d5.p1 d5.n1 d5.c1, .slice d5.p2 d5.n2 d5.c2, .slice d5.p3 d5.n3 d5.c3, .slice d5.p4 d5.n4 d5.c4], .agg #[.int .i64 d6.k, .int .u64 d6.b, .string (S d6.t), .slice d6.p1 d6.n1 d6.c1, .slice d6.p2 d6.n2 d6.c2, .slice d6.p3 d6.n3 d6.c3, .slice d6.p4 d6.n4 d6.c4], .slice q m.length c] _ _ from law_adds N _ _ _ _ mk d d5 d6 cv _ m _ (HDV.out.bel T.out.bel) V5.out V6.out (HM.out.bel T.out.bel) hmsg)
      clear hk HK1 HK2 V5 V6 HDV HM hmsg
      go_upto_region 4 with (fail)
      have xv0 := T.out.cell 2 rfl 0
      have xv1 := T.out.cell 2 rfl 1
      have xv2 := T.out.cell 2 rfl 2
      have xv3 := T.out.cell 2 rfl 3
      have xv4 := T.out.cell 2 rfl 4
      have xv5 := T.out.cell 2 rfl 5
      have xv6 := T.out.cell 2 rfl 6
      have xk0 := T.out.cell 1 rfl 0
      have xk1 := T.out.cell 1 rfl 1
      have xk2 := T.out.cell 1 rfl 2
      have xk3 := T.out.cell 1 rfl 3
      have xk4 := T.out.cell 1 rfl 4
      have xk5 := T.out.cell 1 rfl 5
      have xk6 := T.out.cell 1 rfl 6
      have xd0 := T.out.cell 0 rfl 0
      have xd1 := T.out.cell 0 rfl 1
      have xd2 := T.out.cell 0 rfl 2
      have xd3 := T.out.cell 0 rfl 3
      have xd4 := T.out.cell 0 rfl 4
      have xd5 := T.out.cell 0 rfl 5
      have xd6 := T.out.cell 0 rfl 6
      dsimp only at xv0 xv1 xv2 xv3 xv4 xv5 xv6 xk0 xk1 xk2 xk3 xk4 xk5 xk6 xd0 xd1 xd2 xd3 xd4 xd5 xd6
      go_wp2_with (first
        | (go_at_call 12; (with_reducible refine CS.out.mono ?_); rintro e w2 ⟨rfl, k2⟩; have k2 : Bel _ w2 := k2; have T2 := Lib.hid (T.out.belw k2); clear k2 CS)
        | (go_at_call 11; (with_reducible refine (CA.out _ T2.out.bel).mono ?_); rintro e w3 ⟨rfl, k3⟩; have k3 : Bel _ w3 := k3; have T3 := Lib.hid (T2.out.belw k3)))
      go_ret
      exact ⟨by simp, T3.out.bel⟩
end Go.Proofs.YtaaneecceiefoaaDoor
