/- Law MaskKeeps walked. Printed by gkeeps.py. -/
import Derived.Test.YtaaneecceiefoaaDoorKitQ
import Derived.Test.YtaaneecceiefoaaDoorKitA
import Derived.Test.YtaaneecceiefoaaDoorMaKeep
import Derived.Test.YtaaneecceiefoaaDoorMaDrop
import Derived.Test.YtaaneecceiefoaaDoorMzKeep
import Derived.Test.YtaaneecceiefoaaDoorMzDrop
import Derived.Test.YtaaneecceiefoaaDoorMaAwake
namespace Go.Proofs.YtaaneecceiefoaaDoor
open Go.RowKit Ma
set_option linter.unusedVariables false
set_option linter.unusedSimpArgs false
set_option maxHeartbeats 4000000 in
set_option maxRecDepth 100000 in
theorem law_Keeps (N mk : Nat) (d : VC) (cv : CV) (q : Option Addr) (c : Nat) (m : List PMask) (w0 : World) (hd : ValC (fun b => b < w0.heap.size) N w0 d cv) (hm : MaskD (fun b => b < w0.heap.size) mk w0 (.slice q m.length c) m) (hw : WdV 1034834473170 N cv) (hM : ML w0) :
    Calls Tryd.prog 3 #[.agg d.cells.toArray, .slice q m.length c] w0 fun e w' => e = .returned (.bool true) ∧ Bel w0 w' := by
  have CK := Lib.hid (fun W (k : Bel w0 W) => show Calls Tryd.prog 7 #[.agg #[.int .i64 d.k, .int .u64 d.b, .string (S d.t), .slice d.p1 d.n1 d.c1, .slice d.p2 d.n2 d.c2, .slice d.p3 d.n3 d.c3, .slice d.p4 d.n4 d.c4], .slice q m.length c] W (ValOut (fun b => b < w0.heap.size) N W (keep N cv m)) from mk_Keep N _ mk d cv _ m W (fun b hb => Nat.lt_of_lt_of_le hb k.size) (hd.bel k) (hm.bel k) hw)
  have CRK := Lib.hid (fun W (k : Bel w0 W) => show Calls Tryd.prog 8 #[.agg #[.int .i64 d.k, .int .u64 d.b, .string (S d.t), .slice d.p1 d.n1 d.c1, .slice d.p2 d.n2 d.c2, .slice d.p3 d.n3 d.c3, .slice d.p4 d.n4 d.c4], .slice q m.length c] W (ValOut (fun b => b < w0.heap.size) N W (keep N cv m)) from rm_Keep N _ mk d cv _ m W (fun b hb => Nat.lt_of_lt_of_le hb k.size) (hd.bel k) (hm.bel k) hw)
  have CDr := Lib.hid (fun W (k : Bel w0 W) => show Calls Tryd.prog 9 #[.agg #[.int .i64 d.k, .int .u64 d.b, .string (S d.t), .slice d.p1 d.n1 d.c1, .slice d.p2 d.n2 d.c2, .slice d.p3 d.n3 d.c3, .slice d.p4 d.n4 d.c4], .slice q m.length c] W (ValOut (fun b => b < w0.heap.size) N W (drop N cv m)) from mk_Drop N _ mk d cv _ m W (fun b hb => Nat.lt_of_lt_of_le hb k.size) (hd.bel k) (hm.bel k) hw)
  have CRD := Lib.hid (fun W (k : Bel w0 W) => show Calls Tryd.prog 10 #[.agg #[.int .i64 d.k, .int .u64 d.b, .string (S d.t), .slice d.p1 d.n1 d.c1, .slice d.p2 d.n2 d.c2, .slice d.p3 d.n3 d.c3, .slice d.p4 d.n4 d.c4], .slice q m.length c] W (ValOut (fun b => b < w0.heap.size) N W (drop N cv m)) from rm_Drop N _ mk d cv _ m W (fun b hb => Nat.lt_of_lt_of_le hb k.size) (hd.bel k) (hm.bel k) hw)
  have CA := Lib.hid (fun W (k : Bel w0 W) => law_awake W (hM.below k))
  generalize keep N cv m = K1 at CK CRK
  generalize drop N cv m = K2 at CDr CRD
  unfold ValOut at CK CRK CDr CRD
  clear hd hm hw hM
  show Calls _ _ #[.agg #[.int .i64 d.k, .int .u64 d.b, .string (S d.t), .slice d.p1 d.n1 d.c1, .slice d.p2 d.n2 d.c2, .slice d.p3 d.n3 d.c3, .slice d.p4 d.n4 d.c4], .slice q m.length c] _ _
  have HS := Lib.hid ((ST.start w0).addbox #[.int .i64 d.k, .int .u64 d.b, .string (S d.t), .slice d.p1 d.n1 d.c1, .slice d.p2 d.n2 d.c2, .slice d.p3 d.n3 d.c3, .slice d.p4 d.n4 d.c4] 28)
  go_enter Tryd.func3, Tryd.ntmps3
  go_upto_region 1 with (fail)
  generalize hwz : World.alloc _ _ = wz at HS ⊢
  clear hwz
  obtain ⟨wd, hwd⟩ : ∃ wd, wd = wz.drew := ⟨_, rfl⟩
  have HD := Lib.hid (show ST w0 _ _ wd by rw [hwd]; exact HS.out.belw (Bel.refl _).drew)
  have HWD := Lib.hid hwd
  clear hwd HS
  have KS := Lib.hid (fun W (h : ST w0 [] [⟨w0.heap.size, #[.int .i64 d.k, .int .u64 d.b, .string (S d.t), .slice d.p1 d.n1 d.c1, .slice d.p2 d.n2 d.c2, .slice d.p3 d.n3 d.c3, .slice d.p4 d.n4 d.c4], 28⟩] W) => h)
  refine region_treeA (fun W => ST w0 [] [⟨w0.heap.size, #[.int .i64 d.k, .int .u64 d.b, .string (S d.t), .slice d.p1 d.n1 d.c1, .slice d.p2 d.n2 d.c2, .slice d.p3 d.n3 d.c3, .slice d.p4 d.n4 d.c4], 28⟩] W) (.take 0 (.take 1 (.take 3 (.take 4 (.alt 2 (.alt 5 (.alt 6 (.take 7 (.take 8 (.take 9 (.take 11 (.take 12 (.alt 10 .done .no)))))) .no) .no) .no))))) 13 (by kernel_rfl) (by kernel_rfl) HWD.out HD.out (fun a ha => ?_)
  (simp only [pickT, List.getD_cons_zero, List.getD_cons_succ])
  have hsz : a.tmps.size = 24 := (by rw [ha]; kernel_rfl)
  have a2 : a.eval (.tmp 2) = .pointer (some ⟨w0.heap.size, 0, none⟩) := (by rw [ha]; kernel_rfl)
  have a1 : a.eval (.tmp 1) = .slice q m.length c := (by rw [ha]; kernel_rfl)
  (with_reducible refine tree_held (v := ?_) rfl (by with_unfolding_all rfl) (fun ρ hρ W hW => ?_) ?_); (rotate_left 1)
  focus (have hS := KS.out _ hW; clear hW; have p2 := hρ (.tmp 2); (simp (disch := (first | decide | ((try simp only [sz_put]); rw [hsz]; decide))) only [ev_eq, ev_ne, a2, a1] at p2); have hc : ∀ c, ρ (.const c) = c := (fun c => hρ (.const c)); have hfn : ∀ f, ρ (.func f) = .func (.func f) #[] #[] := (fun f => hρ (.func f)); clear hρ; exact load_V p2 (hS.box 0 rfl) rfl)
  (with_reducible refine tree_held (v := ?_) rfl (by with_unfolding_all rfl) (fun ρ hρ W hW => ?_) ?_); (rotate_left 1)
  focus (clear hW; have p1 := hρ (.tmp 1); (simp (disch := (first | decide | ((try simp only [sz_put]); rw [hsz]; decide))) only [ev_eq, ev_ne, a2, a1] at p1); have hc : ∀ c, ρ (.const c) = c := (fun c => hρ (.const c)); have hfn : ∀ f, ρ (.func f) = .func (.func f) #[] #[] := (fun f => hρ (.func f)); clear hρ; go_simp; (all_goals (first | (with_reducible rfl) | (constructor <;> with_reducible rfl))))
  (with_reducible refine tree_held (v := ?_) rfl (by with_unfolding_all rfl) (fun ρ hρ W hW => ?_) ?_); (rotate_left 1)
  focus (have hS := KS.out _ hW; clear hW; have p2 := hρ (.tmp 2); (simp (disch := (first | decide | ((try simp only [sz_put]); rw [hsz]; decide))) only [ev_eq, ev_ne, a2, a1] at p2); have hc : ∀ c, ρ (.const c) = c := (fun c => hρ (.const c)); have hfn : ∀ f, ρ (.func f) = .func (.func f) #[] #[] := (fun f => hρ (.func f)); clear hρ; exact load_V p2 (hS.box 0 rfl) rfl)
  (with_reducible refine tree_held (v := ?_) rfl (by with_unfolding_all rfl) (fun ρ hρ W hW => ?_) ?_); (rotate_left 1)
  focus (clear hW; have p1 := hρ (.tmp 1); (simp (disch := (first | decide | ((try simp only [sz_put]); rw [hsz]; decide))) only [ev_eq, ev_ne, a2, a1] at p1); have hc : ∀ c, ρ (.const c) = c := (fun c => hρ (.const c)); have hfn : ∀ f, ρ (.func f) = .func (.func f) #[] #[] := (fun f => hρ (.func f)); clear hρ; go_simp; (all_goals (first | (with_reducible rfl) | (constructor <;> with_reducible rfl))))
  (with_reducible refine tree_enter (f := ?_) (args := ?_) rfl (by with_unfolding_all rfl) (fun ρ hρ => ?_) ?_ ?_); (rotate_left 2)
  focus (have p5 := hρ (.tmp 5); (simp (disch := (first | decide | ((try simp only [sz_put]); rw [hsz]; decide))) only [ev_eq, ev_ne, a2, a1] at p5); have p6 := hρ (.tmp 6); (simp (disch := (first | decide | ((try simp only [sz_put]); rw [hsz]; decide))) only [ev_eq, ev_ne, a2, a1] at p6); have hc : ∀ c, ρ (.const c) = c := (fun c => hρ (.const c)); have hfn : ∀ f, ρ (.func f) = .func (.func f) #[] #[] := (fun f => hρ (.func f)); clear hρ; rw [execOp_call_rho (hfn _)]; clear hfn; go_simp; (all_goals (first | (with_reducible rfl) | (constructor <;> with_reducible rfl))))
  (with_reducible refine (CK.out _ HD.out.bel).mono ?_)
  rintro e w2 ⟨d2, rfl, h2, g2⟩
  have g2 : Bel _ w2 := g2
  have T2 := Lib.hid (HD.out.belw g2)
  have V2 := Lib.hid h2
  clear g2 h2 CK
  refine ⟨_, rfl, T2.out, ?_⟩
  rotate_left 1
  focus exact tree_no
  (with_reducible refine tree_enter (f := ?_) (args := ?_) rfl (by with_unfolding_all rfl) (fun ρ hρ => ?_) ?_ ?_); (rotate_left 2)
  focus (have p8 := hρ (.tmp 8); (simp (disch := (first | decide | ((try simp only [sz_put]); rw [hsz]; decide))) only [ev_eq, ev_ne, a2, a1] at p8); have p9 := hρ (.tmp 9); (simp (disch := (first | decide | ((try simp only [sz_put]); rw [hsz]; decide))) only [ev_eq, ev_ne, a2, a1] at p9); have hc : ∀ c, ρ (.const c) = c := (fun c => hρ (.const c)); have hfn : ∀ f, ρ (.func f) = .func (.func f) #[] #[] := (fun f => hρ (.func f)); clear hρ; rw [execOp_call_rho (hfn _)]; clear hfn; go_simp; (all_goals (first | (with_reducible rfl) | (constructor <;> with_reducible rfl))))
  (with_reducible refine (CRK.out _ T2.out.bel).mono ?_)
  rintro e w5 ⟨d5, rfl, h5, g5⟩
  have g5 : Bel _ w5 := g5
  have T5 := Lib.hid (T2.out.belw g5)
  have CE := Lib.hid (rq_Equal _ _ _ _ _ _ w5 (V2.out.bel g5) h5)
  clear g5 h5 CRK V2
  refine ⟨_, rfl, T5.out, ?_⟩
  rotate_left 1
  focus exact tree_no
  (with_reducible refine tree_enter (f := ?_) (args := ?_) rfl (by with_unfolding_all rfl) (fun ρ hρ => ?_) ?_ ?_); (rotate_left 2)
  focus (have p7 := hρ (.tmp 7); (simp (disch := (first | decide | ((try simp only [sz_put]); rw [hsz]; decide))) only [ev_eq, ev_ne, a2, a1] at p7); have p10 := hρ (.tmp 10); (simp (disch := (first | decide | ((try simp only [sz_put]); rw [hsz]; decide))) only [ev_eq, ev_ne, a2, a1] at p10); have hc : ∀ c, ρ (.const c) = c := (fun c => hρ (.const c)); have hfn : ∀ f, ρ (.func f) = .func (.func f) #[] #[] := (fun f => hρ (.func f)); clear hρ; rw [execOp_call_rho (hfn _)]; clear hfn; go_simp; (all_goals (first | (with_reducible rfl) | (constructor <;> with_reducible rfl))))
  (with_reducible refine CE.out.mono ?_)
  rintro e w6 ⟨rfl, g6⟩
  have g6 : Bel _ w6 := g6
  have T6 := Lib.hid (T5.out.belw g6)
  clear g6 CE
  refine ⟨_, rfl, T6.out, ?_⟩
  rotate_left 1
  focus exact tree_no
  (with_reducible refine tree_held (v := .bool true) rfl (by with_unfolding_all rfl) (fun ρ hρ W hW => ?_) ?_); skip
  focus (clear hW; have p11 := hρ (.tmp 11); (simp (disch := (first | decide | ((try simp only [sz_put]); rw [hsz]; decide))) only [ev_eq, ev_ne, a2, a1] at p11); have hc : ∀ c, ρ (.const c) = c := (fun c => hρ (.const c)); have hfn : ∀ f, ρ (.func f) = .func (.func f) #[] #[] := (fun f => hρ (.func f)); clear hρ; go_simp; (first | done | (all_goals (first | (with_reducible rfl) | (constructor <;> with_reducible rfl))) | (simp only []; done) | (simp []; done) | ((try simp only []); done)))
  (with_reducible refine tree_held_g (v := ?_) (t := 12) rfl rfl (by with_unfolding_all rfl) ?_ (fun ρ hρ W hW => ?_) ?_); (rotate_left 1)
  focus (simp (disch := (first | decide | ((try simp only [sz_put]); rw [hsz]; decide))) only [ev_eq, ev_ne, a2, a1])
  focus (have hS := KS.out _ hW; clear hW; have p2 := hρ (.tmp 2); (simp (disch := (first | decide | ((try simp only [sz_put]); rw [hsz]; decide))) only [ev_eq, ev_ne, a2, a1] at p2); have hc : ∀ c, ρ (.const c) = c := (fun c => hρ (.const c)); have hfn : ∀ f, ρ (.func f) = .func (.func f) #[] #[] := (fun f => hρ (.func f)); clear hρ; exact load_V p2 (hS.box 0 rfl) rfl)
  (with_reducible refine tree_held_g (v := ?_) (t := 12) rfl rfl (by with_unfolding_all rfl) ?_ (fun ρ hρ W hW => ?_) ?_); (rotate_left 1)
  focus (simp (disch := (first | decide | ((try simp only [sz_put]); rw [hsz]; decide))) only [ev_eq, ev_ne, a2, a1])
  focus (clear hW; have p1 := hρ (.tmp 1); (simp (disch := (first | decide | ((try simp only [sz_put]); rw [hsz]; decide))) only [ev_eq, ev_ne, a2, a1] at p1); have hc : ∀ c, ρ (.const c) = c := (fun c => hρ (.const c)); have hfn : ∀ f, ρ (.func f) = .func (.func f) #[] #[] := (fun f => hρ (.func f)); clear hρ; go_simp; (all_goals (first | (with_reducible rfl) | (constructor <;> with_reducible rfl))))
  (with_reducible refine tree_held_g (v := ?_) (t := 12) rfl rfl (by with_unfolding_all rfl) ?_ (fun ρ hρ W hW => ?_) ?_); (rotate_left 1)
  focus (simp (disch := (first | decide | ((try simp only [sz_put]); rw [hsz]; decide))) only [ev_eq, ev_ne, a2, a1])
  focus (have hS := KS.out _ hW; clear hW; have p2 := hρ (.tmp 2); (simp (disch := (first | decide | ((try simp only [sz_put]); rw [hsz]; decide))) only [ev_eq, ev_ne, a2, a1] at p2); have hc : ∀ c, ρ (.const c) = c := (fun c => hρ (.const c)); have hfn : ∀ f, ρ (.func f) = .func (.func f) #[] #[] := (fun f => hρ (.func f)); clear hρ; exact load_V p2 (hS.box 0 rfl) rfl)
  (with_reducible refine tree_held_g (v := ?_) (t := 12) rfl rfl (by with_unfolding_all rfl) ?_ (fun ρ hρ W hW => ?_) ?_); (rotate_left 1)
  focus (simp (disch := (first | decide | ((try simp only [sz_put]); rw [hsz]; decide))) only [ev_eq, ev_ne, a2, a1])
  focus (clear hW; have p1 := hρ (.tmp 1); (simp (disch := (first | decide | ((try simp only [sz_put]); rw [hsz]; decide))) only [ev_eq, ev_ne, a2, a1] at p1); have hc : ∀ c, ρ (.const c) = c := (fun c => hρ (.const c)); have hfn : ∀ f, ρ (.func f) = .func (.func f) #[] #[] := (fun f => hρ (.func f)); clear hρ; go_simp; (all_goals (first | (with_reducible rfl) | (constructor <;> with_reducible rfl))))
  (with_reducible refine tree_enter_g (f := ?_) (args := ?_) (t := 12) rfl rfl (by with_unfolding_all rfl) ?_ (fun ρ hρ => ?_) ?_ ?_); (rotate_left 2)
  focus (simp (disch := (first | decide | ((try simp only [sz_put]); rw [hsz]; decide))) only [ev_eq, ev_ne, a2, a1])
  focus (have p13 := hρ (.tmp 13); (simp (disch := (first | decide | ((try simp only [sz_put]); rw [hsz]; decide))) only [ev_eq, ev_ne, a2, a1] at p13); have p14 := hρ (.tmp 14); (simp (disch := (first | decide | ((try simp only [sz_put]); rw [hsz]; decide))) only [ev_eq, ev_ne, a2, a1] at p14); have hc : ∀ c, ρ (.const c) = c := (fun c => hρ (.const c)); have hfn : ∀ f, ρ (.func f) = .func (.func f) #[] #[] := (fun f => hρ (.func f)); clear hρ; rw [execOp_call_rho (hfn _)]; clear hfn; go_simp; (all_goals (first | (with_reducible rfl) | (constructor <;> with_reducible rfl))))
  (with_reducible refine (CDr.out _ T6.out.bel).mono ?_)
  rintro e w7 ⟨d7, rfl, h7, g7⟩
  have g7 : Bel _ w7 := g7
  have T7 := Lib.hid (T6.out.belw g7)
  have V7 := Lib.hid h7
  clear g7 h7 CDr
  refine ⟨_, rfl, T7.out, ?_⟩
  rotate_left 1
  focus exact tree_no
  (with_reducible refine tree_done ?_)
  (simp only [List.drop_succ_cons, List.drop_zero])
  subst ha
  (simp only [put_some, set_s, set_z])
  go_wp2_with (first
    | (go_at_call 10; (with_reducible refine (CRD.out _ T7.out.bel).mono ?_); rintro e w8 ⟨d8, rfl, h8, g8⟩; have g8 : Bel _ w8 := g8; have T8 := Lib.hid (T7.out.belw g8); have CE := Lib.hid (rq_Equal _ _ _ _ _ _ w8 (V7.out.bel g8) h8); clear g8 h8)
    | (go_at_call 6; (with_reducible refine CE.out.mono ?_); rintro e w9 ⟨rfl, g9⟩; have g9 : Bel _ w9 := g9; have T9 := Lib.hid (T8.out.belw g9); clear g9 CE)
    | (go_at_call 11; (with_reducible refine (CA.out _ T9.out.bel).mono ?_); rintro e w10 ⟨rfl, g10⟩; have g10 : Bel _ w10 := g10; have T10 := Lib.hid (T9.out.belw g10); clear g10))
  go_ret
  exact ⟨by simp, T10.out.bel⟩
end Go.Proofs.YtaaneecceiefoaaDoor
