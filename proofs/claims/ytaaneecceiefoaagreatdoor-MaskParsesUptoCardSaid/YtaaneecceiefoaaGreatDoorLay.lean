import Derived.Test.YtaaneecceiefoaaGreatDoorMaFind
import Derived.Test.YtaaneecceiefoaaGreatDoorMaEnvD
import Derived.Test.YtaaneecceiefoaaGreatDoorMzCov
import Derived.Test.YtaaneecceiefoaaGreatDoorMzCheck
import Derived.Test.YtaaneecceiefoaaGreatDoorMzMinus
import Derived.Test.YtaaneecceiefoaaGreatDoorMaPaths
import Derived.Test.YtaaneecceiefoaaGreatDoorMaAwake
import Derived.Test.YtaaneecceiefoaaGreatDoorIdWord
import Derived.Test.YtaaneecceiefoaaGreatDoorMdLaw
import Derived.Deep.Strs
import Derived.WideShapes
import Derived.Lay
import Derived.MakeChecks
import Derived.LaidLaws
import Derived.Deep.DeepHandedRow
set_option maxRecDepth 100000
set_option maxHeartbeats 4000000
set_option linter.unusedVariables false
set_option linter.unusedSimpArgs false
namespace Go.Proofs.YtaaneecceiefoaaGreatDoor
section
open Go.RowKit Ck Ma
theorem rC165 {a:Act} {ρ:Operand->Value} (h : ∀x,ρ x=a.eval x):(∀c,ρ (.const c)=c)/\∀f,ρ (.func f)=.func (.func f) #[] #[]:=⟨fun c=>h (.const c),fun f=>h (.func f)⟩
theorem qjb (q1 q2 q3:Option Addr) (c1 c2 c3:Nat) (s:PSchema) (name:Str) (n N:Nat) (ap bp:Option Addr) (ac bc:Nat) (la lb:List PMask) (d:VC) (cv:CV) (w0:World) (hs:VSchema w0 [.slice q1 s.msgs.length c1,.slice q2 s.enums.length c2,.slice q3 s.svcs.length c3] s) (hQ:qch s) (hf:fewB s=false) :
  Calls Tryz.prog 6 #[.agg #[.slice q1 s.msgs.length c1,.slice q2 s.enums.length c2,.slice q3 s.svcs.length c3],.string (S name),.agg #[.slice ap la.length ac,.slice bp lb.length bc],.agg d.cells.toArray] w0 fun e w'=>e=.returned (.bool true)/\Bel w0 w':=by
 show Calls _ _ #[.agg #[.slice q1 s.msgs.length c1,.slice q2 s.enums.length c2,.slice q3 s.svcs.length c3],.string (S name),.agg #[.slice ap la.length ac,.slice bp lb.length bc],.agg #[.int .i64 d.k,.int .u64 d.b,.string (S d.t),.slice d.p1 d.n1 d.c1,.slice d.p2 d.n2 d.c2,.slice d.p3 d.n3 d.c3,.slice d.p4 d.n4 d.c4]] _ _
 have HS':=(((ST.start w0).addbox #[.slice q1 s.msgs.length c1,.slice q2 s.enums.length c2,.slice q3 s.svcs.length c3] 26).addbox #[.slice ap la.length ac,.slice bp lb.length bc] 39).addbox #[.int .i64 d.k,.int .u64 d.b,.string (S d.t),.slice d.p1 d.n1 d.c1,.slice d.p2 d.n2 d.c2,.slice d.p3 d.n3 d.c3,.slice d.p4 d.n4 d.c4] 46;simp only [World.size_alloc]at HS';have HS:=Lib.hid (show ST w0 [] [⟨w0.heap.size+2,#[.int .i64 d.k,.int .u64 d.b,.string (S d.t),.slice d.p1 d.n1 d.c1,.slice d.p2 d.n2 d.c2,.slice d.p3 d.n3 d.c3,.slice d.p4 d.n4 d.c4],46⟩,⟨w0.heap.size+1,#[.slice ap la.length ac,.slice bp lb.length bc],39⟩,⟨w0.heap.size,#[.slice q1 s.msgs.length c1,.slice q2 s.enums.length c2,.slice q3 s.svcs.length c3],26⟩] _ from HS');have CF:=qfv q1 q2 q3 c1 c2 c3 s _ (VSchema.stays _ _ _ _ HS'.bel hs) hQ;rw [hf]at CF;have CF:=Lib.hid CF;clear HS';clear hs hQ hf
 go_enter Tryz.func6,Tryz.ntmps6
 go_upto_region 1 with(fail)
 generalize hwz:World.alloc (World.alloc (World.alloc w0 _) _) _=wz at HS CF ⊢;clear hwz;have t0:=HS.out.cell 2 rfl 0;have t1:=HS.out.cell 2 rfl 1;have t2:=HS.out.cell 2 rfl 2;dsimp only at t0 t1 t2
 go_wp2_with (go_at_call 8;(with_reducible refine CF.out.mono ?_);rintro e w1 ⟨rfl,k1⟩;have k1:Bel _ w1:=k1;have H1:=Lib.hid (HS.out.belw k1);clear k1)
 go_ret;exact⟨rfl,H1.out.bel⟩
theorem qi4 (q1 q2 q3:Option Addr) (c1 c2 c3:Nat) (s:PSchema) (name:Str) (n N:Nat) (ap bp:Option Addr) (ac bc:Nat) (la lb:List PMask) (d:VC) (cv:CV) (w0:World) (hs:VSchema w0 [.slice q1 s.msgs.length c1,.slice q2 s.enums.length c2,.slice q3 s.svcs.length c3] s) (hQ:qch s) (ha:MaskD (fun b=>b<w0.heap.size) (n+1) w0 (.slice ap la.length ac) la) (hb:MaskD (fun b=>b<w0.heap.size) (n+1) w0 (.slice bp lb.length bc) lb) (hwa:Wd 1048576 (n+1) la) (hd:ValC (fun b=>b<w0.heap.size) N w0 d cv) (hM:ML w0) (hf:fewB s=true) :
  Calls Tryz.prog 6 #[.agg #[.slice q1 s.msgs.length c1,.slice q2 s.enums.length c2,.slice q3 s.svcs.length c3],.string (S name),.agg #[.slice ap la.length ac,.slice bp lb.length bc],.agg d.cells.toArray] w0 fun e w'=>e=.returned (.bool true)/\Bel w0 w':=by
 have hv:valid s=true:=by unfold fewB at hf;rw [Bool.and_eq_true]at hf;exact hf.2
 have hE:=env_ok hv;have hN : ∀m ∈ s.msgs,m.fields.length<=1000000000:=fun m hm=>Nat.le_trans (hQ.1 m hm).2.1 (by decide)
 have hFine:Fine s:=fun m hm=>⟨hN m hm,fun f hf=>qdp hv hm hf⟩
 have wa:=hwa.mono (C:=1000000000) (by decide);show Calls _ _ #[.agg #[.slice q1 s.msgs.length c1,.slice q2 s.enums.length c2,.slice q3 s.svcs.length c3],.string (S name),.agg #[.slice ap la.length ac,.slice bp lb.length bc],.agg #[.int .i64 d.k,.int .u64 d.b,.string (S d.t),.slice d.p1 d.n1 d.c1,.slice d.p2 d.n2 d.c2,.slice d.p3 d.n3 d.c3,.slice d.p4 d.n4 d.c4]] _ _
 have HS':=(((ST.start w0).addbox #[.slice q1 s.msgs.length c1,.slice q2 s.enums.length c2,.slice q3 s.svcs.length c3] 26).addbox #[.slice ap la.length ac,.slice bp lb.length bc] 39).addbox #[.int .i64 d.k,.int .u64 d.b,.string (S d.t),.slice d.p1 d.n1 d.c1,.slice d.p2 d.n2 d.c2,.slice d.p3 d.n3 d.c3,.slice d.p4 d.n4 d.c4] 46;simp only [World.size_alloc]at HS';have HS:=Lib.hid (show ST w0 [] [⟨w0.heap.size+2,#[.int .i64 d.k,.int .u64 d.b,.string (S d.t),.slice d.p1 d.n1 d.c1,.slice d.p2 d.n2 d.c2,.slice d.p3 d.n3 d.c3,.slice d.p4 d.n4 d.c4],46⟩,⟨w0.heap.size+1,#[.slice ap la.length ac,.slice bp lb.length bc],39⟩,⟨w0.heap.size,#[.slice q1 s.msgs.length c1,.slice q2 s.enums.length c2,.slice q3 s.svcs.length c3],26⟩] _ from HS');have CF:=qfv q1 q2 q3 c1 c2 c3 s _ (VSchema.stays _ _ _ _ HS'.bel hs) hQ;rw [hf]at CF;have CF:=Lib.hid CF;clear HS';have CO:=Lib.hid (fun W (k:Bel w0 W)=>show Calls Tryz.prog 18 #[.agg #[.slice q1 s.msgs.length c1,.slice q2 s.enums.length c2,.slice q3 s.svcs.length c3],.string (S name),.agg #[.int .i64 d.k,.int .u64 d.b,.string (S d.t),.slice d.p1 d.n1 d.c1,.slice d.p2 d.n2 d.c2,.slice d.p3 d.n3 d.c3,.slice d.p4 d.n4 d.c4]] W (qbm (fun _=>False) N W (ofV (envOf s) N name cv))from mk_Of N _ _ _ _ s name d cv W (VSchema.stays _ _ _ _ k hs) hFine (hd.bel k));have CRO:=Lib.hid (fun W (k:Bel w0 W)=>show Calls Tryz.prog 19 #[.agg #[.slice q1 s.msgs.length c1,.slice q2 s.enums.length c2,.slice q3 s.svcs.length c3],.string (S name),.agg #[.int .i64 d.k,.int .u64 d.b,.string (S d.t),.slice d.p1 d.n1 d.c1,.slice d.p2 d.n2 d.c2,.slice d.p3 d.n3 d.c3,.slice d.p4 d.n4 d.c4]] W (qbm (fun _=>False) N W (ofV (envOf s) N name cv))from rm_Of N _ _ _ _ s name d cv W (VSchema.stays _ _ _ _ k hs) hFine (hd.bel k));have CRA:=fun W (k:Bel w0 W)=>qfj n _ _ _ _ s name _ la W (VSchema.stays _ _ _ _ k hs) (ha.bel k)
 have CRB:=fun W (k:Bel w0 W)=>qfj n _ _ _ _ s name _ lb W (VSchema.stays _ _ _ _ k hs) (hb.bel k)
 have CD0:=Lib.hid (fun W (k:Bel w0 W) na nb=>qnd n _ _ _ _ s name _ _ la lb W (fun b hb=>Nat.lt_of_lt_of_le hb k.size) (VSchema.stays _ _ _ _ k hs) hE hN (ha.bel k) (hb.bel k) na nb wa);have CRD0:=Lib.hid (fun W (k:Bel w0 W) na nb=>qmg n _ _ _ _ s name _ _ la lb W (fun b hb=>Nat.lt_of_lt_of_le hb k.size) (VSchema.stays _ _ _ _ k hs) hE hN (ha.bel k) (hb.bel k) na nb wa);have HPa:=Lib.hid ha.dp;have HPb:=Lib.hid hb.dp;have CA:=Lib.hid (fun W (k:Bel w0 W)=>qh0 W (hM.below k));generalize ofV (envOf s) N name cv=OV at CO CRO;unfold qbm at CO CRO;clear hs hQ hf ha hb hwa hd hM hv hE hN hFine wa
 go_enter Tryz.func6,Tryz.ntmps6
 go_upto_region 1 with(fail)
 generalize hwz:World.alloc (World.alloc (World.alloc w0 _) _) _=wz at HS CF ⊢;clear hwz;have t0:=HS.out.cell 2 rfl 0;have t1:=HS.out.cell 2 rfl 1;have t2:=HS.out.cell 2 rfl 2;dsimp only at t0 t1 t2
 go_upto_region 3 with(go_at_call 8;(with_reducible refine CF.out.mono ?_);rintro e w1 ⟨rfl,k1⟩;have k1:Bel _ w1:=k1;have H1:=Lib.hid (HS.out.belw k1);clear k1)
 clear t0 t1 t2;obtain⟨wd,hwd⟩ : ∃wd,wd=w1.drew:=⟨_,rfl⟩;have T:=Lib.hid (show ST w0 [] [⟨w0.heap.size+2,#[.int .i64 d.k,.int .u64 d.b,.string (S d.t),.slice d.p1 d.n1 d.c1,.slice d.p2 d.n2 d.c2,.slice d.p3 d.n3 d.c3,.slice d.p4 d.n4 d.c4],46⟩,⟨w0.heap.size+1,#[.slice ap la.length ac,.slice bp lb.length bc],39⟩,⟨w0.heap.size,#[.slice q1 s.msgs.length c1,.slice q2 s.enums.length c2,.slice q3 s.svcs.length c3],26⟩] wd by rw [hwd];exact H1.out.belw (Bel.refl _).drew);have HWD:=Lib.hid hwd;clear hwd;have KS:=Lib.hid (fun W (h:ST w0 [] [⟨w0.heap.size+2,#[.int .i64 d.k,.int .u64 d.b,.string (S d.t),.slice d.p1 d.n1 d.c1,.slice d.p2 d.n2 d.c2,.slice d.p3 d.n3 d.c3,.slice d.p4 d.n4 d.c4],46⟩,⟨w0.heap.size+1,#[.slice ap la.length ac,.slice bp lb.length bc],39⟩,⟨w0.heap.size,#[.slice q1 s.msgs.length c1,.slice q2 s.enums.length c2,.slice q3 s.svcs.length c3],26⟩] W)=>show W.cell? ⟨w0.heap.size,0,none⟩=some (.slice q1 s.msgs.length c1)/\W.cell? ⟨w0.heap.size,1,none⟩=some (.slice q2 s.enums.length c2)/\W.cell? ⟨w0.heap.size,2,none⟩=some (.slice q3 s.svcs.length c3)/\W.cell? ⟨w0.heap.size+2,0,none⟩=some (.int .i64 d.k)/\W.cell? ⟨w0.heap.size+2,1,none⟩=some (.int .u64 d.b)/\W.cell? ⟨w0.heap.size+2,2,none⟩=some (.string (S d.t))/\W.cell? ⟨w0.heap.size+2,3,none⟩=some (.slice d.p1 d.n1 d.c1)/\W.cell? ⟨w0.heap.size+2,4,none⟩=some (.slice d.p2 d.n2 d.c2)/\W.cell? ⟨w0.heap.size+2,5,none⟩=some (.slice d.p3 d.n3 d.c3)/\W.cell? ⟨w0.heap.size+2,6,none⟩=some (.slice d.p4 d.n4 d.c4)from⟨h.cell 2 rfl 0,h.cell 2 rfl 1,h.cell 2 rfl 2,h.cell 0 rfl 0,h.cell 0 rfl 1,h.cell 0 rfl 2,h.cell 0 rfl 3,h.cell 0 rfl 4,h.cell 0 rfl 5,h.cell 0 rfl 6⟩);refine qac (fun W=>ST w0 [] [⟨w0.heap.size+2,#[.int .i64 d.k,.int .u64 d.b,.string (S d.t),.slice d.p1 d.n1 d.c1,.slice d.p2 d.n2 d.c2,.slice d.p3 d.n3 d.c3,.slice d.p4 d.n4 d.c4],46⟩,⟨w0.heap.size+1,#[.slice ap la.length ac,.slice bp lb.length bc],39⟩,⟨w0.heap.size,#[.slice q1 s.msgs.length c1,.slice q2 s.enums.length c2,.slice q3 s.svcs.length c3],26⟩] W) (.take 0 (.take 1 (.take 2 (.take 4 (.take 5 (.take 6 (.alt 3 .done .no))))))) 7 (by kernel_rfl) (by kernel_rfl) HWD.out T.out (fun a ha=>?_)
 (simp only [pickT,List.getD_cons_zero,List.getD_cons_succ])
 have hsz:a.tmps.size=55:=(by rw [ha];kernel_rfl);have a4:a.eval (.tmp 4)=.pointer (some ⟨w0.heap.size,0,none⟩):=(by rw [ha];kernel_rfl);have a7:a.eval (.tmp 7)=.pointer (some ⟨w0.heap.size+2,0,none⟩):=(by rw [ha];kernel_rfl);have a1:a.eval (.tmp 1)=.string (S name):=(by rw [ha];kernel_rfl)
 (with_reducible refine qa1 (v:=?_) rfl (by with_unfolding_all rfl) (fun ρ hρ W hW=>?_) ?_);(rotate_left 1)
 focus(have hS:=KS.out _ hW;clear hW;have p4:=hρ (.tmp 4);(simp +decide only [qa2,hsz,ev_eq,ev_ne,a4,a7,a1]at p4);obtain⟨hc,hfn⟩:=rC165 hρ;clear hρ;go_simp;(all_goals with_reducible first|rfl|(constructor <;> rfl)))
 (with_reducible refine qa1 (v:=?_) rfl (by with_unfolding_all rfl) (fun ρ hρ W hW=>?_) ?_);(rotate_left 1)
 focus(clear hW;have p1:=hρ (.tmp 1);(simp +decide only [qa2,hsz,ev_eq,ev_ne,a4,a7,a1]at p1);obtain⟨hc,hfn⟩:=rC165 hρ;clear hρ;go_simp;(all_goals with_reducible first|rfl|(constructor <;> rfl)))
 (with_reducible refine qa1 (v:=?_) rfl (by with_unfolding_all rfl) (fun ρ hρ W hW=>?_) ?_);(rotate_left 1)
 focus(have hS:=KS.out _ hW;clear hW;have p7:=hρ (.tmp 7);(simp +decide only [qa2,hsz,ev_eq,ev_ne,a4,a7,a1]at p7);obtain⟨hc,hfn⟩:=rC165 hρ;clear hρ;go_simp;(all_goals with_reducible first|rfl|(constructor <;> rfl)))
 (with_reducible refine qa1 (v:=?_) rfl (by with_unfolding_all rfl) (fun ρ hρ W hW=>?_) ?_);(rotate_left 1)
 focus(have hS:=KS.out _ hW;clear hW;have p4:=hρ (.tmp 4);(simp +decide only [qa2,hsz,ev_eq,ev_ne,a4,a7,a1]at p4);obtain⟨hc,hfn⟩:=rC165 hρ;clear hρ;go_simp;(all_goals with_reducible first|rfl|(constructor <;> rfl)))
 (with_reducible refine qa1 (v:=?_) rfl (by with_unfolding_all rfl) (fun ρ hρ W hW=>?_) ?_);(rotate_left 1)
 focus(clear hW;have p1:=hρ (.tmp 1);(simp +decide only [qa2,hsz,ev_eq,ev_ne,a4,a7,a1]at p1);obtain⟨hc,hfn⟩:=rC165 hρ;clear hρ;go_simp;(all_goals with_reducible first|rfl|(constructor <;> rfl)))
 (with_reducible refine qa1 (v:=?_) rfl (by with_unfolding_all rfl) (fun ρ hρ W hW=>?_) ?_);(rotate_left 1)
 focus(have hS:=KS.out _ hW;clear hW;have p7:=hρ (.tmp 7);(simp +decide only [qa2,hsz,ev_eq,ev_ne,a4,a7,a1]at p7);obtain⟨hc,hfn⟩:=rC165 hρ;clear hρ;go_simp;(all_goals with_reducible first|rfl|(constructor <;> rfl)))
 (with_reducible refine qam (f:=?_) (args:=?_) rfl (by with_unfolding_all rfl) (fun ρ hρ=>?_) ?_ ?_);(rotate_left 2)
 focus(have p14:=hρ (.tmp 14);have p15:=hρ (.tmp 15);(simp +decide only [qa2,hsz,ev_eq,ev_ne,a4,a7,a1]at p14 p15);have p16:=hρ (.tmp 16);(simp +decide only [qa2,hsz,ev_eq,ev_ne,a4,a7,a1]at p16);obtain⟨hc,hfn⟩:=rC165 hρ;clear hρ;rw [qa9 (hfn _)];clear hfn;go_simp;(all_goals with_reducible first|rfl|(constructor <;> rfl)))
 with_reducible refine(CO.out _ T.out.bel).mono ?_
 rintro e w2 ⟨v2,rfl,h2,g⟩;have g:Bel wd w2:=g;have T2:=Lib.hid (T.out.belw g);have V2:=Lib.hid h2;clear g h2 CO;refine⟨_,rfl,T2.out,?_⟩;rotate_left 1
 focus exact qap
 with_reducible refine qao ?_
 (simp only [List.drop_succ_cons,List.drop_zero])
 subst ha
 (simp only [qav,set_s,set_z])
 go_upto_region 5 with(first
  | (go_at_call 19;(with_reducible refine(CRO.out _ T2.out.bel).mono ?_);rintro e w3 ⟨v3,rfl,h3,k3⟩;have k3:Bel _ w3:=k3;have T3:=Lib.hid (T2.out.belw k3);have CS:=Lib.hid (qf5 (V2.out.bel k3) h3);clear k3 h3 V2 CRO)
  | (go_at_call 14;(with_reducible refine CS.out.mono ?_);rintro e w4 ⟨rfl,k4⟩;have k4:Bel _ w4:=k4;have T4:=Lib.hid (T3.out.belw k4);clear k4 CS))
 clear HWD;obtain⟨we,hwe⟩ : ∃we,we=w4.drew:=⟨_,rfl⟩;have T5:=Lib.hid (show ST w0 [] [⟨w0.heap.size+2,#[.int .i64 d.k,.int .u64 d.b,.string (S d.t),.slice d.p1 d.n1 d.c1,.slice d.p2 d.n2 d.c2,.slice d.p3 d.n3 d.c3,.slice d.p4 d.n4 d.c4],46⟩,⟨w0.heap.size+1,#[.slice ap la.length ac,.slice bp lb.length bc],39⟩,⟨w0.heap.size,#[.slice q1 s.msgs.length c1,.slice q2 s.enums.length c2,.slice q3 s.svcs.length c3],26⟩] we by rw [hwe];exact T4.out.belw (Bel.refl _).drew);have HWE:=Lib.hid hwe;clear hwe;have p0:=T5.out.cell 1 rfl 0;have p1:=T5.out.cell 1 rfl 1;dsimp only at p0 p1;refine qae 5 (by kernel_rfl) (by kernel_rfl) HWE.out ?_
 (simp only [List.take_succ_cons,List.take_zero,List.drop_succ_cons,List.drop_zero]);(repeat (first|((with_reducible refine wpStill_step (fun K hK=>?_));go_simp;(with_reducible refine hK _ ?_);clear hK K)|((with_reducible refine qaf ?_ ?_);(with_unfolding_all rfl);(simp only [Act.put,List.setIfInBounds_toArray,List.set_cons_zero,List.set_cons_succ]))));(with_reducible refine wpStill_nil ?_)
 go_upto_region 6 with(fail)
 clear p0 p1 HWE;have t0:=T5.out.cell 2 rfl 0;have t1:=T5.out.cell 2 rfl 1;have t2:=T5.out.cell 2 rfl 2;dsimp only at t0 t1 t2;by_cases h1:chk (envOf s) (n+1) name la=0
 ·rw [h1]at CRA
  have CRA:=Lib.hid CRA;by_cases h2:chk (envOf s) (n+1) name lb=0
  ·rw [h2]at CRB
   have CRB:=Lib.hid CRB;have na:=(qdi (n+1) name la HPa.out).1 h1;have nb:=(qdi (n+1) name lb HPb.out).1 h2;have CD:=Lib.hid (fun W (k:Bel w0 W)=>CD0.out W k na nb);have CRD:=Lib.hid (fun W (k:Bel w0 W)=>CRD0.out W k na nb);clear h1 h2 na nb CD0 CRD0;generalize minus (envOf s) (n+1) name la lb=D at CD CRD;unfold qbm at CD CRD
   go_upto_region 8 with(first
    | (go_at_call 10;(with_reducible refine(CRA.out _ T5.out.bel).mono ?_);rintro e w6 ⟨rfl,k6⟩;have k6:Bel _ w6:=k6;have T6:=Lib.hid (T5.out.belw k6);clear t0 t1 t2 CRA;have t0:=T6.out.cell 2 rfl 0;have t1:=T6.out.cell 2 rfl 1;have t2:=T6.out.cell 2 rfl 2;dsimp only at t0 t1 t2;clear k6)
    | (go_at_call 10;(with_reducible refine(CRB.out _ T6.out.bel).mono ?_);rintro e w7 ⟨rfl,k7⟩;have k7:Bel _ w7:=k7;have T7:=Lib.hid (T6.out.belw k7);clear t0 t1 t2 CRB;clear k7))
   obtain⟨wf,hwf⟩ : ∃wf,wf=w7.drew:=⟨_,rfl⟩;have T9:=Lib.hid (show ST w0 [] [⟨w0.heap.size+2,#[.int .i64 d.k,.int .u64 d.b,.string (S d.t),.slice d.p1 d.n1 d.c1,.slice d.p2 d.n2 d.c2,.slice d.p3 d.n3 d.c3,.slice d.p4 d.n4 d.c4],46⟩,⟨w0.heap.size+1,#[.slice ap la.length ac,.slice bp lb.length bc],39⟩,⟨w0.heap.size,#[.slice q1 s.msgs.length c1,.slice q2 s.enums.length c2,.slice q3 s.svcs.length c3],26⟩] wf by rw [hwf];exact T7.out.belw (Bel.refl _).drew);have HWF:=Lib.hid hwf;clear hwf;refine qac (fun W=>ST w0 [] [⟨w0.heap.size+2,#[.int .i64 d.k,.int .u64 d.b,.string (S d.t),.slice d.p1 d.n1 d.c1,.slice d.p2 d.n2 d.c2,.slice d.p3 d.n3 d.c3,.slice d.p4 d.n4 d.c4],46⟩,⟨w0.heap.size+1,#[.slice ap la.length ac,.slice bp lb.length bc],39⟩,⟨w0.heap.size,#[.slice q1 s.msgs.length c1,.slice q2 s.enums.length c2,.slice q3 s.svcs.length c3],26⟩] W) (.take 0 (.take 1 (.take 2 (.take 3 (.take 5 (.take 6 (.take 7 (.take 8 (.alt 4 .done .no))))))))) 9 (by kernel_rfl) (by kernel_rfl) HWF.out T9.out (fun a ha=>?_)
   (simp only [pickT,List.getD_cons_zero,List.getD_cons_succ])
   have hsz:a.tmps.size=55:=(by rw [ha];kernel_rfl);have a4:a.eval (.tmp 4)=.pointer (some ⟨w0.heap.size,0,none⟩):=(by rw [ha];kernel_rfl);have a1:a.eval (.tmp 1)=.string (S name):=(by rw [ha];kernel_rfl);have a9:a.eval (.tmp 9)=.slice ap la.length ac:=(by rw [ha];kernel_rfl);have a10:a.eval (.tmp 10)=.slice bp lb.length bc:=(by rw [ha];kernel_rfl)
   (with_reducible refine qa1 (v:=?_) rfl (by with_unfolding_all rfl) (fun ρ hρ W hW=>?_) ?_);(rotate_left 1)
   focus(have hS:=KS.out _ hW;clear hW;have p4:=hρ (.tmp 4);(simp +decide only [qa2,hsz,ev_eq,ev_ne,a4,a1,a9,a10]at p4);obtain⟨hc,hfn⟩:=rC165 hρ;clear hρ;go_simp;(all_goals with_reducible first|rfl|(constructor <;> rfl)))
   (with_reducible refine qa1 (v:=?_) rfl (by with_unfolding_all rfl) (fun ρ hρ W hW=>?_) ?_);(rotate_left 1)
   focus(clear hW;have p1:=hρ (.tmp 1);(simp +decide only [qa2,hsz,ev_eq,ev_ne,a4,a1,a9,a10]at p1);obtain⟨hc,hfn⟩:=rC165 hρ;clear hρ;go_simp;(all_goals with_reducible first|rfl|(constructor <;> rfl)))
   (with_reducible refine qa1 (v:=?_) rfl (by with_unfolding_all rfl) (fun ρ hρ W hW=>?_) ?_);(rotate_left 1)
   focus(clear hW;have p9:=hρ (.tmp 9);(simp +decide only [qa2,hsz,ev_eq,ev_ne,a4,a1,a9,a10]at p9);obtain⟨hc,hfn⟩:=rC165 hρ;clear hρ;go_simp;(all_goals with_reducible first|rfl|(constructor <;> rfl)))
   (with_reducible refine qa1 (v:=?_) rfl (by with_unfolding_all rfl) (fun ρ hρ W hW=>?_) ?_);(rotate_left 1)
   focus(clear hW;have p10:=hρ (.tmp 10);(simp +decide only [qa2,hsz,ev_eq,ev_ne,a4,a1,a9,a10]at p10);obtain⟨hc,hfn⟩:=rC165 hρ;clear hρ;go_simp;(all_goals with_reducible first|rfl|(constructor <;> rfl)))
   (with_reducible refine qa1 (v:=?_) rfl (by with_unfolding_all rfl) (fun ρ hρ W hW=>?_) ?_);(rotate_left 1)
   focus(have hS:=KS.out _ hW;clear hW;have p4:=hρ (.tmp 4);(simp +decide only [qa2,hsz,ev_eq,ev_ne,a4,a1,a9,a10]at p4);obtain⟨hc,hfn⟩:=rC165 hρ;clear hρ;go_simp;(all_goals with_reducible first|rfl|(constructor <;> rfl)))
   (with_reducible refine qa1 (v:=?_) rfl (by with_unfolding_all rfl) (fun ρ hρ W hW=>?_) ?_);(rotate_left 1)
   focus(clear hW;have p1:=hρ (.tmp 1);(simp +decide only [qa2,hsz,ev_eq,ev_ne,a4,a1,a9,a10]at p1);obtain⟨hc,hfn⟩:=rC165 hρ;clear hρ;go_simp;(all_goals with_reducible first|rfl|(constructor <;> rfl)))
   (with_reducible refine qa1 (v:=?_) rfl (by with_unfolding_all rfl) (fun ρ hρ W hW=>?_) ?_);(rotate_left 1)
   focus(clear hW;have p9:=hρ (.tmp 9);(simp +decide only [qa2,hsz,ev_eq,ev_ne,a4,a1,a9,a10]at p9);obtain⟨hc,hfn⟩:=rC165 hρ;clear hρ;go_simp;(all_goals with_reducible first|rfl|(constructor <;> rfl)))
   (with_reducible refine qa1 (v:=?_) rfl (by with_unfolding_all rfl) (fun ρ hρ W hW=>?_) ?_);(rotate_left 1)
   focus(clear hW;have p10:=hρ (.tmp 10);(simp +decide only [qa2,hsz,ev_eq,ev_ne,a4,a1,a9,a10]at p10);obtain⟨hc,hfn⟩:=rC165 hρ;clear hρ;go_simp;(all_goals with_reducible first|rfl|(constructor <;> rfl)))
   (with_reducible refine qam (f:=?_) (args:=?_) rfl (by with_unfolding_all rfl) (fun ρ hρ=>?_) ?_ ?_);(rotate_left 2)
   focus(have p41:=hρ (.tmp 41);have p42:=hρ (.tmp 42);(simp +decide only [qa2,hsz,ev_eq,ev_ne,a4,a1,a9,a10]at p41 p42);have p43:=hρ (.tmp 43);have p44:=hρ (.tmp 44);(simp +decide only [qa2,hsz,ev_eq,ev_ne,a4,a1,a9,a10]at p43 p44);obtain⟨hc,hfn⟩:=rC165 hρ;clear hρ;rw [qa9 (hfn _)];clear hfn;go_simp;(all_goals with_reducible first|rfl|(constructor <;> rfl)))
   with_reducible refine(CD.out _ T9.out.bel).mono ?_
   rintro e w10 ⟨v10,rfl,h10,g⟩;have g:Bel wf w10:=g;have T10:=Lib.hid (T9.out.belw g);have V10:=Lib.hid h10;clear g h10 CD;refine⟨_,rfl,T10.out,?_⟩;rotate_left 1
   focus exact qap
   with_reducible refine qao ?_
   (simp only [List.drop_succ_cons,List.drop_zero])
   subst ha
   (simp only [qav,set_s,set_z])
   go_wp2_with (first
    | (go_at_call 21;(with_reducible refine(CRD.out _ T10.out.bel).mono ?_);rintro e w11 ⟨v11,rfl,h11,k11⟩;have k11:Bel _ w11:=k11;have T11:=Lib.hid (T10.out.belw k11);have CS:=Lib.hid (qf5 (V10.out.bel k11) h11);clear k11 h11 V10 CRD)
    | (go_at_call 14;(with_reducible refine CS.out.mono ?_);rintro e w12 ⟨rfl,k12⟩;have k12:Bel _ w12:=k12;have T12:=Lib.hid (T11.out.belw k12);clear k12 CS)
    | (go_at_call 11;(with_reducible refine(CA.out _ T12.out.bel).mono ?_);rintro e w13 ⟨rfl,k13⟩;have k13:Bel _ w13:=k13;have T13:=Lib.hid (T12.out.belw k13);clear k13))
   go_ret;exact⟨by simp,T13.out.bel⟩
  ·generalize chk (envOf s) (n+1) name lb=RB at CRB h2
   have h2b:(RB != 0)=true:=bne_t h2;have CRB:=Lib.hid CRB;clear h1 h2 CD0 CRD0
   go_wp2_with (first
    | (go_at_call 10;(with_reducible refine(CRA.out _ T5.out.bel).mono ?_);rintro e w6 ⟨rfl,k6⟩;have k6:Bel _ w6:=k6;have T6:=Lib.hid (T5.out.belw k6);clear t0 t1 t2 CRA;have t0:=T6.out.cell 2 rfl 0;have t1:=T6.out.cell 2 rfl 1;have t2:=T6.out.cell 2 rfl 2;dsimp only at t0 t1 t2;clear k6)
    | (go_at_call 10;(with_reducible refine(CRB.out _ T6.out.bel).mono ?_);rintro e w7 ⟨rfl,k7⟩;have k7:Bel _ w7:=k7;have T7:=Lib.hid (T6.out.belw k7);clear t0 t1 t2 CRB;clear k7)
    | (go_at_call 11;(with_reducible refine(CA.out _ T7.out.bel).mono ?_);rintro e w8 ⟨rfl,k8⟩;have k8:Bel _ w8:=k8;have T8:=Lib.hid (T7.out.belw k8);clear k8))
   go_ret;exact⟨rfl,T8.out.bel⟩
 ·generalize chk (envOf s) (n+1) name la=RA at CRA h1
  have h1b:(RA != 0)=true:=bne_t h1;have CRA:=Lib.hid CRA;clear h1 CD0 CRD0 CRB
  go_wp2_with (first
   | (go_at_call 10;(with_reducible refine(CRA.out _ T5.out.bel).mono ?_);rintro e w6 ⟨rfl,k6⟩;have k6:Bel _ w6:=k6;have T6:=Lib.hid (T5.out.belw k6);clear t0 t1 t2 CRA;have t0:=T6.out.cell 2 rfl 0;have t1:=T6.out.cell 2 rfl 1;have t2:=T6.out.cell 2 rfl 2;dsimp only at t0 t1 t2;clear k6)
   | (go_at_call 11;(with_reducible refine(CA.out _ T6.out.bel).mono ?_);rintro e w8 ⟨rfl,k8⟩;have k8:Bel _ w8:=k8;have T8:=Lib.hid (T6.out.belw k8);clear k8))
  go_ret;exact⟨rfl,T8.out.bel⟩
theorem qpk (q1 q2 q3:Option Addr) (c1 c2 c3:Nat) (s:PSchema) (name:Str) (n N:Nat) (ap bp:Option Addr) (ac bc:Nat) (la lb:List PMask) (d:VC) (cv:CV) (w0:World) (hs:VSchema w0 [.slice q1 s.msgs.length c1,.slice q2 s.enums.length c2,.slice q3 s.svcs.length c3] s) (hQ:qch s) (ha:MaskD (fun b=>b<w0.heap.size) (n+1) w0 (.slice ap la.length ac) la) (hb:MaskD (fun b=>b<w0.heap.size) (n+1) w0 (.slice bp lb.length bc) lb) (hwa:Wd 1048576 (n+1) la) (hd:ValC (fun b=>b<w0.heap.size) N w0 d cv) (hM:ML w0) :
  Calls Tryz.prog 6 #[.agg #[.slice q1 s.msgs.length c1,.slice q2 s.enums.length c2,.slice q3 s.svcs.length c3],.string (S name),.agg #[.slice ap la.length ac,.slice bp lb.length bc],.agg d.cells.toArray] w0 fun e w'=>e=.returned (.bool true)/\Bel w0 w':=by
 cases hf:fewB s with
 | false=>exact qjb q1 q2 q3 c1 c2 c3 s name n N ap bp ac bc la lb d cv w0 hs hQ hf
 | true=>exact qi4 q1 q2 q3 c1 c2 c3 s name n N ap bp ac bc la lb d cv w0 hs hQ ha hb hwa hd hM hf
end
section
open Go.ChangeShapes Go.WideShapes Go.RowKit Go.Deep
section
variable {H : Type} {enc : TypeId × Value → H} {w : World} {base : Nat} {spare : Nat → Bool} {held : Bool}
end
theorem ml_of {W:World} (h:W.ShapedOpen Tryz.prog):ML W:=Tryz.laysM146.s1_3 W h
end
section
open Go.RowKit
section
variable {H : Type} {enc : TypeId × Value → H}
theorem qbv {C:Checked} {os:Os} {f:FuncId} {fn:Func} {s:OpenSpec} {conds:List PathCond} {apart:Bool} {laid:List (String × DataW Unit)} (modest:Bool) (w0:World) (args:Array Value) (hos:w0.os=os)
  (hsh:(w0.forCall (fun _ _=>0) ⟨#[],args,[]⟩).Shaped C.prog)
  (hok:Input.okWideB C.prog (w0.forCall (fun _ _=>0) ⟨#[],args,[]⟩) f ⟨#[],args,[]⟩=true)
  (hrow:s.preRow enc C.prog fn conds apart laid (w0.forCall (fun _ _=>0) ⟨#[],args,[]⟩).memory args) :
  ∃(w:World) (tape:Tape) (i:Input),w.os=os/\(w.forCall tape i).Shaped C.prog/\i.vars=[]/\Input.okWide C.prog (w.forCall tape i) .any w.heap.size f i ∧
   s.preRow enc C.prog fn conds apart laid (w.forCall tape i).memory i.args/\({ modest:=modest }:Assume).holds C.prog (lone (Frame.enter C.prog f i.args .normal) [] (w.forCall tape i)):=
 ⟨w0,fun _ _=>0,⟨#[],args,[]⟩,hos,hsh,(Input.okWide_of_okWideB (base:=0) hok).1,(Input.okWide_of_okWideB hok).2,hrow,by
  simp only [Assume.holds]
  exact⟨by simp,by simp,fun _=>Modest.zero,by simp,by simp⟩⟩
end
def layList:List (String × DataW Unit):=Rows.maskChecksUptoRow.laid
noncomputable def layWorld (os:Os):World:=World.laidAll Tryz.prog os layList
theorem qgz (os:Os) (args:Array Value):((layWorld os).forCall (fun _ _=>0) ⟨#[],args,[]⟩).Shaped Tryz.prog:=World.shaped_of_ZipB (by kernel_rfl) (by kernel_rfl)
theorem qnh (os:Os) (args:Array Value):laidMetH Tryz.prog layList ((layWorld os).forCall (fun _ _=>0) ⟨#[],args,[]⟩).memory:=by
 rw [MakeChecks.laidMetH_plain _ _ _ (by kernel_rfl)];exact laidMet_laidAll _ (by kernel_rfl) (by kernel_rfl)
end
end Go.Proofs.YtaaneecceiefoaaGreatDoor
