import Derived.Test.YtaaneecceiefoaaGreatDoorMaEnvD
import Derived.Test.YtaaneecceiefoaaGreatDoorMaCheck
import Derived.Test.YtaaneecceiefoaaGreatDoorMzCheck
import Derived.Test.YtaaneecceiefoaaGreatDoorMaMinus
import Derived.Test.YtaaneecceiefoaaGreatDoorMaUnion
import Derived.Test.YtaaneecceiefoaaGreatDoorMaText2
import Derived.Test.YtaaneecceiefoaaGreatDoorMaAwake
import Derived.Test.YtaaneecceiefoaaGreatDoorIdWord
import Derived.Test.YtaaneecceiefoaaGreatDoorCkOut
import Derived.Deep.Strs
import Derived.WideShapes
import Derived.Lay
import Derived.MakeChecks
import Derived.LaidLaws
import Derived.Deep.DeepHandedRow
set_option maxRecDepth 100000
set_option maxHeartbeats 4000000
set_option linter.unusedVariables false
set_option linter.unusedSimpArgs false
namespace Go.Proofs.YtaaneecceiefoaaGreatDoor
section
open Go.RowKit Ck Ma
theorem rC161 {a:Act} {ρ:Operand->Value} (h : ∀x,ρ x=a.eval x):(∀c,ρ (.const c)=c)/\∀f,ρ (.func f)=.func (.func f) #[] #[]:=⟨fun c=>h (.const c),fun f=>h (.func f)⟩
theorem qla (q1 q2 q3:Option Addr) (c1 c2 c3:Nat) (s:PSchema) (name:Str) (n:Nat) (ap bp:Option Addr) (ac bc:Nat) (la lb:List PMask) (w0:World) (hs:VSchema w0 [.slice q1 s.msgs.length c1,.slice q2 s.enums.length c2,.slice q3 s.svcs.length c3] s) (hQ:qdh s) (hf:fewB s=false) :
  Calls Tryz.prog 7 #[.agg #[.slice q1 s.msgs.length c1,.slice q2 s.enums.length c2,.slice q3 s.svcs.length c3],.string (S name),.slice ap la.length ac,.slice bp lb.length bc] w0 fun e w'=>e=.returned (.bool true)/\Bel w0 w':=by
 have HS:=Lib.hid ((ST.start w0).addbox #[.slice q1 s.msgs.length c1,.slice q2 s.enums.length c2,.slice q3 s.svcs.length c3] 26);have CF:=qim q1 q2 q3 c1 c2 c3 s (w0.alloc (.cells #[.slice q1 s.msgs.length c1,.slice q2 s.enums.length c2,.slice q3 s.svcs.length c3] 26)) (VSchema.stays _ _ _ _ HS.out.bel hs) hQ;rw [hf]at CF;have CF:=Lib.hid CF;clear hs hQ hf
 go_enter Tryz.func7,Tryz.ntmps7
 go_wp2_with (go_at_call 8;(with_reducible refine CF.out.mono ?_);rintro e w1 ⟨rfl,k1⟩;have k1:Bel _ w1:=k1;have H1:=Lib.hid (HS.out.belw k1);have t0:=H1.out.cell 0 rfl 0;have t1:=H1.out.cell 0 rfl 1;have t2:=H1.out.cell 0 rfl 2;dsimp only at t0 t1 t2;clear k1)
 go_ret;exact⟨rfl,H1.out.bel⟩
theorem qn5 (q1 q2 q3:Option Addr) (c1 c2 c3:Nat) (s:PSchema) (name:Str) (n:Nat) (ap bp:Option Addr) (ac bc:Nat) (la lb:List PMask) (w0:World) (hs:VSchema w0 [.slice q1 s.msgs.length c1,.slice q2 s.enums.length c2,.slice q3 s.svcs.length c3] s) (hQ:qdh s) (ha:MaskD (fun lb=>lb<w0.heap.size) (n+1) w0 (.slice ap la.length ac) la) (hf:fewB s=true) (h1:chk (envOf s) (n+1) name la ≠ 0) :
  Calls Tryz.prog 7 #[.agg #[.slice q1 s.msgs.length c1,.slice q2 s.enums.length c2,.slice q3 s.svcs.length c3],.string (S name),.slice ap la.length ac,.slice bp lb.length bc] w0 fun e w'=>e=.returned (.bool true)/\Bel w0 w':=by
 have HS:=Lib.hid ((ST.start w0).addbox #[.slice q1 s.msgs.length c1,.slice q2 s.enums.length c2,.slice q3 s.svcs.length c3] 26);have CF:=qim q1 q2 q3 c1 c2 c3 s (w0.alloc (.cells #[.slice q1 s.msgs.length c1,.slice q2 s.enums.length c2,.slice q3 s.svcs.length c3] 26)) (VSchema.stays _ _ _ _ HS.out.bel hs) hQ;rw [hf]at CF;have CF:=Lib.hid CF;have CRA:=Lib.hid (fun W (k:Bel w0 W)=>qdj n _ _ _ _ s name _ la W (VSchema.stays _ _ _ _ k hs) (ha.bel k));generalize chk (envOf s) (n+1) name la=RA at CRA h1;have h1b:(RA != 0)=true:=bne_t h1;clear hs hQ hf ha h1
 go_enter Tryz.func7,Tryz.ntmps7
 go_wp2_with (first
  | (go_at_call 8;(with_reducible refine CF.out.mono ?_);rintro e w1 ⟨rfl,k1⟩;have k1:Bel _ w1:=k1;have H1:=Lib.hid (HS.out.belw k1);have t0:=H1.out.cell 0 rfl 0;have t1:=H1.out.cell 0 rfl 1;have t2:=H1.out.cell 0 rfl 2;dsimp only at t0 t1 t2;clear k1)
  | (go_at_call 10;(with_reducible refine(CRA.out _ H1.out.bel).mono ?_);rintro e w2 ⟨rfl,k2⟩;have k2:Bel _ w2:=k2;have H2:=Lib.hid (H1.out.belw k2);clear t0 t1 t2 CRA;have t0:=H2.out.cell 0 rfl 0;have t1:=H2.out.cell 0 rfl 1;have t2:=H2.out.cell 0 rfl 2;dsimp only at t0 t1 t2;clear k2))
 go_ret;exact⟨rfl,H2.out.bel⟩
theorem qn4 (q1 q2 q3:Option Addr) (c1 c2 c3:Nat) (s:PSchema) (name:Str) (n:Nat) (ap bp:Option Addr) (ac bc:Nat) (la lb:List PMask) (w0:World) (hs:VSchema w0 [.slice q1 s.msgs.length c1,.slice q2 s.enums.length c2,.slice q3 s.svcs.length c3] s) (hQ:qdh s) (ha:MaskD (fun lb=>lb<w0.heap.size) (n+1) w0 (.slice ap la.length ac) la) (hb:MaskD (fun lb=>lb<w0.heap.size) (n+1) w0 (.slice bp lb.length bc) lb) (hf:fewB s=true) (h1:chk (envOf s) (n+1) name la=0) (h2:chk (envOf s) (n+1) name lb ≠ 0) :
  Calls Tryz.prog 7 #[.agg #[.slice q1 s.msgs.length c1,.slice q2 s.enums.length c2,.slice q3 s.svcs.length c3],.string (S name),.slice ap la.length ac,.slice bp lb.length bc] w0 fun e w'=>e=.returned (.bool true)/\Bel w0 w':=by
 have HS:=Lib.hid ((ST.start w0).addbox #[.slice q1 s.msgs.length c1,.slice q2 s.enums.length c2,.slice q3 s.svcs.length c3] 26);have CF:=qim q1 q2 q3 c1 c2 c3 s (w0.alloc (.cells #[.slice q1 s.msgs.length c1,.slice q2 s.enums.length c2,.slice q3 s.svcs.length c3] 26)) (VSchema.stays _ _ _ _ HS.out.bel hs) hQ;rw [hf]at CF;have CF:=Lib.hid CF;have CRA:=Lib.hid (fun W (k:Bel w0 W)=>qdj n _ _ _ _ s name _ la W (VSchema.stays _ _ _ _ k hs) (ha.bel k));have CRB:=Lib.hid (fun W (k:Bel w0 W)=>qdj n _ _ _ _ s name _ lb W (VSchema.stays _ _ _ _ k hs) (hb.bel k));rw [h1]at CRA;generalize chk (envOf s) (n+1) name lb=RB at CRB h2;have h2b:(RB != 0)=true:=bne_t h2;clear hs hQ hf ha hb h1 h2
 go_enter Tryz.func7,Tryz.ntmps7
 go_wp2_with (first
  | (go_at_call 8;(with_reducible refine CF.out.mono ?_);rintro e w1 ⟨rfl,k1⟩;have k1:Bel _ w1:=k1;have H1:=Lib.hid (HS.out.belw k1);have t0:=H1.out.cell 0 rfl 0;have t1:=H1.out.cell 0 rfl 1;have t2:=H1.out.cell 0 rfl 2;dsimp only at t0 t1 t2;clear k1)
  | (go_at_call 10;(with_reducible refine(CRA.out _ H1.out.bel).mono ?_);rintro e w2 ⟨rfl,k2⟩;have k2:Bel _ w2:=k2;have H2:=Lib.hid (H1.out.belw k2);clear t0 t1 t2 CRA;have t0:=H2.out.cell 0 rfl 0;have t1:=H2.out.cell 0 rfl 1;have t2:=H2.out.cell 0 rfl 2;dsimp only at t0 t1 t2;clear k2)
  | (go_at_call 10;(with_reducible refine(CRB.out _ H2.out.bel).mono ?_);rintro e w3 ⟨rfl,k3⟩;have k3:Bel _ w3:=k3;have H3:=Lib.hid (H2.out.belw k3);clear t0 t1 t2 CRB;clear k3))
 go_ret;exact⟨rfl,H3.out.bel⟩
theorem qn3 (q1 q2 q3:Option Addr) (c1 c2 c3:Nat) (s:PSchema) (name:Str) (n:Nat) (ap bp:Option Addr) (ac bc:Nat) (la lb:List PMask) (w0:World) (hs:VSchema w0 [.slice q1 s.msgs.length c1,.slice q2 s.enums.length c2,.slice q3 s.svcs.length c3] s) (hQ:qdh s) (ha:MaskD (fun lb=>lb<w0.heap.size) (n+1) w0 (.slice ap la.length ac) la) (hb:MaskD (fun lb=>lb<w0.heap.size) (n+1) w0 (.slice bp lb.length bc) lb) (hwa:Wd 1048576 (n+1) la) (hwb:Wd 1048576 (n+1) lb) (hM:ML w0) (hf:fewB s=true) (h1:chk (envOf s) (n+1) name la=0) (h2:chk (envOf s) (n+1) name lb=0) :
  Calls Tryz.prog 7 #[.agg #[.slice q1 s.msgs.length c1,.slice q2 s.enums.length c2,.slice q3 s.svcs.length c3],.string (S name),.slice ap la.length ac,.slice bp lb.length bc] w0 fun e w'=>e=.returned (.bool true)/\Bel w0 w':=by
 have na:=(qfd (n+1) name la ha.dp).1 h1;have nb:=(qfd (n+1) name lb hb.dp).1 h2;have hv:valid s=true:=by unfold fewB at hf;rw [Bool.and_eq_true]at hf;exact hf.2
 have hE:=env_ok hv;have SA:=na.srt;have SB:=nb.srt;have hN : ∀m ∈ s.msgs,m.fields.length<=1000000000:=fun m hm=>Nat.le_trans (hQ.1 m hm).2.1 (by decide)
 have hnum : ∀nm,((envOf s).nums nm).length<=1048576:=fun nm=>by
  show(((msgOf s nm).map fun m=>m.fields.map (·.num)).getD []).length<=_
  cases hm:msgOf s nm with
  | none=>exact Nat.zero_le _
  | some m=>
   show(m.fields.map (·.num)).length<=_
   rw [List.length_map];exact(hQ.1 m (List.mem_of_find?_eq_some hm)).2.1
 have wa:=hwa.mono (C:=1000000000) (by decide);have wb:=hwb.mono (C:=1000000000) (by decide);have wdm:=qjx (E:=envOf s) (B:=1000000000) (fun nm=>Nat.le_trans (hnum nm) (by decide)) (n+1) (nm:=name) (b:=lb) wa;have HS:=Lib.hid ((ST.start w0).addbox #[.slice q1 s.msgs.length c1,.slice q2 s.enums.length c2,.slice q3 s.svcs.length c3] 26);have CF:=qim q1 q2 q3 c1 c2 c3 s (w0.alloc (.cells #[.slice q1 s.msgs.length c1,.slice q2 s.enums.length c2,.slice q3 s.svcs.length c3] 26)) (VSchema.stays _ _ _ _ HS.out.bel hs) hQ;rw [hf]at CF;have CF:=Lib.hid CF;have CRA:=Lib.hid (fun W (k:Bel w0 W)=>qdj n _ _ _ _ s name _ la W (VSchema.stays _ _ _ _ k hs) (ha.bel k));have CRB:=Lib.hid (fun W (k:Bel w0 W)=>qdj n _ _ _ _ s name _ lb W (VSchema.stays _ _ _ _ k hs) (hb.bel k));rw [h1]at CRA;rw [h2]at CRB;have CU:=Lib.hid (fun W (k:Bel w0 W)=>qfn n _ _ _ la lb W (fun lb hb=>Nat.lt_of_lt_of_le hb k.size) (ha.bel k) (hb.bel k) SA SB wa wb);have CM:=Lib.hid (fun W (k:Bel w0 W)=>qij n _ _ _ la lb W (fun lb hb=>Nat.lt_of_lt_of_le hb k.size) (ha.bel k) (hb.bel k) wa wb);have CD:=Lib.hid (fun W (k:Bel w0 W)=>ql4 n _ _ _ _ s name _ _ la lb W (fun lb hb=>Nat.lt_of_lt_of_le hb k.size) (VSchema.stays _ _ _ _ k hs) hE hN (ha.bel k) (hb.bel k) na nb wa);have CU2:=Lib.hid (fun W (k:Bel w0 W)=>show Calls _ _ _ W (qe2 _ (n+1) W (union (n+1) la lb))from by have:=qfn n _ _ _ lb la W (fun lb hb=>Nat.lt_of_lt_of_le hb k.size) (hb.bel k) (ha.bel k) SB SA wb wa;rwa [Ma.union_comm (n+1) SB SA]at this);have CM2:=Lib.hid (fun W (k:Bel w0 W)=>show Calls _ _ _ W (qe2 _ (n+1) W (meet (n+1) la lb))from by have:=qij n _ _ _ lb la W (fun lb hb=>Nat.lt_of_lt_of_le hb k.size) (hb.bel k) (ha.bel k) wb wa;rwa [Ma.meet_comm (n+1) SB SA]at this);have CM3:=Lib.hid (fun W (k:Bel w0 W) A dv (hd:MaskD A (n+1) W dv (minus (envOf s) (n+1) name la lb))=>show Calls _ _ #[dv,.slice bp lb.length bc] W (qe2 _ (n+1) W [])from by have:=qij n (fun lb=>lb<W.heap.size) _ _ (minus (envOf s) (n+1) name la lb) lb W (fun lb hb=>hb) (hd.weak (fun lb _ hl=>hl)) ((hb.bel k).weak (fun lb _ hl=>hl)) wdm wb;rwa [qgm hE (n+1) na nb]at this);have un:=qk4 (n+1) na nb;have xn:=meet_nm (n+1) na nb;have dn:=ql5 hE (n+1) na nb;have CCk:=Lib.hid (fun W (k:Bel w0 W) A v l (hd:MaskD A (n+1) W v l) (hn:Nm (envOf s) (n+1) name l)=>show Calls _ _ _ W (fun e w'=>e=.returned (.int .i64 0)/\Bel W w')from by have:=qhk n A (.slice q1 s.msgs.length c1) (.slice q2 s.enums.length c2) (.slice q3 s.svcs.length c3) s name v l W (VSchema.stays _ _ _ _ k hs) hd;rwa [(qfd (n+1) name l hd.dp).2 hn]at this);have CCv:=Lib.hid (fun W A1 A2 v1 v2 x y (h1:MaskD A1 (n+1) W v1 x) (h2:MaskD A2 (n+1) W v2 y) (hc:qbs (n+1) x y=true)=>show Calls Tryz.prog 24 #[v1,v2] W (fun e w'=>e=.returned (.bool true)/\Bel W w')from by have:=qfo n (fun lb=>lb<W.heap.size) v1 v2 x y W (h1.weak (fun lb _ hl=>hl)) (h2.weak (fun lb _ hl=>hl));rwa [hc]at this);have CC:=Lib.hid (fun W (k:Bel w0 W)=>qfo n _ _ _ la lb W (ha.bel k) (hb.bel k));have CSa:=Lib.hid (fun W A1 A2 v1 v2 x y (h1:MaskD A1 (n+1) W v1 x) (h2:MaskD A2 (n+1) W v2 y)=>qkg (n+1) A1 A2 v1 v2 x y W h1 h2);have EU:=Lib.hid (fun(h:Dp (n+1) (union (n+1) la lb))=>qhv SA SB h);have EX:=Lib.hid (fun(h:Dp (n+1) (meet (n+1) la lb))=>qjs SA SB h);have L1:=Lib.hid (qdp (n+1) SA SB);have L2:=Lib.hid (qjr (n+1) SA SB);have L3:=Lib.hid (qh1 (n+1) SA SB);have L4:=Lib.hid (qev hE (n+1) na nb);have UN:=Lib.hid un;have XN:=Lib.hid xn;have DN:=Lib.hid dn;have DA:=Lib.hid (fun W (k:Bel w0 W)=>ha.bel k);have DB:=Lib.hid (fun W (k:Bel w0 W)=>hb.bel k);have CA:=Lib.hid (fun W (k:Bel w0 W)=>qn2 W (hM.below k));generalize union (n+1) la lb=U at *;generalize meet (n+1) la lb=X at *;generalize minus (envOf s) (n+1) name la lb=D at *;generalize qbs (n+1) la lb=C at CC EU EX;unfold qe2 at CU CM CD CU2 CM2 CM3;clear hs hQ hf ha hb hwa hwb hM h1 h2 na nb hv hE SA SB hN hnum wa wb wdm un xn dn
 go_enter Tryz.func7,Tryz.ntmps7
 go_upto_region 3 with(first
  | (go_at_call 8;(with_reducible refine CF.out.mono ?_);rintro e w1 ⟨rfl,k1⟩;have k1:Bel _ w1:=k1;have H1:=Lib.hid (HS.out.belw k1);have t0:=H1.out.cell 0 rfl 0;have t1:=H1.out.cell 0 rfl 1;have t2:=H1.out.cell 0 rfl 2;dsimp only at t0 t1 t2;clear k1)
  | (go_at_call 10;(with_reducible refine(CRA.out _ H1.out.bel).mono ?_);rintro e w2 ⟨rfl,k2⟩;have k2:Bel _ w2:=k2;have H2:=Lib.hid (H1.out.belw k2);clear t0 t1 t2 CRA;have t0:=H2.out.cell 0 rfl 0;have t1:=H2.out.cell 0 rfl 1;have t2:=H2.out.cell 0 rfl 2;dsimp only at t0 t1 t2;clear k2)
  | (go_at_call 10;(with_reducible refine(CRB.out _ H2.out.bel).mono ?_);rintro e w3 ⟨rfl,k3⟩;have k3:Bel _ w3:=k3;have H3:=Lib.hid (H2.out.belw k3);clear t0 t1 t2 CRB;clear k3))
 obtain⟨wd,hwd⟩ : ∃wd,wd=w3.drew:=⟨_,rfl⟩;have T:=Lib.hid (show ST w0 [] [⟨w0.heap.size,#[.slice q1 s.msgs.length c1,.slice q2 s.enums.length c2,.slice q3 s.svcs.length c3],26⟩] wd by rw [hwd];exact H3.out.belw (Bel.refl _).drew);have HWD:=Lib.hid hwd;clear hwd HS H1 H2 H3;have KS:=Lib.hid (fun W (h:ST w0 [] [⟨w0.heap.size,#[.slice q1 s.msgs.length c1,.slice q2 s.enums.length c2,.slice q3 s.svcs.length c3],26⟩] W)=>show W.cell? ⟨w0.heap.size,0,none⟩=some (.slice q1 s.msgs.length c1)/\W.cell? ⟨w0.heap.size,1,none⟩=some (.slice q2 s.enums.length c2)/\W.cell? ⟨w0.heap.size,2,none⟩=some (.slice q3 s.svcs.length c3)from⟨h.cell 0 rfl 0,h.cell 0 rfl 1,h.cell 0 rfl 2⟩);refine qai (fun W=>ST w0 [] [⟨w0.heap.size,#[.slice q1 s.msgs.length c1,.slice q2 s.enums.length c2,.slice q3 s.svcs.length c3],26⟩] W) (.take 0 (.take 1 (.take 3 (.take 4 (.take 6 (.take 7 (.take 8 (.take 9 (.alt 2 (.alt 5 .done .no) .no))))))))) 10 (by kernel_rfl) (by kernel_rfl) HWD.out T.out (fun a ha=>?_)
 (simp only [pickT,List.getD_cons_zero,List.getD_cons_succ])
 have hsz:a.tmps.size=119:=(by rw [ha];kernel_rfl);have a4:a.eval (.tmp 4)=.pointer (some ⟨w0.heap.size,0,none⟩):=(by rw [ha];kernel_rfl);have a1:a.eval (.tmp 1)=.string (S name):=(by rw [ha];kernel_rfl);have a2:a.eval (.tmp 2)=.slice ap la.length ac:=(by rw [ha];kernel_rfl);have a3:a.eval (.tmp 3)=.slice bp lb.length bc:=(by rw [ha];kernel_rfl)
 (with_reducible refine qa1 (v:=?_) rfl (by with_unfolding_all rfl) (fun ρ hρ W hW=>?_) ?_);(rotate_left 1)
 focus(clear hW;have p2:=hρ (.tmp 2);(simp +decide only [qa2,hsz,ev_eq,ev_ne,a4,a1,a2,a3]at p2);obtain⟨hc,hfn⟩:=rC161 hρ;clear hρ;go_simp;(all_goals with_reducible first|rfl|(constructor <;> rfl)))
 (with_reducible refine qa1 (v:=?_) rfl (by with_unfolding_all rfl) (fun ρ hρ W hW=>?_) ?_);(rotate_left 1)
 focus(clear hW;have p3:=hρ (.tmp 3);(simp +decide only [qa2,hsz,ev_eq,ev_ne,a4,a1,a2,a3]at p3);obtain⟨hc,hfn⟩:=rC161 hρ;clear hρ;go_simp;(all_goals with_reducible first|rfl|(constructor <;> rfl)))
 (with_reducible refine qa1 (v:=?_) rfl (by with_unfolding_all rfl) (fun ρ hρ W hW=>?_) ?_);(rotate_left 1)
 focus(clear hW;have p2:=hρ (.tmp 2);(simp +decide only [qa2,hsz,ev_eq,ev_ne,a4,a1,a2,a3]at p2);obtain⟨hc,hfn⟩:=rC161 hρ;clear hρ;go_simp;(all_goals with_reducible first|rfl|(constructor <;> rfl)))
 (with_reducible refine qa1 (v:=?_) rfl (by with_unfolding_all rfl) (fun ρ hρ W hW=>?_) ?_);(rotate_left 1)
 focus(clear hW;have p3:=hρ (.tmp 3);(simp +decide only [qa2,hsz,ev_eq,ev_ne,a4,a1,a2,a3]at p3);obtain⟨hc,hfn⟩:=rC161 hρ;clear hρ;go_simp;(all_goals with_reducible first|rfl|(constructor <;> rfl)))
 (with_reducible refine qa1 (v:=?_) rfl (by with_unfolding_all rfl) (fun ρ hρ W hW=>?_) ?_);(rotate_left 1)
 focus(have hS:=KS.out _ hW;clear hW;have p4:=hρ (.tmp 4);(simp +decide only [qa2,hsz,ev_eq,ev_ne,a4,a1,a2,a3]at p4);obtain⟨hc,hfn⟩:=rC161 hρ;clear hρ;go_simp;(all_goals with_reducible first|rfl|(constructor <;> rfl)))
 (with_reducible refine qa1 (v:=?_) rfl (by with_unfolding_all rfl) (fun ρ hρ W hW=>?_) ?_);(rotate_left 1)
 focus(clear hW;have p1:=hρ (.tmp 1);(simp +decide only [qa2,hsz,ev_eq,ev_ne,a4,a1,a2,a3]at p1);obtain⟨hc,hfn⟩:=rC161 hρ;clear hρ;go_simp;(all_goals with_reducible first|rfl|(constructor <;> rfl)))
 (with_reducible refine qa1 (v:=?_) rfl (by with_unfolding_all rfl) (fun ρ hρ W hW=>?_) ?_);(rotate_left 1)
 focus(clear hW;have p2:=hρ (.tmp 2);(simp +decide only [qa2,hsz,ev_eq,ev_ne,a4,a1,a2,a3]at p2);obtain⟨hc,hfn⟩:=rC161 hρ;clear hρ;go_simp;(all_goals with_reducible first|rfl|(constructor <;> rfl)))
 (with_reducible refine qa1 (v:=?_) rfl (by with_unfolding_all rfl) (fun ρ hρ W hW=>?_) ?_);(rotate_left 1)
 focus(clear hW;have p3:=hρ (.tmp 3);(simp +decide only [qa2,hsz,ev_eq,ev_ne,a4,a1,a2,a3]at p3);obtain⟨hc,hfn⟩:=rC161 hρ;clear hρ;go_simp;(all_goals with_reducible first|rfl|(constructor <;> rfl)))
 (with_reducible refine qan (f:=?_) (args:=?_) rfl (by with_unfolding_all rfl) (fun ρ hρ=>?_) ?_ ?_);(rotate_left 2)
 focus(have p30:=hρ (.tmp 30);have p31:=hρ (.tmp 31);(simp +decide only [qa2,hsz,ev_eq,ev_ne,a4,a1,a2,a3]at p30 p31);obtain⟨hc,hfn⟩:=rC161 hρ;clear hρ;rw [qa8 (hfn _)];clear hfn;go_simp;(all_goals with_reducible first|rfl|(constructor <;> rfl)))
 with_reducible refine(CU.out _ T.out.bel).mono ?_
 rintro e w4 ⟨u,rfl,hu,g⟩;have g:Bel wd w4:=g;have T4:=Lib.hid (T.out.belw g);have DU4:=Lib.hid (hu.weak (A':=fun lb=>lb<w4.heap.size) (fun lb _ hl=>hl));clear g hu CU;refine⟨_,rfl,T4.out,?_⟩;rotate_left 1
 focus exact qat
 (with_reducible refine qan (f:=?_) (args:=?_) rfl (by with_unfolding_all rfl) (fun ρ hρ=>?_) ?_ ?_);(rotate_left 2)
 focus(have p33:=hρ (.tmp 33);have p34:=hρ (.tmp 34);(simp +decide only [qa2,hsz,ev_eq,ev_ne,a4,a1,a2,a3]at p33 p34);obtain⟨hc,hfn⟩:=rC161 hρ;clear hρ;rw [qa8 (hfn _)];clear hfn;go_simp;(all_goals with_reducible first|rfl|(constructor <;> rfl)))
 with_reducible refine(CM.out _ T4.out.bel).mono ?_
 rintro e w5 ⟨x,rfl,hx,g⟩;have g:Bel w4 w5:=g;have T5:=Lib.hid (T4.out.belw g);have DU5:=Lib.hid (DU4.out.bel g);have DX5:=Lib.hid (hx.weak (A':=fun lb=>lb<w5.heap.size) (fun lb _ hl=>hl));clear g hx CM DU4;refine⟨_,rfl,T5.out,?_⟩;rotate_left 1
 focus exact qat
 with_reducible refine qaq ?_
 (simp only [List.drop_succ_cons,List.drop_zero])
 subst ha
 (simp only [qb3,set_s,set_z])
 go_upto_region 4 with(go_at_call 20;(with_reducible refine(CD.out _ T5.out.bel).mono ?_);rintro e w6 ⟨dv,rfl,hdd,k6⟩;have k6:Bel _ w6:=k6;have H6:=Lib.hid (T5.out.belw k6);have DU:=Lib.hid (fun W (k:Bel w6 W)=>(DU5.out.bel k6).bel k);have DX:=Lib.hid (fun W (k:Bel w6 W)=>(DX5.out.bel k6).bel k);have DD:=Lib.hid (fun W (k:Bel w6 W)=>hdd.bel k);have K6:=Lib.hid (Bel.refl w6);have t0:=H6.out.cell 0 rfl 0;have t1:=H6.out.cell 0 rfl 1;have t2:=H6.out.cell 0 rfl 2;dsimp only at t0 t1 t2;clear k6 hdd CD DU5 DX5)
 have CCU:=Lib.hid (fun W (k:Bel w6 W)=>CCk.out W (Bel.of H6.out.bel k) _ _ _ (DU.out W k) UN.out);have CCX:=Lib.hid (fun W (k:Bel w6 W)=>CCk.out W (Bel.of H6.out.bel k) _ _ _ (DX.out W k) XN.out);have CCD:=Lib.hid (fun W (k:Bel w6 W)=>CCk.out W (Bel.of H6.out.bel k) _ _ _ (DD.out W k) DN.out);have DU6:=DU.out _ (Bel.refl _);have DX6:=DX.out _ (Bel.refl _);have HUp:=Lib.hid DU6.dp;have HXp:=Lib.hid DX6.dp;have CM3:=Lib.hid (fun W (k:Bel w6 W)=>CM3.out W (Bel.of H6.out.bel k) _ _ (DD.out W k));have CC:=Lib.hid (fun W (k:Bel w6 W)=>CC.out W (Bel.of H6.out.bel k));have CS1:=CSa;have CV0:=Lib.hid (fun W (k:Bel w6 W)=>CCv.out W _ _ _ _ _ _ (DU.out W k) (DA.out W (Bel.of H6.out.bel k)) L1.out);have CV1:=Lib.hid (fun W (k:Bel w6 W)=>CCv.out W _ _ _ _ _ _ (DU.out W k) (DB.out W (Bel.of H6.out.bel k)) L2.out);have CV2:=Lib.hid (fun W (k:Bel w6 W)=>CCv.out W _ _ _ _ _ _ (DA.out W (Bel.of H6.out.bel k)) (DX.out W k) L3.out);have CV3:=Lib.hid (fun W (k:Bel w6 W)=>CCv.out W _ _ _ _ _ _ (DA.out W (Bel.of H6.out.bel k)) (DD.out W k) L4.out);have CS1:=Lib.hid (fun W (k:Bel w6 W)=>show Calls _ _ _ W (fun e w'=>e=.returned (.bool C)/\Bel W w')from by have:=CSa.out W _ _ _ _ _ _ (DU.out W k) (DA.out W (Bel.of H6.out.bel k));rwa [←EU.out HUp.out]at this);have CS2:=Lib.hid (fun W (k:Bel w6 W)=>show Calls _ _ _ W (fun e w'=>e=.returned (.bool C)/\Bel W w')from by have:=CSa.out W _ _ _ _ _ _ (DX.out W k) (DB.out W (Bel.of H6.out.bel k));rwa [←EX.out HXp.out]at this);clear CCk CCv CSa DU6 DX6
 go_upto_region 6 with(first
  | (go_at_call 9;(with_reducible refine(CCU.out _ K6.out).mono ?_);rintro e w7 ⟨rfl,k7⟩;have k7:Bel _ w7:=k7;have H7:=Lib.hid (H6.out.belw k7);have K7:=Lib.hid (Bel.of K6.out k7);clear k7;clear t0 t1 t2;have t0:=H7.out.cell 0 rfl 0;have t1:=H7.out.cell 0 rfl 1;have t2:=H7.out.cell 0 rfl 2;dsimp only at t0 t1 t2)
  | (go_at_call 9;(with_reducible refine(CCX.out _ K7.out).mono ?_);rintro e w8 ⟨rfl,k8⟩;have k8:Bel _ w8:=k8;have H8:=Lib.hid (H7.out.belw k8);have K8:=Lib.hid (Bel.of K7.out k8);clear k8;clear t0 t1 t2;have t0:=H8.out.cell 0 rfl 0;have t1:=H8.out.cell 0 rfl 1;have t2:=H8.out.cell 0 rfl 2;dsimp only at t0 t1 t2)
  | (go_at_call 9;(with_reducible refine(CCD.out _ K8.out).mono ?_);rintro e w9 ⟨rfl,k9⟩;have k9:Bel _ w9:=k9;have H9:=Lib.hid (H8.out.belw k9);have K9:=Lib.hid (Bel.of K8.out k9);clear k9;clear t0 t1 t2;have t0:=H9.out.cell 0 rfl 0;have t1:=H9.out.cell 0 rfl 1;have t2:=H9.out.cell 0 rfl 2;dsimp only at t0 t1 t2))
 clear t0 t1 t2 CCU CCX CCD
 go_upto_region 8 with(first
  | (go_at_call 22;(with_reducible refine(CU2.out _ H9.out.bel).mono ?_);rintro e w10 ⟨v10,rfl,h10,k10⟩;have k10:Bel _ w10:=k10;have H10:=Lib.hid (H9.out.belw k10);have K10:=Lib.hid (Bel.of K9.out k10);have D10:=Lib.hid h10;clear k10;clear h10 CU2)
  | (go_at_call 14;(with_reducible refine(qi9 (DU.out _ K10.out) D10.out).mono ?_);rintro e w11 ⟨rfl,k11⟩;have k11:Bel _ w11:=k11;have H11:=Lib.hid (H10.out.belw k11);have K11:=Lib.hid (Bel.of K10.out k11);clear k11)
  | (go_at_call 23;(with_reducible refine(CM2.out _ H11.out.bel).mono ?_);rintro e w12 ⟨v12,rfl,h12,k12⟩;have k12:Bel _ w12:=k12;have H12:=Lib.hid (H11.out.belw k12);have K12:=Lib.hid (Bel.of K11.out k12);have D12:=Lib.hid h12;clear k12;clear h12 CM2)
  | (go_at_call 14;(with_reducible refine(qi9 (DX.out _ K12.out) D12.out).mono ?_);rintro e w13 ⟨rfl,k13⟩;have k13:Bel _ w13:=k13;have H13:=Lib.hid (H12.out.belw k13);have K13:=Lib.hid (Bel.of K12.out k13);clear k13)
  | (go_at_call 23;(with_reducible refine(CM3.out _ K13.out).mono ?_);rintro e w14 ⟨v14,rfl,h14,k14⟩;obtain⟨p14,c14,hf14⟩:=h14.form;subst hf14;have k14:Bel _ w14:=k14;have H14:=Lib.hid (H13.out.belw k14);have K14:=Lib.hid (Bel.of K13.out k14);clear k14;clear h14 CM3))
 cases C with
 | true=>
  go_wp2_with (first
  | (go_at_call 24;(with_reducible refine(CC.out _ K14.out).mono ?_);rintro e w15 ⟨rfl,k15⟩;have k15:Bel _ w15:=k15;have H15:=Lib.hid (H14.out.belw k15);have K15:=Lib.hid (Bel.of K14.out k15);clear k15)
  | (go_at_call 14;(with_reducible refine(CS1.out _ K15.out).mono ?_);rintro e w16 ⟨rfl,k16⟩;have k16:Bel _ w16:=k16;have H16:=Lib.hid (H15.out.belw k16);have K16:=Lib.hid (Bel.of K15.out k16);clear k16)
  | (go_at_call 14;(with_reducible refine(CS2.out _ K16.out).mono ?_);rintro e w17 ⟨rfl,k17⟩;have k17:Bel _ w17:=k17;have H17:=Lib.hid (H16.out.belw k17);have K17:=Lib.hid (Bel.of K16.out k17);clear k17)
  | (go_at_call 24;(with_reducible refine(CV0.out _ K17.out).mono ?_);rintro e w18 ⟨rfl,k18⟩;have k18:Bel _ w18:=k18;have H18:=Lib.hid (H17.out.belw k18);have K18:=Lib.hid (Bel.of K17.out k18);clear k18)
  | (go_at_call 24;(with_reducible refine(CV1.out _ K18.out).mono ?_);rintro e w19 ⟨rfl,k19⟩;have k19:Bel _ w19:=k19;have H19:=Lib.hid (H18.out.belw k19);have K19:=Lib.hid (Bel.of K18.out k19);clear k19)
  | (go_at_call 24;(with_reducible refine(CV2.out _ K19.out).mono ?_);rintro e w20 ⟨rfl,k20⟩;have k20:Bel _ w20:=k20;have H20:=Lib.hid (H19.out.belw k20);have K20:=Lib.hid (Bel.of K19.out k20);clear k20)
  | (go_at_call 24;(with_reducible refine(CV3.out _ K20.out).mono ?_);rintro e w21 ⟨rfl,k21⟩;have k21:Bel _ w21:=k21;have H21:=Lib.hid (H20.out.belw k21);have K21:=Lib.hid (Bel.of K20.out k21);clear k21)
  | (go_at_call 11;(with_reducible refine(CA.out _ H21.out.bel).mono ?_);rintro e w22 ⟨rfl,k22⟩;have k22:Bel _ w22:=k22;have H22:=Lib.hid (H21.out.belw k22);clear k22))
  go_ret;exact⟨by simp,H22.out.bel⟩
 | false=>
  go_wp2_with (first
  | (go_at_call 24;(with_reducible refine(CC.out _ K14.out).mono ?_);rintro e w15 ⟨rfl,k15⟩;have k15:Bel _ w15:=k15;have H15:=Lib.hid (H14.out.belw k15);have K15:=Lib.hid (Bel.of K14.out k15);clear k15)
  | (go_at_call 14;(with_reducible refine(CS1.out _ K15.out).mono ?_);rintro e w16 ⟨rfl,k16⟩;have k16:Bel _ w16:=k16;have H16:=Lib.hid (H15.out.belw k16);have K16:=Lib.hid (Bel.of K15.out k16);clear k16)
  | (go_at_call 14;(with_reducible refine(CS2.out _ K16.out).mono ?_);rintro e w17 ⟨rfl,k17⟩;have k17:Bel _ w17:=k17;have H17:=Lib.hid (H16.out.belw k17);have K17:=Lib.hid (Bel.of K16.out k17);clear k17)
  | (go_at_call 24;(with_reducible refine(CV0.out _ K17.out).mono ?_);rintro e w18 ⟨rfl,k18⟩;have k18:Bel _ w18:=k18;have H18:=Lib.hid (H17.out.belw k18);have K18:=Lib.hid (Bel.of K17.out k18);clear k18)
  | (go_at_call 24;(with_reducible refine(CV1.out _ K18.out).mono ?_);rintro e w19 ⟨rfl,k19⟩;have k19:Bel _ w19:=k19;have H19:=Lib.hid (H18.out.belw k19);have K19:=Lib.hid (Bel.of K18.out k19);clear k19)
  | (go_at_call 24;(with_reducible refine(CV2.out _ K19.out).mono ?_);rintro e w20 ⟨rfl,k20⟩;have k20:Bel _ w20:=k20;have H20:=Lib.hid (H19.out.belw k20);have K20:=Lib.hid (Bel.of K19.out k20);clear k20)
  | (go_at_call 24;(with_reducible refine(CV3.out _ K20.out).mono ?_);rintro e w21 ⟨rfl,k21⟩;have k21:Bel _ w21:=k21;have H21:=Lib.hid (H20.out.belw k21);have K21:=Lib.hid (Bel.of K20.out k21);clear k21)
  | (go_at_call 11;(with_reducible refine(CA.out _ H21.out.bel).mono ?_);rintro e w22 ⟨rfl,k22⟩;have k22:Bel _ w22:=k22;have H22:=Lib.hid (H21.out.belw k22);clear k22))
  go_ret;exact⟨by simp,H22.out.bel⟩
theorem law_Alg (q1 q2 q3:Option Addr) (c1 c2 c3:Nat) (s:PSchema) (name:Str) (n:Nat) (ap bp:Option Addr) (ac bc:Nat) (la lb:List PMask) (w0:World) (hs:VSchema w0 [.slice q1 s.msgs.length c1,.slice q2 s.enums.length c2,.slice q3 s.svcs.length c3] s) (hQ:qdh s) (ha:MaskD (fun lb=>lb<w0.heap.size) (n+1) w0 (.slice ap la.length ac) la) (hb:MaskD (fun lb=>lb<w0.heap.size) (n+1) w0 (.slice bp lb.length bc) lb) (hwa:Wd 1048576 (n+1) la) (hwb:Wd 1048576 (n+1) lb) (hM:ML w0) :
  Calls Tryz.prog 7 #[.agg #[.slice q1 s.msgs.length c1,.slice q2 s.enums.length c2,.slice q3 s.svcs.length c3],.string (S name),.slice ap la.length ac,.slice bp lb.length bc] w0 fun e w'=>e=.returned (.bool true)/\Bel w0 w':=by
 cases hf:fewB s with
 | false=>exact qla q1 q2 q3 c1 c2 c3 s name n ap bp ac bc la lb w0 hs hQ hf
 | true=>
  by_cases h1:chk (envOf s) (n+1) name la=0
  ·by_cases h2:chk (envOf s) (n+1) name lb=0
   ·exact qn3 q1 q2 q3 c1 c2 c3 s name n ap bp ac bc la lb w0 hs hQ ha hb hwa hwb hM hf h1 h2
   ·exact qn4 q1 q2 q3 c1 c2 c3 s name n ap bp ac bc la lb w0 hs hQ ha hb hf h1 h2
  ·exact qn5 q1 q2 q3 c1 c2 c3 s name n ap bp ac bc la lb w0 hs hQ ha hf h1
end
section
open Go.ChangeShapes Go.WideShapes Go.RowKit Go.Deep
section
variable {H : Type} {enc : TypeId × Value → H} {w : World} {base : Nat} {spare : Nat → Bool} {held : Bool}
end
theorem ml_of {W:World} (h:W.ShapedOpen Tryz.prog):ML W:=Tryz.laysM146.s1_3 W h
end
section
open Go.RowKit
section
variable {H : Type} {enc : TypeId × Value → H}
theorem qdi {C:Checked} {os:Os} {f:FuncId} {fn:Func} {s:OpenSpec} {conds:List PathCond} {apart:Bool} {laid:List (String × DataW Unit)} (modest:Bool) (w0:World) (args:Array Value) (hos:w0.os=os)
  (hsh:(w0.forCall (fun _ _=>0) ⟨#[],args,[]⟩).Shaped C.prog)
  (hok:Input.okWideB C.prog (w0.forCall (fun _ _=>0) ⟨#[],args,[]⟩) f ⟨#[],args,[]⟩=true)
  (hrow:s.preRow enc C.prog fn conds apart laid (w0.forCall (fun _ _=>0) ⟨#[],args,[]⟩).memory args) :
  ∃(w:World) (tape:Tape) (i:Input),w.os=os/\(w.forCall tape i).Shaped C.prog/\i.vars=[]/\Input.okWide C.prog (w.forCall tape i) .any w.heap.size f i ∧
   s.preRow enc C.prog fn conds apart laid (w.forCall tape i).memory i.args/\({ modest:=modest }:Assume).holds C.prog (lone (Frame.enter C.prog f i.args .normal) [] (w.forCall tape i)):=
 ⟨w0,fun _ _=>0,⟨#[],args,[]⟩,hos,hsh,(Input.okWide_of_okWideB (base:=0) hok).1,(Input.okWide_of_okWideB hok).2,hrow,by
  simp only [Assume.holds]
  exact⟨by simp,by simp,fun _=>Modest.zero,by simp,by simp⟩⟩
end
def layList:List (String × DataW Unit):=Rows.maskChecksUptoRow.laid
noncomputable def layWorld (os:Os):World:=World.laidAll Tryz.prog os layList
theorem qn1 (os:Os) (args:Array Value):((layWorld os).forCall (fun _ _=>0) ⟨#[],args,[]⟩).Shaped Tryz.prog:=World.shaped_of_ZipB (by kernel_rfl) (by kernel_rfl)
theorem lay_met (os:Os) (args:Array Value):laidMetH Tryz.prog layList ((layWorld os).forCall (fun _ _=>0) ⟨#[],args,[]⟩).memory:=by
 rw [MakeChecks.laidMetH_plain _ _ _ (by kernel_rfl)];exact laidMet_laidAll _ (by kernel_rfl) (by kernel_rfl)
end
end Go.Proofs.YtaaneecceiefoaaGreatDoor
