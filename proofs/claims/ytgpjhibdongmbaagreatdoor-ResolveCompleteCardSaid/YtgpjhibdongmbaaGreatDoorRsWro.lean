import Derived.Test.YtgpjhibdongmbaaGreatDoorStillL
import Derived.Test.YtgpjhibdongmbaaGreatDoorRsFin
import Derived.Test.YtgpjhibdongmbaaGreatDoorRsRep
import Derived.Test.YtgpjhibdongmbaaGreatDoorIdRef1
import Derived.IntWalk
set_option maxRecDepth 100000
set_option maxHeartbeats 4000000
set_option linter.unusedVariables false
set_option linter.unusedSimpArgs false
namespace Go.Proofs.YtgpjhibdongmbaaGreatDoor
open Go.RowKit Ck Rs
theorem pl_keyed (o:POp) (W:World) (h:keyed o.card o.key=true) :
  Calls Tryz.prog 146 #[.agg #[.int .i64 o.num,.string (S o.name),.string (S o.ali),.int .i64 o.card,.int .i64 o.key,.int .i64 o.kind,.int .i64 o.tgt,.int .i64 o.un]] W fun e' w'=>e'=.returned (.bool true)/\Bel W w':=by
 unfold keyed at h;by_cases h5:o.card=5
 ·rw [if_neg (by omega)]at h
  simp only [decide_eq_true_eq]at h;obtain⟨k1,k2,k3⟩:=h;have hb:(o.key != 6)=true:=bne_t k3
  go_enter Tryz.func146,Tryz.ntmps146
  go_wp2;go_ret
  exact⟨by simp [*],(Bel.refl _).alloc _⟩
 ·rw [if_pos h5]at h
  simp only [decide_eq_true_eq]at h;have hb:(o.card != 5)=true:=bne_t h5
  go_enter Tryz.func146,Tryz.ntmps146
  go_wp2;go_ret
  exact⟨by simp [*],(Bel.refl _).alloc _⟩
theorem pl_aimed (p:PPlan) (o:POp) (q1 q2:Option Addr) (c1 c2:Nat) (W:World) (h:aimed p o=true) :
  Calls Tryz.prog 147 #[.agg #[.slice q1 p.progs.length c1,.slice q2 p.enums.length c2],.agg #[.int .i64 o.num,.string (S o.name),.string (S o.ali),.int .i64 o.card,.int .i64 o.key,.int .i64 o.kind,.int .i64 o.tgt,.int .i64 o.un]] W fun e' w'=>e'=.returned (.bool true)/\Bel W w':=by
 unfold aimed at h;by_cases h10:o.kind=10
 ·rw [if_pos h10]at h
  simp only [decide_eq_true_eq]at h;obtain⟨k1,k2,k3⟩:=h;have hb:(o.card != 3)=true:=bne_t k3;have hk:(o.kind == 10)=true:=by rw [h10];rfl
  go_enter Tryz.func147,Tryz.ntmps147
  go_wp2;go_ret
  exact⟨by simp [*],((Bel.refl _).alloc _).alloc _⟩
 ·rw [if_neg h10]at h
  have hk:(o.kind == 10)=false:=beq_eq_false_iff_ne.2 h10;by_cases h9:o.kind=9
  ·rw [if_pos h9]at h
   simp only [decide_eq_true_eq]at h;obtain⟨k1,k2⟩:=h;have hk9:(o.kind == 9)=true:=by rw [h9];rfl
   go_enter Tryz.func147,Tryz.ntmps147
   go_wp2;go_ret
   exact⟨by simp [*],((Bel.refl _).alloc _).alloc _⟩
  ·rw [if_neg h9]at h
   simp only [decide_eq_true_eq]at h;have hk9:(o.kind == 9)=false:=beq_eq_false_iff_ne.2 h9;have CI:=Lib.hid (fun W'=>show Calls Tryz.prog 183 #[.int .i64 o.kind] W' (fun e w'=>e=.returned (.bool true)/\W'=w')from by have:=sc_Is o.kind W';rwa [show Pr.isK o.kind=true from decide_eq_true (by omega)]at this);have ht:o.tgt = -1:=h.2.2;clear h h10 h9
   go_enter Tryz.func147,Tryz.ntmps147
   go_wp2_with (go_at_call 183;(with_reducible refine(CI.out _).mono ?_);rintro e' w1 ⟨rfl,rfl⟩)
   go_ret;exact⟨by simp [*],((Bel.refl _).alloc _).alloc _⟩
theorem unit_at {m b:Int} {ops:List POp} {k:Nat} {x:POp} (hx:ops[k]? = some x) (R:Option Int) (h:qeg m b (ops.drop k)=R) (hR:R ≠ none) : ¬(x.un ≠ -1/\(x.card ≠ 2 ∨ (x.un ≠ m+1/\x.un ≠ b)))/\qeg (max m x.un) x.un (ops.drop (k+1))=R:=by
 obtain⟨hk,rfl⟩:=List.getElem?_eq_some_iff.1 hx;rw [List.drop_eq_getElem_cons hk]at h;unfold qeg at h
 split at h
 ·exact absurd h.symm hR
 ·rename_i hc
  exact⟨hc,h⟩
theorem qm2 (g:PProg) (vs:List Value) (W:World) (hv:VProg W vs g) (h:Rs.united g=true) (hb : ∀o ∈ g.ops, -1<=o.un/\o.un<1000000) :
  Calls Tryz.prog 143 #[.agg vs.toArray] W fun e' w'=>e'=.returned (.bool true)/\Bel W w':=by
 obtain⟨q,c,rfl,h1,l1⟩:=hv.form;obtain⟨q',c',he,_,hcap,hel⟩:=h1;cases he;have EL:=Lib.hid hel
 have hU : ∃M,qeg (-1) (-1) (g.ops.drop 0)=some M/\g.uns=M+1:=by
  unfold Rs.united at h;rw [List.drop_zero]
  split at h
  ·rename_i M hM
   exact⟨M,hM,of_decide_eq_true h⟩
  ·cases h
 obtain⟨M,hM,hu⟩:=hU;have V:=Lib.hid hM;have HU:=Lib.hid hu;have HB:=Lib.hid hb;have hS0:=Lib.hid ((ST.start W).addbox #[.string (S g.name),.slice q g.ops.length c,.int .i64 g.uns] 52);have aE : ∀w,(isAgg 54).run Tryz.prog w=.ok true w:=qj4;clear hv h hel hM hu hb aE
 go_enter Tryz.func143,Tryz.ntmps143
 go_wp2
 go_loopw [3,4,10] (fun mv bv i wr => ∃(k:Nat) (m b:Int),k<=g.ops.length/\i=.int .i64 k/\mv=.int .i64 m/\bv=.int .i64 b/\(-1<=m/\m<1000000)/\Hid (qeg m b (g.ops.drop k)=some M)/\Hid (ST W [] [⟨W.heap.size,#[.string (S g.name),.slice q g.ops.length c,.int .i64 g.uns],52⟩] wr)) (fun _ _ i _=>g.ops.length-(intOf i).toNat)
 case atStart=>exact⟨0, -1, -1,by omega,rfl,rfl,rfl,by omega,V,hS0⟩
 case round=>as_aux_lemma=>
  clear V hS0;obtain⟨k,m,b,hk,rfl,rfl,rfl,⟨hm0,hm1⟩,hx,hS⟩:=hrel;by_cases hlt:k<g.ops.length
  ·have hg:g.ops[k]? = some g.ops[k]:=List.getElem?_eq_getElem hlt
   obtain⟨bb,off,rfl,hbs,vs,hce,hvs⟩:=EL.out k _ hg;have hki:(k:Int)<(g.ops.length:Int):=by omega
   obtain⟨hc,hst⟩:=unit_at hg _ hx.out (by simp);have hbx:=HB.out _ (List.getElem_mem hlt);clear hx EL HB hg;generalize g.ops[k]=x at *;rw [show vs=opC x from hvs]at hce;have HST:=Lib.hid hst;clear hst hvs;have e0:=hS.out.bel.some (hce 0 _ rfl);have e1:=hS.out.bel.some (hce 1 _ rfl);have e2:=hS.out.bel.some (hce 2 _ rfl);have e3:=hS.out.bel.some (hce 3 _ rfl);have e4:=hS.out.bel.some (hce 4 _ rfl);have e5:=hS.out.bel.some (hce 5 _ rfl);have e6:=hS.out.bel.some (hce 6 _ rfl);have e7:=hS.out.bel.some (hce 7 _ rfl);rw [Nat.add_zero]at e0;have HX:=Lib.hid (hS.out.addbox #[.int .i64 x.num,.string (S x.name),.string (S x.ali),.int .i64 x.card,.int .i64 x.key,.int .i64 x.kind,.int .i64 x.tgt,.int .i64 x.un] 54);have mw:IntKind.i64.wrap (m+1)=m+1:=IntWalk.i64_in _ (by omega);have HOC:=Lib.hid hc;clear hc hce;by_cases hu:x.un = -1
   ·have hu2:(x.un != -1)=false:=by rw [hu];rfl
    clear HOC hu
    go_upto_region 7 with(fail)
    obtain⟨wd,hwd⟩ : ∃wd,wd=(wr.alloc (.cells #[.int .i64 x.num,.string (S x.name),.string (S x.ali),.int .i64 x.card,.int .i64 x.key,.int .i64 x.kind,.int .i64 x.tgt,.int .i64 x.un] 54)).drew:=⟨_,rfl⟩;have T:=HX.out.belw ((Bel.refl _).drew);rw [←hwd]at T;have T:=Lib.hid T;have t7:=T.out.cell 0 rfl 7;dsimp only at t7;have HWD:=Lib.hid hwd;clear hwd HX e0 e1 e2 e3 e4 e5 e6 e7;refine qa8 7 (by kernel_rfl) (by kernel_rfl) HWD.out ?_
    (simp only [List.take_succ_cons,List.take_zero,List.drop_succ_cons,List.drop_zero]);(repeat (first|((with_reducible refine wpStill_step (fun K hK=>?_));go_simp;(with_reducible refine hK _ ?_);clear hK K)|((with_reducible refine qab ?_ ?_);(with_unfolding_all rfl))));(with_reducible refine wpStill_nil ?_)
    go_wp2;go_roundw
    case rel=>exact⟨k+1,max m x.un,x.un,by omega,by go_num,rfl,rfl,by omega,HST,Lib.hid T.out.dropbox0⟩
    case measure=>simp [intOf];omega
   ·have hu2:(x.un != -1)=true:=bne_t hu
    have hc2:x.card=2:=Decidable.byContradiction fun h=>HOC.out ⟨hu,.inl h⟩
    have hc3:(x.card != 2)=false:=by rw [hc2];rfl
    by_cases hn:x.un=m+1
    ·have hn2:(x.un != m+1)=false:=by rw [hn];simp
     clear HOC hn hc2
     go_upto_region 7 with(fail)
     obtain⟨wd,hwd⟩ : ∃wd,wd=(wr.alloc (.cells #[.int .i64 x.num,.string (S x.name),.string (S x.ali),.int .i64 x.card,.int .i64 x.key,.int .i64 x.kind,.int .i64 x.tgt,.int .i64 x.un] 54)).drew:=⟨_,rfl⟩;have T:=HX.out.belw ((Bel.refl _).drew);rw [←hwd]at T;have T:=Lib.hid T;have t7:=T.out.cell 0 rfl 7;dsimp only at t7;have HWD:=Lib.hid hwd;clear hwd HX e0 e1 e2 e3 e4 e5 e6 e7;refine qa8 7 (by kernel_rfl) (by kernel_rfl) HWD.out ?_
     (simp only [List.take_succ_cons,List.take_zero,List.drop_succ_cons,List.drop_zero]);(repeat (first|((with_reducible refine wpStill_step (fun K hK=>?_));go_simp;(with_reducible refine hK _ ?_);clear hK K)|((with_reducible refine qab ?_ ?_);(with_unfolding_all rfl))));(with_reducible refine wpStill_nil ?_)
     go_wp2;go_roundw
     case rel=>exact⟨k+1,max m x.un,x.un,by omega,by go_num,rfl,rfl,by omega,HST,Lib.hid T.out.dropbox0⟩
     case measure=>simp [intOf];omega
    ·have hn2:(x.un != m+1)=true:=bne_t hn
     have hbb:x.un=b:=Decidable.byContradiction fun h=>HOC.out ⟨hu,.inr ⟨hn,h⟩⟩
     have hb2:(x.un != b)=false:=by rw [hbb];simp
     clear HOC hbb hc2
     go_upto_region 7 with(fail)
     obtain⟨wd,hwd⟩ : ∃wd,wd=(wr.alloc (.cells #[.int .i64 x.num,.string (S x.name),.string (S x.ali),.int .i64 x.card,.int .i64 x.key,.int .i64 x.kind,.int .i64 x.tgt,.int .i64 x.un] 54)).drew:=⟨_,rfl⟩;have T:=HX.out.belw ((Bel.refl _).drew);rw [←hwd]at T;have T:=Lib.hid T;have t7:=T.out.cell 0 rfl 7;dsimp only at t7;have HWD:=Lib.hid hwd;clear hwd HX e0 e1 e2 e3 e4 e5 e6 e7;refine qa8 7 (by kernel_rfl) (by kernel_rfl) HWD.out ?_
     (simp only [List.take_succ_cons,List.take_zero,List.drop_succ_cons,List.drop_zero]);(repeat (first|((with_reducible refine wpStill_step (fun K hK=>?_));go_simp;(with_reducible refine hK _ ?_);clear hK K)|((with_reducible refine qab ?_ ?_);(with_unfolding_all rfl))));(with_reducible refine wpStill_nil ?_)
     go_wp2;go_roundw
     case rel=>exact⟨k+1,max m x.un,x.un,by omega,by go_num,rfl,rfl,by omega,HST,Lib.hid T.out.dropbox0⟩
     case measure=>simp [intOf];omega
  ·have hki : ¬(k:Int)<(g.ops.length:Int):=by omega
   have hMm:m=M:=by have:=hx.out;rw [List.drop_eq_nil_of_le (by omega)]at this;exact Option.some.inj this
   subst hMm;have mw:IntKind.i64.wrap (m+1)=m+1:=IntWalk.i64_in _ (by omega);have t2:=hS.out.cell 0 rfl 2;dsimp only at t2;have HUU:=HU.out;clear EL hx;go_wp2;go_ret;exact⟨qa3 (by simp [HUU]),hS.out.bel⟩
theorem cl_wroO (p:PPlan) (o:POp) (vs:List Value) (q1 q2:Option Addr) (c1 c2:Nat) (B:Nat) (W:World) (hv:VOp W vs o) (hB0:W.cell? ⟨B,0,none⟩=some (.slice q1 p.progs.length c1)) (hB1:W.cell? ⟨B,1,none⟩=some (.slice q2 p.enums.length c2)) (h:operP p o=true) :
  Calls Tryz.prog 144 #[.agg vs.toArray,.pointer (some ⟨B,0,none⟩)] W fun e' w'=>e'=.returned (.bool false)/\Bel W w':=by
 obtain rfl:vs=[.int .i64 o.num,.string (S o.name),.string (S o.ali),.int .i64 o.card,.int .i64 o.key,.int .i64 o.kind,.int .i64 o.tgt,.int .i64 o.un]:=hv;unfold operP at h;simp only [Bool.and_eq_true,decide_eq_true_eq]at h;obtain⟨⟨g1,g2,g3,g4⟩,g5,g6⟩:=h;have hlt:B<W.heap.size:=World.block_lt_of_cell? W _ hB0;have CV:=Lib.hid (fun W'=>show Calls Tryz.prog 145 #[.string (S o.ali)] W' (fun e w'=>e=.returned (.bool true)/\Bel W' w')from by have:=qgx (S o.ali) o.ali W' rfl (by rw [qaj];omega);rwa [show decide (Utf.bad o.ali<0)=true from decide_eq_true g1]at this);have CK:=Lib.hid (fun W'=>pl_keyed o W' g5);have CA:=Lib.hid (fun W'=>pl_aimed p o q1 q2 c1 c2 W' g6);have z1:((S o.ali).size:Int)<=4096:=by rw [qaj];omega
 have z2 : ¬(4096:Int)<((S o.ali).size:Int):=by omega
 have z3 : ¬ o.card<1:=by omega
 have z4 : ¬ 5<o.card:=by omega
 have hS0:=(Bel.refl W).alloc (.cells #[.int .i64 o.num,.string (S o.name),.string (S o.ali),.int .i64 o.card,.int .i64 o.key,.int .i64 o.kind,.int .i64 o.tgt,.int .i64 o.un] 54);clear g1 g2 g5 g6
 go_enter Tryz.func144,Tryz.ntmps144
 go_wp2_with (first
  | (go_at_call 145;(with_reducible refine(CV.out _).mono ?_);rintro e' w1 ⟨rfl,k1⟩;have k1:Bel _ w1:=k1;have t1_0:=qaa k1 0 _ rfl;have t1_1:=qaa k1 1 _ rfl;have t1_2:=qaa k1 2 _ rfl;have t1_3:=qaa k1 3 _ rfl;have t1_4:=qaa k1 4 _ rfl;have t1_5:=qaa k1 5 _ rfl;have t1_6:=qaa k1 6 _ rfl;have t1_7:=qaa k1 7 _ rfl;have b0:=(Bel.of hS0 k1).some hB0;have b1:=(Bel.of hS0 k1).some hB1)
  | (go_at_call 146;(with_reducible refine(CK.out _).mono ?_);rintro e' w2 ⟨rfl,k2⟩;have k2:Bel _ w2:=Bel.of k1 k2;have t2_0:=qaa k2 0 _ rfl;have t2_1:=qaa k2 1 _ rfl;have t2_2:=qaa k2 2 _ rfl;have t2_3:=qaa k2 3 _ rfl;have t2_4:=qaa k2 4 _ rfl;have t2_5:=qaa k2 5 _ rfl;have t2_6:=qaa k2 6 _ rfl;have t2_7:=qaa k2 7 _ rfl;have d0:=(Bel.of hS0 k2).some hB0;have d1:=(Bel.of hS0 k2).some hB1)
  | (go_at_call 147;(with_reducible refine(CA.out _).mono ?_);rintro e' w3 ⟨rfl,k3⟩;have k3:Bel _ w3:=Bel.of k2 k3))
 go_ret;exact⟨qa3 (by rw [decide_eq_false (show ¬(4096:Int)<((S o.ali).size:Int)by omega),decide_eq_false (show ¬ o.card<1 by omega),decide_eq_false (show ¬ 5<o.card by omega)];rfl),Bel.of hS0 k3⟩
theorem cl_wroG (p:PPlan) (g:PProg) (vs:List Value) (q1 q2:Option Addr) (c1 c2:Nat) (B:Nat) (W:World) (hv:VProg W vs g) (hB0:W.cell? ⟨B,0,none⟩=some (.slice q1 p.progs.length c1)) (hB1:W.cell? ⟨B,1,none⟩=some (.slice q2 p.enums.length c2)) (h1:Rs.united g=true) (h2 : ∀o ∈ g.ops,operP p o=true/\-1<=o.un/\o.un<1000000) :
  Calls Tryz.prog 142 #[.agg vs.toArray,.pointer (some ⟨B,0,none⟩)] W fun e' w'=>e'=.returned (.bool false)/\Bel W w':=by
 have hv0:=hv;obtain⟨q,c,rfl,h3,l1⟩:=hv.form;have hlt:B<W.heap.size:=World.block_lt_of_cell? W _ hB0;have hS0:=(Bel.refl W).alloc (.cells #[.string (S g.name),.slice q g.ops.length c,.int .i64 g.uns] 52);have CU:=Lib.hid (fun W' (k:Bel (W.alloc (.cells #[.string (S g.name),.slice q g.ops.length c,.int .i64 g.uns] 52)) W')=>qm2 g _ W' (VProg.stays _ _ _ _ (Bel.of hS0 k) hv0) h1 (fun o ho=>(h2 o ho).2));have D:=Lib.hid (fun W' (k:Bel (W.alloc (.cells #[.string (S g.name),.slice q g.ops.length c,.int .i64 g.uns] 52)) W')=>(qbz (so_Op VOp VOp.len 144 #[.pointer (some ⟨B,0,none⟩)] (enters_of Tryz.func144 (by kernel_rfl) rfl) (.slice q g.ops.length c) g.ops (fun _=>false) W' (h3.bel VOp.stays (Bel.of hS0 k)) (fun x vs' W2 hx hv' hb=>cl_wroO p x vs' q1 q2 c1 c2 B W2 hv' ((Bel.of (Bel.of hS0 k) hb).some hB0) ((Bel.of (Bel.of hS0 k) hb).some hB1) (h2 x hx).1))));clear hv hv0 h1 h2 h3
 go_enter Tryz.func142,Tryz.ntmps142
 go_wp2_with (first
  | (go_at_call 143;(with_reducible refine(CU.out _ (Bel.refl _)).mono ?_);rintro e' w1 ⟨rfl,k1⟩;have k1:Bel _ w1:=k1;have t1_0:=qaa k1 0 _ rfl;have t1_1:=qaa k1 1 _ rfl;have t1_2:=qaa k1 2 _ rfl)
  | (go_at_call 116;(with_reducible refine(D.out _ k1).mono ?_);rintro e' w2 ⟨rfl,k2⟩;have k2:Bel _ w2:=Bel.of k1 k2))
 go_ret;exact⟨rfl,Bel.of hS0 k2⟩
theorem cl_wroI (x:PItem) (vs:List Value) (W:World) (hv:VItem W vs x) (h:argI x=true) :
  Calls Tryz.prog 149 #[.agg vs.toArray] W fun e' w'=>e'=.returned (.bool false)/\Bel W w':=by
 obtain⟨q,c,rfl,h1,l1⟩:=hv.form;have hS0:=(Bel.refl W).alloc (.cells #[.string (S x.name),.int .i64 x.num,.slice q x.notes.length c] 86);by_cases hn:x.notes=[]
 ·have z0:x.notes.length=0:=by rw [hn];rfl
  rw [z0];rw [z0]at hS0;clear hv h1 h hn
  go_enter Tryz.func149,Tryz.ntmps149
  go_wp2;go_ret
  exact⟨rfl,hS0⟩
 ·obtain⟨n,l,hn⟩:=List.exists_cons_of_ne_nil hn
  have hl0:l=[]:=by
   unfold argI at h;rw [hn]at h;cases l with
   | nil=>rfl
   | cons a b=>cases h
  subst hl0
  have h2:n.name=qmv/\qam x.notes 4=0:=by
   unfold argI at h;rw [hn]at h;simp only [Bool.and_eq_true,decide_eq_true_eq]at h;rw [hn];exact h
  have z1:x.notes.length=1:=by rw [hn];rfl
  have CN:=Lib.hid (fun W' (k:Bel W W')=>show Calls Tryz.prog 150 #[.slice q x.notes.length c,.int .i64 4] W' (fun e w'=>e=.returned (.int .i64 0)/\Bel W' w')from by
   have:=nt_Check (.slice q x.notes.length c) x.notes 4 W' (h1.bel VNote.stays k) (fun m hm=>by rw [hn,List.mem_singleton]at hm;rw [hm,h2.1];decide)
   rwa [h2.2]at this)
  obtain⟨q',c',he,_,hcap,hel⟩:=h1;cases he;obtain⟨b,off,rfl,hbs,vs,hce,hvs⟩:=hel 0 n (by rw [hn];rfl);obtain⟨vv,rfl,_⟩:=hvs;have e0:=hce 0 _ rfl;simp only [Nat.zero_mul,Nat.add_zero]at e0;have hal:((S n.name).toList != [97,108,105,97,115])=false:=by rw [ByteArray.toList_eq,qc2,h2.1];rfl
  have hal2:(S n.name).toList=[97,108,105,97,115]:=by rw [ByteArray.toList_eq,qc2,h2.1];rfl
  rw [z1];rw [z1]at hS0 CN;have e0b:=hS0.some e0;clear hv h hn h2 hel hce hcap
  go_enter Tryz.func149,Tryz.ntmps149
  go_wp2_with (go_at_call 150;(with_reducible refine(CN.out _ hS0).mono ?_);rintro e' w1 ⟨rfl,k1⟩;have k1:Bel _ w1:=k1)
  go_ret;exact⟨rfl,Bel.of hS0 k1⟩
theorem cl_wroE (e:PEnum) (vs:List Value) (W:World) (hv:VEnum W vs e) (h:argE e=true) :
  Calls Tryz.prog 148 #[.agg vs.toArray] W fun e' w'=>e'=.returned (.bool false)/\Bel W w':=by
 obtain⟨q1,q2,q3,c1,c2,c3,rfl,h1,_⟩:=hv.form;unfold argE at h;simp only [Bool.and_eq_true,List.all_eq_true,decide_eq_true_eq]at h;have z0 : ¬(0:Int)<(e.notes.length:Int):=by omega
 have z1 : ¬ 0<e.notes.length:=by omega
 have hS0:=(Bel.refl W).alloc (.cells #[.string (S e.name),.bool e.op,.slice q1 e.items.length c1,.slice q2 e.res.length c2,.slice q3 e.notes.length c3] 84);have D:=Lib.hid (fun W' (k:Bel (W.alloc (.cells #[.string (S e.name),.bool e.op,.slice q1 e.items.length c1,.slice q2 e.res.length c2,.slice q3 e.notes.length c3] 84)) W')=>(qbz (qh0 VItem VItem.len 149 #[] (enters_of Tryz.func149 (by kernel_rfl) rfl) (.slice q1 e.items.length c1) e.items (fun _=>false) W' (h1.bel VItem.stays (Bel.of hS0 k)) (fun x vs' W2 hx hv' hb=>cl_wroI x vs' W2 (VItem.stays _ _ _ _ hb hv') (h.2 x hx)))));clear h hv h1
 go_enter Tryz.func148,Tryz.ntmps148
 go_wp2_with (go_at_call 120;(with_reducible refine(D.out _ (Bel.refl _)).mono ?_);rintro e' w1 ⟨rfl,k1⟩;have k1:Bel _ w1:=k1)
 go_ret;exact⟨rfl,Bel.of hS0 k1⟩
theorem pl_wrong (p:PPlan) (vs:List Value) (w:World) (hv:VPlan w vs p) (h:arguments p=true) (hb : ∀g ∈ p.progs, ∀o ∈ g.ops, -1<=o.un/\o.un<1000000) :
  Calls Tryz.prog 88 #[.agg vs.toArray] w fun e' w'=>e'=.returned (.bool false)/\Bel w w':=by
 obtain⟨q1,q2,c1,c2,rfl,h1,h2,l1,l2⟩:=hv.form;unfold arguments at h;rw [Bool.and_eq_true,List.all_eq_true,List.all_eq_true]at h;have hS0:=(Bel.refl w).alloc (.cells #[.slice q1 p.progs.length c1,.slice q2 p.enums.length c2] 25);have CG:=Lib.hid (fun W (k:Bel (w.alloc (.cells #[.slice q1 p.progs.length c1,.slice q2 p.enums.length c2] 25)) W)=>(qbz (qe9 VProg VProg.len 142 #[.pointer (some ⟨w.heap.size,0,none⟩)] (enters_of Tryz.func142 (by kernel_rfl) rfl) (.slice q1 p.progs.length c1) p.progs (fun _=>false) W (h1.bel VProg.stays (Bel.of hS0 k)) (fun x vs' W2 hx hv' hb2=>cl_wroG p x vs' q1 q2 c1 c2 w.heap.size W2 (VProg.stays _ _ _ _ hb2 hv') (qaa (Bel.of k hb2) 0 _ rfl) (qaa (Bel.of k hb2) 1 _ rfl) (qlj (h.2 x hx)) (fun o ho=>⟨operP_of (by have:=h.2 x hx;unfold argG at this;rw [Bool.and_eq_true,List.all_eq_true]at this;exact this.2 o ho),hb x hx o ho⟩)))));have CE:=Lib.hid (fun W (k:Bel (w.alloc (.cells #[.slice q1 p.progs.length c1,.slice q2 p.enums.length c2] 25)) W)=>(qbz (qde VEnum VEnum.len 148 #[] (enters_of Tryz.func148 (by kernel_rfl) rfl) (.slice q2 p.enums.length c2) p.enums (fun _=>false) W (h2.bel VEnum.stays (Bel.of hS0 k)) (fun x vs' W2 hx hv' hb2=>cl_wroE x vs' W2 (VEnum.stays _ _ _ _ hb2 hv') (h.1 x hx)))));clear hv h1 h2 h
 go_enter Tryz.func88,Tryz.ntmps88
 go_wp2_with (first
  | (go_at_call 110;(with_reducible refine(CG.out _ (Bel.refl _)).mono ?_);rintro e' w1 ⟨rfl,k1⟩;have k1:Bel _ w1:=k1;have t1_0:=qaa k1 0 _ rfl;have t1_1:=qaa k1 1 _ rfl)
  | (go_at_call 112;(with_reducible refine(CE.out _ k1).mono ?_);rintro e' w2 ⟨rfl,k2⟩;have k2:Bel _ w2:=Bel.of k1 k2))
 go_ret;exact⟨rfl,Bel.of hS0 k2⟩
end Go.Proofs.YtgpjhibdongmbaaGreatDoor
