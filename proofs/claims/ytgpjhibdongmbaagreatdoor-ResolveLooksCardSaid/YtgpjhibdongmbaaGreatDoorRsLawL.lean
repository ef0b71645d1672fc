import Derived.Test.YtgpjhibdongmbaaGreatDoorRsAw
set_option maxRecDepth 100000
set_option maxHeartbeats 4000000
set_option linter.unusedVariables false
set_option linter.unusedSimpArgs false
namespace Go.Proofs.YtgpjhibdongmbaaGreatDoor
section
open Go.RowKit Ck Rs
def smD (d:PAdapt):Bool:=decide (d.acts.length<=70) && decide (d.lacks.length<=70)
def qds (l:List PAdapt):Bool:=decide (l.length<=60) && l.all smD
def exD (a:PAdapt):Bool:=decide (a.lacks.length=0) && a.acts.all fun x=>decide (x.kind=2)
theorem rf_Small (v:Value) (l:List PAdapt) (w:World) (hv:Sv 4 VAdapt w v l) :
  Calls Tryz.prog 14 #[v] w fun e' w'=>e'=.returned (.bool (qds l))/\Bel w w':=by
 obtain⟨q,c,rfl,hl,hcap,hel⟩:=hv;have EL:=Lib.hid hel;by_cases hz:l.length<=60
 ·have hzi : ¬(60:Int)<(l.length:Int):=by omega
  have hzb:decide (60<l.length)=false:=decide_eq_false (by omega);have V:=Lib.hid (show(l.drop 0).all smD=qds l by unfold qds;rw [decide_eq_true hz];rfl);generalize qds l=T at V;clear hel
  go_enter Tryz.func14,Tryz.ntmps14
  go_wp2
  go_loopw [3] (fun i wr => ∃k:Nat,k<=l.length/\i=.int .i64 k/\Bel w wr/\Hid ((l.drop k).all smD=T)) (fun i _=>l.length-(intOf i).toNat)
  case atStart=>exact⟨0,by omega,rfl,Bel.refl _,V⟩
  case round=>as_aux_lemma=>
   clear V;obtain⟨k,hk,rfl,kw,hx⟩:=hrel;by_cases hlt:k<l.length
   ·have hg:l[k]? = some l[k]:=List.getElem?_eq_getElem hlt
    obtain⟨g,off,rfl,hbs,vs,hce,hvs⟩:=EL.out k _ hg;obtain⟨aq,lq,ac,lc,rfl,_,_,_,_⟩:=hvs.form;have hki:(k:Int)<(l.length:Int):=by omega
    have hk0:(0:Int)<=(k:Int):=by omega
    have hst:=hx.out;rw [List.drop_eq_getElem_cons hlt,List.all_cons]at hst;clear EL hx;generalize l[k]=x at *;have e2:=kw.some (hce 2 _ rfl);have e3:=kw.some (hce 3 _ rfl);clear hce hvs;by_cases h1:x.acts.length<=70
    ·have b1 : ¬(70:Int)<(x.acts.length:Int):=by omega
     have b1':decide (70<x.acts.length)=false:=decide_eq_false (by omega);by_cases h2:x.lacks.length<=70
     ·have b2 : ¬(70:Int)<(x.lacks.length:Int):=by omega
      have b2':decide (70<x.lacks.length)=false:=decide_eq_false (by omega);have HST:=Lib.hid (show(l.drop (k+1)).all smD=T by rw [←hst,show smD x=true by unfold smD;rw [decide_eq_true h1,decide_eq_true h2];rfl,Bool.true_and]);clear hst hg;go_wp2;go_roundw
      case rel=>exact⟨k+1,by omega,by go_num,kw,HST⟩
      case measure=>simp [intOf];omega
     ·have b2:(70:Int)<(x.lacks.length:Int):=by omega
      have b2':decide (70<x.lacks.length)=true:=decide_eq_true (by omega);have HST:=Lib.hid (show T=false by rw [←hst,show smD x=false by unfold smD;rw [decide_eq_false h2,Bool.and_false],Bool.false_and]);clear hst hg;go_wp2;go_ret;exact⟨by rw [HST.out];rfl,kw⟩
    ·have b1:(70:Int)<(x.acts.length:Int):=by omega
     have b1':decide (70<x.acts.length)=true:=decide_eq_true (by omega);have HST:=Lib.hid (show T=false by rw [←hst,show smD x=false by unfold smD;rw [decide_eq_false h1,Bool.false_and],Bool.false_and]);clear hst hg;go_wp2;go_ret;exact⟨by rw [HST.out];rfl,kw⟩
   ·have hki : ¬(k:Int)<(l.length:Int):=by omega
    have HST:=Lib.hid (show T=true by rw [←hx.out,List.drop_eq_nil_of_le (by omega)];rfl);clear hx;go_wp2;go_ret;exact⟨by rw [HST.out];rfl,kw⟩
 ·have hzi:(60:Int)<(l.length:Int):=by omega
  have hzb:decide (60<l.length)=true:=decide_eq_true (by omega);have HST:=Lib.hid (show qds l=false by unfold qds;rw [decide_eq_false hz,Bool.false_and]);generalize qds l=T at HST;clear hel EL
  go_enter Tryz.func14,Tryz.ntmps14
  go_wp2;go_ret
  exact⟨by rw [HST.out];rfl,Bel.refl _⟩
theorem rf_Exact (v:Value) (l:List PAdapt) (w:World) (hv:Sv 4 VAdapt w v l) :
  Calls Tryz.prog 18 #[v] w fun e' w'=>e'=.returned (.bool (qea l))/\Bel w w':=by
 obtain⟨q,c,rfl,hl,hcap,hel⟩:=hv;have EL:=Lib.hid hel;have V:=Lib.hid (show(l.drop 0).all exD=qea l from rfl);generalize qea l=T at V;clear hel
 go_enter Tryz.func18,Tryz.ntmps18
 go_wp2
 go_loopw [3] (fun i wr => ∃k:Nat,k<=l.length/\i=.int .i64 k/\Bel w wr/\Hid ((l.drop k).all exD=T)) (fun i _=>l.length-(intOf i).toNat)
 case atStart=>exact⟨0,by omega,rfl,Bel.refl _,V⟩
 case round=>as_aux_lemma=>
  clear V;obtain⟨k,hk,rfl,kw,hx⟩:=hrel;by_cases hlt:k<l.length
  ·have hg:l[k]? = some l[k]:=List.getElem?_eq_getElem hlt
   obtain⟨g,off,rfl,hbs,vs,hce,hvs⟩:=EL.out k _ hg;obtain⟨aq,lq,ac,lc,rfl,hsa,_,_,_⟩:=hvs.form;obtain⟨_,_,he,_,_,hem⟩:=hsa;cases he;have ELM:=Lib.hid hem;have hki:(k:Int)<(l.length:Int):=by omega
   have hk0:(0:Int)<=(k:Int):=by omega
   have hst:=hx.out;rw [List.drop_eq_getElem_cons hlt,List.all_cons]at hst;clear EL hx hem;generalize l[k]=x at *;have E2:=Lib.hid (hce 2 _ rfl);have e2:=kw.some (hce 2 _ rfl);have e3:=kw.some (hce 3 _ rfl);clear hce hvs;by_cases h1:x.lacks.length=0
   ·have b1 : ¬(0:Int)<(x.lacks.length:Int):=by omega
    have b1'' : ¬ 0<x.lacks.length:=by omega
    have b1':decide (0<x.lacks.length)=false:=decide_eq_false (by omega);obtain⟨Q,hQ⟩ : ∃Q,Q=(l.drop (k+1)).all exD:=⟨_,rfl⟩;have HQ:=Lib.hid hQ;have V:=Lib.hid (show((x.acts.drop 0).all (fun x=>decide (x.kind=2)) && Q)=T by rw [←hst,hQ,show exD x=x.acts.all fun x=>decide (x.kind=2)by unfold exD;rw [decide_eq_true h1,Bool.true_and]];rfl);clear hst hg hQ h1
    go_upto_region 7 with(fail)
    clear e2 e3 b1 b1' b1''
    go_loopw [4] (fun i wr => ∃j:Nat,j<=x.acts.length/\i=.int .i64 j/\Bel w wr/\Hid (((x.acts.drop j).all (fun x=>decide (x.kind=2)) && Q)=T)) (fun i _=>x.acts.length-(intOf i).toNat)
    case atStart=>exact⟨0,by omega,rfl,kw,V⟩
    case round=>
     clear V kw;obtain⟨j,hj,rfl,kw,hy⟩:=hrel;have e2:=kw.some E2.out;by_cases hlt2:j<x.acts.length
     ·have hg2:x.acts[j]? = some x.acts[j]:=List.getElem?_eq_getElem hlt2
      obtain⟨g2,off2,rfl,hbs2,vs2,hce2,hvs2⟩:=ELM.out j _ hg2;have hji:(j:Int)<(x.acts.length:Int):=by omega
      have hj0:(0:Int)<=(j:Int):=by omega
      have hst:=hy.out;rw [List.drop_eq_getElem_cons hlt2,List.all_cons]at hst;clear ELM hy;generalize x.acts[j]=y at *;obtain rfl:vs2=[.int .i64 y.num,.int .i64 y.kind,.int .i64 y.sub]:=hvs2;have y1:=kw.some (hce2 1 _ rfl);clear hce2;by_cases h2:y.kind=2
      ·have b2:(y.kind != 2)=false:=by rw [h2];rfl
       have HST:=Lib.hid (show((x.acts.drop (j+1)).all (fun x=>decide (x.kind=2)) && Q)=T by rw [←hst,decide_eq_true h2,Bool.true_and]);clear hst hg2 h2;go_wp2;go_roundw
       case rel=>exact⟨j+1,by omega,by go_num,kw,HST⟩
       case measure=>simp [intOf];omega
      ·have b2:(y.kind != 2)=true:=bne_iff_ne.2 h2
       have HST:=Lib.hid (show T=false by rw [←hst,decide_eq_false h2,Bool.false_and,Bool.false_and]);clear hst hg2;go_wp2;go_ret;exact⟨by rw [HST.out];rfl,kw⟩
     ·have hji : ¬(j:Int)<(x.acts.length:Int):=by omega
      have HST:=Lib.hid (show(l.drop (k+1)).all exD=T by rw [←hy.out,HQ.out,show x.acts.drop j=[]from List.drop_eq_nil_of_le (by omega)];rfl);clear hy;go_wp2;go_roundw
      case rel=>exact⟨k+1,by omega,by go_num,kw,HST⟩
      case measure=>simp [intOf];omega
   ·have b1:(0:Int)<(x.lacks.length:Int):=by omega
    have b1'':0<x.lacks.length:=by omega
    have b1':decide (0<x.lacks.length)=true:=decide_eq_true (by omega);have HST:=Lib.hid (show T=false by rw [←hst,show exD x=false by unfold exD;rw [decide_eq_false h1,Bool.false_and],Bool.false_and]);clear hst hg;go_wp2;go_ret;exact⟨by rw [HST.out];rfl,kw⟩
  ·have hki : ¬(k:Int)<(l.length:Int):=by omega
   have HST:=Lib.hid (show T=true by rw [←hx.out,List.drop_eq_nil_of_le (by omega)];rfl);clear hx;go_wp2;go_ret;exact⟨by rw [HST.out];rfl,kw⟩
theorem qiw (d:PAdapt) (vs:List Value) (num:Int) (W:World) (hv:VAdapt W vs d) :
  Calls Tryz.prog 20 #[.agg vs.toArray,.int .i64 num] W fun e' w'=>e'=.returned (actV (qct d num))/\Bel W w':=by
 obtain⟨aq,lq,ac,lc,rfl,h1,h2,l1,l2⟩:=hv.form;have hS0:=((ST.start W).addbox #[.int .i64 d.w,.int .i64 d.r,.slice aq d.acts.length ac,.slice lq d.lacks.length lc] 44).addbox #[.int .i64 0,.int .i64 0,.int .i64 0] 38;simp only [World.size_alloc]at hS0;have HS:=Lib.hid hS0;obtain⟨_,_,he,_,_,hel⟩:=h1;cases he;have EL:=Lib.hid hel;obtain⟨R,hR⟩ : ∃R,R=qct d num:=⟨_,rfl⟩;have V:=Lib.hid (show qcu (d.acts.drop 0) num=R by rw [hR];rfl);rw [←hR];clear hv h2 hel hS0 hR
 go_enter Tryz.func20,Tryz.ntmps20
 go_wp2
 go_loopw [6] (fun i wr => ∃k:Nat,k<=d.acts.length/\i=.int .i64 k/\Hid (ST W [] [⟨W.heap.size+1,#[.int .i64 0,.int .i64 0,.int .i64 0],38⟩,⟨W.heap.size,#[.int .i64 d.w,.int .i64 d.r,.slice aq d.acts.length ac,.slice lq d.lacks.length lc],44⟩] wr)/\Hid (qcu (d.acts.drop k) num=R)) (fun i _=>d.acts.length-(intOf i).toNat)
 case atStart=>exact⟨0,by omega,rfl,HS,V⟩
 case round=>as_aux_lemma=>
  clear HS V;obtain⟨k,hk,rfl,hS,hx⟩:=hrel;have f2:=hS.out.cell 1 rfl 2;dsimp only at f2;by_cases hlt:k<d.acts.length
  ·have hg:d.acts[k]? = some d.acts[k]:=List.getElem?_eq_getElem hlt
   obtain⟨g,off,rfl,hbs,vs,hce,hvs⟩:=EL.out k _ hg;have hki:(k:Int)<(d.acts.length:Int):=by omega
   have hst:=hx.out;rw [qeg hg]at hst;clear hx hg EL;generalize d.acts[k]=x at *;rw [show vs=[.int .i64 x.num,.int .i64 x.kind,.int .i64 x.sub]from hvs]at hce;have e0:=hS.out.bel.some (hce 0 _ rfl);rw [Nat.add_zero]at e0;have e1:=hS.out.bel.some (hce 1 _ rfl);have e2:=hS.out.bel.some (hce 2 _ rfl);clear hce hvs;by_cases hn:x.num=num
   ·have hb:(x.num == num)=true:=by rw [hn];simp
    rw [if_pos hn]at hst;have HST:=Lib.hid hst;clear hn hst;have HR:=Lib.hid (hS.out.box 0 rfl)
    go_wp2_with (refine qa5 rfl 38 _ _ rfl (W.heap.size+1) #[.int .i64 x.num,.int .i64 x.kind,.int .i64 x.sub] #[.int .i64 0,.int .i64 0,.int .i64 0] 38 rfl rfl HR.out qas rfl (qah _ _ _) ?_)
    have TZ:=Lib.hid (hS.out.setrowbox 0 rfl #[.int .i64 x.num,.int .i64 x.kind,.int .i64 x.sub]);refine bodyPost_ret (v:=.tuple #[.agg #[.int .i64 x.num,.int .i64 x.kind,.int .i64 x.sub],.bool true]) ?hres9 rfl ?hpost9
    case hres9=>exact qci rfl rfl rfl (TZ.out.box 0 rfl) Tryz.underlying38 rfl (by kernel_rfl)
    case hpost9=>exact⟨by rw [←HST.out];rfl,TZ.out.bel⟩
   ·have hb:(x.num == num)=false:=beq_eq_false_iff_ne.2 hn
    rw [if_neg hn]at hst;have HST:=Lib.hid hst;clear hn hst;go_wp2;go_roundw
    case rel=>exact⟨k+1,by omega,by go_num,hS,HST⟩
    case measure=>simp [intOf];omega
  ·have hki : ¬(k:Int)<(d.acts.length:Int):=by omega
   have HST:=Lib.hid (show R=(⟨0,0,0⟩,false)by rw [←hx.out,List.drop_eq_nil_of_le (by omega)];rfl);have HR:=Lib.hid (hS.out.box 0 rfl);clear hx EL
   go_wp2_with (refine qa5 rfl 38 _ _ rfl (W.heap.size+1) #[.int .i64 0,.int .i64 0,.int .i64 0] #[.int .i64 0,.int .i64 0,.int .i64 0] 38 rfl rfl HR.out qas rfl (qah _ _ _) ?_)
   have TZ:=Lib.hid (hS.out.setrowbox 0 rfl #[.int .i64 0,.int .i64 0,.int .i64 0]);refine bodyPost_ret (v:=.tuple #[.agg #[.int .i64 0,.int .i64 0,.int .i64 0],.bool false]) ?hres8 rfl ?hpost8
   case hres8=>exact qci rfl rfl rfl (TZ.out.box 0 rfl) Tryz.underlying38 rfl (by kernel_rfl)
   case hpost8=>exact⟨by rw [HST.out];rfl,TZ.out.bel⟩
end
section
open Go.RowKit Ck Rs
theorem qi6 (P:List (Int × Int)) (a b:Int) : ∃(A:Int) (B:Bool),findV P a b 0=.tuple #[.int .i64 A,.bool B]:=by
 unfold findV
 split <;> exact⟨_,_,rfl⟩
theorem qj8 (v:Value) (l:List PAdapt) (a b num:Int) (w:World) (hv:Sv 4 VAdapt w v l) (hP:PT w) (hM:ML w) (hT:Tab w) :
  Calls Tryz.prog 4 #[v,.int .i64 a,.int .i64 b,.int .i64 num] w fun e w'=>e=.returned (.bool true)/\Bel w w':=by
 have CA:=Lib.hid (fun W (k:Bel w W)=>qj7 W (hP.bel k) (hM.below k.out) (hT.below k));have CS:=Lib.hid (rf_Small v l w hv);have hvk:=fun W (k:Bel w W)=>hv.bel VAdapt.stays k
 have CF:=Lib.hid (fun W (k:Bel w W)=>qhc v _ a b W (qen (hvk W k)));have CG:=Lib.hid (fun W (k:Bel w W)=>rg_Find v _ a b W (qen (hvk W k)));obtain⟨A,B,hAB⟩:=qi6 (l.map fun d=>(d.w,d.r)) a b;rw [hAB]at CF CG;have CE:=Lib.hid (fun W (k:Bel w W)=>qek v l W (hvk W k));have CX:=Lib.hid (fun W (k:Bel w W)=>rf_Exact v l W (hvk W k));generalize qea l=X at CE CX;generalize qds l=Y at CS;have CP:=Lib.hid (fun W (k:Bel w W) (d:PAdapt) (vs:List Value) (h:VAdapt w vs d)=>qfb d vs num W (VAdapt.stays _ _ _ _ k h));have CQ:=Lib.hid (fun W (k:Bel w W) (d:PAdapt) (vs:List Value) (h:VAdapt w vs d)=>qiw d vs num W (VAdapt.stays _ _ _ _ k h));obtain⟨q,c,rfl,hl,hcap,hel⟩:=hv;have EL:=Lib.hid hel;clear hel hAB hvk hP hM hT
 go_enter Tryz.func4,Tryz.ntmps4
 cases Y with
 | false=>
  go_wp2_with (first
   | (go_at_call 14;(with_reducible refine CS.out.mono ?_);rintro e w1 ⟨rfl,k1⟩;have H1:=CA.out _ k1)
   | (go_at_call 10;(with_reducible refine H1.mono ?_);rintro e w2 ⟨rfl,k2⟩;have k2:Bel w w2:=Bel.of k1 k2))
  go_ret;exact⟨rfl,k2⟩
 | true=>
  go_upto_region 3 with(go_at_call 14;(with_reducible refine CS.out.mono ?_);rintro e w1 ⟨rfl,k1⟩;have k1:Bel w w1:=k1)
  go_upto_region 4 with(go_at_call 15;(with_reducible refine(CF.out _ k1).mono ?_);rintro e w2 ⟨rfl,k2⟩;have k2:Bel w w2:=Bel.of k1 k2)
  go_upto_region 5 with(go_at_call 16;(with_reducible refine(CG.out _ k2).mono ?_);rintro e w3 ⟨rfl,k3⟩;have k3:Bel w w3:=Bel.of k2 k3)
  clear k1 k2 CS CF CG
  go_upto_region 8 with(first
   | (go_at_call 17;(with_reducible refine(CE.out _ k3).mono ?_);rintro e w4 ⟨rfl,k4⟩;have k4:Bel w w4:=Bel.of k3 k4)
   | (go_at_call 18;(with_reducible refine(CX.out _ k4).mono ?_);rintro e w5 ⟨rfl,k5⟩;have k5:Bel w w5:=Bel.of k4 k5))
  clear k3 k4 CE CX;have KB:=Lib.hid k5;clear k5
  go_loopw [13] (fun i wr => ∃k:Nat,k<=l.length/\i=.int .i64 k/\Hid (Bel w wr)) (fun i _=>l.length-(intOf i).toNat)
  case atStart=>exact⟨0,by omega,rfl,KB⟩
  case round=>as_aux_lemma=>
   clear KB;obtain⟨k,hk,rfl,hkw⟩:=hrel;by_cases hlt:k<l.length
   ·have hki:(k:Int)<(l.length:Int):=by omega
    obtain⟨g,off,rfl,hbs,vs,hce,hvs⟩:=EL.out k _ (List.getElem?_eq_getElem hlt);clear EL CA;generalize l[k]=d at *;have hvs0:=hvs;obtain⟨aq,lq,ac,lc,rfl,_,_,_,_⟩:=hvs.form;have KF:=Lib.hid (fun W (kk:Bel w W)=>show W.cell? ⟨g,off+k*4,none⟩=some (.int .i64 d.w)/\W.cell? ⟨g,off+k*4+1,none⟩=some (.int .i64 d.r)/\W.cell? ⟨g,off+k*4+2,none⟩=some (.slice aq d.acts.length ac)/\W.cell? ⟨g,off+k*4+3,none⟩=some (.slice lq d.lacks.length lc)from⟨by have:=kk.some (hce 0 _ rfl);rwa [Nat.add_zero]at this,kk.some (hce 1 _ rfl),kk.some (hce 2 _ rfl),kk.some (hce 3 _ rfl)⟩);have CP2:=Lib.hid (fun W (kk:Bel w W)=>CP.out W kk d _ hvs0);have CQ2:=Lib.hid (fun W (kk:Bel w W)=>CQ.out W kk d _ hvs0);obtain⟨n1,n2,n3,nb,hR⟩ : ∃(n1 n2 n3:Int) (nb:Bool),actV (qct d num)=.tuple #[.agg #[.int .i64 n1,.int .i64 n2,.int .i64 n3],.bool nb]:=⟨_,_,_,_,rfl⟩;rw [hR]at CP2 CQ2;clear hR CP CQ hce hvs hvs0;obtain⟨e0,e1,e2,e3⟩:=KF.out wr hkw.out;have k0:=hkw.out
    go_upto_region 11 with(go_at_call 19;(with_reducible refine(CP2.out _ k0).mono ?_);rintro e w6 ⟨rfl,k6⟩;have k6:Bel w w6:=Bel.of k0 k6)
    generalize hWa:World.alloc w6 _=Wa;have TA:=Lib.hid (show ST w6 [] [⟨w6.heap.size,#[.int .i64 n1,.int .i64 n2,.int .i64 n3],38⟩] Wa from hWa ▸ (ST.start w6).addbox _ _);have ka:Bel w Wa:=Bel.of k6 TA.out.bel;generalize w6.heap.size=ga at TA ⊢;clear hWa k6 e0 e1 e2 e3 k0;obtain⟨e0,e1,e2,e3⟩:=KF.out Wa ka
    go_upto_region 12 with(go_at_call 20;(with_reducible refine(CQ2.out _ ka).mono ?_);rintro e w7 ⟨rfl,k7⟩;have k7:Bel Wa w7:=k7)
    generalize hWb:World.alloc w7 _=Wb;have TB:=Lib.hid (show ST w7 [] [⟨w7.heap.size,#[.int .i64 n1,.int .i64 n2,.int .i64 n3],38⟩] Wb from hWb ▸ (ST.start w7).addbox _ _);have kb:Bel Wa Wb:=Bel.of k7 TB.out.bel;have KE:=Lib.hid (Bel.of ka kb);generalize w7.heap.size=gb at TB ⊢;have x0:Wb.cell? ⟨ga,0,none⟩=some (.int .i64 n1):=(TA.out.belw kb).cell 0 rfl 0;have x1:Wb.cell? ⟨ga,1,none⟩=some (.int .i64 n2):=(TA.out.belw kb).cell 0 rfl 1;have x2:Wb.cell? ⟨ga,2,none⟩=some (.int .i64 n3):=(TA.out.belw kb).cell 0 rfl 2;have y0:Wb.cell? ⟨gb,0,none⟩=some (.int .i64 n1):=TB.out.cell 0 rfl 0;have y1:Wb.cell? ⟨gb,1,none⟩=some (.int .i64 n2):=TB.out.cell 0 rfl 1;have y2:Wb.cell? ⟨gb,2,none⟩=some (.int .i64 n3):=TB.out.cell 0 rfl 2;clear hWb k7 e0 e1 e2 e3 ka kb TA TB CP2 CQ2 KF hkw;go_wp2;go_roundw
    case rel=>exact⟨k+1,by omega,by go_num,KE⟩
    case measure=>simp [intOf];omega
   ·have hki : ¬(k:Int)<(l.length:Int):=by omega
    have H1:=CA.out wr hkw.out;clear CA EL CP CQ
    go_wp2_with (go_at_call 10;(with_reducible refine H1.mono ?_);rintro e w2 ⟨rfl,k2⟩)
    go_ret;exact⟨rfl,Bel.of hkw.out k2⟩
end
end Go.Proofs.YtgpjhibdongmbaaGreatDoor
