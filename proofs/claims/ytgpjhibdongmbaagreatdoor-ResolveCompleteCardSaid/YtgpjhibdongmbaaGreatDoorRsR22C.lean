import Derived.Test.YtgpjhibdongmbaaGreatDoorRsAw
set_option maxRecDepth 100000
set_option maxHeartbeats 4000000
set_option linter.unusedVariables false
set_option linter.unusedSimpArgs false
namespace Go.Proofs.YtgpjhibdongmbaaGreatDoor
section
open Go.RowKit Ck Rs
def smD (d:PAdapt):Bool:=decide (d.acts.length<=70) && decide (d.lacks.length<=70)
def qe1 (l:List PAdapt):Bool:=decide (l.length<=60) && l.all smD
theorem rf_Small (v:Value) (l:List PAdapt) (w:World) (hv:Sv 4 VAdapt w v l) :
  Calls Tryz.prog 14 #[v] w fun e' w'=>e'=.returned (.bool (qe1 l))/\Bel w w':=by
 obtain⟨q,c,rfl,hl,hcap,hel⟩:=hv;have EL:=Lib.hid hel;by_cases hz:l.length<=60
 ·have hzi : ¬(60:Int)<(l.length:Int):=by omega
  have hzb:decide (60<l.length)=false:=decide_eq_false (by omega);have V:=Lib.hid (show(l.drop 0).all smD=qe1 l by unfold qe1;rw [decide_eq_true hz];rfl);generalize qe1 l=T at V;clear hel
  go_enter Tryz.func14,Tryz.ntmps14
  go_wp2
  go_loopw [3] (fun i wr => ∃k:Nat,k<=l.length/\i=.int .i64 k/\Bel w wr/\Hid ((l.drop k).all smD=T)) (fun i _=>l.length-(intOf i).toNat)
  case atStart=>exact⟨0,by omega,rfl,Bel.refl _,V⟩
  case round=>as_aux_lemma=>
   clear V;obtain⟨k,hk,rfl,kw,hx⟩:=hrel;by_cases hlt:k<l.length
   ·have hg:l[k]? = some l[k]:=List.getElem?_eq_getElem hlt
    obtain⟨g,off,rfl,hbs,vs,hce,hvs⟩:=EL.out k _ hg;obtain⟨aq,lq,ac,lc,rfl,_,_,_,_⟩:=hvs.form;have hki:(k:Int)<(l.length:Int):=by omega
    have hk0:(0:Int)<=(k:Int):=by omega
    have hst:=hx.out;rw [List.drop_eq_getElem_cons hlt,List.all_cons]at hst;clear EL hx;generalize l[k]=x at *;have e2:=kw.some (hce 2 _ rfl);have e3:=kw.some (hce 3 _ rfl);clear hce hvs;by_cases h1:x.acts.length<=70
    ·have b1 : ¬(70:Int)<(x.acts.length:Int):=by omega
     have b1':decide (70<x.acts.length)=false:=decide_eq_false (by omega);by_cases h2:x.lacks.length<=70
     ·have b2 : ¬(70:Int)<(x.lacks.length:Int):=by omega
      have b2':decide (70<x.lacks.length)=false:=decide_eq_false (by omega);have HST:=Lib.hid (show(l.drop (k+1)).all smD=T by rw [←hst,show smD x=true by unfold smD;rw [decide_eq_true h1,decide_eq_true h2];rfl,Bool.true_and]);clear hst hg;go_wp2;go_roundw
      case rel=>exact⟨k+1,by omega,by go_num,kw,HST⟩
      case measure=>simp [intOf];omega
     ·have b2:(70:Int)<(x.lacks.length:Int):=by omega
      have b2':decide (70<x.lacks.length)=true:=decide_eq_true (by omega);have HST:=Lib.hid (show T=false by rw [←hst,show smD x=false by unfold smD;rw [decide_eq_false h2,Bool.and_false],Bool.false_and]);clear hst hg;go_wp2;go_ret;exact⟨by rw [HST.out];rfl,kw⟩
    ·have b1:(70:Int)<(x.acts.length:Int):=by omega
     have b1':decide (70<x.acts.length)=true:=decide_eq_true (by omega);have HST:=Lib.hid (show T=false by rw [←hst,show smD x=false by unfold smD;rw [decide_eq_false h1,Bool.false_and],Bool.false_and]);clear hst hg;go_wp2;go_ret;exact⟨by rw [HST.out];rfl,kw⟩
   ·have hki : ¬(k:Int)<(l.length:Int):=by omega
    have HST:=Lib.hid (show T=true by rw [←hx.out,List.drop_eq_nil_of_le (by omega)];rfl);clear hx;go_wp2;go_ret;exact⟨by rw [HST.out];rfl,kw⟩
 ·have hzi:(60:Int)<(l.length:Int):=by omega
  have hzb:decide (60<l.length)=true:=decide_eq_true (by omega);have HST:=Lib.hid (show qe1 l=false by unfold qe1;rw [decide_eq_false hz,Bool.false_and]);generalize qe1 l=T at HST;clear hel EL
  go_enter Tryz.func14,Tryz.ntmps14
  go_wp2;go_ret
  exact⟨by rw [HST.out];rfl,Bel.refl _⟩
end
section
open Go.RowKit Ck Rs
def qbj (l:List PProg) (nm:Str) (k:Nat):Value:=match (l.drop k).findIdx? fun g=>decide (g.name=nm)with|some i=>.tuple #[.int .i64 ((k+i:Nat):Int),.bool true]|none=>.tuple #[.int .i64 0,.bool false]
theorem qkw (p:PPlan) (nm:Str):qbj p.progs nm 0=qau p nm:=by
 unfold qbj qau qbg;rw [List.drop_zero];cases List.findIdx? (fun g=>decide (g.name=nm)) p.progs <;> simp
theorem qgp {l:List PProg} {nm:Str} {k:Nat} {x:PProg} (hx:l[k]? = some x) (h:x.name=nm):qbj l nm k=.tuple #[.int .i64 (k:Int),.bool true]:=by
 obtain⟨hk,rfl⟩:=List.getElem?_eq_some_iff.1 hx;unfold qbj;rw [List.drop_eq_getElem_cons hk,List.findIdx?_cons,decide_eq_true h];rfl
theorem qfx {l:List PProg} {nm:Str} {k:Nat} {x:PProg} (hx:l[k]? = some x) (h : ¬ x.name=nm):qbj l nm k=qbj l nm (k+1):=by
 obtain⟨hk,rfl⟩:=List.getElem?_eq_some_iff.1 hx;unfold qbj;rw [List.drop_eq_getElem_cons hk,List.findIdx?_cons,decide_eq_false h];cases List.findIdx? (fun g=>decide (g.name=nm)) (l.drop (k+1))with
 | none=>rfl
 | some i=>simp only [Option.map_some,Bool.false_eq_true,if_false];congr 5;omega
theorem qgq {l:List PProg} {nm:Str} {k:Nat} (h:l.length<=k):qbj l nm k=.tuple #[.int .i64 0,.bool false]:=by
 unfold qbj;rw [List.drop_eq_nil_of_le h];rfl
theorem qem (p:PPlan) (vs:List Value) (nm:Str) (w:World) (hv:VPlan w vs p) :
  Calls Tryz.prog 25 #[.agg vs.toArray,.string (S nm)] w fun e' w'=>e'=.returned (qau p nm)/\Bel w w':=by
 obtain⟨q1,q2,c1,c2,rfl,h1,h2,l1,l2⟩:=hv.form;have hS0:=(ST.start w).addbox #[.slice q1 p.progs.length c1,.slice q2 p.enums.length c2] 25;have HS:=Lib.hid hS0;rw [←qkw];generalize hT:qbj p.progs nm 0=T;have V:=Lib.hid hT;obtain⟨_,_,he,_,_,hel⟩:=h1;cases he;have EL:=Lib.hid hel;clear hv h2 hel hT hS0
 go_enter Tryz.func25,Tryz.ntmps25
 go_wp2
 go_loopw [6] (fun i wr => ∃k:Nat,k<=p.progs.length/\i=.int .i64 k/\Hid (ST w [] [⟨w.heap.size,#[.slice q1 p.progs.length c1,.slice q2 p.enums.length c2],25⟩] wr)/\Hid (qbj p.progs nm k=T)) (fun i _=>p.progs.length-(intOf i).toNat)
 case atStart=>exact⟨0,by omega,rfl,HS,V⟩
 case round=>as_aux_lemma=>
  clear V HS;obtain⟨k,hk,rfl,hS,hx⟩:=hrel;have f0:=hS.out.cell 0 rfl 0;dsimp only at f0;by_cases hlt:k<p.progs.length
  ·have hg:p.progs[k]? = some p.progs[k]:=List.getElem?_eq_getElem hlt
   obtain⟨g,off,rfl,hbs,vs,hce,hvs⟩:=EL.out k _ hg;obtain⟨oq,oc,rfl,_,_⟩:=hvs.form;have hki:(k:Int)<(p.progs.length:Int):=by omega
   have hk0:(0:Int)<=(k:Int):=by omega
   clear EL;generalize p.progs[k]=x at *;have e0:=hS.out.bel.some (hce 0 _ rfl);rw [Nat.add_zero]at e0;clear hce hvs;by_cases h1:x.name=nm
   ·have b1:((S x.name).toList == (S nm).toList)=true:=by rw [h1];simp
    have b2:(S x.name).toList=(S nm).toList:=by rw [h1]
    have HST:=Lib.hid (show T=.tuple #[.int .i64 (k:Int),.bool true]by rw [←hx.out,qgp hg h1]);clear h1 hx hg;go_wp2;go_ret2;exact⟨by rw [HST.out];rfl,hS.out.bel⟩
   ·have b2 : ¬(S x.name).toList=(S nm).toList:=by rw [ByteArray.toList_eq,ByteArray.toList_eq,qc2,qc2];exact h1
    have b1:((S x.name).toList == (S nm).toList)=false:=beq_eq_false_iff_ne.2 b2;have HST:=Lib.hid (show qbj p.progs nm (k+1)=T by rw [←hx.out,qfx hg h1]);clear h1 hx hg;go_wp2;go_roundw
    case rel=>exact⟨k+1,by omega,by go_num,hS,HST⟩
    case measure=>simp [intOf];omega
  ·have hki : ¬(k:Int)<(p.progs.length:Int):=by omega
   have HST:=Lib.hid (show T=.tuple #[.int .i64 0,.bool false]by rw [←hx.out,qgq (by omega)]);clear hx;go_wp2;go_ret2;exact⟨by rw [HST.out];rfl,hS.out.bel⟩
def qkd (l:List POp) (num:Int):Option POp:=l.find? fun o=>decide (o.num=num)
theorem qm8 {l:List POp} {num:Int} {k:Nat} {x:POp} (hx:l[k]? = some x):qkd (l.drop k) num=if x.num=num then some x else qkd (l.drop (k+1)) num:=by
 obtain⟨hk,rfl⟩:=List.getElem?_eq_some_iff.1 hx;unfold qkd;rw [List.drop_eq_getElem_cons hk,List.find?_cons];by_cases h:(l[k]).num=num
 ·rw [decide_eq_true h,if_pos h]
 ·rw [decide_eq_false h,if_neg h]
theorem rf_Op (g:PProg) (vs:List Value) (num:Int) (W:World) (hv:VProg W vs g) :
  Calls Tryz.prog 26 #[.agg vs.toArray,.int .i64 num] W (OpOut (opOf g num) W):=by
 obtain⟨oq,oc,rfl,h1,l1⟩:=hv.form;have hS0:=((ST.start W).addbox #[.string (S g.name),.slice oq g.ops.length oc,.int .i64 g.uns] 52).addbox (opV none).toArray 54;simp only [World.size_alloc]at hS0;have HS:=Lib.hid hS0;obtain⟨_,_,he,_,_,hel⟩:=h1;cases he;have EL:=Lib.hid hel;obtain⟨R,hR⟩ : ∃R,R=opOf g num:=⟨_,rfl⟩;have V:=Lib.hid (show qkd (g.ops.drop 0) num=R by rw [hR];rfl);rw [←hR];clear hv hel hS0 hR;unfold OpOut
 go_enter Tryz.func26,Tryz.ntmps26
 go_wp2
 go_loopw [6] (fun i wr => ∃k:Nat,k<=g.ops.length/\i=.int .i64 k/\Hid (ST W [] [⟨W.heap.size+1,(opV none).toArray,54⟩,⟨W.heap.size,#[.string (S g.name),.slice oq g.ops.length oc,.int .i64 g.uns],52⟩] wr)/\Hid (qkd (g.ops.drop k) num=R)) (fun i _=>g.ops.length-(intOf i).toNat)
 case atStart=>exact⟨0,by omega,rfl,HS,V⟩
 case round=>as_aux_lemma=>
  clear HS V;obtain⟨k,hk,rfl,hS,hx⟩:=hrel;have f1:=hS.out.cell 1 rfl 1;dsimp only at f1;by_cases hlt:k<g.ops.length
  ·have hg:g.ops[k]? = some g.ops[k]:=List.getElem?_eq_getElem hlt
   obtain⟨b,off,rfl,hbs,vs,hce,hvs⟩:=EL.out k _ hg;have hki:(k:Int)<(g.ops.length:Int):=by omega
   have hst:=hx.out;rw [qm8 hg]at hst;clear hx hg EL;generalize g.ops[k]=x at *;rw [show vs=opC x from hvs]at hce;have e0:=hS.out.bel.some (hce 0 _ rfl);rw [Nat.add_zero]at e0;have e1:=hS.out.bel.some (hce 1 _ rfl);have e2:=hS.out.bel.some (hce 2 _ rfl);have e3:=hS.out.bel.some (hce 3 _ rfl);have e4:=hS.out.bel.some (hce 4 _ rfl);have e5:=hS.out.bel.some (hce 5 _ rfl);have e6:=hS.out.bel.some (hce 6 _ rfl);have e7:=hS.out.bel.some (hce 7 _ rfl);clear hce hvs;by_cases hn:x.num=num
   ·have hb:(x.num == num)=true:=by rw [hn];simp
    rw [if_pos hn]at hst;have HST:=Lib.hid hst;clear hn hst;have HR:=Lib.hid (hS.out.box 0 rfl)
    go_wp2_with (refine qa6 rfl 54 _ _ rfl (W.heap.size+1) (opV (some x)).toArray (opV none).toArray 54 rfl rfl HR.out qg3 rfl (qd2 _) ?_)
    have TZ:=Lib.hid (hS.out.setrowbox 0 rfl (opV (some x)).toArray);refine bodyPost_ret (v:=.tuple #[.agg (opV (some x)).toArray,.bool true]) ?hres9 rfl ?hpost9
    case hres9=>exact qdk rfl rfl rfl (TZ.out.box 0 rfl) Tryz.underlying54 rfl (by kernel_rfl)
    case hpost9=>exact⟨by rw [←HST.out];rfl,TZ.out.bel⟩
   ·have hb:(x.num == num)=false:=beq_eq_false_iff_ne.2 hn
    rw [if_neg hn]at hst;have HST:=Lib.hid hst;clear hn hst;go_wp2;go_roundw
    case rel=>exact⟨k+1,by omega,by go_num,hS,HST⟩
    case measure=>simp [intOf];omega
  ·have hki : ¬(k:Int)<(g.ops.length:Int):=by omega
   have HST:=Lib.hid (show R=none by rw [←hx.out,List.drop_eq_nil_of_le (by omega)];rfl);have HR:=Lib.hid (hS.out.box 0 rfl);clear hx EL
   go_wp2_with (refine qa6 rfl 54 _ _ rfl (W.heap.size+1) (opV none).toArray (opV none).toArray 54 rfl rfl HR.out qg3 rfl (qd2 _) ?_)
   have TZ:=Lib.hid (hS.out.setrowbox 0 rfl (opV none).toArray);refine bodyPost_ret (v:=.tuple #[.agg (opV none).toArray,.bool false]) ?hres8 rfl ?hpost8
   case hres8=>exact qdk rfl rfl rfl (TZ.out.box 0 rfl) Tryz.underlying54 rfl (by kernel_rfl)
   case hpost8=>exact⟨by rw [HST.out];rfl,TZ.out.bel⟩
end
section
open Go.RowKit Ck Rs
theorem qlu (p:PPlan) (vs:List Value) (w:World) (hv:VPlan w vs p) (hs:SmallP p) :
  Calls Tryz.prog 48 #[.agg vs.toArray] w fun e' w'=>e'=.returned (.bool (qe4 p))/\Bel w w':=by
 obtain⟨q1,q2,c1,c2,rfl,h1,h2,l1,l2⟩:=hv.form;have hS0:=(ST.start w).addbox #[.slice q1 p.progs.length c1,.slice q2 p.enums.length c2] 25;have HS:=Lib.hid hS0;obtain⟨_,_,he,_,_,hel⟩:=h1;cases he;have EG:=Lib.hid hel;obtain⟨_,_,he,_,_,hel2⟩:=h2;cases he;have EE:=Lib.hid hel2;have HSM:=Lib.hid hs;have V:=Lib.hid (show(true && ((p.progs.drop 0).all limG && p.enums.all limE))=qe4 p by unfold qe4;rw [decide_eq_true (show p.progs.length<=64/\p.enums.length<=64 from⟨by have:=hs.np;omega,by have:=hs.ne;omega⟩)];rfl);have z1:p.progs.length<=64:=by have:=hs.np;omega
 have z2:p.enums.length<=64:=by have:=hs.ne;omega
 have z3:(p.progs.length:Int)<=64:=by omega
 have z4:(p.enums.length:Int)<=64:=by omega
 have z5:decide (p.progs.length<=64)=true:=decide_eq_true z1;have z6:decide (p.enums.length<=64)=true:=decide_eq_true z2;generalize qe4 p=T at V;clear hv hel hel2 hS0 hs
 go_enter Tryz.func48,Tryz.ntmps48
 go_upto_region 3 with(fail)
 clear z1 z2 z3 z4 z5 z6
 go_loopw [3,4] (fun b i wr => ∃(k:Nat) (B:Bool),k<=p.progs.length/\b=.bool B/\i=.int .i64 k/\Hid (ST w [] [⟨w.heap.size,#[.slice q1 p.progs.length c1,.slice q2 p.enums.length c2],25⟩] wr)/\Hid ((B && ((p.progs.drop k).all limG && p.enums.all limE))=T)) (fun _ i _=>p.progs.length-(intOf i).toNat)
 case atStart=>exact⟨0,true,by omega,rfl,rfl,HS,V⟩
 case round=>as_aux_lemma=>
  clear V HS;obtain⟨k,B,hk,rfl,rfl,hS,hx⟩:=hrel;have f0:=hS.out.cell 0 rfl 0;dsimp only at f0;by_cases hlt:k<p.progs.length
  ·have hki:(k:Int)<(p.progs.length:Int):=by omega
   have hk0:(0:Int)<=(k:Int):=by omega
   cases B with
   | false=>
    have HST:=Lib.hid (show(false && ((p.progs.drop (k+1)).all limG && p.enums.all limE))=T from hx.out);clear hx EG EE;go_wp2;go_roundw
    case rel=>exact⟨k+1,false,by omega,rfl,by go_num,hS,HST⟩
    case measure=>simp [intOf];omega
   | true=>
    have hg:p.progs[k]? = some p.progs[k]:=List.getElem?_eq_getElem hlt;obtain⟨gb,off,rfl,hbs,vs,hce,hvs⟩:=EG.out k _ hg;obtain⟨oq,oc,rfl,_,_⟩:=hvs.form;have hst:=hx.out;rw [List.drop_eq_getElem_cons hlt,List.all_cons,Bool.true_and,Bool.and_assoc]at hst;clear EG EE hx;generalize p.progs[k]=x at *;have e1:=hS.out.bel.some (hce 1 _ rfl);clear hce hvs;by_cases h1:x.ops.length<=64
    ·have b1:(x.ops.length:Int)<=64:=by omega
     have b2:decide (x.ops.length<=64)=true:=decide_eq_true h1;have HST:=Lib.hid (show(true && ((p.progs.drop (k+1)).all limG && p.enums.all limE))=T by rw [←hst,show limG x=true from b2]);clear hst hg;go_wp2;go_roundw
     case rel=>exact⟨k+1,true,by omega,rfl,by go_num,hS,HST⟩
     case measure=>simp [intOf];omega
    ·have b1 : ¬(x.ops.length:Int)<=64:=by omega
     have b2:decide (x.ops.length<=64)=false:=decide_eq_false h1;have HST:=Lib.hid (show(false && ((p.progs.drop (k+1)).all limG && p.enums.all limE))=T by rw [←hst,show limG x=false from b2]);clear hst hg;go_wp2;go_roundw
     case rel=>exact⟨k+1,false,by omega,rfl,by go_num,hS,HST⟩
     case measure=>simp [intOf];omega
  ·have hki : ¬(k:Int)<(p.progs.length:Int):=by omega
   have HX:=Lib.hid (show(B && (p.enums.drop 0).all limE)=T by rw [←hx.out,show p.progs.drop k=[]from List.drop_eq_nil_of_le (by omega)];rfl);clear hx EG
   go_upto_region 7 with(fail)
   clear f0 hlt hki hk
   go_loopw [3,5] (fun b i wr => ∃(k:Nat) (B:Bool),k<=p.enums.length/\b=.bool B/\i=.int .i64 k/\Hid (ST w [] [⟨w.heap.size,#[.slice q1 p.progs.length c1,.slice q2 p.enums.length c2],25⟩] wr)/\Hid ((B && (p.enums.drop k).all limE)=T)) (fun _ i _=>p.enums.length-(intOf i).toNat)
   case atStart=>exact⟨0,B,by omega,rfl,rfl,hS,HX⟩
   case round=>as_aux_lemma=>
    clear hS HX;obtain⟨k,B,hk,rfl,rfl,hS,hx⟩:=hrel;have f1:=hS.out.cell 0 rfl 1;dsimp only at f1;by_cases hlt:k<p.enums.length
    ·have hki:(k:Int)<(p.enums.length:Int):=by omega
     have hk0:(0:Int)<=(k:Int):=by omega
     have hg:p.enums[k]? = some p.enums[k]:=List.getElem?_eq_getElem hlt;obtain⟨gb,off,rfl,hbs,vs,hce,hvs⟩:=EE.out k _ hg;obtain⟨r1,r2,r3,d1,d2,d3,rfl,_⟩:=hvs.form;have hst:=hx.out;rw [List.drop_eq_getElem_cons hlt,List.all_cons]at hst;clear EE hx;generalize p.enums[k]=x at *;have e2:=hS.out.bel.some (hce 2 _ rfl);have e3:=hS.out.bel.some (hce 3 _ rfl);clear hce hvs hg;cases B with
     | false=>
      have HST:=Lib.hid (show(false && (p.enums.drop (k+1)).all limE)=T from hst);clear hst;go_wp2;go_roundw
      case rel=>exact⟨k+1,false,by omega,rfl,by go_num,hS,HST⟩
      case measure=>simp [intOf];omega
     | true=>
      rw [Bool.true_and]at hst;by_cases h1:1<=x.items.length
      ·have a1:(1:Int)<=(x.items.length:Int):=by omega
       have a2:decide (1<=x.items.length)=true:=decide_eq_true h1;by_cases h2:x.items.length<=64
       ·have a3:(x.items.length:Int)<=64:=by omega
        have a4:decide (x.items.length<=64)=true:=decide_eq_true h2;by_cases h3:x.res.length<=16
        ·have a5:(x.res.length:Int)<=16:=by omega
         have a6:decide (x.res.length<=16)=true:=decide_eq_true h3;have HST:=Lib.hid (show(true && (p.enums.drop (k+1)).all limE)=T by rw [←hst,show limE x=true from decide_eq_true ⟨h1,h2,h3⟩]);clear hst;go_wp2;go_roundw
         case rel=>exact⟨k+1,true,by omega,rfl,by go_num,hS,HST⟩
         case measure=>simp [intOf];omega
        ·have a5 : ¬(x.res.length:Int)<=16:=by omega
         have a6:decide (x.res.length<=16)=false:=decide_eq_false h3;have HST:=Lib.hid (show(false && (p.enums.drop (k+1)).all limE)=T by rw [←hst,show limE x=false from decide_eq_false (fun h=>h3 h.2.2)]);clear hst;go_wp2;go_roundw
         case rel=>exact⟨k+1,false,by omega,rfl,by go_num,hS,HST⟩
         case measure=>simp [intOf];omega
       ·have a3 : ¬(x.items.length:Int)<=64:=by omega
        have a4:decide (x.items.length<=64)=false:=decide_eq_false h2;have HST:=Lib.hid (show(false && (p.enums.drop (k+1)).all limE)=T by rw [←hst,show limE x=false from decide_eq_false (fun h=>h2 h.2.1)]);clear hst;go_wp2;go_roundw
        case rel=>exact⟨k+1,false,by omega,rfl,by go_num,hS,HST⟩
        case measure=>simp [intOf];omega
      ·have a1 : ¬(1:Int)<=(x.items.length:Int):=by omega
       have a2:decide (1<=x.items.length)=false:=decide_eq_false h1;have HST:=Lib.hid (show(false && (p.enums.drop (k+1)).all limE)=T by rw [←hst,show limE x=false from decide_eq_false (fun h=>h1 h.1)]);clear hst;go_wp2;go_roundw
       case rel=>exact⟨k+1,false,by omega,rfl,by go_num,hS,HST⟩
       case measure=>simp [intOf];omega
    ·have hki : ¬(k:Int)<(p.enums.length:Int):=by omega
     have HST:=Lib.hid (show B=T by rw [←hx.out,List.drop_eq_nil_of_le (by omega)];simp);clear hx EE;go_wp2;go_ret;exact⟨by rw [←HST.out];rfl,hS.out.bel⟩
end
section
open Go.RowKit Ck Rs
theorem rf_names (p:PPlan) (vs:List Value) (w:World) (hv:VPlan w vs p) (hs:SmallP p) :
  Calls Tryz.prog 49 #[.agg vs.toArray] w fun e' w'=>e'=.returned (.bool (names p))/\Bel w w':=by
 obtain⟨q1,q2,c1,c2,rfl,h1,h2,l1,l2⟩:=hv.form;have hS0:=(ST.start w).addbox #[.slice q1 p.progs.length c1,.slice q2 p.enums.length c2] 25;have HS:=Lib.hid hS0;obtain⟨_,_,he,_,_,hel⟩:=h1;cases he;have EG:=Lib.hid hel;obtain⟨_,_,he,_,_,hel2⟩:=h2;cases he;have EE:=Lib.hid hel2;have HSM:=Lib.hid hs;have V:=Lib.hid (show(true && ((p.progs.drop 0).all namG && p.enums.all namE))=names p from rfl);generalize names p=T at V;clear hv hel hel2 hS0 hs
 go_enter Tryz.func49,Tryz.ntmps49
 go_upto_region 3 with(fail)
 go_loopw [3,4] (fun b i wr => ∃(k:Nat) (B:Bool),k<=p.progs.length/\b=.bool B/\i=.int .i64 k/\Hid (ST w [] [⟨w.heap.size,#[.slice q1 p.progs.length c1,.slice q2 p.enums.length c2],25⟩] wr)/\Hid ((B && ((p.progs.drop k).all namG && p.enums.all namE))=T)) (fun _ i _=>p.progs.length-(intOf i).toNat)
 case atStart=>exact⟨0,true,by omega,rfl,rfl,HS,V⟩
 case round=>as_aux_lemma=>
  clear V HS;obtain⟨k,B,hk,rfl,rfl,hS,hx⟩:=hrel;have f0:=hS.out.cell 0 rfl 0;dsimp only at f0;by_cases hlt:k<p.progs.length
  ·have hki:(k:Int)<(p.progs.length:Int):=by omega
   have hk0:(0:Int)<=(k:Int):=by omega
   have hg:p.progs[k]? = some p.progs[k]:=List.getElem?_eq_getElem hlt;have hm:=List.getElem_mem hlt;obtain⟨gb,off,rfl,hbs,vs,hce,hvs⟩:=EG.out k _ hg;have hst:=hx.out;rw [List.drop_eq_getElem_cons hlt,List.all_cons]at hst;have CD:=Lib.hid (fun W=>qfm _ W (Nat.le_trans (HSM.out.pr _ hm).nm (by decide)));obtain⟨oq,oc,rfl,hso,_⟩:=hvs.form;obtain⟨_,_,he,_,_,hei⟩:=hso;cases he;have EI:=Lib.hid hei;have BI:=Lib.hid (HSM.out.pr _ hm).op;clear hei hvs hm HSM;obtain⟨Q,hQ⟩ : ∃Q,Q=((p.progs.drop (k+1)).all namG && p.enums.all namE):=⟨_,rfl⟩;have HQ:=Lib.hid hQ;clear hx EG EE;generalize p.progs[k]=x at *;have e0:=hS.out.bel.some (hce 0 _ rfl);rw [Nat.add_zero]at e0;have EC:=Lib.hid (hce 1 _ rfl);have e1:=hS.out.bel.some EC.out;cases B with
   | false=>
    have HX:=Lib.hid (show((false && (x.ops.drop 0).all (fun z=>qa5 z.name)) && Q)=T from hst);clear hst hg hce CD
    go_upto_region 7 with(fail)
    clear f0 e0 e1
    go_loopw [3,5] (fun b i wr => ∃(j:Nat) (B:Bool),j<=x.ops.length/\b=.bool B/\i=.int .i64 j/\Hid (ST w [] [⟨w.heap.size,#[.slice (some ⟨gb,off,none⟩) p.progs.length c1,.slice q2 p.enums.length c2],25⟩] wr)/\Hid (((B && (x.ops.drop j).all (fun z=>qa5 z.name)) && Q)=T)) (fun _ i _=>x.ops.length-(intOf i).toNat)
    case atStart=>exact⟨0,false,by omega,rfl,rfl,hS,HX⟩
    case round=>as_aux_lemma=>
     clear hS HX;obtain⟨j,B,hj,rfl,rfl,hS,hx⟩:=hrel;have f0:=hS.out.cell 0 rfl 0;dsimp only at f0;have e:=hS.out.bel.some EC.out;by_cases hlt2:j<x.ops.length
     ·have hji:(j:Int)<(x.ops.length:Int):=by omega
      have hj0:(0:Int)<=(j:Int):=by omega
      cases B with
      | false=>
       have HST:=Lib.hid (show((false && (x.ops.drop (j+1)).all (fun z=>qa5 z.name)) && Q)=T from hx.out);clear hx;go_wp2;go_roundw
       case rel=>exact⟨j+1,false,by omega,rfl,by go_num,hS,HST⟩
       case measure=>simp [intOf];omega
      | true=>
       have hg2:x.ops[j]? = some x.ops[j]:=List.getElem?_eq_getElem hlt2;obtain⟨gb2,off2,hq2,hbs2,vs2,hce2,hvs2⟩:=EI.out j _ hg2;subst hq2;have CS:=Lib.hid (fun W=>qd8 x.ops[j].name W (Nat.le_trans (BI.out _ (List.getElem_mem hlt2)).1 (by decide)));have hst:=hx.out;rw [List.drop_eq_getElem_cons hlt2,List.all_cons,Bool.true_and]at hst;clear hx EI;generalize x.ops[j]=y at *;have hvs3:vs2=opC y:=hvs2;subst hvs3;have y0:=hS.out.bel.some (hce2 1 _ rfl);clear hce2;have HST:=Lib.hid (show((qa5 y.name && (x.ops.drop (j+1)).all (fun z=>qa5 z.name)) && Q)=T from hst);clear hst hg2;generalize qa5 y.name=D at CS HST
       go_wp2_with (go_at_call 78;(with_reducible refine(CS.out _).mono ?_);rintro e' w5 ⟨rfl,k5⟩;have k5:Bel _ w5:=k5;have hS5:=Lib.hid (hS.out.belw k5);clear k5)
       go_roundw
       case rel=>exact⟨j+1,D,by omega,rfl,by go_num,hS5,HST⟩
       case measure=>simp [intOf];omega
     ·have hji : ¬(j:Int)<(x.ops.length:Int):=by omega
      have HST:=Lib.hid (show(B && Q)=T by rw [←hx.out,show x.ops.drop j=[]from List.drop_eq_nil_of_le (by omega)];simp);clear hx EI;rw [HQ.out]at HST;go_wp2;go_roundw
      case rel=>exact⟨k+1,B,by omega,rfl,by go_num,hS,HST⟩
      case measure=>simp [intOf];omega
   | true=>
    have HX:=Lib.hid (show((qah x.name && (x.ops.drop 0).all (fun z=>qa5 z.name)) && Q)=T by rw [←hst,hQ];simp only [Bool.true_and,namG,List.drop_zero,Bool.and_assoc]);clear hst hg hce;generalize qah x.name=D at CD HX
    go_upto_region 7 with(go_at_call 77;(with_reducible refine(CD.out _).mono ?_);rintro e' w5 ⟨rfl,k5⟩;have k5:Bel _ w5:=k5)
    have hS:=Lib.hid (hS.out.belw k5);clear f0 e0 e1 CD k5
    go_loopw [3,5] (fun b i wr => ∃(j:Nat) (B:Bool),j<=x.ops.length/\b=.bool B/\i=.int .i64 j/\Hid (ST w [] [⟨w.heap.size,#[.slice (some ⟨gb,off,none⟩) p.progs.length c1,.slice q2 p.enums.length c2],25⟩] wr)/\Hid (((B && (x.ops.drop j).all (fun z=>qa5 z.name)) && Q)=T)) (fun _ i _=>x.ops.length-(intOf i).toNat)
    case atStart=>exact⟨0,D,by omega,rfl,rfl,hS,HX⟩
    case round=>as_aux_lemma=>
     clear hS HX;obtain⟨j,B,hj,rfl,rfl,hS,hx⟩:=hrel;have f0:=hS.out.cell 0 rfl 0;dsimp only at f0;have e:=hS.out.bel.some EC.out;by_cases hlt2:j<x.ops.length
     ·have hji:(j:Int)<(x.ops.length:Int):=by omega
      have hj0:(0:Int)<=(j:Int):=by omega
      cases B with
      | false=>
       have HST:=Lib.hid (show((false && (x.ops.drop (j+1)).all (fun z=>qa5 z.name)) && Q)=T from hx.out);clear hx;go_wp2;go_roundw
       case rel=>exact⟨j+1,false,by omega,rfl,by go_num,hS,HST⟩
       case measure=>simp [intOf];omega
      | true=>
       have hg2:x.ops[j]? = some x.ops[j]:=List.getElem?_eq_getElem hlt2;obtain⟨gb2,off2,hq2,hbs2,vs2,hce2,hvs2⟩:=EI.out j _ hg2;subst hq2;have CS:=Lib.hid (fun W=>qd8 x.ops[j].name W (Nat.le_trans (BI.out _ (List.getElem_mem hlt2)).1 (by decide)));have hst:=hx.out;rw [List.drop_eq_getElem_cons hlt2,List.all_cons,Bool.true_and]at hst;clear hx EI;generalize x.ops[j]=y at *;have hvs3:vs2=opC y:=hvs2;subst hvs3;have y0:=hS.out.bel.some (hce2 1 _ rfl);clear hce2;have HST:=Lib.hid (show((qa5 y.name && (x.ops.drop (j+1)).all (fun z=>qa5 z.name)) && Q)=T from hst);clear hst hg2;generalize qa5 y.name=D at CS HST
       go_wp2_with (go_at_call 78;(with_reducible refine(CS.out _).mono ?_);rintro e' w5 ⟨rfl,k5⟩;have k5:Bel _ w5:=k5;have hS5:=Lib.hid (hS.out.belw k5);clear k5)
       go_roundw
       case rel=>exact⟨j+1,D,by omega,rfl,by go_num,hS5,HST⟩
       case measure=>simp [intOf];omega
     ·have hji : ¬(j:Int)<(x.ops.length:Int):=by omega
      have HST:=Lib.hid (show(B && Q)=T by rw [←hx.out,show x.ops.drop j=[]from List.drop_eq_nil_of_le (by omega)];simp);clear hx EI;rw [HQ.out]at HST;go_wp2;go_roundw
      case rel=>exact⟨k+1,B,by omega,rfl,by go_num,hS,HST⟩
      case measure=>simp [intOf];omega
  ·have hki : ¬(k:Int)<(p.progs.length:Int):=by omega
   have HX:=Lib.hid (show(B && ((p.enums.drop 0).all namE))=T by rw [←hx.out,show p.progs.drop k=[]from List.drop_eq_nil_of_le (by omega)];rfl);clear hx EG
   go_upto_region 11 with(fail)
   clear f0 hlt hki hk
   go_loopw [3,6] (fun b i wr => ∃(k:Nat) (B:Bool),k<=p.enums.length/\b=.bool B/\i=.int .i64 k/\Hid (ST w [] [⟨w.heap.size,#[.slice q1 p.progs.length c1,.slice q2 p.enums.length c2],25⟩] wr)/\Hid ((B && ((p.enums.drop k).all namE))=T)) (fun _ i _=>p.enums.length-(intOf i).toNat)
   case atStart=>exact⟨0,B,by omega,rfl,rfl,hS,HX⟩
   case round=>as_aux_lemma=>
    clear hS HX;obtain⟨k,B,hk,rfl,rfl,hS,hx⟩:=hrel;have f1:=hS.out.cell 0 rfl 1;dsimp only at f1;by_cases hlt:k<p.enums.length
    ·have hki:(k:Int)<(p.enums.length:Int):=by omega
     have hk0:(0:Int)<=(k:Int):=by omega
     have hg:p.enums[k]? = some p.enums[k]:=List.getElem?_eq_getElem hlt;have hm:=List.getElem_mem hlt;obtain⟨gb,off,rfl,hbs,vs,hce,hvs⟩:=EE.out k _ hg;have hst:=hx.out;rw [List.drop_eq_getElem_cons hlt,List.all_cons]at hst;have CD:=Lib.hid (fun W=>qfm _ W (Nat.le_trans (HSM.out.en _ hm).nm (by decide)));obtain⟨r1,r2,r3,d1,d2,d3,rfl,hsi,_⟩:=hvs.form;obtain⟨_,_,he,_,_,hei⟩:=hsi;cases he;have EI:=Lib.hid hei;have BI:=Lib.hid (HSM.out.en _ hm).item;clear hei hvs hm HSM;obtain⟨Q,hQ⟩ : ∃Q,Q=((p.enums.drop (k+1)).all namE):=⟨_,rfl⟩;have HQ:=Lib.hid hQ;clear hx EE;generalize p.enums[k]=x at *;have e0:=hS.out.bel.some (hce 0 _ rfl);rw [Nat.add_zero]at e0;have EC:=Lib.hid (hce 2 _ rfl);have e1:=hS.out.bel.some EC.out;cases B with
     | false=>
      have HX:=Lib.hid (show((false && (x.items.drop 0).all (fun z=>qa5 z.name)) && Q)=T from hst);clear hst hg hce CD
      go_upto_region 15 with(fail)
      clear f1 e0 e1
      go_loopw [3,7] (fun b i wr => ∃(j:Nat) (B:Bool),j<=x.items.length/\b=.bool B/\i=.int .i64 j/\Hid (ST w [] [⟨w.heap.size,#[.slice q1 p.progs.length c1,.slice (some ⟨gb,off,none⟩) p.enums.length c2],25⟩] wr)/\Hid (((B && (x.items.drop j).all (fun z=>qa5 z.name)) && Q)=T)) (fun _ i _=>x.items.length-(intOf i).toNat)
      case atStart=>exact⟨0,false,by omega,rfl,rfl,hS,HX⟩
      case round=>as_aux_lemma=>
       clear hS HX;obtain⟨j,B,hj,rfl,rfl,hS,hx⟩:=hrel;have f1:=hS.out.cell 0 rfl 1;dsimp only at f1;have e:=hS.out.bel.some EC.out;by_cases hlt2:j<x.items.length
       ·have hji:(j:Int)<(x.items.length:Int):=by omega
        have hj0:(0:Int)<=(j:Int):=by omega
        cases B with
        | false=>
         have HST:=Lib.hid (show((false && (x.items.drop (j+1)).all (fun z=>qa5 z.name)) && Q)=T from hx.out);clear hx;go_wp2;go_roundw
         case rel=>exact⟨j+1,false,by omega,rfl,by go_num,hS,HST⟩
         case measure=>simp [intOf];omega
        | true=>
         have hg2:x.items[j]? = some x.items[j]:=List.getElem?_eq_getElem hlt2;obtain⟨gb2,off2,hq2,hbs2,vs2,hce2,hvs2⟩:=EI.out j _ hg2;subst hq2;have CS:=Lib.hid (fun W=>qd8 x.items[j].name W (Nat.le_trans (BI.out _ (List.getElem_mem hlt2)).1 (by decide)));have hst:=hx.out;rw [List.drop_eq_getElem_cons hlt2,List.all_cons,Bool.true_and]at hst;clear hx EI;generalize x.items[j]=y at *;obtain⟨nv,hvs3,_⟩:=hvs2;subst hvs3;have y0:=hS.out.bel.some (hce2 0 _ rfl);rw [Nat.add_zero]at y0;clear hce2;have HST:=Lib.hid (show((qa5 y.name && (x.items.drop (j+1)).all (fun z=>qa5 z.name)) && Q)=T from hst);clear hst hg2;generalize qa5 y.name=D at CS HST
         go_wp2_with (go_at_call 78;(with_reducible refine(CS.out _).mono ?_);rintro e' w5 ⟨rfl,k5⟩;have k5:Bel _ w5:=k5;have hS5:=Lib.hid (hS.out.belw k5);clear k5)
         go_roundw
         case rel=>exact⟨j+1,D,by omega,rfl,by go_num,hS5,HST⟩
         case measure=>simp [intOf];omega
       ·have hji : ¬(j:Int)<(x.items.length:Int):=by omega
        have HST:=Lib.hid (show(B && Q)=T by rw [←hx.out,show x.items.drop j=[]from List.drop_eq_nil_of_le (by omega)];simp);clear hx EI;rw [HQ.out]at HST;go_wp2;go_roundw
        case rel=>exact⟨k+1,B,by omega,rfl,by go_num,hS,HST⟩
        case measure=>simp [intOf];omega
     | true=>
      have HX:=Lib.hid (show((qah x.name && (x.items.drop 0).all (fun z=>qa5 z.name)) && Q)=T by rw [←hst,hQ];simp only [Bool.true_and,namE,List.drop_zero,Bool.and_assoc]);clear hst hg hce;generalize qah x.name=D at CD HX
      go_upto_region 15 with(go_at_call 77;(with_reducible refine(CD.out _).mono ?_);rintro e' w5 ⟨rfl,k5⟩;have k5:Bel _ w5:=k5)
      have hS:=Lib.hid (hS.out.belw k5);clear f1 e0 e1 CD k5
      go_loopw [3,7] (fun b i wr => ∃(j:Nat) (B:Bool),j<=x.items.length/\b=.bool B/\i=.int .i64 j/\Hid (ST w [] [⟨w.heap.size,#[.slice q1 p.progs.length c1,.slice (some ⟨gb,off,none⟩) p.enums.length c2],25⟩] wr)/\Hid (((B && (x.items.drop j).all (fun z=>qa5 z.name)) && Q)=T)) (fun _ i _=>x.items.length-(intOf i).toNat)
      case atStart=>exact⟨0,D,by omega,rfl,rfl,hS,HX⟩
      case round=>as_aux_lemma=>
       clear hS HX;obtain⟨j,B,hj,rfl,rfl,hS,hx⟩:=hrel;have f1:=hS.out.cell 0 rfl 1;dsimp only at f1;have e:=hS.out.bel.some EC.out;by_cases hlt2:j<x.items.length
       ·have hji:(j:Int)<(x.items.length:Int):=by omega
        have hj0:(0:Int)<=(j:Int):=by omega
        cases B with
        | false=>
         have HST:=Lib.hid (show((false && (x.items.drop (j+1)).all (fun z=>qa5 z.name)) && Q)=T from hx.out);clear hx;go_wp2;go_roundw
         case rel=>exact⟨j+1,false,by omega,rfl,by go_num,hS,HST⟩
         case measure=>simp [intOf];omega
        | true=>
         have hg2:x.items[j]? = some x.items[j]:=List.getElem?_eq_getElem hlt2;obtain⟨gb2,off2,hq2,hbs2,vs2,hce2,hvs2⟩:=EI.out j _ hg2;subst hq2;have CS:=Lib.hid (fun W=>qd8 x.items[j].name W (Nat.le_trans (BI.out _ (List.getElem_mem hlt2)).1 (by decide)));have hst:=hx.out;rw [List.drop_eq_getElem_cons hlt2,List.all_cons,Bool.true_and]at hst;clear hx EI;generalize x.items[j]=y at *;obtain⟨nv,hvs3,_⟩:=hvs2;subst hvs3;have y0:=hS.out.bel.some (hce2 0 _ rfl);rw [Nat.add_zero]at y0;clear hce2;have HST:=Lib.hid (show((qa5 y.name && (x.items.drop (j+1)).all (fun z=>qa5 z.name)) && Q)=T from hst);clear hst hg2;generalize qa5 y.name=D at CS HST
         go_wp2_with (go_at_call 78;(with_reducible refine(CS.out _).mono ?_);rintro e' w5 ⟨rfl,k5⟩;have k5:Bel _ w5:=k5;have hS5:=Lib.hid (hS.out.belw k5);clear k5)
         go_roundw
         case rel=>exact⟨j+1,D,by omega,rfl,by go_num,hS5,HST⟩
         case measure=>simp [intOf];omega
       ·have hji : ¬(j:Int)<(x.items.length:Int):=by omega
        have HST:=Lib.hid (show(B && Q)=T by rw [←hx.out,show x.items.drop j=[]from List.drop_eq_nil_of_le (by omega)];simp);clear hx EI;rw [HQ.out]at HST;go_wp2;go_roundw
        case rel=>exact⟨k+1,B,by omega,rfl,by go_num,hS,HST⟩
        case measure=>simp [intOf];omega
    ·have hki : ¬(k:Int)<(p.enums.length:Int):=by omega
     have HST:=Lib.hid (show B=T by rw [←hx.out,List.drop_eq_nil_of_le (by omega)];simp);clear hx EE;go_wp2;go_ret;exact⟨by rw [←HST.out];rfl,hS.out.bel⟩
end
end Go.Proofs.YtgpjhibdongmbaaGreatDoor
