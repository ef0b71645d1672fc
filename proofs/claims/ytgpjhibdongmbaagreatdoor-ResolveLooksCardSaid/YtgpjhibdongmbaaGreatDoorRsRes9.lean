import Derived.Test.YtgpjhibdongmbaaGreatDoorRsChk
set_option maxRecDepth 100000
set_option maxHeartbeats 4000000
set_option linter.unusedVariables false
set_option linter.unusedSimpArgs false
namespace Go.Proofs.YtgpjhibdongmbaaGreatDoor
open Go.RowKit Ck Rs
theorem VAdapt.form {w:World} {vs:List Value} {d:PAdapt} (h:VAdapt w vs d) : ∃(aq lq:Option Addr) (ac lc:Nat),vs=[.int .i64 d.w,.int .i64 d.r,.slice aq d.acts.length ac,.slice lq d.lacks.length lc]/\Sv 3 VAct w (.slice aq d.acts.length ac) d.acts/\Sv 1 VInt w (.slice lq d.lacks.length lc) d.lacks/\d.acts.length<=140737488355328/\d.lacks.length<=140737488355328:=by
 obtain⟨av,lv,rfl,h1,h2⟩:=h;obtain⟨aq,ac,rfl,l1⟩:=qax h1;obtain⟨lq,lc,rfl,l2⟩:=qax h2;exact⟨aq,lq,ac,lc,rfl,h1,h2,l1,l2⟩
theorem cl_Ex2 (x:PAct) (vs:List Value) (W:World) (hv:VAct W vs x) :
  Calls Tryz.prog 37 #[.agg vs.toArray] W fun e' w'=>e'=.returned (.bool (!decide (x.kind=2)))/\Bel W w':=by
 obtain rfl:vs=[.int .i64 x.num,.int .i64 x.kind,.int .i64 x.sub]:=hv;have V:=Lib.hid (show(x.kind != 2) = !decide (x.kind=2)from rfl)
 go_enter Tryz.func37,Tryz.ntmps37
 go_wp2;go_ret
 exact⟨qa3 V.out,(Bel.refl _).alloc _⟩
theorem cl_Ex1 (d:PAdapt) (vs:List Value) (W:World) (hv:VAdapt W vs d) :
  Calls Tryz.prog 35 #[.agg vs.toArray] W fun e' w'=>e'=.returned (.bool (!(decide (d.lacks.length=0) && d.acts.all fun x=>decide (x.kind=2))))/\Bel W w':=by
 obtain⟨aq,lq,ac,lc,rfl,h1,h2,l1,l2⟩:=hv.form;have hS0:=(Bel.refl W).alloc (.cells #[.int .i64 d.w,.int .i64 d.r,.slice aq d.acts.length ac,.slice lq d.lacks.length lc] 44);have C0:=fun W' (k:Bel (W.alloc (.cells #[.int .i64 d.w,.int .i64 d.r,.slice aq d.acts.length ac,.slice lq d.lacks.length lc] 44)) W')=>qjm VAct VAct.len 37 #[] (enters_of Tryz.func37 (by kernel_rfl) rfl) (.slice aq d.acts.length ac) d.acts (fun x => !decide (x.kind=2)) W' (h1.bel VAct.stays (Bel.of hS0 k)) (fun x vs' W2 hx hv' hb=>cl_Ex2 x vs' W2 hv')
 simp only [qg9]at C0;have C:=Lib.hid C0;have V:=Lib.hid (show(!(decide (d.lacks.length=0) && d.acts.all fun x=>decide (x.kind=2)))=(decide (0<d.lacks.length) || !(d.acts.all fun x=>decide (x.kind=2)))by rw [Bool.not_and];congr 1;rw [Bool.eq_iff_iff,Bool.not_eq_true',decide_eq_false_iff_not,decide_eq_true_eq];omega);generalize (!(decide (d.lacks.length=0) && d.acts.all fun x=>decide (x.kind=2)))=R at V;generalize (!(d.acts.all fun x=>decide (x.kind=2)))=Q at C V;clear hv h1 h2 C0;by_cases hz:0<d.lacks.length
 ·have hz2:(0:Int)<(d.lacks.length:Int):=by omega
  go_enter Tryz.func35,Tryz.ntmps35
  go_wp2;go_ret
  exact⟨qa3 (by rw [V.out];simp [hz]),hS0⟩
 ·have hz2 : ¬(0:Int)<(d.lacks.length:Int):=by omega
  have hzd:decide (0<d.lacks.length)=false:=decide_eq_false hz
  go_enter Tryz.func35,Tryz.ntmps35
  go_wp2_with (go_at_call 36;(with_reducible refine(C.out _ (Bel.refl _)).mono ?_);rintro e' w1 ⟨rfl,k1⟩;have k1:Bel _ w1:=k1)
  go_ret;exact⟨qa3 (by rw [V.out,hzd];simp),Bel.of hS0 k1⟩
theorem qek (v:Value) (l:List PAdapt) (W:World) (hv:Sv 4 VAdapt W v l) :
  Calls Tryz.prog 17 #[v] W fun e' w'=>e'=.returned (.bool (qea l))/\Bel W w':=by
 have C0:=cf_Adapt VAdapt VAdapt.len 35 #[] (enters_of Tryz.func35 (by kernel_rfl) rfl) v l _ W hv (fun x vs' W2 hx hv' hb=>cl_Ex1 x vs' W2 (VAdapt.stays _ _ _ _ hb hv'));rw [qg9]at C0;have C:=Lib.hid C0;have V:=Lib.hid (show qea l=l.all (fun d=>decide (d.lacks.length=0) && d.acts.all fun x=>decide (x.kind=2))from rfl);generalize qea l=R at V;generalize (l.all fun d=>decide (d.lacks.length=0) && d.acts.all fun x=>decide (x.kind=2))=Q at C V;obtain⟨q,c,rfl,_⟩:=qax hv;clear hv C0
 go_enter Tryz.func17,Tryz.ntmps17
 go_wp2_with (go_at_call 34;(with_reducible refine C.out.mono ?_);rintro e' w1 ⟨rfl,k1⟩;have k1:Bel _ w1:=k1)
 go_ret;exact⟨qa3 (by first|(rw [V.out];done)|(rw [V.out];simp)),k1⟩
def actV:PAct × Bool->Value:=fun r=>.tuple #[.agg #[.int .i64 r.1.num,.int .i64 r.1.kind,.int .i64 r.1.sub],.bool r.2]
def qcu (l:List PAct) (num:Int):PAct × Bool:=match l.find? (fun x=>decide (x.num=num))with|some x=>(x,true)|none=>(⟨0,0,0⟩,false)
theorem qeg {l:List PAct} {num:Int} {k:Nat} {x:PAct} (hx:l[k]? = some x):qcu (l.drop k) num=if x.num=num then(x,true)else qcu (l.drop (k+1)) num:=by
 obtain⟨hk,rfl⟩:=List.getElem?_eq_some_iff.1 hx;unfold qcu;rw [List.drop_eq_getElem_cons hk,List.find?_cons];by_cases h:(l[k]).num=num
 ·rw [decide_eq_true h,if_pos h]
 ·rw [decide_eq_false h,if_neg h]
theorem qfb (d:PAdapt) (vs:List Value) (num:Int) (W:World) (hv:VAdapt W vs d) :
  Calls Tryz.prog 19 #[.agg vs.toArray,.int .i64 num] W fun e' w'=>e'=.returned (actV (qct d num))/\Bel W w':=by
 obtain⟨aq,lq,ac,lc,rfl,h1,h2,l1,l2⟩:=hv.form;have hS0:=((ST.start W).addbox #[.int .i64 d.w,.int .i64 d.r,.slice aq d.acts.length ac,.slice lq d.lacks.length lc] 44).addbox #[.int .i64 0,.int .i64 0,.int .i64 0] 38;simp only [World.size_alloc]at hS0;have HS:=Lib.hid hS0;obtain⟨_,_,he,_,_,hel⟩:=h1;cases he;have EL:=Lib.hid hel;obtain⟨R,hR⟩ : ∃R,R=qct d num:=⟨_,rfl⟩;have V:=Lib.hid (show qcu (d.acts.drop 0) num=R by rw [hR];rfl);rw [←hR];clear hv h2 hel hS0 hR
 go_enter Tryz.func19,Tryz.ntmps19
 go_wp2
 go_loopw [11] (fun i wr => ∃k:Nat,k<=d.acts.length/\i=.int .i64 k/\Hid (ST W [] [⟨W.heap.size+1,#[.int .i64 0,.int .i64 0,.int .i64 0],38⟩,⟨W.heap.size,#[.int .i64 d.w,.int .i64 d.r,.slice aq d.acts.length ac,.slice lq d.lacks.length lc],44⟩] wr)/\Hid (qcu (d.acts.drop k) num=R)) (fun i _=>d.acts.length-(intOf i).toNat)
 case atStart=>exact⟨0,by omega,rfl,HS,V⟩
 case round=>as_aux_lemma=>
  clear HS V;obtain⟨k,hk,rfl,hS,hx⟩:=hrel;by_cases hlt:k<d.acts.length
  ·have hg:d.acts[k]? = some d.acts[k]:=List.getElem?_eq_getElem hlt
   obtain⟨g,off,rfl,hbs,vs,hce,hvs⟩:=EL.out k _ hg;have hki:(k:Int)<(d.acts.length:Int):=by omega
   have hst:=hx.out;rw [qeg hg]at hst;clear hx hg EL;generalize d.acts[k]=x at *;rw [show vs=[.int .i64 x.num,.int .i64 x.kind,.int .i64 x.sub]from hvs]at hce;have e0:=hS.out.bel.some (hce 0 _ rfl);rw [Nat.add_zero]at e0;have e1:=hS.out.bel.some (hce 1 _ rfl);have e2:=hS.out.bel.some (hce 2 _ rfl);have HX:=Lib.hid (hS.out.addbox #[.int .i64 x.num,.int .i64 x.kind,.int .i64 x.sub] 38);clear hce hvs;by_cases hn:x.num=num
   ·have hb:(x.num == num)=true:=by rw [hn];simp
    rw [if_pos hn]at hst;have HST:=Lib.hid hst;clear hn hst
    go_upto_region 5 with(fail)
    have z0:=HX.out.cell 0 rfl 0;have z1:=HX.out.cell 0 rfl 1;have z2:=HX.out.cell 0 rfl 2;dsimp only at z0 z1 z2;have HR:=Lib.hid (HX.out.box 1 rfl)
    go_wp2_with (refine qa5 rfl 38 _ _ rfl (W.heap.size+1) #[.int .i64 x.num,.int .i64 x.kind,.int .i64 x.sub] #[.int .i64 0,.int .i64 0,.int .i64 0] 38 rfl rfl HR.out qas rfl (qah _ _ _) ?_)
    have TZ:=Lib.hid (HX.out.setrowbox 1 rfl #[.int .i64 x.num,.int .i64 x.kind,.int .i64 x.sub]);refine bodyPost_ret (v:=.tuple #[.agg #[.int .i64 x.num,.int .i64 x.kind,.int .i64 x.sub],.bool true]) ?hres9 rfl ?hpost9
    case hres9=>exact qci rfl rfl rfl (TZ.out.box 1 rfl) Tryz.underlying38 rfl (by kernel_rfl)
    case hpost9=>exact⟨by rw [←HST.out];rfl,TZ.out.bel⟩
   ·have hb:(x.num == num)=false:=beq_eq_false_iff_ne.2 hn
    rw [if_neg hn]at hst;have HST:=Lib.hid hst;clear hn hst;go_wp2;go_roundw
    case rel=>exact⟨k+1,by omega,by go_num,Lib.hid HX.out.dropbox0,HST⟩
    case measure=>simp [intOf];omega
  ·have hki : ¬(k:Int)<(d.acts.length:Int):=by omega
   have HST:=Lib.hid (show R=(⟨0,0,0⟩,false)by rw [←hx.out,List.drop_eq_nil_of_le (by omega)];rfl);have HR:=Lib.hid (hS.out.box 0 rfl);clear hx EL
   go_wp2_with (refine qa5 rfl 38 _ _ rfl (W.heap.size+1) #[.int .i64 0,.int .i64 0,.int .i64 0] #[.int .i64 0,.int .i64 0,.int .i64 0] 38 rfl rfl HR.out qas rfl (qah _ _ _) ?_)
   have TZ:=Lib.hid (hS.out.setrowbox 0 rfl #[.int .i64 0,.int .i64 0,.int .i64 0]);refine bodyPost_ret (v:=.tuple #[.agg #[.int .i64 0,.int .i64 0,.int .i64 0],.bool false]) ?hres8 rfl ?hpost8
   case hres8=>exact qci rfl rfl rfl (TZ.out.box 0 rfl) Tryz.underlying38 rfl (by kernel_rfl)
   case hpost8=>exact⟨by rw [HST.out];rfl,TZ.out.bel⟩
theorem rs_name (p:PPlan) (q1 q2:Option Addr) (c1 c2:Nat) (i:Int) (W:World) (hv:VPlan W [.slice q1 p.progs.length c1,.slice q2 p.enums.length c2] p) :
  Calls Tryz.prog 40 #[.agg #[.slice q1 p.progs.length c1,.slice q2 p.enums.length c2],.int .i64 i] W fun e' w'=>e'=.returned (.string (S (nameR p i)))/\Bel W w':=by
 have hS0:=(Bel.refl W).alloc (.cells #[.slice q1 p.progs.length c1,.slice q2 p.enums.length c2] 25);by_cases h1:i<0
 ·have V:=Lib.hid (show nameR p i=[63]by unfold nameR;rw [if_neg (by omega)])
  generalize nameR p i=R at V;clear hv
  go_enter Tryz.func40,Tryz.ntmps40
  go_wp2;go_ret
  exact⟨by rw [V.out];rfl,hS0⟩
 ·by_cases h2:i<p.progs.length
  ·obtain⟨gv,ev,he,hg,_⟩:=hv
   cases he;obtain⟨_,_,he,_,_,hel⟩:=hg;cases he;obtain⟨n,rfl⟩ : ∃n:Nat,i=(n:Int):=⟨i.toNat,by omega⟩;obtain⟨g,hgn,hgm⟩:=qgr (l:=p.progs) (a:=(n:Int)) (by omega) h2;have V:=Lib.hid (show nameR p (n:Int)=g.name by unfold nameR;rw [if_pos ⟨by omega,h2⟩,hgn]);rw [Int.toNat_natCast]at hgn;obtain⟨b,off,rfl,_,vs,hce,hvs⟩:=hel n g hgn;obtain⟨oq,oc,rfl,_,_⟩:=hvs.form;have e0:=hce 0 _ rfl;rw [Nat.add_zero]at e0;generalize nameR p (n:Int)=R at V;have h3:(0:Int)<=(n:Int):=by omega
   have hbl:b<W.heap.size:=World.block_lt_of_cell? W _ e0;clear hel hce hvs hgn hgm
   go_enter Tryz.func40,Tryz.ntmps40
   go_wp2;go_ret
   exact⟨by rw [V.out];rfl,hS0⟩
  ·have V:=Lib.hid (show nameR p i=[63]by unfold nameR;rw [if_neg (by omega)])
   generalize nameR p i=R at V;clear hv
   go_enter Tryz.func40,Tryz.ntmps40
   go_wp2;go_ret
   exact⟨by rw [V.out];rfl,hS0⟩
def wordR (k:Int):Str:=if k=1 then [115,107,105,112]else if k=2 then [116,97,107,101]else if k=3 then [116,117,114,110]else if k=4 then [102,97,105,108]else [63]
theorem rs_word (k:Int) (W:World) :
  Calls Tryz.prog 42 #[.int .i64 k] W fun e' w'=>e'=.returned (.string (S (wordR k)))/\W=w':=by
 go_enter Tryz.func42,Tryz.ntmps42
 go_wp2
 all_goals go_ret
 all_goals refine⟨?_,rfl⟩
 all_goals (simp only [beq_iff_eq,beq_eq_false_iff_ne,ne_eq]at *;simp [wordR, *];rfl)
end Go.Proofs.YtgpjhibdongmbaaGreatDoor
