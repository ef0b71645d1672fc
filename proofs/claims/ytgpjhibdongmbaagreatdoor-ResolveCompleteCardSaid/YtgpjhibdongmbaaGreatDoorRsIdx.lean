import Derived.Test.YtgpjhibdongmbaaGreatDoorCkIdx
import Derived.Laws.Strings
import Derived.Test.YtgpjhibdongmbaaGreatDoorIdWord
import Derived.Maps.OwnSet
import Derived.Maps.Views
import Derived.Deep.RegionHeld3
set_option maxRecDepth 100000
set_option maxHeartbeats 4000000
set_option linter.unusedVariables false
set_option linter.unusedSimpArgs false
namespace Go.Proofs.YtgpjhibdongmbaaGreatDoor
open Go.RowKit Ck
theorem qc1 : ∀a b:List UInt8,Op.bytesLess a b=decide (a<b)
 | [],[]=>by simp [Op.bytesLess]
 | [],b :: l=>by simp [Op.bytesLess]
 | a :: l,[]=>by simp [Op.bytesLess]
 | a :: l,b :: m=>by
  have ih:=qc1 l m;unfold Op.bytesLess;simp only [List.cons_lt_cons_iff,ih];by_cases h1:a<b
  ·simp [h1]
  ·by_cases h2:a=b
   ·subst h2;simp [h1]
   ·simp [h1,h2]
theorem qgh (a b:Str):Op.bytesLess (S a).toList (S b).toList=ltS a b:=by
 rw [ByteArray.toList_eq,ByteArray.toList_eq];exact qc1 a b
theorem eq_S (a b:Str):((S a).toList == (S b).toList)=decide (a=b):=by
 rw [ByteArray.toList_eq,ByteArray.toList_eq,qc2,qc2,Bool.eq_iff_iff];simp
theorem empty_S (a:Str) (h:a=[]):(S a).toList=[]:=by subst h;rw [ByteArray.toList_eq];rfl
theorem qkg (a:Str) (h:a ≠ []):(S a).toList ≠ []:=by rw [ByteArray.toList_eq];exact h
theorem qiy (a:Str) (h:a ≠ []):(S a).toList.isEmpty=false:=by rw [ByteArray.toList_eq,qc2];simpa using h
theorem qc4 {w a:World} {b o:Nat} {v:Value} (h:Bel w a) (hb:w.heap.size<=b):Bel w (a.setCell ⟨b,o,none⟩ v):=Below.setCell h hb v
end Go.Proofs.YtgpjhibdongmbaaGreatDoor
namespace Go.Proofs.YtgpjhibdongmbaaGreatDoor
open Go.RowKit Ck
def PredS (w:World) (xs:List Str) (p:Str->Bool) (g:Nat) (lb:Array Value):Prop:=
 ∀(x:Str) (W:World),x ∈ xs->Bel w W->Calls Tryz.prog g (#[.string (S x)] ++ lb) W fun e w'=>e=.returned (.bool (p x))/\Below W.heap.size W w'
theorem ix_Str (g:Nat) (lb:Array Value) (eg : ∀args w,(callFunc g args).run Tryz.prog w=.ok (.enter g args) w) (v:Value) (xs:List Str) (p:Str->Bool) (w:World)
  (hv:Texts w v xs) (hp:PredS w xs p g lb) :
  Calls Tryz.prog 198 #[v,.func (.func g) #[] lb] w fun e w'=>e=.returned (.int .i64 (idxL p xs))/\Below w.heap.size w w':=by
 obtain⟨q,c,rfl,hl,hcap,hel⟩:=hv;have EL:=Lib.hid hel;have HP:=Lib.hid hp;clear hel hp
 go_enter Tryz.func198,Tryz.ntmps198
 go_wp2
 go_loopw [5,8] (fun _ i wr => ∃k:Nat,k<=xs.length/\i=.int .i64 k/\Bel w wr/\Hid (∀j y,j<k->xs[j]? = some y->p y=false)) (fun _ i _=>xs.length-(intOf i).toNat)
 case atStart=>exact⟨0,by omega,rfl,Bel.refl _,Lib.hid fun j y hj=>absurd hj (Nat.not_lt_zero _)⟩
 case round=>
  obtain⟨k,hk,rfl,kw,A⟩:=hrel;by_cases hlt:k<xs.length
  ·have hg:xs[k]? = some xs[k]:=List.getElem?_eq_getElem hlt
   obtain⟨b,off,rfl,hbs,vs,hce,hvs⟩:=EL.out k _ hg;have hki:(k:Int)<(xs.length:Int):=by omega
   have hvs':vs=[.string (S xs[k])]:=hvs
   have e0:wr.cell? ⟨b,off+k,none⟩=some (.string (S xs[k])):=by
    have:=hce 0 (.string (S xs[k])) (by rw [hvs'];rfl);rw [Nat.mul_one,Nat.add_zero]at this;exact kw.some this
   have HG:=Lib.hid hg;have hcall:=HP.out _ wr (List.getElem_mem hlt) kw;clear hce hvs hvs' hg;generalize xs[k]=y at *;cases hq:p y with
   | true=>
    rw [hq]at hcall;have HC:=Lib.hid hcall;have HQ:=Lib.hid hq;clear hcall hq
    go_wp2_with (go_at_fn g;(with_reducible refine HC.out.mono ?_);rintro e w' ⟨rfl,hb'⟩)
    go_ret;exact⟨qaf (qc8 p xs k y HG.out HQ.out A.out).symm,Bel.of kw hb'⟩
   | false=>
    rw [hq]at hcall;have HC:=Lib.hid hcall;have HQ:=Lib.hid hq;clear hcall hq
    go_wp2_with (go_at_fn g;(with_reducible refine HC.out.mono ?_);rintro e w' ⟨rfl,hb'⟩;have k2:=Bel.of kw hb';clear hb')
    refine⟨⟨k+1,by omega,rfl,k2,Lib.hid fun j z hj hz=>?_⟩,by simp [intOf];omega⟩;by_cases e:j=k
    ·subst e
     have:=HG.out;rw [hz]at this;cases this;exact HQ.out
    ·exact A.out j z (by omega) hz
  ·have hki : ¬(k:Int)<(xs.length:Int):=by omega
   have hkl:k=xs.length:=by omega
   subst hkl;go_wp2;go_ret;exact⟨qaf (qbo p xs A.out).symm,kw.out⟩
theorem cf_Str (g:Nat) (lb:Array Value) (eg : ∀args w,(callFunc g args).run Tryz.prog w=.ok (.enter g args) w) (v:Value) (xs:List Str) (p:Str->Bool) (w:World)
  (hv:Texts w v xs) (hp:PredS w xs p g lb) :
  Calls Tryz.prog 172 #[v,.func (.func g) #[] lb] w fun e w'=>e=.returned (.bool (xs.any p))/\Below w.heap.size w w':=by
 have ci:=Lib.hid (fun W (h:Texts W v xs) (h2:PredS W xs p g lb)=>ix_Str g lb eg v xs p W h h2);have HV:=Lib.hid hv;have HP:=Lib.hid hp;have ha:=Lib.hid (qc9 p xs);clear hv hp;generalize idxL p xs=R at ci ha
 go_enter Tryz.func172,Tryz.ntmps172
 go_wp2_with (go_at_call 198;(with_reducible refine(ci.out _ HV.out HP.out).mono ?_);rintro e w1 ⟨rfl,h1⟩)
 go_ret;exact⟨qa3 ha.out,h1⟩
end Go.Proofs.YtgpjhibdongmbaaGreatDoor
namespace Go.Proofs.YtgpjhibdongmbaaGreatDoor
open Go.RowKit Ck
theorem VMsg.len (w:World) (vs:List Value) (x:PMsg) (h:VMsg w vs x):vs.length=5:=by
 obtain⟨_,_,_,_,rfl,_⟩:=h;rfl
theorem VEnum.len (w:World) (vs:List Value) (x:PEnum) (h:VEnum w vs x):vs.length=5:=by
 obtain⟨_,_,_,rfl,_⟩:=h;rfl
theorem VSpan.len (w:World) (vs:List Value) (x:PSpan) (h:VSpan w vs x):vs.length=2:=by
 rw [show vs=_ from h];rfl
theorem VItem.len (w:World) (vs:List Value) (x:PItem) (h:VItem w vs x):vs.length=3:=by
 obtain⟨_,rfl,_⟩:=h;rfl
theorem VField.len (w:World) (vs:List Value) (x:PField) (h:VField w vs x):vs.length=16:=by
 obtain⟨_,_,rfl,⟨_,_,_,_,_,_,_,_,rfl,_⟩,_⟩:=h;rfl
theorem qbc {α:Type} {C:Nat} {E:World->Nat->Nat->α->Prop} {w:World} {v:Value} {xs:List α} (h:Sl C E w v xs) : ∃(q:Option Addr) (c:Nat),v=.slice q xs.length c/\xs.length<=140737488355328:=by
 obtain⟨q,c,h1,h2,_⟩:=h;exact⟨q,c,h1,h2⟩
theorem qj1 (lo hi n:Int) (B:Nat) (W:World) (hB:W.cell? ⟨B,0,none⟩=some (.int .i64 n)) :
  Calls Tryz.prog 203 #[.agg #[.int .i64 lo,.int .i64 hi],.pointer (some ⟨B,0,none⟩)] W fun e w'=>e=.returned (.bool (decide (lo<=n/\n<=hi)))/\Below W.heap.size W w':=by
 have hlt:B<W.heap.size:=World.block_lt_of_cell? W _ hB
 go_enter Tryz.func203,Tryz.ntmps203
 go_wp2
 all_goals go_ret
 all_goals refine⟨qa3 ?_,(Below.refl _ _).alloc (Nat.le_refl _) _⟩
 all_goals (rw [Bool.eq_iff_iff];simp_all <;> omega)
theorem qj2 (v:Value) (l:List PSpan) (n:Int) (w:World) (hv:Spans w v l) :
  Calls Tryz.prog 181 #[v,.int .i64 n] w fun e w'=>e=.returned (.bool (qb6 l n))/\Below w.heap.size w w':=by
 have hs : ∀W,Bel w W->W.cell? ⟨w.heap.size,0,none⟩=some (.int .i64 n)->Calls Tryz.prog 202 #[v,.func (.func 203) #[] #[.pointer (some ⟨w.heap.size,0,none⟩)]] W fun e w'=>e=.returned (.bool (qb6 l n))/\Below W.heap.size W w':=fun W hb hc=>by
  refine cf_Span VSpan VSpan.len _ _ (enters_of Tryz.func203 (by kernel_rfl) rfl) v l _ W (hv.bel VSpan.stays hb) (fun x vs W2 _ hx hb2=>?_);rw [show vs=_ from hx];exact qj1 x.lo x.hi n _ W2 (hb2.some hc)
 have cs:=Lib.hid hs;clear hs;obtain⟨q,c,rfl,hl⟩:=qbc hv;clear hv;generalize qb6 l n=R at cs
 go_enter Tryz.func181,Tryz.ntmps181
 go_wp2_with (go_at_call 202;(with_reducible refine(cs.out _ (by(repeat (first|(with_reducible assumption)|(with_reducible exact Bel.refl _)|(with_reducible refine Bel.drew ?_)|(with_reducible refine Bel.drewN ?_ _)|(with_reducible refine Bel.alloc ?_ _)|((with_reducible refine qc4 ?_ ?hge);(case hge=>(first|omega|(simp;omega))))))) (by go_simp)).mono ?_);rintro e w1 ⟨rfl,h1⟩;have k1:Bel w w1:=Bel.of (by(repeat (first|(with_reducible assumption)|(with_reducible exact Bel.refl _)|(with_reducible refine Bel.drew ?_)|(with_reducible refine Bel.drewN ?_ _)|(with_reducible refine Bel.alloc ?_ _)|((with_reducible refine qc4 ?_ ?hge);(case hge=>(first|omega|(simp;omega))))))) h1;clear h1)
 go_ret;exact⟨rfl,k1.out⟩
theorem qdk {P:Program} {fn:Func} {p u:Tmp} {ty:TypeId} (h:fn.results=#[.cell p ty,.tmp u]) {tmps:Array Value} {w:World} {g:Nat} {t:TypeId} {cs:Array Value} {d:TypeDesc} {y:Value}
  (hp:tmps.getD p undef=.pointer (some ⟨g,0,none⟩)) (hy:tmps.getD u undef=y) (hg:w.heap[g]? = some (.cells cs t (0,0)))
  (hu:P.underlying ty=some d) (hd:(match d with | .struct _ | .array _ _=>true|_=>false)=true) (hi:(P.info? ty).map (·.size)=some cs.size) :
  (results fn tmps).run P w=.ok (.tuple #[.agg cs,y]) w:=by
 rw [results_cell_tmp h,hp,hy];simp [asAddr,run_loadVar_row w g t ty cs (0,0) d hg hu hd hi]
end Go.Proofs.YtgpjhibdongmbaaGreatDoor
namespace Go.Proofs.YtgpjhibdongmbaaGreatDoor.Rs
open Ck
structure POp where
 num:Int
 name:Str
 ali:Str
 card:Int
 key:Int
 kind:Int
 tgt:Int
 un:Int
structure PProg where
 name:Str
 ops:List POp
 uns:Int
structure PPlan where
 progs:List PProg
 enums:List PEnum
structure PAct where
 num:Int
 kind:Int
 sub:Int
structure PAdapt where
 w:Int
 r:Int
 acts:List PAct
 lacks:List Int
def limG (g:PProg):Bool:=decide (g.ops.length<=64)
def limE (e:PEnum):Bool:=decide (1<=e.items.length/\e.items.length<=64/\e.res.length<=16)
def qe4 (p:PPlan):Bool:=decide (p.progs.length<=64/\p.enums.length<=64) && (p.progs.all limG && p.enums.all limE)
def namG (g:PProg):Bool:=qah g.name && g.ops.all fun o=>qa5 o.name
def namE (e:PEnum):Bool:=qah e.name && e.items.all fun x=>qa5 x.name
def names (p:PPlan):Bool:=p.progs.all namG && p.enums.all namE
def qe2 {α:Type} (lt:α->α->Bool) (l:List α) (k:Nat):Bool:=(List.range' k (l.length-k)).all fun i=>match l[i-1]?,l[i]? with|some a,some b=>lt a b|_,_=>true
def ordG (g:PProg):Bool:=qe2 (fun a b=>decide (a.num<b.num)) g.ops 1
def ordE (e:PEnum):Bool:=qe2 (fun a b=>decide (a.num<b.num)) e.items 1
def qcc (p:PPlan):Bool:=qe2 (fun a b=>ltS a.name b.name) p.progs 1 && p.progs.all ordG && (qe2 (fun a b=>ltS a.name b.name) p.enums 1 && p.enums.all ordE)
def newAt {α:Type} (f:α->Str) (l:List α) (k:Nat):Bool:=match l[k]? with|some x => !((l.take k).any fun y=>decide (f y=f x))|none=>true
def apart {α:Type} (f:α->Str) (l:List α):Bool:=(List.range l.length).all fun k=>newAt f l k
def sinG (p:PPlan) (g:PProg):Bool:=(p.enums.all fun e=>decide (g.name ≠ e.name)) && apart POp.name g.ops
def qek (p:PPlan):Bool:=p.progs.all (sinG p) && p.enums.all fun e=>apart PItem.name e.items
def ranO (o:POp):Bool:=decide (1<=o.num/\o.num<=65535)
def ranI (e:PEnum) (k:Nat):Bool:=match e.items[k]? with|some x=>decide (x.num<=2147483647/\(0<k ∨ x.num=0)) && !qb6 e.res x.num|none=>true
def ranS (l:List PSpan) (k:Nat):Bool:=match l[k]? with
 | some x=>decide (0<=x.lo/\x.hi<=2147483647/\x.lo<=x.hi) && (decide (k=0) || match l[k-1]? with|some y=>decide (y.hi<x.lo)|none=>true)
 | none=>true
def ranE (e:PEnum):Bool:=((List.range e.items.length).all fun k=>ranI e k) && (List.range e.res.length).all fun k=>ranS e.res k
def qen (p:PPlan):Bool:=(p.progs.all fun g=>g.ops.all ranO) && p.enums.all ranE
def qai (p:PPlan) (o:POp):Bool:=
 if o.kind=10 then decide (0<=o.tgt/\o.tgt<p.progs.length/\o.card ≠ 3)
 else if o.kind=9 then decide (0<=o.tgt/\o.tgt<p.enums.length)
 else decide (o.tgt = -1)
def qa4 (p:PPlan) (o:POp):Bool:=
 decide (Utf.bad o.ali<0/\o.ali.length<=4096/\1<=o.card/\o.card<=5/\1<=o.kind/\o.kind<=10) && (keyed o.card o.key && (qai p o && decide (o.un = -1 ∨ o.card=2)))
def qbr:Int->Int->List POp->Option Int
 | n,_,[]=>some n
 | n,b,o :: r=>if o.un=n then qbr (n+1) o.un r else if o.un ≠ -1/\b ≠ o.un then none else qbr n o.un r
def qcg (g:PProg):Bool:=match qbr 0 (-1) g.ops with|some n=>decide (g.uns=n)|none=>false
def qmv:Str:=[97,108,105,97,115]
def argI (x:PItem):Bool:=match x.notes with
 | []=>true
 | [n]=>decide (n.name=qmv) && decide (qam x.notes 4=0)
 | _=>false
def argE (e:PEnum):Bool:=decide (e.notes.length=0) && e.items.all argI
def argG (p:PPlan) (g:PProg):Bool:=qcg g && g.ops.all (qa4 p)
def arguments (p:PPlan):Bool:=p.enums.all argE && p.progs.all (argG p)
def okAt (K:List Bool) (o:POp):Bool:=decide (o.card ≠ 1 ∨ o.kind ≠ 10) || K.getD o.tgt.toNat false
def okG (K:List Bool) (g:PProg):Bool:=g.ops.all (okAt K)
def qba:List PProg->Nat->List Bool × Bool->List Bool × Bool
 | [],_,s=>s
 | g :: r,i,s=>qba r (i+1) (s.1.set i (okG s.1 g),s.2 && okG s.1 g)
def qcd (p:PPlan):Nat->List Bool × Bool->List Bool × Bool
 | 0,s=>s
 | n+1,s=>qcd p n (qba p.progs 0 (s.1,true))
def finite (p:PPlan):Bool:=(qcd p p.progs.length (List.replicate p.progs.length false,decide (p.progs.length=0))).2
def check (p:PPlan):Int:=
 if qe4 p=false then 3 else if names p=false then 8 else if qcc p=false then 11 else if qek p=false then 9
 else if qen p=false then 6 else if arguments p=false then 1 else if finite p=false then 19 else 0
def finGo:List PProg->Nat->List Bool->List Bool
 | [],_,F=>F
 | g :: r,i,F=>finGo r (i+1) (F.set i (F.getD i false || okG F g))
def fins (p:PPlan):Nat->List Bool->List Bool
 | 0,F=>F
 | n+1,F=>fins p n (finGo p.progs 0 F)
def qbg (p:PPlan) (name:Str):Option Nat:=p.progs.findIdx? fun g=>decide (g.name=name)
def opOf (g:PProg) (num:Int):Option POp:=g.ops.find? fun o=>decide (o.num=num)
def qd4 (a b:PEnum):Bool:=b.op || (!a.op && a.items.all fun x=>b.items.any fun y=>decide (y.num=x.num))
def qav (a b:Int):Int:=if a=b then 2 else if Pr.lev 2 a b=0 then 4 else 3
def elemR (w r:PPlan) (o q:POp):Int:=
 if o.kind=10/\q.kind=10 then 2
 else if o.kind=10 ∨ q.kind=10 then 4
 else if o.kind=9/\q.kind=9 then(match w.enums[o.tgt.toNat]?,r.enums[q.tgt.toNat]? with|some a,some b=>if qd4 a b=true then 2 else 3|_,_=>3)
 else qav o.kind q.kind
def oneR (o:POp):Bool:=decide (o.card ≠ 4/\o.card ≠ 5)
def qac (w r:PPlan) (o q:POp):Int:=
 if(oneR o=true/\oneR q=true) ∨ (o.card=4/\q.card=4)then elemR w r o q
 else if oneR o=true/\q.card=4 then max (elemR w r o q) 3
 else if o.card=5/\q.card=5 then max (elemR w r o q) (qav o.key q.key)
 else 4
def qce (P:List (Int × Int)) (a b:Int):Option Nat:=P.findIdx? fun x=>decide (x.1=a/\x.2=b)
def qb4 (P:List (Int × Int)) (a b:Int):Int × List (Int × Int):=match qce P a b with|some i=>((i:Int),P)|none=>((P.length:Int),P ++ [(a,b)])
def actR (w r:PPlan) (h:PProg) (o:POp) (P:List (Int × Int)):PAct × List (Int × Int):=match opOf h o.num with
 | none=>(⟨o.num,1, -1⟩,P)
 | some q=>if qac w r o q ≠ 4/\o.kind=10 then(⟨o.num,qac w r o q,(qb4 P o.tgt q.tgt).1⟩,(qb4 P o.tgt q.tgt).2)else(⟨o.num,qac w r o q, -1⟩,P)
def qb8 (w r:PPlan) (h:PProg):List POp->List PAct->List (Int × Int)->List PAct × List (Int × Int)
 | [],A,P=>(A,P)
 | o :: os,A,P=>qb8 w r h os (A ++ [(actR w r h o P).1]) (actR w r h o P).2
def qcf (g h:PProg):List Int:=(h.ops.filter fun q=>(opOf g q.num).isNone && decide (q.card=1)).map POp.num
def runR (w r:PPlan):Nat->Nat->List (Int × Int)->List PAdapt
 | 0,_,_ => []
 | f+1,n,P=>match P[n]? with
  | none => []
  | some (a,b)=>match w.progs[a.toNat]?,r.progs[b.toNat]? with
   | some g,some h=>⟨a,b,(qb8 w r h g.ops [] P).1,qcf g h⟩ :: runR w r f (n+1) (qb8 w r h g.ops [] P).2
   | _,_ => []
def most (w r:PPlan):Nat:=w.progs.length*r.progs.length+1
def fromR (w r:PPlan) (a b:Int):List PAdapt:=runR w r (most w r) 0 [(a,b)]
def makeR (w r:PPlan) (name:Str):List PAdapt × Int:=match qbg w name,qbg r name with
 | some a,some b=>(fromR w r a b,0)
 | _,_=>([],10)
def qih (a:PAdapt) (num:Int):PAct × Bool:=match a.acts.find? (fun x=>decide (x.num=num))with|some x=>(x,true)|none=>(⟨0,0,0⟩,false)
def qmj (l:List PAdapt):Bool:=l.all fun a=>decide (a.lacks.length=0) && a.acts.all fun x=>decide (x.kind=2)
def inR (w r:PPlan) (a:PAdapt):Bool:=decide (0<=a.w/\a.w<w.progs.length/\0<=a.r/\a.r<r.progs.length)
end Go.Proofs.YtgpjhibdongmbaaGreatDoor.Rs
namespace Go.Proofs.YtgpjhibdongmbaaGreatDoor
open Go.RowKit Ck Rs
def opC (o:POp):List Value:=[.int .i64 o.num,.string (S o.name),.string (S o.ali),.int .i64 o.card,.int .i64 o.key,.int .i64 o.kind,.int .i64 o.tgt,.int .i64 o.un]
def VOp (w:World) (vs:List Value) (o:POp):Prop:=vs=opC o
theorem VOp.stays:Stays VOp:=fun _ _ _ _ _ h=>h
theorem VOp.len (w:World) (vs:List Value) (x:POp) (h:VOp w vs x):vs.length=8:=by
 rw [show vs=_ from h];rfl
def VProg (w:World) (vs:List Value) (g:PProg):Prop := ∃ov,vs=[.string (S g.name),ov,.int .i64 g.uns]/\Sv 8 VOp w ov g.ops
theorem VProg.stays:Stays VProg:=fun _ _ _ _ k ⟨ov,h1,h2⟩=>⟨ov,h1,h2.bel VOp.stays k⟩
theorem VProg.len (w:World) (vs:List Value) (x:PProg) (h:VProg w vs x):vs.length=3:=by
 obtain⟨_,rfl,_⟩:=h;rfl
def VPlan (w:World) (vs:List Value) (p:PPlan):Prop := ∃gv ev,vs=[gv,ev]/\Sv 3 VProg w gv p.progs/\Sv 5 VEnum w ev p.enums
theorem VPlan.stays:Stays VPlan:=fun _ _ _ _ k ⟨gv,ev,h1,h2,h3⟩=>⟨gv,ev,h1,h2.bel VProg.stays k,h3.bel VEnum.stays k⟩
def actC (a:PAct):List Value:=[.int .i64 a.num,.int .i64 a.kind,.int .i64 a.sub]
def VAct (w:World) (vs:List Value) (a:PAct):Prop:=vs=actC a
theorem VAct.stays:Stays VAct:=fun _ _ _ _ _ h=>h
theorem VAct.len (w:World) (vs:List Value) (x:PAct) (h:VAct w vs x):vs.length=3:=by
 rw [show vs=_ from h];rfl
def VInt (w:World) (vs:List Value) (n:Int):Prop:=vs=[.int .i64 n]
theorem VInt.stays:Stays VInt:=fun _ _ _ _ _ h=>h
def VAdapt (w:World) (vs:List Value) (a:PAdapt):Prop := ∃av lv,vs=[.int .i64 a.w,.int .i64 a.r,av,lv]/\Sv 3 VAct w av a.acts/\Sv 1 VInt w lv a.lacks
theorem VAdapt.stays:Stays VAdapt:=fun _ _ _ _ k ⟨av,lv,h1,h2,h3⟩=>⟨av,lv,h1,h2.bel VAct.stays k,h3.bel VInt.stays k⟩
theorem VAdapt.len (w:World) (vs:List Value) (x:PAdapt) (h:VAdapt w vs x):vs.length=4:=by
 obtain⟨_,_,rfl,_⟩:=h;rfl
end Go.Proofs.YtgpjhibdongmbaaGreatDoor
namespace Go.Proofs.YtgpjhibdongmbaaGreatDoor
open Go.RowKit Ck Rs
theorem qj4 (w:World):(isAgg 54).run Tryz.prog w=.ok true w:=by kernel_rfl
theorem qff (w:World):(Go.sizeOf 54).run Tryz.prog w=.ok 8 w:=by kernel_rfl
theorem ix_Op {α:Type} (V:World->List Value->α->Prop) (hV : ∀W vs x,V W vs x->vs.length=8) (g:Nat) (lb:Array Value) (eg : ∀args w,(callFunc g args).run Tryz.prog w=.ok (.enter g args) w) (v:Value) (xs:List α) (p:α->Bool) (w:World)
  (hv:Sv 8 V w v xs) (hp:qbb α V w xs p g lb) :
  Calls Tryz.prog 189 #[v,.func (.func g) #[] lb] w fun e w'=>e=.returned (.int .i64 (idxL p xs))/\Below w.heap.size w w':=by
 obtain⟨q,c,rfl,hl,hcap,hel⟩:=hv;have EL:=Lib.hid hel;have HP:=Lib.hid hp;have HV:=Lib.hid hV;have aE:=qj4;obtain⟨K,hK⟩ : ∃K,K=8:=⟨_,rfl⟩;have zE : ∀w,(Go.sizeOf 54).run Tryz.prog w=.ok K w:=hK ▸ qff;have HK:=Lib.hid hK;clear hel hp hV hK
 go_enter Tryz.func189,Tryz.ntmps189
 go_wp2
 go_loopw [5,8] (fun _ i wr => ∃k:Nat,k<=xs.length/\i=.int .i64 k/\Bel w wr/\Hid (∀j y,j<k->xs[j]? = some y->p y=false)) (fun _ i _=>xs.length-(intOf i).toNat)
 case atStart=>exact⟨0,by omega,rfl,Bel.refl _,Lib.hid fun j y hj=>absurd hj (Nat.not_lt_zero _)⟩
 case round=>
  obtain⟨k,hk,rfl,kw,A⟩:=hrel;by_cases hlt:k<xs.length
  ·have hg:xs[k]? = some xs[k]:=List.getElem?_eq_getElem hlt
   obtain⟨b,off,rfl,hbs,vs,hce,hvs⟩:=EL.out k _ hg;have hki:(k:Int)<(xs.length:Int):=by omega
   have l2:Sem.run Tryz.prog (loadCellsFrom ⟨b,off+k*K,none⟩ 0 K #[]) wr=.ok vs.toArray wr:=run_loadCellsFrom_list Tryz.prog _ _ vs K ((HV.out _ _ _ hvs).trans HK.out.symm) (fun i v hi=>by
    rw [HK.out,Addr.add_lit]
    exact kw.some (hce i v hi))
   have HG:=Lib.hid hg;have hcall:=HP.out _ _ wr (List.getElem_mem hlt) hvs kw;clear hce hvs hg;generalize xs[k]=y at *;cases hq:p y with
   | true=>
    rw [hq]at hcall;have HC:=Lib.hid hcall;have HQ:=Lib.hid hq;clear hcall hq
    go_wp2_with (go_at_fn g;(with_reducible refine HC.out.mono ?_);rintro e w' ⟨rfl,hb'⟩)
    go_ret;exact⟨qaf (qc8 p xs k y HG.out HQ.out A.out).symm,Bel.of kw hb'⟩
   | false=>
    rw [hq]at hcall;have HC:=Lib.hid hcall;have HQ:=Lib.hid hq;clear hcall hq
    go_wp2_with (go_at_fn g;(with_reducible refine HC.out.mono ?_);rintro e w' ⟨rfl,hb'⟩;have k2:=Bel.of kw hb';clear hb')
    refine⟨⟨k+1,by omega,rfl,k2,Lib.hid fun j z hj hz=>?_⟩,by simp [intOf];omega⟩;by_cases e:j=k
    ·subst e
     have:=HG.out;rw [hz]at this;cases this;exact HQ.out
    ·exact A.out j z (by omega) hz
  ·have hki : ¬(k:Int)<(xs.length:Int):=by omega
   have hkl:k=xs.length:=by omega
   subst hkl;go_wp2;go_ret;exact⟨qaf (qbo p xs A.out).symm,kw.out⟩
theorem cf_Op {α:Type} (V:World->List Value->α->Prop) (hV : ∀W vs x,V W vs x->vs.length=8) (g:Nat) (lb:Array Value) (eg : ∀args w,(callFunc g args).run Tryz.prog w=.ok (.enter g args) w) (v:Value) (xs:List α) (p:α->Bool) (w:World)
  (hv:Sv 8 V w v xs) (hp:qbb α V w xs p g lb) :
  Calls Tryz.prog 175 #[v,.func (.func g) #[] lb] w fun e w'=>e=.returned (.bool (xs.any p))/\Below w.heap.size w w':=by
 have ci:=Lib.hid (fun W (h:Sv 8 V W v xs) (h2:qbb α V W xs p g lb)=>ix_Op V hV g lb eg v xs p W h h2);have HV:=Lib.hid hv;have HP:=Lib.hid hp;have ha:=Lib.hid (qc9 p xs);clear hv hp hV;generalize idxL p xs=R at ci ha
 go_enter Tryz.func175,Tryz.ntmps175
 go_wp2_with (go_at_call 189;(with_reducible refine(ci.out _ HV.out HP.out).mono ?_);rintro e w1 ⟨rfl,h1⟩)
 go_ret;exact⟨qa3 ha.out,h1⟩
theorem qgu (w:World):(isAgg 52).run Tryz.prog w=.ok true w:=by kernel_rfl
theorem qei (w:World):(Go.sizeOf 52).run Tryz.prog w=.ok 3 w:=by kernel_rfl
theorem ix_Prog {α:Type} (V:World->List Value->α->Prop) (hV : ∀W vs x,V W vs x->vs.length=3) (g:Nat) (lb:Array Value) (eg : ∀args w,(callFunc g args).run Tryz.prog w=.ok (.enter g args) w) (v:Value) (xs:List α) (p:α->Bool) (w:World)
  (hv:Sv 3 V w v xs) (hp:qbb α V w xs p g lb) :
  Calls Tryz.prog 55 #[v,.func (.func g) #[] lb] w fun e w'=>e=.returned (.int .i64 (idxL p xs))/\Below w.heap.size w w':=by
 obtain⟨q,c,rfl,hl,hcap,hel⟩:=hv;have EL:=Lib.hid hel;have HP:=Lib.hid hp;have HV:=Lib.hid hV;have aE:=qgu;obtain⟨K,hK⟩ : ∃K,K=3:=⟨_,rfl⟩;have zE : ∀w,(Go.sizeOf 52).run Tryz.prog w=.ok K w:=hK ▸ qei;have HK:=Lib.hid hK;clear hel hp hV hK
 go_enter Tryz.func55,Tryz.ntmps55
 go_wp2
 go_loopw [5,8] (fun _ i wr => ∃k:Nat,k<=xs.length/\i=.int .i64 k/\Bel w wr/\Hid (∀j y,j<k->xs[j]? = some y->p y=false)) (fun _ i _=>xs.length-(intOf i).toNat)
 case atStart=>exact⟨0,by omega,rfl,Bel.refl _,Lib.hid fun j y hj=>absurd hj (Nat.not_lt_zero _)⟩
 case round=>
  obtain⟨k,hk,rfl,kw,A⟩:=hrel;by_cases hlt:k<xs.length
  ·have hg:xs[k]? = some xs[k]:=List.getElem?_eq_getElem hlt
   obtain⟨b,off,rfl,hbs,vs,hce,hvs⟩:=EL.out k _ hg;have hki:(k:Int)<(xs.length:Int):=by omega
   have l2:Sem.run Tryz.prog (loadCellsFrom ⟨b,off+k*K,none⟩ 0 K #[]) wr=.ok vs.toArray wr:=run_loadCellsFrom_list Tryz.prog _ _ vs K ((HV.out _ _ _ hvs).trans HK.out.symm) (fun i v hi=>by
    rw [HK.out,Addr.add_lit]
    exact kw.some (hce i v hi))
   have HG:=Lib.hid hg;have hcall:=HP.out _ _ wr (List.getElem_mem hlt) hvs kw;clear hce hvs hg;generalize xs[k]=y at *;cases hq:p y with
   | true=>
    rw [hq]at hcall;have HC:=Lib.hid hcall;have HQ:=Lib.hid hq;clear hcall hq
    go_wp2_with (go_at_fn g;(with_reducible refine HC.out.mono ?_);rintro e w' ⟨rfl,hb'⟩)
    go_ret;exact⟨qaf (qc8 p xs k y HG.out HQ.out A.out).symm,Bel.of kw hb'⟩
   | false=>
    rw [hq]at hcall;have HC:=Lib.hid hcall;have HQ:=Lib.hid hq;clear hcall hq
    go_wp2_with (go_at_fn g;(with_reducible refine HC.out.mono ?_);rintro e w' ⟨rfl,hb'⟩;have k2:=Bel.of kw hb';clear hb')
    refine⟨⟨k+1,by omega,rfl,k2,Lib.hid fun j z hj hz=>?_⟩,by simp [intOf];omega⟩;by_cases e:j=k
    ·subst e
     have:=HG.out;rw [hz]at this;cases this;exact HQ.out
    ·exact A.out j z (by omega) hz
  ·have hki : ¬(k:Int)<(xs.length:Int):=by omega
   have hkl:k=xs.length:=by omega
   subst hkl;go_wp2;go_ret;exact⟨qaf (qbo p xs A.out).symm,kw.out⟩
theorem cf_Prog {α:Type} (V:World->List Value->α->Prop) (hV : ∀W vs x,V W vs x->vs.length=3) (g:Nat) (lb:Array Value) (eg : ∀args w,(callFunc g args).run Tryz.prog w=.ok (.enter g args) w) (v:Value) (xs:List α) (p:α->Bool) (w:World)
  (hv:Sv 3 V w v xs) (hp:qbb α V w xs p g lb) :
  Calls Tryz.prog 169 #[v,.func (.func g) #[] lb] w fun e w'=>e=.returned (.bool (xs.any p))/\Below w.heap.size w w':=by
 have ci:=Lib.hid (fun W (h:Sv 3 V W v xs) (h2:qbb α V W xs p g lb)=>ix_Prog V hV g lb eg v xs p W h h2);have HV:=Lib.hid hv;have HP:=Lib.hid hp;have ha:=Lib.hid (qc9 p xs);clear hv hp hV;generalize idxL p xs=R at ci ha
 go_enter Tryz.func169,Tryz.ntmps169
 go_wp2_with (go_at_call 55;(with_reducible refine(ci.out _ HV.out HP.out).mono ?_);rintro e w1 ⟨rfl,h1⟩)
 go_ret;exact⟨qa3 ha.out,h1⟩
theorem qlf (w:World):(isAgg 38).run Tryz.prog w=.ok true w:=by kernel_rfl
theorem qil (w:World):(Go.sizeOf 38).run Tryz.prog w=.ok 3 w:=by kernel_rfl
theorem qme {α:Type} (V:World->List Value->α->Prop) (hV : ∀W vs x,V W vs x->vs.length=3) (g:Nat) (lb:Array Value) (eg : ∀args w,(callFunc g args).run Tryz.prog w=.ok (.enter g args) w) (v:Value) (xs:List α) (p:α->Bool) (w:World)
  (hv:Sv 3 V w v xs) (hp:qbb α V w xs p g lb) :
  Calls Tryz.prog 64 #[v,.func (.func g) #[] lb] w fun e w'=>e=.returned (.int .i64 (idxL p xs))/\Below w.heap.size w w':=by
 obtain⟨q,c,rfl,hl,hcap,hel⟩:=hv;have EL:=Lib.hid hel;have HP:=Lib.hid hp;have HV:=Lib.hid hV;have aE:=qlf;obtain⟨K,hK⟩ : ∃K,K=3:=⟨_,rfl⟩;have zE : ∀w,(Go.sizeOf 38).run Tryz.prog w=.ok K w:=hK ▸ qil;have HK:=Lib.hid hK;clear hel hp hV hK
 go_enter Tryz.func64,Tryz.ntmps64
 go_wp2
 go_loopw [5,8] (fun _ i wr => ∃k:Nat,k<=xs.length/\i=.int .i64 k/\Bel w wr/\Hid (∀j y,j<k->xs[j]? = some y->p y=false)) (fun _ i _=>xs.length-(intOf i).toNat)
 case atStart=>exact⟨0,by omega,rfl,Bel.refl _,Lib.hid fun j y hj=>absurd hj (Nat.not_lt_zero _)⟩
 case round=>
  obtain⟨k,hk,rfl,kw,A⟩:=hrel;by_cases hlt:k<xs.length
  ·have hg:xs[k]? = some xs[k]:=List.getElem?_eq_getElem hlt
   obtain⟨b,off,rfl,hbs,vs,hce,hvs⟩:=EL.out k _ hg;have hki:(k:Int)<(xs.length:Int):=by omega
   have l2:Sem.run Tryz.prog (loadCellsFrom ⟨b,off+k*K,none⟩ 0 K #[]) wr=.ok vs.toArray wr:=run_loadCellsFrom_list Tryz.prog _ _ vs K ((HV.out _ _ _ hvs).trans HK.out.symm) (fun i v hi=>by
    rw [HK.out,Addr.add_lit]
    exact kw.some (hce i v hi))
   have HG:=Lib.hid hg;have hcall:=HP.out _ _ wr (List.getElem_mem hlt) hvs kw;clear hce hvs hg;generalize xs[k]=y at *;cases hq:p y with
   | true=>
    rw [hq]at hcall;have HC:=Lib.hid hcall;have HQ:=Lib.hid hq;clear hcall hq
    go_wp2_with (go_at_fn g;(with_reducible refine HC.out.mono ?_);rintro e w' ⟨rfl,hb'⟩)
    go_ret;exact⟨qaf (qc8 p xs k y HG.out HQ.out A.out).symm,Bel.of kw hb'⟩
   | false=>
    rw [hq]at hcall;have HC:=Lib.hid hcall;have HQ:=Lib.hid hq;clear hcall hq
    go_wp2_with (go_at_fn g;(with_reducible refine HC.out.mono ?_);rintro e w' ⟨rfl,hb'⟩;have k2:=Bel.of kw hb';clear hb')
    refine⟨⟨k+1,by omega,rfl,k2,Lib.hid fun j z hj hz=>?_⟩,by simp [intOf];omega⟩;by_cases e:j=k
    ·subst e
     have:=HG.out;rw [hz]at this;cases this;exact HQ.out
    ·exact A.out j z (by omega) hz
  ·have hki : ¬(k:Int)<(xs.length:Int):=by omega
   have hkl:k=xs.length:=by omega
   subst hkl;go_wp2;go_ret;exact⟨qaf (qbo p xs A.out).symm,kw.out⟩
theorem qmr {α:Type} (V:World->List Value->α->Prop) (hV : ∀W vs x,V W vs x->vs.length=3) (g:Nat) (lb:Array Value) (eg : ∀args w,(callFunc g args).run Tryz.prog w=.ok (.enter g args) w) (v:Value) (xs:List α) (p:α->Bool) (w:World)
  (hv:Sv 3 V w v xs) (hp:qbb α V w xs p g lb) :
  Calls Tryz.prog 36 #[v,.func (.func g) #[] lb] w fun e w'=>e=.returned (.bool (xs.any p))/\Below w.heap.size w w':=by
 have ci:=Lib.hid (fun W (h:Sv 3 V W v xs) (h2:qbb α V W xs p g lb)=>qme V hV g lb eg v xs p W h h2);have HV:=Lib.hid hv;have HP:=Lib.hid hp;have ha:=Lib.hid (qc9 p xs);clear hv hp hV;generalize idxL p xs=R at ci ha
 go_enter Tryz.func36,Tryz.ntmps36
 go_wp2_with (go_at_call 64;(with_reducible refine(ci.out _ HV.out HP.out).mono ?_);rintro e w1 ⟨rfl,h1⟩)
 go_ret;exact⟨qa3 ha.out,h1⟩
theorem qmw (w:World):(isAgg 44).run Tryz.prog w=.ok true w:=by kernel_rfl
theorem qje (w:World):(Go.sizeOf 44).run Tryz.prog w=.ok 4 w:=by kernel_rfl
theorem ix_Adapt {α:Type} (V:World->List Value->α->Prop) (hV : ∀W vs x,V W vs x->vs.length=4) (g:Nat) (lb:Array Value) (eg : ∀args w,(callFunc g args).run Tryz.prog w=.ok (.enter g args) w) (v:Value) (xs:List α) (p:α->Bool) (w:World)
  (hv:Sv 4 V w v xs) (hp:qbb α V w xs p g lb) :
  Calls Tryz.prog 63 #[v,.func (.func g) #[] lb] w fun e w'=>e=.returned (.int .i64 (idxL p xs))/\Below w.heap.size w w':=by
 obtain⟨q,c,rfl,hl,hcap,hel⟩:=hv;have EL:=Lib.hid hel;have HP:=Lib.hid hp;have HV:=Lib.hid hV;have aE:=qmw;obtain⟨K,hK⟩ : ∃K,K=4:=⟨_,rfl⟩;have zE : ∀w,(Go.sizeOf 44).run Tryz.prog w=.ok K w:=hK ▸ qje;have HK:=Lib.hid hK;clear hel hp hV hK
 go_enter Tryz.func63,Tryz.ntmps63
 go_wp2
 go_loopw [5,8] (fun _ i wr => ∃k:Nat,k<=xs.length/\i=.int .i64 k/\Bel w wr/\Hid (∀j y,j<k->xs[j]? = some y->p y=false)) (fun _ i _=>xs.length-(intOf i).toNat)
 case atStart=>exact⟨0,by omega,rfl,Bel.refl _,Lib.hid fun j y hj=>absurd hj (Nat.not_lt_zero _)⟩
 case round=>
  obtain⟨k,hk,rfl,kw,A⟩:=hrel;by_cases hlt:k<xs.length
  ·have hg:xs[k]? = some xs[k]:=List.getElem?_eq_getElem hlt
   obtain⟨b,off,rfl,hbs,vs,hce,hvs⟩:=EL.out k _ hg;have hki:(k:Int)<(xs.length:Int):=by omega
   have l2:Sem.run Tryz.prog (loadCellsFrom ⟨b,off+k*K,none⟩ 0 K #[]) wr=.ok vs.toArray wr:=run_loadCellsFrom_list Tryz.prog _ _ vs K ((HV.out _ _ _ hvs).trans HK.out.symm) (fun i v hi=>by
    rw [HK.out,Addr.add_lit]
    exact kw.some (hce i v hi))
   have HG:=Lib.hid hg;have hcall:=HP.out _ _ wr (List.getElem_mem hlt) hvs kw;clear hce hvs hg;generalize xs[k]=y at *;cases hq:p y with
   | true=>
    rw [hq]at hcall;have HC:=Lib.hid hcall;have HQ:=Lib.hid hq;clear hcall hq
    go_wp2_with (go_at_fn g;(with_reducible refine HC.out.mono ?_);rintro e w' ⟨rfl,hb'⟩)
    go_ret;exact⟨qaf (qc8 p xs k y HG.out HQ.out A.out).symm,Bel.of kw hb'⟩
   | false=>
    rw [hq]at hcall;have HC:=Lib.hid hcall;have HQ:=Lib.hid hq;clear hcall hq
    go_wp2_with (go_at_fn g;(with_reducible refine HC.out.mono ?_);rintro e w' ⟨rfl,hb'⟩;have k2:=Bel.of kw hb';clear hb')
    refine⟨⟨k+1,by omega,rfl,k2,Lib.hid fun j z hj hz=>?_⟩,by simp [intOf];omega⟩;by_cases e:j=k
    ·subst e
     have:=HG.out;rw [hz]at this;cases this;exact HQ.out
    ·exact A.out j z (by omega) hz
  ·have hki : ¬(k:Int)<(xs.length:Int):=by omega
   have hkl:k=xs.length:=by omega
   subst hkl;go_wp2;go_ret;exact⟨qaf (qbo p xs A.out).symm,kw.out⟩
theorem cf_Adapt {α:Type} (V:World->List Value->α->Prop) (hV : ∀W vs x,V W vs x->vs.length=4) (g:Nat) (lb:Array Value) (eg : ∀args w,(callFunc g args).run Tryz.prog w=.ok (.enter g args) w) (v:Value) (xs:List α) (p:α->Bool) (w:World)
  (hv:Sv 4 V w v xs) (hp:qbb α V w xs p g lb) :
  Calls Tryz.prog 34 #[v,.func (.func g) #[] lb] w fun e w'=>e=.returned (.bool (xs.any p))/\Below w.heap.size w w':=by
 have ci:=Lib.hid (fun W (h:Sv 4 V W v xs) (h2:qbb α V W xs p g lb)=>ix_Adapt V hV g lb eg v xs p W h h2);have HV:=Lib.hid hv;have HP:=Lib.hid hp;have ha:=Lib.hid (qc9 p xs);clear hv hp hV;generalize idxL p xs=R at ci ha
 go_enter Tryz.func34,Tryz.ntmps34
 go_wp2_with (go_at_call 63;(with_reducible refine(ci.out _ HV.out HP.out).mono ?_);rintro e w1 ⟨rfl,h1⟩)
 go_ret;exact⟨qa3 ha.out,h1⟩
theorem so_Op {α:Type} (V:World->List Value->α->Prop) (hV : ∀W vs x,V W vs x->vs.length=8) (g:Nat) (lb:Array Value) (eg : ∀args w,(callFunc g args).run Tryz.prog w=.ok (.enter g args) w) (v:Value) (xs:List α) (p:α->Bool) (w:World)
  (hv:Sv 8 V w v xs) (hp:qbb α V w xs p g lb) :
  Calls Tryz.prog 116 #[v,.func (.func g) #[] lb] w fun e w'=>e=.returned (.bool (xs.any p))/\Bel w w':=by
 have ci:=Lib.hid (fun W (h:Sv 8 V W v xs) (h2:qbb α V W xs p g lb)=>cf_Op V hV g lb eg v xs p W h h2);have HV:=Lib.hid hv;have HP:=Lib.hid hp;clear hv hp hV;generalize xs.any p=R at ci
 go_enter Tryz.func116,Tryz.ntmps116
 go_wp2_with (go_at_call 175;(with_reducible refine(ci.out _ HV.out HP.out).mono ?_);rintro e w1 ⟨rfl,h1⟩)
 go_ret;exact⟨rfl,h1⟩
theorem qe9 {α:Type} (V:World->List Value->α->Prop) (hV : ∀W vs x,V W vs x->vs.length=3) (g:Nat) (lb:Array Value) (eg : ∀args w,(callFunc g args).run Tryz.prog w=.ok (.enter g args) w) (v:Value) (xs:List α) (p:α->Bool) (w:World)
  (hv:Sv 3 V w v xs) (hp:qbb α V w xs p g lb) :
  Calls Tryz.prog 110 #[v,.func (.func g) #[] lb] w fun e w'=>e=.returned (.bool (xs.any p))/\Bel w w':=by
 have ci:=Lib.hid (fun W (h:Sv 3 V W v xs) (h2:qbb α V W xs p g lb)=>cf_Prog V hV g lb eg v xs p W h h2);have HV:=Lib.hid hv;have HP:=Lib.hid hp;clear hv hp hV;generalize xs.any p=R at ci
 go_enter Tryz.func110,Tryz.ntmps110
 go_wp2_with (go_at_call 169;(with_reducible refine(ci.out _ HV.out HP.out).mono ?_);rintro e w1 ⟨rfl,h1⟩)
 go_ret;exact⟨rfl,h1⟩
theorem qde {α:Type} (V:World->List Value->α->Prop) (hV : ∀W vs x,V W vs x->vs.length=5) (g:Nat) (lb:Array Value) (eg : ∀args w,(callFunc g args).run Tryz.prog w=.ok (.enter g args) w) (v:Value) (xs:List α) (p:α->Bool) (w:World)
  (hv:Sv 5 V w v xs) (hp:qbb α V w xs p g lb) :
  Calls Tryz.prog 112 #[v,.func (.func g) #[] lb] w fun e w'=>e=.returned (.bool (xs.any p))/\Bel w w':=by
 have ci:=Lib.hid (fun W (h:Sv 5 V W v xs) (h2:qbb α V W xs p g lb)=>cf_Enum V hV g lb eg v xs p W h h2);have HV:=Lib.hid hv;have HP:=Lib.hid hp;clear hv hp hV;generalize xs.any p=R at ci
 go_enter Tryz.func112,Tryz.ntmps112
 go_wp2_with (go_at_call 170;(with_reducible refine(ci.out _ HV.out HP.out).mono ?_);rintro e w1 ⟨rfl,h1⟩)
 go_ret;exact⟨rfl,h1⟩
theorem qh0 {α:Type} (V:World->List Value->α->Prop) (hV : ∀W vs x,V W vs x->vs.length=3) (g:Nat) (lb:Array Value) (eg : ∀args w,(callFunc g args).run Tryz.prog w=.ok (.enter g args) w) (v:Value) (xs:List α) (p:α->Bool) (w:World)
  (hv:Sv 3 V w v xs) (hp:qbb α V w xs p g lb) :
  Calls Tryz.prog 120 #[v,.func (.func g) #[] lb] w fun e w'=>e=.returned (.bool (xs.any p))/\Bel w w':=by
 have ci:=Lib.hid (fun W (h:Sv 3 V W v xs) (h2:qbb α V W xs p g lb)=>ql6 V hV g lb eg v xs p W h h2);have HV:=Lib.hid hv;have HP:=Lib.hid hp;clear hv hp hV;generalize xs.any p=R at ci
 go_enter Tryz.func120,Tryz.ntmps120
 go_wp2_with (go_at_call 177;(with_reducible refine(ci.out _ HV.out HP.out).mono ?_);rintro e w1 ⟨rfl,h1⟩)
 go_ret;exact⟨rfl,h1⟩
end Go.Proofs.YtgpjhibdongmbaaGreatDoor
