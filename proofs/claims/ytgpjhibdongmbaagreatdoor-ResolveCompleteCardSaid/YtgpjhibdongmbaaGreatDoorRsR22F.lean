import Derived.Test.YtgpjhibdongmbaaGreatDoorRsR22D
import Derived.Test.YtgpjhibdongmbaaGreatDoorRsThm
set_option maxRecDepth 100000
set_option maxHeartbeats 4000000
set_option linter.unusedVariables false
set_option linter.unusedSimpArgs false
namespace Go.Proofs.YtgpjhibdongmbaaGreatDoor
section
open Go.RowKit Ck Rs
def befU (l:List POp):Nat->Int
 | 0 => -1
 | k+1=>match l[k]? with|some o=>o.un|none => -1
def qdq (g:PProg):Option Int->Bool
 | some n=>decide (g.uns=n)
 | none=>false
theorem qkp (g:PProg):qcg g=qdq g (qbr 0 (-1) g.ops):=by
 unfold qcg qdq;cases qbr 0 (-1) g.ops <;> rfl
theorem befU_at {l:List POp} {k:Nat} {x:POp} (h:l[k]? = some x):befU l (k+1)=x.un:=by
 show(match l[k]? with|some o=>o.un|none => -1)=x.un
 rw [h]
theorem qlv (g:PProg) (vs:List Value) (w:World) (hv:VProg w vs g) :
  Calls Tryz.prog 81 #[.agg vs.toArray] w fun e' w'=>e'=.returned (.bool (qcg g))/\Bel w w':=by
 obtain⟨oq,oc,rfl,h1,l1⟩:=hv.form;have hS0:=(ST.start w).addbox #[.string (S g.name),.slice oq g.ops.length oc,.int .i64 g.uns] 52;have HS:=Lib.hid hS0;obtain⟨_,_,he,_,_,hel⟩:=h1;cases he;have EL:=Lib.hid hel;have V:=Lib.hid (show qdq g (qbr 0 (befU g.ops 0) (g.ops.drop 0))=qcg g from(qkp g).symm);generalize qcg g=T at V;clear hv hel hS0
 go_enter Tryz.func81,Tryz.ntmps81
 go_wp2
 go_loopw [3,4] (fun n i wr => ∃(k N:Nat),k<=g.ops.length/\N<=k/\n=.int .i64 N/\i=.int .i64 k/\Hid (ST w [] [⟨w.heap.size,#[.string (S g.name),.slice oq g.ops.length oc,.int .i64 g.uns],52⟩] wr)/\Hid (qdq g (qbr (N:Int) (befU g.ops k) (g.ops.drop k))=T)) (fun _ i _=>g.ops.length-(intOf i).toNat)
 case atStart=>exact⟨0,0,by omega,by omega,rfl,rfl,HS,V⟩
 case round=>as_aux_lemma=>
  clear V HS;obtain⟨k,N,hk,hN,rfl,rfl,hS,hx⟩:=hrel;have f1:=hS.out.cell 0 rfl 1;have f2:=hS.out.cell 0 rfl 2;dsimp only at f1 f2;by_cases hlt:k<g.ops.length
  ·have hg:g.ops[k]? = some g.ops[k]:=List.getElem?_eq_getElem hlt
   obtain⟨gb,off,rfl,hbs,vs,hce,hvs⟩:=EL.out k _ hg;obtain rfl:vs=opC g.ops[k]:=hvs;have hki:(k:Int)<(g.ops.length:Int):=by omega
   have hk0:(0:Int)<=(k:Int):=by omega
   have hst:=hx.out;rw [List.drop_eq_getElem_cons hlt]at hst;have hb1:=befU_at hg;clear hx;generalize g.ops[k]=x at *;have e7:=hS.out.bel.some (hce 7 _ rfl);clear hce;by_cases a1:x.un=(N:Int)
   ·have a1b:(x.un == (N:Int))=true:=by rw [a1];simp
    have HST:=Lib.hid (show qdq g (qbr ((N+1:Nat):Int) (befU g.ops (k+1)) (g.ops.drop (k+1)))=T by rw [←hst,hb1,qbr,if_pos a1];rfl);have n1:(N:Int)+1<=9223372036854775807:=by omega
    clear hst hg a1 EL hb1;go_wp2;go_roundw
    case rel=>exact⟨k+1,N+1,by omega,by omega,by go_num,by go_num,hS,HST⟩
    case measure=>simp [intOf];omega
   ·have a1b:(x.un == (N:Int))=false:=beq_eq_false_iff_ne.2 a1
    by_cases a2:x.un = -1
    ·have a2b:(x.un != (-1))=false:=by rw [a2];rfl
     have HST:=Lib.hid (show qdq g (qbr (N:Int) (befU g.ops (k+1)) (g.ops.drop (k+1)))=T by rw [←hst,hb1,qbr,if_neg a1,if_neg (fun h=>h.1 a2)]);clear hst hg a1 a2 EL hb1;go_wp2;go_roundw
     case rel=>exact⟨k+1,N,by omega,by omega,rfl,by go_num,hS,HST⟩
     case measure=>simp [intOf];omega
    ·have a2b:(x.un != (-1))=true:=bne_iff_ne.2 a2
     cases k with
     | zero=>
      have k0:(((0:Nat):Int) == 0)=true:=rfl;have HST:=Lib.hid (show T=false by rw [←hst,qbr,if_neg a1,if_pos ⟨a2,fun h=>a2 h.symm⟩];rfl);clear hst hg a1 EL hb1;go_wp2;go_ret;exact⟨by rw [HST.out];rfl,hS.out.bel⟩
     | succ m=>
      have hml:m<g.ops.length:=by omega
      have hgm:g.ops[m]? = some g.ops[m]:=List.getElem?_eq_getElem hml;obtain⟨gb2,off2,hq2,hbs2,vs2,hce2,hvs2⟩:=EL.out m _ hgm;cases hq2;obtain rfl:vs2=opC g.ops[m]:=hvs2;have hbm:=befU_at hgm;rw [hbm]at hst;clear EL;generalize g.ops[m]=y at *;have y7:=hS.out.bel.some (hce2 7 _ rfl);clear hce2;have k1:(((m+1:Nat):Int) == 0)=false:=beq_eq_false_iff_ne.2 (by omega);have k2:((m+1:Nat):Int)-1=(m:Int):=by omega
      have k3:(m:Int)<(g.ops.length:Int):=by omega
      have k4:(0:Int)<=(m:Int):=by omega
      by_cases a3:y.un=x.un
      ·have a3b:(y.un != x.un)=false:=by rw [a3];simp
       have HST:=Lib.hid (show qdq g (qbr (N:Int) (befU g.ops (m+1+1)) (g.ops.drop (m+1+1)))=T by rw [←hst,hb1,qbr,if_neg a1,if_neg (fun h=>h.2 a3)]);clear hst hg a1 a2 a3 hgm hb1 hbm;go_wp2;go_roundw
       case rel=>exact⟨m+1+1,N,by omega,by omega,rfl,by go_num,hS,HST⟩
       case measure=>simp [intOf];omega
      ·have a3b:(y.un != x.un)=true:=bne_iff_ne.2 a3
       have HST:=Lib.hid (show T=false by rw [←hst,qbr,if_neg a1,if_pos ⟨a2,a3⟩];rfl);clear hst hg a1 hgm hb1 hbm;go_wp2;go_ret;exact⟨by rw [HST.out];rfl,hS.out.bel⟩
  ·have hki : ¬(k:Int)<(g.ops.length:Int):=by omega
   have HST:=Lib.hid (show decide (g.uns=(N:Int))=T by rw [←hx.out,show g.ops.drop k=[]from List.drop_eq_nil_of_le (by omega)];rfl);clear hx EL;go_wp2;go_ret;exact⟨qa3 (by rw [←HST.out];rfl),hS.out.bel⟩
end
section
open Go.RowKit Ck Rs
def Wk (P:Prop) (w:World) (e:Ending) (w':World):Prop := ∃b,e=.returned (.bool b)/\(b=true->P)/\Bel w w'
def Im (b:Bool) (P:Prop):Prop:=b=true->P
def AllTo (G:Nat->Prop) (k:Nat):Prop := ∀i,i<k->G i
theorem AllTo.zero {G:Nat->Prop}:AllTo G 0:=fun i h=>absurd h (by omega)
theorem AllTo.succ {G:Nat->Prop} {k:Nat} (h:AllTo G k) (hk:G k):AllTo G (k+1):=fun i hi=>by
 rcases Nat.lt_succ_iff_lt_or_eq.1 hi with h1|h1
 ·exact h i h1
 ·subst h1;exact hk
theorem im_no {P:Prop}:Im false P:=fun h=>by cases h
theorem qmf {P:Prop} (h:P):Im true P:=fun _=>h
theorem im_to {b:Bool} {P Q:Prop} (h:Im b P) (f:P->Q):Im b Q:=fun x=>f (h x)
theorem qcw {b:Bool} {A:Prop} {G:Nat->Prop} {k:Nat} (h:Im true (A/\AllTo G k)) (f:b=true->G k):Im b (A/\AllTo G (k+1)):=fun x=>⟨(h rfl).1,(h rfl).2.succ (f x)⟩
theorem qlh {b:Bool} {P Q:Prop} {w w':World} (h:Im b P) (f:P->Q) (k:Bel w w'):Wk Q w (.returned (.bool b)) w':=⟨b,rfl,fun x=>f (h x),k⟩
theorem wk_no {P:Prop} {w w':World} (k:Bel w w'):Wk P w (.returned (.bool false)) w':=⟨false,rfl,fun h=>(by cases h),k⟩
def RiseAt {α:Type} (lt:α->α->Bool) (l:List α) (i:Nat):Prop := ∀j x y,i=j+1->l[j]? = some x->l[i]? = some y->lt x y=true
theorem RiseAt.zero {α:Type} {lt:α->α->Bool} {l:List α}:RiseAt lt l 0:=fun j _ _ h=>by cases h
theorem RiseAt.suc {α:Type} {lt:α->α->Bool} {l:List α} {j:Nat} {x y:α} (hx:l[j]? = some x) (hy:l[j+1]? = some y) (h:lt x y=true):RiseAt lt l (j+1):=fun j' x' y' e hx' hy'=>by
 obtain rfl:j'=j:=by omega
 rw [hx]at hx';rw [hy]at hy';cases hx';cases hy';exact h
theorem qd6 {α:Type} {lt:α->α->Bool} {l:List α} (h:AllTo (RiseAt lt l) l.length):qe2 lt l 1=true:=by
 unfold qe2;rw [List.all_eq_true];intro i hi;have h1:=List.mem_range'_1.1 hi;obtain⟨j,rfl⟩ : ∃j,i=j+1:=⟨i-1,by omega⟩;have hj:j<l.length:=by omega
 have hj1:j+1<l.length:=by omega
 have e1:l[j+1-1]? = some l[j]:=List.getElem?_eq_getElem hj;have e2:l[j+1]? = some l[j+1]:=List.getElem?_eq_getElem hj1;rw [e1,e2];exact h (j+1) hj1 j _ _ rfl (List.getElem?_eq_getElem hj) e2
theorem qdy {α:Type} {l:List α} {f:α->Bool} (h : ∀i x,i<l.length->l[i]? = some x->f x=true):l.all f=true:=by
 rw [List.all_eq_true];intro x hx;obtain⟨i,hi⟩:=List.getElem?_of_mem hx;exact h i x (List.getElem?_eq_some_iff.1 hi).1 hi
def At {α:Type} (l:List α) (P:α->Prop) (i:Nat):Prop := ∀x,l[i]? = some x->P x
theorem At.mk {α:Type} {l:List α} {P:α->Prop} {i:Nat} {x:α} (hx:l[i]? = some x) (h:P x):At l P i:=fun y hy=>by
 rw [hx]at hy;cases hy;exact h
theorem all_at {α:Type} {l:List α} {f:α->Bool} (h:AllTo (At l fun x=>f x=true) l.length):l.all f=true:=qdy fun i x hi hx=>h i hi x hx
def ltP (a b:PProg):Bool:=ltS a.name b.name
def ltE (a b:PEnum):Bool:=ltS a.name b.name
def ltO (a b:POp):Bool:=decide (a.num<b.num)
def ltI (a b:PItem):Bool:=decide (a.num<b.num)
def OrdP (p:PPlan) (i:Nat):Prop:=RiseAt ltP p.progs i/\At p.progs (fun g=>AllTo (RiseAt ltO g.ops) g.ops.length) i
def OrdE (p:PPlan) (i:Nat):Prop:=RiseAt ltE p.enums i/\At p.enums (fun g=>AllTo (RiseAt ltI g.items) g.items.length) i
theorem qk8 {p:PPlan} (h1:AllTo (OrdP p) p.progs.length) (h2:AllTo (OrdE p) p.enums.length):qcc p=true:=by
 unfold qcc;rw [Bool.and_eq_true,Bool.and_eq_true,Bool.and_eq_true];exact⟨⟨qd6 (lt:=ltP) fun i hi=>(h1 i hi).1,qdy fun i g hi hg=>qd6 (lt:=ltO) ((h1 i hi).2 g hg)⟩,qd6 (lt:=ltE) fun i hi=>(h2 i hi).1,qdy fun i g hi hg=>qd6 (lt:=ltI) ((h2 i hi).2 g hg)⟩
def Apt {α:Type} (f:α->Str) (l:List α) (k:Nat):Prop:=AllTo (fun n => ∀x y,l[n]? = some x->l[k]? = some y->f x ≠ f y) k
theorem qle {α:Type} {f:α->Str} {l:List α} (h:AllTo (Apt f l) l.length):Rs.apart f l=true:=by
 unfold Rs.apart;rw [List.all_eq_true];intro k hk;have hkl:k<l.length:=List.mem_range.1 hk;unfold newAt;rw [List.getElem?_eq_getElem hkl];simp only [Bool.not_eq_true',List.any_eq_false,decide_eq_true_eq];intro y hy e;obtain⟨n,hn⟩:=List.getElem?_of_mem hy;rw [List.getElem?_take]at hn
 split at hn
 ·rename_i hnk
  exact h k hkl n hnk y l[k] hn (List.getElem?_eq_getElem hkl) e
 ·cases hn
def SinP (p:PPlan) (i:Nat):Prop:=At p.progs (fun g=>AllTo (At p.enums fun e=>g.name ≠ e.name) p.enums.length/\AllTo (Apt POp.name g.ops) g.ops.length) i
def SinE (p:PPlan) (i:Nat):Prop:=At p.enums (fun e=>AllTo (Apt PItem.name e.items) e.items.length) i
theorem qlp {p:PPlan} (h1:AllTo (SinP p) p.progs.length) (h2:AllTo (SinE p) p.enums.length):qek p=true:=by
 unfold qek;rw [Bool.and_eq_true];refine⟨qdy fun i g hi hg=>?_,qdy fun i e hi he=>qle (h2 i hi e he)⟩;unfold sinG;rw [Bool.and_eq_true];exact⟨qdy fun k e hk he=>decide_eq_true ((h1 i hi g hg).1 k hk e he),qle (h1 i hi g hg).2⟩
def RanI (e:PEnum) (k:Nat):Prop:=At e.items (fun x=>x.num<=2147483647/\(0<k ∨ x.num=0)/\qb6 e.res x.num=false) k
def RanS (l:List PSpan) (k:Nat):Prop:=At l (fun x=>0<=x.lo/\x.hi<=2147483647/\x.lo<=x.hi) k/\∀j x y,k=j+1->l[j]? = some x->l[k]? = some y->x.hi<y.lo
def RanP (p:PPlan) (i:Nat):Prop:=At p.progs (fun g=>AllTo (At g.ops fun o=>1<=o.num/\o.num<=65535) g.ops.length) i
def RanE (p:PPlan) (i:Nat):Prop:=At p.enums (fun e=>AllTo (RanI e) e.items.length/\AllTo (RanS e.res) e.res.length) i
theorem qm0 {p:PPlan} (h1:AllTo (RanP p) p.progs.length) (h2:AllTo (RanE p) p.enums.length):qen p=true:=by
 unfold qen;rw [Bool.and_eq_true];refine⟨qdy fun i g hi hg=>qdy fun k o hk ho=>decide_eq_true (h1 i hi g hg k hk o ho),qdy fun i e hi he=>?_⟩;obtain⟨a,b⟩:=h2 i hi e he;unfold ranE;rw [Bool.and_eq_true,List.all_eq_true,List.all_eq_true];refine⟨fun k hk=>?_,fun k hk=>?_⟩
 ·have hkl:k<e.items.length:=List.mem_range.1 hk
  unfold ranI;rw [List.getElem?_eq_getElem hkl];obtain⟨x1,x2,x3⟩:=a k hkl _ (List.getElem?_eq_getElem hkl);show(decide _ && !qb6 e.res _)=true
  rw [x3,decide_eq_true ⟨x1,x2⟩];rfl
 ·have hkl:k<e.res.length:=List.mem_range.1 hk
  unfold ranS;rw [List.getElem?_eq_getElem hkl];obtain⟨x1,x2,x3⟩:=(b k hkl).1 _ (List.getElem?_eq_getElem hkl);show(decide _ && _)=true
  rw [decide_eq_true ⟨x1,x2,x3⟩,Bool.true_and,Bool.or_eq_true];rcases Nat.eq_zero_or_pos k with h0|h0
  ·exact .inl (decide_eq_true h0)
  ·obtain⟨j,rfl⟩ : ∃j,k=j+1:=⟨k-1,by omega⟩
   have hj:j<e.res.length:=by omega
   right;have e1:e.res[j+1-1]? = some e.res[j]:=List.getElem?_eq_getElem hj;rw [e1];exact decide_eq_true ((b (j+1) hkl).2 j _ _ rfl (List.getElem?_eq_getElem hj) (List.getElem?_eq_getElem hkl))
def ArgI (x:PItem):Prop:=argI x=true
def ArgE (p:PPlan) (i:Nat):Prop:=At p.enums (fun e=>e.notes.length=0/\AllTo (At e.items ArgI) e.items.length) i
def ArgP (p:PPlan) (i:Nat):Prop:=At p.progs (fun g=>qcg g=true/\AllTo (At g.ops fun o=>qa4 p o=true) g.ops.length) i
theorem qgt {p:PPlan} (h1:AllTo (ArgE p) p.enums.length) (h2:AllTo (ArgP p) p.progs.length):arguments p=true:=by
 unfold arguments;rw [Bool.and_eq_true];refine⟨qdy fun i e hi he=>?_,qdy fun i g hi hg=>?_⟩
 ·unfold argE
  rw [Bool.and_eq_true];exact⟨decide_eq_true (h1 i hi e he).1,all_at (h1 i hi e he).2⟩
 ·unfold argG
  rw [Bool.and_eq_true];exact⟨(h2 i hi g hg).1,all_at (h2 i hi g hg).2⟩
theorem argI_nil {x:PItem} (h:x.notes.length=0):ArgI x:=by
 unfold ArgI argI;rw [List.length_eq_zero_iff.1 h]
theorem argI_one {x:PItem} {n:PNote} (h:x.notes=[n]) (h1:n.name=qmv) (h2:qam x.notes 4=0):ArgI x:=by
 unfold ArgI argI;rw [h]at *;show(decide _ && decide _)=true
 rw [decide_eq_true h1,decide_eq_true h2];rfl
end
section
open Go.RowKit Ck Rs
theorem qjq (p:PPlan) (vs:List Value) (w:World) (hv:VPlan w vs p) :
  Calls Tryz.prog 50 #[.agg vs.toArray] w (Wk (qcc p=true) w):=by
 obtain⟨q1,q2,c1,c2,rfl,h1,h2,l1,l2⟩:=hv.form;have hS0:=(ST.start w).addbox #[.slice q1 p.progs.length c1,.slice q2 p.enums.length c2] 25;have HS:=Lib.hid hS0;obtain⟨_,_,he,_,_,hel⟩:=h1;cases he;have EG:=Lib.hid hel;obtain⟨_,_,he,_,_,hel2⟩:=h2;cases he;have EE:=Lib.hid hel2;clear hv hel hel2 hS0
 go_enter Tryz.func50,Tryz.ntmps50
 go_upto_region 3 with(fail)
 go_loopw [3,4] (fun b i wr => ∃(k:Nat) (B:Bool),k<=p.progs.length/\b=.bool B/\i=.int .i64 k/\Hid (ST w [] [⟨w.heap.size,#[.slice q1 p.progs.length c1,.slice q2 p.enums.length c2],25⟩] wr)/\Hid (Im B (AllTo (OrdP p) k))) (fun _ i _=>p.progs.length-(intOf i).toNat)
 case atStart=>exact⟨0,true,by omega,rfl,rfl,HS,Lib.hid (qmf AllTo.zero)⟩
 case round=>as_aux_lemma=>
  clear HS;obtain⟨k,B,hk,rfl,rfl,hS,hI⟩:=hrel;have f0:=hS.out.cell 0 rfl 0;dsimp only at f0;by_cases hlt:k<p.progs.length
  ·have hki:(k:Int)<(p.progs.length:Int):=by omega
   have hk0:(0:Int)<=(k:Int):=by omega
   have hg:p.progs[k]? = some p.progs[k]:=List.getElem?_eq_getElem hlt;have HG:=Lib.hid hg;obtain⟨gb,off,rfl,hbs,vs,hce,hvs⟩:=EG.out k _ hg
   have NX:=Lib.hid (show ∀m,k=m+1->∃(y:PProg),p.progs[m]? = some y/\Hid (wr.cell? ⟨gb,off+m*3,none⟩=some (.string (S y.name)))from fun m hm=>by
    obtain⟨y,hy⟩ : ∃y,p.progs[m]? = some y:=⟨_,List.getElem?_eq_getElem (by omega)⟩;obtain⟨gb2,off2,hq2,hbs2,vs2,hce2,hvs2⟩:=EG.out m y hy;cases hq2;obtain⟨oq2,oc2,rfl,_⟩:=hvs2.form;have e:=hS.out.bel.some (hce2 0 _ rfl);rw [Nat.add_zero]at e
    exact⟨y,hy,Lib.hid e⟩)
   obtain⟨oq,oc,rfl,hso,_⟩:=hvs.form;obtain⟨_,_,he,_,_,hei⟩:=hso;cases he;have EI:=Lib.hid hei;clear hei;clear hvs EG EE;generalize p.progs[k]=x at *;have e0:=hS.out.bel.some (hce 0 _ rfl);rw [Nat.add_zero]at e0;have EC:=Lib.hid (hce 1 _ rfl);clear hce
   go_upto_region 5 with(fail)
   go_cut [3] (fun s3 wx => ∃B2:Bool,s3=.bool B2/\Hid (ST w [] [⟨w.heap.size,#[.slice (some ⟨gb,off,none⟩) p.progs.length c1,.slice q2 p.enums.length c2],25⟩] wx)/\Hid (Im B2 ((AllTo (OrdP p) k)/\RiseAt ltP p.progs k)))
   case first=>
    clear EC EI;cases B with
    | false=>
     clear NX hI hg HG;obtain⟨wd,hwd⟩ : ∃wd,wd=wr.drew:=⟨_,rfl⟩;have kwd:Bel wr wd:=by rw [hwd];exact(Bel.refl wr).drew
     have HSD:=Lib.hid (hS.out.belw kwd);have HWD:=Lib.hid hwd;clear hwd;have f0d:=HSD.out.cell 0 rfl 0;dsimp only at f0d
     refine qa8 18 (by kernel_rfl) (by kernel_rfl) HWD.out ?_
     (simp only [List.take_succ_cons,List.take_zero,List.drop_succ_cons,List.drop_zero]);(repeat (first|((with_reducible refine wpStill_step (fun K hK=>?_));go_simp;(with_reducible refine hK _ ?_);clear hK K)|((with_reducible refine qab ?_ ?_);(with_unfolding_all rfl);(simp only [Act.put,List.setIfInBounds_toArray,List.set_cons_zero,List.set_cons_succ]))));(with_reducible refine wpStill_nil ?_)
     go_wp2;go_meet
     exact⟨false,rfl,HSD,Lib.hid im_no⟩
    | true=>
     by_cases hk0:k=0
     ·have hq:((k:Int) == 0)=true:=by rw [hk0];rfl
      have HI:=Lib.hid (show Im true ((AllTo (OrdP p) k)/\RiseAt ltP p.progs k)from im_to hI.out fun z=>⟨z,by subst hk0;exact RiseAt.zero⟩);clear NX hI hg HG hk0;obtain⟨wd,hwd⟩ : ∃wd,wd=wr.drew:=⟨_,rfl⟩;have kwd:Bel wr wd:=by rw [hwd];exact(Bel.refl wr).drew
      have HSD:=Lib.hid (hS.out.belw kwd);have HWD:=Lib.hid hwd;clear hwd;have f0d:=HSD.out.cell 0 rfl 0;dsimp only at f0d
      refine qa8 18 (by kernel_rfl) (by kernel_rfl) HWD.out ?_
      (simp only [List.take_succ_cons,List.take_zero,List.drop_succ_cons,List.drop_zero]);(repeat (first|((with_reducible refine wpStill_step (fun K hK=>?_));go_simp;(with_reducible refine hK _ ?_);clear hK K)|((with_reducible refine qab ?_ ?_);(with_unfolding_all rfl);(simp only [Act.put,List.setIfInBounds_toArray,List.set_cons_zero,List.set_cons_succ]))));(with_reducible refine wpStill_nil ?_)
      go_wp2;go_meet
      exact⟨true,rfl,HSD,HI⟩
     ·have hq:((k:Int) == 0)=false:=beq_eq_false_iff_ne.2 (by omega)
      obtain⟨m,hm⟩ : ∃m,k=m+1:=⟨k-1,by omega⟩;obtain⟨y,hy,hyc⟩:=NX.out m hm;obtain⟨D,hD⟩ : ∃D,D=ltP y x:=⟨_,rfl⟩;have HI:=Lib.hid (show Im D ((AllTo (OrdP p) k)/\RiseAt ltP p.progs k)from fun z=>⟨hI.out rfl,by subst hm;exact RiseAt.suc hy HG.out (hD.symm.trans z)⟩);have hltb:Op.bytesLess (S y.name).toList (S x.name).toList=D:=by rw [qgh];exact hD.symm
      have y0:=hyc.out;have jw:IntKind.i64.wrap ((k:Int)-1)=(m:Int):=by rw [show(k:Int)-1=(m:Int)by omega];exact wrap_small _ (by omega) (by omega)
      have jw2:IntKind.i64.wrap (m:Int)=(m:Int):=wrap_small _ (by omega) (by omega);have jw3:(k:Int)-1=(m:Int):=by omega
      have j0:(0:Int)<=(m:Int):=by omega
      have j1:(m:Int)<(p.progs.length:Int):=by omega
      clear NX hI hg HG hk0 hD hm hy hyc;obtain⟨wd,hwd⟩ : ∃wd,wd=wr.drew:=⟨_,rfl⟩;have kwd:Bel wr wd:=by rw [hwd];exact(Bel.refl wr).drew
      have HSD:=Lib.hid (hS.out.belw kwd);have HWD:=Lib.hid hwd;clear hwd;have f0d:=HSD.out.cell 0 rfl 0;dsimp only at f0d;have e0d:=kwd.some e0;have y0d:=kwd.some y0;clear e0 y0 f0;refine qa8 18 (by kernel_rfl) (by kernel_rfl) HWD.out ?_
      (simp only [List.take_succ_cons,List.take_zero,List.drop_succ_cons,List.drop_zero]);(repeat (first|((with_reducible refine wpStill_step (fun K hK=>?_));go_simp;(with_reducible refine hK _ ?_);clear hK K)|((with_reducible refine qab ?_ ?_);(with_unfolding_all rfl);(simp only [Act.put,List.setIfInBounds_toArray,List.set_cons_zero,List.set_cons_succ]))));(with_reducible refine wpStill_nil ?_)
      go_wp2;go_meet
      exact⟨D,rfl,HSD,HI⟩
   case rest=>
    rename_i s3 wx hcut
    obtain⟨B2,rfl,hS2,hI2⟩:=hcut;clear f0 e0 hI hS NX hg hbs;have f0:=hS2.out.cell 0 rfl 0;dsimp only at f0
    go_upto_region 7 with(fail)
    clear f0
    go_loopw [3,5] (fun b i wr => ∃(j:Nat) (B:Bool),1<=j/\j<=x.ops.length+1/\b=.bool B/\i=.int .i64 j/\Hid (ST w [] [⟨w.heap.size,#[.slice (some ⟨gb,off,none⟩) p.progs.length c1,.slice q2 p.enums.length c2],25⟩] wr)/\Hid (Im B (((AllTo (OrdP p) k)/\RiseAt ltP p.progs k)/\AllTo (RiseAt ltO x.ops) j))) (fun _ i _=>x.ops.length+1-(intOf i).toNat)
    case atStart=>exact⟨1,B2,by omega,by omega,rfl,rfl,hS2,Lib.hid (im_to hI2.out fun z=>⟨z,AllTo.zero.succ RiseAt.zero⟩)⟩
    case round=>as_aux_lemma=>
     clear hS2 hI2;obtain⟨j,B,hj1,hj2,rfl,rfl,hS,hI⟩:=hrel;have f0:=hS.out.cell 0 rfl 0;dsimp only at f0;have e1:=hS.out.bel.some EC.out;by_cases hlt2:j<x.ops.length
     ·have hji:(j:Int)<(x.ops.length:Int):=by omega
      have hj0:(0:Int)<=(j:Int):=by omega
      cases B with
      | false=>
       clear EI hI
       go_upto_region 9 with(fail)
       obtain⟨wd,hwd⟩ : ∃wd,wd=wr.drew:=⟨_,rfl⟩;have kwd:Bel wr wd:=by rw [hwd];exact(Bel.refl wr).drew
       have HSD:=Lib.hid (hS.out.belw kwd);have HWD:=Lib.hid hwd;clear hwd;have f0d:=HSD.out.cell 0 rfl 0;dsimp only at f0d
       refine qa8 23 (by kernel_rfl) (by kernel_rfl) HWD.out ?_
       (simp only [List.take_succ_cons,List.take_zero,List.drop_succ_cons,List.drop_zero]);(repeat (first|((with_reducible refine wpStill_step (fun K hK=>?_));go_simp;(with_reducible refine hK _ ?_);clear hK K)|((with_reducible refine qab ?_ ?_);(with_unfolding_all rfl);(simp only [Act.put,List.setIfInBounds_toArray,List.set_cons_zero,List.set_cons_succ]))));(with_reducible refine wpStill_nil ?_)
       go_wp2;go_roundw
       case rel=>exact⟨j+1,false,by omega,by omega,rfl,by go_num,HSD,Lib.hid im_no⟩
       case measure=>simp [intOf];omega
      | true=>
       have hg3:x.ops[j]? = some x.ops[j]:=List.getElem?_eq_getElem hlt2;obtain⟨m,hm⟩ : ∃m,j=m+1:=⟨j-1,by omega⟩;have hml:m<x.ops.length:=by omega
       have hg4:x.ops[m]? = some x.ops[m]:=List.getElem?_eq_getElem hml;obtain⟨gb3,off3,hq3,hbs3,vs3,hce3,hvs3⟩:=EI.out j _ hg3;obtain⟨gb4,off4,hq4,hbs4,vs4,hce4,hvs4⟩:=EI.out m _ hg4;subst hq3;cases hq4
       have HI:=Lib.hid (show ∀D:Bool,(ltO x.ops[m] x.ops[j]=D)->Im D (((AllTo (OrdP p) k)/\RiseAt ltP p.progs k)/\AllTo (RiseAt ltO x.ops) (j+1))from fun D hD=>qcw hI.out fun hDt=>by
        subst hm
        exact RiseAt.suc hg4 hg3 (hD.trans hDt))
       unfold ltO at HI;clear EI hI hg3 hg4;generalize x.ops[j]=y at *;generalize x.ops[m]=z at *;obtain rfl:vs3=opC y:=hvs3;obtain rfl:vs4=opC z:=hvs4;have y0:=hS.out.bel.some (hce3 0 _ rfl);have z0:=hS.out.bel.some (hce4 0 _ rfl)
       (try rw [Nat.add_zero]at y0 z0)
       clear hce3 hce4;have HII:=Lib.hid (HI.out (decide (z.num<y.num)) rfl);clear HI;have jw:IntKind.i64.wrap ((j:Int)-1)=(m:Int):=by rw [show(j:Int)-1=(m:Int)by omega];exact wrap_small _ (by omega) (by omega)
       have jw2:IntKind.i64.wrap (m:Int)=(m:Int):=wrap_small _ (by omega) (by omega);have jw3:(j:Int)-1=(m:Int):=by omega
       have j0:(0:Int)<=(m:Int):=by omega
       have j1:(m:Int)<(x.ops.length:Int):=by omega
       clear hm
       go_upto_region 9 with(fail)
       obtain⟨wd,hwd⟩ : ∃wd,wd=wr.drew:=⟨_,rfl⟩;have kwd:Bel wr wd:=by rw [hwd];exact(Bel.refl wr).drew
       have HSD:=Lib.hid (hS.out.belw kwd);have HWD:=Lib.hid hwd;clear hwd;have f0d:=HSD.out.cell 0 rfl 0;dsimp only at f0d;have e1d:=kwd.some e1;have y0d:=kwd.some y0;have z0d:=kwd.some z0;clear e1 y0 z0 f0;refine qa8 23 (by kernel_rfl) (by kernel_rfl) HWD.out ?_
       (simp only [List.take_succ_cons,List.take_zero,List.drop_succ_cons,List.drop_zero]);(repeat (first|((with_reducible refine wpStill_step (fun K hK=>?_));go_simp;(with_reducible refine hK _ ?_);clear hK K)|((with_reducible refine qab ?_ ?_);(with_unfolding_all rfl);(simp only [Act.put,List.setIfInBounds_toArray,List.set_cons_zero,List.set_cons_succ]))));(with_reducible refine wpStill_nil ?_)
       go_wp2;go_roundw
       case rel=>exact⟨j+1,decide (z.num<y.num),by omega,by omega,rfl,by go_num,HSD,HII⟩
       case measure=>simp [intOf];omega
     ·have hji : ¬(j:Int)<(x.ops.length:Int):=by omega
      have HII:=Lib.hid (show Im B (AllTo (OrdP p) (k+1))from im_to hI.out fun z=>z.1.1.succ ⟨z.1.2,At.mk HG.out fun i hi=>z.2 i (by omega)⟩);clear hI EI;go_wp2;go_roundw
      case rel=>exact⟨k+1,B,by omega,rfl,by go_num,hS,HII⟩
      case measure=>simp [intOf];omega
  ·have hki : ¬(k:Int)<(p.progs.length:Int):=by omega
   have HI:=Lib.hid (show Im B (AllTo (OrdP p) p.progs.length/\AllTo (OrdE p) 0)from im_to hI.out fun z=>⟨fun i hi=>z i (by omega),AllTo.zero⟩);clear hI EG
   go_upto_region 11 with(fail)
   clear f0 hlt hki hk
   go_loopw [3,6] (fun b i wr => ∃(k:Nat) (B:Bool),k<=p.enums.length/\b=.bool B/\i=.int .i64 k/\Hid (ST w [] [⟨w.heap.size,#[.slice q1 p.progs.length c1,.slice q2 p.enums.length c2],25⟩] wr)/\Hid (Im B (AllTo (OrdP p) p.progs.length/\AllTo (OrdE p) k))) (fun _ i _=>p.enums.length-(intOf i).toNat)
   case atStart=>exact⟨0,B,by omega,rfl,rfl,hS,HI⟩
   case round=>as_aux_lemma=>
    clear hS HI;obtain⟨k,B,hk,rfl,rfl,hS,hI⟩:=hrel;have f1:=hS.out.cell 0 rfl 1;dsimp only at f1;by_cases hlt:k<p.enums.length
    ·have hki:(k:Int)<(p.enums.length:Int):=by omega
     have hk0:(0:Int)<=(k:Int):=by omega
     have hg:p.enums[k]? = some p.enums[k]:=List.getElem?_eq_getElem hlt;have HG:=Lib.hid hg;obtain⟨gb,off,rfl,hbs,vs,hce,hvs⟩:=EE.out k _ hg
     have NX:=Lib.hid (show ∀m,k=m+1->∃(y:PEnum),p.enums[m]? = some y/\Hid (wr.cell? ⟨gb,off+m*5,none⟩=some (.string (S y.name)))from fun m hm=>by
      obtain⟨y,hy⟩ : ∃y,p.enums[m]? = some y:=⟨_,List.getElem?_eq_getElem (by omega)⟩;obtain⟨gb2,off2,hq2,hbs2,vs2,hce2,hvs2⟩:=EE.out m y hy;cases hq2;obtain⟨r12,r22,r32,d12,d22,d32,rfl,_⟩:=hvs2.form;have e:=hS.out.bel.some (hce2 0 _ rfl);rw [Nat.add_zero]at e
      exact⟨y,hy,Lib.hid e⟩)
     obtain⟨r1,r2,r3,d1,d2,d3,rfl,hsi,_⟩:=hvs.form;obtain⟨_,_,he,_,_,hei⟩:=hsi;cases he;have EI:=Lib.hid hei;clear hei;clear hvs EE;generalize p.enums[k]=x at *;have e0:=hS.out.bel.some (hce 0 _ rfl);rw [Nat.add_zero]at e0;have EC:=Lib.hid (hce 2 _ rfl);clear hce
     go_upto_region 13 with(fail)
     go_cut [3] (fun s3 wx => ∃B2:Bool,s3=.bool B2/\Hid (ST w [] [⟨w.heap.size,#[.slice q1 p.progs.length c1,.slice (some ⟨gb,off,none⟩) p.enums.length c2],25⟩] wx)/\Hid (Im B2 ((AllTo (OrdP p) p.progs.length/\AllTo (OrdE p) k)/\RiseAt ltE p.enums k)))
     case first=>
      clear EC EI;cases B with
      | false=>
       clear NX hI hg HG;obtain⟨wd,hwd⟩ : ∃wd,wd=wr.drew:=⟨_,rfl⟩;have kwd:Bel wr wd:=by rw [hwd];exact(Bel.refl wr).drew
       have HSD:=Lib.hid (hS.out.belw kwd);have HWD:=Lib.hid hwd;clear hwd;have f1d:=HSD.out.cell 0 rfl 1;dsimp only at f1d
       refine qa8 18 (by kernel_rfl) (by kernel_rfl) HWD.out ?_
       (simp only [List.take_succ_cons,List.take_zero,List.drop_succ_cons,List.drop_zero]);(repeat (first|((with_reducible refine wpStill_step (fun K hK=>?_));go_simp;(with_reducible refine hK _ ?_);clear hK K)|((with_reducible refine qab ?_ ?_);(with_unfolding_all rfl);(simp only [Act.put,List.setIfInBounds_toArray,List.set_cons_zero,List.set_cons_succ]))));(with_reducible refine wpStill_nil ?_)
       go_wp2;go_meet
       exact⟨false,rfl,HSD,Lib.hid im_no⟩
      | true=>
       by_cases hk0:k=0
       ·have hq:((k:Int) == 0)=true:=by rw [hk0];rfl
        have HI:=Lib.hid (show Im true ((AllTo (OrdP p) p.progs.length/\AllTo (OrdE p) k)/\RiseAt ltE p.enums k)from im_to hI.out fun z=>⟨z,by subst hk0;exact RiseAt.zero⟩);clear NX hI hg HG hk0;obtain⟨wd,hwd⟩ : ∃wd,wd=wr.drew:=⟨_,rfl⟩;have kwd:Bel wr wd:=by rw [hwd];exact(Bel.refl wr).drew
        have HSD:=Lib.hid (hS.out.belw kwd);have HWD:=Lib.hid hwd;clear hwd;have f1d:=HSD.out.cell 0 rfl 1;dsimp only at f1d
        refine qa8 18 (by kernel_rfl) (by kernel_rfl) HWD.out ?_
        (simp only [List.take_succ_cons,List.take_zero,List.drop_succ_cons,List.drop_zero]);(repeat (first|((with_reducible refine wpStill_step (fun K hK=>?_));go_simp;(with_reducible refine hK _ ?_);clear hK K)|((with_reducible refine qab ?_ ?_);(with_unfolding_all rfl);(simp only [Act.put,List.setIfInBounds_toArray,List.set_cons_zero,List.set_cons_succ]))));(with_reducible refine wpStill_nil ?_)
        go_wp2;go_meet
        exact⟨true,rfl,HSD,HI⟩
       ·have hq:((k:Int) == 0)=false:=beq_eq_false_iff_ne.2 (by omega)
        obtain⟨m,hm⟩ : ∃m,k=m+1:=⟨k-1,by omega⟩;obtain⟨y,hy,hyc⟩:=NX.out m hm;obtain⟨D,hD⟩ : ∃D,D=ltE y x:=⟨_,rfl⟩;have HI:=Lib.hid (show Im D ((AllTo (OrdP p) p.progs.length/\AllTo (OrdE p) k)/\RiseAt ltE p.enums k)from fun z=>⟨hI.out rfl,by subst hm;exact RiseAt.suc hy HG.out (hD.symm.trans z)⟩);have hltb:Op.bytesLess (S y.name).toList (S x.name).toList=D:=by rw [qgh];exact hD.symm
        have y0:=hyc.out;have jw:IntKind.i64.wrap ((k:Int)-1)=(m:Int):=by rw [show(k:Int)-1=(m:Int)by omega];exact wrap_small _ (by omega) (by omega)
        have jw2:IntKind.i64.wrap (m:Int)=(m:Int):=wrap_small _ (by omega) (by omega);have jw3:(k:Int)-1=(m:Int):=by omega
        have j0:(0:Int)<=(m:Int):=by omega
        have j1:(m:Int)<(p.enums.length:Int):=by omega
        clear NX hI hg HG hk0 hD hm hy hyc;obtain⟨wd,hwd⟩ : ∃wd,wd=wr.drew:=⟨_,rfl⟩;have kwd:Bel wr wd:=by rw [hwd];exact(Bel.refl wr).drew
        have HSD:=Lib.hid (hS.out.belw kwd);have HWD:=Lib.hid hwd;clear hwd;have f1d:=HSD.out.cell 0 rfl 1;dsimp only at f1d;have e0d:=kwd.some e0;have y0d:=kwd.some y0;clear e0 y0 f1;refine qa8 18 (by kernel_rfl) (by kernel_rfl) HWD.out ?_
        (simp only [List.take_succ_cons,List.take_zero,List.drop_succ_cons,List.drop_zero]);(repeat (first|((with_reducible refine wpStill_step (fun K hK=>?_));go_simp;(with_reducible refine hK _ ?_);clear hK K)|((with_reducible refine qab ?_ ?_);(with_unfolding_all rfl);(simp only [Act.put,List.setIfInBounds_toArray,List.set_cons_zero,List.set_cons_succ]))));(with_reducible refine wpStill_nil ?_)
        go_wp2;go_meet
        exact⟨D,rfl,HSD,HI⟩
     case rest=>
      rename_i s3 wx hcut
      obtain⟨B2,rfl,hS2,hI2⟩:=hcut;clear f1 e0 hI hS NX hg hbs;have f1:=hS2.out.cell 0 rfl 1;dsimp only at f1
      go_upto_region 15 with(fail)
      clear f1
      go_loopw [3,7] (fun b i wr => ∃(j:Nat) (B:Bool),1<=j/\j<=x.items.length+1/\b=.bool B/\i=.int .i64 j/\Hid (ST w [] [⟨w.heap.size,#[.slice q1 p.progs.length c1,.slice (some ⟨gb,off,none⟩) p.enums.length c2],25⟩] wr)/\Hid (Im B (((AllTo (OrdP p) p.progs.length/\AllTo (OrdE p) k)/\RiseAt ltE p.enums k)/\AllTo (RiseAt ltI x.items) j))) (fun _ i _=>x.items.length+1-(intOf i).toNat)
      case atStart=>exact⟨1,B2,by omega,by omega,rfl,rfl,hS2,Lib.hid (im_to hI2.out fun z=>⟨z,AllTo.zero.succ RiseAt.zero⟩)⟩
      case round=>as_aux_lemma=>
       clear hS2 hI2;obtain⟨j,B,hj1,hj2,rfl,rfl,hS,hI⟩:=hrel;have f1:=hS.out.cell 0 rfl 1;dsimp only at f1;have e1:=hS.out.bel.some EC.out;by_cases hlt2:j<x.items.length
       ·have hji:(j:Int)<(x.items.length:Int):=by omega
        have hj0:(0:Int)<=(j:Int):=by omega
        cases B with
        | false=>
         clear EI hI
         go_upto_region 17 with(fail)
         obtain⟨wd,hwd⟩ : ∃wd,wd=wr.drew:=⟨_,rfl⟩;have kwd:Bel wr wd:=by rw [hwd];exact(Bel.refl wr).drew
         have HSD:=Lib.hid (hS.out.belw kwd);have HWD:=Lib.hid hwd;clear hwd;have f1d:=HSD.out.cell 0 rfl 1;dsimp only at f1d
         refine qa8 23 (by kernel_rfl) (by kernel_rfl) HWD.out ?_
         (simp only [List.take_succ_cons,List.take_zero,List.drop_succ_cons,List.drop_zero]);(repeat (first|((with_reducible refine wpStill_step (fun K hK=>?_));go_simp;(with_reducible refine hK _ ?_);clear hK K)|((with_reducible refine qab ?_ ?_);(with_unfolding_all rfl);(simp only [Act.put,List.setIfInBounds_toArray,List.set_cons_zero,List.set_cons_succ]))));(with_reducible refine wpStill_nil ?_)
         go_wp2;go_roundw
         case rel=>exact⟨j+1,false,by omega,by omega,rfl,by go_num,HSD,Lib.hid im_no⟩
         case measure=>simp [intOf];omega
        | true=>
         have hg3:x.items[j]? = some x.items[j]:=List.getElem?_eq_getElem hlt2;obtain⟨m,hm⟩ : ∃m,j=m+1:=⟨j-1,by omega⟩;have hml:m<x.items.length:=by omega
         have hg4:x.items[m]? = some x.items[m]:=List.getElem?_eq_getElem hml;obtain⟨gb3,off3,hq3,hbs3,vs3,hce3,hvs3⟩:=EI.out j _ hg3;obtain⟨gb4,off4,hq4,hbs4,vs4,hce4,hvs4⟩:=EI.out m _ hg4;subst hq3;cases hq4
         have HI:=Lib.hid (show ∀D:Bool,(ltI x.items[m] x.items[j]=D)->Im D (((AllTo (OrdP p) p.progs.length/\AllTo (OrdE p) k)/\RiseAt ltE p.enums k)/\AllTo (RiseAt ltI x.items) (j+1))from fun D hD=>qcw hI.out fun hDt=>by
          subst hm
          exact RiseAt.suc hg4 hg3 (hD.trans hDt))
         unfold ltI at HI;clear EI hI hg3 hg4;generalize x.items[j]=y at *;generalize x.items[m]=z at *;obtain⟨nv,rfl,_⟩:=hvs3;obtain⟨nv2,rfl,_⟩:=hvs4;have y0:=hS.out.bel.some (hce3 1 _ rfl);have z0:=hS.out.bel.some (hce4 1 _ rfl)
         (try rw [Nat.add_zero]at y0 z0)
         clear hce3 hce4;have HII:=Lib.hid (HI.out (decide (z.num<y.num)) rfl);clear HI;have jw:IntKind.i64.wrap ((j:Int)-1)=(m:Int):=by rw [show(j:Int)-1=(m:Int)by omega];exact wrap_small _ (by omega) (by omega)
         have jw2:IntKind.i64.wrap (m:Int)=(m:Int):=wrap_small _ (by omega) (by omega);have jw3:(j:Int)-1=(m:Int):=by omega
         have j0:(0:Int)<=(m:Int):=by omega
         have j1:(m:Int)<(x.items.length:Int):=by omega
         clear hm
         go_upto_region 17 with(fail)
         obtain⟨wd,hwd⟩ : ∃wd,wd=wr.drew:=⟨_,rfl⟩;have kwd:Bel wr wd:=by rw [hwd];exact(Bel.refl wr).drew
         have HSD:=Lib.hid (hS.out.belw kwd);have HWD:=Lib.hid hwd;clear hwd;have f1d:=HSD.out.cell 0 rfl 1;dsimp only at f1d;have e1d:=kwd.some e1;have y0d:=kwd.some y0;have z0d:=kwd.some z0;clear e1 y0 z0 f1;refine qa8 23 (by kernel_rfl) (by kernel_rfl) HWD.out ?_
         (simp only [List.take_succ_cons,List.take_zero,List.drop_succ_cons,List.drop_zero]);(repeat (first|((with_reducible refine wpStill_step (fun K hK=>?_));go_simp;(with_reducible refine hK _ ?_);clear hK K)|((with_reducible refine qab ?_ ?_);(with_unfolding_all rfl);(simp only [Act.put,List.setIfInBounds_toArray,List.set_cons_zero,List.set_cons_succ]))));(with_reducible refine wpStill_nil ?_)
         go_wp2;go_roundw
         case rel=>exact⟨j+1,decide (z.num<y.num),by omega,by omega,rfl,by go_num,HSD,HII⟩
         case measure=>simp [intOf];omega
       ·have hji : ¬(j:Int)<(x.items.length:Int):=by omega
        have HII:=Lib.hid (show Im B (AllTo (OrdP p) p.progs.length/\AllTo (OrdE p) (k+1))from im_to hI.out fun z=>⟨z.1.1.1,z.1.1.2.succ ⟨z.1.2,At.mk HG.out fun i hi=>z.2 i (by omega)⟩⟩);clear hI EI;go_wp2;go_roundw
        case rel=>exact⟨k+1,B,by omega,rfl,by go_num,hS,HII⟩
        case measure=>simp [intOf];omega
    ·have hki : ¬(k:Int)<(p.enums.length:Int):=by omega
     have HII:=Lib.hid (show Im B (qcc p=true)from im_to hI.out fun z=>qk8 z.1 (fun i hi=>z.2 i (by omega)));clear hI EE;go_wp2;go_ret;exact qlh HII.out id hS.out.bel
end
end Go.Proofs.YtgpjhibdongmbaaGreatDoor
