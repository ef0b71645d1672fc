import Derived.Test.YtaaneecceiefoaaGreatDoorTwo
import Derived.Test.YtaaneecceiefoaaGreatDoorMdLaw
import Derived.Deep.RegionHeld3
import Derived.Deep.DeepCutAuto
import Derived.Test.YtaaneecceiefoaaGreatDoorUtfDec
import Derived.Deep.CutBlock
import Derived.Deep.AppendLies
set_option maxRecDepth 100000
set_option maxHeartbeats 4000000
set_option linter.unusedVariables false
set_option linter.unusedSimpArgs false
namespace Go.Proofs.YtaaneecceiefoaaGreatDoor.Ck
inductive Fin (s:PSchema):Str->Prop
 | mk (n:Str) (m:PMsg) (h:msgOf s n=some m) (hk : ∀k,k ∈ needs m->(msgOf s k).isSome=true->Fin s k):Fin s n
def Sound (s:PSchema) (fin:Str->Bool):Prop := ∀n,fin n=true->Fin s n
def Closed (s:PSchema) (fin:Str->Bool):Prop := ∀n m,msgOf s n=some m->(∀k,k ∈ needs m->(msgOf s k).isSome=true->fin k=true)->fin n=true
theorem Fin.closed {s:PSchema} {fin:Str->Bool} (hc:Closed s fin) {n:Str} (h:Fin s n):fin n=true:=by
 induction h with
 | mk n m h hk ih=>exact hc n m h ih
theorem qfh (s:PSchema) (fin:Str->Bool) (m:PMsg):qcf s fin m=fin ∨ (qcf s fin m=(fun x=>decide (x=m.name) || fin x)/\∃f,msgOf s m.name=some f/\∀k,k ∈ needs f->(msgOf s k).isSome=true->fin k=true):=by
 unfold qcf
 split
 ·exact .inl rfl
 ·rename_i f hf
  split
  ·exact .inl rfl
  ·rename_i ho
   refine .inr ⟨rfl,f,hf,fun k hk hs=>?_⟩;cases hfk:fin k
   ·exfalso
    apply ho;rw [List.any_eq_true];exact⟨k,hk,by simp [hs,hfk]⟩
   ·rfl
theorem qow (s:PSchema) (fin:Str->Bool) (m:PMsg) (n:Str) (h:fin n=true):qcf s fin m n=true:=by
 rcases qfh s fin m with e|⟨e,_⟩ <;> rw [e]
 ·exact h
 ·simp [h]
theorem qlz (s:PSchema) (fin:Str->Bool) (m:PMsg) (h:Sound s fin):Sound s (qcf s fin m):=by
 rcases qfh s fin m with e|⟨e,f,hf,hk⟩ <;> rw [e]
 ·exact h
 ·intro n hn
  by_cases hm:n=m.name
  ·subst hm
   exact Fin.mk _ f hf fun k h1 h2=>h k (hk k h1 h2)
  ·exact h n (by simpa [hm]using hn)
theorem qfb (s:PSchema) : ∀(l:List PMsg) (fin:Str->Bool) (n:Str),fin n=true->l.foldl (qcf s) fin n=true
 | [],_,_,h=>h
 | m :: l,fin,n,h=>qfb s l _ n (qow s fin m n h)
theorem qib (s:PSchema) : ∀(l:List PMsg) (fin:Str->Bool),Sound s fin->Sound s (l.foldl (qcf s) fin)
 | [],_,h=>h
 | m :: l,fin,h=>qib s l _ (qlz s fin m h)
theorem qh7 (s:PSchema) : ∀(l:List PMsg) (fin:Str->Bool),(∀m,m ∈ l->l.foldl (qcf s) fin m.name=fin m.name)->l.foldl (qcf s) fin=fin/\∀m,m ∈ l->qcf s fin m=fin
 | [],_,_=>⟨rfl,fun m hm=>by simp at hm⟩
 | a :: l,fin,hall=>by
  have e:qcf s fin a=fin:=by
   rcases qfh s fin a with e|⟨e,_⟩
   ·exact e
   ·have ha:fin a.name=true:=by
     have:=hall a (by simp);rw [←this,List.foldl_cons];exact qfb s l _ _ (by rw [e];simp)
    rw [e]
    funext x
    by_cases hx:x=a.name
    ·simp [hx,ha]
    ·simp [hx]
  have ih:=qh7 s l fin (fun m hm=>by have:=hall m (by simp [hm]);rwa [List.foldl_cons,e]at this);refine⟨by rw [List.foldl_cons,e];exact ih.1,fun m hm=>?_⟩;rcases List.mem_cons.1 hm with rfl|hm'
  ·exact e
  ·exact ih.2 m hm'
theorem msgOf_mem {s:PSchema} {n:Str} {m:PMsg} (h:msgOf s n=some m):m ∈ s.msgs/\m.name=n:=by
 unfold msgOf at h;exact⟨List.mem_of_find?_eq_some h,by simpa using List.find?_some h⟩
theorem qox (s:PSchema) (fin:Str->Bool) (m:PMsg) (hn:msgOf s m.name=some m) (hk : ∀k,k ∈ needs m->(msgOf s k).isSome=true->fin k=true):qcf s fin m m.name=true:=by
 unfold qcf;rw [hn];simp only;rw [if_neg]
 ·simp
 ·intro ho
  rw [List.any_eq_true]at ho;obtain⟨k,h1,h2⟩:=ho;simp only [Bool.and_eq_true,Bool.not_eq_true']at h2;rw [hk k h1 h2.1]at h2;exact absurd h2.2 (by decide)
theorem qnq (s:PSchema) (fin:Str->Bool) (h:qbk s fin=fin):Closed s fin:=by
 intro n m hn hk;obtain⟨hm,rfl⟩:=msgOf_mem hn;have:=(qh7 s s.msgs fin (fun m _=>by show qbk s fin m.name=fin m.name;rw [h])).2 m hm;have h2:=qox s fin m hn hk;rwa [this]at h2
def cnt (s:PSchema) (fin:Str->Bool):Nat:=(s.msgs.filter fun m=>fin m.name).length
theorem qgj {α:Type} (p q:α->Bool) : ∀(l:List α),(∀x,x ∈ l->p x=true->q x=true)->(l.filter p).length<=(l.filter q).length/\((∃x,x ∈ l/\p x=false/\q x=true)->(l.filter p).length<(l.filter q).length)
 | [],_=>⟨by simp,fun⟨x,hx,_⟩=>by simp at hx⟩
 | a :: l,h=>by
  obtain⟨h1,h2⟩:=qgj p q l (fun x hx=>h x (by simp [hx]));have ha:=h a (by simp);constructor
  ·cases hp:p a <;> cases hq:q a <;> simp [hp,hq]at ha ⊢ <;> omega
  ·rintro ⟨x,hx,hpx,hqx⟩
   rcases List.mem_cons.1 hx with rfl|hx'
   ·simp [hpx,hqx];omega
   ·have:=h2 ⟨x,hx',hpx,hqx⟩
    cases hp:p a <;> cases hq:q a <;> simp [hp,hq]at ha ⊢ <;> omega
theorem qm9 (s:PSchema) (fin:Str->Bool) (h:qbk s fin ≠ fin):cnt s fin<cnt s (qbk s fin):=by
 obtain⟨g1,g2⟩:=qgj (fun m:PMsg=>fin m.name) (fun m=>qbk s fin m.name) s.msgs (fun m _ hm=>qfb s s.msgs fin m.name hm);refine g2 ?_;refine Decidable.byContradiction fun hc=>h ?_
 refine(qh7 s s.msgs fin fun m hm=>?_).1;show qbk s fin m.name=fin m.name
 cases hf:fin m.name
 ·cases hr:qbk s fin m.name
  ·rfl
  ·exact absurd ⟨m,hm,hf,hr⟩ hc
 ·exact qfb s s.msgs fin m.name hf
theorem qhk (s:PSchema) : ∀(k:Nat) (fin:Str->Bool),s.msgs.length-cnt s fin<k->qbk s (qc3 s k fin)=qc3 s k fin
 | 0,fin,h=>by omega
 | k+1,fin,h=>by
  show qbk s (qc3 s k (qbk s fin))=qc3 s k (qbk s fin)
  by_cases he:qbk s fin=fin
  ·rw [he]
   have : ∀k,qc3 s k fin=fin:=by
    intro k
    induction k with
    | zero=>rfl
    | succ k ih=>show qc3 s k (qbk s fin)=fin;rw [he];exact ih
   rw [this,he]
  ·have h1:=qm9 s fin he
   have h2:cnt s (qbk s fin)<=s.msgs.length:=List.length_filter_le _ _;exact qhk s k _ (by omega)
theorem qfi (s:PSchema) : ∀(k:Nat) (fin:Str->Bool),Sound s fin->Sound s (qc3 s k fin)
 | 0,_,h=>h
 | k+1,fin,h=>qfi s k _ (qib s s.msgs fin h)
theorem qns (s:PSchema) (n:Str):qd6 s n=true ↔ Fin s n:=by
 have h1:Sound s (qd6 s):=qfi s _ _ (fun n h=>by cases h);have h2:qbk s (qd6 s)=qd6 s:=qhk s (s.msgs.length+1) (fun _=>false) (by omega);exact⟨h1 n,Fin.closed (qnq s _ h2)⟩
def idxGo (n:Str):List PMsg->Nat->Option Nat
 | [],_=>none
 | m :: r,i=>if m.name=n then some i else idxGo n r (i+1)
def idxOf (s:PSchema) (n:Str):Option Nat:=idxGo n s.msgs 0
theorem qi9 (n:Str) : ∀(l:List PMsg) (i k:Nat),idxGo n l i=some k->i<=k/\∃m,l[k-i]? = some m/\m.name=n/\l.find? (fun m=>m.name=n)=some m
 | [],i,k,h=>by simp [idxGo]at h
 | m :: r,i,k,h=>by
  unfold idxGo at h
  split at h
  ·rename_i hm
   injection h with h
   subst h;refine⟨Nat.le_refl _,m,by simp,hm,by simp [hm]⟩
  ·rename_i hm
   obtain⟨h1,x,h2,h3,h4⟩:=qi9 n r (i+1) k h;refine⟨by omega,x,?_,h3,by simp [hm,h4]⟩;rw [show k-i=(k-(i+1))+1 by omega]
   simpa using h2
theorem qia (n:Str) : ∀(l:List PMsg) (i:Nat),idxGo n l i=none ↔ l.find? (fun m=>m.name=n)=none
 | [],i=>by simp [idxGo]
 | m :: r,i=>by
  have:=qia n r (i+1);unfold idxGo;by_cases hm:m.name=n
  ·simp [hm]
  ·simp [hm,this]
theorem qe8 {s:PSchema} {n:Str} {k:Nat} (h:idxOf s n=some k) : ∃m,s.msgs[k]? = some m/\m.name=n/\msgOf s n=some m:=by
 obtain⟨_,m,h2,h3,h4⟩:=qi9 n s.msgs 0 k h;exact⟨m,by simpa using h2,h3,h4⟩
theorem qc8 (s:PSchema) (n:Str):(idxOf s n).isSome=(msgOf s n).isSome:=by
 have:=qia n s.msgs 0;unfold idxOf msgOf;cases h1:idxGo n s.msgs 0 <;> cases h2:s.msgs.find? (fun m=>m.name=n) <;> simp_all
def qb7 (s:PSchema) (m:PMsg) (fin:List Bool):Bool:=(needs m).any fun n=>match idxOf s n with|some k => !fin.getD k false|none=>false
def rStep (s:PSchema) (st:List Bool × Bool) (i:Nat):List Bool × Bool:=
 match s.msgs[i]? with
 | none=>st
 | some m=>if st.1.getD i false=false/\qb7 s m st.1=false then(st.1.set i true,true)else st
def qgt (s:PSchema) (fin:List Bool):List Bool × Bool:=(List.range s.msgs.length).foldl (rStep s) (fin,false)
def qe0 (s:PSchema):Nat->List Bool->List Bool
 | 0,fin=>fin
 | k+1,fin=>if(qgt s fin).2=true then qe0 s k (qgt s fin).1 else(qgt s fin).1
def qba (s:PSchema):List Bool:=qe0 s s.msgs.length (List.replicate s.msgs.length false)
def qjm (s:PSchema) (fin:List Bool):Prop:=fin.length=s.msgs.length/\∀n k,idxOf s n=some k->fin.getD k false=true->Fin s n
theorem qgs {s:PSchema} {m:PMsg} {fin:List Bool} (h:qb7 s m fin=false) : ∀n k,n ∈ needs m->idxOf s n=some k->fin.getD k false=true:=by
 intro n k hn hk;unfold qb7 at h;rw [List.any_eq_false]at h;have:=h n hn;rw [hk]at this
 simpa using this
theorem getD_set (l:List Bool) (i k:Nat) (h:i<l.length):(l.set i true).getD k false=if k=i then true else l.getD k false:=by
 by_cases hk:k=i
 ·subst hk;simp [List.getD,h]
 ·simp [List.getD,hk,List.getElem?_set_ne (Ne.symm hk)]
theorem qdb (s:PSchema) (st:List Bool × Bool) (i:Nat):rStep s st i=st ∨ (∃m,s.msgs[i]? = some m/\st.1.getD i false=false/\qb7 s m st.1=false/\rStep s st i=(st.1.set i true,true)):=by
 unfold rStep
 split
 ·exact .inl rfl
 ·rename_i m hm
  split
  ·rename_i h
   exact .inr ⟨m,hm,h.1,h.2,rfl⟩
  ·exact .inl rfl
theorem ql1 (s:PSchema) (st:List Bool × Bool) (i:Nat) (h:qjm s st.1):qjm s (rStep s st i).1:=by
 rcases qdb s st i with e|⟨m,hm,h1,h2,e⟩ <;> rw [e]
 ·exact h
 ·have hi:i<s.msgs.length:=(List.getElem?_eq_some_iff.1 hm).1
  refine⟨by simpa using h.1,fun n k hn hk=>?_⟩;rw [getD_set _ _ _ (by rw [h.1];exact hi)]at hk;by_cases hki:k=i
  ·subst hki
   obtain⟨m',h3,h4,h5⟩:=qe8 hn;rw [hm]at h3;obtain rfl:=Option.some.inj h3;refine Fin.mk n m h5 fun q hq hs=>?_
   rw [←qc8]at hs;obtain⟨j,hj⟩:=Option.isSome_iff_exists.1 hs;exact h.2 q j hj (qgs h2 q j hq hj)
  ·rw [if_neg hki]at hk
   exact h.2 n k hn hk
theorem qgg (s:PSchema) : ∀(l:List Nat) (st:List Bool × Bool),qjm s st.1->qjm s (l.foldl (rStep s) st).1
 | [],_,h=>h
 | i :: l,st,h=>qgg s l _ (ql1 s st i h)
theorem qhr (s:PSchema) : ∀(l:List Nat) (st:List Bool × Bool),st.2=true->(l.foldl (rStep s) st).2=true
 | [],_,h=>h
 | i :: l,st,h=>qhr s l _ (by rcases qdb s st i with e|⟨m,_,_,_,e⟩ <;> rw [e];exact h)
theorem qfn (s:PSchema) : ∀(l:List Nat) (fin:List Bool),(l.foldl (rStep s) (fin,false)).2=false->(l.foldl (rStep s) (fin,false)).1=fin/\∀i,i ∈ l->rStep s (fin,false) i=(fin,false)
 | [],_,_=>⟨rfl,fun i hi=>by simp at hi⟩
 | i :: l,fin,h=>by
  have e:rStep s (fin,false) i=(fin,false):=by
   rcases qdb s (fin,false) i with e|⟨m,_,_,_,e⟩
   ·exact e
   ·rw [List.foldl_cons,e]at h
    rw [qhr s l _ rfl]at h;cases h
  rw [List.foldl_cons,e]at h ⊢;obtain⟨h1,h2⟩:=qfn s l fin h;exact⟨h1,fun j hj=>by rcases List.mem_cons.1 hj with rfl|hj;exact e;exact h2 j hj⟩
def RClosed (s:PSchema) (fin:List Bool):Prop := ∀n,Fin s n->∀k,idxOf s n=some k->fin.getD k false=true
theorem qiq (s:PSchema) (fin:List Bool) (h:(qgt s fin).2=false):RClosed s fin:=by
 obtain⟨_,h2⟩:=qfn s _ fin h;intro n hn
 induction hn with
 | mk n m hm hk ih=>
  intro k hidx;obtain⟨m',h3,h4,h5⟩:=qe8 hidx;rw [hm]at h5;obtain rfl:=Option.some.inj h5;have hi:k<s.msgs.length:=(List.getElem?_eq_some_iff.1 h3).1;have e:=h2 k (by simpa using hi);cases hf:fin.getD k false
  ·exfalso
   have hne:qb7 s m fin=false:=by
    unfold qb7;rw [List.any_eq_false];intro q hq;cases hj:idxOf s q with
    | none=>simp
    | some j=>
     have:=ih q hq (by rw [←qc8,hj];rfl) j hj;show ¬(!fin.getD j false)=true
     rw [this];decide
   unfold rStep at e;rw [h3]at e;simp only [hf,hne,and_self,if_true]at e;have:=(Prod.mk.inj e).2;cases this
  ·rfl
def rcnt (fin:List Bool):Nat:=(fin.filter id).length
theorem qmq : ∀(fin:List Bool) (i:Nat),i<fin.length->fin.getD i false=false->rcnt (fin.set i true)=rcnt fin+1
 | [],i,h,_=>by simp at h
 | b :: l,0,h,hb=>by
  simp at hb;subst hb;simp [rcnt]
 | b :: l,i+1,h,hb=>by
  have:=qmq l i (by simpa using h) (by simpa using hb);unfold rcnt at this ⊢;cases b <;> simp at this ⊢ <;> omega
theorem qpa (s:PSchema) (st:List Bool × Bool) (i:Nat) (h:st.1.length=s.msgs.length):(rStep s st i).1.length=s.msgs.length/\rcnt st.1<=rcnt (rStep s st i).1/\(st.2=false->(rStep s st i).2=true->rcnt st.1<rcnt (rStep s st i).1):=by
 rcases qdb s st i with e|⟨m,hm,h1,h2,e⟩ <;> rw [e]
 ·exact⟨h,Nat.le_refl _,fun h1 h2=>by rw [h1]at h2;cases h2⟩
 ·have hi:i<s.msgs.length:=(List.getElem?_eq_some_iff.1 hm).1
  have:=qmq st.1 i (by omega) h1;exact⟨by simpa using h,by simp only;omega,fun _ _=>by simp only;omega⟩
theorem qjx (s:PSchema) : ∀(l:List Nat) (st:List Bool × Bool),st.1.length=s.msgs.length->(l.foldl (rStep s) st).1.length=s.msgs.length/\rcnt st.1<=rcnt (l.foldl (rStep s) st).1/\(st.2=false->(l.foldl (rStep s) st).2=true->rcnt st.1<rcnt (l.foldl (rStep s) st).1)
 | [],st,h=>⟨h,Nat.le_refl _,fun h1 h2=>by rw [List.foldl_nil,h1]at h2;cases h2⟩
 | i :: l,st,h=>by
  obtain⟨a1,a2,a3⟩:=qpa s st i h;obtain⟨b1,b2,b3⟩:=qjx s l (rStep s st i) a1;rw [List.foldl_cons];refine⟨b1,by omega,fun h1 h2=>?_⟩;cases h3:(rStep s st i).2
  ·have:=b3 h3 h2;omega
  ·have:=a3 h1 h3;omega
theorem rcnt_le (fin:List Bool):rcnt fin<=fin.length:=List.length_filter_le _ _
theorem qmr : ∀(fin:List Bool),rcnt fin=fin.length->∀k,k<fin.length->fin.getD k false=true
 | [],_,k,h=>by simp at h
 | b :: l,h,k,hk=>by
  have hl:=rcnt_le l;unfold rcnt at h hl;cases b
  ·simp at h;omega
  ·cases k with
   | zero=>rfl
   | succ k=>
    have:=qmr l (by unfold rcnt;simpa using h) k (by simpa using hk)
    simpa using this
theorem qdz (s:PSchema) : ∀(k:Nat) (fin:List Bool),fin.length=s.msgs.length->s.msgs.length-rcnt fin<=k->RClosed s (qe0 s k fin)
 | 0,fin,h,hk=>by
  intro n _ k hidx;obtain⟨m,h3,_,_⟩:=qe8 hidx;have hi:k<s.msgs.length:=(List.getElem?_eq_some_iff.1 h3).1;have:=rcnt_le fin;exact qmr fin (by omega) k (by omega)
 | k+1,fin,h,hk=>by
  unfold qe0;have hc:=qjx s (List.range s.msgs.length) (fin,false) h
  split
  ·rename_i hm
   have:=hc.2.2 rfl hm;simp only at this;exact qdz s k _ hc.1 (by show s.msgs.length-rcnt (qgt s fin).1<=k;unfold qgt;omega)
  ·rename_i hm
   have hm':(qgt s fin).2=false:=by simpa using hm
   have:=(qfn s _ fin hm').1;have e:(qgt s fin).1=fin:=this;rw [e];exact qiq s fin hm'
theorem qer (s:PSchema) : ∀(k:Nat) (fin:List Bool),qjm s fin->qjm s (qe0 s k fin)
 | 0,_,h=>h
 | k+1,fin,h=>by
  have:=qgg s (List.range s.msgs.length) (fin,false) h;unfold qe0
  split
  ·exact qer s k _ this
  ·exact this
theorem qix (s:PSchema) (n:Str) (k:Nat) (h:idxOf s n=some k):(qba s).getD k false=qd6 s n:=by
 have h0:qjm s (List.replicate s.msgs.length false):=⟨by simp,fun n k _ hk=>by
  exfalso;by_cases hkl:k<s.msgs.length
  ·simp [List.getD,List.getElem?_replicate,hkl]at hk
  ·simp [List.getD,List.getElem?_replicate,hkl]at hk⟩
 have h1:=qer s s.msgs.length _ h0;have h2:=qdz s s.msgs.length (List.replicate s.msgs.length false) (by simp) (by omega);rw [Bool.eq_iff_iff,qns];exact⟨h1.2 n k h,fun hf=>h2 n hf k h⟩
theorem qga (s:PSchema) (m:PMsg):qb7 s m (qba s)=qo0 s m (qd6 s):=by
 unfold qb7 qo0
 congr 1
 funext n
 have:=qc8 s n;cases h:idxOf s n with
 | none=>rw [h]at this;rw [←this];rfl
 | some k=>
  rw [h]at this;rw [←this];show(!(qba s).getD k false)=(true && !qd6 s n)
  rw [qix s n k h];rfl
end Go.Proofs.YtaaneecceiefoaaGreatDoor.Ck
namespace Go.Proofs.YtaaneecceiefoaaGreatDoor.Ck
theorem qop {d:Str} {num:Int} {ok:Bool} {e:Int}:un d num ok e=[] ↔ ok=true:=by
 unfold un;cases ok <;> simp
theorem flat_nil {α β:Type} {l:List α} {f:α->List β}:l.flatMap f=[] ↔ ∀x,x ∈ l->f x=[]:=by
 simp [List.flatMap_eq_nil_iff]
theorem all_nil {s:PSchema}:all s=[] ↔ head s=[]/\(∀m,m ∈ s.msgs->qbh s m (qd6 s)=[])/\(∀e,e ∈ s.enums->enum e=[])/\(∀v,v ∈ s.svcs->qbz s v=[]):=by
 unfold all;simp only [List.append_eq_nil_iff,flat_nil];constructor
 ·rintro ⟨⟨⟨a,b⟩,c⟩,d⟩;exact⟨a,b,c,d⟩
 ·rintro ⟨a,b,c,d⟩;exact⟨⟨⟨a,b⟩,c⟩,d⟩
theorem valid_iff {s:PSchema}:valid s=true ↔ all s=[]:=by unfold valid;cases all s <;> simp
def rest (s:PSchema):List PProb:=s.msgs.flatMap (fun m=>qne s m) ++ s.enums.flatMap enum ++ s.svcs.flatMap (qbz s)
theorem un_len (d:Str) (num:Int) (ok:Bool) (e:Int):(un d num ok e).length<=1:=by unfold un;cases ok <;> simp
end Go.Proofs.YtaaneecceiefoaaGreatDoor.Ck
namespace Go.Proofs.YtaaneecceiefoaaGreatDoor.Ck
theorem qi3 (a:Str) : ¬ a<a:=List.lt_irrefl a
theorem pw_ne {α:Type} {f:α->Str} {l:List α} (h:(l.map f).Pairwise (· < ·)) {i j:Nat} {a b:α} (ha:l[i]? = some a) (hb:l[j]? = some b) (e:f a=f b):i=j:=by
 rw [List.pairwise_iff_getElem]at h;obtain⟨hi,rfl⟩:=List.getElem?_eq_some_iff.1 ha;obtain⟨hj,rfl⟩:=List.getElem?_eq_some_iff.1 hb;rcases Nat.lt_trichotomy i j with h1|h1|h1
 ·have:=h i j (by simpa using hi) (by simpa using hj) h1
  simp only [List.getElem_map]at this;rw [e]at this;exact absurd this (qi3 _)
 ·exact h1
 ·have:=h j i (by simpa using hj) (by simpa using hi) h1
  simp only [List.getElem_map]at this;rw [e]at this;exact absurd this (qi3 _)
theorem find_at {α:Type} {f:α->Str} {l:List α} (h:(l.map f).Pairwise (· < ·)) {i:Nat} {a:α} (ha:l[i]? = some a):l.find? (fun x=>f x=f a)=some a:=by
 cases hf:l.find? (fun x=>decide (f x=f a))with
 | none=>
  have:=List.find?_eq_none.1 hf a (List.mem_of_getElem? ha);simp at this
 | some b=>
  have h1:f b=f a:=by simpa using List.find?_some hf
  obtain⟨j,hj⟩:=List.mem_iff_getElem?.1 (List.mem_of_find?_eq_some hf);have:=pw_ne h hj ha h1;subst this;rw [ha]at hj;rw [Option.some.inj hj]
theorem qg0 {s:PSchema} {m:PMsg} : ∀(l:List PField) (i:Nat),qbs s m i l=[]->∀(j:Nat) f,l[j]? = some f->qg2 s m (i+j) f=[]
 | [],i,_,j,f,h=>by simp at h
 | a :: r,i,h,j,f,hf=>by
  unfold qbs at h;rw [List.append_eq_nil_iff]at h;cases j with
  | zero=>
   simp at hf;subst hf;exact h.1
  | succ j=>
   have:=qg0 r (i+1) h.2 j f (by simpa using hf);rwa [show i+1+j=i+(j+1)by omega]at this
structure MsgOk (s:PSchema) (m:PMsg):Prop where
 len:m.fields.length<=64
 field : ∀(i:Nat) f,m.fields[i]? = some f->qg2 s m i f=[]
 acyc:qo0 s m (qd6 s)=false
theorem qex {s:PSchema} {m:PMsg} (h:qbh s m (qd6 s)=[]):MsgOk s m:=by
 unfold qbh at h;simp only [List.append_eq_nil_iff,qop]at h;obtain⟨⟨⟨⟨⟨⟨h1,h2⟩,h3⟩,h4⟩,h5⟩,h6⟩,h7⟩:=h;refine⟨(of_decide_eq_true h2).1,fun i f hf=>?_,by simpa using h7⟩;have:=qg0 m.fields 0 h3 i f hf;rwa [Nat.zero_add]at this
def Le (a b:List Bool):Prop:=a.length=b.length/\∀k,a.getD k false=true->b.getD k false=true
theorem Le.refl (a:List Bool):Le a a:=⟨rfl,fun _ h=>h⟩
theorem Le.trans {a b c:List Bool} (h:Le a b) (k:Le b c):Le a c:=⟨h.1.trans k.1,fun i hi=>k.2 i (h.2 i hi)⟩
def without (s:PSchema) (k:Nat):PSchema := { s with enums:=s.enums.eraseIdx k }
end Go.Proofs.YtaaneecceiefoaaGreatDoor.Ck
namespace Go.Proofs.YtaaneecceiefoaaGreatDoor.Md
open Ck
theorem qku {l:Str} (h:qal l=true):58 ∉ l/\l.length<=120:=by
 unfold qal at h;rw [Bool.and_eq_true]at h;exact full_ok h.1
theorem qkt {l:Str} (h:qar l=true):Id.isPart l=true:=by
 unfold qar at h;rw [Bool.and_eq_true]at h;exact h.1
structure FldOk (s:PSchema) (m:PMsg) (i:Nat) (f:PField):Prop where
 num:1<=f.num/\f.num<=65535
 asc:i=0 ∨ ∃g,m.fields[i-1]? = some g/\g.num<f.num
 part:Id.isPart f.name=true
 card:1<=f.card/\f.card<=5
 key:f.card=5->1<=f.key/\f.key<=7
 ty:typed s f=true
 un:qik m i f=true
theorem fld_of {s:PSchema} {m:PMsg} {i:Nat} {f:PField} (h:qg2 s m i f=[]):FldOk s m i f:=by
 unfold qg2 at h;simp only [List.append_eq_nil_iff,qop]at h;obtain⟨⟨⟨⟨⟨⟨⟨⟨⟨h1,h2⟩,h3⟩,h4⟩,h5⟩,h6⟩,h7⟩,h8⟩,h9⟩,h10⟩:=h;rw [Bool.and_eq_true,decide_eq_true_iff]at h6;refine⟨of_decide_eq_true h1,?_,qkt h3,h6.1,fun e=>?_,h7,h8⟩
 ·rw [Bool.or_eq_true,decide_eq_true_iff]at h2
  rcases h2 with h2|h2
  ·exact .inl h2
  ·right
   split at h2
   ·rename_i g hg
    exact⟨g,hg,of_decide_eq_true h2⟩
   ·cases h2
 ·have:=h6.2
  unfold keyed at this;rw [if_neg (by omega),decide_eq_true_iff]at this;omega
structure MOk (s:PSchema) (m:PMsg):Prop where
 nocol:58 ∉ m.name
 len:m.name.length<=120
 few:m.fields.length<=64
 fld : ∀(i:Nat) f,m.fields[i]? = some f->FldOk s m i f
theorem msg_ok {s:PSchema} (h:valid s=true) {m:PMsg} (hm:m ∈ s.msgs):MOk s m:=by
 have h1:=(all_nil.1 (valid_iff.1 h)).2.1 m hm;have h2:=qex h1;unfold qbh at h1;simp only [List.append_eq_nil_iff,qop]at h1;have hn:=qku h1.1.1.1.1.1.1;exact⟨hn.1,hn.2,h2.len,fun i f hf=>fld_of (h2.field i f hf)⟩
structure ItOk (e:PEnum) (i:Nat) (f:PItem):Prop where
 num:0<=f.num/\f.num<=2147483647
 asc:i=0 ∨ ∃g,e.items[i-1]? = some g/\g.num<f.num
 part:Id.isPart f.name=true
structure EOk (e:PEnum):Prop where
 nocol:58 ∉ e.name
 len:e.name.length<=120
 few:e.items.length<=64
 it : ∀(i:Nat) f,e.items[i]? = some f->ItOk e i f
structure SOk (s:PSchema) (v:PSvc):Prop where
 nocol:58 ∉ v.name
 len:v.name.length<=120
 few:v.meths.length<=64
 me : ∀f,f ∈ v.meths->Id.isPart f.name=true/\(msgOf s f.inn).isSome=true/\(msgOf s f.out).isSome=true
theorem msgOf_mem {s:PSchema} {n:Str} (h:(msgOf s n).isSome=true) : ∃m ∈ s.msgs,m.name=n:=by
 unfold msgOf at h;rw [List.find?_isSome]at h;obtain⟨m,hm,e⟩:=h;exact⟨m,hm,of_decide_eq_true e⟩
theorem fm_congr {α β:Type} {f g:α->List β} : ∀{l:List α},(∀x ∈ l,f x=g x)->l.flatMap f=l.flatMap g
 | [],_=>rfl
 | a :: l,h=>by rw [List.flatMap_cons,List.flatMap_cons,h a (List.mem_cons_self ..),fm_congr (fun x hx=>h x (List.mem_cons_of_mem _ hx))]
def pairsM (D:List PDecl) (m:PMsg):List (Str × List PMem):=(m.name,record D m) :: (unions m).map (fun u=>(m.name ++ 58 :: u,choice D m u))
def pairs (D:List PDecl) (s:PSchema):List (Str × List PMem):=s.msgs.flatMap (pairsM D) ++ s.enums.map (fun e=>(e.name,items e)) ++ s.svcs.map (fun v=>(v.name,client D v))
end Go.Proofs.YtaaneecceiefoaaGreatDoor.Md
namespace Go.Proofs.YtaaneecceiefoaaGreatDoor.Md
open Ck
end Go.Proofs.YtaaneecceiefoaaGreatDoor.Md
namespace Go.Proofs.YtaaneecceiefoaaGreatDoor
section
open Go.RowKit Ck
theorem VSchema.stays_bel {w w2:World} {vs:List Value} {s:PSchema} (h:VSchema w vs s) (k:Bel w w2):VSchema w2 vs s:=VSchema.stays w w2 vs s k h
end
section
open Go.RowKit Ck
end
section
open Go.RowKit Ck
end
section
open Go.RowKit Ck
end
section
open Go.RowKit Ck
end
section
open Go.RowKit Ck
end
section
open Go.RowKit Ck
theorem qhh {w:World} {v:Value} {ks:List Str} (h:Texts w v ks):Strs w v ks:=by
 obtain⟨q,c,rfl,hl,hcap,hel⟩:=h;cases ks with
 | nil=>exact .inl ⟨rfl,q,c,rfl⟩
 | cons x r=>
  obtain⟨b,off,rfl,hb,_⟩:=hel 0 x rfl;refine .inr ⟨b,off,c,rfl,hl,hb,fun j k hk=>?_⟩;obtain⟨b',off',he,_,vs,hce,hvs⟩:=hel j k hk;cases he;have hvs':vs=[.string (S k)]:=hvs;have:=hce 0 (.string (S k)) (by rw [hvs'];rfl);rwa [Nat.mul_one,Nat.add_zero]at this
end
section
open Go.RowKit Ck
def qo7:Value->Option (DataW Unit × List MemPlace)
 | .bool b=>some (.lit (.bool b),[])
 | _=>none
def boolF (fin:Str->Bool):Str->Option (DataW Unit):=fun k=>if fin k=true then some (.lit (.bool true))else none
end
section
open Go.RowKit Ck
theorem qpz (fin:Str->Bool) (n:Str):(fun k=>if k=n then some (.lit (.bool true))else boolF fin k)=boolF fun x=>decide (x=n) || fin x:=by
 funext k
 unfold boolF;by_cases h:k=n
 ·simp [h]
 ·simp [h]
def FinAt (w:World) (c0 c1 c2:Value) (k:Nat) (cur:Str->Bool) (wr:World):Prop:=
 Below w.heap.size w wr/\wr.cell? ⟨w.heap.size,0,none⟩=some c0/\wr.cell? ⟨w.heap.size,1,none⟩=some c1/\wr.cell? ⟨w.heap.size,2,none⟩=some c2/\wr.cell? ⟨w.heap.size+1+1,0,none⟩=some (.map (some (w.heap.size+1)))/\MapIs qo7 wr (w.heap.size+1) k (boolF cur)
theorem FinAt.bel {w:World} {c0 c1 c2:Value} {k:Nat} {cur:Str->Bool} {wr w':World} (h:FinAt w c0 c1 c2 k cur wr) (b:Bel wr w'):FinAt w c0 c1 c2 k cur w':=by
 obtain⟨h1,h2,h3,h4,h5,h6⟩:=h;exact⟨Bel.of h1 b,b.some h2,b.some h3,b.some h4,b.some h5,h6.bel b⟩
theorem FinAt.base {w:World} {c0 c1 c2:Value} {k:Nat} {cur:Str->Bool} {wr:World} (h:FinAt w c0 c1 c2 k cur wr):Bel w wr:=h.1
theorem FinAt.put {w:World} {c0 c1 c2:Value} {k:Nat} {cur:Str->Bool} {wr w':World} (h:FinAt w c0 c1 c2 k cur wr) {n:Str} (hm:MapIs qo7 w' (w.heap.size+1) (k+1) (fun x=>if x=n then some (.lit (.bool true))else boolF cur x)) (hg:wr.grownBy w' (some (w.heap.size+1))):FinAt w c0 c1 c2 (k+1) (fun x=>decide (x=n) || cur x) w':=by
 obtain⟨h1,h2,h3,h4,h5,h6⟩:=h;have hne : ∀j,j ≠ w.heap.size+1->some j ≠ some (w.heap.size+1):=fun j h e=>h (by injection e)
 refine⟨h1.grown hg h1.size (fun k hk=>by cases hk;omega),hg.cell h2 (hne _ (by simp)),hg.cell h3 (hne _ (by simp)),hg.cell h4 (hne _ (by simp)),hg.cell h5 (hne _ (by simp)),?_⟩;rw [←qpz];exact hm
theorem FinAt.weak {w:World} {c0 c1 c2:Value} {k j:Nat} {cur:Str->Bool} {wr:World} (h:FinAt w c0 c1 c2 k cur wr) (hk:k=j):FinAt w c0 c1 c2 j cur wr:=hk ▸ h
end
section
open Go.RowKit Ck
end
section
open Go.RowKit Ck
section
variable {w0 : World} {fb : Nat} {d : Str} {num : Int} {w : World} {bl : List (Nat × Array Value × TypeId)} {N : Nat} {ps : List PProb} {wx : World}
end
theorem qpm (e:PEnum) (i:Nat) (it:PItem):(itemP e i it).length<=6:=by
 unfold itemP noted;exact qay (qay (qay (qay (qay (un_len _ _ _ _) (un_len _ _ _ _)) (un_len _ _ _ _)) (un_len _ _ _ _)) (un_len _ _ _ _)) (un_len _ _ _ _)
end
section
open Go.RowKit Ck
theorem qgx (x y:Str) (h:ltS y x=true ∨ y=x):ltS x y=false:=by
 unfold ltS at *;rw [decide_eq_false_iff_not];rcases h with h|rfl
 ·have h':=of_decide_eq_true h
  exact List.lt_asymm h'
 ·exact List.lt_irrefl _
theorem qk8 (x y:Str) (h1:ltS y x=false) (h2:y ≠ x):ltS x y=true:=by
 unfold ltS at *;have h1':=of_decide_eq_false h1;exact decide_eq_true (Decidable.byContradiction fun h=>h2 (List.le_antisymm (List.not_lt.1 h) (List.not_lt.1 h1')))
theorem gtr_S (a b:Str):(!Op.bytesLess (S a).toList (S b).toList && !((S a).toList == (S b).toList))=Ck.ltS b a:=by
 rw [qng,eq_S];have he : ∀x y:Str,Ck.ltS x y=ltS x y:=fun _ _=>rfl
 rw [he,he];cases h1:ltS a b with
 | true=>rw [qgx b a (.inl h1)];rfl
 | false=>
  by_cases h2:a=b
  ·rw [qgx b a (.inr h2),decide_eq_true h2];rfl
  ·rw [qk8 b a h1 h2,decide_eq_false h2];rfl
def qdk (l:List Str) (k:Nat):Bool:=match l[k-1]? with|some a=>qiv a (l.drop k)|none=>true
theorem rise_one (l:List Str):qdk l 1=qhn l:=by
 cases l with
 | nil=>rfl
 | cons a r=>rfl
theorem qp6 (l:List Str) (k:Nat) (a b:Str) (h1:1<=k) (ha:l[k-1]? = some a) (hb:l[k]? = some b):qdk l k=(ltS a b && qdk l (k+1)):=by
 obtain⟨hk,rfl⟩:=List.getElem?_eq_some_iff.1 hb;unfold qdk;rw [ha,Nat.add_sub_cancel,hb,List.drop_eq_getElem_cons hk];rfl
theorem rise_end (l:List Str) (k:Nat) (h:l.length<=k):qdk l k=true:=by
 unfold qdk;rw [List.drop_eq_nil_of_le h];cases l[k-1]? <;> rfl
end
section
open Go.RowKit Ck
theorem qpi (s:PSchema) (v:PSvc) (i:Nat) (m:PMeth):(methP s v i m).length<=5:=by
 unfold methP noted;exact qay (qay (qay (qay (un_len _ _ _ _) (un_len _ _ _ _)) (un_len _ _ _ _)) (un_len _ _ _ _)) (un_len _ _ _ _)
theorem VMeth.len (w:World) (vs:List Value) (x:PMeth) (h:VMeth w vs x):vs.length=5:=by
 obtain⟨_,rfl,_⟩:=h;rfl
end
section
open Go.RowKit Ck
end
section
open Go.RowKit Ck
section
variable {w : World} {c : Array Value} {vs : Nat → Value} {xs : Nat → List Str} {wr : World}
end
end
section
open Go.RowKit Ck
theorem qan {w:World} {B:Nat} {e:TypeId} {z:Nat} {v:Value} {n:Nat} {xs:List Value} (h:w.ownsRow B e z v n xs) : ∃(q:Option Addr) (c:Nat),v=.slice q n c:=by
 rcases h.2 with⟨h1,h2⟩|⟨g,cap,cur,h1,_⟩
 ·exact⟨none,0,by rw [h1,h2]⟩
 ·exact⟨_,cap,h1⟩
end
end Go.Proofs.YtaaneecceiefoaaGreatDoor
