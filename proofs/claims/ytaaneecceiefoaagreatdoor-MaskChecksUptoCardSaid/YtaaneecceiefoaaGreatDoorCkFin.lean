import Derived.Test.YtaaneecceiefoaaGreatDoorOpen
set_option maxRecDepth 100000
set_option maxHeartbeats 4000000
set_option linter.unusedVariables false
set_option linter.unusedSimpArgs false
namespace Go.Proofs.YtaaneecceiefoaaGreatDoor.Ck
inductive Fin (s:PSchema):Str->Prop
 | mk (n:Str) (m:PMsg) (h:msgOf s n=some m) (hk : ∀k,k ∈ needs m->(msgOf s k).isSome=true->Fin s k):Fin s n
def Sound (s:PSchema) (fin:Str->Bool):Prop := ∀n,fin n=true->Fin s n
def Closed (s:PSchema) (fin:Str->Bool):Prop := ∀n m,msgOf s n=some m->(∀k,k ∈ needs m->(msgOf s k).isSome=true->fin k=true)->fin n=true
theorem Fin.closed {s:PSchema} {fin:Str->Bool} (hc:Closed s fin) {n:Str} (h:Fin s n):fin n=true:=by
 induction h with
 | mk n m h hk ih=>exact hc n m h ih
theorem qe0 (s:PSchema) (fin:Str->Bool) (m:PMsg):qbo s fin m=fin ∨ (qbo s fin m=(fun x=>decide (x=m.name) || fin x)/\∃f,msgOf s m.name=some f/\∀k,k ∈ needs f->(msgOf s k).isSome=true->fin k=true):=by
 unfold qbo
 split
 ·exact .inl rfl
 ·rename_i f hf
  split
  ·exact .inl rfl
  ·rename_i ho
   refine .inr ⟨rfl,f,hf,fun k hk hs=>?_⟩;cases hfk:fin k
   ·exfalso
    apply ho;rw [List.any_eq_true];exact⟨k,hk,by simp [hs,hfk]⟩
   ·rfl
theorem qkz (s:PSchema) (fin:Str->Bool) (m:PMsg) (n:Str) (h:fin n=true):qbo s fin m n=true:=by
 rcases qe0 s fin m with e|⟨e,_⟩ <;> rw [e]
 ·exact h
 ·simp [h]
theorem qit (s:PSchema) (fin:Str->Bool) (m:PMsg) (h:Sound s fin):Sound s (qbo s fin m):=by
 rcases qe0 s fin m with e|⟨e,f,hf,hk⟩ <;> rw [e]
 ·exact h
 ·intro n hn
  by_cases hm:n=m.name
  ·subst hm
   exact Fin.mk _ f hf fun k h1 h2=>h k (hk k h1 h2)
  ·exact h n (by simpa [hm]using hn)
theorem qdv (s:PSchema) : ∀(l:List PMsg) (fin:Str->Bool) (n:Str),fin n=true->l.foldl (qbo s) fin n=true
 | [],_,_,h=>h
 | m :: l,fin,n,h=>qdv s l _ n (qkz s fin m n h)
theorem qg1 (s:PSchema) : ∀(l:List PMsg) (fin:Str->Bool),Sound s fin->Sound s (l.foldl (qbo s) fin)
 | [],_,h=>h
 | m :: l,fin,h=>qg1 s l _ (qit s fin m h)
theorem qf5 (s:PSchema) : ∀(l:List PMsg) (fin:Str->Bool),(∀m,m ∈ l->l.foldl (qbo s) fin m.name=fin m.name)->l.foldl (qbo s) fin=fin/\∀m,m ∈ l->qbo s fin m=fin
 | [],_,_=>⟨rfl,fun m hm=>by simp at hm⟩
 | a :: l,fin,hall=>by
  have e:qbo s fin a=fin:=by
   rcases qe0 s fin a with e|⟨e,_⟩
   ·exact e
   ·have ha:fin a.name=true:=by
     have:=hall a (by simp);rw [←this,List.foldl_cons];exact qdv s l _ _ (by rw [e];simp)
    rw [e]
    funext x
    by_cases hx:x=a.name
    ·simp [hx,ha]
    ·simp [hx]
  have ih:=qf5 s l fin (fun m hm=>by have:=hall m (by simp [hm]);rwa [List.foldl_cons,e]at this);refine⟨by rw [List.foldl_cons,e];exact ih.1,fun m hm=>?_⟩;rcases List.mem_cons.1 hm with rfl|hm'
  ·exact e
  ·exact ih.2 m hm'
theorem msgOf_mem {s:PSchema} {n:Str} {m:PMsg} (h:msgOf s n=some m):m ∈ s.msgs/\m.name=n:=by
 unfold msgOf at h;exact⟨List.mem_of_find?_eq_some h,by simpa using List.find?_some h⟩
theorem ql0 (s:PSchema) (fin:Str->Bool) (m:PMsg) (hn:msgOf s m.name=some m) (hk : ∀k,k ∈ needs m->(msgOf s k).isSome=true->fin k=true):qbo s fin m m.name=true:=by
 unfold qbo;rw [hn];simp only;rw [if_neg]
 ·simp
 ·intro ho
  rw [List.any_eq_true]at ho;obtain⟨k,h1,h2⟩:=ho;simp only [Bool.and_eq_true,Bool.not_eq_true']at h2;rw [hk k h1 h2.1]at h2;exact absurd h2.2 (by decide)
theorem qjy (s:PSchema) (fin:Str->Bool) (h:qb0 s fin=fin):Closed s fin:=by
 intro n m hn hk;obtain⟨hm,rfl⟩:=msgOf_mem hn;have:=(qf5 s s.msgs fin (fun m _=>by show qb0 s fin m.name=fin m.name;rw [h])).2 m hm;have h2:=ql0 s fin m hn hk;rwa [this]at h2
def cnt (s:PSchema) (fin:Str->Bool):Nat:=(s.msgs.filter fun m=>fin m.name).length
theorem qer {α:Type} (p q:α->Bool) : ∀(l:List α),(∀x,x ∈ l->p x=true->q x=true)->(l.filter p).length<=(l.filter q).length/\((∃x,x ∈ l/\p x=false/\q x=true)->(l.filter p).length<(l.filter q).length)
 | [],_=>⟨by simp,fun⟨x,hx,_⟩=>by simp at hx⟩
 | a :: l,h=>by
  obtain⟨h1,h2⟩:=qer p q l (fun x hx=>h x (by simp [hx]));have ha:=h a (by simp);constructor
  ·cases hp:p a <;> cases hq:q a <;> simp [hp,hq]at ha ⊢ <;> omega
  ·rintro ⟨x,hx,hpx,hqx⟩
   rcases List.mem_cons.1 hx with rfl|hx'
   ·simp [hpx,hqx];omega
   ·have:=h2 ⟨x,hx',hpx,hqx⟩
    cases hp:p a <;> cases hq:q a <;> simp [hp,hq]at ha ⊢ <;> omega
theorem qj2 (s:PSchema) (fin:Str->Bool) (h:qb0 s fin ≠ fin):cnt s fin<cnt s (qb0 s fin):=by
 obtain⟨g1,g2⟩:=qer (fun m:PMsg=>fin m.name) (fun m=>qb0 s fin m.name) s.msgs (fun m _ hm=>qdv s s.msgs fin m.name hm);refine g2 ?_;refine Decidable.byContradiction fun hc=>h ?_
 refine(qf5 s s.msgs fin fun m hm=>?_).1;show qb0 s fin m.name=fin m.name
 cases hf:fin m.name
 ·cases hr:qb0 s fin m.name
  ·rfl
  ·exact absurd ⟨m,hm,hf,hr⟩ hc
 ·exact qdv s s.msgs fin m.name hf
theorem qfh (s:PSchema) : ∀(k:Nat) (fin:Str->Bool),s.msgs.length-cnt s fin<k->qb0 s (qbg s k fin)=qbg s k fin
 | 0,fin,h=>by omega
 | k+1,fin,h=>by
  show qb0 s (qbg s k (qb0 s fin))=qbg s k (qb0 s fin)
  by_cases he:qb0 s fin=fin
  ·rw [he]
   have : ∀k,qbg s k fin=fin:=by
    intro k
    induction k with
    | zero=>rfl
    | succ k ih=>show qbg s k (qb0 s fin)=fin;rw [he];exact ih
   rw [this,he]
  ·have h1:=qj2 s fin he
   have h2:cnt s (qb0 s fin)<=s.msgs.length:=List.length_filter_le _ _;exact qfh s k _ (by omega)
theorem qe1 (s:PSchema) : ∀(k:Nat) (fin:Str->Bool),Sound s fin->Sound s (qbg s k fin)
 | 0,_,h=>h
 | k+1,fin,h=>qe1 s k _ (qg1 s s.msgs fin h)
theorem qk0 (s:PSchema) (n:Str):qcj s n=true ↔ Fin s n:=by
 have h1:Sound s (qcj s):=qe1 s _ _ (fun n h=>by cases h);have h2:qb0 s (qcj s)=qcj s:=qfh s (s.msgs.length+1) (fun _=>false) (by omega);exact⟨h1 n,Fin.closed (qjy s _ h2)⟩
def idxGo (n:Str):List PMsg->Nat->Option Nat
 | [],_=>none
 | m :: r,i=>if m.name=n then some i else idxGo n r (i+1)
def idxOf (s:PSchema) (n:Str):Option Nat:=idxGo n s.msgs 0
theorem qfz (n:Str) : ∀(l:List PMsg) (i k:Nat),idxGo n l i=some k->i<=k/\∃m,l[k-i]? = some m/\m.name=n/\l.find? (fun m=>m.name=n)=some m
 | [],i,k,h=>by simp [idxGo]at h
 | m :: r,i,k,h=>by
  unfold idxGo at h
  split at h
  ·rename_i hm
   injection h with h
   subst h;refine⟨Nat.le_refl _,m,by simp,hm,by simp [hm]⟩
  ·rename_i hm
   obtain⟨h1,x,h2,h3,h4⟩:=qfz n r (i+1) k h;refine⟨by omega,x,?_,h3,by simp [hm,h4]⟩;rw [show k-i=(k-(i+1))+1 by omega]
   simpa using h2
theorem qg0 (n:Str) : ∀(l:List PMsg) (i:Nat),idxGo n l i=none ↔ l.find? (fun m=>m.name=n)=none
 | [],i=>by simp [idxGo]
 | m :: r,i=>by
  have:=qg0 n r (i+1);unfold idxGo;by_cases hm:m.name=n
  ·simp [hm]
  ·simp [hm,this]
theorem qd2 {s:PSchema} {n:Str} {k:Nat} (h:idxOf s n=some k) : ∃m,s.msgs[k]? = some m/\m.name=n/\msgOf s n=some m:=by
 obtain⟨_,m,h2,h3,h4⟩:=qfz n s.msgs 0 k h;exact⟨m,by simpa using h2,h3,h4⟩
theorem qbj (s:PSchema) (n:Str):(idxOf s n).isSome=(msgOf s n).isSome:=by
 have:=qg0 n s.msgs 0;unfold idxOf msgOf;cases h1:idxGo n s.msgs 0 <;> cases h2:s.msgs.find? (fun m=>m.name=n) <;> simp_all
def qat (s:PSchema) (m:PMsg) (fin:List Bool):Bool:=(needs m).any fun n=>match idxOf s n with|some k => !fin.getD k false|none=>false
def rStep (s:PSchema) (st:List Bool × Bool) (i:Nat):List Bool × Bool:=
 match s.msgs[i]? with
 | none=>st
 | some m=>if st.1.getD i false=false/\qat s m st.1=false then(st.1.set i true,true)else st
def qex (s:PSchema) (fin:List Bool):List Bool × Bool:=(List.range s.msgs.length).foldl (rStep s) (fin,false)
def qcv (s:PSchema):Nat->List Bool->List Bool
 | 0,fin=>fin
 | k+1,fin=>if(qex s fin).2=true then qcv s k (qex s fin).1 else(qex s fin).1
def qau (s:PSchema):List Bool:=qcv s s.msgs.length (List.replicate s.msgs.length false)
def qgy (s:PSchema) (fin:List Bool):Prop:=fin.length=s.msgs.length/\∀n k,idxOf s n=some k->fin.getD k false=true->Fin s n
theorem qew {s:PSchema} {m:PMsg} {fin:List Bool} (h:qat s m fin=false) : ∀n k,n ∈ needs m->idxOf s n=some k->fin.getD k false=true:=by
 intro n k hn hk;unfold qat at h;rw [List.any_eq_false]at h;have:=h n hn;rw [hk]at this
 simpa using this
theorem getD_set (l:List Bool) (i k:Nat) (h:i<l.length):(l.set i true).getD k false=if k=i then true else l.getD k false:=by
 by_cases hk:k=i
 ·subst hk;simp [List.getD,h]
 ·simp [List.getD,hk,List.getElem?_set_ne (Ne.symm hk)]
theorem qcf (s:PSchema) (st:List Bool × Bool) (i:Nat):rStep s st i=st ∨ (∃m,s.msgs[i]? = some m/\st.1.getD i false=false/\qat s m st.1=false/\rStep s st i=(st.1.set i true,true)):=by
 unfold rStep
 split
 ·exact .inl rfl
 ·rename_i m hm
  split
  ·rename_i h
   exact .inr ⟨m,hm,h.1,h.2,rfl⟩
  ·exact .inl rfl
theorem qi8 (s:PSchema) (st:List Bool × Bool) (i:Nat) (h:qgy s st.1):qgy s (rStep s st i).1:=by
 rcases qcf s st i with e|⟨m,hm,h1,h2,e⟩ <;> rw [e]
 ·exact h
 ·have hi:i<s.msgs.length:=(List.getElem?_eq_some_iff.1 hm).1
  refine⟨by simpa using h.1,fun n k hn hk=>?_⟩;rw [getD_set _ _ _ (by rw [h.1];exact hi)]at hk;by_cases hki:k=i
  ·subst hki
   obtain⟨m',h3,h4,h5⟩:=qd2 hn;rw [hm]at h3;obtain rfl:=Option.some.inj h3;refine Fin.mk n m h5 fun q hq hs=>?_
   rw [←qbj]at hs;obtain⟨j,hj⟩:=Option.isSome_iff_exists.1 hs;exact h.2 q j hj (qew h2 q j hq hj)
  ·rw [if_neg hki]at hk
   exact h.2 n k hn hk
theorem qeo (s:PSchema) : ∀(l:List Nat) (st:List Bool × Bool),qgy s st.1->qgy s (l.foldl (rStep s) st).1
 | [],_,h=>h
 | i :: l,st,h=>qeo s l _ (qi8 s st i h)
theorem qfo (s:PSchema) : ∀(l:List Nat) (st:List Bool × Bool),st.2=true->(l.foldl (rStep s) st).2=true
 | [],_,h=>h
 | i :: l,st,h=>qfo s l _ (by rcases qcf s st i with e|⟨m,_,_,_,e⟩ <;> rw [e];exact h)
theorem qe4 (s:PSchema) : ∀(l:List Nat) (fin:List Bool),(l.foldl (rStep s) (fin,false)).2=false->(l.foldl (rStep s) (fin,false)).1=fin/\∀i,i ∈ l->rStep s (fin,false) i=(fin,false)
 | [],_,_=>⟨rfl,fun i hi=>by simp at hi⟩
 | i :: l,fin,h=>by
  have e:rStep s (fin,false) i=(fin,false):=by
   rcases qcf s (fin,false) i with e|⟨m,_,_,_,e⟩
   ·exact e
   ·rw [List.foldl_cons,e]at h
    rw [qfo s l _ rfl]at h;cases h
  rw [List.foldl_cons,e]at h ⊢;obtain⟨h1,h2⟩:=qe4 s l fin h;exact⟨h1,fun j hj=>by rcases List.mem_cons.1 hj with rfl|hj;exact e;exact h2 j hj⟩
def RClosed (s:PSchema) (fin:List Bool):Prop := ∀n,Fin s n->∀k,idxOf s n=some k->fin.getD k false=true
theorem qgf (s:PSchema) (fin:List Bool) (h:(qex s fin).2=false):RClosed s fin:=by
 obtain⟨_,h2⟩:=qe4 s _ fin h;intro n hn
 induction hn with
 | mk n m hm hk ih=>
  intro k hidx;obtain⟨m',h3,h4,h5⟩:=qd2 hidx;rw [hm]at h5;obtain rfl:=Option.some.inj h5;have hi:k<s.msgs.length:=(List.getElem?_eq_some_iff.1 h3).1;have e:=h2 k (by simpa using hi);cases hf:fin.getD k false
  ·exfalso
   have hne:qat s m fin=false:=by
    unfold qat;rw [List.any_eq_false];intro q hq;cases hj:idxOf s q with
    | none=>simp
    | some j=>
     have:=ih q hq (by rw [←qbj,hj];rfl) j hj;show ¬(!fin.getD j false)=true
     rw [this];decide
   unfold rStep at e;rw [h3]at e;simp only [hf,hne,and_self,if_true]at e;have:=(Prod.mk.inj e).2;cases this
  ·rfl
def rcnt (fin:List Bool):Nat:=(fin.filter id).length
theorem qjd : ∀(fin:List Bool) (i:Nat),i<fin.length->fin.getD i false=false->rcnt (fin.set i true)=rcnt fin+1
 | [],i,h,_=>by simp at h
 | b :: l,0,h,hb=>by
  simp at hb;subst hb;simp [rcnt]
 | b :: l,i+1,h,hb=>by
  have:=qjd l i (by simpa using h) (by simpa using hb);unfold rcnt at this ⊢;cases b <;> simp at this ⊢ <;> omega
theorem qlb (s:PSchema) (st:List Bool × Bool) (i:Nat) (h:st.1.length=s.msgs.length):(rStep s st i).1.length=s.msgs.length/\rcnt st.1<=rcnt (rStep s st i).1/\(st.2=false->(rStep s st i).2=true->rcnt st.1<rcnt (rStep s st i).1):=by
 rcases qcf s st i with e|⟨m,hm,h1,h2,e⟩ <;> rw [e]
 ·exact⟨h,Nat.le_refl _,fun h1 h2=>by rw [h1]at h2;cases h2⟩
 ·have hi:i<s.msgs.length:=(List.getElem?_eq_some_iff.1 hm).1
  have:=qjd st.1 i (by omega) h1;exact⟨by simpa using h,by simp only;omega,fun _ _=>by simp only;omega⟩
theorem qhb (s:PSchema) : ∀(l:List Nat) (st:List Bool × Bool),st.1.length=s.msgs.length->(l.foldl (rStep s) st).1.length=s.msgs.length/\rcnt st.1<=rcnt (l.foldl (rStep s) st).1/\(st.2=false->(l.foldl (rStep s) st).2=true->rcnt st.1<rcnt (l.foldl (rStep s) st).1)
 | [],st,h=>⟨h,Nat.le_refl _,fun h1 h2=>by rw [List.foldl_nil,h1]at h2;cases h2⟩
 | i :: l,st,h=>by
  obtain⟨a1,a2,a3⟩:=qlb s st i h;obtain⟨b1,b2,b3⟩:=qhb s l (rStep s st i) a1;rw [List.foldl_cons];refine⟨b1,by omega,fun h1 h2=>?_⟩;cases h3:(rStep s st i).2
  ·have:=b3 h3 h2;omega
  ·have:=a3 h1 h3;omega
theorem rcnt_le (fin:List Bool):rcnt fin<=fin.length:=List.length_filter_le _ _
theorem qje : ∀(fin:List Bool),rcnt fin=fin.length->∀k,k<fin.length->fin.getD k false=true
 | [],_,k,h=>by simp at h
 | b :: l,h,k,hk=>by
  have hl:=rcnt_le l;unfold rcnt at h hl;cases b
  ·simp at h;omega
  ·cases k with
   | zero=>rfl
   | succ k=>
    have:=qje l (by unfold rcnt;simpa using h) k (by simpa using hk)
    simpa using this
theorem qcu (s:PSchema) : ∀(k:Nat) (fin:List Bool),fin.length=s.msgs.length->s.msgs.length-rcnt fin<=k->RClosed s (qcv s k fin)
 | 0,fin,h,hk=>by
  intro n _ k hidx;obtain⟨m,h3,_,_⟩:=qd2 hidx;have hi:k<s.msgs.length:=(List.getElem?_eq_some_iff.1 h3).1;have:=rcnt_le fin;exact qje fin (by omega) k (by omega)
 | k+1,fin,h,hk=>by
  unfold qcv;have hc:=qhb s (List.range s.msgs.length) (fin,false) h
  split
  ·rename_i hm
   have:=hc.2.2 rfl hm;simp only at this;exact qcu s k _ hc.1 (by show s.msgs.length-rcnt (qex s fin).1<=k;unfold qex;omega)
  ·rename_i hm
   have hm':(qex s fin).2=false:=by simpa using hm
   have:=(qe4 s _ fin hm').1;have e:(qex s fin).1=fin:=this;rw [e];exact qgf s fin hm'
theorem qdj (s:PSchema) : ∀(k:Nat) (fin:List Bool),qgy s fin->qgy s (qcv s k fin)
 | 0,_,h=>h
 | k+1,fin,h=>by
  have:=qeo s (List.range s.msgs.length) (fin,false) h;unfold qcv
  split
  ·exact qdj s k _ this
  ·exact this
theorem qgi (s:PSchema) (n:Str) (k:Nat) (h:idxOf s n=some k):(qau s).getD k false=qcj s n:=by
 have h0:qgy s (List.replicate s.msgs.length false):=⟨by simp,fun n k _ hk=>by
  exfalso;by_cases hkl:k<s.msgs.length
  ·simp [List.getD,List.getElem?_replicate,hkl]at hk
  ·simp [List.getD,List.getElem?_replicate,hkl]at hk⟩
 have h1:=qdj s s.msgs.length _ h0;have h2:=qcu s s.msgs.length (List.replicate s.msgs.length false) (by simp) (by omega);rw [Bool.eq_iff_iff,qk0];exact⟨h1.2 n k h,fun hf=>h2 n hf k h⟩
theorem qej (s:PSchema) (m:PMsg):qat s m (qau s)=qk8 s m (qcj s):=by
 unfold qat qk8
 congr 1
 funext n
 have:=qbj s n;cases h:idxOf s n with
 | none=>rw [h]at this;rw [←this];rfl
 | some k=>
  rw [h]at this;rw [←this];show(!(qau s).getD k false)=(true && !qcj s n)
  rw [qgi s n k h];rfl
end Go.Proofs.YtaaneecceiefoaaGreatDoor.Ck
