import Derived.Test.YtfoaaglbpmmhiaaGreatDoorKitA
set_option maxRecDepth 100000
set_option maxHeartbeats 4000000
set_option linter.unusedVariables false
set_option linter.unusedSimpArgs false
namespace Go.Proofs.YtfoaaglbpmmhiaaGreatDoor.Ck
inductive Fin (s:PSchema):Str->Prop
 | mk (n:Str) (m:PMsg) (h:msgOf s n=some m) (hk : ∀k,k ∈ needs m->(msgOf s k).isSome=true->Fin s k):Fin s n
def Sound (s:PSchema) (fin:Str->Bool):Prop := ∀n,fin n=true->Fin s n
def Closed (s:PSchema) (fin:Str->Bool):Prop := ∀n m,msgOf s n=some m->(∀k,k ∈ needs m->(msgOf s k).isSome=true->fin k=true)->fin n=true
theorem Fin.closed {s:PSchema} {fin:Str->Bool} (hc:Closed s fin) {n:Str} (h:Fin s n):fin n=true:=by
 induction h with
 | mk n m h hk ih=>exact hc n m h ih
theorem qf6 (s:PSchema) (fin:Str->Bool) (m:PMsg):qbv s fin m=fin ∨ (qbv s fin m=(fun x=>decide (x=m.name) || fin x)/\∃f,msgOf s m.name=some f/\∀k,k ∈ needs f->(msgOf s k).isSome=true->fin k=true):=by
 unfold qbv
 split
 ·exact .inl rfl
 ·rename_i f hf
  split
  ·exact .inl rfl
  ·rename_i ho
   refine .inr ⟨rfl,f,hf,fun k hk hs=>?_⟩;cases hfk:fin k
   ·exfalso
    apply ho;rw [List.any_eq_true];exact⟨k,hk,by simp [hs,hfk]⟩
   ·rfl
theorem qpm (s:PSchema) (fin:Str->Bool) (m:PMsg) (n:Str) (h:fin n=true):qbv s fin m n=true:=by
 rcases qf6 s fin m with e|⟨e,_⟩ <;> rw [e]
 ·exact h
 ·simp [h]
theorem qmz (s:PSchema) (fin:Str->Bool) (m:PMsg) (h:Sound s fin):Sound s (qbv s fin m):=by
 rcases qf6 s fin m with e|⟨e,f,hf,hk⟩ <;> rw [e]
 ·exact h
 ·intro n hn
  by_cases hm:n=m.name
  ·subst hm
   exact Fin.mk _ f hf fun k h1 h2=>h k (hk k h1 h2)
  ·exact h n (by simpa [hm]using hn)
theorem qf1 (s:PSchema) : ∀(l:List PMsg) (fin:Str->Bool) (n:Str),fin n=true->l.foldl (qbv s) fin n=true
 | [],_,_,h=>h
 | m :: l,fin,n,h=>qf1 s l _ n (qpm s fin m n h)
theorem qis (s:PSchema) : ∀(l:List PMsg) (fin:Str->Bool),Sound s fin->Sound s (l.foldl (qbv s) fin)
 | [],_,h=>h
 | m :: l,fin,h=>qis s l _ (qmz s fin m h)
theorem qhn (s:PSchema) : ∀(l:List PMsg) (fin:Str->Bool),(∀m,m ∈ l->l.foldl (qbv s) fin m.name=fin m.name)->l.foldl (qbv s) fin=fin/\∀m,m ∈ l->qbv s fin m=fin
 | [],_,_=>⟨rfl,fun m hm=>by simp at hm⟩
 | a :: l,fin,hall=>by
  have e:qbv s fin a=fin:=by
   rcases qf6 s fin a with e|⟨e,_⟩
   ·exact e
   ·have ha:fin a.name=true:=by
     have:=hall a (by simp);rw [←this,List.foldl_cons];exact qf1 s l _ _ (by rw [e];simp)
    rw [e]
    funext x
    by_cases hx:x=a.name
    ·simp [hx,ha]
    ·simp [hx]
  have ih:=qhn s l fin (fun m hm=>by have:=hall m (by simp [hm]);rwa [List.foldl_cons,e]at this);refine⟨by rw [List.foldl_cons,e];exact ih.1,fun m hm=>?_⟩;rcases List.mem_cons.1 hm with rfl|hm'
  ·exact e
  ·exact ih.2 m hm'
theorem msgOf_mem {s:PSchema} {n:Str} {m:PMsg} (h:msgOf s n=some m):m ∈ s.msgs/\m.name=n:=by
 unfold msgOf at h;exact⟨List.mem_of_find?_eq_some h,by simpa using List.find?_some h⟩
theorem qpn (s:PSchema) (fin:Str->Bool) (m:PMsg) (hn:msgOf s m.name=some m) (hk : ∀k,k ∈ needs m->(msgOf s k).isSome=true->fin k=true):qbv s fin m m.name=true:=by
 unfold qbv;rw [hn];simp only;rw [if_neg]
 ·simp
 ·intro ho
  rw [List.any_eq_true]at ho;obtain⟨k,h1,h2⟩:=ho;simp only [Bool.and_eq_true,Bool.not_eq_true']at h2;rw [hk k h1 h2.1]at h2;exact absurd h2.2 (by decide)
theorem qob (s:PSchema) (fin:Str->Bool) (h:qba s fin=fin):Closed s fin:=by
 intro n m hn hk;obtain⟨hm,rfl⟩:=msgOf_mem hn;have:=(qhn s s.msgs fin (fun m _=>by show qba s fin m.name=fin m.name;rw [h])).2 m hm;have h2:=qpn s fin m hn hk;rwa [this]at h2
def cnt (s:PSchema) (fin:Str->Bool):Nat:=(s.msgs.filter fun m=>fin m.name).length
theorem qgq {α:Type} (p q:α->Bool) : ∀(l:List α),(∀x,x ∈ l->p x=true->q x=true)->(l.filter p).length<=(l.filter q).length/\((∃x,x ∈ l/\p x=false/\q x=true)->(l.filter p).length<(l.filter q).length)
 | [],_=>⟨by simp,fun⟨x,hx,_⟩=>by simp at hx⟩
 | a :: l,h=>by
  obtain⟨h1,h2⟩:=qgq p q l (fun x hx=>h x (by simp [hx]));have ha:=h a (by simp);constructor
  ·cases hp:p a <;> cases hq:q a <;> simp [hp,hq]at ha ⊢ <;> omega
  ·rintro ⟨x,hx,hpx,hqx⟩
   rcases List.mem_cons.1 hx with rfl|hx'
   ·simp [hpx,hqx];omega
   ·have:=h2 ⟨x,hx',hpx,hqx⟩
    cases hp:p a <;> cases hq:q a <;> simp [hp,hq]at ha ⊢ <;> omega
theorem qn3 (s:PSchema) (fin:Str->Bool) (h:qba s fin ≠ fin):cnt s fin<cnt s (qba s fin):=by
 obtain⟨g1,g2⟩:=qgq (fun m:PMsg=>fin m.name) (fun m=>qba s fin m.name) s.msgs (fun m _ hm=>qf1 s s.msgs fin m.name hm);refine g2 ?_;refine Decidable.byContradiction fun hc=>h ?_
 refine(qhn s s.msgs fin fun m hm=>?_).1;show qba s fin m.name=fin m.name
 cases hf:fin m.name
 ·cases hr:qba s fin m.name
  ·rfl
  ·exact absurd ⟨m,hm,hf,hr⟩ hc
 ·exact qf1 s s.msgs fin m.name hf
theorem qi6 (s:PSchema) : ∀(k:Nat) (fin:Str->Bool),s.msgs.length-cnt s fin<k->qba s (qbr s k fin)=qbr s k fin
 | 0,fin,h=>by omega
 | k+1,fin,h=>by
  show qba s (qbr s k (qba s fin))=qbr s k (qba s fin)
  by_cases he:qba s fin=fin
  ·rw [he]
   have : ∀k,qbr s k fin=fin:=by
    intro k
    induction k with
    | zero=>rfl
    | succ k ih=>show qbr s k (qba s fin)=fin;rw [he];exact ih
   rw [this,he]
  ·have h1:=qn3 s fin he
   have h2:cnt s (qba s fin)<=s.msgs.length:=List.length_filter_le _ _;exact qi6 s k _ (by omega)
theorem qf9 (s:PSchema) : ∀(k:Nat) (fin:Str->Bool),Sound s fin->Sound s (qbr s k fin)
 | 0,_,h=>h
 | k+1,fin,h=>qf9 s k _ (qis s s.msgs fin h)
theorem qod (s:PSchema) (n:Str):qci s n=true ↔ Fin s n:=by
 have h1:Sound s (qci s):=qf9 s _ _ (fun n h=>by cases h);have h2:qba s (qci s)=qci s:=qi6 s (s.msgs.length+1) (fun _=>false) (by omega);exact⟨h1 n,Fin.closed (qob s _ h2)⟩
def idxGo (n:Str):List PMsg->Nat->Option Nat
 | [],_=>none
 | m :: r,i=>if m.name=n then some i else idxGo n r (i+1)
def idxOf (s:PSchema) (n:Str):Option Nat:=idxGo n s.msgs 0
theorem qip (n:Str) : ∀(l:List PMsg) (i k:Nat),idxGo n l i=some k->i<=k/\∃m,l[k-i]? = some m/\m.name=n/\l.find? (fun m=>m.name=n)=some m
 | [],i,k,h=>by simp [idxGo]at h
 | m :: r,i,k,h=>by
  unfold idxGo at h
  split at h
  ·rename_i hm
   injection h with h
   subst h;refine⟨Nat.le_refl _,m,by simp,hm,by simp [hm]⟩
  ·rename_i hm
   obtain⟨h1,x,h2,h3,h4⟩:=qip n r (i+1) k h;refine⟨by omega,x,?_,h3,by simp [hm,h4]⟩;rw [show k-i=(k-(i+1))+1 by omega]
   simpa using h2
theorem qiq (n:Str) : ∀(l:List PMsg) (i:Nat),idxGo n l i=none ↔ l.find? (fun m=>m.name=n)=none
 | [],i=>by simp [idxGo]
 | m :: r,i=>by
  have:=qiq n r (i+1);unfold idxGo;by_cases hm:m.name=n
  ·simp [hm]
  ·simp [hm,this]
theorem qe5 {s:PSchema} {n:Str} {k:Nat} (h:idxOf s n=some k) : ∃m,s.msgs[k]? = some m/\m.name=n/\msgOf s n=some m:=by
 obtain⟨_,m,h2,h3,h4⟩:=qip n s.msgs 0 k h;exact⟨m,by simpa using h2,h3,h4⟩
theorem qch (s:PSchema) (n:Str):(idxOf s n).isSome=(msgOf s n).isSome:=by
 have:=qiq n s.msgs 0;unfold idxOf msgOf;cases h1:idxGo n s.msgs 0 <;> cases h2:s.msgs.find? (fun m=>m.name=n) <;> simp_all
def qbf (s:PSchema) (m:PMsg) (fin:List Bool):Bool:=(needs m).any fun n=>match idxOf s n with|some k => !fin.getD k false|none=>false
def rStep (s:PSchema) (st:List Bool × Bool) (i:Nat):List Bool × Bool:=
 match s.msgs[i]? with
 | none=>st
 | some m=>if st.1.getD i false=false/\qbf s m st.1=false then(st.1.set i true,true)else st
def qh5 (s:PSchema) (fin:List Bool):List Bool × Bool:=(List.range s.msgs.length).foldl (rStep s) (fin,false)
def qdz (s:PSchema):Nat->List Bool->List Bool
 | 0,fin=>fin
 | k+1,fin=>if(qh5 s fin).2=true then qdz s k (qh5 s fin).1 else(qh5 s fin).1
def qbi (s:PSchema):List Bool:=qdz s s.msgs.length (List.replicate s.msgs.length false)
def qk4 (s:PSchema) (fin:List Bool):Prop:=fin.length=s.msgs.length/\∀n k,idxOf s n=some k->fin.getD k false=true->Fin s n
theorem qh4 {s:PSchema} {m:PMsg} {fin:List Bool} (h:qbf s m fin=false) : ∀n k,n ∈ needs m->idxOf s n=some k->fin.getD k false=true:=by
 intro n k hn hk;unfold qbf at h;rw [List.any_eq_false]at h;have:=h n hn;rw [hk]at this
 simpa using this
theorem getD_set (l:List Bool) (i k:Nat) (h:i<l.length):(l.set i true).getD k false=if k=i then true else l.getD k false:=by
 by_cases hk:k=i
 ·subst hk;simp [List.getD,h]
 ·simp [List.getD,hk,List.getElem?_set_ne (Ne.symm hk)]
theorem qdf (s:PSchema) (st:List Bool × Bool) (i:Nat):rStep s st i=st ∨ (∃m,s.msgs[i]? = some m/\st.1.getD i false=false/\qbf s m st.1=false/\rStep s st i=(st.1.set i true,true)):=by
 unfold rStep
 split
 ·exact .inl rfl
 ·rename_i m hm
  split
  ·rename_i h
   exact .inr ⟨m,hm,h.1,h.2,rfl⟩
  ·exact .inl rfl
theorem qm9 (s:PSchema) (st:List Bool × Bool) (i:Nat) (h:qk4 s st.1):qk4 s (rStep s st i).1:=by
 rcases qdf s st i with e|⟨m,hm,h1,h2,e⟩ <;> rw [e]
 ·exact h
 ·have hi:i<s.msgs.length:=(List.getElem?_eq_some_iff.1 hm).1
  refine⟨by simpa using h.1,fun n k hn hk=>?_⟩;rw [getD_set _ _ _ (by rw [h.1];exact hi)]at hk;by_cases hki:k=i
  ·subst hki
   obtain⟨m',h3,h4,h5⟩:=qe5 hn;rw [hm]at h3;obtain rfl:=Option.some.inj h3;refine Fin.mk n m h5 fun q hq hs=>?_
   rw [←qch]at hs;obtain⟨j,hj⟩:=Option.isSome_iff_exists.1 hs;exact h.2 q j hj (qh4 h2 q j hq hj)
  ·rw [if_neg hki]at hk
   exact h.2 n k hn hk
theorem qgf (s:PSchema) : ∀(l:List Nat) (st:List Bool × Bool),qk4 s st.1->qk4 s (l.foldl (rStep s) st).1
 | [],_,h=>h
 | i :: l,st,h=>qgf s l _ (qm9 s st i h)
theorem qib (s:PSchema) : ∀(l:List Nat) (st:List Bool × Bool),st.2=true->(l.foldl (rStep s) st).2=true
 | [],_,h=>h
 | i :: l,st,h=>qib s l _ (by rcases qdf s st i with e|⟨m,_,_,_,e⟩ <;> rw [e];exact h)
theorem qfc (s:PSchema) : ∀(l:List Nat) (fin:List Bool),(l.foldl (rStep s) (fin,false)).2=false->(l.foldl (rStep s) (fin,false)).1=fin/\∀i,i ∈ l->rStep s (fin,false) i=(fin,false)
 | [],_,_=>⟨rfl,fun i hi=>by simp at hi⟩
 | i :: l,fin,h=>by
  have e:rStep s (fin,false) i=(fin,false):=by
   rcases qdf s (fin,false) i with e|⟨m,_,_,_,e⟩
   ·exact e
   ·rw [List.foldl_cons,e]at h
    rw [qib s l _ rfl]at h;cases h
  rw [List.foldl_cons,e]at h ⊢;obtain⟨h1,h2⟩:=qfc s l fin h;exact⟨h1,fun j hj=>by rcases List.mem_cons.1 hj with rfl|hj;exact e;exact h2 j hj⟩
def RClosed (s:PSchema) (fin:List Bool):Prop := ∀n,Fin s n->∀k,idxOf s n=some k->fin.getD k false=true
theorem qj7 (s:PSchema) (fin:List Bool) (h:(qh5 s fin).2=false):RClosed s fin:=by
 obtain⟨_,h2⟩:=qfc s _ fin h;intro n hn
 induction hn with
 | mk n m hm hk ih=>
  intro k hidx;obtain⟨m',h3,h4,h5⟩:=qe5 hidx;rw [hm]at h5;obtain rfl:=Option.some.inj h5;have hi:k<s.msgs.length:=(List.getElem?_eq_some_iff.1 h3).1;have e:=h2 k (by simpa using hi);cases hf:fin.getD k false
  ·exfalso
   have hne:qbf s m fin=false:=by
    unfold qbf;rw [List.any_eq_false];intro q hq;cases hj:idxOf s q with
    | none=>simp
    | some j=>
     have:=ih q hq (by rw [←qch,hj];rfl) j hj;show ¬(!fin.getD j false)=true
     rw [this];decide
   unfold rStep at e;rw [h3]at e;simp only [hf,hne,and_self,if_true]at e;have:=(Prod.mk.inj e).2;cases this
  ·rfl
def rcnt (fin:List Bool):Nat:=(fin.filter id).length
theorem qnj : ∀(fin:List Bool) (i:Nat),i<fin.length->fin.getD i false=false->rcnt (fin.set i true)=rcnt fin+1
 | [],i,h,_=>by simp at h
 | b :: l,0,h,hb=>by
  simp at hb;subst hb;simp [rcnt]
 | b :: l,i+1,h,hb=>by
  have:=qnj l i (by simpa using h) (by simpa using hb);unfold rcnt at this ⊢;cases b <;> simp at this ⊢ <;> omega
theorem qq6 (s:PSchema) (st:List Bool × Bool) (i:Nat) (h:st.1.length=s.msgs.length):(rStep s st i).1.length=s.msgs.length/\rcnt st.1<=rcnt (rStep s st i).1/\(st.2=false->(rStep s st i).2=true->rcnt st.1<rcnt (rStep s st i).1):=by
 rcases qdf s st i with e|⟨m,hm,h1,h2,e⟩ <;> rw [e]
 ·exact⟨h,Nat.le_refl _,fun h1 h2=>by rw [h1]at h2;cases h2⟩
 ·have hi:i<s.msgs.length:=(List.getElem?_eq_some_iff.1 hm).1
  have:=qnj st.1 i (by omega) h1;exact⟨by simpa using h,by simp only;omega,fun _ _=>by simp only;omega⟩
theorem qkq (s:PSchema) : ∀(l:List Nat) (st:List Bool × Bool),st.1.length=s.msgs.length->(l.foldl (rStep s) st).1.length=s.msgs.length/\rcnt st.1<=rcnt (l.foldl (rStep s) st).1/\(st.2=false->(l.foldl (rStep s) st).2=true->rcnt st.1<rcnt (l.foldl (rStep s) st).1)
 | [],st,h=>⟨h,Nat.le_refl _,fun h1 h2=>by rw [List.foldl_nil,h1]at h2;cases h2⟩
 | i :: l,st,h=>by
  obtain⟨a1,a2,a3⟩:=qq6 s st i h;obtain⟨b1,b2,b3⟩:=qkq s l (rStep s st i) a1;rw [List.foldl_cons];refine⟨b1,by omega,fun h1 h2=>?_⟩;cases h3:(rStep s st i).2
  ·have:=b3 h3 h2;omega
  ·have:=a3 h1 h3;omega
theorem rcnt_le (fin:List Bool):rcnt fin<=fin.length:=List.length_filter_le _ _
theorem qnk : ∀(fin:List Bool),rcnt fin=fin.length->∀k,k<fin.length->fin.getD k false=true
 | [],_,k,h=>by simp at h
 | b :: l,h,k,hk=>by
  have hl:=rcnt_le l;unfold rcnt at h hl;cases b
  ·simp at h;omega
  ·cases k with
   | zero=>rfl
   | succ k=>
    have:=qnk l (by unfold rcnt;simpa using h) k (by simpa using hk)
    simpa using this
theorem qdy (s:PSchema) : ∀(k:Nat) (fin:List Bool),fin.length=s.msgs.length->s.msgs.length-rcnt fin<=k->RClosed s (qdz s k fin)
 | 0,fin,h,hk=>by
  intro n _ k hidx;obtain⟨m,h3,_,_⟩:=qe5 hidx;have hi:k<s.msgs.length:=(List.getElem?_eq_some_iff.1 h3).1;have:=rcnt_le fin;exact qnk fin (by omega) k (by omega)
 | k+1,fin,h,hk=>by
  unfold qdz;have hc:=qkq s (List.range s.msgs.length) (fin,false) h
  split
  ·rename_i hm
   have:=hc.2.2 rfl hm;simp only at this;exact qdy s k _ hc.1 (by show s.msgs.length-rcnt (qh5 s fin).1<=k;unfold qh5;omega)
  ·rename_i hm
   have hm':(qh5 s fin).2=false:=by simpa using hm
   have:=(qfc s _ fin hm').1;have e:(qh5 s fin).1=fin:=this;rw [e];exact qj7 s fin hm'
theorem qep (s:PSchema) : ∀(k:Nat) (fin:List Bool),qk4 s fin->qk4 s (qdz s k fin)
 | 0,_,h=>h
 | k+1,fin,h=>by
  have:=qgf s (List.range s.msgs.length) (fin,false) h;unfold qdz
  split
  ·exact qep s k _ this
  ·exact this
theorem qj9 (s:PSchema) (n:Str) (k:Nat) (h:idxOf s n=some k):(qbi s).getD k false=qci s n:=by
 have h0:qk4 s (List.replicate s.msgs.length false):=⟨by simp,fun n k _ hk=>by
  exfalso;by_cases hkl:k<s.msgs.length
  ·simp [List.getD,List.getElem?_replicate,hkl]at hk
  ·simp [List.getD,List.getElem?_replicate,hkl]at hk⟩
 have h1:=qep s s.msgs.length _ h0;have h2:=qdy s s.msgs.length (List.replicate s.msgs.length false) (by simp) (by omega);rw [Bool.eq_iff_iff,qod];exact⟨h1.2 n k h,fun hf=>h2 n hf k h⟩
theorem qg1 (s:PSchema) (m:PMsg):qbf s m (qbi s)=qg5 s m (qci s):=by
 unfold qbf qg5
 congr 1
 funext n
 have:=qch s n;cases h:idxOf s n with
 | none=>rw [h]at this;rw [←this];rfl
 | some k=>
  rw [h]at this;rw [←this];show(!(qbi s).getD k false)=(true && !qci s n)
  rw [qj9 s n k h];rfl
end Go.Proofs.YtfoaaglbpmmhiaaGreatDoor.Ck
namespace Go.Proofs.YtfoaaglbpmmhiaaGreatDoor.Ck
def usG (cur:Str):Bool:=if cur=[]then true else !(Id.cut 46 cur).any Id.isWord
theorem usG_step {l:Str} (h:l ≠ []):usG l=(!Id.isWord (Id.splitL l).2 && usG (Id.splitL l).1) ∨ (Id.splitL l).1=[]/\(Id.lastDot l ≠ -1):=by
 rcases Id.lastDot_spec l with⟨e,hn⟩|⟨i,e,hi,h3,h4⟩
 ·left
  have hs:Id.splitL l=([],l):=by unfold Id.splitL;rw [if_pos e]
  rw [hs];unfold usG;rw [if_neg h,if_pos rfl,Id.cut_none 46 l hn];simp
 ·have hs:Id.splitL l=(l.take i,l.drop (i+1)):=by unfold Id.splitL;rw [if_neg (by omega),e];rfl
  by_cases ha:l.take i=[]
  ·right
   rw [hs];exact⟨ha,by omega⟩
  ·left
   have hl:=Id.split_at l i e hi h3
   have hn:(46:UInt8) ∉ l.drop (i+1):=by
    intro hm;obtain⟨j,hj⟩:=List.mem_iff_getElem?.1 hm;rw [List.getElem?_drop]at hj;exact h4 (i+1+j) (by omega) hj
   have hc:Id.cut 46 l=Id.cut 46 (l.take i) ++ [l.drop (i+1)]:=by
    conv=>lhs;rw [hl]
    exact Id.cut_append 46 _ hn _
   rw [hs];unfold usG;rw [if_neg h,if_neg ha,hc,List.any_append];simp only [List.any_cons,List.any_nil,Bool.or_false,Bool.not_or];exact Bool.and_comm _ _
theorem usG_full {l:Str} (h:Id.isFull l=true):usG l=(!Id.isWord (Id.splitL l).2 && usG (Id.splitL l).1):=by
 rcases usG_step (Id.isFull_ne h)with e|⟨e,hd⟩
 ·exact e
 ·exfalso
  -- an empty scope before a dot is no full name
  obtain⟨_,f2,_⟩:=Id.full_split h;rw [e]at f2;have hj:Id.join [] (Id.splitL l).2=(Id.splitL l).2:=by unfold Id.join;rw [if_pos rfl]
  rw [hj]at f2;rcases Id.lastDot_spec l with⟨e2,_⟩|⟨i,e2,hi,h3,_⟩
  ·exact hd e2
  ·have hs:Id.splitL l=(l.take i,l.drop (i+1)):=by unfold Id.splitL;rw [if_neg (by omega),e2];rfl
   rw [hs]at f2;have:=congrArg List.length f2;simp only [List.length_drop]at this;omega
theorem qmp {l:Str} (h:Id.isFull l=true):qad l=usG l:=by
 unfold qad usG;rw [h,if_neg (Id.isFull_ne h),Bool.true_and]
end Go.Proofs.YtfoaaglbpmmhiaaGreatDoor.Ck
namespace Go.Proofs.YtfoaaglbpmmhiaaGreatDoor.Ck
theorem qg0 {d:Str} {num:Int} {ok:Bool} {e:Int}:un d num ok e=[] ↔ ok=true:=by
 unfold un;cases ok <;> simp
theorem qqi {l:List Str}:listP l=[] ↔ l.length<=64/\qcn l=true:=by
 unfold listP;rw [List.append_eq_nil_iff,qg0,qg0,decide_eq_true_iff]
theorem qo6 {s:PSchema} (h:head s=[]):(qcn (s.msgs.map (·.name))=true/\qcn (s.enums.map (·.name))=true/\qcn (s.svcs.map (·.name))=true)/\(s.msgs.length<=64/\s.enums.length<=64/\s.svcs.length<=64)/\apart (s.msgs.map (·.name)) (s.enums.map (·.name)) (s.svcs.map (·.name))=true:=by
 unfold head at h;simp only [List.append_eq_nil_iff,qqi,qg0,List.length_map]at h;obtain⟨⟨⟨⟨a1,a2⟩,b1,b2⟩,c1,c2⟩,d⟩:=h;exact⟨⟨a2,b2,c2⟩,⟨a1,b1,c1⟩,d⟩
theorem flat_nil {α β:Type} {l:List α} {f:α->List β}:l.flatMap f=[] ↔ ∀x,x ∈ l->f x=[]:=by
 simp [List.flatMap_eq_nil_iff]
theorem all_nil {s:PSchema}:all s=[] ↔ head s=[]/\(∀m,m ∈ s.msgs->qan s m (qci s)=[])/\(∀e,e ∈ s.enums->enum e=[])/\(∀v,v ∈ s.svcs->qax s v=[]):=by
 unfold all;simp only [List.append_eq_nil_iff,flat_nil];constructor
 ·rintro ⟨⟨⟨a,b⟩,c⟩,d⟩;exact⟨a,b,c,d⟩
 ·rintro ⟨a,b,c,d⟩;exact⟨⟨⟨a,b⟩,c⟩,d⟩
theorem valid_iff {s:PSchema}:valid s=true ↔ all s=[]:=by unfold valid;cases all s <;> simp
def rest (s:PSchema):List PProb:=s.msgs.flatMap (fun m=>qnw s m) ++ s.enums.flatMap enum ++ s.svcs.flatMap (qax s)
theorem un_len (d:Str) (num:Int) (ok:Bool) (e:Int):(un d num ok e).length<=1:=by unfold un;cases ok <;> simp
end Go.Proofs.YtfoaaglbpmmhiaaGreatDoor.Ck
namespace Go.Proofs.YtfoaaglbpmmhiaaGreatDoor.Ck
theorem qqg {a b c:Str} (h1:a<b) (h2:b<c):a<c:=List.lt_trans h1 h2
theorem qik (a:Str) : ¬ a<a:=List.lt_irrefl a
theorem qgd : ∀(r:List Str) (x:Str),qec x r=true ↔ (x :: r).Pairwise (· < ·)
 | [],x=>by simp [qec]
 | y :: r,x=>by
  have ih:=qgd r y;unfold qec;rw [Bool.and_eq_true,ih];simp only [ltS,decide_eq_true_eq,List.pairwise_cons];constructor
  ·rintro ⟨h1,h2,h3⟩
   refine⟨fun z hz=>?_,h2,h3⟩;rcases List.mem_cons.1 hz with rfl|hz
   ·exact h1
   ·exact qqg h1 (h2 z hz)
  ·rintro ⟨h1,h2,h3⟩
   exact⟨h1 y (by simp),h2,h3⟩
theorem qkj (l:List Str):qcn l=true ↔ l.Pairwise (· < ·):=by
 cases l with
 | nil=>simp [qcn]
 | cons x r=>exact qgd r x
theorem qfn {s:PSchema} {m:PMsg} : ∀(l:List PField) (i:Nat),qbb s m i l=[]->∀(j:Nat) f,l[j]? = some f->qdr s m (i+j) f=[]
 | [],i,_,j,f,h=>by simp at h
 | a :: r,i,h,j,f,hf=>by
  unfold qbb at h;rw [List.append_eq_nil_iff]at h;cases j with
  | zero=>
   simp at hf;subst hf;exact h.1
  | succ j=>
   have:=qfn r (i+1) h.2 j f (by simpa using hf);rwa [show i+1+j=i+(j+1)by omega]at this
structure MsgOk (s:PSchema) (m:PMsg):Prop where
 len:m.fields.length<=64
 field : ∀(i:Nat) f,m.fields[i]? = some f->qdr s m i f=[]
 acyc:qg5 s m (qci s)=false
theorem qin {s:PSchema} {m:PMsg} (h:qan s m (qci s)=[]):MsgOk s m:=by
 unfold qan at h;simp only [List.append_eq_nil_iff,qg0]at h;obtain⟨⟨⟨⟨⟨⟨h1,h2⟩,h3⟩,h4⟩,h5⟩,h6⟩,h7⟩:=h;refine⟨(of_decide_eq_true h2).1,fun i f hf=>?_,by simpa using h7⟩;have:=qfn m.fields 0 h3 i f hf;rwa [Nat.zero_add]at this
def Le (a b:List Bool):Prop:=a.length=b.length/\∀k,a.getD k false=true->b.getD k false=true
theorem Le.refl (a:List Bool):Le a a:=⟨rfl,fun _ h=>h⟩
theorem Le.trans {a b c:List Bool} (h:Le a b) (k:Le b c):Le a c:=⟨h.1.trans k.1,fun i hi=>k.2 i (h.2 i hi)⟩
def without (s:PSchema) (k:Nat):PSchema := { s with enums:=s.enums.eraseIdx k }
def used (s:PSchema) (n:Str):Bool:=s.msgs.any fun m=>m.fields.any fun f=>decide (f.tk=9/\f.tn=n)
end Go.Proofs.YtfoaaglbpmmhiaaGreatDoor.Ck
