import Derived.Test.YtgpjhibdongmbaaGreatDoorRsMem
set_option maxRecDepth 100000
set_option maxHeartbeats 4000000
set_option linter.unusedVariables false
set_option linter.unusedSimpArgs false
namespace Go.Proofs.YtgpjhibdongmbaaGreatDoor.Rs
open Ck
def Le (K F:List Bool):Prop:=K.length=F.length/\∀i:Nat,K.getD i false=true->F.getD i false=true
theorem getD_set (K:List Bool) (i j:Nat) (b:Bool):(K.set i b).getD j false=if i=j/\i<K.length then b else K.getD j false:=by
 rw [List.getD_eq_getElem?_getD,List.getD_eq_getElem?_getD,List.getElem?_set];by_cases h:i=j
 ·subst h
  by_cases h2:i<K.length
  ·simp [h2]
  ·simp [h2]
 ·simp [h]
theorem okG_mono {K F:List Bool} (h:Le K F) {g:PProg} (hk:okG K g=true):okG F g=true:=by
 unfold okG at *;rw [List.all_eq_true]at *;intro o ho;have:=hk o ho;unfold okAt at *;rw [Bool.or_eq_true]at *;exact this.imp id (h.2 _)
theorem Le.set {K F:List Bool} (h:Le K F) (i:Nat) {a b:Bool} (hab:a=true->b=true):Le (K.set i a) (F.set i b):=by
 refine⟨by simp [h.1],fun j hj=>?_⟩;rw [getD_set]at *;by_cases hc:i=j/\i<K.length
 ·rw [if_pos hc]at hj
  rw [if_pos (by rw [←h.1];exact hc)];exact hab hj
 ·rw [if_neg hc]at hj
  rw [if_neg (by rw [←h.1];exact hc)];exact h.2 j hj
theorem qhf : ∀(gs:List PProg) (i:Nat) (K F:List Bool) (a:Bool),Le K F->Le (qat gs i (K,a)).1 (finGo gs i F)
 | [],_,_,_,_,h=>h
 | g :: r,i,K,F,a,h=>by
  refine qhf r (i+1) _ _ _ (h.set i fun hk=>?_);rw [okG_mono h hk,Bool.or_true]
theorem qfc (p:PPlan) : ∀(n:Nat) (K F:List Bool) (a:Bool),Le K F->Le (qcw p n (K,a)).1 (fins p n F)
 | 0,_,_,_,h=>h
 | n+1,K,F,a,h=>by
  have h2:=qhf p.progs 0 K F true h;unfold qcw fins;generalize qat p.progs 0 (K,true)=s at *;obtain⟨s1,s2⟩:=s;exact qfc p n s1 _ s2 h2
theorem qfd : ∀(gs:List PProg) (i:Nat) (K:List Bool) (a:Bool),(qat gs i (K,a)).1.length=K.length
 | [],_,_,_=>rfl
 | g :: r,i,K,a=>by
  unfold qat;rw [qfd r];simp
theorem qcg : ∀(gs:List PProg) (i:Nat) (K:List Bool) (a:Bool) (j:Nat),j<i->(qat gs i (K,a)).1.getD j false=K.getD j false
 | [],_,_,_,_,_=>rfl
 | g :: r,i,K,a,j,h=>by
  unfold qat;rw [qcg r (i+1) _ _ j (by omega),getD_set,if_neg (by omega)]
theorem qfe : ∀(gs:List PProg) (i:Nat) (K:List Bool) (a:Bool),i+gs.length<=K.length->(qat gs i (K,a)).2=true->a=true/\∀j,i<=j->j<i+gs.length->(qat gs i (K,a)).1.getD j false=true
 | [],i,K,a,_,h=>⟨h,fun j h1 h2=>by simp at h2;omega⟩
 | g :: r,i,K,a,hl,h=>by
  have hl2:i+r.length+1<=K.length:=by simpa [Nat.add_assoc]using hl
  unfold qat at h;obtain⟨h1,h2⟩:=qfe r (i+1) (K.set i (okG K g)) (a && okG K g) (by simp;omega) h;rw [Bool.and_eq_true]at h1;refine⟨h1.1,fun j hj1 hj2=>?_⟩;unfold qat;by_cases hji:j=i
  ·subst hji
   show(qat r (j+1) (K.set j (okG K g),a && okG K g)).1.getD j false=true
   rw [qcg r (j+1) _ _ j (by omega),getD_set,if_pos ⟨rfl,by omega⟩];exact h1.2
  ·have hj3:j<i+(r.length+1):=by simpa using hj2
   exact h2 j (by omega) (by omega)
theorem qd5 (p:PPlan) : ∀(n:Nat) (s:List Bool × Bool),qcw p (n+1) s=qat p.progs 0 ((qcw p n s).1,true)
 | 0,s=>rfl
 | n+1,s=>by
  show qcw p (n+1) (qat p.progs 0 (s.1,true))=_
  rw [qd5 p n];rfl
theorem qdw (p:PPlan) : ∀(n:Nat) (s:List Bool × Bool),(qcw p n s).1.length=s.1.length
 | 0,s=>rfl
 | n+1,s=>by
  show(qcw p n (qat p.progs 0 (s.1,true))).1.length=_
  rw [qdw p n,qfd]
theorem qg1 : ∀(gs:List PProg) (i:Nat) (F:List Bool),(finGo gs i F).length=F.length
 | [],_,_=>rfl
 | g :: r,i,F=>by
  unfold finGo;rw [qg1 r];simp
theorem qev (p:PPlan) : ∀(n:Nat) (F:List Bool),(fins p n F).length=F.length
 | 0,F=>rfl
 | n+1,F=>by
  show(fins p n (finGo p.progs 0 F)).length=_
  rw [qev p n,qg1]
theorem fins_all (p:PPlan) (h:finite p=true) : ∀x ∈ fins p p.progs.length (List.replicate p.progs.length false),x=true:=by
 unfold finite at h;have hle:=qfc p p.progs.length (List.replicate p.progs.length false) (List.replicate p.progs.length false) (decide (p.progs.length=0)) ⟨rfl,fun _ h=>h⟩;have hln:=qev p p.progs.length (List.replicate p.progs.length false);rw [List.length_replicate]at hln;intro x hx;obtain⟨i,hi,rfl⟩:=List.getElem_of_mem hx;rw [hln]at hi
 have hk:(qcw p p.progs.length (List.replicate p.progs.length false,decide (p.progs.length=0))).1.getD i false=true:=by
  obtain⟨n,hn⟩ : ∃n,p.progs.length=n+1:=⟨p.progs.length-1,by omega⟩;rw [hn]at h hi ⊢;rw [qd5]at h ⊢;refine(qfe p.progs 0 _ true ?_ h).2 i (Nat.zero_le _) (by omega);rw [qdw];simp [hn]
 have h2:=hle.2 i hk;rw [List.getD_eq_getElem?_getD,List.getElem?_eq_getElem (by rw [hln];exact hi)]at h2;exact h2
def qdb:Int->Int->List POp->Option Int
 | m,_,[]=>some m
 | m,b,o :: r=>if o.un ≠ -1/\(o.card ≠ 2 ∨ (o.un ≠ m+1/\o.un ≠ b))then none else qdb (max m o.un) o.un r
theorem qda : ∀(ops:List POp) (m b k:Int), -1<=m->b<=m->(∀o ∈ ops,o.un = -1 ∨ o.card=2)->qe7 (m+1) b ops=some k->qdb m b ops=some (k-1)
 | [],m,b,k,_,_,_,h=>by
  have:m+1=k:=by injection h
  show some m=some (k-1)
  congr 1
  omega
 | o :: r,m,b,k,hm,hb,ho,h=>by
  have ho1:=ho o (List.mem_cons_self ..);have ho2 : ∀x ∈ r,x.un = -1 ∨ x.card=2:=fun x hx=>ho x (List.mem_cons_of_mem _ hx)
  unfold qe7 at h;unfold qdb;by_cases h1:o.un=m+1
  ·rw [if_pos h1]at h
   rw [if_neg (by omega),show max m o.un=m+1 by omega];exact qda r (m+1) o.un k (by omega) (by omega) ho2 h
  ·rw [if_neg h1]at h
   split at h
   ·cases h
   ·rw [if_neg (by omega),show max m o.un=m by omega]
    exact qda r m o.un k hm (by omega) ho2 h
def united (g:PProg):Bool:=match qdb (-1) (-1) g.ops with|some m=>decide (g.uns=m+1)|none=>false
theorem qio {p:PPlan} {g:PProg} (h:argG p g=true):united g=true:=by
 unfold argG qjc at h;rw [Bool.and_eq_true,List.all_eq_true]at h;obtain⟨h1,h2⟩:=h
 have ho : ∀o ∈ g.ops,o.un = -1 ∨ o.card=2:=fun o ho=>by
  have:=h2 o ho;unfold qbn at this;simp only [Bool.and_eq_true,decide_eq_true_eq]at this;exact this.2.2.2
 cases hj:qe7 0 (-1) g.ops with
 | none=>rw [hj]at h1;cases h1
 | some n=>
  rw [hj]at h1;unfold united;rw [qda g.ops (-1) (-1) n (by decide) (by decide) ho hj];simp only [decide_eq_true_eq]at h1 ⊢;omega
theorem qhz : ∀(ops:List POp) (n b k:Int),0<=n->-1<=b->b<n+1->qe7 n b ops=some k->∀o ∈ ops, -1<=o.un/\o.un<=n+ops.length
 | [],n,b,k,_,_,_,_,o,ho=>by cases ho
 | x :: r,n,b,k,h0,hb,hb2,h,o,ho=>by
  unfold qe7 at h;rw [List.length_cons];by_cases h1:x.un=n
  ·rw [if_pos h1]at h
   rcases List.mem_cons.1 ho with rfl|ho
   ·omega
   ·have:=qhz r (n+1) x.un k (by omega) (by omega) (by omega) h o ho
    omega
  ·rw [if_neg h1]at h
   split at h
   ·cases h
   ·rename_i hc
    have hxb:x.un = -1 ∨ b=x.un:=by omega
    rcases List.mem_cons.1 ho with rfl|ho
    ·omega
    ·have:=qhz r n x.un k h0 (by omega) (by omega) h o ho
     omega
theorem un_of {g:PProg} (h:qjc g=true) (hl:g.ops.length<=64) : ∀o ∈ g.ops, -1<=o.un/\o.un<1000000:=fun o ho=>by
 unfold qjc at h
 split at h
 ·rename_i n hn
  have:=qhz g.ops 0 (-1) n (by omega) (by omega) (by omega) hn o ho;omega
 ·cases h
def aimed (p:PPlan) (o:POp):Bool:=
 if o.kind=10 then decide (0<=o.tgt/\o.tgt<p.progs.length/\o.card ≠ 3)
 else if o.kind=9 then decide (0<=o.tgt/\o.tgt<p.enums.length)
 else decide (1<=o.kind/\o.kind<=9/\o.tgt = -1)
def operP (p:PPlan) (o:POp):Bool:=decide (Utf.bad o.ali<0/\o.ali.length<=4096/\1<=o.card/\o.card<=5) && (keyed o.card o.key && aimed p o)
theorem operP_of {p:PPlan} {o:POp} (h:qbn p o=true):operP p o=true:=by
 unfold qbn at h;unfold operP;simp only [Bool.and_eq_true,decide_eq_true_eq]at *;refine⟨⟨h.1.1,h.1.2.1,h.1.2.2.1,h.1.2.2.2.1⟩,h.2.1,?_⟩;have ht:=h.2.2.1;unfold qbp at ht;unfold aimed
 split at ht
 ·rename_i h1;rw [if_pos h1];exact ht
 ·rename_i h1
  rw [if_neg h1]
  split at ht
  ·rename_i h2;rw [if_pos h2];exact ht
  ·rename_i h2
   rw [if_neg h2];simp only [decide_eq_true_eq]at *;omega
end Go.Proofs.YtgpjhibdongmbaaGreatDoor.Rs
