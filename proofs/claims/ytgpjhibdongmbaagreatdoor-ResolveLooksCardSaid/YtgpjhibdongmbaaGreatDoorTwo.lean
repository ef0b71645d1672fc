import Derived.Test.YtgpjhibdongmbaaGreatDoorRsFin
import Derived.Test.YtgpjhibdongmbaaGreatDoorRkA
set_option maxRecDepth 100000
set_option maxHeartbeats 4000000
set_option linter.unusedVariables false
set_option linter.unusedSimpArgs false
namespace Go.Proofs.YtgpjhibdongmbaaGreatDoor.Rs
open Ck
theorem qhu : ∀(N:Nat) (l:List Nat),l.Nodup->(∀x ∈ l,x<N)->l.length<=N
 | 0,l,_,h=>by
  cases l with
  | nil=>exact Nat.le_refl _
  | cons a l=>exact absurd (h a (List.mem_cons_self ..)) (Nat.not_lt_zero _)
 | N+1,l,hn,h=>by
  have ih:=qhu N (l.erase N) (hn.erase N) (fun x hx=>by
   have h1:=h x (List.mem_of_mem_erase hx);have h2:x ≠ N:=((hn.mem_erase_iff).1 hx).1
   omega)
  have h3:=List.length_erase_le (a:=N) (l:=l)
  have h4:l.length-1<=(l.erase N).length:=by
   rw [List.length_erase]
   split <;> omega
  omega
def qao (w r:PPlan) (P:List (Int × Int)):Prop:=P.Nodup/\∀x ∈ P,(0<=x.1/\x.1<w.progs.length)/\0<=x.2/\x.2<r.progs.length
theorem code_lt {a b m n:Nat} (ha:a<m) (hb:b<n):a*n+b<m*n:=by
 have:(a+1)*n<=m*n:=Nat.mul_le_mul_right n ha;rw [Nat.add_mul]at this;omega
theorem code_inj {a b c d n:Nat} (hb:b<n) (hd:d<n) (h:a*n+b=c*n+d):a=c/\b=d:=by
 have h1:(a*n+b) / n=a:=by rw [Nat.mul_comm,Nat.mul_add_div (by omega),Nat.div_eq_of_lt hb,Nat.add_zero]
 have h2:(c*n+d) / n=c:=by rw [Nat.mul_comm,Nat.mul_add_div (by omega),Nat.div_eq_of_lt hd,Nat.add_zero]
 have h3:a=c:=by rw [←h1, ←h2,h]
 subst h3;exact⟨rfl,by omega⟩
theorem qc9 {w r:PPlan} {P:List (Int × Int)} (h:qao w r P):P.length<=w.progs.length*r.progs.length:=by
 have h2:=qhu (w.progs.length*r.progs.length) (P.map fun x=>x.1.toNat*r.progs.length+x.2.toNat) (by
  refine List.pairwise_map.2 (List.Pairwise.imp_of_mem ?_ h.1);intro x y hx hy hne he;obtain⟨⟨_,_⟩,_,_⟩:=h.2 x hx;obtain⟨⟨_,_⟩,_,_⟩:=h.2 y hy;have:=code_inj (by omega) (by omega) he;exact hne (Prod.ext (by omega) (by omega))) (fun n hn=>by
  obtain⟨x,hx,rfl⟩:=List.mem_map.1 hn;obtain⟨⟨_,_⟩,_,_⟩:=h.2 x hx
  exact code_lt (by omega) (by omega))
 rwa [List.length_map]at h2
theorem qgm {P:List (Int × Int)} {a b:Int} {i:Nat} (h:qc5 P a b=some i):P[i]? = some (a,b):=by
 unfold qc5 at h;rw [List.findIdx?_eq_some_iff_getElem]at h;obtain⟨hi,hp,_⟩:=h;rw [List.getElem?_eq_getElem hi];have:=of_decide_eq_true hp;exact congrArg some (Prod.ext this.1 this.2)
theorem qgn {P:List (Int × Int)} {a b:Int} (h:qc5 P a b=none):(a,b) ∉ P:=fun hm=>by
 unfold qc5 at h;rw [List.findIdx?_eq_none_iff]at h;have:=h _ hm;simp at this
theorem qe0 {w r:PPlan} {P:List (Int × Int)} {a b:Int} (h:qao w r P) (h1:0<=a/\a<w.progs.length) (h2:0<=b/\b<r.progs.length) :
  qao w r (qal P a b).2/\P <+: (qal P a b).2/\∃i:Nat,(qal P a b).1=(i:Int)/\(qal P a b).2[i]? = some (a,b):=by
 unfold qal;cases hx:qc5 P a b with
 | some i=>exact⟨h,List.prefix_refl _,i,rfl,qgm hx⟩
 | none=>
  refine⟨⟨List.nodup_append.2 ⟨h.1,by simp,fun x hx1 y hy e=>?_⟩,fun x hx1=>?_⟩,List.prefix_append _ _,P.length,rfl,by simp⟩
  ·rw [List.mem_singleton]at hy
   subst hy;subst e;exact qgn hx hx1
  ·rcases List.mem_append.1 hx1 with hx1|hx1
   ·exact h.2 x hx1
   ·rw [List.mem_singleton]at hx1
    subst hx1;exact⟨h1,h2⟩
def Aimed (p:PPlan):Prop := ∀g ∈ p.progs, ∀o ∈ g.ops,(o.kind=10->0<=o.tgt/\o.tgt<p.progs.length)/\(o.kind=9->0<=o.tgt/\o.tgt<p.enums.length)/\1<=o.card/\o.card<=5/\1<=o.kind/\o.kind<=10
theorem qeq {g:PProg} {num:Int} {q:POp} (h:opOf g num=some q):q ∈ g.ops/\q.num=num:=by
 unfold opOf at h;have h2:=List.find?_some h;exact⟨List.mem_of_find?_eq_some h,by simpa using h2⟩
theorem qg5 {w r:PPlan} {o q:POp} (h:o.kind=10) (hq:q.kind ≠ 10):elemR w r o q=4:=by
 unfold elemR;rw [if_neg (by intro h2;exact hq h2.2),if_pos (.inl h)]
theorem qbd (a b:Int):qb5 a b=2 ∨ qb5 a b=3 ∨ qb5 a b=4:=by
 unfold qb5
 split
 ·exact .inl rfl
 ·split
  ·exact .inr (.inr rfl)
  ·exact .inr (.inl rfl)
theorem qd7 (w r:PPlan) (o q:POp):elemR w r o q=2 ∨ elemR w r o q=3 ∨ elemR w r o q=4:=by
 unfold elemR
 split
 ·exact .inl rfl
 ·split
  ·exact .inr (.inr rfl)
  ·split
   ·split
    ·split
     ·exact .inl rfl
     ·exact .inr (.inl rfl)
    ·exact .inr (.inl rfl)
   ·exact qbd _ _
theorem qex (w r:PPlan) (o q:POp):qay w r o q=2 ∨ qay w r o q=3 ∨ qay w r o q=4:=by
 have h1:=qd7 w r o q;have h2:=qbd o.key q.key;unfold qay
 split
 ·exact h1
 ·split
  ·omega
  ·split
   ·omega
   ·exact .inr (.inr rfl)
theorem qbw {w r:PPlan} {o q:POp} (h:o.kind=10) (h4:qay w r o q ≠ 4):q.kind=10:=by
 refine Decidable.byContradiction fun hq=>h4 ?_
 have h2:=qbd o.key q.key;unfold qay;rw [qg5 h hq]
 split
 ·rfl
 ·split
  ·omega
  ·split
   ·omega
   ·rfl
theorem qgc {w r:PPlan} (hw:Aimed w) (hr:Aimed r) {g h:PProg} (hg:g ∈ w.progs) (hh:h ∈ r.progs) {o:POp} (ho:o ∈ g.ops) {P:List (Int × Int)} (hP:qao w r P) :
  qao w r (actR w r h o P).2/\P <+: (actR w r h o P).2:=by
 unfold actR;cases hx:opOf h o.num with
 | none=>exact⟨hP,List.prefix_refl _⟩
 | some q=>
  dsimp only
  split
  ·rename_i hc
   have hq:=qbw hc.2 hc.1;have:=qe0 hP ((hw g hg o ho).1 hc.2) ((hr h hh q (qeq hx).1).1 hq);exact⟨this.1,this.2.1⟩
  ·exact⟨hP,List.prefix_refl _⟩
theorem qdq {w r:PPlan} (hw:Aimed w) (hr:Aimed r) {g h:PProg} (hg:g ∈ w.progs) (hh:h ∈ r.progs) : ∀(ops:List POp) (A:List PAct) (P:List (Int × Int)),(∀o ∈ ops,o ∈ g.ops)->qao w r P->qao w r (qaz w r h ops A P).2/\P <+: (qaz w r h ops A P).2
 | [],A,P,_,hP=>⟨hP,List.prefix_refl _⟩
 | o :: os,A,P,ho,hP=>by
  obtain⟨h1,h2⟩:=qgc hw hr hg hh (ho o (List.mem_cons_self ..)) hP;obtain⟨h3,h4⟩:=qdq hw hr hg hh os (A ++ [(actR w r h o P).1]) _ (fun x hx=>ho x (List.mem_cons_of_mem _ hx)) h1;exact⟨h3,h2.trans h4⟩
theorem qgr {α:Type} {l:List α} {a:Int} (h0:0<=a) (h1:a<l.length) : ∃x,l[a.toNat]? = some x/\x ∈ l:=⟨_,List.getElem?_eq_getElem (by omega),List.getElem_mem _⟩
structure One (w r:PPlan) (F:List (Int × Int)) (j:Nat) (x:PAdapt):Prop where
 mk ::
 ex : ∃(g h:PProg) (P:List (Int × Int)),F[j]? = some (x.w,x.r)/\w.progs[x.w.toNat]? = some g/\r.progs[x.r.toNat]? = some h/\x.acts=(qaz w r h g.ops [] P).1/\x.lacks=qcy g h/\(qaz w r h g.ops [] P).2 <+: F/\qao w r P
theorem pair_one {w r:PPlan} {a b:Int} (h1:0<=a/\a<w.progs.length) (h2:0<=b/\b<r.progs.length):qao w r [(a,b)]:=⟨by simp,fun x hx=>by rw [List.mem_singleton]at hx;subst hx;exact⟨h1,h2⟩⟩
end Go.Proofs.YtgpjhibdongmbaaGreatDoor.Rs
namespace Go.Proofs.YtgpjhibdongmbaaGreatDoor.Rs
open Ck
structure Valid (p:PPlan):Prop where
 lim:qhy p=true
 nam:names p=true
 ord:qfi p=true
 sin:qiu p=true
 ran:qix p=true
 arg:arguments p=true
 fin:finite p=true
theorem qgy {p:PPlan} (h:check p=0):Valid p:=by
 unfold check at h
 repeat (first|(split at h;(first|(exact absurd h (by decide))|skip)))
 rename_i h1 h2 h3 h4 h5 h6 h7
 exact⟨by simpa using h1,by simpa using h2,by simpa using h3,by simpa using h4,by simpa using h5,by simpa using h6,by simpa using h7⟩
theorem oper_of {p:PPlan} (h:Valid p) {g:PProg} (hg:g ∈ p.progs) {o:POp} (ho:o ∈ g.ops):qbn p o=true:=by
 have h6:=h.arg;unfold arguments at h6;rw [Bool.and_eq_true,List.all_eq_true,List.all_eq_true]at h6;have:=h6.2 g hg;unfold argG at this;rw [Bool.and_eq_true,List.all_eq_true]at this;exact this.2 o ho
theorem qcs {p:PPlan} (h:Valid p):Aimed p:=fun g hg o ho=>by
 have h1:=oper_of h hg ho;unfold qbn at h1;simp only [Bool.and_eq_true,decide_eq_true_eq]at h1;have ht:=h1.2.2.1;unfold qbp at ht;refine⟨fun hk=>?_,fun hk=>?_,h1.1.2.2.1,h1.1.2.2.2.1,h1.1.2.2.2.2.1,h1.1.2.2.2.2.2⟩
 ·rw [if_pos hk]at ht
  have:=of_decide_eq_true ht;exact⟨this.1,this.2.1⟩
 ·rw [if_neg (by omega),if_pos hk]at ht
  exact of_decide_eq_true ht
theorem qd6 {p:PPlan} {nm:Str} {i:Nat} (h:qcx p nm=some i) : ∃g,p.progs[i]? = some g/\g.name=nm/\i<p.progs.length:=by
 unfold qcx at h;rw [List.findIdx?_eq_some_iff_getElem]at h;obtain⟨hi,hp,_⟩:=h;exact⟨_,List.getElem?_eq_getElem hi,of_decide_eq_true hp,hi⟩
end Go.Proofs.YtgpjhibdongmbaaGreatDoor.Rs
namespace Go.Proofs.YtgpjhibdongmbaaGreatDoor
open Go.RowKit
section
variable {P : Program} {ops : Array Oper} {md : Region.Mode}
def cutOps (ops:Array Oper) (n:Nat):Array Oper:=ops.extract 0 (n+1)
theorem cut_none {n i:Nat} (hi:n<i):(cutOps ops n)[i]? = none:=by
 unfold cutOps;rw [Array.getElem?_extract,if_neg (by omega)]
def qdl (k size:Nat):Array Bool:=Array.ofFn (n:=size) fun i=>decide (i.1<k)
theorem qi4 (k size i:Nat) (d:Bool) (h:i<size):(qdl k size).getD i d=decide (i<k):=by
 unfold qdl;simp [h]
end
end Go.Proofs.YtgpjhibdongmbaaGreatDoor
