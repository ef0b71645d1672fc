import Derived.Test.YtgpjhibdongmbaaGreatDoorRsFin
import Derived.Test.YtgpjhibdongmbaaGreatDoorIdRef1
import Derived.OrdersHeld
set_option maxRecDepth 100000
set_option maxHeartbeats 4000000
set_option linter.unusedVariables false
set_option linter.unusedSimpArgs false
namespace Go.Proofs.YtgpjhibdongmbaaGreatDoor.Rs
open Ck
theorem qkh : ∀(N:Nat) (l:List Nat),l.Nodup->(∀x ∈ l,x<N)->l.length<=N
 | 0,l,_,h=>by
  cases l with
  | nil=>exact Nat.le_refl _
  | cons a l=>exact absurd (h a (List.mem_cons_self ..)) (Nat.not_lt_zero _)
 | N+1,l,hn,h=>by
  have ih:=qkh N (l.erase N) (hn.erase N) (fun x hx=>by
   have h1:=h x (List.mem_of_mem_erase hx);have h2:x ≠ N:=((hn.mem_erase_iff).1 hx).1
   omega)
  have h3:=List.length_erase_le (a:=N) (l:=l)
  have h4:l.length-1<=(l.erase N).length:=by
   rw [List.length_erase]
   split <;> omega
  omega
def qao (w r:PPlan) (P:List (Int × Int)):Prop:=P.Nodup/\∀x ∈ P,(0<=x.1/\x.1<w.progs.length)/\0<=x.2/\x.2<r.progs.length
theorem code_lt {a b m n:Nat} (ha:a<m) (hb:b<n):a*n+b<m*n:=by
 have:(a+1)*n<=m*n:=Nat.mul_le_mul_right n ha;rw [Nat.add_mul]at this;omega
theorem code_inj {a b c d n:Nat} (hb:b<n) (hd:d<n) (h:a*n+b=c*n+d):a=c/\b=d:=by
 have h1:(a*n+b) / n=a:=by rw [Nat.mul_comm,Nat.mul_add_div (by omega),Nat.div_eq_of_lt hb,Nat.add_zero]
 have h2:(c*n+d) / n=c:=by rw [Nat.mul_comm,Nat.mul_add_div (by omega),Nat.div_eq_of_lt hd,Nat.add_zero]
 have h3:a=c:=by rw [←h1, ←h2,h]
 subst h3;exact⟨rfl,by omega⟩
theorem qbw {w r:PPlan} {P:List (Int × Int)} (h:qao w r P):P.length<=w.progs.length*r.progs.length:=by
 have h2:=qkh (w.progs.length*r.progs.length) (P.map fun x=>x.1.toNat*r.progs.length+x.2.toNat) (by
  refine List.pairwise_map.2 (List.Pairwise.imp_of_mem ?_ h.1);intro x y hx hy hne he;obtain⟨⟨_,_⟩,_,_⟩:=h.2 x hx;obtain⟨⟨_,_⟩,_,_⟩:=h.2 y hy;have:=code_inj (by omega) (by omega) he;exact hne (Prod.ext (by omega) (by omega))) (fun n hn=>by
  obtain⟨x,hx,rfl⟩:=List.mem_map.1 hn;obtain⟨⟨_,_⟩,_,_⟩:=h.2 x hx
  exact code_lt (by omega) (by omega))
 rwa [List.length_map]at h2
theorem qiu {P:List (Int × Int)} {a b:Int} {i:Nat} (h:qce P a b=some i):P[i]? = some (a,b):=by
 unfold qce at h;rw [List.findIdx?_eq_some_iff_getElem]at h;obtain⟨hi,hp,_⟩:=h;rw [List.getElem?_eq_getElem hi];have:=of_decide_eq_true hp;exact congrArg some (Prod.ext this.1 this.2)
theorem qiv {P:List (Int × Int)} {a b:Int} (h:qce P a b=none):(a,b) ∉ P:=fun hm=>by
 unfold qce at h;rw [List.findIdx?_eq_none_iff]at h;have:=h _ hm;simp at this
theorem qfp {w r:PPlan} {P:List (Int × Int)} {a b:Int} (h:qao w r P) (h1:0<=a/\a<w.progs.length) (h2:0<=b/\b<r.progs.length) :
  qao w r (qb4 P a b).2/\P <+: (qb4 P a b).2/\∃i:Nat,(qb4 P a b).1=(i:Int)/\(qb4 P a b).2[i]? = some (a,b):=by
 unfold qb4;cases hx:qce P a b with
 | some i=>exact⟨h,List.prefix_refl _,i,rfl,qiu hx⟩
 | none=>
  refine⟨⟨List.nodup_append.2 ⟨h.1,by simp,fun x hx1 y hy e=>?_⟩,fun x hx1=>?_⟩,List.prefix_append _ _,P.length,rfl,by simp⟩
  ·rw [List.mem_singleton]at hy
   subst hy;subst e;exact qiv hx hx1
  ·rcases List.mem_append.1 hx1 with hx1|hx1
   ·exact h.2 x hx1
   ·rw [List.mem_singleton]at hx1
    subst hx1;exact⟨h1,h2⟩
def Aimed (p:PPlan):Prop := ∀g ∈ p.progs, ∀o ∈ g.ops,(o.kind=10->0<=o.tgt/\o.tgt<p.progs.length)/\(o.kind=9->0<=o.tgt/\o.tgt<p.enums.length)/\1<=o.card/\o.card<=5/\1<=o.kind/\o.kind<=10
theorem qer {g:PProg} {num:Int} {q:POp} (h:opOf g num=some q):q ∈ g.ops/\q.num=num:=by
 unfold opOf at h;have h2:=List.find?_some h;exact⟨List.mem_of_find?_eq_some h,by simpa using h2⟩
theorem qf6 {w r:PPlan} {o q:POp} (h:o.kind=10) (hq:q.kind ≠ 10):elemR w r o q=4:=by
 unfold elemR;rw [if_neg (by intro h2;exact hq h2.2),if_pos (.inl h)]
theorem qc0 (a b:Int):qav a b=2 ∨ qav a b=3 ∨ qav a b=4:=by
 unfold qav
 split
 ·exact .inl rfl
 ·split
  ·exact .inr (.inr rfl)
  ·exact .inr (.inl rfl)
theorem qec (w r:PPlan) (o q:POp):elemR w r o q=2 ∨ elemR w r o q=3 ∨ elemR w r o q=4:=by
 unfold elemR
 split
 ·exact .inl rfl
 ·split
  ·exact .inr (.inr rfl)
  ·split
   ·split
    ·split
     ·exact .inl rfl
     ·exact .inr (.inl rfl)
    ·exact .inr (.inl rfl)
   ·exact qc0 _ _
theorem qgr (w r:PPlan) (o q:POp):qac w r o q=2 ∨ qac w r o q=3 ∨ qac w r o q=4:=by
 have h1:=qec w r o q;have h2:=qc0 o.key q.key;unfold qac
 split
 ·exact h1
 ·split
  ·omega
  ·split
   ·omega
   ·exact .inr (.inr rfl)
theorem qco {w r:PPlan} {o q:POp} (h:o.kind=10) (h4:qac w r o q ≠ 4):q.kind=10:=by
 refine Decidable.byContradiction fun hq=>h4 ?_
 have h2:=qc0 o.key q.key;unfold qac;rw [qf6 h hq]
 split
 ·rfl
 ·split
  ·omega
  ·split
   ·omega
   ·rfl
theorem qg6 {w r:PPlan} (hw:Aimed w) (hr:Aimed r) {g h:PProg} (hg:g ∈ w.progs) (hh:h ∈ r.progs) {o:POp} (ho:o ∈ g.ops) {P:List (Int × Int)} (hP:qao w r P) :
  qao w r (actR w r h o P).2/\P <+: (actR w r h o P).2:=by
 unfold actR;cases hx:opOf h o.num with
 | none=>exact⟨hP,List.prefix_refl _⟩
 | some q=>
  dsimp only
  split
  ·rename_i hc
   have hq:=qco hc.2 hc.1;have:=qfp hP ((hw g hg o ho).1 hc.2) ((hr h hh q (qer hx).1).1 hq);exact⟨this.1,this.2.1⟩
  ·exact⟨hP,List.prefix_refl _⟩
theorem qcr {w r:PPlan} (hw:Aimed w) (hr:Aimed r) {g h:PProg} (hg:g ∈ w.progs) (hh:h ∈ r.progs) : ∀(ops:List POp) (A:List PAct) (P:List (Int × Int)),(∀o ∈ ops,o ∈ g.ops)->qao w r P->qao w r (qb8 w r h ops A P).2/\P <+: (qb8 w r h ops A P).2
 | [],A,P,_,hP=>⟨hP,List.prefix_refl _⟩
 | o :: os,A,P,ho,hP=>by
  obtain⟨h1,h2⟩:=qg6 hw hr hg hh (ho o (List.mem_cons_self ..)) hP;obtain⟨h3,h4⟩:=qcr hw hr hg hh os (A ++ [(actR w r h o P).1]) _ (fun x hx=>ho x (List.mem_cons_of_mem _ hx)) h1;exact⟨h3,h2.trans h4⟩
theorem qct {α:Type} {l:List α} {a:Int} (h0:0<=a) (h1:a<l.length) : ∃x,l[a.toNat]? = some x/\x ∈ l:=⟨_,List.getElem?_eq_getElem (by omega),List.getElem_mem _⟩
def qge (w r:PPlan):Nat->Nat->List (Int × Int)->List (Int × Int)
 | 0,_,P=>P
 | f+1,n,P=>match P[n]? with
  | none=>P
  | some (a,b)=>match w.progs[a.toNat]?,r.progs[b.toNat]? with
   | some g,some h=>qge w r f (n+1) (qb8 w r h g.ops [] P).2
   | _,_=>P
structure One (w r:PPlan) (F:List (Int × Int)) (j:Nat) (x:PAdapt):Prop where
 mk ::
 ex : ∃(g h:PProg) (P:List (Int × Int)),F[j]? = some (x.w,x.r)/\w.progs[x.w.toNat]? = some g/\r.progs[x.r.toNat]? = some h/\x.acts=(qb8 w r h g.ops [] P).1/\x.lacks=qcf g h/\(qb8 w r h g.ops [] P).2 <+: F/\qao w r P
theorem runR_ok {w r:PPlan} (hw:Aimed w) (hr:Aimed r) : ∀(f n:Nat) (P:List (Int × Int)),qao w r P->n<=P.length->most w r<=f+n →
  qao w r (qge w r f n P)/\P <+: qge w r f n P/\n+(runR w r f n P).length=(qge w r f n P).length/\∀(j:Nat) x,(runR w r f n P)[j]? = some x->One w r (qge w r f n P) (n+j) x
 | 0,n,P,hP,hn,hf=>by
  have:=qbw hP;unfold most at hf;omega
 | f+1,n,P,hP,hn,hf=>by
  unfold runR qge;cases hx:P[n]? with
  | none=>
   have:=List.getElem?_eq_none_iff.1 hx;exact⟨hP,List.prefix_refl _,by simp;omega,fun j x h=>by simp at h⟩
  | some ab=>
   obtain⟨a,b⟩:=ab;obtain⟨h1,h2⟩:=hP.2 _ (List.mem_of_getElem? hx);obtain⟨g,hg,hgm⟩:=qct h1.1 h1.2;obtain⟨h,hh,hhm⟩:=qct h2.1 h2.2;dsimp only;dsimp only at hg hh;rw [hg,hh];obtain⟨h3,h4⟩:=qcr hw hr hgm hhm g.ops [] P (fun _ h=>h) hP;have hlen:=h4.length_le;have hnl:=(List.getElem?_eq_some_iff.1 hx).1;obtain⟨i1,i2,i3,i4⟩:=runR_ok hw hr f (n+1) _ h3 (by omega) (by omega);refine⟨i1,h4.trans i2,by simp only [List.length_cons];omega,fun j x hj=>?_⟩;cases j with
   | zero=>
    have hx2:⟨a,b,(qb8 w r h g.ops [] P).1,qcf g h⟩=x:=by simpa using hj
    subst hx2;refine⟨g,h,P,?_,hg,hh,rfl,rfl,i2,hP⟩;obtain⟨t,ht⟩:=h4.trans i2;show(qge w r f (n+1) (qb8 w r h g.ops [] P).2)[n+0]? = some (a,b)
    rw [←ht,Nat.add_zero,List.getElem?_append_left hnl,hx]
   | succ j=>
    have:=i4 j x (by simpa using hj);rwa [show n+1+j=n+(j+1)by omega]at this
theorem qgf {w r:PPlan} {a b:Int} (h1:0<=a/\a<w.progs.length) (h2:0<=b/\b<r.progs.length):qao w r [(a,b)]:=⟨by simp,fun x hx=>by rw [List.mem_singleton]at hx;subst hx;exact⟨h1,h2⟩⟩
end Go.Proofs.YtgpjhibdongmbaaGreatDoor.Rs
namespace Go.Proofs.YtgpjhibdongmbaaGreatDoor.Rs
open Ck
structure Valid (p:PPlan):Prop where
 lim:qe4 p=true
 nam:names p=true
 ord:qcc p=true
 sin:qek p=true
 ran:qen p=true
 arg:arguments p=true
 fin:finite p=true
theorem qj7 {p:PPlan} (h:check p=0):Valid p:=by
 unfold check at h
 repeat (first|(split at h;(first|(exact absurd h (by decide))|skip)))
 rename_i h1 h2 h3 h4 h5 h6 h7
 exact⟨by simpa using h1,by simpa using h2,by simpa using h3,by simpa using h4,by simpa using h5,by simpa using h6,by simpa using h7⟩
theorem oper_of {p:PPlan} (h:Valid p) {g:PProg} (hg:g ∈ p.progs) {o:POp} (ho:o ∈ g.ops):qa4 p o=true:=by
 have h6:=h.arg;unfold arguments at h6;rw [Bool.and_eq_true,List.all_eq_true,List.all_eq_true]at h6;have:=h6.2 g hg;unfold argG at this;rw [Bool.and_eq_true,List.all_eq_true]at this;exact this.2 o ho
theorem qb7 {p:PPlan} (h:Valid p):Aimed p:=fun g hg o ho=>by
 have h1:=oper_of h hg ho;unfold qa4 at h1;simp only [Bool.and_eq_true,decide_eq_true_eq]at h1;have ht:=h1.2.2.1;unfold qai at ht;refine⟨fun hk=>?_,fun hk=>?_,h1.1.2.2.1,h1.1.2.2.2.1,h1.1.2.2.2.2.1,h1.1.2.2.2.2.2⟩
 ·rw [if_pos hk]at ht
  have:=of_decide_eq_true ht;exact⟨this.1,this.2.1⟩
 ·rw [if_neg (by omega),if_pos hk]at ht
  exact of_decide_eq_true ht
theorem rise_lt {α:Type} {lt:α->α->Bool} (tr : ∀a b c,lt a b=true->lt b c=true->lt a c=true) {l:List α} (h:qe2 lt l 1=true) : ∀(j i:Nat) (x y:α),i<j->l[i]? = some x->l[j]? = some y->lt x y=true
 | 0,i,x,y,hij,_,_=>absurd hij (Nat.not_lt_zero _)
 | j+1,i,x,y,hij,hx,hy=>by
  have hj:=(List.getElem?_eq_some_iff.1 hy).1
  have h1 : ∀z,l[j]? = some z->lt z y=true:=fun z hz=>by
   unfold qe2 at h;rw [List.all_eq_true]at h;have:=h (j+1) (List.mem_range'_1.2 ⟨by omega,by omega⟩);rw [show j+1-1=j from rfl,hz,hy]at this;exact this
  by_cases e:i=j
  ·subst e
   exact h1 x hx
  ·obtain⟨z,hz⟩ : ∃z,l[j]? = some z:=⟨_,List.getElem?_eq_getElem (by omega)⟩
   exact tr x z y (rise_lt tr h j i x z (by omega) hx hz) (h1 z hz)
theorem qm9 (a b c:Str) (h1:ltS a b=true) (h2:ltS b c=true):ltS a c=true:=by
 unfold ltS at *;exact decide_eq_true (List.lt_trans (of_decide_eq_true h1) (of_decide_eq_true h2))
theorem ltS_irr (a:Str):ltS a a=false:=by
 unfold ltS;exact decide_eq_false (List.lt_irrefl a)
theorem name_inj {p:PPlan} (h:Valid p) {i j:Nat} {x y:PProg} (hx:p.progs[i]? = some x) (hy:p.progs[j]? = some y) (e:x.name=y.name):i=j:=by
 have h3:=h.ord;unfold qcc at h3;simp only [Bool.and_eq_true,List.all_eq_true]at h3;have hr:=rise_lt (lt:=fun a b:PProg=>ltS a.name b.name) (fun a b c h1 h2=>qm9 _ _ _ h1 h2) h3.1.1;refine Decidable.byContradiction fun hn=>?_
 rcases Nat.lt_or_gt_of_ne hn with hl|hl
 ·have:=hr j i x y hl hx hy
  rw [e,ltS_irr]at this;cases this
 ·have:=hr i j y x hl hy hx
  rw [e,ltS_irr]at this;cases this
theorem qbl {p:PPlan} {nm:Str} {i:Nat} (h:qbg p nm=some i) : ∃g,p.progs[i]? = some g/\g.name=nm/\i<p.progs.length:=by
 unfold qbg at h;rw [List.findIdx?_eq_some_iff_getElem]at h;obtain⟨hi,hp,_⟩:=h;exact⟨_,List.getElem?_eq_getElem hi,of_decide_eq_true hp,hi⟩
theorem qcs {p:PPlan} (h:Valid p) {i:Nat} {g:PProg} (hg:p.progs[i]? = some g):qbg p g.name=some i:=by
 cases hx:qbg p g.name with
 | none=>
  unfold qbg at hx;rw [List.findIdx?_eq_none_iff]at hx;have:=hx g (List.mem_of_getElem? hg);simp at this
 | some j=>
  obtain⟨g2,h1,h2,_⟩:=qbl hx;rw [name_inj h h1 hg h2]
end Go.Proofs.YtgpjhibdongmbaaGreatDoor.Rs
namespace Go.Proofs.YtgpjhibdongmbaaGreatDoor
section
open Go.RowKit
section
variable {P : Program} {ops : Array Oper} {md : Region.Mode}
def cutOps (ops:Array Oper) (n:Nat):Array Oper:=ops.extract 0 (n+1)
theorem cut_none {n i:Nat} (hi:n<i):(cutOps ops n)[i]? = none:=by
 unfold cutOps;rw [Array.getElem?_extract,if_neg (by omega)]
def qf4 (k size:Nat):Array Bool:=Array.ofFn (n:=size) fun i=>decide (i.1<k)
theorem qkv (k size i:Nat) (d:Bool) (h:i<size):(qf4 k size).getD i d=decide (i<k):=by
 unfold qf4;simp [h]
end
end
section
open Go.RowKit
def qbv (Q:Exit->Act->World->Prop) (T:Act->World->Prop):Exit->Act->World->Prop
 | .normal,a,w=>T a w
 | .outgrown,a,w=>Q .outgrown a w
 | _,_,_=>False
def qd0 (l:List Oper):List (Nat × Bool)->List (Nat × Bool × Oper)
 | [] => []
 | (i,b) :: r=>match l[i]? with
  | some o=>(i,b,o) :: qd0 l r
  | none=>qd0 l r
def wpOrd (P:Program) (ops:Array Oper) (S:World->Prop) (Q:Exit->Act->World->Prop) (K:Act->World->Prop):List (Nat × Bool × Oper)->Act->World->Prop
 | [],a,w=>K a w
 | (_,true,o) :: r,a,w => ∃v,YieldsIf P ops S o v a/\wpOrd P ops S Q K r (a.put o.dst v) w
 | (_,false,o) :: r,a,w=>if Region.wanted o (yielded ops a.tmps)=true then Oper.wp P o a w (fun a' w'=>S w'/\wpOrd P ops S Q K r a' w') Q else S w/\wpOrd P ops S Q K r (a.put o.dst undef) w
section
variable {P : Program} {ops : Array Oper} {md : Region.Mode} {S : World → Prop} {Q : Exit → Act → World → Prop} {K : Act → World → Prop} {a : Act} {w : World} {i : Nat} {o : Oper} {r : List (Nat × Bool × Oper)}
theorem qbd {v:Value} (hw:Region.wanted o (yielded ops a.tmps)=true) (hy : ∀W,S W->(execOp a.eval o).run P W=.ok (.value v) W) (h:wpOrd P ops S Q K r (a.put o.dst v) w):wpOrd P ops S Q K ((i,true,o) :: r) a w:=⟨v,.inl ⟨hw,hy⟩,h⟩
theorem qeq (h : ∀K':Act->World->Prop,(∀a w,S w->wpOrd P ops S Q K r a w->K' a w)->if Region.wanted o (yielded ops a.tmps)=true then Oper.wp P o a w K' Q else K' (a.put o.dst undef) w):wpOrd P ops S Q K ((i,false,o) :: r) a w:=by
 have h1:=h (fun a' w'=>S w'/\wpOrd P ops S Q K r a' w') (fun _ _ h1 h2=>⟨h1,h2⟩);show(if _ then _ else _)
 exact h1
theorem ord_nil (h:K a w):wpOrd P ops S Q K [] a w:=h
def cutM (ops:Array Oper) (m:Nat):Array Oper:=ops.extract 0 m
theorem qca {m i:Nat} (hi:i<m):(cutM ops m)[i]? = ops[i]?:=by
 unfold cutM;rw [Array.getElem?_extract];by_cases h:i<ops.size
 ·rw [if_pos (by omega),Nat.zero_add]
 ·rw [if_neg (by omega),Array.getElem?_eq_none (by omega)]
theorem qmm {m i:Nat} (hi:m<=i):(cutM ops m)[i]? = none:=by
 unfold cutM;rw [Array.getElem?_extract,if_neg (by omega)]
def qe5 (md:Region.Mode) (ops:Array Oper) (m:Nat):Bool:=
 (List.range m).all fun i=>match ops[i]? with
  | some o=>(match o.guard with|some (j,_)=>decide (j<m)|none=>true) && o.after.all fun e => !Region.binds md e || decide (e.on<i)
  | none=>true
theorem qbs {m i:Nat} {o:Oper} (hg:qe5 md ops m=true) (hi:i<m) (ho:ops[i]? = some o) (tmps:Array Value):Region.wanted o (yielded (cutM ops m) tmps)=Region.wanted o (yielded ops tmps):=by
 have h:=List.all_eq_true.1 hg i (List.mem_range.2 hi);rw [ho]at h;simp only [Bool.and_eq_true]at h;have h:=h.1;unfold Region.wanted;cases hgd:o.guard with
 | none=>rfl
 | some p=>
  obtain⟨j,b⟩:=p;rw [hgd]at h;simp only [decide_eq_true_eq]at h;have:yielded (cutM ops m) tmps j=yielded ops tmps j:=by unfold yielded;rw [qca h]
  simp only [this]
theorem qdr {m i:Nat} {o:Oper} (hg:qe5 md ops m=true) (hi:i<m) (ho:ops[i]? = some o) (e:Edge) (he:e ∈ o.after) (hb:Region.binds md e=true):e.on<i:=by
 have h:=List.all_eq_true.1 hg i (List.mem_range.2 hi);rw [ho]at h;simp only [Bool.and_eq_true]at h;have:=Array.all_eq_true'.1 h.2 e he
 simpa [hb]using this
def TwinM (m:Nat) (l l':Array Bool) (ops:Array Oper):Prop:=
 l.size=ops.size/\l'.size=m/\∀i,i<m->l.getD i true=l'.getD i true/\l.getD i false=l'.getD i false
theorem qe8 {m:Nat} {l l':Array Bool} (hg:qe5 md ops m=true) (tw:TwinM m l l' ops) (i:Nat) (hi:i<m):i ∈ Region.ready md ops l ↔ i ∈ Region.ready md (cutM ops m) l':=by
 obtain⟨h1,h2,h3⟩:=tw;rw [mem_ready,mem_ready,qca hi,(h3 i hi).1];constructor
 ·rintro ⟨g1,o,g2,g3⟩
  exact⟨g1,o,g2,fun e he hb=>by rw [←(h3 e.on (Nat.lt_trans (qdr hg hi g2 e he hb) hi)).2];exact g3 e he hb⟩
 ·rintro ⟨g1,o,g2,g3⟩
  exact⟨g1,o,g2,fun e he hb=>by rw [(h3 e.on (Nat.lt_trans (qdr hg hi g2 e he hb) hi)).2];exact g3 e he hb⟩
theorem qlk {m i:Nat} {l l':Array Bool} (hm:m<ops.size) (tw:TwinM m l l' ops) (hi:i<m):TwinM m (l.setIfInBounds i true) (l'.setIfInBounds i true) ops:=by
 obtain⟨h1,h2,h3⟩:=tw;refine⟨by simpa using h1,by simpa using h2,fun j hj=>?_⟩;by_cases e:i=j
 ·subst e
  have hs:i<l.size:=by omega
  have hs':i<l'.size:=by omega
  simp [hs,hs']
 ·rw [getD_set_ne true e,getD_set_ne true e,getD_set_ne false e,getD_set_ne false e]
  exact h3 j hj
theorem qfz {m i:Nat} {l':Array Bool} (h:i ∈ Region.ready md (cutM ops m) l'):i<m:=by
 obtain⟨_,o,ho,_⟩:=mem_ready.1 h;rcases Nat.lt_or_ge i m with h'|h'
 ·exact h'
 ·rw [qmm h']at ho;cases ho
theorem all_done {m:Nat} {l':Array Bool} (hg:qe5 md ops m=true) (hm:m<ops.size) (hs:l'.size=m) (hr:Region.ready md (cutM ops m) l'=[]) : ∀i,i<m->l'.getD i true=true:=by
 intro i
 induction i using Nat.strongRecOn with
 | _ i ih=>
  intro hi;cases hun:l'.getD i true with
  | true=>rfl
  | false=>
   exfalso;have hio:i<ops.size:=by omega
   have hoi:ops[i]? = some ops[i]:=Array.getElem?_eq_getElem hio
   have:i ∈ Region.ready md (cutM ops m) l':=mem_ready.2 ⟨hun,ops[i],by rw [qca hi];exact hoi,fun e he hb=>by
    have hlt:=qdr hg hi hoi e he hb;have h:=ih e.on hlt (by omega);have hsz:e.on<l'.size:=by omega
    simp [hsz]at h ⊢;exact h⟩
   rw [hr]at this;cases this
theorem qcy {Q':Exit->Act->World->Prop} : ∀(l:List Oper) (x k:Nat) (listed:Array Bool) (a:Act) (w:World),(∀j,l[j]? = ops[k+j]?) →
  Region.seqB md ops l.length k listed=true->wpList P ops Q' l a w->wpAny P md ops Q' (x+l.length) listed a w
 | [],x,_,_,_,_,_,hB,h=>wpAny_done (by simpa [Region.seqB]using hB) h _
 | o :: l,x,k,listed,a,w,hl,hB,h=>by
  have h0:ops[k]? = some o:=by simpa using (hl 0).symm
  simp only [List.length_cons,Region.seqB,Bool.and_eq_true,decide_eq_true_eq]at hB;refine⟨fun h1=>(by rw [hB.1]at h1;cases h1),fun i hi=>?_⟩;rw [hB.1]at hi;have hik:i=k:=by simpa using hi
  subst hik;have hw:wpOp P ops Q' i (wpList P ops Q' l) a w:=by unfold wpOp;simp only [h0];exact h
  exact wpOp_mono (fun a' w' h'=>qcy l x (i+1) _ a' w' (fun j=>by have:=hl (j+1);simpa [Nat.add_assoc,Nat.add_comm 1 j]using this) hB.2 h') hw
theorem qhk {T:Act->World->Prop} (h:LetsOut (qbv Q T)):LetsOut Q:=by
 obtain⟨a,w,h⟩:=h;exact⟨a,w,h⟩
theorem wp_tail {T:Act->World->Prop} {K K':Act->World->Prop} (h : ∀a w,K a w->K' a w) (hh:o.wp P a w K (qbv Q T)):o.wp P a w K' Q:=by
 unfold Oper.wp at *;generalize (execOp a.eval o).run P w=rr at *;cases rr with
 | ok n w'=>
  cases n <;> simp only [Oper.upon]at hh ⊢ <;>
   first
    | exact h _ _ hh
    | exact Calls.mono hh (fun e w'' he=>by cases e <;> first|exact h _ _ he|exact(he:False).elim|exact qhk he)
    | exact Rows.mono hh (fun _ _ he=>h _ _ he)
 | halt x w'=>cases x <;> simp only [Oper.upon]at hh ⊢ <;> exact(hh:False).elim
theorem qml {m:Nat} {T:Act->World->Prop} {K K':Act->World->Prop} (hg:qe5 md ops m=true) (hi:i<m) (h : ∀a w,K a w->K' a w) (hh:wpOp P (cutM ops m) (qbv Q T) i K a w):wpOp P ops Q i K' a w:=by
 unfold wpOp at *;rw [qca hi]at hh;cases ho:ops[i]? with
 | none=>rw [ho]at hh;exact h _ _ hh
 | some o=>
  rw [ho]at hh;simp only [qbs hg hi ho]at hh;cases hwd:Region.wanted o (yielded ops a.tmps)with
  | false=>rw [hwd]at hh;simp only [Bool.false_eq_true,if_false]at hh ⊢;simpa [hwd]using h _ _ hh
  | true=>
   rw [hwd]at hh;simp only [if_true]at hh;simp only [hwd,if_true];exact hh.imp (wp_tail h) (fun h=>⟨h.1,qhk h.2⟩)
theorem ql2 {m:Nat} (l:List Oper) (hl : ∀j:Nat,l[j]? = ops[m+j]?) (hg:qe5 md ops m=true) (hm:m<ops.size) (hs:Region.sinkB md ops m=true) (hc:Region.chainB md ops m=true) (hseq:Region.seqB md ops l.length m (qf4 m ops.size)=true) :
  ∀(fuel:Nat) (listed listed':Array Bool) (a:Act) (w:World),TwinM m listed listed' ops->HeadInv md ops m listed →
   wpAny P md (cutM ops m) (qbv Q (wpList P ops Q l)) fuel listed' a w->wpAny P md ops Q (fuel+l.length) listed a w:=by
 have fin : ∀(fuel:Nat) (listed listed':Array Bool) (a:Act) (w:World),TwinM m listed listed' ops->HeadInv md ops m listed->Region.ready md (cutM ops m) listed'=[]->wpList P ops Q l a w->wpAny P md ops Q (fuel+l.length) listed a w:=by
  intro fuel listed listed' a w tw inv hr h;have had:=all_done hg hm tw.2.1 hr
  have hl1:listed=qf4 m ops.size:=by
   refine Array.ext (by rw [tw.1];unfold qf4;simp) fun i hi hi2=>?_
   have hio:i<ops.size:=by rw [←tw.1];exact hi
   have e1:listed.getD i true=listed[i]:=by simp [hi]
   have e2:(qf4 m ops.size).getD i true=(qf4 m ops.size)[i]:=by simp [hi2]
   rw [←e1, ←e2,qkv _ _ _ _ hio];by_cases h:i<m
   ·rw [(tw.2.2 i h).1,had i h,decide_eq_true h]
   ·rw [inv.tail i (by omega) hio,decide_eq_false h]
  subst hl1;exact qcy l fuel m _ a w hl hseq h
 intro fuel
 induction fuel with
 | zero=>intro listed listed' a w tw inv h;exact fin 0 listed listed' a w tw inv h.1 h.2
 | succ f ih=>
  intro listed listed' a w tw inv h;cases hr:Region.ready md (cutM ops m) listed' with
  | nil=>exact fin (f+1) listed listed' a w tw inv hr (h.1 hr)
  | cons i0 rs=>
   have h0:i0 ∈ Region.ready md (cutM ops m) listed':=by rw [hr];exact List.mem_cons_self
   have hi0:i0<m:=qfz h0;have hun0:listed.getD i0 true=false:=by rw [(tw.2.2 i0 hi0).1];exact(mem_ready.1 h0).1
   rw [show f+1+l.length=(f+l.length)+1 by omega];refine⟨fun he=>?_,fun j hj=>?_⟩
   ·have:=(qe8 hg tw i0 hi0).2 h0
    rw [he]at this;cases this
   ·have hjm:j<m:=by
     rcases Nat.lt_or_ge j m with h'|h'
     ·exact h'
     ·exact absurd hj (tail_waits hs hc hm inv _ i0 rfl hi0 hun0 j h')
    have hj':=(qe8 hg tw j hjm).1 hj;exact qml hg hjm (fun a' w' h'=>ih _ _ a' w' (qlk hm tw hjm) (inv.set hj hjm) h') (h.2 j hj')
def ordB (md:Region.Mode) (ops:Array Oper):List (Nat × Bool)->Array Bool->Bool
 | [],listed=>(Region.ready md ops listed).isEmpty
 | (i,true) :: r,listed=>(Region.ready md ops listed).contains i && Region.free md ops listed i && ordB md ops r (listed.setIfInBounds i true)
 | (i,false) :: r,listed=>decide (Region.ready md ops listed=[i]) && ordB md ops r (listed.setIfInBounds i true)
theorem qd7 {listed:Array Bool} {j:Nat} (h:j ∈ Region.ready md ops listed) : ∃o,ops[j]? = some o:=by
 obtain⟨_,o,ho,_⟩:=mem_ready.1 h;exact⟨o,ho⟩
theorem qd9 {m:Nat} {l:List Oper} {Qt:Exit->Act->World->Prop} (hl : ∀j:Nat,l[j]? = ops[j]?) (hsel:Region.noSelect (cutM ops m)=true) (hg:qe5 md ops m=true) (hQ : ∀c a w, ¬ Qt (.panic c) a w) (hK : ∀a w,K a w->Qt .normal a w) :
  ∀(ord:List (Nat × Bool)) (listed:Array Bool) (a:Act) (w:World),ordB md (cutM ops m) ord listed=true->S w->wpOrd P ops S Qt K (qd0 l ord) a w->wpAnyH P md (cutM ops m) Qt S ord.length listed a w
 | [],listed,a,w,hB,hS,h=>wpAnyH_done (by simpa [ordB]using hB) (hK _ _ h) _
 | (i,true) :: r,listed,a,w,hB,hS,h=>by
  simp only [ordB,Bool.and_eq_true]at hB;obtain⟨⟨h1,h2⟩,h3⟩:=hB;have hmem:i ∈ Region.ready md (cutM ops m) listed:=by simpa using h1
  have him:=qfz hmem;obtain⟨o,ho⟩:=qd7 hmem;have hoo:ops[i]? = some o:=by rw [←qca him];exact ho
  have hll:l[i]? = some o:=(hl i).trans hoo;simp only [qd0,hll,wpOrd]at h;obtain⟨v,hy,h⟩:=h
  have hy':YieldsIf P (cutM ops m) S o v a:=by
   unfold YieldsIf at *;rw [qbs hg him hoo];exact hy
  exact wpAnyH_take ho hsel h2 h1 (fun c a w hh=>absurd hh (hQ _ _ _)) hy' hS (qd9 hl hsel hg hQ hK r _ _ w h3 hS h)
 | (i,false) :: r,listed,a,w,hB,hS,h=>by
  simp only [ordB,Bool.and_eq_true,decide_eq_true_eq]at hB;obtain⟨h1,h3⟩:=hB;have hmem:i ∈ Region.ready md (cutM ops m) listed:=by rw [h1];exact List.mem_singleton.2 rfl
  have him:=qfz hmem;obtain⟨o,ho⟩:=qd7 hmem;have hoo:ops[i]? = some o:=by rw [←qca him];exact ho
  have hll:l[i]? = some o:=(hl i).trans hoo;simp only [qd0,hll,wpOrd]at h;refine wpAnyH_all h1 (by simp) fun j hj=>?_
  have hji:j=i:=by simpa using hj
  subst hji;unfold wpOp;simp only [ho,qbs hg him hoo];cases hwd:Region.wanted o (yielded ops a.tmps)with
  | false=>
   rw [hwd]at h;simp only [Bool.false_eq_true,if_false]at h ⊢;exact⟨h.1,qd9 hl hsel hg hQ hK r _ _ w h3 h.1 h.2⟩
  | true=>
   rw [hwd]at h;simp only [if_true]at h ⊢;exact .inl (Oper.wp_mono (fun a' w' hh=>⟨hh.1,qd9 hl hsel hg hQ hK r _ _ w' h3 hh.1 hh.2⟩) h)
def regB (md:Region.Mode) (ops:Array Oper) (ord:List (Nat × Bool)) (m:Nat):Bool:=
 Region.noSelect (cutM ops m) && qe5 md ops m && decide (m<ops.size) && Region.sinkB md ops m && Region.chainB md ops m && Region.seqB md ops (ops.size-m) m (qf4 m ops.size) && ordB md (cutM ops m) ord (Array.replicate m false) && decide (ord.length=m)
theorem qfj {id:Nat} {w wd:World} {l:List Oper} (S:World->Prop) (ord:List (Nat × Bool)) (m:Nat) (hm:P.follows .mixedOrders=true) (hB:regB .any l.toArray ord m=true) (hwd:wd=w.drew) (hS:S wd)
  (h:wpOrd P l.toArray S (qbv Q (wpList P l.toArray Q (l.drop m))) (fun a' w'=>wpList P l.toArray Q (l.drop m) a' w') (qd0 l ord) a wd):(Code.region id l.toArray true).wp P Q a w:=by
 subst hwd;simp only [regB,Bool.and_eq_true,decide_eq_true_eq]at hB;obtain⟨⟨⟨⟨⟨⟨⟨hsel,hg⟩,hml⟩,hs⟩,hc⟩,hseq⟩,hord⟩,hlen⟩:=hB;have hml':m<l.length:=by simpa using hml
 have H:=wpAny_of_held _ _ _ _ (qd9 (md:=.any) (P:=P) (K:=fun a' w'=>wpList P l.toArray Q (l.drop m) a' w') (l:=l) (ops:=l.toArray) (m:=m) (Qt:=qbv Q (wpList P l.toArray Q (l.drop m))) (fun j=>by simp) hsel hg (fun c a w hh=>hh) (fun a w hh=>hh) ord _ a w.drew hord hS h)
 have tw0:TwinM m (Array.replicate l.toArray.size false) (Array.replicate m false) l.toArray:=by
  refine⟨by simp,by simp,fun i hi=>?_⟩;have q1:(Array.replicate l.toArray.size false).getD i true=false:=getD_in (by simp;omega) (getD_replicate_false _ _);have q2:(Array.replicate m false).getD i true=false:=getD_in (by simpa using hi) (getD_replicate_false _ _);rw [getD_replicate_false,getD_replicate_false];exact⟨by rw [q1,q2],rfl⟩
 have inv0:HeadInv .any l.toArray m (Array.replicate l.toArray.size false):=
  ⟨by simp,fun j oj _ hl=>(by rw [getD_replicate_false]at hl;cases hl),fun t _ ht=>getD_in (by simpa using ht) (getD_replicate_false _ _)⟩
 have hdl:(l.drop m).length=l.toArray.size-m:=by simp
 have H2:=ql2 (md:=.any) (l.drop m) (fun j=>by simp [List.getElem?_drop]) hg hml hs hc (by rw [hdl];exact hseq) _ _ _ a w.drew tw0 inv0 H;refine wp_region_any hm ?_;have hsum:ord.length+(l.drop m).length=l.toArray.size:=by rw [hlen];simp;omega
 rw [hsum]at H2;exact H2
end
end
end Go.Proofs.YtgpjhibdongmbaaGreatDoor
