import Derived.Test.YtgpjhibdongmbaaGreatDoorTwo
set_option maxRecDepth 100000
set_option maxHeartbeats 4000000
set_option linter.unusedVariables false
set_option linter.unusedSimpArgs false
namespace Go.Proofs.YtgpjhibdongmbaaGreatDoor.Rs
open Ck
structure ActOK (w r:PPlan) (F:List (Int × Int)) (h:PProg) (o:POp) (a:PAct):Prop where
 num:a.num=o.num
 no:opOf h o.num=none->a.kind=1/\a.sub = -1
 yes : ∀q,opOf h o.num=some q->a.kind=qay w r o q/\((a.sub = -1/\(a.kind=4 ∨ o.kind ≠ 10)) ∨ (a.kind ≠ 4/\o.kind=10/\q.kind=10/\∃s:Nat,a.sub=(s:Int)/\F[s]? = some (o.tgt,q.tgt)))
theorem qbu {α:Type} {P F:List α} (h:P <+: F) {i:Nat} {x:α} (hx:P[i]? = some x):F[i]? = some x:=by
 obtain⟨t,rfl⟩:=h;rw [List.getElem?_append_left (List.getElem?_eq_some_iff.1 hx).1,hx]
theorem actR_at {w r:PPlan} (hw:Aimed w) (hr:Aimed r) {g h:PProg} (hg:g ∈ w.progs) (hh:h ∈ r.progs) {o:POp} (ho:o ∈ g.ops) {P F:List (Int × Int)} (hP:qao w r P) (hF:(actR w r h o P).2 <+: F):ActOK w r F h o (actR w r h o P).1:=by
 unfold actR at *;cases hx:opOf h o.num with
 | none=>exact⟨rfl,fun _=>⟨rfl,rfl⟩,fun q hq=>by rw [hx]at hq;cases hq⟩
 | some q=>
  rw [hx]at hF;dsimp only at hF ⊢;by_cases hc:qay w r o q ≠ 4/\o.kind=10
  ·rw [if_pos hc]at hF ⊢
   have hq:=qbw hc.2 hc.1;obtain⟨_,_,i,h1,h2⟩:=qe0 hP ((hw g hg o ho).1 hc.2) ((hr h hh q (qeq hx).1).1 hq);refine⟨rfl,fun hn=>(by rw [hx]at hn;cases hn),fun q2 hq2=>?_⟩;rw [hx]at hq2;cases hq2;exact⟨rfl,.inr ⟨hc.1,hc.2,hq,i,h1,qbu hF h2⟩⟩
  ·rw [if_neg hc]
   refine⟨rfl,fun hn=>(by rw [hx]at hn;cases hn),fun q2 hq2=>?_⟩;rw [hx]at hq2;cases hq2;refine⟨rfl,.inl ⟨rfl,?_⟩⟩;by_cases h4:qay w r o q=4
   ·exact .inl h4
   ·exact .inr fun h10=>hc ⟨h4,h10⟩
theorem qgb {w r:PPlan} (hw:Aimed w) (hr:Aimed r) {g h:PProg} (hg:g ∈ w.progs) (hh:h ∈ r.progs) {F:List (Int × Int)} : ∀(ops:List POp) (A:List PAct) (P:List (Int × Int)),(∀o ∈ ops,o ∈ g.ops)->qao w r P->(qaz w r h ops A P).2 <+: F →
  (qaz w r h ops A P).1.length=A.length+ops.length/\A <+: (qaz w r h ops A P).1/\∀(i:Nat) o,ops[i]? = some o->∃c,(qaz w r h ops A P).1[A.length+i]? = some c/\ActOK w r F h o c
 | [],A,P,_,hP,hF=>⟨rfl,List.prefix_refl _,fun i o h=>by simp at h⟩
 | o :: os,A,P,ho,hP,hF=>by
  obtain⟨h1,h2⟩:=qgc hw hr hg hh (ho o (List.mem_cons_self ..)) hP;have hos : ∀x ∈ os,x ∈ g.ops:=fun x hx=>ho x (List.mem_cons_of_mem _ hx)
  obtain⟨i1,i2,i3⟩:=qgb hw hr hg hh os (A ++ [(actR w r h o P).1]) _ hos h1 hF;have hpre:=(qdq hw hr hg hh os (A ++ [(actR w r h o P).1]) _ hos h1).2;have hone:=actR_at hw hr hg hh (ho o (List.mem_cons_self ..)) hP (hpre.trans hF);show(qaz w r h os (A ++ [(actR w r h o P).1]) (actR w r h o P).2).1.length=_/\A <+: (qaz w r h os (A ++ [(actR w r h o P).1]) (actR w r h o P).2).1/\∀(i:Nat) o',(o :: os)[i]? = some o'->∃c,(qaz w r h os (A ++ [(actR w r h o P).1]) (actR w r h o P).2).1[A.length+i]? = some c/\ActOK w r F h o' c
  refine⟨by rw [i1];simp;omega,(List.prefix_append _ _).trans i2,fun i o' hi=>?_⟩;cases i with
  | zero=>
   have:o=o':=by simpa using hi
   subst this;exact⟨_,qbu i2 (by simp),hone⟩
  | succ i=>
   obtain⟨c,hc,hok⟩:=i3 i o' (by simpa using hi);refine⟨c,?_,hok⟩;rw [List.length_append,List.length_singleton,show A.length+1+i=A.length+(i+1)by omega]at hc;exact hc
structure Res (w r:PPlan) (F:List (Int × Int)) (n:Nat) (x:PAdapt):Prop where
 ex : ∃(g h:PProg),F[n]? = some (x.w,x.r)/\(0<=x.w/\x.w<w.progs.length)/\(0<=x.r/\x.r<r.progs.length)/\w.progs[x.w.toNat]? = some g/\r.progs[x.r.toNat]? = some h/\x.acts.length=g.ops.length/\(∀(i:Nat) o,g.ops[i]? = some o->∃c,x.acts[i]? = some c/\ActOK w r F h o c)/\x.lacks=qcy g h
end Go.Proofs.YtgpjhibdongmbaaGreatDoor.Rs
