import Derived.Test.YtaaneecceiefoaaGreatDoorMdOpenU
import Derived.Test.YtaaneecceiefoaaGreatDoorMaFind
set_option maxRecDepth 100000
set_option maxHeartbeats 4000000
set_option linter.unusedVariables false
set_option linter.unusedSimpArgs false
namespace Go.Proofs.YtaaneecceiefoaaGreatDoor
open Go.ChangeShapes Go.WideShapes Go.RowKit Go.Deep Ma
section
variable {H : Type} {enc : TypeId × Value → H} {w : World} {base : Nat} {spare : Nat → Bool} {held : Bool}
theorem bk_sum (D:Nat->DataW H) : ∀l:List Nat,Rows.uptoBulkAll (l.map D)=(l.map fun i=>Rows.uptoBulk (D i)).sum
 | []=>rfl
 | a :: l=>by
  rw [List.map_cons,Rows.uptoBulkAll,bk_sum D l,List.map_cons,List.sum_cons]
theorem qpe {α:Type} {N:Nat} {t e:TypeId} {C:Nat} {V:World->List Value->α->Prop} {Q:Nat->α->Prop} (ht:Tryz.prog.underlying t=some (.slice e)) (hC:Tryz.prog.cellsOf e=C) (hC0:0<C) (hb:decide (1<=Tryz.prog.bytesOf e)=true)
  (hV : ∀M,M+1<=N->qcp M enc w base spare held e (fun cs => ∃x,V w cs x/\Q M x)):qcp N enc w base spare held t (fun cs => ∃v xs, ∃f:Nat->Nat,cs=[v]/\SlA (fun b=>b<w.heap.size) C V w v xs/\((List.range xs.length).map f).sum+1<=N/\∀i x,xs[i]? = some x->Q (f i) x):=by
 intro fuel cs y h hw hk;have hby:=of_decide_eq_true hb;have hpos:=bk_pos y.1;rcases open_slice ht h with⟨rfl,_⟩|⟨a,len,cap,m,k,D,Pl,rfl,hbase,hl,hm,hmm,hy,hel⟩
 ·exact⟨_,[],fun _=>0,rfl,SlA.nil _ _ _ _ _ _,by simp;omega,fun i x hx=>by simp at hx⟩
 ·have hlm:len<=m:=by rw [hmm];split <;> omega
  subst hy;simp only [Rows.uptoBulk]at hk;unfold Wt at hw;simp only [DataW.weights,ht,List.all_cons,List.all_append,Bool.and_eq_true,decide_eq_true_eq,List.length_map,List.length_range]at hw;obtain⟨hw1,hw2,_⟩:=hw
  have hlen:len<=140737488355328:=by
   have h3:len<=(len+(m-len))*Tryz.prog.bytesOf e:=Nat.le_trans (Nat.le_add_right len (m-len)) (Nat.le_mul_of_pos_right _ hby);unfold reachBytes at hw1;omega
  have hks:=bk_sum D (List.range len)
  obtain⟨xs,hxl,hxs⟩:=qko (fun i x => ∃cs',w.cells? base (a.add (i*C)) C=some cs'/\V w cs' x/\Q (Rows.uptoBulk (D i)) x) len (fun i hi=>by
   obtain⟨cs',h1,h2⟩:=hel i (by omega);obtain⟨x,hx1,hx2⟩:=hV (Rows.uptoBulk (D i)) (by have:=qq0 (l:=(List.range len).map D) (List.mem_map.2 ⟨i,List.mem_range.2 hi,rfl⟩);omega) k cs' (D i,Pl i) h2 (qco hw2 (D i) (List.mem_map.2 ⟨i,List.mem_range.2 hi,rfl⟩)) (Nat.le_refl _);rw [hC]at h1
   exact⟨x,cs',h1,hx1,hx2⟩)
  subst hxl;refine⟨_,xs,fun i=>Rows.uptoBulk (D i),rfl,⟨some a,cap,rfl,hlen,hl,fun i x hx=>?_⟩,by rw [←hks];omega,fun i x hx=>?_⟩
  ·obtain⟨cs',h1,hx1,_⟩:=hxs i x hx
   obtain⟨h2,h3,h4⟩:=World.cells?_some h1;obtain⟨b,off,spot⟩:=a;have hlc:0<cs'.length:=by omega
   have hx0:0<xs.length:=by
    have:=(List.getElem?_eq_some_iff.1 hx).1;omega
   obtain⟨cs0,g1,_⟩:=hxs 0 _ (List.getElem?_eq_getElem hx0);obtain⟨_,g3,g4⟩:=World.cells?_some g1;have hlc0:0<cs0.length:=by omega
   have hc1:w.cell? (((⟨b,off,spot⟩:Addr).add (0*C)).add 0)=some cs0[0]:=by
    rw [g4 0 hC0];exact List.getElem?_eq_getElem hlc0
   have hspot:spot=none:=by simpa [Addr.add]using World.cell?_spot hc1
   subst hspot
   have hcell:Cells w b (off+i*C) cs':=fun j v hv=>by
    have hj:j<C:=by
     have:=(List.getElem?_eq_some_iff.1 hv).1;omega
    have:=h4 j hj;rw [add_plain,add_plain]at this;rw [this];exact hv
   have hblt:=World.block_lt_of_cell? w _ (hcell 0 cs'[0] (List.getElem?_eq_getElem hlc));exact⟨b,off,cs',rfl,hblt,hblt,hcell,hx1⟩
  ·obtain⟨_,_,_,h⟩:=hxs i x hx
   exact h
theorem cnt_sum {n:Nat} : ∀{l:List PMask} {f:Nat->Nat},(∀i x,l[i]? = some x->(if whole x then 1 else cnt n x.subs)<=f i)->cntGo (cnt n) l<=((List.range l.length).map f).sum
 | [],f,h=>by simp [cntGo]
 | x :: r,f,h=>by
  have h0:=h 0 x rfl;have ih:=cnt_sum (n:=n) (l:=r) (f:=fun i=>f (i+1)) (fun i y hy=>h (i+1) y (by simpa using hy));rw [List.length_cons,List.range_succ_eq_map,List.map_cons,List.sum_cons,List.map_map];show(if whole x then 1 else cnt n x.subs)+cntGo (cnt n) r<=_
  have e:((fun i=>f (i+1)):Nat->Nat)=f ∘ Nat.succ:=rfl;rw [e]at ih;omega
theorem qk2 : ∀k M:Nat,M<=2*k->qcp M enc w base spare held 27 (fun cs => ∃v l,cs=[v]/\MaskD (fun b=>b<w.heap.size) k w v l/\cnt k l<=M)
 | 0,M,hM=>by
  have:M=0:=by omega
  subst this;exact qhx _ _
 | k+1,M,hM=>by
  have hE : ∀M',M'+1<=M->qcp M' enc w base spare held 61 (fun cs => ∃x,VMk k w cs x/\(if whole x then 1 else cnt k x.subs)<=M'):=fun M' h'=>by
   cases M' with
   | zero=>exact qhx _ _
   | succ M2=>
    refine qe4 Tryz.underlying61 2 (by kernel_rfl) (fun cs hl hp=>?_);obtain⟨a0,a1,rfl⟩:=qpg hl;obtain⟨z,h0,_⟩ : ∃z,[a0]=[.int .i64 z]/\(Lit.int .i64 z).wf=true:=hp 0 0 1 3 _ rfl ql8 (qhz Tryz.underlying3);obtain rfl:a0=_:=(List.cons.inj h0).1;obtain⟨v,l,h1,h2,h3⟩ : ∃v l,[a1]=[v]/\MaskD (fun b=>b<w.heap.size) k w v l/\cnt k l<=M2:=hp 1 1 1 27 _ rfl (by kernel_rfl) (qk2 k M2 (by omega));obtain rfl:a1=_:=(List.cons.inj h1).1;refine⟨.mk z l,⟨_,rfl,h2⟩,?_⟩;show(if whole (.mk z l)then 1 else cnt k l)<=M2+1
    split <;> omega
  intro fuel cs y h hw hk;obtain⟨v,l,f,e,h1,h2,h3⟩:=qpe (C:=2) (V:=VMk k) (Q:=fun M' x=>(if whole x then 1 else cnt k x.subs)<=M') Tryz.underlying27 (by kernel_rfl) (by decide) (by kernel_rfl) hE fuel cs y h hw hk;refine⟨v,l,e,qnf h1,?_⟩;show cntGo (cnt k) l<=M
  have:=cnt_sum (n:=k) h3;omega
theorem qoa {r:Reach} {b0:Nat} {v:Value} {d:DataW H} {p:List MemPlace} (hv:Value.okWide Tryz.prog w r b0 27 v) (h:DataW.Trod enc Tryz.prog w base spare held 27 v d p) (hw:(d.weights Tryz.prog 27).all (·<=reachBytes)=true) (k M:Nat) (hM:M<=2*k) (hb:Rows.uptoBulk d<=M) :
  ∃(q:Option Addr) (c:Nat) (l:List PMask),v=.slice q l.length c/\MaskD (fun b=>b<w.heap.size) k w (.slice q l.length c) l/\cnt k l<=M:=by
 obtain⟨q,n,c,rfl⟩:=okWide_slice Tryz.underlying27 hv;obtain⟨fuel,hf⟩:=h;obtain⟨u,l,hc,hs,hq⟩:=qk2 k M hM fuel _ (d,p) hf hw hb
 have hu:u=.slice q n c:=by
  have:[Value.slice q n c]=[u]:=hc;exact(List.cons.inj this).1.symm
 subst hu;obtain⟨q',c',e⟩:=hs.form;cases e;exact⟨q,c,l,rfl,hs,hq⟩
end
end Go.Proofs.YtaaneecceiefoaaGreatDoor
