import Derived.Test.YtgpjhibdongmbaaGreatDoorOrd
import Derived.Test.YtgpjhibdongmbaaGreatDoorRsWro
import Derived.Test.YtgpjhibdongmbaaGreatDoorCkUse
set_option maxRecDepth 100000
set_option maxHeartbeats 4000000
set_option linter.unusedVariables false
set_option linter.unusedSimpArgs false
namespace Go.Proofs.YtgpjhibdongmbaaGreatDoor
section
open Go.RowKit
inductive OrdT (α:Type)where
 | done
 | take (x:α) (t:OrdT α)
 | alt (x:α) (t:OrdT α) (more:OrdT α)
 | no
def OrdT.alts {α:Type}:OrdT α->List α
 | .alt x _ m=>x :: m.alts
 | _ => []
def OrdT.depth {α:Type}:OrdT α->Nat
 | .take _ t=>t.depth+1
 | .alt _ t _=>t.depth+1
 | _=>0
def pickT (l:List Oper):OrdT Nat->OrdT Oper
 | .done=>.done
 | .take i t=>.take (l.getD i default) (pickT l t)
 | .alt i t m=>.alt (l.getD i default) (pickT l t) (pickT l m)
 | .no=>.no
def qap (P:Program) (ops:Array Oper) (S:World->Prop) (Q:Exit->Act->World->Prop) (K:Act->World->Prop):OrdT Oper->Act->World->Prop
 | .done,a,w=>K a w
 | .take o r,a,w => ∃v,YieldsIf P ops S o v a/\qap P ops S Q K r (a.put o.dst v) w
 | .alt o r m,a,w=>(if Region.wanted o (yielded ops a.tmps)=true then Oper.wp P o a w (fun a' w'=>S w'/\qap P ops S Q K r a' w') Q else S w/\qap P ops S Q K r (a.put o.dst undef) w)/\qap P ops S Q K m a w
 | .no,_,_=>True
section
variable {P : Program} {ops : Array Oper} {md : Region.Mode} {S : World → Prop} {Q : Exit → Act → World → Prop} {K : Act → World → Prop} {a : Act} {w : World} {o : Oper} {r m : OrdT Oper}
theorem set_s {α:Type} (x:α) (l:List α) (i:Nat) (v:α):(x :: l).set (i+1) v=x :: l.set i v:=by
 simp [List.set]
theorem set_z {α:Type} (x:α) (l:List α) (v:α):(x :: l).set 0 v=v :: l:=by
 simp [List.set]
theorem ev_eq {a:Act} {i:Nat} {v:Value} (h:i<a.tmps.size):(a.put (some i) v).eval (.tmp i)=v:=by
 simp [Act.eval,Act.put,h]
theorem ev_ne {a:Act} {i j:Nat} {v:Value} (h:i ≠ j):(a.put (some i) v).eval (.tmp j)=a.eval (.tmp j):=by
 simp [Act.eval,Act.put,Array.getElem?_setIfInBounds_ne h]
theorem qa2 {a:Act} {i:Nat} {v:Value}:(a.put (some i) v).tmps.size=a.tmps.size:=by
 simp [Act.put]
theorem qa1 {i:Tmp} {v:Value} (hd:o.dst=some i) (hw:Region.wanted o (yielded ops a.tmps)=true) (hy : ∀ρ:Operand->Value,(∀x,ρ x=a.eval x)->∀W,S W->(execOp ρ o).run P W=.ok (.value v) W) (h:qap P ops S Q K r (a.put (some i) v) w):qap P ops S Q K (.take o r) a w:=
 ⟨v,.inl ⟨hw,hy _ (fun _=>rfl)⟩,by rw [hd];exact h⟩
theorem qb2 {i:Tmp} {v:Value} {w':World} (hd:o.dst=some i) (hw:Region.wanted o (yielded ops a.tmps)=true) (hy : ∀ρ:Operand->Value,(∀x,ρ x=a.eval x)->(execOp ρ o).run P w=.ok (.value v) w') (hS:S w') (h:qap P ops S Q K r (a.put (some i) v) w') (hm:qap P ops S Q K m a w):qap P ops S Q K (.alt o r m) a w:=by
 refine⟨?_,hm⟩;rw [if_pos hw];unfold Oper.wp;rw [hy _ (fun _=>rfl),Oper.upon_value,hd];exact⟨hS,h⟩
theorem qbe {i:Tmp} {f:FuncId} {args:Array Value} (hd:o.dst=some i) (hw:Region.wanted o (yielded ops a.tmps)=true) (hy : ∀ρ:Operand->Value,(∀x,ρ x=a.eval x)->(execOp ρ o).run P w=.ok (.enter f args) w) (h:Calls P f args w (fun e w' => ∃v,e=.returned v/\S w'/\qap P ops S Q K r (a.put (some i) v) w')) (hm:qap P ops S Q K m a w):qap P ops S Q K (.alt o r m) a w:=by
 refine⟨?_,hm⟩;rw [if_pos hw];unfold Oper.wp;rw [hy _ (fun _=>rfl),Oper.upon_enter,hd];refine h.mono fun e w' he=>?_
 obtain⟨v,rfl,h1,h2⟩:=he;exact⟨h1,h2⟩
theorem qdb {l:List Oper} {i:Tmp} {v:Value} {w':World} (hd:o.dst=some i) (hw:Region.wanted o (yielded ops a.tmps)=true) (hy : ∀ρ:Operand->Value,(∀x,ρ x=a.eval x)->(execOp ρ o).run P w=.ok (.value v) w') (h:wpList P ops Q l (a.put (some i) v) w'):wpList P ops Q (o :: l) a w:=by
 unfold wpList;rw [if_pos hw];refine .inl ?_;unfold Oper.wp;rw [hy _ (fun _=>rfl),Oper.upon_value,hd];exact h
theorem qak:qap P ops S Q K .no a w:=trivial
theorem qaz (l:List Value) (d:List Deferred) (i:Tmp) (v:Value):Act.put ⟨l.toArray,d⟩ (some i) v=⟨(l.set i v).toArray,d⟩:=by
 simp [Act.put]
theorem qlm (hw:Region.wanted o (yielded ops a.tmps)=false) (h:qap P ops S Q K r (a.put o.dst undef) w):qap P ops S Q K (.take o r) a w:=⟨undef,.inr ⟨hw,rfl⟩,h⟩
theorem qan (h:K a w):qap P ops S Q K .done a w:=h
def treeB (md:Region.Mode) (ops:Array Oper):OrdT Nat->Bool->Nat->Array Bool->Bool
 | .done,_,n,listed=>(Region.ready md ops listed).isEmpty && decide (n=0)
 | .take i t,_,n,listed=>(Region.ready md ops listed).contains i && Region.free md ops listed i && decide (0<n) && treeB md ops t true (n-1) (listed.setIfInBounds i true)
 | .alt i t m,first,n,listed=>(!first || decide (Region.ready md ops listed=i :: m.alts)) && decide (0<n) && treeB md ops t true (n-1) (listed.setIfInBounds i true) && treeB md ops m false n listed
 | .no,first,_,_ => !first
theorem getD_of {l:List Oper} {i:Nat} {o:Oper} (h:l[i]? = some o):l.getD i default=o:=by
 rw [List.getD_eq_getElem?_getD,h];rfl
theorem qc6 {mm:Nat} {l:List Oper} {Qt:Exit->Act->World->Prop} (hl : ∀j:Nat,l[j]? = ops[j]?) (hsel:Region.noSelect (cutM ops mm)=true) (hg:qe5 md ops mm=true) (hQ : ∀c a w, ¬ Qt (.panic c) a w) (hK : ∀a w,K a w->Qt .normal a w) :
  ∀(t:OrdT Nat) (n:Nat) (listed:Array Bool) (a:Act) (w:World),S w->qap P ops S Qt K (pickT l t) a w →
   (treeB md (cutM ops mm) t true n listed=true->wpAnyH P md (cutM ops mm) Qt S n listed a w) ∧
   (∀n',n=n'+1->treeB md (cutM ops mm) t false n listed=true->∀i ∈ t.alts,i ∈ Region.ready md (cutM ops mm) listed->wpOp P (cutM ops mm) Qt i (fun a' w'=>S w'/\wpAnyH P md (cutM ops mm) Qt S n' (listed.setIfInBounds i true) a' w') a w)
 | .done,n,listed,a,w,hS,h=>⟨fun hB=>by
   simp only [treeB,Bool.and_eq_true,decide_eq_true_eq,List.isEmpty_iff]at hB
   exact wpAnyH_done hB.1 (hK _ _ h) _,fun _ _ _ i hi=>by cases hi⟩
 | .no,n,listed,a,w,hS,h=>⟨fun hB=>by simp [treeB]at hB,fun _ _ _ i hi=>by cases hi⟩
 | .take i t,n,listed,a,w,hS,h=>by
  refine⟨fun hB=>?_,fun _ _ _ i hi=>by cases hi⟩;simp only [treeB,Bool.and_eq_true,decide_eq_true_eq]at hB;obtain⟨⟨⟨h1,h2⟩,hn⟩,h3⟩:=hB;obtain⟨n,rfl⟩ : ∃n',n=n'+1:=⟨n-1,by omega⟩;have hmem:i ∈ Region.ready md (cutM ops mm) listed:=by simpa using h1
  have him:=qfz hmem;obtain⟨o,ho⟩:=qd7 hmem;have hoo:ops[i]? = some o:=by rw [←qca him];exact ho
  have hll:=getD_of ((hl i).trans hoo);simp only [pickT,hll,qap]at h;obtain⟨v,hy,h⟩:=h
  have hy':YieldsIf P (cutM ops mm) S o v a:=by
   unfold YieldsIf at *;rw [qbs hg him hoo];exact hy
  exact wpAnyH_take ho hsel h2 h1 (fun c a w hh=>absurd hh (hQ _ _ _)) hy' hS ((qc6 hl hsel hg hQ hK t n _ _ w hS h).1 h3)
 | .alt i t m,n,listed,a,w,hS,h=>by
  simp only [pickT,qap]at h;obtain⟨ha,hmr⟩:=h
  have key : ∀n',n=n'+1->treeB md (cutM ops mm) t true n' (listed.setIfInBounds i true)=true->i ∈ Region.ready md (cutM ops mm) listed->wpOp P (cutM ops mm) Qt i (fun a' w'=>S w'/\wpAnyH P md (cutM ops mm) Qt S n' (listed.setIfInBounds i true) a' w') a w:=by
   intro n' hn hB hmem;have him:=qfz hmem;obtain⟨o,ho⟩:=qd7 hmem;have hoo:ops[i]? = some o:=by rw [←qca him];exact ho
   have hll:=getD_of ((hl i).trans hoo);rw [hll]at ha;unfold wpOp;simp only [ho,qbs hg him hoo];cases hwd:Region.wanted o (yielded ops a.tmps)with
   | false=>
    rw [hwd]at ha;simp only [Bool.false_eq_true,if_false]at ha ⊢;exact⟨ha.1,(qc6 hl hsel hg hQ hK t n' _ _ w ha.1 ha.2).1 hB⟩
   | true=>
    rw [hwd]at ha;simp only [if_true]at ha ⊢;exact .inl (Oper.wp_mono (fun a' w' hh=>⟨hh.1,(qc6 hl hsel hg hQ hK t n' _ _ w' hh.1 hh.2).1 hB⟩) ha)
  have more:=fun n' hn hB=>(qc6 hl hsel hg hQ hK m n listed a w hS hmr).2 n' hn hB
  refine⟨fun hB=>?_,fun n' hn hB j hj hjr=>?_⟩
  ·simp only [treeB,Bool.and_eq_true,decide_eq_true_eq,Bool.not_true,Bool.false_or]at hB
   obtain⟨⟨⟨hr,hn⟩,h3⟩,h4⟩:=hB;obtain⟨n,rfl⟩ : ∃n',n=n'+1:=⟨n-1,by omega⟩;refine wpAnyH_all hr (by simp) fun j hj=>?_
   have hjr:j ∈ Region.ready md (cutM ops mm) listed:=by rw [hr];exact hj
   rcases List.mem_cons.1 hj with rfl|hj'
   ·exact key n rfl h3 hjr
   ·exact more n rfl h4 j hj' hjr
  ·simp only [treeB,Bool.and_eq_true,decide_eq_true_eq,Bool.not_false,Bool.true_or,true_and]at hB
   obtain⟨⟨hn0,h3⟩,h4⟩:=hB;subst hn;rcases List.mem_cons.1 hj with rfl|hj'
   ·exact key n' rfl h3 hjr
   ·exact more n' rfl h4 j hj' hjr
def regTB (md:Region.Mode) (ops:Array Oper) (t:OrdT Nat) (m:Nat):Bool:=
 Region.noSelect (cutM ops m) && qe5 md ops m && decide (m<ops.size) && Region.sinkB md ops m && Region.chainB md ops m && Region.seqB md ops (ops.size-m) m (qf4 m ops.size) && treeB md (cutM ops m) t true m (Array.replicate m false)
theorem qip {id:Nat} {w wd:World} {l:List Oper} (S:World->Prop) (t:OrdT Nat) (m:Nat) (hm:P.follows .mixedOrders=true) (hB:regTB .any l.toArray t m=true) (hwd:wd=w.drew) (hS:S wd)
  (h:qap P l.toArray S (qbv Q (wpList P l.toArray Q (l.drop m))) (fun a' w'=>wpList P l.toArray Q (l.drop m) a' w') (pickT l t) a wd):(Code.region id l.toArray true).wp P Q a w:=by
 subst hwd;simp only [regTB,Bool.and_eq_true,decide_eq_true_eq]at hB;obtain⟨⟨⟨⟨⟨⟨hsel,hg⟩,hml⟩,hs⟩,hc⟩,hseq⟩,hord⟩:=hB;have hml':m<l.length:=by simpa using hml
 have H:=wpAny_of_held _ _ _ _ ((qc6 (md:=.any) (P:=P) (K:=fun a' w'=>wpList P l.toArray Q (l.drop m) a' w') (l:=l) (ops:=l.toArray) (mm:=m) (Qt:=qbv Q (wpList P l.toArray Q (l.drop m))) (fun j=>by simp) hsel hg (fun c a w hh=>hh) (fun a w hh=>hh) t m _ a w.drew hS h).1 hord)
 have tw0:TwinM m (Array.replicate l.toArray.size false) (Array.replicate m false) l.toArray:=by
  refine⟨by simp,by simp,fun i hi=>?_⟩;have q1:(Array.replicate l.toArray.size false).getD i true=false:=getD_in (by simp;omega) (getD_replicate_false _ _);have q2:(Array.replicate m false).getD i true=false:=getD_in (by simpa using hi) (getD_replicate_false _ _);rw [getD_replicate_false,getD_replicate_false];exact⟨by rw [q1,q2],rfl⟩
 have inv0:HeadInv .any l.toArray m (Array.replicate l.toArray.size false):=
  ⟨by simp,fun j oj _ hl=>(by rw [getD_replicate_false]at hl;cases hl),fun t _ ht=>getD_in (by simpa using ht) (getD_replicate_false _ _)⟩
 have hdl:(l.drop m).length=l.toArray.size-m:=by simp
 have H2:=ql2 (md:=.any) (l.drop m) (fun j=>by simp [List.getElem?_drop]) hg hml hs hc (by rw [hdl];exact hseq) _ _ _ a w.drew tw0 inv0 H;refine wp_region_any hm ?_;have hsum:m+(l.drop m).length=l.toArray.size:=by simp;omega
 rw [hsum]at H2;exact H2
theorem qag {id:Nat} {w wd:World} {l:List Oper} (S:World->Prop) (t:OrdT Nat) (m:Nat) (hm:P.follows .mixedOrders=true) (hB:regTB .any l.toArray t m=true) (hwd:wd=w.drew) (hS:S wd)
  (h : ∀a',a'=a->qap P l.toArray S (qbv Q (wpList P l.toArray Q (l.drop m))) (fun a' w'=>wpList P l.toArray Q (l.drop m) a' w') (pickT l t) a' wd):(Code.region id l.toArray true).wp P Q a w:=qip S t m hm hB hwd hS (h a rfl)
theorem qad {ρ:Operand->Value} {dst:Option Tmp} {f:FuncId} {xs:Array Operand} {ats:Array TypeId} {ty:TypeId} {pos:String} {after:Array Edge} {guard:Option (Nat × Bool)} (h:ρ (.func f)=.func (.func f) #[] #[]) :
  execOp ρ { dst:=dst,op:=.call { callee:=.value (.func f),args:=xs,argTypes:=ats },type:=ty,pos:=pos,after:=after,guard:=guard } = callFunc f (#[] ++ xs.map ρ ++ #[]):=by
 unfold execOp resolve;simp only [h];rfl
end
end
section
open Go.RowKit
section
variable {P : Program} {ops : Array Oper} {S : World → Prop} {Q : Exit → Act → World → Prop} {K : Act → World → Prop} {a : Act} {w : World} {o : Oper} {r m : OrdT Oper}
theorem qcj {j:Nat} {b c:Bool} {t:Tmp} (hg:o.guard=some (j,b)) (hj:(ops[j]?).bind (·.dst)=some t) (hv:a.eval (.tmp t)=.bool c):Region.wanted o (yielded ops a.tmps)=(c == b):=by
 have h:a.tmps[t]? = some (.bool c):=by
  simp only [Act.eval]at hv;rw [Array.getD_eq_getD_getElem?]at hv;cases h:a.tmps[t]? with
  | none=>rw [h]at hv;simp [undef]at hv
  | some x=>rw [h]at hv;simpa using hv
 unfold Region.wanted yielded;rw [hg];simp only [hj,Option.bind_some,h];cases c <;> cases b <;> rfl
theorem qa9 {i:Tmp} {v:Value} {j:Nat} {b:Bool} {t:Tmp} (hd:o.dst=some i) (hg:o.guard=some (j,b)) (hj:(ops[j]?).bind (·.dst)=some t) (hv:a.eval (.tmp t)=.bool b) (hy : ∀ρ:Operand->Value,(∀x,ρ x=a.eval x)->∀W,S W->(execOp ρ o).run P W=.ok (.value v) W) (h:qap P ops S Q K r (a.put (some i) v) w):qap P ops S Q K (.take o r) a w:=
 qa1 hd (by rw [qcj hg hj hv];simp) hy h
theorem qae {i:Tmp} {j:Nat} {b c:Bool} {t:Tmp} (hd:o.dst=some i) (hg:o.guard=some (j,b)) (hj:(ops[j]?).bind (·.dst)=some t) (hv:a.eval (.tmp t)=.bool c) (hc:(c == b)=false) (h:qap P ops S Q K r (a.put (some i) undef) w):qap P ops S Q K (.take o r) a w:=
 qlm (by rw [qcj hg hj hv];exact hc) (by rw [hd];exact h)
theorem qbu {i:Tmp} {f:FuncId} {args:Array Value} {j:Nat} {b:Bool} {t:Tmp} (hd:o.dst=some i) (hg:o.guard=some (j,b)) (hj:(ops[j]?).bind (·.dst)=some t) (hv:a.eval (.tmp t)=.bool b) (hy : ∀ρ:Operand->Value,(∀x,ρ x=a.eval x)->(execOp ρ o).run P w=.ok (.enter f args) w) (h:Calls P f args w (fun e w' => ∃v,e=.returned v/\S w'/\qap P ops S Q K r (a.put (some i) v) w')) (hm:qap P ops S Q K m a w):qap P ops S Q K (.alt o r m) a w:=
 qbe hd (by rw [qcj hg hj hv];simp) hy h hm
theorem qij {i:Tmp} {v:Value} {w':World} {j:Nat} {b:Bool} {t:Tmp} (hd:o.dst=some i) (hg:o.guard=some (j,b)) (hj:(ops[j]?).bind (·.dst)=some t) (hv:a.eval (.tmp t)=.bool b) (hy : ∀ρ:Operand->Value,(∀x,ρ x=a.eval x)->(execOp ρ o).run P w=.ok (.value v) w') (hS:S w') (h:qap P ops S Q K r (a.put (some i) v) w') (hm:qap P ops S Q K m a w):qap P ops S Q K (.alt o r m) a w:=
 qb2 hd (by rw [qcj hg hj hv];simp) hy hS h hm
theorem tree_off {i:Tmp} (hd:o.dst=some i) (hw:Region.wanted o (yielded ops a.tmps)=false) (hS:S w) (h:qap P ops S Q K r (a.put (some i) undef) w) (hm:qap P ops S Q K m a w):qap P ops S Q K (.alt o r m) a w:=by
 refine⟨?_,hm⟩;rw [hw,hd];exact⟨hS,h⟩
theorem qck {i:Tmp} {j:Nat} {b c:Bool} {t:Tmp} (hd:o.dst=some i) (hg:o.guard=some (j,b)) (hj:(ops[j]?).bind (·.dst)=some t) (hv:a.eval (.tmp t)=.bool c) (hc:(c == b)=false) (hS:S w) (h:qap P ops S Q K r (a.put (some i) undef) w) (hm:qap P ops S Q K m a w):qap P ops S Q K (.alt o r m) a w:=
 tree_off hd (by rw [qcj hg hj hv];exact hc) hS h hm
end
end
section
open Go.RowKit Ck Rs
theorem rC74 {a:Act} {ρ:Operand->Value} (h : ∀x,ρ x=a.eval x):(∀c,ρ (.const c)=c)/\∀f,ρ (.func f)=.func (.func f) #[] #[]:=⟨fun c=>h (.const c),fun f=>h (.func f)⟩
theorem qdn (n:Nat):madeCells #[.bool false] n=((List.replicate n false).map Value.bool).toArray:=by
 apply Array.ext
 ·simp [madeCells]
 ·intro i h1 h2
  simp [madeCells,Nat.mod_one]
theorem qf8 (F:List Bool) (i:Nat) (b:Bool):((F.map Value.bool).toArray).setIfInBounds i (.bool b)=((F.set i b).map Value.bool).toArray:=by
 simp [List.map_set]
theorem qdv (F:List Bool) (i:Nat) (h:i<F.length):((F.map Value.bool).toArray)[i]? = some (.bool (F.getD i false)):=by
 simp [List.getD,h]
theorem cl_end (p:PPlan) (o:POp) (vs:List Value) (F:List Bool) (B bf c:Nat) (W:World) (hv:VOp W vs o) (hB:W.cell? ⟨B,0,none⟩=some (.slice (some ⟨bf,0,none⟩) F.length c)) (hF : ∀j,j<F.length->W.cell? ⟨bf,j,none⟩=some (.bool (F.getD j false))) (ht:o.kind=10->0<=o.tgt/\o.tgt<F.length) :
  Calls Tryz.prog 151 #[.agg vs.toArray,.pointer (some ⟨B,0,none⟩)] W fun e' w'=>e'=.returned (.bool (!okAt F o))/\Bel W w':=by
 obtain rfl:vs=[.int .i64 o.num,.string (S o.name),.string (S o.ali),.int .i64 o.card,.int .i64 o.key,.int .i64 o.kind,.int .i64 o.tgt,.int .i64 o.un]:=hv;have hlt:B<W.heap.size:=World.block_lt_of_cell? W _ hB;have hS0:=(Bel.refl W).alloc (.cells #[.int .i64 o.num,.string (S o.name),.string (S o.ali),.int .i64 o.card,.int .i64 o.key,.int .i64 o.kind,.int .i64 o.tgt,.int .i64 o.un] 54);by_cases h1:o.card=1
 ·have hb1:(o.card == 1)=true:=by rw [h1];rfl
  by_cases h2:o.kind=10
  ·have hb2:(o.kind == 10)=true:=by rw [h2];rfl
   obtain⟨t0,t1⟩:=ht h2;obtain⟨t,htt⟩ : ∃t:Nat,o.tgt=(t:Int):=⟨o.tgt.toNat,by omega⟩;have V:=Lib.hid (show(!okAt F o) = !F.getD t false by unfold okAt;rw [decide_eq_false (by omega),Bool.false_or,htt,Int.toNat_natCast]);have e0:=hF t (by omega);have hlf:bf<W.heap.size:=World.block_lt_of_cell? W _ e0;rw [htt]at t0 t1 ⊢ hS0;generalize F.getD t false=X at *;clear h1 h2 ht htt hF
   go_enter Tryz.func151,Tryz.ntmps151
   go_wp2;go_ret
   exact⟨qa3 (by first|(exact V.out.symm)|(rw [V.out];done)|(rw [V.out];simp [*])),hS0⟩
  ·have hb2:(o.kind == 10)=false:=beq_eq_false_iff_ne.2 h2
   have V:=Lib.hid (show(!okAt F o)=false by unfold okAt;rw [decide_eq_true (.inr h2)];rfl);clear h1 h2 ht hF
   go_enter Tryz.func151,Tryz.ntmps151
   go_wp2;go_ret
   exact⟨qa3 (by first|(exact V.out.symm)|(rw [V.out];done)|(rw [V.out];simp [*])),hS0⟩
 ·have hb1:(o.card == 1)=false:=beq_eq_false_iff_ne.2 h1
  have V:=Lib.hid (show(!okAt F o)=false by unfold okAt;rw [decide_eq_true (.inl h1)];rfl);clear h1 ht hF
  go_enter Tryz.func151,Tryz.ntmps151
  go_wp2;go_ret
  exact⟨qa3 (by first|(exact V.out.symm)|(rw [V.out];done)|(rw [V.out];simp [*])),hS0⟩
theorem co_bool (q:Option Addr) (n c:Nat) (W:World) (hn:n<=1000) (hF : ∃b,q=some ⟨b,0,none⟩/\∀j,j<n->W.cell? ⟨b,j,none⟩=some (.bool true)) :
  Calls Tryz.prog 152 #[.slice q n c,.bool false] W fun e w'=>e=.returned (.bool false)/\Bel W w':=by
 have CI:Calls Tryz.prog 185 #[.slice q n c,.bool false] W fun e w'=>e=.returned (.int .i64 (-1))/\Bel W w':=by
  obtain⟨b,rfl,hF⟩:=hF;have HF:=Lib.hid hF;clear hF
  go_enter Tryz.func185,Tryz.ntmps185
  go_wp2
  go_loopw [8] (fun i wr => ∃k:Nat,k<=n/\i=.int .i64 k/\Bel W wr) (fun i _=>n-(intOf i).toNat)
  case atStart=>exact⟨0,by omega,rfl,Bel.refl _⟩
  case round=>as_aux_lemma=>
   obtain⟨k,hk,rfl,kw⟩:=hrel;by_cases hlt:k<n
   ·have hki:(k:Int)<(n:Int):=by omega
    have e0:=kw.some (HF.out k hlt);go_wp2;go_roundw
    case rel=>exact⟨k+1,by omega,by go_num,kw⟩
    case measure=>simp [intOf];omega
   ·have hki : ¬(k:Int)<(n:Int):=by omega
    go_wp2;go_ret
    exact⟨rfl,kw⟩
 have C:=Lib.hid CI;clear CI hF
 go_enter Tryz.func152,Tryz.ntmps152
 go_wp2_with (go_at_call 185;(with_reducible refine C.out.mono ?_);rintro e' w1 ⟨rfl,k1⟩;have k1:Bel _ w1:=k1)
 go_ret;exact⟨rfl,k1⟩
theorem qk6 (p:PPlan) (vs:List Value) (w:World) (hv:VPlan w vs p) (hl:p.progs.length<=64) (hA:Aimed p) (hf : ∀x ∈ fins p p.progs.length (List.replicate p.progs.length false),x=true) :
  Calls Tryz.prog 89 #[.agg vs.toArray] w fun e' w'=>e'=.returned (.bool false)/\Bel w w':=by
 obtain⟨q1,q2,c1,c2,rfl,h1,h2,l1,l2⟩:=hv.form;have hmk:=run_make_row' (P:=Tryz.prog) 119 4 (.bool false) 1 Tryz.underlying119 qib rfl .i64 .i64 p.progs.length (by omega) (by omega);have hS0:=(ST.start w).addbox #[.slice q1 p.progs.length c1,.slice q2 p.enums.length c2] 25;have H1:=Lib.hid h1;have HA:=Lib.hid hA;have HF:=Lib.hid hf;obtain⟨q',c',he,_,hcap,hel⟩:=h1;cases he;have EL:=Lib.hid hel;clear hv h2 hel hA hf
 go_enter Tryz.func89,Tryz.ntmps89
 go_upto_region 2 with(fail)
 have HS0:=(hS0.addbox (madeCells #[.bool false] p.progs.length) 4).addbox #[.slice (some ⟨w.heap.size+1,0,none⟩) p.progs.length p.progs.length] 119;simp only [World.size_alloc]at HS0;generalize World.alloc (World.alloc (World.alloc w _) _) _=wp at HS0 ⊢;rw [qdn]at HS0;generalize w.heap.size+1+1=b3 at HS0 ⊢;generalize w.heap.size+1=bf at HS0 ⊢;have t0:=HS0.cell 2 rfl 0;dsimp only at t0;have HS:=Lib.hid HS0;obtain⟨T,hT⟩ : ∃T,T=fins p p.progs.length (List.replicate p.progs.length false):=⟨_,rfl⟩;have V:=Lib.hid (show fins p (p.progs.length-0) (List.replicate p.progs.length false)=T from hT.symm);have HTL:=Lib.hid (show T.length=p.progs.length by rw [hT,qgn,List.length_replicate]);have HF:=Lib.hid (show ∀x ∈ T,x=true by rw [hT];exact HF.out);clear hT;clear hmk hS0 HS0;go_wp2
 go_loopw [13] (fun i wr => ∃(r:Nat) (F:List Bool),r<=p.progs.length/\i=.int .i64 r/\Hid (F.length=p.progs.length)/\Hid (fins p (p.progs.length-r) F=T)/\Hid (ST w [] [⟨b3,#[.slice (some ⟨bf,0,none⟩) p.progs.length p.progs.length],119⟩,⟨bf,(F.map Value.bool).toArray,4⟩,⟨w.heap.size,#[.slice q1 p.progs.length c1,.slice q2 p.enums.length c2],25⟩] wr)) (fun i _=>p.progs.length-(intOf i).toNat)
 case atStart=>exact⟨0,_,by omega,rfl,Lib.hid List.length_replicate,V,HS⟩
 case round=>as_aux_lemma=>
  clear t0 V HS;obtain⟨r,F,hr,rfl,hFl,hgo,hS⟩:=hrel;by_cases hlt:r<p.progs.length
  ·have hri:(r:Int)<(p.progs.length:Int):=by omega
   have t0:=hS.out.cell 2 rfl 0;dsimp only at t0;obtain⟨G,hG⟩ : ∃G,G=finGo p.progs 0 F:=⟨_,rfl⟩
   have HG:=Lib.hid (show fins p (p.progs.length-(r+1)) G=T by
    rw [←hgo.out,show p.progs.length-r=(p.progs.length-(r+1))+1 by omega,hG]
    rfl)
   have HR1:=Lib.hid (show finGo (p.progs.drop 0) 0 F=G from hG.symm);clear hG hgo HF HTL;go_wp2
   go_loopw [18] (fun i wi => ∃(k:Nat) (F2:List Bool),k<=p.progs.length/\i=.int .i64 k/\Hid (F2.length=p.progs.length)/\Hid (finGo (p.progs.drop k) k F2=G)/\Hid (ST w [] [⟨b3,#[.slice (some ⟨bf,0,none⟩) p.progs.length p.progs.length],119⟩,⟨bf,(F2.map Value.bool).toArray,4⟩,⟨w.heap.size,#[.slice q1 p.progs.length c1,.slice q2 p.enums.length c2],25⟩] wi)) (fun i _=>p.progs.length-(intOf i).toNat)
   case atStart=>exact⟨0,F,by omega,rfl,hFl,HR1,hS⟩
   case round=>as_aux_lemma=>
    clear t0 HR1 hS hFl;obtain⟨k,F2,hk,rfl,hFl,hgo,hS⟩:=hrel;by_cases hlt2:k<p.progs.length
    ·have hki:(k:Int)<(p.progs.length:Int):=by omega
     have hk0:(0:Int)<=(k:Int):=by omega
     have hg:p.progs[k]? = some p.progs[k]:=List.getElem?_eq_getElem hlt2;obtain⟨b,off,rfl,hbs,vs,hce,hvs⟩:=EL.out k _ hg;have hst:=hgo.out;rw [List.drop_eq_getElem_cons hlt2]at hst;have hgm:=List.getElem_mem hlt2;have AM:=Lib.hid (HA.out _ hgm);clear hgo hg EL H1 HA hgm;generalize p.progs[k]=g at *;obtain⟨oq,oc,rfl,ho,lo⟩:=hvs.form;have HST:=Lib.hid (show finGo (p.progs.drop (k+1)) (k+1) (F2.set k (F2.getD k false || okG F2 g))=G from hst);have e0:=hS.out.bel.some (hce 0 _ rfl);rw [Nat.add_zero]at e0;have e1:=hS.out.bel.some (hce 1 _ rfl);have e2:=hS.out.bel.some (hce 2 _ rfl);have HX:=Lib.hid (hS.out.addbox #[.string (S g.name),.slice oq g.ops.length oc,.int .i64 g.uns] 52);have HO:=Lib.hid ho
     have C:=Lib.hid (fun W (T:ST w [] (⟨wr.heap.size,#[.string (S g.name),.slice oq g.ops.length oc,.int .i64 g.uns],52⟩ :: [⟨b3,#[.slice (some ⟨bf,0,none⟩) p.progs.length p.progs.length],119⟩,⟨bf,(F2.map Value.bool).toArray,4⟩,⟨w.heap.size,#[.slice (some ⟨b,off,none⟩) p.progs.length c1,.slice q2 p.enums.length c2],25⟩]) W)=>show Calls Tryz.prog 116 #[.slice oq g.ops.length oc,.func (.func 151) #[] #[.pointer (some ⟨b3,0,none⟩)]] W (fun e w'=>e=.returned (.bool (!okG F2 g))/\Bel W w')from by
      have:=so_Op VOp VOp.len 151 #[.pointer (some ⟨b3,0,none⟩)] (enters_of Tryz.func151 (by kernel_rfl) rfl) (.slice oq g.ops.length oc) g.ops (fun o => !okAt F2 o) W (HO.out.bel VOp.stays T.bel) (fun x vs' W2 hx hv' hb=>cl_end p x vs' F2 b3 bf p.progs.length W2 hv' (hb.some (by have:=T.cell 1 rfl 0;dsimp only at this;rw [this,hFl.out];rfl)) (fun j hj=>hb.some (by have:=T.cell 2 rfl j;dsimp only at this;rw [this];exact qdv F2 j hj)) (fun h10=>by have:=(AM.out x hx).1 h10;rw [hFl.out];exact this));rw [qie]at this
      exact this)
     have hFB:=Lib.hid (show ∀W,ST w [] (⟨wr.heap.size,#[.string (S g.name),.slice oq g.ops.length oc,.int .i64 g.uns],52⟩ :: [⟨b3,#[.slice (some ⟨bf,0,none⟩) p.progs.length p.progs.length],119⟩,⟨bf,(F2.map Value.bool).toArray,4⟩,⟨w.heap.size,#[.slice (some ⟨b,off,none⟩) p.progs.length c1,.slice q2 p.enums.length c2],25⟩]) W->W.cell? ⟨bf,k,none⟩=some (.bool (F2.getD k false))from fun W T=>by have:=T.cell 2 rfl k;dsimp only at this;rw [this];exact qdv F2 k (by rw [hFl.out];exact hlt2));have HSET:=Lib.hid (show ∀W (X:Bool),ST w [] (⟨wr.heap.size,#[.string (S g.name),.slice oq g.ops.length oc,.int .i64 g.uns],52⟩ :: [⟨b3,#[.slice (some ⟨bf,0,none⟩) p.progs.length p.progs.length],119⟩,⟨bf,(F2.map Value.bool).toArray,4⟩,⟨w.heap.size,#[.slice (some ⟨b,off,none⟩) p.progs.length c1,.slice q2 p.enums.length c2],25⟩]) W->ST w [] [⟨b3,#[.slice (some ⟨bf,0,none⟩) p.progs.length p.progs.length],119⟩,⟨bf,((F2.set k X).map Value.bool).toArray,4⟩,⟨w.heap.size,#[.slice (some ⟨b,off,none⟩) p.progs.length c1,.slice q2 p.enums.length c2],25⟩] (W.setCell ⟨bf,k,none⟩ (.bool X))from fun W X T=>by rw [←qf8];exact(T.setbox 2 rfl k (.bool X)).dropbox0);have HLS:=Lib.hid (fun X:Bool=>show(F2.set k X).length=p.progs.length by rw [List.length_set,hFl.out]);clear hst hce hvs ho AM HO;generalize okG F2 g=O at HST C;generalize F2.getD k false=Y at HST hFB
     go_upto_region 7 with(fail)
     obtain⟨wd,hwd⟩ : ∃wd,wd=(wr.alloc (.cells #[.string (S g.name),.slice oq g.ops.length oc,.int .i64 g.uns] 52)).drew:=⟨_,rfl⟩;have T:=HX.out.belw ((Bel.refl _).drew);rw [←hwd]at T;have T:=Lib.hid T;have HWD:=Lib.hid hwd;clear hwd e0 e1 e2 HX;have KS:=Lib.hid (fun W (h:ST w [] (⟨wr.heap.size,#[.string (S g.name),.slice oq g.ops.length oc,.int .i64 g.uns],52⟩ :: [⟨b3,#[.slice (some ⟨bf,0,none⟩) p.progs.length p.progs.length],119⟩,⟨bf,(F2.map Value.bool).toArray,4⟩,⟨w.heap.size,#[.slice (some ⟨b,off,none⟩) p.progs.length c1,.slice q2 p.enums.length c2],25⟩]) W)=>show W.cell? ⟨b3,0,none⟩=some (.slice (some ⟨bf,0,none⟩) p.progs.length p.progs.length)/\W.cell? ⟨bf,k,none⟩=some (.bool Y)/\W.cell? ⟨wr.heap.size,1,none⟩=some (.slice oq g.ops.length oc)from⟨h.cell 1 rfl 0,hFB.out W h,h.cell 0 rfl 1⟩);cases Y with
     | true=>
      have HST2:=Lib.hid (show _=G by rw [←HST.out,Bool.true_or]);refine qag (fun W=>ST w [] (⟨wr.heap.size,#[.string (S g.name),.slice oq g.ops.length oc,.int .i64 g.uns],52⟩ :: [⟨b3,#[.slice (some ⟨bf,0,none⟩) p.progs.length p.progs.length],119⟩,⟨bf,(F2.map Value.bool).toArray,4⟩,⟨w.heap.size,#[.slice (some ⟨b,off,none⟩) p.progs.length c1,.slice q2 p.enums.length c2],25⟩]) W) (.take 0 (.take 1 (.take 2 (.take 3 (.take 4 (.take 5 (.take 6 (.take 7 (.take 8 (.alt 9 (.alt 10 (.take 11 (.take 12 .done)) .no) .no)))))))))) 13 (by kernel_rfl) (by kernel_rfl) HWD.out T.out (fun a ha=>?_)
      (simp only [pickT,List.getD_cons_zero,List.getD_cons_succ])
      have hsz:a.tmps.size=41:=(by rw [ha];kernel_rfl);have a3:a.eval (.tmp 3)=.pointer (some ⟨b3,0,none⟩):=(by rw [ha];kernel_rfl);have a4:a.eval (.tmp 4)=.int .i64 k:=(by rw [ha];kernel_rfl);have a5:a.eval (.tmp 5)=.pointer (some ⟨wr.heap.size,0,none⟩):=(by rw [ha];kernel_rfl)
      (with_reducible refine qa1 (v:=?_) rfl (by with_unfolding_all rfl) (fun ρ hρ W hW=>?_) ?_);(rotate_left 1)
      focus(have hS:=KS.out _ hW;clear hW;have p3:=hρ (.tmp 3);(simp +decide only [qa2,hsz,ev_eq,ev_ne,a3,a4,a5]at p3);obtain⟨hc,hfn⟩:=rC74 hρ;clear hρ;go_simp;(all_goals with_reducible first|rfl|(constructor <;> rfl)))
      (with_reducible refine qa1 (v:=?_) rfl (by with_unfolding_all rfl) (fun ρ hρ W hW=>?_) ?_);(rotate_left 1)
      focus(clear hW;have p4:=hρ (.tmp 4);(simp +decide only [qa2,hsz,ev_eq,ev_ne,a3,a4,a5]at p4);obtain⟨hc,hfn⟩:=rC74 hρ;clear hρ;go_simp;(all_goals with_reducible first|rfl|(constructor <;> rfl)))
      (with_reducible refine qa1 (v:=?_) rfl (by with_unfolding_all rfl) (fun ρ hρ W hW=>?_) ?_);(rotate_left 1)
      focus(have hS:=KS.out _ hW;clear hW;have p3:=hρ (.tmp 3);(simp +decide only [qa2,hsz,ev_eq,ev_ne,a3,a4,a5]at p3);obtain⟨hc,hfn⟩:=rC74 hρ;clear hρ;go_simp;(all_goals with_reducible first|rfl|(constructor <;> rfl)))
      (with_reducible refine qa1 (v:=?_) rfl (by with_unfolding_all rfl) (fun ρ hρ W hW=>?_) ?_);(rotate_left 1)
      focus(clear hW;have p4:=hρ (.tmp 4);(simp +decide only [qa2,hsz,ev_eq,ev_ne,a3,a4,a5]at p4);obtain⟨hc,hfn⟩:=rC74 hρ;clear hρ;go_simp;(all_goals with_reducible first|rfl|(constructor <;> rfl)))
      (with_reducible refine qa1 (v:=?_) rfl (by with_unfolding_all rfl) (fun ρ hρ W hW=>?_) ?_);(rotate_left 1)
      focus(clear hW;have p25:=hρ (.tmp 25);have p26:=hρ (.tmp 26);(simp +decide only [qa2,hsz,ev_eq,ev_ne,a3,a4,a5]at p25 p26);obtain⟨hc,hfn⟩:=rC74 hρ;clear hρ;go_simp;(all_goals with_reducible first|rfl|(constructor <;> rfl)))
      (with_reducible refine qa1 (v:=?_) rfl (by with_unfolding_all rfl) (fun ρ hρ W hW=>?_) ?_);(rotate_left 1)
      focus(have hS:=KS.out _ hW;clear hW;have p27:=hρ (.tmp 27);(simp +decide only [qa2,hsz,ev_eq,ev_ne,a3,a4,a5]at p27);obtain⟨hc,hfn⟩:=rC74 hρ;clear hρ;go_simp;(all_goals with_reducible first|rfl|(constructor <;> rfl)))
      (with_reducible refine qa1 (v:=.bool true) rfl (by with_unfolding_all rfl) (fun ρ hρ W hW=>?_) ?_);skip
      focus(clear hW;have p28:=hρ (.tmp 28);(simp +decide only [qa2,hsz,ev_eq,ev_ne,a3,a4,a5]at p28);obtain⟨hc,hfn⟩:=rC74 hρ;clear hρ;go_simp;(first|done|(all_goals with_reducible first|rfl|(constructor <;> rfl))|(simp only [];done)|(simp [];done)|((try simp only []);done)))
      with_reducible refine qae (c:=true) (t:=29) rfl rfl (by with_unfolding_all rfl) ?_ rfl ?_
      focus(simp +decide only [qa2,hsz,ev_eq,ev_ne,a3,a4,a5])
      with_reducible refine qae (c:=true) (t:=29) rfl rfl (by with_unfolding_all rfl) ?_ rfl ?_
      focus(simp +decide only [qa2,hsz,ev_eq,ev_ne,a3,a4,a5])
      with_reducible refine qck (c:=true) (t:=29) rfl rfl (by with_unfolding_all rfl) ?_ rfl ?_ ?_ ?_
      focus(simp +decide only [qa2,hsz,ev_eq,ev_ne,a3,a4,a5])
      focus exact T.out
      rotate_left 1
      focus exact qak
      with_reducible refine qck (c:=true) (t:=29) rfl rfl (by with_unfolding_all rfl) ?_ rfl ?_ ?_ ?_
      focus(simp +decide only [qa2,hsz,ev_eq,ev_ne,a3,a4,a5])
      focus exact T.out
      rotate_left 1
      focus exact qak
      with_reducible refine qae (c:=true) (t:=29) rfl rfl (by with_unfolding_all rfl) ?_ rfl ?_
      focus(simp +decide only [qa2,hsz,ev_eq,ev_ne,a3,a4,a5])
      (with_reducible refine qa1 (v:=?_) rfl (by with_unfolding_all rfl) (fun ρ hρ W hW=>?_) ?_);(rotate_left 1)
      focus(clear hW;have p29:=hρ (.tmp 29);have p34:=hρ (.tmp 34);(simp +decide only [qa2,hsz,ev_eq,ev_ne,a3,a4,a5]at p29 p34);obtain⟨hc,hfn⟩:=rC74 hρ;clear hρ;go_simp;(all_goals with_reducible first|rfl|(constructor <;> rfl)))
      with_reducible refine qan ?_
      (simp only [List.drop_succ_cons,List.drop_zero])
      subst ha
      (simp only [qaz,set_s,set_z])
      have y:=hFB.out _ T.out;have yf:=T.out.frz 2 rfl k;dsimp only at yf;go_wp2;go_roundw
      case rel=>exact⟨k+1,_,by omega,by go_num,Lib.hid (HLS.out true),HST2,Lib.hid (by have h:=HSET.out _ true T.out;simpa using h)⟩
      case measure=>simp [intOf];omega
     | false=>
      have HST2:=Lib.hid (show _=G by rw [←HST.out,Bool.false_or]);refine qag (fun W=>ST w [] (⟨wr.heap.size,#[.string (S g.name),.slice oq g.ops.length oc,.int .i64 g.uns],52⟩ :: [⟨b3,#[.slice (some ⟨bf,0,none⟩) p.progs.length p.progs.length],119⟩,⟨bf,(F2.map Value.bool).toArray,4⟩,⟨w.heap.size,#[.slice (some ⟨b,off,none⟩) p.progs.length c1,.slice q2 p.enums.length c2],25⟩]) W) (.take 0 (.take 1 (.take 2 (.take 3 (.take 4 (.take 5 (.take 6 (.take 7 (.take 8 (.alt 9 (.alt 10 (.take 11 (.take 12 .done)) .no) .no)))))))))) 13 (by kernel_rfl) (by kernel_rfl) HWD.out T.out (fun a ha=>?_)
      (simp only [pickT,List.getD_cons_zero,List.getD_cons_succ])
      have hsz:a.tmps.size=41:=(by rw [ha];kernel_rfl);have a3:a.eval (.tmp 3)=.pointer (some ⟨b3,0,none⟩):=(by rw [ha];kernel_rfl);have a4:a.eval (.tmp 4)=.int .i64 k:=(by rw [ha];kernel_rfl);have a5:a.eval (.tmp 5)=.pointer (some ⟨wr.heap.size,0,none⟩):=(by rw [ha];kernel_rfl)
      (with_reducible refine qa1 (v:=?_) rfl (by with_unfolding_all rfl) (fun ρ hρ W hW=>?_) ?_);(rotate_left 1)
      focus(have hS:=KS.out _ hW;clear hW;have p3:=hρ (.tmp 3);(simp +decide only [qa2,hsz,ev_eq,ev_ne,a3,a4,a5]at p3);obtain⟨hc,hfn⟩:=rC74 hρ;clear hρ;go_simp;(all_goals with_reducible first|rfl|(constructor <;> rfl)))
      (with_reducible refine qa1 (v:=?_) rfl (by with_unfolding_all rfl) (fun ρ hρ W hW=>?_) ?_);(rotate_left 1)
      focus(clear hW;have p4:=hρ (.tmp 4);(simp +decide only [qa2,hsz,ev_eq,ev_ne,a3,a4,a5]at p4);obtain⟨hc,hfn⟩:=rC74 hρ;clear hρ;go_simp;(all_goals with_reducible first|rfl|(constructor <;> rfl)))
      (with_reducible refine qa1 (v:=?_) rfl (by with_unfolding_all rfl) (fun ρ hρ W hW=>?_) ?_);(rotate_left 1)
      focus(have hS:=KS.out _ hW;clear hW;have p3:=hρ (.tmp 3);(simp +decide only [qa2,hsz,ev_eq,ev_ne,a3,a4,a5]at p3);obtain⟨hc,hfn⟩:=rC74 hρ;clear hρ;go_simp;(all_goals with_reducible first|rfl|(constructor <;> rfl)))
      (with_reducible refine qa1 (v:=?_) rfl (by with_unfolding_all rfl) (fun ρ hρ W hW=>?_) ?_);(rotate_left 1)
      focus(clear hW;have p4:=hρ (.tmp 4);(simp +decide only [qa2,hsz,ev_eq,ev_ne,a3,a4,a5]at p4);obtain⟨hc,hfn⟩:=rC74 hρ;clear hρ;go_simp;(all_goals with_reducible first|rfl|(constructor <;> rfl)))
      (with_reducible refine qa1 (v:=?_) rfl (by with_unfolding_all rfl) (fun ρ hρ W hW=>?_) ?_);(rotate_left 1)
      focus(clear hW;have p25:=hρ (.tmp 25);have p26:=hρ (.tmp 26);(simp +decide only [qa2,hsz,ev_eq,ev_ne,a3,a4,a5]at p25 p26);obtain⟨hc,hfn⟩:=rC74 hρ;clear hρ;go_simp;(all_goals with_reducible first|rfl|(constructor <;> rfl)))
      (with_reducible refine qa1 (v:=?_) rfl (by with_unfolding_all rfl) (fun ρ hρ W hW=>?_) ?_);(rotate_left 1)
      focus(have hS:=KS.out _ hW;clear hW;have p27:=hρ (.tmp 27);(simp +decide only [qa2,hsz,ev_eq,ev_ne,a3,a4,a5]at p27);obtain⟨hc,hfn⟩:=rC74 hρ;clear hρ;go_simp;(all_goals with_reducible first|rfl|(constructor <;> rfl)))
      (with_reducible refine qa1 (v:=.bool false) rfl (by with_unfolding_all rfl) (fun ρ hρ W hW=>?_) ?_);skip
      focus(clear hW;have p28:=hρ (.tmp 28);(simp +decide only [qa2,hsz,ev_eq,ev_ne,a3,a4,a5]at p28);obtain⟨hc,hfn⟩:=rC74 hρ;clear hρ;go_simp;(first|done|(all_goals with_reducible first|rfl|(constructor <;> rfl))|(simp only [];done)|(simp [];done)|((try simp only []);done)))
      (with_reducible refine qa9 (v:=?_) (t:=29) rfl rfl (by with_unfolding_all rfl) ?_ (fun ρ hρ W hW=>?_) ?_);(rotate_left 1)
      focus(simp +decide only [qa2,hsz,ev_eq,ev_ne,a3,a4,a5])
      focus(clear hW;have p5:=hρ (.tmp 5);(simp +decide only [qa2,hsz,ev_eq,ev_ne,a3,a4,a5]at p5);obtain⟨hc,hfn⟩:=rC74 hρ;clear hρ;go_simp;(all_goals with_reducible first|rfl|(constructor <;> rfl)))
      (with_reducible refine qa9 (v:=?_) (t:=29) rfl rfl (by with_unfolding_all rfl) ?_ (fun ρ hρ W hW=>?_) ?_);(rotate_left 1)
      focus(simp +decide only [qa2,hsz,ev_eq,ev_ne,a3,a4,a5])
      focus(have hS:=KS.out _ hW;clear hW;have p30:=hρ (.tmp 30);(simp +decide only [qa2,hsz,ev_eq,ev_ne,a3,a4,a5]at p30);obtain⟨hc,hfn⟩:=rC74 hρ;clear hρ;go_simp;(all_goals with_reducible first|rfl|(constructor <;> rfl)))
      (with_reducible refine qij (v:=?_) (w':=?_) (t:=29) rfl rfl (by with_unfolding_all rfl) ?_ (fun ρ hρ=>?_) ?_ ?_ ?_);(rotate_left 2)
      focus(simp +decide only [qa2,hsz,ev_eq,ev_ne,a3,a4,a5])
      focus(have p3:=hρ (.tmp 3);(simp +decide only [qa2,hsz,ev_eq,ev_ne,a3,a4,a5]at p3);obtain⟨hc,hfn⟩:=rC74 hρ;clear hρ;go_simp;(all_goals with_reducible first|rfl|(constructor <;> rfl)))
      focus exact T.out
      rotate_left 1
      focus exact qak
      (with_reducible refine qbu (f:=?_) (args:=?_) (t:=29) rfl rfl (by with_unfolding_all rfl) ?_ (fun ρ hρ=>?_) ?_ ?_);(rotate_left 2)
      focus(simp +decide only [qa2,hsz,ev_eq,ev_ne,a3,a4,a5])
      focus(have p31:=hρ (.tmp 31);have p32:=hρ (.tmp 32);(simp +decide only [qa2,hsz,ev_eq,ev_ne,a3,a4,a5]at p31 p32);obtain⟨hc,hfn⟩:=rC74 hρ;clear hρ;rw [qad (hfn _)];clear hfn;go_simp;(all_goals with_reducible first|rfl|(constructor <;> rfl)))
      with_reducible refine(C.out _ T.out).mono ?_
      rintro e' w5 ⟨rfl,g5⟩;have g5:Bel wd w5:=g5;have T:=Lib.hid (T.out.belw g5);clear g5;refine⟨_,rfl,T.out,?_⟩;rotate_left 1
      focus exact qak
      (with_reducible refine qa9 (v:=?_) (t:=29) rfl rfl (by with_unfolding_all rfl) ?_ (fun ρ hρ W hW=>?_) ?_);(rotate_left 1)
      focus(simp +decide only [qa2,hsz,ev_eq,ev_ne,a3,a4,a5])
      focus(clear hW;have p33:=hρ (.tmp 33);(simp +decide only [qa2,hsz,ev_eq,ev_ne,a3,a4,a5]at p33);obtain⟨hc,hfn⟩:=rC74 hρ;clear hρ;go_simp;(all_goals with_reducible first|rfl|(constructor <;> rfl)))
      (with_reducible refine qa1 (v:=?_) rfl (by with_unfolding_all rfl) (fun ρ hρ W hW=>?_) ?_);(rotate_left 1)
      focus(clear hW;have p29:=hρ (.tmp 29);have p34:=hρ (.tmp 34);(simp +decide only [qa2,hsz,ev_eq,ev_ne,a3,a4,a5]at p29 p34);obtain⟨hc,hfn⟩:=rC74 hρ;clear hρ;go_simp;(all_goals with_reducible first|rfl|(constructor <;> rfl)))
      with_reducible refine qan ?_
      (simp only [List.drop_succ_cons,List.drop_zero])
      subst ha
      (simp only [qaz,set_s,set_z])
      have y:=hFB.out _ T.out;have yf:=T.out.frz 2 rfl k;dsimp only at yf;go_wp2;go_roundw
      case rel=>exact⟨k+1,_,by omega,by go_num,Lib.hid (HLS.out O),HST2,Lib.hid (by have h:=HSET.out _ O T.out;simpa using h)⟩
      case measure=>simp [intOf];omega
    ·have hki : ¬(k:Int)<(p.progs.length:Int):=by omega
     have hGF:F2=G:=by rw [←hgo.out,List.drop_eq_nil_of_le (by omega)];rfl
     have HS2:=Lib.hid (hGF ▸ hS.out);have HL2:=Lib.hid (hGF ▸ hFl.out);clear hgo hS hFl hGF;go_wp2;go_roundw
     case rel=>exact⟨r+1,G,by omega,by go_num,HL2,HG,HS2⟩
     case measure=>simp [intOf];omega
  ·have hri : ¬(r:Int)<(p.progs.length:Int):=by omega
   have hFT:F=T:=by rw [←hgo.out,show p.progs.length-r=0 by omega];rfl
   have t1:=hS.out.cell 0 rfl 0;dsimp only at t1
   have C:=Lib.hid (co_bool (some ⟨bf,0,none⟩) p.progs.length p.progs.length wr (by omega) ⟨bf,rfl,fun j hj=>by
    have:=hS.out.cell 1 rfl j;dsimp only at this;rw [this,qdv F j (by rw [hFl.out];exact hj)]
    congr 2
    rw [hFT];have hj2:j<T.length:=by rw [HTL.out];exact hj
    rw [List.getD_eq_getElem?_getD,List.getElem?_eq_getElem hj2]
    exact HF.out _ (List.getElem_mem hj2)⟩)
   clear hFT hgo EL H1 HA HF HTL
   go_wp2_with (go_at_call 152;(with_reducible refine C.out.mono ?_);rintro e' w1 ⟨rfl,k1⟩;have k1:Bel _ w1:=k1)
   go_ret;exact⟨rfl,Bel.of hS.out.bel k1⟩
end
end Go.Proofs.YtgpjhibdongmbaaGreatDoor
