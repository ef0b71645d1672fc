import Derived.Test.YtgpjhibdongmbaaGreatDoorOrd
set_option maxRecDepth 100000
set_option maxHeartbeats 4000000
set_option linter.unusedVariables false
set_option linter.unusedSimpArgs false
namespace Go.Proofs.YtgpjhibdongmbaaGreatDoor
section
open Go.RowKit
inductive OrdT (α:Type)where
 | done
 | take (x:α) (t:OrdT α)
 | alt (x:α) (t:OrdT α) (more:OrdT α)
 | no
def OrdT.alts {α:Type}:OrdT α->List α
 | .alt x _ m=>x :: m.alts
 | _ => []
def OrdT.depth {α:Type}:OrdT α->Nat
 | .take _ t=>t.depth+1
 | .alt _ t _=>t.depth+1
 | _=>0
def pickT (l:List Oper):OrdT Nat->OrdT Oper
 | .done=>.done
 | .take i t=>.take (l.getD i default) (pickT l t)
 | .alt i t m=>.alt (l.getD i default) (pickT l t) (pickT l m)
 | .no=>.no
def qai (P:Program) (ops:Array Oper) (S:World->Prop) (Q:Exit->Act->World->Prop) (K:Act->World->Prop):OrdT Oper->Act->World->Prop
 | .done,a,w=>K a w
 | .take o r,a,w => ∃v,YieldsIf P ops S o v a/\qai P ops S Q K r (a.put o.dst v) w
 | .alt o r m,a,w=>(if Region.wanted o (yielded ops a.tmps)=true then Oper.wp P o a w (fun a' w'=>S w'/\qai P ops S Q K r a' w') Q else S w/\qai P ops S Q K r (a.put o.dst undef) w)/\qai P ops S Q K m a w
 | .no,_,_=>True
section
variable {P : Program} {ops : Array Oper} {md : Region.Mode} {S : World → Prop} {Q : Exit → Act → World → Prop} {K : Act → World → Prop} {a : Act} {w : World} {o : Oper} {r m : OrdT Oper}
theorem set_s {α:Type} (x:α) (l:List α) (i:Nat) (v:α):(x :: l).set (i+1) v=x :: l.set i v:=by
 simp [List.set]
theorem set_z {α:Type} (x:α) (l:List α) (v:α):(x :: l).set 0 v=v :: l:=by
 simp [List.set]
theorem ev_eq {a:Act} {i:Nat} {v:Value} (h:i<a.tmps.size):(a.put (some i) v).eval (.tmp i)=v:=by
 simp [Act.eval,Act.put,h]
theorem ev_ne {a:Act} {i j:Nat} {v:Value} (h:i ≠ j):(a.put (some i) v).eval (.tmp j)=a.eval (.tmp j):=by
 simp [Act.eval,Act.put,Array.getElem?_setIfInBounds_ne h]
theorem qa2 {a:Act} {i:Nat} {v:Value}:(a.put (some i) v).tmps.size=a.tmps.size:=by
 simp [Act.put]
theorem qa1 {i:Tmp} {v:Value} (hd:o.dst=some i) (hw:Region.wanted o (yielded ops a.tmps)=true) (hy : ∀ρ:Operand->Value,(∀x,ρ x=a.eval x)->∀W,S W->(execOp ρ o).run P W=.ok (.value v) W) (h:qai P ops S Q K r (a.put (some i) v) w):qai P ops S Q K (.take o r) a w:=
 ⟨v,.inl ⟨hw,hy _ (fun _=>rfl)⟩,by rw [hd];exact h⟩
theorem qb8 {i:Tmp} {v:Value} {w':World} (hd:o.dst=some i) (hw:Region.wanted o (yielded ops a.tmps)=true) (hy : ∀ρ:Operand->Value,(∀x,ρ x=a.eval x)->(execOp ρ o).run P w=.ok (.value v) w') (hS:S w') (h:qai P ops S Q K r (a.put (some i) v) w') (hm:qai P ops S Q K m a w):qai P ops S Q K (.alt o r m) a w:=by
 refine⟨?_,hm⟩;rw [if_pos hw];unfold Oper.wp;rw [hy _ (fun _=>rfl),Oper.upon_value,hd];exact⟨hS,h⟩
theorem qih {i:Tmp} {f:FuncId} {args:Array Value} (hd:o.dst=some i) (hw:Region.wanted o (yielded ops a.tmps)=true) (hy : ∀ρ:Operand->Value,(∀x,ρ x=a.eval x)->(execOp ρ o).run P w=.ok (.enter f args) w) (h:Calls P f args w (fun e w' => ∃v,e=.returned v/\S w'/\qai P ops S Q K r (a.put (some i) v) w')) (hm:qai P ops S Q K m a w):qai P ops S Q K (.alt o r m) a w:=by
 refine⟨?_,hm⟩;rw [if_pos hw];unfold Oper.wp;rw [hy _ (fun _=>rfl),Oper.upon_enter,hd];refine h.mono fun e w' he=>?_
 obtain⟨v,rfl,h1,h2⟩:=he;exact⟨h1,h2⟩
theorem qax:qai P ops S Q K .no a w:=trivial
theorem qbf (l:List Value) (d:List Deferred) (i:Tmp) (v:Value):Act.put ⟨l.toArray,d⟩ (some i) v=⟨(l.set i v).toArray,d⟩:=by
 simp [Act.put]
theorem qkn (hw:Region.wanted o (yielded ops a.tmps)=false) (h:qai P ops S Q K r (a.put o.dst undef) w):qai P ops S Q K (.take o r) a w:=⟨undef,.inr ⟨hw,rfl⟩,h⟩
theorem qb3 (h:K a w):qai P ops S Q K .done a w:=h
def treeB (md:Region.Mode) (ops:Array Oper):OrdT Nat->Bool->Nat->Array Bool->Bool
 | .done,_,n,listed=>(Region.ready md ops listed).isEmpty && decide (n=0)
 | .take i t,_,n,listed=>(Region.ready md ops listed).contains i && Region.free md ops listed i && decide (0<n) && treeB md ops t true (n-1) (listed.setIfInBounds i true)
 | .alt i t m,first,n,listed=>(!first || decide (Region.ready md ops listed=i :: m.alts)) && decide (0<n) && treeB md ops t true (n-1) (listed.setIfInBounds i true) && treeB md ops m false n listed
 | .no,first,_,_ => !first
theorem getD_of {l:List Oper} {i:Nat} {o:Oper} (h:l[i]? = some o):l.getD i default=o:=by
 rw [List.getD_eq_getElem?_getD,h];rfl
theorem qbt {mm:Nat} {l:List Oper} {Qt:Exit->Act->World->Prop} (hl : ∀j:Nat,l[j]? = ops[j]?) (hsel:Region.noSelect (cutM ops mm)=true) (hg:qdl md ops mm=true) (hQ : ∀c a w, ¬ Qt (.panic c) a w) (hK : ∀a w,K a w->Qt .normal a w) :
  ∀(t:OrdT Nat) (n:Nat) (listed:Array Bool) (a:Act) (w:World),S w->qai P ops S Qt K (pickT l t) a w →
   (treeB md (cutM ops mm) t true n listed=true->wpAnyH P md (cutM ops mm) Qt S n listed a w) ∧
   (∀n',n=n'+1->treeB md (cutM ops mm) t false n listed=true->∀i ∈ t.alts,i ∈ Region.ready md (cutM ops mm) listed->wpOp P (cutM ops mm) Qt i (fun a' w'=>S w'/\wpAnyH P md (cutM ops mm) Qt S n' (listed.setIfInBounds i true) a' w') a w)
 | .done,n,listed,a,w,hS,h=>⟨fun hB=>by
   simp only [treeB,Bool.and_eq_true,decide_eq_true_eq,List.isEmpty_iff]at hB
   exact wpAnyH_done hB.1 (hK _ _ h) _,fun _ _ _ i hi=>by cases hi⟩
 | .no,n,listed,a,w,hS,h=>⟨fun hB=>by simp [treeB]at hB,fun _ _ _ i hi=>by cases hi⟩
 | .take i t,n,listed,a,w,hS,h=>by
  refine⟨fun hB=>?_,fun _ _ _ i hi=>by cases hi⟩;simp only [treeB,Bool.and_eq_true,decide_eq_true_eq]at hB;obtain⟨⟨⟨h1,h2⟩,hn⟩,h3⟩:=hB;obtain⟨n,rfl⟩ : ∃n',n=n'+1:=⟨n-1,by omega⟩;have hmem:i ∈ Region.ready md (cutM ops mm) listed:=by simpa using h1
  have him:=qf9 hmem;obtain⟨o,ho⟩:=qcp hmem;have hoo:ops[i]? = some o:=by rw [←qbx him];exact ho
  have hll:=getD_of ((hl i).trans hoo);simp only [pickT,hll,qai]at h;obtain⟨v,hy,h⟩:=h
  have hy':YieldsIf P (cutM ops mm) S o v a:=by
   unfold YieldsIf at *;rw [qbi hg him hoo];exact hy
  exact wpAnyH_take ho hsel h2 h1 (fun c a w hh=>absurd hh (hQ _ _ _)) hy' hS ((qbt hl hsel hg hQ hK t n _ _ w hS h).1 h3)
 | .alt i t m,n,listed,a,w,hS,h=>by
  simp only [pickT,qai]at h;obtain⟨ha,hmr⟩:=h
  have key : ∀n',n=n'+1->treeB md (cutM ops mm) t true n' (listed.setIfInBounds i true)=true->i ∈ Region.ready md (cutM ops mm) listed->wpOp P (cutM ops mm) Qt i (fun a' w'=>S w'/\wpAnyH P md (cutM ops mm) Qt S n' (listed.setIfInBounds i true) a' w') a w:=by
   intro n' hn hB hmem;have him:=qf9 hmem;obtain⟨o,ho⟩:=qcp hmem;have hoo:ops[i]? = some o:=by rw [←qbx him];exact ho
   have hll:=getD_of ((hl i).trans hoo);rw [hll]at ha;unfold wpOp;simp only [ho,qbi hg him hoo];cases hwd:Region.wanted o (yielded ops a.tmps)with
   | false=>
    rw [hwd]at ha;simp only [Bool.false_eq_true,if_false]at ha ⊢;exact⟨ha.1,(qbt hl hsel hg hQ hK t n' _ _ w ha.1 ha.2).1 hB⟩
   | true=>
    rw [hwd]at ha;simp only [if_true]at ha ⊢;exact .inl (Oper.wp_mono (fun a' w' hh=>⟨hh.1,(qbt hl hsel hg hQ hK t n' _ _ w' hh.1 hh.2).1 hB⟩) ha)
  have more:=fun n' hn hB=>(qbt hl hsel hg hQ hK m n listed a w hS hmr).2 n' hn hB
  refine⟨fun hB=>?_,fun n' hn hB j hj hjr=>?_⟩
  ·simp only [treeB,Bool.and_eq_true,decide_eq_true_eq,Bool.not_true,Bool.false_or]at hB
   obtain⟨⟨⟨hr,hn⟩,h3⟩,h4⟩:=hB;obtain⟨n,rfl⟩ : ∃n',n=n'+1:=⟨n-1,by omega⟩;refine wpAnyH_all hr (by simp) fun j hj=>?_
   have hjr:j ∈ Region.ready md (cutM ops mm) listed:=by rw [hr];exact hj
   rcases List.mem_cons.1 hj with rfl|hj'
   ·exact key n rfl h3 hjr
   ·exact more n rfl h4 j hj' hjr
  ·simp only [treeB,Bool.and_eq_true,decide_eq_true_eq,Bool.not_false,Bool.true_or,true_and]at hB
   obtain⟨⟨hn0,h3⟩,h4⟩:=hB;subst hn;rcases List.mem_cons.1 hj with rfl|hj'
   ·exact key n' rfl h3 hjr
   ·exact more n' rfl h4 j hj' hjr
def regTB (md:Region.Mode) (ops:Array Oper) (t:OrdT Nat) (m:Nat):Bool:=
 Region.noSelect (cutM ops m) && qdl md ops m && decide (m<ops.size) && Region.sinkB md ops m && Region.chainB md ops m && Region.seqB md ops (ops.size-m) m (qed m ops.size) && treeB md (cutM ops m) t true m (Array.replicate m false)
theorem qhs {id:Nat} {w wd:World} {l:List Oper} (S:World->Prop) (t:OrdT Nat) (m:Nat) (hm:P.follows .mixedOrders=true) (hB:regTB .any l.toArray t m=true) (hwd:wd=w.drew) (hS:S wd)
  (h:qai P l.toArray S (qbk Q (wpList P l.toArray Q (l.drop m))) (fun a' w'=>wpList P l.toArray Q (l.drop m) a' w') (pickT l t) a wd):(Code.region id l.toArray true).wp P Q a w:=by
 subst hwd;simp only [regTB,Bool.and_eq_true,decide_eq_true_eq]at hB;obtain⟨⟨⟨⟨⟨⟨hsel,hg⟩,hml⟩,hs⟩,hc⟩,hseq⟩,hord⟩:=hB;have hml':m<l.length:=by simpa using hml
 have H:=wpAny_of_held _ _ _ _ ((qbt (md:=.any) (P:=P) (K:=fun a' w'=>wpList P l.toArray Q (l.drop m) a' w') (l:=l) (ops:=l.toArray) (mm:=m) (Qt:=qbk Q (wpList P l.toArray Q (l.drop m))) (fun j=>by simp) hsel hg (fun c a w hh=>hh) (fun a w hh=>hh) t m _ a w.drew hS h).1 hord)
 have tw0:TwinM m (Array.replicate l.toArray.size false) (Array.replicate m false) l.toArray:=by
  refine⟨by simp,by simp,fun i hi=>?_⟩;have q1:(Array.replicate l.toArray.size false).getD i true=false:=getD_in (by simp;omega) (getD_replicate_false _ _);have q2:(Array.replicate m false).getD i true=false:=getD_in (by simpa using hi) (getD_replicate_false _ _);rw [getD_replicate_false,getD_replicate_false];exact⟨by rw [q1,q2],rfl⟩
 have inv0:HeadInv .any l.toArray m (Array.replicate l.toArray.size false):=
  ⟨by simp,fun j oj _ hl=>(by rw [getD_replicate_false]at hl;cases hl),fun t _ ht=>getD_in (by simpa using ht) (getD_replicate_false _ _)⟩
 have hdl:(l.drop m).length=l.toArray.size-m:=by simp
 have H2:=qk3 (md:=.any) (l.drop m) (fun j=>by simp [List.getElem?_drop]) hg hml hs hc (by rw [hdl];exact hseq) _ _ _ a w.drew tw0 inv0 H;refine wp_region_any hm ?_;have hsum:m+(l.drop m).length=l.toArray.size:=by simp;omega
 rw [hsum]at H2;exact H2
theorem qao {id:Nat} {w wd:World} {l:List Oper} (S:World->Prop) (t:OrdT Nat) (m:Nat) (hm:P.follows .mixedOrders=true) (hB:regTB .any l.toArray t m=true) (hwd:wd=w.drew) (hS:S wd)
  (h : ∀a',a'=a->qai P l.toArray S (qbk Q (wpList P l.toArray Q (l.drop m))) (fun a' w'=>wpList P l.toArray Q (l.drop m) a' w') (pickT l t) a' wd):(Code.region id l.toArray true).wp P Q a w:=qhs S t m hm hB hwd hS (h a rfl)
theorem qbg {ρ:Operand->Value} {dst:Option Tmp} {f:FuncId} {xs:Array Operand} {ats:Array TypeId} {ty:TypeId} {pos:String} {after:Array Edge} {guard:Option (Nat × Bool)} (h:ρ (.func f)=.func (.func f) #[] #[]) :
  execOp ρ { dst:=dst,op:=.call { callee:=.value (.func f),args:=xs,argTypes:=ats },type:=ty,pos:=pos,after:=after,guard:=guard } = callFunc f (#[] ++ xs.map ρ ++ #[]):=by
 unfold execOp resolve;simp only [h];rfl
end
end
section
open Go.RowKit
section
variable {P : Program} {ops : Array Oper} {S : World → Prop} {Q : Exit → Act → World → Prop} {K : Act → World → Prop} {a : Act} {w : World} {o : Oper} {r m : OrdT Oper}
theorem qc7 {j:Nat} {b c:Bool} {t:Tmp} (hg:o.guard=some (j,b)) (hj:(ops[j]?).bind (·.dst)=some t) (hv:a.eval (.tmp t)=.bool c):Region.wanted o (yielded ops a.tmps)=(c == b):=by
 have h:a.tmps[t]? = some (.bool c):=by
  simp only [Act.eval]at hv;rw [Array.getD_eq_getD_getElem?]at hv;cases h:a.tmps[t]? with
  | none=>rw [h]at hv;simp [undef]at hv
  | some x=>rw [h]at hv;simpa using hv
 unfold Region.wanted yielded;rw [hg];simp only [hj,Option.bind_some,h];cases c <;> cases b <;> rfl
theorem qab {i:Tmp} {v:Value} {j:Nat} {b:Bool} {t:Tmp} (hd:o.dst=some i) (hg:o.guard=some (j,b)) (hj:(ops[j]?).bind (·.dst)=some t) (hv:a.eval (.tmp t)=.bool b) (hy : ∀ρ:Operand->Value,(∀x,ρ x=a.eval x)->∀W,S W->(execOp ρ o).run P W=.ok (.value v) W) (h:qai P ops S Q K r (a.put (some i) v) w):qai P ops S Q K (.take o r) a w:=
 qa1 hd (by rw [qc7 hg hj hv];simp) hy h
theorem qaa {i:Tmp} {j:Nat} {b c:Bool} {t:Tmp} (hd:o.dst=some i) (hg:o.guard=some (j,b)) (hj:(ops[j]?).bind (·.dst)=some t) (hv:a.eval (.tmp t)=.bool c) (hc:(c == b)=false) (h:qai P ops S Q K r (a.put (some i) undef) w):qai P ops S Q K (.take o r) a w:=
 qkn (by rw [qc7 hg hj hv];exact hc) (by rw [hd];exact h)
theorem qc3 {i:Tmp} {f:FuncId} {args:Array Value} {j:Nat} {b:Bool} {t:Tmp} (hd:o.dst=some i) (hg:o.guard=some (j,b)) (hj:(ops[j]?).bind (·.dst)=some t) (hv:a.eval (.tmp t)=.bool b) (hy : ∀ρ:Operand->Value,(∀x,ρ x=a.eval x)->(execOp ρ o).run P w=.ok (.enter f args) w) (h:Calls P f args w (fun e w' => ∃v,e=.returned v/\S w'/\qai P ops S Q K r (a.put (some i) v) w')) (hm:qai P ops S Q K m a w):qai P ops S Q K (.alt o r m) a w:=
 qih hd (by rw [qc7 hg hj hv];simp) hy h hm
theorem qhm {i:Tmp} {v:Value} {w':World} {j:Nat} {b:Bool} {t:Tmp} (hd:o.dst=some i) (hg:o.guard=some (j,b)) (hj:(ops[j]?).bind (·.dst)=some t) (hv:a.eval (.tmp t)=.bool b) (hy : ∀ρ:Operand->Value,(∀x,ρ x=a.eval x)->(execOp ρ o).run P w=.ok (.value v) w') (hS:S w') (h:qai P ops S Q K r (a.put (some i) v) w') (hm:qai P ops S Q K m a w):qai P ops S Q K (.alt o r m) a w:=
 qb8 hd (by rw [qc7 hg hj hv];simp) hy hS h hm
theorem tree_off {i:Tmp} (hd:o.dst=some i) (hw:Region.wanted o (yielded ops a.tmps)=false) (hS:S w) (h:qai P ops S Q K r (a.put (some i) undef) w) (hm:qai P ops S Q K m a w):qai P ops S Q K (.alt o r m) a w:=by
 refine⟨?_,hm⟩;rw [hw,hd];exact⟨hS,h⟩
theorem qc8 {i:Tmp} {j:Nat} {b c:Bool} {t:Tmp} (hd:o.dst=some i) (hg:o.guard=some (j,b)) (hj:(ops[j]?).bind (·.dst)=some t) (hv:a.eval (.tmp t)=.bool c) (hc:(c == b)=false) (hS:S w) (h:qai P ops S Q K r (a.put (some i) undef) w) (hm:qai P ops S Q K m a w):qai P ops S Q K (.alt o r m) a w:=
 tree_off hd (by rw [qc7 hg hj hv];exact hc) hS h hm
end
end
end Go.Proofs.YtgpjhibdongmbaaGreatDoor
