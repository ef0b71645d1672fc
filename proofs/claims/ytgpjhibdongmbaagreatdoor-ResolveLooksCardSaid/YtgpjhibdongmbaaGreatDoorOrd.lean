import Derived.Test.YtgpjhibdongmbaaGreatDoorTwo
import Derived.OrdersHeld
set_option maxRecDepth 100000
set_option maxHeartbeats 4000000
set_option linter.unusedVariables false
set_option linter.unusedSimpArgs false
namespace Go.Proofs.YtgpjhibdongmbaaGreatDoor
open Go.RowKit
def qba (Q:Exit->Act->World->Prop) (T:Act->World->Prop):Exit->Act->World->Prop
 | .normal,a,w=>T a w
 | .outgrown,a,w=>Q .outgrown a w
 | _,_,_=>False
def qc2 (l:List Oper):List (Nat × Bool)->List (Nat × Bool × Oper)
 | [] => []
 | (i,b) :: r=>match l[i]? with
  | some o=>(i,b,o) :: qc2 l r
  | none=>qc2 l r
def wpOrd (P:Program) (ops:Array Oper) (S:World->Prop) (Q:Exit->Act->World->Prop) (K:Act->World->Prop):List (Nat × Bool × Oper)->Act->World->Prop
 | [],a,w=>K a w
 | (_,true,o) :: r,a,w => ∃v,YieldsIf P ops S o v a/\wpOrd P ops S Q K r (a.put o.dst v) w
 | (_,false,o) :: r,a,w=>if Region.wanted o (yielded ops a.tmps)=true then Oper.wp P o a w (fun a' w'=>S w'/\wpOrd P ops S Q K r a' w') Q else S w/\wpOrd P ops S Q K r (a.put o.dst undef) w
section
variable {P : Program} {ops : Array Oper} {md : Region.Mode} {S : World → Prop} {Q : Exit → Act → World → Prop} {K : Act → World → Prop} {a : Act} {w : World} {i : Nat} {o : Oper} {r : List (Nat × Bool × Oper)}
theorem qap {v:Value} (hw:Region.wanted o (yielded ops a.tmps)=true) (hy : ∀W,S W->(execOp a.eval o).run P W=.ok (.value v) W) (h:wpOrd P ops S Q K r (a.put o.dst v) w):wpOrd P ops S Q K ((i,true,o) :: r) a w:=⟨v,.inl ⟨hw,hy⟩,h⟩
theorem qde (h : ∀K':Act->World->Prop,(∀a w,S w->wpOrd P ops S Q K r a w->K' a w)->if Region.wanted o (yielded ops a.tmps)=true then Oper.wp P o a w K' Q else K' (a.put o.dst undef) w):wpOrd P ops S Q K ((i,false,o) :: r) a w:=by
 have h1:=h (fun a' w'=>S w'/\wpOrd P ops S Q K r a' w') (fun _ _ h1 h2=>⟨h1,h2⟩);show(if _ then _ else _)
 exact h1
theorem ord_nil (h:K a w):wpOrd P ops S Q K [] a w:=h
def cutM (ops:Array Oper) (m:Nat):Array Oper:=ops.extract 0 m
theorem qbm {m i:Nat} (hi:i<m):(cutM ops m)[i]? = ops[i]?:=by
 unfold cutM;rw [Array.getElem?_extract];by_cases h:i<ops.size
 ·rw [if_pos (by omega),Nat.zero_add]
 ·rw [if_neg (by omega),Array.getElem?_eq_none (by omega)]
theorem qji {m i:Nat} (hi:m<=i):(cutM ops m)[i]? = none:=by
 unfold cutM;rw [Array.getElem?_extract,if_neg (by omega)]
def qd0 (md:Region.Mode) (ops:Array Oper) (m:Nat):Bool:=
 (List.range m).all fun i=>match ops[i]? with
  | some o=>(match o.guard with|some (j,_)=>decide (j<m)|none=>true) && o.after.all fun e => !Region.binds md e || decide (e.on<i)
  | none=>true
theorem qb7 {m i:Nat} {o:Oper} (hg:qd0 md ops m=true) (hi:i<m) (ho:ops[i]? = some o) (tmps:Array Value):Region.wanted o (yielded (cutM ops m) tmps)=Region.wanted o (yielded ops tmps):=by
 have h:=List.all_eq_true.1 hg i (List.mem_range.2 hi);rw [ho]at h;simp only [Bool.and_eq_true]at h;have h:=h.1;unfold Region.wanted;cases hgd:o.guard with
 | none=>rfl
 | some p=>
  obtain⟨j,b⟩:=p;rw [hgd]at h;simp only [decide_eq_true_eq]at h;have:yielded (cutM ops m) tmps j=yielded ops tmps j:=by unfold yielded;rw [qbm h]
  simp only [this]
theorem qcm {m i:Nat} {o:Oper} (hg:qd0 md ops m=true) (hi:i<m) (ho:ops[i]? = some o) (e:Edge) (he:e ∈ o.after) (hb:Region.binds md e=true):e.on<i:=by
 have h:=List.all_eq_true.1 hg i (List.mem_range.2 hi);rw [ho]at h;simp only [Bool.and_eq_true]at h;have:=Array.all_eq_true'.1 h.2 e he
 simpa [hb]using this
def TwinM (m:Nat) (l l':Array Bool) (ops:Array Oper):Prop:=
 l.size=ops.size/\l'.size=m/\∀i,i<m->l.getD i true=l'.getD i true/\l.getD i false=l'.getD i false
theorem qd3 {m:Nat} {l l':Array Bool} (hg:qd0 md ops m=true) (tw:TwinM m l l' ops) (i:Nat) (hi:i<m):i ∈ Region.ready md ops l ↔ i ∈ Region.ready md (cutM ops m) l':=by
 obtain⟨h1,h2,h3⟩:=tw;rw [mem_ready,mem_ready,qbm hi,(h3 i hi).1];constructor
 ·rintro ⟨g1,o,g2,g3⟩
  exact⟨g1,o,g2,fun e he hb=>by rw [←(h3 e.on (Nat.lt_trans (qcm hg hi g2 e he hb) hi)).2];exact g3 e he hb⟩
 ·rintro ⟨g1,o,g2,g3⟩
  exact⟨g1,o,g2,fun e he hb=>by rw [(h3 e.on (Nat.lt_trans (qcm hg hi g2 e he hb) hi)).2];exact g3 e he hb⟩
theorem qip {m i:Nat} {l l':Array Bool} (hm:m<ops.size) (tw:TwinM m l l' ops) (hi:i<m):TwinM m (l.setIfInBounds i true) (l'.setIfInBounds i true) ops:=by
 obtain⟨h1,h2,h3⟩:=tw;refine⟨by simpa using h1,by simpa using h2,fun j hj=>?_⟩;by_cases e:i=j
 ·subst e
  have hs:i<l.size:=by omega
  have hs':i<l'.size:=by omega
  simp [hs,hs']
 ·rw [getD_set_ne true e,getD_set_ne true e,getD_set_ne false e,getD_set_ne false e]
  exact h3 j hj
theorem qec {m i:Nat} {l':Array Bool} (h:i ∈ Region.ready md (cutM ops m) l'):i<m:=by
 obtain⟨_,o,ho,_⟩:=mem_ready.1 h;rcases Nat.lt_or_ge i m with h'|h'
 ·exact h'
 ·rw [qji h']at ho;cases ho
theorem all_done {m:Nat} {l':Array Bool} (hg:qd0 md ops m=true) (hm:m<ops.size) (hs:l'.size=m) (hr:Region.ready md (cutM ops m) l'=[]) : ∀i,i<m->l'.getD i true=true:=by
 intro i
 induction i using Nat.strongRecOn with
 | _ i ih=>
  intro hi;cases hun:l'.getD i true with
  | true=>rfl
  | false=>
   exfalso;have hio:i<ops.size:=by omega
   have hoi:ops[i]? = some ops[i]:=Array.getElem?_eq_getElem hio
   have:i ∈ Region.ready md (cutM ops m) l':=mem_ready.2 ⟨hun,ops[i],by rw [qbm hi];exact hoi,fun e he hb=>by
    have hlt:=qcm hg hi hoi e he hb;have h:=ih e.on hlt (by omega);have hsz:e.on<l'.size:=by omega
    simp [hsz]at h ⊢;exact h⟩
   rw [hr]at this;cases this
theorem qc0 {Q':Exit->Act->World->Prop} : ∀(l:List Oper) (x k:Nat) (listed:Array Bool) (a:Act) (w:World),(∀j,l[j]? = ops[k+j]?) →
  Region.seqB md ops l.length k listed=true->wpList P ops Q' l a w->wpAny P md ops Q' (x+l.length) listed a w
 | [],x,_,_,_,_,_,hB,h=>wpAny_done (by simpa [Region.seqB]using hB) h _
 | o :: l,x,k,listed,a,w,hl,hB,h=>by
  have h0:ops[k]? = some o:=by simpa using (hl 0).symm
  simp only [List.length_cons,Region.seqB,Bool.and_eq_true,decide_eq_true_eq]at hB;refine⟨fun h1=>(by rw [hB.1]at h1;cases h1),fun i hi=>?_⟩;rw [hB.1]at hi;have hik:i=k:=by simpa using hi
  subst hik;have hw:wpOp P ops Q' i (wpList P ops Q' l) a w:=by unfold wpOp;simp only [h0];exact h
  exact wpOp_mono (fun a' w' h'=>qc0 l x (i+1) _ a' w' (fun j=>by have:=hl (j+1);simpa [Nat.add_assoc,Nat.add_comm 1 j]using this) hB.2 h') hw
theorem qfl {T:Act->World->Prop} (h:LetsOut (qba Q T)):LetsOut Q:=by
 obtain⟨a,w,h⟩:=h;exact⟨a,w,h⟩
theorem wp_tail {T:Act->World->Prop} {K K':Act->World->Prop} (h : ∀a w,K a w->K' a w) (hh:o.wp P a w K (qba Q T)):o.wp P a w K' Q:=by
 unfold Oper.wp at *;generalize (execOp a.eval o).run P w=rr at *;cases rr with
 | ok n w'=>
  cases n <;> simp only [Oper.upon]at hh ⊢ <;>
   first
    | exact h _ _ hh
    | exact Calls.mono hh (fun e w'' he=>by cases e <;> first|exact h _ _ he|exact(he:False).elim|exact qfl he)
    | exact Rows.mono hh (fun _ _ he=>h _ _ he)
 | halt x w'=>cases x <;> simp only [Oper.upon]at hh ⊢ <;> exact(hh:False).elim
theorem qjh {m:Nat} {T:Act->World->Prop} {K K':Act->World->Prop} (hg:qd0 md ops m=true) (hi:i<m) (h : ∀a w,K a w->K' a w) (hh:wpOp P (cutM ops m) (qba Q T) i K a w):wpOp P ops Q i K' a w:=by
 unfold wpOp at *;rw [qbm hi]at hh;cases ho:ops[i]? with
 | none=>rw [ho]at hh;exact h _ _ hh
 | some o=>
  rw [ho]at hh;simp only [qb7 hg hi ho]at hh;cases hwd:Region.wanted o (yielded ops a.tmps)with
  | false=>rw [hwd]at hh;simp only [Bool.false_eq_true,if_false]at hh ⊢;simpa [hwd]using h _ _ hh
  | true=>
   rw [hwd]at hh;simp only [if_true]at hh;simp only [hwd,if_true];exact hh.imp (wp_tail h) (fun h=>⟨h.1,qfl h.2⟩)
theorem qib {m:Nat} (l:List Oper) (hl : ∀j:Nat,l[j]? = ops[m+j]?) (hg:qd0 md ops m=true) (hm:m<ops.size) (hs:Region.sinkB md ops m=true) (hc:Region.chainB md ops m=true) (hseq:Region.seqB md ops l.length m (qdl m ops.size)=true) :
  ∀(fuel:Nat) (listed listed':Array Bool) (a:Act) (w:World),TwinM m listed listed' ops->HeadInv md ops m listed →
   wpAny P md (cutM ops m) (qba Q (wpList P ops Q l)) fuel listed' a w->wpAny P md ops Q (fuel+l.length) listed a w:=by
 have fin : ∀(fuel:Nat) (listed listed':Array Bool) (a:Act) (w:World),TwinM m listed listed' ops->HeadInv md ops m listed->Region.ready md (cutM ops m) listed'=[]->wpList P ops Q l a w->wpAny P md ops Q (fuel+l.length) listed a w:=by
  intro fuel listed listed' a w tw inv hr h;have had:=all_done hg hm tw.2.1 hr
  have hl1:listed=qdl m ops.size:=by
   refine Array.ext (by rw [tw.1];unfold qdl;simp) fun i hi hi2=>?_
   have hio:i<ops.size:=by rw [←tw.1];exact hi
   have e1:listed.getD i true=listed[i]:=by simp [hi]
   have e2:(qdl m ops.size).getD i true=(qdl m ops.size)[i]:=by simp [hi2]
   rw [←e1, ←e2,qi4 _ _ _ _ hio];by_cases h:i<m
   ·rw [(tw.2.2 i h).1,had i h,decide_eq_true h]
   ·rw [inv.tail i (by omega) hio,decide_eq_false h]
  subst hl1;exact qc0 l fuel m _ a w hl hseq h
 intro fuel
 induction fuel with
 | zero=>intro listed listed' a w tw inv h;exact fin 0 listed listed' a w tw inv h.1 h.2
 | succ f ih=>
  intro listed listed' a w tw inv h;cases hr:Region.ready md (cutM ops m) listed' with
  | nil=>exact fin (f+1) listed listed' a w tw inv hr (h.1 hr)
  | cons i0 rs=>
   have h0:i0 ∈ Region.ready md (cutM ops m) listed':=by rw [hr];exact List.mem_cons_self
   have hi0:i0<m:=qec h0;have hun0:listed.getD i0 true=false:=by rw [(tw.2.2 i0 hi0).1];exact(mem_ready.1 h0).1
   rw [show f+1+l.length=(f+l.length)+1 by omega];refine⟨fun he=>?_,fun j hj=>?_⟩
   ·have:=(qd3 hg tw i0 hi0).2 h0
    rw [he]at this;cases this
   ·have hjm:j<m:=by
     rcases Nat.lt_or_ge j m with h'|h'
     ·exact h'
     ·exact absurd hj (tail_waits hs hc hm inv _ i0 rfl hi0 hun0 j h')
    have hj':=(qd3 hg tw j hjm).1 hj;exact qjh hg hjm (fun a' w' h'=>ih _ _ a' w' (qip hm tw hjm) (inv.set hj hjm) h') (h.2 j hj')
def ordB (md:Region.Mode) (ops:Array Oper):List (Nat × Bool)->Array Bool->Bool
 | [],listed=>(Region.ready md ops listed).isEmpty
 | (i,true) :: r,listed=>(Region.ready md ops listed).contains i && Region.free md ops listed i && ordB md ops r (listed.setIfInBounds i true)
 | (i,false) :: r,listed=>decide (Region.ready md ops listed=[i]) && ordB md ops r (listed.setIfInBounds i true)
theorem qc8 {listed:Array Bool} {j:Nat} (h:j ∈ Region.ready md ops listed) : ∃o,ops[j]? = some o:=by
 obtain⟨_,o,ho,_⟩:=mem_ready.1 h;exact⟨o,ho⟩
theorem qca {m:Nat} {l:List Oper} {Qt:Exit->Act->World->Prop} (hl : ∀j:Nat,l[j]? = ops[j]?) (hsel:Region.noSelect (cutM ops m)=true) (hg:qd0 md ops m=true) (hQ : ∀c a w, ¬ Qt (.panic c) a w) (hK : ∀a w,K a w->Qt .normal a w) :
  ∀(ord:List (Nat × Bool)) (listed:Array Bool) (a:Act) (w:World),ordB md (cutM ops m) ord listed=true->S w->wpOrd P ops S Qt K (qc2 l ord) a w->wpAnyH P md (cutM ops m) Qt S ord.length listed a w
 | [],listed,a,w,hB,hS,h=>wpAnyH_done (by simpa [ordB]using hB) (hK _ _ h) _
 | (i,true) :: r,listed,a,w,hB,hS,h=>by
  simp only [ordB,Bool.and_eq_true]at hB;obtain⟨⟨h1,h2⟩,h3⟩:=hB;have hmem:i ∈ Region.ready md (cutM ops m) listed:=by simpa using h1
  have him:=qec hmem;obtain⟨o,ho⟩:=qc8 hmem;have hoo:ops[i]? = some o:=by rw [←qbm him];exact ho
  have hll:l[i]? = some o:=(hl i).trans hoo;simp only [qc2,hll,wpOrd]at h;obtain⟨v,hy,h⟩:=h
  have hy':YieldsIf P (cutM ops m) S o v a:=by
   unfold YieldsIf at *;rw [qb7 hg him hoo];exact hy
  exact wpAnyH_take ho hsel h2 h1 (fun c a w hh=>absurd hh (hQ _ _ _)) hy' hS (qca hl hsel hg hQ hK r _ _ w h3 hS h)
 | (i,false) :: r,listed,a,w,hB,hS,h=>by
  simp only [ordB,Bool.and_eq_true,decide_eq_true_eq]at hB;obtain⟨h1,h3⟩:=hB;have hmem:i ∈ Region.ready md (cutM ops m) listed:=by rw [h1];exact List.mem_singleton.2 rfl
  have him:=qec hmem;obtain⟨o,ho⟩:=qc8 hmem;have hoo:ops[i]? = some o:=by rw [←qbm him];exact ho
  have hll:l[i]? = some o:=(hl i).trans hoo;simp only [qc2,hll,wpOrd]at h;refine wpAnyH_all h1 (by simp) fun j hj=>?_
  have hji:j=i:=by simpa using hj
  subst hji;unfold wpOp;simp only [ho,qb7 hg him hoo];cases hwd:Region.wanted o (yielded ops a.tmps)with
  | false=>
   rw [hwd]at h;simp only [Bool.false_eq_true,if_false]at h ⊢;exact⟨h.1,qca hl hsel hg hQ hK r _ _ w h3 h.1 h.2⟩
  | true=>
   rw [hwd]at h;simp only [if_true]at h ⊢;exact .inl (Oper.wp_mono (fun a' w' hh=>⟨hh.1,qca hl hsel hg hQ hK r _ _ w' h3 hh.1 hh.2⟩) h)
def regB (md:Region.Mode) (ops:Array Oper) (ord:List (Nat × Bool)) (m:Nat):Bool:=
 Region.noSelect (cutM ops m) && qd0 md ops m && decide (m<ops.size) && Region.sinkB md ops m && Region.chainB md ops m && Region.seqB md ops (ops.size-m) m (qdl m ops.size) && ordB md (cutM ops m) ord (Array.replicate m false) && decide (ord.length=m)
theorem qdx {id:Nat} {w wd:World} {l:List Oper} (S:World->Prop) (ord:List (Nat × Bool)) (m:Nat) (hm:P.follows .mixedOrders=true) (hB:regB .any l.toArray ord m=true) (hwd:wd=w.drew) (hS:S wd)
  (h:wpOrd P l.toArray S (qba Q (wpList P l.toArray Q (l.drop m))) (fun a' w'=>wpList P l.toArray Q (l.drop m) a' w') (qc2 l ord) a wd):(Code.region id l.toArray true).wp P Q a w:=by
 subst hwd;simp only [regB,Bool.and_eq_true,decide_eq_true_eq]at hB;obtain⟨⟨⟨⟨⟨⟨⟨hsel,hg⟩,hml⟩,hs⟩,hc⟩,hseq⟩,hord⟩,hlen⟩:=hB;have hml':m<l.length:=by simpa using hml
 have H:=wpAny_of_held _ _ _ _ (qca (md:=.any) (P:=P) (K:=fun a' w'=>wpList P l.toArray Q (l.drop m) a' w') (l:=l) (ops:=l.toArray) (m:=m) (Qt:=qba Q (wpList P l.toArray Q (l.drop m))) (fun j=>by simp) hsel hg (fun c a w hh=>hh) (fun a w hh=>hh) ord _ a w.drew hord hS h)
 have tw0:TwinM m (Array.replicate l.toArray.size false) (Array.replicate m false) l.toArray:=by
  refine⟨by simp,by simp,fun i hi=>?_⟩;have q1:(Array.replicate l.toArray.size false).getD i true=false:=getD_in (by simp;omega) (getD_replicate_false _ _);have q2:(Array.replicate m false).getD i true=false:=getD_in (by simpa using hi) (getD_replicate_false _ _);rw [getD_replicate_false,getD_replicate_false];exact⟨by rw [q1,q2],rfl⟩
 have inv0:HeadInv .any l.toArray m (Array.replicate l.toArray.size false):=
  ⟨by simp,fun j oj _ hl=>(by rw [getD_replicate_false]at hl;cases hl),fun t _ ht=>getD_in (by simpa using ht) (getD_replicate_false _ _)⟩
 have hdl:(l.drop m).length=l.toArray.size-m:=by simp
 have H2:=qib (md:=.any) (l.drop m) (fun j=>by simp [List.getElem?_drop]) hg hml hs hc (by rw [hdl];exact hseq) _ _ _ a w.drew tw0 inv0 H;refine wp_region_any hm ?_;have hsum:ord.length+(l.drop m).length=l.toArray.size:=by rw [hlen];simp;omega
 rw [hsum]at H2;exact H2
end
end Go.Proofs.YtgpjhibdongmbaaGreatDoor
