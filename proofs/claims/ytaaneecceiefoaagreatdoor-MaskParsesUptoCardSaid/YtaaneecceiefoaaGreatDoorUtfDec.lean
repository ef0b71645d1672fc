import Derived.Test.YtaaneecceiefoaaGreatDoorTwo
import Derived.OrdersHeld
import Derived.Laws.Strings
import Derived.Test.YtaaneecceiefoaaGreatDoorIdWord
import Derived.Maps.OwnSet
import Derived.Maps.Views
import Derived.StringKeys
import Derived.Laws.RangeAny
set_option maxRecDepth 100000
set_option maxHeartbeats 4000000
set_option linter.unusedVariables false
set_option linter.unusedSimpArgs false
namespace Go.Proofs.YtaaneecceiefoaaGreatDoor
section
open Go.RowKit
def qcr (Q:Exit->Act->World->Prop) (T:Act->World->Prop):Exit->Act->World->Prop
 | .normal,a,w=>T a w
 | .outgrown,a,w=>Q .outgrown a w
 | _,_,_=>False
def qe2 (l:List Oper):List (Nat × Bool)->List (Nat × Bool × Oper)
 | [] => []
 | (i,b) :: r=>match l[i]? with
  | some o=>(i,b,o) :: qe2 l r
  | none=>qe2 l r
def wpOrd (P:Program) (ops:Array Oper) (S:World->Prop) (Q:Exit->Act->World->Prop) (K:Act->World->Prop):List (Nat × Bool × Oper)->Act->World->Prop
 | [],a,w=>K a w
 | (_,true,o) :: r,a,w => ∃v,YieldsIf P ops S o v a/\wpOrd P ops S Q K r (a.put o.dst v) w
 | (_,false,o) :: r,a,w=>if Region.wanted o (yielded ops a.tmps)=true then Oper.wp P o a w (fun a' w'=>S w'/\wpOrd P ops S Q K r a' w') Q else S w/\wpOrd P ops S Q K r (a.put o.dst undef) w
section
variable {P : Program} {ops : Array Oper} {md : Region.Mode} {S : World → Prop} {Q : Exit → Act → World → Prop} {K : Act → World → Prop} {a : Act} {w : World} {i : Nat} {o : Oper} {r : List (Nat × Bool × Oper)}
theorem qaw {v:Value} (hw:Region.wanted o (yielded ops a.tmps)=true) (hy : ∀W,S W->(execOp a.eval o).run P W=.ok (.value v) W) (h:wpOrd P ops S Q K r (a.put o.dst v) w):wpOrd P ops S Q K ((i,true,o) :: r) a w:=⟨v,.inl ⟨hw,hy⟩,h⟩
theorem qee (h : ∀K':Act->World->Prop,(∀a w,S w->wpOrd P ops S Q K r a w->K' a w)->if Region.wanted o (yielded ops a.tmps)=true then Oper.wp P o a w K' Q else K' (a.put o.dst undef) w):wpOrd P ops S Q K ((i,false,o) :: r) a w:=by
 have h1:=h (fun a' w'=>S w'/\wpOrd P ops S Q K r a' w') (fun _ _ h1 h2=>⟨h1,h2⟩);show(if _ then _ else _)
 exact h1
theorem qn1 (h:K a w):wpOrd P ops S Q K [] a w:=h
def cutM (ops:Array Oper) (m:Nat):Array Oper:=ops.extract 0 m
theorem qd8 {m i:Nat} (hi:i<m):(cutM ops m)[i]? = ops[i]?:=by
 unfold cutM;rw [Array.getElem?_extract];by_cases h:i<ops.size
 ·rw [if_pos (by omega),Nat.zero_add]
 ·rw [if_neg (by omega),Array.getElem?_eq_none (by omega)]
theorem qpx {m i:Nat} (hi:m<=i):(cutM ops m)[i]? = none:=by
 unfold cutM;rw [Array.getElem?_extract,if_neg (by omega)]
def qgb (md:Region.Mode) (ops:Array Oper) (m:Nat):Bool:=
 (List.range m).all fun i=>match ops[i]? with
  | some o=>(match o.guard with|some (j,_)=>decide (j<m)|none=>true) && o.after.all fun e => !Region.binds md e || decide (e.on<i)
  | none=>true
theorem qcm {m i:Nat} {o:Oper} (hg:qgb md ops m=true) (hi:i<m) (ho:ops[i]? = some o) (tmps:Array Value):Region.wanted o (yielded (cutM ops m) tmps)=Region.wanted o (yielded ops tmps):=by
 have h:=List.all_eq_true.1 hg i (List.mem_range.2 hi);rw [ho]at h;simp only [Bool.and_eq_true]at h;have h:=h.1;unfold Region.wanted;cases hgd:o.guard with
 | none=>rfl
 | some p=>
  obtain⟨j,b⟩:=p;rw [hgd]at h;simp only [decide_eq_true_eq]at h;have:yielded (cutM ops m) tmps j=yielded ops tmps j:=by unfold yielded;rw [qd8 h]
  simp only [this]
theorem qfy {m i:Nat} {o:Oper} (hg:qgb md ops m=true) (hi:i<m) (ho:ops[i]? = some o) (e:Edge) (he:e ∈ o.after) (hb:Region.binds md e=true):e.on<i:=by
 have h:=List.all_eq_true.1 hg i (List.mem_range.2 hi);rw [ho]at h;simp only [Bool.and_eq_true]at h;have:=Array.all_eq_true'.1 h.2 e he
 simpa [hb]using this
def TwinM (m:Nat) (l l':Array Bool) (ops:Array Oper):Prop:=
 l.size=ops.size/\l'.size=m/\∀i,i<m->l.getD i true=l'.getD i true/\l.getD i false=l'.getD i false
theorem qgc {m:Nat} {l l':Array Bool} (hg:qgb md ops m=true) (tw:TwinM m l l' ops) (i:Nat) (hi:i<m):i ∈ Region.ready md ops l ↔ i ∈ Region.ready md (cutM ops m) l':=by
 obtain⟨h1,h2,h3⟩:=tw;rw [mem_ready,mem_ready,qd8 hi,(h3 i hi).1];constructor
 ·rintro ⟨g1,o,g2,g3⟩
  exact⟨g1,o,g2,fun e he hb=>by rw [←(h3 e.on (Nat.lt_trans (qfy hg hi g2 e he hb) hi)).2];exact g3 e he hb⟩
 ·rintro ⟨g1,o,g2,g3⟩
  exact⟨g1,o,g2,fun e he hb=>by rw [(h3 e.on (Nat.lt_trans (qfy hg hi g2 e he hb) hi)).2];exact g3 e he hb⟩
theorem qor {m i:Nat} {l l':Array Bool} (hm:m<ops.size) (tw:TwinM m l l' ops) (hi:i<m):TwinM m (l.setIfInBounds i true) (l'.setIfInBounds i true) ops:=by
 obtain⟨h1,h2,h3⟩:=tw;refine⟨by simpa using h1,by simpa using h2,fun j hj=>?_⟩;by_cases e:i=j
 ·subst e
  have hs:i<l.size:=by omega
  have hs':i<l'.size:=by omega
  simp [hs,hs']
 ·rw [getD_set_ne true e,getD_set_ne true e,getD_set_ne false e,getD_set_ne false e]
  exact h3 j hj
theorem qih {m i:Nat} {l':Array Bool} (h:i ∈ Region.ready md (cutM ops m) l'):i<m:=by
 obtain⟨_,o,ho,_⟩:=mem_ready.1 h;rcases Nat.lt_or_ge i m with h'|h'
 ·exact h'
 ·rw [qpx h']at ho;cases ho
theorem all_done {m:Nat} {l':Array Bool} (hg:qgb md ops m=true) (hm:m<ops.size) (hs:l'.size=m) (hr:Region.ready md (cutM ops m) l'=[]) : ∀i,i<m->l'.getD i true=true:=by
 intro i
 induction i using Nat.strongRecOn with
 | _ i ih=>
  intro hi;cases hun:l'.getD i true with
  | true=>rfl
  | false=>
   exfalso;have hio:i<ops.size:=by omega
   have hoi:ops[i]? = some ops[i]:=Array.getElem?_eq_getElem hio
   have:i ∈ Region.ready md (cutM ops m) l':=mem_ready.2 ⟨hun,ops[i],by rw [qd8 hi];exact hoi,fun e he hb=>by
    have hlt:=qfy hg hi hoi e he hb;have h:=ih e.on hlt (by omega);have hsz:e.on<l'.size:=by omega
    simp [hsz]at h ⊢;exact h⟩
   rw [hr]at this;cases this
theorem qej {Q':Exit->Act->World->Prop} : ∀(l:List Oper) (x k:Nat) (listed:Array Bool) (a:Act) (w:World),(∀j,l[j]? = ops[k+j]?) →
  Region.seqB md ops l.length k listed=true->wpList P ops Q' l a w->wpAny P md ops Q' (x+l.length) listed a w
 | [],x,_,_,_,_,_,hB,h=>wpAny_done (by simpa [Region.seqB]using hB) h _
 | o :: l,x,k,listed,a,w,hl,hB,h=>by
  have h0:ops[k]? = some o:=by simpa using (hl 0).symm
  simp only [List.length_cons,Region.seqB,Bool.and_eq_true,decide_eq_true_eq]at hB;refine⟨fun h1=>(by rw [hB.1]at h1;cases h1),fun i hi=>?_⟩;rw [hB.1]at hi;have hik:i=k:=by simpa using hi
  subst hik;have hw:wpOp P ops Q' i (wpList P ops Q' l) a w:=by unfold wpOp;simp only [h0];exact h
  exact wpOp_mono (fun a' w' h'=>qej l x (i+1) _ a' w' (fun j=>by have:=hl (j+1);simpa [Nat.add_assoc,Nat.add_comm 1 j]using this) hB.2 h') hw
theorem qk9 {T:Act->World->Prop} (h:LetsOut (qcr Q T)):LetsOut Q:=by
 obtain⟨a,w,h⟩:=h;exact⟨a,w,h⟩
theorem wp_tail {T:Act->World->Prop} {K K':Act->World->Prop} (h : ∀a w,K a w->K' a w) (hh:o.wp P a w K (qcr Q T)):o.wp P a w K' Q:=by
 unfold Oper.wp at *;generalize (execOp a.eval o).run P w=rr at *;cases rr with
 | ok n w'=>
  cases n <;> simp only [Oper.upon]at hh ⊢ <;>
   first
    | exact h _ _ hh
    | exact Calls.mono hh (fun e w'' he=>by cases e <;> first|exact h _ _ he|exact(he:False).elim|exact qk9 he)
    | exact Rows.mono hh (fun _ _ he=>h _ _ he)
 | halt x w'=>cases x <;> simp only [Oper.upon]at hh ⊢ <;> exact(hh:False).elim
theorem qpw {m:Nat} {T:Act->World->Prop} {K K':Act->World->Prop} (hg:qgb md ops m=true) (hi:i<m) (h : ∀a w,K a w->K' a w) (hh:wpOp P (cutM ops m) (qcr Q T) i K a w):wpOp P ops Q i K' a w:=by
 unfold wpOp at *;rw [qd8 hi]at hh;cases ho:ops[i]? with
 | none=>rw [ho]at hh;exact h _ _ hh
 | some o=>
  rw [ho]at hh;simp only [qcm hg hi ho]at hh;cases hwd:Region.wanted o (yielded ops a.tmps)with
  | false=>rw [hwd]at hh;simp only [Bool.false_eq_true,if_false]at hh ⊢;simpa [hwd]using h _ _ hh
  | true=>
   rw [hwd]at hh;simp only [if_true]at hh;simp only [hwd,if_true];exact hh.imp (wp_tail h) (fun h=>⟨h.1,qk9 h.2⟩)
theorem qo2 {m:Nat} (l:List Oper) (hl : ∀j:Nat,l[j]? = ops[m+j]?) (hg:qgb md ops m=true) (hm:m<ops.size) (hs:Region.sinkB md ops m=true) (hc:Region.chainB md ops m=true) (hseq:Region.seqB md ops l.length m (qh9 m ops.size)=true) :
  ∀(fuel:Nat) (listed listed':Array Bool) (a:Act) (w:World),TwinM m listed listed' ops->HeadInv md ops m listed →
   wpAny P md (cutM ops m) (qcr Q (wpList P ops Q l)) fuel listed' a w->wpAny P md ops Q (fuel+l.length) listed a w:=by
 have fin : ∀(fuel:Nat) (listed listed':Array Bool) (a:Act) (w:World),TwinM m listed listed' ops->HeadInv md ops m listed->Region.ready md (cutM ops m) listed'=[]->wpList P ops Q l a w->wpAny P md ops Q (fuel+l.length) listed a w:=by
  intro fuel listed listed' a w tw inv hr h;have had:=all_done hg hm tw.2.1 hr
  have hl1:listed=qh9 m ops.size:=by
   refine Array.ext (by rw [tw.1];unfold qh9;simp) fun i hi hi2=>?_
   have hio:i<ops.size:=by rw [←tw.1];exact hi
   have e1:listed.getD i true=listed[i]:=by simp [hi]
   have e2:(qh9 m ops.size).getD i true=(qh9 m ops.size)[i]:=by simp [hi2]
   rw [←e1, ←e2,qnr _ _ _ _ hio];by_cases h:i<m
   ·rw [(tw.2.2 i h).1,had i h,decide_eq_true h]
   ·rw [inv.tail i (by omega) hio,decide_eq_false h]
  subst hl1;exact qej l fuel m _ a w hl hseq h
 intro fuel
 induction fuel with
 | zero=>intro listed listed' a w tw inv h;exact fin 0 listed listed' a w tw inv h.1 h.2
 | succ f ih=>
  intro listed listed' a w tw inv h;cases hr:Region.ready md (cutM ops m) listed' with
  | nil=>exact fin (f+1) listed listed' a w tw inv hr (h.1 hr)
  | cons i0 rs=>
   have h0:i0 ∈ Region.ready md (cutM ops m) listed':=by rw [hr];exact List.mem_cons_self
   have hi0:i0<m:=qih h0;have hun0:listed.getD i0 true=false:=by rw [(tw.2.2 i0 hi0).1];exact(mem_ready.1 h0).1
   rw [show f+1+l.length=(f+l.length)+1 by omega];refine⟨fun he=>?_,fun j hj=>?_⟩
   ·have:=(qgc hg tw i0 hi0).2 h0
    rw [he]at this;cases this
   ·have hjm:j<m:=by
     rcases Nat.lt_or_ge j m with h'|h'
     ·exact h'
     ·exact absurd hj (tail_waits hs hc hm inv _ i0 rfl hi0 hun0 j h')
    have hj':=(qgc hg tw j hjm).1 hj;exact qpw hg hjm (fun a' w' h'=>ih _ _ a' w' (qor hm tw hjm) (inv.set hj hjm) h') (h.2 j hj')
def ordB (md:Region.Mode) (ops:Array Oper):List (Nat × Bool)->Array Bool->Bool
 | [],listed=>(Region.ready md ops listed).isEmpty
 | (i,true) :: r,listed=>(Region.ready md ops listed).contains i && Region.free md ops listed i && ordB md ops r (listed.setIfInBounds i true)
 | (i,false) :: r,listed=>decide (Region.ready md ops listed=[i]) && ordB md ops r (listed.setIfInBounds i true)
theorem qf6 {listed:Array Bool} {j:Nat} (h:j ∈ Region.ready md ops listed) : ∃o,ops[j]? = some o:=by
 obtain⟨_,o,ho,_⟩:=mem_ready.1 h;exact⟨o,ho⟩
theorem qf8 {m:Nat} {l:List Oper} {Qt:Exit->Act->World->Prop} (hl : ∀j:Nat,l[j]? = ops[j]?) (hsel:Region.noSelect (cutM ops m)=true) (hg:qgb md ops m=true) (hQ : ∀c a w, ¬ Qt (.panic c) a w) (hK : ∀a w,K a w->Qt .normal a w) :
  ∀(ord:List (Nat × Bool)) (listed:Array Bool) (a:Act) (w:World),ordB md (cutM ops m) ord listed=true->S w->wpOrd P ops S Qt K (qe2 l ord) a w->wpAnyH P md (cutM ops m) Qt S ord.length listed a w
 | [],listed,a,w,hB,hS,h=>wpAnyH_done (by simpa [ordB]using hB) (hK _ _ h) _
 | (i,true) :: r,listed,a,w,hB,hS,h=>by
  simp only [ordB,Bool.and_eq_true]at hB;obtain⟨⟨h1,h2⟩,h3⟩:=hB;have hmem:i ∈ Region.ready md (cutM ops m) listed:=by simpa using h1
  have him:=qih hmem;obtain⟨o,ho⟩:=qf6 hmem;have hoo:ops[i]? = some o:=by rw [←qd8 him];exact ho
  have hll:l[i]? = some o:=(hl i).trans hoo;simp only [qe2,hll,wpOrd]at h;obtain⟨v,hy,h⟩:=h
  have hy':YieldsIf P (cutM ops m) S o v a:=by
   unfold YieldsIf at *;rw [qcm hg him hoo];exact hy
  exact wpAnyH_take ho hsel h2 h1 (fun c a w hh=>absurd hh (hQ _ _ _)) hy' hS (qf8 hl hsel hg hQ hK r _ _ w h3 hS h)
 | (i,false) :: r,listed,a,w,hB,hS,h=>by
  simp only [ordB,Bool.and_eq_true,decide_eq_true_eq]at hB;obtain⟨h1,h3⟩:=hB;have hmem:i ∈ Region.ready md (cutM ops m) listed:=by rw [h1];exact List.mem_singleton.2 rfl
  have him:=qih hmem;obtain⟨o,ho⟩:=qf6 hmem;have hoo:ops[i]? = some o:=by rw [←qd8 him];exact ho
  have hll:l[i]? = some o:=(hl i).trans hoo;simp only [qe2,hll,wpOrd]at h;refine wpAnyH_all h1 (by simp) fun j hj=>?_
  have hji:j=i:=by simpa using hj
  subst hji;unfold wpOp;simp only [ho,qcm hg him hoo];cases hwd:Region.wanted o (yielded ops a.tmps)with
  | false=>
   rw [hwd]at h;simp only [Bool.false_eq_true,if_false]at h ⊢;exact⟨h.1,qf8 hl hsel hg hQ hK r _ _ w h3 h.1 h.2⟩
  | true=>
   rw [hwd]at h;simp only [if_true]at h ⊢;exact .inl (Oper.wp_mono (fun a' w' hh=>⟨hh.1,qf8 hl hsel hg hQ hK r _ _ w' h3 hh.1 hh.2⟩) h)
def regB (md:Region.Mode) (ops:Array Oper) (ord:List (Nat × Bool)) (m:Nat):Bool:=
 Region.noSelect (cutM ops m) && qgb md ops m && decide (m<ops.size) && Region.sinkB md ops m && Region.chainB md ops m && Region.seqB md ops (ops.size-m) m (qh9 m ops.size) && ordB md (cutM ops m) ord (Array.replicate m false) && decide (ord.length=m)
theorem qfk {id:Nat} {w wd:World} {l:List Oper} (S:World->Prop) (ord:List (Nat × Bool)) (m:Nat) (hm:P.follows .mixedOrders=true) (hB:regB .any l.toArray ord m=true) (hwd:wd=w.drew) (hS:S wd)
  (h:wpOrd P l.toArray S (qcr Q (wpList P l.toArray Q (l.drop m))) (fun a' w'=>wpList P l.toArray Q (l.drop m) a' w') (qe2 l ord) a wd):(Code.region id l.toArray true).wp P Q a w:=by
 subst hwd;simp only [regB,Bool.and_eq_true,decide_eq_true_eq]at hB;obtain⟨⟨⟨⟨⟨⟨⟨hsel,hg⟩,hml⟩,hs⟩,hc⟩,hseq⟩,hord⟩,hlen⟩:=hB;have hml':m<l.length:=by simpa using hml
 have H:=wpAny_of_held _ _ _ _ (qf8 (md:=.any) (P:=P) (K:=fun a' w'=>wpList P l.toArray Q (l.drop m) a' w') (l:=l) (ops:=l.toArray) (m:=m) (Qt:=qcr Q (wpList P l.toArray Q (l.drop m))) (fun j=>by simp) hsel hg (fun c a w hh=>hh) (fun a w hh=>hh) ord _ a w.drew hord hS h)
 have tw0:TwinM m (Array.replicate l.toArray.size false) (Array.replicate m false) l.toArray:=by
  refine⟨by simp,by simp,fun i hi=>?_⟩;have q1:(Array.replicate l.toArray.size false).getD i true=false:=getD_in (by simp;omega) (getD_replicate_false _ _);have q2:(Array.replicate m false).getD i true=false:=getD_in (by simpa using hi) (getD_replicate_false _ _);rw [getD_replicate_false,getD_replicate_false];exact⟨by rw [q1,q2],rfl⟩
 have inv0:HeadInv .any l.toArray m (Array.replicate l.toArray.size false):=
  ⟨by simp,fun j oj _ hl=>(by rw [getD_replicate_false]at hl;cases hl),fun t _ ht=>getD_in (by simpa using ht) (getD_replicate_false _ _)⟩
 have hdl:(l.drop m).length=l.toArray.size-m:=by simp
 have H2:=qo2 (md:=.any) (l.drop m) (fun j=>by simp [List.getElem?_drop]) hg hml hs hc (by rw [hdl];exact hseq) _ _ _ a w.drew tw0 inv0 H;refine wp_region_any hm ?_;have hsum:ord.length+(l.drop m).length=l.toArray.size:=by rw [hlen];simp;omega
 rw [hsum]at H2;exact H2
end
end
section
open Go.RowKit
inductive OrdT (α:Type)where
 | done
 | take (x:α) (t:OrdT α)
 | alt (x:α) (t:OrdT α) (more:OrdT α)
 | no
def OrdT.alts {α:Type}:OrdT α->List α
 | .alt x _ m=>x :: m.alts
 | _ => []
def OrdT.depth {α:Type}:OrdT α->Nat
 | .take _ t=>t.depth+1
 | .alt _ t _=>t.depth+1
 | _=>0
def pickT (l:List Oper):OrdT Nat->OrdT Oper
 | .done=>.done
 | .take i t=>.take (l.getD i default) (pickT l t)
 | .alt i t m=>.alt (l.getD i default) (pickT l t) (pickT l m)
 | .no=>.no
def qb3 (P:Program) (ops:Array Oper) (S:World->Prop) (Q:Exit->Act->World->Prop) (K:Act->World->Prop):OrdT Oper->Act->World->Prop
 | .done,a,w=>K a w
 | .take o r,a,w => ∃v,YieldsIf P ops S o v a/\qb3 P ops S Q K r (a.put o.dst v) w
 | .alt o r m,a,w=>(if Region.wanted o (yielded ops a.tmps)=true then Oper.wp P o a w (fun a' w'=>S w'/\qb3 P ops S Q K r a' w') Q else S w/\qb3 P ops S Q K r (a.put o.dst undef) w)/\qb3 P ops S Q K m a w
 | .no,_,_=>True
section
variable {P : Program} {ops : Array Oper} {md : Region.Mode} {S : World → Prop} {Q : Exit → Act → World → Prop} {K : Act → World → Prop} {a : Act} {w : World} {o : Oper} {r m : OrdT Oper}
theorem set_s {α:Type} (x:α) (l:List α) (i:Nat) (v:α):(x :: l).set (i+1) v=x :: l.set i v:=by
 simp [List.set]
theorem set_z {α:Type} (x:α) (l:List α) (v:α):(x :: l).set 0 v=v :: l:=by
 simp [List.set]
theorem ev_eq {a:Act} {i:Nat} {v:Value} (h:i<a.tmps.size):(a.put (some i) v).eval (.tmp i)=v:=by
 simp [Act.eval,Act.put,h]
theorem ev_ne {a:Act} {i j:Nat} {v:Value} (h:i ≠ j):(a.put (some i) v).eval (.tmp j)=a.eval (.tmp j):=by
 simp [Act.eval,Act.put,Array.getElem?_setIfInBounds_ne h]
theorem qa2 {a:Act} {i:Nat} {v:Value}:(a.put (some i) v).tmps.size=a.tmps.size:=by
 simp [Act.put]
theorem qa1 {i:Tmp} {v:Value} (hd:o.dst=some i) (hw:Region.wanted o (yielded ops a.tmps)=true) (hy : ∀ρ:Operand->Value,(∀x,ρ x=a.eval x)->∀W,S W->(execOp ρ o).run P W=.ok (.value v) W) (h:qb3 P ops S Q K r (a.put (some i) v) w):qb3 P ops S Q K (.take o r) a w:=
 ⟨v,.inl ⟨hw,hy _ (fun _=>rfl)⟩,by rw [hd];exact h⟩
theorem qda {i:Tmp} {v:Value} {w':World} (hd:o.dst=some i) (hw:Region.wanted o (yielded ops a.tmps)=true) (hy : ∀ρ:Operand->Value,(∀x,ρ x=a.eval x)->(execOp ρ o).run P w=.ok (.value v) w') (hS:S w') (h:qb3 P ops S Q K r (a.put (some i) v) w') (hm:qb3 P ops S Q K m a w):qb3 P ops S Q K (.alt o r m) a w:=by
 refine⟨?_,hm⟩;rw [if_pos hw];unfold Oper.wp;rw [hy _ (fun _=>rfl),Oper.upon_value,hd];exact⟨hS,h⟩
theorem qam {i:Tmp} {f:FuncId} {args:Array Value} (hd:o.dst=some i) (hw:Region.wanted o (yielded ops a.tmps)=true) (hy : ∀ρ:Operand->Value,(∀x,ρ x=a.eval x)->(execOp ρ o).run P w=.ok (.enter f args) w) (h:Calls P f args w (fun e w' => ∃v,e=.returned v/\S w'/\qb3 P ops S Q K r (a.put (some i) v) w')) (hm:qb3 P ops S Q K m a w):qb3 P ops S Q K (.alt o r m) a w:=by
 refine⟨?_,hm⟩;rw [if_pos hw];unfold Oper.wp;rw [hy _ (fun _=>rfl),Oper.upon_enter,hd];refine h.mono fun e w' he=>?_
 obtain⟨v,rfl,h1,h2⟩:=he;exact⟨h1,h2⟩
theorem qap:qb3 P ops S Q K .no a w:=trivial
theorem qav (l:List Value) (d:List Deferred) (i:Tmp) (v:Value):Act.put ⟨l.toArray,d⟩ (some i) v=⟨(l.set i v).toArray,d⟩:=by
 simp [Act.put]
theorem qos (hw:Region.wanted o (yielded ops a.tmps)=false) (h:qb3 P ops S Q K r (a.put o.dst undef) w):qb3 P ops S Q K (.take o r) a w:=⟨undef,.inr ⟨hw,rfl⟩,h⟩
theorem qao (h:K a w):qb3 P ops S Q K .done a w:=h
def treeB (md:Region.Mode) (ops:Array Oper):OrdT Nat->Bool->Nat->Array Bool->Bool
 | .done,_,n,listed=>(Region.ready md ops listed).isEmpty && decide (n=0)
 | .take i t,_,n,listed=>(Region.ready md ops listed).contains i && Region.free md ops listed i && decide (0<n) && treeB md ops t true (n-1) (listed.setIfInBounds i true)
 | .alt i t m,first,n,listed=>(!first || decide (Region.ready md ops listed=i :: m.alts)) && decide (0<n) && treeB md ops t true (n-1) (listed.setIfInBounds i true) && treeB md ops m false n listed
 | .no,first,_,_ => !first
theorem getD_of {l:List Oper} {i:Nat} {o:Oper} (h:l[i]? = some o):l.getD i default=o:=by
 rw [List.getD_eq_getElem?_getD,h];rfl
theorem qcx {mm:Nat} {l:List Oper} {Qt:Exit->Act->World->Prop} (hl : ∀j:Nat,l[j]? = ops[j]?) (hsel:Region.noSelect (cutM ops mm)=true) (hg:qgb md ops mm=true) (hQ : ∀c a w, ¬ Qt (.panic c) a w) (hK : ∀a w,K a w->Qt .normal a w) :
  ∀(t:OrdT Nat) (n:Nat) (listed:Array Bool) (a:Act) (w:World),S w->qb3 P ops S Qt K (pickT l t) a w →
   (treeB md (cutM ops mm) t true n listed=true->wpAnyH P md (cutM ops mm) Qt S n listed a w) ∧
   (∀n',n=n'+1->treeB md (cutM ops mm) t false n listed=true->∀i ∈ t.alts,i ∈ Region.ready md (cutM ops mm) listed->wpOp P (cutM ops mm) Qt i (fun a' w'=>S w'/\wpAnyH P md (cutM ops mm) Qt S n' (listed.setIfInBounds i true) a' w') a w)
 | .done,n,listed,a,w,hS,h=>⟨fun hB=>by
   simp only [treeB,Bool.and_eq_true,decide_eq_true_eq,List.isEmpty_iff]at hB
   exact wpAnyH_done hB.1 (hK _ _ h) _,fun _ _ _ i hi=>by cases hi⟩
 | .no,n,listed,a,w,hS,h=>⟨fun hB=>by simp [treeB]at hB,fun _ _ _ i hi=>by cases hi⟩
 | .take i t,n,listed,a,w,hS,h=>by
  refine⟨fun hB=>?_,fun _ _ _ i hi=>by cases hi⟩;simp only [treeB,Bool.and_eq_true,decide_eq_true_eq]at hB;obtain⟨⟨⟨h1,h2⟩,hn⟩,h3⟩:=hB;obtain⟨n,rfl⟩ : ∃n',n=n'+1:=⟨n-1,by omega⟩;have hmem:i ∈ Region.ready md (cutM ops mm) listed:=by simpa using h1
  have him:=qih hmem;obtain⟨o,ho⟩:=qf6 hmem;have hoo:ops[i]? = some o:=by rw [←qd8 him];exact ho
  have hll:=getD_of ((hl i).trans hoo);simp only [pickT,hll,qb3]at h;obtain⟨v,hy,h⟩:=h
  have hy':YieldsIf P (cutM ops mm) S o v a:=by
   unfold YieldsIf at *;rw [qcm hg him hoo];exact hy
  exact wpAnyH_take ho hsel h2 h1 (fun c a w hh=>absurd hh (hQ _ _ _)) hy' hS ((qcx hl hsel hg hQ hK t n _ _ w hS h).1 h3)
 | .alt i t m,n,listed,a,w,hS,h=>by
  simp only [pickT,qb3]at h;obtain⟨ha,hmr⟩:=h
  have key : ∀n',n=n'+1->treeB md (cutM ops mm) t true n' (listed.setIfInBounds i true)=true->i ∈ Region.ready md (cutM ops mm) listed->wpOp P (cutM ops mm) Qt i (fun a' w'=>S w'/\wpAnyH P md (cutM ops mm) Qt S n' (listed.setIfInBounds i true) a' w') a w:=by
   intro n' hn hB hmem;have him:=qih hmem;obtain⟨o,ho⟩:=qf6 hmem;have hoo:ops[i]? = some o:=by rw [←qd8 him];exact ho
   have hll:=getD_of ((hl i).trans hoo);rw [hll]at ha;unfold wpOp;simp only [ho,qcm hg him hoo];cases hwd:Region.wanted o (yielded ops a.tmps)with
   | false=>
    rw [hwd]at ha;simp only [Bool.false_eq_true,if_false]at ha ⊢;exact⟨ha.1,(qcx hl hsel hg hQ hK t n' _ _ w ha.1 ha.2).1 hB⟩
   | true=>
    rw [hwd]at ha;simp only [if_true]at ha ⊢;exact .inl (Oper.wp_mono (fun a' w' hh=>⟨hh.1,(qcx hl hsel hg hQ hK t n' _ _ w' hh.1 hh.2).1 hB⟩) ha)
  have more:=fun n' hn hB=>(qcx hl hsel hg hQ hK m n listed a w hS hmr).2 n' hn hB
  refine⟨fun hB=>?_,fun n' hn hB j hj hjr=>?_⟩
  ·simp only [treeB,Bool.and_eq_true,decide_eq_true_eq,Bool.not_true,Bool.false_or]at hB
   obtain⟨⟨⟨hr,hn⟩,h3⟩,h4⟩:=hB;obtain⟨n,rfl⟩ : ∃n',n=n'+1:=⟨n-1,by omega⟩;refine wpAnyH_all hr (by simp) fun j hj=>?_
   have hjr:j ∈ Region.ready md (cutM ops mm) listed:=by rw [hr];exact hj
   rcases List.mem_cons.1 hj with rfl|hj'
   ·exact key n rfl h3 hjr
   ·exact more n rfl h4 j hj' hjr
  ·simp only [treeB,Bool.and_eq_true,decide_eq_true_eq,Bool.not_false,Bool.true_or,true_and]at hB
   obtain⟨⟨hn0,h3⟩,h4⟩:=hB;subst hn;rcases List.mem_cons.1 hj with rfl|hj'
   ·exact key n' rfl h3 hjr
   ·exact more n' rfl h4 j hj' hjr
def regTB (md:Region.Mode) (ops:Array Oper) (t:OrdT Nat) (m:Nat):Bool:=
 Region.noSelect (cutM ops m) && qgb md ops m && decide (m<ops.size) && Region.sinkB md ops m && Region.chainB md ops m && Region.seqB md ops (ops.size-m) m (qh9 m ops.size) && treeB md (cutM ops m) t true m (Array.replicate m false)
theorem qky {id:Nat} {w wd:World} {l:List Oper} (S:World->Prop) (t:OrdT Nat) (m:Nat) (hm:P.follows .mixedOrders=true) (hB:regTB .any l.toArray t m=true) (hwd:wd=w.drew) (hS:S wd)
  (h:qb3 P l.toArray S (qcr Q (wpList P l.toArray Q (l.drop m))) (fun a' w'=>wpList P l.toArray Q (l.drop m) a' w') (pickT l t) a wd):(Code.region id l.toArray true).wp P Q a w:=by
 subst hwd;simp only [regTB,Bool.and_eq_true,decide_eq_true_eq]at hB;obtain⟨⟨⟨⟨⟨⟨hsel,hg⟩,hml⟩,hs⟩,hc⟩,hseq⟩,hord⟩:=hB;have hml':m<l.length:=by simpa using hml
 have H:=wpAny_of_held _ _ _ _ ((qcx (md:=.any) (P:=P) (K:=fun a' w'=>wpList P l.toArray Q (l.drop m) a' w') (l:=l) (ops:=l.toArray) (mm:=m) (Qt:=qcr Q (wpList P l.toArray Q (l.drop m))) (fun j=>by simp) hsel hg (fun c a w hh=>hh) (fun a w hh=>hh) t m _ a w.drew hS h).1 hord)
 have tw0:TwinM m (Array.replicate l.toArray.size false) (Array.replicate m false) l.toArray:=by
  refine⟨by simp,by simp,fun i hi=>?_⟩;have q1:(Array.replicate l.toArray.size false).getD i true=false:=getD_in (by simp;omega) (getD_replicate_false _ _);have q2:(Array.replicate m false).getD i true=false:=getD_in (by simpa using hi) (getD_replicate_false _ _);rw [getD_replicate_false,getD_replicate_false];exact⟨by rw [q1,q2],rfl⟩
 have inv0:HeadInv .any l.toArray m (Array.replicate l.toArray.size false):=
  ⟨by simp,fun j oj _ hl=>(by rw [getD_replicate_false]at hl;cases hl),fun t _ ht=>getD_in (by simpa using ht) (getD_replicate_false _ _)⟩
 have hdl:(l.drop m).length=l.toArray.size-m:=by simp
 have H2:=qo2 (md:=.any) (l.drop m) (fun j=>by simp [List.getElem?_drop]) hg hml hs hc (by rw [hdl];exact hseq) _ _ _ a w.drew tw0 inv0 H;refine wp_region_any hm ?_;have hsum:m+(l.drop m).length=l.toArray.size:=by simp;omega
 rw [hsum]at H2;exact H2
theorem qac {id:Nat} {w wd:World} {l:List Oper} (S:World->Prop) (t:OrdT Nat) (m:Nat) (hm:P.follows .mixedOrders=true) (hB:regTB .any l.toArray t m=true) (hwd:wd=w.drew) (hS:S wd)
  (h : ∀a',a'=a->qb3 P l.toArray S (qcr Q (wpList P l.toArray Q (l.drop m))) (fun a' w'=>wpList P l.toArray Q (l.drop m) a' w') (pickT l t) a' wd):(Code.region id l.toArray true).wp P Q a w:=qky S t m hm hB hwd hS (h a rfl)
theorem qa9 {ρ:Operand->Value} {dst:Option Tmp} {f:FuncId} {xs:Array Operand} {ats:Array TypeId} {ty:TypeId} {pos:String} {after:Array Edge} {guard:Option (Nat × Bool)} (h:ρ (.func f)=.func (.func f) #[] #[]) :
  execOp ρ { dst:=dst,op:=.call { callee:=.value (.func f),args:=xs,argTypes:=ats },type:=ty,pos:=pos,after:=after,guard:=guard } = callFunc f (#[] ++ xs.map ρ ++ #[]):=by
 unfold execOp resolve;simp only [h];rfl
end
end
section
open Go.RowKit Ck
theorem qg6 : ∀a b:List UInt8,Op.bytesLess a b=decide (a<b)
 | [],[]=>by simp [Op.bytesLess]
 | [],b :: l=>by simp [Op.bytesLess]
 | a :: l,[]=>by simp [Op.bytesLess]
 | a :: l,b :: m=>by
  have ih:=qg6 l m;unfold Op.bytesLess;simp only [List.cons_lt_cons_iff,ih];by_cases h1:a<b
  ·simp [h1]
  ·by_cases h2:a=b
   ·subst h2;simp [h1]
   ·simp [h1,h2]
theorem qng (a b:Str):Op.bytesLess (S a).toList (S b).toList=ltS a b:=by
 rw [ByteArray.toList_eq,ByteArray.toList_eq];exact qg6 a b
theorem eq_S (a b:Str):((S a).toList == (S b).toList)=decide (a=b):=by
 rw [ByteArray.toList_eq,ByteArray.toList_eq,qbi,qbi,Bool.eq_iff_iff];simp
theorem qif (a:Str) (h:a=[]):(S a).toList=[]:=by subst h;rw [ByteArray.toList_eq];rfl
theorem qd0 (a:Str) (h:a ≠ []):(S a).toList ≠ []:=by rw [ByteArray.toList_eq];exact h
theorem qdc (a:Str) (h:a ≠ []):(S a).toList.isEmpty=false:=by rw [ByteArray.toList_eq,qbi];simpa using h
theorem qbf {w a:World} {b o:Nat} {v:Value} (h:Bel w a) (hb:w.heap.size<=b):Bel w (a.setCell ⟨b,o,none⟩ v):=Below.setCell h hb v
end
section
open Go.RowKit Go.Maps Go.WideMaps
section
variable {H : Type} {R : Value → Option (DataW H × List MemPlace)} {w : World} {b n : Nat} {f : List UInt8 → Option (DataW H)}
def MapIs (R:Value->Option (DataW H × List MemPlace)) (w:World) (b n:Nat) (f:List UInt8->Option (DataW H)):Prop:=
 ∃D:DataW H,w.ownsMap Tryz.prog 9 R b n D/\IsMap D/\∀k,has D (.string k)=(f k).isSome/\∀z,D.atKey (.string k) z=(f k).getD z
theorem MapIs.made (w:World) (R:Value->Option (DataW H × List MemPlace)):MapIs R (w.alloc (.map #[] 0)) w.heap.size 0 (fun _=>none):=
 ⟨.map [],World.ownsMap_made w _ _ _,⟨[],rfl⟩,fun k=>⟨rfl,fun z=>rfl⟩⟩
theorem MapIs.lt (h:MapIs R w b n f):b<w.heap.size:=by obtain⟨D,h1,_⟩:=h;exact h1.lt
theorem MapIs.block {w':World} (h:MapIs R w b n f) (hb:w'.heap[b]? = w.heap[b]?):MapIs R w' b n f:=by
 obtain⟨D,⟨es,clock,h1,F,hs,hD⟩,h2,h3⟩:=h;exact⟨D,⟨es,clock,hb.trans h1,F,hs,hD⟩,h2,h3⟩
theorem MapIs.bel {w':World} (h:MapIs R w b n f) (k:Bel w w'):MapIs R w' b n f:=h.block (Below.block k b h.lt)
end
section
variable {H : Type} {R : Value → Option (DataW H × List MemPlace)} (w : World) {ops : Array Oper} {rest : List Oper} {o : Oper} {a : Act} {Q : Exit → Act → World → Prop}
end
end
section
open Go.RowKit Ck
end
end Go.Proofs.YtaaneecceiefoaaGreatDoor
namespace Go.Proofs.YtaaneecceiefoaaGreatDoor.Utf
theorem valid_iff (c:Nat):Utf8.valid (c:Int)=true ↔ (c<55296 ∨ 57344<=c/\c<=1114111):=by
 unfold Utf8.valid;simp only [Bool.or_eq_true,Bool.and_eq_true,decide_eq_true_eq];omega
end Go.Proofs.YtaaneecceiefoaaGreatDoor.Utf
