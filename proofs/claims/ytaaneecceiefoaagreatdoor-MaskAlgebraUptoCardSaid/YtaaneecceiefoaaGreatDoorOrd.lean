import Derived.Test.YtaaneecceiefoaaGreatDoorIdWord
import Derived.StillTailTactics
import Derived.OrdersHeld
set_option maxRecDepth 100000
set_option maxHeartbeats 4000000
set_option linter.unusedVariables false
set_option linter.unusedSimpArgs false
namespace Go.Proofs.YtaaneecceiefoaaGreatDoor.Ma
inductive PMask where
 | mk (num:Int) (subs:List PMask)
def PMask.num:PMask->Int
 | .mk n _=>n
def PMask.subs:PMask->List PMask
 | .mk _ l=>l
theorem PMask.eta (x:PMask):PMask.mk x.num x.subs=x:=by cases x;rfl
theorem PMask.ext2 {x y:PMask} (h1:x.num=y.num) (h2:x.subs=y.subs):x=y:=by
 rw [←x.eta, ←y.eta,h1,h2]
def whole (x:PMask):Bool:=x.subs.isEmpty
def find (l:List PMask) (k:Int):Option PMask:=l.find? (fun x=>decide (x.num=k))
def Dp:Nat->List PMask->Prop
 | 0,l=>l=[]
 | n+1,l => ∀x ∈ l,Dp n x.subs
def Asc (l:List PMask):Prop:=l.Pairwise (fun x y=>x.num<y.num)
def Srt:Nat->List PMask->Prop
 | 0,l=>l=[]
 | n+1,l=>Asc l/\∀x ∈ l,Srt n x.subs
theorem Srt.asc {n:Nat} {l:List PMask} (h:Srt n l):Asc l:=by
 cases n with
 | zero=>rw [show l=[]from h];exact List.Pairwise.nil
 | succ n=>exact h.1
theorem Srt.dp : ∀{n:Nat} {l:List PMask},Srt n l->Dp n l
 | 0,_,h=>h
 | n+1,_,h=>fun x hx=>Srt.dp (h.2 x hx)
theorem Srt.nil : ∀n:Nat,Srt n []
 | 0=>rfl
 | n+1=>⟨List.Pairwise.nil,fun x hx=>by cases hx⟩
theorem Dp.nil : ∀n:Nat,Dp n []
 | 0=>rfl
 | n+1=>fun x hx=>by cases hx
theorem Srt.up : ∀{n:Nat} {l:List PMask},Srt n l->Srt (n+1) l
 | 0,l,h=>by rw [show l=[]from h];exact Srt.nil 1
 | n+1,l,h=>⟨h.1,fun x hx=>Srt.up (h.2 x hx)⟩
theorem Dp.up : ∀{n:Nat} {l:List PMask},Dp n l->Dp (n+1) l
 | 0,l,h=>by rw [show l=[]from h];exact Dp.nil 1
 | n+1,l,h=>fun x hx=>Dp.up (h x hx)
theorem Srt.le {n m:Nat} {l:List PMask} (h:Srt n l) (hm:n<=m):Srt m l:=by
 induction hm with
 | refl=>exact h
 | step _ ih=>exact ih.up
theorem Dp.le {n m:Nat} {l:List PMask} (h:Dp n l) (hm:n<=m):Dp m l:=by
 induction hm with
 | refl=>exact h
 | step _ ih=>exact ih.up
theorem qhr (k:Int):find [] k=none:=rfl
theorem qal (x:PMask) (l:List PMask) (k:Int):find (x :: l) k=if x.num=k then some x else find l k:=by
 unfold find;rw [List.find?_cons];by_cases h:x.num=k <;> simp [h]
theorem qac {l:List PMask} {k:Int} {x:PMask} (h:find l k=some x):x ∈ l/\x.num=k:=by
 refine⟨List.mem_of_find?_eq_some h,?_⟩;have:=List.find?_some h
 simpa using this
theorem find_none {l:List PMask} {k:Int}:find l k=none ↔ ∀x ∈ l,x.num ≠ k:=by
 unfold find;rw [List.find?_eq_none];simp
theorem qjo (a b:List PMask) (k:Int):find (a ++ b) k=(find a k).or (find b k):=by
 unfold find;rw [List.find?_append]
theorem Asc.head {x:PMask} {l:List PMask} (h:Asc (x :: l)) : ∀y ∈ l,x.num<y.num:=(List.pairwise_cons.1 h).1
theorem Asc.tail {x:PMask} {l:List PMask} (h:Asc (x :: l)):Asc l:=(List.pairwise_cons.1 h).2
theorem qc8 {l:List PMask} (h:Asc l) {x:PMask} (hx:x ∈ l):find l x.num=some x:=by
 induction l with
 | nil=>cases hx
 | cons y l ih=>
  rw [qal];rcases List.mem_cons.1 hx with rfl|hx
  ·rw [if_pos rfl]
  ·rw [if_neg (by have:=h.head x hx;omega)]
   exact ih h.tail hx
theorem qli {x:PMask} {l:List PMask} (h:Asc (x :: l)) {k:Int} (hk:k<=x.num):find l k=none:=
 find_none.2 fun y hy=>by have:=h.head y hy;omega
theorem ext : ∀{a b:List PMask},Asc a->Asc b->(∀k,find a k=find b k)->a=b
 | [],[],_,_,_=>rfl
 | [],y :: b,_,_,h=>by have:=h y.num;rw [qhr,qal,if_pos rfl]at this;cases this
 | x :: a,[],_,_,h=>by have:=h x.num;rw [qhr,qal,if_pos rfl]at this;cases this
 | x :: a,y :: b,ha,hb,h=>by
  have h1:=h x.num;have h2:=h y.num;rw [qal,if_pos rfl,qal]at h1;rw [qal,qal (x:=y),if_pos rfl]at h2
  have hxy:x=y:=by
   by_cases e:y.num=x.num
   ·rw [if_pos e]at h1;exact Option.some.inj h1
   ·rw [if_neg e]at h1
    rw [if_neg (fun e'=>e e'.symm)]at h2;have m1:=(qac h1.symm).1;have m2:=(qac h2).1;have:=hb.head x m1;have:=ha.head y m2;omega
  subst hxy;refine congrArg (x :: ·) (ext ha.tail hb.tail fun k=>?_);have:=h k;rw [qal,qal]at this;by_cases e:x.num=k
  ·subst e
   rw [qli ha (Int.le_refl _),qli hb (Int.le_refl _)]
  ·rwa [if_neg e,if_neg e]at this
def ins (x:PMask):List PMask->List PMask
 | [] => [x]
 | y :: l=>if x.num<=y.num then x :: y :: l else y :: ins x l
def isort:List PMask->List PMask
 | [] => []
 | x :: l=>ins x (isort l)
theorem mem_ins {x z:PMask} : ∀{l:List PMask},z ∈ ins x l ↔ z=x ∨ z ∈ l
 | []=>by simp [ins]
 | y :: l=>by
  unfold ins
  split
  ·simp
  ·simp only [List.mem_cons,mem_ins (l:=l)]
   constructor
   ·rintro (h|h|h)
    ·exact .inr (.inl h)
    ·exact .inl h
    ·exact .inr (.inr h)
   ·rintro (h|h|h)
    ·exact .inr (.inl h)
    ·exact .inl h
    ·exact .inr (.inr h)
theorem mem_isort {z:PMask} : ∀{l:List PMask},z ∈ isort l ↔ z ∈ l
 | []=>by simp [isort]
 | x :: l=>by unfold isort;rw [mem_ins,mem_isort (l:=l),List.mem_cons]
def Dif (l:List PMask):Prop:=l.Pairwise (fun x y=>x.num ≠ y.num)
theorem asc_ins {x:PMask} : ∀{l:List PMask},Asc l->(∀y ∈ l,x.num ≠ y.num)->Asc (ins x l)
 | [],_,_=>List.pairwise_singleton ..
 | y :: l,h,hd=>by
  unfold ins;have hy:=hd y (List.mem_cons_self ..)
  split
  ·refine List.pairwise_cons.2 ⟨fun z hz=>?_,h⟩
   rcases List.mem_cons.1 hz with rfl|hz
   ·omega
   ·have:=h.head z hz;omega
  ·refine List.pairwise_cons.2 ⟨fun z hz=>?_,asc_ins h.tail (fun z hz=>hd z (List.mem_cons_of_mem _ hz))⟩
   rcases mem_ins.1 hz with rfl|hz
   ·omega
   ·exact h.head z hz
theorem qeb : ∀{l:List PMask},Dif l->Asc (isort l)
 | [],_=>List.Pairwise.nil
 | x :: l,h=>asc_ins (qeb (List.pairwise_cons.1 h).2) (fun y hy=>(List.pairwise_cons.1 h).1 y (mem_isort.1 hy))
theorem qlk : ∀{l:List PMask},Dif l->∀{x:PMask},x ∈ l->find l x.num=some x
 | y :: l,h,x,hx=>by
  rw [qal];rcases List.mem_cons.1 hx with rfl|hx
  ·rw [if_pos rfl]
  ·rw [if_neg ((List.pairwise_cons.1 h).1 x hx)]
   exact qlk (List.pairwise_cons.1 h).2 hx
theorem qiw {a b:List PMask} (ha:Dif a) (hb:Dif b) (h : ∀x,x ∈ a ↔ x ∈ b) (k:Int):find a k=find b k:=by
 cases e:find a k with
 | none=>
  refine(find_none.2 fun x hx=>?_).symm;exact find_none.1 e x ((h x).2 hx)
 | some x=>
  obtain⟨h1,h2⟩:=qac e;subst h2;exact(qlk hb ((h x).1 h1)).symm
theorem Asc.dif {l:List PMask} (h:Asc l):Dif l:=List.Pairwise.imp (R:=fun x y:PMask=>x.num<y.num) (fun hab=>by omega) h
theorem qgw {l:List PMask} (h:Dif l) (k:Int):find (isort l) k=find l k:=qiw (qeb h).dif h (fun _=>mem_isort) k
theorem sort_eq {l l':List PMask} (h:Dif l) (hp:l'.Perm l) (hs:l'.Pairwise (fun x y=>x.num<=y.num)):l'=isort l:=by
 have hd:Dif l':=(hp.pairwise_iff (R:=fun x y:PMask=>x.num ≠ y.num) (fun hab=>Ne.symm hab)).2 h
 have ha:Asc l':=by
  have:=List.Pairwise.and hs hd;exact List.Pairwise.imp (R:=fun x y:PMask=>x.num<=y.num/\x.num ≠ y.num) (fun hab=>by omega) this
 exact ext ha (qeb h) fun k=>(qiw hd h (fun x=>hp.mem_iff) k).trans (qgw h k).symm
def joinF (f:List PMask->List PMask->List PMask) (x y:PMask):PMask:=.mk x.num (if whole x || whole y then []else f x.subs y.subs)
def uniA (f:List PMask->List PMask->List PMask) (b:List PMask) (x:PMask):PMask:=match find b x.num with
 | some y=>joinF f x y
 | none=>x
theorem qfe (f:List PMask->List PMask->List PMask) (b:List PMask) (x:PMask):(uniA f b x).num=x.num:=by
 unfold uniA
 split <;> rfl
def qbo (f:List PMask->List PMask->List PMask) (a b:List PMask):List PMask:=a.map (uniA f b) ++ b.filter (fun y=>(find a y.num).isNone)
def union:Nat->List PMask->List PMask->List PMask
 | 0,_,_ => []
 | n+1,a,b=>isort (qbo (union n) a b)
def uniO (f:List PMask->List PMask->List PMask):Option PMask->Option PMask->Option PMask
 | some x,some y=>some (joinF f x y)
 | some x,none=>some x
 | none,y=>y
theorem find_map (F:PMask->PMask) (hF : ∀x,(F x).num=x.num) (l:List PMask) (k:Int):find (l.map F) k=(find l k).map F:=by
 induction l with
 | nil=>rfl
 | cons x l ih=>
  rw [List.map_cons,qal,qal,hF,ih]
  split <;> rfl
theorem qjn {p:PMask->Bool} {k:Int} (hp : ∀x:PMask,x.num=k->p x=true) (l:List PMask):find (l.filter p) k=find l k:=by
 induction l with
 | nil=>rfl
 | cons x l ih=>
  by_cases e:x.num=k
  ·rw [List.filter_cons_of_pos (hp x e),qal,qal,if_pos e,if_pos e]
  ·rw [qal,if_neg e]
   by_cases q:p x=true
   ·rw [List.filter_cons_of_pos q,qal,if_neg e,ih]
   ·rw [List.filter_cons_of_neg q,ih]
theorem find_raw (f:List PMask->List PMask->List PMask) (a b:List PMask) (k:Int):find (qbo f a b) k=uniO f (find a k) (find b k):=by
 unfold qbo;rw [qjo,find_map _ (qfe f b)];cases e:find a k with
 | some x=>
  have hk:=(qac e).2;show some (uniA f b x)=_
  unfold uniA;rw [hk];cases find b k <;> rfl
 | none=>
  show find _ k=find b k
  exact qjn (fun x hx=>by rw [hx,e];rfl) b
theorem qlo (f:List PMask->List PMask->List PMask) {a b:List PMask} (ha:Asc a) (hb:Asc b):Dif (qbo f a b):=by
 unfold qbo Dif;rw [List.pairwise_append];refine⟨?_,(hb.dif).filter _,fun x hx y hy=>?_⟩
 ·rw [List.pairwise_map]
  exact List.Pairwise.imp (R:=fun x y:PMask=>x.num ≠ y.num) (fun hxy=>by rw [qfe,qfe];exact hxy) ha.dif
 ·obtain⟨x0,h1,rfl⟩:=List.mem_map.1 hx
  have h2:=(List.mem_filter.1 hy).2;rw [Option.isNone_iff_eq_none]at h2;rw [qfe];exact find_none.1 h2 x0 h1
theorem qbz {n:Nat} {a b:List PMask} (ha:Asc a) (hb:Asc b) (k:Int):find (union (n+1) a b) k=uniO (union n) (find a k) (find b k):=by
 show find (isort _) k=_
 rw [qgw (qlo _ ha hb),find_raw]
theorem qdf {n:Nat} {a b:List PMask} (ha:Asc a) (hb:Asc b):Asc (union n a b):=by
 cases n with
 | zero=>exact List.Pairwise.nil
 | succ n=>exact qeb (qlo _ ha hb)
end Go.Proofs.YtaaneecceiefoaaGreatDoor.Ma
namespace Go.Proofs.YtaaneecceiefoaaGreatDoor
section
open Go.RowKit
theorem qag {P:Program} {id:Nat} {Q:Exit->Act->World->Prop} {a:Act} {w wd:World} {l:List Oper} (n:Nat) (hm:P.follows .mixedOrders=true) (hB:Region.lexTailB .any l.toArray n=true) (hwd:wd=w.drew)
  (h:wpStill P l.toArray wd (fun a'=>wpList P l.toArray Q (l.drop n) a' wd) (l.take n) a):(Code.region id l.toArray true).wp P Q a w:=by subst hwd;exact wp_region_still_tail n hm hB h
theorem qah {P:Program} {ops:Array Oper} {w:World} {Q:Act->Prop} {o:Oper} {rest:List Oper} {a:Act} (h:Region.wanted o (yielded ops a.tmps)=false) (k:wpStill P ops w Q rest (a.put o.dst undef)):wpStill P ops w Q (o :: rest) a:=by
 unfold wpStill;rw [h];exact k
end
section
open Go.RowKit
section
variable {P : Program} {ops : Array Oper} {md : Region.Mode}
def cutOps (ops:Array Oper) (n:Nat):Array Oper:=ops.extract 0 (n+1)
theorem cut_none {n i:Nat} (hi:n<i):(cutOps ops n)[i]? = none:=by
 unfold cutOps;rw [Array.getElem?_extract,if_neg (by omega)]
def qfx (k size:Nat):Array Bool:=Array.ofFn (n:=size) fun i=>decide (i.1<k)
theorem qlg (k size i:Nat) (d:Bool) (h:i<size):(qfx k size).getD i d=decide (i<k):=by
 unfold qfx;simp [h]
end
end
section
open Go.RowKit
def qc6 (Q:Exit->Act->World->Prop) (T:Act->World->Prop):Exit->Act->World->Prop
 | .normal,a,w=>T a w
 | .outgrown,a,w=>Q .outgrown a w
 | _,_,_=>False
def qd9 (l:List Oper):List (Nat × Bool)->List (Nat × Bool × Oper)
 | [] => []
 | (i,b) :: r=>match l[i]? with
  | some o=>(i,b,o) :: qd9 l r
  | none=>qd9 l r
def wpOrd (P:Program) (ops:Array Oper) (S:World->Prop) (Q:Exit->Act->World->Prop) (K:Act->World->Prop):List (Nat × Bool × Oper)->Act->World->Prop
 | [],a,w=>K a w
 | (_,true,o) :: r,a,w => ∃v,YieldsIf P ops S o v a/\wpOrd P ops S Q K r (a.put o.dst v) w
 | (_,false,o) :: r,a,w=>if Region.wanted o (yielded ops a.tmps)=true then Oper.wp P o a w (fun a' w'=>S w'/\wpOrd P ops S Q K r a' w') Q else S w/\wpOrd P ops S Q K r (a.put o.dst undef) w
section
variable {P : Program} {ops : Array Oper} {md : Region.Mode} {S : World → Prop} {Q : Exit → Act → World → Prop} {K : Act → World → Prop} {a : Act} {w : World} {i : Nat} {o : Oper} {r : List (Nat × Bool × Oper)}
theorem qam {v:Value} (hw:Region.wanted o (yielded ops a.tmps)=true) (hy : ∀W,S W->(execOp a.eval o).run P W=.ok (.value v) W) (h:wpOrd P ops S Q K r (a.put o.dst v) w):wpOrd P ops S Q K ((i,true,o) :: r) a w:=⟨v,.inl ⟨hw,hy⟩,h⟩
theorem qdl (h : ∀K':Act->World->Prop,(∀a w,S w->wpOrd P ops S Q K r a w->K' a w)->if Region.wanted o (yielded ops a.tmps)=true then Oper.wp P o a w K' Q else K' (a.put o.dst undef) w):wpOrd P ops S Q K ((i,false,o) :: r) a w:=by
 have h1:=h (fun a' w'=>S w'/\wpOrd P ops S Q K r a' w') (fun _ _ h1 h2=>⟨h1,h2⟩);show(if _ then _ else _)
 exact h1
theorem ql0 (h:K a w):wpOrd P ops S Q K [] a w:=h
def cutM (ops:Array Oper) (m:Nat):Array Oper:=ops.extract 0 m
theorem qcj {m i:Nat} (hi:i<m):(cutM ops m)[i]? = ops[i]?:=by
 unfold cutM;rw [Array.getElem?_extract];by_cases h:i<ops.size
 ·rw [if_pos (by omega),Nat.zero_add]
 ·rw [if_neg (by omega),Array.getElem?_eq_none (by omega)]
theorem qnl {m i:Nat} (hi:m<=i):(cutM ops m)[i]? = none:=by
 unfold cutM;rw [Array.getElem?_extract,if_neg (by omega)]
def qf3 (md:Region.Mode) (ops:Array Oper) (m:Nat):Bool:=
 (List.range m).all fun i=>match ops[i]? with
  | some o=>(match o.guard with|some (j,_)=>decide (j<m)|none=>true) && o.after.all fun e => !Region.binds md e || decide (e.on<i)
  | none=>true
theorem qc2 {m i:Nat} {o:Oper} (hg:qf3 md ops m=true) (hi:i<m) (ho:ops[i]? = some o) (tmps:Array Value):Region.wanted o (yielded (cutM ops m) tmps)=Region.wanted o (yielded ops tmps):=by
 have h:=List.all_eq_true.1 hg i (List.mem_range.2 hi);rw [ho]at h;simp only [Bool.and_eq_true]at h;have h:=h.1;unfold Region.wanted;cases hgd:o.guard with
 | none=>rfl
 | some p=>
  obtain⟨j,b⟩:=p;rw [hgd]at h;simp only [decide_eq_true_eq]at h;have:yielded (cutM ops m) tmps j=yielded ops tmps j:=by unfold yielded;rw [qcj h]
  simp only [this]
theorem qeo {m i:Nat} {o:Oper} (hg:qf3 md ops m=true) (hi:i<m) (ho:ops[i]? = some o) (e:Edge) (he:e ∈ o.after) (hb:Region.binds md e=true):e.on<i:=by
 have h:=List.all_eq_true.1 hg i (List.mem_range.2 hi);rw [ho]at h;simp only [Bool.and_eq_true]at h;have:=Array.all_eq_true'.1 h.2 e he
 simpa [hb]using this
def TwinM (m:Nat) (l l':Array Bool) (ops:Array Oper):Prop:=
 l.size=ops.size/\l'.size=m/\∀i,i<m->l.getD i true=l'.getD i true/\l.getD i false=l'.getD i false
theorem qf5 {m:Nat} {l l':Array Bool} (hg:qf3 md ops m=true) (tw:TwinM m l l' ops) (i:Nat) (hi:i<m):i ∈ Region.ready md ops l ↔ i ∈ Region.ready md (cutM ops m) l':=by
 obtain⟨h1,h2,h3⟩:=tw;rw [mem_ready,mem_ready,qcj hi,(h3 i hi).1];constructor
 ·rintro ⟨g1,o,g2,g3⟩
  exact⟨g1,o,g2,fun e he hb=>by rw [←(h3 e.on (Nat.lt_trans (qeo hg hi g2 e he hb) hi)).2];exact g3 e he hb⟩
 ·rintro ⟨g1,o,g2,g3⟩
  exact⟨g1,o,g2,fun e he hb=>by rw [(h3 e.on (Nat.lt_trans (qeo hg hi g2 e he hb) hi)).2];exact g3 e he hb⟩
theorem qm9 {m i:Nat} {l l':Array Bool} (hm:m<ops.size) (tw:TwinM m l l' ops) (hi:i<m):TwinM m (l.setIfInBounds i true) (l'.setIfInBounds i true) ops:=by
 obtain⟨h1,h2,h3⟩:=tw;refine⟨by simpa using h1,by simpa using h2,fun j hj=>?_⟩;by_cases e:i=j
 ·subst e
  have hs:i<l.size:=by omega
  have hs':i<l'.size:=by omega
  simp [hs,hs']
 ·rw [getD_set_ne true e,getD_set_ne true e,getD_set_ne false e,getD_set_ne false e]
  exact h3 j hj
theorem qh0 {m i:Nat} {l':Array Bool} (h:i ∈ Region.ready md (cutM ops m) l'):i<m:=by
 obtain⟨_,o,ho,_⟩:=mem_ready.1 h;rcases Nat.lt_or_ge i m with h'|h'
 ·exact h'
 ·rw [qnl h']at ho;cases ho
theorem all_done {m:Nat} {l':Array Bool} (hg:qf3 md ops m=true) (hm:m<ops.size) (hs:l'.size=m) (hr:Region.ready md (cutM ops m) l'=[]) : ∀i,i<m->l'.getD i true=true:=by
 intro i
 induction i using Nat.strongRecOn with
 | _ i ih=>
  intro hi;cases hun:l'.getD i true with
  | true=>rfl
  | false=>
   exfalso;have hio:i<ops.size:=by omega
   have hoi:ops[i]? = some ops[i]:=Array.getElem?_eq_getElem hio
   have:i ∈ Region.ready md (cutM ops m) l':=mem_ready.2 ⟨hun,ops[i],by rw [qcj hi];exact hoi,fun e he hb=>by
    have hlt:=qeo hg hi hoi e he hb;have h:=ih e.on hlt (by omega);have hsz:e.on<l'.size:=by omega
    simp [hsz]at h ⊢;exact h⟩
   rw [hr]at this;cases this
theorem qdr {Q':Exit->Act->World->Prop} : ∀(l:List Oper) (x k:Nat) (listed:Array Bool) (a:Act) (w:World),(∀j,l[j]? = ops[k+j]?) →
  Region.seqB md ops l.length k listed=true->wpList P ops Q' l a w->wpAny P md ops Q' (x+l.length) listed a w
 | [],x,_,_,_,_,_,hB,h=>wpAny_done (by simpa [Region.seqB]using hB) h _
 | o :: l,x,k,listed,a,w,hl,hB,h=>by
  have h0:ops[k]? = some o:=by simpa using (hl 0).symm
  simp only [List.length_cons,Region.seqB,Bool.and_eq_true,decide_eq_true_eq]at hB;refine⟨fun h1=>(by rw [hB.1]at h1;cases h1),fun i hi=>?_⟩;rw [hB.1]at hi;have hik:i=k:=by simpa using hi
  subst hik;have hw:wpOp P ops Q' i (wpList P ops Q' l) a w:=by unfold wpOp;simp only [h0];exact h
  exact wpOp_mono (fun a' w' h'=>qdr l x (i+1) _ a' w' (fun j=>by have:=hl (j+1);simpa [Nat.add_assoc,Nat.add_comm 1 j]using this) hB.2 h') hw
theorem qil {T:Act->World->Prop} (h:LetsOut (qc6 Q T)):LetsOut Q:=by
 obtain⟨a,w,h⟩:=h;exact⟨a,w,h⟩
theorem wp_tail {T:Act->World->Prop} {K K':Act->World->Prop} (h : ∀a w,K a w->K' a w) (hh:o.wp P a w K (qc6 Q T)):o.wp P a w K' Q:=by
 unfold Oper.wp at *;generalize (execOp a.eval o).run P w=rr at *;cases rr with
 | ok n w'=>
  cases n <;> simp only [Oper.upon]at hh ⊢ <;>
   first
    | exact h _ _ hh
    | exact Calls.mono hh (fun e w'' he=>by cases e <;> first|exact h _ _ he|exact(he:False).elim|exact qil he)
    | exact Rows.mono hh (fun _ _ he=>h _ _ he)
 | halt x w'=>cases x <;> simp only [Oper.upon]at hh ⊢ <;> exact(hh:False).elim
theorem qnk {m:Nat} {T:Act->World->Prop} {K K':Act->World->Prop} (hg:qf3 md ops m=true) (hi:i<m) (h : ∀a w,K a w->K' a w) (hh:wpOp P (cutM ops m) (qc6 Q T) i K a w):wpOp P ops Q i K' a w:=by
 unfold wpOp at *;rw [qcj hi]at hh;cases ho:ops[i]? with
 | none=>rw [ho]at hh;exact h _ _ hh
 | some o=>
  rw [ho]at hh;simp only [qc2 hg hi ho]at hh;cases hwd:Region.wanted o (yielded ops a.tmps)with
  | false=>rw [hwd]at hh;simp only [Bool.false_eq_true,if_false]at hh ⊢;simpa [hwd]using h _ _ hh
  | true=>
   rw [hwd]at hh;simp only [if_true]at hh;simp only [hwd,if_true];exact hh.imp (wp_tail h) (fun h=>⟨h.1,qil h.2⟩)
theorem qlr {m:Nat} (l:List Oper) (hl : ∀j:Nat,l[j]? = ops[m+j]?) (hg:qf3 md ops m=true) (hm:m<ops.size) (hs:Region.sinkB md ops m=true) (hc:Region.chainB md ops m=true) (hseq:Region.seqB md ops l.length m (qfx m ops.size)=true) :
  ∀(fuel:Nat) (listed listed':Array Bool) (a:Act) (w:World),TwinM m listed listed' ops->HeadInv md ops m listed →
   wpAny P md (cutM ops m) (qc6 Q (wpList P ops Q l)) fuel listed' a w->wpAny P md ops Q (fuel+l.length) listed a w:=by
 have fin : ∀(fuel:Nat) (listed listed':Array Bool) (a:Act) (w:World),TwinM m listed listed' ops->HeadInv md ops m listed->Region.ready md (cutM ops m) listed'=[]->wpList P ops Q l a w->wpAny P md ops Q (fuel+l.length) listed a w:=by
  intro fuel listed listed' a w tw inv hr h;have had:=all_done hg hm tw.2.1 hr
  have hl1:listed=qfx m ops.size:=by
   refine Array.ext (by rw [tw.1];unfold qfx;simp) fun i hi hi2=>?_
   have hio:i<ops.size:=by rw [←tw.1];exact hi
   have e1:listed.getD i true=listed[i]:=by simp [hi]
   have e2:(qfx m ops.size).getD i true=(qfx m ops.size)[i]:=by simp [hi2]
   rw [←e1, ←e2,qlg _ _ _ _ hio];by_cases h:i<m
   ·rw [(tw.2.2 i h).1,had i h,decide_eq_true h]
   ·rw [inv.tail i (by omega) hio,decide_eq_false h]
  subst hl1;exact qdr l fuel m _ a w hl hseq h
 intro fuel
 induction fuel with
 | zero=>intro listed listed' a w tw inv h;exact fin 0 listed listed' a w tw inv h.1 h.2
 | succ f ih=>
  intro listed listed' a w tw inv h;cases hr:Region.ready md (cutM ops m) listed' with
  | nil=>exact fin (f+1) listed listed' a w tw inv hr (h.1 hr)
  | cons i0 rs=>
   have h0:i0 ∈ Region.ready md (cutM ops m) listed':=by rw [hr];exact List.mem_cons_self
   have hi0:i0<m:=qh0 h0;have hun0:listed.getD i0 true=false:=by rw [(tw.2.2 i0 hi0).1];exact(mem_ready.1 h0).1
   rw [show f+1+l.length=(f+l.length)+1 by omega];refine⟨fun he=>?_,fun j hj=>?_⟩
   ·have:=(qf5 hg tw i0 hi0).2 h0
    rw [he]at this;cases this
   ·have hjm:j<m:=by
     rcases Nat.lt_or_ge j m with h'|h'
     ·exact h'
     ·exact absurd hj (tail_waits hs hc hm inv _ i0 rfl hi0 hun0 j h')
    have hj':=(qf5 hg tw j hjm).1 hj;exact qnk hg hjm (fun a' w' h'=>ih _ _ a' w' (qm9 hm tw hjm) (inv.set hj hjm) h') (h.2 j hj')
def ordB (md:Region.Mode) (ops:Array Oper):List (Nat × Bool)->Array Bool->Bool
 | [],listed=>(Region.ready md ops listed).isEmpty
 | (i,true) :: r,listed=>(Region.ready md ops listed).contains i && Region.free md ops listed i && ordB md ops r (listed.setIfInBounds i true)
 | (i,false) :: r,listed=>decide (Region.ready md ops listed=[i]) && ordB md ops r (listed.setIfInBounds i true)
theorem qe4 {listed:Array Bool} {j:Nat} (h:j ∈ Region.ready md ops listed) : ∃o,ops[j]? = some o:=by
 obtain⟨_,o,ho,_⟩:=mem_ready.1 h;exact⟨o,ho⟩
theorem qe5 {m:Nat} {l:List Oper} {Qt:Exit->Act->World->Prop} (hl : ∀j:Nat,l[j]? = ops[j]?) (hsel:Region.noSelect (cutM ops m)=true) (hg:qf3 md ops m=true) (hQ : ∀c a w, ¬ Qt (.panic c) a w) (hK : ∀a w,K a w->Qt .normal a w) :
  ∀(ord:List (Nat × Bool)) (listed:Array Bool) (a:Act) (w:World),ordB md (cutM ops m) ord listed=true->S w->wpOrd P ops S Qt K (qd9 l ord) a w->wpAnyH P md (cutM ops m) Qt S ord.length listed a w
 | [],listed,a,w,hB,hS,h=>wpAnyH_done (by simpa [ordB]using hB) (hK _ _ h) _
 | (i,true) :: r,listed,a,w,hB,hS,h=>by
  simp only [ordB,Bool.and_eq_true]at hB;obtain⟨⟨h1,h2⟩,h3⟩:=hB;have hmem:i ∈ Region.ready md (cutM ops m) listed:=by simpa using h1
  have him:=qh0 hmem;obtain⟨o,ho⟩:=qe4 hmem;have hoo:ops[i]? = some o:=by rw [←qcj him];exact ho
  have hll:l[i]? = some o:=(hl i).trans hoo;simp only [qd9,hll,wpOrd]at h;obtain⟨v,hy,h⟩:=h
  have hy':YieldsIf P (cutM ops m) S o v a:=by
   unfold YieldsIf at *;rw [qc2 hg him hoo];exact hy
  exact wpAnyH_take ho hsel h2 h1 (fun c a w hh=>absurd hh (hQ _ _ _)) hy' hS (qe5 hl hsel hg hQ hK r _ _ w h3 hS h)
 | (i,false) :: r,listed,a,w,hB,hS,h=>by
  simp only [ordB,Bool.and_eq_true,decide_eq_true_eq]at hB;obtain⟨h1,h3⟩:=hB;have hmem:i ∈ Region.ready md (cutM ops m) listed:=by rw [h1];exact List.mem_singleton.2 rfl
  have him:=qh0 hmem;obtain⟨o,ho⟩:=qe4 hmem;have hoo:ops[i]? = some o:=by rw [←qcj him];exact ho
  have hll:l[i]? = some o:=(hl i).trans hoo;simp only [qd9,hll,wpOrd]at h;refine wpAnyH_all h1 (by simp) fun j hj=>?_
  have hji:j=i:=by simpa using hj
  subst hji;unfold wpOp;simp only [ho,qc2 hg him hoo];cases hwd:Region.wanted o (yielded ops a.tmps)with
  | false=>
   rw [hwd]at h;simp only [Bool.false_eq_true,if_false]at h ⊢;exact⟨h.1,qe5 hl hsel hg hQ hK r _ _ w h3 h.1 h.2⟩
  | true=>
   rw [hwd]at h;simp only [if_true]at h ⊢;exact .inl (Oper.wp_mono (fun a' w' hh=>⟨hh.1,qe5 hl hsel hg hQ hK r _ _ w' h3 hh.1 hh.2⟩) h)
def regB (md:Region.Mode) (ops:Array Oper) (ord:List (Nat × Bool)) (m:Nat):Bool:=
 Region.noSelect (cutM ops m) && qf3 md ops m && decide (m<ops.size) && Region.sinkB md ops m && Region.chainB md ops m && Region.seqB md ops (ops.size-m) m (qfx m ops.size) && ordB md (cutM ops m) ord (Array.replicate m false) && decide (ord.length=m)
theorem qeg {id:Nat} {w wd:World} {l:List Oper} (S:World->Prop) (ord:List (Nat × Bool)) (m:Nat) (hm:P.follows .mixedOrders=true) (hB:regB .any l.toArray ord m=true) (hwd:wd=w.drew) (hS:S wd)
  (h:wpOrd P l.toArray S (qc6 Q (wpList P l.toArray Q (l.drop m))) (fun a' w'=>wpList P l.toArray Q (l.drop m) a' w') (qd9 l ord) a wd):(Code.region id l.toArray true).wp P Q a w:=by
 subst hwd;simp only [regB,Bool.and_eq_true,decide_eq_true_eq]at hB;obtain⟨⟨⟨⟨⟨⟨⟨hsel,hg⟩,hml⟩,hs⟩,hc⟩,hseq⟩,hord⟩,hlen⟩:=hB;have hml':m<l.length:=by simpa using hml
 have H:=wpAny_of_held _ _ _ _ (qe5 (md:=.any) (P:=P) (K:=fun a' w'=>wpList P l.toArray Q (l.drop m) a' w') (l:=l) (ops:=l.toArray) (m:=m) (Qt:=qc6 Q (wpList P l.toArray Q (l.drop m))) (fun j=>by simp) hsel hg (fun c a w hh=>hh) (fun a w hh=>hh) ord _ a w.drew hord hS h)
 have tw0:TwinM m (Array.replicate l.toArray.size false) (Array.replicate m false) l.toArray:=by
  refine⟨by simp,by simp,fun i hi=>?_⟩;have q1:(Array.replicate l.toArray.size false).getD i true=false:=getD_in (by simp;omega) (getD_replicate_false _ _);have q2:(Array.replicate m false).getD i true=false:=getD_in (by simpa using hi) (getD_replicate_false _ _);rw [getD_replicate_false,getD_replicate_false];exact⟨by rw [q1,q2],rfl⟩
 have inv0:HeadInv .any l.toArray m (Array.replicate l.toArray.size false):=
  ⟨by simp,fun j oj _ hl=>(by rw [getD_replicate_false]at hl;cases hl),fun t _ ht=>getD_in (by simpa using ht) (getD_replicate_false _ _)⟩
 have hdl:(l.drop m).length=l.toArray.size-m:=by simp
 have H2:=qlr (md:=.any) (l.drop m) (fun j=>by simp [List.getElem?_drop]) hg hml hs hc (by rw [hdl];exact hseq) _ _ _ a w.drew tw0 inv0 H;refine wp_region_any hm ?_;have hsum:ord.length+(l.drop m).length=l.toArray.size:=by rw [hlen];simp;omega
 rw [hsum]at H2;exact H2
end
end
end Go.Proofs.YtaaneecceiefoaaGreatDoor
