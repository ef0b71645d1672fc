import Derived.Test.YtaaneecceiefoaaGreatDoorRkAll
import Derived.Test.YtaaneecceiefoaaGreatDoorMaVM
import Derived.Test.YtaaneecceiefoaaGreatDoorMdOpenU
set_option maxRecDepth 100000
set_option maxHeartbeats 4000000
set_option linter.unusedVariables false
set_option linter.unusedSimpArgs false
namespace Go.Proofs.YtaaneecceiefoaaGreatDoor
open Go.RowKit Ck
theorem rk_Valid (sq1 sq2 sq3:Option Addr) (sc1 sc2 sc3:Nat) (s:PSchema) (w:World) (hs:VSchema w [.slice sq1 s.msgs.length sc1,.slice sq2 s.enums.length sc2,.slice sq3 s.svcs.length sc3] s) (hsh:Short s) :
  Calls Tryz.prog 25 #[.agg #[.slice sq1 s.msgs.length sc1,.slice sq2 s.enums.length sc2,.slice sq3 s.svcs.length sc3]] w fun e w'=>e=.returned (.bool (valid s))/\Below w.heap.size w w':=by
 have CA:=Lib.hid (fun W (k:Bel w W)=>rk_All sq1 sq2 sq3 sc1 sc2 sc3 s W (hs.stays_bel k) hsh);have HV:=Lib.hid (show valid s=(all s).isEmpty from rfl);have hlen:(all s).length<=1000000000:=hsh.2.2.2.2;clear hs hsh;generalize all s=T at CA HV hlen
 go_enter Tryz.func25,Tryz.ntmps25
 go_wp2_with (go_at_call 53;(with_reducible refine(CA.out _ (by(repeat (first|(with_reducible assumption)|(with_reducible exact Bel.refl _)|(with_reducible refine Bel.drew ?_)|(with_reducible refine Bel.drewN ?_ _)|(with_reducible refine Bel.alloc ?_ _)|((with_reducible refine qbf ?_ ?hge);(case hge=>(first|omega|(simp;omega)))))))).mono ?_);rintro e w1 ⟨v,rfl,hown,g1⟩;obtain⟨q,c,rfl⟩:=qan hown;have k1:Bel w w1:=Bel.of (by(repeat (first|(with_reducible assumption)|(with_reducible exact Bel.refl _)|(with_reducible refine Bel.drew ?_)|(with_reducible refine Bel.drewN ?_ _)|(with_reducible refine Bel.alloc ?_ _)|((with_reducible refine qbf ?_ ?hge);(case hge=>(first|omega|(simp;omega))))))) g1;clear g1 hown)
 go_ret;refine⟨qa7 ?_,k1.out⟩
 rw [HV.out,Bool.eq_iff_iff];cases T <;> simp <;> omega
end Go.Proofs.YtaaneecceiefoaaGreatDoor
namespace Go.Proofs.YtaaneecceiefoaaGreatDoor
open Go.RowKit Ck
def fewB (s:PSchema):Bool:=decide (s.msgs.length<=8/\s.enums.length<=8/\s.svcs.length<=8) && valid s
theorem qfv (q1 q2 q3:Option Addr) (c1 c2 c3:Nat) (s:PSchema) (w:World) (hs:VSchema w [.slice q1 s.msgs.length c1,.slice q2 s.enums.length c2,.slice q3 s.svcs.length c3] s) (hQ:qch s) :
  Calls Tryz.prog 8 #[.agg #[.slice q1 s.msgs.length c1,.slice q2 s.enums.length c2,.slice q3 s.svcs.length c3]] w fun e w'=>e=.returned (.bool (fewB s))/\Bel w w':=by
 have hb0:=heap_alloc_new w (.cells #[.slice q1 s.msgs.length c1,.slice q2 s.enums.length c2,.slice q3 s.svcs.length c3] 26);have kw:Bel w (w.alloc (.cells #[.slice q1 s.msgs.length c1,.slice q2 s.enums.length c2,.slice q3 s.svcs.length c3] 26)):=(Bel.refl w).alloc _;obtain⟨B,hB⟩ : ∃B,B=fewB s:=⟨_,rfl⟩;rw [←hB];by_cases h1:(s.msgs.length:Int)<=8
 ·by_cases h2:(s.enums.length:Int)<=8
  ·by_cases h3:(s.svcs.length:Int)<=8
   ·have hf:s.msgs.length<=8/\s.enums.length<=8/\s.svcs.length<=8:=⟨by omega,by omega,by omega⟩
    have HT:=Lib.hid (show B=valid s by rw [hB];unfold fewB;rw [decide_eq_true hf,Bool.true_and]);have CR:=Lib.hid (rk_Valid q1 q2 q3 c1 c2 c3 s _ (VSchema.stays _ _ _ _ kw hs) (qm5 hQ hf));generalize valid s=V at HT CR;clear hB hf hs hQ hb0;cases V with
    | true=>
     go_enter Tryz.func8,Tryz.ntmps8
     go_wp2_with (go_at_call 25;(with_reducible refine CR.out.mono ?_);rintro e w1 ⟨rfl,k1⟩;have K1:=Lib.hid (Bel.of kw k1);clear k1)
     go_ret;exact⟨by rw [HT.out];rfl,K1.out⟩
    | false=>
     go_enter Tryz.func8,Tryz.ntmps8
     go_wp2_with (go_at_call 25;(with_reducible refine CR.out.mono ?_);rintro e w1 ⟨rfl,k1⟩;have K1:=Lib.hid (Bel.of kw k1);clear k1)
     go_ret;exact⟨by rw [HT.out];rfl,K1.out⟩
   ·have HT:=Lib.hid (show B=false by rw [hB];unfold fewB;rw [decide_eq_false (fun h=>by omega),Bool.false_and])
    clear hB hs hQ
    go_enter Tryz.func8,Tryz.ntmps8
    go_wp2;go_ret
    exact⟨by rw [HT.out];rfl,kw⟩
  ·have HT:=Lib.hid (show B=false by rw [hB];unfold fewB;rw [decide_eq_false (fun h=>by omega),Bool.false_and])
   clear hB hs hQ
   go_enter Tryz.func8,Tryz.ntmps8
   go_wp2;go_ret
   exact⟨by rw [HT.out];rfl,kw⟩
 ·have HT:=Lib.hid (show B=false by rw [hB];unfold fewB;rw [decide_eq_false (fun h=>by omega),Bool.false_and])
  clear hB hs hQ
  go_enter Tryz.func8,Tryz.ntmps8
  go_wp2;go_ret
  exact⟨by rw [HT.out];rfl,kw⟩
end Go.Proofs.YtaaneecceiefoaaGreatDoor
namespace Go.Proofs.YtaaneecceiefoaaGreatDoor.Ma
def nest:List Int->List PMask
 | [] => []
 | k :: r => [.mk k (nest r)]
def paths:Nat->List PMask->List (List Int)
 | 0,_ => []
 | n+1,l=>l.flatMap fun x=>if whole x then [[x.num]]else(paths n x.subs).map (x.num :: ·)
def qbo (n:Nat) (acc:List PMask) (l:List (List Int)):List PMask:=l.foldl (fun acc p=>union n acc (nest p)) acc
theorem nest_ne {p:List Int} (h:p ≠ []):(nest p).isEmpty=false:=by
 cases p with
 | nil=>exact absurd rfl h
 | cons k r=>rfl
theorem qjk (p:List Int):Asc (nest p):=by
 cases p with
 | nil=>exact List.Pairwise.nil
 | cons k r=>exact List.pairwise_singleton ..
theorem qm0 : ∀(n:Nat) (p:List Int),p.length<=n->Srt n (nest p)
 | 0,p,h=>by rw [List.length_eq_zero_iff.1 (by omega:p.length=0)];rfl
 | n+1,[],_=>Srt.nil _
 | n+1,k :: r,h=>⟨List.pairwise_singleton ..,fun x hx=>by
  obtain rfl:=List.mem_singleton.1 hx
  exact qm0 n r (by simpa using h)⟩
theorem qfr : ∀(n:Nat) {l:List PMask},Dp n l->(∀p ∈ paths n l,p ≠ []/\p.length<=n)/\(l ≠ []->paths n l ≠ [])
 | 0,l,h=>⟨fun p hp=>(by cases hp),fun h'=>absurd h h'⟩
 | n+1,l,h=>by
  refine⟨fun p hp=>?_,fun hl=>?_⟩
  ·obtain⟨x,hx,hp⟩:=List.mem_flatMap.1 hp
   split at hp
   ·obtain rfl:=List.mem_singleton.1 hp
    exact⟨by simp,by simp⟩
   ·obtain⟨q,hq,rfl⟩:=List.mem_map.1 hp
    have:=((qfr n (h x hx)).1 q hq).2;exact⟨by simp,by simpa using this⟩
  ·cases l with
   | nil=>exact absurd rfl hl
   | cons x l=>
    intro e;have e:=List.append_eq_nil_iff.1 (show(if whole x then [[x.num]]else(paths n x.subs).map (x.num :: ·)) ++ l.flatMap _=[]from e);have e:=e.1
    split at e
    ·cases e
    ·rename_i hw
     exact(qfr n (h x (List.mem_cons_self ..))).2 (fun h'=>hw (whole_iff.2 h')) (List.map_eq_nil_iff.1 e)
theorem qjj {a:List PMask} {x:PMask} (ha:Asc a) (h : ∀y ∈ a,y.num<x.num):Asc (a ++ [x]):=
 List.pairwise_append.2 ⟨ha,List.pairwise_singleton ..,fun y hy z hz=>by obtain rfl:=List.mem_singleton.1 hz;exact h y hy⟩
theorem qjq {n:Nat} {a:List PMask} {x:PMask} (ha:Asc a) (h : ∀y ∈ a,y.num<x.num):union (n+1) a [x]=a ++ [x]:=by
 have hx:Asc [x]:=List.pairwise_singleton ..;refine ext (qdg ha hx) (qjj ha h) fun k=>?_
 rw [qd7 ha hx,qdd];cases e:find a k with
 | none=>rfl
 | some y=>
  obtain⟨m,hk⟩:=qas e;rw [qad,if_neg (by have:=h y m;omega)];rfl
theorem qlq {n:Nat} {a:List PMask} {k:Int} {s t:List PMask} (ha:Asc a) (h : ∀y ∈ a,y.num<k) (hs:s.isEmpty=false) (ht:t.isEmpty=false):union (n+1) (a ++ [.mk k s]) [.mk k t]=a ++ [.mk k (union n s t)]:=by
 have h1:=qjj (x:=.mk k s) ha h;have hx:Asc [PMask.mk k t]:=List.pairwise_singleton ..;refine ext (qdg h1 hx) (qjj (x:=.mk k (union n s t)) ha h) fun j=>?_
 rw [qd7 h1 hx,qdd,qdd];cases e:find a j with
 | some y=>
  obtain⟨m,hk⟩:=qas e;rw [qad (x:=.mk k t),if_neg (by have:=h y m;show ¬ k=j;omega)];rfl
 | none=>
  rw [qad,qad,qad];show uniO _ (if k=j then _ else _) (if k=j then _ else _)=(if k=j then _ else _)
  by_cases e':k=j
  ·rw [if_pos e',if_pos e',if_pos e']
   show some (joinF _ _ _)=_
   unfold joinF;rw [qli,qli,hs,ht];rfl
  ·rw [if_neg e',if_neg e',if_neg e']
   rfl
theorem qdr {n:Nat} {a:List PMask} {k:Int} (ha:Asc a) (h : ∀y ∈ a,y.num<k) : ∀(l:List (List Int)) (s:List PMask),s.isEmpty=false->(∀p ∈ l,p ≠ [])->(∀s t,s.isEmpty=false->(union n s t).isEmpty=false)->qbo (n+1) (a ++ [.mk k s]) (l.map (k :: ·))=a ++ [.mk k (qbo n s l)]
 | [],s,_,_,_=>rfl
 | p :: l,s,hs,hp,hu=>by
  have hne:=hp p (List.mem_cons_self ..);show qbo (n+1) (union (n+1) (a ++ [.mk k s]) [.mk k (nest p)]) (l.map (k :: ·))=_
  rw [qlq ha h hs (nest_ne hne)];exact qdr ha h l _ (hu s _ hs) (fun q hq=>hp q (List.mem_cons_of_mem _ hq)) hu
theorem ins_ne (x:PMask) (l:List PMask):ins x l ≠ []:=by
 cases l with
 | nil=>simp [ins]
 | cons y l=>unfold ins;split <;> simp
theorem union_ne {n:Nat} {s t:List PMask} (h:s.isEmpty=false):(union (n+1) s t).isEmpty=false:=by
 cases s with
 | nil=>cases h
 | cons x s=>
  show(isort (qb8 _ (x :: s) t)).isEmpty=false
  unfold qb8;rw [List.map_cons,List.cons_append];show(ins _ _).isEmpty=false
  have:=ins_ne (uniA (union n) t x) (isort (s.map (uniA (union n) t) ++ t.filter fun y=>(find (x :: s) y.num).isNone))
  simpa using this
theorem qg9 (n:Nat) (a:List PMask) (l r:List (List Int)):qbo n a (l ++ r)=qbo n (qbo n a l) r:=List.foldl_append ..
theorem qds : ∀(n:Nat) {l:List PMask},Srt n l->qbo n [] (paths n l)=l
 | 0,l,h=>by rw [show l=[]from h];rfl
 | n+1,l,h=>by
  have key : ∀(l a:List PMask),Asc (a ++ l)->(∀x ∈ l,Srt n x.subs)->qbo (n+1) a (paths (n+1) l)=a ++ l:=by
   intro l
   induction l with
   | nil=>intro a _ _;simp [paths,qbo]
   | cons x l ih=>
    intro a ha hl;have ha1:=List.pairwise_append.1 ha;have hax : ∀y ∈ a,y.num<x.num:=fun y hy=>ha1.2.2 y hy x (List.mem_cons_self ..)
    have step:qbo (n+1) a (if whole x then [[x.num]]else(paths n x.subs).map (x.num :: ·))=a ++ [x]:=by
     split
     ·rename_i hw
      show union (n+1) a [.mk x.num []]=_
      rw [show PMask.mk x.num []=x from PMask.ext2 rfl (whole_iff.1 hw).symm];exact qjq ha1.1 hax
     ·rename_i hw
      have hs:=hl x (List.mem_cons_self ..);have hne:x.subs ≠ []:=fun e=>hw (whole_iff.2 e)
      obtain⟨g1,g2⟩:=qfr n hs.dp;have g2:=g2 hne;have ih2:=qds n hs;cases n with
      | zero=>exact absurd hs hne
      | succ n=>
       cases hp:paths (n+1) x.subs with
       | nil=>exact absurd hp g2
       | cons p ps=>
        rw [hp]at g1 ih2;have hpn:=(g1 p (List.mem_cons_self ..)).1;rw [List.map_cons];show qbo (n+1+1) (union (n+1+1) a [.mk x.num (nest p)]) _=_
        rw [qjq (x:=.mk x.num (nest p)) ha1.1 hax];rw [qdr ha1.1 hax ps (nest p) (nest_ne hpn) (fun q hq=>(g1 q (List.mem_cons_of_mem _ hq)).1) (fun s t hs=>union_ne hs)]
        have hfirst:union (n+1) [] (nest p)=nest p:=by
         refine ext (qdg List.Pairwise.nil (qjk p)) (qjk p) fun k=>?_
         rw [qd7 List.Pairwise.nil (qjk p)];rfl
        have ih3:qbo (n+1) (nest p) ps=x.subs:=by
         have:qbo (n+1) (union (n+1) [] (nest p)) ps=x.subs:=ih2;rwa [hfirst]at this
        rw [ih3];rw [PMask.eta]
    show qbo (n+1) a ((if whole x then [[x.num]]else(paths n x.subs).map (x.num :: ·)) ++ paths (n+1) l)=_
    rw [qg9,step,ih (a ++ [x]) (by rw [List.append_assoc];exact ha) (fun y hy=>hl y (List.mem_cons_of_mem _ hy)),List.append_assoc];rfl
  exact key l [] h.1 h.2
end Go.Proofs.YtaaneecceiefoaaGreatDoor.Ma
namespace Go.Proofs.YtaaneecceiefoaaGreatDoor.Ma
def samL (f:List PMask->List PMask->Bool):List PMask->List PMask->Bool
 | [],[]=>true
 | x :: a,y :: b=>if x.num=y.num then(if f x.subs y.subs=true then samL f a b else false)else false
 | _,_=>false
def samB:Nat->List PMask->List PMask->Bool
 | 0,_,_=>true
 | n+1,a,b=>samL (samB n) a b
theorem qm7 : ∀(n:Nat) {a b:List PMask},Dp n a->Dp n b->(samB n a b=true ↔ a=b)
 | 0,a,b,ha,hb=>by
  have h1:a=[]:=ha;have h2:b=[]:=hb;subst h1 h2;exact⟨fun _=>rfl,fun _=>rfl⟩
 | n+1,a,b,ha,hb=>by
  show samL (samB n) a b=true ↔ a=b
  induction a generalizing b with
  | nil=>cases b <;> simp [samL]
  | cons x a ih=>
   cases b with
   | nil=>simp [samL]
   | cons y b=>
    unfold samL;have i1:=qm7 n (ha x (List.mem_cons_self ..)) (hb y (List.mem_cons_self ..));have i2:=ih (b:=b) (fun z hz=>ha z (List.mem_cons_of_mem _ hz)) (fun z hz=>hb z (List.mem_cons_of_mem _ hz));constructor
    ·intro h
     split at h
     ·rename_i e1
      split at h
      ·rename_i e2
       rw [PMask.ext2 e1 (i1.1 e2),i2.1 h]
      ·cases h
     ·cases h
    ·intro h
     cases h;rw [if_pos rfl,if_pos (i1.2 rfl)];exact i2.2 rfl
theorem qp0 {n:Nat} {a:List PMask} (h:Dp n a):samB n a a=true:=(qm7 n h h).2 rfl
def cntGo (f:List PMask->Nat):List PMask->Nat
 | []=>0
 | x :: r=>(if whole x then 1 else f x.subs)+cntGo f r
def cnt:Nat->List PMask->Nat
 | 0,_=>0
 | n+1,l=>cntGo (cnt n) l
theorem qkp : ∀(n:Nat) (l:List PMask),cnt n l=(paths n l).length
 | 0,_=>rfl
 | n+1,l=>by
  show cntGo (cnt n) l=(l.flatMap _).length
  induction l with
  | nil=>rfl
  | cons x r ih=>
   rw [List.flatMap_cons,List.length_append, ←ih];show(if whole x then 1 else cnt n x.subs)+cntGo (cnt n) r=_
   congr 1
   by_cases h:whole x=true
   ·simp [h]
   ·simp [h,qkp n]
theorem qm6 {f:List PMask->List PMask->Bool} : ∀{a b:List PMask},a.length ≠ b.length->samL f a b=false
 | [],[],h=>absurd rfl h
 | [],_ :: _,_=>rfl
 | _ :: _,[],_=>rfl
 | x :: a,y :: b,h=>by
  unfold samL;rw [qm6 (f:=f) (a:=a) (b:=b) (fun e=>h (by simp [e]))]
  split
  ·split <;> rfl
  ·rfl
theorem qcg {α:Type} {l:List α} {k:Nat} (h:k<l.length):l.drop k=l[k] :: l.drop (k+1):=List.drop_eq_getElem_cons h
theorem find_at {l:List PMask} {k:Nat} (h:k<l.length) (q:Int):find (l.drop k) q=if l[k].num=q then some l[k]else find (l.drop (k+1)) q:=by rw [qcg h,qad]
theorem fm_at {α β:Type} {f:α->Option β} {l:List α} {k:Nat} (h:k<l.length):(l.drop k).filterMap f=(f l[k]).toList ++ (l.drop (k+1)).filterMap f:=by
 rw [qcg h,List.filterMap_cons];cases f l[k] <;> rfl
theorem map_at {α β:Type} {f:α->β} {l:List α} {k:Nat} (h:k<l.length):(l.drop k).map f=f l[k] :: (l.drop (k+1)).map f:=by rw [qcg h,List.map_cons]
theorem qps {α:Type} {f:α->Bool} {l:List α} {k:Nat} (h:k<l.length):(l.drop k).filter f=(if f l[k]=true then [l[k]]else []) ++ (l.drop (k+1)).filter f:=by
 rw [qcg h,List.filter_cons]
 split <;> rfl
def pvM (l:List PMask):Nat->Option Int
 | 0=>none
 | k+1=>(l[k]?).map PMask.num
theorem qiy {l:List PMask} {k:Nat} (h:k<l.length):pvM l (k+1)=some l[k].num:=by
 show(l[k]?).map _=_
 rw [List.getElem?_eq_getElem h];rfl
theorem samL_at {f:List PMask->List PMask->Bool} {a b:List PMask} {k:Nat} (ha:k<a.length) (hb:k<b.length):samL f (a.drop k) (b.drop k)=if a[k].num=b[k].num then(if f a[k].subs b[k].subs=true then samL f (a.drop (k+1)) (b.drop (k+1))else false)else false:=by
 rw [qcg ha,qcg hb];rfl
theorem cntGo_at {f:List PMask->Nat} {l:List PMask} {k:Nat} (h:k<l.length):cntGo f (l.drop k)=(if whole l[k]then 1 else f l[k].subs)+cntGo f (l.drop (k+1)):=by
 rw [qcg h];rfl
theorem qcl (f:List PMask->List PMask->List PMask) : ∀(m m':Nat) (a b:List PMask),a.length+b.length<=m->a.length+b.length<=m'->qf0 f m a b=qf0 f m' a b
 | 0,0,_,_,_,_=>rfl
 | 0,m'+1,[],[],_,_=>rfl
 | 0,m'+1,x :: a,_,h,_=>by simp at h
 | 0,m'+1,[],y :: b,h,_=>by simp at h
 | m+1,0,[],[],_,_=>rfl
 | m+1,0,x :: a,_,_,h=>by simp at h
 | m+1,0,[],y :: b,_,h=>by simp at h
 | m+1,m'+1,[],b,_,_=>rfl
 | m+1,m'+1,x :: a,[],_,_=>rfl
 | m+1,m'+1,x :: a,y :: b,h,h'=>by
  simp only [List.length_cons]at h h';unfold qf0;rw [qcl f m m' a (y :: b) (by simp;omega) (by simp;omega),qcl f m m' (x :: a) b (by simp;omega) (by simp;omega),qcl f m m' a b (by omega) (by omega)]
def mrg (f:List PMask->List PMask->List PMask) (a b:List PMask):List PMask:=qf0 f (a.length+b.length) a b
theorem qn7 (f:List PMask->List PMask->List PMask) (b:List PMask):mrg f [] b=b:=by
 unfold mrg;cases b with
 | nil=>rfl
 | cons y b=>rfl
theorem qn6 (f:List PMask->List PMask->List PMask) (a:List PMask):mrg f a []=a:=by
 unfold mrg;cases a with
 | nil=>rfl
 | cons x a=>rfl
theorem mrg_cons (f:List PMask->List PMask->List PMask) (x y:PMask) (a b:List PMask):mrg f (x :: a) (y :: b)=if x.num<y.num then x :: mrg f a (y :: b)else if y.num<x.num then y :: mrg f (x :: a) b else joinF f x y :: mrg f a b:=by
 unfold mrg;rw [show(x :: a).length+(y :: b).length=(a.length+b.length+1)+1 by simp;omega];show(if _ then _ else _)=_
 rw [qcl f (a.length+b.length+1) (a.length+(y :: b).length) a (y :: b) (by simp;omega) (by simp),qcl f (a.length+b.length+1) ((x :: a).length+b.length) (x :: a) b (by simp;omega) (by simp),qcl f (a.length+b.length+1) (a.length+b.length) a b (by omega) (by omega)]
theorem mrg_ab {f:List PMask->List PMask->List PMask} {a b:List PMask} {i k:Nat} (hi:i<a.length) (hk:k<b.length):mrg f (a.drop i) (b.drop k)=if a[i].num<b[k].num then a[i] :: mrg f (a.drop (i+1)) (b.drop k)else if b[k].num<a[i].num then b[k] :: mrg f (a.drop i) (b.drop (k+1))else joinF f a[i] b[k] :: mrg f (a.drop (i+1)) (b.drop (k+1)):=by
 rw [qcg hi,qcg hk,mrg_cons, ←qcg hi, ←qcg hk]
theorem mrg_a {f:List PMask->List PMask->List PMask} {a b:List PMask} {i k:Nat} (hi:i<a.length) (hk:b.length<=k):mrg f (a.drop i) (b.drop k)=a[i] :: mrg f (a.drop (i+1)) (b.drop k):=by
 rw [List.drop_of_length_le hk,qn6,qn6,qcg hi]
theorem mrg_b {f:List PMask->List PMask->List PMask} {a b:List PMask} {i k:Nat} (hi:a.length<=i) (hk:k<b.length):mrg f (a.drop i) (b.drop k)=b[k] :: mrg f (a.drop i) (b.drop (k+1)):=by
 rw [List.drop_of_length_le hi,qn7,qn7,qcg hk]
end Go.Proofs.YtaaneecceiefoaaGreatDoor.Ma
namespace Go.Proofs.YtaaneecceiefoaaGreatDoor
open Go.RowKit Ma
theorem mk_num (k:Int) (v:Value) (w:World) (q:Option Addr) (m c:Nat) (hv:v=.slice q m c):Calls Tryz.prog 46 #[.agg #[.int .i64 k,v]] w fun e w'=>e=.returned (.int .i64 k)/\Bel w w':=by
 subst hv
 go_enter Tryz.func46,Tryz.ntmps46
 go_wp2;go_ret
 exact⟨rfl,(Bel.refl w).alloc _⟩
theorem mk_whole (k:Int) (q:Option Addr) (m c:Nat) (w:World):Calls Tryz.prog 28 #[.agg #[.int .i64 k,.slice q m c]] w fun e w'=>e=.returned (.bool (decide (m=0)))/\Bel w w':=by
 go_enter Tryz.func28,Tryz.ntmps28
 go_wp2;go_ret
 refine⟨qa7 ?_,(Bel.refl w).alloc _⟩;rw [Bool.eq_iff_iff];simp
def FoundM (A:Nat->Prop) (n:Nat) (w:World) (z:Option PMask) (e:Ending) (w':World):Prop := ∃(y:PMask) (p:Option Addr) (c:Nat),(z=some y ∨ z=none/\y=.mk 0 [])/\e=.returned (.tuple #[.agg #[.int .i64 y.num,.slice p y.subs.length c],.bool z.isSome])/\MaskD A n w' (.slice p y.subs.length c) y.subs/\Bel w w'
theorem mk_find (A:Nat->Prop) (n:Nat) (v:Value) (l:List PMask) (q:Int) (w0:World) (h:MaskD A (n+1) w0 v l):Calls Tryz.prog 45 #[v,.int .i64 q,.func (.func 46) #[] #[]] w0 (FoundM A n w0 (find l q)):=by
 obtain⟨p,c,rfl,hl,hcap,hel⟩:=h;have EL:=Lib.hid hel;have V:=Lib.hid (show find (l.drop 0) q=find l q from rfl);generalize find l q=Z at V;have CN:=Lib.hid (fun k v W a m c hv=>mk_num k v W a m c hv);have hS0:=Lib.hid ((ST.start w0).addbox #[.int .i64 0,.slice none 0 0] 61);clear hel hcap
 go_enter Tryz.func45,Tryz.ntmps45
 go_wp2
 go_loopw [13] (fun i wr => ∃k:Nat,k<=l.length/\i=.int .i64 k/\Hid (ST w0 [] [⟨w0.heap.size,#[.int .i64 0,.slice none 0 0],61⟩] wr)/\Hid (find (l.drop k) q=Z)) (fun i _=>l.length-(intOf i).toNat)
 case atStart=>exact⟨0,by omega,rfl,hS0,V⟩
 case round=>as_aux_lemma=>
  clear hS0 V;obtain⟨k,hk,rfl,hS,hx⟩:=hrel;by_cases hlt:k<l.length
  ·obtain⟨b,off,sv,rfl,hbs,hab,hc0,hc1,hd⟩:=EL.out k _ (List.getElem?_eq_getElem hlt)
   obtain⟨sp,sc,rfl⟩:=hd.form;have hki:(k:Int)<(l.length:Int):=by omega
   have e0:=hS.out.bel.some hc0;have e1:=hS.out.bel.some hc1;clear hc0 hc1 hab;have f0:=hS.out.cell 0 rfl 0;have f1:=hS.out.cell 0 rfl 1;have z0:=hS.out.frz 0 rfl 0;have z1:=hS.out.frz 0 rfl 1;have zl:=(hS.out.boxlt 0 rfl).2;dsimp only at f0 f1 z0 z1 zl;have hst:=hx.out;rw [find_at hlt]at hst;clear hx;generalize l[k]=x at *;have HA:=Lib.hid (hS.out.addbox #[.int .i64 x.num,.slice sp x.subs.length sc] 61);by_cases he:x.num=q
   ·have hb:(x.num == q)=true:=ieq he
    rw [if_pos he]at hst;have HST:=Lib.hid hst;clear hst he;go_wp2;have HB:=Lib.hid (show ST w0 [] [⟨w0.heap.size,#[.int .i64 x.num,.slice sp x.subs.length sc],61⟩] _ from((hS.out.setbox 0 rfl 0 (.int .i64 x.num)).setbox 0 rfl 1 (.slice sp x.subs.length sc)).belw (((Bel.refl _).alloc (.cells #[.int .i64 x.num,.slice sp x.subs.length sc] 61)).alloc (.cells #[.int .i64 x.num,.slice sp x.subs.length sc] 61)));refine bodyPost_ret (v:=.tuple #[.agg #[.int .i64 x.num,.slice sp x.subs.length sc],.bool true]) ?hres1 rfl ?hpost1
    case hres1=>exact qb1 rfl rfl rfl (HB.out.box 0 rfl) Tryz.underlying61 rfl (by kernel_rfl)
    case hpost1=>exact⟨x,sp,sc,.inl HST.out.symm,by rw [←HST.out];rfl,hd.bel HB.out.bel,HB.out.bel⟩
   ·have hb:(x.num == q)=false:=ine he
    rw [if_neg he]at hst;have HST:=Lib.hid hst;clear hst he;go_wp2;go_roundw
    case rel=>exact⟨k+1,by omega,by go_num,Lib.hid (HA.out.dropbox0.belw ((Bel.refl _).alloc _)),HST⟩
    case measure=>simp [intOf];omega
  ·have hkl:k=l.length:=by omega
   have hz:none=Z:=by have:=hx.out;rw [hkl,List.drop_length]at this;exact this
   subst hz;have f0:=hS.out.cell 0 rfl 0;have f1:=hS.out.cell 0 rfl 1;have z0:=hS.out.frz 0 rfl 0;have z1:=hS.out.frz 0 rfl 1;have zl:=(hS.out.boxlt 0 rfl).2;dsimp only at f0 f1 z0 z1 zl;clear hx;go_wp2;have HB:=Lib.hid (show ST w0 [] [⟨w0.heap.size,#[.int .i64 0,.slice none 0 0],61⟩] _ from((hS.out.setbox 0 rfl 0 (.int .i64 0)).setbox 0 rfl 1 (.slice none 0 0)).belw ((Bel.refl _).alloc (.cells #[.int .i64 0,.slice none 0 0] 61)));refine bodyPost_ret (v:=.tuple #[.agg #[.int .i64 0,.slice none 0 0],.bool false]) ?hres2 rfl ?hpost2
   case hres2=>exact qb1 rfl rfl rfl (HB.out.box 0 rfl) Tryz.underlying61 rfl (by kernel_rfl)
   case hpost2=>exact⟨.mk 0 [],none,0,.inr ⟨rfl,rfl⟩,rfl,MaskD.nil _ _,HB.out.bel⟩
theorem qc6 {A:Nat->Prop} {n:Nat} {v:Value} {l:List PMask} {q:Int} {x:PMask} (hz:find l q=some x) (w0:World) (h:MaskD A (n+1) w0 v l):Calls Tryz.prog 45 #[v,.int .i64 q,.func (.func 46) #[] #[]] w0 fun e w' => ∃p c,e=.returned (.tuple #[.agg #[.int .i64 x.num,.slice p x.subs.length c],.bool true])/\MaskD A n w' (.slice p x.subs.length c) x.subs/\Bel w0 w':=by
 have:=mk_find A n v l q w0 h;rw [hz]at this;refine this.mono fun e w' ⟨y,p,c,hy,he,hd,k⟩=>?_
 rcases hy with hy|⟨hy,_⟩
 ·cases hy
  exact⟨p,c,he,hd,k⟩
 ·cases hy
theorem qc7 {A:Nat->Prop} {n:Nat} {v:Value} {l:List PMask} {q:Int} (hz:find l q=none) (w0:World) (h:MaskD A (n+1) w0 v l):Calls Tryz.prog 45 #[v,.int .i64 q,.func (.func 46) #[] #[]] w0 fun e w' => ∃p c,e=.returned (.tuple #[.agg #[.int .i64 0,.slice p 0 c],.bool false])/\Bel w0 w':=by
 have:=mk_find A n v l q w0 h;rw [hz]at this;refine this.mono fun e w' ⟨y,p,c,hy,he,hd,k⟩=>?_
 rcases hy with hy|⟨_,rfl⟩
 ·cases hy
 ·exact⟨p,c,he,k⟩
theorem qaj {x:PMask} {B:Bool} (hB:whole x=B) (p:Option Addr) (c:Nat) (w:World):Calls Tryz.prog 28 #[.agg #[.int .i64 x.num,.slice p x.subs.length c]] w fun e w'=>e=.returned (.bool B)/\Bel w w':=by
 refine(mk_whole x.num p x.subs.length c w).mono fun e w' ⟨he,k⟩=>⟨?_,k⟩
 rw [he];refine qa7 ?_;rw [←hB,Bool.eq_iff_iff,whole_iff];simp
theorem qaz {x:PMask} (h:whole x=false):x.subs ≠ []:=fun e=>by
 have:=whole_iff.2 e;rw [h]at this;cases this
end Go.Proofs.YtaaneecceiefoaaGreatDoor
