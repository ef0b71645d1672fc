import Derived.Test.YtaaneecceiefoaaGreatDoorRkAll
import Derived.Test.YtaaneecceiefoaaGreatDoorMaMem
import Derived.Test.YtaaneecceiefoaaGreatDoorMdOpenU
import Derived.Test.YtaaneecceiefoaaGreatDoorMaNorm
import Derived.Test.YtaaneecceiefoaaGreatDoorCkFin
import Derived.Laws.Tables
import Derived.Deep.WholeRow
import Derived.Laws.CopyRow
import Derived.Shelf.SlicesQ.Load
import Derived.Test.YtaaneecceiefoaaGreatDoorCkSmallP
import Derived.Test.YtaaneecceiefoaaGreatDoorOpen
set_option maxRecDepth 100000
set_option maxHeartbeats 4000000
set_option linter.unusedVariables false
set_option linter.unusedSimpArgs false
namespace Go.Proofs.YtaaneecceiefoaaGreatDoor
open Go.RowKit Ck
theorem rk_Valid (sq1 sq2 sq3:Option Addr) (sc1 sc2 sc3:Nat) (s:PSchema) (w:World) (hs:VSchema w [.slice sq1 s.msgs.length sc1,.slice sq2 s.enums.length sc2,.slice sq3 s.svcs.length sc3] s) (hsh:Short s) :
  Calls Tryz.prog 25 #[.agg #[.slice sq1 s.msgs.length sc1,.slice sq2 s.enums.length sc2,.slice sq3 s.svcs.length sc3]] w fun e w'=>e=.returned (.bool (valid s))/\Below w.heap.size w w':=by
 have CA:=Lib.hid (fun W (k:Bel w W)=>rk_All sq1 sq2 sq3 sc1 sc2 sc3 s W (hs.stays_bel k) hsh);have HV:=Lib.hid (show valid s=(all s).isEmpty from rfl);have hlen:(all s).length<=1000000000:=hsh.2.2.2.2;clear hs hsh;generalize all s=T at CA HV hlen
 go_enter Tryz.func25,Tryz.ntmps25
 go_wp2_with (go_at_call 53;(with_reducible refine(CA.out _ (by(repeat (first|(with_reducible assumption)|(with_reducible exact Bel.refl _)|(with_reducible refine Bel.drew ?_)|(with_reducible refine Bel.drewN ?_ _)|(with_reducible refine Bel.alloc ?_ _)|((with_reducible refine qb9 ?_ ?hge);(case hge=>(first|omega|(simp;omega)))))))).mono ?_);rintro e w1 ⟨v,rfl,hown,g1⟩;obtain⟨q,c,rfl⟩:=qap hown;have k1:Bel w w1:=Bel.of (by(repeat (first|(with_reducible assumption)|(with_reducible exact Bel.refl _)|(with_reducible refine Bel.drew ?_)|(with_reducible refine Bel.drewN ?_ _)|(with_reducible refine Bel.alloc ?_ _)|((with_reducible refine qb9 ?_ ?hge);(case hge=>(first|omega|(simp;omega))))))) g1;clear g1 hown)
 go_ret;refine⟨qa4 ?_,k1.out⟩
 rw [HV.out,Bool.eq_iff_iff];cases T <;> simp <;> omega
end Go.Proofs.YtaaneecceiefoaaGreatDoor
namespace Go.Proofs.YtaaneecceiefoaaGreatDoor
open Go.RowKit Ck
def fewB (s:PSchema):Bool:=decide (s.msgs.length<=8/\s.enums.length<=8/\s.svcs.length<=8) && valid s
theorem qim (q1 q2 q3:Option Addr) (c1 c2 c3:Nat) (s:PSchema) (w:World) (hs:VSchema w [.slice q1 s.msgs.length c1,.slice q2 s.enums.length c2,.slice q3 s.svcs.length c3] s) (hQ:qdh s) :
  Calls Tryz.prog 8 #[.agg #[.slice q1 s.msgs.length c1,.slice q2 s.enums.length c2,.slice q3 s.svcs.length c3]] w fun e w'=>e=.returned (.bool (fewB s))/\Bel w w':=by
 have hb0:=heap_alloc_new w (.cells #[.slice q1 s.msgs.length c1,.slice q2 s.enums.length c2,.slice q3 s.svcs.length c3] 26);have kw:Bel w (w.alloc (.cells #[.slice q1 s.msgs.length c1,.slice q2 s.enums.length c2,.slice q3 s.svcs.length c3] 26)):=(Bel.refl w).alloc _;obtain⟨B,hB⟩ : ∃B,B=fewB s:=⟨_,rfl⟩;rw [←hB];by_cases h1:(s.msgs.length:Int)<=8
 ·by_cases h2:(s.enums.length:Int)<=8
  ·by_cases h3:(s.svcs.length:Int)<=8
   ·have hf:s.msgs.length<=8/\s.enums.length<=8/\s.svcs.length<=8:=⟨by omega,by omega,by omega⟩
    have HT:=Lib.hid (show B=valid s by rw [hB];unfold fewB;rw [decide_eq_true hf,Bool.true_and]);have CR:=Lib.hid (rk_Valid q1 q2 q3 c1 c2 c3 s _ (VSchema.stays _ _ _ _ kw hs) (qkc hQ hf));generalize valid s=V at HT CR;clear hB hf hs hQ hb0;cases V with
    | true=>
     go_enter Tryz.func8,Tryz.ntmps8
     go_wp2_with (go_at_call 25;(with_reducible refine CR.out.mono ?_);rintro e w1 ⟨rfl,k1⟩;have K1:=Lib.hid (Bel.of kw k1);clear k1)
     go_ret;exact⟨by rw [HT.out];rfl,K1.out⟩
    | false=>
     go_enter Tryz.func8,Tryz.ntmps8
     go_wp2_with (go_at_call 25;(with_reducible refine CR.out.mono ?_);rintro e w1 ⟨rfl,k1⟩;have K1:=Lib.hid (Bel.of kw k1);clear k1)
     go_ret;exact⟨by rw [HT.out];rfl,K1.out⟩
   ·have HT:=Lib.hid (show B=false by rw [hB];unfold fewB;rw [decide_eq_false (fun h=>by omega),Bool.false_and])
    clear hB hs hQ
    go_enter Tryz.func8,Tryz.ntmps8
    go_wp2;go_ret
    exact⟨by rw [HT.out];rfl,kw⟩
  ·have HT:=Lib.hid (show B=false by rw [hB];unfold fewB;rw [decide_eq_false (fun h=>by omega),Bool.false_and])
   clear hB hs hQ
   go_enter Tryz.func8,Tryz.ntmps8
   go_wp2;go_ret
   exact⟨by rw [HT.out];rfl,kw⟩
 ·have HT:=Lib.hid (show B=false by rw [hB];unfold fewB;rw [decide_eq_false (fun h=>by omega),Bool.false_and])
  clear hB hs hQ
  go_enter Tryz.func8,Tryz.ntmps8
  go_wp2;go_ret
  exact⟨by rw [HT.out];rfl,kw⟩
end Go.Proofs.YtaaneecceiefoaaGreatDoor
namespace Go.Proofs.YtaaneecceiefoaaGreatDoor.Ma
def nest:List Int->List PMask
 | [] => []
 | k :: r => [.mk k (nest r)]
def paths:Nat->List PMask->List (List Int)
 | 0,_ => []
 | n+1,l=>l.flatMap fun x=>if whole x then [[x.num]]else(paths n x.subs).map (x.num :: ·)
theorem qk6 : ∀(n:Nat) (p:List Int),p.length<=n->Srt n (nest p)
 | 0,p,h=>by rw [List.length_eq_zero_iff.1 (by omega:p.length=0)];rfl
 | n+1,[],_=>Srt.nil _
 | n+1,k :: r,h=>⟨List.pairwise_singleton ..,fun x hx=>by
  obtain rfl:=List.mem_singleton.1 hx
  exact qk6 n r (by simpa using h)⟩
end Go.Proofs.YtaaneecceiefoaaGreatDoor.Ma
namespace Go.Proofs.YtaaneecceiefoaaGreatDoor.Ma
def samL (f:List PMask->List PMask->Bool):List PMask->List PMask->Bool
 | [],[]=>true
 | x :: a,y :: b=>if x.num=y.num then(if f x.subs y.subs=true then samL f a b else false)else false
 | _,_=>false
def samB:Nat->List PMask->List PMask->Bool
 | 0,_,_=>true
 | n+1,a,b=>samL (samB n) a b
theorem qfh : ∀(n:Nat) {a b:List PMask},Dp n a->Dp n b->(samB n a b=true ↔ a=b)
 | 0,a,b,ha,hb=>by
  have h1:a=[]:=ha;have h2:b=[]:=hb;subst h1 h2;exact⟨fun _=>rfl,fun _=>rfl⟩
 | n+1,a,b,ha,hb=>by
  show samL (samB n) a b=true ↔ a=b
  induction a generalizing b with
  | nil=>cases b <;> simp [samL]
  | cons x a ih=>
   cases b with
   | nil=>simp [samL]
   | cons y b=>
    unfold samL;have i1:=qfh n (ha x (List.mem_cons_self ..)) (hb y (List.mem_cons_self ..));have i2:=ih (b:=b) (fun z hz=>ha z (List.mem_cons_of_mem _ hz)) (fun z hz=>hb z (List.mem_cons_of_mem _ hz));constructor
    ·intro h
     split at h
     ·rename_i e1
      split at h
      ·rename_i e2
       rw [PMask.ext2 e1 (i1.1 e2),i2.1 h]
      ·cases h
     ·cases h
    ·intro h
     cases h;rw [if_pos rfl,if_pos (i1.2 rfl)];exact i2.2 rfl
theorem qmj {n:Nat} {a:List PMask} (h:Dp n a):samB n a a=true:=(qfh n h h).2 rfl
def cntGo (f:List PMask->Nat):List PMask->Nat
 | []=>0
 | x :: r=>(if whole x then 1 else f x.subs)+cntGo f r
def cnt:Nat->List PMask->Nat
 | 0,_=>0
 | n+1,l=>cntGo (cnt n) l
theorem qkd {f:List PMask->List PMask->Bool} : ∀{a b:List PMask},a.length ≠ b.length->samL f a b=false
 | [],[],h=>absurd rfl h
 | [],_ :: _,_=>rfl
 | _ :: _,[],_=>rfl
 | x :: a,y :: b,h=>by
  unfold samL;rw [qkd (f:=f) (a:=a) (b:=b) (fun e=>h (by simp [e]))]
  split
  ·split <;> rfl
  ·rfl
theorem qe1 {α:Type} {l:List α} {k:Nat} (h:k<l.length):l.drop k=l[k] :: l.drop (k+1):=List.drop_eq_getElem_cons h
theorem find_at {l:List PMask} {k:Nat} (h:k<l.length) (q:Int):find (l.drop k) q=if l[k].num=q then some l[k]else find (l.drop (k+1)) q:=by rw [qe1 h,qal]
theorem fm_at {α β:Type} {f:α->Option β} {l:List α} {k:Nat} (h:k<l.length):(l.drop k).filterMap f=(f l[k]).toList ++ (l.drop (k+1)).filterMap f:=by
 rw [qe1 h,List.filterMap_cons];cases f l[k] <;> rfl
theorem map_at {α β:Type} {f:α->β} {l:List α} {k:Nat} (h:k<l.length):(l.drop k).map f=f l[k] :: (l.drop (k+1)).map f:=by rw [qe1 h,List.map_cons]
theorem qng {α:Type} {f:α->Bool} {l:List α} {k:Nat} (h:k<l.length):(l.drop k).filter f=(if f l[k]=true then [l[k]]else []) ++ (l.drop (k+1)).filter f:=by
 rw [qe1 h,List.filter_cons]
 split <;> rfl
theorem all_at {α:Type} {f:α->Bool} {l:List α} {k:Nat} (h:k<l.length):(l.drop k).all f=(f l[k] && (l.drop (k+1)).all f):=by rw [qe1 h,List.all_cons]
def pvM (l:List PMask):Nat->Option Int
 | 0=>none
 | k+1=>(l[k]?).map PMask.num
theorem qhe {l:List PMask} {k:Nat} (h:k<l.length):pvM l (k+1)=some l[k].num:=by
 show(l[k]?).map _=_
 rw [List.getElem?_eq_getElem h];rfl
theorem samL_at {f:List PMask->List PMask->Bool} {a b:List PMask} {k:Nat} (ha:k<a.length) (hb:k<b.length):samL f (a.drop k) (b.drop k)=if a[k].num=b[k].num then(if f a[k].subs b[k].subs=true then samL f (a.drop (k+1)) (b.drop (k+1))else false)else false:=by
 rw [qe1 ha,qe1 hb];rfl
end Go.Proofs.YtaaneecceiefoaaGreatDoor.Ma
namespace Go.Proofs.YtaaneecceiefoaaGreatDoor.Ma
theorem cov_self {n:Nat} {y:PMask} (h:Srt n y.subs):whole y=true ∨ (whole y=false/\qbs n y.subs y.subs=true):=by
 cases hw:whole y with
 | true=>exact .inl rfl
 | false=>exact .inr ⟨rfl,qco n h⟩
theorem qdp : ∀(n:Nat) {a b:List PMask},Srt n a->Srt n b->qbs n (union n a b) a=true
 | 0,_,_,_,_=>rfl
 | n+1,a,b,ha,hb=>covers_iff.2 fun y hy=>by
  have hf:=qc8 ha.1 hy;rw [qbz ha.1 hb.1,hf];cases eb:find b y.num with
  | none=>exact⟨y,rfl,cov_self (ha.2 y hy)⟩
  | some z=>
   refine⟨joinF (union n) y z,rfl,?_⟩;have hz:=(qac eb).1;unfold joinF;cases hwy:whole y with
   | true=>exact .inl rfl
   | false=>
    cases hwz:whole z with
    | true=>exact .inl rfl
    | false=>exact .inr ⟨rfl,qdp n (ha.2 y hy) (hb.2 z hz)⟩
theorem qjr (n:Nat) {a b:List PMask} (ha:Srt n a) (hb:Srt n b):qbs n (union n a b) b=true:=by
 rw [union_comm n ha hb];exact qdp n hb ha
theorem qh1 : ∀(n:Nat) {a b:List PMask},Srt n a->Srt n b->qbs n a (meet n a b)=true
 | 0,_,_,_,_=>rfl
 | n+1,a,b,ha,hb=>covers_iff.2 fun y hy=>by
  obtain⟨x,hx,hp⟩:=List.mem_filterMap.1 hy;have hn:=qfl hp;refine⟨x,by rw [hn];exact qc8 ha.1 hx,?_⟩;unfold pickO at hp;obtain⟨z,hz,hm⟩:=Option.bind_eq_some_iff.1 hp;unfold meetO at hm;cases hwx:whole x with
  | true=>exact .inl rfl
  | false=>
   rw [if_neg (by rw [hwx];exact Bool.false_ne_true)]at hm
   split at hm
   ·cases hm
    exact .inr ⟨hwx,qco n (ha.2 _ hx)⟩
   ·split at hm
    ·cases hm
    ·rename_i he
     cases hm;refine .inr ⟨?_,qh1 n (ha.2 x hx) (hb.2 z (qac hz).1)⟩;show(meet n x.subs z.subs).isEmpty=false
     simpa using he
theorem qhv {n:Nat} {a b:List PMask} (ha:Srt n a) (hb:Srt n b) (hu:Dp n (union n a b)):qbs n a b=samB n (union n a b) a:=by
 rw [Bool.eq_iff_iff,qcx n ha hb,qfh n hu ha.dp]
theorem qjs {n:Nat} {a b:List PMask} (ha:Srt n a) (hb:Srt n b) (hm:Dp n (meet n a b)):qbs n a b=samB n (meet n a b) b:=by
 rw [Bool.eq_iff_iff,qdo n ha hb,qfh n hm hb.dp]
end Go.Proofs.YtaaneecceiefoaaGreatDoor.Ma
namespace Go.Proofs.YtaaneecceiefoaaGreatDoor
open Go.RowKit
theorem qbr (w:World) (g:Nat) (cs:Array Value):w.grownBy (w.setRow g cs) (some g):=
 ⟨rfl,rfl,rfl,by simp,fun k hk hne=>setRow_other w g k cs (fun e=>hne (by rw [e]))⟩
theorem ST.setrowbox0 {w0 w:World} {R:List Row} {X:List Box} {b:Box} (h:ST w0 R (b :: X) w) (cs:Array Value):ST w0 R (⟨b.g,cs,b.T⟩ :: X) (w.setRow b.g cs):=by
 have hb:=h.boxes b (List.mem_cons_self ..);have hg:=qbr w b.g cs;refine⟨Below.grown h.bel hg h.bel.size (fun k hk=>by cases hk;exact hb.1),fun s hs=>?_,fun c hc=>?_,h.nd⟩
 ·refine(h.rows s hs).kept hg ?_
  cases e:s.v.ownBlock with
  | none=>exact .inl rfl
  | some g=>exact .inr fun e2=>h.box_ne.1 g (qey hs e) (by injection e2)
 ·rcases List.mem_cons.1 hc with rfl|hc
  ·exact⟨hb.1,setRow_heap w b.g _ _ _ _ hb.2⟩
  ·have h2:=h.boxes c (List.mem_cons_of_mem _ hc)
   exact⟨h2.1,(setRow_other w b.g c.g cs (h.box_ne.1 c.g (qez hc))).trans h2.2⟩
theorem ST.setrowbox {w0 w:World} {R:List Row} {X:List Box} {b:Box} (h:ST w0 R X w) (j:Nat) (hj:X[j]? = some b) (cs:Array Value):ST w0 R (X.set j ⟨b.g,cs,b.T⟩) (w.setRow b.g cs):=
 ((h.perm (List.Perm.refl _) (qej X j b hj b).1).setrowbox0 cs).perm (List.Perm.refl _) (qej X j b hj _).2.symm
section
variable {P : Program} {ops : Array Oper} {rest : List Oper} {o : Oper} {a : Act} {w : World} {Q : Exit → Act → World → Prop}
theorem qa5 (hgd:o.guard=none) (ty:TypeId) (x:Operand) (ho:o.op=.load ty x) (g:Nat) (cs:Array Value) (t:TypeId) (hx:a.eval x=.pointer (some ⟨g,0,none⟩)) (hg:w.heap[g]? = some (.cells cs t (0,0))) (d:TypeDesc) (hu:P.underlying ty=some d) (hd:(match d with | .struct _ | .array _ _=>true|_=>false)=true) (hi:(P.info? ty).map (·.size)=some cs.size)
  (h:wpList P ops Q rest (a.put o.dst (.agg cs)) w):wpList P ops Q (o :: rest) a w:=by
 refine wpList_plain hgd fun K hK=>?_
 have hl:=run_loadVar_row (P:=P) w g t ty cs (0,0) d hg hu hd hi;unfold Oper.wp execOp;simp only [ho,hx,Instr.loadAt,Instr.sureAddr,Sem.run_bind,Sem.run_pure,Result.andThen_ok,hl];exact hK _ _ h
theorem qae (hgd:o.guard=none) (ty:TypeId) (x:Operand) (ho:o.op=.load ty x) (b off n:Nat) (vs:List Value) (hx:a.eval x=.pointer (some ⟨b,off,none⟩)) (hc : ∀i v,vs[i]? = some v->w.cell? ⟨b,off+i,none⟩=some v) (aE : ∀w,(isAgg ty).run P w=.ok true w) (zE : ∀w,(Go.sizeOf ty).run P w=.ok n w) (hn:vs.length=n)
  (h:wpList P ops Q rest (a.put o.dst (.agg vs.toArray)) w):wpList P ops Q (o :: rest) a w:=by
 refine wpList_plain hgd fun K hK=>?_
 have hl:Sem.run P (loadCellsFrom ⟨b,off,none⟩ 0 n #[]) w=.ok vs.toArray w:=run_loadCellsFrom_list P w ⟨b,off,none⟩ vs n hn (fun i v hi=>by rw [Addr.add_lit];exact hc i v hi)
 have hv:(loadVar ty ⟨b,off,none⟩).run P w=.ok (.agg vs.toArray) w:=by
  unfold loadVar loadCells;simp only [Sem.run_bind,aE,Result.andThen_ok,if_true,zE,hl,Sem.run_pure]
 unfold Oper.wp execOp;simp only [ho,hx,Instr.loadAt,Instr.sureAddr,Sem.run_bind,Sem.run_pure,Result.andThen_ok,hv];exact hK _ _ h
theorem qab (hgd:o.guard=none) (ty:TypeId) (x y:Operand) (ho:o.op=.store ty x y) (g:Nat) (cells old:Array Value) (t:TypeId) (hx:a.eval x=.pointer (some ⟨g,0,none⟩)) (hy:a.eval y=.agg cells) (hg:w.heap[g]? = some (.cells old t (0,0))) (hi:(P.info? ty).map (·.size)=some cells.size) (hold:old.size=cells.size) (h1:cells.all (·.oneCell')=true)
  (h:wpList P ops Q rest (a.put o.dst undef) (w.setRow g cells)):wpList P ops Q (o :: rest) a w:=
 wpList_plain hgd fun K hK=>wp_store_row ty x y ho g cells hx hy t old hg hi hold h1 (hK _ _ h)
theorem qa3 {old:Array Value} {t:TypeId} (hgd:o.guard=none) (ty:TypeId) (x y:Operand) (ho:o.op=.store ty x y) (w1:World) (hw:w=w1.alloc (.cells old t)) (g:Nat) (hgw:w1.heap.size=g) (cells:Array Value) (hx:a.eval x=.pointer (some ⟨g,0,none⟩)) (hy:a.eval y=.agg cells) (hi:(P.info? ty).map (·.size)=some cells.size) (hold:old.size=cells.size) (h1:cells.all (·.oneCell')=true)
  (h:wpList P ops Q rest (a.put o.dst undef) (w1.alloc (.cells cells t))):wpList P ops Q (o :: rest) a w:=by
 subst hw hgw;refine qab hgd ty x y ho w1.heap.size cells old t hx hy (heap_alloc_new _ _) hi hold h1 ?_;rw [World.setRow_alloc_new];exact h
theorem qed (hgd:o.guard=none) (ty:TypeId) (x y:Operand) (ho:o.op=.store ty x y) (g off:Nat) (cur new:Array Value) (vs:List Value) (t:TypeId) (hx:a.eval x=.pointer (some ⟨g,off,none⟩)) (hy:a.eval y=.agg vs.toArray) (hg:w.heap[g]? = some (.cells cur t (0,0))) (hi:(P.info? ty).map (·.size)=some vs.length) (hl:off+vs.length<=cur.size) (h1 : ∀u ∈ vs,u.oneCell'=true) (hn:(cur.toList.take off ++ vs ++ cur.toList.drop (off+vs.length)).toArray=new)
  (h:wpList P ops Q rest (a.put o.dst undef) (w.setRow g new)):wpList P ops Q (o :: rest) a w:=by
 subst hn;refine wpList_plain hgd fun K hK=>?_
 have hs:=run_storeCells_at (P:=P) g off t vs 0 cur w hg (by omega) h1;rw [Nat.add_zero]at hs
 have hv:(storeVar ty ⟨g,off,none⟩ (.agg vs.toArray)).run P w=.ok () (w.setRow g (cur.toList.take off ++ vs ++ cur.toList.drop (off+vs.length)).toArray):=by
  cases hq:P.info? ty with
  | none=>simp [hq]at hi
  | some i=>
   have hsz:vs.length=i.size:=by simp [hq]at hi;omega
   simp [storeVar,sizeOf,typeInfo,hq,Value.cells,hsz];rw [←hsz]
   simpa using hs
 unfold Oper.wp execOp;simp only [ho,hx,hy,Instr.storeAt,Instr.sureAddr,Sem.run_bind,Sem.run_pure,Result.andThen_ok,hv];exact hK _ _ h
end
theorem qle : ∀(vs:List Value) (k:Nat) (z:Array Value),k+vs.length=z.size->List.foldl (fun(cs:Array Value) (x:Value × Nat)=>cs.setIfInBounds x.2 x.1) z (vs.zipIdx k)=(z.toList.take k ++ vs).toArray
 | [],k,z,h=>by
  simp only [List.length_nil,Nat.add_zero]at h;subst h;rw [List.append_nil,List.take_of_length_le (by simp)];rfl
 | v :: r,k,z,h=>by
  simp only [List.length_cons]at h;rw [List.zipIdx_cons,List.foldl_cons,qle r (k+1) _ (by rw [Array.size_setIfInBounds];omega),Array.toList_setIfInBounds];have hk:k<z.toList.length:=by rw [Array.length_toList];omega
  congr 1
  rw [List.take_succ_eq_append_getElem (by rw [List.length_set];exact hk),List.getElem_set_self,List.take_set_of_le (Nat.le_refl _),List.append_assoc];rfl
theorem qdn {vs:List Value} {z:Array Value} (h:z.size=vs.toArray.size):List.foldl (fun(cs:Array Value) (x:Value × Nat)=>cs.setIfInBounds x.2 x.1) z vs.zipIdx=vs.toArray:=by
 rw [qle vs 0 z (by rw [h];simp)];simp
end Go.Proofs.YtaaneecceiefoaaGreatDoor
namespace Go.Proofs.YtaaneecceiefoaaGreatDoor.Ma
structure Names where
 name:List UInt8->Int->List UInt8
 byName:List UInt8->List UInt8->Option (Int × Bool × List UInt8)
 part:List UInt8->Bool
structure Names.Ok (E:Env) (M:Names):Prop where
 clean : ∀p,M.part p=true->p ≠ []/\46 ∉ p/\44 ∉ p
 part : ∀nm k f,E.fld nm k=some f->M.part (M.name nm k)=true
 back : ∀nm k f,E.has nm=true->E.fld nm k=some f->∃b,M.byName nm (M.name nm k)=some (k,b,f.2)/\(f.1=true->b=true)
 fwd : ∀nm p k b t,E.has nm=true->M.byName nm p=some (k,b,t)->∃s,E.fld nm k=some (s,t)/\(b=true->s=true)
def onFst (b:UInt8):List (List UInt8)->List (List UInt8)
 | [] => [[b]]
 | p :: r=>(b :: p) :: r
def qba (c:UInt8):List UInt8->List (List UInt8)
 | [] => [[]]
 | b :: r=>if b=c then [] :: qba c r else onFst b (qba c r)
def glue (c:UInt8):List (List UInt8)->List UInt8
 | [] => []
 | [p]=>p
 | p :: q :: r=>p ++ c :: glue c (q :: r)
theorem qdk (c b:UInt8) (r:List UInt8):qba c (b :: r)=if b=c then [] :: qba c r else onFst b (qba c r):=rfl
def walkP (E:Env) (M:Names):List UInt8->List (List UInt8)->Int × List Int
 | _,[]=>(0,[])
 | nm,p :: r=>match M.byName nm p with
  | none=>(8,[])
  | some f=>if r.isEmpty then(0,[f.1])else if f.2.1 && E.has f.2.2 then(if(walkP E M f.2.2 r).1=0 then(0,f.1 :: (walkP E M f.2.2 r).2)else((walkP E M f.2.2 r).1,[]))else(12,[])
def pathM (E:Env) (M:Names) (nm t:List UInt8):Int × List PMask:=
 if(qba 46 t).all M.part then(if E.has nm then(if(walkP E M nm (qba 46 t)).1=0 then(0,nest (walkP E M nm (qba 46 t)).2)else((walkP E M nm (qba 46 t)).1,[]))else(10,[]))else(2,[])
def qgh (E:Env) (M:Names) (n:Nat) (nm:List UInt8):List PMask->List (List UInt8)->Int × List PMask
 | acc,[]=>(0,acc)
 | acc,t :: r=>if(pathM E M nm t).1 ≠ 0 then((pathM E M nm t).1,[])else qgh E M n nm (union n acc (pathM E M nm t).2) r
def parse (E:Env) (M:Names) (n:Nat) (nm t:List UInt8):Int × List PMask:=
 if E.has nm=false then(10,[])else if t=[]then(0,[])else if 32<(qba 44 t).length then(3,[])else qgh E M n nm [] (qba 44 t)
def textN (E:Env) (M:Names):Nat->List UInt8->List PMask->List (List (List UInt8))
 | 0,_,_ => []
 | n+1,nm,l=>l.flatMap fun x=>if whole x then [[M.name nm x.num]]else(textN E M n (E.ty nm x.num) x.subs).map (M.name nm x.num :: ·)
def text (E:Env) (M:Names) (n:Nat) (nm:List UInt8) (l:List PMask):List UInt8:=
 if chk E n nm l ≠ 0 then []else glue 44 ((textN E M n nm l).map (glue 46))
theorem qie (c:UInt8) (l:List UInt8):qba c l ≠ []:=by
 cases l with
 | nil=>simp [qba]
 | cons b r=>
  rw [qdk]
  split
  ·simp
  ·cases qba c r <;> simp [onFst]
theorem qd7 (c:UInt8) : ∀l:List UInt8,(qba c l).length<=l.length+1
 | []=>by simp [qba]
 | b :: r=>by
  have ih:=qd7 c r;rw [qdk]
  split
  ·simpa using ih
  ·cases h:qba c r with
   | nil=>simp [onFst]
   | cons p q=>rw [h]at ih;simp only [onFst,List.length_cons]at ih ⊢;omega
theorem qd8 (c:UInt8) : ∀(l:List UInt8), ∀p ∈ qba c l,p.length<=l.length
 | [],p,h=>by
  obtain rfl:=List.mem_singleton.1 (show p ∈ [[]]from h);simp
 | b :: r,p,h=>by
  rw [qdk]at h
  split at h
  ·rcases List.mem_cons.1 h with rfl|h
   ·simp
   ·have:=qd8 c r p h
    rw [List.length_cons];omega
  ·cases e:qba c r with
   | nil=>exact absurd e (qie c r)
   | cons q s=>
    rw [e]at h;rcases List.mem_cons.1 (show p ∈ (b :: q) :: s from h)with rfl|h
    ·have:=qd8 c r q (by rw [e];exact List.mem_cons_self ..)
     simpa using this
    ·have:=qd8 c r p (by rw [e];exact List.mem_cons_of_mem _ h)
     rw [List.length_cons];omega
end Go.Proofs.YtaaneecceiefoaaGreatDoor.Ma
namespace Go.Proofs.YtaaneecceiefoaaGreatDoor.Ma
open Ck
def qbb (f:PField):Bool:=decide (f.tk=10) && (decide (f.card=1) || decide (f.card=2))
def qas (m:PMsg) (k:Int):Option PField:=m.fields.find? fun f=>decide (f.num=k)
def qly:Str:=[97,108,105,97,115]
def qck (l:List PNote) (nm:Str):Bool:=match l.find? (fun n=>decide (n.name=qly))with
 | some n=>decide (n.val.k=7) && decide (n.val.t=nm)
 | none=>false
def qgx (m:PMsg) (nm:Str):Option PField:=match m.fields.find? (fun f=>decide (f.name=nm))with
 | some f=>some f
 | none=>m.fields.find? (fun f=>qck f.notes nm)
def qho (f:PField):Bool:=decide (f.tk=10) && !decide (f.card=4) && !decide (f.card=5)
def envOf (s:PSchema):Env where
 has nm:=(msgOf s nm).isSome
 fld nm k:=((msgOf s nm).bind fun m=>qas m k).map fun f=>(qbb f,f.tn)
 nums nm:=((msgOf s nm).map fun m=>m.fields.map (·.num)).getD []
def qa7 (s:PSchema):Names where
 name nm k:=(((msgOf s nm).bind fun m=>qas m k).map (·.name)).getD []
 byName nm p:=((msgOf s nm).bind fun m=>qgx m p).map fun f=>(f.num,qho f,f.tn)
 part:=Id.isPart
end Go.Proofs.YtaaneecceiefoaaGreatDoor.Ma
