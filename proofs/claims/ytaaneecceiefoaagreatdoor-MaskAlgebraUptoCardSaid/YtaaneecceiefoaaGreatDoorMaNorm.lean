import Derived.Test.YtaaneecceiefoaaGreatDoorMaMem
import Derived.Shelf.SlSortCmp.WholeK
import Derived.Test.YtaaneecceiefoaaGreatDoorOrd
set_option maxRecDepth 100000
set_option maxHeartbeats 4000000
set_option linter.unusedVariables false
set_option linter.unusedSimpArgs false
namespace Go.Proofs.YtaaneecceiefoaaGreatDoor
open Go.RowKit Ma
theorem qep {α:Type} {enc:α->List Value} {k:Nat} (hk : ∀x,(enc x).length=k) (k0:0<k) : ∀(l:List α) (t:Nat),(l.flatMap enc)[t]? = (l[t / k]?).bind (fun x=>(enc x)[t % k]?)
 | [],t=>by simp
 | a :: l,t=>by
  rw [List.flatMap_cons];rcases Nat.lt_or_ge t k with ht|ht
  ·rw [List.getElem?_append_left (by rw [hk];exact ht),Nat.div_eq_of_lt ht,Nat.mod_eq_of_lt ht]
   rfl
  ·rw [List.getElem?_append_right (by rw [hk];exact ht),hk,qep hk k0 l (t-k)]
   obtain⟨u,rfl⟩ : ∃u,t=u+k:=⟨t-k,by omega⟩;rw [Nat.add_sub_cancel,Nat.add_div_right u k0,Nat.add_mod_right];rfl
theorem qcw {α:Type} {enc:α->List Value} {k:Nat} (hk : ∀x,(enc x).length=k) : ∀(l:List α),(l.flatMap enc).length=l.length*k
 | []=>by simp
 | a :: l=>by rw [List.flatMap_cons,List.length_append,hk,qcw hk l,List.length_cons,Nat.add_mul,Nat.one_mul,Nat.add_comm]
theorem qit {α:Type} [Inhabited α] {enc:α->List Value} {k:Nat} (hk : ∀x,(enc x).length=k) (k0:0<k) (d:Array α) (t:Nat) (ht:t<d.size*k):(d.toList.flatMap enc)[t]? = some ((Sort.flatK enc k d)[t]!):=by
 have hd:t / k<d.size:=(Nat.div_lt_iff_lt_mul k0).2 ht;have hm:t % k<k:=Nat.mod_lt _ k0;rw [Sort.get_flatK _ _ _ _ ht,qep hk k0,Array.getElem?_toList,Array.getElem?_eq_getElem hd,getElem!_pos d _ hd];have hl:t % k<(enc d[t / k]).length:=by rw [hk];exact hm
 show(enc d[t / k])[t % k]? = _
 rw [List.getElem?_eq_getElem hl,getElem!_pos (enc d[t / k]) (t % k) hl]
theorem qkx {α:Type} [Inhabited α] {enc:α->List Value} {k:Nat} (hk : ∀x,(enc x).length=k) (k0:0<k) {w:World} {B:Nat} {e:TypeId} {g cap:Nat} {d:Array α} (h:w.ownsRow B e k (.slice (some ⟨g,0,none⟩) d.size cap) d.size (d.toList.flatMap enc)) :
  Sort.HoldsK enc k w g 0 d/\g<w.heap.size/\∀(d':Array α) (n:Nat) (os:Array Obj),d'.size=d.size →
   (sortWorldK enc k w g 0 n d' os).ownsRow B e k (.slice (some ⟨g,0,none⟩) d.size cap) d.size (d'.toList.flatMap enc)/\w.grownBy (sortWorldK enc k w g 0 n d' os) (some g):=by
 rcases h.2 with⟨h1,_⟩|⟨g',cap',cur,h1,hB,hg,hn,hc,hs,hx⟩
 ·cases h1
 cases h1;have hle:d.size*k<=cur.size:=by rw [hs];exact Nat.mul_le_mul_right k hn
 have hcur : ∀t,t<d.size*k->cur[t]? = some ((Sort.flatK enc k d)[t]!):=fun t ht=>by
  rw [←qit hk k0 d t ht, ←hx,List.getElem?_take_of_lt ht,Array.getElem?_toList]
 have hglt:=(Array.getElem?_eq_some_iff.1 hg).1;refine⟨fun j hj=>?_,hglt,fun d' n os hsz=>⟨⟨?_,.inr ⟨g,cap,Sort.putCells id 0 (Sort.flatK enc k d') cur,rfl,hB,?_,hn,hc,?_,?_⟩⟩,?_⟩⟩
 ·rw [Sort.size_flatK]at hj
  rw [Nat.zero_add];exact⟨(Lib.cell_of_heap hg j).trans (hcur j hj),Lib.frozen_of_heap hg j⟩
 ·rw [qcw hk,Array.length_toList,hsz]
 ·unfold sortWorldK Sort.grow Sort.putRowK Sort.putRow Sort.mapBlock Sort.ahead
  show((w.heap.modify g _) ++ os)[g]? = _
  rw [Array.getElem?_append_left (by simpa using hglt),Array.getElem?_modify,if_pos rfl,hg];rfl
 ·unfold Sort.putCells
  rw [Array.size_mapIdx,hs]
 ·refine List.ext_getElem? fun t=>?_
  rcases Nat.lt_or_ge t (d.size*k)with ht|ht
  ·rw [List.getElem?_take_of_lt ht,qit hk k0 d' t (by rw [hsz];exact ht),Array.getElem?_toList]
   unfold Sort.putCells;rw [Array.getElem?_mapIdx,hcur t ht,Option.map_some,if_pos ⟨Nat.zero_le _,by rw [Sort.size_flatK,hsz];omega⟩];rfl
  ·rw [List.getElem?_eq_none (by rw [List.length_take];omega),List.getElem?_eq_none (by rw [qcw hk,Array.length_toList,hsz];exact ht)]
 ·refine⟨rfl,rfl,rfl,?_,fun j hj hne=>?_⟩
  ·show w.heap.size<=((w.heap.modify g _) ++ os).size
   rw [Array.size_append,Array.size_modify];omega
  ·show((w.heap.modify g _) ++ os)[j]? = _
   rw [Array.getElem?_append_left (by simpa using hj),Array.getElem?_modify,if_neg (fun e=>hne (by rw [e]))]
structure ME where
 x:PMask
 p:Option Addr
 c:Nat
instance:Inhabited ME:=⟨⟨.mk 0 [],none,0⟩⟩
def meC (e:ME):List Value:=[.int .i64 e.x.num,.slice e.p e.x.subs.length e.c]
def MEok (A:Nat->Prop) (n:Nat) (w:World) (e:ME):Prop:=MaskD A n w (.slice e.p e.x.subs.length e.c) e.x.subs
theorem qgn (e:ME):(meC e).length=2:=rfl
theorem meC_one (e:ME) : ∀v ∈ meC e,v.oneCell'=true:=by
 intro v hv;simp only [meC,List.mem_cons,List.not_mem_nil,or_false]at hv;rcases hv with rfl|rfl <;> rfl
theorem qjh {α:Type} {enc:α->List Value} {k:Nat} (hk : ∀x,(enc x).length=k) {w:World} {B:Nat} {e:TypeId} {v:Value} {L:List α} (h:w.ownsRow B e k v L.length (L.flatMap enc)):(v=.slice none 0 0/\L=[]) ∨ ∃g c,v=.slice (some ⟨g,0,none⟩) L.length c/\B<=g/\g<w.heap.size/\L.length<=c/\∀i x,L[i]? = some x->∀j u,(enc x)[j]? = some u->w.cell? ⟨g,i*k+j,none⟩=some u:=by
 rcases h.2 with⟨rfl,h0⟩|⟨g,cap,cur,rfl,h1,h2,h3,h4,h5,h6⟩
 ·exact .inl ⟨rfl,List.length_eq_zero_iff.1 h0⟩
 ·refine .inr ⟨g,cap,rfl,h1,(Array.getElem?_eq_some_iff.1 h2).1,h3,fun i x hx j u hu=>?_⟩
  have hj:j<k:=by
   have:=(List.getElem?_eq_some_iff.1 hu).1;rwa [hk]at this
  have:=h.cells (g:=g) rfl (i*k+j) u (by
   rw [qep hk (by omega),Nat.mul_comm i k,Nat.mul_add_div (by omega),Nat.mul_add_mod,Nat.div_eq_of_lt hj,Nat.mod_eq_of_lt hj,Nat.add_zero,hx]
   exact hu)
  rw [Addr.add_lit]at this
  simpa using this
theorem qmz {A A':Nat->Prop} {n:Nat} {w:World} {B:Nat} {e:TypeId} {v:Value} {L:List ME} (h:w.ownsRow B e 2 v L.length (L.flatMap meC)) (hl:L.length<=140737488355328) (hV : ∀x ∈ L,MEok A n w x) (hA : ∀b,A b->A' b) (hB : ∀b,B<=b->A' b):MaskD A' (n+1) w v (L.map (·.x)):=by
 rcases qjh qgn h with⟨rfl,rfl⟩|⟨g,c,rfl,hg,hs,hc,hel⟩
 ·exact MaskD.empty (n+1) w none 0
 ·refine⟨some ⟨g,0,none⟩,c,by rw [List.length_map],by rw [List.length_map];exact hl,by rw [List.length_map];exact hc,fun i y hy=>?_⟩
  rw [List.getElem?_map]at hy;cases hx:L[i]? with
  | none=>rw [hx]at hy;cases hy
  | some x=>
   rw [hx]at hy;cases hy;have e0:=hel i x hx 0 _ rfl;have e1:=hel i x hx 1 _ rfl;refine⟨g,0,.slice x.p x.x.subs.length x.c,rfl,hs,hB g hg,by simpa using e0,by simpa using e1,(hV x (List.mem_of_getElem? hx)).weak (fun b hb _=>hA b hb)⟩
def medge (v:Value) (L:List ME):Row:=⟨61,2,v,L.length,L.flatMap meC⟩
theorem qaw {w0 w:World} {R:List Row} {X:List Box} {v:Value} {L:List ME} {e:ME} (h:ST w0 (⟨61,2,v,L.length+1,L.flatMap meC ++ meC e⟩ :: R) X w):ST w0 (medge v (L ++ [e]) :: R) X w:=by
 unfold medge;rw [List.length_append,List.flatMap_append]
 simpa using h
theorem qe6:(Tryz.prog.info? 61).map (fun i=>(i.zero,i.size,i.bytes))=some (some (.agg #[.int .i64 0,.slice none 0 0]),2,32):=by kernel_rfl
def Off (A:Nat->Prop) (N:Nat) (v:Value) (b:Nat):Prop:=A b ∨ N<=b/\some b ≠ v.ownBlock
theorem MEok.grown {A:Nat->Prop} {N n:Nat} {w w':World} {e:ME} {v:Value} {g m c:Nat} (h:MEok (Off A N v) n w e) (hg:w.grownBy w' v.ownBlock) (hA : ∀b,A b->b<N) (hv : ∀k,v.ownBlock=some k->N<=k) (hfr:v.ownBlock=some g ∨ g=w.heap.size):MEok (Off A N (.slice (some ⟨g,0,none⟩) m c)) n w' e:=by
 have h1:MaskD (fun b=>Off A N v b/\b<w.heap.size) n w (.slice e.p e.x.subs.length e.c) e.x.subs:=MaskD.weak h (fun b hb hl=>⟨hb,hl⟩);refine MaskD.weak (h1.kept (Keep.grown hg fun b hb e2=>?_)) (fun b hb _=>?_)
 ·rcases hb.1 with hb1|hb1
  ·have:=hA b hb1
   have:=hv b e2.symm;omega
  ·exact hb1.2 e2
 ·rcases hb.1 with hb1|hb1
  ·exact .inl hb1
  ·refine .inr ⟨hb1.1,fun e2=>?_⟩
   have e3:b=g:=by injection e2
   subst e3;rcases hfr with h4|h4
   ·exact hb1.2 h4.symm
   ·have:=hb.2
    omega
def RowOK (A:Nat->Prop) (N n:Nat) (v:Value) (L:List ME) (w:World):Prop := ∀e ∈ L,MEok (Off A N v) n w e
theorem RowOK.nil (A:Nat->Prop) (N n:Nat) (v:Value) (w:World):RowOK A N n v [] w:=fun e he=>by cases he
theorem RowOK.bel {A:Nat->Prop} {N n:Nat} {v:Value} {L:List ME} {w w':World} (h:RowOK A N n v L w) (k:Bel w w'):RowOK A N n v L w':=fun e he=>MaskD.bel (h e he) k
theorem RowOK.snoc {A:Nat->Prop} {w0:World} {n:Nat} {v:Value} {L:List ME} {w w':World} {e:ME} {R:List Row} {X:List Box} {g m c:Nat} (h:RowOK A w0.heap.size n v L w) (hS:ST w0 (medge v L :: R) X w) (hA : ∀b,A b->b<w0.heap.size) (he:MEok (Off A w0.heap.size v) n w e) (hg:w.grownBy w' v.ownBlock) {H:Nat} (hfr:v.ownBlock=some g ∨ g=H) (hH:w.heap.size=H):RowOK A w0.heap.size n (.slice (some ⟨g,0,none⟩) m c) (L ++ [e]) w':=by
 subst hH;have hv : ∀k,v.ownBlock=some k->w0.heap.size<=k:=fun k hk=>((hS.row 0 rfl).lt k hk).1
 intro x hx;rcases List.mem_append.1 hx with hx|hx
 ·exact(h x hx).grown hg hA hv hfr
 ·rw [List.mem_singleton]at hx
  subst hx;exact MEok.grown he hg hA hv hfr
theorem qek {A:Nat->Prop} {w0 W:World} {v:Value} {L:List ME} {R:List Row} {X:List Box} (hS:ST w0 (medge v L :: R) X W) {b:Nat} (hb:A b ∨ W.heap.size<=b):Off A w0.heap.size v b:=by
 rcases hb with hb|hb
 ·exact .inl hb
 ·refine .inr ⟨Nat.le_trans hS.bel.size hb,fun e=>?_⟩
  have:=((hS.row 0 rfl).lt b e.symm).2;omega
theorem qgk {A:Nat->Prop} {N n:Nat} {v:Value} {w:World} {e:ME} (h:MaskD A n w (.slice e.p e.x.subs.length e.c) e.x.subs):MEok (Off A N v) n w e:=h.weak (fun b hb _=>.inl hb)
def qe2 (A:Nat->Prop) (n:Nat) (w:World) (l:List PMask) (e:Ending) (w':World):Prop := ∃v,e=.returned v/\MaskD (fun b=>A b ∨ w.heap.size<=b) n w' v l/\Bel w w'
theorem qfp {A:Nat->Prop} {n:Nat} {w0 w:World} {v:Value} {L:List ME} {R:List Row} {X:List Box} {l:List PMask} (hS:ST w0 (medge v L :: R) X w) (h:RowOK A w0.heap.size n v L w) (hl:L.length<=140737488355328) (e:L.map (·.x)=l):MaskD (fun b=>A b ∨ w0.heap.size<=b) (n+1) w v l:=by
 subst e;refine qmz (hS.row 0 rfl) hl h (fun b hb=>?_) (fun b hb=>.inr hb);rcases hb with hb|hb
 ·exact .inl hb
 ·exact .inr hb.1
end Go.Proofs.YtaaneecceiefoaaGreatDoor
namespace Go.Proofs.YtaaneecceiefoaaGreatDoor.Ma
theorem whole_iff {x:PMask}:whole x=true ↔ x.subs=[]:=by unfold whole;exact List.isEmpty_iff
theorem qjv (k:Int) (l:List PMask):whole (.mk k l)=l.isEmpty:=rfl
def meetO (f:List PMask->List PMask->List PMask) (x y:PMask):Option PMask:=if whole x then some y else if whole y then some x else if(f x.subs y.subs).isEmpty then none else some (.mk x.num (f x.subs y.subs))
def pickO (f:List PMask->List PMask->List PMask) (b:List PMask) (x:PMask):Option PMask:=(find b x.num).bind (meetO f x)
def meet:Nat->List PMask->List PMask->List PMask
 | 0,_,_ => []
 | n+1,a,b=>a.filterMap (pickO (meet n) b)
theorem qfl {f:List PMask->List PMask->List PMask} {b:List PMask} {x z:PMask} (h:pickO f b x=some z):z.num=x.num:=by
 unfold pickO at h;obtain⟨y,h1,h2⟩:=Option.bind_eq_some_iff.1 h;have hy:=(qac h1).2;unfold meetO at h2
 split at h2
 ·cases h2;exact hy
 ·split at h2
  ·cases h2;rfl
  ·split at h2
   ·cases h2
   ·cases h2;rfl
theorem qlj {F:PMask->Option PMask} (hF : ∀x z,F x=some z->z.num=x.num) : ∀{l:List PMask},Asc l->∀k,find (l.filterMap F) k=(find l k).bind F
 | [],_,_=>rfl
 | x :: l,h,k=>by
  have ih:=qlj hF h.tail k;rw [qal];by_cases e:x.num=k
  ·rw [if_pos e]
   show _=F x
   have hn:find l k=none:=qli h (by omega);rw [hn]at ih;cases q:F x with
   | none=>rw [List.filterMap_cons_none q,ih];rfl
   | some z=>rw [List.filterMap_cons_some q,qal,if_pos (by rw [hF x z q];exact e)]
  ·rw [if_neg e]
   cases q:F x with
   | none=>rw [List.filterMap_cons_none q,ih]
   | some z=>rw [List.filterMap_cons_some q,qal,if_neg (by rw [hF x z q];exact e),ih]
theorem asc_fm {F:PMask->Option PMask} (hF : ∀x z,F x=some z->z.num=x.num) : ∀{l:List PMask},Asc l->Asc (l.filterMap F)
 | [],_=>List.Pairwise.nil
 | x :: l,h=>by
  have ih:=asc_fm hF h.tail;cases q:F x with
  | none=>rw [List.filterMap_cons_none q];exact ih
  | some z=>
   rw [List.filterMap_cons_some q];refine List.pairwise_cons.2 ⟨fun u hu=>?_,ih⟩;obtain⟨v,hv,e⟩:=List.mem_filterMap.1 hu;rw [hF x z q,hF v u e];exact h.head v hv
theorem qnf {n:Nat} {a b:List PMask} (ha:Asc a) (k:Int):find (meet (n+1) a b) k=(find a k).bind (pickO (meet n) b):=qlj (fun _ _ h=>qfl h) ha k
theorem qf0 {n:Nat} {a b:List PMask} (ha:Asc a):Asc (meet n a b):=by
 cases n with
 | zero=>exact List.Pairwise.nil
 | succ n=>exact asc_fm (fun _ _ h=>qfl h) ha
def metO (f:List PMask->List PMask->List PMask):Option PMask->Option PMask->Option PMask
 | some x,some y=>meetO f x y
 | _,_=>none
theorem qc0 {n:Nat} {a b:List PMask} (ha:Asc a) (k:Int):find (meet (n+1) a b) k=metO (meet n) (find a k) (find b k):=by
 rw [qnf ha];cases e:find a k with
 | none=>rfl
 | some x=>
  show pickO _ b x=_
  unfold pickO;rw [(qac e).2];cases find b k <;> rfl
theorem qlb {f:List PMask->List PMask->List PMask} {x y:PMask} (h:x.num=y.num) (hf:f x.subs y.subs=f y.subs x.subs):joinF f x y=joinF f y x:=by
 unfold joinF;rw [h,hf,Bool.or_comm]
theorem union_comm : ∀(n:Nat) {a b:List PMask},Srt n a->Srt n b->union n a b=union n b a
 | 0,_,_,_,_=>rfl
 | n+1,a,b,ha,hb=>by
  refine ext (qdf ha.1 hb.1) (qdf hb.1 ha.1) fun k=>?_
  rw [qbz ha.1 hb.1,qbz hb.1 ha.1];cases ea:find a k with
  | none=>cases find b k <;> rfl
  | some x=>
   cases eb:find b k with
   | none=>rfl
   | some y=>
    obtain⟨m1,k1⟩:=qac ea;obtain⟨m2,k2⟩:=qac eb;exact congrArg some (qlb (k1.trans k2.symm) (union_comm n (ha.2 x m1) (hb.2 y m2)))
theorem meet_comm : ∀(n:Nat) {a b:List PMask},Srt n a->Srt n b->meet n a b=meet n b a
 | 0,_,_,_,_=>rfl
 | n+1,a,b,ha,hb=>by
  refine ext (qf0 ha.1) (qf0 hb.1) fun k=>?_
  rw [qc0 ha.1,qc0 hb.1];cases ea:find a k with
  | none=>cases find b k <;> rfl
  | some x=>
   cases eb:find b k with
   | none=>rfl
   | some y=>
    obtain⟨m1,k1⟩:=qac ea;obtain⟨m2,k2⟩:=qac eb;have ih:=meet_comm n (ha.2 x m1) (hb.2 y m2);have hk:=k1.trans k2.symm;show meetO _ x y=meetO _ y x
    unfold meetO;rw [ih,hk];cases hx:whole x <;> cases hy:whole y
    ·simp
    ·simp
    ·simp
    ·simp only [if_true]
     exact congrArg some (PMask.ext2 hk.symm (by rw [whole_iff.1 hx,whole_iff.1 hy]))
def qh2 (f:List PMask->List PMask->Bool) (a:List PMask) (y:PMask):Bool:=match find a y.num with
 | some x=>whole x || (!whole y && f x.subs y.subs)
 | none=>false
def qbs:Nat->List PMask->List PMask->Bool
 | 0,_,_=>true
 | n+1,a,b=>b.all (qh2 (qbs n) a)
theorem covers_iff {n:Nat} {a b:List PMask}:qbs (n+1) a b=true ↔ ∀y ∈ b, ∃x,find a y.num=some x/\(whole x=true ∨ (whole y=false/\qbs n x.subs y.subs=true)):=by
 show b.all _=true ↔ _
 rw [List.all_eq_true];refine⟨fun h y hy=>?_,fun h y hy=>?_⟩
 ·have:=h y hy
  unfold qh2 at this;cases e:find a y.num with
  | none=>rw [e]at this;cases this
  | some x=>
   rw [e]at this;refine⟨x,rfl,?_⟩
   simpa [Bool.or_eq_true,Bool.and_eq_true]using this
 ·obtain⟨x,h1,h2⟩:=h y hy
  unfold qh2;rw [h1]
  simpa [Bool.or_eq_true,Bool.and_eq_true]using h2
theorem qco : ∀(n:Nat) {a:List PMask},Srt n a->qbs n a a=true
 | 0,_,_=>rfl
 | n+1,a,ha=>covers_iff.2 fun y hy=>⟨y,qc8 ha.1 hy,by
   cases hw:whole y with
   | true=>exact .inl rfl
   | false=>exact .inr ⟨rfl,qco n (ha.2 y hy)⟩⟩
theorem qcx : ∀(n:Nat) {a b:List PMask},Srt n a->Srt n b->(qbs n a b=true ↔ union n a b=a)
 | 0,a,b,ha,hb=>by
  rw [show a=[]from ha];exact⟨fun _=>rfl,fun _=>rfl⟩
 | n+1,a,b,ha,hb=>by
  rw [covers_iff];constructor
  ·intro h
   refine ext (qdf ha.1 hb.1) ha.1 fun k=>?_
   rw [qbz ha.1 hb.1];cases eb:find b k with
   | none=>cases find a k <;> rfl
   | some y=>
    obtain⟨m2,k2⟩:=qac eb;obtain⟨x,h1,h2⟩:=h y m2;rw [k2]at h1;rw [h1];obtain⟨m1,k1⟩:=qac h1;refine congrArg some (PMask.ext2 rfl ?_);show(if _ then _ else _)=_
    cases hw:whole x with
    | true=>simp [whole_iff.1 hw]
    | false=>
     rw [hw]at h2;rcases h2 with h2|⟨h2,h3⟩
     ·cases h2
     ·rw [h2]
      simpa using (qcx n (ha.2 x m1) (hb.2 y m2)).1 h3
  ·intro h y hy
   have hf:=qc8 hb.1 hy;have:=congrArg (fun l=>find l y.num) h
   (try dsimp only at this)
   rw [qbz ha.1 hb.1,hf]at this;cases ea:find a y.num with
   | none=>rw [ea]at this;cases this
   | some x=>
    rw [ea]at this;refine⟨x,rfl,?_⟩;have hs:=congrArg PMask.subs (Option.some.inj this);cases hw:whole x with
    | true=>exact .inl rfl
    | false=>
     right;have hx:x.subs ≠ []:=fun e=>by rw [whole_iff.2 e]at hw;cases hw
     have hs2:(if whole x || whole y then []else union n x.subs y.subs)=x.subs:=hs;rw [hw]at hs2;cases hy2:whole y with
     | true=>rw [hy2]at hs2;exact absurd hs2.symm hx
     | false=>
      rw [hy2]at hs2;exact⟨rfl,(qcx n (ha.2 x (qac ea).1) (hb.2 y hy)).2 (by simpa using hs2)⟩
theorem qdo : ∀(n:Nat) {a b:List PMask},Srt n a->Srt n b->(qbs n a b=true ↔ meet n a b=b)
 | 0,a,b,ha,hb=>by
  rw [show b=[]from hb];exact⟨fun _=>rfl,fun _=>rfl⟩
 | n+1,a,b,ha,hb=>by
  rw [covers_iff];constructor
  ·intro h
   refine ext (qf0 ha.1) hb.1 fun k=>?_
   rw [qc0 ha.1];cases eb:find b k with
   | none=>cases find a k <;> rfl
   | some y=>
    obtain⟨m2,k2⟩:=qac eb;obtain⟨x,h1,h2⟩:=h y m2;rw [k2]at h1;rw [h1];obtain⟨m1,k1⟩:=qac h1;show meetO _ x y=some y
    unfold meetO;cases hw:whole x with
    | true=>simp
    | false=>
     rw [hw]at h2;rcases h2 with h2|⟨h2,h3⟩
     ·cases h2
     ·rw [h2]
      have hm:=(qdo n (ha.2 x m1) (hb.2 y m2)).1 h3;have hy:y.subs ≠ []:=fun e=>by rw [whole_iff.2 e]at h2;cases h2
      rw [hm];have he:y.subs.isEmpty=false:=by simpa using hy
      simp only [Bool.false_eq_true,if_false,he];exact congrArg some (PMask.ext2 (k1.trans k2.symm) rfl)
  ·intro h y hy
   have hf:=qc8 hb.1 hy;have:=congrArg (fun l=>find l y.num) h
   (try dsimp only at this)
   rw [qc0 ha.1,hf]at this;cases ea:find a y.num with
   | none=>rw [ea]at this;cases this
   | some x=>
    rw [ea]at this;refine⟨x,rfl,?_⟩;have hs:meetO (meet n) x y=some y:=this;unfold meetO at hs;cases hw:whole x with
    | true=>exact .inl rfl
    | false=>
     right;rw [hw]at hs;cases hy2:whole y with
     | true=>
      rw [hy2]at hs;simp only [Bool.false_eq_true,if_false,if_true]at hs;cases hs;rw [hw]at hy2;cases hy2
     | false=>
      rw [hy2]at hs;simp only [Bool.false_eq_true,if_false]at hs
      split at hs
      ·cases hs
      ·have:=congrArg PMask.subs (Option.some.inj hs)
       exact⟨rfl,(qdo n (ha.2 x (qac ea).1) (hb.2 y hy)).2 this⟩
end Go.Proofs.YtaaneecceiefoaaGreatDoor.Ma
namespace Go.Proofs.YtaaneecceiefoaaGreatDoor.Ma
structure Env where
 has:List UInt8->Bool
 fld:List UInt8->Int->Option (Bool × List UInt8)
 nums:List UInt8->List Int
def Env.ty (E:Env) (nm:List UInt8) (k:Int):List UInt8:=((E.fld nm k).map (·.2)).getD []
structure Env.Ok (E:Env):Prop where
 asc : ∀nm,(E.nums nm).Pairwise (· < ·)
 fld : ∀nm k,k ∈ E.nums nm->(E.fld nm k).isSome=true
 has : ∀nm k f,E.fld nm k=some f->f.1=true->E.has f.2=true
def Nm (E:Env):Nat->List UInt8->List PMask->Prop
 | 0,nm,l=>E.has nm=true/\l=[]
 | n+1,nm,l=>E.has nm=true/\Asc l/\∀x ∈ l, ∃f,E.fld nm x.num=some f/\(x.subs=[] ∨ (f.1=true/\Nm E n f.2 x.subs))
theorem Nm.hs {E:Env} {n:Nat} {nm:List UInt8} {l:List PMask} (h:Nm E n nm l):E.has nm=true:=by
 cases n <;> exact h.1
theorem Nm.srt {E:Env} : ∀{n:Nat} {nm:List UInt8} {l:List PMask},Nm E n nm l->Srt n l
 | 0,_,_,h=>h.2
 | n+1,nm,l,h=>⟨h.2.1,fun x hx=>by
  obtain⟨f,_,h2⟩:=h.2.2 x hx;rcases h2 with e|⟨_,h2⟩
  ·rw [e];exact Srt.nil n
  ·exact h2.srt⟩
theorem Nm.nil {E:Env} {nm:List UInt8} (h:E.has nm=true) : ∀n:Nat,Nm E n nm []
 | 0=>⟨h,rfl⟩
 | n+1=>⟨h,List.Pairwise.nil,fun x hx=>by cases hx⟩
def chkGo (E:Env) (rec:List UInt8->List PMask->Int) (nm:List UInt8):Option Int->List PMask->Int
 | _,[]=>0
 | pv,x :: r=>if(pv.any fun p=>decide (x.num<=p))=true then 11 else match E.fld nm x.num with
  | none=>8
  | some f=>if whole x=true then chkGo E rec nm (some x.num) r else if f.1=false then 12 else if rec f.2 x.subs ≠ 0 then rec f.2 x.subs else chkGo E rec nm (some x.num) r
def chk (E:Env):Nat->List UInt8->List PMask->Int
 | 0,nm,_=>if E.has nm then 0 else 10
 | n+1,nm,l=>if E.has nm then chkGo E (chk E n) nm none l else 10
theorem qj1 {E:Env} {rec:List UInt8->List PMask->Int} {nm:List UInt8} : ∀(l:List PMask) (pv:Option Int),chkGo E rec nm pv l=0 ↔ (∀p,pv=some p->∀x ∈ l,p<x.num)/\Asc l/\∀x ∈ l, ∃f,E.fld nm x.num=some f/\(x.subs=[] ∨ (f.1=true/\rec f.2 x.subs=0))
 | [],pv=>by
  refine⟨fun _=>⟨fun p _ x hx=>(by cases hx),List.Pairwise.nil,fun x hx=>(by cases hx)⟩,fun _=>rfl⟩
 | x :: r,pv=>by
  have ih:=qj1 (E:=E) (rec:=rec) (nm:=nm) r (some x.num);unfold chkGo
  have hp:(pv.any fun p=>decide (x.num<=p))=true ↔ ∃p,pv=some p/\x.num<=p:=by
   cases pv <;> simp
  constructor
  ·intro h
   split at h
   ·cases h
   ·rename_i h0
    rw [hp]at h0
    have hlt : ∀p,pv=some p->p<x.num:=fun p hq=>by
     rcases Int.lt_or_le p x.num with h'|h'
     ·exact h'
     ·exact absurd ⟨p,hq,h'⟩ h0
    split at h
    ·cases h
    ·rename_i f hf
     have fin:chkGo E rec nm (some x.num) r=0->(x.subs=[] ∨ (f.1=true/\rec f.2 x.subs=0))->_:=fun h1 h2=>by
      obtain⟨g1,g2,g3⟩:=ih.1 h1;refine(⟨fun p hq y hy=>?_,List.pairwise_cons.2 ⟨fun y hy=>g1 _ rfl y hy,g2⟩,fun y hy=>?_⟩:(∀p,pv=some p->∀y ∈ x :: r,p<y.num)/\Asc (x :: r)/\∀y ∈ x :: r, ∃f,E.fld nm y.num=some f/\(y.subs=[] ∨ (f.1=true/\rec f.2 y.subs=0)))
      ·rcases List.mem_cons.1 hy with rfl|hy
       ·exact hlt p hq
       ·have:=g1 _ rfl y hy
        have:=hlt p hq;omega
      ·rcases List.mem_cons.1 hy with rfl|hy
       ·exact⟨f,hf,h2⟩
       ·exact g3 y hy
     split at h
     ·rename_i hw
      exact fin h (.inl (whole_iff.1 hw))
     ·split at h
      ·cases h
      ·rename_i hs
       split at h
       ·rename_i hr
        exact absurd h hr
       ·rename_i hr
        exact fin h (.inr ⟨by simpa using hs,by simpa using hr⟩)
  ·rintro ⟨h1,h2,h3⟩
   rw [if_neg (by
    rw [hp];rintro ⟨p,hq,h'⟩;have:=h1 p hq x (List.mem_cons_self ..)
    omega)]
   obtain⟨f,hf,hx⟩:=h3 x (List.mem_cons_self ..);rw [hf];have hr:chkGo E rec nm (some x.num) r=0:=ih.2 ⟨fun p hq y hy=>by cases hq;exact h2.head y hy,h2.tail,fun y hy=>h3 y (List.mem_cons_of_mem _ hy)⟩;show(if _ then _ else _)=_
   rcases hx with e|⟨e1,e2⟩
   ·rw [if_pos (whole_iff.2 e)]
    exact hr
   ·by_cases hw:whole x=true
    ·rw [if_pos hw];exact hr
    ·rw [if_neg hw,if_neg (by rw [e1];simp),if_neg (by simp [e2])]
     exact hr
theorem qfd {E:Env} : ∀(n:Nat) (nm:List UInt8) (l:List PMask),Dp n l->(chk E n nm l=0 ↔ Nm E n nm l)
 | 0,nm,l,hd=>by
  unfold chk;rw [show l=[]from hd];cases h:E.has nm with
  | true=>exact⟨fun _=>⟨h,rfl⟩,fun _=>rfl⟩
  | false=>exact⟨fun h'=>(by cases h'),fun h'=>(by have:=h'.1;rw [h]at this;cases this)⟩
 | n+1,nm,l,hd=>by
  unfold chk;cases h:E.has nm with
  | false=>exact⟨fun h'=>(by cases h'),fun h'=>(by have:=h'.1;rw [h]at this;cases this)⟩
  | true=>
   simp only [if_true];rw [qj1];constructor
   ·rintro ⟨_,h2,h3⟩
    refine⟨h,h2,fun x hx=>?_⟩;obtain⟨f,hf,hx'⟩:=h3 x hx;refine⟨f,hf,?_⟩;rcases hx' with e|⟨e1,e2⟩
    ·exact .inl e
    ·exact .inr ⟨e1,(qfd n f.2 x.subs (hd x hx)).1 e2⟩
   ·rintro ⟨_,h2,h3⟩
    refine⟨fun p hq=>(by cases hq),h2,fun x hx=>?_⟩;obtain⟨f,hf,hx'⟩:=h3 x hx;refine⟨f,hf,?_⟩;rcases hx' with e|⟨e1,e2⟩
    ·exact .inl e
    ·exact .inr ⟨e1,(qfd n f.2 x.subs (hd x hx)).2 e2⟩
theorem qk4 {E:Env} : ∀(n:Nat) {nm:List UInt8} {a b:List PMask},Nm E n nm a->Nm E n nm b->Nm E n nm (union n a b)
 | 0,_,_,_,h,_=>⟨h.1,rfl⟩
 | n+1,nm,a,b,ha,hb=>by
  have ac:=qdf (n:=n+1) ha.2.1 hb.2.1;refine⟨ha.1,ac,fun x hx=>?_⟩;have hf:=qc8 ac hx;rw [qbz ha.2.1 hb.2.1]at hf;cases ea:find a x.num with
  | none=>
   rw [ea]at hf;exact hb.2.2 x (qac hf).1
  | some u=>
   rw [ea]at hf;obtain⟨m1,k1⟩:=qac ea;obtain⟨f,hf1,hf2⟩:=ha.2.2 u m1;cases eb:find b x.num with
   | none=>
    rw [eb]at hf;cases hf;exact⟨f,hf1,hf2⟩
   | some v=>
    rw [eb]at hf;obtain⟨m2,k2⟩:=qac eb;obtain⟨g,hg1,hg2⟩:=hb.2.2 v m2;have hj:joinF (union n) u v=x:=Option.some.inj hf;rw [k1]at hf1;rw [k2]at hg1;rw [hf1]at hg1;cases hg1;refine⟨f,hf1,?_⟩;rw [←hj];unfold joinF;cases hu:whole u with
    | true=>exact .inl (by simp [PMask.subs])
    | false=>
     cases hv:whole v with
     | true=>exact .inl (by simp [PMask.subs])
     | false=>
      rcases hf2 with e|⟨e1,e2⟩
      ·rw [whole_iff.2 e]at hu;cases hu
      ·rcases hg2 with e|⟨_,e3⟩
       ·rw [whole_iff.2 e]at hv;cases hv
       ·exact .inr ⟨e1,by simpa [PMask.subs]using qk4 n e2 e3⟩
theorem meet_nm {E:Env} : ∀(n:Nat) {nm:List UInt8} {a b:List PMask},Nm E n nm a->Nm E n nm b->Nm E n nm (meet n a b)
 | 0,_,_,_,h,_=>⟨h.1,rfl⟩
 | n+1,nm,a,b,ha,hb=>by
  have ac:=qf0 (n:=n+1) (b:=b) ha.2.1;refine⟨ha.1,ac,fun x hx=>?_⟩;have hf:=qc8 ac hx;rw [qc0 ha.2.1]at hf;cases ea:find a x.num with
  | none=>rw [ea]at hf;cases hf
  | some u=>
   cases eb:find b x.num with
   | none=>rw [ea,eb]at hf;cases hf
   | some v=>
    rw [ea,eb]at hf;obtain⟨m1,k1⟩:=qac ea;obtain⟨m2,k2⟩:=qac eb;obtain⟨f,hf1,hf2⟩:=ha.2.2 u m1;obtain⟨g,hg1,hg2⟩:=hb.2.2 v m2;have hj:meetO (meet n) u v=some x:=hf;unfold meetO at hj
    split at hj
    ·cases hj;exact⟨g,hg1,hg2⟩
    ·rename_i hu
     split at hj
     ·cases hj;exact⟨f,hf1,hf2⟩
     ·rename_i hv
      split at hj
      ·cases hj
      ·have hx2:=Option.some.inj hj
       rw [k1]at hf1;rw [k2]at hg1;rw [hf1]at hg1;cases hg1;refine⟨f,hf1,?_⟩;rcases hf2 with e|⟨e1,e2⟩
       ·exact absurd (whole_iff.2 e) hu
       ·rcases hg2 with e|⟨_,e3⟩
        ·exact absurd (whole_iff.2 e) hv
        ·rw [←hx2]
         exact .inr ⟨e1,meet_nm n e2 e3⟩
def all (E:Env) (nm:List UInt8):List PMask:=(E.nums nm).map fun k=>.mk k []
def fromF (E:Env) (nm:List UInt8) (x:PMask):List PMask:=if whole x then all E (E.ty nm x.num)else x.subs
def minO (E:Env) (f:List UInt8->List PMask->List PMask->List PMask) (nm:List UInt8) (b:List PMask) (x:PMask):Option PMask:=match find b x.num with
 | none=>some x
 | some y=>if whole y then none else if(f (E.ty nm x.num) (fromF E nm x) y.subs).isEmpty then none else some (.mk x.num (f (E.ty nm x.num) (fromF E nm x) y.subs))
def minus (E:Env):Nat->List UInt8->List PMask->List PMask->List PMask
 | 0,_,a,_=>a
 | n+1,nm,a,b=>a.filterMap (minO E (minus E n) nm b)
theorem ql6 {E:Env} {f:List UInt8->List PMask->List PMask->List PMask} {nm:List UInt8} {b:List PMask} {x z:PMask} (h:minO E f nm b x=some z):z.num=x.num:=by
 unfold minO at h
 split at h
 ·cases h;rfl
 ·split at h
  ·cases h
  ·split at h
   ·cases h
   ·cases h;rfl
theorem qeq {E:Env} {n:Nat} {nm:List UInt8} {a b:List PMask} (ha:Asc a) (k:Int):find (minus E (n+1) nm a b) k=(find a k).bind (minO E (minus E n) nm b):=qlj (fun _ _ h=>ql6 h) ha k
theorem qg3 {E:Env} {n:Nat} {nm:List UInt8} {a b:List PMask} (ha:Asc a):Asc (minus E n nm a b):=by
 cases n with
 | zero=>exact ha
 | succ n=>exact asc_fm (fun _ _ h=>ql6 h) ha
theorem asc_all {E:Env} (hE:E.Ok) (nm:List UInt8):Asc (all E nm):=by
 unfold all Asc;rw [List.pairwise_map];exact hE.asc nm
theorem all_nm {E:Env} (hE:E.Ok) {nm:List UInt8} (h:E.has nm=true) (n:Nat):Nm E (n+1) nm (all E nm):=by
 refine⟨h,asc_all hE nm,fun x hx=>?_⟩;obtain⟨k,hk,rfl⟩:=List.mem_map.1 hx;obtain⟨f,hf⟩:=Option.isSome_iff_exists.1 (hE.fld nm k hk);exact⟨f,hf,.inl rfl⟩
theorem qis {E:Env} (hE:E.Ok) {n:Nat} {nm:List UInt8} {x y:PMask} {f:Bool × List UInt8} (hf:E.fld nm x.num=some f) (hx:x.subs=[] ∨ (f.1=true/\Nm E n f.2 x.subs)) (hy:f.1=true/\Nm E n f.2 y.subs) (hw:whole y=false) :
  E.ty nm x.num=f.2/\Nm E n f.2 (fromF E nm x):=by
 have ht:E.ty nm x.num=f.2:=by unfold Env.ty;rw [hf];rfl
 refine⟨ht,?_⟩;unfold fromF;rw [ht];cases e:whole x with
 | true=>
  simp only [if_true];cases n with
  | zero=>rw [whole_iff.2 hy.2.2]at hw;cases hw
  | succ n=>exact all_nm hE (hE.has _ _ _ hf hy.1) n
 | false=>
  rcases hx with h|h
  ·rw [whole_iff.2 h]at e;cases e
  ·simpa using h.2
theorem ql5 {E:Env} (hE:E.Ok) : ∀(n:Nat) {nm:List UInt8} {a b:List PMask},Nm E n nm a->Nm E n nm b->Nm E n nm (minus E n nm a b)
 | 0,_,_,_,h,_=>h
 | n+1,nm,a,b,ha,hb=>by
  have ac:=qg3 (E:=E) (n:=n+1) (nm:=nm) (b:=b) ha.2.1;refine⟨ha.1,ac,fun z hz=>?_⟩;have hf:=qc8 ac hz;rw [qeq ha.2.1]at hf;obtain⟨x,hx,hm⟩:=Option.bind_eq_some_iff.1 hf;obtain⟨m1,k1⟩:=qac hx;obtain⟨f,hf1,hf2⟩:=ha.2.2 x m1;unfold minO at hm
  split at hm
  ·cases hm;exact⟨f,hf1,hf2⟩
  ·rename_i y hy
   obtain⟨m2,k2⟩:=qac hy;obtain⟨g,hg1,hg2⟩:=hb.2.2 y m2;rw [k2,hf1]at hg1;cases hg1
   split at hm
   ·cases hm
   ·rename_i hwy
    have hwy':whole y=false:=by simpa using hwy
    have hy2:f.1=true/\Nm E n f.2 y.subs:=by
     rcases hg2 with e|e
     ·exact absurd (whole_iff.2 e) hwy
     ·exact e
    obtain⟨t1,t2⟩:=qis hE hf1 hf2 hy2 hwy';rw [t1]at hm
    split at hm
    ·cases hm
    ·cases hm
     exact⟨f,hf1,.inr ⟨hy2.1,ql5 hE n t2 hy2.2⟩⟩
theorem qev {E:Env} (hE:E.Ok) : ∀(n:Nat) {nm:List UInt8} {a b:List PMask},Nm E n nm a->Nm E n nm b->qbs n a (minus E n nm a b)=true
 | 0,_,_,_,_,_=>rfl
 | n+1,nm,a,b,ha,hb=>by
  have ac:=qg3 (E:=E) (n:=n+1) (nm:=nm) (b:=b) ha.2.1;refine covers_iff.2 fun z hz=>?_
  have hf:=qc8 ac hz;rw [qeq ha.2.1]at hf;obtain⟨x,hx,hm⟩:=Option.bind_eq_some_iff.1 hf;obtain⟨m1,k1⟩:=qac hx;refine⟨x,hx,?_⟩;obtain⟨f,hf1,hf2⟩:=ha.2.2 x m1;unfold minO at hm
  split at hm
  ·have e:=Option.some.inj hm
   subst e;cases hw:whole x with
   | true=>exact .inl rfl
   | false=>exact .inr ⟨rfl,qco n (ha.srt.2 x m1)⟩
  ·rename_i y hy
   obtain⟨m2,k2⟩:=qac hy;obtain⟨g,hg1,hg2⟩:=hb.2.2 y m2;rw [k2,hf1]at hg1;cases hg1
   split at hm
   ·cases hm
   ·rename_i hwy
    have hwy':whole y=false:=by simpa using hwy
    have hy2:f.1=true/\Nm E n f.2 y.subs:=by
     rcases hg2 with e|e
     ·exact absurd (whole_iff.2 e) hwy
     ·exact e
    obtain⟨t1,t2⟩:=qis hE hf1 hf2 hy2 hwy';rw [t1]at hm
    split at hm
    ·cases hm
    ·rename_i hne
     cases hw:whole x with
     | true=>exact .inl rfl
     | false=>
      right;have e:=Option.some.inj hm;subst e;have hfr:fromF E nm x=x.subs:=by unfold fromF;rw [hw];rfl
      rw [hfr]at t2 hne ⊢;exact⟨by rw [qjv];simpa using hne,qev hE n t2 hy2.2⟩
theorem qgm {E:Env} (hE:E.Ok) : ∀(n:Nat) {nm:List UInt8} {a b:List PMask},Nm E n nm a->Nm E n nm b->meet n (minus E n nm a b) b=[]
 | 0,_,_,_,_,_=>rfl
 | n+1,nm,a,b,ha,hb=>by
  have ac:=qg3 (E:=E) (n:=n+1) (nm:=nm) (b:=b) ha.2.1;refine ext (qf0 ac) List.Pairwise.nil fun k=>?_
  rw [qc0 ac,qeq ha.2.1,qhr];cases ea:find a k with
  | none=>rfl
  | some x=>
   obtain⟨m1,k1⟩:=qac ea;obtain⟨f,hf1,hf2⟩:=ha.2.2 x m1;show metO _ (minO E (minus E n) nm b x) (find b k)=none
   unfold minO;rw [k1];cases eb:find b k with
   | none=>rfl
   | some y=>
    obtain⟨m2,k2⟩:=qac eb;obtain⟨g,hg1,hg2⟩:=hb.2.2 y m2;rw [k1]at hf1;rw [k2,hf1]at hg1;cases hg1;dsimp only;cases hwy:whole y with
    | true=>rfl
    | false=>
     simp only [Bool.false_eq_true,if_false]
     have hy2:f.1=true/\Nm E n f.2 y.subs:=by
      rcases hg2 with e|e
      ·rw [whole_iff.2 e]at hwy;cases hwy
      ·exact e
     have hf1':E.fld nm x.num=some f:=by rw [k1];exact hf1
     obtain⟨t1,t2⟩:=qis hE hf1' hf2 hy2 hwy;rw [k1]at t1;rw [t1];generalize hfr:fromF E nm x=fr at t2
     split
     ·rfl
     ·rename_i hne
      have hne':(minus E n f.2 fr y.subs).isEmpty=false:=by simpa using hne
      show meetO _ (.mk k (minus E n f.2 fr y.subs)) y=none
      unfold meetO;rw [qjv,hwy,hne'];simp only [Bool.false_eq_true,if_false];rw [show(PMask.mk k (minus E n f.2 fr y.subs)).subs=minus E n f.2 fr y.subs from rfl,qgm hE n t2 hy2.2];rfl
end Go.Proofs.YtaaneecceiefoaaGreatDoor.Ma
