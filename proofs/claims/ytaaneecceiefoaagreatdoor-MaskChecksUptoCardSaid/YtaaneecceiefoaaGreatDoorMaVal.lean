import Derived.Test.YtaaneecceiefoaaGreatDoorMaMem
import Derived.Shelf.SlSortCmp.WholeK
import Derived.Test.YtaaneecceiefoaaGreatDoorOrd
set_option maxRecDepth 100000
set_option maxHeartbeats 4000000
set_option linter.unusedVariables false
set_option linter.unusedSimpArgs false
namespace Go.Proofs.YtaaneecceiefoaaGreatDoor
open Go.RowKit Ma
theorem qe9 {α:Type} {enc:α->List Value} {k:Nat} (hk : ∀x,(enc x).length=k) (k0:0<k) : ∀(l:List α) (t:Nat),(l.flatMap enc)[t]? = (l[t / k]?).bind (fun x=>(enc x)[t % k]?)
 | [],t=>by simp
 | a :: l,t=>by
  rw [List.flatMap_cons];rcases Nat.lt_or_ge t k with ht|ht
  ·rw [List.getElem?_append_left (by rw [hk];exact ht),Nat.div_eq_of_lt ht,Nat.mod_eq_of_lt ht]
   rfl
  ·rw [List.getElem?_append_right (by rw [hk];exact ht),hk,qe9 hk k0 l (t-k)]
   obtain⟨u,rfl⟩ : ∃u,t=u+k:=⟨t-k,by omega⟩;rw [Nat.add_sub_cancel,Nat.add_div_right u k0,Nat.add_mod_right];rfl
theorem qcn {α:Type} {enc:α->List Value} {k:Nat} (hk : ∀x,(enc x).length=k) : ∀(l:List α),(l.flatMap enc).length=l.length*k
 | []=>by simp
 | a :: l=>by rw [List.flatMap_cons,List.length_append,hk,qcn hk l,List.length_cons,Nat.add_mul,Nat.one_mul,Nat.add_comm]
theorem qhq {α:Type} [Inhabited α] {enc:α->List Value} {k:Nat} (hk : ∀x,(enc x).length=k) (k0:0<k) (d:Array α) (t:Nat) (ht:t<d.size*k):(d.toList.flatMap enc)[t]? = some ((Sort.flatK enc k d)[t]!):=by
 have hd:t / k<d.size:=(Nat.div_lt_iff_lt_mul k0).2 ht;have hm:t % k<k:=Nat.mod_lt _ k0;rw [Sort.get_flatK _ _ _ _ ht,qe9 hk k0,Array.getElem?_toList,Array.getElem?_eq_getElem hd,getElem!_pos d _ hd];have hl:t % k<(enc d[t / k]).length:=by rw [hk];exact hm
 show(enc d[t / k])[t % k]? = _
 rw [List.getElem?_eq_getElem hl,getElem!_pos (enc d[t / k]) (t % k) hl]
theorem qjk {α:Type} [Inhabited α] {enc:α->List Value} {k:Nat} (hk : ∀x,(enc x).length=k) (k0:0<k) {w:World} {B:Nat} {e:TypeId} {g cap:Nat} {d:Array α} (h:w.ownsRow B e k (.slice (some ⟨g,0,none⟩) d.size cap) d.size (d.toList.flatMap enc)) :
  Sort.HoldsK enc k w g 0 d/\g<w.heap.size/\∀(d':Array α) (n:Nat) (os:Array Obj),d'.size=d.size →
   (sortWorldK enc k w g 0 n d' os).ownsRow B e k (.slice (some ⟨g,0,none⟩) d.size cap) d.size (d'.toList.flatMap enc)/\w.grownBy (sortWorldK enc k w g 0 n d' os) (some g):=by
 rcases h.2 with⟨h1,_⟩|⟨g',cap',cur,h1,hB,hg,hn,hc,hs,hx⟩
 ·cases h1
 cases h1;have hle:d.size*k<=cur.size:=by rw [hs];exact Nat.mul_le_mul_right k hn
 have hcur : ∀t,t<d.size*k->cur[t]? = some ((Sort.flatK enc k d)[t]!):=fun t ht=>by
  rw [←qhq hk k0 d t ht, ←hx,List.getElem?_take_of_lt ht,Array.getElem?_toList]
 have hglt:=(Array.getElem?_eq_some_iff.1 hg).1;refine⟨fun j hj=>?_,hglt,fun d' n os hsz=>⟨⟨?_,.inr ⟨g,cap,Sort.putCells id 0 (Sort.flatK enc k d') cur,rfl,hB,?_,hn,hc,?_,?_⟩⟩,?_⟩⟩
 ·rw [Sort.size_flatK]at hj
  rw [Nat.zero_add];exact⟨(Lib.cell_of_heap hg j).trans (hcur j hj),Lib.frozen_of_heap hg j⟩
 ·rw [qcn hk,Array.length_toList,hsz]
 ·unfold sortWorldK Sort.grow Sort.putRowK Sort.putRow Sort.mapBlock Sort.ahead
  show((w.heap.modify g _) ++ os)[g]? = _
  rw [Array.getElem?_append_left (by simpa using hglt),Array.getElem?_modify,if_pos rfl,hg];rfl
 ·unfold Sort.putCells
  rw [Array.size_mapIdx,hs]
 ·refine List.ext_getElem? fun t=>?_
  rcases Nat.lt_or_ge t (d.size*k)with ht|ht
  ·rw [List.getElem?_take_of_lt ht,qhq hk k0 d' t (by rw [hsz];exact ht),Array.getElem?_toList]
   unfold Sort.putCells;rw [Array.getElem?_mapIdx,hcur t ht,Option.map_some,if_pos ⟨Nat.zero_le _,by rw [Sort.size_flatK,hsz];omega⟩];rfl
  ·rw [List.getElem?_eq_none (by rw [List.length_take];omega),List.getElem?_eq_none (by rw [qcn hk,Array.length_toList,hsz];exact ht)]
 ·refine⟨rfl,rfl,rfl,?_,fun j hj hne=>?_⟩
  ·show w.heap.size<=((w.heap.modify g _) ++ os).size
   rw [Array.size_append,Array.size_modify];omega
  ·show((w.heap.modify g _) ++ os)[j]? = _
   rw [Array.getElem?_append_left (by simpa using hj),Array.getElem?_modify,if_neg (fun e=>hne (by rw [e]))]
structure ME where
 x:PMask
 p:Option Addr
 c:Nat
instance:Inhabited ME:=⟨⟨.mk 0 [],none,0⟩⟩
def meC (e:ME):List Value:=[.int .i64 e.x.num,.slice e.p e.x.subs.length e.c]
def MEok (A:Nat->Prop) (n:Nat) (w:World) (e:ME):Prop:=MaskD A n w (.slice e.p e.x.subs.length e.c) e.x.subs
theorem qfu (e:ME):(meC e).length=2:=rfl
theorem meC_one (e:ME) : ∀v ∈ meC e,v.oneCell'=true:=by
 intro v hv;simp only [meC,List.mem_cons,List.not_mem_nil,or_false]at hv;rcases hv with rfl|rfl <;> rfl
theorem qid {α:Type} {enc:α->List Value} {k:Nat} (hk : ∀x,(enc x).length=k) {w:World} {B:Nat} {e:TypeId} {v:Value} {L:List α} (h:w.ownsRow B e k v L.length (L.flatMap enc)):(v=.slice none 0 0/\L=[]) ∨ ∃g c,v=.slice (some ⟨g,0,none⟩) L.length c/\B<=g/\g<w.heap.size/\L.length<=c/\∀i x,L[i]? = some x->∀j u,(enc x)[j]? = some u->w.cell? ⟨g,i*k+j,none⟩=some u:=by
 rcases h.2 with⟨rfl,h0⟩|⟨g,cap,cur,rfl,h1,h2,h3,h4,h5,h6⟩
 ·exact .inl ⟨rfl,List.length_eq_zero_iff.1 h0⟩
 ·refine .inr ⟨g,cap,rfl,h1,(Array.getElem?_eq_some_iff.1 h2).1,h3,fun i x hx j u hu=>?_⟩
  have hj:j<k:=by
   have:=(List.getElem?_eq_some_iff.1 hu).1;rwa [hk]at this
  have:=h.cells (g:=g) rfl (i*k+j) u (by
   rw [qe9 hk (by omega),Nat.mul_comm i k,Nat.mul_add_div (by omega),Nat.mul_add_mod,Nat.div_eq_of_lt hj,Nat.mod_eq_of_lt hj,Nat.add_zero,hx]
   exact hu)
  rw [Addr.add_lit]at this
  simpa using this
theorem qlj {A A':Nat->Prop} {n:Nat} {w:World} {B:Nat} {e:TypeId} {v:Value} {L:List ME} (h:w.ownsRow B e 2 v L.length (L.flatMap meC)) (hl:L.length<=140737488355328) (hV : ∀x ∈ L,MEok A n w x) (hA : ∀b,A b->A' b) (hB : ∀b,B<=b->A' b):MaskD A' (n+1) w v (L.map (·.x)):=by
 rcases qid qfu h with⟨rfl,rfl⟩|⟨g,c,rfl,hg,hs,hc,hel⟩
 ·exact MaskD.empty (n+1) w none 0
 ·refine⟨some ⟨g,0,none⟩,c,by rw [List.length_map],by rw [List.length_map];exact hl,by rw [List.length_map];exact hc,fun i y hy=>?_⟩
  rw [List.getElem?_map]at hy;cases hx:L[i]? with
  | none=>rw [hx]at hy;cases hy
  | some x=>
   rw [hx]at hy;cases hy;have e0:=hel i x hx 0 _ rfl;have e1:=hel i x hx 1 _ rfl;refine⟨g,0,.slice x.p x.x.subs.length x.c,rfl,hs,hB g hg,by simpa using e0,by simpa using e1,(hV x (List.mem_of_getElem? hx)).weak (fun b hb _=>hA b hb)⟩
def medge (v:Value) (L:List ME):Row:=⟨61,2,v,L.length,L.flatMap meC⟩
theorem qca {w0 w:World} {R:List Row} {X:List Box} {v:Value} {L:List ME} {e:ME} (h:ST w0 (⟨61,2,v,L.length+1,L.flatMap meC ++ meC e⟩ :: R) X w):ST w0 (medge v (L ++ [e]) :: R) X w:=by
 unfold medge;rw [List.length_append,List.flatMap_append]
 simpa using h
theorem qli:(Tryz.prog.info? 61).map (fun i=>(i.zero,i.size,i.bytes))=some (some (.agg #[.int .i64 0,.slice none 0 0]),2,32):=by kernel_rfl
def Off (A:Nat->Prop) (N:Nat) (v:Value) (b:Nat):Prop:=A b ∨ N<=b/\some b ≠ v.ownBlock
theorem MEok.grown {A:Nat->Prop} {N n:Nat} {w w':World} {e:ME} {v:Value} {g m c:Nat} (h:MEok (Off A N v) n w e) (hg:w.grownBy w' v.ownBlock) (hA : ∀b,A b->b<N) (hv : ∀k,v.ownBlock=some k->N<=k) (hfr:v.ownBlock=some g ∨ g=w.heap.size):MEok (Off A N (.slice (some ⟨g,0,none⟩) m c)) n w' e:=by
 have h1:MaskD (fun b=>Off A N v b/\b<w.heap.size) n w (.slice e.p e.x.subs.length e.c) e.x.subs:=MaskD.weak h (fun b hb hl=>⟨hb,hl⟩);refine MaskD.weak (h1.kept (Keep.grown hg fun b hb e2=>?_)) (fun b hb _=>?_)
 ·rcases hb.1 with hb1|hb1
  ·have:=hA b hb1
   have:=hv b e2.symm;omega
  ·exact hb1.2 e2
 ·rcases hb.1 with hb1|hb1
  ·exact .inl hb1
  ·refine .inr ⟨hb1.1,fun e2=>?_⟩
   have e3:b=g:=by injection e2
   subst e3;rcases hfr with h4|h4
   ·exact hb1.2 h4.symm
   ·have:=hb.2
    omega
def RowOK (A:Nat->Prop) (N n:Nat) (v:Value) (L:List ME) (w:World):Prop := ∀e ∈ L,MEok (Off A N v) n w e
theorem RowOK.nil (A:Nat->Prop) (N n:Nat) (v:Value) (w:World):RowOK A N n v [] w:=fun e he=>by cases he
theorem RowOK.bel {A:Nat->Prop} {N n:Nat} {v:Value} {L:List ME} {w w':World} (h:RowOK A N n v L w) (k:Bel w w'):RowOK A N n v L w':=fun e he=>MaskD.bel (h e he) k
theorem RowOK.snoc {A:Nat->Prop} {w0:World} {n:Nat} {v:Value} {L:List ME} {w w':World} {e:ME} {R:List Row} {X:List Box} {g m c:Nat} (h:RowOK A w0.heap.size n v L w) (hS:ST w0 (medge v L :: R) X w) (hA : ∀b,A b->b<w0.heap.size) (he:MEok (Off A w0.heap.size v) n w e) (hg:w.grownBy w' v.ownBlock) {H:Nat} (hfr:v.ownBlock=some g ∨ g=H) (hH:w.heap.size=H):RowOK A w0.heap.size n (.slice (some ⟨g,0,none⟩) m c) (L ++ [e]) w':=by
 subst hH;have hv : ∀k,v.ownBlock=some k->w0.heap.size<=k:=fun k hk=>((hS.row 0 rfl).lt k hk).1
 intro x hx;rcases List.mem_append.1 hx with hx|hx
 ·exact(h x hx).grown hg hA hv hfr
 ·rw [List.mem_singleton]at hx
  subst hx;exact MEok.grown he hg hA hv hfr
theorem off_new {A:Nat->Prop} {w0 W:World} {v:Value} {L:List ME} {R:List Row} {X:List Box} (hS:ST w0 (medge v L :: R) X W) {b:Nat} (hb:A b ∨ W.heap.size<=b):Off A w0.heap.size v b:=by
 rcases hb with hb|hb
 ·exact .inl hb
 ·refine .inr ⟨Nat.le_trans hS.bel.size hb,fun e=>?_⟩
  have:=((hS.row 0 rfl).lt b e.symm).2;omega
theorem off_old {A:Nat->Prop} {N n:Nat} {v:Value} {w:World} {e:ME} (h:MaskD A n w (.slice e.p e.x.subs.length e.c) e.x.subs):MEok (Off A N v) n w e:=h.weak (fun b hb _=>.inl hb)
def MaskOut (A:Nat->Prop) (n:Nat) (w:World) (l:List PMask) (e:Ending) (w':World):Prop := ∃v,e=.returned v/\MaskD (fun b=>A b ∨ w.heap.size<=b) n w' v l/\Bel w w'
theorem mask_out {A:Nat->Prop} {n:Nat} {w0 w:World} {v:Value} {L:List ME} {R:List Row} {X:List Box} {l:List PMask} (hS:ST w0 (medge v L :: R) X w) (h:RowOK A w0.heap.size n v L w) (hl:L.length<=140737488355328) (e:L.map (·.x)=l):MaskD (fun b=>A b ∨ w0.heap.size<=b) (n+1) w v l:=by
 subst e;refine qlj (hS.row 0 rfl) hl h (fun b hb=>?_) (fun b hb=>.inr hb);rcases hb with hb|hb
 ·exact .inl hb
 ·exact .inr hb.1
end Go.Proofs.YtaaneecceiefoaaGreatDoor
namespace Go.Proofs.YtaaneecceiefoaaGreatDoor.Ma
theorem whole_iff {x:PMask}:whole x=true ↔ x.subs=[]:=by unfold whole;exact List.isEmpty_iff
def meetO (f:List PMask->List PMask->List PMask) (x y:PMask):Option PMask:=if whole x then some y else if whole y then some x else if(f x.subs y.subs).isEmpty then none else some (.mk x.num (f x.subs y.subs))
def pickO (f:List PMask->List PMask->List PMask) (b:List PMask) (x:PMask):Option PMask:=(find b x.num).bind (meetO f x)
def meet:Nat->List PMask->List PMask->List PMask
 | 0,_,_ => []
 | n+1,a,b=>a.filterMap (pickO (meet n) b)
theorem qhe {f:List PMask->List PMask->List PMask} {b:List PMask} {x z:PMask} (h:pickO f b x=some z):z.num=x.num:=by
 unfold pickO at h;obtain⟨y,h1,h2⟩:=Option.bind_eq_some_iff.1 h;have hy:=(qba h1).2;unfold meetO at h2
 split at h2
 ·cases h2;exact hy
 ·split at h2
  ·cases h2;rfl
  ·split at h2
   ·cases h2
   ·cases h2;rfl
theorem find_fm {F:PMask->Option PMask} (hF : ∀x z,F x=some z->z.num=x.num) : ∀{l:List PMask},Asc l->∀k,find (l.filterMap F) k=(find l k).bind F
 | [],_,_=>rfl
 | x :: l,h,k=>by
  have ih:=find_fm hF h.tail k;rw [qax];by_cases e:x.num=k
  ·rw [if_pos e]
   show _=F x
   have hn:find l k=none:=qk2 h (by omega);rw [hn]at ih;cases q:F x with
   | none=>rw [List.filterMap_cons_none q,ih];rfl
   | some z=>rw [List.filterMap_cons_some q,qax,if_pos (by rw [hF x z q];exact e)]
  ·rw [if_neg e]
   cases q:F x with
   | none=>rw [List.filterMap_cons_none q,ih]
   | some z=>rw [List.filterMap_cons_some q,qax,if_neg (by rw [hF x z q];exact e),ih]
theorem asc_fm {F:PMask->Option PMask} (hF : ∀x z,F x=some z->z.num=x.num) : ∀{l:List PMask},Asc l->Asc (l.filterMap F)
 | [],_=>List.Pairwise.nil
 | x :: l,h=>by
  have ih:=asc_fm hF h.tail;cases q:F x with
  | none=>rw [List.filterMap_cons_none q];exact ih
  | some z=>
   rw [List.filterMap_cons_some q];refine List.pairwise_cons.2 ⟨fun u hu=>?_,ih⟩;obtain⟨v,hv,e⟩:=List.mem_filterMap.1 hu;rw [hF x z q,hF v u e];exact h.head v hv
theorem qlw {n:Nat} {a b:List PMask} (ha:Asc a) (k:Int):find (meet (n+1) a b) k=(find a k).bind (pickO (meet n) b):=find_fm (fun _ _ h=>qhe h) ha k
theorem qkg {n:Nat} {a b:List PMask} (ha:Asc a):Asc (meet n a b):=by
 cases n with
 | zero=>exact List.Pairwise.nil
 | succ n=>exact asc_fm (fun _ _ h=>qhe h) ha
def metO (f:List PMask->List PMask->List PMask):Option PMask->Option PMask->Option PMask
 | some x,some y=>meetO f x y
 | _,_=>none
theorem qg2 {n:Nat} {a b:List PMask} (ha:Asc a) (k:Int):find (meet (n+1) a b) k=metO (meet n) (find a k) (find b k):=by
 rw [qlw ha];cases e:find a k with
 | none=>rfl
 | some x=>
  show pickO _ b x=_
  unfold pickO;rw [(qba e).2];cases find b k <;> rfl
theorem meet_comm : ∀(n:Nat) {a b:List PMask},Srt n a->Srt n b->meet n a b=meet n b a
 | 0,_,_,_,_=>rfl
 | n+1,a,b,ha,hb=>by
  refine ext (qkg ha.1) (qkg hb.1) fun k=>?_
  rw [qg2 ha.1,qg2 hb.1];cases ea:find a k with
  | none=>cases find b k <;> rfl
  | some x=>
   cases eb:find b k with
   | none=>rfl
   | some y=>
    obtain⟨m1,k1⟩:=qba ea;obtain⟨m2,k2⟩:=qba eb;have ih:=meet_comm n (ha.2 x m1) (hb.2 y m2);have hk:=k1.trans k2.symm;show meetO _ x y=meetO _ y x
    unfold meetO;rw [ih,hk];cases hx:whole x <;> cases hy:whole y
    ·simp
    ·simp
    ·simp
    ·simp only [if_true]
     exact congrArg some (PMask.ext2 hk.symm (by rw [whole_iff.1 hx,whole_iff.1 hy]))
def covOne (f:List PMask->List PMask->Bool) (a:List PMask) (y:PMask):Bool:=match find a y.num with
 | some x=>whole x || (!whole y && f x.subs y.subs)
 | none=>false
def covers:Nat->List PMask->List PMask->Bool
 | 0,_,_=>true
 | n+1,a,b=>b.all (covOne (covers n) a)
end Go.Proofs.YtaaneecceiefoaaGreatDoor.Ma
namespace Go.Proofs.YtaaneecceiefoaaGreatDoor.Ma
structure Env where
 has:List UInt8->Bool
 fld:List UInt8->Int->Option (Bool × List UInt8)
 nums:List UInt8->List Int
def Env.ty (E:Env) (nm:List UInt8) (k:Int):List UInt8:=((E.fld nm k).map (·.2)).getD []
structure Env.Ok (E:Env):Prop where
 asc : ∀nm,(E.nums nm).Pairwise (· < ·)
 fld : ∀nm k,k ∈ E.nums nm->(E.fld nm k).isSome=true
 has : ∀nm k f,E.fld nm k=some f->f.1=true->E.has f.2=true
def Nm (E:Env):Nat->List UInt8->List PMask->Prop
 | 0,nm,l=>E.has nm=true/\l=[]
 | n+1,nm,l=>E.has nm=true/\Asc l/\∀x ∈ l, ∃f,E.fld nm x.num=some f/\(x.subs=[] ∨ (f.1=true/\Nm E n f.2 x.subs))
theorem Nm.hs {E:Env} {n:Nat} {nm:List UInt8} {l:List PMask} (h:Nm E n nm l):E.has nm=true:=by
 cases n <;> exact h.1
theorem Nm.nil {E:Env} {nm:List UInt8} (h:E.has nm=true) : ∀n:Nat,Nm E n nm []
 | 0=>⟨h,rfl⟩
 | n+1=>⟨h,List.Pairwise.nil,fun x hx=>by cases hx⟩
def chkGo (E:Env) (rec:List UInt8->List PMask->Int) (nm:List UInt8):Option Int->List PMask->Int
 | _,[]=>0
 | pv,x :: r=>if(pv.any fun p=>decide (x.num<=p))=true then 11 else match E.fld nm x.num with
  | none=>8
  | some f=>if whole x=true then chkGo E rec nm (some x.num) r else if f.1=false then 12 else if rec f.2 x.subs ≠ 0 then rec f.2 x.subs else chkGo E rec nm (some x.num) r
def chk (E:Env):Nat->List UInt8->List PMask->Int
 | 0,nm,_=>if E.has nm then 0 else 10
 | n+1,nm,l=>if E.has nm then chkGo E (chk E n) nm none l else 10
theorem qhz {E:Env} {rec:List UInt8->List PMask->Int} {nm:List UInt8} : ∀(l:List PMask) (pv:Option Int),chkGo E rec nm pv l=0 ↔ (∀p,pv=some p->∀x ∈ l,p<x.num)/\Asc l/\∀x ∈ l, ∃f,E.fld nm x.num=some f/\(x.subs=[] ∨ (f.1=true/\rec f.2 x.subs=0))
 | [],pv=>by
  refine⟨fun _=>⟨fun p _ x hx=>(by cases hx),List.Pairwise.nil,fun x hx=>(by cases hx)⟩,fun _=>rfl⟩
 | x :: r,pv=>by
  have ih:=qhz (E:=E) (rec:=rec) (nm:=nm) r (some x.num);unfold chkGo
  have hp:(pv.any fun p=>decide (x.num<=p))=true ↔ ∃p,pv=some p/\x.num<=p:=by
   cases pv <;> simp
  constructor
  ·intro h
   split at h
   ·cases h
   ·rename_i h0
    rw [hp]at h0
    have hlt : ∀p,pv=some p->p<x.num:=fun p hq=>by
     rcases Int.lt_or_le p x.num with h'|h'
     ·exact h'
     ·exact absurd ⟨p,hq,h'⟩ h0
    split at h
    ·cases h
    ·rename_i f hf
     have fin:chkGo E rec nm (some x.num) r=0->(x.subs=[] ∨ (f.1=true/\rec f.2 x.subs=0))->_:=fun h1 h2=>by
      obtain⟨g1,g2,g3⟩:=ih.1 h1;refine(⟨fun p hq y hy=>?_,List.pairwise_cons.2 ⟨fun y hy=>g1 _ rfl y hy,g2⟩,fun y hy=>?_⟩:(∀p,pv=some p->∀y ∈ x :: r,p<y.num)/\Asc (x :: r)/\∀y ∈ x :: r, ∃f,E.fld nm y.num=some f/\(y.subs=[] ∨ (f.1=true/\rec f.2 y.subs=0)))
      ·rcases List.mem_cons.1 hy with rfl|hy
       ·exact hlt p hq
       ·have:=g1 _ rfl y hy
        have:=hlt p hq;omega
      ·rcases List.mem_cons.1 hy with rfl|hy
       ·exact⟨f,hf,h2⟩
       ·exact g3 y hy
     split at h
     ·rename_i hw
      exact fin h (.inl (whole_iff.1 hw))
     ·split at h
      ·cases h
      ·rename_i hs
       split at h
       ·rename_i hr
        exact absurd h hr
       ·rename_i hr
        exact fin h (.inr ⟨by simpa using hs,by simpa using hr⟩)
  ·rintro ⟨h1,h2,h3⟩
   rw [if_neg (by
    rw [hp];rintro ⟨p,hq,h'⟩;have:=h1 p hq x (List.mem_cons_self ..)
    omega)]
   obtain⟨f,hf,hx⟩:=h3 x (List.mem_cons_self ..);rw [hf];have hr:chkGo E rec nm (some x.num) r=0:=ih.2 ⟨fun p hq y hy=>by cases hq;exact h2.head y hy,h2.tail,fun y hy=>h3 y (List.mem_cons_of_mem _ hy)⟩;show(if _ then _ else _)=_
   rcases hx with e|⟨e1,e2⟩
   ·rw [if_pos (whole_iff.2 e)]
    exact hr
   ·by_cases hw:whole x=true
    ·rw [if_pos hw];exact hr
    ·rw [if_neg hw,if_neg (by rw [e1];simp),if_neg (by simp [e2])]
     exact hr
theorem qkc {E:Env} : ∀(n:Nat) (nm:List UInt8) (l:List PMask),Dp n l->(chk E n nm l=0 ↔ Nm E n nm l)
 | 0,nm,l,hd=>by
  unfold chk;rw [show l=[]from hd];cases h:E.has nm with
  | true=>exact⟨fun _=>⟨h,rfl⟩,fun _=>rfl⟩
  | false=>exact⟨fun h'=>(by cases h'),fun h'=>(by have:=h'.1;rw [h]at this;cases this)⟩
 | n+1,nm,l,hd=>by
  unfold chk;cases h:E.has nm with
  | false=>exact⟨fun h'=>(by cases h'),fun h'=>(by have:=h'.1;rw [h]at this;cases this)⟩
  | true=>
   simp only [if_true];rw [qhz];constructor
   ·rintro ⟨_,h2,h3⟩
    refine⟨h,h2,fun x hx=>?_⟩;obtain⟨f,hf,hx'⟩:=h3 x hx;refine⟨f,hf,?_⟩;rcases hx' with e|⟨e1,e2⟩
    ·exact .inl e
    ·exact .inr ⟨e1,(qkc n f.2 x.subs (hd x hx)).1 e2⟩
   ·rintro ⟨_,h2,h3⟩
    refine⟨fun p hq=>(by cases hq),h2,fun x hx=>?_⟩;obtain⟨f,hf,hx'⟩:=h3 x hx;refine⟨f,hf,?_⟩;rcases hx' with e|⟨e1,e2⟩
    ·exact .inl e
    ·exact .inr ⟨e1,(qkc n f.2 x.subs (hd x hx)).2 e2⟩
def all (E:Env) (nm:List UInt8):List PMask:=(E.nums nm).map fun k=>.mk k []
def fromF (E:Env) (nm:List UInt8) (x:PMask):List PMask:=if whole x then all E (E.ty nm x.num)else x.subs
def minO (E:Env) (f:List UInt8->List PMask->List PMask->List PMask) (nm:List UInt8) (b:List PMask) (x:PMask):Option PMask:=match find b x.num with
 | none=>some x
 | some y=>if whole y then none else if(f (E.ty nm x.num) (fromF E nm x) y.subs).isEmpty then none else some (.mk x.num (f (E.ty nm x.num) (fromF E nm x) y.subs))
def minus (E:Env):Nat->List UInt8->List PMask->List PMask->List PMask
 | 0,_,a,_=>a
 | n+1,nm,a,b=>a.filterMap (minO E (minus E n) nm b)
end Go.Proofs.YtaaneecceiefoaaGreatDoor.Ma
namespace Go.Proofs.YtaaneecceiefoaaGreatDoor.Ma
structure PRaw where
 num:Int
 wire:Int
 bits:Nat
 data:List UInt8
inductive CV where
 | scalar (kind:Int) (bits:Nat) (text:List UInt8)
 | list (l:List CV)
 | map (l:List (CV × CV))
 | msg (slots:List (Int × CV)) (raws:List PRaw)
def CV.isMsg:CV->Bool
 | .msg _ _=>true
 | _=>false
def CV.kind:CV->Int
 | .scalar k _ _=>k
 | .list _=>11
 | .map _=>12
 | .msg _ _=>10
def keepO (f:CV->List PMask->CV) (m:List PMask) (x:Int × CV):Option (Int × CV):=(find m x.1).map fun e=>if whole e then x else(x.1,f x.2 e.subs)
def keep:Nat->CV->List PMask->CV
 | n+1,.msg sl rw,m=>.msg (sl.filterMap (keepO (keep n) m)) []
 | _,v,_=>v
def dropO (f:CV->List PMask->CV) (m:List PMask) (x:Int × CV):Option (Int × CV):=match find m x.1 with
 | some e=>if whole e || !x.2.isMsg then none else some (x.1,f x.2 e.subs)
 | none=>some x
def drop:Nat->CV->List PMask->CV
 | n+1,.msg sl rw,m=>.msg (sl.filterMap (dropO (drop n) m)) rw
 | _,v,_=>v
end Go.Proofs.YtaaneecceiefoaaGreatDoor.Ma
