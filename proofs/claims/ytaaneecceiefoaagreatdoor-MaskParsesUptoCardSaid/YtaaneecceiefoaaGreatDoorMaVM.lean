import Derived.Test.YtaaneecceiefoaaGreatDoorMdLaw
import Derived.Test.YtaaneecceiefoaaGreatDoorUtfDec
import Derived.Deep.AppendLies
import Derived.Deep.Upon
import Derived.Test.YtaaneecceiefoaaGreatDoorCkLists2
import Derived.Deep.DeepCutAuto
import Derived.Test.YtaaneecceiefoaaGreatDoorTwo
import Derived.Shelf.SlSortCmp.WholeK
set_option maxRecDepth 100000
set_option maxHeartbeats 4000000
set_option linter.unusedVariables false
set_option linter.unusedSimpArgs false
namespace Go.Proofs.YtaaneecceiefoaaGreatDoor
open Go.RowKit Ck
theorem run_app {w:World} (ty:TypeId) (B C:Nat) (v v2:Value) (n m:Nat) (xs news:List Value) (hown:w.ownsRow B 153 3 v n xs) (hown2:w.ownsRow C 153 3 v2 m news) (h1 : ∀u ∈ news,u.oneCell'=true) (hnm:n+m<=4000000000) (hB:B<=w.heap.size) :
  ∃(q:Option Addr) (cap:Nat) (w':World),(Builtin.append_ #[92,92] ty #[v,v2]).run Tryz.prog w=.ok (.slice q (n+m) cap) w'/\w'.ownsRow B 153 3 (.slice q (n+m) cap) (n+m) (xs ++ news)/\w.grownBy w' v.ownBlock/\∀g,(Value.slice q (n+m) cap).ownBlock=some g->v.ownBlock=some g ∨ g=w.heap.size:=by
 obtain⟨i0,hi,hz0,hz1,hz2⟩:=info_parts qjy;cases m with
 | zero=>
  have hnews:news=[]:=by have:=hown2.1;simpa using this
  subst hnews;rw [List.append_nil];have hgr:w.grownBy w v.ownBlock:=⟨rfl,rfl,rfl,Nat.le_refl _,fun k _ _=>rfl⟩;rcases hown2.2 with⟨rfl,_⟩|⟨g2,c2,cur2,rfl,_,hg2,hc2,_⟩
  ·have hrun:=run_append_owned_none (P:=Tryz.prog) (w:=w) B 92 ty 153 i0 3 Tryz.underlying92 hi v n xs hown
   rcases hown.2 with⟨rfl,rfl⟩|⟨g,cap,cur,rfl,_⟩
   ·exact⟨none,0,w,hrun,hown,hgr,fun g h=>by simp [Value.ownBlock]at h⟩
   ·exact⟨some ⟨g,0,none⟩,cap,w,hrun,hown,hgr,fun g h=>.inl h⟩
  ·have hsrc:Src Tryz.prog i0.size 92 (.slice (some ⟨g2,0,none⟩) 0 c2) 0 [] w:=by
    exact Src.ofSlice w Tryz.underlying92 ⟨g2,0,none⟩ 0 c2 [] (by simp) (fun j u h=>by simp at h) (fun u h=>by cases h)
   rcases hown.2 with⟨rfl,rfl⟩|⟨g,cap,cur,rfl,_,_,hc,_⟩
   ·exact⟨none,0,w,run_append_nothing w _ _ _ _ i0 Tryz.underlying92 hi none 0 0 (Nat.le_refl _) _ hsrc,hown,hgr,fun g h=>by simp [Value.ownBlock]at h⟩
   ·exact⟨some ⟨g,0,none⟩,cap,w,run_append_nothing w _ _ _ _ i0 Tryz.underlying92 hi (some ⟨g,0,none⟩) n cap hc _ hsrc,hown,hgr,fun g h=>.inl h⟩
 | succ m=>
  rcases hown2.2 with⟨_,h⟩|⟨g2,c2,cur2,rfl,_,hg2,hc2,_⟩
  ·omega
  ·obtain⟨g,cap,w',hr,q1,q2,q3,q4⟩:=run_append_lies (P:=Tryz.prog) w 92 ty B 153 i0 (.agg #[.string ByteArray.empty,.int .i64 0,.int .i64 0]) 3 32 Tryz.underlying92 hi hz0 hz1 hz2 rfl (by decide) v n xs hown ⟨g2,0,none⟩ (m+1) c2 news hown2.1 (fun j u hu=>hown2.cells (g:=g2) rfl j u hu) h1 (by omega) (by unfold maxLen;omega) (by omega) hB w.heap.size rfl
   exact⟨some ⟨g,0,none⟩,cap,w',hr,q1,q2,fun g' h=>by
    have hgg:g=g':=by simpa [Value.ownBlock]using h
    subst hgg
    exact q3⟩
theorem qin {ops:Array Oper} {o:Oper} {a:Act} {w:World} {K:Act->World->Prop} {Q:Exit->Act->World->Prop} {E:Prop} (hgd:o.guard=none) (s x:Operand)
  (ho:o.op=.call { callee:=.builtin .append,args:=#[s,x],argTypes:=#[92,92] })
  (B C:Nat) (v v2:Value) (n m:Nat) (xs news:List Value) (hs:a.eval s=v) (hx:a.eval x=v2) (hown:w.ownsRow B 153 3 v n xs) (hown2:w.ownsRow C 153 3 v2 m news) (h1 : ∀u ∈ news,u.oneCell'=true) (hnm:n+m<=4000000000) (hB:B<=w.heap.size)
  (h : ∀(q:Option Addr) (cap:Nat) (w':World),w'.ownsRow B 153 3 (.slice q (n+m) cap) (n+m) (xs ++ news)->w.grownBy w' v.ownBlock->(∀g,(Value.slice q (n+m) cap).ownBlock=some g->v.ownBlock=some g ∨ g=w.heap.size)->K (a.put o.dst (.slice q (n+m) cap)) w') :
  if Region.wanted o (yielded ops a.tmps)=true then Oper.wp Tryz.prog o a w K Q else E:=by
 have hw:Region.wanted o (yielded ops a.tmps)=true:=by simp [Region.wanted,hgd]
 rw [if_pos hw];obtain⟨q,cap,w',hr,h2,h3,h4⟩:=run_app (w:=w) o.type B C v v2 n m xs news hown hown2 h1 hnm hB;unfold Oper.wp execOp;simp only [ho,resolve,invoke,builtin,Sem.run_bind,Sem.run_pure,Result.andThen_ok,List.map_toArray,List.map_cons,List.map_nil,hs,hx,hr];exact h q cap w' h2 h3 h4
theorem qiz (ps:List PProb) : ∀u ∈ ps.flatMap probC,u.oneCell'=true:=by
 intro u hu;rw [List.mem_flatMap]at hu;obtain⟨p,_,hp⟩:=hu;unfold probC at hp;simp only [List.mem_cons,List.not_mem_nil,or_false]at hp;rcases hp with rfl|rfl|rfl <;> rfl
section
variable {w0 : World} {fb : Nat} {d : Str} {num : Int} {w : World} {bl : List (Nat × Array Value × TypeId)} {N : Nat} {ps : List PProb} {wx : World}
end
end Go.Proofs.YtaaneecceiefoaaGreatDoor
namespace Go.Proofs.YtaaneecceiefoaaGreatDoor
open Go.RowKit Ck
def Short (s:PSchema):Prop:=
 (∀m ∈ s.msgs,m.name.length<=100000000/\m.fields.length<=2000000/\m.res.length<=2000000/\m.gone.length<=2000000/\(∀f ∈ m.fields,f.name.length<=1000000000/\f.un.length<=1000000000000000/\f.tn.length<=1000000000/\∀n ∈ f.notes,n.name.length<=1000000000)/\(∀g ∈ m.gone,g.length<=1000000000)/\∀n ∈ m.notes,n.name.length<=1000000000) ∧
 (∀e ∈ s.enums,e.name.length<=100000000/\e.items.length<=2000000/\e.res.length<=2000000/\(∀f ∈ e.items,f.name.length<=1000000000/\∀n ∈ f.notes,n.name.length<=1000000000)/\∀n ∈ e.notes,n.name.length<=1000000000) ∧
 (∀v ∈ s.svcs,v.name.length<=100000000/\v.meths.length<=2000000/\(∀f ∈ v.meths,f.name.length<=1000000000/\∀n ∈ f.notes,n.name.length<=1000000000)/\∀n ∈ v.notes,n.name.length<=1000000000) ∧
 (s.msgs.length<=900/\s.enums.length<=1000000000/\s.svcs.length<=1000000000)/\(Ck.all s).length<=1000000000
def headN (a b c:List Str):Nat->List PProb
 | 0 => []
 | 1=>listP a
 | 2=>listP a ++ listP b
 | _=>listP a ++ listP b ++ listP c
theorem qj9 (l:List Str):listP l=un [] (-1) (decide (l.length<=64)) 3 ++ un [] (-1) (qhn l) 11:=rfl
theorem qmz {w w':World} {B fb:Nat} {e:TypeId} {v:Value} {n:Nat} {xs:List Value} (h:w.ownsRow B e 1 v n xs) (k:Lib.OthersKept 153 (some fb) w w') (he:e ≠ 153) (hb:fb<B):w'.ownsRow B e 1 v n xs:=by
 refine⟨h.1,?_⟩;rcases h.2 with hn|⟨g,cap,cur,h1,h2,h3,rest⟩
 ·exact .inl hn
 ·exact .inr ⟨g,cap,cur,h1,h2,qfa k h3 (fun e=>by injection e;omega) he,rest⟩
end Go.Proofs.YtaaneecceiefoaaGreatDoor
namespace Go.Proofs.YtaaneecceiefoaaGreatDoor
open Go.RowKit Ck
end Go.Proofs.YtaaneecceiefoaaGreatDoor
namespace Go.Proofs.YtaaneecceiefoaaGreatDoor
open Go.RowKit Ck Md
structure MB (s:PSchema):Prop where
 m : ∀m ∈ s.msgs,m.name.length<=120/\m.fields.length<=64/\∀f ∈ m.fields,f.name.length<=40/\f.un.length<=40
 e : ∀e ∈ s.enums,e.name.length<=120/\e.items.length<=64/\∀f ∈ e.items,f.name.length<=40
 v : ∀v ∈ s.svcs,v.name.length<=120/\v.meths.length<=64/\∀f ∈ v.meths,f.name.length<=40
 lm:s.msgs.length<=64
 le:s.enums.length<=64
 lv:s.svcs.length<=64
def nmB (B:Nat) (D:List PDecl):Prop := ∀d ∈ D,d.name.length<=B
structure Tr where
 d:PDecl
 v:Value
 l:List PMem
section
variable {w0 w w' : World} {g : Nat} {a b c : Value} {D : List PDecl} {M : List Value} {R : List Row} {X : List Box} {bx : Box} {r : Row}
end
end Go.Proofs.YtaaneecceiefoaaGreatDoor
namespace Go.Proofs.YtaaneecceiefoaaGreatDoor
open Go.RowKit Ma
def MaskD (A:Nat->Prop):Nat->World->Value->List PMask->Prop
 | 0,_,v,l=>l=[]/\∃p c,v=.slice p 0 c
 | n+1,w,v,l => ∃p c,v=.slice p l.length c/\l.length<=140737488355328/\l.length<=c/\∀i x,l[i]? = some x->∃b off sv,p=some ⟨b,off,none⟩/\b<w.heap.size/\A b/\w.cell? ⟨b,off+i*2,none⟩=some (.int .i64 x.num)/\w.cell? ⟨b,off+i*2+1,none⟩=some sv/\MaskD A n w sv x.subs
def Keep (A:Nat->Prop) (w w':World):Prop:=w.heap.size<=w'.heap.size/\∀b,A b->b<w.heap.size->w'.heap[b]? = w.heap[b]?
theorem Keep.cell {A:Nat->Prop} {w w':World} (h:Keep A w w') {b o:Nat} {v:Value} (hA:A b) (hv:w.cell? ⟨b,o,none⟩=some v):w'.cell? ⟨b,o,none⟩=some v:=
 (World.cell?_of_block (h.2 b hA (World.block_lt_of_cell? w _ hv))).trans hv
theorem Keep.bel {A:Nat->Prop} {w w':World} (h:Bel w w'):Keep A w w':=⟨h.size,fun b _ hb=>h.out.block b hb⟩
theorem Keep.grown {A:Nat->Prop} {w w':World} {row:Option Nat} (h:w.grownBy w' row) (hA : ∀b,A b->some b ≠ row):Keep A w w':=⟨h.size,fun b hb hl=>h.block b hl (hA b hb)⟩
section
variable {A A' : Nat → Prop}
theorem MaskD.dp : ∀{n:Nat} {w:World} {v:Value} {l:List PMask},MaskD A n w v l->Dp n l
 | 0,_,_,_,h=>h.1
 | n+1,w,v,l,h=>fun x hx=>by
  obtain⟨q,c,_,_,_,hel⟩:=h;obtain⟨i,hi⟩:=List.getElem?_of_mem hx;obtain⟨b,off,sv,_,_,_,_,_,hd⟩:=hel i x hi;exact hd.dp
theorem MaskD.kept : ∀{n:Nat} {w w':World} {v:Value} {l:List PMask},MaskD A n w v l->Keep A w w'->MaskD A n w' v l
 | 0,_,_,_,_,h,_=>h
 | n+1,w,w',v,l,h,k=>by
  obtain⟨p,c,h1,h2,h3,hel⟩:=h;refine⟨p,c,h1,h2,h3,fun i x hx=>?_⟩;obtain⟨b,off,sv,e1,e2,e3,e4,e5,hd⟩:=hel i x hx;exact⟨b,off,sv,e1,Nat.lt_of_lt_of_le e2 k.1,e3,k.cell e3 e4,k.cell e3 e5,hd.kept k⟩
theorem MaskD.bel {n:Nat} {w w':World} {v:Value} {l:List PMask} (h:MaskD A n w v l) (k:Bel w w'):MaskD A n w' v l:=h.kept (Keep.bel k)
theorem MaskD.weak : ∀{n:Nat} {w:World} {v:Value} {l:List PMask},MaskD A n w v l->(∀b,A b->b<w.heap.size->A' b)->MaskD A' n w v l
 | 0,_,_,_,h,_=>h
 | n+1,w,v,l,h,k=>by
  obtain⟨p,c,h1,h2,h3,hel⟩:=h;refine⟨p,c,h1,h2,h3,fun i x hx=>?_⟩;obtain⟨b,off,sv,e1,e2,e3,e4,e5,hd⟩:=hel i x hx;exact⟨b,off,sv,e1,e2,k b e3 e2,e4,e5,hd.weak k⟩
theorem MaskD.form {n:Nat} {w:World} {v:Value} {l:List PMask} (h:MaskD A n w v l) : ∃p c,v=.slice p l.length c:=by
 cases n with
 | zero=>
  obtain⟨rfl,p,c,h⟩:=h;exact⟨p,c,h⟩
 | succ n=>
  obtain⟨p,c,h,_⟩:=h;exact⟨p,c,h⟩
theorem MaskD.empty (n:Nat) (w:World) (p:Option Addr) (c:Nat):MaskD A n w (.slice p 0 c) []:=by
 cases n with
 | zero=>exact⟨rfl,p,c,rfl⟩
 | succ n=>exact⟨p,c,rfl,by simp,by simp,fun i x hx=>by simp at hx⟩
theorem MaskD.nil (n:Nat) (w:World):MaskD A n w (.slice none 0 0) []:=MaskD.empty n w none 0
theorem MaskD.len {n:Nat} {w:World} {v:Value} {l:List PMask} (h:MaskD A n w v l):l.length<=140737488355328:=by
 cases n with
 | zero=>rw [h.1];simp
 | succ n=>
  obtain⟨_,_,_,hl,_⟩:=h;exact hl
theorem MaskD.up : ∀{n:Nat} {w:World} {v:Value} {l:List PMask},MaskD A n w v l->MaskD A (n+1) w v l
 | 0,w,v,l,h=>by
  obtain⟨rfl,p,c,rfl⟩:=h;exact MaskD.empty 1 w p c
 | n+1,w,v,l,h=>by
  obtain⟨p,c,h1,h2,h3,hel⟩:=h;refine⟨p,c,h1,h2,h3,fun i x hx=>?_⟩;obtain⟨b,off,sv,e1,e2,e3,e4,e5,hd⟩:=hel i x hx;exact⟨b,off,sv,e1,e2,e3,e4,e5,hd.up⟩
theorem MaskD.le {n m:Nat} {w:World} {v:Value} {l:List PMask} (h:MaskD A n w v l) (hm:n<=m):MaskD A m w v l:=by
 induction hm with
 | refl=>exact h
 | step _ ih=>exact ih.up
theorem MaskD.ne {n:Nat} {w:World} {v:Value} {l:List PMask} (h:MaskD A n w v l) (hl:l ≠ []):n ≠ 0:=by
 intro e;subst e;exact hl h.1
end
def Wd (B:Nat):Nat->List PMask->Prop
 | 0,_=>True
 | n+1,l=>l.length<=B/\∀x ∈ l,Wd B n x.subs
theorem Wd.mono {B C:Nat} (hB:B<=C) : ∀{n:Nat} {l:List PMask},Wd B n l->Wd C n l
 | 0,_,_=>trivial
 | n+1,l,h=>⟨Nat.le_trans h.1 hB,fun x hx=>(h.2 x hx).mono hB⟩
theorem Wd.find {B n:Nat} {l:List PMask} (h:Wd B (n+1) l) {q:Int} {x:PMask} (hx:find l q=some x):Wd B n x.subs:=h.2 x (qas hx).1
theorem Wd.nil (B:Nat) : ∀n:Nat,Wd B n []
 | 0=>trivial
 | n+1=>⟨by simp,fun x hx=>by cases hx⟩
end Go.Proofs.YtaaneecceiefoaaGreatDoor
namespace Go.Proofs.YtaaneecceiefoaaGreatDoor
open Go.RowKit Ma
theorem qfz {α:Type} {enc:α->List Value} {k:Nat} (hk : ∀x,(enc x).length=k) (k0:0<k) : ∀(l:List α) (t:Nat),(l.flatMap enc)[t]? = (l[t / k]?).bind (fun x=>(enc x)[t % k]?)
 | [],t=>by simp
 | a :: l,t=>by
  rw [List.flatMap_cons];rcases Nat.lt_or_ge t k with ht|ht
  ·rw [List.getElem?_append_left (by rw [hk];exact ht),Nat.div_eq_of_lt ht,Nat.mod_eq_of_lt ht]
   rfl
  ·rw [List.getElem?_append_right (by rw [hk];exact ht),hk,qfz hk k0 l (t-k)]
   obtain⟨u,rfl⟩ : ∃u,t=u+k:=⟨t-k,by omega⟩;rw [Nat.add_sub_cancel,Nat.add_div_right u k0,Nat.add_mod_right];rfl
theorem qdo {α:Type} {enc:α->List Value} {k:Nat} (hk : ∀x,(enc x).length=k) : ∀(l:List α),(l.flatMap enc).length=l.length*k
 | []=>by simp
 | a :: l=>by rw [List.flatMap_cons,List.length_append,hk,qdo hk l,List.length_cons,Nat.add_mul,Nat.one_mul,Nat.add_comm]
theorem qkg {α:Type} [Inhabited α] {enc:α->List Value} {k:Nat} (hk : ∀x,(enc x).length=k) (k0:0<k) (d:Array α) (t:Nat) (ht:t<d.size*k):(d.toList.flatMap enc)[t]? = some ((Sort.flatK enc k d)[t]!):=by
 have hd:t / k<d.size:=(Nat.div_lt_iff_lt_mul k0).2 ht;have hm:t % k<k:=Nat.mod_lt _ k0;rw [Sort.get_flatK _ _ _ _ ht,qfz hk k0,Array.getElem?_toList,Array.getElem?_eq_getElem hd,getElem!_pos d _ hd];have hl:t % k<(enc d[t / k]).length:=by rw [hk];exact hm
 show(enc d[t / k])[t % k]? = _
 rw [List.getElem?_eq_getElem hl,getElem!_pos (enc d[t / k]) (t % k) hl]
theorem qmy {α:Type} [Inhabited α] {enc:α->List Value} {k:Nat} (hk : ∀x,(enc x).length=k) (k0:0<k) {w:World} {B:Nat} {e:TypeId} {g cap:Nat} {d:Array α} (h:w.ownsRow B e k (.slice (some ⟨g,0,none⟩) d.size cap) d.size (d.toList.flatMap enc)) :
  Sort.HoldsK enc k w g 0 d/\g<w.heap.size/\∀(d':Array α) (n:Nat) (os:Array Obj),d'.size=d.size →
   (sortWorldK enc k w g 0 n d' os).ownsRow B e k (.slice (some ⟨g,0,none⟩) d.size cap) d.size (d'.toList.flatMap enc)/\w.grownBy (sortWorldK enc k w g 0 n d' os) (some g):=by
 rcases h.2 with⟨h1,_⟩|⟨g',cap',cur,h1,hB,hg,hn,hc,hs,hx⟩
 ·cases h1
 cases h1;have hle:d.size*k<=cur.size:=by rw [hs];exact Nat.mul_le_mul_right k hn
 have hcur : ∀t,t<d.size*k->cur[t]? = some ((Sort.flatK enc k d)[t]!):=fun t ht=>by
  rw [←qkg hk k0 d t ht, ←hx,List.getElem?_take_of_lt ht,Array.getElem?_toList]
 have hglt:=(Array.getElem?_eq_some_iff.1 hg).1;refine⟨fun j hj=>?_,hglt,fun d' n os hsz=>⟨⟨?_,.inr ⟨g,cap,Sort.putCells id 0 (Sort.flatK enc k d') cur,rfl,hB,?_,hn,hc,?_,?_⟩⟩,?_⟩⟩
 ·rw [Sort.size_flatK]at hj
  rw [Nat.zero_add];exact⟨(Lib.cell_of_heap hg j).trans (hcur j hj),Lib.frozen_of_heap hg j⟩
 ·rw [qdo hk,Array.length_toList,hsz]
 ·unfold sortWorldK Sort.grow Sort.putRowK Sort.putRow Sort.mapBlock Sort.ahead
  show((w.heap.modify g _) ++ os)[g]? = _
  rw [Array.getElem?_append_left (by simpa using hglt),Array.getElem?_modify,if_pos rfl,hg];rfl
 ·unfold Sort.putCells
  rw [Array.size_mapIdx,hs]
 ·refine List.ext_getElem? fun t=>?_
  rcases Nat.lt_or_ge t (d.size*k)with ht|ht
  ·rw [List.getElem?_take_of_lt ht,qkg hk k0 d' t (by rw [hsz];exact ht),Array.getElem?_toList]
   unfold Sort.putCells;rw [Array.getElem?_mapIdx,hcur t ht,Option.map_some,if_pos ⟨Nat.zero_le _,by rw [Sort.size_flatK,hsz];omega⟩];rfl
  ·rw [List.getElem?_eq_none (by rw [List.length_take];omega),List.getElem?_eq_none (by rw [qdo hk,Array.length_toList,hsz];exact ht)]
 ·refine⟨rfl,rfl,rfl,?_,fun j hj hne=>?_⟩
  ·show w.heap.size<=((w.heap.modify g _) ++ os).size
   rw [Array.size_append,Array.size_modify];omega
  ·show((w.heap.modify g _) ++ os)[j]? = _
   rw [Array.getElem?_append_left (by simpa using hj),Array.getElem?_modify,if_neg (fun e=>hne (by rw [e]))]
structure ME where
 x:PMask
 p:Option Addr
 c:Nat
instance:Inhabited ME:=⟨⟨.mk 0 [],none,0⟩⟩
def meC (e:ME):List Value:=[.int .i64 e.x.num,.slice e.p e.x.subs.length e.c]
def MEok (A:Nat->Prop) (n:Nat) (w:World) (e:ME):Prop:=MaskD A n w (.slice e.p e.x.subs.length e.c) e.x.subs
theorem qi1 (e:ME):(meC e).length=2:=rfl
theorem meC_one (e:ME) : ∀v ∈ meC e,v.oneCell'=true:=by
 intro v hv;simp only [meC,List.mem_cons,List.not_mem_nil,or_false]at hv;rcases hv with rfl|rfl <;> rfl
theorem qj2 {α:Type} {enc:α->List Value} {k:Nat} (hk : ∀x,(enc x).length=k) {w:World} {B:Nat} {e:TypeId} {v:Value} {L:List α} (h:w.ownsRow B e k v L.length (L.flatMap enc)):(v=.slice none 0 0/\L=[]) ∨ ∃g c,v=.slice (some ⟨g,0,none⟩) L.length c/\B<=g/\g<w.heap.size/\L.length<=c/\∀i x,L[i]? = some x->∀j u,(enc x)[j]? = some u->w.cell? ⟨g,i*k+j,none⟩=some u:=by
 rcases h.2 with⟨rfl,h0⟩|⟨g,cap,cur,rfl,h1,h2,h3,h4,h5,h6⟩
 ·exact .inl ⟨rfl,List.length_eq_zero_iff.1 h0⟩
 ·refine .inr ⟨g,cap,rfl,h1,(Array.getElem?_eq_some_iff.1 h2).1,h3,fun i x hx j u hu=>?_⟩
  have hj:j<k:=by
   have:=(List.getElem?_eq_some_iff.1 hu).1;rwa [hk]at this
  have:=h.cells (g:=g) rfl (i*k+j) u (by
   rw [qfz hk (by omega),Nat.mul_comm i k,Nat.mul_add_div (by omega),Nat.mul_add_mod,Nat.div_eq_of_lt hj,Nat.mod_eq_of_lt hj,Nat.add_zero,hx]
   exact hu)
  rw [Addr.add_lit]at this
  simpa using this
theorem qpj {A A':Nat->Prop} {n:Nat} {w:World} {B:Nat} {e:TypeId} {v:Value} {L:List ME} (h:w.ownsRow B e 2 v L.length (L.flatMap meC)) (hl:L.length<=140737488355328) (hV : ∀x ∈ L,MEok A n w x) (hA : ∀b,A b->A' b) (hB : ∀b,B<=b->A' b):MaskD A' (n+1) w v (L.map (·.x)):=by
 rcases qj2 qi1 h with⟨rfl,rfl⟩|⟨g,c,rfl,hg,hs,hc,hel⟩
 ·exact MaskD.empty (n+1) w none 0
 ·refine⟨some ⟨g,0,none⟩,c,by rw [List.length_map],by rw [List.length_map];exact hl,by rw [List.length_map];exact hc,fun i y hy=>?_⟩
  rw [List.getElem?_map]at hy;cases hx:L[i]? with
  | none=>rw [hx]at hy;cases hy
  | some x=>
   rw [hx]at hy;cases hy;have e0:=hel i x hx 0 _ rfl;have e1:=hel i x hx 1 _ rfl;refine⟨g,0,.slice x.p x.x.subs.length x.c,rfl,hs,hB g hg,by simpa using e0,by simpa using e1,(hV x (List.mem_of_getElem? hx)).weak (fun b hb _=>hA b hb)⟩
def medge (v:Value) (L:List ME):Row:=⟨61,2,v,L.length,L.flatMap meC⟩
theorem qah {w0 w:World} {R:List Row} {X:List Box} {v:Value} {L:List ME} {e:ME} (h:ST w0 (⟨61,2,v,L.length+1,L.flatMap meC ++ meC e⟩ :: R) X w):ST w0 (medge v (L ++ [e]) :: R) X w:=by
 unfold medge;rw [List.length_append,List.flatMap_append]
 simpa using h
theorem qce:(Tryz.prog.info? 61).map (fun i=>(i.zero,i.size,i.bytes))=some (some (.agg #[.int .i64 0,.slice none 0 0]),2,32):=by kernel_rfl
def Off (A:Nat->Prop) (N:Nat) (v:Value) (b:Nat):Prop:=A b ∨ N<=b/\some b ≠ v.ownBlock
theorem MEok.grown {A:Nat->Prop} {N n:Nat} {w w':World} {e:ME} {v:Value} {g m c:Nat} (h:MEok (Off A N v) n w e) (hg:w.grownBy w' v.ownBlock) (hA : ∀b,A b->b<N) (hv : ∀k,v.ownBlock=some k->N<=k) (hfr:v.ownBlock=some g ∨ g=w.heap.size):MEok (Off A N (.slice (some ⟨g,0,none⟩) m c)) n w' e:=by
 have h1:MaskD (fun b=>Off A N v b/\b<w.heap.size) n w (.slice e.p e.x.subs.length e.c) e.x.subs:=MaskD.weak h (fun b hb hl=>⟨hb,hl⟩);refine MaskD.weak (h1.kept (Keep.grown hg fun b hb e2=>?_)) (fun b hb _=>?_)
 ·rcases hb.1 with hb1|hb1
  ·have:=hA b hb1
   have:=hv b e2.symm;omega
  ·exact hb1.2 e2
 ·rcases hb.1 with hb1|hb1
  ·exact .inl hb1
  ·refine .inr ⟨hb1.1,fun e2=>?_⟩
   have e3:b=g:=by injection e2
   subst e3;rcases hfr with h4|h4
   ·exact hb1.2 h4.symm
   ·have:=hb.2
    omega
def RowOK (A:Nat->Prop) (N n:Nat) (v:Value) (L:List ME) (w:World):Prop := ∀e ∈ L,MEok (Off A N v) n w e
theorem RowOK.nil (A:Nat->Prop) (N n:Nat) (v:Value) (w:World):RowOK A N n v [] w:=fun e he=>by cases he
theorem RowOK.bel {A:Nat->Prop} {N n:Nat} {v:Value} {L:List ME} {w w':World} (h:RowOK A N n v L w) (k:Bel w w'):RowOK A N n v L w':=fun e he=>MaskD.bel (h e he) k
theorem RowOK.snoc {A:Nat->Prop} {w0:World} {n:Nat} {v:Value} {L:List ME} {w w':World} {e:ME} {R:List Row} {X:List Box} {g m c:Nat} (h:RowOK A w0.heap.size n v L w) (hS:ST w0 (medge v L :: R) X w) (hA : ∀b,A b->b<w0.heap.size) (he:MEok (Off A w0.heap.size v) n w e) (hg:w.grownBy w' v.ownBlock) {H:Nat} (hfr:v.ownBlock=some g ∨ g=H) (hH:w.heap.size=H):RowOK A w0.heap.size n (.slice (some ⟨g,0,none⟩) m c) (L ++ [e]) w':=by
 subst hH;have hv : ∀k,v.ownBlock=some k->w0.heap.size<=k:=fun k hk=>((hS.row 0 rfl).lt k hk).1
 intro x hx;rcases List.mem_append.1 hx with hx|hx
 ·exact(h x hx).grown hg hA hv hfr
 ·rw [List.mem_singleton]at hx
  subst hx;exact MEok.grown he hg hA hv hfr
theorem qcv {A:Nat->Prop} {w0 W:World} {v:Value} {L:List ME} {R:List Row} {X:List Box} (hS:ST w0 (medge v L :: R) X W) {b:Nat} (hb:A b ∨ W.heap.size<=b):Off A w0.heap.size v b:=by
 rcases hb with hb|hb
 ·exact .inl hb
 ·refine .inr ⟨Nat.le_trans hS.bel.size hb,fun e=>?_⟩
  have:=((hS.row 0 rfl).lt b e.symm).2;omega
theorem qes {A:Nat->Prop} {N n:Nat} {v:Value} {w:World} {e:ME} (h:MaskD A n w (.slice e.p e.x.subs.length e.c) e.x.subs):MEok (Off A N v) n w e:=h.weak (fun b hb _=>.inl hb)
def qbm (A:Nat->Prop) (n:Nat) (w:World) (l:List PMask) (e:Ending) (w':World):Prop := ∃v,e=.returned v/\MaskD (fun b=>A b ∨ w.heap.size<=b) n w' v l/\Bel w w'
theorem qd3 {A:Nat->Prop} {n:Nat} {w0 w:World} {v:Value} {L:List ME} {R:List Row} {X:List Box} {l:List PMask} (hS:ST w0 (medge v L :: R) X w) (h:RowOK A w0.heap.size n v L w) (hl:L.length<=140737488355328) (e:L.map (·.x)=l):MaskD (fun b=>A b ∨ w0.heap.size<=b) (n+1) w v l:=by
 subst e;refine qpj (hS.row 0 rfl) hl h (fun b hb=>?_) (fun b hb=>.inr hb);rcases hb with hb|hb
 ·exact .inl hb
 ·exact .inr hb.1
end Go.Proofs.YtaaneecceiefoaaGreatDoor
namespace Go.Proofs.YtaaneecceiefoaaGreatDoor.Ma
theorem whole_iff {x:PMask}:whole x=true ↔ x.subs=[]:=by unfold whole;exact List.isEmpty_iff
theorem qli (k:Int) (l:List PMask):whole (.mk k l)=l.isEmpty:=rfl
def meetO (f:List PMask->List PMask->List PMask) (x y:PMask):Option PMask:=if whole x then some y else if whole y then some x else if(f x.subs y.subs).isEmpty then none else some (.mk x.num (f x.subs y.subs))
def pickO (f:List PMask->List PMask->List PMask) (b:List PMask) (x:PMask):Option PMask:=(find b x.num).bind (meetO f x)
def meet:Nat->List PMask->List PMask->List PMask
 | 0,_,_ => []
 | n+1,a,b=>a.filterMap (pickO (meet n) b)
theorem qjz {f:List PMask->List PMask->List PMask} {b:List PMask} {x z:PMask} (h:pickO f b x=some z):z.num=x.num:=by
 unfold pickO at h;obtain⟨y,h1,h2⟩:=Option.bind_eq_some_iff.1 h;have hy:=(qas h1).2;unfold meetO at h2
 split at h2
 ·cases h2;exact hy
 ·split at h2
  ·cases h2;rfl
  ·split at h2
   ·cases h2
   ·cases h2;rfl
theorem find_fm {F:PMask->Option PMask} (hF : ∀x z,F x=some z->z.num=x.num) : ∀{l:List PMask},Asc l->∀k,find (l.filterMap F) k=(find l k).bind F
 | [],_,_=>rfl
 | x :: l,h,k=>by
  have ih:=find_fm hF h.tail k;rw [qad];by_cases e:x.num=k
  ·rw [if_pos e]
   show _=F x
   have hn:find l k=none:=qid h (by omega);rw [hn]at ih;cases q:F x with
   | none=>rw [List.filterMap_cons_none q,ih];rfl
   | some z=>rw [List.filterMap_cons_some q,qad,if_pos (by rw [hF x z q];exact e)]
  ·rw [if_neg e]
   cases q:F x with
   | none=>rw [List.filterMap_cons_none q,ih]
   | some z=>rw [List.filterMap_cons_some q,qad,if_neg (by rw [hF x z q];exact e),ih]
theorem asc_fm {F:PMask->Option PMask} (hF : ∀x z,F x=some z->z.num=x.num) : ∀{l:List PMask},Asc l->Asc (l.filterMap F)
 | [],_=>List.Pairwise.nil
 | x :: l,h=>by
  have ih:=asc_fm hF h.tail;cases q:F x with
  | none=>rw [List.filterMap_cons_none q];exact ih
  | some z=>
   rw [List.filterMap_cons_some q];refine List.pairwise_cons.2 ⟨fun u hu=>?_,ih⟩;obtain⟨v,hv,e⟩:=List.mem_filterMap.1 hu;rw [hF x z q,hF v u e];exact h.head v hv
theorem qpr {n:Nat} {a b:List PMask} (ha:Asc a) (k:Int):find (meet (n+1) a b) k=(find a k).bind (pickO (meet n) b):=find_fm (fun _ _ h=>qjz h) ha k
theorem qo8 {n:Nat} {a b:List PMask} (ha:Asc a):Asc (meet n a b):=by
 cases n with
 | zero=>exact List.Pairwise.nil
 | succ n=>exact asc_fm (fun _ _ h=>qjz h) ha
def metO (f:List PMask->List PMask->List PMask):Option PMask->Option PMask->Option PMask
 | some x,some y=>meetO f x y
 | _,_=>none
theorem qic {n:Nat} {a b:List PMask} (ha:Asc a) (k:Int):find (meet (n+1) a b) k=metO (meet n) (find a k) (find b k):=by
 rw [qpr ha];cases e:find a k with
 | none=>rfl
 | some x=>
  show pickO _ b x=_
  unfold pickO;rw [(qas e).2];cases find b k <;> rfl
theorem meet_comm : ∀(n:Nat) {a b:List PMask},Srt n a->Srt n b->meet n a b=meet n b a
 | 0,_,_,_,_=>rfl
 | n+1,a,b,ha,hb=>by
  refine ext (qo8 ha.1) (qo8 hb.1) fun k=>?_
  rw [qic ha.1,qic hb.1];cases ea:find a k with
  | none=>cases find b k <;> rfl
  | some x=>
   cases eb:find b k with
   | none=>rfl
   | some y=>
    obtain⟨m1,k1⟩:=qas ea;obtain⟨m2,k2⟩:=qas eb;have ih:=meet_comm n (ha.2 x m1) (hb.2 y m2);have hk:=k1.trans k2.symm;show meetO _ x y=meetO _ y x
    unfold meetO;rw [ih,hk];cases hx:whole x <;> cases hy:whole y
    ·simp
    ·simp
    ·simp
    ·simp only [if_true]
     exact congrArg some (PMask.ext2 hk.symm (by rw [whole_iff.1 hx,whole_iff.1 hy]))
def covOne (f:List PMask->List PMask->Bool) (a:List PMask) (y:PMask):Bool:=match find a y.num with
 | some x=>whole x || (!whole y && f x.subs y.subs)
 | none=>false
def covers:Nat->List PMask->List PMask->Bool
 | 0,_,_=>true
 | n+1,a,b=>b.all (covOne (covers n) a)
end Go.Proofs.YtaaneecceiefoaaGreatDoor.Ma
namespace Go.Proofs.YtaaneecceiefoaaGreatDoor.Ma
structure Env where
 has:List UInt8->Bool
 fld:List UInt8->Int->Option (Bool × List UInt8)
 nums:List UInt8->List Int
def Env.ty (E:Env) (nm:List UInt8) (k:Int):List UInt8:=((E.fld nm k).map (·.2)).getD []
structure Env.Ok (E:Env):Prop where
 asc : ∀nm,(E.nums nm).Pairwise (· < ·)
 fld : ∀nm k,k ∈ E.nums nm->(E.fld nm k).isSome=true
 has : ∀nm k f,E.fld nm k=some f->f.1=true->E.has f.2=true
def Nm (E:Env):Nat->List UInt8->List PMask->Prop
 | 0,nm,l=>E.has nm=true/\l=[]
 | n+1,nm,l=>E.has nm=true/\Asc l/\∀x ∈ l, ∃f,E.fld nm x.num=some f/\(x.subs=[] ∨ (f.1=true/\Nm E n f.2 x.subs))
theorem Nm.hs {E:Env} {n:Nat} {nm:List UInt8} {l:List PMask} (h:Nm E n nm l):E.has nm=true:=by
 cases n <;> exact h.1
theorem Nm.srt {E:Env} : ∀{n:Nat} {nm:List UInt8} {l:List PMask},Nm E n nm l->Srt n l
 | 0,_,_,h=>h.2
 | n+1,nm,l,h=>⟨h.2.1,fun x hx=>by
  obtain⟨f,_,h2⟩:=h.2.2 x hx;rcases h2 with e|⟨_,h2⟩
  ·rw [e];exact Srt.nil n
  ·exact h2.srt⟩
theorem Nm.nil {E:Env} {nm:List UInt8} (h:E.has nm=true) : ∀n:Nat,Nm E n nm []
 | 0=>⟨h,rfl⟩
 | n+1=>⟨h,List.Pairwise.nil,fun x hx=>by cases hx⟩
def chkGo (E:Env) (rec:List UInt8->List PMask->Int) (nm:List UInt8):Option Int->List PMask->Int
 | _,[]=>0
 | pv,x :: r=>if(pv.any fun p=>decide (x.num<=p))=true then 11 else match E.fld nm x.num with
  | none=>8
  | some f=>if whole x=true then chkGo E rec nm (some x.num) r else if f.1=false then 12 else if rec f.2 x.subs ≠ 0 then rec f.2 x.subs else chkGo E rec nm (some x.num) r
def chk (E:Env):Nat->List UInt8->List PMask->Int
 | 0,nm,_=>if E.has nm then 0 else 10
 | n+1,nm,l=>if E.has nm then chkGo E (chk E n) nm none l else 10
theorem qkr {E:Env} {rec:List UInt8->List PMask->Int} {nm:List UInt8} : ∀(l:List PMask) (pv:Option Int),chkGo E rec nm pv l=0 ↔ (∀p,pv=some p->∀x ∈ l,p<x.num)/\Asc l/\∀x ∈ l, ∃f,E.fld nm x.num=some f/\(x.subs=[] ∨ (f.1=true/\rec f.2 x.subs=0))
 | [],pv=>by
  refine⟨fun _=>⟨fun p _ x hx=>(by cases hx),List.Pairwise.nil,fun x hx=>(by cases hx)⟩,fun _=>rfl⟩
 | x :: r,pv=>by
  have ih:=qkr (E:=E) (rec:=rec) (nm:=nm) r (some x.num);unfold chkGo
  have hp:(pv.any fun p=>decide (x.num<=p))=true ↔ ∃p,pv=some p/\x.num<=p:=by
   cases pv <;> simp
  constructor
  ·intro h
   split at h
   ·cases h
   ·rename_i h0
    rw [hp]at h0
    have hlt : ∀p,pv=some p->p<x.num:=fun p hq=>by
     rcases Int.lt_or_le p x.num with h'|h'
     ·exact h'
     ·exact absurd ⟨p,hq,h'⟩ h0
    split at h
    ·cases h
    ·rename_i f hf
     have fin:chkGo E rec nm (some x.num) r=0->(x.subs=[] ∨ (f.1=true/\rec f.2 x.subs=0))->_:=fun h1 h2=>by
      obtain⟨g1,g2,g3⟩:=ih.1 h1;refine(⟨fun p hq y hy=>?_,List.pairwise_cons.2 ⟨fun y hy=>g1 _ rfl y hy,g2⟩,fun y hy=>?_⟩:(∀p,pv=some p->∀y ∈ x :: r,p<y.num)/\Asc (x :: r)/\∀y ∈ x :: r, ∃f,E.fld nm y.num=some f/\(y.subs=[] ∨ (f.1=true/\rec f.2 y.subs=0)))
      ·rcases List.mem_cons.1 hy with rfl|hy
       ·exact hlt p hq
       ·have:=g1 _ rfl y hy
        have:=hlt p hq;omega
      ·rcases List.mem_cons.1 hy with rfl|hy
       ·exact⟨f,hf,h2⟩
       ·exact g3 y hy
     split at h
     ·rename_i hw
      exact fin h (.inl (whole_iff.1 hw))
     ·split at h
      ·cases h
      ·rename_i hs
       split at h
       ·rename_i hr
        exact absurd h hr
       ·rename_i hr
        exact fin h (.inr ⟨by simpa using hs,by simpa using hr⟩)
  ·rintro ⟨h1,h2,h3⟩
   rw [if_neg (by
    rw [hp];rintro ⟨p,hq,h'⟩;have:=h1 p hq x (List.mem_cons_self ..)
    omega)]
   obtain⟨f,hf,hx⟩:=h3 x (List.mem_cons_self ..);rw [hf];have hr:chkGo E rec nm (some x.num) r=0:=ih.2 ⟨fun p hq y hy=>by cases hq;exact h2.head y hy,h2.tail,fun y hy=>h3 y (List.mem_cons_of_mem _ hy)⟩;show(if _ then _ else _)=_
   rcases hx with e|⟨e1,e2⟩
   ·rw [if_pos (whole_iff.2 e)]
    exact hr
   ·by_cases hw:whole x=true
    ·rw [if_pos hw];exact hr
    ·rw [if_neg hw,if_neg (by rw [e1];simp),if_neg (by simp [e2])]
     exact hr
theorem qdi {E:Env} : ∀(n:Nat) (nm:List UInt8) (l:List PMask),Dp n l->(chk E n nm l=0 ↔ Nm E n nm l)
 | 0,nm,l,hd=>by
  unfold chk;rw [show l=[]from hd];cases h:E.has nm with
  | true=>exact⟨fun _=>⟨h,rfl⟩,fun _=>rfl⟩
  | false=>exact⟨fun h'=>(by cases h'),fun h'=>(by have:=h'.1;rw [h]at this;cases this)⟩
 | n+1,nm,l,hd=>by
  unfold chk;cases h:E.has nm with
  | false=>exact⟨fun h'=>(by cases h'),fun h'=>(by have:=h'.1;rw [h]at this;cases this)⟩
  | true=>
   simp only [if_true];rw [qkr];constructor
   ·rintro ⟨_,h2,h3⟩
    refine⟨h,h2,fun x hx=>?_⟩;obtain⟨f,hf,hx'⟩:=h3 x hx;refine⟨f,hf,?_⟩;rcases hx' with e|⟨e1,e2⟩
    ·exact .inl e
    ·exact .inr ⟨e1,(qdi n f.2 x.subs (hd x hx)).1 e2⟩
   ·rintro ⟨_,h2,h3⟩
    refine⟨fun p hq=>(by cases hq),h2,fun x hx=>?_⟩;obtain⟨f,hf,hx'⟩:=h3 x hx;refine⟨f,hf,?_⟩;rcases hx' with e|⟨e1,e2⟩
    ·exact .inl e
    ·exact .inr ⟨e1,(qdi n f.2 x.subs (hd x hx)).2 e2⟩
theorem qil {E:Env} : ∀(n:Nat) {nm:List UInt8} {a b:List PMask},Nm E n nm a->Nm E n nm b->Nm E n nm (union n a b)
 | 0,_,_,_,h,_=>⟨h.1,rfl⟩
 | n+1,nm,a,b,ha,hb=>by
  have ac:=qdg (n:=n+1) ha.2.1 hb.2.1;refine⟨ha.1,ac,fun x hx=>?_⟩;have hf:=find_mem ac hx;rw [qd7 ha.2.1 hb.2.1]at hf;cases ea:find a x.num with
  | none=>
   rw [ea]at hf;exact hb.2.2 x (qas hf).1
  | some u=>
   rw [ea]at hf;obtain⟨m1,k1⟩:=qas ea;obtain⟨f,hf1,hf2⟩:=ha.2.2 u m1;cases eb:find b x.num with
   | none=>
    rw [eb]at hf;cases hf;exact⟨f,hf1,hf2⟩
   | some v=>
    rw [eb]at hf;obtain⟨m2,k2⟩:=qas eb;obtain⟨g,hg1,hg2⟩:=hb.2.2 v m2;have hj:joinF (union n) u v=x:=Option.some.inj hf;rw [k1]at hf1;rw [k2]at hg1;rw [hf1]at hg1;cases hg1;refine⟨f,hf1,?_⟩;rw [←hj];unfold joinF;cases hu:whole u with
    | true=>exact .inl (by simp [PMask.subs])
    | false=>
     cases hv:whole v with
     | true=>exact .inl (by simp [PMask.subs])
     | false=>
      rcases hf2 with e|⟨e1,e2⟩
      ·rw [whole_iff.2 e]at hu;cases hu
      ·rcases hg2 with e|⟨_,e3⟩
       ·rw [whole_iff.2 e]at hv;cases hv
       ·exact .inr ⟨e1,by simpa [PMask.subs]using qil n e2 e3⟩
def all (E:Env) (nm:List UInt8):List PMask:=(E.nums nm).map fun k=>.mk k []
def fromF (E:Env) (nm:List UInt8) (x:PMask):List PMask:=if whole x then all E (E.ty nm x.num)else x.subs
def minO (E:Env) (f:List UInt8->List PMask->List PMask->List PMask) (nm:List UInt8) (b:List PMask) (x:PMask):Option PMask:=match find b x.num with
 | none=>some x
 | some y=>if whole y then none else if(f (E.ty nm x.num) (fromF E nm x) y.subs).isEmpty then none else some (.mk x.num (f (E.ty nm x.num) (fromF E nm x) y.subs))
def minus (E:Env):Nat->List UInt8->List PMask->List PMask->List PMask
 | 0,_,a,_=>a
 | n+1,nm,a,b=>a.filterMap (minO E (minus E n) nm b)
theorem asc_all {E:Env} (hE:E.Ok) (nm:List UInt8):Asc (all E nm):=by
 unfold all Asc;rw [List.pairwise_map];exact hE.asc nm
theorem all_nm {E:Env} (hE:E.Ok) {nm:List UInt8} (h:E.has nm=true) (n:Nat):Nm E (n+1) nm (all E nm):=by
 refine⟨h,asc_all hE nm,fun x hx=>?_⟩;obtain⟨k,hk,rfl⟩:=List.mem_map.1 hx;obtain⟨f,hf⟩:=Option.isSome_iff_exists.1 (hE.fld nm k hk);exact⟨f,hf,.inl rfl⟩
theorem from_nm {E:Env} (hE:E.Ok) {n:Nat} {nm:List UInt8} {x y:PMask} {f:Bool × List UInt8} (hf:E.fld nm x.num=some f) (hx:x.subs=[] ∨ (f.1=true/\Nm E n f.2 x.subs)) (hy:f.1=true/\Nm E n f.2 y.subs) (hw:whole y=false) :
  E.ty nm x.num=f.2/\Nm E n f.2 (fromF E nm x):=by
 have ht:E.ty nm x.num=f.2:=by unfold Env.ty;rw [hf];rfl
 refine⟨ht,?_⟩;unfold fromF;rw [ht];cases e:whole x with
 | true=>
  simp only [if_true];cases n with
  | zero=>rw [whole_iff.2 hy.2.2]at hw;cases hw
  | succ n=>exact all_nm hE (hE.has _ _ _ hf hy.1) n
 | false=>
  rcases hx with h|h
  ·rw [whole_iff.2 h]at e;cases e
  ·simpa using h.2
end Go.Proofs.YtaaneecceiefoaaGreatDoor.Ma
namespace Go.Proofs.YtaaneecceiefoaaGreatDoor.Ma
structure PRaw where
 num:Int
 wire:Int
 bits:Nat
 data:List UInt8
inductive CV where
 | scalar (kind:Int) (bits:Nat) (text:List UInt8)
 | list (l:List CV)
 | map (l:List (CV × CV))
 | msg (slots:List (Int × CV)) (raws:List PRaw)
def CV.isMsg:CV->Bool
 | .msg _ _=>true
 | _=>false
def CV.kind:CV->Int
 | .scalar k _ _=>k
 | .list _=>11
 | .map _=>12
 | .msg _ _=>10
def keepO (f:CV->List PMask->CV) (m:List PMask) (x:Int × CV):Option (Int × CV):=(find m x.1).map fun e=>if whole e then x else(x.1,f x.2 e.subs)
def keep:Nat->CV->List PMask->CV
 | n+1,.msg sl rw,m=>.msg (sl.filterMap (keepO (keep n) m)) []
 | _,v,_=>v
def dropO (f:CV->List PMask->CV) (m:List PMask) (x:Int × CV):Option (Int × CV):=match find m x.1 with
 | some e=>if whole e || !x.2.isMsg then none else some (x.1,f x.2 e.subs)
 | none=>some x
def drop:Nat->CV->List PMask->CV
 | n+1,.msg sl rw,m=>.msg (sl.filterMap (dropO (drop n) m)) rw
 | _,v,_=>v
def qip (l:List (Int × CV)) (k:Int):Option CV:=(l.find? fun x=>decide (x.1=k)).map (·.2)
def ofV (E:Env):Nat->List UInt8->CV->List PMask
 | n+1,nm,.msg sl _=>if E.has nm then(E.nums nm).filterMap fun k=>(qip sl k).map fun v=>PMask.mk k (if((E.fld nm k).map (·.1)).getD false then ofV E n (E.ty nm k) v else [])else []
 | _,_,_ => []
end Go.Proofs.YtaaneecceiefoaaGreatDoor.Ma
namespace Go.Proofs.YtaaneecceiefoaaGreatDoor
open Go.RowKit Ma
def SlA {α:Type} (A:Nat->Prop) (C:Nat) (V:World->List Value->α->Prop) (w:World) (v:Value) (xs:List α):Prop:=
 ∃(p:Option Addr) (c:Nat),v=.slice p xs.length c/\xs.length<=140737488355328/\xs.length<=c/\∀i x,xs[i]? = some x->∃b off vs,p=some ⟨b,off,none⟩/\b<w.heap.size/\A b/\Cells w b (off+i*C) vs/\V w vs x
theorem SlA.kept {α:Type} {A:Nat->Prop} {C:Nat} {V:World->List Value->α->Prop} {w w':World} {v:Value} {xs:List α} (h:SlA A C V w v xs) (k:Keep A w w') (hV : ∀vs x,V w vs x->V w' vs x):SlA A C V w' v xs:=by
 obtain⟨p,c,h1,h2,h3,hel⟩:=h;refine⟨p,c,h1,h2,h3,fun i x hx=>?_⟩;obtain⟨b,off,vs,e1,e2,e3,e4,e5⟩:=hel i x hx;exact⟨b,off,vs,e1,Nat.lt_of_lt_of_le e2 k.1,e3,fun j u hu=>k.cell e3 (e4 j u hu),hV vs x e5⟩
theorem SlA.weak {α:Type} {A A':Nat->Prop} {C:Nat} {V V':World->List Value->α->Prop} {w:World} {v:Value} {xs:List α} (h:SlA A C V w v xs) (k : ∀b,A b->b<w.heap.size->A' b) (hV : ∀vs x,V w vs x->V' w vs x):SlA A' C V' w v xs:=by
 obtain⟨p,c,h1,h2,h3,hel⟩:=h;refine⟨p,c,h1,h2,h3,fun i x hx=>?_⟩;obtain⟨b,off,vs,e1,e2,e3,e4,e5⟩:=hel i x hx;exact⟨b,off,vs,e1,e2,k b e3 e2,e4,hV vs x e5⟩
theorem SlA.nil {α:Type} (A:Nat->Prop) (C:Nat) (V:World->List Value->α->Prop) (w:World) (p:Option Addr) (c:Nat):SlA A C V w (.slice p 0 c) []:=⟨p,c,rfl,by simp,by simp,fun i x hx=>by simp at hx⟩
structure VC where
 k:Int
 b:Int
 t:List UInt8
 p1:Option Addr
 n1:Nat
 c1:Nat
 p2:Option Addr
 n2:Nat
 c2:Nat
 p3:Option Addr
 n3:Nat
 c3:Nat
 p4:Option Addr
 n4:Nat
 c4:Nat
def VC.cells (v:VC):List Value:=[.int .i64 v.k,.int .u64 v.b,.string (S v.t),.slice v.p1 v.n1 v.c1,.slice v.p2 v.n2 v.c2,.slice v.p3 v.n3 v.c3,.slice v.p4 v.n4 v.c4]
def rawC (r:PRaw):List Value:=[.int .i64 r.num,.int .i64 r.wire,.int .u64 r.bits,.string (S r.data)]
def VRaw (w:World) (vs:List Value) (r:PRaw):Prop:=vs=rawC r
def ValC (A:Nat->Prop):Nat->World->VC->CV->Prop
 | 0,_,_,_=>False
 | n+1,w,c,.scalar k b t=>c.k=k/\k ≠ 10/\k ≠ 11/\k ≠ 12/\c.b=b/\0<=c.b/\c.b<18446744073709551616/\c.t=t
 | n+1,w,c,.list l=>c.k=11/\SlA A 7 (fun w vs v => ∃d:VC,vs=d.cells/\ValC A n w d v) w (.slice c.p1 c.n1 c.c1) l
 | n+1,w,c,.map l=>c.k=12/\SlA A 14 (fun w vs (v:CV × CV) => ∃d1 d2:VC,vs=d1.cells ++ d2.cells/\ValC A n w d1 v.1/\ValC A n w d2 v.2) w (.slice c.p2 c.n2 c.c2) l
 | n+1,w,c,.msg sl rw=>c.k=10/\SlA A 8 (fun w vs (v:Int × CV) => ∃d:VC,vs=.int .i64 v.1 :: d.cells/\ValC A n w d v.2) w (.slice c.p3 c.n3 c.c3) sl/\SlA A 4 VRaw w (.slice c.p4 c.n4 c.c4) rw
def VList (A:Nat->Prop) (n:Nat) (w:World) (vs:List Value) (v:CV):Prop := ∃d:VC,vs=d.cells/\ValC A n w d v
def VPair (A:Nat->Prop) (n:Nat) (w:World) (vs:List Value) (v:CV × CV):Prop := ∃d1 d2:VC,vs=d1.cells ++ d2.cells/\ValC A n w d1 v.1/\ValC A n w d2 v.2
def VSlot (A:Nat->Prop) (n:Nat) (w:World) (vs:List Value) (v:Int × CV):Prop := ∃d:VC,vs=.int .i64 v.1 :: d.cells/\ValC A n w d v.2
theorem ValC.kept {A:Nat->Prop} : ∀{n:Nat} {w w':World} {c:VC} {v:CV},ValC A n w c v->Keep A w w'->ValC A n w' c v
 | 0,_,_,_,_,h,_=>h.elim
 | n+1,_,_,_,.scalar k b t,h,_=>h
 | n+1,_,_,_,.list l,h,k=>⟨h.1,(show SlA A 7 (VList A n) _ _ _ from h.2).kept k (fun _ _ ⟨d,h1,h2⟩=>⟨d,h1,ValC.kept h2 k⟩)⟩
 | n+1,_,_,_,.map l,h,k=>⟨h.1,(show SlA A 14 (VPair A n) _ _ _ from h.2).kept k (fun _ _ ⟨d1,d2,h1,h2,h3⟩=>⟨d1,d2,h1,ValC.kept h2 k,ValC.kept h3 k⟩)⟩
 | n+1,_,_,_,.msg sl rw,h,k=>⟨h.1,(show SlA A 8 (VSlot A n) _ _ _ from h.2.1).kept k (fun _ _ ⟨d,h1,h2⟩=>⟨d,h1,ValC.kept h2 k⟩),h.2.2.kept k (fun _ _ h=>h)⟩
theorem ValC.bel {A:Nat->Prop} {n:Nat} {w w':World} {c:VC} {v:CV} (h:ValC A n w c v) (k:Bel w w'):ValC A n w' c v:=h.kept (Keep.bel k)
theorem ValC.weak {A A':Nat->Prop} : ∀{n:Nat} {w:World} {c:VC} {v:CV},ValC A n w c v->(∀b,A b->b<w.heap.size->A' b)->ValC A' n w c v
 | 0,_,_,_,h,_=>h.elim
 | n+1,_,_,.scalar k b t,h,_=>h
 | n+1,_,_,.list l,h,k=>⟨h.1,(show SlA A 7 (VList A n) _ _ _ from h.2).weak k (fun _ _ ⟨d,h1,h2⟩=>⟨d,h1,ValC.weak h2 k⟩)⟩
 | n+1,_,_,.map l,h,k=>⟨h.1,(show SlA A 14 (VPair A n) _ _ _ from h.2).weak k (fun _ _ ⟨d1,d2,h1,h2,h3⟩=>⟨d1,d2,h1,ValC.weak h2 k,ValC.weak h3 k⟩)⟩
 | n+1,_,_,.msg sl rw,h,k=>⟨h.1,(show SlA A 8 (VSlot A n) _ _ _ from h.2.1).weak k (fun _ _ ⟨d,h1,h2⟩=>⟨d,h1,ValC.weak h2 k⟩),h.2.2.weak k (fun _ _ h=>h)⟩
theorem ValC.kind {A:Nat->Prop} : ∀{n:Nat} {w:World} {c:VC} {v:CV},ValC A n w c v->c.k=v.kind
 | 0,_,_,_,h=>h.elim
 | n+1,_,_,.scalar k b t,h=>h.1
 | n+1,_,_,.list l,h=>h.1
 | n+1,_,_,.map l,h=>h.1
 | n+1,_,_,.msg sl rw,h=>h.1
theorem ValC.msg {A:Nat->Prop} {n:Nat} {w:World} {c:VC} {v:CV} (h:ValC A n w c v):c.k=10 ↔ v.isMsg=true:=by
 cases n with
 | zero=>exact h.elim
 | succ n=>
  cases v with
  | scalar k b t=>exact⟨fun e=>absurd (h.1.symm.trans e) h.2.1,fun e=>(by cases e)⟩
  | list l=>exact⟨fun e=>(by have:=h.1.symm.trans e;omega),fun e=>(by cases e)⟩
  | map l=>exact⟨fun e=>(by have:=h.1.symm.trans e;omega),fun e=>(by cases e)⟩
  | msg sl rw=>exact⟨fun _=>rfl,fun _=>h.1⟩
theorem ValC.up {A:Nat->Prop} : ∀{n:Nat} {w:World} {c:VC} {v:CV},ValC A n w c v->ValC A (n+1) w c v
 | 0,_,_,_,h=>h.elim
 | n+1,_,_,.scalar k b t,h=>h
 | n+1,_,_,.list l,h=>⟨h.1,(show SlA A 7 (VList A n) _ _ _ from h.2).weak (fun _ hb _=>hb) (fun _ _ ⟨d,h1,h2⟩=>⟨d,h1,ValC.up h2⟩)⟩
 | n+1,_,_,.map l,h=>⟨h.1,(show SlA A 14 (VPair A n) _ _ _ from h.2).weak (fun _ hb _=>hb) (fun _ _ ⟨d1,d2,h1,h2,h3⟩=>⟨d1,d2,h1,ValC.up h2,ValC.up h3⟩)⟩
 | n+1,_,_,.msg sl rw,h=>⟨h.1,(show SlA A 8 (VSlot A n) _ _ _ from h.2.1).weak (fun _ hb _=>hb) (fun _ _ ⟨d,h1,h2⟩=>⟨d,h1,ValC.up h2⟩),h.2.2⟩
structure SE where
 x:Int × CV
 d:VC
def seC (e:SE):List Value:=.int .i64 e.x.1 :: e.d.cells
def SEok (A:Nat->Prop) (n:Nat) (w:World) (e:SE):Prop:=ValC A n w e.d e.x.2
theorem seC_len (e:SE):(seC e).length=8:=rfl
theorem qgd (e:SE) : ∀v ∈ seC e,v.oneCell'=true:=by
 intro v hv;simp only [seC,VC.cells,List.mem_cons,List.not_mem_nil,or_false]at hv;rcases hv with rfl|rfl|rfl|rfl|rfl|rfl|rfl|rfl <;> rfl
theorem qju {A A':Nat->Prop} {n:Nat} {w:World} {B:Nat} {e:TypeId} {v:Value} {L:List SE} (h:w.ownsRow B e 8 v L.length (L.flatMap seC)) (hl:L.length<=140737488355328) (hV : ∀x ∈ L,SEok A n w x) (hA : ∀b,A b->A' b) (hB : ∀b,B<=b->A' b):SlA A' 8 (VSlot A' n) w v (L.map (·.x)):=by
 rcases qj2 seC_len h with⟨rfl,rfl⟩|⟨g,c,rfl,hg,hs,hc,hel⟩
 ·exact SlA.nil _ _ _ _ _ _
 ·refine⟨some ⟨g,0,none⟩,c,by rw [List.length_map],by rw [List.length_map];exact hl,by rw [List.length_map];exact hc,fun i y hy=>?_⟩
  rw [List.getElem?_map]at hy;cases hx:L[i]? with
  | none=>rw [hx]at hy;cases hy
  | some x=>
   rw [hx]at hy;cases hy;refine⟨g,0,seC x,rfl,hs,hB g hg,fun j u hu=>by have:=hel i x hx j u hu;rwa [Nat.zero_add],x.d,rfl,(hV x (List.mem_of_getElem? hx)).weak (fun b hb _=>hA b hb)⟩
def sedge (v:Value) (L:List SE):Row:=⟨73,8,v,L.length,L.flatMap seC⟩
theorem qdy {w0 w:World} {R:List Row} {X:List Box} {v:Value} {L:List SE} {e:SE} (h:ST w0 (⟨73,8,v,L.length+1,L.flatMap seC ++ seC e⟩ :: R) X w):ST w0 (sedge v (L ++ [e]) :: R) X w:=by
 unfold sedge;rw [List.length_append,List.flatMap_append]
 simpa using h
theorem qjv:(Tryz.prog.info? 73).map (fun i=>(i.zero,i.size,i.bytes))=some (some (.agg #[.int .i64 0,.int .i64 0,.int .u64 0,.string ByteArray.empty,.slice none 0 0,.slice none 0 0,.slice none 0 0,.slice none 0 0]),8,136):=by kernel_rfl
theorem SEok.grown {A:Nat->Prop} {M N n:Nat} {w w':World} {e:SE} {v:Value} {g m c:Nat} (h:SEok (Off A N v) n w e) (hg:w.grownBy w' v.ownBlock) (hA : ∀b,A b->b<M) (hv : ∀k,v.ownBlock=some k->M<=k) (hfr:v.ownBlock=some g ∨ g=w.heap.size):SEok (Off A N (.slice (some ⟨g,0,none⟩) m c)) n w' e:=by
 have h1:ValC (fun b=>Off A N v b/\b<w.heap.size) n w e.d e.x.2:=ValC.weak h (fun b hb hl=>⟨hb,hl⟩);refine ValC.weak (h1.kept (Keep.grown hg fun b hb e2=>?_)) (fun b hb _=>?_)
 ·rcases hb.1 with hb1|hb1
  ·have:=hA b hb1
   have:=hv b e2.symm;omega
  ·exact hb1.2 e2
 ·rcases hb.1 with hb1|hb1
  ·exact .inl hb1
  ·refine .inr ⟨hb1.1,fun e2=>?_⟩
   have e3:b=g:=by injection e2
   subst e3;rcases hfr with h4|h4
   ·exact hb1.2 h4.symm
   ·have:=hb.2
    omega
def SRowOK (A:Nat->Prop) (N n:Nat) (v:Value) (L:List SE) (w:World):Prop := ∀e ∈ L,SEok (Off A N v) n w e
theorem SRowOK.nil (A:Nat->Prop) (N n:Nat) (v:Value) (w:World):SRowOK A N n v [] w:=fun e he=>by cases he
theorem SRowOK.bel {A:Nat->Prop} {N n:Nat} {v:Value} {L:List SE} {w w':World} (h:SRowOK A N n v L w) (k:Bel w w'):SRowOK A N n v L w':=fun e he=>ValC.bel (h e he) k
theorem SRowOK.kept {A:Nat->Prop} {N n:Nat} {v:Value} {L:List SE} {w w':World} (h:SRowOK A N n v L w) (k:Keep (Off A N v) w w'):SRowOK A N n v L w':=fun e he=>ValC.kept (h e he) k
theorem SRowOK.snoc {A:Nat->Prop} {w0:World} {N n:Nat} {v:Value} {L:List SE} {w w':World} {e:SE} {R:List Row} {X:List Box} {g m c:Nat} (h:SRowOK A N n v L w) (hS:ST w0 (sedge v L :: R) X w) (hA : ∀b,A b->b<w0.heap.size) (he:SEok (Off A N v) n w e) (hg:w.grownBy w' v.ownBlock) {H:Nat} (hfr:v.ownBlock=some g ∨ g=H) (hH:w.heap.size=H):SRowOK A N n (.slice (some ⟨g,0,none⟩) m c) (L ++ [e]) w':=by
 subst hH;have hv : ∀k,v.ownBlock=some k->w0.heap.size<=k:=fun k hk=>((hS.row 0 rfl).lt k hk).1
 intro x hx;rcases List.mem_append.1 hx with hx|hx
 ·exact(h x hx).grown hg hA hv hfr
 ·rw [List.mem_singleton]at hx
  subst hx;exact SEok.grown he hg hA hv hfr
theorem qm3 {A:Nat->Prop} {w0 W:World} {v:Value} {L:List SE} {R:List Row} {X:List Box} (hS:ST w0 (sedge v L :: R) X W) {N:Nat} (hN:N<=W.heap.size) {b:Nat} (hb:A b ∨ W.heap.size<=b):Off A N v b:=by
 rcases hb with hb|hb
 ·exact .inl hb
 ·refine .inr ⟨Nat.le_trans hN hb,fun e=>?_⟩
  have:=((hS.row 0 rfl).lt b e.symm).2;omega
theorem qh3 {A:Nat->Prop} {N:Nat} {v:Value} {w:World} {g o:Nat} {u:Value} (hA : ∀b,A b->b<g) (hN:g<N):Keep (Off A N v) w (w.setCell ⟨g,o,none⟩ u):=Keep.grown (qb2 w g o u) fun b hb e=>by
 have e2:b=g:=by injection e
 subst e2;rcases hb with hb|hb
 ·have:=hA b hb
  omega
 ·omega
theorem qm2 {A:Nat->Prop} {N n:Nat} {v:Value} {w:World} {e:SE} (h:ValC A n w e.d e.x.2):SEok (Off A N v) n w e:=h.weak (fun b hb _=>.inl hb)
def WdV (B:Nat):Nat->CV->Prop
 | 0,_=>True
 | n+1,.msg sl rw=>sl.length<=B/\∀x ∈ sl,WdV B n x.2
 | _+1,_=>True
def qq6 (A:Nat->Prop) (n:Nat) (w:World) (cv:CV) (e:Ending) (w':World):Prop := ∃d:VC,e=.returned (.agg d.cells.toArray)/\ValC (fun b=>A b ∨ w.heap.size<=b) n w' d cv/\Bel w w'
end Go.Proofs.YtaaneecceiefoaaGreatDoor
