import Derived.Test.YtaaneecceiefoaaGreatDoorCkOut
import Derived.Test.YtaaneecceiefoaaGreatDoorOpen
import Derived.Lib.ItoaNum
import Derived.Deep.RegionHeld3
import Derived.Lib.AppendIntMem
import Derived.Lib.ItoaLen
import Derived.Deep.RegionLaw
set_option maxRecDepth 100000
set_option maxHeartbeats 4000000
set_option linter.unusedVariables false
set_option linter.unusedSimpArgs false
namespace Go.Proofs.YtaaneecceiefoaaGreatDoor
open Go.RowKit
structure Row where
 e:TypeId
 z:Nat
 v:Value
 n:Nat
 xs:List Value
structure Box where
 g:Nat
 cs:Array Value
 T:TypeId
def qax (R:List Row) (X:List Box):List Nat:=R.filterMap (fun r=>r.v.ownBlock) ++ X.map Box.g
structure ST (w0:World) (R:List Row) (X:List Box) (w:World):Prop where
 bel:Bel w0 w
 rows : ∀r ∈ R,w.ownsRow w0.heap.size r.e r.z r.v r.n r.xs
 boxes : ∀b ∈ X,w0.heap.size<=b.g/\w.heap[b.g]? = some (.cells b.cs b.T (0,0))
 nd:(qax R X).Nodup
theorem qej {α:Type} : ∀(l:List α) (i:Nat) (x:α),l[i]? = some x->∀y,l.Perm (x :: l.eraseIdx i)/\(l.set i y).Perm (y :: l.eraseIdx i)
 | [],i,x,h,y=>by simp at h
 | a :: l,0,x,h,y=>by
  have:a=x:=by simpa using h
  subst this;exact⟨List.Perm.refl _,List.Perm.refl _⟩
 | a :: l,i+1,x,h,y=>by
  have ih:=qej l i x (by simpa using h) y;exact⟨(List.Perm.cons a ih.1).trans (List.Perm.swap x a _),(List.Perm.cons a ih.2).trans (List.Perm.swap y a _)⟩
theorem qdq {r:Row} {R:List Row} {X:List Box} (h:r.v.ownBlock=none):qax (r :: R) X=qax R X:=by
 unfold qax;rw [List.filterMap_cons,h]
theorem qcp {r:Row} {R:List Row} {X:List Box} {g:Nat} (h:r.v.ownBlock=some g):qax (r :: R) X=g :: qax R X:=by
 unfold qax;rw [List.filterMap_cons,h];rfl
theorem qey {r:Row} {R:List Row} {X:List Box} {g:Nat} (hr:r ∈ R) (h:r.v.ownBlock=some g):g ∈ qax R X:=List.mem_append_left _ (List.mem_filterMap.2 ⟨r,hr,h⟩)
theorem qez {b:Box} {R:List Row} {X:List Box} (hb:b ∈ X):b.g ∈ qax R X:=List.mem_append_right _ (List.mem_map.2 ⟨b,hb,rfl⟩)
section
variable {w0 w w' : World} {R R' : List Row} {X X' : List Box} {r : Row} {b : Box}
theorem ST.start (w:World):ST w [] [] w:=⟨Bel.refl _,fun r h=>(by cases h),fun b h=>(by cases h),List.nodup_nil⟩
theorem ST.perm (h:ST w0 R X w) (hR:R.Perm R') (hX:X.Perm X'):ST w0 R' X' w:=
 ⟨h.bel,fun r hr=>h.rows r (hR.mem_iff.2 hr),fun b hb=>h.boxes b (hX.mem_iff.2 hb),((hR.filterMap _).append (hX.map _)).nodup_iff.1 h.nd⟩
theorem ST.lt (h:ST w0 R X w) : ∀k ∈ qax R X,k<w.heap.size:=fun k hk=>by
 rcases List.mem_append.1 hk with hk|hk
 ·obtain⟨r,hr,he⟩:=List.mem_filterMap.1 hk
  exact((h.rows r hr).lt k he).2
 ·obtain⟨b,hb,rfl⟩:=List.mem_map.1 hk
  exact(Array.getElem?_eq_some_iff.1 (h.boxes b hb).2).1
theorem ST.belw (h:ST w0 R X w) (k:Bel w w'):ST w0 R X w':=
 ⟨Bel.of h.bel k,fun r hr=>qf6 (h.rows r hr) k,fun b hb=>⟨(h.boxes b hb).1,(Below.block k b.g (Array.getElem?_eq_some_iff.1 (h.boxes b hb).2).1).trans (h.boxes b hb).2⟩,h.nd⟩
theorem ST.head_ne (h:ST w0 (r :: R) X w) : ∀k ∈ qax R X,some k ≠ r.v.ownBlock:=fun k hk e=>by
 have hn:=h.nd;rw [qcp e.symm]at hn;exact(List.nodup_cons.1 hn).1 hk
theorem ST.tail_nd (h:ST w0 (r :: R) X w):(qax R X).Nodup:=by
 have hn:=h.nd;cases e:r.v.ownBlock with
 | none=>rwa [qdq e]at hn
 | some g=>rw [qcp e]at hn;exact(List.nodup_cons.1 hn).2
theorem ST.droprow0 (h:ST w0 (r :: R) X w):ST w0 R X w:=⟨h.bel,fun s hs=>h.rows s (List.mem_cons_of_mem _ hs),h.boxes,h.tail_nd⟩
theorem ST.grow0 {v':Value} {n':Nat} {xs':List Value} (h:ST w0 (r :: R) X w) (hg:w.grownBy w' r.v.ownBlock) (hown:w'.ownsRow w0.heap.size r.e r.z v' n' xs') (hf : ∀g,v'.ownBlock=some g->r.v.ownBlock=some g ∨ w.heap.size<=g) :
  ST w0 (⟨r.e,r.z,v',n',xs'⟩ :: R) X w':=by
 refine⟨Below.grown h.bel hg h.bel.size (fun k hk=>((h.rows r (List.mem_cons_self ..)).lt k hk).1),fun s hs=>?_,fun b hb=>⟨(h.boxes b hb).1,?_⟩,?_⟩
 ·rcases List.mem_cons.1 hs with rfl|hs
  ·exact hown
  ·refine(h.rows s (List.mem_cons_of_mem _ hs)).kept hg ?_
   cases e:s.v.ownBlock with
   | none=>exact .inl rfl
   | some g=>exact .inr (h.head_ne g (qey hs e))
 ·have hb2:=(h.boxes b hb).2
  exact(hg.block b.g (Array.getElem?_eq_some_iff.1 hb2).1 (h.head_ne b.g (qez hb))).trans hb2
 ·have htl:=h.tail_nd
  have hlt:=h.droprow0.lt;cases e:v'.ownBlock with
  | none=>rw [qdq e];exact htl
  | some g=>
   rw [qcp e];refine List.nodup_cons.2 ⟨fun hm=>?_,htl⟩;rcases hf g e with e2|e2
   ·exact h.head_ne g hm e2.symm
   ·have:=hlt g hm
    omega
theorem ST.addrow {e:TypeId} {z n:Nat} {v:Value} {xs:List Value} (h:ST w0 R X w) (k:Bel w w') (hown:w'.ownsRow w.heap.size e z v n xs):ST w0 (⟨e,z,v,n,xs⟩ :: R) X w':=by
 have h2:=h.belw k;refine⟨h2.bel,fun s hs=>?_,h2.boxes,?_⟩
 ·rcases List.mem_cons.1 hs with rfl|hs
  ·exact qmv hown h.bel.size
  ·exact h2.rows s hs
 ·cases e:v.ownBlock with
  | none=>rw [qdq e];exact h.nd
  | some g=>
   rw [qcp e];refine List.nodup_cons.2 ⟨fun hm=>?_,h.nd⟩;have:=h.lt g hm;have:=(hown.lt g e).1;omega
theorem ST.nilrow (h:ST w0 R X w) (e:TypeId) (z:Nat):ST w0 (⟨e,z,.slice none 0 0,0,[]⟩ :: R) X w:=h.addrow (Bel.refl _) (World.ownsRow_nil _ _ _ _)
theorem ST.addbox (h:ST w0 R X w) (cs:Array Value) (T:TypeId):ST w0 R (⟨w.heap.size,cs,T⟩ :: X) (w.alloc (.cells cs T)):=by
 have h2:=h.belw ((Bel.refl w).alloc (.cells cs T));refine⟨h2.bel,h2.rows,fun b hb=>?_,?_⟩
 ·rcases List.mem_cons.1 hb with rfl|hb
  ·exact⟨h.bel.size,heap_alloc_new _ _⟩
  ·exact h2.boxes b hb
 ·have hp:(qax R (⟨w.heap.size,cs,T⟩ :: X)).Perm (w.heap.size :: qax R X):=List.perm_middle
  refine hp.nodup_iff.2 (List.nodup_cons.2 ⟨fun hm=>?_,h.nd⟩);have:=h.lt _ hm;omega
theorem ST.box_ne (h:ST w0 R (b :: X) w):(∀k ∈ qax R X,k ≠ b.g)/\(qax R X).Nodup:=by
 have hp:(qax R (b :: X)).Perm (b.g :: qax R X):=List.perm_middle;have hn:=List.nodup_cons.1 (hp.nodup_iff.1 h.nd);exact⟨fun k hk e=>hn.1 (e ▸ hk),hn.2⟩
theorem ST.dropbox0 (h:ST w0 R (b :: X) w):ST w0 R X w:=⟨h.bel,h.rows,fun c hc=>h.boxes c (List.mem_cons_of_mem _ hc),h.box_ne.2⟩
theorem ST.setbox0 (h:ST w0 R (b :: X) w) (o:Nat) (v:Value):ST w0 R (⟨b.g,b.cs.setIfInBounds o v,b.T⟩ :: X) (w.setCell ⟨b.g,o,none⟩ v):=by
 have hb:=h.boxes b (List.mem_cons_self ..);have hg:=qbi w b.g o v;refine⟨qb9 h.bel hb.1,fun s hs=>?_,fun c hc=>?_,h.nd⟩
 ·refine(h.rows s hs).kept hg ?_
  cases e:s.v.ownBlock with
  | none=>exact .inl rfl
  | some g=>exact .inr fun e2=>h.box_ne.1 g (qey hs e) (by injection e2)
 ·rcases List.mem_cons.1 hc with rfl|hc
  ·exact⟨hb.1,heap_setCell_same w b.g o _ _ v hb.2⟩
  ·have h2:=h.boxes c (List.mem_cons_of_mem _ hc)
   exact⟨h2.1,(Below.heap_setCell _ _ _ _ (h.box_ne.1 c.g (qez hc))).trans h2.2⟩
theorem ST.to0 (h:ST w0 R X w) (i:Nat) (hi:R[i]? = some r):ST w0 (r :: R.eraseIdx i) X w:=h.perm (qej R i r hi r).1 (List.Perm.refl _)
theorem ST.of0 (i:Nat) (hi:R[i]? = some r) {s:Row} (h:ST w0 (s :: R.eraseIdx i) X w):ST w0 (R.set i s) X w:=h.perm (qej R i r hi s).2.symm (List.Perm.refl _)
theorem ST.grow {v':Value} {n':Nat} {xs':List Value} (h:ST w0 R X w) (i:Nat) (hi:R[i]? = some r) (hg:w.grownBy w' r.v.ownBlock) (hown:w'.ownsRow w0.heap.size r.e r.z v' n' xs') (hf : ∀g,v'.ownBlock=some g->r.v.ownBlock=some g ∨ w.heap.size<=g) :
  ST w0 (R.set i ⟨r.e,r.z,v',n',xs'⟩) X w':=ST.of0 i hi ((h.to0 i hi).grow0 hg hown hf)
theorem ST.setbox (h:ST w0 R X w) (j:Nat) (hj:X[j]? = some b) (o:Nat) (v:Value):ST w0 R (X.set j ⟨b.g,b.cs.setIfInBounds o v,b.T⟩) (w.setCell ⟨b.g,o,none⟩ v):=
 ((h.perm (List.Perm.refl _) (qej X j b hj b).1).setbox0 o v).perm (List.Perm.refl _) (qej X j b hj _).2.symm
theorem ST.row (h:ST w0 R X w) (i:Nat) (hi:R[i]? = some r):w.ownsRow w0.heap.size r.e r.z r.v r.n r.xs:=h.rows r (List.mem_of_getElem? hi)
theorem ST.box (h:ST w0 R X w) (j:Nat) (hj:X[j]? = some b):w.heap[b.g]? = some (.cells b.cs b.T (0,0)):=(h.boxes b (List.mem_of_getElem? hj)).2
theorem ST.boxlt (h:ST w0 R X w) (j:Nat) (hj:X[j]? = some b):w0.heap.size<=b.g/\b.g<w.heap.size:=⟨(h.boxes b (List.mem_of_getElem? hj)).1,(Array.getElem?_eq_some_iff.1 (h.box j hj)).1⟩
theorem ST.cell (h:ST w0 R X w) (j:Nat) (hj:X[j]? = some b) (o:Nat):w.cell? ⟨b.g,o,none⟩=b.cs[o]?:=Lib.cell_of_heap (h.box j hj) o
theorem ST.frz (h:ST w0 R X w) (j:Nat) (hj:X[j]? = some b) (o:Nat):w.frozen? ⟨b.g,o,none⟩=false:=Lib.frozen_of_heap (h.box j hj) o
theorem ST.rest {n:Nat} : ∀{R1:List Row},ST w0 (R1 ++ R) X w->ST w0 R X w
 | [],h=>h
 | r :: R1,h=>ST.rest (R1:=R1) (n:=n) (ST.droprow0 (r:=r) (R:=R1 ++ R) h)
end
end Go.Proofs.YtaaneecceiefoaaGreatDoor
namespace Go.Proofs.YtaaneecceiefoaaGreatDoor.Md
open Ck
structure PMem where
 name:Str
 ty:Str
 num:Int
structure PDecl where
 kind:Int
 name:Str
 frm:Str
 mems:List PMem
def cand (name:Str) (k:Nat):Str:=if k=0 then name else name ++ Lib.itoa ((k+1:Nat):Int)
def uniqF (taken:List Str) (name:Str):Nat->Nat->Str
 | 0,k=>cand name k
 | f+1,k=>if Id.has taken (cand name k)=true then uniqF taken name f (k+1)else cand name k
def unique (taken:List Str) (name:Str):Str:=uniqF taken name taken.length 0
def camel (full:Str):Str:=(Id.cut 46 full).flatMap Id.camel
def unGo:List Str->List PField->List Str
 | acc,[]=>acc
 | acc,f :: r=>unGo (if f.un ≠ []/\Id.has acc f.un=false then acc ++ [f.un]else acc) r
def unions (m:PMsg):List Str:=unGo [] m.fields
def word (k:Int):Str:=if k=1 then [98,111,111,108]else if k=2 then [105,51,50]else if k=3 then [105,54,52]else if k=4 then [117,51,50]else if k=5 then [117,54,52]else if k=6 then [100,111,117,98,108,101]else if k=7 then [116,101,120,116]else [98,121,116,101,115]
def isK (k:Int) (f:Str) (d:PDecl):Bool:=decide (d.kind=k) && decide (d.frm=f)
def ql2 (D:List PDecl) (k:Int) (f:Str):Str:=((D.find? (isK k f)).map (·.name)).getD []
def element (D:List PDecl) (tk:Int) (tn:Str):Str:=if tk=10 then ql2 D 1 tn else if tk=9 then ql2 D 3 tn else word tk
def carded (card:Int) (key t:Str):Str:=if card=2 then 63 :: t else if card=4 then 91 :: 93 :: t else if card=5 then [109,97,112,91] ++ key ++ [93] ++ t else t
def fieldT (D:List PDecl) (f:PField):Str:=carded f.card (word f.key) (element D f.tk f.tn)
def addM (l:List PMem) (name ty:Str) (num:Int):List PMem:=l ++ [⟨unique (l.map (·.name)) (Id.camel name),ty,num⟩]
def recGo (D:List PDecl) (m:Str):List PMem->List Str->List PField->List PMem
 | out,had,[]=>out
 | out,had,f :: r=>if f.un=[]then recGo D m (addM out f.name (fieldT D f) f.num) had r else if Id.has had f.un=true then recGo D m out had r else recGo D m (addM out f.un (ql2 D 2 (m ++ 58 :: f.un)) (-1)) (had ++ [f.un]) r
def record (D:List PDecl) (m:PMsg):List PMem:=recGo D m.name [] [] m.fields
def chGo (D:List PDecl) (u:Str):List PMem->List PField->List PMem
 | out,[]=>out
 | out,f :: r=>chGo D u (if f.un=u then addM out f.name (element D f.tk f.tn) f.num else out) r
def choice (D:List PDecl) (m:PMsg) (u:Str):List PMem:=chGo D u [] m.fields
def streamW:Str:=[115,116,114,101,97,109,32]
def calledT (shape:Int) (i o:Str):Str:=(if shape=3 ∨ shape=4 then streamW ++ i else i) ++ [45,62] ++ (if shape=2 ∨ shape=4 then streamW ++ o else o)
def clGo (D:List PDecl):Nat->List PMem->List PMeth->List PMem
 | _,out,[]=>out
 | i,out,m :: r=>clGo D (i+1) (addM out m.name (calledT m.shape (ql2 D 1 m.inn) (ql2 D 1 m.out)) i) r
def client (D:List PDecl) (v:PSvc):List PMem:=clGo D 0 [] v.meths
def itGo:List PMem->List PItem->List PMem
 | out,[]=>out
 | out,x :: r=>itGo (addM out x.name [] x.num) r
def items (e:PEnum):List PMem:=itGo [] e.items
def kindW (k:Int):Str:=if k=1 then [114,101,99,111,114,100]else if k=2 then [99,104,111,105,99,101]else if k=3 then [110,97,109,101,115]else if k=4 then [99,108,105,101,110,116]else [63]
def memT (m:PMem):Str:=[32,32] ++ m.name ++ [32] ++ Lib.itoa m.num ++ (if m.ty=[]then []else 32 :: m.ty) ++ [10]
def declT (d:PDecl):Str:=kindW d.kind ++ [32] ++ d.name ++ [32,61,32] ++ d.frm ++ [10] ++ d.mems.flatMap memT
def text (l:List PDecl):Str:=l.flatMap declT
end Go.Proofs.YtaaneecceiefoaaGreatDoor.Md
namespace Go.Proofs.YtaaneecceiefoaaGreatDoor
open Go.RowKit Ck Md
def memC (m:PMem):List Value:=[.string (S m.name),.string (S m.ty),.int .i64 m.num]
def VMem (w:World) (vs:List Value) (m:PMem):Prop:=vs=memC m
theorem VMem.stays:Stays VMem:=fun _ _ _ _ _ h=>h
def Mems:=Sv 3 VMem
def VDecl (w:World) (vs:List Value) (d:PDecl):Prop := ∃mv,vs=[.int .i64 d.kind,.string (S d.name),.string (S d.frm),mv]/\Mems w mv d.mems
theorem VDecl.stays:Stays VDecl:=fun _ _ _ _ k ⟨mv,h1,h2⟩=>⟨mv,h1,h2.bel VMem.stays k⟩
def whC (d:PDecl):List Value:=[.int .i64 d.kind,.string (S d.frm)]
def nmC (l:List Str):List Value:=l.map fun s=>.string (S s)
end Go.Proofs.YtaaneecceiefoaaGreatDoor
namespace Go.Proofs.YtaaneecceiefoaaGreatDoor
open Go.RowKit Ck Md
end Go.Proofs.YtaaneecceiefoaaGreatDoor
namespace Go.Proofs.YtaaneecceiefoaaGreatDoor
open Go.RowKit
end Go.Proofs.YtaaneecceiefoaaGreatDoor
namespace Go.Proofs.YtaaneecceiefoaaGreatDoor
open Go.RowKit Ck Md
def PT (w : World) : Prop := Lib.TabIs Tryz.prog w "internal/strconv.uint64pow10" .u64 Lib.pow10Tab
theorem PT.bel {w w':World} (h:PT w) (k:Bel w w'):PT w':=Lib.tabBelow_of_tabIs h w' k.out
end Go.Proofs.YtaaneecceiefoaaGreatDoor
namespace Go.Proofs.YtaaneecceiefoaaGreatDoor
open Go.RowKit Ck Md
theorem qbc (w:World) (vs:List Value) (t:TypeId) : ∀(j:Nat) (u:Value),vs[j]? = some u->(w.alloc (.cells vs.toArray t)).cell? ((⟨w.heap.size,0,none⟩:Addr).add j)=some u:=by
 intro j u h;rw [Addr.add_lit,Nat.zero_add,World.cell?_alloc_at _ _ _ _ rfl]
 simpa using h
theorem qby {N M:Nat} {v0:Value} {g2 n cap:Nat} (h:v0.ownBlock=some g2 ∨ g2=N) (hN:M<=N) : ∀g,(Value.slice (some ⟨g2,0,none⟩) n cap).ownBlock=some g->v0.ownBlock=some g ∨ M<=g:=fun g hg=>by
 have:g2=g:=by simpa [Value.ownBlock]using hg
 subst this;rcases h with h|h
 ·exact .inl h
 ·right;omega
end Go.Proofs.YtaaneecceiefoaaGreatDoor
namespace Go.Proofs.YtaaneecceiefoaaGreatDoor
open Go.RowKit Ck Md
end Go.Proofs.YtaaneecceiefoaaGreatDoor
namespace Go.Proofs.YtaaneecceiefoaaGreatDoor
open Go.RowKit Ck Md
def VWh (w:World) (vs:List Value) (d:PDecl):Prop:=vs=whC d
theorem VWh.stays:Stays VWh:=fun _ _ _ _ _ h=>h
def NM (w:World) (g:Nat) (D:List PDecl):Prop := ∃vn vw,w.cell? ⟨g,3,none⟩=some vn/\w.cell? ⟨g,4,none⟩=some vw/\Strs w vn (D.map (·.name))/\Sv 2 VWh w vw D
theorem NM.bel {w w':World} {g:Nat} {D:List PDecl} (h:NM w g D) (k:Bel w w'):NM w' g D:=by
 obtain⟨vn,vw,h1,h2,h3,h4⟩:=h;exact⟨vn,vw,k.some h1,k.some h2,h3.below k.out,h4.bel VWh.stays k⟩
end Go.Proofs.YtaaneecceiefoaaGreatDoor
namespace Go.Proofs.YtaaneecceiefoaaGreatDoor
open Go.RowKit Ck Md
end Go.Proofs.YtaaneecceiefoaaGreatDoor
namespace Go.Proofs.YtaaneecceiefoaaGreatDoor
open Go.RowKit Ck Md
end Go.Proofs.YtaaneecceiefoaaGreatDoor
namespace Go.Proofs.YtaaneecceiefoaaGreatDoor
open Go.RowKit Ck Md
end Go.Proofs.YtaaneecceiefoaaGreatDoor
namespace Go.Proofs.YtaaneecceiefoaaGreatDoor
open Go.RowKit Ck Md
end Go.Proofs.YtaaneecceiefoaaGreatDoor
namespace Go.Proofs.YtaaneecceiefoaaGreatDoor
open Go.RowKit Ck Md
end Go.Proofs.YtaaneecceiefoaaGreatDoor
namespace Go.Proofs.YtaaneecceiefoaaGreatDoor
open Go.RowKit Ck Md
end Go.Proofs.YtaaneecceiefoaaGreatDoor
namespace Go.Proofs.YtaaneecceiefoaaGreatDoor
open Go.RowKit Ck Md
end Go.Proofs.YtaaneecceiefoaaGreatDoor
namespace Go.Proofs.YtaaneecceiefoaaGreatDoor
open Go.RowKit Ck Md
end Go.Proofs.YtaaneecceiefoaaGreatDoor
namespace Go.Proofs.YtaaneecceiefoaaGreatDoor.Md
open Ck
theorem qlq (x:UInt8) : ∀(l:Str),x ∈ l->x ≠ 46->∃p,p ∈ Id.cut 46 l/\x ∈ p
 | [],h,_=>by cases h
 | b :: r,h,hx=>by
  by_cases hb:b=46
  ·subst hb
   rw [Id.cut_hit];rcases List.mem_cons.1 h with e|h
   ·exact absurd e hx
   ·obtain⟨p,hp,hxp⟩:=qlq x r h hx
    exact⟨p,List.mem_cons_of_mem _ hp,hxp⟩
  ·rw [Id.cut_miss 46 b r hb]
   rcases List.mem_cons.1 h with rfl|h
   ·cases e:Id.cut 46 r with
    | nil=>exact⟨[x],by simp [Id.onHead],by simp⟩
    | cons q qs=>exact⟨x :: q,by simp [Id.onHead],by simp⟩
   ·obtain⟨p,hp,hxp⟩:=qlq x r h hx
    cases e:Id.cut 46 r with
    | nil=>rw [e]at hp;cases hp
    | cons q qs=>
     rw [e]at hp;rcases List.mem_cons.1 hp with rfl|hp
     ·exact⟨b :: p,by simp [Id.onHead],List.mem_cons_of_mem _ hxp⟩
     ·exact⟨p,by simp [Id.onHead,hp],hxp⟩
theorem part_nm {l:Str} (h:Id.isPart l=true):(∀x ∈ l,Id.nmB x=true)/\1<=l.length/\l.length<=40:=by
 unfold Id.isPart at h;rw [Bool.and_eq_true,decide_eq_true_iff]at h;refine⟨?_,h.2⟩;cases l with
 | nil=>intro x hx;cases hx
 | cons b r=>
  have h1:=h.1;unfold Id.okB at h1;rw [Bool.and_eq_true]at h1;intro x hx;rcases List.mem_cons.1 hx with rfl|hx
  ·exact Id.let_nm x h1.1
  ·exact List.all_eq_true.1 h1.2 x hx
theorem full_ok {l:Str} (h:Id.isFull l=true):58 ∉ l/\l.length<=120:=by
 unfold Id.isFull at h;rw [Bool.and_eq_true,decide_eq_true_iff]at h;refine⟨fun hm=>?_,h.2⟩;obtain⟨p,hp,hx⟩:=qlq 58 l hm (by decide);have:=(part_nm (List.all_eq_true.1 h.1 p hp)).1 58 hx
 revert this
 decide
end Go.Proofs.YtaaneecceiefoaaGreatDoor.Md
namespace Go.Proofs.YtaaneecceiefoaaGreatDoor.Ck
inductive Fin (s:PSchema):Str->Prop
 | mk (n:Str) (m:PMsg) (h:msgOf s n=some m) (hk : ∀k,k ∈ needs m->(msgOf s k).isSome=true->Fin s k):Fin s n
def Sound (s:PSchema) (fin:Str->Bool):Prop := ∀n,fin n=true->Fin s n
def Closed (s:PSchema) (fin:Str->Bool):Prop := ∀n m,msgOf s n=some m->(∀k,k ∈ needs m->(msgOf s k).isSome=true->fin k=true)->fin n=true
theorem Fin.closed {s:PSchema} {fin:Str->Bool} (hc:Closed s fin) {n:Str} (h:Fin s n):fin n=true:=by
 induction h with
 | mk n m h hk ih=>exact hc n m h ih
theorem qee (s:PSchema) (fin:Str->Bool) (m:PMsg):qbw s fin m=fin ∨ (qbw s fin m=(fun x=>decide (x=m.name) || fin x)/\∃f,msgOf s m.name=some f/\∀k,k ∈ needs f->(msgOf s k).isSome=true->fin k=true):=by
 unfold qbw
 split
 ·exact .inl rfl
 ·rename_i f hf
  split
  ·exact .inl rfl
  ·rename_i ho
   refine .inr ⟨rfl,f,hf,fun k hk hs=>?_⟩;cases hfk:fin k
   ·exfalso
    apply ho;rw [List.any_eq_true];exact⟨k,hk,by simp [hs,hfk]⟩
   ·rfl
theorem qmf (s:PSchema) (fin:Str->Bool) (m:PMsg) (n:Str) (h:fin n=true):qbw s fin m n=true:=by
 rcases qee s fin m with e|⟨e,_⟩ <;> rw [e]
 ·exact h
 ·simp [h]
theorem qk5 (s:PSchema) (fin:Str->Bool) (m:PMsg) (h:Sound s fin):Sound s (qbw s fin m):=by
 rcases qee s fin m with e|⟨e,f,hf,hk⟩ <;> rw [e]
 ·exact h
 ·intro n hn
  by_cases hm:n=m.name
  ·subst hm
   exact Fin.mk _ f hf fun k h1 h2=>h k (hk k h1 h2)
  ·exact h n (by simpa [hm]using hn)
theorem qe9 (s:PSchema) : ∀(l:List PMsg) (fin:Str->Bool) (n:Str),fin n=true->l.foldl (qbw s) fin n=true
 | [],_,_,h=>h
 | m :: l,fin,n,h=>qe9 s l _ n (qmf s fin m n h)
theorem qgv (s:PSchema) : ∀(l:List PMsg) (fin:Str->Bool),Sound s fin->Sound s (l.foldl (qbw s) fin)
 | [],_,h=>h
 | m :: l,fin,h=>qgv s l _ (qk5 s fin m h)
theorem qfv (s:PSchema) : ∀(l:List PMsg) (fin:Str->Bool),(∀m,m ∈ l->l.foldl (qbw s) fin m.name=fin m.name)->l.foldl (qbw s) fin=fin/\∀m,m ∈ l->qbw s fin m=fin
 | [],_,_=>⟨rfl,fun m hm=>by simp at hm⟩
 | a :: l,fin,hall=>by
  have e:qbw s fin a=fin:=by
   rcases qee s fin a with e|⟨e,_⟩
   ·exact e
   ·have ha:fin a.name=true:=by
     have:=hall a (by simp);rw [←this,List.foldl_cons];exact qe9 s l _ _ (by rw [e];simp)
    rw [e]
    funext x
    by_cases hx:x=a.name
    ·simp [hx,ha]
    ·simp [hx]
  have ih:=qfv s l fin (fun m hm=>by have:=hall m (by simp [hm]);rwa [List.foldl_cons,e]at this);refine⟨by rw [List.foldl_cons,e];exact ih.1,fun m hm=>?_⟩;rcases List.mem_cons.1 hm with rfl|hm'
  ·exact e
  ·exact ih.2 m hm'
theorem msgOf_mem {s:PSchema} {n:Str} {m:PMsg} (h:msgOf s n=some m):m ∈ s.msgs/\m.name=n:=by
 unfold msgOf at h;exact⟨List.mem_of_find?_eq_some h,by simpa using List.find?_some h⟩
theorem qmg (s:PSchema) (fin:Str->Bool) (m:PMsg) (hn:msgOf s m.name=some m) (hk : ∀k,k ∈ needs m->(msgOf s k).isSome=true->fin k=true):qbw s fin m m.name=true:=by
 unfold qbw;rw [hn];simp only;rw [if_neg]
 ·simp
 ·intro ho
  rw [List.any_eq_true]at ho;obtain⟨k,h1,h2⟩:=ho;simp only [Bool.and_eq_true,Bool.not_eq_true']at h2;rw [hk k h1 h2.1]at h2;exact absurd h2.2 (by decide)
theorem qlf (s:PSchema) (fin:Str->Bool) (h:qb4 s fin=fin):Closed s fin:=by
 intro n m hn hk;obtain⟨hm,rfl⟩:=msgOf_mem hn;have:=(qfv s s.msgs fin (fun m _=>by show qb4 s fin m.name=fin m.name;rw [h])).2 m hm;have h2:=qmg s fin m hn hk;rwa [this]at h2
def cnt (s:PSchema) (fin:Str->Bool):Nat:=(s.msgs.filter fun m=>fin m.name).length
theorem qfb {α:Type} (p q:α->Bool) : ∀(l:List α),(∀x,x ∈ l->p x=true->q x=true)->(l.filter p).length<=(l.filter q).length/\((∃x,x ∈ l/\p x=false/\q x=true)->(l.filter p).length<(l.filter q).length)
 | [],_=>⟨by simp,fun⟨x,hx,_⟩=>by simp at hx⟩
 | a :: l,h=>by
  obtain⟨h1,h2⟩:=qfb p q l (fun x hx=>h x (by simp [hx]));have ha:=h a (by simp);constructor
  ·cases hp:p a <;> cases hq:q a <;> simp [hp,hq]at ha ⊢ <;> omega
  ·rintro ⟨x,hx,hpx,hqx⟩
   rcases List.mem_cons.1 hx with rfl|hx'
   ·simp [hpx,hqx];omega
   ·have:=h2 ⟨x,hx',hpx,hqx⟩
    cases hp:p a <;> cases hq:q a <;> simp [hp,hq]at ha ⊢ <;> omega
theorem qkf (s:PSchema) (fin:Str->Bool) (h:qb4 s fin ≠ fin):cnt s fin<cnt s (qb4 s fin):=by
 obtain⟨g1,g2⟩:=qfb (fun m:PMsg=>fin m.name) (fun m=>qb4 s fin m.name) s.msgs (fun m _ hm=>qe9 s s.msgs fin m.name hm);refine g2 ?_;refine Decidable.byContradiction fun hc=>h ?_
 refine(qfv s s.msgs fin fun m hm=>?_).1;show qb4 s fin m.name=fin m.name
 cases hf:fin m.name
 ·cases hr:qb4 s fin m.name
  ·rfl
  ·exact absurd ⟨m,hm,hf,hr⟩ hc
 ·exact qe9 s s.msgs fin m.name hf
theorem qg8 (s:PSchema) : ∀(k:Nat) (fin:Str->Bool),s.msgs.length-cnt s fin<k->qb4 s (qbm s k fin)=qbm s k fin
 | 0,fin,h=>by omega
 | k+1,fin,h=>by
  show qb4 s (qbm s k (qb4 s fin))=qbm s k (qb4 s fin)
  by_cases he:qb4 s fin=fin
  ·rw [he]
   have : ∀k,qbm s k fin=fin:=by
    intro k
    induction k with
    | zero=>rfl
    | succ k ih=>show qbm s k (qb4 s fin)=fin;rw [he];exact ih
   rw [this,he]
  ·have h1:=qkf s fin he
   have h2:cnt s (qb4 s fin)<=s.msgs.length:=List.length_filter_le _ _;exact qg8 s k _ (by omega)
theorem qef (s:PSchema) : ∀(k:Nat) (fin:Str->Bool),Sound s fin->Sound s (qbm s k fin)
 | 0,_,h=>h
 | k+1,fin,h=>qef s k _ (qgv s s.msgs fin h)
theorem qlh (s:PSchema) (n:Str):qci s n=true ↔ Fin s n:=by
 have h1:Sound s (qci s):=qef s _ _ (fun n h=>by cases h);have h2:qb4 s (qci s)=qci s:=qg8 s (s.msgs.length+1) (fun _=>false) (by omega);exact⟨h1 n,Fin.closed (qlf s _ h2)⟩
def idxGo (n:Str):List PMsg->Nat->Option Nat
 | [],_=>none
 | m :: r,i=>if m.name=n then some i else idxGo n r (i+1)
def idxOf (s:PSchema) (n:Str):Option Nat:=idxGo n s.msgs 0
theorem qgt (n:Str) : ∀(l:List PMsg) (i k:Nat),idxGo n l i=some k->i<=k/\∃m,l[k-i]? = some m/\m.name=n/\l.find? (fun m=>m.name=n)=some m
 | [],i,k,h=>by simp [idxGo]at h
 | m :: r,i,k,h=>by
  unfold idxGo at h
  split at h
  ·rename_i hm
   injection h with h
   subst h;refine⟨Nat.le_refl _,m,by simp,hm,by simp [hm]⟩
  ·rename_i hm
   obtain⟨h1,x,h2,h3,h4⟩:=qgt n r (i+1) k h;refine⟨by omega,x,?_,h3,by simp [hm,h4]⟩;rw [show k-i=(k-(i+1))+1 by omega]
   simpa using h2
theorem qgu (n:Str) : ∀(l:List PMsg) (i:Nat),idxGo n l i=none ↔ l.find? (fun m=>m.name=n)=none
 | [],i=>by simp [idxGo]
 | m :: r,i=>by
  have:=qgu n r (i+1);unfold idxGo;by_cases hm:m.name=n
  ·simp [hm]
  ·simp [hm,this]
theorem qdd {s:PSchema} {n:Str} {k:Nat} (h:idxOf s n=some k) : ∃m,s.msgs[k]? = some m/\m.name=n/\msgOf s n=some m:=by
 obtain⟨_,m,h2,h3,h4⟩:=qgt n s.msgs 0 k h;exact⟨m,by simpa using h2,h3,h4⟩
theorem qbq (s:PSchema) (n:Str):(idxOf s n).isSome=(msgOf s n).isSome:=by
 have:=qgu n s.msgs 0;unfold idxOf msgOf;cases h1:idxGo n s.msgs 0 <;> cases h2:s.msgs.find? (fun m=>m.name=n) <;> simp_all
def qay (s:PSchema) (m:PMsg) (fin:List Bool):Bool:=(needs m).any fun n=>match idxOf s n with|some k => !fin.getD k false|none=>false
def rStep (s:PSchema) (st:List Bool × Bool) (i:Nat):List Bool × Bool:=
 match s.msgs[i]? with
 | none=>st
 | some m=>if st.1.getD i false=false/\qay s m st.1=false then(st.1.set i true,true)else st
def qfk (s:PSchema) (fin:List Bool):List Bool × Bool:=(List.range s.msgs.length).foldl (rStep s) (fin,false)
def qd5 (s:PSchema):Nat->List Bool->List Bool
 | 0,fin=>fin
 | k+1,fin=>if(qfk s fin).2=true then qd5 s k (qfk s fin).1 else(qfk s fin).1
def qaz (s:PSchema):List Bool:=qd5 s s.msgs.length (List.replicate s.msgs.length false)
def qhx (s:PSchema) (fin:List Bool):Prop:=fin.length=s.msgs.length/\∀n k,idxOf s n=some k->fin.getD k false=true->Fin s n
theorem qfj {s:PSchema} {m:PMsg} {fin:List Bool} (h:qay s m fin=false) : ∀n k,n ∈ needs m->idxOf s n=some k->fin.getD k false=true:=by
 intro n k hn hk;unfold qay at h;rw [List.any_eq_false]at h;have:=h n hn;rw [hk]at this
 simpa using this
theorem getD_set (l:List Bool) (i k:Nat) (h:i<l.length):(l.set i true).getD k false=if k=i then true else l.getD k false:=by
 by_cases hk:k=i
 ·subst hk;simp [List.getD,h]
 ·simp [List.getD,hk,List.getElem?_set_ne (Ne.symm hk)]
theorem qcm (s:PSchema) (st:List Bool × Bool) (i:Nat):rStep s st i=st ∨ (∃m,s.msgs[i]? = some m/\st.1.getD i false=false/\qay s m st.1=false/\rStep s st i=(st.1.set i true,true)):=by
 unfold rStep
 split
 ·exact .inl rfl
 ·rename_i m hm
  split
  ·rename_i h
   exact .inr ⟨m,hm,h.1,h.2,rfl⟩
  ·exact .inl rfl
theorem qjc (s:PSchema) (st:List Bool × Bool) (i:Nat) (h:qhx s st.1):qhx s (rStep s st i).1:=by
 rcases qcm s st i with e|⟨m,hm,h1,h2,e⟩ <;> rw [e]
 ·exact h
 ·have hi:i<s.msgs.length:=(List.getElem?_eq_some_iff.1 hm).1
  refine⟨by simpa using h.1,fun n k hn hk=>?_⟩;rw [getD_set _ _ _ (by rw [h.1];exact hi)]at hk;by_cases hki:k=i
  ·subst hki
   obtain⟨m',h3,h4,h5⟩:=qdd hn;rw [hm]at h3;obtain rfl:=Option.some.inj h3;refine Fin.mk n m h5 fun q hq hs=>?_
   rw [←qbq]at hs;obtain⟨j,hj⟩:=Option.isSome_iff_exists.1 hs;exact h.2 q j hj (qfj h2 q j hq hj)
  ·rw [if_neg hki]at hk
   exact h.2 n k hn hk
theorem qf8 (s:PSchema) : ∀(l:List Nat) (st:List Bool × Bool),qhx s st.1->qhx s (l.foldl (rStep s) st).1
 | [],_,h=>h
 | i :: l,st,h=>qf8 s l _ (qjc s st i h)
theorem qgf (s:PSchema) : ∀(l:List Nat) (st:List Bool × Bool),st.2=true->(l.foldl (rStep s) st).2=true
 | [],_,h=>h
 | i :: l,st,h=>qgf s l _ (by rcases qcm s st i with e|⟨m,_,_,_,e⟩ <;> rw [e];exact h)
theorem qei (s:PSchema) : ∀(l:List Nat) (fin:List Bool),(l.foldl (rStep s) (fin,false)).2=false->(l.foldl (rStep s) (fin,false)).1=fin/\∀i,i ∈ l->rStep s (fin,false) i=(fin,false)
 | [],_,_=>⟨rfl,fun i hi=>by simp at hi⟩
 | i :: l,fin,h=>by
  have e:rStep s (fin,false) i=(fin,false):=by
   rcases qcm s (fin,false) i with e|⟨m,_,_,_,e⟩
   ·exact e
   ·rw [List.foldl_cons,e]at h
    rw [qgf s l _ rfl]at h;cases h
  rw [List.foldl_cons,e]at h ⊢;obtain⟨h1,h2⟩:=qei s l fin h;exact⟨h1,fun j hj=>by rcases List.mem_cons.1 hj with rfl|hj;exact e;exact h2 j hj⟩
def RClosed (s:PSchema) (fin:List Bool):Prop := ∀n,Fin s n->∀k,idxOf s n=some k->fin.getD k false=true
theorem qh9 (s:PSchema) (fin:List Bool) (h:(qfk s fin).2=false):RClosed s fin:=by
 obtain⟨_,h2⟩:=qei s _ fin h;intro n hn
 induction hn with
 | mk n m hm hk ih=>
  intro k hidx;obtain⟨m',h3,h4,h5⟩:=qdd hidx;rw [hm]at h5;obtain rfl:=Option.some.inj h5;have hi:k<s.msgs.length:=(List.getElem?_eq_some_iff.1 h3).1;have e:=h2 k (by simpa using hi);cases hf:fin.getD k false
  ·exfalso
   have hne:qay s m fin=false:=by
    unfold qay;rw [List.any_eq_false];intro q hq;cases hj:idxOf s q with
    | none=>simp
    | some j=>
     have:=ih q hq (by rw [←qbq,hj];rfl) j hj;show ¬(!fin.getD j false)=true
     rw [this];decide
   unfold rStep at e;rw [h3]at e;simp only [hf,hne,and_self,if_true]at e;have:=(Prod.mk.inj e).2;cases this
  ·rfl
def rcnt (fin:List Bool):Nat:=(fin.filter id).length
theorem qkq : ∀(fin:List Bool) (i:Nat),i<fin.length->fin.getD i false=false->rcnt (fin.set i true)=rcnt fin+1
 | [],i,h,_=>by simp at h
 | b :: l,0,h,hb=>by
  simp at hb;subst hb;simp [rcnt]
 | b :: l,i+1,h,hb=>by
  have:=qkq l i (by simpa using h) (by simpa using hb);unfold rcnt at this ⊢;cases b <;> simp at this ⊢ <;> omega
theorem qms (s:PSchema) (st:List Bool × Bool) (i:Nat) (h:st.1.length=s.msgs.length):(rStep s st i).1.length=s.msgs.length/\rcnt st.1<=rcnt (rStep s st i).1/\(st.2=false->(rStep s st i).2=true->rcnt st.1<rcnt (rStep s st i).1):=by
 rcases qcm s st i with e|⟨m,hm,h1,h2,e⟩ <;> rw [e]
 ·exact⟨h,Nat.le_refl _,fun h1 h2=>by rw [h1]at h2;cases h2⟩
 ·have hi:i<s.msgs.length:=(List.getElem?_eq_some_iff.1 hm).1
  have:=qkq st.1 i (by omega) h1;exact⟨by simpa using h,by simp only;omega,fun _ _=>by simp only;omega⟩
theorem qic (s:PSchema) : ∀(l:List Nat) (st:List Bool × Bool),st.1.length=s.msgs.length->(l.foldl (rStep s) st).1.length=s.msgs.length/\rcnt st.1<=rcnt (l.foldl (rStep s) st).1/\(st.2=false->(l.foldl (rStep s) st).2=true->rcnt st.1<rcnt (l.foldl (rStep s) st).1)
 | [],st,h=>⟨h,Nat.le_refl _,fun h1 h2=>by rw [List.foldl_nil,h1]at h2;cases h2⟩
 | i :: l,st,h=>by
  obtain⟨a1,a2,a3⟩:=qms s st i h;obtain⟨b1,b2,b3⟩:=qic s l (rStep s st i) a1;rw [List.foldl_cons];refine⟨b1,by omega,fun h1 h2=>?_⟩;cases h3:(rStep s st i).2
  ·have:=b3 h3 h2;omega
  ·have:=a3 h1 h3;omega
theorem rcnt_le (fin:List Bool):rcnt fin<=fin.length:=List.length_filter_le _ _
theorem qkr : ∀(fin:List Bool),rcnt fin=fin.length->∀k,k<fin.length->fin.getD k false=true
 | [],_,k,h=>by simp at h
 | b :: l,h,k,hk=>by
  have hl:=rcnt_le l;unfold rcnt at h hl;cases b
  ·simp at h;omega
  ·cases k with
   | zero=>rfl
   | succ k=>
    have:=qkr l (by unfold rcnt;simpa using h) k (by simpa using hk)
    simpa using this
theorem qd4 (s:PSchema) : ∀(k:Nat) (fin:List Bool),fin.length=s.msgs.length->s.msgs.length-rcnt fin<=k->RClosed s (qd5 s k fin)
 | 0,fin,h,hk=>by
  intro n _ k hidx;obtain⟨m,h3,_,_⟩:=qdd hidx;have hi:k<s.msgs.length:=(List.getElem?_eq_some_iff.1 h3).1;have:=rcnt_le fin;exact qkr fin (by omega) k (by omega)
 | k+1,fin,h,hk=>by
  unfold qd5;have hc:=qic s (List.range s.msgs.length) (fin,false) h
  split
  ·rename_i hm
   have:=hc.2.2 rfl hm;simp only at this;exact qd4 s k _ hc.1 (by show s.msgs.length-rcnt (qfk s fin).1<=k;unfold qfk;omega)
  ·rename_i hm
   have hm':(qfk s fin).2=false:=by simpa using hm
   have:=(qei s _ fin hm').1;have e:(qfk s fin).1=fin:=this;rw [e];exact qh9 s fin hm'
theorem qdv (s:PSchema) : ∀(k:Nat) (fin:List Bool),qhx s fin->qhx s (qd5 s k fin)
 | 0,_,h=>h
 | k+1,fin,h=>by
  have:=qf8 s (List.range s.msgs.length) (fin,false) h;unfold qd5
  split
  ·exact qdv s k _ this
  ·exact this
theorem qhd (s:PSchema) (n:Str) (k:Nat) (h:idxOf s n=some k):(qaz s).getD k false=qci s n:=by
 have h0:qhx s (List.replicate s.msgs.length false):=⟨by simp,fun n k _ hk=>by
  exfalso;by_cases hkl:k<s.msgs.length
  ·simp [List.getD,List.getElem?_replicate,hkl]at hk
  ·simp [List.getD,List.getElem?_replicate,hkl]at hk⟩
 have h1:=qdv s s.msgs.length _ h0;have h2:=qd4 s s.msgs.length (List.replicate s.msgs.length false) (by simp) (by omega);rw [Bool.eq_iff_iff,qlh];exact⟨h1.2 n k h,fun hf=>h2 n hf k h⟩
theorem qf2 (s:PSchema) (m:PMsg):qay s m (qaz s)=qlp s m (qci s):=by
 unfold qay qlp
 congr 1
 funext n
 have:=qbq s n;cases h:idxOf s n with
 | none=>rw [h]at this;rw [←this];rfl
 | some k=>
  rw [h]at this;rw [←this];show(!(qaz s).getD k false)=(true && !qci s n)
  rw [qhd s n k h];rfl
end Go.Proofs.YtaaneecceiefoaaGreatDoor.Ck
