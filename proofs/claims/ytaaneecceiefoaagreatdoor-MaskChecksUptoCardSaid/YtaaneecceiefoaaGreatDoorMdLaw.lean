import Derived.Test.YtaaneecceiefoaaGreatDoorCkOut
import Derived.Test.YtaaneecceiefoaaGreatDoorOpen
import Derived.Lib.ItoaNum
import Derived.Deep.RegionHeld3
import Derived.Lib.AppendIntMem
import Derived.Lib.ItoaLen
import Derived.Deep.RegionLaw
set_option maxRecDepth 100000
set_option maxHeartbeats 4000000
set_option linter.unusedVariables false
set_option linter.unusedSimpArgs false
namespace Go.Proofs.YtaaneecceiefoaaGreatDoor
open Go.RowKit
structure Row where
 e:TypeId
 z:Nat
 v:Value
 n:Nat
 xs:List Value
structure Box where
 g:Nat
 cs:Array Value
 T:TypeId
def qas (R:List Row) (X:List Box):List Nat:=R.filterMap (fun r=>r.v.ownBlock) ++ X.map Box.g
structure ST (w0:World) (R:List Row) (X:List Box) (w:World):Prop where
 bel:Bel w0 w
 rows : ∀r ∈ R,w.ownsRow w0.heap.size r.e r.z r.v r.n r.xs
 boxes : ∀b ∈ X,w0.heap.size<=b.g/\w.heap[b.g]? = some (.cells b.cs b.T (0,0))
 nd:(qas R X).Nodup
theorem qe5 {α:Type} : ∀(l:List α) (i:Nat) (x:α),l[i]? = some x->∀y,l.Perm (x :: l.eraseIdx i)/\(l.set i y).Perm (y :: l.eraseIdx i)
 | [],i,x,h,y=>by simp at h
 | a :: l,0,x,h,y=>by
  have:a=x:=by simpa using h
  subst this;exact⟨List.Perm.refl _,List.Perm.refl _⟩
 | a :: l,i+1,x,h,y=>by
  have ih:=qe5 l i x (by simpa using h) y;exact⟨(List.Perm.cons a ih.1).trans (List.Perm.swap x a _),(List.Perm.cons a ih.2).trans (List.Perm.swap y a _)⟩
theorem qde {r:Row} {R:List Row} {X:List Box} (h:r.v.ownBlock=none):qas (r :: R) X=qas R X:=by
 unfold qas;rw [List.filterMap_cons,h]
theorem qch {r:Row} {R:List Row} {X:List Box} {g:Nat} (h:r.v.ownBlock=some g):qas (r :: R) X=g :: qas R X:=by
 unfold qas;rw [List.filterMap_cons,h];rfl
theorem qef {r:Row} {R:List Row} {X:List Box} {g:Nat} (hr:r ∈ R) (h:r.v.ownBlock=some g):g ∈ qas R X:=List.mem_append_left _ (List.mem_filterMap.2 ⟨r,hr,h⟩)
theorem qeg {b:Box} {R:List Row} {X:List Box} (hb:b ∈ X):b.g ∈ qas R X:=List.mem_append_right _ (List.mem_map.2 ⟨b,hb,rfl⟩)
section
variable {w0 w w' : World} {R R' : List Row} {X X' : List Box} {r : Row} {b : Box}
theorem ST.start (w:World):ST w [] [] w:=⟨Bel.refl _,fun r h=>(by cases h),fun b h=>(by cases h),List.nodup_nil⟩
theorem ST.perm (h:ST w0 R X w) (hR:R.Perm R') (hX:X.Perm X'):ST w0 R' X' w:=
 ⟨h.bel,fun r hr=>h.rows r (hR.mem_iff.2 hr),fun b hb=>h.boxes b (hX.mem_iff.2 hb),((hR.filterMap _).append (hX.map _)).nodup_iff.1 h.nd⟩
theorem ST.lt (h:ST w0 R X w) : ∀k ∈ qas R X,k<w.heap.size:=fun k hk=>by
 rcases List.mem_append.1 hk with hk|hk
 ·obtain⟨r,hr,he⟩:=List.mem_filterMap.1 hk
  exact((h.rows r hr).lt k he).2
 ·obtain⟨b,hb,rfl⟩:=List.mem_map.1 hk
  exact(Array.getElem?_eq_some_iff.1 (h.boxes b hb).2).1
theorem ST.belw (h:ST w0 R X w) (k:Bel w w'):ST w0 R X w':=
 ⟨Bel.of h.bel k,fun r hr=>qem (h.rows r hr) k,fun b hb=>⟨(h.boxes b hb).1,(Below.block k b.g (Array.getElem?_eq_some_iff.1 (h.boxes b hb).2).1).trans (h.boxes b hb).2⟩,h.nd⟩
theorem ST.head_ne (h:ST w0 (r :: R) X w) : ∀k ∈ qas R X,some k ≠ r.v.ownBlock:=fun k hk e=>by
 have hn:=h.nd;rw [qch e.symm]at hn;exact(List.nodup_cons.1 hn).1 hk
theorem ST.tail_nd (h:ST w0 (r :: R) X w):(qas R X).Nodup:=by
 have hn:=h.nd;cases e:r.v.ownBlock with
 | none=>rwa [qde e]at hn
 | some g=>rw [qch e]at hn;exact(List.nodup_cons.1 hn).2
theorem ST.droprow0 (h:ST w0 (r :: R) X w):ST w0 R X w:=⟨h.bel,fun s hs=>h.rows s (List.mem_cons_of_mem _ hs),h.boxes,h.tail_nd⟩
theorem ST.grow0 {v':Value} {n':Nat} {xs':List Value} (h:ST w0 (r :: R) X w) (hg:w.grownBy w' r.v.ownBlock) (hown:w'.ownsRow w0.heap.size r.e r.z v' n' xs') (hf : ∀g,v'.ownBlock=some g->r.v.ownBlock=some g ∨ w.heap.size<=g) :
  ST w0 (⟨r.e,r.z,v',n',xs'⟩ :: R) X w':=by
 refine⟨Below.grown h.bel hg h.bel.size (fun k hk=>((h.rows r (List.mem_cons_self ..)).lt k hk).1),fun s hs=>?_,fun b hb=>⟨(h.boxes b hb).1,?_⟩,?_⟩
 ·rcases List.mem_cons.1 hs with rfl|hs
  ·exact hown
  ·refine(h.rows s (List.mem_cons_of_mem _ hs)).kept hg ?_
   cases e:s.v.ownBlock with
   | none=>exact .inl rfl
   | some g=>exact .inr (h.head_ne g (qef hs e))
 ·have hb2:=(h.boxes b hb).2
  exact(hg.block b.g (Array.getElem?_eq_some_iff.1 hb2).1 (h.head_ne b.g (qeg hb))).trans hb2
 ·have htl:=h.tail_nd
  have hlt:=h.droprow0.lt;cases e:v'.ownBlock with
  | none=>rw [qde e];exact htl
  | some g=>
   rw [qch e];refine List.nodup_cons.2 ⟨fun hm=>?_,htl⟩;rcases hf g e with e2|e2
   ·exact h.head_ne g hm e2.symm
   ·have:=hlt g hm
    omega
theorem ST.addrow {e:TypeId} {z n:Nat} {v:Value} {xs:List Value} (h:ST w0 R X w) (k:Bel w w') (hown:w'.ownsRow w.heap.size e z v n xs):ST w0 (⟨e,z,v,n,xs⟩ :: R) X w':=by
 have h2:=h.belw k;refine⟨h2.bel,fun s hs=>?_,h2.boxes,?_⟩
 ·rcases List.mem_cons.1 hs with rfl|hs
  ·exact qle hown h.bel.size
  ·exact h2.rows s hs
 ·cases e:v.ownBlock with
  | none=>rw [qde e];exact h.nd
  | some g=>
   rw [qch e];refine List.nodup_cons.2 ⟨fun hm=>?_,h.nd⟩;have:=h.lt g hm;have:=(hown.lt g e).1;omega
theorem ST.nilrow (h:ST w0 R X w) (e:TypeId) (z:Nat):ST w0 (⟨e,z,.slice none 0 0,0,[]⟩ :: R) X w:=h.addrow (Bel.refl _) (World.ownsRow_nil _ _ _ _)
theorem ST.addbox (h:ST w0 R X w) (cs:Array Value) (T:TypeId):ST w0 R (⟨w.heap.size,cs,T⟩ :: X) (w.alloc (.cells cs T)):=by
 have h2:=h.belw ((Bel.refl w).alloc (.cells cs T));refine⟨h2.bel,h2.rows,fun b hb=>?_,?_⟩
 ·rcases List.mem_cons.1 hb with rfl|hb
  ·exact⟨h.bel.size,heap_alloc_new _ _⟩
  ·exact h2.boxes b hb
 ·have hp:(qas R (⟨w.heap.size,cs,T⟩ :: X)).Perm (w.heap.size :: qas R X):=List.perm_middle
  refine hp.nodup_iff.2 (List.nodup_cons.2 ⟨fun hm=>?_,h.nd⟩);have:=h.lt _ hm;omega
theorem ST.box_ne (h:ST w0 R (b :: X) w):(∀k ∈ qas R X,k ≠ b.g)/\(qas R X).Nodup:=by
 have hp:(qas R (b :: X)).Perm (b.g :: qas R X):=List.perm_middle;have hn:=List.nodup_cons.1 (hp.nodup_iff.1 h.nd);exact⟨fun k hk e=>hn.1 (e ▸ hk),hn.2⟩
theorem ST.dropbox0 (h:ST w0 R (b :: X) w):ST w0 R X w:=⟨h.bel,h.rows,fun c hc=>h.boxes c (List.mem_cons_of_mem _ hc),h.box_ne.2⟩
theorem ST.setbox0 (h:ST w0 R (b :: X) w) (o:Nat) (v:Value):ST w0 R (⟨b.g,b.cs.setIfInBounds o v,b.T⟩ :: X) (w.setCell ⟨b.g,o,none⟩ v):=by
 have hb:=h.boxes b (List.mem_cons_self ..);have hg:=qbc w b.g o v;refine⟨qb3 h.bel hb.1,fun s hs=>?_,fun c hc=>?_,h.nd⟩
 ·refine(h.rows s hs).kept hg ?_
  cases e:s.v.ownBlock with
  | none=>exact .inl rfl
  | some g=>exact .inr fun e2=>h.box_ne.1 g (qef hs e) (by injection e2)
 ·rcases List.mem_cons.1 hc with rfl|hc
  ·exact⟨hb.1,heap_setCell_same w b.g o _ _ v hb.2⟩
  ·have h2:=h.boxes c (List.mem_cons_of_mem _ hc)
   exact⟨h2.1,(Below.heap_setCell _ _ _ _ (h.box_ne.1 c.g (qeg hc))).trans h2.2⟩
theorem ST.to0 (h:ST w0 R X w) (i:Nat) (hi:R[i]? = some r):ST w0 (r :: R.eraseIdx i) X w:=h.perm (qe5 R i r hi r).1 (List.Perm.refl _)
theorem ST.of0 (i:Nat) (hi:R[i]? = some r) {s:Row} (h:ST w0 (s :: R.eraseIdx i) X w):ST w0 (R.set i s) X w:=h.perm (qe5 R i r hi s).2.symm (List.Perm.refl _)
theorem ST.grow {v':Value} {n':Nat} {xs':List Value} (h:ST w0 R X w) (i:Nat) (hi:R[i]? = some r) (hg:w.grownBy w' r.v.ownBlock) (hown:w'.ownsRow w0.heap.size r.e r.z v' n' xs') (hf : ∀g,v'.ownBlock=some g->r.v.ownBlock=some g ∨ w.heap.size<=g) :
  ST w0 (R.set i ⟨r.e,r.z,v',n',xs'⟩) X w':=ST.of0 i hi ((h.to0 i hi).grow0 hg hown hf)
theorem ST.setbox (h:ST w0 R X w) (j:Nat) (hj:X[j]? = some b) (o:Nat) (v:Value):ST w0 R (X.set j ⟨b.g,b.cs.setIfInBounds o v,b.T⟩) (w.setCell ⟨b.g,o,none⟩ v):=
 ((h.perm (List.Perm.refl _) (qe5 X j b hj b).1).setbox0 o v).perm (List.Perm.refl _) (qe5 X j b hj _).2.symm
theorem ST.row (h:ST w0 R X w) (i:Nat) (hi:R[i]? = some r):w.ownsRow w0.heap.size r.e r.z r.v r.n r.xs:=h.rows r (List.mem_of_getElem? hi)
theorem ST.box (h:ST w0 R X w) (j:Nat) (hj:X[j]? = some b):w.heap[b.g]? = some (.cells b.cs b.T (0,0)):=(h.boxes b (List.mem_of_getElem? hj)).2
theorem ST.boxlt (h:ST w0 R X w) (j:Nat) (hj:X[j]? = some b):w0.heap.size<=b.g/\b.g<w.heap.size:=⟨(h.boxes b (List.mem_of_getElem? hj)).1,(Array.getElem?_eq_some_iff.1 (h.box j hj)).1⟩
theorem ST.cell (h:ST w0 R X w) (j:Nat) (hj:X[j]? = some b) (o:Nat):w.cell? ⟨b.g,o,none⟩=b.cs[o]?:=Lib.cell_of_heap (h.box j hj) o
theorem ST.frz (h:ST w0 R X w) (j:Nat) (hj:X[j]? = some b) (o:Nat):w.frozen? ⟨b.g,o,none⟩=false:=Lib.frozen_of_heap (h.box j hj) o
theorem ST.rest {n:Nat} : ∀{R1:List Row},ST w0 (R1 ++ R) X w->ST w0 R X w
 | [],h=>h
 | r :: R1,h=>ST.rest (R1:=R1) (n:=n) (ST.droprow0 (r:=r) (R:=R1 ++ R) h)
end
end Go.Proofs.YtaaneecceiefoaaGreatDoor
namespace Go.Proofs.YtaaneecceiefoaaGreatDoor.Md
open Ck
structure PMem where
 name:Str
 ty:Str
 num:Int
structure PDecl where
 kind:Int
 name:Str
 frm:Str
 mems:List PMem
def cand (name:Str) (k:Nat):Str:=if k=0 then name else name ++ Lib.itoa ((k+1:Nat):Int)
def uniqF (taken:List Str) (name:Str):Nat->Nat->Str
 | 0,k=>cand name k
 | f+1,k=>if Id.has taken (cand name k)=true then uniqF taken name f (k+1)else cand name k
def unique (taken:List Str) (name:Str):Str:=uniqF taken name taken.length 0
def camel (full:Str):Str:=(Id.cut 46 full).flatMap Id.camel
def unGo:List Str->List PField->List Str
 | acc,[]=>acc
 | acc,f :: r=>unGo (if f.un ≠ []/\Id.has acc f.un=false then acc ++ [f.un]else acc) r
def unions (m:PMsg):List Str:=unGo [] m.fields
def word (k:Int):Str:=if k=1 then [98,111,111,108]else if k=2 then [105,51,50]else if k=3 then [105,54,52]else if k=4 then [117,51,50]else if k=5 then [117,54,52]else if k=6 then [100,111,117,98,108,101]else if k=7 then [116,101,120,116]else [98,121,116,101,115]
def isK (k:Int) (f:Str) (d:PDecl):Bool:=decide (d.kind=k) && decide (d.frm=f)
def qjp (D:List PDecl) (k:Int) (f:Str):Str:=((D.find? (isK k f)).map (·.name)).getD []
def element (D:List PDecl) (tk:Int) (tn:Str):Str:=if tk=10 then qjp D 1 tn else if tk=9 then qjp D 3 tn else word tk
def carded (card:Int) (key t:Str):Str:=if card=2 then 63 :: t else if card=4 then 91 :: 93 :: t else if card=5 then [109,97,112,91] ++ key ++ [93] ++ t else t
def fieldT (D:List PDecl) (f:PField):Str:=carded f.card (word f.key) (element D f.tk f.tn)
def addM (l:List PMem) (name ty:Str) (num:Int):List PMem:=l ++ [⟨unique (l.map (·.name)) (Id.camel name),ty,num⟩]
def recGo (D:List PDecl) (m:Str):List PMem->List Str->List PField->List PMem
 | out,had,[]=>out
 | out,had,f :: r=>if f.un=[]then recGo D m (addM out f.name (fieldT D f) f.num) had r else if Id.has had f.un=true then recGo D m out had r else recGo D m (addM out f.un (qjp D 2 (m ++ 58 :: f.un)) (-1)) (had ++ [f.un]) r
def record (D:List PDecl) (m:PMsg):List PMem:=recGo D m.name [] [] m.fields
def chGo (D:List PDecl) (u:Str):List PMem->List PField->List PMem
 | out,[]=>out
 | out,f :: r=>chGo D u (if f.un=u then addM out f.name (element D f.tk f.tn) f.num else out) r
def choice (D:List PDecl) (m:PMsg) (u:Str):List PMem:=chGo D u [] m.fields
def streamW:Str:=[115,116,114,101,97,109,32]
def calledT (shape:Int) (i o:Str):Str:=(if shape=3 ∨ shape=4 then streamW ++ i else i) ++ [45,62] ++ (if shape=2 ∨ shape=4 then streamW ++ o else o)
def clGo (D:List PDecl):Nat->List PMem->List PMeth->List PMem
 | _,out,[]=>out
 | i,out,m :: r=>clGo D (i+1) (addM out m.name (calledT m.shape (qjp D 1 m.inn) (qjp D 1 m.out)) i) r
def client (D:List PDecl) (v:PSvc):List PMem:=clGo D 0 [] v.meths
def itGo:List PMem->List PItem->List PMem
 | out,[]=>out
 | out,x :: r=>itGo (addM out x.name [] x.num) r
def items (e:PEnum):List PMem:=itGo [] e.items
def kindW (k:Int):Str:=if k=1 then [114,101,99,111,114,100]else if k=2 then [99,104,111,105,99,101]else if k=3 then [110,97,109,101,115]else if k=4 then [99,108,105,101,110,116]else [63]
def memT (m:PMem):Str:=[32,32] ++ m.name ++ [32] ++ Lib.itoa m.num ++ (if m.ty=[]then []else 32 :: m.ty) ++ [10]
def declT (d:PDecl):Str:=kindW d.kind ++ [32] ++ d.name ++ [32,61,32] ++ d.frm ++ [10] ++ d.mems.flatMap memT
def text (l:List PDecl):Str:=l.flatMap declT
end Go.Proofs.YtaaneecceiefoaaGreatDoor.Md
namespace Go.Proofs.YtaaneecceiefoaaGreatDoor
open Go.RowKit Ck Md
def memC (m:PMem):List Value:=[.string (S m.name),.string (S m.ty),.int .i64 m.num]
def VMem (w:World) (vs:List Value) (m:PMem):Prop:=vs=memC m
theorem VMem.stays:Stays VMem:=fun _ _ _ _ _ h=>h
def Mems:=Sv 3 VMem
def VDecl (w:World) (vs:List Value) (d:PDecl):Prop := ∃mv,vs=[.int .i64 d.kind,.string (S d.name),.string (S d.frm),mv]/\Mems w mv d.mems
theorem VDecl.stays:Stays VDecl:=fun _ _ _ _ k ⟨mv,h1,h2⟩=>⟨mv,h1,h2.bel VMem.stays k⟩
def whC (d:PDecl):List Value:=[.int .i64 d.kind,.string (S d.frm)]
def nmC (l:List Str):List Value:=l.map fun s=>.string (S s)
end Go.Proofs.YtaaneecceiefoaaGreatDoor
namespace Go.Proofs.YtaaneecceiefoaaGreatDoor
open Go.RowKit Ck Md
end Go.Proofs.YtaaneecceiefoaaGreatDoor
namespace Go.Proofs.YtaaneecceiefoaaGreatDoor
open Go.RowKit
end Go.Proofs.YtaaneecceiefoaaGreatDoor
namespace Go.Proofs.YtaaneecceiefoaaGreatDoor
open Go.RowKit Ck Md
def PT (w : World) : Prop := Lib.TabIs Tryz.prog w "internal/strconv.uint64pow10" .u64 Lib.pow10Tab
theorem PT.bel {w w':World} (h:PT w) (k:Bel w w'):PT w':=Lib.tabBelow_of_tabIs h w' k.out
end Go.Proofs.YtaaneecceiefoaaGreatDoor
namespace Go.Proofs.YtaaneecceiefoaaGreatDoor
open Go.RowKit Ck Md
theorem qc3 (w:World) (vs:List Value) (t:TypeId) : ∀(j:Nat) (u:Value),vs[j]? = some u->(w.alloc (.cells vs.toArray t)).cell? ((⟨w.heap.size,0,none⟩:Addr).add j)=some u:=by
 intro j u h;rw [Addr.add_lit,Nat.zero_add,World.cell?_alloc_at _ _ _ _ rfl]
 simpa using h
theorem qdc {N M:Nat} {v0:Value} {g2 n cap:Nat} (h:v0.ownBlock=some g2 ∨ g2=N) (hN:M<=N) : ∀g,(Value.slice (some ⟨g2,0,none⟩) n cap).ownBlock=some g->v0.ownBlock=some g ∨ M<=g:=fun g hg=>by
 have:g2=g:=by simpa [Value.ownBlock]using hg
 subst this;rcases h with h|h
 ·exact .inl h
 ·right;omega
end Go.Proofs.YtaaneecceiefoaaGreatDoor
namespace Go.Proofs.YtaaneecceiefoaaGreatDoor
open Go.RowKit Ck Md
end Go.Proofs.YtaaneecceiefoaaGreatDoor
namespace Go.Proofs.YtaaneecceiefoaaGreatDoor
open Go.RowKit Ck Md
def VWh (w:World) (vs:List Value) (d:PDecl):Prop:=vs=whC d
theorem VWh.stays:Stays VWh:=fun _ _ _ _ _ h=>h
def NM (w:World) (g:Nat) (D:List PDecl):Prop := ∃vn vw,w.cell? ⟨g,3,none⟩=some vn/\w.cell? ⟨g,4,none⟩=some vw/\Strs w vn (D.map (·.name))/\Sv 2 VWh w vw D
theorem NM.bel {w w':World} {g:Nat} {D:List PDecl} (h:NM w g D) (k:Bel w w'):NM w' g D:=by
 obtain⟨vn,vw,h1,h2,h3,h4⟩:=h;exact⟨vn,vw,k.some h1,k.some h2,h3.below k.out,h4.bel VWh.stays k⟩
end Go.Proofs.YtaaneecceiefoaaGreatDoor
namespace Go.Proofs.YtaaneecceiefoaaGreatDoor
open Go.RowKit Ck Md
end Go.Proofs.YtaaneecceiefoaaGreatDoor
namespace Go.Proofs.YtaaneecceiefoaaGreatDoor
open Go.RowKit Ck Md
end Go.Proofs.YtaaneecceiefoaaGreatDoor
namespace Go.Proofs.YtaaneecceiefoaaGreatDoor
open Go.RowKit Ck Md
end Go.Proofs.YtaaneecceiefoaaGreatDoor
namespace Go.Proofs.YtaaneecceiefoaaGreatDoor
open Go.RowKit Ck Md
end Go.Proofs.YtaaneecceiefoaaGreatDoor
namespace Go.Proofs.YtaaneecceiefoaaGreatDoor
open Go.RowKit Ck Md
end Go.Proofs.YtaaneecceiefoaaGreatDoor
namespace Go.Proofs.YtaaneecceiefoaaGreatDoor
open Go.RowKit Ck Md
end Go.Proofs.YtaaneecceiefoaaGreatDoor
namespace Go.Proofs.YtaaneecceiefoaaGreatDoor
open Go.RowKit Ck Md
end Go.Proofs.YtaaneecceiefoaaGreatDoor
namespace Go.Proofs.YtaaneecceiefoaaGreatDoor
open Go.RowKit Ck Md
end Go.Proofs.YtaaneecceiefoaaGreatDoor
namespace Go.Proofs.YtaaneecceiefoaaGreatDoor.Md
open Ck
end Go.Proofs.YtaaneecceiefoaaGreatDoor.Md
