import Derived.Test.YtfoaaglbpmmhiaaGreatDoorKitC
import Derived.Test.YtfoaaglbpmmhiaaGreatDoorKitA
import Derived.Lib.ItoaNum
import Derived.Test.YtfoaaglbpmmhiaaGreatDoorCkSound
set_option maxRecDepth 100000
set_option maxHeartbeats 4000000
set_option linter.unusedVariables false
set_option linter.unusedSimpArgs false
namespace Go.Proofs.YtfoaaglbpmmhiaaGreatDoor
open Go.RowKit
structure Row where
 e:TypeId
 z:Nat
 v:Value
 n:Nat
 xs:List Value
structure Box where
 g:Nat
 cs:Array Value
 T:TypeId
def qbe (R:List Row) (X:List Box):List Nat:=R.filterMap (fun r=>r.v.ownBlock) ++ X.map Box.g
structure ST (w0:World) (R:List Row) (X:List Box) (w:World):Prop where
 bel:Bel w0 w
 rows : ∀r ∈ R,w.ownsRow w0.heap.size r.e r.z r.v r.n r.xs
 boxes : ∀b ∈ X,w0.heap.size<=b.g/\w.heap[b.g]? = some (.cells b.cs b.T (0,0))
 nd:(qbe R X).Nodup
theorem qgh {α:Type} : ∀(l:List α) (i:Nat) (x:α),l[i]? = some x->∀y,l.Perm (x :: l.eraseIdx i)/\(l.set i y).Perm (y :: l.eraseIdx i)
 | [],i,x,h,y=>by simp at h
 | a :: l,0,x,h,y=>by
  have:a=x:=by simpa using h
  subst this;exact⟨List.Perm.refl _,List.Perm.refl _⟩
 | a :: l,i+1,x,h,y=>by
  have ih:=qgh l i x (by simpa using h) y;exact⟨(List.Perm.cons a ih.1).trans (List.Perm.swap x a _),(List.Perm.cons a ih.2).trans (List.Perm.swap y a _)⟩
theorem qej {r:Row} {R:List Row} {X:List Box} (h:r.v.ownBlock=none):qbe (r :: R) X=qbe R X:=by
 unfold qbe;rw [List.filterMap_cons,h]
theorem qdi {r:Row} {R:List Row} {X:List Box} {g:Nat} (h:r.v.ownBlock=some g):qbe (r :: R) X=g :: qbe R X:=by
 unfold qbe;rw [List.filterMap_cons,h];rfl
theorem qix {r:Row} {R:List Row} {X:List Box} {g:Nat} (hr:r ∈ R) (h:r.v.ownBlock=some g):g ∈ qbe R X:=List.mem_append_left _ (List.mem_filterMap.2 ⟨r,hr,h⟩)
theorem qiy {b:Box} {R:List Row} {X:List Box} (hb:b ∈ X):b.g ∈ qbe R X:=List.mem_append_right _ (List.mem_map.2 ⟨b,hb,rfl⟩)
section
variable {w0 w w' : World} {R R' : List Row} {X X' : List Box} {r : Row} {b : Box}
theorem ST.start (w:World):ST w [] [] w:=⟨Bel.refl _,fun r h=>(by cases h),fun b h=>(by cases h),List.nodup_nil⟩
theorem ST.perm (h:ST w0 R X w) (hR:R.Perm R') (hX:X.Perm X'):ST w0 R' X' w:=
 ⟨h.bel,fun r hr=>h.rows r (hR.mem_iff.2 hr),fun b hb=>h.boxes b (hX.mem_iff.2 hb),((hR.filterMap _).append (hX.map _)).nodup_iff.1 h.nd⟩
theorem ST.lt (h:ST w0 R X w) : ∀k ∈ qbe R X,k<w.heap.size:=fun k hk=>by
 rcases List.mem_append.1 hk with hk|hk
 ·obtain⟨r,hr,he⟩:=List.mem_filterMap.1 hk
  exact((h.rows r hr).lt k he).2
 ·obtain⟨b,hb,rfl⟩:=List.mem_map.1 hk
  exact(Array.getElem?_eq_some_iff.1 (h.boxes b hb).2).1
theorem ST.belw (h:ST w0 R X w) (k:Bel w w'):ST w0 R X w':=
 ⟨Bel.of h.bel k,fun r hr=>qd0 (h.rows r hr) k,fun b hb=>⟨(h.boxes b hb).1,(Below.block k b.g (Array.getElem?_eq_some_iff.1 (h.boxes b hb).2).1).trans (h.boxes b hb).2⟩,h.nd⟩
theorem ST.head_ne (h:ST w0 (r :: R) X w) : ∀k ∈ qbe R X,some k ≠ r.v.ownBlock:=fun k hk e=>by
 have hn:=h.nd;rw [qdi e.symm]at hn;exact(List.nodup_cons.1 hn).1 hk
theorem ST.tail_nd (h:ST w0 (r :: R) X w):(qbe R X).Nodup:=by
 have hn:=h.nd;cases e:r.v.ownBlock with
 | none=>rwa [qej e]at hn
 | some g=>rw [qdi e]at hn;exact(List.nodup_cons.1 hn).2
theorem ST.droprow0 (h:ST w0 (r :: R) X w):ST w0 R X w:=⟨h.bel,fun s hs=>h.rows s (List.mem_cons_of_mem _ hs),h.boxes,h.tail_nd⟩
theorem ST.grow0 {v':Value} {n':Nat} {xs':List Value} (h:ST w0 (r :: R) X w) (hg:w.grownBy w' r.v.ownBlock) (hown:w'.ownsRow w0.heap.size r.e r.z v' n' xs') (hf : ∀g,v'.ownBlock=some g->r.v.ownBlock=some g ∨ w.heap.size<=g) :
  ST w0 (⟨r.e,r.z,v',n',xs'⟩ :: R) X w':=by
 refine⟨Below.grown h.bel hg h.bel.size (fun k hk=>((h.rows r (List.mem_cons_self ..)).lt k hk).1),fun s hs=>?_,fun b hb=>⟨(h.boxes b hb).1,?_⟩,?_⟩
 ·rcases List.mem_cons.1 hs with rfl|hs
  ·exact hown
  ·refine(h.rows s (List.mem_cons_of_mem _ hs)).kept hg ?_
   cases e:s.v.ownBlock with
   | none=>exact .inl rfl
   | some g=>exact .inr (h.head_ne g (qix hs e))
 ·have hb2:=(h.boxes b hb).2
  exact(hg.block b.g (Array.getElem?_eq_some_iff.1 hb2).1 (h.head_ne b.g (qiy hb))).trans hb2
 ·have htl:=h.tail_nd
  have hlt:=h.droprow0.lt;cases e:v'.ownBlock with
  | none=>rw [qej e];exact htl
  | some g=>
   rw [qdi e];refine List.nodup_cons.2 ⟨fun hm=>?_,htl⟩;rcases hf g e with e2|e2
   ·exact h.head_ne g hm e2.symm
   ·have:=hlt g hm
    omega
theorem ST.addrow {e:TypeId} {z n:Nat} {v:Value} {xs:List Value} (h:ST w0 R X w) (k:Bel w w') (hown:w'.ownsRow w.heap.size e z v n xs):ST w0 (⟨e,z,v,n,xs⟩ :: R) X w':=by
 have h2:=h.belw k;refine⟨h2.bel,fun s hs=>?_,h2.boxes,?_⟩
 ·rcases List.mem_cons.1 hs with rfl|hs
  ·exact qq7 hown h.bel.size
  ·exact h2.rows s hs
 ·cases e:v.ownBlock with
  | none=>rw [qej e];exact h.nd
  | some g=>
   rw [qdi e];refine List.nodup_cons.2 ⟨fun hm=>?_,h.nd⟩;have:=h.lt g hm;have:=(hown.lt g e).1;omega
theorem ST.nilrow (h:ST w0 R X w) (e:TypeId) (z:Nat):ST w0 (⟨e,z,.slice none 0 0,0,[]⟩ :: R) X w:=h.addrow (Bel.refl _) (World.ownsRow_nil _ _ _ _)
theorem ST.addbox (h:ST w0 R X w) (cs:Array Value) (T:TypeId):ST w0 R (⟨w.heap.size,cs,T⟩ :: X) (w.alloc (.cells cs T)):=by
 have h2:=h.belw ((Bel.refl w).alloc (.cells cs T));refine⟨h2.bel,h2.rows,fun b hb=>?_,?_⟩
 ·rcases List.mem_cons.1 hb with rfl|hb
  ·exact⟨h.bel.size,heap_alloc_new _ _⟩
  ·exact h2.boxes b hb
 ·have hp:(qbe R (⟨w.heap.size,cs,T⟩ :: X)).Perm (w.heap.size :: qbe R X):=List.perm_middle
  refine hp.nodup_iff.2 (List.nodup_cons.2 ⟨fun hm=>?_,h.nd⟩);have:=h.lt _ hm;omega
theorem ST.box_ne (h:ST w0 R (b :: X) w):(∀k ∈ qbe R X,k ≠ b.g)/\(qbe R X).Nodup:=by
 have hp:(qbe R (b :: X)).Perm (b.g :: qbe R X):=List.perm_middle;have hn:=List.nodup_cons.1 (hp.nodup_iff.1 h.nd);exact⟨fun k hk e=>hn.1 (e ▸ hk),hn.2⟩
theorem ST.dropbox0 (h:ST w0 R (b :: X) w):ST w0 R X w:=⟨h.bel,h.rows,fun c hc=>h.boxes c (List.mem_cons_of_mem _ hc),h.box_ne.2⟩
theorem ST.setbox0 (h:ST w0 R (b :: X) w) (o:Nat) (v:Value):ST w0 R (⟨b.g,b.cs.setIfInBounds o v,b.T⟩ :: X) (w.setCell ⟨b.g,o,none⟩ v):=by
 have hb:=h.boxes b (List.mem_cons_self ..);have hg:=qaq w b.g o v;refine⟨qa8 h.bel hb.1,fun s hs=>?_,fun c hc=>?_,h.nd⟩
 ·refine(h.rows s hs).kept hg ?_
  cases e:s.v.ownBlock with
  | none=>exact .inl rfl
  | some g=>exact .inr fun e2=>h.box_ne.1 g (qix hs e) (by injection e2)
 ·rcases List.mem_cons.1 hc with rfl|hc
  ·exact⟨hb.1,heap_setCell_same w b.g o _ _ v hb.2⟩
  ·have h2:=h.boxes c (List.mem_cons_of_mem _ hc)
   exact⟨h2.1,(Below.heap_setCell _ _ _ _ (h.box_ne.1 c.g (qiy hc))).trans h2.2⟩
theorem own_set {B:Nat} {e:TypeId} {z n g c:Nat} {xs:List Value} (h:w.ownsRow B e z (.slice (some ⟨g,0,none⟩) n c) n xs) (o:Nat) (v:Value):(w.setCell ⟨g,o,none⟩ v).ownsRow B e z (.slice (some ⟨g,0,none⟩) n c) n (xs.set o v):=by
 refine⟨by rw [List.length_set];exact h.1,?_⟩;rcases h.2 with⟨h1,_⟩|⟨g',cap,cur,h1,h2,h3,h4,h5,h6,h7⟩
 ·cases h1
 ·cases h1
  refine .inr ⟨g,c,cur.setIfInBounds o v,rfl,h2,heap_setCell_same w g o cur e v h3,h4,h5,by simpa using h6,?_⟩;rw [←h7,Array.toList_setIfInBounds,List.take_set]
theorem ST.setrow0 {g c:Nat} (h:ST w0 (r :: R) X w) (hv:r.v=.slice (some ⟨g,0,none⟩) r.n c) (o:Nat) (v:Value):ST w0 (⟨r.e,r.z,r.v,r.n,r.xs.set o v⟩ :: R) X (w.setCell ⟨g,o,none⟩ v):=by
 obtain⟨e,z,v0,n,xs⟩:=r;have hv':v0=.slice (some ⟨g,0,none⟩) n c:=hv;subst hv';have h0:w.ownsRow w0.heap.size e z (.slice (some ⟨g,0,none⟩) n c) n xs:=h.rows _ (List.mem_cons_self ..);exact h.grow0 (qaq w g o v) (own_set h0 o v) (fun k hk=>.inl hk)
theorem ST.swapX {a:Box} (h:ST w0 R (a :: b :: X) w):ST w0 R (b :: a :: X) w:=h.perm (List.Perm.refl _) (List.Perm.swap b a X)
theorem ST.to0 (h:ST w0 R X w) (i:Nat) (hi:R[i]? = some r):ST w0 (r :: R.eraseIdx i) X w:=h.perm (qgh R i r hi r).1 (List.Perm.refl _)
theorem ST.of0 (i:Nat) (hi:R[i]? = some r) {s:Row} (h:ST w0 (s :: R.eraseIdx i) X w):ST w0 (R.set i s) X w:=h.perm (qgh R i r hi s).2.symm (List.Perm.refl _)
theorem ST.grow {v':Value} {n':Nat} {xs':List Value} (h:ST w0 R X w) (i:Nat) (hi:R[i]? = some r) (hg:w.grownBy w' r.v.ownBlock) (hown:w'.ownsRow w0.heap.size r.e r.z v' n' xs') (hf : ∀g,v'.ownBlock=some g->r.v.ownBlock=some g ∨ w.heap.size<=g) :
  ST w0 (R.set i ⟨r.e,r.z,v',n',xs'⟩) X w':=ST.of0 i hi ((h.to0 i hi).grow0 hg hown hf)
theorem ST.setrow {g c:Nat} (h:ST w0 R X w) (i:Nat) (hi:R[i]? = some r) (hv:r.v=.slice (some ⟨g,0,none⟩) r.n c) (o:Nat) (v:Value):ST w0 (R.set i ⟨r.e,r.z,r.v,r.n,r.xs.set o v⟩) X (w.setCell ⟨g,o,none⟩ v):=
 ST.of0 i hi ((h.to0 i hi).setrow0 hv o v)
theorem ST.setbox (h:ST w0 R X w) (j:Nat) (hj:X[j]? = some b) (o:Nat) (v:Value):ST w0 R (X.set j ⟨b.g,b.cs.setIfInBounds o v,b.T⟩) (w.setCell ⟨b.g,o,none⟩ v):=
 ((h.perm (List.Perm.refl _) (qgh X j b hj b).1).setbox0 o v).perm (List.Perm.refl _) (qgh X j b hj _).2.symm
theorem ST.row (h:ST w0 R X w) (i:Nat) (hi:R[i]? = some r):w.ownsRow w0.heap.size r.e r.z r.v r.n r.xs:=h.rows r (List.mem_of_getElem? hi)
theorem ST.box (h:ST w0 R X w) (j:Nat) (hj:X[j]? = some b):w.heap[b.g]? = some (.cells b.cs b.T (0,0)):=(h.boxes b (List.mem_of_getElem? hj)).2
theorem ST.boxlt (h:ST w0 R X w) (j:Nat) (hj:X[j]? = some b):w0.heap.size<=b.g/\b.g<w.heap.size:=⟨(h.boxes b (List.mem_of_getElem? hj)).1,(Array.getElem?_eq_some_iff.1 (h.box j hj)).1⟩
theorem ST.cell (h:ST w0 R X w) (j:Nat) (hj:X[j]? = some b) (o:Nat):w.cell? ⟨b.g,o,none⟩=b.cs[o]?:=Lib.cell_of_heap (h.box j hj) o
theorem ST.frz (h:ST w0 R X w) (j:Nat) (hj:X[j]? = some b) (o:Nat):w.frozen? ⟨b.g,o,none⟩=false:=Lib.frozen_of_heap (h.box j hj) o
theorem ST.rowcell {g c n:Nat} (h:ST w0 R X w) (i:Nat) (hi:R[i]? = some r) (hv:r.v=.slice (some ⟨g,0,none⟩) n c) (j:Nat) (u:Value) (hu:r.xs[j]? = some u):w.cell? ⟨g,j,none⟩=some u:=by
 have h0:=h.row i hi;rw [hv]at h0;have:=h0.cells (g:=g) rfl j u hu;rw [Addr.add_lit,Nat.zero_add]at this;exact this
theorem ST.rowfrz {g c n:Nat} (h:ST w0 R X w) (i:Nat) (hi:R[i]? = some r) (hv:r.v=.slice (some ⟨g,0,none⟩) n c) (j:Nat):w.frozen? ⟨g,j,none⟩=false:=by
 have h0:=h.row i hi;rw [hv]at h0;rcases h0.2 with⟨h1,_⟩|⟨g',cap,cur,h1,_,h3,_⟩
 ·cases h1
 ·cases h1
  exact Lib.frozen_of_heap h3 j
theorem ST.droprow (h:ST w0 R X w) (i:Nat):ST w0 (R.eraseIdx i) X w:=by
 cases e:R[i]? with
 | none=>rw [List.eraseIdx_of_length_le (by simpa using e)];exact h
 | some r=>exact(h.to0 i e).droprow0
theorem ST.rest {n:Nat} : ∀{R1:List Row},ST w0 (R1 ++ R) X w->ST w0 R X w
 | [],h=>h
 | r :: R1,h=>ST.rest (R1:=R1) (n:=n) (ST.droprow0 (r:=r) (R:=R1 ++ R) h)
end
theorem qde {α:Type} {V:World->List Value->α->Prop} {w:World} {B:Nat} {e:TypeId} {z:Nat} {v:Value} {l:List α} (C:α->List Value) (hC : ∀x,(C x).length=z) (h:w.ownsRow B e z v l.length (l.flatMap C)) (hl:l.length<=140737488355328) (hV : ∀x ∈ l,V w (C x) x):Sv z V w v l:=by
 rcases h.2 with⟨rfl,h0⟩|⟨g,cap,cur,rfl,h1,h2,h3,h4,h5,h6⟩
 ·have:l=[]:=List.length_eq_zero_iff.1 h0
  subst this;exact Sl.nil _ _ _ _ _
 ·refine⟨_,cap,rfl,hl,h3,fun i x hx=>⟨g,0,rfl,(Array.getElem?_eq_some_iff.1 h2).1,C x,fun j u hu=>?_,hV x (List.mem_of_getElem? hx)⟩⟩
  ·have hj:j<z:=by
    have:=(List.getElem?_eq_some_iff.1 hu).1;rwa [hC]at this
   have hfl : ∀(l:List α) (i:Nat),l[i]? = some x->(l.flatMap C)[i*z+j]? = some u:=by
    intro l
    induction l with
    | nil=>intro i h;simp at h
    | cons a l ih=>
     intro i hi;rw [List.flatMap_cons];cases i with
     | zero=>
      have:a=x:=by simpa using hi
      subst this;rw [Nat.zero_mul,Nat.zero_add,List.getElem?_append_left (by rw [hC];exact hj)];exact hu
     | succ i=>
      rw [List.getElem?_append_right (by rw [hC,Nat.succ_mul];omega),hC,Nat.succ_mul,show i*z+z+j-z=i*z+j by omega];exact ih i (by simpa using hi)
   have:=h.cells (g:=g) rfl (i*z+j) u (hfl l i hx);rw [Addr.add_lit]at this
   simpa using this
end Go.Proofs.YtfoaaglbpmmhiaaGreatDoor
namespace Go.Proofs.YtfoaaglbpmmhiaaGreatDoor.Md
open Ck
structure PMem where
 name:Str
 ty:Str
 num:Int
structure PDecl where
 kind:Int
 name:Str
 frm:Str
 mems:List PMem
def cand (name:Str) (k:Nat):Str:=if k=0 then name else name ++ Lib.itoa ((k+1:Nat):Int)
def uniqF (taken:List Str) (name:Str):Nat->Nat->Str
 | 0,k=>cand name k
 | f+1,k=>if Id.has taken (cand name k)=true then uniqF taken name f (k+1)else cand name k
def qbl (taken:List Str) (name:Str):Str:=uniqF taken name taken.length 0
def camel (full:Str):Str:=(Id.cut 46 full).flatMap Id.camel
def unGo:List Str->List PField->List Str
 | acc,[]=>acc
 | acc,f :: r=>unGo (if f.un ≠ []/\Id.has acc f.un=false then acc ++ [f.un]else acc) r
def qbt (m:PMsg):List Str:=unGo [] m.fields
def word (k:Int):Str:=if k=1 then [98,111,111,108]else if k=2 then [105,51,50]else if k=3 then [105,54,52]else if k=4 then [117,51,50]else if k=5 then [117,54,52]else if k=6 then [100,111,117,98,108,101]else if k=7 then [116,101,120,116]else [98,121,116,101,115]
def wordR (k:Int):Str:=if 1<=k/\k<=8 then word k else []
def addD (D:List PDecl) (kind:Int) (name frm:Str):List PDecl:=D ++ [⟨kind,qbl (D.map (·.name)) name,frm,[]⟩]
def isK (k:Int) (f:Str) (d:PDecl):Bool:=decide (d.kind=k) && decide (d.frm=f)
def qcg (D:List PDecl) (k:Int) (f:Str):Str:=((D.find? (isK k f)).map (·.name)).getD []
def qau (nm m:Str):List PDecl->List Str->List PDecl
 | D,[]=>D
 | D,u :: r=>qau nm m (addD D 2 (nm ++ Id.camel u) (m ++ 58 :: u)) r
def msgD (D:List PDecl) (m:PMsg):List PDecl:=qau (qbl (D.map (·.name)) (camel m.name)) m.name (addD D 1 (camel m.name) m.name) (qbt m)
def enumD (D:List PDecl) (e:PEnum):List PDecl:=addD D 3 (camel e.name) e.name
def svcD (D:List PDecl) (v:PSvc):List PDecl:=addD D 4 (camel v.name) v.name
def qa6 (s:PSchema):List PDecl:=s.svcs.foldl svcD (s.enums.foldl enumD (s.msgs.foldl msgD []))
def element (D:List PDecl) (tk:Int) (tn:Str):Str:=if tk=10 then qcg D 1 tn else if tk=9 then qcg D 3 tn else word tk
def qei (card:Int) (key t:Str):Str:=if card=2 then 63 :: t else if card=4 then 91 :: 93 :: t else if card=5 then [109,97,112,91] ++ key ++ [93] ++ t else t
def qit (D:List PDecl) (f:PField):Str:=qei f.card (word f.key) (element D f.tk f.tn)
def addM (l:List PMem) (name ty:Str) (num:Int):List PMem:=l ++ [⟨qbl (l.map (·.name)) (Id.camel name),ty,num⟩]
def recGo (D:List PDecl) (m:Str):List PMem->List Str->List PField->List PMem
 | out,had,[]=>out
 | out,had,f :: r=>if f.un=[]then recGo D m (addM out f.name (qit D f) f.num) had r else if Id.has had f.un=true then recGo D m out had r else recGo D m (addM out f.un (qcg D 2 (m ++ 58 :: f.un)) (-1)) (had ++ [f.un]) r
def qdp (D:List PDecl) (m:PMsg):List PMem:=recGo D m.name [] [] m.fields
def chGo (D:List PDecl) (u:Str):List PMem->List PField->List PMem
 | out,[]=>out
 | out,f :: r=>chGo D u (if f.un=u then addM out f.name (element D f.tk f.tn) f.num else out) r
def qdk (D:List PDecl) (m:PMsg) (u:Str):List PMem:=chGo D u [] m.fields
def qcf:Str:=[115,116,114,101,97,109,32]
def qbn (shape:Int) (i o:Str):Str:=(if shape=3 ∨ shape=4 then qcf ++ i else i) ++ [45,62] ++ (if shape=2 ∨ shape=4 then qcf ++ o else o)
def clGo (D:List PDecl):Nat->List PMem->List PMeth->List PMem
 | _,out,[]=>out
 | i,out,m :: r=>clGo D (i+1) (addM out m.name (qbn m.shape (qcg D 1 m.inn) (qcg D 1 m.out)) i) r
def qcy (D:List PDecl) (v:PSvc):List PMem:=clGo D 0 [] v.meths
def itGo:List PMem->List PItem->List PMem
 | out,[]=>out
 | out,x :: r=>itGo (addM out x.name [] x.num) r
def items (e:PEnum):List PMem:=itGo [] e.items
def memsM (D:List PDecl) (m:PMsg):List (List PMem):=qdp D m :: (qbt m).map (qdk D m)
def qh9 (D:List PDecl) (s:PSchema):List (List PMem):=s.msgs.flatMap (memsM D) ++ s.enums.map items ++ s.svcs.map (qcy D)
def withM (d:PDecl) (l:List PMem):PDecl:=⟨d.kind,d.name,d.frm,l⟩
def make (s:PSchema):List PDecl:=List.zipWith withM (qa6 s) (qh9 (qa6 s) s)
def kindW (k:Int):Str:=if k=1 then [114,101,99,111,114,100]else if k=2 then [99,104,111,105,99,101]else if k=3 then [110,97,109,101,115]else if k=4 then [99,108,105,101,110,116]else [63]
def memT (m:PMem):Str:=[32,32] ++ m.name ++ [32] ++ Lib.itoa m.num ++ (if m.ty=[]then []else 32 :: m.ty) ++ [10]
def declT (d:PDecl):Str:=kindW d.kind ++ [32] ++ d.name ++ [32,61,32] ++ d.frm ++ [10] ++ d.mems.flatMap memT
def text (l:List PDecl):Str:=l.flatMap declT
def qq8 (l:Str):Nat:=l.foldl (fun a b=>a*10+(b.toNat-48)) 0
theorem qig (u:Nat):qq8 (Lib.decDigits u)=u:=by
 induction u using Nat.strongRecOn with
 | ind u ih=>
  rw [Lib.decDigits]
  split
  ·rename_i h
   have:(UInt8.ofNat (48+u)).toNat=48+u:=by rw [UInt8.toNat_ofNat'];omega
   unfold qq8;rw [List.foldl_cons,List.foldl_nil,this];omega
  ·rename_i h
   have hd:=ih (u / 10) (by omega);have:(UInt8.ofNat (48+u % 10)).toNat=48+u % 10:=by rw [UInt8.toNat_ofNat'];omega
   unfold qq8 at hd ⊢;rw [List.foldl_append,hd];simp only [List.foldl_cons,List.foldl_nil,this];omega
theorem dec_inj {a b:Nat} (h:Lib.decDigits a=Lib.decDigits b):a=b:=by
 have:=congrArg qq8 h;rwa [qig,qig]at this
theorem qjj (n:Nat):Lib.itoa (n:Int)=Lib.decDigits n:=by
 unfold Lib.itoa;rw [if_neg (by omega)];rfl
theorem dec_ne (u:Nat):Lib.decDigits u ≠ []:=by
 rw [Lib.decDigits]
 split <;> simp
theorem cand_inj {name:Str} {i j:Nat} (h:cand name i=cand name j):i=j:=by
 unfold cand at h;rw [qjj,qjj]at h;by_cases hi:i=0 <;> by_cases hj:j=0 <;> simp only [hi,hj,if_true,if_false]at h
 ·omega
 ·have:=congrArg List.length h
  rw [List.length_append]at this;have:=List.length_pos_iff.2 (dec_ne (j+1));omega
 ·have:=congrArg List.length h
  rw [List.length_append]at this;have:=List.length_pos_iff.2 (dec_ne (i+1));omega
 ·have:=dec_inj (List.append_cancel_left h)
  omega
theorem qhv (taken:List Str) (name:Str) (k:Nat) (h : ∀j,j<k->cand name j ∈ taken):k<=taken.length:=by
 have hn:((List.range k).map (cand name)).Nodup:=by
  refine List.Pairwise.map _ ?_ List.nodup_range;intro a b hab e;exact hab (cand_inj e)
 have hs:(List.range k).map (cand name) ⊆ taken:=fun x hx=>by
  obtain⟨j,hj,rfl⟩:=List.mem_map.1 hx;exact h j (List.mem_range.1 hj)
 have : ∀(a b:List Str),a.Nodup->a ⊆ b->a.length<=b.length:=by
  intro a
  induction a with
  | nil=>intro b _ _;simp
  | cons x r ih=>
   intro b hn hs;obtain⟨hx,hr⟩:=List.nodup_cons.1 hn;have hxb:x ∈ b:=hs (List.mem_cons_self ..);have:=ih (b.erase x) hr (fun y hy=>(List.mem_erase_of_ne (fun(e:y=x)=>hx (by rw [←e];exact hy))).2 (hs (List.mem_cons_of_mem _ hy)));rw [List.length_erase_of_mem hxb]at this;have:=List.length_pos_of_mem hxb;rw [List.length_cons];omega
 have:=this _ _ hn hs
 simpa using this
theorem has_mem {l:List Str} {s:Str}:Id.has l s=true ↔ s ∈ l:=by unfold Id.has;simp
theorem qhy (taken:List Str) (name:Str) : ∀(f k:Nat),f+k=taken.length->(∀j,j<k->cand name j ∈ taken)->uniqF taken name f k ∉ taken/\∃i,i<=taken.length/\uniqF taken name f k=cand name i
 | 0,k,h,hk=>by
  refine⟨fun hm=>?_,k,by omega,rfl⟩
  have:=qhv taken name (k+1) (fun j hj=>by
   rcases Nat.lt_or_ge j k with h1|h1
   ·exact hk j h1
   ·have:j=k:=by omega
    subst this
    exact hm)
  omega
 | f+1,k,h,hk=>by
  unfold uniqF;by_cases hh:Id.has taken (cand name k)=true
  ·rw [if_pos hh]
   refine qhy taken name f (k+1) (by omega) (fun j hj=>?_);rcases Nat.lt_or_ge j k with h1|h1
   ·exact hk j h1
   ·have:j=k:=by omega
    subst this;exact has_mem.1 hh
  ·rw [if_neg hh]
   exact⟨fun hm=>hh (has_mem.2 hm),k,by omega,rfl⟩
theorem qlz (taken:List Str) (name:Str) : ∃i,i<=taken.length/\qbl taken name=cand name i:=(qhy taken name taken.length 0 (by omega) (fun j hj=>by omega)).2
end Go.Proofs.YtfoaaglbpmmhiaaGreatDoor.Md
namespace Go.Proofs.YtfoaaglbpmmhiaaGreatDoor.Md
open Ck
theorem qok (x:UInt8) : ∀(l:Str),x ∈ l->x ≠ 46->∃p,p ∈ Id.cut 46 l/\x ∈ p
 | [],h,_=>by cases h
 | b :: r,h,hx=>by
  by_cases hb:b=46
  ·subst hb
   rw [Id.cut_hit];rcases List.mem_cons.1 h with e|h
   ·exact absurd e hx
   ·obtain⟨p,hp,hxp⟩:=qok x r h hx
    exact⟨p,List.mem_cons_of_mem _ hp,hxp⟩
  ·rw [Id.cut_miss 46 b r hb]
   rcases List.mem_cons.1 h with rfl|h
   ·cases e:Id.cut 46 r with
    | nil=>exact⟨[x],by simp [Id.onHead],by simp⟩
    | cons q qs=>exact⟨x :: q,by simp [Id.onHead],by simp⟩
   ·obtain⟨p,hp,hxp⟩:=qok x r h hx
    cases e:Id.cut 46 r with
    | nil=>rw [e]at hp;cases hp
    | cons q qs=>
     rw [e]at hp;rcases List.mem_cons.1 hp with rfl|hp
     ·exact⟨b :: p,by simp [Id.onHead],List.mem_cons_of_mem _ hxp⟩
     ·exact⟨p,by simp [Id.onHead,hp],hxp⟩
theorem qid {l:Str} (h:Id.isPart l=true):(∀x ∈ l,Id.nmB x=true)/\1<=l.length/\l.length<=40:=by
 unfold Id.isPart at h;rw [Bool.and_eq_true,decide_eq_true_iff]at h;refine⟨?_,h.2⟩;cases l with
 | nil=>intro x hx;cases hx
 | cons b r=>
  have h1:=h.1;unfold Id.okB at h1;rw [Bool.and_eq_true]at h1;intro x hx;rcases List.mem_cons.1 hx with rfl|hx
  ·exact Id.let_nm x h1.1
  ·exact List.all_eq_true.1 h1.2 x hx
theorem full_ok {l:Str} (h:Id.isFull l=true):58 ∉ l/\l.length<=120:=by
 unfold Id.isFull at h;rw [Bool.and_eq_true,decide_eq_true_iff]at h;refine⟨fun hm=>?_,h.2⟩;obtain⟨p,hp,hx⟩:=qok 58 l hm (by decide);have:=(qid (List.all_eq_true.1 h.1 p hp)).1 58 hx
 revert this
 decide
theorem qls {a b:Str} : ∀{m n:Str},58 ∉ m->58 ∉ n->m ++ 58 :: a=n ++ 58 :: b->m=n/\a=b
 | [],[],_,_,h=>by simpa using h
 | [],y :: n,_,h2,h=>by
  exfalso;have:(58:UInt8)=y:=by simpa using (List.cons.inj h).1
  exact h2 (by simp [this])
 | x :: m,[],h1,_,h=>by
  exfalso;have:x=(58:UInt8):=by simpa using (List.cons.inj h).1
  exact h1 (by simp [this])
 | x :: m,y :: n,h1,h2,h=>by
  have hh:=List.cons.inj (show x :: (m ++ 58 :: a)=y :: (n ++ 58 :: b)from h);have:=qls (m:=m) (n:=n) (fun e=>h1 (List.mem_cons_of_mem _ e)) (fun e=>h2 (List.mem_cons_of_mem _ e)) hh.2;exact⟨by rw [hh.1,this.1],this.2⟩
theorem qhz : ∀(l:List PField) (acc:List Str),acc.Nodup->(unGo acc l).Nodup
 | [],acc,h=>h
 | f :: r,acc,h=>by
  unfold unGo;refine qhz r _ ?_
  split
  ·rename_i hh
   rw [List.nodup_append];refine⟨h,by simp,fun a ha b hb=>?_⟩;have:b=f.un:=by simpa using hb
   subst this;intro e;subst e;have:=has_mem.2 ha;rw [hh.2]at this;cases this
  ·exact h
theorem qmv : ∀(l:List PField) (acc:List Str) (u:Str),u ∈ unGo acc l ↔ u ∈ acc ∨ (u ≠ []/\∃f ∈ l,f.un=u)
 | [],acc,u=>by simp [unGo]
 | f :: r,acc,u=>by
  unfold unGo;rw [qmv r];constructor
  ·rintro (h|⟨h,g,hg,e⟩)
   ·split at h
    ·rename_i hh
     rcases List.mem_append.1 h with h|h
     ·exact .inl h
     ·have:u=f.un:=by simpa using h
      subst this;exact .inr ⟨hh.1,f,List.mem_cons_self ..,rfl⟩
    ·exact .inl h
   ·exact .inr ⟨h,g,List.mem_cons_of_mem _ hg,e⟩
  ·rintro (h|⟨h,g,hg,e⟩)
   ·left
    split
    ·exact List.mem_append_left _ h
    ·exact h
   ·rcases List.mem_cons.1 hg with rfl|hg
    ·left
     subst e
     split
     ·exact List.mem_append_right _ (by simp)
     ·rename_i hh
      by_cases hm:Id.has acc g.un=true
      ·exact has_mem.1 hm
      ·exact absurd ⟨h,by simpa using hm⟩ hh
    ·exact .inr ⟨h,g,hg,e⟩
theorem unions_mem {m:PMsg} {u:Str}:u ∈ qbt m ↔ u ≠ []/\∃f ∈ m.fields,f.un=u:=by
 unfold qbt;rw [qmv];simp
theorem qj3 (m:PMsg):(qbt m).Nodup:=qhz _ _ List.nodup_nil
def wh (d:PDecl):Int × Str:=(d.kind,d.frm)
def qf4 (m:PMsg):List (Int × Str):=(1,m.name) :: (qbt m).map (fun u=>(2,m.name ++ 58 :: u))
def whats (s:PSchema):List (Int × Str):=s.msgs.flatMap qf4 ++ s.enums.map (fun e=>(3,e.name)) ++ s.svcs.map (fun v=>(4,v.name))
theorem qlv (D:List PDecl) (k:Int) (n f:Str):(addD D k n f).map wh=D.map wh ++ [(k,f)]:=by unfold addD;rw [List.map_append];rfl
theorem qft (nm m:Str) : ∀(l:List Str) (D:List PDecl),(qau nm m D l).map wh=D.map wh ++ l.map (fun u=>(2,m ++ 58 :: u))
 | [],D=>by simp [qau]
 | u :: r,D=>by
  unfold qau;rw [qft nm m r,qlv];simp
theorem msgD_wh (D:List PDecl) (m:PMsg):(msgD D m).map wh=D.map wh ++ qf4 m:=by
 unfold msgD qf4;rw [qft,qlv];simp
theorem qlg {α:Type} (F:List PDecl->α->List PDecl) (g:α->List (Int × Str)) (h : ∀D a,(F D a).map wh=D.map wh ++ g a) : ∀(l:List α) (D:List PDecl),(l.foldl F D).map wh=D.map wh ++ l.flatMap g
 | [],D=>by simp
 | a :: l,D=>by
  rw [List.foldl_cons,qlg F g h l,h,List.flatMap_cons,List.append_assoc]
theorem qcp (s:PSchema):(qa6 s).map wh=whats s:=by
 unfold qa6 whats;rw [qlg svcD (fun v => [(4,v.name)]) (fun D v=>qlv _ _ _ _),qlg enumD (fun e => [(3,e.name)]) (fun D e=>qlv _ _ _ _),qlg msgD qf4 msgD_wh];simp [List.flatMap_singleton',List.map_eq_flatMap]
theorem qjr {α β:Type} [DecidableEq β] (F:α->β) : ∀(l:List α) (d:α),(l.map F).Nodup->d ∈ l->l.find? (fun x=>decide (F x=F d))=some d
 | a :: l,d,h,hd=>by
  obtain⟨h1,h2⟩:=List.nodup_cons.1 (show(F a :: l.map F).Nodup from h);rw [List.find?_cons];rcases List.mem_cons.1 hd with rfl|hd
  ·simp
  ·have hne:F a ≠ F d:=fun e=>h1 (e ▸ List.mem_map.2 ⟨d,hd,rfl⟩)
   simp only [hne,decide_false];exact qjr F l d h2 hd
def ofD (D:List PDecl) (f:Str):Option PDecl:=D.find? (fun d=>decide (d.frm=f))
def zeroD:PDecl:=⟨0,[],[],[]⟩
def ofZ (D:List PDecl) (f:Str):PDecl:=(ofD D f).getD zeroD
def qbz (D:List PDecl) (tk:Int) (tn:Str):Str:=if wordR tk ≠ []then wordR tk else(ofZ D tn).name
def qgx (D:List PDecl) (f:PField):Str:=qei f.card (wordR f.key) (qbz D f.tk f.tn)
def qg2 (D:List PDecl) (m:Str):List PMem->Option Str->List PField->List PMem
 | out,_,[]=>out
 | out,pv,f :: r=>qg2 D m (if f.un=[]then addM out f.name (qgx D f) f.num else if pv=some f.un then out else addM out f.un (ofZ D (m ++ 58 :: f.un)).name (-1)) (some f.un) r
def recR (D:List PDecl) (m:PMsg):List PMem:=qg2 D m.name [] none m.fields
def chRGo (D:List PDecl) (u:Str):List PMem->List PField->List PMem
 | out,[]=>out
 | out,f :: r=>chRGo D u (if f.un=u then addM out f.name (qbz D f.tk f.tn) f.num else out) r
def chR (D:List PDecl) (m:PMsg) (u:Str):List PMem:=chRGo D u [] m.fields
def qfv (D:List PDecl) (x:PMeth):Str:=qbn x.shape (ofZ D x.inn).name (ofZ D x.out).name
def clRGo (D:List PDecl):Nat->List PMem->List PMeth->List PMem
 | _,out,[]=>out
 | i,out,m :: r=>clRGo D (i+1) (addM out m.name (qfv D m) i) r
def msgR (D:List PDecl) (m:PMsg):List PDecl:=withM (ofZ D m.name) (recR D m) :: (qbt m).map (fun u=>withM (ofZ D (m.name ++ 58 :: u)) (chR D m u))
def enumR (D:List PDecl) (e:PEnum):PDecl:=withM (ofZ D e.name) (itGo (ofZ D e.name).mems e.items)
def svcR (D:List PDecl) (v:PSvc):PDecl:=withM (ofZ D v.name) (clRGo D 0 (ofZ D v.name).mems v.meths)
def makeR (s:PSchema):List PDecl:=s.msgs.flatMap (msgR (qa6 s)) ++ s.enums.map (enumR (qa6 s)) ++ s.svcs.map (svcR (qa6 s))
end Go.Proofs.YtfoaaglbpmmhiaaGreatDoor.Md
namespace Go.Proofs.YtfoaaglbpmmhiaaGreatDoor.Md
open Ck
theorem qe9 {l:Str} (h:qad l=true):58 ∉ l/\l.length<=120:=by
 unfold qad at h;rw [Bool.and_eq_true]at h;exact full_ok h.1
theorem qdb {l:Str} (h:qa7 l=true):Id.isPart l=true:=by
 unfold qa7 at h;rw [Bool.and_eq_true]at h;exact h.1
structure FldOk (s:PSchema) (m:PMsg) (i:Nat) (f:PField):Prop where
 num:1<=f.num/\f.num<=65535
 asc:i=0 ∨ ∃g,m.fields[i-1]? = some g/\g.num<f.num
 part:Id.isPart f.name=true
 card:1<=f.card/\f.card<=5
 key:f.card=5->1<=f.key/\f.key<=7
 ty:typed s f=true
 un:qdt m i f=true
theorem fld_of {s:PSchema} {m:PMsg} {i:Nat} {f:PField} (h:qdr s m i f=[]):FldOk s m i f:=by
 unfold qdr at h;simp only [List.append_eq_nil_iff,qg0]at h;obtain⟨⟨⟨⟨⟨⟨⟨⟨⟨h1,h2⟩,h3⟩,h4⟩,h5⟩,h6⟩,h7⟩,h8⟩,h9⟩,h10⟩:=h;rw [Bool.and_eq_true,decide_eq_true_iff]at h6;refine⟨of_decide_eq_true h1,?_,qdb h3,h6.1,fun e=>?_,h7,h8⟩
 ·rw [Bool.or_eq_true,decide_eq_true_iff]at h2
  rcases h2 with h2|h2
  ·exact .inl h2
  ·right
   split at h2
   ·rename_i g hg
    exact⟨g,hg,of_decide_eq_true h2⟩
   ·cases h2
 ·have:=h6.2
  unfold keyed at this;rw [if_neg (by omega),decide_eq_true_iff]at this;omega
structure MOk (s:PSchema) (m:PMsg):Prop where
 nocol:58 ∉ m.name
 len:m.name.length<=120
 few:m.fields.length<=64
 fld : ∀(i:Nat) f,m.fields[i]? = some f->FldOk s m i f
theorem qqa {s:PSchema} (h:valid s=true) {m:PMsg} (hm:m ∈ s.msgs):MOk s m:=by
 have h1:=(all_nil.1 (valid_iff.1 h)).2.1 m hm;have h2:=qin h1;unfold qan at h1;simp only [List.append_eq_nil_iff,qg0]at h1;have hn:=qe9 h1.1.1.1.1.1.1;exact⟨hn.1,hn.2,h2.len,fun i f hf=>fld_of (h2.field i f hf)⟩
theorem qgm {e:PEnum} : ∀(l:List PItem) (i:Nat),qc3 e i l=[]->∀(j:Nat) f,l[j]? = some f->itemP e (i+j) f=[]
 | [],i,_,j,f,h=>by simp at h
 | a :: r,i,h,j,f,hf=>by
  unfold qc3 at h;rw [List.append_eq_nil_iff]at h;cases j with
  | zero=>
   simp at hf;subst hf;exact h.1
  | succ j=>
   have:=qgm r (i+1) h.2 j f (by simpa using hf);rwa [show i+1+j=i+(j+1)by omega]at this
structure ItOk (e:PEnum) (i:Nat) (f:PItem):Prop where
 num:0<=f.num/\f.num<=2147483647
 asc:i=0 ∨ ∃g,e.items[i-1]? = some g/\g.num<f.num
 part:Id.isPart f.name=true
structure EOk (e:PEnum):Prop where
 nocol:58 ∉ e.name
 len:e.name.length<=120
 few:e.items.length<=64
 it : ∀(i:Nat) f,e.items[i]? = some f->ItOk e i f
theorem enum_ok {s:PSchema} (h:valid s=true) {e:PEnum} (he:e ∈ s.enums):EOk e:=by
 have h1:=(all_nil.1 (valid_iff.1 h)).2.2.1 e he;unfold enum at h1;simp only [List.append_eq_nil_iff,qg0]at h1;obtain⟨⟨⟨⟨⟨a,b⟩,c⟩,d⟩,_⟩,_⟩:=h1;have hn:=qe9 a;refine⟨hn.1,hn.2,(of_decide_eq_true b).2.1,fun i f hf=>?_⟩;have h2:=qgm e.items 0 d i f hf;rw [Nat.zero_add]at h2;unfold itemP at h2;simp only [List.append_eq_nil_iff,qg0]at h2;obtain⟨⟨⟨⟨⟨h1,h2⟩,h3⟩,h4⟩,h5⟩,h6⟩:=h2;refine⟨of_decide_eq_true h1,?_,qdb h3⟩;rw [Bool.or_eq_true,decide_eq_true_iff]at h2;rcases h2 with h2|h2
 ·exact .inl h2
 ·right
  split at h2
  ·rename_i g hg
   exact⟨g,hg,of_decide_eq_true h2⟩
  ·cases h2
theorem qgi {s:PSchema} {v:PSvc} : ∀(l:List PMeth) (i:Nat),qc2 s v i l=[]->∀(j:Nat) f,l[j]? = some f->methP s v (i+j) f=[]
 | [],i,_,j,f,h=>by simp at h
 | a :: r,i,h,j,f,hf=>by
  unfold qc2 at h;rw [List.append_eq_nil_iff]at h;cases j with
  | zero=>
   simp at hf;subst hf;exact h.1
  | succ j=>
   have:=qgi r (i+1) h.2 j f (by simpa using hf);rwa [show i+1+j=i+(j+1)by omega]at this
structure SOk (s:PSchema) (v:PSvc):Prop where
 nocol:58 ∉ v.name
 len:v.name.length<=120
 few:v.meths.length<=64
 me : ∀f,f ∈ v.meths->Id.isPart f.name=true/\(msgOf s f.inn).isSome=true/\(msgOf s f.out).isSome=true
theorem qpk {s:PSchema} (h:valid s=true) {v:PSvc} (hv:v ∈ s.svcs):SOk s v:=by
 have h1:=(all_nil.1 (valid_iff.1 h)).2.2.2 v hv;unfold qax at h1;simp only [List.append_eq_nil_iff,qg0]at h1;obtain⟨⟨⟨a,b⟩,c⟩,_⟩:=h1;have hn:=qe9 a;refine⟨hn.1,hn.2,of_decide_eq_true b,fun f hf=>?_⟩;obtain⟨i,hi⟩:=List.mem_iff_getElem?.1 hf;have h2:=qgi v.meths 0 c i f hi;unfold methP at h2;simp only [List.append_eq_nil_iff,qg0]at h2;obtain⟨⟨⟨⟨h1,h2⟩,h3⟩,h4⟩,h5⟩:=h2;rw [Bool.and_eq_true]at h3;exact⟨qdb h1,h3.1,h3.2⟩
theorem qnn {α:Type} {f:α->Str} {l:List α} (h:qcn (l.map f)=true):(l.map f).Nodup:=((qkj _).1 h).imp (fun {a b} (hab:a<b) (e:a=b)=>qik b (by rw [e]at hab;exact hab))
theorem qjl (m:PMsg):((qf4 m).map (·.2)).Nodup:=by
 unfold qf4;rw [List.map_cons,List.map_map,List.nodup_cons];refine⟨fun hm=>?_,?_⟩
 ·obtain⟨u,_,e⟩:=List.mem_map.1 hm
  have:=congrArg List.length (show m.name ++ 58 :: u=m.name from e);rw [List.length_append,List.length_cons]at this;omega
 ·refine List.Pairwise.map _ ?_ (qj3 m)
  intro a b hab e;have:=List.append_cancel_left (show m.name ++ 58 :: a=m.name ++ 58 :: b from e);exact hab (List.cons.inj this).2
theorem qfk {m:PMsg} {x:Str} (h:x ∈ (qf4 m).map (·.2)):x=m.name ∨ ∃u,x=m.name ++ 58 :: u:=by
 unfold qf4 at h;rw [List.map_cons,List.map_map]at h;rcases List.mem_cons.1 h with h|h
 ·exact .inl h
 ·obtain⟨u,_,e⟩:=List.mem_map.1 h
  exact .inr ⟨u,e.symm⟩
theorem qp7 (s:PSchema):(whats s).map (·.2)=s.msgs.flatMap (fun m=>(qf4 m).map (·.2)) ++ s.enums.map (·.name) ++ s.svcs.map (·.name):=by
 unfold whats;rw [List.map_append,List.map_append,List.map_flatMap,List.map_map,List.map_map];rfl
theorem qjd {a b:List Str} (h:meet a b=false) : ∀x ∈ a,x ∉ b:=fun x hx hb=>by
 unfold meet at h;rw [List.any_eq_false]at h;exact h x hx (has_mem.2 hb)
theorem qgp {s:PSchema} (h:valid s=true):((whats s).map (·.2)).Nodup:=by
 obtain⟨⟨r1,r2,r3⟩,_,ha⟩:=qo6 (all_nil.1 (valid_iff.1 h)).1;have hM:=fun m hm=>qqa (m:=m) h hm
 have hE:=fun e he=>enum_ok (e:=e) h he
 have hS:=fun v hv=>qpk (v:=v) h hv
 unfold apart at ha;simp only [Bool.not_eq_true',Bool.or_eq_false_iff]at ha;obtain⟨⟨m1,m2⟩,m3⟩:=ha;have n1:=qjd m1;have n2:=qjd m2;have n3:=qjd m3
 have key : ∀x,x ∈ s.msgs.flatMap (fun m=>(qf4 m).map (·.2))->x ∈ s.msgs.map (·.name) ∨ 58 ∈ x:=fun x hx=>by
  obtain⟨m,hm,hx⟩:=List.mem_flatMap.1 hx;rcases qfk hx with rfl|⟨u,rfl⟩
  ·exact .inl (List.mem_map.2 ⟨m,hm,rfl⟩)
  ·exact .inr (List.mem_append_right _ (List.mem_cons_self ..))
 have ec : ∀x ∈ s.enums.map (·.name),58 ∉ x:=fun x hx=>by
  obtain⟨e,he,rfl⟩:=List.mem_map.1 hx;exact(hE e he).nocol
 have sc : ∀x ∈ s.svcs.map (·.name),58 ∉ x:=fun x hx=>by
  obtain⟨e,he,rfl⟩:=List.mem_map.1 hx;exact(hS e he).nocol
 rw [qp7,List.nodup_append,List.nodup_append];refine⟨⟨?_,qnn r2,fun x hx y hy e=>?_⟩,qnn r3,fun x hx y hy e=>?_⟩
 ·have hp:=(qkj _).1 r1
  rw [List.pairwise_map]at hp;unfold List.Nodup;rw [List.pairwise_flatMap];refine⟨fun m _=>qjl m,?_⟩;refine List.Pairwise.imp_of_mem ?_ hp;intro a b hma hmb hab x hx y hy e;subst e;have hne:a.name ≠ b.name:=fun e=>qik b.name (e ▸ hab)
  have ca:=(hM a hma).nocol;have cb:=(hM b hmb).nocol;rcases qfk hx with h1|⟨u,h1⟩ <;> rcases qfk hy with h2|⟨v,h2⟩
  ·exact hne (h1.symm.trans h2)
  ·exact ca (by rw [←h1,h2];simp)
  ·exact cb (by rw [←h2,h1];simp)
  ·exact hne (qls ca cb (h1.symm.trans h2)).1
 ·subst e
  rcases key x hx with h1|h1
  ·exact n1 x hy h1
  ·exact ec x hy h1
 ·subst e
  rcases List.mem_append.1 hx with h1|h1
  ·rcases key x h1 with h2|h2
   ·exact n2 x hy h2
   ·exact sc x hy h2
  ·exact n3 x hy h1
theorem qo8 (D:List PDecl):D.map (·.frm)=(D.map wh).map (·.2):=by rw [List.map_map];rfl
theorem qoe : ∀(l:List PDecl) (d:PDecl),(l.map (·.frm)).Nodup->d ∈ l->l.find? (isK d.kind d.frm)=some d
 | a :: l,d,h,hd=>by
  obtain⟨h1,h2⟩:=List.nodup_cons.1 (show(a.frm :: l.map (·.frm)).Nodup from h);rw [List.find?_cons];rcases List.mem_cons.1 hd with rfl|hd
  ·simp [isK]
  ·have hne:a.frm ≠ d.frm:=fun e=>h1 (e ▸ List.mem_map.2 ⟨d,hd,rfl⟩)
   simp only [isK,hne,decide_false,Bool.and_false];exact qoe l d h2 hd
theorem look {s:PSchema} (h:valid s=true) {k:Int} {f:Str} (hw:(k,f) ∈ whats s) : ∃d,d ∈ qa6 s/\d.kind=k/\d.frm=f/\ofD (qa6 s) f=some d/\qcg (qa6 s) k f=d.name/\ofZ (qa6 s) f=d:=by
 have hn:((qa6 s).map (·.frm)).Nodup:=by rw [qo8,qcp];exact qgp h
 rw [←qcp]at hw;obtain⟨d,hd,e⟩:=List.mem_map.1 hw;have e1:d.kind=k:=congrArg Prod.fst e;have e2:d.frm=f:=congrArg Prod.snd e
 have h1:ofD (qa6 s) f=some d:=by
  subst e2;exact qjr _ _ d hn hd
 refine⟨d,hd,e1,e2,h1,?_,?_⟩
 ·subst e1
  subst e2;unfold qcg;rw [qoe _ d hn hd];rfl
 ·unfold ofZ
  rw [h1];rfl
theorem wh_msg {s:PSchema} {m:PMsg} (hm:m ∈ s.msgs):(1,m.name) ∈ whats s:=List.mem_append_left _ (List.mem_append_left _ (List.mem_flatMap.2 ⟨m,hm,List.mem_cons_self ..⟩))
theorem wh_union {s:PSchema} {m:PMsg} (hm:m ∈ s.msgs) {u:Str} (hu:u ∈ qbt m):(2,m.name ++ 58 :: u) ∈ whats s:=List.mem_append_left _ (List.mem_append_left _ (List.mem_flatMap.2 ⟨m,hm,List.mem_cons_of_mem _ (List.mem_map.2 ⟨u,hu,rfl⟩)⟩))
theorem wh_enum {s:PSchema} {e:PEnum} (he:e ∈ s.enums):(3,e.name) ∈ whats s:=List.mem_append_left _ (List.mem_append_right _ (List.mem_map.2 ⟨e,he,rfl⟩))
theorem wh_svc {s:PSchema} {v:PSvc} (hv:v ∈ s.svcs):(4,v.name) ∈ whats s:=List.mem_append_right _ (List.mem_map.2 ⟨v,hv,rfl⟩)
theorem msgOf_mem {s:PSchema} {n:Str} (h:(msgOf s n).isSome=true) : ∃m ∈ s.msgs,m.name=n:=by
 unfold msgOf at h;rw [List.find?_isSome]at h;obtain⟨m,hm,e⟩:=h;exact⟨m,hm,of_decide_eq_true e⟩
theorem qog {s:PSchema} {n:Str} (h:(qc9 s n).isSome=true) : ∃m ∈ s.enums,m.name=n:=by
 unfold qc9 at h;rw [List.find?_isSome]at h;obtain⟨m,hm,e⟩:=h;exact⟨m,hm,of_decide_eq_true e⟩
theorem qjh {s:PSchema} (h:valid s=true) {n:Str} (hn:(msgOf s n).isSome=true):qcg (qa6 s) 1 n=(ofZ (qa6 s) n).name:=by
 obtain⟨m,hm,rfl⟩:=msgOf_mem hn;obtain⟨d,_,_,_,_,h1,h2⟩:=look h (wh_msg hm);rw [h1,h2]
theorem qqh {s:PSchema} (h:valid s=true) {n:Str} (hn:(qc9 s n).isSome=true):qcg (qa6 s) 3 n=(ofZ (qa6 s) n).name:=by
 obtain⟨m,hm,rfl⟩:=qog hn;obtain⟨d,_,_,_,_,h1,h2⟩:=look h (wh_enum hm);rw [h1,h2]
theorem word_ne (k:Int):word k ≠ []:=by
 unfold word
 (repeat' split) <;> simp
theorem elem_eq {s:PSchema} (h:valid s=true) {f:PField} (ht:typed s f=true):element (qa6 s) f.tk f.tn=qbz (qa6 s) f.tk f.tn:=by
 unfold typed at ht;unfold element qbz wordR;by_cases h1:1<=f.tk/\f.tk<=8
 ·rw [if_neg (by omega),if_neg (by omega),if_pos h1,if_pos (word_ne _)]
 ·rw [if_neg h1]at ht
  rw [if_neg h1,if_neg (show ¬(([]:Str) ≠ [])by simp)];by_cases h9:f.tk=9
  ·rw [if_pos h9]at ht
   rw [if_neg (by omega),if_pos h9];exact qqh h ht
  ·rw [if_neg h9]at ht
   by_cases h10:f.tk=10
   ·rw [if_pos h10,Bool.and_eq_true]at ht
    rw [if_pos h10];exact qjh h ht.1
   ·rw [if_neg h10]at ht
    cases ht
theorem typed_eq {s:PSchema} (h:valid s=true) {m:PMsg} {i:Nat} {f:PField} (hf:FldOk s m i f):qit (qa6 s) f=qgx (qa6 s) f:=by
 unfold qit qgx;rw [elem_eq h hf.ty];unfold qei;by_cases h5:f.card=5
 ·have:=hf.key h5
  unfold wordR;rw [if_pos (show 1<=f.key/\f.key<=8 by omega)]
 ·rw [if_neg h5,if_neg h5]
theorem qg9 {s:PSchema} {m:PMsg} (hm:MOk s m) {i:Nat} {f:PField} (hf:m.fields[i]? = some f) (hu:f.un ≠ []):(∃j g,j<i/\m.fields[j]? = some g/\g.un=f.un) ↔ (∃g,0<i/\m.fields[i-1]? = some g/\g.un=f.un):=by
 constructor
 ·rintro ⟨j,g,hj,hg,e⟩
  have h:=(hm.fld i f hf).un;unfold qdt at h;rw [if_neg hu]at h
  split at h
  ·cases h
  ·split at h
   ·rename_i h2
    exfalso;rw [List.any_eq_false]at h2;refine h2 g (List.mem_iff_getElem?.2 ⟨j,?_⟩) (by simpa using e);rw [List.getElem?_take,if_pos hj];exact hg
   ·split at h
    ·rename_i g2 hg2
     exact⟨g2,by omega,hg2,of_decide_eq_true h⟩
    ·cases h
 ·rintro ⟨g,hi,hg,e⟩
  exact⟨i-1,g,by omega,hg,e⟩
theorem qpy {s:PSchema} (h:valid s=true) {m:PMsg} (hms:m ∈ s.msgs) : ∀(r:List PField) (i:Nat) (out:List PMem) (had:List Str) (pv:Option Str),m.fields.drop i=r →
  (∀u,u ≠ []->(Id.has had u=true ↔ ∃j g,j<i/\m.fields[j]? = some g/\g.un=u))->(∀u,pv=some u ↔ ∃g,0<i/\m.fields[i-1]? = some g/\g.un=u) →
  recGo (qa6 s) m.name out had r=qg2 (qa6 s) m.name out pv r
 | [],i,out,had,pv,_,_,_=>rfl
 | f :: r,i,out,had,pv,hd,hh,hp=>by
  have hm:=qqa h hms
  have hf:m.fields[i]? = some f:=by
   have:=congrArg (fun l:List PField=>l[0]?) hd
   simpa using this
  have hd2:m.fields.drop (i+1)=r:=by
   have:=congrArg (List.drop 1) hd
   simpa [List.drop_drop,Nat.add_comm]using this
  have hp2 : ∀u,some f.un=some u ↔ ∃g,0<i+1/\m.fields[i+1-1]? = some g/\g.un=u:=fun u=>by
   rw [Nat.add_sub_cancel,hf];simp
  have hstep : ∀u,(∃j g,j<i+1/\m.fields[j]? = some g/\g.un=u) ↔ ((∃j g,j<i/\m.fields[j]? = some g/\g.un=u) ∨ f.un=u):=fun u=>by
   constructor
   ·rintro ⟨j,g,hj,hg,e⟩
    rcases Nat.lt_or_ge j i with h1|h1
    ·exact .inl ⟨j,g,h1,hg,e⟩
    ·have:j=i:=by omega
     subst this;rw [hf]at hg;cases hg;exact .inr e
   ·rintro (⟨j,g,hj,hg,e⟩|e)
    ·exact⟨j,g,by omega,hg,e⟩
    ·exact⟨i,f,by omega,hf,e⟩
  unfold recGo qg2;by_cases hu:f.un=[]
  ·rw [if_pos hu,if_pos hu,typed_eq h (hm.fld i f hf)]
   refine qpy h hms r (i+1) _ _ _ hd2 (fun u hne=>?_) hp2;rw [hh u hne,hstep];constructor
   ·exact .inl
   ·rintro (h1|h1)
    ·exact h1
    ·exact absurd (h1.symm.trans hu) hne
  ·rw [if_neg hu,if_neg hu]
   by_cases hx:Id.has had f.un=true
   ·have hpv:pv=some f.un:=(hp _).2 ((qg9 hm hf hu).1 ((hh _ hu).1 hx))
    rw [if_pos hx,if_pos hpv];refine qpy h hms r (i+1) _ _ _ hd2 (fun u hne=>?_) hp2;rw [hh u hne,hstep];constructor
    ·exact .inl
    ·rintro (h1|h1)
     ·exact h1
     ·subst h1
      exact(hh _ hu).1 hx
   ·have hpv : ¬ pv=some f.un:=fun e=>hx ((hh _ hu).2 ((qg9 hm hf hu).2 ((hp _).1 e)))
    rw [if_neg hx,if_neg hpv]
    have hl:qcg (qa6 s) 2 (m.name ++ 58 :: f.un)=(ofZ (qa6 s) (m.name ++ 58 :: f.un)).name:=by
     obtain⟨d,_,_,_,_,h1,h2⟩:=look h (wh_union hms (unions_mem.2 ⟨hu,f,List.mem_of_getElem? hf,rfl⟩));rw [h1,h2]
    rw [hl];refine qpy h hms r (i+1) _ _ _ hd2 (fun u hne=>?_) hp2;rw [hstep, ←hh u hne,has_mem,has_mem];simp [eq_comm]
theorem qpx {s:PSchema} (h:valid s=true) {m:PMsg} (hm:m ∈ s.msgs):qdp (qa6 s) m=recR (qa6 s) m:=by
 refine qpy h hm m.fields 0 [] [] none (by simp) (fun u _=>?_) (fun u=>?_)
 ·simp [Id.has]
 ·simp
theorem ch_eq {s:PSchema} (h:valid s=true) (u:Str) : ∀(l:List PField) (out:List PMem),(∀f ∈ l,typed s f=true)->chGo (qa6 s) u out l=chRGo (qa6 s) u out l
 | [],out,_=>rfl
 | f :: r,out,hl=>by
  unfold chGo chRGo;rw [elem_eq h (hl f (List.mem_cons_self ..))];exact ch_eq h u r _ (fun g hg=>hl g (List.mem_cons_of_mem _ hg))
theorem qqr {s:PSchema} (h:valid s=true) {m:PMsg} (hm:m ∈ s.msgs) : ∀f ∈ m.fields,typed s f=true:=fun f hf=>by
 obtain⟨i,hi⟩:=List.mem_iff_getElem?.1 hf;exact((qqa h hm).fld i f hi).ty
theorem qr5 {s:PSchema} (h:valid s=true) {m:PMsg} (hm:m ∈ s.msgs) (u:Str):qdk (qa6 s) m u=chR (qa6 s) m u:=ch_eq h u _ _ (qqr h hm)
theorem cl_eq {s:PSchema} (h:valid s=true) : ∀(l:List PMeth) (i:Nat) (out:List PMem),(∀f ∈ l,(msgOf s f.inn).isSome=true/\(msgOf s f.out).isSome=true)->clGo (qa6 s) i out l=clRGo (qa6 s) i out l
 | [],i,out,_=>rfl
 | f :: r,i,out,hl=>by
  unfold clGo clRGo qfv;have:=hl f (List.mem_cons_self ..);rw [qjh h this.1,qjh h this.2];exact cl_eq h r _ _ (fun g hg=>hl g (List.mem_cons_of_mem _ hg))
theorem qho {α β:Type} {f g:α->List β} : ∀{l:List α},(∀x ∈ l,f x=g x)->l.flatMap f=l.flatMap g
 | [],_=>rfl
 | a :: l,h=>by rw [List.flatMap_cons,List.flatMap_cons,h a (List.mem_cons_self ..),qho (fun x hx=>h x (List.mem_cons_of_mem _ hx))]
def qnp (D:List PDecl) (m:PMsg):List (Str × List PMem):=(m.name,qdp D m) :: (qbt m).map (fun u=>(m.name ++ 58 :: u,qdk D m u))
def pairs (D:List PDecl) (s:PSchema):List (Str × List PMem):=s.msgs.flatMap (qnp D) ++ s.enums.map (fun e=>(e.name,items e)) ++ s.svcs.map (fun v=>(v.name,qcy D v))
theorem qks (D:List PDecl) (s:PSchema):(pairs D s).map (·.1)=(whats s).map (·.2):=by
 unfold pairs whats;simp only [List.map_append,List.map_flatMap,List.map_map]
 congr 2
 refine qho fun m _=>?_
 unfold qnp qf4;simp
theorem qkr (D:List PDecl) (s:PSchema):(pairs D s).map (·.2)=qh9 D s:=by
 unfold pairs qh9;simp only [List.map_append,List.map_flatMap,List.map_map]
 congr 2
 refine qho fun m _=>?_
 unfold qnp memsM;simp
theorem zip_of (E:List PDecl) : ∀(D:List PDecl) (P:List (Str × List PMem)),D.map (·.frm)=P.map (·.1)->(∀d ∈ D,ofZ E d.frm=d)->List.zipWith withM D (P.map (·.2))=P.map (fun p=>withM (ofZ E p.1) p.2)
 | [],[],_,_=>rfl
 | [],p :: P,h,_=>by simp at h
 | d :: D,[],h,_=>by simp at h
 | d :: D,p :: P,h,hd=>by
  have h2:=List.cons.inj (show d.frm :: D.map (·.frm)=p.1 :: P.map (·.1)from h);rw [List.map_cons,List.map_cons,List.zipWith_cons_cons,zip_of E D P h2.2 (fun x hx=>hd x (List.mem_cons_of_mem _ hx)), ←h2.1,hd d (List.mem_cons_self ..)]
theorem qij {s:PSchema} (h:valid s=true):make s=(pairs (qa6 s) s).map (fun p=>withM (ofZ (qa6 s) p.1) p.2):=by
 unfold make;rw [←qkr];refine zip_of _ _ _ ?_ (fun d hd=>?_)
 ·rw [qks,qo8,qcp]
 ·have hn:((qa6 s).map (·.frm)).Nodup:=by rw [qo8,qcp];exact qgp h
  unfold ofZ ofD;rw [qjr (·.frm) _ d hn hd];rfl
theorem qfp (s:PSchema) : ∀d ∈ qa6 s,d.mems=[]:=by
 have ha : ∀(D:List PDecl) k n f,(∀d ∈ D,d.mems=[])->∀d ∈ addD D k n f,d.mems=[]:=fun D k n f h d hd=>by
  unfold addD at hd;rcases List.mem_append.1 hd with hd|hd
  ·exact h d hd
  ·have:d=⟨k,qbl (D.map (·.name)) n,f,[]⟩:=by simpa using hd
   rw [this]
 have hc : ∀(nm m:Str) (l:List Str) (D:List PDecl),(∀d ∈ D,d.mems=[])->∀d ∈ qau nm m D l,d.mems=[]:=fun nm m l=>by
  induction l with
  | nil=>intro D h;exact h
  | cons u r ih=>intro D h;exact ih _ (ha _ _ _ _ h)
 have hf : ∀{α:Type} (F:List PDecl->α->List PDecl),(∀D a,(∀d ∈ D,d.mems=[])->∀d ∈ F D a,d.mems=[])->∀(l:List α) (D:List PDecl),(∀d ∈ D,d.mems=[])->∀d ∈ l.foldl F D,d.mems=[]:=fun F hF l=>by
  induction l with
  | nil=>intro D h;exact h
  | cons a r ih=>intro D h;exact ih _ (hF _ _ h)
 exact hf svcD (fun D a h=>ha _ _ _ _ h) _ _ (hf enumD (fun D a h=>ha _ _ _ _ h) _ _ (hf msgD (fun D m h=>hc _ _ _ _ (ha _ _ _ _ h)) _ _ (fun d hd=>by cases hd)))
theorem make_eq {s:PSchema} (h:valid s=true):make s=makeR s:=by
 rw [qij h];unfold pairs makeR;rw [List.map_append,List.map_append,List.map_flatMap,List.map_map,List.map_map]
 have hz : ∀{k:Int} {f:Str},(k,f) ∈ whats s->(ofZ (qa6 s) f).mems=[]:=fun hw=>by
  obtain⟨d,hd,_,_,_,_,e⟩:=look h hw;rw [e];exact qfp s d hd
 congr 1
 ·congr 1
  ·refine qho fun m hm=>?_
   unfold qnp msgR;rw [List.map_cons,List.map_map,qpx h hm]
   congr 1
   refine List.map_congr_left fun u _=>?_
   show withM _ (qdk _ m u)=_
   rw [qr5 h hm]
  ·refine List.map_congr_left fun e he=>?_
   show withM _ (items e)=enumR _ e
   unfold enumR items;rw [hz (wh_enum he)]
 ·refine List.map_congr_left fun v hv=>?_
  show withM _ (qcy _ v)=svcR _ v
  unfold svcR qcy;rw [hz (wh_svc hv),cl_eq h _ _ _ (fun f hf=>((qpk h hv).me f hf).2)]
end Go.Proofs.YtfoaaglbpmmhiaaGreatDoor.Md
namespace Go.Proofs.YtfoaaglbpmmhiaaGreatDoor.Md
open Ck
theorem zw_map {β:Type} (F:PDecl->β) (hF : ∀d l,F (withM d l)=F d) : ∀(D:List PDecl) (M:List (List PMem)),D.length=M.length->(List.zipWith withM D M).map F=D.map F
 | [],M,_=>by simp
 | d :: D,[],h=>by simp at h
 | d :: D,m :: M,h=>by
  rw [List.zipWith_cons_cons,List.map_cons,List.map_cons,hF,zw_map F hF D M (by simpa using h)]
theorem qny (s:PSchema):(qa6 s).length=(qh9 (qa6 s) s).length:=by
 rw [←List.length_map (f:=wh),qcp, ←qkr,List.length_map, ←List.length_map (f:=fun x:Str × List PMem=>x.1),qks,List.length_map]
theorem make_map {β:Type} (F:PDecl->β) (hF : ∀d l,F (withM d l)=F d) (s:PSchema):(make s).map F=(qa6 s).map F:=zw_map F hF _ _ (qny s)
def pr (x:PMem):Int × Str:=(x.num,x.ty)
theorem addM_pr (l:List PMem) (n ty:Str) (k:Int):(addM l n ty k).map pr=l.map pr ++ [(k,ty)]:=by unfold addM;rw [List.map_append];rfl
theorem itGo_pr : ∀(r:List PItem) (out:List PMem),(itGo out r).map pr=out.map pr ++ r.map fun x=>(x.num,([]:Str))
 | [],out=>by simp [itGo]
 | f :: r,out=>by
  unfold itGo;rw [itGo_pr r,addM_pr];simp
theorem qqm (e:PEnum):(items e).length=e.items.length:=by
 have:=congrArg List.length (itGo_pr e.items []);unfold items
 simpa using this
def clP (D:List PDecl):Nat->List PMeth->List (Int × Str)
 | _,[] => []
 | i,m :: r=>((i:Int),qfv D m) :: clP D (i+1) r
theorem qop (D:List PDecl) : ∀(r:List PMeth) (i:Nat) (out:List PMem),(clRGo D i out r).map pr=out.map pr ++ clP D i r
 | [],i,out=>by simp [clRGo,clP]
 | f :: r,i,out=>by
  unfold clRGo clP;rw [qop D r,addM_pr];simp
theorem qqz {s:PSchema} (h:valid s=true) {v:PSvc} (hv:v ∈ s.svcs):qcy (qa6 s) v=clRGo (qa6 s) 0 [] v.meths:=cl_eq h _ _ _ (fun f hf=>((qpk h hv).me f hf).2)
theorem qon {s:PSchema} (h:valid s=true) {v:PSvc} (hv:v ∈ s.svcs):(qcy (qa6 s) v).length=v.meths.length:=by
 have h1:=congrArg List.length (qop (qa6 s) v.meths 0 [])
 have h2 : ∀(r:List PMeth) (i:Nat),(clP (qa6 s) i r).length=r.length:=by
  intro r
  induction r with
  | nil=>intro i;rfl
  | cons a r ih=>intro i;unfold clP;rw [List.length_cons,List.length_cons,ih]
 rw [qqz h hv]
 simpa [h2]using h1
end Go.Proofs.YtfoaaglbpmmhiaaGreatDoor.Md
namespace Go.Proofs.YtfoaaglbpmmhiaaGreatDoor
open Go.RowKit Ck Md
def memC (m:PMem):List Value:=[.string (S m.name),.string (S m.ty),.int .i64 m.num]
def VMem (w:World) (vs:List Value) (m:PMem):Prop:=vs=memC m
theorem VMem.stays:Stays VMem:=fun _ _ _ _ _ h=>h
def Mems:=Sv 3 VMem
def VDecl (w:World) (vs:List Value) (d:PDecl):Prop := ∃mv,vs=[.int .i64 d.kind,.string (S d.name),.string (S d.frm),mv]/\Mems w mv d.mems
theorem VDecl.stays:Stays VDecl:=fun _ _ _ _ k ⟨mv,h1,h2⟩=>⟨mv,h1,h2.bel VMem.stays k⟩
def Decls:=Sv 4 VDecl
def outC:List PDecl->List Value->List Value
 | [],_ => []
 | d :: D,[] => [.int .i64 d.kind,.string (S d.name),.string (S d.frm),.slice none 0 0] ++ outC D []
 | d :: D,v :: M => [.int .i64 d.kind,.string (S d.name),.string (S d.frm),v] ++ outC D M
def whC (d:PDecl):List Value:=[.int .i64 d.kind,.string (S d.frm)]
def nmC (l:List Str):List Value:=l.map fun s=>.string (S s)
end Go.Proofs.YtfoaaglbpmmhiaaGreatDoor
