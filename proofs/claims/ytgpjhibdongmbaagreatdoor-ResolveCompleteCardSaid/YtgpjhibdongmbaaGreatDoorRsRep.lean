import Derived.Test.YtgpjhibdongmbaaGreatDoorIdRef1
import Derived.Laws.Tables
import Derived.Deep.WholeRow
import Derived.Laws.CopyRow
import Derived.Shelf.SlicesQ.Load
import Derived.Test.YtgpjhibdongmbaaGreatDoorStillL
import Derived.Deep.RegionHeld3
set_option maxRecDepth 100000
set_option maxHeartbeats 4000000
set_option linter.unusedVariables false
set_option linter.unusedSimpArgs false
namespace Go.Proofs.YtgpjhibdongmbaaGreatDoor
section
open Go.RowKit
structure Row where
 e:TypeId
 z:Nat
 v:Value
 n:Nat
 xs:List Value
structure Box where
 g:Nat
 cs:Array Value
 T:TypeId
def qax (R:List Row) (X:List Box):List Nat:=R.filterMap (fun r=>r.v.ownBlock) ++ X.map Box.g
structure ST (w0:World) (R:List Row) (X:List Box) (w:World):Prop where
 bel:Bel w0 w
 rows : ∀r ∈ R,w.ownsRow w0.heap.size r.e r.z r.v r.n r.xs
 boxes : ∀b ∈ X,w0.heap.size<=b.g/\w.heap[b.g]? = some (.cells b.cs b.T (0,0))
 nd:(qax R X).Nodup
theorem qd1 {α:Type} : ∀(l:List α) (i:Nat) (x:α),l[i]? = some x->∀y,l.Perm (x :: l.eraseIdx i)/\(l.set i y).Perm (y :: l.eraseIdx i)
 | [],i,x,h,y=>by simp at h
 | a :: l,0,x,h,y=>by
  have:a=x:=by simpa using h
  subst this;exact⟨List.Perm.refl _,List.Perm.refl _⟩
 | a :: l,i+1,x,h,y=>by
  have ih:=qd1 l i x (by simpa using h) y;exact⟨(List.Perm.cons a ih.1).trans (List.Perm.swap x a _),(List.Perm.cons a ih.2).trans (List.Perm.swap y a _)⟩
theorem qcx {r:Row} {R:List Row} {X:List Box} (h:r.v.ownBlock=none):qax (r :: R) X=qax R X:=by
 unfold qax;rw [List.filterMap_cons,h]
theorem qcb {r:Row} {R:List Row} {X:List Box} {g:Nat} (h:r.v.ownBlock=some g):qax (r :: R) X=g :: qax R X:=by
 unfold qax;rw [List.filterMap_cons,h];rfl
theorem qdw {r:Row} {R:List Row} {X:List Box} {g:Nat} (hr:r ∈ R) (h:r.v.ownBlock=some g):g ∈ qax R X:=List.mem_append_left _ (List.mem_filterMap.2 ⟨r,hr,h⟩)
theorem qdx {b:Box} {R:List Row} {X:List Box} (hb:b ∈ X):b.g ∈ qax R X:=List.mem_append_right _ (List.mem_map.2 ⟨b,hb,rfl⟩)
section
variable {w0 w w' : World} {R R' : List Row} {X X' : List Box} {r : Row} {b : Box}
theorem ST.start (w:World):ST w [] [] w:=⟨Bel.refl _,fun r h=>(by cases h),fun b h=>(by cases h),List.nodup_nil⟩
theorem ST.perm (h:ST w0 R X w) (hR:R.Perm R') (hX:X.Perm X'):ST w0 R' X' w:=
 ⟨h.bel,fun r hr=>h.rows r (hR.mem_iff.2 hr),fun b hb=>h.boxes b (hX.mem_iff.2 hb),((hR.filterMap _).append (hX.map _)).nodup_iff.1 h.nd⟩
theorem ST.lt (h:ST w0 R X w) : ∀k ∈ qax R X,k<w.heap.size:=fun k hk=>by
 rcases List.mem_append.1 hk with hk|hk
 ·obtain⟨r,hr,he⟩:=List.mem_filterMap.1 hk
  exact((h.rows r hr).lt k he).2
 ·obtain⟨b,hb,rfl⟩:=List.mem_map.1 hk
  exact(Array.getElem?_eq_some_iff.1 (h.boxes b hb).2).1
theorem ST.belw (h:ST w0 R X w) (k:Bel w w'):ST w0 R X w':=
 ⟨Bel.of h.bel k,fun r hr=>row_bel (h.rows r hr) k,fun b hb=>⟨(h.boxes b hb).1,(Below.block k b.g (Array.getElem?_eq_some_iff.1 (h.boxes b hb).2).1).trans (h.boxes b hb).2⟩,h.nd⟩
theorem ST.head_ne (h:ST w0 (r :: R) X w) : ∀k ∈ qax R X,some k ≠ r.v.ownBlock:=fun k hk e=>by
 have hn:=h.nd;rw [qcb e.symm]at hn;exact(List.nodup_cons.1 hn).1 hk
theorem ST.tail_nd (h:ST w0 (r :: R) X w):(qax R X).Nodup:=by
 have hn:=h.nd;cases e:r.v.ownBlock with
 | none=>rwa [qcx e]at hn
 | some g=>rw [qcb e]at hn;exact(List.nodup_cons.1 hn).2
theorem ST.droprow0 (h:ST w0 (r :: R) X w):ST w0 R X w:=⟨h.bel,fun s hs=>h.rows s (List.mem_cons_of_mem _ hs),h.boxes,h.tail_nd⟩
theorem ST.grow0 {v':Value} {n':Nat} {xs':List Value} (h:ST w0 (r :: R) X w) (hg:w.grownBy w' r.v.ownBlock) (hown:w'.ownsRow w0.heap.size r.e r.z v' n' xs') (hf : ∀g,v'.ownBlock=some g->r.v.ownBlock=some g ∨ w.heap.size<=g) :
  ST w0 (⟨r.e,r.z,v',n',xs'⟩ :: R) X w':=by
 refine⟨Below.grown h.bel hg h.bel.size (fun k hk=>((h.rows r (List.mem_cons_self ..)).lt k hk).1),fun s hs=>?_,fun b hb=>⟨(h.boxes b hb).1,?_⟩,?_⟩
 ·rcases List.mem_cons.1 hs with rfl|hs
  ·exact hown
  ·refine(h.rows s (List.mem_cons_of_mem _ hs)).kept hg ?_
   cases e:s.v.ownBlock with
   | none=>exact .inl rfl
   | some g=>exact .inr (h.head_ne g (qdw hs e))
 ·have hb2:=(h.boxes b hb).2
  exact(hg.block b.g (Array.getElem?_eq_some_iff.1 hb2).1 (h.head_ne b.g (qdx hb))).trans hb2
 ·have htl:=h.tail_nd
  have hlt:=h.droprow0.lt;cases e:v'.ownBlock with
  | none=>rw [qcx e];exact htl
  | some g=>
   rw [qcb e];refine List.nodup_cons.2 ⟨fun hm=>?_,htl⟩;rcases hf g e with e2|e2
   ·exact h.head_ne g hm e2.symm
   ·have:=hlt g hm
    omega
theorem ST.addrow {e:TypeId} {z n:Nat} {v:Value} {xs:List Value} (h:ST w0 R X w) (k:Bel w w') (hown:w'.ownsRow w.heap.size e z v n xs):ST w0 (⟨e,z,v,n,xs⟩ :: R) X w':=by
 have h2:=h.belw k;refine⟨h2.bel,fun s hs=>?_,h2.boxes,?_⟩
 ·rcases List.mem_cons.1 hs with rfl|hs
  ·exact qm4 hown h.bel.size
  ·exact h2.rows s hs
 ·cases e:v.ownBlock with
  | none=>rw [qcx e];exact h.nd
  | some g=>
   rw [qcb e];refine List.nodup_cons.2 ⟨fun hm=>?_,h.nd⟩;have:=h.lt g hm;have:=(hown.lt g e).1;omega
theorem ST.nilrow (h:ST w0 R X w) (e:TypeId) (z:Nat):ST w0 (⟨e,z,.slice none 0 0,0,[]⟩ :: R) X w:=h.addrow (Bel.refl _) (World.ownsRow_nil _ _ _ _)
theorem ST.addbox (h:ST w0 R X w) (cs:Array Value) (T:TypeId):ST w0 R (⟨w.heap.size,cs,T⟩ :: X) (w.alloc (.cells cs T)):=by
 have h2:=h.belw ((Bel.refl w).alloc (.cells cs T));refine⟨h2.bel,h2.rows,fun b hb=>?_,?_⟩
 ·rcases List.mem_cons.1 hb with rfl|hb
  ·exact⟨h.bel.size,heap_alloc_new _ _⟩
  ·exact h2.boxes b hb
 ·have hp:(qax R (⟨w.heap.size,cs,T⟩ :: X)).Perm (w.heap.size :: qax R X):=List.perm_middle
  refine hp.nodup_iff.2 (List.nodup_cons.2 ⟨fun hm=>?_,h.nd⟩);have:=h.lt _ hm;omega
theorem ST.box_ne (h:ST w0 R (b :: X) w):(∀k ∈ qax R X,k ≠ b.g)/\(qax R X).Nodup:=by
 have hp:(qax R (b :: X)).Perm (b.g :: qax R X):=List.perm_middle;have hn:=List.nodup_cons.1 (hp.nodup_iff.1 h.nd);exact⟨fun k hk e=>hn.1 (e ▸ hk),hn.2⟩
theorem ST.dropbox0 (h:ST w0 R (b :: X) w):ST w0 R X w:=⟨h.bel,h.rows,fun c hc=>h.boxes c (List.mem_cons_of_mem _ hc),h.box_ne.2⟩
theorem ST.setbox0 (h:ST w0 R (b :: X) w) (o:Nat) (v:Value):ST w0 R (⟨b.g,b.cs.setIfInBounds o v,b.T⟩ :: X) (w.setCell ⟨b.g,o,none⟩ v):=by
 have hb:=h.boxes b (List.mem_cons_self ..);have hg:=qd3 w b.g o v;refine⟨qc4 h.bel hb.1,fun s hs=>?_,fun c hc=>?_,h.nd⟩
 ·refine(h.rows s hs).kept hg ?_
  cases e:s.v.ownBlock with
  | none=>exact .inl rfl
  | some g=>exact .inr fun e2=>h.box_ne.1 g (qdw hs e) (by injection e2)
 ·rcases List.mem_cons.1 hc with rfl|hc
  ·exact⟨hb.1,heap_setCell_same w b.g o _ _ v hb.2⟩
  ·have h2:=h.boxes c (List.mem_cons_of_mem _ hc)
   exact⟨h2.1,(Below.heap_setCell _ _ _ _ (h.box_ne.1 c.g (qdx hc))).trans h2.2⟩
theorem own_set {B:Nat} {e:TypeId} {z n g c:Nat} {xs:List Value} (h:w.ownsRow B e z (.slice (some ⟨g,0,none⟩) n c) n xs) (o:Nat) (v:Value):(w.setCell ⟨g,o,none⟩ v).ownsRow B e z (.slice (some ⟨g,0,none⟩) n c) n (xs.set o v):=by
 refine⟨by rw [List.length_set];exact h.1,?_⟩;rcases h.2 with⟨h1,_⟩|⟨g',cap,cur,h1,h2,h3,h4,h5,h6,h7⟩
 ·cases h1
 ·cases h1
  refine .inr ⟨g,c,cur.setIfInBounds o v,rfl,h2,heap_setCell_same w g o cur e v h3,h4,h5,by simpa using h6,?_⟩;rw [←h7,Array.toList_setIfInBounds,List.take_set]
theorem ST.setrow0 {g c:Nat} (h:ST w0 (r :: R) X w) (hv:r.v=.slice (some ⟨g,0,none⟩) r.n c) (o:Nat) (v:Value):ST w0 (⟨r.e,r.z,r.v,r.n,r.xs.set o v⟩ :: R) X (w.setCell ⟨g,o,none⟩ v):=by
 obtain⟨e,z,v0,n,xs⟩:=r;have hv':v0=.slice (some ⟨g,0,none⟩) n c:=hv;subst hv';have h0:w.ownsRow w0.heap.size e z (.slice (some ⟨g,0,none⟩) n c) n xs:=h.rows _ (List.mem_cons_self ..);exact h.grow0 (qd3 w g o v) (own_set h0 o v) (fun k hk=>.inl hk)
theorem ST.swapX {a:Box} (h:ST w0 R (a :: b :: X) w):ST w0 R (b :: a :: X) w:=h.perm (List.Perm.refl _) (List.Perm.swap b a X)
theorem ST.to0 (h:ST w0 R X w) (i:Nat) (hi:R[i]? = some r):ST w0 (r :: R.eraseIdx i) X w:=h.perm (qd1 R i r hi r).1 (List.Perm.refl _)
theorem ST.of0 (i:Nat) (hi:R[i]? = some r) {s:Row} (h:ST w0 (s :: R.eraseIdx i) X w):ST w0 (R.set i s) X w:=h.perm (qd1 R i r hi s).2.symm (List.Perm.refl _)
theorem ST.grow {v':Value} {n':Nat} {xs':List Value} (h:ST w0 R X w) (i:Nat) (hi:R[i]? = some r) (hg:w.grownBy w' r.v.ownBlock) (hown:w'.ownsRow w0.heap.size r.e r.z v' n' xs') (hf : ∀g,v'.ownBlock=some g->r.v.ownBlock=some g ∨ w.heap.size<=g) :
  ST w0 (R.set i ⟨r.e,r.z,v',n',xs'⟩) X w':=ST.of0 i hi ((h.to0 i hi).grow0 hg hown hf)
theorem ST.setrow {g c:Nat} (h:ST w0 R X w) (i:Nat) (hi:R[i]? = some r) (hv:r.v=.slice (some ⟨g,0,none⟩) r.n c) (o:Nat) (v:Value):ST w0 (R.set i ⟨r.e,r.z,r.v,r.n,r.xs.set o v⟩) X (w.setCell ⟨g,o,none⟩ v):=
 ST.of0 i hi ((h.to0 i hi).setrow0 hv o v)
theorem ST.setbox (h:ST w0 R X w) (j:Nat) (hj:X[j]? = some b) (o:Nat) (v:Value):ST w0 R (X.set j ⟨b.g,b.cs.setIfInBounds o v,b.T⟩) (w.setCell ⟨b.g,o,none⟩ v):=
 ((h.perm (List.Perm.refl _) (qd1 X j b hj b).1).setbox0 o v).perm (List.Perm.refl _) (qd1 X j b hj _).2.symm
theorem ST.row (h:ST w0 R X w) (i:Nat) (hi:R[i]? = some r):w.ownsRow w0.heap.size r.e r.z r.v r.n r.xs:=h.rows r (List.mem_of_getElem? hi)
theorem ST.box (h:ST w0 R X w) (j:Nat) (hj:X[j]? = some b):w.heap[b.g]? = some (.cells b.cs b.T (0,0)):=(h.boxes b (List.mem_of_getElem? hj)).2
theorem ST.boxlt (h:ST w0 R X w) (j:Nat) (hj:X[j]? = some b):w0.heap.size<=b.g/\b.g<w.heap.size:=⟨(h.boxes b (List.mem_of_getElem? hj)).1,(Array.getElem?_eq_some_iff.1 (h.box j hj)).1⟩
theorem ST.cell (h:ST w0 R X w) (j:Nat) (hj:X[j]? = some b) (o:Nat):w.cell? ⟨b.g,o,none⟩=b.cs[o]?:=Lib.cell_of_heap (h.box j hj) o
theorem ST.frz (h:ST w0 R X w) (j:Nat) (hj:X[j]? = some b) (o:Nat):w.frozen? ⟨b.g,o,none⟩=false:=Lib.frozen_of_heap (h.box j hj) o
theorem ST.rowcell {g c n:Nat} (h:ST w0 R X w) (i:Nat) (hi:R[i]? = some r) (hv:r.v=.slice (some ⟨g,0,none⟩) n c) (j:Nat) (u:Value) (hu:r.xs[j]? = some u):w.cell? ⟨g,j,none⟩=some u:=by
 have h0:=h.row i hi;rw [hv]at h0;have:=h0.cells (g:=g) rfl j u hu;rw [Addr.add_lit,Nat.zero_add]at this;exact this
theorem ST.rowfrz {g c n:Nat} (h:ST w0 R X w) (i:Nat) (hi:R[i]? = some r) (hv:r.v=.slice (some ⟨g,0,none⟩) n c) (j:Nat):w.frozen? ⟨g,j,none⟩=false:=by
 have h0:=h.row i hi;rw [hv]at h0;rcases h0.2 with⟨h1,_⟩|⟨g',cap,cur,h1,_,h3,_⟩
 ·cases h1
 ·cases h1
  exact Lib.frozen_of_heap h3 j
theorem ST.rest {n:Nat} : ∀{R1:List Row},ST w0 (R1 ++ R) X w->ST w0 R X w
 | [],h=>h
 | r :: R1,h=>ST.rest (R1:=R1) (n:=n) (ST.droprow0 (r:=r) (R:=R1 ++ R) h)
end
theorem qgz {α:Type} {V:World->List Value->α->Prop} {w:World} {B:Nat} {e:TypeId} {z:Nat} {v:Value} {l:List α} (C:α->List Value) (hC : ∀x,(C x).length=z) (h:w.ownsRow B e z v l.length (l.flatMap C)) (hl:l.length<=140737488355328) (hV : ∀x ∈ l,V w (C x) x):Sv z V w v l:=by
 rcases h.2 with⟨rfl,h0⟩|⟨g,cap,cur,rfl,h1,h2,h3,h4,h5,h6⟩
 ·have:l=[]:=List.length_eq_zero_iff.1 h0
  subst this;exact Sl.nil _ _ _ _ _
 ·refine⟨_,cap,rfl,hl,h3,fun i x hx=>⟨g,0,rfl,(Array.getElem?_eq_some_iff.1 h2).1,C x,fun j u hu=>?_,hV x (List.mem_of_getElem? hx)⟩⟩
  ·have hj:j<z:=by
    have:=(List.getElem?_eq_some_iff.1 hu).1;rwa [hC]at this
   have hfl : ∀(l:List α) (i:Nat),l[i]? = some x->(l.flatMap C)[i*z+j]? = some u:=by
    intro l
    induction l with
    | nil=>intro i h;simp at h
    | cons a l ih=>
     intro i hi;rw [List.flatMap_cons];cases i with
     | zero=>
      have:a=x:=by simpa using hi
      subst this;rw [Nat.zero_mul,Nat.zero_add,List.getElem?_append_left (by rw [hC];exact hj)];exact hu
     | succ i=>
      rw [List.getElem?_append_right (by rw [hC,Nat.succ_mul];omega),hC,Nat.succ_mul,show i*z+z+j-z=i*z+j by omega];exact ih i (by simpa using hi)
   have:=h.cells (g:=g) rfl (i*z+j) u (hfl l i hx);rw [Addr.add_lit]at this
   simpa using this
end
section
open Go.RowKit
theorem qgk (w:World) (g:Nat) (cs:Array Value):w.grownBy (w.setRow g cs) (some g):=
 ⟨rfl,rfl,rfl,by simp,fun k hk hne=>setRow_other w g k cs (fun e=>hne (by rw [e]))⟩
theorem ST.setrowbox0 {w0 w:World} {R:List Row} {X:List Box} {b:Box} (h:ST w0 R (b :: X) w) (cs:Array Value):ST w0 R (⟨b.g,cs,b.T⟩ :: X) (w.setRow b.g cs):=by
 have hb:=h.boxes b (List.mem_cons_self ..);have hg:=qgk w b.g cs;refine⟨Below.grown h.bel hg h.bel.size (fun k hk=>by cases hk;exact hb.1),fun s hs=>?_,fun c hc=>?_,h.nd⟩
 ·refine(h.rows s hs).kept hg ?_
  cases e:s.v.ownBlock with
  | none=>exact .inl rfl
  | some g=>exact .inr fun e2=>h.box_ne.1 g (qdw hs e) (by injection e2)
 ·rcases List.mem_cons.1 hc with rfl|hc
  ·exact⟨hb.1,setRow_heap w b.g _ _ _ _ hb.2⟩
  ·have h2:=h.boxes c (List.mem_cons_of_mem _ hc)
   exact⟨h2.1,(setRow_other w b.g c.g cs (h.box_ne.1 c.g (qdx hc))).trans h2.2⟩
theorem ST.setrowbox {w0 w:World} {R:List Row} {X:List Box} {b:Box} (h:ST w0 R X w) (j:Nat) (hj:X[j]? = some b) (cs:Array Value):ST w0 R (X.set j ⟨b.g,cs,b.T⟩) (w.setRow b.g cs):=
 ((h.perm (List.Perm.refl _) (qd1 X j b hj b).1).setrowbox0 cs).perm (List.Perm.refl _) (qd1 X j b hj _).2.symm
section
variable {P : Program} {ops : Array Oper} {rest : List Oper} {o : Oper} {a : Act} {w : World} {Q : Exit → Act → World → Prop}
theorem qa6 (hgd:o.guard=none) (ty:TypeId) (x y:Operand) (ho:o.op=.store ty x y) (g:Nat) (cells old:Array Value) (t:TypeId) (hx:a.eval x=.pointer (some ⟨g,0,none⟩)) (hy:a.eval y=.agg cells) (hg:w.heap[g]? = some (.cells old t (0,0))) (hi:(P.info? ty).map (·.size)=some cells.size) (hold:old.size=cells.size) (h1:cells.all (·.oneCell')=true)
  (h:wpList P ops Q rest (a.put o.dst undef) (w.setRow g cells)):wpList P ops Q (o :: rest) a w:=
 wpList_plain hgd fun K hK=>wp_store_row ty x y ho g cells hx hy t old hg hi hold h1 (hK _ _ h)
theorem qb9 {old:Array Value} {t:TypeId} (hgd:o.guard=none) (ty:TypeId) (x y:Operand) (ho:o.op=.store ty x y) (w1:World) (hw:w=w1.alloc (.cells old t)) (g:Nat) (hgw:w1.heap.size=g) (cells:Array Value) (hx:a.eval x=.pointer (some ⟨g,0,none⟩)) (hy:a.eval y=.agg cells) (hi:(P.info? ty).map (·.size)=some cells.size) (hold:old.size=cells.size) (h1:cells.all (·.oneCell')=true)
  (h:wpList P ops Q rest (a.put o.dst undef) (w1.alloc (.cells cells t))):wpList P ops Q (o :: rest) a w:=by
 subst hw hgw;refine qa6 hgd ty x y ho w1.heap.size cells old t hx hy (heap_alloc_new _ _) hi hold h1 ?_;rw [World.setRow_alloc_new];exact h
end
end
section
open Go.RowKit Ck Rs
theorem qki {α:Type} (f:α->Str) (l:List α) (k:Nat) (h:k<l.length):((List.range' k (l.length-k)).all fun i=>newAt f l i)=(newAt f l k && (List.range' (k+1) (l.length-(k+1))).all fun i=>newAt f l i):=by
 rw [show l.length-k=(l.length-(k+1))+1 by omega,List.range'_succ,List.all_cons]
theorem qhi {α:Type} (f:α->Str) (l:List α):((List.range' 0 (l.length-0)).all fun i=>newAt f l i)=Rs.apart f l:=by
 unfold Rs.apart;rw [List.range_eq_range',Nat.sub_zero]
theorem new_end {α:Type} (f:α->Str) (l:List α) (k:Nat) (h:l.length<=k):((List.range' k (l.length-k)).all fun i=>newAt f l i)=true:=by
 rw [show l.length-k=0 by omega];rfl
theorem new_get {α:Type} (f:α->Str) (l:List α) (k:Nat) (x:α) (h:l[k]? = some x):newAt f l k = !((l.take k).any fun y=>decide (f y=f x)):=by
 unfold newAt;rw [h]
theorem qgy {α:Type} (xs:List α) (i j:Nat) (x:α) (h:(xs.take i)[j]? = some x):xs[j]? = some x:=by
 rw [List.getElem?_take]at h
 split at h
 ·exact h
 ·cases h
theorem qdu (xn:Str) (xu:Int) (xq:Option Addr) (xm xc:Nat) (W:World):Calls Tryz.prog 138 #[.agg #[.string (S xn),.int .i64 xu,.slice xq xm xc]] W fun e w'=>e=.returned (.string (S xn))/\Below W.heap.size W w':=by
 go_enter Tryz.func138,Tryz.ntmps138
 go_wp2;go_ret
 exact⟨rfl,(Below.refl _ _).alloc (Nat.le_refl _) _⟩
theorem ql4 (xn:Str) (xu:Int) (xq:Option Addr) (xm xc:Nat) (yn:Str) (yu:Int) (yq:Option Addr) (ym yc:Nat) (B1 B2:Nat) (W:World) (h1:W.cell? ⟨B1,0,none⟩=some (.func (.func 138) #[] #[]))
  (y_0:W.cell? ⟨B2,0,none⟩=some (.string (S yn))) (y_1:W.cell? ⟨B2,1,none⟩=some (.int .i64 yu)) (y_2:W.cell? ⟨B2,2,none⟩=some (.slice yq ym yc)) :
  Calls Tryz.prog 179 #[.agg #[.string (S xn),.int .i64 xu,.slice xq xm xc],.pointer (some ⟨B1,0,none⟩),.pointer (some ⟨B2,0,none⟩)] W fun e w'=>e=.returned (.bool (decide (xn=yn)))/\Below W.heap.size W w':=by
 have hv:=Lib.hid (eq_S xn yn)
 have hk : ∀w',Bel (W.alloc (.cells #[.string (S xn),.int .i64 xu,.slice xq xm xc] 86)) w'->w'.cell? ⟨B1,0,none⟩=some (.func (.func 138) #[] #[])/\w'.cell? ⟨B2,0,none⟩=some (.string (S yn))/\w'.cell? ⟨B2,1,none⟩=some (.int .i64 yu)/\w'.cell? ⟨B2,2,none⟩=some (.slice yq ym yc)/\w'.cell? ⟨W.heap.size,0,none⟩=some (.string (S xn))/\w'.cell? ⟨W.heap.size,1,none⟩=some (.int .i64 xu)/\w'.cell? ⟨W.heap.size,2,none⟩=some (.slice xq xm xc):=fun w' hb=>by
  have ho : ∀(g o:Nat) (v:Value),W.cell? ⟨g,o,none⟩=some v->w'.cell? ⟨g,o,none⟩=some v:=fun g o v h=>hb.some ((World.cell?_alloc_past _ g o (World.block_lt_of_cell? W _ h)).trans h)
  refine⟨ho _ _ _ h1,ho _ _ _ y_0,ho _ _ _ y_1,ho _ _ _ y_2,?_,?_,?_⟩
  all_goals (refine hb.some ?_;rw [World.cell?_alloc_at _ _ _ _ rfl];rfl)
 have KS:=Lib.hid hk;have c1:=Lib.hid (fun W=>qdu xn xu xq xm xc W);have c2:=Lib.hid (fun W=>qdu yn yu yq ym yc W);clear hk h1 y_0 y_1 y_2
 go_enter Tryz.func179,Tryz.ntmps179
 go_wp2
 go_region_held3 (fun w'=>w'.cell? ⟨B1,0,none⟩=some (.func (.func 138) #[] #[])/\w'.cell? ⟨B2,0,none⟩=some (.string (S yn))/\w'.cell? ⟨B2,1,none⟩=some (.int .i64 yu)/\w'.cell? ⟨B2,2,none⟩=some (.slice yq ym yc)/\w'.cell? ⟨W.heap.size,0,none⟩=some (.string (S xn))/\w'.cell? ⟨W.heap.size,1,none⟩=some (.int .i64 xu)/\w'.cell? ⟨W.heap.size,2,none⟩=some (.slice xq xm xc)) (first|(exact KS.out _ (by(with_reducible repeat first|assumption|exact Bel.refl _|refine Bel.drew ?_|refine Bel.drewN ?_ _|refine Bel.alloc ?_ _))))
  (first
   | (go_at_call 138;(with_reducible refine(c1.out _).mono ?_);rintro e w1 ⟨rfl,g1⟩;have k1:Bel (W.alloc (.cells #[.string (S xn),.int .i64 xu,.slice xq xm xc] 86)) w1:=Bel.of (by(with_reducible repeat first|assumption|exact Bel.refl _|refine Bel.drew ?_|refine Bel.drewN ?_ _|refine Bel.alloc ?_ _)) g1;clear g1)
   | (go_at_call 138;(with_reducible refine(c2.out _).mono ?_);rintro e w1 ⟨rfl,g1⟩;have k1:Bel (W.alloc (.cells #[.string (S xn),.int .i64 xu,.slice xq xm xc] 86)) w1:=Bel.of (by(with_reducible repeat first|assumption|exact Bel.refl _|refine Bel.drew ?_|refine Bel.drewN ?_ _|refine Bel.alloc ?_ _)) g1;clear g1))
 all_goals go_wp2
 all_goals go_ret
 all_goals exact⟨qa3 hv.out,Bel.out (Bel.of ((Bel.refl W).alloc _) (by assumption))⟩
theorem ar_Item:(Tryz.prog.info? 86).map (·.size)=some 3:=by kernel_rfl
theorem qjc (q:Option Addr) (c:Nat) (xs:List PItem) (i:Nat) (y:PItem) (vs:List Value) (B1 B2:Nat) (w W:World) (hv:Sv 3 VItem w (.slice q xs.length c) xs) (hi:i<xs.length) (kw:Bel w W) (g1:W.cell? ⟨B1,0,none⟩=some (.func (.func 138) #[] #[])) (hy0 : ∀j u,vs[j]? = some u->W.cell? ⟨B2,j,none⟩=some u) (hvs:VItem w vs y) (hq:xs[i]? = some y) :
  Calls Tryz.prog 120 #[.slice q i c,.func (.func 179) #[] #[.pointer (some ⟨B1,0,none⟩),.pointer (some ⟨B2,0,none⟩)]] W fun e w'=>e=.returned (.bool (!newAt PItem.name xs i))/\Bel W w':=by
 rw [new_get _ _ _ _ hq,Bool.not_not];have HVS:=Lib.hid hvs;obtain⟨q',c',he,hl,hcap,hel⟩:=hv;cases he;have hlen:(xs.take i).length=i:=by rw [List.length_take];omega
 refine qh0 VItem VItem.len _ _ (enters_of Tryz.func179 (by kernel_rfl) rfl) _ (xs.take i) _ W ⟨q,c,by rw [hlen],by omega,by omega,fun j x hx=>?_⟩ (fun x vx W2 _ hx hb2=>?_)
 ·obtain⟨b,off,he,hb',hE⟩:=hel j x (qgy xs i j x hx)
  exact⟨b,off,he,Nat.lt_of_lt_of_le hb' kw.size,El.keeps VItem.stays _ _ _ _ _ hb' kw hE⟩
 ·have hy : ∀j u,vs[j]? = some u->W2.cell? ⟨B2,j,none⟩=some u:=fun j u hu=>hb2.some (hy0 j u hu)
  have g1b:=hb2.some g1;obtain⟨_,_,rfl,_,_⟩:=VItem.form hx;obtain⟨_,_,rfl,_,_⟩:=VItem.form hvs;exact ql4 x.name x.num _ _ _ y.name y.num _ _ _ B1 B2 W2 g1b (hy 0 _ rfl) (hy 1 _ rfl) (hy 2 _ rfl)
theorem qk3 (q:Option Addr) (c:Nat) (xs:List PItem) (w:World) (hv:Sv 3 VItem w (.slice q xs.length c) xs) :
  Calls Tryz.prog 137 #[.slice q xs.length c,.func (.func 138) #[] #[]] w fun e w'=>e=.returned (.bool (!Rs.apart PItem.name xs))/\Bel w w':=by
 have CS:=Lib.hid (fun i y vs B2 W hi kw g1 hy hvs hq=>qjc q c xs i y vs w.heap.size B2 w W hv hi kw g1 hy hvs hq);obtain⟨q',c',he,hl,hcap,hel⟩:=hv;cases he;have EL:=Lib.hid hel;have V:=Lib.hid (qhi PItem.name xs);generalize Rs.apart PItem.name xs=T at V;have aE : ∀w,(isAgg 86).run Tryz.prog w=.ok true w:=qfb;obtain⟨K,hK⟩ : ∃K,K=3:=⟨_,rfl⟩;have zE : ∀w,(Go.sizeOf 86).run Tryz.prog w=.ok K w:=hK ▸ qd5;have HK:=Lib.hid hK;have hS0:=Lib.hid ((ST.start w).addbox #[.func (.func 138) #[] #[]] 151);clear hel hK
 go_enter Tryz.func137,Tryz.ntmps137
 go_wp2
 go_loopw [9] (fun i wr => ∃k:Nat,k<=xs.length/\i=.int .i64 k/\Hid (ST w [] [⟨w.heap.size,#[.func (.func 138) #[] #[]],151⟩] wr)/\Hid (((List.range' k (xs.length-k)).all fun i=>newAt PItem.name xs i)=T)) (fun i _=>xs.length-(intOf i).toNat)
 case atStart=>exact⟨0,by omega,rfl,hS0,V⟩
 case round=>as_aux_lemma=>
  clear hS0 V;obtain⟨k,hk,rfl,hS,hx⟩:=hrel;by_cases hlt:k<xs.length
  ·have hg:xs[k]? = some xs[k]:=List.getElem?_eq_getElem hlt
   obtain⟨b,off,rfl,hbs,vs,hce,hvs⟩:=EL.out k _ hg;have hki:(k:Int)<(xs.length:Int):=by omega
   have hst:=hx.out;rw [qki _ _ _ hlt]at hst;have hlen:=VItem.len _ _ _ hvs
   have l2:Sem.run Tryz.prog (loadCellsFrom ⟨b,off+k*K,none⟩ 0 K #[]) wr=.ok vs.toArray wr:=run_loadCellsFrom_list Tryz.prog _ _ vs K (hlen.trans HK.out.symm) (fun i v hi=>by
    rw [HK.out,Addr.add_lit]
    exact hS.out.bel.some (hce i v hi))
   have HO:=Lib.hid (show vs.toArray.all (·.oneCell')=true from by obtain⟨_,_,rfl,_,_⟩:=VItem.form hvs;simp [Value.oneCell']);have Z0:vs.toArray.size=3:=by rw [List.size_toArray];exact hlen
   have Z1:=Lib.hid (show(Tryz.prog.info? 86).map (·.size)=some vs.toArray.size by rw [Z0];exact ar_Item);have Z2:=Lib.hid (show(#[.string ⟨#[]⟩,.int .i64 0,.slice none 0 0]:Array Value).size=vs.toArray.size by rw [Z0];rfl);have hk0:(0:Int)<=(k:Int):=by omega
   have hkc:(k:Int)<=(c:Int):=by omega
   have H1:=Lib.hid (hS.out.addbox vs.toArray 86);have C1:=Lib.hid (CS.out k xs[k] vs wr.heap.size _ hlt H1.out.bel (H1.out.cell 1 rfl 0) (fun j u hu=>by have:=H1.out.cell 0 rfl j;dsimp only at this;rw [this,List.getElem?_toArray];exact hu) hvs hg);generalize newAt PItem.name xs k=Q at hst C1;clear hx hce hlen Z0 hvs hg CS;generalize xs[k]=x at *;cases Q with
   | true=>
    have HST:=Lib.hid (show _=T by rw [←hst,Bool.true_and]);clear hst
    go_wp2_with (first
     | (refine qb9 (old:=#[.string ⟨#[]⟩,.int .i64 0,.slice none 0 0]) rfl 86 _ _ rfl wr rfl wr.heap.size rfl vs.toArray rfl rfl Z1.out Z2.out HO.out ?_)
     | (go_at_call 120;(with_reducible refine C1.out.mono ?_);rintro e w1 ⟨rfl,k1⟩;have H2:=Lib.hid (H1.out.belw k1).dropbox0;clear k1))
    go_roundw
    case rel=>exact⟨k+1,by omega,by go_num,H2,HST⟩
    case measure=>simp [intOf];omega
   | false=>
    have HST:=Lib.hid (show false=T by rw [←hst,Bool.false_and]);clear hst
    go_wp2_with (first
     | (refine qb9 (old:=#[.string ⟨#[]⟩,.int .i64 0,.slice none 0 0]) rfl 86 _ _ rfl wr rfl wr.heap.size rfl vs.toArray rfl rfl Z1.out Z2.out HO.out ?_)
     | (go_at_call 120;(with_reducible refine C1.out.mono ?_);rintro e w1 ⟨rfl,k1⟩;have H2:=Lib.hid (H1.out.belw k1).dropbox0;clear k1))
    go_ret;exact⟨qa3 (by rw [←HST.out];rfl),H2.out.bel⟩
  ·have hki : ¬(k:Int)<(xs.length:Int):=by omega
   have HST:=Lib.hid (show true=T by rw [←hx.out,new_end _ _ _ (by omega)]);go_wp2;go_ret;exact⟨qa3 (by rw [←HST.out];rfl),hS.out.bel⟩
theorem qg0 (xu:Int) (xn xal:Str) (xca xke xki xta xun:Int) (W:World):Calls Tryz.prog 135 #[.agg #[.int .i64 xu,.string (S xn),.string (S xal),.int .i64 xca,.int .i64 xke,.int .i64 xki,.int .i64 xta,.int .i64 xun]] W fun e w'=>e=.returned (.string (S xn))/\Below W.heap.size W w':=by
 go_enter Tryz.func135,Tryz.ntmps135
 go_wp2;go_ret
 exact⟨rfl,(Below.refl _ _).alloc (Nat.le_refl _) _⟩
theorem cl_repOp (xu:Int) (xn xal:Str) (xca xke xki xta xun:Int) (yu:Int) (yn yal:Str) (yca yke yki yta yun:Int) (B1 B2:Nat) (W:World) (h1:W.cell? ⟨B1,0,none⟩=some (.func (.func 135) #[] #[]))
  (y_0:W.cell? ⟨B2,0,none⟩=some (.int .i64 yu)) (y_1:W.cell? ⟨B2,1,none⟩=some (.string (S yn))) (y_2:W.cell? ⟨B2,2,none⟩=some (.string (S yal))) (y_3:W.cell? ⟨B2,3,none⟩=some (.int .i64 yca)) (y_4:W.cell? ⟨B2,4,none⟩=some (.int .i64 yke)) (y_5:W.cell? ⟨B2,5,none⟩=some (.int .i64 yki)) (y_6:W.cell? ⟨B2,6,none⟩=some (.int .i64 yta)) (y_7:W.cell? ⟨B2,7,none⟩=some (.int .i64 yun)) :
  Calls Tryz.prog 178 #[.agg #[.int .i64 xu,.string (S xn),.string (S xal),.int .i64 xca,.int .i64 xke,.int .i64 xki,.int .i64 xta,.int .i64 xun],.pointer (some ⟨B1,0,none⟩),.pointer (some ⟨B2,0,none⟩)] W fun e w'=>e=.returned (.bool (decide (xn=yn)))/\Below W.heap.size W w':=by
 have hv:=Lib.hid (eq_S xn yn)
 have hk : ∀w',Bel (W.alloc (.cells #[.int .i64 xu,.string (S xn),.string (S xal),.int .i64 xca,.int .i64 xke,.int .i64 xki,.int .i64 xta,.int .i64 xun] 54)) w'->w'.cell? ⟨B1,0,none⟩=some (.func (.func 135) #[] #[])/\w'.cell? ⟨B2,0,none⟩=some (.int .i64 yu)/\w'.cell? ⟨B2,1,none⟩=some (.string (S yn))/\w'.cell? ⟨B2,2,none⟩=some (.string (S yal))/\w'.cell? ⟨B2,3,none⟩=some (.int .i64 yca)/\w'.cell? ⟨B2,4,none⟩=some (.int .i64 yke)/\w'.cell? ⟨B2,5,none⟩=some (.int .i64 yki)/\w'.cell? ⟨B2,6,none⟩=some (.int .i64 yta)/\w'.cell? ⟨B2,7,none⟩=some (.int .i64 yun)/\w'.cell? ⟨W.heap.size,0,none⟩=some (.int .i64 xu)/\w'.cell? ⟨W.heap.size,1,none⟩=some (.string (S xn))/\w'.cell? ⟨W.heap.size,2,none⟩=some (.string (S xal))/\w'.cell? ⟨W.heap.size,3,none⟩=some (.int .i64 xca)/\w'.cell? ⟨W.heap.size,4,none⟩=some (.int .i64 xke)/\w'.cell? ⟨W.heap.size,5,none⟩=some (.int .i64 xki)/\w'.cell? ⟨W.heap.size,6,none⟩=some (.int .i64 xta)/\w'.cell? ⟨W.heap.size,7,none⟩=some (.int .i64 xun):=fun w' hb=>by
  have ho : ∀(g o:Nat) (v:Value),W.cell? ⟨g,o,none⟩=some v->w'.cell? ⟨g,o,none⟩=some v:=fun g o v h=>hb.some ((World.cell?_alloc_past _ g o (World.block_lt_of_cell? W _ h)).trans h)
  refine⟨ho _ _ _ h1,ho _ _ _ y_0,ho _ _ _ y_1,ho _ _ _ y_2,ho _ _ _ y_3,ho _ _ _ y_4,ho _ _ _ y_5,ho _ _ _ y_6,ho _ _ _ y_7,?_,?_,?_,?_,?_,?_,?_,?_⟩
  all_goals (refine hb.some ?_;rw [World.cell?_alloc_at _ _ _ _ rfl];rfl)
 have KS:=Lib.hid hk;have c1:=Lib.hid (fun W=>qg0 xu xn xal xca xke xki xta xun W);have c2:=Lib.hid (fun W=>qg0 yu yn yal yca yke yki yta yun W);clear hk h1 y_0 y_1 y_2 y_3 y_4 y_5 y_6 y_7
 go_enter Tryz.func178,Tryz.ntmps178
 go_wp2
 go_region_held3 (fun w'=>w'.cell? ⟨B1,0,none⟩=some (.func (.func 135) #[] #[])/\w'.cell? ⟨B2,0,none⟩=some (.int .i64 yu)/\w'.cell? ⟨B2,1,none⟩=some (.string (S yn))/\w'.cell? ⟨B2,2,none⟩=some (.string (S yal))/\w'.cell? ⟨B2,3,none⟩=some (.int .i64 yca)/\w'.cell? ⟨B2,4,none⟩=some (.int .i64 yke)/\w'.cell? ⟨B2,5,none⟩=some (.int .i64 yki)/\w'.cell? ⟨B2,6,none⟩=some (.int .i64 yta)/\w'.cell? ⟨B2,7,none⟩=some (.int .i64 yun)/\w'.cell? ⟨W.heap.size,0,none⟩=some (.int .i64 xu)/\w'.cell? ⟨W.heap.size,1,none⟩=some (.string (S xn))/\w'.cell? ⟨W.heap.size,2,none⟩=some (.string (S xal))/\w'.cell? ⟨W.heap.size,3,none⟩=some (.int .i64 xca)/\w'.cell? ⟨W.heap.size,4,none⟩=some (.int .i64 xke)/\w'.cell? ⟨W.heap.size,5,none⟩=some (.int .i64 xki)/\w'.cell? ⟨W.heap.size,6,none⟩=some (.int .i64 xta)/\w'.cell? ⟨W.heap.size,7,none⟩=some (.int .i64 xun)) (first|(exact KS.out _ (by(with_reducible repeat first|assumption|exact Bel.refl _|refine Bel.drew ?_|refine Bel.drewN ?_ _|refine Bel.alloc ?_ _))))
  (first
   | (go_at_call 135;(with_reducible refine(c1.out _).mono ?_);rintro e w1 ⟨rfl,g1⟩;have k1:Bel (W.alloc (.cells #[.int .i64 xu,.string (S xn),.string (S xal),.int .i64 xca,.int .i64 xke,.int .i64 xki,.int .i64 xta,.int .i64 xun] 54)) w1:=Bel.of (by(with_reducible repeat first|assumption|exact Bel.refl _|refine Bel.drew ?_|refine Bel.drewN ?_ _|refine Bel.alloc ?_ _)) g1;clear g1)
   | (go_at_call 135;(with_reducible refine(c2.out _).mono ?_);rintro e w1 ⟨rfl,g1⟩;have k1:Bel (W.alloc (.cells #[.int .i64 xu,.string (S xn),.string (S xal),.int .i64 xca,.int .i64 xke,.int .i64 xki,.int .i64 xta,.int .i64 xun] 54)) w1:=Bel.of (by(with_reducible repeat first|assumption|exact Bel.refl _|refine Bel.drew ?_|refine Bel.drewN ?_ _|refine Bel.alloc ?_ _)) g1;clear g1))
 all_goals go_wp2
 all_goals go_ret
 all_goals exact⟨qa3 hv.out,Bel.out (Bel.of ((Bel.refl W).alloc _) (by assumption))⟩
theorem ar_Op:(Tryz.prog.info? 54).map (·.size)=some 8:=by kernel_rfl
theorem so_repOp (q:Option Addr) (c:Nat) (xs:List POp) (i:Nat) (y:POp) (vs:List Value) (B1 B2:Nat) (w W:World) (hv:Sv 8 VOp w (.slice q xs.length c) xs) (hi:i<xs.length) (kw:Bel w W) (g1:W.cell? ⟨B1,0,none⟩=some (.func (.func 135) #[] #[])) (hy0 : ∀j u,vs[j]? = some u->W.cell? ⟨B2,j,none⟩=some u) (hvs:VOp w vs y) (hq:xs[i]? = some y) :
  Calls Tryz.prog 116 #[.slice q i c,.func (.func 178) #[] #[.pointer (some ⟨B1,0,none⟩),.pointer (some ⟨B2,0,none⟩)]] W fun e w'=>e=.returned (.bool (!newAt POp.name xs i))/\Bel W w':=by
 rw [new_get _ _ _ _ hq,Bool.not_not];have HVS:=Lib.hid hvs;obtain⟨q',c',he,hl,hcap,hel⟩:=hv;cases he;have hlen:(xs.take i).length=i:=by rw [List.length_take];omega
 refine so_Op VOp VOp.len _ _ (enters_of Tryz.func178 (by kernel_rfl) rfl) _ (xs.take i) _ W ⟨q,c,by rw [hlen],by omega,by omega,fun j x hx=>?_⟩ (fun x vx W2 _ hx hb2=>?_)
 ·obtain⟨b,off,he,hb',hE⟩:=hel j x (qgy xs i j x hx)
  exact⟨b,off,he,Nat.lt_of_lt_of_le hb' kw.size,El.keeps VOp.stays _ _ _ _ _ hb' kw hE⟩
 ·have hy : ∀j u,vs[j]? = some u->W2.cell? ⟨B2,j,none⟩=some u:=fun j u hu=>hb2.some (hy0 j u hu)
  have g1b:=hb2.some g1;rw [show vx=opC x from hx];rw [show vs=opC y from hvs]at hy;exact cl_repOp x.num x.name x.ali x.card x.key x.kind x.tgt x.un y.num y.name y.ali y.card y.key y.kind y.tgt y.un B1 B2 W2 g1b (hy 0 _ rfl) (hy 1 _ rfl) (hy 2 _ rfl) (hy 3 _ rfl) (hy 4 _ rfl) (hy 5 _ rfl) (hy 6 _ rfl) (hy 7 _ rfl)
theorem pl_repOp (q:Option Addr) (c:Nat) (xs:List POp) (w:World) (hv:Sv 8 VOp w (.slice q xs.length c) xs) :
  Calls Tryz.prog 134 #[.slice q xs.length c,.func (.func 135) #[] #[]] w fun e w'=>e=.returned (.bool (!Rs.apart POp.name xs))/\Bel w w':=by
 have CS:=Lib.hid (fun i y vs B2 W hi kw g1 hy hvs hq=>so_repOp q c xs i y vs w.heap.size B2 w W hv hi kw g1 hy hvs hq);obtain⟨q',c',he,hl,hcap,hel⟩:=hv;cases he;have EL:=Lib.hid hel;have V:=Lib.hid (qhi POp.name xs);generalize Rs.apart POp.name xs=T at V;have aE : ∀w,(isAgg 54).run Tryz.prog w=.ok true w:=qj4;obtain⟨K,hK⟩ : ∃K,K=8:=⟨_,rfl⟩;have zE : ∀w,(Go.sizeOf 54).run Tryz.prog w=.ok K w:=hK ▸ qff;have HK:=Lib.hid hK;have hS0:=Lib.hid ((ST.start w).addbox #[.func (.func 135) #[] #[]] 149);clear hel hK
 go_enter Tryz.func134,Tryz.ntmps134
 go_wp2
 go_loopw [9] (fun i wr => ∃k:Nat,k<=xs.length/\i=.int .i64 k/\Hid (ST w [] [⟨w.heap.size,#[.func (.func 135) #[] #[]],149⟩] wr)/\Hid (((List.range' k (xs.length-k)).all fun i=>newAt POp.name xs i)=T)) (fun i _=>xs.length-(intOf i).toNat)
 case atStart=>exact⟨0,by omega,rfl,hS0,V⟩
 case round=>as_aux_lemma=>
  clear hS0 V;obtain⟨k,hk,rfl,hS,hx⟩:=hrel;by_cases hlt:k<xs.length
  ·have hg:xs[k]? = some xs[k]:=List.getElem?_eq_getElem hlt
   obtain⟨b,off,rfl,hbs,vs,hce,hvs⟩:=EL.out k _ hg;have hki:(k:Int)<(xs.length:Int):=by omega
   have hst:=hx.out;rw [qki _ _ _ hlt]at hst;have hlen:=VOp.len _ _ _ hvs
   have l2:Sem.run Tryz.prog (loadCellsFrom ⟨b,off+k*K,none⟩ 0 K #[]) wr=.ok vs.toArray wr:=run_loadCellsFrom_list Tryz.prog _ _ vs K (hlen.trans HK.out.symm) (fun i v hi=>by
    rw [HK.out,Addr.add_lit]
    exact hS.out.bel.some (hce i v hi))
   have HO:=Lib.hid (show vs.toArray.all (·.oneCell')=true from by rw [show vs=opC _ from hvs];simp [opC,Value.oneCell']);have Z0:vs.toArray.size=8:=by rw [List.size_toArray];exact hlen
   have Z1:=Lib.hid (show(Tryz.prog.info? 54).map (·.size)=some vs.toArray.size by rw [Z0];exact ar_Op);have Z2:=Lib.hid (show(#[.int .i64 0,.string ⟨#[]⟩,.string ⟨#[]⟩,.int .i64 0,.int .i64 0,.int .i64 0,.int .i64 0,.int .i64 0]:Array Value).size=vs.toArray.size by rw [Z0];rfl);have hk0:(0:Int)<=(k:Int):=by omega
   have hkc:(k:Int)<=(c:Int):=by omega
   have H1:=Lib.hid (hS.out.addbox vs.toArray 54);have C1:=Lib.hid (CS.out k xs[k] vs wr.heap.size _ hlt H1.out.bel (H1.out.cell 1 rfl 0) (fun j u hu=>by have:=H1.out.cell 0 rfl j;dsimp only at this;rw [this,List.getElem?_toArray];exact hu) hvs hg);generalize newAt POp.name xs k=Q at hst C1;clear hx hce hlen Z0 hvs hg CS;generalize xs[k]=x at *;cases Q with
   | true=>
    have HST:=Lib.hid (show _=T by rw [←hst,Bool.true_and]);clear hst
    go_wp2_with (first
     | (refine qb9 (old:=#[.int .i64 0,.string ⟨#[]⟩,.string ⟨#[]⟩,.int .i64 0,.int .i64 0,.int .i64 0,.int .i64 0,.int .i64 0]) rfl 54 _ _ rfl wr rfl wr.heap.size rfl vs.toArray rfl rfl Z1.out Z2.out HO.out ?_)
     | (go_at_call 116;(with_reducible refine C1.out.mono ?_);rintro e w1 ⟨rfl,k1⟩;have H2:=Lib.hid (H1.out.belw k1).dropbox0;clear k1))
    go_roundw
    case rel=>exact⟨k+1,by omega,by go_num,H2,HST⟩
    case measure=>simp [intOf];omega
   | false=>
    have HST:=Lib.hid (show false=T by rw [←hst,Bool.false_and]);clear hst
    go_wp2_with (first
     | (refine qb9 (old:=#[.int .i64 0,.string ⟨#[]⟩,.string ⟨#[]⟩,.int .i64 0,.int .i64 0,.int .i64 0,.int .i64 0,.int .i64 0]) rfl 54 _ _ rfl wr rfl wr.heap.size rfl vs.toArray rfl rfl Z1.out Z2.out HO.out ?_)
     | (go_at_call 116;(with_reducible refine C1.out.mono ?_);rintro e w1 ⟨rfl,k1⟩;have H2:=Lib.hid (H1.out.belw k1).dropbox0;clear k1))
    go_ret;exact⟨qa3 (by rw [←HST.out];rfl),H2.out.bel⟩
  ·have hki : ¬(k:Int)<(xs.length:Int):=by omega
   have HST:=Lib.hid (show true=T by rw [←hx.out,new_end _ _ _ (by omega)]);go_wp2;go_ret;exact⟨qa3 (by rw [←HST.out];rfl),hS.out.bel⟩
end
end Go.Proofs.YtgpjhibdongmbaaGreatDoor
