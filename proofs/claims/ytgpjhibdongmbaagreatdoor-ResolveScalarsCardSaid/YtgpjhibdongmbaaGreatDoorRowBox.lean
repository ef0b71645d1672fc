import Derived.Test.YtgpjhibdongmbaaGreatDoorIdRef1
import Derived.Laws.Tables
import Derived.Deep.WholeRow
import Derived.Laws.CopyRow
import Derived.Shelf.SlicesQ.Load
set_option maxRecDepth 100000
set_option maxHeartbeats 4000000
set_option linter.unusedVariables false
set_option linter.unusedSimpArgs false
namespace Go.Proofs.YtgpjhibdongmbaaGreatDoor
section
open Go.RowKit
structure Row where
 e:TypeId
 z:Nat
 v:Value
 n:Nat
 xs:List Value
structure Box where
 g:Nat
 cs:Array Value
 T:TypeId
def qam (R:List Row) (X:List Box):List Nat:=R.filterMap (fun r=>r.v.ownBlock) ++ X.map Box.g
structure ST (w0:World) (R:List Row) (X:List Box) (w:World):Prop where
 bel:Bel w0 w
 rows : ∀r ∈ R,w.ownsRow w0.heap.size r.e r.z r.v r.n r.xs
 boxes : ∀b ∈ X,w0.heap.size<=b.g/\w.heap[b.g]? = some (.cells b.cs b.T (0,0))
 nd:(qam R X).Nodup
theorem qck {α:Type} : ∀(l:List α) (i:Nat) (x:α),l[i]? = some x->∀y,l.Perm (x :: l.eraseIdx i)/\(l.set i y).Perm (y :: l.eraseIdx i)
 | [],i,x,h,y=>by simp at h
 | a :: l,0,x,h,y=>by
  have:a=x:=by simpa using h
  subst this;exact⟨List.Perm.refl _,List.Perm.refl _⟩
 | a :: l,i+1,x,h,y=>by
  have ih:=qck l i x (by simpa using h) y;exact⟨(List.Perm.cons a ih.1).trans (List.Perm.swap x a _),(List.Perm.cons a ih.2).trans (List.Perm.swap y a _)⟩
theorem qcg {r:Row} {R:List Row} {X:List Box} (h:r.v.ownBlock=none):qam (r :: R) X=qam R X:=by
 unfold qam;rw [List.filterMap_cons,h]
theorem qc0 {r:Row} {R:List Row} {X:List Box} {g:Nat} (h:r.v.ownBlock=some g):qam (r :: R) X=g :: qam R X:=by
 unfold qam;rw [List.filterMap_cons,h];rfl
theorem qdc {r:Row} {R:List Row} {X:List Box} {g:Nat} (hr:r ∈ R) (h:r.v.ownBlock=some g):g ∈ qam R X:=List.mem_append_left _ (List.mem_filterMap.2 ⟨r,hr,h⟩)
theorem qdd {b:Box} {R:List Row} {X:List Box} (hb:b ∈ X):b.g ∈ qam R X:=List.mem_append_right _ (List.mem_map.2 ⟨b,hb,rfl⟩)
section
variable {w0 w w' : World} {R R' : List Row} {X X' : List Box} {r : Row} {b : Box}
theorem ST.start (w:World):ST w [] [] w:=⟨Bel.refl _,fun r h=>(by cases h),fun b h=>(by cases h),List.nodup_nil⟩
theorem ST.perm (h:ST w0 R X w) (hR:R.Perm R') (hX:X.Perm X'):ST w0 R' X' w:=
 ⟨h.bel,fun r hr=>h.rows r (hR.mem_iff.2 hr),fun b hb=>h.boxes b (hX.mem_iff.2 hb),((hR.filterMap _).append (hX.map _)).nodup_iff.1 h.nd⟩
theorem ST.lt (h:ST w0 R X w) : ∀k ∈ qam R X,k<w.heap.size:=fun k hk=>by
 rcases List.mem_append.1 hk with hk|hk
 ·obtain⟨r,hr,he⟩:=List.mem_filterMap.1 hk
  exact((h.rows r hr).lt k he).2
 ·obtain⟨b,hb,rfl⟩:=List.mem_map.1 hk
  exact(Array.getElem?_eq_some_iff.1 (h.boxes b hb).2).1
theorem ST.belw (h:ST w0 R X w) (k:Bel w w'):ST w0 R X w':=
 ⟨Bel.of h.bel k,fun r hr=>row_bel (h.rows r hr) k,fun b hb=>⟨(h.boxes b hb).1,(Below.block k b.g (Array.getElem?_eq_some_iff.1 (h.boxes b hb).2).1).trans (h.boxes b hb).2⟩,h.nd⟩
theorem ST.head_ne (h:ST w0 (r :: R) X w) : ∀k ∈ qam R X,some k ≠ r.v.ownBlock:=fun k hk e=>by
 have hn:=h.nd;rw [qc0 e.symm]at hn;exact(List.nodup_cons.1 hn).1 hk
theorem ST.tail_nd (h:ST w0 (r :: R) X w):(qam R X).Nodup:=by
 have hn:=h.nd;cases e:r.v.ownBlock with
 | none=>rwa [qcg e]at hn
 | some g=>rw [qc0 e]at hn;exact(List.nodup_cons.1 hn).2
theorem ST.droprow0 (h:ST w0 (r :: R) X w):ST w0 R X w:=⟨h.bel,fun s hs=>h.rows s (List.mem_cons_of_mem _ hs),h.boxes,h.tail_nd⟩
theorem ST.grow0 {v':Value} {n':Nat} {xs':List Value} (h:ST w0 (r :: R) X w) (hg:w.grownBy w' r.v.ownBlock) (hown:w'.ownsRow w0.heap.size r.e r.z v' n' xs') (hf : ∀g,v'.ownBlock=some g->r.v.ownBlock=some g ∨ w.heap.size<=g) :
  ST w0 (⟨r.e,r.z,v',n',xs'⟩ :: R) X w':=by
 refine⟨Below.grown h.bel hg h.bel.size (fun k hk=>((h.rows r (List.mem_cons_self ..)).lt k hk).1),fun s hs=>?_,fun b hb=>⟨(h.boxes b hb).1,?_⟩,?_⟩
 ·rcases List.mem_cons.1 hs with rfl|hs
  ·exact hown
  ·refine(h.rows s (List.mem_cons_of_mem _ hs)).kept hg ?_
   cases e:s.v.ownBlock with
   | none=>exact .inl rfl
   | some g=>exact .inr (h.head_ne g (qdc hs e))
 ·have hb2:=(h.boxes b hb).2
  exact(hg.block b.g (Array.getElem?_eq_some_iff.1 hb2).1 (h.head_ne b.g (qdd hb))).trans hb2
 ·have htl:=h.tail_nd
  have hlt:=h.droprow0.lt;cases e:v'.ownBlock with
  | none=>rw [qcg e];exact htl
  | some g=>
   rw [qc0 e];refine List.nodup_cons.2 ⟨fun hm=>?_,htl⟩;rcases hf g e with e2|e2
   ·exact h.head_ne g hm e2.symm
   ·have:=hlt g hm
    omega
theorem ST.addrow {e:TypeId} {z n:Nat} {v:Value} {xs:List Value} (h:ST w0 R X w) (k:Bel w w') (hown:w'.ownsRow w.heap.size e z v n xs):ST w0 (⟨e,z,v,n,xs⟩ :: R) X w':=by
 have h2:=h.belw k;refine⟨h2.bel,fun s hs=>?_,h2.boxes,?_⟩
 ·rcases List.mem_cons.1 hs with rfl|hs
  ·exact ql5 hown h.bel.size
  ·exact h2.rows s hs
 ·cases e:v.ownBlock with
  | none=>rw [qcg e];exact h.nd
  | some g=>
   rw [qc0 e];refine List.nodup_cons.2 ⟨fun hm=>?_,h.nd⟩;have:=h.lt g hm;have:=(hown.lt g e).1;omega
theorem ST.nilrow (h:ST w0 R X w) (e:TypeId) (z:Nat):ST w0 (⟨e,z,.slice none 0 0,0,[]⟩ :: R) X w:=h.addrow (Bel.refl _) (World.ownsRow_nil _ _ _ _)
theorem ST.addbox (h:ST w0 R X w) (cs:Array Value) (T:TypeId):ST w0 R (⟨w.heap.size,cs,T⟩ :: X) (w.alloc (.cells cs T)):=by
 have h2:=h.belw ((Bel.refl w).alloc (.cells cs T));refine⟨h2.bel,h2.rows,fun b hb=>?_,?_⟩
 ·rcases List.mem_cons.1 hb with rfl|hb
  ·exact⟨h.bel.size,heap_alloc_new _ _⟩
  ·exact h2.boxes b hb
 ·have hp:(qam R (⟨w.heap.size,cs,T⟩ :: X)).Perm (w.heap.size :: qam R X):=List.perm_middle
  refine hp.nodup_iff.2 (List.nodup_cons.2 ⟨fun hm=>?_,h.nd⟩);have:=h.lt _ hm;omega
theorem ST.box_ne (h:ST w0 R (b :: X) w):(∀k ∈ qam R X,k ≠ b.g)/\(qam R X).Nodup:=by
 have hp:(qam R (b :: X)).Perm (b.g :: qam R X):=List.perm_middle;have hn:=List.nodup_cons.1 (hp.nodup_iff.1 h.nd);exact⟨fun k hk e=>hn.1 (e ▸ hk),hn.2⟩
theorem ST.dropbox0 (h:ST w0 R (b :: X) w):ST w0 R X w:=⟨h.bel,h.rows,fun c hc=>h.boxes c (List.mem_cons_of_mem _ hc),h.box_ne.2⟩
theorem ST.setbox0 (h:ST w0 R (b :: X) w) (o:Nat) (v:Value):ST w0 R (⟨b.g,b.cs.setIfInBounds o v,b.T⟩ :: X) (w.setCell ⟨b.g,o,none⟩ v):=by
 have hb:=h.boxes b (List.mem_cons_self ..);have hg:=qcl w b.g o v;refine⟨qbr h.bel hb.1,fun s hs=>?_,fun c hc=>?_,h.nd⟩
 ·refine(h.rows s hs).kept hg ?_
  cases e:s.v.ownBlock with
  | none=>exact .inl rfl
  | some g=>exact .inr fun e2=>h.box_ne.1 g (qdc hs e) (by injection e2)
 ·rcases List.mem_cons.1 hc with rfl|hc
  ·exact⟨hb.1,heap_setCell_same w b.g o _ _ v hb.2⟩
  ·have h2:=h.boxes c (List.mem_cons_of_mem _ hc)
   exact⟨h2.1,(Below.heap_setCell _ _ _ _ (h.box_ne.1 c.g (qdd hc))).trans h2.2⟩
theorem own_set {B:Nat} {e:TypeId} {z n g c:Nat} {xs:List Value} (h:w.ownsRow B e z (.slice (some ⟨g,0,none⟩) n c) n xs) (o:Nat) (v:Value):(w.setCell ⟨g,o,none⟩ v).ownsRow B e z (.slice (some ⟨g,0,none⟩) n c) n (xs.set o v):=by
 refine⟨by rw [List.length_set];exact h.1,?_⟩;rcases h.2 with⟨h1,_⟩|⟨g',cap,cur,h1,h2,h3,h4,h5,h6,h7⟩
 ·cases h1
 ·cases h1
  refine .inr ⟨g,c,cur.setIfInBounds o v,rfl,h2,heap_setCell_same w g o cur e v h3,h4,h5,by simpa using h6,?_⟩;rw [←h7,Array.toList_setIfInBounds,List.take_set]
theorem ST.setrow0 {g c:Nat} (h:ST w0 (r :: R) X w) (hv:r.v=.slice (some ⟨g,0,none⟩) r.n c) (o:Nat) (v:Value):ST w0 (⟨r.e,r.z,r.v,r.n,r.xs.set o v⟩ :: R) X (w.setCell ⟨g,o,none⟩ v):=by
 obtain⟨e,z,v0,n,xs⟩:=r;have hv':v0=.slice (some ⟨g,0,none⟩) n c:=hv;subst hv';have h0:w.ownsRow w0.heap.size e z (.slice (some ⟨g,0,none⟩) n c) n xs:=h.rows _ (List.mem_cons_self ..);exact h.grow0 (qcl w g o v) (own_set h0 o v) (fun k hk=>.inl hk)
theorem ST.swapX {a:Box} (h:ST w0 R (a :: b :: X) w):ST w0 R (b :: a :: X) w:=h.perm (List.Perm.refl _) (List.Perm.swap b a X)
theorem ST.to0 (h:ST w0 R X w) (i:Nat) (hi:R[i]? = some r):ST w0 (r :: R.eraseIdx i) X w:=h.perm (qck R i r hi r).1 (List.Perm.refl _)
theorem ST.of0 (i:Nat) (hi:R[i]? = some r) {s:Row} (h:ST w0 (s :: R.eraseIdx i) X w):ST w0 (R.set i s) X w:=h.perm (qck R i r hi s).2.symm (List.Perm.refl _)
theorem ST.grow {v':Value} {n':Nat} {xs':List Value} (h:ST w0 R X w) (i:Nat) (hi:R[i]? = some r) (hg:w.grownBy w' r.v.ownBlock) (hown:w'.ownsRow w0.heap.size r.e r.z v' n' xs') (hf : ∀g,v'.ownBlock=some g->r.v.ownBlock=some g ∨ w.heap.size<=g) :
  ST w0 (R.set i ⟨r.e,r.z,v',n',xs'⟩) X w':=ST.of0 i hi ((h.to0 i hi).grow0 hg hown hf)
theorem ST.setrow {g c:Nat} (h:ST w0 R X w) (i:Nat) (hi:R[i]? = some r) (hv:r.v=.slice (some ⟨g,0,none⟩) r.n c) (o:Nat) (v:Value):ST w0 (R.set i ⟨r.e,r.z,r.v,r.n,r.xs.set o v⟩) X (w.setCell ⟨g,o,none⟩ v):=
 ST.of0 i hi ((h.to0 i hi).setrow0 hv o v)
theorem ST.setbox (h:ST w0 R X w) (j:Nat) (hj:X[j]? = some b) (o:Nat) (v:Value):ST w0 R (X.set j ⟨b.g,b.cs.setIfInBounds o v,b.T⟩) (w.setCell ⟨b.g,o,none⟩ v):=
 ((h.perm (List.Perm.refl _) (qck X j b hj b).1).setbox0 o v).perm (List.Perm.refl _) (qck X j b hj _).2.symm
theorem ST.row (h:ST w0 R X w) (i:Nat) (hi:R[i]? = some r):w.ownsRow w0.heap.size r.e r.z r.v r.n r.xs:=h.rows r (List.mem_of_getElem? hi)
theorem ST.box (h:ST w0 R X w) (j:Nat) (hj:X[j]? = some b):w.heap[b.g]? = some (.cells b.cs b.T (0,0)):=(h.boxes b (List.mem_of_getElem? hj)).2
theorem ST.boxlt (h:ST w0 R X w) (j:Nat) (hj:X[j]? = some b):w0.heap.size<=b.g/\b.g<w.heap.size:=⟨(h.boxes b (List.mem_of_getElem? hj)).1,(Array.getElem?_eq_some_iff.1 (h.box j hj)).1⟩
theorem ST.cell (h:ST w0 R X w) (j:Nat) (hj:X[j]? = some b) (o:Nat):w.cell? ⟨b.g,o,none⟩=b.cs[o]?:=Lib.cell_of_heap (h.box j hj) o
theorem ST.frz (h:ST w0 R X w) (j:Nat) (hj:X[j]? = some b) (o:Nat):w.frozen? ⟨b.g,o,none⟩=false:=Lib.frozen_of_heap (h.box j hj) o
theorem ST.rowcell {g c n:Nat} (h:ST w0 R X w) (i:Nat) (hi:R[i]? = some r) (hv:r.v=.slice (some ⟨g,0,none⟩) n c) (j:Nat) (u:Value) (hu:r.xs[j]? = some u):w.cell? ⟨g,j,none⟩=some u:=by
 have h0:=h.row i hi;rw [hv]at h0;have:=h0.cells (g:=g) rfl j u hu;rw [Addr.add_lit,Nat.zero_add]at this;exact this
theorem ST.rowfrz {g c n:Nat} (h:ST w0 R X w) (i:Nat) (hi:R[i]? = some r) (hv:r.v=.slice (some ⟨g,0,none⟩) n c) (j:Nat):w.frozen? ⟨g,j,none⟩=false:=by
 have h0:=h.row i hi;rw [hv]at h0;rcases h0.2 with⟨h1,_⟩|⟨g',cap,cur,h1,_,h3,_⟩
 ·cases h1
 ·cases h1
  exact Lib.frozen_of_heap h3 j
theorem ST.rest {n:Nat} : ∀{R1:List Row},ST w0 (R1 ++ R) X w->ST w0 R X w
 | [],h=>h
 | r :: R1,h=>ST.rest (R1:=R1) (n:=n) (ST.droprow0 (r:=r) (R:=R1 ++ R) h)
end
theorem qg8 {α:Type} {V:World->List Value->α->Prop} {w:World} {B:Nat} {e:TypeId} {z:Nat} {v:Value} {l:List α} (C:α->List Value) (hC : ∀x,(C x).length=z) (h:w.ownsRow B e z v l.length (l.flatMap C)) (hl:l.length<=140737488355328) (hV : ∀x ∈ l,V w (C x) x):Sv z V w v l:=by
 rcases h.2 with⟨rfl,h0⟩|⟨g,cap,cur,rfl,h1,h2,h3,h4,h5,h6⟩
 ·have:l=[]:=List.length_eq_zero_iff.1 h0
  subst this;exact Sl.nil _ _ _ _ _
 ·refine⟨_,cap,rfl,hl,h3,fun i x hx=>⟨g,0,rfl,(Array.getElem?_eq_some_iff.1 h2).1,C x,fun j u hu=>?_,hV x (List.mem_of_getElem? hx)⟩⟩
  ·have hj:j<z:=by
    have:=(List.getElem?_eq_some_iff.1 hu).1;rwa [hC]at this
   have hfl : ∀(l:List α) (i:Nat),l[i]? = some x->(l.flatMap C)[i*z+j]? = some u:=by
    intro l
    induction l with
    | nil=>intro i h;simp at h
    | cons a l ih=>
     intro i hi;rw [List.flatMap_cons];cases i with
     | zero=>
      have:a=x:=by simpa using hi
      subst this;rw [Nat.zero_mul,Nat.zero_add,List.getElem?_append_left (by rw [hC];exact hj)];exact hu
     | succ i=>
      rw [List.getElem?_append_right (by rw [hC,Nat.succ_mul];omega),hC,Nat.succ_mul,show i*z+z+j-z=i*z+j by omega];exact ih i (by simpa using hi)
   have:=h.cells (g:=g) rfl (i*z+j) u (hfl l i hx);rw [Addr.add_lit]at this
   simpa using this
end
section
open Go.RowKit
theorem qfv (w:World) (g:Nat) (cs:Array Value):w.grownBy (w.setRow g cs) (some g):=
 ⟨rfl,rfl,rfl,by simp,fun k hk hne=>setRow_other w g k cs (fun e=>hne (by rw [e]))⟩
theorem ST.setrowbox0 {w0 w:World} {R:List Row} {X:List Box} {b:Box} (h:ST w0 R (b :: X) w) (cs:Array Value):ST w0 R (⟨b.g,cs,b.T⟩ :: X) (w.setRow b.g cs):=by
 have hb:=h.boxes b (List.mem_cons_self ..);have hg:=qfv w b.g cs;refine⟨Below.grown h.bel hg h.bel.size (fun k hk=>by cases hk;exact hb.1),fun s hs=>?_,fun c hc=>?_,h.nd⟩
 ·refine(h.rows s hs).kept hg ?_
  cases e:s.v.ownBlock with
  | none=>exact .inl rfl
  | some g=>exact .inr fun e2=>h.box_ne.1 g (qdc hs e) (by injection e2)
 ·rcases List.mem_cons.1 hc with rfl|hc
  ·exact⟨hb.1,setRow_heap w b.g _ _ _ _ hb.2⟩
  ·have h2:=h.boxes c (List.mem_cons_of_mem _ hc)
   exact⟨h2.1,(setRow_other w b.g c.g cs (h.box_ne.1 c.g (qdd hc))).trans h2.2⟩
theorem ST.setrowbox {w0 w:World} {R:List Row} {X:List Box} {b:Box} (h:ST w0 R X w) (j:Nat) (hj:X[j]? = some b) (cs:Array Value):ST w0 R (X.set j ⟨b.g,cs,b.T⟩) (w.setRow b.g cs):=
 ((h.perm (List.Perm.refl _) (qck X j b hj b).1).setrowbox0 cs).perm (List.Perm.refl _) (qck X j b hj _).2.symm
section
variable {P : Program} {ops : Array Oper} {rest : List Oper} {o : Oper} {a : Act} {w : World} {Q : Exit → Act → World → Prop}
theorem qa8 (hgd:o.guard=none) (ty:TypeId) (x y:Operand) (ho:o.op=.store ty x y) (g:Nat) (cells old:Array Value) (t:TypeId) (hx:a.eval x=.pointer (some ⟨g,0,none⟩)) (hy:a.eval y=.agg cells) (hg:w.heap[g]? = some (.cells old t (0,0))) (hi:(P.info? ty).map (·.size)=some cells.size) (hold:old.size=cells.size) (h1:cells.all (·.oneCell')=true)
  (h:wpList P ops Q rest (a.put o.dst undef) (w.setRow g cells)):wpList P ops Q (o :: rest) a w:=
 wpList_plain hgd fun K hK=>wp_store_row ty x y ho g cells hx hy t old hg hi hold h1 (hK _ _ h)
theorem qaw {old:Array Value} {t:TypeId} (hgd:o.guard=none) (ty:TypeId) (x y:Operand) (ho:o.op=.store ty x y) (w1:World) (hw:w=w1.alloc (.cells old t)) (g:Nat) (hgw:w1.heap.size=g) (cells:Array Value) (hx:a.eval x=.pointer (some ⟨g,0,none⟩)) (hy:a.eval y=.agg cells) (hi:(P.info? ty).map (·.size)=some cells.size) (hold:old.size=cells.size) (h1:cells.all (·.oneCell')=true)
  (h:wpList P ops Q rest (a.put o.dst undef) (w1.alloc (.cells cells t))):wpList P ops Q (o :: rest) a w:=by
 subst hw hgw;refine qa8 hgd ty x y ho w1.heap.size cells old t hx hy (heap_alloc_new _ _) hi hold h1 ?_;rw [World.setRow_alloc_new];exact h
end
end
end Go.Proofs.YtgpjhibdongmbaaGreatDoor
