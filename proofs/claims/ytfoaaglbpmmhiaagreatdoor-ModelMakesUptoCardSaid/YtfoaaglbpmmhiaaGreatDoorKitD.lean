import Derived.Test.YtfoaaglbpmmhiaaGreatDoorCkNote1
import Derived.Test.YtfoaaglbpmmhiaaGreatDoorKitA
import Derived.Deep.DeepCutAuto
import Derived.Test.YtfoaaglbpmmhiaaGreatDoorKitQ
import Derived.Test.YtfoaaglbpmmhiaaGreatDoorKitC
import Derived.Deep.AppendLies
set_option maxRecDepth 100000
set_option maxHeartbeats 4000000
set_option linter.unusedVariables false
set_option linter.unusedSimpArgs false
namespace Go.Proofs.YtfoaaglbpmmhiaaGreatDoor
section
open Go.RowKit Ck
theorem qez (x y:Str) (h:ltS y x=true ∨ y=x):ltS x y=false:=by
 unfold ltS at *;rw [decide_eq_false_iff_not];rcases h with h|rfl
 ·have h':=of_decide_eq_true h
  exact List.lt_asymm h'
 ·exact List.lt_irrefl _
theorem qhb (x y:Str) (h1:ltS y x=false) (h2:y ≠ x):ltS x y=true:=by
 unfold ltS at *;have h1':=of_decide_eq_false h1;exact decide_eq_true (Decidable.byContradiction fun h=>h2 (List.le_antisymm (List.not_lt.1 h) (List.not_lt.1 h1')))
theorem gtr_S (a b:Str):(!Op.bytesLess (S a).toList (S b).toList && !((S a).toList == (S b).toList))=Ck.ltS b a:=by
 rw [qg3,eq_S];have he : ∀x y:Str,Ck.ltS x y=ltS x y:=fun _ _=>rfl
 rw [he,he];cases h1:ltS a b with
 | true=>rw [qez b a (.inl h1)];rfl
 | false=>
  by_cases h2:a=b
  ·rw [qez b a (.inr h2),decide_eq_true h2];rfl
  ·rw [qhb b a h1 h2,decide_eq_false h2];rfl
def qd4 (l:List Str) (k:Nat):Bool:=match l[k-1]? with|some a=>qec a (l.drop k)|none=>true
theorem qn9 (l:List Str):qd4 l 1=qcn l:=by
 cases l with
 | nil=>rfl
 | cons a r=>rfl
theorem qkk (l:List Str) (k:Nat) (a b:Str) (h1:1<=k) (ha:l[k-1]? = some a) (hb:l[k]? = some b):qd4 l k=(ltS a b && qd4 l (k+1)):=by
 obtain⟨hk,rfl⟩:=List.getElem?_eq_some_iff.1 hb;unfold qd4;rw [ha,Nat.add_sub_cancel,hb,List.drop_eq_getElem_cons hk];rfl
theorem qna (l:List Str) (k:Nat) (h:l.length<=k):qd4 l k=true:=by
 unfold qd4;rw [List.drop_eq_nil_of_le h];cases l[k-1]? <;> rfl
theorem qht (v:Value) (l:List Str) (w:World) (hv:Texts w v l) :
  Calls Tryz.prog 81 #[v] w fun e w'=>e=.returned (.bool (qcn l))/\Below w.heap.size w w':=by
 obtain⟨q,c,rfl,hl,hcap,hel⟩:=hv;have V:=h_ (qn9 l);have EL:=h_ hel;clear hel;generalize qcn l=T at V
 go_enter Tryz.func81,Tryz.ntmps81
 go_wp2
 go_loopw [3] (fun i wr => ∃k:Nat,1<=k/\k<=140737488355329/\i=.int .i64 k/\Bel w wr/\Hid (qd4 l k=T)) (fun i _=>l.length+1-(intOf i).toNat)
 case atStart=>exact⟨1,by omega,by omega,rfl,Bel.refl _,V⟩
 case round=>
  obtain⟨k,hk1,hk2,rfl,kw,hgo⟩:=hrel;by_cases hlt:k<l.length
  ·have hki:(k:Int)<(l.length:Int):=by omega
   have hg:=List.getElem?_eq_getElem hlt;have hg1:=List.getElem?_eq_getElem (show k-1<l.length by omega);obtain⟨b,off,rfl,hbs,vs,hce,hvs⟩:=EL.out k _ hg;obtain⟨b',off',he',_,vs2,hce2,hvs2⟩:=EL.out (k-1) _ hg1;cases he';have hst:=qkk l k _ _ hk1 hg1 hg;have hvs':vs=[.string (S l[k])]:=hvs;have hvs2':vs2=[.string (S l[k-1])]:=hvs2;obtain⟨wd,hwd⟩ : ∃wd,wd=wr.drew:=⟨_,rfl⟩;have kd:Bel w wd:=by rw [hwd];exact kw.drew
   have e0:wd.cell? ⟨b,off+k,none⟩=some (.string (S l[k])):=by
    have:=hce 0 (.string (S l[k])) (by rw [hvs'];rfl);rw [Nat.mul_one,Nat.add_zero]at this;exact kd.some this
   have e1:wd.cell? ⟨b,off+(k-1),none⟩=some (.string (S l[k-1])):=by
    have:=hce2 0 (.string (S l[k-1])) (by rw [hvs2'];rfl);rw [Nat.mul_one,Nat.add_zero]at this;exact kd.some this
   have HG:=h_ (hgo.out.symm.trans hst);have HWD:=h_ hwd;clear hce hce2 hvs hvs' hvs2 hvs2' hgo hst hg hg1 hwd;generalize l[k]=y at *;generalize l[k-1]=x at *;obtain⟨j,hj⟩ : ∃j,k=j+1:=⟨k-1,by omega⟩;have hkj:k-1=j:=by omega
   rw [hkj]at e1;have j0:(0:Int)<=(j:Int):=by omega
   have j1:(j:Int)<(l.length:Int):=by omega
   have k0:(0:Int)<=(k:Int):=by omega
   have jw:IntKind.i64.wrap ((k:Int)-1)=(j:Int):=by rw [show(k:Int)-1=(j:Int)by omega];exact wrap_small _ (by omega) (by omega)
   have jw2:IntKind.i64.wrap (j:Int)=(j:Int):=wrap_small _ (by omega) (by omega);have jw3:(k:Int)-1=(j:Int):=by omega
   clear hj hkj
   go_upto_region 4 with(fail)
   refine qae 9 (by kernel_rfl) (by kernel_rfl) HWD.out ?_
   (simp only [t_1,t_2,t_3,t_4]);(repeat (first|((with_reducible refine wpStill_step (fun K hK=>?_));go_simp;(with_reducible refine hK _ ?_);clear hK K)|((with_reducible refine qaa ?_ ?_);(with_unfolding_all rfl))));(with_reducible refine wpStill_nil ?_)
   go_wp2
   ·rename_i hor
    rw [qg3,eq_S,decide_eq_true_iff]at hor;have hT:=qez x y hor;go_ret;exact⟨qa3 (by rw [HG.out,hT];rfl),kd.out⟩
   ·rename_i hor
    rw [qg3,eq_S,decide_eq_false_iff_not]at hor;have hT:=qhb x y hor.1 hor.2;exact⟨⟨k+1,by omega,by omega,rfl,kd,h_ (by rw [HG.out,hT];rfl)⟩,by simp [intOf];omega⟩
  ·have hki : ¬(k:Int)<(l.length:Int):=by omega
   have hT:T=true:=by rw [←hgo.out];exact qna l k (by omega)
   have HT:=h_ hT;clear hT hgo;go_wp2;go_ret;exact⟨qa3 HT.out.symm,kw.out⟩
end
section
open Go.RowKit Ck
theorem cl_apart (x:Str) (v:Value) (ks:List Str) (Bl Bk k:Nat) (W:World) (hv:Texts W v ks) (h1:W.cell? ⟨Bl,k,none⟩=some v) (h2:W.cell? ⟨Bk,0,none⟩=some (.int .i64 (k:Int))) (hk:k<3) :
  Calls Tryz.prog 113 #[.string (S x),.pointer (some ⟨Bl,0,none⟩),.pointer (some ⟨Bk,0,none⟩)] W fun e w'=>e=.returned (.bool (Id.has ks x))/\Below W.heap.size W w':=by
 have CC:=h_ (qgo v ks (S x) x W (qdv hv) rfl);have k0:(0:Int)<=(k:Int):=by omega
 have k3:(k:Int)<3:=by omega
 clear hv
 go_enter Tryz.func113,Tryz.ntmps113
 go_wp2_with (go_at_call 114;(with_reducible refine CC.out.mono ?_);rintro e w1 ⟨rfl,rfl⟩)
 go_ret;exact⟨rfl,Below.refl _ _⟩
def nth3 {α:Type} (a b c:α):Nat->α
 | 0=>a
 | 1=>b
 | _=>c
theorem ck_apart (v0 v1 v2:Value) (l0 l1 l2:List Str) (w:World) (h0:Texts w v0 l0) (h1:Texts w v1 l1) (h2:Texts w v2 l2) :
  Calls Tryz.prog 82 #[.agg #[v0,v1,v2]] w fun e w'=>e=.returned (.bool (apart l0 l1 l2))/\Below w.heap.size w w':=by
 have hT : ∀i,Texts w (nth3 v0 v1 v2 i) (nth3 l0 l1 l2 i):=fun i=>by
  match i with
  | 0=>exact h0
  | 1=>exact h1
  | (n+2)=>exact h2
 obtain⟨q0,c0,rfl,_⟩:=qa5 h0;obtain⟨q1,c1,rfl,_⟩:=qa5 h1;obtain⟨q2,c2,rfl,_⟩:=qa5 h2;have hV:apart l0 l1 l2 = !(meet (nth3 l0 l1 l2 1) (nth3 l0 l1 l2 0) || meet (nth3 l0 l1 l2 2) (nth3 l0 l1 l2 0) || meet (nth3 l0 l1 l2 2) (nth3 l0 l1 l2 1)):=rfl;generalize hL:nth3 l0 l1 l2=L at hT hV;generalize hVV:nth3 (Value.slice q0 l0.length c0) (Value.slice q1 l1.length c1) (Value.slice q2 l2.length c2)=VV at hT
 have hcell : ∀i,i<3->(w.alloc (.cells #[.slice q0 l0.length c0,.slice q1 l1.length c1,.slice q2 l2.length c2] 142)).cell? ⟨w.heap.size,i,none⟩=some (VV i):=fun i hi=>by
  rw [World.cell?_alloc_at _ _ _ _ rfl, ←hVV]
  match i with
  | 0=>rfl
  | 1=>rfl
  | 2=>rfl
 have hcc : ∀(i k:Nat) (W:World) (g:Nat),Bel (w.alloc (.cells #[.slice q0 l0.length c0,.slice q1 l1.length c1,.slice q2 l2.length c2] 142)) W->k<3->W.cell? ⟨g,0,none⟩=some (.int .i64 (k:Int)) →
   Calls Tryz.prog 112 #[VV i,.func (.func 113) #[] #[.pointer (some ⟨w.heap.size,0,none⟩),.pointer (some ⟨g,0,none⟩)]] W fun e w'=>e=.returned (.bool (meet (L i) (L k)))/\Below W.heap.size W w':=fun i k W g hb hk hg=>by
  have kw:Bel w W:=Bel.of ((Bel.refl w).alloc _) hb;refine qr6 _ _ (enters_of Tryz.func113 (by kernel_rfl) rfl) _ (L i) _ W ((hT i).bel VStr.stays kw) (fun x W2 hx hb2=>?_);exact cl_apart x _ (L k) _ _ k W2 ((hT k).bel VStr.stays (Bel.of kw hb2)) (hb2.some (hb.some (hcell k hk))) (hb2.some hg) hk
 have CC:=h_ hcc;have HC:=h_ hcell;have HV:=h_ hV;clear hcc hcell hV hT hL hVV h0 h1 h2;generalize apart l0 l1 l2=T at HV;have kb0:Bel (w.alloc (.cells #[.slice q0 l0.length c0,.slice q1 l1.length c1,.slice q2 l2.length c2] 142)) (w.alloc (.cells #[.slice q0 l0.length c0,.slice q1 l1.length c1,.slice q2 l2.length c2] 142)):=Bel.refl _
 go_enter Tryz.func82,Tryz.ntmps82
 go_wp2
 go_loopw [5] (fun i wr => ∃n:Nat,n<=3/\i=.int .i64 n/\Bel (w.alloc (.cells #[.slice q0 l0.length c0,.slice q1 l1.length c1,.slice q2 l2.length c2] 142)) wr/\Hid (∀i k,k<i->i<n->meet (L i) (L k)=false)) (fun i _=>3-(intOf i).toNat)
 case atStart=>exact⟨0,by omega,rfl,kb0,h_ fun i k h1 h2=>by omega⟩
 case round=>
  obtain⟨n,hn,rfl,kw,hno⟩:=hrel;by_cases hlt:n<3
  ·have hni:(n:Int)<3:=by omega
   have hn0:(0:Int)<=(n:Int):=by omega
   obtain⟨wo,hwo⟩ : ∃wo:World,wo=wr:=⟨_,rfl⟩;subst hwo;go_wp2
   go_loopw [9] (fun i wi => ∃k:Nat,k<=n/\i=.int .i64 k/\Bel (w.alloc (.cells #[.slice q0 l0.length c0,.slice q1 l1.length c1,.slice q2 l2.length c2] 142)) wi/\Hid (∀j,j<k->meet (L n) (L j)=false)) (fun i _=>n-(intOf i).toNat)
   case atStart=>exact⟨0,by omega,rfl,kw,h_ fun j h=>by omega⟩
   case round=>
    obtain⟨k,hk,rfl,kw2,hnk⟩:=hrel;by_cases hlk:k<n
    ·have hki:(k:Int)<(n:Int):=by omega
     have hce:=kw2.some (HC.out n hlt);have hlh:w.heap.size<wr.heap.size:=World.block_lt_of_cell? wr _ hce;have C1:=h_ (CC.out n k (wr.alloc (.cells #[.int .i64 (k:Int)] 3)) wr.heap.size (kw2.alloc _) (by omega) (by rw [World.cell?_alloc_at _ _ _ _ rfl];rfl));generalize hQ:meet (L n) (L k)=Q at C1;have HQ:=h_ hQ;clear hQ;generalize VV n=vv at *;cases Q
     ·go_wp2_with (go_at_call 112;(with_reducible refine C1.out.mono ?_);rintro e w2 ⟨rfl,g1⟩;have k3:=Bel.of (kw2.alloc (.cells #[.int .i64 (k:Int)] 3)) g1;clear g1)
      refine⟨⟨k+1,by omega,rfl,k3,h_ fun j hj=>?_⟩,by simp [intOf];omega⟩;by_cases hjk:j=k
      ·subst hjk;exact HQ.out
      ·exact hnk.out j (by omega)
     ·have hTf:T=false:=by
       rw [HV.out];have hq:=HQ.out;have:(n=1/\k=0) ∨ (n=2/\k=0) ∨ (n=2/\k=1):=by omega
       rcases this with⟨rfl,rfl⟩|⟨rfl,rfl⟩|⟨rfl,rfl⟩ <;> rw [hq] <;> simp
      have HT:=h_ hTf;clear hTf
      go_wp2_with (go_at_call 112;(with_reducible refine C1.out.mono ?_);rintro e w2 ⟨rfl,g1⟩;have k3:=Bel.of (kw2.alloc (.cells #[.int .i64 (k:Int)] 3)) g1;clear g1)
      go_ret;exact⟨qa3 HT.out.symm,Bel.out (Bel.of ((Bel.refl w).alloc _) k3)⟩
    ·have hkn:k=n:=by omega
     subst hkn;have hki : ¬(k:Int)<(k:Int):=by omega
     go_wp2;refine⟨⟨k+1,by omega,rfl,kw2,h_ fun i j h1 h2=>?_⟩,by simp [intOf];omega⟩
     by_cases hi:i=k
     ·subst hi;exact hnk.out j h1
     ·exact hno.out i j h1 (by omega)
  ·have hn3:n=3:=by omega
   have hTt:T=true:=by
    rw [HV.out,hno.out 1 0 (by omega) (by omega),hno.out 2 0 (by omega) (by omega),hno.out 2 1 (by omega) (by omega)];rfl
   have HT:=h_ hTt;clear hTt;subst hn3;go_wp2;go_ret;exact⟨qa3 HT.out.symm,Bel.out (Bel.of ((Bel.refl w).alloc _) kw)⟩
end
section
open Go.RowKit Ck
def LS (w:World) (c:Array Value) (vs:Nat->Value) (xs:Nat->List Str) (wr:World):Prop:=
 Below w.heap.size w wr/\wr.heap[w.heap.size]? = some (.cells c 26 (0,0))/\wr.heap[w.heap.size+1+1]? = some (.cells #[vs 0,vs 1,vs 2] 142 (0,0)) ∧
 wr.heap[w.heap.size+1]? = some (.cells #[.slice none 0 0,.slice none 0 0,.slice none 0 0] 142 (0,0)) ∧
 (∀j,j<3->wr.ownsRow w.heap.size 9 1 (vs j) (xs j).length ((xs j).map strV)/\∀b,(vs j).ownBlock=some b->w.heap.size+1+1<b) ∧
 ∀j k b,j<3->k<3->j ≠ k->(vs j).ownBlock=some b->(vs k).ownBlock ≠ some b
def upd {α:Type} (f:Nat->α) (i:Nat) (x:α):Nat->α:=fun j=>if j=i then x else f j
section
variable {w : World} {c : Array Value} {vs : Nat → Value} {xs : Nat → List Str} {wr : World}
theorem LS.bel {w2:World} (h:LS w c vs xs wr) (k:Bel wr w2):LS w c vs xs w2:=by
 obtain⟨h1,h2,h3,hz,h4,h5⟩:=h;refine⟨Bel.of h1 k,(Below.block k _ (Array.getElem?_eq_some_iff.1 h2).1).trans h2,(Below.block k _ (Array.getElem?_eq_some_iff.1 h3).1).trans h3,(Below.block k _ (Array.getElem?_eq_some_iff.1 hz).1).trans hz,fun j hj=>?_,h5⟩;obtain⟨q1,q2⟩:=h4 j hj;exact⟨qd0 q1 k,q2⟩
theorem LS.base (h:LS w c vs xs wr):Bel w wr:=h.1
theorem LS.boxed (h:LS w c vs xs wr) : ∀o,wr.cell? ⟨w.heap.size,o,none⟩=c[o]?:=fun o=>Lib.cell_of_heap h.2.1 o
theorem LS.arr (h:LS w c vs xs wr) : ∀o,wr.cell? ⟨w.heap.size+1+1,o,none⟩=(#[vs 0,vs 1,vs 2]:Array Value)[o]?:=fun o=>Lib.cell_of_heap h.2.2.1 o
theorem LS.size (h:LS w c vs xs wr):w.heap.size+1+1<wr.heap.size:=(Array.getElem?_eq_some_iff.1 h.2.2.1).1
theorem LS.own (h:LS w c vs xs wr) (j:Nat) (hj:j<3):wr.ownsRow w.heap.size 9 1 (vs j) (xs j).length ((xs j).map strV):=(h.2.2.2.2.1 j hj).1
theorem LS.texts (h:LS w c vs xs wr) (j:Nat) (hj:j<3) (hl:(xs j).length<=1000000000):Texts wr (vs j) (xs j):=qao (h.own j hj) hl
theorem LS.put {w2:World} {i g cap:Nat} {x:Str} (h:LS w c vs xs wr) (hi:i<3)
  (hown:w2.ownsRow w.heap.size 9 1 (.slice (some ⟨g,0,none⟩) ((xs i).length+1) cap) ((xs i).length+1) ((xs i).map strV ++ [.string (S x)]))
  (hg:wr.grownBy w2 (vs i).ownBlock) (hgg:(vs i).ownBlock=some g ∨ g=wr.heap.size) :
  LS w c (upd vs i (.slice (some ⟨g,0,none⟩) ((xs i).length+1) cap)) (upd xs i (xs i ++ [x])) (w2.setCell ⟨w.heap.size+1+1,i,none⟩ (.slice (some ⟨g,0,none⟩) ((xs i).length+1) cap))/\w2.cell? ⟨w.heap.size+1+1,i,none⟩=some (vs i)/\w2.frozen? ⟨w.heap.size+1+1,i,none⟩=false:=by
 have hsz:=h.size;obtain⟨h1,h2,h3,hz,h4,h5⟩:=h;have hib:=h4 i hi;have hno : ∀b,b<=w.heap.size+1+1->some b ≠ (vs i).ownBlock:=fun b hb e=>by have:=hib.2 b e.symm;omega
 have b2:w2.heap[w.heap.size]? = some (.cells c 26 (0,0)):=(hg.block _ (by omega) (hno _ (by omega))).trans h2;have bz:w2.heap[w.heap.size+1]? = some (.cells #[.slice none 0 0,.slice none 0 0,.slice none 0 0] 142 (0,0)):=(hg.block _ (by omega) (hno _ (by omega))).trans hz;have b3:w2.heap[w.heap.size+1+1]? = some (.cells #[vs 0,vs 1,vs 2] 142 (0,0)):=(hg.block _ hsz (hno _ (by omega))).trans h3
 have hgG:w.heap.size+1+1<g:=by
  rcases hgg with e|e
  ·exact hib.2 g e
  ·omega
 have hoth : ∀k,k<3->k ≠ i->(vs k).ownBlock ≠ some g:=fun k hk hki e=>by
  rcases hgg with e2|e2
  ·exact h5 i k g hi hk (Ne.symm hki) e2 e
  ·have:=((h4 k hk).1.lt g e).2
   omega
 have hnn:(Value.slice (some ⟨g,0,none⟩) ((xs i).length+1) cap).ownBlock ≠ some (w.heap.size+1+1):=by
  simp only [Value.ownBlock,ne_eq,Option.some.injEq];omega
 refine⟨⟨?_,?_,?_,?_,fun j hj=>?_,fun j k b hj hk hjk hb=>?_⟩,?_,Lib.frozen_of_heap b3 i⟩
 ·exact(h1.grown hg h1.size (fun k hk=>(hib.1.lt k hk).1)).setCell (by show w.heap.size<=w.heap.size+1+1;omega) _
 ·exact(Below.heap_setCell _ _ _ _ (by show w.heap.size ≠ w.heap.size+1+1;omega)).trans b2
 ·rw [heap_setCell_same w2 _ i _ _ _ b3]
  have:i=0 ∨ i=1 ∨ i=2:=by omega
  rcases this with rfl|rfl|rfl <;> rfl
 ·exact(Below.heap_setCell _ _ _ _ (by show w.heap.size+1 ≠ w.heap.size+1+1;omega)).trans bz
 ·by_cases hji:j=i
  ·subst hji
   have e1:upd vs j (.slice (some ⟨g,0,none⟩) ((xs j).length+1) cap) j=.slice (some ⟨g,0,none⟩) ((xs j).length+1) cap:=by unfold upd;rw [if_pos rfl]
   have e2:upd xs j (xs j ++ [x]) j=xs j ++ [x]:=by unfold upd;rw [if_pos rfl]
   rw [e1,e2];refine⟨?_,fun b hb=>by simp only [Value.ownBlock,Option.some.injEq]at hb;omega⟩;have:=hown.kept (qaq w2 (w.heap.size+1+1) j (.slice (some ⟨g,0,none⟩) ((xs j).length+1) cap)) (Or.inr hnn);rw [List.length_append,List.map_append];exact this
  ·have e1:upd vs i (.slice (some ⟨g,0,none⟩) ((xs i).length+1) cap) j=vs j:=by unfold upd;rw [if_neg hji]
   have e2:upd xs i (xs i ++ [x]) j=xs j:=by unfold upd;rw [if_neg hji]
   rw [e1,e2];obtain⟨q1,q2⟩:=h4 j hj;refine⟨?_,q2⟩
   have hne:(vs j).ownBlock=none ∨ (vs j).ownBlock ≠ (vs i).ownBlock:=by
    cases hob:(vs j).ownBlock with
    | none=>exact .inl rfl
    | some b=>exact .inr (fun e=>h5 j i b hj hi hji hob e.symm)
   exact(q1.kept hg hne).kept (qaq w2 (w.heap.size+1+1) i _) (Or.inr (fun e=>by have:=q2 _ e;omega))
 ·unfold upd at hb ⊢
  by_cases hji:j=i
  ·rw [if_pos hji]at hb
   rw [if_neg (by omega)];simp only [Value.ownBlock,Option.some.injEq]at hb;subst hb;exact hoth k hk (by omega)
  ·rw [if_neg hji]at hb
   by_cases hki:k=i
   ·rw [if_pos hki]
    intro e;simp only [Value.ownBlock,Option.some.injEq]at e;subst e;exact hoth j hj hji hb
   ·rw [if_neg hki]
    exact h5 j k b hj hk hjk hb
 ·rw [Lib.cell_of_heap b3]
  have:i=0 ∨ i=1 ∨ i=2:=by omega
  rcases this with rfl|rfl|rfl <;> rfl
theorem LS.done (h:LS w c vs xs wr) :
  Below w.heap.size w (((wr.setCell ⟨w.heap.size+1,0,none⟩ (vs 0)).setCell ⟨w.heap.size+1,1,none⟩ (vs 1)).setCell ⟨w.heap.size+1,2,none⟩ (vs 2)) ∧
  (((wr.setCell ⟨w.heap.size+1,0,none⟩ (vs 0)).setCell ⟨w.heap.size+1,1,none⟩ (vs 1)).setCell ⟨w.heap.size+1,2,none⟩ (vs 2)).heap[w.heap.size+1]? = some (.cells #[vs 0,vs 1,vs 2] 142 (0,0)) ∧
  ∀j,j<3->(((wr.setCell ⟨w.heap.size+1,0,none⟩ (vs 0)).setCell ⟨w.heap.size+1,1,none⟩ (vs 1)).setCell ⟨w.heap.size+1,2,none⟩ (vs 2)).ownsRow w.heap.size 9 1 (vs j) (xs j).length ((xs j).map strV):=by
 obtain⟨h1,h2,h3,hz,h4,h5⟩:=h;refine⟨((h1.setCell (by show w.heap.size<=w.heap.size+1;omega) _).setCell (by show w.heap.size<=w.heap.size+1;omega) _).setCell (by show w.heap.size<=w.heap.size+1;omega) _,?_,fun j hj=>?_⟩
 ·have g0:=heap_setCell_same wr (w.heap.size+1) 0 _ _ (vs 0) hz
  have g1:=heap_setCell_same _ (w.heap.size+1) 1 _ _ (vs 1) g0;have g2:=heap_setCell_same _ (w.heap.size+1) 2 _ _ (vs 2) g1;exact g2
 ·obtain⟨q1,q2⟩:=h4 j hj
  have hn:(vs j).ownBlock ≠ some (w.heap.size+1):=fun e=>by have:=q2 _ e;omega
  exact((q1.kept (qaq _ _ 0 _) (Or.inr hn)).kept (qaq _ _ 1 _) (Or.inr hn)).kept (qaq _ _ 2 _) (Or.inr hn)
end
end
section
open Go.RowKit Ck
def qrg (s:PSchema) (w:World) (e:Ending) (w':World):Prop := ∃v0 v1 v2,e=.returned (.agg #[v0,v1,v2])/\w'.ownsRow w.heap.size 9 1 v0 (s.msgs.map (·.name)).length ((s.msgs.map (·.name)).map strV)/\w'.ownsRow w.heap.size 9 1 v1 (s.enums.map (·.name)).length ((s.enums.map (·.name)).map strV)/\w'.ownsRow w.heap.size 9 1 v2 (s.svcs.map (·.name)).length ((s.svcs.map (·.name)).map strV)/\Below w.heap.size w w'
theorem qa9 {w:World} {B:Nat} {e:TypeId} {z:Nat} {v:Value} {n:Nat} {xs:List Value} (h:w.ownsRow B e z v n xs) : ∃(q:Option Addr) (c:Nat),v=.slice q n c:=by
 rcases h.2 with⟨h1,h2⟩|⟨g,cap,cur,h1,_⟩
 ·exact⟨none,0,by rw [h1,h2]⟩
 ·exact⟨_,cap,h1⟩
theorem qea {α:Type} (f:Nat->α) (i:Nat) (x:α):upd f i x i=x:=by unfold upd;rw [if_pos rfl]
theorem qdc {α:Type} (f:Nat->α) (i j:Nat) (x:α) (h:j ≠ i):upd f i x j=f j:=by unfold upd;rw [if_neg h]
theorem ck_lists (sq1 sq2 sq3:Option Addr) (sm1 sm2 sm3 sc1 sc2 sc3:Nat) (s:PSchema) (w:World) (hs:VSchema w [.slice sq1 sm1 sc1,.slice sq2 sm2 sc2,.slice sq3 sm3 sc3] s) (hq1:s.msgs.length<=1000000000) (hq2:s.enums.length<=1000000000) (hq3:s.svcs.length<=1000000000) :
  Calls Tryz.prog 79 #[.agg #[.slice sq1 sm1 sc1,.slice sq2 sm2 sc2,.slice sq3 sm3 sc3]] w (qrg s w):=by
 obtain⟨_,_,_,hcs,hm1,hm2,hm3⟩:=hs;cases hcs;obtain rfl:=qdm hm1;obtain rfl:=qdm hm2;obtain rfl:=qdm hm3;obtain⟨q0,c0,hq0,hl0,_,he0⟩:=hm1;cases hq0;obtain⟨q1,c1,hq1,hl1,_,he1⟩:=hm2;cases hq1;obtain⟨q2,c2,hq2,hl2,_,he2⟩:=hm3;cases hq2;have EL0:=h_ he0;have EL1:=h_ he1;have EL2:=h_ he2;obtain⟨i0,hi,hz0,hz1,hz2⟩:=info_parts qc7;obtain⟨vs,hvs0⟩ : ∃vs:Nat->Value,vs=fun _=>.slice none 0 0:=⟨_,rfl⟩
 obtain⟨xs,hxs0⟩ : ∃xs:Nat->List Str,xs=fun _ => []:=⟨_,rfl⟩
 have hL:LS w #[.slice sq1 s.msgs.length sc1,.slice sq2 s.enums.length sc2,.slice sq3 s.svcs.length sc3] vs xs (((w.alloc (.cells #[.slice sq1 s.msgs.length sc1,.slice sq2 s.enums.length sc2,.slice sq3 s.svcs.length sc3] 26)).alloc (.cells #[.slice none 0 0,.slice none 0 0,.slice none 0 0] 142)).alloc (.cells #[.slice none 0 0,.slice none 0 0,.slice none 0 0] 142)):=by
  subst hvs0 hxs0;refine⟨(((Below.refl _ _).alloc (Nat.le_refl _) _).alloc (by simp) _).alloc (by simp;omega) _,?_,qb0 _ _ _ (by simp),?_,fun j hj=>⟨⟨rfl,.inl ⟨rfl,rfl⟩⟩,fun b hb=>by simp [Value.ownBlock]at hb⟩,fun j k b _ _ _ hb=>by simp [Value.ownBlock]at hb⟩
  ·exact(heap_alloc_old _ _ (by simp;omega)).trans ((heap_alloc_old _ _ (by simp)).trans (heap_alloc_new _ _))
  ·exact(heap_alloc_old _ _ (by simp)).trans (qb0 _ _ _ (by simp))
 have ho0:Hid (xs 0=[]):=h_ (by rw [hxs0]);have ho1:Hid (xs 1=[]):=h_ (by rw [hxs0]);have ho2:Hid (xs 2=[]):=h_ (by rw [hxs0]);have kk:=hL.boxed;clear he0 he1 he2 hvs0 hxs0
 go_enter Tryz.func79,Tryz.ntmps79
 go_wp2
 go_loopw [13] (fun i wr => ∃(k:Nat) (vs:Nat->Value) (xs:Nat->List Str),k<=s.msgs.length/\i=.int .i64 k/\LS w #[.slice sq1 s.msgs.length sc1,.slice sq2 s.enums.length sc2,.slice sq3 s.svcs.length sc3] vs xs wr/\(xs 0).length<=k/\Hid (xs 0 ++ (s.msgs.drop k).map (·.name)=(s.msgs.map (·.name)))/\Hid (xs 1=[])/\Hid (xs 2=[])) (fun i _=>s.msgs.length-(intOf i).toNat)
 case atStart=>exact⟨0,vs,xs,by omega,rfl,hL,by rw [ho0.out];simp,h_ (by rw [ho0.out];rfl),ho1,ho2⟩
 case round=>
  clear hL kk;obtain⟨k,vs,xs,hk,rfl,hL,hxl,hx,ho1,ho2⟩:=hrel;by_cases hlt:k<s.msgs.length
  ·have hki:(k:Int)<(s.msgs.length:Int):=by omega
   have hg:=List.getElem?_eq_getElem hlt;obtain⟨b,off,hqq,hbs,cs,hce,hvs⟩:=EL0.out k _ hg;have hdr:s.msgs.drop k=s.msgs[k] :: s.msgs.drop (k+1):=List.drop_eq_getElem_cons hlt;have hx2:=h_ (show(xs 0 ++ [s.msgs[k].name]) ++ (s.msgs.drop (k+1)).map (·.name)=(s.msgs.map (·.name))by rw [←hx.out,hdr,List.map_cons,List.append_assoc];rfl);subst hqq;obtain⟨_,_,_,_,hvv,g1,g2,g3,g4⟩:=hvs;obtain⟨u1,y1,rfl,_⟩:=qa5 g1;obtain⟨u2,y2,rfl,_⟩:=qa5 g2;obtain⟨u3,y3,rfl,_⟩:=qa5 g3;obtain⟨u4,y4,rfl,_⟩:=qa5 g4;subst hvv;have hLb0:=hL.base;have e0:=hLb0.some (hce 0 _ rfl);rw [Nat.add_zero]at e0;have e1:=hLb0.some (hce 1 _ rfl);have e2:=hLb0.some (hce 2 _ rfl);have e3:=hLb0.some (hce 3 _ rfl);have e4:=hLb0.some (hce 4 _ rfl);clear hce hx hdr hg g1 g2 g3 g4 hLb0;generalize s.msgs[k]=x at *;have hsz:=hL.size;have hLa:=hL.bel ((Bel.refl wr).alloc (.cells #[.string (S x.name),.slice u1 x.fields.length y1,.slice u2 x.res.length y2,.slice u3 x.gone.length y3,.slice u4 x.notes.length y4] 44));have hLn:=hLa.bel ((Bel.refl _).alloc (.cells #[.string (S x.name)] 9));have kk:=hLa.arr;have kk2:=hLn.arr;have hown:=hLn.own 0 (by omega);have H1:=h_ hLn;clear hLa hLn
   go_wp2_with (at_builtin;refine wpList_append_lies _ rfl _ _ 37 rfl w.heap.size 9 i0 (.string ByteArray.empty) 1 16 Tryz.underlying37 hi hz0 hz1 hz2 rfl (by decide) (vs 0) (xs 0).length ((xs 0).map strV) rfl hown ⟨wr.heap.size+1,0,none⟩ 1 1 [.string (S x.name)] rfl rfl (qh8 wr _ _ _) (by simp [Value.oneCell']) (by decide) ?c63 ?cby ?cbase (wr.heap.size+1+1) (by simp) ?_)
   case c63=>unfold maxLen;omega
   case cby=>omega
   case cbase=>first|omega|(simp;omega)
   intro g cap w2 hown1 hgrow hgg hglt;have hp:=LS.put (i:=0) H1.out (by omega) hown1 hgrow (hgg.elim (fun h=>.inl h) (fun h=>.inr (by rw [h];simp)));obtain⟨hp1,c3,f3⟩:=hp;have HP:=h_ hp1;clear hp1 hown1 hgrow hgg hglt hown kk kk2;go_wp2;refine⟨⟨k+1,_,_,by omega,rfl,HP.out,by rw [qea];simp;omega,h_ (by rw [qea];exact hx2.out),h_ (by rw [qdc _ _ _ _ (by omega)];exact ho1.out),h_ (by rw [qdc _ _ _ _ (by omega)];exact ho2.out)⟩,by simp [intOf];omega⟩
  ·have hkl:k=s.msgs.length:=by omega
   have ho0:Hid (xs 0=(s.msgs.map (·.name))):=h_ (by have:=hx.out;rw [hkl,List.drop_length]at this;simpa using this);subst hkl;clear hx;have kk:=hL.boxed;go_wp2
   go_loopw [28] (fun i wr => ∃(k:Nat) (vs:Nat->Value) (xs:Nat->List Str),k<=s.enums.length/\i=.int .i64 k/\LS w #[.slice sq1 s.msgs.length sc1,.slice sq2 s.enums.length sc2,.slice sq3 s.svcs.length sc3] vs xs wr/\(xs 1).length<=k/\Hid (xs 1 ++ (s.enums.drop k).map (·.name)=(s.enums.map (·.name)))/\Hid (xs 0=(s.msgs.map (·.name)))/\Hid (xs 2=[])) (fun i _=>s.enums.length-(intOf i).toNat)
   case atStart=>exact⟨0,vs,xs,by omega,rfl,hL,by rw [ho1.out];simp,h_ (by rw [ho1.out];rfl),ho0,ho2⟩
   case round=>
    clear hL kk;obtain⟨k,vs,xs,hk,rfl,hL,hxl,hx,ho0,ho2⟩:=hrel;by_cases hlt:k<s.enums.length
    ·have hki:(k:Int)<(s.enums.length:Int):=by omega
     have hg:=List.getElem?_eq_getElem hlt;obtain⟨b,off,hqq,hbs,cs,hce,hvs⟩:=EL1.out k _ hg;have hdr:s.enums.drop k=s.enums[k] :: s.enums.drop (k+1):=List.drop_eq_getElem_cons hlt;have hx2:=h_ (show(xs 1 ++ [s.enums[k].name]) ++ (s.enums.drop (k+1)).map (·.name)=(s.enums.map (·.name))by rw [←hx.out,hdr,List.map_cons,List.append_assoc];rfl);subst hqq;obtain⟨_,_,_,hvv,g1,g2,g3⟩:=hvs;obtain⟨u1,y1,rfl,_⟩:=qa5 g1;obtain⟨u2,y2,rfl,_⟩:=qa5 g2;obtain⟨u3,y3,rfl,_⟩:=qa5 g3;subst hvv;have hLb0:=hL.base;have e0:=hLb0.some (hce 0 _ rfl);rw [Nat.add_zero]at e0;have e1:=hLb0.some (hce 1 _ rfl);have e2:=hLb0.some (hce 2 _ rfl);have e3:=hLb0.some (hce 3 _ rfl);have e4:=hLb0.some (hce 4 _ rfl);clear hce hx hdr hg g1 g2 g3 hLb0;generalize s.enums[k]=x at *;have hsz:=hL.size;have hLa:=hL.bel ((Bel.refl wr).alloc (.cells #[.string (S x.name),.bool x.op,.slice u1 x.items.length y1,.slice u2 x.res.length y2,.slice u3 x.notes.length y3] 74));have hLn:=hLa.bel ((Bel.refl _).alloc (.cells #[.string (S x.name)] 9));have kk:=hLa.arr;have kk2:=hLn.arr;have hown:=hLn.own 1 (by omega);have H1:=h_ hLn;clear hLa hLn
     go_wp2_with (at_builtin;refine wpList_append_lies _ rfl _ _ 37 rfl w.heap.size 9 i0 (.string ByteArray.empty) 1 16 Tryz.underlying37 hi hz0 hz1 hz2 rfl (by decide) (vs 1) (xs 1).length ((xs 1).map strV) rfl hown ⟨wr.heap.size+1,0,none⟩ 1 1 [.string (S x.name)] rfl rfl (qh8 wr _ _ _) (by simp [Value.oneCell']) (by decide) ?c63 ?cby ?cbase (wr.heap.size+1+1) (by simp) ?_)
     case c63=>unfold maxLen;omega
     case cby=>omega
     case cbase=>first|omega|(simp;omega)
     intro g cap w2 hown1 hgrow hgg hglt;have hp:=LS.put (i:=1) H1.out (by omega) hown1 hgrow (hgg.elim (fun h=>.inl h) (fun h=>.inr (by rw [h];simp)));obtain⟨hp1,c3,f3⟩:=hp;have HP:=h_ hp1;clear hp1 hown1 hgrow hgg hglt hown kk kk2;go_wp2;refine⟨⟨k+1,_,_,by omega,rfl,HP.out,by rw [qea];simp;omega,h_ (by rw [qea];exact hx2.out),h_ (by rw [qdc _ _ _ _ (by omega)];exact ho0.out),h_ (by rw [qdc _ _ _ _ (by omega)];exact ho2.out)⟩,by simp [intOf];omega⟩
    ·have hkl:k=s.enums.length:=by omega
     have ho1:Hid (xs 1=(s.enums.map (·.name))):=h_ (by have:=hx.out;rw [hkl,List.drop_length]at this;simpa using this);subst hkl;clear hx;have kk:=hL.boxed;go_wp2
     go_loopw [43] (fun i wr => ∃(k:Nat) (vs:Nat->Value) (xs:Nat->List Str),k<=s.svcs.length/\i=.int .i64 k/\LS w #[.slice sq1 s.msgs.length sc1,.slice sq2 s.enums.length sc2,.slice sq3 s.svcs.length sc3] vs xs wr/\(xs 2).length<=k/\Hid (xs 2 ++ (s.svcs.drop k).map (·.name)=(s.svcs.map (·.name)))/\Hid (xs 0=(s.msgs.map (·.name)))/\Hid (xs 1=(s.enums.map (·.name)))) (fun i _=>s.svcs.length-(intOf i).toNat)
     case atStart=>exact⟨0,vs,xs,by omega,rfl,hL,by rw [ho2.out];simp,h_ (by rw [ho2.out];rfl),ho0,ho1⟩
     case round=>
      clear hL kk;obtain⟨k,vs,xs,hk,rfl,hL,hxl,hx,ho0,ho1⟩:=hrel;by_cases hlt:k<s.svcs.length
      ·have hki:(k:Int)<(s.svcs.length:Int):=by omega
       have hg:=List.getElem?_eq_getElem hlt;obtain⟨b,off,hqq,hbs,cs,hce,hvs⟩:=EL2.out k _ hg;have hdr:s.svcs.drop k=s.svcs[k] :: s.svcs.drop (k+1):=List.drop_eq_getElem_cons hlt;have hx2:=h_ (show(xs 2 ++ [s.svcs[k].name]) ++ (s.svcs.drop (k+1)).map (·.name)=(s.svcs.map (·.name))by rw [←hx.out,hdr,List.map_cons,List.append_assoc];rfl);subst hqq;obtain⟨_,_,hvv,g1,g2⟩:=hvs;obtain⟨u1,y1,rfl,_⟩:=qa5 g1;obtain⟨u2,y2,rfl,_⟩:=qa5 g2;subst hvv;have hLb0:=hL.base;have e0:=hLb0.some (hce 0 _ rfl);rw [Nat.add_zero]at e0;have e1:=hLb0.some (hce 1 _ rfl);have e2:=hLb0.some (hce 2 _ rfl);clear hce hx hdr hg g1 g2 hLb0;generalize s.svcs[k]=x at *;have hsz:=hL.size;have hLa:=hL.bel ((Bel.refl wr).alloc (.cells #[.string (S x.name),.slice u1 x.meths.length y1,.slice u2 x.notes.length y2] 68));have hLn:=hLa.bel ((Bel.refl _).alloc (.cells #[.string (S x.name)] 9));have kk:=hLa.arr;have kk2:=hLn.arr;have hown:=hLn.own 2 (by omega);have H1:=h_ hLn;clear hLa hLn
       go_wp2_with (at_builtin;refine wpList_append_lies _ rfl _ _ 37 rfl w.heap.size 9 i0 (.string ByteArray.empty) 1 16 Tryz.underlying37 hi hz0 hz1 hz2 rfl (by decide) (vs 2) (xs 2).length ((xs 2).map strV) rfl hown ⟨wr.heap.size+1,0,none⟩ 1 1 [.string (S x.name)] rfl rfl (qh8 wr _ _ _) (by simp [Value.oneCell']) (by decide) ?c63 ?cby ?cbase (wr.heap.size+1+1) (by simp) ?_)
       case c63=>unfold maxLen;omega
       case cby=>omega
       case cbase=>first|omega|(simp;omega)
       intro g cap w2 hown1 hgrow hgg hglt;have hp:=LS.put (i:=2) H1.out (by omega) hown1 hgrow (hgg.elim (fun h=>.inl h) (fun h=>.inr (by rw [h];simp)));obtain⟨hp1,c3,f3⟩:=hp;have HP:=h_ hp1;clear hp1 hown1 hgrow hgg hglt hown kk kk2;go_wp2;refine⟨⟨k+1,_,_,by omega,rfl,HP.out,by rw [qea];simp;omega,h_ (by rw [qea];exact hx2.out),h_ (by rw [qdc _ _ _ _ (by omega)];exact ho0.out),h_ (by rw [qdc _ _ _ _ (by omega)];exact ho1.out)⟩,by simp [intOf];omega⟩
      ·have hkl:k=s.svcs.length:=by omega
       have ho2:Hid (xs 2=(s.svcs.map (·.name))):=h_ (by have:=hx.out;rw [hkl,List.drop_length]at this;simpa using this);subst hkl;clear hx;have kk:=hL.boxed;obtain⟨z1,z2,z3⟩:=LS.done hL;have y0:=z3 0 (by omega);have y1:=z3 1 (by omega);have y2:=z3 2 (by omega);rw [ho0.out]at y0;rw [ho1.out]at y1;rw [ho2.out]at y2;have ka:=hL.arr;obtain⟨t0,d0,E0⟩:=qa9 (hL.own 0 (by omega));obtain⟨t1,d1,E1⟩:=qa9 (hL.own 1 (by omega));obtain⟨t2,d2,E2⟩:=qa9 (hL.own 2 (by omega));simp only [E0,E1,E2]at z1 z2 y0 y1 y2 ka;have Z1:=h_ z1;have Z2:=h_ z2;have Y0:=h_ y0;have Y1:=h_ y1;have Y2:=h_ y2;have kz : ∀o,wr.cell? ⟨w.heap.size+1,o,none⟩=(#[.slice none 0 0,.slice none 0 0,.slice none 0 0]:Array Value)[o]?:=fun o=>Lib.cell_of_heap hL.2.2.2.1 o
       have fz : ∀o,wr.frozen? ⟨w.heap.size+1,o,none⟩=false:=fun o=>Lib.frozen_of_heap hL.2.2.2.1 o
       clear z1 z2 z3 y0 y1 y2 hL kk E0 E1 E2;go_wp2;refine bodyPost_ret (v:=.agg #[.slice t0 (xs 0).length d0,.slice t1 (xs 1).length d1,.slice t2 (xs 2).length d2]) ?hres rfl ?hpost
       case hres=>exact results_cell_row rfl _ _ _ _ _ _ _ rfl Z2.out Tryz.underlying142 rfl (by kernel_rfl)
       case hpost=>exact⟨_,_,_,rfl,Y0.out,Y1.out,Y2.out,Z1.out⟩
end
end Go.Proofs.YtfoaaglbpmmhiaaGreatDoor
