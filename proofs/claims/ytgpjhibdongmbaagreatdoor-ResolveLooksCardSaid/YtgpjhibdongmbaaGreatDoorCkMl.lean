import Derived.Test.YtgpjhibdongmbaaGreatDoorIdWord
import Derived.Test.YtgpjhibdongmbaaGreatDoorLay
import Derived.Stop.LaidErr
import Derived.Test.YtgpjhibdongmbaaGreatDoorCkMem
import Derived.Test.YtgpjhibdongmbaaGreatDoorMap
set_option maxRecDepth 100000
set_option maxHeartbeats 4000000
set_option linter.unusedVariables false
set_option linter.unusedSimpArgs false
namespace Go.Proofs.YtgpjhibdongmbaaGreatDoor
section
open Go.RowKit
theorem gFam : Tryz.prog.globalNamed "wireschema/promote.families" = some 5 := by kernel_rfl
theorem gBnd : Tryz.prog.globalNamed "wireschema/promote.bounds" = some 1 := by kernel_rfl
theorem pFam:((Tryz.prog.globals[5]?).map (·.type)).all (fun t=>qgk Tryz.prog 4 t)=true:=by kernel_rfl
theorem pBnd:((Tryz.prog.globals[1]?).map (·.type)).all (fun t=>qgk Tryz.prog 4 t)=true:=by kernel_rfl
theorem fFam:flat (Rows.laid_wireschema_promote_families (H:=Unit))=Pr.famT.map (Value.int .i64):=by kernel_rfl
theorem fBnd:flat (Rows.laid_wireschema_promote_bounds (H:=Unit))=Pr.boundT.map (Value.int .u64):=by kernel_rfl
theorem tab_of0 {W : World} (h : laidMet Tryz.prog [("wireschema/promote.families", Rows.laid_wireschema_promote_families), ("wireschema/promote.bounds", Rows.laid_wireschema_promote_bounds), ("unicode/utf8.first", Rows.laid_unicode_utf8_first)] W) : Tab W := by
 obtain⟨ps,⟨g,t,cs,fuel,p,q,hg,ht,hv,hd,⟨g2,t2,cs2,fuel2,p2,q2,hg2,ht2,hv2,hd2,hr,hq⟩,hp⟩,_⟩:=h;obtain rfl:=Option.some.inj (gFam.symm.trans hg);obtain rfl:=Option.some.inj (gBnd.symm.trans hg2);have k1:=pFam;rw [ht]at k1;have k2:=pBnd;rw [ht2]at k2;have e1:=qcn 4 t cs.toList _ fuel k1 hd;have e2:=qcn 4 t2 cs2.toList _ fuel2 k2 hd2;rw [fFam]at e1;rw [fBnd]at e2
 have c1 : ∀i,i<27->W.cell? ⟨5,i,none⟩=some (.int .i64 (Pr.famT.getD i 0)):=by
  intro i hi;rw [World.var?_cell hg hv i, ←Array.getElem?_toList,e1,List.getElem?_map];have hl:i<Pr.famT.length:=hi;simp [List.getD,hl]
 have c2 : ∀i,i<18->W.cell? ⟨1,i,none⟩=some (.int .u64 (Pr.boundT.getD i 0)):=by
  intro i hi;rw [World.var?_cell hg2 hv2 i, ←Array.getElem?_toList,e2,List.getElem?_map];have hl:i<Pr.boundT.length:=hi;simp [List.getD,hl]
 refine⟨c1,c2,?_⟩;have:=block_lt_of_cell (c1 0 (by decide));simp at this;omega
theorem tab_eq:(Rows.laid_internal_strconv_uint64pow10:DataW Unit)=Lib.tabData .u64 Lib.pow10Tab:=by kernel_rfl
theorem pt_of {W:World} (h:laidMetH Tryz.prog qfm W):PT W:=by
 rw [MakeChecks.laidMetH_plain _ _ _ (by kernel_rfl)]at h;have h2:=h.tail.tail;rw [tab_eq]at h2;exact Lib.tabIs_of_head (g:=0) (t:=175) (e:=87) (n:=20) (by kernel_rfl) (by kernel_rfl) (by kernel_rfl) (by kernel_rfl) (by kernel_rfl) (by kernel_rfl) h2
theorem tab_of {W:World} (h:laidMetH Tryz.prog qfm W):Tab W:=by
 rw [MakeChecks.laidMetH_plain _ _ _ (by kernel_rfl)]at h;exact tab_of0 h.tail.tail.tail.tail
end
section
open Go.ChangeShapes Go.WideShapes Go.RowKit Go.Deep
section
variable {H : Type} {enc : TypeId × Value → H} {w : World} {base : Nat} {spare : Nat → Bool} {held : Bool}
def Wt (t:TypeId) (y:DataW H × List MemPlace):Prop:=(y.1.weights Tryz.prog t).all (·<=reachBytes)=true
def Opens (enc:TypeId × Value->H) (w:World) (base:Nat) (spare:Nat->Bool) (held:Bool) (t:TypeId) (T:List Value->Prop):Prop:=
 ∀(n:Nat) (cs:List Value) (y:DataW H × List MemPlace),DataW.trod enc Tryz.prog w base spare held n t cs=some y->Wt t y->T cs
theorem qef {P:Program} {e:TypeId} : ∀{l:List (DataW H)},(DataW.weightsAll P e l).all (·<=reachBytes)=true->∀d ∈ l,(d.weights P e).all (·<=reachBytes)=true
 | [],_,d,hd=>by cases hd
 | x :: r,h,d,hd=>by
  simp only [DataW.weightsAll,List.all_append,Bool.and_eq_true]at h;rcases List.mem_cons.1 hd with rfl|hd
  ·exact h.1
  ·exact qef h.2 d hd
theorem collect {α:Type} (R:Nat->α->Prop) : ∀n,(∀i,i<n->∃x,R i x)->∃xs:List α,xs.length=n/\∀i x,xs[i]? = some x->R i x
 | 0,_=>⟨[],rfl,fun i x h=>by simp at h⟩
 | n+1,h=>by
  obtain⟨xs,hl,hx⟩:=collect R n (fun i hi=>h i (by omega));obtain⟨x,hxn⟩:=h n (by omega);refine⟨xs ++ [x],by simp [hl],fun i y hy=>?_⟩;rcases Nat.lt_or_ge i xs.length with hi|hi
  ·rw [List.getElem?_append_left hi]at hy
   exact hx i y hy
  ·rw [List.getElem?_append_right hi]at hy
   have hi0:i-xs.length=0:=by
    have:=(List.getElem?_eq_some_iff.1 hy).1
    simpa using this
   rw [hi0]at hy;simp at hy;subst hy;rwa [show i=n by omega]
theorem qby {α:Type} {t e:TypeId} {C:Nat} {V:World->List Value->α->Prop} {Q:α->Prop} (ht:Tryz.prog.underlying t=some (.slice e)) (hC:Tryz.prog.cellsOf e=C) (hC0:0<C) (hb:decide (1<=Tryz.prog.bytesOf e)=true)
  (hV:Opens enc w base spare held e (fun cs => ∃x,V w cs x/\Q x)):Opens enc w base spare held t (fun cs => ∃v xs,cs=[v]/\Sv C V w v xs/\∀x ∈ xs,Q x):=by
 intro fuel cs y h hw;have hby:=of_decide_eq_true hb;rcases open_slice ht h with⟨rfl,_⟩|⟨a,len,cap,m,k,D,Pl,rfl,hbase,hl,hm,hmm,hy,hel⟩
 ·exact⟨_,[],rfl,Sl.nil _ _ _ _ _,fun x hx=>by cases hx⟩
 ·have hlm:len<=m:=by rw [hmm];split <;> omega
  subst hy;unfold Wt at hw;simp only [DataW.weights,ht,List.all_cons,List.all_append,Bool.and_eq_true,decide_eq_true_eq,List.length_map,List.length_range]at hw;obtain⟨hw1,hw2,_⟩:=hw
  have hlen:len<=140737488355328:=by
   have h3:len<=(len+(m-len))*Tryz.prog.bytesOf e:=Nat.le_trans (Nat.le_add_right len (m-len)) (Nat.le_mul_of_pos_right _ hby);unfold reachBytes at hw1;omega
  obtain⟨xs,hxl,hxs⟩:=collect (fun i x => ∃cs',w.cells? base (a.add (i*C)) C=some cs'/\V w cs' x/\Q x) len (fun i hi=>by
   obtain⟨cs',h1,h2⟩:=hel i (by omega);obtain⟨x,hx1,hx2⟩:=hV k cs' (D i,Pl i) h2 (qef hw2 (D i) (List.mem_map.2 ⟨i,List.mem_range.2 hi,rfl⟩));rw [hC]at h1
   exact⟨x,cs',h1,hx1,hx2⟩)
  subst hxl;refine⟨_,xs,rfl,⟨some a,cap,rfl,hlen,hl,fun i x hx=>?_⟩,fun x hx=>?_⟩
  ·obtain⟨cs',h1,hx1,_⟩:=hxs i x hx
   obtain⟨h2,h3,h4⟩:=World.cells?_some h1;obtain⟨b,off,spot⟩:=a;have hlc:0<cs'.length:=by omega
   have hx0:0<xs.length:=by
    have:=(List.getElem?_eq_some_iff.1 hx).1;omega
   obtain⟨cs0,g1,_⟩:=hxs 0 _ (List.getElem?_eq_getElem hx0);obtain⟨_,g3,g4⟩:=World.cells?_some g1;have hlc0:0<cs0.length:=by omega
   have hc1:w.cell? (((⟨b,off,spot⟩:Addr).add (0*C)).add 0)=some cs0[0]:=by
    rw [g4 0 hC0];exact List.getElem?_eq_getElem hlc0
   have hspot:spot=none:=by simpa [Addr.add]using World.cell?_spot hc1
   subst hspot
   have hcell:Cells w b (off+i*C) cs':=fun j v hv=>by
    have hj:j<C:=by
     have:=(List.getElem?_eq_some_iff.1 hv).1;omega
    have:=h4 j hj;rw [add_plain,add_plain]at this;rw [this];exact hv
   exact⟨b,off,rfl,World.block_lt_of_cell? w _ (hcell 0 cs'[0] (List.getElem?_eq_getElem hlc)),cs',hcell,hx1⟩
  ·obtain⟨i,hi⟩:=List.getElem?_of_mem hx
   obtain⟨_,_,_,h⟩:=hxs i x hi;exact h
theorem qj4 {t:TypeId} {k:IntKind} (ht:Tryz.prog.underlying t=some (.int k)):Opens enc w base spare held t (fun cs => ∃z,cs=[.int k z]/\(Lit.int k z).wf=true):=by
 intro n cs y h _;obtain⟨z,e,_,g⟩:=DataW.trod_int ht h;exact⟨z,e,g⟩
theorem qia {P:Program} : ∀{ts:List TypeId} {ds:List (DataW H)},(DataW.weightsEach P ts ds).all (·<=reachBytes)=true->∀(i:Nat) t d,ts[i]? = some t->ds[i]? = some d->(d.weights P t).all (·<=reachBytes)=true
 | [],_,_,i,t,d,h,_=>by simp at h
 | _ :: _,[],_,i,t,d,_,h=>by simp at h
 | t0 :: ts,d0 :: ds,hw,i,t,d,h1,h2=>by
  simp only [DataW.weightsEach,List.all_append,Bool.and_eq_true]at hw;cases i with
  | zero=>simp at h1 h2;subst h1;subst h2;exact hw.1
  | succ i=>exact qia hw.2 i t d (by simpa using h1) (by simpa using h2)
theorem qck {t:TypeId} {fs:Array Field} {T:List Value->Prop} (ht:Tryz.prog.underlying t=some (.struct fs)) (N:Nat) (hN:Tryz.prog.cellsOf t=N)
  (hT : ∀cs,cs.length=N->(∀(i off n:Nat) (t':TypeId) (X:List Value->Prop),(fs[i]?).map (fun f=>(f.offset,f.type))=some (off,t')->Tryz.prog.cellsOf t'=n->Opens enc w base spare held t' X->X ((cs.drop off).take n))->T cs):Opens enc w base spare held t T:=by
 intro n cs y h hw;obtain⟨xs,m,_,hy,hl,hlen,hf⟩:=DataW.trod_struct ht h;refine hT cs (hl.trans hN) (fun i off k t' X hi hk hX=>?_);obtain⟨f,hfi,hfe⟩:=Option.map_eq_some_iff.1 hi;simp only [Prod.mk.injEq]at hfe;obtain⟨rfl,rfl⟩:=hfe
 have hi':i<xs.length:=by
  have:=(Array.getElem?_eq_some_iff.1 hfi).1;omega
 have h1:=hf i f hfi;rw [List.getElem?_eq_getElem hi',hk]at h1;refine hX m _ xs[i] h1 ?_;subst hy;unfold Wt at hw ⊢;simp only [DataW.weights,ht]at hw;exact qia hw i f.type xs[i].1 (by simp [hfi]) (by simp [hi'])
end
end
section
open Go.ChangeShapes Go.WideShapes Go.RowKit Go.Deep Ck Rs
theorem i64_in {x:Int} (h:(Lit.int .i64 x).wf=true):inI x:=by
 unfold inI
 simpa [Lit.wf,IntKind.min,IntKind.max,IntKind.signed,IntKind.bits]using h
theorem sv_slice {α:Type} {C:Nat} {V:World->List Value->α->Prop} {w:World} {v:Value} {xs:List α} (h:Sv C V w v xs) : ∃(q:Option Addr) (c:Nat),v=.slice q xs.length c:=by
 obtain⟨q,c,h1,h2⟩:=qax h;exact⟨q,c,h1⟩
section
variable {H : Type} {enc : TypeId × Value → H} {w : World} {base : Nat} {spare : Nat → Bool} {held : Bool}
theorem list3 {α:Type} {l:List α} (h:l.length=3) : ∃a0 a1 a2,l=[a0,a1,a2]:=by
 match l,h with
 | [a0,a1,a2],_=>exact⟨a0,a1,a2,rfl⟩
theorem c_int:Tryz.prog.cellsOf 3=1:=by kernel_rfl
theorem qgo:Opens enc w base spare held 3 (fun cs => ∃z,cs=[.int .i64 z]/\(Lit.int .i64 z).wf=true):=qj4 Tryz.underlying3
theorem list4 {α:Type} {l:List α} (h:l.length=4) : ∃a0 a1 a2 a3,l=[a0,a1,a2,a3]:=by
 match l,h with
 | [a0,a1,a2,a3],_=>exact⟨a0,a1,a2,a3,rfl⟩
def actB (x:PAct):Prop:=inI x.num/\inI x.sub
def adB (d:PAdapt):Prop:=(∀x ∈ d.acts,actB x)/\∀n ∈ d.lacks,inI n
theorem qj5:Opens enc w base spare held 38 (fun cs => ∃x,VAct w cs x/\actB x):=by
 refine qck Tryz.underlying38 3 (by kernel_rfl) (fun cs hl hp=>?_);obtain⟨a0,a1,a2,rfl⟩:=list3 hl;obtain⟨n,h0,x0⟩ : ∃z,[a0]=[.int .i64 z]/\(Lit.int .i64 z).wf=true:=hp 0 0 1 3 _ rfl c_int qgo;obtain rfl:a0=_:=(List.cons.inj h0).1;obtain⟨k,h1,x1⟩ : ∃z,[a1]=[.int .i64 z]/\(Lit.int .i64 z).wf=true:=hp 1 1 1 3 _ rfl c_int qgo;obtain rfl:a1=_:=(List.cons.inj h1).1;obtain⟨s,h2,x2⟩ : ∃z,[a2]=[.int .i64 z]/\(Lit.int .i64 z).wf=true:=hp 2 2 1 3 _ rfl c_int qgo;obtain rfl:a2=_:=(List.cons.inj h2).1;exact⟨⟨n,k,s⟩,rfl,i64_in x0,i64_in x2⟩
theorem qhp:Opens enc w base spare held 41 (fun cs => ∃v xs,cs=[v]/\Sv 3 VAct w v xs/\∀x ∈ xs,actB x):=qby (C:=3) (V:=VAct) (Q:=actB) Tryz.underlying41 (by kernel_rfl) (by decide) (by kernel_rfl) qj5
theorem op_num:Opens enc w base spare held 3 (fun cs => ∃x,VInt w cs x/\inI x):=fun n cs y h hw=>by
 obtain⟨z,h1,h2⟩:=qgo n cs y h hw;exact⟨z,h1,i64_in h2⟩
theorem ops_int:Opens enc w base spare held 42 (fun cs => ∃v xs,cs=[v]/\Sv 1 VInt w v xs/\∀x ∈ xs,inI x):=qby (C:=1) (V:=VInt) (Q:=inI) Tryz.underlying42 (by kernel_rfl) (by decide) (by kernel_rfl) op_num
theorem op_Adapt:Opens enc w base spare held 44 (fun cs => ∃x,VAdapt w cs x/\adB x):=by
 refine qck Tryz.underlying44 4 (by kernel_rfl) (fun cs hl hp=>?_);obtain⟨a0,a1,a2,a3,rfl⟩:=list4 hl;obtain⟨n,h0,x0⟩ : ∃z,[a0]=[.int .i64 z]/\(Lit.int .i64 z).wf=true:=hp 0 0 1 3 _ rfl c_int qgo;obtain rfl:a0=_:=(List.cons.inj h0).1;obtain⟨k,h1,x1⟩ : ∃z,[a1]=[.int .i64 z]/\(Lit.int .i64 z).wf=true:=hp 1 1 1 3 _ rfl c_int qgo;obtain rfl:a1=_:=(List.cons.inj h1).1;obtain⟨v,ms,h2,x2,y2⟩ : ∃v xs,[a2]=[v]/\Sv 3 VAct w v xs/\∀x ∈ xs,actB x:=hp 2 2 1 41 _ rfl (by kernel_rfl) qhp;obtain rfl:a2=_:=(List.cons.inj h2).1;obtain⟨v,ls,h3,x3,y3⟩ : ∃v xs,[a3]=[v]/\Sv 1 VInt w v xs/\∀x ∈ xs,inI x:=hp 3 3 1 42 _ rfl (by kernel_rfl) ops_int;obtain rfl:a3=_:=(List.cons.inj h3).1;exact⟨⟨n,k,ms,ls⟩,⟨_,_,rfl,x2,x3⟩,y2,y3⟩
theorem qj3:Opens enc w base spare held 28 (fun cs => ∃v xs,cs=[v]/\Sv 4 VAdapt w v xs/\∀x ∈ xs,adB x):=qby (C:=4) (V:=VAdapt) (Q:=adB) Tryz.underlying28 (by kernel_rfl) (by decide) (by kernel_rfl) op_Adapt
theorem qij {r:Reach} {b0:Nat} {v:Value} {d:DataW H} {p:List MemPlace} (hv:Value.okWide Tryz.prog w r b0 28 v) (h:DataW.Trod enc Tryz.prog w base spare held 28 v d p) (hw:(d.weights Tryz.prog 28).all (·<=reachBytes)=true) :
  ∃(q:Option Addr) (c:Nat) (l:List PAdapt),v=.slice q l.length c/\Sv 4 VAdapt w (.slice q l.length c) l/\inRng l:=by
 obtain⟨q,n,c,rfl⟩:=okWide_slice Tryz.underlying28 hv;obtain⟨fuel,hf⟩:=h;obtain⟨u,xs,hc,hs,hq⟩:=qj3 fuel _ (d,p) hf hw
 have hu:u=.slice q n c:=by
  have:[Value.slice q n c]=[u]:=hc;exact(List.cons.inj this).1.symm
 subst hu;obtain⟨q',c',e⟩:=sv_slice hs;cases e;exact⟨q,c,xs,rfl,hs,hq⟩
end
end
section
open Go.RowKit
theorem ml_of {W:World} (h:W.ShapedOpen Tryz.prog):ML W:=Tryz.laysM146.s1_3 W h
end
end Go.Proofs.YtgpjhibdongmbaaGreatDoor
