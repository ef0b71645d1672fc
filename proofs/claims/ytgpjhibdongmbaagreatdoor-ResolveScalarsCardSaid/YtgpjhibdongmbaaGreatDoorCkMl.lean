import Derived.Test.YtgpjhibdongmbaaGreatDoorRsPt
import Derived.Test.YtgpjhibdongmbaaGreatDoorCkIdx
import Derived.Test.YtgpjhibdongmbaaGreatDoorStillL
import Derived.Test.YtgpjhibdongmbaaGreatDoorMap
set_option maxRecDepth 100000
set_option maxHeartbeats 4000000
set_option linter.unusedVariables false
set_option linter.unusedSimpArgs false
namespace Go.Proofs.YtgpjhibdongmbaaGreatDoor
section
open Go.ChangeShapes Go.WideShapes Go.RowKit Go.Deep
section
variable {H : Type} {enc : TypeId × Value → H} {w : World} {base : Nat} {spare : Nat → Bool} {held : Bool}
def Wt (t:TypeId) (y:DataW H × List MemPlace):Prop:=(y.1.weights Tryz.prog t).all (·<=reachBytes)=true
def Opens (enc:TypeId × Value->H) (w:World) (base:Nat) (spare:Nat->Bool) (held:Bool) (t:TypeId) (T:List Value->Prop):Prop:=
 ∀(n:Nat) (cs:List Value) (y:DataW H × List MemPlace),DataW.trod enc Tryz.prog w base spare held n t cs=some y->Wt t y->T cs
theorem qfd {P:Program} {e:TypeId} : ∀{l:List (DataW H)},(DataW.weightsAll P e l).all (·<=reachBytes)=true->∀d ∈ l,(d.weights P e).all (·<=reachBytes)=true
 | [],_,d,hd=>by cases hd
 | x :: r,h,d,hd=>by
  simp only [DataW.weightsAll,List.all_append,Bool.and_eq_true]at h;rcases List.mem_cons.1 hd with rfl|hd
  ·exact h.1
  ·exact qfd h.2 d hd
theorem collect {α:Type} (R:Nat->α->Prop) : ∀n,(∀i,i<n->∃x,R i x)->∃xs:List α,xs.length=n/\∀i x,xs[i]? = some x->R i x
 | 0,_=>⟨[],rfl,fun i x h=>by simp at h⟩
 | n+1,h=>by
  obtain⟨xs,hl,hx⟩:=collect R n (fun i hi=>h i (by omega));obtain⟨x,hxn⟩:=h n (by omega);refine⟨xs ++ [x],by simp [hl],fun i y hy=>?_⟩;rcases Nat.lt_or_ge i xs.length with hi|hi
  ·rw [List.getElem?_append_left hi]at hy
   exact hx i y hy
  ·rw [List.getElem?_append_right hi]at hy
   have hi0:i-xs.length=0:=by
    have:=(List.getElem?_eq_some_iff.1 hy).1
    simpa using this
   rw [hi0]at hy;simp at hy;subst hy;rwa [show i=n by omega]
theorem qbb {α:Type} {t e:TypeId} {C:Nat} {V:World->List Value->α->Prop} {Q:α->Prop} (ht:Tryz.prog.underlying t=some (.slice e)) (hC:Tryz.prog.cellsOf e=C) (hC0:0<C) (hb:decide (1<=Tryz.prog.bytesOf e)=true)
  (hV:Opens enc w base spare held e (fun cs => ∃x,V w cs x/\Q x)):Opens enc w base spare held t (fun cs => ∃v xs,cs=[v]/\Sv C V w v xs/\∀x ∈ xs,Q x):=by
 intro fuel cs y h hw;have hby:=of_decide_eq_true hb;rcases open_slice ht h with⟨rfl,_⟩|⟨a,len,cap,m,k,D,Pl,rfl,hbase,hl,hm,hmm,hy,hel⟩
 ·exact⟨_,[],rfl,Sl.nil _ _ _ _ _,fun x hx=>by cases hx⟩
 ·have hlm:len<=m:=by rw [hmm];split <;> omega
  subst hy;unfold Wt at hw;simp only [DataW.weights,ht,List.all_cons,List.all_append,Bool.and_eq_true,decide_eq_true_eq,List.length_map,List.length_range]at hw;obtain⟨hw1,hw2,_⟩:=hw
  have hlen:len<=140737488355328:=by
   have h3:len<=(len+(m-len))*Tryz.prog.bytesOf e:=Nat.le_trans (Nat.le_add_right len (m-len)) (Nat.le_mul_of_pos_right _ hby);unfold reachBytes at hw1;omega
  obtain⟨xs,hxl,hxs⟩:=collect (fun i x => ∃cs',w.cells? base (a.add (i*C)) C=some cs'/\V w cs' x/\Q x) len (fun i hi=>by
   obtain⟨cs',h1,h2⟩:=hel i (by omega);obtain⟨x,hx1,hx2⟩:=hV k cs' (D i,Pl i) h2 (qfd hw2 (D i) (List.mem_map.2 ⟨i,List.mem_range.2 hi,rfl⟩));rw [hC]at h1
   exact⟨x,cs',h1,hx1,hx2⟩)
  subst hxl;refine⟨_,xs,rfl,⟨some a,cap,rfl,hlen,hl,fun i x hx=>?_⟩,fun x hx=>?_⟩
  ·obtain⟨cs',h1,hx1,_⟩:=hxs i x hx
   obtain⟨h2,h3,h4⟩:=World.cells?_some h1;obtain⟨b,off,spot⟩:=a;have hlc:0<cs'.length:=by omega
   have hx0:0<xs.length:=by
    have:=(List.getElem?_eq_some_iff.1 hx).1;omega
   obtain⟨cs0,g1,_⟩:=hxs 0 _ (List.getElem?_eq_getElem hx0);obtain⟨_,g3,g4⟩:=World.cells?_some g1;have hlc0:0<cs0.length:=by omega
   have hc1:w.cell? (((⟨b,off,spot⟩:Addr).add (0*C)).add 0)=some cs0[0]:=by
    rw [g4 0 hC0];exact List.getElem?_eq_getElem hlc0
   have hspot:spot=none:=by simpa [Addr.add]using World.cell?_spot hc1
   subst hspot
   have hcell:Cells w b (off+i*C) cs':=fun j v hv=>by
    have hj:j<C:=by
     have:=(List.getElem?_eq_some_iff.1 hv).1;omega
    have:=h4 j hj;rw [add_plain,add_plain]at this;rw [this];exact hv
   exact⟨b,off,rfl,World.block_lt_of_cell? w _ (hcell 0 cs'[0] (List.getElem?_eq_getElem hlc)),cs',hcell,hx1⟩
  ·obtain⟨i,hi⟩:=List.getElem?_of_mem hx
   obtain⟨_,_,_,h⟩:=hxs i x hi;exact h
theorem qgn {t:TypeId} {k:IntKind} (ht:Tryz.prog.underlying t=some (.int k)):Opens enc w base spare held t (fun cs => ∃z,cs=[.int k z]/\(Lit.int k z).wf=true):=by
 intro n cs y h _;obtain⟨z,e,_,g⟩:=DataW.trod_int ht h;exact⟨z,e,g⟩
theorem qjh {t:TypeId} (ht:Tryz.prog.underlying t=some .bool):Opens enc w base spare held t (fun cs => ∃b,cs=[.bool b]):=by
 intro n cs y h _;obtain⟨z,e,_⟩:=DataW.trod_bool ht h;exact⟨z,e⟩
theorem qfr {t:TypeId} (ht:Tryz.prog.underlying t=some .string):Opens enc w base spare held t (fun cs => ∃l:List UInt8,cs=[.string (S l)]/\l.length<=140737488355328):=by
 intro n cs y h hw;obtain⟨s,e,hy,_⟩:=DataW.trod_string ht h;subst hy;unfold Wt at hw;simp only [DataW.weights,List.all_cons,List.all_nil,Bool.and_true,decide_eq_true_eq]at hw;unfold reachBytes at hw;exact⟨s.data.toList,e,by omega⟩
theorem qcs {t e:TypeId} (ht:Tryz.prog.underlying t=some (.slice e)) (hb:decide (1<=Tryz.prog.bytesOf e)=true):Opens enc w base spare held t (fun cs => ∃(p:Option Addr) (n c:Nat),cs=[.slice p n c]/\n<=140737488355328):=by
 intro n cs y h hw;have hby:=of_decide_eq_true hb;rcases open_slice ht h with⟨rfl,_⟩|⟨a,len,cap,m,k,D,Pl,rfl,_,hl,hm,hmm,hy,_⟩
 ·exact⟨_,_,_,rfl,by omega⟩
 ·subst hy
  unfold Wt at hw;simp only [DataW.weights,ht,List.all_cons,Bool.and_eq_true,decide_eq_true_eq,List.length_map,List.length_range]at hw;have h2:=hw.1;have h3:len<=(len+(m-len))*Tryz.prog.bytesOf e:=Nat.le_trans (Nat.le_add_right len (m-len)) (Nat.le_mul_of_pos_right _ hby);unfold reachBytes at h2;exact⟨_,_,_,rfl,by omega⟩
theorem qk2 {P:Program} : ∀{ts:List TypeId} {ds:List (DataW H)},(DataW.weightsEach P ts ds).all (·<=reachBytes)=true->∀(i:Nat) t d,ts[i]? = some t->ds[i]? = some d->(d.weights P t).all (·<=reachBytes)=true
 | [],_,_,i,t,d,h,_=>by simp at h
 | _ :: _,[],_,i,t,d,_,h=>by simp at h
 | t0 :: ts,d0 :: ds,hw,i,t,d,h1,h2=>by
  simp only [DataW.weightsEach,List.all_append,Bool.and_eq_true]at hw;cases i with
  | zero=>simp at h1 h2;subst h1;subst h2;exact hw.1
  | succ i=>exact qk2 hw.2 i t d (by simpa using h1) (by simpa using h2)
theorem qap {t:TypeId} {fs:Array Field} {T:List Value->Prop} (ht:Tryz.prog.underlying t=some (.struct fs)) (N:Nat) (hN:Tryz.prog.cellsOf t=N)
  (hT : ∀cs,cs.length=N->(∀(i off n:Nat) (t':TypeId) (X:List Value->Prop),(fs[i]?).map (fun f=>(f.offset,f.type))=some (off,t')->Tryz.prog.cellsOf t'=n->Opens enc w base spare held t' X->X ((cs.drop off).take n))->T cs):Opens enc w base spare held t T:=by
 intro n cs y h hw;obtain⟨xs,m,_,hy,hl,hlen,hf⟩:=DataW.trod_struct ht h;refine hT cs (hl.trans hN) (fun i off k t' X hi hk hX=>?_);obtain⟨f,hfi,hfe⟩:=Option.map_eq_some_iff.1 hi;simp only [Prod.mk.injEq]at hfe;obtain⟨rfl,rfl⟩:=hfe
 have hi':i<xs.length:=by
  have:=(Array.getElem?_eq_some_iff.1 hfi).1;omega
 have h1:=hf i f hfi;rw [List.getElem?_eq_getElem hi',hk]at h1;refine hX m _ xs[i] h1 ?_;subst hy;unfold Wt at hw ⊢;simp only [DataW.weights,ht]at hw;exact qk2 hw i f.type xs[i].1 (by simp [hfi]) (by simp [hi'])
end
end
section
open Go.ChangeShapes Go.WideShapes Go.RowKit Go.Deep Ck Rs
theorem i64_in {x:Int} (h:(Lit.int .i64 x).wf=true):inI x:=by
 unfold inI
 simpa [Lit.wf,IntKind.min,IntKind.max,IntKind.signed,IntKind.bits]using h
section
variable {H : Type} {enc : TypeId × Value → H} {w : World} {base : Nat} {spare : Nat → Bool} {held : Bool}
theorem list2 {α:Type} {l:List α} (h:l.length=2) : ∃a0 a1,l=[a0,a1]:=by
 match l,h with
 | [a0,a1],_=>exact⟨a0,a1,rfl⟩
theorem list3 {α:Type} {l:List α} (h:l.length=3) : ∃a0 a1 a2,l=[a0,a1,a2]:=by
 match l,h with
 | [a0,a1,a2],_=>exact⟨a0,a1,a2,rfl⟩
theorem list5 {α:Type} {l:List α} (h:l.length=5) : ∃a0 a1 a2 a3 a4,l=[a0,a1,a2,a3,a4]:=by
 match l,h with
 | [a0,a1,a2,a3,a4],_=>exact⟨a0,a1,a2,a3,a4,rfl⟩
theorem list7 {α:Type} {l:List α} (h:l.length=7) : ∃a0 a1 a2 a3 a4 a5 a6,l=[a0,a1,a2,a3,a4,a5,a6]:=by
 match l,h with
 | [a0,a1,a2,a3,a4,a5,a6],_=>exact⟨a0,a1,a2,a3,a4,a5,a6,rfl⟩
theorem list8 {α:Type} {l:List α} (h:l.length=8) : ∃a0 a1 a2 a3 a4 a5 a6 a7,l=[a0,a1,a2,a3,a4,a5,a6,a7]:=by
 match l,h with
 | [a0,a1,a2,a3,a4,a5,a6,a7],_=>exact⟨a0,a1,a2,a3,a4,a5,a6,a7,rfl⟩
theorem c_int:Tryz.prog.cellsOf 3=1:=by kernel_rfl
theorem qd2:Opens enc w base spare held 3 (fun cs => ∃z,cs=[.int .i64 z]/\(Lit.int .i64 z).wf=true):=qgn Tryz.underlying3
theorem c_uint64:Tryz.prog.cellsOf 87=1:=by kernel_rfl
theorem ql6:Opens enc w base spare held 87 (fun cs => ∃z,cs=[.int .u64 z]/\(Lit.int .u64 z).wf=true):=qgn Tryz.underlying87
theorem qc6:Tryz.prog.cellsOf 9=1:=by kernel_rfl
theorem qbl:Opens enc w base spare held 9 (fun cs => ∃l:List UInt8,cs=[.string (S l)]/\l.length<=140737488355328):=qfr Tryz.underlying9
theorem c_bool:Tryz.prog.cellsOf 4=1:=by kernel_rfl
theorem op_bool:Opens enc w base spare held 4 (fun cs => ∃b,cs=[.bool b]):=qjh Tryz.underlying4
end
end
section
open Go.ChangeShapes Go.WideShapes Go.RowKit Go.Deep Ck Rs
section
variable {H : Type} {enc : TypeId × Value → H} {w : World} {base : Nat} {spare : Nat → Bool} {held : Bool}
theorem op_Value:Opens enc w base spare held 93 (fun cs => ∃v,VVal cs v):=by
 refine qap Tryz.underlying93 7 (by kernel_rfl) (fun cs hl hp=>?_);obtain⟨a0,a1,a2,a3,a4,a5,a6,rfl⟩:=list7 hl;obtain⟨k,h0,x0⟩ : ∃z,[a0]=[.int .i64 z]/\(Lit.int .i64 z).wf=true:=hp 0 0 1 3 _ rfl c_int qd2;obtain rfl:a0=_:=(List.cons.inj h0).1;obtain⟨x,h1,x1⟩ : ∃z,[a1]=[.int .u64 z]/\(Lit.int .u64 z).wf=true:=hp 1 1 1 87 _ rfl c_uint64 ql6;obtain rfl:a1=_:=(List.cons.inj h1).1;obtain⟨l,h2,x2⟩ : ∃l:List UInt8,[a2]=[.string (S l)]/\l.length<=140737488355328:=hp 2 2 1 9 _ rfl qc6 qbl;obtain rfl:a2=_:=(List.cons.inj h2).1;obtain⟨p3,n1,c3,h3,x3⟩ : ∃(p:Option Addr) (n c:Nat),[a3]=[.slice p n c]/\n<=140737488355328:=hp 3 3 1 88 _ rfl (by kernel_rfl) (qcs Tryz.underlying88 (by kernel_rfl));obtain rfl:a3=_:=(List.cons.inj h3).1;obtain⟨p4,n2,c4,h4,x4⟩ : ∃(p:Option Addr) (n c:Nat),[a4]=[.slice p n c]/\n<=140737488355328:=hp 4 4 1 89 _ rfl (by kernel_rfl) (qcs Tryz.underlying89 (by kernel_rfl));obtain rfl:a4=_:=(List.cons.inj h4).1;obtain⟨p5,n3,c5,h5,x5⟩ : ∃(p:Option Addr) (n c:Nat),[a5]=[.slice p n c]/\n<=140737488355328:=hp 5 5 1 90 _ rfl (by kernel_rfl) (qcs Tryz.underlying90 (by kernel_rfl));obtain rfl:a5=_:=(List.cons.inj h5).1;obtain⟨p6,n4,c6,h6,x6⟩ : ∃(p:Option Addr) (n c:Nat),[a6]=[.slice p n c]/\n<=140737488355328:=hp 6 6 1 91 _ rfl (by kernel_rfl) (qcs Tryz.underlying91 (by kernel_rfl));obtain rfl:a6=_:=(List.cons.inj h6).1;exact⟨⟨k,x,l,n1,n2,n3,n4⟩,p3,p4,p5,p6,c3,c4,c5,c6,rfl,(qel x1).1,(qel x1).2,x3,x4,x5,x6⟩
theorem op_Note:Opens enc w base spare held 95 (fun cs => ∃x,VNote w cs x/\True):=by
 refine qap Tryz.underlying95 8 (by kernel_rfl) (fun cs hl hp=>?_);obtain⟨a0,a1,a2,a3,a4,a5,a6,a7,rfl⟩:=list8 hl;obtain⟨l,h0,x0⟩ : ∃l:List UInt8,[a0]=[.string (S l)]/\l.length<=140737488355328:=hp 0 0 1 9 _ rfl qc6 qbl;obtain rfl:a0=_:=(List.cons.inj h0).1;obtain⟨v,s1⟩ : ∃v,VVal [a1,a2,a3,a4,a5,a6,a7] v:=hp 1 1 7 93 _ rfl (by kernel_rfl) op_Value;exact⟨⟨l,v⟩,⟨_,rfl,s1⟩,trivial⟩
theorem qjg:Opens enc w base spare held 82 (fun cs => ∃v xs,cs=[v]/\Sv 8 VNote w v xs/\∀x ∈ xs,True):=qbb (V:=VNote) (Q:=fun x:PNote=>True) Tryz.underlying82 (by kernel_rfl) (by decide) (by kernel_rfl) op_Note
theorem op_Span:Opens enc w base spare held 116 (fun cs => ∃x,VSpan w cs x/\True):=by
 refine qap Tryz.underlying116 2 (by kernel_rfl) (fun cs hl hp=>?_);obtain⟨a0,a1,rfl⟩:=list2 hl;obtain⟨a,h0,x0⟩ : ∃z,[a0]=[.int .i64 z]/\(Lit.int .i64 z).wf=true:=hp 0 0 1 3 _ rfl c_int qd2;obtain rfl:a0=_:=(List.cons.inj h0).1;obtain⟨b,h1,x1⟩ : ∃z,[a1]=[.int .i64 z]/\(Lit.int .i64 z).wf=true:=hp 1 1 1 3 _ rfl c_int qd2;obtain rfl:a1=_:=(List.cons.inj h1).1;exact⟨⟨a,b⟩,rfl,trivial⟩
theorem ops_Span:Opens enc w base spare held 81 (fun cs => ∃v xs,cs=[v]/\Sv 2 VSpan w v xs/\∀x ∈ xs,True):=qbb (V:=VSpan) (Q:=fun x:PSpan=>True) Tryz.underlying81 (by kernel_rfl) (by decide) (by kernel_rfl) op_Span
theorem op_Item:Opens enc w base spare held 86 (fun cs => ∃x,VItem w cs x/\True):=by
 refine qap Tryz.underlying86 3 (by kernel_rfl) (fun cs hl hp=>?_);obtain⟨a0,a1,a2,rfl⟩:=list3 hl;obtain⟨nm,h0,x0⟩ : ∃l:List UInt8,[a0]=[.string (S l)]/\l.length<=140737488355328:=hp 0 0 1 9 _ rfl qc6 qbl;obtain rfl:a0=_:=(List.cons.inj h0).1;obtain⟨num,h1,x1⟩ : ∃z,[a1]=[.int .i64 z]/\(Lit.int .i64 z).wf=true:=hp 1 1 1 3 _ rfl c_int qd2;obtain rfl:a1=_:=(List.cons.inj h1).1;obtain⟨v2,ns,h2,s2,q2⟩ : ∃v xs,[a2]=[v]/\Sv 8 VNote w v xs/\∀x ∈ xs,True:=hp 2 2 1 82 _ rfl (by kernel_rfl) qjg;obtain rfl:a2=_:=(List.cons.inj h2).1;exact⟨⟨nm,num,ns⟩,⟨_,rfl,s2⟩,trivial⟩
theorem ops_Item:Opens enc w base spare held 80 (fun cs => ∃v xs,cs=[v]/\Sv 3 VItem w v xs/\∀x ∈ xs,True):=qbb (V:=VItem) (Q:=fun x:PItem=>True) Tryz.underlying80 (by kernel_rfl) (by decide) (by kernel_rfl) op_Item
theorem op_Enum:Opens enc w base spare held 84 (fun cs => ∃x,VEnum w cs x/\True):=by
 refine qap Tryz.underlying84 5 (by kernel_rfl) (fun cs hl hp=>?_);obtain⟨a0,a1,a2,a3,a4,rfl⟩:=list5 hl;obtain⟨nm,h0,x0⟩ : ∃l:List UInt8,[a0]=[.string (S l)]/\l.length<=140737488355328:=hp 0 0 1 9 _ rfl qc6 qbl;obtain rfl:a0=_:=(List.cons.inj h0).1;obtain⟨op,h1⟩ : ∃b,[a1]=[.bool b]:=hp 1 1 1 4 _ rfl c_bool op_bool;obtain rfl:a1=_:=(List.cons.inj h1).1;obtain⟨v2,its,h2,s2,q2⟩ : ∃v xs,[a2]=[v]/\Sv 3 VItem w v xs/\∀x ∈ xs,True:=hp 2 2 1 80 _ rfl (by kernel_rfl) ops_Item;obtain rfl:a2=_:=(List.cons.inj h2).1;obtain⟨v3,rs,h3,s3,q3⟩ : ∃v xs,[a3]=[v]/\Sv 2 VSpan w v xs/\∀x ∈ xs,True:=hp 3 3 1 81 _ rfl (by kernel_rfl) ops_Span;obtain rfl:a3=_:=(List.cons.inj h3).1;obtain⟨v4,ns,h4,s4,q4⟩ : ∃v xs,[a4]=[v]/\Sv 8 VNote w v xs/\∀x ∈ xs,True:=hp 4 4 1 82 _ rfl (by kernel_rfl) qjg;obtain rfl:a4=_:=(List.cons.inj h4).1;exact⟨⟨nm,op,its,rs,ns⟩,⟨_,_,_,rfl,s2,s3,s4⟩,trivial⟩
theorem ops_Enum:Opens enc w base spare held 23 (fun cs => ∃v xs,cs=[v]/\Sv 5 VEnum w v xs/\∀x ∈ xs,True):=qbb (V:=VEnum) (Q:=fun x:PEnum=>True) Tryz.underlying23 (by kernel_rfl) (by decide) (by kernel_rfl) op_Enum
theorem op_Op:Opens enc w base spare held 54 (fun cs => ∃x,VOp w cs x/\True):=by
 refine qap Tryz.underlying54 8 (by kernel_rfl) (fun cs hl hp=>?_);obtain⟨a0,a1,a2,a3,a4,a5,a6,a7,rfl⟩:=list8 hl;obtain⟨num,h0,x0⟩ : ∃z,[a0]=[.int .i64 z]/\(Lit.int .i64 z).wf=true:=hp 0 0 1 3 _ rfl c_int qd2;obtain rfl:a0=_:=(List.cons.inj h0).1;obtain⟨nm,h1,x1⟩ : ∃l:List UInt8,[a1]=[.string (S l)]/\l.length<=140737488355328:=hp 1 1 1 9 _ rfl qc6 qbl;obtain rfl:a1=_:=(List.cons.inj h1).1;obtain⟨al,h2,x2⟩ : ∃l:List UInt8,[a2]=[.string (S l)]/\l.length<=140737488355328:=hp 2 2 1 9 _ rfl qc6 qbl;obtain rfl:a2=_:=(List.cons.inj h2).1;obtain⟨ca,h3,x3⟩ : ∃z,[a3]=[.int .i64 z]/\(Lit.int .i64 z).wf=true:=hp 3 3 1 3 _ rfl c_int qd2;obtain rfl:a3=_:=(List.cons.inj h3).1;obtain⟨ke,h4,x4⟩ : ∃z,[a4]=[.int .i64 z]/\(Lit.int .i64 z).wf=true:=hp 4 4 1 3 _ rfl c_int qd2;obtain rfl:a4=_:=(List.cons.inj h4).1;obtain⟨ki,h5,x5⟩ : ∃z,[a5]=[.int .i64 z]/\(Lit.int .i64 z).wf=true:=hp 5 5 1 3 _ rfl c_int qd2;obtain rfl:a5=_:=(List.cons.inj h5).1;obtain⟨tg,h6,x6⟩ : ∃z,[a6]=[.int .i64 z]/\(Lit.int .i64 z).wf=true:=hp 6 6 1 3 _ rfl c_int qd2;obtain rfl:a6=_:=(List.cons.inj h6).1;obtain⟨un,h7,x7⟩ : ∃z,[a7]=[.int .i64 z]/\(Lit.int .i64 z).wf=true:=hp 7 7 1 3 _ rfl c_int qd2;obtain rfl:a7=_:=(List.cons.inj h7).1;exact⟨⟨num,nm,al,ca,ke,ki,tg,un⟩,rfl,trivial⟩
theorem ops_Op:Opens enc w base spare held 50 (fun cs => ∃v xs,cs=[v]/\Sv 8 VOp w v xs/\∀x ∈ xs,True):=qbb (C:=8) (V:=VOp) (Q:=fun x:POp=>True) Tryz.underlying50 (by kernel_rfl) (by decide) (by kernel_rfl) op_Op
theorem op_Prog:Opens enc w base spare held 52 (fun cs => ∃x,VProg w cs x/\True):=by
 refine qap Tryz.underlying52 3 (by kernel_rfl) (fun cs hl hp=>?_);obtain⟨a0,a1,a2,rfl⟩:=list3 hl;obtain⟨nm,h0,x0⟩ : ∃l:List UInt8,[a0]=[.string (S l)]/\l.length<=140737488355328:=hp 0 0 1 9 _ rfl qc6 qbl;obtain rfl:a0=_:=(List.cons.inj h0).1;obtain⟨v1,os,h1,s1,q1⟩ : ∃v xs,[a1]=[v]/\Sv 8 VOp w v xs/\∀x ∈ xs,True:=hp 1 1 1 50 _ rfl (by kernel_rfl) ops_Op;obtain rfl:a1=_:=(List.cons.inj h1).1;obtain⟨us,h2,x2⟩ : ∃z,[a2]=[.int .i64 z]/\(Lit.int .i64 z).wf=true:=hp 2 2 1 3 _ rfl c_int qd2;obtain rfl:a2=_:=(List.cons.inj h2).1;exact⟨⟨nm,os,us⟩,⟨_,rfl,s1⟩,trivial⟩
theorem ops_Prog:Opens enc w base spare held 22 (fun cs => ∃v xs,cs=[v]/\Sv 3 VProg w v xs/\∀x ∈ xs,True):=qbb (C:=3) (V:=VProg) (Q:=fun x:PProg=>True) Tryz.underlying22 (by kernel_rfl) (by decide) (by kernel_rfl) op_Prog
theorem op_Plan:Opens enc w base spare held 25 (fun cs => ∃x,VPlan w cs x/\True):=by
 refine qap Tryz.underlying25 2 (by kernel_rfl) (fun cs hl hp=>?_);obtain⟨a0,a1,rfl⟩:=list2 hl;obtain⟨v0,gs,h0,s0,q0⟩ : ∃v xs,[a0]=[v]/\Sv 3 VProg w v xs/\∀x ∈ xs,True:=hp 0 0 1 22 _ rfl (by kernel_rfl) ops_Prog;obtain rfl:a0=_:=(List.cons.inj h0).1;obtain⟨v1,es,h1,s1,q1⟩ : ∃v xs,[a1]=[v]/\Sv 5 VEnum w v xs/\∀x ∈ xs,True:=hp 1 1 1 23 _ rfl (by kernel_rfl) ops_Enum;obtain rfl:a1=_:=(List.cons.inj h1).1;exact⟨⟨gs,es⟩,⟨_,_,rfl,s0,s1⟩,trivial⟩
theorem arg_Plan {r:Reach} {b0:Nat} {v:Value} {d:DataW H} {p:List MemPlace} (hv:Value.okWide Tryz.prog w r b0 25 v) (h:DataW.Trod enc Tryz.prog w base spare held 25 v d p) (hw:(d.weights Tryz.prog 25).all (·<=reachBytes)=true) :
  ∃(vs:List Value) (s:PPlan),v=.agg vs.toArray/\VPlan w vs s:=by
 obtain⟨cs,rfl,hsz⟩:=okWide_struct Tryz.underlying25 hv;obtain⟨fuel,hf⟩:=h;obtain⟨s,hs,_⟩:=op_Plan fuel _ (d,p) hf hw;exact⟨cs.toList,s,by simp,hs⟩
end
end
section
open Go.RowKit
theorem ml_of {W:World} (h:W.ShapedOpen Tryz.prog):ML W:=Tryz.laysM146.s1_3 W h
end
end Go.Proofs.YtgpjhibdongmbaaGreatDoor
