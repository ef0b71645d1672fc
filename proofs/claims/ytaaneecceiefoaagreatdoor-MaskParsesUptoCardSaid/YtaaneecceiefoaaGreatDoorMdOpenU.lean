import Derived.Test.YtaaneecceiefoaaGreatDoorTwo
import Derived.Test.YtaaneecceiefoaaGreatDoorRows
import Derived.Test.YtaaneecceiefoaaGreatDoorMaVM
import Derived.Test.YtaaneecceiefoaaGreatDoorMdLaw
set_option maxRecDepth 100000
set_option maxHeartbeats 4000000
set_option linter.unusedVariables false
set_option linter.unusedSimpArgs false
namespace Go.Proofs.YtaaneecceiefoaaGreatDoor
section
open Go.ChangeShapes Go.WideShapes Go.RowKit Go.Deep Ma
section
variable {H : Type} {enc : TypeId × Value → H} {w : World} {base : Nat} {spare : Nat → Bool} {held : Bool}
def qcp (N:Nat) (enc:TypeId × Value->H) (w:World) (base:Nat) (spare:Nat->Bool) (held:Bool) (t:TypeId) (T:List Value->Prop):Prop:=
 ∀(n:Nat) (cs:List Value) (y:DataW H × List MemPlace),DataW.trod enc Tryz.prog w base spare held n t cs=some y->Wt t y->Rows.uptoBulk y.1<=N->T cs
theorem bk_pos (d:DataW H):1<=Rows.uptoBulk d:=by
 cases d with
 | lit l=>cases l <;> simp [Rows.uptoBulk]
 | _=>simp [Rows.uptoBulk]
theorem qq0 : ∀{l:List (DataW H)} {d:DataW H},d ∈ l->Rows.uptoBulk d<=Rows.uptoBulkAll l
 | a :: l,d,h=>by
  rw [Rows.uptoBulkAll];rcases List.mem_cons.1 h with rfl|h
  ·omega
  ·have:=qq0 h
   omega
theorem bk_len : ∀(l:List (DataW H)),l.length<=Rows.uptoBulkAll l
 | []=>by simp
 | a :: l=>by
  rw [Rows.uptoBulkAll,List.length_cons];have:=bk_len l;have:=bk_pos a;omega
theorem qhx (t:TypeId) (T:List Value->Prop):qcp 0 enc w base spare held t T:=fun n cs y _ _ hk=>by
 have:=bk_pos y.1;omega
theorem qft {α:Type} {N:Nat} {t e:TypeId} {C:Nat} {V:World->List Value->α->Prop} {Q:α->Prop} (ht:Tryz.prog.underlying t=some (.slice e)) (hC:Tryz.prog.cellsOf e=C) (hC0:0<C) (hb:decide (1<=Tryz.prog.bytesOf e)=true)
  (hV:qcp N enc w base spare held e (fun cs => ∃x,V w cs x/\Q x)):qcp N enc w base spare held t (fun cs => ∃v xs,cs=[v]/\SlA (fun b=>b<w.heap.size) C V w v xs/\xs.length<=N/\xs.length*Tryz.prog.bytesOf e<=140737488351232/\∀x ∈ xs,Q x):=by
 intro fuel cs y h hw hk;have hby:=of_decide_eq_true hb;rcases open_slice ht h with⟨rfl,_⟩|⟨a,len,cap,m,k,D,Pl,rfl,hbase,hl,hm,hmm,hy,hel⟩
 ·exact⟨_,[],rfl,SlA.nil _ _ _ _ _ _,by simp,by simp,fun x hx=>by cases hx⟩
 ·have hlm:len<=m:=by rw [hmm];split <;> omega
  subst hy;simp only [Rows.uptoBulk]at hk;unfold Wt at hw;simp only [DataW.weights,ht,List.all_cons,List.all_append,Bool.and_eq_true,decide_eq_true_eq,List.length_map,List.length_range]at hw;obtain⟨hw1,hw2,_⟩:=hw
  have hlen:len<=140737488355328:=by
   have h3:len<=(len+(m-len))*Tryz.prog.bytesOf e:=Nat.le_trans (Nat.le_add_right len (m-len)) (Nat.le_mul_of_pos_right _ hby);unfold reachBytes at hw1;omega
  have hlb:len*Tryz.prog.bytesOf e<=140737488351232:=by
   unfold reachBytes at hw1;exact Nat.le_trans (Nat.mul_le_mul_right _ (Nat.le_add_right len (m-len))) hw1
  have hk1:=bk_len ((List.range len).map D);rw [List.length_map,List.length_range]at hk1;have hkl:len<=N:=by omega
  obtain⟨xs,hxl,hxs⟩:=qko (fun i x => ∃cs',w.cells? base (a.add (i*C)) C=some cs'/\V w cs' x/\Q x) len (fun i hi=>by
   obtain⟨cs',h1,h2⟩:=hel i (by omega);obtain⟨x,hx1,hx2⟩:=hV k cs' (D i,Pl i) h2 (qco hw2 (D i) (List.mem_map.2 ⟨i,List.mem_range.2 hi,rfl⟩)) (by have:=qq0 (l:=(List.range len).map D) (List.mem_map.2 ⟨i,List.mem_range.2 hi,rfl⟩);show Rows.uptoBulk (D i)<=_;omega);rw [hC]at h1
   exact⟨x,cs',h1,hx1,hx2⟩)
  subst hxl;refine⟨_,xs,rfl,⟨some a,cap,rfl,hlen,hl,fun i x hx=>?_⟩,hkl,hlb,fun x hx=>?_⟩
  ·obtain⟨cs',h1,hx1,_⟩:=hxs i x hx
   obtain⟨h2,h3,h4⟩:=World.cells?_some h1;obtain⟨b,off,spot⟩:=a;have hlc:0<cs'.length:=by omega
   have hx0:0<xs.length:=by
    have:=(List.getElem?_eq_some_iff.1 hx).1;omega
   obtain⟨cs0,g1,_⟩:=hxs 0 _ (List.getElem?_eq_getElem hx0);obtain⟨_,g3,g4⟩:=World.cells?_some g1;have hlc0:0<cs0.length:=by omega
   have hc1:w.cell? (((⟨b,off,spot⟩:Addr).add (0*C)).add 0)=some cs0[0]:=by
    rw [g4 0 hC0];exact List.getElem?_eq_getElem hlc0
   have hspot:spot=none:=by simpa [Addr.add]using World.cell?_spot hc1
   subst hspot
   have hcell:Cells w b (off+i*C) cs':=fun j v hv=>by
    have hj:j<C:=by
     have:=(List.getElem?_eq_some_iff.1 hv).1;omega
    have:=h4 j hj;rw [add_plain,add_plain]at this;rw [this];exact hv
   have hblt:=World.block_lt_of_cell? w _ (hcell 0 cs'[0] (List.getElem?_eq_getElem hlc));exact⟨b,off,cs',rfl,hblt,hblt,hcell,hx1⟩
  ·obtain⟨i,hi⟩:=List.getElem?_of_mem hx
   obtain⟨_,_,_,h⟩:=hxs i x hi;exact h
theorem qhz {N:Nat} {t:TypeId} {k:IntKind} (ht:Tryz.prog.underlying t=some (.int k)):qcp N enc w base spare held t (fun cs => ∃z,cs=[.int k z]/\(Lit.int k z).wf=true):=by
 intro n cs y h _ _;obtain⟨z,e,_,g⟩:=DataW.trod_int ht h;exact⟨z,e,g⟩
theorem qk1 {N:Nat} {t:TypeId} (ht:Tryz.prog.underlying t=some .string):qcp N enc w base spare held t (fun cs => ∃l:List UInt8,cs=[.string (S l)]/\l.length<=N):=by
 intro n cs y h hw hk;obtain⟨s,e,hy,_⟩:=DataW.trod_string ht h;subst hy;simp only [Rows.uptoBulk]at hk;exact⟨s.data.toList,e,by omega⟩
theorem qe4 {N:Nat} {t:TypeId} {fs:Array Field} {T:List Value->Prop} (ht:Tryz.prog.underlying t=some (.struct fs)) (C:Nat) (hC:Tryz.prog.cellsOf t=C)
  (hT : ∀cs,cs.length=C->(∀(i off n:Nat) (t':TypeId) (X:List Value->Prop),(fs[i]?).map (fun f=>(f.offset,f.type))=some (off,t')->Tryz.prog.cellsOf t'=n->qcp N enc w base spare held t' X->X ((cs.drop off).take n))->T cs):qcp (N+1) enc w base spare held t T:=by
 intro n cs y h hw hb;obtain⟨xs,m,_,hy,hl,hlen,hf⟩:=DataW.trod_struct ht h;refine hT cs (hl.trans hC) (fun i off k t' X hi hk hX=>?_);obtain⟨f,hfi,hfe⟩:=Option.map_eq_some_iff.1 hi;simp only [Prod.mk.injEq]at hfe;obtain⟨rfl,rfl⟩:=hfe
 have hi':i<xs.length:=by
  have:=(Array.getElem?_eq_some_iff.1 hfi).1;omega
 have h1:=hf i f hfi;rw [List.getElem?_eq_getElem hi',hk]at h1;subst hy;refine hX m _ xs[i] h1 ?_ (by have:=qq0 (l:=xs.map (·.1)) (d:=xs[i].1) (List.mem_map.2 ⟨xs[i],List.getElem_mem hi',rfl⟩);simp only [Rows.uptoBulk]at hb;omega);unfold Wt at hw ⊢;simp only [DataW.weights,ht]at hw;exact qjg hw i f.type xs[i].1 (by simp [hfi]) (by simp [hi'])
theorem qhy {N:Nat} {t:TypeId} {fs:Array Field} {T:List Value->Prop} (ht:Tryz.prog.underlying t=some (.struct fs)) (C:Nat) (hC:Tryz.prog.cellsOf t=C)
  (hT : ∀cs,cs.length=C->(∀(i off n:Nat) (t':TypeId) (X:List Value->Prop),(fs[i]?).map (fun f=>(f.offset,f.type))=some (off,t')->Tryz.prog.cellsOf t'=n->qcp N enc w base spare held t' X->X ((cs.drop off).take n))->T cs):qcp N enc w base spare held t T:=
 fun n cs y h hw hb=>qe4 (N:=N) ht C hC hT n cs y h hw (Nat.le_succ_of_le hb)
theorem qpg {α:Type} {l:List α} (h:l.length=2) : ∃a0 a1,l=[a0,a1]:=by
 match l,h with
 | [a0,a1],_=>exact⟨a0,a1,rfl⟩
theorem nlist4 {α:Type} {l:List α} (h:l.length=4) : ∃a0 a1 a2 a3,l=[a0,a1,a2,a3]:=by
 match l,h with
 | [a0,a1,a2,a3],_=>exact⟨a0,a1,a2,a3,rfl⟩
theorem nlist7 {α:Type} {l:List α} (h:l.length=7) : ∃a0 a1 a2 a3 a4 a5 a6,l=[a0,a1,a2,a3,a4,a5,a6]:=by
 match l,h with
 | [a0,a1,a2,a3,a4,a5,a6],_=>exact⟨a0,a1,a2,a3,a4,a5,a6,rfl⟩
theorem nlist8 {α:Type} {l:List α} (h:l.length=8) : ∃a0 a1 a2 a3 a4 a5 a6 a7,l=[a0,a1,a2,a3,a4,a5,a6,a7]:=by
 match l,h with
 | [a0,a1,a2,a3,a4,a5,a6,a7],_=>exact⟨a0,a1,a2,a3,a4,a5,a6,a7,rfl⟩
theorem nlist14 {α:Type} {l:List α} (h:l.length=14) : ∃a0 a1 a2 a3 a4 a5 a6 a7 a8 a9 a10 a11 a12 a13,l=[a0,a1,a2,a3,a4,a5,a6,a7,a8,a9,a10,a11,a12,a13]:=by
 match l,h with
 | [a0,a1,a2,a3,a4,a5,a6,a7,a8,a9,a10,a11,a12,a13],_=>exact⟨a0,a1,a2,a3,a4,a5,a6,a7,a8,a9,a10,a11,a12,a13,rfl⟩
theorem ql8:Tryz.prog.cellsOf 3=1:=by kernel_rfl
theorem qk5:Tryz.prog.cellsOf 40=1:=by kernel_rfl
theorem qk6:Tryz.prog.cellsOf 9=1:=by kernel_rfl
def VMk (n:Nat) (w:World) (vs:List Value) (x:PMask):Prop := ∃sv,vs=[.int .i64 x.num,sv]/\MaskD (fun b=>b<w.heap.size) n w sv x.subs
theorem qnf {n:Nat} {w:World} {v:Value} {l:List PMask} (h:SlA (fun b=>b<w.heap.size) 2 (VMk n) w v l):MaskD (fun b=>b<w.heap.size) (n+1) w v l:=by
 obtain⟨p,c,h1,h2,h3,hel⟩:=h;refine⟨p,c,h1,h2,h3,fun i x hx=>?_⟩;obtain⟨b,off,vs,e1,e2,e3,e4,sv,e5,e6⟩:=hel i x hx;subst e5;exact⟨b,off,sv,e1,e2,e3,e4 0 _ rfl,e4 1 _ rfl,e6⟩
theorem qj3 (B:Nat) : ∀N:Nat,qcp N enc w base spare held 27 (fun cs => ∃v l,cs=[v]/\MaskD (fun b=>b<w.heap.size) N w v l/\(N<=B->Wd B N l))
 | 0=>qhx _ _
 | N+1=>by
  have hE:qcp (N+1) enc w base spare held 61 (fun cs => ∃x,VMk N w cs x/\(N<=B->Wd B N x.subs)):=by
   refine qe4 Tryz.underlying61 2 (by kernel_rfl) (fun cs hl hp=>?_);obtain⟨a0,a1,rfl⟩:=qpg hl;obtain⟨z,h0,_⟩ : ∃z,[a0]=[.int .i64 z]/\(Lit.int .i64 z).wf=true:=hp 0 0 1 3 _ rfl ql8 (qhz Tryz.underlying3);obtain rfl:a0=_:=(List.cons.inj h0).1;obtain⟨v,l,h1,h2,h3⟩ : ∃v l,[a1]=[v]/\MaskD (fun b=>b<w.heap.size) N w v l/\(N<=B->Wd B N l):=hp 1 1 1 27 _ rfl (by kernel_rfl) (qj3 B N);obtain rfl:a1=_:=(List.cons.inj h1).1;exact⟨.mk z l,⟨_,rfl,h2⟩,h3⟩
  intro fuel cs y h hw hk;obtain⟨v,l,e,h1,h2,_,h3⟩:=qft (C:=2) (V:=VMk N) (Q:=fun x=>N<=B->Wd B N x.subs) Tryz.underlying27 (by kernel_rfl) (by decide) (by kernel_rfl) hE fuel cs y h hw hk;exact⟨v,l,e,qnf h1,fun hB=>⟨Nat.le_trans h2 hB,fun x hx=>h3 x hx (by omega)⟩⟩
theorem on_Raw (N:Nat):qcp N enc w base spare held 226 (fun cs => ∃x:PRaw,VRaw w cs x/\True):=by
 cases N with
 | zero=>exact qhx _ _
 | succ N=>
  refine qe4 Tryz.underlying226 4 (by kernel_rfl) (fun cs hl hp=>?_);obtain⟨a0,a1,a2,a3,rfl⟩:=nlist4 hl;obtain⟨n,h0,_⟩ : ∃z,[a0]=[.int .i64 z]/\(Lit.int .i64 z).wf=true:=hp 0 0 1 3 _ rfl ql8 (qhz Tryz.underlying3);obtain rfl:a0=_:=(List.cons.inj h0).1;obtain⟨k,h1,_⟩ : ∃z,[a1]=[.int .i64 z]/\(Lit.int .i64 z).wf=true:=hp 1 1 1 3 _ rfl ql8 (qhz Tryz.underlying3);obtain rfl:a1=_:=(List.cons.inj h1).1;obtain⟨x,h2,x2⟩ : ∃z,[a2]=[.int .u64 z]/\(Lit.int .u64 z).wf=true:=hp 2 2 1 40 _ rfl qk5 (qhz Tryz.underlying40);obtain rfl:a2=_:=(List.cons.inj h2).1;obtain⟨l,h3,_⟩ : ∃l:List UInt8,[a3]=[.string (S l)]/\l.length<=N:=hp 3 3 1 9 _ rfl qk6 (qk1 Tryz.underlying9);obtain rfl:a3=_:=(List.cons.inj h3).1;have hx:=(qdt x2).1;refine⟨⟨n,k,x.toNat,l⟩,?_,trivial⟩;show _=[_,_,Value.int .u64 (x.toNat:Int),_]
  rw [Int.toNat_of_nonneg hx]
def valT (n:Nat) (w:World) (cs:List Value) (v:CV):Prop := ∃d:VC,cs=d.cells/\ValC (fun b=>b<w.heap.size) n w d v
theorem qn2 : ∀N:Nat,qcp N enc w base spare held 46 (fun cs => ∃v,valT N w cs v/\WdV 1034834473170 N v)
 | 0=>qhx _ _
 | N+1=>by
  have IH:=qn2 N
  have hSlot:qcp N enc w base spare held 73 (fun cs => ∃x:Int × CV,VSlot (fun b=>b<w.heap.size) N w cs x/\WdV 1034834473170 N x.2):=by
   refine qhy Tryz.underlying73 8 (by kernel_rfl) (fun cs hl hp=>?_);obtain⟨a0,a1,a2,a3,a4,a5,a6,a7,rfl⟩:=nlist8 hl;obtain⟨z,h0,_⟩ : ∃z,[a0]=[.int .i64 z]/\(Lit.int .i64 z).wf=true:=hp 0 0 1 3 _ rfl ql8 (qhz Tryz.underlying3);obtain rfl:a0=_:=(List.cons.inj h0).1;obtain⟨v,⟨d,e,h1⟩,h2⟩ : ∃v,valT N w [a1,a2,a3,a4,a5,a6,a7] v/\WdV 1034834473170 N v:=hp 1 1 7 46 _ rfl (by kernel_rfl) IH;exact⟨(z,v),⟨d,by rw [e],h1⟩,h2⟩
  have hPair:qcp N enc w base spare held 224 (fun cs => ∃x:CV × CV,VPair (fun b=>b<w.heap.size) N w cs x/\True):=by
   refine qhy Tryz.underlying224 14 (by kernel_rfl) (fun cs hl hp=>?_);obtain⟨a0,a1,a2,a3,a4,a5,a6,a7,a8,a9,a10,a11,a12,a13,rfl⟩:=nlist14 hl;obtain⟨v1,⟨d1,e1,h1⟩,_⟩ : ∃v,valT N w [a0,a1,a2,a3,a4,a5,a6] v/\WdV 1034834473170 N v:=hp 0 0 7 46 _ rfl (by kernel_rfl) IH;obtain⟨v2,⟨d2,e2,h2⟩,_⟩ : ∃v,valT N w [a7,a8,a9,a10,a11,a12,a13] v/\WdV 1034834473170 N v:=hp 1 7 7 46 _ rfl (by kernel_rfl) IH;exact⟨(v1,v2),⟨d1,d2,by rw [←e1, ←e2];rfl,h1,h2⟩,trivial⟩
  have hElem:qcp N enc w base spare held 46 (fun cs => ∃v:CV,VList (fun b=>b<w.heap.size) N w cs v/\True):=fun fuel cs y h hw hk=>by
   obtain⟨v,⟨d,e,h1⟩,_⟩:=IH fuel cs y h hw hk;exact⟨v,⟨d,e,h1⟩,trivial⟩
  have sl1:=qft (C:=7) (V:=VList (fun b=>b<w.heap.size) N) (Q:=fun _=>True) Tryz.underlying41 (by kernel_rfl) (by decide) (by kernel_rfl) hElem;have sl2:=qft (C:=14) (V:=VPair (fun b=>b<w.heap.size) N) (Q:=fun _=>True) Tryz.underlying42 (by kernel_rfl) (by decide) (by kernel_rfl) hPair;have sl3:=qft (C:=8) (V:=VSlot (fun b=>b<w.heap.size) N) (Q:=fun x=>WdV 1034834473170 N x.2) Tryz.underlying43 (by kernel_rfl) (by decide) (by kernel_rfl) hSlot;have sl4:=qft (C:=4) (V:=VRaw) (Q:=fun _=>True) Tryz.underlying44 (by kernel_rfl) (by decide) (by kernel_rfl) (on_Raw (enc:=enc) (w:=w) (base:=base) (spare:=spare) (held:=held) N);refine qe4 Tryz.underlying46 7 (by kernel_rfl) (fun cs hl hp=>?_);obtain⟨a0,a1,a2,a3,a4,a5,a6,rfl⟩:=nlist7 hl;obtain⟨k,h0,_⟩ : ∃z,[a0]=[.int .i64 z]/\(Lit.int .i64 z).wf=true:=hp 0 0 1 3 _ rfl ql8 (qhz Tryz.underlying3);obtain rfl:a0=_:=(List.cons.inj h0).1;obtain⟨x,h1,x1⟩ : ∃z,[a1]=[.int .u64 z]/\(Lit.int .u64 z).wf=true:=hp 1 1 1 40 _ rfl qk5 (qhz Tryz.underlying40);obtain rfl:a1=_:=(List.cons.inj h1).1;obtain⟨l,h2,_⟩ : ∃l:List UInt8,[a2]=[.string (S l)]/\l.length<=N:=hp 2 2 1 9 _ rfl qk6 (qk1 Tryz.underlying9);obtain rfl:a2=_:=(List.cons.inj h2).1;obtain⟨v3,xs3,h3,s3,_,_,_⟩ : ∃v xs,[a3]=[v]/\SlA (fun b=>b<w.heap.size) 7 (VList (fun b=>b<w.heap.size) N) w v xs/\xs.length<=N/\xs.length*Tryz.prog.bytesOf 46<=140737488351232/\∀x ∈ xs,True:=hp 3 3 1 41 _ rfl (by kernel_rfl) sl1;obtain rfl:a3=_:=(List.cons.inj h3).1;obtain⟨v4,xs4,h4,s4,_,_,_⟩ : ∃v xs,[a4]=[v]/\SlA (fun b=>b<w.heap.size) 14 (VPair (fun b=>b<w.heap.size) N) w v xs/\xs.length<=N/\xs.length*Tryz.prog.bytesOf 224<=140737488351232/\∀x ∈ xs,True:=hp 4 4 1 42 _ rfl (by kernel_rfl) sl2;obtain rfl:a4=_:=(List.cons.inj h4).1;obtain⟨v5,xs5,h5,s5,_,l5,q5⟩ : ∃v xs,[a5]=[v]/\SlA (fun b=>b<w.heap.size) 8 (VSlot (fun b=>b<w.heap.size) N) w v xs/\xs.length<=N/\xs.length*Tryz.prog.bytesOf 73<=140737488351232/\∀x ∈ xs,WdV 1034834473170 N x.2:=hp 5 5 1 43 _ rfl (by kernel_rfl) sl3;obtain rfl:a5=_:=(List.cons.inj h5).1;obtain⟨v6,xs6,h6,s6,_,_,_⟩ : ∃v xs,[a6]=[v]/\SlA (fun b=>b<w.heap.size) 4 VRaw w v xs/\xs.length<=N/\xs.length*Tryz.prog.bytesOf 226<=140737488351232/\∀x ∈ xs,True:=hp 6 6 1 44 _ rfl (by kernel_rfl) sl4;obtain rfl:a6=_:=(List.cons.inj h6).1;clear hp sl1 sl2 sl3 sl4 hElem hPair hSlot IH h0 h1 h2 h3 h4 h5 h6 hl;obtain⟨p3,c3,rfl,r3⟩:=s3;obtain⟨p4,c4,rfl,r4⟩:=s4;obtain⟨p5,c5,rfl,r5⟩:=s5;obtain⟨p6,c6,rfl,r6⟩:=s6;have hx:=qdt x1;rw [show Tryz.prog.bytesOf 73=136 by kernel_rfl]at l5;by_cases k1:k=10
  ·subst k1
   exact⟨.msg xs5 xs6,⟨⟨10,x,l,p3,xs3.length,c3,p4,xs4.length,c4,p5,xs5.length,c5,p6,xs6.length,c6⟩,rfl,rfl,⟨p5,c5,rfl,r5⟩,⟨p6,c6,rfl,r6⟩⟩,by omega,q5⟩
  ·by_cases k2:k=11
   ·subst k2
    exact⟨.list xs3,⟨⟨11,x,l,p3,xs3.length,c3,p4,xs4.length,c4,p5,xs5.length,c5,p6,xs6.length,c6⟩,rfl,rfl,⟨p3,c3,rfl,r3⟩⟩,trivial⟩
   ·by_cases k3:k=12
    ·subst k3
     exact⟨.map xs4,⟨⟨12,x,l,p3,xs3.length,c3,p4,xs4.length,c4,p5,xs5.length,c5,p6,xs6.length,c6⟩,rfl,rfl,⟨p4,c4,rfl,r4⟩⟩,trivial⟩
    ·exact⟨.scalar k x.toNat l,⟨⟨k,x,l,p3,xs3.length,c3,p4,xs4.length,c4,p5,xs5.length,c5,p6,xs6.length,c6⟩,rfl,rfl,k1,k2,k3,(Int.toNat_of_nonneg hx.1).symm,hx.1,hx.2,rfl⟩,trivial⟩
theorem qq5 {r:Reach} {b0:Nat} {v:Value} {d:DataW H} {p:List MemPlace} (hv:Value.okWide Tryz.prog w r b0 46 v) (h:DataW.Trod enc Tryz.prog w base spare held 46 v d p) (hw:(d.weights Tryz.prog 46).all (·<=reachBytes)=true) (N:Nat) (hb:Rows.uptoBulk d<=N) :
  ∃(u:VC) (cv:CV),v=.agg u.cells.toArray/\ValC (fun b=>b<w.heap.size) N w u cv/\WdV 1034834473170 N cv:=by
 obtain⟨cs,rfl,hsz⟩:=okWide_struct Tryz.underlying46 hv;obtain⟨fuel,hf⟩:=h;obtain⟨cv,⟨u,hu,h1⟩,h2⟩:=qn2 N fuel _ (d,p) hf hw hb
 have hcs:cs=u.cells.toArray:=by
  have:cs.toList=u.cells:=hu;rw [←this,Array.toArray_toList]
 subst hcs;exact⟨u,cv,rfl,h1,h2⟩
end
end
section
open Go.ChangeShapes Go.WideShapes Go.RowKit Go.Deep Ma
section
variable {H : Type} {enc : TypeId × Value → H} {w : World} {base : Nat} {spare : Nat → Bool} {held : Bool}
theorem qls {P:Program} {t e:TypeId} {n fuel:Nat} {cs:List Value} {x:DataW H × List MemPlace} (ht:P.underlying t=some (.array n e)) (h:DataW.trod enc P w base spare held fuel t cs=some x) :
  ∃(xs:List (DataW H × List MemPlace)) (m:Nat),fuel=m+1/\x=(.agg (xs.map (·.1)),xs.flatMap (·.2))/\cs.length=P.cellsOf t/\xs.length=n ∧
   ∀i,i<n->DataW.trod enc P w base spare held m e ((cs.drop (i*P.cellsOf e)).take (P.cellsOf e))=xs[i]?:=by
 cases fuel with
 | zero=>simp [DataW.trod]at h
 | succ m=>
  unfold DataW.trod at h;rw [ht]at h
  split at h <;> simp_all
  obtain⟨hl,xs,hp,hd⟩:=h;have hlen:=mapM_some_length hp;rw [List.length_range]at hlen;exact⟨xs,hd.symm,hlen,fun i hi=>mapM_some_get hp i i (by simp [hi])⟩
theorem qj4 {P:Program} {t e:TypeId} {n:Nat} {r:Reach} {b0:Nat} {v:Value} (ht:P.underlying t=some (.array n e)) (h:Value.okWide P w r b0 t v) : ∃cs,v=.agg cs/\cs.size=P.cellsOf t:=by
 simp only [Value.okWide,ht]at h;obtain⟨cs,h1,h2,_⟩:=h;exact⟨cs,h1,h2⟩
theorem qob {r:Reach} {b0:Nat} {v:Value} {d:DataW H} {p:List MemPlace} (hv:Value.okWide Tryz.prog w r b0 39 v) (h:DataW.Trod enc Tryz.prog w base spare held 39 v d p) (hw:(d.weights Tryz.prog 39).all (·<=reachBytes)=true) (N:Nat) (hb:Rows.uptoBulk d<=N) :
  ∃(ap bp:Option Addr) (ac bc:Nat) (la lb:List PMask),v=.agg #[.slice ap la.length ac,.slice bp lb.length bc]/\MaskD (fun b=>b<w.heap.size) N w (.slice ap la.length ac) la/\MaskD (fun b=>b<w.heap.size) N w (.slice bp lb.length bc) lb/\∀B,N<=B->Wd B N la/\Wd B N lb:=by
 have hu:=Tryz.underlying39;obtain⟨cs,rfl,hsz⟩:=qj4 hu hv;obtain⟨fuel,hf⟩:=h;obtain⟨xs,m,_,hx,hl,hxl,hi⟩:=qls hu hf;have hc2:Tryz.prog.cellsOf 39=2:=by kernel_rfl
 have hc1:Tryz.prog.cellsOf 27=1:=by kernel_rfl
 rw [hc2]at hl;rw [hc1]at hi;obtain⟨a0,a1,hcs⟩:=qpg (show cs.toList.length=2 from hl);obtain⟨x0,x1,rfl⟩:=qpg hxl;cases hx;have hcs2:(Value.agg cs).cells.toList=[a0,a1]:=hcs;rw [hcs2]at hi
 have hw2:(DataW.weightsAll Tryz.prog 27 [x0.1,x1.1]).all (·<=reachBytes)=true:=by
  have:=hw;simp only [DataW.weights,hu]at this;exact this
 have hw0:=qco hw2 x0.1 (List.mem_cons_self ..);have hw1:=qco hw2 x1.1 (List.mem_cons_of_mem _ (List.mem_cons_self ..));have hk:Rows.uptoBulk (.agg [x0.1,x1.1]:DataW H)=Rows.uptoBulk x0.1+(Rows.uptoBulk x1.1+0)+1:=rfl;have hbb:Rows.uptoBulk (.agg [x0.1,x1.1]:DataW H)<=N:=hb;obtain⟨u0,la,e0,m0,g0⟩:=qj3 N N m [a0] x0 (hi 0 (by decide)) hw0 (by omega);obtain⟨u1,lb,e1,m1,g1⟩:=qj3 N N m [a1] x1 (hi 1 (by decide)) hw1 (by omega);cases e0;cases e1;obtain⟨ap,ac,rfl⟩:=m0.form;obtain⟨bp,bc,rfl⟩:=m1.form;have hcsa:cs=#[.slice ap la.length ac,.slice bp lb.length bc]:=by rw [←Array.toArray_toList (xs:=cs),hcs]
 subst hcsa;exact⟨ap,bp,ac,bc,la,lb,rfl,m0,m1,fun B hB=>⟨(g0 (Nat.le_refl _)).mono hB,(g1 (Nat.le_refl _)).mono hB⟩⟩
end
end
section
open Go.RowKit Ck
end
section
open Go.RowKit Ck
def longN (x:PNote):Prop:=300<x.name.length ∨ 300<x.val.t.length ∨ 0<x.val.n
instance (x:PNote):Decidable (longN x):=by unfold longN;infer_instance
end
section
open Go.RowKit Ck
theorem qh8 {α β:Type} (f:α->List β) (B:Nat) : ∀(l:List α),(∀x ∈ l,(f x).length<=B)->(l.flatMap f).length<=B*l.length
 | [],_=>by simp
 | x :: r,h=>by
  have ih:=qh8 f B r (fun y hy=>h y (List.mem_cons_of_mem _ hy));have h1:=h x List.mem_cons_self;rw [List.flatMap_cons,List.length_append,List.length_cons,Nat.mul_add,Nat.mul_one];omega
theorem qg1 (s:PSchema) (m:PMsg) : ∀(l:List PField) (i:Nat),(qbs s m i l).length<=10*l.length
 | [],i=>by simp [qbs]
 | f :: r,i=>by
  have ih:=qg1 s m r (i+1);have h:=qnv s m i f;unfold qbs;rw [List.length_append,List.length_cons];omega
theorem qkf (d:Str) : ∀(l:List Str),(l.flatMap (fun g=>un d (-1) (decide (Utf.bad g<0)) 7)).length<=l.length
 | []=>by simp
 | g :: r=>by
  have ih:=qkf d r;have h:=un_len d (-1) (decide (Utf.bad g<0)) 7;rw [List.flatMap_cons,List.length_append,List.length_cons];omega
theorem qpf (d:Str) (n:Int) (l:List PNote) (t:Int):(noted d n l t).length<=1:=un_len _ _ _ _
theorem qi8 (s:PSchema) (m:PMsg) (fin:Str->Bool):(qbh s m fin).length<=4+10*m.fields.length+2*m.res.length+m.gone.length:=by
 have h1:=un_len m.name (-1) (qal m.name) 8;have h2:=un_len m.name (-1) (decide (m.fields.length<=64/\m.res.length<=16/\m.gone.length<=16)) 3;have h3:=qg1 s m m.fields 0;have h4:=qdv m.name 1 65535 none m.res;have h5:=qkf m.name m.gone;have h6:=qpf m.name (-1) m.notes 1;have h7:=un_len m.name (-1) (!qo0 s m fin) 19;unfold qbh spans;simp only [List.length_append];omega
theorem qgi (e:PEnum) : ∀(l:List PItem) (i:Nat),(qd5 e i l).length<=6*l.length
 | [],i=>by simp [qd5]
 | f :: r,i=>by
  have ih:=qgi e r (i+1);have h:=qpm e i f;unfold qd5;rw [List.length_append,List.length_cons];omega
theorem enum_len (e:PEnum):(enum e).length<=4+6*e.items.length+2*e.res.length:=by
 unfold enum spans noted;refine Nat.le_trans (qay (qay (qay (qay (qay (un_len _ _ _ _) (un_len _ _ _ _)) (un_len _ _ _ _)) (qgi e e.items 0)) (qdv e.name 0 2147483647 none e.res)) (un_len _ _ _ _)) ?_;omega
theorem qgh (s:PSchema) (v:PSvc) : ∀(l:List PMeth) (i:Nat),(qd2 s v i l).length<=5*l.length
 | [],i=>by simp [qd2]
 | f :: r,i=>by
  have ih:=qgh s v r (i+1);have h:=qpi s v i f;unfold qd2;rw [List.length_append,List.length_cons];omega
theorem qkw (s:PSchema) (v:PSvc):(qbz s v).length<=3+5*v.meths.length:=by
 unfold qbz noted;have h1:=un_len v.name (-1) (qal v.name) 8;have h2:=un_len v.name (-1) (decide (v.meths.length<=64)) 3;have h4:=qgh s v v.meths 0;have h6:=un_len v.name (-1) (decide (qbb v.notes 5=0)) (qbb v.notes 5);simp only [List.length_append];omega
theorem qgy (l:List Str):(listP l).length<=2:=qay (un_len _ _ _ _) (un_len _ _ _ _)
theorem qpo (s:PSchema):(head s).length<=7:=by
 unfold head;exact qay (qay (qay (qgy _) (qgy _)) (qgy _)) (un_len _ _ _ _)
end
section
open Go.ChangeShapes Go.WideShapes Go.RowKit Go.Deep Ck
section
variable {H : Type} {enc : TypeId × Value → H} {w : World} {base : Nat} {spare : Nat → Bool} {held : Bool}
def qbl (enc:TypeId × Value->H) (w:World) (base:Nat) (spare:Nat->Bool) (held:Bool) (t:TypeId) (T:List Value->Prop):Prop:=
 ∀(n:Nat) (cs:List Value) (y:DataW H × List MemPlace),DataW.trod enc Tryz.prog w base spare held n t cs=some y->Wt t y->Rows.uptoBulk y.1<=1048576->T cs
theorem bulk_pos (d:DataW H):1<=Rows.uptoBulk d:=by
 cases d with
 | lit l=>cases l <;> simp [Rows.uptoBulk]
 | _=>simp [Rows.uptoBulk]
theorem qji : ∀{l:List (DataW H)} {d:DataW H},d ∈ l->Rows.uptoBulk d<=Rows.uptoBulkAll l
 | a :: l,d,h=>by
  rw [Rows.uptoBulkAll];rcases List.mem_cons.1 h with rfl|h
  ·omega
  ·have:=qji h
   omega
theorem qo5 : ∀(l:List (DataW H)),l.length<=Rows.uptoBulkAll l
 | []=>by simp
 | a :: l=>by
  rw [Rows.uptoBulkAll,List.length_cons];have:=qo5 l;have:=bulk_pos a;omega
theorem bulk_get {l:List (DataW H)} {i:Nat} {d:DataW H} (h:l[i]? = some d):Rows.uptoBulk d<=Rows.uptoBulkAll l:=qji (List.mem_of_getElem? h)
theorem qb4 {α:Type} {t e:TypeId} {C:Nat} {V:World->List Value->α->Prop} {Q:α->Prop} (ht:Tryz.prog.underlying t=some (.slice e)) (hC:Tryz.prog.cellsOf e=C) (hC0:0<C) (hb:decide (1<=Tryz.prog.bytesOf e)=true)
  (hV:qbl enc w base spare held e (fun cs => ∃x,V w cs x/\Q x)):qbl enc w base spare held t (fun cs => ∃v xs,cs=[v]/\Sv C V w v xs/\xs.length<=1048576/\∀x ∈ xs,Q x):=by
 intro fuel cs y h hw hk;have hby:=of_decide_eq_true hb;rcases open_slice ht h with⟨rfl,_⟩|⟨a,len,cap,m,k,D,Pl,rfl,hbase,hl,hm,hmm,hy,hel⟩
 ·exact⟨_,[],rfl,Sl.nil _ _ _ _ _,by simp,fun x hx=>by cases hx⟩
 ·have hlm:len<=m:=by rw [hmm];split <;> omega
  subst hy;simp only [Rows.uptoBulk]at hk;unfold Wt at hw;simp only [DataW.weights,ht,List.all_cons,List.all_append,Bool.and_eq_true,decide_eq_true_eq,List.length_map,List.length_range]at hw;obtain⟨hw1,hw2,_⟩:=hw
  have hlen:len<=140737488355328:=by
   have h3:len<=(len+(m-len))*Tryz.prog.bytesOf e:=Nat.le_trans (Nat.le_add_right len (m-len)) (Nat.le_mul_of_pos_right _ hby);unfold reachBytes at hw1;omega
  have hk1:=qo5 ((List.range len).map D);rw [List.length_map,List.length_range]at hk1;have hkl:len<=1048576:=by omega
  obtain⟨xs,hxl,hxs⟩:=qko (fun i x => ∃cs',w.cells? base (a.add (i*C)) C=some cs'/\V w cs' x/\Q x) len (fun i hi=>by
   obtain⟨cs',h1,h2⟩:=hel i (by omega);obtain⟨x,hx1,hx2⟩:=hV k cs' (D i,Pl i) h2 (qco hw2 (D i) (List.mem_map.2 ⟨i,List.mem_range.2 hi,rfl⟩)) (by have:=qji (l:=(List.range len).map D) (List.mem_map.2 ⟨i,List.mem_range.2 hi,rfl⟩);show Rows.uptoBulk (D i)<=_;omega);rw [hC]at h1
   exact⟨x,cs',h1,hx1,hx2⟩)
  subst hxl;refine⟨_,xs,rfl,⟨some a,cap,rfl,hlen,hl,fun i x hx=>?_⟩,hkl,fun x hx=>?_⟩
  ·obtain⟨cs',h1,hx1,_⟩:=hxs i x hx
   obtain⟨h2,h3,h4⟩:=World.cells?_some h1;obtain⟨b,off,spot⟩:=a;have hlc:0<cs'.length:=by omega
   have hx0:0<xs.length:=by
    have:=(List.getElem?_eq_some_iff.1 hx).1;omega
   obtain⟨cs0,g1,_⟩:=hxs 0 _ (List.getElem?_eq_getElem hx0);obtain⟨_,g3,g4⟩:=World.cells?_some g1;have hlc0:0<cs0.length:=by omega
   have hc1:w.cell? (((⟨b,off,spot⟩:Addr).add (0*C)).add 0)=some cs0[0]:=by
    rw [g4 0 hC0];exact List.getElem?_eq_getElem hlc0
   have hspot:spot=none:=by simpa [Addr.add]using World.cell?_spot hc1
   subst hspot
   have hcell:Cells w b (off+i*C) cs':=fun j v hv=>by
    have hj:j<C:=by
     have:=(List.getElem?_eq_some_iff.1 hv).1;omega
    have:=h4 j hj;rw [add_plain,add_plain]at this;rw [this];exact hv
   exact⟨b,off,rfl,World.block_lt_of_cell? w _ (hcell 0 cs'[0] (List.getElem?_eq_getElem hlc)),cs',hcell,hx1⟩
  ·obtain⟨i,hi⟩:=List.getElem?_of_mem hx
   obtain⟨_,_,_,h⟩:=hxs i x hi;exact h
theorem qhw {t:TypeId} {k:IntKind} (ht:Tryz.prog.underlying t=some (.int k)):qbl enc w base spare held t (fun cs => ∃z,cs=[.int k z]/\(Lit.int k z).wf=true):=by
 intro n cs y h _ _;obtain⟨z,e,_,g⟩:=DataW.trod_int ht h;exact⟨z,e,g⟩
theorem ql7 {t:TypeId} (ht:Tryz.prog.underlying t=some .bool):qbl enc w base spare held t (fun cs => ∃b,cs=[.bool b]):=by
 intro n cs y h _ _;obtain⟨z,e,_⟩:=DataW.trod_bool ht h;exact⟨z,e⟩
theorem qhv {t:TypeId} (ht:Tryz.prog.underlying t=some .string):qbl enc w base spare held t (fun cs => ∃l:List UInt8,cs=[.string (S l)]/\l.length<=1048576):=by
 intro n cs y h hw hk;obtain⟨s,e,hy,_⟩:=DataW.trod_string ht h;subst hy;simp only [Rows.uptoBulk]at hk;exact⟨s.data.toList,e,by omega⟩
theorem qe3 {t e:TypeId} (ht:Tryz.prog.underlying t=some (.slice e)) (hb:decide (1<=Tryz.prog.bytesOf e)=true):qbl enc w base spare held t (fun cs => ∃(p:Option Addr) (n c:Nat),cs=[.slice p n c]/\n<=140737488355328):=by
 intro n cs y h hw hk;have hby:=of_decide_eq_true hb;rcases open_slice ht h with⟨rfl,_⟩|⟨a,len,cap,m,k,D,Pl,rfl,_,hl,hm,hmm,hy,_⟩
 ·exact⟨_,_,_,rfl,by omega⟩
 ·subst hy
  unfold Wt at hw;simp only [DataW.weights,ht,List.all_cons,Bool.and_eq_true,decide_eq_true_eq,List.length_map,List.length_range]at hw;have h2:=hw.1;have h3:len<=(len+(m-len))*Tryz.prog.bytesOf e:=Nat.le_trans (Nat.le_add_right len (m-len)) (Nat.le_mul_of_pos_right _ hby);unfold reachBytes at h2;exact⟨_,_,_,rfl,by omega⟩
theorem qat {t:TypeId} {fs:Array Field} {T:List Value->Prop} (ht:Tryz.prog.underlying t=some (.struct fs)) (N:Nat) (hN:Tryz.prog.cellsOf t=N)
  (hT : ∀cs,cs.length=N->(∀(i off n:Nat) (t':TypeId) (X:List Value->Prop),(fs[i]?).map (fun f=>(f.offset,f.type))=some (off,t')->Tryz.prog.cellsOf t'=n->qbl enc w base spare held t' X->X ((cs.drop off).take n))->T cs):qbl enc w base spare held t T:=by
 intro n cs y h hw hb;obtain⟨xs,m,_,hy,hl,hlen,hf⟩:=DataW.trod_struct ht h;refine hT cs (hl.trans hN) (fun i off k t' X hi hk hX=>?_);obtain⟨f,hfi,hfe⟩:=Option.map_eq_some_iff.1 hi;simp only [Prod.mk.injEq]at hfe;obtain⟨rfl,rfl⟩:=hfe
 have hi':i<xs.length:=by
  have:=(Array.getElem?_eq_some_iff.1 hfi).1;omega
 have h1:=hf i f hfi;rw [List.getElem?_eq_getElem hi',hk]at h1;subst hy;refine hX m _ xs[i] h1 ?_ (by have:=bulk_get (l:=xs.map (·.1)) (i:=i) (d:=xs[i].1) (by simp [hi']);simp only [Rows.uptoBulk]at hb;omega);unfold Wt at hw ⊢;simp only [DataW.weights,ht]at hw;exact qjg hw i f.type xs[i].1 (by simp [hfi]) (by simp [hi'])
theorem ulist2 {α:Type} {l:List α} (h:l.length=2) : ∃a0 a1,l=[a0,a1]:=by
 match l,h with
 | [a0,a1],_=>exact⟨a0,a1,rfl⟩
theorem ulist3 {α:Type} {l:List α} (h:l.length=3) : ∃a0 a1 a2,l=[a0,a1,a2]:=by
 match l,h with
 | [a0,a1,a2],_=>exact⟨a0,a1,a2,rfl⟩
theorem ulist5 {α:Type} {l:List α} (h:l.length=5) : ∃a0 a1 a2 a3 a4,l=[a0,a1,a2,a3,a4]:=by
 match l,h with
 | [a0,a1,a2,a3,a4],_=>exact⟨a0,a1,a2,a3,a4,rfl⟩
theorem ulist7 {α:Type} {l:List α} (h:l.length=7) : ∃a0 a1 a2 a3 a4 a5 a6,l=[a0,a1,a2,a3,a4,a5,a6]:=by
 match l,h with
 | [a0,a1,a2,a3,a4,a5,a6],_=>exact⟨a0,a1,a2,a3,a4,a5,a6,rfl⟩
theorem ulist8 {α:Type} {l:List α} (h:l.length=8) : ∃a0 a1 a2 a3 a4 a5 a6 a7,l=[a0,a1,a2,a3,a4,a5,a6,a7]:=by
 match l,h with
 | [a0,a1,a2,a3,a4,a5,a6,a7],_=>exact⟨a0,a1,a2,a3,a4,a5,a6,a7,rfl⟩
theorem ulist16 {α:Type} {l:List α} (h:l.length=16) : ∃a0 a1 a2 a3 a4 a5 a6 a7 a8 a9 a10 a11 a12 a13 a14 a15,l=[a0,a1,a2,a3,a4,a5,a6,a7,a8,a9,a10,a11,a12,a13,a14,a15]:=by
 match l,h with
 | [a0,a1,a2,a3,a4,a5,a6,a7,a8,a9,a10,a11,a12,a13,a14,a15],_=>exact⟨a0,a1,a2,a3,a4,a5,a6,a7,a8,a9,a10,a11,a12,a13,a14,a15,rfl⟩
theorem qgm:Tryz.prog.cellsOf 3=1:=by kernel_rfl
theorem qdq:qbl enc w base spare held 3 (fun cs => ∃z,cs=[.int .i64 z]/\(Lit.int .i64 z).wf=true):=qhw Tryz.underlying3
theorem qoq:Tryz.prog.cellsOf 40=1:=by kernel_rfl
theorem qlm:qbl enc w base spare held 40 (fun cs => ∃z,cs=[.int .u64 z]/\(Lit.int .u64 z).wf=true):=qhw Tryz.underlying40
theorem qbn:Tryz.prog.cellsOf 9=1:=by kernel_rfl
theorem qb0:qbl enc w base spare held 9 (fun cs => ∃l:List UInt8,cs=[.string (S l)]/\l.length<=1048576):=qhv Tryz.underlying9
theorem uc_bool:Tryz.prog.cellsOf 4=1:=by kernel_rfl
theorem qln:qbl enc w base spare held 4 (fun cs => ∃b,cs=[.bool b]):=ql7 Tryz.underlying4
def QNote (x:PNote):Prop:=x.name.length<=1048576
def QStr (x:Str):Prop:=x.length<=1048576
def QSpan (x:PSpan):Prop:=True
def qoi (x:PField):Prop:=x.name.length<=1048576/\x.un.length<=1048576/\x.tn.length<=1048576/\∀n ∈ x.notes,QNote n
def QItem (x:PItem):Prop:=x.name.length<=1048576/\∀n ∈ x.notes,QNote n
def QMeth (x:PMeth):Prop:=x.name.length<=1048576/\∀n ∈ x.notes,QNote n
def QMsg (x:PMsg):Prop:=x.name.length<=1048576/\x.fields.length<=1048576/\x.res.length<=1048576/\x.gone.length<=1048576/\(∀f ∈ x.fields,qoi f)/\(∀g ∈ x.gone,QStr g)/\∀n ∈ x.notes,QNote n
def QEnum (x:PEnum):Prop:=x.name.length<=1048576/\x.items.length<=1048576/\x.res.length<=1048576/\(∀f ∈ x.items,QItem f)/\∀n ∈ x.notes,QNote n
def QSvc (x:PSvc):Prop:=x.name.length<=1048576/\x.meths.length<=1048576/\(∀f ∈ x.meths,QMeth f)/\∀n ∈ x.notes,QNote n
def qch (s:PSchema):Prop:=(∀m ∈ s.msgs,QMsg m)/\(∀e ∈ s.enums,QEnum e)/\∀v ∈ s.svcs,QSvc v
theorem qjp:qbl enc w base spare held 46 (fun cs => ∃v,VVal cs v):=by
 refine qat Tryz.underlying46 7 (by kernel_rfl) (fun cs hl hp=>?_);obtain⟨a0,a1,a2,a3,a4,a5,a6,rfl⟩:=ulist7 hl;obtain⟨k,h0,x0⟩ : ∃z,[a0]=[.int .i64 z]/\(Lit.int .i64 z).wf=true:=hp 0 0 1 3 _ rfl qgm qdq;obtain rfl:a0=_:=(List.cons.inj h0).1;obtain⟨x,h1,x1⟩ : ∃z,[a1]=[.int .u64 z]/\(Lit.int .u64 z).wf=true:=hp 1 1 1 40 _ rfl qoq qlm;obtain rfl:a1=_:=(List.cons.inj h1).1;obtain⟨l,h2,x2⟩ : ∃l:List UInt8,[a2]=[.string (S l)]/\l.length<=1048576:=hp 2 2 1 9 _ rfl qbn qb0;obtain rfl:a2=_:=(List.cons.inj h2).1;obtain⟨p3,n1,c3,h3,x3⟩ : ∃(p:Option Addr) (n c:Nat),[a3]=[.slice p n c]/\n<=140737488355328:=hp 3 3 1 41 _ rfl (by kernel_rfl) (qe3 Tryz.underlying41 (by kernel_rfl));obtain rfl:a3=_:=(List.cons.inj h3).1;obtain⟨p4,n2,c4,h4,x4⟩ : ∃(p:Option Addr) (n c:Nat),[a4]=[.slice p n c]/\n<=140737488355328:=hp 4 4 1 42 _ rfl (by kernel_rfl) (qe3 Tryz.underlying42 (by kernel_rfl));obtain rfl:a4=_:=(List.cons.inj h4).1;obtain⟨p5,n3,c5,h5,x5⟩ : ∃(p:Option Addr) (n c:Nat),[a5]=[.slice p n c]/\n<=140737488355328:=hp 5 5 1 43 _ rfl (by kernel_rfl) (qe3 Tryz.underlying43 (by kernel_rfl));obtain rfl:a5=_:=(List.cons.inj h5).1;obtain⟨p6,n4,c6,h6,x6⟩ : ∃(p:Option Addr) (n c:Nat),[a6]=[.slice p n c]/\n<=140737488355328:=hp 6 6 1 44 _ rfl (by kernel_rfl) (qe3 Tryz.underlying44 (by kernel_rfl));obtain rfl:a6=_:=(List.cons.inj h6).1;exact⟨⟨k,x,l,n1,n2,n3,n4⟩,p3,p4,p5,p6,c3,c4,c5,c6,rfl,(qdt x1).1,(qdt x1).2,x3,x4,x5,x6⟩
theorem uop_Note:qbl enc w base spare held 196 (fun cs => ∃x,VNote w cs x/\QNote x):=by
 refine qat Tryz.underlying196 8 (by kernel_rfl) (fun cs hl hp=>?_);obtain⟨a0,a1,a2,a3,a4,a5,a6,a7,rfl⟩:=ulist8 hl;obtain⟨l,h0,x0⟩ : ∃l:List UInt8,[a0]=[.string (S l)]/\l.length<=1048576:=hp 0 0 1 9 _ rfl qbn qb0;obtain rfl:a0=_:=(List.cons.inj h0).1;obtain⟨v,s1⟩ : ∃v,VVal [a1,a2,a3,a4,a5,a6,a7] v:=hp 1 1 7 46 _ rfl (by kernel_rfl) qjp;exact⟨⟨l,v⟩,⟨_,rfl,s1⟩,x0⟩
theorem qd9:qbl enc w base spare held 55 (fun cs => ∃v xs,cs=[v]/\Sv 8 VNote w v xs/\xs.length<=1048576/\∀x ∈ xs,QNote x):=qb4 (V:=VNote) (Q:=QNote) Tryz.underlying55 (by kernel_rfl) (by decide) (by kernel_rfl) uop_Note
theorem uop_Span:qbl enc w base spare held 183 (fun cs => ∃x,VSpan w cs x/\QSpan x):=by
 refine qat Tryz.underlying183 2 (by kernel_rfl) (fun cs hl hp=>?_);obtain⟨a0,a1,rfl⟩:=ulist2 hl;obtain⟨a,h0,x0⟩ : ∃z,[a0]=[.int .i64 z]/\(Lit.int .i64 z).wf=true:=hp 0 0 1 3 _ rfl qgm qdq;obtain rfl:a0=_:=(List.cons.inj h0).1;obtain⟨b,h1,x1⟩ : ∃z,[a1]=[.int .i64 z]/\(Lit.int .i64 z).wf=true:=hp 1 1 1 3 _ rfl qgm qdq;obtain rfl:a1=_:=(List.cons.inj h1).1;exact⟨⟨a,b⟩,rfl,trivial⟩
theorem qjo:qbl enc w base spare held 53 (fun cs => ∃v xs,cs=[v]/\Sv 2 VSpan w v xs/\xs.length<=1048576/\∀x ∈ xs,QSpan x):=qb4 (V:=VSpan) (Q:=QSpan) Tryz.underlying53 (by kernel_rfl) (by decide) (by kernel_rfl) uop_Span
theorem uop_Str:qbl enc w base spare held 9 (fun cs => ∃x,VStr w cs x/\QStr x):=by
 intro n cs y h hw hk;obtain⟨l,e,hl⟩:=qb0 n cs y h hw hk;exact⟨l,e,hl⟩
theorem uops_Str:qbl enc w base spare held 54 (fun cs => ∃v xs,cs=[v]/\Sv 1 VStr w v xs/\xs.length<=1048576/\∀x ∈ xs,QStr x):=qb4 (V:=VStr) (Q:=QStr) Tryz.underlying54 (by kernel_rfl) (by decide) (by kernel_rfl) uop_Str
theorem uop_Type:qbl enc w base spare held 63 (fun cs => ∃(k:Int) (l:List UInt8),cs=[.int .i64 k,.string (S l)]/\l.length<=1048576):=by
 refine qat Tryz.underlying63 2 (by kernel_rfl) (fun cs hl hp=>?_);obtain⟨a0,a1,rfl⟩:=ulist2 hl;obtain⟨k,h0,x0⟩ : ∃z,[a0]=[.int .i64 z]/\(Lit.int .i64 z).wf=true:=hp 0 0 1 3 _ rfl qgm qdq;obtain rfl:a0=_:=(List.cons.inj h0).1;obtain⟨l,h1,x1⟩ : ∃l:List UInt8,[a1]=[.string (S l)]/\l.length<=1048576:=hp 1 1 1 9 _ rfl qbn qb0;obtain rfl:a1=_:=(List.cons.inj h1).1;exact⟨k,l,rfl,x1⟩
theorem qoo:qbl enc w base spare held 65 (fun cs => ∃x,VField w cs x/\qoi x):=by
 refine qat Tryz.underlying65 16 (by kernel_rfl) (fun cs hl hp=>?_);obtain⟨a0,a1,a2,a3,a4,a5,a6,a7,a8,a9,a10,a11,a12,a13,a14,a15,rfl⟩:=ulist16 hl;obtain⟨num,h0,x0⟩ : ∃z,[a0]=[.int .i64 z]/\(Lit.int .i64 z).wf=true:=hp 0 0 1 3 _ rfl qgm qdq;obtain rfl:a0=_:=(List.cons.inj h0).1;obtain⟨nm,h1,x1⟩ : ∃l:List UInt8,[a1]=[.string (S l)]/\l.length<=1048576:=hp 1 1 1 9 _ rfl qbn qb0;obtain rfl:a1=_:=(List.cons.inj h1).1;obtain⟨ca,h2,x2⟩ : ∃z,[a2]=[.int .i64 z]/\(Lit.int .i64 z).wf=true:=hp 2 2 1 3 _ rfl qgm qdq;obtain rfl:a2=_:=(List.cons.inj h2).1;obtain⟨ke,h3,x3⟩ : ∃z,[a3]=[.int .i64 z]/\(Lit.int .i64 z).wf=true:=hp 3 3 1 3 _ rfl qgm qdq;obtain rfl:a3=_:=(List.cons.inj h3).1;obtain⟨tyk,tyn,h4,x4⟩ : ∃(k:Int) (l:List UInt8),[a4,a5]=[.int .i64 k,.string (S l)]/\l.length<=1048576:=hp 4 4 2 63 _ rfl (by kernel_rfl) uop_Type;obtain rfl:a4=_:=(List.cons.inj h4).1;obtain rfl:a5=_:=(List.cons.inj (List.cons.inj h4).2).1;obtain⟨un,h5,x5⟩ : ∃l:List UInt8,[a6]=[.string (S l)]/\l.length<=1048576:=hp 5 6 1 9 _ rfl qbn qb0;obtain rfl:a6=_:=(List.cons.inj h5).1;obtain⟨hd,h6⟩ : ∃b,[a7]=[.bool b]:=hp 6 7 1 4 _ rfl uc_bool qln;obtain rfl:a7=_:=(List.cons.inj h6).1;obtain⟨df,s7⟩ : ∃v,VVal [a8,a9,a10,a11,a12,a13,a14] v:=hp 7 8 7 46 _ rfl (by kernel_rfl) qjp;obtain⟨v8,ns,h8,s8,l8,q8⟩ : ∃v xs,[a15]=[v]/\Sv 8 VNote w v xs/\xs.length<=1048576/\∀x ∈ xs,QNote x:=hp 8 15 1 55 _ rfl (by kernel_rfl) qd9;obtain rfl:a15=_:=(List.cons.inj h8).1;exact⟨⟨num,nm,ca,ke,tyk,tyn,un,hd,df,ns⟩,⟨_,_,rfl,s7,s8⟩,x1,x5,x4,q8⟩
theorem qll:qbl enc w base spare held 52 (fun cs => ∃v xs,cs=[v]/\Sv 16 VField w v xs/\xs.length<=1048576/\∀x ∈ xs,qoi x):=qb4 (V:=VField) (Q:=qoi) Tryz.underlying52 (by kernel_rfl) (by decide) (by kernel_rfl) qoo
theorem uop_Item:qbl enc w base spare held 162 (fun cs => ∃x,VItem w cs x/\QItem x):=by
 refine qat Tryz.underlying162 3 (by kernel_rfl) (fun cs hl hp=>?_);obtain⟨a0,a1,a2,rfl⟩:=ulist3 hl;obtain⟨nm,h0,x0⟩ : ∃l:List UInt8,[a0]=[.string (S l)]/\l.length<=1048576:=hp 0 0 1 9 _ rfl qbn qb0;obtain rfl:a0=_:=(List.cons.inj h0).1;obtain⟨num,h1,x1⟩ : ∃z,[a1]=[.int .i64 z]/\(Lit.int .i64 z).wf=true:=hp 1 1 1 3 _ rfl qgm qdq;obtain rfl:a1=_:=(List.cons.inj h1).1;obtain⟨v2,ns,h2,s2,l2,q2⟩ : ∃v xs,[a2]=[v]/\Sv 8 VNote w v xs/\xs.length<=1048576/\∀x ∈ xs,QNote x:=hp 2 2 1 55 _ rfl (by kernel_rfl) qd9;obtain rfl:a2=_:=(List.cons.inj h2).1;exact⟨⟨nm,num,ns⟩,⟨_,rfl,s2⟩,x0,q2⟩
theorem qom:qbl enc w base spare held 125 (fun cs => ∃v xs,cs=[v]/\Sv 3 VItem w v xs/\xs.length<=1048576/\∀x ∈ xs,QItem x):=qb4 (V:=VItem) (Q:=QItem) Tryz.underlying125 (by kernel_rfl) (by decide) (by kernel_rfl) uop_Item
theorem uop_Meth:qbl enc w base spare held 164 (fun cs => ∃x,VMeth w cs x/\QMeth x):=by
 refine qat Tryz.underlying164 5 (by kernel_rfl) (fun cs hl hp=>?_);obtain⟨a0,a1,a2,a3,a4,rfl⟩:=ulist5 hl;obtain⟨nm,h0,x0⟩ : ∃l:List UInt8,[a0]=[.string (S l)]/\l.length<=1048576:=hp 0 0 1 9 _ rfl qbn qb0;obtain rfl:a0=_:=(List.cons.inj h0).1;obtain⟨inn,h1,x1⟩ : ∃l:List UInt8,[a1]=[.string (S l)]/\l.length<=1048576:=hp 1 1 1 9 _ rfl qbn qb0;obtain rfl:a1=_:=(List.cons.inj h1).1;obtain⟨out,h2,x2⟩ : ∃l:List UInt8,[a2]=[.string (S l)]/\l.length<=1048576:=hp 2 2 1 9 _ rfl qbn qb0;obtain rfl:a2=_:=(List.cons.inj h2).1;obtain⟨sh,h3,x3⟩ : ∃z,[a3]=[.int .i64 z]/\(Lit.int .i64 z).wf=true:=hp 3 3 1 3 _ rfl qgm qdq;obtain rfl:a3=_:=(List.cons.inj h3).1;obtain⟨v4,ns,h4,s4,l4,q4⟩ : ∃v xs,[a4]=[v]/\Sv 8 VNote w v xs/\xs.length<=1048576/\∀x ∈ xs,QNote x:=hp 4 4 1 55 _ rfl (by kernel_rfl) qd9;obtain rfl:a4=_:=(List.cons.inj h4).1;exact⟨⟨nm,inn,out,sh,ns⟩,⟨_,rfl,s4⟩,x0,q4⟩
theorem qol:qbl enc w base spare held 129 (fun cs => ∃v xs,cs=[v]/\Sv 5 VMeth w v xs/\xs.length<=1048576/\∀x ∈ xs,QMeth x):=qb4 (V:=VMeth) (Q:=QMeth) Tryz.underlying129 (by kernel_rfl) (by decide) (by kernel_rfl) uop_Meth
theorem uop_Msg:qbl enc w base spare held 57 (fun cs => ∃x,VMsg w cs x/\QMsg x):=by
 refine qat Tryz.underlying57 5 (by kernel_rfl) (fun cs hl hp=>?_);obtain⟨a0,a1,a2,a3,a4,rfl⟩:=ulist5 hl;obtain⟨nm,h0,x0⟩ : ∃l:List UInt8,[a0]=[.string (S l)]/\l.length<=1048576:=hp 0 0 1 9 _ rfl qbn qb0;obtain rfl:a0=_:=(List.cons.inj h0).1;obtain⟨v1,fs,h1,s1,l1,q1⟩ : ∃v xs,[a1]=[v]/\Sv 16 VField w v xs/\xs.length<=1048576/\∀x ∈ xs,qoi x:=hp 1 1 1 52 _ rfl (by kernel_rfl) qll;obtain rfl:a1=_:=(List.cons.inj h1).1;obtain⟨v2,rs,h2,s2,l2,q2⟩ : ∃v xs,[a2]=[v]/\Sv 2 VSpan w v xs/\xs.length<=1048576/\∀x ∈ xs,QSpan x:=hp 2 2 1 53 _ rfl (by kernel_rfl) qjo;obtain rfl:a2=_:=(List.cons.inj h2).1;obtain⟨v3,gs,h3,s3,l3,q3⟩ : ∃v xs,[a3]=[v]/\Sv 1 VStr w v xs/\xs.length<=1048576/\∀x ∈ xs,QStr x:=hp 3 3 1 54 _ rfl (by kernel_rfl) uops_Str;obtain rfl:a3=_:=(List.cons.inj h3).1;obtain⟨v4,ns,h4,s4,l4,q4⟩ : ∃v xs,[a4]=[v]/\Sv 8 VNote w v xs/\xs.length<=1048576/\∀x ∈ xs,QNote x:=hp 4 4 1 55 _ rfl (by kernel_rfl) qd9;obtain rfl:a4=_:=(List.cons.inj h4).1;exact⟨⟨nm,fs,rs,gs,ns⟩,⟨_,_,_,_,rfl,s1,s2,s3,s4⟩,x0,l1,l2,l3,q1,q3,q4⟩
theorem uops_Msg:qbl enc w base spare held 22 (fun cs => ∃v xs,cs=[v]/\Sv 5 VMsg w v xs/\xs.length<=1048576/\∀x ∈ xs,QMsg x):=qb4 (V:=VMsg) (Q:=QMsg) Tryz.underlying22 (by kernel_rfl) (by decide) (by kernel_rfl) uop_Msg
theorem uop_Enum:qbl enc w base spare held 127 (fun cs => ∃x,VEnum w cs x/\QEnum x):=by
 refine qat Tryz.underlying127 5 (by kernel_rfl) (fun cs hl hp=>?_);obtain⟨a0,a1,a2,a3,a4,rfl⟩:=ulist5 hl;obtain⟨nm,h0,x0⟩ : ∃l:List UInt8,[a0]=[.string (S l)]/\l.length<=1048576:=hp 0 0 1 9 _ rfl qbn qb0;obtain rfl:a0=_:=(List.cons.inj h0).1;obtain⟨op,h1⟩ : ∃b,[a1]=[.bool b]:=hp 1 1 1 4 _ rfl uc_bool qln;obtain rfl:a1=_:=(List.cons.inj h1).1;obtain⟨v2,its,h2,s2,l2,q2⟩ : ∃v xs,[a2]=[v]/\Sv 3 VItem w v xs/\xs.length<=1048576/\∀x ∈ xs,QItem x:=hp 2 2 1 125 _ rfl (by kernel_rfl) qom;obtain rfl:a2=_:=(List.cons.inj h2).1;obtain⟨v3,rs,h3,s3,l3,q3⟩ : ∃v xs,[a3]=[v]/\Sv 2 VSpan w v xs/\xs.length<=1048576/\∀x ∈ xs,QSpan x:=hp 3 3 1 53 _ rfl (by kernel_rfl) qjo;obtain rfl:a3=_:=(List.cons.inj h3).1;obtain⟨v4,ns,h4,s4,l4,q4⟩ : ∃v xs,[a4]=[v]/\Sv 8 VNote w v xs/\xs.length<=1048576/\∀x ∈ xs,QNote x:=hp 4 4 1 55 _ rfl (by kernel_rfl) qd9;obtain rfl:a4=_:=(List.cons.inj h4).1;exact⟨⟨nm,op,its,rs,ns⟩,⟨_,_,_,rfl,s2,s3,s4⟩,x0,l2,l3,q2,q4⟩
theorem qon:qbl enc w base spare held 23 (fun cs => ∃v xs,cs=[v]/\Sv 5 VEnum w v xs/\xs.length<=1048576/\∀x ∈ xs,QEnum x):=qb4 (V:=VEnum) (Q:=QEnum) Tryz.underlying23 (by kernel_rfl) (by decide) (by kernel_rfl) uop_Enum
theorem uop_Svc:qbl enc w base spare held 131 (fun cs => ∃x,VSvc w cs x/\QSvc x):=by
 refine qat Tryz.underlying131 3 (by kernel_rfl) (fun cs hl hp=>?_);obtain⟨a0,a1,a2,rfl⟩:=ulist3 hl;obtain⟨nm,h0,x0⟩ : ∃l:List UInt8,[a0]=[.string (S l)]/\l.length<=1048576:=hp 0 0 1 9 _ rfl qbn qb0;obtain rfl:a0=_:=(List.cons.inj h0).1;obtain⟨v1,ms,h1,s1,l1,q1⟩ : ∃v xs,[a1]=[v]/\Sv 5 VMeth w v xs/\xs.length<=1048576/\∀x ∈ xs,QMeth x:=hp 1 1 1 129 _ rfl (by kernel_rfl) qol;obtain rfl:a1=_:=(List.cons.inj h1).1;obtain⟨v2,ns,h2,s2,l2,q2⟩ : ∃v xs,[a2]=[v]/\Sv 8 VNote w v xs/\xs.length<=1048576/\∀x ∈ xs,QNote x:=hp 2 2 1 55 _ rfl (by kernel_rfl) qd9;obtain rfl:a2=_:=(List.cons.inj h2).1;exact⟨⟨nm,ms,ns⟩,⟨_,_,rfl,s1,s2⟩,x0,l1,q1,q2⟩
theorem uops_Svc:qbl enc w base spare held 24 (fun cs => ∃v xs,cs=[v]/\Sv 3 VSvc w v xs/\xs.length<=1048576/\∀x ∈ xs,QSvc x):=qb4 (V:=VSvc) (Q:=QSvc) Tryz.underlying24 (by kernel_rfl) (by decide) (by kernel_rfl) uop_Svc
theorem qlo:qbl enc w base spare held 26 (fun cs => ∃s,VSchema w cs s/\qch s):=by
 refine qat Tryz.underlying26 3 (by kernel_rfl) (fun cs hl hp=>?_);obtain⟨a0,a1,a2,rfl⟩:=ulist3 hl;obtain⟨v0,ms,h0,s0,l0,q0⟩ : ∃v xs,[a0]=[v]/\Sv 5 VMsg w v xs/\xs.length<=1048576/\∀x ∈ xs,QMsg x:=hp 0 0 1 22 _ rfl (by kernel_rfl) uops_Msg;obtain rfl:a0=_:=(List.cons.inj h0).1;obtain⟨v1,es,h1,s1,l1,q1⟩ : ∃v xs,[a1]=[v]/\Sv 5 VEnum w v xs/\xs.length<=1048576/\∀x ∈ xs,QEnum x:=hp 1 1 1 23 _ rfl (by kernel_rfl) qon;obtain rfl:a1=_:=(List.cons.inj h1).1;obtain⟨v2,ss,h2,s2,l2,q2⟩ : ∃v xs,[a2]=[v]/\Sv 3 VSvc w v xs/\xs.length<=1048576/\∀x ∈ xs,QSvc x:=hp 2 2 1 24 _ rfl (by kernel_rfl) uops_Svc;obtain rfl:a2=_:=(List.cons.inj h2).1;exact⟨⟨ms,es,ss⟩,⟨_,_,_,rfl,s0,s1,s2⟩,q0,q1,q2⟩
theorem qgn {α:Type} {C:Nat} {V:World->List Value->α->Prop} {w:World} {v:Value} {xs:List α} (h:Sv C V w v xs) : ∃(q:Option Addr) (c:Nat),v=.slice q xs.length c:=by
 obtain⟨q,c,h1,h2⟩:=qa5 h;exact⟨q,c,h1⟩
theorem qei {r:Reach} {b0:Nat} {v:Value} {d:DataW H} {p:List MemPlace} (hv:Value.okWide Tryz.prog w r b0 26 v) (h:DataW.Trod enc Tryz.prog w base spare held 26 v d p) (hw:(d.weights Tryz.prog 26).all (·<=reachBytes)=true) (hb:Rows.uptoBulk d<=1048576) :
  ∃(q1 q2 q3:Option Addr) (c1 c2 c3:Nat) (s:PSchema),v=.agg #[.slice q1 s.msgs.length c1,.slice q2 s.enums.length c2,.slice q3 s.svcs.length c3]/\VSchema w [.slice q1 s.msgs.length c1,.slice q2 s.enums.length c2,.slice q3 s.svcs.length c3] s/\qch s:=by
 obtain⟨cs,rfl,hsz⟩:=okWide_struct Tryz.underlying26 hv;obtain⟨fuel,hf⟩:=h;obtain⟨s,hs,hu⟩:=qlo fuel _ (d,p) hf hw hb;have hs0:=hs;obtain⟨mv,ev,sv,hc,h1,h2,h3⟩:=hs;obtain⟨q1,c1,rfl⟩:=qgn h1;obtain⟨q2,c2,rfl⟩:=qgn h2;obtain⟨q3,c3,rfl⟩:=qgn h3
 have hcs:cs=#[.slice q1 s.msgs.length c1,.slice q2 s.enums.length c2,.slice q3 s.svcs.length c3]:=by
  have:cs.toList=[.slice q1 s.msgs.length c1,.slice q2 s.enums.length c2,.slice q3 s.svcs.length c3]:=hc;rw [←Array.toArray_toList (xs:=cs),this]
 subst hcs;exact⟨q1,q2,q3,c1,c2,c3,s,rfl,hs0,hu⟩
theorem qm5 {s:PSchema} (h:qch s) (hf:s.msgs.length<=8/\s.enums.length<=8/\s.svcs.length<=8):Short s:=by
 obtain⟨h1,h2,h3⟩:=h;have a1:=qpo s
 have a2:=qh8 (fun m=>qbh s m (qd6 s)) 20000000 s.msgs (fun m hm=>by
  have:=qi8 s m (qd6 s);obtain⟨_,b1,b2,b3,_⟩:=h1 m hm;show(qbh s m (qd6 s)).length<=20000000
  omega)
 have a3:=qh8 enum 20000000 s.enums (fun e he=>by
  have:=enum_len e;obtain⟨_,b1,b3,_⟩:=h2 e he
  omega)
 have a4:=qh8 (qbz s) 20000000 s.svcs (fun v hv=>by
  have:=qkw s v;obtain⟨_,b3,_⟩:=h3 v hv
  omega)
 have ha:(Ck.all s).length<=1000000000:=by
  unfold Ck.all;simp only [List.length_append];omega
 have hN : ∀{l:List PNote},(∀n ∈ l,QNote n)->∀n ∈ l,n.name.length<=1000000000:=fun h n hn=>Nat.le_trans (h n hn) (by omega)
 refine⟨fun m hm=>?_,fun e he=>?_,fun v hv=>?_,⟨by omega,by omega,by omega⟩,ha⟩
 ·obtain⟨b1,b2,b3,b4,b5,b6,b7⟩:=h1 m hm
  refine⟨by omega,by omega,by omega,by omega,fun f hf=>?_,fun g hg=>Nat.le_trans (b6 g hg) (by omega),hN b7⟩;obtain⟨d1,d2,d3,d4⟩:=b5 f hf;exact⟨by omega,by omega,by omega,hN d4⟩
 ·obtain⟨b1,b2,b3,b4,b5⟩:=h2 e he
  refine⟨by omega,by omega,by omega,fun f hf=>?_,hN b5⟩;obtain⟨d1,d4⟩:=b4 f hf;exact⟨by omega,hN d4⟩
 ·obtain⟨b1,b2,b4,b5⟩:=h3 v hv
  refine⟨by omega,by omega,fun f hf=>?_,hN b5⟩;obtain⟨d1,d4⟩:=b4 f hf;exact⟨by omega,hN d4⟩
end
end
end Go.Proofs.YtaaneecceiefoaaGreatDoor
