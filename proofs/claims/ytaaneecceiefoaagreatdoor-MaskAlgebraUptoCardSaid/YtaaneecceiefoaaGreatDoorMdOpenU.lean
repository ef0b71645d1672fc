import Derived.Test.YtaaneecceiefoaaGreatDoorOpen
import Derived.Test.YtaaneecceiefoaaGreatDoorRows
import Derived.Test.YtaaneecceiefoaaGreatDoorCkSmallP
set_option maxRecDepth 100000
set_option maxHeartbeats 4000000
set_option linter.unusedVariables false
set_option linter.unusedSimpArgs false
namespace Go.Proofs.YtaaneecceiefoaaGreatDoor
open Go.ChangeShapes Go.WideShapes Go.RowKit Go.Deep Ck
section
variable {H : Type} {enc : TypeId × Value → H} {w : World} {base : Nat} {spare : Nat → Bool} {held : Bool}
def qb5 (enc:TypeId × Value->H) (w:World) (base:Nat) (spare:Nat->Bool) (held:Bool) (t:TypeId) (T:List Value->Prop):Prop:=
 ∀(n:Nat) (cs:List Value) (y:DataW H × List MemPlace),DataW.trod enc Tryz.prog w base spare held n t cs=some y->Wt t y->Rows.uptoBulk y.1<=1048576->T cs
theorem bulk_pos (d:DataW H):1<=Rows.uptoBulk d:=by
 cases d with
 | lit l=>cases l <;> simp [Rows.uptoBulk]
 | _=>simp [Rows.uptoBulk]
theorem qhw : ∀{l:List (DataW H)} {d:DataW H},d ∈ l->Rows.uptoBulk d<=Rows.uptoBulkAll l
 | a :: l,d,h=>by
  rw [Rows.uptoBulkAll];rcases List.mem_cons.1 h with rfl|h
  ·omega
  ·have:=qhw h
   omega
theorem qlu : ∀(l:List (DataW H)),l.length<=Rows.uptoBulkAll l
 | []=>by simp
 | a :: l=>by
  rw [Rows.uptoBulkAll,List.length_cons];have:=qlu l;have:=bulk_pos a;omega
theorem bulk_get {l:List (DataW H)} {i:Nat} {d:DataW H} (h:l[i]? = some d):Rows.uptoBulk d<=Rows.uptoBulkAll l:=qhw (List.mem_of_getElem? h)
theorem qav {α:Type} {t e:TypeId} {C:Nat} {V:World->List Value->α->Prop} {Q:α->Prop} (ht:Tryz.prog.underlying t=some (.slice e)) (hC:Tryz.prog.cellsOf e=C) (hC0:0<C) (hb:decide (1<=Tryz.prog.bytesOf e)=true)
  (hV:qb5 enc w base spare held e (fun cs => ∃x,V w cs x/\Q x)):qb5 enc w base spare held t (fun cs => ∃v xs,cs=[v]/\Sv C V w v xs/\xs.length<=1048576/\∀x ∈ xs,Q x):=by
 intro fuel cs y h hw hk;have hby:=of_decide_eq_true hb;rcases open_slice ht h with⟨rfl,_⟩|⟨a,len,cap,m,k,D,Pl,rfl,hbase,hl,hm,hmm,hy,hel⟩
 ·exact⟨_,[],rfl,Sl.nil _ _ _ _ _,by simp,fun x hx=>by cases hx⟩
 ·have hlm:len<=m:=by rw [hmm];split <;> omega
  subst hy;simp only [Rows.uptoBulk]at hk;unfold Wt at hw;simp only [DataW.weights,ht,List.all_cons,List.all_append,Bool.and_eq_true,decide_eq_true_eq,List.length_map,List.length_range]at hw;obtain⟨hw1,hw2,_⟩:=hw
  have hlen:len<=140737488355328:=by
   have h3:len<=(len+(m-len))*Tryz.prog.bytesOf e:=Nat.le_trans (Nat.le_add_right len (m-len)) (Nat.le_mul_of_pos_right _ hby);unfold reachBytes at hw1;omega
  have hk1:=qlu ((List.range len).map D);rw [List.length_map,List.length_range]at hk1;have hkl:len<=1048576:=by omega
  obtain⟨xs,hxl,hxs⟩:=qls (fun i x => ∃cs',w.cells? base (a.add (i*C)) C=some cs'/\V w cs' x/\Q x) len (fun i hi=>by
   obtain⟨cs',h1,h2⟩:=hel i (by omega);obtain⟨x,hx1,hx2⟩:=hV k cs' (D i,Pl i) h2 (qf1 hw2 (D i) (List.mem_map.2 ⟨i,List.mem_range.2 hi,rfl⟩)) (by have:=qhw (l:=(List.range len).map D) (List.mem_map.2 ⟨i,List.mem_range.2 hi,rfl⟩);show Rows.uptoBulk (D i)<=_;omega);rw [hC]at h1
   exact⟨x,cs',h1,hx1,hx2⟩)
  subst hxl;refine⟨_,xs,rfl,⟨some a,cap,rfl,hlen,hl,fun i x hx=>?_⟩,hkl,fun x hx=>?_⟩
  ·obtain⟨cs',h1,hx1,_⟩:=hxs i x hx
   obtain⟨h2,h3,h4⟩:=World.cells?_some h1;obtain⟨b,off,spot⟩:=a;have hlc:0<cs'.length:=by omega
   have hx0:0<xs.length:=by
    have:=(List.getElem?_eq_some_iff.1 hx).1;omega
   obtain⟨cs0,g1,_⟩:=hxs 0 _ (List.getElem?_eq_getElem hx0);obtain⟨_,g3,g4⟩:=World.cells?_some g1;have hlc0:0<cs0.length:=by omega
   have hc1:w.cell? (((⟨b,off,spot⟩:Addr).add (0*C)).add 0)=some cs0[0]:=by
    rw [g4 0 hC0];exact List.getElem?_eq_getElem hlc0
   have hspot:spot=none:=by simpa [Addr.add]using World.cell?_spot hc1
   subst hspot
   have hcell:Cells w b (off+i*C) cs':=fun j v hv=>by
    have hj:j<C:=by
     have:=(List.getElem?_eq_some_iff.1 hv).1;omega
    have:=h4 j hj;rw [add_plain,add_plain]at this;rw [this];exact hv
   exact⟨b,off,rfl,World.block_lt_of_cell? w _ (hcell 0 cs'[0] (List.getElem?_eq_getElem hlc)),cs',hcell,hx1⟩
  ·obtain⟨i,hi⟩:=List.getElem?_of_mem hx
   obtain⟨_,_,_,h⟩:=hxs i x hi;exact h
theorem qgj {t:TypeId} {k:IntKind} (ht:Tryz.prog.underlying t=some (.int k)):qb5 enc w base spare held t (fun cs => ∃z,cs=[.int k z]/\(Lit.int k z).wf=true):=by
 intro n cs y h _ _;obtain⟨z,e,_,g⟩:=DataW.trod_int ht h;exact⟨z,e,g⟩
theorem qji {t:TypeId} (ht:Tryz.prog.underlying t=some .bool):qb5 enc w base spare held t (fun cs => ∃b,cs=[.bool b]):=by
 intro n cs y h _ _;obtain⟨z,e,_⟩:=DataW.trod_bool ht h;exact⟨z,e⟩
theorem qgi {t:TypeId} (ht:Tryz.prog.underlying t=some .string):qb5 enc w base spare held t (fun cs => ∃l:List UInt8,cs=[.string (S l)]/\l.length<=1048576):=by
 intro n cs y h hw hk;obtain⟨s,e,hy,_⟩:=DataW.trod_string ht h;subst hy;simp only [Rows.uptoBulk]at hk;exact⟨s.data.toList,e,by omega⟩
theorem qda {t e:TypeId} (ht:Tryz.prog.underlying t=some (.slice e)) (hb:decide (1<=Tryz.prog.bytesOf e)=true):qb5 enc w base spare held t (fun cs => ∃(p:Option Addr) (n c:Nat),cs=[.slice p n c]/\n<=140737488355328):=by
 intro n cs y h hw hk;have hby:=of_decide_eq_true hb;rcases open_slice ht h with⟨rfl,_⟩|⟨a,len,cap,m,k,D,Pl,rfl,_,hl,hm,hmm,hy,_⟩
 ·exact⟨_,_,_,rfl,by omega⟩
 ·subst hy
  unfold Wt at hw;simp only [DataW.weights,ht,List.all_cons,Bool.and_eq_true,decide_eq_true_eq,List.length_map,List.length_range]at hw;have h2:=hw.1;have h3:len<=(len+(m-len))*Tryz.prog.bytesOf e:=Nat.le_trans (Nat.le_add_right len (m-len)) (Nat.le_mul_of_pos_right _ hby);unfold reachBytes at h2;exact⟨_,_,_,rfl,by omega⟩
theorem qak {t:TypeId} {fs:Array Field} {T:List Value->Prop} (ht:Tryz.prog.underlying t=some (.struct fs)) (N:Nat) (hN:Tryz.prog.cellsOf t=N)
  (hT : ∀cs,cs.length=N->(∀(i off n:Nat) (t':TypeId) (X:List Value->Prop),(fs[i]?).map (fun f=>(f.offset,f.type))=some (off,t')->Tryz.prog.cellsOf t'=n->qb5 enc w base spare held t' X->X ((cs.drop off).take n))->T cs):qb5 enc w base spare held t T:=by
 intro n cs y h hw hb;obtain⟨xs,m,_,hy,hl,hlen,hf⟩:=DataW.trod_struct ht h;refine hT cs (hl.trans hN) (fun i off k t' X hi hk hX=>?_);obtain⟨f,hfi,hfe⟩:=Option.map_eq_some_iff.1 hi;simp only [Prod.mk.injEq]at hfe;obtain⟨rfl,rfl⟩:=hfe
 have hi':i<xs.length:=by
  have:=(Array.getElem?_eq_some_iff.1 hfi).1;omega
 have h1:=hf i f hfi;rw [List.getElem?_eq_getElem hi',hk]at h1;subst hy;refine hX m _ xs[i] h1 ?_ (by have:=bulk_get (l:=xs.map (·.1)) (i:=i) (d:=xs[i].1) (by simp [hi']);simp only [Rows.uptoBulk]at hb;omega);unfold Wt at hw ⊢;simp only [DataW.weights,ht]at hw;exact qht hw i f.type xs[i].1 (by simp [hfi]) (by simp [hi'])
theorem ulist2 {α:Type} {l:List α} (h:l.length=2) : ∃a0 a1,l=[a0,a1]:=by
 match l,h with
 | [a0,a1],_=>exact⟨a0,a1,rfl⟩
theorem ulist3 {α:Type} {l:List α} (h:l.length=3) : ∃a0 a1 a2,l=[a0,a1,a2]:=by
 match l,h with
 | [a0,a1,a2],_=>exact⟨a0,a1,a2,rfl⟩
theorem ulist5 {α:Type} {l:List α} (h:l.length=5) : ∃a0 a1 a2 a3 a4,l=[a0,a1,a2,a3,a4]:=by
 match l,h with
 | [a0,a1,a2,a3,a4],_=>exact⟨a0,a1,a2,a3,a4,rfl⟩
theorem ulist7 {α:Type} {l:List α} (h:l.length=7) : ∃a0 a1 a2 a3 a4 a5 a6,l=[a0,a1,a2,a3,a4,a5,a6]:=by
 match l,h with
 | [a0,a1,a2,a3,a4,a5,a6],_=>exact⟨a0,a1,a2,a3,a4,a5,a6,rfl⟩
theorem ulist8 {α:Type} {l:List α} (h:l.length=8) : ∃a0 a1 a2 a3 a4 a5 a6 a7,l=[a0,a1,a2,a3,a4,a5,a6,a7]:=by
 match l,h with
 | [a0,a1,a2,a3,a4,a5,a6,a7],_=>exact⟨a0,a1,a2,a3,a4,a5,a6,a7,rfl⟩
theorem ulist16 {α:Type} {l:List α} (h:l.length=16) : ∃a0 a1 a2 a3 a4 a5 a6 a7 a8 a9 a10 a11 a12 a13 a14 a15,l=[a0,a1,a2,a3,a4,a5,a6,a7,a8,a9,a10,a11,a12,a13,a14,a15]:=by
 match l,h with
 | [a0,a1,a2,a3,a4,a5,a6,a7,a8,a9,a10,a11,a12,a13,a14,a15],_=>exact⟨a0,a1,a2,a3,a4,a5,a6,a7,a8,a9,a10,a11,a12,a13,a14,a15,rfl⟩
theorem qff:Tryz.prog.cellsOf 3=1:=by kernel_rfl
theorem qcy:qb5 enc w base spare held 3 (fun cs => ∃z,cs=[.int .i64 z]/\(Lit.int .i64 z).wf=true):=qgj Tryz.underlying3
theorem qm8:Tryz.prog.cellsOf 40=1:=by kernel_rfl
theorem qk1:qb5 enc w base spare held 40 (fun cs => ∃z,cs=[.int .u64 z]/\(Lit.int .u64 z).wf=true):=qgj Tryz.underlying40
theorem qb6:Tryz.prog.cellsOf 9=1:=by kernel_rfl
theorem qar:qb5 enc w base spare held 9 (fun cs => ∃l:List UInt8,cs=[.string (S l)]/\l.length<=1048576):=qgi Tryz.underlying9
theorem uc_bool:Tryz.prog.cellsOf 4=1:=by kernel_rfl
theorem qk2:qb5 enc w base spare held 4 (fun cs => ∃b,cs=[.bool b]):=qji Tryz.underlying4
def QNote (x:PNote):Prop:=x.name.length<=1048576
def QStr (x:Str):Prop:=x.length<=1048576
def QSpan (x:PSpan):Prop:=True
def qm1 (x:PField):Prop:=x.name.length<=1048576/\x.un.length<=1048576/\x.tn.length<=1048576/\∀n ∈ x.notes,QNote n
def QItem (x:PItem):Prop:=x.name.length<=1048576/\∀n ∈ x.notes,QNote n
def QMeth (x:PMeth):Prop:=x.name.length<=1048576/\∀n ∈ x.notes,QNote n
def QMsg (x:PMsg):Prop:=x.name.length<=1048576/\x.fields.length<=1048576/\x.res.length<=1048576/\x.gone.length<=1048576/\(∀f ∈ x.fields,qm1 f)/\(∀g ∈ x.gone,QStr g)/\∀n ∈ x.notes,QNote n
def QEnum (x:PEnum):Prop:=x.name.length<=1048576/\x.items.length<=1048576/\x.res.length<=1048576/\(∀f ∈ x.items,QItem f)/\∀n ∈ x.notes,QNote n
def QSvc (x:PSvc):Prop:=x.name.length<=1048576/\x.meths.length<=1048576/\(∀f ∈ x.meths,QMeth f)/\∀n ∈ x.notes,QNote n
def qdh (s:PSchema):Prop:=(∀m ∈ s.msgs,QMsg m)/\(∀e ∈ s.enums,QEnum e)/\∀v ∈ s.svcs,QSvc v
theorem qi0:qb5 enc w base spare held 46 (fun cs => ∃v,VVal cs v):=by
 refine qak Tryz.underlying46 7 (by kernel_rfl) (fun cs hl hp=>?_);obtain⟨a0,a1,a2,a3,a4,a5,a6,rfl⟩:=ulist7 hl;obtain⟨k,h0,x0⟩ : ∃z,[a0]=[.int .i64 z]/\(Lit.int .i64 z).wf=true:=hp 0 0 1 3 _ rfl qff qcy;obtain rfl:a0=_:=(List.cons.inj h0).1;obtain⟨x,h1,x1⟩ : ∃z,[a1]=[.int .u64 z]/\(Lit.int .u64 z).wf=true:=hp 1 1 1 40 _ rfl qm8 qk1;obtain rfl:a1=_:=(List.cons.inj h1).1;obtain⟨l,h2,x2⟩ : ∃l:List UInt8,[a2]=[.string (S l)]/\l.length<=1048576:=hp 2 2 1 9 _ rfl qb6 qar;obtain rfl:a2=_:=(List.cons.inj h2).1;obtain⟨p3,n1,c3,h3,x3⟩ : ∃(p:Option Addr) (n c:Nat),[a3]=[.slice p n c]/\n<=140737488355328:=hp 3 3 1 41 _ rfl (by kernel_rfl) (qda Tryz.underlying41 (by kernel_rfl));obtain rfl:a3=_:=(List.cons.inj h3).1;obtain⟨p4,n2,c4,h4,x4⟩ : ∃(p:Option Addr) (n c:Nat),[a4]=[.slice p n c]/\n<=140737488355328:=hp 4 4 1 42 _ rfl (by kernel_rfl) (qda Tryz.underlying42 (by kernel_rfl));obtain rfl:a4=_:=(List.cons.inj h4).1;obtain⟨p5,n3,c5,h5,x5⟩ : ∃(p:Option Addr) (n c:Nat),[a5]=[.slice p n c]/\n<=140737488355328:=hp 5 5 1 43 _ rfl (by kernel_rfl) (qda Tryz.underlying43 (by kernel_rfl));obtain rfl:a5=_:=(List.cons.inj h5).1;obtain⟨p6,n4,c6,h6,x6⟩ : ∃(p:Option Addr) (n c:Nat),[a6]=[.slice p n c]/\n<=140737488355328:=hp 6 6 1 44 _ rfl (by kernel_rfl) (qda Tryz.underlying44 (by kernel_rfl));obtain rfl:a6=_:=(List.cons.inj h6).1;exact⟨⟨k,x,l,n1,n2,n3,n4⟩,p3,p4,p5,p6,c3,c4,c5,c6,rfl,(qg6 x1).1,(qg6 x1).2,x3,x4,x5,x6⟩
theorem uop_Note:qb5 enc w base spare held 196 (fun cs => ∃x,VNote w cs x/\QNote x):=by
 refine qak Tryz.underlying196 8 (by kernel_rfl) (fun cs hl hp=>?_);obtain⟨a0,a1,a2,a3,a4,a5,a6,a7,rfl⟩:=ulist8 hl;obtain⟨l,h0,x0⟩ : ∃l:List UInt8,[a0]=[.string (S l)]/\l.length<=1048576:=hp 0 0 1 9 _ rfl qb6 qar;obtain rfl:a0=_:=(List.cons.inj h0).1;obtain⟨v,s1⟩ : ∃v,VVal [a1,a2,a3,a4,a5,a6,a7] v:=hp 1 1 7 46 _ rfl (by kernel_rfl) qi0;exact⟨⟨l,v⟩,⟨_,rfl,s1⟩,x0⟩
theorem qcl:qb5 enc w base spare held 55 (fun cs => ∃v xs,cs=[v]/\Sv 8 VNote w v xs/\xs.length<=1048576/\∀x ∈ xs,QNote x):=qav (V:=VNote) (Q:=QNote) Tryz.underlying55 (by kernel_rfl) (by decide) (by kernel_rfl) uop_Note
theorem uop_Span:qb5 enc w base spare held 183 (fun cs => ∃x,VSpan w cs x/\QSpan x):=by
 refine qak Tryz.underlying183 2 (by kernel_rfl) (fun cs hl hp=>?_);obtain⟨a0,a1,rfl⟩:=ulist2 hl;obtain⟨a,h0,x0⟩ : ∃z,[a0]=[.int .i64 z]/\(Lit.int .i64 z).wf=true:=hp 0 0 1 3 _ rfl qff qcy;obtain rfl:a0=_:=(List.cons.inj h0).1;obtain⟨b,h1,x1⟩ : ∃z,[a1]=[.int .i64 z]/\(Lit.int .i64 z).wf=true:=hp 1 1 1 3 _ rfl qff qcy;obtain rfl:a1=_:=(List.cons.inj h1).1;exact⟨⟨a,b⟩,rfl,trivial⟩
theorem qhz:qb5 enc w base spare held 53 (fun cs => ∃v xs,cs=[v]/\Sv 2 VSpan w v xs/\xs.length<=1048576/\∀x ∈ xs,QSpan x):=qav (V:=VSpan) (Q:=QSpan) Tryz.underlying53 (by kernel_rfl) (by decide) (by kernel_rfl) uop_Span
theorem uop_Str:qb5 enc w base spare held 9 (fun cs => ∃x,VStr w cs x/\QStr x):=by
 intro n cs y h hw hk;obtain⟨l,e,hl⟩:=qar n cs y h hw hk;exact⟨l,e,hl⟩
theorem uops_Str:qb5 enc w base spare held 54 (fun cs => ∃v xs,cs=[v]/\Sv 1 VStr w v xs/\xs.length<=1048576/\∀x ∈ xs,QStr x):=qav (V:=VStr) (Q:=QStr) Tryz.underlying54 (by kernel_rfl) (by decide) (by kernel_rfl) uop_Str
theorem uop_Type:qb5 enc w base spare held 63 (fun cs => ∃(k:Int) (l:List UInt8),cs=[.int .i64 k,.string (S l)]/\l.length<=1048576):=by
 refine qak Tryz.underlying63 2 (by kernel_rfl) (fun cs hl hp=>?_);obtain⟨a0,a1,rfl⟩:=ulist2 hl;obtain⟨k,h0,x0⟩ : ∃z,[a0]=[.int .i64 z]/\(Lit.int .i64 z).wf=true:=hp 0 0 1 3 _ rfl qff qcy;obtain rfl:a0=_:=(List.cons.inj h0).1;obtain⟨l,h1,x1⟩ : ∃l:List UInt8,[a1]=[.string (S l)]/\l.length<=1048576:=hp 1 1 1 9 _ rfl qb6 qar;obtain rfl:a1=_:=(List.cons.inj h1).1;exact⟨k,l,rfl,x1⟩
theorem qm7:qb5 enc w base spare held 65 (fun cs => ∃x,VField w cs x/\qm1 x):=by
 refine qak Tryz.underlying65 16 (by kernel_rfl) (fun cs hl hp=>?_);obtain⟨a0,a1,a2,a3,a4,a5,a6,a7,a8,a9,a10,a11,a12,a13,a14,a15,rfl⟩:=ulist16 hl;obtain⟨num,h0,x0⟩ : ∃z,[a0]=[.int .i64 z]/\(Lit.int .i64 z).wf=true:=hp 0 0 1 3 _ rfl qff qcy;obtain rfl:a0=_:=(List.cons.inj h0).1;obtain⟨nm,h1,x1⟩ : ∃l:List UInt8,[a1]=[.string (S l)]/\l.length<=1048576:=hp 1 1 1 9 _ rfl qb6 qar;obtain rfl:a1=_:=(List.cons.inj h1).1;obtain⟨ca,h2,x2⟩ : ∃z,[a2]=[.int .i64 z]/\(Lit.int .i64 z).wf=true:=hp 2 2 1 3 _ rfl qff qcy;obtain rfl:a2=_:=(List.cons.inj h2).1;obtain⟨ke,h3,x3⟩ : ∃z,[a3]=[.int .i64 z]/\(Lit.int .i64 z).wf=true:=hp 3 3 1 3 _ rfl qff qcy;obtain rfl:a3=_:=(List.cons.inj h3).1;obtain⟨tyk,tyn,h4,x4⟩ : ∃(k:Int) (l:List UInt8),[a4,a5]=[.int .i64 k,.string (S l)]/\l.length<=1048576:=hp 4 4 2 63 _ rfl (by kernel_rfl) uop_Type;obtain rfl:a4=_:=(List.cons.inj h4).1;obtain rfl:a5=_:=(List.cons.inj (List.cons.inj h4).2).1;obtain⟨un,h5,x5⟩ : ∃l:List UInt8,[a6]=[.string (S l)]/\l.length<=1048576:=hp 5 6 1 9 _ rfl qb6 qar;obtain rfl:a6=_:=(List.cons.inj h5).1;obtain⟨hd,h6⟩ : ∃b,[a7]=[.bool b]:=hp 6 7 1 4 _ rfl uc_bool qk2;obtain rfl:a7=_:=(List.cons.inj h6).1;obtain⟨df,s7⟩ : ∃v,VVal [a8,a9,a10,a11,a12,a13,a14] v:=hp 7 8 7 46 _ rfl (by kernel_rfl) qi0;obtain⟨v8,ns,h8,s8,l8,q8⟩ : ∃v xs,[a15]=[v]/\Sv 8 VNote w v xs/\xs.length<=1048576/\∀x ∈ xs,QNote x:=hp 8 15 1 55 _ rfl (by kernel_rfl) qcl;obtain rfl:a15=_:=(List.cons.inj h8).1;exact⟨⟨num,nm,ca,ke,tyk,tyn,un,hd,df,ns⟩,⟨_,_,rfl,s7,s8⟩,x1,x5,x4,q8⟩
theorem qk0:qb5 enc w base spare held 52 (fun cs => ∃v xs,cs=[v]/\Sv 16 VField w v xs/\xs.length<=1048576/\∀x ∈ xs,qm1 x):=qav (V:=VField) (Q:=qm1) Tryz.underlying52 (by kernel_rfl) (by decide) (by kernel_rfl) qm7
theorem uop_Item:qb5 enc w base spare held 162 (fun cs => ∃x,VItem w cs x/\QItem x):=by
 refine qak Tryz.underlying162 3 (by kernel_rfl) (fun cs hl hp=>?_);obtain⟨a0,a1,a2,rfl⟩:=ulist3 hl;obtain⟨nm,h0,x0⟩ : ∃l:List UInt8,[a0]=[.string (S l)]/\l.length<=1048576:=hp 0 0 1 9 _ rfl qb6 qar;obtain rfl:a0=_:=(List.cons.inj h0).1;obtain⟨num,h1,x1⟩ : ∃z,[a1]=[.int .i64 z]/\(Lit.int .i64 z).wf=true:=hp 1 1 1 3 _ rfl qff qcy;obtain rfl:a1=_:=(List.cons.inj h1).1;obtain⟨v2,ns,h2,s2,l2,q2⟩ : ∃v xs,[a2]=[v]/\Sv 8 VNote w v xs/\xs.length<=1048576/\∀x ∈ xs,QNote x:=hp 2 2 1 55 _ rfl (by kernel_rfl) qcl;obtain rfl:a2=_:=(List.cons.inj h2).1;exact⟨⟨nm,num,ns⟩,⟨_,rfl,s2⟩,x0,q2⟩
theorem qm5:qb5 enc w base spare held 125 (fun cs => ∃v xs,cs=[v]/\Sv 3 VItem w v xs/\xs.length<=1048576/\∀x ∈ xs,QItem x):=qav (V:=VItem) (Q:=QItem) Tryz.underlying125 (by kernel_rfl) (by decide) (by kernel_rfl) uop_Item
theorem uop_Meth:qb5 enc w base spare held 164 (fun cs => ∃x,VMeth w cs x/\QMeth x):=by
 refine qak Tryz.underlying164 5 (by kernel_rfl) (fun cs hl hp=>?_);obtain⟨a0,a1,a2,a3,a4,rfl⟩:=ulist5 hl;obtain⟨nm,h0,x0⟩ : ∃l:List UInt8,[a0]=[.string (S l)]/\l.length<=1048576:=hp 0 0 1 9 _ rfl qb6 qar;obtain rfl:a0=_:=(List.cons.inj h0).1;obtain⟨inn,h1,x1⟩ : ∃l:List UInt8,[a1]=[.string (S l)]/\l.length<=1048576:=hp 1 1 1 9 _ rfl qb6 qar;obtain rfl:a1=_:=(List.cons.inj h1).1;obtain⟨out,h2,x2⟩ : ∃l:List UInt8,[a2]=[.string (S l)]/\l.length<=1048576:=hp 2 2 1 9 _ rfl qb6 qar;obtain rfl:a2=_:=(List.cons.inj h2).1;obtain⟨sh,h3,x3⟩ : ∃z,[a3]=[.int .i64 z]/\(Lit.int .i64 z).wf=true:=hp 3 3 1 3 _ rfl qff qcy;obtain rfl:a3=_:=(List.cons.inj h3).1;obtain⟨v4,ns,h4,s4,l4,q4⟩ : ∃v xs,[a4]=[v]/\Sv 8 VNote w v xs/\xs.length<=1048576/\∀x ∈ xs,QNote x:=hp 4 4 1 55 _ rfl (by kernel_rfl) qcl;obtain rfl:a4=_:=(List.cons.inj h4).1;exact⟨⟨nm,inn,out,sh,ns⟩,⟨_,rfl,s4⟩,x0,q4⟩
theorem qm4:qb5 enc w base spare held 129 (fun cs => ∃v xs,cs=[v]/\Sv 5 VMeth w v xs/\xs.length<=1048576/\∀x ∈ xs,QMeth x):=qav (V:=VMeth) (Q:=QMeth) Tryz.underlying129 (by kernel_rfl) (by decide) (by kernel_rfl) uop_Meth
theorem uop_Msg:qb5 enc w base spare held 57 (fun cs => ∃x,VMsg w cs x/\QMsg x):=by
 refine qak Tryz.underlying57 5 (by kernel_rfl) (fun cs hl hp=>?_);obtain⟨a0,a1,a2,a3,a4,rfl⟩:=ulist5 hl;obtain⟨nm,h0,x0⟩ : ∃l:List UInt8,[a0]=[.string (S l)]/\l.length<=1048576:=hp 0 0 1 9 _ rfl qb6 qar;obtain rfl:a0=_:=(List.cons.inj h0).1;obtain⟨v1,fs,h1,s1,l1,q1⟩ : ∃v xs,[a1]=[v]/\Sv 16 VField w v xs/\xs.length<=1048576/\∀x ∈ xs,qm1 x:=hp 1 1 1 52 _ rfl (by kernel_rfl) qk0;obtain rfl:a1=_:=(List.cons.inj h1).1;obtain⟨v2,rs,h2,s2,l2,q2⟩ : ∃v xs,[a2]=[v]/\Sv 2 VSpan w v xs/\xs.length<=1048576/\∀x ∈ xs,QSpan x:=hp 2 2 1 53 _ rfl (by kernel_rfl) qhz;obtain rfl:a2=_:=(List.cons.inj h2).1;obtain⟨v3,gs,h3,s3,l3,q3⟩ : ∃v xs,[a3]=[v]/\Sv 1 VStr w v xs/\xs.length<=1048576/\∀x ∈ xs,QStr x:=hp 3 3 1 54 _ rfl (by kernel_rfl) uops_Str;obtain rfl:a3=_:=(List.cons.inj h3).1;obtain⟨v4,ns,h4,s4,l4,q4⟩ : ∃v xs,[a4]=[v]/\Sv 8 VNote w v xs/\xs.length<=1048576/\∀x ∈ xs,QNote x:=hp 4 4 1 55 _ rfl (by kernel_rfl) qcl;obtain rfl:a4=_:=(List.cons.inj h4).1;exact⟨⟨nm,fs,rs,gs,ns⟩,⟨_,_,_,_,rfl,s1,s2,s3,s4⟩,x0,l1,l2,l3,q1,q3,q4⟩
theorem uops_Msg:qb5 enc w base spare held 22 (fun cs => ∃v xs,cs=[v]/\Sv 5 VMsg w v xs/\xs.length<=1048576/\∀x ∈ xs,QMsg x):=qav (V:=VMsg) (Q:=QMsg) Tryz.underlying22 (by kernel_rfl) (by decide) (by kernel_rfl) uop_Msg
theorem uop_Enum:qb5 enc w base spare held 127 (fun cs => ∃x,VEnum w cs x/\QEnum x):=by
 refine qak Tryz.underlying127 5 (by kernel_rfl) (fun cs hl hp=>?_);obtain⟨a0,a1,a2,a3,a4,rfl⟩:=ulist5 hl;obtain⟨nm,h0,x0⟩ : ∃l:List UInt8,[a0]=[.string (S l)]/\l.length<=1048576:=hp 0 0 1 9 _ rfl qb6 qar;obtain rfl:a0=_:=(List.cons.inj h0).1;obtain⟨op,h1⟩ : ∃b,[a1]=[.bool b]:=hp 1 1 1 4 _ rfl uc_bool qk2;obtain rfl:a1=_:=(List.cons.inj h1).1;obtain⟨v2,its,h2,s2,l2,q2⟩ : ∃v xs,[a2]=[v]/\Sv 3 VItem w v xs/\xs.length<=1048576/\∀x ∈ xs,QItem x:=hp 2 2 1 125 _ rfl (by kernel_rfl) qm5;obtain rfl:a2=_:=(List.cons.inj h2).1;obtain⟨v3,rs,h3,s3,l3,q3⟩ : ∃v xs,[a3]=[v]/\Sv 2 VSpan w v xs/\xs.length<=1048576/\∀x ∈ xs,QSpan x:=hp 3 3 1 53 _ rfl (by kernel_rfl) qhz;obtain rfl:a3=_:=(List.cons.inj h3).1;obtain⟨v4,ns,h4,s4,l4,q4⟩ : ∃v xs,[a4]=[v]/\Sv 8 VNote w v xs/\xs.length<=1048576/\∀x ∈ xs,QNote x:=hp 4 4 1 55 _ rfl (by kernel_rfl) qcl;obtain rfl:a4=_:=(List.cons.inj h4).1;exact⟨⟨nm,op,its,rs,ns⟩,⟨_,_,_,rfl,s2,s3,s4⟩,x0,l2,l3,q2,q4⟩
theorem qm6:qb5 enc w base spare held 23 (fun cs => ∃v xs,cs=[v]/\Sv 5 VEnum w v xs/\xs.length<=1048576/\∀x ∈ xs,QEnum x):=qav (V:=VEnum) (Q:=QEnum) Tryz.underlying23 (by kernel_rfl) (by decide) (by kernel_rfl) uop_Enum
theorem uop_Svc:qb5 enc w base spare held 131 (fun cs => ∃x,VSvc w cs x/\QSvc x):=by
 refine qak Tryz.underlying131 3 (by kernel_rfl) (fun cs hl hp=>?_);obtain⟨a0,a1,a2,rfl⟩:=ulist3 hl;obtain⟨nm,h0,x0⟩ : ∃l:List UInt8,[a0]=[.string (S l)]/\l.length<=1048576:=hp 0 0 1 9 _ rfl qb6 qar;obtain rfl:a0=_:=(List.cons.inj h0).1;obtain⟨v1,ms,h1,s1,l1,q1⟩ : ∃v xs,[a1]=[v]/\Sv 5 VMeth w v xs/\xs.length<=1048576/\∀x ∈ xs,QMeth x:=hp 1 1 1 129 _ rfl (by kernel_rfl) qm4;obtain rfl:a1=_:=(List.cons.inj h1).1;obtain⟨v2,ns,h2,s2,l2,q2⟩ : ∃v xs,[a2]=[v]/\Sv 8 VNote w v xs/\xs.length<=1048576/\∀x ∈ xs,QNote x:=hp 2 2 1 55 _ rfl (by kernel_rfl) qcl;obtain rfl:a2=_:=(List.cons.inj h2).1;exact⟨⟨nm,ms,ns⟩,⟨_,_,rfl,s1,s2⟩,x0,l1,q1,q2⟩
theorem uops_Svc:qb5 enc w base spare held 24 (fun cs => ∃v xs,cs=[v]/\Sv 3 VSvc w v xs/\xs.length<=1048576/\∀x ∈ xs,QSvc x):=qav (V:=VSvc) (Q:=QSvc) Tryz.underlying24 (by kernel_rfl) (by decide) (by kernel_rfl) uop_Svc
theorem qk3:qb5 enc w base spare held 26 (fun cs => ∃s,VSchema w cs s/\qdh s):=by
 refine qak Tryz.underlying26 3 (by kernel_rfl) (fun cs hl hp=>?_);obtain⟨a0,a1,a2,rfl⟩:=ulist3 hl;obtain⟨v0,ms,h0,s0,l0,q0⟩ : ∃v xs,[a0]=[v]/\Sv 5 VMsg w v xs/\xs.length<=1048576/\∀x ∈ xs,QMsg x:=hp 0 0 1 22 _ rfl (by kernel_rfl) uops_Msg;obtain rfl:a0=_:=(List.cons.inj h0).1;obtain⟨v1,es,h1,s1,l1,q1⟩ : ∃v xs,[a1]=[v]/\Sv 5 VEnum w v xs/\xs.length<=1048576/\∀x ∈ xs,QEnum x:=hp 1 1 1 23 _ rfl (by kernel_rfl) qm6;obtain rfl:a1=_:=(List.cons.inj h1).1;obtain⟨v2,ss,h2,s2,l2,q2⟩ : ∃v xs,[a2]=[v]/\Sv 3 VSvc w v xs/\xs.length<=1048576/\∀x ∈ xs,QSvc x:=hp 2 2 1 24 _ rfl (by kernel_rfl) uops_Svc;obtain rfl:a2=_:=(List.cons.inj h2).1;exact⟨⟨ms,es,ss⟩,⟨_,_,_,rfl,s0,s1,s2⟩,q0,q1,q2⟩
theorem qfg {α:Type} {C:Nat} {V:World->List Value->α->Prop} {w:World} {v:Value} {xs:List α} (h:Sv C V w v xs) : ∃(q:Option Addr) (c:Nat),v=.slice q xs.length c:=by
 obtain⟨q,c,h1,h2⟩:=qa6 h;exact⟨q,c,h1⟩
theorem qju {r:Reach} {b0:Nat} {v:Value} {d:DataW H} {p:List MemPlace} (hv:Value.okWide Tryz.prog w r b0 26 v) (h:DataW.Trod enc Tryz.prog w base spare held 26 v d p) (hw:(d.weights Tryz.prog 26).all (·<=reachBytes)=true) (hb:Rows.uptoBulk d<=1048576) :
  ∃(q1 q2 q3:Option Addr) (c1 c2 c3:Nat) (s:PSchema),v=.agg #[.slice q1 s.msgs.length c1,.slice q2 s.enums.length c2,.slice q3 s.svcs.length c3]/\VSchema w [.slice q1 s.msgs.length c1,.slice q2 s.enums.length c2,.slice q3 s.svcs.length c3] s/\qdh s:=by
 obtain⟨cs,rfl,hsz⟩:=okWide_struct Tryz.underlying26 hv;obtain⟨fuel,hf⟩:=h;obtain⟨s,hs,hu⟩:=qk3 fuel _ (d,p) hf hw hb;have hs0:=hs;obtain⟨mv,ev,sv,hc,h1,h2,h3⟩:=hs;obtain⟨q1,c1,rfl⟩:=qfg h1;obtain⟨q2,c2,rfl⟩:=qfg h2;obtain⟨q3,c3,rfl⟩:=qfg h3
 have hcs:cs=#[.slice q1 s.msgs.length c1,.slice q2 s.enums.length c2,.slice q3 s.svcs.length c3]:=by
  have:cs.toList=[.slice q1 s.msgs.length c1,.slice q2 s.enums.length c2,.slice q3 s.svcs.length c3]:=hc;rw [←Array.toArray_toList (xs:=cs),this]
 subst hcs;exact⟨q1,q2,q3,c1,c2,c3,s,rfl,hs0,hu⟩
theorem qkc {s:PSchema} (h:qdh s) (hf:s.msgs.length<=8/\s.enums.length<=8/\s.svcs.length<=8):Short s:=by
 obtain⟨h1,h2,h3⟩:=h;have a1:=qnb s
 have a2:=qfw (fun m=>qb1 s m (qci s)) 20000000 s.msgs (fun m hm=>by
  have:=qgs s m (qci s);obtain⟨_,b1,b2,b3,_⟩:=h1 m hm;show(qb1 s m (qci s)).length<=20000000
  omega)
 have a3:=qfw enum 20000000 s.enums (fun e he=>by
  have:=enum_len e;obtain⟨_,b1,b3,_⟩:=h2 e he
  omega)
 have a4:=qfw (qbh s) 20000000 s.svcs (fun v hv=>by
  have:=qj7 s v;obtain⟨_,b3,_⟩:=h3 v hv
  omega)
 have ha:(Ck.all s).length<=1000000000:=by
  unfold Ck.all;simp only [List.length_append];omega
 have hN : ∀{l:List PNote},(∀n ∈ l,QNote n)->∀n ∈ l,n.name.length<=1000000000:=fun h n hn=>Nat.le_trans (h n hn) (by omega)
 refine⟨fun m hm=>?_,fun e he=>?_,fun v hv=>?_,⟨by omega,by omega,by omega⟩,ha⟩
 ·obtain⟨b1,b2,b3,b4,b5,b6,b7⟩:=h1 m hm
  refine⟨by omega,by omega,by omega,by omega,fun f hf=>?_,fun g hg=>Nat.le_trans (b6 g hg) (by omega),hN b7⟩;obtain⟨d1,d2,d3,d4⟩:=b5 f hf;exact⟨by omega,by omega,by omega,hN d4⟩
 ·obtain⟨b1,b2,b3,b4,b5⟩:=h2 e he
  refine⟨by omega,by omega,by omega,fun f hf=>?_,hN b5⟩;obtain⟨d1,d4⟩:=b4 f hf;exact⟨by omega,hN d4⟩
 ·obtain⟨b1,b2,b4,b5⟩:=h3 v hv
  refine⟨by omega,by omega,fun f hf=>?_,hN b5⟩;obtain⟨d1,d4⟩:=b4 f hf;exact⟨by omega,hN d4⟩
end
end Go.Proofs.YtaaneecceiefoaaGreatDoor
