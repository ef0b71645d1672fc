import Derived.Test.YtaaneecceiefoaaGreatDoorMaNorm
import Derived.Test.YtaaneecceiefoaaGreatDoorOpen
import Derived.Test.YtaaneecceiefoaaGreatDoorRows
import Derived.Test.YtaaneecceiefoaaGreatDoorCkOut
import Derived.Test.YtaaneecceiefoaaGreatDoorMaMem
set_option maxRecDepth 100000
set_option maxHeartbeats 4000000
set_option linter.unusedVariables false
set_option linter.unusedSimpArgs false
namespace Go.Proofs.YtaaneecceiefoaaGreatDoor.Ma
structure PRaw where
 num:Int
 wire:Int
 bits:Nat
 data:List UInt8
inductive CV where
 | scalar (kind:Int) (bits:Nat) (text:List UInt8)
 | list (l:List CV)
 | map (l:List (CV × CV))
 | msg (slots:List (Int × CV)) (raws:List PRaw)
def CV.isMsg:CV->Bool
 | .msg _ _=>true
 | _=>false
def CV.kind:CV->Int
 | .scalar k _ _=>k
 | .list _=>11
 | .map _=>12
 | .msg _ _=>10
def keepO (f:CV->List PMask->CV) (m:List PMask) (x:Int × CV):Option (Int × CV):=(find m x.1).map fun e=>if whole e then x else(x.1,f x.2 e.subs)
def keep:Nat->CV->List PMask->CV
 | n+1,.msg sl rw,m=>.msg (sl.filterMap (keepO (keep n) m)) []
 | _,v,_=>v
def dropO (f:CV->List PMask->CV) (m:List PMask) (x:Int × CV):Option (Int × CV):=match find m x.1 with
 | some e=>if whole e || !x.2.isMsg then none else some (x.1,f x.2 e.subs)
 | none=>some x
def drop:Nat->CV->List PMask->CV
 | n+1,.msg sl rw,m=>.msg (sl.filterMap (dropO (drop n) m)) rw
 | _,v,_=>v
end Go.Proofs.YtaaneecceiefoaaGreatDoor.Ma
namespace Go.Proofs.YtaaneecceiefoaaGreatDoor
section
open Go.RowKit Ma
def SlA {α:Type} (A:Nat->Prop) (C:Nat) (V:World->List Value->α->Prop) (w:World) (v:Value) (xs:List α):Prop:=
 ∃(p:Option Addr) (c:Nat),v=.slice p xs.length c/\xs.length<=140737488355328/\xs.length<=c/\∀i x,xs[i]? = some x->∃b off vs,p=some ⟨b,off,none⟩/\b<w.heap.size/\A b/\Cells w b (off+i*C) vs/\V w vs x
theorem SlA.kept {α:Type} {A:Nat->Prop} {C:Nat} {V:World->List Value->α->Prop} {w w':World} {v:Value} {xs:List α} (h:SlA A C V w v xs) (k:Keep A w w') (hV : ∀vs x,V w vs x->V w' vs x):SlA A C V w' v xs:=by
 obtain⟨p,c,h1,h2,h3,hel⟩:=h;refine⟨p,c,h1,h2,h3,fun i x hx=>?_⟩;obtain⟨b,off,vs,e1,e2,e3,e4,e5⟩:=hel i x hx;exact⟨b,off,vs,e1,Nat.lt_of_lt_of_le e2 k.1,e3,fun j u hu=>k.cell e3 (e4 j u hu),hV vs x e5⟩
theorem SlA.weak {α:Type} {A A':Nat->Prop} {C:Nat} {V V':World->List Value->α->Prop} {w:World} {v:Value} {xs:List α} (h:SlA A C V w v xs) (k : ∀b,A b->b<w.heap.size->A' b) (hV : ∀vs x,V w vs x->V' w vs x):SlA A' C V' w v xs:=by
 obtain⟨p,c,h1,h2,h3,hel⟩:=h;refine⟨p,c,h1,h2,h3,fun i x hx=>?_⟩;obtain⟨b,off,vs,e1,e2,e3,e4,e5⟩:=hel i x hx;exact⟨b,off,vs,e1,e2,k b e3 e2,e4,hV vs x e5⟩
theorem SlA.nil {α:Type} (A:Nat->Prop) (C:Nat) (V:World->List Value->α->Prop) (w:World) (p:Option Addr) (c:Nat):SlA A C V w (.slice p 0 c) []:=⟨p,c,rfl,by simp,by simp,fun i x hx=>by simp at hx⟩
structure VC where
 k:Int
 b:Int
 t:List UInt8
 p1:Option Addr
 n1:Nat
 c1:Nat
 p2:Option Addr
 n2:Nat
 c2:Nat
 p3:Option Addr
 n3:Nat
 c3:Nat
 p4:Option Addr
 n4:Nat
 c4:Nat
def VC.cells (v:VC):List Value:=[.int .i64 v.k,.int .u64 v.b,.string (S v.t),.slice v.p1 v.n1 v.c1,.slice v.p2 v.n2 v.c2,.slice v.p3 v.n3 v.c3,.slice v.p4 v.n4 v.c4]
def rawC (r:PRaw):List Value:=[.int .i64 r.num,.int .i64 r.wire,.int .u64 r.bits,.string (S r.data)]
def VRaw (w:World) (vs:List Value) (r:PRaw):Prop:=vs=rawC r
def ValC (A:Nat->Prop):Nat->World->VC->CV->Prop
 | 0,_,_,_=>False
 | n+1,w,c,.scalar k b t=>c.k=k/\k ≠ 10/\k ≠ 11/\k ≠ 12/\c.b=b/\0<=c.b/\c.b<18446744073709551616/\c.t=t
 | n+1,w,c,.list l=>c.k=11/\SlA A 7 (fun w vs v => ∃d:VC,vs=d.cells/\ValC A n w d v) w (.slice c.p1 c.n1 c.c1) l
 | n+1,w,c,.map l=>c.k=12/\SlA A 14 (fun w vs (v:CV × CV) => ∃d1 d2:VC,vs=d1.cells ++ d2.cells/\ValC A n w d1 v.1/\ValC A n w d2 v.2) w (.slice c.p2 c.n2 c.c2) l
 | n+1,w,c,.msg sl rw=>c.k=10/\SlA A 8 (fun w vs (v:Int × CV) => ∃d:VC,vs=.int .i64 v.1 :: d.cells/\ValC A n w d v.2) w (.slice c.p3 c.n3 c.c3) sl/\SlA A 4 VRaw w (.slice c.p4 c.n4 c.c4) rw
def VList (A:Nat->Prop) (n:Nat) (w:World) (vs:List Value) (v:CV):Prop := ∃d:VC,vs=d.cells/\ValC A n w d v
def VPair (A:Nat->Prop) (n:Nat) (w:World) (vs:List Value) (v:CV × CV):Prop := ∃d1 d2:VC,vs=d1.cells ++ d2.cells/\ValC A n w d1 v.1/\ValC A n w d2 v.2
def VSlot (A:Nat->Prop) (n:Nat) (w:World) (vs:List Value) (v:Int × CV):Prop := ∃d:VC,vs=.int .i64 v.1 :: d.cells/\ValC A n w d v.2
theorem ValC.kept {A:Nat->Prop} : ∀{n:Nat} {w w':World} {c:VC} {v:CV},ValC A n w c v->Keep A w w'->ValC A n w' c v
 | 0,_,_,_,_,h,_=>h.elim
 | n+1,_,_,_,.scalar k b t,h,_=>h
 | n+1,_,_,_,.list l,h,k=>⟨h.1,(show SlA A 7 (VList A n) _ _ _ from h.2).kept k (fun _ _ ⟨d,h1,h2⟩=>⟨d,h1,ValC.kept h2 k⟩)⟩
 | n+1,_,_,_,.map l,h,k=>⟨h.1,(show SlA A 14 (VPair A n) _ _ _ from h.2).kept k (fun _ _ ⟨d1,d2,h1,h2,h3⟩=>⟨d1,d2,h1,ValC.kept h2 k,ValC.kept h3 k⟩)⟩
 | n+1,_,_,_,.msg sl rw,h,k=>⟨h.1,(show SlA A 8 (VSlot A n) _ _ _ from h.2.1).kept k (fun _ _ ⟨d,h1,h2⟩=>⟨d,h1,ValC.kept h2 k⟩),h.2.2.kept k (fun _ _ h=>h)⟩
theorem ValC.bel {A:Nat->Prop} {n:Nat} {w w':World} {c:VC} {v:CV} (h:ValC A n w c v) (k:Bel w w'):ValC A n w' c v:=h.kept (Keep.bel k)
theorem ValC.weak {A A':Nat->Prop} : ∀{n:Nat} {w:World} {c:VC} {v:CV},ValC A n w c v->(∀b,A b->b<w.heap.size->A' b)->ValC A' n w c v
 | 0,_,_,_,h,_=>h.elim
 | n+1,_,_,.scalar k b t,h,_=>h
 | n+1,_,_,.list l,h,k=>⟨h.1,(show SlA A 7 (VList A n) _ _ _ from h.2).weak k (fun _ _ ⟨d,h1,h2⟩=>⟨d,h1,ValC.weak h2 k⟩)⟩
 | n+1,_,_,.map l,h,k=>⟨h.1,(show SlA A 14 (VPair A n) _ _ _ from h.2).weak k (fun _ _ ⟨d1,d2,h1,h2,h3⟩=>⟨d1,d2,h1,ValC.weak h2 k,ValC.weak h3 k⟩)⟩
 | n+1,_,_,.msg sl rw,h,k=>⟨h.1,(show SlA A 8 (VSlot A n) _ _ _ from h.2.1).weak k (fun _ _ ⟨d,h1,h2⟩=>⟨d,h1,ValC.weak h2 k⟩),h.2.2.weak k (fun _ _ h=>h)⟩
theorem ValC.kind {A:Nat->Prop} : ∀{n:Nat} {w:World} {c:VC} {v:CV},ValC A n w c v->c.k=v.kind
 | 0,_,_,_,h=>h.elim
 | n+1,_,_,.scalar k b t,h=>h.1
 | n+1,_,_,.list l,h=>h.1
 | n+1,_,_,.map l,h=>h.1
 | n+1,_,_,.msg sl rw,h=>h.1
theorem ValC.msg {A:Nat->Prop} {n:Nat} {w:World} {c:VC} {v:CV} (h:ValC A n w c v):c.k=10 ↔ v.isMsg=true:=by
 cases n with
 | zero=>exact h.elim
 | succ n=>
  cases v with
  | scalar k b t=>exact⟨fun e=>absurd (h.1.symm.trans e) h.2.1,fun e=>(by cases e)⟩
  | list l=>exact⟨fun e=>(by have:=h.1.symm.trans e;omega),fun e=>(by cases e)⟩
  | map l=>exact⟨fun e=>(by have:=h.1.symm.trans e;omega),fun e=>(by cases e)⟩
  | msg sl rw=>exact⟨fun _=>rfl,fun _=>h.1⟩
theorem ValC.up {A:Nat->Prop} : ∀{n:Nat} {w:World} {c:VC} {v:CV},ValC A n w c v->ValC A (n+1) w c v
 | 0,_,_,_,h=>h.elim
 | n+1,_,_,.scalar k b t,h=>h
 | n+1,_,_,.list l,h=>⟨h.1,(show SlA A 7 (VList A n) _ _ _ from h.2).weak (fun _ hb _=>hb) (fun _ _ ⟨d,h1,h2⟩=>⟨d,h1,ValC.up h2⟩)⟩
 | n+1,_,_,.map l,h=>⟨h.1,(show SlA A 14 (VPair A n) _ _ _ from h.2).weak (fun _ hb _=>hb) (fun _ _ ⟨d1,d2,h1,h2,h3⟩=>⟨d1,d2,h1,ValC.up h2,ValC.up h3⟩)⟩
 | n+1,_,_,.msg sl rw,h=>⟨h.1,(show SlA A 8 (VSlot A n) _ _ _ from h.2.1).weak (fun _ hb _=>hb) (fun _ _ ⟨d,h1,h2⟩=>⟨d,h1,ValC.up h2⟩),h.2.2⟩
structure SE where
 x:Int × CV
 d:VC
def seC (e:SE):List Value:=.int .i64 e.x.1 :: e.d.cells
def SEok (A:Nat->Prop) (n:Nat) (w:World) (e:SE):Prop:=ValC A n w e.d e.x.2
theorem seC_len (e:SE):(seC e).length=8:=rfl
theorem qi8 (e:SE) : ∀v ∈ seC e,v.oneCell'=true:=by
 intro v hv;simp only [seC,VC.cells,List.mem_cons,List.not_mem_nil,or_false]at hv;rcases hv with rfl|rfl|rfl|rfl|rfl|rfl|rfl|rfl <;> rfl
theorem qi6 {A A':Nat->Prop} {n:Nat} {w:World} {B:Nat} {e:TypeId} {v:Value} {L:List SE} (h:w.ownsRow B e 8 v L.length (L.flatMap seC)) (hl:L.length<=140737488355328) (hV : ∀x ∈ L,SEok A n w x) (hA : ∀b,A b->A' b) (hB : ∀b,B<=b->A' b):SlA A' 8 (VSlot A' n) w v (L.map (·.x)):=by
 rcases qjh seC_len h with⟨rfl,rfl⟩|⟨g,c,rfl,hg,hs,hc,hel⟩
 ·exact SlA.nil _ _ _ _ _ _
 ·refine⟨some ⟨g,0,none⟩,c,by rw [List.length_map],by rw [List.length_map];exact hl,by rw [List.length_map];exact hc,fun i y hy=>?_⟩
  rw [List.getElem?_map]at hy;cases hx:L[i]? with
  | none=>rw [hx]at hy;cases hy
  | some x=>
   rw [hx]at hy;cases hy;refine⟨g,0,seC x,rfl,hs,hB g hg,fun j u hu=>by have:=hel i x hx j u hu;rwa [Nat.zero_add],x.d,rfl,(hV x (List.mem_of_getElem? hx)).weak (fun b hb _=>hA b hb)⟩
def sedge (v:Value) (L:List SE):Row:=⟨73,8,v,L.length,L.flatMap seC⟩
theorem qd3 {w0 w:World} {R:List Row} {X:List Box} {v:Value} {L:List SE} {e:SE} (h:ST w0 (⟨73,8,v,L.length+1,L.flatMap seC ++ seC e⟩ :: R) X w):ST w0 (sedge v (L ++ [e]) :: R) X w:=by
 unfold sedge;rw [List.length_append,List.flatMap_append]
 simpa using h
theorem qi7:(Tryz.prog.info? 73).map (fun i=>(i.zero,i.size,i.bytes))=some (some (.agg #[.int .i64 0,.int .i64 0,.int .u64 0,.string ByteArray.empty,.slice none 0 0,.slice none 0 0,.slice none 0 0,.slice none 0 0]),8,136):=by kernel_rfl
theorem SEok.grown {A:Nat->Prop} {M N n:Nat} {w w':World} {e:SE} {v:Value} {g m c:Nat} (h:SEok (Off A N v) n w e) (hg:w.grownBy w' v.ownBlock) (hA : ∀b,A b->b<M) (hv : ∀k,v.ownBlock=some k->M<=k) (hfr:v.ownBlock=some g ∨ g=w.heap.size):SEok (Off A N (.slice (some ⟨g,0,none⟩) m c)) n w' e:=by
 have h1:ValC (fun b=>Off A N v b/\b<w.heap.size) n w e.d e.x.2:=ValC.weak h (fun b hb hl=>⟨hb,hl⟩);refine ValC.weak (h1.kept (Keep.grown hg fun b hb e2=>?_)) (fun b hb _=>?_)
 ·rcases hb.1 with hb1|hb1
  ·have:=hA b hb1
   have:=hv b e2.symm;omega
  ·exact hb1.2 e2
 ·rcases hb.1 with hb1|hb1
  ·exact .inl hb1
  ·refine .inr ⟨hb1.1,fun e2=>?_⟩
   have e3:b=g:=by injection e2
   subst e3;rcases hfr with h4|h4
   ·exact hb1.2 h4.symm
   ·have:=hb.2
    omega
def SRowOK (A:Nat->Prop) (N n:Nat) (v:Value) (L:List SE) (w:World):Prop := ∀e ∈ L,SEok (Off A N v) n w e
theorem SRowOK.nil (A:Nat->Prop) (N n:Nat) (v:Value) (w:World):SRowOK A N n v [] w:=fun e he=>by cases he
theorem SRowOK.bel {A:Nat->Prop} {N n:Nat} {v:Value} {L:List SE} {w w':World} (h:SRowOK A N n v L w) (k:Bel w w'):SRowOK A N n v L w':=fun e he=>ValC.bel (h e he) k
theorem SRowOK.kept {A:Nat->Prop} {N n:Nat} {v:Value} {L:List SE} {w w':World} (h:SRowOK A N n v L w) (k:Keep (Off A N v) w w'):SRowOK A N n v L w':=fun e he=>ValC.kept (h e he) k
theorem SRowOK.snoc {A:Nat->Prop} {w0:World} {N n:Nat} {v:Value} {L:List SE} {w w':World} {e:SE} {R:List Row} {X:List Box} {g m c:Nat} (h:SRowOK A N n v L w) (hS:ST w0 (sedge v L :: R) X w) (hA : ∀b,A b->b<w0.heap.size) (he:SEok (Off A N v) n w e) (hg:w.grownBy w' v.ownBlock) {H:Nat} (hfr:v.ownBlock=some g ∨ g=H) (hH:w.heap.size=H):SRowOK A N n (.slice (some ⟨g,0,none⟩) m c) (L ++ [e]) w':=by
 subst hH;have hv : ∀k,v.ownBlock=some k->w0.heap.size<=k:=fun k hk=>((hS.row 0 rfl).lt k hk).1
 intro x hx;rcases List.mem_append.1 hx with hx|hx
 ·exact(h x hx).grown hg hA hv hfr
 ·rw [List.mem_singleton]at hx
  subst hx;exact SEok.grown he hg hA hv hfr
theorem qka {A:Nat->Prop} {w0 W:World} {v:Value} {L:List SE} {R:List Row} {X:List Box} (hS:ST w0 (sedge v L :: R) X W) {N:Nat} (hN:N<=W.heap.size) {b:Nat} (hb:A b ∨ W.heap.size<=b):Off A N v b:=by
 rcases hb with hb|hb
 ·exact .inl hb
 ·refine .inr ⟨Nat.le_trans hN hb,fun e=>?_⟩
  have:=((hS.row 0 rfl).lt b e.symm).2;omega
theorem qft {A:Nat->Prop} {N:Nat} {v:Value} {w:World} {g o:Nat} {u:Value} (hA : ∀b,A b->b<g) (hN:g<N):Keep (Off A N v) w (w.setCell ⟨g,o,none⟩ u):=Keep.grown (qbi w g o u) fun b hb e=>by
 have e2:b=g:=by injection e
 subst e2;rcases hb with hb|hb
 ·have:=hA b hb
  omega
 ·omega
theorem qk9 {A:Nat->Prop} {N n:Nat} {v:Value} {w:World} {e:SE} (h:ValC A n w e.d e.x.2):SEok (Off A N v) n w e:=h.weak (fun b hb _=>.inl hb)
def WdV (B:Nat):Nat->CV->Prop
 | 0,_=>True
 | n+1,.msg sl rw=>sl.length<=B/\∀x ∈ sl,WdV B n x.2
 | _+1,_=>True
def qnp (A:Nat->Prop) (n:Nat) (w:World) (cv:CV) (e:Ending) (w':World):Prop := ∃d:VC,e=.returned (.agg d.cells.toArray)/\ValC (fun b=>A b ∨ w.heap.size<=b) n w' d cv/\Bel w w'
end
section
open Go.ChangeShapes Go.WideShapes Go.RowKit Go.Deep Ma
section
variable {H : Type} {enc : TypeId × Value → H} {w : World} {base : Nat} {spare : Nat → Bool} {held : Bool}
def qh3 (N:Nat) (enc:TypeId × Value->H) (w:World) (base:Nat) (spare:Nat->Bool) (held:Bool) (t:TypeId) (T:List Value->Prop):Prop:=
 ∀(n:Nat) (cs:List Value) (y:DataW H × List MemPlace),DataW.trod enc Tryz.prog w base spare held n t cs=some y->Wt t y->Rows.uptoBulk y.1<=N->T cs
theorem bk_pos (d:DataW H):1<=Rows.uptoBulk d:=by
 cases d with
 | lit l=>cases l <;> simp [Rows.uptoBulk]
 | _=>simp [Rows.uptoBulk]
theorem bk_mem : ∀{l:List (DataW H)} {d:DataW H},d ∈ l->Rows.uptoBulk d<=Rows.uptoBulkAll l
 | a :: l,d,h=>by
  rw [Rows.uptoBulkAll];rcases List.mem_cons.1 h with rfl|h
  ·omega
  ·have:=bk_mem h
   omega
theorem bk_len : ∀(l:List (DataW H)),l.length<=Rows.uptoBulkAll l
 | []=>by simp
 | a :: l=>by
  rw [Rows.uptoBulkAll,List.length_cons];have:=bk_len l;have:=bk_pos a;omega
theorem on_zero (t:TypeId) (T:List Value->Prop):qh3 0 enc w base spare held t T:=fun n cs y _ _ hk=>by
 have:=bk_pos y.1;omega
theorem on_slice {α:Type} {N:Nat} {t e:TypeId} {C:Nat} {V:World->List Value->α->Prop} {Q:α->Prop} (ht:Tryz.prog.underlying t=some (.slice e)) (hC:Tryz.prog.cellsOf e=C) (hC0:0<C) (hb:decide (1<=Tryz.prog.bytesOf e)=true)
  (hV:qh3 N enc w base spare held e (fun cs => ∃x,V w cs x/\Q x)):qh3 N enc w base spare held t (fun cs => ∃v xs,cs=[v]/\SlA (fun b=>b<w.heap.size) C V w v xs/\xs.length<=N/\xs.length*Tryz.prog.bytesOf e<=140737488351232/\∀x ∈ xs,Q x):=by
 intro fuel cs y h hw hk;have hby:=of_decide_eq_true hb;rcases open_slice ht h with⟨rfl,_⟩|⟨a,len,cap,m,k,D,Pl,rfl,hbase,hl,hm,hmm,hy,hel⟩
 ·exact⟨_,[],rfl,SlA.nil _ _ _ _ _ _,by simp,by simp,fun x hx=>by cases hx⟩
 ·have hlm:len<=m:=by rw [hmm];split <;> omega
  subst hy;simp only [Rows.uptoBulk]at hk;unfold Wt at hw;simp only [DataW.weights,ht,List.all_cons,List.all_append,Bool.and_eq_true,decide_eq_true_eq,List.length_map,List.length_range]at hw;obtain⟨hw1,hw2,_⟩:=hw
  have hlen:len<=140737488355328:=by
   have h3:len<=(len+(m-len))*Tryz.prog.bytesOf e:=Nat.le_trans (Nat.le_add_right len (m-len)) (Nat.le_mul_of_pos_right _ hby);unfold reachBytes at hw1;omega
  have hlb:len*Tryz.prog.bytesOf e<=140737488351232:=by
   unfold reachBytes at hw1;exact Nat.le_trans (Nat.mul_le_mul_right _ (Nat.le_add_right len (m-len))) hw1
  have hk1:=bk_len ((List.range len).map D);rw [List.length_map,List.length_range]at hk1;have hkl:len<=N:=by omega
  obtain⟨xs,hxl,hxs⟩:=qls (fun i x => ∃cs',w.cells? base (a.add (i*C)) C=some cs'/\V w cs' x/\Q x) len (fun i hi=>by
   obtain⟨cs',h1,h2⟩:=hel i (by omega);obtain⟨x,hx1,hx2⟩:=hV k cs' (D i,Pl i) h2 (qf1 hw2 (D i) (List.mem_map.2 ⟨i,List.mem_range.2 hi,rfl⟩)) (by have:=bk_mem (l:=(List.range len).map D) (List.mem_map.2 ⟨i,List.mem_range.2 hi,rfl⟩);show Rows.uptoBulk (D i)<=_;omega);rw [hC]at h1
   exact⟨x,cs',h1,hx1,hx2⟩)
  subst hxl;refine⟨_,xs,rfl,⟨some a,cap,rfl,hlen,hl,fun i x hx=>?_⟩,hkl,hlb,fun x hx=>?_⟩
  ·obtain⟨cs',h1,hx1,_⟩:=hxs i x hx
   obtain⟨h2,h3,h4⟩:=World.cells?_some h1;obtain⟨b,off,spot⟩:=a;have hlc:0<cs'.length:=by omega
   have hx0:0<xs.length:=by
    have:=(List.getElem?_eq_some_iff.1 hx).1;omega
   obtain⟨cs0,g1,_⟩:=hxs 0 _ (List.getElem?_eq_getElem hx0);obtain⟨_,g3,g4⟩:=World.cells?_some g1;have hlc0:0<cs0.length:=by omega
   have hc1:w.cell? (((⟨b,off,spot⟩:Addr).add (0*C)).add 0)=some cs0[0]:=by
    rw [g4 0 hC0];exact List.getElem?_eq_getElem hlc0
   have hspot:spot=none:=by simpa [Addr.add]using World.cell?_spot hc1
   subst hspot
   have hcell:Cells w b (off+i*C) cs':=fun j v hv=>by
    have hj:j<C:=by
     have:=(List.getElem?_eq_some_iff.1 hv).1;omega
    have:=h4 j hj;rw [add_plain,add_plain]at this;rw [this];exact hv
   have hblt:=World.block_lt_of_cell? w _ (hcell 0 cs'[0] (List.getElem?_eq_getElem hlc));exact⟨b,off,cs',rfl,hblt,hblt,hcell,hx1⟩
  ·obtain⟨i,hi⟩:=List.getElem?_of_mem hx
   obtain⟨_,_,_,h⟩:=hxs i x hi;exact h
theorem on_int {N:Nat} {t:TypeId} {k:IntKind} (ht:Tryz.prog.underlying t=some (.int k)):qh3 N enc w base spare held t (fun cs => ∃z,cs=[.int k z]/\(Lit.int k z).wf=true):=by
 intro n cs y h _ _;obtain⟨z,e,_,g⟩:=DataW.trod_int ht h;exact⟨z,e,g⟩
theorem qmw {N:Nat} {t:TypeId} {fs:Array Field} {T:List Value->Prop} (ht:Tryz.prog.underlying t=some (.struct fs)) (C:Nat) (hC:Tryz.prog.cellsOf t=C)
  (hT : ∀cs,cs.length=C->(∀(i off n:Nat) (t':TypeId) (X:List Value->Prop),(fs[i]?).map (fun f=>(f.offset,f.type))=some (off,t')->Tryz.prog.cellsOf t'=n->qh3 N enc w base spare held t' X->X ((cs.drop off).take n))->T cs):qh3 (N+1) enc w base spare held t T:=by
 intro n cs y h hw hb;obtain⟨xs,m,_,hy,hl,hlen,hf⟩:=DataW.trod_struct ht h;refine hT cs (hl.trans hC) (fun i off k t' X hi hk hX=>?_);obtain⟨f,hfi,hfe⟩:=Option.map_eq_some_iff.1 hi;simp only [Prod.mk.injEq]at hfe;obtain⟨rfl,rfl⟩:=hfe
 have hi':i<xs.length:=by
  have:=(Array.getElem?_eq_some_iff.1 hfi).1;omega
 have h1:=hf i f hfi;rw [List.getElem?_eq_getElem hi',hk]at h1;subst hy;refine hX m _ xs[i] h1 ?_ (by have:=bk_mem (l:=xs.map (·.1)) (d:=xs[i].1) (List.mem_map.2 ⟨xs[i],List.getElem_mem hi',rfl⟩);simp only [Rows.uptoBulk]at hb;omega);unfold Wt at hw ⊢;simp only [DataW.weights,ht]at hw;exact qht hw i f.type xs[i].1 (by simp [hfi]) (by simp [hi'])
theorem nlist2 {α:Type} {l:List α} (h:l.length=2) : ∃a0 a1,l=[a0,a1]:=by
 match l,h with
 | [a0,a1],_=>exact⟨a0,a1,rfl⟩
theorem nc_int:Tryz.prog.cellsOf 3=1:=by kernel_rfl
def VMk (n:Nat) (w:World) (vs:List Value) (x:PMask):Prop := ∃sv,vs=[.int .i64 x.num,sv]/\MaskD (fun b=>b<w.heap.size) n w sv x.subs
theorem maskD_of {n:Nat} {w:World} {v:Value} {l:List PMask} (h:SlA (fun b=>b<w.heap.size) 2 (VMk n) w v l):MaskD (fun b=>b<w.heap.size) (n+1) w v l:=by
 obtain⟨p,c,h1,h2,h3,hel⟩:=h;refine⟨p,c,h1,h2,h3,fun i x hx=>?_⟩;obtain⟨b,off,vs,e1,e2,e3,e4,sv,e5,e6⟩:=hel i x hx;subst e5;exact⟨b,off,sv,e1,e2,e3,e4 0 _ rfl,e4 1 _ rfl,e6⟩
theorem ql1 (B:Nat) : ∀N:Nat,qh3 N enc w base spare held 27 (fun cs => ∃v l,cs=[v]/\MaskD (fun b=>b<w.heap.size) N w v l/\(N<=B->Wd B N l))
 | 0=>on_zero _ _
 | N+1=>by
  have hE:qh3 (N+1) enc w base spare held 61 (fun cs => ∃x,VMk N w cs x/\(N<=B->Wd B N x.subs)):=by
   refine qmw Tryz.underlying61 2 (by kernel_rfl) (fun cs hl hp=>?_);obtain⟨a0,a1,rfl⟩:=nlist2 hl;obtain⟨z,h0,_⟩ : ∃z,[a0]=[.int .i64 z]/\(Lit.int .i64 z).wf=true:=hp 0 0 1 3 _ rfl nc_int (on_int Tryz.underlying3);obtain rfl:a0=_:=(List.cons.inj h0).1;obtain⟨v,l,h1,h2,h3⟩ : ∃v l,[a1]=[v]/\MaskD (fun b=>b<w.heap.size) N w v l/\(N<=B->Wd B N l):=hp 1 1 1 27 _ rfl (by kernel_rfl) (ql1 B N);obtain rfl:a1=_:=(List.cons.inj h1).1;exact⟨.mk z l,⟨_,rfl,h2⟩,h3⟩
  intro fuel cs y h hw hk;obtain⟨v,l,e,h1,h2,_,h3⟩:=on_slice (C:=2) (V:=VMk N) (Q:=fun x=>N<=B->Wd B N x.subs) Tryz.underlying27 (by kernel_rfl) (by decide) (by kernel_rfl) hE fuel cs y h hw hk;exact⟨v,l,e,maskD_of h1,fun hB=>⟨Nat.le_trans h2 hB,fun x hx=>h3 x hx (by omega)⟩⟩
theorem qj2 {r:Reach} {b0:Nat} {v:Value} {d:DataW H} {p:List MemPlace} (hv:Value.okWide Tryz.prog w r b0 27 v) (h:DataW.Trod enc Tryz.prog w base spare held 27 v d p) (hw:(d.weights Tryz.prog 27).all (·<=reachBytes)=true) (N:Nat) (hb:Rows.uptoBulk d<=N) :
  ∃(q:Option Addr) (c:Nat) (l:List PMask),v=.slice q l.length c/\MaskD (fun b=>b<w.heap.size) N w (.slice q l.length c) l/\∀B,N<=B->Wd B N l:=by
 obtain⟨q,n,c,rfl⟩:=okWide_slice Tryz.underlying27 hv;obtain⟨fuel,hf⟩:=h;obtain⟨u,l,hc,hs,hq⟩:=ql1 N N fuel _ (d,p) hf hw hb
 have hu:u=.slice q n c:=by
  have:[Value.slice q n c]=[u]:=hc;exact(List.cons.inj this).1.symm
 subst hu;obtain⟨q',c',e⟩:=hs.form;cases e;exact⟨q,c,l,rfl,hs,fun B hB=>(hq (Nat.le_refl _)).mono hB⟩
end
end
section
open Go.RowKit Ck
end
section
open Go.RowKit Ck
def longN (x:PNote):Prop:=300<x.name.length ∨ 300<x.val.t.length ∨ 0<x.val.n
instance (x:PNote):Decidable (longN x):=by unfold longN;infer_instance
end
section
open Go.RowKit Ck
theorem qfw {α β:Type} (f:α->List β) (B:Nat) : ∀(l:List α),(∀x ∈ l,(f x).length<=B)->(l.flatMap f).length<=B*l.length
 | [],_=>by simp
 | x :: r,h=>by
  have ih:=qfw f B r (fun y hy=>h y (List.mem_cons_of_mem _ hy));have h1:=h x List.mem_cons_self;rw [List.flatMap_cons,List.length_append,List.length_cons,Nat.mul_add,Nat.mul_one];omega
theorem qes (s:PSchema) (m:PMsg) : ∀(l:List PField) (i:Nat),(qbd s m i l).length<=10*l.length
 | [],i=>by simp [qbd]
 | f :: r,i=>by
  have ih:=qes s m r (i+1);have h:=qll s m i f;unfold qbd;rw [List.length_append,List.length_cons];omega
theorem qiq (d:Str) : ∀(l:List Str),(l.flatMap (fun g=>un d (-1) (decide (Utf.bad g<0)) 7)).length<=l.length
 | []=>by simp
 | g :: r=>by
  have ih:=qiq d r;have h:=un_len d (-1) (decide (Utf.bad g<0)) 7;rw [List.flatMap_cons,List.length_append,List.length_cons];omega
theorem qmx (d:Str) (n:Int) (l:List PNote) (t:Int):(noted d n l t).length<=1:=un_len _ _ _ _
theorem qgs (s:PSchema) (m:PMsg) (fin:Str->Bool):(qb1 s m fin).length<=4+10*m.fields.length+2*m.res.length+m.gone.length:=by
 have h1:=un_len m.name (-1) (qaf m.name) 8;have h2:=un_len m.name (-1) (decide (m.fields.length<=64/\m.res.length<=16/\m.gone.length<=16)) 3;have h3:=qes s m m.fields 0;have h4:=qd0 m.name 1 65535 none m.res;have h5:=qiq m.name m.gone;have h6:=qmx m.name (-1) m.notes 1;have h7:=un_len m.name (-1) (!qlp s m fin) 19;unfold qb1 spans;simp only [List.length_append];omega
theorem qfa (e:PEnum) : ∀(l:List PItem) (i:Nat),(qch e i l).length<=6*l.length
 | [],i=>by simp [qch]
 | f :: r,i=>by
  have ih:=qfa e r (i+1);have h:=qn7 e i f;unfold qch;rw [List.length_append,List.length_cons];omega
theorem enum_len (e:PEnum):(enum e).length<=4+6*e.items.length+2*e.res.length:=by
 unfold enum spans noted;refine Nat.le_trans (qao (qao (qao (qao (qao (un_len _ _ _ _) (un_len _ _ _ _)) (un_len _ _ _ _)) (qfa e e.items 0)) (qd0 e.name 0 2147483647 none e.res)) (un_len _ _ _ _)) ?_;omega
theorem qf9 (s:PSchema) (v:PSvc) : ∀(l:List PMeth) (i:Nat),(qcg s v i l).length<=5*l.length
 | [],i=>by simp [qcg]
 | f :: r,i=>by
  have ih:=qf9 s v r (i+1);have h:=qmy s v i f;unfold qcg;rw [List.length_append,List.length_cons];omega
theorem qj7 (s:PSchema) (v:PSvc):(qbh s v).length<=3+5*v.meths.length:=by
 unfold qbh noted;have h1:=un_len v.name (-1) (qaf v.name) 8;have h2:=un_len v.name (-1) (decide (v.meths.length<=64)) 3;have h4:=qf9 s v v.meths 0;have h6:=un_len v.name (-1) (decide (qb0 v.notes 5=0)) (qb0 v.notes 5);simp only [List.length_append];omega
theorem qfr (l:List Str):(listP l).length<=2:=qao (un_len _ _ _ _) (un_len _ _ _ _)
theorem qnb (s:PSchema):(head s).length<=7:=by
 unfold head;exact qao (qao (qao (qfr _) (qfr _)) (qfr _)) (un_len _ _ _ _)
end
end Go.Proofs.YtaaneecceiefoaaGreatDoor
