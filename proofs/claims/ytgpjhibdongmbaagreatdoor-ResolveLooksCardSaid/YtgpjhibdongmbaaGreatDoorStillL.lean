import Derived.Test.YtgpjhibdongmbaaGreatDoorRsLim
import Derived.Test.YtgpjhibdongmbaaGreatDoorRkA
import Derived.Shelf.SlicesQ.Load
set_option maxRecDepth 100000
set_option maxHeartbeats 4000000
set_option linter.unusedVariables false
set_option linter.unusedSimpArgs false
namespace Go.Proofs.YtgpjhibdongmbaaGreatDoor
section
open Go.RowKit Ck Rs
structure SmallG (g:PProg):Prop where
 nm:g.name.length<=300
 ops:g.ops.length<=400
 op : ∀o ∈ g.ops,o.name.length<=300/\o.ali.length<=300
structure SmallE (e:PEnum):Prop where
 nm:e.name.length<=300
 items:e.items.length<=400
 res:e.res.length<=400
 item : ∀x ∈ e.items,x.name.length<=300/\x.notes.length<=1/\∀n ∈ x.notes,n.val.t.length<=300
structure SmallP (p:PPlan):Prop where
 np:p.progs.length<=60
 ne:p.enums.length<=60
 pr : ∀g ∈ p.progs,SmallG g
 en : ∀e ∈ p.enums,SmallE e
theorem cl_namO (o:POp) (vs:List Value) (W:World) (hv:VOp W vs o) (h:qag o.name=true) (hl:o.name.length<=1000000000) :
  Calls Tryz.prog 117 #[.agg vs.toArray] W fun e' w'=>e'=.returned (.bool false)/\Bel W w':=by
 obtain rfl:vs=[.int .i64 o.num,.string (S o.name),.string (S o.ali),.int .i64 o.card,.int .i64 o.key,.int .i64 o.kind,.int .i64 o.tgt,.int .i64 o.un]:=hv;have hS0:=(Bel.refl W).alloc (.cells #[.int .i64 o.num,.string (S o.name),.string (S o.ali),.int .i64 o.card,.int .i64 o.key,.int .i64 o.kind,.int .i64 o.tgt,.int .i64 o.un] 54);have C:=Lib.hid (fun W' (k0:Bel (W.alloc (.cells #[.int .i64 o.num,.string (S o.name),.string (S o.ali),.int .i64 o.card,.int .i64 o.key,.int .i64 o.kind,.int .i64 o.tgt,.int .i64 o.un] 54)) W')=>(fun(k:Bel W W')=>qfh o.name W' (by omega)) (Bel.of hS0 k0));rw [h]at C;clear h hl
 go_enter Tryz.func117,Tryz.ntmps117
 go_wp2_with (go_at_call 118;(with_reducible refine(C.out _ (Bel.refl _)).mono ?_);rintro e' w1 ⟨rfl,k1⟩;have k1:Bel _ w1:=k1;have t1_0:=qa6 k1 0 _ rfl;have t1_1:=qa6 k1 1 _ rfl)
 go_ret;exact⟨rfl,Bel.of hS0 k1⟩
theorem cl_namI (o:PItem) (vs:List Value) (W:World) (hv:VItem W vs o) (h:qag o.name=true) (hl:o.name.length<=1000000000) :
  Calls Tryz.prog 121 #[.agg vs.toArray] W fun e' w'=>e'=.returned (.bool false)/\Bel W w':=by
 obtain⟨q,c,rfl,_,_⟩:=hv.form;have hS0:=(Bel.refl W).alloc (.cells #[.string (S o.name),.int .i64 o.num,.slice q o.notes.length c] 86);have C:=Lib.hid (fun W' (k0:Bel (W.alloc (.cells #[.string (S o.name),.int .i64 o.num,.slice q o.notes.length c] 86)) W')=>(fun(k:Bel W W')=>qfh o.name W' (by omega)) (Bel.of hS0 k0));rw [h]at C;clear h hl hv
 go_enter Tryz.func121,Tryz.ntmps121
 go_wp2_with (go_at_call 118;(with_reducible refine(C.out _ (Bel.refl _)).mono ?_);rintro e' w1 ⟨rfl,k1⟩;have k1:Bel _ w1:=k1;have t1_0:=qa6 k1 0 _ rfl;have t1_1:=qa6 k1 1 _ rfl)
 go_ret;exact⟨rfl,Bel.of hS0 k1⟩
theorem cl_namG (g:PProg) (vs:List Value) (W:World) (hv:VProg W vs g) (h:namG g=true) (hl:SmallG g) (hM:ML W) :
  Calls Tryz.prog 114 #[.agg vs.toArray] W fun e' w'=>e'=.returned (.bool false)/\Bel W w':=by
 obtain⟨q,c,rfl,h1,l1⟩:=hv.form;unfold namG at h;rw [Bool.and_eq_true,List.all_eq_true]at h;have hS0:=(Bel.refl W).alloc (.cells #[.string (S g.name),.slice q g.ops.length c,.int .i64 g.uns] 52);have C:=Lib.hid (fun W' (k0:Bel (W.alloc (.cells #[.string (S g.name),.slice q g.ops.length c,.int .i64 g.uns] 52)) W')=>(fun(k:Bel W W')=>pl_full g.name W' (by have:=hl.nm;omega) (hM.below k)) (Bel.of hS0 k0));rw [h.1]at C;have D:=Lib.hid (fun W' (k0:Bel (W.alloc (.cells #[.string (S g.name),.slice q g.ops.length c,.int .i64 g.uns] 52)) W')=>(fun(k:Bel W W')=>(qbc (so_Op VOp VOp.len 117 #[] (enters_of Tryz.func117 (by kernel_rfl) rfl) (.slice q g.ops.length c) g.ops (fun _=>false) W' (h1.bel VOp.stays k) (fun x vs' W2 hx hv' hb=>cl_namO x vs' W2 hv' (h.2 x hx) (by have:=(hl.op x hx).1;omega))))) (Bel.of hS0 k0));clear h hl hv h1 hM
 go_enter Tryz.func114,Tryz.ntmps114
 go_wp2_with (first
  | (go_at_call 115;(with_reducible refine(C.out _ (Bel.refl _)).mono ?_);rintro e' w1 ⟨rfl,k1⟩;have k1:Bel _ w1:=k1;have t1_0:=qa6 k1 0 _ rfl;have t1_1:=qa6 k1 1 _ rfl;have t1_2:=qa6 k1 2 _ rfl)
  | (go_at_call 116;(with_reducible refine(D.out _ k1).mono ?_);rintro e' w2 ⟨rfl,k2⟩;have k2:Bel _ w2:=Bel.of k1 k2;have t2_0:=qa6 k2 0 _ rfl;have t2_1:=qa6 k2 1 _ rfl))
 go_ret;exact⟨rfl,Bel.of hS0 k2⟩
theorem cl_namE (e:PEnum) (vs:List Value) (W:World) (hv:VEnum W vs e) (h:namE e=true) (hl:SmallE e) (hM:ML W) :
  Calls Tryz.prog 119 #[.agg vs.toArray] W fun e' w'=>e'=.returned (.bool false)/\Bel W w':=by
 obtain⟨q1,q2,q3,c1,c2,c3,rfl,h1,_,_,l1,l2,l3⟩:=hv.form;unfold namE at h;rw [Bool.and_eq_true,List.all_eq_true]at h;have hS0:=(Bel.refl W).alloc (.cells #[.string (S e.name),.bool e.op,.slice q1 e.items.length c1,.slice q2 e.res.length c2,.slice q3 e.notes.length c3] 84);have C:=Lib.hid (fun W' (k0:Bel (W.alloc (.cells #[.string (S e.name),.bool e.op,.slice q1 e.items.length c1,.slice q2 e.res.length c2,.slice q3 e.notes.length c3] 84)) W')=>(fun(k:Bel W W')=>pl_full e.name W' (by have:=hl.nm;omega) (hM.below k)) (Bel.of hS0 k0));rw [h.1]at C;have D:=Lib.hid (fun W' (k0:Bel (W.alloc (.cells #[.string (S e.name),.bool e.op,.slice q1 e.items.length c1,.slice q2 e.res.length c2,.slice q3 e.notes.length c3] 84)) W')=>(fun(k:Bel W W')=>(qbc (qf6 VItem VItem.len 121 #[] (enters_of Tryz.func121 (by kernel_rfl) rfl) (.slice q1 e.items.length c1) e.items (fun _=>false) W' (h1.bel VItem.stays k) (fun x vs' W2 hx hv' hb=>cl_namI x vs' W2 (VItem.stays _ _ _ _ hb hv') (h.2 x hx) (by have:=(hl.item x hx).1;omega))))) (Bel.of hS0 k0));clear h hl hv h1 hM
 go_enter Tryz.func119,Tryz.ntmps119
 go_wp2_with (first
  | (go_at_call 115;(with_reducible refine(C.out _ (Bel.refl _)).mono ?_);rintro e' w1 ⟨rfl,k1⟩;have k1:Bel _ w1:=k1;have t1_0:=qa6 k1 0 _ rfl;have t1_1:=qa6 k1 1 _ rfl;have t1_2:=qa6 k1 2 _ rfl;have t1_3:=qa6 k1 3 _ rfl;have t1_4:=qa6 k1 4 _ rfl)
  | (go_at_call 120;(with_reducible refine(D.out _ k1).mono ?_);rintro e' w2 ⟨rfl,k2⟩;have k2:Bel _ w2:=Bel.of k1 k2;have t2_0:=qa6 k2 0 _ rfl;have t2_1:=qa6 k2 1 _ rfl))
 go_ret;exact⟨rfl,Bel.of hS0 k2⟩
theorem qgl (p:PPlan) (vs:List Value) (w:World) (hv:VPlan w vs p) (h:names p=true) (hl:SmallP p) (hM:ML w) :
  Calls Tryz.prog 84 #[.agg vs.toArray] w fun e' w'=>e'=.returned (.bool false)/\Bel w w':=by
 obtain⟨q1,q2,c1,c2,rfl,h1,h2,l1,l2⟩:=hv.form;unfold names at h;rw [Bool.and_eq_true,List.all_eq_true,List.all_eq_true]at h;have hS0:=(Bel.refl w).alloc (.cells #[.slice q1 p.progs.length c1,.slice q2 p.enums.length c2] 25);have CG:=Lib.hid (fun W (k:Bel (w.alloc (.cells #[.slice q1 p.progs.length c1,.slice q2 p.enums.length c2] 25)) W)=>(qbc (qd4 VProg VProg.len 114 #[] (enters_of Tryz.func114 (by kernel_rfl) rfl) (.slice q1 p.progs.length c1) p.progs (fun _=>false) W (h1.bel VProg.stays (Bel.of hS0 k)) (fun x vs' W2 hx hv' hb=>cl_namG x vs' W2 (VProg.stays _ _ _ _ hb hv') (h.1 x hx) (hl.pr x hx) (hM.below (Bel.of (Bel.of hS0 k) hb))))));have CE:=Lib.hid (fun W (k:Bel (w.alloc (.cells #[.slice q1 p.progs.length c1,.slice q2 p.enums.length c2] 25)) W)=>(qbc (qcc VEnum VEnum.len 119 #[] (enters_of Tryz.func119 (by kernel_rfl) rfl) (.slice q2 p.enums.length c2) p.enums (fun _=>false) W (h2.bel VEnum.stays (Bel.of hS0 k)) (fun x vs' W2 hx hv' hb=>cl_namE x vs' W2 (VEnum.stays _ _ _ _ hb hv') (h.2 x hx) (hl.en x hx) (hM.below (Bel.of (Bel.of hS0 k) hb))))));clear hv h1 h2 h
 go_enter Tryz.func84,Tryz.ntmps84
 go_wp2_with (first
  | (go_at_call 110;(with_reducible refine(CG.out _ (Bel.refl _)).mono ?_);rintro e' w1 ⟨rfl,k1⟩;have k1:Bel _ w1:=k1;have t0:=qa6 k1 0 _ rfl;have t1:=qa6 k1 1 _ rfl)
  | (go_at_call 112;(with_reducible refine(CE.out _ k1).mono ?_);rintro e' w2 ⟨rfl,k2⟩;have k2:Bel _ w2:=Bel.of k1 k2))
 go_ret;exact⟨rfl,Bel.of hS0 k2⟩
end
section
open Go.RowKit
theorem qad {P:Program} {ops:Array Oper} {w:World} {Q:Act->Prop} {rest:List Oper} {a:Act} {o:Oper} (hgd:o.guard=none) (ty:TypeId) (x:Operand) (ho:o.op=.load ty x) (b off n:Nat) (vs:List Value) (hx:a.eval x=.pointer (some ⟨b,off,none⟩)) (hc : ∀i v,vs[i]? = some v->w.cell? ⟨b,off+i,none⟩=some v) (aE : ∀w,(isAgg ty).run P w=.ok true w) (zE : ∀w,(Go.sizeOf ty).run P w=.ok n w) (hn:vs.length=n)
  (h:wpStill P ops w Q rest (a.put o.dst (.agg vs.toArray))):wpStill P ops w Q (o :: rest) a:=by
 refine wpStill_step (fun K hK=>?_);have hw:Region.wanted o (yielded ops a.tmps)=true:=by simp [Region.wanted,hgd]
 rw [if_pos hw];have hl:Sem.run P (loadCellsFrom ⟨b,off,none⟩ 0 n #[]) w=.ok vs.toArray w:=run_loadCellsFrom_list P w ⟨b,off,none⟩ vs n hn (fun i v hi=>by rw [Addr.add_lit];exact hc i v hi)
 have hv:(loadVar ty ⟨b,off,none⟩).run P w=.ok (.agg vs.toArray) w:=by
  unfold loadVar loadCells;simp only [Sem.run_bind,aE,Result.andThen_ok,if_true,zE,hl,Sem.run_pure]
 unfold Oper.still execOp;simp only [ho,hx,Instr.loadAt,Instr.sureAddr,Sem.run_bind,Sem.run_pure,Result.andThen_ok,hv];rw [Oper.stillUpon_value];exact hK _ h
end
end Go.Proofs.YtgpjhibdongmbaaGreatDoor
