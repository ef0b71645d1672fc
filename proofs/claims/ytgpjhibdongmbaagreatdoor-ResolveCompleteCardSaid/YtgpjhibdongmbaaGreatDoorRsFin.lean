import Derived.Test.YtgpjhibdongmbaaGreatDoorRsRep
import Derived.Test.YtgpjhibdongmbaaGreatDoorStillL
import Derived.Test.YtgpjhibdongmbaaGreatDoorRsIdx
set_option maxRecDepth 100000
set_option maxHeartbeats 4000000
set_option linter.unusedVariables false
set_option linter.unusedSimpArgs false
namespace Go.Proofs.YtgpjhibdongmbaaGreatDoor
section
open Go.RowKit Ck Rs
theorem cl_twE (e:PEnum) (vs:List Value) (gn:Str) (B:Nat) (W:World) (hv:VEnum W vs e) (hB:W.cell? ⟨B,0,none⟩=some (.string (S gn))) (h:gn ≠ e.name) :
  Calls Tryz.prog 133 #[.agg vs.toArray,.pointer (some ⟨B,0,none⟩)] W fun e' w'=>e'=.returned (.bool false)/\Bel W w':=by
 obtain⟨q1,q2,q3,c1,c2,c3,rfl,_⟩:=hv.form;have hlt:B<W.heap.size:=World.block_lt_of_cell? W _ hB;have V:=Lib.hid (show((S e.name).toList == (S gn).toList)=false by rw [eq_S];exact decide_eq_false (fun x=>h x.symm));clear hv h
 go_enter Tryz.func133,Tryz.ntmps133
 go_wp2;go_ret
 exact⟨qa3 V.out,(Bel.refl _).alloc _⟩
theorem cl_twG (p:PPlan) (g:PProg) (vs:List Value) (q2:Option Addr) (c2:Nat) (B:Nat) (W:World) (hv:VProg W vs g) (hB:W.cell? ⟨B,1,none⟩=some (.slice q2 p.enums.length c2)) (he:Sv 5 VEnum W (.slice q2 p.enums.length c2) p.enums) (h:sinG p g=true) :
  Calls Tryz.prog 132 #[.agg vs.toArray,.pointer (some ⟨B,0,none⟩)] W fun e' w'=>e'=.returned (.bool false)/\Bel W w':=by
 obtain⟨q,c,rfl,h1,l1⟩:=hv.form;unfold sinG at h;simp only [Bool.and_eq_true,List.all_eq_true,decide_eq_true_eq]at h;have hlt:B<W.heap.size:=World.block_lt_of_cell? W _ hB;have hS0:=(Bel.refl W).alloc (.cells #[.string (S g.name),.slice q g.ops.length c,.int .i64 g.uns] 52);have C:=Lib.hid (fun W' (k:Bel (W.alloc (.cells #[.string (S g.name),.slice q g.ops.length c,.int .i64 g.uns] 52)) W')=>(qbz (qde VEnum VEnum.len 133 #[.pointer (some ⟨W.heap.size,0,none⟩)] (enters_of Tryz.func133 (by kernel_rfl) rfl) (.slice q2 p.enums.length c2) p.enums (fun _=>false) W' (he.bel VEnum.stays (Bel.of hS0 k)) (fun x vs' W2 hx hv' hb=>cl_twE x vs' g.name W.heap.size W2 (VEnum.stays _ _ _ _ hb hv') (qaa (Bel.of k hb) 0 _ rfl) (h.1 x hx)))));have D:=Lib.hid (fun W' (k:Bel (W.alloc (.cells #[.string (S g.name),.slice q g.ops.length c,.int .i64 g.uns] 52)) W')=>show Calls Tryz.prog 134 #[.slice q g.ops.length c,.func (.func 135) #[] #[]] W' (fun e' w'=>e'=.returned (.bool false)/\Bel W' w')from by have:=pl_repOp q c g.ops W' (h1.bel VOp.stays (Bel.of hS0 k));rwa [h.2]at this);clear h hv h1 he
 go_enter Tryz.func132,Tryz.ntmps132
 go_wp2_with (first
  | (go_at_call 112;(with_reducible refine(C.out _ (Bel.refl _)).mono ?_);rintro e' w1 ⟨rfl,k1⟩;have k1:Bel _ w1:=k1;have t1_0:=qaa k1 0 _ rfl;have t1_1:=qaa k1 1 _ rfl;have t1_2:=qaa k1 2 _ rfl)
  | (go_at_call 134;(with_reducible refine(D.out _ k1).mono ?_);rintro e' w2 ⟨rfl,k2⟩;have k2:Bel _ w2:=Bel.of k1 k2))
 go_ret;exact⟨rfl,Bel.of hS0 k2⟩
theorem cl_twI (e:PEnum) (vs:List Value) (W:World) (hv:VEnum W vs e) (h:Rs.apart PItem.name e.items=true) :
  Calls Tryz.prog 136 #[.agg vs.toArray] W fun e' w'=>e'=.returned (.bool false)/\Bel W w':=by
 obtain⟨q1,q2,q3,c1,c2,c3,rfl,h1,_⟩:=hv.form;have hS0:=(Bel.refl W).alloc (.cells #[.string (S e.name),.bool e.op,.slice q1 e.items.length c1,.slice q2 e.res.length c2,.slice q3 e.notes.length c3] 84);have D:=Lib.hid (fun W' (k:Bel (W.alloc (.cells #[.string (S e.name),.bool e.op,.slice q1 e.items.length c1,.slice q2 e.res.length c2,.slice q3 e.notes.length c3] 84)) W')=>show Calls Tryz.prog 137 #[.slice q1 e.items.length c1,.func (.func 138) #[] #[]] W' (fun e' w'=>e'=.returned (.bool false)/\Bel W' w')from by have:=qk3 q1 c1 e.items W' (h1.bel VItem.stays (Bel.of hS0 k));rwa [h]at this);clear h hv h1
 go_enter Tryz.func136,Tryz.ntmps136
 go_wp2_with (go_at_call 137;(with_reducible refine(D.out _ (Bel.refl _)).mono ?_);rintro e' w1 ⟨rfl,k1⟩;have k1:Bel _ w1:=k1)
 go_ret;exact⟨rfl,Bel.of hS0 k1⟩
theorem pl_twice (p:PPlan) (vs:List Value) (w:World) (hv:VPlan w vs p) (h:qek p=true) :
  Calls Tryz.prog 86 #[.agg vs.toArray] w fun e' w'=>e'=.returned (.bool false)/\Bel w w':=by
 obtain⟨q1,q2,c1,c2,rfl,h1,h2,l1,l2⟩:=hv.form;unfold qek at h;rw [Bool.and_eq_true,List.all_eq_true,List.all_eq_true]at h;have hS0:=(Bel.refl w).alloc (.cells #[.slice q1 p.progs.length c1,.slice q2 p.enums.length c2] 25);have CG:=Lib.hid (fun W (k:Bel (w.alloc (.cells #[.slice q1 p.progs.length c1,.slice q2 p.enums.length c2] 25)) W)=>(qbz (qe9 VProg VProg.len 132 #[.pointer (some ⟨w.heap.size,0,none⟩)] (enters_of Tryz.func132 (by kernel_rfl) rfl) (.slice q1 p.progs.length c1) p.progs (fun _=>false) W (h1.bel VProg.stays (Bel.of hS0 k)) (fun x vs' W2 hx hv' hb=>cl_twG p x vs' q2 c2 w.heap.size W2 (VProg.stays _ _ _ _ hb hv') (qaa (Bel.of k hb) 1 _ rfl) (h2.bel VEnum.stays (Bel.of (Bel.of hS0 k) hb)) (h.1 x hx)))));have CE:=Lib.hid (fun W (k:Bel (w.alloc (.cells #[.slice q1 p.progs.length c1,.slice q2 p.enums.length c2] 25)) W)=>(qbz (qde VEnum VEnum.len 136 #[] (enters_of Tryz.func136 (by kernel_rfl) rfl) (.slice q2 p.enums.length c2) p.enums (fun _=>false) W (h2.bel VEnum.stays (Bel.of hS0 k)) (fun x vs' W2 hx hv' hb=>cl_twI x vs' W2 (VEnum.stays _ _ _ _ hb hv') (h.2 x hx)))));clear hv h1 h2 h
 go_enter Tryz.func86,Tryz.ntmps86
 go_wp2_with (first
  | (go_at_call 110;(with_reducible refine(CG.out _ (Bel.refl _)).mono ?_);rintro e' w1 ⟨rfl,k1⟩;have k1:Bel _ w1:=k1;have t1_0:=qaa k1 0 _ rfl;have t1_1:=qaa k1 1 _ rfl)
  | (go_at_call 112;(with_reducible refine(CE.out _ k1).mono ?_);rintro e' w2 ⟨rfl,k2⟩;have k2:Bel _ w2:=Bel.of k1 k2))
 go_ret;exact⟨rfl,Bel.of hS0 k2⟩
end
section
open Go.RowKit Ck Rs
theorem cl_ranO (o:POp) (vs:List Value) (W:World) (hv:VOp W vs o) (h:ranO o=true) :
  Calls Tryz.prog 140 #[.agg vs.toArray] W fun e' w'=>e'=.returned (.bool false)/\Bel W w':=by
 obtain rfl:vs=[.int .i64 o.num,.string (S o.name),.string (S o.ali),.int .i64 o.card,.int .i64 o.key,.int .i64 o.kind,.int .i64 o.tgt,.int .i64 o.un]:=hv;unfold ranO at h;simp only [decide_eq_true_eq]at h;have h1 : ¬ o.num<1:=by omega
 have h2 : ¬ 65535<o.num:=by omega
 clear h
 go_enter Tryz.func140,Tryz.ntmps140
 go_wp2;go_ret
 exact⟨rfl,(Bel.refl _).alloc _⟩
theorem cl_ranG (g:PProg) (vs:List Value) (W:World) (hv:VProg W vs g) (h:g.ops.all ranO=true) :
  Calls Tryz.prog 139 #[.agg vs.toArray] W fun e' w'=>e'=.returned (.bool false)/\Bel W w':=by
 obtain⟨q,c,rfl,h1,l1⟩:=hv.form;rw [List.all_eq_true]at h;have hS0:=(Bel.refl W).alloc (.cells #[.string (S g.name),.slice q g.ops.length c,.int .i64 g.uns] 52);have D:=Lib.hid (fun W' (k:Bel (W.alloc (.cells #[.string (S g.name),.slice q g.ops.length c,.int .i64 g.uns] 52)) W')=>(qbz (so_Op VOp VOp.len 140 #[] (enters_of Tryz.func140 (by kernel_rfl) rfl) (.slice q g.ops.length c) g.ops (fun _=>false) W' (h1.bel VOp.stays (Bel.of hS0 k)) (fun x vs' W2 hx hv' hb=>cl_ranO x vs' W2 hv' (h x hx)))));clear h hv h1
 go_enter Tryz.func139,Tryz.ntmps139
 go_wp2_with (go_at_call 116;(with_reducible refine(D.out _ (Bel.refl _)).mono ?_);rintro e' w1 ⟨rfl,k1⟩;have k1:Bel _ w1:=k1)
 go_ret;exact⟨rfl,Bel.of hS0 k1⟩
theorem cl_outI (e:PEnum) (x:PItem) (vs:List Value) (q2:Option Addr) (c2:Nat) (B:Nat) (W:World) (hv:VItem W vs x) (hB:W.cell? ⟨B,3,none⟩=some (.slice q2 e.res.length c2)) (hr:Spans W (.slice q2 e.res.length c2) e.res) (h1:x.num<=2147483647) (h2:qb6 e.res x.num=false) :
  Calls Tryz.prog 180 #[.agg vs.toArray,.pointer (some ⟨B,0,none⟩)] W fun e' w'=>e'=.returned (.bool false)/\Bel W w':=by
 obtain⟨q,c,rfl,_,_⟩:=hv.form;have hlt:B<W.heap.size:=World.block_lt_of_cell? W _ hB;have hS0:=(Bel.refl W).alloc (.cells #[.string (S x.name),.int .i64 x.num,.slice q x.notes.length c] 86);have C:=Lib.hid (fun W' (k:Bel (W.alloc (.cells #[.string (S x.name),.int .i64 x.num,.slice q x.notes.length c] 86)) W')=>qj2 (.slice q2 e.res.length c2) e.res x.num W' (hr.bel VSpan.stays (Bel.of hS0 k)));rw [h2]at C;have h3 : ¬ 2147483647<x.num:=by omega
 clear hv hr h2
 go_enter Tryz.func180,Tryz.ntmps180
 go_wp2_with (go_at_call 181;(with_reducible refine(C.out _ (Bel.refl _)).mono ?_);rintro e' w1 ⟨rfl,k1⟩;have k1:Bel _ w1:=k1)
 go_ret;exact⟨rfl,Bel.of hS0 k1⟩
theorem ranS_at {e:PEnum} (h:ranE e=true) {k:Nat} {x:PSpan} (hx:e.res[k]? = some x):0<=x.lo/\x.hi<=2147483647/\x.lo<=x.hi/\∀j y,k=j+1->e.res[j]? = some y->y.hi<x.lo:=by
 unfold ranE at h;simp only [Bool.and_eq_true,List.all_eq_true]at h;have h2:=h.2 k (List.mem_range.2 (List.getElem?_eq_some_iff.1 hx).1);unfold ranS at h2;rw [hx]at h2;simp only [Bool.and_eq_true,Bool.or_eq_true,decide_eq_true_eq]at h2;refine⟨h2.1.1,h2.1.2.1,h2.1.2.2,fun j y hk hy=>?_⟩;rcases h2.2 with h3|h3
 ·omega
 ·rw [show k-1=j by omega,hy]at h3
  exact of_decide_eq_true h3
theorem qjx {e:PEnum} (h:ranE e=true) {k:Nat} {x:PItem} (hx:e.items[k]? = some x):x.num<=2147483647/\(k=0->x.num=0)/\qb6 e.res x.num=false:=by
 unfold ranE at h;simp only [Bool.and_eq_true,List.all_eq_true]at h;have h2:=h.1 k (List.mem_range.2 (List.getElem?_eq_some_iff.1 hx).1);unfold ranI at h2;rw [hx]at h2;simp only [Bool.and_eq_true,Bool.not_eq_true',decide_eq_true_eq]at h2;exact⟨h2.1.1,fun hk=>by omega,h2.2⟩
theorem qk4 (e:PEnum) (vs:List Value) (W:World) (hv:VEnum W vs e) (hl:1<=e.items.length) (h:ranE e=true) :
  Calls Tryz.prog 141 #[.agg vs.toArray] W fun e' w'=>e'=.returned (.bool false)/\Bel W w':=by
 obtain⟨q1,q2,q3,c1,c2,c3,rfl,h1,h2,h3,l1,l2,l3⟩:=hv.form;have hS0:=(ST.start W).addbox #[.string (S e.name),.bool e.op,.slice q1 e.items.length c1,.slice q2 e.res.length c2,.slice q3 e.notes.length c3] 84;have CI:=Lib.hid (fun W' (k:Bel (W.alloc (.cells #[.string (S e.name),.bool e.op,.slice q1 e.items.length c1,.slice q2 e.res.length c2,.slice q3 e.notes.length c3] 84)) W')=>(qbz (qh0 VItem VItem.len 180 #[.pointer (some ⟨W.heap.size,0,none⟩)] (enters_of Tryz.func180 (by kernel_rfl) rfl) (.slice q1 e.items.length c1) e.items (fun _=>false) W' (h1.bel VItem.stays (Bel.of hS0.bel k)) (fun x vs' W2 hx hv' hb=>by obtain⟨i,hi⟩:=List.getElem?_of_mem hx;exact cl_outI e x vs' q2 c2 W.heap.size W2 (VItem.stays _ _ _ _ hb hv') (qaa (Bel.of k hb) 3 _ rfl) (h2.bel VSpan.stays (Bel.of (Bel.of hS0.bel k) hb)) (qjx h hi).1 (qjx h hi).2.2))))
 have I0:=Lib.hid (show ∃(b off:Nat) (x:PItem),q1=some ⟨b,off,none⟩/\x.num=0/\W.cell? ⟨b,off+1,none⟩=some (.int .i64 x.num)from by
  obtain⟨q',c',he,_,_,hel⟩:=h1;cases he;obtain⟨x,hx⟩ : ∃x,e.items[0]? = some x:=⟨_,List.getElem?_eq_getElem hl⟩;obtain⟨b,off,rfl,_,vs,hce,hvs⟩:=hel 0 x hx;obtain⟨q,c,rfl,_⟩:=VItem.form hvs
  exact⟨b,off,x,rfl,(qjx h hx).2.1 rfl,by have:=hce 1 _ rfl;simpa using this⟩)
 have RS:=Lib.hid (fun k x hx=>ranS_at h (k:=k) (x:=x) hx);obtain⟨q',c',he,_,hcap,hel⟩:=h2;cases he;have EL:=Lib.hid hel;have HS:=Lib.hid hS0;have hi0:(0:Int)<(e.items.length:Int):=by omega
 clear hv h1 h3 h hel hS0
 go_enter Tryz.func141,Tryz.ntmps141
 go_wp2
 go_loopw [8] (fun i wr => ∃k:Nat,k<=e.res.length/\i=.int .i64 k/\Bel (W.alloc (.cells #[.string (S e.name),.bool e.op,.slice q1 e.items.length c1,.slice q2 e.res.length c2,.slice q3 e.notes.length c3] 84)) wr/\Hid (ST W [] [⟨W.heap.size,#[.string (S e.name),.bool e.op,.slice q1 e.items.length c1,.slice q2 e.res.length c2,.slice q3 e.notes.length c3],84⟩] wr)) (fun i _=>e.res.length-(intOf i).toNat)
 case atStart=>exact⟨0,by omega,rfl,Bel.refl _,HS⟩
 case round=>as_aux_lemma=>
  clear HS;obtain⟨k,hk,rfl,hkE,hS⟩:=hrel;by_cases hlt:k<e.res.length
  ·have hg:e.res[k]? = some e.res[k]:=List.getElem?_eq_getElem hlt
   obtain⟨b,off,rfl,hbs,vs,hce,hvs⟩:=EL.out k _ hg;have hki:(k:Int)<(e.res.length:Int):=by omega
   obtain⟨r1,r2,r3,r4⟩:=RS.out k _ hg
   have PR:=Lib.hid (show ∀j,k=j+1->∃y:PSpan,y.hi<(e.res[k]).lo/\Hid (wr.cell? ⟨b,off+j*2+1,none⟩=some (.int .i64 y.hi))from fun j hj=>by
    obtain⟨y,hy⟩ : ∃y,e.res[j]? = some y:=⟨_,List.getElem?_eq_getElem (by omega)⟩;obtain⟨b',off',he,_,vy,hcy,hvy⟩:=EL.out j y hy;cases he;rw [show vy=[.int .i64 y.lo,.int .i64 y.hi]from hvy]at hcy
    exact⟨y,r4 j y hj hy,Lib.hid (hS.out.bel.some (hcy 1 _ rfl))⟩)
   generalize e.res[k]=x at *;rw [show vs=[.int .i64 x.lo,.int .i64 x.hi]from hvs]at hce;have e0:=hS.out.bel.some (hce 0 _ rfl);rw [Nat.add_zero]at e0;have e1:=hS.out.bel.some (hce 1 _ rfl);have HX:=Lib.hid (hS.out.addbox #[.int .i64 x.lo,.int .i64 x.hi] 116);have s1 : ¬ x.lo<0:=by omega
   have s2 : ¬ 2147483647<x.hi:=by omega
   have s3 : ¬ x.hi<x.lo:=by omega
   clear hce hvs hg EL RS r4 CI I0
   go_upto_region 4 with(fail)
   obtain⟨wd,hwd⟩ : ∃wd,wd=(wr.alloc (.cells #[.int .i64 x.lo,.int .i64 x.hi] 116)).drew:=⟨_,rfl⟩;have T:=HX.out.belw ((Bel.refl _).drew);rw [←hwd]at T;have T:=Lib.hid T;have kwd:Bel wr wd:=by rw [hwd];exact((Bel.refl wr).alloc _).drew
   have t0:=T.out.cell 0 rfl 0;have t1:=T.out.cell 0 rfl 1;have t3:=T.out.cell 1 rfl 3;dsimp only at t0 t1 t3;have HWD:=Lib.hid hwd;clear hwd e0 e1 HX;by_cases hk0:k=0
   ·have hq : ¬(0:Int)<(k:Int):=by omega
    have hqn : ¬ 0<k:=by omega
    have hqd:decide (0<k)=false:=decide_eq_false hqn;clear hk0 PR;refine qa8 28 (by kernel_rfl) (by kernel_rfl) HWD.out ?_
    (simp only [List.take_succ_cons,List.take_zero,List.drop_succ_cons,List.drop_zero]);(repeat (first|((with_reducible refine wpStill_step (fun K hK=>?_));go_simp;(with_reducible refine hK _ ?_);clear hK K)|((with_reducible refine qab ?_ ?_);(with_unfolding_all rfl))));(with_reducible refine wpStill_nil ?_)
    go_wp2;go_roundw
    case rel=>exact⟨k+1,by omega,by go_num,Bel.of hkE kwd,Lib.hid T.out.dropbox0⟩
    case measure=>simp [intOf];omega
   ·have hq:(0:Int)<(k:Int):=by omega
    have hqn:0<k:=by omega
    have hqd:decide (0<k)=true:=decide_eq_true hqn;obtain⟨j,hj⟩ : ∃j,k=j+1:=⟨k-1,by omega⟩;obtain⟨y,hy1,hy2⟩:=PR.out j hj;have e2:=kwd.some hy2.out;have s4 : ¬ x.lo<=y.hi:=by omega
    have j0:(0:Int)<=(j:Int):=by omega
    have j1:(j:Int)<(e.res.length:Int):=by omega
    have jw:IntKind.i64.wrap ((k:Int)-1)=(j:Int):=by rw [show(k:Int)-1=(j:Int)by omega];exact wrap_small _ (by omega) (by omega)
    have jw2:IntKind.i64.wrap (j:Int)=(j:Int):=wrap_small _ (by omega) (by omega);have jw3:(k:Int)-1=(j:Int):=by omega
    clear hk0 PR hj hy1;refine qa8 28 (by kernel_rfl) (by kernel_rfl) HWD.out ?_
    (simp only [List.take_succ_cons,List.take_zero,List.drop_succ_cons,List.drop_zero]);(repeat (first|((with_reducible refine wpStill_step (fun K hK=>?_));go_simp;(with_reducible refine hK _ ?_);clear hK K)|((with_reducible refine qab ?_ ?_);(with_unfolding_all rfl))));(with_reducible refine wpStill_nil ?_)
    go_wp2;go_roundw
    case rel=>exact⟨k+1,by omega,by go_num,Bel.of hkE kwd,Lib.hid T.out.dropbox0⟩
    case measure=>simp [intOf];omega
  ·have hki : ¬(k:Int)<(e.res.length:Int):=by omega
   obtain⟨b,off,x,rfl,hx0,hx1⟩:=I0.out;have e1:=hS.out.bel.some hx1;rw [hx0]at e1;have t2:=hS.out.cell 0 rfl 2;dsimp only at t2;clear EL RS I0 hx1 hx0
   go_wp2_with (go_at_call 120;(with_reducible refine(CI.out _ hkE).mono ?_);rintro e' w1 ⟨rfl,k1⟩;have k1:Bel _ w1:=Bel.of hkE k1)
   go_ret;exact⟨rfl,Bel.of ((Bel.refl W).alloc _) k1⟩
theorem qm3 (p:PPlan) (vs:List Value) (w:World) (hv:VPlan w vs p) (h:qen p=true) (hl : ∀e ∈ p.enums,1<=e.items.length) :
  Calls Tryz.prog 87 #[.agg vs.toArray] w fun e' w'=>e'=.returned (.bool false)/\Bel w w':=by
 obtain⟨q1,q2,c1,c2,rfl,h1,h2,l1,l2⟩:=hv.form;unfold qen at h;rw [Bool.and_eq_true,List.all_eq_true,List.all_eq_true]at h;have hS0:=(Bel.refl w).alloc (.cells #[.slice q1 p.progs.length c1,.slice q2 p.enums.length c2] 25);have CG:=Lib.hid (fun W (k:Bel (w.alloc (.cells #[.slice q1 p.progs.length c1,.slice q2 p.enums.length c2] 25)) W)=>(qbz (qe9 VProg VProg.len 139 #[] (enters_of Tryz.func139 (by kernel_rfl) rfl) (.slice q1 p.progs.length c1) p.progs (fun _=>false) W (h1.bel VProg.stays (Bel.of hS0 k)) (fun x vs' W2 hx hv' hb=>cl_ranG x vs' W2 (VProg.stays _ _ _ _ hb hv') (h.1 x hx)))));have CE:=Lib.hid (fun W (k:Bel (w.alloc (.cells #[.slice q1 p.progs.length c1,.slice q2 p.enums.length c2] 25)) W)=>(qbz (qde VEnum VEnum.len 141 #[] (enters_of Tryz.func141 (by kernel_rfl) rfl) (.slice q2 p.enums.length c2) p.enums (fun _=>false) W (h2.bel VEnum.stays (Bel.of hS0 k)) (fun x vs' W2 hx hv' hb=>qk4 x vs' W2 (VEnum.stays _ _ _ _ hb hv') (hl x hx) (h.2 x hx)))));clear hv h1 h2 h
 go_enter Tryz.func87,Tryz.ntmps87
 go_wp2_with (first
  | (go_at_call 110;(with_reducible refine(CG.out _ (Bel.refl _)).mono ?_);rintro e' w1 ⟨rfl,k1⟩;have k1:Bel _ w1:=k1;have t1_0:=qaa k1 0 _ rfl;have t1_1:=qaa k1 1 _ rfl)
  | (go_at_call 112;(with_reducible refine(CE.out _ k1).mono ?_);rintro e' w2 ⟨rfl,k2⟩;have k2:Bel _ w2:=Bel.of k1 k2))
 go_ret;exact⟨rfl,Bel.of hS0 k2⟩
end
end Go.Proofs.YtgpjhibdongmbaaGreatDoor
namespace Go.Proofs.YtgpjhibdongmbaaGreatDoor.Rs
open Ck
def Le (K F:List Bool):Prop:=K.length=F.length/\∀i:Nat,K.getD i false=true->F.getD i false=true
theorem getD_set (K:List Bool) (i j:Nat) (b:Bool):(K.set i b).getD j false=if i=j/\i<K.length then b else K.getD j false:=by
 rw [List.getD_eq_getElem?_getD,List.getD_eq_getElem?_getD,List.getElem?_set];by_cases h:i=j
 ·subst h
  by_cases h2:i<K.length
  ·simp [h2]
  ·simp [h2]
 ·simp [h]
theorem okG_mono {K F:List Bool} (h:Le K F) {g:PProg} (hk:okG K g=true):okG F g=true:=by
 unfold okG at *;rw [List.all_eq_true]at *;intro o ho;have:=hk o ho;unfold okAt at *;rw [Bool.or_eq_true]at *;exact this.imp id (h.2 _)
theorem Le.set {K F:List Bool} (h:Le K F) (i:Nat) {a b:Bool} (hab:a=true->b=true):Le (K.set i a) (F.set i b):=by
 refine⟨by simp [h.1],fun j hj=>?_⟩;rw [getD_set]at *;by_cases hc:i=j/\i<K.length
 ·rw [if_pos hc]at hj
  rw [if_pos (by rw [←h.1];exact hc)];exact hab hj
 ·rw [if_neg hc]at hj
  rw [if_neg (by rw [←h.1];exact hc)];exact h.2 j hj
theorem qjo : ∀(gs:List PProg) (i:Nat) (K F:List Bool) (a:Bool),Le K F->Le (qba gs i (K,a)).1 (finGo gs i F)
 | [],_,_,_,_,h=>h
 | g :: r,i,K,F,a,h=>by
  refine qjo r (i+1) _ _ _ (h.set i fun hk=>?_);rw [okG_mono h hk,Bool.or_true]
theorem qh5 (p:PPlan) : ∀(n:Nat) (K F:List Bool) (a:Bool),Le K F->Le (qcd p n (K,a)).1 (fins p n F)
 | 0,_,_,_,h=>h
 | n+1,K,F,a,h=>by
  have h2:=qjo p.progs 0 K F true h;unfold qcd fins;generalize qba p.progs 0 (K,true)=s at *;obtain⟨s1,s2⟩:=s;exact qh5 p n s1 _ s2 h2
theorem qh6 : ∀(gs:List PProg) (i:Nat) (K:List Bool) (a:Bool),(qba gs i (K,a)).1.length=K.length
 | [],_,_,_=>rfl
 | g :: r,i,K,a=>by
  unfold qba;rw [qh6 r];simp
theorem qdi : ∀(gs:List PProg) (i:Nat) (K:List Bool) (a:Bool) (j:Nat),j<i->(qba gs i (K,a)).1.getD j false=K.getD j false
 | [],_,_,_,_,_=>rfl
 | g :: r,i,K,a,j,h=>by
  unfold qba;rw [qdi r (i+1) _ _ j (by omega),getD_set,if_neg (by omega)]
theorem qh7 : ∀(gs:List PProg) (i:Nat) (K:List Bool) (a:Bool),i+gs.length<=K.length->(qba gs i (K,a)).2=true->a=true/\∀j,i<=j->j<i+gs.length->(qba gs i (K,a)).1.getD j false=true
 | [],i,K,a,_,h=>⟨h,fun j h1 h2=>by simp at h2;omega⟩
 | g :: r,i,K,a,hl,h=>by
  have hl2:i+r.length+1<=K.length:=by simpa [Nat.add_assoc]using hl
  unfold qba at h;obtain⟨h1,h2⟩:=qh7 r (i+1) (K.set i (okG K g)) (a && okG K g) (by simp;omega) h;rw [Bool.and_eq_true]at h1;refine⟨h1.1,fun j hj1 hj2=>?_⟩;unfold qba;by_cases hji:j=i
  ·subst hji
   show(qba r (j+1) (K.set j (okG K g),a && okG K g)).1.getD j false=true
   rw [qdi r (j+1) _ _ j (by omega),getD_set,if_pos ⟨rfl,by omega⟩];exact h1.2
  ·have hj3:j<i+(r.length+1):=by simpa using hj2
   exact h2 j (by omega) (by omega)
theorem qea (p:PPlan) : ∀(n:Nat) (s:List Bool × Bool),qcd p (n+1) s=qba p.progs 0 ((qcd p n s).1,true)
 | 0,s=>rfl
 | n+1,s=>by
  show qcd p (n+1) (qba p.progs 0 (s.1,true))=_
  rw [qea p n];rfl
theorem qfi (p:PPlan) : ∀(n:Nat) (s:List Bool × Bool),(qcd p n s).1.length=s.1.length
 | 0,s=>rfl
 | n+1,s=>by
  show(qcd p n (qba p.progs 0 (s.1,true))).1.length=_
  rw [qfi p n,qh6]
theorem qi4 : ∀(gs:List PProg) (i:Nat) (F:List Bool),(finGo gs i F).length=F.length
 | [],_,_=>rfl
 | g :: r,i,F=>by
  unfold finGo;rw [qi4 r];simp
theorem qgn (p:PPlan) : ∀(n:Nat) (F:List Bool),(fins p n F).length=F.length
 | 0,F=>rfl
 | n+1,F=>by
  show(fins p n (finGo p.progs 0 F)).length=_
  rw [qgn p n,qi4]
theorem fins_all (p:PPlan) (h:finite p=true) : ∀x ∈ fins p p.progs.length (List.replicate p.progs.length false),x=true:=by
 unfold finite at h;have hle:=qh5 p p.progs.length (List.replicate p.progs.length false) (List.replicate p.progs.length false) (decide (p.progs.length=0)) ⟨rfl,fun _ h=>h⟩;have hln:=qgn p p.progs.length (List.replicate p.progs.length false);rw [List.length_replicate]at hln;intro x hx;obtain⟨i,hi,rfl⟩:=List.getElem_of_mem hx;rw [hln]at hi
 have hk:(qcd p p.progs.length (List.replicate p.progs.length false,decide (p.progs.length=0))).1.getD i false=true:=by
  obtain⟨n,hn⟩ : ∃n,p.progs.length=n+1:=⟨p.progs.length-1,by omega⟩;rw [hn]at h hi ⊢;rw [qea]at h ⊢;refine(qh7 p.progs 0 _ true ?_ h).2 i (Nat.zero_le _) (by omega);rw [qfi];simp [hn]
 have h2:=hle.2 i hk;rw [List.getD_eq_getElem?_getD,List.getElem?_eq_getElem (by rw [hln];exact hi)]at h2;exact h2
def qeg:Int->Int->List POp->Option Int
 | m,_,[]=>some m
 | m,b,o :: r=>if o.un ≠ -1/\(o.card ≠ 2 ∨ (o.un ≠ m+1/\o.un ≠ b))then none else qeg (max m o.un) o.un r
theorem qef : ∀(ops:List POp) (m b k:Int), -1<=m->b<=m->(∀o ∈ ops,o.un = -1 ∨ o.card=2)->qbr (m+1) b ops=some k->qeg m b ops=some (k-1)
 | [],m,b,k,_,_,_,h=>by
  have:m+1=k:=by injection h
  show some m=some (k-1)
  congr 1
  omega
 | o :: r,m,b,k,hm,hb,ho,h=>by
  have ho1:=ho o (List.mem_cons_self ..);have ho2 : ∀x ∈ r,x.un = -1 ∨ x.card=2:=fun x hx=>ho x (List.mem_cons_of_mem _ hx)
  unfold qbr at h;unfold qeg;by_cases h1:o.un=m+1
  ·rw [if_pos h1]at h
   rw [if_neg (by omega),show max m o.un=m+1 by omega];exact qef r (m+1) o.un k (by omega) (by omega) ho2 h
  ·rw [if_neg h1]at h
   split at h
   ·cases h
   ·rw [if_neg (by omega),show max m o.un=m by omega]
    exact qef r m o.un k hm (by omega) ho2 h
def united (g:PProg):Bool:=match qeg (-1) (-1) g.ops with|some m=>decide (g.uns=m+1)|none=>false
theorem qlj {p:PPlan} {g:PProg} (h:argG p g=true):united g=true:=by
 unfold argG qcg at h;rw [Bool.and_eq_true,List.all_eq_true]at h;obtain⟨h1,h2⟩:=h
 have ho : ∀o ∈ g.ops,o.un = -1 ∨ o.card=2:=fun o ho=>by
  have:=h2 o ho;unfold qa4 at this;simp only [Bool.and_eq_true,decide_eq_true_eq]at this;exact this.2.2.2
 cases hj:qbr 0 (-1) g.ops with
 | none=>rw [hj]at h1;cases h1
 | some n=>
  rw [hj]at h1;unfold united;rw [qef g.ops (-1) (-1) n (by decide) (by decide) ho hj];simp only [decide_eq_true_eq]at h1 ⊢;omega
theorem qkq : ∀(ops:List POp) (n b k:Int),0<=n->-1<=b->b<n+1->qbr n b ops=some k->∀o ∈ ops, -1<=o.un/\o.un<=n+ops.length
 | [],n,b,k,_,_,_,_,o,ho=>by cases ho
 | x :: r,n,b,k,h0,hb,hb2,h,o,ho=>by
  unfold qbr at h;rw [List.length_cons];by_cases h1:x.un=n
  ·rw [if_pos h1]at h
   rcases List.mem_cons.1 ho with rfl|ho
   ·omega
   ·have:=qkq r (n+1) x.un k (by omega) (by omega) (by omega) h o ho
    omega
  ·rw [if_neg h1]at h
   split at h
   ·cases h
   ·rename_i hc
    have hxb:x.un = -1 ∨ b=x.un:=by omega
    rcases List.mem_cons.1 ho with rfl|ho
    ·omega
    ·have:=qkq r n x.un k h0 (by omega) (by omega) h o ho
     omega
theorem un_of {g:PProg} (h:qcg g=true) (hl:g.ops.length<=64) : ∀o ∈ g.ops, -1<=o.un/\o.un<1000000:=fun o ho=>by
 unfold qcg at h
 split at h
 ·rename_i n hn
  have:=qkq g.ops 0 (-1) n (by omega) (by omega) (by omega) hn o ho;omega
 ·cases h
def aimed (p:PPlan) (o:POp):Bool:=
 if o.kind=10 then decide (0<=o.tgt/\o.tgt<p.progs.length/\o.card ≠ 3)
 else if o.kind=9 then decide (0<=o.tgt/\o.tgt<p.enums.length)
 else decide (1<=o.kind/\o.kind<=9/\o.tgt = -1)
def operP (p:PPlan) (o:POp):Bool:=decide (Utf.bad o.ali<0/\o.ali.length<=4096/\1<=o.card/\o.card<=5) && (keyed o.card o.key && aimed p o)
theorem operP_of {p:PPlan} {o:POp} (h:qa4 p o=true):operP p o=true:=by
 unfold qa4 at h;unfold operP;simp only [Bool.and_eq_true,decide_eq_true_eq]at *;refine⟨⟨h.1.1,h.1.2.1,h.1.2.2.1,h.1.2.2.2.1⟩,h.2.1,?_⟩;have ht:=h.2.2.1;unfold qai at ht;unfold aimed
 split at ht
 ·rename_i h1;rw [if_pos h1];exact ht
 ·rename_i h1
  rw [if_neg h1]
  split at ht
  ·rename_i h2;rw [if_pos h2];exact ht
  ·rename_i h2
   rw [if_neg h2];simp only [decide_eq_true_eq]at *;omega
end Go.Proofs.YtgpjhibdongmbaaGreatDoor.Rs
