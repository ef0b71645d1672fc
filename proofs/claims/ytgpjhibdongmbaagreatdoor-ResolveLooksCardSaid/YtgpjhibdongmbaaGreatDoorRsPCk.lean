import Derived.Test.YtgpjhibdongmbaaGreatDoorRsLim
import Derived.Test.YtgpjhibdongmbaaGreatDoorStillL
import Derived.Test.YtgpjhibdongmbaaGreatDoorRsOrd
import Derived.Test.YtgpjhibdongmbaaGreatDoorRsRan
import Derived.Test.YtgpjhibdongmbaaGreatDoorRsWro
import Derived.Test.YtgpjhibdongmbaaGreatDoorRsEnd
import Derived.Test.YtgpjhibdongmbaaGreatDoorTwo
set_option maxRecDepth 100000
set_option maxHeartbeats 4000000
set_option linter.unusedVariables false
set_option linter.unusedSimpArgs false
namespace Go.Proofs.YtgpjhibdongmbaaGreatDoor
open Go.RowKit Ck Rs
theorem qho (p:PPlan) (vs:List Value) (w:World) (hv:VPlan w vs p) (h:Valid p) (hs:SmallP p) (hM:ML w) :
  Calls Tryz.prog 57 #[.agg vs.toArray] w fun e' w'=>e'=.returned (.int .i64 0)/\Bel w w':=by
 have hv0:=hv;obtain⟨q1,q2,c1,c2,rfl,_,_,l1,l2⟩:=hv.form;have hS0:=(Bel.refl w).alloc (.cells #[.slice q1 p.progs.length c1,.slice q2 p.enums.length c2] 25);have hlm:=h.lim;unfold qhy at hlm;simp only [Bool.and_eq_true,List.all_eq_true]at hlm;have hit : ∀e ∈ p.enums,1<=e.items.length:=fun e he=>(of_decide_eq_true (hlm.2.2 e he)).1
 have hun : ∀g ∈ p.progs, ∀o ∈ g.ops, -1<=o.un/\o.un<1000000:=fun g hg=>un_of (by
  have:=h.arg;unfold arguments at this;rw [Bool.and_eq_true,List.all_eq_true,List.all_eq_true]at this;have:=this.2 g hg;unfold argG at this;rw [Bool.and_eq_true]at this
  exact this.1) (of_decide_eq_true (hlm.2.1 g hg))
 have C0:=Lib.hid (fun W (k:Bel (w.alloc (.cells #[.slice q1 p.progs.length c1,.slice q2 p.enums.length c2] 25)) W)=>qhm p _ W (VPlan.stays _ _ _ _ (Bel.of hS0 k) hv0) h.lim);have C1:=Lib.hid (fun W (k:Bel (w.alloc (.cells #[.slice q1 p.progs.length c1,.slice q2 p.enums.length c2] 25)) W)=>qgl p _ W (VPlan.stays _ _ _ _ (Bel.of hS0 k) hv0) h.nam hs (hM.below (Bel.of hS0 k)));have C2:=Lib.hid (fun W (k:Bel (w.alloc (.cells #[.slice q1 p.progs.length c1,.slice q2 p.enums.length c2] 25)) W)=>qem p _ W (VPlan.stays _ _ _ _ (Bel.of hS0 k) hv0) h.ord);have C3:=Lib.hid (fun W (k:Bel (w.alloc (.cells #[.slice q1 p.progs.length c1,.slice q2 p.enums.length c2] 25)) W)=>pl_twice p _ W (VPlan.stays _ _ _ _ (Bel.of hS0 k) hv0) h.sin);have C4:=Lib.hid (fun W (k:Bel (w.alloc (.cells #[.slice q1 p.progs.length c1,.slice q2 p.enums.length c2] 25)) W)=>qj0 p _ W (VPlan.stays _ _ _ _ (Bel.of hS0 k) hv0) h.ran hit);have C5:=Lib.hid (fun W (k:Bel (w.alloc (.cells #[.slice q1 p.progs.length c1,.slice q2 p.enums.length c2] 25)) W)=>pl_wrong p _ W (VPlan.stays _ _ _ _ (Bel.of hS0 k) hv0) h.arg hun);have C6:=Lib.hid (fun W (k:Bel (w.alloc (.cells #[.slice q1 p.progs.length c1,.slice q2 p.enums.length c2] 25)) W)=>qhn p _ W (VPlan.stays _ _ _ _ (Bel.of hS0 k) hv0) (by have:=hs.np;omega) (qcs h) (fins_all p h.fin));clear hv hv0 hlm hit hun h hs hM
 go_enter Tryz.func57,Tryz.ntmps57
 go_wp2_with (first
  | (go_at_call 83;(with_reducible refine(C0.out _ (Bel.refl _)).mono ?_);rintro e' w1 ⟨rfl,k1⟩;have k1:Bel _ w1:=k1;have t1_0:=qa6 k1 0 _ rfl;have t1_1:=qa6 k1 1 _ rfl)
  | (go_at_call 84;(with_reducible refine(C1.out _ k1).mono ?_);rintro e' w2 ⟨rfl,k2⟩;have k2:Bel _ w2:=Bel.of k1 k2;have t2_0:=qa6 k2 0 _ rfl;have t2_1:=qa6 k2 1 _ rfl)
  | (go_at_call 85;(with_reducible refine(C2.out _ k2).mono ?_);rintro e' w3 ⟨rfl,k3⟩;have k3:Bel _ w3:=Bel.of k2 k3;have t3_0:=qa6 k3 0 _ rfl;have t3_1:=qa6 k3 1 _ rfl)
  | (go_at_call 86;(with_reducible refine(C3.out _ k3).mono ?_);rintro e' w4 ⟨rfl,k4⟩;have k4:Bel _ w4:=Bel.of k3 k4;have t4_0:=qa6 k4 0 _ rfl;have t4_1:=qa6 k4 1 _ rfl)
  | (go_at_call 87;(with_reducible refine(C4.out _ k4).mono ?_);rintro e' w5 ⟨rfl,k5⟩;have k5:Bel _ w5:=Bel.of k4 k5;have t5_0:=qa6 k5 0 _ rfl;have t5_1:=qa6 k5 1 _ rfl)
  | (go_at_call 88;(with_reducible refine(C5.out _ k5).mono ?_);rintro e' w6 ⟨rfl,k6⟩;have k6:Bel _ w6:=Bel.of k5 k6;have t6_0:=qa6 k6 0 _ rfl;have t6_1:=qa6 k6 1 _ rfl)
  | (go_at_call 89;(with_reducible refine(C6.out _ k6).mono ?_);rintro e' w7 ⟨rfl,k7⟩;have k7:Bel _ w7:=Bel.of k6 k7;have t7_0:=qa6 k7 0 _ rfl;have t7_1:=qa6 k7 1 _ rfl))
 go_ret;exact⟨rfl,Bel.of hS0 k7⟩
theorem cl_Find (g:PProg) (vs:List Value) (nm:Str) (B:Nat) (W:World) (hv:VProg W vs g) (hB:W.cell? ⟨B,0,none⟩=some (.string (S nm))) :
  Calls Tryz.prog 56 #[.agg vs.toArray,.pointer (some ⟨B,0,none⟩)] W fun e' w'=>e'=.returned (.bool (decide (g.name=nm)))/\Bel W w':=by
 obtain⟨q,c,rfl,_⟩:=hv.form;have hlt:B<W.heap.size:=World.block_lt_of_cell? W _ hB;have V:=Lib.hid (eq_S g.name nm);clear hv
 go_enter Tryz.func56,Tryz.ntmps56
 go_wp2;go_ret
 exact⟨qa3 V.out,(Bel.refl _).alloc _⟩
theorem qiy (p:PPlan) (nm:Str):idxL (fun g:PProg=>decide (g.name=nm)) p.progs=match qcx p nm with|some i=>(i:Int)|none => -1:=rfl
def qam (p:PPlan) (nm:Str):Value:=match qcx p nm with|some i=>.tuple #[.int .i64 (i:Int),.bool true]|none=>.tuple #[.int .i64 0,.bool false]
theorem pl_Find (p:PPlan) (vs:List Value) (nm:Str) (w:World) (hv:VPlan w vs p) :
  Calls Tryz.prog 30 #[.agg vs.toArray,.string (S nm)] w fun e' w'=>e'=.returned (qam p nm)/\Bel w w':=by
 obtain⟨q1,q2,c1,c2,rfl,h1,h2,l1,l2⟩:=hv.form;have hS0:=((ST.start w).addbox #[.slice q1 p.progs.length c1,.slice q2 p.enums.length c2] 25).addbox #[.string (S nm)] 9;simp only [World.size_alloc]at hS0
 have C:=Lib.hid (fun W (T:ST w [] [⟨w.heap.size+1,#[.string (S nm)],9⟩,⟨w.heap.size,#[.slice q1 p.progs.length c1,.slice q2 p.enums.length c2],25⟩] W)=>show Calls Tryz.prog 55 #[.slice q1 p.progs.length c1,.func (.func 56) #[] #[.pointer (some ⟨w.heap.size+1,0,none⟩)]] W (fun e w'=>e=.returned (.int .i64 (idxL (fun g:PProg=>decide (g.name=nm)) p.progs))/\Bel W w')from
  ix_Prog VProg VProg.len 56 #[.pointer (some ⟨w.heap.size+1,0,none⟩)] (enters_of Tryz.func56 (by kernel_rfl) rfl) (.slice q1 p.progs.length c1) p.progs _ W (h1.bel VProg.stays T.bel) (fun x vs' W2 hx hv' hb=>cl_Find x vs' nm (w.heap.size+1) W2 (VProg.stays _ _ _ _ hb hv') (hb.some (T.cell 0 rfl 0))))
 rw [qiy]at C;have HS:=Lib.hid hS0;clear hv h1 h2 hS0;cases hp:qcx p nm with
 | none=>
  have V:=Lib.hid (show qam p nm=.tuple #[.int .i64 0,.bool false]by unfold qam;rw [hp]);rw [hp]at C;dsimp only at C;generalize qam p nm=R at V;clear hp
  go_enter Tryz.func30,Tryz.ntmps30
  go_wp2_with (go_at_call 55;(with_reducible refine(C.out _ HS.out).mono ?_);rintro e' w1 ⟨rfl,k1⟩;have k1:Bel _ w1:=k1;have H1:=Lib.hid (HS.out.belw k1);clear k1)
  go_ret2;exact⟨by rw [V.out];rfl,H1.out.bel⟩
 | some i=>
  have V:=Lib.hid (show qam p nm=.tuple #[.int .i64 (i:Int),.bool true]by unfold qam;rw [hp]);rw [hp]at C;dsimp only at C;generalize qam p nm=R at V;have hi0:(0:Int)<=(i:Int):=by omega
  have hmx:max (i:Int) 0=(i:Int):=by omega
  clear hp
  go_enter Tryz.func30,Tryz.ntmps30
  go_wp2_with (go_at_call 55;(with_reducible refine(C.out _ HS.out).mono ?_);rintro e' w1 ⟨rfl,k1⟩;have k1:Bel _ w1:=k1;have H1:=Lib.hid (HS.out.belw k1);clear k1)
  go_ret2;exact⟨by rw [V.out];rfl,H1.out.bel⟩
theorem qik:(Tryz.prog.info? 54).map (·.size)=some 8:=by kernel_rfl
def opV:Option POp->List Value
 | some o=>opC o
 | none=>(#[.int .i64 0,.string ⟨#[]⟩,.string ⟨#[]⟩,.int .i64 0,.int .i64 0,.int .i64 0,.int .i64 0,.int .i64 0]:Array Value).toList
def opB:Option POp->Bool
 | some _=>true
 | none=>false
theorem qhq (r:Option POp):(opV r).length=8:=by cases r <;> rfl
theorem qe1 (r:Option POp):(opV r).toArray.all (·.oneCell')=true:=by cases r <;> simp [opV,opC,Value.oneCell']
def OpOut (r:Option POp) (w:World) (e:Ending) (w':World):Prop:=e=.returned (.tuple #[.agg (opV r).toArray,.bool (opB r)])/\Bel w w'
theorem cl_Op1 (o:POp) (vs:List Value) (num:Int) (B:Nat) (W:World) (hv:VOp W vs o) (hB:W.cell? ⟨B,0,none⟩=some (.int .i64 num)) :
  Calls Tryz.prog 154 #[.agg vs.toArray,.pointer (some ⟨B,0,none⟩)] W fun e' w'=>e'=.returned (.bool (decide (o.num=num)))/\Bel W w':=by
 obtain rfl:vs=[.int .i64 o.num,.string (S o.name),.string (S o.ali),.int .i64 o.card,.int .i64 o.key,.int .i64 o.kind,.int .i64 o.tgt,.int .i64 o.un]:=hv;have hlt:B<W.heap.size:=World.block_lt_of_cell? W _ hB
 go_enter Tryz.func154,Tryz.ntmps154
 go_wp2;go_ret
 exact⟨qa3 (by rw [Bool.eq_iff_iff];simp),(Bel.refl _).alloc _⟩
theorem pl_in (g:PProg) (vs:List Value) (num:Int) (B:Nat) (w:World) (hv:VProg w vs g) (hB:w.cell? ⟨B,0,none⟩=some (.int .i64 num)) :
  Calls Tryz.prog 155 #[.agg #[.func (.func 154) #[] #[.pointer (some ⟨B,0,none⟩)]],.agg vs.toArray] w (OpOut (opOf g num) w):=by
 obtain⟨q,c,rfl,h1,l1⟩:=hv.form;have C0:=fun W (k:Bel w W)=>ix_Op VOp VOp.len 154 #[.pointer (some ⟨B,0,none⟩)] (enters_of Tryz.func154 (by kernel_rfl) rfl) (.slice q g.ops.length c) g.ops (fun o=>decide (o.num=num)) W (h1.bel VOp.stays k) (fun x vs' W2 hx hv' hb=>cl_Op1 x vs' num B W2 hv' ((Bel.of k hb).some hB))
 have hS0:=(((ST.start w).addbox #[.func (.func 154) #[] #[.pointer (some ⟨B,0,none⟩)]] 156).addbox #[.string (S g.name),.slice q g.ops.length c,.int .i64 g.uns] 52).addbox #[.int .i64 0,.string ⟨#[]⟩,.string ⟨#[]⟩,.int .i64 0,.int .i64 0,.int .i64 0,.int .i64 0,.int .i64 0] 54;simp only [World.size_alloc]at hS0;have HS:=Lib.hid hS0;obtain⟨q',c',he,_,hcap,hel⟩:=h1;cases he;unfold OpOut;have hro:opOf g num=g.ops.find? fun o=>decide (o.num=num):=rfl
 rcases qje (fun o:POp=>decide (o.num=num)) g.ops with⟨hneg,hnone⟩|⟨k,x,hk,hx,hsome,hkl⟩
 ·rw [hro,hnone]
  generalize idxL (fun o:POp=>decide (o.num=num)) g.ops=R at C0 hneg;have C:=Lib.hid C0;clear hv hel hS0 C0 hro hnone
  go_enter Tryz.func155,Tryz.ntmps155
  go_wp2_with (first
   | (go_at_call 189;(with_reducible refine(C.out _ HS.out.bel).mono ?_);rintro e' w1 ⟨rfl,k1⟩;have k1:Bel _ w1:=k1;have H1:=Lib.hid (HS.out.belw k1);have HB1:=Lib.hid (H1.out.box 0 rfl);clear k1)
   | (refine qa5 rfl 54 _ _ rfl (w.heap.size+1+1) #[.int .i64 0,.string ⟨#[]⟩,.string ⟨#[]⟩,.int .i64 0,.int .i64 0,.int .i64 0,.int .i64 0,.int .i64 0] #[.int .i64 0,.string ⟨#[]⟩,.string ⟨#[]⟩,.int .i64 0,.int .i64 0,.int .i64 0,.int .i64 0,.int .i64 0] 54 rfl rfl HB1.out qik rfl (qe1 none) ?_))
  have HZ:=Lib.hid (H1.out.setrowbox 0 rfl #[.int .i64 0,.string ⟨#[]⟩,.string ⟨#[]⟩,.int .i64 0,.int .i64 0,.int .i64 0,.int .i64 0,.int .i64 0]);refine bodyPost_ret (v:=.tuple #[.agg #[.int .i64 0,.string ⟨#[]⟩,.string ⟨#[]⟩,.int .i64 0,.int .i64 0,.int .i64 0,.int .i64 0,.int .i64 0],.bool false]) ?hres1 rfl ?hpost1
  case hres1=>exact qci rfl rfl rfl (HZ.out.box 0 rfl) Tryz.underlying54 rfl (by kernel_rfl)
  case hpost1=>exact⟨rfl,HZ.out.bel⟩
 ·rw [hro,hsome]
  rw [hk]at C0;have C:=Lib.hid C0;obtain⟨b,off,rfl,hbs,vx,hce,hvx⟩:=hel k x hx;have hki:(k:Int)<(g.ops.length:Int):=by omega
  have hk0 : ¬(k:Int)<0:=by omega
  have hk1:(0:Int)<=(k:Int):=by omega
  have hlen:=VOp.len _ _ _ hvx;have aE : ∀w,(isAgg 54).run Tryz.prog w=.ok true w:=qgx;obtain⟨K,hK⟩ : ∃K,K=8:=⟨_,rfl⟩;have zE : ∀w,(Go.sizeOf 54).run Tryz.prog w=.ok K w:=hK ▸ qdt
  have L2:=Lib.hid (fun W (kk:Bel w W)=>show Sem.run Tryz.prog (loadCellsFrom ⟨b,off+k*K,none⟩ 0 K #[]) W=.ok vx.toArray W from run_loadCellsFrom_list Tryz.prog _ _ vx K (hlen.trans hK.symm) (fun i v hi=>by
   rw [hK,Addr.add_lit]
   exact kk.some (hce i v hi)))
  have hvo:vx=opV (some x):=hvx;have Z0:vx.toArray.size=8:=by rw [List.size_toArray];exact hlen
  have Z1:=Lib.hid (show(Tryz.prog.info? 54).map (·.size)=some vx.toArray.size by rw [Z0];exact qik);have Z2:=Lib.hid (show(#[.int .i64 0,.string ⟨#[]⟩,.string ⟨#[]⟩,.int .i64 0,.int .i64 0,.int .i64 0,.int .i64 0,.int .i64 0]:Array Value).size=vx.toArray.size by rw [Z0];rfl);have HO:=Lib.hid (show vx.toArray.all (·.oneCell')=true by rw [hvo];exact qe1 _);have HVO:=Lib.hid hvo;clear hv hel hS0 C0 hro hsome hce hvx hx hk hlen hK Z0 hvo
  go_enter Tryz.func155,Tryz.ntmps155
  go_wp2_with (first
   | (go_at_call 189;(with_reducible refine(C.out _ HS.out.bel).mono ?_);rintro e' w1 ⟨rfl,k1⟩;have k1:Bel _ w1:=k1;have H1:=Lib.hid (HS.out.belw k1);have l2:=L2.out _ H1.out.bel;have HB1:=Lib.hid (H1.out.box 0 rfl);have t0:=H1.out.cell 1 rfl 1;dsimp only at t0;clear k1)
   | (refine qa5 rfl 54 _ _ rfl (w.heap.size+1+1) vx.toArray #[.int .i64 0,.string ⟨#[]⟩,.string ⟨#[]⟩,.int .i64 0,.int .i64 0,.int .i64 0,.int .i64 0,.int .i64 0] 54 rfl rfl HB1.out Z1.out Z2.out HO.out ?_))
  have HZ:=Lib.hid (H1.out.setrowbox 0 rfl vx.toArray);refine bodyPost_ret (v:=.tuple #[.agg vx.toArray,.bool true]) ?hres2 rfl ?hpost2
  case hres2=>exact qci rfl rfl rfl (HZ.out.box 0 rfl) Tryz.underlying54 rfl Z1.out
  case hpost2=>exact⟨by rw [HVO.out];rfl,HZ.out.bel⟩
theorem pl_Op (g:PProg) (vs:List Value) (num:Int) (w:World) (hv:VProg w vs g) :
  Calls Tryz.prog 91 #[.agg vs.toArray,.int .i64 num] w (OpOut (opOf g num) w):=by
 have hv0:=hv;obtain⟨q,c,rfl,h1,l1⟩:=hv.form;have hS0:=(((ST.start w).addbox #[.string (S g.name),.slice q g.ops.length c,.int .i64 g.uns] 52).addbox #[.int .i64 num] 3).addbox #[.int .i64 0,.string ⟨#[]⟩,.string ⟨#[]⟩,.int .i64 0,.int .i64 0,.int .i64 0,.int .i64 0,.int .i64 0] 54;simp only [World.size_alloc]at hS0;have C:=Lib.hid (fun W (T:ST w [] [⟨w.heap.size+1+1,#[.int .i64 0,.string ⟨#[]⟩,.string ⟨#[]⟩,.int .i64 0,.int .i64 0,.int .i64 0,.int .i64 0,.int .i64 0],54⟩,⟨w.heap.size+1,#[.int .i64 num],3⟩,⟨w.heap.size,#[.string (S g.name),.slice q g.ops.length c,.int .i64 g.uns],52⟩] W)=>pl_in g _ num (w.heap.size+1) W (VProg.stays _ _ _ _ T.bel hv0) (T.cell 1 rfl 0));unfold OpOut at C ⊢;generalize opOf g num=r at C ⊢;have Z0:(opV r).toArray.size=8:=by rw [List.size_toArray];exact qhq r
 have Z1:=Lib.hid (show(Tryz.prog.info? 54).map (·.size)=some (opV r).toArray.size by rw [Z0];exact qik);have Z2:=Lib.hid (show(#[.int .i64 0,.string ⟨#[]⟩,.string ⟨#[]⟩,.int .i64 0,.int .i64 0,.int .i64 0,.int .i64 0,.int .i64 0]:Array Value).size=(opV r).toArray.size by rw [Z0];rfl);have HO:=Lib.hid (qe1 r);have HS:=Lib.hid hS0;generalize opV r=vo at *;clear hv hv0 h1 hS0 Z0
 go_enter Tryz.func91,Tryz.ntmps91
 go_wp2_with (first
  | (go_at_call 155;(with_reducible refine(C.out _ HS.out).mono ?_);rintro e' w1 ⟨rfl,k1⟩;have k1:Bel _ w1:=k1;have H1:=Lib.hid (HS.out.belw k1);have HB1:=Lib.hid (H1.out.box 0 rfl);clear k1)
  | (refine qa5 rfl 54 _ _ rfl (w.heap.size+1+1) vo.toArray #[.int .i64 0,.string ⟨#[]⟩,.string ⟨#[]⟩,.int .i64 0,.int .i64 0,.int .i64 0,.int .i64 0,.int .i64 0] 54 rfl rfl HB1.out Z1.out Z2.out HO.out ?_))
 have HZ:=Lib.hid (H1.out.setrowbox 0 rfl vo.toArray);refine bodyPost_ret (v:=.tuple #[.agg vo.toArray,.bool (opB r)]) ?hres2 rfl ?hpost2
 case hres2=>exact qci rfl rfl rfl (HZ.out.box 0 rfl) Tryz.underlying54 rfl Z1.out
 case hpost2=>exact⟨rfl,HZ.out.bel⟩
end Go.Proofs.YtgpjhibdongmbaaGreatDoor
