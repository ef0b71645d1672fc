import Derived.Test.YtgpjhibdongmbaaGreatDoorStillL
import Derived.Test.YtgpjhibdongmbaaGreatDoorRsOrd
import Derived.Test.YtgpjhibdongmbaaGreatDoorRsFin
import Derived.Test.YtgpjhibdongmbaaGreatDoorRsWro
import Derived.Test.YtgpjhibdongmbaaGreatDoorRsEnd
import Derived.Test.YtgpjhibdongmbaaGreatDoorOrd
import Derived.Test.YtgpjhibdongmbaaGreatDoorUtfDec
import Derived.Test.YtgpjhibdongmbaaGreatDoorRsRep
set_option maxRecDepth 100000
set_option maxHeartbeats 4000000
set_option linter.unusedVariables false
set_option linter.unusedSimpArgs false
namespace Go.Proofs.YtgpjhibdongmbaaGreatDoor
open Go.RowKit Ck Rs
theorem qk7 (p:PPlan) (vs:List Value) (w:World) (hv:VPlan w vs p) (h:Valid p) (hs:SmallP p) (hM:ML w) :
  Calls Tryz.prog 57 #[.agg vs.toArray] w fun e' w'=>e'=.returned (.int .i64 0)/\Bel w w':=by
 have hv0:=hv;obtain⟨q1,q2,c1,c2,rfl,_,_,l1,l2⟩:=hv.form;have hS0:=(Bel.refl w).alloc (.cells #[.slice q1 p.progs.length c1,.slice q2 p.enums.length c2] 25);have hlm:=h.lim;unfold qe4 at hlm;simp only [Bool.and_eq_true,List.all_eq_true]at hlm;have hit : ∀e ∈ p.enums,1<=e.items.length:=fun e he=>(of_decide_eq_true (hlm.2.2 e he)).1
 have hun : ∀g ∈ p.progs, ∀o ∈ g.ops, -1<=o.un/\o.un<1000000:=fun g hg=>un_of (by
  have:=h.arg;unfold arguments at this;rw [Bool.and_eq_true,List.all_eq_true,List.all_eq_true]at this;have:=this.2 g hg;unfold argG at this;rw [Bool.and_eq_true]at this
  exact this.1) (of_decide_eq_true (hlm.2.1 g hg))
 have C0:=Lib.hid (fun W (k:Bel (w.alloc (.cells #[.slice q1 p.progs.length c1,.slice q2 p.enums.length c2] 25)) W)=>qk5 p _ W (VPlan.stays _ _ _ _ (Bel.of hS0 k) hv0) h.lim);have C1:=Lib.hid (fun W (k:Bel (w.alloc (.cells #[.slice q1 p.progs.length c1,.slice q2 p.enums.length c2] 25)) W)=>qit p _ W (VPlan.stays _ _ _ _ (Bel.of hS0 k) hv0) h.nam hs (hM.below (Bel.of hS0 k)));have C2:=Lib.hid (fun W (k:Bel (w.alloc (.cells #[.slice q1 p.progs.length c1,.slice q2 p.enums.length c2] 25)) W)=>qgd p _ W (VPlan.stays _ _ _ _ (Bel.of hS0 k) hv0) h.ord);have C3:=Lib.hid (fun W (k:Bel (w.alloc (.cells #[.slice q1 p.progs.length c1,.slice q2 p.enums.length c2] 25)) W)=>pl_twice p _ W (VPlan.stays _ _ _ _ (Bel.of hS0 k) hv0) h.sin);have C4:=Lib.hid (fun W (k:Bel (w.alloc (.cells #[.slice q1 p.progs.length c1,.slice q2 p.enums.length c2] 25)) W)=>qm3 p _ W (VPlan.stays _ _ _ _ (Bel.of hS0 k) hv0) h.ran hit);have C5:=Lib.hid (fun W (k:Bel (w.alloc (.cells #[.slice q1 p.progs.length c1,.slice q2 p.enums.length c2] 25)) W)=>pl_wrong p _ W (VPlan.stays _ _ _ _ (Bel.of hS0 k) hv0) h.arg hun);have C6:=Lib.hid (fun W (k:Bel (w.alloc (.cells #[.slice q1 p.progs.length c1,.slice q2 p.enums.length c2] 25)) W)=>qk6 p _ W (VPlan.stays _ _ _ _ (Bel.of hS0 k) hv0) (by have:=hs.np;omega) (qb7 h) (fins_all p h.fin));clear hv hv0 hlm hit hun h hs hM
 go_enter Tryz.func57,Tryz.ntmps57
 go_wp2_with (first
  | (go_at_call 83;(with_reducible refine(C0.out _ (Bel.refl _)).mono ?_);rintro e' w1 ⟨rfl,k1⟩;have k1:Bel _ w1:=k1;have t1_0:=qaa k1 0 _ rfl;have t1_1:=qaa k1 1 _ rfl)
  | (go_at_call 84;(with_reducible refine(C1.out _ k1).mono ?_);rintro e' w2 ⟨rfl,k2⟩;have k2:Bel _ w2:=Bel.of k1 k2;have t2_0:=qaa k2 0 _ rfl;have t2_1:=qaa k2 1 _ rfl)
  | (go_at_call 85;(with_reducible refine(C2.out _ k2).mono ?_);rintro e' w3 ⟨rfl,k3⟩;have k3:Bel _ w3:=Bel.of k2 k3;have t3_0:=qaa k3 0 _ rfl;have t3_1:=qaa k3 1 _ rfl)
  | (go_at_call 86;(with_reducible refine(C3.out _ k3).mono ?_);rintro e' w4 ⟨rfl,k4⟩;have k4:Bel _ w4:=Bel.of k3 k4;have t4_0:=qaa k4 0 _ rfl;have t4_1:=qaa k4 1 _ rfl)
  | (go_at_call 87;(with_reducible refine(C4.out _ k4).mono ?_);rintro e' w5 ⟨rfl,k5⟩;have k5:Bel _ w5:=Bel.of k4 k5;have t5_0:=qaa k5 0 _ rfl;have t5_1:=qaa k5 1 _ rfl)
  | (go_at_call 88;(with_reducible refine(C5.out _ k5).mono ?_);rintro e' w6 ⟨rfl,k6⟩;have k6:Bel _ w6:=Bel.of k5 k6;have t6_0:=qaa k6 0 _ rfl;have t6_1:=qaa k6 1 _ rfl)
  | (go_at_call 89;(with_reducible refine(C6.out _ k6).mono ?_);rintro e' w7 ⟨rfl,k7⟩;have k7:Bel _ w7:=Bel.of k6 k7;have t7_0:=qaa k7 0 _ rfl;have t7_1:=qaa k7 1 _ rfl))
 go_ret;exact⟨rfl,Bel.of hS0 k7⟩
theorem cl_Find (g:PProg) (vs:List Value) (nm:Str) (B:Nat) (W:World) (hv:VProg W vs g) (hB:W.cell? ⟨B,0,none⟩=some (.string (S nm))) :
  Calls Tryz.prog 56 #[.agg vs.toArray,.pointer (some ⟨B,0,none⟩)] W fun e' w'=>e'=.returned (.bool (decide (g.name=nm)))/\Bel W w':=by
 obtain⟨q,c,rfl,_⟩:=hv.form;have hlt:B<W.heap.size:=World.block_lt_of_cell? W _ hB;have V:=Lib.hid (eq_S g.name nm);clear hv
 go_enter Tryz.func56,Tryz.ntmps56
 go_wp2;go_ret
 exact⟨qa3 V.out,(Bel.refl _).alloc _⟩
theorem qm1 (p:PPlan) (nm:Str):idxL (fun g:PProg=>decide (g.name=nm)) p.progs=match qbg p nm with|some i=>(i:Int)|none => -1:=rfl
def qau (p:PPlan) (nm:Str):Value:=match qbg p nm with|some i=>.tuple #[.int .i64 (i:Int),.bool true]|none=>.tuple #[.int .i64 0,.bool false]
theorem pl_Find (p:PPlan) (vs:List Value) (nm:Str) (w:World) (hv:VPlan w vs p) :
  Calls Tryz.prog 30 #[.agg vs.toArray,.string (S nm)] w fun e' w'=>e'=.returned (qau p nm)/\Bel w w':=by
 obtain⟨q1,q2,c1,c2,rfl,h1,h2,l1,l2⟩:=hv.form;have hS0:=((ST.start w).addbox #[.slice q1 p.progs.length c1,.slice q2 p.enums.length c2] 25).addbox #[.string (S nm)] 9;simp only [World.size_alloc]at hS0
 have C:=Lib.hid (fun W (T:ST w [] [⟨w.heap.size+1,#[.string (S nm)],9⟩,⟨w.heap.size,#[.slice q1 p.progs.length c1,.slice q2 p.enums.length c2],25⟩] W)=>show Calls Tryz.prog 55 #[.slice q1 p.progs.length c1,.func (.func 56) #[] #[.pointer (some ⟨w.heap.size+1,0,none⟩)]] W (fun e w'=>e=.returned (.int .i64 (idxL (fun g:PProg=>decide (g.name=nm)) p.progs))/\Bel W w')from
  ix_Prog VProg VProg.len 56 #[.pointer (some ⟨w.heap.size+1,0,none⟩)] (enters_of Tryz.func56 (by kernel_rfl) rfl) (.slice q1 p.progs.length c1) p.progs _ W (h1.bel VProg.stays T.bel) (fun x vs' W2 hx hv' hb=>cl_Find x vs' nm (w.heap.size+1) W2 (VProg.stays _ _ _ _ hb hv') (hb.some (T.cell 0 rfl 0))))
 rw [qm1]at C;have HS:=Lib.hid hS0;clear hv h1 h2 hS0;cases hp:qbg p nm with
 | none=>
  have V:=Lib.hid (show qau p nm=.tuple #[.int .i64 0,.bool false]by unfold qau;rw [hp]);rw [hp]at C;dsimp only at C;generalize qau p nm=R at V;clear hp
  go_enter Tryz.func30,Tryz.ntmps30
  go_wp2_with (go_at_call 55;(with_reducible refine(C.out _ HS.out).mono ?_);rintro e' w1 ⟨rfl,k1⟩;have k1:Bel _ w1:=k1;have H1:=Lib.hid (HS.out.belw k1);clear k1)
  go_ret2;exact⟨by rw [V.out];rfl,H1.out.bel⟩
 | some i=>
  have V:=Lib.hid (show qau p nm=.tuple #[.int .i64 (i:Int),.bool true]by unfold qau;rw [hp]);rw [hp]at C;dsimp only at C;generalize qau p nm=R at V;have hi0:(0:Int)<=(i:Int):=by omega
  have hmx:max (i:Int) 0=(i:Int):=by omega
  clear hp
  go_enter Tryz.func30,Tryz.ntmps30
  go_wp2_with (go_at_call 55;(with_reducible refine(C.out _ HS.out).mono ?_);rintro e' w1 ⟨rfl,k1⟩;have k1:Bel _ w1:=k1;have H1:=Lib.hid (HS.out.belw k1);clear k1)
  go_ret2;exact⟨by rw [V.out];rfl,H1.out.bel⟩
theorem qg3:(Tryz.prog.info? 54).map (·.size)=some 8:=by kernel_rfl
def opV:Option POp->List Value
 | some o=>opC o
 | none=>(#[.int .i64 0,.string ⟨#[]⟩,.string ⟨#[]⟩,.int .i64 0,.int .i64 0,.int .i64 0,.int .i64 0,.int .i64 0]:Array Value).toList
def opB:Option POp->Bool
 | some _=>true
 | none=>false
theorem qhg (r:Option POp):(opV r).length=8:=by cases r <;> rfl
theorem qd2 (r:Option POp):(opV r).toArray.all (·.oneCell')=true:=by cases r <;> simp [opV,opC,Value.oneCell']
def OpOut (r:Option POp) (w:World) (e:Ending) (w':World):Prop:=e=.returned (.tuple #[.agg (opV r).toArray,.bool (opB r)])/\Bel w w'
theorem cl_Op1 (o:POp) (vs:List Value) (num:Int) (B:Nat) (W:World) (hv:VOp W vs o) (hB:W.cell? ⟨B,0,none⟩=some (.int .i64 num)) :
  Calls Tryz.prog 154 #[.agg vs.toArray,.pointer (some ⟨B,0,none⟩)] W fun e' w'=>e'=.returned (.bool (decide (o.num=num)))/\Bel W w':=by
 obtain rfl:vs=[.int .i64 o.num,.string (S o.name),.string (S o.ali),.int .i64 o.card,.int .i64 o.key,.int .i64 o.kind,.int .i64 o.tgt,.int .i64 o.un]:=hv;have hlt:B<W.heap.size:=World.block_lt_of_cell? W _ hB
 go_enter Tryz.func154,Tryz.ntmps154
 go_wp2;go_ret
 exact⟨qa3 (by rw [Bool.eq_iff_iff];simp),(Bel.refl _).alloc _⟩
theorem pl_in (g:PProg) (vs:List Value) (num:Int) (B:Nat) (w:World) (hv:VProg w vs g) (hB:w.cell? ⟨B,0,none⟩=some (.int .i64 num)) :
  Calls Tryz.prog 155 #[.agg #[.func (.func 154) #[] #[.pointer (some ⟨B,0,none⟩)]],.agg vs.toArray] w (OpOut (opOf g num) w):=by
 obtain⟨q,c,rfl,h1,l1⟩:=hv.form;have C0:=fun W (k:Bel w W)=>ix_Op VOp VOp.len 154 #[.pointer (some ⟨B,0,none⟩)] (enters_of Tryz.func154 (by kernel_rfl) rfl) (.slice q g.ops.length c) g.ops (fun o=>decide (o.num=num)) W (h1.bel VOp.stays k) (fun x vs' W2 hx hv' hb=>cl_Op1 x vs' num B W2 hv' ((Bel.of k hb).some hB))
 have hS0:=(((ST.start w).addbox #[.func (.func 154) #[] #[.pointer (some ⟨B,0,none⟩)]] 156).addbox #[.string (S g.name),.slice q g.ops.length c,.int .i64 g.uns] 52).addbox #[.int .i64 0,.string ⟨#[]⟩,.string ⟨#[]⟩,.int .i64 0,.int .i64 0,.int .i64 0,.int .i64 0,.int .i64 0] 54;simp only [World.size_alloc]at hS0;have HS:=Lib.hid hS0;obtain⟨q',c',he,_,hcap,hel⟩:=h1;cases he;unfold OpOut;have hro:opOf g num=g.ops.find? fun o=>decide (o.num=num):=rfl
 rcases qmg (fun o:POp=>decide (o.num=num)) g.ops with⟨hneg,hnone⟩|⟨k,x,hk,hx,hsome,hkl⟩
 ·rw [hro,hnone]
  generalize idxL (fun o:POp=>decide (o.num=num)) g.ops=R at C0 hneg;have C:=Lib.hid C0;clear hv hel hS0 C0 hro hnone
  go_enter Tryz.func155,Tryz.ntmps155
  go_wp2_with (first
   | (go_at_call 189;(with_reducible refine(C.out _ HS.out.bel).mono ?_);rintro e' w1 ⟨rfl,k1⟩;have k1:Bel _ w1:=k1;have H1:=Lib.hid (HS.out.belw k1);have HB1:=Lib.hid (H1.out.box 0 rfl);clear k1)
   | (refine qa6 rfl 54 _ _ rfl (w.heap.size+1+1) #[.int .i64 0,.string ⟨#[]⟩,.string ⟨#[]⟩,.int .i64 0,.int .i64 0,.int .i64 0,.int .i64 0,.int .i64 0] #[.int .i64 0,.string ⟨#[]⟩,.string ⟨#[]⟩,.int .i64 0,.int .i64 0,.int .i64 0,.int .i64 0,.int .i64 0] 54 rfl rfl HB1.out qg3 rfl (qd2 none) ?_))
  have HZ:=Lib.hid (H1.out.setrowbox 0 rfl #[.int .i64 0,.string ⟨#[]⟩,.string ⟨#[]⟩,.int .i64 0,.int .i64 0,.int .i64 0,.int .i64 0,.int .i64 0]);refine bodyPost_ret (v:=.tuple #[.agg #[.int .i64 0,.string ⟨#[]⟩,.string ⟨#[]⟩,.int .i64 0,.int .i64 0,.int .i64 0,.int .i64 0,.int .i64 0],.bool false]) ?hres1 rfl ?hpost1
  case hres1=>exact qdk rfl rfl rfl (HZ.out.box 0 rfl) Tryz.underlying54 rfl (by kernel_rfl)
  case hpost1=>exact⟨rfl,HZ.out.bel⟩
 ·rw [hro,hsome]
  rw [hk]at C0;have C:=Lib.hid C0;obtain⟨b,off,rfl,hbs,vx,hce,hvx⟩:=hel k x hx;have hki:(k:Int)<(g.ops.length:Int):=by omega
  have hk0 : ¬(k:Int)<0:=by omega
  have hk1:(0:Int)<=(k:Int):=by omega
  have hlen:=VOp.len _ _ _ hvx;have aE : ∀w,(isAgg 54).run Tryz.prog w=.ok true w:=qj4;obtain⟨K,hK⟩ : ∃K,K=8:=⟨_,rfl⟩;have zE : ∀w,(Go.sizeOf 54).run Tryz.prog w=.ok K w:=hK ▸ qff
  have L2:=Lib.hid (fun W (kk:Bel w W)=>show Sem.run Tryz.prog (loadCellsFrom ⟨b,off+k*K,none⟩ 0 K #[]) W=.ok vx.toArray W from run_loadCellsFrom_list Tryz.prog _ _ vx K (hlen.trans hK.symm) (fun i v hi=>by
   rw [hK,Addr.add_lit]
   exact kk.some (hce i v hi)))
  have hvo:vx=opV (some x):=hvx;have Z0:vx.toArray.size=8:=by rw [List.size_toArray];exact hlen
  have Z1:=Lib.hid (show(Tryz.prog.info? 54).map (·.size)=some vx.toArray.size by rw [Z0];exact qg3);have Z2:=Lib.hid (show(#[.int .i64 0,.string ⟨#[]⟩,.string ⟨#[]⟩,.int .i64 0,.int .i64 0,.int .i64 0,.int .i64 0,.int .i64 0]:Array Value).size=vx.toArray.size by rw [Z0];rfl);have HO:=Lib.hid (show vx.toArray.all (·.oneCell')=true by rw [hvo];exact qd2 _);have HVO:=Lib.hid hvo;clear hv hel hS0 C0 hro hsome hce hvx hx hk hlen hK Z0 hvo
  go_enter Tryz.func155,Tryz.ntmps155
  go_wp2_with (first
   | (go_at_call 189;(with_reducible refine(C.out _ HS.out.bel).mono ?_);rintro e' w1 ⟨rfl,k1⟩;have k1:Bel _ w1:=k1;have H1:=Lib.hid (HS.out.belw k1);have l2:=L2.out _ H1.out.bel;have HB1:=Lib.hid (H1.out.box 0 rfl);have t0:=H1.out.cell 1 rfl 1;dsimp only at t0;clear k1)
   | (refine qa6 rfl 54 _ _ rfl (w.heap.size+1+1) vx.toArray #[.int .i64 0,.string ⟨#[]⟩,.string ⟨#[]⟩,.int .i64 0,.int .i64 0,.int .i64 0,.int .i64 0,.int .i64 0] 54 rfl rfl HB1.out Z1.out Z2.out HO.out ?_))
  have HZ:=Lib.hid (H1.out.setrowbox 0 rfl vx.toArray);refine bodyPost_ret (v:=.tuple #[.agg vx.toArray,.bool true]) ?hres2 rfl ?hpost2
  case hres2=>exact qdk rfl rfl rfl (HZ.out.box 0 rfl) Tryz.underlying54 rfl Z1.out
  case hpost2=>exact⟨by rw [HVO.out];rfl,HZ.out.bel⟩
theorem pl_Op (g:PProg) (vs:List Value) (num:Int) (w:World) (hv:VProg w vs g) :
  Calls Tryz.prog 91 #[.agg vs.toArray,.int .i64 num] w (OpOut (opOf g num) w):=by
 have hv0:=hv;obtain⟨q,c,rfl,h1,l1⟩:=hv.form;have hS0:=(((ST.start w).addbox #[.string (S g.name),.slice q g.ops.length c,.int .i64 g.uns] 52).addbox #[.int .i64 num] 3).addbox #[.int .i64 0,.string ⟨#[]⟩,.string ⟨#[]⟩,.int .i64 0,.int .i64 0,.int .i64 0,.int .i64 0,.int .i64 0] 54;simp only [World.size_alloc]at hS0;have C:=Lib.hid (fun W (T:ST w [] [⟨w.heap.size+1+1,#[.int .i64 0,.string ⟨#[]⟩,.string ⟨#[]⟩,.int .i64 0,.int .i64 0,.int .i64 0,.int .i64 0,.int .i64 0],54⟩,⟨w.heap.size+1,#[.int .i64 num],3⟩,⟨w.heap.size,#[.string (S g.name),.slice q g.ops.length c,.int .i64 g.uns],52⟩] W)=>pl_in g _ num (w.heap.size+1) W (VProg.stays _ _ _ _ T.bel hv0) (T.cell 1 rfl 0));unfold OpOut at C ⊢;generalize opOf g num=r at C ⊢;have Z0:(opV r).toArray.size=8:=by rw [List.size_toArray];exact qhg r
 have Z1:=Lib.hid (show(Tryz.prog.info? 54).map (·.size)=some (opV r).toArray.size by rw [Z0];exact qg3);have Z2:=Lib.hid (show(#[.int .i64 0,.string ⟨#[]⟩,.string ⟨#[]⟩,.int .i64 0,.int .i64 0,.int .i64 0,.int .i64 0,.int .i64 0]:Array Value).size=(opV r).toArray.size by rw [Z0];rfl);have HO:=Lib.hid (qd2 r);have HS:=Lib.hid hS0;generalize opV r=vo at *;clear hv hv0 h1 hS0 Z0
 go_enter Tryz.func91,Tryz.ntmps91
 go_wp2_with (first
  | (go_at_call 155;(with_reducible refine(C.out _ HS.out).mono ?_);rintro e' w1 ⟨rfl,k1⟩;have k1:Bel _ w1:=k1;have H1:=Lib.hid (HS.out.belw k1);have HB1:=Lib.hid (H1.out.box 0 rfl);clear k1)
  | (refine qa6 rfl 54 _ _ rfl (w.heap.size+1+1) vo.toArray #[.int .i64 0,.string ⟨#[]⟩,.string ⟨#[]⟩,.int .i64 0,.int .i64 0,.int .i64 0,.int .i64 0,.int .i64 0] 54 rfl rfl HB1.out Z1.out Z2.out HO.out ?_))
 have HZ:=Lib.hid (H1.out.setrowbox 0 rfl vo.toArray);refine bodyPost_ret (v:=.tuple #[.agg vo.toArray,.bool (opB r)]) ?hres2 rfl ?hpost2
 case hres2=>exact qdk rfl rfl rfl (HZ.out.box 0 rfl) Tryz.underlying54 rfl Z1.out
 case hpost2=>exact⟨rfl,HZ.out.bel⟩
end Go.Proofs.YtgpjhibdongmbaaGreatDoor
namespace Go.Proofs.YtgpjhibdongmbaaGreatDoor.Pr
theorem qll {f a b k x:Int} {t:List UInt8} {n:Nat} (h:fitsB a k x t n=false):turnE f a b k x t n ≠ 0:=by
 unfold turnE;rw [if_pos (.inr (.inr (.inr h)))]
 decide
theorem qja {f a b k x:Int} {t:List UInt8} {n:Nat} (h:turnE f a b k x t n=0):fitsB a k x t n=true:=by
 cases hf:fitsB a k x t n
 ·exact absurd h (qll hf)
 ·rfl
theorem lev_three (f a b:Int):lev f a b=0 ∨ lev f a b=1 ∨ lev f a b=2:=by
 unfold lev
 (repeat' split) <;> simp
theorem lev_rel (f a b:Int):lev f a b=0 ↔ rel f a b=false:=by
 unfold lev;cases rel f a b <;> simp
 repeat' split
 all_goals decide
theorem qhj (f a b:Int):(0<lev f a b) ↔ rel f a b=true:=by
 have h1:=lev_rel f a b;have h2:=lev_three f a b;cases h:rel f a b <;> simp [h]at h1 ⊢ <;> omega
theorem rel_iff (f a b:Int):rel f a b=true ↔ (fam f a ≠ 0/\fam f a=fam f b):=decide_eq_true_iff
theorem qfr {k x:Int} {t:List UInt8} {n:Nat} (h:leanB k x t n=true):n=0/\(if txt k=true then x=0 else t=[]):=by
 simp only [leanB,Bool.and_eq_true,decide_eq_true_eq]at h;exact⟨h.1,ite_dec.1 h.2⟩
theorem fits_mk {b x:Int} {t:List UInt8} (h1:isK b=true) (h2:if txt b=true then x=0 else t=[]) (h3:withB b x=true) (h4:t.length<=4096) (h5:b ≠ 7 ∨ Utf.bad t<0):fitsB b b x t 0=true:=by
 simp only [fitsB,leanB,Bool.and_eq_true,Bool.or_eq_true,decide_eq_true_eq];exact⟨⟨⟨⟨⟨h1,trivial⟩,trivial,ite_dec.2 h2⟩,h3⟩,h4⟩,h5⟩
theorem turnE_zero {f a b k x:Int} {t:List UInt8} {n:Nat}:turnE f a b k x t n=0 ↔ (rel f a b=true/\fitsB a k x t n=true/\(num a=true->insB a b x=true)/\(b=7->Utf.bad t<0)):=by
 unfold turnE;constructor
 ·intro h
  split at h
  ·cases h
  ·rename_i h1
   split at h
   ·split at h <;> cases h
   ·rename_i h2
    split at h
    ·cases h
    ·rename_i h3
     split at h
     ·cases h
     ·rename_i h4
      refine⟨by simpa using h2,by simpa using fun e=>h1 (.inr (.inr (.inr e))),fun hn=>?_,fun hb=>?_⟩
      ·simpa using fun e=>h3 ⟨hn,e⟩
      ·exact Decidable.byContradiction fun hc=>h4 ⟨hb,hc⟩
 ·intro ⟨h1,h2,h3,h4⟩
  obtain⟨r1,r2,r3⟩:=rel_true h1;rw [if_neg (by simp [r1,r2,r3,h2]),if_neg (by simp [h1]),if_neg (by intro hc;rw [h3 hc.1]at hc;exact absurd hc.2 (by decide)),if_neg (by intro hc;exact hc.2 (h4 hc.1))]
theorem bad_nil:Utf.bad []<0:=by decide
theorem honest2 {f a b k x:Int} {t:List UInt8} {n:Nat} (h0:0<=x) (hx:x<18446744073709551616) (h:lev f a b=2) (hf:fitsB a k x t n=true):turnE f a b k x t n=0/\exam f a b=(0,0,[],false):=by
 have hr:rel f a b=true:=(qhj f a b).1 (by omega);obtain⟨h1,h2,h3⟩:=rel_true hr;refine⟨turnE_zero.2 ⟨hr,hf,?_⟩,by unfold exam;rw [if_pos (.inr (.inr (.inr h)))]⟩;obtain⟨_,rfl,hl,hw,ht,hv⟩:=qfv hf;obtain⟨_,hl2⟩:=qfr hl;clear hl hf
 rcases isF_true h1 with rfl|rfl|rfl <;> rcases qbi h2 with rfl|rfl|rfl|rfl|rfl|rfl|rfl|rfl|rfl <;> rcases qbi h3 with rfl|rfl|rfl|rfl|rfl|rfl|rfl|rfl|rfl <;>
  first
  | (exfalso;revert h;decide)
  | (simp [num,txt,isK,sgn,neg,insB,withB,below,most,boundT]at hl2 hw hv ⊢ <;> first|done|assumption|(subst hl2;exact bad_nil)|((repeat' split) <;> omega))
theorem cls_nan:cls 9221120237041090560=0:=by decide
theorem qfq (k b x:Int) (h:k=6 ↔ b=6):normB k (normB b x)=normB k x:=by
 unfold normB;by_cases h6:b=6
 ·have h6':k=6:=h.2 h6
  by_cases hc:cls x=0
  ·simp [h6,h6',hc,cls_nan]
  ·simp [h6,h6',hc]
 ·simp [h6]
theorem rel_six {f a b:Int} (h:rel f a b=true):a=6 ↔ b=6:=by
 obtain⟨h1,h2,h3⟩:=rel_true h
 rcases isF_true h1 with rfl|rfl|rfl <;> rcases qbi h2 with rfl|rfl|rfl|rfl|rfl|rfl|rfl|rfl|rfl <;> rcases qbi h3 with rfl|rfl|rfl|rfl|rfl|rfl|rfl|rfl|rfl <;>
  first
  | (exfalso;revert h;decide)
  | simp
theorem rel_symm {f a b:Int} (h:rel f a b=true):rel f b a=true:=by
 obtain⟨h1,h2⟩:=(rel_iff f a b).1 h;exact(rel_iff f b a).2 ⟨h2 ▸ h1,h2.symm⟩
theorem qkf {k b:Int} (x:Int) (h:k=6 ↔ b=6):normB b x=normB k x:=by
 unfold normB;by_cases h6:b=6
 ·have h6':k=6:=h.2 h6
  simp [h6,h6']
 ·have h6':k ≠ 6:=fun e=>h6 (h.1 e)
  simp [h6,h6']
theorem qix {k x:Int} (h0:0<=x) (hx:x<18446744073709551616):0<=normB k x/\normB k x<18446744073709551616:=by
 unfold normB
 split <;> omega
theorem normB_ne {b x:Int} (h:b ≠ 6):normB b x=x:=if_neg fun e=>h e.1
theorem back {f a b k x:Int} {t:List UInt8} {n:Nat} (h0:0<=x) (hx:x<18446744073709551616) (h:turnE f a b k x t n=0) :
  n=0/\k=a/\fitsB b b (normB b x) t 0=true/\normB b x=normB k x/\turnE f b a b (normB b x) t 0=0/\normB a (normB b x)=normB k x:=by
 obtain⟨hr,hf,hi,hu⟩:=turnE_zero.1 h;obtain⟨h1,h2,h3⟩:=rel_true hr;obtain⟨_,rfl,hl,hw,ht,hv⟩:=qfv hf;obtain⟨hn,hl2⟩:=qfr hl;have h6:=rel_six hr;have he:=qkf x h6;have hrs:=rel_symm hr;clear hl hf
 have main:fitsB b b (normB b x) t 0=true/\(num b=true->insB b k (normB b x)=true)/\(k=7->Utf.bad t<0):=by
  by_cases hb:b=6
  ·have hk:=h6.2 hb
   subst hb;subst hk;simp [txt]at hl2;subst hl2;exact⟨fits_mk h3 (by simp [txt]) (by simp [withB]) (by simp) (.inl (by decide)),fun h=>absurd h (by decide),fun h=>absurd h (by decide)⟩
  ·rw [normB_ne hb]
   have hk:k ≠ 6:=fun e=>hb (h6.1 e)
   refine(fun(p:(if txt b=true then x=0 else t=[])/\withB b x=true/\(b ≠ 7 ∨ Utf.bad t<0)/\(num b=true->insB b k x=true)/\(k=7->Utf.bad t<0))=>⟨fits_mk h3 p.1 p.2.1 ht p.2.2.1,p.2.2.2.1,p.2.2.2.2⟩) ?_;clear he
   rcases isF_true h1 with rfl|rfl|rfl <;> rcases qbi h2 with rfl|rfl|rfl|rfl|rfl|rfl|rfl|rfl|rfl <;> rcases qbi h3 with rfl|rfl|rfl|rfl|rfl|rfl|rfl|rfl|rfl <;>
    first
    | (exfalso;revert hr;decide)
    | (exfalso;exact hb rfl)
    | (simp [num,txt,isK,sgn,neg,insB,withB,below,most,boundT]at hl2 hw hv hi hu ⊢ <;> (try simp [*]) <;> (repeat' split at hi) <;> (repeat' split) <;> omega)
 exact⟨hn,rfl,main.1,he,turnE_zero.2 ⟨hrs,main.1,main.2.1,main.2.2⟩,by rw [qfq _ _ _ h6]⟩
theorem qmq {f a b c:Int} (h1:lev f a b=2) (h2:lev f b c=2):lev f a c=2:=by
 have hr1:rel f a b=true:=(qhj f a b).1 (by omega);have hr2:rel f b c=true:=(qhj f b c).1 (by omega);obtain⟨g1,g2,g3⟩:=rel_true hr1;obtain⟨_,_,g4⟩:=rel_true hr2
 rcases isF_true g1 with rfl|rfl|rfl <;> rcases qbi g2 with rfl|rfl|rfl|rfl|rfl|rfl|rfl|rfl|rfl <;> rcases qbi g3 with rfl|rfl|rfl|rfl|rfl|rfl|rfl|rfl|rfl <;>
  first
  | (exfalso;revert h1;decide)
  | (clear hr1 hr2 h1;rcases qbi g4 with rfl|rfl|rfl|rfl|rfl|rfl|rfl|rfl|rfl <;> first|rfl|(exfalso;revert h2;decide))
theorem chain {f a b c k x:Int} {t:List UInt8} {n:Nat} (h0:0<=x) (hx:x<18446744073709551616) (h1:lev f a b=2) (h2:lev f b c=2) (h:turnE f a b k x t n=0) :
  n=0/\turnE f b c b (normB b x) t 0=0/\turnE f a c k x t n=0/\normB c (normB b x)=normB c x:=by
 obtain⟨hn,_,hf,_,_,_⟩:=back h0 hx h;have hr2:rel f b c=true:=(qhj f b c).1 (by omega);have hy:=qix (k:=b) h0 hx;refine⟨hn,(honest2 hy.1 hy.2 h2 hf).1,(honest2 h0 hx (qmq h1 h2) (qja h)).1,qfq _ _ _ (by have:=rel_six hr2;omega)⟩
end Go.Proofs.YtgpjhibdongmbaaGreatDoor.Pr
namespace Go.Proofs.YtgpjhibdongmbaaGreatDoor
open Go.RowKit
section
variable {P : Program} {ops : Array Oper} {S : World → Prop} {Q : Exit → Act → World → Prop} {K : Act → World → Prop} {a : Act} {w : World} {o : Oper} {r m : OrdT Oper}
theorem qb1 (hgd:o.guard=none) (ty:TypeId) (x y:Operand) (ho:o.op=.store ty x y) (g:Nat) (cells old:Array Value) (t:TypeId) (hx:a.eval x=.pointer (some ⟨g,0,none⟩)) (hy:a.eval y=.agg cells) (hg:w.heap[g]? = some (.cells old t (0,0))) (hi:(P.info? ty).map (·.size)=some cells.size) (hold:old.size=cells.size) (h1:cells.all (·.oneCell')=true)
  (hS:S (w.setRow g cells)) (h:qap P ops S Q K r (a.put o.dst undef) (w.setRow g cells)) (hm:qap P ops S Q K m a w):qap P ops S Q K (.alt o r m) a w:=by
 refine⟨?_,hm⟩;have hw:Region.wanted o (yielded ops a.tmps)=true:=by simp [Region.wanted,hgd]
 rw [if_pos hw];exact wp_store_row ty x y ho g cells hx hy t old hg hi hold h1 ⟨hS,h⟩
end
end Go.Proofs.YtgpjhibdongmbaaGreatDoor
