import Derived.Test.YtgpjhibdongmbaaGreatDoorRsR22F
set_option maxRecDepth 100000
set_option maxHeartbeats 4000000
set_option linter.unusedVariables false
set_option linter.unusedSimpArgs false
namespace Go.Proofs.YtgpjhibdongmbaaGreatDoor
section
open Go.RowKit Ck Rs
theorem qio (p:PPlan) (vs:List Value) (w:World) (hv:VPlan w vs p) :
  Calls Tryz.prog 51 #[.agg vs.toArray] w (Wk (qek p=true) w):=by
 obtain⟨q1,q2,c1,c2,rfl,h1,h2,l1,l2⟩:=hv.form;have hS0:=(ST.start w).addbox #[.slice q1 p.progs.length c1,.slice q2 p.enums.length c2] 25;have HS:=Lib.hid hS0;obtain⟨_,_,he,_,_,hel⟩:=h1;cases he;have EG:=Lib.hid hel;obtain⟨_,_,he,_,_,hel2⟩:=h2;cases he;have EE:=Lib.hid hel2;clear hv hel hel2 hS0
 go_enter Tryz.func51,Tryz.ntmps51
 go_upto_region 3 with(fail)
 go_loopw [3,4] (fun b i wr => ∃(k:Nat) (B:Bool),k<=p.progs.length/\b=.bool B/\i=.int .i64 k/\Hid (ST w [] [⟨w.heap.size,#[.slice q1 p.progs.length c1,.slice q2 p.enums.length c2],25⟩] wr)/\Hid (Im B (AllTo (SinP p) k))) (fun _ i _=>p.progs.length-(intOf i).toNat)
 case atStart=>exact⟨0,true,by omega,rfl,rfl,HS,Lib.hid (qmf AllTo.zero)⟩
 case round=>as_aux_lemma=>
  clear HS;obtain⟨k,B,hk,rfl,rfl,hS,hI⟩:=hrel;have f0:=hS.out.cell 0 rfl 0;dsimp only at f0;by_cases hlt:k<p.progs.length
  ·have hki:(k:Int)<(p.progs.length:Int):=by omega
   have hk0:(0:Int)<=(k:Int):=by omega
   have hg:p.progs[k]? = some p.progs[k]:=List.getElem?_eq_getElem hlt;have HG:=Lib.hid hg;obtain⟨gb,off,rfl,hbs,vs,hce,hvs⟩:=EG.out k _ hg;obtain⟨oq,oc,rfl,hso,_⟩:=hvs.form;obtain⟨_,_,he,_,_,hei⟩:=hso;cases he;have EI:=Lib.hid hei;clear hei;clear hvs EG hg;generalize p.progs[k]=x at *;have E0:=Lib.hid (hce 0 _ rfl);have EC:=Lib.hid (hce 1 _ rfl);clear hce
   go_upto_region 6 with(fail)
   clear f0
   go_loopw [3,5] (fun b i wr => ∃(j:Nat) (B:Bool),j<=p.enums.length/\b=.bool B/\i=.int .i64 j/\Hid (ST w [] [⟨w.heap.size,#[.slice (some ⟨gb,off,none⟩) p.progs.length c1,.slice q2 p.enums.length c2],25⟩] wr)/\Hid (Im B (AllTo (SinP p) k/\AllTo (At p.enums fun e=>x.name ≠ e.name) j))) (fun _ i _=>p.enums.length-(intOf i).toNat)
   case atStart=>exact⟨0,B,by omega,rfl,rfl,hS,Lib.hid (im_to hI.out fun z=>⟨z,AllTo.zero⟩)⟩
   case round=>as_aux_lemma=>
    clear hS hI;obtain⟨j,B,hj,rfl,rfl,hS,hI⟩:=hrel;have f0:=hS.out.cell 0 rfl 0;have f1:=hS.out.cell 0 rfl 1;dsimp only at f0 f1;by_cases hlt2:j<p.enums.length
    ·have hji:(j:Int)<(p.enums.length:Int):=by omega
     have hj0:(0:Int)<=(j:Int):=by omega
     cases B with
     | false=>
      clear EI hI EE
      go_upto_region 8 with(fail)
      obtain⟨wd,hwd⟩ : ∃wd,wd=wr.drew:=⟨_,rfl⟩;have kwd:Bel wr wd:=by rw [hwd];exact(Bel.refl wr).drew
      have HSD:=Lib.hid (hS.out.belw kwd);have HWD:=Lib.hid hwd;clear hwd;have f0d:=HSD.out.cell 0 rfl 0;dsimp only at f0d;have f1d:=HSD.out.cell 0 rfl 1;dsimp only at f1d
      refine qa8 14 (by kernel_rfl) (by kernel_rfl) HWD.out ?_
      (simp only [List.take_succ_cons,List.take_zero,List.drop_succ_cons,List.drop_zero]);(repeat (first|((with_reducible refine wpStill_step (fun K hK=>?_));go_simp;(with_reducible refine hK _ ?_);clear hK K)|((with_reducible refine qab ?_ ?_);(with_unfolding_all rfl);(simp only [Act.put,List.setIfInBounds_toArray,List.set_cons_zero,List.set_cons_succ]))));(with_reducible refine wpStill_nil ?_)
      go_wp2;go_roundw
      case rel=>exact⟨j+1,false,by omega,rfl,by go_num,HSD,Lib.hid im_no⟩
      case measure=>simp [intOf];omega
     | true=>
      have hg3:p.enums[j]? = some p.enums[j]:=List.getElem?_eq_getElem hlt2;obtain⟨gb3,off3,rfl,hbs3,vs3,hce3,hvs3⟩:=EE.out j _ hg3;obtain⟨r1,r2,r3,d1,d2,d3,rfl,_⟩:=hvs3.form
      have HI:=Lib.hid (show ∀D:Bool,(decide (x.name=p.enums[j].name)=D)->Im (!D) (AllTo (SinP p) k/\AllTo (At p.enums fun e=>x.name ≠ e.name) (j+1))from fun D hD=>qcw hI.out fun hDt=>At.mk hg3 (by
       rw [←hD]at hDt
       simpa using hDt))
      clear EI EE hI hg3;generalize p.enums[j]=y at *;have e0:=hS.out.bel.some E0.out;rw [Nat.add_zero]at e0;have y0:=hS.out.bel.some (hce3 0 _ rfl);rw [Nat.add_zero]at y0;clear hce3;obtain⟨D,hD⟩ : ∃D,D=decide (x.name=y.name):=⟨_,rfl⟩;have HII:=Lib.hid (HI.out D hD.symm);have heq:((S x.name).toList == (S y.name).toList)=D:=by rw [eq_S];exact hD.symm
      clear HI hD
      go_upto_region 8 with(fail)
      obtain⟨wd,hwd⟩ : ∃wd,wd=wr.drew:=⟨_,rfl⟩;have kwd:Bel wr wd:=by rw [hwd];exact(Bel.refl wr).drew
      have HSD:=Lib.hid (hS.out.belw kwd);have HWD:=Lib.hid hwd;clear hwd;have f0d:=HSD.out.cell 0 rfl 0;dsimp only at f0d;have f1d:=HSD.out.cell 0 rfl 1;dsimp only at f1d;have y0d:=kwd.some y0;have e0d:=kwd.some e0;clear y0 e0 f0 f1;refine qa8 14 (by kernel_rfl) (by kernel_rfl) HWD.out ?_
      (simp only [List.take_succ_cons,List.take_zero,List.drop_succ_cons,List.drop_zero]);(repeat (first|((with_reducible refine wpStill_step (fun K hK=>?_));go_simp;(with_reducible refine hK _ ?_);clear hK K)|((with_reducible refine qab ?_ ?_);(with_unfolding_all rfl);(simp only [Act.put,List.setIfInBounds_toArray,List.set_cons_zero,List.set_cons_succ]))));(with_reducible refine wpStill_nil ?_)
      go_wp2;go_roundw
      case rel=>exact⟨j+1, !D,by omega,rfl,by go_num,HSD,HII⟩
      case measure=>simp [intOf];omega
    ·have hji : ¬(j:Int)<(p.enums.length:Int):=by omega
     have HII:=Lib.hid (show Im B (AllTo (SinP p) k/\AllTo (At p.enums fun e=>x.name ≠ e.name) p.enums.length)from im_to hI.out fun z=>⟨z.1,fun i hi=>z.2 i (by omega)⟩);have e1:=hS.out.bel.some EC.out;clear hI
     go_upto_region 11 with(fail)
     have hI:=HII;clear HII f0 f1 e1 EE
     go_loopw [3,7] (fun b i wr => ∃(m:Nat) (B:Bool),m<=x.ops.length/\b=.bool B/\i=.int .i64 m/\Hid (ST w [] [⟨w.heap.size,#[.slice (some ⟨gb,off,none⟩) p.progs.length c1,.slice q2 p.enums.length c2],25⟩] wr)/\Hid (Im B (((AllTo (SinP p) k/\AllTo (At p.enums fun e=>x.name ≠ e.name) p.enums.length))/\AllTo (Apt POp.name x.ops) m))) (fun _ i _=>x.ops.length-(intOf i).toNat)
     case atStart=>exact⟨0,B,by omega,rfl,rfl,hS,Lib.hid (im_to hI.out fun z=>⟨z,AllTo.zero⟩)⟩
     case round=>as_aux_lemma=>
      clear hS hI;obtain⟨m,B,hm,rfl,rfl,hS,hI⟩:=hrel;by_cases hlt2:m<x.ops.length
      ·have hmi:(m:Int)<(x.ops.length:Int):=by omega
       have hm0:(0:Int)<=(m:Int):=by omega
       go_upto_region 14 with(fail)
       go_loopw [3,8] (fun b i wr => ∃(n:Nat) (B:Bool),n<=m/\b=.bool B/\i=.int .i64 n/\Hid (ST w [] [⟨w.heap.size,#[.slice (some ⟨gb,off,none⟩) p.progs.length c1,.slice q2 p.enums.length c2],25⟩] wr)/\Hid (Im B ((((AllTo (SinP p) k/\AllTo (At p.enums fun e=>x.name ≠ e.name) p.enums.length))/\AllTo (Apt POp.name x.ops) m)/\AllTo (fun n => ∀a b,x.ops[n]? = some a->x.ops[m]? = some b->POp.name a ≠ POp.name b) n))) (fun _ i _=>m-(intOf i).toNat)
       case atStart=>exact⟨0,B,by omega,rfl,rfl,hS,Lib.hid (im_to hI.out fun z=>⟨z,AllTo.zero⟩)⟩
       case round=>as_aux_lemma=>
        clear hS hI;obtain⟨n,B,hn,rfl,rfl,hS,hI⟩:=hrel;by_cases hlt3:n<m
        ·have hni:(n:Int)<(m:Int):=by omega
         have hn0:(0:Int)<=(n:Int):=by omega
         cases B with
         | false=>
          clear EI hI
          go_upto_region 16 with(fail)
          obtain⟨wd,hwd⟩ : ∃wd,wd=wr.drew:=⟨_,rfl⟩;have kwd:Bel wr wd:=by rw [hwd];exact(Bel.refl wr).drew
          have HSD:=Lib.hid (hS.out.belw kwd);have HWD:=Lib.hid hwd;clear hwd
          refine qa8 12 (by kernel_rfl) (by kernel_rfl) HWD.out ?_
          (simp only [List.take_succ_cons,List.take_zero,List.drop_succ_cons,List.drop_zero]);(repeat (first|((with_reducible refine wpStill_step (fun K hK=>?_));go_simp;(with_reducible refine hK _ ?_);clear hK K)|((with_reducible refine qab ?_ ?_);(with_unfolding_all rfl);(simp only [Act.put,List.setIfInBounds_toArray,List.set_cons_zero,List.set_cons_succ]))));(with_reducible refine wpStill_nil ?_)
          go_wp2;go_roundw
          case rel=>exact⟨n+1,false,by omega,rfl,by go_num,HSD,Lib.hid im_no⟩
          case measure=>simp [intOf];omega
         | true=>
          have hnl:n<x.ops.length:=by omega
          have hg3:x.ops[m]? = some x.ops[m]:=List.getElem?_eq_getElem hlt2;have hg4:x.ops[n]? = some x.ops[n]:=List.getElem?_eq_getElem hnl;obtain⟨gb3,off3,hq3,hbs3,vs3,hce3,hvs3⟩:=EI.out m _ hg3;obtain⟨gb4,off4,hq4,hbs4,vs4,hce4,hvs4⟩:=EI.out n _ hg4;subst hq3;cases hq4
          have HI:=Lib.hid (show ∀D:Bool,(decide (POp.name x.ops[n]=POp.name x.ops[m])=D)->Im (!D) ((((AllTo (SinP p) k/\AllTo (At p.enums fun e=>x.name ≠ e.name) p.enums.length))/\AllTo (Apt POp.name x.ops) m)/\AllTo (fun n => ∀a b,x.ops[n]? = some a->x.ops[m]? = some b->POp.name a ≠ POp.name b) (n+1))from fun D hD=>qcw hI.out fun hDt a b ha hb=>by
           rw [hg4]at ha;rw [hg3]at hb;cases ha;cases hb;rw [←hD]at hDt
           simpa using hDt)
          clear EI hI hg3 hg4;generalize x.ops[m]=y at *;generalize x.ops[n]=z at *;obtain rfl:vs3=opC y:=hvs3;obtain rfl:vs4=opC z:=hvs4;have y0:=hS.out.bel.some (hce3 1 _ rfl);have z0:=hS.out.bel.some (hce4 1 _ rfl)
          (try rw [Nat.add_zero]at y0 z0)
          clear hce3 hce4;obtain⟨D,hD⟩ : ∃D,D=decide (POp.name z=POp.name y):=⟨_,rfl⟩;have HII:=Lib.hid (HI.out D hD.symm);have heq:((S z.name).toList == (S y.name).toList)=D:=by rw [eq_S];exact hD.symm
          clear HI hD;have n1:(n:Int)<(x.ops.length:Int):=by omega
          go_upto_region 16 with(fail)
          obtain⟨wd,hwd⟩ : ∃wd,wd=wr.drew:=⟨_,rfl⟩;have kwd:Bel wr wd:=by rw [hwd];exact(Bel.refl wr).drew
          have HSD:=Lib.hid (hS.out.belw kwd);have HWD:=Lib.hid hwd;clear hwd;have y0d:=kwd.some y0;have z0d:=kwd.some z0;clear y0 z0;refine qa8 12 (by kernel_rfl) (by kernel_rfl) HWD.out ?_
          (simp only [List.take_succ_cons,List.take_zero,List.drop_succ_cons,List.drop_zero]);(repeat (first|((with_reducible refine wpStill_step (fun K hK=>?_));go_simp;(with_reducible refine hK _ ?_);clear hK K)|((with_reducible refine qab ?_ ?_);(with_unfolding_all rfl);(simp only [Act.put,List.setIfInBounds_toArray,List.set_cons_zero,List.set_cons_succ]))));(with_reducible refine wpStill_nil ?_)
          go_wp2;go_roundw
          case rel=>exact⟨n+1, !D,by omega,rfl,by go_num,HSD,HII⟩
          case measure=>simp [intOf];omega
        ·have hni : ¬(n:Int)<(m:Int):=by omega
         have HII:=Lib.hid (show Im B (((AllTo (SinP p) k/\AllTo (At p.enums fun e=>x.name ≠ e.name) p.enums.length))/\AllTo (Apt POp.name x.ops) (m+1))from im_to hI.out fun z=>⟨z.1.1,z.1.2.succ fun i hi=>z.2 i (by omega)⟩);clear hI EI;go_wp2;go_roundw
         case rel=>exact⟨m+1,B,by omega,rfl,by go_num,hS,HII⟩
         case measure=>simp [intOf];omega
      ·have hmi : ¬(m:Int)<(x.ops.length:Int):=by omega
       have HII:=Lib.hid (show Im B (AllTo (SinP p) (k+1))from im_to hI.out fun z=>z.1.1.succ (At.mk HG.out ⟨z.1.2,fun i hi=>z.2 i (by omega)⟩));clear hI EI;go_wp2;go_roundw
       case rel=>exact⟨k+1,B,by omega,rfl,by go_num,hS,HII⟩
       case measure=>simp [intOf];omega
  ·have hki : ¬(k:Int)<(p.progs.length:Int):=by omega
   have HI:=Lib.hid (show Im B (AllTo (SinP p) p.progs.length/\AllTo (SinE p) 0)from im_to hI.out fun z=>⟨fun i hi=>z i (by omega),AllTo.zero⟩);clear hI EG
   go_upto_region 18 with(fail)
   clear f0 hlt hki hk
   go_loopw [3,9] (fun b i wr => ∃(k:Nat) (B:Bool),k<=p.enums.length/\b=.bool B/\i=.int .i64 k/\Hid (ST w [] [⟨w.heap.size,#[.slice q1 p.progs.length c1,.slice q2 p.enums.length c2],25⟩] wr)/\Hid (Im B (AllTo (SinP p) p.progs.length/\AllTo (SinE p) k))) (fun _ i _=>p.enums.length-(intOf i).toNat)
   case atStart=>exact⟨0,B,by omega,rfl,rfl,hS,HI⟩
   case round=>as_aux_lemma=>
    clear hS HI;obtain⟨k,B,hk,rfl,rfl,hS,hI⟩:=hrel;have f1:=hS.out.cell 0 rfl 1;dsimp only at f1;by_cases hlt:k<p.enums.length
    ·have hki:(k:Int)<(p.enums.length:Int):=by omega
     have hk0:(0:Int)<=(k:Int):=by omega
     have hg:p.enums[k]? = some p.enums[k]:=List.getElem?_eq_getElem hlt;have HG:=Lib.hid hg;obtain⟨gb,off,rfl,hbs,vs,hce,hvs⟩:=EE.out k _ hg;obtain⟨r1,r2,r3,d1,d2,d3,rfl,hsi,_⟩:=hvs.form;obtain⟨_,_,he,_,_,hei⟩:=hsi;cases he;have EI:=Lib.hid hei;clear hei;clear hvs EE hg;generalize p.enums[k]=x at *;have e1:=hS.out.bel.some (hce 2 _ rfl);clear hce
     go_upto_region 22 with(fail)
     clear f1 e1
     go_loopw [3,11] (fun b i wr => ∃(m:Nat) (B:Bool),m<=x.items.length/\b=.bool B/\i=.int .i64 m/\Hid (ST w [] [⟨w.heap.size,#[.slice q1 p.progs.length c1,.slice (some ⟨gb,off,none⟩) p.enums.length c2],25⟩] wr)/\Hid (Im B (((AllTo (SinP p) p.progs.length/\AllTo (SinE p) k))/\AllTo (Apt PItem.name x.items) m))) (fun _ i _=>x.items.length-(intOf i).toNat)
     case atStart=>exact⟨0,B,by omega,rfl,rfl,hS,Lib.hid (im_to hI.out fun z=>⟨z,AllTo.zero⟩)⟩
     case round=>as_aux_lemma=>
      clear hS hI;obtain⟨m,B,hm,rfl,rfl,hS,hI⟩:=hrel;by_cases hlt2:m<x.items.length
      ·have hmi:(m:Int)<(x.items.length:Int):=by omega
       have hm0:(0:Int)<=(m:Int):=by omega
       go_upto_region 25 with(fail)
       go_loopw [3,12] (fun b i wr => ∃(n:Nat) (B:Bool),n<=m/\b=.bool B/\i=.int .i64 n/\Hid (ST w [] [⟨w.heap.size,#[.slice q1 p.progs.length c1,.slice (some ⟨gb,off,none⟩) p.enums.length c2],25⟩] wr)/\Hid (Im B ((((AllTo (SinP p) p.progs.length/\AllTo (SinE p) k))/\AllTo (Apt PItem.name x.items) m)/\AllTo (fun n => ∀a b,x.items[n]? = some a->x.items[m]? = some b->PItem.name a ≠ PItem.name b) n))) (fun _ i _=>m-(intOf i).toNat)
       case atStart=>exact⟨0,B,by omega,rfl,rfl,hS,Lib.hid (im_to hI.out fun z=>⟨z,AllTo.zero⟩)⟩
       case round=>as_aux_lemma=>
        clear hS hI;obtain⟨n,B,hn,rfl,rfl,hS,hI⟩:=hrel;by_cases hlt3:n<m
        ·have hni:(n:Int)<(m:Int):=by omega
         have hn0:(0:Int)<=(n:Int):=by omega
         cases B with
         | false=>
          clear EI hI
          go_upto_region 27 with(fail)
          obtain⟨wd,hwd⟩ : ∃wd,wd=wr.drew:=⟨_,rfl⟩;have kwd:Bel wr wd:=by rw [hwd];exact(Bel.refl wr).drew
          have HSD:=Lib.hid (hS.out.belw kwd);have HWD:=Lib.hid hwd;clear hwd
          refine qa8 12 (by kernel_rfl) (by kernel_rfl) HWD.out ?_
          (simp only [List.take_succ_cons,List.take_zero,List.drop_succ_cons,List.drop_zero]);(repeat (first|((with_reducible refine wpStill_step (fun K hK=>?_));go_simp;(with_reducible refine hK _ ?_);clear hK K)|((with_reducible refine qab ?_ ?_);(with_unfolding_all rfl);(simp only [Act.put,List.setIfInBounds_toArray,List.set_cons_zero,List.set_cons_succ]))));(with_reducible refine wpStill_nil ?_)
          go_wp2;go_roundw
          case rel=>exact⟨n+1,false,by omega,rfl,by go_num,HSD,Lib.hid im_no⟩
          case measure=>simp [intOf];omega
         | true=>
          have hnl:n<x.items.length:=by omega
          have hg3:x.items[m]? = some x.items[m]:=List.getElem?_eq_getElem hlt2;have hg4:x.items[n]? = some x.items[n]:=List.getElem?_eq_getElem hnl;obtain⟨gb3,off3,hq3,hbs3,vs3,hce3,hvs3⟩:=EI.out m _ hg3;obtain⟨gb4,off4,hq4,hbs4,vs4,hce4,hvs4⟩:=EI.out n _ hg4;subst hq3;cases hq4
          have HI:=Lib.hid (show ∀D:Bool,(decide (PItem.name x.items[n]=PItem.name x.items[m])=D)->Im (!D) ((((AllTo (SinP p) p.progs.length/\AllTo (SinE p) k))/\AllTo (Apt PItem.name x.items) m)/\AllTo (fun n => ∀a b,x.items[n]? = some a->x.items[m]? = some b->PItem.name a ≠ PItem.name b) (n+1))from fun D hD=>qcw hI.out fun hDt a b ha hb=>by
           rw [hg4]at ha;rw [hg3]at hb;cases ha;cases hb;rw [←hD]at hDt
           simpa using hDt)
          clear EI hI hg3 hg4;generalize x.items[m]=y at *;generalize x.items[n]=z at *;obtain⟨nv,rfl,_⟩:=hvs3;obtain⟨nv2,rfl,_⟩:=hvs4;have y0:=hS.out.bel.some (hce3 0 _ rfl);have z0:=hS.out.bel.some (hce4 0 _ rfl)
          (try rw [Nat.add_zero]at y0 z0)
          clear hce3 hce4;obtain⟨D,hD⟩ : ∃D,D=decide (PItem.name z=PItem.name y):=⟨_,rfl⟩;have HII:=Lib.hid (HI.out D hD.symm);have heq:((S z.name).toList == (S y.name).toList)=D:=by rw [eq_S];exact hD.symm
          clear HI hD;have n1:(n:Int)<(x.items.length:Int):=by omega
          go_upto_region 27 with(fail)
          obtain⟨wd,hwd⟩ : ∃wd,wd=wr.drew:=⟨_,rfl⟩;have kwd:Bel wr wd:=by rw [hwd];exact(Bel.refl wr).drew
          have HSD:=Lib.hid (hS.out.belw kwd);have HWD:=Lib.hid hwd;clear hwd;have y0d:=kwd.some y0;have z0d:=kwd.some z0;clear y0 z0;refine qa8 12 (by kernel_rfl) (by kernel_rfl) HWD.out ?_
          (simp only [List.take_succ_cons,List.take_zero,List.drop_succ_cons,List.drop_zero]);(repeat (first|((with_reducible refine wpStill_step (fun K hK=>?_));go_simp;(with_reducible refine hK _ ?_);clear hK K)|((with_reducible refine qab ?_ ?_);(with_unfolding_all rfl);(simp only [Act.put,List.setIfInBounds_toArray,List.set_cons_zero,List.set_cons_succ]))));(with_reducible refine wpStill_nil ?_)
          go_wp2;go_roundw
          case rel=>exact⟨n+1, !D,by omega,rfl,by go_num,HSD,HII⟩
          case measure=>simp [intOf];omega
        ·have hni : ¬(n:Int)<(m:Int):=by omega
         have HII:=Lib.hid (show Im B (((AllTo (SinP p) p.progs.length/\AllTo (SinE p) k))/\AllTo (Apt PItem.name x.items) (m+1))from im_to hI.out fun z=>⟨z.1.1,z.1.2.succ fun i hi=>z.2 i (by omega)⟩);clear hI EI;go_wp2;go_roundw
         case rel=>exact⟨m+1,B,by omega,rfl,by go_num,hS,HII⟩
         case measure=>simp [intOf];omega
      ·have hmi : ¬(m:Int)<(x.items.length:Int):=by omega
       have HII:=Lib.hid (show Im B (AllTo (SinP p) p.progs.length/\AllTo (SinE p) (k+1))from im_to hI.out fun z=>⟨z.1.1,z.1.2.succ (At.mk HG.out fun i hi=>z.2 i (by omega))⟩);clear hI EI;go_wp2;go_roundw
       case rel=>exact⟨k+1,B,by omega,rfl,by go_num,hS,HII⟩
       case measure=>simp [intOf];omega
    ·have hki : ¬(k:Int)<(p.enums.length:Int):=by omega
     have HII:=Lib.hid (show Im B (qek p=true)from im_to hI.out fun z=>qlp z.1 (fun i hi=>z.2 i (by omega)));clear hI EE;go_wp2;go_ret;exact qlh HII.out id hS.out.bel
end
section
open Go.RowKit Ck Rs
theorem qlt (p:PPlan) (vs:List Value) (w:World) (hv:VPlan w vs p) :
  Calls Tryz.prog 52 #[.agg vs.toArray] w (Wk (qen p=true) w):=by
 obtain⟨q1,q2,c1,c2,rfl,h1,h2,l1,l2⟩:=hv.form;have hS0:=(ST.start w).addbox #[.slice q1 p.progs.length c1,.slice q2 p.enums.length c2] 25;have HS:=Lib.hid hS0;obtain⟨_,_,he,_,_,hel⟩:=h1;cases he;have EG:=Lib.hid hel;obtain⟨_,_,he,_,_,hel2⟩:=h2;cases he;have EE:=Lib.hid hel2;clear hv hel hel2 hS0
 go_enter Tryz.func52,Tryz.ntmps52
 go_upto_region 3 with(fail)
 go_loopw [3,4] (fun b i wr => ∃(k:Nat) (B:Bool),k<=p.progs.length/\b=.bool B/\i=.int .i64 k/\Hid (ST w [] [⟨w.heap.size,#[.slice q1 p.progs.length c1,.slice q2 p.enums.length c2],25⟩] wr)/\Hid (Im B (AllTo (RanP p) k))) (fun _ i _=>p.progs.length-(intOf i).toNat)
 case atStart=>exact⟨0,true,by omega,rfl,rfl,HS,Lib.hid (qmf AllTo.zero)⟩
 case round=>as_aux_lemma=>
  clear HS;obtain⟨k,B,hk,rfl,rfl,hS,hI⟩:=hrel;have f0:=hS.out.cell 0 rfl 0;dsimp only at f0;by_cases hlt:k<p.progs.length
  ·have hki:(k:Int)<(p.progs.length:Int):=by omega
   have hk0:(0:Int)<=(k:Int):=by omega
   have hg:p.progs[k]? = some p.progs[k]:=List.getElem?_eq_getElem hlt;have HG:=Lib.hid hg;obtain⟨gb,off,rfl,hbs,vs,hce,hvs⟩:=EG.out k _ hg;obtain⟨oq,oc,rfl,hso,_⟩:=hvs.form;obtain⟨_,_,he,_,_,hei⟩:=hso;cases he;have EI:=Lib.hid hei;clear hei;clear hvs EG hg;generalize p.progs[k]=x at *;have EC:=Lib.hid (hce 1 _ rfl);clear hce
   go_upto_region 6 with(fail)
   clear f0
   go_loopw [3,5] (fun b i wr => ∃(j:Nat) (B:Bool),j<=x.ops.length/\b=.bool B/\i=.int .i64 j/\Hid (ST w [] [⟨w.heap.size,#[.slice (some ⟨gb,off,none⟩) p.progs.length c1,.slice q2 p.enums.length c2],25⟩] wr)/\Hid (Im B (AllTo (RanP p) k/\AllTo (At x.ops fun o=>1<=o.num/\o.num<=65535) j))) (fun _ i _=>x.ops.length-(intOf i).toNat)
   case atStart=>exact⟨0,B,by omega,rfl,rfl,hS,Lib.hid (im_to hI.out fun z=>⟨z,AllTo.zero⟩)⟩
   case round=>as_aux_lemma=>
    clear hS hI;obtain⟨j,B,hj,rfl,rfl,hS,hI⟩:=hrel;have f0:=hS.out.cell 0 rfl 0;dsimp only at f0;have e1:=hS.out.bel.some EC.out;by_cases hlt2:j<x.ops.length
    ·have hji:(j:Int)<(x.ops.length:Int):=by omega
     have hj0:(0:Int)<=(j:Int):=by omega
     have hg3:x.ops[j]? = some x.ops[j]:=List.getElem?_eq_getElem hlt2;obtain⟨gb3,off3,hq3,hbs3,vs3,hce3,hvs3⟩:=EI.out j _ hg3;subst hq3;clear EI;generalize x.ops[j]=y at *;obtain rfl:vs3=opC y:=hvs3;have y0:=hS.out.bel.some (hce3 0 _ rfl);rw [Nat.add_zero]at y0;clear hce3;cases B with
     | false=>
      have HII:=Lib.hid (show Im false (AllTo (RanP p) k/\AllTo (At x.ops fun o=>1<=o.num/\o.num<=65535) (j+1))from im_no);clear hI hg3;go_wp2;go_roundw
      case rel=>exact⟨j+1,false,by omega,rfl,by go_num,hS,HII⟩
      case measure=>simp [intOf];omega
     | true=>
      by_cases a1:1<=y.num
      ·by_cases a2:y.num<=65535
       ·have HII:=Lib.hid (show Im true (AllTo (RanP p) k/\AllTo (At x.ops fun o=>1<=o.num/\o.num<=65535) (j+1))from qcw hI.out fun _=>At.mk hg3 ⟨a1,a2⟩)
        clear hI hg3;go_wp2;go_roundw
        case rel=>exact⟨j+1,true,by omega,rfl,by go_num,hS,HII⟩
        case measure=>simp [intOf];omega
       ·have HII:=Lib.hid (show Im false (AllTo (RanP p) k/\AllTo (At x.ops fun o=>1<=o.num/\o.num<=65535) (j+1))from im_no)
        clear hI hg3;go_wp2;go_roundw
        case rel=>exact⟨j+1,false,by omega,rfl,by go_num,hS,HII⟩
        case measure=>simp [intOf];omega
      ·have HII:=Lib.hid (show Im false (AllTo (RanP p) k/\AllTo (At x.ops fun o=>1<=o.num/\o.num<=65535) (j+1))from im_no)
       clear hI hg3;go_wp2;go_roundw
       case rel=>exact⟨j+1,false,by omega,rfl,by go_num,hS,HII⟩
       case measure=>simp [intOf];omega
    ·have hji : ¬(j:Int)<(x.ops.length:Int):=by omega
     have HII:=Lib.hid (show Im B (AllTo (RanP p) (k+1))from im_to hI.out fun z=>z.1.succ (At.mk HG.out fun i hi=>z.2 i (by omega)));clear hI EI;go_wp2;go_roundw
     case rel=>exact⟨k+1,B,by omega,rfl,by go_num,hS,HII⟩
     case measure=>simp [intOf];omega
  ·have hki : ¬(k:Int)<(p.progs.length:Int):=by omega
   have HI:=Lib.hid (show Im B (AllTo (RanP p) p.progs.length/\AllTo (RanE p) 0)from im_to hI.out fun z=>⟨fun i hi=>z i (by omega),AllTo.zero⟩);clear hI EG
   go_upto_region 11 with(fail)
   clear f0 hlt hki hk
   go_loopw [3,7] (fun b i wr => ∃(k:Nat) (B:Bool),k<=p.enums.length/\b=.bool B/\i=.int .i64 k/\Hid (ST w [] [⟨w.heap.size,#[.slice q1 p.progs.length c1,.slice q2 p.enums.length c2],25⟩] wr)/\Hid (Im B (AllTo (RanP p) p.progs.length/\AllTo (RanE p) k))) (fun _ i _=>p.enums.length-(intOf i).toNat)
   case atStart=>exact⟨0,B,by omega,rfl,rfl,hS,HI⟩
   case round=>as_aux_lemma=>
    clear hS HI;obtain⟨k,B,hk,rfl,rfl,hS,hI⟩:=hrel;have f1:=hS.out.cell 0 rfl 1;dsimp only at f1;by_cases hlt:k<p.enums.length
    ·have hki:(k:Int)<(p.enums.length:Int):=by omega
     have hk0:(0:Int)<=(k:Int):=by omega
     have hg:p.enums[k]? = some p.enums[k]:=List.getElem?_eq_getElem hlt;have HG:=Lib.hid hg;obtain⟨gb,off,rfl,hbs,vs,hce,hvs⟩:=EE.out k _ hg;obtain⟨r1,r2,r3,d1,d2,d3,rfl,hsi,hsr0,_⟩:=hvs.form;obtain⟨_,_,he,_,_,hei⟩:=hsi;cases he;have EI:=Lib.hid hei;clear hei;have CR:=Lib.hid (fun W (kb:Bel w W) (n:Int)=>qin (.slice r2 p.enums[k].res.length d2) p.enums[k].res n W (hsr0.bel VSpan.stays kb));clear hvs EE hg;generalize p.enums[k]=x at *;obtain⟨_,_,he,_,_,her⟩:=hsr0;cases he;have ER:=Lib.hid her;have HX:=Lib.hid (hS.out.addbox #[.string (S x.name),.bool x.op,.slice r1 x.items.length d1,.slice r2 x.res.length d2,.slice r3 x.notes.length d3] 84);have e0:=hS.out.bel.some (hce 0 _ rfl);rw [Nat.add_zero]at e0;have e1:=hS.out.bel.some (hce 1 _ rfl);have e2:=hS.out.bel.some (hce 2 _ rfl);have e3:=hS.out.bel.some (hce 3 _ rfl);have e4:=hS.out.bel.some (hce 4 _ rfl);clear hce her hbs
     go_upto_region 15 with(fail)
     generalize wr.heap.size=eb at HX ⊢;generalize World.alloc wr _=wb at HX ⊢;clear e0 e1 e2 e3 e4 f1 hS
     go_loopw [3,9] (fun b i wr => ∃(j:Nat) (B:Bool),j<=x.items.length/\b=.bool B/\i=.int .i64 j/\Hid (ST w [] [⟨eb,#[.string (S x.name),.bool x.op,.slice r1 x.items.length d1,.slice r2 x.res.length d2,.slice r3 x.notes.length d3],84⟩,⟨w.heap.size,#[.slice q1 p.progs.length c1,.slice (some ⟨gb,off,none⟩) p.enums.length c2],25⟩] wr)/\Hid (Im B ((AllTo (RanP p) p.progs.length/\AllTo (RanE p) k)/\AllTo (RanI x) j))) (fun _ i _=>x.items.length-(intOf i).toNat)
     case atStart=>exact⟨0,B,by omega,rfl,rfl,HX,Lib.hid (im_to hI.out fun z=>⟨z,AllTo.zero⟩)⟩
     case round=>as_aux_lemma=>
      clear HX hI;obtain⟨j,B,hj,rfl,rfl,hS,hI⟩:=hrel;have e2:=hS.out.cell 0 rfl 2;have e3:=hS.out.cell 0 rfl 3;dsimp only at e2 e3;by_cases hlt2:j<x.items.length
      ·have hji:(j:Int)<(x.items.length:Int):=by omega
       have hj0:(0:Int)<=(j:Int):=by omega
       have hg3:x.items[j]? = some x.items[j]:=List.getElem?_eq_getElem hlt2;obtain⟨gb3,off3,hq3,hbs3,vs3,hce3,hvs3⟩:=EI.out j _ hg3;subst hq3;clear EI ER;generalize x.items[j]=y at *;obtain⟨nv,rfl,_⟩:=hvs3;have y1:=hS.out.bel.some (hce3 1 _ rfl);clear hce3;cases B with
       | false=>
        have HII:=Lib.hid (show Im false ((AllTo (RanP p) p.progs.length/\AllTo (RanE p) k)/\AllTo (RanI x) (j+1))from im_no)
        clear hI hg3 CR;go_wp2;go_roundw
        case rel=>exact⟨j+1,false,by omega,rfl,by go_num,hS,HII⟩
        case measure=>simp [intOf];omega
       | true=>
        by_cases a1:y.num<=2147483647
        ·by_cases aj:j=0
         ·have hq : ¬(0:Int)<(j:Int):=by omega
          have hqn : ¬ 0<j:=by omega
          have hqd:decide (0<j)=false:=decide_eq_false hqn;have CRY:=fun W k=>CR.out W k y.num
          clear CR;by_cases a3:y.num=0
          ·have nz:(y.num == 0)=true:=by rw [a3];rfl
           obtain⟨R,hR⟩ : ∃R,R=qb6 x.res y.num:=⟨_,rfl⟩;rw [←hR]at CRY;have CR:=Lib.hid (fun W k=>CRY W k);clear CRY;have HII:=Lib.hid (show Im (!R) ((AllTo (RanP p) p.progs.length/\AllTo (RanE p) k)/\AllTo (RanI x) (j+1))from qcw hI.out fun hz=>At.mk hg3 ⟨a1,.inr a3,by rw [←hR];simpa using hz⟩);clear hR;clear hI hg3 a3 aj 
           go_wp2_with (go_at_call 79;(with_reducible refine(CR.out _ hS.out.bel).mono ?_);rintro e' w5 ⟨rfl,k5⟩;have k5:Bel _ w5:=k5;have hS5:=Lib.hid (hS.out.belw k5);clear k5)
           go_roundw
           case rel=>exact⟨j+1,(!R),by omega,rfl,by go_num,hS5,HII⟩
           case measure=>simp [intOf];omega
          ·have nz:(y.num == 0)=false:=beq_eq_false_iff_ne.2 a3
           have HII:=Lib.hid (show Im false ((AllTo (RanP p) p.progs.length/\AllTo (RanE p) k)/\AllTo (RanI x) (j+1))from im_no)
           clear hI hg3 CRY aj;go_wp2;go_roundw
           case rel=>exact⟨j+1,false,by omega,rfl,by go_num,hS,HII⟩
           case measure=>simp [intOf];omega
         ·have hq:(0:Int)<(j:Int):=by omega
          have hqn:0<j:=by omega
          have hqd:decide (0<j)=true:=decide_eq_true hqn;have CRY:=fun W k=>CR.out W k y.num
          clear CR;obtain⟨R,hR⟩ : ∃R,R=qb6 x.res y.num:=⟨_,rfl⟩;rw [←hR]at CRY;have CR:=Lib.hid (fun W k=>CRY W k);clear CRY;have HII:=Lib.hid (show Im (!R) ((AllTo (RanP p) p.progs.length/\AllTo (RanE p) k)/\AllTo (RanI x) (j+1))from qcw hI.out fun hz=>At.mk hg3 ⟨a1,.inl hqn,by rw [←hR];simpa using hz⟩);clear hR;clear hI hg3 aj 
          go_wp2_with (go_at_call 79;(with_reducible refine(CR.out _ hS.out.bel).mono ?_);rintro e' w5 ⟨rfl,k5⟩;have k5:Bel _ w5:=k5;have hS5:=Lib.hid (hS.out.belw k5);clear k5)
          go_roundw
          case rel=>exact⟨j+1,(!R),by omega,rfl,by go_num,hS5,HII⟩
          case measure=>simp [intOf];omega
        ·have HII:=Lib.hid (show Im false ((AllTo (RanP p) p.progs.length/\AllTo (RanE p) k)/\AllTo (RanI x) (j+1))from im_no)
         clear hI hg3 CR;go_wp2;go_roundw
         case rel=>exact⟨j+1,false,by omega,rfl,by go_num,hS,HII⟩
         case measure=>simp [intOf];omega
      ·have hji : ¬(j:Int)<(x.items.length:Int):=by omega
       have HII:=Lib.hid (show Im B (((AllTo (RanP p) p.progs.length/\AllTo (RanE p) k)/\AllTo (RanI x) x.items.length)/\AllTo (RanS x.res) 0)from im_to hI.out fun z=>⟨⟨z.1,fun i hi=>z.2 i (by omega)⟩,AllTo.zero⟩);clear hI EI CR
       go_upto_region 20 with(fail)
       clear e2 e3
       go_loopw [3,11] (fun b i wr => ∃(j:Nat) (B:Bool),j<=x.res.length/\b=.bool B/\i=.int .i64 j/\Hid (ST w [] [⟨eb,#[.string (S x.name),.bool x.op,.slice r1 x.items.length d1,.slice r2 x.res.length d2,.slice r3 x.notes.length d3],84⟩,⟨w.heap.size,#[.slice q1 p.progs.length c1,.slice (some ⟨gb,off,none⟩) p.enums.length c2],25⟩] wr)/\Hid (Im B (((AllTo (RanP p) p.progs.length/\AllTo (RanE p) k)/\AllTo (RanI x) x.items.length)/\AllTo (RanS x.res) j))) (fun _ i _=>x.res.length-(intOf i).toNat)
       case atStart=>exact⟨0,B,by omega,rfl,rfl,hS,HII⟩
       case round=>as_aux_lemma=>
        clear hS HII;obtain⟨j,B,hj,rfl,rfl,hS,hI⟩:=hrel;have e3:=hS.out.cell 0 rfl 3;dsimp only at e3;by_cases hlt2:j<x.res.length
        ·have hji:(j:Int)<(x.res.length:Int):=by omega
         have hj0:(0:Int)<=(j:Int):=by omega
         have hg3:x.res[j]? = some x.res[j]:=List.getElem?_eq_getElem hlt2;obtain⟨gb3,off3,hq3,hbs3,vs3,hce3,hvs3⟩:=ER.out j _ hg3;subst hq3
         have PR:=Lib.hid (show ∀m,j=m+1->∃z:PSpan,x.res[m]? = some z/\Hid (wr.cell? ⟨gb3,off3+m*2+1,none⟩=some (.int .i64 z.hi))from fun m hm=>by
          obtain⟨z,hz⟩ : ∃z,x.res[m]? = some z:=⟨_,List.getElem?_eq_getElem (by omega)⟩;obtain⟨b',off',he,_,vy,hcy,hvy⟩:=ER.out m z hz;cases he;rw [show vy=[.int .i64 z.lo,.int .i64 z.hi]from hvy]at hcy
          exact⟨z,hz,Lib.hid (hS.out.bel.some (hcy 1 _ rfl))⟩)
         clear ER;generalize x.res[j]=y at *;rw [show vs3=[.int .i64 y.lo,.int .i64 y.hi]from hvs3]at hce3;have y0:=hS.out.bel.some (hce3 0 _ rfl);rw [Nat.add_zero]at y0;have y1:=hS.out.bel.some (hce3 1 _ rfl);have HX:=Lib.hid (hS.out.addbox #[.int .i64 y.lo,.int .i64 y.hi] 116);clear hce3 hvs3 hbs3
         go_upto_region 23 with(fail)
         cases B with
         | false=>
          have HII:=Lib.hid (show Im false (((AllTo (RanP p) p.progs.length/\AllTo (RanE p) k)/\AllTo (RanI x) x.items.length)/\AllTo (RanS x.res) (j+1))from im_no);clear hI hg3 PR ;obtain⟨wd,hwd⟩ : ∃wd,wd=(wr.alloc (.cells #[.int .i64 y.lo,.int .i64 y.hi] 116)).drew:=⟨_,rfl⟩;have T:=HX.out.belw ((Bel.refl _).drew);rw [←hwd]at T;have T:=Lib.hid T;have kwd:Bel wr wd:=by rw [hwd];exact((Bel.refl wr).alloc _).drew
          have t0:=T.out.cell 0 rfl 0;have t1:=T.out.cell 0 rfl 1;have t3:=T.out.cell 1 rfl 3;dsimp only at t0 t1 t3;have HWD:=Lib.hid hwd;clear hwd y0 y1 HX e3
          refine qa8 31 (by kernel_rfl) (by kernel_rfl) HWD.out ?_
          (simp only [List.take_succ_cons,List.take_zero,List.drop_succ_cons,List.drop_zero]);(repeat (first|((with_reducible refine wpStill_step (fun K hK=>?_));go_simp;(with_reducible refine hK _ ?_);clear hK K)|((with_reducible refine qab ?_ ?_);(with_unfolding_all rfl);(simp only [Act.put,List.setIfInBounds_toArray,List.set_cons_zero,List.set_cons_succ]))));(with_reducible refine wpStill_nil ?_)
          go_wp2;go_roundw
          case rel=>exact⟨j+1,false,by omega,rfl,by go_num,Lib.hid T.out.dropbox0,HII⟩
          case measure=>simp [intOf];omega
         | true=>
          by_cases a1:0<=y.lo
          ·by_cases a2:y.hi<=2147483647
           ·by_cases a3:y.lo<=y.hi
            ·by_cases aj:j=0
             ·have hq:((j:Int) == 0)=true:=by rw [aj];rfl
              have HII:=Lib.hid (show Im true (((AllTo (RanP p) p.progs.length/\AllTo (RanE p) k)/\AllTo (RanI x) x.items.length)/\AllTo (RanS x.res) (j+1))from qcw hI.out fun _=>⟨At.mk hg3 ⟨a1,a2,a3⟩,fun i _ _ e _ _=>absurd e (by omega)⟩);clear hI hg3 PR aj;obtain⟨wd,hwd⟩ : ∃wd,wd=(wr.alloc (.cells #[.int .i64 y.lo,.int .i64 y.hi] 116)).drew:=⟨_,rfl⟩;have T:=HX.out.belw ((Bel.refl _).drew);rw [←hwd]at T;have T:=Lib.hid T;have kwd:Bel wr wd:=by rw [hwd];exact((Bel.refl wr).alloc _).drew
              have t0:=T.out.cell 0 rfl 0;have t1:=T.out.cell 0 rfl 1;have t3:=T.out.cell 1 rfl 3;dsimp only at t0 t1 t3;have HWD:=Lib.hid hwd;clear hwd y0 y1 HX e3
              refine qa8 31 (by kernel_rfl) (by kernel_rfl) HWD.out ?_
              (simp only [List.take_succ_cons,List.take_zero,List.drop_succ_cons,List.drop_zero]);(repeat (first|((with_reducible refine wpStill_step (fun K hK=>?_));go_simp;(with_reducible refine hK _ ?_);clear hK K)|((with_reducible refine qab ?_ ?_);(with_unfolding_all rfl);(simp only [Act.put,List.setIfInBounds_toArray,List.set_cons_zero,List.set_cons_succ]))));(with_reducible refine wpStill_nil ?_)
              go_wp2;go_roundw
              case rel=>exact⟨j+1,true,by omega,rfl,by go_num,Lib.hid T.out.dropbox0,HII⟩
              case measure=>simp [intOf];omega
             ·have hq:((j:Int) == 0)=false:=beq_eq_false_iff_ne.2 (by omega)
              obtain⟨m,hm⟩ : ∃m,j=m+1:=⟨j-1,by omega⟩;obtain⟨z,hz,hzc⟩:=PR.out m hm;have z1:=hzc.out;obtain⟨D,hD⟩ : ∃D,D=decide (z.hi<y.lo):=⟨_,rfl⟩
              have HII:=Lib.hid (show Im D (((AllTo (RanP p) p.progs.length/\AllTo (RanE p) k)/\AllTo (RanI x) x.items.length)/\AllTo (RanS x.res) (j+1))from qcw hI.out fun hDt=>⟨At.mk hg3 ⟨a1,a2,a3⟩,fun i a b e ha hb=>by
                obtain rfl:i=m:=by omega
                rw [hz]at ha;rw [hg3]at hb;cases ha;cases hb
                exact of_decide_eq_true (hD.symm.trans hDt)⟩)
              clear hI hg3 PR aj hz hzc;obtain⟨wd,hwd⟩ : ∃wd,wd=(wr.alloc (.cells #[.int .i64 y.lo,.int .i64 y.hi] 116)).drew:=⟨_,rfl⟩;have T:=HX.out.belw ((Bel.refl _).drew);rw [←hwd]at T;have T:=Lib.hid T;have kwd:Bel wr wd:=by rw [hwd];exact((Bel.refl wr).alloc _).drew
              have t0:=T.out.cell 0 rfl 0;have t1:=T.out.cell 0 rfl 1;have t3:=T.out.cell 1 rfl 3;dsimp only at t0 t1 t3;have HWD:=Lib.hid hwd;clear hwd y0 y1 HX e3;have z1d:=kwd.some z1;have jw:IntKind.i64.wrap ((j:Int)-1)=(m:Int):=by rw [show(j:Int)-1=(m:Int)by omega];exact wrap_small _ (by omega) (by omega)
              have jw2:IntKind.i64.wrap (m:Int)=(m:Int):=wrap_small _ (by omega) (by omega);have jw3:(j:Int)-1=(m:Int):=by omega
              have j0:(0:Int)<=(m:Int):=by omega
              have j1:(m:Int)<(x.res.length:Int):=by omega
              have hDs:=hD.symm;clear hm z1 hD;refine qa8 31 (by kernel_rfl) (by kernel_rfl) HWD.out ?_
              (simp only [List.take_succ_cons,List.take_zero,List.drop_succ_cons,List.drop_zero]);(repeat (first|((with_reducible refine wpStill_step (fun K hK=>?_));go_simp;(with_reducible refine hK _ ?_);clear hK K)|((with_reducible refine qab ?_ ?_);(with_unfolding_all rfl);(simp only [Act.put,List.setIfInBounds_toArray,List.set_cons_zero,List.set_cons_succ]))));(with_reducible refine wpStill_nil ?_)
              go_wp2;go_roundw
              case rel=>exact⟨j+1,D,by omega,rfl,by go_num,Lib.hid T.out.dropbox0,HII⟩
              case measure=>simp [intOf];omega
            ·have HII:=Lib.hid (show Im false (((AllTo (RanP p) p.progs.length/\AllTo (RanE p) k)/\AllTo (RanI x) x.items.length)/\AllTo (RanS x.res) (j+1))from im_no)
             clear hI hg3 PR ;obtain⟨wd,hwd⟩ : ∃wd,wd=(wr.alloc (.cells #[.int .i64 y.lo,.int .i64 y.hi] 116)).drew:=⟨_,rfl⟩;have T:=HX.out.belw ((Bel.refl _).drew);rw [←hwd]at T;have T:=Lib.hid T;have kwd:Bel wr wd:=by rw [hwd];exact((Bel.refl wr).alloc _).drew
             have t0:=T.out.cell 0 rfl 0;have t1:=T.out.cell 0 rfl 1;have t3:=T.out.cell 1 rfl 3;dsimp only at t0 t1 t3;have HWD:=Lib.hid hwd;clear hwd y0 y1 HX e3
             refine qa8 31 (by kernel_rfl) (by kernel_rfl) HWD.out ?_
             (simp only [List.take_succ_cons,List.take_zero,List.drop_succ_cons,List.drop_zero]);(repeat (first|((with_reducible refine wpStill_step (fun K hK=>?_));go_simp;(with_reducible refine hK _ ?_);clear hK K)|((with_reducible refine qab ?_ ?_);(with_unfolding_all rfl);(simp only [Act.put,List.setIfInBounds_toArray,List.set_cons_zero,List.set_cons_succ]))));(with_reducible refine wpStill_nil ?_)
             go_wp2;go_roundw
             case rel=>exact⟨j+1,false,by omega,rfl,by go_num,Lib.hid T.out.dropbox0,HII⟩
             case measure=>simp [intOf];omega
           ·have HII:=Lib.hid (show Im false (((AllTo (RanP p) p.progs.length/\AllTo (RanE p) k)/\AllTo (RanI x) x.items.length)/\AllTo (RanS x.res) (j+1))from im_no)
            clear hI hg3 PR ;obtain⟨wd,hwd⟩ : ∃wd,wd=(wr.alloc (.cells #[.int .i64 y.lo,.int .i64 y.hi] 116)).drew:=⟨_,rfl⟩;have T:=HX.out.belw ((Bel.refl _).drew);rw [←hwd]at T;have T:=Lib.hid T;have kwd:Bel wr wd:=by rw [hwd];exact((Bel.refl wr).alloc _).drew
            have t0:=T.out.cell 0 rfl 0;have t1:=T.out.cell 0 rfl 1;have t3:=T.out.cell 1 rfl 3;dsimp only at t0 t1 t3;have HWD:=Lib.hid hwd;clear hwd y0 y1 HX e3
            refine qa8 31 (by kernel_rfl) (by kernel_rfl) HWD.out ?_
            (simp only [List.take_succ_cons,List.take_zero,List.drop_succ_cons,List.drop_zero]);(repeat (first|((with_reducible refine wpStill_step (fun K hK=>?_));go_simp;(with_reducible refine hK _ ?_);clear hK K)|((with_reducible refine qab ?_ ?_);(with_unfolding_all rfl);(simp only [Act.put,List.setIfInBounds_toArray,List.set_cons_zero,List.set_cons_succ]))));(with_reducible refine wpStill_nil ?_)
            go_wp2;go_roundw
            case rel=>exact⟨j+1,false,by omega,rfl,by go_num,Lib.hid T.out.dropbox0,HII⟩
            case measure=>simp [intOf];omega
          ·have HII:=Lib.hid (show Im false (((AllTo (RanP p) p.progs.length/\AllTo (RanE p) k)/\AllTo (RanI x) x.items.length)/\AllTo (RanS x.res) (j+1))from im_no)
           clear hI hg3 PR ;obtain⟨wd,hwd⟩ : ∃wd,wd=(wr.alloc (.cells #[.int .i64 y.lo,.int .i64 y.hi] 116)).drew:=⟨_,rfl⟩;have T:=HX.out.belw ((Bel.refl _).drew);rw [←hwd]at T;have T:=Lib.hid T;have kwd:Bel wr wd:=by rw [hwd];exact((Bel.refl wr).alloc _).drew
           have t0:=T.out.cell 0 rfl 0;have t1:=T.out.cell 0 rfl 1;have t3:=T.out.cell 1 rfl 3;dsimp only at t0 t1 t3;have HWD:=Lib.hid hwd;clear hwd y0 y1 HX e3
           refine qa8 31 (by kernel_rfl) (by kernel_rfl) HWD.out ?_
           (simp only [List.take_succ_cons,List.take_zero,List.drop_succ_cons,List.drop_zero]);(repeat (first|((with_reducible refine wpStill_step (fun K hK=>?_));go_simp;(with_reducible refine hK _ ?_);clear hK K)|((with_reducible refine qab ?_ ?_);(with_unfolding_all rfl);(simp only [Act.put,List.setIfInBounds_toArray,List.set_cons_zero,List.set_cons_succ]))));(with_reducible refine wpStill_nil ?_)
           go_wp2;go_roundw
           case rel=>exact⟨j+1,false,by omega,rfl,by go_num,Lib.hid T.out.dropbox0,HII⟩
           case measure=>simp [intOf];omega
        ·have hji : ¬(j:Int)<(x.res.length:Int):=by omega
         have HII:=Lib.hid (show Im B (AllTo (RanP p) p.progs.length/\AllTo (RanE p) (k+1))from im_to hI.out fun z=>⟨z.1.1.1,z.1.1.2.succ (At.mk HG.out ⟨z.1.2,fun i hi=>z.2 i (by omega)⟩)⟩);clear hI ER;go_wp2;go_roundw
         case rel=>exact⟨k+1,B,by omega,rfl,by go_num,Lib.hid hS.out.dropbox0,HII⟩
         case measure=>simp [intOf];omega
    ·have hki : ¬(k:Int)<(p.enums.length:Int):=by omega
     have HII:=Lib.hid (show Im B (qen p=true)from im_to hI.out fun z=>qm0 z.1 (fun i hi=>z.2 i (by omega)));clear hI EE;go_wp2;go_ret;exact qlh HII.out id hS.out.bel
end
end Go.Proofs.YtgpjhibdongmbaaGreatDoor
