import Derived.Test.YtgpjhibdongmbaaGreatDoorRsR22F
set_option maxRecDepth 100000
set_option maxHeartbeats 4000000
set_option linter.unusedVariables false
set_option linter.unusedSimpArgs false
namespace Go.Proofs.YtgpjhibdongmbaaGreatDoor
open Go.RowKit Ck Rs
theorem qhr (p:PPlan) (vs:List Value) (w:World) (hv:VPlan w vs p) :
  Calls Tryz.prog 51 #[.agg vs.toArray] w (Wk (qdz p=true) w):=by
 obtain⟨q1,q2,c1,c2,rfl,h1,h2,l1,l2⟩:=hv.form;have hS0:=(ST.start w).addbox #[.slice q1 p.progs.length c1,.slice q2 p.enums.length c2] 25;have HS:=Lib.hid hS0;obtain⟨_,_,he,_,_,hel⟩:=h1;cases he;have EG:=Lib.hid hel;obtain⟨_,_,he,_,_,hel2⟩:=h2;cases he;have EE:=Lib.hid hel2;clear hv hel hel2 hS0
 go_enter Tryz.func51,Tryz.ntmps51
 go_upto_region 3 with(fail)
 go_loopw [3,4] (fun b i wr => ∃(k:Nat) (B:Bool),k<=p.progs.length/\b=.bool B/\i=.int .i64 k/\Hid (ST w [] [⟨w.heap.size,#[.slice q1 p.progs.length c1,.slice q2 p.enums.length c2],25⟩] wr)/\Hid (Im B (AllTo (SinP p) k))) (fun _ i _=>p.progs.length-(intOf i).toNat)
 case atStart=>exact⟨0,true,by omega,rfl,rfl,HS,Lib.hid (qld AllTo.zero)⟩
 case round=>as_aux_lemma=>
  clear HS;obtain⟨k,B,hk,rfl,rfl,hS,hI⟩:=hrel;have f0:=hS.out.cell 0 rfl 0;dsimp only at f0;by_cases hlt:k<p.progs.length
  ·have hki:(k:Int)<(p.progs.length:Int):=by omega
   have hk0:(0:Int)<=(k:Int):=by omega
   have hg:p.progs[k]? = some p.progs[k]:=List.getElem?_eq_getElem hlt;have HG:=Lib.hid hg;obtain⟨gb,off,rfl,hbs,vs,hce,hvs⟩:=EG.out k _ hg;obtain⟨oq,oc,rfl,hso,_⟩:=hvs.form;obtain⟨_,_,he,_,_,hei⟩:=hso;cases he;have EI:=Lib.hid hei;clear hei;clear hvs EG hg;generalize p.progs[k]=x at *;have E0:=Lib.hid (hce 0 _ rfl);have EC:=Lib.hid (hce 1 _ rfl);clear hce
   go_upto_region 6 with(fail)
   clear f0
   go_loopw [3,5] (fun b i wr => ∃(j:Nat) (B:Bool),j<=p.enums.length/\b=.bool B/\i=.int .i64 j/\Hid (ST w [] [⟨w.heap.size,#[.slice (some ⟨gb,off,none⟩) p.progs.length c1,.slice q2 p.enums.length c2],25⟩] wr)/\Hid (Im B (AllTo (SinP p) k/\AllTo (At p.enums fun e=>x.name ≠ e.name) j))) (fun _ i _=>p.enums.length-(intOf i).toNat)
   case atStart=>exact⟨0,B,by omega,rfl,rfl,hS,Lib.hid (im_to hI.out fun z=>⟨z,AllTo.zero⟩)⟩
   case round=>as_aux_lemma=>
    clear hS hI;obtain⟨j,B,hj,rfl,rfl,hS,hI⟩:=hrel;have f0:=hS.out.cell 0 rfl 0;have f1:=hS.out.cell 0 rfl 1;dsimp only at f0 f1;by_cases hlt2:j<p.enums.length
    ·have hji:(j:Int)<(p.enums.length:Int):=by omega
     have hj0:(0:Int)<=(j:Int):=by omega
     cases B with
     | false=>
      clear EI hI EE
      go_upto_region 8 with(fail)
      obtain⟨wd,hwd⟩ : ∃wd,wd=wr.drew:=⟨_,rfl⟩;have kwd:Bel wr wd:=by rw [hwd];exact(Bel.refl wr).drew
      have HSD:=Lib.hid (hS.out.belw kwd);have HWD:=Lib.hid hwd;clear hwd;have f0d:=HSD.out.cell 0 rfl 0;dsimp only at f0d;have f1d:=HSD.out.cell 0 rfl 1;dsimp only at f1d
      refine qa9 14 (by kernel_rfl) (by kernel_rfl) HWD.out ?_
      (simp only [List.take_succ_cons,List.take_zero,List.drop_succ_cons,List.drop_zero]);(repeat (first|((with_reducible refine wpStill_step (fun K hK=>?_));go_simp;(with_reducible refine hK _ ?_);clear hK K)|((with_reducible refine qac ?_ ?_);(with_unfolding_all rfl);(simp only [Act.put,List.setIfInBounds_toArray,List.set_cons_zero,List.set_cons_succ]))));(with_reducible refine wpStill_nil ?_)
      go_wp2;go_roundw
      case rel=>exact⟨j+1,false,by omega,rfl,by go_num,HSD,Lib.hid im_no⟩
      case measure=>simp [intOf];omega
     | true=>
      have hg3:p.enums[j]? = some p.enums[j]:=List.getElem?_eq_getElem hlt2;obtain⟨gb3,off3,rfl,hbs3,vs3,hce3,hvs3⟩:=EE.out j _ hg3;obtain⟨r1,r2,r3,d1,d2,d3,rfl,_⟩:=hvs3.form
      have HI:=Lib.hid (show ∀D:Bool,(decide (x.name=p.enums[j].name)=D)->Im (!D) (AllTo (SinP p) k/\AllTo (At p.enums fun e=>x.name ≠ e.name) (j+1))from fun D hD=>qcf hI.out fun hDt=>At.mk hg3 (by
       rw [←hD]at hDt
       simpa using hDt))
      clear EI EE hI hg3;generalize p.enums[j]=y at *;have e0:=hS.out.bel.some E0.out;rw [Nat.add_zero]at e0;have y0:=hS.out.bel.some (hce3 0 _ rfl);rw [Nat.add_zero]at y0;clear hce3;obtain⟨D,hD⟩ : ∃D,D=decide (x.name=y.name):=⟨_,rfl⟩;have HII:=Lib.hid (HI.out D hD.symm);have heq:((S x.name).toList == (S y.name).toList)=D:=by rw [eq_S];exact hD.symm
      clear HI hD
      go_upto_region 8 with(fail)
      obtain⟨wd,hwd⟩ : ∃wd,wd=wr.drew:=⟨_,rfl⟩;have kwd:Bel wr wd:=by rw [hwd];exact(Bel.refl wr).drew
      have HSD:=Lib.hid (hS.out.belw kwd);have HWD:=Lib.hid hwd;clear hwd;have f0d:=HSD.out.cell 0 rfl 0;dsimp only at f0d;have f1d:=HSD.out.cell 0 rfl 1;dsimp only at f1d;have y0d:=kwd.some y0;have e0d:=kwd.some e0;clear y0 e0 f0 f1;refine qa9 14 (by kernel_rfl) (by kernel_rfl) HWD.out ?_
      (simp only [List.take_succ_cons,List.take_zero,List.drop_succ_cons,List.drop_zero]);(repeat (first|((with_reducible refine wpStill_step (fun K hK=>?_));go_simp;(with_reducible refine hK _ ?_);clear hK K)|((with_reducible refine qac ?_ ?_);(with_unfolding_all rfl);(simp only [Act.put,List.setIfInBounds_toArray,List.set_cons_zero,List.set_cons_succ]))));(with_reducible refine wpStill_nil ?_)
      go_wp2;go_roundw
      case rel=>exact⟨j+1, !D,by omega,rfl,by go_num,HSD,HII⟩
      case measure=>simp [intOf];omega
    ·have hji : ¬(j:Int)<(p.enums.length:Int):=by omega
     have HII:=Lib.hid (show Im B (AllTo (SinP p) k/\AllTo (At p.enums fun e=>x.name ≠ e.name) p.enums.length)from im_to hI.out fun z=>⟨z.1,fun i hi=>z.2 i (by omega)⟩);have e1:=hS.out.bel.some EC.out;clear hI
     go_upto_region 11 with(fail)
     have hI:=HII;clear HII f0 f1 e1 EE
     go_loopw [3,7] (fun b i wr => ∃(m:Nat) (B:Bool),m<=x.ops.length/\b=.bool B/\i=.int .i64 m/\Hid (ST w [] [⟨w.heap.size,#[.slice (some ⟨gb,off,none⟩) p.progs.length c1,.slice q2 p.enums.length c2],25⟩] wr)/\Hid (Im B (((AllTo (SinP p) k/\AllTo (At p.enums fun e=>x.name ≠ e.name) p.enums.length))/\AllTo (Apt POp.name x.ops) m))) (fun _ i _=>x.ops.length-(intOf i).toNat)
     case atStart=>exact⟨0,B,by omega,rfl,rfl,hS,Lib.hid (im_to hI.out fun z=>⟨z,AllTo.zero⟩)⟩
     case round=>as_aux_lemma=>
      clear hS hI;obtain⟨m,B,hm,rfl,rfl,hS,hI⟩:=hrel;by_cases hlt2:m<x.ops.length
      ·have hmi:(m:Int)<(x.ops.length:Int):=by omega
       have hm0:(0:Int)<=(m:Int):=by omega
       go_upto_region 14 with(fail)
       go_loopw [3,8] (fun b i wr => ∃(n:Nat) (B:Bool),n<=m/\b=.bool B/\i=.int .i64 n/\Hid (ST w [] [⟨w.heap.size,#[.slice (some ⟨gb,off,none⟩) p.progs.length c1,.slice q2 p.enums.length c2],25⟩] wr)/\Hid (Im B ((((AllTo (SinP p) k/\AllTo (At p.enums fun e=>x.name ≠ e.name) p.enums.length))/\AllTo (Apt POp.name x.ops) m)/\AllTo (fun n => ∀a b,x.ops[n]? = some a->x.ops[m]? = some b->POp.name a ≠ POp.name b) n))) (fun _ i _=>m-(intOf i).toNat)
       case atStart=>exact⟨0,B,by omega,rfl,rfl,hS,Lib.hid (im_to hI.out fun z=>⟨z,AllTo.zero⟩)⟩
       case round=>as_aux_lemma=>
        clear hS hI;obtain⟨n,B,hn,rfl,rfl,hS,hI⟩:=hrel;by_cases hlt3:n<m
        ·have hni:(n:Int)<(m:Int):=by omega
         have hn0:(0:Int)<=(n:Int):=by omega
         cases B with
         | false=>
          clear EI hI
          go_upto_region 16 with(fail)
          obtain⟨wd,hwd⟩ : ∃wd,wd=wr.drew:=⟨_,rfl⟩;have kwd:Bel wr wd:=by rw [hwd];exact(Bel.refl wr).drew
          have HSD:=Lib.hid (hS.out.belw kwd);have HWD:=Lib.hid hwd;clear hwd
          refine qa9 12 (by kernel_rfl) (by kernel_rfl) HWD.out ?_
          (simp only [List.take_succ_cons,List.take_zero,List.drop_succ_cons,List.drop_zero]);(repeat (first|((with_reducible refine wpStill_step (fun K hK=>?_));go_simp;(with_reducible refine hK _ ?_);clear hK K)|((with_reducible refine qac ?_ ?_);(with_unfolding_all rfl);(simp only [Act.put,List.setIfInBounds_toArray,List.set_cons_zero,List.set_cons_succ]))));(with_reducible refine wpStill_nil ?_)
          go_wp2;go_roundw
          case rel=>exact⟨n+1,false,by omega,rfl,by go_num,HSD,Lib.hid im_no⟩
          case measure=>simp [intOf];omega
         | true=>
          have hnl:n<x.ops.length:=by omega
          have hg3:x.ops[m]? = some x.ops[m]:=List.getElem?_eq_getElem hlt2;have hg4:x.ops[n]? = some x.ops[n]:=List.getElem?_eq_getElem hnl;obtain⟨gb3,off3,hq3,hbs3,vs3,hce3,hvs3⟩:=EI.out m _ hg3;obtain⟨gb4,off4,hq4,hbs4,vs4,hce4,hvs4⟩:=EI.out n _ hg4;subst hq3;cases hq4
          have HI:=Lib.hid (show ∀D:Bool,(decide (POp.name x.ops[n]=POp.name x.ops[m])=D)->Im (!D) ((((AllTo (SinP p) k/\AllTo (At p.enums fun e=>x.name ≠ e.name) p.enums.length))/\AllTo (Apt POp.name x.ops) m)/\AllTo (fun n => ∀a b,x.ops[n]? = some a->x.ops[m]? = some b->POp.name a ≠ POp.name b) (n+1))from fun D hD=>qcf hI.out fun hDt a b ha hb=>by
           rw [hg4]at ha;rw [hg3]at hb;cases ha;cases hb;rw [←hD]at hDt
           simpa using hDt)
          clear EI hI hg3 hg4;generalize x.ops[m]=y at *;generalize x.ops[n]=z at *;obtain rfl:vs3=opC y:=hvs3;obtain rfl:vs4=opC z:=hvs4;have y0:=hS.out.bel.some (hce3 1 _ rfl);have z0:=hS.out.bel.some (hce4 1 _ rfl)
          (try rw [Nat.add_zero]at y0 z0)
          clear hce3 hce4;obtain⟨D,hD⟩ : ∃D,D=decide (POp.name z=POp.name y):=⟨_,rfl⟩;have HII:=Lib.hid (HI.out D hD.symm);have heq:((S z.name).toList == (S y.name).toList)=D:=by rw [eq_S];exact hD.symm
          clear HI hD;have n1:(n:Int)<(x.ops.length:Int):=by omega
          go_upto_region 16 with(fail)
          obtain⟨wd,hwd⟩ : ∃wd,wd=wr.drew:=⟨_,rfl⟩;have kwd:Bel wr wd:=by rw [hwd];exact(Bel.refl wr).drew
          have HSD:=Lib.hid (hS.out.belw kwd);have HWD:=Lib.hid hwd;clear hwd;have y0d:=kwd.some y0;have z0d:=kwd.some z0;clear y0 z0;refine qa9 12 (by kernel_rfl) (by kernel_rfl) HWD.out ?_
          (simp only [List.take_succ_cons,List.take_zero,List.drop_succ_cons,List.drop_zero]);(repeat (first|((with_reducible refine wpStill_step (fun K hK=>?_));go_simp;(with_reducible refine hK _ ?_);clear hK K)|((with_reducible refine qac ?_ ?_);(with_unfolding_all rfl);(simp only [Act.put,List.setIfInBounds_toArray,List.set_cons_zero,List.set_cons_succ]))));(with_reducible refine wpStill_nil ?_)
          go_wp2;go_roundw
          case rel=>exact⟨n+1, !D,by omega,rfl,by go_num,HSD,HII⟩
          case measure=>simp [intOf];omega
        ·have hni : ¬(n:Int)<(m:Int):=by omega
         have HII:=Lib.hid (show Im B (((AllTo (SinP p) k/\AllTo (At p.enums fun e=>x.name ≠ e.name) p.enums.length))/\AllTo (Apt POp.name x.ops) (m+1))from im_to hI.out fun z=>⟨z.1.1,z.1.2.succ fun i hi=>z.2 i (by omega)⟩);clear hI EI;go_wp2;go_roundw
         case rel=>exact⟨m+1,B,by omega,rfl,by go_num,hS,HII⟩
         case measure=>simp [intOf];omega
      ·have hmi : ¬(m:Int)<(x.ops.length:Int):=by omega
       have HII:=Lib.hid (show Im B (AllTo (SinP p) (k+1))from im_to hI.out fun z=>z.1.1.succ (At.mk HG.out ⟨z.1.2,fun i hi=>z.2 i (by omega)⟩));clear hI EI;go_wp2;go_roundw
       case rel=>exact⟨k+1,B,by omega,rfl,by go_num,hS,HII⟩
       case measure=>simp [intOf];omega
  ·have hki : ¬(k:Int)<(p.progs.length:Int):=by omega
   have HI:=Lib.hid (show Im B (AllTo (SinP p) p.progs.length/\AllTo (SinE p) 0)from im_to hI.out fun z=>⟨fun i hi=>z i (by omega),AllTo.zero⟩);clear hI EG
   go_upto_region 18 with(fail)
   clear f0 hlt hki hk
   go_loopw [3,9] (fun b i wr => ∃(k:Nat) (B:Bool),k<=p.enums.length/\b=.bool B/\i=.int .i64 k/\Hid (ST w [] [⟨w.heap.size,#[.slice q1 p.progs.length c1,.slice q2 p.enums.length c2],25⟩] wr)/\Hid (Im B (AllTo (SinP p) p.progs.length/\AllTo (SinE p) k))) (fun _ i _=>p.enums.length-(intOf i).toNat)
   case atStart=>exact⟨0,B,by omega,rfl,rfl,hS,HI⟩
   case round=>as_aux_lemma=>
    clear hS HI;obtain⟨k,B,hk,rfl,rfl,hS,hI⟩:=hrel;have f1:=hS.out.cell 0 rfl 1;dsimp only at f1;by_cases hlt:k<p.enums.length
    ·have hki:(k:Int)<(p.enums.length:Int):=by omega
     have hk0:(0:Int)<=(k:Int):=by omega
     have hg:p.enums[k]? = some p.enums[k]:=List.getElem?_eq_getElem hlt;have HG:=Lib.hid hg;obtain⟨gb,off,rfl,hbs,vs,hce,hvs⟩:=EE.out k _ hg;obtain⟨r1,r2,r3,d1,d2,d3,rfl,hsi,_⟩:=hvs.form;obtain⟨_,_,he,_,_,hei⟩:=hsi;cases he;have EI:=Lib.hid hei;clear hei;clear hvs EE hg;generalize p.enums[k]=x at *;have e1:=hS.out.bel.some (hce 2 _ rfl);clear hce
     go_upto_region 22 with(fail)
     clear f1 e1
     go_loopw [3,11] (fun b i wr => ∃(m:Nat) (B:Bool),m<=x.items.length/\b=.bool B/\i=.int .i64 m/\Hid (ST w [] [⟨w.heap.size,#[.slice q1 p.progs.length c1,.slice (some ⟨gb,off,none⟩) p.enums.length c2],25⟩] wr)/\Hid (Im B (((AllTo (SinP p) p.progs.length/\AllTo (SinE p) k))/\AllTo (Apt PItem.name x.items) m))) (fun _ i _=>x.items.length-(intOf i).toNat)
     case atStart=>exact⟨0,B,by omega,rfl,rfl,hS,Lib.hid (im_to hI.out fun z=>⟨z,AllTo.zero⟩)⟩
     case round=>as_aux_lemma=>
      clear hS hI;obtain⟨m,B,hm,rfl,rfl,hS,hI⟩:=hrel;by_cases hlt2:m<x.items.length
      ·have hmi:(m:Int)<(x.items.length:Int):=by omega
       have hm0:(0:Int)<=(m:Int):=by omega
       go_upto_region 25 with(fail)
       go_loopw [3,12] (fun b i wr => ∃(n:Nat) (B:Bool),n<=m/\b=.bool B/\i=.int .i64 n/\Hid (ST w [] [⟨w.heap.size,#[.slice q1 p.progs.length c1,.slice (some ⟨gb,off,none⟩) p.enums.length c2],25⟩] wr)/\Hid (Im B ((((AllTo (SinP p) p.progs.length/\AllTo (SinE p) k))/\AllTo (Apt PItem.name x.items) m)/\AllTo (fun n => ∀a b,x.items[n]? = some a->x.items[m]? = some b->PItem.name a ≠ PItem.name b) n))) (fun _ i _=>m-(intOf i).toNat)
       case atStart=>exact⟨0,B,by omega,rfl,rfl,hS,Lib.hid (im_to hI.out fun z=>⟨z,AllTo.zero⟩)⟩
       case round=>as_aux_lemma=>
        clear hS hI;obtain⟨n,B,hn,rfl,rfl,hS,hI⟩:=hrel;by_cases hlt3:n<m
        ·have hni:(n:Int)<(m:Int):=by omega
         have hn0:(0:Int)<=(n:Int):=by omega
         cases B with
         | false=>
          clear EI hI
          go_upto_region 27 with(fail)
          obtain⟨wd,hwd⟩ : ∃wd,wd=wr.drew:=⟨_,rfl⟩;have kwd:Bel wr wd:=by rw [hwd];exact(Bel.refl wr).drew
          have HSD:=Lib.hid (hS.out.belw kwd);have HWD:=Lib.hid hwd;clear hwd
          refine qa9 12 (by kernel_rfl) (by kernel_rfl) HWD.out ?_
          (simp only [List.take_succ_cons,List.take_zero,List.drop_succ_cons,List.drop_zero]);(repeat (first|((with_reducible refine wpStill_step (fun K hK=>?_));go_simp;(with_reducible refine hK _ ?_);clear hK K)|((with_reducible refine qac ?_ ?_);(with_unfolding_all rfl);(simp only [Act.put,List.setIfInBounds_toArray,List.set_cons_zero,List.set_cons_succ]))));(with_reducible refine wpStill_nil ?_)
          go_wp2;go_roundw
          case rel=>exact⟨n+1,false,by omega,rfl,by go_num,HSD,Lib.hid im_no⟩
          case measure=>simp [intOf];omega
         | true=>
          have hnl:n<x.items.length:=by omega
          have hg3:x.items[m]? = some x.items[m]:=List.getElem?_eq_getElem hlt2;have hg4:x.items[n]? = some x.items[n]:=List.getElem?_eq_getElem hnl;obtain⟨gb3,off3,hq3,hbs3,vs3,hce3,hvs3⟩:=EI.out m _ hg3;obtain⟨gb4,off4,hq4,hbs4,vs4,hce4,hvs4⟩:=EI.out n _ hg4;subst hq3;cases hq4
          have HI:=Lib.hid (show ∀D:Bool,(decide (PItem.name x.items[n]=PItem.name x.items[m])=D)->Im (!D) ((((AllTo (SinP p) p.progs.length/\AllTo (SinE p) k))/\AllTo (Apt PItem.name x.items) m)/\AllTo (fun n => ∀a b,x.items[n]? = some a->x.items[m]? = some b->PItem.name a ≠ PItem.name b) (n+1))from fun D hD=>qcf hI.out fun hDt a b ha hb=>by
           rw [hg4]at ha;rw [hg3]at hb;cases ha;cases hb;rw [←hD]at hDt
           simpa using hDt)
          clear EI hI hg3 hg4;generalize x.items[m]=y at *;generalize x.items[n]=z at *;obtain⟨nv,rfl,_⟩:=hvs3;obtain⟨nv2,rfl,_⟩:=hvs4;have y0:=hS.out.bel.some (hce3 0 _ rfl);have z0:=hS.out.bel.some (hce4 0 _ rfl)
          (try rw [Nat.add_zero]at y0 z0)
          clear hce3 hce4;obtain⟨D,hD⟩ : ∃D,D=decide (PItem.name z=PItem.name y):=⟨_,rfl⟩;have HII:=Lib.hid (HI.out D hD.symm);have heq:((S z.name).toList == (S y.name).toList)=D:=by rw [eq_S];exact hD.symm
          clear HI hD;have n1:(n:Int)<(x.items.length:Int):=by omega
          go_upto_region 27 with(fail)
          obtain⟨wd,hwd⟩ : ∃wd,wd=wr.drew:=⟨_,rfl⟩;have kwd:Bel wr wd:=by rw [hwd];exact(Bel.refl wr).drew
          have HSD:=Lib.hid (hS.out.belw kwd);have HWD:=Lib.hid hwd;clear hwd;have y0d:=kwd.some y0;have z0d:=kwd.some z0;clear y0 z0;refine qa9 12 (by kernel_rfl) (by kernel_rfl) HWD.out ?_
          (simp only [List.take_succ_cons,List.take_zero,List.drop_succ_cons,List.drop_zero]);(repeat (first|((with_reducible refine wpStill_step (fun K hK=>?_));go_simp;(with_reducible refine hK _ ?_);clear hK K)|((with_reducible refine qac ?_ ?_);(with_unfolding_all rfl);(simp only [Act.put,List.setIfInBounds_toArray,List.set_cons_zero,List.set_cons_succ]))));(with_reducible refine wpStill_nil ?_)
          go_wp2;go_roundw
          case rel=>exact⟨n+1, !D,by omega,rfl,by go_num,HSD,HII⟩
          case measure=>simp [intOf];omega
        ·have hni : ¬(n:Int)<(m:Int):=by omega
         have HII:=Lib.hid (show Im B (((AllTo (SinP p) p.progs.length/\AllTo (SinE p) k))/\AllTo (Apt PItem.name x.items) (m+1))from im_to hI.out fun z=>⟨z.1.1,z.1.2.succ fun i hi=>z.2 i (by omega)⟩);clear hI EI;go_wp2;go_roundw
         case rel=>exact⟨m+1,B,by omega,rfl,by go_num,hS,HII⟩
         case measure=>simp [intOf];omega
      ·have hmi : ¬(m:Int)<(x.items.length:Int):=by omega
       have HII:=Lib.hid (show Im B (AllTo (SinP p) p.progs.length/\AllTo (SinE p) (k+1))from im_to hI.out fun z=>⟨z.1.1,z.1.2.succ (At.mk HG.out fun i hi=>z.2 i (by omega))⟩);clear hI EI;go_wp2;go_roundw
       case rel=>exact⟨k+1,B,by omega,rfl,by go_num,hS,HII⟩
       case measure=>simp [intOf];omega
    ·have hki : ¬(k:Int)<(p.enums.length:Int):=by omega
     have HII:=Lib.hid (show Im B (qdz p=true)from im_to hI.out fun z=>qkq z.1 (fun i hi=>z.2 i (by omega)));clear hI EE;go_wp2;go_ret;exact qkj HII.out id hS.out.bel
end Go.Proofs.YtgpjhibdongmbaaGreatDoor
