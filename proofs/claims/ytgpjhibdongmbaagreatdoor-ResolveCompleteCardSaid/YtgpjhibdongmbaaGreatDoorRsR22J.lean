import Derived.Test.YtgpjhibdongmbaaGreatDoorRsR22F
import Derived.Test.YtgpjhibdongmbaaGreatDoorRsR22H
import Derived.Test.YtgpjhibdongmbaaGreatDoorRsEnd
set_option maxRecDepth 100000
set_option maxHeartbeats 4000000
set_option linter.unusedVariables false
set_option linter.unusedSimpArgs false
namespace Go.Proofs.YtgpjhibdongmbaaGreatDoor
section
open Go.RowKit Ck Rs
theorem qgc (p:PPlan) (vs:List Value) (w:World) (hv:VPlan w vs p) (hs:SmallP p) :
  Calls Tryz.prog 53 #[.agg vs.toArray] w (Wk (arguments p=true) w):=by
 have hv0:=hv;obtain⟨q1,q2,c1,c2,rfl,h1,h2,l1,l2⟩:=hv.form;have hS0:=(ST.start w).addbox #[.slice q1 p.progs.length c1,.slice q2 p.enums.length c2] 25;have HS:=Lib.hid hS0;obtain⟨_,_,he,_,_,hel⟩:=h1;cases he;have EG:=Lib.hid hel;obtain⟨_,_,he,_,_,hel2⟩:=h2;cases he;have EE:=Lib.hid hel2;clear hv hel hel2 hS0;have COP:=Lib.hid (show ∀g ∈ p.progs, ∀y ∈ g.ops, ∀W,Bel w W->Calls Tryz.prog 82 #[.agg #[.slice q1 p.progs.length c1,.slice q2 p.enums.length c2],.agg #[.int .i64 y.num,.string (S y.name),.string (S y.ali),.int .i64 y.card,.int .i64 y.key,.int .i64 y.kind,.int .i64 y.tgt,.int .i64 y.un]] W fun e' w'=>e'=.returned (.bool (qa4 p y))/\Bel W w' from fun g hg y hy W kb=>qgb p q1 q2 c1 c2 y W (VPlan.stays _ _ _ _ kb hv0) ((hs.pr g hg).op y hy).2);clear hv0 hs
 go_enter Tryz.func53,Tryz.ntmps53
 go_upto_region 3 with(fail)
 go_loopw [3,4] (fun b i wr => ∃(k:Nat) (B:Bool),k<=p.enums.length/\b=.bool B/\i=.int .i64 k/\Hid (ST w [] [⟨w.heap.size,#[.slice q1 p.progs.length c1,.slice q2 p.enums.length c2],25⟩] wr)/\Hid (Im B (AllTo (ArgE p) k))) (fun _ i _=>p.enums.length-(intOf i).toNat)
 case atStart=>exact⟨0,true,by omega,rfl,rfl,HS,Lib.hid (qmf AllTo.zero)⟩
 case round=>as_aux_lemma=>
  clear HS;obtain⟨k,B,hk,rfl,rfl,hS,hI⟩:=hrel;have f1:=hS.out.cell 0 rfl 1;dsimp only at f1;by_cases hlt:k<p.enums.length
  ·have hki:(k:Int)<(p.enums.length:Int):=by omega
   have hk0:(0:Int)<=(k:Int):=by omega
   have hg:p.enums[k]? = some p.enums[k]:=List.getElem?_eq_getElem hlt;have HG:=Lib.hid hg;obtain⟨gb,off,rfl,hbs,vs,hce,hvs⟩:=EE.out k _ hg;obtain⟨r1,r2,r3,d1,d2,d3,rfl,hsi,_⟩:=hvs.form;obtain⟨_,_,he,_,_,hei⟩:=hsi;cases he;have EI:=Lib.hid hei;clear hei;clear hvs EE hg;generalize p.enums[k]=x at *;have e4:=hS.out.bel.some (hce 4 _ rfl);have EC:=Lib.hid (hce 2 _ rfl);clear hce
   go_upto_region 5 with(fail)
   go_cut [3] (fun s3 wx => ∃B2:Bool,s3=.bool B2/\Hid (ST w [] [⟨w.heap.size,#[.slice q1 p.progs.length c1,.slice (some ⟨gb,off,none⟩) p.enums.length c2],25⟩] wx)/\Hid (Im B2 (AllTo (ArgE p) k/\x.notes.length=0)))
   case first=>
    clear EC EI;cases B with
    | false=>
     clear hI HG;go_wp2;go_meet;exact⟨false,rfl,hS,Lib.hid im_no⟩
    | true=>
     have HI:=Lib.hid (show Im ((x.notes.length:Int) == 0) (AllTo (ArgE p) k/\x.notes.length=0)from fun z=>⟨hI.out rfl,by have:=beq_iff_eq.1 z;omega⟩);clear hI HG;go_wp2;go_meet;exact⟨_,rfl,hS,HI⟩
   case rest=>
    rename_i s3 wx hcut
    obtain⟨B2,rfl,hS2,hI2⟩:=hcut;clear f1 e4 hI hS hbs;have f1:=hS2.out.cell 0 rfl 1;dsimp only at f1
    go_upto_region 7 with(fail)
    clear f1
    go_loopw [3,5] (fun b i wr => ∃(j:Nat) (B:Bool),j<=x.items.length/\b=.bool B/\i=.int .i64 j/\Hid (ST w [] [⟨w.heap.size,#[.slice q1 p.progs.length c1,.slice (some ⟨gb,off,none⟩) p.enums.length c2],25⟩] wr)/\Hid (Im B ((AllTo (ArgE p) k/\x.notes.length=0)/\AllTo (At x.items ArgI) j))) (fun _ i _=>x.items.length-(intOf i).toNat)
    case atStart=>exact⟨0,B2,by omega,rfl,rfl,hS2,Lib.hid (im_to hI2.out fun z=>⟨z,AllTo.zero⟩)⟩
    case round=>as_aux_lemma=>
     clear hS2 hI2;obtain⟨j,B,hj,rfl,rfl,hS,hI⟩:=hrel;have f1:=hS.out.cell 0 rfl 1;dsimp only at f1;have e2:=hS.out.bel.some EC.out;by_cases hlt2:j<x.items.length
     ·have hji:(j:Int)<(x.items.length:Int):=by omega
      have hj0:(0:Int)<=(j:Int):=by omega
      have hg3:x.items[j]? = some x.items[j]:=List.getElem?_eq_getElem hlt2;obtain⟨gb3,off3,hq3,hbs3,vs3,hce3,hvs3⟩:=EI.out j _ hg3;subst hq3;clear EI;generalize x.items[j]=y at *;obtain⟨nq,nc,rfl,hnn,lnn⟩:=hvs3.form;have y2:=hS.out.bel.some (hce3 2 _ rfl);have CC:=(fun W (kb:Bel w W)=>rk_Check (.slice nq y.notes.length nc) y.notes 4 W (hnn.bel VNote.stays kb))
      have EN:=Lib.hid (show ∀i x,y.notes[i]? = some x->∃(b off:Nat) (vs:List Value),nq=some ⟨b,off,none⟩/\w.cell? ⟨b,off+i*8,none⟩=some (.string (S x.name))/\VNote w vs x from by
       obtain⟨_,_,he,_,_,hel⟩:=hnn;cases he;intro i x hx;obtain⟨b,off,hq,_,vs,hce,hvs⟩:=hel i x hx;have hvs0:=hvs;obtain⟨nv,rfl,_⟩:=hvs
       exact⟨b,off,_,hq,by have:=hce 0 _ rfl;rwa [Nat.add_zero]at this,hvs0⟩)
      clear hce3 hnn hvs3;cases B with
      | false=>
       have HII:=Lib.hid (show Im false ((AllTo (ArgE p) k/\x.notes.length=0)/\AllTo (At x.items ArgI) (j+1))from im_no);clear hI hg3 EN CC;go_wp2;go_roundw
       case rel=>exact⟨j+1,false,by omega,rfl,by go_num,hS,HII⟩
       case measure=>simp [intOf];omega
      | true=>
       by_cases a0:y.notes.length=0
       ·have l0:((y.notes.length:Int) == 0)=true:=by rw [a0];rfl
        have HII:=Lib.hid (show Im true ((AllTo (ArgE p) k/\x.notes.length=0)/\AllTo (At x.items ArgI) (j+1))from qcw hI.out fun _=>At.mk hg3 (argI_nil a0));clear hI hg3 EN CC a0;go_wp2;go_roundw
        case rel=>exact⟨j+1,true,by omega,rfl,by go_num,hS,HII⟩
        case measure=>simp [intOf];omega
       ·have l0:((y.notes.length:Int) == 0)=false:=beq_eq_false_iff_ne.2 (by omega)
        by_cases a1:y.notes.length=1
        ·have l1b:((y.notes.length:Int) == 1)=true:=by rw [a1];rfl
         obtain⟨nt,hnt⟩ : ∃nt,y.notes=[nt]:=List.length_eq_one_iff.1 a1;obtain⟨nb,noff,nvs,hq,n0,hnv⟩:=EN.out 0 nt (by rw [hnt];rfl);subst hq;have n0:=hS.out.bel.some n0;rw [Nat.zero_mul,Nat.add_zero]at n0;have n1:(0:Int)<(y.notes.length:Int):=by omega
         by_cases a2:nt.name=qmv
         ·have hal2:=Lib.hid a2
          obtain⟨R,hR⟩ : ∃R,R=qam y.notes 4:=⟨_,rfl⟩;rw [←hR]at CC;have CC:=Lib.hid CC;have hal:((S nt.name).toList == [97,108,105,97,115])=true:=by rw [ByteArray.toList_eq,qc2];exact beq_iff_eq.2 a2
          have HII:=Lib.hid (show Im (R == 0) ((AllTo (ArgE p) k/\x.notes.length=0)/\AllTo (At x.items ArgI) (j+1))from qcw hI.out fun hz=>At.mk hg3 (argI_one hnt hal2.out (by rw [←hR];exact beq_iff_eq.1 hz)));clear hI hg3 EN hnt hR a1 a2
          go_wp2_with (go_at_call 80;(with_reducible refine(CC.out _ hS.out.bel).mono ?_);rintro e w5 ⟨rfl,k5⟩;have k5:Bel _ w5:=k5;have hS5:=Lib.hid (hS.out.belw k5);clear k5)
          go_roundw
          case rel=>exact⟨j+1,(R == 0),by omega,rfl,by go_num,hS5,HII⟩
          case measure=>simp [intOf];omega
         ·have hal:((S nt.name).toList == [97,108,105,97,115])=false:=by rw [ByteArray.toList_eq,qc2];exact beq_eq_false_iff_ne.2 a2
          have HII:=Lib.hid (show Im false ((AllTo (ArgE p) k/\x.notes.length=0)/\AllTo (At x.items ArgI) (j+1))from im_no);clear hI hg3 EN CC hnt a1 a2;go_wp2;go_roundw
          case rel=>exact⟨j+1,false,by omega,rfl,by go_num,hS,HII⟩
          case measure=>simp [intOf];omega
        ·have l1b:((y.notes.length:Int) == 1)=false:=beq_eq_false_iff_ne.2 (by omega)
         have HII:=Lib.hid (show Im false ((AllTo (ArgE p) k/\x.notes.length=0)/\AllTo (At x.items ArgI) (j+1))from im_no);clear hI hg3 EN CC;go_wp2;go_roundw
         case rel=>exact⟨j+1,false,by omega,rfl,by go_num,hS,HII⟩
         case measure=>simp [intOf];omega
     ·have hji : ¬(j:Int)<(x.items.length:Int):=by omega
      have HII:=Lib.hid (show Im B (AllTo (ArgE p) (k+1))from im_to hI.out fun z=>z.1.1.succ (At.mk HG.out ⟨z.1.2,fun i hi=>z.2 i (by omega)⟩));clear hI EI;go_wp2;go_roundw
      case rel=>exact⟨k+1,B,by omega,rfl,by go_num,hS,HII⟩
      case measure=>simp [intOf];omega
  ·have hki : ¬(k:Int)<(p.enums.length:Int):=by omega
   have HI:=Lib.hid (show Im B (AllTo (ArgE p) p.enums.length/\AllTo (ArgP p) 0)from im_to hI.out fun z=>⟨fun i hi=>z i (by omega),AllTo.zero⟩);clear hI EE
   go_upto_region 12 with(fail)
   clear f1 hlt hki hk
   go_loopw [3,7] (fun b i wr => ∃(k:Nat) (B:Bool),k<=p.progs.length/\b=.bool B/\i=.int .i64 k/\Hid (ST w [] [⟨w.heap.size,#[.slice q1 p.progs.length c1,.slice q2 p.enums.length c2],25⟩] wr)/\Hid (Im B (AllTo (ArgE p) p.enums.length/\AllTo (ArgP p) k))) (fun _ i _=>p.progs.length-(intOf i).toNat)
   case atStart=>exact⟨0,B,by omega,rfl,rfl,hS,HI⟩
   case round=>as_aux_lemma=>
    clear hS HI;obtain⟨k,B,hk,rfl,rfl,hS,hI⟩:=hrel;have f0:=hS.out.cell 0 rfl 0;dsimp only at f0;by_cases hlt:k<p.progs.length
    ·have hki:(k:Int)<(p.progs.length:Int):=by omega
     have hk0:(0:Int)<=(k:Int):=by omega
     have hg:p.progs[k]? = some p.progs[k]:=List.getElem?_eq_getElem hlt;have HG:=Lib.hid hg;obtain⟨gb,off,rfl,hbs,vs,hce,hvs⟩:=EG.out k _ hg;have hvs0:=hvs;have CO:=Lib.hid (COP.out p.progs[k] (List.getElem_mem hlt));clear COP;obtain⟨oq,oc,rfl,hso,_⟩:=hvs.form;obtain⟨_,_,he,_,_,hei⟩:=hso;cases he;have EI:=Lib.hid hei;clear hei;clear hvs EG hg;generalize p.progs[k]=x at *;have e0:=hS.out.bel.some (hce 0 _ rfl);rw [Nat.add_zero]at e0;have e1:=hS.out.bel.some (hce 1 _ rfl);have e2:=hS.out.bel.some (hce 2 _ rfl);have EC:=Lib.hid (hce 1 _ rfl);have CJ0:=(fun W (kb:Bel w W)=>qlv x _ W (VProg.stays _ _ _ _ kb hvs0));clear hce
     go_upto_region 14 with(fail)
     go_cut [3] (fun s3 wx => ∃B2:Bool,s3=.bool B2/\Hid (ST w [] [⟨w.heap.size,#[.slice (some ⟨gb,off,none⟩) p.progs.length c1,.slice q2 p.enums.length c2],25⟩] wx)/\Hid (Im B2 ((AllTo (ArgE p) p.enums.length/\AllTo (ArgP p) k)/\qcg x=true)))
     case first=>
      clear EC EI;cases B with
      | false=>
       clear hI HG CJ0;go_wp2;go_meet;exact⟨false,rfl,hS,Lib.hid im_no⟩
      | true=>
       obtain⟨D,hD⟩ : ∃D,D=qcg x:=⟨_,rfl⟩;have HI:=Lib.hid (show Im D ((AllTo (ArgE p) p.enums.length/\AllTo (ArgP p) k)/\qcg x=true)from fun z=>⟨hI.out rfl,hD.symm.trans z⟩);rw [←hD]at CJ0;have CJ:=Lib.hid CJ0;clear hI HG CJ0 hD
       go_wp2_with (go_at_call 81;(with_reducible refine(CJ.out _ hS.out.bel).mono ?_);rintro e w5 ⟨rfl,k5⟩;have k5:Bel _ w5:=k5;have hS5:=Lib.hid (hS.out.belw k5);clear k5)
       go_meet;exact⟨D,rfl,hS5,HI⟩
     case rest=>
      rename_i s3 wx hcut
      obtain⟨B2,rfl,hS2,hI2⟩:=hcut;clear f0 e0 e1 e2 hI hS hbs CJ0;have f0:=hS2.out.cell 0 rfl 0;dsimp only at f0
      go_upto_region 16 with(fail)
      clear f0
      go_loopw [3,8] (fun b i wr => ∃(j:Nat) (B:Bool),j<=x.ops.length/\b=.bool B/\i=.int .i64 j/\Hid (ST w [] [⟨w.heap.size,#[.slice (some ⟨gb,off,none⟩) p.progs.length c1,.slice q2 p.enums.length c2],25⟩] wr)/\Hid (Im B (((AllTo (ArgE p) p.enums.length/\AllTo (ArgP p) k)/\qcg x=true)/\AllTo (At x.ops fun o=>qa4 p o=true) j))) (fun _ i _=>x.ops.length-(intOf i).toNat)
      case atStart=>exact⟨0,B2,by omega,rfl,rfl,hS2,Lib.hid (im_to hI2.out fun z=>⟨z,AllTo.zero⟩)⟩
      case round=>as_aux_lemma=>
       clear hS2 hI2;obtain⟨j,B,hj,rfl,rfl,hS,hI⟩:=hrel;have f0:=hS.out.cell 0 rfl 0;have f1:=hS.out.cell 0 rfl 1;dsimp only at f0 f1;have e1:=hS.out.bel.some EC.out;by_cases hlt2:j<x.ops.length
       ·have hji:(j:Int)<(x.ops.length:Int):=by omega
        have hj0:(0:Int)<=(j:Int):=by omega
        cases B with
        | false=>
         clear EI hI CO
         go_upto_region 18 with(fail)
         obtain⟨wd,hwd⟩ : ∃wd,wd=wr.drew:=⟨_,rfl⟩;have kwd:Bel wr wd:=by rw [hwd];exact(Bel.refl wr).drew
         have HSD:=Lib.hid (hS.out.belw kwd);have HWD:=Lib.hid hwd;clear hwd;have f0d:=HSD.out.cell 0 rfl 0;have f1d:=HSD.out.cell 0 rfl 1;dsimp only at f0d f1d
         refine qa8 12 (by kernel_rfl) (by kernel_rfl) HWD.out ?_
         (simp only [List.take_succ_cons,List.take_zero,List.drop_succ_cons,List.drop_zero]);(repeat (first|((with_reducible refine wpStill_step (fun K hK=>?_));go_simp;(with_reducible refine hK _ ?_);clear hK K)|((with_reducible refine qab ?_ ?_);(with_unfolding_all rfl);(simp only [Act.put,List.setIfInBounds_toArray,List.set_cons_zero,List.set_cons_succ]))));(with_reducible refine wpStill_nil ?_)
         go_wp2;go_roundw
         case rel=>exact⟨j+1,false,by omega,rfl,by go_num,HSD,Lib.hid im_no⟩
         case measure=>simp [intOf];omega
        | true=>
         have hg3:x.ops[j]? = some x.ops[j]:=List.getElem?_eq_getElem hlt2;obtain⟨gb3,off3,hq3,hbs3,vs3,hce3,hvs3⟩:=EI.out j _ hg3;subst hq3;have CO:=fun W kb=>CO.out x.ops[j] (List.getElem_mem hlt2) W kb
         have HI:=Lib.hid (show ∀D:Bool,qa4 p x.ops[j]=D->Im D (((AllTo (ArgE p) p.enums.length/\AllTo (ArgP p) k)/\qcg x=true)/\AllTo (At x.ops fun o=>qa4 p o=true) (j+1))from fun D hD=>qcw hI.out fun z=>At.mk hg3 (hD.trans z));clear EI hI hg3;generalize x.ops[j]=y at *;obtain rfl:vs3=opC y:=hvs3;obtain⟨D,hD⟩ : ∃D,D=qa4 p y:=⟨_,rfl⟩;have HII:=Lib.hid (HI.out D hD.symm);rw [←hD]at CO;have CO:=Lib.hid CO;clear HI hD;have y0:=hS.out.bel.some (hce3 0 _ rfl);have y1:=hS.out.bel.some (hce3 1 _ rfl);have y2:=hS.out.bel.some (hce3 2 _ rfl);have y3:=hS.out.bel.some (hce3 3 _ rfl);have y4:=hS.out.bel.some (hce3 4 _ rfl);have y5:=hS.out.bel.some (hce3 5 _ rfl);have y6:=hS.out.bel.some (hce3 6 _ rfl);have y7:=hS.out.bel.some (hce3 7 _ rfl);rw [Nat.add_zero]at y0;clear hce3
         go_upto_region 18 with(fail)
         obtain⟨wd,hwd⟩ : ∃wd,wd=wr.drew:=⟨_,rfl⟩;have kwd:Bel wr wd:=by rw [hwd];exact(Bel.refl wr).drew
         have HSD:=Lib.hid (hS.out.belw kwd);have HWD:=Lib.hid hwd;clear hwd;have f0d:=HSD.out.cell 0 rfl 0;have f1d:=HSD.out.cell 0 rfl 1;dsimp only at f0d f1d;have e1d:=kwd.some e1;have y0d:=kwd.some y0;have y1d:=kwd.some y1;have y2d:=kwd.some y2;have y3d:=kwd.some y3;have y4d:=kwd.some y4;have y5d:=kwd.some y5;have y6d:=kwd.some y6;have y7d:=kwd.some y7;clear f0 f1 e1 y0 y1 y2 y3 y4 y5 y6 y7;refine qa8 12 (by kernel_rfl) (by kernel_rfl) HWD.out ?_
         (simp only [List.take_succ_cons,List.take_zero,List.drop_succ_cons,List.drop_zero]);(repeat (first|((with_reducible refine wpStill_step (fun K hK=>?_));go_simp;(with_reducible refine hK _ ?_);clear hK K)|((with_reducible refine qab ?_ ?_);(with_unfolding_all rfl);(simp only [Act.put,List.setIfInBounds_toArray,List.set_cons_zero,List.set_cons_succ]))));(with_reducible refine wpStill_nil ?_)
         go_wp2_with (go_at_call 82;(with_reducible refine(CO.out _ HSD.out.bel).mono ?_);rintro e w5 ⟨rfl,k5⟩;have k5:Bel _ w5:=k5;have hS5:=Lib.hid (HSD.out.belw k5);clear k5)
         go_roundw
         case rel=>exact⟨j+1,D,by omega,rfl,by go_num,hS5,HII⟩
         case measure=>simp [intOf];omega
       ·have hji : ¬(j:Int)<(x.ops.length:Int):=by omega
        have HII:=Lib.hid (show Im B (AllTo (ArgE p) p.enums.length/\AllTo (ArgP p) (k+1))from im_to hI.out fun z=>⟨z.1.1.1,z.1.1.2.succ (At.mk HG.out ⟨z.1.2,fun i hi=>z.2 i (by omega)⟩)⟩);clear hI EI;go_wp2;go_roundw
        case rel=>exact⟨k+1,B,by omega,rfl,by go_num,hS,HII⟩
        case measure=>simp [intOf];omega
    ·have hki : ¬(k:Int)<(p.progs.length:Int):=by omega
     have HII:=Lib.hid (show Im B (arguments p=true)from im_to hI.out fun z=>qgt z.1 (fun i hi=>z.2 i (by omega)));clear hI EG;go_wp2;go_ret;exact qlh HII.out id hS.out.bel
end
section
open Go.RowKit Ck Rs
theorem qlw (p:PPlan) (vs:List Value) (w:World) (hv:VPlan w vs p) (hs:SmallP p) (hA : ∀g ∈ p.progs, ∀y ∈ g.ops,(y.kind=10->0<=y.tgt/\y.tgt<(p.progs.length:Int))/\True) :
  Calls Tryz.prog 54 #[.agg vs.toArray] w fun e' w'=>e'=.returned (.bool (finite p))/\Bel w w':=by
 obtain⟨q1,q2,c1,c2,rfl,h1,h2,l1,l2⟩:=hv.form;have hl:=hs.np;have hmk:=run_make_row' (P:=Tryz.prog) 119 4 (.bool false) 1 Tryz.underlying119 qib rfl .i64 .i64 p.progs.length (by omega) (by omega);have hS0:=(ST.start w).addbox #[.slice q1 p.progs.length c1,.slice q2 p.enums.length c2] 25;obtain⟨_,_,he,_,_,hel⟩:=h1;cases he;have EG:=Lib.hid hel;have HA:=Lib.hid hA;have hl2:p.progs.length<=60:=hl;clear hv h2 hel hA hs;obtain⟨T,hT⟩ : ∃T,T=qcd p p.progs.length (List.replicate p.progs.length false,decide (p.progs.length=0)):=⟨_,rfl⟩;have hfin:finite p=T.2:=by rw [hT];rfl
 have V:=Lib.hid (show qcd p (p.progs.length-0) (List.replicate p.progs.length false,decide (p.progs.length=0))=T from hT.symm);rw [hfin]
 go_enter Tryz.func54,Tryz.ntmps54
 go_upto_region 2 with(fail)
 have HS0:=hS0.addbox (madeCells #[.bool false] p.progs.length) 4;simp only [World.size_alloc]at HS0;rw [qdn]at HS0;generalize w.heap.size+1=bf at HS0 ⊢
 (try rw [qdn])
 generalize World.alloc (World.alloc w _) _=wp at HS0 ⊢;have HS:=Lib.hid HS0;clear hS0 HS0 hmk;have f0:=HS.out.cell 1 rfl 0;dsimp only at f0;obtain⟨A0,hA0⟩ : ∃A0,A0=decide (p.progs.length=0):=⟨_,rfl⟩
 have ha0:((p.progs.length:Int) == 0)=A0:=by
  rw [hA0];by_cases h:p.progs.length=0
  ·rw [decide_eq_true h,h];rfl
  ·rw [decide_eq_false h];exact beq_eq_false_iff_ne.2 (by omega)
 rw [←hA0]at V;clear hT hfin hA0
 go_upto_region 4 with(fail)
 clear f0 ha0
 go_loopw [4,20] (fun b i wr => ∃(r:Nat) (K:List Bool) (A:Bool),r<=p.progs.length/\b=.bool A/\i=.int .i64 r/\Hid (K.length=p.progs.length)/\Hid (qcd p (p.progs.length-r) (K,A)=T)/\Hid (ST w [] [⟨bf,(K.map Value.bool).toArray,4⟩,⟨w.heap.size,#[.slice q1 p.progs.length c1,.slice q2 p.enums.length c2],25⟩] wr)) (fun _ i _=>p.progs.length-(intOf i).toNat)
 case atStart=>exact⟨0,_,A0,by omega,rfl,rfl,Lib.hid List.length_replicate,V,HS⟩
 case round=>as_aux_lemma=>
  clear V HS;obtain⟨r,K,A,hr,rfl,rfl,hKl,hgo,hS⟩:=hrel;by_cases hlt:r<p.progs.length
  ·have hri:(r:Int)<(p.progs.length:Int):=by omega
   obtain⟨G,hG⟩ : ∃G,G=qba p.progs 0 (K,true):=⟨_,rfl⟩
   have HG:=Lib.hid (show qcd p (p.progs.length-(r+1)) G=T by
    rw [←hgo.out,show p.progs.length-r=(p.progs.length-(r+1))+1 by omega,hG]
    rfl)
   have V2:=Lib.hid (show qba (p.progs.drop 0) 0 (K,true)=G from hG.symm);clear hG hgo
   go_upto_region 7 with(fail)
   go_loopw [4,5] (fun b i wr => ∃(k:Nat) (K:List Bool) (A:Bool),k<=p.progs.length/\b=.bool A/\i=.int .i64 k/\Hid (K.length=p.progs.length)/\Hid (qba (p.progs.drop k) k (K,A)=G)/\Hid (ST w [] [⟨bf,(K.map Value.bool).toArray,4⟩,⟨w.heap.size,#[.slice q1 p.progs.length c1,.slice q2 p.enums.length c2],25⟩] wr)) (fun _ i _=>p.progs.length-(intOf i).toNat)
   case atStart=>exact⟨0,K,true,by omega,rfl,rfl,hKl,V2,hS⟩
   case round=>as_aux_lemma=>
    clear hS V2 hKl;obtain⟨k,K,A,hk,rfl,rfl,hKl,hgo,hS⟩:=hrel;have f0:=hS.out.cell 1 rfl 0;dsimp only at f0;by_cases hlt2:k<p.progs.length
    ·have hki:(k:Int)<(p.progs.length:Int):=by omega
     have hk0:(0:Int)<=(k:Int):=by omega
     obtain⟨gb,off,rfl,hbs,vs,hce,hvs⟩:=EG.out k _ (List.getElem?_eq_getElem hlt2);have hst:=hgo.out;rw [List.drop_eq_getElem_cons hlt2]at hst;have AM:=Lib.hid (HA.out _ (List.getElem_mem hlt2));clear hgo EG HA HG;generalize p.progs[k]=x at *;obtain⟨oq,oc,rfl,hso,_⟩:=hvs.form;obtain⟨_,_,he,_,_,hei⟩:=hso;cases he;have EI:=Lib.hid hei;have EC:=Lib.hid (hce 1 _ rfl);clear hei hvs hce hbs;obtain⟨O,hO⟩ : ∃O,O=okG K x:=⟨_,rfl⟩;have HST:=Lib.hid (show qba (p.progs.drop (k+1)) (k+1) (K.set k O,A && O)=G by rw [hO];exact hst);have V3:=Lib.hid (show(true && (x.ops.drop 0).all (okAt K))=O by rw [hO];rfl)
     have KSET:=Lib.hid (show ∀W,ST w [] [⟨bf,(K.map Value.bool).toArray,4⟩,⟨w.heap.size,#[.slice (some ⟨gb,off,none⟩) p.progs.length c1,.slice q2 p.enums.length c2],25⟩] W->W.cell? ⟨bf,k,none⟩=some (.bool (K.getD k false))from fun W T=>by
      have:=T.cell 0 rfl k;dsimp only at this;rw [this]
      exact qdv K k (by rw [hKl.out];exact hlt2))
     clear hst hO
     go_upto_region 11 with(fail)
     clear f0
     go_loopw [6,7] (fun b i wr => ∃(j:Nat) (B:Bool),j<=x.ops.length/\b=.bool B/\i=.int .i64 j/\Hid (ST w [] [⟨bf,(K.map Value.bool).toArray,4⟩,⟨w.heap.size,#[.slice (some ⟨gb,off,none⟩) p.progs.length c1,.slice q2 p.enums.length c2],25⟩] wr)/\Hid ((B && (x.ops.drop j).all (okAt K))=O)) (fun _ i _=>x.ops.length-(intOf i).toNat)
     case atStart=>exact⟨0,true,by omega,rfl,rfl,hS,V3⟩
     case round=>as_aux_lemma=>
      clear hS V3;obtain⟨j,B,hj,rfl,rfl,hS,hx⟩:=hrel;have f0:=hS.out.cell 1 rfl 0;dsimp only at f0;have e1:=hS.out.bel.some EC.out;by_cases hlt3:j<x.ops.length
      ·have hji:(j:Int)<(x.ops.length:Int):=by omega
       have hj0:(0:Int)<=(j:Int):=by omega
       have hst:=hx.out;rw [List.drop_eq_getElem_cons hlt3,List.all_cons]at hst;obtain⟨gb3,off3,hq3,hbs3,vs3,hce3,hvs3⟩:=EI.out j _ (List.getElem?_eq_getElem hlt3);subst hq3;have TG:=Lib.hid (AM.out _ (List.getElem_mem hlt3)).1;clear EI hx AM HST KSET;generalize x.ops[j]=y at *;obtain rfl:vs3=opC y:=hvs3;have HX:=Lib.hid (hS.out.addbox #[.int .i64 y.num,.string (S y.name),.string (S y.ali),.int .i64 y.card,.int .i64 y.key,.int .i64 y.kind,.int .i64 y.tgt,.int .i64 y.un] 54);have y0:=hS.out.bel.some (hce3 0 _ rfl);have y1:=hS.out.bel.some (hce3 1 _ rfl);have y2:=hS.out.bel.some (hce3 2 _ rfl);have y3:=hS.out.bel.some (hce3 3 _ rfl);have y4:=hS.out.bel.some (hce3 4 _ rfl);have y5:=hS.out.bel.some (hce3 5 _ rfl);have y6:=hS.out.bel.some (hce3 6 _ rfl);have y7:=hS.out.bel.some (hce3 7 _ rfl);rw [Nat.add_zero]at y0;clear hce3 hbs3
       go_upto_region 14 with(fail)
       generalize wr.heap.size=ob at HX ⊢;generalize World.alloc wr _=wb at HX ⊢;clear y0 y1 y2 y3 y4 y5 y6 y7 f0 e1 hS;have T:=HX;clear HX;have t3:=T.out.cell 0 rfl 3;have t5:=T.out.cell 0 rfl 5;have t6:=T.out.cell 0 rfl 6;dsimp only at t3 t5 t6
       have KC:=Lib.hid (show ∀t,t<p.progs.length->wb.cell? ⟨bf,t,none⟩=some (.bool (K.getD t false))from fun t ht=>by
        have:=T.out.cell 1 rfl t;dsimp only at this;rw [this]
        exact qdv K t (by rw [hKl.out];exact ht))
       cases B with
       | false=>
        rw [Bool.false_and]at hst;have HST:=Lib.hid (show(false && (x.ops.drop (j+1)).all (okAt K))=O from by rw [Bool.false_and];exact hst);clear hst KC TG;go_wp2;go_roundw
        case rel=>exact⟨j+1,false,by omega,rfl,by go_num,Lib.hid T.out.dropbox0,HST⟩
        case measure=>simp [intOf];omega
       | true=>
        rw [Bool.true_and]at hst;by_cases c1:y.card=1
        ·have c1b:(y.card != 1)=false:=by rw [c1];rfl
         by_cases c2:y.kind=10
         ·have c2b:(y.kind != 10)=false:=by rw [c2];rfl
          obtain⟨tg0,tg1⟩:=TG.out c2;obtain⟨t,htt⟩ : ∃t:Nat,y.tgt=(t:Int):=⟨y.tgt.toNat,by omega⟩;have tl:t<p.progs.length:=by omega
          obtain⟨Y,hY⟩ : ∃Y,Y=K.getD t false:=⟨_,rfl⟩;have kc:=KC.out t tl;rw [←hY]at kc;have ti0:(0:Int)<=(t:Int):=by omega
          have ti1:(t:Int)<(p.progs.length:Int):=by omega
          have t6b:=t6;rw [htt]at t6b;have HST:=Lib.hid (show(Y && (x.ops.drop (j+1)).all (okAt K))=O from by rw [←hst,show okAt K y=Y by unfold okAt;rw [decide_eq_false (fun h=>h.elim (fun h=>h c1) (fun h=>h c2)),htt,Int.toNat_natCast, ←hY];rfl]);clear hst KC TG c1 c2 hY t6 tg0 tg1 htt;go_wp2;go_roundw
          case rel=>exact⟨j+1,Y,by omega,rfl,by go_num,Lib.hid T.out.dropbox0,HST⟩
          case measure=>simp [intOf];omega
         ·have c2b:(y.kind != 10)=true:=bne_iff_ne.2 c2
          have HST:=Lib.hid (show(true && (x.ops.drop (j+1)).all (okAt K))=O from by rw [←hst,show okAt K y=true by unfold okAt;rw [decide_eq_true (.inr c2)];rfl]);clear hst KC TG c1;go_wp2;go_roundw
          case rel=>exact⟨j+1,true,by omega,rfl,by go_num,Lib.hid T.out.dropbox0,HST⟩
          case measure=>simp [intOf];omega
        ·have c1b:(y.card != 1)=true:=bne_iff_ne.2 c1
         have HST:=Lib.hid (show(true && (x.ops.drop (j+1)).all (okAt K))=O from by rw [←hst,show okAt K y=true by unfold okAt;rw [decide_eq_true (.inl c1)];rfl]);clear hst KC TG;go_wp2;go_roundw
         case rel=>exact⟨j+1,true,by omega,rfl,by go_num,Lib.hid T.out.dropbox0,HST⟩
         case measure=>simp [intOf];omega
      ·have hji : ¬(j:Int)<(x.ops.length:Int):=by omega
       have HB:=Lib.hid (show B=O by rw [←hx.out,show x.ops.drop j=[]from List.drop_eq_nil_of_le (by omega)];simp);clear hx EI AM;rw [←HB.out]at HST;have y:=KSET.out _ hS.out;have yf:=hS.out.frz 0 rfl k;dsimp only at yf;have k1:(k:Int)<(p.progs.length:Int):=hki;clear HB;cases A with
       | false=>
        go_wp2;go_roundw
        case rel=>exact⟨k+1,K.set k B,false,by omega,rfl,by go_num,Lib.hid (by rw [List.length_set];exact hKl.out),HST,Lib.hid (by have h:=hS.out.setbox 0 rfl k (.bool B);rw [qf8]at h;exact h)⟩
        case measure=>simp [intOf];omega
       | true=>
        go_wp2;go_roundw
        case rel=>exact⟨k+1,K.set k B,B,by omega,rfl,by go_num,Lib.hid (by rw [List.length_set];exact hKl.out),HST,Lib.hid (by have h:=hS.out.setbox 0 rfl k (.bool B);rw [qf8]at h;exact h)⟩
        case measure=>simp [intOf];omega
    ·have hki : ¬(k:Int)<(p.progs.length:Int):=by omega
     have HGG:=Lib.hid (show(K,A)=G by rw [←hgo.out,show p.progs.drop k=[]from List.drop_eq_nil_of_le (by omega)];rfl);clear hgo EG HA;have HR:=Lib.hid (show qcd p (p.progs.length-(r+1)) (K,A)=T by rw [HGG.out];exact HG.out);clear HG HGG;go_wp2;go_roundw
     case rel=>exact⟨r+1,K,A,by omega,rfl,by go_num,hKl,HR,hS⟩
     case measure=>simp [intOf];omega
  ·have hri : ¬(r:Int)<(p.progs.length:Int):=by omega
   have HR:=Lib.hid (show A=T.2 by
    have h0:=hgo.out;rw [show p.progs.length-r=0 by omega]at h0;rw [←h0]
    rfl)
   clear hgo EG HA;go_wp2;go_ret;exact⟨by rw [←HR.out];rfl,hS.out.bel⟩
def CkOut (p:PPlan) (w:World) (e:Ending) (w':World):Prop := ∃n:Int,e=.returned (.int .i64 n)/\(n=0->Valid p)/\Bel w w'
theorem ck_no {p:PPlan} {w w':World} {n:Int} (hn:n ≠ 0) (k:Bel w w'):CkOut p w (.returned (.int .i64 n)) w':=⟨n,rfl,fun h=>absurd h hn,k⟩
theorem qlb {p:PPlan} (h:arguments p=true) : ∀g ∈ p.progs, ∀o ∈ g.ops,(o.kind=10->0<=o.tgt/\o.tgt<(p.progs.length:Int))/\True:=fun g hg o ho=>by
 refine⟨fun hk=>?_,trivial⟩;unfold arguments at h;rw [Bool.and_eq_true,List.all_eq_true,List.all_eq_true]at h;have h1:=h.2 g hg;unfold argG at h1;rw [Bool.and_eq_true,List.all_eq_true]at h1;have h2:=h1.2 o ho;unfold qa4 at h2;simp only [Bool.and_eq_true,decide_eq_true_eq]at h2;have ht:=h2.2.2.1;unfold qai at ht;rw [if_pos hk]at ht;have:=of_decide_eq_true ht;exact⟨this.1,this.2.1⟩
theorem wk_of {P:Prop} [Decidable P] {w:World} {b:Bool} {e:Ending} {w':World} (h:e=.returned (.bool b)/\Bel w w') (f:b=true->P):Wk P w e w':=⟨b,h.1,f,h.2⟩
theorem qju (p:PPlan) (vs:List Value) (w:World) (hv:VPlan w vs p) (hs:SmallP p) :
  Calls Tryz.prog 29 #[.agg vs.toArray] w (CkOut p w):=by
 have hv0:=hv;obtain⟨q1,q2,c1,c2,rfl,h1,h2,l1,l2⟩:=hv.form;have hS0:=(ST.start w).addbox #[.slice q1 p.progs.length c1,.slice q2 p.enums.length c2] 25;have H0:=Lib.hid hS0;have C0:=Lib.hid (fun WW (T:ST w [] [⟨w.heap.size,#[.slice q1 p.progs.length c1,.slice q2 p.enums.length c2],25⟩] WW)=>show Calls Tryz.prog 48 #[.agg #[.slice q1 p.progs.length c1,.slice q2 p.enums.length c2]] WW (Wk (qe4 p=true) WW)from(qlu p _ WW (VPlan.stays _ _ _ _ T.bel hv0) hs).mono fun e w' h=>wk_of h id);have C1:=Lib.hid (fun WW (T:ST w [] [⟨w.heap.size,#[.slice q1 p.progs.length c1,.slice q2 p.enums.length c2],25⟩] WW)=>show Calls Tryz.prog 49 #[.agg #[.slice q1 p.progs.length c1,.slice q2 p.enums.length c2]] WW (Wk (names p=true) WW)from(rf_names p _ WW (VPlan.stays _ _ _ _ T.bel hv0) hs).mono fun e w' h=>wk_of h id);have C2:=Lib.hid (fun WW (T:ST w [] [⟨w.heap.size,#[.slice q1 p.progs.length c1,.slice q2 p.enums.length c2],25⟩] WW)=>show Calls Tryz.prog 50 #[.agg #[.slice q1 p.progs.length c1,.slice q2 p.enums.length c2]] WW (Wk (qcc p=true) WW)from qjq p _ WW (VPlan.stays _ _ _ _ T.bel hv0));have C3:=Lib.hid (fun WW (T:ST w [] [⟨w.heap.size,#[.slice q1 p.progs.length c1,.slice q2 p.enums.length c2],25⟩] WW)=>show Calls Tryz.prog 51 #[.agg #[.slice q1 p.progs.length c1,.slice q2 p.enums.length c2]] WW (Wk (qek p=true) WW)from qio p _ WW (VPlan.stays _ _ _ _ T.bel hv0));have C4:=Lib.hid (fun WW (T:ST w [] [⟨w.heap.size,#[.slice q1 p.progs.length c1,.slice q2 p.enums.length c2],25⟩] WW)=>show Calls Tryz.prog 52 #[.agg #[.slice q1 p.progs.length c1,.slice q2 p.enums.length c2]] WW (Wk (qen p=true) WW)from qlt p _ WW (VPlan.stays _ _ _ _ T.bel hv0));have C5:=Lib.hid (fun WW (T:ST w [] [⟨w.heap.size,#[.slice q1 p.progs.length c1,.slice q2 p.enums.length c2],25⟩] WW)=>show Calls Tryz.prog 53 #[.agg #[.slice q1 p.progs.length c1,.slice q2 p.enums.length c2]] WW (Wk (arguments p=true) WW)from qgc p _ WW (VPlan.stays _ _ _ _ T.bel hv0) hs);have CF:=Lib.hid (fun WW (T:ST w [] [⟨w.heap.size,#[.slice q1 p.progs.length c1,.slice q2 p.enums.length c2],25⟩] WW) (hA:arguments p=true)=>show Calls Tryz.prog 54 #[.agg #[.slice q1 p.progs.length c1,.slice q2 p.enums.length c2]] WW (Wk (finite p=true) WW)from(qlw p _ WW (VPlan.stays _ _ _ _ T.bel hv0) hs (qlb hA)).mono fun e w' h=>wk_of h id);have f00:=H0.out.cell 0 rfl 0;have f01:=H0.out.cell 0 rfl 1;dsimp only at f00 f01;clear hv hv0 h1 h2 hS0 hs
 go_enter Tryz.func29,Tryz.ntmps29
 go_upto_region 2 with(go_at_call 48;(with_reducible refine(C0.out _ H0.out).mono ?_);rintro e w1 ⟨B0,rfl,hB0,k1⟩;have k1:Bel _ w1:=k1;have H1:=Lib.hid (H0.out.belw k1);have hB0:=Lib.hid hB0;have f10:=H1.out.cell 0 rfl 0;have f11:=H1.out.cell 0 rfl 1;dsimp only at f10 f11;clear k1)
 focus
  go_wp2;go_ret
  exact ck_no (by decide) H1.out.bel
 have v0:=Lib.hid (hB0.out (by simpa using (show(!B0)=false by assumption)));clear hB0 C0 H0 f00 f01
 go_upto_region 4 with(go_at_call 49;(with_reducible refine(C1.out _ H1.out).mono ?_);rintro e w2 ⟨B1,rfl,hB1,k2⟩;have k2:Bel _ w2:=k2;have H2:=Lib.hid (H1.out.belw k2);have hB1:=Lib.hid hB1;have f20:=H2.out.cell 0 rfl 0;have f21:=H2.out.cell 0 rfl 1;dsimp only at f20 f21;clear k2)
 focus
  go_wp2;go_ret
  exact ck_no (by decide) H2.out.bel
 have v1:=Lib.hid (hB1.out (by simpa using (show(!B1)=false by assumption)));clear hB1 C1 H1 f10 f11
 go_upto_region 6 with(go_at_call 50;(with_reducible refine(C2.out _ H2.out).mono ?_);rintro e w3 ⟨B2,rfl,hB2,k3⟩;have k3:Bel _ w3:=k3;have H3:=Lib.hid (H2.out.belw k3);have hB2:=Lib.hid hB2;have f30:=H3.out.cell 0 rfl 0;have f31:=H3.out.cell 0 rfl 1;dsimp only at f30 f31;clear k3)
 focus
  go_wp2;go_ret
  exact ck_no (by decide) H3.out.bel
 have v2:=Lib.hid (hB2.out (by simpa using (show(!B2)=false by assumption)));clear hB2 C2 H2 f20 f21
 go_upto_region 8 with(go_at_call 51;(with_reducible refine(C3.out _ H3.out).mono ?_);rintro e w4 ⟨B3,rfl,hB3,k4⟩;have k4:Bel _ w4:=k4;have H4:=Lib.hid (H3.out.belw k4);have hB3:=Lib.hid hB3;have f40:=H4.out.cell 0 rfl 0;have f41:=H4.out.cell 0 rfl 1;dsimp only at f40 f41;clear k4)
 focus
  go_wp2;go_ret
  exact ck_no (by decide) H4.out.bel
 have v3:=Lib.hid (hB3.out (by simpa using (show(!B3)=false by assumption)));clear hB3 C3 H3 f30 f31
 go_upto_region 10 with(go_at_call 52;(with_reducible refine(C4.out _ H4.out).mono ?_);rintro e w5 ⟨B4,rfl,hB4,k5⟩;have k5:Bel _ w5:=k5;have H5:=Lib.hid (H4.out.belw k5);have hB4:=Lib.hid hB4;have f50:=H5.out.cell 0 rfl 0;have f51:=H5.out.cell 0 rfl 1;dsimp only at f50 f51;clear k5)
 focus
  go_wp2;go_ret
  exact ck_no (by decide) H5.out.bel
 have v4:=Lib.hid (hB4.out (by simpa using (show(!B4)=false by assumption)));clear hB4 C4 H4 f40 f41
 go_upto_region 12 with(go_at_call 53;(with_reducible refine(C5.out _ H5.out).mono ?_);rintro e w6 ⟨B5,rfl,hB5,k6⟩;have k6:Bel _ w6:=k6;have H6:=Lib.hid (H5.out.belw k6);have hB5:=Lib.hid hB5;have f60:=H6.out.cell 0 rfl 0;have f61:=H6.out.cell 0 rfl 1;dsimp only at f60 f61;clear k6)
 focus
  go_wp2;go_ret
  exact ck_no (by decide) H6.out.bel
 have v5:=Lib.hid (hB5.out (by simpa using (show(!B5)=false by assumption)));clear hB5 C5 H5 f50 f51;have C6:=Lib.hid (fun WW (T:ST w [] [⟨w.heap.size,#[.slice q1 p.progs.length c1,.slice q2 p.enums.length c2],25⟩] WW)=>CF.out WW T v5.out);clear CF
 go_upto_region 14 with(go_at_call 54;(with_reducible refine(C6.out _ H6.out).mono ?_);rintro e w7 ⟨B6,rfl,hB6,k7⟩;have k7:Bel _ w7:=k7;have H7:=Lib.hid (H6.out.belw k7);have hB6:=Lib.hid hB6;have f70:=H7.out.cell 0 rfl 0;have f71:=H7.out.cell 0 rfl 1;dsimp only at f70 f71;clear k7)
 focus
  go_wp2;go_ret
  exact ck_no (by decide) H7.out.bel
 have v6:=Lib.hid (hB6.out (by simpa using (show(!B6)=false by assumption)));clear hB6 C6 H6 f60 f61;go_wp2;go_ret;exact⟨0,rfl,fun _=>⟨v0.out,v1.out,v2.out,v3.out,v4.out,v5.out,v6.out⟩,H7.out.bel⟩
end
end Go.Proofs.YtgpjhibdongmbaaGreatDoor
