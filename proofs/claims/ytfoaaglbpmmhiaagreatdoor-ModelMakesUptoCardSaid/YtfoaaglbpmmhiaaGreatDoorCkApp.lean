import Derived.Test.YtfoaaglbpmmhiaaGreatDoorCkEnumP
import Derived.Test.YtfoaaglbpmmhiaaGreatDoorKitC
import Derived.Test.YtfoaaglbpmmhiaaGreatDoorKitD
import Derived.Deep.DeepCutAuto
import Derived.Test.YtfoaaglbpmmhiaaGreatDoorKitA
import Derived.Deep.AppendLies
import Derived.Deep.Upon
set_option maxRecDepth 100000
set_option maxHeartbeats 4000000
set_option linter.unusedVariables false
set_option linter.unusedSimpArgs false
namespace Go.Proofs.YtfoaaglbpmmhiaaGreatDoor
section
open Go.RowKit Ck
theorem qqc (s:PSchema) (v:PSvc) (i:Nat) (m:PMeth):(methP s v i m).length<=5:=by
 unfold methP noted;exact qb2 (qb2 (qb2 (qb2 (un_len _ _ _ _) (un_len _ _ _ _)) (un_len _ _ _ _)) (un_len _ _ _ _)) (un_len _ _ _ _)
theorem VMeth.len (w:World) (vs:List Value) (x:PMeth) (h:VMeth w vs x):vs.length=5:=by
 obtain⟨_,rfl,_⟩:=h;rfl
theorem qou (sq1 sq2 sq3:Option Addr) (sm1 sm2 sm3 sc1 sc2 sc3:Nat) (s:PSchema) (vn:Str) (vq1 vq2:Option Addr) (vm1 vm2 vc1 vc2:Nat) (v:PSvc) (w:World) (hs:VSchema w [.slice sq1 sm1 sc1,.slice sq2 sm2 sc2,.slice sq3 sm3 sc3] s) (hv0:VSvc w [.string (S vn),.slice vq1 vm1 vc1,.slice vq2 vm2 vc2] v) (hM:ML w) (hnm:v.name.length<=100000000) (hl1:v.meths.length<=2000000) (hil : ∀f ∈ v.meths,f.name.length<=1000000000/\∀n ∈ f.notes,n.name.length<=1000000000) (hnl : ∀n ∈ v.notes,n.name.length<=1000000000) :
  Calls Tryz.prog 86 #[.agg #[.slice sq1 sm1 sc1,.slice sq2 sm2 sc2,.slice sq3 sm3 sc3],.agg #[.string (S vn),.slice vq1 vm1 vc1,.slice vq2 vm2 vc2]] w (qda w (qax s v)):=by
 obtain⟨_,_,hcv,hv1,hv2⟩:=hv0;cases hcv;obtain rfl:=qdm hv1;obtain rfl:=qdm hv2;have hUN:=fun W (k:Bel w W)=>qd8 v.name W hnm (hM.below k)
 have V:qax s v=un v.name (-1) (qad v.name) 8 ++ un v.name (-1) (decide (v.meths.length<=64)) 3 ++ qc2 s v 0 v.meths ++ noted v.name (-1) v.notes 5:=rfl;generalize qad v.name=O1 at hUN V;generalize hO2:decide (v.meths.length<=64)=O2 at V;generalize hTF:qc2 s v 0 v.meths=TF at V;have HTF:=h_ hTF;clear hTF;obtain⟨BLK,hBLK⟩ : ∃BLK:List (Nat × Array Value × TypeId),BLK=[(w.heap.size,#[.slice sq1 sm1 sc1,.slice sq2 sm2 sc2,.slice sq3 sm3 sc3],26),(w.heap.size+1,#[.string (S v.name),.slice vq1 v.meths.length vc1,.slice vq2 v.notes.length vc2],68)]:=⟨_,rfl⟩;have b1:(w.heap.size,#[.slice sq1 sm1 sc1,.slice sq2 sm2 sc2,.slice sq3 sm3 sc3],26) ∈ BLK:=by rw [hBLK];exact List.mem_cons_self
 have b2:(w.heap.size+1,#[.string (S v.name),.slice vq1 v.meths.length vc1,.slice vq2 v.notes.length vc2],68) ∈ BLK:=by rw [hBLK];exact List.mem_cons_of_mem _ List.mem_cons_self
 have hst:=FS.start w ((w.alloc (.cells #[.slice sq1 sm1 sc1,.slice sq2 sm2 sc2,.slice sq3 sm3 sc3] 26)).alloc (.cells #[.string (S v.name),.slice vq1 v.meths.length vc1,.slice vq2 v.notes.length vc2] 68)) v.name (-1) BLK (((Bel.refl w).alloc _).alloc _) (fun x hx=>by
  rw [hBLK]at hx;simp only [List.mem_cons,List.not_mem_nil,or_false]at hx;rcases hx with rfl|rfl
  ·exact⟨(heap_alloc_old _ _ (by simp)).trans (heap_alloc_new _ _),by show 26 ≠ 164;decide⟩
  ·exact⟨qb0 _ _ _ (by simp),by show 68 ≠ 164;decide⟩)
 simp only [World.size_alloc]at hst;obtain⟨qe,ce,hqe,hle,hcape,hele⟩:=hv1;cases hqe;have EL:=h_ hele;have UN:=h_ hUN;have HV:=h_ V;have HO2:=h_ hO2;have HS:=h_ hs;have HV2:=h_ hv2;have HIL:=h_ hil;have HNL:=h_ hnl;clear hUN V hO2 hs hv2 hil hnl hBLK hele
 go_enter Tryz.func86,Tryz.ntmps86
 go_upto_region 2 with(fail)
 go_cut [] (fun wx=>FS w (w.heap.size+1+1) v.name (-1) w BLK 1 (un v.name (-1) O1 8) wx)
 case first=>
  have hFS:=hst;have kk1:=hFS.cell b1;have kk2:=hFS.cell b2
  go_wp2_with (first
   | (go_at_call 118;(with_reducible refine(UN.out _ (FS.bel0 hFS)).mono ?_);rintro e w1 ⟨rfl,g1⟩;have hF1:=FS.bel hFS g1;have kk1:=hF1.cell b1;have kk2:=hF1.cell b2;clear g1)
   | (go_at_call 80;(with_reducible refine(hF1.unless (by omega) _ _).mono ?_);rintro e w9 ⟨rfl,h9⟩;have hend:=h_ h9;clear h9))
  go_meet;exact hend.out
 case rest=>
  have hFS:=hcut;clear hcut hst
  go_upto_region 3 with(fail)
  go_cut [] (fun wx=>FS w (w.heap.size+1+1) v.name (-1) w BLK 2 (un v.name (-1) O1 8 ++ un v.name (-1) O2 3) wx)
  case first=>
   have kk1:=hFS.cell b1;have kk2:=hFS.cell b2
   go_wp2_with (go_at_call 80;(with_reducible refine(hFS.unless (by omega) _ _).mono ?_);rintro e w9 ⟨rfl,h9⟩;have hend:=h_ h9;clear h9)
   all_goals go_meet
   all_goals exact hend.out.okc (by rw [←HO2.out,Bool.eq_iff_iff];simp;try omega)
  case rest=>
   clear hFS;have hFS:=hcut;clear hcut;have kk1:=hFS.cell b1;have kk2:=hFS.cell b2;go_wp2
   go_loopw [30] (fun i wr => ∃(k:Nat) (done:List PProb) (nm:Int),k<=v.meths.length/\i=.int .i64 k/\FS w (w.heap.size+1+1) v.name nm w BLK (2+5*k) ((un v.name (-1) O1 8 ++ un v.name (-1) O2 3) ++ done) wr/\Hid (done ++ qc2 s v k (v.meths.drop k)=TF)) (fun i _=>v.meths.length-(intOf i).toNat)
   case atStart=>exact⟨0,[], -1,by omega,rfl,by rw [List.append_nil];exact hFS,h_ HTF.out⟩
   case round=>
    clear kk1 kk2 hFS;obtain⟨k,done,nm,hk,rfl,hFS,hgo⟩:=hrel;by_cases hlt:k<v.meths.length
    ·have hki:(k:Int)<(v.meths.length:Int):=by omega
     have hg:=List.getElem?_eq_getElem hlt;obtain⟨b,off,rfl,hbs,vs,hce,hvs⟩:=EL.out k _ hg
     have hprev : ∀j,k=j+1->∃g:PMeth,v.meths[k-1]? = some g/\w.cell? ⟨b,off+j*5,none⟩=some (.string (S g.name)):=fun j hj=>by
      have hgj:=List.getElem?_eq_getElem (show j<v.meths.length by omega);obtain⟨b',off',he',_,vs2,hce2,hvs2⟩:=EL.out j _ hgj;cases he';obtain⟨_,rfl,_⟩:=hvs2;have hij:k-1=j:=by omega
      exact⟨_,by rw [hij];exact hgj,hce2 0 _ rfl⟩
     have hdr:v.meths.drop k=v.meths[k] :: v.meths.drop (k+1):=List.drop_eq_getElem_cons hlt;have hgo2:=h_ (show(done ++ methP s v k v.meths[k]) ++ qc2 s v (k+1) (v.meths.drop (k+1))=TF by rw [←hgo.out,hdr,List.append_assoc];rfl);have hik:=HIL.out _ (List.getElem_mem hlt);obtain⟨nv,hvv,hnt⟩:=hvs;obtain⟨iq,ic,rfl,_⟩:=qa5 hnt;subst hvv;have e0:=hFS.bel0.some (hce 0 _ rfl);rw [Nat.add_zero]at e0;have e1:=hFS.bel0.some (hce 1 _ rfl);have e2:=hFS.bel0.some (hce 2 _ rfl);have e3:=hFS.bel0.some (hce 3 _ rfl);have e4:=hFS.bel0.some (hce 4 _ rfl);clear hce hgo hdr hg;generalize v.meths[k]=it at *;have hUP:=fun W=>qb1 it.name W (Nat.le_trans hik.1 (by decide))
     have hMI:=fun W (kk:Bel w W)=>qcc (.slice sq1 sm1 sc1) (.slice sq2 sm2 sc2) (.slice sq3 sm3 sc3) s it.inn W (HS.out.stays_bel kk)
     have hMO:=fun W (kk:Bel w W)=>qcc (.slice sq1 sm1 sc1) (.slice sq2 sm2 sc2) (.slice sq3 sm3 sc3) s it.out W (HS.out.stays_bel kk)
     have VI:methP s v k it=un v.name (k:Int) (qa7 it.name) 8 ++ un v.name (k:Int) (decide (k=0) || (match v.meths[k-1]? with|some g=>ltS g.name it.name|none=>false)) 11 ++ un v.name (k:Int) ((msgOf s it.inn).isSome && (msgOf s it.out).isSome) 12 ++ un v.name (k:Int) (decide (1<=it.shape/\it.shape<=4)) 1 ++ noted v.name (k:Int) it.notes 6:=rfl;generalize methP s v k it=IP at hgo2 VI;generalize qa7 it.name=I1 at hUP VI;generalize hI2:(decide (k=0) || (match v.meths[k-1]? with|some g=>ltS g.name it.name|none=>false))=I2 at VI;generalize hQ3:(msgOf s it.inn).isSome=Q3 at VI;generalize hQ3b:(msgOf s it.out).isSome=Q3b at VI;generalize hI4:decide (1<=it.shape/\it.shape<=4)=I4 at VI;have HIP:=h_ VI.symm;have HI2:=h_ hI2;have HI4:=h_ hI4;have HQ3:=h_ hQ3;have HQ3b:=h_ hQ3b;have UP:=h_ hUP;have CIN:=h_ hMI;have COUT:=h_ hMO;have HPV:=h_ hprev;have HNT:=h_ hnt;have HB3:=h_ hik.2;have hadd:=FS.addb hFS #[.string (S it.name),.string (S it.inn),.string (S it.out),.int .i64 it.shape,.slice iq it.notes.length ic] 71 (by decide);have b3:(wr.heap.size,#[.string (S it.name),.string (S it.inn),.string (S it.out),.int .i64 it.shape,.slice iq it.notes.length ic],71) ∈ ((wr.heap.size,#[.string (S it.name),.string (S it.inn),.string (S it.out),.int .i64 it.shape,.slice iq it.notes.length ic],71) :: BLK):=List.mem_cons_self;have b1':=b1;have b2':=b2;have b1:(w.heap.size,#[.slice sq1 sm1 sc1,.slice sq2 sm2 sc2,.slice sq3 sm3 sc3],26) ∈ ((wr.heap.size,#[.string (S it.name),.string (S it.inn),.string (S it.out),.int .i64 it.shape,.slice iq it.notes.length ic],71) :: BLK):=List.mem_cons_of_mem _ b1';have b2:(w.heap.size+1,#[.string (S v.name),.slice (some ⟨b,off,none⟩) v.meths.length vc1,.slice vq2 v.notes.length vc2],68) ∈ ((wr.heap.size,#[.string (S it.name),.string (S it.inn),.string (S it.out),.int .i64 it.shape,.slice iq it.notes.length ic],71) :: BLK):=List.mem_cons_of_mem _ b2';obtain⟨fc,ffz⟩:=hadd.fdcell;have HADD:=h_ hadd;clear VI hI2 hI4 hQ3 hQ3b hUP hMI hMO hprev hnt hik hadd hFS
     go_upto_region 7 with(fail)
     go_cut [] (fun wx=>FS w (w.heap.size+1+1) v.name (k:Int) w ((wr.heap.size,#[.string (S it.name),.string (S it.inn),.string (S it.out),.int .i64 it.shape,.slice iq it.notes.length ic],71) :: BLK) (2+5*k) ((un v.name (-1) O1 8 ++ un v.name (-1) O2 3) ++ done) wx)
     case first=>
      go_wp2;go_meet
      exact HADD.out.setnum
     case rest=>
      have hFS:=hcut;clear hcut
      go_upto_region 8 with(fail)
      go_cut [] (fun wx=>FS w (w.heap.size+1+1) v.name (k:Int) w ((wr.heap.size,#[.string (S it.name),.string (S it.inn),.string (S it.out),.int .i64 it.shape,.slice iq it.notes.length ic],71) :: BLK) ((2+5*k)+1) (((un v.name (-1) O1 8 ++ un v.name (-1) O2 3) ++ done) ++ un v.name (k:Int) I1 8) wx)
      case first=>
       have kk1:=hFS.cell b1;have kk2:=hFS.cell b2;have kk3:=hFS.cell b3
       go_wp2_with (first
        | (go_at_call 124;(with_reducible refine(UP.out _).mono ?_);rintro e w1 ⟨rfl,g1⟩;have hF1:=FS.bel hFS g1;have kk1:=hF1.cell b1;have kk2:=hF1.cell b2;have kk3:=hF1.cell b3;clear g1)
        | (go_at_call 80;(with_reducible refine(hF1.unless (by omega) _ _).mono ?_);rintro e w9 ⟨rfl,h9⟩;have hend:=h_ h9;clear h9))
       go_meet;exact hend.out
      case rest=>
       have hFS:=hcut;clear hcut
       go_upto_region 9 with(fail)
       go_cut [] (fun wx=>FS w (w.heap.size+1+1) v.name (k:Int) w ((wr.heap.size,#[.string (S it.name),.string (S it.inn),.string (S it.out),.int .i64 it.shape,.slice iq it.notes.length ic],71) :: BLK) ((2+5*k)+2) ((((un v.name (-1) O1 8 ++ un v.name (-1) O2 3) ++ done) ++ un v.name (k:Int) I1 8) ++ un v.name (k:Int) I2 11) wx)
       case first=>
        obtain⟨wd,hwd⟩ : ∃wd,wd=wc.drew:=⟨_,rfl⟩;have kd:Bel wc wd:=by rw [hwd];exact(Bel.refl _).drew
        have HWD:=h_ hwd;have hFd:=hFS.bel kd;have kk1:=hFd.cell b1;have kk2:=hFd.cell b2;have kk3:=hFd.cell b3;clear hwd;by_cases hi0:k=0
        ·have hO:I2=true:=by rw [←HI2.out,decide_eq_true hi0,Bool.true_or]
         have HO:=h_ hO;have hk0:((k:Int) == 0)=true:=by rw [hi0];rfl
         clear hO hi0;refine qae 15 (by kernel_rfl) (by kernel_rfl) HWD.out ?_
         (simp only [t_1,t_2,t_3,t_4]);(repeat (first|((with_reducible refine wpStill_step (fun K hK=>?_));go_simp;(with_reducible refine hK _ ?_);clear hK K)|((with_reducible refine qaa ?_ ?_);(with_unfolding_all rfl))));(with_reducible refine wpStill_nil ?_)
         go_wp2_with (go_at_call 80;(with_reducible refine(hFd.unless (by omega) _ _).mono ?_);rintro e w9 ⟨rfl,h9⟩;have hend:=h_ h9;clear h9)
         go_meet;exact hend.out.okc HO.out.symm
        ·obtain⟨j,hij⟩ : ∃j,k=j+1:=⟨k-1,by omega⟩
         obtain⟨g,hg1,hg2⟩:=HPV.out j hij;have hO:=h_ (show(!Op.bytesLess (S it.name).toList (S g.name).toList && !((S it.name).toList == (S g.name).toList))=I2 by rw [gtr_S, ←HI2.out,hg1,decide_eq_false hi0,Bool.false_or]);have d1:=hFd.2.1.some hg2;have j0:(0:Int)<=(j:Int):=by omega
         have j1:(j:Int)<(v.meths.length:Int):=by omega
         have jn:((k:Int) == 0)=false:=by rw [beq_eq_false_iff_ne];omega
         have jw:IntKind.i64.wrap ((k:Int)-1)=(j:Int):=by rw [show(k:Int)-1=(j:Int)by omega];exact wrap_small _ (by omega) (by omega)
         have jw2:IntKind.i64.wrap (j:Int)=(j:Int):=wrap_small _ (by omega) (by omega);have jw3:(k:Int)-1=(j:Int):=by omega
         clear hij hg1 hg2 hi0;refine qae 15 (by kernel_rfl) (by kernel_rfl) HWD.out ?_
         (simp only [t_1,t_2,t_3,t_4]);(repeat (first|((with_reducible refine wpStill_step (fun K hK=>?_));go_simp;(with_reducible refine hK _ ?_);clear hK K)|((with_reducible refine qaa ?_ ?_);(with_unfolding_all rfl))));(with_reducible refine wpStill_nil ?_)
         go_wp2_with (go_at_call 80;(with_reducible refine(hFd.unless (by omega) _ _).mono ?_);rintro e w9 ⟨rfl,h9⟩;have hend:=h_ h9;clear h9)
         go_meet;exact hend.out.okc hO.out
       case rest=>
        have hFS:=hcut;clear hcut
        go_upto_region 10 with(fail)
        go_cut [9] (fun s9 wx=>s9=.bool Q3/\FS w (w.heap.size+1+1) v.name (k:Int) w ((wr.heap.size,#[.string (S it.name),.string (S it.inn),.string (S it.out),.int .i64 it.shape,.slice iq it.notes.length ic],71) :: BLK) ((2+5*k)+2) ((((un v.name (-1) O1 8 ++ un v.name (-1) O2 3) ++ done) ++ un v.name (k:Int) I1 8) ++ un v.name (k:Int) I2 11) wx)
        case first=>
         have kk1:=hFS.cell b1;have kk2:=hFS.cell b2;have kk3:=hFS.cell b3
         go_wp2_with (go_at_call 115;(with_reducible refine(CIN.out _ (FS.bel0 hFS)).mono ?_);rintro e w1 ⟨ja,jb,jc,jd,je,jf,jg,jh,ji,jj,jk,jl,jm,rfl,_,g1⟩;have hF1:=FS.bel hFS g1;clear g1)
         go_meet;exact⟨by rw [HQ3.out],hF1.bel ((Bel.refl _).alloc _)⟩
        case rest=>
         have hFS:=hcut;clear hcut;obtain⟨rfl,hFS⟩:=hFS
         go_upto_region 11 with(fail)
         go_cut [11] (fun s11 wx=>s11=.bool Q3b/\FS w (w.heap.size+1+1) v.name (k:Int) w ((wr.heap.size,#[.string (S it.name),.string (S it.inn),.string (S it.out),.int .i64 it.shape,.slice iq it.notes.length ic],71) :: BLK) ((2+5*k)+2) ((((un v.name (-1) O1 8 ++ un v.name (-1) O2 3) ++ done) ++ un v.name (k:Int) I1 8) ++ un v.name (k:Int) I2 11) wx)
         case first=>
          have kk1:=hFS.cell b1;have kk2:=hFS.cell b2;have kk3:=hFS.cell b3
          go_wp2_with (go_at_call 115;(with_reducible refine(COUT.out _ (FS.bel0 hFS)).mono ?_);rintro e w1 ⟨ja,jb,jc,jd,je,jf,jg,jh,ji,jj,jk,jl,jm,rfl,_,g1⟩;have hF1:=FS.bel hFS g1;clear g1)
          go_meet;exact⟨by rw [HQ3b.out],hF1.bel ((Bel.refl _).alloc _)⟩
         case rest=>
          have hFS:=hcut;clear hcut;obtain⟨rfl,hFS⟩:=hFS
          go_upto_region 12 with(fail)
          go_cut [] (fun wx=>FS w (w.heap.size+1+1) v.name (k:Int) w ((wr.heap.size,#[.string (S it.name),.string (S it.inn),.string (S it.out),.int .i64 it.shape,.slice iq it.notes.length ic],71) :: BLK) ((2+5*k)+3) (((((un v.name (-1) O1 8 ++ un v.name (-1) O2 3) ++ done) ++ un v.name (k:Int) I1 8) ++ un v.name (k:Int) I2 11) ++ un v.name (k:Int) (Q3 && Q3b) 12) wx)
          case first=>
           have kk1:=hFS.cell b1;have kk2:=hFS.cell b2;have kk3:=hFS.cell b3;cases Q3
           all_goals
            go_wp2_with (go_at_call 80;(with_reducible refine(hFS.unless (by omega) _ _).mono ?_);rintro e w9 ⟨rfl,h9⟩;have hend:=h_ h9;clear h9)
            all_goals go_meet
            all_goals exact hend.out.okc (by first|rfl|simp)
          case rest=>
           have hFS:=hcut;clear hcut
           go_upto_region 13 with(fail)
           go_cut [] (fun wx=>FS w (w.heap.size+1+1) v.name (k:Int) w ((wr.heap.size,#[.string (S it.name),.string (S it.inn),.string (S it.out),.int .i64 it.shape,.slice iq it.notes.length ic],71) :: BLK) ((2+5*k)+4) ((((((un v.name (-1) O1 8 ++ un v.name (-1) O2 3) ++ done) ++ un v.name (k:Int) I1 8) ++ un v.name (k:Int) I2 11) ++ un v.name (k:Int) (Q3 && Q3b) 12) ++ un v.name (k:Int) I4 1) wx)
           case first=>
            have kk1:=hFS.cell b1;have kk2:=hFS.cell b2;have kk3:=hFS.cell b3
            have hcase:(1<=it.shape/\decide (it.shape<=4)=I4) ∨ (it.shape<1/\false=I4):=by
             by_cases ha:1<=it.shape
             ·exact .inl ⟨ha,by rw [←HI4.out];simp [ha]⟩
             ·exact .inr ⟨by omega,by rw [←HI4.out];exact(decide_eq_false (fun h=>ha h.1)).symm⟩
            rcases hcase with⟨ha,hO⟩|⟨ha,hO⟩
            all_goals (have HO:=h_ hO;clear hO)
            all_goals
             go_wp2_with (go_at_call 80;(with_reducible refine(hFS.unless (by omega) _ _).mono ?_);rintro e w9 ⟨rfl,h9⟩;have hend:=h_ h9;clear h9)
             all_goals go_meet
             all_goals exact hend.out.okc HO.out
           case rest=>
            have hFS:=hcut;clear hcut;have kk1:=hFS.cell b1;have kk2:=hFS.cell b2;have kk3:=hFS.cell b3
            go_wp2_with (go_at_call 122;(with_reducible refine(hFS.noted (by omega) _ _ _ HNT.out HB3.out).mono ?_);rintro e w9 ⟨rfl,h9⟩;have hend:=h_ h9;clear h9)
            refine⟨⟨k+1,done ++ IP,(k:Int),by omega,rfl,?_,hgo2⟩,by simp [intOf];omega⟩;have:=hend.out.dropb.moreN (N2:=2+5*(k+1)) (by omega);rw [←HIP.out]
            simpa only [List.append_assoc]using this
    ·have hkl:k=v.meths.length:=by omega
     have hdn:done=TF:=by
      have:=hgo.out;rw [hkl,List.drop_length]at this
      simpa [qc2]using this
     subst hdn;subst hkl;clear hgo;obtain⟨fc,ffz⟩:=hFS.fdcell
     go_upto_region 16 with(fail)
     go_cut [] (fun wx=>FS w (w.heap.size+1+1) v.name (-1) w BLK (2+5*v.meths.length) ((un v.name (-1) O1 8 ++ un v.name (-1) O2 3) ++ done) wx)
     case first=>
      go_wp2;go_meet
      exact hFS.setnum
     case rest=>
      clear hFS fc ffz;have hFS:=hcut;clear hcut;have kk1:=hFS.cell b1;have kk2:=hFS.cell b2
      go_upto_region 18 with(go_at_call 122;(with_reducible refine(hFS.noted (by omega) _ _ _ HV2.out HNL.out).mono ?_);rintro e w9 ⟨rfl,h9⟩)
      obtain⟨v2,z1,z2⟩:=h9.out;have hbz:=h9.bel0;have Z2:=h_ z2;clear hFS kk1 kk2 h9 z2;go_wp2;go_ret;refine⟨v2,rfl,?_,hbz.out⟩;rw [HV.out];exact Z2.out
end
section
open Go.RowKit Ck
theorem run_app {w:World} (ty:TypeId) (B C:Nat) (v v2:Value) (n m:Nat) (xs news:List Value) (hown:w.ownsRow B 164 3 v n xs) (hown2:w.ownsRow C 164 3 v2 m news) (h1 : ∀u ∈ news,u.oneCell'=true) (hnm:n+m<=4000000000) (hB:B<=w.heap.size) :
  ∃(q:Option Addr) (cap:Nat) (w':World),(Builtin.append_ #[114,114] ty #[v,v2]).run Tryz.prog w=.ok (.slice q (n+m) cap) w'/\w'.ownsRow B 164 3 (.slice q (n+m) cap) (n+m) (xs ++ news)/\w.grownBy w' v.ownBlock/\∀g,(Value.slice q (n+m) cap).ownBlock=some g->v.ownBlock=some g ∨ g=w.heap.size:=by
 obtain⟨i0,hi,hz0,hz1,hz2⟩:=info_parts qh6;cases m with
 | zero=>
  have hnews:news=[]:=by have:=hown2.1;simpa using this
  subst hnews;rw [List.append_nil];have hgr:w.grownBy w v.ownBlock:=⟨rfl,rfl,rfl,Nat.le_refl _,fun k _ _=>rfl⟩;rcases hown2.2 with⟨rfl,_⟩|⟨g2,c2,cur2,rfl,_,hg2,hc2,_⟩
  ·have hrun:=run_append_owned_none (P:=Tryz.prog) (w:=w) B 114 ty 164 i0 3 Tryz.underlying114 hi v n xs hown
   rcases hown.2 with⟨rfl,rfl⟩|⟨g,cap,cur,rfl,_⟩
   ·exact⟨none,0,w,hrun,hown,hgr,fun g h=>by simp [Value.ownBlock]at h⟩
   ·exact⟨some ⟨g,0,none⟩,cap,w,hrun,hown,hgr,fun g h=>.inl h⟩
  ·have hsrc:Src Tryz.prog i0.size 114 (.slice (some ⟨g2,0,none⟩) 0 c2) 0 [] w:=by
    exact Src.ofSlice w Tryz.underlying114 ⟨g2,0,none⟩ 0 c2 [] (by simp) (fun j u h=>by simp at h) (fun u h=>by cases h)
   rcases hown.2 with⟨rfl,rfl⟩|⟨g,cap,cur,rfl,_,_,hc,_⟩
   ·exact⟨none,0,w,run_append_nothing w _ _ _ _ i0 Tryz.underlying114 hi none 0 0 (Nat.le_refl _) _ hsrc,hown,hgr,fun g h=>by simp [Value.ownBlock]at h⟩
   ·exact⟨some ⟨g,0,none⟩,cap,w,run_append_nothing w _ _ _ _ i0 Tryz.underlying114 hi (some ⟨g,0,none⟩) n cap hc _ hsrc,hown,hgr,fun g h=>.inl h⟩
 | succ m=>
  rcases hown2.2 with⟨_,h⟩|⟨g2,c2,cur2,rfl,_,hg2,hc2,_⟩
  ·omega
  ·obtain⟨g,cap,w',hr,q1,q2,q3,q4⟩:=run_append_lies (P:=Tryz.prog) w 114 ty B 164 i0 (.agg #[.string ByteArray.empty,.int .i64 0,.int .i64 0]) 3 32 Tryz.underlying114 hi hz0 hz1 hz2 rfl (by decide) v n xs hown ⟨g2,0,none⟩ (m+1) c2 news hown2.1 (fun j u hu=>hown2.cells (g:=g2) rfl j u hu) h1 (by omega) (by unfold maxLen;omega) (by omega) hB w.heap.size rfl
   exact⟨some ⟨g,0,none⟩,cap,w',hr,q1,q2,fun g' h=>by
    have hgg:g=g':=by simpa [Value.ownBlock]using h
    subst hgg
    exact q3⟩
theorem qeb {ops:Array Oper} {o:Oper} {a:Act} {w:World} {K:Act->World->Prop} {Q:Exit->Act->World->Prop} {E:Prop} (hgd:o.guard=none) (s x:Operand)
  (ho:o.op=.call { callee:=.builtin .append,args:=#[s,x],argTypes:=#[114,114] })
  (B C:Nat) (v v2:Value) (n m:Nat) (xs news:List Value) (hs:a.eval s=v) (hx:a.eval x=v2) (hown:w.ownsRow B 164 3 v n xs) (hown2:w.ownsRow C 164 3 v2 m news) (h1 : ∀u ∈ news,u.oneCell'=true) (hnm:n+m<=4000000000) (hB:B<=w.heap.size)
  (h : ∀(q:Option Addr) (cap:Nat) (w':World),w'.ownsRow B 164 3 (.slice q (n+m) cap) (n+m) (xs ++ news)->w.grownBy w' v.ownBlock->(∀g,(Value.slice q (n+m) cap).ownBlock=some g->v.ownBlock=some g ∨ g=w.heap.size)->K (a.put o.dst (.slice q (n+m) cap)) w') :
  if Region.wanted o (yielded ops a.tmps)=true then Oper.wp Tryz.prog o a w K Q else E:=by
 have hw:Region.wanted o (yielded ops a.tmps)=true:=by simp [Region.wanted,hgd]
 rw [if_pos hw];obtain⟨q,cap,w',hr,h2,h3,h4⟩:=run_app (w:=w) o.type B C v v2 n m xs news hown hown2 h1 hnm hB;unfold Oper.wp execOp;simp only [ho,resolve,invoke,builtin,Sem.run_bind,Sem.run_pure,Result.andThen_ok,List.map_toArray,List.map_cons,List.map_nil,hs,hx,hr];exact h q cap w' h2 h3 h4
theorem qed (ps:List PProb) : ∀u ∈ ps.flatMap probC,u.oneCell'=true:=by
 intro u hu;rw [List.mem_flatMap]at hu;obtain⟨p,_,hp⟩:=hu;unfold probC at hp;simp only [List.mem_cons,List.not_mem_nil,or_false]at hp;rcases hp with rfl|rfl|rfl <;> rfl
theorem map_oth {H:Type} {R:Value->Option (DataW H × List MemPlace)} {w w':World} {b n fb:Nat} {e:TypeId} {f:List UInt8->Option (DataW H)} (h:MapIs R w b n f) (k:Lib.OthersKept e (some fb) w w') (hb:b ≠ fb):MapIs R w' b n f:=by
 obtain⟨D,⟨es,clock,h1,F,hs,hD⟩,h2,h3⟩:=h;exact⟨D,⟨es,clock,k b _ h1 (fun e=>hb (by injection e)) (fun c fz he=>by cases he),F,hs,hD⟩,h2,h3⟩
section
variable {w0 : World} {fb : Nat} {d : Str} {num : Int} {w : World} {bl : List (Nat × Array Value × TypeId)} {N : Nat} {ps : List PProb} {wx : World}
theorem FS.app {w2:World} {v:Value} {ps2:List PProb} {q:Option Addr} {cap:Nat} (h:FS w0 fb d num w bl N ps wx) (hv:wx.cell? ⟨fb,2,none⟩=some v)
  (hown:w2.ownsRow w0.heap.size 164 3 (.slice q (ps.length+ps2.length) cap) (ps.length+ps2.length) (ps.flatMap probC ++ ps2.flatMap probC)) (hg:wx.grownBy w2 v.ownBlock) (hq : ∀g,(Value.slice q (ps.length+ps2.length) cap).ownBlock=some g->v.ownBlock=some g ∨ g=wx.heap.size) :
  (FS w0 fb d num w bl (N+ps2.length) (ps ++ ps2) (w2.setCell ⟨fb,2,none⟩ (.slice q (ps.length+ps2.length) cap))/\Lib.OthersKept 164 (some fb) wx (w2.setCell ⟨fb,2,none⟩ (.slice q (ps.length+ps2.length) cap)))/\w2.cell? ⟨fb,2,none⟩=some v/\w2.frozen? ⟨fb,2,none⟩=false/\∀b ∈ bl,w2.heap[b.1]? = some (.cells b.2.1 b.2.2 (0,0)):=by
 have hflt:=h.1.lt;obtain⟨⟨hB,v',hb,hown',hne⟩,h2,h3,h4,h5⟩:=h
 have hvv:v'=v:=by
  rw [Lib.cell_of_heap hb]at hv
  simpa using hv
 subst hvv;have hb2:w2.heap[fb]? = some (.cells #[.string (S d),.int .i64 num,v'] 141 (0,0)):=(hg.block fb hflt (Ne.symm hne)).trans hb;have hoth:Lib.OthersKept 164 (some fb) wx w2:=(Lib.OthersKept.refl _ _ wx).grown hg (qh1 hown')
 have hne2:(Value.slice q (ps.length+ps2.length) cap).ownBlock ≠ some fb:=fun e=>by
  rcases hq fb e with e2|e2
  ·exact hne e2
  ·omega
 have hos:=hoth.setCell (⟨fb,2,none⟩:Addr) rfl (.slice q (ps.length+ps2.length) cap)
 refine⟨⟨⟨⟨hB,_,heap_setCell_same w2 fb 2 _ _ _ hb2,?_,hne2⟩,?_,h3.trans hos,?_,fun b hb=>?_⟩,hos⟩,by rw [Lib.cell_of_heap hb2];rfl,Lib.frozen_of_heap hb2 2,fun b hb=>by
  obtain⟨q1,q2,q3⟩:=h5 b hb
  exact qbx hoth q1 (fun e=>q2 (by injection e)) q3⟩
 ·have:=hown.kept (qaq w2 fb 2 (.slice q (ps.length+ps2.length) cap)) (Or.inr hne2)
  rw [List.flatMap_append,List.length_append];exact this
 ·exact qa8 (Below.grown h2 hg h2.size (fun k hk=>(hown'.lt k hk).1)) hB
 ·rw [List.length_append];omega
 ·obtain⟨q1,q2,q3⟩:=h5 b hb
  exact⟨qbx hos q1 (fun e=>q2 (by injection e)) q3,q2,q3⟩
end
end
end Go.Proofs.YtfoaaglbpmmhiaaGreatDoor
