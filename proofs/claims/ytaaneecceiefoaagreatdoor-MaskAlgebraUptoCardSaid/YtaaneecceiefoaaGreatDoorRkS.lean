import Derived.Test.YtaaneecceiefoaaGreatDoorTreeG
import Derived.Test.YtaaneecceiefoaaGreatDoorRkU
import Derived.Test.YtaaneecceiefoaaGreatDoorMaMem
import Derived.Deep.DeepCutAuto
set_option maxRecDepth 100000
set_option maxHeartbeats 4000000
set_option linter.unusedVariables false
set_option linter.unusedSimpArgs false
namespace Go.Proofs.YtaaneecceiefoaaGreatDoor
open Go.RowKit Ck
theorem qkl (sq1 sq2 sq3:Option Addr) (sc1 sc2 sc3:Nat) (s:PSchema) (vq1 vq2:Option Addr) (vc1 vc2:Nat) (v:PSvc) (w:World) (hs:VSchema w [.slice sq1 s.msgs.length sc1,.slice sq2 s.enums.length sc2,.slice sq3 s.svcs.length sc3] s) (hv0:VSvc w [.string (S v.name),.slice vq1 v.meths.length vc1,.slice vq2 v.notes.length vc2] v) (hnm:v.name.length<=100000000) (hl1:v.meths.length<=2000000) (hil : ∀f ∈ v.meths,f.name.length<=1000000000) :
  Calls Tryz.prog 76 #[.agg #[.slice sq1 s.msgs.length sc1,.slice sq2 s.enums.length sc2,.slice sq3 s.svcs.length sc3],.agg #[.string (S v.name),.slice vq1 v.meths.length vc1,.slice vq2 v.notes.length vc2]] w (qg5 w (qbh s v)):=by
 obtain⟨_,_,hce0,he1,he3⟩:=hv0;cases hce0;obtain⟨qq,cq,hqe,_,_,hel⟩:=id he1;cases hqe;have US:=Lib.hid (fun W (k:Bel w W)=>qfi v.name W (by omega));have HV:=Lib.hid (show qbh s v=un v.name (-1) (qaf v.name) 8 ++ un v.name (-1) (decide (v.meths.length<=64)) 3 ++ qcg s v 0 v.meths ++ noted v.name (-1) v.notes 5 from rfl);generalize qaf v.name=O1 at US HV;generalize hO2:decide (v.meths.length<=64)=O2 at HV;generalize hTF:qcg s v 0 v.meths=TF at HV;have HTF:=Lib.hid (show qcg s v 0 (v.meths.drop 0)=TF from hTF);have HO2:=Lib.hid hO2;clear hTF hO2;obtain⟨BLK,hBLK⟩ : ∃BLK:List (Nat × Array Value × TypeId),BLK=[(w.heap.size,#[.slice sq1 s.msgs.length sc1,.slice sq2 s.enums.length sc2,.slice sq3 s.svcs.length sc3],26),(w.heap.size+1,#[.string (S v.name),.slice vq1 v.meths.length vc1,.slice vq2 v.notes.length vc2],131)]:=⟨_,rfl⟩;have b1:(w.heap.size,#[.slice sq1 s.msgs.length sc1,.slice sq2 s.enums.length sc2,.slice sq3 s.svcs.length sc3],26) ∈ BLK:=by rw [hBLK];exact List.mem_cons_self
 have b2:(w.heap.size+1,#[.string (S v.name),.slice vq1 v.meths.length vc1,.slice vq2 v.notes.length vc2],131) ∈ BLK:=by rw [hBLK];exact List.mem_cons_of_mem _ List.mem_cons_self
 have hst:=RS.start w ((w.alloc (.cells #[.slice sq1 s.msgs.length sc1,.slice sq2 s.enums.length sc2,.slice sq3 s.svcs.length sc3] 26)).alloc (.cells #[.string (S v.name),.slice vq1 v.meths.length vc1,.slice vq2 v.notes.length vc2] 131)) v.name BLK (((Bel.refl w).alloc _).alloc _) (fun x hx=>by
  rw [hBLK]at hx;simp only [List.mem_cons,List.not_mem_nil,or_false]at hx;rcases hx with rfl|rfl
  ·exact⟨(heap_alloc_old _ _ (by simp)).trans (heap_alloc_new _ _),by show 26 ≠ 153;decide⟩
  ·exact⟨qe0 _ _ _ (by simp),by show 131 ≠ 153;decide⟩)
 simp only [World.size_alloc]at hst;have HS:=Lib.hid hs;have HE3:=Lib.hid he3;have HEL:=Lib.hid hel;have HIL:=Lib.hid hil;clear hs he1 he3 hel hil hBLK
 go_enter Tryz.func76,Tryz.ntmps76
 go_upto_region 2 with(fail)
 go_cut [] (fun wx=>RS w (w.heap.size+1+1) v.name w BLK 1 (un v.name (-1) O1 8) wx)
 case first=>as_aux_lemma=>
  have hFS:=hst;have kk1:=hFS.cell b1;have kk2:=hFS.cell b2
  go_wp2_with (first
   | (go_at_call 101;(with_reducible refine(US.out _ (RS.bel0 hFS)).mono ?_);rintro e w1 ⟨rfl,g1⟩;have hF1:=RS.bel hFS g1;have kk1:=hF1.cell b1;have kk2:=hF1.cell b2;clear g1)
   | (go_at_call 70;(with_reducible refine(hF1.add (by omega) _ _ _).mono ?_);rintro e w9 ⟨rfl,h9⟩;have hend:=Lib.hid h9;clear h9))
  go_meet;exact hend.out.okc (by simp)
 case rest=>
  have hFS:=hcut;clear hcut hst
  go_upto_region 3 with(fail)
  go_cut [] (fun wx=>RS w (w.heap.size+1+1) v.name w BLK 2 (un v.name (-1) O1 8 ++ un v.name (-1) O2 3) wx)
  case first=>as_aux_lemma=>
   have kk1:=hFS.cell b1;have kk2:=hFS.cell b2
   go_wp2_with (go_at_call 70;(with_reducible refine(hFS.add (by omega) _ _ _).mono ?_);rintro e w9 ⟨rfl,h9⟩;have hend:=Lib.hid h9;clear h9)
   all_goals go_meet
   all_goals exact hend.out.okc (by rw [←HO2.out,Bool.eq_iff_iff];simp;try omega)
  case rest=>
   have hFS:=hcut;clear hcut;have kk1:=hFS.cell b1;have kk2:=hFS.cell b2;go_wp2
   go_loopw [6] (fun i wr => ∃(k:Nat) (done:List PProb),k<=v.meths.length/\i=.int .i64 k/\RS w (w.heap.size+1+1) v.name w BLK (2+5*k) ((un v.name (-1) O1 8 ++ un v.name (-1) O2 3) ++ done) wr/\Hid (done ++ qcg s v k (v.meths.drop k)=TF)) (fun i _=>v.meths.length-(intOf i).toNat)
   case atStart=>exact⟨0,[],by omega,rfl,by rw [List.append_nil];exact hFS,HTF⟩
   case round=>
    clear kk1 kk2 hFS;obtain⟨k,done,hk,rfl,hFS,hgo⟩:=hrel;by_cases hlt:k<v.meths.length
    ·obtain⟨wo,hwo⟩ : ∃wo,wo=wr:=⟨_,rfl⟩
     subst hwo;have hki:(k:Int)<(v.meths.length:Int):=by omega
     have hk0:(0:Int)<=(k:Int):=by omega
     have hg:=List.getElem?_eq_getElem hlt;obtain⟨b,off,hqq,hbs,cs,hce,hvs⟩:=HEL.out k _ hg;have hdr:v.meths.drop k=v.meths[k] :: v.meths.drop (k+1):=List.drop_eq_getElem_cons hlt;have hgo2:=Lib.hid (show(done ++ methP s v k v.meths[k]) ++ qcg s v (k+1) (v.meths.drop (k+1))=TF by rw [←hgo.out,hdr,List.append_assoc];rfl);have hfk:=HIL.out _ (List.getElem_mem hlt)
     have HPV:=Lib.hid (show k=0 ∨ ∃(j:Nat) (g:PMeth),k=j+1/\v.meths[k-1]? = some g/\w.cell? ⟨b,off+j*5,none⟩=some (.string (S g.name))by
      by_cases h0:k=0
      ·exact .inl h0
      ·have hgp:=List.getElem?_eq_getElem (show k-1<v.meths.length by omega)
       obtain⟨b9,off9,hq9,_,cs9,hce9,hvs9⟩:=HEL.out (k-1) _ hgp;have hq2:=hqq.symm.trans hq9;cases hq2;obtain⟨_,hvv9,_⟩:=hvs9;subst hvv9
       exact .inr ⟨k-1,_,by omega,hgp,by have:=hce9 0 _ rfl;rwa [Nat.add_zero]at this⟩)
     obtain⟨nv,hvv4,hnt⟩:=hvs;obtain⟨iq,ic,hnv,_⟩:=qa6 hnt;subst hvv4 hnv hqq;have c0:=hFS.bel0.some (hce 0 _ rfl);rw [Nat.add_zero]at c0;have c1:=hFS.bel0.some (hce 1 _ rfl);have c2:=hFS.bel0.some (hce 2 _ rfl);have c3:=hFS.bel0.some (hce 3 _ rfl);have c4:=hFS.bel0.some (hce 4 _ rfl);generalize hff:v.meths[k]=m at *;have UP0:=fun W (k':Bel w W)=>qbv m.name W (by omega)
     have CA0:=fun W (k':Bel w W)=>qbu sq1 sq2 sq3 sc1 sc2 sc3 s m.inn W (HS.out.stays_bel k')
     have CB0:=fun W (k':Bel w W)=>qbu sq1 sq2 sq3 sc1 sc2 sc3 s m.out W (HS.out.stays_bel k')
     have n1:=qip (idxOf s m.inn);have n2:=qip (idxOf s m.out);rw [qbq]at n1 n2;have HNT:=Lib.hid hnt;generalize hFP:methP s v k m=FP at hgo2;have VI:methP s v k m=un v.name (k:Int) (qaj m.name) 8 ++ un v.name (k:Int) (decide (k=0) || (match v.meths[k-1]? with|some g=>Ck.ltS g.name m.name|none=>false)) 11 ++ un v.name (k:Int) ((msgOf s m.inn).isSome && (msgOf s m.out).isSome) 12 ++ un v.name (k:Int) (decide (1<=m.shape/\m.shape<=4)) 1 ++ noted v.name (k:Int) m.notes 6:=rfl;rw [hFP]at VI;generalize qaj m.name=I1 at VI UP0;generalize hI2:(decide (k=0) || (match v.meths[k-1]? with|some g=>Ck.ltS g.name m.name|none=>false))=I2 at VI;generalize (msgOf s m.inn).isSome=IA at VI n1;generalize (msgOf s m.out).isSome=IB at VI n2;generalize idxI (idxOf s m.inn)=A at CA0 n1;generalize idxI (idxOf s m.out)=B at CB0 n2;generalize hI4:decide (1<=m.shape/\m.shape<=4)=I4 at VI;have UP:=Lib.hid UP0;have CA:=Lib.hid CA0;have CB:=Lib.hid CB0;have N1:=Lib.hid n1;have N2:=Lib.hid n2;have HIP:=Lib.hid VI;have HI2:=Lib.hid hI2;have HI4:=Lib.hid hI4;obtain⟨PD,hPD⟩ : ∃PD,PD=(un v.name (-1) O1 8 ++ un v.name (-1) O2 3) ++ done:=⟨_,rfl⟩;rw [←hPD]at hFS;have HPD:=Lib.hid hPD;have hadd:=hFS.addb #[.string (S m.name),.string (S m.inn),.string (S m.out),.int .i64 m.shape,.slice iq m.notes.length ic] 164 (by decide);have b3:(wo.heap.size,#[.string (S m.name),.string (S m.inn),.string (S m.out),.int .i64 m.shape,.slice iq m.notes.length ic],164) ∈ ((wo.heap.size,#[.string (S m.name),.string (S m.inn),.string (S m.out),.int .i64 m.shape,.slice iq m.notes.length ic],164) :: BLK):=List.mem_cons_self;have b1':=b1;have b2':=b2;have b1:(w.heap.size,#[.slice sq1 s.msgs.length sc1,.slice sq2 s.enums.length sc2,.slice sq3 s.svcs.length sc3],26) ∈ ((wo.heap.size,#[.string (S m.name),.string (S m.inn),.string (S m.out),.int .i64 m.shape,.slice iq m.notes.length ic],164) :: BLK):=List.mem_cons_of_mem _ b1';have b2:(w.heap.size+1,#[.string (S v.name),.slice (some ⟨b,off,none⟩) v.meths.length vc1,.slice vq2 v.notes.length vc2],131) ∈ ((wo.heap.size,#[.string (S m.name),.string (S m.inn),.string (S m.out),.int .i64 m.shape,.slice iq m.notes.length ic],164) :: BLK):=List.mem_cons_of_mem _ b2';have kk1:=hFS.cell b1';have kk2:=hFS.cell b2';clear hgo hdr hg hce hnt hfk UP0 CA0 CB0 n1 n2 VI hI2 hI4 hPD hFP hbs
     go_upto_region 8 with(fail)
     clear kk1 kk2 c0 c1 c2 c3 c4;generalize hwF:World.alloc wo _=wF at *;have hFS1:RS w (w.heap.size+1+1) v.name w ((wo.heap.size,#[.string (S m.name),.string (S m.inn),.string (S m.out),.int .i64 m.shape,.slice iq m.notes.length ic],164) :: BLK) (2+5*k) PD wF:=hadd;clear hadd hwF hFS;have hFS:=hFS1;clear hFS1
     go_upto_region 8 with(fail)
     go_cut [] (fun wx=>RS w (w.heap.size+1+1) v.name w ((wo.heap.size,#[.string (S m.name),.string (S m.inn),.string (S m.out),.int .i64 m.shape,.slice iq m.notes.length ic],164) :: BLK) ((2+5*k)+1) ((PD) ++ un v.name (k:Int) I1 8) wx)
     case first=>as_aux_lemma=>
      have kk1:=hFS.cell b1;have kk2:=hFS.cell b2;have kk3:=hFS.cell b3
      go_wp2_with (first
       | (go_at_call 102;(with_reducible refine(UP.out _ (RS.bel0 hFS)).mono ?_);rintro e w1 ⟨rfl,g1⟩;have hF1:=RS.bel hFS g1;have kk1:=hF1.cell b1;have kk2:=hF1.cell b2;have kk3:=hF1.cell b3;clear g1)
       | (go_at_call 70;(with_reducible refine(hF1.add (by omega) _ _ _).mono ?_);rintro e w9 ⟨rfl,h9⟩;have hend:=Lib.hid h9;clear h9))
      go_meet;exact hend.out.okc (by simp)
     case rest=>
      have hFS:=hcut;clear hcut
      go_upto_region 9 with(fail)
      go_cut [] (fun wx=>RS w (w.heap.size+1+1) v.name w ((wo.heap.size,#[.string (S m.name),.string (S m.inn),.string (S m.out),.int .i64 m.shape,.slice iq m.notes.length ic],164) :: BLK) ((2+5*k)+2) (((PD) ++ un v.name (k:Int) I1 8) ++ un v.name (k:Int) I2 11) wx)
      case first=>as_aux_lemma=>
       obtain⟨wd,hwd⟩ : ∃wd,wd=wc.drew:=⟨_,rfl⟩;have kd:Bel wc wd:=by rw [hwd];exact(Bel.refl _).drew
       have HWD:=Lib.hid hwd;have hFd:=hFS.bel kd;have kk1:=hFd.cell b1;have kk2:=hFd.cell b2;have kk3:=hFd.cell b3;clear hwd;rcases HPV.out with h0|⟨j,g,hkj,hg1,hg2⟩
       ·have hO:=Lib.hid (show true=I2 by rw [←HI2.out,decide_eq_true h0,Bool.true_or])
        have hk0n : ¬(0<k):=by omega
        clear h0;refine qag 15 (by kernel_rfl) (by kernel_rfl) HWD.out ?_
        (simp only [List.take_succ_cons,List.take_zero,List.drop_succ_cons,List.drop_zero]);(repeat (first|((with_reducible refine wpStill_step (fun K hK=>?_));go_simp;(with_reducible refine hK _ ?_);clear hK K)|((with_reducible refine qah ?_ ?_);(with_unfolding_all rfl))));(with_reducible refine wpStill_nil ?_)
        go_wp2_with (go_at_call 70;(with_reducible refine(hFd.add (by omega) _ _ _).mono ?_);rintro e w9 ⟨rfl,h9⟩;have hend:=Lib.hid h9;clear h9)
        go_meet;exact hend.out.okc hO.out
       ·have hk00n:0<k:=by omega
        have hO:=Lib.hid (show Ck.ltS g.name m.name=I2 by rw [←HI2.out,hg1,decide_eq_false (show ¬ k=0 by omega),Bool.false_or]);have d1:=hFd.bel0.some hg2;have hk00:(0:Int)<(k:Int):=by omega
        have jw3:(k:Int)-1=(j:Int):=by omega
        have jw2:IntKind.i64.wrap (j:Int)=(j:Int):=wrap_small _ (by omega) (by omega);have jw:IntKind.i64.wrap ((k:Int)-1)=(j:Int):=by rw [jw3];exact jw2
        have j1:(j:Int)<(v.meths.length:Int):=by omega
        have j0:(0:Int)<=(j:Int):=by omega
        have hz:(Op.bytesLess (S m.name).toList (S g.name).toList || ((S m.name).toList == (S g.name).toList)) = !I2:=by
         rw [←hO.out, ←gtr_S];cases Op.bytesLess (S m.name).toList (S g.name).toList <;> cases ((S m.name).toList == (S g.name).toList) <;> rfl
        generalize hz1:Op.bytesLess (S m.name).toList (S g.name).toList=Z1 at hz;generalize hz2:((S m.name).toList == (S g.name).toList)=Z2 at hz;have HZ:=Lib.hid hz;clear hkj hg1 hg2 hz;cases Z1
        all_goals cases Z2
        all_goals
         refine qag 15 (by kernel_rfl) (by kernel_rfl) HWD.out ?_
         (simp only [List.take_succ_cons,List.take_zero,List.drop_succ_cons,List.drop_zero]);(repeat (first|((with_reducible refine wpStill_step (fun K hK=>?_));go_simp;(with_reducible refine hK _ ?_);clear hK K)|((with_reducible refine qah ?_ ?_);(with_unfolding_all rfl))));(with_reducible refine wpStill_nil ?_)
         go_wp2_with (go_at_call 70;(with_reducible refine(hFd.add (by omega) _ _ _).mono ?_);rintro e w9 ⟨rfl,h9⟩;have hend:=Lib.hid h9;clear h9)
         go_meet;exact hend.out.okc (by have h:=HZ.out;cases I2 <;> simp_all)
      case rest=>
       have hFS:=hcut;clear hcut
       go_upto_region 10 with(fail)
       go_cut [] (fun wx=>RS w (w.heap.size+1+1) v.name w ((wo.heap.size,#[.string (S m.name),.string (S m.inn),.string (S m.out),.int .i64 m.shape,.slice iq m.notes.length ic],164) :: BLK) ((2+5*k)+3) ((((PD) ++ un v.name (k:Int) I1 8) ++ un v.name (k:Int) I2 11) ++ un v.name (k:Int) (IA && IB) 12) wx)
       case first=>as_aux_lemma=>
        have kk1:=hFS.cell b1;have kk2:=hFS.cell b2;have kk3:=hFS.cell b3;by_cases hA:A<0
        ·have HA:=Lib.hid (show IA=false by have h:=N1.out;cases hI:IA;rfl;rw [hI]at h;have:=h.2 rfl;omega)
         go_wp2_with (first
          | (go_at_call 111;(with_reducible refine(CA.out _ (RS.bel0 hFS)).mono ?_);rintro e w1 ⟨rfl,g1⟩;have hF1:=RS.bel hFS g1;have kk1:=hF1.cell b1;have kk2:=hF1.cell b2;have kk3:=hF1.cell b3;clear g1)
          | (go_at_call 70;(with_reducible refine(hF1.add (by omega) _ _ _).mono ?_);rintro e w9 ⟨rfl,h9⟩;have hend:=Lib.hid h9;clear h9))
         all_goals go_meet
         all_goals exact hend.out.okc (by rw [HA.out];simp;try omega)
        ·have HA:=Lib.hid (show IA=true from N1.out.1 (by omega))
         by_cases hB:B<0
         ·have HB:=Lib.hid (show IB=false by have h:=N2.out;cases hI:IB;rfl;rw [hI]at h;have:=h.2 rfl;omega)
          go_wp2_with (first
           | (go_at_call 111;(with_reducible refine(CA.out _ (RS.bel0 hFS)).mono ?_);rintro e w1 ⟨rfl,g1⟩;have hF1:=RS.bel hFS g1;have kk1:=hF1.cell b1;have kk2:=hF1.cell b2;have kk3:=hF1.cell b3;clear g1)
           | (go_at_call 111;(with_reducible refine(CB.out _ (RS.bel0 hF1)).mono ?_);rintro e w2 ⟨rfl,g2⟩;have hF2:=RS.bel hF1 g2;have kk1:=hF2.cell b1;have kk2:=hF2.cell b2;have kk3:=hF2.cell b3;clear g2)
           | (go_at_call 70;(with_reducible refine(hF2.add (by omega) _ _ _).mono ?_);rintro e w9 ⟨rfl,h9⟩;have hend:=Lib.hid h9;clear h9))
          all_goals go_meet
          all_goals exact hend.out.okc (by rw [HA.out,HB.out];simp [hB];try omega)
         ·have HB:=Lib.hid (show IB=true from N2.out.1 (by omega))
          go_wp2_with (first
           | (go_at_call 111;(with_reducible refine(CA.out _ (RS.bel0 hFS)).mono ?_);rintro e w1 ⟨rfl,g1⟩;have hF1:=RS.bel hFS g1;have kk1:=hF1.cell b1;have kk2:=hF1.cell b2;have kk3:=hF1.cell b3;clear g1)
           | (go_at_call 111;(with_reducible refine(CB.out _ (RS.bel0 hF1)).mono ?_);rintro e w2 ⟨rfl,g2⟩;have hF2:=RS.bel hF1 g2;have kk1:=hF2.cell b1;have kk2:=hF2.cell b2;have kk3:=hF2.cell b3;clear g2)
           | (go_at_call 70;(with_reducible refine(hF2.add (by omega) _ _ _).mono ?_);rintro e w9 ⟨rfl,h9⟩;have hend:=Lib.hid h9;clear h9))
          all_goals go_meet
          all_goals exact hend.out.okc (by rw [HA.out,HB.out];simp [hB];try omega)
       case rest=>
        have hFS:=hcut;clear hcut
        go_upto_region 11 with(fail)
        go_cut [] (fun wx=>RS w (w.heap.size+1+1) v.name w ((wo.heap.size,#[.string (S m.name),.string (S m.inn),.string (S m.out),.int .i64 m.shape,.slice iq m.notes.length ic],164) :: BLK) ((2+5*k)+4) (((((PD) ++ un v.name (k:Int) I1 8) ++ un v.name (k:Int) I2 11) ++ un v.name (k:Int) (IA && IB) 12) ++ un v.name (k:Int) I4 1) wx)
        case first=>as_aux_lemma=>
         have kk1:=hFS.cell b1;have kk2:=hFS.cell b2;have kk3:=hFS.cell b3;by_cases ha:m.shape<1
         all_goals by_cases hb:4<m.shape
         all_goals (first|(exfalso;omega)|skip)
         all_goals
          go_wp2_with (go_at_call 70;(with_reducible refine(hFS.add (by omega) _ _ _).mono ?_);rintro e w9 ⟨rfl,h9⟩;have hend:=Lib.hid h9;clear h9)
          all_goals go_meet
          all_goals exact hend.out.okc (by rw [←HI4.out,Bool.eq_iff_iff];simp;omega)
        case rest=>
         have hFS:=hcut;clear hcut;have kk1:=hFS.cell b1;have kk2:=hFS.cell b2;have kk3:=hFS.cell b3
         go_wp2_with (go_at_call 108;(with_reducible refine(hFS.notes (by omega) _ _ _ _ HNT.out).mono ?_);rintro e w9 ⟨rfl,h9⟩;have hend:=Lib.hid h9;clear h9)
         refine⟨⟨k+1,done ++ FP,by omega,by go_num,?_,hgo2⟩,by simp [intOf];omega⟩;have h10:=hend.out.dropb.moreN (N2:=2+5*(k+1)) (by omega);rw [HIP.out];rw [HPD.out]at h10
         simpa only [List.append_assoc]using h10
    ·have hkl:k=v.meths.length:=by omega
     have hdn:done=TF:=by
      have h:=hgo.out;rw [hkl,List.drop_length]at h
      simpa [qcg]using h
     subst hdn;subst hkl;clear hgo;have kk1:=hFS.cell b1;have kk2:=hFS.cell b2
     go_upto_region 14 with(go_at_call 108;(with_reducible refine(hFS.notes (by omega) _ _ _ _ HE3.out).mono ?_);rintro e w9 ⟨rfl,h9⟩;have hend:=Lib.hid h9;clear h9)
     have hfin:=hend.out;obtain⟨vv,z1,z2⟩:=hfin.out;have hbz:=hfin.bel0;have Z2:=Lib.hid z2;clear hFS kk1 kk2 hend hfin z2;go_wp2;go_ret;refine⟨vv,rfl,?_,hbz.out⟩;rw [HV.out];exact Z2.out
end Go.Proofs.YtaaneecceiefoaaGreatDoor
