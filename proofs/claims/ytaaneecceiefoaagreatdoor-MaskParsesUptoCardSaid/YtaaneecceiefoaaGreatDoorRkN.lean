import Derived.Test.YtaaneecceiefoaaGreatDoorRkU
import Derived.Test.YtaaneecceiefoaaGreatDoorCkLists2
import Derived.Deep.DeepCutAuto
import Derived.Test.YtaaneecceiefoaaGreatDoorRkA
import Derived.Deep.AppendLies
set_option maxRecDepth 100000
set_option maxHeartbeats 4000000
set_option linter.unusedVariables false
set_option linter.unusedSimpArgs false
namespace Go.Proofs.YtaaneecceiefoaaGreatDoor
section
open Go.RowKit Ck
theorem qmk (sq1 sq2 sq3:Option Addr) (sc1 sc2 sc3:Nat) (s:PSchema) (vq1 vq2:Option Addr) (vc1 vc2:Nat) (v:PSvc) (w:World) (hs:VSchema w [.slice sq1 s.msgs.length sc1,.slice sq2 s.enums.length sc2,.slice sq3 s.svcs.length sc3] s) (hv0:VSvc w [.string (S v.name),.slice vq1 v.meths.length vc1,.slice vq2 v.notes.length vc2] v) (hnm:v.name.length<=100000000) (hl1:v.meths.length<=2000000) (hil : ∀f ∈ v.meths,f.name.length<=1000000000) :
  Calls Tryz.prog 76 #[.agg #[.slice sq1 s.msgs.length sc1,.slice sq2 s.enums.length sc2,.slice sq3 s.svcs.length sc3],.agg #[.string (S v.name),.slice vq1 v.meths.length vc1,.slice vq2 v.notes.length vc2]] w (qhg w (qbz s v)):=by
 obtain⟨_,_,hce0,he1,he3⟩:=hv0;cases hce0;obtain⟨qq,cq,hqe,_,_,hel⟩:=id he1;cases hqe;have US:=Lib.hid (fun W (k:Bel w W)=>qgr v.name W (by omega));have HV:=Lib.hid (show qbz s v=un v.name (-1) (qal v.name) 8 ++ un v.name (-1) (decide (v.meths.length<=64)) 3 ++ qd2 s v 0 v.meths ++ noted v.name (-1) v.notes 5 from rfl);generalize qal v.name=O1 at US HV;generalize hO2:decide (v.meths.length<=64)=O2 at HV;generalize hTF:qd2 s v 0 v.meths=TF at HV;have HTF:=Lib.hid (show qd2 s v 0 (v.meths.drop 0)=TF from hTF);have HO2:=Lib.hid hO2;clear hTF hO2;obtain⟨BLK,hBLK⟩ : ∃BLK:List (Nat × Array Value × TypeId),BLK=[(w.heap.size,#[.slice sq1 s.msgs.length sc1,.slice sq2 s.enums.length sc2,.slice sq3 s.svcs.length sc3],26),(w.heap.size+1,#[.string (S v.name),.slice vq1 v.meths.length vc1,.slice vq2 v.notes.length vc2],131)]:=⟨_,rfl⟩;have b1:(w.heap.size,#[.slice sq1 s.msgs.length sc1,.slice sq2 s.enums.length sc2,.slice sq3 s.svcs.length sc3],26) ∈ BLK:=by rw [hBLK];exact List.mem_cons_self
 have b2:(w.heap.size+1,#[.string (S v.name),.slice vq1 v.meths.length vc1,.slice vq2 v.notes.length vc2],131) ∈ BLK:=by rw [hBLK];exact List.mem_cons_of_mem _ List.mem_cons_self
 have hst:=RS.start w ((w.alloc (.cells #[.slice sq1 s.msgs.length sc1,.slice sq2 s.enums.length sc2,.slice sq3 s.svcs.length sc3] 26)).alloc (.cells #[.string (S v.name),.slice vq1 v.meths.length vc1,.slice vq2 v.notes.length vc2] 131)) v.name BLK (((Bel.refl w).alloc _).alloc _) (fun x hx=>by
  rw [hBLK]at hx;simp only [List.mem_cons,List.not_mem_nil,or_false]at hx;rcases hx with rfl|rfl
  ·exact⟨(heap_alloc_old _ _ (by simp)).trans (heap_alloc_new _ _),by show 26 ≠ 153;decide⟩
  ·exact⟨qey _ _ _ (by simp),by show 131 ≠ 153;decide⟩)
 simp only [World.size_alloc]at hst;have HS:=Lib.hid hs;have HE3:=Lib.hid he3;have HEL:=Lib.hid hel;have HIL:=Lib.hid hil;clear hs he1 he3 hel hil hBLK
 go_enter Tryz.func76,Tryz.ntmps76
 go_upto_region 2 with(fail)
 go_cut [] (fun wx=>RS w (w.heap.size+1+1) v.name w BLK 1 (un v.name (-1) O1 8) wx)
 case first=>as_aux_lemma=>
  have hFS:=hst;have kk1:=hFS.cell b1;have kk2:=hFS.cell b2
  go_wp2_with (first
   | (go_at_call 101;(with_reducible refine(US.out _ (RS.bel0 hFS)).mono ?_);rintro e w1 ⟨rfl,g1⟩;have hF1:=RS.bel hFS g1;have kk1:=hF1.cell b1;have kk2:=hF1.cell b2;clear g1)
   | (go_at_call 70;(with_reducible refine(hF1.add (by omega) _ _ _).mono ?_);rintro e w9 ⟨rfl,h9⟩;have hend:=Lib.hid h9;clear h9))
  go_meet;exact hend.out.okc (by simp)
 case rest=>
  have hFS:=hcut;clear hcut hst
  go_upto_region 3 with(fail)
  go_cut [] (fun wx=>RS w (w.heap.size+1+1) v.name w BLK 2 (un v.name (-1) O1 8 ++ un v.name (-1) O2 3) wx)
  case first=>as_aux_lemma=>
   have kk1:=hFS.cell b1;have kk2:=hFS.cell b2
   go_wp2_with (go_at_call 70;(with_reducible refine(hFS.add (by omega) _ _ _).mono ?_);rintro e w9 ⟨rfl,h9⟩;have hend:=Lib.hid h9;clear h9)
   all_goals go_meet
   all_goals exact hend.out.okc (by rw [←HO2.out,Bool.eq_iff_iff];simp;try omega)
  case rest=>
   have hFS:=hcut;clear hcut;have kk1:=hFS.cell b1;have kk2:=hFS.cell b2;go_wp2
   go_loopw [6] (fun i wr => ∃(k:Nat) (done:List PProb),k<=v.meths.length/\i=.int .i64 k/\RS w (w.heap.size+1+1) v.name w BLK (2+5*k) ((un v.name (-1) O1 8 ++ un v.name (-1) O2 3) ++ done) wr/\Hid (done ++ qd2 s v k (v.meths.drop k)=TF)) (fun i _=>v.meths.length-(intOf i).toNat)
   case atStart=>exact⟨0,[],by omega,rfl,by rw [List.append_nil];exact hFS,HTF⟩
   case round=>
    clear kk1 kk2 hFS;obtain⟨k,done,hk,rfl,hFS,hgo⟩:=hrel;by_cases hlt:k<v.meths.length
    ·obtain⟨wo,hwo⟩ : ∃wo,wo=wr:=⟨_,rfl⟩
     subst hwo;have hki:(k:Int)<(v.meths.length:Int):=by omega
     have hk0:(0:Int)<=(k:Int):=by omega
     have hg:=List.getElem?_eq_getElem hlt;obtain⟨b,off,hqq,hbs,cs,hce,hvs⟩:=HEL.out k _ hg;have hdr:v.meths.drop k=v.meths[k] :: v.meths.drop (k+1):=List.drop_eq_getElem_cons hlt;have hgo2:=Lib.hid (show(done ++ methP s v k v.meths[k]) ++ qd2 s v (k+1) (v.meths.drop (k+1))=TF by rw [←hgo.out,hdr,List.append_assoc];rfl);have hfk:=HIL.out _ (List.getElem_mem hlt)
     have HPV:=Lib.hid (show k=0 ∨ ∃(j:Nat) (g:PMeth),k=j+1/\v.meths[k-1]? = some g/\w.cell? ⟨b,off+j*5,none⟩=some (.string (S g.name))by
      by_cases h0:k=0
      ·exact .inl h0
      ·have hgp:=List.getElem?_eq_getElem (show k-1<v.meths.length by omega)
       obtain⟨b9,off9,hq9,_,cs9,hce9,hvs9⟩:=HEL.out (k-1) _ hgp;have hq2:=hqq.symm.trans hq9;cases hq2;obtain⟨_,hvv9,_⟩:=hvs9;subst hvv9
       exact .inr ⟨k-1,_,by omega,hgp,by have:=hce9 0 _ rfl;rwa [Nat.add_zero]at this⟩)
     obtain⟨nv,hvv4,hnt⟩:=hvs;obtain⟨iq,ic,hnv,_⟩:=qa5 hnt;subst hvv4 hnv hqq;have c0:=hFS.bel0.some (hce 0 _ rfl);rw [Nat.add_zero]at c0;have c1:=hFS.bel0.some (hce 1 _ rfl);have c2:=hFS.bel0.some (hce 2 _ rfl);have c3:=hFS.bel0.some (hce 3 _ rfl);have c4:=hFS.bel0.some (hce 4 _ rfl);generalize hff:v.meths[k]=m at *;have UP0:=fun W (k':Bel w W)=>qcd m.name W (by omega)
     have CA0:=fun W (k':Bel w W)=>qcc sq1 sq2 sq3 sc1 sc2 sc3 s m.inn W (HS.out.stays_bel k')
     have CB0:=fun W (k':Bel w W)=>qcc sq1 sq2 sq3 sc1 sc2 sc3 s m.out W (HS.out.stays_bel k')
     have n1:=qke (idxOf s m.inn);have n2:=qke (idxOf s m.out);rw [qc8]at n1 n2;have HNT:=Lib.hid hnt;generalize hFP:methP s v k m=FP at hgo2;have VI:methP s v k m=un v.name (k:Int) (qar m.name) 8 ++ un v.name (k:Int) (decide (k=0) || (match v.meths[k-1]? with|some g=>Ck.ltS g.name m.name|none=>false)) 11 ++ un v.name (k:Int) ((msgOf s m.inn).isSome && (msgOf s m.out).isSome) 12 ++ un v.name (k:Int) (decide (1<=m.shape/\m.shape<=4)) 1 ++ noted v.name (k:Int) m.notes 6:=rfl;rw [hFP]at VI;generalize qar m.name=I1 at VI UP0;generalize hI2:(decide (k=0) || (match v.meths[k-1]? with|some g=>Ck.ltS g.name m.name|none=>false))=I2 at VI;generalize (msgOf s m.inn).isSome=IA at VI n1;generalize (msgOf s m.out).isSome=IB at VI n2;generalize idxI (idxOf s m.inn)=A at CA0 n1;generalize idxI (idxOf s m.out)=B at CB0 n2;generalize hI4:decide (1<=m.shape/\m.shape<=4)=I4 at VI;have UP:=Lib.hid UP0;have CA:=Lib.hid CA0;have CB:=Lib.hid CB0;have N1:=Lib.hid n1;have N2:=Lib.hid n2;have HIP:=Lib.hid VI;have HI2:=Lib.hid hI2;have HI4:=Lib.hid hI4;obtain⟨PD,hPD⟩ : ∃PD,PD=(un v.name (-1) O1 8 ++ un v.name (-1) O2 3) ++ done:=⟨_,rfl⟩;rw [←hPD]at hFS;have HPD:=Lib.hid hPD;have hadd:=hFS.addb #[.string (S m.name),.string (S m.inn),.string (S m.out),.int .i64 m.shape,.slice iq m.notes.length ic] 164 (by decide);have b3:(wo.heap.size,#[.string (S m.name),.string (S m.inn),.string (S m.out),.int .i64 m.shape,.slice iq m.notes.length ic],164) ∈ ((wo.heap.size,#[.string (S m.name),.string (S m.inn),.string (S m.out),.int .i64 m.shape,.slice iq m.notes.length ic],164) :: BLK):=List.mem_cons_self;have b1':=b1;have b2':=b2;have b1:(w.heap.size,#[.slice sq1 s.msgs.length sc1,.slice sq2 s.enums.length sc2,.slice sq3 s.svcs.length sc3],26) ∈ ((wo.heap.size,#[.string (S m.name),.string (S m.inn),.string (S m.out),.int .i64 m.shape,.slice iq m.notes.length ic],164) :: BLK):=List.mem_cons_of_mem _ b1';have b2:(w.heap.size+1,#[.string (S v.name),.slice (some ⟨b,off,none⟩) v.meths.length vc1,.slice vq2 v.notes.length vc2],131) ∈ ((wo.heap.size,#[.string (S m.name),.string (S m.inn),.string (S m.out),.int .i64 m.shape,.slice iq m.notes.length ic],164) :: BLK):=List.mem_cons_of_mem _ b2';have kk1:=hFS.cell b1';have kk2:=hFS.cell b2';clear hgo hdr hg hce hnt hfk UP0 CA0 CB0 n1 n2 VI hI2 hI4 hPD hFP hbs
     go_upto_region 8 with(fail)
     clear kk1 kk2 c0 c1 c2 c3 c4;generalize hwF:World.alloc wo _=wF at *;have hFS1:RS w (w.heap.size+1+1) v.name w ((wo.heap.size,#[.string (S m.name),.string (S m.inn),.string (S m.out),.int .i64 m.shape,.slice iq m.notes.length ic],164) :: BLK) (2+5*k) PD wF:=hadd;clear hadd hwF hFS;have hFS:=hFS1;clear hFS1
     go_upto_region 8 with(fail)
     go_cut [] (fun wx=>RS w (w.heap.size+1+1) v.name w ((wo.heap.size,#[.string (S m.name),.string (S m.inn),.string (S m.out),.int .i64 m.shape,.slice iq m.notes.length ic],164) :: BLK) ((2+5*k)+1) ((PD) ++ un v.name (k:Int) I1 8) wx)
     case first=>as_aux_lemma=>
      have kk1:=hFS.cell b1;have kk2:=hFS.cell b2;have kk3:=hFS.cell b3
      go_wp2_with (first
       | (go_at_call 102;(with_reducible refine(UP.out _ (RS.bel0 hFS)).mono ?_);rintro e w1 ⟨rfl,g1⟩;have hF1:=RS.bel hFS g1;have kk1:=hF1.cell b1;have kk2:=hF1.cell b2;have kk3:=hF1.cell b3;clear g1)
       | (go_at_call 70;(with_reducible refine(hF1.add (by omega) _ _ _).mono ?_);rintro e w9 ⟨rfl,h9⟩;have hend:=Lib.hid h9;clear h9))
      go_meet;exact hend.out.okc (by simp)
     case rest=>
      have hFS:=hcut;clear hcut
      go_upto_region 9 with(fail)
      go_cut [] (fun wx=>RS w (w.heap.size+1+1) v.name w ((wo.heap.size,#[.string (S m.name),.string (S m.inn),.string (S m.out),.int .i64 m.shape,.slice iq m.notes.length ic],164) :: BLK) ((2+5*k)+2) (((PD) ++ un v.name (k:Int) I1 8) ++ un v.name (k:Int) I2 11) wx)
      case first=>as_aux_lemma=>
       obtain⟨wd,hwd⟩ : ∃wd,wd=wc.drew:=⟨_,rfl⟩;have kd:Bel wc wd:=by rw [hwd];exact(Bel.refl _).drew
       have HWD:=Lib.hid hwd;have hFd:=hFS.bel kd;have kk1:=hFd.cell b1;have kk2:=hFd.cell b2;have kk3:=hFd.cell b3;clear hwd;rcases HPV.out with h0|⟨j,g,hkj,hg1,hg2⟩
       ·have hO:=Lib.hid (show true=I2 by rw [←HI2.out,decide_eq_true h0,Bool.true_or])
        have hk0n : ¬(0<k):=by omega
        clear h0;refine qae 15 (by kernel_rfl) (by kernel_rfl) HWD.out ?_
        (simp only [List.take_succ_cons,List.take_zero,List.drop_succ_cons,List.drop_zero]);(repeat (first|((with_reducible refine wpStill_step (fun K hK=>?_));go_simp;(with_reducible refine hK _ ?_);clear hK K)|((with_reducible refine qaf ?_ ?_);(with_unfolding_all rfl))));(with_reducible refine wpStill_nil ?_)
        go_wp2_with (go_at_call 70;(with_reducible refine(hFd.add (by omega) _ _ _).mono ?_);rintro e w9 ⟨rfl,h9⟩;have hend:=Lib.hid h9;clear h9)
        go_meet;exact hend.out.okc hO.out
       ·have hk00n:0<k:=by omega
        have hO:=Lib.hid (show Ck.ltS g.name m.name=I2 by rw [←HI2.out,hg1,decide_eq_false (show ¬ k=0 by omega),Bool.false_or]);have d1:=hFd.bel0.some hg2;have hk00:(0:Int)<(k:Int):=by omega
        have jw3:(k:Int)-1=(j:Int):=by omega
        have jw2:IntKind.i64.wrap (j:Int)=(j:Int):=wrap_small _ (by omega) (by omega);have jw:IntKind.i64.wrap ((k:Int)-1)=(j:Int):=by rw [jw3];exact jw2
        have j1:(j:Int)<(v.meths.length:Int):=by omega
        have j0:(0:Int)<=(j:Int):=by omega
        have hz:(Op.bytesLess (S m.name).toList (S g.name).toList || ((S m.name).toList == (S g.name).toList)) = !I2:=by
         rw [←hO.out, ←gtr_S];cases Op.bytesLess (S m.name).toList (S g.name).toList <;> cases ((S m.name).toList == (S g.name).toList) <;> rfl
        generalize hz1:Op.bytesLess (S m.name).toList (S g.name).toList=Z1 at hz;generalize hz2:((S m.name).toList == (S g.name).toList)=Z2 at hz;have HZ:=Lib.hid hz;clear hkj hg1 hg2 hz;cases Z1
        all_goals cases Z2
        all_goals
         refine qae 15 (by kernel_rfl) (by kernel_rfl) HWD.out ?_
         (simp only [List.take_succ_cons,List.take_zero,List.drop_succ_cons,List.drop_zero]);(repeat (first|((with_reducible refine wpStill_step (fun K hK=>?_));go_simp;(with_reducible refine hK _ ?_);clear hK K)|((with_reducible refine qaf ?_ ?_);(with_unfolding_all rfl))));(with_reducible refine wpStill_nil ?_)
         go_wp2_with (go_at_call 70;(with_reducible refine(hFd.add (by omega) _ _ _).mono ?_);rintro e w9 ⟨rfl,h9⟩;have hend:=Lib.hid h9;clear h9)
         go_meet;exact hend.out.okc (by have h:=HZ.out;cases I2 <;> simp_all)
      case rest=>
       have hFS:=hcut;clear hcut
       go_upto_region 10 with(fail)
       go_cut [] (fun wx=>RS w (w.heap.size+1+1) v.name w ((wo.heap.size,#[.string (S m.name),.string (S m.inn),.string (S m.out),.int .i64 m.shape,.slice iq m.notes.length ic],164) :: BLK) ((2+5*k)+3) ((((PD) ++ un v.name (k:Int) I1 8) ++ un v.name (k:Int) I2 11) ++ un v.name (k:Int) (IA && IB) 12) wx)
       case first=>as_aux_lemma=>
        have kk1:=hFS.cell b1;have kk2:=hFS.cell b2;have kk3:=hFS.cell b3;by_cases hA:A<0
        ·have HA:=Lib.hid (show IA=false by have h:=N1.out;cases hI:IA;rfl;rw [hI]at h;have:=h.2 rfl;omega)
         go_wp2_with (first
          | (go_at_call 111;(with_reducible refine(CA.out _ (RS.bel0 hFS)).mono ?_);rintro e w1 ⟨rfl,g1⟩;have hF1:=RS.bel hFS g1;have kk1:=hF1.cell b1;have kk2:=hF1.cell b2;have kk3:=hF1.cell b3;clear g1)
          | (go_at_call 70;(with_reducible refine(hF1.add (by omega) _ _ _).mono ?_);rintro e w9 ⟨rfl,h9⟩;have hend:=Lib.hid h9;clear h9))
         all_goals go_meet
         all_goals exact hend.out.okc (by rw [HA.out];simp;try omega)
        ·have HA:=Lib.hid (show IA=true from N1.out.1 (by omega))
         by_cases hB:B<0
         ·have HB:=Lib.hid (show IB=false by have h:=N2.out;cases hI:IB;rfl;rw [hI]at h;have:=h.2 rfl;omega)
          go_wp2_with (first
           | (go_at_call 111;(with_reducible refine(CA.out _ (RS.bel0 hFS)).mono ?_);rintro e w1 ⟨rfl,g1⟩;have hF1:=RS.bel hFS g1;have kk1:=hF1.cell b1;have kk2:=hF1.cell b2;have kk3:=hF1.cell b3;clear g1)
           | (go_at_call 111;(with_reducible refine(CB.out _ (RS.bel0 hF1)).mono ?_);rintro e w2 ⟨rfl,g2⟩;have hF2:=RS.bel hF1 g2;have kk1:=hF2.cell b1;have kk2:=hF2.cell b2;have kk3:=hF2.cell b3;clear g2)
           | (go_at_call 70;(with_reducible refine(hF2.add (by omega) _ _ _).mono ?_);rintro e w9 ⟨rfl,h9⟩;have hend:=Lib.hid h9;clear h9))
          all_goals go_meet
          all_goals exact hend.out.okc (by rw [HA.out,HB.out];simp [hB];try omega)
         ·have HB:=Lib.hid (show IB=true from N2.out.1 (by omega))
          go_wp2_with (first
           | (go_at_call 111;(with_reducible refine(CA.out _ (RS.bel0 hFS)).mono ?_);rintro e w1 ⟨rfl,g1⟩;have hF1:=RS.bel hFS g1;have kk1:=hF1.cell b1;have kk2:=hF1.cell b2;have kk3:=hF1.cell b3;clear g1)
           | (go_at_call 111;(with_reducible refine(CB.out _ (RS.bel0 hF1)).mono ?_);rintro e w2 ⟨rfl,g2⟩;have hF2:=RS.bel hF1 g2;have kk1:=hF2.cell b1;have kk2:=hF2.cell b2;have kk3:=hF2.cell b3;clear g2)
           | (go_at_call 70;(with_reducible refine(hF2.add (by omega) _ _ _).mono ?_);rintro e w9 ⟨rfl,h9⟩;have hend:=Lib.hid h9;clear h9))
          all_goals go_meet
          all_goals exact hend.out.okc (by rw [HA.out,HB.out];simp [hB];try omega)
       case rest=>
        have hFS:=hcut;clear hcut
        go_upto_region 11 with(fail)
        go_cut [] (fun wx=>RS w (w.heap.size+1+1) v.name w ((wo.heap.size,#[.string (S m.name),.string (S m.inn),.string (S m.out),.int .i64 m.shape,.slice iq m.notes.length ic],164) :: BLK) ((2+5*k)+4) (((((PD) ++ un v.name (k:Int) I1 8) ++ un v.name (k:Int) I2 11) ++ un v.name (k:Int) (IA && IB) 12) ++ un v.name (k:Int) I4 1) wx)
        case first=>as_aux_lemma=>
         have kk1:=hFS.cell b1;have kk2:=hFS.cell b2;have kk3:=hFS.cell b3;by_cases ha:m.shape<1
         all_goals by_cases hb:4<m.shape
         all_goals (first|(exfalso;omega)|skip)
         all_goals
          go_wp2_with (go_at_call 70;(with_reducible refine(hFS.add (by omega) _ _ _).mono ?_);rintro e w9 ⟨rfl,h9⟩;have hend:=Lib.hid h9;clear h9)
          all_goals go_meet
          all_goals exact hend.out.okc (by rw [←HI4.out,Bool.eq_iff_iff];simp;omega)
        case rest=>
         have hFS:=hcut;clear hcut;have kk1:=hFS.cell b1;have kk2:=hFS.cell b2;have kk3:=hFS.cell b3
         go_wp2_with (go_at_call 108;(with_reducible refine(hFS.notes (by omega) _ _ _ _ HNT.out).mono ?_);rintro e w9 ⟨rfl,h9⟩;have hend:=Lib.hid h9;clear h9)
         refine⟨⟨k+1,done ++ FP,by omega,by go_num,?_,hgo2⟩,by simp [intOf];omega⟩;have h10:=hend.out.dropb.moreN (N2:=2+5*(k+1)) (by omega);rw [HIP.out];rw [HPD.out]at h10
         simpa only [List.append_assoc]using h10
    ·have hkl:k=v.meths.length:=by omega
     have hdn:done=TF:=by
      have h:=hgo.out;rw [hkl,List.drop_length]at h
      simpa [qd2]using h
     subst hdn;subst hkl;clear hgo;have kk1:=hFS.cell b1;have kk2:=hFS.cell b2
     go_upto_region 14 with(go_at_call 108;(with_reducible refine(hFS.notes (by omega) _ _ _ _ HE3.out).mono ?_);rintro e w9 ⟨rfl,h9⟩;have hend:=Lib.hid h9;clear h9)
     have hfin:=hend.out;obtain⟨vv,z1,z2⟩:=hfin.out;have hbz:=hfin.bel0;have Z2:=Lib.hid z2;clear hFS kk1 kk2 hend hfin z2;go_wp2;go_ret;refine⟨vv,rfl,?_,hbz.out⟩;rw [HV.out];exact Z2.out
end
section
open Go.RowKit Ck
def NS (w:World) (c:Array Value) (v:Value) (xs:List Str) (wr:World):Prop:=
 Below w.heap.size w wr/\wr.heap[w.heap.size]? = some (.cells c 26 (0,0))/\wr.ownsRow (w.heap.size+1) 9 1 v xs.length (xs.map strV)
section
variable {w : World} {c : Array Value} {v : Value} {xs : List Str} {wr : World}
theorem NS.bel {w2:World} (h:NS w c v xs wr) (k:Bel wr w2):NS w c v xs w2:=by
 obtain⟨h1,h2,h3⟩:=h;exact⟨Bel.of h1 k,(Below.block k _ (Array.getElem?_eq_some_iff.1 h2).1).trans h2,qge h3 k⟩
theorem NS.base (h:NS w c v xs wr):Bel w wr:=h.1
theorem NS.boxed (h:NS w c v xs wr) : ∀o,wr.cell? ⟨w.heap.size,o,none⟩=c[o]?:=fun o=>Lib.cell_of_heap h.2.1 o
theorem NS.size (h:NS w c v xs wr):w.heap.size+1<=wr.heap.size:=(Array.getElem?_eq_some_iff.1 h.2.1).1
theorem NS.own (h:NS w c v xs wr):wr.ownsRow (w.heap.size+1) 9 1 v xs.length (xs.map strV):=h.2.2
theorem NS.start (w:World) (c:Array Value):NS w c (.slice none 0 0) [] (w.alloc (.cells c 26)):=
 ⟨(Below.refl _ _).alloc (Nat.le_refl _) _,heap_alloc_new _ _,rfl,.inl ⟨rfl,rfl⟩⟩
theorem NS.put {w2:World} {g cap:Nat} {x:Str} (h:NS w c v xs wr) (hown:w2.ownsRow (w.heap.size+1) 9 1 (.slice (some ⟨g,0,none⟩) (xs.length+1) cap) (xs.length+1) (xs.map strV ++ [.string (S x)])) (hg:wr.grownBy w2 v.ownBlock) :
  NS w c (.slice (some ⟨g,0,none⟩) (xs.length+1) cap) (xs ++ [x]) w2:=by
 have hsz:=h.size;obtain⟨h1,h2,h3⟩:=h;refine⟨h1.grown hg h1.size (fun k hk=>by have:=(h3.lt k hk).1;omega),(hg.block _ hsz (fun e=>by have:=(h3.lt _ e.symm).1;omega)).trans h2,?_⟩;rw [List.length_append,List.map_append];exact hown
end
theorem qj1 {w:World} {B B':Nat} {e:TypeId} {z:Nat} {v:Value} {n:Nat} {xs:List Value} (h:w.ownsRow B e z v n xs) (hb:B'<=B):w.ownsRow B' e z v n xs:=
 ⟨h.1,h.2.imp id (fun⟨g,cap,cur,h1,h2,r⟩=>⟨g,cap,cur,h1,Nat.le_trans hb h2,r⟩)⟩
def qdh (w:World) (l:List Str) (e:Ending) (w':World):Prop := ∃v,e=.returned v/\w'.ownsRow w.heap.size 9 1 v l.length (l.map strV)/\Below w.heap.size w w'
theorem qp4 (sq1 sq2 sq3:Option Addr) (sc1 sc2 sc3:Nat) (s:PSchema) (w:World) (hs:VSchema w [.slice sq1 s.msgs.length sc1,.slice sq2 s.enums.length sc2,.slice sq3 s.svcs.length sc3] s) (hq:s.msgs.length<=1000000000) :
  Calls Tryz.prog 69 #[.agg #[.slice sq1 s.msgs.length sc1,.slice sq2 s.enums.length sc2,.slice sq3 s.svcs.length sc3],.int .i64 1] w (qdh w (s.msgs.map (·.name))):=by
 obtain⟨_,_,_,hcs,hm1,hm2,hm3⟩:=hs;cases hcs;obtain⟨q0,c0,hq0,hl0,_,he0⟩:=hm1;cases hq0;have EL:=Lib.hid he0;obtain⟨i0,hi,hz0,hz1,hz2⟩:=info_parts qim;have hL:=NS.start w #[.slice sq1 s.msgs.length sc1,.slice sq2 s.enums.length sc2,.slice sq3 s.svcs.length sc3];have HT:=Lib.hid (show [] ++ (s.msgs.drop 0).map (·.name)=(s.msgs.map (·.name))from rfl);generalize (s.msgs.map (·.name))=T at HT;have kk:=hL.boxed;clear he0 hm2 hm3
 go_enter Tryz.func69,Tryz.ntmps69
 go_wp2
 go_loopw [5,6] (fun v i wr => ∃(k:Nat) (xs:List Str) (v5:Value),v5=v/\k<=s.msgs.length/\i=.int .i64 k/\NS w #[.slice sq1 s.msgs.length sc1,.slice sq2 s.enums.length sc2,.slice sq3 s.svcs.length sc3] v5 xs wr/\xs.length<=k/\Hid (xs ++ (s.msgs.drop k).map (·.name)=T)) (fun _ i _=>s.msgs.length-(intOf i).toNat)
 case atStart=>exact⟨0,[],_,rfl,by omega,rfl,hL,by simp,HT⟩
 case round=>
  clear hL kk;obtain⟨k,xs,v5,rfl,hk,rfl,hL,hxl,hx⟩:=hrel;by_cases hlt:k<s.msgs.length
  ·have hki:(k:Int)<(s.msgs.length:Int):=by omega
   have hg:=List.getElem?_eq_getElem hlt;obtain⟨b,off,hqq,hbs,cs,hce,hvs⟩:=EL.out k _ hg;have hdr:s.msgs.drop k=s.msgs[k] :: s.msgs.drop (k+1):=List.drop_eq_getElem_cons hlt;have hx2:=Lib.hid (show(xs ++ [s.msgs[k].name]) ++ (s.msgs.drop (k+1)).map (·.name)=T by rw [←hx.out,hdr,List.map_cons,List.append_assoc];rfl);subst hqq;obtain⟨_,_,_,_,hvv,_⟩:=hvs;subst hvv;have hLb0:=hL.base;have e0:=hLb0.some (hce 0 _ rfl);rw [Nat.add_zero]at e0;clear hce hx hdr hg hLb0;generalize s.msgs[k]=x at *;have hsz:=hL.size;have kk:=hL.boxed;obtain⟨wa,hwa⟩ : ∃wa,wa=wr.alloc (.cells #[.string (S x.name)] 9):=⟨_,rfl⟩;have hLa:=hL.bel ((Bel.refl wr).alloc (.cells #[.string (S x.name)] 9));have hown:=hLa.own;have H1:=Lib.hid hLa;clear hLa hL
   go_wp2_with (at_builtin;refine wpList_append_lies _ rfl _ _ 54 rfl (w.heap.size+1) 9 i0 (.string ByteArray.empty) 1 16 Tryz.underlying54 hi hz0 hz1 hz2 rfl (by decide) v5 xs.length (xs.map strV) rfl hown ⟨wr.heap.size,0,none⟩ 1 1 [.string (S x.name)] rfl rfl (World.news_of_block (heap_alloc_new _ _)) (by simp [Value.oneCell']) (by decide) ?c63 ?cby ?cbase (wr.heap.size+1) (by simp) ?_)
   case c63=>unfold maxLen;omega
   case cby=>omega
   case cbase=>first|omega|(simp;omega)
   intro g cap w2 hown1 hgrow hgg hglt;have HP:=Lib.hid (NS.put H1.out hown1 hgrow);clear hown1 hgrow hgg hglt hown kk;go_wp2;exact⟨⟨k+1,_,_,rfl,by omega,by go_num,HP.out,by simp;omega,hx2⟩,by simp [intOf];omega⟩
  ·have hkl:k=s.msgs.length:=by omega
   have hxe:xs=T:=by have:=hx.out;rw [hkl,List.drop_length]at this;simpa using this
   subst hxe;subst hkl;clear hx;have kk:=hL.boxed;go_wp2
   go_loopw [5,7] (fun v i wr=>v5=v/\i=.int .i64 0/\NS w #[.slice sq1 s.msgs.length sc1,.slice sq2 s.enums.length sc2,.slice sq3 s.svcs.length sc3] v5 xs wr) (fun _ _ _=>0)
   case atStart=>exact⟨rfl,rfl,hL⟩
   case round=>
    clear hL kk;obtain⟨rfl,rfl,hL⟩:=hrel;have kk:=hL.boxed;go_wp2
    go_loopw [5,8] (fun v i wr=>v5=v/\i=.int .i64 0/\NS w #[.slice sq1 s.msgs.length sc1,.slice sq2 s.enums.length sc2,.slice sq3 s.svcs.length sc3] v5 xs wr) (fun _ _ _=>0)
    case atStart=>exact⟨rfl,rfl,hL⟩
    case round=>
     clear hL kk;obtain⟨rfl,rfl,hL⟩:=hrel;have kk:=hL.boxed;go_wp2;go_ret;exact⟨_,rfl,qj1 (B':=w.heap.size) hL.own (by omega),hL.base.out⟩
theorem qp3 (sq1 sq2 sq3:Option Addr) (sc1 sc2 sc3:Nat) (s:PSchema) (w:World) (hs:VSchema w [.slice sq1 s.msgs.length sc1,.slice sq2 s.enums.length sc2,.slice sq3 s.svcs.length sc3] s) (hq:s.enums.length<=1000000000) :
  Calls Tryz.prog 69 #[.agg #[.slice sq1 s.msgs.length sc1,.slice sq2 s.enums.length sc2,.slice sq3 s.svcs.length sc3],.int .i64 2] w (qdh w (s.enums.map (·.name))):=by
 obtain⟨_,_,_,hcs,hm1,hm2,hm3⟩:=hs;cases hcs;obtain⟨q0,c0,hq0,hl0,_,he0⟩:=hm2;cases hq0;have EL:=Lib.hid he0;obtain⟨i0,hi,hz0,hz1,hz2⟩:=info_parts qim;have hL:=NS.start w #[.slice sq1 s.msgs.length sc1,.slice sq2 s.enums.length sc2,.slice sq3 s.svcs.length sc3];have HT:=Lib.hid (show [] ++ (s.enums.drop 0).map (·.name)=(s.enums.map (·.name))from rfl);generalize (s.enums.map (·.name))=T at HT;have kk:=hL.boxed;clear he0 hm1 hm3
 go_enter Tryz.func69,Tryz.ntmps69
 go_wp2
 go_loopw [5,6] (fun v i wr=>.slice none 0 0=v/\i=.int .i64 0/\NS w #[.slice sq1 s.msgs.length sc1,.slice sq2 s.enums.length sc2,.slice sq3 s.svcs.length sc3] (.slice none 0 0) [] wr) (fun _ _ _=>0)
 case atStart=>exact⟨rfl,rfl,hL⟩
 case round=>
  clear hL kk;obtain⟨rfl,rfl,hL⟩:=hrel;have kk:=hL.boxed;go_wp2
  go_loopw [5,7] (fun v i wr => ∃(k:Nat) (xs:List Str) (v5:Value),v5=v/\k<=s.enums.length/\i=.int .i64 k/\NS w #[.slice sq1 s.msgs.length sc1,.slice sq2 s.enums.length sc2,.slice sq3 s.svcs.length sc3] v5 xs wr/\xs.length<=k/\Hid (xs ++ (s.enums.drop k).map (·.name)=T)) (fun _ i _=>s.enums.length-(intOf i).toNat)
  case atStart=>exact⟨0,[],_,rfl,by omega,rfl,hL,by simp,HT⟩
  case round=>
   clear hL kk;obtain⟨k,xs,v5,rfl,hk,rfl,hL,hxl,hx⟩:=hrel;by_cases hlt:k<s.enums.length
   ·have hki:(k:Int)<(s.enums.length:Int):=by omega
    have hg:=List.getElem?_eq_getElem hlt;obtain⟨b,off,hqq,hbs,cs,hce,hvs⟩:=EL.out k _ hg;have hdr:s.enums.drop k=s.enums[k] :: s.enums.drop (k+1):=List.drop_eq_getElem_cons hlt;have hx2:=Lib.hid (show(xs ++ [s.enums[k].name]) ++ (s.enums.drop (k+1)).map (·.name)=T by rw [←hx.out,hdr,List.map_cons,List.append_assoc];rfl);subst hqq;obtain⟨_,_,_,hvv,_⟩:=hvs;subst hvv;have hLb0:=hL.base;have e0:=hLb0.some (hce 0 _ rfl);rw [Nat.add_zero]at e0;clear hce hx hdr hg hLb0;generalize s.enums[k]=x at *;have hsz:=hL.size;have kk:=hL.boxed;obtain⟨wa,hwa⟩ : ∃wa,wa=wr.alloc (.cells #[.string (S x.name)] 9):=⟨_,rfl⟩;have hLa:=hL.bel ((Bel.refl wr).alloc (.cells #[.string (S x.name)] 9));have hown:=hLa.own;have H1:=Lib.hid hLa;clear hLa hL
    go_wp2_with (at_builtin;refine wpList_append_lies _ rfl _ _ 54 rfl (w.heap.size+1) 9 i0 (.string ByteArray.empty) 1 16 Tryz.underlying54 hi hz0 hz1 hz2 rfl (by decide) v5 xs.length (xs.map strV) rfl hown ⟨wr.heap.size,0,none⟩ 1 1 [.string (S x.name)] rfl rfl (World.news_of_block (heap_alloc_new _ _)) (by simp [Value.oneCell']) (by decide) ?c63 ?cby ?cbase (wr.heap.size+1) (by simp) ?_)
    case c63=>unfold maxLen;omega
    case cby=>omega
    case cbase=>first|omega|(simp;omega)
    intro g cap w2 hown1 hgrow hgg hglt;have HP:=Lib.hid (NS.put H1.out hown1 hgrow);clear hown1 hgrow hgg hglt hown kk;go_wp2;exact⟨⟨k+1,_,_,rfl,by omega,by go_num,HP.out,by simp;omega,hx2⟩,by simp [intOf];omega⟩
   ·have hkl:k=s.enums.length:=by omega
    have hxe:xs=T:=by have:=hx.out;rw [hkl,List.drop_length]at this;simpa using this
    subst hxe;subst hkl;clear hx;have kk:=hL.boxed;go_wp2
    go_loopw [5,8] (fun v i wr=>v5=v/\i=.int .i64 0/\NS w #[.slice sq1 s.msgs.length sc1,.slice sq2 s.enums.length sc2,.slice sq3 s.svcs.length sc3] v5 xs wr) (fun _ _ _=>0)
    case atStart=>exact⟨rfl,rfl,hL⟩
    case round=>
     clear hL kk;obtain⟨rfl,rfl,hL⟩:=hrel;have kk:=hL.boxed;go_wp2;go_ret;exact⟨_,rfl,qj1 (B':=w.heap.size) hL.own (by omega),hL.base.out⟩
theorem qp2 (sq1 sq2 sq3:Option Addr) (sc1 sc2 sc3:Nat) (s:PSchema) (w:World) (hs:VSchema w [.slice sq1 s.msgs.length sc1,.slice sq2 s.enums.length sc2,.slice sq3 s.svcs.length sc3] s) (hq:s.svcs.length<=1000000000) :
  Calls Tryz.prog 69 #[.agg #[.slice sq1 s.msgs.length sc1,.slice sq2 s.enums.length sc2,.slice sq3 s.svcs.length sc3],.int .i64 3] w (qdh w (s.svcs.map (·.name))):=by
 obtain⟨_,_,_,hcs,hm1,hm2,hm3⟩:=hs;cases hcs;obtain⟨q0,c0,hq0,hl0,_,he0⟩:=hm3;cases hq0;have EL:=Lib.hid he0;obtain⟨i0,hi,hz0,hz1,hz2⟩:=info_parts qim;have hL:=NS.start w #[.slice sq1 s.msgs.length sc1,.slice sq2 s.enums.length sc2,.slice sq3 s.svcs.length sc3];have HT:=Lib.hid (show [] ++ (s.svcs.drop 0).map (·.name)=(s.svcs.map (·.name))from rfl);generalize (s.svcs.map (·.name))=T at HT;have kk:=hL.boxed;clear he0 hm1 hm2
 go_enter Tryz.func69,Tryz.ntmps69
 go_wp2
 go_loopw [5,6] (fun v i wr=>.slice none 0 0=v/\i=.int .i64 0/\NS w #[.slice sq1 s.msgs.length sc1,.slice sq2 s.enums.length sc2,.slice sq3 s.svcs.length sc3] (.slice none 0 0) [] wr) (fun _ _ _=>0)
 case atStart=>exact⟨rfl,rfl,hL⟩
 case round=>
  clear hL kk;obtain⟨rfl,rfl,hL⟩:=hrel;have kk:=hL.boxed;go_wp2
  go_loopw [5,7] (fun v i wr=>.slice none 0 0=v/\i=.int .i64 0/\NS w #[.slice sq1 s.msgs.length sc1,.slice sq2 s.enums.length sc2,.slice sq3 s.svcs.length sc3] (.slice none 0 0) [] wr) (fun _ _ _=>0)
  case atStart=>exact⟨rfl,rfl,hL⟩
  case round=>
   clear hL kk;obtain⟨rfl,rfl,hL⟩:=hrel;have kk:=hL.boxed;go_wp2
   go_loopw [5,8] (fun v i wr => ∃(k:Nat) (xs:List Str) (v5:Value),v5=v/\k<=s.svcs.length/\i=.int .i64 k/\NS w #[.slice sq1 s.msgs.length sc1,.slice sq2 s.enums.length sc2,.slice sq3 s.svcs.length sc3] v5 xs wr/\xs.length<=k/\Hid (xs ++ (s.svcs.drop k).map (·.name)=T)) (fun _ i _=>s.svcs.length-(intOf i).toNat)
   case atStart=>exact⟨0,[],_,rfl,by omega,rfl,hL,by simp,HT⟩
   case round=>
    clear hL kk;obtain⟨k,xs,v5,rfl,hk,rfl,hL,hxl,hx⟩:=hrel;by_cases hlt:k<s.svcs.length
    ·have hki:(k:Int)<(s.svcs.length:Int):=by omega
     have hg:=List.getElem?_eq_getElem hlt;obtain⟨b,off,hqq,hbs,cs,hce,hvs⟩:=EL.out k _ hg;have hdr:s.svcs.drop k=s.svcs[k] :: s.svcs.drop (k+1):=List.drop_eq_getElem_cons hlt;have hx2:=Lib.hid (show(xs ++ [s.svcs[k].name]) ++ (s.svcs.drop (k+1)).map (·.name)=T by rw [←hx.out,hdr,List.map_cons,List.append_assoc];rfl);subst hqq;obtain⟨_,_,hvv,_⟩:=hvs;subst hvv;have hLb0:=hL.base;have e0:=hLb0.some (hce 0 _ rfl);rw [Nat.add_zero]at e0;clear hce hx hdr hg hLb0;generalize s.svcs[k]=x at *;have hsz:=hL.size;have kk:=hL.boxed;obtain⟨wa,hwa⟩ : ∃wa,wa=wr.alloc (.cells #[.string (S x.name)] 9):=⟨_,rfl⟩;have hLa:=hL.bel ((Bel.refl wr).alloc (.cells #[.string (S x.name)] 9));have hown:=hLa.own;have H1:=Lib.hid hLa;clear hLa hL
     go_wp2_with (at_builtin;refine wpList_append_lies _ rfl _ _ 54 rfl (w.heap.size+1) 9 i0 (.string ByteArray.empty) 1 16 Tryz.underlying54 hi hz0 hz1 hz2 rfl (by decide) v5 xs.length (xs.map strV) rfl hown ⟨wr.heap.size,0,none⟩ 1 1 [.string (S x.name)] rfl rfl (World.news_of_block (heap_alloc_new _ _)) (by simp [Value.oneCell']) (by decide) ?c63 ?cby ?cbase (wr.heap.size+1) (by simp) ?_)
     case c63=>unfold maxLen;omega
     case cby=>omega
     case cbase=>first|omega|(simp;omega)
     intro g cap w2 hown1 hgrow hgg hglt;have HP:=Lib.hid (NS.put H1.out hown1 hgrow);clear hown1 hgrow hgg hglt hown kk;go_wp2;exact⟨⟨k+1,_,_,rfl,by omega,by go_num,HP.out,by simp;omega,hx2⟩,by simp [intOf];omega⟩
    ·have hkl:k=s.svcs.length:=by omega
     have hxe:xs=T:=by have:=hx.out;rw [hkl,List.drop_length]at this;simpa using this
     subst hxe;subst hkl;clear hx;have kk:=hL.boxed;go_wp2;go_ret;exact⟨_,rfl,qj1 (B':=w.heap.size) hL.own (by omega),hL.base.out⟩
theorem qdj (v:Value) (l:List Str) (w:World) (hv:Texts w v l) :
  Calls Tryz.prog 71 #[v] w fun e w'=>e=.returned (.bool (qhn l))/\Below w.heap.size w w':=by
 obtain⟨q,c,rfl,hl,hcap,hel⟩:=hv;have V:=Lib.hid (rise_one l);have EL:=Lib.hid hel;clear hel;generalize qhn l=T at V
 go_enter Tryz.func71,Tryz.ntmps71
 go_wp2
 go_loopw [3] (fun i wr => ∃k:Nat,1<=k/\k<=140737488355329/\i=.int .i64 k/\Bel w wr/\Hid (qdk l k=T)) (fun i _=>l.length+1-(intOf i).toNat)
 case atStart=>exact⟨1,by omega,by omega,rfl,Bel.refl _,V⟩
 case round=>
  obtain⟨k,hk1,hk2,rfl,kw,hgo⟩:=hrel;by_cases hlt:k<l.length
  ·have hki:(k:Int)<(l.length:Int):=by omega
   have hg:=List.getElem?_eq_getElem hlt;have hg1:=List.getElem?_eq_getElem (show k-1<l.length by omega);obtain⟨b,off,rfl,hbs,vs,hce,hvs⟩:=EL.out k _ hg;obtain⟨b',off',he',_,vs2,hce2,hvs2⟩:=EL.out (k-1) _ hg1;cases he';have hst:=qp6 l k _ _ hk1 hg1 hg;have hvs':vs=[.string (S l[k])]:=hvs;have hvs2':vs2=[.string (S l[k-1])]:=hvs2;obtain⟨wd,hwd⟩ : ∃wd,wd=wr.drew:=⟨_,rfl⟩;have kd:Bel w wd:=by rw [hwd];exact kw.drew
   have e0:wd.cell? ⟨b,off+k,none⟩=some (.string (S l[k])):=by
    have:=hce 0 (.string (S l[k])) (by rw [hvs'];rfl);rw [Nat.mul_one,Nat.add_zero]at this;exact kd.some this
   have e1:wd.cell? ⟨b,off+(k-1),none⟩=some (.string (S l[k-1])):=by
    have:=hce2 0 (.string (S l[k-1])) (by rw [hvs2'];rfl);rw [Nat.mul_one,Nat.add_zero]at this;exact kd.some this
   have HG:=Lib.hid (hgo.out.symm.trans hst);have HWD:=Lib.hid hwd;clear hce hce2 hvs hvs' hvs2 hvs2' hgo hst hg hg1 hwd;generalize l[k]=y at *;generalize l[k-1]=x at *;obtain⟨j,hj⟩ : ∃j,k=j+1:=⟨k-1,by omega⟩;have hkj:k-1=j:=by omega
   rw [hkj]at e1;have j0:(0:Int)<=(j:Int):=by omega
   have j1:(j:Int)<(l.length:Int):=by omega
   have k0:(0:Int)<=(k:Int):=by omega
   have jw:IntKind.i64.wrap ((k:Int)-1)=(j:Int):=by rw [show(k:Int)-1=(j:Int)by omega];exact wrap_small _ (by omega) (by omega)
   have jw2:IntKind.i64.wrap (j:Int)=(j:Int):=wrap_small _ (by omega) (by omega);have jw3:(k:Int)-1=(j:Int):=by omega
   clear hj hkj
   go_upto_region 4 with(fail)
   refine qae 9 (by kernel_rfl) (by kernel_rfl) HWD.out ?_
   (simp only [List.take_succ_cons,List.take_zero,List.drop_succ_cons,List.drop_zero]);(repeat (first|((with_reducible refine wpStill_step (fun K hK=>?_));go_simp;(with_reducible refine hK _ ?_);clear hK K)|((with_reducible refine qaf ?_ ?_);(with_unfolding_all rfl))));(with_reducible refine wpStill_nil ?_)
   go_wp2
   ·rename_i hor
    rw [qng,eq_S,decide_eq_true_iff]at hor;have hT:=qgx x y hor;go_ret;exact⟨qa7 (by rw [HG.out,hT];rfl),kd.out⟩
   ·rename_i hor
    rw [qng,eq_S,decide_eq_false_iff_not]at hor;have hT:=qk8 x y hor.1 hor.2;exact⟨⟨k+1,by omega,by omega,rfl,kd,Lib.hid (by rw [HG.out,hT];rfl)⟩,by simp [intOf];omega⟩
  ·have hki : ¬(k:Int)<(l.length:Int):=by omega
   have hT:T=true:=by rw [←hgo.out];exact rise_end l k (by omega)
   have HT:=Lib.hid hT;clear hT hgo;go_wp2;go_ret;exact⟨qa7 HT.out.symm,kw.out⟩
theorem qmj (v0 v1:Value) (a b:List Str) (w:World) (h0:Texts w v0 a) (h1:Texts w v1 b) :
  Calls Tryz.prog 72 #[v0,v1] w fun e w'=>e=.returned (.bool (a.any (fun x=>Id.has b x)))/\Below w.heap.size w w':=by
 obtain⟨q,c,rfl,hl,hcap,hel⟩:=h0;have EL:=Lib.hid hel;have HV:=Lib.hid (show(a.drop 0).any (fun x=>Id.has b x)=a.any (fun x=>Id.has b x)from rfl);have CH:=Lib.hid (fun x W (k:Bel w W)=>ref_Has v1 b (S x) x W (qhh (Sv.bel VStr.stays h1 k)) (by simp [S]));generalize a.any (fun x=>Id.has b x)=T at HV;clear hel h1
 go_enter Tryz.func72,Tryz.ntmps72
 go_wp2
 go_loopw [5] (fun i wr => ∃k:Nat,k<=a.length/\i=.int .i64 k/\Bel w wr/\Hid ((a.drop k).any (fun x=>Id.has b x)=T)) (fun i _=>a.length-(intOf i).toNat)
 case atStart=>exact⟨0,by omega,rfl,Bel.refl _,HV⟩
 case round=>
  obtain⟨k,hk,rfl,kw,hgo⟩:=hrel;by_cases hlt:k<a.length
  ·have hki:(k:Int)<(a.length:Int):=by omega
   have hg:=List.getElem?_eq_getElem hlt;obtain⟨b',off,rfl,hbs,vs,hce,hvs⟩:=EL.out k _ hg;have hvs':vs=[.string (S a[k])]:=hvs
   have e0:wr.cell? ⟨b',off+k,none⟩=some (.string (S a[k])):=by
    have:=hce 0 (.string (S a[k])) (by rw [hvs'];rfl);rw [Nat.mul_one,Nat.add_zero]at this;exact kw.some this
   have hdr:a.drop k=a[k] :: a.drop (k+1):=List.drop_eq_getElem_cons hlt;have hgo2:=Lib.hid (show(Id.has b a[k] || (a.drop (k+1)).any (fun x=>Id.has b x))=T by rw [←hgo.out,hdr,List.any_cons]);clear hce hvs hvs' hgo hdr hg;have HH:=CH.out a[k];generalize a[k]=x at *;have CX:=Lib.hid HH;clear HH;cases hR:Id.has b x with
   | true=>
    rw [hR]at hgo2 CX;clear hR
    go_wp2_with (go_at_call 99;(with_reducible refine(CX.out _ kw).mono ?_);rintro e w1 ⟨rfl,rfl⟩)
    go_ret;exact⟨qa7 (by rw [←hgo2.out];rfl),kw.out⟩
   | false=>
    rw [hR]at hgo2 CX;clear hR
    go_wp2_with (go_at_call 99;(with_reducible refine(CX.out _ kw).mono ?_);rintro e w1 ⟨rfl,rfl⟩)
    exact⟨⟨k+1,by omega,by go_num,kw,Lib.hid (by rw [←hgo2.out];rfl)⟩,by simp [intOf];omega⟩
  ·have hki : ¬(k:Int)<(a.length:Int):=by omega
   have hT:T=false:=by rw [←hgo.out,List.drop_eq_nil_of_le (by omega)];rfl
   have HT:=Lib.hid hT;clear hT hgo;go_wp2;go_ret;exact⟨qa7 HT.out.symm,kw.out⟩
end
end Go.Proofs.YtaaneecceiefoaaGreatDoor
