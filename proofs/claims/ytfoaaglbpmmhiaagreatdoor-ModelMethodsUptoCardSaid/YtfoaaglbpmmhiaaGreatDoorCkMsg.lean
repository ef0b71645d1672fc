import Derived.Test.YtfoaaglbpmmhiaaGreatDoorKitC
import Derived.Test.YtfoaaglbpmmhiaaGreatDoorCkField
import Derived.Test.YtfoaaglbpmmhiaaGreatDoorKitQ
import Derived.Test.YtfoaaglbpmmhiaaGreatDoorPrProg1
import Derived.Deep.DeepCutAuto
import Derived.Deep.CutBlock
set_option maxRecDepth 100000
set_option maxHeartbeats 4000000
set_option linter.unusedVariables false
set_option linter.unusedSimpArgs false
namespace Go.Proofs.YtfoaaglbpmmhiaaGreatDoor
open Go.RowKit Ck
theorem ck_inMessage (sq1 sq2 sq3:Option Addr) (sm1 sm2 sm3 sc1 sc2 sc3:Nat) (s:PSchema) (mn:Str) (mq1 mq2 mq3 mq4:Option Addr) (mm1 mm2 mm3 mm4 mc1 mc2 mc3 mc4:Nat) (m:PMsg) (fin:Str->Bool) (Bm kf:Nat) (w:World) (hs:VSchema w [.slice sq1 sm1 sc1,.slice sq2 sm2 sc2,.slice sq3 sm3 sc3] s) (hm0:VMsg w [.string (S mn),.slice mq1 mm1 mc1,.slice mq2 mm2 mc2,.slice mq3 mm3 mc3,.slice mq4 mm4 mc4] m) (hmp:MapIs boolElem w Bm kf (boolF fin)) (hM:ML w) (hnm:m.name.length<=100000000) (hl1:m.fields.length<=2000000) (hl2:m.res.length<=2000000) (hl3:m.gone.length<=2000000)
  (hfl : ∀ f ∈ m.fields,f.name.length<=1000000000/\f.un.length<=1000000000000000/\f.tn.length<=1000000000/\∀ n ∈ f.notes,n.name.length<=1000000000) (hgl : ∀ g ∈ m.gone,g.length<=1000000000) (hnl : ∀ n ∈ m.notes,n.name.length<=1000000000) :
  Calls Tryz.prog 84 #[.agg #[.slice sq1 sm1 sc1,.slice sq2 sm2 sc2,.slice sq3 sm3 sc3],.agg #[.string (S mn),.slice mq1 mm1 mc1,.slice mq2 mm2 mc2,.slice mq3 mm3 mc3,.slice mq4 mm4 mc4],.map (some Bm)] w (ProbsOut w (inMessage s m fin)):=by
 obtain ⟨_,_,_,_,hcm,hm1,hm2,hm3,hm4⟩:=hm0;cases hcm;obtain rfl:=sl_len hm1;obtain rfl:=sl_len hm2;obtain rfl:=sl_len hm3;obtain rfl:=sl_len hm4;have hm0:VMsg w [.string (S m.name),.slice mq1 m.fields.length mc1,.slice mq2 m.res.length mc2,.slice mq3 m.gone.length mc3,.slice mq4 m.notes.length mc4] m:=⟨_,_,_,_,rfl,hm1,hm2,hm3,hm4⟩;have hUN:=fun W (k:Bel w W) => ck_usableName m.name W hnm (hM.below k)
 have hCY:=fun W (k:Bel w W) => ck_cyclic sq1 sq2 sq3 sm1 sm2 sm3 sc1 sc2 sc3 s m.name mq1 mq2 mq3 mq4 m.fields.length m.res.length m.gone.length m.notes.length mc1 mc2 mc3 mc4 m fin Bm kf W (hs.stays_bel k) (VMsg.stays _ _ _ _ k hm0) (hmp.bel k) (fun f hf => (hfl f hf).2.2.1) hl1
 have V:inMessage s m fin=un m.name (-1) (usableName m.name) 8 ++ un m.name (-1) (decide (m.fields.length<=64/\m.res.length<=16/\m.gone.length<=16)) 3 ++ fieldsGo s m 0 m.fields ++ spans m.name m.res 1 65535 ++ goneP m.name m.gone ++ noted m.name (-1) m.notes 1 ++ un m.name (-1) (!cyclic s m fin) 19:=rfl;generalize usableName m.name=O1 at hUN V;generalize hO2:decide (m.fields.length<=64/\m.res.length<=16/\m.gone.length<=16)=O2 at V;generalize cyclic s m fin=Q3 at hCY V;generalize hTF:fieldsGo s m 0 m.fields=TF at V;have HTF:=Lib.hid hTF;clear hTF;obtain ⟨BLK,hBLK⟩ : ∃ BLK:List (Nat × Array Value × TypeId),BLK=[(w.heap.size,#[.slice sq1 sm1 sc1,.slice sq2 sm2 sc2,.slice sq3 sm3 sc3],26),(w.heap.size + 1,#[.string (S m.name),.slice mq1 m.fields.length mc1,.slice mq2 m.res.length mc2,.slice mq3 m.gone.length mc3,.slice mq4 m.notes.length mc4],44)]:=⟨_,rfl⟩;have b1:(w.heap.size,#[.slice sq1 sm1 sc1,.slice sq2 sm2 sc2,.slice sq3 sm3 sc3],26) ∈ BLK:=by rw [hBLK];exact List.mem_cons_self
 have b2:(w.heap.size + 1,#[.string (S m.name),.slice mq1 m.fields.length mc1,.slice mq2 m.res.length mc2,.slice mq3 m.gone.length mc3,.slice mq4 m.notes.length mc4],44) ∈ BLK:=by rw [hBLK];exact List.mem_cons_of_mem _ List.mem_cons_self
 have hst:=FS.start w ((w.alloc (.cells #[.slice sq1 sm1 sc1,.slice sq2 sm2 sc2,.slice sq3 sm3 sc3] 26)).alloc (.cells #[.string (S m.name),.slice mq1 m.fields.length mc1,.slice mq2 m.res.length mc2,.slice mq3 m.gone.length mc3,.slice mq4 m.notes.length mc4] 44)) m.name (-1) BLK (((Bel.refl w).alloc _).alloc _) (fun x hx => by
  rw [hBLK] at hx;simp only [List.mem_cons,List.not_mem_nil,or_false] at hx;rcases hx with rfl | rfl
  ·exact ⟨(heap_alloc_old _ _ (by simp)).trans (heap_alloc_new _ _),by show 26 ≠ 164;decide⟩
  ·exact ⟨heap_alloc_at _ _ _ (by simp),by show 44 ≠ 164;decide⟩)
 simp only [World.size_alloc] at hst;have UN:=Lib.hid hUN;have CY:=Lib.hid hCY;have HV:=Lib.hid V;have HO2:=Lib.hid hO2;have HM0:=Lib.hid hm0;have HM1:=Lib.hid hm1;have HM2:=Lib.hid hm2;have HM3:=Lib.hid hm3;have HM4:=Lib.hid hm4;have HS:=Lib.hid hs;have HFL:=Lib.hid hfl;have HGL:=Lib.hid hgl;have HNL:=Lib.hid hnl;clear hUN hCY V hO2 hm0 hm1 hm2 hm3 hm4 hs hfl hgl hnl hBLK hmp
 go_enter Tryz.func84,Tryz.ntmps84
 go_upto_region 2 with (fail)
 go_cut [] (fun wx => FS w (w.heap.size + 1 + 1) m.name (-1) w BLK 1 (un m.name (-1) O1 8) wx)
 case first =>
  have hFS:=hst;have kk1:=hFS.cell b1;have kk2:=hFS.cell b2
  go_wp2_with (first
   | (go_at_call 118;(with_reducible refine (UN.out _ (FS.bel0 hFS)).mono ?_);rintro e w1 ⟨rfl,g1⟩;have hF1:=FS.bel hFS g1;have kk1:=hF1.cell b1;have kk2:=hF1.cell b2;clear g1)
   | (go_at_call 80;(with_reducible refine (hF1.unless (by omega) _ _).mono ?_);rintro e w9 ⟨rfl,h9⟩;have hend:=Lib.hid h9;clear h9))
  go_meet
  exact hend.out
 case rest =>
  have hFS:=hcut;clear hcut hst
  go_upto_region 3 with (fail)
  go_cut [] (fun wx => FS w (w.heap.size + 1 + 1) m.name (-1) w BLK 2 (un m.name (-1) O1 8 ++ un m.name (-1) O2 3) wx)
  case first =>
   have kk1:=hFS.cell b1;have kk2:=hFS.cell b2;by_cases ha:m.fields.length<=64
   ·have HO:=Lib.hid (show decide (m.res.length<=16/\m.gone.length<=16)=O2 by rw [← HO2.out];simp [ha])
    have hai:(m.fields.length:Int)<=64:=by omega
    go_wp2_with (go_at_call 80;(with_reducible refine (hFS.unless (by omega) _ _).mono ?_);rintro e w9 ⟨rfl,h9⟩;have hend:=Lib.hid h9;clear h9)
    all_goals go_meet
    all_goals exact hend.out.okc (by rw [← HO.out,Bool.eq_iff_iff];simp;try omega)
   ·have HO:=Lib.hid (show false=O2 by rw [← HO2.out];exact (decide_eq_false (fun h => ha h.1)).symm)
    have hai : ¬ (m.fields.length:Int)<=64:=by omega
    go_wp2_with (go_at_call 80;(with_reducible refine (hFS.unless (by omega) _ _).mono ?_);rintro e w9 ⟨rfl,h9⟩;have hend:=Lib.hid h9;clear h9)
    all_goals go_meet
    all_goals exact hend.out.okc HO.out
  case rest =>
   have hFS:=hcut;clear hcut;have kk1:=hFS.cell b1;have kk2:=hFS.cell b2;have hm0i:((0:Nat):Int)=0:=rfl
   go_wp2
   go_loopw [39] (fun i wr => ∃ (k:Nat) (done:List PProb),k<=m.fields.length/\i=.int .i64 k/\FS w (w.heap.size + 1 + 1) m.name (-1) w BLK (2 + 10 * k) ((un m.name (-1) O1 8 ++ un m.name (-1) O2 3) ++ done) wr/\Hid (done ++ fieldsGo s m k (m.fields.drop k)=TF)) (fun i _ => m.fields.length - (intOf i).toNat)
   case atStart => exact ⟨0,[],by omega,rfl,by rw [List.append_nil];exact hFS,Lib.hid HTF.out⟩
   case round =>
    clear kk1 kk2 hFS;obtain ⟨k,done,hk,rfl,hFS,hgo⟩:=hrel;by_cases hlt:k < m.fields.length
    ·have hki:(k:Int) < (m.fields.length:Int):=by omega
     have hdr:m.fields.drop k=m.fields[k] :: m.fields.drop (k + 1):=List.drop_eq_getElem_cons hlt;have hgo2:=Lib.hid (show (done ++ fieldP s m k m.fields[k]) ++ fieldsGo s m (k + 1) (m.fields.drop (k + 1))=TF by rw [← hgo.out,hdr,List.append_assoc];rfl);have hfk:=HFL.out _ (List.getElem_mem hlt);have hps:((un m.name (-1) O1 8 ++ un m.name (-1) O2 3) ++ done).length<=2 + 10 * k:=hFS.2.2.2.1;have CF:=Lib.hid (fd_field w (w.heap.size + 1 + 1) (-1) ((un m.name (-1) O1 8 ++ un m.name (-1) O2 3) ++ done) wr sq1 sq2 sq3 sm1 sm2 sm3 sc1 sc2 sc3 s m.name mq1 mq2 mq3 mq4 m.fields.length m.res.length m.gone.length m.notes.length mc1 mc2 mc3 mc4 m k hFS.1 (by omega) hFS.bel0 HS.out HM0.out hlt hfk.1 hfk.2.1 hfk.2.2.2);have hfl10:=fieldP_len s m k m.fields[k];clear hgo hdr hfk;generalize fieldP s m k m.fields[k]=FP at CF hgo2 hfl10;have kk1:=hFS.cell b1;have kk2:=hFS.cell b2
     go_wp2_with (go_at_call 119;(with_reducible refine CF.out.mono ?_);rintro e w9 h9;have he:=h9.1;(subst he);have hend:=Lib.hid h9;clear h9)
     refine ⟨⟨k + 1,done ++ FP,by omega,rfl,?_,hgo2⟩,by simp [intOf];omega⟩;rw [← List.append_assoc];exact FS.of_post hFS hend.out (by rw [List.length_append];omega)
    ·have hkl:k=m.fields.length:=by omega
     have hdn:done=TF:=by
      have:=hgo.out;rw [hkl,List.drop_length] at this
      simpa [fieldsGo] using this
     subst hdn;subst hkl;clear hgo;have kk1:=hFS.cell b1;have kk2:=hFS.cell b2;have hps:((un m.name (-1) O1 8 ++ un m.name (-1) O2 3) ++ done).length<=2 + 10 * m.fields.length:=hFS.2.2.2.1;have CS:=Lib.hid (fd_spans w (w.heap.size + 1 + 1) m.name ((un m.name (-1) O1 8 ++ un m.name (-1) O2 3) ++ done) wr _ m.res 1 65535 hFS.1 (by omega) (by omega) hFS.bel0 HM2.out);have hsl:(spans m.name m.res 1 65535).length<=2 * m.res.length:=spans_len _ _ _ _ _;generalize spans m.name m.res 1 65535=TSP at CS hsl HV
     go_upto_region 9 with (fail)
     go_cut [] (fun wx => FS w (w.heap.size + 1 + 1) m.name (-1) w BLK (2 + 10 * m.fields.length + 2 * m.res.length) ((un m.name (-1) O1 8 ++ un m.name (-1) O2 3) ++ done ++ TSP) wx)
     case first =>
      go_wp2_with (go_at_call 120;(with_reducible refine CS.out.mono ?_);rintro e w9 h9;have he:=h9.1;(subst he);have hend:=Lib.hid h9;clear h9)
      go_meet
      exact FS.of_post hFS hend.out (by rw [List.length_append];omega)
     case rest =>
      clear hFS kk1 kk2 CS;have hFS:=hcut;clear hcut;have kk1:=hFS.cell b1;have kk2:=hFS.cell b2;have VG:=Lib.hid (show [] ++ goneP m.name (m.gone.drop 0)=goneP m.name m.gone from rfl);generalize goneP m.name m.gone=TG at VG HV;obtain ⟨qg,cg,hqg,hlg,hcg,helg⟩:=HM3.out;cases hqg;have EG:=Lib.hid helg;clear helg
      go_wp2
      go_loopw [55] (fun i wr => ∃ (k:Nat) (dg:List PProb),k<=m.gone.length/\i=.int .i64 k/\FS w (w.heap.size + 1 + 1) m.name (-1) w BLK (2 + 10 * m.fields.length + 2 * m.res.length + k) (((un m.name (-1) O1 8 ++ un m.name (-1) O2 3) ++ done ++ TSP) ++ dg) wr/\Hid (dg ++ goneP m.name (m.gone.drop k)=TG)) (fun i _ => m.gone.length - (intOf i).toNat)
      case atStart => exact ⟨0,[],by omega,rfl,by rw [List.append_nil];exact hFS,VG⟩
      case round =>
       clear kk1 kk2 hFS;obtain ⟨k,dg,hk,rfl,hFS,hgo⟩:=hrel;by_cases hlt:k < m.gone.length
       ·have hki:(k:Int) < (m.gone.length:Int):=by omega
        have hg:=List.getElem?_eq_getElem hlt;obtain ⟨b,off,rfl,hbs,vs,hce,hvs⟩:=EG.out k _ hg;have hdr:m.gone.drop k=m.gone[k] :: m.gone.drop (k + 1):=List.drop_eq_getElem_cons hlt;have hgo2:=Lib.hid (show (dg ++ un m.name (-1) (decide (Utf.bad m.gone[k] < 0)) 7) ++ goneP m.name (m.gone.drop (k + 1))=TG by rw [← hgo.out,hdr,goneP_cons,List.append_assoc]);have hvs':vs=[.string (S m.gone[k])]:=hvs
        have e0:wr.cell? ⟨b,off + k,none⟩=some (.string (S m.gone[k])):=by
         have:=hce 0 (.string (S m.gone[k])) (by rw [hvs'];rfl);rw [Nat.mul_one,Nat.add_zero] at this;exact hFS.bel0.some this
        have CV:=Lib.hid (fun W => utf_Valid (S m.gone[k]) m.gone[k] W rfl (by rw [S_size];exact HGL.out _ (List.getElem_mem hlt)));clear hce hvs hvs' hdr hgo hg;generalize m.gone[k]=g at *;generalize decide (Utf.bad g < 0)=OG at CV hgo2;have kk1:=hFS.cell b1;have kk2:=hFS.cell b2
        go_wp2_with (first
         | (go_at_call 121;(with_reducible refine (CV.out _).mono ?_);rintro e w1 ⟨rfl,g1⟩;have hF1:=FS.bel hFS g1;have kk1:=hF1.cell b1;have kk2:=hF1.cell b2;clear g1)
         | (go_at_call 80;(with_reducible refine (hF1.unless (by omega) _ _).mono ?_);rintro e w9 ⟨rfl,h9⟩;have hend:=Lib.hid h9;clear h9))
        refine ⟨⟨k + 1,dg ++ un m.name (-1) OG 7,by omega,rfl,?_,hgo2⟩,by simp [intOf];omega⟩;rw [← List.append_assoc];exact hend.out
       ·have hkl:k=m.gone.length:=by omega
        have hdn:dg=TG:=by
         have:=hgo.out;rw [hkl,List.drop_length] at this
         simpa [goneP] using this
        subst hdn;subst hkl;clear hgo;have kk1:=hFS.cell b1;have kk2:=hFS.cell b2
        go_upto_region 15 with (fail)
        go_cut [] (fun wx => FS w (w.heap.size + 1 + 1) m.name (-1) w BLK (2 + 10 * m.fields.length + 2 * m.res.length + m.gone.length + 1) (((un m.name (-1) O1 8 ++ un m.name (-1) O2 3) ++ done ++ TSP) ++ dg ++ noted m.name (-1) m.notes 1) wx)
        case first =>
         go_wp2_with (go_at_call 122;(with_reducible refine (hFS.noted (by omega) _ _ _ HM4.out HNL.out).mono ?_);rintro e w9 ⟨rfl,h9⟩)
         go_meet
         exact h9
        case rest =>
         clear hFS kk1 kk2;have hFS:=hcut;clear hcut;have kk1:=hFS.cell b1;have kk2:=hFS.cell b2
         go_upto_region 17 with (first
          | (go_at_call 123;(with_reducible refine (CY.out _ (FS.bel0 hFS)).mono ?_);rintro e w1 ⟨rfl,g1⟩;have hF1:=FS.bel hFS g1;have kk1:=hF1.cell b1;have kk2:=hF1.cell b2;clear g1)
          | (go_at_call 80;(with_reducible refine (hF1.unless (by omega) _ _).mono ?_);rintro e w9 ⟨rfl,h9⟩;have hend:=Lib.hid h9;clear h9))
         have hfin:=hend.out;obtain ⟨v,z1,z2⟩:=hfin.out;have hbz:=hfin.bel0;have Z2:=Lib.hid z2;clear hFS kk1 kk2 hend hfin z2
         go_wp2
         go_ret
         refine ⟨v,rfl,?_,hbz.out⟩;rw [HV.out];exact Z2.out
end Go.Proofs.YtfoaaglbpmmhiaaGreatDoor
