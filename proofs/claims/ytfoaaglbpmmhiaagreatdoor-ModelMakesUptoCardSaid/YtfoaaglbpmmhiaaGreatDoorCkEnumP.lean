import Derived.Test.YtfoaaglbpmmhiaaGreatDoorKitC
import Derived.Test.YtfoaaglbpmmhiaaGreatDoorKitQ
import Derived.Test.YtfoaaglbpmmhiaaGreatDoorPrProg1
import Derived.Deep.DeepCutAuto
import Derived.Deep.CutBlock
import Derived.Test.YtfoaaglbpmmhiaaGreatDoorCkSeen
import Derived.Test.YtfoaaglbpmmhiaaGreatDoorKitA
set_option maxRecDepth 100000
set_option maxHeartbeats 4000000
set_option linter.unusedVariables false
set_option linter.unusedSimpArgs false
namespace Go.Proofs.YtfoaaglbpmmhiaaGreatDoor
section
open Go.RowKit Ck
theorem qjz (sq1 sq2 sq3:Option Addr) (sm1 sm2 sm3 sc1 sc2 sc3:Nat) (s:PSchema) (mn:Str) (mq1 mq2 mq3 mq4:Option Addr) (mm1 mm2 mm3 mm4 mc1 mc2 mc3 mc4:Nat) (m:PMsg) (fin:Str->Bool) (Bm kf:Nat) (w:World) (hs:VSchema w [.slice sq1 sm1 sc1,.slice sq2 sm2 sc2,.slice sq3 sm3 sc3] s) (hm0:VMsg w [.string (S mn),.slice mq1 mm1 mc1,.slice mq2 mm2 mc2,.slice mq3 mm3 mc3,.slice mq4 mm4 mc4] m) (hmp:MapIs qc1 w Bm kf (boolF fin)) (hM:ML w) (hnm:m.name.length<=100000000) (hl1:m.fields.length<=2000000) (hl2:m.res.length<=2000000) (hl3:m.gone.length<=2000000)
  (hfl : ∀f ∈ m.fields,f.name.length<=1000000000/\f.un.length<=1000000000000000/\f.tn.length<=1000000000/\∀n ∈ f.notes,n.name.length<=1000000000) (hgl : ∀g ∈ m.gone,g.length<=1000000000) (hnl : ∀n ∈ m.notes,n.name.length<=1000000000) :
  Calls Tryz.prog 84 #[.agg #[.slice sq1 sm1 sc1,.slice sq2 sm2 sc2,.slice sq3 sm3 sc3],.agg #[.string (S mn),.slice mq1 mm1 mc1,.slice mq2 mm2 mc2,.slice mq3 mm3 mc3,.slice mq4 mm4 mc4],.map (some Bm)] w (qda w (qan s m fin)):=by
 obtain⟨_,_,_,_,hcm,hm1,hm2,hm3,hm4⟩:=hm0;cases hcm;obtain rfl:=qdm hm1;obtain rfl:=qdm hm2;obtain rfl:=qdm hm3;obtain rfl:=qdm hm4;have hm0:VMsg w [.string (S m.name),.slice mq1 m.fields.length mc1,.slice mq2 m.res.length mc2,.slice mq3 m.gone.length mc3,.slice mq4 m.notes.length mc4] m:=⟨_,_,_,_,rfl,hm1,hm2,hm3,hm4⟩;have hUN:=fun W (k:Bel w W)=>qd8 m.name W hnm (hM.below k)
 have hCY:=fun W (k:Bel w W)=>qr4 sq1 sq2 sq3 sm1 sm2 sm3 sc1 sc2 sc3 s m.name mq1 mq2 mq3 mq4 m.fields.length m.res.length m.gone.length m.notes.length mc1 mc2 mc3 mc4 m fin Bm kf W (hs.stays_bel k) (VMsg.stays _ _ _ _ k hm0) (hmp.bel k) (fun f hf=>(hfl f hf).2.2.1) hl1
 have V:qan s m fin=un m.name (-1) (qad m.name) 8 ++ un m.name (-1) (decide (m.fields.length<=64/\m.res.length<=16/\m.gone.length<=16)) 3 ++ qbb s m 0 m.fields ++ spans m.name m.res 1 65535 ++ goneP m.name m.gone ++ noted m.name (-1) m.notes 1 ++ un m.name (-1) (!qg5 s m fin) 19:=rfl;generalize qad m.name=O1 at hUN V;generalize hO2:decide (m.fields.length<=64/\m.res.length<=16/\m.gone.length<=16)=O2 at V;generalize qg5 s m fin=Q3 at hCY V;generalize hTF:qbb s m 0 m.fields=TF at V;have HTF:=h_ hTF;clear hTF;obtain⟨BLK,hBLK⟩ : ∃BLK:List (Nat × Array Value × TypeId),BLK=[(w.heap.size,#[.slice sq1 sm1 sc1,.slice sq2 sm2 sc2,.slice sq3 sm3 sc3],26),(w.heap.size+1,#[.string (S m.name),.slice mq1 m.fields.length mc1,.slice mq2 m.res.length mc2,.slice mq3 m.gone.length mc3,.slice mq4 m.notes.length mc4],44)]:=⟨_,rfl⟩;have b1:(w.heap.size,#[.slice sq1 sm1 sc1,.slice sq2 sm2 sc2,.slice sq3 sm3 sc3],26) ∈ BLK:=by rw [hBLK];exact List.mem_cons_self
 have b2:(w.heap.size+1,#[.string (S m.name),.slice mq1 m.fields.length mc1,.slice mq2 m.res.length mc2,.slice mq3 m.gone.length mc3,.slice mq4 m.notes.length mc4],44) ∈ BLK:=by rw [hBLK];exact List.mem_cons_of_mem _ List.mem_cons_self
 have hst:=FS.start w ((w.alloc (.cells #[.slice sq1 sm1 sc1,.slice sq2 sm2 sc2,.slice sq3 sm3 sc3] 26)).alloc (.cells #[.string (S m.name),.slice mq1 m.fields.length mc1,.slice mq2 m.res.length mc2,.slice mq3 m.gone.length mc3,.slice mq4 m.notes.length mc4] 44)) m.name (-1) BLK (((Bel.refl w).alloc _).alloc _) (fun x hx=>by
  rw [hBLK]at hx;simp only [List.mem_cons,List.not_mem_nil,or_false]at hx;rcases hx with rfl|rfl
  ·exact⟨(heap_alloc_old _ _ (by simp)).trans (heap_alloc_new _ _),by show 26 ≠ 164;decide⟩
  ·exact⟨qb0 _ _ _ (by simp),by show 44 ≠ 164;decide⟩)
 simp only [World.size_alloc]at hst;have UN:=h_ hUN;have CY:=h_ hCY;have HV:=h_ V;have HO2:=h_ hO2;have HM0:=h_ hm0;have HM1:=h_ hm1;have HM2:=h_ hm2;have HM3:=h_ hm3;have HM4:=h_ hm4;have HS:=h_ hs;have HFL:=h_ hfl;have HGL:=h_ hgl;have HNL:=h_ hnl;clear hUN hCY V hO2 hm0 hm1 hm2 hm3 hm4 hs hfl hgl hnl hBLK hmp
 go_enter Tryz.func84,Tryz.ntmps84
 go_upto_region 2 with(fail)
 go_cut [] (fun wx=>FS w (w.heap.size+1+1) m.name (-1) w BLK 1 (un m.name (-1) O1 8) wx)
 case first=>
  have hFS:=hst;have kk1:=hFS.cell b1;have kk2:=hFS.cell b2
  go_wp2_with (first
   | (go_at_call 118;(with_reducible refine(UN.out _ (FS.bel0 hFS)).mono ?_);rintro e w1 ⟨rfl,g1⟩;have hF1:=FS.bel hFS g1;have kk1:=hF1.cell b1;have kk2:=hF1.cell b2;clear g1)
   | (go_at_call 80;(with_reducible refine(hF1.unless (by omega) _ _).mono ?_);rintro e w9 ⟨rfl,h9⟩;have hend:=h_ h9;clear h9))
  go_meet;exact hend.out
 case rest=>
  have hFS:=hcut;clear hcut hst
  go_upto_region 3 with(fail)
  go_cut [] (fun wx=>FS w (w.heap.size+1+1) m.name (-1) w BLK 2 (un m.name (-1) O1 8 ++ un m.name (-1) O2 3) wx)
  case first=>
   have kk1:=hFS.cell b1;have kk2:=hFS.cell b2;by_cases ha:m.fields.length<=64
   ·have HO:=h_ (show decide (m.res.length<=16/\m.gone.length<=16)=O2 by rw [←HO2.out];simp [ha])
    have hai:(m.fields.length:Int)<=64:=by omega
    go_wp2_with (go_at_call 80;(with_reducible refine(hFS.unless (by omega) _ _).mono ?_);rintro e w9 ⟨rfl,h9⟩;have hend:=h_ h9;clear h9)
    all_goals go_meet
    all_goals exact hend.out.okc (by rw [←HO.out,Bool.eq_iff_iff];simp;try omega)
   ·have HO:=h_ (show false=O2 by rw [←HO2.out];exact(decide_eq_false (fun h=>ha h.1)).symm)
    have hai : ¬(m.fields.length:Int)<=64:=by omega
    go_wp2_with (go_at_call 80;(with_reducible refine(hFS.unless (by omega) _ _).mono ?_);rintro e w9 ⟨rfl,h9⟩;have hend:=h_ h9;clear h9)
    all_goals go_meet
    all_goals exact hend.out.okc HO.out
  case rest=>
   have hFS:=hcut;clear hcut;have kk1:=hFS.cell b1;have kk2:=hFS.cell b2;have hm0i:((0:Nat):Int)=0:=rfl;go_wp2
   go_loopw [39] (fun i wr => ∃(k:Nat) (done:List PProb),k<=m.fields.length/\i=.int .i64 k/\FS w (w.heap.size+1+1) m.name (-1) w BLK (2+10*k) ((un m.name (-1) O1 8 ++ un m.name (-1) O2 3) ++ done) wr/\Hid (done ++ qbb s m k (m.fields.drop k)=TF)) (fun i _=>m.fields.length-(intOf i).toNat)
   case atStart=>exact⟨0,[],by omega,rfl,by rw [List.append_nil];exact hFS,h_ HTF.out⟩
   case round=>
    clear kk1 kk2 hFS;obtain⟨k,done,hk,rfl,hFS,hgo⟩:=hrel;by_cases hlt:k<m.fields.length
    ·have hki:(k:Int)<(m.fields.length:Int):=by omega
     have hdr:m.fields.drop k=m.fields[k] :: m.fields.drop (k+1):=List.drop_eq_getElem_cons hlt;have hgo2:=h_ (show(done ++ qdr s m k m.fields[k]) ++ qbb s m (k+1) (m.fields.drop (k+1))=TF by rw [←hgo.out,hdr,List.append_assoc];rfl);have hfk:=HFL.out _ (List.getElem_mem hlt);have hps:((un m.name (-1) O1 8 ++ un m.name (-1) O2 3) ++ done).length<=2+10*k:=hFS.2.2.2.1;have CF:=h_ (fd_field w (w.heap.size+1+1) (-1) ((un m.name (-1) O1 8 ++ un m.name (-1) O2 3) ++ done) wr sq1 sq2 sq3 sm1 sm2 sm3 sc1 sc2 sc3 s m.name mq1 mq2 mq3 mq4 m.fields.length m.res.length m.gone.length m.notes.length mc1 mc2 mc3 mc4 m k hFS.1 (by omega) hFS.bel0 HS.out HM0.out hlt hfk.1 hfk.2.1 hfk.2.2.2);have hfl10:=qiu s m k m.fields[k];clear hgo hdr hfk;generalize qdr s m k m.fields[k]=FP at CF hgo2 hfl10;have kk1:=hFS.cell b1;have kk2:=hFS.cell b2
     go_wp2_with (go_at_call 119;(with_reducible refine CF.out.mono ?_);rintro e w9 h9;have he:=h9.1;(subst he);have hend:=h_ h9;clear h9)
     refine⟨⟨k+1,done ++ FP,by omega,rfl,?_,hgo2⟩,by simp [intOf];omega⟩;rw [←List.append_assoc];exact FS.of_post hFS hend.out (by rw [List.length_append];omega)
    ·have hkl:k=m.fields.length:=by omega
     have hdn:done=TF:=by
      have:=hgo.out;rw [hkl,List.drop_length]at this
      simpa [qbb]using this
     subst hdn;subst hkl;clear hgo;have kk1:=hFS.cell b1;have kk2:=hFS.cell b2;have hps:((un m.name (-1) O1 8 ++ un m.name (-1) O2 3) ++ done).length<=2+10*m.fields.length:=hFS.2.2.2.1;have CS:=h_ (qof w (w.heap.size+1+1) m.name ((un m.name (-1) O1 8 ++ un m.name (-1) O2 3) ++ done) wr _ m.res 1 65535 hFS.1 (by omega) (by omega) hFS.bel0 HM2.out);have hsl:(spans m.name m.res 1 65535).length<=2*m.res.length:=qcw _ _ _ _ _;generalize spans m.name m.res 1 65535=TSP at CS hsl HV
     go_upto_region 9 with(fail)
     go_cut [] (fun wx=>FS w (w.heap.size+1+1) m.name (-1) w BLK (2+10*m.fields.length+2*m.res.length) ((un m.name (-1) O1 8 ++ un m.name (-1) O2 3) ++ done ++ TSP) wx)
     case first=>
      go_wp2_with (go_at_call 120;(with_reducible refine CS.out.mono ?_);rintro e w9 h9;have he:=h9.1;(subst he);have hend:=h_ h9;clear h9)
      go_meet;exact FS.of_post hFS hend.out (by rw [List.length_append];omega)
     case rest=>
      clear hFS kk1 kk2 CS;have hFS:=hcut;clear hcut;have kk1:=hFS.cell b1;have kk2:=hFS.cell b2;have VG:=h_ (show [] ++ goneP m.name (m.gone.drop 0)=goneP m.name m.gone from rfl);generalize goneP m.name m.gone=TG at VG HV;obtain⟨qg,cg,hqg,hlg,hcg,helg⟩:=HM3.out;cases hqg;have EG:=h_ helg;clear helg;go_wp2
      go_loopw [55] (fun i wr => ∃(k:Nat) (dg:List PProb),k<=m.gone.length/\i=.int .i64 k/\FS w (w.heap.size+1+1) m.name (-1) w BLK (2+10*m.fields.length+2*m.res.length+k) (((un m.name (-1) O1 8 ++ un m.name (-1) O2 3) ++ done ++ TSP) ++ dg) wr/\Hid (dg ++ goneP m.name (m.gone.drop k)=TG)) (fun i _=>m.gone.length-(intOf i).toNat)
      case atStart=>exact⟨0,[],by omega,rfl,by rw [List.append_nil];exact hFS,VG⟩
      case round=>
       clear kk1 kk2 hFS;obtain⟨k,dg,hk,rfl,hFS,hgo⟩:=hrel;by_cases hlt:k<m.gone.length
       ·have hki:(k:Int)<(m.gone.length:Int):=by omega
        have hg:=List.getElem?_eq_getElem hlt;obtain⟨b,off,rfl,hbs,vs,hce,hvs⟩:=EG.out k _ hg;have hdr:m.gone.drop k=m.gone[k] :: m.gone.drop (k+1):=List.drop_eq_getElem_cons hlt;have hgo2:=h_ (show(dg ++ un m.name (-1) (decide (Utf.bad m.gone[k]<0)) 7) ++ goneP m.name (m.gone.drop (k+1))=TG by rw [←hgo.out,hdr,qir,List.append_assoc]);have hvs':vs=[.string (S m.gone[k])]:=hvs
        have e0:wr.cell? ⟨b,off+k,none⟩=some (.string (S m.gone[k])):=by
         have:=hce 0 (.string (S m.gone[k])) (by rw [hvs'];rfl);rw [Nat.mul_one,Nat.add_zero]at this;exact hFS.bel0.some this
        have CV:=h_ (fun W=>qk7 (S m.gone[k]) m.gone[k] W rfl (by rw [qai];exact HGL.out _ (List.getElem_mem hlt)));clear hce hvs hvs' hdr hgo hg;generalize m.gone[k]=g at *;generalize decide (Utf.bad g<0)=OG at CV hgo2;have kk1:=hFS.cell b1;have kk2:=hFS.cell b2
        go_wp2_with (first
         | (go_at_call 121;(with_reducible refine(CV.out _).mono ?_);rintro e w1 ⟨rfl,g1⟩;have hF1:=FS.bel hFS g1;have kk1:=hF1.cell b1;have kk2:=hF1.cell b2;clear g1)
         | (go_at_call 80;(with_reducible refine(hF1.unless (by omega) _ _).mono ?_);rintro e w9 ⟨rfl,h9⟩;have hend:=h_ h9;clear h9))
        refine⟨⟨k+1,dg ++ un m.name (-1) OG 7,by omega,rfl,?_,hgo2⟩,by simp [intOf];omega⟩;rw [←List.append_assoc];exact hend.out
       ·have hkl:k=m.gone.length:=by omega
        have hdn:dg=TG:=by
         have:=hgo.out;rw [hkl,List.drop_length]at this
         simpa [goneP]using this
        subst hdn;subst hkl;clear hgo;have kk1:=hFS.cell b1;have kk2:=hFS.cell b2
        go_upto_region 15 with(fail)
        go_cut [] (fun wx=>FS w (w.heap.size+1+1) m.name (-1) w BLK (2+10*m.fields.length+2*m.res.length+m.gone.length+1) (((un m.name (-1) O1 8 ++ un m.name (-1) O2 3) ++ done ++ TSP) ++ dg ++ noted m.name (-1) m.notes 1) wx)
        case first=>
         go_wp2_with (go_at_call 122;(with_reducible refine(hFS.noted (by omega) _ _ _ HM4.out HNL.out).mono ?_);rintro e w9 ⟨rfl,h9⟩)
         go_meet;exact h9
        case rest=>
         clear hFS kk1 kk2;have hFS:=hcut;clear hcut;have kk1:=hFS.cell b1;have kk2:=hFS.cell b2
         go_upto_region 17 with(first
          | (go_at_call 123;(with_reducible refine(CY.out _ (FS.bel0 hFS)).mono ?_);rintro e w1 ⟨rfl,g1⟩;have hF1:=FS.bel hFS g1;have kk1:=hF1.cell b1;have kk2:=hF1.cell b2;clear g1)
          | (go_at_call 80;(with_reducible refine(hF1.unless (by omega) _ _).mono ?_);rintro e w9 ⟨rfl,h9⟩;have hend:=h_ h9;clear h9))
         have hfin:=hend.out;obtain⟨v,z1,z2⟩:=hfin.out;have hbz:=hfin.bel0;have Z2:=h_ z2;clear hFS kk1 kk2 hend hfin z2;go_wp2;go_ret;refine⟨v,rfl,?_,hbz.out⟩;rw [HV.out];exact Z2.out
end
section
open Go.RowKit Ck
section
variable {w0 : World} {fb : Nat} {d : Str} {num : Int} {w : World} {bl : List (Nat × Array Value × TypeId)} {N : Nat} {ps : List PProb} {wx : World}
theorem FS.lt (h:FS w0 fb d num w bl N ps wx):fb<wx.heap.size:=h.1.lt
theorem FS.addb (h:FS w0 fb d num w bl N ps wx) (cs:Array Value) (T:TypeId) (hT:T ≠ 164):FS w0 fb d num w ((wx.heap.size,cs,T) :: bl) N ps (wx.alloc (.cells cs T)):=by
 have h2:=h.bel ((Bel.refl wx).alloc (.cells cs T));have hlt:=h.lt;refine⟨h2.1,h2.2.1,h2.2.2.1,h2.2.2.2.1,fun b hb=>?_⟩;rcases List.mem_cons.1 hb with rfl|hb
 ·exact⟨heap_alloc_new _ _,by show wx.heap.size ≠ fb;omega,hT⟩
 ·exact h2.2.2.2.2 b hb
theorem FS.dropb {b:Nat × Array Value × TypeId} (h:FS w0 fb d num w (b :: bl) N ps wx):FS w0 fb d num w bl N ps wx:=⟨h.1,h.2.1,h.2.2.1,h.2.2.2.1,fun x hx=>h.2.2.2.2 x (List.mem_cons_of_mem _ hx)⟩
theorem FS.moreN {N2:Nat} (h:FS w0 fb d num w bl N ps wx) (hN:N<=N2):FS w0 fb d num w bl N2 ps wx:=⟨h.1,h.2.1,h.2.2.1,Nat.le_trans h.2.2.2.1 hN,h.2.2.2.2⟩
end
theorem qqn (e:PEnum) (i:Nat) (it:PItem):(itemP e i it).length<=6:=by
 unfold itemP noted;exact qb2 (qb2 (qb2 (qb2 (qb2 (un_len _ _ _ _) (un_len _ _ _ _)) (un_len _ _ _ _)) (un_len _ _ _ _)) (un_len _ _ _ _)) (un_len _ _ _ _)
theorem ck_Enum (en:Str) (eop:Bool) (eq1 eq2 eq3:Option Addr) (em1 em2 em3 ec1 ec2 ec3:Nat) (e:PEnum) (w:World) (he0:VEnum w [.string (S en),.bool eop,.slice eq1 em1 ec1,.slice eq2 em2 ec2,.slice eq3 em3 ec3] e) (hM:ML w) (hnm:e.name.length<=100000000) (hl1:e.items.length<=2000000) (hl2:e.res.length<=2000000) (hil : ∀f ∈ e.items,f.name.length<=1000000000/\∀n ∈ f.notes,n.name.length<=1000000000) (hnl : ∀n ∈ e.notes,n.name.length<=1000000000) :
  Calls Tryz.prog 85 #[.agg #[.string (S en),.bool eop,.slice eq1 em1 ec1,.slice eq2 em2 ec2,.slice eq3 em3 ec3]] w (qda w (enum e)):=by
 obtain⟨_,_,_,hce0,he1,he2,he3⟩:=he0;cases hce0;obtain rfl:=qdm he1;obtain rfl:=qdm he2;obtain rfl:=qdm he3;have hUN:=fun W (k:Bel w W)=>qd8 e.name W hnm (hM.below k)
 have V:enum e=un e.name (-1) (qad e.name) 8 ++ un e.name (-1) (decide (1<=e.items.length/\e.items.length<=64/\e.res.length<=16)) 3 ++ un e.name (-1) (match e.items with | []=>true|it :: _=>decide (it.num=0)) 14 ++ qc3 e 0 e.items ++ spans e.name e.res 0 2147483647 ++ noted e.name (-1) e.notes 3:=rfl;generalize qad e.name=O1 at hUN V;generalize hO2:decide (1<=e.items.length/\e.items.length<=64/\e.res.length<=16)=O2 at V;generalize hO3:(match e.items with | []=>true|it :: _=>decide (it.num=0))=O3 at V;generalize hTF:qc3 e 0 e.items=TF at V;have HTF:=h_ hTF;clear hTF;obtain⟨BLK,hBLK⟩ : ∃BLK:List (Nat × Array Value × TypeId),BLK=[(w.heap.size,#[.string (S e.name),.bool e.op,.slice eq1 e.items.length ec1,.slice eq2 e.res.length ec2,.slice eq3 e.notes.length ec3],74)]:=⟨_,rfl⟩;have b1:(w.heap.size,#[.string (S e.name),.bool e.op,.slice eq1 e.items.length ec1,.slice eq2 e.res.length ec2,.slice eq3 e.notes.length ec3],74) ∈ BLK:=by rw [hBLK];exact List.mem_cons_self
 have hst:=FS.start w (w.alloc (.cells #[.string (S e.name),.bool e.op,.slice eq1 e.items.length ec1,.slice eq2 e.res.length ec2,.slice eq3 e.notes.length ec3] 74)) e.name (-1) BLK ((Bel.refl w).alloc _) (fun x hx=>by
  rw [hBLK]at hx;simp only [List.mem_cons,List.not_mem_nil,or_false]at hx;subst hx
  exact⟨heap_alloc_new _ _,by show 74 ≠ 164;decide⟩)
 simp only [World.size_alloc]at hst;obtain⟨qe,ce,hqe,hle,hcape,hele⟩:=he1;cases hqe
 have hhead:(e.items.length=0/\O3=true) ∨ ∃(b off:Nat) (x:Int),eq1=some ⟨b,off,none⟩/\0<e.items.length/\w.cell? ⟨b,off+1,none⟩=some (.int .i64 x)/\decide (x=0)=O3:=by
  rcases hcase:e.items with _|⟨it,r⟩
  ·exact .inl ⟨rfl,by rw [←hO3,hcase]⟩
  ·obtain⟨b,off,hq,_,vs,hce,hvs⟩:=hele 0 it (by rw [hcase];rfl)
   obtain⟨nv,rfl,_⟩:=hvs;have hc1:=hce 1 _ rfl;simp only [Nat.zero_mul,Nat.add_zero]at hc1;exact .inr ⟨b,off,it.num,hq,by simp,hc1,by rw [←hO3,hcase]⟩
 have EL:=h_ hele;have HI:=h_ (show Sv 3 VItem w (.slice eq1 e.items.length ec1) e.items from⟨_,_,rfl,hle,hcape,hele⟩);have UN:=h_ hUN;have HV:=h_ V;have HO2:=h_ hO2;have HHD:=h_ hhead;have HE2:=h_ he2;have HE3:=h_ he3;have HIL:=h_ hil;have HNL:=h_ hnl;clear hUN V hO2 hO3 hhead he2 he3 hil hnl hBLK hele
 go_enter Tryz.func85,Tryz.ntmps85
 go_upto_region 2 with(fail)
 go_cut [] (fun wx=>FS w (w.heap.size+1) e.name (-1) w BLK 1 (un e.name (-1) O1 8) wx)
 case first=>
  have hFS:=hst;have kk1:=hFS.cell b1
  go_wp2_with (first
   | (go_at_call 118;(with_reducible refine(UN.out _ (FS.bel0 hFS)).mono ?_);rintro e w1 ⟨rfl,g1⟩;have hF1:=FS.bel hFS g1;have kk1:=hF1.cell b1;clear g1)
   | (go_at_call 80;(with_reducible refine(hF1.unless (by omega) _ _).mono ?_);rintro e w9 ⟨rfl,h9⟩;have hend:=h_ h9;clear h9))
  go_meet;exact hend.out
 case rest=>
  have hFS:=hcut;clear hcut hst
  go_upto_region 3 with(fail)
  go_cut [] (fun wx=>FS w (w.heap.size+1) e.name (-1) w BLK 2 (un e.name (-1) O1 8 ++ un e.name (-1) O2 3) wx)
  case first=>
   have kk1:=hFS.cell b1
   have hcase:(1<=e.items.length/\e.items.length<=64/\decide (e.res.length<=16)=O2) ∨ (e.items.length<1/\false=O2) ∨ (1<=e.items.length/\64<e.items.length/\false=O2):=by
    by_cases ha:1<=e.items.length
    ·by_cases hb:e.items.length<=64
     ·exact .inl ⟨ha,hb,by rw [←HO2.out];simp [ha,hb]⟩
     ·exact .inr (.inr ⟨ha,by omega,by rw [←HO2.out];exact(decide_eq_false (fun h=>hb h.2.1)).symm⟩)
    ·exact .inr (.inl ⟨by omega,by rw [←HO2.out];exact(decide_eq_false (fun h=>ha h.1)).symm⟩)
   rcases hcase with⟨ha,hb,hO⟩|⟨ha,hO⟩|⟨ha,hb,hO⟩
   all_goals (have HO:=h_ hO;clear hO)
   all_goals
    go_wp2_with (go_at_call 80;(with_reducible refine(hFS.unless (by omega) _ _).mono ?_);rintro e w9 ⟨rfl,h9⟩;have hend:=h_ h9;clear h9)
    all_goals go_meet
    all_goals exact hend.out.okc (by first|exact HO.out|(rw [←HO.out,Bool.eq_iff_iff];simp;done)|(rw [←HO.out,Bool.eq_iff_iff];simp;omega))
  case rest=>
   clear hFS;have hFS:=hcut;clear hcut
   go_upto_region 4 with(fail)
   go_cut [] (fun wx=>FS w (w.heap.size+1) e.name (-1) w BLK 3 (un e.name (-1) O1 8 ++ un e.name (-1) O2 3 ++ un e.name (-1) O3 14) wx)
   case first=>
    have kk1:=hFS.cell b1;rcases HHD.out with⟨h0,hO⟩|⟨b,off,x,hq,hpos,hcl,hO⟩
    ·have HO:=h_ hO
     have hl0:(e.items.length:Int)=0:=by omega
     have hl0b:((e.items.length:Int) == 0)=true:=beq_iff_eq.2 hl0;clear hO h0 hl0
     go_wp2_with (go_at_call 80;(with_reducible refine(hFS.unless (by omega) _ _).mono ?_);rintro e w9 ⟨rfl,h9⟩;have hend:=h_ h9;clear h9)
     all_goals go_meet
     all_goals exact hend.out.okc HO.out.symm
    ·subst hq
     have HO:=h_ hO;have hl0b:((e.items.length:Int) == 0)=false:=beq_eq_false_iff_ne.2 (by omega);have hli:(0:Int)<(e.items.length:Int):=by omega
     have e1:=hFS.bel0.some hcl;clear hO hcl
     go_wp2_with (go_at_call 80;(with_reducible refine(hFS.unless (by omega) _ _).mono ?_);rintro e w9 ⟨rfl,h9⟩;have hend:=h_ h9;clear h9)
     all_goals go_meet
     all_goals exact hend.out.okc HO.out
   case rest=>
    clear hFS;have hFS:=hcut;clear hcut HHD;have kk1:=hFS.cell b1;go_wp2
    go_loopw [50] (fun i wr => ∃(k:Nat) (done:List PProb) (nm:Int),k<=e.items.length/\i=.int .i64 k/\FS w (w.heap.size+1) e.name nm w BLK (3+6*k) ((un e.name (-1) O1 8 ++ un e.name (-1) O2 3 ++ un e.name (-1) O3 14) ++ done) wr/\Hid (done ++ qc3 e k (e.items.drop k)=TF)) (fun i _=>e.items.length-(intOf i).toNat)
    case atStart=>exact⟨0,[], -1,by omega,rfl,by rw [List.append_nil];exact hFS,h_ HTF.out⟩
    case round=>
     clear kk1 hFS;obtain⟨k,done,nm,hk,rfl,hFS,hgo⟩:=hrel;by_cases hlt:k<e.items.length
     ·have hki:(k:Int)<(e.items.length:Int):=by omega
      have hg:=List.getElem?_eq_getElem hlt;obtain⟨b,off,rfl,hbs,vs,hce,hvs⟩:=EL.out k _ hg
      have hprev : ∀j,k=j+1->∃g:PItem,e.items[k-1]? = some g/\w.cell? ⟨b,off+j*3+1,none⟩=some (.int .i64 g.num):=fun j hj=>by
       have hgj:=List.getElem?_eq_getElem (show j<e.items.length by omega);obtain⟨b',off',he',_,vs2,hce2,hvs2⟩:=EL.out j _ hgj;cases he';obtain⟨_,rfl,_⟩:=hvs2;have hij:k-1=j:=by omega
       exact⟨_,by rw [hij];exact hgj,hce2 1 _ rfl⟩
      have hdr:e.items.drop k=e.items[k] :: e.items.drop (k+1):=List.drop_eq_getElem_cons hlt;have hgo2:=h_ (show(done ++ itemP e k e.items[k]) ++ qc3 e (k+1) (e.items.drop (k+1))=TF by rw [←hgo.out,hdr,List.append_assoc];rfl);have hik:=HIL.out _ (List.getElem_mem hlt);have hSE:=fun W (kk:Bel w W)=>qmj _ e.items k W (Sv.bel VItem.stays HI.out kk) hlt
      obtain⟨nv,hvv,hnt⟩:=hvs;obtain⟨iq,ic,rfl,_⟩:=qa5 hnt;subst hvv;have e0:=hFS.bel0.some (hce 0 _ rfl);rw [Nat.add_zero]at e0;have e1:=hFS.bel0.some (hce 1 _ rfl);have e2:=hFS.bel0.some (hce 2 _ rfl);clear hce hgo hdr hg;generalize e.items[k]=it at *;have hUP:=fun W=>qb1 it.name W (Nat.le_trans hik.1 (by decide))
      have hRS:=fun W (kk:Bel w W)=>qgu _ e.res it.num W (HE2.out.bel VSpan.stays kk)
      have VI:itemP e k it=un e.name it.num (decide (0<=it.num/\it.num<=2147483647)) 6 ++ un e.name it.num (decide (k=0) || (match e.items[k-1]? with|some g=>decide (g.num<it.num)|none=>false)) 11 ++ un e.name it.num (qa7 it.name) 8 ++ un e.name it.num (!((e.items.take k).any fun x=>decide (x.name=it.name))) 9 ++ un e.name it.num (!qbj e.res it.num) 21 ++ noted e.name it.num it.notes 4:=rfl;generalize itemP e k it=IP at hgo2 VI;generalize hI1:decide (0<=it.num/\it.num<=2147483647)=I1 at VI;generalize hI2:(decide (k=0) || (match e.items[k-1]? with|some g=>decide (g.num<it.num)|none=>false))=I2 at VI;generalize qa7 it.name=I3 at hUP VI;generalize ((e.items.take k).any fun x=>decide (x.name=it.name))=Q4 at hSE VI;generalize qbj e.res it.num=Q5 at hRS VI;have HIP:=h_ VI.symm;have HI1:=h_ hI1;have HI2:=h_ hI2;have UP:=h_ hUP;have SE:=h_ hSE;have RS:=h_ hRS;have HPV:=h_ hprev;have HNT:=h_ hnt;have HB3:=h_ hik.2;have hadd:=FS.addb hFS #[.string (S it.name),.int .i64 it.num,.slice iq it.notes.length ic] 76 (by decide);have b3:(wr.heap.size,#[.string (S it.name),.int .i64 it.num,.slice iq it.notes.length ic],76) ∈ ((wr.heap.size,#[.string (S it.name),.int .i64 it.num,.slice iq it.notes.length ic],76) :: BLK):=List.mem_cons_self;have b1':=b1;have b1:(w.heap.size,#[.string (S e.name),.bool e.op,.slice (some ⟨b,off,none⟩) e.items.length ec1,.slice eq2 e.res.length ec2,.slice eq3 e.notes.length ec3],74) ∈ ((wr.heap.size,#[.string (S it.name),.int .i64 it.num,.slice iq it.notes.length ic],76) :: BLK):=List.mem_cons_of_mem _ b1';obtain⟨fc,ffz⟩:=hadd.fdcell;have HADD:=h_ hadd;clear VI hI1 hI2 hUP hSE hRS hprev hnt hik hadd hFS
      go_upto_region 8 with(fail)
      go_cut [] (fun wx=>FS w (w.heap.size+1) e.name it.num w ((wr.heap.size,#[.string (S it.name),.int .i64 it.num,.slice iq it.notes.length ic],76) :: BLK) (3+6*k) ((un e.name (-1) O1 8 ++ un e.name (-1) O2 3 ++ un e.name (-1) O3 14) ++ done) wx)
      case first=>
       go_wp2;go_meet
       exact HADD.out.setnum
      case rest=>
       have hFS:=hcut;clear hcut
       go_upto_region 9 with(fail)
       go_cut [] (fun wx=>FS w (w.heap.size+1) e.name it.num w ((wr.heap.size,#[.string (S it.name),.int .i64 it.num,.slice iq it.notes.length ic],76) :: BLK) ((3+6*k)+1) (((un e.name (-1) O1 8 ++ un e.name (-1) O2 3 ++ un e.name (-1) O3 14) ++ done) ++ un e.name it.num I1 6) wx)
       case first=>
        have kk1:=hFS.cell b1;have kk3:=hFS.cell b3;by_cases ha:0<=it.num
        all_goals
         go_wp2_with (go_at_call 80;(with_reducible refine(hFS.unless (by omega) _ _).mono ?_);rintro e w9 ⟨rfl,h9⟩;have hend:=h_ h9;clear h9)
         all_goals go_meet
         all_goals exact hend.out.okc (by rw [←HI1.out];first|(simp [ha];done)|(rw [Bool.eq_iff_iff];simp [ha];try omega))
       case rest=>
        have hFS:=hcut;clear hcut
        go_upto_region 10 with(fail)
        go_cut [] (fun wx=>FS w (w.heap.size+1) e.name it.num w ((wr.heap.size,#[.string (S it.name),.int .i64 it.num,.slice iq it.notes.length ic],76) :: BLK) ((3+6*k)+2) ((((un e.name (-1) O1 8 ++ un e.name (-1) O2 3 ++ un e.name (-1) O3 14) ++ done) ++ un e.name it.num I1 6) ++ un e.name it.num I2 11) wx)
        case first=>
         obtain⟨wd,hwd⟩ : ∃wd,wd=wc.drew:=⟨_,rfl⟩;have kd:Bel wc wd:=by rw [hwd];exact(Bel.refl _).drew
         have HWD:=h_ hwd;have hFd:=hFS.bel kd;have kk1:=hFd.cell b1;have kk3:=hFd.cell b3;clear hwd;by_cases hi0:k=0
         ·have hO:I2=true:=by rw [←HI2.out,decide_eq_true hi0,Bool.true_or]
          have HO:=h_ hO;have hk0:((k:Int) == 0)=true:=by rw [hi0];rfl
          clear hO hi0;refine qae 15 (by kernel_rfl) (by kernel_rfl) HWD.out ?_
          (simp only [t_1,t_2,t_3,t_4]);(repeat (first|((with_reducible refine wpStill_step (fun K hK=>?_));go_simp;(with_reducible refine hK _ ?_);clear hK K)|((with_reducible refine qaa ?_ ?_);(with_unfolding_all rfl))));(with_reducible refine wpStill_nil ?_)
          go_wp2_with (go_at_call 80;(with_reducible refine(hFd.unless (by omega) _ _).mono ?_);rintro e w9 ⟨rfl,h9⟩;have hend:=h_ h9;clear h9)
          go_meet;exact hend.out.okc HO.out.symm
         ·obtain⟨j,hij⟩ : ∃j,k=j+1:=⟨k-1,by omega⟩
          obtain⟨g,hg1,hg2⟩:=HPV.out j hij;have hO:=h_ (show decide (g.num<it.num)=I2 by rw [←HI2.out,hg1,decide_eq_false hi0,Bool.false_or]);have d1:=hFd.2.1.some hg2;have j0:(0:Int)<=(j:Int):=by omega
          have j1:(j:Int)<(e.items.length:Int):=by omega
          have jn:((k:Int) == 0)=false:=by rw [beq_eq_false_iff_ne];omega
          have jw:IntKind.i64.wrap ((k:Int)-1)=(j:Int):=by rw [show(k:Int)-1=(j:Int)by omega];exact wrap_small _ (by omega) (by omega)
          have jw2:IntKind.i64.wrap (j:Int)=(j:Int):=wrap_small _ (by omega) (by omega);have jw3:(k:Int)-1=(j:Int):=by omega
          clear hij hg1 hg2 hi0;refine qae 15 (by kernel_rfl) (by kernel_rfl) HWD.out ?_
          (simp only [t_1,t_2,t_3,t_4]);(repeat (first|((with_reducible refine wpStill_step (fun K hK=>?_));go_simp;(with_reducible refine hK _ ?_);clear hK K)|((with_reducible refine qaa ?_ ?_);(with_unfolding_all rfl))));(with_reducible refine wpStill_nil ?_)
          go_wp2_with (go_at_call 80;(with_reducible refine(hFd.unless (by omega) _ _).mono ?_);rintro e w9 ⟨rfl,h9⟩;have hend:=h_ h9;clear h9)
          go_meet;exact hend.out.okc hO.out
        case rest=>
         have hFS:=hcut;clear hcut
         go_upto_region 11 with(fail)
         go_cut [] (fun wx=>FS w (w.heap.size+1) e.name it.num w ((wr.heap.size,#[.string (S it.name),.int .i64 it.num,.slice iq it.notes.length ic],76) :: BLK) ((3+6*k)+3) (((((un e.name (-1) O1 8 ++ un e.name (-1) O2 3 ++ un e.name (-1) O3 14) ++ done) ++ un e.name it.num I1 6) ++ un e.name it.num I2 11) ++ un e.name it.num I3 8) wx)
         case first=>
          have kk1:=hFS.cell b1;have kk3:=hFS.cell b3
          go_wp2_with (first
           | (go_at_call 124;(with_reducible refine(UP.out _).mono ?_);rintro e w1 ⟨rfl,g1⟩;have hF1:=FS.bel hFS g1;have kk1:=hF1.cell b1;have kk3:=hF1.cell b3;clear g1)
           | (go_at_call 80;(with_reducible refine(hF1.unless (by omega) _ _).mono ?_);rintro e w9 ⟨rfl,h9⟩;have hend:=h_ h9;clear h9))
          go_meet;exact hend.out
         case rest=>
          have hFS:=hcut;clear hcut
          go_upto_region 12 with(fail)
          go_cut [] (fun wx=>FS w (w.heap.size+1) e.name it.num w ((wr.heap.size,#[.string (S it.name),.int .i64 it.num,.slice iq it.notes.length ic],76) :: BLK) ((3+6*k)+4) ((((((un e.name (-1) O1 8 ++ un e.name (-1) O2 3 ++ un e.name (-1) O3 14) ++ done) ++ un e.name it.num I1 6) ++ un e.name it.num I2 11) ++ un e.name it.num I3 8) ++ un e.name it.num (!Q4) 9) wx)
          case first=>
           have kk1:=hFS.cell b1;have kk3:=hFS.cell b3
           go_wp2_with (first
            | (go_at_call 125;(with_reducible refine(SE.out _ (FS.bel0 hFS)).mono ?_);rintro e w1 ⟨rfl,g1⟩;have hF1:=FS.bel hFS g1;have kk1:=hF1.cell b1;have kk3:=hF1.cell b3;clear g1)
            | (go_at_call 80;(with_reducible refine(hF1.unless (by omega) _ _).mono ?_);rintro e w9 ⟨rfl,h9⟩;have hend:=h_ h9;clear h9))
           go_meet;exact hend.out
          case rest=>
           have hFS:=hcut;clear hcut
           go_upto_region 13 with(fail)
           go_cut [] (fun wx=>FS w (w.heap.size+1) e.name it.num w ((wr.heap.size,#[.string (S it.name),.int .i64 it.num,.slice iq it.notes.length ic],76) :: BLK) ((3+6*k)+5) (((((((un e.name (-1) O1 8 ++ un e.name (-1) O2 3 ++ un e.name (-1) O3 14) ++ done) ++ un e.name it.num I1 6) ++ un e.name it.num I2 11) ++ un e.name it.num I3 8) ++ un e.name it.num (!Q4) 9) ++ un e.name it.num (!Q5) 21) wx)
           case first=>
            have kk1:=hFS.cell b1;have kk3:=hFS.cell b3
            go_wp2_with (first
             | (go_at_call 127;(with_reducible refine(RS.out _ (FS.bel0 hFS)).mono ?_);rintro e w1 ⟨rfl,g1⟩;have hF1:=FS.bel hFS g1;have kk1:=hF1.cell b1;have kk3:=hF1.cell b3;clear g1)
             | (go_at_call 80;(with_reducible refine(hF1.unless (by omega) _ _).mono ?_);rintro e w9 ⟨rfl,h9⟩;have hend:=h_ h9;clear h9))
            go_meet;exact hend.out
           case rest=>
            have hFS:=hcut;clear hcut;have kk1:=hFS.cell b1;have kk3:=hFS.cell b3
            go_wp2_with (go_at_call 122;(with_reducible refine(hFS.noted (by omega) _ _ _ HNT.out HB3.out).mono ?_);rintro e w9 ⟨rfl,h9⟩;have hend:=h_ h9;clear h9)
            refine⟨⟨k+1,done ++ IP,it.num,by omega,rfl,?_,hgo2⟩,by simp [intOf];omega⟩;have:=hend.out.dropb.moreN (N2:=3+6*(k+1)) (by omega);rw [←HIP.out]
            simpa only [List.append_assoc]using this
     ·have hkl:k=e.items.length:=by omega
      have hdn:done=TF:=by
       have:=hgo.out;rw [hkl,List.drop_length]at this
       simpa [qc3]using this
      subst hdn;subst hkl;clear hgo;obtain⟨fc,ffz⟩:=hFS.fdcell
      go_upto_region 16 with(fail)
      go_cut [] (fun wx=>FS w (w.heap.size+1) e.name (-1) w BLK (3+6*e.items.length) ((un e.name (-1) O1 8 ++ un e.name (-1) O2 3 ++ un e.name (-1) O3 14) ++ done) wx)
      case first=>
       go_wp2;go_meet
       exact hFS.setnum
      case rest=>
       clear hFS fc ffz;have hFS:=hcut;clear hcut;have kk1:=hFS.cell b1;have hps:((un e.name (-1) O1 8 ++ un e.name (-1) O2 3 ++ un e.name (-1) O3 14) ++ done).length<=3+6*e.items.length:=hFS.2.2.2.1;have CS:=h_ (qof w (w.heap.size+1) e.name ((un e.name (-1) O1 8 ++ un e.name (-1) O2 3 ++ un e.name (-1) O3 14) ++ done) wc _ e.res 0 2147483647 hFS.1 (by omega) (by omega) hFS.bel0 HE2.out);have hsl:(spans e.name e.res 0 2147483647).length<=2*e.res.length:=qcw _ _ _ _ _;generalize spans e.name e.res 0 2147483647=TSP at CS hsl HV
       go_upto_region 17 with(fail)
       go_cut [] (fun wx=>FS w (w.heap.size+1) e.name (-1) w BLK (3+6*e.items.length+2*e.res.length) ((un e.name (-1) O1 8 ++ un e.name (-1) O2 3 ++ un e.name (-1) O3 14) ++ done ++ TSP) wx)
       case first=>
        go_wp2_with (go_at_call 120;(with_reducible refine CS.out.mono ?_);rintro e w9 h9;have he:=h9.1;(subst he);have hend:=h_ h9;clear h9)
        go_meet;exact FS.of_post hFS hend.out (by rw [List.length_append];omega)
       case rest=>
        clear hFS kk1 CS;have hFS:=hcut;clear hcut;have kk1:=hFS.cell b1
        go_upto_region 19 with(go_at_call 122;(with_reducible refine(hFS.noted (by omega) _ _ _ HE3.out HNL.out).mono ?_);rintro e w9 ⟨rfl,h9⟩)
        obtain⟨v,z1,z2⟩:=h9.out;have hbz:=h9.bel0;have Z2:=h_ z2;clear hFS kk1 h9 z2;go_wp2;go_ret;refine⟨v,rfl,?_,hbz.out⟩;rw [HV.out];exact Z2.out
end
end Go.Proofs.YtfoaaglbpmmhiaaGreatDoor
