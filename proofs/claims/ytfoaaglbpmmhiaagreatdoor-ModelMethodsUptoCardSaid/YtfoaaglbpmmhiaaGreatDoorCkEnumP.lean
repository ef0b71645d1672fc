import Derived.Test.YtfoaaglbpmmhiaaGreatDoorKitC
import Derived.Test.YtfoaaglbpmmhiaaGreatDoorCkSeen
import Derived.Test.YtfoaaglbpmmhiaaGreatDoorKitA
import Derived.Deep.DeepCutAuto
set_option maxRecDepth 100000
set_option maxHeartbeats 4000000
set_option linter.unusedVariables false
set_option linter.unusedSimpArgs false
namespace Go.Proofs.YtfoaaglbpmmhiaaGreatDoor
open Go.RowKit Ck
section
variable {w0 : World} {fb : Nat} {d : Str} {num : Int} {w : World} {bl : List (Nat × Array Value × TypeId)} {N : Nat} {ps : List PProb} {wx : World}
theorem FS.lt (h:FS w0 fb d num w bl N ps wx):fb < wx.heap.size:=h.1.lt
theorem FS.addb (h:FS w0 fb d num w bl N ps wx) (cs:Array Value) (T:TypeId) (hT:T ≠ 164):FS w0 fb d num w ((wx.heap.size,cs,T) :: bl) N ps (wx.alloc (.cells cs T)):=by
 have h2:=h.bel ((Bel.refl wx).alloc (.cells cs T));have hlt:=h.lt;refine ⟨h2.1,h2.2.1,h2.2.2.1,h2.2.2.2.1,fun b hb => ?_⟩;rcases List.mem_cons.1 hb with rfl | hb
 ·exact ⟨heap_alloc_new _ _,by show wx.heap.size ≠ fb;omega,hT⟩
 ·exact h2.2.2.2.2 b hb
theorem FS.dropb {b:Nat × Array Value × TypeId} (h:FS w0 fb d num w (b :: bl) N ps wx):FS w0 fb d num w bl N ps wx:=⟨h.1,h.2.1,h.2.2.1,h.2.2.2.1,fun x hx => h.2.2.2.2 x (List.mem_cons_of_mem _ hx)⟩
theorem FS.moreN {N2:Nat} (h:FS w0 fb d num w bl N ps wx) (hN:N<=N2):FS w0 fb d num w bl N2 ps wx:=⟨h.1,h.2.1,h.2.2.1,Nat.le_trans h.2.2.2.1 hN,h.2.2.2.2⟩
end
theorem itemP_len (e:PEnum) (i:Nat) (it:PItem):(itemP e i it).length<=6:=by
 unfold itemP noted;exact app_len (app_len (app_len (app_len (app_len (un_len _ _ _ _) (un_len _ _ _ _)) (un_len _ _ _ _)) (un_len _ _ _ _)) (un_len _ _ _ _)) (un_len _ _ _ _)
theorem ck_Enum (en:Str) (eop:Bool) (eq1 eq2 eq3:Option Addr) (em1 em2 em3 ec1 ec2 ec3:Nat) (e:PEnum) (w:World) (he0:VEnum w [.string (S en),.bool eop,.slice eq1 em1 ec1,.slice eq2 em2 ec2,.slice eq3 em3 ec3] e) (hM:ML w) (hnm:e.name.length<=100000000) (hl1:e.items.length<=2000000) (hl2:e.res.length<=2000000) (hil : ∀ f ∈ e.items,f.name.length<=1000000000/\∀ n ∈ f.notes,n.name.length<=1000000000) (hnl : ∀ n ∈ e.notes,n.name.length<=1000000000) :
  Calls Tryz.prog 85 #[.agg #[.string (S en),.bool eop,.slice eq1 em1 ec1,.slice eq2 em2 ec2,.slice eq3 em3 ec3]] w (ProbsOut w (enum e)):=by
 obtain ⟨_,_,_,hce0,he1,he2,he3⟩:=he0;cases hce0;obtain rfl:=sl_len he1;obtain rfl:=sl_len he2;obtain rfl:=sl_len he3;have hUN:=fun W (k:Bel w W) => ck_usableName e.name W hnm (hM.below k)
 have V:enum e=un e.name (-1) (usableName e.name) 8 ++ un e.name (-1) (decide (1<=e.items.length/\e.items.length<=64/\e.res.length<=16)) 3 ++ un e.name (-1) (match e.items with | [] => true | it :: _ => decide (it.num=0)) 14 ++ itemsGo e 0 e.items ++ spans e.name e.res 0 2147483647 ++ noted e.name (-1) e.notes 3:=rfl;generalize usableName e.name=O1 at hUN V;generalize hO2:decide (1<=e.items.length/\e.items.length<=64/\e.res.length<=16)=O2 at V;generalize hO3:(match e.items with | [] => true | it :: _ => decide (it.num=0))=O3 at V;generalize hTF:itemsGo e 0 e.items=TF at V;have HTF:=Lib.hid hTF;clear hTF;obtain ⟨BLK,hBLK⟩ : ∃ BLK:List (Nat × Array Value × TypeId),BLK=[(w.heap.size,#[.string (S e.name),.bool e.op,.slice eq1 e.items.length ec1,.slice eq2 e.res.length ec2,.slice eq3 e.notes.length ec3],74)]:=⟨_,rfl⟩;have b1:(w.heap.size,#[.string (S e.name),.bool e.op,.slice eq1 e.items.length ec1,.slice eq2 e.res.length ec2,.slice eq3 e.notes.length ec3],74) ∈ BLK:=by rw [hBLK];exact List.mem_cons_self
 have hst:=FS.start w (w.alloc (.cells #[.string (S e.name),.bool e.op,.slice eq1 e.items.length ec1,.slice eq2 e.res.length ec2,.slice eq3 e.notes.length ec3] 74)) e.name (-1) BLK ((Bel.refl w).alloc _) (fun x hx => by
  rw [hBLK] at hx;simp only [List.mem_cons,List.not_mem_nil,or_false] at hx;subst hx
  exact ⟨heap_alloc_new _ _,by show 74 ≠ 164;decide⟩)
 simp only [World.size_alloc] at hst;obtain ⟨qe,ce,hqe,hle,hcape,hele⟩:=he1;cases hqe
 have hhead:(e.items.length=0/\O3=true) ∨ ∃ (b off:Nat) (x:Int),eq1=some ⟨b,off,none⟩/\0 < e.items.length/\w.cell? ⟨b,off + 1,none⟩=some (.int .i64 x)/\decide (x=0)=O3:=by
  rcases hcase:e.items with _ | ⟨it,r⟩
  ·exact .inl ⟨rfl,by rw [← hO3,hcase]⟩
  ·obtain ⟨b,off,hq,_,vs,hce,hvs⟩:=hele 0 it (by rw [hcase];rfl)
   obtain ⟨nv,rfl,_⟩:=hvs;have hc1:=hce 1 _ rfl;simp only [Nat.zero_mul,Nat.add_zero] at hc1;exact .inr ⟨b,off,it.num,hq,by simp,hc1,by rw [← hO3,hcase]⟩
 have EL:=Lib.hid hele;have HI:=Lib.hid (show Sv 3 VItem w (.slice eq1 e.items.length ec1) e.items from ⟨_,_,rfl,hle,hcape,hele⟩);have UN:=Lib.hid hUN;have HV:=Lib.hid V;have HO2:=Lib.hid hO2;have HHD:=Lib.hid hhead;have HE2:=Lib.hid he2;have HE3:=Lib.hid he3;have HIL:=Lib.hid hil;have HNL:=Lib.hid hnl;clear hUN V hO2 hO3 hhead he2 he3 hil hnl hBLK hele
 go_enter Tryz.func85,Tryz.ntmps85
 go_upto_region 2 with (fail)
 go_cut [] (fun wx => FS w (w.heap.size + 1) e.name (-1) w BLK 1 (un e.name (-1) O1 8) wx)
 case first =>
  have hFS:=hst;have kk1:=hFS.cell b1
  go_wp2_with (first
   | (go_at_call 118;(with_reducible refine (UN.out _ (FS.bel0 hFS)).mono ?_);rintro e w1 ⟨rfl,g1⟩;have hF1:=FS.bel hFS g1;have kk1:=hF1.cell b1;clear g1)
   | (go_at_call 80;(with_reducible refine (hF1.unless (by omega) _ _).mono ?_);rintro e w9 ⟨rfl,h9⟩;have hend:=Lib.hid h9;clear h9))
  go_meet
  exact hend.out
 case rest =>
  have hFS:=hcut;clear hcut hst
  go_upto_region 3 with (fail)
  go_cut [] (fun wx => FS w (w.heap.size + 1) e.name (-1) w BLK 2 (un e.name (-1) O1 8 ++ un e.name (-1) O2 3) wx)
  case first =>
   have kk1:=hFS.cell b1
   have hcase:(1<=e.items.length/\e.items.length<=64/\decide (e.res.length<=16)=O2) ∨ (e.items.length < 1/\false=O2) ∨ (1<=e.items.length/\64 < e.items.length/\false=O2):=by
    by_cases ha:1<=e.items.length
    ·by_cases hb:e.items.length<=64
     ·exact .inl ⟨ha,hb,by rw [← HO2.out];simp [ha,hb]⟩
     ·exact .inr (.inr ⟨ha,by omega,by rw [← HO2.out];exact (decide_eq_false (fun h => hb h.2.1)).symm⟩)
    ·exact .inr (.inl ⟨by omega,by rw [← HO2.out];exact (decide_eq_false (fun h => ha h.1)).symm⟩)
   rcases hcase with ⟨ha,hb,hO⟩ | ⟨ha,hO⟩ | ⟨ha,hb,hO⟩
   all_goals (have HO:=Lib.hid hO;clear hO)
   all_goals
    go_wp2_with (go_at_call 80;(with_reducible refine (hFS.unless (by omega) _ _).mono ?_);rintro e w9 ⟨rfl,h9⟩;have hend:=Lib.hid h9;clear h9)
    all_goals go_meet
    all_goals exact hend.out.okc (by first | exact HO.out | (rw [← HO.out,Bool.eq_iff_iff];simp;done) | (rw [← HO.out,Bool.eq_iff_iff];simp;omega))
  case rest =>
   clear hFS;have hFS:=hcut;clear hcut
   go_upto_region 4 with (fail)
   go_cut [] (fun wx => FS w (w.heap.size + 1) e.name (-1) w BLK 3 (un e.name (-1) O1 8 ++ un e.name (-1) O2 3 ++ un e.name (-1) O3 14) wx)
   case first =>
    have kk1:=hFS.cell b1;rcases HHD.out with ⟨h0,hO⟩ | ⟨b,off,x,hq,hpos,hcl,hO⟩
    ·have HO:=Lib.hid hO
     have hl0:(e.items.length:Int)=0:=by omega
     have hl0b:((e.items.length:Int) == 0)=true:=beq_iff_eq.2 hl0;clear hO h0 hl0
     go_wp2_with (go_at_call 80;(with_reducible refine (hFS.unless (by omega) _ _).mono ?_);rintro e w9 ⟨rfl,h9⟩;have hend:=Lib.hid h9;clear h9)
     all_goals go_meet
     all_goals exact hend.out.okc HO.out.symm
    ·subst hq
     have HO:=Lib.hid hO;have hl0b:((e.items.length:Int) == 0)=false:=beq_eq_false_iff_ne.2 (by omega);have hli:(0:Int) < (e.items.length:Int):=by omega
     have e1:=hFS.bel0.some hcl;clear hO hcl
     go_wp2_with (go_at_call 80;(with_reducible refine (hFS.unless (by omega) _ _).mono ?_);rintro e w9 ⟨rfl,h9⟩;have hend:=Lib.hid h9;clear h9)
     all_goals go_meet
     all_goals exact hend.out.okc HO.out
   case rest =>
    clear hFS;have hFS:=hcut;clear hcut HHD;have kk1:=hFS.cell b1
    go_wp2
    go_loopw [50] (fun i wr => ∃ (k:Nat) (done:List PProb) (nm:Int),k<=e.items.length/\i=.int .i64 k/\FS w (w.heap.size + 1) e.name nm w BLK (3 + 6 * k) ((un e.name (-1) O1 8 ++ un e.name (-1) O2 3 ++ un e.name (-1) O3 14) ++ done) wr/\Hid (done ++ itemsGo e k (e.items.drop k)=TF)) (fun i _ => e.items.length - (intOf i).toNat)
    case atStart => exact ⟨0,[], -1,by omega,rfl,by rw [List.append_nil];exact hFS,Lib.hid HTF.out⟩
    case round =>
     clear kk1 hFS;obtain ⟨k,done,nm,hk,rfl,hFS,hgo⟩:=hrel;by_cases hlt:k < e.items.length
     ·have hki:(k:Int) < (e.items.length:Int):=by omega
      have hg:=List.getElem?_eq_getElem hlt;obtain ⟨b,off,rfl,hbs,vs,hce,hvs⟩:=EL.out k _ hg
      have hprev : ∀ j,k=j + 1->∃ g:PItem,e.items[k - 1]? = some g/\w.cell? ⟨b,off + j * 3 + 1,none⟩=some (.int .i64 g.num):=fun j hj => by
       have hgj:=List.getElem?_eq_getElem (show j < e.items.length by omega);obtain ⟨b',off',he',_,vs2,hce2,hvs2⟩:=EL.out j _ hgj;cases he';obtain ⟨_,rfl,_⟩:=hvs2;have hij:k - 1=j:=by omega
       exact ⟨_,by rw [hij];exact hgj,hce2 1 _ rfl⟩
      have hdr:e.items.drop k=e.items[k] :: e.items.drop (k + 1):=List.drop_eq_getElem_cons hlt;have hgo2:=Lib.hid (show (done ++ itemP e k e.items[k]) ++ itemsGo e (k + 1) (e.items.drop (k + 1))=TF by rw [← hgo.out,hdr,List.append_assoc];rfl);have hik:=HIL.out _ (List.getElem_mem hlt);have hSE:=fun W (kk:Bel w W) => ck_seenItem _ e.items k W (Sv.bel VItem.stays HI.out kk) hlt
      obtain ⟨nv,hvv,hnt⟩:=hvs;obtain ⟨iq,ic,rfl,_⟩:=sl_form hnt;subst hvv;have e0:=hFS.bel0.some (hce 0 _ rfl);rw [Nat.add_zero] at e0;have e1:=hFS.bel0.some (hce 1 _ rfl);have e2:=hFS.bel0.some (hce 2 _ rfl);clear hce hgo hdr hg;generalize e.items[k]=it at *;have hUP:=fun W => ck_usablePart it.name W (Nat.le_trans hik.1 (by decide))
      have hRS:=fun W (kk:Bel w W) => ck_Reserved _ e.res it.num W (HE2.out.bel VSpan.stays kk)
      have VI:itemP e k it=un e.name it.num (decide (0<=it.num/\it.num<=2147483647)) 6 ++ un e.name it.num (decide (k=0) || (match e.items[k - 1]? with | some g => decide (g.num < it.num) | none => false)) 11 ++ un e.name it.num (usablePart it.name) 8 ++ un e.name it.num (!((e.items.take k).any fun x => decide (x.name=it.name))) 9 ++ un e.name it.num (!reserved e.res it.num) 21 ++ noted e.name it.num it.notes 4:=rfl;generalize itemP e k it=IP at hgo2 VI;generalize hI1:decide (0<=it.num/\it.num<=2147483647)=I1 at VI;generalize hI2:(decide (k=0) || (match e.items[k - 1]? with | some g => decide (g.num < it.num) | none => false))=I2 at VI;generalize usablePart it.name=I3 at hUP VI;generalize ((e.items.take k).any fun x => decide (x.name=it.name))=Q4 at hSE VI;generalize reserved e.res it.num=Q5 at hRS VI;have HIP:=Lib.hid VI.symm;have HI1:=Lib.hid hI1;have HI2:=Lib.hid hI2;have UP:=Lib.hid hUP;have SE:=Lib.hid hSE;have RS:=Lib.hid hRS;have HPV:=Lib.hid hprev;have HNT:=Lib.hid hnt;have HB3:=Lib.hid hik.2;have hadd:=FS.addb hFS #[.string (S it.name),.int .i64 it.num,.slice iq it.notes.length ic] 76 (by decide);have b3:(wr.heap.size,#[.string (S it.name),.int .i64 it.num,.slice iq it.notes.length ic],76) ∈ ((wr.heap.size,#[.string (S it.name),.int .i64 it.num,.slice iq it.notes.length ic],76) :: BLK):=List.mem_cons_self;have b1':=b1;have b1:(w.heap.size,#[.string (S e.name),.bool e.op,.slice (some ⟨b,off,none⟩) e.items.length ec1,.slice eq2 e.res.length ec2,.slice eq3 e.notes.length ec3],74) ∈ ((wr.heap.size,#[.string (S it.name),.int .i64 it.num,.slice iq it.notes.length ic],76) :: BLK):=List.mem_cons_of_mem _ b1';obtain ⟨fc,ffz⟩:=hadd.fdcell;have HADD:=Lib.hid hadd;clear VI hI1 hI2 hUP hSE hRS hprev hnt hik hadd hFS
      go_upto_region 8 with (fail)
      go_cut [] (fun wx => FS w (w.heap.size + 1) e.name it.num w ((wr.heap.size,#[.string (S it.name),.int .i64 it.num,.slice iq it.notes.length ic],76) :: BLK) (3 + 6 * k) ((un e.name (-1) O1 8 ++ un e.name (-1) O2 3 ++ un e.name (-1) O3 14) ++ done) wx)
      case first =>
       go_wp2
       go_meet
       exact HADD.out.setnum
      case rest =>
       have hFS:=hcut;clear hcut
       go_upto_region 9 with (fail)
       go_cut [] (fun wx => FS w (w.heap.size + 1) e.name it.num w ((wr.heap.size,#[.string (S it.name),.int .i64 it.num,.slice iq it.notes.length ic],76) :: BLK) ((3 + 6 * k) + 1) (((un e.name (-1) O1 8 ++ un e.name (-1) O2 3 ++ un e.name (-1) O3 14) ++ done) ++ un e.name it.num I1 6) wx)
       case first =>
        have kk1:=hFS.cell b1;have kk3:=hFS.cell b3;by_cases ha:0<=it.num
        all_goals
         go_wp2_with (go_at_call 80;(with_reducible refine (hFS.unless (by omega) _ _).mono ?_);rintro e w9 ⟨rfl,h9⟩;have hend:=Lib.hid h9;clear h9)
         all_goals go_meet
         all_goals exact hend.out.okc (by rw [← HI1.out];first | (simp [ha];done) | (rw [Bool.eq_iff_iff];simp [ha];try omega))
       case rest =>
        have hFS:=hcut;clear hcut
        go_upto_region 10 with (fail)
        go_cut [] (fun wx => FS w (w.heap.size + 1) e.name it.num w ((wr.heap.size,#[.string (S it.name),.int .i64 it.num,.slice iq it.notes.length ic],76) :: BLK) ((3 + 6 * k) + 2) ((((un e.name (-1) O1 8 ++ un e.name (-1) O2 3 ++ un e.name (-1) O3 14) ++ done) ++ un e.name it.num I1 6) ++ un e.name it.num I2 11) wx)
        case first =>
         obtain ⟨wd,hwd⟩ : ∃ wd,wd=wc.drew:=⟨_,rfl⟩;have kd:Bel wc wd:=by rw [hwd];exact (Bel.refl _).drew
         have HWD:=Lib.hid hwd;have hFd:=hFS.bel kd;have kk1:=hFd.cell b1;have kk3:=hFd.cell b3;clear hwd;by_cases hi0:k=0
         ·have hO:I2=true:=by rw [← HI2.out,decide_eq_true hi0,Bool.true_or]
          have HO:=Lib.hid hO;have hk0:((k:Int) == 0)=true:=by rw [hi0];rfl
          clear hO hi0;refine rg_tail 15 (by kernel_rfl) (by kernel_rfl) HWD.out ?_
          (simp only [List.take_succ_cons,List.take_zero,List.drop_succ_cons,List.drop_zero]);(repeat (first | ((with_reducible refine wpStill_step (fun K hK => ?_));go_simp;(with_reducible refine hK _ ?_);clear hK K) | ((with_reducible refine rg_skip ?_ ?_);(with_unfolding_all rfl))));(with_reducible refine wpStill_nil ?_)
          go_wp2_with (go_at_call 80;(with_reducible refine (hFd.unless (by omega) _ _).mono ?_);rintro e w9 ⟨rfl,h9⟩;have hend:=Lib.hid h9;clear h9)
          go_meet
          exact hend.out.okc HO.out.symm
         ·obtain ⟨j,hij⟩ : ∃ j,k=j + 1:=⟨k - 1,by omega⟩
          obtain ⟨g,hg1,hg2⟩:=HPV.out j hij;have hO:=Lib.hid (show decide (g.num < it.num)=I2 by rw [← HI2.out,hg1,decide_eq_false hi0,Bool.false_or]);have d1:=hFd.2.1.some hg2;have j0:(0:Int)<=(j:Int):=by omega
          have j1:(j:Int) < (e.items.length:Int):=by omega
          have jn:((k:Int) == 0)=false:=by rw [beq_eq_false_iff_ne];omega
          have jw:IntKind.i64.wrap ((k:Int) - 1)=(j:Int):=by rw [show (k:Int) - 1=(j:Int) by omega];exact wrap_small _ (by omega) (by omega)
          have jw2:IntKind.i64.wrap (j:Int)=(j:Int):=wrap_small _ (by omega) (by omega);have jw3:(k:Int) - 1=(j:Int):=by omega
          clear hij hg1 hg2 hi0;refine rg_tail 15 (by kernel_rfl) (by kernel_rfl) HWD.out ?_
          (simp only [List.take_succ_cons,List.take_zero,List.drop_succ_cons,List.drop_zero]);(repeat (first | ((with_reducible refine wpStill_step (fun K hK => ?_));go_simp;(with_reducible refine hK _ ?_);clear hK K) | ((with_reducible refine rg_skip ?_ ?_);(with_unfolding_all rfl))));(with_reducible refine wpStill_nil ?_)
          go_wp2_with (go_at_call 80;(with_reducible refine (hFd.unless (by omega) _ _).mono ?_);rintro e w9 ⟨rfl,h9⟩;have hend:=Lib.hid h9;clear h9)
          go_meet
          exact hend.out.okc hO.out
        case rest =>
         have hFS:=hcut;clear hcut
         go_upto_region 11 with (fail)
         go_cut [] (fun wx => FS w (w.heap.size + 1) e.name it.num w ((wr.heap.size,#[.string (S it.name),.int .i64 it.num,.slice iq it.notes.length ic],76) :: BLK) ((3 + 6 * k) + 3) (((((un e.name (-1) O1 8 ++ un e.name (-1) O2 3 ++ un e.name (-1) O3 14) ++ done) ++ un e.name it.num I1 6) ++ un e.name it.num I2 11) ++ un e.name it.num I3 8) wx)
         case first =>
          have kk1:=hFS.cell b1;have kk3:=hFS.cell b3
          go_wp2_with (first
           | (go_at_call 124;(with_reducible refine (UP.out _).mono ?_);rintro e w1 ⟨rfl,g1⟩;have hF1:=FS.bel hFS g1;have kk1:=hF1.cell b1;have kk3:=hF1.cell b3;clear g1)
           | (go_at_call 80;(with_reducible refine (hF1.unless (by omega) _ _).mono ?_);rintro e w9 ⟨rfl,h9⟩;have hend:=Lib.hid h9;clear h9))
          go_meet
          exact hend.out
         case rest =>
          have hFS:=hcut;clear hcut
          go_upto_region 12 with (fail)
          go_cut [] (fun wx => FS w (w.heap.size + 1) e.name it.num w ((wr.heap.size,#[.string (S it.name),.int .i64 it.num,.slice iq it.notes.length ic],76) :: BLK) ((3 + 6 * k) + 4) ((((((un e.name (-1) O1 8 ++ un e.name (-1) O2 3 ++ un e.name (-1) O3 14) ++ done) ++ un e.name it.num I1 6) ++ un e.name it.num I2 11) ++ un e.name it.num I3 8) ++ un e.name it.num (!Q4) 9) wx)
          case first =>
           have kk1:=hFS.cell b1;have kk3:=hFS.cell b3
           go_wp2_with (first
            | (go_at_call 125;(with_reducible refine (SE.out _ (FS.bel0 hFS)).mono ?_);rintro e w1 ⟨rfl,g1⟩;have hF1:=FS.bel hFS g1;have kk1:=hF1.cell b1;have kk3:=hF1.cell b3;clear g1)
            | (go_at_call 80;(with_reducible refine (hF1.unless (by omega) _ _).mono ?_);rintro e w9 ⟨rfl,h9⟩;have hend:=Lib.hid h9;clear h9))
           go_meet
           exact hend.out
          case rest =>
           have hFS:=hcut;clear hcut
           go_upto_region 13 with (fail)
           go_cut [] (fun wx => FS w (w.heap.size + 1) e.name it.num w ((wr.heap.size,#[.string (S it.name),.int .i64 it.num,.slice iq it.notes.length ic],76) :: BLK) ((3 + 6 * k) + 5) (((((((un e.name (-1) O1 8 ++ un e.name (-1) O2 3 ++ un e.name (-1) O3 14) ++ done) ++ un e.name it.num I1 6) ++ un e.name it.num I2 11) ++ un e.name it.num I3 8) ++ un e.name it.num (!Q4) 9) ++ un e.name it.num (!Q5) 21) wx)
           case first =>
            have kk1:=hFS.cell b1;have kk3:=hFS.cell b3
            go_wp2_with (first
             | (go_at_call 127;(with_reducible refine (RS.out _ (FS.bel0 hFS)).mono ?_);rintro e w1 ⟨rfl,g1⟩;have hF1:=FS.bel hFS g1;have kk1:=hF1.cell b1;have kk3:=hF1.cell b3;clear g1)
             | (go_at_call 80;(with_reducible refine (hF1.unless (by omega) _ _).mono ?_);rintro e w9 ⟨rfl,h9⟩;have hend:=Lib.hid h9;clear h9))
            go_meet
            exact hend.out
           case rest =>
            have hFS:=hcut;clear hcut;have kk1:=hFS.cell b1;have kk3:=hFS.cell b3
            go_wp2_with (go_at_call 122;(with_reducible refine (hFS.noted (by omega) _ _ _ HNT.out HB3.out).mono ?_);rintro e w9 ⟨rfl,h9⟩;have hend:=Lib.hid h9;clear h9)
            refine ⟨⟨k + 1,done ++ IP,it.num,by omega,rfl,?_,hgo2⟩,by simp [intOf];omega⟩;have:=hend.out.dropb.moreN (N2:=3 + 6 * (k + 1)) (by omega);rw [← HIP.out]
            simpa only [List.append_assoc] using this
     ·have hkl:k=e.items.length:=by omega
      have hdn:done=TF:=by
       have:=hgo.out;rw [hkl,List.drop_length] at this
       simpa [itemsGo] using this
      subst hdn;subst hkl;clear hgo;obtain ⟨fc,ffz⟩:=hFS.fdcell
      go_upto_region 16 with (fail)
      go_cut [] (fun wx => FS w (w.heap.size + 1) e.name (-1) w BLK (3 + 6 * e.items.length) ((un e.name (-1) O1 8 ++ un e.name (-1) O2 3 ++ un e.name (-1) O3 14) ++ done) wx)
      case first =>
       go_wp2
       go_meet
       exact hFS.setnum
      case rest =>
       clear hFS fc ffz;have hFS:=hcut;clear hcut;have kk1:=hFS.cell b1;have hps:((un e.name (-1) O1 8 ++ un e.name (-1) O2 3 ++ un e.name (-1) O3 14) ++ done).length<=3 + 6 * e.items.length:=hFS.2.2.2.1;have CS:=Lib.hid (fd_spans w (w.heap.size + 1) e.name ((un e.name (-1) O1 8 ++ un e.name (-1) O2 3 ++ un e.name (-1) O3 14) ++ done) wc _ e.res 0 2147483647 hFS.1 (by omega) (by omega) hFS.bel0 HE2.out);have hsl:(spans e.name e.res 0 2147483647).length<=2 * e.res.length:=spans_len _ _ _ _ _;generalize spans e.name e.res 0 2147483647=TSP at CS hsl HV
       go_upto_region 17 with (fail)
       go_cut [] (fun wx => FS w (w.heap.size + 1) e.name (-1) w BLK (3 + 6 * e.items.length + 2 * e.res.length) ((un e.name (-1) O1 8 ++ un e.name (-1) O2 3 ++ un e.name (-1) O3 14) ++ done ++ TSP) wx)
       case first =>
        go_wp2_with (go_at_call 120;(with_reducible refine CS.out.mono ?_);rintro e w9 h9;have he:=h9.1;(subst he);have hend:=Lib.hid h9;clear h9)
        go_meet
        exact FS.of_post hFS hend.out (by rw [List.length_append];omega)
       case rest =>
        clear hFS kk1 CS;have hFS:=hcut;clear hcut;have kk1:=hFS.cell b1
        go_upto_region 19 with (go_at_call 122;(with_reducible refine (hFS.noted (by omega) _ _ _ HE3.out HNL.out).mono ?_);rintro e w9 ⟨rfl,h9⟩)
        obtain ⟨v,z1,z2⟩:=h9.out;have hbz:=h9.bel0;have Z2:=Lib.hid z2;clear hFS kk1 h9 z2
        go_wp2
        go_ret
        refine ⟨v,rfl,?_,hbz.out⟩;rw [HV.out];exact Z2.out
end Go.Proofs.YtfoaaglbpmmhiaaGreatDoor
