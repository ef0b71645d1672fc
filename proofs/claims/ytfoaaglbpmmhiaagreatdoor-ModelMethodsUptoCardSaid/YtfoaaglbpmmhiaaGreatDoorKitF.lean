import Derived.Test.YtfoaaglbpmmhiaaGreatDoorMdRecord
import Derived.Test.YtfoaaglbpmmhiaaGreatDoorCkAll
import Derived.Deep.DeepCutAuto
set_option maxRecDepth 100000
set_option maxHeartbeats 4000000
set_option linter.unusedVariables false
set_option linter.unusedSimpArgs false
namespace Go.Proofs.YtfoaaglbpmmhiaaGreatDoor
open Go.RowKit Ck Md
theorem clGo_cons (D:List PDecl) (i:Nat) (out:List PMem) (f:PMeth) (r:List PMeth):clGo D i out (f :: r)=clGo D (i + 1) (addM out f.name (calledT f.shape (nameOf D 1 f.inn) (nameOf D 1 f.out)) i) r:=rfl
theorem md_client (g:Nat) (D:List PDecl) (sn:Str) (q1 q2:Option Addr) (n1 c1 n2 c2:Nat) (v:PSvc) (w:World) (h:NM w g D) (hv:VSvc w [.string (S sn),.slice q1 n1 c1,.slice q2 n2 c2] v) (hP:PT w) (hM:ML w) (hD : ∀ d ∈ D,d.name.length<=100000000) (hfn:v.meths.length<=2000000) (hfl : ∀ f ∈ v.meths,f.name.length<=100000000) :
  Calls Tryz.prog 43 #[.pointer (some ⟨g,0,none⟩),.agg #[.string (S sn),.slice q1 n1 c1,.slice q2 n2 c2]] w (MemsOut w (client D v)):=by
 obtain ⟨i1,hi1,hy0,hy1,hy2⟩:=info_parts mem_info;obtain ⟨_,_,hcm,hm1,_⟩:=hv;cases hcm;obtain ⟨q,c,hq,hl,hcap,hel⟩:=hm1;cases hq;have V:=Lib.hid (show clGo D 0 [] (v.meths.drop 0)=client D v from rfl);generalize client D v=T at V;have EL:=Lib.hid hel;have HF:=Lib.hid hfl;have HD0:=Lib.hid hD;have HNM:=Lib.hid (fun W (kk:Bel w W) => h.bel kk);clear hel hfl h hD;have hS0:=Lib.hid (((((ST.start w).addbox #[.string (S v.name),.slice q1 v.meths.length c1,.slice q2 n2 c2] 68).addbox #[.slice none 0 0,.slice none 0 0] 97).nilrow 80 3).nilrow 3 1 |>.nilrow 9 1)
 go_enter Tryz.func43,Tryz.ntmps43
 go_wp2
 go_loopw [6,14] (fun v6 i wr => ∃ (k:Nat) (out:List PMem) (vn vw vo:Value),vo=v6/\k<=v.meths.length/\i=.int .i64 k/\Hid (ST w (memR vn vw vo out []) [⟨w.heap.size + 1,#[vn,vw],97⟩,⟨w.heap.size,#[.string (S v.name),.slice q1 v.meths.length c1,.slice q2 n2 c2],68⟩] wr)/\out.length<=k/\Hid (clGo D k out (v.meths.drop k)=T)) (fun _ i _ => v.meths.length - (intOf i).toNat)
 case atStart => exact ⟨0,[],.slice none 0 0,.slice none 0 0,.slice none 0 0,rfl,by omega,rfl,Lib.hid (by have:=hS0.out;simpa [memR,nmC] using this),by simp,V⟩
 case round =>
  clear hS0;obtain ⟨k,out,vn,vw,vo,rfl,hk,rfl,hSH,hol,hx⟩:=hrel;have hST:=hSH.out;have hfr:=(hST.boxlt 0 rfl).2;by_cases hlt:k < v.meths.length
  ·have hg2:=List.getElem?_eq_getElem hlt
   obtain ⟨b,off,rfl,hbs,vs,hce,hvs⟩:=EL.out k _ hg2;have hdr:v.meths.drop k=v.meths[k] :: v.meths.drop (k + 1):=List.drop_eq_getElem_cons hlt;obtain ⟨_,hvs1,hnt⟩:=hvs;obtain ⟨r5,d5,hnv,hnl⟩:=sl_form hnt;subst hvs1 hnv;have hfb:=HF.out _ (List.getElem_mem hlt);generalize v.meths[k]=f at *;have hki:(k:Int) < (v.meths.length:Int):=by omega
   have hb0:=hST.bel;have y0:=hb0.some (hce 0 _ rfl);rw [Nat.add_zero] at y0;have y1:=hb0.some (hce 1 _ rfl);have y2:=hb0.some (hce 2 _ rfl);have y3:=hb0.some (hce 3 _ rfl);have y4:=hb0.some (hce 4 _ rfl);have hst:=hx.out;rw [hdr,clGo_cons,addM_eq] at hst;clear hx hdr hce hg2 hnt hb0;have HA:=Lib.hid (hST.addbox #[.string (S f.name),.string (S f.inn),.string (S f.out),.int .i64 f.shape,.slice r5 f.notes.length d5] 71);have hol2:(out.map (·.name)).length<=1000000000:=by rw [List.length_map];omega
   have cam:=Lib.hid (fun W (kk:Bel w W) => id_Camel (S f.name) f.name W (S_list _) (by rw [S_size];exact hfb) (hM.below kk.out));have hcl:=camel_len f.name;have CI:=Lib.hid (fun W (kk:Bel w W) => md_name g D 1 f.inn W (HNM.out W kk));have CO:=Lib.hid (fun W (kk:Bel w W) => md_name g D 1 f.out W (HNM.out W kk));have li:=nameOf_len D 1 f.inn _ HD0.out;have lo:=nameOf_len D 1 f.out _ HD0.out;generalize nameOf D 1 f.inn=NI at CI hst li;generalize nameOf D 1 f.out=NO at CO hst lo;generalize Id.camel f.name=CN at cam hcl hst;generalize hU:unique (out.map (·.name)) CN=U at hst;have HU:=Lib.hid hU;have HST2:=Lib.hid hst;clear hU hst hST hSH
   go_upto_region 6 with (fail)
   clear y0 y1 y2 y3 y4;have zi:(S NI).size=NI.length:=S_size _;have zo:(S NO).size=NO.length:=S_size _;obtain ⟨wd,hwd⟩ : ∃ wd,wd=(wr.alloc (.cells #[.string (S f.name),.string (S f.inn),.string (S f.out),.int .i64 f.shape,.slice r5 f.notes.length d5] 71)).drew:=⟨_,rfl⟩;have HD:=Lib.hid (show ST w _ _ wd by rw [hwd];exact HA.out.belw (Bel.refl _).drew);have HWD:=Lib.hid hwd;clear hwd HA;have a1:wd.cell? ⟨wr.heap.size,1,none⟩=some (.string (S f.inn)):=by rw [HD.out.cell 0 rfl 1];rfl
   refine rg_tail 6 (by kernel_rfl) (by kernel_rfl) HWD.out ?_
   (simp only [List.take_succ_cons,List.take_zero,List.drop_succ_cons,List.drop_zero]);(repeat (first | ((with_reducible refine wpStill_step (fun K hK => ?_));go_simp;(with_reducible refine hK _ ?_);clear hK K) | ((with_reducible refine rg_skip ?_ ?_);(with_unfolding_all rfl))));(with_reducible refine wpStill_nil ?_)
   go_upto_region 7 with (go_at_call 64;(with_reducible refine (CI.out _ HD.out.bel).mono ?_);rintro e w2 ⟨rfl,g2⟩)
   have H2:=Lib.hid (HD.out.belw g2);clear HD a1 CI g2 HWD;obtain ⟨we,hwe⟩ : ∃ we,we=w2.drew:=⟨_,rfl⟩;have HE:=Lib.hid (show ST w _ _ we by rw [hwe];exact H2.out.belw (Bel.refl _).drew);have HWE:=Lib.hid hwe;clear hwe H2;have a2:we.cell? ⟨wr.heap.size,2,none⟩=some (.string (S f.out)):=by rw [HE.out.cell 0 rfl 2];rfl
   refine rg_tail 6 (by kernel_rfl) (by kernel_rfl) HWE.out ?_
   (simp only [List.take_succ_cons,List.take_zero,List.drop_succ_cons,List.drop_zero]);(repeat (first | ((with_reducible refine wpStill_step (fun K hK => ?_));go_simp;(with_reducible refine hK _ ?_);clear hK K) | ((with_reducible refine rg_skip ?_ ?_);(with_unfolding_all rfl))));(with_reducible refine wpStill_nil ?_)
   go_upto_region 8 with (go_at_call 64;(with_reducible refine (CO.out _ HE.out.bel).mono ?_);rintro e w3 ⟨rfl,g3⟩)
   have H3:=Lib.hid (HE.out.belw g3);clear HE a2 CO g3 HWE;have a3:w3.cell? ⟨wr.heap.size,3,none⟩=some (.int .i64 f.shape):=by rw [H3.out.cell 0 rfl 3];rfl
   have a0:w3.cell? ⟨wr.heap.size,0,none⟩=some (.string (S f.name)):=by rw [H3.out.cell 0 rfl 0];rfl
   have hol3:out.length<=2000000:=by omega
   by_cases h3:f.shape=3
   ·have hsh:=Lib.hid h3
    have e2:(f.shape == 2)=false:=ine2 (by omega);have e3:(f.shape == 3)=true:=ieq2 h3;have e4:(f.shape == 4)=false:=ine2 (by omega);clear h3;have hty:=Lib.hid (show S (calledT f.shape NI NO)=((⟨#[115,116,114,101,97,109,32]⟩:ByteArray) ++ S NI) ++ (⟨#[45,62]⟩:ByteArray) ++ S NO from by rw [show f.shape=3 from hsh.out];unfold calledT streamW;simp only [← S_app];rfl)
    go_upto_region 12 with (fail)
    have HT2:Hid (clGo D (k + 1) (out ++ [(⟨U,calledT f.shape NI NO,k⟩:PMem)]) (v.meths.drop (k + 1))=T):=HST2;generalize calledT f.shape NI NO=CT at hty HT2;clear HST2
    go_wp2_with (first
     | (go_at_call 39;(with_reducible refine (cam.out _ H3.out.bel).mono ?_);rintro e w4 ⟨rfl,g4⟩;have H4:=Lib.hid (H3.out.belw g4).swapX;have ADD:=Lib.hid (md_addI w _ _ _ _ vn vw (out.map fun x:PMem => x.name) _ CN k w4 H4.out hP (by omega) hol2);rw [HU.out] at ADD;clear H3 H4 g4 a0 a3)
     | (go_at_call 42;(with_reducible refine ADD.out.mono ?_);rintro e w5 ⟨vn',vw',rfl,h5⟩;have H5:=Lib.hid (h5.belw ((Bel.refl w5).alloc (.cells #[.string (S U),.string (((⟨#[115,116,114,101,97,109,32]⟩:ByteArray) ++ S NI) ++ (⟨#[45,62]⟩:ByteArray) ++ S NO),.int .i64 k] 80)));clear h5 ADD)
     | (at_builtin;refine wpList_append_lies _ rfl _ _ 45 rfl w.heap.size 80 i1 (.agg #[.string ByteArray.empty,.string ByteArray.empty,.int .i64 0]) 3 40 Tryz.underlying45 hi1 hy0 hy1 hy2 rfl (by decide) vo out.length _ rfl (H5.out.row 2 rfl) ⟨w5.heap.size,0,none⟩ 1 1 [.string (S U),.string (((⟨#[115,116,114,101,97,109,32]⟩:ByteArray) ++ S NI) ++ (⟨#[45,62]⟩:ByteArray) ++ S NO),.int .i64 k] rfl rfl (one_new _ _ _) (by simp [Value.oneCell']) (by decide) (by unfold maxLen;omega) (by omega) H5.out.bel.size (w5.heap.size + 1) (by simp) ?_))
    intro g6 cap6 w6 hown hgrow hfr3 hlt2;rw [← hty.out] at hown;have H7:=H5.out.grow 2 rfl hgrow hown (fr_own hfr3 (by simp));have H8:=Lib.hid (H7.swapX.dropbox0);clear H5 H7 hown hgrow hfr3 hlt2
    go_wp2
    refine ⟨⟨k + 1,out ++ [⟨U,CT,k⟩],vn',vw',_,rfl,by omega,rfl,Lib.hid (by rw [← memR_add];exact H8.out),by simp;omega,HT2⟩,by simp [intOf];omega⟩
   by_cases h4:f.shape=4
   ·have hsh:=Lib.hid h4
    have e2:(f.shape == 2)=false:=ine2 (by omega);have e3:(f.shape == 3)=false:=ine2 (by omega);have e4:(f.shape == 4)=true:=ieq2 h4;clear h4 h3;have hty:=Lib.hid (show S (calledT f.shape NI NO)=((⟨#[115,116,114,101,97,109,32]⟩:ByteArray) ++ S NI) ++ (⟨#[45,62]⟩:ByteArray) ++ ((⟨#[115,116,114,101,97,109,32]⟩:ByteArray) ++ S NO) from by rw [show f.shape=4 from hsh.out];unfold calledT streamW;simp only [← S_app];rfl)
    go_upto_region 12 with (fail)
    have HT2:Hid (clGo D (k + 1) (out ++ [(⟨U,calledT f.shape NI NO,k⟩:PMem)]) (v.meths.drop (k + 1))=T):=HST2;generalize calledT f.shape NI NO=CT at hty HT2;clear HST2
    go_wp2_with (first
     | (go_at_call 39;(with_reducible refine (cam.out _ H3.out.bel).mono ?_);rintro e w4 ⟨rfl,g4⟩;have H4:=Lib.hid (H3.out.belw g4).swapX;have ADD:=Lib.hid (md_addI w _ _ _ _ vn vw (out.map fun x:PMem => x.name) _ CN k w4 H4.out hP (by omega) hol2);rw [HU.out] at ADD;clear H3 H4 g4 a0 a3)
     | (go_at_call 42;(with_reducible refine ADD.out.mono ?_);rintro e w5 ⟨vn',vw',rfl,h5⟩;have H5:=Lib.hid (h5.belw ((Bel.refl w5).alloc (.cells #[.string (S U),.string (((⟨#[115,116,114,101,97,109,32]⟩:ByteArray) ++ S NI) ++ (⟨#[45,62]⟩:ByteArray) ++ ((⟨#[115,116,114,101,97,109,32]⟩:ByteArray) ++ S NO)),.int .i64 k] 80)));clear h5 ADD)
     | (at_builtin;refine wpList_append_lies _ rfl _ _ 45 rfl w.heap.size 80 i1 (.agg #[.string ByteArray.empty,.string ByteArray.empty,.int .i64 0]) 3 40 Tryz.underlying45 hi1 hy0 hy1 hy2 rfl (by decide) vo out.length _ rfl (H5.out.row 2 rfl) ⟨w5.heap.size,0,none⟩ 1 1 [.string (S U),.string (((⟨#[115,116,114,101,97,109,32]⟩:ByteArray) ++ S NI) ++ (⟨#[45,62]⟩:ByteArray) ++ ((⟨#[115,116,114,101,97,109,32]⟩:ByteArray) ++ S NO)),.int .i64 k] rfl rfl (one_new _ _ _) (by simp [Value.oneCell']) (by decide) (by unfold maxLen;omega) (by omega) H5.out.bel.size (w5.heap.size + 1) (by simp) ?_))
    intro g6 cap6 w6 hown hgrow hfr3 hlt2;rw [← hty.out] at hown;have H7:=H5.out.grow 2 rfl hgrow hown (fr_own hfr3 (by simp));have H8:=Lib.hid (H7.swapX.dropbox0);clear H5 H7 hown hgrow hfr3 hlt2
    go_wp2
    refine ⟨⟨k + 1,out ++ [⟨U,CT,k⟩],vn',vw',_,rfl,by omega,rfl,Lib.hid (by rw [← memR_add];exact H8.out),by simp;omega,HT2⟩,by simp [intOf];omega⟩
   by_cases h2:f.shape=2
   ·have hsh:=Lib.hid h2
    have e2:(f.shape == 2)=true:=ieq2 h2;have e3:(f.shape == 3)=false:=ine2 (by omega);have e4:(f.shape == 4)=false:=ine2 (by omega);clear h2 h3 h4;have hty:=Lib.hid (show S (calledT f.shape NI NO)=S NI ++ (⟨#[45,62]⟩:ByteArray) ++ ((⟨#[115,116,114,101,97,109,32]⟩:ByteArray) ++ S NO) from by rw [show f.shape=2 from hsh.out];unfold calledT streamW;simp only [← S_app];rfl)
    go_upto_region 12 with (fail)
    have HT2:Hid (clGo D (k + 1) (out ++ [(⟨U,calledT f.shape NI NO,k⟩:PMem)]) (v.meths.drop (k + 1))=T):=HST2;generalize calledT f.shape NI NO=CT at hty HT2;clear HST2
    go_wp2_with (first
     | (go_at_call 39;(with_reducible refine (cam.out _ H3.out.bel).mono ?_);rintro e w4 ⟨rfl,g4⟩;have H4:=Lib.hid (H3.out.belw g4).swapX;have ADD:=Lib.hid (md_addI w _ _ _ _ vn vw (out.map fun x:PMem => x.name) _ CN k w4 H4.out hP (by omega) hol2);rw [HU.out] at ADD;clear H3 H4 g4 a0 a3)
     | (go_at_call 42;(with_reducible refine ADD.out.mono ?_);rintro e w5 ⟨vn',vw',rfl,h5⟩;have H5:=Lib.hid (h5.belw ((Bel.refl w5).alloc (.cells #[.string (S U),.string (S NI ++ (⟨#[45,62]⟩:ByteArray) ++ ((⟨#[115,116,114,101,97,109,32]⟩:ByteArray) ++ S NO)),.int .i64 k] 80)));clear h5 ADD)
     | (at_builtin;refine wpList_append_lies _ rfl _ _ 45 rfl w.heap.size 80 i1 (.agg #[.string ByteArray.empty,.string ByteArray.empty,.int .i64 0]) 3 40 Tryz.underlying45 hi1 hy0 hy1 hy2 rfl (by decide) vo out.length _ rfl (H5.out.row 2 rfl) ⟨w5.heap.size,0,none⟩ 1 1 [.string (S U),.string (S NI ++ (⟨#[45,62]⟩:ByteArray) ++ ((⟨#[115,116,114,101,97,109,32]⟩:ByteArray) ++ S NO)),.int .i64 k] rfl rfl (one_new _ _ _) (by simp [Value.oneCell']) (by decide) (by unfold maxLen;omega) (by omega) H5.out.bel.size (w5.heap.size + 1) (by simp) ?_))
    intro g6 cap6 w6 hown hgrow hfr3 hlt2;rw [← hty.out] at hown;have H7:=H5.out.grow 2 rfl hgrow hown (fr_own hfr3 (by simp));have H8:=Lib.hid (H7.swapX.dropbox0);clear H5 H7 hown hgrow hfr3 hlt2
    go_wp2
    refine ⟨⟨k + 1,out ++ [⟨U,CT,k⟩],vn',vw',_,rfl,by omega,rfl,Lib.hid (by rw [← memR_add];exact H8.out),by simp;omega,HT2⟩,by simp [intOf];omega⟩
   have hs3:=Lib.hid h3;have hs4:=Lib.hid h4;have hs2:=Lib.hid h2;have e2:=ine2 h2;have e3:=ine2 h3;have e4:=ine2 h4;clear h2 h3 h4;have hty:=Lib.hid (show S (calledT f.shape NI NO)=S NI ++ (⟨#[45,62]⟩:ByteArray) ++ S NO from by unfold calledT;rw [if_neg (by have:=hs3.out;have:=hs4.out;omega),if_neg (by have:=hs2.out;have:=hs4.out;omega)];simp only [← S_app];rfl)
   go_upto_region 12 with (fail)
   have HT2:Hid (clGo D (k + 1) (out ++ [(⟨U,calledT f.shape NI NO,k⟩:PMem)]) (v.meths.drop (k + 1))=T):=HST2;generalize calledT f.shape NI NO=CT at hty HT2;clear HST2
   go_wp2_with (first
    | (go_at_call 39;(with_reducible refine (cam.out _ H3.out.bel).mono ?_);rintro e w4 ⟨rfl,g4⟩;have H4:=Lib.hid (H3.out.belw g4).swapX;have ADD:=Lib.hid (md_addI w _ _ _ _ vn vw (out.map fun x:PMem => x.name) _ CN k w4 H4.out hP (by omega) hol2);rw [HU.out] at ADD;clear H3 H4 g4 a0 a3)
    | (go_at_call 42;(with_reducible refine ADD.out.mono ?_);rintro e w5 ⟨vn',vw',rfl,h5⟩;have H5:=Lib.hid (h5.belw ((Bel.refl w5).alloc (.cells #[.string (S U),.string (S NI ++ (⟨#[45,62]⟩:ByteArray) ++ S NO),.int .i64 k] 80)));clear h5 ADD)
    | (at_builtin;refine wpList_append_lies _ rfl _ _ 45 rfl w.heap.size 80 i1 (.agg #[.string ByteArray.empty,.string ByteArray.empty,.int .i64 0]) 3 40 Tryz.underlying45 hi1 hy0 hy1 hy2 rfl (by decide) vo out.length _ rfl (H5.out.row 2 rfl) ⟨w5.heap.size,0,none⟩ 1 1 [.string (S U),.string (S NI ++ (⟨#[45,62]⟩:ByteArray) ++ S NO),.int .i64 k] rfl rfl (one_new _ _ _) (by simp [Value.oneCell']) (by decide) (by unfold maxLen;omega) (by omega) H5.out.bel.size (w5.heap.size + 1) (by simp) ?_))
   intro g6 cap6 w6 hown hgrow hfr3 hlt2;rw [← hty.out] at hown;have H7:=H5.out.grow 2 rfl hgrow hown (fr_own hfr3 (by simp));have H8:=Lib.hid (H7.swapX.dropbox0);clear H5 H7 hown hgrow hfr3 hlt2
   go_wp2
   refine ⟨⟨k + 1,out ++ [⟨U,CT,k⟩],vn',vw',_,rfl,by omega,rfl,Lib.hid (by rw [← memR_add];exact H8.out),by simp;omega,HT2⟩,by simp [intOf];omega⟩
  ·have hkl:k=v.meths.length:=by omega
   have hxe:out=T:=by have:=hx.out;rw [hkl,List.drop_length] at this;exact this
   subst hxe;subst hkl;clear hx V EL
   go_wp2
   go_ret
   exact ⟨_,rfl,hST.row 2 rfl,hST.bel⟩
end Go.Proofs.YtfoaaglbpmmhiaaGreatDoor
namespace Go.Proofs.YtfoaaglbpmmhiaaGreatDoor
open Go.RowKit Ck
theorem ck_Valid (sq1 sq2 sq3:Option Addr) (sm1 sm2 sm3 sc1 sc2 sc3:Nat) (s:PSchema) (w:World) (hs:VSchema w [.slice sq1 sm1 sc1,.slice sq2 sm2 sc2,.slice sq3 sm3 sc3] s) (hM:ML w) (hsh:Short s) :
  Calls Tryz.prog 35 #[.agg #[.slice sq1 sm1 sc1,.slice sq2 sm2 sc2,.slice sq3 sm3 sc3]] w fun e w' => e=.returned (.bool (valid s))/\Below w.heap.size w w':=by
 have CA:=Lib.hid (fun W (k:Bel w W) => ck_All sq1 sq2 sq3 sm1 sm2 sm3 sc1 sc2 sc3 s W (hs.stays_bel k) (hM.below k) hsh);have HV:=Lib.hid (show valid s=(all s).isEmpty from rfl);have hlen:(all s).length<=1000000000:=hsh.2.2.2.2;clear hs hM hsh;generalize all s=T at CA HV hlen
 go_enter Tryz.func35,Tryz.ntmps35
 go_wp2_with (go_at_call 58;(with_reducible refine (CA.out _ (by (repeat (first | (with_reducible assumption) | (with_reducible exact Bel.refl _) | (with_reducible refine Bel.drew ?_) | (with_reducible refine Bel.drewN ?_ _) | (with_reducible refine Bel.alloc ?_ _) | ((with_reducible refine bel_set ?_ ?hge);(case hge => (first | omega | (simp;omega)))))))).mono ?_);rintro e w1 ⟨v,rfl,hown,g1⟩;obtain ⟨q,c,rfl⟩:=own_form hown;have k1:Bel w w1:=Bel.of (by (repeat (first | (with_reducible assumption) | (with_reducible exact Bel.refl _) | (with_reducible refine Bel.drew ?_) | (with_reducible refine Bel.drewN ?_ _) | (with_reducible refine Bel.alloc ?_ _) | ((with_reducible refine bel_set ?_ ?hge);(case hge => (first | omega | (simp;omega))))))) g1;clear g1 hown)
 go_ret
 refine ⟨ret_bool ?_,k1.out⟩;rw [HV.out,Bool.eq_iff_iff];cases T <;> simp <;> omega
theorem own_cells {w:World} {B:Nat} {e:TypeId} {z:Nat} {v:Value} {n:Nat} {xs:List Value} (h:w.ownsRow B e z v n xs) (hn:n ≠ 0) : ∃ g c,v=.slice (some ⟨g,0,none⟩) n c/\∀ j u,xs[j]? = some u->w.cell? ⟨g,j,none⟩=some u:=by
 have h0:=h;rcases h.2 with ⟨_,h2⟩ | ⟨g,cap,cur,rfl,_⟩
 ·exact absurd h2 hn
 ·refine ⟨g,cap,rfl,fun j u hu => ?_⟩
  have:=h0.cells (g:=g) rfl j u hu;rw [Addr.add_lit,Nat.zero_add] at this;exact this
end Go.Proofs.YtfoaaglbpmmhiaaGreatDoor
namespace Go.Proofs.YtfoaaglbpmmhiaaGreatDoor
open Go.RowKit Ck
end Go.Proofs.YtfoaaglbpmmhiaaGreatDoor
namespace Go.Proofs.YtfoaaglbpmmhiaaGreatDoor
open Go.RowKit Ck
end Go.Proofs.YtfoaaglbpmmhiaaGreatDoor
