import Derived.Test.YtfoaaglbpmmhiaaGreatDoorMdRecord
import Derived.Test.YtfoaaglbpmmhiaaGreatDoorCkAll
import Derived.Deep.DeepCutAuto
import Derived.Test.YtfoaaglbpmmhiaaGreatDoorKitS
set_option maxRecDepth 100000
set_option maxHeartbeats 4000000
set_option linter.unusedVariables false
set_option linter.unusedSimpArgs false
namespace Go.Proofs.YtfoaaglbpmmhiaaGreatDoor
section
open Go.RowKit Ck Md
theorem qlt (D:List PDecl) (i:Nat) (out:List PMem) (f:PMeth) (r:List PMeth):clGo D i out (f :: r)=clGo D (i+1) (addM out f.name (qbn f.shape (qcg D 1 f.inn) (qcg D 1 f.out)) i) r:=rfl
theorem qqe (g:Nat) (D:List PDecl) (sn:Str) (q1 q2:Option Addr) (n1 c1 n2 c2:Nat) (v:PSvc) (w:World) (h:NM w g D) (hv:VSvc w [.string (S sn),.slice q1 n1 c1,.slice q2 n2 c2] v) (hP:PT w) (hM:ML w) (hD : ∀d ∈ D,d.name.length<=100000000) (hfn:v.meths.length<=2000000) (hfl : ∀f ∈ v.meths,f.name.length<=100000000) :
  Calls Tryz.prog 43 #[.pointer (some ⟨g,0,none⟩),.agg #[.string (S sn),.slice q1 n1 c1,.slice q2 n2 c2]] w (qj1 w (qcy D v)):=by
 obtain⟨i1,hi1,hy0,hy1,hy2⟩:=info_parts qfe;obtain⟨_,_,hcm,hm1,_⟩:=hv;cases hcm;obtain⟨q,c,hq,hl,hcap,hel⟩:=hm1;cases hq;have V:=h_ (show clGo D 0 [] (v.meths.drop 0)=qcy D v from rfl);generalize qcy D v=T at V;have EL:=h_ hel;have HF:=h_ hfl;have HD0:=h_ hD;have HNM:=h_ (fun W (kk:Bel w W)=>h.bel kk);clear hel hfl h hD;have hS0:=h_ (((((ST.start w).addbox #[.string (S v.name),.slice q1 v.meths.length c1,.slice q2 n2 c2] 68).addbox #[.slice none 0 0,.slice none 0 0] 97).nilrow 80 3).nilrow 3 1 |>.nilrow 9 1)
 go_enter Tryz.func43,Tryz.ntmps43
 go_wp2
 go_loopw [6,14] (fun v6 i wr => ∃(k:Nat) (out:List PMem) (vn vw vo:Value),vo=v6/\k<=v.meths.length/\i=.int .i64 k/\Hid (ST w (memR vn vw vo out []) [⟨w.heap.size+1,#[vn,vw],97⟩,⟨w.heap.size,#[.string (S v.name),.slice q1 v.meths.length c1,.slice q2 n2 c2],68⟩] wr)/\out.length<=k/\Hid (clGo D k out (v.meths.drop k)=T)) (fun _ i _=>v.meths.length-(intOf i).toNat)
 case atStart=>exact⟨0,[],.slice none 0 0,.slice none 0 0,.slice none 0 0,rfl,by omega,rfl,h_ (by have:=hS0.out;simpa [memR,nmC]using this),by simp,V⟩
 case round=>
  clear hS0;obtain⟨k,out,vn,vw,vo,rfl,hk,rfl,hSH,hol,hx⟩:=hrel;have hST:=hSH.out;have hfr:=(hST.boxlt 0 rfl).2;by_cases hlt:k<v.meths.length
  ·have hg2:=List.getElem?_eq_getElem hlt
   obtain⟨b,off,rfl,hbs,vs,hce,hvs⟩:=EL.out k _ hg2;have hdr:v.meths.drop k=v.meths[k] :: v.meths.drop (k+1):=List.drop_eq_getElem_cons hlt;obtain⟨_,hvs1,hnt⟩:=hvs;obtain⟨r5,d5,hnv,hnl⟩:=qa5 hnt;subst hvs1 hnv;have hfb:=HF.out _ (List.getElem_mem hlt);generalize v.meths[k]=f at *;have hki:(k:Int)<(v.meths.length:Int):=by omega
   have hb0:=hST.bel;have y0:=hb0.some (hce 0 _ rfl);rw [Nat.add_zero]at y0;have y1:=hb0.some (hce 1 _ rfl);have y2:=hb0.some (hce 2 _ rfl);have y3:=hb0.some (hce 3 _ rfl);have y4:=hb0.some (hce 4 _ rfl);have hst:=hx.out;rw [hdr,qlt,qfy]at hst;clear hx hdr hce hg2 hnt hb0;have HA:=h_ (hST.addbox #[.string (S f.name),.string (S f.inn),.string (S f.out),.int .i64 f.shape,.slice r5 f.notes.length d5] 71);have hol2:(out.map (·.name)).length<=1000000000:=by rw [List.length_map];omega
   have cam:=h_ (fun W (kk:Bel w W)=>qdq (S f.name) f.name W (qah _) (by rw [qai];exact hfb) (hM.below kk.out));have hcl:=qc0 f.name;have CI:=h_ (fun W (kk:Bel w W)=>qkx g D 1 f.inn W (HNM.out W kk));have CO:=h_ (fun W (kk:Bel w W)=>qkx g D 1 f.out W (HNM.out W kk));have li:=qe3 D 1 f.inn _ HD0.out;have lo:=qe3 D 1 f.out _ HD0.out;generalize qcg D 1 f.inn=NI at CI hst li;generalize qcg D 1 f.out=NO at CO hst lo;generalize Id.camel f.name=CN at cam hcl hst;generalize hU:qbl (out.map (·.name)) CN=U at hst;have HU:=h_ hU;have HST2:=h_ hst;clear hU hst hST hSH
   go_upto_region 6 with(fail)
   clear y0 y1 y2 y3 y4;have zi:(S NI).size=NI.length:=qai _;have zo:(S NO).size=NO.length:=qai _;obtain⟨wd,hwd⟩ : ∃wd,wd=(wr.alloc (.cells #[.string (S f.name),.string (S f.inn),.string (S f.out),.int .i64 f.shape,.slice r5 f.notes.length d5] 71)).drew:=⟨_,rfl⟩;have HD:=h_ (show ST w _ _ wd by rw [hwd];exact HA.out.belw (Bel.refl _).drew);have HWD:=h_ hwd;clear hwd HA;have a1:wd.cell? ⟨wr.heap.size,1,none⟩=some (.string (S f.inn)):=by rw [HD.out.cell 0 rfl 1];rfl
   refine qae 6 (by kernel_rfl) (by kernel_rfl) HWD.out ?_
   (simp only [t_1,t_2,t_3,t_4]);(repeat (first|((with_reducible refine wpStill_step (fun K hK=>?_));go_simp;(with_reducible refine hK _ ?_);clear hK K)|((with_reducible refine qaa ?_ ?_);(with_unfolding_all rfl))));(with_reducible refine wpStill_nil ?_)
   go_upto_region 7 with(go_at_call 64;(with_reducible refine(CI.out _ HD.out.bel).mono ?_);rintro e w2 ⟨rfl,g2⟩)
   have H2:=h_ (HD.out.belw g2);clear HD a1 CI g2 HWD;obtain⟨we,hwe⟩ : ∃we,we=w2.drew:=⟨_,rfl⟩;have HE:=h_ (show ST w _ _ we by rw [hwe];exact H2.out.belw (Bel.refl _).drew);have HWE:=h_ hwe;clear hwe H2;have a2:we.cell? ⟨wr.heap.size,2,none⟩=some (.string (S f.out)):=by rw [HE.out.cell 0 rfl 2];rfl
   refine qae 6 (by kernel_rfl) (by kernel_rfl) HWE.out ?_
   (simp only [t_1,t_2,t_3,t_4]);(repeat (first|((with_reducible refine wpStill_step (fun K hK=>?_));go_simp;(with_reducible refine hK _ ?_);clear hK K)|((with_reducible refine qaa ?_ ?_);(with_unfolding_all rfl))));(with_reducible refine wpStill_nil ?_)
   go_upto_region 8 with(go_at_call 64;(with_reducible refine(CO.out _ HE.out.bel).mono ?_);rintro e w3 ⟨rfl,g3⟩)
   have H3:=h_ (HE.out.belw g3);clear HE a2 CO g3 HWE;have a3:w3.cell? ⟨wr.heap.size,3,none⟩=some (.int .i64 f.shape):=by rw [H3.out.cell 0 rfl 3];rfl
   have a0:w3.cell? ⟨wr.heap.size,0,none⟩=some (.string (S f.name)):=by rw [H3.out.cell 0 rfl 0];rfl
   have hol3:out.length<=2000000:=by omega
   by_cases h3:f.shape=3
   ·have hsh:=h_ h3
    have e2:(f.shape == 2)=false:=ine2 (by omega);have e3:(f.shape == 3)=true:=ieq2 h3;have e4:(f.shape == 4)=false:=ine2 (by omega);clear h3;have hty:=h_ (show S (qbn f.shape NI NO)=((⟨#[115,116,114,101,97,109,32]⟩:ByteArray) ++ S NI) ++ (⟨#[45,62]⟩:ByteArray) ++ S NO from by rw [show f.shape=3 from hsh.out];unfold qbn qcf;simp only [←S_app];rfl)
    go_upto_region 12 with(fail)
    have HT2:Hid (clGo D (k+1) (out ++ [(⟨U,qbn f.shape NI NO,k⟩:PMem)]) (v.meths.drop (k+1))=T):=HST2;generalize qbn f.shape NI NO=CT at hty HT2;clear HST2
    go_wp2_with (first
     | (go_at_call 39;(with_reducible refine(cam.out _ H3.out.bel).mono ?_);rintro e w4 ⟨rfl,g4⟩;have H4:=h_ (H3.out.belw g4).swapX;have ADD:=h_ (qeq w _ _ _ _ vn vw (out.map fun x:PMem=>x.name) _ CN k w4 H4.out hP (by omega) hol2);rw [HU.out]at ADD;clear H3 H4 g4 a0 a3)
     | (go_at_call 42;(with_reducible refine ADD.out.mono ?_);rintro e w5 ⟨vn',vw',rfl,h5⟩;have H5:=h_ (h5.belw ((Bel.refl w5).alloc (.cells #[.string (S U),.string (((⟨#[115,116,114,101,97,109,32]⟩:ByteArray) ++ S NI) ++ (⟨#[45,62]⟩:ByteArray) ++ S NO),.int .i64 k] 80)));clear h5 ADD)
     | (at_builtin;refine wpList_append_lies _ rfl _ _ 45 rfl w.heap.size 80 i1 (.agg #[.string ByteArray.empty,.string ByteArray.empty,.int .i64 0]) 3 40 Tryz.underlying45 hi1 hy0 hy1 hy2 rfl (by decide) vo out.length _ rfl (H5.out.row 2 rfl) ⟨w5.heap.size,0,none⟩ 1 1 [.string (S U),.string (((⟨#[115,116,114,101,97,109,32]⟩:ByteArray) ++ S NI) ++ (⟨#[45,62]⟩:ByteArray) ++ S NO),.int .i64 k] rfl rfl (qaz _ _ _) (by simp [Value.oneCell']) (by decide) (by unfold maxLen;omega) (by omega) H5.out.bel.size (w5.heap.size+1) (by simp) ?_))
    intro g6 cap6 w6 hown hgrow hfr3 hlt2;rw [←hty.out]at hown;have H7:=H5.out.grow 2 rfl hgrow hown (qby hfr3 (by simp));have H8:=h_ (H7.swapX.dropbox0);clear H5 H7 hown hgrow hfr3 hlt2;go_wp2;refine⟨⟨k+1,out ++ [⟨U,CT,k⟩],vn',vw',_,rfl,by omega,rfl,h_ (by rw [←qd6];exact H8.out),by simp;omega,HT2⟩,by simp [intOf];omega⟩
   by_cases h4:f.shape=4
   ·have hsh:=h_ h4
    have e2:(f.shape == 2)=false:=ine2 (by omega);have e3:(f.shape == 3)=false:=ine2 (by omega);have e4:(f.shape == 4)=true:=ieq2 h4;clear h4 h3;have hty:=h_ (show S (qbn f.shape NI NO)=((⟨#[115,116,114,101,97,109,32]⟩:ByteArray) ++ S NI) ++ (⟨#[45,62]⟩:ByteArray) ++ ((⟨#[115,116,114,101,97,109,32]⟩:ByteArray) ++ S NO)from by rw [show f.shape=4 from hsh.out];unfold qbn qcf;simp only [←S_app];rfl)
    go_upto_region 12 with(fail)
    have HT2:Hid (clGo D (k+1) (out ++ [(⟨U,qbn f.shape NI NO,k⟩:PMem)]) (v.meths.drop (k+1))=T):=HST2;generalize qbn f.shape NI NO=CT at hty HT2;clear HST2
    go_wp2_with (first
     | (go_at_call 39;(with_reducible refine(cam.out _ H3.out.bel).mono ?_);rintro e w4 ⟨rfl,g4⟩;have H4:=h_ (H3.out.belw g4).swapX;have ADD:=h_ (qeq w _ _ _ _ vn vw (out.map fun x:PMem=>x.name) _ CN k w4 H4.out hP (by omega) hol2);rw [HU.out]at ADD;clear H3 H4 g4 a0 a3)
     | (go_at_call 42;(with_reducible refine ADD.out.mono ?_);rintro e w5 ⟨vn',vw',rfl,h5⟩;have H5:=h_ (h5.belw ((Bel.refl w5).alloc (.cells #[.string (S U),.string (((⟨#[115,116,114,101,97,109,32]⟩:ByteArray) ++ S NI) ++ (⟨#[45,62]⟩:ByteArray) ++ ((⟨#[115,116,114,101,97,109,32]⟩:ByteArray) ++ S NO)),.int .i64 k] 80)));clear h5 ADD)
     | (at_builtin;refine wpList_append_lies _ rfl _ _ 45 rfl w.heap.size 80 i1 (.agg #[.string ByteArray.empty,.string ByteArray.empty,.int .i64 0]) 3 40 Tryz.underlying45 hi1 hy0 hy1 hy2 rfl (by decide) vo out.length _ rfl (H5.out.row 2 rfl) ⟨w5.heap.size,0,none⟩ 1 1 [.string (S U),.string (((⟨#[115,116,114,101,97,109,32]⟩:ByteArray) ++ S NI) ++ (⟨#[45,62]⟩:ByteArray) ++ ((⟨#[115,116,114,101,97,109,32]⟩:ByteArray) ++ S NO)),.int .i64 k] rfl rfl (qaz _ _ _) (by simp [Value.oneCell']) (by decide) (by unfold maxLen;omega) (by omega) H5.out.bel.size (w5.heap.size+1) (by simp) ?_))
    intro g6 cap6 w6 hown hgrow hfr3 hlt2;rw [←hty.out]at hown;have H7:=H5.out.grow 2 rfl hgrow hown (qby hfr3 (by simp));have H8:=h_ (H7.swapX.dropbox0);clear H5 H7 hown hgrow hfr3 hlt2;go_wp2;refine⟨⟨k+1,out ++ [⟨U,CT,k⟩],vn',vw',_,rfl,by omega,rfl,h_ (by rw [←qd6];exact H8.out),by simp;omega,HT2⟩,by simp [intOf];omega⟩
   by_cases h2:f.shape=2
   ·have hsh:=h_ h2
    have e2:(f.shape == 2)=true:=ieq2 h2;have e3:(f.shape == 3)=false:=ine2 (by omega);have e4:(f.shape == 4)=false:=ine2 (by omega);clear h2 h3 h4;have hty:=h_ (show S (qbn f.shape NI NO)=S NI ++ (⟨#[45,62]⟩:ByteArray) ++ ((⟨#[115,116,114,101,97,109,32]⟩:ByteArray) ++ S NO)from by rw [show f.shape=2 from hsh.out];unfold qbn qcf;simp only [←S_app];rfl)
    go_upto_region 12 with(fail)
    have HT2:Hid (clGo D (k+1) (out ++ [(⟨U,qbn f.shape NI NO,k⟩:PMem)]) (v.meths.drop (k+1))=T):=HST2;generalize qbn f.shape NI NO=CT at hty HT2;clear HST2
    go_wp2_with (first
     | (go_at_call 39;(with_reducible refine(cam.out _ H3.out.bel).mono ?_);rintro e w4 ⟨rfl,g4⟩;have H4:=h_ (H3.out.belw g4).swapX;have ADD:=h_ (qeq w _ _ _ _ vn vw (out.map fun x:PMem=>x.name) _ CN k w4 H4.out hP (by omega) hol2);rw [HU.out]at ADD;clear H3 H4 g4 a0 a3)
     | (go_at_call 42;(with_reducible refine ADD.out.mono ?_);rintro e w5 ⟨vn',vw',rfl,h5⟩;have H5:=h_ (h5.belw ((Bel.refl w5).alloc (.cells #[.string (S U),.string (S NI ++ (⟨#[45,62]⟩:ByteArray) ++ ((⟨#[115,116,114,101,97,109,32]⟩:ByteArray) ++ S NO)),.int .i64 k] 80)));clear h5 ADD)
     | (at_builtin;refine wpList_append_lies _ rfl _ _ 45 rfl w.heap.size 80 i1 (.agg #[.string ByteArray.empty,.string ByteArray.empty,.int .i64 0]) 3 40 Tryz.underlying45 hi1 hy0 hy1 hy2 rfl (by decide) vo out.length _ rfl (H5.out.row 2 rfl) ⟨w5.heap.size,0,none⟩ 1 1 [.string (S U),.string (S NI ++ (⟨#[45,62]⟩:ByteArray) ++ ((⟨#[115,116,114,101,97,109,32]⟩:ByteArray) ++ S NO)),.int .i64 k] rfl rfl (qaz _ _ _) (by simp [Value.oneCell']) (by decide) (by unfold maxLen;omega) (by omega) H5.out.bel.size (w5.heap.size+1) (by simp) ?_))
    intro g6 cap6 w6 hown hgrow hfr3 hlt2;rw [←hty.out]at hown;have H7:=H5.out.grow 2 rfl hgrow hown (qby hfr3 (by simp));have H8:=h_ (H7.swapX.dropbox0);clear H5 H7 hown hgrow hfr3 hlt2;go_wp2;refine⟨⟨k+1,out ++ [⟨U,CT,k⟩],vn',vw',_,rfl,by omega,rfl,h_ (by rw [←qd6];exact H8.out),by simp;omega,HT2⟩,by simp [intOf];omega⟩
   have hs3:=h_ h3;have hs4:=h_ h4;have hs2:=h_ h2;have e2:=ine2 h2;have e3:=ine2 h3;have e4:=ine2 h4;clear h2 h3 h4;have hty:=h_ (show S (qbn f.shape NI NO)=S NI ++ (⟨#[45,62]⟩:ByteArray) ++ S NO from by unfold qbn;rw [if_neg (by have:=hs3.out;have:=hs4.out;omega),if_neg (by have:=hs2.out;have:=hs4.out;omega)];simp only [←S_app];rfl)
   go_upto_region 12 with(fail)
   have HT2:Hid (clGo D (k+1) (out ++ [(⟨U,qbn f.shape NI NO,k⟩:PMem)]) (v.meths.drop (k+1))=T):=HST2;generalize qbn f.shape NI NO=CT at hty HT2;clear HST2
   go_wp2_with (first
    | (go_at_call 39;(with_reducible refine(cam.out _ H3.out.bel).mono ?_);rintro e w4 ⟨rfl,g4⟩;have H4:=h_ (H3.out.belw g4).swapX;have ADD:=h_ (qeq w _ _ _ _ vn vw (out.map fun x:PMem=>x.name) _ CN k w4 H4.out hP (by omega) hol2);rw [HU.out]at ADD;clear H3 H4 g4 a0 a3)
    | (go_at_call 42;(with_reducible refine ADD.out.mono ?_);rintro e w5 ⟨vn',vw',rfl,h5⟩;have H5:=h_ (h5.belw ((Bel.refl w5).alloc (.cells #[.string (S U),.string (S NI ++ (⟨#[45,62]⟩:ByteArray) ++ S NO),.int .i64 k] 80)));clear h5 ADD)
    | (at_builtin;refine wpList_append_lies _ rfl _ _ 45 rfl w.heap.size 80 i1 (.agg #[.string ByteArray.empty,.string ByteArray.empty,.int .i64 0]) 3 40 Tryz.underlying45 hi1 hy0 hy1 hy2 rfl (by decide) vo out.length _ rfl (H5.out.row 2 rfl) ⟨w5.heap.size,0,none⟩ 1 1 [.string (S U),.string (S NI ++ (⟨#[45,62]⟩:ByteArray) ++ S NO),.int .i64 k] rfl rfl (qaz _ _ _) (by simp [Value.oneCell']) (by decide) (by unfold maxLen;omega) (by omega) H5.out.bel.size (w5.heap.size+1) (by simp) ?_))
   intro g6 cap6 w6 hown hgrow hfr3 hlt2;rw [←hty.out]at hown;have H7:=H5.out.grow 2 rfl hgrow hown (qby hfr3 (by simp));have H8:=h_ (H7.swapX.dropbox0);clear H5 H7 hown hgrow hfr3 hlt2;go_wp2;refine⟨⟨k+1,out ++ [⟨U,CT,k⟩],vn',vw',_,rfl,by omega,rfl,h_ (by rw [←qd6];exact H8.out),by simp;omega,HT2⟩,by simp [intOf];omega⟩
  ·have hkl:k=v.meths.length:=by omega
   have hxe:out=T:=by have:=hx.out;rw [hkl,List.drop_length]at this;exact this
   subst hxe;subst hkl;clear hx V EL;go_wp2;go_ret;exact⟨_,rfl,hST.row 2 rfl,hST.bel⟩
end
section
open Go.RowKit Ck
theorem qot (sq1 sq2 sq3:Option Addr) (sm1 sm2 sm3 sc1 sc2 sc3:Nat) (s:PSchema) (w:World) (hs:VSchema w [.slice sq1 sm1 sc1,.slice sq2 sm2 sc2,.slice sq3 sm3 sc3] s) (hM:ML w) (hsh:Short s) :
  Calls Tryz.prog 35 #[.agg #[.slice sq1 sm1 sc1,.slice sq2 sm2 sc2,.slice sq3 sm3 sc3]] w fun e w'=>e=.returned (.bool (valid s))/\Below w.heap.size w w':=by
 have CA:=h_ (fun W (k:Bel w W)=>ck_All sq1 sq2 sq3 sm1 sm2 sm3 sc1 sc2 sc3 s W (hs.stays_bel k) (hM.below k) hsh);have HV:=h_ (show valid s=(all s).isEmpty from rfl);have hlen:(all s).length<=1000000000:=hsh.2.2.2.2;clear hs hM hsh;generalize all s=T at CA HV hlen
 go_enter Tryz.func35,Tryz.ntmps35
 go_wp2_with (go_at_call 58;(with_reducible refine(CA.out _ (by(repeat (first|(with_reducible assumption)|(with_reducible exact Bel.refl _)|(with_reducible refine Bel.drew ?_)|(with_reducible refine Bel.drewN ?_ _)|(with_reducible refine Bel.alloc ?_ _)|((with_reducible refine qa8 ?_ ?hge);(case hge=>(first|omega|(simp;omega)))))))).mono ?_);rintro e w1 ⟨v,rfl,hown,g1⟩;obtain⟨q,c,rfl⟩:=qa9 hown;have k1:Bel w w1:=Bel.of (by(repeat (first|(with_reducible assumption)|(with_reducible exact Bel.refl _)|(with_reducible refine Bel.drew ?_)|(with_reducible refine Bel.drewN ?_ _)|(with_reducible refine Bel.alloc ?_ _)|((with_reducible refine qa8 ?_ ?hge);(case hge=>(first|omega|(simp;omega))))))) g1;clear g1 hown)
 go_ret;refine⟨qa3 ?_,k1.out⟩
 rw [HV.out,Bool.eq_iff_iff];cases T <;> simp <;> omega
theorem qew {w:World} {B:Nat} {e:TypeId} {z:Nat} {v:Value} {n:Nat} {xs:List Value} (h:w.ownsRow B e z v n xs) (hn:n ≠ 0) : ∃g c,v=.slice (some ⟨g,0,none⟩) n c/\∀j u,xs[j]? = some u->w.cell? ⟨g,j,none⟩=some u:=by
 have h0:=h;rcases h.2 with⟨_,h2⟩|⟨g,cap,cur,rfl,_⟩
 ·exact absurd h2 hn
 ·refine⟨g,cap,rfl,fun j u hu=>?_⟩
  have:=h0.cells (g:=g) rfl j u hu;rw [Addr.add_lit,Nat.zero_add]at this;exact this
end
section
open Go.RowKit Ck
end
section
open Go.RowKit Ck
end
section
open Go.RowKit Ck Md
theorem qjc : ∀(D:List PDecl) (M:List Value) (v v':Value),M.length<D.length->(outC D (M ++ [v'])).set (M.length*4+3) v=outC D (M ++ [v])
 | [],M,v,v',h=>by simp at h
 | d :: D,[],v,v',h=>by simp [outC]
 | d :: D,x :: M,v,v',h=>by
  have ih:=qjc D M v v' (by simpa using h);simp only [List.cons_append,outC,List.length_cons];rw [show(M.length+1)*4+3=(M.length*4+3)+1+1+1+1 by omega];simp only [List.nil_append,List.set_cons_succ];rw [ih]
theorem qex : ∀(D:List PDecl) (M:List Value),outC D (M ++ [.slice none 0 0])=outC D M
 | [],M=>by simp [outC]
 | d :: D,[]=>by simp [outC]
 | d :: D,x :: M=>by simp [outC,qex D M]
theorem outC_put (D:List PDecl) (M:List Value) (v:Value) (h:M.length<D.length):(outC D M).set (M.length*4+3) v=outC D (M ++ [v]):=by
 rw [←qex D M,qjc D M v _ h]
theorem qnq : ∀(D:List PDecl) (M:List Value) (v:Value),M.length<D.length->(outC D (M ++ [v]))[M.length*4+3]? = some v
 | [],M,v,h=>by simp at h
 | d :: D,[],v,h=>by simp [outC]
 | d :: D,x :: M,v,h=>by
  have ih:=qnq D M v (by simpa using h);simp only [List.cons_append,outC,List.length_cons];rw [show(M.length+1)*4+3=(M.length*4+3)+1+1+1+1 by omega]
  simpa using ih
theorem qc6 (D:List PDecl) (k:Int) (n f:Str):(addD D k n f).length=D.length+1:=by unfold addD;simp
theorem qes (nm m:Str) : ∀(l:List Str) (D:List PDecl),(qau nm m D l).length=D.length+l.length
 | [],D=>by simp [qau]
 | u :: r,D=>by
  unfold qau;rw [qes nm m r,qc6,List.length_cons];omega
theorem qce (m:PMsg):(qbt m).length<=m.fields.length:=by have:=qf5 m.fields [];rw [List.length_nil,Nat.zero_add]at this;exact this
theorem qjf (D:List PDecl) (m:PMsg):(msgD D m).length=D.length+1+(qbt m).length:=by unfold msgD;rw [qes,qc6]
theorem cand_len (n:Str) (k:Nat) (h:k<=1000000000):(cand n k).length<=n.length+21:=by
 unfold cand
 split
 ·omega
 ·rename_i h0
  have:=qfi (k+1) (by omega);rw [List.length_append];omega
theorem qdu (ks:List Str) (n:Str) (h:ks.length<=1000000000):(qbl ks n).length<=n.length+21:=by
 obtain⟨i,hi,e⟩:=qlz ks n;rw [e];exact cand_len n i (by omega)
structure MB (s:PSchema):Prop where
 m : ∀m ∈ s.msgs,m.name.length<=120/\m.fields.length<=64/\∀f ∈ m.fields,f.name.length<=40/\f.un.length<=40
 e : ∀e ∈ s.enums,e.name.length<=120/\e.items.length<=64/\∀f ∈ e.items,f.name.length<=40
 v : ∀v ∈ s.svcs,v.name.length<=120/\v.meths.length<=64/\∀f ∈ v.meths,f.name.length<=40
 lm:s.msgs.length<=64
 le:s.enums.length<=64
 lv:s.svcs.length<=64
theorem mb_of {s:PSchema} (h:valid s=true):MB s:=by
 have hh:=(qo6 (all_nil.1 (valid_iff.1 h)).1).2.1;refine⟨fun m hm=>?_,fun e he=>?_,fun v hv=>?_,hh.1,hh.2.1,hh.2.2⟩
 ·have h1:=qqa h hm
  refine⟨h1.len,h1.few,fun f hf=>?_⟩;obtain⟨i,hi⟩:=List.mem_iff_getElem?.1 hf;have h2:=h1.fld i f hi;refine⟨(qid h2.part).2.2,?_⟩;have h3:=h2.un;unfold qdt at h3;by_cases hu:f.un=[]
  ·rw [hu];simp
  ·rw [if_neg hu]at h3
   by_cases hc:f.card ≠ 2 ∨ qa7 f.un=false ∨ (m.fields.any fun x=>decide (x.name=f.un))=true
   ·rw [if_pos hc]at h3
    cases h3
   ·have:qa7 f.un=true:=by
     cases e:qa7 f.un with
     | true=>rfl
     | false=>exact absurd (Or.inr (Or.inl e)) hc
    exact(qid (qdb this)).2.2
 ·have h1:=enum_ok h he
  refine⟨h1.len,h1.few,fun f hf=>?_⟩;obtain⟨i,hi⟩:=List.mem_iff_getElem?.1 hf;exact(qid (h1.it i f hi).part).2.2
 ·have h1:=qpk h hv
  exact⟨h1.len,h1.few,fun f hf=>(qid (h1.me f hf).1).2.2⟩
def nmB (B:Nat) (D:List PDecl):Prop := ∀d ∈ D,d.name.length<=B
theorem qp2 {B:Nat} {D:List PDecl} {k:Int} {n f:Str} (h:nmB B D) (hl:D.length<=1000000000) (hn:n.length+21<=B):nmB B (addD D k n f):=fun d hd=>by
 unfold addD at hd;rcases List.mem_append.1 hd with hd|hd
 ·exact h d hd
 ·have:d=⟨k,qbl (D.map (·.name)) n,f,[]⟩:=by simpa using hd
  rw [this];exact Nat.le_trans (qdu _ n (by rw [List.length_map];exact hl)) hn
theorem qfu {B:Nat} (nm m:Str) (hnm:nm.length+61<=B) : ∀(l:List Str) (D:List PDecl),nmB B D->D.length+l.length<=1000000000->(∀u ∈ l,u.length<=40)->nmB B (qau nm m D l)
 | [],D,h,_,_=>h
 | u :: r,D,h,hl,hu=>by
  rw [List.length_cons]at hl;unfold qau;refine qfu nm m hnm r _ (qp2 h (by omega) ?_) (by rw [qc6];omega) (fun x hx=>hu x (List.mem_cons_of_mem _ hx));have h1:=hu u (List.mem_cons_self ..);have h2:=qc0 u;rw [List.length_append];omega
theorem qcd {s:PSchema} (h:MB s) {m:PMsg} (hm:m ∈ s.msgs) : ∀u ∈ qbt m,u.length<=40:=fun u hu=>by
 obtain⟨_,f,hf,rfl⟩:=unions_mem.1 hu;exact((h.m m hm).2.2 f hf).2
theorem qo9 {s:PSchema} (h:MB s) : ∀(l:List PMsg) (D:List PDecl),(∀m ∈ l,m ∈ s.msgs)->nmB 400 D->D.length+65*l.length<=100000->nmB 400 (l.foldl msgD D)/\(l.foldl msgD D).length<=D.length+65*l.length
 | [],D,_,hD,hl=>⟨hD,by simp⟩
 | m :: l,D,hm,hD,hl=>by
  rw [List.length_cons]at hl;have hmm:=hm m (List.mem_cons_self ..);have h1:=h.m m hmm;have hu:=qce m;have h2:=qjf D m;have hc:=qbp m.name;have hn:=qdu (D.map (·.name)) (camel m.name) (by rw [List.length_map];omega)
  have h3:nmB 400 (msgD D m):=by
   unfold msgD;refine qfu _ _ (by omega) _ _ (qp2 hD (by omega) (by omega)) (by rw [qc6];omega) (qcd h hmm)
  have h4:=qo9 h l (msgD D m) (fun x hx=>hm x (List.mem_cons_of_mem _ hx)) h3 (by omega);rw [List.foldl_cons,List.length_cons];exact⟨h4.1,by omega⟩
theorem qjm {α:Type} (F:List PDecl->α->List PDecl) (k:Int) (N:α->Str) (hF : ∀D a,F D a=addD D k (camel (N a)) (N a)) : ∀(l:List α) (D:List PDecl),(∀a ∈ l,(N a).length<=120)->nmB 400 D->D.length+l.length<=100000->nmB 400 (l.foldl F D)/\(l.foldl F D).length=D.length+l.length
 | [],D,_,hD,_=>⟨hD,by simp⟩
 | a :: l,D,ha,hD,hl=>by
  rw [List.length_cons]at hl;have h1:=ha a (List.mem_cons_self ..);have hc:=qbp (N a)
  have h3:nmB 400 (F D a):=by
   rw [hF];exact qp2 hD (by omega) (by omega)
  have hl2:(F D a).length=D.length+1:=by rw [hF,qc6]
  have h4:=qjm F k N hF l (F D a) (fun x hx=>ha x (List.mem_cons_of_mem _ hx)) h3 (by omega);rw [List.foldl_cons,List.length_cons];exact⟨h4.1,by omega⟩
theorem qeh {s:PSchema} (h:MB s):nmB 400 (qa6 s)/\(qa6 s).length<=10000:=by
 have h1:=qo9 h s.msgs [] (fun _ hm=>hm) (fun d hd=>by cases hd) (by have:=h.lm;simp;omega);have hb1:=h1.2;have:=h.lm;have:=h.le;have:=h.lv;rw [List.length_nil]at hb1;have h2:=qjm enumD 3 (fun e:PEnum=>e.name) (fun _ _=>rfl) s.enums (s.msgs.foldl msgD []) (fun e he=>(h.e e he).1) h1.1 (by omega);have h3:=qjm svcD 4 (fun e:PSvc=>e.name) (fun _ _=>rfl) s.svcs (s.enums.foldl enumD (s.msgs.foldl msgD [])) (fun e he=>(h.v e he).1) h2.1 (by omega);refine⟨h3.1,?_⟩;have hb2:=h2.2;have hb3:=h3.2;unfold qa6;omega
theorem qdh {α β:Type} (F:β->α->β) (l:List α) (k:Nat) (h:k<l.length) (D:β):(l.drop k).foldl F D=(l.drop (k+1)).foldl F (F D l[k]):=by
 rw [List.drop_eq_getElem_cons h,List.foldl_cons]
theorem qdw (D:List PDecl) (m:Str) : ∀(r:List PField) (out:List PMem) (had:List Str),(recGo D m out had r).length<=out.length+r.length
 | [],out,had=>by simp [recGo]
 | f :: r,out,had=>by
  unfold recGo;have h1:=qdw D m r (addM out f.name (qit D f) f.num) had;have h2:=qdw D m r out had;have h3:=qdw D m r (addM out f.un (qcg D 2 (m ++ 58 :: f.un)) (-1)) (had ++ [f.un]);have ha : ∀n t k,(addM out n t k).length=out.length+1:=fun n t k=>by unfold addM;simp
  rw [ha]at h1 h3;rw [List.length_cons]
  (repeat' split) <;> omega
theorem qhu (D:List PDecl) (u:Str) : ∀(r:List PField) (out:List PMem),(chGo D u out r).length<=out.length+r.length
 | [],out=>by simp [chGo]
 | f :: r,out=>by
  unfold chGo;have h1:=qhu D u r (addM out f.name (element D f.tk f.tn) f.num);have h2:=qhu D u r out;have ha : ∀n t k,(addM out n t k).length=out.length+1:=fun n t k=>by unfold addM;simp
  rw [ha]at h1;rw [List.length_cons]
  split <;> omega
theorem qoq (D:List PDecl) : ∀(r:List PMeth) (i:Nat) (out:List PMem),(clGo D i out r).length=out.length+r.length
 | [],i,out=>by simp [clGo]
 | f :: r,i,out=>by
  rw [qlt,qoq D r,List.length_cons];unfold addM;simp;omega
theorem qo5 : ∀(r:List PItem) (out:List PMem),(itGo out r).length=out.length+r.length
 | [],out=>by simp [itGo]
 | f :: r,out=>by
  unfold itGo;rw [qo5 r,List.length_cons];unfold addM;simp;omega
def mrow (v:Value) (l:List PMem):Row:=⟨80,3,v,l.length,l.flatMap memC⟩
def mrows (M:List Value) (L:List (List PMem)):List Row:=List.zipWith mrow M L
theorem qkv (M:List Value) (L:List (List PMem)) (v:Value) (l:List PMem) (h:M.length=L.length):mrows (M ++ [v]) (L ++ [l])=mrows M L ++ [mrow v l]:=by
 unfold mrows;rw [List.zipWith_append h];rfl
theorem qno {α:Type} (a:α) (l:List α):(a :: l).Perm (l ++ [a]):=(List.perm_append_singleton a l).symm
theorem perm_3 {α:Type} (x a b c:α) (l:List α):(x :: a :: b :: c :: l).Perm (a :: b :: c :: x :: l):=(List.perm_middle (l₁:=[a,b,c]) (a:=x) (l₂:=l)).symm
theorem qje {w0:World} {g:Nat} {a b c:Value} {D:List PDecl} {M:List Value} {R:List Row} {X:List Box} {w:World} (h:MK w0 g a b c D M R X w) (hl:D.length<=1000000000):NM w g D:=by
 obtain⟨vn,vw,vo,h⟩:=h;refine⟨vn,vw,h.cell 0 rfl 3,h.cell 0 rfl 4,qd5 (B:=w0.heap.size) ?_ (by rw [List.length_map];omega),qde (V:=VWh) whC (fun _=>rfl) (h.row 1 rfl) (by omega) (fun _ _=>rfl)⟩;have:=h.row 0 rfl;rw [List.length_map];exact this
structure Tr where
 d:PDecl
 v:Value
 l:List PMem
def trC (t:Tr):List Value:=[.int .i64 t.d.kind,.string (S t.d.name),.string (S t.d.frm),t.v]
theorem sv_map {α β:Type} {C:Nat} {V:World->List Value->α->Prop} {V':World->List Value->β->Prop} {w:World} {v:Value} {xs:List α} (F:α->β) (h : ∀vs x,V w vs x->V' w vs (F x)) (hs:Sv C V w v xs):Sv C V' w v (xs.map F):=by
 obtain⟨q,c,rfl,hl,hc,hel⟩:=hs;refine⟨q,c,by rw [List.length_map],by rw [List.length_map];exact hl,by rw [List.length_map];exact hc,fun i x hx=>?_⟩;rw [List.getElem?_map]at hx;cases e:xs[i]? with
 | none=>rw [e]at hx;cases hx
 | some y=>
  rw [e]at hx;have hxe:F y=x:=by simpa using hx
  subst hxe;obtain⟨b,off,h1,h2,vs,h3,h4⟩:=hel i y e;exact⟨b,off,h1,h2,vs,h3,h _ _ h4⟩
def trs:List PDecl->List Value->List (List PMem)->List Tr
 | d :: D,v :: M,l :: L=>⟨d,v,l⟩ :: trs D M L
 | _,_,_ => []
theorem qkb : ∀(D:List PDecl) (M:List Value) (L:List (List PMem)),M.length=D.length->L.length=D.length->outC D M=(trs D M L).flatMap trC/\(trs D M L).length=D.length/\(trs D M L).map (fun t=>withM t.d t.l)=List.zipWith withM D L/\∀t ∈ trs D M L,mrow t.v t.l ∈ mrows M L/\t.l ∈ L
 | [],[],[],_,_=>⟨rfl,rfl,rfl,fun t h=>by cases h⟩
 | [],v :: M,_,h,_=>by simp at h
 | [],[],l :: L,_,h=>by simp at h
 | d :: D,[],_,h,_=>by simp at h
 | d :: D,v :: M,[],_,h=>by simp at h
 | d :: D,v :: M,l :: L,h1,h2=>by
  obtain⟨i1,i2,i3,i4⟩:=qkb D M L (by simpa using h1) (by simpa using h2);refine⟨?_,by simp [trs,i2],by simp [trs,i3],fun t ht=>?_⟩
  ·simp only [trs,outC,List.flatMap_cons,i1]
   rfl
  ·rcases List.mem_cons.1 ht with rfl|ht
   ·exact⟨List.mem_cons_self ..,List.mem_cons_self ..⟩
   ·exact⟨List.mem_cons_of_mem _ (i4 t ht).1,List.mem_cons_of_mem _ (i4 t ht).2⟩
theorem decls_of {w0:World} {r1 r2:Row} {vo:Value} {D:List PDecl} {M:List Value} {L:List (List PMem)} {X:List Box} {w:World} (h:ST w0 (r1 :: r2 :: ⟨47,4,vo,D.length,outC D M⟩ :: mrows M L) X w) (h1:M.length=D.length) (h2:L.length=D.length) (hD:D.length<=1000000000) (hL : ∀l ∈ L,l.length<=1000000000):Decls w vo (List.zipWith withM D L):=by
 obtain⟨e1,e2,e3,e4⟩:=qkb D M L h1 h2;have hr:=h.row 2 rfl
 have hr2:w.ownsRow w0.heap.size 47 4 vo (trs D M L).length ((trs D M L).flatMap trC):=by
  rw [e2, ←e1];exact hr
 rw [←e3];refine sv_map (V:=fun w vs (t:Tr)=>vs=trC t/\Mems w t.v t.l) (fun t=>withM t.d t.l) (fun vs t ht=>⟨t.v,ht.1,ht.2⟩) ?_;refine qde trC (fun _=>rfl) hr2 (by omega) (fun t ht=>⟨rfl,?_⟩);obtain⟨h3,h4⟩:=e4 t ht;have hm:=h.rows (mrow t.v t.l) (List.mem_cons_of_mem _ (List.mem_cons_of_mem _ (List.mem_cons_of_mem _ h3)));exact qde memC (fun _=>rfl) hm (by have:=hL _ h4;omega) (fun _ _=>rfl)
section
variable {w0 w w' : World} {g : Nat} {a b c : Value} {D : List PDecl} {M : List Value} {R : List Row} {X : List Box} {bx : Box} {r : Row}
theorem MK.bel (h:MK w0 g a b c D M R X w):Bel w0 w:=by obtain⟨_,_,_,h⟩:=h;exact h.bel
theorem MK.belw (h:MK w0 g a b c D M R X w) (k:Bel w w'):MK w0 g a b c D M R X w':=by obtain⟨x,y,z,h⟩:=h;exact⟨x,y,z,h.belw k⟩
theorem MK.addbox (h:MK w0 g a b c D M R X w) (cs:Array Value) (T:TypeId):MK w0 g a b c D M R (⟨w.heap.size,cs,T⟩ :: X) (w.alloc (.cells cs T)):=by obtain⟨x,y,z,h⟩:=h;exact⟨x,y,z,(h.addbox cs T).swapX⟩
theorem MK.dropbox (h:MK w0 g a b c D M R (bx :: X) w):MK w0 g a b c D M R X w:=by obtain⟨x,y,z,h⟩:=h;exact⟨x,y,z,h.swapX.dropbox0⟩
theorem MK.addrow {e:TypeId} {z n:Nat} {v:Value} {xs:List Value} (h:MK w0 g a b c D M R X w) (k:Bel w w') (hown:w'.ownsRow w.heap.size e z v n xs):MK w0 g a b c D M (⟨e,z,v,n,xs⟩ :: R) X w':=by
 obtain⟨x,y,z,h⟩:=h;exact⟨x,y,z,(h.addrow k hown).perm (perm_3 _ _ _ _ _) (List.Perm.refl _)⟩
theorem MK.droprow (h:MK w0 g a b c D M (r :: R) X w):MK w0 g a b c D M R X w:=by obtain⟨x,y,z,h⟩:=h;exact⟨x,y,z,h.droprow 3⟩
theorem MK.cell (h:MK w0 g a b c D M R X w) (j:Nat) (hj:X[j]? = some bx) (o:Nat):w.cell? ⟨bx.g,o,none⟩=bx.cs[o]?:=by
 obtain⟨x,y,z,h⟩:=h;exact h.cell (j+1) (by simpa using hj) o
theorem MK.lt (h:MK w0 g a b c D M R X w) (j:Nat) (hj:X[j]? = some bx):bx.g<w.heap.size:=by
 obtain⟨x,y,z,h⟩:=h;exact(h.boxlt (j+1) (by simpa using hj)).2
theorem MK.endrow (h:MK w0 g a b c D M (r :: R) X w):MK w0 g a b c D M (R ++ [r]) X w:=by
 obtain⟨x,y,z,h⟩:=h;exact⟨x,y,z,h.perm ((((qno r R).cons _).cons _).cons _) (List.Perm.refl _)⟩
theorem MK.more {v:Value} {l:List PMem} {L:List (List PMem)} (h:MK w0 g a b c D (M ++ [v]) (mrows M L ++ [⟨80,3,v,l.length,l.flatMap memC⟩]) X w) (hML:M.length=L.length):MK w0 g a b c D (M ++ [v]) (mrows (M ++ [v]) (L ++ [l])) X w:=by
 rw [qkv _ _ _ _ hML];exact h
theorem MK.more1 {v:Value} {l:List PMem} {L:List (List PMem)} (h:MK w0 g a b c D (M ++ [v]) ((r :: mrows M L) ++ [⟨80,3,v,l.length,l.flatMap memC⟩]) X w) (hML:M.length=L.length):MK w0 g a b c D (M ++ [v]) (r :: mrows (M ++ [v]) (L ++ [l])) X w:=by
 rw [qkv _ _ _ _ hML];exact h
theorem MK.out (h:MK w0 g a b c D M R X w) (hD:D.length ≠ 0) : ∃go cap,w.cell? ⟨g,5,none⟩=some (.slice (some ⟨go,0,none⟩) D.length cap)/\∀v,M.length<D.length->w.frozen? ⟨go,M.length*4+3,none⟩=false/\(∃u,w.cell? ⟨go,M.length*4+3,none⟩=some u)/\MK w0 g a b c D (M ++ [v]) R X (w.setCell ⟨go,M.length*4+3,none⟩ v):=by
 obtain⟨vn,vw,vo,h⟩:=h;have h0:=h.row 2 rfl;obtain⟨go,cap,hv,hc⟩:=qew h0 hD;have hv':vo=.slice (some ⟨go,0,none⟩) D.length cap:=hv;subst hv';refine⟨go,cap,h.cell 0 rfl 5,fun v hM=>⟨h.rowfrz 2 rfl rfl _,⟨.slice none 0 0,h.rowcell 2 rfl rfl _ _ ?_⟩,vn,vw,.slice (some ⟨go,0,none⟩) D.length cap,?_⟩⟩
 ·show(outC D M)[M.length*4+3]? = some (.slice none 0 0)
  rw [←qex];exact qnq D M _ hM
 ·have:=h.setrow 2 rfl rfl (M.length*4+3) v
  have e:(outC D M).set (M.length*4+3) v=outC D (M ++ [v]):=outC_put D M v hM;rw [←e];exact this
end
def rowsB (vn vw:Value) (go cap:Nat) (D:List PDecl) (M:List Value) (R:List Row):List Row:=
 ⟨9,1,vn,D.length,nmC (D.map (·.name))⟩ :: ⟨119,2,vw,D.length,D.flatMap whC⟩ :: ⟨47,4,.slice (some ⟨go,0,none⟩) D.length cap,D.length,outC D M⟩ :: R
theorem ST.dropboxAt {w0 w:World} {R:List Row} {X:List Box} {b:Box} (h:ST w0 R X w) (j:Nat) (hj:X[j]? = some b):ST w0 R (X.eraseIdx j) w:=(h.perm (List.Perm.refl _) (qgh X j b hj b).1).dropbox0
theorem en_start {w0 w:World} {g:Nat} {a b c:Value} {D:List PDecl} {M:List Value} {R:List Row} {X:List Box} (h:MK w0 g a b c D M R X w) (hD:D.length ≠ 0) : ∃vn vw go cap,ST w0 (memR (.slice none 0 0) (.slice none 0 0) (.slice none 0 0) [] (rowsB vn vw go cap D (M ++ [.slice none 0 0]) R)) (⟨w.heap.size,#[.slice none 0 0,.slice none 0 0],97⟩ :: ⟨g,#[a,b,c,vn,vw,.slice (some ⟨go,0,none⟩) D.length cap],89⟩ :: X) (w.alloc (.cells #[.slice none 0 0,.slice none 0 0] 97)):=by
 obtain⟨vn,vw,vo,h⟩:=h;obtain⟨go,cap,hv,_⟩:=qew (h.row 2 rfl) hD;have hv':vo=.slice (some ⟨go,0,none⟩) D.length cap:=hv;subst hv';refine⟨vn,vw,go,cap,?_⟩;have:=(((h.addbox #[.slice none 0 0,.slice none 0 0] 97).nilrow 80 3).nilrow 3 1).nilrow 9 1;unfold rowsB;rw [qex]
 simpa [memR,nmC]using this
theorem en_fin {w0 w:World} {g:Nat} {a b c vn vw v vnn vww:Value} {go cap:Nat} {D:List PDecl} {M:List Value} {R:List Row} {X:List Box} {bx be:Box} {out:List PMem} (h:ST w0 (memR vnn vww v out (rowsB vn vw go cap D (M ++ [v]) R)) (bx :: ⟨g,#[a,b,c,vn,vw,.slice (some ⟨go,0,none⟩) D.length cap],89⟩ :: be :: X) w):MK w0 g a b c D (M ++ [v]) (R ++ [⟨80,3,v,out.length,out.flatMap memC⟩]) X w:=by
 have h1:=h.droprow0.droprow0.dropbox0;have h2:MK w0 g a b c D (M ++ [v]) (⟨80,3,v,out.length,out.flatMap memC⟩ :: R) (be :: X) w:=⟨_,_,_,h1.perm (perm_3 _ _ _ _ _) (List.Perm.refl _)⟩;exact h2.endrow.dropbox
theorem qnx {s:PSchema} (h:MB s) {D:List PDecl} : ∀l ∈ qh9 D s,l.length<=64:=fun l hl=>by
 unfold qh9 at hl;rcases List.mem_append.1 hl with hl|hl
 ·rcases List.mem_append.1 hl with hl|hl
  ·obtain⟨m,hm,hl⟩:=List.mem_flatMap.1 hl
   have hb:=(h.m m hm).2.1;unfold memsM at hl;rcases List.mem_cons.1 hl with rfl|hl
   ·have:=qdw D m.name m.fields [] []
    unfold qdp;rw [List.length_nil]at this;omega
   ·obtain⟨u,_,rfl⟩:=List.mem_map.1 hl
    have:=qhu D u m.fields [];unfold qdk;rw [List.length_nil]at this;omega
  ·obtain⟨e,he,rfl⟩:=List.mem_map.1 hl
   have hb:=(h.e e he).2.1;have:=qo5 e.items [];unfold items;rw [List.length_nil]at this;omega
 ·obtain⟨v,hv,rfl⟩:=List.mem_map.1 hl
  have hb:=(h.v v hv).2.1;have:=qoq D v.meths 0 [];unfold qcy;rw [List.length_nil]at this;omega
end
end Go.Proofs.YtfoaaglbpmmhiaaGreatDoor
