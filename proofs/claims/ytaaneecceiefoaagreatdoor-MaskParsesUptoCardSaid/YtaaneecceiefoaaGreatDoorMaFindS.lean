import Derived.Test.YtaaneecceiefoaaGreatDoorMaKeep
import Derived.Test.YtaaneecceiefoaaGreatDoorMaVM
import Derived.Test.YtaaneecceiefoaaGreatDoorMaFind
set_option maxRecDepth 100000
set_option maxHeartbeats 4000000
set_option linter.unusedVariables false
set_option linter.unusedSimpArgs false
namespace Go.Proofs.YtaaneecceiefoaaGreatDoor
section
open Go.RowKit Ck Ma
theorem VSchema.staysB {s:PSchema} {vs:List Value} {w w':World} (h:VSchema w vs s) (k:Bel w w'):VSchema w' vs s:=VSchema.stays _ _ _ _ k h
def CheckC (n:Nat):Prop := ∀(A:Nat->Prop) (mv ev sv:Value) (s:PSchema) (name:Str) (v:Value) (l:List PMask) (w:World),VSchema w [mv,ev,sv] s->MaskD A n w v l->Calls Tryz.prog 9 #[.agg #[mv,ev,sv],.string (S name),v] w fun e w'=>e=.returned (.int .i64 (chk (envOf s) n name l))/\Bel w w'
theorem qew (n:Nat) (IH:n ≠ 0->CheckC n):CheckC (n+1):=by
 intro A mv ev sv s name v l w0 hs hl0;have HS:=Lib.hid (fun(W:World) (k:Bel w0 W)=>VSchema.staysB hs k);have CM0:=Lib.hid (fun W (k:Bel w0 W)=>qbt mv ev sv s name w0 W k hs);obtain⟨_,_,_,he,hm,hev,hsv⟩:=hs;cases he;obtain⟨q2,c2,rfl,hl2⟩:=qa5 hev;obtain⟨q3,c3,rfl,hl3⟩:=qa5 hsv;obtain⟨q1,c1,rfl,hl1⟩:=qa5 hm;clear hm hev hsv;obtain⟨p,c,rfl,hl,hcap,hel⟩:=hl0;have EL:=Lib.hid hel;clear hel hcap;have hS0:=Lib.hid ((ST.start w0).addbox #[.slice q1 s.msgs.length c1,.slice q2 s.enums.length c2,.slice q3 s.svcs.length c3] 26);cases hm:msgOf s name with
 | none=>
  have hr:chk (envOf s) (n+1) name l=10:=by
   show(if(msgOf s name).isSome=true then _ else _)=_
   rw [hm];rfl
  rw [hr];rw [hm]at CM0;clear hr hm
  go_enter Tryz.func9,Tryz.ntmps9
  go_wp2_with (first
   | (go_at_call 26;(with_reducible refine(CM0.out _ hS0.out.bel).mono ?_);rintro e w1 ⟨vm,rfl,hvs,k1⟩;have k1:Bel _ w1:=k1;have hv0:vm=zMsg:=hvs;subst hv0;have H1:=Lib.hid ((hS0.out.belw k1).addbox zMsg.toArray 57);clear k1 hvs)
   | (refine qa3 (old:=#[.string ⟨#[]⟩,.slice none 0 0,.slice none 0 0,.slice none 0 0,.slice none 0 0]) rfl 57 _ _ rfl w1 rfl w1.heap.size rfl zMsg.toArray rfl rfl ar_M rfl (by simp [zMsg,Value.oneCell']) ?_))
  go_ret;exact⟨rfl,H1.out.bel⟩
 | some m=>
  have V:=Lib.hid (show chkGo (envOf s) (chk (envOf s) n) name (pvM l 0) (l.drop 0)=chk (envOf s) (n+1) name l by
   show _=(if(msgOf s name).isSome=true then _ else _)
   rw [hm]
   rfl)
  generalize chk (envOf s) (n+1) name l=R at V;rw [hm]at CM0;have HM:=Lib.hid hm;clear hm
  go_enter Tryz.func9,Tryz.ntmps9
  go_upto_region 2 with(first
   | (go_at_call 26;(with_reducible refine(CM0.out _ hS0.out.bel).mono ?_);rintro e w1 ⟨vm,rfl,hvs,k1⟩;have k1:Bel _ w1:=k1;have HVM:=Lib.hid (show VMsg _ vm m from hvs);obtain⟨hlen,hone⟩:=qbq hvs;have HVS:=Lib.hid hvs;have Z0:vm.toArray.size=5:=(by rw [List.size_toArray];exact hlen);have Z1:=Lib.hid (show(Tryz.prog.info? 57).map (·.size)=some vm.toArray.size by rw [Z0];exact ar_M);have Z2:=Lib.hid (show(#[.string ⟨#[]⟩,.slice none 0 0,.slice none 0 0,.slice none 0 0,.slice none 0 0]:Array Value).size=vm.toArray.size by rw [Z0];rfl);have HO:=Lib.hid hone;clear hlen hone Z0 hvs;have H1:=Lib.hid ((hS0.out.belw k1).addbox vm.toArray 57);have K1:=Lib.hid (show Bel _ (w1.alloc (.cells vm.toArray 57))from k1.alloc _);clear k1)
   | (refine qa3 (old:=#[.string ⟨#[]⟩,.slice none 0 0,.slice none 0 0,.slice none 0 0,.slice none 0 0]) rfl 57 _ _ rfl w1 rfl w1.heap.size rfl vm.toArray rfl rfl Z1.out Z2.out HO.out ?_))
  generalize hwz:World.alloc w1 _=wz at H1 K1 ⊢;clear hwz;generalize hmb:w1.heap.size=mb at H1 ⊢;clear hmb HVS HO Z2;have HZ1:=Z1;have HVM2:=Lib.hid (VMsg.stays _ _ _ _ H1.out.bel HVM.out);have CFd:=Lib.hid (fun W (kk:Bel wz W) q=>qha (m:=m) (vs:=vm) q wz W kk HVM2.out);have HEN:=Lib.hid H1.out.bel;clear K1 HVM Z1 CM0 hS0
  go_wp2_with (fail)
  go_loopw [24] (fun i wr => ∃k:Nat,k<=l.length/\i=.int .i64 k/\Hid (ST w0 [] [⟨mb,vm.toArray,57⟩,⟨w0.heap.size,#[.slice q1 s.msgs.length c1,.slice q2 s.enums.length c2,.slice q3 s.svcs.length c3],26⟩] wr)/\Hid (Bel wz wr)/\Hid (chkGo (envOf s) (chk (envOf s) n) name (pvM l k) (l.drop k)=R)) (fun i _=>l.length-(intOf i).toNat)
  case atStart=>exact⟨0,by omega,rfl,H1,Lib.hid (Bel.refl _),V⟩
  case round=>as_aux_lemma=>
   clear V H1 HEN;obtain⟨k,hk,rfl,hS,hB,hx⟩:=hrel;by_cases hlt:k<l.length
   ·obtain⟨g,off,sv,rfl,hbs,hab,hc0,hc1,hd⟩:=EL.out k _ (List.getElem?_eq_getElem hlt)
    obtain⟨sp,sc,rfl⟩:=hd.form;have hki:(k:Int)<(l.length:Int):=by omega
    have e0:=hS.out.bel.some hc0;have e1:=hS.out.bel.some hc1;have hst:=hx.out
    have hpv : ∀kp,k=kp+1->∃z,pvM l k=some z/\∃b2 off2:Nat,(some (⟨g,off,none⟩:Addr))=some ⟨b2,off2,none⟩/\w0.cell? ⟨b2,off2+kp*2,none⟩=some (.int .i64 z):=fun kp hkk=>by
     have hkp:kp<l.length:=by omega
     obtain⟨b2,off2,sv2,hq2,hs2,hab2,hp0,_,_⟩:=EL.out kp _ (List.getElem?_eq_getElem hkp);exact⟨_,by rw [hkk];exact qiy hkp,b2,off2,hq2,hp0⟩
    have HPV:=Lib.hid hpv;clear hx hab hpv EL;generalize hxk:l[k]=x at *;have HXK:=Lib.hid hxk;have DX:=Lib.hid (show MaskD A n w0 (.slice sp x.subs.length sc) x.subs from hd);have HX:=Lib.hid (hS.out.addbox #[.int .i64 x.num,.slice sp x.subs.length sc] 61);have HBm:=Lib.hid (HX.out.box 1 rfl);clear hc0 hc1 hd hxk
    go_upto_region 8 with(first
     | (refine qa6 rfl 57 _ rfl mb vm.toArray 57 rfl HBm.out _ Tryz.underlying57 rfl HZ1.out ?_)
     | (go_at_call 27;(with_reducible refine(CFd.out _ (hB.out.alloc _) _).mono ?_);rintro e w1 ⟨vs,rfl,hvs,k1⟩;have k1:Bel _ w1:=k1;obtain⟨hlen,hone⟩:=qc9 hvs;have HVS:=Lib.hid hvs;have Z0:vs.toArray.size=16:=(by rw [List.size_toArray];exact hlen);have Z1:=Lib.hid (show(Tryz.prog.info? 65).map (·.size)=some vs.toArray.size by rw [Z0];exact ar_F);have Z2:=Lib.hid (show(#[.int .i64 0,.string ⟨#[]⟩,.int .i64 0,.int .i64 0,.int .i64 0,.string ⟨#[]⟩,.string ⟨#[]⟩,.bool false,.int .i64 0,.int .u64 0,.string ⟨#[]⟩,.slice none 0 0,.slice none 0 0,.slice none 0 0,.slice none 0 0,.slice none 0 0]:Array Value).size=vs.toArray.size by rw [Z0];rfl);have HO:=Lib.hid hone;clear hlen hone Z0 hvs;have H1:=Lib.hid ((HX.out.belw k1).addbox vs.toArray 65);have K1:=Lib.hid (show Bel _ (w1.alloc (.cells vs.toArray 65))from k1.alloc _);clear k1)
     | (refine qa3 (old:=#[.int .i64 0,.string ⟨#[]⟩,.int .i64 0,.int .i64 0,.int .i64 0,.string ⟨#[]⟩,.string ⟨#[]⟩,.bool false,.int .i64 0,.int .u64 0,.string ⟨#[]⟩,.slice none 0 0,.slice none 0 0,.slice none 0 0,.slice none 0 0,.slice none 0 0]) rfl 65 _ _ rfl w1 rfl w1.heap.size rfl vs.toArray rfl rfl Z1.out Z2.out HO.out ?_))
    generalize hwz2:World.alloc w1 _=wy at H1 K1 ⊢;clear hwz2;generalize hfb:w1.heap.size=fb at H1 ⊢;obtain⟨wd,hwd⟩ : ∃wd,wd=wy.drew:=⟨_,rfl⟩;have HD:=Lib.hid (show ST w0 [] [⟨fb,vs.toArray,65⟩,⟨wr.heap.size,#[.int .i64 x.num,.slice sp x.subs.length sc],61⟩,⟨mb,vm.toArray,57⟩,⟨w0.heap.size,#[.slice q1 s.msgs.length c1,.slice q2 s.enums.length c2,.slice q3 s.svcs.length c3],26⟩] wd by rw [hwd];exact H1.out.belw (Bel.refl _).drew);have HBz:=Lib.hid (show Bel wz wd by rw [hwd];exact(Bel.of (hB.out.alloc _) K1.out).drew);have HWD:=Lib.hid hwd;clear hwd H1 K1 hfb hS hB e0 e1 HX HBm;have x0:=HD.out.cell 1 rfl 0;have x1:=HD.out.cell 1 rfl 1;dsimp only at x0 x1;by_cases hk0:k=0
    ·subst hk0
     have hki2:((0:Nat):Int)=0:=rfl;have HP:=Lib.hid (show ¬((pvM l 0).any fun p=>decide (l[0].num<=p))=true from Bool.false_ne_true);refine qae 11 (by kernel_rfl) (by kernel_rfl) HWD.out ?_
     (simp only [List.take_succ_cons,List.take_zero,List.drop_succ_cons,List.drop_zero]);(repeat (first|((with_reducible refine wpStill_step (fun K hK=>?_));go_simp;(with_reducible refine hK _ ?_);clear hK K)|((with_reducible refine qaf ?_ ?_);(with_unfolding_all rfl);(simp only [Act.put,List.setIfInBounds_toArray,List.set_cons_zero,List.set_cons_succ]))));(with_reducible refine wpStill_nil ?_)
     cases hf:qai m x.num with
     | none=>
      rw [qhc hlt HP.out HM.out (by rw [HXK.out];exact hf)]at hst;subst hst;rw [hf]at HVS;go_wp2;go_ret;exact⟨rfl,HD.out.bel⟩
     | some f=>
      rw [hf]at HVS;have HVF:=Lib.hid (show VField _ vs f from HVS.out);have HF5:=Lib.hid (VField.at HVF.out).2.2.2.2;have CS:=Lib.hid (fun W=>qgw (f:=f) (vs:=vs) W HVF.out);cases hwx:whole x with
      | true=>
       rw [qfc hlt HP.out HM.out (by rw [HXK.out];exact hf) (by rw [HXK.out];exact hwx)]at hst;have HST:=Lib.hid hst;have CX:=Lib.hid (fun p c W=>qaj hwx p c W);clear hst hf hwx HVS
       go_wp2_with (first
        | (go_at_call 28;(with_reducible refine(CX.out _ _ _).mono ?_);rintro e w2 ⟨rfl,k2⟩;have k2:Bel _ w2:=k2;have K2:=Lib.hid k2;have H2:=Lib.hid (HD.out.belw k2);have HBf:=Lib.hid (H2.out.box 0 rfl);clear x0 x1;clear k2))
       go_roundw
       case rel=>exact⟨0+1,by omega,by go_num,Lib.hid H2.out.dropbox0.dropbox0,Lib.hid (Bel.of HBz.out K2.out),HST⟩
       case measure=>simp [intOf];omega
      | false=>
       have CX:=Lib.hid (fun p c W=>qaj hwx p c W);have hn0:=DX.out.ne (qaz hwx);cases hsf:qax f with
       | false=>
        rw [qhb hlt HP.out HM.out (by rw [HXK.out];exact hf) (by rw [HXK.out];exact hwx) hsf]at hst;subst hst;rw [hsf]at CS;clear hf hwx HVS hsf
        go_wp2_with (first
         | (go_at_call 28;(with_reducible refine(CX.out _ _ _).mono ?_);rintro e w2 ⟨rfl,k2⟩;have k2:Bel _ w2:=k2;have K2:=Lib.hid k2;have H2:=Lib.hid (HD.out.belw k2);have HBf:=Lib.hid (H2.out.box 0 rfl);clear x0 x1;clear k2)
         | (refine qa6 rfl 65 _ rfl fb vs.toArray 65 rfl HBf.out _ Tryz.underlying65 rfl Z1.out ?_)
         | (go_at_call 29;(with_reducible refine(CS.out _).mono ?_);rintro e w3 ⟨rfl,k3⟩;have k3:Bel _ w3:=k3;have K3:=Lib.hid (Bel.of K2.out k3);have H3:=Lib.hid (H2.out.belw k3);have t0:=H3.out.cell 3 rfl 0;have t1:=H3.out.cell 3 rfl 1;have t2:=H3.out.cell 3 rfl 2;have t5:=(H3.out.cell 0 rfl 5).trans HF5.out;have x1:=H3.out.cell 1 rfl 1;dsimp only at t0 t1 t2 t5 x1;clear k3))
        go_ret;exact⟨rfl,H3.out.bel⟩
       | true=>
        rw [qkq hlt HP.out HM.out (by rw [HXK.out];exact hf) (by rw [HXK.out];exact hwx) hsf,HXK.out]at hst;rw [hsf]at CS;have CI:=Lib.hid (fun W (kk:Bel w0 W) (h:MaskD A n W (.slice sp x.subs.length sc) x.subs)=>IH hn0 A (.slice q1 s.msgs.length c1) (.slice q2 s.enums.length c2) (.slice q3 s.svcs.length c3) s f.tn _ x.subs W (HS.out W kk) h);generalize chk (envOf s) n f.tn x.subs=RC at CI hst;clear hf hwx HVS hsf hn0;by_cases h0:RC=0
        ·rw [if_pos h0]at hst
         subst h0;have HST:=Lib.hid hst;clear hst
         go_wp2_with (first
          | (go_at_call 28;(with_reducible refine(CX.out _ _ _).mono ?_);rintro e w2 ⟨rfl,k2⟩;have k2:Bel _ w2:=k2;have K2:=Lib.hid k2;have H2:=Lib.hid (HD.out.belw k2);have HBf:=Lib.hid (H2.out.box 0 rfl);clear x0 x1;clear k2)
          | (refine qa6 rfl 65 _ rfl fb vs.toArray 65 rfl HBf.out _ Tryz.underlying65 rfl Z1.out ?_)
          | (go_at_call 29;(with_reducible refine(CS.out _).mono ?_);rintro e w3 ⟨rfl,k3⟩;have k3:Bel _ w3:=k3;have K3:=Lib.hid (Bel.of K2.out k3);have H3:=Lib.hid (H2.out.belw k3);have t0:=H3.out.cell 3 rfl 0;have t1:=H3.out.cell 3 rfl 1;have t2:=H3.out.cell 3 rfl 2;have t5:=(H3.out.cell 0 rfl 5).trans HF5.out;have x1:=H3.out.cell 1 rfl 1;dsimp only at t0 t1 t2 t5 x1;clear k3)
          | (go_at_call 9;(with_reducible refine(CI.out _ H3.out.bel (DX.out.bel H3.out.bel)).mono ?_);rintro e w4 ⟨rfl,k4⟩;have k4:Bel _ w4:=k4;have K4:=Lib.hid (Bel.of K3.out k4);have H4:=Lib.hid (H3.out.belw k4);clear k4))
         go_roundw
         case rel=>exact⟨0+1,by omega,by go_num,Lib.hid H4.out.dropbox0.dropbox0,Lib.hid (Bel.of HBz.out K4.out),HST⟩
         case measure=>simp [intOf];omega
        ·rw [if_neg h0]at hst
         subst hst;have hb0:(RC != 0)=true:=bne_t h0;clear h0
         go_wp2_with (first
          | (go_at_call 28;(with_reducible refine(CX.out _ _ _).mono ?_);rintro e w2 ⟨rfl,k2⟩;have k2:Bel _ w2:=k2;have K2:=Lib.hid k2;have H2:=Lib.hid (HD.out.belw k2);have HBf:=Lib.hid (H2.out.box 0 rfl);clear x0 x1;clear k2)
          | (refine qa6 rfl 65 _ rfl fb vs.toArray 65 rfl HBf.out _ Tryz.underlying65 rfl Z1.out ?_)
          | (go_at_call 29;(with_reducible refine(CS.out _).mono ?_);rintro e w3 ⟨rfl,k3⟩;have k3:Bel _ w3:=k3;have K3:=Lib.hid (Bel.of K2.out k3);have H3:=Lib.hid (H2.out.belw k3);have t0:=H3.out.cell 3 rfl 0;have t1:=H3.out.cell 3 rfl 1;have t2:=H3.out.cell 3 rfl 2;have t5:=(H3.out.cell 0 rfl 5).trans HF5.out;have x1:=H3.out.cell 1 rfl 1;dsimp only at t0 t1 t2 t5 x1;clear k3)
          | (go_at_call 9;(with_reducible refine(CI.out _ H3.out.bel (DX.out.bel H3.out.bel)).mono ?_);rintro e w4 ⟨rfl,k4⟩;have k4:Bel _ w4:=k4;have K4:=Lib.hid (Bel.of K3.out k4);have H4:=Lib.hid (H3.out.belw k4);clear k4))
         go_ret;exact⟨rfl,H4.out.bel⟩
    ·obtain⟨kp,hkk⟩ : ∃kp,k=kp+1:=⟨k-1,by omega⟩
     have hkp:kp<l.length:=by omega
     have hkpi:(kp:Int)<(l.length:Int):=by omega
     have hki0:(0:Int)<(k:Int):=by omega
     have hkn0:0<k:=by omega
     have jw2:IntKind.i64.wrap (kp:Int)=(kp:Int):=IntWalk.i64_in _ (by omega);have jw:IntKind.i64.wrap ((k:Int)-1)=(kp:Int):=by rw [show(k:Int)-1=(kp:Int)by omega];exact jw2
     obtain⟨z,hz,b2,off2,hq2,hp0⟩:=HPV.out kp hkk;cases hq2;have y0:=HD.out.bel.some hp0;clear hp0;by_cases hxz:x.num<=z
     ·rw [chk_ord hlt (by rw [HXK.out,hz];simpa using hxz)]at hst
      subst hst;clear hkk hz;refine qae 11 (by kernel_rfl) (by kernel_rfl) HWD.out ?_
      (simp only [List.take_succ_cons,List.take_zero,List.drop_succ_cons,List.drop_zero]);(repeat (first|((with_reducible refine wpStill_step (fun K hK=>?_));go_simp;(with_reducible refine hK _ ?_);clear hK K)|((with_reducible refine qaf ?_ ?_);(with_unfolding_all rfl);(simp only [Act.put,List.setIfInBounds_toArray,List.set_cons_zero,List.set_cons_succ]))));(with_reducible refine wpStill_nil ?_)
      go_wp2;go_ret
      exact⟨rfl,HD.out.bel⟩
     ·have HP:=Lib.hid (show ¬((pvM l k).any fun p=>decide (l[k].num<=p))=true by rw [HXK.out,hz];simpa using hxz)
      have hzd:decide (x.num<=z)=false:=by simpa using hxz
      have hz2:z<x.num:=by omega
      clear hxz hkk hz;refine qae 11 (by kernel_rfl) (by kernel_rfl) HWD.out ?_
      (simp only [List.take_succ_cons,List.take_zero,List.drop_succ_cons,List.drop_zero]);(repeat (first|((with_reducible refine wpStill_step (fun K hK=>?_));go_simp;(with_reducible refine hK _ ?_);clear hK K)|((with_reducible refine qaf ?_ ?_);(with_unfolding_all rfl);(simp only [Act.put,List.setIfInBounds_toArray,List.set_cons_zero,List.set_cons_succ]))));(with_reducible refine wpStill_nil ?_)
      clear y0 jw jw2;cases hf:qai m x.num with
      | none=>
       rw [qhc hlt HP.out HM.out (by rw [HXK.out];exact hf)]at hst;subst hst;rw [hf]at HVS;go_wp2;go_ret;exact⟨rfl,HD.out.bel⟩
      | some f=>
       rw [hf]at HVS;have HVF:=Lib.hid (show VField _ vs f from HVS.out);have HF5:=Lib.hid (VField.at HVF.out).2.2.2.2;have CS:=Lib.hid (fun W=>qgw (f:=f) (vs:=vs) W HVF.out);cases hwx:whole x with
       | true=>
        rw [qfc hlt HP.out HM.out (by rw [HXK.out];exact hf) (by rw [HXK.out];exact hwx)]at hst;have HST:=Lib.hid hst;have CX:=Lib.hid (fun p c W=>qaj hwx p c W);clear hst hf hwx HVS
        go_wp2_with (first
         | (go_at_call 28;(with_reducible refine(CX.out _ _ _).mono ?_);rintro e w2 ⟨rfl,k2⟩;have k2:Bel _ w2:=k2;have K2:=Lib.hid k2;have H2:=Lib.hid (HD.out.belw k2);have HBf:=Lib.hid (H2.out.box 0 rfl);clear x0 x1;clear k2))
        go_roundw
        case rel=>exact⟨k+1,by omega,by go_num,Lib.hid H2.out.dropbox0.dropbox0,Lib.hid (Bel.of HBz.out K2.out),HST⟩
        case measure=>simp [intOf];omega
       | false=>
        have CX:=Lib.hid (fun p c W=>qaj hwx p c W);have hn0:=DX.out.ne (qaz hwx);cases hsf:qax f with
        | false=>
         rw [qhb hlt HP.out HM.out (by rw [HXK.out];exact hf) (by rw [HXK.out];exact hwx) hsf]at hst;subst hst;rw [hsf]at CS;clear hf hwx HVS hsf
         go_wp2_with (first
          | (go_at_call 28;(with_reducible refine(CX.out _ _ _).mono ?_);rintro e w2 ⟨rfl,k2⟩;have k2:Bel _ w2:=k2;have K2:=Lib.hid k2;have H2:=Lib.hid (HD.out.belw k2);have HBf:=Lib.hid (H2.out.box 0 rfl);clear x0 x1;clear k2)
          | (refine qa6 rfl 65 _ rfl fb vs.toArray 65 rfl HBf.out _ Tryz.underlying65 rfl Z1.out ?_)
          | (go_at_call 29;(with_reducible refine(CS.out _).mono ?_);rintro e w3 ⟨rfl,k3⟩;have k3:Bel _ w3:=k3;have K3:=Lib.hid (Bel.of K2.out k3);have H3:=Lib.hid (H2.out.belw k3);have t0:=H3.out.cell 3 rfl 0;have t1:=H3.out.cell 3 rfl 1;have t2:=H3.out.cell 3 rfl 2;have t5:=(H3.out.cell 0 rfl 5).trans HF5.out;have x1:=H3.out.cell 1 rfl 1;dsimp only at t0 t1 t2 t5 x1;clear k3))
         go_ret;exact⟨rfl,H3.out.bel⟩
        | true=>
         rw [qkq hlt HP.out HM.out (by rw [HXK.out];exact hf) (by rw [HXK.out];exact hwx) hsf,HXK.out]at hst;rw [hsf]at CS;have CI:=Lib.hid (fun W (kk:Bel w0 W) (h:MaskD A n W (.slice sp x.subs.length sc) x.subs)=>IH hn0 A (.slice q1 s.msgs.length c1) (.slice q2 s.enums.length c2) (.slice q3 s.svcs.length c3) s f.tn _ x.subs W (HS.out W kk) h);generalize chk (envOf s) n f.tn x.subs=RC at CI hst;clear hf hwx HVS hsf hn0;by_cases h0:RC=0
         ·rw [if_pos h0]at hst
          subst h0;have HST:=Lib.hid hst;clear hst
          go_wp2_with (first
           | (go_at_call 28;(with_reducible refine(CX.out _ _ _).mono ?_);rintro e w2 ⟨rfl,k2⟩;have k2:Bel _ w2:=k2;have K2:=Lib.hid k2;have H2:=Lib.hid (HD.out.belw k2);have HBf:=Lib.hid (H2.out.box 0 rfl);clear x0 x1;clear k2)
           | (refine qa6 rfl 65 _ rfl fb vs.toArray 65 rfl HBf.out _ Tryz.underlying65 rfl Z1.out ?_)
           | (go_at_call 29;(with_reducible refine(CS.out _).mono ?_);rintro e w3 ⟨rfl,k3⟩;have k3:Bel _ w3:=k3;have K3:=Lib.hid (Bel.of K2.out k3);have H3:=Lib.hid (H2.out.belw k3);have t0:=H3.out.cell 3 rfl 0;have t1:=H3.out.cell 3 rfl 1;have t2:=H3.out.cell 3 rfl 2;have t5:=(H3.out.cell 0 rfl 5).trans HF5.out;have x1:=H3.out.cell 1 rfl 1;dsimp only at t0 t1 t2 t5 x1;clear k3)
           | (go_at_call 9;(with_reducible refine(CI.out _ H3.out.bel (DX.out.bel H3.out.bel)).mono ?_);rintro e w4 ⟨rfl,k4⟩;have k4:Bel _ w4:=k4;have K4:=Lib.hid (Bel.of K3.out k4);have H4:=Lib.hid (H3.out.belw k4);clear k4))
          go_roundw
          case rel=>exact⟨k+1,by omega,by go_num,Lib.hid H4.out.dropbox0.dropbox0,Lib.hid (Bel.of HBz.out K4.out),HST⟩
          case measure=>simp [intOf];omega
         ·rw [if_neg h0]at hst
          subst hst;have hb0:(RC != 0)=true:=bne_t h0;clear h0
          go_wp2_with (first
           | (go_at_call 28;(with_reducible refine(CX.out _ _ _).mono ?_);rintro e w2 ⟨rfl,k2⟩;have k2:Bel _ w2:=k2;have K2:=Lib.hid k2;have H2:=Lib.hid (HD.out.belw k2);have HBf:=Lib.hid (H2.out.box 0 rfl);clear x0 x1;clear k2)
           | (refine qa6 rfl 65 _ rfl fb vs.toArray 65 rfl HBf.out _ Tryz.underlying65 rfl Z1.out ?_)
           | (go_at_call 29;(with_reducible refine(CS.out _).mono ?_);rintro e w3 ⟨rfl,k3⟩;have k3:Bel _ w3:=k3;have K3:=Lib.hid (Bel.of K2.out k3);have H3:=Lib.hid (H2.out.belw k3);have t0:=H3.out.cell 3 rfl 0;have t1:=H3.out.cell 3 rfl 1;have t2:=H3.out.cell 3 rfl 2;have t5:=(H3.out.cell 0 rfl 5).trans HF5.out;have x1:=H3.out.cell 1 rfl 1;dsimp only at t0 t1 t2 t5 x1;clear k3)
           | (go_at_call 9;(with_reducible refine(CI.out _ H3.out.bel (DX.out.bel H3.out.bel)).mono ?_);rintro e w4 ⟨rfl,k4⟩;have k4:Bel _ w4:=k4;have K4:=Lib.hid (Bel.of K3.out k4);have H4:=Lib.hid (H3.out.belw k4);clear k4))
          go_ret;exact⟨rfl,H4.out.bel⟩
   ·have hkl:k=l.length:=by omega
    have hz:0=R:=by have:=hx.out;rw [hkl,List.drop_length]at this;exact this
    subst hz;clear hx EL;go_wp2;go_ret;exact⟨rfl,hS.out.bel⟩
theorem qj8 : ∀n:Nat,CheckC (n+1)
 | 0=>qew 0 (fun h=>absurd rfl h)
 | n+1=>qew (n+1) (fun _=>qj8 n)
end
section
open Go.RowKit Ck Ma
def allE (f:PField):ME:=⟨.mk f.num [],none,0⟩
theorem mk_all (mv ev sv:Value) (s:PSchema) (name:Str) (m:PMsg) (hm:msgOf s name=some m) (hB:m.fields.length<=1000000000) (w0:World) (hs:VSchema w0 [mv,ev,sv] s) :
  Calls Tryz.prog 47 #[.agg #[mv,ev,sv],.string (S name)] w0 (qbm (fun _=>False) 1 w0 (all (envOf s) name)):=by
 have CM0:=Lib.hid (fun W (k:Bel w0 W)=>qbt mv ev sv s name w0 W k hs)
 have hr:all (envOf s) name=m.fields.map fun f=>PMask.mk f.num []:=by
  show(((msgOf s name).map fun m=>m.fields.map (·.num)).getD []).map _=_
  rw [hm];show(m.fields.map _).map _=_
  rw [List.map_map];rfl
 rw [hr,hm]at *;have V:=Lib.hid (show([]:List ME).map (·.x) ++ (m.fields.drop 0).map (fun f=>PMask.mk f.num [])=m.fields.map fun f=>PMask.mk f.num []from rfl);generalize (m.fields.map fun f=>PMask.mk f.num [])=Z at V;obtain⟨i1,hi1,hy0,hy1,hy2⟩:=info_parts qce;obtain⟨_,_,_,he,hm,hev,hsv⟩:=hs;cases he;obtain⟨q2,c2,rfl,hl2⟩:=qa5 hev;obtain⟨q3,c3,rfl,hl3⟩:=qa5 hsv;obtain⟨q1,c1,rfl,hl1⟩:=qa5 hm;clear hm hev hsv;have hS0:=Lib.hid ((ST.start w0).addbox #[.slice q1 s.msgs.length c1,.slice q2 s.enums.length c2,.slice q3 s.svcs.length c3] 26);clear hr
 go_enter Tryz.func47,Tryz.ntmps47
 go_upto_region 2 with(first
 | (go_at_call 26;(with_reducible refine(CM0.out _ hS0.out.bel).mono ?_);rintro e w1 ⟨vm,rfl,hvs,k1⟩;have k1:Bel _ w1:=k1;have HVM:=Lib.hid (show VMsg _ vm m from hvs);obtain⟨hlen,hone⟩:=qbq hvs;have HVS:=Lib.hid hvs;have Z0:vm.toArray.size=5:=(by rw [List.size_toArray];exact hlen);have Z1:=Lib.hid (show(Tryz.prog.info? 57).map (·.size)=some vm.toArray.size by rw [Z0];exact ar_M);have Z2:=Lib.hid (show(#[.string ⟨#[]⟩,.slice none 0 0,.slice none 0 0,.slice none 0 0,.slice none 0 0]:Array Value).size=vm.toArray.size by rw [Z0];rfl);have HO:=Lib.hid hone;clear hlen hone Z0 hvs;have H1:=Lib.hid ((hS0.out.belw k1).addbox vm.toArray 57);clear k1)
 | (refine qa3 (old:=#[.string ⟨#[]⟩,.slice none 0 0,.slice none 0 0,.slice none 0 0,.slice none 0 0]) rfl 57 _ _ rfl w1 rfl w1.heap.size rfl vm.toArray rfl rfl Z1.out Z2.out HO.out ?_))
 generalize hwz:World.alloc w1 _=wz at H1 ⊢;clear hwz;generalize hmb:w1.heap.size=mb at H1 ⊢;clear hmb HVS HO Z2 Z1 CM0 hS0;obtain⟨fv,_,_,_,hvv,hfl,_⟩:=HVM.out;obtain⟨f1,d1,rfl,_⟩:=qa5 hfl;obtain⟨_,_,hq,hl,hcap,hel⟩:=hfl;cases hq;have EL:=Lib.hid hel;have m1:=(H1.out.cell 0 rfl 1).trans (show vm.toArray[1]? = some (.slice f1 m.fields.length d1)by rw [hvv];rfl);dsimp only at m1;have HT:=Lib.hid (H1.out.nilrow 61 2);clear hel hcap hvv H1 HVM;go_wp2
 go_loopw [7,19] (fun vo i wr => ∃(k:Nat) (L:List ME),k<=m.fields.length/\i=.int .i64 k/\Hid (ST w0 [medge vo L] [⟨mb,vm.toArray,57⟩,⟨w0.heap.size,#[.slice q1 s.msgs.length c1,.slice q2 s.enums.length c2,.slice q3 s.svcs.length c3],26⟩] wr)/\L.length<=k/\Hid (RowOK (fun _=>False) w0.heap.size 0 vo L wr)/\Hid (L.map (·.x) ++ (m.fields.drop k).map (fun f=>PMask.mk f.num [])=Z)) (fun _ i _=>m.fields.length-(intOf i).toNat)
 case atStart=>exact⟨0,[],by omega,rfl,HT,by simp,Lib.hid (RowOK.nil _ _ _ _ _),V⟩
 case round=>as_aux_lemma=>
  clear V HT m1;obtain⟨k,L,hk,rfl,hS,hLk,hO,hx⟩:=hrel;obtain⟨qo,co,hvo⟩:=qan (hS.out.row 0 rfl);dsimp only [medge]at hvo;subst hvo;by_cases hlt:k<m.fields.length
  ·obtain⟨b,off,rfl,hbs,vs,hce,hvs⟩:=EL.out k _ (List.getElem?_eq_getElem hlt)
   have hki:(k:Int)<(m.fields.length:Int):=by omega
   have hst:=hx.out;rw [map_at hlt]at hst;have HST:=Lib.hid hst;have hlen:=VField.len _ _ _ hvs;have HL:=Lib.hid hlen;have HO:=Lib.hid (VField.one _ _ _ hvs);have HC:=Lib.hid (fun i v hi=>hS.out.bel.some (hce i v hi));have Z0:vs.toArray.size=16:=by rw [List.size_toArray];exact hlen
   have Z1:=Lib.hid (show(Tryz.prog.info? 65).map (·.size)=some vs.toArray.size by rw [Z0];exact ar_F);have Z2:=Lib.hid (show(#[.int .i64 0,.string ⟨#[]⟩,.int .i64 0,.int .i64 0,.int .i64 0,.string ⟨#[]⟩,.string ⟨#[]⟩,.bool false,.int .i64 0,.int .u64 0,.string ⟨#[]⟩,.slice none 0 0,.slice none 0 0,.slice none 0 0,.slice none 0 0,.slice none 0 0]:Array Value).size=vs.toArray.size by rw [Z0];rfl);have HX:=Lib.hid (hS.out.addbox vs.toArray 65);have x0:=(HX.out.cell 0 rfl 0).trans (VField.at hvs).1;dsimp only at x0;have O1:=Lib.hid (hO.out.bel ((Bel.refl wr).alloc (.cells vs.toArray 65)));clear hce hvs hlen Z0 hx hst hS hO;generalize m.fields[k]=f at *
   go_upto_region 6 with(first
    | (refine qaa rfl 65 _ rfl b (off+k*16) 16 vs rfl HC.out ag_F sz_F HL.out ?_)
    | (refine qa3 (old:=#[.int .i64 0,.string ⟨#[]⟩,.int .i64 0,.int .i64 0,.int .i64 0,.string ⟨#[]⟩,.string ⟨#[]⟩,.bool false,.int .i64 0,.int .u64 0,.string ⟨#[]⟩,.slice none 0 0,.slice none 0 0,.slice none 0 0,.slice none 0 0,.slice none 0 0]) rfl 65 _ _ rfl wr rfl wr.heap.size rfl vs.toArray rfl rfl Z1.out Z2.out HO.out ?_))
   generalize hwa:World.alloc wr _=wa at HX O1 x0 ⊢;clear hwa;have H3:=Lib.hid (HX.out.belw ((Bel.refl wa).alloc (.cells #[.int .i64 f.num,.slice none 0 0] 61)));have O3:=Lib.hid (O1.out.bel ((Bel.refl wa).alloc (.cells #[.int .i64 f.num,.slice none 0 0] 61)))
   go_wp2_with (at_builtin;refine wpList_append_lies _ rfl _ _ 27 rfl w0.heap.size 61 i1 (.agg #[.int .i64 0,.slice none 0 0]) 2 32 Tryz.underlying27 hi1 hy0 hy1 hy2 rfl (by decide) _ L.length _ rfl (H3.out.row 0 rfl) ⟨wa.heap.size,0,none⟩ 1 1 [.int .i64 f.num,.slice none 0 0] rfl rfl (qau _ _ _) (by simp [Value.oneCell']) (by decide) (by unfold maxLen;omega) (by omega) H3.out.bel.size (wa.heap.size+1) (by simp) ?_)
   intro g4 cap4 w4 hown hgrow hfr hlt4;have O4:=Lib.hid (RowOK.snoc (e:=allE f) (m:=L.length+1) (c:=cap4) O3.out H3.out (fun b hb=>hb.elim) (MaskD.nil 0 _) hgrow hfr (by simp));have H4:=Lib.hid (qah (e:=allE f) (H3.out.grow 0 rfl hgrow hown (qbc hfr (by simp))));clear hown hgrow hfr;go_wp2;go_roundw
   case rel=>exact⟨k+1,L ++ [allE f],by omega,by go_num,Lib.hid H4.out.dropbox0,by rw [List.length_append,List.length_singleton];omega,O4,by simpa [allE]using HST⟩
   case measure=>simp [intOf];omega
  ·have hkl:k=m.fields.length:=by omega
   have hki : ¬(k:Int)<(m.fields.length:Int):=by omega
   have hz:L.map (·.x)=Z:=by have:=hx.out;rw [hkl,List.drop_length]at this;simpa using this
   have HR:=Lib.hid (qd3 hS.out hO.out (by omega) hz);clear hx;go_wp2;go_ret;exact⟨_,rfl,HR.out,hS.out.bel⟩
end
section
open Go.RowKit Ck Ma
def zSlot:List Value:=[.int .i64 0,.int .i64 0,.int .u64 0,.string ByteArray.empty,.slice none 0 0,.slice none 0 0,.slice none 0 0,.slice none 0 0]
theorem cl_slot (x:Int × CV) (d:VC) (W:World):Calls Tryz.prog 44 #[.agg (Value.int .i64 x.1 :: d.cells).toArray] W fun e w'=>e=.returned (.int .i64 x.1)/\Bel W w':=by
 show Calls _ _ #[.agg #[.int .i64 x.1,.int .i64 d.k,.int .u64 d.b,.string (S d.t),.slice d.p1 d.n1 d.c1,.slice d.p2 d.n2 d.c2,.slice d.p3 d.n3 d.c3,.slice d.p4 d.n4 d.c4]] _ _
 go_enter Tryz.func44,Tryz.ntmps44
 go_wp2;go_ret
 exact⟨rfl,(Bel.refl W).alloc _⟩
def AtS (A:Nat->Prop) (n:Nat) (w0:World) (vs:List Value):Option (Int × CV)->Prop
 | some x=>VSlot A n w0 vs x
 | none=>vs=zSlot
theorem qn9 (g:Nat) (eg : ∀args w,(callFunc g args).run Tryz.prog w=.ok (.enter g args) w) (cn : ∀(x:Int × CV) (d:VC) (W:World),Calls Tryz.prog g #[.agg (Value.int .i64 x.1 :: d.cells).toArray] W fun e w'=>e=.returned (.int .i64 x.1)/\Bel W w') (A:Nat->Prop) (n:Nat) (v:Value) (l:List (Int × CV)) (q:Int) (wv w0:World) (hvb:Bel wv w0) (h:SlA A 8 (VSlot A n) wv v l) :
  Calls Tryz.prog 43 #[v,.int .i64 q,.func (.func g) #[] #[]] w0 fun e w' => ∃vs,e=.returned (.tuple #[.agg vs.toArray,.bool (l.find? fun x=>decide (x.1=q)).isSome])/\AtS A n wv vs (l.find? fun x=>decide (x.1=q))/\Bel w0 w':=by
 obtain⟨p,c,rfl,hl,hcap,hel⟩:=h;have EL:=Lib.hid hel;have HVB:=Lib.hid hvb;have VF:=Lib.hid (show(l.drop 0).find? (fun x=>decide (x.1=q))=l.find? (fun x=>decide (x.1=q))from rfl);generalize l.find? (fun x=>decide (x.1=q))=Z at VF;have CN:=Lib.hid (fun(x:Int × CV) (d:VC) (vs:List Value) (h:vs=Value.int .i64 x.1 :: d.cells) W=>show Calls Tryz.prog g #[.agg vs.toArray] W (fun e w'=>e=.returned (.int .i64 x.1)/\Bel W w')from by subst h;exact cn x d W);have hS0:=Lib.hid ((ST.start w0).addbox zSlot.toArray 73);clear hel hcap hvb cn
 go_enter Tryz.func43,Tryz.ntmps43
 go_wp2
 go_loopw [13] (fun i wr => ∃k:Nat,k<=l.length/\i=.int .i64 k/\Hid (ST w0 [] [⟨w0.heap.size,zSlot.toArray,73⟩] wr)/\Hid ((l.drop k).find? (fun x=>decide (x.1=q))=Z)) (fun i _=>l.length-(intOf i).toNat)
 case atStart=>exact⟨0,by omega,rfl,hS0,VF⟩
 case round=>as_aux_lemma=>
  clear hS0 VF;obtain⟨k,hk,rfl,hS,hx⟩:=hrel;by_cases hlt:k<l.length
  ·obtain⟨b,off,vs,rfl,hbs,hab,hce,d,hvs,hd⟩:=EL.out k _ (List.getElem?_eq_getElem hlt)
   have hki:(k:Int)<(l.length:Int):=by omega
   have hst:=hx.out;rw [List.drop_eq_getElem_cons hlt,List.find?_cons]at hst;have hlen:vs.length=8:=by rw [hvs];rfl
   have HL:=Lib.hid hlen;have HVS:=Lib.hid (show VSlot A n wv vs l[k]from⟨d,hvs,hd⟩);have HO:=Lib.hid (qgk (show ∀u ∈ vs,u.oneCell'=true by rw [hvs];exact qgd ⟨l[k],d⟩));have HC:=Lib.hid (fun i v hi=>(Bel.of HVB.out hS.out.bel).some (hce i v hi));have Z0:vs.toArray.size=8:=by rw [List.size_toArray];exact hlen
   have Z1:=Lib.hid (show(Tryz.prog.info? 73).map (·.size)=some vs.toArray.size by rw [Z0];exact ar_S);have Z2:=Lib.hid (show zSlot.toArray.size=vs.toArray.size by rw [Z0];rfl);have HA:=Lib.hid (hS.out.addbox vs.toArray 73);have HB0:=Lib.hid (HA.out.box 0 rfl);have CN2:=Lib.hid (CN.out l[k] d vs hvs (wr.alloc (.cells vs.toArray 73)));clear hx hce hvs hlen Z0 hd hab;generalize l[k]=x at *;by_cases he:x.1=q
   ·have hb:(x.1 == q)=true:=ieq he
    rw [decide_eq_true he]at hst;have HST:=Lib.hid (show some x=Z from hst);clear hst he
    go_wp2_with (first
     | (refine qaa rfl 73 _ rfl b (off+k*8) 8 vs rfl HC.out ag_S sz_S HL.out ?_)
     | (refine qa3 (old:=zSlot.toArray) rfl 73 _ _ rfl wr rfl wr.heap.size rfl vs.toArray rfl rfl Z1.out Z2.out HO.out ?_)
     | (refine qa6 rfl 73 _ rfl wr.heap.size vs.toArray 73 rfl HB0.out _ Tryz.underlying73 rfl Z1.out ?_)
     | (refine qa6 rfl 73 _ rfl wr.heap.size vs.toArray 73 rfl HB1.out _ Tryz.underlying73 rfl Z1.out ?_)
     | (refine qa8 rfl 73 _ _ rfl w0.heap.size vs.toArray zSlot.toArray 73 rfl rfl HB2.out Z1.out Z2.out HO.out ?_)
     | (go_at_fn g;(with_reducible refine CN2.out.mono ?_);rintro e w1 ⟨rfl,k1⟩;have k1:Bel _ w1:=k1;have H1:=Lib.hid (HA.out.belw k1);have HB1:=Lib.hid (H1.out.box 0 rfl);have HB2:=Lib.hid (H1.out.box 1 rfl);clear k1))
    have HZ:=Lib.hid (H1.out.setrowbox 1 rfl vs.toArray);refine bodyPost_ret (v:=.tuple #[.agg vs.toArray,.bool true]) ?hres1 rfl ?hpost1
    case hres1=>exact qb1 rfl rfl rfl (HZ.out.box 1 rfl) Tryz.underlying73 rfl Z1.out
    case hpost1=>exact⟨vs,by rw [←HST.out];rfl,by rw [←HST.out];exact HVS.out,HZ.out.bel⟩
   ·have hb:(x.1 == q)=false:=ine he
    rw [decide_eq_false he]at hst;have HST:=Lib.hid (show(l.drop (k+1)).find? (fun x=>decide (x.1=q))=Z from hst);clear hst he
    go_wp2_with (first
     | (refine qaa rfl 73 _ rfl b (off+k*8) 8 vs rfl HC.out ag_S sz_S HL.out ?_)
     | (refine qa3 (old:=zSlot.toArray) rfl 73 _ _ rfl wr rfl wr.heap.size rfl vs.toArray rfl rfl Z1.out Z2.out HO.out ?_)
     | (refine qa6 rfl 73 _ rfl wr.heap.size vs.toArray 73 rfl HB0.out _ Tryz.underlying73 rfl Z1.out ?_)
     | (go_at_fn g;(with_reducible refine CN2.out.mono ?_);rintro e w1 ⟨rfl,k1⟩;have k1:Bel _ w1:=k1;have H1:=Lib.hid (HA.out.belw k1);clear k1))
    go_roundw
    case rel=>exact⟨k+1,by omega,by go_num,Lib.hid H1.out.dropbox0,HST⟩
    case measure=>simp [intOf];omega
  ·have hkl:k=l.length:=by omega
   have hz:none=Z:=by have:=hx.out;rw [hkl,List.drop_length]at this;exact this
   subst hz;clear hx;have HA:=Lib.hid (hS.out.addbox zSlot.toArray 73);have HB0:=Lib.hid (HA.out.box 0 rfl);have HB1:=Lib.hid (HA.out.box 1 rfl);have HO1:=Lib.hid (show zSlot.toArray.all (·.oneCell')=true by simp [zSlot,Value.oneCell'])
   go_wp2_with (first
    | (refine qa6 rfl 73 _ rfl wr.heap.size zSlot.toArray 73 rfl HB0.out _ Tryz.underlying73 rfl ar_S ?_)
    | (refine qa8 rfl 73 _ _ rfl w0.heap.size zSlot.toArray zSlot.toArray 73 rfl rfl HB1.out ar_S rfl HO1.out ?_))
   have HZ:=Lib.hid (HA.out.setrowbox 1 rfl zSlot.toArray);refine bodyPost_ret (v:=.tuple #[.agg zSlot.toArray,.bool false]) ?hres2 rfl ?hpost2
   case hres2=>exact qb1 rfl rfl rfl (HZ.out.box 1 rfl) Tryz.underlying73 rfl ar_S
   case hpost2=>exact⟨zSlot,rfl,rfl,HZ.out.bel⟩
theorem mk_findS (A:Nat->Prop) (n:Nat) (v:Value) (l:List (Int × CV)) (q:Int) (wv w0:World) (hvb:Bel wv w0) (h:SlA A 8 (VSlot A n) wv v l) :
  Calls Tryz.prog 43 #[v,.int .i64 q,.func (.func 44) #[] #[]] w0 fun e w' => ∃vs,e=.returned (.tuple #[.agg vs.toArray,.bool (l.find? fun x=>decide (x.1=q)).isSome])/\AtS A n wv vs (l.find? fun x=>decide (x.1=q))/\Bel w0 w':=
 qn9 44 (enters_of Tryz.func44 (by kernel_rfl) rfl) cl_slot A n v l q wv w0 hvb h
end
end Go.Proofs.YtaaneecceiefoaaGreatDoor
