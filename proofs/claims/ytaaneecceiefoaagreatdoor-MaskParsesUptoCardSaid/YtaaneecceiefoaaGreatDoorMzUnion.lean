import Derived.Test.YtaaneecceiefoaaGreatDoorMzCov
import Derived.Test.YtaaneecceiefoaaGreatDoorMaVM
import Derived.Test.YtaaneecceiefoaaGreatDoorMaKeep
set_option maxRecDepth 100000
set_option maxHeartbeats 4000000
set_option linter.unusedVariables false
set_option linter.unusedSimpArgs false
namespace Go.Proofs.YtaaneecceiefoaaGreatDoor
open Go.RowKit Ma
def qoc (n:Nat):Prop := ∀(A:Nat->Prop) (v1 v2:Value) (a b:List PMask) (w:World),(∀b,A b->b<w.heap.size)->MaskD A n w v1 a->MaskD A n w v2 b->Wd 1000000000 n a->Wd 1000000000 n b->Calls Tryz.prog 39 #[v1,v2] w (qbm A n w (qeb n a b))
theorem qem (n:Nat) (IH:n ≠ 0->qoc n):qoc (n+1):=by
 intro A v1 v2 a b w0 hA ha hb hwa hwb;obtain⟨i1,hi1,hy0,hy1,hy2⟩:=info_parts qce;have HA0:=Lib.hid hA;have WA:=Lib.hid hwa;have WB:=Lib.hid hwb;obtain⟨p,c,rfl,hl,hcap,hel⟩:=ha;obtain⟨p2,c2,rfl,hl2,hcap2,hel2⟩:=hb;have EL:=Lib.hid hel;have EL2:=Lib.hid hel2;have V:=Lib.hid (show([]:List ME).map (·.x) ++ mrg (qeb n) (a.drop 0) (b.drop 0)=qeb (n+1) a b from rfl);generalize qeb (n+1) a b=Z at V;have hal:a.length<=1000000000:=hwa.1;have hbl:b.length<=1000000000:=hwb.1;have hS0:=Lib.hid (show ST w0 [medge (.slice none 0 0) []] [] w0 from(ST.start w0).nilrow 61 2);clear hel hcap hel2 hcap2 hA hwa hwb
 go_enter Tryz.func39,Tryz.ntmps39
 go_wp2
 go_loopw [5,6,7] (fun vo vj vk wr => ∃(j k:Nat) (L:List ME),j<=a.length/\k<=b.length/\vj=.int .i64 j/\vk=.int .i64 k/\Hid (ST w0 [medge vo L] [] wr)/\L.length<=j+k/\Hid (RowOK A w0.heap.size n vo L wr)/\Hid (L.map (·.x) ++ mrg (qeb n) (a.drop j) (b.drop k)=Z)) (fun _ vj vk _=>(a.length-(intOf vj).toNat)+(b.length-(intOf vk).toNat))
 case atStart=>exact⟨0,0,[],by omega,by omega,rfl,rfl,hS0,by simp,Lib.hid (RowOK.nil _ _ _ _ _),V⟩
 case round=>as_aux_lemma=>
  clear V hS0;obtain⟨j,k,L,hj,hk,rfl,rfl,hS,hLk,hO,hx⟩:=hrel;obtain⟨qo,co,hvo⟩:=qan (hS.out.row 0 rfl);dsimp only [medge]at hvo;subst hvo;have H0:=hS;have O0:=hO;clear hS hO;by_cases hj2:j<a.length
  ·by_cases hk2:k<b.length
   ·have hst:=hx.out
    rw [mrg_ab hj2 hk2]at hst;obtain⟨g,off,sv,rfl,hbs,hab,hc0,hc1,hd⟩:=EL.out j _ (List.getElem?_eq_getElem hj2);obtain⟨sp,sc,rfl⟩:=hd.form;have WX:=Lib.hid (WA.out.2 _ (List.getElem_mem hj2));have hji:(j:Int)<(a.length:Int):=by omega
    have hjn:((j:Int) == (a.length:Int))=false:=ine (by omega);obtain⟨g2,off2,sv2,rfl,hbs2,hab2,hd0,hd1,he⟩:=EL2.out k _ (List.getElem?_eq_getElem hk2);obtain⟨sq,sd,rfl⟩:=he.form;have WY:=Lib.hid (WB.out.2 _ (List.getElem_mem hk2));have hki:(k:Int)<(b.length:Int):=by omega
    have hkn:((k:Int) == (b.length:Int))=false:=ine (by omega);clear hx WA WB EL EL2 hab hab2;generalize a[j]=x at *;generalize b[k]=y at *;have HX:=Lib.hid (show MaskD A n w0 (.slice sp x.subs.length sc) x.subs from hd);have HY:=Lib.hid (show MaskD A n w0 (.slice sq y.subs.length sd) y.subs from he);clear hd he;by_cases h1:x.num<y.num
    ·rw [if_pos h1]at hst
     have HST:=Lib.hid hst;clear hst
     go_upto_region 10 with(fail)
     obtain⟨wd1,hwd⟩ : ∃wd1,wd1=wr.drew:=⟨_,rfl⟩;have Hwd1:=Lib.hid (show ST w0 _ _ wd1 by rw [hwd];exact H0.out.belw (Bel.refl _).drew);have Owd1:=Lib.hid (show RowOK A w0.heap.size n (.slice qo L.length co) L wd1 by rw [hwd];exact O0.out.bel (Bel.refl _).drew);have HWDwd1:=Lib.hid hwd;clear hwd;have eawd1:=Hwd1.out.bel.some hc0;have ebwd1:=Hwd1.out.bel.some hc1;have uawd1:=Hwd1.out.bel.some hd0;have ubwd1:=Hwd1.out.bel.some hd1;refine qae 20 (by kernel_rfl) (by kernel_rfl) HWDwd1.out ?_
     (simp only [List.take_succ_cons,List.take_zero,List.drop_succ_cons,List.drop_zero]);(repeat (first|((with_reducible refine wpStill_step (fun K hK=>?_));go_simp;(with_reducible refine hK _ ?_);clear hK K)|((with_reducible refine qaf ?_ ?_);(with_unfolding_all rfl);(simp only [Act.put,List.setIfInBounds_toArray,List.set_cons_zero,List.set_cons_succ]))));(with_reducible refine wpStill_nil ?_)
     have HB:=Lib.hid (Hwd1.out.belw ((Bel.refl wd1).alloc (.cells #[.int .i64 x.num,.slice sp x.subs.length sc] 61)));have OB:=Lib.hid (Owd1.out.bel ((Bel.refl wd1).alloc (.cells #[.int .i64 x.num,.slice sp x.subs.length sc] 61)));have EB:=Lib.hid (qes (A:=A) (N:=w0.heap.size) (v:=.slice qo L.length co) (e:=⟨x,sp,sc⟩) (HX.out.bel HB.out.bel))
     go_wp2_with (at_builtin;refine wpList_append_lies _ rfl _ _ 27 rfl w0.heap.size 61 i1 (.agg #[.int .i64 0,.slice none 0 0]) 2 32 Tryz.underlying27 hi1 hy0 hy1 hy2 rfl (by decide) _ L.length _ rfl (HB.out.row 0 rfl) ⟨wd1.heap.size,0,none⟩ 1 1 [.int .i64 x.num,.slice sp x.subs.length sc] rfl rfl (qau _ _ _) (by simp [Value.oneCell']) (by decide) (by unfold maxLen;omega) (by omega) HB.out.bel.size (wd1.heap.size+1) (by simp) ?_)
     intro g9 cap9 w9 hown hgrow hfr hlt9;have OO:=Lib.hid (RowOK.snoc (e:=⟨x,sp,sc⟩) (m:=L.length+1) (c:=cap9) OB.out HB.out HA0.out EB.out hgrow hfr (by simp));have HH:=Lib.hid (qah (e:=⟨x,sp,sc⟩) (HB.out.grow 0 rfl hgrow hown (qbc hfr (by simp))));clear hown hgrow hfr;go_wp2;go_roundw
     case rel=>exact⟨j+1,k,L ++ [⟨x,sp,sc⟩],by omega,by omega,by go_num,by go_num,Lib.hid HH.out,by rw [List.length_append,List.length_singleton];omega,OO,by simpa using HST⟩
     case measure=>simp [intOf];omega
    ·rw [if_neg h1]at hst
     have hn1:decide (x.num<y.num)=false:=by simpa using h1
     by_cases h2:y.num<x.num
     ·rw [if_pos h2]at hst
      have HST:=Lib.hid hst;clear hst h1
      go_upto_region 10 with(fail)
      obtain⟨wd1,hwd⟩ : ∃wd1,wd1=wr.drew:=⟨_,rfl⟩;have Hwd1:=Lib.hid (show ST w0 _ _ wd1 by rw [hwd];exact H0.out.belw (Bel.refl _).drew);have Owd1:=Lib.hid (show RowOK A w0.heap.size n (.slice qo L.length co) L wd1 by rw [hwd];exact O0.out.bel (Bel.refl _).drew);have HWDwd1:=Lib.hid hwd;clear hwd;have eawd1:=Hwd1.out.bel.some hc0;have ebwd1:=Hwd1.out.bel.some hc1;have uawd1:=Hwd1.out.bel.some hd0;have ubwd1:=Hwd1.out.bel.some hd1;refine qae 20 (by kernel_rfl) (by kernel_rfl) HWDwd1.out ?_
      (simp only [List.take_succ_cons,List.take_zero,List.drop_succ_cons,List.drop_zero]);(repeat (first|((with_reducible refine wpStill_step (fun K hK=>?_));go_simp;(with_reducible refine hK _ ?_);clear hK K)|((with_reducible refine qaf ?_ ?_);(with_unfolding_all rfl);(simp only [Act.put,List.setIfInBounds_toArray,List.set_cons_zero,List.set_cons_succ]))));(with_reducible refine wpStill_nil ?_)
      go_upto_region 13 with(fail)
      obtain⟨wd2,hwd⟩ : ∃wd2,wd2=wd1.drew:=⟨_,rfl⟩;have Hwd2:=Lib.hid (show ST w0 _ _ wd2 by rw [hwd];exact Hwd1.out.belw (Bel.refl _).drew);have Owd2:=Lib.hid (show RowOK A w0.heap.size n (.slice qo L.length co) L wd2 by rw [hwd];exact Owd1.out.bel (Bel.refl _).drew);have HWDwd2:=Lib.hid hwd;clear hwd;have eawd2:=Hwd2.out.bel.some hc0;have ebwd2:=Hwd2.out.bel.some hc1;have uawd2:=Hwd2.out.bel.some hd0;have ubwd2:=Hwd2.out.bel.some hd1;refine qae 15 (by kernel_rfl) (by kernel_rfl) HWDwd2.out ?_
      (simp only [List.take_succ_cons,List.take_zero,List.drop_succ_cons,List.drop_zero]);(repeat (first|((with_reducible refine wpStill_step (fun K hK=>?_));go_simp;(with_reducible refine hK _ ?_);clear hK K)|((with_reducible refine qaf ?_ ?_);(with_unfolding_all rfl);(simp only [Act.put,List.setIfInBounds_toArray,List.set_cons_zero,List.set_cons_succ]))));(with_reducible refine wpStill_nil ?_)
      have HB:=Lib.hid (Hwd2.out.belw ((Bel.refl wd2).alloc (.cells #[.int .i64 y.num,.slice sq y.subs.length sd] 61)));have OB:=Lib.hid (Owd2.out.bel ((Bel.refl wd2).alloc (.cells #[.int .i64 y.num,.slice sq y.subs.length sd] 61)));have EB:=Lib.hid (qes (A:=A) (N:=w0.heap.size) (v:=.slice qo L.length co) (e:=⟨y,sq,sd⟩) (HY.out.bel HB.out.bel))
      go_wp2_with (at_builtin;refine wpList_append_lies _ rfl _ _ 27 rfl w0.heap.size 61 i1 (.agg #[.int .i64 0,.slice none 0 0]) 2 32 Tryz.underlying27 hi1 hy0 hy1 hy2 rfl (by decide) _ L.length _ rfl (HB.out.row 0 rfl) ⟨wd2.heap.size,0,none⟩ 1 1 [.int .i64 y.num,.slice sq y.subs.length sd] rfl rfl (qau _ _ _) (by simp [Value.oneCell']) (by decide) (by unfold maxLen;omega) (by omega) HB.out.bel.size (wd2.heap.size+1) (by simp) ?_)
      intro g9 cap9 w9 hown hgrow hfr hlt9;have OO:=Lib.hid (RowOK.snoc (e:=⟨y,sq,sd⟩) (m:=L.length+1) (c:=cap9) OB.out HB.out HA0.out EB.out hgrow hfr (by simp));have HH:=Lib.hid (qah (e:=⟨y,sq,sd⟩) (HB.out.grow 0 rfl hgrow hown (qbc hfr (by simp))));clear hown hgrow hfr;go_wp2;go_roundw
      case rel=>exact⟨j,k+1,L ++ [⟨y,sq,sd⟩],by omega,by omega,by go_num,by go_num,Lib.hid HH.out,by rw [List.length_append,List.length_singleton];omega,OO,by simpa using HST⟩
      case measure=>simp [intOf];omega
     ·rw [if_neg h2]at hst
      have hn2:decide (y.num<x.num)=false:=by simpa using h2
      have hle1:x.num<=y.num:=by omega
      have hle2:y.num<=x.num:=by omega
      clear h1 h2
      go_upto_region 10 with(fail)
      obtain⟨wd1,hwd⟩ : ∃wd1,wd1=wr.drew:=⟨_,rfl⟩;have Hwd1:=Lib.hid (show ST w0 _ _ wd1 by rw [hwd];exact H0.out.belw (Bel.refl _).drew);have Owd1:=Lib.hid (show RowOK A w0.heap.size n (.slice qo L.length co) L wd1 by rw [hwd];exact O0.out.bel (Bel.refl _).drew);have HWDwd1:=Lib.hid hwd;clear hwd;have eawd1:=Hwd1.out.bel.some hc0;have ebwd1:=Hwd1.out.bel.some hc1;have uawd1:=Hwd1.out.bel.some hd0;have ubwd1:=Hwd1.out.bel.some hd1;refine qae 20 (by kernel_rfl) (by kernel_rfl) HWDwd1.out ?_
      (simp only [List.take_succ_cons,List.take_zero,List.drop_succ_cons,List.drop_zero]);(repeat (first|((with_reducible refine wpStill_step (fun K hK=>?_));go_simp;(with_reducible refine hK _ ?_);clear hK K)|((with_reducible refine qaf ?_ ?_);(with_unfolding_all rfl);(simp only [Act.put,List.setIfInBounds_toArray,List.set_cons_zero,List.set_cons_succ]))));(with_reducible refine wpStill_nil ?_)
      go_upto_region 13 with(fail)
      obtain⟨wd2,hwd⟩ : ∃wd2,wd2=wd1.drew:=⟨_,rfl⟩;have Hwd2:=Lib.hid (show ST w0 _ _ wd2 by rw [hwd];exact Hwd1.out.belw (Bel.refl _).drew);have Owd2:=Lib.hid (show RowOK A w0.heap.size n (.slice qo L.length co) L wd2 by rw [hwd];exact Owd1.out.bel (Bel.refl _).drew);have HWDwd2:=Lib.hid hwd;clear hwd;have eawd2:=Hwd2.out.bel.some hc0;have ebwd2:=Hwd2.out.bel.some hc1;have uawd2:=Hwd2.out.bel.some hd0;have ubwd2:=Hwd2.out.bel.some hd1;refine qae 15 (by kernel_rfl) (by kernel_rfl) HWDwd2.out ?_
      (simp only [List.take_succ_cons,List.take_zero,List.drop_succ_cons,List.drop_zero]);(repeat (first|((with_reducible refine wpStill_step (fun K hK=>?_));go_simp;(with_reducible refine hK _ ?_);clear hK K)|((with_reducible refine qaf ?_ ?_);(with_unfolding_all rfl);(simp only [Act.put,List.setIfInBounds_toArray,List.set_cons_zero,List.set_cons_succ]))));(with_reducible refine wpStill_nil ?_)
      cases hwx:whole x with
      | true=>
       have hp:joinF (qeb n) x y=.mk x.num []:=by unfold joinF;rw [hwx,Bool.true_or,if_pos rfl]
       rw [hp]at hst;obtain⟨q1,q2,q3⟩:=qd4 (whole_iff.1 hwx);have HST:=Lib.hid hst;clear hst hwx hp;have HAL:=Lib.hid (Hwd2.out.addbox #[.int .i64 x.num,.slice none 0 0] 61);have t0:=HAL.out.bel.some hc0;have t1:=HAL.out.bel.some hc1;have t2:=HAL.out.bel.some hd0;have t3:=HAL.out.bel.some hd1
       go_upto_region 7 with(fail)
       clear t0 t1 t2 t3 HAL;have HZ:=Lib.hid (Hwd2.out.addbox #[.int .i64 x.num,.slice none 0 0] 61);have OZ:=Lib.hid (Owd2.out.bel ((Bel.refl wd2).alloc (.cells #[.int .i64 x.num,.slice none 0 0] 61)));clear eawd2 ebwd2 uawd2 ubwd2;generalize hwz:World.alloc wd2 _=wz at HZ OZ ⊢;clear hwz;have y0:=HZ.out.cell 0 rfl 0;have y1:=HZ.out.cell 0 rfl 1;dsimp only at y0 y1;have HB:=Lib.hid (HZ.out.belw ((Bel.refl wz).alloc (.cells #[.int .i64 x.num,.slice none 0 0] 61)));have OB:=Lib.hid (OZ.out.bel ((Bel.refl wz).alloc (.cells #[.int .i64 x.num,.slice none 0 0] 61)));have EB:=Lib.hid ((MaskD.nil n _:MEok (Off A w0.heap.size (.slice qo L.length co)) n (wz.alloc (.cells #[.int .i64 x.num,.slice none 0 0] 61)) ⟨.mk x.num [],none,0⟩))
       go_wp2_with (at_builtin;refine wpList_append_lies _ rfl _ _ 27 rfl w0.heap.size 61 i1 (.agg #[.int .i64 0,.slice none 0 0]) 2 32 Tryz.underlying27 hi1 hy0 hy1 hy2 rfl (by decide) _ L.length _ rfl (HB.out.row 0 rfl) ⟨wz.heap.size,0,none⟩ 1 1 [.int .i64 x.num,.slice none 0 0] rfl rfl (qau _ _ _) (by simp [Value.oneCell']) (by decide) (by unfold maxLen;omega) (by omega) HB.out.bel.size (wz.heap.size+1) (by simp) ?_)
       intro g9 cap9 w9 hown hgrow hfr hlt9;have OO:=Lib.hid (RowOK.snoc (e:=⟨.mk x.num [],none,0⟩) (m:=L.length+1) (c:=cap9) OB.out HB.out HA0.out EB.out hgrow hfr (by simp));have HH:=Lib.hid (qah (e:=⟨.mk x.num [],none,0⟩) (HB.out.grow 0 rfl hgrow hown (qbc hfr (by simp))));clear hown hgrow hfr;go_wp2;go_roundw
       case rel=>exact⟨j+1,k+1,L ++ [⟨.mk x.num [],none,0⟩],by omega,by omega,by go_num,by go_num,Lib.hid HH.out.dropbox0,by rw [List.length_append,List.length_singleton];omega,OO,by simpa using HST⟩
       case measure=>simp [intOf];omega
      | false=>
       cases hwy:whole y with
       | true=>
        have hp:joinF (qeb n) x y=.mk x.num []:=by unfold joinF;rw [hwy,Bool.or_true,if_pos rfl]
        rw [hp]at hst;obtain⟨q1,q2,q3,q4⟩:=qe6 (qaz hwx);obtain⟨r1,r2,r3⟩:=qd4 (whole_iff.1 hwy);have HST:=Lib.hid hst;clear hst hwx hwy hp;have HAL:=Lib.hid (Hwd2.out.addbox #[.int .i64 x.num,.slice none 0 0] 61);have t0:=HAL.out.bel.some hc0;have t1:=HAL.out.bel.some hc1;have t2:=HAL.out.bel.some hd0;have t3:=HAL.out.bel.some hd1
        go_upto_region 7 with(fail)
        clear t0 t1 t2 t3 HAL;have HZ:=Lib.hid (Hwd2.out.addbox #[.int .i64 x.num,.slice none 0 0] 61);have OZ:=Lib.hid (Owd2.out.bel ((Bel.refl wd2).alloc (.cells #[.int .i64 x.num,.slice none 0 0] 61)));clear eawd2 ebwd2 uawd2 ubwd2;generalize hwz:World.alloc wd2 _=wz at HZ OZ ⊢;clear hwz;have y0:=HZ.out.cell 0 rfl 0;have y1:=HZ.out.cell 0 rfl 1;dsimp only at y0 y1;have HB:=Lib.hid (HZ.out.belw ((Bel.refl wz).alloc (.cells #[.int .i64 x.num,.slice none 0 0] 61)));have OB:=Lib.hid (OZ.out.bel ((Bel.refl wz).alloc (.cells #[.int .i64 x.num,.slice none 0 0] 61)));have EB:=Lib.hid ((MaskD.nil n _:MEok (Off A w0.heap.size (.slice qo L.length co)) n (wz.alloc (.cells #[.int .i64 x.num,.slice none 0 0] 61)) ⟨.mk x.num [],none,0⟩))
        go_wp2_with (at_builtin;refine wpList_append_lies _ rfl _ _ 27 rfl w0.heap.size 61 i1 (.agg #[.int .i64 0,.slice none 0 0]) 2 32 Tryz.underlying27 hi1 hy0 hy1 hy2 rfl (by decide) _ L.length _ rfl (HB.out.row 0 rfl) ⟨wz.heap.size,0,none⟩ 1 1 [.int .i64 x.num,.slice none 0 0] rfl rfl (qau _ _ _) (by simp [Value.oneCell']) (by decide) (by unfold maxLen;omega) (by omega) HB.out.bel.size (wz.heap.size+1) (by simp) ?_)
        intro g9 cap9 w9 hown hgrow hfr hlt9;have OO:=Lib.hid (RowOK.snoc (e:=⟨.mk x.num [],none,0⟩) (m:=L.length+1) (c:=cap9) OB.out HB.out HA0.out EB.out hgrow hfr (by simp));have HH:=Lib.hid (qah (e:=⟨.mk x.num [],none,0⟩) (HB.out.grow 0 rfl hgrow hown (qbc hfr (by simp))));clear hown hgrow hfr;go_wp2;go_roundw
        case rel=>exact⟨j+1,k+1,L ++ [⟨.mk x.num [],none,0⟩],by omega,by omega,by go_num,by go_num,Lib.hid HH.out.dropbox0,by rw [List.length_append,List.length_singleton];omega,OO,by simpa using HST⟩
        case measure=>simp [intOf];omega
       | false=>
        have hp:joinF (qeb n) x y=.mk x.num (qeb n x.subs y.subs):=by unfold joinF;rw [hwx,hwy,Bool.or_false,if_neg Bool.false_ne_true]
        rw [hp]at hst;obtain⟨q1,q2,q3,q4⟩:=qe6 (qaz hwx);obtain⟨r1,r2,r3,r4⟩:=qe6 (qaz hwy);have hn0:=HX.out.ne (qaz hwx);have CI:=Lib.hid (fun W v1 v2 (k:Bel w0 W) h1 h2=>IH hn0 A v1 v2 x.subs y.subs W (fun b hb=>Nat.lt_of_lt_of_le (HA0.out b hb) k.size) h1 h2 WX.out WY.out);generalize qeb n x.subs y.subs=M at CI hst;have HST:=Lib.hid hst;clear hst hwx hwy hp hn0 IH WX WY;have HAL:=Lib.hid (Hwd2.out.addbox #[.int .i64 x.num,.slice none 0 0] 61);have t0:=HAL.out.bel.some hc0;have t1:=HAL.out.bel.some hc1;have t2:=HAL.out.bel.some hd0;have t3:=HAL.out.bel.some hd1
        go_upto_region 6 with(fail)
        clear t0 t1 t2 t3 HAL;have H3:=Lib.hid (Hwd2.out.addbox #[.int .i64 x.num,.slice none 0 0] 61);have O3:=Lib.hid (Owd2.out.bel ((Bel.refl wd2).alloc (.cells #[.int .i64 x.num,.slice none 0 0] 61)));have K3:=Lib.hid ((Bel.refl wd2).alloc (.cells #[.int .i64 x.num,.slice none 0 0] 61));clear eawd2 ebwd2 uawd2 ubwd2;generalize hwz:World.alloc wd2 _=wz at H3 O3 K3 ⊢;clear hwz;have hwb:wd2.heap.size<=wd2.heap.size:=Nat.le_refl _;generalize hbg:wd2.heap.size=bg at H3 ⊢;rw [hbg]at hwb;have hwb2:wd2.heap.size<=bg:=Nat.le_of_eq hbg;clear hwb hbg;obtain⟨wd3,hwd⟩ : ∃wd3,wd3=wz.drew:=⟨_,rfl⟩;have Hwd3:=Lib.hid (show ST w0 _ _ wd3 by rw [hwd];exact H3.out.belw (Bel.refl _).drew);have Owd3:=Lib.hid (show RowOK A w0.heap.size n (.slice qo L.length co) L wd3 by rw [hwd];exact O3.out.bel (Bel.refl _).drew);have HWDwd3:=Lib.hid hwd;clear hwd;have eawd3:=Hwd3.out.bel.some hc0;have ebwd3:=Hwd3.out.bel.some hc1;have uawd3:=Hwd3.out.bel.some hd0;have ubwd3:=Hwd3.out.bel.some hd1;refine qae 10 (by kernel_rfl) (by kernel_rfl) HWDwd3.out ?_
        (simp only [List.take_succ_cons,List.take_zero,List.drop_succ_cons,List.drop_zero]);(repeat (first|((with_reducible refine wpStill_step (fun K hK=>?_));go_simp;(with_reducible refine hK _ ?_);clear hK K)|((with_reducible refine qaf ?_ ?_);(with_unfolding_all rfl);(simp only [Act.put,List.setIfInBounds_toArray,List.set_cons_zero,List.set_cons_succ]))));(with_reducible refine wpStill_nil ?_)
        go_upto_region 7 with(go_at_call 39;(with_reducible refine(CI.out _ _ _ Hwd3.out.bel (HX.out.bel Hwd3.out.bel) (HY.out.bel Hwd3.out.bel)).mono ?_);rintro e w4 ⟨mv,rfl,hmd,k4⟩;have k4:Bel _ w4:=k4;obtain⟨mp,mc,hmv⟩:=hmd.form;subst hmv;have H4:=Lib.hid (Hwd3.out.belw k4);have K4:=Lib.hid (Bel.of (show Bel wd2 wd3 by rw [HWDwd3.out];exact K3.out.drew) k4);have MD4:=Lib.hid hmd;have y0:=H4.out.cell 0 rfl 0;have y1:=H4.out.cell 0 rfl 1;have yf1:=H4.out.frz 0 rfl 1;dsimp only at y0 y1 yf1;clear k4 hmd)
        have HZ:=Lib.hid (show ST w0 [medge (.slice qo L.length co) L] [⟨bg,#[.int .i64 x.num,.slice mp M.length mc],61⟩] _ from H4.out.setbox 0 rfl 1 (.slice mp M.length mc));have hbl:w0.heap.size<=bg/\bg<wd3.heap.size:=⟨(Hwd3.out.boxlt 0 rfl).1,(Hwd3.out.boxlt 0 rfl).2⟩;have hgr:=qb2 w4 bg 1 (.slice mp M.length mc);have OZ:=Lib.hid (show RowOK A w0.heap.size n (.slice qo L.length co) L _ from Owd2.out.bel (qbf (o:=1) (v:=.slice mp M.length mc) K4.out hwb2))
        have MZ:=Lib.hid (MaskD.weak (A':=Off A w0.heap.size (.slice qo L.length co)) (MD4.out.kept (Keep.grown hgr (fun b hb e=>by
         have e2:b=bg:=by injection e
         rcases hb with hb|hb
         ·have:=HA0.out b hb
          omega
         ·omega))) (fun b hb _=>qcv Hwd3.out hb))
        clear hgr y0 y1 yf1 eawd3 ebwd3 uawd3 ubwd3;generalize hwz:World.setCell _ _ _=wz2 at HZ OZ MZ ⊢;clear hwz;have y0:=HZ.out.cell 0 rfl 0;have y1:=HZ.out.cell 0 rfl 1;dsimp only at y0 y1;have HB:=Lib.hid (HZ.out.belw ((Bel.refl wz2).alloc (.cells #[.int .i64 x.num,.slice mp M.length mc] 61)));have OB:=Lib.hid (OZ.out.bel ((Bel.refl wz2).alloc (.cells #[.int .i64 x.num,.slice mp M.length mc] 61)));have EB:=Lib.hid ((MaskD.bel MZ.out ((Bel.refl wz2).alloc (.cells #[.int .i64 x.num,.slice mp M.length mc] 61)):MEok (Off A w0.heap.size (.slice qo L.length co)) n (wz2.alloc (.cells #[.int .i64 x.num,.slice mp M.length mc] 61)) ⟨.mk x.num M,mp,mc⟩))
        go_wp2_with (at_builtin;refine wpList_append_lies _ rfl _ _ 27 rfl w0.heap.size 61 i1 (.agg #[.int .i64 0,.slice none 0 0]) 2 32 Tryz.underlying27 hi1 hy0 hy1 hy2 rfl (by decide) _ L.length _ rfl (HB.out.row 0 rfl) ⟨wz2.heap.size,0,none⟩ 1 1 [.int .i64 x.num,.slice mp M.length mc] rfl rfl (qau _ _ _) (by simp [Value.oneCell']) (by decide) (by unfold maxLen;omega) (by omega) HB.out.bel.size (wz2.heap.size+1) (by simp) ?_)
        intro g9 cap9 w9 hown hgrow hfr hlt9;have OO:=Lib.hid (RowOK.snoc (e:=⟨.mk x.num M,mp,mc⟩) (m:=L.length+1) (c:=cap9) OB.out HB.out HA0.out EB.out hgrow hfr (by simp));have HH:=Lib.hid (qah (e:=⟨.mk x.num M,mp,mc⟩) (HB.out.grow 0 rfl hgrow hown (qbc hfr (by simp))));clear hown hgrow hfr;go_wp2;go_roundw
        case rel=>exact⟨j+1,k+1,L ++ [⟨.mk x.num M,mp,mc⟩],by omega,by omega,by go_num,by go_num,Lib.hid HH.out.dropbox0,by rw [List.length_append,List.length_singleton];omega,OO,by simpa using HST⟩
        case measure=>simp [intOf];omega
   ·have hk3:k=b.length:=by omega
    subst hk3;have hst:=hx.out;rw [mrg_a hj2 (Nat.le_refl _)]at hst;obtain⟨g,off,sv,rfl,hbs,hab,hc0,hc1,hd⟩:=EL.out j _ (List.getElem?_eq_getElem hj2);obtain⟨sp,sc,rfl⟩:=hd.form;have WX:=Lib.hid (WA.out.2 _ (List.getElem_mem hj2));have hji:(j:Int)<(a.length:Int):=by omega
    have hjn:((j:Int) == (a.length:Int))=false:=ine (by omega);have HST:=Lib.hid hst;clear hx WA EL hab hst;generalize a[j]=x at *;have HX:=Lib.hid (show MaskD A n w0 (.slice sp x.subs.length sc) x.subs from hd);clear hd
    go_upto_region 10 with(fail)
    obtain⟨wd1,hwd⟩ : ∃wd1,wd1=wr.drew:=⟨_,rfl⟩;have Hwd1:=Lib.hid (show ST w0 _ _ wd1 by rw [hwd];exact H0.out.belw (Bel.refl _).drew);have Owd1:=Lib.hid (show RowOK A w0.heap.size n (.slice qo L.length co) L wd1 by rw [hwd];exact O0.out.bel (Bel.refl _).drew);have HWDwd1:=Lib.hid hwd;clear hwd;have eawd1:=Hwd1.out.bel.some hc0;have ebwd1:=Hwd1.out.bel.some hc1;refine qae 20 (by kernel_rfl) (by kernel_rfl) HWDwd1.out ?_
    (simp only [List.take_succ_cons,List.take_zero,List.drop_succ_cons,List.drop_zero]);(repeat (first|((with_reducible refine wpStill_step (fun K hK=>?_));go_simp;(with_reducible refine hK _ ?_);clear hK K)|((with_reducible refine qaf ?_ ?_);(with_unfolding_all rfl);(simp only [Act.put,List.setIfInBounds_toArray,List.set_cons_zero,List.set_cons_succ]))));(with_reducible refine wpStill_nil ?_)
    have HB:=Lib.hid (Hwd1.out.belw ((Bel.refl wd1).alloc (.cells #[.int .i64 x.num,.slice sp x.subs.length sc] 61)));have OB:=Lib.hid (Owd1.out.bel ((Bel.refl wd1).alloc (.cells #[.int .i64 x.num,.slice sp x.subs.length sc] 61)));have EB:=Lib.hid (qes (A:=A) (N:=w0.heap.size) (v:=.slice qo L.length co) (e:=⟨x,sp,sc⟩) (HX.out.bel HB.out.bel))
    go_wp2_with (at_builtin;refine wpList_append_lies _ rfl _ _ 27 rfl w0.heap.size 61 i1 (.agg #[.int .i64 0,.slice none 0 0]) 2 32 Tryz.underlying27 hi1 hy0 hy1 hy2 rfl (by decide) _ L.length _ rfl (HB.out.row 0 rfl) ⟨wd1.heap.size,0,none⟩ 1 1 [.int .i64 x.num,.slice sp x.subs.length sc] rfl rfl (qau _ _ _) (by simp [Value.oneCell']) (by decide) (by unfold maxLen;omega) (by omega) HB.out.bel.size (wd1.heap.size+1) (by simp) ?_)
    intro g9 cap9 w9 hown hgrow hfr hlt9;have OO:=Lib.hid (RowOK.snoc (e:=⟨x,sp,sc⟩) (m:=L.length+1) (c:=cap9) OB.out HB.out HA0.out EB.out hgrow hfr (by simp));have HH:=Lib.hid (qah (e:=⟨x,sp,sc⟩) (HB.out.grow 0 rfl hgrow hown (qbc hfr (by simp))));clear hown hgrow hfr;go_wp2;go_roundw
    case rel=>exact⟨j+1,b.length,L ++ [⟨x,sp,sc⟩],by omega,by omega,by go_num,by go_num,Lib.hid HH.out,by rw [List.length_append,List.length_singleton];omega,OO,by simpa using HST⟩
    case measure=>simp [intOf];omega
  ·have hj3:j=a.length:=by omega
   subst hj3;by_cases hk2:k<b.length
   ·have hst:=hx.out
    rw [mrg_b (Nat.le_refl _) hk2]at hst;obtain⟨g2,off2,sv2,rfl,hbs2,hab2,hd0,hd1,he⟩:=EL2.out k _ (List.getElem?_eq_getElem hk2);obtain⟨sq,sd,rfl⟩:=he.form;have WY:=Lib.hid (WB.out.2 _ (List.getElem_mem hk2));have hki:(k:Int)<(b.length:Int):=by omega
    have hkn:((k:Int) == (b.length:Int))=false:=ine (by omega);have HST:=Lib.hid hst;clear hx WB EL2 hab2 hst;generalize b[k]=y at *;have HY:=Lib.hid (show MaskD A n w0 (.slice sq y.subs.length sd) y.subs from he);clear he
    go_upto_region 10 with(fail)
    obtain⟨wd1,hwd⟩ : ∃wd1,wd1=wr.drew:=⟨_,rfl⟩;have Hwd1:=Lib.hid (show ST w0 _ _ wd1 by rw [hwd];exact H0.out.belw (Bel.refl _).drew);have Owd1:=Lib.hid (show RowOK A w0.heap.size n (.slice qo L.length co) L wd1 by rw [hwd];exact O0.out.bel (Bel.refl _).drew);have HWDwd1:=Lib.hid hwd;clear hwd;have uawd1:=Hwd1.out.bel.some hd0;have ubwd1:=Hwd1.out.bel.some hd1;refine qae 20 (by kernel_rfl) (by kernel_rfl) HWDwd1.out ?_
    (simp only [List.take_succ_cons,List.take_zero,List.drop_succ_cons,List.drop_zero]);(repeat (first|((with_reducible refine wpStill_step (fun K hK=>?_));go_simp;(with_reducible refine hK _ ?_);clear hK K)|((with_reducible refine qaf ?_ ?_);(with_unfolding_all rfl);(simp only [Act.put,List.setIfInBounds_toArray,List.set_cons_zero,List.set_cons_succ]))));(with_reducible refine wpStill_nil ?_)
    go_upto_region 13 with(fail)
    obtain⟨wd2,hwd⟩ : ∃wd2,wd2=wd1.drew:=⟨_,rfl⟩;have Hwd2:=Lib.hid (show ST w0 _ _ wd2 by rw [hwd];exact Hwd1.out.belw (Bel.refl _).drew);have Owd2:=Lib.hid (show RowOK A w0.heap.size n (.slice qo L.length co) L wd2 by rw [hwd];exact Owd1.out.bel (Bel.refl _).drew);have HWDwd2:=Lib.hid hwd;clear hwd;have uawd2:=Hwd2.out.bel.some hd0;have ubwd2:=Hwd2.out.bel.some hd1;refine qae 15 (by kernel_rfl) (by kernel_rfl) HWDwd2.out ?_
    (simp only [List.take_succ_cons,List.take_zero,List.drop_succ_cons,List.drop_zero]);(repeat (first|((with_reducible refine wpStill_step (fun K hK=>?_));go_simp;(with_reducible refine hK _ ?_);clear hK K)|((with_reducible refine qaf ?_ ?_);(with_unfolding_all rfl);(simp only [Act.put,List.setIfInBounds_toArray,List.set_cons_zero,List.set_cons_succ]))));(with_reducible refine wpStill_nil ?_)
    have HB:=Lib.hid (Hwd2.out.belw ((Bel.refl wd2).alloc (.cells #[.int .i64 y.num,.slice sq y.subs.length sd] 61)));have OB:=Lib.hid (Owd2.out.bel ((Bel.refl wd2).alloc (.cells #[.int .i64 y.num,.slice sq y.subs.length sd] 61)));have EB:=Lib.hid (qes (A:=A) (N:=w0.heap.size) (v:=.slice qo L.length co) (e:=⟨y,sq,sd⟩) (HY.out.bel HB.out.bel))
    go_wp2_with (at_builtin;refine wpList_append_lies _ rfl _ _ 27 rfl w0.heap.size 61 i1 (.agg #[.int .i64 0,.slice none 0 0]) 2 32 Tryz.underlying27 hi1 hy0 hy1 hy2 rfl (by decide) _ L.length _ rfl (HB.out.row 0 rfl) ⟨wd2.heap.size,0,none⟩ 1 1 [.int .i64 y.num,.slice sq y.subs.length sd] rfl rfl (qau _ _ _) (by simp [Value.oneCell']) (by decide) (by unfold maxLen;omega) (by omega) HB.out.bel.size (wd2.heap.size+1) (by simp) ?_)
    intro g9 cap9 w9 hown hgrow hfr hlt9;have OO:=Lib.hid (RowOK.snoc (e:=⟨y,sq,sd⟩) (m:=L.length+1) (c:=cap9) OB.out HB.out HA0.out EB.out hgrow hfr (by simp));have HH:=Lib.hid (qah (e:=⟨y,sq,sd⟩) (HB.out.grow 0 rfl hgrow hown (qbc hfr (by simp))));clear hown hgrow hfr;go_wp2;go_roundw
    case rel=>exact⟨a.length,k+1,L ++ [⟨y,sq,sd⟩],by omega,by omega,by go_num,by go_num,Lib.hid HH.out,by rw [List.length_append,List.length_singleton];omega,OO,by simpa using HST⟩
    case measure=>simp [intOf];omega
   ·have hk3:k=b.length:=by omega
    subst hk3;have hz:L.map (·.x)=Z:=by have:=hx.out;rw [List.drop_length,List.drop_length,qn7]at this;simpa using this
    have HR:=Lib.hid (qd3 H0.out O0.out (by omega) hz);clear hx;go_wp2;go_ret;exact⟨_,rfl,HR.out,H0.out.bel⟩
theorem qmc : ∀n:Nat,qoc (n+1)
 | 0=>qem 0 (fun h=>absurd rfl h)
 | n+1=>qem (n+1) (fun _=>qmc n)
end Go.Proofs.YtaaneecceiefoaaGreatDoor
