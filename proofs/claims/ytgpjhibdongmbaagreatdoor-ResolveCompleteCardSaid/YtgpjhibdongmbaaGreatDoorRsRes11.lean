import Derived.Test.YtgpjhibdongmbaaGreatDoorCkMl
import Derived.Test.YtgpjhibdongmbaaGreatDoorRsRes9
set_option maxRecDepth 100000
set_option maxHeartbeats 4000000
set_option linter.unusedVariables false
set_option linter.unusedSimpArgs false
namespace Go.Proofs.YtgpjhibdongmbaaGreatDoor
section
open Go.RowKit Ck Rs
theorem rs_Text (w r:PPlan) (p1 p2 p3 p4:Option Addr) (c1 c2 c3 c4:Nat) (v:Value) (l:List PAdapt) (W:World) (hG:Pl w r p1 p2 p3 p4 c1 c2 c3 c4 W) (hP:PT W) (hv:Sv 4 VAdapt W v l) (hr:inRng l) (hB:(textR w r l).length<=1000000000) :
  Calls Tryz.prog 23 #[.agg #[.slice p1 w.progs.length c1,.slice p2 w.enums.length c2],.agg #[.slice p3 r.progs.length c3,.slice p4 r.enums.length c4],v] W fun e' w'=>e'=.returned (.string (S (textR w r l)))/\Bel W w':=by
 obtain⟨q,c,rfl,hl,hcap,hel⟩:=hv;have EL:=Lib.hid hel;have HR:=Lib.hid hr;have V:=Lib.hid (show [] ++ textR w r (l.drop 0)=textR w r l from rfl);obtain⟨T,hT⟩ : ∃T,T=textR w r l:=⟨_,rfl⟩;rw [←hT]at V hB ⊢;obtain⟨W2,hW2⟩ : ∃W2,W2=((W.alloc (.cells #[.slice p1 w.progs.length c1,.slice p2 w.enums.length c2] 25)).alloc (.cells #[.slice p3 r.progs.length c3,.slice p4 r.enums.length c4] 25)):=⟨_,rfl⟩;have hsz2:W2.heap.size=W.heap.size+1+1:=by rw [hW2];simp only [World.size_alloc]
 have hbl:Bel W W2:=by rw [hW2];exact((Bel.refl W).alloc _).alloc _
 have hT2:=((ST.start W).addbox #[.slice p1 w.progs.length c1,.slice p2 w.enums.length c2] 25).addbox #[.slice p3 r.progs.length c3,.slice p4 r.enums.length c4] 25;simp only [World.size_alloc]at hT2;rw [←hW2]at hT2;have K4:=Lib.hid (fun W4 (k:Bel W2 W4)=>show W4.cell? ⟨W.heap.size,0,none⟩=some (.slice p1 w.progs.length c1)/\W4.cell? ⟨W.heap.size,1,none⟩=some (.slice p2 w.enums.length c2)/\W4.cell? ⟨W.heap.size+1,0,none⟩=some (.slice p3 r.progs.length c3)/\W4.cell? ⟨W.heap.size+1,1,none⟩=some (.slice p4 r.enums.length c4)from⟨(hT2.belw k).cell 1 rfl 0,(hT2.belw k).cell 1 rfl 1,(hT2.belw k).cell 0 rfl 0,(hT2.belw k).cell 0 rfl 1⟩);have CI:=Lib.hid (fun WW (n:Int) (k:Bel W2 WW) (h:inI n)=>md_Itoa n WW (hP.bel (Bel.of hbl k)) h.1 h.2);have CW:=Lib.hid (fun WW (i:Int) (k:Bel W2 WW)=>rs_name w p1 p2 c1 c2 i WW ⟨_,_,rfl,hG.g0.bel VProg.stays (Bel.of hbl k),hG.g1.bel VEnum.stays (Bel.of hbl k)⟩);have CR:=Lib.hid (fun WW (i:Int) (k:Bel W2 WW)=>rs_name r p3 p4 c3 c4 i WW ⟨_,_,rfl,hG.g2.bel VProg.stays (Bel.of hbl k),hG.g3.bel VEnum.stays (Bel.of hbl k)⟩);have hS0:=Lib.hid (show TS W2 W2.heap.size [] [] _ from⟨Lib.IsBuilderF.of (Lib.fresh_isBuilder 70 5 W2),(Bel.refl W2).alloc _,fun x hx=>by cases hx⟩);rw [hsz2,hW2]at hS0;have HBL:=Lib.hid hbl;have HS2:=Lib.hid hsz2;rw [hW2]at K4 CI CW CR HBL HS2;clear hel hG hP hr hT hbl hT2 hsz2 hW2 W2
 go_enter Tryz.func23,Tryz.ntmps23
 go_wp2;obtain⟨W2,hW2⟩ : ∃W2,W2=((W.alloc (.cells #[.slice p1 w.progs.length c1,.slice p2 w.enums.length c2] 25)).alloc (.cells #[.slice p3 r.progs.length c3,.slice p4 r.enums.length c4] 25)):=⟨_,rfl⟩
 simp only [←hW2]at hS0 K4 CI CW CR HBL HS2 ⊢;clear hW2
 go_loopw [16] (fun i wr => ∃(k:Nat) (acc:Str),k<=l.length/\i=.int .i64 k/\Hid (TS W2 (W.heap.size+1+1) acc [] wr)/\Hid (acc ++ textR w r (l.drop k)=T)) (fun i _=>l.length-(intOf i).toNat)
 case atStart=>exact⟨0,[],by omega,rfl,hS0,V⟩
 case round=>as_aux_lemma=>
  clear hS0 V;obtain⟨k,acc,hk,rfl,hTS,hx⟩:=hrel;have hblt:W.heap.size+1+1<wr.heap.size:=hTS.out.lt;by_cases hlt:k<l.length
  ·have hki:(k:Int)<(l.length:Int):=by omega
   have hg:=List.getElem?_eq_getElem hlt;have hbd:=HR.out _ (List.getElem_mem hlt);obtain⟨b,off,rfl,hbs,vs,hce,hvs⟩:=EL.out k _ hg;obtain⟨aq,lq,ac,kc,rfl,hsa,hsl,_,_⟩:=hvs.form;have hx1:=Lib.hid (show(acc ++ lineP w r l[k]) ++ ((l[k]).acts.flatMap actT ++ ((l[k]).lacks.flatMap lackT ++ textR w r (l.drop (k+1))))=T by rw [←hx.out,List.drop_eq_getElem_cons hlt,qfe];simp only [List.append_assoc]);clear hx;generalize l[k]=d at *;have kr:=Bel.of HBL.out hTS.out.2.1;have e0:=kr.some (hce 0 _ rfl);have e1:=kr.some (hce 1 _ rfl);have e2:=kr.some (hce 2 _ rfl);have e3:=kr.some (hce 3 _ rfl);rw [Nat.add_zero]at e0;obtain⟨_,_,he,_,_,hem⟩:=hsa;cases he;obtain⟨_,_,he,_,_,hek⟩:=hsl;cases he;have ELM:=Lib.hid hem;have ELK:=Lib.hid hek;have HBm:=Lib.hid hbd.1;have HBk:=Lib.hid hbd.2;clear hg hce hem hek hbd kr EL HR;have HA:=Lib.hid (hTS.out.addb #[.int .i64 d.w,.int .i64 d.r,.slice aq d.acts.length ac,.slice lq d.lacks.length kc] 44 (by decide));clear hTS
   go_upto_region 5 with(fail)
   clear e0 e1 e2 e3;obtain⟨wd,hwd⟩ : ∃wd,wd=(wr.alloc (.cells #[.int .i64 d.w,.int .i64 d.r,.slice aq d.acts.length ac,.slice lq d.lacks.length kc] 44)).drew:=⟨_,rfl⟩;have HD:=Lib.hid (show TS _ _ _ _ wd by rw [hwd];exact HA.out.bel (Bel.refl _).drew);have HWD:=Lib.hid hwd;clear hwd HA;have SS:=Lib.hid (fun(acc:Str) (W4:World) (hs:TS W2 (W.heap.size+1+1) acc [(wr.heap.size,#[.int .i64 d.w,.int .i64 d.r,.slice aq d.acts.length ac,.slice lq d.lacks.length kc],44)] W4)=>show(W4.cell? ⟨W.heap.size,0,none⟩=some (.slice p1 w.progs.length c1)/\W4.cell? ⟨W.heap.size,1,none⟩=some (.slice p2 w.enums.length c2)/\W4.cell? ⟨W.heap.size+1,0,none⟩=some (.slice p3 r.progs.length c3)/\W4.cell? ⟨W.heap.size+1,1,none⟩=some (.slice p4 r.enums.length c4))/\W4.cell? ⟨wr.heap.size,0,none⟩=some (.int .i64 d.w)/\W4.cell? ⟨wr.heap.size,1,none⟩=some (.int .i64 d.r)from⟨K4.out _ hs.2.1,hs.cell 0 rfl 0,hs.cell 0 rfl 1⟩);have CN1:=Lib.hid (CW.out wd d.w HD.out.2.1);have CN2:=Lib.hid (fun WW (k:TS W2 (W.heap.size+1+1) acc [(wr.heap.size,#[.int .i64 d.w,.int .i64 d.r,.slice aq d.acts.length ac,.slice lq d.lacks.length kc],44)] WW)=>CR.out WW d.r k.2.1);have HH:=Lib.hid (show S (nameR w d.w) ++ (⟨#[32,45,62,32]⟩:ByteArray) ++ S (nameR r d.r) ++ (⟨#[10]⟩:ByteArray)=S (lineP w r d)by unfold lineP;simp only [←S_app];rfl);have hhl:(lineP w r d).length=(nameR w d.w).length+4+(nameR r d.r).length+1:=by unfold lineP;simp only [List.length_append,List.length_cons,List.length_nil]
   have hal:acc.length+(lineP w r d).length<=1000000000:=by
    have:=congrArg List.length hx1.out;simp only [List.length_append]at this;omega
   generalize lineP w r d=HT at hx1 HH hal hhl;generalize nameR w d.w=NW at CN1 HH hhl;generalize nameR r d.r=NR at CN2 HH hhl;have s1:=qaj NW;have s2:=qaj NR;have q3 : ¬(9223372036854775807<(S NW).size+4):=by omega
   have q6 : ¬(9223372036854775807<(S NW).size+4+(S NR).size):=by omega
   have q7 : ¬(9223372036854775807<(S NW).size+4+(S NR).size+1):=by omega
   clear s1 s2;refine qfj (fun W4=>(W4.cell? ⟨W.heap.size,0,none⟩=some (.slice p1 w.progs.length c1)/\W4.cell? ⟨W.heap.size,1,none⟩=some (.slice p2 w.enums.length c2)/\W4.cell? ⟨W.heap.size+1,0,none⟩=some (.slice p3 r.progs.length c3)/\W4.cell? ⟨W.heap.size+1,1,none⟩=some (.slice p4 r.enums.length c4))/\W4.cell? ⟨wr.heap.size,0,none⟩=some (.int .i64 d.w)/\W4.cell? ⟨wr.heap.size,1,none⟩=some (.int .i64 d.r)) [(0,true),(1,true),(2,true),(5,true),(6,true),(7,true),(3,false),(4,true),(8,false)] 9 (by kernel_rfl) (by kernel_rfl) HWD.out (SS.out _ _ HD.out) ?_;simp only [qd0,List.getElem?_cons_zero,List.getElem?_cons_succ]
   (with_reducible refine qbd (v:=?vv751) (by with_unfolding_all rfl) (fun W hW=>?hy751) ?hr751);(case hy751=>((try dsimp only at hW);go_simp;(all_goals with_reducible rfl)));(simp only [Act.put,List.setIfInBounds_toArray,List.set_cons_zero,List.set_cons_succ])
   (with_reducible refine qbd (v:=?vv752) (by with_unfolding_all rfl) (fun W hW=>?hy752) ?hr752);(case hy752=>((try dsimp only at hW);go_simp;(all_goals with_reducible rfl)));(simp only [Act.put,List.setIfInBounds_toArray,List.set_cons_zero,List.set_cons_succ])
   (with_reducible refine qbd (v:=?vv753) (by with_unfolding_all rfl) (fun W hW=>?hy753) ?hr753);(case hy753=>((try dsimp only at hW);go_simp;(all_goals with_reducible rfl)));(simp only [Act.put,List.setIfInBounds_toArray,List.set_cons_zero,List.set_cons_succ])
   (with_reducible refine qbd (v:=?vv754) (by with_unfolding_all rfl) (fun W hW=>?hy754) ?hr754);(case hy754=>((try dsimp only at hW);go_simp;(all_goals with_reducible rfl)));(simp only [Act.put,List.setIfInBounds_toArray,List.set_cons_zero,List.set_cons_succ])
   (with_reducible refine qbd (v:=?vv755) (by with_unfolding_all rfl) (fun W hW=>?hy755) ?hr755);(case hy755=>((try dsimp only at hW);go_simp;(all_goals with_reducible rfl)));(simp only [Act.put,List.setIfInBounds_toArray,List.set_cons_zero,List.set_cons_succ])
   (with_reducible refine qbd (v:=?vv756) (by with_unfolding_all rfl) (fun W hW=>?hy756) ?hr756);(case hy756=>((try dsimp only at hW);go_simp;(all_goals with_reducible rfl)));(simp only [Act.put,List.setIfInBounds_toArray,List.set_cons_zero,List.set_cons_succ])
   with_reducible refine qeq (fun K hK=>?_)
   go_simp
   with_reducible refine CN1.out.mono ?_
   rintro e w1 ⟨rfl,k1⟩;have H1:=Lib.hid (HD.out.bel k1);refine hK _ _ (SS.out _ _ H1.out) ?_;clear hK K HD CN1 k1
   (try simp only [Act.put,List.setIfInBounds_toArray,List.set_cons_zero,List.set_cons_succ])
   (with_reducible refine qbd (v:=?vv757) (by with_unfolding_all rfl) (fun W hW=>?hy757) ?hr757);(case hy757=>((try dsimp only at hW);go_simp;(all_goals with_reducible rfl)));(simp only [Act.put,List.setIfInBounds_toArray,List.set_cons_zero,List.set_cons_succ])
   with_reducible refine qeq (fun K hK=>?_)
   go_simp
   with_reducible refine(CN2.out _ H1.out).mono ?_
   rintro e w2 ⟨rfl,k2⟩;have H2:=Lib.hid (H1.out.bel k2);refine hK _ _ (SS.out _ _ H2.out) ?_;clear hK K H1 CN2 k2
   (try simp only [Act.put,List.setIfInBounds_toArray,List.set_cons_zero,List.set_cons_succ])
   refine ord_nil ?_;simp only [List.drop_succ_cons,List.drop_zero];have s1:=qaj NW;have s2:=qaj NR;have WR:=Lib.hid (H2.out.write HT (by omega));rw [←HH.out]at WR;clear H2
   go_upto_region 6 with(go_at_call 39;(with_reducible refine WR.out.mono ?_);rintro e w3 ⟨rfl,h3⟩)
   have H3:=Lib.hid h3;have a2:w3.cell? ⟨wr.heap.size,2,none⟩=some (.slice aq d.acts.length ac):=h3.cell 0 rfl 2;clear h3 WR s1 s2 HH q3 q6 q7;have hx2:=Lib.hid (show(acc ++ HT) ++ (d.acts.drop 0).flatMap actT ++ (d.lacks.flatMap lackT ++ textR w r (l.drop (k+1)))=T by rw [←hx1.out];simp);obtain⟨RT,hRT⟩ : ∃RT,RT=d.lacks.flatMap lackT ++ textR w r (l.drop (k+1)):=⟨_,rfl⟩;rw [←hRT]at hx2;have HRT:=Lib.hid hRT;clear hRT
   go_upto_region 7 with(fail)
   generalize wr.heap.size=db at H3 ⊢;clear a2 SS CW CR
   go_loopw [35] (fun i2 wr => ∃(j:Nat) (acc2:Str),j<=d.acts.length/\i2=.int .i64 j/\Hid (TS W2 (W.heap.size+1+1) acc2 [(db,#[.int .i64 d.w,.int .i64 d.r,.slice aq d.acts.length ac,.slice lq d.lacks.length kc],44)] wr)/\Hid (acc2 ++ (d.acts.drop j).flatMap actT ++ RT=T)) (fun i2 _=>d.acts.length-(intOf i2).toNat)
   case atStart=>exact⟨0,acc ++ HT,by omega,rfl,H3,hx2⟩
   case round=>as_aux_lemma=>
    clear H3 hx2 hx1 hal hblt;obtain⟨j,acc2,hj,rfl,hTS,hx⟩:=hrel;have hblt:W.heap.size+1+1<wr.heap.size:=hTS.out.lt;by_cases hlt2:j<d.acts.length
    ·have hji:(j:Int)<(d.acts.length:Int):=by omega
     have hg2:=List.getElem?_eq_getElem hlt2;have hbm:=HBm.out _ (List.getElem_mem hlt2);obtain⟨bm,om,rfl,hbsm,vs,hcem,hvsm⟩:=ELM.out j _ hg2;have hx1:=Lib.hid (show acc2 ++ actT d.acts[j] ++ (d.acts.drop (j+1)).flatMap actT ++ RT=T by rw [←hx.out,List.drop_eq_getElem_cons hlt2,List.flatMap_cons];simp only [List.append_assoc]);clear hx;generalize d.acts[j]=x at *;obtain rfl:vs=[.int .i64 x.num,.int .i64 x.kind,.int .i64 x.sub]:=hvsm;have kr:=Bel.of HBL.out hTS.out.2.1;have y0:wr.cell? ⟨bm,om+j*3,none⟩=some (.int .i64 x.num):=kr.some (by have:=hcem 0 _ rfl;rwa [Nat.add_zero]at this);have y1:wr.cell? ⟨bm,om+j*3+1,none⟩=some (.int .i64 x.kind):=kr.some (hcem 1 _ rfl);have y2:wr.cell? ⟨bm,om+j*3+2,none⟩=some (.int .i64 x.sub):=kr.some (hcem 2 _ rfl);have HA:=Lib.hid (hTS.out.addb #[.int .i64 x.num,.int .i64 x.kind,.int .i64 x.sub] 38 (by decide));clear hTS hg2 hcem kr ELK HBk
     go_upto_region 9 with(fail)
     clear y0 y1 y2;obtain⟨wd,hwd⟩ : ∃wd,wd=(wr.alloc (.cells #[.int .i64 x.num,.int .i64 x.kind,.int .i64 x.sub] 38)).drew:=⟨_,rfl⟩;have HD:=Lib.hid (show TS _ _ _ _ wd by rw [hwd];exact HA.out.bel (Bel.refl _).drew);have HWD:=Lib.hid hwd;clear hwd HA;have SS:=Lib.hid (fun(acc:Str) (bl:List (Nat × Array Value × TypeId)) (WW:World) (hs:TS W2 (W.heap.size+1+1) acc bl WW) (i:Nat) (hi:bl[i]? = some (wr.heap.size,#[.int .i64 x.num,.int .i64 x.kind,.int .i64 x.sub],38))=>show WW.cell? ⟨wr.heap.size,0,none⟩=some (.int .i64 x.num)/\WW.cell? ⟨wr.heap.size,1,none⟩=some (.int .i64 x.kind)/\WW.cell? ⟨wr.heap.size,2,none⟩=some (.int .i64 x.sub)from⟨hs.cell i hi 0,hs.cell i hi 1,hs.cell i hi 2⟩);have CI2:=Lib.hid (CI.out wd x.num HD.out.2.1 hbm.1);have CI3:=Lib.hid (fun WW (k:Bel W2 WW)=>CI.out WW x.sub k hbm.2);have CWD:=Lib.hid (rs_word x.kind);have hil:=Lib.itoa_length_le x.num hbm.1.1 hbm.1.2;have hil3:=Lib.itoa_length_le x.sub hbm.2.1 hbm.2.2;have hwl:=qj6 x.kind;have HH:=Lib.hid (show(⟨#[32,32]⟩:ByteArray) ++ S (Lib.itoa x.num) ++ (⟨#[32]⟩:ByteArray) ++ S (wordR x.kind)=S ([32,32] ++ Lib.itoa x.num ++ [32] ++ wordR x.kind)by simp only [←S_app];rfl);have hx1:=Lib.hid (show acc2 ++ ([32,32] ++ Lib.itoa x.num ++ [32] ++ wordR x.kind ++ subT x.sub ++ [10]) ++ (d.acts.drop (j+1)).flatMap actT ++ RT=T from hx1.out);have hml2:=congrArg List.length hx1.out;simp only [List.length_append,List.length_cons,List.length_nil]at hml2;have HSUB:=Lib.hid (show subT x.sub=if 0<=x.sub then 32 :: Lib.itoa x.sub else []from rfl);generalize subT x.sub=SB at hx1 hml2 HSUB;generalize Lib.itoa x.num=NU at CI2 hil HH hx1 hml2;generalize Lib.itoa x.sub=NS at CI3 hil3 HSUB;generalize wordR x.kind=WD at CWD hwl HH hx1 hml2;clear hbm CI;have s1:=qaj WD;have s2:=qaj NU;have q2 : ¬(9223372036854775807<2+(S NU).size):=by omega
     have q3 : ¬(9223372036854775807<2+(S NU).size+1):=by omega
     clear s1 s2;refine qfj (fun WW=>WW.cell? ⟨wr.heap.size,0,none⟩=some (.int .i64 x.num)/\WW.cell? ⟨wr.heap.size,1,none⟩=some (.int .i64 x.kind)/\WW.cell? ⟨wr.heap.size,2,none⟩=some (.int .i64 x.sub)) [(0,true),(1,true),(5,true),(6,true),(2,false),(3,true),(4,true),(7,false)] 8 (by kernel_rfl) (by kernel_rfl) HWD.out (SS.out _ _ _ HD.out 0 rfl) ?_;simp only [qd0,List.getElem?_cons_zero,List.getElem?_cons_succ]
     (with_reducible refine qbd (v:=?vv758) (by with_unfolding_all rfl) (fun W hW=>?hy758) ?hr758);(case hy758=>((try dsimp only at hW);go_simp;(all_goals with_reducible rfl)));(simp only [Act.put,List.setIfInBounds_toArray,List.set_cons_zero,List.set_cons_succ])
     (with_reducible refine qbd (v:=?vv759) (by with_unfolding_all rfl) (fun W hW=>?hy759) ?hr759);(case hy759=>((try dsimp only at hW);go_simp;(all_goals with_reducible rfl)));(simp only [Act.put,List.setIfInBounds_toArray,List.set_cons_zero,List.set_cons_succ])
     (with_reducible refine qbd (v:=?vv760) (by with_unfolding_all rfl) (fun W hW=>?hy760) ?hr760);(case hy760=>((try dsimp only at hW);go_simp;(all_goals with_reducible rfl)));(simp only [Act.put,List.setIfInBounds_toArray,List.set_cons_zero,List.set_cons_succ])
     (with_reducible refine qbd (v:=?vv761) (by with_unfolding_all rfl) (fun W hW=>?hy761) ?hr761);(case hy761=>((try dsimp only at hW);go_simp;(all_goals with_reducible rfl)));(simp only [Act.put,List.setIfInBounds_toArray,List.set_cons_zero,List.set_cons_succ])
     with_reducible refine qeq (fun K hK=>?_)
     go_simp
     with_reducible refine CI2.out.mono ?_
     rintro e w1 ⟨rfl,k1⟩;have H1:=Lib.hid (HD.out.bel k1);refine hK _ _ (SS.out _ _ _ H1.out 0 rfl) ?_;clear hK K HD CI2 k1
     (try simp only [Act.put,List.setIfInBounds_toArray,List.set_cons_zero,List.set_cons_succ])
     (with_reducible refine qbd (v:=?vv762) (by with_unfolding_all rfl) (fun W hW=>?hy762) ?hr762);(case hy762=>((try dsimp only at hW);go_simp;(all_goals with_reducible rfl)));(simp only [Act.put,List.setIfInBounds_toArray,List.set_cons_zero,List.set_cons_succ])
     (with_reducible refine qbd (v:=?vv763) (by with_unfolding_all rfl) (fun W hW=>?hy763) ?hr763);(case hy763=>((try dsimp only at hW);go_simp;(all_goals with_reducible rfl)));(simp only [Act.put,List.setIfInBounds_toArray,List.set_cons_zero,List.set_cons_succ])
     with_reducible refine qeq (fun K hK=>?_)
     go_simp
     with_reducible refine(CWD.out _).mono ?_
     rintro e w1' ⟨rfl,rfl⟩;refine hK _ _ (SS.out _ _ _ H1.out 0 rfl) ?_;clear hK K
     (try simp only [Act.put,List.setIfInBounds_toArray,List.set_cons_zero,List.set_cons_succ])
     refine ord_nil ?_;simp only [List.drop_succ_cons,List.drop_zero];have s1:=qaj WD;have s2:=qaj NU;have hWl:acc2.length+([32,32] ++ NU ++ [32] ++ WD).length<=1000000100:=by simp only [List.length_append,List.length_cons,List.length_nil];omega
     have WR:=Lib.hid (H1.out.write ([32,32] ++ NU ++ [32] ++ WD) (by omega));rw [←HH.out]at WR
     go_upto_region 10 with(go_at_call 39;(with_reducible refine WR.out.mono ?_);rintro e w2 ⟨rfl,h2⟩)
     have H2:=Lib.hid h2;clear h2 WR H1 s1 s2 HH hWl q2 q3;have a2:=(SS.out _ _ _ H2.out 0 rfl).2.2;have zt:=qaj NS;by_cases hsb:0<=x.sub
     ·have hx3:=Lib.hid (show(acc2 ++ ([32,32] ++ NU ++ [32] ++ WD) ++ (32 :: NS) ++ [10]) ++ (d.acts.drop (j+1)).flatMap actT ++ RT=T by rw [←hx1.out,HSUB.out,if_pos hsb];simp only [List.append_assoc])
      have hSt:S (32 :: NS)=(⟨#[32]⟩:ByteArray) ++ S NS:=by rw [show(⟨#[32]⟩:ByteArray)=S [32]from rfl,S_app];rfl
      have hln:acc2.length+([32,32] ++ NU ++ [32] ++ WD).length<=1000000100:=by simp only [List.length_append,List.length_cons,List.length_nil];omega
      have CI4:=Lib.hid (CI3.out w2 H2.out.2.1);have WX:=Lib.hid (fun WW (k:Bel w2 WW)=>(H2.out.bel k).write (32 :: NS) (by simp only [List.length_append,List.length_cons,List.length_nil]at hln ⊢;omega));rw [hSt]at WX;have WY:=Lib.hid (fun WW (hs:TS W2 (W.heap.size+1+1) (acc2 ++ ([32,32] ++ NU ++ [32] ++ WD) ++ (32 :: NS)) [(wr.heap.size,#[.int .i64 x.num,.int .i64 x.kind,.int .i64 x.sub],38),(db,#[.int .i64 d.w,.int .i64 d.r,.slice (some ⟨bm,om,none⟩) d.acts.length ac,.slice lq d.lacks.length kc],44)] WW)=>show Calls Tryz.prog 39 #[.pointer (some ⟨W.heap.size+1+1,0,none⟩),.string ⟨#[10]⟩] WW _ from hs.write [10] (by simp only [List.length_append,List.length_cons,List.length_nil]at hln ⊢;omega));clear hx1 HSUB H2 SS hml2 hSt CI3 hln
      go_wp2_with (first
       | (go_at_call 41;(with_reducible refine CI4.out.mono ?_);rintro e w3 ⟨rfl,k3⟩;have WZ:=Lib.hid (WX.out _ k3);clear k3 WX CI4)
       | (go_at_call 39;(with_reducible refine WZ.out.mono ?_);rintro e w4 ⟨rfl,h4⟩;have W5:=Lib.hid (WY.out _ h4);clear h4 WZ WY)
       | (go_at_call 39;(with_reducible refine W5.out.mono ?_);rintro e w6 ⟨rfl,h6⟩))
      go_roundw
      case rel=>exact⟨j+1,_,by omega,by go_num,Lib.hid h6.dropb,hx3⟩
      case measure=>simp [intOf];omega
     ·have hx3:=Lib.hid (show(acc2 ++ ([32,32] ++ NU ++ [32] ++ WD) ++ [10]) ++ (d.acts.drop (j+1)).flatMap actT ++ RT=T by rw [←hx1.out,HSUB.out,if_neg hsb];simp only [List.append_assoc,List.nil_append])
      have WR:=Lib.hid (H2.out.write [10] (by simp only [List.length_append,List.length_cons,List.length_nil];omega));have WR2:Hid (Calls Tryz.prog 39 #[.pointer (some ⟨W.heap.size+1+1,0,none⟩),.string ⟨#[10]⟩] w2 _):=WR;clear hx1 HSUB H2 SS zt hml2 WR CI3
      go_wp2_with (go_at_call 39;(with_reducible refine WR2.out.mono ?_);rintro e w3 ⟨rfl,h3⟩)
      go_roundw
      case rel=>exact⟨j+1,_,by omega,by go_num,Lib.hid h3.dropb,hx3⟩
      case measure=>simp [intOf];omega
    ·have hjl:j=d.acts.length:=by omega
     have hx3:=Lib.hid (show acc2 ++ (d.lacks.drop 0).flatMap lackT ++ textR w r (l.drop (k+1))=T by have:=hx.out;rw [hjl,List.drop_length,HRT.out]at this;simpa using this);have a3:wr.cell? ⟨db,3,none⟩=some (.slice lq d.lacks.length kc):=hTS.out.cell 0 rfl 3;clear hx ELM HBm HRT;go_wp2;clear a3 hjl hlt2 hj
     go_loopw [13,62] (fun _ i3 wr => ∃(j:Nat) (acc2:Str),j<=d.lacks.length/\i3=.int .i64 j/\Hid (TS W2 (W.heap.size+1+1) acc2 [(db,#[.int .i64 d.w,.int .i64 d.r,.slice aq d.acts.length ac,.slice lq d.lacks.length kc],44)] wr)/\Hid (acc2 ++ (d.lacks.drop j).flatMap lackT ++ textR w r (l.drop (k+1))=T)) (fun _ i3 _=>d.lacks.length-(intOf i3).toNat)
     case atStart=>exact⟨0,acc2,by omega,rfl,hTS,hx3⟩
     case round=>as_aux_lemma=>
      clear hTS hx3 hblt;obtain⟨j,acc2,hj,rfl,hTS,hx⟩:=hrel;by_cases hlt3:j<d.lacks.length
      ·have hji:(j:Int)<(d.lacks.length:Int):=by omega
       have hg2:=List.getElem?_eq_getElem hlt3;have hbm:=HBk.out _ (List.getElem_mem hlt3);obtain⟨bm,om,rfl,hbsm,vs,hcem,hvsm⟩:=ELK.out j _ hg2;have hx1:=Lib.hid (show(acc2 ++ ([32,32,108,97,99,107,115,32] ++ Lib.itoa d.lacks[j] ++ [10])) ++ (d.lacks.drop (j+1)).flatMap lackT ++ textR w r (l.drop (k+1))=T by rw [←hx.out,List.drop_eq_getElem_cons hlt3,List.flatMap_cons];simp only [lackT,List.append_assoc]);clear hx;generalize d.lacks[j]=n at *;obtain rfl:vs=[.int .i64 n]:=hvsm;have y0:wr.cell? ⟨bm,om+j,none⟩=some (.int .i64 n):=(Bel.of HBL.out hTS.out.2.1).some (by have:=hcem 0 _ rfl;rwa [Nat.add_zero,Nat.mul_one]at this);have CI2:=Lib.hid (CI.out wr n hTS.out.2.1 hbm);have hil:=Lib.itoa_length_le n hbm.1 hbm.2;have HH:=Lib.hid (show(⟨#[32,32,108,97,99,107,115,32]⟩:ByteArray) ++ S (Lib.itoa n) ++ (⟨#[10]⟩:ByteArray)=S ([32,32,108,97,99,107,115,32] ++ Lib.itoa n ++ [10])by simp only [←S_app];rfl);have hml2:=congrArg List.length hx1.out;simp only [List.length_append,List.length_cons,List.length_nil]at hml2;generalize Lib.itoa n=NU at CI2 hil HH hx1 hml2;have s2:=qaj NU;have hWl:acc2.length+([32,32,108,97,99,107,115,32] ++ NU ++ [10]).length<=1000000100:=by simp only [List.length_append,List.length_cons,List.length_nil];omega
       have WX:=Lib.hid (fun WW (k:Bel wr WW)=>(hTS.out.bel k).write ([32,32,108,97,99,107,115,32] ++ NU ++ [10]) (by omega));rw [←HH.out]at WX;clear hTS hg2 hcem hbm HH hml2 hWl CI
       go_wp2_with (first
        | (go_at_call 41;(with_reducible refine CI2.out.mono ?_);rintro e w3 ⟨rfl,k3⟩;have WZ:=Lib.hid (WX.out _ k3);clear k3 WX CI2)
        | (go_at_call 39;(with_reducible refine WZ.out.mono ?_);rintro e w4 ⟨rfl,h4⟩))
       go_roundw
       case rel=>exact⟨j+1,_,by omega,by go_num,Lib.hid h4,hx1⟩
       case measure=>simp [intOf];omega
      ·have hjl:j=d.lacks.length:=by omega
       have hx3:=Lib.hid (show acc2 ++ textR w r (l.drop (k+1))=T by have:=hx.out;rw [hjl,List.drop_length]at this;simpa using this);clear hx;go_wp2;go_roundw
       case rel=>exact⟨k+1,acc2,by omega,by go_num,Lib.hid hTS.out.dropb,hx3⟩
       case measure=>simp [intOf];omega
  ·have hkl:k=l.length:=by omega
   have hxe:acc=T:=by have:=hx.out;rw [hkl,List.drop_length]at this;simpa [textR]using this
   subst hxe;have hB1:=hTS.out.1;rw [HS2.out]at hB1;have CS:=Lib.hid (Tryz.Builder_String_any_k (W.heap.size+1+1) (W.heap.size+1+1) acc wr hB1 (by omega));have kr:=Bel.of HBL.out hTS.out.2.1;clear hx hTS hB1
   go_wp2_with (go_at_call 43;(with_reducible refine CS.out.mono ?_);rintro e w2 ⟨rfl,_,h2,_⟩)
   go_ret;exact⟨rfl,Below.trans kr (h2.mono (by omega))⟩
end
section
open Go.RowKit Ck Rs
theorem ql0 {α:Type} {a b:List α} {k:Nat} {x y:α} (hx:a[k]? = some x) (hy:b[k]? = some y):(a.drop k=b.drop k) ↔ x=y/\a.drop (k+1)=b.drop (k+1):=by
 obtain⟨h1,rfl⟩:=List.getElem?_eq_some_iff.1 hx;obtain⟨h2,rfl⟩:=List.getElem?_eq_some_iff.1 hy;rw [List.drop_eq_getElem_cons h1,List.drop_eq_getElem_cons h2,List.cons.injEq]
theorem eq_Act (v u:Value) (a b:List PAct) (w:World) (hv:Sv 3 VAct w v a) (hu:Sv 3 VAct w u b) :
  Calls Tryz.prog 67 #[v,u] w fun e' w'=>e'=.returned (.bool (decide (a=b)))/\Bel w w':=by
 obtain⟨q,c,rfl,hl,hcap,hel⟩:=hv;obtain⟨q',c',rfl,hl',hcap',hel'⟩:=hu;by_cases hlen:a.length=b.length
 ·have hli:(a.length:Int)=(b.length:Int):=by omega
  have hne:((a.length:Int) != (b.length:Int))=false:=by rw [hli];simp
  obtain⟨R,hR⟩ : ∃R,R=decide (a=b):=⟨_,rfl⟩;have V:=Lib.hid (show decide (a.drop 0=b.drop 0)=R by rw [hR];rfl);rw [←hR];have EX:=Lib.hid hel;have EY:=Lib.hid hel';have HL:=Lib.hid hlen;clear hel hel' hR hlen hli
  go_enter Tryz.func67,Tryz.ntmps67
  go_wp2
  go_loopw [13] (fun i wr => ∃k:Nat,k<=a.length/\i=.int .i64 k/\Bel w wr/\Hid (decide (a.drop k=b.drop k)=R)) (fun i _=>a.length-(intOf i).toNat)
  case atStart=>exact⟨0,by omega,rfl,Bel.refl _,V⟩
  case round=>as_aux_lemma=>
   clear V;obtain⟨k,hk,rfl,kw,hx⟩:=hrel;have hab:=HL.out;by_cases hlt:k<a.length
   ·have hki:(k:Int)<(a.length:Int):=by omega
    have hki2:(k:Int)<(b.length:Int):=by omega
    have hk0:(0:Int)<=(k:Int):=by omega
    have hga:a[k]? = some a[k]:=List.getElem?_eq_getElem hlt;have hgb:b[k]? = some (b[k]'(by omega)):=List.getElem?_eq_getElem (by omega);obtain⟨b1,off1,rfl,_,vx,hcx,hvx⟩:=EX.out k _ hga;obtain⟨b2,off2,rfl,_,vy,hcy,hvy⟩:=EY.out k _ hgb;have hst:=hx.out;have hdr:=ql0 hga hgb;generalize hxe:a[k]=x at *;generalize hye:b[k]'(by omega)=y at *;rw [show vx=[.int .i64 x.num,.int .i64 x.kind,.int .i64 x.sub]from hvx]at hcx;rw [show vy=[.int .i64 y.num,.int .i64 y.kind,.int .i64 y.sub]from hvy]at hcy;have HD:=Lib.hid hdr;clear hx hdr hga hgb hvx hvy hxe hye EX EY hab
    go_upto_region 6 with(fail)
    obtain⟨wd,hwd⟩ : ∃wd,wd=wr.drew:=⟨_,rfl⟩;have kd:Bel w wd:=by rw [hwd];exact kw.drew
    have HWD:=Lib.hid hwd;clear hwd;have ex0:=kd.some (hcx 0 _ rfl);have ey0:=kd.some (hcy 0 _ rfl);have ex1:=kd.some (hcx 1 _ rfl);have ey1:=kd.some (hcy 1 _ rfl);have ex2:=kd.some (hcx 2 _ rfl);have ey2:=kd.some (hcy 2 _ rfl);rw [Nat.add_zero]at ex0 ey0;refine qa8 8 (by kernel_rfl) (by kernel_rfl) HWD.out ?_
    (simp only [List.take_succ_cons,List.take_zero,List.drop_succ_cons,List.drop_zero]);(repeat (first|((with_reducible refine wpStill_step (fun K hK=>?_));go_simp;(with_reducible refine hK _ ?_);clear hK K)|((with_reducible refine qab ?_ ?_);(with_unfolding_all rfl))));(with_reducible refine wpStill_nil ?_)
    by_cases hxy:x=y
    ·have HST:=Lib.hid (show decide (a.drop (k+1)=b.drop (k+1))=R by rw [←hst];exact decide_eq_decide.2 (by rw [HD.out];simp [hxy]))
     subst hxy;clear hst HD;go_wp2;go_roundw
     case rel=>exact⟨k+1,by omega,by go_num,kd,HST⟩
     case measure=>simp [intOf];omega
    ·have HST:=Lib.hid (show R=false by rw [←hst];exact decide_eq_false (fun h=>hxy (HD.out.1 h).1))
     skip
     clear hst HD;go_wp2
     all_goals (first|(go_ret;exact⟨qa3 (by rw [HST.out]),kd⟩)|(exfalso;exact hxy (PAct.ext' (by assumption) (by assumption) (by assumption))))
   ·have hki : ¬(k:Int)<(a.length:Int):=by omega
    have HST:=Lib.hid (show R=true by rw [←hx.out,List.drop_eq_nil_of_le (by omega),List.drop_eq_nil_of_le (by omega)];simp);clear hx EX EY hab;go_wp2;go_ret;exact⟨qa3 (by rw [HST.out]),kw⟩
 ·have hne:((a.length:Int) != (b.length:Int))=true:=by rw [bne_iff_ne];omega
  have HST:=Lib.hid (show decide (a=b)=false from decide_eq_false (fun h=>hlen (by rw [h])));generalize decide (a=b)=R at HST;clear hel hel' hlen
  go_enter Tryz.func67,Tryz.ntmps67
  go_wp2;go_ret
  exact⟨qa3 (by rw [HST.out]),Bel.refl _⟩
theorem eq_Int (v u:Value) (a b:List Int) (w:World) (hv:Sv 1 VInt w v a) (hu:Sv 1 VInt w u b) :
  Calls Tryz.prog 68 #[v,u] w fun e' w'=>e'=.returned (.bool (decide (a=b)))/\Bel w w':=by
 obtain⟨q,c,rfl,hl,hcap,hel⟩:=hv;obtain⟨q',c',rfl,hl',hcap',hel'⟩:=hu;by_cases hlen:a.length=b.length
 ·have hli:(a.length:Int)=(b.length:Int):=by omega
  have hne:((a.length:Int) != (b.length:Int))=false:=by rw [hli];simp
  obtain⟨R,hR⟩ : ∃R,R=decide (a=b):=⟨_,rfl⟩;have V:=Lib.hid (show decide (a.drop 0=b.drop 0)=R by rw [hR];rfl);rw [←hR];have EX:=Lib.hid hel;have EY:=Lib.hid hel';have HL:=Lib.hid hlen;clear hel hel' hR hlen hli
  go_enter Tryz.func68,Tryz.ntmps68
  go_wp2
  go_loopw [13] (fun i wr => ∃k:Nat,k<=a.length/\i=.int .i64 k/\Bel w wr/\Hid (decide (a.drop k=b.drop k)=R)) (fun i _=>a.length-(intOf i).toNat)
  case atStart=>exact⟨0,by omega,rfl,Bel.refl _,V⟩
  case round=>as_aux_lemma=>
   clear V;obtain⟨k,hk,rfl,kw,hx⟩:=hrel;have hab:=HL.out;by_cases hlt:k<a.length
   ·have hki:(k:Int)<(a.length:Int):=by omega
    have hki2:(k:Int)<(b.length:Int):=by omega
    have hk0:(0:Int)<=(k:Int):=by omega
    have hga:a[k]? = some a[k]:=List.getElem?_eq_getElem hlt;have hgb:b[k]? = some (b[k]'(by omega)):=List.getElem?_eq_getElem (by omega);obtain⟨b1,off1,rfl,_,vx,hcx,hvx⟩:=EX.out k _ hga;obtain⟨b2,off2,rfl,_,vy,hcy,hvy⟩:=EY.out k _ hgb;have hst:=hx.out;have hdr:=ql0 hga hgb;generalize hxe:a[k]=x at *;generalize hye:b[k]'(by omega)=y at *;rw [show vx=[.int .i64 x]from hvx]at hcx;rw [show vy=[.int .i64 y]from hvy]at hcy;have HD:=Lib.hid hdr;clear hx hdr hga hgb hvx hvy hxe hye EX EY hab
    go_upto_region 6 with(fail)
    obtain⟨wd,hwd⟩ : ∃wd,wd=wr.drew:=⟨_,rfl⟩;have kd:Bel w wd:=by rw [hwd];exact kw.drew
    have HWD:=Lib.hid hwd;clear hwd;have ex0:=kd.some (hcx 0 _ rfl);have ey0:=kd.some (hcy 0 _ rfl);rw [Nat.add_zero]at ex0 ey0;rw [Nat.mul_one]at ex0 ey0;refine qa8 8 (by kernel_rfl) (by kernel_rfl) HWD.out ?_
    (simp only [List.take_succ_cons,List.take_zero,List.drop_succ_cons,List.drop_zero]);(repeat (first|((with_reducible refine wpStill_step (fun K hK=>?_));go_simp;(with_reducible refine hK _ ?_);clear hK K)|((with_reducible refine qab ?_ ?_);(with_unfolding_all rfl))));(with_reducible refine wpStill_nil ?_)
    by_cases hxy:x=y
    ·have HST:=Lib.hid (show decide (a.drop (k+1)=b.drop (k+1))=R by rw [←hst];exact decide_eq_decide.2 (by rw [HD.out];simp [hxy]))
     subst hxy;clear hst HD;go_wp2;go_roundw
     case rel=>exact⟨k+1,by omega,by go_num,kd,HST⟩
     case measure=>simp [intOf];omega
    ·have HST:=Lib.hid (show R=false by rw [←hst];exact decide_eq_false (fun h=>hxy (HD.out.1 h).1))
     have hb:(x == y)=false:=beq_eq_false_iff_ne.2 hxy;clear hst HD;go_wp2
     all_goals (first|(go_ret;exact⟨qa3 (by rw [HST.out]),kd⟩)|(exfalso;exact hxy (PAct.ext' (by assumption) (by assumption) (by assumption))))
   ·have hki : ¬(k:Int)<(a.length:Int):=by omega
    have HST:=Lib.hid (show R=true by rw [←hx.out,List.drop_eq_nil_of_le (by omega),List.drop_eq_nil_of_le (by omega)];simp);clear hx EX EY hab;go_wp2;go_ret;exact⟨qa3 (by rw [HST.out]),kw⟩
 ·have hne:((a.length:Int) != (b.length:Int))=true:=by rw [bne_iff_ne];omega
  have HST:=Lib.hid (show decide (a=b)=false from decide_eq_false (fun h=>hlen (by rw [h])));generalize decide (a=b)=R at HST;clear hel hel' hlen
  go_enter Tryz.func68,Tryz.ntmps68
  go_wp2;go_ret
  exact⟨qa3 (by rw [HST.out]),Bel.refl _⟩
end
section
open Go.RowKit Ck Rs
theorem cl_same (x y:PAdapt) (vx vy:List Value) (W:World) (hx:VAdapt W vx x) (hy:VAdapt W vy y) :
  Calls Tryz.prog 66 #[.agg vx.toArray,.agg vy.toArray] W fun e' w'=>e'=.returned (.bool (decide (x=y)))/\Bel W w':=by
 obtain⟨xa,xl,xb,xm,rfl,x1,x2,_,_⟩:=hx.form;obtain⟨ya,yl,yb,ym,rfl,y1,y2,_,_⟩:=hy.form;have hS0:=((ST.start W).addbox #[.int .i64 x.w,.int .i64 x.r,.slice xa x.acts.length xb,.slice xl x.lacks.length xm] 44).addbox #[.int .i64 y.w,.int .i64 y.r,.slice ya y.acts.length yb,.slice yl y.lacks.length ym] 44;simp only [World.size_alloc]at hS0;have HS:=Lib.hid hS0;have KS:=Lib.hid (fun WW (T:ST W [] [⟨W.heap.size+1,#[.int .i64 y.w,.int .i64 y.r,.slice ya y.acts.length yb,.slice yl y.lacks.length ym],44⟩,⟨W.heap.size,#[.int .i64 x.w,.int .i64 x.r,.slice xa x.acts.length xb,.slice xl x.lacks.length xm],44⟩] WW)=>show WW.cell? ⟨W.heap.size,0,none⟩=some (.int .i64 x.w)/\WW.cell? ⟨W.heap.size,1,none⟩=some (.int .i64 x.r)/\WW.cell? ⟨W.heap.size,2,none⟩=some (.slice xa x.acts.length xb)/\WW.cell? ⟨W.heap.size,3,none⟩=some (.slice xl x.lacks.length xm)/\WW.cell? ⟨W.heap.size+1,0,none⟩=some (.int .i64 y.w)/\WW.cell? ⟨W.heap.size+1,1,none⟩=some (.int .i64 y.r)/\WW.cell? ⟨W.heap.size+1,2,none⟩=some (.slice ya y.acts.length yb)/\WW.cell? ⟨W.heap.size+1,3,none⟩=some (.slice yl y.lacks.length ym)from⟨T.cell 1 rfl 0,T.cell 1 rfl 1,T.cell 1 rfl 2,T.cell 1 rfl 3,T.cell 0 rfl 0,T.cell 0 rfl 1,T.cell 0 rfl 2,T.cell 0 rfl 3⟩);have CA:=Lib.hid (fun WW (T:ST W [] [⟨W.heap.size+1,#[.int .i64 y.w,.int .i64 y.r,.slice ya y.acts.length yb,.slice yl y.lacks.length ym],44⟩,⟨W.heap.size,#[.int .i64 x.w,.int .i64 x.r,.slice xa x.acts.length xb,.slice xl x.lacks.length xm],44⟩] WW)=>eq_Act _ _ x.acts y.acts WW (x1.bel VAct.stays T.bel) (y1.bel VAct.stays T.bel));have CI:=Lib.hid (fun WW (T:ST W [] [⟨W.heap.size+1,#[.int .i64 y.w,.int .i64 y.r,.slice ya y.acts.length yb,.slice yl y.lacks.length ym],44⟩,⟨W.heap.size,#[.int .i64 x.w,.int .i64 x.r,.slice xa x.acts.length xb,.slice xl x.lacks.length xm],44⟩] WW)=>eq_Int _ _ x.lacks y.lacks WW (x2.bel VInt.stays T.bel) (y2.bel VInt.stays T.bel));clear hx hy x1 x2 y1 y2 hS0;by_cases h1:x.w=y.w
 ·have b1:(x.w == y.w)=true:=by rw [h1];simp
  by_cases h2:x.r=y.r
  ·have b2:(x.r == y.r)=true:=by rw [h2];simp
   by_cases h3:x.acts=y.acts
   ·rw [decide_eq_true h3]at CA
    have V:=Lib.hid (show decide (x=y)=decide (x.lacks=y.lacks)from decide_eq_decide.2 ⟨fun h=>by rw [h],fun h=>PAdapt.ext' h1 h2 h3 h⟩);generalize decide (x=y)=R at V;generalize decide (x.lacks=y.lacks)=Q at V CI;clear h1 h2 h3
    go_enter Tryz.func66,Tryz.ntmps66
    obtain⟨c0,c1,c2,c3,d0,d1,d2,d3⟩:=KS.out _ HS.out
    go_wp2_with (first
     | (go_at_call 67;(with_reducible refine(CA.out _ HS.out).mono ?_);rintro e' w1 ⟨rfl,k1⟩;have k1:Bel _ w1:=k1;have H1:=Lib.hid (HS.out.belw k1);obtain⟨c0,c1,c2,c3,d0,d1,d2,d3⟩:=KS.out _ H1.out;clear k1)
     | (go_at_call 68;(with_reducible refine(CI.out _ H1.out).mono ?_);rintro e' w2 ⟨rfl,k2⟩;have k2:Bel _ w2:=k2;have H2:=Lib.hid (H1.out.belw k2);obtain⟨c0,c1,c2,c3,d0,d1,d2,d3⟩:=KS.out _ H2.out;clear k2))
    go_ret;exact⟨qa3 (by rw [V.out]),H2.out.bel⟩
   ·rw [decide_eq_false h3]at CA
    have V:=Lib.hid (show decide (x=y)=false from decide_eq_false (fun h=>h3 (by rw [h])));generalize decide (x=y)=R at V;clear h1 h2 h3
    go_enter Tryz.func66,Tryz.ntmps66
    obtain⟨c0,c1,c2,c3,d0,d1,d2,d3⟩:=KS.out _ HS.out
    go_wp2_with (go_at_call 67;(with_reducible refine(CA.out _ HS.out).mono ?_);rintro e' w1 ⟨rfl,k1⟩;have k1:Bel _ w1:=k1;have H1:=Lib.hid (HS.out.belw k1);obtain⟨c0,c1,c2,c3,d0,d1,d2,d3⟩:=KS.out _ H1.out;clear k1)
    go_ret;exact⟨qa3 (by rw [V.out]),H1.out.bel⟩
  ·have b2:(x.r == y.r)=false:=beq_eq_false_iff_ne.2 h2
   have V:=Lib.hid (show decide (x=y)=false from decide_eq_false (fun h=>h2 (by rw [h])));generalize decide (x=y)=R at V;clear h1 h2
   go_enter Tryz.func66,Tryz.ntmps66
   obtain⟨c0,c1,c2,c3,d0,d1,d2,d3⟩:=KS.out _ HS.out
   go_wp2;go_ret
   exact⟨qa3 (by rw [V.out]),HS.out.bel⟩
 ·have b1:(x.w == y.w)=false:=beq_eq_false_iff_ne.2 h1
  have V:=Lib.hid (show decide (x=y)=false from decide_eq_false (fun h=>h1 (by rw [h])));generalize decide (x=y)=R at V;clear h1
  go_enter Tryz.func66,Tryz.ntmps66
  obtain⟨c0,c1,c2,c3,d0,d1,d2,d3⟩:=KS.out _ HS.out
  go_wp2;go_ret
  exact⟨qa3 (by rw [V.out]),HS.out.bel⟩
theorem eq_Adapt (v u:Value) (a b:List PAdapt) (w:World) (hv:Sv 4 VAdapt w v a) (hu:Sv 4 VAdapt w u b) :
  Calls Tryz.prog 65 #[v,u,.func (.func 66) #[] #[]] w fun e' w'=>e'=.returned (.bool (decide (a=b)))/\Bel w w':=by
 obtain⟨q,c,rfl,hl,hcap,hel⟩:=hv;obtain⟨q',c',rfl,hl',hcap',hel'⟩:=hu;by_cases hlen:a.length=b.length
 ·have hli:(a.length:Int)=(b.length:Int):=by omega
  have hne:((a.length:Int) != (b.length:Int))=false:=by rw [hli];simp
  obtain⟨R,hR⟩ : ∃R,R=decide (a=b):=⟨_,rfl⟩;have V:=Lib.hid (show decide (a.drop 0=b.drop 0)=R by rw [hR];rfl);rw [←hR];have EX:=Lib.hid hel;have EY:=Lib.hid hel';have HL:=Lib.hid hlen;clear hel hel' hR hlen hli
  go_enter Tryz.func65,Tryz.ntmps65
  go_wp2
  go_loopw [17] (fun i wr => ∃k:Nat,k<=a.length/\i=.int .i64 k/\Bel w wr/\Hid (decide (a.drop k=b.drop k)=R)) (fun i _=>a.length-(intOf i).toNat)
  case atStart=>exact⟨0,by omega,rfl,Bel.refl _,V⟩
  case round=>as_aux_lemma=>
   clear V;obtain⟨k,hk,rfl,kw,hx⟩:=hrel;have hab:=HL.out;by_cases hlt:k<a.length
   ·have hki:(k:Int)<(a.length:Int):=by omega
    have hki2:(k:Int)<(b.length:Int):=by omega
    have hk0:(0:Int)<=(k:Int):=by omega
    have hga:a[k]? = some a[k]:=List.getElem?_eq_getElem hlt;have hgb:b[k]? = some (b[k]'(by omega)):=List.getElem?_eq_getElem (by omega);obtain⟨b1,off1,rfl,_,vx,hcx,hvx⟩:=EX.out k _ hga;obtain⟨b2,off2,rfl,_,vy,hcy,hvy⟩:=EY.out k _ hgb;have hst:=hx.out;have hdr:=ql0 hga hgb;generalize hxe:a[k]=x at *;generalize hye:b[k]'(by omega)=y at *;have C0:=fun WW (kk:Bel w WW)=>cl_same x y vx vy WW (VAdapt.stays _ _ _ _ kk hvx) (VAdapt.stays _ _ _ _ kk hvy)
    obtain⟨xa,xl,xb,xm,rfl,_,_,_,_⟩:=hvx.form;obtain⟨ya,yl,yb,ym,rfl,_,_,_,_⟩:=hvy.form;have C:=Lib.hid C0;have HD:=Lib.hid hdr;have ex0:=kw.some (hcx 0 _ rfl);have ey0:=kw.some (hcy 0 _ rfl);have ex1:=kw.some (hcx 1 _ rfl);have ey1:=kw.some (hcy 1 _ rfl);have ex2:=kw.some (hcx 2 _ rfl);have ey2:=kw.some (hcy 2 _ rfl);have ex3:=kw.some (hcx 3 _ rfl);have ey3:=kw.some (hcy 3 _ rfl);rw [Nat.add_zero]at ex0 ey0;have hb2l:b2<wr.heap.size:=World.block_lt_of_cell? wr _ ey0;clear hx hdr hga hgb hvx hvy hxe hye EX EY hab C0;have hS0:=((ST.start wr).addbox #[.int .i64 x.w,.int .i64 x.r,.slice xa x.acts.length xb,.slice xl x.lacks.length xm] 44).addbox #[.int .i64 y.w,.int .i64 y.r,.slice ya y.acts.length yb,.slice yl y.lacks.length ym] 44;simp only [World.size_alloc]at hS0;have HS:=Lib.hid hS0;have HB:=Lib.hid (Bel.of kw hS0.bel);clear hS0;by_cases hxy:x=y
    ·have HST:=Lib.hid (show decide (a.drop (k+1)=b.drop (k+1))=R by rw [←hst];exact decide_eq_decide.2 (by rw [HD.out];simp [hxy]))
     rw [decide_eq_true hxy]at C;clear hst HD hxy
     go_wp2_with (go_at_call 66;(with_reducible refine(C.out _ HB.out).mono ?_);rintro e' w1 ⟨rfl,k1⟩;have k1:Bel _ w1:=Bel.of HB.out k1)
     go_roundw
     case rel=>exact⟨k+1,by omega,by go_num,k1,HST⟩
     case measure=>simp [intOf];omega
    ·have HST:=Lib.hid (show R=false by rw [←hst];exact decide_eq_false (fun h=>hxy (HD.out.1 h).1))
     rw [decide_eq_false hxy]at C;clear hst HD hxy
     go_wp2_with (go_at_call 66;(with_reducible refine(C.out _ HB.out).mono ?_);rintro e' w1 ⟨rfl,k1⟩;have k1:Bel _ w1:=Bel.of HB.out k1)
     go_ret;exact⟨qa3 (by rw [HST.out]),k1⟩
   ·have hki : ¬(k:Int)<(a.length:Int):=by omega
    have HST:=Lib.hid (show R=true by rw [←hx.out,List.drop_eq_nil_of_le (by omega),List.drop_eq_nil_of_le (by omega)];simp);clear hx EX EY hab;go_wp2;go_ret;exact⟨qa3 (by rw [HST.out]),kw⟩
 ·have hne:((a.length:Int) != (b.length:Int))=true:=by rw [bne_iff_ne];omega
  have HST:=Lib.hid (show decide (a=b)=false from decide_eq_false (fun h=>hlen (by rw [h])));generalize decide (a=b)=R at HST;clear hel hel' hlen
  go_enter Tryz.func65,Tryz.ntmps65
  go_wp2;go_ret
  exact⟨qa3 (by rw [HST.out]),Bel.refl _⟩
theorem rs_same (v u:Value) (a b:List PAdapt) (w:World) (hv:Sv 4 VAdapt w v a) (hu:Sv 4 VAdapt w u b) :
  Calls Tryz.prog 38 #[v,u] w fun e' w'=>e'=.returned (.bool (decide (a=b)))/\Bel w w':=by
 have C:=Lib.hid (eq_Adapt v u a b w hv hu);obtain⟨q,c,rfl,_⟩:=qbc hv;obtain⟨q',c',rfl,_⟩:=qbc hu;generalize decide (a=b)=R at C;clear hv hu
 go_enter Tryz.func38,Tryz.ntmps38
 go_wp2_with (go_at_call 65;(with_reducible refine C.out.mono ?_);rintro e' w1 ⟨rfl,k1⟩;have k1:Bel _ w1:=k1)
 go_ret;exact⟨rfl,k1⟩
end
end Go.Proofs.YtgpjhibdongmbaaGreatDoor
