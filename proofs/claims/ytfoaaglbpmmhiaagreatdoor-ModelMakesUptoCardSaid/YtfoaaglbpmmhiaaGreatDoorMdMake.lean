import Derived.Test.YtfoaaglbpmmhiaaGreatDoorMdMakeP
import Derived.Deep.DeepCutAuto
import Derived.Deep.CutBlock
set_option maxRecDepth 100000
set_option maxHeartbeats 4000000
set_option linter.unusedVariables false
set_option linter.unusedSimpArgs false
namespace Go.Proofs.YtfoaaglbpmmhiaaGreatDoor
open Go.RowKit Ck Md
def qp4 (w:World) (l:List PDecl) (e:Ending) (w':World):Prop := ∃v,e=.returned (.tuple #[v,.int .i64 0])/\Decls w' v l/\Bel w w'
theorem qnv (D:List PDecl) (m:PMsg):qau (qbl (D.map (·.name)) (Md.camel m.name)) m.name (addD D 1 (Md.camel m.name) m.name) (qbt m)=msgD D m:=rfl
theorem qgk (sq1 sq2 sq3:Option Addr) (sc1 sc2 sc3:Nat) (s:PSchema) (w:World) (hs:VSchema w [.slice sq1 s.msgs.length sc1,.slice sq2 s.enums.length sc2,.slice sq3 s.svcs.length sc3] s) (hP:PT w) (hM:ML w) (hsh:Short s) (hV:valid s=true) :
  Calls Tryz.prog 11 #[.agg #[.slice sq1 s.msgs.length sc1,.slice sq2 s.enums.length sc2,.slice sq3 s.svcs.length sc3]] w (qp4 w (make s)):=by
 obtain⟨i1,hi1,hy0,hy1,hy2⟩:=info_parts qfe;have HB:=h_ (mb_of hV);have HMS:=h_ (show make s=List.zipWith withM (qa6 s) (qh9 (qa6 s) s)from rfl);have HNB:=h_ (qeh HB.out).1;have hALL:=qny s;generalize make s=MS at HMS;have kw:Bel w (w.alloc (.cells #[.slice sq1 s.msgs.length sc1,.slice sq2 s.enums.length sc2,.slice sq3 s.svcs.length sc3] 26)):=(Bel.refl w).alloc _;have CV:=h_ (qot sq1 sq2 sq3 _ _ _ sc1 sc2 sc3 s (w.alloc (.cells #[.slice sq1 s.msgs.length sc1,.slice sq2 s.enums.length sc2,.slice sq3 s.svcs.length sc3] 26)) (hs.stays_bel kw) (hM.below kw.out) hsh);rw [hV]at CV;obtain⟨_,_,_,hcm,h1,h2,h3⟩:=hs;cases hcm;obtain⟨q,c,hq,hl1,hc1,hel1⟩:=h1;cases hq;obtain⟨q,c,hq,hl2,hc2,hel2⟩:=h2;cases hq;obtain⟨q,c,hq,hl3,hc3,hel3⟩:=h3;cases hq;have EL1:=h_ hel1;have EL2:=h_ hel2;have EL3:=h_ hel3;have hlm:=HB.out.lm;have hle:=HB.out.le;have hlv:=HB.out.lv;clear hel1 hel2 hel3 hsh hV
 go_enter Tryz.func11,Tryz.ntmps11
 go_upto_region 4 with(go_at_call 35;(with_reducible refine CV.out.mono ?_);rintro e w1 ⟨rfl,k1⟩;have HS1:=h_ (((ST.start w).addbox #[.slice sq1 s.msgs.length sc1,.slice sq2 s.enums.length sc2,.slice sq3 s.svcs.length sc3] 26).belw k1);have m0:=HS1.out.cell 0 rfl 0;have m1:=HS1.out.cell 0 rfl 1;have m2:=HS1.out.cell 0 rfl 2;(dsimp only at m0 m1 m2))
 have HM:=h_ (show MK w w1.heap.size (.slice sq1 s.msgs.length sc1) (.slice sq2 s.enums.length sc2) (.slice sq3 s.svcs.length sc3) [] [] [] [⟨w.heap.size,#[.slice sq1 s.msgs.length sc1,.slice sq2 s.enums.length sc2,.slice sq3 s.svcs.length sc3],26⟩] _ from⟨_,_,_,(((HS1.out.addbox #[.slice sq1 s.msgs.length sc1,.slice sq2 s.enums.length sc2,.slice sq3 s.svcs.length sc3,.slice none 0 0,.slice none 0 0,.slice none 0 0] 89).nilrow 47 4).nilrow 119 2).nilrow 9 1⟩);clear m0 m1 m2 CV;generalize hkb:w1.heap.size=kb at HM;generalize hwa:World.alloc w1 _=wa at HM;clear hkb hwa HS1 k1;have c0:=HM.out.cell 0 rfl 0;dsimp only at c0
 go_upto_block 0 with(fail)
 go_cut [] (fun wx=>MK w kb (.slice sq1 s.msgs.length sc1) (.slice sq2 s.enums.length sc2) (.slice sq3 s.svcs.length sc3) (s.msgs.foldl msgD []) [] [] [⟨w.heap.size,#[.slice sq1 s.msgs.length sc1,.slice sq2 s.enums.length sc2,.slice sq3 s.svcs.length sc3],26⟩] wx/\(s.msgs.foldl msgD []).length<=4160)
 case first=>
  go_wp2
  go_loopw [35] (fun i wr => ∃(k:Nat) (D:List PDecl),k<=s.msgs.length/\i=.int .i64 k/\Hid (MK w kb (.slice sq1 s.msgs.length sc1) (.slice sq2 s.enums.length sc2) (.slice sq3 s.svcs.length sc3) D [] [] [⟨w.heap.size,#[.slice sq1 s.msgs.length sc1,.slice sq2 s.enums.length sc2,.slice sq3 s.svcs.length sc3],26⟩] wr)/\D.length<=65*k/\Hid ((s.msgs.drop k).foldl msgD D=s.msgs.foldl msgD [])) (fun i _=>s.msgs.length-(intOf i).toNat)
  case atStart=>exact⟨0,[],by omega,rfl,HM,by simp,h_ rfl⟩
  case round=>as_aux_lemma=>
   clear HM c0;obtain⟨k,D,hk,rfl,hMK,hDl,hfo⟩:=hrel;by_cases hlt:k<s.msgs.length
   ·have hfo2:=h_ (show(s.msgs.drop (k+1)).foldl msgD (msgD D s.msgs[k])=s.msgs.foldl msgD []by rw [←hfo.out,qdh msgD _ k hlt])
    have hus:=qcd HB.out (List.getElem_mem hlt);clear hfo;have hki:(k:Int)<(s.msgs.length:Int):=by omega
    have hg:=List.getElem?_eq_getElem hlt;have hmem:=List.getElem_mem hlt;have hbx:=HB.out.m _ hmem;obtain⟨b,off,hqq,hbs,cs,hce,hvs⟩:=EL1.out k _ hg;subst hqq;have hvs0:=h_ hvs;obtain⟨_,_,_,_,hvv,g1,g2,g3,g4⟩:=hvs;obtain⟨u1,y1,rfl,_⟩:=qa5 g1;obtain⟨u2,y2,rfl,_⟩:=qa5 g2;obtain⟨u3,y3,rfl,_⟩:=qa5 g3;obtain⟨u4,y4,rfl,_⟩:=qa5 g4;subst hvv;have kr:=hMK.out.bel;have e0:=kr.some (hce 0 _ rfl);rw [Nat.add_zero]at e0;have e1:=kr.some (hce 1 _ rfl);have e2:=kr.some (hce 2 _ rfl);have e3:=kr.some (hce 3 _ rfl);have e4:=kr.some (hce 4 _ rfl);generalize s.msgs[k]=x at *;clear hg hce hmem;have hul:=qce x;have hml:=qjf D x;have HA:=h_ (hMK.out.addbox #[.string (S x.name),.slice u1 x.fields.length y1,.slice u2 x.res.length y2,.slice u3 x.gone.length y3,.slice u4 x.notes.length y4] 44);clear hMK
    go_upto_region 7 with(fail)
    clear e0 e1 e2 e3 e4;obtain⟨wd,hwd⟩ : ∃wd,wd=(wr.alloc (.cells #[.string (S x.name),.slice u1 x.fields.length y1,.slice u2 x.res.length y2,.slice u3 x.gone.length y3,.slice u4 x.notes.length y4] 44)).drew:=⟨_,rfl⟩;have HD:=h_ (show MK _ _ _ _ _ _ _ _ _ wd by rw [hwd];exact HA.out.belw (Bel.refl _).drew);have HWD:=h_ hwd;clear hwd HA;have SS:=h_ (fun(D:List PDecl) (R:List Row) (X:List Box) (W:World) (hs:MK w kb (.slice (some ⟨b,off,none⟩) s.msgs.length sc1) (.slice sq2 s.enums.length sc2) (.slice sq3 s.svcs.length sc3) D [] R X W) (i:Nat) (hi:X[i]? = some ⟨wr.heap.size,#[.string (S x.name),.slice u1 x.fields.length y1,.slice u2 x.res.length y2,.slice u3 x.gone.length y3,.slice u4 x.notes.length y4],44⟩)=>show W.cell? ⟨wr.heap.size,0,none⟩=some (.string (S x.name))from hs.cell i hi 0);refine qak (fun W=>W.cell? ⟨wr.heap.size,0,none⟩=some (.string (S x.name))) [(0,true),(1,true),(2,true),(4,true),(5,true),(3,false)] 6 (by kernel_rfl) (by kernel_rfl) HWD.out (SS.out _ _ _ _ HD.out 0 rfl) ?_;simp only [qb3,List.getElem?_cons_zero,List.getElem?_cons_succ]
    (with_reducible refine qa1 (v:=?vv196) (by with_unfolding_all rfl) (fun W hW=>?hy196) ?hr196);(case hy196=>((try dsimp only at hW);go_simp;(all_goals with_reducible rfl)));(simp only [Act.put,z_1,z_2,z_3])
    (with_reducible refine qa1 (v:=?vv197) (by with_unfolding_all rfl) (fun W hW=>?hy197) ?hr197);(case hy197=>((try dsimp only at hW);go_simp;(all_goals with_reducible rfl)));(simp only [Act.put,z_1,z_2,z_3])
    (with_reducible refine qa1 (v:=?vv198) (by with_unfolding_all rfl) (fun W hW=>?hy198) ?hr198);(case hy198=>((try dsimp only at hW);go_simp;(all_goals with_reducible rfl)));(simp only [Act.put,z_1,z_2,z_3])
    (with_reducible refine qa1 (v:=?vv199) (by with_unfolding_all rfl) (fun W hW=>?hy199) ?hr199);(case hy199=>((try dsimp only at hW);go_simp;(all_goals with_reducible rfl)));(simp only [Act.put,z_1,z_2,z_3])
    (with_reducible refine qa1 (v:=?vv200) (by with_unfolding_all rfl) (fun W hW=>?hy200) ?hr200);(case hy200=>((try dsimp only at hW);go_simp;(all_goals with_reducible rfl)));(simp only [Act.put,z_1,z_2,z_3])
    with_reducible refine qaj (fun K hK=>?_)
    go_simp
    with_reducible refine(qjg x.name _ (by omega) (hM.below HD.out.bel.out)).mono ?_
    rintro e w2 ⟨rfl,g2⟩;have H2:=h_ (HD.out.belw g2);refine hK _ _ (SS.out _ _ _ _ H2.out 0 rfl) ?_;clear hK K g2 HD
    (try simp only [Act.put,z_1,z_2,z_3])
    refine qbm ?_;simp only [t_3,t_4];have hcl:=qbp x.name;have DC:=h_ (qe4 w kb (.slice (some ⟨b,off,none⟩) s.msgs.length sc1) (.slice sq2 s.enums.length sc2) (.slice sq3 s.svcs.length sc3) D [] _ 1 (Md.camel x.name) x.name w2 H2.out hP (by omega) (by omega));have hnl:=qdu (D.map (·.name)) (Md.camel x.name) (by rw [List.length_map];omega);have HCG:=h_ (qnv D x);have hal:=qc6 D 1 (Md.camel x.name) x.name;generalize hNM:qbl (D.map (·.name)) (Md.camel x.name)=NM at DC hnl HCG;generalize addD D 1 (Md.camel x.name) x.name=D1 at DC HCG hal;clear hNM
    go_upto_region 8 with(go_at_call 36;(with_reducible refine DC.out.mono ?_);rintro e w3 ⟨rfl,h3⟩)
    have H3:=h_ h3;have f0:=h3.cell 0 rfl 0;have f1:=h3.cell 0 rfl 1;have f2:=h3.cell 0 rfl 2;have f3:=h3.cell 0 rfl 3;have f4:=h3.cell 0 rfl 4;have CUN:=h_ (qkw x.name u1 u2 u3 u4 _ _ _ _ y1 y2 y3 y4 x w3 (VMsg.stays _ _ _ _ h3.bel hvs0.out) (by omega));generalize hUS:qbt x=us at CUN HCG hul hml hus;clear hUS h3 DC H2;dsimp only at f0 f1 f2 f3 f4
    go_upto_region 9 with(go_at_call 38;(with_reducible refine CUN.out.mono ?_);rintro e w4 ⟨vu,rfl,hown,g4⟩;obtain⟨qu,cu,rfl⟩:=qa9 hown;have H4:=h_ (H3.out.addrow g4 hown);clear hown g4 H3 f0 f1 f2 f3 f4 CUN)
    generalize wr.heap.size=mb at H4 SS ⊢
    go_loopw [49] (fun i2 wr => ∃(j:Nat) (D2:List PDecl),j<=us.length/\i2=.int .i64 j/\Hid (MK w kb (.slice (some ⟨b,off,none⟩) s.msgs.length sc1) (.slice sq2 s.enums.length sc2) (.slice sq3 s.svcs.length sc3) D2 [] [⟨9,1,.slice qu us.length cu,us.length,nmC us⟩] [⟨mb,#[.string (S x.name),.slice u1 x.fields.length y1,.slice u2 x.res.length y2,.slice u3 x.gone.length y3,.slice u4 x.notes.length y4],44⟩,⟨w.heap.size,#[.slice (some ⟨b,off,none⟩) s.msgs.length sc1,.slice sq2 s.enums.length sc2,.slice sq3 s.svcs.length sc3],26⟩] wr)/\D2.length=D.length+1+j/\Hid (qau NM x.name D2 (us.drop j)=msgD D x)) (fun i2 _=>us.length-(intOf i2).toNat)
    case atStart=>exact⟨0,D1,by omega,rfl,H4,by omega,HCG⟩
    case round=>
     clear H4 HCG;obtain⟨j,D2,hj,rfl,hMK2,hD2,hch⟩:=hrel;by_cases hlt2:j<us.length
     ·have hji:(j:Int)<(us.length:Int):=by omega
      obtain⟨vn2,vw2,vo2,hS2⟩:=hMK2.out;obtain⟨gu,cu2,hqe,hcells⟩:=qew (hS2.row 3 rfl) (show us.length ≠ 0 by omega);have hqe':Value.slice qu us.length cu=.slice (some ⟨gu,0,none⟩) us.length cu2:=hqe;cases hqe';have hcu:=hcells j (.string (S us[j])) (by show(nmC us)[j]? = _;unfold nmC;rw [List.getElem?_map,List.getElem?_eq_getElem hlt2];rfl);have hun:=hus _ (List.getElem_mem hlt2);have hch2:=h_ (show qau NM x.name (addD D2 2 (NM ++ Id.camel us[j]) (x.name ++ 58 :: us[j])) (us.drop (j+1))=msgD D x by have:=hch.out;rwa [List.drop_eq_getElem_cons hlt2,qau]at this);clear hS2 hcells hch hqe;generalize us[j]=uu at *;have hcl2:=qc0 uu;have HU2:=hMK2.out
      go_upto_region 11 with(fail)
      clear hcu;obtain⟨wd,hwd⟩ : ∃wd,wd=wr.drew:=⟨_,rfl⟩;have HD:=h_ (show MK _ _ _ _ _ _ _ _ _ wd by rw [hwd];exact HU2.belw (Bel.refl _).drew);have HWD:=h_ hwd;clear hwd HU2 hMK2;have cam:=h_ (fun W (kk:Bel w W)=>qdq (S uu) uu W (qah _) (by rw [qai];omega) (hM.below kk.out));generalize Id.camel uu=CM at cam hch2 hcl2;have q7 : ¬(9223372036854775807<(S x.name).size+1):=by rw [qai];omega
      have q9 : ¬(9223372036854775807<(S x.name).size+1+(S uu).size):=by rw [qai,qai];omega
      have q4 : ¬(9223372036854775807<(S NM).size+(S CM).size):=by rw [qai,qai];omega
      refine qak (fun W=>W.cell? ⟨mb,0,none⟩=some (.string (S x.name))) [(0,true),(1,true),(2,true),(5,true),(6,true),(7,true),(8,true),(9,true),(3,false),(4,true)] 10 (by kernel_rfl) (by kernel_rfl) HWD.out (SS.out _ _ _ _ HD.out 0 rfl) ?_;simp only [qb3,List.getElem?_cons_zero,List.getElem?_cons_succ]
      (with_reducible refine qa1 (v:=?vv201) (by with_unfolding_all rfl) (fun W hW=>?hy201) ?hr201);(case hy201=>((try dsimp only at hW);go_simp;(all_goals with_reducible rfl)));(simp only [Act.put,z_1,z_2,z_3])
      (with_reducible refine qa1 (v:=?vv202) (by with_unfolding_all rfl) (fun W hW=>?hy202) ?hr202);(case hy202=>((try dsimp only at hW);go_simp;(all_goals with_reducible rfl)));(simp only [Act.put,z_1,z_2,z_3])
      (with_reducible refine qa1 (v:=?vv203) (by with_unfolding_all rfl) (fun W hW=>?hy203) ?hr203);(case hy203=>((try dsimp only at hW);go_simp;(all_goals with_reducible rfl)));(simp only [Act.put,z_1,z_2,z_3])
      (with_reducible refine qa1 (v:=?vv204) (by with_unfolding_all rfl) (fun W hW=>?hy204) ?hr204);(case hy204=>((try dsimp only at hW);go_simp;(all_goals with_reducible rfl)));(simp only [Act.put,z_1,z_2,z_3])
      (with_reducible refine qa1 (v:=?vv205) (by with_unfolding_all rfl) (fun W hW=>?hy205) ?hr205);(case hy205=>((try dsimp only at hW);go_simp;(all_goals with_reducible rfl)));(simp only [Act.put,z_1,z_2,z_3])
      (with_reducible refine qa1 (v:=?vv206) (by with_unfolding_all rfl) (fun W hW=>?hy206) ?hr206);(case hy206=>((try dsimp only at hW);go_simp;(all_goals with_reducible rfl)));(simp only [Act.put,z_1,z_2,z_3])
      (with_reducible refine qa1 (v:=?vv207) (by with_unfolding_all rfl) (fun W hW=>?hy207) ?hr207);(case hy207=>((try dsimp only at hW);go_simp;(all_goals with_reducible rfl)));(simp only [Act.put,z_1,z_2,z_3])
      (with_reducible refine qa1 (v:=?vv208) (by with_unfolding_all rfl) (fun W hW=>?hy208) ?hr208);(case hy208=>((try dsimp only at hW);go_simp;(all_goals with_reducible rfl)));(simp only [Act.put,z_1,z_2,z_3])
      with_reducible refine qaj (fun K hK=>?_)
      go_simp
      with_reducible refine(cam.out _ HD.out.bel).mono ?_
      rintro e w2 ⟨rfl,g2⟩;have H2:=h_ (HD.out.belw g2);refine hK _ _ (SS.out _ _ _ _ H2.out 0 rfl) ?_;clear hK K g2 HD SS
      (try simp only [Act.put,z_1,z_2,z_3])
      (with_reducible refine qa1 (v:=?vv209) (by with_unfolding_all rfl) (fun W hW=>?hy209) ?hr209);(case hy209=>((try dsimp only at hW);go_simp;(all_goals with_reducible rfl)));(simp only [Act.put,z_1,z_2,z_3])
      refine qbm ?_;simp only [t_3,t_4];have DC:=h_ (qe4 w kb (.slice (some ⟨b,off,none⟩) s.msgs.length sc1) (.slice sq2 s.enums.length sc2) (.slice sq3 s.svcs.length sc3) D2 _ _ 2 (NM ++ CM) (x.name ++ 58 :: uu) w2 H2.out hP (by rw [List.length_append];omega) (by omega));rw [←S_app NM CM, ←qgv x.name uu]at DC
      go_wp2_with (go_at_call 36;(with_reducible refine DC.out.mono ?_);rintro e w3 ⟨rfl,h3⟩)
      go_roundw
      case rel=>exact⟨j+1,_,by omega,by go_num,h_ h3,by rw [qc6];omega,hch2⟩
      case measure=>simp [intOf];omega
     ·have hjl:j=us.length:=by omega
      have hxe2:D2=msgD D x:=by have:=hch.out;rw [hjl,List.drop_length]at this;exact this
      subst hxe2;go_wp2;go_roundw
      case rel=>exact⟨k+1,_,by omega,by go_num,h_ hMK2.out.droprow.dropbox,by omega,hfo2⟩
      case measure=>simp [intOf];omega
   ·have hkl:k=s.msgs.length:=by omega
    have hxe:D=s.msgs.foldl msgD []:=by have:=hfo.out;rw [hkl,List.drop_length]at this;exact this
    subst hxe;go_wp2;go_meet;exact⟨hMK.out,by omega⟩
 case rest=>
  obtain⟨hMK,hD1⟩:=hcut;have HM:=h_ hMK;clear hMK;generalize hDM:s.msgs.foldl msgD []=DM at HM hD1;have HDM:=h_ hDM;clear hDM c0;have c0:=HM.out.cell 0 rfl 1;dsimp only at c0
  go_upto_block 4 with(fail)
  go_cut [] (fun wx=>MK w kb (.slice sq1 s.msgs.length sc1) (.slice sq2 s.enums.length sc2) (.slice sq3 s.svcs.length sc3) (s.enums.foldl enumD DM) [] [] [⟨w.heap.size,#[.slice sq1 s.msgs.length sc1,.slice sq2 s.enums.length sc2,.slice sq3 s.svcs.length sc3],26⟩] wx/\(s.enums.foldl enumD DM).length<=4224)
  case first=>
   go_wp2
   go_loopw [69] (fun i wr => ∃(k:Nat) (D:List PDecl),k<=s.enums.length/\i=.int .i64 k/\Hid (MK w kb (.slice sq1 s.msgs.length sc1) (.slice sq2 s.enums.length sc2) (.slice sq3 s.svcs.length sc3) D [] [] [⟨w.heap.size,#[.slice sq1 s.msgs.length sc1,.slice sq2 s.enums.length sc2,.slice sq3 s.svcs.length sc3],26⟩] wr)/\D.length<=4160+k/\Hid ((s.enums.drop k).foldl enumD D=(s.enums.foldl enumD DM))) (fun i _=>s.enums.length-(intOf i).toNat)
   case atStart=>exact⟨0,_,by omega,rfl,HM,by omega,h_ rfl⟩
   case round=>as_aux_lemma=>
    clear HM c0;obtain⟨k,D,hk,rfl,hMK,hDl,hfo⟩:=hrel;by_cases hlt:k<s.enums.length
    ·have hfo2:=h_ (show(s.enums.drop (k+1)).foldl enumD (enumD D s.enums[k])=(s.enums.foldl enumD DM)by rw [←hfo.out,qdh enumD _ k hlt])
     clear hfo;have hki:(k:Int)<(s.enums.length:Int):=by omega
     have hg:=List.getElem?_eq_getElem hlt;have hmem:=List.getElem_mem hlt;have hbx:=HB.out.e _ hmem;obtain⟨b,off,hqq,hbs,cs,hce,hvs⟩:=EL2.out k _ hg;subst hqq;have hvs0:=h_ hvs;obtain⟨_,_,_,hvv,g1,g2,g3⟩:=hvs;obtain⟨u1,y1,rfl,_⟩:=qa5 g1;obtain⟨u2,y2,rfl,_⟩:=qa5 g2;obtain⟨u3,y3,rfl,_⟩:=qa5 g3;subst hvv;have kr:=hMK.out.bel;have e0:=kr.some (hce 0 _ rfl);rw [Nat.add_zero]at e0;have e1:=kr.some (hce 1 _ rfl);have e2:=kr.some (hce 2 _ rfl);have e3:=kr.some (hce 3 _ rfl);have e4:=kr.some (hce 4 _ rfl);generalize s.enums[k]=x at *;clear hg hce hmem hvs0;have HA:=h_ (hMK.out.addbox #[.string (S x.name),.bool x.op,.slice u1 x.items.length y1,.slice u2 x.res.length y2,.slice u3 x.notes.length y3] 74);clear hMK
     go_upto_region 17 with(fail)
     clear e0 e1 e2 e3 e4;obtain⟨wd,hwd⟩ : ∃wd,wd=(wr.alloc (.cells #[.string (S x.name),.bool x.op,.slice u1 x.items.length y1,.slice u2 x.res.length y2,.slice u3 x.notes.length y3] 74)).drew:=⟨_,rfl⟩;have HD:=h_ (show MK _ _ _ _ _ _ _ _ _ wd by rw [hwd];exact HA.out.belw (Bel.refl _).drew);have HWD:=h_ hwd;clear hwd HA;have SS:=h_ (fun(X:List Box) (W:World) (hs:MK w kb (.slice sq1 s.msgs.length sc1) (.slice (some ⟨b,off,none⟩) s.enums.length sc2) (.slice sq3 s.svcs.length sc3) D [] [] X W) (i:Nat) (hi:X[i]? = some ⟨wr.heap.size,#[.string (S x.name),.bool x.op,.slice u1 x.items.length y1,.slice u2 x.res.length y2,.slice u3 x.notes.length y3],74⟩)=>show W.cell? ⟨wr.heap.size,0,none⟩=some (.string (S x.name))from hs.cell i hi 0);refine qak (fun W=>W.cell? ⟨wr.heap.size,0,none⟩=some (.string (S x.name))) [(0,true),(1,true),(2,true),(4,true),(5,true),(3,false)] 6 (by kernel_rfl) (by kernel_rfl) HWD.out (SS.out _ _ HD.out 0 rfl) ?_;simp only [qb3,List.getElem?_cons_zero,List.getElem?_cons_succ]
     (with_reducible refine qa1 (v:=?vv210) (by with_unfolding_all rfl) (fun W hW=>?hy210) ?hr210);(case hy210=>((try dsimp only at hW);go_simp;(all_goals with_reducible rfl)));(simp only [Act.put,z_1,z_2,z_3])
     (with_reducible refine qa1 (v:=?vv211) (by with_unfolding_all rfl) (fun W hW=>?hy211) ?hr211);(case hy211=>((try dsimp only at hW);go_simp;(all_goals with_reducible rfl)));(simp only [Act.put,z_1,z_2,z_3])
     (with_reducible refine qa1 (v:=?vv212) (by with_unfolding_all rfl) (fun W hW=>?hy212) ?hr212);(case hy212=>((try dsimp only at hW);go_simp;(all_goals with_reducible rfl)));(simp only [Act.put,z_1,z_2,z_3])
     (with_reducible refine qa1 (v:=?vv213) (by with_unfolding_all rfl) (fun W hW=>?hy213) ?hr213);(case hy213=>((try dsimp only at hW);go_simp;(all_goals with_reducible rfl)));(simp only [Act.put,z_1,z_2,z_3])
     (with_reducible refine qa1 (v:=?vv214) (by with_unfolding_all rfl) (fun W hW=>?hy214) ?hr214);(case hy214=>((try dsimp only at hW);go_simp;(all_goals with_reducible rfl)));(simp only [Act.put,z_1,z_2,z_3])
     with_reducible refine qaj (fun K hK=>?_)
     go_simp
     with_reducible refine(qjg x.name _ (by omega) (hM.below HD.out.bel.out)).mono ?_
     rintro e w2 ⟨rfl,g2⟩;have H2:=h_ (HD.out.belw g2);refine hK _ _ (SS.out _ _ H2.out 0 rfl) ?_;clear hK K g2 HD SS
     (try simp only [Act.put,z_1,z_2,z_3])
     refine qbm ?_;simp only [t_3,t_4];have hcl:=qbp x.name;have DC:=h_ (qe4 w kb (.slice sq1 s.msgs.length sc1) (.slice (some ⟨b,off,none⟩) s.enums.length sc2) (.slice sq3 s.svcs.length sc3) D [] _ 3 (Md.camel x.name) x.name w2 H2.out hP (by omega) (by omega))
     go_wp2_with (go_at_call 36;(with_reducible refine DC.out.mono ?_);rintro e w3 ⟨rfl,h3⟩)
     go_roundw
     case rel=>exact⟨k+1,_,by omega,by go_num,h_ h3.dropbox,by rw [qc6];omega,hfo2⟩
     case measure=>simp [intOf];omega
    ·have hkl:k=s.enums.length:=by omega
     have hxe:D=(s.enums.foldl enumD DM):=by have:=hfo.out;rw [hkl,List.drop_length]at this;exact this
     subst hxe;go_wp2;go_meet;exact⟨hMK.out,by omega⟩
  case rest=>
   obtain⟨hMK,hD2⟩:=hcut;have HM:=h_ hMK;clear hMK;generalize hDE:s.enums.foldl enumD DM=DE at HM hD2;have HDE:=h_ hDE;clear hDE c0;have c0:=HM.out.cell 0 rfl 2;dsimp only at c0
   go_upto_block 6 with(fail)
   go_cut [] (fun wx=>MK w kb (.slice sq1 s.msgs.length sc1) (.slice sq2 s.enums.length sc2) (.slice sq3 s.svcs.length sc3) (s.svcs.foldl svcD DE) [] [] [⟨w.heap.size,#[.slice sq1 s.msgs.length sc1,.slice sq2 s.enums.length sc2,.slice sq3 s.svcs.length sc3],26⟩] wx/\(s.svcs.foldl svcD DE).length<=4288)
   case first=>
    go_wp2
    go_loopw [84] (fun i wr => ∃(k:Nat) (D:List PDecl),k<=s.svcs.length/\i=.int .i64 k/\Hid (MK w kb (.slice sq1 s.msgs.length sc1) (.slice sq2 s.enums.length sc2) (.slice sq3 s.svcs.length sc3) D [] [] [⟨w.heap.size,#[.slice sq1 s.msgs.length sc1,.slice sq2 s.enums.length sc2,.slice sq3 s.svcs.length sc3],26⟩] wr)/\D.length<=4224+k/\Hid ((s.svcs.drop k).foldl svcD D=(s.svcs.foldl svcD DE))) (fun i _=>s.svcs.length-(intOf i).toNat)
    case atStart=>exact⟨0,_,by omega,rfl,HM,by omega,h_ rfl⟩
    case round=>as_aux_lemma=>
     clear HM c0;obtain⟨k,D,hk,rfl,hMK,hDl,hfo⟩:=hrel;by_cases hlt:k<s.svcs.length
     ·have hfo2:=h_ (show(s.svcs.drop (k+1)).foldl svcD (svcD D s.svcs[k])=(s.svcs.foldl svcD DE)by rw [←hfo.out,qdh svcD _ k hlt])
      clear hfo;have hki:(k:Int)<(s.svcs.length:Int):=by omega
      have hg:=List.getElem?_eq_getElem hlt;have hmem:=List.getElem_mem hlt;have hbx:=HB.out.v _ hmem;obtain⟨b,off,hqq,hbs,cs,hce,hvs⟩:=EL3.out k _ hg;subst hqq;have hvs0:=h_ hvs;obtain⟨_,_,hvv,g1,g2⟩:=hvs;obtain⟨u1,y1,rfl,_⟩:=qa5 g1;obtain⟨u2,y2,rfl,_⟩:=qa5 g2;subst hvv;have kr:=hMK.out.bel;have e0:=kr.some (hce 0 _ rfl);rw [Nat.add_zero]at e0;have e1:=kr.some (hce 1 _ rfl);have e2:=kr.some (hce 2 _ rfl);generalize s.svcs[k]=x at *;clear hg hce hmem hvs0;have HA:=h_ (hMK.out.addbox #[.string (S x.name),.slice u1 x.meths.length y1,.slice u2 x.notes.length y2] 68);clear hMK
      go_upto_region 22 with(fail)
      clear e0 e1 e2;obtain⟨wd,hwd⟩ : ∃wd,wd=(wr.alloc (.cells #[.string (S x.name),.slice u1 x.meths.length y1,.slice u2 x.notes.length y2] 68)).drew:=⟨_,rfl⟩;have HD:=h_ (show MK _ _ _ _ _ _ _ _ _ wd by rw [hwd];exact HA.out.belw (Bel.refl _).drew);have HWD:=h_ hwd;clear hwd HA;have SS:=h_ (fun(X:List Box) (W:World) (hs:MK w kb (.slice sq1 s.msgs.length sc1) (.slice sq2 s.enums.length sc2) (.slice (some ⟨b,off,none⟩) s.svcs.length sc3) D [] [] X W) (i:Nat) (hi:X[i]? = some ⟨wr.heap.size,#[.string (S x.name),.slice u1 x.meths.length y1,.slice u2 x.notes.length y2],68⟩)=>show W.cell? ⟨wr.heap.size,0,none⟩=some (.string (S x.name))from hs.cell i hi 0);refine qak (fun W=>W.cell? ⟨wr.heap.size,0,none⟩=some (.string (S x.name))) [(0,true),(1,true),(2,true),(4,true),(5,true),(3,false)] 6 (by kernel_rfl) (by kernel_rfl) HWD.out (SS.out _ _ HD.out 0 rfl) ?_;simp only [qb3,List.getElem?_cons_zero,List.getElem?_cons_succ]
      (with_reducible refine qa1 (v:=?vv215) (by with_unfolding_all rfl) (fun W hW=>?hy215) ?hr215);(case hy215=>((try dsimp only at hW);go_simp;(all_goals with_reducible rfl)));(simp only [Act.put,z_1,z_2,z_3])
      (with_reducible refine qa1 (v:=?vv216) (by with_unfolding_all rfl) (fun W hW=>?hy216) ?hr216);(case hy216=>((try dsimp only at hW);go_simp;(all_goals with_reducible rfl)));(simp only [Act.put,z_1,z_2,z_3])
      (with_reducible refine qa1 (v:=?vv217) (by with_unfolding_all rfl) (fun W hW=>?hy217) ?hr217);(case hy217=>((try dsimp only at hW);go_simp;(all_goals with_reducible rfl)));(simp only [Act.put,z_1,z_2,z_3])
      (with_reducible refine qa1 (v:=?vv218) (by with_unfolding_all rfl) (fun W hW=>?hy218) ?hr218);(case hy218=>((try dsimp only at hW);go_simp;(all_goals with_reducible rfl)));(simp only [Act.put,z_1,z_2,z_3])
      (with_reducible refine qa1 (v:=?vv219) (by with_unfolding_all rfl) (fun W hW=>?hy219) ?hr219);(case hy219=>((try dsimp only at hW);go_simp;(all_goals with_reducible rfl)));(simp only [Act.put,z_1,z_2,z_3])
      with_reducible refine qaj (fun K hK=>?_)
      go_simp
      with_reducible refine(qjg x.name _ (by omega) (hM.below HD.out.bel.out)).mono ?_
      rintro e w2 ⟨rfl,g2⟩;have H2:=h_ (HD.out.belw g2);refine hK _ _ (SS.out _ _ H2.out 0 rfl) ?_;clear hK K g2 HD SS
      (try simp only [Act.put,z_1,z_2,z_3])
      refine qbm ?_;simp only [t_3,t_4];have hcl:=qbp x.name;have DC:=h_ (qe4 w kb (.slice sq1 s.msgs.length sc1) (.slice sq2 s.enums.length sc2) (.slice (some ⟨b,off,none⟩) s.svcs.length sc3) D [] _ 4 (Md.camel x.name) x.name w2 H2.out hP (by omega) (by omega))
      go_wp2_with (go_at_call 36;(with_reducible refine DC.out.mono ?_);rintro e w3 ⟨rfl,h3⟩)
      go_roundw
      case rel=>exact⟨k+1,_,by omega,by go_num,h_ h3.dropbox,by rw [qc6];omega,hfo2⟩
      case measure=>simp [intOf];omega
     ·have hkl:k=s.svcs.length:=by omega
      have hxe:D=(s.svcs.foldl svcD DE):=by have:=hfo.out;rw [hkl,List.drop_length]at this;exact this
      subst hxe;go_wp2;go_meet;exact⟨hMK.out,by omega⟩
   case rest=>
    obtain⟨hMK,hD3⟩:=hcut;have HM:=h_ hMK;clear hMK c0;have hDS:s.svcs.foldl svcD DE=qa6 s:=by rw [←HDE.out, ←HDM.out];rfl
    rw [hDS]at HM hD3;clear hDS HDE HDM hD1 hD2;generalize hDD:qa6 s=DD at HM hD3 HMS HNB hALL;clear hDD;have c0:=HM.out.cell 0 rfl 0;dsimp only at c0;obtain⟨LM,hLM⟩ : ∃LM,LM=s.msgs.flatMap (memsM DD):=⟨_,rfl⟩;obtain⟨LE,hLE⟩ : ∃LE,LE=s.enums.map items:=⟨_,rfl⟩;obtain⟨LV,hLV⟩ : ∃LV,LV=s.svcs.map (qcy DD):=⟨_,rfl⟩
    have hAL:DD.length=LM.length+LE.length+LV.length:=by
     rw [hALL,hLM,hLE,hLV];unfold qh9;rw [List.length_append,List.length_append]
    have HLM:=h_ (show [] ++ (s.msgs.drop 0).flatMap (memsM DD)=LM by rw [hLM];rfl);have HLE:=h_ hLE;have HLV:=h_ hLV;have HLM0:=h_ hLM;have HAL:=h_ hAL;clear hLM hLE hLV hALL hAL
    go_upto_block 8 with(fail)
    go_cut [14] (fun s14 wx => ∃M:List Value,s14=.int .i64 (M.length:Int)/\MK w kb (.slice sq1 s.msgs.length sc1) (.slice sq2 s.enums.length sc2) (.slice sq3 s.svcs.length sc3) DD M (mrows M LM) [⟨w.heap.size,#[.slice sq1 s.msgs.length sc1,.slice sq2 s.enums.length sc2,.slice sq3 s.svcs.length sc3],26⟩] wx/\M.length=LM.length)
    case first=>
     go_wp2
     go_loopw [14,99] (fun a i wr => ∃(k:Nat) (M:List Value) (L:List (List PMem)),k<=s.msgs.length/\a=.int .i64 (M.length:Int)/\i=.int .i64 k/\Hid (MK w kb (.slice sq1 s.msgs.length sc1) (.slice sq2 s.enums.length sc2) (.slice sq3 s.svcs.length sc3) DD M (mrows M L) [⟨w.heap.size,#[.slice sq1 s.msgs.length sc1,.slice sq2 s.enums.length sc2,.slice sq3 s.svcs.length sc3],26⟩] wr)/\Hid (M.length=L.length)/\Hid (L ++ (s.msgs.drop k).flatMap (memsM DD)=LM)) (fun _ i _=>s.msgs.length-(intOf i).toNat)
     case atStart=>exact⟨0,[],[],by omega,rfl,rfl,HM,h_ rfl,HLM⟩
     case round=>as_aux_lemma=>
      clear HM c0;obtain⟨k,M,L,hk,rfl,rfl,hMK,hML,hfo⟩:=hrel;by_cases hlt:k<s.msgs.length
      ·have hfo1:=h_ (show(L ++ memsM DD s.msgs[k]) ++ (s.msgs.drop (k+1)).flatMap (memsM DD)=LM by rw [←hfo.out,List.drop_eq_getElem_cons hlt,List.flatMap_cons,List.append_assoc])
       have hus:=qcd HB.out (List.getElem_mem hlt);clear hfo;have hki:(k:Int)<(s.msgs.length:Int):=by omega
       have hg:=List.getElem?_eq_getElem hlt;have hmem:=List.getElem_mem hlt;have hbx:=HB.out.m _ hmem;obtain⟨b,off,hqq,hbs,cs,hce,hvs⟩:=EL1.out k _ hg;subst hqq;have hvs0:=h_ hvs;obtain⟨_,_,_,_,hvv,g1,g2,g3,g4⟩:=hvs;obtain⟨u1,y1,rfl,_⟩:=qa5 g1;obtain⟨u2,y2,rfl,_⟩:=qa5 g2;obtain⟨u3,y3,rfl,_⟩:=qa5 g3;obtain⟨u4,y4,rfl,_⟩:=qa5 g4;subst hvv;have kr:=hMK.out.bel;have e0:=kr.some (hce 0 _ rfl);rw [Nat.add_zero]at e0;have e1:=kr.some (hce 1 _ rfl);have e2:=kr.some (hce 2 _ rfl);have e3:=kr.some (hce 3 _ rfl);have e4:=kr.some (hce 4 _ rfl);generalize s.msgs[k]=x at *;clear hg hce hmem;have hul:=qce x
       have hln:M.length+1+(qbt x).length<=LM.length:=by
        have hml:=hML.out;have:=congrArg List.length hfo1.out;unfold memsM at this;simp only [List.length_append,List.length_cons,List.length_map]at this;omega
       have hMlt:M.length<DD.length:=by have hAL:=HAL.out;omega
       have hDne:DD.length ≠ 0:=by omega
       generalize hLX:L ++ memsM DD x=LX at hfo1;have HLX:=h_ (show(L ++ [qdp DD x]) ++ (qbt x).map (qdk DD x)=LX by rw [←hLX];unfold memsM;simp);clear hLX;have H0:=h_ (hMK.out.addbox #[.string (S x.name),.slice u1 x.fields.length y1,.slice u2 x.res.length y2,.slice u3 x.gone.length y3,.slice u4 x.notes.length y4] 44);clear hMK
       go_upto_region 28 with(fail)
       obtain⟨wd,hwd⟩ : ∃wd,wd=(wr.alloc (.cells #[.string (S x.name),.slice u1 x.fields.length y1,.slice u2 x.res.length y2,.slice u3 x.gone.length y3,.slice u4 x.notes.length y4] 44)).drew:=⟨_,rfl⟩;have HD:=h_ (show MK _ _ _ _ _ _ _ _ _ wd by rw [hwd];exact H0.out.belw (Bel.refl _).drew);have HWD:=h_ hwd;clear hwd H0;obtain⟨go,cap,c5,_⟩:=HD.out.out hDne;have KS:=h_ (fun(W:World) (kk:Bel wd W)=>show W.cell? ⟨kb,5,none⟩=some (.slice (some ⟨go,0,none⟩) DD.length cap)/\W.cell? ⟨wr.heap.size,0,none⟩=some (Value.string (S x.name))/\W.cell? ⟨wr.heap.size,1,none⟩=some (.slice u1 x.fields.length y1)/\W.cell? ⟨wr.heap.size,2,none⟩=some (.slice u2 x.res.length y2)/\W.cell? ⟨wr.heap.size,3,none⟩=some (.slice u3 x.gone.length y3)/\W.cell? ⟨wr.heap.size,4,none⟩=some (.slice u4 x.notes.length y4)from⟨kk.some c5,kk.some (HD.out.cell 0 rfl 0),kk.some (HD.out.cell 0 rfl 1),kk.some (HD.out.cell 0 rfl 2),kk.some (HD.out.cell 0 rfl 3),kk.some (HD.out.cell 0 rfl 4)⟩);clear c5;have CR:=h_ (qqd kb DD x.name u1 u2 u3 u4 _ _ _ _ y1 y2 y3 y4 x wd (qje HD.out (by omega)) (VMsg.stays _ _ _ _ HD.out.bel hvs0.out) (hP.bel HD.out.bel) (hM.below HD.out.bel.out) (fun d hd=>Nat.le_trans (HNB.out d hd) (by omega)) (by omega) (by omega) (fun f hf=>⟨Nat.le_trans (hbx.2.2 f hf).1 (by omega),Nat.le_trans (hbx.2.2 f hf).2 (by omega)⟩));refine qak (fun W=>W.cell? ⟨kb,5,none⟩=some (.slice (some ⟨go,0,none⟩) DD.length cap)/\W.cell? ⟨wr.heap.size,0,none⟩=some (Value.string (S x.name))/\W.cell? ⟨wr.heap.size,1,none⟩=some (.slice u1 x.fields.length y1)/\W.cell? ⟨wr.heap.size,2,none⟩=some (.slice u2 x.res.length y2)/\W.cell? ⟨wr.heap.size,3,none⟩=some (.slice u3 x.gone.length y3)/\W.cell? ⟨wr.heap.size,4,none⟩=some (.slice u4 x.notes.length y4)) [(0,true),(1,true),(2,true),(3,true),(4,true),(5,true),(6,true),(7,false)] 8 (by kernel_rfl) (by kernel_rfl) HWD.out (KS.out _ (Bel.refl _)) ?_;simp only [qb3,List.getElem?_cons_zero,List.getElem?_cons_succ]
       (with_reducible refine qa1 (v:=?vv220) (by with_unfolding_all rfl) (fun W hW=>?hy220) ?hr220);(case hy220=>((try dsimp only at hW);go_simp;(all_goals with_reducible rfl)));(simp only [Act.put,z_1,z_2,z_3])
       (with_reducible refine qa1 (v:=?vv221) (by with_unfolding_all rfl) (fun W hW=>?hy221) ?hr221);(case hy221=>((try dsimp only at hW);go_simp;(all_goals with_reducible rfl)));(simp only [Act.put,z_1,z_2,z_3])
       (with_reducible refine qa1 (v:=?vv222) (by with_unfolding_all rfl) (fun W hW=>?hy222) ?hr222);(case hy222=>((try dsimp only at hW);go_simp;(all_goals with_reducible rfl)));(simp only [Act.put,z_1,z_2,z_3])
       (with_reducible refine qa1 (v:=?vv223) (by with_unfolding_all rfl) (fun W hW=>?hy223) ?hr223);(case hy223=>((try dsimp only at hW);go_simp;(all_goals with_reducible rfl)));(simp only [Act.put,z_1,z_2,z_3])
       (with_reducible refine qa1 (v:=?vv224) (by with_unfolding_all rfl) (fun W hW=>?hy224) ?hr224);(case hy224=>((try dsimp only at hW);go_simp;(all_goals with_reducible rfl)));(simp only [Act.put,z_1,z_2,z_3])
       (with_reducible refine qa1 (v:=?vv225) (by with_unfolding_all rfl) (fun W hW=>?hy225) ?hr225);(case hy225=>((try dsimp only at hW);go_simp;(all_goals with_reducible rfl)));(simp only [Act.put,z_1,z_2,z_3])
       (with_reducible refine qa1 (v:=?vv226) (by with_unfolding_all rfl) (fun W hW=>?hy226) ?hr226);(case hy226=>((try dsimp only at hW);go_simp;(all_goals with_reducible rfl)));(simp only [Act.put,z_1,z_2,z_3])
       with_reducible refine qaj (fun K hK=>?_)
       go_simp
       with_reducible refine CR.out.mono ?_
       rintro e w2 ⟨v,rfl,own,g2⟩;obtain⟨qv,cv,rfl⟩:=qa9 own;have H2:=(HD.out.addrow g2 own);have H2:=H2.endrow;have c5:=(KS.out _ g2).1;refine hK _ _ (KS.out _ g2) ?_;clear hK K CR KS HD own g2
       (try simp only [Act.put,z_1,z_2,z_3])
       refine qbm ?_;simp only [t_3,t_4];obtain⟨go',cap',c5',hset⟩:=H2.out hDne
       have hgc:(go'=go/\cap'=cap):=by
        have:=c5'.symm.trans c5
        simpa using this
       obtain⟨rfl,rfl⟩:=hgc;obtain⟨fz,⟨uo,hu⟩,hfin⟩:=hset (.slice qv (qdp DD x).length cv) hMlt;have H3:=h_ hfin;have hMi:(M.length:Int)<(DD.length:Int):=by omega
       clear hset c5' H2 hfin
       go_upto_region 29 with(fail)
       generalize hW:World.setCell w2 _ _=w3;have hWh:w2.setCell ⟨go',M.length*4+3,none⟩ (.slice qv (qdp DD x).length cv)=w3:=hW;rw [hWh]at H3;clear hW hWh fz hu uo c5;have H3b:=MK.more H3.out hML.out;have H3:=h_ H3b;clear H3b;have hl1:=h_ (show((M ++ [Value.slice qv (qdp DD x).length cv]).length:Int)=(M.length:Int)+1 by rw [List.length_append];rfl);have hML1:=h_ (show(M ++ [Value.slice qv (qdp DD x).length cv]).length=(L ++ [qdp DD x]).length by rw [List.length_append,List.length_append,hML.out];rfl);have f0:=H3.out.cell 0 rfl 0;have f1:=H3.out.cell 0 rfl 1;have f2:=H3.out.cell 0 rfl 2;have f3:=H3.out.cell 0 rfl 3;have f4:=H3.out.cell 0 rfl 4;dsimp only at f0 f1 f2 f3 f4;have CUN:=h_ (qkw x.name u1 u2 u3 u4 _ _ _ _ y1 y2 y3 y4 x w3 (VMsg.stays _ _ _ _ H3.out.bel hvs0.out) (by omega))
       have hLXl:LX.length<=LM.length:=by
        have:=congrArg List.length hfo1.out;rw [List.length_append]at this;omega
       generalize hUS:qbt x=us at CUN HLX hul hus hln;generalize M ++ [Value.slice qv (qdp DD x).length cv]=M1 at H3 hl1 hML1;generalize L ++ [qdp DD x]=L1 at H3 hML1 HLX;clear hUS hML hMi hln
       go_upto_region 31 with(go_at_call 38;(with_reducible refine CUN.out.mono ?_);rintro e w4 ⟨vu,rfl,hown,g4⟩;obtain⟨qu,cu,rfl⟩:=qa9 hown;have H4:=h_ (H3.out.addrow g4 hown);clear hown g4 H3 f0 f1 f2 f3 f4 CUN)
       generalize wr.heap.size=mb at H4 ⊢
       go_loopw [14,118] (fun a i2 wr => ∃(j:Nat) (M2:List Value) (L2:List (List PMem)),j<=us.length/\a=.int .i64 (M2.length:Int)/\i2=.int .i64 j/\Hid (MK w kb (.slice (some ⟨b,off,none⟩) s.msgs.length sc1) (.slice sq2 s.enums.length sc2) (.slice sq3 s.svcs.length sc3) DD M2 (⟨9,1,.slice qu us.length cu,us.length,nmC us⟩ :: mrows M2 L2) [⟨mb,#[.string (S x.name),.slice u1 x.fields.length y1,.slice u2 x.res.length y2,.slice u3 x.gone.length y3,.slice u4 x.notes.length y4],44⟩,⟨w.heap.size,#[.slice (some ⟨b,off,none⟩) s.msgs.length sc1,.slice sq2 s.enums.length sc2,.slice sq3 s.svcs.length sc3],26⟩] wr)/\Hid (M2.length=L2.length)/\Hid (L2 ++ (us.drop j).map (qdk DD x)=LX)) (fun _ i2 _=>us.length-(intOf i2).toNat)
       case atStart=>exact⟨0,M1,L1,by omega,by(rw [hl1.out];try go_num),rfl,H4,hML1,HLX⟩
       case round=>
        clear H4 hML1 HLX hl1;obtain⟨j,M2,L2,hj,rfl,rfl,hMK2,hML2,hch⟩:=hrel;by_cases hlt2:j<us.length
        ·have hji:(j:Int)<(us.length:Int):=by omega
         obtain⟨vn2,vw2,vo2,hS2⟩:=hMK2.out;obtain⟨gu,cu2,hqe,hcells⟩:=qew (hS2.row 3 rfl) (show us.length ≠ 0 by omega);have hqe':Value.slice qu us.length cu=.slice (some ⟨gu,0,none⟩) us.length cu2:=hqe;cases hqe';have hcu:=hcells j (.string (S us[j])) (by show(nmC us)[j]? = _;unfold nmC;rw [List.getElem?_map,List.getElem?_eq_getElem hlt2];rfl);have hch2:=h_ (show(L2 ++ [qdk DD x us[j]]) ++ (us.drop (j+1)).map (qdk DD x)=LX by rw [←hch.out,List.drop_eq_getElem_cons hlt2,List.map_cons,List.append_assoc];rfl)
         have hMlt:M2.length<DD.length:=by
          have hAL:=HAL.out;have h1:=congrArg List.length hch2.out;have h2:=hML2.out;simp only [List.length_append,List.length_cons,List.length_nil]at h1;omega
         clear hS2 hcells hch hqe;generalize us[j]=uu at *;have H0:=h_ hMK2.out;clear hMK2
         go_upto_region 33 with(fail)
         obtain⟨wd,hwd⟩ : ∃wd,wd=wr.drew:=⟨_,rfl⟩;have HD:=h_ (show MK _ _ _ _ _ _ _ _ _ wd by rw [hwd];exact H0.out.belw (Bel.refl _).drew);have HWD:=h_ hwd;clear hwd H0;obtain⟨go,cap,c5,_⟩:=HD.out.out hDne;have KS:=h_ (fun(W:World) (kk:Bel wd W)=>show W.cell? ⟨kb,5,none⟩=some (.slice (some ⟨go,0,none⟩) DD.length cap)/\W.cell? ⟨mb,0,none⟩=some (Value.string (S x.name))/\W.cell? ⟨mb,1,none⟩=some (.slice u1 x.fields.length y1)/\W.cell? ⟨mb,2,none⟩=some (.slice u2 x.res.length y2)/\W.cell? ⟨mb,3,none⟩=some (.slice u3 x.gone.length y3)/\W.cell? ⟨mb,4,none⟩=some (.slice u4 x.notes.length y4)from⟨kk.some c5,kk.some (HD.out.cell 0 rfl 0),kk.some (HD.out.cell 0 rfl 1),kk.some (HD.out.cell 0 rfl 2),kk.some (HD.out.cell 0 rfl 3),kk.some (HD.out.cell 0 rfl 4)⟩);clear c5;have CR:=h_ (qqf kb DD x.name u1 u2 u3 u4 _ _ _ _ y1 y2 y3 y4 x uu wd (qje HD.out (by omega)) (VMsg.stays _ _ _ _ HD.out.bel hvs0.out) (hP.bel HD.out.bel) (hM.below HD.out.bel.out) (by omega) (fun f hf=>Nat.le_trans (hbx.2.2 f hf).1 (by omega)));refine qak (fun W=>W.cell? ⟨kb,5,none⟩=some (.slice (some ⟨go,0,none⟩) DD.length cap)/\W.cell? ⟨mb,0,none⟩=some (Value.string (S x.name))/\W.cell? ⟨mb,1,none⟩=some (.slice u1 x.fields.length y1)/\W.cell? ⟨mb,2,none⟩=some (.slice u2 x.res.length y2)/\W.cell? ⟨mb,3,none⟩=some (.slice u3 x.gone.length y3)/\W.cell? ⟨mb,4,none⟩=some (.slice u4 x.notes.length y4)) [(0,true),(1,true),(2,true),(3,true),(4,true),(5,true),(6,true),(7,true),(8,false)] 9 (by kernel_rfl) (by kernel_rfl) HWD.out (KS.out _ (Bel.refl _)) ?_;simp only [qb3,List.getElem?_cons_zero,List.getElem?_cons_succ]
         (with_reducible refine qa1 (v:=?vv227) (by with_unfolding_all rfl) (fun W hW=>?hy227) ?hr227);(case hy227=>((try dsimp only at hW);go_simp;(all_goals with_reducible rfl)));(simp only [Act.put,z_1,z_2,z_3])
         (with_reducible refine qa1 (v:=?vv228) (by with_unfolding_all rfl) (fun W hW=>?hy228) ?hr228);(case hy228=>((try dsimp only at hW);go_simp;(all_goals with_reducible rfl)));(simp only [Act.put,z_1,z_2,z_3])
         (with_reducible refine qa1 (v:=?vv229) (by with_unfolding_all rfl) (fun W hW=>?hy229) ?hr229);(case hy229=>((try dsimp only at hW);go_simp;(all_goals with_reducible rfl)));(simp only [Act.put,z_1,z_2,z_3])
         (with_reducible refine qa1 (v:=?vv230) (by with_unfolding_all rfl) (fun W hW=>?hy230) ?hr230);(case hy230=>((try dsimp only at hW);go_simp;(all_goals with_reducible rfl)));(simp only [Act.put,z_1,z_2,z_3])
         (with_reducible refine qa1 (v:=?vv231) (by with_unfolding_all rfl) (fun W hW=>?hy231) ?hr231);(case hy231=>((try dsimp only at hW);go_simp;(all_goals with_reducible rfl)));(simp only [Act.put,z_1,z_2,z_3])
         (with_reducible refine qa1 (v:=?vv232) (by with_unfolding_all rfl) (fun W hW=>?hy232) ?hr232);(case hy232=>((try dsimp only at hW);go_simp;(all_goals with_reducible rfl)));(simp only [Act.put,z_1,z_2,z_3])
         (with_reducible refine qa1 (v:=?vv233) (by with_unfolding_all rfl) (fun W hW=>?hy233) ?hr233);(case hy233=>((try dsimp only at hW);go_simp;(all_goals with_reducible rfl)));(simp only [Act.put,z_1,z_2,z_3])
         (with_reducible refine qa1 (v:=?vv234) (by with_unfolding_all rfl) (fun W hW=>?hy234) ?hr234);(case hy234=>((try dsimp only at hW);go_simp;(all_goals with_reducible rfl)));(simp only [Act.put,z_1,z_2,z_3])
         with_reducible refine qaj (fun K hK=>?_)
         go_simp
         with_reducible refine CR.out.mono ?_
         rintro e w2 ⟨v,rfl,own,g2⟩;obtain⟨qv,cv,rfl⟩:=qa9 own;have H2:=(HD.out.addrow g2 own);have H2:=H2.endrow;have c5:=(KS.out _ g2).1;refine hK _ _ (KS.out _ g2) ?_;clear hK K CR KS HD own g2
         (try simp only [Act.put,z_1,z_2,z_3])
         refine qbm ?_;simp only [t_3,t_4];obtain⟨go',cap',c5',hset⟩:=H2.out hDne
         have hgc:(go'=go/\cap'=cap):=by
          have:=c5'.symm.trans c5
          simpa using this
         obtain⟨rfl,rfl⟩:=hgc;obtain⟨fz,⟨uo,hu⟩,hfin⟩:=hset (.slice qv (qdk DD x uu).length cv) hMlt;have H3:=h_ hfin;have hMi:(M2.length:Int)<(DD.length:Int):=by omega
         clear hset c5' H2 hfin;clear hcu
         go_upto_region 34 with(fail)
         generalize hW:World.setCell w2 _ _=w3;have hWh:w2.setCell ⟨go',M2.length*4+3,none⟩ (.slice qv (qdk DD x uu).length cv)=w3:=hW;rw [hWh]at H3;clear hW hWh fz hu uo c5;go_wp2;go_roundw
         case rel=>exact⟨j+1,M2 ++ [.slice qv (qdk DD x uu).length cv],L2 ++ [qdk DD x uu],by omega,by rw [List.length_append];go_num,by go_num,h_ (MK.more1 H3.out hML2.out),h_ (by rw [List.length_append,List.length_append,hML2.out];rfl),hch2⟩
         case measure=>simp [intOf];omega
        ·have hjl:j=us.length:=by omega
         have hxe2:L2=LX:=by have:=hch.out;rw [hjl,List.drop_length]at this;simpa using this
         subst hxe2;go_wp2;go_roundw
         case rel=>exact⟨k+1,M2,_,by omega,rfl,by go_num,h_ hMK2.out.droprow.dropbox,hML2,hfo1⟩
         case measure=>simp [intOf];omega
      ·have hkl:k=s.msgs.length:=by omega
       have hxe:L=LM:=by have:=hfo.out;rw [hkl,List.drop_length]at this;simpa using this
       subst hxe;go_wp2;go_meet;exact⟨M,rfl,hMK.out,hML.out⟩
    case rest=>
     obtain⟨M0,hs14,hMK,hML0⟩:=hcut;subst hs14;have HM:=h_ hMK;have HML0:=h_ hML0;clear hMK hML0;have c0:=HM.out.cell 0 rfl 1;dsimp only at c0
     go_upto_block 12 with(fail)
     go_cut [14] (fun s14 wx => ∃M:List Value,s14=.int .i64 (M.length:Int)/\MK w kb (.slice sq1 s.msgs.length sc1) (.slice sq2 s.enums.length sc2) (.slice sq3 s.svcs.length sc3) DD M (mrows M (LM ++ LE)) [⟨w.heap.size,#[.slice sq1 s.msgs.length sc1,.slice sq2 s.enums.length sc2,.slice sq3 s.svcs.length sc3],26⟩] wx/\M.length=(LM ++ LE).length)
     case first=>
      go_wp2
      go_loopw [14,140] (fun a i wr => ∃(k:Nat) (M:List Value) (L:List (List PMem)),k<=s.enums.length/\a=.int .i64 (M.length:Int)/\i=.int .i64 k/\Hid (MK w kb (.slice sq1 s.msgs.length sc1) (.slice sq2 s.enums.length sc2) (.slice sq3 s.svcs.length sc3) DD M (mrows M L) [⟨w.heap.size,#[.slice sq1 s.msgs.length sc1,.slice sq2 s.enums.length sc2,.slice sq3 s.svcs.length sc3],26⟩] wr)/\Hid (M.length=L.length)/\Hid (L ++ (s.enums.drop k).map items=LM ++ LE)) (fun _ i _=>s.enums.length-(intOf i).toNat)
      case atStart=>exact⟨0,M0,LM,by omega,rfl,rfl,HM,HML0,h_ (by rw [HLE.out];rfl)⟩
      case round=>as_aux_lemma=>
       clear HM c0 HML0;obtain⟨k,M,L,hk,rfl,rfl,hMK,hML,hfo⟩:=hrel;by_cases hlt:k<s.enums.length
       ·have hfo1:=h_ (show(L ++ [items s.enums[k]]) ++ (s.enums.drop (k+1)).map items=LM ++ LE by rw [←hfo.out,List.drop_eq_getElem_cons hlt,List.map_cons,List.append_assoc];rfl)
        have hMlt:M.length<DD.length:=by
         have hAL:=HAL.out;have h1:=congrArg List.length hfo1.out;have h2:=hML.out;simp only [List.length_append,List.length_cons,List.length_nil]at h1;omega
        have hDne:DD.length ≠ 0:=by omega
        clear hfo;have hki:(k:Int)<(s.enums.length:Int):=by omega
        have hg:=List.getElem?_eq_getElem hlt;have hmem:=List.getElem_mem hlt;have hbx:=HB.out.e _ hmem;obtain⟨b,off,hqq,hbs,cs,hce,hvs⟩:=EL2.out k _ hg;subst hqq;have hvs0:=h_ hvs;obtain⟨_,_,_,hvv,g1,g2,g3⟩:=hvs;obtain⟨u1,y1,rfl,_⟩:=qa5 g1;obtain⟨u2,y2,rfl,_⟩:=qa5 g2;obtain⟨u3,y3,rfl,_⟩:=qa5 g3;subst hvv;have kr:=hMK.out.bel;have e0:=kr.some (hce 0 _ rfl);rw [Nat.add_zero]at e0;have e1:=kr.some (hce 1 _ rfl);have e2:=kr.some (hce 2 _ rfl);have e3:=kr.some (hce 3 _ rfl);have e4:=kr.some (hce 4 _ rfl);have hwf:VEnum w [.string (S s.enums[k].name),.bool s.enums[k].op,.slice u1 s.enums[k].items.length y1,.slice u2 s.enums[k].res.length y2,.slice u3 s.enums[k].notes.length y3] s.enums[k]:=hvs0.out;obtain⟨_,_,_,hcw,gi,_,_⟩:=hwf;cases hcw;obtain⟨qi,ci,hqi,hli,hci,heli⟩:=gi;cases hqi;generalize s.enums[k]=x at *;clear hg hce hmem hvs0;have ELI:=h_ heli;have HIT:=h_ (show itGo [] (x.items.drop 0)=items x from rfl);have H0:=h_ (hMK.out.addbox #[.string (S x.name),.bool x.op,.slice u1 x.items.length y1,.slice u2 x.res.length y2,.slice u3 x.notes.length y3] 74);clear hMK heli
        go_upto_region 40 with(fail)
        clear e0 e1 e2 e3 e4;generalize hwe:wr.alloc (.cells #[.string (S x.name),.bool x.op,.slice u1 x.items.length y1,.slice u2 x.res.length y2,.slice u3 x.notes.length y3] 74)=we at H0 ⊢;obtain⟨vn,vw,go,cap,hE⟩:=en_start H0.out hDne;have HE:=h_ hE;generalize wr.heap.size=eb at HE H0 ⊢;clear hE H0 hwe;have i2:(we.alloc (.cells #[.slice none 0 0,.slice none 0 0] 97)).cell? ⟨eb,2,none⟩=some (.slice u1 x.items.length y1):=HE.out.cell 2 rfl 2
        go_upto_region 42 with(fail)
        clear i2;generalize hwn:World.alloc we _=wn at HE ⊢;generalize we.heap.size=nb at HE ⊢;clear hwn
        go_loopw [147] (fun i2 wr => ∃(j:Nat) (out:List PMem) (v vnn vww:Value),j<=x.items.length/\i2=.int .i64 j/\Hid (ST w (memR vnn vww v out (rowsB vn vw go cap DD (M ++ [v]) (mrows M L))) [⟨nb,#[vnn,vww],97⟩,⟨kb,#[.slice sq1 s.msgs.length sc1,.slice (some ⟨b,off,none⟩) s.enums.length sc2,.slice sq3 s.svcs.length sc3,vn,vw,.slice (some ⟨go,0,none⟩) DD.length cap],89⟩,⟨eb,#[.string (S x.name),.bool x.op,.slice u1 x.items.length y1,.slice u2 x.res.length y2,.slice u3 x.notes.length y3],74⟩,⟨w.heap.size,#[.slice sq1 s.msgs.length sc1,.slice (some ⟨b,off,none⟩) s.enums.length sc2,.slice sq3 s.svcs.length sc3],26⟩] wr)/\out.length<=j/\Hid (itGo out (x.items.drop j)=items x)) (fun i2 _=>x.items.length-(intOf i2).toNat)
        case atStart=>exact⟨0,[],_,_,_,by omega,rfl,HE,by simp,HIT⟩
        case round=>
         clear HE HIT;obtain⟨j,out,v,vnn,vww,hj,rfl,hSH,hol,hx⟩:=hrel;by_cases hlt2:j<x.items.length
         ·have hji:(j:Int)<(x.items.length:Int):=by omega
          have hg2:=List.getElem?_eq_getElem hlt2;have hnm:=hbx.2.2 _ (List.getElem_mem hlt2);obtain⟨bi,oi,rfl,hbsi,vs,hcei,hvsi⟩:=ELI.out j _ hg2;obtain⟨_,hvs1,hnt⟩:=hvsi;obtain⟨r5,d5,hnv,hnl⟩:=qa5 hnt;subst hvs1 hnv;have hstep:=h_ (show itGo (addM out x.items[j].name [] x.items[j].num) (x.items.drop (j+1))=items x by have:=hx.out;rwa [List.drop_eq_getElem_cons hlt2,itGo]at this);rw [qfy]at hstep;generalize x.items[j]=it at *;have hb0:=hSH.out.bel;have z0:=hb0.some (hcei 0 _ rfl);rw [Nat.add_zero]at z0;have z1:=hb0.some (hcei 1 _ rfl);have z2:=hb0.some (hcei 2 _ rfl);have HA:=h_ (hSH.out.addbox #[.string (S it.name),.int .i64 it.num,.slice r5 it.notes.length d5] 76);have hol2:(out.map (·.name)).length<=1000000000:=by rw [List.length_map];omega
          have cam:=h_ (fun W (kk:Bel w W)=>qdq (S it.name) it.name W (qah _) (by rw [qai];omega) (hM.below kk.out));have hcl:=qc0 it.name;generalize Id.camel it.name=CN at cam hcl hstep;generalize hU:qbl (out.map (·.name)) CN=U at hstep;have HU:=h_ hU;have hMi:(M.length:Int)<(DD.length:Int):=by omega
          clear hU hx hcei hg2 hnt hb0 hSH
          go_upto_region 44 with(fail)
          clear z0 z1 z2;obtain⟨wd,hwd⟩ : ∃wd,wd=(wr.alloc (.cells #[.string (S it.name),.int .i64 it.num,.slice r5 it.notes.length d5] 76)).drew:=⟨_,rfl⟩;have HD:=h_ (show ST w _ _ wd by rw [hwd];exact HA.out.belw (Bel.refl _).drew);have HWD:=h_ hwd;clear hwd HA;generalize wr.heap.size=ib at HD ⊢;have SS:=h_ (fun(vnn' vww' v':Value) (n1 n2 n3:Nat) (x1 x2 x3:List Value) (X:List Box) (W:World) (hs:ST w (⟨9,1,vnn',n1,x1⟩ :: ⟨3,1,vww',n2,x2⟩ :: ⟨80,3,v',n3,x3⟩ :: (rowsB vn vw go cap DD (M ++ [v]) (mrows M L))) X W) (i:Nat) (hi:X[i]? = some ⟨ib,#[.string (S it.name),.int .i64 it.num,.slice r5 it.notes.length d5],76⟩) (i':Nat) (hi':X[i']? = some ⟨kb,#[.slice sq1 s.msgs.length sc1,.slice (some ⟨b,off,none⟩) s.enums.length sc2,.slice sq3 s.svcs.length sc3,vn,vw,.slice (some ⟨go,0,none⟩) DD.length cap],89⟩)=>show W.cell? ⟨kb,5,none⟩=some (.slice (some ⟨go,0,none⟩) DD.length cap)/\W.cell? ⟨go,M.length*4+3,none⟩=some v/\W.cell? ⟨ib,0,none⟩=some (.string (S it.name))/\W.cell? ⟨ib,1,none⟩=some (.int .i64 it.num)from⟨hs.cell i' hi' 5,hs.rowcell 5 rfl rfl _ _ (qnq DD M v hMlt),hs.cell i hi 0,hs.cell i hi 1⟩);refine qak (fun W=>W.cell? ⟨kb,5,none⟩=some (.slice (some ⟨go,0,none⟩) DD.length cap)/\W.cell? ⟨go,M.length*4+3,none⟩=some v/\W.cell? ⟨ib,0,none⟩=some (.string (S it.name))/\W.cell? ⟨ib,1,none⟩=some (.int .i64 it.num)) [(0,true),(1,true),(2,true),(3,true),(4,true),(5,true),(6,true),(7,true),(8,true),(9,true),(10,true),(11,true),(12,true),(13,true),(14,true),(16,true),(17,true),(19,true),(20,true),(15,false),(18,false),(21,true),(22,false),(23,false)] 24 (by kernel_rfl) (by kernel_rfl) HWD.out (SS.out _ _ _ _ _ _ _ _ _ _ _ HD.out 0 rfl 2 rfl) ?_;simp only [qb3,List.getElem?_cons_zero,List.getElem?_cons_succ]
          (with_reducible refine qa1 (v:=?vv235) (by with_unfolding_all rfl) (fun W hW=>?hy235) ?hr235);(case hy235=>((try dsimp only at hW);go_simp;(all_goals with_reducible rfl)));(simp only [Act.put,z_1,z_2,z_3])
          (with_reducible refine qa1 (v:=?vv236) (by with_unfolding_all rfl) (fun W hW=>?hy236) ?hr236);(case hy236=>((try dsimp only at hW);go_simp;(all_goals with_reducible rfl)));(simp only [Act.put,z_1,z_2,z_3])
          (with_reducible refine qa1 (v:=?vv237) (by with_unfolding_all rfl) (fun W hW=>?hy237) ?hr237);(case hy237=>((try dsimp only at hW);go_simp;(all_goals with_reducible rfl)));(simp only [Act.put,z_1,z_2,z_3])
          (with_reducible refine qa1 (v:=?vv238) (by with_unfolding_all rfl) (fun W hW=>?hy238) ?hr238);(case hy238=>((try dsimp only at hW);go_simp;(all_goals with_reducible rfl)));(simp only [Act.put,z_1,z_2,z_3])
          (with_reducible refine qa1 (v:=?vv239) (by with_unfolding_all rfl) (fun W hW=>?hy239) ?hr239);(case hy239=>((try dsimp only at hW);go_simp;(all_goals with_reducible rfl)));(simp only [Act.put,z_1,z_2,z_3])
          (with_reducible refine qa1 (v:=?vv240) (by with_unfolding_all rfl) (fun W hW=>?hy240) ?hr240);(case hy240=>((try dsimp only at hW);go_simp;(all_goals with_reducible rfl)));(simp only [Act.put,z_1,z_2,z_3])
          (with_reducible refine qa1 (v:=?vv241) (by with_unfolding_all rfl) (fun W hW=>?hy241) ?hr241);(case hy241=>((try dsimp only at hW);go_simp;(all_goals with_reducible rfl)));(simp only [Act.put,z_1,z_2,z_3])
          (with_reducible refine qa1 (v:=?vv242) (by with_unfolding_all rfl) (fun W hW=>?hy242) ?hr242);(case hy242=>((try dsimp only at hW);go_simp;(all_goals with_reducible rfl)));(simp only [Act.put,z_1,z_2,z_3])
          (with_reducible refine qa1 (v:=?vv243) (by with_unfolding_all rfl) (fun W hW=>?hy243) ?hr243);(case hy243=>((try dsimp only at hW);go_simp;(all_goals with_reducible rfl)));(simp only [Act.put,z_1,z_2,z_3])
          (with_reducible refine qa1 (v:=?vv244) (by with_unfolding_all rfl) (fun W hW=>?hy244) ?hr244);(case hy244=>((try dsimp only at hW);go_simp;(all_goals with_reducible rfl)));(simp only [Act.put,z_1,z_2,z_3])
          (with_reducible refine qa1 (v:=?vv245) (by with_unfolding_all rfl) (fun W hW=>?hy245) ?hr245);(case hy245=>((try dsimp only at hW);go_simp;(all_goals with_reducible rfl)));(simp only [Act.put,z_1,z_2,z_3])
          (with_reducible refine qa1 (v:=?vv246) (by with_unfolding_all rfl) (fun W hW=>?hy246) ?hr246);(case hy246=>((try dsimp only at hW);go_simp;(all_goals with_reducible rfl)));(simp only [Act.put,z_1,z_2,z_3])
          (with_reducible refine qa1 (v:=?vv247) (by with_unfolding_all rfl) (fun W hW=>?hy247) ?hr247);(case hy247=>((try dsimp only at hW);go_simp;(all_goals with_reducible rfl)));(simp only [Act.put,z_1,z_2,z_3])
          (with_reducible refine qa1 (v:=?vv248) (by with_unfolding_all rfl) (fun W hW=>?hy248) ?hr248);(case hy248=>((try dsimp only at hW);go_simp;(all_goals with_reducible rfl)));(simp only [Act.put,z_1,z_2,z_3])
          (with_reducible refine qa1 (v:=?vv249) (by with_unfolding_all rfl) (fun W hW=>?hy249) ?hr249);(case hy249=>((try dsimp only at hW);go_simp;(all_goals with_reducible rfl)));(simp only [Act.put,z_1,z_2,z_3])
          (with_reducible refine qa1 (v:=?vv250) (by with_unfolding_all rfl) (fun W hW=>?hy250) ?hr250);(case hy250=>((try dsimp only at hW);go_simp;(all_goals with_reducible rfl)));(simp only [Act.put,z_1,z_2,z_3])
          (with_reducible refine qa1 (v:=?vv251) (by with_unfolding_all rfl) (fun W hW=>?hy251) ?hr251);(case hy251=>((try dsimp only at hW);go_simp;(all_goals with_reducible rfl)));(simp only [Act.put,z_1,z_2,z_3])
          (with_reducible refine qa1 (v:=?vv252) (by with_unfolding_all rfl) (fun W hW=>?hy252) ?hr252);(case hy252=>((try dsimp only at hW);go_simp;(all_goals with_reducible rfl)));(simp only [Act.put,z_1,z_2,z_3])
          (with_reducible refine qa1 (v:=?vv253) (by with_unfolding_all rfl) (fun W hW=>?hy253) ?hr253);(case hy253=>((try dsimp only at hW);go_simp;(all_goals with_reducible rfl)));(simp only [Act.put,z_1,z_2,z_3])
          with_reducible refine qaj (fun K hK=>?_)
          go_simp
          with_reducible refine(cam.out _ HD.out.bel).mono ?_
          rintro e w1 ⟨rfl,g1⟩;have H1:=h_ (HD.out.belw g1).swapX;refine hK _ _ (SS.out _ _ _ _ _ _ _ _ _ _ _ H1.out 1 rfl 2 rfl) ?_;clear hK K g1 HD cam
          (try simp only [Act.put,z_1,z_2,z_3])
          have ADD:=h_ (qeq w _ _ _ _ vnn vww (out.map fun x:PMem=>x.name) _ CN it.num w1 H1.out hP (by omega) hol2);rw [HU.out]at ADD
          with_reducible refine qaj (fun K hK=>?_)
          go_simp
          with_reducible refine ADD.out.mono ?_
          rintro e w2 ⟨vnn',vww',rfl,h2⟩;have H2:=h_ h2;refine hK _ _ (SS.out _ _ _ _ _ _ _ _ _ _ _ H2.out 1 rfl 2 rfl) ?_;clear hK K h2 ADD H1
          (try simp only [Act.put,z_1,z_2,z_3])
          (with_reducible refine qa1 (v:=?vv254) (by with_unfolding_all rfl) (fun W hW=>?hy254) ?hr254);(case hy254=>((try dsimp only at hW);go_simp;(all_goals with_reducible rfl)));(simp only [Act.put,z_1,z_2,z_3])
          with_reducible refine qaj (fun K hK=>?_)
          go_simp;have H4:=h_ (H2.out.belw ((Bel.refl w2).alloc (.cells #[.string (S U),.string (S []),.int .i64 it.num] 80)))
          refine hK _ _ (SS.out _ _ _ _ _ _ _ _ _ _ _ H4.out 1 rfl 2 rfl) ?_;clear hK K H2
          (try simp only [Act.put,z_1,z_2,z_3])
          have hol3:out.length<=2000000:=by omega
          with_reducible refine qaj (fun K hK=>?_)
          refine step_append_lies _ (by rfl) _ _ 45 (by rfl) w.heap.size 80 i1 (.agg #[.string ByteArray.empty,.string ByteArray.empty,.int .i64 0]) 3 40 Tryz.underlying45 hi1 hy0 hy1 hy2 rfl (by decide) v out.length _ (by rfl) (H4.out.row 2 rfl) ⟨w2.heap.size,0,none⟩ 1 1 [.string (S U),.string (S []),.int .i64 it.num] (by rfl) (by rfl) (qaz _ _ _) (by simp [Value.oneCell']) (by decide) (by unfold maxLen;omega) (by omega) H4.out.bel.size (w2.heap.size+1) (by simp) ?_;intro g3 cap3 w5 hown hgrow hfr3 hlt3;have H5:=h_ (H4.out.grow 2 rfl hgrow hown (qby hfr3 (by simp)));refine hK _ _ (SS.out _ _ _ _ _ _ _ _ _ _ _ H5.out 1 rfl 2 rfl) ?_;clear hK K H4 hown hgrow hfr3 hlt3
          (try simp only [Act.put,z_1,z_2,z_3])
          refine qbm ?_;simp only [t_3,t_4];have hu:=(SS.out _ _ _ _ _ _ _ _ _ _ _ H5.out 1 rfl 2 rfl).2.1;have fz:w5.frozen? ⟨go,M.length*4+3,none⟩=false:=H5.out.rowfrz 5 rfl rfl _;have H6:=H5.out.setrow 5 rfl rfl (M.length*4+3) (.slice (some ⟨g3,0,none⟩) (out.length+1) cap3);have H7:=h_ (H6.dropboxAt 1 rfl);have hoc:=h_ (qjc DD M (.slice (some ⟨g3,0,none⟩) (out.length+1) cap3) v hMlt);clear H5 H6 SS;go_wp2;go_roundw
          case rel=>
           refine⟨j+1,out ++ [⟨U,[],it.num⟩],.slice (some ⟨g3,0,none⟩) (out.length+1) cap3,vnn',vww',by omega,by go_num,h_ ?_,by simp;omega,hstep⟩;rw [←qd6];unfold rowsB;rw [←hoc.out];exact H7.out
          case measure=>simp [intOf];omega
         ·have hjl:j=x.items.length:=by omega
          have hxe2:out=items x:=by have:=hx.out;rw [hjl,List.drop_length]at this;exact this
          subst hxe2;have H8:=h_ (MK.more (en_fin hSH.out) hML.out);clear hSH;go_wp2;go_roundw
          case rel=>exact⟨k+1,M ++ [v],L ++ [items x],by omega,by rw [List.length_append];go_num,by go_num,H8,h_ (by rw [List.length_append,List.length_append,hML.out];rfl),hfo1⟩
          case measure=>simp [intOf];omega
       ·have hkl:k=s.enums.length:=by omega
        have hxe:L=LM ++ LE:=by have:=hfo.out;rw [hkl,List.drop_length]at this;simpa using this
        subst hxe;go_wp2;go_meet;exact⟨M,rfl,hMK.out,hML.out⟩
     case rest=>
      obtain⟨M0,hs14,hMK,hML0⟩:=hcut;subst hs14;have HM:=h_ hMK;have HML0:=h_ hML0;clear hMK hML0;have c0:=HM.out.cell 0 rfl 2;dsimp only at c0
      go_upto_block 16 with(fail)
      go_cut [14] (fun s14 wx => ∃M:List Value,s14=.int .i64 (M.length:Int)/\MK w kb (.slice sq1 s.msgs.length sc1) (.slice sq2 s.enums.length sc2) (.slice sq3 s.svcs.length sc3) DD M (mrows M (LM ++ LE ++ LV)) [⟨w.heap.size,#[.slice sq1 s.msgs.length sc1,.slice sq2 s.enums.length sc2,.slice sq3 s.svcs.length sc3],26⟩] wx/\M.length=(LM ++ LE ++ LV).length)
      case first=>
       go_wp2
       go_loopw [14,184] (fun a i wr => ∃(k:Nat) (M:List Value) (L:List (List PMem)),k<=s.svcs.length/\a=.int .i64 (M.length:Int)/\i=.int .i64 k/\Hid (MK w kb (.slice sq1 s.msgs.length sc1) (.slice sq2 s.enums.length sc2) (.slice sq3 s.svcs.length sc3) DD M (mrows M L) [⟨w.heap.size,#[.slice sq1 s.msgs.length sc1,.slice sq2 s.enums.length sc2,.slice sq3 s.svcs.length sc3],26⟩] wr)/\Hid (M.length=L.length)/\Hid (L ++ (s.svcs.drop k).map (qcy DD)=LM ++ LE ++ LV)) (fun _ i _=>s.svcs.length-(intOf i).toNat)
       case atStart=>exact⟨0,M0,LM ++ LE,by omega,rfl,rfl,HM,HML0,h_ (by rw [HLV.out];rfl)⟩
       case round=>as_aux_lemma=>
        clear HM c0 HML0;obtain⟨k,M,L,hk,rfl,rfl,hMK,hML,hfo⟩:=hrel;by_cases hlt:k<s.svcs.length
        ·have hfo1:=h_ (show(L ++ [qcy DD s.svcs[k]]) ++ (s.svcs.drop (k+1)).map (qcy DD)=LM ++ LE ++ LV by rw [←hfo.out,List.drop_eq_getElem_cons hlt,List.map_cons,List.append_assoc];rfl)
         have hMlt:M.length<DD.length:=by
          have hAL:=HAL.out;have h1:=congrArg List.length hfo1.out;have h2:=hML.out;simp only [List.length_append,List.length_cons,List.length_nil]at h1;omega
         have hDne:DD.length ≠ 0:=by omega
         clear hfo;have hki:(k:Int)<(s.svcs.length:Int):=by omega
         have hg:=List.getElem?_eq_getElem hlt;have hmem:=List.getElem_mem hlt;have hbx:=HB.out.v _ hmem;obtain⟨b,off,hqq,hbs,cs,hce,hvs⟩:=EL3.out k _ hg;subst hqq;have hvs0:=h_ hvs;obtain⟨_,_,hvv,g1,g2⟩:=hvs;obtain⟨u1,y1,rfl,_⟩:=qa5 g1;obtain⟨u2,y2,rfl,_⟩:=qa5 g2;subst hvv;have kr:=hMK.out.bel;have e0:=kr.some (hce 0 _ rfl);rw [Nat.add_zero]at e0;have e1:=kr.some (hce 1 _ rfl);have e2:=kr.some (hce 2 _ rfl);generalize s.svcs[k]=x at *;clear hg hce hmem;have H0:=h_ (hMK.out.addbox #[.string (S x.name),.slice u1 x.meths.length y1,.slice u2 x.notes.length y2] 68);clear hMK
         go_upto_region 51 with(fail)
         obtain⟨wd,hwd⟩ : ∃wd,wd=(wr.alloc (.cells #[.string (S x.name),.slice u1 x.meths.length y1,.slice u2 x.notes.length y2] 68)).drew:=⟨_,rfl⟩;have HD:=h_ (show MK _ _ _ _ _ _ _ _ _ wd by rw [hwd];exact H0.out.belw (Bel.refl _).drew);have HWD:=h_ hwd;clear hwd H0;obtain⟨go,cap,c5,_⟩:=HD.out.out hDne;have KS:=h_ (fun(W:World) (kk:Bel wd W)=>show W.cell? ⟨kb,5,none⟩=some (.slice (some ⟨go,0,none⟩) DD.length cap)/\W.cell? ⟨wr.heap.size,0,none⟩=some (Value.string (S x.name))/\W.cell? ⟨wr.heap.size,1,none⟩=some (.slice u1 x.meths.length y1)/\W.cell? ⟨wr.heap.size,2,none⟩=some (.slice u2 x.notes.length y2)from⟨kk.some c5,kk.some (HD.out.cell 0 rfl 0),kk.some (HD.out.cell 0 rfl 1),kk.some (HD.out.cell 0 rfl 2)⟩);clear c5;have CR:=h_ (qqe kb DD x.name u1 u2 _ y1 _ y2 x wd (qje HD.out (by omega)) (VSvc.stays _ _ _ _ HD.out.bel hvs0.out) (hP.bel HD.out.bel) (hM.below HD.out.bel.out) (fun d hd=>Nat.le_trans (HNB.out d hd) (by omega)) (by omega) (fun f hf=>Nat.le_trans (hbx.2.2 f hf) (by omega)));refine qak (fun W=>W.cell? ⟨kb,5,none⟩=some (.slice (some ⟨go,0,none⟩) DD.length cap)/\W.cell? ⟨wr.heap.size,0,none⟩=some (Value.string (S x.name))/\W.cell? ⟨wr.heap.size,1,none⟩=some (.slice u1 x.meths.length y1)/\W.cell? ⟨wr.heap.size,2,none⟩=some (.slice u2 x.notes.length y2)) [(0,true),(1,true),(2,true),(3,true),(4,true),(5,true),(6,true),(7,false)] 8 (by kernel_rfl) (by kernel_rfl) HWD.out (KS.out _ (Bel.refl _)) ?_;simp only [qb3,List.getElem?_cons_zero,List.getElem?_cons_succ]
         (with_reducible refine qa1 (v:=?vv255) (by with_unfolding_all rfl) (fun W hW=>?hy255) ?hr255);(case hy255=>((try dsimp only at hW);go_simp;(all_goals with_reducible rfl)));(simp only [Act.put,z_1,z_2,z_3])
         (with_reducible refine qa1 (v:=?vv256) (by with_unfolding_all rfl) (fun W hW=>?hy256) ?hr256);(case hy256=>((try dsimp only at hW);go_simp;(all_goals with_reducible rfl)));(simp only [Act.put,z_1,z_2,z_3])
         (with_reducible refine qa1 (v:=?vv257) (by with_unfolding_all rfl) (fun W hW=>?hy257) ?hr257);(case hy257=>((try dsimp only at hW);go_simp;(all_goals with_reducible rfl)));(simp only [Act.put,z_1,z_2,z_3])
         (with_reducible refine qa1 (v:=?vv258) (by with_unfolding_all rfl) (fun W hW=>?hy258) ?hr258);(case hy258=>((try dsimp only at hW);go_simp;(all_goals with_reducible rfl)));(simp only [Act.put,z_1,z_2,z_3])
         (with_reducible refine qa1 (v:=?vv259) (by with_unfolding_all rfl) (fun W hW=>?hy259) ?hr259);(case hy259=>((try dsimp only at hW);go_simp;(all_goals with_reducible rfl)));(simp only [Act.put,z_1,z_2,z_3])
         (with_reducible refine qa1 (v:=?vv260) (by with_unfolding_all rfl) (fun W hW=>?hy260) ?hr260);(case hy260=>((try dsimp only at hW);go_simp;(all_goals with_reducible rfl)));(simp only [Act.put,z_1,z_2,z_3])
         (with_reducible refine qa1 (v:=?vv261) (by with_unfolding_all rfl) (fun W hW=>?hy261) ?hr261);(case hy261=>((try dsimp only at hW);go_simp;(all_goals with_reducible rfl)));(simp only [Act.put,z_1,z_2,z_3])
         with_reducible refine qaj (fun K hK=>?_)
         go_simp
         with_reducible refine CR.out.mono ?_
         rintro e w2 ⟨v,rfl,own,g2⟩;obtain⟨qv,cv,rfl⟩:=qa9 own;have H2:=(HD.out.addrow g2 own);have H2:=H2.endrow;have c5:=(KS.out _ g2).1;refine hK _ _ (KS.out _ g2) ?_;clear hK K CR KS HD own g2
         (try simp only [Act.put,z_1,z_2,z_3])
         refine qbm ?_;simp only [t_3,t_4];obtain⟨go',cap',c5',hset⟩:=H2.out hDne
         have hgc:(go'=go/\cap'=cap):=by
          have:=c5'.symm.trans c5
          simpa using this
         obtain⟨rfl,rfl⟩:=hgc;obtain⟨fz,⟨uo,hu⟩,hfin⟩:=hset (.slice qv (qcy DD x).length cv) hMlt;have H3:=h_ hfin;have hMi:(M.length:Int)<(DD.length:Int):=by omega
         clear hset c5' H2 hfin
         go_upto_region 52 with(fail)
         generalize hW:World.setCell w2 _ _=w3;have hWh:w2.setCell ⟨go',M.length*4+3,none⟩ (.slice qv (qcy DD x).length cv)=w3:=hW;rw [hWh]at H3;clear hW hWh fz hu uo c5;go_wp2;go_roundw
         case rel=>exact⟨k+1,M ++ [.slice qv (qcy DD x).length cv],L ++ [qcy DD x],by omega,by rw [List.length_append];go_num,by go_num,h_ (MK.more H3.out hML.out).dropbox,h_ (by rw [List.length_append,List.length_append,hML.out];rfl),hfo1⟩
         case measure=>simp [intOf];omega
        ·have hkl:k=s.svcs.length:=by omega
         have hxe:L=LM ++ LE ++ LV:=by have:=hfo.out;rw [hkl,List.drop_length]at this;simpa using this
         subst hxe;go_wp2;go_meet;exact⟨M,rfl,hMK.out,hML.out⟩
      case rest=>
       obtain⟨M0,hs14,hMK,hML0⟩:=hcut;subst hs14;have HAL2:=h_ (show LM ++ LE ++ LV=qh9 DD s by rw [HLM0.out,HLE.out,HLV.out];rfl);obtain⟨vn,vw,vo,hST⟩:=hMK;have hAL:=HAL.out;have o5:wc.cell? ⟨kb,5,none⟩=some vo:=hST.cell 0 rfl 5;have hDc:=h_ (decls_of hST (by rw [hML0,List.length_append,List.length_append];omega) (by rw [List.length_append,List.length_append];omega) (by omega) (fun l hl=>by rw [HAL2.out]at hl;exact Nat.le_trans (qnx HB.out l hl) (by omega)));rw [HAL2.out, ←HMS.out]at hDc;have hBf:=h_ hST.bel;clear hST hML0 c0 hAL;go_wp2;go_ret2;exact⟨_,rfl,hDc.out,hBf.out⟩
theorem qnz (sq1 sq2 sq3:Option Addr) (sc1 sc2 sc3:Nat) (s:PSchema) (w:World) (hs:VSchema w [.slice sq1 s.msgs.length sc1,.slice sq2 s.enums.length sc2,.slice sq3 s.svcs.length sc3] s) (hM:ML w) (hsh:Short s) (hV:valid s=false) :
  Calls Tryz.prog 11 #[.agg #[.slice sq1 s.msgs.length sc1,.slice sq2 s.enums.length sc2,.slice sq3 s.svcs.length sc3]] w fun e w'=>e=.returned (.tuple #[.slice none 0 0,.int .i64 1])/\Bel w w':=by
 have kw:Bel w (w.alloc (.cells #[.slice sq1 s.msgs.length sc1,.slice sq2 s.enums.length sc2,.slice sq3 s.svcs.length sc3] 26)):=(Bel.refl w).alloc _;have CV:=h_ (qot sq1 sq2 sq3 _ _ _ sc1 sc2 sc3 s (w.alloc (.cells #[.slice sq1 s.msgs.length sc1,.slice sq2 s.enums.length sc2,.slice sq3 s.svcs.length sc3] 26)) (hs.stays_bel kw) (hM.below kw.out) hsh);rw [hV]at CV;clear hs hM hsh hV
 go_enter Tryz.func11,Tryz.ntmps11
 go_wp2_with (go_at_call 35;(with_reducible refine CV.out.mono ?_);rintro e w1 ⟨rfl,k1⟩)
 go_ret2;exact⟨rfl,Bel.of kw k1⟩
end Go.Proofs.YtfoaaglbpmmhiaaGreatDoor
