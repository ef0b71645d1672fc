import Derived.Test.YtfoaaglbpmmhiaaGreatDoorMdMakeP
import Derived.Test.YtfoaaglbpmmhiaaGreatDoorMrUns
import Derived.Test.YtfoaaglbpmmhiaaGreatDoorMrCamel
import Derived.Deep.DeepCutAuto
import Derived.Deep.CutBlock
set_option maxRecDepth 100000
set_option maxHeartbeats 4000000
set_option linter.unusedVariables false
set_option linter.unusedSimpArgs false
namespace Go.Proofs.YtfoaaglbpmmhiaaGreatDoor
open Go.RowKit Ck Md
def tkR (v:Value) (D:List PDecl):Row:=⟨9,1,v,D.length,nmC (D.map (·.name))⟩
def dcR (v:Value) (D:List PDecl):Row:=⟨47,4,v,D.length,outC D []⟩
theorem qnr : ∀(D:List PDecl) (d:PDecl),outC (D ++ [d]) []=outC D [] ++ [.int .i64 d.kind,.string (S d.name),.string (S d.frm),.slice none 0 0]
 | [],d=>rfl
 | a :: D,d=>by
  show _ ++ outC (D ++ [d]) []=(_ ++ outC D []) ++ _
  rw [qnr D d,List.append_assoc]
theorem qkf (v:Value) (D:List PDecl) (k:Int) (n f:Str):tkR v (addD D k n f)=⟨9,1,v,D.length+1,nmC (D.map (·.name)) ++ [.string (S (qbl (D.map (·.name)) n))]⟩:=by
 unfold tkR addD;simp [nmC]
theorem qln (v:Value) (D:List PDecl) (k:Int) (n f:Str):dcR v (addD D k n f)=⟨47,4,v,D.length+1,outC D [] ++ [.int .i64 k,.string (S (qbl (D.map (·.name)) n)),.string (S f),.slice none 0 0]⟩:=by
 unfold dcR addD;rw [qnr];simp
def DeclOut (w:World) (D:List PDecl) (e:Ending) (w':World):Prop := ∃v,e=.returned v/\w'.ownsRow w.heap.size 47 4 v D.length (outC D [])/\Bel w w'
theorem qke {w0 w:World} {v:Value} {D:List PDecl} {R:List Row} {X:List Box} (h:ST w0 (tkR v D :: R) X w) (hl:D.length<=1000000):Strs w v (D.map (·.name)):=by
 have h0:w.ownsRow w0.heap.size 9 1 v (D.map (·.name)).length (nmC (D.map (·.name))):=by rw [List.length_map];exact h.row 0 rfl
 exact qd5 h0 (by rw [List.length_map];omega)
theorem perm_3' {α:Type} (a b c:α):[a,b,c].Perm [b,c,a]:=(List.perm_middle (l₁:=[b,c]) (a:=a) (l₂:=[])).symm
theorem qkt {w:World} {B:Nat} {e:TypeId} {z n:Nat} {q:Option Addr} {m c:Nat} {xs:List Value} (h:w.ownsRow B e z (.slice q m c) n xs) (hn:n ≠ 0) : ∃g,Value.slice q m c=.slice (some ⟨g,0,none⟩) n c:=by
 rcases h.2 with⟨_,h0⟩|⟨g,cap,cur,h1,_⟩
 ·exact absurd h0 hn
 ·cases h1
  exact⟨g,rfl⟩
theorem qm5 (sq1 sq2 sq3:Option Addr) (sc1 sc2 sc3:Nat) (s:PSchema) (w0:World) (hs:VSchema w0 [.slice sq1 s.msgs.length sc1,.slice sq2 s.enums.length sc2,.slice sq3 s.svcs.length sc3] s) (hMB:MB s) :
  Calls Tryz.prog 44 #[.agg #[.slice sq1 s.msgs.length sc1,.slice sq2 s.enums.length sc2,.slice sq3 s.svcs.length sc3]] w0 (DeclOut w0 (qa6 s)):=by
 obtain⟨i0,hi,hz0,hz1,hz2⟩:=info_parts qc7;obtain⟨i1,hi1,hy0,hy1,hy2⟩:=info_parts qhr;have HB:=h_ hMB;obtain⟨_,_,_,hcm,h1,h2,h3⟩:=hs;cases hcm;obtain⟨q,c,hq,hl1,hc1,hel1⟩:=h1;cases hq;obtain⟨q,c,hq,hl2,hc2,hel2⟩:=h2;cases hq;obtain⟨q,c,hq,hl3,hc3,hel3⟩:=h3;cases hq;have EL1:=h_ hel1;have EL2:=h_ hel2;have EL3:=h_ hel3;have hlm:=HB.out.lm;have hle:=HB.out.le;have hlv:=HB.out.lv;clear hel1 hel2 hel3;have HM:=h_ (show ST w0 [tkR (.slice none 0 0) [],dcR (.slice none 0 0) []] [⟨w0.heap.size,#[.slice sq1 s.msgs.length sc1,.slice sq2 s.enums.length sc2,.slice sq3 s.svcs.length sc3],26⟩] _ from(((ST.start w0).addbox #[.slice sq1 s.msgs.length sc1,.slice sq2 s.enums.length sc2,.slice sq3 s.svcs.length sc3] 26).nilrow 47 4).nilrow 9 1)
 go_enter Tryz.func44,Tryz.ntmps44
 have c0:=HM.out.cell 0 rfl 0;dsimp only at c0
 go_upto_block 0 with(fail)
 go_cut [3,4] (fun s3 s4 wx=>ST w0 [tkR s4 (s.msgs.foldl msgD []),dcR s3 (s.msgs.foldl msgD [])] [⟨w0.heap.size,#[.slice sq1 s.msgs.length sc1,.slice sq2 s.enums.length sc2,.slice sq3 s.svcs.length sc3],26⟩] wx/\(s.msgs.foldl msgD []).length<=4160)
 case first=>
  go_wp2
  go_loopw [3,4,5] (fun vo vt i wr => ∃(k:Nat) (D:List PDecl),k<=s.msgs.length/\i=.int .i64 k/\Hid (ST w0 [tkR vt D,dcR vo D] [⟨w0.heap.size,#[.slice sq1 s.msgs.length sc1,.slice sq2 s.enums.length sc2,.slice sq3 s.svcs.length sc3],26⟩] wr)/\D.length<=65*k/\Hid ((s.msgs.drop k).foldl msgD D=s.msgs.foldl msgD [])) (fun _ _ i _=>s.msgs.length-(intOf i).toNat)
  case atStart=>exact⟨0,[],by omega,rfl,HM,by simp,h_ rfl⟩
  case round=>as_aux_lemma=>
   clear HM c0;obtain⟨k,D,hk,rfl,hS,hDl,hfo⟩:=hrel;by_cases hlt:k<s.msgs.length
   ·have hfo2:=h_ (show(s.msgs.drop (k+1)).foldl msgD (msgD D s.msgs[k])=s.msgs.foldl msgD []by rw [←hfo.out,qdh msgD _ k hlt])
    have hus:=qcd HB.out (List.getElem_mem hlt);clear hfo;have hki:(k:Int)<(s.msgs.length:Int):=by omega
    have hg:=List.getElem?_eq_getElem hlt;have hmem:=List.getElem_mem hlt;have hbx:=HB.out.m _ hmem;obtain⟨b,off,hqq,hbs,cs,hce,hvs⟩:=EL1.out k _ hg;subst hqq;have hvs0:=h_ hvs;obtain⟨_,_,_,_,hvv,g1,g2,g3,g4⟩:=hvs;obtain⟨u1,y1,rfl,_⟩:=qa5 g1;obtain⟨u2,y2,rfl,_⟩:=qa5 g2;obtain⟨u3,y3,rfl,_⟩:=qa5 g3;obtain⟨u4,y4,rfl,_⟩:=qa5 g4;subst hvv;generalize s.msgs[k]=x at *;clear hg hmem;have hul:=qce x;have hml:=qjf D x;have c1:=hS.out.cell 0 rfl 0;dsimp only at c1;have kr:=hS.out.bel;have e0:=kr.some (hce 0 _ rfl);rw [Nat.add_zero]at e0;have e1:=kr.some (hce 1 _ rfl);have e2:=kr.some (hce 2 _ rfl);have e3:=kr.some (hce 3 _ rfl);have e4:=kr.some (hce 4 _ rfl);obtain⟨qt,ct,hvt⟩:=qa9 (hS.out.row 0 rfl);obtain⟨qo,co,hvo⟩:=qa9 (hS.out.row 1 rfl);dsimp only [tkR,dcR]at hvt hvo;subst hvt hvo;have HA:=h_ (hS.out.addbox #[.string (S x.name),.slice u1 x.fields.length y1,.slice u2 x.res.length y2,.slice u3 x.gone.length y3,.slice u4 x.notes.length y4] 44);clear hS hce kr
    go_upto_region 7 with(fail)
    clear e0 e1 e2 e3 e4 c1;generalize hmb:wr.heap.size=mb at HA ⊢;generalize hwa:wr.alloc _=wa at HA ⊢;clear hmb hwa;have hcl:=qbp x.name;have f0:=HA.out.cell 0 rfl 0;dsimp only at f0;have CC:=h_ (qja 1000 x.name wa (by omega) (by omega));have CU:=h_ (fun W (kk:Bel wa W)=>qdx _ (D.map (·.name)) (Md.camel x.name) W (qke (HA.out.belw kk) (by omega)) (by omega) (by rw [List.length_map];omega));have HCG:=h_ (qnv D x);have hal:=qc6 D 1 (Md.camel x.name) x.name;generalize Md.camel x.name=CN at *;have hnl:=qdu (D.map (·.name)) CN (by rw [List.length_map];omega);obtain⟨U,hU⟩ : ∃U,qbl (D.map (·.name)) CN=U:=⟨_,rfl⟩;rw [hU]at CU HCG hnl;have HU:=h_ hU;clear hU
    go_upto_region 8 with(first
     | (go_at_call 66;(with_reducible refine CC.out.mono ?_);rintro e w1 ⟨rfl,k1⟩)
     | (go_at_call 19;(with_reducible refine(CU.out _ k1).mono ?_);rintro e w2 ⟨rfl,k2⟩;have H1:=h_ ((HA.out.belw k1).belw k2)))
    clear f0 HA CU CC;have HA3:=h_ (H1.out.belw ((Bel.refl w2).alloc (.cells #[.string (S U)] 9)));clear H1
    go_upto_region 9 with(at_builtin;refine wpList_append_lies _ rfl _ _ 37 rfl w0.heap.size 9 i0 (.string ByteArray.empty) 1 16 Tryz.underlying37 hi hz0 hz1 hz2 rfl (by decide) _ D.length _ rfl (HA3.out.row 0 rfl) ⟨w2.heap.size,0,none⟩ 1 1 [.string (S U)] rfl rfl (qaz _ _ _) (by simp [Value.oneCell']) (by decide) (by unfold maxLen;omega) (by omega) HA3.out.bel.size (w2.heap.size+1) (by simp) ?_)
    intro g3 cap3 w3 hown hgrow hfr hlt3;have HG3:=h_ (HA3.out.grow 0 rfl hgrow hown (qby hfr (by simp)));clear HA3 hown hgrow hfr hlt3;have f0:=HG3.out.cell 0 rfl 0;dsimp only at f0;have HB3:=h_ (HG3.out.belw ((Bel.refl w3).alloc (.cells #[.int .i64 1,.string (S U),.string (S x.name),.slice none 0 0] 47)));clear HG3
    go_upto_region 10 with(at_builtin;refine wpList_append_lies _ rfl _ _ 28 rfl w0.heap.size 47 i1 (.agg #[.int .i64 0,.string ByteArray.empty,.string ByteArray.empty,.slice none 0 0]) 4 64 Tryz.underlying28 hi1 hy0 hy1 hy2 rfl (by decide) _ D.length _ rfl (HB3.out.row 1 rfl) ⟨w3.heap.size,0,none⟩ 1 1 [.int .i64 1,.string (S U),.string (S x.name),.slice none 0 0] rfl rfl (qaz _ _ _) (by simp [Value.oneCell']) (by decide) (by unfold maxLen;omega) (by omega) HB3.out.bel.size (w3.heap.size+1) (by simp) ?_)
    intro g4 cap4 w4 hown hgrow hfr hlt4;have HF3:=h_ (HB3.out.grow 1 rfl hgrow hown (qby hfr (by simp)));clear HB3 hown hgrow hfr hlt4;have HD3:=h_ (show ST w0 (tkR (.slice (some ⟨g3,0,none⟩) (D.length+1) cap3) (addD D 1 CN x.name) :: dcR (.slice (some ⟨g4,0,none⟩) (D.length+1) cap4) (addD D 1 CN x.name) :: []) [⟨mb,#[.string (S x.name),.slice u1 x.fields.length y1,.slice u2 x.res.length y2,.slice u3 x.gone.length y3,.slice u4 x.notes.length y4],44⟩,⟨w0.heap.size,#[.slice (some ⟨b,off,none⟩) s.msgs.length sc1,.slice sq2 s.enums.length sc2,.slice sq3 s.svcs.length sc3],26⟩] w4 by rw [qkf,qln,HU.out];exact HF3.out);clear HF3;clear f0 HU;have hln:D.length+1=(addD D 1 CN x.name).length:=hal.symm;rw [hln]at HD3;rw [hln];have hl1:(addD D 1 CN x.name).length<=65*k+1:=by omega
    generalize addD D 1 CN x.name=D1 at HD3 HCG hal hl1 hln ⊢;have hal2:=h_ hal;clear hal;clear hln;have f0:=HD3.out.cell 0 rfl 0;have f1:=HD3.out.cell 0 rfl 1;have f2:=HD3.out.cell 0 rfl 2;have f3:=HD3.out.cell 0 rfl 3;have f4:=HD3.out.cell 0 rfl 4;have CUN:=h_ (qko u1 u2 u3 u4 _ _ _ y1 y2 y3 y4 x w4 (VMsg.stays _ _ _ _ HD3.out.bel hvs0.out) (by omega));generalize hUS:qbt x=us at CUN HCG hul hus hml;have hml2:=h_ hml;clear hml;clear hUS;dsimp only at f0 f1 f2 f3 f4
    go_upto_region 11 with(go_at_call 46;(with_reducible refine CUN.out.mono ?_);rintro e w5 ⟨vu,rfl,hown,g5⟩;obtain⟨qu,cu,rfl⟩:=qa9 hown;have H5:=h_ (HD3.out.addrow g5 hown);clear hown g5 HD3 f0 f1 f2 f3 f4 CUN)
    have H5:=h_ (show ST w0 [tkR _ D1,dcR _ D1,⟨9,1,.slice qu us.length cu,us.length,nmC us⟩] [⟨mb,#[.string (S x.name),.slice u1 x.fields.length y1,.slice u2 x.res.length y2,.slice u3 x.gone.length y3,.slice u4 x.notes.length y4],44⟩,⟨w0.heap.size,#[.slice (some ⟨b,off,none⟩) s.msgs.length sc1,.slice sq2 s.enums.length sc2,.slice sq3 s.svcs.length sc3],26⟩] _ from H5.out.perm (perm_3' _ _ _) (List.Perm.refl _));have HCG0:=h_ (show qau U x.name D1 (us.drop 0)=msgD D x from HCG.out);clear HCG;go_wp2
    go_loopw [3,4,9] (fun vo vt i2 wr => ∃(j:Nat) (D2:List PDecl),j<=us.length/\i2=.int .i64 j/\Hid (ST w0 [tkR vt D2,dcR vo D2,⟨9,1,.slice qu us.length cu,us.length,nmC us⟩] [⟨mb,#[.string (S x.name),.slice u1 x.fields.length y1,.slice u2 x.res.length y2,.slice u3 x.gone.length y3,.slice u4 x.notes.length y4],44⟩,⟨w0.heap.size,#[.slice (some ⟨b,off,none⟩) s.msgs.length sc1,.slice sq2 s.enums.length sc2,.slice sq3 s.svcs.length sc3],26⟩] wr)/\Hid (D2.length=D.length+1+j)/\Hid (qau U x.name D2 (us.drop j)=msgD D x)) (fun _ _ i2 _=>us.length-(intOf i2).toNat)
    case atStart=>exact⟨0,D1,by omega,rfl,H5,h_ (by have:=hal2.out;omega),HCG0⟩
    case round=>
     clear H5 HCG0;obtain⟨j,D2,hj,rfl,hS2,hD2,hch⟩:=hrel;by_cases hlt2:j<us.length
     ·have hji:(j:Int)<(us.length:Int):=by omega
      have hqu:=qkt (hS2.out.row 2 rfl) (show us.length ≠ 0 by omega);obtain⟨gu,hqe⟩:=hqu;dsimp only at hqe;cases hqe;have hD2l:D2.length<=10000:=by have:=hD2.out;omega
      have hun:=hus _ (List.getElem_mem hlt2);have hch2:=h_ (show qau U x.name (addD D2 2 (U ++ Id.camel us[j]) (x.name ++ 58 :: us[j])) (us.drop (j+1))=msgD D x by have:=hch.out;rwa [List.drop_eq_getElem_cons hlt2,qau]at this);have HUU:=h_ (show(nmC us)[j]? = some (.string (S us[j]))by unfold nmC;rw [List.getElem?_map,List.getElem?_eq_getElem hlt2];rfl);clear hch;generalize us[j]=uu at *;have hcl2:=qc0 uu;have hcu:=hS2.out.rowcell 2 rfl rfl j (.string (S uu)) HUU.out;obtain⟨qt,ct,hvt⟩:=qa9 (hS2.out.row 0 rfl);obtain⟨qo,co,hvo⟩:=qa9 (hS2.out.row 1 rfl);dsimp only [tkR,dcR]at hvt hvo;subst hvt hvo;have cam:=h_ (qh3 (S uu) uu wr (qah _) (by rw [qai];omega));have hal2:=qc6 D2 2 (U ++ Id.camel uu) (x.name ++ 58 :: uu);generalize Id.camel uu=CM at *;have CU2:=h_ (fun W (kk:Bel wr W)=>qdx _ (D2.map (·.name)) (U ++ CM) W (qke (hS2.out.belw kk) (by omega)) (by rw [List.length_append];omega) (by rw [List.length_map];omega));rw [←S_app U CM]at CU2;obtain⟨U2,hU2⟩ : ∃U2,qbl (D2.map (·.name)) (U ++ CM)=U2:=⟨_,rfl⟩;rw [hU2]at CU2;have HU2:=h_ hU2;clear hU2;have zU:(S U).size=U.length:=qai _;have zC:(S CM).size=CM.length:=qai _;have hUl:U.length<=100000:=by omega
      have hCl:CM.length<=100000:=by omega
      have q7 : ¬(9223372036854775807<(S x.name).size+1):=by rw [qai];omega
      have q9 : ¬(9223372036854775807<(S x.name).size+1+(S uu).size):=by rw [qai,qai];omega
      go_upto_region 15 with(first
       | (go_at_call 67;(with_reducible refine cam.out.mono ?_);rintro e w1 ⟨rfl,k1⟩;have k1:Bel _ w1:=k1)
       | (go_at_call 19;(with_reducible refine(CU2.out _ k1).mono ?_);rintro e w2 ⟨rfl,k2⟩;have H1:=h_ ((hS2.out.belw k1).belw k2)))
      clear hcu hS2 CU2 cam;have HA3:=h_ (H1.out.belw ((Bel.refl w2).alloc (.cells #[.string (S U2)] 9)));clear H1
      go_upto_region 16 with(at_builtin;refine wpList_append_lies _ rfl _ _ 37 rfl w0.heap.size 9 i0 (.string ByteArray.empty) 1 16 Tryz.underlying37 hi hz0 hz1 hz2 rfl (by decide) _ D2.length _ rfl (HA3.out.row 0 rfl) ⟨w2.heap.size,0,none⟩ 1 1 [.string (S U2)] rfl rfl (qaz _ _ _) (by simp [Value.oneCell']) (by decide) (by unfold maxLen;omega) (by omega) HA3.out.bel.size (w2.heap.size+1) (by simp) ?_)
      intro g3 cap3 w3 hown hgrow hfr hlt3;have HG3:=h_ (HA3.out.grow 0 rfl hgrow hown (qby hfr (by simp)));clear HA3 hown hgrow hfr hlt3
      go_upto_region 16 with(fail)
      obtain⟨wd,hwd⟩ : ∃wd,wd=w3.drew:=⟨_,rfl⟩;have HWD:=h_ hwd;have HQ3:=h_ (show ST w0 _ _ wd by rw [hwd];exact HG3.out.belw (Bel.refl _).drew);clear HG3 hwd;refine qak (fun W=>W.cell? ⟨mb,0,none⟩=some (.string (S x.name))/\W.cell? ⟨gu,j,none⟩=some (.string (S uu))) [(0,true),(1,true),(2,true),(3,true),(4,true),(5,true),(6,true),(7,true),(8,true),(9,true),(10,true),(11,false)] 12 (by kernel_rfl) (by kernel_rfl) HWD.out ⟨HQ3.out.cell 0 rfl 0,HQ3.out.rowcell 2 rfl rfl j (.string (S uu)) HUU.out⟩ ?_;simp only [qb3,List.getElem?_cons_zero,List.getElem?_cons_succ]
      (with_reducible refine qa1 (v:=?vv488) (by with_unfolding_all rfl) (fun W hW=>?hy488) ?hr488);(case hy488=>((try dsimp only at hW);go_simp;(all_goals with_reducible rfl)));(simp only [Act.put,z_1,z_2,z_3])
      (with_reducible refine qa1 (v:=?vv489) (by with_unfolding_all rfl) (fun W hW=>?hy489) ?hr489);(case hy489=>((try dsimp only at hW);go_simp;(all_goals with_reducible rfl)));(simp only [Act.put,z_1,z_2,z_3])
      (with_reducible refine qa1 (v:=?vv490) (by with_unfolding_all rfl) (fun W hW=>?hy490) ?hr490);(case hy490=>((try dsimp only at hW);go_simp;(all_goals with_reducible rfl)));(simp only [Act.put,z_1,z_2,z_3])
      (with_reducible refine qa1 (v:=?vv491) (by with_unfolding_all rfl) (fun W hW=>?hy491) ?hr491);(case hy491=>((try dsimp only at hW);go_simp;(all_goals with_reducible rfl)));(simp only [Act.put,z_1,z_2,z_3])
      (with_reducible refine qa1 (v:=?vv492) (by with_unfolding_all rfl) (fun W hW=>?hy492) ?hr492);(case hy492=>((try dsimp only at hW);go_simp;(all_goals with_reducible rfl)));(simp only [Act.put,z_1,z_2,z_3])
      (with_reducible refine qa1 (v:=?vv493) (by with_unfolding_all rfl) (fun W hW=>?hy493) ?hr493);(case hy493=>((try dsimp only at hW);go_simp;(all_goals with_reducible rfl)));(simp only [Act.put,z_1,z_2,z_3])
      (with_reducible refine qa1 (v:=?vv494) (by with_unfolding_all rfl) (fun W hW=>?hy494) ?hr494);(case hy494=>((try dsimp only at hW);go_simp;(all_goals with_reducible rfl)));(simp only [Act.put,z_1,z_2,z_3])
      (with_reducible refine qa1 (v:=?vv495) (by with_unfolding_all rfl) (fun W hW=>?hy495) ?hr495);(case hy495=>((try dsimp only at hW);go_simp;(all_goals with_reducible rfl)));(simp only [Act.put,z_1,z_2,z_3])
      (with_reducible refine qa1 (v:=?vv496) (by with_unfolding_all rfl) (fun W hW=>?hy496) ?hr496);(case hy496=>((try dsimp only at hW);go_simp;(all_goals with_reducible rfl)));(simp only [Act.put,z_1,z_2,z_3])
      (with_reducible refine qa1 (v:=?vv497) (by with_unfolding_all rfl) (fun W hW=>?hy497) ?hr497);(case hy497=>((try dsimp only at hW);go_simp;(all_goals with_reducible rfl)));(simp only [Act.put,z_1,z_2,z_3])
      (with_reducible refine qa1 (v:=?vv498) (by with_unfolding_all rfl) (fun W hW=>?hy498) ?hr498);(case hy498=>((try dsimp only at hW);go_simp;(all_goals with_reducible rfl)));(simp only [Act.put,z_1,z_2,z_3])
      with_reducible refine qaj (fun K hK=>?_)
      go_simp;have HB3:=h_ (HQ3.out.belw ((Bel.refl wd).alloc (.cells #[.int .i64 2,.string (S U2),.string (S x.name ++ (⟨#[58]⟩:ByteArray) ++ S uu),.slice none 0 0] 47)))
      refine hK _ _ ⟨HB3.out.cell 0 rfl 0,HB3.out.rowcell 2 rfl rfl j (.string (S uu)) HUU.out⟩ ?_;clear hK K HQ3
      (try simp only [Act.put,z_1,z_2,z_3])
      refine qbm ?_;simp only [t_3,t_4]
      go_wp2_with (at_builtin;refine wpList_append_lies _ rfl _ _ 28 rfl w0.heap.size 47 i1 (.agg #[.int .i64 0,.string ByteArray.empty,.string ByteArray.empty,.slice none 0 0]) 4 64 Tryz.underlying28 hi1 hy0 hy1 hy2 rfl (by decide) _ D2.length _ rfl (HB3.out.row 1 rfl) ⟨wd.heap.size,0,none⟩ 1 1 [.int .i64 2,.string (S U2),.string (S x.name ++ (⟨#[58]⟩:ByteArray) ++ S uu),.slice none 0 0] rfl rfl (qaz _ _ _) (by simp [Value.oneCell']) (by decide) (by unfold maxLen;omega) (by omega) HB3.out.bel.size (wd.heap.size+1) (by simp) ?_)
      intro g4 cap4 w4 hown hgrow hfr hlt4;have HF3:=h_ (HB3.out.grow 1 rfl hgrow hown (qby hfr (by simp)));clear HB3 hown hgrow hfr hlt4;have HD3:=h_ (show ST w0 (tkR (.slice (some ⟨g3,0,none⟩) (D2.length+1) cap3) (addD D2 2 (U ++ CM) (x.name ++ 58 :: uu)) :: dcR (.slice (some ⟨g4,0,none⟩) (D2.length+1) cap4) (addD D2 2 (U ++ CM) (x.name ++ 58 :: uu)) :: [⟨9,1,.slice (some ⟨gu,0,none⟩) us.length cu,us.length,nmC us⟩]) [⟨mb,#[.string (S x.name),.slice u1 x.fields.length y1,.slice u2 x.res.length y2,.slice u3 x.gone.length y3,.slice u4 x.notes.length y4],44⟩,⟨w0.heap.size,#[.slice (some ⟨b,off,none⟩) s.msgs.length sc1,.slice sq2 s.enums.length sc2,.slice sq3 s.svcs.length sc3],26⟩] w4 by rw [qkf,qln,HU2.out, ←qgv];exact HF3.out);clear HF3;clear HU2;have hln2:D2.length+1=(addD D2 2 (U ++ CM) (x.name ++ 58 :: uu)).length:=hal2.symm;go_wp2;go_roundw
      case rel=>exact⟨j+1,_,by omega,by go_num,HD3,h_ (by have:=hD2.out;omega),hch2⟩
      case measure=>simp [intOf];omega
     ·have hjl:j=us.length:=by omega
      have hxe2:D2=msgD D x:=by have:=hch.out;rw [hjl,List.drop_length]at this;exact this
      subst hxe2;go_wp2;go_roundw
      case rel=>exact⟨k+1,_,by omega,by go_num,h_ ((hS2.out.droprow 2).dropbox0),by(have:=hml2.out;omega),hfo2⟩
      case measure=>simp [intOf];omega
   ·have hkl:k=s.msgs.length:=by omega
    have hxe:D=s.msgs.foldl msgD []:=by have:=hfo.out;rw [hkl,List.drop_length]at this;exact this
    subst hxe;have c1:=hS.out.cell 0 rfl 0;dsimp only at c1;go_wp2;go_meet;exact⟨hS.out,by omega⟩
 case rest=>
  obtain⟨hMK,hD1⟩:=hcut;have HM:=h_ hMK;clear hMK;generalize hDM:s.msgs.foldl msgD []=DM at HM hD1;have HDM:=h_ hDM;clear hDM c0;have c0:=HM.out.cell 0 rfl 1;dsimp only at c0
  go_upto_block 4 with(fail)
  go_cut [3,4] (fun s3 s4 wx=>ST w0 [tkR s4 (s.enums.foldl enumD DM),dcR s3 (s.enums.foldl enumD DM)] [⟨w0.heap.size,#[.slice sq1 s.msgs.length sc1,.slice sq2 s.enums.length sc2,.slice sq3 s.svcs.length sc3],26⟩] wx/\(s.enums.foldl enumD DM).length<=4224)
  case first=>
   go_wp2
   go_loopw [3,4,11] (fun vo vt i wr => ∃(k:Nat) (D:List PDecl),k<=s.enums.length/\i=.int .i64 k/\Hid (ST w0 [tkR vt D,dcR vo D] [⟨w0.heap.size,#[.slice sq1 s.msgs.length sc1,.slice sq2 s.enums.length sc2,.slice sq3 s.svcs.length sc3],26⟩] wr)/\D.length<=4160+k/\Hid ((s.enums.drop k).foldl enumD D=(s.enums.foldl enumD DM))) (fun _ _ i _=>s.enums.length-(intOf i).toNat)
   case atStart=>exact⟨0,_,by omega,rfl,HM,by omega,h_ rfl⟩
   case round=>as_aux_lemma=>
    clear HM c0;obtain⟨k,D,hk,rfl,hS,hDl,hfo⟩:=hrel;by_cases hlt:k<s.enums.length
    ·have hfo2:=h_ (show(s.enums.drop (k+1)).foldl enumD (addD D 3 (Md.camel s.enums[k].name) s.enums[k].name)=(s.enums.foldl enumD DM)from(qdh enumD _ k hlt D).symm.trans hfo.out)
     clear hfo;have hki:(k:Int)<(s.enums.length:Int):=by omega
     have hg:=List.getElem?_eq_getElem hlt;have hmem:=List.getElem_mem hlt;have hbx:=HB.out.e _ hmem;obtain⟨b,off,hqq,hbs,cs,hce,hvs⟩:=EL2.out k _ hg;subst hqq;have hvs0:=h_ hvs;obtain⟨_,_,_,hvv,g1,g2,g3⟩:=hvs;obtain⟨u1,y1,rfl,_⟩:=qa5 g1;obtain⟨u2,y2,rfl,_⟩:=qa5 g2;obtain⟨u3,y3,rfl,_⟩:=qa5 g3;subst hvv;generalize s.enums[k]=x at *;have HE:=h_ (fun(W:World) (kk:Bel w0 W)=>show W.cell? ⟨b,off+k*5,none⟩=some (.string (S x.name))by have:=kk.some (hce 0 _ rfl);rwa [Nat.add_zero]at this);clear hg hce hmem hvs0;have c1:=hS.out.cell 0 rfl 1;dsimp only at c1;have e0:=HE.out _ hS.out.bel;have hcl:=qbp x.name;have CC:=h_ (qja 1000 x.name wr (by omega) (by omega));have CU:=h_ (fun W (kk:Bel wr W)=>qdx _ (D.map (·.name)) (Md.camel x.name) W (qke (hS.out.belw kk) (by omega)) (by omega) (by rw [List.length_map];omega));obtain⟨qt,ct,hvt⟩:=qa9 (hS.out.row 0 rfl);obtain⟨qo,co,hvo⟩:=qa9 (hS.out.row 1 rfl);dsimp only [tkR,dcR]at hvt hvo;subst hvt hvo;have hal:=qc6 D 3 (Md.camel x.name) x.name;generalize Md.camel x.name=CN at *;obtain⟨U,hU⟩ : ∃U,qbl (D.map (·.name)) CN=U:=⟨_,rfl⟩;rw [hU]at CU;have HU:=h_ hU;clear hU
     go_upto_region 21 with(first
      | (go_at_call 66;(with_reducible refine CC.out.mono ?_);rintro e w1 ⟨rfl,k1⟩)
      | (go_at_call 19;(with_reducible refine(CU.out _ k1).mono ?_);rintro e w2 ⟨rfl,k2⟩;have H1:=h_ ((hS.out.belw k1).belw k2)))
     clear c1 e0 hS CU CC;have HA3:=h_ (H1.out.belw ((Bel.refl w2).alloc (.cells #[.string (S U)] 9)));clear H1
     go_upto_region 22 with(at_builtin;refine wpList_append_lies _ rfl _ _ 37 rfl w0.heap.size 9 i0 (.string ByteArray.empty) 1 16 Tryz.underlying37 hi hz0 hz1 hz2 rfl (by decide) _ D.length _ rfl (HA3.out.row 0 rfl) ⟨w2.heap.size,0,none⟩ 1 1 [.string (S U)] rfl rfl (qaz _ _ _) (by simp [Value.oneCell']) (by decide) (by unfold maxLen;omega) (by omega) HA3.out.bel.size (w2.heap.size+1) (by simp) ?_)
     intro g3 cap3 w3 hown hgrow hfr hlt3;have HG3:=h_ (HA3.out.grow 0 rfl hgrow hown (qby hfr (by simp)));clear HA3 hown hgrow hfr hlt3;have c1:=HG3.out.cell 0 rfl 1;dsimp only at c1;have e0:=HE.out _ HG3.out.bel;have HB3:=h_ (HG3.out.belw ((Bel.refl w3).alloc (.cells #[.int .i64 3,.string (S U),.string (S x.name),.slice none 0 0] 47)));clear HG3
     go_wp2_with (at_builtin;refine wpList_append_lies _ rfl _ _ 28 rfl w0.heap.size 47 i1 (.agg #[.int .i64 0,.string ByteArray.empty,.string ByteArray.empty,.slice none 0 0]) 4 64 Tryz.underlying28 hi1 hy0 hy1 hy2 rfl (by decide) _ D.length _ rfl (HB3.out.row 1 rfl) ⟨w3.heap.size,0,none⟩ 1 1 [.int .i64 3,.string (S U),.string (S x.name),.slice none 0 0] rfl rfl (qaz _ _ _) (by simp [Value.oneCell']) (by decide) (by unfold maxLen;omega) (by omega) HB3.out.bel.size (w3.heap.size+1) (by simp) ?_)
     intro g4 cap4 w4 hown hgrow hfr hlt4;have HF3:=h_ (HB3.out.grow 1 rfl hgrow hown (qby hfr (by simp)));clear HB3 hown hgrow hfr hlt4;have HD3:=h_ (show ST w0 (tkR (.slice (some ⟨g3,0,none⟩) (D.length+1) cap3) (addD D 3 CN x.name) :: dcR (.slice (some ⟨g4,0,none⟩) (D.length+1) cap4) (addD D 3 CN x.name) :: []) [⟨w0.heap.size,#[.slice sq1 s.msgs.length sc1,.slice (some ⟨b,off,none⟩) s.enums.length sc2,.slice sq3 s.svcs.length sc3],26⟩] w4 by rw [qkf,qln,HU.out];exact HF3.out);clear HF3;clear c1 e0;have hln:D.length+1=(addD D 3 CN x.name).length:=hal.symm;go_wp2;go_roundw
     case rel=>exact⟨k+1,_,by omega,by go_num,HD3,by omega,hfo2⟩
     case measure=>simp [intOf];omega
    ·have hkl:k=s.enums.length:=by omega
     have hxe:D=(s.enums.foldl enumD DM):=by have:=hfo.out;rw [hkl,List.drop_length]at this;exact this
     subst hxe;have c1:=hS.out.cell 0 rfl 1;dsimp only at c1;go_wp2;go_meet;exact⟨hS.out,by omega⟩
  case rest=>
   obtain⟨hMK,hD2⟩:=hcut;have HM:=h_ hMK;clear hMK;generalize hDE:s.enums.foldl enumD DM=DE at HM hD2;have HDE:=h_ hDE;clear hDE c0;have c0:=HM.out.cell 0 rfl 2;dsimp only at c0
   go_upto_block 6 with(fail)
   go_cut [3,4] (fun s3 s4 wx=>ST w0 [tkR s4 (s.svcs.foldl svcD DE),dcR s3 (s.svcs.foldl svcD DE)] [⟨w0.heap.size,#[.slice sq1 s.msgs.length sc1,.slice sq2 s.enums.length sc2,.slice sq3 s.svcs.length sc3],26⟩] wx/\(s.svcs.foldl svcD DE).length<=4288)
   case first=>
    go_wp2
    go_loopw [3,4,13] (fun vo vt i wr => ∃(k:Nat) (D:List PDecl),k<=s.svcs.length/\i=.int .i64 k/\Hid (ST w0 [tkR vt D,dcR vo D] [⟨w0.heap.size,#[.slice sq1 s.msgs.length sc1,.slice sq2 s.enums.length sc2,.slice sq3 s.svcs.length sc3],26⟩] wr)/\D.length<=4224+k/\Hid ((s.svcs.drop k).foldl svcD D=(s.svcs.foldl svcD DE))) (fun _ _ i _=>s.svcs.length-(intOf i).toNat)
    case atStart=>exact⟨0,_,by omega,rfl,HM,by omega,h_ rfl⟩
    case round=>as_aux_lemma=>
     clear HM c0;obtain⟨k,D,hk,rfl,hS,hDl,hfo⟩:=hrel;by_cases hlt:k<s.svcs.length
     ·have hfo2:=h_ (show(s.svcs.drop (k+1)).foldl svcD (addD D 4 (Md.camel s.svcs[k].name) s.svcs[k].name)=(s.svcs.foldl svcD DE)from(qdh svcD _ k hlt D).symm.trans hfo.out)
      clear hfo;have hki:(k:Int)<(s.svcs.length:Int):=by omega
      have hg:=List.getElem?_eq_getElem hlt;have hmem:=List.getElem_mem hlt;have hbx:=HB.out.v _ hmem;obtain⟨b,off,hqq,hbs,cs,hce,hvs⟩:=EL3.out k _ hg;subst hqq;have hvs0:=h_ hvs;obtain⟨_,_,hvv,g1,g2⟩:=hvs;obtain⟨u1,y1,rfl,_⟩:=qa5 g1;obtain⟨u2,y2,rfl,_⟩:=qa5 g2;subst hvv;generalize s.svcs[k]=x at *;have HE:=h_ (fun(W:World) (kk:Bel w0 W)=>show W.cell? ⟨b,off+k*3,none⟩=some (.string (S x.name))by have:=kk.some (hce 0 _ rfl);rwa [Nat.add_zero]at this);clear hg hce hmem hvs0;have c1:=hS.out.cell 0 rfl 2;dsimp only at c1;have e0:=HE.out _ hS.out.bel;have hcl:=qbp x.name;have CC:=h_ (qja 1000 x.name wr (by omega) (by omega));have CU:=h_ (fun W (kk:Bel wr W)=>qdx _ (D.map (·.name)) (Md.camel x.name) W (qke (hS.out.belw kk) (by omega)) (by omega) (by rw [List.length_map];omega));obtain⟨qt,ct,hvt⟩:=qa9 (hS.out.row 0 rfl);obtain⟨qo,co,hvo⟩:=qa9 (hS.out.row 1 rfl);dsimp only [tkR,dcR]at hvt hvo;subst hvt hvo;have hal:=qc6 D 4 (Md.camel x.name) x.name;generalize Md.camel x.name=CN at *;obtain⟨U,hU⟩ : ∃U,qbl (D.map (·.name)) CN=U:=⟨_,rfl⟩;rw [hU]at CU;have HU:=h_ hU;clear hU
      go_upto_region 27 with(first
       | (go_at_call 66;(with_reducible refine CC.out.mono ?_);rintro e w1 ⟨rfl,k1⟩)
       | (go_at_call 19;(with_reducible refine(CU.out _ k1).mono ?_);rintro e w2 ⟨rfl,k2⟩;have H1:=h_ ((hS.out.belw k1).belw k2)))
      clear c1 e0 hS CU CC;have HA3:=h_ (H1.out.belw ((Bel.refl w2).alloc (.cells #[.string (S U)] 9)));clear H1
      go_upto_region 28 with(at_builtin;refine wpList_append_lies _ rfl _ _ 37 rfl w0.heap.size 9 i0 (.string ByteArray.empty) 1 16 Tryz.underlying37 hi hz0 hz1 hz2 rfl (by decide) _ D.length _ rfl (HA3.out.row 0 rfl) ⟨w2.heap.size,0,none⟩ 1 1 [.string (S U)] rfl rfl (qaz _ _ _) (by simp [Value.oneCell']) (by decide) (by unfold maxLen;omega) (by omega) HA3.out.bel.size (w2.heap.size+1) (by simp) ?_)
      intro g3 cap3 w3 hown hgrow hfr hlt3;have HG3:=h_ (HA3.out.grow 0 rfl hgrow hown (qby hfr (by simp)));clear HA3 hown hgrow hfr hlt3;have c1:=HG3.out.cell 0 rfl 2;dsimp only at c1;have e0:=HE.out _ HG3.out.bel;have HB3:=h_ (HG3.out.belw ((Bel.refl w3).alloc (.cells #[.int .i64 4,.string (S U),.string (S x.name),.slice none 0 0] 47)));clear HG3
      go_wp2_with (at_builtin;refine wpList_append_lies _ rfl _ _ 28 rfl w0.heap.size 47 i1 (.agg #[.int .i64 0,.string ByteArray.empty,.string ByteArray.empty,.slice none 0 0]) 4 64 Tryz.underlying28 hi1 hy0 hy1 hy2 rfl (by decide) _ D.length _ rfl (HB3.out.row 1 rfl) ⟨w3.heap.size,0,none⟩ 1 1 [.int .i64 4,.string (S U),.string (S x.name),.slice none 0 0] rfl rfl (qaz _ _ _) (by simp [Value.oneCell']) (by decide) (by unfold maxLen;omega) (by omega) HB3.out.bel.size (w3.heap.size+1) (by simp) ?_)
      intro g4 cap4 w4 hown hgrow hfr hlt4;have HF3:=h_ (HB3.out.grow 1 rfl hgrow hown (qby hfr (by simp)));clear HB3 hown hgrow hfr hlt4;have HD3:=h_ (show ST w0 (tkR (.slice (some ⟨g3,0,none⟩) (D.length+1) cap3) (addD D 4 CN x.name) :: dcR (.slice (some ⟨g4,0,none⟩) (D.length+1) cap4) (addD D 4 CN x.name) :: []) [⟨w0.heap.size,#[.slice sq1 s.msgs.length sc1,.slice sq2 s.enums.length sc2,.slice (some ⟨b,off,none⟩) s.svcs.length sc3],26⟩] w4 by rw [qkf,qln,HU.out];exact HF3.out);clear HF3;clear c1 e0;have hln:D.length+1=(addD D 4 CN x.name).length:=hal.symm;go_wp2;go_roundw
      case rel=>exact⟨k+1,_,by omega,by go_num,HD3,by omega,hfo2⟩
      case measure=>simp [intOf];omega
     ·have hkl:k=s.svcs.length:=by omega
      have hxe:D=(s.svcs.foldl svcD DE):=by have:=hfo.out;rw [hkl,List.drop_length]at this;exact this
      subst hxe;have c1:=hS.out.cell 0 rfl 2;dsimp only at c1;go_wp2;go_meet;exact⟨hS.out,by omega⟩
   case rest=>
    obtain⟨hMK,hD3⟩:=hcut;have HBel:=h_ hMK.bel;have HR:=h_ (hMK.row 1 rfl);have hDS:s.svcs.foldl svcD DE=qa6 s:=by rw [←HDE.out, ←HDM.out];rfl
    rw [hDS]at HR;clear hMK;go_wp2;go_ret;exact⟨_,rfl,HR.out,HBel.out⟩
end Go.Proofs.YtfoaaglbpmmhiaaGreatDoor
