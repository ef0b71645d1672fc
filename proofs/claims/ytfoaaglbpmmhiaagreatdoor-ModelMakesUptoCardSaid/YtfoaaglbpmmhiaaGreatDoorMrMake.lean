import Derived.Test.YtfoaaglbpmmhiaaGreatDoorMrDecl
import Derived.Test.YtfoaaglbpmmhiaaGreatDoorMrOfN
import Derived.Test.YtfoaaglbpmmhiaaGreatDoorMdMake
import Derived.Test.YtfoaaglbpmmhiaaGreatDoorMdLawC
import Derived.Test.YtfoaaglbpmmhiaaGreatDoorRkU
import Derived.Deep.DeepCutAuto
import Derived.Deep.CutBlock
set_option maxRecDepth 100000
set_option maxHeartbeats 4000000
set_option linter.unusedVariables false
set_option linter.unusedSimpArgs false
namespace Go.Proofs.YtfoaaglbpmmhiaaGreatDoor
open Go.RowKit Ck Md
theorem rC75 {a:Act} {ρ:Operand->Value} (h : ∀x,ρ x=a.eval x):(∀c,ρ (.const c)=c)/\∀f,ρ (.func f)=.func (.func f) #[] #[]:=⟨fun c=>h (.const c),fun f=>h (.func f)⟩
theorem qi3 {P:Program} {ops:Array Oper} {S:World->Prop} {Q:Exit->Act->World->Prop} {K:Act->World->Prop} {a:Act} {w w':World} {o:Oper} {r m:OrdT Oper} (hd:o.dst=none) (hw:Region.wanted o (yielded ops a.tmps)=true) (hy : ∀ρ:Operand->Value,(∀x,ρ x=a.eval x)->(execOp ρ o).run P w=.ok .skip w') (hS:S w') (h:qb7 P ops S Q K r a w') (hm:qb7 P ops S Q K m a w):qb7 P ops S Q K (.alt o r m) a w:=by
 refine⟨?_,hm⟩;rw [if_pos hw];unfold Oper.wp;rw [hy _ (fun _=>rfl),Oper.upon_skip,hd];exact⟨hS,h⟩
def outR (v:Value) (L:List Tr):Row:=⟨47,4,v,L.length,L.flatMap trC⟩
def trR (L:List Tr):List Row:=L.map fun t=>mrow t.v t.l
def trD (L:List Tr):List PDecl:=L.map fun t=>withM t.d t.l
theorem qi4 (L:List Tr):(trD L).length=L.length:=by unfold trD;simp
theorem qkd (L:List Tr) (t:Tr):trD (L ++ [t])=trD L ++ [withM t.d t.l]:=by unfold trD;simp
theorem ST.tr {w0 w:World} {X:List Box} {R:List Row} {vo v:Value} {L:List Tr} {d:PDecl} {l:List PMem} (h:ST w0 (mrow v l :: ⟨47,4,vo,L.length+1,L.flatMap trC ++ [.int .i64 d.kind,.string (S d.name),.string (S d.frm),v]⟩ :: (R ++ trR L)) X w):ST w0 (outR vo (L ++ [⟨d,v,l⟩]) :: (R ++ trR (L ++ [⟨d,v,l⟩]))) X w:=by
 have e1:outR vo (L ++ [⟨d,v,l⟩])=⟨47,4,vo,L.length+1,L.flatMap trC ++ [.int .i64 d.kind,.string (S d.name),.string (S d.frm),v]⟩:=by
  unfold outR;rw [List.length_append,List.flatMap_append];rfl
 have e2:R ++ trR (L ++ [⟨d,v,l⟩])=(R ++ trR L) ++ [mrow v l]:=by unfold trR;simp
 rw [e1,e2];exact h.perm ((List.Perm.swap _ _ _).trans (List.Perm.cons _ (qno _ _))) (List.Perm.refl _)
theorem decls_tr {w0 w:World} {X:List Box} {vo:Value} {L:List Tr} (h:ST w0 (outR vo L :: trR L) X w) (hl:L.length<=140737488355328) (hL : ∀t ∈ L,t.l.length<=140737488355328):Decls w vo (trD L):=by
 refine sv_map (V:=fun w vs (t:Tr)=>vs=trC t/\Mems w t.v t.l) (fun t=>withM t.d t.l) (fun vs t ht=>⟨t.v,ht.1,ht.2⟩) ?_;refine qde trC (fun _=>rfl) (h.row 0 rfl) hl (fun t ht=>⟨rfl,?_⟩);have hm:=h.rows (mrow t.v t.l) (List.mem_cons_of_mem _ (List.mem_map.2 ⟨t,ht,rfl⟩));exact qde memC (fun _=>rfl) hm (hL t ht) (fun _ _=>rfl)
theorem msgR_def (D:List PDecl) (m:PMsg):msgR D m=withM (ofZ D m.name) (recR D m) :: (qbt m).map (fun u=>withM (ofZ D (m.name ++ 58 :: u)) (chR D m u)):=rfl
theorem qm7 (sq1 sq2 sq3:Option Addr) (sc1 sc2 sc3:Nat) (s:PSchema) (w0:World) (hs:VSchema w0 [.slice sq1 s.msgs.length sc1,.slice sq2 s.enums.length sc2,.slice sq3 s.svcs.length sc3] s) (hsh:Short s) (hV:valid s=true) :
  Calls Tryz.prog 12 #[.agg #[.slice sq1 s.msgs.length sc1,.slice sq2 s.enums.length sc2,.slice sq3 s.svcs.length sc3]] w0 (qp4 w0 (make s)):=by
 obtain⟨i1,hi1,hy0,hy1,hy2⟩:=info_parts qhr;have HB:=h_ (mb_of hV);have HNB:=h_ (qeh HB.out).1;have hDl:=(qeh HB.out).2;have HSM:=h_ (qo0 hV)
 have HMZ:=h_ (fun(f:Str)=>show(ofZ (qa6 s) f).mems=[]by
  unfold ofZ ofD;cases e:(qa6 s).find? (fun d=>decide (d.frm=f))with
  | none=>rfl
  | some d=>exact qfp s d (List.mem_of_find?_eq_some e))
 obtain⟨LM,hLM⟩ : ∃LM,s.msgs.flatMap (msgR (qa6 s))=LM:=⟨_,rfl⟩;obtain⟨LE,hLE⟩ : ∃LE,s.enums.map (enumR (qa6 s))=LE:=⟨_,rfl⟩;obtain⟨LV,hLV⟩ : ∃LV,s.svcs.map (svcR (qa6 s))=LV:=⟨_,rfl⟩;have hALL:LM ++ LE ++ LV=make s:=by rw [make_eq hV, ←hLM, ←hLE, ←hLV];rfl
 have hTL:(LM ++ LE ++ LV).length=(qa6 s).length:=by rw [hALL, ←List.length_map (f:=wh),make_map wh (fun _ _=>rfl),List.length_map]
 have hTL4:(LM ++ LE ++ LV).length<=10000:=by omega
 have hTL3:(LM ++ LE).length<=10000:=by rw [List.length_append]at hTL4;omega
 have hTL2:LM.length<=10000:=by rw [List.length_append]at hTL3;omega
 have HLM:=h_ hLM;have HLE:=h_ (show LM ++ (s.enums.drop 0).map (enumR (qa6 s))=LM ++ LE by rw [←hLE];rfl);have HLV:=h_ (show LM ++ LE ++ (s.svcs.drop 0).map (svcR (qa6 s))=LM ++ LE ++ LV by rw [←hLV];rfl);have HALL:=h_ hALL;have HD0:=h_ (qfp s);clear hLM hLE hLV hALL;have kw:Bel w0 (w0.alloc (.cells #[.slice sq1 s.msgs.length sc1,.slice sq2 s.enums.length sc2,.slice sq3 s.svcs.length sc3] 26)):=(Bel.refl w0).alloc _;have CV:=h_ (qn7 sq1 sq2 sq3 sc1 sc2 sc3 s (w0.alloc (.cells #[.slice sq1 s.msgs.length sc1,.slice sq2 s.enums.length sc2,.slice sq3 s.svcs.length sc3] 26)) (hs.stays_bel kw) hsh);rw [hV]at CV;have CD:=h_ (fun W (k:Bel w0 W)=>qm5 sq1 sq2 sq3 sc1 sc2 sc3 s W (hs.stays_bel k) HB.out);have HSB:=h_ (fun W (k:Bel (w0.alloc (.cells #[.slice sq1 s.msgs.length sc1,.slice sq2 s.enums.length sc2,.slice sq3 s.svcs.length sc3] 26)) W)=>show W.cell? ⟨w0.heap.size,0,none⟩=some (.slice sq1 s.msgs.length sc1)/\W.cell? ⟨w0.heap.size,1,none⟩=some (.slice sq2 s.enums.length sc2)/\W.cell? ⟨w0.heap.size,2,none⟩=some (.slice sq3 s.svcs.length sc3)from⟨k.some (by rw [World.cell?_alloc_at _ _ _ _ rfl];rfl),k.some (by rw [World.cell?_alloc_at _ _ _ _ rfl];rfl),k.some (by rw [World.cell?_alloc_at _ _ _ _ rfl];rfl)⟩);generalize hDD:qa6 s=DD at *;generalize make s=MS at *;have HDD:=h_ hDD;clear hDD;have kw2:=h_ kw;clear kw;obtain⟨_,_,_,hcm,h1,h2,h3⟩:=hs;cases hcm;obtain⟨q,c,hq,hl1,hc1,hel1⟩:=h1;cases hq;obtain⟨q,c,hq,hl2,hc2,hel2⟩:=h2;cases hq;obtain⟨q,c,hq,hl3,hc3,hel3⟩:=h3;cases hq;have EL1:=h_ hel1;have EL2:=h_ hel2;have EL3:=h_ hel3;have hlm:=HB.out.lm;have hle:=HB.out.le;have hlv:=HB.out.lv;clear hel1 hel2 hel3 hsh hV hTL
 go_enter Tryz.func12,Tryz.ntmps12
 go_upto_region 3 with(go_at_call 21;(with_reducible refine CV.out.mono ?_);rintro e w1 ⟨rfl,k1⟩;have HK1:=h_ (show Bel _ w1 from k1);have HK2:=h_ (show Bel w0 w1 from Bel.of kw2.out HK1.out);obtain⟨m0,m1,m2⟩:=HSB.out _ HK1.out)
 go_upto_region 4 with(go_at_call 44;(with_reducible refine(CD.out _ HK2.out).mono ?_);rintro e wb ⟨vd,rfl,own,kd⟩;obtain⟨qd,cd,rfl⟩:=qa9 own)
 have hN:=qqw own (by omega) HD0.out;have HDN:=h_ (fun W (kk:Bel wb W)=>hN.bel VDeclN.stays kk);have HDE:=h_ (fun W (kk:Bel wb W)=>(qju hN).bel VDecl.stays kk);have HSC:=h_ (fun W (kk:Bel wb W)=>HSB.out W (Bel.of (Bel.of HK1.out kd) kk));have kb:=h_ (show Bel w0 wb from Bel.of (Bel.of kw2.out HK1.out) kd);have HM:=h_ (show ST wb (outR (.slice none 0 0) [] :: trR []) [] wb from(ST.start wb).nilrow 47 4);clear m0 m1 m2 HK1 HK2 CV CD hN own kd HSB kw2 k1;generalize w0.heap.size=sb at HSC ⊢;have c0:=(HSC.out _ HM.out.bel).1
 go_upto_block 0 with(fail)
 go_cut [5] (fun s5 wx => ∃L:List Tr,ST wb (outR s5 L :: trR L) [] wx/\trD L=LM)
 case first=>
  go_wp2
  go_loopw [5,6] (fun vo i wr => ∃(k:Nat) (L:List Tr),k<=s.msgs.length/\i=.int .i64 k/\Hid (ST wb (outR vo L :: trR L) [] wr)/\Hid (trD L ++ (s.msgs.drop k).flatMap (msgR DD)=LM)) (fun _ i _=>s.msgs.length-(intOf i).toNat)
  case atStart=>exact⟨0,[],by omega,rfl,HM,h_ (by rw [←HLM.out];rfl)⟩
  case round=>as_aux_lemma=>
   clear HM c0;obtain⟨k,L,hk,rfl,hS,hfo⟩:=hrel;by_cases hlt:k<s.msgs.length
   ·have hfo1:=h_ (show(trD L ++ msgR DD s.msgs[k]) ++ (s.msgs.drop (k+1)).flatMap (msgR DD)=LM by rw [←hfo.out,List.drop_eq_getElem_cons hlt,List.flatMap_cons,List.append_assoc])
    have hus:=qcd HB.out (List.getElem_mem hlt);clear hfo;have hki:(k:Int)<(s.msgs.length:Int):=by omega
    have hg:=List.getElem?_eq_getElem hlt;have hmem:=List.getElem_mem hlt;have hbx:=HB.out.m _ hmem;obtain⟨b,off,hqq,hbs,cs,hce,hvs⟩:=EL1.out k _ hg;subst hqq;have hvs0:=h_ hvs;obtain⟨_,_,_,_,hvv,g1,g2,g3,g4⟩:=hvs;obtain⟨u1,y1,rfl,_⟩:=qa5 g1;obtain⟨u2,y2,rfl,_⟩:=qa5 g2;obtain⟨u3,y3,rfl,_⟩:=qa5 g3;obtain⟨u4,y4,rfl,_⟩:=qa5 g4;subst hvv;generalize s.msgs[k]=x at *;clear hg hmem;have hul:=qce x;generalize hLX:trD L ++ msgR DD x=LX at hfo1;have HLX:=h_ (show(trD L ++ [withM (ofZ DD x.name) (recR DD x)]) ++ (qbt x).map (fun u=>withM (ofZ DD (x.name ++ 58 :: u)) (chR DD x u))=LX by rw [←hLX,msgR_def];simp)
    have hLXl:LX.length<=LM.length:=by
     have:=congrArg List.length hfo1.out;rw [List.length_append]at this;omega
    have hLl:L.length+1+(qbt x).length<=LM.length:=by
     have:=congrArg List.length HLX.out;rw [List.length_append,List.length_append,List.length_map,qi4]at this;simp only [List.length_cons,List.length_nil]at this;omega
    clear hLX;have c0:=(HSC.out _ hS.out.bel).1;have kr:=Bel.of kb.out hS.out.bel;have e0:=kr.some (hce 0 _ rfl);rw [Nat.add_zero]at e0;have e1:=kr.some (hce 1 _ rfl);have e2:=kr.some (hce 2 _ rfl);have e3:=kr.some (hce 3 _ rfl);have e4:=kr.some (hce 4 _ rfl);obtain⟨qo,co,hvo⟩:=qa9 (hS.out.row 0 rfl);dsimp only [outR]at hvo;subst hvo;have HA:=h_ (hS.out.addbox #[.string (S x.name),.slice u1 x.fields.length y1,.slice u2 x.res.length y2,.slice u3 x.gone.length y3,.slice u4 x.notes.length y4] 44);clear hS hce kr
    go_upto_region 9 with(fail)
    clear e0 e1 e2 e3 e4 c0;generalize wr.heap.size=mb at HA ⊢;generalize hwa:wr.alloc _=wa at HA ⊢;clear hwa;have f0:=HA.out.cell 0 rfl 0;dsimp only at f0;have CO:=h_ (fun W (kk:Bel wb W)=>(qq4 (.slice qd DD.length cd) DD x.name W (HDN.out W kk)).mono (fun e w' h=>qf0 h));generalize ofZ DD x.name=Z at CO HLX
    go_upto_region 10 with(go_at_call 32;(with_reducible refine(CO.out _ HA.out.bel).mono ?_);rintro e w2 ⟨bz,rfl,k2⟩)
    have H3:=h_ ((HA.out.belw k2).addbox #[.int .i64 Z.kind,.string (S Z.name),.string (S Z.frm),.slice none 0 0] 47);clear HA k2 CO f0;generalize w2.heap.size=gz at H3 ⊢;generalize hwz:w2.alloc _=wz at H3 ⊢;clear hwz;have f0:=H3.out.cell 1 rfl 0;have f1:=H3.out.cell 1 rfl 1;have f2:=H3.out.cell 1 rfl 2;have f3:=H3.out.cell 1 rfl 3;have f4:=H3.out.cell 1 rfl 4;dsimp only at f0 f1 f2 f3 f4;have CR:=h_ (qpz (.slice qd DD.length cd) DD u1 u2 u3 u4 _ _ _ y1 y2 y3 y4 x wz (HDE.out _ H3.out.bel) (VMsg.stays _ _ _ _ (Bel.of kb.out H3.out.bel) hvs0.out) HNB.out (by omega) (by omega) (fun f hf=>⟨Nat.le_trans (hbx.2.2 f hf).1 (by omega),Nat.le_trans (hbx.2.2 f hf).2 (by omega)⟩));generalize recR DD x=RR at CR HLX
    go_upto_region 11 with(go_at_call 45;(with_reducible refine CR.out.mono ?_);rintro e w4 ⟨v,rfl,own,g4⟩;obtain⟨qv,cv,rfl⟩:=qa9 own;have H4:=h_ (H3.out.addrow g4 own);have z3:w4.cell? ⟨gz,3,none⟩=some (.slice none 0 0):=H4.out.cell 0 rfl 3;have fz:w4.frozen? ⟨gz,3,none⟩=false:=H4.out.frz 0 rfl 3)
    clear f0 f1 f2 f3 f4 H3 CR own g4 z3 fz;have HS5:=H4.out.setbox 0 rfl 3 (.slice qv RR.length cv);generalize hW:World.setCell w4 _ _=w5;have hWh:w4.setCell ⟨gz,3,none⟩ (.slice qv RR.length cv)=w5:=hW;have H5:=h_ (show ST wb (mrow (.slice qv RR.length cv) RR :: outR (.slice qo L.length co) L :: trR L) (⟨gz,#[.int .i64 Z.kind,.string (S Z.name),.string (S Z.frm),.slice qv RR.length cv],47⟩ :: [⟨mb,#[.string (S x.name),.slice u1 x.fields.length y1,.slice u2 x.res.length y2,.slice u3 x.gone.length y3,.slice u4 x.notes.length y4],44⟩]) w5 by rw [←hWh];exact HS5);clear hW hWh HS5 H4;have z0:w5.cell? ⟨gz,0,none⟩=some (.int .i64 Z.kind):=H5.out.cell 0 rfl 0;have z1:w5.cell? ⟨gz,1,none⟩=some (.string (S Z.name)):=H5.out.cell 0 rfl 1;have z2:w5.cell? ⟨gz,2,none⟩=some (.string (S Z.frm)):=H5.out.cell 0 rfl 2;have z3:w5.cell? ⟨gz,3,none⟩=some (.slice qv RR.length cv):=H5.out.cell 0 rfl 3;have HB6:=h_ (H5.out.belw ((Bel.refl w5).alloc (.cells #[.int .i64 Z.kind,.string (S Z.name),.string (S Z.frm),.slice qv RR.length cv] 47)));clear H5
    go_upto_region 12 with(at_builtin;refine wpList_append_lies _ rfl _ _ 28 rfl wb.heap.size 47 i1 (.agg #[.int .i64 0,.string ByteArray.empty,.string ByteArray.empty,.slice none 0 0]) 4 64 Tryz.underlying28 hi1 hy0 hy1 hy2 rfl (by decide) _ L.length _ rfl (HB6.out.row 1 rfl) ⟨w5.heap.size,0,none⟩ 1 1 [.int .i64 Z.kind,.string (S Z.name),.string (S Z.frm),.slice qv RR.length cv] rfl rfl (qaz _ _ _) (by simp [Value.oneCell']) (by decide) (by unfold maxLen;omega) (by omega) HB6.out.bel.size (w5.heap.size+1) (by simp) ?_)
    intro g6 cap6 w6 hown hgrow hfr hlt6;have HG6:=HB6.out.grow 1 rfl hgrow hown (qby hfr (by simp));have HT6:=h_ (ST.tr (R:=[]) (d:=Z) (L:=L) (l:=RR) (v:=.slice qv RR.length cv) (vo:=.slice (some ⟨g6,0,none⟩) (L.length+1) cap6) HG6.dropbox0);have htl6:(L ++ [(⟨Z,.slice qv RR.length cv,RR⟩:Tr)]).length=L.length+1:=by rw [List.length_append];rfl
    clear HB6 HG6 hown hgrow hfr hlt6 z0 z1 z2 z3;have f0:=HT6.out.cell 0 rfl 0;have f1:=HT6.out.cell 0 rfl 1;have f2:=HT6.out.cell 0 rfl 2;have f3:=HT6.out.cell 0 rfl 3;have f4:=HT6.out.cell 0 rfl 4;dsimp only at f0 f1 f2 f3 f4;have CUN:=h_ (qko u1 u2 u3 u4 _ _ _ y1 y2 y3 y4 x w6 (VMsg.stays _ _ _ _ (Bel.of kb.out HT6.out.bel) hvs0.out) (by omega));have HLX2:=h_ (show trD (L ++ [(⟨Z,.slice qv RR.length cv,RR⟩:Tr)]) ++ (qbt x).map (fun u=>withM (ofZ DD (x.name ++ 58 :: u)) (chR DD x u))=LX by rw [qkd];exact HLX.out);generalize hUS:qbt x=us at CUN HLX2 HLX hLl hul hus;clear hUS HLX;rw [←htl6];rw [←htl6]at HT6;generalize hL1:L ++ [(⟨Z,.slice qv RR.length cv,RR⟩:Tr)]=L1 at HT6 HLX2 htl6 ⊢;clear htl6
    go_upto_region 13 with(go_at_call 46;(with_reducible refine CUN.out.mono ?_);rintro e w7 ⟨vu,rfl,hown,g7⟩;obtain⟨qu,cu,rfl⟩:=qa9 hown;have H7:=h_ (HT6.out.addrow g7 hown);clear hown g7 HT6 f0 f1 f2 f3 f4 CUN)
    have H7:=h_ (H7.out.perm (List.Perm.swap _ _ _) (List.Perm.refl _));clear hL1;have HLX3:=h_ (show trD L1 ++ (us.drop 0).map (fun u=>withM (ofZ DD (x.name ++ 58 :: u)) (chR DD x u))=LX from HLX2.out);clear HLX2;go_wp2
    go_loopw [5,11] (fun vo i2 wr => ∃(j:Nat) (L2:List Tr),j<=us.length/\i2=.int .i64 j/\Hid (ST wb (outR vo L2 :: ⟨9,1,.slice qu us.length cu,us.length,nmC us⟩ :: trR L2) [⟨mb,#[.string (S x.name),.slice u1 x.fields.length y1,.slice u2 x.res.length y2,.slice u3 x.gone.length y3,.slice u4 x.notes.length y4],44⟩] wr)/\Hid (trD L2 ++ (us.drop j).map (fun u=>withM (ofZ DD (x.name ++ 58 :: u)) (chR DD x u))=LX)) (fun _ i2 _=>us.length-(intOf i2).toNat)
    case atStart=>exact⟨0,L1,by omega,rfl,H7,HLX3⟩
    case round=>as_aux_lemma=>
     clear H7 HLX3;obtain⟨j,L2,hj,rfl,hS2,hch⟩:=hrel;by_cases hlt2:j<us.length
     ·have hji:(j:Int)<(us.length:Int):=by omega
      obtain⟨gu,hqe⟩:=qkt (hS2.out.row 1 rfl) (show us.length ≠ 0 by omega);dsimp only at hqe;cases hqe;have hun:=hus _ (List.getElem_mem hlt2);have HUU:=h_ (show(nmC us)[j]? = some (.string (S us[j]))by unfold nmC;rw [List.getElem?_map,List.getElem?_eq_getElem hlt2];rfl);have hch2:=h_ (show(trD L2 ++ [withM (ofZ DD (x.name ++ 58 :: us[j])) (chR DD x us[j])]) ++ (us.drop (j+1)).map (fun u=>withM (ofZ DD (x.name ++ 58 :: u)) (chR DD x u))=LX by rw [←hch.out,List.drop_eq_getElem_cons hlt2,List.map_cons,List.append_assoc];rfl)
      have hL2l:L2.length+1<=LM.length:=by
       have:=congrArg List.length hch2.out;rw [List.length_append,List.length_append,qi4]at this;simp only [List.length_cons,List.length_nil]at this;omega
      clear hch;generalize us[j]=uu at *;obtain⟨qo2,co2,hvo⟩:=qa9 (hS2.out.row 0 rfl);dsimp only [outR]at hvo;subst hvo;have CO:=h_ (fun W (kk:Bel wb W)=>(qq4 (.slice qd DD.length cd) DD (x.name ++ 58 :: uu) W (HDN.out W kk)).mono (fun e w' h=>qf0 h));generalize ofZ DD (x.name ++ 58 :: uu)=Z at CO hch2;rw [←qgv]at CO;have q7 : ¬(9223372036854775807<(S x.name).size+1):=by rw [qai];omega
      have q9 : ¬(9223372036854775807<(S x.name).size+1+(S uu).size):=by rw [qai,qai];omega
      go_upto_region 16 with(fail)
      go_cut [12] (fun s12 wx => ∃gz,s12=.pointer (some ⟨gz,0,none⟩)/\ST wb (outR (.slice qo2 L2.length co2) L2 :: ⟨9,1,.slice (some ⟨gu,0,none⟩) us.length cu,us.length,nmC us⟩ :: trR L2) (⟨gz,#[.int .i64 Z.kind,.string (S Z.name),.string (S Z.frm),.slice none 0 0],47⟩ :: [⟨mb,#[.string (S x.name),.slice u1 x.fields.length y1,.slice u2 x.res.length y2,.slice u3 x.gone.length y3,.slice u4 x.notes.length y4],44⟩]) wx)
      case first=>
       obtain⟨wd,hwd⟩ : ∃wd,wd=wr.drew:=⟨_,rfl⟩;have HD:=h_ (show ST wb _ _ wd by rw [hwd];exact hS2.out.belw (Bel.refl _).drew);have HWD:=h_ hwd;clear hwd hS2;have KS:=h_ (fun(W:World) (kk:Bel wd W)=>show W.cell? ⟨mb,0,none⟩=some (.string (S x.name))/\W.cell? ⟨gu,j,none⟩=some (.string (S uu))from⟨kk.some (HD.out.cell 0 rfl 0),kk.some (HD.out.rowcell 1 rfl rfl j (.string (S uu)) HUU.out)⟩);have CO:=h_ (fun W (kk:Bel wd W)=>CO.out W (Bel.of HD.out.bel kk));refine qap (fun W=>Bel wd W) (.take 0 (.take 1 (.take 2 (.take 3 (.take 4 (.take 5 (.take 6 (.take 7 (.take 8 (.alt 9 (.take 10 (.take 11 (.take 12 (.alt 13 (.alt 14 .done .no) .no)))) (.alt 13 (.alt 9 (.take 10 (.take 11 (.take 12 (.alt 14 .done .no)))) .no) .no))))))))))) 15 (by kernel_rfl) (by kernel_rfl) HWD.out (Bel.refl _) (fun a ha=>?_)
       (simp only [pickT,List.getD_cons_zero,List.getD_cons_succ])
       have hsz:a.tmps.size=204:=(by rw [ha];kernel_rfl);have a4:a.eval (.tmp 4)=.slice qd DD.length cd:=(by rw [ha];kernel_rfl);have a7:a.eval (.tmp 7)=.pointer (some ⟨mb,0,none⟩):=(by rw [ha];kernel_rfl);have a10:a.eval (.tmp 10)=.slice (some ⟨gu,0,none⟩) us.length cu:=(by rw [ha];kernel_rfl);have a11:a.eval (.tmp 11)=.int .i64 j:=(by rw [ha];kernel_rfl)
       (with_reducible refine qa2 (v:=?_) rfl (by with_unfolding_all rfl) (fun ρ hρ W hW=>?_) ?_);(rotate_left 1)
       focus(clear hW;have p4:=hρ (.tmp 4);(simp +decide only [qa4,hsz,ev_eq,ev_ne,a4,a7,a10,a11]at p4);obtain⟨hc,hfn⟩:=rC75 hρ;clear hρ;go_simp;(all_goals with_reducible first|rfl|(constructor <;> rfl)))
       (with_reducible refine qa2 (v:=?_) rfl (by with_unfolding_all rfl) (fun ρ hρ W hW=>?_) ?_);(rotate_left 1)
       focus(clear hW;have p7:=hρ (.tmp 7);(simp +decide only [qa4,hsz,ev_eq,ev_ne,a4,a7,a10,a11]at p7);obtain⟨hc,hfn⟩:=rC75 hρ;clear hρ;go_simp;(all_goals with_reducible first|rfl|(constructor <;> rfl)))
       (with_reducible refine qa2 (v:=?_) rfl (by with_unfolding_all rfl) (fun ρ hρ W hW=>?_) ?_);(rotate_left 1)
       focus(have hS:=KS.out _ hW;clear hW;have p64:=hρ (.tmp 64);(simp +decide only [qa4,hsz,ev_eq,ev_ne,a4,a7,a10,a11]at p64);obtain⟨hc,hfn⟩:=rC75 hρ;clear hρ;go_simp;(all_goals with_reducible first|rfl|(constructor <;> rfl)))
       (with_reducible refine qa2 (v:=?_) rfl (by with_unfolding_all rfl) (fun ρ hρ W hW=>?_) ?_);(rotate_left 1)
       focus(clear hW;have p65:=hρ (.tmp 65);(simp +decide only [qa4,hsz,ev_eq,ev_ne,a4,a7,a10,a11]at p65);obtain⟨hc,hfn⟩:=rC75 hρ;clear hρ;go_simp;(all_goals with_reducible first|rfl|(constructor <;> rfl)))
       (with_reducible refine qa2 (v:=?_) rfl (by with_unfolding_all rfl) (fun ρ hρ W hW=>?_) ?_);(rotate_left 1)
       focus(clear hW;have p10:=hρ (.tmp 10);(simp +decide only [qa4,hsz,ev_eq,ev_ne,a4,a7,a10,a11]at p10);obtain⟨hc,hfn⟩:=rC75 hρ;clear hρ;go_simp;(all_goals with_reducible first|rfl|(constructor <;> rfl)))
       (with_reducible refine qa2 (v:=?_) rfl (by with_unfolding_all rfl) (fun ρ hρ W hW=>?_) ?_);(rotate_left 1)
       focus(clear hW;have p11:=hρ (.tmp 11);(simp +decide only [qa4,hsz,ev_eq,ev_ne,a4,a7,a10,a11]at p11);obtain⟨hc,hfn⟩:=rC75 hρ;clear hρ;go_simp;(all_goals with_reducible first|rfl|(constructor <;> rfl)))
       (with_reducible refine qa2 (v:=?_) rfl (by with_unfolding_all rfl) (fun ρ hρ W hW=>?_) ?_);(rotate_left 1)
       focus(clear hW;have p67:=hρ (.tmp 67);have p68:=hρ (.tmp 68);(simp +decide only [qa4,hsz,ev_eq,ev_ne,a4,a7,a10,a11]at p67 p68);obtain⟨hc,hfn⟩:=rC75 hρ;clear hρ;go_simp;(all_goals with_reducible first|rfl|(constructor <;> rfl)))
       (with_reducible refine qa2 (v:=?_) rfl (by with_unfolding_all rfl) (fun ρ hρ W hW=>?_) ?_);(rotate_left 1)
       focus(have hS:=KS.out _ hW;clear hW;have p69:=hρ (.tmp 69);(simp +decide only [qa4,hsz,ev_eq,ev_ne,a4,a7,a10,a11]at p69);obtain⟨hc,hfn⟩:=rC75 hρ;clear hρ;go_simp;(all_goals with_reducible first|rfl|(constructor <;> rfl)))
       (with_reducible refine qa2 (v:=?_) rfl (by with_unfolding_all rfl) (fun ρ hρ W hW=>?_) ?_);(rotate_left 1)
       focus(clear hW;have p66:=hρ (.tmp 66);have p70:=hρ (.tmp 70);(simp +decide only [qa4,hsz,ev_eq,ev_ne,a4,a7,a10,a11]at p66 p70);obtain⟨hc,hfn⟩:=rC75 hρ;clear hρ;go_simp;(all_goals with_reducible first|rfl|(constructor <;> rfl)))
       (with_reducible refine qbc (f:=?_) (args:=?_) rfl (by with_unfolding_all rfl) (fun ρ hρ=>?_) ?_ ?_);(rotate_left 2)
       focus(have p63:=hρ (.tmp 63);have p71:=hρ (.tmp 71);(simp +decide only [qa4,hsz,ev_eq,ev_ne,a4,a7,a10,a11]at p63 p71);obtain⟨hc,hfn⟩:=rC75 hρ;clear hρ;rw [qaf (hfn _)];clear hfn;go_simp;(all_goals with_reducible first|rfl|(constructor <;> rfl)))
       with_reducible refine(CO.out _ (by(with_reducible repeat first|assumption|exact Bel.refl _|refine Bel.drew ?_|refine Bel.drewN ?_ _|refine Bel.alloc ?_ _))).mono ?_
       rintro e wx ⟨bz,rfl,kc⟩;have kt:Bel wd wx:=Bel.of (by(with_reducible repeat first|assumption|exact Bel.refl _|refine Bel.drew ?_|refine Bel.drewN ?_ _|refine Bel.alloc ?_ _)) kc
       first|(have hbx:wx.heap[wd.heap.size]? = some (.cells #[.int .i64 0,.string ⟨#[]⟩,.string ⟨#[]⟩,.slice none 0 0] 47 (0,0)):=(Below.block (show Bel (wd.alloc (.cells #[.int .i64 0,.string ⟨#[]⟩,.string ⟨#[]⟩,.slice none 0 0] 47)) wx from kc) wd.heap.size (by simp)).trans (heap_alloc_new _ _);have x0:wx.cell? ⟨wd.heap.size,0,none⟩=some (.int .i64 0):=Lib.cell_of_heap hbx 0;have x1:wx.cell? ⟨wd.heap.size,1,none⟩=some (.string ⟨#[]⟩):=Lib.cell_of_heap hbx 1;have x2:wx.cell? ⟨wd.heap.size,2,none⟩=some (.string ⟨#[]⟩):=Lib.cell_of_heap hbx 2;have x3:wx.cell? ⟨wd.heap.size,3,none⟩=some (.slice none 0 0):=Lib.cell_of_heap hbx 3;have fzx : ∀o,wx.frozen? ⟨wd.heap.size,o,none⟩=false:=fun o=>Lib.frozen_of_heap hbx o)|skip
       refine⟨_,rfl,kt,?_⟩
       ·(with_reducible refine qa2 (v:=?_) rfl (by with_unfolding_all rfl) (fun ρ hρ W hW=>?_) ?_);(rotate_left 1)
        focus(clear hW;have p72:=hρ (.tmp 72);(simp +decide only [qa4,hsz,ev_eq,ev_ne,a4,a7,a10,a11]at p72);obtain⟨hc,hfn⟩:=rC75 hρ;clear hρ;go_simp;(all_goals with_reducible first|rfl|(constructor <;> rfl)))
        (with_reducible refine qa2 (v:=?_) rfl (by with_unfolding_all rfl) (fun ρ hρ W hW=>?_) ?_);(rotate_left 1)
        focus(clear hW;have p62:=hρ (.tmp 62);(simp +decide only [qa4,hsz,ev_eq,ev_ne,a4,a7,a10,a11]at p62);obtain⟨hc,hfn⟩:=rC75 hρ;clear hρ;go_simp;(all_goals with_reducible first|rfl|(constructor <;> rfl)))
        (with_reducible refine qa2 (v:=?_) rfl (by with_unfolding_all rfl) (fun ρ hρ W hW=>?_) ?_);(rotate_left 1)
        focus(clear hW;have p62:=hρ (.tmp 62);(simp +decide only [qa4,hsz,ev_eq,ev_ne,a4,a7,a10,a11]at p62);obtain⟨hc,hfn⟩:=rC75 hρ;clear hρ;go_simp;(all_goals with_reducible first|rfl|(constructor <;> rfl)))
        (with_reducible refine qkc (v:=?_) (w':=?_) rfl (by with_unfolding_all rfl) (fun ρ hρ=>?_) ?_ ?_ ?_);(rotate_left 2)
        focus(obtain⟨hc,hfn⟩:=rC75 hρ;clear hρ;go_simp;(all_goals with_reducible first|rfl|(constructor <;> rfl)))
        focus(first|((with_reducible repeat first|assumption|exact Bel.refl _|refine Bel.drew ?_|refine Bel.drewN ?_ _|refine Bel.alloc ?_ _);done)|((repeat (with_reducible refine qa8 ?_ (Nat.le_refl _)));(with_reducible repeat first|assumption|exact Bel.refl _|refine Bel.drew ?_|refine Bel.drewN ?_ _|refine Bel.alloc ?_ _)))
        rotate_left 1
        focus exact qbh
        (with_reducible refine qi3 (w':=?_) rfl (by with_unfolding_all rfl) (fun ρ hρ=>?_) ?_ ?_ ?_);(rotate_left 1)
        focus(have p12:=hρ (.tmp 12);have p73:=hρ (.tmp 73);(simp +decide only [qa4,hsz,ev_eq,ev_ne,a4,a7,a10,a11]at p12 p73);obtain⟨hc,hfn⟩:=rC75 hρ;clear hρ;go_simp;(all_goals with_reducible first|rfl|(constructor <;> rfl)))
        focus(first|((with_reducible repeat first|assumption|exact Bel.refl _|refine Bel.drew ?_|refine Bel.drewN ?_ _|refine Bel.alloc ?_ _);done)|((repeat (with_reducible refine qa8 ?_ (Nat.le_refl _)));(with_reducible repeat first|assumption|exact Bel.refl _|refine Bel.drew ?_|refine Bel.drewN ?_ _|refine Bel.alloc ?_ _)))
        rotate_left 1
        focus exact qbh
        refine qb8 ?_
        (simp only [t_3,t_4])
        (with_reducible refine qkz (v:=?_) (w':=?_) rfl (by with_unfolding_all rfl) (fun ρ hρ=>?_) ?_);(rotate_left 2)
        focus(have p74:=hρ (.tmp 74);(simp +decide only [qa4,hsz,ev_eq,ev_ne,a4,a7,a10,a11]at p74);obtain⟨hc,hfn⟩:=rC75 hρ;clear hρ;go_simp;(all_goals with_reducible first|rfl|(constructor <;> rfl)))
        refine wpList_nil ?_;subst ha
        (simp only [qbu,set_s,set_z])
        go_wp2;go_meet
        first|exact⟨_,rfl,(HD.out.belw kt).addbox _ _⟩|exact⟨_,rfl,(((((HD.out.addbox #[.int .i64 0,.string ⟨#[]⟩,.string ⟨#[]⟩,.slice none 0 0] 47).belw kc).setbox 0 rfl 0 _).setbox 0 rfl 1 _).setbox 0 rfl 2 _).setbox 0 rfl 3 _⟩
       (with_reducible refine qkc (v:=?_) (w':=?_) rfl (by with_unfolding_all rfl) (fun ρ hρ=>?_) ?_ ?_ ?_);(rotate_left 2)
       focus(obtain⟨hc,hfn⟩:=rC75 hρ;clear hρ;go_simp;(all_goals with_reducible first|rfl|(constructor <;> rfl)))
       focus(first|((with_reducible repeat first|assumption|exact Bel.refl _|refine Bel.drew ?_|refine Bel.drewN ?_ _|refine Bel.alloc ?_ _);done)|((repeat (with_reducible refine qa8 ?_ (Nat.le_refl _)));(with_reducible repeat first|assumption|exact Bel.refl _|refine Bel.drew ?_|refine Bel.drewN ?_ _|refine Bel.alloc ?_ _)))
       rotate_left 1
       focus exact qbh
       (with_reducible refine qbc (f:=?_) (args:=?_) rfl (by with_unfolding_all rfl) (fun ρ hρ=>?_) ?_ ?_);(rotate_left 2)
       focus(have p63:=hρ (.tmp 63);have p71:=hρ (.tmp 71);(simp +decide only [qa4,hsz,ev_eq,ev_ne,a4,a7,a10,a11]at p63 p71);obtain⟨hc,hfn⟩:=rC75 hρ;clear hρ;rw [qaf (hfn _)];clear hfn;go_simp;(all_goals with_reducible first|rfl|(constructor <;> rfl)))
       with_reducible refine(CO.out _ (by(with_reducible repeat first|assumption|exact Bel.refl _|refine Bel.drew ?_|refine Bel.drewN ?_ _|refine Bel.alloc ?_ _))).mono ?_
       rintro e wx ⟨bz,rfl,kc⟩;have kt:Bel wd wx:=Bel.of (by(with_reducible repeat first|assumption|exact Bel.refl _|refine Bel.drew ?_|refine Bel.drewN ?_ _|refine Bel.alloc ?_ _)) kc
       first|(have hbx:wx.heap[wd.heap.size]? = some (.cells #[.int .i64 0,.string ⟨#[]⟩,.string ⟨#[]⟩,.slice none 0 0] 47 (0,0)):=(Below.block (show Bel (wd.alloc (.cells #[.int .i64 0,.string ⟨#[]⟩,.string ⟨#[]⟩,.slice none 0 0] 47)) wx from kc) wd.heap.size (by simp)).trans (heap_alloc_new _ _);have x0:wx.cell? ⟨wd.heap.size,0,none⟩=some (.int .i64 0):=Lib.cell_of_heap hbx 0;have x1:wx.cell? ⟨wd.heap.size,1,none⟩=some (.string ⟨#[]⟩):=Lib.cell_of_heap hbx 1;have x2:wx.cell? ⟨wd.heap.size,2,none⟩=some (.string ⟨#[]⟩):=Lib.cell_of_heap hbx 2;have x3:wx.cell? ⟨wd.heap.size,3,none⟩=some (.slice none 0 0):=Lib.cell_of_heap hbx 3;have fzx : ∀o,wx.frozen? ⟨wd.heap.size,o,none⟩=false:=fun o=>Lib.frozen_of_heap hbx o)|skip
       refine⟨_,rfl,kt,?_⟩;rotate_left 1
       focus exact qbh
       (with_reducible refine qa2 (v:=?_) rfl (by with_unfolding_all rfl) (fun ρ hρ W hW=>?_) ?_);(rotate_left 1)
       focus(clear hW;have p72:=hρ (.tmp 72);(simp +decide only [qa4,hsz,ev_eq,ev_ne,a4,a7,a10,a11]at p72);obtain⟨hc,hfn⟩:=rC75 hρ;clear hρ;go_simp;(all_goals with_reducible first|rfl|(constructor <;> rfl)))
       (with_reducible refine qa2 (v:=?_) rfl (by with_unfolding_all rfl) (fun ρ hρ W hW=>?_) ?_);(rotate_left 1)
       focus(clear hW;have p62:=hρ (.tmp 62);(simp +decide only [qa4,hsz,ev_eq,ev_ne,a4,a7,a10,a11]at p62);obtain⟨hc,hfn⟩:=rC75 hρ;clear hρ;go_simp;(all_goals with_reducible first|rfl|(constructor <;> rfl)))
       (with_reducible refine qa2 (v:=?_) rfl (by with_unfolding_all rfl) (fun ρ hρ W hW=>?_) ?_);(rotate_left 1)
       focus(clear hW;have p62:=hρ (.tmp 62);(simp +decide only [qa4,hsz,ev_eq,ev_ne,a4,a7,a10,a11]at p62);obtain⟨hc,hfn⟩:=rC75 hρ;clear hρ;go_simp;(all_goals with_reducible first|rfl|(constructor <;> rfl)))
       (with_reducible refine qi3 (w':=?_) rfl (by with_unfolding_all rfl) (fun ρ hρ=>?_) ?_ ?_ ?_);(rotate_left 1)
       focus(have p12:=hρ (.tmp 12);have p73:=hρ (.tmp 73);(simp +decide only [qa4,hsz,ev_eq,ev_ne,a4,a7,a10,a11]at p12 p73);obtain⟨hc,hfn⟩:=rC75 hρ;clear hρ;go_simp;(all_goals with_reducible first|rfl|(constructor <;> rfl)))
       focus(first|((with_reducible repeat first|assumption|exact Bel.refl _|refine Bel.drew ?_|refine Bel.drewN ?_ _|refine Bel.alloc ?_ _);done)|((repeat (with_reducible refine qa8 ?_ (Nat.le_refl _)));(with_reducible repeat first|assumption|exact Bel.refl _|refine Bel.drew ?_|refine Bel.drewN ?_ _|refine Bel.alloc ?_ _)))
       rotate_left 1
       focus exact qbh
       refine qb8 ?_
       (simp only [t_3,t_4])
       (with_reducible refine qkz (v:=?_) (w':=?_) rfl (by with_unfolding_all rfl) (fun ρ hρ=>?_) ?_);(rotate_left 2)
       focus(have p74:=hρ (.tmp 74);(simp +decide only [qa4,hsz,ev_eq,ev_ne,a4,a7,a10,a11]at p74);obtain⟨hc,hfn⟩:=rC75 hρ;clear hρ;go_simp;(all_goals with_reducible first|rfl|(constructor <;> rfl)))
       refine wpList_nil ?_;subst ha
       (simp only [qbu,set_s,set_z])
       go_wp2;go_meet
       first|exact⟨_,rfl,(HD.out.belw kt).addbox _ _⟩|exact⟨_,rfl,(((((HD.out.addbox #[.int .i64 0,.string ⟨#[]⟩,.string ⟨#[]⟩,.slice none 0 0] 47).belw kc).setbox 0 rfl 0 _).setbox 0 rfl 1 _).setbox 0 rfl 2 _).setbox 0 rfl 3 _⟩
      case rest=>
       obtain⟨gz,hs12,hZ⟩:=hcut;subst hs12;have H3:=h_ hZ;clear hZ CO hS2 q7 q9
       go_upto_region 17 with(fail)
       obtain⟨wd,hwd⟩ : ∃wd,wd=wc.drew:=⟨_,rfl⟩;have HD:=h_ (show ST wb _ _ wd by rw [hwd];exact H3.out.belw (Bel.refl _).drew);have HWD:=h_ hwd;clear hwd H3;have f0:=HD.out.cell 1 rfl 0;have f1:=HD.out.cell 1 rfl 1;have f2:=HD.out.cell 1 rfl 2;have f3:=HD.out.cell 1 rfl 3;have f4:=HD.out.cell 1 rfl 4;dsimp only at f0 f1 f2 f3 f4;have hcu:=HD.out.rowcell 1 rfl rfl j (.string (S uu)) HUU.out;have CC:=h_ (qq0 (.slice qd DD.length cd) DD u1 u2 u3 u4 _ _ _ y1 y2 y3 y4 x uu wd (HDE.out _ HD.out.bel) (VMsg.stays _ _ _ _ (Bel.of kb.out HD.out.bel) hvs0.out) (by omega) (fun f hf=>⟨Nat.le_trans (hbx.2.2 f hf).1 (by omega),Nat.le_trans (hbx.2.2 f hf).2 (by omega)⟩));generalize chR DD x uu=RR at CC hch2;refine qae 6 (by kernel_rfl) (by kernel_rfl) HWD.out ?_
       (simp only [t_1,t_2,t_3,t_4]);(repeat (first|((with_reducible refine wpStill_step (fun K hK=>?_));go_simp;(with_reducible refine hK _ ?_);clear hK K)|((with_reducible refine qaa ?_ ?_);(with_unfolding_all rfl))));(with_reducible refine wpStill_nil ?_)
       go_upto_region 18 with(go_at_call 47;(with_reducible refine CC.out.mono ?_);rintro e w4 ⟨v,rfl,own,g4⟩;obtain⟨qv,cv,rfl⟩:=qa9 own;have H4:=h_ (HD.out.addrow g4 own);have z3:w4.cell? ⟨gz,3,none⟩=some (.slice none 0 0):=H4.out.cell 0 rfl 3;have fz:w4.frozen? ⟨gz,3,none⟩=false:=H4.out.frz 0 rfl 3)
       clear f0 f1 f2 f3 f4 HD CC own g4 z3 fz hcu;have HS5:=H4.out.setbox 0 rfl 3 (.slice qv RR.length cv);generalize hW:World.setCell w4 _ _=w5;have hWh:w4.setCell ⟨gz,3,none⟩ (.slice qv RR.length cv)=w5:=hW;have H5:=h_ (show ST wb (mrow (.slice qv RR.length cv) RR :: outR (.slice qo2 L2.length co2) L2 :: ⟨9,1,.slice (some ⟨gu,0,none⟩) us.length cu,us.length,nmC us⟩ :: trR L2) (⟨gz,#[.int .i64 Z.kind,.string (S Z.name),.string (S Z.frm),.slice qv RR.length cv],47⟩ :: [⟨mb,#[.string (S x.name),.slice u1 x.fields.length y1,.slice u2 x.res.length y2,.slice u3 x.gone.length y3,.slice u4 x.notes.length y4],44⟩]) w5 by rw [←hWh];exact HS5);clear hW hWh HS5 H4;have z0:w5.cell? ⟨gz,0,none⟩=some (.int .i64 Z.kind):=H5.out.cell 0 rfl 0;have z1:w5.cell? ⟨gz,1,none⟩=some (.string (S Z.name)):=H5.out.cell 0 rfl 1;have z2:w5.cell? ⟨gz,2,none⟩=some (.string (S Z.frm)):=H5.out.cell 0 rfl 2;have z3:w5.cell? ⟨gz,3,none⟩=some (.slice qv RR.length cv):=H5.out.cell 0 rfl 3;have HB6:=h_ (H5.out.belw ((Bel.refl w5).alloc (.cells #[.int .i64 Z.kind,.string (S Z.name),.string (S Z.frm),.slice qv RR.length cv] 47)));clear H5
       go_wp2_with (at_builtin;refine wpList_append_lies _ rfl _ _ 28 rfl wb.heap.size 47 i1 (.agg #[.int .i64 0,.string ByteArray.empty,.string ByteArray.empty,.slice none 0 0]) 4 64 Tryz.underlying28 hi1 hy0 hy1 hy2 rfl (by decide) _ L2.length _ rfl (HB6.out.row 1 rfl) ⟨w5.heap.size,0,none⟩ 1 1 [.int .i64 Z.kind,.string (S Z.name),.string (S Z.frm),.slice qv RR.length cv] rfl rfl (qaz _ _ _) (by simp [Value.oneCell']) (by decide) (by unfold maxLen;omega) (by omega) HB6.out.bel.size (w5.heap.size+1) (by simp) ?_)
       intro g6 cap6 w6 hown hgrow hfr hlt6;have HG6:=HB6.out.grow 1 rfl hgrow hown (qby hfr (by simp));have HT6:=h_ (ST.tr (R:=[⟨9,1,.slice (some ⟨gu,0,none⟩) us.length cu,us.length,nmC us⟩]) (d:=Z) (L:=L2) (l:=RR) (v:=.slice qv RR.length cv) (vo:=.slice (some ⟨g6,0,none⟩) (L2.length+1) cap6) HG6.dropbox0);have htl6:(L2 ++ [(⟨Z,.slice qv RR.length cv,RR⟩:Tr)]).length=L2.length+1:=by rw [List.length_append];rfl
       clear HB6 HG6 hown hgrow hfr hlt6 z0 z1 z2 z3;go_wp2;go_roundw
       case rel=>exact⟨j+1,_,by omega,by go_num,HT6,h_ (by rw [qkd];exact hch2.out)⟩
       case measure=>simp [intOf];omega
     ·have hjl:j=us.length:=by omega
      have hxe2:trD L2=LX:=by have:=hch.out;rw [hjl,List.drop_length]at this;simpa using this
      have HX2:=h_ hxe2;clear hxe2 hch;go_wp2;go_roundw
      case rel=>exact⟨k+1,L2,by omega,by go_num,h_ ((hS2.out.droprow 1).dropbox0),h_ (by rw [HX2.out];exact hfo1.out)⟩
      case measure=>simp [intOf];omega
   ·have hkl:k=s.msgs.length:=by omega
    have hxe:trD L=LM:=by have:=hfo.out;rw [hkl,List.drop_length]at this;simpa using this
    have HX:=h_ hxe;have c0:=(HSC.out _ hS.out.bel).1;clear hxe hfo;go_wp2;go_meet;exact⟨L,hS.out,HX.out⟩
 case rest=>
  obtain⟨L0,hM0,hL0⟩:=hcut;have HM:=h_ hM0;have HL0:=h_ hL0;clear hM0 hL0 c0;have c1:=(HSC.out _ HM.out.bel).2.1
  go_upto_block 4 with(fail)
  go_cut [5] (fun s5 wx => ∃L:List Tr,ST wb (outR s5 L :: trR L) [] wx/\trD L=LM ++ LE)
  case first=>
   go_wp2
   go_loopw [5,14] (fun vo i wr => ∃(k:Nat) (L:List Tr),k<=s.enums.length/\i=.int .i64 k/\Hid (ST wb (outR vo L :: trR L) [] wr)/\Hid (trD L ++ (s.enums.drop k).map (enumR DD)=LM ++ LE)) (fun _ i _=>s.enums.length-(intOf i).toNat)
   case atStart=>exact⟨0,L0,by omega,rfl,HM,h_ (by rw [HL0.out];exact HLE.out)⟩
   case round=>as_aux_lemma=>
    clear HM c1 HL0;obtain⟨k,L,hk,rfl,hS,hfo⟩:=hrel;by_cases hlt:k<s.enums.length
    ·have hfo1:=h_ (show(trD L ++ [enumR DD s.enums[k]]) ++ (s.enums.drop (k+1)).map (enumR DD)=LM ++ LE by rw [←hfo.out,List.drop_eq_getElem_cons hlt,List.map_cons,List.append_assoc];rfl)
     have hLl:L.length+1<=(LM ++ LE).length:=by
      have:=congrArg List.length hfo1.out;rw [List.length_append,List.length_append,qi4]at this;simp only [List.length_cons,List.length_nil]at this;omega
     have hmz:=HMZ.out s.enums[k].name;clear hfo;have hki:(k:Int)<(s.enums.length:Int):=by omega
     have hg:=List.getElem?_eq_getElem hlt;have hmem:=List.getElem_mem hlt;have hbx:=HB.out.e _ hmem;obtain⟨b,off,hqq,hbs,cs,hce,hvs⟩:=EL2.out k _ hg;subst hqq;have hvs0:=h_ hvs;obtain⟨_,_,_,hvv,g1,g2,g3⟩:=hvs;obtain⟨u1,y1,rfl,_⟩:=qa5 g1;obtain⟨u2,y2,rfl,_⟩:=qa5 g2;obtain⟨u3,y3,rfl,_⟩:=qa5 g3;subst hvv;have hwf:VEnum w0 [.string (S s.enums[k].name),.bool s.enums[k].op,.slice u1 s.enums[k].items.length y1,.slice u2 s.enums[k].res.length y2,.slice u3 s.enums[k].notes.length y3] s.enums[k]:=hvs0.out;obtain⟨_,_,_,hcw,gi,_,_⟩:=hwf;cases hcw;obtain⟨qi,ci,hqi,hli,hci,heli⟩:=gi;cases hqi;generalize s.enums[k]=x at *;have HE0:=h_ (fun(W:World) (kk:Bel wb W)=>show W.cell? ⟨b,off+k*5,none⟩=some (.string (S x.name))/\W.cell? ⟨b,off+k*5+2,none⟩=some (.slice u1 x.items.length y1)from⟨(by have:=(Bel.of kb.out kk).some (hce 0 _ rfl);rwa [Nat.add_zero]at this),(Bel.of kb.out kk).some (hce 2 _ rfl)⟩);clear hg hce hmem hvs0;have ELI:=h_ heli;clear heli;have hWH:=h_ (show enumR DD x=withM (ofZ DD x.name) (itGo [] (x.items.drop 0))by unfold enumR;rw [hmz];rfl);generalize enumR DD x=EX at hWH hfo1;generalize hTT:itGo [] (x.items.drop 0)=TT at hWH;have HTT:=h_ hTT;clear hTT hmz;have c1:=(HSC.out _ hS.out.bel).2.1;have e0:=(HE0.out _ hS.out.bel).1;obtain⟨qo,co,hvo⟩:=qa9 (hS.out.row 0 rfl);dsimp only [outR]at hvo;subst hvo;have CO:=h_ (fun W (kk:Bel wb W)=>(qq4 (.slice qd DD.length cd) DD x.name W (HDN.out W kk)).mono (fun e w' h=>qf0 h));generalize ofZ DD x.name=Z at CO hWH
     go_upto_region 23 with(go_at_call 32;(with_reducible refine(CO.out _ hS.out.bel).mono ?_);rintro e w2 ⟨bz,rfl,k2⟩)
     have H3:=h_ ((hS.out.belw k2).addbox #[.int .i64 Z.kind,.string (S Z.name),.string (S Z.frm),.slice none 0 0] 47);clear hS k2 CO;generalize w2.heap.size=gz at H3 ⊢;generalize hwz:w2.alloc _=wz at H3 ⊢;clear hwz;have H3:=h_ (show ST wb (mrow (.slice none 0 0) [] :: outR (.slice qo L.length co) L :: trR L) _ wz from H3.out.nilrow 80 3);clear e0 c1;go_wp2
     go_loopw [17] (fun i2 wr => ∃(j:Nat) (ms:List PMem) (vm:Value),j<=x.items.length/\i2=.int .i64 j/\Hid (ST wb (mrow vm ms :: outR (.slice qo L.length co) L :: trR L) [⟨gz,#[.int .i64 Z.kind,.string (S Z.name),.string (S Z.frm),vm],47⟩] wr)/\Hid (ms.length=j)/\Hid (itGo ms (x.items.drop j)=TT)) (fun i2 _=>x.items.length-(intOf i2).toNat)
     case atStart=>exact⟨0,[],_,by omega,rfl,H3,h_ rfl,HTT⟩
     case round=>as_aux_lemma=>
      clear H3 HTT;obtain⟨j,ms,vm,hj,rfl,hS2,hml,hin⟩:=hrel;have c1:=(HSC.out _ hS2.out.bel).2.1;have e1:=(HE0.out _ hS2.out.bel).2;by_cases hlt2:j<x.items.length
      ·have hji:(j:Int)<(x.items.length:Int):=by omega
       have hg2:=List.getElem?_eq_getElem hlt2;have hmsl:ms.length<=100000:=by have:=hml.out;have:=hbx.2.1;omega
       have hnm:=hbx.2.2 _ (List.getElem_mem hlt2);obtain⟨bi,oi,hqi,hbsi,vs,hcei,hvsi⟩:=ELI.out j _ hg2;subst hqi;obtain⟨_,hvs1,hnt⟩:=hvsi;obtain⟨r5,d5,hnv,hnl⟩:=qa5 hnt;subst hvs1 hnv;have hstep:=h_ (show itGo (addM ms x.items[j].name [] x.items[j].num) (x.items.drop (j+1))=TT by have:=hin.out;rwa [List.drop_eq_getElem_cons hlt2,itGo]at this);clear hin;generalize x.items[j]=it at *;obtain⟨qm,cm,hvm⟩:=qa9 (hS2.out.row 0 rfl);dsimp only [mrow]at hvm;subst hvm
       go_upto_region 26 with(fail)
       clear c1 e1;obtain⟨wd,hwd⟩ : ∃wd,wd=wr.drew:=⟨_,rfl⟩;have HD:=h_ (show ST wb _ _ wd by rw [hwd];exact hS2.out.belw (Bel.refl _).drew);have HWD:=h_ hwd;clear hwd hS2;have c1:=(HSC.out _ HD.out.bel).2.1;have e1:=(HE0.out _ HD.out.bel).2;have kd:=Bel.of kb.out HD.out.bel;have y0:=kd.some (hcei 0 _ rfl);rw [Nat.add_zero]at y0;have y1':=kd.some (hcei 1 _ rfl);have z3:wd.cell? ⟨gz,3,none⟩=some (.slice qm ms.length cm):=HD.out.cell 0 rfl 3;have CWI:=h_ (show Calls Tryz.prog 48 #[.slice qm ms.length cm,.string (S it.name),.string ⟨#[]⟩,.int .i64 it.num] wd _ from qge wb _ _ _ ms it.name [] it.num wd HD.out (by omega) (by omega));have hal:=h_ (qek ms it.name [] it.num);generalize addM ms it.name [] it.num=ms2 at CWI hal hstep;clear hcei hg2 kd;refine qae 22 (by kernel_rfl) (by kernel_rfl) HWD.out ?_
       (simp only [t_1,t_2,t_3,t_4]);(repeat (first|((with_reducible refine wpStill_step (fun K hK=>?_));go_simp;(with_reducible refine hK _ ?_);clear hK K)|((with_reducible refine qaa ?_ ?_);(with_unfolding_all rfl))));(with_reducible refine wpStill_nil ?_)
       go_wp2_with (go_at_call 48;(with_reducible refine CWI.out.mono ?_);rintro e w4 ⟨v4,rfl,h4⟩;have hv4:=qa9 (h4.row 0 rfl);(dsimp only [mrow]at hv4);obtain⟨q4,c4,rfl⟩:=hv4;have H4:=h_ h4;have z3:w4.cell? ⟨gz,3,none⟩=some (.slice qm ms.length cm):=H4.out.cell 0 rfl 3;have fz:w4.frozen? ⟨gz,3,none⟩=false:=H4.out.frz 0 rfl 3)
       have HS5:=H4.out.setbox 0 rfl 3 (.slice q4 ms2.length c4);go_roundw
       case rel=>exact⟨j+1,ms2,_,by omega,by go_num,h_ HS5,h_ (by have:=hal.out;have:=hml.out;omega),hstep⟩
       case measure=>simp [intOf];omega
      ·have hjl:j=x.items.length:=by omega
       have hxe2:ms=TT:=by have:=hin.out;rw [hjl,List.drop_length]at this;exact this
       subst hxe2;have hmsl:ms.length<=100000:=by have:=hml.out;have:=hbx.2.1;omega
       clear hjl;obtain⟨qm,cm,hvm⟩:=qa9 (hS2.out.row 0 rfl);dsimp only [mrow]at hvm;subst hvm
       go_upto_region 27 with(fail)
       clear c1 e1;have z0:wr.cell? ⟨gz,0,none⟩=some (.int .i64 Z.kind):=hS2.out.cell 0 rfl 0;have z1:wr.cell? ⟨gz,1,none⟩=some (.string (S Z.name)):=hS2.out.cell 0 rfl 1;have z2:wr.cell? ⟨gz,2,none⟩=some (.string (S Z.frm)):=hS2.out.cell 0 rfl 2;have z3:wr.cell? ⟨gz,3,none⟩=some (.slice qm ms.length cm):=hS2.out.cell 0 rfl 3;have HB6:=h_ (hS2.out.belw ((Bel.refl wr).alloc (.cells #[.int .i64 Z.kind,.string (S Z.name),.string (S Z.frm),.slice qm ms.length cm] 47)));clear hS2
       go_wp2_with (at_builtin;refine wpList_append_lies _ rfl _ _ 28 rfl wb.heap.size 47 i1 (.agg #[.int .i64 0,.string ByteArray.empty,.string ByteArray.empty,.slice none 0 0]) 4 64 Tryz.underlying28 hi1 hy0 hy1 hy2 rfl (by decide) _ L.length _ rfl (HB6.out.row 1 rfl) ⟨wr.heap.size,0,none⟩ 1 1 [.int .i64 Z.kind,.string (S Z.name),.string (S Z.frm),.slice qm ms.length cm] rfl rfl (qaz _ _ _) (by simp [Value.oneCell']) (by decide) (by unfold maxLen;omega) (by omega) HB6.out.bel.size (wr.heap.size+1) (by simp) ?_)
       intro g6 cap6 w6 hown hgrow hfr hlt6;have HG6:=HB6.out.grow 1 rfl hgrow hown (qby hfr (by simp));have HT6:=h_ (ST.tr (R:=[]) (d:=Z) (L:=L) (l:=ms) (v:=.slice qm ms.length cm) (vo:=.slice (some ⟨g6,0,none⟩) (L.length+1) cap6) HG6.dropbox0);have htl6:(L ++ [(⟨Z,.slice qm ms.length cm,ms⟩:Tr)]).length=L.length+1:=by rw [List.length_append];rfl
       clear HB6 HG6 hown hgrow hfr hlt6 z0 z1 z2 z3;go_wp2;go_roundw
       case rel=>exact⟨k+1,_,by omega,by go_num,HT6,h_ (by rw [qkd];show(trD L ++ [withM Z ms]) ++ _=_;rw [←hWH.out];exact hfo1.out)⟩
       case measure=>simp [intOf];omega
    ·have hkl:k=s.enums.length:=by omega
     have hxe:trD L=LM ++ LE:=by have:=hfo.out;rw [hkl,List.drop_length]at this;simpa using this
     have HX:=h_ hxe;have c1:=(HSC.out _ hS.out.bel).2.1;clear hxe hfo;go_wp2;go_meet;exact⟨L,hS.out,HX.out⟩
  case rest=>
   obtain⟨L0,hM0,hL0⟩:=hcut;have HM:=h_ hM0;have HL0:=h_ hL0;clear hM0 hL0 c1;have c2:=(HSC.out _ HM.out.bel).2.2
   go_upto_block 8 with(fail)
   go_cut [5] (fun s5 wx => ∃L:List Tr,ST wb (outR s5 L :: trR L) [] wx/\trD L=LM ++ LE ++ LV)
   case first=>
    go_wp2
    go_loopw [5,18] (fun vo i wr => ∃(k:Nat) (L:List Tr),k<=s.svcs.length/\i=.int .i64 k/\Hid (ST wb (outR vo L :: trR L) [] wr)/\Hid (trD L ++ (s.svcs.drop k).map (svcR DD)=LM ++ LE ++ LV)) (fun _ i _=>s.svcs.length-(intOf i).toNat)
    case atStart=>exact⟨0,L0,by omega,rfl,HM,h_ (by rw [HL0.out];exact HLV.out)⟩
    case round=>as_aux_lemma=>
     clear HM c2 HL0;obtain⟨k,L,hk,rfl,hS,hfo⟩:=hrel;by_cases hlt:k<s.svcs.length
     ·have hfo1:=h_ (show(trD L ++ [svcR DD s.svcs[k]]) ++ (s.svcs.drop (k+1)).map (svcR DD)=LM ++ LE ++ LV by rw [←hfo.out,List.drop_eq_getElem_cons hlt,List.map_cons,List.append_assoc];rfl)
      have hLl:L.length+1<=(LM ++ LE ++ LV).length:=by
       have:=congrArg List.length hfo1.out;rw [List.length_append,List.length_append,qi4]at this;simp only [List.length_cons,List.length_nil]at this;omega
      have hmz:=HMZ.out s.svcs[k].name;clear hfo;have hki:(k:Int)<(s.svcs.length:Int):=by omega
      have hg:=List.getElem?_eq_getElem hlt;have hmem:=List.getElem_mem hlt;have hbx:=HB.out.v _ hmem;obtain⟨b,off,hqq,hbs,cs,hce,hvs⟩:=EL3.out k _ hg;subst hqq;have hvs0:=h_ hvs;obtain⟨_,_,hvv,g1,g2⟩:=hvs;obtain⟨u1,y1,rfl,_⟩:=qa5 g1;obtain⟨u2,y2,rfl,_⟩:=qa5 g2;subst hvv;have hwf:VSvc w0 [.string (S s.svcs[k].name),.slice u1 s.svcs[k].meths.length y1,.slice u2 s.svcs[k].notes.length y2] s.svcs[k]:=hvs0.out;obtain⟨_,_,hcw,gi,_⟩:=hwf;cases hcw;obtain⟨qi,ci,hqi,hli,hci,heli⟩:=gi;cases hqi;generalize s.svcs[k]=x at *;have HE0:=h_ (fun(W:World) (kk:Bel wb W)=>show W.cell? ⟨b,off+k*3,none⟩=some (.string (S x.name))/\W.cell? ⟨b,off+k*3+1,none⟩=some (.slice u1 x.meths.length y1)from⟨(by have:=(Bel.of kb.out kk).some (hce 0 _ rfl);rwa [Nat.add_zero]at this),(Bel.of kb.out kk).some (hce 1 _ rfl)⟩);clear hg hce hmem hvs0;have ELI:=h_ heli;clear heli;have hWH:=h_ (show svcR DD x=withM (ofZ DD x.name) (clRGo DD 0 [] (x.meths.drop 0))by unfold svcR;rw [hmz];rfl);generalize svcR DD x=EX at hWH hfo1;generalize hTT:clRGo DD 0 [] (x.meths.drop 0)=TT at hWH;have HTT:=h_ hTT;clear hTT hmz;have c2:=(HSC.out _ hS.out.bel).2.2;have e0:=(HE0.out _ hS.out.bel).1;obtain⟨qo,co,hvo⟩:=qa9 (hS.out.row 0 rfl);dsimp only [outR]at hvo;subst hvo;have CO:=h_ (fun W (kk:Bel wb W)=>(qq4 (.slice qd DD.length cd) DD x.name W (HDN.out W kk)).mono (fun e w' h=>qf0 h));generalize ofZ DD x.name=Z at CO hWH
      go_upto_region 32 with(go_at_call 32;(with_reducible refine(CO.out _ hS.out.bel).mono ?_);rintro e w2 ⟨bz,rfl,k2⟩)
      have H3:=h_ ((hS.out.belw k2).addbox #[.int .i64 Z.kind,.string (S Z.name),.string (S Z.frm),.slice none 0 0] 47);clear hS k2 CO;generalize w2.heap.size=gz at H3 ⊢;generalize hwz:w2.alloc _=wz at H3 ⊢;clear hwz;have H3:=h_ (show ST wb (mrow (.slice none 0 0) [] :: outR (.slice qo L.length co) L :: trR L) _ wz from H3.out.nilrow 80 3);clear e0 c2;go_wp2
      go_loopw [21] (fun i2 wr => ∃(j:Nat) (ms:List PMem) (vm:Value),j<=x.meths.length/\i2=.int .i64 j/\Hid (ST wb (mrow vm ms :: outR (.slice qo L.length co) L :: trR L) [⟨gz,#[.int .i64 Z.kind,.string (S Z.name),.string (S Z.frm),vm],47⟩] wr)/\Hid (ms.length=j)/\Hid (clRGo DD j ms (x.meths.drop j)=TT)) (fun i2 _=>x.meths.length-(intOf i2).toNat)
      case atStart=>exact⟨0,[],_,by omega,rfl,H3,h_ rfl,HTT⟩
      case round=>as_aux_lemma=>
       clear H3 HTT;obtain⟨j,ms,vm,hj,rfl,hS2,hml,hin⟩:=hrel;have c2:=(HSC.out _ hS2.out.bel).2.2;have e1:=(HE0.out _ hS2.out.bel).2;by_cases hlt2:j<x.meths.length
       ·have hji:(j:Int)<(x.meths.length:Int):=by omega
        have hg2:=List.getElem?_eq_getElem hlt2;have hmsl:ms.length<=100000:=by have:=hml.out;have:=hbx.2.1;omega
        have hnm:=hbx.2.2 _ (List.getElem_mem hlt2);obtain⟨bi,oi,hqi,hbsi,vs,hcei,hvsi⟩:=ELI.out j _ hg2;subst hqi;obtain⟨_,hvs1,hnt⟩:=hvsi;obtain⟨r5,d5,hnv,hnl⟩:=qa5 hnt;subst hvs1 hnv;have hstep:=h_ (show clRGo DD (j+1) (addM ms x.meths[j].name (qfv DD x.meths[j]) j) (x.meths.drop (j+1))=TT by have:=hin.out;rwa [List.drop_eq_getElem_cons hlt2,clRGo]at this);clear hin;generalize x.meths[j]=it at *;obtain⟨qm,cm,hvm⟩:=qa9 (hS2.out.row 0 rfl);dsimp only [mrow]at hvm;subst hvm
        go_upto_region 35 with(fail)
        clear c2 e1;obtain⟨wd,hwd⟩ : ∃wd,wd=wr.drew:=⟨_,rfl⟩;have HD:=h_ (show ST wb _ _ wd by rw [hwd];exact hS2.out.belw (Bel.refl _).drew);have HWD:=h_ hwd;clear hwd hS2
        have SS:=h_ (fun(R:List Row) (X:List Box) (W:World) (hs:ST wb R X W) (i:Nat) (hi:X[i]? = some ⟨gz,#[.int .i64 Z.kind,.string (S Z.name),.string (S Z.frm),.slice qm ms.length cm],47⟩)=>show W.cell? ⟨gz,3,none⟩=some (.slice qm ms.length cm)/\W.cell? ⟨sb,2,none⟩=some (.slice (some ⟨b,off,none⟩) s.svcs.length sc3)/\W.cell? ⟨b,off+k*3+1,none⟩=some (.slice (some ⟨bi,oi,none⟩) x.meths.length y1)/\W.cell? ⟨bi,oi+j*5,none⟩=some (.string (S it.name))/\W.cell? ⟨bi,oi+j*5+1,none⟩=some (.string (S it.inn))/\W.cell? ⟨bi,oi+j*5+2,none⟩=some (.string (S it.out))/\W.cell? ⟨bi,oi+j*5+3,none⟩=some (.int .i64 it.shape)/\W.cell? ⟨bi,oi+j*5+4,none⟩=some (.slice r5 it.notes.length d5)from(by
         have kd:=Bel.of kb.out hs.bel
         exact⟨hs.cell i hi 3,(HSC.out _ hs.bel).2.2,(HE0.out _ hs.bel).2,(by have:=kd.some (hcei 0 _ rfl);rwa [Nat.add_zero]at this),kd.some (hcei 1 _ rfl),kd.some (hcei 2 _ rfl),kd.some (hcei 3 _ rfl),kd.some (hcei 4 _ rfl)⟩))
        have CT:=h_ (fun W (kk:Bel wb W)=>qq5 (.slice qd DD.length cd) DD it r5 it.notes.length d5 W (HDE.out W kk) (qns it.inn HNB.out) (qns it.out HNB.out));have hal:=h_ (qek ms it.name (qfv DD it) j);generalize qfv DD it=TY at CT hstep hal;clear hcei hg2;refine qak (fun W=>W.cell? ⟨gz,3,none⟩=some (.slice qm ms.length cm)/\W.cell? ⟨sb,2,none⟩=some (.slice (some ⟨b,off,none⟩) s.svcs.length sc3)/\W.cell? ⟨b,off+k*3+1,none⟩=some (.slice (some ⟨bi,oi,none⟩) x.meths.length y1)/\W.cell? ⟨bi,oi+j*5,none⟩=some (.string (S it.name))/\W.cell? ⟨bi,oi+j*5+1,none⟩=some (.string (S it.inn))/\W.cell? ⟨bi,oi+j*5+2,none⟩=some (.string (S it.out))/\W.cell? ⟨bi,oi+j*5+3,none⟩=some (.int .i64 it.shape)/\W.cell? ⟨bi,oi+j*5+4,none⟩=some (.slice r5 it.notes.length d5)) [(0,true),(1,true),(2,true),(3,true),(4,true),(5,true),(6,true),(7,true),(8,true),(9,true),(10,true),(11,true),(12,true),(13,true),(14,true),(15,true),(16,true),(17,true),(18,true),(19,true),(20,true),(21,true),(23,true),(22,false)] 24 (by kernel_rfl) (by kernel_rfl) HWD.out (SS.out _ _ _ HD.out 0 rfl) ?_;simp only [qb3,List.getElem?_cons_zero,List.getElem?_cons_succ]
        (with_reducible refine qa1 (v:=?vv533) (by with_unfolding_all rfl) (fun W hW=>?hy533) ?hr533);(case hy533=>((try dsimp only at hW);go_simp;(all_goals with_reducible rfl)));(simp only [Act.put,z_1,z_2,z_3])
        (with_reducible refine qa1 (v:=?vv534) (by with_unfolding_all rfl) (fun W hW=>?hy534) ?hr534);(case hy534=>((try dsimp only at hW);go_simp;(all_goals with_reducible rfl)));(simp only [Act.put,z_1,z_2,z_3])
        (with_reducible refine qa1 (v:=?vv535) (by with_unfolding_all rfl) (fun W hW=>?hy535) ?hr535);(case hy535=>((try dsimp only at hW);go_simp;(all_goals with_reducible rfl)));(simp only [Act.put,z_1,z_2,z_3])
        (with_reducible refine qa1 (v:=?vv536) (by with_unfolding_all rfl) (fun W hW=>?hy536) ?hr536);(case hy536=>((try dsimp only at hW);go_simp;(all_goals with_reducible rfl)));(simp only [Act.put,z_1,z_2,z_3])
        (with_reducible refine qa1 (v:=?vv537) (by with_unfolding_all rfl) (fun W hW=>?hy537) ?hr537);(case hy537=>((try dsimp only at hW);go_simp;(all_goals with_reducible rfl)));(simp only [Act.put,z_1,z_2,z_3])
        (with_reducible refine qa1 (v:=?vv538) (by with_unfolding_all rfl) (fun W hW=>?hy538) ?hr538);(case hy538=>((try dsimp only at hW);go_simp;(all_goals with_reducible rfl)));(simp only [Act.put,z_1,z_2,z_3])
        (with_reducible refine qa1 (v:=?vv539) (by with_unfolding_all rfl) (fun W hW=>?hy539) ?hr539);(case hy539=>((try dsimp only at hW);go_simp;(all_goals with_reducible rfl)));(simp only [Act.put,z_1,z_2,z_3])
        (with_reducible refine qa1 (v:=?vv540) (by with_unfolding_all rfl) (fun W hW=>?hy540) ?hr540);(case hy540=>((try dsimp only at hW);go_simp;(all_goals with_reducible rfl)));(simp only [Act.put,z_1,z_2,z_3])
        (with_reducible refine qa1 (v:=?vv541) (by with_unfolding_all rfl) (fun W hW=>?hy541) ?hr541);(case hy541=>((try dsimp only at hW);go_simp;(all_goals with_reducible rfl)));(simp only [Act.put,z_1,z_2,z_3])
        (with_reducible refine qa1 (v:=?vv542) (by with_unfolding_all rfl) (fun W hW=>?hy542) ?hr542);(case hy542=>((try dsimp only at hW);go_simp;(all_goals with_reducible rfl)));(simp only [Act.put,z_1,z_2,z_3])
        (with_reducible refine qa1 (v:=?vv543) (by with_unfolding_all rfl) (fun W hW=>?hy543) ?hr543);(case hy543=>((try dsimp only at hW);go_simp;(all_goals with_reducible rfl)));(simp only [Act.put,z_1,z_2,z_3])
        (with_reducible refine qa1 (v:=?vv544) (by with_unfolding_all rfl) (fun W hW=>?hy544) ?hr544);(case hy544=>((try dsimp only at hW);go_simp;(all_goals with_reducible rfl)));(simp only [Act.put,z_1,z_2,z_3])
        (with_reducible refine qa1 (v:=?vv545) (by with_unfolding_all rfl) (fun W hW=>?hy545) ?hr545);(case hy545=>((try dsimp only at hW);go_simp;(all_goals with_reducible rfl)));(simp only [Act.put,z_1,z_2,z_3])
        (with_reducible refine qa1 (v:=?vv546) (by with_unfolding_all rfl) (fun W hW=>?hy546) ?hr546);(case hy546=>((try dsimp only at hW);go_simp;(all_goals with_reducible rfl)));(simp only [Act.put,z_1,z_2,z_3])
        (with_reducible refine qa1 (v:=?vv547) (by with_unfolding_all rfl) (fun W hW=>?hy547) ?hr547);(case hy547=>((try dsimp only at hW);go_simp;(all_goals with_reducible rfl)));(simp only [Act.put,z_1,z_2,z_3])
        (with_reducible refine qa1 (v:=?vv548) (by with_unfolding_all rfl) (fun W hW=>?hy548) ?hr548);(case hy548=>((try dsimp only at hW);go_simp;(all_goals with_reducible rfl)));(simp only [Act.put,z_1,z_2,z_3])
        (with_reducible refine qa1 (v:=?vv549) (by with_unfolding_all rfl) (fun W hW=>?hy549) ?hr549);(case hy549=>((try dsimp only at hW);go_simp;(all_goals with_reducible rfl)));(simp only [Act.put,z_1,z_2,z_3])
        (with_reducible refine qa1 (v:=?vv550) (by with_unfolding_all rfl) (fun W hW=>?hy550) ?hr550);(case hy550=>((try dsimp only at hW);go_simp;(all_goals with_reducible rfl)));(simp only [Act.put,z_1,z_2,z_3])
        (with_reducible refine qa1 (v:=?vv551) (by with_unfolding_all rfl) (fun W hW=>?hy551) ?hr551);(case hy551=>((try dsimp only at hW);go_simp;(all_goals with_reducible rfl)));(simp only [Act.put,z_1,z_2,z_3])
        (with_reducible refine qa1 (v:=?vv552) (by with_unfolding_all rfl) (fun W hW=>?hy552) ?hr552);(case hy552=>((try dsimp only at hW);go_simp;(all_goals with_reducible rfl)));(simp only [Act.put,z_1,z_2,z_3])
        (with_reducible refine qa1 (v:=?vv553) (by with_unfolding_all rfl) (fun W hW=>?hy553) ?hr553);(case hy553=>((try dsimp only at hW);go_simp;(all_goals with_reducible rfl)));(simp only [Act.put,z_1,z_2,z_3])
        (with_reducible refine qa1 (v:=?vv554) (by with_unfolding_all rfl) (fun W hW=>?hy554) ?hr554);(case hy554=>((try dsimp only at hW);go_simp;(all_goals with_reducible rfl)));(simp only [Act.put,z_1,z_2,z_3])
        (with_reducible refine qa1 (v:=?vv555) (by with_unfolding_all rfl) (fun W hW=>?hy555) ?hr555);(case hy555=>((try dsimp only at hW);go_simp;(all_goals with_reducible rfl)));(simp only [Act.put,z_1,z_2,z_3])
        with_reducible refine qaj (fun K hK=>?_)
        go_simp
        with_reducible refine(CT.out _ HD.out.bel).mono ?_
        rintro e w3 ⟨rfl,g3⟩;have H1:=h_ (HD.out.belw g3);refine hK _ _ (SS.out _ _ _ H1.out 0 rfl) ?_;clear hK K g3 HD CT SS
        (try simp only [Act.put,z_1,z_2,z_3])
        refine qbm ?_;simp only [t_3,t_4];have CWI:=h_ (qge wb _ _ _ ms it.name TY j w3 H1.out (by omega) (by omega));generalize addM ms it.name TY j=ms2 at CWI hal hstep
        go_wp2_with (go_at_call 48;(with_reducible refine CWI.out.mono ?_);rintro e w4 ⟨v4,rfl,h4⟩;have hv4:=qa9 (h4.row 0 rfl);(dsimp only [mrow]at hv4);obtain⟨q4,c4,rfl⟩:=hv4;have H4:=h_ h4;have z3:w4.cell? ⟨gz,3,none⟩=some (.slice qm ms.length cm):=H4.out.cell 0 rfl 3;have fz:w4.frozen? ⟨gz,3,none⟩=false:=H4.out.frz 0 rfl 3)
        have HS5:=H4.out.setbox 0 rfl 3 (.slice q4 ms2.length c4);go_roundw
        case rel=>exact⟨j+1,ms2,_,by omega,by go_num,h_ HS5,h_ (by have:=hal.out;have:=hml.out;omega),hstep⟩
        case measure=>simp [intOf];omega
       ·have hjl:j=x.meths.length:=by omega
        have hxe2:ms=TT:=by have:=hin.out;rw [hjl,List.drop_length]at this;exact this
        subst hxe2;have hmsl:ms.length<=100000:=by have:=hml.out;have:=hbx.2.1;omega
        clear hjl;obtain⟨qm,cm,hvm⟩:=qa9 (hS2.out.row 0 rfl);dsimp only [mrow]at hvm;subst hvm
        go_upto_region 36 with(fail)
        clear c2 e1;have z0:wr.cell? ⟨gz,0,none⟩=some (.int .i64 Z.kind):=hS2.out.cell 0 rfl 0;have z1:wr.cell? ⟨gz,1,none⟩=some (.string (S Z.name)):=hS2.out.cell 0 rfl 1;have z2:wr.cell? ⟨gz,2,none⟩=some (.string (S Z.frm)):=hS2.out.cell 0 rfl 2;have z3:wr.cell? ⟨gz,3,none⟩=some (.slice qm ms.length cm):=hS2.out.cell 0 rfl 3;have HB6:=h_ (hS2.out.belw ((Bel.refl wr).alloc (.cells #[.int .i64 Z.kind,.string (S Z.name),.string (S Z.frm),.slice qm ms.length cm] 47)));clear hS2
        go_wp2_with (at_builtin;refine wpList_append_lies _ rfl _ _ 28 rfl wb.heap.size 47 i1 (.agg #[.int .i64 0,.string ByteArray.empty,.string ByteArray.empty,.slice none 0 0]) 4 64 Tryz.underlying28 hi1 hy0 hy1 hy2 rfl (by decide) _ L.length _ rfl (HB6.out.row 1 rfl) ⟨wr.heap.size,0,none⟩ 1 1 [.int .i64 Z.kind,.string (S Z.name),.string (S Z.frm),.slice qm ms.length cm] rfl rfl (qaz _ _ _) (by simp [Value.oneCell']) (by decide) (by unfold maxLen;omega) (by omega) HB6.out.bel.size (wr.heap.size+1) (by simp) ?_)
        intro g6 cap6 w6 hown hgrow hfr hlt6;have HG6:=HB6.out.grow 1 rfl hgrow hown (qby hfr (by simp));have HT6:=h_ (ST.tr (R:=[]) (d:=Z) (L:=L) (l:=ms) (v:=.slice qm ms.length cm) (vo:=.slice (some ⟨g6,0,none⟩) (L.length+1) cap6) HG6.dropbox0);have htl6:(L ++ [(⟨Z,.slice qm ms.length cm,ms⟩:Tr)]).length=L.length+1:=by rw [List.length_append];rfl
        clear HB6 HG6 hown hgrow hfr hlt6 z0 z1 z2 z3;go_wp2;go_roundw
        case rel=>exact⟨k+1,_,by omega,by go_num,HT6,h_ (by rw [qkd];show(trD L ++ [withM Z ms]) ++ _=_;rw [←hWH.out];exact hfo1.out)⟩
        case measure=>simp [intOf];omega
     ·have hkl:k=s.svcs.length:=by omega
      have hxe:trD L=LM ++ LE ++ LV:=by have:=hfo.out;rw [hkl,List.drop_length]at this;simpa using this
      have HX:=h_ hxe;have c2:=(HSC.out _ hS.out.bel).2.2;clear hxe hfo;go_wp2;go_meet;exact⟨L,hS.out,HX.out⟩
   case rest=>
    obtain⟨L0,hM0,hL0⟩:=hcut;have HM:=h_ hM0;have HL0:=h_ hL0;clear hM0 hL0 c2;obtain⟨qo,co,hvo⟩:=qa9 (HM.out.row 0 rfl);dsimp only [outR]at hvo;subst hvo
    have hL0l:L0.length<=10000:=by
     have:=congrArg List.length HL0.out;rw [qi4]at this;omega
    have HDc:=h_ (decls_tr HM.out (by omega) (fun t ht=>(by
     have h1:withM t.d t.l ∈ trD L0:=List.mem_map.2 ⟨t,ht,rfl⟩;rw [HL0.out,HALL.out]at h1
     exact Nat.le_trans (HSM.out _ h1) (by omega))))
    rw [HL0.out,HALL.out]at HDc;have HBf:=h_ (Bel.of kb.out HM.out.bel);clear HM;go_wp2;go_ret2;exact⟨_,rfl,HDc.out,HBf.out⟩
theorem qnh (sq1 sq2 sq3:Option Addr) (sc1 sc2 sc3:Nat) (s:PSchema) (w:World) (hs:VSchema w [.slice sq1 s.msgs.length sc1,.slice sq2 s.enums.length sc2,.slice sq3 s.svcs.length sc3] s) (hsh:Short s) (hV:valid s=false) :
  Calls Tryz.prog 12 #[.agg #[.slice sq1 s.msgs.length sc1,.slice sq2 s.enums.length sc2,.slice sq3 s.svcs.length sc3]] w fun e w'=>e=.returned (.tuple #[.slice none 0 0,.int .i64 1])/\Bel w w':=by
 have kw:Bel w (w.alloc (.cells #[.slice sq1 s.msgs.length sc1,.slice sq2 s.enums.length sc2,.slice sq3 s.svcs.length sc3] 26)):=(Bel.refl w).alloc _;have CV:=h_ (qn7 sq1 sq2 sq3 sc1 sc2 sc3 s (w.alloc (.cells #[.slice sq1 s.msgs.length sc1,.slice sq2 s.enums.length sc2,.slice sq3 s.svcs.length sc3] 26)) (hs.stays_bel kw) hsh);rw [hV]at CV;clear hs hsh hV
 go_enter Tryz.func12,Tryz.ntmps12
 go_wp2_with (go_at_call 21;(with_reducible refine CV.out.mono ?_);rintro e w1 ⟨rfl,k1⟩)
 go_ret2;exact⟨rfl,Bel.of kw k1⟩
end Go.Proofs.YtfoaaglbpmmhiaaGreatDoor
