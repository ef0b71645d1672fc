import Derived.Test.YtfoaaglbpmmhiaaGreatDoorMdLawH
import Derived.Test.YtfoaaglbpmmhiaaGreatDoorMdRecord
import Derived.Test.YtfoaaglbpmmhiaaGreatDoorMdMakeP
set_option maxRecDepth 100000
set_option maxHeartbeats 4000000
set_option linter.unusedVariables false
set_option linter.unusedSimpArgs false
namespace Go.Proofs.YtfoaaglbpmmhiaaGreatDoor
section
open Go.RowKit Ck Md
theorem recR_at {D:List PDecl} {mn:Str} {out:List PMem} {l:List PField} {k:Nat} (h:k<l.length):qg2 D mn out (pvAt l k) (l.drop k)=qg2 D mn (if(l[k]).un=[]then addM out (l[k]).name (qgx D l[k]) (l[k]).num else if pvAt l k=some (l[k]).un then out else addM out (l[k]).un (ofZ D (mn ++ 58 :: (l[k]).un)).name (-1)) (pvAt l (k+1)) (l.drop (k+1)):=by
 rw [List.drop_eq_getElem_cons h,qg2];show _=qg2 D mn _ ((l[k]?).map (·.un)) _
 rw [List.getElem?_eq_getElem h];rfl
theorem qns {D:List PDecl} (f:Str) {B:Nat} (h : ∀d ∈ D,d.name.length<=B):(ofZ D f).name.length<=B:=by
 unfold ofZ ofD;cases e:D.find? (fun d=>decide (d.frm=f))with
 | none=>exact Nat.zero_le _
 | some d=>exact h d (List.mem_of_find?_eq_some e)
theorem qqv {D:List PDecl} (tk:Int) (tn:Str) {B:Nat} (h : ∀d ∈ D,d.name.length<=B) (hB:6<=B):(qbz D tk tn).length<=B:=by
 unfold qbz
 split
 ·exact Nat.le_trans (qk5 tk) hB
 ·exact qns tn h
theorem qek (l:List PMem) (n ty:Str) (x:Int):(addM l n ty x).length=l.length+1:=by rw [qfy];simp
theorem qpz (v:Value) (D:List PDecl) (mq1 mq2 mq3 mq4:Option Addr) (mm2 mm3 mm4 mc1 mc2 mc3 mc4:Nat) (m:PMsg) (w0:World) (hd:Decls w0 v D) (hv:VMsg w0 [.string (S m.name),.slice mq1 m.fields.length mc1,.slice mq2 mm2 mc2,.slice mq3 mm3 mc3,.slice mq4 mm4 mc4] m) (hD : ∀d ∈ D,d.name.length<=400) (hml:m.name.length<=100000) (hfn:m.fields.length<=100000) (hfl : ∀f ∈ m.fields,f.name.length<=100000/\f.un.length<=100000) :
  Calls Tryz.prog 45 #[v,.agg #[.string (S m.name),.slice mq1 m.fields.length mc1,.slice mq2 mm2 mc2,.slice mq3 mm3 mc3,.slice mq4 mm4 mc4]] w0 (qj1 w0 (recR D m)):=by
 obtain⟨_,_,_,_,hcm,hm1,_,_,_⟩:=hv;cases hcm;obtain⟨q,c,hq,hl,hcap,hel⟩:=hm1;cases hq;have V:=h_ (show qg2 D m.name [] (pvAt m.fields 0) (m.fields.drop 0)=recR D m from rfl);generalize recR D m=T at V;have EL:=h_ hel;have HF:=h_ hfl;have HD0:=h_ hD;have HDE:=h_ (fun W (kk:Bel w0 W)=>hd.bel VDecl.stays kk);obtain⟨qd,cd,rfl,_⟩:=hd;clear hel hfl hD;have hS0:=h_ (show ST w0 [mrow (.slice none 0 0) []] [⟨w0.heap.size,#[.string (S m.name),.slice mq1 m.fields.length mc1,.slice mq2 mm2 mc2,.slice mq3 mm3 mc3,.slice mq4 mm4 mc4],44⟩] _ from((ST.start w0).addbox #[.string (S m.name),.slice mq1 m.fields.length mc1,.slice mq2 mm2 mc2,.slice mq3 mm3 mc3,.slice mq4 mm4 mc4] 44).nilrow 80 3)
 go_enter Tryz.func45,Tryz.ntmps45
 go_wp2
 go_loopw [5,6] (fun vo i wr => ∃(k:Nat) (out:List PMem),k<=m.fields.length/\i=.int .i64 k/\Hid (ST w0 [mrow vo out] [⟨w0.heap.size,#[.string (S m.name),.slice mq1 m.fields.length mc1,.slice mq2 mm2 mc2,.slice mq3 mm3 mc3,.slice mq4 mm4 mc4],44⟩] wr)/\out.length<=k/\Hid (qg2 D m.name out (pvAt m.fields k) (m.fields.drop k)=T)) (fun _ i _=>m.fields.length-(intOf i).toNat)
 case atStart=>exact⟨0,[],by omega,rfl,hS0,by simp,V⟩
 case round=>as_aux_lemma=>
  clear hS0 V;obtain⟨k,out,hk,rfl,hS,hol,hx⟩:=hrel;have c1:=hS.out.cell 0 rfl 1;dsimp only at c1;by_cases hlt:k<m.fields.length
  ·have hg2:=List.getElem?_eq_getElem hlt
   obtain⟨b,off,hqq,hbs,vs,hce,hvs⟩:=EL.out k _ hg2;subst hqq;obtain⟨_,_,hvs1,⟨r1,r2,r3,r4,d1,d2,d3,d4,hvv,_⟩,hnt⟩:=hvs;obtain⟨r5,d5,hnv,hnl⟩:=qa5 hnt;subst hvs1 hvv hnv;have hfb:=HF.out _ (List.getElem_mem hlt);have hst:=hx.out;rw [recR_at hlt]at hst;generalize hpv:pvAt m.fields k=pv at hst;have HPV:=h_ hpv;clear hx hpv;generalize m.fields[k]=f at *;have hki:(k:Int)<(m.fields.length:Int):=by omega
   have aE:=qas;obtain⟨K,hK⟩ : ∃K,K=16:=⟨_,rfl⟩;have zE : ∀w,(Go.sizeOf 63).run Tryz.prog w=.ok K w:=hK ▸ qal
   have l2:Sem.run Tryz.prog (loadCellsFrom ⟨b,off+k*K,none⟩ 0 K #[]) wr=.ok #[.int .i64 f.num,.string (S f.name),.int .i64 f.card,.int .i64 f.key,.int .i64 f.tk,.string (S f.tn),.string (S f.un),.bool f.hd,.int .i64 f.df.k,.int .u64 f.df.x,.string (S f.df.t),.slice r1 f.df.n1 d1,.slice r2 f.df.n2 d2,.slice r3 f.df.n3 d3,.slice r4 f.df.n4 d4,.slice r5 f.notes.length d5] wr:=run_loadCellsFrom_list Tryz.prog _ _ _ K hK.symm (fun j v hj=>by
    rw [hK,Addr.add_lit]
    exact Bel.some hS.out.bel (hce j v hj))
   have HK:=h_ hK;clear hK hce hg2 hnt;obtain⟨qo,co,hvo⟩:=qa9 (hS.out.row 0 rfl);dsimp only [mrow]at hvo;subst hvo;have HA:=h_ (hS.out.addbox #[.int .i64 f.num,.string (S f.name),.int .i64 f.card,.int .i64 f.key,.int .i64 f.tk,.string (S f.tn),.string (S f.un),.bool f.hd,.int .i64 f.df.k,.int .u64 f.df.x,.string (S f.df.t),.slice r1 f.df.n1 d1,.slice r2 f.df.n2 d2,.slice r3 f.df.n3 d3,.slice r4 f.df.n4 d4,.slice r5 f.notes.length d5] 63);clear hS
   go_upto_region 6 with(fail)
   all_goals (first|(exfalso;exact absurd HK.out.symm (by assumption))|(have h16:16=K:=(by assumption);subst h16))
   clear l2 aE zE HK c1;generalize wr.heap.size=fb at HA ⊢;generalize hwa:wr.alloc _=wa at HA ⊢;clear hwa;have SS:=h_ (fun(R:List Row) (X:List Box) (W:World) (hs:ST w0 R X W) (i:Nat) (hi:X[i]? = some ⟨fb,#[.int .i64 f.num,.string (S f.name),.int .i64 f.card,.int .i64 f.key,.int .i64 f.tk,.string (S f.tn),.string (S f.un),.bool f.hd,.int .i64 f.df.k,.int .u64 f.df.x,.string (S f.df.t),.slice r1 f.df.n1 d1,.slice r2 f.df.n2 d2,.slice r3 f.df.n3 d3,.slice r4 f.df.n4 d4,.slice r5 f.notes.length d5],63⟩)=>show W.cell? ⟨fb,1,none⟩=some (.string (S f.name))/\W.cell? ⟨fb,0,none⟩=some (.int .i64 f.num)/\(∀K:Nat,K=16->Sem.run Tryz.prog (loadCellsFrom ⟨fb,0,none⟩ 0 K #[]) W=.ok #[.int .i64 f.num,.string (S f.name),.int .i64 f.card,.int .i64 f.key,.int .i64 f.tk,.string (S f.tn),.string (S f.un),.bool f.hd,.int .i64 f.df.k,.int .u64 f.df.x,.string (S f.df.t),.slice r1 f.df.n1 d1,.slice r2 f.df.n2 d2,.slice r3 f.df.n3 d3,.slice r4 f.df.n4 d4,.slice r5 f.notes.length d5] W)from⟨hs.cell i hi 1,hs.cell i hi 0,hs.load16 i hi rfl⟩);have a6:wa.cell? ⟨fb,6,none⟩=some (.string (S f.un)):=HA.out.cell 0 rfl 6;by_cases hu:f.un=[]
   ·rw [if_pos hu]at hst
    have hue:(S f.un).toList=[]:=by rw [ByteArray.toList_eq,qah,hu]
    have CT:=h_ (fun W (kk:Bel w0 W)=>rd_Typed (.slice qd D.length cd) D f r1 r2 r3 r4 r5 d1 d2 d3 d4 d5 W (HDE.out W kk) (Nat.le_trans (qqv f.tk f.tn HD0.out (by omega)) (by omega)));have hal:=qek out f.name (qgx D f) f.num;generalize qgx D f=TY at CT hst hal;have HST2:=h_ hst;clear hst hu
    go_upto_region 7 with(fail)
    clear a6;obtain⟨wd,hwd⟩ : ∃wd,wd=wa.drew:=⟨_,rfl⟩;have HD:=h_ (show ST w0 _ _ wd by rw [hwd];exact HA.out.belw (Bel.refl _).drew);have HWD:=h_ hwd;clear hwd HA;refine qak (fun W=>W.cell? ⟨fb,1,none⟩=some (.string (S f.name))/\W.cell? ⟨fb,0,none⟩=some (.int .i64 f.num)/\(∀K:Nat,K=16->Sem.run Tryz.prog (loadCellsFrom ⟨fb,0,none⟩ 0 K #[]) W=.ok #[.int .i64 f.num,.string (S f.name),.int .i64 f.card,.int .i64 f.key,.int .i64 f.tk,.string (S f.tn),.string (S f.un),.bool f.hd,.int .i64 f.df.k,.int .u64 f.df.x,.string (S f.df.t),.slice r1 f.df.n1 d1,.slice r2 f.df.n2 d2,.slice r3 f.df.n3 d3,.slice r4 f.df.n4 d4,.slice r5 f.notes.length d5] W)) [(0,true),(1,true),(2,true),(3,true),(4,true),(6,true),(7,true),(5,false)] 8 (by kernel_rfl) (by kernel_rfl) HWD.out (SS.out _ _ _ HD.out 0 rfl) ?_;simp only [qb3,List.getElem?_cons_zero,List.getElem?_cons_succ]
    (with_reducible refine qa1 (v:=?vv500) (by with_unfolding_all rfl) (fun W hW=>?hy500) ?hr500);(case hy500=>((try dsimp only at hW);go_simp;(all_goals with_reducible rfl)));(simp only [Act.put,z_1,z_2,z_3])
    (with_reducible refine qa1 (v:=?vv501) (by with_unfolding_all rfl) (fun W hW=>?hy501) ?hr501);(case hy501=>((try dsimp only at hW);go_simp;(all_goals with_reducible rfl)));(simp only [Act.put,z_1,z_2,z_3])
    (with_reducible refine qa1 (v:=?vv502) (by with_unfolding_all rfl) (fun W hW=>?hy502) ?hr502);(case hy502=>((try dsimp only at hW);go_simp;(all_goals with_reducible rfl)));(simp only [Act.put,z_1,z_2,z_3])
    (with_reducible refine qa1 (v:=?vv503) (by with_unfolding_all rfl) (fun W hW=>?hy503) ?hr503);(case hy503=>((try dsimp only at hW);go_simp;(all_goals with_reducible rfl)));(simp only [Act.put,z_1,z_2,z_3])
    with_reducible refine qa1 (v:=.agg #[.int .i64 f.num,.string (S f.name),.int .i64 f.card,.int .i64 f.key,.int .i64 f.tk,.string (S f.tn),.string (S f.un),.bool f.hd,.int .i64 f.df.k,.int .u64 f.df.x,.string (S f.df.t),.slice r1 f.df.n1 d1,.slice r2 f.df.n2 d2,.slice r3 f.df.n3 d3,.slice r4 f.df.n4 d4,.slice r5 f.notes.length d5]) (by with_unfolding_all rfl) (fun W hW=>?hyl) ?hrl
    case hyl=>exact qgl rfl hW.2.2
    (try simp only [Act.put,z_1,z_2,z_3])
    (with_reducible refine qa1 (v:=?vv504) (by with_unfolding_all rfl) (fun W hW=>?hy504) ?hr504);(case hy504=>((try dsimp only at hW);go_simp;(all_goals with_reducible rfl)));(simp only [Act.put,z_1,z_2,z_3])
    (with_reducible refine qa1 (v:=?vv505) (by with_unfolding_all rfl) (fun W hW=>?hy505) ?hr505);(case hy505=>((try dsimp only at hW);go_simp;(all_goals with_reducible rfl)));(simp only [Act.put,z_1,z_2,z_3])
    with_reducible refine qaj (fun K hK=>?_)
    go_simp
    with_reducible refine(CT.out _ HD.out.bel).mono ?_
    rintro e w1 ⟨rfl,g1⟩;have H1:=h_ (HD.out.belw g1);refine hK _ _ (SS.out _ _ _ H1.out 0 rfl) ?_;clear hK K g1 HD CT SS
    (try simp only [Act.put,z_1,z_2,z_3])
    refine qbm ?_;simp only [t_3,t_4];have CWI:=h_ (qge w0 _ _ _ out f.name TY f.num w1 H1.out (by omega) (by omega))
    go_wp2_with (go_at_call 48;(with_reducible refine CWI.out.mono ?_);rintro e w2 ⟨v2,rfl,h2⟩)
    go_roundw
    case rel=>exact⟨k+1,_,by omega,by go_num,h_ h2.dropbox0,by omega,HST2⟩
    case measure=>simp [intOf];omega
   ·rw [if_neg hu]at hst
    have hue:(S f.un).toList ≠ []:=by rw [ByteArray.toList_eq,qah];exact hu
    have hue2:(S f.un).toList.isEmpty=false:=by rw [qe6];simpa using hu
    clear hu SS
    go_upto_region 8 with(fail)
    clear a6;obtain⟨wd,hwd⟩ : ∃wd,wd=wa.drew:=⟨_,rfl⟩;have HD:=h_ (show ST w0 _ _ wd by rw [hwd];exact HA.out.belw (Bel.refl _).drew);have HWD:=h_ hwd;clear hwd HA;have a6:wd.cell? ⟨fb,6,none⟩=some (.string (S f.un)):=HD.out.cell 0 rfl 6;have m0:wd.cell? ⟨w0.heap.size,0,none⟩=some (.string (S m.name)):=HD.out.cell 1 rfl 0;have m1:wd.cell? ⟨w0.heap.size,1,none⟩=some (.slice (some ⟨b,off,none⟩) m.fields.length mc1):=HD.out.cell 1 rfl 1;by_cases hk0:k=0
    ·subst hk0
     have hst2:=hst;rw [if_neg (by rw [←HPV.out];intro h;cases h)]at hst2;clear hst;have hki2:((0:Nat):Int)=0:=rfl;have CO:=h_ (fun W (kk:Bel w0 W)=>(rd_Of (.slice qd D.length cd) D (m.name ++ 58 :: f.un) W (HDE.out W kk)).mono (fun e w' h=>qfl h));have hal:=qek out f.un (ofZ D (m.name ++ 58 :: f.un)).name (-1);have hzl:=qns (m.name ++ 58 :: f.un) HD0.out;generalize ofZ D (m.name ++ 58 :: f.un)=Z at CO hst2 hal hzl;rw [←qgv]at CO;have HST2:=h_ hst2;have zm:(S m.name).size=m.name.length:=qai _;have zu:(S f.un).size=f.un.length:=qai _;clear hst2;refine qae 12 (by kernel_rfl) (by kernel_rfl) HWD.out ?_
     (simp only [t_1,t_2,t_3,t_4]);(repeat (first|((with_reducible refine wpStill_step (fun K hK=>?_));go_simp;(with_reducible refine hK _ ?_);clear hK K)|((with_reducible refine qaa ?_ ?_);(with_unfolding_all rfl);(simp only [Act.put,z_1,z_2,z_3]))));(with_reducible refine wpStill_nil ?_)
     go_upto_region 10 with(go_at_call 32;(with_reducible refine(CO.out _ HD.out.bel).mono ?_);rintro e w2 ⟨p2,c2,b2',rfl,x2,k2⟩)
     have H2:=h_ (HD.out.belw k2);have H3:=h_ (H2.out.addbox #[.int .i64 Z.kind,.string (S Z.name),.string (S Z.frm),.slice p2 Z.mems.length c2] 47);clear CO HD a6 m0 m1 x2 k2 H2;generalize w2.heap.size=gz at H3 ⊢;generalize hwz:w2.alloc _=wz at H3 ⊢;clear hwz;have a6:wz.cell? ⟨fb,6,none⟩=some (.string (S f.un)):=H3.out.cell 1 rfl 6;have z1:wz.cell? ⟨gz,1,none⟩=some (.string (S Z.name)):=H3.out.cell 0 rfl 1;have CWI:=h_ (qge w0 _ _ _ out f.un Z.name (-1) wz H3.out (by omega) (by omega))
     go_wp2_with (go_at_call 48;(with_reducible refine CWI.out.mono ?_);rintro e w4 ⟨v4,rfl,h4⟩)
     go_roundw
     case rel=>exact⟨0+1,_,by omega,by go_num,h_ h4.dropbox0.dropbox0,by omega,HST2⟩
     case measure=>simp [intOf];omega
    ·obtain⟨kp,hkk⟩ : ∃kp,k=kp+1:=⟨k-1,by omega⟩
     have hkp:kp<m.fields.length:=by omega
     have hkpi:(kp:Int)<(m.fields.length:Int):=by omega
     have hki0 : ¬((k:Int)=0):=by omega
     have jw2:IntKind.i64.wrap (kp:Int)=(kp:Int):=IntWalk.i64_in _ (by omega);have jw:IntKind.i64.wrap ((k:Int)-1)=(kp:Int):=by rw [show(k:Int)-1=(kp:Int)by omega];exact jw2
     have hpv:pv=some (m.fields[kp]).un:=by rw [←HPV.out,hkk];show(m.fields[kp]?).map (·.un)=_;rw [List.getElem?_eq_getElem hkp];rfl
     obtain⟨b2,off2,hq2,hs2,vs2,hce2,hv2⟩:=EL.out kp _ (List.getElem?_eq_getElem hkp);cases hq2;obtain⟨vv2,nv2,hvs2,_,_⟩:=hv2;subst hvs2;have y0:wd.cell? ⟨b,off+kp*16+6,none⟩=some (.string (S (m.fields[kp]).un)):=HD.out.bel.some (hce2 6 _ rfl);clear hce2 hkk;by_cases he:(m.fields[kp]).un=f.un
     ·have hcmp:((S (m.fields[kp]).un).toList == (S f.un).toList)=true:=by rw [he];simp
      rw [if_pos (by rw [hpv,he])]at hst;have HST2:=h_ hst;clear hst he hpv;refine qae 12 (by kernel_rfl) (by kernel_rfl) HWD.out ?_
      (simp only [t_1,t_2,t_3,t_4]);(repeat (first|((with_reducible refine wpStill_step (fun K hK=>?_));go_simp;(with_reducible refine hK _ ?_);clear hK K)|((with_reducible refine qaa ?_ ?_);(with_unfolding_all rfl);(simp only [Act.put,z_1,z_2,z_3]))));(with_reducible refine wpStill_nil ?_)
      go_wp2;go_roundw
      case rel=>exact⟨k+1,out,by omega,by go_num,h_ HD.out.dropbox0,by omega,HST2⟩
      case measure=>simp [intOf];omega
     ·have hcmp:((S (m.fields[kp]).un).toList == (S f.un).toList)=false:=by rw [ByteArray.toList_eq,ByteArray.toList_eq,qah,qah];simpa using he
      have hst2:=hst;rw [if_neg (by rw [hpv];intro h;exact he (Option.some.inj h))]at hst2;clear hst he hpv;have CO:=h_ (fun W (kk:Bel w0 W)=>(rd_Of (.slice qd D.length cd) D (m.name ++ 58 :: f.un) W (HDE.out W kk)).mono (fun e w' h=>qfl h));have hal:=qek out f.un (ofZ D (m.name ++ 58 :: f.un)).name (-1);have hzl:=qns (m.name ++ 58 :: f.un) HD0.out;generalize ofZ D (m.name ++ 58 :: f.un)=Z at CO hst2 hal hzl;rw [←qgv]at CO;have HST2:=h_ hst2;have zm:(S m.name).size=m.name.length:=qai _;have zu:(S f.un).size=f.un.length:=qai _;clear hst2;refine qae 12 (by kernel_rfl) (by kernel_rfl) HWD.out ?_
      (simp only [t_1,t_2,t_3,t_4]);(repeat (first|((with_reducible refine wpStill_step (fun K hK=>?_));go_simp;(with_reducible refine hK _ ?_);clear hK K)|((with_reducible refine qaa ?_ ?_);(with_unfolding_all rfl);(simp only [Act.put,z_1,z_2,z_3]))));(with_reducible refine wpStill_nil ?_)
      go_upto_region 10 with(go_at_call 32;(with_reducible refine(CO.out _ HD.out.bel).mono ?_);rintro e w2 ⟨p2,c2,b2',rfl,x2,k2⟩)
      have H2:=h_ (HD.out.belw k2);have H3:=h_ (H2.out.addbox #[.int .i64 Z.kind,.string (S Z.name),.string (S Z.frm),.slice p2 Z.mems.length c2] 47);clear CO HD a6 m0 m1 x2 k2 H2 y0;generalize w2.heap.size=gz at H3 ⊢;generalize hwz:w2.alloc _=wz at H3 ⊢;clear hwz;have a6:wz.cell? ⟨fb,6,none⟩=some (.string (S f.un)):=H3.out.cell 1 rfl 6;have z1:wz.cell? ⟨gz,1,none⟩=some (.string (S Z.name)):=H3.out.cell 0 rfl 1;have CWI:=h_ (qge w0 _ _ _ out f.un Z.name (-1) wz H3.out (by omega) (by omega))
      go_wp2_with (go_at_call 48;(with_reducible refine CWI.out.mono ?_);rintro e w4 ⟨v4,rfl,h4⟩)
      go_roundw
      case rel=>exact⟨k+1,_,by omega,by go_num,h_ h4.dropbox0.dropbox0,by omega,HST2⟩
      case measure=>simp [intOf];omega
  ·have hkl:k=m.fields.length:=by omega
   have hxe:out=T:=by have:=hx.out;rw [hkl,List.drop_length]at this;exact this
   subst hxe;have HB:=h_ (hS.out.row 0 rfl);have HBel:=h_ hS.out.bel;obtain⟨qo,co,hvo⟩:=qa9 (hS.out.row 0 rfl);clear hx EL hS;go_wp2;go_ret;exact⟨_,rfl,HB.out,HBel.out⟩
theorem qq0 (v:Value) (D:List PDecl) (mq1 mq2 mq3 mq4:Option Addr) (mm2 mm3 mm4 mc1 mc2 mc3 mc4:Nat) (m:PMsg) (u:Str) (w0:World) (hd:Decls w0 v D) (hv:VMsg w0 [.string (S m.name),.slice mq1 m.fields.length mc1,.slice mq2 mm2 mc2,.slice mq3 mm3 mc3,.slice mq4 mm4 mc4] m) (hfn:m.fields.length<=100000) (hfl : ∀f ∈ m.fields,f.name.length<=100000/\f.un.length<=100000) :
  Calls Tryz.prog 47 #[v,.agg #[.string (S m.name),.slice mq1 m.fields.length mc1,.slice mq2 mm2 mc2,.slice mq3 mm3 mc3,.slice mq4 mm4 mc4],.string (S u)] w0 (qj1 w0 (chR D m u)):=by
 obtain⟨_,_,_,_,hcm,hm1,_,_,_⟩:=hv;cases hcm;obtain⟨q,c,hq,hl,hcap,hel⟩:=hm1;cases hq;have V:=h_ (show chRGo D u [] (m.fields.drop 0)=chR D m u from rfl);generalize chR D m u=T at V;have EL:=h_ hel;have HF:=h_ hfl;have HDE:=h_ (fun W (kk:Bel w0 W)=>hd.bel VDecl.stays kk);obtain⟨qd,cd,rfl,_⟩:=hd;clear hel hfl;have hS0:=h_ (show ST w0 [mrow (.slice none 0 0) []] [⟨w0.heap.size,#[.string (S m.name),.slice mq1 m.fields.length mc1,.slice mq2 mm2 mc2,.slice mq3 mm3 mc3,.slice mq4 mm4 mc4],44⟩] _ from((ST.start w0).addbox #[.string (S m.name),.slice mq1 m.fields.length mc1,.slice mq2 mm2 mc2,.slice mq3 mm3 mc3,.slice mq4 mm4 mc4] 44).nilrow 80 3)
 go_enter Tryz.func47,Tryz.ntmps47
 go_wp2
 go_loopw [7,8] (fun vo i wr => ∃(k:Nat) (out:List PMem),k<=m.fields.length/\i=.int .i64 k/\Hid (ST w0 [mrow vo out] [⟨w0.heap.size,#[.string (S m.name),.slice mq1 m.fields.length mc1,.slice mq2 mm2 mc2,.slice mq3 mm3 mc3,.slice mq4 mm4 mc4],44⟩] wr)/\out.length<=k/\Hid (chRGo D u out (m.fields.drop k)=T)) (fun _ i _=>m.fields.length-(intOf i).toNat)
 case atStart=>exact⟨0,[],by omega,rfl,hS0,by simp,V⟩
 case round=>as_aux_lemma=>
  clear hS0 V;obtain⟨k,out,hk,rfl,hS,hol,hx⟩:=hrel;have c1:=hS.out.cell 0 rfl 1;dsimp only at c1;by_cases hlt:k<m.fields.length
  ·have hg2:=List.getElem?_eq_getElem hlt
   obtain⟨b,off,hqq,hbs,vs,hce,hvs⟩:=EL.out k _ hg2;subst hqq;have hdr:m.fields.drop k=m.fields[k] :: m.fields.drop (k+1):=List.drop_eq_getElem_cons hlt;obtain⟨_,_,hvs1,⟨r1,r2,r3,r4,d1,d2,d3,d4,hvv,_⟩,hnt⟩:=hvs;obtain⟨r5,d5,hnv,hnl⟩:=qa5 hnt;subst hvs1 hvv hnv;have hfb:=HF.out _ (List.getElem_mem hlt);have hst:=hx.out;rw [hdr,chRGo]at hst;clear hx hdr;generalize m.fields[k]=f at *;have hki:(k:Int)<(m.fields.length:Int):=by omega
   have HE:=h_ (fun(W:World) (kk:Bel w0 W)=>show W.cell? ⟨b,off+k*16+1,none⟩=some (.string (S f.name))/\W.cell? ⟨b,off+k*16+4,none⟩=some (.int .i64 f.tk)/\W.cell? ⟨b,off+k*16+4+1,none⟩=some (.string (S f.tn))/\W.cell? ⟨b,off+k*16,none⟩=some (.int .i64 f.num)/\W.cell? ⟨b,off+k*16+6,none⟩=some (.string (S f.un))from⟨kk.some (hce 1 _ rfl),kk.some (hce 4 _ rfl),kk.some (hce 5 _ rfl),(by have:=kk.some (hce 0 _ rfl);rwa [Nat.add_zero]at this),kk.some (hce 6 _ rfl)⟩);clear hce hg2 hnt;obtain⟨qo,co,hvo⟩:=qa9 (hS.out.row 0 rfl);dsimp only [mrow]at hvo;subst hvo;have e6:=(HE.out _ hS.out.bel).2.2.2.2;by_cases hu:f.un=u
   ·have hcmp:((S f.un).toList == (S u).toList)=true:=by rw [hu];simp
    rw [if_pos hu]at hst;have CE:=h_ (fun W (kk:Bel w0 W)=>qia (.slice qd D.length cd) D f.tk f.tn W (HDE.out W kk));have hal:=qek out f.name (qbz D f.tk f.tn) f.num;generalize qbz D f.tk f.tn=TY at CE hst hal;have HST2:=h_ hst;clear hst hu
    go_upto_region 6 with(fail)
    clear e6 c1;obtain⟨wd,hwd⟩ : ∃wd,wd=wr.drew:=⟨_,rfl⟩;have HD:=h_ (show ST w0 _ _ wd by rw [hwd];exact hS.out.belw (Bel.refl _).drew);have HWD:=h_ hwd;clear hwd hS;have SS:=h_ (fun(R:List Row) (X:List Box) (W:World) (hs:ST w0 R X W) (i:Nat) (hi:X[i]? = some ⟨w0.heap.size,#[.string (S m.name),.slice (some ⟨b,off,none⟩) m.fields.length mc1,.slice mq2 mm2 mc2,.slice mq3 mm3 mc3,.slice mq4 mm4 mc4],44⟩)=>show W.cell? ⟨w0.heap.size,1,none⟩=some (.slice (some ⟨b,off,none⟩) m.fields.length mc1)/\W.cell? ⟨b,off+k*16+1,none⟩=some (.string (S f.name))/\W.cell? ⟨b,off+k*16+4,none⟩=some (.int .i64 f.tk)/\W.cell? ⟨b,off+k*16+4+1,none⟩=some (.string (S f.tn))/\W.cell? ⟨b,off+k*16,none⟩=some (.int .i64 f.num)from⟨hs.cell i hi 1,(HE.out _ hs.bel).1,(HE.out _ hs.bel).2.1,(HE.out _ hs.bel).2.2.1,(HE.out _ hs.bel).2.2.2.1⟩);refine qak (fun W=>W.cell? ⟨w0.heap.size,1,none⟩=some (.slice (some ⟨b,off,none⟩) m.fields.length mc1)/\W.cell? ⟨b,off+k*16+1,none⟩=some (.string (S f.name))/\W.cell? ⟨b,off+k*16+4,none⟩=some (.int .i64 f.tk)/\W.cell? ⟨b,off+k*16+4+1,none⟩=some (.string (S f.tn))/\W.cell? ⟨b,off+k*16,none⟩=some (.int .i64 f.num)) [(0,true),(1,true),(2,true),(3,true),(4,true),(5,true),(6,true),(7,true),(8,true),(9,true),(10,true),(11,true),(12,true),(13,true),(15,true),(16,true),(17,true),(18,true),(19,true),(20,true),(14,false)] 21 (by kernel_rfl) (by kernel_rfl) HWD.out (SS.out _ _ _ HD.out 0 rfl) ?_;simp only [qb3,List.getElem?_cons_zero,List.getElem?_cons_succ]
    (with_reducible refine qa1 (v:=?vv510) (by with_unfolding_all rfl) (fun W hW=>?hy510) ?hr510);(case hy510=>((try dsimp only at hW);go_simp;(all_goals with_reducible rfl)));(simp only [Act.put,z_1,z_2,z_3])
    (with_reducible refine qa1 (v:=?vv511) (by with_unfolding_all rfl) (fun W hW=>?hy511) ?hr511);(case hy511=>((try dsimp only at hW);go_simp;(all_goals with_reducible rfl)));(simp only [Act.put,z_1,z_2,z_3])
    (with_reducible refine qa1 (v:=?vv512) (by with_unfolding_all rfl) (fun W hW=>?hy512) ?hr512);(case hy512=>((try dsimp only at hW);go_simp;(all_goals with_reducible rfl)));(simp only [Act.put,z_1,z_2,z_3])
    (with_reducible refine qa1 (v:=?vv513) (by with_unfolding_all rfl) (fun W hW=>?hy513) ?hr513);(case hy513=>((try dsimp only at hW);go_simp;(all_goals with_reducible rfl)));(simp only [Act.put,z_1,z_2,z_3])
    (with_reducible refine qa1 (v:=?vv514) (by with_unfolding_all rfl) (fun W hW=>?hy514) ?hr514);(case hy514=>((try dsimp only at hW);go_simp;(all_goals with_reducible rfl)));(simp only [Act.put,z_1,z_2,z_3])
    (with_reducible refine qa1 (v:=?vv515) (by with_unfolding_all rfl) (fun W hW=>?hy515) ?hr515);(case hy515=>((try dsimp only at hW);go_simp;(all_goals with_reducible rfl)));(simp only [Act.put,z_1,z_2,z_3])
    (with_reducible refine qa1 (v:=?vv516) (by with_unfolding_all rfl) (fun W hW=>?hy516) ?hr516);(case hy516=>((try dsimp only at hW);go_simp;(all_goals with_reducible rfl)));(simp only [Act.put,z_1,z_2,z_3])
    (with_reducible refine qa1 (v:=?vv517) (by with_unfolding_all rfl) (fun W hW=>?hy517) ?hr517);(case hy517=>((try dsimp only at hW);go_simp;(all_goals with_reducible rfl)));(simp only [Act.put,z_1,z_2,z_3])
    (with_reducible refine qa1 (v:=?vv518) (by with_unfolding_all rfl) (fun W hW=>?hy518) ?hr518);(case hy518=>((try dsimp only at hW);go_simp;(all_goals with_reducible rfl)));(simp only [Act.put,z_1,z_2,z_3])
    (with_reducible refine qa1 (v:=?vv519) (by with_unfolding_all rfl) (fun W hW=>?hy519) ?hr519);(case hy519=>((try dsimp only at hW);go_simp;(all_goals with_reducible rfl)));(simp only [Act.put,z_1,z_2,z_3])
    (with_reducible refine qa1 (v:=?vv520) (by with_unfolding_all rfl) (fun W hW=>?hy520) ?hr520);(case hy520=>((try dsimp only at hW);go_simp;(all_goals with_reducible rfl)));(simp only [Act.put,z_1,z_2,z_3])
    (with_reducible refine qa1 (v:=?vv521) (by with_unfolding_all rfl) (fun W hW=>?hy521) ?hr521);(case hy521=>((try dsimp only at hW);go_simp;(all_goals with_reducible rfl)));(simp only [Act.put,z_1,z_2,z_3])
    (with_reducible refine qa1 (v:=?vv522) (by with_unfolding_all rfl) (fun W hW=>?hy522) ?hr522);(case hy522=>((try dsimp only at hW);go_simp;(all_goals with_reducible rfl)));(simp only [Act.put,z_1,z_2,z_3])
    (with_reducible refine qa1 (v:=?vv523) (by with_unfolding_all rfl) (fun W hW=>?hy523) ?hr523);(case hy523=>((try dsimp only at hW);go_simp;(all_goals with_reducible rfl)));(simp only [Act.put,z_1,z_2,z_3])
    (with_reducible refine qa1 (v:=?vv524) (by with_unfolding_all rfl) (fun W hW=>?hy524) ?hr524);(case hy524=>((try dsimp only at hW);go_simp;(all_goals with_reducible rfl)));(simp only [Act.put,z_1,z_2,z_3])
    (with_reducible refine qa1 (v:=?vv525) (by with_unfolding_all rfl) (fun W hW=>?hy525) ?hr525);(case hy525=>((try dsimp only at hW);go_simp;(all_goals with_reducible rfl)));(simp only [Act.put,z_1,z_2,z_3])
    (with_reducible refine qa1 (v:=?vv526) (by with_unfolding_all rfl) (fun W hW=>?hy526) ?hr526);(case hy526=>((try dsimp only at hW);go_simp;(all_goals with_reducible rfl)));(simp only [Act.put,z_1,z_2,z_3])
    (with_reducible refine qa1 (v:=?vv527) (by with_unfolding_all rfl) (fun W hW=>?hy527) ?hr527);(case hy527=>((try dsimp only at hW);go_simp;(all_goals with_reducible rfl)));(simp only [Act.put,z_1,z_2,z_3])
    (with_reducible refine qa1 (v:=?vv528) (by with_unfolding_all rfl) (fun W hW=>?hy528) ?hr528);(case hy528=>((try dsimp only at hW);go_simp;(all_goals with_reducible rfl)));(simp only [Act.put,z_1,z_2,z_3])
    (with_reducible refine qa1 (v:=?vv529) (by with_unfolding_all rfl) (fun W hW=>?hy529) ?hr529);(case hy529=>((try dsimp only at hW);go_simp;(all_goals with_reducible rfl)));(simp only [Act.put,z_1,z_2,z_3])
    with_reducible refine qaj (fun K hK=>?_)
    go_simp
    with_reducible refine(CE.out _ HD.out.bel).mono ?_
    rintro e w1 ⟨rfl,g1⟩;have H1:=h_ (HD.out.belw g1);refine hK _ _ (SS.out _ _ _ H1.out 0 rfl) ?_;clear hK K g1 HD CE SS
    (try simp only [Act.put,z_1,z_2,z_3])
    refine qbm ?_;simp only [t_3,t_4];have CWI:=h_ (qge w0 _ _ _ out f.name TY f.num w1 H1.out (by omega) (by omega))
    go_wp2_with (go_at_call 48;(with_reducible refine CWI.out.mono ?_);rintro e w2 ⟨v2,rfl,h2⟩)
    go_roundw
    case rel=>exact⟨k+1,_,by omega,by go_num,h_ h2,by omega,HST2⟩
    case measure=>simp [intOf];omega
   ·have hcmp:((S f.un).toList == (S u).toList)=false:=by rw [ByteArray.toList_eq,ByteArray.toList_eq,qah,qah];simpa using hu
    rw [if_neg hu]at hst;have HST2:=h_ hst;clear hst hu;go_wp2;go_roundw
    case rel=>exact⟨k+1,out,by omega,by go_num,hS,by omega,HST2⟩
    case measure=>simp [intOf];omega
  ·have hkl:k=m.fields.length:=by omega
   have hxe:out=T:=by have:=hx.out;rw [hkl,List.drop_length]at this;exact this
   subst hxe;have HB:=h_ (hS.out.row 0 rfl);have HBel:=h_ hS.out.bel;clear hx EL hS;go_wp2;go_ret;exact⟨_,rfl,HB.out,HBel.out⟩
end
section
open Go.RowKit Ck Md
def VDeclN (w:World) (vs:List Value) (d:PDecl):Prop:=vs=[.int .i64 d.kind,.string (S d.name),.string (S d.frm),.slice none 0 0]/\d.mems=[]
theorem VDeclN.stays:Stays VDeclN:=fun _ _ _ _ _ h=>h
def declC0 (d:PDecl):List Value:=[.int .i64 d.kind,.string (S d.name),.string (S d.frm),.slice none 0 0]
theorem outC0 : ∀D:List PDecl,outC D []=D.flatMap declC0
 | []=>rfl
 | d :: D=>by rw [List.flatMap_cons, ←outC0 D];rfl
theorem qqw {w:World} {B:Nat} {v:Value} {D:List PDecl} (h:w.ownsRow B 47 4 v D.length (outC D [])) (hl:D.length<=140737488355328) (hm : ∀d ∈ D,d.mems=[]):Sv 4 VDeclN w v D:=by
 rw [outC0]at h;exact qde declC0 (fun _=>rfl) h hl (fun x hx=>⟨rfl,hm x hx⟩)
theorem qju {w:World} {v:Value} {D:List PDecl} (h:Sv 4 VDeclN w v D):Decls w v D:=by
 have:=sv_map (V':=VDecl) id (fun vs d h=>⟨.slice none 0 0,h.1,(by show Mems w _ d.mems;rw [h.2];exact Sl.nil _ _ _ _ _)⟩) h;rwa [List.map_id]at this
def FindN (w:World) (OD:Option PDecl) (e:Ending) (w':World):Prop:=e=.returned (.tuple #[.agg #[.int .i64 (OD.getD zeroD).kind,.string (S (OD.getD zeroD).name),.string (S (OD.getD zeroD).frm),.slice none 0 0],.bool OD.isSome])/\Bel w w'
def FoundN (w:World) (Z:PDecl) (e:Ending) (w':World):Prop := ∃b,e=.returned (.tuple #[.agg #[.int .i64 Z.kind,.string (S Z.name),.string (S Z.frm),.slice none 0 0],.bool b])/\Bel w w'
theorem qf0 {w w':World} {e:Ending} {D:List PDecl} {f:Str} (h:FindN w (ofD D f) e w'):FoundN w (ofZ D f) e w':=⟨_,h.1,h.2⟩
theorem qq4 (v:Value) (l:List PDecl) (n:Str) (w:World) (hv:Sv 4 VDeclN w v l) :
  Calls Tryz.prog 32 #[v,.string (S n)] w (FindN w (ofD l n)):=by
 obtain⟨q,c,rfl,hl,hcap,hel⟩:=hv;have V:=h_ (show(l.drop 0).find? (fun d=>decide (d.frm=n))=ofD l n from rfl);generalize ofD l n=OD at V;have EL:=h_ hel;clear hel;have hb0:=heap_alloc_new w (.cells #[.int .i64 0,.string ⟨#[]⟩,.string ⟨#[]⟩,.slice none 0 0] 47);have kw:Bel w (w.alloc (.cells #[.int .i64 0,.string ⟨#[]⟩,.string ⟨#[]⟩,.slice none 0 0] 47)):=(Bel.refl w).alloc _
 go_enter Tryz.func32,Tryz.ntmps32
 go_wp2
 go_loop [6] (fun i => ∃k:Nat,k<=l.length/\i=.int .i64 k/\Hid ((l.drop k).find? (fun d=>decide (d.frm=n))=OD)) (fun i=>l.length-(intOf i).toNat)
 case atStart=>exact⟨0,by omega,rfl,V⟩
 case round=>
  obtain⟨k,hk,rfl,hx⟩:=hrel;by_cases hlt:k<l.length
  ·have hki:(k:Int)<(l.length:Int):=by omega
   have hg:=List.getElem?_eq_getElem hlt;obtain⟨b,off,rfl,hbs,vs,hce,hvs⟩:=EL.out k _ hg;obtain⟨hvs1,hmv⟩:=hvs;subst hvs1;have hst:=hx.out;rw [qlk _ _ _ hlt]at hst;clear hmv;have e0:=kw.some (hce 0 _ rfl);rw [Nat.add_zero]at e0;have e1:=kw.some (hce 1 _ rfl);have e2:=kw.some (hce 2 _ rfl);have e3:=kw.some (hce 3 _ rfl);have e0w:=hce 0 _ rfl;rw [Nat.add_zero]at e0w;have e1w:=hce 1 _ rfl;have e2w:=hce 2 _ rfl;have e3w:=hce 3 _ rfl;clear hx hg hce;generalize l[k]=d at *;by_cases he:d.frm=n
   ·rw [if_pos (by simpa using he)]at hst
    have HT:=h_ hst;have hcmp:((S d.frm).toList == (S n).toList)=true:=by rw [ByteArray.toList_eq,ByteArray.toList_eq,qah,qah,he];simp
    clear hst he;go_wp2;refine bodyPost_ret (v:=.tuple #[.agg #[.int .i64 d.kind,.string (S d.name),.string (S d.frm),.slice none 0 0],.bool true]) ?hres rfl ?hpost
    case hres=>exact qeo rfl rfl rfl (heap_alloc_new w _) Tryz.underlying47 rfl (by kernel_rfl)
    case hpost=>
     rw [←HT.out];have kf:Bel w _:=(Bel.refl w).alloc (.cells #[.int .i64 d.kind,.string (S d.name),.string (S d.frm),.slice none 0 0] 47);exact⟨rfl,kf⟩
   ·rw [if_neg (by simpa using he)]at hst
    have HT:=h_ hst;have hcmp:((S d.frm).toList == (S n).toList)=false:=by rw [ByteArray.toList_eq,ByteArray.toList_eq,qah,qah];simpa using he
    clear hst he;go_wp2;go_round
    case rel=>exact⟨k+1,by omega,by go_num,HT⟩
    case measure=>simp [intOf];omega
  ·have hxe:OD=none:=by rw [←hx.out,List.drop_eq_nil_of_le (by omega)];rfl
   have HT:=h_ hxe;clear hxe hx;go_wp2;refine bodyPost_ret (v:=.tuple #[.agg #[.int .i64 zeroD.kind,.string (S zeroD.name),.string (S zeroD.frm),.slice none 0 0],.bool false]) ?hres rfl ?hpost
   case hres=>exact qeo rfl rfl rfl (heap_alloc_new w _) Tryz.underlying47 rfl (by kernel_rfl)
   case hpost=>
    rw [HT.out];have kf:Bel w _:=(Bel.refl w).alloc (.cells #[.int .i64 0,.string ⟨#[]⟩,.string ⟨#[]⟩,.slice none 0 0] 47);exact⟨rfl,kf⟩
end
end Go.Proofs.YtfoaaglbpmmhiaaGreatDoor
