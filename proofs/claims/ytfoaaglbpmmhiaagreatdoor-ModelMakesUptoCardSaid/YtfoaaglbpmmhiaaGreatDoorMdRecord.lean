import Derived.Test.YtfoaaglbpmmhiaaGreatDoorMdChoice
set_option maxRecDepth 100000
set_option maxHeartbeats 4000000
set_option linter.unusedVariables false
set_option linter.unusedSimpArgs false
namespace Go.Proofs.YtfoaaglbpmmhiaaGreatDoor
open Go.RowKit Ck Md
theorem qgl {ρ:Operand->Value} {dst:Option Tmp} {pos:String} {after:Array Edge} {guard:Option (Nat × Bool)} {x:Operand} {ty:TypeId} {g:Nat} {cs:Array Value} {W:World} (hx:ρ x=.pointer (some ⟨g,0,none⟩)) (hl : ∀K:Nat,K=16->Sem.run Tryz.prog (loadCellsFrom ⟨g,0,none⟩ 0 K #[]) W=.ok cs W) :
  (execOp ρ { dst:=dst,op:=.load 63 x,type:=ty,pos:=pos,after:=after,guard:=guard }).run Tryz.prog W=.ok (.value (.agg cs)) W:=by
 have aE:=qas;obtain⟨K,hK⟩ : ∃K,K=16:=⟨_,rfl⟩;have zE : ∀w,(Go.sizeOf 63).run Tryz.prog w=.ok K w:=hK ▸ qal;have l2:=hl K hK;clear hK hl;go_simp
theorem ST.load16 {w0 w:World} {R:List Row} {X:List Box} {g:Nat} {cs:Array Value} {T:TypeId} (h:ST w0 R X w) (i:Nat) (hi:X[i]? = some ⟨g,cs,T⟩) (hs:cs.size=16) : ∀K:Nat,K=16->Sem.run Tryz.prog (loadCellsFrom ⟨g,0,none⟩ 0 K #[]) w=.ok cs w:=fun K hK=>by
 have:=run_loadCellsFrom_list Tryz.prog w ⟨g,0,none⟩ cs.toList K (by rw [hK,Array.length_toList,hs]) (fun j v hj=>by
  rw [Addr.add_lit,Nat.zero_add];have:=h.cell i hi j;rw [this]
  simpa using hj)
 simpa using this
theorem qe3 (D:List PDecl) (k:Int) (f:Str) (B:Nat) (h : ∀d ∈ D,d.name.length<=B):(qcg D k f).length<=B:=by
 unfold qcg;cases e:D.find? (isK k f)with
 | none=>simp
 | some d=>exact h d (List.mem_of_find?_eq_some e)
theorem elem_len (D:List PDecl) (tk:Int) (tn:Str) (B:Nat) (h : ∀d ∈ D,d.name.length<=B) (hB:6<=B):(element D tk tn).length<=B:=by
 unfold element
 split
 ·exact qe3 D _ _ B h
 ·split
  ·exact qe3 D _ _ B h
  ·exact Nat.le_trans (qj2 _) hB
theorem qgv (a b:Str):S a ++ (⟨#[58]⟩:ByteArray) ++ S b=S (a ++ 58 :: b):=by
 have:(⟨#[58]⟩:ByteArray)=S [58]:=rfl;rw [this,S_app,S_app];simp
theorem qqd (g:Nat) (D:List PDecl) (mn:Str) (mq1 mq2 mq3 mq4:Option Addr) (mm1 mm2 mm3 mm4 mc1 mc2 mc3 mc4:Nat) (m:PMsg) (w:World) (h:NM w g D) (hv:VMsg w [.string (S mn),.slice mq1 mm1 mc1,.slice mq2 mm2 mc2,.slice mq3 mm3 mc3,.slice mq4 mm4 mc4] m) (hP:PT w) (hM:ML w) (hD : ∀d ∈ D,d.name.length<=100000000) (hml:m.name.length<=100000000) (hfn:m.fields.length<=2000000) (hfl : ∀f ∈ m.fields,f.name.length<=100000000/\f.un.length<=100000000) :
  Calls Tryz.prog 40 #[.pointer (some ⟨g,0,none⟩),.agg #[.string (S mn),.slice mq1 mm1 mc1,.slice mq2 mm2 mc2,.slice mq3 mm3 mc3,.slice mq4 mm4 mc4]] w (qj1 w (qdp D m)):=by
 obtain⟨i0,hi,hz0,hz1,hz2⟩:=info_parts qc7;obtain⟨i1,hi1,hy0,hy1,hy2⟩:=info_parts qfe;obtain⟨_,_,_,_,hcm,hm1,_,_,_⟩:=hv;cases hcm;obtain⟨q,c,hq,hl,hcap,hel⟩:=hm1;cases hq;have V:=h_ (show recGo D m.name [] [] (m.fields.drop 0)=qdp D m from rfl);generalize qdp D m=T at V;have EL:=h_ hel;have HF:=h_ hfl;have HD0:=h_ hD;have HNM:=h_ (fun W (kk:Bel w W)=>h.bel kk);clear hel hfl h hD;have hS0:=h_ ((((((ST.start w).addbox #[.string (S m.name),.slice mq1 m.fields.length mc1,.slice mq2 mm2 mc2,.slice mq3 mm3 mc3,.slice mq4 mm4 mc4] 44).addbox #[.slice none 0 0,.slice none 0 0] 97).nilrow 9 1).nilrow 80 3).nilrow 3 1 |>.nilrow 9 1)
 go_enter Tryz.func40,Tryz.ntmps40
 go_wp2
 go_loopw [6,7,14] (fun v v7 i wr => ∃(k:Nat) (out:List PMem) (had:List Str) (vn vw vo vh:Value),vo=v/\vh=v7/\k<=m.fields.length/\i=.int .i64 k/\Hid (ST w (memR vn vw vo out [⟨9,1,vh,had.length,nmC had⟩]) [⟨w.heap.size+1,#[vn,vw],97⟩,⟨w.heap.size,#[.string (S m.name),.slice mq1 m.fields.length mc1,.slice mq2 mm2 mc2,.slice mq3 mm3 mc3,.slice mq4 mm4 mc4],44⟩] wr)/\out.length<=k/\had.length<=k/\Hid (recGo D m.name out had (m.fields.drop k)=T)) (fun _ _ i _=>m.fields.length-(intOf i).toNat)
 case atStart=>exact⟨0,[],[],.slice none 0 0,.slice none 0 0,.slice none 0 0,.slice none 0 0,rfl,rfl,by omega,rfl,h_ (by have:=hS0.out;simpa [memR,nmC]using this),by simp,by simp,V⟩
 case round=>
  clear hS0;obtain⟨k,out,had,vn,vw,vo,vh,rfl,rfl,hk,rfl,hSH,hol,hhl,hx⟩:=hrel;have hST:=hSH.out;have hfr:=(hST.boxlt 0 rfl).2;by_cases hlt:k<m.fields.length
  ·have hg2:=List.getElem?_eq_getElem hlt
   obtain⟨b,off,rfl,hbs,vs,hce,hvs⟩:=EL.out k _ hg2;have hdr:m.fields.drop k=m.fields[k] :: m.fields.drop (k+1):=List.drop_eq_getElem_cons hlt;obtain⟨_,_,hvs1,⟨r1,r2,r3,r4,d1,d2,d3,d4,hvv,_⟩,hnt⟩:=hvs;obtain⟨r5,d5,hnv,hnl⟩:=qa5 hnt;subst hvs1 hvv hnv;have hfb:=HF.out _ (List.getElem_mem hlt);generalize m.fields[k]=f at *;have hki:(k:Int)<(m.fields.length:Int):=by omega
   have aE:=qas;obtain⟨K,hK⟩ : ∃K,K=16:=⟨_,rfl⟩;have zE : ∀w,(Go.sizeOf 63).run Tryz.prog w=.ok K w:=hK ▸ qal
   have l2:Sem.run Tryz.prog (loadCellsFrom ⟨b,off+k*K,none⟩ 0 K #[]) wr=.ok #[.int .i64 f.num,.string (S f.name),.int .i64 f.card,.int .i64 f.key,.int .i64 f.tk,.string (S f.tn),.string (S f.un),.bool f.hd,.int .i64 f.df.k,.int .u64 f.df.x,.string (S f.df.t),.slice r1 f.df.n1 d1,.slice r2 f.df.n2 d2,.slice r3 f.df.n3 d3,.slice r4 f.df.n4 d4,.slice r5 f.notes.length d5] wr:=run_loadCellsFrom_list Tryz.prog _ _ _ K hK.symm (fun j v hj=>by
    rw [hK,Addr.add_lit]
    exact Bel.some hST.bel (hce j v hj))
   have HK:=h_ hK;clear hK hce hg2 hnt;have hst:=hx.out;rw [hdr]at hst;unfold recGo at hst;clear hx hdr;by_cases hu:f.un=[]
   ·rw [if_pos hu,qfy]at hst
    have hue:(S f.un).toList=[]:=by rw [ByteArray.toList_eq,qah,hu]
    have HA:=h_ (hST.addbox #[.int .i64 f.num,.string (S f.name),.int .i64 f.card,.int .i64 f.key,.int .i64 f.tk,.string (S f.tn),.string (S f.un),.bool f.hd,.int .i64 f.df.k,.int .u64 f.df.x,.string (S f.df.t),.slice r1 f.df.n1 d1,.slice r2 f.df.n2 d2,.slice r3 f.df.n3 d3,.slice r4 f.df.n4 d4,.slice r5 f.notes.length d5] 63);have hol2:(out.map (·.name)).length<=1000000000:=by rw [List.length_map];omega
    have cam:=h_ (fun W (kk:Bel w W)=>qdq (S f.name) f.name W (qah _) (by rw [qai];exact hfb.1) (hM.below kk.out));have hcl:=qc0 f.name;have CE:=h_ (fun W (kk:Bel w W)=>md_field g D f r1 r2 r3 r4 r5 d1 d2 d3 d4 d5 W (HNM.out W kk) (Nat.le_trans (elem_len D _ _ _ HD0.out (by omega)) (by omega)));generalize qit D f=E at CE hst;generalize Id.camel f.name=CN at cam hcl hst;have hfb1:=hfb.1;generalize hU:qbl (out.map (·.name)) CN=U at hst;have HU:=h_ hU;have HST2:=h_ hst;clear hU hst hu hST hSH
    go_upto_region 8 with(fail)
    all_goals (first|(exfalso;exact absurd HK.out.symm (by assumption))|(have h16:16=K:=(by assumption);subst h16))
    clear l2 aE zE HK;obtain⟨wd,hwd⟩ : ∃wd,wd=(wr.alloc (.cells #[.int .i64 f.num,.string (S f.name),.int .i64 f.card,.int .i64 f.key,.int .i64 f.tk,.string (S f.tn),.string (S f.un),.bool f.hd,.int .i64 f.df.k,.int .u64 f.df.x,.string (S f.df.t),.slice r1 f.df.n1 d1,.slice r2 f.df.n2 d2,.slice r3 f.df.n3 d3,.slice r4 f.df.n4 d4,.slice r5 f.notes.length d5] 63)).drew:=⟨_,rfl⟩;have HD:=h_ (show ST w _ _ wd by rw [hwd];exact HA.out.belw (Bel.refl _).drew);have HWD:=h_ hwd;clear hwd HA;have SS:=h_ (fun(R:List Row) (X:List Box) (W:World) (hs:ST w R X W) (i:Nat) (hi:X[i]? = some ⟨wr.heap.size,#[.int .i64 f.num,.string (S f.name),.int .i64 f.card,.int .i64 f.key,.int .i64 f.tk,.string (S f.tn),.string (S f.un),.bool f.hd,.int .i64 f.df.k,.int .u64 f.df.x,.string (S f.df.t),.slice r1 f.df.n1 d1,.slice r2 f.df.n2 d2,.slice r3 f.df.n3 d3,.slice r4 f.df.n4 d4,.slice r5 f.notes.length d5],63⟩)=>show W.cell? ⟨wr.heap.size,1,none⟩=some (.string (S f.name))/\W.cell? ⟨wr.heap.size,0,none⟩=some (.int .i64 f.num)/\(∀K:Nat,K=16->Sem.run Tryz.prog (loadCellsFrom ⟨wr.heap.size,0,none⟩ 0 K #[]) W=.ok #[.int .i64 f.num,.string (S f.name),.int .i64 f.card,.int .i64 f.key,.int .i64 f.tk,.string (S f.tn),.string (S f.un),.bool f.hd,.int .i64 f.df.k,.int .u64 f.df.x,.string (S f.df.t),.slice r1 f.df.n1 d1,.slice r2 f.df.n2 d2,.slice r3 f.df.n3 d3,.slice r4 f.df.n4 d4,.slice r5 f.notes.length d5] W)from⟨hs.cell i hi 1,hs.cell i hi 0,hs.load16 i hi rfl⟩);refine qak (fun W=>W.cell? ⟨wr.heap.size,1,none⟩=some (.string (S f.name))/\W.cell? ⟨wr.heap.size,0,none⟩=some (.int .i64 f.num)/\(∀K:Nat,K=16->Sem.run Tryz.prog (loadCellsFrom ⟨wr.heap.size,0,none⟩ 0 K #[]) W=.ok #[.int .i64 f.num,.string (S f.name),.int .i64 f.card,.int .i64 f.key,.int .i64 f.tk,.string (S f.tn),.string (S f.un),.bool f.hd,.int .i64 f.df.k,.int .u64 f.df.x,.string (S f.df.t),.slice r1 f.df.n1 d1,.slice r2 f.df.n2 d2,.slice r3 f.df.n3 d3,.slice r4 f.df.n4 d4,.slice r5 f.notes.length d5] W)) [(0,true),(1,true),(2,true),(4,true),(5,true),(7,true),(8,true),(10,true),(11,true),(3,false),(6,false),(9,false),(12,true),(13,false)] 14 (by kernel_rfl) (by kernel_rfl) HWD.out (SS.out _ _ _ HD.out 0 rfl) ?_;simp only [qb3,List.getElem?_cons_zero,List.getElem?_cons_succ]
    (with_reducible refine qa1 (v:=?vv182) (by with_unfolding_all rfl) (fun W hW=>?hy182) ?hr182);(case hy182=>((try dsimp only at hW);go_simp;(all_goals with_reducible rfl)));(simp only [Act.put,z_1,z_2,z_3])
    (with_reducible refine qa1 (v:=?vv183) (by with_unfolding_all rfl) (fun W hW=>?hy183) ?hr183);(case hy183=>((try dsimp only at hW);go_simp;(all_goals with_reducible rfl)));(simp only [Act.put,z_1,z_2,z_3])
    (with_reducible refine qa1 (v:=?vv184) (by with_unfolding_all rfl) (fun W hW=>?hy184) ?hr184);(case hy184=>((try dsimp only at hW);go_simp;(all_goals with_reducible rfl)));(simp only [Act.put,z_1,z_2,z_3])
    (with_reducible refine qa1 (v:=?vv185) (by with_unfolding_all rfl) (fun W hW=>?hy185) ?hr185);(case hy185=>((try dsimp only at hW);go_simp;(all_goals with_reducible rfl)));(simp only [Act.put,z_1,z_2,z_3])
    (with_reducible refine qa1 (v:=?vv186) (by with_unfolding_all rfl) (fun W hW=>?hy186) ?hr186);(case hy186=>((try dsimp only at hW);go_simp;(all_goals with_reducible rfl)));(simp only [Act.put,z_1,z_2,z_3])
    (with_reducible refine qa1 (v:=?vv187) (by with_unfolding_all rfl) (fun W hW=>?hy187) ?hr187);(case hy187=>((try dsimp only at hW);go_simp;(all_goals with_reducible rfl)));(simp only [Act.put,z_1,z_2,z_3])
    with_reducible refine qa1 (v:=.agg #[.int .i64 f.num,.string (S f.name),.int .i64 f.card,.int .i64 f.key,.int .i64 f.tk,.string (S f.tn),.string (S f.un),.bool f.hd,.int .i64 f.df.k,.int .u64 f.df.x,.string (S f.df.t),.slice r1 f.df.n1 d1,.slice r2 f.df.n2 d2,.slice r3 f.df.n3 d3,.slice r4 f.df.n4 d4,.slice r5 f.notes.length d5]) (by with_unfolding_all rfl) (fun W hW=>?hyl) ?hrl
    case hyl=>exact qgl rfl hW.2.2
    (try simp only [Act.put,z_1,z_2,z_3])
    (with_reducible refine qa1 (v:=?vv188) (by with_unfolding_all rfl) (fun W hW=>?hy188) ?hr188);(case hy188=>((try dsimp only at hW);go_simp;(all_goals with_reducible rfl)));(simp only [Act.put,z_1,z_2,z_3])
    (with_reducible refine qa1 (v:=?vv189) (by with_unfolding_all rfl) (fun W hW=>?hy189) ?hr189);(case hy189=>((try dsimp only at hW);go_simp;(all_goals with_reducible rfl)));(simp only [Act.put,z_1,z_2,z_3])
    with_reducible refine qaj (fun K hK=>?_)
    go_simp
    with_reducible refine(cam.out _ HD.out.bel).mono ?_
    rintro e w1 ⟨rfl,g1⟩;have H1:=h_ (HD.out.belw g1).swapX;refine hK _ _ (SS.out _ _ _ H1.out 1 rfl) ?_;clear hK K g1 HD cam
    (try simp only [Act.put,z_1,z_2,z_3])
    have ADD:=h_ (qeq w _ _ _ _ vn vw (out.map fun x:PMem=>x.name) _ CN f.num w1 H1.out hP (by omega) hol2);rw [HU.out]at ADD
    with_reducible refine qaj (fun K hK=>?_)
    go_simp
    with_reducible refine ADD.out.mono ?_
    rintro e w2 ⟨vn',vw',rfl,h2⟩;have H2:=h_ h2;refine hK _ _ (SS.out _ _ _ H2.out 1 rfl) ?_;clear hK K h2 ADD H1
    (try simp only [Act.put,z_1,z_2,z_3])
    with_reducible refine qaj (fun K hK=>?_)
    go_simp
    with_reducible refine(CE.out _ H2.out.bel).mono ?_
    rintro e w3 ⟨rfl,g3⟩;have H3:=h_ (H2.out.belw g3);refine hK _ _ (SS.out _ _ _ H3.out 1 rfl) ?_;clear hK K g3 H2 CE
    (try simp only [Act.put,z_1,z_2,z_3])
    (with_reducible refine qa1 (v:=?vv190) (by with_unfolding_all rfl) (fun W hW=>?hy190) ?hr190);(case hy190=>((try dsimp only at hW);go_simp;(all_goals with_reducible rfl)));(simp only [Act.put,z_1,z_2,z_3])
    with_reducible refine qaj (fun K hK=>?_)
    go_simp;have H4:=h_ (H3.out.belw ((Bel.refl w3).alloc (.cells #[.string (S U),.string (S E),.int .i64 f.num] 80)))
    refine hK _ _ (SS.out _ _ _ H4.out 1 rfl) ?_;clear hK K H3
    (try simp only [Act.put,z_1,z_2,z_3])
    refine qbm ?_;simp only [t_3,t_4];have hol3:out.length<=2000000:=by omega
    go_wp2_with (at_builtin;refine wpList_append_lies _ rfl _ _ 45 rfl w.heap.size 80 i1 (.agg #[.string ByteArray.empty,.string ByteArray.empty,.int .i64 0]) 3 40 Tryz.underlying45 hi1 hy0 hy1 hy2 rfl (by decide) vo out.length _ rfl (H4.out.row 2 rfl) ⟨w3.heap.size,0,none⟩ 1 1 [.string (S U),.string (S E),.int .i64 f.num] rfl rfl (qaz _ _ _) (by simp [Value.oneCell']) (by decide) (by unfold maxLen;omega) (by omega) H4.out.bel.size (w3.heap.size+1) (by simp) ?_)
    intro g3 cap3 w4 hown hgrow hfr3 hlt2;have H7:=H4.out.grow 2 rfl hgrow hown (qby hfr3 (by simp));have H8:=h_ (H7.swapX.dropbox0);clear H4 H7 hown hgrow hfr3 hlt2 SS;go_wp2;refine⟨⟨k+1,out ++ [⟨U,E,f.num⟩],had,vn',vw',_,_,rfl,rfl,by omega,rfl,h_ (by rw [←qd6];exact H8.out),by simp;omega,by omega,HST2⟩,by simp [intOf];omega⟩
   ·rw [if_neg hu]at hst
    have hue:(S f.un).toList ≠ []:=by rw [ByteArray.toList_eq,qah];exact hu
    have hue2:(S f.un).toList.isEmpty=false:=by rw [qe6];simpa using hu
    have hfb2:=hfb.2;clear hu;have HA:=h_ (hST.addbox #[.int .i64 f.num,.string (S f.name),.int .i64 f.card,.int .i64 f.key,.int .i64 f.tk,.string (S f.tn),.string (S f.un),.bool f.hd,.int .i64 f.df.k,.int .u64 f.df.x,.string (S f.df.t),.slice r1 f.df.n1 d1,.slice r2 f.df.n2 d2,.slice r3 f.df.n3 d3,.slice r4 f.df.n4 d4,.slice r5 f.notes.length d5] 63);have CH:=h_ (fun(_:Unit)=>md_has vh had (S f.un) f.un _ (qd5 (HA.out.row 3 rfl) (by show had.length<=_;omega)) (qah _));by_cases hh:Id.has had f.un=true
    ·rw [if_pos hh]at hst
     rw [hh]at CH;have HST2:=h_ hst;clear hst hST hSH hh
     go_upto_region 9 with(fail)
     all_goals (first|(exfalso;exact absurd HK.out.symm (by assumption))|(have h16:16=K:=(by assumption);subst h16))
     clear l2 aE zE HK
     go_wp2_with (go_at_call 54;(with_reducible refine(CH.out ()).mono ?_);rintro e w1 ⟨rfl,rfl⟩)
     refine⟨⟨k+1,out,had,vn,vw,_,_,rfl,rfl,by omega,rfl,h_ HA.out.dropbox0,by omega,by omega,HST2⟩,by simp [intOf];omega⟩
    ·rw [if_neg hh,qfy]at hst
     have hh2:Id.has had f.un=false:=by simpa using hh
     rw [hh2]at CH;have hol2:(out.map (·.name)).length<=1000000000:=by rw [List.length_map];omega
     have cam:=h_ (fun W (kk:Bel w W)=>qdq (S f.un) f.un W (qah _) (by rw [qai];exact hfb2) (hM.below kk.out));have hcl:=qc0 f.un;have CE:=h_ (fun W (kk:Bel w W)=>qkx g D 2 (m.name ++ 58 :: f.un) W (HNM.out W kk));generalize qcg D 2 (m.name ++ 58 :: f.un)=E at CE hst;generalize Id.camel f.un=CN at cam hcl hst;generalize hU:qbl (out.map (·.name)) CN=U at hst;have HU:=h_ hU;have HST2:=h_ hst;have zm:(S m.name).size=m.name.length:=qai _;have zu:(S f.un).size=f.un.length:=qai _;rw [←qgv]at CE;clear hU hst hST hSH hh hh2
     go_upto_region 9 with(fail)
     all_goals (first|(exfalso;exact absurd HK.out.symm (by assumption))|(have h16:16=K:=(by assumption);subst h16))
     clear l2 aE zE HK
     go_upto_region 10 with(go_at_call 54;(with_reducible refine(CH.out ()).mono ?_);rintro e w1 ⟨rfl,rfl⟩)
     clear CH;generalize hWA:wr.alloc (.cells #[.int .i64 f.num,.string (S f.name),.int .i64 f.card,.int .i64 f.key,.int .i64 f.tk,.string (S f.tn),.string (S f.un),.bool f.hd,.int .i64 f.df.k,.int .u64 f.df.x,.string (S f.df.t),.slice r1 f.df.n1 d1,.slice r2 f.df.n2 d2,.slice r3 f.df.n3 d3,.slice r4 f.df.n4 d4,.slice r5 f.notes.length d5] 63)=wa at HA;clear hWA;have a6:wa.cell? ⟨wr.heap.size,6,none⟩=some (.string (S f.un)):=by rw [HA.out.cell 0 rfl 6];rfl
     have HB:=h_ (HA.out.belw ((Bel.refl wa).alloc (.cells #[.string (S f.un)] 9)));clear HA
     go_wp2_with (at_builtin;refine wpList_append_lies _ rfl _ _ 37 rfl w.heap.size 9 i0 (.string ByteArray.empty) 1 16 Tryz.underlying37 hi hz0 hz1 hz2 rfl (by decide) vh had.length _ rfl (HB.out.row 3 rfl) ⟨wa.heap.size,0,none⟩ 1 1 [.string (S f.un)] rfl rfl (qaz _ _ _) (by simp [Value.oneCell']) (by decide) (by unfold maxLen;omega) (by omega) HB.out.bel.size (wa.heap.size+1) (by simp) ?_)
     intro gh caph wb hown hgrow hfr3 hlt2;have HC:=h_ (HB.out.grow 3 rfl hgrow hown (qby hfr3 (by simp)));clear HB hown hgrow hfr3 hlt2 a6
     go_upto_region 11 with(fail)
     obtain⟨wd,hwd⟩ : ∃wd,wd=wb.drew:=⟨_,rfl⟩;have HD:=h_ (show ST w _ _ wd by rw [hwd];exact HC.out.belw (Bel.refl wb).drew);have HWD:=h_ hwd;clear hwd HC;have a6:wd.cell? ⟨wr.heap.size,6,none⟩=some (.string (S f.un)):=by rw [HD.out.cell 0 rfl 6];rfl
     have a0:wd.cell? ⟨w.heap.size,0,none⟩=some (.string (S m.name)):=by rw [HD.out.cell 2 rfl 0];rfl
     have q1 : ¬(9223372036854775807<(S m.name).size+1):=by rw [zm];omega
     have q2 : ¬(9223372036854775807<(S m.name).size+1+(S f.un).size):=by rw [zm,zu];omega
     clear zm zu;refine qae 10 (by kernel_rfl) (by kernel_rfl) HWD.out ?_
     (simp only [t_1,t_2,t_3,t_4]);(repeat (first|((with_reducible refine wpStill_step (fun K hK=>?_));go_simp;(with_reducible refine hK _ ?_);clear hK K)|((with_reducible refine qaa ?_ ?_);(with_unfolding_all rfl))));(with_reducible refine wpStill_nil ?_)
     go_upto_region 12 with(go_at_call 64;(with_reducible refine(CE.out _ HD.out.bel).mono ?_);rintro e w2 ⟨rfl,g2⟩)
     have H2:=h_ (HD.out.belw g2);clear HD a6 a0 CE;have a6:w2.cell? ⟨wr.heap.size,6,none⟩=some (.string (S f.un)):=by rw [H2.out.cell 0 rfl 6];rfl
     have hol3:out.length<=2000000:=by omega
     go_wp2_with (first
      | (go_at_call 39;(with_reducible refine(cam.out _ H2.out.bel).mono ?_);rintro e w3 ⟨rfl,g3⟩;have H3:=h_ (H2.out.belw g3).swapX;have ADD:=h_ (qeq w _ _ _ _ vn vw (out.map fun x:PMem=>x.name) _ CN (-1) w3 H3.out hP (by omega) hol2);rw [HU.out]at ADD;clear H2 H3 g3 a6)
      | (go_at_call 42;(with_reducible refine ADD.out.mono ?_);rintro e w4 ⟨vn',vw',rfl,h4⟩;have H5:=h_ (h4.belw ((Bel.refl w4).alloc (.cells #[.string (S U),.string (S E),.int .i64 (-1)] 80)));clear h4 ADD)
      | (at_builtin;refine wpList_append_lies _ rfl _ _ 45 rfl w.heap.size 80 i1 (.agg #[.string ByteArray.empty,.string ByteArray.empty,.int .i64 0]) 3 40 Tryz.underlying45 hi1 hy0 hy1 hy2 rfl (by decide) vo out.length _ rfl (H5.out.row 2 rfl) ⟨w4.heap.size,0,none⟩ 1 1 [.string (S U),.string (S E),.int .i64 (-1)] rfl rfl (qaz _ _ _) (by simp [Value.oneCell']) (by decide) (by unfold maxLen;omega) (by omega) H5.out.bel.size (w4.heap.size+1) (by simp) ?_))
     intro g3 cap3 w5 hown hgrow hfr3 hlt2;have H7:=H5.out.grow 2 rfl hgrow hown (qby hfr3 (by simp));have H8:=h_ (H7.swapX.dropbox0);clear H5 H7 hown hgrow hfr3 hlt2;go_wp2;refine⟨⟨k+1,out ++ [⟨U,E, -1⟩],had ++ [f.un],vn',vw',_,_,rfl,rfl,by omega,rfl,h_ (by rw [←qd6,show nmC (had ++ [f.un])=nmC had ++ [.string (S f.un)]by unfold nmC;simp,List.length_append,List.length_singleton];exact H8.out),by simp;omega,by simp;omega,HST2⟩,by simp [intOf];omega⟩
  ·have hkl:k=m.fields.length:=by omega
   have hxe:out=T:=by have:=hx.out;rw [hkl,List.drop_length]at this;exact this
   subst hxe;subst hkl;clear hx V EL;go_wp2;go_ret;exact⟨_,rfl,hST.row 2 rfl,hST.bel⟩
end Go.Proofs.YtfoaaglbpmmhiaaGreatDoor
