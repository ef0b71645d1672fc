import Derived.Test.YtfoaaglbpmmhiaaGreatDoorMdLawC
import Derived.Test.YtfoaaglbpmmhiaaGreatDoorMdOpenU
import Derived.Test.YtfoaaglbpmmhiaaGreatDoorMrEl
set_option maxRecDepth 100000
set_option maxHeartbeats 4000000
set_option linter.unusedVariables false
set_option linter.unusedSimpArgs false
namespace Go.Proofs.YtfoaaglbpmmhiaaGreatDoor
open Go.RowKit Ck Md
theorem ModelMembers_many (sq1 sq2 sq3:Option Addr) (sc1 sc2 sc3:Nat) (s:PSchema) (w:World) (hf : ¬ (s.msgs.length<=8/\s.enums.length<=8/\s.svcs.length<=8)) :
  Calls Tryz.prog 6 #[.agg #[.slice sq1 s.msgs.length sc1,.slice sq2 s.enums.length sc2,.slice sq3 s.svcs.length sc3]] w fun e w' => e=.returned (.bool true)/\Bel w w':=by
 have kw:Bel w (w.alloc (.cells #[.slice sq1 s.msgs.length sc1,.slice sq2 s.enums.length sc2,.slice sq3 s.svcs.length sc3] 26)):=(Bel.refl w).alloc _;have CF:=Lib.hid (law_few sq1 sq2 sq3 s.msgs.length s.enums.length s.svcs.length sc1 sc2 sc3 (w.alloc (.cells #[.slice sq1 s.msgs.length sc1,.slice sq2 s.enums.length sc2,.slice sq3 s.svcs.length sc3] 26)));rw [decide_eq_false hf] at CF;clear hf
 go_enter Tryz.func6,Tryz.ntmps6
 go_wp2_with (go_at_call 10;(with_reducible refine CF.out.mono ?_);rintro e w1 ⟨rfl,k1⟩)
 go_ret
 exact ⟨rfl,(Bel.of kw k1.out).out⟩
theorem ModelMembers_no (sq1 sq2 sq3:Option Addr) (sc1 sc2 sc3:Nat) (s:PSchema) (w:World) (hs:VSchema w [.slice sq1 s.msgs.length sc1,.slice sq2 s.enums.length sc2,.slice sq3 s.svcs.length sc3] s) (hsh:Short s) (hf:s.msgs.length<=8/\s.enums.length<=8/\s.svcs.length<=8) (hV:valid s=false) :
  Calls Tryz.prog 6 #[.agg #[.slice sq1 s.msgs.length sc1,.slice sq2 s.enums.length sc2,.slice sq3 s.svcs.length sc3]] w fun e w' => e=.returned (.bool true)/\Bel w w':=by
 have kw:Bel w (w.alloc (.cells #[.slice sq1 s.msgs.length sc1,.slice sq2 s.enums.length sc2,.slice sq3 s.svcs.length sc3] 26)):=(Bel.refl w).alloc _;have CF:=Lib.hid (law_few sq1 sq2 sq3 s.msgs.length s.enums.length s.svcs.length sc1 sc2 sc3 (w.alloc (.cells #[.slice sq1 s.msgs.length sc1,.slice sq2 s.enums.length sc2,.slice sq3 s.svcs.length sc3] 26)));rw [decide_eq_true hf] at CF;have CR:=Lib.hid (fun W (k:Bel w W) => rk_Valid sq1 sq2 sq3 sc1 sc2 sc3 s W (hs.stays_bel k) hsh);rw [hV] at CR;have HX:=Lib.hid (fun W (k:Bel (w.alloc (.cells #[.slice sq1 s.msgs.length sc1,.slice sq2 s.enums.length sc2,.slice sq3 s.svcs.length sc3] 26)) W) => show W.cell? ⟨w.heap.size,0,none⟩=some (.slice sq1 s.msgs.length sc1)/\W.cell? ⟨w.heap.size,1,none⟩=some (.slice sq2 s.enums.length sc2)/\W.cell? ⟨w.heap.size,2,none⟩=some (.slice sq3 s.svcs.length sc3) from ⟨k.some (by rw [World.cell?_alloc_at _ _ _ _ rfl];rfl),k.some (by rw [World.cell?_alloc_at _ _ _ _ rfl];rfl),k.some (by rw [World.cell?_alloc_at _ _ _ _ rfl];rfl)⟩);clear hf hs hsh hV
 go_enter Tryz.func6,Tryz.ntmps6
 go_wp2_with (first
  | (go_at_call 10;(with_reducible refine CF.out.mono ?_);rintro e w1 ⟨rfl,k1⟩;obtain ⟨x0,x1,x2⟩:=HX.out _ k1)
  | (go_at_call 21;(with_reducible refine (CR.out _ (Bel.of kw k1.out)).mono ?_);rintro e w2 ⟨rfl,k2⟩))
 go_ret
 exact ⟨rfl,(Bel.of (Bel.of kw k1.out).out k2).out⟩
theorem ModelMembers_yes (sq1 sq2 sq3:Option Addr) (sc1 sc2 sc3:Nat) (s:PSchema) (w:World) (hs:VSchema w [.slice sq1 s.msgs.length sc1,.slice sq2 s.enums.length sc2,.slice sq3 s.svcs.length sc3] s) (hP:PT w) (hM:ML w) (hsh:Short s) (hf:s.msgs.length<=8/\s.enums.length<=8/\s.svcs.length<=8) (hV:valid s=true) :
  Calls Tryz.prog 6 #[.agg #[.slice sq1 s.msgs.length sc1,.slice sq2 s.enums.length sc2,.slice sq3 s.svcs.length sc3]] w fun e w' => e=.returned (.bool true)/\Bel w w':=by
 have kw:=Lib.hid (show Bel w (w.alloc (.cells #[.slice sq1 s.msgs.length sc1,.slice sq2 s.enums.length sc2,.slice sq3 s.svcs.length sc3] 26)) from (Bel.refl w).alloc _);have CF:=Lib.hid (law_few sq1 sq2 sq3 s.msgs.length s.enums.length s.svcs.length sc1 sc2 sc3 (w.alloc (.cells #[.slice sq1 s.msgs.length sc1,.slice sq2 s.enums.length sc2,.slice sq3 s.svcs.length sc3] 26)));rw [decide_eq_true hf] at CF;have CR:=Lib.hid (fun W (k:Bel w W) => rk_Valid sq1 sq2 sq3 sc1 sc2 sc3 s W (hs.stays_bel k) hsh);rw [hV] at CR;have CM:=Lib.hid (fun W (k:Bel w W) => (md_Make_yes sq1 sq2 sq3 sc1 sc2 sc3 s W (hs.stays_bel k) (hP.bel k) (hM.below k.out) hsh hV).mono (fun e w' h => made_of h));have HX:=Lib.hid (fun W (k:Bel (w.alloc (.cells #[.slice sq1 s.msgs.length sc1,.slice sq2 s.enums.length sc2,.slice sq3 s.svcs.length sc3] 26)) W) => show W.cell? ⟨w.heap.size,0,none⟩=some (.slice sq1 s.msgs.length sc1)/\W.cell? ⟨w.heap.size,1,none⟩=some (.slice sq2 s.enums.length sc2)/\W.cell? ⟨w.heap.size,2,none⟩=some (.slice sq3 s.svcs.length sc3) from ⟨k.some (by rw [World.cell?_alloc_at _ _ _ _ rfl];rfl),k.some (by rw [World.cell?_alloc_at _ _ _ _ rfl];rfl),k.some (by rw [World.cell?_alloc_at _ _ _ _ rfl];rfl)⟩);have CA:=Lib.hid (fun W (k:Bel w W) => law_awake W (hP.bel k) (hM.below k.out));have HB:=Lib.hid (mb_of hV);have HV:=Lib.hid hV;obtain ⟨hf1,hf2,hf3⟩:=hf;obtain ⟨_,_,_,hcs,hm1,hm2,hm3⟩:=hs;cases hcs;obtain ⟨_,_,hq,hl1,hcap1,hel1⟩:=hm1;cases hq;obtain ⟨_,_,hq,hl2,hcap2,hel2⟩:=hm2;cases hq;obtain ⟨_,_,hq,hl3,hcap3,hel3⟩:=hm3;cases hq;have EM:=Lib.hid hel1;have EE:=Lib.hid hel2;have ES:=Lib.hid hel3;clear hP hM hsh hV hel1 hel2 hel3
 go_enter Tryz.func6,Tryz.ntmps6
 go_upto_region 5 with (first
  | (go_at_call 10;(with_reducible refine CF.out.mono ?_);rintro e w1 ⟨rfl,k1⟩;obtain ⟨x0,x1,x2⟩:=HX.out _ k1)
  | (go_at_call 21;(with_reducible refine (CR.out _ (Bel.of kw.out k1.out)).mono ?_);rintro e w2 ⟨rfl,k2⟩;obtain ⟨x0,x1,x2⟩:=HX.out _ (Bel.of k1 k2))
  | (go_at_call 11;(with_reducible refine (CM.out _ (Bel.of (Bel.of kw.out k1.out) k2)).mono ?_);rintro e w3 ⟨vp,vc,rfl,hD,k3⟩))
 have KV:=Lib.hid (show Bel (w.alloc (.cells #[.slice sq1 s.msgs.length sc1,.slice sq2 s.enums.length sc2,.slice sq3 s.svcs.length sc3] 26)) w3 from (Bel.of (Bel.of k1 k2).out k3.out).out);have KW:=Lib.hid (show Bel w w3 from (Bel.of kw.out KV.out.out).out);have HDL:=Lib.hid hD;have COf:=Lib.hid (fun W (k:Bel w3 W) (f:Str) (d:PDecl) (hd:ofD (make s) f=some d) => (md_Of _ _ f W (hD.bel VDecl.stays k) (make_small HV.out)).mono (fun e w' h => got_of h hd));have COk:=Lib.hid (fun W (k:Bel w3 W) (f:Str) (d:PDecl) (kd:Int) (n:Nat) (hd:ofD (make s) f=some d) (hk:d.kind=kd) (hn:d.mems.length=n) => (md_Of _ _ f W (hD.bel VDecl.stays k) (make_small HV.out)).mono (fun e w' h => gotk_of h hd hk hn));have HX3:=Lib.hid (fun W (k:Bel w3 W) => HX.out W (Bel.of KV.out k.out).out);clear CF CR CM k1 k2 k3 x0 x1 x2 HX kw;have HDW:=Lib.hid (fun W (k:Bel w3 W) => hD.bel VDecl.stays k);have OM:=Lib.hid (fun m (hm:m ∈ s.msgs) => of_msg HV.out hm);have FA:=Lib.hid (fun m (hm:m ∈ s.msgs) => (⟨record_minus HV.out hm,fun f hf => record_num HV.out hm hf,fun f hf => choice_num HV.out hm hf,fun f hf hu => of_union HV.out hm (unions_mem.2 ⟨hu,f,hf,rfl⟩),(HB.out.m m hm).1,fun f hf => ((HB.out.m m hm).2.2 f hf).2⟩:_/\(∀ f ∈ m.fields,_)/\(∀ f ∈ m.fields,_)/\(∀ f ∈ m.fields,f.un ≠ []->_)/\m.name.length<=120/\∀ f ∈ m.fields,f.un.length<=40));have EM1:=Lib.hid (fun tk tn => elementR_make s tk tn);have EM2:=Lib.hid (fun f => typedR_make s f);have LE:=Lib.hid (fun tk tn => elementR_len (declared s) tk tn (fun d hd => Nat.le_trans ((declared_ok HB.out).1 d hd) (by omega)));clear hD HB HV COk;generalize make s=L at *;generalize declared s=D at *;obtain ⟨_,_,hq,_⟩:=HDL.out;cases hq;clear HDL
 go_upto_region 5 with (fail)
 go_loopw [5] (fun i wr => ∃ k:Nat,k<=s.msgs.length/\i=.int .i64 k/\Hid (Bel w3 wr)) (fun i _ => s.msgs.length - (intOf i).toNat)
 case atStart => exact ⟨0,by omega,rfl,Lib.hid (Bel.refl _)⟩
 case round =>
  obtain ⟨k,hk,rfl,hb⟩:=hrel;obtain ⟨x0,x1,x2⟩:=HX3.out _ hb.out;by_cases hlt:k < s.msgs.length
  ·as_aux_lemma =>
   have hki:(k:Int) < (s.msgs.length:Int):=by omega
   have hg:=List.getElem?_eq_getElem hlt;have hmem:=List.getElem_mem hlt;obtain ⟨b,off,hq,hbs,vs,hce,hvs⟩:=EM.out k _ hg;subst hq;obtain ⟨_,_,_,_,hvs1,h1,h2,h3,h4⟩:=hvs;obtain ⟨f1,d1,hf1,_⟩:=sl_form h1;obtain ⟨f2,d2,hf2,_⟩:=sl_form h2;obtain ⟨f3,d3,hf3,_⟩:=sl_form h3;obtain ⟨f4,d4,hf4,_⟩:=sl_form h4;subst hvs1 hf1 hf2 hf3 hf4;obtain ⟨d,hd1,hd2,hd3⟩:=OM.out _ hmem;obtain ⟨fa1,fa2,fa3,fa4,fa5,fa6⟩:=FA.out _ hmem;have CU:=Lib.hid (fun W (kk:Bel w3 W) => law_unions s.msgs[k] f1 f2 f3 f4 (s.msgs[k]).res.length (s.msgs[k]).gone.length (s.msgs[k]).notes.length d1 d2 d3 d4 W (h1.bel VField.stays (Bel.of KW.out kk.out)));have CO:=Lib.hid (fun W (kk:Bel w3 W) => (COf.out W kk _ d hd1).mono (fun e w' h => gotm_of h hd2 hd3));have y : ∀ (i:Nat) (v:Value) (W:World),Bel w3 W->([.string (S (s.msgs[k]).name),.slice f1 (s.msgs[k]).fields.length d1,.slice f2 (s.msgs[k]).res.length d2,.slice f3 (s.msgs[k]).gone.length d3,.slice f4 (s.msgs[k]).notes.length d4]:List Value)[i]? = some v->W.cell? ⟨b,off + k * 5 + i,none⟩=some v:=fun i v W kk h => (Bel.of KW.out kk.out).some (hce i v h)
   have FA1:=Lib.hid fa1;have FA2:=Lib.hid fa2;have FA3:=Lib.hid fa3;have FA4:=Lib.hid fa4;have FA6:=Lib.hid fa6;clear fa1 fa2 fa3 fa4 fa6 hg hmem CA EE ES HX3 OM FA EM hbs hce h2 h3 h4 hd1 hd2 hd3;generalize ucGo none (s.msgs[k]).fields=U at *;generalize record D (s.msgs[k])=MS at *;generalize d.name=DN at *;generalize d.frm=DF at *;generalize s.msgs[k]=m at *;clear d;have y0:=y 0 _ wr hb.out rfl;rw [Nat.add_zero] at y0;have y1:=y 1 _ wr hb.out rfl;have y2:=y 2 _ wr hb.out rfl;have y3:=y 3 _ wr hb.out rfl;have y4:=y 4 _ wr hb.out rfl;clear y
   go_upto_region 8 with (fail)
   clear y0 y1 y2 y3 y4 x0 x1 x2;generalize hW:World.alloc wr _=V4;have hb4:V4.heap[wr.heap.size]? = some (.cells #[Value.string (S m.name),Value.slice f1 m.fields.length d1,Value.slice f2 m.res.length d2,Value.slice f3 m.gone.length d3,Value.slice f4 m.notes.length d4] 44 (0,0)):=by rw [← hW];exact heap_alloc_new _ _
   have j4:=Lib.hid (show Bel wr V4 by rw [← hW];exact (Bel.refl _).alloc _);have HC4:=Lib.hid (fun (W:World) (kk:Bel V4 W) => show W.cell? ⟨wr.heap.size,0,none⟩=some (Value.string (S m.name))/\W.cell? ⟨wr.heap.size,1,none⟩=some (Value.slice f1 m.fields.length d1)/\W.cell? ⟨wr.heap.size,2,none⟩=some (Value.slice f2 m.res.length d2)/\W.cell? ⟨wr.heap.size,3,none⟩=some (Value.slice f3 m.gone.length d3)/\W.cell? ⟨wr.heap.size,4,none⟩=some (Value.slice f4 m.notes.length d4) from ⟨kk.some (Lib.cell_of_heap hb4 0),kk.some (Lib.cell_of_heap hb4 1),kk.some (Lib.cell_of_heap hb4 2),kk.some (Lib.cell_of_heap hb4 3),kk.some (Lib.cell_of_heap hb4 4)⟩);clear hW hb4;generalize wr.heap.size=g4 at HC4 ⊢;have K4:=Lib.hid (show Bel w3 V4 from (Bel.of hb.out j4.out.out).out);obtain ⟨y0,y1,y2,y3,y4⟩:=HC4.out _ (Bel.refl _)
   go_upto_region 9 with (go_at_call 22;(with_reducible refine (CO.out _ K4.out).mono ?_);rintro e w5 ⟨p5,c5,rfl,m5,k5⟩)
   generalize hW:World.alloc w5 _=V5;have hb5:V5.heap[w5.heap.size]? = some (.cells #[Value.int .i64 1,Value.string (S DN),Value.string (S DF),Value.slice p5 MS.length c5] 47 (0,0)):=by rw [← hW];exact heap_alloc_new _ _
   have j5:=Lib.hid (show Bel w5 V5 by rw [← hW];exact (Bel.refl _).alloc _);have HC5:=Lib.hid (fun (W:World) (kk:Bel V5 W) => show W.cell? ⟨w5.heap.size,0,none⟩=some (Value.int .i64 1)/\W.cell? ⟨w5.heap.size,1,none⟩=some (Value.string (S DN))/\W.cell? ⟨w5.heap.size,2,none⟩=some (Value.string (S DF))/\W.cell? ⟨w5.heap.size,3,none⟩=some (Value.slice p5 MS.length c5) from ⟨kk.some (Lib.cell_of_heap hb5 0),kk.some (Lib.cell_of_heap hb5 1),kk.some (Lib.cell_of_heap hb5 2),kk.some (Lib.cell_of_heap hb5 3)⟩);clear hW hb5;generalize w5.heap.size=g5 at HC5 ⊢;have K5:=Lib.hid (show Bel V4 V5 from (Bel.of k5 j5.out.out).out);have M5:=Lib.hid (m5.bel VMem.stays j5.out);clear y0 y1 y2 y3 y4 m5 k5 j5 CO;obtain ⟨N1,T1,hN1⟩ : ∃ n t,memsN (-1) MS=(n,t):=⟨_,_,rfl⟩;have hNU:N1=U:=by have:=FA1.out;rw [hN1] at this;exact this
   subst hNU;have CM:=Lib.hid (law_membersN 1 DN DF MS (-1) N1 T1 p5 c5 V5 M5.out hN1);clear hN1 FA1;obtain ⟨z0,z1,z2,z3⟩:=HC5.out _ (Bel.refl _)
   go_upto_region 10 with (go_at_call 23;(with_reducible refine CM.out.mono ?_);rintro e w6 ⟨rfl,k6⟩)
   have K6:=Lib.hid k6;have K46:=Lib.hid (show Bel V4 w6 from (Bel.of K5.out k6.out).out);have K36:=Lib.hid (show Bel w3 w6 from (Bel.of K4.out K46.out.out).out);obtain ⟨y0,y1,y2,y3,y4⟩:=HC4.out _ K46.out;clear z0 z1 z2 z3 k6 CM
   go_upto_region 13 with (go_at_call 24;(with_reducible refine (CU.out _ K36.out).mono ?_);rintro e w7 ⟨rfl,k7⟩)
   have K7:=Lib.hid (show Bel V5 w7 from (Bel.of K6.out k7.out).out);clear y0 y1 y2 y3 y4 K46 K36 K6 k7 CU;have K35:=Lib.hid (show Bel w3 V5 from (Bel.of K4.out K5.out.out).out);obtain ⟨_,_,hq1,hl1,hcap1,hel1⟩:=h1;cases hq1;have EF:=Lib.hid hel1;clear hel1 K4 j4
   go_loopw [11] (fun i wr => ∃ k:Nat,k<=m.fields.length/\i=.int .i64 k/\Hid (Bel V5 wr)) (fun i _ => m.fields.length - (intOf i).toNat)
   case atStart => exact ⟨0,by omega,rfl,K7⟩
   case round =>
    clear hb K7;obtain ⟨j,hj,rfl,hb⟩:=hrel;obtain ⟨y0,y1,y2,y3,y4⟩:=HC4.out _ (Bel.of K5.out hb.out.out);by_cases hlt2:j < m.fields.length
    ·as_aux_lemma =>
     have hji:(j:Int) < (m.fields.length:Int):=by omega
     have hg2:=List.getElem?_eq_getElem hlt2;have hmem2:=List.getElem_mem hlt2;obtain ⟨fb,fo,hq,hbs,vs,hce,hvs⟩:=EF.out j _ hg2;subst hq;obtain ⟨_,_,hvs1,⟨r1,r2,r3,r4,e1,e2,e3,e4,hvv,_⟩,hnt⟩:=hvs;obtain ⟨r5,e5,hnv,hnl⟩:=sl_form hnt;subst hvs1 hvv hnv;have hR:=FA2.out _ hmem2;have hC:=FA3.out _ hmem2;have hOU:=FA4.out _ hmem2;have hUL:=FA6.out _ hmem2;generalize m.fields[j]=f at *;have K35b:=(show Bel w3 wr from (Bel.of K35.out hb.out.out).out);have aE:=agg_Field;obtain ⟨K,hK⟩ : ∃ K,K=16:=⟨_,rfl⟩;have zE : ∀ w,(Go.sizeOf 63).run Tryz.prog w=.ok K w:=hK ▸ size_Field
     have l2:Sem.run Tryz.prog (loadCellsFrom ⟨fb,fo + j * K,none⟩ 0 K #[]) wr=.ok #[.int .i64 f.num,.string (S f.name),.int .i64 f.card,.int .i64 f.key,.int .i64 f.tk,.string (S f.tn),.string (S f.un),.bool f.hd,.int .i64 f.df.k,.int .u64 f.df.x,.string (S f.df.t),.slice r1 f.df.n1 e1,.slice r2 f.df.n2 e2,.slice r3 f.df.n3 e3,.slice r4 f.df.n4 e4,.slice r5 f.notes.length e5] wr:=run_loadCellsFrom_list Tryz.prog _ _ _ K hK.symm (fun j v hj => by
      rw [hK,Addr.add_lit]
      exact Bel.some (show Bel w wr from (Bel.of KW.out K35b.out).out) (hce j v hj))
     have HK:=Lib.hid hK;clear hK hce hg2 hmem2 hnt hbs FA2 FA3 FA4 FA6 EF
     go_upto_region 16 with (fail)
     all_goals (first | (exfalso;exact absurd HK.out.symm (by assumption)) | (have h16:16=K:=(by assumption);subst h16))
     clear l2 aE zE HK y0 y1 y2 y3 y4 K35b;generalize hW:World.alloc wr _=V6;have hb6:V6.heap[wr.heap.size]? = some (.cells #[.int .i64 f.num,.string (S f.name),.int .i64 f.card,.int .i64 f.key,.int .i64 f.tk,.string (S f.tn),.string (S f.un),.bool f.hd,.int .i64 f.df.k,.int .u64 f.df.x,.string (S f.df.t),.slice r1 f.df.n1 e1,.slice r2 f.df.n2 e2,.slice r3 f.df.n3 e3,.slice r4 f.df.n4 e4,.slice r5 f.notes.length e5] 63 (0,0)):=by rw [← hW];exact heap_alloc_new _ _
     have j6:=Lib.hid (show Bel wr V6 by rw [← hW];exact (Bel.refl _).alloc _);have HC6:=Lib.hid (fun (W:World) (kk:Bel V6 W) => show W.cell? ⟨wr.heap.size,0,none⟩=some (.int .i64 f.num)/\W.cell? ⟨wr.heap.size,4,none⟩=some (.int .i64 f.tk)/\W.cell? ⟨wr.heap.size,5,none⟩=some (.string (S f.tn))/\W.cell? ⟨wr.heap.size,6,none⟩=some (.string (S f.un)) from ⟨kk.some (Lib.cell_of_heap hb6 0),kk.some (Lib.cell_of_heap hb6 4),kk.some (Lib.cell_of_heap hb6 5),kk.some (Lib.cell_of_heap hb6 6)⟩);have LD:=Lib.hid (fun (W:World) (kk:Bel V6 W) (K:Nat) (hK:K=16) => load_box hb6 kk rfl K hK);clear hW hb6;generalize wr.heap.size=g6 at HC6 LD ⊢;have K6:=Lib.hid (show Bel V5 V6 from (Bel.of hb.out j6.out.out).out);have ZZ:=Lib.hid (fun (W:World) (kk:Bel V6 W) => (⟨HC6.out W kk,HC5.out W (Bel.of K6.out kk.out),HC4.out W (Bel.of (Bel.of K5.out K6.out.out) kk.out)⟩:_/\_/\_));clear HC6 HC5 HC4 j6 hb;obtain ⟨⟨a0,a4,a5,a6⟩,⟨z0,z1,z2,z3⟩,y0,y1,y2,y3,y4⟩:=ZZ.out _ (Bel.refl _);by_cases hu:f.un=[]
     ·as_aux_lemma =>
      rw [if_pos hu] at hR;have hue:(S f.un).toList=[]:=by rw [ByteArray.toList_eq,S_list,hu]
      have CM:=Lib.hid (law_membersN 1 DN DF MS f.num 1 _ p5 c5 V6 (M5.out.bel VMem.stays K6.out) hR);have CT:=Lib.hid (fun W (kk:Bel w3 W) => rd_Typed _ L f r1 r2 r3 r4 r5 e1 e2 e3 e4 e5 W (HDW.out W kk) (by rw [EM1.out];exact LE.out _ _));rw [EM2.out f] at CT;clear hR hC hOU hUL hu;generalize typedR D f=TY at *
      go_upto_region 17 with (go_at_call 23;(with_reducible refine CM.out.mono ?_);rintro e w7 ⟨rfl,k7⟩)
      have K7:=Lib.hid k7;clear CM k7 a0 a4 a5 a6 z0 z1 z2 z3 y0 y1 y2 y3 y4;obtain ⟨⟨a0,a4,a5,a6⟩,⟨z0,z1,z2,z3⟩,y0,y1,y2,y3,y4⟩:=ZZ.out _ K7.out;have K37:=Lib.hid (show Bel w3 w7 from (Bel.of (Bel.of K35.out K6.out.out) K7.out.out).out)
      go_upto_region 18 with (fail)
      have aE:=agg_Field;obtain ⟨K,hK⟩ : ∃ K,K=16:=⟨_,rfl⟩;have zE : ∀ w,(Go.sizeOf 63).run Tryz.prog w=.ok K w:=hK ▸ size_Field;have l2:=LD.out w7 K7.out K hK;clear hK LD a0 a4 a5 a6 z0 z1 z2 z3 y0 y1 y2 y3 y4
      go_wp2_with (go_at_call 25;(with_reducible refine (CT.out _ K37.out).mono ?_);rintro e w8 ⟨rfl,k8⟩)
      have hend:=Lib.hid (show Bel V5 w8 from (Bel.of (Bel.of K6.out K7.out.out) k8.out).out)
      go_roundw
      case rel => exact ⟨j + 1,by omega,by go_num,hend⟩
      case measure => simp [intOf];omega
     ·as_aux_lemma =>
      rw [if_neg hu] at hR;have hue:(S f.un).toList ≠ []:=by rw [ByteArray.toList_eq,S_list];exact hu
      have hue2:(S f.un).toList.isEmpty=false:=by rw [ByteArray.toList_eq,S_list];simpa using hu
      obtain ⟨x,ex1,ex2,ex3⟩:=hOU hu;have CM:=Lib.hid (law_membersN 1 DN DF MS f.num 0 _ p5 c5 V6 (M5.out.bel VMem.stays K6.out) hR);have CX:=Lib.hid (fun W (kk:Bel w3 W) => (COf.out W kk _ x ex1).mono (fun e w' h => gotm_of h ex2 ex3));rw [← S_colon] at CX;have CE:=Lib.hid (fun W (kk:Bel w3 W) => rd_Element _ L f.tk f.tn W (HDW.out W kk));rw [EM1.out] at CE;have sm:(S m.name).size=m.name.length:=S_size _;have sf:(S f.un).size=f.un.length:=S_size _;clear hR hOU hu ex1 ex2 ex3 LD;generalize elementR D f.tk f.tn=EL at *;generalize choice D m f.un=MX at *;generalize x.name=XN at *;generalize x.frm=XF at *;clear x
      go_upto_region 17 with (go_at_call 23;(with_reducible refine CM.out.mono ?_);rintro e w7 ⟨rfl,k7⟩)
      have K7:=Lib.hid k7;clear CM k7 a0 a4 a5 a6 z0 z1 z2 z3 y0 y1 y2 y3 y4;obtain ⟨⟨a0,a4,a5,a6⟩,⟨z0,z1,z2,z3⟩,y0,y1,y2,y3,y4⟩:=ZZ.out _ K7.out;have K37:=Lib.hid (show Bel w3 w7 from (Bel.of (Bel.of K35.out K6.out.out) K7.out.out).out)
      go_upto_region 21 with (go_at_call 22;(with_reducible refine (CX.out _ K37.out).mono ?_);rintro e w8 ⟨p8,c8,rfl,m8,k8⟩)
      generalize hW:World.alloc w8 _=V8;have hb8:V8.heap[w8.heap.size]? = some (.cells #[Value.int .i64 2,Value.string (S XN),Value.string (S XF),Value.slice p8 MX.length c8] 47 (0,0)):=by rw [← hW];exact heap_alloc_new _ _
      have j8:=Lib.hid (show Bel w8 V8 by rw [← hW];exact (Bel.refl _).alloc _);have HC8:=Lib.hid (fun (W:World) (kk:Bel V8 W) => show W.cell? ⟨w8.heap.size,0,none⟩=some (Value.int .i64 2)/\W.cell? ⟨w8.heap.size,1,none⟩=some (Value.string (S XN))/\W.cell? ⟨w8.heap.size,2,none⟩=some (Value.string (S XF))/\W.cell? ⟨w8.heap.size,3,none⟩=some (Value.slice p8 MX.length c8) from ⟨kk.some (Lib.cell_of_heap hb8 0),kk.some (Lib.cell_of_heap hb8 1),kk.some (Lib.cell_of_heap hb8 2),kk.some (Lib.cell_of_heap hb8 3)⟩);clear hW hb8;generalize w8.heap.size=g8 at HC8 ⊢;have K68:=Lib.hid (show Bel V6 V8 from (Bel.of (Bel.of K7.out k8.out) j8.out.out).out);have M8:=Lib.hid (m8.bel VMem.stays j8.out);have K38:=Lib.hid (show Bel w3 V8 from (Bel.of (Bel.of K37.out k8.out) j8.out.out).out);clear k8 j8 m8 CX sm sf K37 K7 a0 a4 a5 a6 z0 z1 z2 z3 y0 y1 y2 y3 y4;obtain ⟨⟨a0,a4,a5,a6⟩,⟨z0,z1,z2,z3⟩,y0,y1,y2,y3,y4⟩:=ZZ.out _ K68.out;obtain ⟨b0,b1,b2,b3⟩:=HC8.out _ (Bel.refl _);have CN:=Lib.hid (law_membersN 2 XN XF MX f.num 1 _ p8 c8 V8 M8.out hC);clear hC
      go_upto_region 22 with (go_at_call 23;(with_reducible refine CN.out.mono ?_);rintro e w9 ⟨rfl,k9⟩)
      have K9:=Lib.hid k9;clear CN k9 b0 b1 b2 b3 a0 a4 a5 a6 z0 z1 z2 z3 y0 y1 y2 y3 y4;obtain ⟨⟨a0,a4,a5,a6⟩,⟨z0,z1,z2,z3⟩,y0,y1,y2,y3,y4⟩:=ZZ.out _ (Bel.of K68.out K9.out.out);obtain ⟨b0,b1,b2,b3⟩:=HC8.out _ K9.out;have K39:=Lib.hid (show Bel w3 w9 from (Bel.of K38.out K9.out.out).out)
      go_wp2_with (go_at_call 26;(with_reducible refine (CE.out _ K39.out).mono ?_);rintro e w10 ⟨rfl,k10⟩)
      have hend:=Lib.hid (show Bel V5 w10 from (Bel.of (Bel.of (Bel.of K6.out K68.out.out) K9.out.out) k10.out).out)
      go_roundw
      case rel => exact ⟨j + 1,by omega,by go_num,hend⟩
      case measure => simp [intOf];omega
    ·as_aux_lemma =>
     have hji : ¬ (j:Int) < (m.fields.length:Int):=by omega
     have hend:=Lib.hid (show Bel w3 wr from (Bel.of K35.out hb.out.out).out)
     go_wp2
     go_roundw
     case rel => exact ⟨k + 1,by omega,by go_num,hend⟩
     case measure => simp [intOf];omega
  ·as_aux_lemma =>
   have hki : ¬ (k:Int) < (s.msgs.length:Int):=by omega
   have kend:=Lib.hid (show Bel w wr from (Bel.of KW.out hb.out.out).out);have CE:=Lib.hid (CA.out wr kend.out);clear CA
   go_wp2_with (go_at_call 14;(with_reducible refine CE.out.mono ?_);rintro e w9 ⟨rfl,k9⟩)
   go_ret
   exact ⟨rfl,(Bel.of kend.out k9.out).out⟩
theorem law_ModelMembers (sq1 sq2 sq3:Option Addr) (sc1 sc2 sc3:Nat) (s:PSchema) (w:World) (hs:VSchema w [.slice sq1 s.msgs.length sc1,.slice sq2 s.enums.length sc2,.slice sq3 s.svcs.length sc3] s) (hP:PT w) (hM:ML w) (hQ:QSchema s) :
  Calls Tryz.prog 6 #[.agg #[.slice sq1 s.msgs.length sc1,.slice sq2 s.enums.length sc2,.slice sq3 s.svcs.length sc3]] w fun e w' => e=.returned (.bool true)/\Bel w w':=by
 by_cases hf:s.msgs.length<=8/\s.enums.length<=8/\s.svcs.length<=8
 ·cases hV:valid s with
  | true => exact ModelMembers_yes sq1 sq2 sq3 sc1 sc2 sc3 s w hs hP hM (short_of_q hQ hf) hf hV
  | false => exact ModelMembers_no sq1 sq2 sq3 sc1 sc2 sc3 s w hs (short_of_q hQ hf) hf hV
 ·exact ModelMembers_many sq1 sq2 sq3 sc1 sc2 sc3 s w hf
end Go.Proofs.YtfoaaglbpmmhiaaGreatDoor
