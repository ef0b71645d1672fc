import Derived.Test.YtfoaaglbpmmhiaaGreatDoorMdLawC
import Derived.Test.YtfoaaglbpmmhiaaGreatDoorMdOpenU
import Derived.Test.YtfoaaglbpmmhiaaGreatDoorMrEl
set_option maxRecDepth 100000
set_option maxHeartbeats 4000000
set_option linter.unusedVariables false
set_option linter.unusedSimpArgs false
namespace Go.Proofs.YtfoaaglbpmmhiaaGreatDoor
open Go.RowKit Ck Md
theorem ModelMethods_many (sq1 sq2 sq3:Option Addr) (sc1 sc2 sc3:Nat) (s:PSchema) (w:World) (hf : ¬ (s.msgs.length<=8/\s.enums.length<=8/\s.svcs.length<=8)) :
  Calls Tryz.prog 7 #[.agg #[.slice sq1 s.msgs.length sc1,.slice sq2 s.enums.length sc2,.slice sq3 s.svcs.length sc3]] w fun e w' => e=.returned (.bool true)/\Bel w w':=by
 have kw:Bel w (w.alloc (.cells #[.slice sq1 s.msgs.length sc1,.slice sq2 s.enums.length sc2,.slice sq3 s.svcs.length sc3] 26)):=(Bel.refl w).alloc _;have CF:=Lib.hid (law_few sq1 sq2 sq3 s.msgs.length s.enums.length s.svcs.length sc1 sc2 sc3 (w.alloc (.cells #[.slice sq1 s.msgs.length sc1,.slice sq2 s.enums.length sc2,.slice sq3 s.svcs.length sc3] 26)));rw [decide_eq_false hf] at CF;clear hf
 go_enter Tryz.func7,Tryz.ntmps7
 go_wp2_with (go_at_call 10;(with_reducible refine CF.out.mono ?_);rintro e w1 ⟨rfl,k1⟩)
 go_ret
 exact ⟨rfl,(Bel.of kw k1.out).out⟩
theorem ModelMethods_no (sq1 sq2 sq3:Option Addr) (sc1 sc2 sc3:Nat) (s:PSchema) (w:World) (hs:VSchema w [.slice sq1 s.msgs.length sc1,.slice sq2 s.enums.length sc2,.slice sq3 s.svcs.length sc3] s) (hsh:Short s) (hf:s.msgs.length<=8/\s.enums.length<=8/\s.svcs.length<=8) (hV:valid s=false) :
  Calls Tryz.prog 7 #[.agg #[.slice sq1 s.msgs.length sc1,.slice sq2 s.enums.length sc2,.slice sq3 s.svcs.length sc3]] w fun e w' => e=.returned (.bool true)/\Bel w w':=by
 have kw:Bel w (w.alloc (.cells #[.slice sq1 s.msgs.length sc1,.slice sq2 s.enums.length sc2,.slice sq3 s.svcs.length sc3] 26)):=(Bel.refl w).alloc _;have CF:=Lib.hid (law_few sq1 sq2 sq3 s.msgs.length s.enums.length s.svcs.length sc1 sc2 sc3 (w.alloc (.cells #[.slice sq1 s.msgs.length sc1,.slice sq2 s.enums.length sc2,.slice sq3 s.svcs.length sc3] 26)));rw [decide_eq_true hf] at CF;have CR:=Lib.hid (fun W (k:Bel w W) => rk_Valid sq1 sq2 sq3 sc1 sc2 sc3 s W (hs.stays_bel k) hsh);rw [hV] at CR;have HX:=Lib.hid (fun W (k:Bel (w.alloc (.cells #[.slice sq1 s.msgs.length sc1,.slice sq2 s.enums.length sc2,.slice sq3 s.svcs.length sc3] 26)) W) => show W.cell? ⟨w.heap.size,0,none⟩=some (.slice sq1 s.msgs.length sc1)/\W.cell? ⟨w.heap.size,1,none⟩=some (.slice sq2 s.enums.length sc2)/\W.cell? ⟨w.heap.size,2,none⟩=some (.slice sq3 s.svcs.length sc3) from ⟨k.some (by rw [World.cell?_alloc_at _ _ _ _ rfl];rfl),k.some (by rw [World.cell?_alloc_at _ _ _ _ rfl];rfl),k.some (by rw [World.cell?_alloc_at _ _ _ _ rfl];rfl)⟩);clear hf hs hsh hV
 go_enter Tryz.func7,Tryz.ntmps7
 go_wp2_with (first
  | (go_at_call 10;(with_reducible refine CF.out.mono ?_);rintro e w1 ⟨rfl,k1⟩;obtain ⟨x0,x1,x2⟩:=HX.out _ k1)
  | (go_at_call 21;(with_reducible refine (CR.out _ (Bel.of kw k1.out)).mono ?_);rintro e w2 ⟨rfl,k2⟩))
 go_ret
 exact ⟨rfl,(Bel.of (Bel.of kw k1.out).out k2).out⟩
theorem ModelMethods_yes (sq1 sq2 sq3:Option Addr) (sc1 sc2 sc3:Nat) (s:PSchema) (w:World) (hs:VSchema w [.slice sq1 s.msgs.length sc1,.slice sq2 s.enums.length sc2,.slice sq3 s.svcs.length sc3] s) (hP:PT w) (hM:ML w) (hsh:Short s) (hf:s.msgs.length<=8/\s.enums.length<=8/\s.svcs.length<=8) (hV:valid s=true) :
  Calls Tryz.prog 7 #[.agg #[.slice sq1 s.msgs.length sc1,.slice sq2 s.enums.length sc2,.slice sq3 s.svcs.length sc3]] w fun e w' => e=.returned (.bool true)/\Bel w w':=by
 have kw:=Lib.hid (show Bel w (w.alloc (.cells #[.slice sq1 s.msgs.length sc1,.slice sq2 s.enums.length sc2,.slice sq3 s.svcs.length sc3] 26)) from (Bel.refl w).alloc _);have CF:=Lib.hid (law_few sq1 sq2 sq3 s.msgs.length s.enums.length s.svcs.length sc1 sc2 sc3 (w.alloc (.cells #[.slice sq1 s.msgs.length sc1,.slice sq2 s.enums.length sc2,.slice sq3 s.svcs.length sc3] 26)));rw [decide_eq_true hf] at CF;have CR:=Lib.hid (fun W (k:Bel w W) => rk_Valid sq1 sq2 sq3 sc1 sc2 sc3 s W (hs.stays_bel k) hsh);rw [hV] at CR;have CM:=Lib.hid (fun W (k:Bel w W) => (md_Make_yes sq1 sq2 sq3 sc1 sc2 sc3 s W (hs.stays_bel k) (hP.bel k) (hM.below k.out) hsh hV).mono (fun e w' h => made_of h));have HX:=Lib.hid (fun W (k:Bel (w.alloc (.cells #[.slice sq1 s.msgs.length sc1,.slice sq2 s.enums.length sc2,.slice sq3 s.svcs.length sc3] 26)) W) => show W.cell? ⟨w.heap.size,0,none⟩=some (.slice sq1 s.msgs.length sc1)/\W.cell? ⟨w.heap.size,1,none⟩=some (.slice sq2 s.enums.length sc2)/\W.cell? ⟨w.heap.size,2,none⟩=some (.slice sq3 s.svcs.length sc3) from ⟨k.some (by rw [World.cell?_alloc_at _ _ _ _ rfl];rfl),k.some (by rw [World.cell?_alloc_at _ _ _ _ rfl];rfl),k.some (by rw [World.cell?_alloc_at _ _ _ _ rfl];rfl)⟩);have CA:=Lib.hid (fun W (k:Bel w W) => law_awake W (hP.bel k) (hM.below k.out));have HB:=Lib.hid (mb_of hV);have HV:=Lib.hid hV;obtain ⟨hf1,hf2,hf3⟩:=hf;obtain ⟨_,_,_,hcs,hm1,hm2,hm3⟩:=hs;cases hcs;obtain ⟨_,_,hq,hl1,hcap1,hel1⟩:=hm1;cases hq;obtain ⟨_,_,hq,hl2,hcap2,hel2⟩:=hm2;cases hq;obtain ⟨_,_,hq,hl3,hcap3,hel3⟩:=hm3;cases hq;have EM:=Lib.hid hel1;have EE:=Lib.hid hel2;have ES:=Lib.hid hel3;clear hP hM hsh hV hel1 hel2 hel3
 go_enter Tryz.func7,Tryz.ntmps7
 go_upto_region 5 with (first
  | (go_at_call 10;(with_reducible refine CF.out.mono ?_);rintro e w1 ⟨rfl,k1⟩;obtain ⟨x0,x1,x2⟩:=HX.out _ k1)
  | (go_at_call 21;(with_reducible refine (CR.out _ (Bel.of kw.out k1.out)).mono ?_);rintro e w2 ⟨rfl,k2⟩;obtain ⟨x0,x1,x2⟩:=HX.out _ (Bel.of k1 k2))
  | (go_at_call 11;(with_reducible refine (CM.out _ (Bel.of (Bel.of kw.out k1.out) k2)).mono ?_);rintro e w3 ⟨vp,vc,rfl,hD,k3⟩))
 have KV:=Lib.hid (show Bel (w.alloc (.cells #[.slice sq1 s.msgs.length sc1,.slice sq2 s.enums.length sc2,.slice sq3 s.svcs.length sc3] 26)) w3 from (Bel.of (Bel.of k1 k2).out k3.out).out);have KW:=Lib.hid (show Bel w w3 from (Bel.of kw.out KV.out.out).out);have HDL:=Lib.hid hD;have COf:=Lib.hid (fun W (k:Bel w3 W) (f:Str) (d:PDecl) (hd:ofD (make s) f=some d) => (md_Of _ _ f W (hD.bel VDecl.stays k) (make_small HV.out)).mono (fun e w' h => got_of h hd));have COk:=Lib.hid (fun W (k:Bel w3 W) (f:Str) (d:PDecl) (kd:Int) (n:Nat) (hd:ofD (make s) f=some d) (hk:d.kind=kd) (hn:d.mems.length=n) => (md_Of _ _ f W (hD.bel VDecl.stays k) (make_small HV.out)).mono (fun e w' h => gotk_of h hd hk hn));have HX3:=Lib.hid (fun W (k:Bel w3 W) => HX.out W (Bel.of KV.out k.out).out);clear CF CR CM k1 k2 k3 x0 x1 x2 HX kw;have HDW:=Lib.hid (fun W (k:Bel w3 W) => hD.bel VDecl.stays k);have OS:=Lib.hid (fun v (hv:v ∈ s.svcs) => (⟨of_svc HV.out hv,fun k f hf => client_num HV.out hv hf⟩:_/\∀ (k:Nat) (f:PMeth),v.meths[k]? = some f->_));have OE:=Lib.hid (fun e (he:e ∈ s.enums) => (⟨of_enum HV.out he,fun f hf => items_num HV.out he hf⟩:_/\∀ f ∈ e.items,_));have EC:=Lib.hid (fun x => calledR_make s x);have LZ:=Lib.hid (fun tn => show (ofZ (make s) tn).name.length<=400 by rw [ofZ_name];exact ofZ_len (declared s) tn (declared_ok HB.out).1);clear hD HB HV COk;generalize make s=L at *;generalize declared s=D at *;obtain ⟨_,_,hq,_⟩:=HDL.out;cases hq;clear HDL
 go_upto_region 5 with (fail)
 go_loopw [5] (fun i wr => ∃ k:Nat,k<=s.svcs.length/\i=.int .i64 k/\Hid (Bel w3 wr)) (fun i _ => s.svcs.length - (intOf i).toNat)
 case atStart => exact ⟨0,by omega,rfl,Lib.hid (Bel.refl _)⟩
 case round =>
  obtain ⟨k,hk,rfl,hb⟩:=hrel;obtain ⟨x0,x1,x2⟩:=HX3.out _ hb.out;by_cases hlt:k < s.svcs.length
  ·as_aux_lemma =>
   have hki:(k:Int) < (s.svcs.length:Int):=by omega
   have hg:=List.getElem?_eq_getElem hlt;have hmem:=List.getElem_mem hlt;obtain ⟨b,off,hq,hbs,vs,hce,hvs⟩:=ES.out k _ hg;subst hq;obtain ⟨_,_,hvs1,h1,h2⟩:=hvs;obtain ⟨f1,d1,hf1,_⟩:=sl_form h1;subst hvs1 hf1;obtain ⟨⟨d,hd1,hd2,hd3⟩,hSC⟩:=OS.out _ hmem;have CO:=Lib.hid (fun W (kk:Bel w3 W) => (COf.out W kk _ d hd1).mono (fun e w' h => gotm_of h hd2 hd3));have ED:=Lib.hid (fun (W:World) (kk:Bel w3 W) => (⟨(Bel.of KW.out kk.out).some (by have:=hce 0 (.string (S (s.svcs[k]).name)) rfl;rwa [Nat.add_zero] at this),(Bel.of KW.out kk.out).some (hce 1 _ rfl),HX3.out W kk⟩:(W.cell? ⟨b,off + k * 3,none⟩=some (.string (S (s.svcs[k]).name))/\W.cell? ⟨b,off + k * 3 + 1,none⟩=_/\_)));have HSC:=Lib.hid hSC;clear hSC hg hmem CA EE HX3 OE OS ES hbs hce h2 hd1 hd2 hd3 COf x0 x1 x2;generalize d.name=DN at *;generalize d.frm=DF at *;generalize s.svcs[k]=m at *;clear d;generalize client D m=MS at *;obtain ⟨y0,y1,x0,x1,x2⟩:=ED.out _ hb.out
   go_upto_region 8 with (go_at_call 22;(with_reducible refine (CO.out _ hb.out).mono ?_);rintro e w4 ⟨p4,c4,rfl,m4,k4⟩)
   generalize hW:World.alloc w4 _=V4;have hb4:V4.heap[w4.heap.size]? = some (.cells #[Value.int .i64 4,Value.string (S DN),Value.string (S DF),Value.slice p4 MS.length c4] 47 (0,0)):=by rw [← hW];exact heap_alloc_new _ _
   have j4:=Lib.hid (show Bel w4 V4 by rw [← hW];exact (Bel.refl _).alloc _);have HC4:=Lib.hid (fun (W:World) (kk:Bel V4 W) => show W.cell? ⟨w4.heap.size,0,none⟩=some (Value.int .i64 4)/\W.cell? ⟨w4.heap.size,1,none⟩=some (Value.string (S DN))/\W.cell? ⟨w4.heap.size,2,none⟩=some (Value.string (S DF))/\W.cell? ⟨w4.heap.size,3,none⟩=some (Value.slice p4 MS.length c4) from ⟨kk.some (Lib.cell_of_heap hb4 0),kk.some (Lib.cell_of_heap hb4 1),kk.some (Lib.cell_of_heap hb4 2),kk.some (Lib.cell_of_heap hb4 3)⟩);clear hW hb4;generalize w4.heap.size=g4 at HC4 ⊢;have K4:=Lib.hid (show Bel w3 V4 from (Bel.of (Bel.of hb.out k4.out) j4.out.out).out);have M4:=Lib.hid (m4.bel VMem.stays j4.out);clear y0 y1 x0 x1 x2 m4 k4 j4 CO;obtain ⟨_,_,hq1,hl1,hcap1,hel1⟩:=h1;cases hq1;have EF:=Lib.hid hel1;clear hel1 hb
   go_upto_region 9 with (fail)
   go_loopw [8] (fun i wr => ∃ k:Nat,k<=m.meths.length/\i=.int .i64 k/\Hid (Bel V4 wr)) (fun i _ => m.meths.length - (intOf i).toNat)
   case atStart => exact ⟨0,by omega,rfl,Lib.hid (Bel.refl _)⟩
   case round =>
    obtain ⟨j,hj,rfl,hb⟩:=hrel;have hb3:=Lib.hid (show Bel w3 wr from (Bel.of K4.out hb.out.out).out);obtain ⟨y0,y1,x0,x1,x2⟩:=ED.out _ hb3.out;by_cases hlt2:j < m.meths.length
    ·as_aux_lemma =>
     have hji:(j:Int) < (m.meths.length:Int):=by omega
     have hg2:=List.getElem?_eq_getElem hlt2;obtain ⟨mb,mo,hq,hbs,vs,hce,hvs⟩:=EF.out j _ hg2;subst hq;obtain ⟨_,hvs1,hnt⟩:=hvs;obtain ⟨r5,d5,hnv,_⟩:=sl_form hnt;subst hvs1 hnv;have hS:=HSC.out j _ hg2;have EG:=Lib.hid (fun (W:World) (kk:Bel w3 W) => (⟨(Bel.of KW.out kk.out).some (by have:=hce 0 (.string (S (m.meths[j]).name)) rfl;rwa [Nat.add_zero] at this),(Bel.of KW.out kk.out).some (hce 1 _ rfl),(Bel.of KW.out kk.out).some (hce 2 _ rfl),(Bel.of KW.out kk.out).some (hce 3 _ rfl),(Bel.of KW.out kk.out).some (hce 4 _ rfl)⟩:(W.cell? ⟨mb,mo + j * 5,none⟩=some (.string (S (m.meths[j]).name))/\W.cell? ⟨mb,mo + j * 5 + 1,none⟩=_/\W.cell? ⟨mb,mo + j * 5 + 2,none⟩=_/\W.cell? ⟨mb,mo + j * 5 + 3,none⟩=_/\W.cell? ⟨mb,mo + j * 5 + 4,none⟩=_)));clear hce hg2 hnt hbs HSC EF;generalize m.meths[j]=f at *;have CM:=Lib.hid (law_membersN 4 DN DF MS (j:Int) 1 _ p4 c4 wr (M4.out.bel VMem.stays hb.out) hS);have CK:=Lib.hid (fun W (kk:Bel w3 W) => rd_Called _ L f r5 f.notes.length d5 W (HDW.out W kk) (LZ.out _) (LZ.out _));rw [EC.out f] at CK;clear hS EC LZ;generalize calledR D f=TY at *;obtain ⟨z0,z1,z2,z3⟩:=HC4.out _ hb.out
     go_upto_region 12 with (go_at_call 23;(with_reducible refine CM.out.mono ?_);rintro e w6 ⟨rfl,k6⟩)
     have K6:=Lib.hid (show Bel V4 w6 from (Bel.of hb.out k6.out).out);have K36:=Lib.hid (show Bel w3 w6 from (Bel.of K4.out K6.out.out).out);clear CM k6 z0 z1 z2 z3 y0 y1 x0 x1 x2 hb hb3;obtain ⟨y0,y1,x0,x1,x2⟩:=ED.out _ K36.out;obtain ⟨u0,u1,u2,u3,u4⟩:=EG.out _ K36.out
     go_wp2_with (go_at_call 27;(with_reducible refine (CK.out _ K36.out).mono ?_);rintro e w7 ⟨rfl,k7⟩)
     have hend:=Lib.hid (show Bel V4 w7 from (Bel.of K6.out k7.out).out)
     go_roundw
     case rel => exact ⟨j + 1,by omega,by go_num,hend⟩
     case measure => simp [intOf];omega
    ·as_aux_lemma =>
     have hji : ¬ (j:Int) < (m.meths.length:Int):=by omega
     go_wp2
     go_roundw
     case rel => exact ⟨k + 1,by omega,by go_num,hb3⟩
     case measure => simp [intOf];omega
  ·as_aux_lemma =>
   have hki : ¬ (k:Int) < (s.svcs.length:Int):=by omega
   clear OS ES EC LZ HDW
   go_upto_region 15 with (fail)
   go_loopw [11] (fun i wr => ∃ k:Nat,k<=s.enums.length/\i=.int .i64 k/\Hid (Bel w3 wr)) (fun i _ => s.enums.length - (intOf i).toNat)
   case atStart => exact ⟨0,by omega,rfl,hb⟩
   case round =>
    clear hb x0 x1 x2 hki hk hlt;obtain ⟨k,hk,rfl,hb⟩:=hrel;obtain ⟨x0,x1,x2⟩:=HX3.out _ hb.out;by_cases hlt:k < s.enums.length
    ·as_aux_lemma =>
     have hki:(k:Int) < (s.enums.length:Int):=by omega
     have hg:=List.getElem?_eq_getElem hlt;have hmem:=List.getElem_mem hlt;obtain ⟨b,off,hq,hbs,vs,hce,hvs⟩:=EE.out k _ hg;subst hq;obtain ⟨_,_,_,hvs1,h1,h2,h3⟩:=hvs;obtain ⟨f1,d1,hf1,_⟩:=sl_form h1;subst hvs1 hf1;obtain ⟨⟨d,hd1,hd2,hd3⟩,hSC⟩:=OE.out _ hmem;have CO:=Lib.hid (fun W (kk:Bel w3 W) => (COf.out W kk _ d hd1).mono (fun e w' h => gotm_of h hd2 hd3));have ED:=Lib.hid (fun (W:World) (kk:Bel w3 W) => (⟨(Bel.of KW.out kk.out).some (by have:=hce 0 (.string (S (s.enums[k]).name)) rfl;rwa [Nat.add_zero] at this),(Bel.of KW.out kk.out).some (hce 2 _ rfl),HX3.out W kk⟩:(W.cell? ⟨b,off + k * 5,none⟩=some (.string (S (s.enums[k]).name))/\W.cell? ⟨b,off + k * 5 + 2,none⟩=_/\_)));have HSC:=Lib.hid hSC;clear hSC hg hmem CA HX3 OE EE hbs hce h2 h3 hd1 hd2 hd3 COf x0 x1 x2;generalize d.name=DN at *;generalize d.frm=DF at *;generalize s.enums[k]=m at *;clear d;generalize items m=MS at *;obtain ⟨y0,y1,x0,x1,x2⟩:=ED.out _ hb.out
     go_upto_region 18 with (go_at_call 22;(with_reducible refine (CO.out _ hb.out).mono ?_);rintro e w4 ⟨p4,c4,rfl,m4,k4⟩)
     generalize hW:World.alloc w4 _=V4;have hb4:V4.heap[w4.heap.size]? = some (.cells #[Value.int .i64 3,Value.string (S DN),Value.string (S DF),Value.slice p4 MS.length c4] 47 (0,0)):=by rw [← hW];exact heap_alloc_new _ _
     have j4:=Lib.hid (show Bel w4 V4 by rw [← hW];exact (Bel.refl _).alloc _);have HC4:=Lib.hid (fun (W:World) (kk:Bel V4 W) => show W.cell? ⟨w4.heap.size,0,none⟩=some (Value.int .i64 3)/\W.cell? ⟨w4.heap.size,1,none⟩=some (Value.string (S DN))/\W.cell? ⟨w4.heap.size,2,none⟩=some (Value.string (S DF))/\W.cell? ⟨w4.heap.size,3,none⟩=some (Value.slice p4 MS.length c4) from ⟨kk.some (Lib.cell_of_heap hb4 0),kk.some (Lib.cell_of_heap hb4 1),kk.some (Lib.cell_of_heap hb4 2),kk.some (Lib.cell_of_heap hb4 3)⟩);clear hW hb4;generalize w4.heap.size=g4 at HC4 ⊢;have K4:=Lib.hid (show Bel w3 V4 from (Bel.of (Bel.of hb.out k4.out) j4.out.out).out);have M4:=Lib.hid (m4.bel VMem.stays j4.out);clear y0 y1 x0 x1 x2 m4 k4 j4 CO;obtain ⟨_,_,hq1,hl1,hcap1,hel1⟩:=h1;cases hq1;have EF:=Lib.hid hel1;clear hel1 hb
     go_upto_region 19 with (fail)
     go_loopw [14] (fun i wr => ∃ k:Nat,k<=m.items.length/\i=.int .i64 k/\Hid (Bel V4 wr)) (fun i _ => m.items.length - (intOf i).toNat)
     case atStart => exact ⟨0,by omega,rfl,Lib.hid (Bel.refl _)⟩
     case round =>
      obtain ⟨j,hj,rfl,hb⟩:=hrel;have hb3:=Lib.hid (show Bel w3 wr from (Bel.of K4.out hb.out.out).out);obtain ⟨y0,y1,x0,x1,x2⟩:=ED.out _ hb3.out;by_cases hlt2:j < m.items.length
      ·as_aux_lemma =>
       have hji:(j:Int) < (m.items.length:Int):=by omega
       have hg2:=List.getElem?_eq_getElem hlt2;have hS:=HSC.out _ (List.getElem_mem hlt2);obtain ⟨mb,mo,hq,hbs,vs,hce,hvs⟩:=EF.out j _ hg2;subst hq;obtain ⟨_,hvs1,hnt⟩:=hvs;subst hvs1;have EG:=Lib.hid (fun (W:World) (kk:Bel w3 W) => show W.cell? ⟨mb,mo + j * 3 + 1,none⟩=some (.int .i64 (m.items[j]).num) from (Bel.of KW.out kk.out).some (hce 1 _ rfl));clear hce hg2 hnt hbs HSC EF;generalize m.items[j]=f at *;have CM:=Lib.hid (fun W (kk:Bel V4 W) => law_membersN 3 DN DF MS f.num 1 _ p4 c4 W (M4.out.bel VMem.stays kk) hS)
       go_upto_region 21 with (fail)
       clear hS y0 y1 x0 x1 x2;obtain ⟨wd,hwd⟩ : ∃ wd,wd=wr.drew:=⟨_,rfl⟩;have HD5:=Lib.hid (show Bel V4 wd by rw [hwd];exact hb.out.drew);have HWD:=Lib.hid hwd;clear hwd hb hb3;have SS:=Lib.hid (fun (W:World) (kk:Bel V4 W) => show (W.cell? ⟨g4,0,none⟩=some (.int .i64 3)/\W.cell? ⟨g4,1,none⟩=some (.string (S DN))/\W.cell? ⟨g4,2,none⟩=some (.string (S DF))/\W.cell? ⟨g4,3,none⟩=some (.slice p4 MS.length c4))/\W.cell? ⟨w.heap.size,1,none⟩=some (.slice (some ⟨b,off,none⟩) s.enums.length sc2)/\W.cell? ⟨b,off + k * 5 + 2,none⟩=some (.slice (some ⟨mb,mo,none⟩) m.items.length d1)/\W.cell? ⟨mb,mo + j * 3 + 1,none⟩=some (.int .i64 f.num) from ⟨HC4.out W kk,(ED.out W (Bel.of K4.out kk.out)).2.2.2.1,(ED.out W (Bel.of K4.out kk.out)).2.1,EG.out W (Bel.of K4.out kk.out)⟩);refine region_ord (fun W => (W.cell? ⟨g4,0,none⟩=some (.int .i64 3)/\W.cell? ⟨g4,1,none⟩=some (.string (S DN))/\W.cell? ⟨g4,2,none⟩=some (.string (S DF))/\W.cell? ⟨g4,3,none⟩=some (.slice p4 MS.length c4))/\W.cell? ⟨w.heap.size,1,none⟩=some (.slice (some ⟨b,off,none⟩) s.enums.length sc2)/\W.cell? ⟨b,off + k * 5 + 2,none⟩=some (.slice (some ⟨mb,mo,none⟩) m.items.length d1)/\W.cell? ⟨mb,mo + j * 3 + 1,none⟩=some (.int .i64 f.num)) [(0,true),(1,true),(2,true),(3,true),(4,true),(5,true),(6,true),(7,true),(8,true),(9,true),(10,true),(11,false),(12,true),(13,true),(14,true),(15,true)] 16 (by kernel_rfl) (by kernel_rfl) HWD.out (SS.out _ HD5.out) ?_
       (simp only [pickOps,List.getElem?_cons_zero,List.getElem?_cons_succ])
       (with_reducible refine ord_take (v:=?vv468) (by with_unfolding_all rfl) (fun W hW => ?hy468) ?hr468);(case hy468 => ((try dsimp only at hW);go_simp;(all_goals with_reducible rfl)));(simp only [Act.put,List.setIfInBounds_toArray,List.set_cons_zero,List.set_cons_succ])
       (with_reducible refine ord_take (v:=?vv469) (by with_unfolding_all rfl) (fun W hW => ?hy469) ?hr469);(case hy469 => ((try dsimp only at hW);go_simp;(all_goals with_reducible rfl)));(simp only [Act.put,List.setIfInBounds_toArray,List.set_cons_zero,List.set_cons_succ])
       (with_reducible refine ord_take (v:=?vv470) (by with_unfolding_all rfl) (fun W hW => ?hy470) ?hr470);(case hy470 => ((try dsimp only at hW);go_simp;(all_goals with_reducible rfl)));(simp only [Act.put,List.setIfInBounds_toArray,List.set_cons_zero,List.set_cons_succ])
       (with_reducible refine ord_take (v:=?vv471) (by with_unfolding_all rfl) (fun W hW => ?hy471) ?hr471);(case hy471 => ((try dsimp only at hW);go_simp;(all_goals with_reducible rfl)));(simp only [Act.put,List.setIfInBounds_toArray,List.set_cons_zero,List.set_cons_succ])
       (with_reducible refine ord_take (v:=?vv472) (by with_unfolding_all rfl) (fun W hW => ?hy472) ?hr472);(case hy472 => ((try dsimp only at hW);go_simp;(all_goals with_reducible rfl)));(simp only [Act.put,List.setIfInBounds_toArray,List.set_cons_zero,List.set_cons_succ])
       (with_reducible refine ord_take (v:=?vv473) (by with_unfolding_all rfl) (fun W hW => ?hy473) ?hr473);(case hy473 => ((try dsimp only at hW);go_simp;(all_goals with_reducible rfl)));(simp only [Act.put,List.setIfInBounds_toArray,List.set_cons_zero,List.set_cons_succ])
       (with_reducible refine ord_take (v:=?vv474) (by with_unfolding_all rfl) (fun W hW => ?hy474) ?hr474);(case hy474 => ((try dsimp only at hW);go_simp;(all_goals with_reducible rfl)));(simp only [Act.put,List.setIfInBounds_toArray,List.set_cons_zero,List.set_cons_succ])
       (with_reducible refine ord_take (v:=?vv475) (by with_unfolding_all rfl) (fun W hW => ?hy475) ?hr475);(case hy475 => ((try dsimp only at hW);go_simp;(all_goals with_reducible rfl)));(simp only [Act.put,List.setIfInBounds_toArray,List.set_cons_zero,List.set_cons_succ])
       (with_reducible refine ord_take (v:=?vv476) (by with_unfolding_all rfl) (fun W hW => ?hy476) ?hr476);(case hy476 => ((try dsimp only at hW);go_simp;(all_goals with_reducible rfl)));(simp only [Act.put,List.setIfInBounds_toArray,List.set_cons_zero,List.set_cons_succ])
       (with_reducible refine ord_take (v:=?vv477) (by with_unfolding_all rfl) (fun W hW => ?hy477) ?hr477);(case hy477 => ((try dsimp only at hW);go_simp;(all_goals with_reducible rfl)));(simp only [Act.put,List.setIfInBounds_toArray,List.set_cons_zero,List.set_cons_succ])
       (with_reducible refine ord_take (v:=?vv478) (by with_unfolding_all rfl) (fun W hW => ?hy478) ?hr478);(case hy478 => ((try dsimp only at hW);go_simp;(all_goals with_reducible rfl)));(simp only [Act.put,List.setIfInBounds_toArray,List.set_cons_zero,List.set_cons_succ])
       (with_reducible refine ord_call (fun K hK => ?_))
       go_simp
       (with_reducible refine (CM.out _ HD5.out).mono ?_)
       rintro e w6 ⟨rfl,k6⟩;have H6:=Lib.hid (show Bel V4 w6 from (Bel.of HD5.out k6.out).out);refine hK _ _ (SS.out _ H6.out) ?_;clear hK K k6 CM
       (try simp only [Act.put,List.setIfInBounds_toArray,List.set_cons_zero,List.set_cons_succ])
       (with_reducible refine ord_take (v:=?vv479) (by with_unfolding_all rfl) (fun W hW => ?hy479) ?hr479);(case hy479 => ((try dsimp only at hW);go_simp;(all_goals with_reducible rfl)));(simp only [Act.put,List.setIfInBounds_toArray,List.set_cons_zero,List.set_cons_succ])
       (with_reducible refine ord_take (v:=?vv480) (by with_unfolding_all rfl) (fun W hW => ?hy480) ?hr480);(case hy480 => ((try dsimp only at hW);go_simp;(all_goals with_reducible rfl)));(simp only [Act.put,List.setIfInBounds_toArray,List.set_cons_zero,List.set_cons_succ])
       (with_reducible refine ord_take (v:=?vv481) (by with_unfolding_all rfl) (fun W hW => ?hy481) ?hr481);(case hy481 => ((try dsimp only at hW);go_simp;(all_goals with_reducible rfl)));(simp only [Act.put,List.setIfInBounds_toArray,List.set_cons_zero,List.set_cons_succ])
       (with_reducible refine ord_take (v:=?vv482) (by with_unfolding_all rfl) (fun W hW => ?hy482) ?hr482);(case hy482 => ((try dsimp only at hW);go_simp;(all_goals with_reducible rfl)));(simp only [Act.put,List.setIfInBounds_toArray,List.set_cons_zero,List.set_cons_succ])
       refine ord_nil ?_;simp only [List.drop_succ_cons,List.drop_zero];have hte:(S ([]:Str)).toList=[]:=by rw [ByteArray.toList_eq,S_list]
       have hte2:(S ([]:Str)).toList.isEmpty=true:=by rw [hte];rfl
       go_wp2
       go_roundw
       case rel => exact ⟨j + 1,by omega,by go_num,H6⟩
       case measure => simp [intOf];omega
      ·as_aux_lemma =>
       have hji : ¬ (j:Int) < (m.items.length:Int):=by omega
       go_wp2
       go_roundw
       case rel => exact ⟨k + 1,by omega,by go_num,hb3⟩
       case measure => simp [intOf];omega
    ·as_aux_lemma =>
     have hki : ¬ (k:Int) < (s.enums.length:Int):=by omega
     have kend:=Lib.hid (show Bel w wr from (Bel.of KW.out hb.out.out).out);have CE:=Lib.hid (CA.out wr kend.out);clear CA
     go_wp2_with (go_at_call 14;(with_reducible refine CE.out.mono ?_);rintro e w9 ⟨rfl,k9⟩)
     go_ret
     exact ⟨rfl,(Bel.of kend.out k9.out).out⟩
theorem law_ModelMethods (sq1 sq2 sq3:Option Addr) (sc1 sc2 sc3:Nat) (s:PSchema) (w:World) (hs:VSchema w [.slice sq1 s.msgs.length sc1,.slice sq2 s.enums.length sc2,.slice sq3 s.svcs.length sc3] s) (hP:PT w) (hM:ML w) (hQ:QSchema s) :
  Calls Tryz.prog 7 #[.agg #[.slice sq1 s.msgs.length sc1,.slice sq2 s.enums.length sc2,.slice sq3 s.svcs.length sc3]] w fun e w' => e=.returned (.bool true)/\Bel w w':=by
 by_cases hf:s.msgs.length<=8/\s.enums.length<=8/\s.svcs.length<=8
 ·cases hV:valid s with
  | true => exact ModelMethods_yes sq1 sq2 sq3 sc1 sc2 sc3 s w hs hP hM (short_of_q hQ hf) hf hV
  | false => exact ModelMethods_no sq1 sq2 sq3 sc1 sc2 sc3 s w hs (short_of_q hQ hf) hf hV
 ·exact ModelMethods_many sq1 sq2 sq3 sc1 sc2 sc3 s w hf
end Go.Proofs.YtfoaaglbpmmhiaaGreatDoor
