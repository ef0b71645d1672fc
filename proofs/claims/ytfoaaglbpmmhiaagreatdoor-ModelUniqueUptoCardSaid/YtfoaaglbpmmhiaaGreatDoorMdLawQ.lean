import Derived.Test.YtfoaaglbpmmhiaaGreatDoorMdLawC
import Derived.Test.YtfoaaglbpmmhiaaGreatDoorMdOpenU
set_option maxRecDepth 100000
set_option maxHeartbeats 4000000
set_option linter.unusedVariables false
set_option linter.unusedSimpArgs false
namespace Go.Proofs.YtfoaaglbpmmhiaaGreatDoor
open Go.RowKit Ck Md
theorem ModelUnique_many (sq1 sq2 sq3:Option Addr) (sc1 sc2 sc3:Nat) (s:PSchema) (w:World) (hf : ¬ (s.msgs.length<=8/\s.enums.length<=8/\s.svcs.length<=8)) :
  Calls Tryz.prog 8 #[.agg #[.slice sq1 s.msgs.length sc1,.slice sq2 s.enums.length sc2,.slice sq3 s.svcs.length sc3]] w fun e w' => e=.returned (.bool true)/\Bel w w':=by
 have kw:Bel w (w.alloc (.cells #[.slice sq1 s.msgs.length sc1,.slice sq2 s.enums.length sc2,.slice sq3 s.svcs.length sc3] 26)):=(Bel.refl w).alloc _;have CF:=Lib.hid (law_few sq1 sq2 sq3 s.msgs.length s.enums.length s.svcs.length sc1 sc2 sc3 (w.alloc (.cells #[.slice sq1 s.msgs.length sc1,.slice sq2 s.enums.length sc2,.slice sq3 s.svcs.length sc3] 26)));rw [decide_eq_false hf] at CF;clear hf
 go_enter Tryz.func8,Tryz.ntmps8
 go_wp2_with (go_at_call 10;(with_reducible refine CF.out.mono ?_);rintro e w1 ⟨rfl,k1⟩)
 go_ret
 exact ⟨rfl,(Bel.of kw k1.out).out⟩
theorem ModelUnique_no (sq1 sq2 sq3:Option Addr) (sc1 sc2 sc3:Nat) (s:PSchema) (w:World) (hs:VSchema w [.slice sq1 s.msgs.length sc1,.slice sq2 s.enums.length sc2,.slice sq3 s.svcs.length sc3] s) (hsh:Short s) (hf:s.msgs.length<=8/\s.enums.length<=8/\s.svcs.length<=8) (hV:valid s=false) :
  Calls Tryz.prog 8 #[.agg #[.slice sq1 s.msgs.length sc1,.slice sq2 s.enums.length sc2,.slice sq3 s.svcs.length sc3]] w fun e w' => e=.returned (.bool true)/\Bel w w':=by
 have kw:Bel w (w.alloc (.cells #[.slice sq1 s.msgs.length sc1,.slice sq2 s.enums.length sc2,.slice sq3 s.svcs.length sc3] 26)):=(Bel.refl w).alloc _;have CF:=Lib.hid (law_few sq1 sq2 sq3 s.msgs.length s.enums.length s.svcs.length sc1 sc2 sc3 (w.alloc (.cells #[.slice sq1 s.msgs.length sc1,.slice sq2 s.enums.length sc2,.slice sq3 s.svcs.length sc3] 26)));rw [decide_eq_true hf] at CF;have CR:=Lib.hid (fun W (k:Bel w W) => rk_Valid sq1 sq2 sq3 sc1 sc2 sc3 s W (hs.stays_bel k) hsh);rw [hV] at CR;have HX:=Lib.hid (fun W (k:Bel (w.alloc (.cells #[.slice sq1 s.msgs.length sc1,.slice sq2 s.enums.length sc2,.slice sq3 s.svcs.length sc3] 26)) W) => show W.cell? ⟨w.heap.size,0,none⟩=some (.slice sq1 s.msgs.length sc1)/\W.cell? ⟨w.heap.size,1,none⟩=some (.slice sq2 s.enums.length sc2)/\W.cell? ⟨w.heap.size,2,none⟩=some (.slice sq3 s.svcs.length sc3) from ⟨k.some (by rw [World.cell?_alloc_at _ _ _ _ rfl];rfl),k.some (by rw [World.cell?_alloc_at _ _ _ _ rfl];rfl),k.some (by rw [World.cell?_alloc_at _ _ _ _ rfl];rfl)⟩);clear hf hs hsh hV
 go_enter Tryz.func8,Tryz.ntmps8
 go_wp2_with (first
  | (go_at_call 10;(with_reducible refine CF.out.mono ?_);rintro e w1 ⟨rfl,k1⟩;obtain ⟨x0,x1,x2⟩:=HX.out _ k1)
  | (go_at_call 21;(with_reducible refine (CR.out _ (Bel.of kw k1.out)).mono ?_);rintro e w2 ⟨rfl,k2⟩))
 go_ret
 exact ⟨rfl,(Bel.of (Bel.of kw k1.out).out k2).out⟩
theorem ModelUnique_yes (sq1 sq2 sq3:Option Addr) (sc1 sc2 sc3:Nat) (s:PSchema) (w:World) (hs:VSchema w [.slice sq1 s.msgs.length sc1,.slice sq2 s.enums.length sc2,.slice sq3 s.svcs.length sc3] s) (hP:PT w) (hM:ML w) (hsh:Short s) (hf:s.msgs.length<=8/\s.enums.length<=8/\s.svcs.length<=8) (hV:valid s=true) :
  Calls Tryz.prog 8 #[.agg #[.slice sq1 s.msgs.length sc1,.slice sq2 s.enums.length sc2,.slice sq3 s.svcs.length sc3]] w fun e w' => e=.returned (.bool true)/\Bel w w':=by
 have kw:=Lib.hid (show Bel w (w.alloc (.cells #[.slice sq1 s.msgs.length sc1,.slice sq2 s.enums.length sc2,.slice sq3 s.svcs.length sc3] 26)) from (Bel.refl w).alloc _);have CF:=Lib.hid (law_few sq1 sq2 sq3 s.msgs.length s.enums.length s.svcs.length sc1 sc2 sc3 (w.alloc (.cells #[.slice sq1 s.msgs.length sc1,.slice sq2 s.enums.length sc2,.slice sq3 s.svcs.length sc3] 26)));rw [decide_eq_true hf] at CF;have CR:=Lib.hid (fun W (k:Bel w W) => rk_Valid sq1 sq2 sq3 sc1 sc2 sc3 s W (hs.stays_bel k) hsh);rw [hV] at CR;have CM:=Lib.hid (fun W (k:Bel w W) => (md_Make_yes sq1 sq2 sq3 sc1 sc2 sc3 s W (hs.stays_bel k) (hP.bel k) (hM.below k.out) hsh hV).mono (fun e w' h => made_of h));have HX:=Lib.hid (fun W (k:Bel (w.alloc (.cells #[.slice sq1 s.msgs.length sc1,.slice sq2 s.enums.length sc2,.slice sq3 s.svcs.length sc3] 26)) W) => show W.cell? ⟨w.heap.size,0,none⟩=some (.slice sq1 s.msgs.length sc1)/\W.cell? ⟨w.heap.size,1,none⟩=some (.slice sq2 s.enums.length sc2)/\W.cell? ⟨w.heap.size,2,none⟩=some (.slice sq3 s.svcs.length sc3) from ⟨k.some (by rw [World.cell?_alloc_at _ _ _ _ rfl];rfl),k.some (by rw [World.cell?_alloc_at _ _ _ _ rfl];rfl),k.some (by rw [World.cell?_alloc_at _ _ _ _ rfl];rfl)⟩);have CA:=Lib.hid (fun W (k:Bel w W) => law_awake W (hP.bel k) (hM.below k.out));have HB:=Lib.hid (mb_of hV);have HV:=Lib.hid hV;obtain ⟨hf1,hf2,hf3⟩:=hf;obtain ⟨_,_,_,hcs,hm1,hm2,hm3⟩:=hs;cases hcs;obtain ⟨_,_,hq,hl1,hcap1,hel1⟩:=hm1;cases hq;obtain ⟨_,_,hq,hl2,hcap2,hel2⟩:=hm2;cases hq;obtain ⟨_,_,hq,hl3,hcap3,hel3⟩:=hm3;cases hq;have EM:=Lib.hid hel1;have EE:=Lib.hid hel2;have ES:=Lib.hid hel3;clear hP hM hsh hV hel1 hel2 hel3
 go_enter Tryz.func8,Tryz.ntmps8
 go_upto_region 6 with (first
  | (go_at_call 10;(with_reducible refine CF.out.mono ?_);rintro e w1 ⟨rfl,k1⟩;obtain ⟨x0,x1,x2⟩:=HX.out _ k1)
  | (go_at_call 21;(with_reducible refine (CR.out _ (Bel.of kw.out k1.out)).mono ?_);rintro e w2 ⟨rfl,k2⟩;obtain ⟨x0,x1,x2⟩:=HX.out _ (Bel.of k1 k2))
  | (go_at_call 11;(with_reducible refine (CM.out _ (Bel.of (Bel.of kw.out k1.out) k2)).mono ?_);rintro e w3 ⟨vp,vc,rfl,hD,k3⟩))
 have KV:=Lib.hid (show Bel (w.alloc (.cells #[.slice sq1 s.msgs.length sc1,.slice sq2 s.enums.length sc2,.slice sq3 s.svcs.length sc3] 26)) w3 from (Bel.of (Bel.of k1 k2).out k3.out).out);have KW:=Lib.hid (show Bel w w3 from (Bel.of kw.out KV.out.out).out);have HDL:=Lib.hid hD;have COf:=Lib.hid (fun W (k:Bel w3 W) (f:Str) (d:PDecl) (hd:ofD (make s) f=some d) => (md_Of _ _ f W (hD.bel VDecl.stays k) (make_small HV.out)).mono (fun e w' h => got_of h hd));have COk:=Lib.hid (fun W (k:Bel w3 W) (f:Str) (d:PDecl) (kd:Int) (n:Nat) (hd:ofD (make s) f=some d) (hk:d.kind=kd) (hn:d.mems.length=n) => (md_Of _ _ f W (hD.bel VDecl.stays k) (make_small HV.out)).mono (fun e w' h => gotk_of h hd hk hn));have HX3:=Lib.hid (fun W (k:Bel w3 W) => HX.out W (Bel.of KV.out k.out).out);clear CF CR CM k1 k2 k3 x0 x1 x2 HX kw;have HL1:=Lib.hid (fun d (hd:d ∈ make s) => (⟨find_len hd,of_self HV.out hd,mems_names HV.out d hd⟩:findD (make s) d.name=some d/\ofD (make s) d.frm=some d/\(d.mems.map (·.name)).Nodup));have CFi:=Lib.hid (fun W (k:Bel w3 W) (d:PDecl) (hd:d ∈ make s) => (md_Find _ _ d.name W (hD.bel VDecl.stays k) (make_small HV.out)).mono (fun e w' h => got_of h (HL1.out d hd).1));have HCO:=Lib.hid (make_count HV.out);have OM:=Lib.hid (fun m (hm:m ∈ s.msgs) => (⟨(HB.out.m m hm).2.1,of_msg HV.out hm⟩:m.fields.length<=64/\∃ d,ofD (make s) m.name=some d/\d.kind=1/\d.mems=record (declared s) m));have OE:=Lib.hid (fun e (he:e ∈ s.enums) => (⟨of_enum HV.out he,items_len e⟩:(∃ d,ofD (make s) e.name=some d/\d.kind=3/\d.mems=items e)/\(items e).length=e.items.length));have OS:=Lib.hid (fun v (hv:v ∈ s.svcs) => (⟨of_svc HV.out hv,client_len HV.out hv⟩:(∃ d,ofD (make s) v.name=some d/\d.kind=4/\d.mems=client (declared s) v)/\(client (declared s) v).length=v.meths.length));clear hD HB HV;generalize make s=L at *;obtain ⟨_,_,hq,hLl,hLc,hel⟩:=HDL.out;cases hq;have EL:=Lib.hid hel;clear hel HDL
 go_upto_region 7 with (fail)
 go_loopw [5] (fun i wr => ∃ k:Nat,k<=L.length/\i=.int .i64 k/\Hid (Bel w3 wr)) (fun i _ => L.length - (intOf i).toNat)
 case atStart => exact ⟨0,by omega,rfl,Lib.hid (Bel.refl _)⟩
 case round =>
  obtain ⟨k,hk,rfl,hb⟩:=hrel;by_cases hlt:k < L.length
  ·as_aux_lemma =>
   have hki:(k:Int) < (L.length:Int):=by omega
   have hg:=List.getElem?_eq_getElem hlt;have hmem:=List.getElem_mem hlt;obtain ⟨b,off,hq,hbs,vs,hce,hvs⟩:=EL.out k _ hg;subst hq;obtain ⟨mv,hvs1,hmv⟩:=hvs;subst hvs1;have hms:=Lib.hid hmv;obtain ⟨qm,cm,rfl,_,_,_⟩:=hmv;have C1:=Lib.hid (CFi.out wr hb.out _ hmem);have C2:=Lib.hid (fun W (k:Bel w3 W) => COf.out W k _ _ (HL1.out _ hmem).2.1);have HN:=Lib.hid (HL1.out _ hmem).2.2;clear hg hmem CA EM EE ES HX3 HCO OM OE OS CFi COf COk HL1 hbs EL;generalize L[k]=d at *;have ED:=Lib.hid (fun (W:World) (kk:Bel w3 W) => show W.cell? ⟨b,off + k * 4,none⟩=some (.int .i64 d.kind)/\W.cell? ⟨b,off + k * 4 + 1,none⟩=some (.string (S d.name))/\W.cell? ⟨b,off + k * 4 + 2,none⟩=some (.string (S d.frm))/\W.cell? ⟨b,off + k * 4 + 3,none⟩=some (.slice qm d.mems.length cm) from ⟨kk.some (by have:=hce 0 (.int .i64 d.kind) rfl;rwa [Nat.add_zero] at this),kk.some (hce 1 _ rfl),kk.some (hce 2 _ rfl),kk.some (hce 3 _ rfl)⟩);clear hce;obtain ⟨y0,y1,y2,y3⟩:=ED.out _ hb.out
   go_upto_region 10 with (go_at_call 28;(with_reducible refine C1.out.mono ?_);rintro e w4 ⟨p4,c4,rfl,m4,k4⟩)
   generalize hW:World.alloc w4 _=V4;have hb4:V4.heap[w4.heap.size]? = some (.cells #[.int .i64 d.kind,.string (S d.name),.string (S d.frm),.slice p4 d.mems.length c4] 47 (0,0)):=by rw [← hW];exact heap_alloc_new _ _
   have j4:Bel w4 V4:=by rw [← hW];exact (Bel.refl _).alloc _
   have kk4:=Lib.hid (show Bel wr V4 from (Bel.of k4 j4.out).out);have M4:=Lib.hid (m4.bel VMem.stays j4);have HC4:=Lib.hid (fun (W:World) (k:Bel V4 W) => show W.cell? ⟨w4.heap.size,0,none⟩=some (.int .i64 d.kind)/\W.cell? ⟨w4.heap.size,1,none⟩=some (.string (S d.name))/\W.cell? ⟨w4.heap.size,2,none⟩=some (.string (S d.frm))/\W.cell? ⟨w4.heap.size,3,none⟩=some (.slice p4 d.mems.length c4) from ⟨k.some (Lib.cell_of_heap hb4 0),k.some (Lib.cell_of_heap hb4 1),k.some (Lib.cell_of_heap hb4 2),k.some (Lib.cell_of_heap hb4 3)⟩);clear hW m4 k4 j4 hb4;generalize w4.heap.size=g4 at HC4 ⊢;have kw4:=Lib.hid (show Bel w3 V4 from (Bel.of hb.out kk4.out.out).out);clear y0 y1 y2 y3 C1;obtain ⟨y0,y1,y2,y3⟩:=ED.out _ kw4.out
   go_upto_region 11 with (go_at_call 22;(with_reducible refine (C2.out _ kw4.out).mono ?_);rintro e w5 ⟨p5,c5,rfl,m5,k5⟩)
   generalize hW:World.alloc w5 _=V5;have hb5:V5.heap[w5.heap.size]? = some (.cells #[.int .i64 d.kind,.string (S d.name),.string (S d.frm),.slice p5 d.mems.length c5] 47 (0,0)):=by rw [← hW];exact heap_alloc_new _ _
   have j5:Bel w5 V5:=by rw [← hW];exact (Bel.refl _).alloc _
   have kk5:=Lib.hid (show Bel V4 V5 from (Bel.of k5 j5.out).out);have M5:=Lib.hid (m5.bel VMem.stays j5);have HC5:=Lib.hid (fun (W:World) (k:Bel V5 W) => show W.cell? ⟨w5.heap.size,0,none⟩=some (.int .i64 d.kind)/\W.cell? ⟨w5.heap.size,1,none⟩=some (.string (S d.name))/\W.cell? ⟨w5.heap.size,2,none⟩=some (.string (S d.frm))/\W.cell? ⟨w5.heap.size,3,none⟩=some (.slice p5 d.mems.length c5) from ⟨k.some (Lib.cell_of_heap hb5 0),k.some (Lib.cell_of_heap hb5 1),k.some (Lib.cell_of_heap hb5 2),k.some (Lib.cell_of_heap hb5 3)⟩);clear hW m5 k5 j5 hb5;generalize w5.heap.size=g5 at HC5 ⊢;have kw5:=Lib.hid (show Bel w3 V5 from (Bel.of kw4.out kk5.out.out).out);clear y0 y1 y2 y3 C2;obtain ⟨wd,hwd⟩ : ∃ wd,wd=V5.drew:=⟨_,rfl⟩;have HD5:=Lib.hid (show Bel V5 wd by rw [hwd];exact (Bel.refl _).drew);have HWD:=Lib.hid hwd;clear hwd;have SS:=Lib.hid (fun (W:World) (kk:Bel V5 W) => show (W.cell? ⟨g4,0,none⟩=some (.int .i64 d.kind)/\W.cell? ⟨g4,1,none⟩=some (.string (S d.name))/\W.cell? ⟨g4,2,none⟩=some (.string (S d.frm))/\W.cell? ⟨g4,3,none⟩=some (.slice p4 d.mems.length c4))/\(W.cell? ⟨g5,0,none⟩=some (.int .i64 d.kind)/\W.cell? ⟨g5,1,none⟩=some (.string (S d.name))/\W.cell? ⟨g5,2,none⟩=some (.string (S d.frm))/\W.cell? ⟨g5,3,none⟩=some (.slice p5 d.mems.length c5))/\W.cell? ⟨b,off + k * 4,none⟩=some (.int .i64 d.kind)/\W.cell? ⟨b,off + k * 4 + 1,none⟩=some (.string (S d.name))/\W.cell? ⟨b,off + k * 4 + 2,none⟩=some (.string (S d.frm))/\W.cell? ⟨b,off + k * 4 + 3,none⟩=some (.slice qm d.mems.length cm) from ⟨HC4.out W (Bel.of kk5.out kk.out),HC5.out W kk,ED.out W (Bel.of kw5.out kk.out)⟩);have CS1:=Lib.hid (fun (W:World) (k:Bel V5 W) => sd_same d p4 qm c4 cm W (M4.out.bel VMem.stays (Bel.of kk5.out k.out)) (hms.out.bel VMem.stays (Bel.of kw5.out k.out)));have CS2:=Lib.hid (fun (W:World) (k:Bel V5 W) => sd_same d p5 qm c5 cm W (M5.out.bel VMem.stays k) (hms.out.bel VMem.stays (Bel.of kw5.out k.out)));have CD:=Lib.hid (fun (W:World) (k:Bel V5 W) => law_distinct qm cm d.mems W (hms.out.bel VMem.stays (Bel.of kw5.out k.out)) HN.out);clear M4 M5 hms HC4 HC5 ED kk4 kk5;refine region_ord (fun W => (W.cell? ⟨g4,0,none⟩=some (.int .i64 d.kind)/\W.cell? ⟨g4,1,none⟩=some (.string (S d.name))/\W.cell? ⟨g4,2,none⟩=some (.string (S d.frm))/\W.cell? ⟨g4,3,none⟩=some (.slice p4 d.mems.length c4))/\(W.cell? ⟨g5,0,none⟩=some (.int .i64 d.kind)/\W.cell? ⟨g5,1,none⟩=some (.string (S d.name))/\W.cell? ⟨g5,2,none⟩=some (.string (S d.frm))/\W.cell? ⟨g5,3,none⟩=some (.slice p5 d.mems.length c5))/\W.cell? ⟨b,off + k * 4,none⟩=some (.int .i64 d.kind)/\W.cell? ⟨b,off + k * 4 + 1,none⟩=some (.string (S d.name))/\W.cell? ⟨b,off + k * 4 + 2,none⟩=some (.string (S d.frm))/\W.cell? ⟨b,off + k * 4 + 3,none⟩=some (.slice qm d.mems.length cm)) [(0,true),(1,true),(2,true),(3,true),(4,true),(5,true),(6,true),(7,true),(8,true),(9,true),(10,true),(11,true),(12,false),(13,true),(14,true),(15,true),(16,true),(17,true),(18,true),(19,true),(20,true),(21,false),(22,true),(23,true),(24,true),(25,true),(26,true)] 27 (by kernel_rfl) (by kernel_rfl) HWD.out (SS.out _ HD5.out) ?_
   (simp only [pickOps,List.getElem?_cons_zero,List.getElem?_cons_succ])
   (with_reducible refine ord_take (v:=?vv435) (by with_unfolding_all rfl) (fun W hW => ?hy435) ?hr435);(case hy435 => ((try dsimp only at hW);go_simp;(all_goals with_reducible rfl)));(simp only [Act.put,List.setIfInBounds_toArray,List.set_cons_zero,List.set_cons_succ])
   (with_reducible refine ord_take (v:=?vv436) (by with_unfolding_all rfl) (fun W hW => ?hy436) ?hr436);(case hy436 => ((try dsimp only at hW);go_simp;(all_goals with_reducible rfl)));(simp only [Act.put,List.setIfInBounds_toArray,List.set_cons_zero,List.set_cons_succ])
   (with_reducible refine ord_take (v:=?vv437) (by with_unfolding_all rfl) (fun W hW => ?hy437) ?hr437);(case hy437 => ((try dsimp only at hW);go_simp;(all_goals with_reducible rfl)));(simp only [Act.put,List.setIfInBounds_toArray,List.set_cons_zero,List.set_cons_succ])
   (with_reducible refine ord_take (v:=?vv438) (by with_unfolding_all rfl) (fun W hW => ?hy438) ?hr438);(case hy438 => ((try dsimp only at hW);go_simp;(all_goals with_reducible rfl)));(simp only [Act.put,List.setIfInBounds_toArray,List.set_cons_zero,List.set_cons_succ])
   (with_reducible refine ord_take (v:=?vv439) (by with_unfolding_all rfl) (fun W hW => ?hy439) ?hr439);(case hy439 => ((try dsimp only at hW);go_simp;(all_goals with_reducible rfl)));(simp only [Act.put,List.setIfInBounds_toArray,List.set_cons_zero,List.set_cons_succ])
   (with_reducible refine ord_take (v:=?vv440) (by with_unfolding_all rfl) (fun W hW => ?hy440) ?hr440);(case hy440 => ((try dsimp only at hW);go_simp;(all_goals with_reducible rfl)));(simp only [Act.put,List.setIfInBounds_toArray,List.set_cons_zero,List.set_cons_succ])
   (with_reducible refine ord_take (v:=?vv441) (by with_unfolding_all rfl) (fun W hW => ?hy441) ?hr441);(case hy441 => ((try dsimp only at hW);go_simp;(all_goals with_reducible rfl)));(simp only [Act.put,List.setIfInBounds_toArray,List.set_cons_zero,List.set_cons_succ])
   (with_reducible refine ord_take (v:=?vv442) (by with_unfolding_all rfl) (fun W hW => ?hy442) ?hr442);(case hy442 => ((try dsimp only at hW);go_simp;(all_goals with_reducible rfl)));(simp only [Act.put,List.setIfInBounds_toArray,List.set_cons_zero,List.set_cons_succ])
   (with_reducible refine ord_take (v:=?vv443) (by with_unfolding_all rfl) (fun W hW => ?hy443) ?hr443);(case hy443 => ((try dsimp only at hW);go_simp;(all_goals with_reducible rfl)));(simp only [Act.put,List.setIfInBounds_toArray,List.set_cons_zero,List.set_cons_succ])
   (with_reducible refine ord_take (v:=?vv444) (by with_unfolding_all rfl) (fun W hW => ?hy444) ?hr444);(case hy444 => ((try dsimp only at hW);go_simp;(all_goals with_reducible rfl)));(simp only [Act.put,List.setIfInBounds_toArray,List.set_cons_zero,List.set_cons_succ])
   (with_reducible refine ord_take (v:=?vv445) (by with_unfolding_all rfl) (fun W hW => ?hy445) ?hr445);(case hy445 => ((try dsimp only at hW);go_simp;(all_goals with_reducible rfl)));(simp only [Act.put,List.setIfInBounds_toArray,List.set_cons_zero,List.set_cons_succ])
   (with_reducible refine ord_take (v:=?vv446) (by with_unfolding_all rfl) (fun W hW => ?hy446) ?hr446);(case hy446 => ((try dsimp only at hW);go_simp;(all_goals with_reducible rfl)));(simp only [Act.put,List.setIfInBounds_toArray,List.set_cons_zero,List.set_cons_succ])
   (with_reducible refine ord_call (fun K hK => ?_))
   go_simp
   (with_reducible refine (CS1.out _ HD5.out).mono ?_)
   rintro e w6 ⟨rfl,k6⟩;have H6:=Lib.hid (show Bel V5 w6 from (Bel.of HD5.out k6.out).out);refine hK _ _ (SS.out _ H6.out) ?_;clear hK K k6 CS1
   (try simp only [Act.put,List.setIfInBounds_toArray,List.set_cons_zero,List.set_cons_succ])
   (with_reducible refine ord_take (v:=?vv447) (by with_unfolding_all rfl) (fun W hW => ?hy447) ?hr447);(case hy447 => ((try dsimp only at hW);go_simp;(all_goals with_reducible rfl)));(simp only [Act.put,List.setIfInBounds_toArray,List.set_cons_zero,List.set_cons_succ])
   (with_reducible refine ord_take (v:=?vv448) (by with_unfolding_all rfl) (fun W hW => ?hy448) ?hr448);(case hy448 => ((try dsimp only at hW);go_simp;(all_goals with_reducible rfl)));(simp only [Act.put,List.setIfInBounds_toArray,List.set_cons_zero,List.set_cons_succ])
   (with_reducible refine ord_take (v:=?vv449) (by with_unfolding_all rfl) (fun W hW => ?hy449) ?hr449);(case hy449 => ((try dsimp only at hW);go_simp;(all_goals with_reducible rfl)));(simp only [Act.put,List.setIfInBounds_toArray,List.set_cons_zero,List.set_cons_succ])
   (with_reducible refine ord_take (v:=?vv450) (by with_unfolding_all rfl) (fun W hW => ?hy450) ?hr450);(case hy450 => ((try dsimp only at hW);go_simp;(all_goals with_reducible rfl)));(simp only [Act.put,List.setIfInBounds_toArray,List.set_cons_zero,List.set_cons_succ])
   (with_reducible refine ord_take (v:=?vv451) (by with_unfolding_all rfl) (fun W hW => ?hy451) ?hr451);(case hy451 => ((try dsimp only at hW);go_simp;(all_goals with_reducible rfl)));(simp only [Act.put,List.setIfInBounds_toArray,List.set_cons_zero,List.set_cons_succ])
   (with_reducible refine ord_take (v:=?vv452) (by with_unfolding_all rfl) (fun W hW => ?hy452) ?hr452);(case hy452 => ((try dsimp only at hW);go_simp;(all_goals with_reducible rfl)));(simp only [Act.put,List.setIfInBounds_toArray,List.set_cons_zero,List.set_cons_succ])
   (with_reducible refine ord_take (v:=?vv453) (by with_unfolding_all rfl) (fun W hW => ?hy453) ?hr453);(case hy453 => ((try dsimp only at hW);go_simp;(all_goals with_reducible rfl)));(simp only [Act.put,List.setIfInBounds_toArray,List.set_cons_zero,List.set_cons_succ])
   (with_reducible refine ord_take (v:=?vv454) (by with_unfolding_all rfl) (fun W hW => ?hy454) ?hr454);(case hy454 => ((try dsimp only at hW);go_simp;(all_goals with_reducible rfl)));(simp only [Act.put,List.setIfInBounds_toArray,List.set_cons_zero,List.set_cons_succ])
   (with_reducible refine ord_call (fun K hK => ?_))
   go_simp
   (with_reducible refine (CS2.out _ H6.out).mono ?_)
   rintro e w7 ⟨rfl,k7⟩;have H7:=Lib.hid (show Bel V5 w7 from (Bel.of H6.out k7.out).out);refine hK _ _ (SS.out _ H7.out) ?_;clear hK K k7 CS2
   (try simp only [Act.put,List.setIfInBounds_toArray,List.set_cons_zero,List.set_cons_succ])
   (with_reducible refine ord_take (v:=?vv455) (by with_unfolding_all rfl) (fun W hW => ?hy455) ?hr455);(case hy455 => ((try dsimp only at hW);go_simp;(all_goals with_reducible rfl)));(simp only [Act.put,List.setIfInBounds_toArray,List.set_cons_zero,List.set_cons_succ])
   (with_reducible refine ord_take (v:=?vv456) (by with_unfolding_all rfl) (fun W hW => ?hy456) ?hr456);(case hy456 => ((try dsimp only at hW);go_simp;(all_goals with_reducible rfl)));(simp only [Act.put,List.setIfInBounds_toArray,List.set_cons_zero,List.set_cons_succ])
   (with_reducible refine ord_take (v:=?vv457) (by with_unfolding_all rfl) (fun W hW => ?hy457) ?hr457);(case hy457 => ((try dsimp only at hW);go_simp;(all_goals with_reducible rfl)));(simp only [Act.put,List.setIfInBounds_toArray,List.set_cons_zero,List.set_cons_succ])
   (with_reducible refine ord_take (v:=?vv458) (by with_unfolding_all rfl) (fun W hW => ?hy458) ?hr458);(case hy458 => ((try dsimp only at hW);go_simp;(all_goals with_reducible rfl)));(simp only [Act.put,List.setIfInBounds_toArray,List.set_cons_zero,List.set_cons_succ])
   (with_reducible refine ord_take (v:=?vv459) (by with_unfolding_all rfl) (fun W hW => ?hy459) ?hr459);(case hy459 => ((try dsimp only at hW);go_simp;(all_goals with_reducible rfl)));(simp only [Act.put,List.setIfInBounds_toArray,List.set_cons_zero,List.set_cons_succ])
   refine ord_nil ?_;simp only [List.drop_succ_cons,List.drop_zero];obtain ⟨⟨y0,y1,y2,y3⟩,⟨y4,y5,y6,y7⟩,y8,y9,y10,y11⟩:=SS.out _ H7.out
   go_wp2_with (go_at_call 30;(with_reducible refine (CD.out _ H7.out).mono ?_);rintro e w8 ⟨rfl,k8⟩)
   have hend:=Lib.hid (show Bel w3 w8 from (Bel.of (Bel.of kw5.out H7.out.out).out k8.out).out)
   go_roundw
   case rel => exact ⟨k + 1,by omega,by go_num,hend⟩
   case measure => simp [intOf];omega
  ·as_aux_lemma =>
   have hki : ¬ (k:Int) < (L.length:Int):=by omega
   clear CFi COf HL1 EL;obtain ⟨x0,x1,x2⟩:=HX3.out _ hb.out
   go_upto_region 15 with (fail)
   go_loopw [10,11] (fun nv i wr => ∃ k n:Nat,k<=s.msgs.length/\i=.int .i64 k/\nv=.int .i64 n/\n<=24 + 64 * k/\Hid (Bel w3 wr)/\Hid (n=s.msgs.length + s.enums.length + s.svcs.length + ucSum (s.msgs.take k))) (fun _ i _ => s.msgs.length - (intOf i).toNat)
   case atStart => exact ⟨0,s.msgs.length + s.enums.length + s.svcs.length,by omega,rfl,by go_num,by omega,hb,Lib.hid (by simp [ucSum])⟩
   case round =>
    clear hb x0 x1 x2 hki hk;obtain ⟨k,n,hk,rfl,rfl,hn,hb,hnk⟩:=hrel;obtain ⟨x0,x1,x2⟩:=HX3.out _ hb.out;by_cases hlt:k < s.msgs.length
    ·as_aux_lemma =>
     have hki:(k:Int) < (s.msgs.length:Int):=by omega
     have hg:=List.getElem?_eq_getElem hlt;have hmem:=List.getElem_mem hlt;have hsum:=ucSum_at s.msgs k hlt;obtain ⟨b,off,hq,hbs,vs,hce,hvs⟩:=EM.out k _ hg;subst hq;obtain ⟨_,_,_,_,hvs1,h1,h2,h3,h4⟩:=hvs;obtain ⟨f1,d1,hf1,_⟩:=sl_form h1;obtain ⟨f2,d2,hf2,_⟩:=sl_form h2;obtain ⟨f3,d3,hf3,_⟩:=sl_form h3;obtain ⟨f4,d4,hf4,_⟩:=sl_form h4;subst hvs1 hf1 hf2 hf3 hf4;obtain ⟨hfl,d,hd1,hd2,hd3⟩:=OM.out _ hmem;have hu:=ucGo_le (s.msgs[k]).fields none;have CU:=Lib.hid (fun W (kk:Bel w3 W) => law_unions s.msgs[k] f1 f2 f3 f4 (s.msgs[k]).res.length (s.msgs[k]).gone.length (s.msgs[k]).notes.length d1 d2 d3 d4 W (h1.bel VField.stays (Bel.of KW.out kk.out)));have CO:=Lib.hid (fun W (kk:Bel w3 W) => COk.out W kk _ d 1 _ hd1 hd2 rfl);have ED:=Lib.hid (fun (W:World) (kk:Bel w3 W) => (⟨(Bel.of KW.out kk.out).some (by have:=hce 0 (.string (S (s.msgs[k]).name)) rfl;rwa [Nat.add_zero] at this),(Bel.of KW.out kk.out).some (hce 1 _ rfl),(Bel.of KW.out kk.out).some (hce 2 _ rfl),(Bel.of KW.out kk.out).some (hce 3 _ rfl),(Bel.of KW.out kk.out).some (hce 4 _ rfl),HX3.out W kk⟩:(W.cell? ⟨b,off + k * 5,none⟩=some (.string (S (s.msgs[k]).name))/\W.cell? ⟨b,off + k * 5 + 1,none⟩=_/\W.cell? ⟨b,off + k * 5 + 2,none⟩=_/\W.cell? ⟨b,off + k * 5 + 3,none⟩=_/\W.cell? ⟨b,off + k * 5 + 4,none⟩=_/\_)));clear hg hmem CA EE ES HX3 HCO OM OE OS COk EM hbs hce h1 h2 h3 h4 hd1 hd2 hd3 x0 x1 x2;have hstep:=Lib.hid (show n + ucGo none (s.msgs[k]).fields=s.msgs.length + s.enums.length + s.svcs.length + ucSum (s.msgs.take (k + 1)) by rw [hsum,hnk.out];omega);clear hsum hnk;generalize ucGo none (s.msgs[k]).fields=U at *;generalize d.mems.length=DL at *;generalize d.name=DN at *;generalize d.frm=DF at *;generalize s.msgs[k]=m at *;obtain ⟨y0,y1,y2,y3,y4,x0,x1,x2⟩:=ED.out _ hb.out
     go_upto_region 18 with (go_at_call 24;(with_reducible refine (CU.out _ hb.out).mono ?_);rintro e w4 ⟨rfl,k4⟩)
     have H4:=Lib.hid (show Bel w3 w4 from (Bel.of hb.out k4.out).out);clear y0 y1 y2 y3 y4 x0 x1 x2 k4 CU hb;obtain ⟨y0,y1,y2,y3,y4,x0,x1,x2⟩:=ED.out _ H4.out
     go_wp2_with (go_at_call 22;(with_reducible refine (CO.out _ H4.out).mono ?_);rintro e w5 ⟨p5,c5,rfl,k5⟩)
     have hend:=Lib.hid (show Bel w3 _ from ((Bel.of H4.out k5.out).alloc (.cells #[.int .i64 1,.string (S DN),.string (S DF),.slice p5 DL c5] 47)))
     go_roundw
     case rel => exact ⟨k + 1,n + U,by omega,by go_num,by go_num,by omega,hend,hstep⟩
     case measure => simp [intOf];omega
    ·as_aux_lemma =>
     have hki : ¬ (k:Int) < (s.msgs.length:Int):=by omega
     have HNL:=Lib.hid (show n=L.length by rw [HCO.out,hnk.out,List.take_of_length_le (by omega)]);clear hnk OM EM HCO
     go_upto_region 22 with (fail)
     go_loopw [14] (fun i wr => ∃ k:Nat,k<=s.enums.length/\i=.int .i64 k/\Hid (Bel w3 wr)) (fun i _ => s.enums.length - (intOf i).toNat)
     case atStart => exact ⟨0,by omega,rfl,hb⟩
     case round =>
      clear hb x0 x1 x2 hki hk hlt;obtain ⟨k,hk,rfl,hb⟩:=hrel;obtain ⟨x0,x1,x2⟩:=HX3.out _ hb.out;by_cases hlt:k < s.enums.length
      ·as_aux_lemma =>
       have hki:(k:Int) < (s.enums.length:Int):=by omega
       have hg:=List.getElem?_eq_getElem hlt;have hmem:=List.getElem_mem hlt;obtain ⟨b,off,hq,hbs,vs,hce,hvs⟩:=EE.out k _ hg;subst hq;obtain ⟨_,_,_,hvs1,h1,h2,h3⟩:=hvs;obtain ⟨f1,d1,hf1,hn1⟩:=sl_form h1;subst hvs1 hf1;obtain ⟨⟨d,hd1,hd2,hd3⟩,hd4⟩:=OE.out _ hmem;have CO:=Lib.hid (fun W (kk:Bel w3 W) => COk.out W kk _ d 3 _ hd1 hd2 (show d.mems.length=(s.enums[k]).items.length by rw [hd3,hd4]));have ED:=Lib.hid (fun (W:World) (kk:Bel w3 W) => (⟨(Bel.of KW.out kk.out).some (by have:=hce 0 (.string (S (s.enums[k]).name)) rfl;rwa [Nat.add_zero] at this),(Bel.of KW.out kk.out).some (hce 2 _ rfl),HX3.out W kk⟩:(W.cell? ⟨b,off + k * 5,none⟩=some (.string (S (s.enums[k]).name))/\W.cell? ⟨b,off + k * 5 + 2,none⟩=_/\_)));clear hg hmem CA ES HX3 OE OS COk EE hbs hce h1 h2 h3 hd1 hd2 hd3 hd4 x0 x1 x2;generalize d.name=DN at *;generalize d.frm=DF at *;generalize s.enums[k]=m at *;obtain ⟨y0,y1,x0,x1,x2⟩:=ED.out _ hb.out
       go_upto_region 25 with (go_at_call 22;(with_reducible refine (CO.out _ hb.out).mono ?_);rintro e w5 ⟨p5,c5,rfl,k5⟩)
       have hb5:(w5.alloc (.cells #[.int .i64 3,.string (S DN),.string (S DF),.slice p5 m.items.length c5] 47)).heap[w5.heap.size]? = some (.cells #[.int .i64 3,.string (S DN),.string (S DF),.slice p5 m.items.length c5] 47 (0,0)):=heap_alloc_new _ _;have H5:=Lib.hid (show Bel w3 (w5.alloc (.cells #[.int .i64 3,.string (S DN),.string (S DF),.slice p5 m.items.length c5] 47)) from (Bel.of hb.out k5.out).alloc _);generalize w5.alloc (.cells #[.int .i64 3,.string (S DN),.string (S DF),.slice p5 m.items.length c5] 47)=V5 at hb5 H5 ⊢;generalize w5.heap.size=g5 at hb5 ⊢;clear y0 y1 x0 x1 x2 k5 hb CO;obtain ⟨wd,hwd⟩ : ∃ wd,wd=V5.drew:=⟨_,rfl⟩;have HD5:=Lib.hid (show Bel w3 wd by rw [hwd];exact H5.out.drew);have z0:wd.cell? ⟨g5,0,none⟩=some (.int .i64 3):=by rw [hwd];exact Lib.cell_of_heap hb5 0
       have z3:wd.cell? ⟨g5,3,none⟩=some (.slice p5 m.items.length c5):=by rw [hwd];exact Lib.cell_of_heap hb5 3
       have HWD:=Lib.hid hwd;clear hwd hb5;obtain ⟨y0,y1,x0,x1,x2⟩:=ED.out _ HD5.out;refine rg_tail 18 (by kernel_rfl) (by kernel_rfl) HWD.out ?_
       (simp only [List.take_succ_cons,List.take_zero,List.drop_succ_cons,List.drop_zero]);(repeat (first | ((with_reducible refine wpStill_step (fun K hK => ?_));go_simp;(with_reducible refine hK _ ?_);clear hK K) | ((with_reducible refine rg_skip ?_ ?_);(with_unfolding_all rfl))));(with_reducible refine wpStill_nil ?_)
       go_wp2
       go_roundw
       case rel => exact ⟨k + 1,by omega,by go_num,HD5⟩
       case measure => simp [intOf];omega
      ·as_aux_lemma =>
       have hki : ¬ (k:Int) < (s.enums.length:Int):=by omega
       clear OE EE
       go_upto_region 28 with (fail)
       go_loopw [17] (fun i wr => ∃ k:Nat,k<=s.svcs.length/\i=.int .i64 k/\Hid (Bel w3 wr)) (fun i _ => s.svcs.length - (intOf i).toNat)
       case atStart => exact ⟨0,by omega,rfl,hb⟩
       case round =>
        clear hb x0 x1 x2 hki hk hlt;obtain ⟨k,hk,rfl,hb⟩:=hrel;obtain ⟨x0,x1,x2⟩:=HX3.out _ hb.out;by_cases hlt:k < s.svcs.length
        ·as_aux_lemma =>
         have hki:(k:Int) < (s.svcs.length:Int):=by omega
         have hg:=List.getElem?_eq_getElem hlt;have hmem:=List.getElem_mem hlt;obtain ⟨b,off,hq,hbs,vs,hce,hvs⟩:=ES.out k _ hg;subst hq;obtain ⟨_,_,hvs1,h1,h2⟩:=hvs;obtain ⟨f1,d1,hf1,hn1⟩:=sl_form h1;subst hvs1 hf1;obtain ⟨⟨d,hd1,hd2,hd3⟩,hd4⟩:=OS.out _ hmem;have CO:=Lib.hid (fun W (kk:Bel w3 W) => COk.out W kk _ d 4 _ hd1 hd2 (show d.mems.length=(s.svcs[k]).meths.length by rw [hd3,hd4]));have ED:=Lib.hid (fun (W:World) (kk:Bel w3 W) => (⟨(Bel.of KW.out kk.out).some (by have:=hce 0 (.string (S (s.svcs[k]).name)) rfl;rwa [Nat.add_zero] at this),(Bel.of KW.out kk.out).some (hce 1 _ rfl),HX3.out W kk⟩:(W.cell? ⟨b,off + k * 3,none⟩=some (.string (S (s.svcs[k]).name))/\W.cell? ⟨b,off + k * 3 + 1,none⟩=_/\_)));clear hg hmem CA HX3 OS COk ES hbs hce h1 h2 hd1 hd2 hd3 hd4 x0 x1 x2;generalize d.name=DN at *;generalize d.frm=DF at *;generalize s.svcs[k]=m at *;obtain ⟨y0,y1,x0,x1,x2⟩:=ED.out _ hb.out
         go_upto_region 31 with (go_at_call 22;(with_reducible refine (CO.out _ hb.out).mono ?_);rintro e w5 ⟨p5,c5,rfl,k5⟩)
         have hb5:(w5.alloc (.cells #[.int .i64 4,.string (S DN),.string (S DF),.slice p5 m.meths.length c5] 47)).heap[w5.heap.size]? = some (.cells #[.int .i64 4,.string (S DN),.string (S DF),.slice p5 m.meths.length c5] 47 (0,0)):=heap_alloc_new _ _;have H5:=Lib.hid (show Bel w3 (w5.alloc (.cells #[.int .i64 4,.string (S DN),.string (S DF),.slice p5 m.meths.length c5] 47)) from (Bel.of hb.out k5.out).alloc _);generalize w5.alloc (.cells #[.int .i64 4,.string (S DN),.string (S DF),.slice p5 m.meths.length c5] 47)=V5 at hb5 H5 ⊢;generalize w5.heap.size=g5 at hb5 ⊢;clear y0 y1 x0 x1 x2 k5 hb CO;obtain ⟨wd,hwd⟩ : ∃ wd,wd=V5.drew:=⟨_,rfl⟩;have HD5:=Lib.hid (show Bel w3 wd by rw [hwd];exact H5.out.drew);have z0:wd.cell? ⟨g5,0,none⟩=some (.int .i64 4):=by rw [hwd];exact Lib.cell_of_heap hb5 0
         have z3:wd.cell? ⟨g5,3,none⟩=some (.slice p5 m.meths.length c5):=by rw [hwd];exact Lib.cell_of_heap hb5 3
         have HWD:=Lib.hid hwd;clear hwd hb5;obtain ⟨y0,y1,x0,x1,x2⟩:=ED.out _ HD5.out;refine rg_tail 18 (by kernel_rfl) (by kernel_rfl) HWD.out ?_
         (simp only [List.take_succ_cons,List.take_zero,List.drop_succ_cons,List.drop_zero]);(repeat (first | ((with_reducible refine wpStill_step (fun K hK => ?_));go_simp;(with_reducible refine hK _ ?_);clear hK K) | ((with_reducible refine rg_skip ?_ ?_);(with_unfolding_all rfl))));(with_reducible refine wpStill_nil ?_)
         go_wp2
         go_roundw
         case rel => exact ⟨k + 1,by omega,by go_num,HD5⟩
         case measure => simp [intOf];omega
        ·as_aux_lemma =>
         have hki : ¬ (k:Int) < (s.svcs.length:Int):=by omega
         have hnl:=HNL.out;subst hnl;clear HNL OS ES;have kend:=Lib.hid (show Bel w wr from (Bel.of KW.out hb.out.out).out);have CE:=Lib.hid (CA.out wr kend.out);clear CA
         go_wp2_with (go_at_call 14;(with_reducible refine CE.out.mono ?_);rintro e w9 ⟨rfl,k9⟩)
         go_ret
         exact ⟨rfl,(Bel.of kend.out k9.out).out⟩
theorem law_ModelUnique (sq1 sq2 sq3:Option Addr) (sc1 sc2 sc3:Nat) (s:PSchema) (w:World) (hs:VSchema w [.slice sq1 s.msgs.length sc1,.slice sq2 s.enums.length sc2,.slice sq3 s.svcs.length sc3] s) (hP:PT w) (hM:ML w) (hQ:QSchema s) :
  Calls Tryz.prog 8 #[.agg #[.slice sq1 s.msgs.length sc1,.slice sq2 s.enums.length sc2,.slice sq3 s.svcs.length sc3]] w fun e w' => e=.returned (.bool true)/\Bel w w':=by
 by_cases hf:s.msgs.length<=8/\s.enums.length<=8/\s.svcs.length<=8
 ·cases hV:valid s with
  | true => exact ModelUnique_yes sq1 sq2 sq3 sc1 sc2 sc3 s w hs hP hM (short_of_q hQ hf) hf hV
  | false => exact ModelUnique_no sq1 sq2 sq3 sc1 sc2 sc3 s w hs (short_of_q hQ hf) hf hV
 ·exact ModelUnique_many sq1 sq2 sq3 sc1 sc2 sc3 s w hf
end Go.Proofs.YtfoaaglbpmmhiaaGreatDoor
