import Derived.Test.YtaaneecceiefoaaGreatDoorRkE
import Derived.Test.YtaaneecceiefoaaGreatDoorRkN
import Derived.Test.YtaaneecceiefoaaGreatDoorMaVM
import Derived.Deep.DeepCutAuto
set_option maxRecDepth 100000
set_option maxHeartbeats 4000000
set_option linter.unusedVariables false
set_option linter.unusedSimpArgs false
namespace Go.Proofs.YtaaneecceiefoaaGreatDoor
open Go.RowKit Ck
theorem RS.withb {w0:World} {fb:Nat} {d:Str} {w:World} {bl:List (Nat × Array Value × TypeId)} {N:Nat} {ps:List PProb} {wx:World} (h:RS w0 fb d w bl N ps wx) {g:Nat} {cs:Array Value} {T:TypeId} (hg:wx.heap[g]? = some (.cells cs T (0,0))) (hne:g ≠ fb) (hT:T ≠ 153):RS w0 fb d w ((g,cs,T) :: bl) N ps wx:=by
 refine⟨h.1,h.2.1,h.2.2.1,h.2.2.2.1,fun b hb=>?_⟩;rcases List.mem_cons.1 hb with rfl|hb
 ·exact⟨hg,hne,hT⟩
 ·exact h.2.2.2.2 b hb
theorem RS.grown {w0:World} {fb:Nat} {d:Str} {w:World} {bl:List (Nat × Array Value × TypeId)} {N:Nat} {ps:List PProb} {wx w2:World} {v:Value} (h:RS w0 fb d w bl N ps wx) (hv:wx.cell? ⟨fb,1,none⟩=some v) (hg:wx.grownBy w2 v.ownBlock):Bel w0 w2:=by
 obtain⟨⟨hB,v',hb,hown',hne⟩,h2,_⟩:=h
 have hvv:v'=v:=by
  rw [Lib.cell_of_heap hb]at hv
  simpa using hv
 subst hvv;exact Below.grown h2 hg h2.size (fun k hk=>(hown'.lt k hk).1)
theorem meet_comm (a b:List Str):a.any (fun x=>Id.has b x)=meet b a:=by
 unfold meet Id.has;rw [Bool.eq_iff_iff,List.any_eq_true,List.any_eq_true];constructor
 ·rintro ⟨x,h1,h2⟩;exact⟨x,of_decide_eq_true h2,decide_eq_true h1⟩
 ·rintro ⟨x,h1,h2⟩;exact⟨x,of_decide_eq_true h2,decide_eq_true h1⟩
theorem rk_All (sq1 sq2 sq3:Option Addr) (sc1 sc2 sc3:Nat) (s:PSchema) (w:World) (hs:VSchema w [.slice sq1 s.msgs.length sc1,.slice sq2 s.enums.length sc2,.slice sq3 s.svcs.length sc3] s) (hsh:Short s) :
  Calls Tryz.prog 53 #[.agg #[.slice sq1 s.msgs.length sc1,.slice sq2 s.enums.length sc2,.slice sq3 s.svcs.length sc3]] w (qhg w (all s)):=by
 have hs0:=hs;obtain⟨_,_,_,hcs,hm1,hm2,hm3⟩:=hs;cases hcs;obtain⟨hsm,hse,hsv,⟨hlen,hle2,hle3⟩,hall⟩:=hsh;have hle1:s.msgs.length<=1000000000:=by omega
 have hC0 : ∀W,Bel w W->Calls Tryz.prog 69 #[.agg #[.slice sq1 s.msgs.length sc1,.slice sq2 s.enums.length sc2,.slice sq3 s.svcs.length sc3],.int .i64 1] W (qdh W (s.msgs.map (·.name))):=fun W k=>qp4 sq1 sq2 sq3 sc1 sc2 sc3 s W (hs0.stays_bel k) hle1
 have hC1 : ∀W,Bel w W->Calls Tryz.prog 69 #[.agg #[.slice sq1 s.msgs.length sc1,.slice sq2 s.enums.length sc2,.slice sq3 s.svcs.length sc3],.int .i64 2] W (qdh W (s.enums.map (·.name))):=fun W k=>qp3 sq1 sq2 sq3 sc1 sc2 sc3 s W (hs0.stays_bel k) hle2
 have hC2 : ∀W,Bel w W->Calls Tryz.prog 69 #[.agg #[.slice sq1 s.msgs.length sc1,.slice sq2 s.enums.length sc2,.slice sq3 s.svcs.length sc3],.int .i64 3] W (qdh W (s.svcs.map (·.name))):=fun W k=>qp2 sq1 sq2 sq3 sc1 sc2 sc3 s W (hs0.stays_bel k) hle3
 have CF:=Lib.hid (fun W (k:Bel w W)=>qp5 sq1 sq2 sq3 sc1 sc2 sc3 s W (hs0.stays_bel k));have hmm : ∀m,qbh s m (qd6 s)=qdl s m (qba s):=fun m=>(qp9 s m).symm
 have V:all s=headN (s.msgs.map (·.name)) (s.enums.map (·.name)) (s.svcs.map (·.name)) 3 ++ un [] (-1) (apart (s.msgs.map (·.name)) (s.enums.map (·.name)) (s.svcs.map (·.name))) 9 ++ s.msgs.flatMap (fun m=>qdl s m (qba s)) ++ s.enums.flatMap enum ++ s.svcs.flatMap (qbz s):=by
  rw [←(funext hmm:(fun m=>qbh s m (qd6 s))=fun m=>qdl s m (qba s))];rfl
 have HL0:(s.msgs.map (·.name)).length<=1000000000:=by rw [List.length_map];exact hle1
 have HL1:(s.enums.map (·.name)).length<=1000000000:=by rw [List.length_map];exact hle2
 have HL2:(s.svcs.map (·.name)).length<=1000000000:=by rw [List.length_map];exact hle3
 generalize s.msgs.map (·.name)=L0 at hC0 V HL0;generalize s.enums.map (·.name)=L1 at hC1 V HL1;generalize s.svcs.map (·.name)=L2 at hC2 V HL2;obtain⟨BLK,hBLK⟩ : ∃BLK:List (Nat × Array Value × TypeId),BLK=[(w.heap.size,#[.slice sq1 s.msgs.length sc1,.slice sq2 s.enums.length sc2,.slice sq3 s.svcs.length sc3],26)]:=⟨_,rfl⟩;have b1:(w.heap.size,#[.slice sq1 s.msgs.length sc1,.slice sq2 s.enums.length sc2,.slice sq3 s.svcs.length sc3],26) ∈ BLK:=by rw [hBLK];exact List.mem_cons_self
 have hst0:=RS.start w (w.alloc (.cells #[.slice sq1 s.msgs.length sc1,.slice sq2 s.enums.length sc2,.slice sq3 s.svcs.length sc3] 26)) [] BLK ((Bel.refl w).alloc _) (fun x hx=>by
  rw [hBLK]at hx;simp only [List.mem_cons,List.not_mem_nil,or_false]at hx;subst hx
  exact⟨heap_alloc_new _ _,by show 26 ≠ 153;decide⟩)
 simp only [World.size_alloc]at hst0;have hst:RS w (w.heap.size+1) [] w BLK 0 []  ((w.alloc (.cells #[.slice sq1 s.msgs.length sc1,.slice sq2 s.enums.length sc2,.slice sq3 s.svcs.length sc3] 26)).alloc (.cells #[.string ⟨#[]⟩,.slice none 0 0] 116)):=hst0;have CN0:=Lib.hid hC0;have CN1:=Lib.hid hC1;have CN2:=Lib.hid hC2;have HV:=Lib.hid V;have HM1:=Lib.hid hm1;have HM2:=Lib.hid hm2;have HM3:=Lib.hid hm3;have HS:=Lib.hid hs0;have HSM:=Lib.hid hsm;have HSE:=Lib.hid hse;have HSV:=Lib.hid hsv;have HALL:=Lib.hid hall;clear hC0 hC1 hC2 V hm1 hm2 hm3 hs0 hsm hse hsv hall hBLK hst0 hmm
 go_enter Tryz.func53,Tryz.ntmps53
 go_wp2
 go_loopw [4,5] (fun i _ wr => ∃(n:Nat) (wb:World),((n=0/\i=.int .i64 1) ∨ (n=1/\i=.int .i64 2) ∨ (n=2/\i=.int .i64 3) ∨ (n=3/\i=.int .i64 4))/\RS w (w.heap.size+1) [] wb BLK (2*n) (headN L0 L1 L2 n) wr) (fun i _ _=>4-(intOf i).toNat)
 case atStart=>exact⟨0,w,.inl ⟨rfl,rfl⟩,hst⟩
 case round=>
  clear hst;obtain⟨n,wb,hn,hFS⟩:=hrel
  ·rcases hn with⟨rfl,rfl⟩|⟨rfl,rfl⟩|⟨rfl,rfl⟩|⟨rfl,rfl⟩
   ·have kk1:=hFS.cell b1
    have hl0:(L0.length:Int)<=1000000000:=by omega
    go_upto_region 6 with(go_at_call 69;(with_reducible refine(CN0.out _ (RS.bel0 hFS)).mono ?_);rintro e w1 ⟨v0,rfl,o0,g1⟩;obtain⟨p0,d0,rfl⟩:=qan o0;have hF1:=RS.rebase (RS.bel hFS g1);have hfl:=hFS.lt;have OWN0:=Lib.hid o0;clear o0 g1)
    clear kk1
    go_cut [] (fun wx => ∃wb2,RS w (w.heap.size+1) [] wb2 BLK (0+1) (headN L0 L1 L2 0 ++ un [] (-1) (decide (L0.length<=64)) 3) wx/\Texts wx (.slice p0 L0.length d0) L0)
    case first=>as_aux_lemma=>
     go_wp2_with (go_at_call 70;(with_reducible refine(hF1.add (by omega) _ _ _).mono ?_);rintro e w9 ⟨rfl,h9⟩;have hend:=Lib.hid h9;clear h9)
     all_goals go_meet
     all_goals exact⟨_,hend.out.okc (by rw [Bool.eq_iff_iff];simp;try omega),qbw (qmz OWN0.out (RS.oth hend.out) (by decide) hfl) HL0⟩
    case rest=>
     clear hFS hF1;obtain⟨wb2,hFS,htx⟩:=hcut;have HR:=Lib.hid (fun W (k:Bel wc W)=>qdj (.slice p0 L0.length d0) L0 W (Sv.bel VStr.stays htx k));clear htx OWN0;generalize hO:qhn L0=OR at HR;have HO:=Lib.hid hO;clear hO
     go_wp2_with (first
      | (go_at_call 71;(with_reducible refine(HR.out _ (Bel.refl _)).mono ?_);rintro e w1 ⟨rfl,g1⟩;have hF1:=RS.bel hFS g1;clear g1)
      | (go_at_call 70;(with_reducible refine(hF1.add (by omega) _ _ _).mono ?_);rintro e w9 ⟨rfl,h9⟩;have hend:=Lib.hid h9;clear h9))
     refine⟨⟨1,wb2,.inr (.inl ⟨rfl,rfl⟩),?_⟩,by simp [intOf]⟩;have:=hend.out.okc (ok':=OR) (by simp);rw [←HO.out,List.append_assoc, ←qj9]at this;exact this
   ·have kk1:=hFS.cell b1
    have hl0:(L1.length:Int)<=1000000000:=by omega
    go_upto_region 6 with(go_at_call 69;(with_reducible refine(CN1.out _ (RS.bel0 hFS)).mono ?_);rintro e w1 ⟨v1,rfl,o1,g1⟩;obtain⟨p1,d1,rfl⟩:=qan o1;have hF1:=RS.rebase (RS.bel hFS g1);have hfl:=hFS.lt;have OWN1:=Lib.hid o1;clear o1 g1)
    clear kk1
    go_cut [] (fun wx => ∃wb2,RS w (w.heap.size+1) [] wb2 BLK (2+1) (headN L0 L1 L2 1 ++ un [] (-1) (decide (L1.length<=64)) 3) wx/\Texts wx (.slice p1 L1.length d1) L1)
    case first=>as_aux_lemma=>
     go_wp2_with (go_at_call 70;(with_reducible refine(hF1.add (by omega) _ _ _).mono ?_);rintro e w9 ⟨rfl,h9⟩;have hend:=Lib.hid h9;clear h9)
     all_goals go_meet
     all_goals exact⟨_,hend.out.okc (by rw [Bool.eq_iff_iff];simp;try omega),qbw (qmz OWN1.out (RS.oth hend.out) (by decide) hfl) HL1⟩
    case rest=>
     clear hFS hF1;obtain⟨wb2,hFS,htx⟩:=hcut;have HR:=Lib.hid (fun W (k:Bel wc W)=>qdj (.slice p1 L1.length d1) L1 W (Sv.bel VStr.stays htx k));clear htx OWN1;generalize hO:qhn L1=OR at HR;have HO:=Lib.hid hO;clear hO
     go_wp2_with (first
      | (go_at_call 71;(with_reducible refine(HR.out _ (Bel.refl _)).mono ?_);rintro e w1 ⟨rfl,g1⟩;have hF1:=RS.bel hFS g1;clear g1)
      | (go_at_call 70;(with_reducible refine(hF1.add (by omega) _ _ _).mono ?_);rintro e w9 ⟨rfl,h9⟩;have hend:=Lib.hid h9;clear h9))
     refine⟨⟨2,wb2,.inr (.inr (.inl ⟨rfl,rfl⟩)),?_⟩,by simp [intOf]⟩;have:=hend.out.okc (ok':=OR) (by simp);rw [←HO.out,List.append_assoc, ←qj9]at this;exact this
   ·have kk1:=hFS.cell b1
    have hl0:(L2.length:Int)<=1000000000:=by omega
    go_upto_region 6 with(go_at_call 69;(with_reducible refine(CN2.out _ (RS.bel0 hFS)).mono ?_);rintro e w1 ⟨v2,rfl,o2,g1⟩;obtain⟨p2,d2,rfl⟩:=qan o2;have hF1:=RS.rebase (RS.bel hFS g1);have hfl:=hFS.lt;have OWN2:=Lib.hid o2;clear o2 g1)
    clear kk1
    go_cut [] (fun wx => ∃wb2,RS w (w.heap.size+1) [] wb2 BLK (4+1) (headN L0 L1 L2 2 ++ un [] (-1) (decide (L2.length<=64)) 3) wx/\Texts wx (.slice p2 L2.length d2) L2)
    case first=>as_aux_lemma=>
     go_wp2_with (go_at_call 70;(with_reducible refine(hF1.add (by omega) _ _ _).mono ?_);rintro e w9 ⟨rfl,h9⟩;have hend:=Lib.hid h9;clear h9)
     all_goals go_meet
     all_goals exact⟨_,hend.out.okc (by rw [Bool.eq_iff_iff];simp;try omega),qbw (qmz OWN2.out (RS.oth hend.out) (by decide) hfl) HL2⟩
    case rest=>
     clear hFS hF1;obtain⟨wb2,hFS,htx⟩:=hcut;have HR:=Lib.hid (fun W (k:Bel wc W)=>qdj (.slice p2 L2.length d2) L2 W (Sv.bel VStr.stays htx k));clear htx OWN2;generalize hO:qhn L2=OR at HR;have HO:=Lib.hid hO;clear hO
     go_wp2_with (first
      | (go_at_call 71;(with_reducible refine(HR.out _ (Bel.refl _)).mono ?_);rintro e w1 ⟨rfl,g1⟩;have hF1:=RS.bel hFS g1;clear g1)
      | (go_at_call 70;(with_reducible refine(hF1.add (by omega) _ _ _).mono ?_);rintro e w9 ⟨rfl,h9⟩;have hend:=Lib.hid h9;clear h9))
     refine⟨⟨3,wb2,.inr (.inr (.inr ⟨rfl,rfl⟩)),?_⟩,by simp [intOf]⟩;have:=hend.out.okc (ok':=OR) (by simp);rw [←HO.out,List.append_assoc, ←qj9]at this;exact this
   ·have kk1:=hFS.cell b1
    go_upto_region 11 with(first
     | (go_at_call 69;(with_reducible refine(CN0.out _ (RS.bel0 hFS)).mono ?_);rintro e w1 ⟨v0,rfl,o0,g1⟩;obtain⟨p0,d0,rfl⟩:=qan o0;have hF1:=RS.bel hFS g1;have kb0:=Lib.hid g1;clear kk1;have kk1:=hF1.cell b1;have T0:=Lib.hid (qbw o0 HL0);clear o0 g1)
     | (go_at_call 69;(with_reducible refine(CN1.out _ (RS.bel0 hF1)).mono ?_);rintro e w2 ⟨v1,rfl,o1,g1⟩;obtain⟨p1,d1,rfl⟩:=qan o1;have hF2:=RS.bel hF1 g1;have kb1:=Lib.hid g1;clear kk1;have kk1:=hF2.cell b1;have T1:=Lib.hid (qbw o1 HL1);clear o1 g1)
     | (go_at_call 69;(with_reducible refine(CN2.out _ (RS.bel0 hF2)).mono ?_);rintro e w3 ⟨v2,rfl,o2,g1⟩;obtain⟨p2,d2,rfl⟩:=qan o2;have hF3:=RS.bel hF2 g1;have kb2:=Lib.hid g1;clear kk1;have kk1:=hF3.cell b1;have T2:=Lib.hid (qbw o2 HL2);clear o2 g1))
    clear kk1 hFS hF1 hF2;have C01:=Lib.hid (fun W (k:Bel w3 W)=>qmj (.slice p0 L0.length d0) (.slice p1 L1.length d1) L0 L1 W (Sv.bel VStr.stays T0.out (Bel.of kb1.out (Bel.of kb2.out k.out).out)) (Sv.bel VStr.stays T1.out (Bel.of kb2.out k.out)));have C02:=Lib.hid (fun W (k:Bel w3 W)=>qmj (.slice p0 L0.length d0) (.slice p2 L2.length d2) L0 L2 W (Sv.bel VStr.stays T0.out (Bel.of kb1.out (Bel.of kb2.out k.out).out)) (Sv.bel VStr.stays T2.out k));have C12:=Lib.hid (fun W (k:Bel w3 W)=>qmj (.slice p1 L1.length d1) (.slice p2 L2.length d2) L1 L2 W (Sv.bel VStr.stays T1.out (Bel.of kb2.out k.out)) (Sv.bel VStr.stays T2.out k))
    have hAP:apart L0 L1 L2 = !(L0.any (fun x=>Id.has L1 x) || L0.any (fun x=>Id.has L2 x) || L1.any (fun x=>Id.has L2 x)):=by
     rw [meet_comm,meet_comm,meet_comm];rfl
    generalize apart L0 L1 L2=OA at hAP HV;generalize L0.any (fun x=>Id.has L1 x)=A01 at hAP C01;generalize L0.any (fun x=>Id.has L2 x)=A02 at hAP C02;generalize L1.any (fun x=>Id.has L2 x)=A12 at hAP C12;have HAP:=Lib.hid hAP;clear hAP T0 T1 T2 kb0 kb1 kb2
    go_cut [] (fun wx=>RS w (w.heap.size+1) [] wb BLK 7 (headN L0 L1 L2 3 ++ un [] (-1) OA 9) wx)
    case first=>as_aux_lemma=>
     cases A01
     all_goals cases A02
     all_goals cases A12
     all_goals
      go_wp2_with (first
       | (go_at_call 72;(with_reducible refine(C01.out _ (Bel.refl _)).mono ?_);rintro e x1 ⟨rfl,g1⟩;have k1:Bel w3 x1:=g1;have hX:=RS.bel hF3 k1;clear g1)
       | (go_at_call 72;(with_reducible refine(C02.out _ k1).mono ?_);rintro e x2 ⟨rfl,g1⟩;have k2:Bel w3 x2:=Bel.of k1 g1;clear g1 hX;have hX:=RS.bel hF3 k2)
       | (go_at_call 72;(with_reducible refine(C12.out _ k2).mono ?_);rintro e x3 ⟨rfl,g1⟩;have k3:Bel w3 x3:=Bel.of k2 g1;clear g1 hX;have hX:=RS.bel hF3 k3)
       | (go_at_call 70;(with_reducible refine(hX.add (by omega) _ _ _).mono ?_);rintro e w9 ⟨rfl,h9⟩;have hend:=Lib.hid h9;clear h9))
      go_meet;exact hend.out.okc (by rw [HAP.out];rfl)
    case rest=>
     clear hF3;have hFS:=hcut;clear hcut;have kk1:=hFS.cell b1
     go_upto_region 13 with(go_at_call 73;(with_reducible refine(CF.out _ (RS.bel0 hFS)).mono ?_);rintro e w1 ⟨Bf,rfl,g5,hfl5⟩;have hF0:=RS.bel hFS g5.2.2;have hF1:=Lib.hid (RS.withb hF0 g5.2.1 (fun e=>by have:=g5.1;have:=hFS.lt;omega) (by show 4 ≠ 153;decide));clear g5 hF0)
     clear hFS kk1;obtain⟨BL2,hBL2⟩ : ∃BL2,BL2=(Bf,((qba s).map Value.bool).toArray,4) :: BLK:=⟨_,rfl⟩;have bf:(Bf,((qba s).map Value.bool).toArray,4) ∈ BL2:=by rw [hBL2];exact List.mem_cons_self
     have b1':=b1;have b1:(w.heap.size,#[.slice sq1 s.msgs.length sc1,.slice sq2 s.enums.length sc2,.slice sq3 s.svcs.length sc3],26) ∈ BL2:=by rw [hBL2];exact List.mem_cons_of_mem _ b1'
     have hFS:=hF1.out;rw [←hBL2]at hFS;clear hBL2 b1' hF1;generalize qba s=fin at bf hfl5 HV;have HFL:=Lib.hid hfl5;clear hfl5;have CI:=Lib.hid (fun(m:PMsg) (hm:m ∈ s.msgs) (a1 a2 a3 a4:Option Addr) (y1 y2 y3 y4:Nat) W (k:Bel w W) (hv:VMsg W [.string (S m.name),.slice a1 m.fields.length y1,.slice a2 m.res.length y2,.slice a3 m.gone.length y3,.slice a4 m.notes.length y4] m) (hfb:W.heap[Bf]? = some (.cells (fin.map Value.bool).toArray 4 (0,0)))=>qmi sq1 sq2 sq3 sc1 sc2 sc3 s a1 a2 a3 a4 y1 y2 y3 y4 m fin Bf s.msgs.length W (HS.out.stays_bel k) hv hfb HFL.out (HSM.out m hm).1 (HSM.out m hm).2.1 (HSM.out m hm).2.2.1 (HSM.out m hm).2.2.2.1 (fun f hf=>⟨((HSM.out m hm).2.2.2.2.1 f hf).1,((HSM.out m hm).2.2.2.2.1 f hf).2.1⟩) (HSM.out m hm).2.2.2.2.2.1);have CE:=Lib.hid (fun(e:PEnum) (hm:e ∈ s.enums) (a1 a2 a3:Option Addr) (y1 y2 y3:Nat) W (k:Bel w W) (hv:VEnum W [.string (S e.name),.bool e.op,.slice a1 e.items.length y1,.slice a2 e.res.length y2,.slice a3 e.notes.length y3] e)=>rk_Enum a1 a2 a3 y1 y2 y3 e W hv (HSE.out e hm).1 (HSE.out e hm).2.1 (HSE.out e hm).2.2.1 (fun f hf=>((HSE.out e hm).2.2.2.1 f hf).1));have CV:=Lib.hid (fun(v:PSvc) (hm:v ∈ s.svcs) (a1 a2:Option Addr) (y1 y2:Nat) W (k:Bel w W) (hv:VSvc W [.string (S v.name),.slice a1 v.meths.length y1,.slice a2 v.notes.length y2] v)=>qmk sq1 sq2 sq3 sc1 sc2 sc3 s a1 a2 y1 y2 v W (HS.out.stays_bel k) hv (HSV.out v hm).1 (HSV.out v hm).2.1 (fun f hf=>((HSV.out v hm).2.2.1 f hf).1));generalize hTM:s.msgs.flatMap (fun m=>qdl s m fin)=TM at HV;generalize hTE:s.enums.flatMap enum=TE at HV;generalize hTV:s.svcs.flatMap (qbz s)=TV at HV;have VM:=Lib.hid (show [] ++ (s.msgs.drop 0).flatMap (fun m=>qdl s m fin)=TM from hTM);have VE:=Lib.hid (show [] ++ (s.enums.drop 0).flatMap enum=TE from hTE);have VV:=Lib.hid (show [] ++ (s.svcs.drop 0).flatMap (qbz s)=TV from hTV)
     have htot:(headN L0 L1 L2 3).length+(un [] (-1) OA 9).length+TM.length+TE.length+TV.length<=1000000000:=by
      have:=HALL.out;rw [HV.out]at this
      simpa only [List.length_append]using this
     clear hTM hTE hTV;have kk1:=hFS.cell b1;go_wp2
     go_loopw [10] (fun i wr => ∃(k N:Nat) (done:List PProb),k<=s.msgs.length/\i=.int .i64 k/\RS w (w.heap.size+1) [] wb BL2 N ((headN L0 L1 L2 3 ++ un [] (-1) OA 9) ++ done) wr/\Hid (done ++ (s.msgs.drop k).flatMap (fun m=>qdl s m fin)=TM)) (fun i _=>s.msgs.length-(intOf i).toNat)
     case atStart=>exact⟨0,_,[],by omega,rfl,by rw [List.append_nil];exact hFS,VM⟩
     case round=>
      clear hFS kk1;obtain⟨k,N,done,hk,rfl,hFS,hgo⟩:=hrel;have kk1:=hFS.cell b1;by_cases hlt:k<s.msgs.length
      ·have hki:(k:Int)<(s.msgs.length:Int):=by omega
       have hk0:(0:Int)<=(k:Int):=by omega
       have hg:=List.getElem?_eq_getElem hlt;have hmem:s.msgs[k] ∈ s.msgs:=List.getElem_mem hlt;have hlist:=HM1.out;obtain⟨qq,cq,hqe,_,_,hel⟩:=hlist;cases hqe;obtain⟨b,off,hqq,hbs,cs,hce,hvs⟩:=hel k _ hg;have hdr:s.msgs.drop k=s.msgs[k] :: s.msgs.drop (k+1):=List.drop_eq_getElem_cons hlt;have hgo2:=Lib.hid (show(done ++ (qdl s s.msgs[k] fin)) ++ (s.msgs.drop (k+1)).flatMap (fun m=>qdl s m fin)=TM by rw [←hgo.out,hdr,List.append_assoc];rfl)
       have hleng:done.length+(qdl s s.msgs[k] fin).length<=TM.length:=by
        have:=congrArg List.length hgo2.out;simp only [List.length_append]at this;omega
       subst hqq;have hvs0:=Lib.hid hvs;obtain⟨_,_,_,_,hvv,g1,g2,g3,g4⟩:=hvs;obtain⟨u1,y1,rfl,_⟩:=qa5 g1;obtain⟨u2,y2,rfl,_⟩:=qa5 g2;obtain⟨u3,y3,rfl,_⟩:=qa5 g3;obtain⟨u4,y4,rfl,_⟩:=qa5 g4;subst hvv;clear hgo hdr hg g1 g2 g3 g4 hel;generalize s.msgs[k]=x at *;have ME:=Lib.hid (fun W' (k':Bel w W')=>show W'.cell? ⟨b,off+k*5,none⟩=some (.string (S x.name))/\W'.cell? ⟨b,off+k*5+1,none⟩=some (.slice u1 x.fields.length y1)/\W'.cell? ⟨b,off+k*5+2,none⟩=some (.slice u2 x.res.length y2)/\W'.cell? ⟨b,off+k*5+3,none⟩=some (.slice u3 x.gone.length y3)/\W'.cell? ⟨b,off+k*5+4,none⟩=some (.slice u4 x.notes.length y4)from⟨k'.some (by have h:=hce 0 _ rfl;rwa [Nat.add_zero]at h),k'.some (hce 1 _ rfl),k'.some (hce 2 _ rfl),k'.some (hce 3 _ rfl),k'.some (hce 4 _ rfl)⟩);clear hce;obtain⟨v,z1,z2⟩:=hFS.out;have hpl:((headN L0 L1 L2 3 ++ un [] (-1) OA 9) ++ done).length<=1000000000:=by simp only [List.length_append];omega
       have hbig:((headN L0 L1 L2 3 ++ un [] (-1) OA 9) ++ done).length+(qdl s x fin).length<=4000000000:=by simp only [List.length_append];omega
       generalize hPD:(headN L0 L1 L2 3 ++ un [] (-1) OA 9) ++ done=PD at hpl hbig hFS z2;have HPD:=Lib.hid hPD;clear hPD
       have hKS : ∀w',Bel wr w'->w'.cell? ⟨w.heap.size,0,none⟩=some (.slice (some ⟨b,off,none⟩) s.msgs.length sc1)/\w'.cell? ⟨w.heap.size,1,none⟩=some (.slice sq2 s.enums.length sc2)/\w'.cell? ⟨w.heap.size,2,none⟩=some (.slice sq3 s.svcs.length sc3)/\w'.cell? ⟨b,off+k*5,none⟩=some (.string (S x.name))/\w'.cell? ⟨b,off+k*5+1,none⟩=some (.slice u1 x.fields.length y1)/\w'.cell? ⟨b,off+k*5+2,none⟩=some (.slice u2 x.res.length y2)/\w'.cell? ⟨b,off+k*5+3,none⟩=some (.slice u3 x.gone.length y3)/\w'.cell? ⟨b,off+k*5+4,none⟩=some (.slice u4 x.notes.length y4)/\w'.cell? ⟨w.heap.size+1,1,none⟩=some v:=fun w' kq=>by
        have f1:=(hFS.bel kq).cell b1;obtain⟨m0,m1,m2,m3,m4⟩:=ME.out w' (hFS.bel kq).bel0;exact⟨f1 0,f1 1,f1 2,m0,m1,m2,m3,m4,kq.some z1⟩
       have KS:=Lib.hid hKS;have OWN:=Lib.hid (fun w' (kq:Bel wr w')=>qge z2 kq);have HADD:=Lib.hid hFS;have kwA:Bel w wr:=hFS.bel0;have C1:=Lib.hid (fun W (kq:Bel wr W)=>CI.out _ hmem _ _ _ _ _ _ _ _ W (Bel.of kwA kq) (VMsg.stays _ _ _ _ (Bel.of kwA kq) hvs0.out) (((HADD.out.bel kq).2.2.2.2 _ bf).1));clear hKS z1 z2 hFS;generalize hF:(qdl s x fin)=FX at C1 hgo2 hbig hleng;clear hF
       go_upto_region 16 with(fail)
       clear kk1
       (try clear CI);(try clear CE);(try clear CV);(try clear VE);(try clear VV);(try clear VM);(try clear HV);(try clear HM1);(try clear HM2);(try clear HM3);(try clear HS);(try clear HSM);(try clear HSE);(try clear HSV);(try clear HALL);(try clear CF);(try clear CN0);(try clear CN1);(try clear CN2);(try clear C01);(try clear C02);(try clear C12);(try clear hvs0);(try clear hmem);(try clear htot);(try clear hleng);(try clear hpl);(try clear hle1);(try clear hle2);(try clear hle3);(try clear HL0);(try clear HL1);(try clear HL2);(try clear hlen);(try clear hlist)
       obtain⟨wd,hwd⟩ : ∃wd,wd=wr.drew:=⟨_,rfl⟩;have kd:Bel wr wd:=by rw [hwd];exact(Bel.refl _).drew
       have HWD:=Lib.hid hwd;clear hwd;refine qfk (fun W=>W.cell? ⟨w.heap.size,0,none⟩=some (.slice (some ⟨b,off,none⟩) s.msgs.length sc1)/\W.cell? ⟨w.heap.size,1,none⟩=some (.slice sq2 s.enums.length sc2)/\W.cell? ⟨w.heap.size,2,none⟩=some (.slice sq3 s.svcs.length sc3)/\W.cell? ⟨b,off+k*5,none⟩=some (.string (S x.name))/\W.cell? ⟨b,off+k*5+1,none⟩=some (.slice u1 x.fields.length y1)/\W.cell? ⟨b,off+k*5+2,none⟩=some (.slice u2 x.res.length y2)/\W.cell? ⟨b,off+k*5+3,none⟩=some (.slice u3 x.gone.length y3)/\W.cell? ⟨b,off+k*5+4,none⟩=some (.slice u4 x.notes.length y4)/\W.cell? ⟨w.heap.size+1,1,none⟩=some v) [(0,true),(1,true),(2,true),(3,true),(4,true),(5,true),(6,true),(7,true),(8,true),(9,false),(10,false)] 11 (by kernel_rfl) (by kernel_rfl) HWD.out (KS.out _ kd) ?_;simp only [qe2,List.getElem?_cons_zero,List.getElem?_cons_succ]
       (with_reducible refine qaw (v:=?vv1007) (by with_unfolding_all rfl) (fun W hW=>?hy1007) ?hr1007);(case hy1007=>((try dsimp only at hW);go_simp;(all_goals with_reducible rfl)));(simp only [Act.put,List.setIfInBounds_toArray,List.set_cons_zero,List.set_cons_succ])
       (with_reducible refine qaw (v:=?vv1008) (by with_unfolding_all rfl) (fun W hW=>?hy1008) ?hr1008);(case hy1008=>((try dsimp only at hW);go_simp;(all_goals with_reducible rfl)));(simp only [Act.put,List.setIfInBounds_toArray,List.set_cons_zero,List.set_cons_succ])
       (with_reducible refine qaw (v:=?vv1009) (by with_unfolding_all rfl) (fun W hW=>?hy1009) ?hr1009);(case hy1009=>((try dsimp only at hW);go_simp;(all_goals with_reducible rfl)));(simp only [Act.put,List.setIfInBounds_toArray,List.set_cons_zero,List.set_cons_succ])
       (with_reducible refine qaw (v:=?vv1010) (by with_unfolding_all rfl) (fun W hW=>?hy1010) ?hr1010);(case hy1010=>((try dsimp only at hW);go_simp;(all_goals with_reducible rfl)));(simp only [Act.put,List.setIfInBounds_toArray,List.set_cons_zero,List.set_cons_succ])
       (with_reducible refine qaw (v:=?vv1011) (by with_unfolding_all rfl) (fun W hW=>?hy1011) ?hr1011);(case hy1011=>((try dsimp only at hW);go_simp;(all_goals with_reducible rfl)));(simp only [Act.put,List.setIfInBounds_toArray,List.set_cons_zero,List.set_cons_succ])
       (with_reducible refine qaw (v:=?vv1012) (by with_unfolding_all rfl) (fun W hW=>?hy1012) ?hr1012);(case hy1012=>((try dsimp only at hW);go_simp;(all_goals with_reducible rfl)));(simp only [Act.put,List.setIfInBounds_toArray,List.set_cons_zero,List.set_cons_succ])
       (with_reducible refine qaw (v:=?vv1013) (by with_unfolding_all rfl) (fun W hW=>?hy1013) ?hr1013);(case hy1013=>((try dsimp only at hW);go_simp;(all_goals with_reducible rfl)));(simp only [Act.put,List.setIfInBounds_toArray,List.set_cons_zero,List.set_cons_succ])
       (with_reducible refine qaw (v:=?vv1014) (by with_unfolding_all rfl) (fun W hW=>?hy1014) ?hr1014);(case hy1014=>((try dsimp only at hW);go_simp;(all_goals with_reducible rfl)));(simp only [Act.put,List.setIfInBounds_toArray,List.set_cons_zero,List.set_cons_succ])
       (with_reducible refine qaw (v:=?vv1015) (by with_unfolding_all rfl) (fun W hW=>?hy1015) ?hr1015);(case hy1015=>((try dsimp only at hW);go_simp;(all_goals with_reducible rfl)));(simp only [Act.put,List.setIfInBounds_toArray,List.set_cons_zero,List.set_cons_succ])
       with_reducible refine qee (fun K hK=>?_)
       go_simp
       with_reducible refine(C1.out _ kd).mono ?_
       rintro e w1 ⟨v2,rfl,own2,g1⟩;have k1:Bel wr w1:=Bel.of kd g1;have OWN2:=Lib.hid own2;have OWN1:=Lib.hid (OWN.out _ k1);have hB1:=(Bel.of kwA k1).size;have HF1:=Lib.hid (HADD.out.bel k1);have HS1:=Lib.hid (KS.out _ k1);clear g1 own2;refine hK _ _ HS1.out ?_;clear hK K
       (try simp only [Act.put,List.setIfInBounds_toArray,List.set_cons_zero,List.set_cons_succ])
       with_reducible refine qee (fun K hK=>?_)
       refine qin (by rfl) _ _ (by rfl) w.heap.size _ v v2 _ _ _ _ (by rfl) (by rfl) OWN1.out OWN2.out (qiz _) hbig hB1 ?_;intro q cap w2 r1 r2 r3;have HP:=Lib.hid (RS.app HF1.out (HS1.out).2.2.2.2.2.2.2.2 r1 r2 r3);have kw2:Bel w w2:=RS.grown HF1.out (HS1.out).2.2.2.2.2.2.2.2 r2;clear r1 r2 r3;have c2:=HP.out.2.1;have f2:=HP.out.2.2.1;have HB2:=Lib.hid (HP.out.2.2.2);have sb:=(Lib.cell_of_heap (HB2.out _ b1));obtain⟨m0,m1,m2,m3,m4⟩:=ME.out w2 kw2;refine hK _ _ ⟨(sb 0).trans rfl,(sb 1).trans rfl,(sb 2).trans rfl,m0,m1,m2,m3,m4,c2⟩ ?_;clear hK K m0 m1 m2 m3 m4 sb
       (try simp only [Act.put,List.setIfInBounds_toArray,List.set_cons_zero,List.set_cons_succ])
       refine qn1 ?_;simp only [List.drop_succ_cons,List.drop_zero];go_wp2;refine⟨⟨k+1,N+FX.length,done ++ FX,by omega,by go_num,?hfs0,hgo2⟩,by simp [intOf];omega⟩
       case hfs0=>
        have eq1:=congrArg (· ++ FX) HPD.out;simp only [List.append_assoc]at eq1
        (try simp only [List.append_assoc])
        rw [eq1];exact HP.out.1.1
      ·have hkl:k=s.msgs.length:=by omega
       have hki : ¬(k:Int)<(s.msgs.length:Int):=by omega
       have hdn:done=TM:=by
        have:=hgo.out;rw [hkl,List.drop_length]at this
        simpa using this
       rw [hdn]at hFS;clear hgo hdn kk1;have kk1:=hFS.cell b1;go_wp2
       go_loopw [11] (fun i wr => ∃(k N:Nat) (done:List PProb),k<=s.enums.length/\i=.int .i64 k/\RS w (w.heap.size+1) [] wb BL2 N (((headN L0 L1 L2 3 ++ un [] (-1) OA 9) ++ TM) ++ done) wr/\Hid (done ++ (s.enums.drop k).flatMap enum=TE)) (fun i _=>s.enums.length-(intOf i).toNat)
       case atStart=>exact⟨0,_,[],by omega,rfl,by rw [List.append_nil];exact hFS,VE⟩
       case round=>
        clear hFS kk1;obtain⟨k,N,done,hk,rfl,hFS,hgo⟩:=hrel;have kk1:=hFS.cell b1;by_cases hlt:k<s.enums.length
        ·have hki:(k:Int)<(s.enums.length:Int):=by omega
         have hk0:(0:Int)<=(k:Int):=by omega
         have hg:=List.getElem?_eq_getElem hlt;have hmem:s.enums[k] ∈ s.enums:=List.getElem_mem hlt;have hlist:=HM2.out;obtain⟨qq,cq,hqe,_,_,hel⟩:=hlist;cases hqe;obtain⟨b,off,hqq,hbs,cs,hce,hvs⟩:=hel k _ hg;have hdr:s.enums.drop k=s.enums[k] :: s.enums.drop (k+1):=List.drop_eq_getElem_cons hlt;have hgo2:=Lib.hid (show(done ++ (enum s.enums[k])) ++ (s.enums.drop (k+1)).flatMap enum=TE by rw [←hgo.out,hdr,List.append_assoc];rfl)
         have hleng:done.length+(enum s.enums[k]).length<=TE.length:=by
          have:=congrArg List.length hgo2.out;simp only [List.length_append]at this;omega
         subst hqq;have hvs0:=Lib.hid hvs;obtain⟨_,_,_,hvv,g1,g2,g3⟩:=hvs;obtain⟨u1,y1,rfl,_⟩:=qa5 g1;obtain⟨u2,y2,rfl,_⟩:=qa5 g2;obtain⟨u3,y3,rfl,_⟩:=qa5 g3;subst hvv;clear hgo hdr hg g1 g2 g3 hel;generalize s.enums[k]=x at *;have ME:=Lib.hid (fun W' (k':Bel w W')=>show W'.cell? ⟨b,off+k*5,none⟩=some (.string (S x.name))/\W'.cell? ⟨b,off+k*5+1,none⟩=some (.bool x.op)/\W'.cell? ⟨b,off+k*5+2,none⟩=some (.slice u1 x.items.length y1)/\W'.cell? ⟨b,off+k*5+3,none⟩=some (.slice u2 x.res.length y2)/\W'.cell? ⟨b,off+k*5+4,none⟩=some (.slice u3 x.notes.length y3)from⟨k'.some (by have h:=hce 0 _ rfl;rwa [Nat.add_zero]at h),k'.some (hce 1 _ rfl),k'.some (hce 2 _ rfl),k'.some (hce 3 _ rfl),k'.some (hce 4 _ rfl)⟩);clear hce;obtain⟨v,z1,z2⟩:=hFS.out;have hpl:(((headN L0 L1 L2 3 ++ un [] (-1) OA 9) ++ TM) ++ done).length<=1000000000:=by simp only [List.length_append];omega
         have hbig:(((headN L0 L1 L2 3 ++ un [] (-1) OA 9) ++ TM) ++ done).length+(enum x).length<=4000000000:=by simp only [List.length_append];omega
         generalize hPD:((headN L0 L1 L2 3 ++ un [] (-1) OA 9) ++ TM) ++ done=PD at hpl hbig hFS z2;have HPD:=Lib.hid hPD;clear hPD
         have hKS : ∀w',Bel wr w'->w'.cell? ⟨w.heap.size,0,none⟩=some (.slice sq1 s.msgs.length sc1)/\w'.cell? ⟨w.heap.size,1,none⟩=some (.slice (some ⟨b,off,none⟩) s.enums.length sc2)/\w'.cell? ⟨w.heap.size,2,none⟩=some (.slice sq3 s.svcs.length sc3)/\w'.cell? ⟨b,off+k*5,none⟩=some (.string (S x.name))/\w'.cell? ⟨b,off+k*5+1,none⟩=some (.bool x.op)/\w'.cell? ⟨b,off+k*5+2,none⟩=some (.slice u1 x.items.length y1)/\w'.cell? ⟨b,off+k*5+3,none⟩=some (.slice u2 x.res.length y2)/\w'.cell? ⟨b,off+k*5+4,none⟩=some (.slice u3 x.notes.length y3)/\w'.cell? ⟨w.heap.size+1,1,none⟩=some v:=fun w' kq=>by
          have f1:=(hFS.bel kq).cell b1;obtain⟨m0,m1,m2,m3,m4⟩:=ME.out w' (hFS.bel kq).bel0;exact⟨f1 0,f1 1,f1 2,m0,m1,m2,m3,m4,kq.some z1⟩
         have KS:=Lib.hid hKS;have OWN:=Lib.hid (fun w' (kq:Bel wr w')=>qge z2 kq);have HADD:=Lib.hid hFS;have kwA:Bel w wr:=hFS.bel0;have C1:=Lib.hid (fun W (kq:Bel wr W)=>CE.out _ hmem _ _ _ _ _ _ W (Bel.of kwA kq) (VEnum.stays _ _ _ _ (Bel.of kwA kq) hvs0.out));clear hKS z1 z2 hFS;generalize hF:(enum x)=FX at C1 hgo2 hbig hleng;clear hF
         go_upto_region 20 with(fail)
         clear kk1
         (try clear CI);(try clear CE);(try clear CV);(try clear VE);(try clear VV);(try clear VM);(try clear HV);(try clear HM1);(try clear HM2);(try clear HM3);(try clear HS);(try clear HSM);(try clear HSE);(try clear HSV);(try clear HALL);(try clear CF);(try clear CN0);(try clear CN1);(try clear CN2);(try clear C01);(try clear C02);(try clear C12);(try clear hvs0);(try clear hmem);(try clear htot);(try clear hleng);(try clear hpl);(try clear hle1);(try clear hle2);(try clear hle3);(try clear HL0);(try clear HL1);(try clear HL2);(try clear hlen);(try clear hlist)
         obtain⟨wd,hwd⟩ : ∃wd,wd=wr.drew:=⟨_,rfl⟩;have kd:Bel wr wd:=by rw [hwd];exact(Bel.refl _).drew
         have HWD:=Lib.hid hwd;clear hwd;refine qfk (fun W=>W.cell? ⟨w.heap.size,0,none⟩=some (.slice sq1 s.msgs.length sc1)/\W.cell? ⟨w.heap.size,1,none⟩=some (.slice (some ⟨b,off,none⟩) s.enums.length sc2)/\W.cell? ⟨w.heap.size,2,none⟩=some (.slice sq3 s.svcs.length sc3)/\W.cell? ⟨b,off+k*5,none⟩=some (.string (S x.name))/\W.cell? ⟨b,off+k*5+1,none⟩=some (.bool x.op)/\W.cell? ⟨b,off+k*5+2,none⟩=some (.slice u1 x.items.length y1)/\W.cell? ⟨b,off+k*5+3,none⟩=some (.slice u2 x.res.length y2)/\W.cell? ⟨b,off+k*5+4,none⟩=some (.slice u3 x.notes.length y3)/\W.cell? ⟨w.heap.size+1,1,none⟩=some v) [(0,true),(1,true),(2,true),(3,true),(4,true),(5,true),(6,true),(7,false),(8,false)] 9 (by kernel_rfl) (by kernel_rfl) HWD.out (KS.out _ kd) ?_;simp only [qe2,List.getElem?_cons_zero,List.getElem?_cons_succ]
         (with_reducible refine qaw (v:=?vv1016) (by with_unfolding_all rfl) (fun W hW=>?hy1016) ?hr1016);(case hy1016=>((try dsimp only at hW);go_simp;(all_goals with_reducible rfl)));(simp only [Act.put,List.setIfInBounds_toArray,List.set_cons_zero,List.set_cons_succ])
         (with_reducible refine qaw (v:=?vv1017) (by with_unfolding_all rfl) (fun W hW=>?hy1017) ?hr1017);(case hy1017=>((try dsimp only at hW);go_simp;(all_goals with_reducible rfl)));(simp only [Act.put,List.setIfInBounds_toArray,List.set_cons_zero,List.set_cons_succ])
         (with_reducible refine qaw (v:=?vv1018) (by with_unfolding_all rfl) (fun W hW=>?hy1018) ?hr1018);(case hy1018=>((try dsimp only at hW);go_simp;(all_goals with_reducible rfl)));(simp only [Act.put,List.setIfInBounds_toArray,List.set_cons_zero,List.set_cons_succ])
         (with_reducible refine qaw (v:=?vv1019) (by with_unfolding_all rfl) (fun W hW=>?hy1019) ?hr1019);(case hy1019=>((try dsimp only at hW);go_simp;(all_goals with_reducible rfl)));(simp only [Act.put,List.setIfInBounds_toArray,List.set_cons_zero,List.set_cons_succ])
         (with_reducible refine qaw (v:=?vv1020) (by with_unfolding_all rfl) (fun W hW=>?hy1020) ?hr1020);(case hy1020=>((try dsimp only at hW);go_simp;(all_goals with_reducible rfl)));(simp only [Act.put,List.setIfInBounds_toArray,List.set_cons_zero,List.set_cons_succ])
         (with_reducible refine qaw (v:=?vv1021) (by with_unfolding_all rfl) (fun W hW=>?hy1021) ?hr1021);(case hy1021=>((try dsimp only at hW);go_simp;(all_goals with_reducible rfl)));(simp only [Act.put,List.setIfInBounds_toArray,List.set_cons_zero,List.set_cons_succ])
         (with_reducible refine qaw (v:=?vv1022) (by with_unfolding_all rfl) (fun W hW=>?hy1022) ?hr1022);(case hy1022=>((try dsimp only at hW);go_simp;(all_goals with_reducible rfl)));(simp only [Act.put,List.setIfInBounds_toArray,List.set_cons_zero,List.set_cons_succ])
         with_reducible refine qee (fun K hK=>?_)
         go_simp
         with_reducible refine(C1.out _ kd).mono ?_
         rintro e w1 ⟨v2,rfl,own2,g1⟩;have k1:Bel wr w1:=Bel.of kd g1;have OWN2:=Lib.hid own2;have OWN1:=Lib.hid (OWN.out _ k1);have hB1:=(Bel.of kwA k1).size;have HF1:=Lib.hid (HADD.out.bel k1);have HS1:=Lib.hid (KS.out _ k1);clear g1 own2;refine hK _ _ HS1.out ?_;clear hK K
         (try simp only [Act.put,List.setIfInBounds_toArray,List.set_cons_zero,List.set_cons_succ])
         with_reducible refine qee (fun K hK=>?_)
         refine qin (by rfl) _ _ (by rfl) w.heap.size _ v v2 _ _ _ _ (by rfl) (by rfl) OWN1.out OWN2.out (qiz _) hbig hB1 ?_;intro q cap w2 r1 r2 r3;have HP:=Lib.hid (RS.app HF1.out (HS1.out).2.2.2.2.2.2.2.2 r1 r2 r3);have kw2:Bel w w2:=RS.grown HF1.out (HS1.out).2.2.2.2.2.2.2.2 r2;clear r1 r2 r3;have c2:=HP.out.2.1;have f2:=HP.out.2.2.1;have HB2:=Lib.hid (HP.out.2.2.2);have sb:=(Lib.cell_of_heap (HB2.out _ b1));obtain⟨m0,m1,m2,m3,m4⟩:=ME.out w2 kw2;refine hK _ _ ⟨(sb 0).trans rfl,(sb 1).trans rfl,(sb 2).trans rfl,m0,m1,m2,m3,m4,c2⟩ ?_;clear hK K m0 m1 m2 m3 m4 sb
         (try simp only [Act.put,List.setIfInBounds_toArray,List.set_cons_zero,List.set_cons_succ])
         refine qn1 ?_;simp only [List.drop_succ_cons,List.drop_zero];go_wp2;refine⟨⟨k+1,N+FX.length,done ++ FX,by omega,by go_num,?hfs1,hgo2⟩,by simp [intOf];omega⟩
         case hfs1=>
          have eq1:=congrArg (· ++ FX) HPD.out;simp only [List.append_assoc]at eq1
          (try simp only [List.append_assoc])
          rw [eq1];exact HP.out.1.1
        ·have hkl:k=s.enums.length:=by omega
         have hki : ¬(k:Int)<(s.enums.length:Int):=by omega
         have hdn:done=TE:=by
          have:=hgo.out;rw [hkl,List.drop_length]at this
          simpa using this
         rw [hdn]at hFS;clear hgo hdn kk1;have kk1:=hFS.cell b1;go_wp2
         go_loopw [12] (fun i wr => ∃(k N:Nat) (done:List PProb),k<=s.svcs.length/\i=.int .i64 k/\RS w (w.heap.size+1) [] wb BL2 N (((headN L0 L1 L2 3 ++ un [] (-1) OA 9) ++ TM ++ TE) ++ done) wr/\Hid (done ++ (s.svcs.drop k).flatMap (qbz s)=TV)) (fun i _=>s.svcs.length-(intOf i).toNat)
         case atStart=>exact⟨0,_,[],by omega,rfl,by rw [List.append_nil];exact hFS,VV⟩
         case round=>
          clear hFS kk1;obtain⟨k,N,done,hk,rfl,hFS,hgo⟩:=hrel;have kk1:=hFS.cell b1;by_cases hlt:k<s.svcs.length
          ·have hki:(k:Int)<(s.svcs.length:Int):=by omega
           have hk0:(0:Int)<=(k:Int):=by omega
           have hg:=List.getElem?_eq_getElem hlt;have hmem:s.svcs[k] ∈ s.svcs:=List.getElem_mem hlt;have hlist:=HM3.out;obtain⟨qq,cq,hqe,_,_,hel⟩:=hlist;cases hqe;obtain⟨b,off,hqq,hbs,cs,hce,hvs⟩:=hel k _ hg;have hdr:s.svcs.drop k=s.svcs[k] :: s.svcs.drop (k+1):=List.drop_eq_getElem_cons hlt;have hgo2:=Lib.hid (show(done ++ (qbz s s.svcs[k])) ++ (s.svcs.drop (k+1)).flatMap (qbz s)=TV by rw [←hgo.out,hdr,List.append_assoc];rfl)
           have hleng:done.length+(qbz s s.svcs[k]).length<=TV.length:=by
            have:=congrArg List.length hgo2.out;simp only [List.length_append]at this;omega
           subst hqq;have hvs0:=Lib.hid hvs;obtain⟨_,_,hvv,g1,g2⟩:=hvs;obtain⟨u1,y1,rfl,_⟩:=qa5 g1;obtain⟨u2,y2,rfl,_⟩:=qa5 g2;subst hvv;clear hgo hdr hg g1 g2 hel;generalize s.svcs[k]=x at *;have ME:=Lib.hid (fun W' (k':Bel w W')=>show W'.cell? ⟨b,off+k*3,none⟩=some (.string (S x.name))/\W'.cell? ⟨b,off+k*3+1,none⟩=some (.slice u1 x.meths.length y1)/\W'.cell? ⟨b,off+k*3+2,none⟩=some (.slice u2 x.notes.length y2)from⟨k'.some (by have h:=hce 0 _ rfl;rwa [Nat.add_zero]at h),k'.some (hce 1 _ rfl),k'.some (hce 2 _ rfl)⟩);clear hce;obtain⟨v,z1,z2⟩:=hFS.out;have hpl:(((headN L0 L1 L2 3 ++ un [] (-1) OA 9) ++ TM ++ TE) ++ done).length<=1000000000:=by simp only [List.length_append];omega
           have hbig:(((headN L0 L1 L2 3 ++ un [] (-1) OA 9) ++ TM ++ TE) ++ done).length+(qbz s x).length<=4000000000:=by simp only [List.length_append];omega
           generalize hPD:((headN L0 L1 L2 3 ++ un [] (-1) OA 9) ++ TM ++ TE) ++ done=PD at hpl hbig hFS z2;have HPD:=Lib.hid hPD;clear hPD
           have hKS : ∀w',Bel wr w'->w'.cell? ⟨w.heap.size,0,none⟩=some (.slice sq1 s.msgs.length sc1)/\w'.cell? ⟨w.heap.size,1,none⟩=some (.slice sq2 s.enums.length sc2)/\w'.cell? ⟨w.heap.size,2,none⟩=some (.slice (some ⟨b,off,none⟩) s.svcs.length sc3)/\w'.cell? ⟨b,off+k*3,none⟩=some (.string (S x.name))/\w'.cell? ⟨b,off+k*3+1,none⟩=some (.slice u1 x.meths.length y1)/\w'.cell? ⟨b,off+k*3+2,none⟩=some (.slice u2 x.notes.length y2)/\w'.cell? ⟨w.heap.size+1,1,none⟩=some v:=fun w' kq=>by
            have f1:=(hFS.bel kq).cell b1;obtain⟨m0,m1,m2⟩:=ME.out w' (hFS.bel kq).bel0;exact⟨f1 0,f1 1,f1 2,m0,m1,m2,kq.some z1⟩
           have KS:=Lib.hid hKS;have OWN:=Lib.hid (fun w' (kq:Bel wr w')=>qge z2 kq);have HADD:=Lib.hid hFS;have kwA:Bel w wr:=hFS.bel0;have C1:=Lib.hid (fun W (kq:Bel wr W)=>CV.out _ hmem _ _ _ _ W (Bel.of kwA kq) (VSvc.stays _ _ _ _ (Bel.of kwA kq) hvs0.out));clear hKS z1 z2 hFS;generalize hF:(qbz s x)=FX at C1 hgo2 hbig hleng;clear hF
           go_upto_region 24 with(fail)
           clear kk1
           (try clear CI);(try clear CE);(try clear CV);(try clear VE);(try clear VV);(try clear VM);(try clear HV);(try clear HM1);(try clear HM2);(try clear HM3);(try clear HS);(try clear HSM);(try clear HSE);(try clear HSV);(try clear HALL);(try clear CF);(try clear CN0);(try clear CN1);(try clear CN2);(try clear C01);(try clear C02);(try clear C12);(try clear hvs0);(try clear hmem);(try clear htot);(try clear hleng);(try clear hpl);(try clear hle1);(try clear hle2);(try clear hle3);(try clear HL0);(try clear HL1);(try clear HL2);(try clear hlen);(try clear hlist)
           obtain⟨wd,hwd⟩ : ∃wd,wd=wr.drew:=⟨_,rfl⟩;have kd:Bel wr wd:=by rw [hwd];exact(Bel.refl _).drew
           have HWD:=Lib.hid hwd;clear hwd;refine qfk (fun W=>W.cell? ⟨w.heap.size,0,none⟩=some (.slice sq1 s.msgs.length sc1)/\W.cell? ⟨w.heap.size,1,none⟩=some (.slice sq2 s.enums.length sc2)/\W.cell? ⟨w.heap.size,2,none⟩=some (.slice (some ⟨b,off,none⟩) s.svcs.length sc3)/\W.cell? ⟨b,off+k*3,none⟩=some (.string (S x.name))/\W.cell? ⟨b,off+k*3+1,none⟩=some (.slice u1 x.meths.length y1)/\W.cell? ⟨b,off+k*3+2,none⟩=some (.slice u2 x.notes.length y2)/\W.cell? ⟨w.heap.size+1,1,none⟩=some v) [(0,true),(1,true),(2,true),(3,true),(4,true),(5,true),(6,true),(7,true),(8,false),(9,false)] 10 (by kernel_rfl) (by kernel_rfl) HWD.out (KS.out _ kd) ?_;simp only [qe2,List.getElem?_cons_zero,List.getElem?_cons_succ]
           (with_reducible refine qaw (v:=?vv1023) (by with_unfolding_all rfl) (fun W hW=>?hy1023) ?hr1023);(case hy1023=>((try dsimp only at hW);go_simp;(all_goals with_reducible rfl)));(simp only [Act.put,List.setIfInBounds_toArray,List.set_cons_zero,List.set_cons_succ])
           (with_reducible refine qaw (v:=?vv1024) (by with_unfolding_all rfl) (fun W hW=>?hy1024) ?hr1024);(case hy1024=>((try dsimp only at hW);go_simp;(all_goals with_reducible rfl)));(simp only [Act.put,List.setIfInBounds_toArray,List.set_cons_zero,List.set_cons_succ])
           (with_reducible refine qaw (v:=?vv1025) (by with_unfolding_all rfl) (fun W hW=>?hy1025) ?hr1025);(case hy1025=>((try dsimp only at hW);go_simp;(all_goals with_reducible rfl)));(simp only [Act.put,List.setIfInBounds_toArray,List.set_cons_zero,List.set_cons_succ])
           (with_reducible refine qaw (v:=?vv1026) (by with_unfolding_all rfl) (fun W hW=>?hy1026) ?hr1026);(case hy1026=>((try dsimp only at hW);go_simp;(all_goals with_reducible rfl)));(simp only [Act.put,List.setIfInBounds_toArray,List.set_cons_zero,List.set_cons_succ])
           (with_reducible refine qaw (v:=?vv1027) (by with_unfolding_all rfl) (fun W hW=>?hy1027) ?hr1027);(case hy1027=>((try dsimp only at hW);go_simp;(all_goals with_reducible rfl)));(simp only [Act.put,List.setIfInBounds_toArray,List.set_cons_zero,List.set_cons_succ])
           (with_reducible refine qaw (v:=?vv1028) (by with_unfolding_all rfl) (fun W hW=>?hy1028) ?hr1028);(case hy1028=>((try dsimp only at hW);go_simp;(all_goals with_reducible rfl)));(simp only [Act.put,List.setIfInBounds_toArray,List.set_cons_zero,List.set_cons_succ])
           (with_reducible refine qaw (v:=?vv1029) (by with_unfolding_all rfl) (fun W hW=>?hy1029) ?hr1029);(case hy1029=>((try dsimp only at hW);go_simp;(all_goals with_reducible rfl)));(simp only [Act.put,List.setIfInBounds_toArray,List.set_cons_zero,List.set_cons_succ])
           (with_reducible refine qaw (v:=?vv1030) (by with_unfolding_all rfl) (fun W hW=>?hy1030) ?hr1030);(case hy1030=>((try dsimp only at hW);go_simp;(all_goals with_reducible rfl)));(simp only [Act.put,List.setIfInBounds_toArray,List.set_cons_zero,List.set_cons_succ])
           with_reducible refine qee (fun K hK=>?_)
           go_simp
           with_reducible refine(C1.out _ kd).mono ?_
           rintro e w1 ⟨v2,rfl,own2,g1⟩;have k1:Bel wr w1:=Bel.of kd g1;have OWN2:=Lib.hid own2;have OWN1:=Lib.hid (OWN.out _ k1);have hB1:=(Bel.of kwA k1).size;have HF1:=Lib.hid (HADD.out.bel k1);have HS1:=Lib.hid (KS.out _ k1);clear g1 own2;refine hK _ _ HS1.out ?_;clear hK K
           (try simp only [Act.put,List.setIfInBounds_toArray,List.set_cons_zero,List.set_cons_succ])
           with_reducible refine qee (fun K hK=>?_)
           refine qin (by rfl) _ _ (by rfl) w.heap.size _ v v2 _ _ _ _ (by rfl) (by rfl) OWN1.out OWN2.out (qiz _) hbig hB1 ?_;intro q cap w2 r1 r2 r3;have HP:=Lib.hid (RS.app HF1.out (HS1.out).2.2.2.2.2.2 r1 r2 r3);have kw2:Bel w w2:=RS.grown HF1.out (HS1.out).2.2.2.2.2.2 r2;clear r1 r2 r3;have c2:=HP.out.2.1;have f2:=HP.out.2.2.1;have HB2:=Lib.hid (HP.out.2.2.2);have sb:=(Lib.cell_of_heap (HB2.out _ b1));obtain⟨m0,m1,m2⟩:=ME.out w2 kw2;refine hK _ _ ⟨(sb 0).trans rfl,(sb 1).trans rfl,(sb 2).trans rfl,m0,m1,m2,c2⟩ ?_;clear hK K m0 m1 m2 sb
           (try simp only [Act.put,List.setIfInBounds_toArray,List.set_cons_zero,List.set_cons_succ])
           refine qn1 ?_;simp only [List.drop_succ_cons,List.drop_zero];go_wp2;refine⟨⟨k+1,N+FX.length,done ++ FX,by omega,by go_num,?hfs2,hgo2⟩,by simp [intOf];omega⟩
           case hfs2=>
            have eq1:=congrArg (· ++ FX) HPD.out;simp only [List.append_assoc]at eq1
            (try simp only [List.append_assoc])
            rw [eq1];exact HP.out.1.1
          ·have hkl:k=s.svcs.length:=by omega
           have hki : ¬(k:Int)<(s.svcs.length:Int):=by omega
           have hdn:done=TV:=by
            have:=hgo.out;rw [hkl,List.drop_length]at this
            simpa using this
           rw [hdn]at hFS;clear hgo hdn kk1;obtain⟨v,z1,z2⟩:=hFS.out;have kk1:=hFS.cell b1;have hbz:=hFS.bel0;have Z2:=Lib.hid z2;clear hFS z2;go_wp2;go_ret;refine⟨v,rfl,?_,hbz.out⟩;rw [HV.out];exact Z2.out
end Go.Proofs.YtaaneecceiefoaaGreatDoor
