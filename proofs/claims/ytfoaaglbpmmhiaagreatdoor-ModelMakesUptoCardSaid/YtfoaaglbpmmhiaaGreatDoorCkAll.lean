import Derived.Test.YtfoaaglbpmmhiaaGreatDoorCkEnumP
import Derived.Test.YtfoaaglbpmmhiaaGreatDoorCkApp
import Derived.Test.YtfoaaglbpmmhiaaGreatDoorKitD
import Derived.Test.YtfoaaglbpmmhiaaGreatDoorKitA
import Derived.Deep.DeepCutAuto
set_option maxRecDepth 100000
set_option maxHeartbeats 4000000
set_option linter.unusedVariables false
set_option linter.unusedSimpArgs false
namespace Go.Proofs.YtfoaaglbpmmhiaaGreatDoor
open Go.RowKit Ck
def Short (s:PSchema):Prop:=
 (∀m ∈ s.msgs,m.name.length<=100000000/\m.fields.length<=2000000/\m.res.length<=2000000/\m.gone.length<=2000000/\(∀f ∈ m.fields,f.name.length<=1000000000/\f.un.length<=1000000000000000/\f.tn.length<=1000000000/\∀n ∈ f.notes,n.name.length<=1000000000)/\(∀g ∈ m.gone,g.length<=1000000000)/\∀n ∈ m.notes,n.name.length<=1000000000) ∧
 (∀e ∈ s.enums,e.name.length<=100000000/\e.items.length<=2000000/\e.res.length<=2000000/\(∀f ∈ e.items,f.name.length<=1000000000/\∀n ∈ f.notes,n.name.length<=1000000000)/\∀n ∈ e.notes,n.name.length<=1000000000) ∧
 (∀v ∈ s.svcs,v.name.length<=100000000/\v.meths.length<=2000000/\(∀f ∈ v.meths,f.name.length<=1000000000/\∀n ∈ f.notes,n.name.length<=1000000000)/\∀n ∈ v.notes,n.name.length<=1000000000) ∧
 (s.msgs.length<=900/\s.enums.length<=1000000000/\s.svcs.length<=1000000000)/\(Ck.all s).length<=1000000000
def headN (a b c:List Str):Nat->List PProb
 | 0 => []
 | 1=>listP a
 | 2=>listP a ++ listP b
 | _=>listP a ++ listP b ++ listP c
theorem qee (l:List Str):listP l=un [] (-1) (decide (l.length<=64)) 3 ++ un [] (-1) (qcn l) 11:=rfl
theorem idx0 (a b c:Value) (w:World):(Instr.index 142 (.agg #[a,b,c]) (.int .i64 0)).run Tryz.prog w=.ok a w:=by kernel_rfl
theorem idx1 (a b c:Value) (w:World):(Instr.index 142 (.agg #[a,b,c]) (.int .i64 1)).run Tryz.prog w=.ok b w:=by kernel_rfl
theorem idx2 (a b c:Value) (w:World):(Instr.index 142 (.agg #[a,b,c]) (.int .i64 2)).run Tryz.prog w=.ok c w:=by kernel_rfl
theorem qe1 {w w':World} {B fb:Nat} {e:TypeId} {v:Value} {n:Nat} {xs:List Value} (h:w.ownsRow B e 1 v n xs) (k:Lib.OthersKept 164 (some fb) w w') (he:e ≠ 164) (hb:fb<B):w'.ownsRow B e 1 v n xs:=by
 refine⟨h.1,?_⟩;rcases h.2 with hn|⟨g,cap,cur,h1,h2,h3,rest⟩
 ·exact .inl hn
 ·exact .inr ⟨g,cap,cur,h1,h2,qbx k h3 (fun e=>by injection e;omega) he,rest⟩
theorem FS.rebase {w0:World} {fb:Nat} {d:Str} {num:Int} {w:World} {bl:List (Nat × Array Value × TypeId)} {N:Nat} {ps:List PProb} {wx:World} (h:FS w0 fb d num w bl N ps wx):FS w0 fb d num wx bl N ps wx:=⟨h.1,h.2.1,Lib.OthersKept.refl _ _ _,h.2.2.2⟩
theorem map_ne {H:Type} {R:Value->Option (DataW H × List MemPlace)} {w:World} {b n g:Nat} {f:List UInt8->Option (DataW H)} {cs:Array Value} {T:TypeId} {fr:Nat × Nat} (h:MapIs R w b n f) (hg:w.heap[g]? = some (.cells cs T fr)):b ≠ g:=by
 obtain⟨D,⟨es,clock,h1,_⟩,_⟩:=h;rintro rfl;rw [h1]at hg;cases hg
theorem FS.oth {w0:World} {fb:Nat} {d:Str} {num:Int} {w:World} {bl:List (Nat × Array Value × TypeId)} {N:Nat} {ps:List PProb} {wx:World} (h:FS w0 fb d num w bl N ps wx):Lib.OthersKept 164 (some fb) w wx:=h.2.2.1
theorem ck_All (sq1 sq2 sq3:Option Addr) (sm1 sm2 sm3 sc1 sc2 sc3:Nat) (s:PSchema) (w:World) (hs:VSchema w [.slice sq1 sm1 sc1,.slice sq2 sm2 sc2,.slice sq3 sm3 sc3] s) (hM:ML w) (hsh:Short s) :
  Calls Tryz.prog 58 #[.agg #[.slice sq1 sm1 sc1,.slice sq2 sm2 sc2,.slice sq3 sm3 sc3]] w (qda w (all s)):=by
 have hs0:=hs;obtain⟨_,_,_,hcs,hm1,hm2,hm3⟩:=hs;cases hcs;obtain rfl:=qdm hm1;obtain rfl:=qdm hm2;obtain rfl:=qdm hm3;obtain⟨hsm,hse,hsv,⟨hlen,hle2,hle3⟩,hall⟩:=hsh;have hle1:s.msgs.length<=1000000000:=by omega
 have hCL : ∀W,Bel w W->Calls Tryz.prog 79 #[.agg #[.slice sq1 s.msgs.length sc1,.slice sq2 s.enums.length sc2,.slice sq3 s.svcs.length sc3]] W fun e w' => ∃v0 v1 v2,e=.returned (.agg #[v0,v1,v2])/\w'.ownsRow W.heap.size 9 1 v0 (s.msgs.map (·.name)).length ((s.msgs.map (·.name)).map strV)/\w'.ownsRow W.heap.size 9 1 v1 (s.enums.map (·.name)).length ((s.enums.map (·.name)).map strV)/\w'.ownsRow W.heap.size 9 1 v2 (s.svcs.map (·.name)).length ((s.svcs.map (·.name)).map strV)/\Below W.heap.size W w':=fun W k=>ck_lists sq1 sq2 sq3 s.msgs.length s.enums.length s.svcs.length sc1 sc2 sc3 s W (hs0.stays_bel k) hle1 hle2 hle3
 have CF:=h_ (fun W (k:Bel w W)=>qr3 sq1 sq2 sq3 s.msgs.length s.enums.length s.svcs.length sc1 sc2 sc3 s W (hs0.stays_bel k) hlen (fun m hm=>by have:=(hsm m hm).1;omega) (fun m hm=>⟨(hsm m hm).2.1,fun f hf=>((hsm m hm).2.2.2.2.1 f hf).2.2.1⟩));have V:all s=headN (s.msgs.map (·.name)) (s.enums.map (·.name)) (s.svcs.map (·.name)) 3 ++ un [] (-1) (apart (s.msgs.map (·.name)) (s.enums.map (·.name)) (s.svcs.map (·.name))) 9 ++ s.msgs.flatMap (fun m=>qan s m (qci s)) ++ s.enums.flatMap enum ++ s.svcs.flatMap (qax s):=rfl;have HL0:(s.msgs.map (·.name)).length<=1000000000:=by rw [List.length_map];exact hle1
 have HL1:(s.enums.map (·.name)).length<=1000000000:=by rw [List.length_map];exact hle2
 have HL2:(s.svcs.map (·.name)).length<=1000000000:=by rw [List.length_map];exact hle3
 generalize s.msgs.map (·.name)=L0 at hCL V HL0;generalize s.enums.map (·.name)=L1 at hCL V HL1;generalize s.svcs.map (·.name)=L2 at hCL V HL2;obtain⟨BLK,hBLK⟩ : ∃BLK:List (Nat × Array Value × TypeId),BLK=[(w.heap.size,#[.slice sq1 s.msgs.length sc1,.slice sq2 s.enums.length sc2,.slice sq3 s.svcs.length sc3],26)]:=⟨_,rfl⟩;have b1:(w.heap.size,#[.slice sq1 s.msgs.length sc1,.slice sq2 s.enums.length sc2,.slice sq3 s.svcs.length sc3],26) ∈ BLK:=by rw [hBLK];exact List.mem_cons_self
 have hst0:=FS.start w (w.alloc (.cells #[.slice sq1 s.msgs.length sc1,.slice sq2 s.enums.length sc2,.slice sq3 s.svcs.length sc3] 26)) [] (-1) BLK ((Bel.refl w).alloc _) (fun x hx=>by
  rw [hBLK]at hx;simp only [List.mem_cons,List.not_mem_nil,or_false]at hx;subst hx
  exact⟨heap_alloc_new _ _,by show 26 ≠ 164;decide⟩)
 simp only [World.size_alloc]at hst0;have hst:FS w (w.heap.size+1) [] (-1) w BLK 0 [] ((w.alloc (.cells #[.slice sq1 s.msgs.length sc1,.slice sq2 s.enums.length sc2,.slice sq3 s.svcs.length sc3] 26)).alloc (.cells #[.string ⟨#[]⟩,.int .i64 (-1),.slice none 0 0] 141)):=hst0;have CL:=h_ hCL;have HV:=h_ V;have HM1:=h_ hm1;have HM2:=h_ hm2;have HM3:=h_ hm3;have HS:=h_ hs0;have HSM:=h_ hsm;have HSE:=h_ hse;have HSV:=h_ hsv;have HALL:=h_ hall;clear hCL V hm1 hm2 hm3 hs0 hsm hse hsv hall hBLK hst0
 go_enter Tryz.func58,Tryz.ntmps58
 go_upto_region 2 with(fail)
 go_cut [4] (fun s4 wx => ∃(ga:Nat) (p0 p1 p2:Option Addr) (d0 d1 d2:Nat),s4=.pointer (some ⟨ga,0,none⟩)/\FS w (w.heap.size+1) [] (-1) wx ((ga,#[.slice p0 L0.length d0,.slice p1 L1.length d1,.slice p2 L2.length d2],142) :: BLK) 0 [] wx/\wx.ownsRow (w.heap.size+1+1) 9 1 (.slice p0 L0.length d0) L0.length (L0.map strV)/\wx.ownsRow (w.heap.size+1+1) 9 1 (.slice p1 L1.length d1) L1.length (L1.map strV)/\wx.ownsRow (w.heap.size+1+1) 9 1 (.slice p2 L2.length d2) L2.length (L2.map strV))
 case first=>
  have kk1:=hst.cell b1
  go_wp2_with (go_at_call 79;(with_reducible refine(CL.out _ (FS.bel0 hst)).mono ?_);rintro e w1 ⟨v0,v1,v2,rfl,t0,t1,t2,g1⟩;obtain⟨p0,d0,rfl⟩:=qa9 t0;obtain⟨p1,d1,rfl⟩:=qa9 t1;obtain⟨p2,d2,rfl⟩:=qa9 t2;have hF1:=h_ (FS.bel hst g1);simp only [World.size_alloc]at t0 t1 t2;have T0:=h_ t0;have T1:=h_ t1;have T2:=h_ t2;clear g1 t0 t1 t2)
  go_meet;exact⟨w1.heap.size,p0,p1,p2,d0,d1,d2,rfl,FS.rebase (FS.addb hF1.out #[.slice p0 L0.length d0,.slice p1 L1.length d1,.slice p2 L2.length d2] 142 (by decide)),T0.out.alloc _,T1.out.alloc _,T2.out.alloc _⟩
 case rest=>
  obtain⟨ga,p0,p1,p2,d0,d1,d2,hs4,hFS,t0,t1,t2⟩:=hcut;subst hs4;have H0:=h_ t0;have H1:=h_ t1;have H2:=h_ t2;clear t0 t1 t2 hst;have ba:(ga,#[.slice p0 L0.length d0,.slice p1 L1.length d1,.slice p2 L2.length d2],142) ∈ ((ga,#[.slice p0 L0.length d0,.slice p1 L1.length d1,.slice p2 L2.length d2],142) :: BLK):=List.mem_cons_self;have b1':=b1;have b1:(w.heap.size,#[.slice sq1 s.msgs.length sc1,.slice sq2 s.enums.length sc2,.slice sq3 s.svcs.length sc3],26) ∈ ((ga,#[.slice p0 L0.length d0,.slice p1 L1.length d1,.slice p2 L2.length d2],142) :: BLK):=List.mem_cons_of_mem _ b1';have hfl:w.heap.size+1<w.heap.size+1+1:=by omega
  obtain⟨wl,hwl⟩ : ∃wl,wl=wc:=⟨_,rfl⟩;subst hwl;have kka:=hFS.cell ba;go_wp2
  go_loopw [19] (fun i wr => ∃n:Nat,n<=3/\i=.int .i64 n/\FS w (w.heap.size+1) [] (-1) wl ((ga,#[.slice p0 L0.length d0,.slice p1 L1.length d1,.slice p2 L2.length d2],142) :: BLK) (2*n) (headN L0 L1 L2 n) wr) (fun i _=>3-(intOf i).toNat)
  case atStart=>exact⟨0,by omega,rfl,hFS⟩
  case round=>
   clear hFS kka;obtain⟨n,hn,rfl,hFS⟩:=hrel;by_cases hlt:n<3
   ·have hn3:n=0 ∨ n=1 ∨ n=2:=by omega
    clear hn hlt;rcases hn3 with rfl|rfl|rfl
    ·have ix:=fun W=>idx0 (.slice p0 L0.length d0) (.slice p1 L1.length d1) (.slice p2 L2.length d2) W
     have HR:=h_ (fun W (k:Lib.OthersKept 164 (some (w.heap.size+1)) wl W)=>qht (.slice p0 L0.length d0) L0 W (qao (qe1 H0.out k (by decide) hfl) HL0));have hl0:(L0.length:Int)<=1000000000:=by omega
     generalize hO:qcn L0=OR at HR;have HO:=h_ hO;clear hO
     go_upto_region 6 with(fail)
     go_cut [] (fun wx=>FS w (w.heap.size+1) [] (-1) wl ((ga,#[.slice p0 L0.length d0,.slice p1 L1.length d1,.slice p2 L2.length d2],142) :: BLK) (0+1) (headN L0 L1 L2 0 ++ un [] (-1) (decide (L0.length<=64)) 3) wx)
     case first=>
      go_wp2_with (go_at_call 80;(with_reducible refine(hFS.unless (by omega) _ _).mono ?_);rintro e w9 ⟨rfl,h9⟩;have hend:=h_ h9;clear h9)
      all_goals go_meet
      all_goals exact hend.out.okc (by rw [Bool.eq_iff_iff];simp;try omega)
     case rest=>
      clear hFS;have hFS:=hcut;clear hcut
      go_wp2_with (first
       | (go_at_call 81;(with_reducible refine(HR.out _ (FS.oth hFS)).mono ?_);rintro e w1 ⟨rfl,g1⟩;have hF1:=FS.bel hFS g1;clear g1)
       | (go_at_call 80;(with_reducible refine(hF1.unless (by omega) _ _).mono ?_);rintro e w9 ⟨rfl,h9⟩;have hend:=h_ h9;clear h9))
      refine⟨⟨1,by omega,rfl,?_⟩,by simp [intOf]⟩;have:=hend.out;rw [←HO.out,List.append_assoc, ←qee]at this;exact this
    ·have ix:=fun W=>idx1 (.slice p0 L0.length d0) (.slice p1 L1.length d1) (.slice p2 L2.length d2) W
     have HR:=h_ (fun W (k:Lib.OthersKept 164 (some (w.heap.size+1)) wl W)=>qht (.slice p1 L1.length d1) L1 W (qao (qe1 H1.out k (by decide) hfl) HL1));have hl0:(L1.length:Int)<=1000000000:=by omega
     generalize hO:qcn L1=OR at HR;have HO:=h_ hO;clear hO
     go_upto_region 6 with(fail)
     go_cut [] (fun wx=>FS w (w.heap.size+1) [] (-1) wl ((ga,#[.slice p0 L0.length d0,.slice p1 L1.length d1,.slice p2 L2.length d2],142) :: BLK) (2+1) (headN L0 L1 L2 1 ++ un [] (-1) (decide (L1.length<=64)) 3) wx)
     case first=>
      go_wp2_with (go_at_call 80;(with_reducible refine(hFS.unless (by omega) _ _).mono ?_);rintro e w9 ⟨rfl,h9⟩;have hend:=h_ h9;clear h9)
      all_goals go_meet
      all_goals exact hend.out.okc (by rw [Bool.eq_iff_iff];simp;try omega)
     case rest=>
      clear hFS;have hFS:=hcut;clear hcut
      go_wp2_with (first
       | (go_at_call 81;(with_reducible refine(HR.out _ (FS.oth hFS)).mono ?_);rintro e w1 ⟨rfl,g1⟩;have hF1:=FS.bel hFS g1;clear g1)
       | (go_at_call 80;(with_reducible refine(hF1.unless (by omega) _ _).mono ?_);rintro e w9 ⟨rfl,h9⟩;have hend:=h_ h9;clear h9))
      refine⟨⟨2,by omega,rfl,?_⟩,by simp [intOf]⟩;have:=hend.out;rw [←HO.out,List.append_assoc, ←qee]at this;exact this
    ·have ix:=fun W=>idx2 (.slice p0 L0.length d0) (.slice p1 L1.length d1) (.slice p2 L2.length d2) W
     have HR:=h_ (fun W (k:Lib.OthersKept 164 (some (w.heap.size+1)) wl W)=>qht (.slice p2 L2.length d2) L2 W (qao (qe1 H2.out k (by decide) hfl) HL2));have hl0:(L2.length:Int)<=1000000000:=by omega
     generalize hO:qcn L2=OR at HR;have HO:=h_ hO;clear hO
     go_upto_region 6 with(fail)
     go_cut [] (fun wx=>FS w (w.heap.size+1) [] (-1) wl ((ga,#[.slice p0 L0.length d0,.slice p1 L1.length d1,.slice p2 L2.length d2],142) :: BLK) (4+1) (headN L0 L1 L2 2 ++ un [] (-1) (decide (L2.length<=64)) 3) wx)
     case first=>
      go_wp2_with (go_at_call 80;(with_reducible refine(hFS.unless (by omega) _ _).mono ?_);rintro e w9 ⟨rfl,h9⟩;have hend:=h_ h9;clear h9)
      all_goals go_meet
      all_goals exact hend.out.okc (by rw [Bool.eq_iff_iff];simp;try omega)
     case rest=>
      clear hFS;have hFS:=hcut;clear hcut
      go_wp2_with (first
       | (go_at_call 81;(with_reducible refine(HR.out _ (FS.oth hFS)).mono ?_);rintro e w1 ⟨rfl,g1⟩;have hF1:=FS.bel hFS g1;clear g1)
       | (go_at_call 80;(with_reducible refine(hF1.unless (by omega) _ _).mono ?_);rintro e w9 ⟨rfl,h9⟩;have hend:=h_ h9;clear h9))
      refine⟨⟨3,by omega,rfl,?_⟩,by simp [intOf]⟩;have:=hend.out;rw [←HO.out,List.append_assoc, ←qee]at this;exact this
   ·have hn3:n=3:=by omega
    subst hn3;have HA:=h_ (fun W (k:Lib.OthersKept 164 (some (w.heap.size+1)) wl W)=>ck_apart _ _ _ L0 L1 L2 W (qao (qe1 H0.out k (by decide) hfl) HL0) (qao (qe1 H1.out k (by decide) hfl) HL1) (qao (qe1 H2.out k (by decide) hfl) HL2));generalize apart L0 L1 L2=OA at HA HV;have kka:=hFS.cell ba
    go_upto_region 9 with(fail)
    go_cut [] (fun wx=>FS w (w.heap.size+1) [] (-1) wl ((ga,#[.slice p0 L0.length d0,.slice p1 L1.length d1,.slice p2 L2.length d2],142) :: BLK) 7 (headN L0 L1 L2 3 ++ un [] (-1) OA 9) wx)
    case first=>
     go_wp2_with (first
      | (go_at_call 82;(with_reducible refine(HA.out _ (FS.oth hFS)).mono ?_);rintro e w1 ⟨rfl,g1⟩;have hF1:=FS.bel hFS g1;clear g1)
      | (go_at_call 80;(with_reducible refine(hF1.unless (by omega) _ _).mono ?_);rintro e w9 ⟨rfl,h9⟩;have hend:=h_ h9;clear h9))
     go_meet;exact hend.out
    case rest=>
     clear hFS kka;have hFS:=hcut;clear hcut;have kk1:=hFS.cell b1
     go_upto_region 10 with(fail)
     go_cut [7] (fun s7 wx => ∃Bm kf,s7=.map (some Bm)/\FS w (w.heap.size+1) [] (-1) wx ((ga,#[.slice p0 L0.length d0,.slice p1 L1.length d1,.slice p2 L2.length d2],142) :: BLK) 7 (headN L0 L1 L2 3 ++ un [] (-1) OA 9) wx/\MapIs qc1 wx Bm kf (boolF (qci s)))
     case first=>
      go_wp2_with (go_at_call 83;(with_reducible refine(CF.out _ (FS.bel0 hFS)).mono ?_);rintro e w1 ⟨Bm,kf,rfl,hmp,g1⟩;have hF1:=h_ (FS.rebase (FS.bel hFS g1));have HMP:=h_ hmp;clear g1 hmp)
      go_meet;exact⟨Bm,kf,rfl,hF1.out,HMP.out⟩
     case rest=>
      clear hFS kk1;obtain⟨Bm,kf,hs7,hFS,hmp⟩:=hcut;subst hs7;generalize qci s=fin at hmp HV
      have hbm:Bm ≠ w.heap.size+1:=by
       obtain⟨⟨_,_,hb,_⟩,_⟩:=hFS;exact map_ne hmp hb
      have HMP:=h_ hmp;clear hmp;obtain⟨wl2,hwl2⟩ : ∃wl2,wl2=wc:=⟨_,rfl⟩;subst hwl2;have CI:=h_ (fun(m:PMsg) (hm:m ∈ s.msgs) (n1:Str) (a1 a2 a3 a4:Option Addr) (m1 m2 m3 m4 y1 y2 y3 y4:Nat) W (k:Bel w W) (hv:VMsg W [.string (S n1),.slice a1 m1 y1,.slice a2 m2 y2,.slice a3 m3 y3,.slice a4 m4 y4] m) (hmm:MapIs qc1 W Bm kf (boolF fin))=>qjz sq1 sq2 sq3 s.msgs.length s.enums.length s.svcs.length sc1 sc2 sc3 s n1 a1 a2 a3 a4 m1 m2 m3 m4 y1 y2 y3 y4 m fin Bm kf W (HS.out.stays_bel k) hv hmm (hM.below k) (HSM.out m hm).1 (HSM.out m hm).2.1 (HSM.out m hm).2.2.1 (HSM.out m hm).2.2.2.1 (HSM.out m hm).2.2.2.2.1 (HSM.out m hm).2.2.2.2.2.1 (HSM.out m hm).2.2.2.2.2.2);have CE:=h_ (fun(e:PEnum) (hm:e ∈ s.enums) (n1:Str) (op:Bool) (a1 a2 a3:Option Addr) (m1 m2 m3 y1 y2 y3:Nat) W (k:Bel w W) (hv:VEnum W [.string (S n1),.bool op,.slice a1 m1 y1,.slice a2 m2 y2,.slice a3 m3 y3] e)=>ck_Enum n1 op a1 a2 a3 m1 m2 m3 y1 y2 y3 e W hv (hM.below k) (HSE.out e hm).1 (HSE.out e hm).2.1 (HSE.out e hm).2.2.1 (HSE.out e hm).2.2.2.1 (HSE.out e hm).2.2.2.2);have CV:=h_ (fun(v:PSvc) (hm:v ∈ s.svcs) (n1:Str) (a1 a2:Option Addr) (m1 m2 y1 y2:Nat) W (k:Bel w W) (hv:VSvc W [.string (S n1),.slice a1 m1 y1,.slice a2 m2 y2] v)=>qou sq1 sq2 sq3 s.msgs.length s.enums.length s.svcs.length sc1 sc2 sc3 s n1 a1 a2 m1 m2 y1 y2 v W (HS.out.stays_bel k) hv (hM.below k) (HSV.out v hm).1 (HSV.out v hm).2.1 (HSV.out v hm).2.2.1 (HSV.out v hm).2.2.2);generalize hTM:s.msgs.flatMap (fun m=>qan s m fin)=TM at HV;generalize hTE:s.enums.flatMap enum=TE at HV;generalize hTV:s.svcs.flatMap (qax s)=TV at HV;have VM:=h_ (show [] ++ (s.msgs.drop 0).flatMap (fun m=>qan s m fin)=TM from hTM);have VE:=h_ (show [] ++ (s.enums.drop 0).flatMap enum=TE from hTE);have VV:=h_ (show [] ++ (s.svcs.drop 0).flatMap (qax s)=TV from hTV)
      have htot:(headN L0 L1 L2 3).length+(un [] (-1) OA 9).length+TM.length+TE.length+TV.length<=1000000000:=by
       have:=HALL.out;rw [HV.out]at this
       simpa only [List.length_append]using this
      clear hTM hTE hTV;have kk1:=hFS.cell b1;go_wp2
      go_loopw [41] (fun i wr => ∃(k N:Nat) (done:List PProb),k<=s.msgs.length/\i=.int .i64 k/\FS w (w.heap.size+1) [] (-1) wl2 ((ga,#[.slice p0 L0.length d0,.slice p1 L1.length d1,.slice p2 L2.length d2],142) :: BLK) N ((headN L0 L1 L2 3 ++ un [] (-1) OA 9) ++ done) wr/\MapIs qc1 wr Bm kf (boolF fin)/\Hid (done ++ (s.msgs.drop k).flatMap (fun m=>qan s m fin)=TM)) (fun i _=>s.msgs.length-(intOf i).toNat)
      case atStart=>exact⟨0,_,[],by omega,rfl,by rw [List.append_nil];exact hFS,HMP.out,VM⟩
      case round=>
       clear hFS kk1;obtain⟨k,N,done,hk,rfl,hFS,hmp,hgo⟩:=hrel;by_cases hlt:k<s.msgs.length
       ·have hki:(k:Int)<(s.msgs.length:Int):=by omega
        have hg:=List.getElem?_eq_getElem hlt;have hmem:s.msgs[k] ∈ s.msgs:=List.getElem_mem hlt;have hlist:=HM1.out;obtain⟨qq,cq,hqe,_,_,hel⟩:=hlist;cases hqe;obtain⟨b,off,hqq,hbs,cs,hce,hvs⟩:=hel k _ hg;have hdr:s.msgs.drop k=s.msgs[k] :: s.msgs.drop (k+1):=List.drop_eq_getElem_cons hlt;have hgo2:=h_ (show(done ++ (qan s s.msgs[k] fin)) ++ (s.msgs.drop (k+1)).flatMap (fun m=>qan s m fin)=TM by rw [←hgo.out,hdr,List.append_assoc];rfl)
        have hleng:done.length+(qan s s.msgs[k] fin).length<=TM.length:=by
         have:=congrArg List.length hgo2.out;simp only [List.length_append]at this;omega
        subst hqq;have hvs0:=h_ hvs;obtain⟨_,_,_,_,hvv,g1,g2,g3,g4⟩:=hvs;obtain⟨u1,y1,rfl,_⟩:=qa5 g1;obtain⟨u2,y2,rfl,_⟩:=qa5 g2;obtain⟨u3,y3,rfl,_⟩:=qa5 g3;obtain⟨u4,y4,rfl,_⟩:=qa5 g4;subst hvv;have hb0:=hFS.bel0;have e0:=hb0.some (hce 0 _ rfl);rw [Nat.add_zero]at e0;have e1:=hb0.some (hce 1 _ rfl);have e2:=hb0.some (hce 2 _ rfl);have e3:=hb0.some (hce 3 _ rfl);have e4:=hb0.some (hce 4 _ rfl);clear hce hgo hdr hg g1 g2 g3 g4 hel;generalize s.msgs[k]=x at *;have hadd:=FS.addb hFS #[.string (S x.name),.slice u1 x.fields.length y1,.slice u2 x.res.length y2,.slice u3 x.gone.length y3,.slice u4 x.notes.length y4] 44 (by decide);have bm:(wr.heap.size,#[.string (S x.name),.slice u1 x.fields.length y1,.slice u2 x.res.length y2,.slice u3 x.gone.length y3,.slice u4 x.notes.length y4],44) ∈ ((wr.heap.size,#[.string (S x.name),.slice u1 x.fields.length y1,.slice u2 x.res.length y2,.slice u3 x.gone.length y3,.slice u4 x.notes.length y4],44) :: ((ga,#[.slice p0 L0.length d0,.slice p1 L1.length d1,.slice p2 L2.length d2],142) :: BLK)):=List.mem_cons_self;obtain⟨v,z1,z2⟩:=hadd.out;have hpl:((headN L0 L1 L2 3 ++ un [] (-1) OA 9) ++ done).length<=1000000000:=by simp only [List.length_append];omega
        have hbig:((headN L0 L1 L2 3 ++ un [] (-1) OA 9) ++ done).length+(qan s x fin).length<=4000000000:=by simp only [List.length_append];omega
        have hlt0:w.heap.size<wr.heap.size:=Nat.lt_of_lt_of_le (Nat.lt_succ_self _) (Nat.le_of_lt hFS.lt);have hlt1:w.heap.size+1<wr.heap.size:=hFS.lt;have kk1:=hFS.cell b1;obtain⟨v0,zz,_⟩:=hFS.out
        have hvv0:v0=v:=by
         rw [World.cell?_alloc_past _ _ _ hlt1,zz]at z1
         simpa using z1
        rw [hvv0]at zz;clear hvv0;generalize hPD:(headN L0 L1 L2 3 ++ un [] (-1) OA 9) ++ done=PD at hpl hbig hadd z2;have HPD:=h_ hPD;clear hPD
        have hKS : ∀w',Bel (wr.alloc (.cells #[.string (S x.name),.slice u1 x.fields.length y1,.slice u2 x.res.length y2,.slice u3 x.gone.length y3,.slice u4 x.notes.length y4] 44)) w'->w'.cell? ⟨w.heap.size,0,none⟩=some (.slice (some ⟨b,off,none⟩) s.msgs.length sc1)/\w'.cell? ⟨w.heap.size,1,none⟩=some (.slice sq2 s.enums.length sc2)/\w'.cell? ⟨w.heap.size,2,none⟩=some (.slice sq3 s.svcs.length sc3)/\w'.cell? ⟨wr.heap.size,0,none⟩=some (.string (S x.name))/\w'.cell? ⟨wr.heap.size,1,none⟩=some (.slice u1 x.fields.length y1)/\w'.cell? ⟨wr.heap.size,2,none⟩=some (.slice u2 x.res.length y2)/\w'.cell? ⟨wr.heap.size,3,none⟩=some (.slice u3 x.gone.length y3)/\w'.cell? ⟨wr.heap.size,4,none⟩=some (.slice u4 x.notes.length y4)/\w'.cell? ⟨w.heap.size+1,2,none⟩=some v:=fun w' kq=>by
         have f1:=(hadd.bel kq).cell (List.mem_cons_of_mem _ b1);have f2:=(hadd.bel kq).cell bm;exact⟨f1 0,f1 1,f1 2,f2 0,f2 1,f2 2,f2 3,f2 4,kq.some z1⟩
        have KS:=h_ hKS;have OWN:=h_ (fun w' (kq:Bel (wr.alloc (.cells #[.string (S x.name),.slice u1 x.fields.length y1,.slice u2 x.res.length y2,.slice u3 x.gone.length y3,.slice u4 x.notes.length y4] 44)) w')=>qd0 z2 kq);have HADD:=h_ hadd;have kwA:Bel w (wr.alloc (.cells #[.string (S x.name),.slice u1 x.fields.length y1,.slice u2 x.res.length y2,.slice u3 x.gone.length y3,.slice u4 x.notes.length y4] 44)):=hadd.bel0;have C1:=h_ (fun W (kq:Bel (wr.alloc (.cells #[.string (S x.name),.slice u1 x.fields.length y1,.slice u2 x.res.length y2,.slice u3 x.gone.length y3,.slice u4 x.notes.length y4] 44)) W)=>CI.out _ hmem _ _ _ _ _ _ _ _ _ _ _ _ _ W (Bel.of kwA kq) (VMsg.stays _ _ _ _ (Bel.of kwA kq) hvs0.out) ((hmp.bel ((Bel.refl wr).alloc _)).bel kq));clear hKS hadd z1 z2 hFS hb0;generalize hF:(qan s x fin)=FX at C1 hgo2 hbig hleng;clear hF
        go_upto_region 14 with(fail)
        (try clear CI);(try clear CE);(try clear CV);(try clear VE);(try clear VV);(try clear VM);(try clear HV);(try clear HM1);(try clear HM2);(try clear HM3);(try clear HS);(try clear HSM);(try clear HSE);(try clear HSV);(try clear HALL);(try clear CF);(try clear CL);(try clear H0);(try clear H1);(try clear H2);(try clear KV);(try clear CZ);(try clear HMP);(try clear hvs0);(try clear hmem);(try clear hM);(try clear hfl);(try clear ba);(try clear htot);(try clear hleng);(try clear hpl);(try clear hle1);(try clear hle2);(try clear hle3);(try clear HL0);(try clear HL1);(try clear HL2);(try clear hlen);(try clear e0);(try clear e1);(try clear e2);(try clear e3);(try clear e4);(try clear hlist)
        obtain⟨wd,hwd⟩ : ∃wd,wd=((wr.alloc (.cells #[.string (S x.name),.slice u1 x.fields.length y1,.slice u2 x.res.length y2,.slice u3 x.gone.length y3,.slice u4 x.notes.length y4] 44))).drew:=⟨_,rfl⟩;have kd:Bel (wr.alloc (.cells #[.string (S x.name),.slice u1 x.fields.length y1,.slice u2 x.res.length y2,.slice u3 x.gone.length y3,.slice u4 x.notes.length y4] 44)) wd:=by rw [hwd];exact(Bel.refl _).drew
        have HWD:=h_ hwd;clear hwd;refine qak (fun W=>W.cell? ⟨w.heap.size,0,none⟩=some (.slice (some ⟨b,off,none⟩) s.msgs.length sc1)/\W.cell? ⟨w.heap.size,1,none⟩=some (.slice sq2 s.enums.length sc2)/\W.cell? ⟨w.heap.size,2,none⟩=some (.slice sq3 s.svcs.length sc3)/\W.cell? ⟨wr.heap.size,0,none⟩=some (.string (S x.name))/\W.cell? ⟨wr.heap.size,1,none⟩=some (.slice u1 x.fields.length y1)/\W.cell? ⟨wr.heap.size,2,none⟩=some (.slice u2 x.res.length y2)/\W.cell? ⟨wr.heap.size,3,none⟩=some (.slice u3 x.gone.length y3)/\W.cell? ⟨wr.heap.size,4,none⟩=some (.slice u4 x.notes.length y4)/\W.cell? ⟨w.heap.size+1,2,none⟩=some v) [(0,true),(1,true),(2,true),(3,true),(4,true),(5,true),(6,true),(7,true),(8,false),(9,false)] 10 (by kernel_rfl) (by kernel_rfl) HWD.out (KS.out _ kd) ?_;simp only [qb3,List.getElem?_cons_zero,List.getElem?_cons_succ]
        (with_reducible refine qa1 (v:=?vv113) (by with_unfolding_all rfl) (fun W hW=>?hy113) ?hr113);(case hy113=>((try dsimp only at hW);go_simp;(all_goals with_reducible rfl)));(simp only [Act.put,z_1,z_2,z_3])
        (with_reducible refine qa1 (v:=?vv114) (by with_unfolding_all rfl) (fun W hW=>?hy114) ?hr114);(case hy114=>((try dsimp only at hW);go_simp;(all_goals with_reducible rfl)));(simp only [Act.put,z_1,z_2,z_3])
        (with_reducible refine qa1 (v:=?vv115) (by with_unfolding_all rfl) (fun W hW=>?hy115) ?hr115);(case hy115=>((try dsimp only at hW);go_simp;(all_goals with_reducible rfl)));(simp only [Act.put,z_1,z_2,z_3])
        (with_reducible refine qa1 (v:=?vv116) (by with_unfolding_all rfl) (fun W hW=>?hy116) ?hr116);(case hy116=>((try dsimp only at hW);go_simp;(all_goals with_reducible rfl)));(simp only [Act.put,z_1,z_2,z_3])
        (with_reducible refine qa1 (v:=?vv117) (by with_unfolding_all rfl) (fun W hW=>?hy117) ?hr117);(case hy117=>((try dsimp only at hW);go_simp;(all_goals with_reducible rfl)));(simp only [Act.put,z_1,z_2,z_3])
        (with_reducible refine qa1 (v:=?vv118) (by with_unfolding_all rfl) (fun W hW=>?hy118) ?hr118);(case hy118=>((try dsimp only at hW);go_simp;(all_goals with_reducible rfl)));(simp only [Act.put,z_1,z_2,z_3])
        (with_reducible refine qa1 (v:=?vv119) (by with_unfolding_all rfl) (fun W hW=>?hy119) ?hr119);(case hy119=>((try dsimp only at hW);go_simp;(all_goals with_reducible rfl)));(simp only [Act.put,z_1,z_2,z_3])
        (with_reducible refine qa1 (v:=?vv120) (by with_unfolding_all rfl) (fun W hW=>?hy120) ?hr120);(case hy120=>((try dsimp only at hW);go_simp;(all_goals with_reducible rfl)));(simp only [Act.put,z_1,z_2,z_3])
        with_reducible refine qaj (fun K hK=>?_)
        go_simp
        with_reducible refine(C1.out _ kd).mono ?_
        rintro e w1 ⟨v2,rfl,own2,g1⟩;have k1:Bel (wr.alloc (.cells #[.string (S x.name),.slice u1 x.fields.length y1,.slice u2 x.res.length y2,.slice u3 x.gone.length y3,.slice u4 x.notes.length y4] 44)) w1:=Bel.of kd g1;have OWN2:=h_ own2;have OWN1:=h_ (OWN.out _ k1);have hB1:=(Bel.of kwA k1).size;have HF1:=h_ (HADD.out.bel k1);have HS1:=h_ (KS.out _ k1);clear g1 own2;refine hK _ _ HS1.out ?_;clear hK K
        (try simp only [Act.put,z_1,z_2,z_3])
        with_reducible refine qaj (fun K hK=>?_)
        refine qeb (by rfl) _ _ (by rfl) w.heap.size _ v v2 _ _ _ _ (by rfl) (by rfl) OWN1.out OWN2.out (qed _) hbig hB1 ?_;intro q cap w2 r1 r2 r3;have HP:=h_ (FS.app HF1.out (HS1.out).2.2.2.2.2.2.2.2 r1 r2 r3);clear r1 r2 r3;have c2:=HP.out.2.1;have f2:=HP.out.2.2.1;have HB2:=h_ (HP.out.2.2.2);have sb:=(Lib.cell_of_heap (HB2.out _ (List.mem_cons_of_mem _ b1)));have sm:=(Lib.cell_of_heap (HB2.out _ bm));refine hK _ _ ⟨(sb 0).trans rfl,(sb 1).trans rfl,(sb 2).trans rfl,(sm 0).trans rfl,(sm 1).trans rfl,(sm 2).trans rfl,(sm 3).trans rfl,(sm 4).trans rfl,c2⟩ ?_;clear hK K
        (try simp only [Act.put,z_1,z_2,z_3])
        refine qbm ?_;simp only [t_3,t_4];go_wp2;refine⟨⟨k+1,by omega,by omega,N+FX.length,done ++ FX,?hfs0,map_oth ((hmp.bel ((Bel.refl wr).alloc _)).bel k1) HP.out.1.2 hbm,hgo2⟩,by simp [intOf];omega⟩
        case hfs0=>
         have eq1:=congrArg (· ++ FX) HPD.out;simp only [List.append_assoc]at eq1
         (try simp only [List.append_assoc])
         rw [eq1];exact HP.out.1.1.dropb
       ·have hkl:k=s.msgs.length:=by omega
        have hdn:done=TM:=by
         have:=hgo.out;rw [hkl,List.drop_length]at this
         simpa using this
        rw [hdn]at hFS;clear hgo hdn;have kk1:=hFS.cell b1;go_wp2
        go_loopw [61] (fun i wr => ∃(k N:Nat) (done:List PProb),k<=s.enums.length/\i=.int .i64 k/\FS w (w.heap.size+1) [] (-1) wl2 ((ga,#[.slice p0 L0.length d0,.slice p1 L1.length d1,.slice p2 L2.length d2],142) :: BLK) N (((headN L0 L1 L2 3 ++ un [] (-1) OA 9) ++ TM) ++ done) wr/\Hid (done ++ (s.enums.drop k).flatMap enum=TE)) (fun i _=>s.enums.length-(intOf i).toNat)
        case atStart=>exact⟨0,_,[],by omega,rfl,by rw [List.append_nil];exact hFS,VE⟩
        case round=>
         clear hFS kk1;obtain⟨k,N,done,hk,rfl,hFS,hgo⟩:=hrel;by_cases hlt:k<s.enums.length
         ·have hki:(k:Int)<(s.enums.length:Int):=by omega
          have hg:=List.getElem?_eq_getElem hlt;have hmem:s.enums[k] ∈ s.enums:=List.getElem_mem hlt;have hlist:=HM2.out;obtain⟨qq,cq,hqe,_,_,hel⟩:=hlist;cases hqe;obtain⟨b,off,hqq,hbs,cs,hce,hvs⟩:=hel k _ hg;have hdr:s.enums.drop k=s.enums[k] :: s.enums.drop (k+1):=List.drop_eq_getElem_cons hlt;have hgo2:=h_ (show(done ++ (enum s.enums[k])) ++ (s.enums.drop (k+1)).flatMap enum=TE by rw [←hgo.out,hdr,List.append_assoc];rfl)
          have hleng:done.length+(enum s.enums[k]).length<=TE.length:=by
           have:=congrArg List.length hgo2.out;simp only [List.length_append]at this;omega
          subst hqq;have hvs0:=h_ hvs;obtain⟨_,_,_,hvv,g1,g2,g3⟩:=hvs;obtain⟨u1,y1,rfl,_⟩:=qa5 g1;obtain⟨u2,y2,rfl,_⟩:=qa5 g2;obtain⟨u3,y3,rfl,_⟩:=qa5 g3;subst hvv;have hb0:=hFS.bel0;have e0:=hb0.some (hce 0 _ rfl);rw [Nat.add_zero]at e0;have e1:=hb0.some (hce 1 _ rfl);have e2:=hb0.some (hce 2 _ rfl);have e3:=hb0.some (hce 3 _ rfl);have e4:=hb0.some (hce 4 _ rfl);clear hce hgo hdr hg g1 g2 g3 hel;generalize s.enums[k]=x at *;have hadd:=FS.addb hFS #[.string (S x.name),.bool x.op,.slice u1 x.items.length y1,.slice u2 x.res.length y2,.slice u3 x.notes.length y3] 74 (by decide);have bm:(wr.heap.size,#[.string (S x.name),.bool x.op,.slice u1 x.items.length y1,.slice u2 x.res.length y2,.slice u3 x.notes.length y3],74) ∈ ((wr.heap.size,#[.string (S x.name),.bool x.op,.slice u1 x.items.length y1,.slice u2 x.res.length y2,.slice u3 x.notes.length y3],74) :: ((ga,#[.slice p0 L0.length d0,.slice p1 L1.length d1,.slice p2 L2.length d2],142) :: BLK)):=List.mem_cons_self;obtain⟨v,z1,z2⟩:=hadd.out;have hpl:(((headN L0 L1 L2 3 ++ un [] (-1) OA 9) ++ TM) ++ done).length<=1000000000:=by simp only [List.length_append];omega
          have hbig:(((headN L0 L1 L2 3 ++ un [] (-1) OA 9) ++ TM) ++ done).length+(enum x).length<=4000000000:=by simp only [List.length_append];omega
          have hlt0:w.heap.size<wr.heap.size:=Nat.lt_of_lt_of_le (Nat.lt_succ_self _) (Nat.le_of_lt hFS.lt);have hlt1:w.heap.size+1<wr.heap.size:=hFS.lt;have kk1:=hFS.cell b1;obtain⟨v0,zz,_⟩:=hFS.out
          have hvv0:v0=v:=by
           rw [World.cell?_alloc_past _ _ _ hlt1,zz]at z1
           simpa using z1
          rw [hvv0]at zz;clear hvv0;generalize hPD:((headN L0 L1 L2 3 ++ un [] (-1) OA 9) ++ TM) ++ done=PD at hpl hbig hadd z2;have HPD:=h_ hPD;clear hPD
          have hKS : ∀w',Bel (wr.alloc (.cells #[.string (S x.name),.bool x.op,.slice u1 x.items.length y1,.slice u2 x.res.length y2,.slice u3 x.notes.length y3] 74)) w'->w'.cell? ⟨wr.heap.size,0,none⟩=some (.string (S x.name))/\w'.cell? ⟨wr.heap.size,1,none⟩=some (.bool x.op)/\w'.cell? ⟨wr.heap.size,2,none⟩=some (.slice u1 x.items.length y1)/\w'.cell? ⟨wr.heap.size,3,none⟩=some (.slice u2 x.res.length y2)/\w'.cell? ⟨wr.heap.size,4,none⟩=some (.slice u3 x.notes.length y3)/\w'.cell? ⟨w.heap.size+1,2,none⟩=some v:=fun w' kq=>by
           have f1:=(hadd.bel kq).cell (List.mem_cons_of_mem _ b1);have f2:=(hadd.bel kq).cell bm;exact⟨f2 0,f2 1,f2 2,f2 3,f2 4,kq.some z1⟩
          have KS:=h_ hKS;have OWN:=h_ (fun w' (kq:Bel (wr.alloc (.cells #[.string (S x.name),.bool x.op,.slice u1 x.items.length y1,.slice u2 x.res.length y2,.slice u3 x.notes.length y3] 74)) w')=>qd0 z2 kq);have HADD:=h_ hadd;have kwA:Bel w (wr.alloc (.cells #[.string (S x.name),.bool x.op,.slice u1 x.items.length y1,.slice u2 x.res.length y2,.slice u3 x.notes.length y3] 74)):=hadd.bel0;have C1:=h_ (fun W (kq:Bel (wr.alloc (.cells #[.string (S x.name),.bool x.op,.slice u1 x.items.length y1,.slice u2 x.res.length y2,.slice u3 x.notes.length y3] 74)) W)=>CE.out _ hmem _ _ _ _ _ _ _ _ _ _ _ W (Bel.of kwA kq) (VEnum.stays _ _ _ _ (Bel.of kwA kq) hvs0.out));clear hKS hadd z1 z2 hFS hb0;generalize hF:(enum x)=FX at C1 hgo2 hbig hleng;clear hF
          go_upto_region 19 with(fail)
          (try clear CI);(try clear CE);(try clear CV);(try clear VE);(try clear VV);(try clear VM);(try clear HV);(try clear HM1);(try clear HM2);(try clear HM3);(try clear HS);(try clear HSM);(try clear HSE);(try clear HSV);(try clear HALL);(try clear CF);(try clear CL);(try clear H0);(try clear H1);(try clear H2);(try clear KV);(try clear CZ);(try clear HMP);(try clear hvs0);(try clear hmem);(try clear hM);(try clear hfl);(try clear ba);(try clear htot);(try clear hleng);(try clear hpl);(try clear hle1);(try clear hle2);(try clear hle3);(try clear HL0);(try clear HL1);(try clear HL2);(try clear hlen);(try clear e0);(try clear e1);(try clear e2);(try clear e3);(try clear e4);(try clear hlist)
          obtain⟨wd,hwd⟩ : ∃wd,wd=((wr.alloc (.cells #[.string (S x.name),.bool x.op,.slice u1 x.items.length y1,.slice u2 x.res.length y2,.slice u3 x.notes.length y3] 74))).drew:=⟨_,rfl⟩;have kd:Bel (wr.alloc (.cells #[.string (S x.name),.bool x.op,.slice u1 x.items.length y1,.slice u2 x.res.length y2,.slice u3 x.notes.length y3] 74)) wd:=by rw [hwd];exact(Bel.refl _).drew
          have HWD:=h_ hwd;clear hwd;refine qak (fun W=>W.cell? ⟨wr.heap.size,0,none⟩=some (.string (S x.name))/\W.cell? ⟨wr.heap.size,1,none⟩=some (.bool x.op)/\W.cell? ⟨wr.heap.size,2,none⟩=some (.slice u1 x.items.length y1)/\W.cell? ⟨wr.heap.size,3,none⟩=some (.slice u2 x.res.length y2)/\W.cell? ⟨wr.heap.size,4,none⟩=some (.slice u3 x.notes.length y3)/\W.cell? ⟨w.heap.size+1,2,none⟩=some v) [(0,true),(1,true),(2,true),(3,true),(4,true),(5,true),(6,false),(7,false)] 8 (by kernel_rfl) (by kernel_rfl) HWD.out (KS.out _ kd) ?_;simp only [qb3,List.getElem?_cons_zero,List.getElem?_cons_succ]
          (with_reducible refine qa1 (v:=?vv121) (by with_unfolding_all rfl) (fun W hW=>?hy121) ?hr121);(case hy121=>((try dsimp only at hW);go_simp;(all_goals with_reducible rfl)));(simp only [Act.put,z_1,z_2,z_3])
          (with_reducible refine qa1 (v:=?vv122) (by with_unfolding_all rfl) (fun W hW=>?hy122) ?hr122);(case hy122=>((try dsimp only at hW);go_simp;(all_goals with_reducible rfl)));(simp only [Act.put,z_1,z_2,z_3])
          (with_reducible refine qa1 (v:=?vv123) (by with_unfolding_all rfl) (fun W hW=>?hy123) ?hr123);(case hy123=>((try dsimp only at hW);go_simp;(all_goals with_reducible rfl)));(simp only [Act.put,z_1,z_2,z_3])
          (with_reducible refine qa1 (v:=?vv124) (by with_unfolding_all rfl) (fun W hW=>?hy124) ?hr124);(case hy124=>((try dsimp only at hW);go_simp;(all_goals with_reducible rfl)));(simp only [Act.put,z_1,z_2,z_3])
          (with_reducible refine qa1 (v:=?vv125) (by with_unfolding_all rfl) (fun W hW=>?hy125) ?hr125);(case hy125=>((try dsimp only at hW);go_simp;(all_goals with_reducible rfl)));(simp only [Act.put,z_1,z_2,z_3])
          (with_reducible refine qa1 (v:=?vv126) (by with_unfolding_all rfl) (fun W hW=>?hy126) ?hr126);(case hy126=>((try dsimp only at hW);go_simp;(all_goals with_reducible rfl)));(simp only [Act.put,z_1,z_2,z_3])
          with_reducible refine qaj (fun K hK=>?_)
          go_simp
          with_reducible refine(C1.out _ kd).mono ?_
          rintro e w1 ⟨v2,rfl,own2,g1⟩;have k1:Bel (wr.alloc (.cells #[.string (S x.name),.bool x.op,.slice u1 x.items.length y1,.slice u2 x.res.length y2,.slice u3 x.notes.length y3] 74)) w1:=Bel.of kd g1;have OWN2:=h_ own2;have OWN1:=h_ (OWN.out _ k1);have hB1:=(Bel.of kwA k1).size;have HF1:=h_ (HADD.out.bel k1);have HS1:=h_ (KS.out _ k1);clear g1 own2;refine hK _ _ HS1.out ?_;clear hK K
          (try simp only [Act.put,z_1,z_2,z_3])
          with_reducible refine qaj (fun K hK=>?_)
          refine qeb (by rfl) _ _ (by rfl) w.heap.size _ v v2 _ _ _ _ (by rfl) (by rfl) OWN1.out OWN2.out (qed _) hbig hB1 ?_;intro q cap w2 r1 r2 r3;have HP:=h_ (FS.app HF1.out (HS1.out).2.2.2.2.2 r1 r2 r3);clear r1 r2 r3;have c2:=HP.out.2.1;have f2:=HP.out.2.2.1;have HB2:=h_ (HP.out.2.2.2);have sb:=(Lib.cell_of_heap (HB2.out _ (List.mem_cons_of_mem _ b1)));have sm:=(Lib.cell_of_heap (HB2.out _ bm));refine hK _ _ ⟨(sm 0).trans rfl,(sm 1).trans rfl,(sm 2).trans rfl,(sm 3).trans rfl,(sm 4).trans rfl,c2⟩ ?_;clear hK K
          (try simp only [Act.put,z_1,z_2,z_3])
          refine qbm ?_;simp only [t_3,t_4];go_wp2;refine⟨⟨k+1,by omega,by omega,N+FX.length,done ++ FX,?hfs1,  hgo2⟩,by simp [intOf];omega⟩
          case hfs1=>
           have eq1:=congrArg (· ++ FX) HPD.out;simp only [List.append_assoc]at eq1
           (try simp only [List.append_assoc])
           rw [eq1];exact HP.out.1.1.dropb
         ·have hkl:k=s.enums.length:=by omega
          have hdn:done=TE:=by
           have:=hgo.out;rw [hkl,List.drop_length]at this
           simpa using this
          rw [hdn]at hFS;clear hgo hdn;have kk1:=hFS.cell b1;go_wp2
          go_loopw [79] (fun i wr => ∃(k N:Nat) (done:List PProb),k<=s.svcs.length/\i=.int .i64 k/\FS w (w.heap.size+1) [] (-1) wl2 ((ga,#[.slice p0 L0.length d0,.slice p1 L1.length d1,.slice p2 L2.length d2],142) :: BLK) N (((headN L0 L1 L2 3 ++ un [] (-1) OA 9) ++ TM ++ TE) ++ done) wr/\Hid (done ++ (s.svcs.drop k).flatMap (qax s)=TV)) (fun i _=>s.svcs.length-(intOf i).toNat)
          case atStart=>exact⟨0,_,[],by omega,rfl,by rw [List.append_nil];exact hFS,VV⟩
          case round=>
           clear hFS kk1;obtain⟨k,N,done,hk,rfl,hFS,hgo⟩:=hrel;by_cases hlt:k<s.svcs.length
           ·have hki:(k:Int)<(s.svcs.length:Int):=by omega
            have hg:=List.getElem?_eq_getElem hlt;have hmem:s.svcs[k] ∈ s.svcs:=List.getElem_mem hlt;have hlist:=HM3.out;obtain⟨qq,cq,hqe,_,_,hel⟩:=hlist;cases hqe;obtain⟨b,off,hqq,hbs,cs,hce,hvs⟩:=hel k _ hg;have hdr:s.svcs.drop k=s.svcs[k] :: s.svcs.drop (k+1):=List.drop_eq_getElem_cons hlt;have hgo2:=h_ (show(done ++ (qax s s.svcs[k])) ++ (s.svcs.drop (k+1)).flatMap (qax s)=TV by rw [←hgo.out,hdr,List.append_assoc];rfl)
            have hleng:done.length+(qax s s.svcs[k]).length<=TV.length:=by
             have:=congrArg List.length hgo2.out;simp only [List.length_append]at this;omega
            subst hqq;have hvs0:=h_ hvs;obtain⟨_,_,hvv,g1,g2⟩:=hvs;obtain⟨u1,y1,rfl,_⟩:=qa5 g1;obtain⟨u2,y2,rfl,_⟩:=qa5 g2;subst hvv;have hb0:=hFS.bel0;have e0:=hb0.some (hce 0 _ rfl);rw [Nat.add_zero]at e0;have e1:=hb0.some (hce 1 _ rfl);have e2:=hb0.some (hce 2 _ rfl);clear hce hgo hdr hg g1 g2 hel;generalize s.svcs[k]=x at *;have hadd:=FS.addb hFS #[.string (S x.name),.slice u1 x.meths.length y1,.slice u2 x.notes.length y2] 68 (by decide);have bm:(wr.heap.size,#[.string (S x.name),.slice u1 x.meths.length y1,.slice u2 x.notes.length y2],68) ∈ ((wr.heap.size,#[.string (S x.name),.slice u1 x.meths.length y1,.slice u2 x.notes.length y2],68) :: ((ga,#[.slice p0 L0.length d0,.slice p1 L1.length d1,.slice p2 L2.length d2],142) :: BLK)):=List.mem_cons_self;obtain⟨v,z1,z2⟩:=hadd.out;have hpl:(((headN L0 L1 L2 3 ++ un [] (-1) OA 9) ++ TM ++ TE) ++ done).length<=1000000000:=by simp only [List.length_append];omega
            have hbig:(((headN L0 L1 L2 3 ++ un [] (-1) OA 9) ++ TM ++ TE) ++ done).length+(qax s x).length<=4000000000:=by simp only [List.length_append];omega
            have hlt0:w.heap.size<wr.heap.size:=Nat.lt_of_lt_of_le (Nat.lt_succ_self _) (Nat.le_of_lt hFS.lt);have hlt1:w.heap.size+1<wr.heap.size:=hFS.lt;have kk1:=hFS.cell b1;obtain⟨v0,zz,_⟩:=hFS.out
            have hvv0:v0=v:=by
             rw [World.cell?_alloc_past _ _ _ hlt1,zz]at z1
             simpa using z1
            rw [hvv0]at zz;clear hvv0;generalize hPD:((headN L0 L1 L2 3 ++ un [] (-1) OA 9) ++ TM ++ TE) ++ done=PD at hpl hbig hadd z2;have HPD:=h_ hPD;clear hPD
            have hKS : ∀w',Bel (wr.alloc (.cells #[.string (S x.name),.slice u1 x.meths.length y1,.slice u2 x.notes.length y2] 68)) w'->w'.cell? ⟨w.heap.size,0,none⟩=some (.slice sq1 s.msgs.length sc1)/\w'.cell? ⟨w.heap.size,1,none⟩=some (.slice sq2 s.enums.length sc2)/\w'.cell? ⟨w.heap.size,2,none⟩=some (.slice (some ⟨b,off,none⟩) s.svcs.length sc3)/\w'.cell? ⟨wr.heap.size,0,none⟩=some (.string (S x.name))/\w'.cell? ⟨wr.heap.size,1,none⟩=some (.slice u1 x.meths.length y1)/\w'.cell? ⟨wr.heap.size,2,none⟩=some (.slice u2 x.notes.length y2)/\w'.cell? ⟨w.heap.size+1,2,none⟩=some v:=fun w' kq=>by
             have f1:=(hadd.bel kq).cell (List.mem_cons_of_mem _ b1);have f2:=(hadd.bel kq).cell bm;exact⟨f1 0,f1 1,f1 2,f2 0,f2 1,f2 2,kq.some z1⟩
            have KS:=h_ hKS;have OWN:=h_ (fun w' (kq:Bel (wr.alloc (.cells #[.string (S x.name),.slice u1 x.meths.length y1,.slice u2 x.notes.length y2] 68)) w')=>qd0 z2 kq);have HADD:=h_ hadd;have kwA:Bel w (wr.alloc (.cells #[.string (S x.name),.slice u1 x.meths.length y1,.slice u2 x.notes.length y2] 68)):=hadd.bel0;have C1:=h_ (fun W (kq:Bel (wr.alloc (.cells #[.string (S x.name),.slice u1 x.meths.length y1,.slice u2 x.notes.length y2] 68)) W)=>CV.out _ hmem _ _ _ _ _ _ _ W (Bel.of kwA kq) (VSvc.stays _ _ _ _ (Bel.of kwA kq) hvs0.out));clear hKS hadd z1 z2 hFS hb0;generalize hF:(qax s x)=FX at C1 hgo2 hbig hleng;clear hF
            go_upto_region 24 with(fail)
            (try clear CI);(try clear CE);(try clear CV);(try clear VE);(try clear VV);(try clear VM);(try clear HV);(try clear HM1);(try clear HM2);(try clear HM3);(try clear HS);(try clear HSM);(try clear HSE);(try clear HSV);(try clear HALL);(try clear CF);(try clear CL);(try clear H0);(try clear H1);(try clear H2);(try clear KV);(try clear CZ);(try clear HMP);(try clear hvs0);(try clear hmem);(try clear hM);(try clear hfl);(try clear ba);(try clear htot);(try clear hleng);(try clear hpl);(try clear hle1);(try clear hle2);(try clear hle3);(try clear HL0);(try clear HL1);(try clear HL2);(try clear hlen);(try clear e0);(try clear e1);(try clear e2);(try clear e3);(try clear e4);(try clear hlist)
            obtain⟨wd,hwd⟩ : ∃wd,wd=((wr.alloc (.cells #[.string (S x.name),.slice u1 x.meths.length y1,.slice u2 x.notes.length y2] 68))).drew:=⟨_,rfl⟩;have kd:Bel (wr.alloc (.cells #[.string (S x.name),.slice u1 x.meths.length y1,.slice u2 x.notes.length y2] 68)) wd:=by rw [hwd];exact(Bel.refl _).drew
            have HWD:=h_ hwd;clear hwd;refine qak (fun W=>W.cell? ⟨w.heap.size,0,none⟩=some (.slice sq1 s.msgs.length sc1)/\W.cell? ⟨w.heap.size,1,none⟩=some (.slice sq2 s.enums.length sc2)/\W.cell? ⟨w.heap.size,2,none⟩=some (.slice (some ⟨b,off,none⟩) s.svcs.length sc3)/\W.cell? ⟨wr.heap.size,0,none⟩=some (.string (S x.name))/\W.cell? ⟨wr.heap.size,1,none⟩=some (.slice u1 x.meths.length y1)/\W.cell? ⟨wr.heap.size,2,none⟩=some (.slice u2 x.notes.length y2)/\W.cell? ⟨w.heap.size+1,2,none⟩=some v) [(0,true),(1,true),(2,true),(3,true),(4,true),(5,true),(6,true),(7,false),(8,false)] 9 (by kernel_rfl) (by kernel_rfl) HWD.out (KS.out _ kd) ?_;simp only [qb3,List.getElem?_cons_zero,List.getElem?_cons_succ]
            (with_reducible refine qa1 (v:=?vv127) (by with_unfolding_all rfl) (fun W hW=>?hy127) ?hr127);(case hy127=>((try dsimp only at hW);go_simp;(all_goals with_reducible rfl)));(simp only [Act.put,z_1,z_2,z_3])
            (with_reducible refine qa1 (v:=?vv128) (by with_unfolding_all rfl) (fun W hW=>?hy128) ?hr128);(case hy128=>((try dsimp only at hW);go_simp;(all_goals with_reducible rfl)));(simp only [Act.put,z_1,z_2,z_3])
            (with_reducible refine qa1 (v:=?vv129) (by with_unfolding_all rfl) (fun W hW=>?hy129) ?hr129);(case hy129=>((try dsimp only at hW);go_simp;(all_goals with_reducible rfl)));(simp only [Act.put,z_1,z_2,z_3])
            (with_reducible refine qa1 (v:=?vv130) (by with_unfolding_all rfl) (fun W hW=>?hy130) ?hr130);(case hy130=>((try dsimp only at hW);go_simp;(all_goals with_reducible rfl)));(simp only [Act.put,z_1,z_2,z_3])
            (with_reducible refine qa1 (v:=?vv131) (by with_unfolding_all rfl) (fun W hW=>?hy131) ?hr131);(case hy131=>((try dsimp only at hW);go_simp;(all_goals with_reducible rfl)));(simp only [Act.put,z_1,z_2,z_3])
            (with_reducible refine qa1 (v:=?vv132) (by with_unfolding_all rfl) (fun W hW=>?hy132) ?hr132);(case hy132=>((try dsimp only at hW);go_simp;(all_goals with_reducible rfl)));(simp only [Act.put,z_1,z_2,z_3])
            (with_reducible refine qa1 (v:=?vv133) (by with_unfolding_all rfl) (fun W hW=>?hy133) ?hr133);(case hy133=>((try dsimp only at hW);go_simp;(all_goals with_reducible rfl)));(simp only [Act.put,z_1,z_2,z_3])
            with_reducible refine qaj (fun K hK=>?_)
            go_simp
            with_reducible refine(C1.out _ kd).mono ?_
            rintro e w1 ⟨v2,rfl,own2,g1⟩;have k1:Bel (wr.alloc (.cells #[.string (S x.name),.slice u1 x.meths.length y1,.slice u2 x.notes.length y2] 68)) w1:=Bel.of kd g1;have OWN2:=h_ own2;have OWN1:=h_ (OWN.out _ k1);have hB1:=(Bel.of kwA k1).size;have HF1:=h_ (HADD.out.bel k1);have HS1:=h_ (KS.out _ k1);clear g1 own2;refine hK _ _ HS1.out ?_;clear hK K
            (try simp only [Act.put,z_1,z_2,z_3])
            with_reducible refine qaj (fun K hK=>?_)
            refine qeb (by rfl) _ _ (by rfl) w.heap.size _ v v2 _ _ _ _ (by rfl) (by rfl) OWN1.out OWN2.out (qed _) hbig hB1 ?_;intro q cap w2 r1 r2 r3;have HP:=h_ (FS.app HF1.out (HS1.out).2.2.2.2.2.2 r1 r2 r3);clear r1 r2 r3;have c2:=HP.out.2.1;have f2:=HP.out.2.2.1;have HB2:=h_ (HP.out.2.2.2);have sb:=(Lib.cell_of_heap (HB2.out _ (List.mem_cons_of_mem _ b1)));have sm:=(Lib.cell_of_heap (HB2.out _ bm));refine hK _ _ ⟨(sb 0).trans rfl,(sb 1).trans rfl,(sb 2).trans rfl,(sm 0).trans rfl,(sm 1).trans rfl,(sm 2).trans rfl,c2⟩ ?_;clear hK K
            (try simp only [Act.put,z_1,z_2,z_3])
            refine qbm ?_;simp only [t_3,t_4];go_wp2;refine⟨⟨k+1,by omega,by omega,N+FX.length,done ++ FX,?hfs2,  hgo2⟩,by simp [intOf];omega⟩
            case hfs2=>
             have eq1:=congrArg (· ++ FX) HPD.out;simp only [List.append_assoc]at eq1
             (try simp only [List.append_assoc])
             rw [eq1];exact HP.out.1.1.dropb
           ·have hkl:k=s.svcs.length:=by omega
            have hdn:done=TV:=by
             have:=hgo.out;rw [hkl,List.drop_length]at this
             simpa using this
            rw [hdn]at hFS;clear hgo hdn;obtain⟨v,z1,z2⟩:=hFS.out;have hbz:=hFS.bel0;have Z2:=h_ z2;clear hFS z2;go_wp2;go_ret;refine⟨v,rfl,?_,hbz.out⟩;rw [HV.out];exact Z2.out
end Go.Proofs.YtfoaaglbpmmhiaaGreatDoor
