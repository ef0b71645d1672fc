import Derived.Test.YtfoaaglbpmmhiaaGreatDoorMdLawH
import Derived.Test.YtfoaaglbpmmhiaaGreatDoorMrMake
import Derived.Test.YtfoaaglbpmmhiaaGreatDoorMdLawC
import Derived.Test.YtfoaaglbpmmhiaaGreatDoorMdOpenU
import Derived.Test.YtfoaaglbpmmhiaaGreatDoorMrUns
import Derived.Test.YtfoaaglbpmmhiaaGreatDoorKitA
import Derived.Lay
import Derived.MakeChecks
import Derived.LaidLaws
import Derived.Deep.DeepHandedRow
import Derived.Test.YtfoaaglbpmmhiaaGreatDoorKitT
import Derived.Lib.LaidTab
import Derived.Stop.LaidErr
import Derived.Test.YtfoaaglbpmmhiaaGreatDoorCkNote1
import Derived.Deep.Strs
import Derived.WideShapes
set_option maxRecDepth 100000
set_option maxHeartbeats 4000000
set_option linter.unusedVariables false
set_option linter.unusedSimpArgs false
namespace Go.Proofs.YtfoaaglbpmmhiaaGreatDoor
section
open Go.RowKit Ck Md
theorem rd_Same (L:List PDecl) (qa qb:Option Addr) (ca cb:Nat) (w:World) (ha:Decls w (.slice qa L.length ca) L) (hb:Decls w (.slice qb L.length cb) L) :
  Calls Tryz.prog 13 #[.slice qa L.length ca,.slice qb L.length cb] w fun e w'=>e=.returned (.bool true)/\Bel w w':=by
 obtain⟨_,_,hq,hl,hcap,hela⟩:=ha;cases hq;obtain⟨_,_,hq,_,hcapb,helb⟩:=hb;cases hq;have EA:=h_ hela;have EB:=h_ helb;clear hela helb
 go_enter Tryz.func13,Tryz.ntmps13
 go_upto_region 2 with(fail)
 go_wp2
 go_loopw [5,6] (fun o i wr => ∃k:Nat,k<=L.length/\o=.bool true/\i=.int .i64 k/\Hid (Bel w wr)) (fun _ i _=>L.length-(intOf i).toNat)
 case atStart=>exact⟨0,by omega,by simp,rfl,h_ (Bel.refl _)⟩
 case round=>as_aux_lemma=>
  obtain⟨k,hk,rfl,rfl,hB⟩:=hrel;by_cases hlt:k<L.length
  ·have hki:(k:Int)<(L.length:Int):=by omega
   have hg:=List.getElem?_eq_getElem hlt;obtain⟨b1,o1,rfl,hs1,vs1,hc1,mv1,hv1,hm1⟩:=EA.out k _ hg;obtain⟨b2,o2,rfl,hs2,vs2,hc2,mv2,hv2,hm2⟩:=EB.out k _ hg;subst hv1 hv2;generalize L[k]=d at *;obtain⟨qm,cm,rfl,_,_,_⟩:=(show Sv 3 VMem w mv1 d.mems from hm1);obtain⟨qn,cn,rfl,_,_,_⟩:=(show Sv 3 VMem w mv2 d.mems from hm2)
   go_upto_region 5 with(fail)
   obtain⟨wd,hwd⟩ : ∃wd,wd=wr.drew:=⟨_,rfl⟩;have HD:=h_ (show Bel w wd by rw [hwd];exact hB.out.drew);have HWD:=h_ hwd;clear hwd hB;have kd:=HD.out;have e0:wd.cell? ⟨b1,o1+k*4,none⟩=some (.int .i64 d.kind):=kd.some (by have:=hc1 0 (.int .i64 d.kind) rfl;rwa [Nat.add_zero]at this);have e1:wd.cell? ⟨b1,o1+k*4+1,none⟩=some (.string (S d.name)):=kd.some (hc1 1 _ rfl);have e2:wd.cell? ⟨b1,o1+k*4+2,none⟩=some (.string (S d.frm)):=kd.some (hc1 2 _ rfl);have e3:wd.cell? ⟨b1,o1+k*4+3,none⟩=some (.slice qm d.mems.length cm):=kd.some (hc1 3 _ rfl);have f0:wd.cell? ⟨b2,o2+k*4,none⟩=some (.int .i64 d.kind):=kd.some (by have:=hc2 0 (.int .i64 d.kind) rfl;rwa [Nat.add_zero]at this);have f1:wd.cell? ⟨b2,o2+k*4+1,none⟩=some (.string (S d.name)):=kd.some (hc2 1 _ rfl);have f2:wd.cell? ⟨b2,o2+k*4+2,none⟩=some (.string (S d.frm)):=kd.some (hc2 2 _ rfl);have f3:wd.cell? ⟨b2,o2+k*4+3,none⟩=some (.slice qn d.mems.length cn):=kd.some (hc2 3 _ rfl);have CS:=h_ (show Calls Tryz.prog 29 #[.agg #[.int .i64 d.kind,.string (S d.name),.string (S d.frm),.slice qm d.mems.length cm],.agg #[.int .i64 d.kind,.string (S d.name),.string (S d.frm),.slice qn d.mems.length cn]] wd _ from qm6 d qm qn cm cn wd (hm1.bel VMem.stays kd) (hm2.bel VMem.stays kd));clear hc1 hc2 hm1 hm2 kd;refine qae 8 (by kernel_rfl) (by kernel_rfl) HWD.out ?_
   (simp only [t_1,t_2,t_3,t_4]);(repeat (first|((with_reducible refine wpStill_step (fun K hK=>?_));go_simp;(with_reducible refine hK _ ?_);clear hK K)|((with_reducible refine qaa ?_ ?_);(with_unfolding_all rfl))));(with_reducible refine wpStill_nil ?_)
   go_wp2_with (go_at_call 29;(with_reducible refine CS.out.mono ?_);rintro e w4 ⟨rfl,k4⟩)
   have K4:=h_ (show Bel w w4 from(Bel.of HD.out k4));go_roundw
   case rel=>exact⟨k+1,by omega,by simp,by go_num,K4⟩
   case measure=>simp [intOf];omega
  ·have hkl:k=L.length:=by omega
   subst hkl;go_wp2;go_ret;exact⟨rfl,hB.out⟩
end
section
open Go.RowKit Ck Md
def MadeC (w:World) (L:List PDecl) (C:Int) (e:Ending) (w':World):Prop := ∃(p:Option Addr) (c:Nat),e=.returned (.tuple #[.slice p L.length c,.int .i64 C])/\Decls w' (.slice p L.length c) L/\Bel w w'
theorem qo1 {w w':World} {e:Ending} {L:List PDecl} (h:qp4 w L e w'):MadeC w L 0 e w':=made_of h
theorem qo3 {w w':World} {e:Ending} (h:e=.returned (.tuple #[.slice none 0 0,.int .i64 1])/\Bel w w'):MadeC w [] 1 e w':=⟨none,0,h.1,Sl.nil _ _ _ _ _,h.2⟩
theorem qg8 (sq1 sq2 sq3:Option Addr) (sc1 sc2 sc3:Nat) (s:PSchema) (w:World) (hf : ¬(s.msgs.length<=8/\s.enums.length<=8/\s.svcs.length<=8)) :
  Calls Tryz.prog 3 #[.agg #[.slice sq1 s.msgs.length sc1,.slice sq2 s.enums.length sc2,.slice sq3 s.svcs.length sc3]] w fun e w'=>e=.returned (.bool true)/\Bel w w':=by
 have kw:Bel w (w.alloc (.cells #[.slice sq1 s.msgs.length sc1,.slice sq2 s.enums.length sc2,.slice sq3 s.svcs.length sc3] 26)):=(Bel.refl w).alloc _;have CF:=h_ (law_few sq1 sq2 sq3 s.msgs.length s.enums.length s.svcs.length sc1 sc2 sc3 (w.alloc (.cells #[.slice sq1 s.msgs.length sc1,.slice sq2 s.enums.length sc2,.slice sq3 s.svcs.length sc3] 26)));rw [decide_eq_false hf]at CF;clear hf
 go_enter Tryz.func3,Tryz.ntmps3
 go_wp2_with (go_at_call 10;(with_reducible refine CF.out.mono ?_);rintro e w1 ⟨rfl,k1⟩)
 go_ret;exact⟨rfl,(Bel.of kw k1.out).out⟩
theorem qe7 (sq1 sq2 sq3:Option Addr) (sc1 sc2 sc3:Nat) (s:PSchema) (w:World) (L:List PDecl) (C:Int) (hf:s.msgs.length<=8/\s.enums.length<=8/\s.svcs.length<=8)
  (hm : ∀W,Bel w W->Calls Tryz.prog 11 #[.agg #[.slice sq1 s.msgs.length sc1,.slice sq2 s.enums.length sc2,.slice sq3 s.svcs.length sc3]] W (MadeC W L C)) (hr : ∀W,Bel w W->Calls Tryz.prog 12 #[.agg #[.slice sq1 s.msgs.length sc1,.slice sq2 s.enums.length sc2,.slice sq3 s.svcs.length sc3]] W (MadeC W L C)) (ha : ∀W,Bel w W->Calls Tryz.prog 14 #[] W fun e w'=>e=.returned (.bool true)/\Bel W w') :
  Calls Tryz.prog 3 #[.agg #[.slice sq1 s.msgs.length sc1,.slice sq2 s.enums.length sc2,.slice sq3 s.svcs.length sc3]] w fun e w'=>e=.returned (.bool true)/\Bel w w':=by
 have kw:Bel w (w.alloc (.cells #[.slice sq1 s.msgs.length sc1,.slice sq2 s.enums.length sc2,.slice sq3 s.svcs.length sc3] 26)):=(Bel.refl w).alloc _;have CF:=h_ (law_few sq1 sq2 sq3 s.msgs.length s.enums.length s.svcs.length sc1 sc2 sc3 (w.alloc (.cells #[.slice sq1 s.msgs.length sc1,.slice sq2 s.enums.length sc2,.slice sq3 s.svcs.length sc3] 26)));rw [decide_eq_true hf]at CF;have CM:=h_ hm;have CR:=h_ hr;have CA:=h_ ha;have HX:=h_ (fun W (k:Bel (w.alloc (.cells #[.slice sq1 s.msgs.length sc1,.slice sq2 s.enums.length sc2,.slice sq3 s.svcs.length sc3] 26)) W)=>show W.cell? ⟨w.heap.size,0,none⟩=some (.slice sq1 s.msgs.length sc1)/\W.cell? ⟨w.heap.size,1,none⟩=some (.slice sq2 s.enums.length sc2)/\W.cell? ⟨w.heap.size,2,none⟩=some (.slice sq3 s.svcs.length sc3)from⟨k.some (by rw [World.cell?_alloc_at _ _ _ _ rfl];rfl),k.some (by rw [World.cell?_alloc_at _ _ _ _ rfl];rfl),k.some (by rw [World.cell?_alloc_at _ _ _ _ rfl];rfl)⟩);clear hf hm hr ha
 go_enter Tryz.func3,Tryz.ntmps3
 go_upto_region 3 with(go_at_call 10;(with_reducible refine CF.out.mono ?_);rintro e w1 ⟨rfl,k1⟩;have J1:=h_ (show Bel (w.alloc (.cells #[.slice sq1 s.msgs.length sc1,.slice sq2 s.enums.length sc2,.slice sq3 s.svcs.length sc3] 26)) w1 from k1);have K1:=h_ (show Bel w w1 from Bel.of kw J1.out);obtain⟨x0,x1,x2⟩:=HX.out _ J1.out)
 go_upto_region 4 with(go_at_call 11;(with_reducible refine(CM.out _ K1.out).mono ?_);rintro e w2 ⟨p2,c2,rfl,m2,k2⟩;have J2:=h_ (show Bel (w.alloc (.cells #[.slice sq1 s.msgs.length sc1,.slice sq2 s.enums.length sc2,.slice sq3 s.svcs.length sc3] 26)) w2 from Bel.of J1.out k2);have K2:=h_ (show Bel w w2 from Bel.of K1.out k2))
 clear x0 x1 x2;obtain⟨x0,x1,x2⟩:=HX.out _ J2.out
 go_upto_region 5 with(go_at_call 12;(with_reducible refine(CR.out _ K2.out).mono ?_);rintro e w3 ⟨p3,c3,rfl,m3,k3⟩;have K3:=h_ (show Bel w w3 from Bel.of K2.out k3))
 have CS:=h_ (rd_Same L p2 p3 c2 c3 w3 (m2.bel VDecl.stays k3) m3);clear x0 x1 x2 m2 m3 k2 k3
 go_wp2_with (first
  | (go_at_call 13;(with_reducible refine CS.out.mono ?_);rintro e w4 ⟨rfl,k4⟩;have K4:=h_ (show Bel w w4 from Bel.of K3.out k4))
  | (go_at_call 14;(with_reducible refine(CA.out _ K4.out).mono ?_);rintro e w5 ⟨rfl,k5⟩))
 go_ret;exact⟨rfl,(Bel.of K4.out k5).out⟩
theorem qhd (sq1 sq2 sq3:Option Addr) (sc1 sc2 sc3:Nat) (s:PSchema) (w:World) (hs:VSchema w [.slice sq1 s.msgs.length sc1,.slice sq2 s.enums.length sc2,.slice sq3 s.svcs.length sc3] s) (hP:PT w) (hM:ML w) (hQ:qlw s) :
  Calls Tryz.prog 3 #[.agg #[.slice sq1 s.msgs.length sc1,.slice sq2 s.enums.length sc2,.slice sq3 s.svcs.length sc3]] w fun e w'=>e=.returned (.bool true)/\Bel w w':=by
 by_cases hf:s.msgs.length<=8/\s.enums.length<=8/\s.svcs.length<=8
 ·have hsh:=qn0 hQ hf
  cases hV:valid s with
  | true=>exact qe7 sq1 sq2 sq3 sc1 sc2 sc3 s w (make s) 0 hf (fun W k=>(qgk sq1 sq2 sq3 sc1 sc2 sc3 s W (hs.stays_bel k) (hP.bel k) (hM.below k.out) hsh hV).mono (fun e w' h=>qo1 h)) (fun W k=>(qm7 sq1 sq2 sq3 sc1 sc2 sc3 s W (hs.stays_bel k) hsh hV).mono (fun e w' h=>qo1 h)) (fun W k=>ql1 W (hP.bel k) (hM.below k.out))
  | false=>exact qe7 sq1 sq2 sq3 sc1 sc2 sc3 s w [] 1 hf (fun W k=>(qnz sq1 sq2 sq3 sc1 sc2 sc3 s W (hs.stays_bel k) (hM.below k.out) hsh hV).mono (fun e w' h=>qo3 h)) (fun W k=>(qnh sq1 sq2 sq3 sc1 sc2 sc3 s W (hs.stays_bel k) hsh hV).mono (fun e w' h=>qo3 h)) (fun W k=>ql1 W (hP.bel k) (hM.below k.out))
 ·exact qg8 sq1 sq2 sq3 sc1 sc2 sc3 s w hf
end
section
open Go.RowKit
section
variable {H : Type} {enc : TypeId × Value → H}
theorem qe8 {C:Checked} {os:Os} {f:FuncId} {fn:Func} {s:OpenSpec} {conds:List PathCond} {apart:Bool} {laid:List (String × DataW Unit)} (modest:Bool) (w0:World) (args:Array Value) (hos:w0.os=os)
  (hsh:(w0.forCall (fun _ _=>0) ⟨#[],args,[]⟩).Shaped C.prog)
  (hok:Input.okWideB C.prog (w0.forCall (fun _ _=>0) ⟨#[],args,[]⟩) f ⟨#[],args,[]⟩=true)
  (hrow:s.preRow enc C.prog fn conds apart laid (w0.forCall (fun _ _=>0) ⟨#[],args,[]⟩).memory args) :
  ∃(w:World) (tape:Tape) (i:Input),w.os=os/\(w.forCall tape i).Shaped C.prog/\i.vars=[]/\Input.okWide C.prog (w.forCall tape i) .any w.heap.size f i ∧
   s.preRow enc C.prog fn conds apart laid (w.forCall tape i).memory i.args/\({ modest:=modest }:Assume).holds C.prog (lone (Frame.enter C.prog f i.args .normal) [] (w.forCall tape i)):=
 ⟨w0,fun _ _=>0,⟨#[],args,[]⟩,hos,hsh,(Input.okWide_of_okWideB (base:=0) hok).1,(Input.okWide_of_okWideB hok).2,hrow,by
  simp only [Assume.holds]
  exact⟨by simp,by simp,fun _=>Modest.zero,by simp,by simp⟩⟩
end
def qo4:List (String × DataW Unit):=Rows.modelUniquesRow.laid
noncomputable def layWorld (os:Os):World:=World.laidAll Tryz.prog os qo4
theorem qqj (os:Os) (args:Array Value):((layWorld os).forCall (fun _ _=>0) ⟨#[],args,[]⟩).Shaped Tryz.prog:=World.shaped_of_ZipB (by kernel_rfl) (by kernel_rfl)
theorem lay_met (os:Os) (args:Array Value):laidMetH Tryz.prog qo4 ((layWorld os).forCall (fun _ _=>0) ⟨#[],args,[]⟩).memory:=by
 rw [MakeChecks.laidMetH_plain _ _ _ (by kernel_rfl)];exact laidMet_laidAll _ (by kernel_rfl) (by kernel_rfl)
end
section
open Go.RowKit
theorem tab_eq:(Rows.laid_internal_strconv_uint64pow10:DataW Unit)=Lib.tabData .u64 Lib.pow10Tab:=by kernel_rfl
theorem pt_of {W:World} (h:laidMetH Tryz.prog qo4 W):PT W:=by
 rw [MakeChecks.laidMetH_plain _ _ _ (by kernel_rfl)]at h;have h2:=h.tail.tail;rw [tab_eq]at h2;exact Lib.tabIs_of_head (g:=1) (t:=218) (e:=55) (n:=20) (by kernel_rfl) (by kernel_rfl) (by kernel_rfl) (by kernel_rfl) (by kernel_rfl) (by kernel_rfl) h2
end
section
open Go.ChangeShapes Go.WideShapes Go.RowKit Go.Deep
section
variable {H : Type} {enc : TypeId × Value → H} {w : World} {base : Nat} {spare : Nat → Bool} {held : Bool}
end
end
end Go.Proofs.YtfoaaglbpmmhiaaGreatDoor
