import Derived.Test.YtgpjhibdongmbaaGreatDoorRsRes7
import Derived.Test.YtgpjhibdongmbaaGreatDoorRsThm
set_option maxRecDepth 100000
set_option maxHeartbeats 4000000
set_option linter.unusedVariables false
set_option linter.unusedSimpArgs false
namespace Go.Proofs.YtgpjhibdongmbaaGreatDoor
open Go.RowKit Ck Rs
structure Gd (w r:PPlan):Prop where
 vw:Valid w
 vr:Valid r
 sw:SmallP w
 sr:SmallP r
theorem Gd.few {w r:PPlan} (h:Gd w r):Few2 w r:=⟨by have:=Nat.mul_le_mul h.sw.np h.sr.np;omega,fun g hg=>by have:=(h.sw.pr g hg).ops;omega,fun g hg=>by have:=(h.sr.pr g hg).ops;omega⟩
def qeh (w:World) (r:List PAdapt × Int) (e:Ending) (w':World):Prop := ∃v,e=.returned (.tuple #[v,.int .i64 r.2])/\Sv 4 VAdapt w' v r.1/\Bel w w'
theorem qh8 (w r:PPlan) (p1 p2 p3 p4:Option Addr) (c1 c2 c3 c4:Nat) (W:World) (hG:Pl w r p1 p2 p3 p4 c1 c2 c3 c4 W) (hd:Gd w r) (hM:ML W) :
  Calls Tryz.prog 31 #[.agg #[.slice p1 w.progs.length c1,.slice p2 w.enums.length c2],.agg #[.slice p3 r.progs.length c3,.slice p4 r.enums.length c4]] W fun e' w'=>e'=.returned (.bool true)/\Bel W w':=by
 have hS0:=((ST.start W).addbox #[.slice p1 w.progs.length c1,.slice p2 w.enums.length c2] 25).addbox #[.slice p3 r.progs.length c3,.slice p4 r.enums.length c4] 25;simp only [World.size_alloc]at hS0;have HS:=Lib.hid hS0;have KS:=Lib.hid (fun WW (T:ST W [] [⟨W.heap.size+1,#[.slice p3 r.progs.length c3,.slice p4 r.enums.length c4],25⟩,⟨W.heap.size,#[.slice p1 w.progs.length c1,.slice p2 w.enums.length c2],25⟩] WW)=>show WW.cell? ⟨W.heap.size,0,none⟩=some (.slice p1 w.progs.length c1)/\WW.cell? ⟨W.heap.size,1,none⟩=some (.slice p2 w.enums.length c2)/\WW.cell? ⟨W.heap.size+1,0,none⟩=some (.slice p3 r.progs.length c3)/\WW.cell? ⟨W.heap.size+1,1,none⟩=some (.slice p4 r.enums.length c4)from⟨T.cell 1 rfl 0,T.cell 1 rfl 1,T.cell 0 rfl 0,T.cell 0 rfl 1⟩);clear hS0;have C1:=Lib.hid (fun WW (T:ST W [] [⟨W.heap.size+1,#[.slice p3 r.progs.length c3,.slice p4 r.enums.length c4],25⟩,⟨W.heap.size,#[.slice p1 w.progs.length c1,.slice p2 w.enums.length c2],25⟩] WW)=>qho w _ WW (show VPlan WW [.slice p1 w.progs.length c1,.slice p2 w.enums.length c2] w from⟨_,_,rfl,hG.g0.bel VProg.stays T.bel,hG.g1.bel VEnum.stays T.bel⟩) hd.vw hd.sw (hM.below T.bel));have C2:=Lib.hid (fun WW (T:ST W [] [⟨W.heap.size+1,#[.slice p3 r.progs.length c3,.slice p4 r.enums.length c4],25⟩,⟨W.heap.size,#[.slice p1 w.progs.length c1,.slice p2 w.enums.length c2],25⟩] WW)=>qho r _ WW (show VPlan WW [.slice p3 r.progs.length c3,.slice p4 r.enums.length c4] r from⟨_,_,rfl,hG.g2.bel VProg.stays T.bel,hG.g3.bel VEnum.stays T.bel⟩) hd.vr hd.sr (hM.below T.bel));clear hG hd hM
 go_enter Tryz.func31,Tryz.ntmps31
 go_upto_region 1 with(fail)
 obtain⟨y0,y1,y2,y3⟩:=KS.out _ HS.out
 go_wp2_with (first
  | (go_at_call 57;(with_reducible refine(C1.out _ HS.out).mono ?_);rintro e' w1 ⟨rfl,k1⟩;have k1:Bel _ w1:=k1;have H1:=Lib.hid (HS.out.belw k1);obtain⟨x0,x1,x2,x3⟩:=KS.out _ H1.out;clear k1)
  | (go_at_call 57;(with_reducible refine(C2.out _ H1.out).mono ?_);rintro e' w2 ⟨rfl,k2⟩;have k2:Bel _ w2:=k2;have H2:=Lib.hid (H1.out.belw k2);obtain⟨x0,x1,x2,x3⟩:=KS.out _ H2.out;clear k2))
 go_ret;exact⟨rfl,H2.out.bel⟩
theorem rs_Make (w r:PPlan) (p1 p2 p3 p4:Option Addr) (c1 c2 c3 c4:Nat) (nm:Str) (W:World) (hG:Pl w r p1 p2 p3 p4 c1 c2 c3 c4 W) (hd:Gd w r) (hM:ML W) (hT:Tab W) :
  Calls Tryz.prog 11 #[.agg #[.slice p1 w.progs.length c1,.slice p2 w.enums.length c2],.agg #[.slice p3 r.progs.length c3,.slice p4 r.enums.length c4],.string (S nm)] W (qeh W (makeR w r nm)):=by
 have hS0:=((ST.start W).addbox #[.slice p1 w.progs.length c1,.slice p2 w.enums.length c2] 25).addbox #[.slice p3 r.progs.length c3,.slice p4 r.enums.length c4] 25;simp only [World.size_alloc]at hS0;have HS:=Lib.hid hS0;have KS:=Lib.hid (fun WW (T:ST W [] [⟨W.heap.size+1,#[.slice p3 r.progs.length c3,.slice p4 r.enums.length c4],25⟩,⟨W.heap.size,#[.slice p1 w.progs.length c1,.slice p2 w.enums.length c2],25⟩] WW)=>show WW.cell? ⟨W.heap.size,0,none⟩=some (.slice p1 w.progs.length c1)/\WW.cell? ⟨W.heap.size,1,none⟩=some (.slice p2 w.enums.length c2)/\WW.cell? ⟨W.heap.size+1,0,none⟩=some (.slice p3 r.progs.length c3)/\WW.cell? ⟨W.heap.size+1,1,none⟩=some (.slice p4 r.enums.length c4)from⟨T.cell 1 rfl 0,T.cell 1 rfl 1,T.cell 0 rfl 0,T.cell 0 rfl 1⟩);clear hS0;have C1:=Lib.hid (fun WW (T:ST W [] [⟨W.heap.size+1,#[.slice p3 r.progs.length c3,.slice p4 r.enums.length c4],25⟩,⟨W.heap.size,#[.slice p1 w.progs.length c1,.slice p2 w.enums.length c2],25⟩] WW)=>pl_Find w _ nm WW (show VPlan WW [.slice p1 w.progs.length c1,.slice p2 w.enums.length c2] w from⟨_,_,rfl,hG.g0.bel VProg.stays T.bel,hG.g1.bel VEnum.stays T.bel⟩));have C2:=Lib.hid (fun WW (T:ST W [] [⟨W.heap.size+1,#[.slice p3 r.progs.length c3,.slice p4 r.enums.length c4],25⟩,⟨W.heap.size,#[.slice p1 w.progs.length c1,.slice p2 w.enums.length c2],25⟩] WW)=>pl_Find r _ nm WW (show VPlan WW [.slice p3 r.progs.length c3,.slice p4 r.enums.length c4] r from⟨_,_,rfl,hG.g2.bel VProg.stays T.bel,hG.g3.bel VEnum.stays T.bel⟩));have C3:=Lib.hid (fun WW (T:ST W [] [⟨W.heap.size+1,#[.slice p3 r.progs.length c3,.slice p4 r.enums.length c4],25⟩,⟨W.heap.size,#[.slice p1 w.progs.length c1,.slice p2 w.enums.length c2],25⟩] WW)=>qh8 w r p1 p2 p3 p4 c1 c2 c3 c4 WW ⟨hG.g0.bel VProg.stays T.bel,hG.g1.bel VEnum.stays T.bel,hG.g2.bel VProg.stays T.bel,hG.g3.bel VEnum.stays T.bel⟩ hd (hM.below T.bel));have C4:=Lib.hid (fun WW (T:ST W [] [⟨W.heap.size+1,#[.slice p3 r.progs.length c3,.slice p4 r.enums.length c4],25⟩,⟨W.heap.size,#[.slice p1 w.progs.length c1,.slice p2 w.enums.length c2],25⟩] WW) (i j:Nat) (hi:i<w.progs.length) (hj:j<r.progs.length)=>rs_from w r p1 p2 p3 p4 c1 c2 c3 c4 (i:Int) (j:Int) WW ⟨hG.g0.bel VProg.stays T.bel,hG.g1.bel VEnum.stays T.bel,hG.g2.bel VProg.stays T.bel,hG.g3.bel VEnum.stays T.bel⟩ (hT.below T.bel) (qcs hd.vw) (qcs hd.vr) ⟨by omega,by omega⟩ ⟨by omega,by omega⟩ hd.few);clear hG hd hM hT;unfold qeh;cases h1:qcx w nm with
 | none=>
  have hm:makeR w r nm=([],10):=by unfold makeR;rw [h1]
  have f1:qam w nm=.tuple #[.int .i64 0,.bool false]:=by unfold qam;rw [h1]
  rw [hm];rw [f1]at C1;clear hm f1 h1 C3 C4;cases h2:qcx r nm with
  | none=>
   have f2:qam r nm=.tuple #[.int .i64 0,.bool false]:=by unfold qam;rw [h2]
   rw [f2]at C2;clear f2 h2
   go_enter Tryz.func11,Tryz.ntmps11
   go_upto_region 1 with(fail)
   obtain⟨y0,y1,y2,y3⟩:=KS.out _ HS.out
   go_wp2_with (first
    | (go_at_call 30;(with_reducible refine(C1.out _ HS.out).mono ?_);rintro e' w1 ⟨rfl,k1⟩;have k1:Bel _ w1:=k1;have H1:=Lib.hid (HS.out.belw k1);obtain⟨x0,x1,x2,x3⟩:=KS.out _ H1.out;clear k1)
    | (go_at_call 30;(with_reducible refine(C2.out _ H1.out).mono ?_);rintro e' w2 ⟨rfl,k2⟩;have k2:Bel _ w2:=k2;have H2:=Lib.hid (H1.out.belw k2);obtain⟨x0,x1,x2,x3⟩:=KS.out _ H2.out;clear k2))
   go_ret2;exact⟨_,rfl,Sl.nil _ _ _ _ _,H2.out.bel⟩
  | some j=>
   have f2:qam r nm=.tuple #[.int .i64 (j:Int),.bool true]:=by unfold qam;rw [h2]
   rw [f2]at C2;clear f2 h2
   go_enter Tryz.func11,Tryz.ntmps11
   go_upto_region 1 with(fail)
   obtain⟨y0,y1,y2,y3⟩:=KS.out _ HS.out
   go_wp2_with (first
    | (go_at_call 30;(with_reducible refine(C1.out _ HS.out).mono ?_);rintro e' w1 ⟨rfl,k1⟩;have k1:Bel _ w1:=k1;have H1:=Lib.hid (HS.out.belw k1);obtain⟨x0,x1,x2,x3⟩:=KS.out _ H1.out;clear k1)
    | (go_at_call 30;(with_reducible refine(C2.out _ H1.out).mono ?_);rintro e' w2 ⟨rfl,k2⟩;have k2:Bel _ w2:=k2;have H2:=Lib.hid (H1.out.belw k2);obtain⟨x0,x1,x2,x3⟩:=KS.out _ H2.out;clear k2))
   go_ret2;exact⟨_,rfl,Sl.nil _ _ _ _ _,H2.out.bel⟩
 | some i=>
  have f1:qam w nm=.tuple #[.int .i64 (i:Int),.bool true]:=by unfold qam;rw [h1]
  rw [f1]at C1;cases h2:qcx r nm with
  | none=>
   have hm:makeR w r nm=([],10):=by unfold makeR;rw [h1,h2]
   have f2:qam r nm=.tuple #[.int .i64 0,.bool false]:=by unfold qam;rw [h2]
   rw [hm];rw [f2]at C2;clear hm f1 f2 h1 h2 C3 C4
   go_enter Tryz.func11,Tryz.ntmps11
   go_upto_region 1 with(fail)
   obtain⟨y0,y1,y2,y3⟩:=KS.out _ HS.out
   go_wp2_with (first
    | (go_at_call 30;(with_reducible refine(C1.out _ HS.out).mono ?_);rintro e' w1 ⟨rfl,k1⟩;have k1:Bel _ w1:=k1;have H1:=Lib.hid (HS.out.belw k1);obtain⟨x0,x1,x2,x3⟩:=KS.out _ H1.out;clear k1)
    | (go_at_call 30;(with_reducible refine(C2.out _ H1.out).mono ?_);rintro e' w2 ⟨rfl,k2⟩;have k2:Bel _ w2:=k2;have H2:=Lib.hid (H1.out.belw k2);obtain⟨x0,x1,x2,x3⟩:=KS.out _ H2.out;clear k2))
   go_ret2;exact⟨_,rfl,Sl.nil _ _ _ _ _,H2.out.bel⟩
  | some j=>
   have hm:makeR w r nm=(fromR w r i j,0):=by unfold makeR;rw [h1,h2]
   have f2:qam r nm=.tuple #[.int .i64 (j:Int),.bool true]:=by unfold qam;rw [h2]
   obtain⟨_,_,_,hi⟩:=qd6 h1;obtain⟨_,_,_,hj⟩:=qd6 h2;rw [hm];rw [f2]at C2;have C5:=Lib.hid (fun WW T=>C4.out WW T i j hi hj);unfold qdr at C5;clear hm f1 f2 h1 h2 C4 hi hj
   go_enter Tryz.func11,Tryz.ntmps11
   go_upto_region 1 with(fail)
   obtain⟨y0,y1,y2,y3⟩:=KS.out _ HS.out
   go_wp2_with (first
    | (go_at_call 30;(with_reducible refine(C1.out _ HS.out).mono ?_);rintro e' w1 ⟨rfl,k1⟩;have k1:Bel _ w1:=k1;have H1:=Lib.hid (HS.out.belw k1);obtain⟨x0,x1,x2,x3⟩:=KS.out _ H1.out;clear k1)
    | (go_at_call 30;(with_reducible refine(C2.out _ H1.out).mono ?_);rintro e' w2 ⟨rfl,k2⟩;have k2:Bel _ w2:=k2;have H2:=Lib.hid (H1.out.belw k2);obtain⟨x0,x1,x2,x3⟩:=KS.out _ H2.out;clear k2)
    | (go_at_call 31;(with_reducible refine(C3.out _ H2.out).mono ?_);rintro e' w3 ⟨rfl,k3⟩;have k3:Bel _ w3:=k3;have H3:=Lib.hid (H2.out.belw k3);obtain⟨x0,x1,x2,x3⟩:=KS.out _ H3.out;clear k3)
    | (go_at_call 32;(with_reducible refine(C5.out _ H3.out).mono ?_);rintro e' w4 ⟨v4,rfl,hv4,k4⟩;have k4:Bel _ w4:=k4;have H4:=Lib.hid (H3.out.belw k4);have HV:=Lib.hid hv4;clear k4 hv4))
   go_ret2;exact⟨_,rfl,HV.out,H4.out.bel⟩
end Go.Proofs.YtgpjhibdongmbaaGreatDoor
namespace Go.Proofs.YtgpjhibdongmbaaGreatDoor.Rs
open Ck
theorem PAct.ext' {a b:PAct} (h1:a.num=b.num) (h2:a.kind=b.kind) (h3:a.sub=b.sub):a=b:=by
 cases a;cases b;simp_all
theorem PAdapt.ext' {a b:PAdapt} (h1:a.w=b.w) (h2:a.r=b.r) (h3:a.acts=b.acts) (h4:a.lacks=b.lacks):a=b:=by
 cases a;cases b;simp_all
instance:DecidableEq PAct:=fun a b=>decidable_of_iff (a.num=b.num/\a.kind=b.kind/\a.sub=b.sub) ⟨fun h=>PAct.ext' h.1 h.2.1 h.2.2,fun h=>by subst h;exact⟨rfl,rfl,rfl⟩⟩
instance:DecidableEq PAdapt:=fun a b=>decidable_of_iff (a.w=b.w/\a.r=b.r/\a.acts=b.acts/\a.lacks=b.lacks) ⟨fun h=>PAdapt.ext' h.1 h.2.1 h.2.2.1 h.2.2.2,fun h=>by subst h;exact⟨rfl,rfl,rfl,rfl⟩⟩
def nameR (p:PPlan) (i:Int):Str:=if 0<=i/\i<p.progs.length then(match p.progs[i.toNat]? with|some g=>g.name|none => [63])else [63]
def qgv (w r:PPlan) (l:List PAdapt):Int:=match l with
 | []=>10
 | x :: t=>if(x :: t).all (inR w r)=false then 6 else if nameR w x.w ≠ nameR r x.r ∨ (x :: t) ≠ fromR w r x.w x.r then 5 else 0
theorem qhw {p:PPlan} {i:Int} (h:0<=i/\i<p.progs.length) : ∃g,p.progs[i.toNat]? = some g/\nameR p i=g.name:=by
 obtain⟨g,hg,_⟩:=qgr h.1 h.2;refine⟨g,hg,?_⟩;unfold nameR;rw [if_pos h,hg]
end Go.Proofs.YtgpjhibdongmbaaGreatDoor.Rs
