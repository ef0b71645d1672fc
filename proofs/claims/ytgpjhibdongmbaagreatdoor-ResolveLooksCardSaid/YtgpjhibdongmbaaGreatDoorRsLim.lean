import Derived.Test.YtgpjhibdongmbaaGreatDoorRkA
import Derived.Deep.OwnRows
import Derived.Deep.DeepCutAuto
import Derived.Test.YtgpjhibdongmbaaGreatDoorCkMem
import Derived.Test.YtgpjhibdongmbaaGreatDoorMap
import Derived.Test.YtgpjhibdongmbaaGreatDoorUtfDec
import Derived.Test.YtgpjhibdongmbaaGreatDoorPrProg1
import Derived.StillTailTactics
import Derived.Test.YtgpjhibdongmbaaGreatDoorCkFinder
import Derived.Test.YtgpjhibdongmbaaGreatDoorRsMem
import Derived.Test.YtgpjhibdongmbaaGreatDoorRsIdx
set_option maxRecDepth 100000
set_option maxHeartbeats 4000000
set_option linter.unusedVariables false
set_option linter.unusedSimpArgs false
namespace Go.Proofs.YtgpjhibdongmbaaGreatDoor
open Go.RowKit Ck
def BitsAt (w0:World) (Bf:Nat) (fin:List Bool) (wx:World):Prop:=w0.heap.size<=Bf/\wx.heap[Bf]? = some (.cells (fin.map Value.bool).toArray 4 (0,0))/\Bel w0 wx
theorem BitsAt.base {w0 wx:World} {Bf:Nat} {fin:List Bool} (h:BitsAt w0 Bf fin wx):Bel w0 wx:=h.2.2
theorem BitsAt.bel {w0 wx w':World} {Bf:Nat} {fin:List Bool} (h:BitsAt w0 Bf fin wx) (k:Bel wx w'):BitsAt w0 Bf fin w':=
 ⟨h.1,(Below.block k Bf (Array.getElem?_eq_some_iff.1 h.2.1).1).trans h.2.1,Bel.of h.2.2 k.out⟩
theorem BitsAt.cell {w0 wx:World} {Bf:Nat} {fin:List Bool} (h:BitsAt w0 Bf fin wx) (i:Nat) (hi:i<fin.length):wx.cell? ⟨Bf,i,none⟩=some (.bool (fin.getD i false)):=by
 rw [Lib.cell_of_heap h.2.1];simp [List.getD,hi]
theorem BitsAt.frozen {w0 wx:World} {Bf:Nat} {fin:List Bool} (h:BitsAt w0 Bf fin wx) (i:Nat):wx.frozen? ⟨Bf,i,none⟩=false:=Lib.frozen_of_heap h.2.1 i
theorem BitsAt.set {w0 wx:World} {Bf:Nat} {fin:List Bool} (h:BitsAt w0 Bf fin wx) (i:Nat) (b:Bool):BitsAt w0 Bf (fin.set i b) (wx.setCell ⟨Bf,i,none⟩ (.bool b)):=by
 refine⟨h.1,?_,qbq h.2.2 h.1⟩;rw [heap_setCell_same wx Bf i _ _ _ h.2.1];simp [List.map_set]
theorem BitsAt.start {w0 wc:World} (k:Bel w0 wc) (n:Nat):BitsAt w0 wc.heap.size (List.replicate n false) (wc.alloc (.cells (madeCells #[.bool false] n) 4)):=by
 refine⟨k.size,?_,k.alloc _⟩;rw [heap_alloc_new]
 congr 2
 apply Array.ext
 ·simp [madeCells]
 ·intro i h1 h2
  simp [madeCells,Nat.mod_one]
theorem qjp:(Tryz.prog.info? 4).map (fun i=>(i.zero,i.size,i.bytes))=some (some (.bool false),1,1):=by kernel_rfl
end Go.Proofs.YtgpjhibdongmbaaGreatDoor
namespace Go.Proofs.YtgpjhibdongmbaaGreatDoor
open Go.RowKit Ck
end Go.Proofs.YtgpjhibdongmbaaGreatDoor
namespace Go.Proofs.YtgpjhibdongmbaaGreatDoor.Ck
end Go.Proofs.YtgpjhibdongmbaaGreatDoor.Ck
namespace Go.Proofs.YtgpjhibdongmbaaGreatDoor
open Go.RowKit
end Go.Proofs.YtgpjhibdongmbaaGreatDoor
namespace Go.Proofs.YtgpjhibdongmbaaGreatDoor
open Go.RowKit
end Go.Proofs.YtgpjhibdongmbaaGreatDoor
namespace Go.Proofs.YtgpjhibdongmbaaGreatDoor
open Go.RowKit
end Go.Proofs.YtgpjhibdongmbaaGreatDoor
namespace Go.Proofs.YtgpjhibdongmbaaGreatDoor
open Go.RowKit
end Go.Proofs.YtgpjhibdongmbaaGreatDoor
namespace Go.Proofs.YtgpjhibdongmbaaGreatDoor
open Go.RowKit
end Go.Proofs.YtgpjhibdongmbaaGreatDoor
namespace Go.Proofs.YtgpjhibdongmbaaGreatDoor
open Go.RowKit
end Go.Proofs.YtgpjhibdongmbaaGreatDoor
namespace Go.Proofs.YtgpjhibdongmbaaGreatDoor
open Go.RowKit Ck
end Go.Proofs.YtgpjhibdongmbaaGreatDoor
namespace Go.Proofs.YtgpjhibdongmbaaGreatDoor
open Go.RowKit Ck
end Go.Proofs.YtgpjhibdongmbaaGreatDoor
namespace Go.Proofs.YtgpjhibdongmbaaGreatDoor
open Go.RowKit Ck
theorem qfh (s:Str) (w:World) (hs:s.length<=1000000000000000) :
  Calls Tryz.prog 118 #[.string (S s)] w fun e w'=>e=.returned (.bool (qag s))/\Below w.heap.size w w':=by
 have cp:=Lib.hid (qg0 (S s) s w rfl (by rw [qb9];exact hs));have cw:=Lib.hid (fun W=>qfz (S s) s W rfl);have hv:qag s=(Id.isPart s && !Id.isWord s):=rfl;have HV:=Lib.hid hv;clear hv;generalize Id.isWord s=Q at *;cases hR:Id.isPart s <;> rw [hR]at cp HV <;> clear hR
 all_goals
  go_enter Tryz.func118,Tryz.ntmps118
  go_wp2_with (first
   | (go_at_call 176;(with_reducible refine cp.out.mono ?_);rintro e w1 ⟨rfl,h1⟩)
   | (go_at_call 174;(with_reducible refine(cw.out _).mono ?_);rintro e w2 ⟨rfl,rfl⟩))
  go_ret;exact⟨qa3 HV.out.symm,h1⟩
theorem pl_full (s:Str) (w:World) (hs:s.length<=100000000) (hM:ML w) :
  Calls Tryz.prog 115 #[.string (S s)] w fun e w'=>e=.returned (.bool (qaw s))/\Below w.heap.size w w':=by
 have cp:=Lib.hid (qjf (S s) s w rfl (by rw [qb9];exact hs) hM);have csp:=Lib.hid (fun(W:World) (hb:Below w.heap.size w W)=>qi3 (S s) 46 s W rfl (by rw [qb9];omega) (hM.below hb));have hcut : ∀p ∈ Id.cut 46 s,p.length<=s.length:=fun p hp=>qeb 46 s p hp
 have hmany:=qey 46 s;have hv:qaw s=(Id.isFull s && !(Id.cut 46 s).any Id.isWord):=rfl
 have hcc : ∀W:World,Calls Tryz.prog 172 #[.slice (some ⟨W.heap.size,0,none⟩) (Id.cut 46 s).length (Id.cut 46 s).length,.func (.func 174) #[] #[]] (W.alloc (.cells ((Id.cut 46 s).map strV).toArray 9)) fun e w'=>e=.returned (.bool ((Id.cut 46 s).any Id.isWord))/\Below (W.alloc (.cells ((Id.cut 46 s).map strV).toArray 9)).heap.size (W.alloc (.cells ((Id.cut 46 s).map strV).toArray 9)) w':=fun W=>by
  refine cf_Str _ _ (enters_of Tryz.func174 (by kernel_rfl) rfl) _ (Id.cut 46 s) _ _ ⟨_,_,rfl,by omega,by omega,fun i x hx=>⟨W.heap.size,0,rfl,by simp,[.string (S x)],?_,rfl⟩⟩ (fun x W2 _ _=>?_)
  ·intro j v hj
   have hj0:j=0:=by
    cases j with
    | zero=>rfl
    | succ j=>simp at hj
   subst hj0;simp at hj;subst hj;rw [Nat.zero_add,Nat.mul_one,Nat.add_zero];exact qdz W _ _ i x hx
  ·refine(qfz (S x) x W2 rfl).mono ?_
   rintro e w' ⟨rfl,rfl⟩;exact⟨rfl,Below.refl _ _⟩
 clear hcut hmany;generalize Id.cut 46 s=P at csp hv hcc;generalize Id.isFull s=R at cp hv;have HV:=Lib.hid hv;have cc:=Lib.hid hcc;clear hv hcc hM;generalize hQ:P.any Id.isWord=Q at cc HV;clear hQ;have hst:(strV:List UInt8->Value)=strV:=rfl;cases R with
 | false=>
  go_enter Tryz.func115,Tryz.ntmps115
  go_wp2_with (go_at_call 171;(with_reducible refine cp.out.mono ?_);rintro e w1 ⟨rfl,h1⟩)
  go_ret;exact⟨qa3 HV.out.symm,h1⟩
 | true=>
  go_enter Tryz.func115,Tryz.ntmps115
  go_wp2_with (first
   | (go_at_call 171;(with_reducible refine cp.out.mono ?_);rintro e w1 ⟨rfl,h1⟩;have k1:Bel w w1:=h1)
   | (go_at_call 173;(with_reducible refine(csp.out _ h1).mono ?_);rintro e w2 ⟨rfl,hw2⟩;(subst hw2);have k2:=Bel.alloc k1 (.cells (P.map strV).toArray 9))
   | (go_at_call 172;(with_reducible refine(cc.out _).mono ?_);rintro e w3 ⟨rfl,h3⟩))
  go_ret;exact⟨qa3 HV.out.symm,Bel.out (Bel.of k2 h3)⟩
end Go.Proofs.YtgpjhibdongmbaaGreatDoor
namespace Go.Proofs.YtgpjhibdongmbaaGreatDoor
open Go.RowKit Ck Rs
theorem qg9 {α:Type} (f:α->Bool) (l:List α):(l.any fun x => !f x) = !l.all f:=by
 induction l with
 | nil=>rfl
 | cons a l ih=>rw [List.any_cons,List.all_cons,ih,Bool.not_and]
theorem VPlan.form {w:World} {vs:List Value} {p:PPlan} (h:VPlan w vs p) : ∃(q1 q2:Option Addr) (c1 c2:Nat),vs=[.slice q1 p.progs.length c1,.slice q2 p.enums.length c2]/\Sv 3 VProg w (.slice q1 p.progs.length c1) p.progs/\Sv 5 VEnum w (.slice q2 p.enums.length c2) p.enums/\p.progs.length<=140737488355328/\p.enums.length<=140737488355328:=by
 obtain⟨gv,ev,rfl,h1,h2⟩:=h;obtain⟨q1,c1,rfl,l1⟩:=qax h1;obtain⟨q2,c2,rfl,l2⟩:=qax h2;exact⟨q1,q2,c1,c2,rfl,h1,h2,l1,l2⟩
theorem VProg.form {w:World} {vs:List Value} {g:PProg} (h:VProg w vs g) : ∃(q:Option Addr) (c:Nat),vs=[.string (S g.name),.slice q g.ops.length c,.int .i64 g.uns]/\Sv 8 VOp w (.slice q g.ops.length c) g.ops/\g.ops.length<=140737488355328:=by
 obtain⟨ov,rfl,h1⟩:=h;obtain⟨q,c,rfl,l⟩:=qax h1;exact⟨q,c,rfl,h1,l⟩
theorem VEnum.form {w:World} {vs:List Value} {e:PEnum} (h:VEnum w vs e) : ∃(q1 q2 q3:Option Addr) (c1 c2 c3:Nat),vs=[.string (S e.name),.bool e.op,.slice q1 e.items.length c1,.slice q2 e.res.length c2,.slice q3 e.notes.length c3]/\Sv 3 VItem w (.slice q1 e.items.length c1) e.items/\Spans w (.slice q2 e.res.length c2) e.res/\Notes w (.slice q3 e.notes.length c3) e.notes/\e.items.length<=140737488355328/\e.res.length<=140737488355328/\e.notes.length<=140737488355328:=by
 obtain⟨iv,rv,nv,rfl,h1,h2,h3⟩:=h;obtain⟨q1,c1,rfl,l1⟩:=qax h1;obtain⟨q2,c2,rfl,l2⟩:=qax h2;obtain⟨q3,c3,rfl,l3⟩:=qax h3;exact⟨q1,q2,q3,c1,c2,c3,rfl,h1,h2,h3,l1,l2,l3⟩
theorem VItem.form {w:World} {vs:List Value} {x:PItem} (h:VItem w vs x) : ∃(q:Option Addr) (c:Nat),vs=[.string (S x.name),.int .i64 x.num,.slice q x.notes.length c]/\Notes w (.slice q x.notes.length c) x.notes/\x.notes.length<=140737488355328:=by
 obtain⟨nv,rfl,h1⟩:=h;obtain⟨q,c,rfl,l⟩:=qax h1;exact⟨q,c,rfl,h1,l⟩
theorem cl_limG (g:PProg) (vs:List Value) (W:World) (hv:VProg W vs g) :
  Calls Tryz.prog 111 #[.agg vs.toArray] W fun e w'=>e=.returned (.bool (!limG g))/\Bel W w':=by
 obtain⟨q,c,rfl,_,hl⟩:=hv.form;have V:=Lib.hid (show decide ((64:Int)<(g.ops.length:Int)) = !limG g by unfold limG;rw [Bool.eq_iff_iff];simp;omega);clear hv;generalize limG g=R at V
 go_enter Tryz.func111,Tryz.ntmps111
 go_wp2;go_ret
 exact⟨qa3 V.out,(Bel.refl _).alloc _⟩
theorem cl_limE (e:PEnum) (vs:List Value) (W:World) (hv:VEnum W vs e) :
  Calls Tryz.prog 113 #[.agg vs.toArray] W fun e' w'=>e'=.returned (.bool (!limE e))/\Bel W w':=by
 obtain⟨q1,q2,q3,c1,c2,c3,rfl,_,_,_,l1,l2,_⟩:=hv.form;have V:=Lib.hid (show limE e=decide (¬(e.items.length:Int)<1/\¬(64:Int)<(e.items.length:Int)/\¬(16:Int)<(e.res.length:Int))by unfold limE;rw [Bool.eq_iff_iff];simp;omega);clear hv;generalize limE e=R at V
 go_enter Tryz.func113,Tryz.ntmps113
 go_wp2
 all_goals go_ret
 all_goals refine⟨qa3 ?_,(Bel.refl _).alloc _⟩
 all_goals (rw [V.out,Bool.eq_iff_iff];simp_all <;> omega)
theorem qa6 {w w1:World} {cs:Array Value} {T:TypeId} (k:Bel (w.alloc (.cells cs T)) w1) (i:Nat) (v:Value) (h:cs[i]? = some v):w1.cell? ⟨w.heap.size,i,none⟩=some v:=by
 refine k.some ?_;rw [World.cell?_alloc_at _ _ _ _ rfl];exact h
theorem qga {α:Type} : ∀xs:List α,(xs.any fun _=>false)=false
 | []=>rfl
 | a :: l=>by rw [List.any_cons,qga l];rfl
theorem qbc {α:Type} {xs:List α} {P:Program} {f:FuncId} {args:Array Value} {w:World} (h:Calls P f args w fun e w'=>e=.returned (.bool (xs.any fun _=>false))/\Bel w w'):Calls P f args w fun e w'=>e=.returned (.bool false)/\Bel w w':=by
 rwa [qga]at h
theorem qhm (p:PPlan) (vs:List Value) (w:World) (hv:VPlan w vs p) (h:qhy p=true) :
  Calls Tryz.prog 83 #[.agg vs.toArray] w fun e w'=>e=.returned (.bool false)/\Bel w w':=by
 obtain⟨q1,q2,c1,c2,rfl,h1,h2,l1,l2⟩:=hv.form;unfold qhy at h;simp only [Bool.and_eq_true,List.all_eq_true,decide_eq_true_eq]at h;obtain⟨⟨n1,n2⟩,g1,g2⟩:=h;have hS0:=(Bel.refl w).alloc (.cells #[.slice q1 p.progs.length c1,.slice q2 p.enums.length c2] 25);have CG:=Lib.hid (fun W (k:Bel (w.alloc (.cells #[.slice q1 p.progs.length c1,.slice q2 p.enums.length c2] 25)) W)=>qbc (qd4 VProg VProg.len 111 #[] (enters_of Tryz.func111 (by kernel_rfl) rfl) (.slice q1 p.progs.length c1) p.progs (fun _=>false) W (h1.bel VProg.stays (Bel.of hS0 k)) (fun x vs W2 hx hv hb=>by have:=cl_limG x vs W2 (VProg.stays _ _ _ _ hb hv);rwa [g1 x hx]at this)));have CE:=Lib.hid (fun W (k:Bel (w.alloc (.cells #[.slice q1 p.progs.length c1,.slice q2 p.enums.length c2] 25)) W)=>qbc (qcc VEnum VEnum.len 113 #[] (enters_of Tryz.func113 (by kernel_rfl) rfl) (.slice q2 p.enums.length c2) p.enums (fun _=>false) W (h2.bel VEnum.stays (Bel.of hS0 k)) (fun x vs W2 hx hv hb=>by have:=cl_limE x vs W2 (VEnum.stays _ _ _ _ hb hv);rwa [g2 x hx]at this)));clear hv h1 h2 g1 g2;have hm : ¬(64:Int)<max (p.progs.length:Int) (p.enums.length:Int):=by omega
 clear n1 n2
 go_enter Tryz.func83,Tryz.ntmps83
 go_wp2_with (first
  | (go_at_call 110;(with_reducible refine(CG.out _ (Bel.refl _)).mono ?_);rintro e w1 ⟨rfl,k1⟩;have k1:Bel _ w1:=k1;have t0:=qa6 k1 0 _ rfl;have t1:=qa6 k1 1 _ rfl)
  | (go_at_call 112;(with_reducible refine(CE.out _ k1).mono ?_);rintro e w2 ⟨rfl,k2⟩;have k2:Bel _ w2:=Bel.of k1 k2))
 go_ret;exact⟨rfl,Bel.of hS0 k2⟩
end Go.Proofs.YtgpjhibdongmbaaGreatDoor
