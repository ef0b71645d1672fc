import Derived.Test.YtgpjhibdongmbaaGreatDoorRsR22F
import Derived.Test.YtgpjhibdongmbaaGreatDoorRsR22J
import Derived.Test.YtgpjhibdongmbaaGreatDoorRsAw
import Derived.Test.YtgpjhibdongmbaaGreatDoorRsRes11
import Derived.Test.YtgpjhibdongmbaaGreatDoorRkC
import Derived.Test.YtgpjhibdongmbaaGreatDoorMzTree
import Derived.Test.YtgpjhibdongmbaaGreatDoorRsEnd
set_option maxRecDepth 100000
set_option maxHeartbeats 4000000
set_option linter.unusedVariables false
set_option linter.unusedSimpArgs false
namespace Go.Proofs.YtgpjhibdongmbaaGreatDoor
section
open Go.RowKit Ck Rs
def SmOut (p:PPlan) (w:World) (e:Ending) (w':World):Prop := ∃b,e=.returned (.bool b)/\(b=true->SmallP p)/\Bel w w'
theorem sm_no {p:PPlan} {w w':World} (k:Bel w w'):SmOut p w (.returned (.bool false)) w':=⟨false,rfl,fun h=>(by cases h),k⟩
theorem wrap_i (n:Int) (h0 : -9223372036854775808<=n) (h1:n<=9223372036854775807):IntKind.i64.wrap n=n:=by
 simp [IntKind.wrap,IntKind.bits,IntKind.signed];omega
theorem qhb (p:PPlan) (vs:List Value) (w:World) (hv:VPlan w vs p) :
  Calls Tryz.prog 28 #[.agg vs.toArray] w (SmOut p w):=by
 obtain⟨q1,q2,c1,c2,rfl,h1,h2,l1,l2⟩:=hv.form;have hS0:=(ST.start w).addbox #[.slice q1 p.progs.length c1,.slice q2 p.enums.length c2] 25;have HS:=Lib.hid hS0;obtain⟨_,_,he,_,_,hel⟩:=h1;cases he;have EG:=Lib.hid hel;obtain⟨_,_,he,_,_,hel2⟩:=h2;cases he;have EE:=Lib.hid hel2;clear hv hel hel2 hS0;by_cases z1:60<p.progs.length
 ·have z1i:(60:Int)<(p.progs.length:Int):=by omega
  have z1d:decide (60<p.progs.length)=true:=decide_eq_true z1
  go_enter Tryz.func28,Tryz.ntmps28
  go_wp2;go_ret
  exact sm_no HS.out.bel
 ·have z1i : ¬(60:Int)<(p.progs.length:Int):=by omega
  have z1d:decide (60<p.progs.length)=false:=decide_eq_false z1;by_cases z2:60<p.enums.length
  ·have z2i:(60:Int)<(p.enums.length:Int):=by omega
   have z2d:decide (60<p.enums.length)=true:=decide_eq_true z2
   go_enter Tryz.func28,Tryz.ntmps28
   go_wp2;go_ret
   exact sm_no HS.out.bel
  ·have z2i : ¬(60:Int)<(p.enums.length:Int):=by omega
   have z2d:decide (60<p.enums.length)=false:=decide_eq_false z2;have I0:=Lib.hid (show ∀j x,j<0->p.progs[j]? = some x->SmallG x from fun j x h=>absurd h (by omega));have ZZ:=Lib.hid (show p.progs.length<=60/\p.enums.length<=60 by omega)
   go_enter Tryz.func28,Tryz.ntmps28
   go_upto_region 5 with(fail)
   clear z1 z1i z1d z2 z2i z2d
   go_loopw [3,4] (fun l i wr => ∃(k:Nat) (L:Nat),k<=p.progs.length/\L<=400/\l=.int .i64 (L:Int)/\i=.int .i64 k/\Hid (ST w [] [⟨w.heap.size,#[.slice q1 p.progs.length c1,.slice q2 p.enums.length c2],25⟩] wr)/\Hid (∀j x,j<k->p.progs[j]? = some x->SmallG x)) (fun _ i _=>p.progs.length-(intOf i).toNat)
   case atStart=>exact⟨0,400,by omega,by omega,rfl,rfl,HS,I0⟩
   case round=>as_aux_lemma=>
    clear HS I0;obtain⟨k,L,hk,hL,rfl,rfl,hS,hI⟩:=hrel;have f0:=hS.out.cell 0 rfl 0;dsimp only at f0;have g0:(0:Int)<=(L:Int):=by omega
    by_cases hlt:k<p.progs.length
    ·have hki:(k:Int)<(p.progs.length:Int):=by omega
     have hk0:(0:Int)<=(k:Int):=by omega
     have hg:p.progs[k]? = some p.progs[k]:=List.getElem?_eq_getElem hlt;obtain⟨gb,off,rfl,hbs,vs,hce,hvs⟩:=EG.out k _ hg;obtain⟨oq,oc,rfl,hso,lo⟩:=hvs.form;obtain⟨_,_,he,_,_,hei⟩:=hso;cases he;have EI:=Lib.hid hei;have HG:=Lib.hid hg;clear EG hvs hei hg;generalize p.progs[k]=x at *;have e0:=hS.out.bel.some (hce 0 _ rfl);rw [Nat.add_zero]at e0;have EC:=Lib.hid (hce 1 _ rfl);have e1:=hS.out.bel.some EC.out;clear hce;have hw:IntKind.i64.wrap ((L:Int)-(x.ops.length:Int))=(L:Int)-(x.ops.length:Int):=wrap_i _ (by omega) (by omega);by_cases a1:(L:Int)-(x.ops.length:Int)<0
     ·go_wp2
      go_ret;exact sm_no hS.out.bel
     ·have nz:=qaj x.name
      by_cases a2:300<(S x.name).size
      ·have a2i:(300:Int)<((S x.name).size:Int):=by omega
       have a2d:decide (300<(S x.name).size)=true:=decide_eq_true a2;go_wp2;go_ret;exact sm_no hS.out.bel
      ·have a2i : ¬(300:Int)<((S x.name).size:Int):=by omega
       have a2d:decide (300<(S x.name).size)=false:=decide_eq_false a2;obtain⟨L',hL'⟩ : ∃L':Nat,(L:Int)-(x.ops.length:Int)=(L':Int):=⟨L-x.ops.length,by omega⟩;have hnm:=Lib.hid (show x.name.length<=300 by omega);have hop:=Lib.hid (show x.ops.length<=400/\L'<=400 by omega);have J0:=Lib.hid (show ∀j y,j<0->x.ops[j]? = some y->y.name.length<=300/\y.ali.length<=300 from fun j y h=>absurd h (by omega));rw [hL']at hw a1
       go_upto_region 11 with(fail)
       clear f0 e0 e1 hw nz a1 a2 a2i a2d
       go_loopw [5] (fun i2 wr => ∃(j:Nat),j<=x.ops.length/\i2=.int .i64 j/\Hid (ST w [] [⟨w.heap.size,#[.slice (some ⟨gb,off,none⟩) p.progs.length c1,.slice q2 p.enums.length c2],25⟩] wr)/\Hid (∀i y,i<j->x.ops[i]? = some y->y.name.length<=300/\y.ali.length<=300)) (fun i2 _=>x.ops.length-(intOf i2).toNat)
       case atStart=>exact⟨0,by omega,rfl,hS,J0⟩
       case round=>as_aux_lemma=>
        clear hS J0;obtain⟨j,hj,rfl,hS,hJ⟩:=hrel;have f0:=hS.out.cell 0 rfl 0;dsimp only at f0;have e1:=hS.out.bel.some EC.out;by_cases hlt2:j<x.ops.length
        ·have hji:(j:Int)<(x.ops.length:Int):=by omega
         have hj0:(0:Int)<=(j:Int):=by omega
         have hg2:x.ops[j]? = some x.ops[j]:=List.getElem?_eq_getElem hlt2;obtain⟨gb2,off2,rfl,hbs2,vs2,hce2,hvs2⟩:=EI.out j _ hg2;obtain rfl:vs2=opC x.ops[j]:=hvs2;have HG2:=Lib.hid hg2;clear EI hg2;generalize x.ops[j]=y at *;have y1:=hS.out.bel.some (hce2 1 _ rfl);have y2:=hS.out.bel.some (hce2 2 _ rfl);clear hce2;have n1:=qaj y.name;have n2:=qaj y.ali;by_cases a1:300<(S y.name).size
         ·have a1i:(300:Int)<((S y.name).size:Int):=by omega
          have a1d:decide (300<(S y.name).size)=true:=decide_eq_true a1;go_wp2;go_ret;exact sm_no hS.out.bel
         ·have a1i : ¬(300:Int)<((S y.name).size:Int):=by omega
          have a1d:decide (300<(S y.name).size)=false:=decide_eq_false a1;by_cases a2:300<(S y.ali).size
          ·have a2i:(300:Int)<((S y.ali).size:Int):=by omega
           have a2d:decide (300<(S y.ali).size)=true:=decide_eq_true a2;go_wp2;go_ret;exact sm_no hS.out.bel
          ·have a2i : ¬(300:Int)<((S y.ali).size:Int):=by omega
           have a2d:decide (300<(S y.ali).size)=false:=decide_eq_false a2
           have hJ2:=Lib.hid (show ∀i z,i<j+1->x.ops[i]? = some z->z.name.length<=300/\z.ali.length<=300 from fun i z hi hz=>by
            by_cases hij:i=j
            ·rw [hij,HG2.out]at hz
             cases hz;exact⟨by omega,by omega⟩
            ·exact hJ.out i z (by omega) hz)
           clear hJ n1 n2;go_wp2;go_roundw
           case rel=>exact⟨j+1,by omega,by go_num,hS,hJ2⟩
           case measure=>simp [intOf];omega
        ·have hji : ¬(j:Int)<(x.ops.length:Int):=by omega
         have hI2:=Lib.hid (show ∀i z,i<k+1->p.progs[i]? = some z->SmallG z from fun i z hi hz=>by
          by_cases hik:i=k
          ·rw [hik,HG.out]at hz
           cases hz
           exact⟨hnm.out,hop.out.1,fun o ho=>by
            obtain⟨m,hm⟩:=List.getElem?_of_mem ho
            exact hJ.out m o (by have:=(List.getElem?_eq_some_iff.1 hm).1;omega) hm⟩
          ·exact hI.out i z (by omega) hz)
         have hL4:=hop.out.2;clear hJ hI EI;go_wp2;go_roundw
         case rel=>exact⟨k+1,L',by omega,by omega,rfl,by go_num,hS,hI2⟩
         case measure=>simp [intOf];omega
    ·have hki : ¬(k:Int)<(p.progs.length:Int):=by omega
     have IG:=Lib.hid (show ∀g ∈ p.progs,SmallG g from fun g hg=>by
      obtain⟨m,hm⟩:=List.getElem?_of_mem hg
      exact hI.out m g (by have:=(List.getElem?_eq_some_iff.1 hm).1;omega) hm)
     have I0:=Lib.hid (show ∀j x,j<0->p.enums[j]? = some x->SmallE x from fun j x h=>absurd h (by omega));clear hI EG
     go_upto_region 16 with(fail)
     clear f0 hki hlt hk g0
     go_loopw [3,6] (fun l i wr => ∃(k:Nat) (L:Int),k<=p.enums.length/\-4000000<=L/\L<=400/\l=.int .i64 L/\i=.int .i64 k/\Hid (ST w [] [⟨w.heap.size,#[.slice q1 p.progs.length c1,.slice q2 p.enums.length c2],25⟩] wr)/\Hid (∀j x,j<k->p.enums[j]? = some x->SmallE x)) (fun _ i _=>p.enums.length-(intOf i).toNat)
     case atStart=>exact⟨0,(L:Int),by omega,by omega,by omega,rfl,rfl,hS,I0⟩
     case round=>as_aux_lemma=>
      clear hS I0;obtain⟨k,L,hk,hL0,hL,rfl,rfl,hS,hI⟩:=hrel;have f1:=hS.out.cell 0 rfl 1;dsimp only at f1;by_cases hlt:k<p.enums.length
      ·have hki:(k:Int)<(p.enums.length:Int):=by omega
       have hk0:(0:Int)<=(k:Int):=by omega
       by_cases g0:0<=L
       ·have hg:p.enums[k]? = some p.enums[k]:=List.getElem?_eq_getElem hlt
        obtain⟨gb,off,rfl,hbs,vs,hce,hvs⟩:=EE.out k _ hg;obtain⟨r1,r2,r3,d1,d2,d3,rfl,hsi,_,_,li,lr,ln⟩:=hvs.form;obtain⟨_,_,he,_,_,hei⟩:=hsi;cases he;have EI:=Lib.hid hei;have HG:=Lib.hid hg;clear EE hvs hei hg;generalize p.enums[k]=x at *;have e0:=hS.out.bel.some (hce 0 _ rfl);rw [Nat.add_zero]at e0;have e1:=hS.out.bel.some (hce 1 _ rfl);have e2:=hS.out.bel.some (hce 2 _ rfl);have e3:=hS.out.bel.some (hce 3 _ rfl);have e4:=hS.out.bel.some (hce 4 _ rfl);have HX:=Lib.hid (hS.out.addbox #[.string (S x.name),.bool x.op,.slice r1 x.items.length d1,.slice r2 x.res.length d2,.slice r3 x.notes.length d3] 84);clear hce
        go_upto_region 19 with(fail)
        clear e0 e1 e2 e3 e4 f1;generalize hW1:World.alloc wr _=W1;have T:=Lib.hid (show ST w [] [⟨wr.heap.size,#[.string (S x.name),.bool x.op,.slice r1 x.items.length d1,.slice r2 x.res.length d2,.slice r3 x.notes.length d3],84⟩,⟨w.heap.size,#[.slice q1 p.progs.length c1,.slice (some ⟨gb,off,none⟩) p.enums.length c2],25⟩] W1 from hW1 ▸ HX.out);generalize wr.heap.size=db at T ⊢;clear hW1 HX hS;have hS:=T;have t0:=hS.out.cell 0 rfl 0;have t2:=hS.out.cell 0 rfl 2;have t3:=hS.out.cell 0 rfl 3;dsimp only at t0 t2 t3;have nz:=qaj x.name;by_cases a1:L<(x.items.length:Int)
        ·go_wp2
         go_ret;exact sm_no hS.out.bel
        ·by_cases a2:L<(x.res.length:Int)
         ·go_wp2
          go_ret;exact sm_no hS.out.bel
         ·by_cases a3:300<(S x.name).size
          ·have a3i:(300:Int)<((S x.name).size:Int):=by omega
           have a3d:decide (300<(S x.name).size)=true:=decide_eq_true a3;go_wp2;go_ret;exact sm_no hS.out.bel
          ·have a3i : ¬(300:Int)<((S x.name).size:Int):=by omega
           have a3d:decide (300<(S x.name).size)=false:=decide_eq_false a3;have hw1:IntKind.i64.wrap (L-(x.items.length:Int))=L-(x.items.length:Int):=wrap_i _ (by omega) (by omega);have hw2:IntKind.i64.wrap (L-(x.items.length:Int)-(x.res.length:Int))=L-(x.items.length:Int)-(x.res.length:Int):=wrap_i _ (by omega) (by omega);have HB:=Lib.hid (show x.name.length<=300/\x.items.length<=400/\x.res.length<=400/\-4000000<=L-(x.items.length:Int)-(x.res.length:Int)/\L-(x.items.length:Int)-(x.res.length:Int)<=400 by omega);have J0:=Lib.hid (show ∀j y,j<0->x.items[j]? = some y->y.name.length<=300/\y.notes.length<=1/\∀n ∈ y.notes,n.val.t.length<=300 from fun j y h=>absurd h (by omega));obtain⟨L',hL'⟩ : ∃L',L'=L-(x.items.length:Int)-(x.res.length:Int):=⟨_,rfl⟩;rw [←hL']at hw2 HB
           go_upto_region 23 with(fail)
           (try rw [←hL'])
           clear t0 t2 t3 hw1 hw2 nz a1 a2 a3 a3i a3d hL' hL hL0 g0
           go_loopw [8] (fun i2 wr => ∃(j:Nat),j<=x.items.length/\i2=.int .i64 j/\Hid (ST w [] [⟨db,#[.string (S x.name),.bool x.op,.slice r1 x.items.length d1,.slice r2 x.res.length d2,.slice r3 x.notes.length d3],84⟩,⟨w.heap.size,#[.slice q1 p.progs.length c1,.slice (some ⟨gb,off,none⟩) p.enums.length c2],25⟩] wr)/\Hid (∀i y,i<j->x.items[i]? = some y->y.name.length<=300/\y.notes.length<=1/\∀n ∈ y.notes,n.val.t.length<=300)) (fun i2 _=>x.items.length-(intOf i2).toNat)
           case atStart=>exact⟨0,by omega,rfl,hS,J0⟩
           case round=>as_aux_lemma=>
            clear hS J0;obtain⟨j,hj,rfl,hS,hJ⟩:=hrel;have t2:=hS.out.cell 0 rfl 2;dsimp only at t2;by_cases hlt2:j<x.items.length
            ·have hji:(j:Int)<(x.items.length:Int):=by omega
             have hj0:(0:Int)<=(j:Int):=by omega
             have hg2:x.items[j]? = some x.items[j]:=List.getElem?_eq_getElem hlt2;obtain⟨gb2,off2,rfl,hbs2,vs2,hce2,hvs2⟩:=EI.out j _ hg2;have HG2:=Lib.hid hg2;clear EI hg2;generalize x.items[j]=y at *;obtain⟨nv,rfl,hno⟩:=hvs2;obtain⟨nq,nc,rfl,hnl,hncap,hnel⟩:=hno;have y0:=hS.out.bel.some (hce2 0 _ rfl);rw [Nat.add_zero]at y0;have y2:=hS.out.bel.some (hce2 2 _ rfl);clear hce2;have n1:=qaj y.name;by_cases a1:300<(S y.name).size
             ·have a1i:(300:Int)<((S y.name).size:Int):=by omega
              have a1d:decide (300<(S y.name).size)=true:=decide_eq_true a1;go_wp2;go_ret;exact sm_no hS.out.bel
             ·have a1i : ¬(300:Int)<((S y.name).size:Int):=by omega
              have a1d:decide (300<(S y.name).size)=false:=decide_eq_false a1;by_cases a2:1<y.notes.length
              ·have a2i:(1:Int)<(y.notes.length:Int):=by omega
               have a2d:decide (1<y.notes.length)=true:=decide_eq_true a2;go_wp2;go_ret;exact sm_no hS.out.bel
              ·have a2i : ¬(1:Int)<(y.notes.length:Int):=by omega
               have a2d:decide (1<y.notes.length)=false:=decide_eq_false a2;cases hns:y.notes with
               | nil=>
                have hl0:y.notes.length=0:=by rw [hns];rfl
                have b2:((y.notes.length:Int) == 1)=false:=beq_eq_false_iff_ne.2 (by omega);have b3 : ¬ y.notes.length=1:=by omega
                have HNS:=Lib.hid hns;clear hnel hns hl0
                have hJ2:=Lib.hid (show ∀i z,i<j+1->x.items[i]? = some z->z.name.length<=300/\z.notes.length<=1/\∀n ∈ z.notes,n.val.t.length<=300 from fun i z hi hz=>by
                 by_cases hij:i=j
                 ·rw [hij,HG2.out]at hz
                  cases hz;exact⟨by omega,by omega,fun n hn=>by rw [HNS.out]at hn;cases hn⟩
                 ·exact hJ.out i z (by omega) hz)
                clear hJ n1;go_wp2;go_roundw
                case rel=>exact⟨j+1,by omega,by go_num,hS,hJ2⟩
                case measure=>simp [intOf];omega
               | cons n t=>
                have hl1:y.notes.length=t.length+1:=by rw [hns];rfl
                have ht:t=[]:=List.length_eq_zero_iff.1 (by omega);have b2:((y.notes.length:Int) == 1)=true:=beq_iff_eq.2 (by omega);have b3:y.notes.length=1:=by omega
                have b4:0<y.notes.length:=by omega
                have b5:(0:Int)<(y.notes.length:Int):=by omega
                have HNS:=Lib.hid (show y.notes=[n]by rw [hns,ht]);obtain⟨nb,noff,rfl,_,vn,hcn,hvn⟩:=hnel 0 n (by rw [hns];rfl);obtain⟨vv,rfl,p1,p2,p3,p4,m1,m2,m3,m4,rfl,_⟩:=hvn;have y3:=hS.out.bel.some (hcn 3 _ rfl);rw [Nat.zero_mul,Nat.add_zero]at y3;have B3:=Lib.hid b3;clear hnel hns hl1 ht hcn b3;have n2:=qaj n.val.t;by_cases a3:300<(S n.val.t).size
                ·have a3i:(300:Int)<((S n.val.t).size:Int):=by omega
                 have a3d:decide (300<(S n.val.t).size)=true:=decide_eq_true a3;go_wp2;go_ret;exact sm_no hS.out.bel
                ·have a3i : ¬(300:Int)<((S n.val.t).size:Int):=by omega
                 have a3d:decide (300<(S n.val.t).size)=false:=decide_eq_false a3;have h300:=Lib.hid (show n.val.t.length<=300 by omega)
                 have hJ2:=Lib.hid (show ∀i z,i<j+1->x.items[i]? = some z->z.name.length<=300/\z.notes.length<=1/\∀n ∈ z.notes,n.val.t.length<=300 from fun i z hi hz=>by
                  by_cases hij:i=j
                  ·rw [hij,HG2.out]at hz
                   cases hz;exact⟨by omega,by omega,fun z hz=>by rw [HNS.out]at hz;rw [List.mem_singleton.1 hz];exact h300.out⟩
                  ·exact hJ.out i z (by omega) hz)
                 clear hJ n1;go_wp2;go_roundw
                 case rel=>exact⟨j+1,by omega,by go_num,hS,hJ2⟩
                 case measure=>simp [intOf];omega
            ·have hji : ¬(j:Int)<(x.items.length:Int):=by omega
             have hI2:=Lib.hid (show ∀i z,i<k+1->p.enums[i]? = some z->SmallE z from fun i z hi hz=>by
              by_cases hik:i=k
              ·rw [hik,HG.out]at hz
               cases hz
               exact⟨HB.out.1,HB.out.2.1,HB.out.2.2.1,fun o ho=>by
                obtain⟨m,hm⟩:=List.getElem?_of_mem ho
                exact hJ.out m o (by have:=(List.getElem?_eq_some_iff.1 hm).1;omega) hm⟩
              ·exact hI.out i z (by omega) hz)
             have hL3:=HB.out.2.2.2;clear hJ hI EI;go_wp2;go_roundw
             case rel=>exact⟨k+1,L',by omega,hL3.1,hL3.2,rfl,by go_num,Lib.hid hS.out.dropbox0,hI2⟩
             case measure=>simp [intOf];omega
       ·have g0i : ¬(0:Int)<=L:=g0
        clear EE;go_wp2;go_ret;exact sm_no hS.out.bel
      ·have hki : ¬(k:Int)<(p.enums.length:Int):=by omega
       have SP:=Lib.hid (show SmallP p from⟨ZZ.out.1,ZZ.out.2,IG.out,fun e he=>by
        obtain⟨m,hm⟩:=List.getElem?_of_mem he
        exact hI.out m e (by have:=(List.getElem?_eq_some_iff.1 hm).1;omega) hm⟩)
       clear hI EE;by_cases g0:0<=L
       ·go_wp2
        go_ret;exact⟨_,rfl,fun _=>SP.out,hS.out.bel⟩
       ·go_wp2
        go_ret;exact⟨_,rfl,fun _=>SP.out,hS.out.bel⟩
end
section
open Go.RowKit Ck Rs
theorem qkm (p q:PPlan) (p1 p2 p3 p4:Option Addr) (c1 c2 c3 c4:Nat) (W:World) (hG:Pl p q p1 p2 p3 p4 c1 c2 c3 c4 W) :
  Calls Tryz.prog 9 #[.agg #[.slice p1 p.progs.length c1,.slice p2 p.enums.length c2],.agg #[.slice p3 q.progs.length c3,.slice p4 q.enums.length c4]] W (Wk (Gd p q) W):=by
 have hS0:=((ST.start W).addbox #[.slice p1 p.progs.length c1,.slice p2 p.enums.length c2] 25).addbox #[.slice p3 q.progs.length c3,.slice p4 q.enums.length c4] 25;simp only [World.size_alloc]at hS0;have H0:=Lib.hid hS0;have KS:=Lib.hid (fun WW (T:ST W [] [⟨W.heap.size+1,#[.slice p3 q.progs.length c3,.slice p4 q.enums.length c4],25⟩,⟨W.heap.size,#[.slice p1 p.progs.length c1,.slice p2 p.enums.length c2],25⟩] WW)=>show(WW.cell? ⟨W.heap.size,0,none⟩=some (.slice p1 p.progs.length c1)/\WW.cell? ⟨W.heap.size,1,none⟩=some (.slice p2 p.enums.length c2)/\WW.cell? ⟨W.heap.size+1,0,none⟩=some (.slice p3 q.progs.length c3)/\WW.cell? ⟨W.heap.size+1,1,none⟩=some (.slice p4 q.enums.length c4))from⟨T.cell 1 rfl 0,T.cell 1 rfl 1,T.cell 0 rfl 0,T.cell 0 rfl 1⟩);have C1:=Lib.hid (fun WW (T:ST W [] [⟨W.heap.size+1,#[.slice p3 q.progs.length c3,.slice p4 q.enums.length c4],25⟩,⟨W.heap.size,#[.slice p1 p.progs.length c1,.slice p2 p.enums.length c2],25⟩] WW)=>qhb p _ WW (show VPlan WW [.slice p1 p.progs.length c1,.slice p2 p.enums.length c2] p from⟨_,_,rfl,hG.g0.bel VProg.stays T.bel,hG.g1.bel VEnum.stays T.bel⟩));have C2:=Lib.hid (fun WW (T:ST W [] [⟨W.heap.size+1,#[.slice p3 q.progs.length c3,.slice p4 q.enums.length c4],25⟩,⟨W.heap.size,#[.slice p1 p.progs.length c1,.slice p2 p.enums.length c2],25⟩] WW)=>qhb q _ WW (show VPlan WW [.slice p3 q.progs.length c3,.slice p4 q.enums.length c4] q from⟨_,_,rfl,hG.g2.bel VProg.stays T.bel,hG.g3.bel VEnum.stays T.bel⟩));have C3:=Lib.hid (fun WW (T:ST W [] [⟨W.heap.size+1,#[.slice p3 q.progs.length c3,.slice p4 q.enums.length c4],25⟩,⟨W.heap.size,#[.slice p1 p.progs.length c1,.slice p2 p.enums.length c2],25⟩] WW) (hs:SmallP p)=>qju p _ WW (show VPlan WW [.slice p1 p.progs.length c1,.slice p2 p.enums.length c2] p from⟨_,_,rfl,hG.g0.bel VProg.stays T.bel,hG.g1.bel VEnum.stays T.bel⟩) hs);have C4:=Lib.hid (fun WW (T:ST W [] [⟨W.heap.size+1,#[.slice p3 q.progs.length c3,.slice p4 q.enums.length c4],25⟩,⟨W.heap.size,#[.slice p1 p.progs.length c1,.slice p2 p.enums.length c2],25⟩] WW) (hs:SmallP q)=>qju q _ WW (show VPlan WW [.slice p3 q.progs.length c3,.slice p4 q.enums.length c4] q from⟨_,_,rfl,hG.g2.bel VProg.stays T.bel,hG.g3.bel VEnum.stays T.bel⟩) hs);clear hG hS0
 go_enter Tryz.func9,Tryz.ntmps9
 go_upto_region 1 with(fail)
 obtain⟨x0,x1,x2,x3⟩:=KS.out _ H0.out
 go_wp2_with (go_at_call 28;(with_reducible refine(C1.out _ H0.out).mono ?_);rintro e' w1 ⟨A,rfl,hA,k1⟩;have k1:Bel _ w1:=k1;have H1:=Lib.hid (H0.out.belw k1);have hA:=Lib.hid hA;obtain⟨x0,x1,x2,x3⟩:=KS.out _ H1.out;clear k1)
 rotate_left 1
 focus
  go_ret;exact wk_no H1.out.bel
 have s1:=Lib.hid (hA.out (by assumption));clear hA C1
 go_wp2_with (go_at_call 28;(with_reducible refine(C2.out _ H1.out).mono ?_);rintro e' w2 ⟨B,rfl,hB,k2⟩;have k2:Bel _ w2:=k2;have H2:=Lib.hid (H1.out.belw k2);have hB:=Lib.hid hB;obtain⟨x0,x1,x2,x3⟩:=KS.out _ H2.out;clear k2)
 rotate_left 1
 focus
  go_ret;exact wk_no H2.out.bel
 have s2:=Lib.hid (hB.out (by assumption));clear hB C2
 go_wp2_with (go_at_call 29;(with_reducible refine(C3.out _ H2.out s1.out).mono ?_);rintro e' w3 ⟨M,rfl,hM,k3⟩;have k3:Bel _ w3:=k3;have H3:=Lib.hid (H2.out.belw k3);have hM:=Lib.hid hM;obtain⟨x0,x1,x2,x3⟩:=KS.out _ H3.out;clear k3)
 rotate_left 1
 focus
  go_ret;exact wk_no H3.out.bel
 have v1:=Lib.hid (hM.out (by first|assumption|exact beq_iff_eq.1 (by assumption)));clear hM C3
 go_wp2_with (go_at_call 29;(with_reducible refine(C4.out _ H3.out s2.out).mono ?_);rintro e' w4 ⟨L,rfl,hL,k4⟩;have k4:Bel _ w4:=k4;have H4:=Lib.hid (H3.out.belw k4);have hL:=Lib.hid hL;obtain⟨x0,x1,x2,x3⟩:=KS.out _ H4.out;clear k4)
 go_ret;exact⟨_,rfl,fun h=>⟨v1.out,hL.out (beq_iff_eq.1 h),s1.out,s2.out⟩,H4.out.bel⟩
end
section
open Go.RowKit Ck Rs
theorem qkk {p q:PPlan} {nm:Str} (h:qbg p nm=none ∨ qbg q nm=none):makeR p q nm=([],10):=by
 unfold makeR;rcases h with h|h
 ·rw [h]
 ·rw [h];cases qbg p nm <;> rfl
theorem mk_some {p q:PPlan} {nm:Str} {a b:Nat} (h:qbg p nm=some a) (h2:qbg q nm=some b):makeR p q nm=(fromR p q a b,0):=by
 unfold makeR;rw [h,h2]
end
section
open Go.RowKit Ck Rs
theorem qi0 {p:PPlan} {nm:Str} {a:Nat} (h:qbg p nm=some a):qau p nm=.tuple #[.int .i64 (a:Int),.bool true]:=by
 unfold qau;rw [h]
theorem qi1 {p:PPlan} {nm:Str} (h:qbg p nm=none):qau p nm=.tuple #[.int .i64 0,.bool false]:=by
 unfold qau;rw [h]
end
section
open Go.RowKit Ck Rs
def SameOut (l m:List PAdapt) (w:World) (e:Ending) (w':World):Prop := ∃b,e=.returned (.bool b)/\(b=true ↔ l=m)/\Bel w w'
theorem qcl {l m:List PAdapt} {w w':World} (h:l ≠ m) (k:Bel w w'):SameOut l m w (.returned (.bool false)) w':=⟨false,rfl,⟨fun x=>(by cases x),fun x=>absurd x h⟩,k⟩
def Eqs {α:Type} (l m:List α) (k:Nat):Prop:=AllTo (fun i=>l[i]? = m[i]?) k
theorem qkz {α:Type} {l m:List α} (hl:l.length=m.length) (h:Eqs l m l.length):l=m:=by
 apply List.ext_getElem? ;intro i;rcases Nat.lt_or_ge i l.length with hi|hi
 ·exact h i hi
 ·rw [List.getElem?_eq_none_iff.2 hi,List.getElem?_eq_none_iff.2 (by omega)]
theorem at_ne {α:Type} {l m:List α} {k:Nat} {x y:α} (hx:l[k]? = some x) (hy:m[k]? = some y) (h:x ≠ y):l ≠ m:=fun e=>by
 rw [e,hy]at hx;exact h (Option.some.inj hx).symm
theorem act_eq {a b:PAct} (h1:a.num=b.num) (h2:a.kind=b.kind) (h3:a.sub=b.sub):a=b:=by
 cases a;cases b
 simp_all
theorem adapt_eq {a b:PAdapt} (h1:a.w=b.w) (h2:a.r=b.r) (h3:a.acts=b.acts) (h4:a.lacks=b.lacks):a=b:=by
 cases a;cases b
 simp_all
theorem rf_Same (v u:Value) (l m:List PAdapt) (w:World) (hv:Sv 4 VAdapt w v l) (hu:Sv 4 VAdapt w u m) :
  Calls Tryz.prog 13 #[v,u] w (SameOut l m w):=by
 obtain⟨q1,c1,rfl,l1,_,hel1⟩:=hv;obtain⟨q2,c2,rfl,l2,_,hel2⟩:=hu;have EX:=Lib.hid hel1;have EY:=Lib.hid hel2;have HS:=Lib.hid (ST.start w);clear hel1 hel2;by_cases hl:l.length=m.length
 ·have hlb:((l.length:Int) != (m.length:Int))=false:=by rw [hl];simp
  have HL:=Lib.hid hl;clear hl
  go_enter Tryz.func13,Tryz.ntmps13
  go_upto_region 4 with(fail)
  clear hlb
  go_loopw [5] (fun ii wr => ∃k:Nat,k<=l.length/\ii=.int .i64 k/\Hid (ST w [] [] wr)/\Hid (Eqs l m k)) (fun ii _=>l.length-(intOf ii).toNat)
  case atStart=>exact⟨0,by omega,rfl,HS,Lib.hid AllTo.zero⟩
  case round=>as_aux_lemma=>
   clear HS;obtain⟨k,hk,rfl,hS,hK⟩:=hrel;by_cases hlt:k<l.length
   ·have hki:(k:Int)<(l.length:Int):=by omega
    have hk0:(0:Int)<=(k:Int):=by omega
    have hkm:k<m.length:=by rw [←HL.out];exact hlt
    have hkmi:(k:Int)<(m.length:Int):=by omega
    have hgx:l[k]? = some l[k]:=List.getElem?_eq_getElem hlt;have hgy:m[k]? = some m[k]:=List.getElem?_eq_getElem hkm;obtain⟨gb,off,rfl,_,vx,hcx,hvx⟩:=EX.out k _ hgx;obtain⟨gb2,off2,rfl,_,vy,hcy,hvy⟩:=EY.out k _ hgy;clear EX EY;generalize l[k]=x at *;generalize m[k]=y at *;obtain⟨aq,lq,ac,lc,rfl,hxa,hxl,_,_⟩:=hvx.form;obtain⟨aq2,lq2,ac2,lc2,rfl,hya,hyl,_,_⟩:=hvy.form
    go_upto_region 6 with(fail)
    obtain⟨wd,hwd⟩ : ∃x,x=wr.drew:=⟨_,rfl⟩;have T:=Lib.hid (show ST w [] [] wd by rw [hwd];exact hS.out.belw (Bel.refl _).drew);have HWD:=Lib.hid hwd;clear hwd;clear hS;have x0:=T.out.bel.some (hcx 0 _ rfl);have x1:=T.out.bel.some (hcx 1 _ rfl);have x2:=T.out.bel.some (hcx 2 _ rfl);have x3:=T.out.bel.some (hcx 3 _ rfl);have y0:=T.out.bel.some (hcy 0 _ rfl);have y1:=T.out.bel.some (hcy 1 _ rfl);have y2:=T.out.bel.some (hcy 2 _ rfl);have y3:=T.out.bel.some (hcy 3 _ rfl);rw [Nat.add_zero]at x0 y0;by_cases d0:x.w=y.w
    ·have q0:(x.w != y.w)=false:=by rw [d0];simp
     by_cases d1:x.r=y.r
     ·have q1:(x.r != y.r)=false:=by rw [d1];simp
      by_cases d2:(x.acts.length:Int)=(y.acts.length:Int)
      ·have q2:((x.acts.length:Int) != (y.acts.length:Int))=false:=by rw [d2];simp
       by_cases d3:(x.lacks.length:Int)=(y.lacks.length:Int)
       ·have q3:((x.lacks.length:Int) != (y.lacks.length:Int))=false:=by rw [d3];simp
        have HGX:=Lib.hid hgx;have HGY:=Lib.hid hgy;have HD0:=Lib.hid d0;have HD1:=Lib.hid d1;have hla:x.acts.length=y.acts.length:=by omega
        have hll:x.lacks.length=y.lacks.length:=by omega
        have HX2:=Lib.hid (hcx 2 _ rfl);have HY2:=Lib.hid (hcy 2 _ rfl);have HX3:=Lib.hid (hcx 3 _ rfl);have HY3:=Lib.hid (hcy 3 _ rfl);clear hcx hcy d0 d1 d2 d3;refine qa8 52 (by kernel_rfl) (by kernel_rfl) HWD.out ?_
        (simp only [List.take_succ_cons,List.take_zero,List.drop_succ_cons,List.drop_zero]);(repeat (first|((with_reducible refine wpStill_step (fun K hK=>?_));go_simp;(with_reducible refine hK _ ?_);clear hK K)|((with_reducible refine qab ?_ ?_);(with_unfolding_all rfl);(simp only [Act.put,List.setIfInBounds_toArray,List.set_cons_zero,List.set_cons_succ]))));(with_reducible refine wpStill_nil ?_)
        go_upto_region 9 with(fail)
        clear q0 q1 q2 q3 HWD x0 x1 x2 x3 y0 y1 y2 y3;obtain⟨_,_,he,_,_,hel⟩:=hxa;cases he;have EAX:=Lib.hid hel;obtain⟨_,_,he2,_,_,hel2⟩:=hya;cases he2;have EAY:=Lib.hid hel2;obtain⟨_,_,he3,_,_,hel3⟩:=hxl;cases he3;have EKX:=Lib.hid hel3;obtain⟨_,_,he4,_,_,hel4⟩:=hyl;cases he4;have EKY:=Lib.hid hel4;clear hel hel2 hel3 hel4 hgx hgy
        go_loopw [6] (fun ii wr => ∃j:Nat,j<=x.acts.length/\ii=.int .i64 j/\Hid (ST w [] [] wr)/\Hid (Eqs x.acts y.acts j)) (fun ii _=>x.acts.length-(intOf ii).toNat)
        case atStart=>exact⟨0,by omega,rfl,T,Lib.hid AllTo.zero⟩
        case round=>as_aux_lemma=>
         clear T;obtain⟨j,hj,rfl,hS,hI⟩:=hrel;have x2:=hS.out.bel.some HX2.out;have y2:=hS.out.bel.some HY2.out;by_cases hlt2:j<x.acts.length
         ·have hji:(j:Int)<(x.acts.length:Int):=by omega
          have hj0:(0:Int)<=(j:Int):=by omega
          have hjy:(j:Int)<(y.acts.length:Int):=by omega
          have hga:x.acts[j]? = some x.acts[j]:=List.getElem?_eq_getElem hlt2;have hgb:y.acts[j]? = some (y.acts[j]'(by omega)):=List.getElem?_eq_getElem (by omega);obtain⟨b3,o3,hq3,_,v3,hc3,hv3⟩:=EAX.out j _ hga;subst hq3;obtain⟨b4,o4,hq4,_,v4,hc4,hv4⟩:=EAY.out j _ hgb;subst hq4;generalize x.acts[j]=s at *;generalize y.acts[j]'(by omega)=t at *;obtain rfl:v3=actC s:=hv3;obtain rfl:v4=actC t:=hv4;have HX1:=Lib.hid (hS.out.addbox #[.int .i64 s.num,.int .i64 s.kind,.int .i64 s.sub] 38);have s0:=hS.out.bel.some (hc3 0 _ rfl);have s1:=hS.out.bel.some (hc3 1 _ rfl);have s2:=hS.out.bel.some (hc3 2 _ rfl);rw [Nat.add_zero]at s0;clear EAX EAY EKX EKY
          go_upto_region 12 with(fail)
          generalize World.alloc wr _=wb1 at HX1 ⊢;generalize wr.heap.size=ba at HX1 ⊢;clear x2 y2 s0 s1 s2 hS;have y2:=HX1.out.bel.some HY2.out;have t0:=HX1.out.bel.some (hc4 0 _ rfl);have t1:=HX1.out.bel.some (hc4 1 _ rfl);have t2:=HX1.out.bel.some (hc4 2 _ rfl);rw [Nat.add_zero]at t0;have HX:=Lib.hid (HX1.out.addbox #[.int .i64 t.num,.int .i64 t.kind,.int .i64 t.sub] 38)
          go_upto_region 13 with(fail)
          generalize World.alloc wb1 _=wb at HX ⊢;generalize wb1.heap.size=bb at HX ⊢;clear y2 t0 t1 t2 HX1 hc3 hc4;have s0:=HX.out.cell 1 rfl 0;have s1:=HX.out.cell 1 rfl 1;have s2:=HX.out.cell 1 rfl 2;have t0:=HX.out.cell 0 rfl 0;have t1:=HX.out.cell 0 rfl 1;have t2:=HX.out.cell 0 rfl 2;dsimp only at s0 s1 s2 t0 t1 t2;by_cases n0:s.num=t.num
          ·have b0:(s.num != t.num)=false:=by rw [n0];simp
           by_cases n1:s.kind=t.kind
           ·have b1:(s.kind != t.kind)=false:=by rw [n1];simp
            by_cases n2:s.sub=t.sub
            ·have b2:(s.sub != t.sub)=false:=by rw [n2];simp
             have HII:=Lib.hid (show Eqs x.acts y.acts (j+1)from AllTo.succ hI.out (by rw [hga,hgb];exact congrArg some (act_eq n0 n1 n2)));clear hga hgb n0 n1 n2;go_wp2;go_roundw
             case rel=>exact⟨j+1,by omega,by go_num,Lib.hid HX.out.dropbox0.dropbox0,HII⟩
             case measure=>simp [intOf];omega
            ·have b2:(s.sub != t.sub)=true:=bne_iff_ne.2 n2
             have HNE:=Lib.hid (show l ≠ m from at_ne HGX.out HGY.out (fun e=>at_ne hga hgb (fun e2=>n2 (by rw [e2])) (by rw [e])));clear hga hgb;go_wp2;go_ret;exact qcl HNE.out HX.out.bel
           ·have b1:(s.kind != t.kind)=true:=bne_iff_ne.2 n1
            have HNE:=Lib.hid (show l ≠ m from at_ne HGX.out HGY.out (fun e=>at_ne hga hgb (fun e2=>n1 (by rw [e2])) (by rw [e])));clear hga hgb;go_wp2;go_ret;exact qcl HNE.out HX.out.bel
          ·have b0:(s.num != t.num)=true:=bne_iff_ne.2 n0
           have HNE:=Lib.hid (show l ≠ m from at_ne HGX.out HGY.out (fun e=>at_ne hga hgb (fun e2=>n0 (by rw [e2])) (by rw [e])));clear hga hgb;go_wp2;go_ret;exact qcl HNE.out HX.out.bel
         ·have hji : ¬(j:Int)<(x.acts.length:Int):=by omega
          have HAC:=Lib.hid (show x.acts=y.acts from qkz hla (fun i hi=>hI.out i (by omega)));clear hI EAX EAY
          go_upto_region 16 with(fail)
          clear x2 y2
          go_loopw [9] (fun ii wr => ∃j:Nat,j<=x.lacks.length/\ii=.int .i64 j/\Hid (ST w [] [] wr)/\Hid (Eqs x.lacks y.lacks j)) (fun ii _=>x.lacks.length-(intOf ii).toNat)
          case atStart=>exact⟨0,by omega,rfl,hS,Lib.hid AllTo.zero⟩
          case round=>as_aux_lemma=>
           clear hS;obtain⟨j,hj,rfl,hS,hI⟩:=hrel;have x3:=hS.out.bel.some HX3.out;have y3:=hS.out.bel.some HY3.out;by_cases hlt2:j<x.lacks.length
           ·have hji:(j:Int)<(x.lacks.length:Int):=by omega
            have hj0:(0:Int)<=(j:Int):=by omega
            have hjy:(j:Int)<(y.lacks.length:Int):=by omega
            have hga:x.lacks[j]? = some x.lacks[j]:=List.getElem?_eq_getElem hlt2;have hgb:y.lacks[j]? = some (y.lacks[j]'(by omega)):=List.getElem?_eq_getElem (by omega);obtain⟨b3,o3,hq3,_,v3,hc3,hv3⟩:=EKX.out j _ hga;subst hq3;obtain⟨b4,o4,hq4,_,v4,hc4,hv4⟩:=EKY.out j _ hgb;subst hq4;generalize x.lacks[j]=s at *;generalize y.lacks[j]'(by omega)=t at *;obtain rfl:v3=[.int .i64 s]:=hv3;obtain rfl:v4=[.int .i64 t]:=hv4;have s0:=hS.out.bel.some (hc3 0 _ rfl);have t0:=hS.out.bel.some (hc4 0 _ rfl);rw [Nat.mul_one,Nat.add_zero]at s0 t0;clear hc3 hc4 EKX EKY
            go_upto_region 18 with(fail)
            obtain⟨wd,hwd⟩ : ∃x,x=wr.drew:=⟨_,rfl⟩;have kwd:Bel wr wd:=by rw [hwd];exact(Bel.refl wr).drew
            have T:=Lib.hid (hS.out.belw kwd);have HWD:=Lib.hid hwd;have x3d:=kwd.some x3;have y3d:=kwd.some y3;have s0d:=kwd.some s0;have t0d:=kwd.some t0;clear hwd x3 y3 s0 t0 hS;by_cases n0:s=t
            ·have b0:(s != t)=false:=by rw [n0];simp
             have HII:=Lib.hid (show Eqs x.lacks y.lacks (j+1)from AllTo.succ hI.out (by rw [hga,hgb,n0]));clear hga hgb n0;refine qa8 16 (by kernel_rfl) (by kernel_rfl) HWD.out ?_
             (simp only [List.take_succ_cons,List.take_zero,List.drop_succ_cons,List.drop_zero]);(repeat (first|((with_reducible refine wpStill_step (fun K hK=>?_));go_simp;(with_reducible refine hK _ ?_);clear hK K)|((with_reducible refine qab ?_ ?_);(with_unfolding_all rfl);(simp only [Act.put,List.setIfInBounds_toArray,List.set_cons_zero,List.set_cons_succ]))));(with_reducible refine wpStill_nil ?_)
             go_wp2;go_roundw
             case rel=>exact⟨j+1,by omega,by go_num,T,HII⟩
             case measure=>simp [intOf];omega
            ·have b0:(s != t)=true:=bne_iff_ne.2 n0
             have HNE:=Lib.hid (show l ≠ m from at_ne HGX.out HGY.out (fun e=>at_ne hga hgb n0 (by rw [e])));clear hga hgb;refine qa8 16 (by kernel_rfl) (by kernel_rfl) HWD.out ?_
             (simp only [List.take_succ_cons,List.take_zero,List.drop_succ_cons,List.drop_zero]);(repeat (first|((with_reducible refine wpStill_step (fun K hK=>?_));go_simp;(with_reducible refine hK _ ?_);clear hK K)|((with_reducible refine qab ?_ ?_);(with_unfolding_all rfl);(simp only [Act.put,List.setIfInBounds_toArray,List.set_cons_zero,List.set_cons_succ]))));(with_reducible refine wpStill_nil ?_)
             go_wp2;go_ret
             exact qcl HNE.out T.out.bel
           ·have hji : ¬(j:Int)<(x.lacks.length:Int):=by omega
            have HII:=Lib.hid (show Eqs l m (k+1)from AllTo.succ hK.out (by rw [HGX.out,HGY.out];exact congrArg some (adapt_eq HD0.out HD1.out HAC.out (qkz (by omega) (fun i hi=>hI.out i (by omega))))));clear EKX EKY;go_wp2;go_roundw
            case rel=>exact⟨k+1,by omega,by go_num,hS,HII⟩
            case measure=>simp [intOf];omega
       ·have q3:((x.lacks.length:Int) != (y.lacks.length:Int))=true:=bne_iff_ne.2 d3
        have HNE:=Lib.hid (show l ≠ m from at_ne hgx hgy (fun e=>d3 (by rw [e])));refine qa8 52 (by kernel_rfl) (by kernel_rfl) HWD.out ?_
        (simp only [List.take_succ_cons,List.take_zero,List.drop_succ_cons,List.drop_zero]);(repeat (first|((with_reducible refine wpStill_step (fun K hK=>?_));go_simp;(with_reducible refine hK _ ?_);clear hK K)|((with_reducible refine qab ?_ ?_);(with_unfolding_all rfl);(simp only [Act.put,List.setIfInBounds_toArray,List.set_cons_zero,List.set_cons_succ]))));(with_reducible refine wpStill_nil ?_)
        go_wp2;go_ret
        exact qcl HNE.out T.out.bel
      ·have q2:((x.acts.length:Int) != (y.acts.length:Int))=true:=bne_iff_ne.2 d2
       have HNE:=Lib.hid (show l ≠ m from at_ne hgx hgy (fun e=>d2 (by rw [e])));refine qa8 52 (by kernel_rfl) (by kernel_rfl) HWD.out ?_
       (simp only [List.take_succ_cons,List.take_zero,List.drop_succ_cons,List.drop_zero]);(repeat (first|((with_reducible refine wpStill_step (fun K hK=>?_));go_simp;(with_reducible refine hK _ ?_);clear hK K)|((with_reducible refine qab ?_ ?_);(with_unfolding_all rfl);(simp only [Act.put,List.setIfInBounds_toArray,List.set_cons_zero,List.set_cons_succ]))));(with_reducible refine wpStill_nil ?_)
       go_wp2;go_ret
       exact qcl HNE.out T.out.bel
     ·have q1:(x.r != y.r)=true:=bne_iff_ne.2 d1
      have HNE:=Lib.hid (show l ≠ m from at_ne hgx hgy (fun e=>d1 (by rw [e])));refine qa8 52 (by kernel_rfl) (by kernel_rfl) HWD.out ?_
      (simp only [List.take_succ_cons,List.take_zero,List.drop_succ_cons,List.drop_zero]);(repeat (first|((with_reducible refine wpStill_step (fun K hK=>?_));go_simp;(with_reducible refine hK _ ?_);clear hK K)|((with_reducible refine qab ?_ ?_);(with_unfolding_all rfl);(simp only [Act.put,List.setIfInBounds_toArray,List.set_cons_zero,List.set_cons_succ]))));(with_reducible refine wpStill_nil ?_)
      go_wp2;go_ret
      exact qcl HNE.out T.out.bel
    ·have q0:(x.w != y.w)=true:=bne_iff_ne.2 d0
     have HNE:=Lib.hid (show l ≠ m from at_ne hgx hgy (fun e=>d0 (by rw [e])));refine qa8 52 (by kernel_rfl) (by kernel_rfl) HWD.out ?_
     (simp only [List.take_succ_cons,List.take_zero,List.drop_succ_cons,List.drop_zero]);(repeat (first|((with_reducible refine wpStill_step (fun K hK=>?_));go_simp;(with_reducible refine hK _ ?_);clear hK K)|((with_reducible refine qab ?_ ?_);(with_unfolding_all rfl);(simp only [Act.put,List.setIfInBounds_toArray,List.set_cons_zero,List.set_cons_succ]))));(with_reducible refine wpStill_nil ?_)
     go_wp2;go_ret
     exact qcl HNE.out T.out.bel
   ·have hki : ¬(k:Int)<(l.length:Int):=by omega
    have HE:=Lib.hid (show l=m from qkz HL.out (fun i hi=>hK.out i (by omega)));clear EX EY;go_wp2;go_ret;exact⟨true,rfl,⟨fun _=>HE.out,fun _=>rfl⟩,hS.out.bel⟩
 ·have hlb:((l.length:Int) != (m.length:Int))=true:=bne_iff_ne.2 (by omega)
  have HNE:=Lib.hid (show l ≠ m from fun e=>hl (by rw [e]));clear hl EX EY
  go_enter Tryz.func13,Tryz.ntmps13
  go_wp2;go_ret
  exact qcl HNE.out HS.out.bel
end
end Go.Proofs.YtgpjhibdongmbaaGreatDoor
