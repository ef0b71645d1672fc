import Derived.Test.YtgpjhibdongmbaaGreatDoorRsR31E
set_option maxRecDepth 100000
set_option maxHeartbeats 4000000
set_option linter.unusedVariables false
set_option linter.unusedSimpArgs false
namespace Go.Proofs.YtgpjhibdongmbaaGreatDoor
open Go.RowKit Ck Rs
theorem qko (a b:Int):2<=qav a b/\qav a b<=4:=by unfold qav;split <;> (try split) <;> omega
theorem elem_le (w r:PPlan) (o q:POp):2<=elemR w r o q/\elemR w r o q<=4:=by
 unfold elemR
 split
 ·omega
 ·split
  ·omega
  ·split
   ·split
    ·split <;> omega
    ·omega
   ·exact qko _ _
theorem rf_field (w r:PPlan) (p1 p2 p3 p4:Option Addr) (c1 c2 c3 c4:Nat) (o q:POp) (W:World) (hG:Pl w r p1 p2 p3 p4 c1 c2 c3 c4 W) (ht:Tgt w r o q) :
  Calls Tryz.prog 33 #[.agg #[.slice p1 w.progs.length c1,.slice p2 w.enums.length c2],.agg #[.slice p3 r.progs.length c3,.slice p4 r.enums.length c4],.agg #[.int .i64 o.num,.string (S o.name),.string (S o.ali),.int .i64 o.card,.int .i64 o.key,.int .i64 o.kind,.int .i64 o.tgt,.int .i64 o.un],.agg #[.int .i64 q.num,.string (S q.name),.string (S q.ali),.int .i64 q.card,.int .i64 q.key,.int .i64 q.kind,.int .i64 q.tgt,.int .i64 q.un]] W fun e' w'=>e'=.returned (.int .i64 (qac w r o q))/\Bel W w':=by
 have hS0:=((((ST.start W).addbox #[.slice p1 w.progs.length c1,.slice p2 w.enums.length c2] 25).addbox #[.slice p3 r.progs.length c3,.slice p4 r.enums.length c4] 25).addbox #[.int .i64 o.num,.string (S o.name),.string (S o.ali),.int .i64 o.card,.int .i64 o.key,.int .i64 o.kind,.int .i64 o.tgt,.int .i64 o.un] 54).addbox #[.int .i64 q.num,.string (S q.name),.string (S q.ali),.int .i64 q.card,.int .i64 q.key,.int .i64 q.kind,.int .i64 q.tgt,.int .i64 q.un] 54;simp only [World.size_alloc]at hS0;have T:=Lib.hid hS0;have KS:=Lib.hid (fun WW (T:ST W [] [⟨W.heap.size+1+1+1,#[.int .i64 q.num,.string (S q.name),.string (S q.ali),.int .i64 q.card,.int .i64 q.key,.int .i64 q.kind,.int .i64 q.tgt,.int .i64 q.un],54⟩,⟨W.heap.size+1+1,#[.int .i64 o.num,.string (S o.name),.string (S o.ali),.int .i64 o.card,.int .i64 o.key,.int .i64 o.kind,.int .i64 o.tgt,.int .i64 o.un],54⟩,⟨W.heap.size+1,#[.slice p3 r.progs.length c3,.slice p4 r.enums.length c4],25⟩,⟨W.heap.size,#[.slice p1 w.progs.length c1,.slice p2 w.enums.length c2],25⟩] WW)=>show WW.cell? ⟨W.heap.size,0,none⟩=some (.slice p1 w.progs.length c1)/\WW.cell? ⟨W.heap.size,1,none⟩=some (.slice p2 w.enums.length c2)/\WW.cell? ⟨W.heap.size+1,0,none⟩=some (.slice p3 r.progs.length c3)/\WW.cell? ⟨W.heap.size+1,1,none⟩=some (.slice p4 r.enums.length c4)/\WW.cell? ⟨W.heap.size+1+1,0,none⟩=some (.int .i64 o.num)/\WW.cell? ⟨W.heap.size+1+1,1,none⟩=some (.string (S o.name))/\WW.cell? ⟨W.heap.size+1+1,2,none⟩=some (.string (S o.ali))/\WW.cell? ⟨W.heap.size+1+1,3,none⟩=some (.int .i64 o.card)/\WW.cell? ⟨W.heap.size+1+1,4,none⟩=some (.int .i64 o.key)/\WW.cell? ⟨W.heap.size+1+1,5,none⟩=some (.int .i64 o.kind)/\WW.cell? ⟨W.heap.size+1+1,6,none⟩=some (.int .i64 o.tgt)/\WW.cell? ⟨W.heap.size+1+1,7,none⟩=some (.int .i64 o.un)/\WW.cell? ⟨W.heap.size+1+1+1,0,none⟩=some (.int .i64 q.num)/\WW.cell? ⟨W.heap.size+1+1+1,1,none⟩=some (.string (S q.name))/\WW.cell? ⟨W.heap.size+1+1+1,2,none⟩=some (.string (S q.ali))/\WW.cell? ⟨W.heap.size+1+1+1,3,none⟩=some (.int .i64 q.card)/\WW.cell? ⟨W.heap.size+1+1+1,4,none⟩=some (.int .i64 q.key)/\WW.cell? ⟨W.heap.size+1+1+1,5,none⟩=some (.int .i64 q.kind)/\WW.cell? ⟨W.heap.size+1+1+1,6,none⟩=some (.int .i64 q.tgt)/\WW.cell? ⟨W.heap.size+1+1+1,7,none⟩=some (.int .i64 q.un)from⟨T.cell 3 rfl 0,T.cell 3 rfl 1,T.cell 2 rfl 0,T.cell 2 rfl 1,T.cell 1 rfl 0,T.cell 1 rfl 1,T.cell 1 rfl 2,T.cell 1 rfl 3,T.cell 1 rfl 4,T.cell 1 rfl 5,T.cell 1 rfl 6,T.cell 1 rfl 7,T.cell 0 rfl 0,T.cell 0 rfl 1,T.cell 0 rfl 2,T.cell 0 rfl 3,T.cell 0 rfl 4,T.cell 0 rfl 5,T.cell 0 rfl 6,T.cell 0 rfl 7⟩);obtain⟨E,hE⟩ : ∃E,E=elemR w r o q:=⟨_,rfl⟩;obtain⟨K,hK⟩ : ∃K,K=qav o.key q.key:=⟨_,rfl⟩;have hEE:2<=E/\E<=4:=hE ▸ elem_le w r o q;have hKK:2<=K/\K<=4:=hK ▸ qko o.key q.key;have CE:=(fun WW (T:ST W [] [⟨W.heap.size+1+1+1,#[.int .i64 q.num,.string (S q.name),.string (S q.ali),.int .i64 q.card,.int .i64 q.key,.int .i64 q.kind,.int .i64 q.tgt,.int .i64 q.un],54⟩,⟨W.heap.size+1+1,#[.int .i64 o.num,.string (S o.name),.string (S o.ali),.int .i64 o.card,.int .i64 o.key,.int .i64 o.kind,.int .i64 o.tgt,.int .i64 o.un],54⟩,⟨W.heap.size+1,#[.slice p3 r.progs.length c3,.slice p4 r.enums.length c4],25⟩,⟨W.heap.size,#[.slice p1 w.progs.length c1,.slice p2 w.enums.length c2],25⟩] WW)=>qjs w r p1 p2 p3 p4 c1 c2 c3 c4 o q WW ⟨hG.g0.bel VProg.stays T.bel,hG.g1.bel VEnum.stays T.bel,hG.g2.bel VProg.stays T.bel,hG.g3.bel VEnum.stays T.bel⟩ ht);rw [←hE]at CE;have CE:=Lib.hid CE;have CK:=(fun WW=>qjr o.key q.key WW);rw [←hK]at CK;have CK:=Lib.hid CK;have C1:=fun WW=>qh9 o WW
 have C2:=fun WW=>qh9 q WW
 clear hG ht hS0;by_cases nu4:o.card=4
 ·by_cases nv4:q.card=4
  ·have u4:(o.card == 4)=true:=by rw [nu4];rfl
   have u5:(o.card == 5)=false:=beq_eq_false_iff_ne.2 (by omega);have us:oneR o=false:=decide_eq_false (fun h=>by omega);have v4:(q.card == 4)=true:=by rw [nv4];rfl
   have v5:(q.card == 5)=false:=beq_eq_false_iff_ne.2 (by omega);have vs:oneR q=false:=decide_eq_false (fun h=>by omega);rw [us]at C1;rw [vs]at C2;have C1:=Lib.hid C1;have C2:=Lib.hid C2;have n1:qac w r o q=E:=by unfold qac;rw [if_pos (.inr ⟨nu4,nv4⟩),hE]
   have n2:=n1
   (try clear nu4)
   (try clear nu5)
   (try clear nv4)
   (try clear nv5)
   have V:=Lib.hid (show qac w r o q=E from n1);generalize qac w r o q=R at V;clear hE hEE hKK hK n1 n2
   (try clear eh)
   (try clear kh)
   (try clear k3)
   go_enter Tryz.func33,Tryz.ntmps33
   go_upto_region 1 with(fail)
   obtain⟨z0,z1,z2,z3,z4,z5,z6,z7,z8,z9,z10,z11,z12,z13,z14,z15,z16,z17,z18,z19⟩:=KS.out _ T.out
   go_wp2_with (first
    | (go_at_call 60;(with_reducible refine(CE.out _ T.out).mono ?_);rintro e' wx ⟨rfl,kx⟩;have kx:Bel _ wx:=kx;have T:=Lib.hid (T.out.belw kx);obtain⟨z0,z1,z2,z3,z4,z5,z6,z7,z8,z9,z10,z11,z12,z13,z14,z15,z16,z17,z18,z19⟩:=KS.out _ T.out;clear kx)
    | (go_at_call 61;(with_reducible refine(C1.out _).mono ?_);rintro e' wx ⟨rfl,kx⟩;have kx:Bel _ wx:=kx;have T:=Lib.hid (T.out.belw kx);obtain⟨z0,z1,z2,z3,z4,z5,z6,z7,z8,z9,z10,z11,z12,z13,z14,z15,z16,z17,z18,z19⟩:=KS.out _ T.out;clear kx)
    | (go_at_call 61;(with_reducible refine(C2.out _).mono ?_);rintro e' wx ⟨rfl,kx⟩;have kx:Bel _ wx:=kx;have T:=Lib.hid (T.out.belw kx);obtain⟨z0,z1,z2,z3,z4,z5,z6,z7,z8,z9,z10,z11,z12,z13,z14,z15,z16,z17,z18,z19⟩:=KS.out _ T.out;clear kx)
    | (go_at_call 62;(with_reducible refine(CK.out _).mono ?_);rintro e' wx ⟨rfl,rfl⟩))
   go_ret;exact⟨by rw [V.out];rfl,T.out.bel⟩
  ·by_cases nv5:q.card=5
   ·have u4:(o.card == 4)=true:=by rw [nu4];rfl
    have u5:(o.card == 5)=false:=beq_eq_false_iff_ne.2 (by omega);have us:oneR o=false:=decide_eq_false (fun h=>by omega);have v5:(q.card == 5)=true:=by rw [nv5];rfl
    have v4:(q.card == 4)=false:=beq_eq_false_iff_ne.2 (by omega);have vs:oneR q=false:=decide_eq_false (fun h=>by omega);rw [us]at C1;rw [vs]at C2;have C1:=Lib.hid C1;have C2:=Lib.hid C2;have n1:qac w r o q=4:=by unfold qac;rw [us,vs,if_neg (fun h=>h.elim (fun h=>by simp at h) (fun h=>by omega)),if_neg (fun h=>by first|(simp at h;done)|(have:=h.2;omega)),if_neg (fun h=>by omega)]
    have n2:=n1
    (try clear nu4)
    (try clear nu5)
    (try clear nv4)
    (try clear nv5)
    have V:=Lib.hid (show qac w r o q=4 from n1);generalize qac w r o q=R at V;clear hE hEE hKK hK n1 n2
    (try clear eh)
    (try clear kh)
    (try clear k3)
    go_enter Tryz.func33,Tryz.ntmps33
    go_upto_region 1 with(fail)
    obtain⟨z0,z1,z2,z3,z4,z5,z6,z7,z8,z9,z10,z11,z12,z13,z14,z15,z16,z17,z18,z19⟩:=KS.out _ T.out
    go_wp2_with (first
     | (go_at_call 60;(with_reducible refine(CE.out _ T.out).mono ?_);rintro e' wx ⟨rfl,kx⟩;have kx:Bel _ wx:=kx;have T:=Lib.hid (T.out.belw kx);obtain⟨z0,z1,z2,z3,z4,z5,z6,z7,z8,z9,z10,z11,z12,z13,z14,z15,z16,z17,z18,z19⟩:=KS.out _ T.out;clear kx)
     | (go_at_call 61;(with_reducible refine(C1.out _).mono ?_);rintro e' wx ⟨rfl,kx⟩;have kx:Bel _ wx:=kx;have T:=Lib.hid (T.out.belw kx);obtain⟨z0,z1,z2,z3,z4,z5,z6,z7,z8,z9,z10,z11,z12,z13,z14,z15,z16,z17,z18,z19⟩:=KS.out _ T.out;clear kx)
     | (go_at_call 61;(with_reducible refine(C2.out _).mono ?_);rintro e' wx ⟨rfl,kx⟩;have kx:Bel _ wx:=kx;have T:=Lib.hid (T.out.belw kx);obtain⟨z0,z1,z2,z3,z4,z5,z6,z7,z8,z9,z10,z11,z12,z13,z14,z15,z16,z17,z18,z19⟩:=KS.out _ T.out;clear kx)
     | (go_at_call 62;(with_reducible refine(CK.out _).mono ?_);rintro e' wx ⟨rfl,rfl⟩))
    go_ret;exact⟨by rw [V.out];rfl,T.out.bel⟩
   ·have u4:(o.card == 4)=true:=by rw [nu4];rfl
    have u5:(o.card == 5)=false:=beq_eq_false_iff_ne.2 (by omega);have us:oneR o=false:=decide_eq_false (fun h=>by omega);have v4:(q.card == 4)=false:=beq_eq_false_iff_ne.2 nv4;have v5:(q.card == 5)=false:=beq_eq_false_iff_ne.2 nv5;have vs:oneR q=true:=decide_eq_true ⟨nv4,nv5⟩;rw [us]at C1;rw [vs]at C2;have C1:=Lib.hid C1;have C2:=Lib.hid C2;have n1:qac w r o q=4:=by unfold qac;rw [us,vs,if_neg (fun h=>h.elim (fun h=>by simp at h) (fun h=>by omega)),if_neg (fun h=>by first|(simp at h;done)|(have:=h.2;omega)),if_neg (fun h=>by omega)]
    have n2:=n1
    (try clear nu4)
    (try clear nu5)
    (try clear nv4)
    (try clear nv5)
    have V:=Lib.hid (show qac w r o q=4 from n1);generalize qac w r o q=R at V;clear hE hEE hKK hK n1 n2
    (try clear eh)
    (try clear kh)
    (try clear k3)
    go_enter Tryz.func33,Tryz.ntmps33
    go_upto_region 1 with(fail)
    obtain⟨z0,z1,z2,z3,z4,z5,z6,z7,z8,z9,z10,z11,z12,z13,z14,z15,z16,z17,z18,z19⟩:=KS.out _ T.out
    go_wp2_with (first
     | (go_at_call 60;(with_reducible refine(CE.out _ T.out).mono ?_);rintro e' wx ⟨rfl,kx⟩;have kx:Bel _ wx:=kx;have T:=Lib.hid (T.out.belw kx);obtain⟨z0,z1,z2,z3,z4,z5,z6,z7,z8,z9,z10,z11,z12,z13,z14,z15,z16,z17,z18,z19⟩:=KS.out _ T.out;clear kx)
     | (go_at_call 61;(with_reducible refine(C1.out _).mono ?_);rintro e' wx ⟨rfl,kx⟩;have kx:Bel _ wx:=kx;have T:=Lib.hid (T.out.belw kx);obtain⟨z0,z1,z2,z3,z4,z5,z6,z7,z8,z9,z10,z11,z12,z13,z14,z15,z16,z17,z18,z19⟩:=KS.out _ T.out;clear kx)
     | (go_at_call 61;(with_reducible refine(C2.out _).mono ?_);rintro e' wx ⟨rfl,kx⟩;have kx:Bel _ wx:=kx;have T:=Lib.hid (T.out.belw kx);obtain⟨z0,z1,z2,z3,z4,z5,z6,z7,z8,z9,z10,z11,z12,z13,z14,z15,z16,z17,z18,z19⟩:=KS.out _ T.out;clear kx)
     | (go_at_call 62;(with_reducible refine(CK.out _).mono ?_);rintro e' wx ⟨rfl,rfl⟩))
    go_ret;exact⟨by rw [V.out];rfl,T.out.bel⟩
 ·by_cases nu5:o.card=5
  ·by_cases nv4:q.card=4
   ·have u5:(o.card == 5)=true:=by rw [nu5];rfl
    have u4:(o.card == 4)=false:=beq_eq_false_iff_ne.2 (by omega);have us:oneR o=false:=decide_eq_false (fun h=>by omega);have v4:(q.card == 4)=true:=by rw [nv4];rfl
    have v5:(q.card == 5)=false:=beq_eq_false_iff_ne.2 (by omega);have vs:oneR q=false:=decide_eq_false (fun h=>by omega);rw [us]at C1;rw [vs]at C2;have C1:=Lib.hid C1;have C2:=Lib.hid C2;have n1:qac w r o q=4:=by unfold qac;rw [us,vs,if_neg (fun h=>h.elim (fun h=>by simp at h) (fun h=>by omega)),if_neg (fun h=>by first|(simp at h;done)|(have:=h.2;omega)),if_neg (fun h=>by omega)]
    have n2:=n1
    (try clear nu4)
    (try clear nu5)
    (try clear nv4)
    (try clear nv5)
    have V:=Lib.hid (show qac w r o q=4 from n1);generalize qac w r o q=R at V;clear hE hEE hKK hK n1 n2
    (try clear eh)
    (try clear kh)
    (try clear k3)
    go_enter Tryz.func33,Tryz.ntmps33
    go_upto_region 1 with(fail)
    obtain⟨z0,z1,z2,z3,z4,z5,z6,z7,z8,z9,z10,z11,z12,z13,z14,z15,z16,z17,z18,z19⟩:=KS.out _ T.out
    go_wp2_with (first
     | (go_at_call 60;(with_reducible refine(CE.out _ T.out).mono ?_);rintro e' wx ⟨rfl,kx⟩;have kx:Bel _ wx:=kx;have T:=Lib.hid (T.out.belw kx);obtain⟨z0,z1,z2,z3,z4,z5,z6,z7,z8,z9,z10,z11,z12,z13,z14,z15,z16,z17,z18,z19⟩:=KS.out _ T.out;clear kx)
     | (go_at_call 61;(with_reducible refine(C1.out _).mono ?_);rintro e' wx ⟨rfl,kx⟩;have kx:Bel _ wx:=kx;have T:=Lib.hid (T.out.belw kx);obtain⟨z0,z1,z2,z3,z4,z5,z6,z7,z8,z9,z10,z11,z12,z13,z14,z15,z16,z17,z18,z19⟩:=KS.out _ T.out;clear kx)
     | (go_at_call 61;(with_reducible refine(C2.out _).mono ?_);rintro e' wx ⟨rfl,kx⟩;have kx:Bel _ wx:=kx;have T:=Lib.hid (T.out.belw kx);obtain⟨z0,z1,z2,z3,z4,z5,z6,z7,z8,z9,z10,z11,z12,z13,z14,z15,z16,z17,z18,z19⟩:=KS.out _ T.out;clear kx)
     | (go_at_call 62;(with_reducible refine(CK.out _).mono ?_);rintro e' wx ⟨rfl,rfl⟩))
    go_ret;exact⟨by rw [V.out];rfl,T.out.bel⟩
   ·by_cases nv5:q.card=5
    ·have u5:(o.card == 5)=true:=by rw [nu5];rfl
     have u4:(o.card == 4)=false:=beq_eq_false_iff_ne.2 (by omega);have us:oneR o=false:=decide_eq_false (fun h=>by omega);have v5:(q.card == 5)=true:=by rw [nv5];rfl
     have v4:(q.card == 4)=false:=beq_eq_false_iff_ne.2 (by omega);have vs:oneR q=false:=decide_eq_false (fun h=>by omega);rw [us]at C1;rw [vs]at C2;have C1:=Lib.hid C1;have C2:=Lib.hid C2;have n1:qac w r o q=max E K:=by unfold qac;rw [us,vs,if_neg (fun h=>h.elim (fun h=>by cases h.1) (fun h=>nu4 h.1)),if_neg (fun h=>nv4 h.2),if_pos ⟨nu5,nv5⟩,hE,hK]
     have n2:=n1;by_cases kh:K=4
     ·have kb:(K == 4)=true:=by rw [kh];rfl
      (try clear nu4)
      (try clear nu5)
      (try clear nv4)
      (try clear nv5)
      have V:=Lib.hid (show qac w r o q=4 from(n1.trans (by omega)));generalize qac w r o q=R at V;clear hE hEE hKK hK n1 n2
      (try clear eh)
      (try clear kh)
      (try clear k3)
      go_enter Tryz.func33,Tryz.ntmps33
      go_upto_region 1 with(fail)
      obtain⟨z0,z1,z2,z3,z4,z5,z6,z7,z8,z9,z10,z11,z12,z13,z14,z15,z16,z17,z18,z19⟩:=KS.out _ T.out
      go_wp2_with (first
       | (go_at_call 60;(with_reducible refine(CE.out _ T.out).mono ?_);rintro e' wx ⟨rfl,kx⟩;have kx:Bel _ wx:=kx;have T:=Lib.hid (T.out.belw kx);obtain⟨z0,z1,z2,z3,z4,z5,z6,z7,z8,z9,z10,z11,z12,z13,z14,z15,z16,z17,z18,z19⟩:=KS.out _ T.out;clear kx)
       | (go_at_call 61;(with_reducible refine(C1.out _).mono ?_);rintro e' wx ⟨rfl,kx⟩;have kx:Bel _ wx:=kx;have T:=Lib.hid (T.out.belw kx);obtain⟨z0,z1,z2,z3,z4,z5,z6,z7,z8,z9,z10,z11,z12,z13,z14,z15,z16,z17,z18,z19⟩:=KS.out _ T.out;clear kx)
       | (go_at_call 61;(with_reducible refine(C2.out _).mono ?_);rintro e' wx ⟨rfl,kx⟩;have kx:Bel _ wx:=kx;have T:=Lib.hid (T.out.belw kx);obtain⟨z0,z1,z2,z3,z4,z5,z6,z7,z8,z9,z10,z11,z12,z13,z14,z15,z16,z17,z18,z19⟩:=KS.out _ T.out;clear kx)
       | (go_at_call 62;(with_reducible refine(CK.out _).mono ?_);rintro e' wx ⟨rfl,rfl⟩))
      go_ret;exact⟨by rw [V.out];rfl,T.out.bel⟩
     ·have kb:(K == 4)=false:=beq_eq_false_iff_ne.2 kh
      by_cases eh:E=4
      ·have eb:(E == 4)=true:=by rw [eh];rfl
       (try clear nu4)
       (try clear nu5)
       (try clear nv4)
       (try clear nv5)
       have V:=Lib.hid (show qac w r o q=4 from(n1.trans (by omega)));generalize qac w r o q=R at V;clear hE hEE hKK hK n1 n2
       (try clear eh)
       (try clear kh)
       (try clear k3)
       go_enter Tryz.func33,Tryz.ntmps33
       go_upto_region 1 with(fail)
       obtain⟨z0,z1,z2,z3,z4,z5,z6,z7,z8,z9,z10,z11,z12,z13,z14,z15,z16,z17,z18,z19⟩:=KS.out _ T.out
       go_wp2_with (first
        | (go_at_call 60;(with_reducible refine(CE.out _ T.out).mono ?_);rintro e' wx ⟨rfl,kx⟩;have kx:Bel _ wx:=kx;have T:=Lib.hid (T.out.belw kx);obtain⟨z0,z1,z2,z3,z4,z5,z6,z7,z8,z9,z10,z11,z12,z13,z14,z15,z16,z17,z18,z19⟩:=KS.out _ T.out;clear kx)
        | (go_at_call 61;(with_reducible refine(C1.out _).mono ?_);rintro e' wx ⟨rfl,kx⟩;have kx:Bel _ wx:=kx;have T:=Lib.hid (T.out.belw kx);obtain⟨z0,z1,z2,z3,z4,z5,z6,z7,z8,z9,z10,z11,z12,z13,z14,z15,z16,z17,z18,z19⟩:=KS.out _ T.out;clear kx)
        | (go_at_call 61;(with_reducible refine(C2.out _).mono ?_);rintro e' wx ⟨rfl,kx⟩;have kx:Bel _ wx:=kx;have T:=Lib.hid (T.out.belw kx);obtain⟨z0,z1,z2,z3,z4,z5,z6,z7,z8,z9,z10,z11,z12,z13,z14,z15,z16,z17,z18,z19⟩:=KS.out _ T.out;clear kx)
        | (go_at_call 62;(with_reducible refine(CK.out _).mono ?_);rintro e' wx ⟨rfl,rfl⟩))
       go_ret;exact⟨by rw [V.out];rfl,T.out.bel⟩
      ·have eb:(E == 4)=false:=beq_eq_false_iff_ne.2 eh
       by_cases k3:K=3
       ·have k3b:(K == 3)=true:=by rw [k3];rfl
        (try clear nu4)
        (try clear nu5)
        (try clear nv4)
        (try clear nv5)
        have V:=Lib.hid (show qac w r o q=K from(n1.trans (by omega)));generalize qac w r o q=R at V;clear hE hEE hKK hK n1 n2
        (try clear eh)
        (try clear kh)
        (try clear k3)
        go_enter Tryz.func33,Tryz.ntmps33
        go_upto_region 1 with(fail)
        obtain⟨z0,z1,z2,z3,z4,z5,z6,z7,z8,z9,z10,z11,z12,z13,z14,z15,z16,z17,z18,z19⟩:=KS.out _ T.out
        go_wp2_with (first
         | (go_at_call 60;(with_reducible refine(CE.out _ T.out).mono ?_);rintro e' wx ⟨rfl,kx⟩;have kx:Bel _ wx:=kx;have T:=Lib.hid (T.out.belw kx);obtain⟨z0,z1,z2,z3,z4,z5,z6,z7,z8,z9,z10,z11,z12,z13,z14,z15,z16,z17,z18,z19⟩:=KS.out _ T.out;clear kx)
         | (go_at_call 61;(with_reducible refine(C1.out _).mono ?_);rintro e' wx ⟨rfl,kx⟩;have kx:Bel _ wx:=kx;have T:=Lib.hid (T.out.belw kx);obtain⟨z0,z1,z2,z3,z4,z5,z6,z7,z8,z9,z10,z11,z12,z13,z14,z15,z16,z17,z18,z19⟩:=KS.out _ T.out;clear kx)
         | (go_at_call 61;(with_reducible refine(C2.out _).mono ?_);rintro e' wx ⟨rfl,kx⟩;have kx:Bel _ wx:=kx;have T:=Lib.hid (T.out.belw kx);obtain⟨z0,z1,z2,z3,z4,z5,z6,z7,z8,z9,z10,z11,z12,z13,z14,z15,z16,z17,z18,z19⟩:=KS.out _ T.out;clear kx)
         | (go_at_call 62;(with_reducible refine(CK.out _).mono ?_);rintro e' wx ⟨rfl,rfl⟩))
        go_ret;exact⟨by rw [V.out];rfl,T.out.bel⟩
       ·have k3b:(K == 3)=false:=beq_eq_false_iff_ne.2 k3
        (try clear nu4)
        (try clear nu5)
        (try clear nv4)
        (try clear nv5)
        have V:=Lib.hid (show qac w r o q=E from(n1.trans (by omega)));generalize qac w r o q=R at V;clear hE hEE hKK hK n1 n2
        (try clear eh)
        (try clear kh)
        (try clear k3)
        go_enter Tryz.func33,Tryz.ntmps33
        go_upto_region 1 with(fail)
        obtain⟨z0,z1,z2,z3,z4,z5,z6,z7,z8,z9,z10,z11,z12,z13,z14,z15,z16,z17,z18,z19⟩:=KS.out _ T.out
        go_wp2_with (first
         | (go_at_call 60;(with_reducible refine(CE.out _ T.out).mono ?_);rintro e' wx ⟨rfl,kx⟩;have kx:Bel _ wx:=kx;have T:=Lib.hid (T.out.belw kx);obtain⟨z0,z1,z2,z3,z4,z5,z6,z7,z8,z9,z10,z11,z12,z13,z14,z15,z16,z17,z18,z19⟩:=KS.out _ T.out;clear kx)
         | (go_at_call 61;(with_reducible refine(C1.out _).mono ?_);rintro e' wx ⟨rfl,kx⟩;have kx:Bel _ wx:=kx;have T:=Lib.hid (T.out.belw kx);obtain⟨z0,z1,z2,z3,z4,z5,z6,z7,z8,z9,z10,z11,z12,z13,z14,z15,z16,z17,z18,z19⟩:=KS.out _ T.out;clear kx)
         | (go_at_call 61;(with_reducible refine(C2.out _).mono ?_);rintro e' wx ⟨rfl,kx⟩;have kx:Bel _ wx:=kx;have T:=Lib.hid (T.out.belw kx);obtain⟨z0,z1,z2,z3,z4,z5,z6,z7,z8,z9,z10,z11,z12,z13,z14,z15,z16,z17,z18,z19⟩:=KS.out _ T.out;clear kx)
         | (go_at_call 62;(with_reducible refine(CK.out _).mono ?_);rintro e' wx ⟨rfl,rfl⟩))
        go_ret;exact⟨by rw [V.out];rfl,T.out.bel⟩
    ·have u5:(o.card == 5)=true:=by rw [nu5];rfl
     have u4:(o.card == 4)=false:=beq_eq_false_iff_ne.2 (by omega);have us:oneR o=false:=decide_eq_false (fun h=>by omega);have v4:(q.card == 4)=false:=beq_eq_false_iff_ne.2 nv4;have v5:(q.card == 5)=false:=beq_eq_false_iff_ne.2 nv5;have vs:oneR q=true:=decide_eq_true ⟨nv4,nv5⟩;rw [us]at C1;rw [vs]at C2;have C1:=Lib.hid C1;have C2:=Lib.hid C2;have n1:qac w r o q=4:=by unfold qac;rw [us,vs,if_neg (fun h=>h.elim (fun h=>by simp at h) (fun h=>by omega)),if_neg (fun h=>by first|(simp at h;done)|(have:=h.2;omega)),if_neg (fun h=>by omega)]
     have n2:=n1
     (try clear nu4)
     (try clear nu5)
     (try clear nv4)
     (try clear nv5)
     have V:=Lib.hid (show qac w r o q=4 from n1);generalize qac w r o q=R at V;clear hE hEE hKK hK n1 n2
     (try clear eh)
     (try clear kh)
     (try clear k3)
     go_enter Tryz.func33,Tryz.ntmps33
     go_upto_region 1 with(fail)
     obtain⟨z0,z1,z2,z3,z4,z5,z6,z7,z8,z9,z10,z11,z12,z13,z14,z15,z16,z17,z18,z19⟩:=KS.out _ T.out
     go_wp2_with (first
      | (go_at_call 60;(with_reducible refine(CE.out _ T.out).mono ?_);rintro e' wx ⟨rfl,kx⟩;have kx:Bel _ wx:=kx;have T:=Lib.hid (T.out.belw kx);obtain⟨z0,z1,z2,z3,z4,z5,z6,z7,z8,z9,z10,z11,z12,z13,z14,z15,z16,z17,z18,z19⟩:=KS.out _ T.out;clear kx)
      | (go_at_call 61;(with_reducible refine(C1.out _).mono ?_);rintro e' wx ⟨rfl,kx⟩;have kx:Bel _ wx:=kx;have T:=Lib.hid (T.out.belw kx);obtain⟨z0,z1,z2,z3,z4,z5,z6,z7,z8,z9,z10,z11,z12,z13,z14,z15,z16,z17,z18,z19⟩:=KS.out _ T.out;clear kx)
      | (go_at_call 61;(with_reducible refine(C2.out _).mono ?_);rintro e' wx ⟨rfl,kx⟩;have kx:Bel _ wx:=kx;have T:=Lib.hid (T.out.belw kx);obtain⟨z0,z1,z2,z3,z4,z5,z6,z7,z8,z9,z10,z11,z12,z13,z14,z15,z16,z17,z18,z19⟩:=KS.out _ T.out;clear kx)
      | (go_at_call 62;(with_reducible refine(CK.out _).mono ?_);rintro e' wx ⟨rfl,rfl⟩))
     go_ret;exact⟨by rw [V.out];rfl,T.out.bel⟩
  ·by_cases nv4:q.card=4
   ·have u4:(o.card == 4)=false:=beq_eq_false_iff_ne.2 nu4
    have u5:(o.card == 5)=false:=beq_eq_false_iff_ne.2 nu5;have us:oneR o=true:=decide_eq_true ⟨nu4,nu5⟩;have v4:(q.card == 4)=true:=by rw [nv4];rfl
    have v5:(q.card == 5)=false:=beq_eq_false_iff_ne.2 (by omega);have vs:oneR q=false:=decide_eq_false (fun h=>by omega);rw [us]at C1;rw [vs]at C2;have C1:=Lib.hid C1;have C2:=Lib.hid C2;have n1:qac w r o q=max E 3:=by unfold qac;rw [us,vs,if_neg (fun h=>h.elim (fun h=>by cases h.2) (fun h=>nu4 h.1)),if_pos ⟨rfl,nv4⟩,hE]
    have n2:=n1;by_cases eh:E=4
    ·have eb:(E == 4)=true:=by rw [eh];rfl
     (try clear nu4)
     (try clear nu5)
     (try clear nv4)
     (try clear nv5)
     have V:=Lib.hid (show qac w r o q=E from(n1.trans (by omega)));generalize qac w r o q=R at V;clear hE hEE hKK hK n1 n2
     (try clear eh)
     (try clear kh)
     (try clear k3)
     go_enter Tryz.func33,Tryz.ntmps33
     go_upto_region 1 with(fail)
     obtain⟨z0,z1,z2,z3,z4,z5,z6,z7,z8,z9,z10,z11,z12,z13,z14,z15,z16,z17,z18,z19⟩:=KS.out _ T.out
     go_wp2_with (first
      | (go_at_call 60;(with_reducible refine(CE.out _ T.out).mono ?_);rintro e' wx ⟨rfl,kx⟩;have kx:Bel _ wx:=kx;have T:=Lib.hid (T.out.belw kx);obtain⟨z0,z1,z2,z3,z4,z5,z6,z7,z8,z9,z10,z11,z12,z13,z14,z15,z16,z17,z18,z19⟩:=KS.out _ T.out;clear kx)
      | (go_at_call 61;(with_reducible refine(C1.out _).mono ?_);rintro e' wx ⟨rfl,kx⟩;have kx:Bel _ wx:=kx;have T:=Lib.hid (T.out.belw kx);obtain⟨z0,z1,z2,z3,z4,z5,z6,z7,z8,z9,z10,z11,z12,z13,z14,z15,z16,z17,z18,z19⟩:=KS.out _ T.out;clear kx)
      | (go_at_call 61;(with_reducible refine(C2.out _).mono ?_);rintro e' wx ⟨rfl,kx⟩;have kx:Bel _ wx:=kx;have T:=Lib.hid (T.out.belw kx);obtain⟨z0,z1,z2,z3,z4,z5,z6,z7,z8,z9,z10,z11,z12,z13,z14,z15,z16,z17,z18,z19⟩:=KS.out _ T.out;clear kx)
      | (go_at_call 62;(with_reducible refine(CK.out _).mono ?_);rintro e' wx ⟨rfl,rfl⟩))
     go_ret;exact⟨by rw [V.out];rfl,T.out.bel⟩
    ·have eb:(E == 4)=false:=beq_eq_false_iff_ne.2 eh
     (try clear nu4)
     (try clear nu5)
     (try clear nv4)
     (try clear nv5)
     have V:=Lib.hid (show qac w r o q=3 from(n1.trans (by omega)));generalize qac w r o q=R at V;clear hE hEE hKK hK n1 n2
     (try clear eh)
     (try clear kh)
     (try clear k3)
     go_enter Tryz.func33,Tryz.ntmps33
     go_upto_region 1 with(fail)
     obtain⟨z0,z1,z2,z3,z4,z5,z6,z7,z8,z9,z10,z11,z12,z13,z14,z15,z16,z17,z18,z19⟩:=KS.out _ T.out
     go_wp2_with (first
      | (go_at_call 60;(with_reducible refine(CE.out _ T.out).mono ?_);rintro e' wx ⟨rfl,kx⟩;have kx:Bel _ wx:=kx;have T:=Lib.hid (T.out.belw kx);obtain⟨z0,z1,z2,z3,z4,z5,z6,z7,z8,z9,z10,z11,z12,z13,z14,z15,z16,z17,z18,z19⟩:=KS.out _ T.out;clear kx)
      | (go_at_call 61;(with_reducible refine(C1.out _).mono ?_);rintro e' wx ⟨rfl,kx⟩;have kx:Bel _ wx:=kx;have T:=Lib.hid (T.out.belw kx);obtain⟨z0,z1,z2,z3,z4,z5,z6,z7,z8,z9,z10,z11,z12,z13,z14,z15,z16,z17,z18,z19⟩:=KS.out _ T.out;clear kx)
      | (go_at_call 61;(with_reducible refine(C2.out _).mono ?_);rintro e' wx ⟨rfl,kx⟩;have kx:Bel _ wx:=kx;have T:=Lib.hid (T.out.belw kx);obtain⟨z0,z1,z2,z3,z4,z5,z6,z7,z8,z9,z10,z11,z12,z13,z14,z15,z16,z17,z18,z19⟩:=KS.out _ T.out;clear kx)
      | (go_at_call 62;(with_reducible refine(CK.out _).mono ?_);rintro e' wx ⟨rfl,rfl⟩))
     go_ret;exact⟨by rw [V.out];rfl,T.out.bel⟩
   ·by_cases nv5:q.card=5
    ·have u4:(o.card == 4)=false:=beq_eq_false_iff_ne.2 nu4
     have u5:(o.card == 5)=false:=beq_eq_false_iff_ne.2 nu5;have us:oneR o=true:=decide_eq_true ⟨nu4,nu5⟩;have v5:(q.card == 5)=true:=by rw [nv5];rfl
     have v4:(q.card == 4)=false:=beq_eq_false_iff_ne.2 (by omega);have vs:oneR q=false:=decide_eq_false (fun h=>by omega);rw [us]at C1;rw [vs]at C2;have C1:=Lib.hid C1;have C2:=Lib.hid C2;have n1:qac w r o q=4:=by unfold qac;rw [us,vs,if_neg (fun h=>h.elim (fun h=>by simp at h) (fun h=>by omega)),if_neg (fun h=>by first|(simp at h;done)|(have:=h.2;omega)),if_neg (fun h=>by omega)]
     have n2:=n1
     (try clear nu4)
     (try clear nu5)
     (try clear nv4)
     (try clear nv5)
     have V:=Lib.hid (show qac w r o q=4 from n1);generalize qac w r o q=R at V;clear hE hEE hKK hK n1 n2
     (try clear eh)
     (try clear kh)
     (try clear k3)
     go_enter Tryz.func33,Tryz.ntmps33
     go_upto_region 1 with(fail)
     obtain⟨z0,z1,z2,z3,z4,z5,z6,z7,z8,z9,z10,z11,z12,z13,z14,z15,z16,z17,z18,z19⟩:=KS.out _ T.out
     go_wp2_with (first
      | (go_at_call 60;(with_reducible refine(CE.out _ T.out).mono ?_);rintro e' wx ⟨rfl,kx⟩;have kx:Bel _ wx:=kx;have T:=Lib.hid (T.out.belw kx);obtain⟨z0,z1,z2,z3,z4,z5,z6,z7,z8,z9,z10,z11,z12,z13,z14,z15,z16,z17,z18,z19⟩:=KS.out _ T.out;clear kx)
      | (go_at_call 61;(with_reducible refine(C1.out _).mono ?_);rintro e' wx ⟨rfl,kx⟩;have kx:Bel _ wx:=kx;have T:=Lib.hid (T.out.belw kx);obtain⟨z0,z1,z2,z3,z4,z5,z6,z7,z8,z9,z10,z11,z12,z13,z14,z15,z16,z17,z18,z19⟩:=KS.out _ T.out;clear kx)
      | (go_at_call 61;(with_reducible refine(C2.out _).mono ?_);rintro e' wx ⟨rfl,kx⟩;have kx:Bel _ wx:=kx;have T:=Lib.hid (T.out.belw kx);obtain⟨z0,z1,z2,z3,z4,z5,z6,z7,z8,z9,z10,z11,z12,z13,z14,z15,z16,z17,z18,z19⟩:=KS.out _ T.out;clear kx)
      | (go_at_call 62;(with_reducible refine(CK.out _).mono ?_);rintro e' wx ⟨rfl,rfl⟩))
     go_ret;exact⟨by rw [V.out];rfl,T.out.bel⟩
    ·have u4:(o.card == 4)=false:=beq_eq_false_iff_ne.2 nu4
     have u5:(o.card == 5)=false:=beq_eq_false_iff_ne.2 nu5;have us:oneR o=true:=decide_eq_true ⟨nu4,nu5⟩;have v4:(q.card == 4)=false:=beq_eq_false_iff_ne.2 nv4;have v5:(q.card == 5)=false:=beq_eq_false_iff_ne.2 nv5;have vs:oneR q=true:=decide_eq_true ⟨nv4,nv5⟩;rw [us]at C1;rw [vs]at C2;have C1:=Lib.hid C1;have C2:=Lib.hid C2;have n1:qac w r o q=E:=by unfold qac;rw [us,vs,if_pos (.inl ⟨rfl,rfl⟩),hE]
     have n2:=n1
     (try clear nu4)
     (try clear nu5)
     (try clear nv4)
     (try clear nv5)
     have V:=Lib.hid (show qac w r o q=E from n1);generalize qac w r o q=R at V;clear hE hEE hKK hK n1 n2
     (try clear eh)
     (try clear kh)
     (try clear k3)
     go_enter Tryz.func33,Tryz.ntmps33
     go_upto_region 1 with(fail)
     obtain⟨z0,z1,z2,z3,z4,z5,z6,z7,z8,z9,z10,z11,z12,z13,z14,z15,z16,z17,z18,z19⟩:=KS.out _ T.out
     go_wp2_with (first
      | (go_at_call 60;(with_reducible refine(CE.out _ T.out).mono ?_);rintro e' wx ⟨rfl,kx⟩;have kx:Bel _ wx:=kx;have T:=Lib.hid (T.out.belw kx);obtain⟨z0,z1,z2,z3,z4,z5,z6,z7,z8,z9,z10,z11,z12,z13,z14,z15,z16,z17,z18,z19⟩:=KS.out _ T.out;clear kx)
      | (go_at_call 61;(with_reducible refine(C1.out _).mono ?_);rintro e' wx ⟨rfl,kx⟩;have kx:Bel _ wx:=kx;have T:=Lib.hid (T.out.belw kx);obtain⟨z0,z1,z2,z3,z4,z5,z6,z7,z8,z9,z10,z11,z12,z13,z14,z15,z16,z17,z18,z19⟩:=KS.out _ T.out;clear kx)
      | (go_at_call 61;(with_reducible refine(C2.out _).mono ?_);rintro e' wx ⟨rfl,kx⟩;have kx:Bel _ wx:=kx;have T:=Lib.hid (T.out.belw kx);obtain⟨z0,z1,z2,z3,z4,z5,z6,z7,z8,z9,z10,z11,z12,z13,z14,z15,z16,z17,z18,z19⟩:=KS.out _ T.out;clear kx)
      | (go_at_call 62;(with_reducible refine(CK.out _).mono ?_);rintro e' wx ⟨rfl,rfl⟩))
     go_ret;exact⟨by rw [V.out];rfl,T.out.bel⟩
end Go.Proofs.YtgpjhibdongmbaaGreatDoor
