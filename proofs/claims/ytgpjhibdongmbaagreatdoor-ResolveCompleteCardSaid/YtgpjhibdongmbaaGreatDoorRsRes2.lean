import Derived.Test.YtgpjhibdongmbaaGreatDoorRsThm
set_option maxRecDepth 100000
set_option maxHeartbeats 4000000
set_option linter.unusedVariables false
set_option linter.unusedSimpArgs false
namespace Go.Proofs.YtgpjhibdongmbaaGreatDoor
open Go.RowKit Ck Rs
structure Tgt (w r:PPlan) (o q:POp):Prop where
 o9:o.kind=9->0<=o.tgt/\o.tgt<w.enums.length
 q9:q.kind=9->0<=q.tgt/\q.tgt<r.enums.length
theorem qjk (B:Nat) (w r:PPlan) (p1 p2 p3 p4:Option Addr) (c1 c2 c3 c4:Nat) (o q:POp) (W:World) (hS:Sr B w r p1 p2 p3 p4 c1 c2 c3 c4 W) (hT:Tab W) (ht:Tgt w r o q) :
  Calls Tryz.prog 186 #[.pointer (some ⟨B,0,none⟩),.agg #[.int .i64 o.num,.string (S o.name),.string (S o.ali),.int .i64 o.card,.int .i64 o.key,.int .i64 o.kind,.int .i64 o.tgt,.int .i64 o.un],.agg #[.int .i64 q.num,.string (S q.name),.string (S q.ali),.int .i64 q.card,.int .i64 q.key,.int .i64 q.kind,.int .i64 q.tgt,.int .i64 q.un]] W fun e' w'=>e'=.returned (.int .i64 (elemR w r o q-2))/\Bel W w':=by
 have CK:=Lib.hid (fun WW (T:ST W [] [⟨W.heap.size+1,#[.int .i64 q.num,.string (S q.name),.string (S q.ali),.int .i64 q.card,.int .i64 q.key,.int .i64 q.kind,.int .i64 q.tgt,.int .i64 q.un],54⟩,⟨W.heap.size,#[.int .i64 o.num,.string (S o.name),.string (S o.ali),.int .i64 o.card,.int .i64 o.key,.int .i64 o.kind,.int .i64 o.tgt,.int .i64 o.un],54⟩] WW)=>qjj o.kind q.kind WW (hT.below T.bel));have CI:=Lib.hid (fun da db WW (T:ST W [] [⟨W.heap.size+1,#[.int .i64 q.num,.string (S q.name),.string (S q.ali),.int .i64 q.card,.int .i64 q.key,.int .i64 q.kind,.int .i64 q.tgt,.int .i64 q.un],54⟩,⟨W.heap.size,#[.int .i64 o.num,.string (S o.name),.string (S o.ali),.int .i64 o.card,.int .i64 o.key,.int .i64 o.kind,.int .i64 o.tgt,.int .i64 o.un],54⟩] WW)=>rs_items B w r p1 p2 p3 p4 c1 c2 c3 c4 o q da db WW (hS.bel T.bel));have hS0:=((ST.start W).addbox #[.int .i64 o.num,.string (S o.name),.string (S o.ali),.int .i64 o.card,.int .i64 o.key,.int .i64 o.kind,.int .i64 o.tgt,.int .i64 o.un] 54).addbox #[.int .i64 q.num,.string (S q.name),.string (S q.ali),.int .i64 q.card,.int .i64 q.key,.int .i64 q.kind,.int .i64 q.tgt,.int .i64 q.un] 54;simp only [World.size_alloc]at hS0;have HS:=Lib.hid hS0;have KS:=Lib.hid (fun WW (h:ST W [] [⟨W.heap.size+1,#[.int .i64 q.num,.string (S q.name),.string (S q.ali),.int .i64 q.card,.int .i64 q.key,.int .i64 q.kind,.int .i64 q.tgt,.int .i64 q.un],54⟩,⟨W.heap.size,#[.int .i64 o.num,.string (S o.name),.string (S o.ali),.int .i64 o.card,.int .i64 o.key,.int .i64 o.kind,.int .i64 o.tgt,.int .i64 o.un],54⟩] WW)=>show WW.cell? ⟨W.heap.size,0,none⟩=some (.int .i64 o.num)/\WW.cell? ⟨W.heap.size,1,none⟩=some (.string (S o.name))/\WW.cell? ⟨W.heap.size,2,none⟩=some (.string (S o.ali))/\WW.cell? ⟨W.heap.size,3,none⟩=some (.int .i64 o.card)/\WW.cell? ⟨W.heap.size,4,none⟩=some (.int .i64 o.key)/\WW.cell? ⟨W.heap.size,5,none⟩=some (.int .i64 o.kind)/\WW.cell? ⟨W.heap.size,6,none⟩=some (.int .i64 o.tgt)/\WW.cell? ⟨W.heap.size,7,none⟩=some (.int .i64 o.un)/\WW.cell? ⟨W.heap.size+1,0,none⟩=some (.int .i64 q.num)/\WW.cell? ⟨W.heap.size+1,1,none⟩=some (.string (S q.name))/\WW.cell? ⟨W.heap.size+1,2,none⟩=some (.string (S q.ali))/\WW.cell? ⟨W.heap.size+1,3,none⟩=some (.int .i64 q.card)/\WW.cell? ⟨W.heap.size+1,4,none⟩=some (.int .i64 q.key)/\WW.cell? ⟨W.heap.size+1,5,none⟩=some (.int .i64 q.kind)/\WW.cell? ⟨W.heap.size+1,6,none⟩=some (.int .i64 q.tgt)/\WW.cell? ⟨W.heap.size+1,7,none⟩=some (.int .i64 q.un)from⟨h.cell 1 rfl 0,h.cell 1 rfl 1,h.cell 1 rfl 2,h.cell 1 rfl 3,h.cell 1 rfl 4,h.cell 1 rfl 5,h.cell 1 rfl 6,h.cell 1 rfl 7,h.cell 0 rfl 0,h.cell 0 rfl 1,h.cell 0 rfl 2,h.cell 0 rfl 3,h.cell 0 rfl 4,h.cell 0 rfl 5,h.cell 0 rfl 6,h.cell 0 rfl 7⟩);clear hS0;by_cases h1:o.kind=10
 ·have b1:(o.kind == 10)=true:=by rw [h1];rfl
  by_cases h2:q.kind=10
  ·have b2:(q.kind == 10)=true:=by rw [h2];rfl
   have V:=Lib.hid (show elemR w r o q-2=0 by unfold elemR;rw [if_pos ⟨h1,h2⟩];rfl);generalize elemR w r o q-2=R at V;clear h1 h2 hS hT ht CK CI
   go_enter Tryz.func186,Tryz.ntmps186
   go_wp2;go_ret
   exact⟨by rw [V.out];rfl,HS.out.bel⟩
  ·have b2:(q.kind == 10)=false:=beq_eq_false_iff_ne.2 h2
   have V:=Lib.hid (show elemR w r o q-2=2 by rw [qf6 h1 h2];rfl);generalize elemR w r o q-2=R at V;clear h1 h2 hS hT ht CK CI
   go_enter Tryz.func186,Tryz.ntmps186
   go_wp2;go_ret
   exact⟨by rw [V.out];rfl,HS.out.bel⟩
 ·have b1:(o.kind == 10)=false:=beq_eq_false_iff_ne.2 h1
  by_cases h2:q.kind=10
  ·have b2:(q.kind == 10)=true:=by rw [h2];rfl
   have V:=Lib.hid (show elemR w r o q-2=2 by unfold elemR;rw [if_neg (fun h=>h1 h.1),if_pos (.inr h2)];rfl);generalize elemR w r o q-2=R at V;clear h1 h2 hS hT ht CK CI
   go_enter Tryz.func186,Tryz.ntmps186
   go_wp2;go_ret
   exact⟨by rw [V.out];rfl,HS.out.bel⟩
  ·have b2:(q.kind == 10)=false:=beq_eq_false_iff_ne.2 h2
   have V0:elemR w r o q=if o.kind=9/\q.kind=9 then(match w.enums[o.tgt.toNat]?,r.enums[q.tgt.toNat]? with|some a,some b=>if qd4 a b=true then 2 else 3|_,_=>3)else qav o.kind q.kind:=by
    unfold elemR;rw [if_neg (fun h=>h1 h.1),if_neg (fun h=>h.elim h1 h2)];rfl
   by_cases h3:o.kind=9
   ·have b3:(o.kind == 9)=true:=by rw [h3];rfl
    by_cases h4:q.kind=9
    ·have b4:(q.kind == 9)=true:=by rw [h4];rfl
     obtain⟨da,hda,_⟩:=qct (ht.o9 h3).1 (ht.o9 h3).2;obtain⟨db,hdb,_⟩:=qct (ht.q9 h4).1 (ht.q9 h4).2;rw [if_pos ⟨h3,h4⟩,hda,hdb]at V0;have C:=Lib.hid (fun WW T=>CI.out da db WW T (ht.o9 h3).1 (ht.q9 h4).1 hda hdb);have V:=Lib.hid (show elemR w r o q-2=if qd4 da db=true then 0 else 1 by rw [V0];dsimp only;split <;> rfl);generalize elemR w r o q-2=R at V;generalize qd4 da db=Q at V C;clear h1 h2 h3 h4 hS hT ht CK CI V0 hda hdb;cases Q with
     | true=>
      go_enter Tryz.func186,Tryz.ntmps186
      obtain⟨x0,x1,x2,x3,x4,x5,x6,x7,x8,x9,x10,x11,x12,x13,x14,x15⟩:=KS.out _ HS.out
      go_wp2_with (go_at_call 207;(with_reducible refine(C.out _ HS.out).mono ?_);rintro e' w1 ⟨rfl,k1⟩;have k1:Bel _ w1:=k1;have H1:=Lib.hid (HS.out.belw k1);clear k1)
      go_ret;exact⟨by rw [V.out];rfl,H1.out.bel⟩
     | false=>
      go_enter Tryz.func186,Tryz.ntmps186
      obtain⟨x0,x1,x2,x3,x4,x5,x6,x7,x8,x9,x10,x11,x12,x13,x14,x15⟩:=KS.out _ HS.out
      go_wp2_with (go_at_call 207;(with_reducible refine(C.out _ HS.out).mono ?_);rintro e' w1 ⟨rfl,k1⟩;have k1:Bel _ w1:=k1;have H1:=Lib.hid (HS.out.belw k1);clear k1)
      go_ret;exact⟨by rw [V.out];rfl,H1.out.bel⟩
    ·have b4:(q.kind == 9)=false:=beq_eq_false_iff_ne.2 h4
     rw [if_neg (fun h=>h4 h.2)]at V0;rw [V0];generalize qav o.kind q.kind=R at CK;clear h1 h2 h3 h4 hS hT ht CI V0
     go_enter Tryz.func186,Tryz.ntmps186
     obtain⟨x0,x1,x2,x3,x4,x5,x6,x7,x8,x9,x10,x11,x12,x13,x14,x15⟩:=KS.out _ HS.out
     go_wp2_with (go_at_call 188;(with_reducible refine(CK.out _ HS.out).mono ?_);rintro e' w1 ⟨rfl,k1⟩;have k1:Bel _ w1:=k1;have H1:=Lib.hid (HS.out.belw k1);clear k1)
     go_ret;exact⟨rfl,H1.out.bel⟩
   ·have b3:(o.kind == 9)=false:=beq_eq_false_iff_ne.2 h3
    rw [if_neg (fun h=>h3 h.1)]at V0;rw [V0];generalize qav o.kind q.kind=R at CK;clear h1 h2 h3 hS hT ht CI V0
    go_enter Tryz.func186,Tryz.ntmps186
    obtain⟨x0,x1,x2,x3,x4,x5,x6,x7,x8,x9,x10,x11,x12,x13,x14,x15⟩:=KS.out _ HS.out
    go_wp2_with (go_at_call 188;(with_reducible refine(CK.out _ HS.out).mono ?_);rintro e' w1 ⟨rfl,k1⟩;have k1:Bel _ w1:=k1;have H1:=Lib.hid (HS.out.belw k1);clear k1)
    go_ret;exact⟨rfl,H1.out.bel⟩
theorem qdh (B:Nat) (w r:PPlan) (p1 p2 p3 p4:Option Addr) (c1 c2 c3 c4:Nat) (o q:POp) (W:World) (hS:Sr B w r p1 p2 p3 p4 c1 c2 c3 c4 W) (hT:Tab W) (ht:Tgt w r o q) (ho:o.card<=5) (hq:q.card<=5) :
  Calls Tryz.prog 153 #[.pointer (some ⟨B,0,none⟩),.agg #[.int .i64 o.num,.string (S o.name),.string (S o.ali),.int .i64 o.card,.int .i64 o.key,.int .i64 o.kind,.int .i64 o.tgt,.int .i64 o.un],.agg #[.int .i64 q.num,.string (S q.name),.string (S q.ali),.int .i64 q.card,.int .i64 q.key,.int .i64 q.kind,.int .i64 q.tgt,.int .i64 q.un]] W fun e' w'=>e'=.returned (.int .i64 (qac w r o q-2))/\Bel W w':=by
 have CE:=Lib.hid (fun WW (T:ST W [] [⟨W.heap.size+1,#[.int .i64 q.num,.string (S q.name),.string (S q.ali),.int .i64 q.card,.int .i64 q.key,.int .i64 q.kind,.int .i64 q.tgt,.int .i64 q.un],54⟩,⟨W.heap.size,#[.int .i64 o.num,.string (S o.name),.string (S o.ali),.int .i64 o.card,.int .i64 o.key,.int .i64 o.kind,.int .i64 o.tgt,.int .i64 o.un],54⟩] WW)=>qjk B w r p1 p2 p3 p4 c1 c2 c3 c4 o q WW (hS.bel T.bel) (hT.below T.bel) ht);have CK:=Lib.hid (fun WW (T:ST W [] [⟨W.heap.size+1,#[.int .i64 q.num,.string (S q.name),.string (S q.ali),.int .i64 q.card,.int .i64 q.key,.int .i64 q.kind,.int .i64 q.tgt,.int .i64 q.un],54⟩,⟨W.heap.size,#[.int .i64 o.num,.string (S o.name),.string (S o.ali),.int .i64 o.card,.int .i64 o.key,.int .i64 o.kind,.int .i64 o.tgt,.int .i64 o.un],54⟩] WW)=>qjj o.key q.key WW (hT.below T.bel));have C1:=Lib.hid (fun WW (T:ST W [] [⟨W.heap.size+1,#[.int .i64 q.num,.string (S q.name),.string (S q.ali),.int .i64 q.card,.int .i64 q.key,.int .i64 q.kind,.int .i64 q.tgt,.int .i64 q.un],54⟩,⟨W.heap.size,#[.int .i64 o.num,.string (S o.name),.string (S o.ali),.int .i64 o.card,.int .i64 o.key,.int .i64 o.kind,.int .i64 o.tgt,.int .i64 o.un],54⟩] WW)=>qh3 o WW ho);have C2:=Lib.hid (fun WW (T:ST W [] [⟨W.heap.size+1,#[.int .i64 q.num,.string (S q.name),.string (S q.ali),.int .i64 q.card,.int .i64 q.key,.int .i64 q.kind,.int .i64 q.tgt,.int .i64 q.un],54⟩,⟨W.heap.size,#[.int .i64 o.num,.string (S o.name),.string (S o.ali),.int .i64 o.card,.int .i64 o.key,.int .i64 o.kind,.int .i64 o.tgt,.int .i64 o.un],54⟩] WW)=>qh3 q WW hq);have hec:=qec w r o q;have hkc:=qc0 o.key q.key;have hS0:=((ST.start W).addbox #[.int .i64 o.num,.string (S o.name),.string (S o.ali),.int .i64 o.card,.int .i64 o.key,.int .i64 o.kind,.int .i64 o.tgt,.int .i64 o.un] 54).addbox #[.int .i64 q.num,.string (S q.name),.string (S q.ali),.int .i64 q.card,.int .i64 q.key,.int .i64 q.kind,.int .i64 q.tgt,.int .i64 q.un] 54;simp only [World.size_alloc]at hS0;have HS:=Lib.hid hS0;have KS:=Lib.hid (fun WW (h:ST W [] [⟨W.heap.size+1,#[.int .i64 q.num,.string (S q.name),.string (S q.ali),.int .i64 q.card,.int .i64 q.key,.int .i64 q.kind,.int .i64 q.tgt,.int .i64 q.un],54⟩,⟨W.heap.size,#[.int .i64 o.num,.string (S o.name),.string (S o.ali),.int .i64 o.card,.int .i64 o.key,.int .i64 o.kind,.int .i64 o.tgt,.int .i64 o.un],54⟩] WW)=>show WW.cell? ⟨W.heap.size,0,none⟩=some (.int .i64 o.num)/\WW.cell? ⟨W.heap.size,1,none⟩=some (.string (S o.name))/\WW.cell? ⟨W.heap.size,2,none⟩=some (.string (S o.ali))/\WW.cell? ⟨W.heap.size,3,none⟩=some (.int .i64 o.card)/\WW.cell? ⟨W.heap.size,4,none⟩=some (.int .i64 o.key)/\WW.cell? ⟨W.heap.size,5,none⟩=some (.int .i64 o.kind)/\WW.cell? ⟨W.heap.size,6,none⟩=some (.int .i64 o.tgt)/\WW.cell? ⟨W.heap.size,7,none⟩=some (.int .i64 o.un)/\WW.cell? ⟨W.heap.size+1,0,none⟩=some (.int .i64 q.num)/\WW.cell? ⟨W.heap.size+1,1,none⟩=some (.string (S q.name))/\WW.cell? ⟨W.heap.size+1,2,none⟩=some (.string (S q.ali))/\WW.cell? ⟨W.heap.size+1,3,none⟩=some (.int .i64 q.card)/\WW.cell? ⟨W.heap.size+1,4,none⟩=some (.int .i64 q.key)/\WW.cell? ⟨W.heap.size+1,5,none⟩=some (.int .i64 q.kind)/\WW.cell? ⟨W.heap.size+1,6,none⟩=some (.int .i64 q.tgt)/\WW.cell? ⟨W.heap.size+1,7,none⟩=some (.int .i64 q.un)from⟨h.cell 1 rfl 0,h.cell 1 rfl 1,h.cell 1 rfl 2,h.cell 1 rfl 3,h.cell 1 rfl 4,h.cell 1 rfl 5,h.cell 1 rfl 6,h.cell 1 rfl 7,h.cell 0 rfl 0,h.cell 0 rfl 1,h.cell 0 rfl 2,h.cell 0 rfl 3,h.cell 0 rfl 4,h.cell 0 rfl 5,h.cell 0 rfl 6,h.cell 0 rfl 7⟩);clear hS0;have V0:qac w r o q=if(oneR o=true/\oneR q=true) ∨ (o.card=4/\q.card=4)then elemR w r o q else if oneR o=true/\q.card=4 then max (elemR w r o q) 3 else if o.card=5/\q.card=5 then max (elemR w r o q) (qav o.key q.key)else 4:=rfl
 have o45:oneR o=true->o.card ≠ 4/\o.card ≠ 5:=fun h=>of_decide_eq_true h
 have q45:oneR q=true->q.card ≠ 4/\q.card ≠ 5:=fun h=>of_decide_eq_true h
 generalize qac w r o q=F at V0 ⊢;generalize elemR w r o q=E at V0 CE hec;generalize qav o.key q.key=Q at V0 CK hkc;generalize oneR o=oo at V0 C1 o45;generalize oneR q=qq at V0 C2 q45;have ho4:(o.card == 4)=decide (o.card=4):=rfl;clear hS hT ht ho4;obtain⟨c4,hc4⟩ : ∃c,decide (o.card=4)=c:=⟨_,rfl⟩;obtain⟨d4,hd4⟩ : ∃c,decide (q.card=4)=c:=⟨_,rfl⟩;obtain⟨c5,hc5⟩ : ∃c,decide (o.card=5)=c:=⟨_,rfl⟩;obtain⟨d5,hd5⟩ : ∃c,decide (q.card=5)=c:=⟨_,rfl⟩;have b1:(o.card == 4)=c4:=hc4;have b2:(q.card == 4)=d4:=hd4;have b3:(o.card == 5)=c5:=hc5;have b4:(q.card == 5)=d5:=hd5
 have V1:F=if(oo=true/\qq=true) ∨ (c4=true/\d4=true)then E else if oo=true/\d4=true then max E 3 else if c5=true/\d5=true then max E Q else 4:=by
  rw [V0, ←hc4, ←hd4, ←hc5, ←hd5];simp only [decide_eq_true_eq]
 have i1:oo=true->c4=false/\c5=false:=fun h=>⟨by rw [←hc4];exact decide_eq_false (o45 h).1,by rw [←hc5];exact decide_eq_false (o45 h).2⟩
 have i2:qq=true->d4=false/\d5=false:=fun h=>⟨by rw [←hd4];exact decide_eq_false (q45 h).1,by rw [←hd5];exact decide_eq_false (q45 h).2⟩
 clear V0 o45 q45 hc4 hd4 hc5 hd5;have VV:=Lib.hid V1;clear V1;cases oo with
 | true=>
  obtain⟨rfl,rfl⟩:=i1 rfl;cases qq with
  | true=>
   obtain⟨rfl,rfl⟩:=i2 rfl;have V:=Lib.hid (show F-2=E-2 by rw [VV.out];simp);generalize F-2=R at V;clear VV
   go_enter Tryz.func153,Tryz.ntmps153
   obtain⟨x0,x1,x2,x3,x4,x5,x6,x7,x8,x9,x10,x11,x12,x13,x14,x15⟩:=KS.out _ HS.out
   go_wp2_with (first
    | (go_at_call 186;(with_reducible refine(CE.out _ HS.out).mono ?_);rintro e' w1 ⟨rfl,k1⟩;have k1:Bel _ w1:=k1;have H1:=Lib.hid (HS.out.belw k1);clear k1;(try clear x0 x1 x2 x3 x4 x5 x6 x7 x8 x9 x10 x11 x12 x13 x14 x15);obtain⟨x0,x1,x2,x3,x4,x5,x6,x7,x8,x9,x10,x11,x12,x13,x14,x15⟩:=KS.out _ H1.out)
    | (go_at_call 187;(with_reducible refine(C1.out _ H1.out).mono ?_);rintro e' w2 ⟨rfl,k2⟩;have k2:Bel _ w2:=k2;have H2:=Lib.hid (H1.out.belw k2);clear k2;(try clear x0 x1 x2 x3 x4 x5 x6 x7 x8 x9 x10 x11 x12 x13 x14 x15);obtain⟨x0,x1,x2,x3,x4,x5,x6,x7,x8,x9,x10,x11,x12,x13,x14,x15⟩:=KS.out _ H2.out)
    | (go_at_call 187;(with_reducible refine(C2.out _ H2.out).mono ?_);rintro e' w3 ⟨rfl,k3⟩;have k3:Bel _ w3:=k3;have H3:=Lib.hid (H2.out.belw k3);clear k3;(try clear x0 x1 x2 x3 x4 x5 x6 x7 x8 x9 x10 x11 x12 x13 x14 x15);obtain⟨x0,x1,x2,x3,x4,x5,x6,x7,x8,x9,x10,x11,x12,x13,x14,x15⟩:=KS.out _ H3.out))
   go_ret;exact⟨by rw [V.out];(first|rfl|(simp;done)),H3.out.bel⟩
  | false=>
   cases d4 with
   | true=>
    have V:=Lib.hid (show F-2=max (E-2) 1 by rw [VV.out];simp;omega);generalize F-2=R at V;clear VV
    go_enter Tryz.func153,Tryz.ntmps153
    obtain⟨x0,x1,x2,x3,x4,x5,x6,x7,x8,x9,x10,x11,x12,x13,x14,x15⟩:=KS.out _ HS.out
    go_wp2_with (first
     | (go_at_call 186;(with_reducible refine(CE.out _ HS.out).mono ?_);rintro e' w1 ⟨rfl,k1⟩;have k1:Bel _ w1:=k1;have H1:=Lib.hid (HS.out.belw k1);clear k1;(try clear x0 x1 x2 x3 x4 x5 x6 x7 x8 x9 x10 x11 x12 x13 x14 x15);obtain⟨x0,x1,x2,x3,x4,x5,x6,x7,x8,x9,x10,x11,x12,x13,x14,x15⟩:=KS.out _ H1.out)
     | (go_at_call 187;(with_reducible refine(C1.out _ H1.out).mono ?_);rintro e' w2 ⟨rfl,k2⟩;have k2:Bel _ w2:=k2;have H2:=Lib.hid (H1.out.belw k2);clear k2;(try clear x0 x1 x2 x3 x4 x5 x6 x7 x8 x9 x10 x11 x12 x13 x14 x15);obtain⟨x0,x1,x2,x3,x4,x5,x6,x7,x8,x9,x10,x11,x12,x13,x14,x15⟩:=KS.out _ H2.out)
     | (go_at_call 187;(with_reducible refine(C2.out _ H2.out).mono ?_);rintro e' w3 ⟨rfl,k3⟩;have k3:Bel _ w3:=k3;have H3:=Lib.hid (H2.out.belw k3);clear k3;(try clear x0 x1 x2 x3 x4 x5 x6 x7 x8 x9 x10 x11 x12 x13 x14 x15);obtain⟨x0,x1,x2,x3,x4,x5,x6,x7,x8,x9,x10,x11,x12,x13,x14,x15⟩:=KS.out _ H3.out)
     | (go_at_call 187;(with_reducible refine(C1.out _ H3.out).mono ?_);rintro e' w4 ⟨rfl,k4⟩;have k4:Bel _ w4:=k4;have H4:=Lib.hid (H3.out.belw k4);clear k4;(try clear x0 x1 x2 x3 x4 x5 x6 x7 x8 x9 x10 x11 x12 x13 x14 x15);obtain⟨x0,x1,x2,x3,x4,x5,x6,x7,x8,x9,x10,x11,x12,x13,x14,x15⟩:=KS.out _ H4.out))
    go_ret;exact⟨by rw [V.out];(first|rfl|(simp;done)),H4.out.bel⟩
   | false=>
    have V:=Lib.hid (show F-2=2 by rw [VV.out];simp);generalize F-2=R at V;clear VV
    go_enter Tryz.func153,Tryz.ntmps153
    obtain⟨x0,x1,x2,x3,x4,x5,x6,x7,x8,x9,x10,x11,x12,x13,x14,x15⟩:=KS.out _ HS.out
    go_wp2_with (first
     | (go_at_call 186;(with_reducible refine(CE.out _ HS.out).mono ?_);rintro e' w1 ⟨rfl,k1⟩;have k1:Bel _ w1:=k1;have H1:=Lib.hid (HS.out.belw k1);clear k1;(try clear x0 x1 x2 x3 x4 x5 x6 x7 x8 x9 x10 x11 x12 x13 x14 x15);obtain⟨x0,x1,x2,x3,x4,x5,x6,x7,x8,x9,x10,x11,x12,x13,x14,x15⟩:=KS.out _ H1.out)
     | (go_at_call 187;(with_reducible refine(C1.out _ H1.out).mono ?_);rintro e' w2 ⟨rfl,k2⟩;have k2:Bel _ w2:=k2;have H2:=Lib.hid (H1.out.belw k2);clear k2;(try clear x0 x1 x2 x3 x4 x5 x6 x7 x8 x9 x10 x11 x12 x13 x14 x15);obtain⟨x0,x1,x2,x3,x4,x5,x6,x7,x8,x9,x10,x11,x12,x13,x14,x15⟩:=KS.out _ H2.out)
     | (go_at_call 187;(with_reducible refine(C2.out _ H2.out).mono ?_);rintro e' w3 ⟨rfl,k3⟩;have k3:Bel _ w3:=k3;have H3:=Lib.hid (H2.out.belw k3);clear k3;(try clear x0 x1 x2 x3 x4 x5 x6 x7 x8 x9 x10 x11 x12 x13 x14 x15);obtain⟨x0,x1,x2,x3,x4,x5,x6,x7,x8,x9,x10,x11,x12,x13,x14,x15⟩:=KS.out _ H3.out)
     | (go_at_call 187;(with_reducible refine(C1.out _ H3.out).mono ?_);rintro e' w4 ⟨rfl,k4⟩;have k4:Bel _ w4:=k4;have H4:=Lib.hid (H3.out.belw k4);clear k4;(try clear x0 x1 x2 x3 x4 x5 x6 x7 x8 x9 x10 x11 x12 x13 x14 x15);obtain⟨x0,x1,x2,x3,x4,x5,x6,x7,x8,x9,x10,x11,x12,x13,x14,x15⟩:=KS.out _ H4.out))
    go_ret;exact⟨by rw [V.out];(first|rfl|(simp;done)),H4.out.bel⟩
 | false=>
  cases c4 with
  | true=>
   cases d4 with
   | true=>
    have V:=Lib.hid (show F-2=E-2 by rw [VV.out];simp);generalize F-2=R at V;clear VV
    go_enter Tryz.func153,Tryz.ntmps153
    obtain⟨x0,x1,x2,x3,x4,x5,x6,x7,x8,x9,x10,x11,x12,x13,x14,x15⟩:=KS.out _ HS.out
    go_wp2_with (first
     | (go_at_call 186;(with_reducible refine(CE.out _ HS.out).mono ?_);rintro e' w1 ⟨rfl,k1⟩;have k1:Bel _ w1:=k1;have H1:=Lib.hid (HS.out.belw k1);clear k1;(try clear x0 x1 x2 x3 x4 x5 x6 x7 x8 x9 x10 x11 x12 x13 x14 x15);obtain⟨x0,x1,x2,x3,x4,x5,x6,x7,x8,x9,x10,x11,x12,x13,x14,x15⟩:=KS.out _ H1.out)
     | (go_at_call 187;(with_reducible refine(C1.out _ H1.out).mono ?_);rintro e' w2 ⟨rfl,k2⟩;have k2:Bel _ w2:=k2;have H2:=Lib.hid (H1.out.belw k2);clear k2;(try clear x0 x1 x2 x3 x4 x5 x6 x7 x8 x9 x10 x11 x12 x13 x14 x15);obtain⟨x0,x1,x2,x3,x4,x5,x6,x7,x8,x9,x10,x11,x12,x13,x14,x15⟩:=KS.out _ H2.out))
    go_ret;exact⟨by rw [V.out];(first|rfl|(simp;done)),H2.out.bel⟩
   | false=>
    cases c5 with
    | true=>
     cases d5 with
     | true=>
      have V:=Lib.hid (show F-2=max (E-2) (Q-2)by rw [VV.out];simp;omega);generalize F-2=R at V;clear VV
      go_enter Tryz.func153,Tryz.ntmps153
      obtain⟨x0,x1,x2,x3,x4,x5,x6,x7,x8,x9,x10,x11,x12,x13,x14,x15⟩:=KS.out _ HS.out
      go_wp2_with (first
       | (go_at_call 186;(with_reducible refine(CE.out _ HS.out).mono ?_);rintro e' w1 ⟨rfl,k1⟩;have k1:Bel _ w1:=k1;have H1:=Lib.hid (HS.out.belw k1);clear k1;(try clear x0 x1 x2 x3 x4 x5 x6 x7 x8 x9 x10 x11 x12 x13 x14 x15);obtain⟨x0,x1,x2,x3,x4,x5,x6,x7,x8,x9,x10,x11,x12,x13,x14,x15⟩:=KS.out _ H1.out)
       | (go_at_call 187;(with_reducible refine(C1.out _ H1.out).mono ?_);rintro e' w2 ⟨rfl,k2⟩;have k2:Bel _ w2:=k2;have H2:=Lib.hid (H1.out.belw k2);clear k2;(try clear x0 x1 x2 x3 x4 x5 x6 x7 x8 x9 x10 x11 x12 x13 x14 x15);obtain⟨x0,x1,x2,x3,x4,x5,x6,x7,x8,x9,x10,x11,x12,x13,x14,x15⟩:=KS.out _ H2.out)
       | (go_at_call 187;(with_reducible refine(C1.out _ H2.out).mono ?_);rintro e' w3 ⟨rfl,k3⟩;have k3:Bel _ w3:=k3;have H3:=Lib.hid (H2.out.belw k3);clear k3;(try clear x0 x1 x2 x3 x4 x5 x6 x7 x8 x9 x10 x11 x12 x13 x14 x15);obtain⟨x0,x1,x2,x3,x4,x5,x6,x7,x8,x9,x10,x11,x12,x13,x14,x15⟩:=KS.out _ H3.out)
       | (go_at_call 188;(with_reducible refine(CK.out _ H3.out).mono ?_);rintro e' w4 ⟨rfl,k4⟩;have k4:Bel _ w4:=k4;have H4:=Lib.hid (H3.out.belw k4);clear k4))
      go_ret;exact⟨by rw [V.out];(first|rfl|(simp;done)),H4.out.bel⟩
     | false=>
      have V:=Lib.hid (show F-2=2 by rw [VV.out];simp);generalize F-2=R at V;clear VV
      go_enter Tryz.func153,Tryz.ntmps153
      obtain⟨x0,x1,x2,x3,x4,x5,x6,x7,x8,x9,x10,x11,x12,x13,x14,x15⟩:=KS.out _ HS.out
      go_wp2_with (first
       | (go_at_call 186;(with_reducible refine(CE.out _ HS.out).mono ?_);rintro e' w1 ⟨rfl,k1⟩;have k1:Bel _ w1:=k1;have H1:=Lib.hid (HS.out.belw k1);clear k1;(try clear x0 x1 x2 x3 x4 x5 x6 x7 x8 x9 x10 x11 x12 x13 x14 x15);obtain⟨x0,x1,x2,x3,x4,x5,x6,x7,x8,x9,x10,x11,x12,x13,x14,x15⟩:=KS.out _ H1.out)
       | (go_at_call 187;(with_reducible refine(C1.out _ H1.out).mono ?_);rintro e' w2 ⟨rfl,k2⟩;have k2:Bel _ w2:=k2;have H2:=Lib.hid (H1.out.belw k2);clear k2;(try clear x0 x1 x2 x3 x4 x5 x6 x7 x8 x9 x10 x11 x12 x13 x14 x15);obtain⟨x0,x1,x2,x3,x4,x5,x6,x7,x8,x9,x10,x11,x12,x13,x14,x15⟩:=KS.out _ H2.out)
       | (go_at_call 187;(with_reducible refine(C1.out _ H2.out).mono ?_);rintro e' w3 ⟨rfl,k3⟩;have k3:Bel _ w3:=k3;have H3:=Lib.hid (H2.out.belw k3);clear k3;(try clear x0 x1 x2 x3 x4 x5 x6 x7 x8 x9 x10 x11 x12 x13 x14 x15);obtain⟨x0,x1,x2,x3,x4,x5,x6,x7,x8,x9,x10,x11,x12,x13,x14,x15⟩:=KS.out _ H3.out))
      go_ret;exact⟨by rw [V.out];(first|rfl|(simp;done)),H3.out.bel⟩
    | false=>
     have V:=Lib.hid (show F-2=2 by rw [VV.out];simp);generalize F-2=R at V;clear VV
     go_enter Tryz.func153,Tryz.ntmps153
     obtain⟨x0,x1,x2,x3,x4,x5,x6,x7,x8,x9,x10,x11,x12,x13,x14,x15⟩:=KS.out _ HS.out
     go_wp2_with (first
      | (go_at_call 186;(with_reducible refine(CE.out _ HS.out).mono ?_);rintro e' w1 ⟨rfl,k1⟩;have k1:Bel _ w1:=k1;have H1:=Lib.hid (HS.out.belw k1);clear k1;(try clear x0 x1 x2 x3 x4 x5 x6 x7 x8 x9 x10 x11 x12 x13 x14 x15);obtain⟨x0,x1,x2,x3,x4,x5,x6,x7,x8,x9,x10,x11,x12,x13,x14,x15⟩:=KS.out _ H1.out)
      | (go_at_call 187;(with_reducible refine(C1.out _ H1.out).mono ?_);rintro e' w2 ⟨rfl,k2⟩;have k2:Bel _ w2:=k2;have H2:=Lib.hid (H1.out.belw k2);clear k2;(try clear x0 x1 x2 x3 x4 x5 x6 x7 x8 x9 x10 x11 x12 x13 x14 x15);obtain⟨x0,x1,x2,x3,x4,x5,x6,x7,x8,x9,x10,x11,x12,x13,x14,x15⟩:=KS.out _ H2.out)
      | (go_at_call 187;(with_reducible refine(C1.out _ H2.out).mono ?_);rintro e' w3 ⟨rfl,k3⟩;have k3:Bel _ w3:=k3;have H3:=Lib.hid (H2.out.belw k3);clear k3;(try clear x0 x1 x2 x3 x4 x5 x6 x7 x8 x9 x10 x11 x12 x13 x14 x15);obtain⟨x0,x1,x2,x3,x4,x5,x6,x7,x8,x9,x10,x11,x12,x13,x14,x15⟩:=KS.out _ H3.out))
     go_ret;exact⟨by rw [V.out];(first|rfl|(simp;done)),H3.out.bel⟩
  | false=>
   cases c5 with
   | true=>
    cases d5 with
    | true=>
     have V:=Lib.hid (show F-2=max (E-2) (Q-2)by rw [VV.out];simp;omega);generalize F-2=R at V;clear VV
     go_enter Tryz.func153,Tryz.ntmps153
     obtain⟨x0,x1,x2,x3,x4,x5,x6,x7,x8,x9,x10,x11,x12,x13,x14,x15⟩:=KS.out _ HS.out
     go_wp2_with (first
      | (go_at_call 186;(with_reducible refine(CE.out _ HS.out).mono ?_);rintro e' w1 ⟨rfl,k1⟩;have k1:Bel _ w1:=k1;have H1:=Lib.hid (HS.out.belw k1);clear k1;(try clear x0 x1 x2 x3 x4 x5 x6 x7 x8 x9 x10 x11 x12 x13 x14 x15);obtain⟨x0,x1,x2,x3,x4,x5,x6,x7,x8,x9,x10,x11,x12,x13,x14,x15⟩:=KS.out _ H1.out)
      | (go_at_call 187;(with_reducible refine(C1.out _ H1.out).mono ?_);rintro e' w2 ⟨rfl,k2⟩;have k2:Bel _ w2:=k2;have H2:=Lib.hid (H1.out.belw k2);clear k2;(try clear x0 x1 x2 x3 x4 x5 x6 x7 x8 x9 x10 x11 x12 x13 x14 x15);obtain⟨x0,x1,x2,x3,x4,x5,x6,x7,x8,x9,x10,x11,x12,x13,x14,x15⟩:=KS.out _ H2.out)
      | (go_at_call 187;(with_reducible refine(C1.out _ H2.out).mono ?_);rintro e' w3 ⟨rfl,k3⟩;have k3:Bel _ w3:=k3;have H3:=Lib.hid (H2.out.belw k3);clear k3;(try clear x0 x1 x2 x3 x4 x5 x6 x7 x8 x9 x10 x11 x12 x13 x14 x15);obtain⟨x0,x1,x2,x3,x4,x5,x6,x7,x8,x9,x10,x11,x12,x13,x14,x15⟩:=KS.out _ H3.out)
      | (go_at_call 188;(with_reducible refine(CK.out _ H3.out).mono ?_);rintro e' w4 ⟨rfl,k4⟩;have k4:Bel _ w4:=k4;have H4:=Lib.hid (H3.out.belw k4);clear k4))
     go_ret;exact⟨by rw [V.out];(first|rfl|(simp;done)),H4.out.bel⟩
    | false=>
     have V:=Lib.hid (show F-2=2 by rw [VV.out];simp);generalize F-2=R at V;clear VV
     go_enter Tryz.func153,Tryz.ntmps153
     obtain⟨x0,x1,x2,x3,x4,x5,x6,x7,x8,x9,x10,x11,x12,x13,x14,x15⟩:=KS.out _ HS.out
     go_wp2_with (first
      | (go_at_call 186;(with_reducible refine(CE.out _ HS.out).mono ?_);rintro e' w1 ⟨rfl,k1⟩;have k1:Bel _ w1:=k1;have H1:=Lib.hid (HS.out.belw k1);clear k1;(try clear x0 x1 x2 x3 x4 x5 x6 x7 x8 x9 x10 x11 x12 x13 x14 x15);obtain⟨x0,x1,x2,x3,x4,x5,x6,x7,x8,x9,x10,x11,x12,x13,x14,x15⟩:=KS.out _ H1.out)
      | (go_at_call 187;(with_reducible refine(C1.out _ H1.out).mono ?_);rintro e' w2 ⟨rfl,k2⟩;have k2:Bel _ w2:=k2;have H2:=Lib.hid (H1.out.belw k2);clear k2;(try clear x0 x1 x2 x3 x4 x5 x6 x7 x8 x9 x10 x11 x12 x13 x14 x15);obtain⟨x0,x1,x2,x3,x4,x5,x6,x7,x8,x9,x10,x11,x12,x13,x14,x15⟩:=KS.out _ H2.out)
      | (go_at_call 187;(with_reducible refine(C1.out _ H2.out).mono ?_);rintro e' w3 ⟨rfl,k3⟩;have k3:Bel _ w3:=k3;have H3:=Lib.hid (H2.out.belw k3);clear k3;(try clear x0 x1 x2 x3 x4 x5 x6 x7 x8 x9 x10 x11 x12 x13 x14 x15);obtain⟨x0,x1,x2,x3,x4,x5,x6,x7,x8,x9,x10,x11,x12,x13,x14,x15⟩:=KS.out _ H3.out))
     go_ret;exact⟨by rw [V.out];(first|rfl|(simp;done)),H3.out.bel⟩
   | false=>
    have V:=Lib.hid (show F-2=2 by rw [VV.out];simp);generalize F-2=R at V;clear VV
    go_enter Tryz.func153,Tryz.ntmps153
    obtain⟨x0,x1,x2,x3,x4,x5,x6,x7,x8,x9,x10,x11,x12,x13,x14,x15⟩:=KS.out _ HS.out
    go_wp2_with (first
     | (go_at_call 186;(with_reducible refine(CE.out _ HS.out).mono ?_);rintro e' w1 ⟨rfl,k1⟩;have k1:Bel _ w1:=k1;have H1:=Lib.hid (HS.out.belw k1);clear k1;(try clear x0 x1 x2 x3 x4 x5 x6 x7 x8 x9 x10 x11 x12 x13 x14 x15);obtain⟨x0,x1,x2,x3,x4,x5,x6,x7,x8,x9,x10,x11,x12,x13,x14,x15⟩:=KS.out _ H1.out)
     | (go_at_call 187;(with_reducible refine(C1.out _ H1.out).mono ?_);rintro e' w2 ⟨rfl,k2⟩;have k2:Bel _ w2:=k2;have H2:=Lib.hid (H1.out.belw k2);clear k2;(try clear x0 x1 x2 x3 x4 x5 x6 x7 x8 x9 x10 x11 x12 x13 x14 x15);obtain⟨x0,x1,x2,x3,x4,x5,x6,x7,x8,x9,x10,x11,x12,x13,x14,x15⟩:=KS.out _ H2.out)
     | (go_at_call 187;(with_reducible refine(C1.out _ H2.out).mono ?_);rintro e' w3 ⟨rfl,k3⟩;have k3:Bel _ w3:=k3;have H3:=Lib.hid (H2.out.belw k3);clear k3;(try clear x0 x1 x2 x3 x4 x5 x6 x7 x8 x9 x10 x11 x12 x13 x14 x15);obtain⟨x0,x1,x2,x3,x4,x5,x6,x7,x8,x9,x10,x11,x12,x13,x14,x15⟩:=KS.out _ H3.out))
    go_ret;exact⟨by rw [V.out];(first|rfl|(simp;done)),H3.out.bel⟩
end Go.Proofs.YtgpjhibdongmbaaGreatDoor
