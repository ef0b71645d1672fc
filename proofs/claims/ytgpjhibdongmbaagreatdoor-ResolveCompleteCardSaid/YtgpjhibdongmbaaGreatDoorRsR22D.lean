import Derived.Test.YtgpjhibdongmbaaGreatDoorRsR22C
set_option maxRecDepth 100000
set_option maxHeartbeats 4000000
set_option linter.unusedVariables false
set_option linter.unusedSimpArgs false
namespace Go.Proofs.YtgpjhibdongmbaaGreatDoor
open Go.RowKit Ck Rs
theorem qls (p:PPlan) (q1 q2:Option Addr) (c1 c2:Nat) (o:POp) (w:World) (hv:VPlan w [.slice q1 p.progs.length c1,.slice q2 p.enums.length c2] p) (hvo:True) :
  Calls Tryz.prog 109 #[.agg #[.slice q1 p.progs.length c1,.slice q2 p.enums.length c2],.agg #[.int .i64 o.num,.string (S o.name),.string (S o.ali),.int .i64 o.card,.int .i64 o.key,.int .i64 o.kind,.int .i64 o.tgt,.int .i64 o.un]] w fun e' w'=>e'=.returned (.bool (qai p o))/\Bel w w':=by
 have hS0:=((ST.start w).addbox #[.slice q1 p.progs.length c1,.slice q2 p.enums.length c2] 25).addbox #[.int .i64 o.num,.string (S o.name),.string (S o.ali),.int .i64 o.card,.int .i64 o.key,.int .i64 o.kind,.int .i64 o.tgt,.int .i64 o.un] 54;simp only [World.size_alloc]at hS0;by_cases h10:o.kind=10
 ·have h10b:(o.kind == 10)=true:=by rw [h10];rfl
  by_cases a1:0<=o.tgt
  ·by_cases a2:o.tgt<(p.progs.length:Int)
   ·by_cases a3:o.card=3
    ·have a3b:(o.card != 3)=false:=by rw [a3];rfl
     have V:=Lib.hid (show qai p o=false by unfold qai;rw [if_pos h10];exact decide_eq_false (fun h=>h.2.2 a3));generalize qai p o=T at V;clear hv hvo
     (try clear h10)
     (try clear h9)
     (try clear hm)
     (try clear a3)
     go_enter Tryz.func109,Tryz.ntmps109
     go_wp2;go_ret
     exact⟨by rw [V.out];rfl,hS0.bel⟩
    ·have a3b:(o.card != 3)=true:=bne_iff_ne.2 a3
     have V:=Lib.hid (show qai p o=true by unfold qai;rw [if_pos h10];exact decide_eq_true ⟨a1,a2,a3⟩);generalize qai p o=T at V;clear hv hvo
     (try clear h10)
     (try clear h9)
     (try clear hm)
     (try clear a3)
     go_enter Tryz.func109,Tryz.ntmps109
     go_wp2;go_ret
     exact⟨by rw [V.out];rfl,hS0.bel⟩
   ·have V:=Lib.hid (show qai p o=false by unfold qai;rw [if_pos h10];exact decide_eq_false (fun h=>a2 h.2.1))
    generalize qai p o=T at V;clear hv hvo
    (try clear h10)
    (try clear h9)
    (try clear hm)
    (try clear a3)
    go_enter Tryz.func109,Tryz.ntmps109
    go_wp2;go_ret
    exact⟨by rw [V.out];rfl,hS0.bel⟩
  ·have V:=Lib.hid (show qai p o=false by unfold qai;rw [if_pos h10];exact decide_eq_false (fun h=>a1 h.1))
   generalize qai p o=T at V;clear hv hvo
   (try clear h10)
   (try clear h9)
   (try clear hm)
   (try clear a3)
   go_enter Tryz.func109,Tryz.ntmps109
   go_wp2;go_ret
   exact⟨by rw [V.out];rfl,hS0.bel⟩
 ·have h10b:(o.kind == 10)=false:=beq_eq_false_iff_ne.2 h10
  by_cases h9:o.kind=9
  ·have h9b:(o.kind == 9)=true:=by rw [h9];rfl
   by_cases a1:0<=o.tgt
   ·by_cases a2:o.tgt<(p.enums.length:Int)
    ·have V:=Lib.hid (show qai p o=true by unfold qai;rw [if_neg h10,if_pos h9];exact decide_eq_true ⟨a1,a2⟩)
     generalize qai p o=T at V;clear hv hvo
     (try clear h10)
     (try clear h9)
     (try clear hm)
     (try clear a3)
     go_enter Tryz.func109,Tryz.ntmps109
     go_wp2;go_ret
     exact⟨by rw [V.out];rfl,hS0.bel⟩
    ·have V:=Lib.hid (show qai p o=false by unfold qai;rw [if_neg h10,if_pos h9];exact decide_eq_false (fun h=>a2 h.2))
     generalize qai p o=T at V;clear hv hvo
     (try clear h10)
     (try clear h9)
     (try clear hm)
     (try clear a3)
     go_enter Tryz.func109,Tryz.ntmps109
     go_wp2;go_ret
     exact⟨by rw [V.out];rfl,hS0.bel⟩
   ·have V:=Lib.hid (show qai p o=false by unfold qai;rw [if_neg h10,if_pos h9];exact decide_eq_false (fun h=>a1 h.1))
    generalize qai p o=T at V;clear hv hvo
    (try clear h10)
    (try clear h9)
    (try clear hm)
    (try clear a3)
    go_enter Tryz.func109,Tryz.ntmps109
    go_wp2;go_ret
    exact⟨by rw [V.out];rfl,hS0.bel⟩
  ·have h9b:(o.kind == 9)=false:=beq_eq_false_iff_ne.2 h9
   by_cases hm:o.tgt = -1
   ·have hmb:(o.tgt == (-1))=true:=by rw [hm];rfl
    have V:=Lib.hid (show qai p o=true by unfold qai;rw [if_neg h10,if_neg h9];exact decide_eq_true hm);generalize qai p o=T at V;clear hv hvo
    (try clear h10)
    (try clear h9)
    (try clear hm)
    (try clear a3)
    go_enter Tryz.func109,Tryz.ntmps109
    go_wp2;go_ret
    exact⟨by rw [V.out];rfl,hS0.bel⟩
   ·have hmb:(o.tgt == (-1))=false:=beq_eq_false_iff_ne.2 hm
    have V:=Lib.hid (show qai p o=false by unfold qai;rw [if_neg h10,if_neg h9];exact decide_eq_false hm);generalize qai p o=T at V;clear hv hvo
    (try clear h10)
    (try clear h9)
    (try clear hm)
    (try clear a3)
    go_enter Tryz.func109,Tryz.ntmps109
    go_wp2;go_ret
    exact⟨by rw [V.out];rfl,hS0.bel⟩
theorem qkc {p:PPlan} {o:POp} (h : ¬(Utf.bad o.ali<0/\o.ali.length<=4096/\1<=o.card/\o.card<=5/\1<=o.kind/\o.kind<=10)):qa4 p o=false:=by
 unfold qa4;rw [decide_eq_false h,Bool.false_and]
theorem qiw {p:PPlan} {o:POp} (h:keyed o.card o.key=false):qa4 p o=false:=by
 unfold qa4;rw [h,Bool.false_and,Bool.and_false]
theorem qe3 {p:PPlan} {o:POp} (h:Utf.bad o.ali<0/\o.ali.length<=4096/\1<=o.card/\o.card<=5/\1<=o.kind/\o.kind<=10) (hk:keyed o.card o.key=true):qa4 p o=(qai p o && decide (o.un = -1 ∨ o.card=2)):=by
 unfold qa4;rw [decide_eq_true h,hk];rfl
theorem key_5 {c k:Int} (h:c=5):keyed c k=decide (1<=k/\k<=7/\k ≠ 6):=by
 unfold keyed;rw [if_neg (by omega)]
theorem key_0 {c k:Int} (h:c ≠ 5):keyed c k=decide (k=0):=by
 unfold keyed;rw [if_pos h]
theorem qgb (p:PPlan) (q1 q2:Option Addr) (c1 c2:Nat) (o:POp) (w:World) (hv:VPlan w [.slice q1 p.progs.length c1,.slice q2 p.enums.length c2] p) (hl:o.ali.length<=300) :
  Calls Tryz.prog 82 #[.agg #[.slice q1 p.progs.length c1,.slice q2 p.enums.length c2],.agg #[.int .i64 o.num,.string (S o.name),.string (S o.ali),.int .i64 o.card,.int .i64 o.key,.int .i64 o.kind,.int .i64 o.tgt,.int .i64 o.un]] w fun e' w'=>e'=.returned (.bool (qa4 p o))/\Bel w w':=by
 have hS0:=((ST.start w).addbox #[.slice q1 p.progs.length c1,.slice q2 p.enums.length c2] 25).addbox #[.int .i64 o.num,.string (S o.name),.string (S o.ali),.int .i64 o.card,.int .i64 o.key,.int .i64 o.kind,.int .i64 o.tgt,.int .i64 o.un] 54;simp only [World.size_alloc]at hS0;have HS:=Lib.hid hS0;have CT:=(fun WW (T:ST w [] [⟨w.heap.size+1,#[.int .i64 o.num,.string (S o.name),.string (S o.ali),.int .i64 o.card,.int .i64 o.key,.int .i64 o.kind,.int .i64 o.tgt,.int .i64 o.un],54⟩,⟨w.heap.size,#[.slice q1 p.progs.length c1,.slice q2 p.enums.length c2],25⟩] WW)=>qls p q1 q2 c1 c2 o WW (VPlan.stays _ _ _ _ T.bel hv) trivial);have CV:=(fun WW=>qha (S o.ali) o.ali WW (qc2 o.ali) (by rw [qaj];omega));have hlt:(S o.ali).size<=4096:=by rw [qaj];omega
 have z1 : ¬(4096:Int)<((S o.ali).size:Int):=by omega
 have z2:decide (4096<(S o.ali).size)=false:=decide_eq_false (by omega);clear hS0;by_cases b0:Utf.bad o.ali<0
 ·rw [decide_eq_true b0]at CV
  have CV:=Lib.hid CV;by_cases g1:o.card<1
  ·have BG:=Lib.hid trivial
   have CT:=Lib.hid CT;have V:=Lib.hid (show qa4 p o=false from qkc (fun h=>by omega));generalize qa4 p o=T at V;clear hv hl hlt BG 
   (try clear d5)
   (try clear m7)
   (try clear m0)
   go_enter Tryz.func82,Tryz.ntmps82
   go_wp2_with (first
    | (go_at_call 108;(with_reducible refine(CV.out _).mono ?_);rintro e w1 ⟨rfl,rfl⟩)
    | (go_at_call 109;(with_reducible refine(CT.out _ HS.out).mono ?_);rintro e w2 ⟨rfl,k2⟩;have k2:Bel _ w2:=k2;have hS2:=HS.out.belw k2;have x7:=hS2.cell 0 rfl 7;have x3:=hS2.cell 0 rfl 3;dsimp only at x7 x3))
   go_ret;exact⟨by rw [V.out];rfl,HS.out.bel⟩
  ·by_cases g2:5<o.card
   ·have BG:=Lib.hid trivial
    have CT:=Lib.hid CT;have V:=Lib.hid (show qa4 p o=false from qkc (fun h=>by omega));generalize qa4 p o=T at V;clear hv hl hlt BG 
    (try clear d5)
    (try clear m7)
    (try clear m0)
    go_enter Tryz.func82,Tryz.ntmps82
    go_wp2_with (first
     | (go_at_call 108;(with_reducible refine(CV.out _).mono ?_);rintro e w1 ⟨rfl,rfl⟩)
     | (go_at_call 109;(with_reducible refine(CT.out _ HS.out).mono ?_);rintro e w2 ⟨rfl,k2⟩;have k2:Bel _ w2:=k2;have hS2:=HS.out.belw k2;have x7:=hS2.cell 0 rfl 7;have x3:=hS2.cell 0 rfl 3;dsimp only at x7 x3))
    go_ret;exact⟨by rw [V.out];rfl,HS.out.bel⟩
   ·by_cases g3:o.kind<1
    ·have BG:=Lib.hid trivial
     have CT:=Lib.hid CT;have V:=Lib.hid (show qa4 p o=false from qkc (fun h=>by omega));generalize qa4 p o=T at V;clear hv hl hlt BG 
     (try clear d5)
     (try clear m7)
     (try clear m0)
     go_enter Tryz.func82,Tryz.ntmps82
     go_wp2_with (first
      | (go_at_call 108;(with_reducible refine(CV.out _).mono ?_);rintro e w1 ⟨rfl,rfl⟩)
      | (go_at_call 109;(with_reducible refine(CT.out _ HS.out).mono ?_);rintro e w2 ⟨rfl,k2⟩;have k2:Bel _ w2:=k2;have hS2:=HS.out.belw k2;have x7:=hS2.cell 0 rfl 7;have x3:=hS2.cell 0 rfl 3;dsimp only at x7 x3))
     go_ret;exact⟨by rw [V.out];rfl,HS.out.bel⟩
    ·by_cases g4:10<o.kind
     ·have BG:=Lib.hid trivial
      have CT:=Lib.hid CT;have V:=Lib.hid (show qa4 p o=false from qkc (fun h=>by omega));generalize qa4 p o=T at V;clear hv hl hlt BG 
      (try clear d5)
      (try clear m7)
      (try clear m0)
      go_enter Tryz.func82,Tryz.ntmps82
      go_wp2_with (first
       | (go_at_call 108;(with_reducible refine(CV.out _).mono ?_);rintro e w1 ⟨rfl,rfl⟩)
       | (go_at_call 109;(with_reducible refine(CT.out _ HS.out).mono ?_);rintro e w2 ⟨rfl,k2⟩;have k2:Bel _ w2:=k2;have hS2:=HS.out.belw k2;have x7:=hS2.cell 0 rfl 7;have x3:=hS2.cell 0 rfl 3;dsimp only at x7 x3))
      go_ret;exact⟨by rw [V.out];rfl,HS.out.bel⟩
     ·have BG:=Lib.hid (show Utf.bad o.ali<0/\o.ali.length<=4096/\1<=o.card/\o.card<=5/\1<=o.kind/\o.kind<=10 from⟨b0,by omega,by omega,by omega,by omega,by omega⟩)
      by_cases d5:o.card=5
      ·have d5b:(o.card != 5)=false:=by rw [d5];rfl
       by_cases m1:1<=o.key
       ·by_cases m5:o.key<=5
        ·by_cases TGC:qai p o=true
         ·have hTG:qai p o=true:=TGC
          rw [hTG]at CT;have CT:=Lib.hid CT;by_cases u1:o.un = -1
          ·have u1b:(o.un == (-1))=true:=by rw [u1];rfl
           have V:=Lib.hid (show qa4 p o=true from by rw [(qe3 BG.out (by rw [key_5 d5];exact decide_eq_true (by omega))),hTG];exact decide_eq_true (.inl u1));generalize qa4 p o=T at V;clear hv hl hlt BG hTG u1 TGC
           (try clear d5)
           (try clear m7)
           (try clear m0)
           go_enter Tryz.func82,Tryz.ntmps82
           go_wp2_with (first
            | (go_at_call 108;(with_reducible refine(CV.out _).mono ?_);rintro e w1 ⟨rfl,rfl⟩)
            | (go_at_call 109;(with_reducible refine(CT.out _ HS.out).mono ?_);rintro e w2 ⟨rfl,k2⟩;have k2:Bel _ w2:=k2;have hS2:=HS.out.belw k2;have x7:=hS2.cell 0 rfl 7;have x3:=hS2.cell 0 rfl 3;dsimp only at x7 x3))
           go_ret;exact⟨by rw [V.out];rfl,hS2.bel⟩
          ·have u1b:(o.un == (-1))=false:=beq_eq_false_iff_ne.2 u1
           have d2b:(o.card == 2)=false:=beq_eq_false_iff_ne.2 (by omega);have V:=Lib.hid (show qa4 p o=false from by rw [(qe3 BG.out (by rw [key_5 d5];exact decide_eq_true (by omega))),hTG];exact decide_eq_false (fun h=>h.elim u1 (fun h=>by omega)));generalize qa4 p o=T at V;clear hv hl hlt BG hTG TGC
           (try clear d5)
           (try clear m7)
           (try clear m0)
           go_enter Tryz.func82,Tryz.ntmps82
           go_wp2_with (first
            | (go_at_call 108;(with_reducible refine(CV.out _).mono ?_);rintro e w1 ⟨rfl,rfl⟩)
            | (go_at_call 109;(with_reducible refine(CT.out _ HS.out).mono ?_);rintro e w2 ⟨rfl,k2⟩;have k2:Bel _ w2:=k2;have hS2:=HS.out.belw k2;have x7:=hS2.cell 0 rfl 7;have x3:=hS2.cell 0 rfl 3;dsimp only at x7 x3))
           go_ret;exact⟨by rw [V.out];rfl,hS2.bel⟩
         ·have hTG:qai p o=false:=eq_false_of_ne_true TGC
          rw [hTG]at CT;have CT:=Lib.hid CT;have V:=Lib.hid (show qa4 p o=false from by rw [(qe3 BG.out (by rw [key_5 d5];exact decide_eq_true (by omega))),hTG];rfl);generalize qa4 p o=T at V;clear hv hl hlt BG hTG TGC
          (try clear d5)
          (try clear m7)
          (try clear m0)
          go_enter Tryz.func82,Tryz.ntmps82
          go_wp2_with (first
           | (go_at_call 108;(with_reducible refine(CV.out _).mono ?_);rintro e w1 ⟨rfl,rfl⟩)
           | (go_at_call 109;(with_reducible refine(CT.out _ HS.out).mono ?_);rintro e w2 ⟨rfl,k2⟩;have k2:Bel _ w2:=k2;have hS2:=HS.out.belw k2;have x7:=hS2.cell 0 rfl 7;have x3:=hS2.cell 0 rfl 3;dsimp only at x7 x3))
          go_ret;exact⟨by rw [V.out];rfl,hS2.bel⟩
        ·by_cases m7:o.key=7
         ·have m7b:(o.key == 7)=true:=by rw [m7];rfl
          by_cases TGC:qai p o=true
          ·have hTG:qai p o=true:=TGC
           rw [hTG]at CT;have CT:=Lib.hid CT;by_cases u1:o.un = -1
           ·have u1b:(o.un == (-1))=true:=by rw [u1];rfl
            have V:=Lib.hid (show qa4 p o=true from by rw [(qe3 BG.out (by rw [key_5 d5];exact decide_eq_true (by omega))),hTG];exact decide_eq_true (.inl u1));generalize qa4 p o=T at V;clear hv hl hlt BG hTG u1 TGC
            (try clear d5)
            (try clear m7)
            (try clear m0)
            go_enter Tryz.func82,Tryz.ntmps82
            go_wp2_with (first
             | (go_at_call 108;(with_reducible refine(CV.out _).mono ?_);rintro e w1 ⟨rfl,rfl⟩)
             | (go_at_call 109;(with_reducible refine(CT.out _ HS.out).mono ?_);rintro e w2 ⟨rfl,k2⟩;have k2:Bel _ w2:=k2;have hS2:=HS.out.belw k2;have x7:=hS2.cell 0 rfl 7;have x3:=hS2.cell 0 rfl 3;dsimp only at x7 x3))
            go_ret;exact⟨by rw [V.out];rfl,hS2.bel⟩
           ·have u1b:(o.un == (-1))=false:=beq_eq_false_iff_ne.2 u1
            have d2b:(o.card == 2)=false:=beq_eq_false_iff_ne.2 (by omega);have V:=Lib.hid (show qa4 p o=false from by rw [(qe3 BG.out (by rw [key_5 d5];exact decide_eq_true (by omega))),hTG];exact decide_eq_false (fun h=>h.elim u1 (fun h=>by omega)));generalize qa4 p o=T at V;clear hv hl hlt BG hTG TGC
            (try clear d5)
            (try clear m7)
            (try clear m0)
            go_enter Tryz.func82,Tryz.ntmps82
            go_wp2_with (first
             | (go_at_call 108;(with_reducible refine(CV.out _).mono ?_);rintro e w1 ⟨rfl,rfl⟩)
             | (go_at_call 109;(with_reducible refine(CT.out _ HS.out).mono ?_);rintro e w2 ⟨rfl,k2⟩;have k2:Bel _ w2:=k2;have hS2:=HS.out.belw k2;have x7:=hS2.cell 0 rfl 7;have x3:=hS2.cell 0 rfl 3;dsimp only at x7 x3))
            go_ret;exact⟨by rw [V.out];rfl,hS2.bel⟩
          ·have hTG:qai p o=false:=eq_false_of_ne_true TGC
           rw [hTG]at CT;have CT:=Lib.hid CT;have V:=Lib.hid (show qa4 p o=false from by rw [(qe3 BG.out (by rw [key_5 d5];exact decide_eq_true (by omega))),hTG];rfl);generalize qa4 p o=T at V;clear hv hl hlt BG hTG TGC
           (try clear d5)
           (try clear m7)
           (try clear m0)
           go_enter Tryz.func82,Tryz.ntmps82
           go_wp2_with (first
            | (go_at_call 108;(with_reducible refine(CV.out _).mono ?_);rintro e w1 ⟨rfl,rfl⟩)
            | (go_at_call 109;(with_reducible refine(CT.out _ HS.out).mono ?_);rintro e w2 ⟨rfl,k2⟩;have k2:Bel _ w2:=k2;have hS2:=HS.out.belw k2;have x7:=hS2.cell 0 rfl 7;have x3:=hS2.cell 0 rfl 3;dsimp only at x7 x3))
           go_ret;exact⟨by rw [V.out];rfl,hS2.bel⟩
         ·have m7b:(o.key == 7)=false:=beq_eq_false_iff_ne.2 m7
          have V:=Lib.hid (show qa4 p o=false from qiw (by rw [key_5 d5];exact decide_eq_false (fun h=>by omega)));generalize qa4 p o=T at V;clear hv hl hlt BG 
          (try clear d5)
          (try clear m7)
          (try clear m0)
          go_enter Tryz.func82,Tryz.ntmps82
          go_wp2_with (first
           | (go_at_call 108;(with_reducible refine(CV.out _).mono ?_);rintro e w1 ⟨rfl,rfl⟩)
           | (go_at_call 109;(with_reducible refine(CT.out _ HS.out).mono ?_);rintro e w2 ⟨rfl,k2⟩;have k2:Bel _ w2:=k2;have hS2:=HS.out.belw k2;have x7:=hS2.cell 0 rfl 7;have x3:=hS2.cell 0 rfl 3;dsimp only at x7 x3))
          go_ret;exact⟨by rw [V.out];rfl,HS.out.bel⟩
       ·have m7b:(o.key == 7)=false:=beq_eq_false_iff_ne.2 (by omega)
        have V:=Lib.hid (show qa4 p o=false from qiw (by rw [key_5 d5];exact decide_eq_false (fun h=>by omega)));generalize qa4 p o=T at V;clear hv hl hlt BG 
        (try clear d5)
        (try clear m7)
        (try clear m0)
        go_enter Tryz.func82,Tryz.ntmps82
        go_wp2_with (first
         | (go_at_call 108;(with_reducible refine(CV.out _).mono ?_);rintro e w1 ⟨rfl,rfl⟩)
         | (go_at_call 109;(with_reducible refine(CT.out _ HS.out).mono ?_);rintro e w2 ⟨rfl,k2⟩;have k2:Bel _ w2:=k2;have hS2:=HS.out.belw k2;have x7:=hS2.cell 0 rfl 7;have x3:=hS2.cell 0 rfl 3;dsimp only at x7 x3))
        go_ret;exact⟨by rw [V.out];rfl,HS.out.bel⟩
      ·have d5b:(o.card != 5)=true:=bne_iff_ne.2 d5
       by_cases m0:o.key=0
       ·have m0b:(o.key == 0)=true:=by rw [m0];rfl
        have m1 : ¬ 1<=o.key:=by omega
        have m7b:(o.key == 7)=false:=beq_eq_false_iff_ne.2 (by omega);by_cases TGC:qai p o=true
        ·have hTG:qai p o=true:=TGC
         rw [hTG]at CT;have CT:=Lib.hid CT;by_cases u1:o.un = -1
         ·have u1b:(o.un == (-1))=true:=by rw [u1];rfl
          have V:=Lib.hid (show qa4 p o=true from by rw [(qe3 BG.out (by rw [key_0 d5];exact decide_eq_true m0)),hTG];exact decide_eq_true (.inl u1));generalize qa4 p o=T at V;clear hv hl hlt BG hTG u1 TGC
          (try clear d5)
          (try clear m7)
          (try clear m0)
          go_enter Tryz.func82,Tryz.ntmps82
          go_wp2_with (first
           | (go_at_call 108;(with_reducible refine(CV.out _).mono ?_);rintro e w1 ⟨rfl,rfl⟩)
           | (go_at_call 109;(with_reducible refine(CT.out _ HS.out).mono ?_);rintro e w2 ⟨rfl,k2⟩;have k2:Bel _ w2:=k2;have hS2:=HS.out.belw k2;have x7:=hS2.cell 0 rfl 7;have x3:=hS2.cell 0 rfl 3;dsimp only at x7 x3))
          go_ret;exact⟨by rw [V.out];rfl,hS2.bel⟩
         ·have u1b:(o.un == (-1))=false:=beq_eq_false_iff_ne.2 u1
          by_cases d2:o.card=2
          ·have d2b:(o.card == 2)=true:=by rw [d2];rfl
           have V:=Lib.hid (show qa4 p o=true from by rw [(qe3 BG.out (by rw [key_0 d5];exact decide_eq_true m0)),hTG];exact decide_eq_true (.inr d2));generalize qa4 p o=T at V;clear hv hl hlt BG hTG d2 TGC
           (try clear d5)
           (try clear m7)
           (try clear m0)
           go_enter Tryz.func82,Tryz.ntmps82
           go_wp2_with (first
            | (go_at_call 108;(with_reducible refine(CV.out _).mono ?_);rintro e w1 ⟨rfl,rfl⟩)
            | (go_at_call 109;(with_reducible refine(CT.out _ HS.out).mono ?_);rintro e w2 ⟨rfl,k2⟩;have k2:Bel _ w2:=k2;have hS2:=HS.out.belw k2;have x7:=hS2.cell 0 rfl 7;have x3:=hS2.cell 0 rfl 3;dsimp only at x7 x3))
           go_ret;exact⟨by rw [V.out];rfl,hS2.bel⟩
          ·have d2b:(o.card == 2)=false:=beq_eq_false_iff_ne.2 d2
           have V:=Lib.hid (show qa4 p o=false from by rw [(qe3 BG.out (by rw [key_0 d5];exact decide_eq_true m0)),hTG];exact decide_eq_false (fun h=>h.elim u1 d2));generalize qa4 p o=T at V;clear hv hl hlt BG hTG TGC
           (try clear d5)
           (try clear m7)
           (try clear m0)
           go_enter Tryz.func82,Tryz.ntmps82
           go_wp2_with (first
            | (go_at_call 108;(with_reducible refine(CV.out _).mono ?_);rintro e w1 ⟨rfl,rfl⟩)
            | (go_at_call 109;(with_reducible refine(CT.out _ HS.out).mono ?_);rintro e w2 ⟨rfl,k2⟩;have k2:Bel _ w2:=k2;have hS2:=HS.out.belw k2;have x7:=hS2.cell 0 rfl 7;have x3:=hS2.cell 0 rfl 3;dsimp only at x7 x3))
           go_ret;exact⟨by rw [V.out];rfl,hS2.bel⟩
        ·have hTG:qai p o=false:=eq_false_of_ne_true TGC
         rw [hTG]at CT;have CT:=Lib.hid CT;have V:=Lib.hid (show qa4 p o=false from by rw [(qe3 BG.out (by rw [key_0 d5];exact decide_eq_true m0)),hTG];rfl);generalize qa4 p o=T at V;clear hv hl hlt BG hTG TGC
         (try clear d5)
         (try clear m7)
         (try clear m0)
         go_enter Tryz.func82,Tryz.ntmps82
         go_wp2_with (first
          | (go_at_call 108;(with_reducible refine(CV.out _).mono ?_);rintro e w1 ⟨rfl,rfl⟩)
          | (go_at_call 109;(with_reducible refine(CT.out _ HS.out).mono ?_);rintro e w2 ⟨rfl,k2⟩;have k2:Bel _ w2:=k2;have hS2:=HS.out.belw k2;have x7:=hS2.cell 0 rfl 7;have x3:=hS2.cell 0 rfl 3;dsimp only at x7 x3))
         go_ret;exact⟨by rw [V.out];rfl,hS2.bel⟩
       ·have m0b:(o.key == 0)=false:=beq_eq_false_iff_ne.2 m0
        by_cases m1:1<=o.key
        ·by_cases m5:o.key<=5
         ·have V:=Lib.hid (show qa4 p o=false from qiw (by rw [key_0 d5];exact decide_eq_false (fun h=>by omega)))
          generalize qa4 p o=T at V;clear hv hl hlt BG 
          (try clear d5)
          (try clear m7)
          (try clear m0)
          go_enter Tryz.func82,Tryz.ntmps82
          go_wp2_with (first
           | (go_at_call 108;(with_reducible refine(CV.out _).mono ?_);rintro e w1 ⟨rfl,rfl⟩)
           | (go_at_call 109;(with_reducible refine(CT.out _ HS.out).mono ?_);rintro e w2 ⟨rfl,k2⟩;have k2:Bel _ w2:=k2;have hS2:=HS.out.belw k2;have x7:=hS2.cell 0 rfl 7;have x3:=hS2.cell 0 rfl 3;dsimp only at x7 x3))
          go_ret;exact⟨by rw [V.out];rfl,HS.out.bel⟩
         ·by_cases m7:o.key=7
          ·have m7b:(o.key == 7)=true:=by rw [m7];rfl
           have V:=Lib.hid (show qa4 p o=false from qiw (by rw [key_0 d5];exact decide_eq_false (fun h=>by omega)));generalize qa4 p o=T at V;clear hv hl hlt BG m7
           (try clear d5)
           (try clear m7)
           (try clear m0)
           go_enter Tryz.func82,Tryz.ntmps82
           go_wp2_with (first
            | (go_at_call 108;(with_reducible refine(CV.out _).mono ?_);rintro e w1 ⟨rfl,rfl⟩)
            | (go_at_call 109;(with_reducible refine(CT.out _ HS.out).mono ?_);rintro e w2 ⟨rfl,k2⟩;have k2:Bel _ w2:=k2;have hS2:=HS.out.belw k2;have x7:=hS2.cell 0 rfl 7;have x3:=hS2.cell 0 rfl 3;dsimp only at x7 x3))
           go_ret;exact⟨by rw [V.out];rfl,HS.out.bel⟩
          ·have m7b:(o.key == 7)=false:=beq_eq_false_iff_ne.2 m7
           have V:=Lib.hid (show qa4 p o=false from qiw (by rw [key_0 d5];exact decide_eq_false (fun h=>by omega)));generalize qa4 p o=T at V;clear hv hl hlt BG 
           (try clear d5)
           (try clear m7)
           (try clear m0)
           go_enter Tryz.func82,Tryz.ntmps82
           go_wp2_with (first
            | (go_at_call 108;(with_reducible refine(CV.out _).mono ?_);rintro e w1 ⟨rfl,rfl⟩)
            | (go_at_call 109;(with_reducible refine(CT.out _ HS.out).mono ?_);rintro e w2 ⟨rfl,k2⟩;have k2:Bel _ w2:=k2;have hS2:=HS.out.belw k2;have x7:=hS2.cell 0 rfl 7;have x3:=hS2.cell 0 rfl 3;dsimp only at x7 x3))
           go_ret;exact⟨by rw [V.out];rfl,HS.out.bel⟩
        ·have m7b:(o.key == 7)=false:=beq_eq_false_iff_ne.2 (by omega)
         have V:=Lib.hid (show qa4 p o=false from qiw (by rw [key_0 d5];exact decide_eq_false (fun h=>by omega)));generalize qa4 p o=T at V;clear hv hl hlt BG 
         (try clear d5)
         (try clear m7)
         (try clear m0)
         go_enter Tryz.func82,Tryz.ntmps82
         go_wp2_with (first
          | (go_at_call 108;(with_reducible refine(CV.out _).mono ?_);rintro e w1 ⟨rfl,rfl⟩)
          | (go_at_call 109;(with_reducible refine(CT.out _ HS.out).mono ?_);rintro e w2 ⟨rfl,k2⟩;have k2:Bel _ w2:=k2;have hS2:=HS.out.belw k2;have x7:=hS2.cell 0 rfl 7;have x3:=hS2.cell 0 rfl 3;dsimp only at x7 x3))
         go_ret;exact⟨by rw [V.out];rfl,HS.out.bel⟩
 ·rw [decide_eq_false b0]at CV
  have CV:=Lib.hid CV;have BG:=Lib.hid trivial;have CT:=Lib.hid CT;have V:=Lib.hid (show qa4 p o=false from qkc (fun h=>b0 h.1));generalize qa4 p o=T at V;clear hv hl hlt BG 
  (try clear d5)
  (try clear m7)
  (try clear m0)
  go_enter Tryz.func82,Tryz.ntmps82
  go_wp2_with (first
   | (go_at_call 108;(with_reducible refine(CV.out _).mono ?_);rintro e w1 ⟨rfl,rfl⟩)
   | (go_at_call 109;(with_reducible refine(CT.out _ HS.out).mono ?_);rintro e w2 ⟨rfl,k2⟩;have k2:Bel _ w2:=k2;have hS2:=HS.out.belw k2;have x7:=hS2.cell 0 rfl 7;have x3:=hS2.cell 0 rfl 3;dsimp only at x7 x3))
  go_ret;exact⟨by rw [V.out];rfl,HS.out.bel⟩
end Go.Proofs.YtgpjhibdongmbaaGreatDoor
