import Derived.Test.YtgpjhibdongmbaaGreatDoorPrRef2
import Derived.StillTailTactics
import Derived.Test.YtgpjhibdongmbaaGreatDoorCkFinder
import Derived.Test.YtgpjhibdongmbaaGreatDoorIdRef1
import Derived.Deep.DeepCutAuto
set_option maxRecDepth 100000
set_option maxHeartbeats 4000000
set_option linter.unusedVariables false
set_option linter.unusedSimpArgs false
namespace Go.Proofs.YtgpjhibdongmbaaGreatDoor
section
open Go.RowKit
theorem qj6 (kind k:Int) (x:Int) (t:ByteArray) (p1 p2 p3 p4:Option Addr) (n1 n2 n3 n4 q1 q2 q3 q4:Nat) (w:World) (h0:0<=x) (h1:x<18446744073709551616) (b1:n1<=140737488355328) (b2:n2<=140737488355328) (b3:n3<=140737488355328) (b4:n4<=140737488355328) (hk:k ≠ kind):Calls Tryz.prog 95 #[.int .i64 kind,.agg #[.int .i64 k,.int .u64 x,.string t,.slice p1 n1 q1,.slice p2 n2 q2,.slice p3 n3 q3,.slice p4 n4 q4]] w fun e w'=>e=.returned (.bool (Pr.fitsB kind k x t.data.toList (n1+n2+n3+n4)))/\Below w.heap.size w w':=by
 have e:Pr.fitsB kind k x t.data.toList (n1+n2+n3+n4)=false:=by unfold Pr.fitsB;rw [decide_eq_false hk];simp
 rw [e];have hk':(k != kind)=true:=bne_iff_ne.2 hk;have c1:=Lib.hid (fun W=>r4_Is kind W);generalize Pr.isK kind=bi at c1;clear hk e
 go_enter Tryz.func95,Tryz.ntmps95
 go_wp2_with (first
  | (go_at_call 161;(with_reducible refine(c1.out _).mono ?_);rintro e w' ⟨rfl,rfl⟩))
 all_goals go_ret
 all_goals exact⟨rfl,by(repeat (first|(with_reducible exact Below.refl _ _)|(with_reducible refine Below.drew ?_)|(with_reducible refine Below.bal ?_ _)|(with_reducible refine Below.setCell ?_ (by simp) _)|(with_reducible refine Below.link (by assumption) ?_)))⟩
theorem qhu (k:Int) (x:Int) (t:ByteArray) (p1 p2 p3 p4:Option Addr) (n1 n2 n3 n4 q1 q2 q3 q4:Nat) (w:World) (hk:Pr.txt k=true) (c4:Hid (∀W:World,t.size<=4096->Calls Tryz.prog 108 #[.string t] W fun e w'=>e=.returned (.bool (decide (Utf.bad t.data.toList<0)))/\W=w')): Calls Tryz.prog 95 #[.int .i64 k,.agg #[.int .i64 k,.int .u64 x,.string t,.slice p1 n1 q1,.slice p2 n2 q2,.slice p3 n3 q3,.slice p4 n4 q4]] w fun e w'=>e=.returned (.bool (Pr.fitsB k k x t.data.toList (n1+n2+n3+n4)))/\Below w.heap.size w w':=by
 have hE:=Pr.fits_ref k x t.data.toList (n1+n2+n3+n4);rw [if_pos hk,len_l]at hE;have hE':=Lib.hid hE;have c1:=Lib.hid (fun W=>r4_Is k W);have c2:=Lib.hid (fun W=>r4_lone k x t p1 p2 p3 p4 n1 n2 n3 n4 q1 q2 q3 q4 W);have c3:=Lib.hid (fun W=>qj5 k W);rw [hk]at c3;clear hE hk;generalize Pr.fitsB k k x t.data.toList (n1+n2+n3+n4)=R at hE' ⊢;generalize decide (n1+n2+n3+n4=0)=bl at c2 hE';generalize Pr.isK k=bi at c1 hE';generalize decide (Utf.bad t.data.toList<0)=bv at c4 hE'
 go_enter Tryz.func95,Tryz.ntmps95
 go_wp2_with (first
  | (go_at_call 161;(with_reducible refine(c1.out _).mono ?_);rintro e w' ⟨rfl,rfl⟩)
  | (go_at_call 162;(with_reducible refine(c2.out _).mono ?_);rintro e w1 ⟨rfl,hb1⟩;obtain⟨hc1,hf1⟩:=bcell hb1;have hz1:=hb1.size;(try simp at hz1);(try have hx1:w.heap.size+1<w1.heap.size:=by omega);(try have hy1:w.heap.size<w1.heap.size:=by omega))
  | (go_at_call 163;(with_reducible refine(c3.out _).mono ?_);rintro e w' ⟨rfl,rfl⟩)
  | (go_at_call 108;(with_reducible refine(c4.out _ (by omega)).mono ?_);rintro e w' ⟨rfl,rfl⟩))
 all_goals go_ret
 all_goals refine⟨qa3 ?_,by(repeat (first|(with_reducible exact Below.refl _ _)|(with_reducible refine Below.drew ?_)|(with_reducible refine Below.bal ?_ _)|(with_reducible refine Below.setCell ?_ (by simp) _)|(with_reducible refine Below.link (by assumption) ?_)))⟩
 all_goals rw [hE'.out]
 all_goals (try simp only [beq_iff_eq,beq_eq_false_iff_ne,bne_iff_ne,bne_eq_false_iff_eq,ne_eq,Bool.not_eq_true]at *)
 all_goals simp_all
 all_goals (first|omega|(intros;omega)|(cases bv <;> simp_all <;> omega))
theorem qhv (k:Int) (x:Int) (t:ByteArray) (p1 p2 p3 p4:Option Addr) (n1 n2 n3 n4 q1 q2 q3 q4:Nat) (w:World) (h0:0<=x) (h1:x<18446744073709551616) (hk:Pr.txt k=false):Calls Tryz.prog 95 #[.int .i64 k,.agg #[.int .i64 k,.int .u64 x,.string t,.slice p1 n1 q1,.slice p2 n2 q2,.slice p3 n3 q3,.slice p4 n4 q4]] w fun e w'=>e=.returned (.bool (Pr.fitsB k k x t.data.toList (n1+n2+n3+n4)))/\Below w.heap.size w w':=by
 have hE:=Pr.fits_ref k x t.data.toList (n1+n2+n3+n4);rw [if_neg (by rw [hk];decide)]at hE;have hE':=Lib.hid hE;have c1:=Lib.hid (fun W=>r4_Is k W);have c2:=Lib.hid (fun W=>r4_lone k x t p1 p2 p3 p4 n1 n2 n3 n4 q1 q2 q3 q4 W);have c3:=Lib.hid (fun W=>qj5 k W);rw [hk]at c3;clear hE hk;have hw:=Lib.hid (qid x h0 h1);generalize Pr.fitsB k k x t.data.toList (n1+n2+n3+n4)=R at hE' ⊢;generalize decide (n1+n2+n3+n4=0)=bl at c2 hE';generalize Pr.isK k=bi at c1 hE';by_cases ht:t.data.toList=[]
 ·have ht1:t.toList=[]:=by rw [ByteArray.toList_eq];exact ht
  rw [decide_eq_true ht]at hE';clear ht
  go_enter Tryz.func95,Tryz.ntmps95
  go_wp2_with (first
   | (go_at_call 161;(with_reducible refine(c1.out _).mono ?_);rintro e w' ⟨rfl,rfl⟩)
   | (go_at_call 162;(with_reducible refine(c2.out _).mono ?_);rintro e w1 ⟨rfl,hb1⟩;obtain⟨hc1,hf1⟩:=bcell hb1;have hz1:=hb1.size;(try simp at hz1);(try have hx1:w.heap.size+1<w1.heap.size:=by omega);(try have hy1:w.heap.size<w1.heap.size:=by omega))
   | (go_at_call 163;(with_reducible refine(c3.out _).mono ?_);rintro e w' ⟨rfl,rfl⟩))
  all_goals go_ret
  all_goals refine⟨qa3 ?_,by(repeat (first|(with_reducible exact Below.refl _ _)|(with_reducible refine Below.drew ?_)|(with_reducible refine Below.bal ?_ _)|(with_reducible refine Below.setCell ?_ (by simp) _)|(with_reducible refine Below.link (by assumption) ?_)))⟩
  all_goals rw [hE'.out]
  all_goals (try simp only [beq_iff_eq,beq_eq_false_iff_ne,bne_iff_ne,bne_eq_false_iff_eq,ne_eq,Bool.not_eq_true]at *)
  all_goals (simp_all [Pr.withB])
  all_goals (have hw':=hw.out;first|omega|(rw [Bool.eq_iff_iff];simp;split at hw' <;> omega)|(split at hw' <;> omega))
 ·have ht1:t.toList ≠ []:=by rw [ByteArray.toList_eq];exact ht
  rw [decide_eq_false ht]at hE';have ht2:t.toList.isEmpty=false:=by rw [emp,decide_eq_false ht]
  clear ht
  go_enter Tryz.func95,Tryz.ntmps95
  go_wp2_with (first
   | (go_at_call 161;(with_reducible refine(c1.out _).mono ?_);rintro e w' ⟨rfl,rfl⟩)
   | (go_at_call 162;(with_reducible refine(c2.out _).mono ?_);rintro e w1 ⟨rfl,hb1⟩;obtain⟨hc1,hf1⟩:=bcell hb1;have hz1:=hb1.size;(try simp at hz1);(try have hx1:w.heap.size+1<w1.heap.size:=by omega);(try have hy1:w.heap.size<w1.heap.size:=by omega))
   | (go_at_call 163;(with_reducible refine(c3.out _).mono ?_);rintro e w' ⟨rfl,rfl⟩))
  all_goals go_ret
  all_goals refine⟨qa3 ?_,by(repeat (first|(with_reducible exact Below.refl _ _)|(with_reducible refine Below.drew ?_)|(with_reducible refine Below.bal ?_ _)|(with_reducible refine Below.setCell ?_ (by simp) _)|(with_reducible refine Below.link (by assumption) ?_)))⟩
  all_goals rw [hE'.out]
  all_goals simp_all
end
section
open Go.RowKit
theorem r4_Fits (kind k:Int) (x:Int) (t:ByteArray) (p1 p2 p3 p4:Option Addr) (n1 n2 n3 n4 q1 q2 q3 q4:Nat) (w:World) (h0:0<=x) (h1:x<18446744073709551616) (b1:n1<=140737488355328) (b2:n2<=140737488355328) (b3:n3<=140737488355328) (b4:n4<=140737488355328):Calls Tryz.prog 95 #[.int .i64 kind,.agg #[.int .i64 k,.int .u64 x,.string t,.slice p1 n1 q1,.slice p2 n2 q2,.slice p3 n3 q3,.slice p4 n4 q4]] w fun e w'=>e=.returned (.bool (Pr.fitsB kind k x t.data.toList (n1+n2+n3+n4)))/\Below w.heap.size w w':=by
 by_cases hk:k=kind
 ·subst hk
  cases ht:Pr.txt k
  ·exact qhv k x t p1 p2 p3 p4 n1 n2 n3 n4 q1 q2 q3 q4 w h0 h1 ht
  ·exact qhu k x t p1 p2 p3 p4 n1 n2 n3 n4 q1 q2 q3 q4 w ht (Lib.hid (fun W h=>qgj t t.data.toList W rfl (by omega)))
 ·exact qj6 kind k x t p1 p2 p3 p4 n1 n2 n3 n4 q1 q2 q3 q4 w h0 h1 b1 b2 b3 b4 hk
end
section
open Go.RowKit Ck
theorem qce {name:Str} (h:(Ck.find? name).isSome=true):name=[100,101,112,114,101,99,97,116,101,100] ∨ name=[100,111,99] ∨ name=[97,108,105,97,115] ∨ name=[115,105,110,99,101] ∨ name=[117,110,116,105,108] ∨ name=[109,105,110] ∨ name=[109,97,120] ∨ name=[108,101,110,103,116,104] ∨ name=[115,101,99,114,101,116] ∨ name=[105,100,101,109,112,111,116,101,110,116] ∨ name=[116,105,109,101,111,117,116] ∨ name=[114,111,117,116,101] ∨ name=[111,119,110,101,114]:=by
  unfold Ck.find? at h;rw [Option.isSome_map,List.find?_isSome]at h;obtain⟨r,hr,he⟩:=h;have he':r.1=name:=by simpa using he
  unfold Ck.known at hr;simp only [List.mem_cons,List.not_mem_nil,or_false]at hr;rcases hr with rfl|rfl|rfl|rfl|rfl|rfl|rfl|rfl|rfl|rfl|rfl|rfl|rfl <;> simp only at he' <;> subst he' <;> simp
theorem qeb {name:Str} (h:Ck.find? name=none):qan name=0:=by unfold qan;rw [h]
theorem kind_zero {name:Str}:qan name=0 ↔ Ck.find? name=none:=by
  constructor
  · intro h
    cases hf:Ck.find? name with
    | none=>rfl
    | some r=>
      exfalso;rcases qce (by rw [hf];rfl)with rfl|rfl|rfl|rfl|rfl|rfl|rfl|rfl|rfl|rfl|rfl|rfl|rfl <;> exact absurd h (by decide)
  · exact qeb
theorem kind_not {name:Str} (h0 : ¬ name=[100,101,112,114,101,99,97,116,101,100]) (h1 : ¬ name=[100,111,99]) (h2 : ¬ name=[97,108,105,97,115]) (h3 : ¬ name=[115,105,110,99,101]) (h4 : ¬ name=[117,110,116,105,108]) (h5 : ¬ name=[109,105,110]) (h6 : ¬ name=[109,97,120]) (h7 : ¬ name=[108,101,110,103,116,104]) (h8 : ¬ name=[115,101,99,114,101,116]) (h9 : ¬ name=[105,100,101,109,112,111,116,101,110,116]) (h10 : ¬ name=[116,105,109,101,111,117,116]) (h11 : ¬ name=[114,111,117,116,101]) (h12 : ¬ name=[111,119,110,101,114]):qan name=0:=by
  refine qeb ?_;cases hf:Ck.find? name with
  | none=>rfl
  | some r=>
    exfalso;rcases qce (name:=name) (by rw [hf];rfl)with h|h|h|h|h|h|h|h|h|h|h|h|h
    · exact h0 h
    · exact h1 h
    · exact h2 h
    · exact h3 h
    · exact h4 h
    · exact h5 h
    · exact h6 h
    · exact h7 h
    · exact h8 h
    · exact h9 h
    · exact h10 h
    · exact h11 h
    · exact h12 h
def fitsT (m tg:Int):Bool:=decide (1<=tg/\tg<=6) && bitOf m tg
theorem qh9 (tg:Int):fitsT 126 tg=decide (1<=tg/\tg<=6):=by
  by_cases h:1<=tg/\tg<=6
  · have h6:tg=1 ∨ tg=2 ∨ tg=3 ∨ tg=4 ∨ tg=5 ∨ tg=6:=by omega
    rcases h6 with rfl|rfl|rfl|rfl|rfl|rfl <;> decide
  · unfold fitsT
    rw [decide_eq_false h,Bool.false_and]
    all_goals (symm;exact decide_eq_false (by omega))
theorem qfw (tg:Int):fitsT 84 tg=decide (tg=2 ∨ tg=4 ∨ tg=6):=by
  by_cases h:1<=tg/\tg<=6
  · have h6:tg=1 ∨ tg=2 ∨ tg=3 ∨ tg=4 ∨ tg=5 ∨ tg=6:=by omega
    rcases h6 with rfl|rfl|rfl|rfl|rfl|rfl <;> decide
  · unfold fitsT
    rw [decide_eq_false h,Bool.false_and]
    all_goals (symm;exact decide_eq_false (by omega))
theorem qh8 (tg:Int):fitsT 4 tg=decide (tg=2):=by
  by_cases h:1<=tg/\tg<=6
  · have h6:tg=1 ∨ tg=2 ∨ tg=3 ∨ tg=4 ∨ tg=5 ∨ tg=6:=by omega
    rcases h6 with rfl|rfl|rfl|rfl|rfl|rfl <;> decide
  · unfold fitsT
    rw [decide_eq_false h,Bool.false_and]
    all_goals (symm;exact decide_eq_false (by omega))
theorem qfx (tg:Int):fitsT 64 tg=decide (tg=6):=by
  by_cases h:1<=tg/\tg<=6
  · have h6:tg=1 ∨ tg=2 ∨ tg=3 ∨ tg=4 ∨ tg=5 ∨ tg=6:=by omega
    rcases h6 with rfl|rfl|rfl|rfl|rfl|rfl <;> decide
  · unfold fitsT
    rw [decide_eq_false h,Bool.false_and]
    all_goals (symm;exact decide_eq_false (by omega))
theorem fitsT_34 (tg:Int):fitsT 34 tg=decide (tg=1 ∨ tg=5):=by
  by_cases h:1<=tg/\tg<=6
  · have h6:tg=1 ∨ tg=2 ∨ tg=3 ∨ tg=4 ∨ tg=5 ∨ tg=6:=by omega
    rcases h6 with rfl|rfl|rfl|rfl|rfl|rfl <;> decide
  · unfold fitsT
    rw [decide_eq_false h,Bool.false_and]
    all_goals (symm;exact decide_eq_false (by omega))
theorem rk_Kind (l:Str) (w:World) :
    Calls Tryz.prog 105 #[.string (S l)] w fun e w'=>e=.returned (.int .i64 (qan l))/\w=w':=by
  have H:=Lib.hid (show(S l).toList=l by rw [ByteArray.toList_eq];rfl)
  go_enter Tryz.func105,Tryz.ntmps105
  go_wp2
  all_goals go_ret
  all_goals
    refine⟨qad ?_,rfl⟩;simp only [H.out,beq_iff_eq,beq_eq_false_iff_ne,ne_eq]at *
    first
    | contradiction
    | (symm;apply kind_not <;> assumption)
    | (subst l;decide)
theorem rk_fits (l:Str) (tg:Int) (w:World) (hk:(Ck.find? l).isSome=true) :
    Calls Tryz.prog 106 #[.string (S l),.int .i64 tg] w fun e w'=>e=.returned (.bool (fitsT (qal l).2 tg))/\w=w':=by
  have H:=Lib.hid (show(S l).toList=l by rw [ByteArray.toList_eq];rfl);have HK:=Lib.hid hk;clear hk
  go_enter Tryz.func106,Tryz.ntmps106
  go_wp2
  all_goals go_ret
  all_goals
    refine⟨qa3 ?_,rfl⟩;simp only [H.out,beq_iff_eq,beq_eq_false_iff_ne,ne_eq]at *
    first
    | contradiction
    | (subst l;(first|rw [show(qal [100,101,112,114,101,99,97,116,101,100]).2=126 by decide,qh9]|rw [show(qal [100,111,99]).2=126 by decide,qh9]);rw [Bool.eq_iff_iff];(try simp);(try omega);done)
    | (subst l;(first|rw [show(qal [97,108,105,97,115]).2=84 by decide,qfw]|rw [show(qal [115,105,110,99,101]).2=84 by decide,qfw]|rw [show(qal [117,110,116,105,108]).2=84 by decide,qfw]);rw [Bool.eq_iff_iff];(try simp);(try omega);done)
    | (subst l;(first|rw [show(qal [109,105,110]).2=4 by decide,qh8]|rw [show(qal [109,97,120]).2=4 by decide,qh8]|rw [show(qal [108,101,110,103,116,104]).2=4 by decide,qh8]|rw [show(qal [115,101,99,114,101,116]).2=4 by decide,qh8]);rw [Bool.eq_iff_iff];(try simp);(try omega);done)
    | (subst l;(first|rw [show(qal [105,100,101,109,112,111,116,101,110,116]).2=64 by decide,qfx]|rw [show(qal [116,105,109,101,111,117,116]).2=64 by decide,qfx]|rw [show(qal [114,111,117,116,101]).2=64 by decide,qfx]);rw [Bool.eq_iff_iff];(try simp);(try omega);done)
    | (have ho:l=[111,119,110,101,114]:=(by rcases qce HK.out with h|h|h|h|h|h|h|h|h|h|h|h|h <;> first|exact h|(exact absurd h (by assumption)))
       subst ho;rw [show(qal [111,119,110,101,114]).2=34 by decide,fitsT_34];rw [Bool.eq_iff_iff];(try simp);(try omega);done)
end
section
open Go.RowKit Ck
theorem rk_Right (nm:Str) (nk nx:Int) (nt:Str) (p1 p2 p3 p4:Option Addr) (m1 m2 m3 m4 c1 c2 c3 c4:Nat) (w:World) (h0:0<=nx) (h1:nx<18446744073709551616) (b1:m1<=140737488355328) (b2:m2<=140737488355328) (b3:m3<=140737488355328) (b4:m4<=140737488355328) :
  Calls Tryz.prog 107 #[.agg #[.string (S nm),.int .i64 nk,.int .u64 nx,.string (S nt),.slice p1 m1 c1,.slice p2 m2 c2,.slice p3 m3 c3,.slice p4 m4 c4]] w fun e w'=>e=.returned (.bool (right ⟨nm,⟨nk,nx,nt,m1,m2,m3,m4⟩⟩))/\Below w.heap.size w w':=by
 have ck:=Lib.hid (fun W=>rk_Kind nm W);have cf':=Lib.hid (fun(kd:Int) W=>r4_Fits kd nk nx (S nt) p1 p2 p3 p4 m1 m2 m3 m4 c1 c2 c3 c4 W h0 h1 b1 b2 b3 b4);have hv':=Lib.hid (show right ⟨nm,⟨nk,nx,nt,m1,m2,m3,m4⟩⟩=(decide (qan nm ≠ 0) && Pr.fitsB (qan nm) nk nx nt (m1+m2+m3+m4))from rfl);generalize qan nm=K at ck hv';generalize right ⟨nm,⟨nk,nx,nt,m1,m2,m3,m4⟩⟩=R at hv' ⊢;by_cases hK:K=0
 ·have hKb:(K != 0)=false:=by rw [hK];rfl
  have hv2:=Lib.hid (show R=false by rw [hv'.out,decide_eq_false (not_not_intro hK)];rfl);clear hv' hK cf'
  go_enter Tryz.func107,Tryz.ntmps107
  go_wp2_with (go_at_call 105;(with_reducible refine(ck.out _).mono ?_);rintro e w1 ⟨rfl,rfl⟩)
  go_ret;exact⟨qa3 hv2.out.symm,Bel.out (by(repeat (first|(with_reducible assumption)|(with_reducible exact Bel.refl _)|(with_reducible refine Bel.drew ?_)|(with_reducible refine Bel.drewN ?_ _)|(with_reducible refine Bel.alloc ?_ _)|((with_reducible refine qbr ?_ ?hge);(case hge=>(first|omega|(simp;omega)))))))⟩
 ·have hKb:(K != 0)=true:=bne_iff_ne.2 hK
  by_cases hk:nk=K
  ·have hkb:(nk == K)=true:=by rw [hk];simp
   have hv2:=Lib.hid (show R=Pr.fitsB K nk nx nt (m1+m2+m3+m4)by rw [hv'.out,decide_eq_true hK,Bool.true_and]);have cf2:=cf'.out K;rw [qbz]at cf2;clear hv' hK hk cf';generalize Pr.fitsB K nk nx nt (m1+m2+m3+m4)=R2 at cf2 hv2;have cf3:=Lib.hid cf2;clear cf2
   go_enter Tryz.func107,Tryz.ntmps107
   go_wp2_with (first
    | (go_at_call 105;(with_reducible refine(ck.out _).mono ?_);rintro e w1 ⟨rfl,rfl⟩)
    | (go_at_call 95;(with_reducible refine(cf3.out _).mono ?_);rintro e w2 ⟨rfl,h2⟩;have k2:Bel w w2:=Bel.of (by(with_reducible repeat first|assumption|exact Bel.refl _|refine Bel.drew ?_|refine Bel.drewN ?_ _|refine Bel.alloc ?_ _)) h2;clear h2))
   go_ret;exact⟨qa3 hv2.out.symm,k2.out⟩
  ·have hkb:(nk == K)=false:=beq_eq_false_iff_ne.2 hk
   have hv2:=Lib.hid (show R=false by
    rw [hv'.out];unfold Pr.fitsB
    rw [decide_eq_false hk,Bool.and_false,Bool.false_and,Bool.false_and,Bool.false_and,Bool.false_and,Bool.and_false])
   clear hv' hK hk cf'
   go_enter Tryz.func107,Tryz.ntmps107
   go_wp2_with (go_at_call 105;(with_reducible refine(ck.out _).mono ?_);rintro e w1 ⟨rfl,rfl⟩)
   go_ret;exact⟨qa3 hv2.out.symm,Bel.out (by(repeat (first|(with_reducible assumption)|(with_reducible exact Bel.refl _)|(with_reducible refine Bel.drew ?_)|(with_reducible refine Bel.drewN ?_ _)|(with_reducible refine Bel.alloc ?_ _)|((with_reducible refine qbr ?_ ?hge);(case hge=>(first|omega|(simp;omega)))))))⟩
def qd5 (l:List PNote) (k:Nat):Str:=if k=0 then []else match l[k-1]? with|some n=>n.name|none => []
theorem qi3 (l:List PNote) (k:Nat) (n:PNote) (h:l[k]? = some n):qd5 l (k+1)=n.name:=by
 unfold qd5;rw [if_neg (by omega),show k+1-1=k by omega,h]
theorem one_of (n:PNote) (tg:Int) (last:Str) (ok:Bool) (h:(Ck.find? n.name).isSome=true):qaq n tg last ok=if fitsT (qal n.name).2 tg=false then 1 else if right n=false then 12 else if ok=true/\Ck.ltS n.name last=true then 11 else if ok=true/\n.name=last then 9 else 0:=by
 obtain⟨r,hr⟩:=Option.isSome_iff_exists.1 h;unfold qaq qal;rw [hr];simp only [Option.getD_some]
 have he:(tg<1 ∨ 6<tg ∨ bitOf r.2 tg=false) ↔ fitsT r.2 tg=false:=by
  unfold fitsT;rw [Bool.and_eq_false_iff,decide_eq_false_iff_not];constructor
  ·rintro (h|h|h)
   ·exact .inl (by omega)
   ·exact .inl (by omega)
   ·exact .inr h
  ·rintro (h|h)
   ·omega
   ·exact .inr (.inr h)
 by_cases hf:fitsT r.2 tg=false
 ·rw [if_pos (he.2 hf),if_pos hf]
 ·rw [if_neg (fun h=>hf (he.1 h)),if_neg hf]
theorem go_step0 (tg:Int) (n:PNote) (r:List PNote) (last:Str) (ok:Bool) (h:qaq n tg last ok=0):qbs tg (n :: r) last ok=qbs tg r n.name true:=by
 show(if qaq n tg last ok=0 then qbs tg r n.name true else qaq n tg last ok)=_
 rw [if_pos h]
theorem go_stepE (tg:Int) (n:PNote) (r:List PNote) (last:Str) (ok:Bool) {x:Int} (h:qaq n tg last ok=x) (hx:x ≠ 0):qbs tg (n :: r) last ok=x:=by
 show(if qaq n tg last ok=0 then qbs tg r n.name true else qaq n tg last ok)=_
 rw [if_neg (by rw [h];exact hx),h]
theorem rk_Check (v:Value) (l:List PNote) (tg:Int) (w:World) (hv:Notes w v l) :
  Calls Tryz.prog 80 #[v,.int .i64 tg] w fun e w'=>e=.returned (.int .i64 (qah l tg))/\Below w.heap.size w w':=by
 obtain⟨p,c,rfl,hlen,hcap,hel⟩:=hv;by_cases h8:8<l.length
 ·have V:=Lib.hid (show qah l tg=3 by unfold qah;rw [if_pos h8])
  have h8':(8:Int)<(l.length:Int):=by omega
  clear hel
  go_enter Tryz.func80,Tryz.ntmps80
  go_wp2;go_ret
  exact⟨qad V.out.symm,Below.refl _ _⟩
 ·have V:=Lib.hid (show qbs tg (l.drop 0) (qd5 l 0) (decide (0<0))=qah l tg by unfold qah;rw [if_neg h8];rfl)
  have h8' : ¬(8:Int)<(l.length:Int):=by omega
  have EL:=Lib.hid hel;clear hel;generalize qah l tg=T at V
  go_enter Tryz.func80,Tryz.ntmps80
  go_wp2
  go_loopw [5] (fun i wr => ∃k:Nat,k<=l.length/\i=.int .i64 k/\Bel w wr/\Hid (qbs tg (l.drop k) (qd5 l k) (decide (0<k))=T)) (fun i _=>l.length-(intOf i).toNat)
  case atStart=>exact⟨0,by omega,rfl,Bel.refl _,V⟩
  case round=>
   obtain⟨k,hk,rfl,kw,hgo⟩:=hrel;by_cases hlt:k<l.length
   ·have hki:(k:Int)<(l.length:Int):=by omega
    have hk0:(0:Int)<=(k:Int):=by omega
    have hg:l[k]? = some l[k]:=List.getElem?_eq_getElem hlt;obtain⟨b,off,hp,hbs,vs,hce,nv,hvs,p1,p2,p3,p4,c1,c2,c3,c4,hnv,u0,u1,g1,g2,g3,g4⟩:=EL.out k _ hg
    have hprev:k=0 ∨ ∃(j:Nat) (pn:Str),k=j+1/\qd5 l k=pn/\w.cell? ⟨b,off+j*8,none⟩=some (.string (S pn)):=by
     by_cases h0:k=0
     ·exact .inl h0
     ·right
      have hgp:l[k-1]? = some l[k-1]:=List.getElem?_eq_getElem (show k-1<l.length by omega);obtain⟨b9,off9,hp9,_,vs9,hce9,nv9,hvs9,_⟩:=EL.out (k-1) _ hgp;have hqq:=hp.symm.trans hp9;cases hqq;subst hvs9;have e9:=hce9 0 _ rfl;rw [Nat.add_zero]at e9;exact⟨k-1,l[k-1].name,by omega,by unfold qd5;rw [if_neg h0,hgp],e9⟩
    have hdr:l.drop k=l[k] :: l.drop (k+1):=List.drop_eq_getElem_cons hlt;have hls:=qi3 l k _ hg;have GO:=Lib.hid (show qbs tg (l[k] :: l.drop (k+1)) (qd5 l k) (decide (0<k))=T by rw [←hdr];exact hgo.out);have HPV:=Lib.hid hprev;subst hp hvs hnv;clear hgo hdr hg hprev;generalize l[k]=n at *;obtain⟨nm,⟨nk,nx,nt,m1,m2,m3,m4⟩⟩:=n;have HLS:=Lib.hid (show qbs tg (l.drop (k+1)) nm true=qbs tg (l.drop (k+1)) (qd5 l (k+1)) (decide (0<k+1))by rw [hls,decide_eq_true (Nat.succ_pos k)]);clear hls;have KS:=Lib.hid (fun W' (kq:Bel wr W')=>show W'.cell? ⟨b,off+k*8,none⟩=some (.string (S nm))/\W'.cell? ⟨b,off+k*8+1,none⟩=some (.int .i64 nk)/\W'.cell? ⟨b,off+k*8+2,none⟩=some (.int .u64 nx)/\W'.cell? ⟨b,off+k*8+3,none⟩=some (.string (S nt))/\W'.cell? ⟨b,off+k*8+4,none⟩=some (.slice p1 m1 c1)/\W'.cell? ⟨b,off+k*8+5,none⟩=some (.slice p2 m2 c2)/\W'.cell? ⟨b,off+k*8+6,none⟩=some (.slice p3 m3 c3)/\W'.cell? ⟨b,off+k*8+7,none⟩=some (.slice p4 m4 c4)from⟨(Bel.of kw kq.out).some (hce 0 _ rfl),(Bel.of kw kq.out).some (hce 1 _ rfl),(Bel.of kw kq.out).some (hce 2 _ rfl),(Bel.of kw kq.out).some (hce 3 _ rfl),(Bel.of kw kq.out).some (hce 4 _ rfl),(Bel.of kw kq.out).some (hce 5 _ rfl),(Bel.of kw kq.out).some (hce 6 _ rfl),(Bel.of kw kq.out).some (hce 7 _ rfl)⟩);obtain⟨e0,e1,e2,e3,e4,e5,e6,e7⟩:=KS.out _ (Bel.refl _);have CK:=Lib.hid (fun W=>rk_Kind nm W);have CR:=Lib.hid (fun W=>rk_Right nm nk nx nt p1 p2 p3 p4 m1 m2 m3 m4 c1 c2 c3 c4 W u0 u1 g1 g2 g3 g4);clear hce u0 u1 g1 g2 g3 g4;cases hf:(Ck.find? nm).isSome with
    | false=>
     have hfn:Ck.find? nm=none:=by cases h:Ck.find? nm with|none=>rfl|some r=>rw [h]at hf;cases hf
     have HE:=Lib.hid (show(8:Int)=T by rw [←GO.out];exact(go_stepE tg _ _ _ _ (by unfold qaq;simp only [hfn]) (by decide)).symm);rw [qeb hfn]at CK;clear hf hfn
     go_wp2_with (go_at_call 105;(with_reducible refine(CK.out _).mono ?_);rintro e w1 ⟨rfl,rfl⟩)
     go_ret;exact⟨qad HE.out,kw.out⟩
    | true=>
     have CF:=Lib.hid (fun W=>rk_fits nm tg W hf);have hone:=one_of ⟨nm,⟨nk,nx,nt,m1,m2,m3,m4⟩⟩ tg (qd5 l k) (decide (0<k)) hf;simp only at hone;have hkn:qan nm ≠ 0:=fun h=>by rw [kind_zero.1 h]at hf;cases hf
     generalize qan nm=K at CK hkn;have q0:(K == 0)=false:=beq_eq_false_iff_ne.2 hkn;generalize fitsT (qal nm).2 tg=FT at CF hone;generalize right ⟨nm,⟨nk,nx,nt,m1,m2,m3,m4⟩⟩=RT at CR hone;clear hkn hf;cases FT with
     | false=>
      rw [if_pos rfl]at hone;have HE:=Lib.hid (show(1:Int)=T by rw [←GO.out];exact(go_stepE tg _ _ _ _ hone (by decide)).symm);clear hone
      go_wp2_with (first
       | (go_at_call 105;(with_reducible refine(CK.out _).mono ?_);rintro e w1 ⟨rfl,rfl⟩)
       | (go_at_call 106;(with_reducible refine(CF.out _).mono ?_);rintro e w2 ⟨rfl,rfl⟩))
      go_ret;exact⟨qad HE.out,kw.out⟩
     | true=>
      rw [if_neg (by simp)]at hone;cases RT with
      | false=>
       rw [if_pos rfl]at hone;have HE:=Lib.hid (show(12:Int)=T by rw [←GO.out];exact(go_stepE tg _ _ _ _ hone (by decide)).symm);clear hone
       go_wp2_with (first
        | (go_at_call 105;(with_reducible refine(CK.out _).mono ?_);rintro e w1 ⟨rfl,rfl⟩)
        | (go_at_call 106;(with_reducible refine(CF.out _).mono ?_);rintro e w2 ⟨rfl,rfl⟩)
        | (go_at_call 107;(with_reducible refine(CR.out _).mono ?_);rintro e w3 ⟨rfl,h3⟩;have k3:Bel wr w3:=Bel.of (Bel.refl _) h3;clear h3 e0 e1 e2 e3 e4 e5 e6 e7;obtain⟨e0,e1,e2,e3,e4,e5,e6,e7⟩:=KS.out _ k3))
       go_ret;exact⟨qad HE.out,(Bel.of kw k3.out).out⟩
      | true=>
       rw [if_neg (by simp)]at hone
       go_upto_region 12 with(first
        | (go_at_call 105;(with_reducible refine(CK.out _).mono ?_);rintro e w1 ⟨rfl,rfl⟩)
        | (go_at_call 106;(with_reducible refine(CF.out _).mono ?_);rintro e w2 ⟨rfl,rfl⟩)
        | (go_at_call 107;(with_reducible refine(CR.out _).mono ?_);rintro e w3 ⟨rfl,h3⟩;have k3:Bel wr w3:=Bel.of (Bel.refl _) h3;clear h3 e0 e1 e2 e3 e4 e5 e6 e7;obtain⟨e0,e1,e2,e3,e4,e5,e6,e7⟩:=KS.out _ k3))
       clear CK CF CR;rcases HPV.out with h0|⟨j,pn,hkj,hla,hc9⟩
       ·have hk0n : ¬(0<k):=by omega
        rw [if_neg (fun h=>absurd (of_decide_eq_true h.1) hk0n),if_neg (fun h=>absurd (of_decide_eq_true h.1) hk0n)]at hone;have HN:=Lib.hid (show qbs tg (l.drop (k+1)) (qd5 l (k+1)) (decide (0<k+1))=T by rw [←HLS.out, ←GO.out,go_step0 tg _ _ _ _ hone]);clear hone h0;obtain⟨wd1,hwd1⟩ : ∃wd,wd=w3.drew:=⟨_,rfl⟩;have kd1:Bel wr wd1:=Bel.of k3 (by rw [hwd1];exact((Bel.refl _).drew:Bel w3 _):Bel w3 wd1).out;have HWD1:=Lib.hid hwd1;clear hwd1 e0 e1 e2 e3 e4 e5 e6 e7;obtain⟨e0,e1,e2,e3,e4,e5,e6,e7⟩:=KS.out _ kd1;refine qa9 14 (by kernel_rfl) (by kernel_rfl) HWD1.out ?_
        (simp only [List.take_succ_cons,List.take_zero,List.drop_succ_cons,List.drop_zero]);(repeat (first|((with_reducible refine wpStill_step (fun K hK=>?_));go_simp;(with_reducible refine hK _ ?_);clear hK K)|((with_reducible refine qac ?_ ?_);(with_unfolding_all rfl))));(with_reducible refine wpStill_nil ?_)
        go_upto_region 14 with(fail)
        obtain⟨wd2,hwd2⟩ : ∃wd,wd=wd1.drew:=⟨_,rfl⟩;have kd2:Bel wr wd2:=Bel.of kd1 (by rw [hwd2];exact((Bel.refl _).drew:Bel wd1 _):Bel wd1 wd2).out;have HWD2:=Lib.hid hwd2;clear hwd2 e0 e1 e2 e3 e4 e5 e6 e7;obtain⟨e0,e1,e2,e3,e4,e5,e6,e7⟩:=KS.out _ kd2;refine qa9 14 (by kernel_rfl) (by kernel_rfl) HWD2.out ?_
        (simp only [List.take_succ_cons,List.take_zero,List.drop_succ_cons,List.drop_zero]);(repeat (first|((with_reducible refine wpStill_step (fun K hK=>?_));go_simp;(with_reducible refine hK _ ?_);clear hK K)|((with_reducible refine qac ?_ ?_);(with_unfolding_all rfl))));(with_reducible refine wpStill_nil ?_)
        go_wp2;exact⟨⟨k+1,by omega,by go_num,Bel.of kw kd2.out,HN⟩,by simp [intOf];omega⟩
       ·have hk00:(0:Int)<(k:Int):=by omega
        have hk00n:0<k:=by omega
        have jw3:(k:Int)-1=(j:Int):=by omega
        have jw2:IntKind.i64.wrap (j:Int)=(j:Int):=wrap_small _ (by omega) (by omega);have jw:IntKind.i64.wrap ((k:Int)-1)=(j:Int):=by rw [jw3];exact jw2
        have j1:(j:Int)<(l.length:Int):=by omega
        have j0:(0:Int)<=(j:Int):=by omega
        have EP:=Lib.hid (kw.some hc9);rw [hla,decide_eq_true hk00n]at hone;rw [hla,decide_eq_true hk00n]at GO;clear hc9 hkj hla;cases hlt9:Ck.ltS nm pn with
        | true=>
         rw [if_pos ⟨rfl,hlt9⟩]at hone;have HE:=Lib.hid (show(11:Int)=T by rw [←GO.out];exact(go_stepE tg _ _ _ _ hone (by decide)).symm);have z1:Op.bytesLess (S nm).toList (S pn).toList=true:=by rw [qfs];exact hlt9
         clear hone hlt9;obtain⟨wd1,hwd1⟩ : ∃wd,wd=w3.drew:=⟨_,rfl⟩;have kd1:Bel wr wd1:=Bel.of k3 (by rw [hwd1];exact((Bel.refl _).drew:Bel w3 _):Bel w3 wd1).out;have HWD1:=Lib.hid hwd1;clear hwd1 e0 e1 e2 e3 e4 e5 e6 e7;obtain⟨e0,e1,e2,e3,e4,e5,e6,e7⟩:=KS.out _ kd1;have ep:=kd1.some EP.out;refine qa9 14 (by kernel_rfl) (by kernel_rfl) HWD1.out ?_
         (simp only [List.take_succ_cons,List.take_zero,List.drop_succ_cons,List.drop_zero]);(repeat (first|((with_reducible refine wpStill_step (fun K hK=>?_));go_simp;(with_reducible refine hK _ ?_);clear hK K)|((with_reducible refine qac ?_ ?_);(with_unfolding_all rfl))));(with_reducible refine wpStill_nil ?_)
         go_wp2;go_ret
         exact⟨qad HE.out,(Bel.of kw kd1.out).out⟩
        | false=>
         rw [if_neg (fun h=>by rw [hlt9]at h;cases h.2)]at hone;have z1:Op.bytesLess (S nm).toList (S pn).toList=false:=by rw [qfs];exact hlt9
         by_cases he:nm=pn
         ·rw [if_pos ⟨rfl,he⟩]at hone
          have HE:=Lib.hid (show(9:Int)=T by rw [←GO.out];exact(go_stepE tg _ _ _ _ hone (by decide)).symm);have z2:((S nm).toList == (S pn).toList)=true:=by rw [eq_S];exact decide_eq_true he
          clear hone hlt9 he;obtain⟨wd1,hwd1⟩ : ∃wd,wd=w3.drew:=⟨_,rfl⟩;have kd1:Bel wr wd1:=Bel.of k3 (by rw [hwd1];exact((Bel.refl _).drew:Bel w3 _):Bel w3 wd1).out;have HWD1:=Lib.hid hwd1;clear hwd1 e0 e1 e2 e3 e4 e5 e6 e7;obtain⟨e0,e1,e2,e3,e4,e5,e6,e7⟩:=KS.out _ kd1;have ep:=kd1.some EP.out;refine qa9 14 (by kernel_rfl) (by kernel_rfl) HWD1.out ?_
          (simp only [List.take_succ_cons,List.take_zero,List.drop_succ_cons,List.drop_zero]);(repeat (first|((with_reducible refine wpStill_step (fun K hK=>?_));go_simp;(with_reducible refine hK _ ?_);clear hK K)|((with_reducible refine qac ?_ ?_);(with_unfolding_all rfl))));(with_reducible refine wpStill_nil ?_)
          go_upto_region 14 with(fail)
          obtain⟨wd2,hwd2⟩ : ∃wd,wd=wd1.drew:=⟨_,rfl⟩;have kd2:Bel wr wd2:=Bel.of kd1 (by rw [hwd2];exact((Bel.refl _).drew:Bel wd1 _):Bel wd1 wd2).out;have HWD2:=Lib.hid hwd2;clear hwd2 e0 e1 e2 e3 e4 e5 e6 e7 ep;obtain⟨e0,e1,e2,e3,e4,e5,e6,e7⟩:=KS.out _ kd2;have ep:=kd2.some EP.out;refine qa9 14 (by kernel_rfl) (by kernel_rfl) HWD2.out ?_
          (simp only [List.take_succ_cons,List.take_zero,List.drop_succ_cons,List.drop_zero]);(repeat (first|((with_reducible refine wpStill_step (fun K hK=>?_));go_simp;(with_reducible refine hK _ ?_);clear hK K)|((with_reducible refine qac ?_ ?_);(with_unfolding_all rfl))));(with_reducible refine wpStill_nil ?_)
          go_wp2;go_ret
          exact⟨qad HE.out,(Bel.of kw kd2.out).out⟩
         ·rw [if_neg (fun h=>he h.2)]at hone
          have HN:=Lib.hid (show qbs tg (l.drop (k+1)) (qd5 l (k+1)) (decide (0<k+1))=T by rw [←HLS.out, ←GO.out,go_step0 tg _ _ _ _ hone]);have z2:((S nm).toList == (S pn).toList)=false:=by rw [eq_S];exact decide_eq_false he
          clear hone hlt9 he;obtain⟨wd1,hwd1⟩ : ∃wd,wd=w3.drew:=⟨_,rfl⟩;have kd1:Bel wr wd1:=Bel.of k3 (by rw [hwd1];exact((Bel.refl _).drew:Bel w3 _):Bel w3 wd1).out;have HWD1:=Lib.hid hwd1;clear hwd1 e0 e1 e2 e3 e4 e5 e6 e7;obtain⟨e0,e1,e2,e3,e4,e5,e6,e7⟩:=KS.out _ kd1;have ep:=kd1.some EP.out;refine qa9 14 (by kernel_rfl) (by kernel_rfl) HWD1.out ?_
          (simp only [List.take_succ_cons,List.take_zero,List.drop_succ_cons,List.drop_zero]);(repeat (first|((with_reducible refine wpStill_step (fun K hK=>?_));go_simp;(with_reducible refine hK _ ?_);clear hK K)|((with_reducible refine qac ?_ ?_);(with_unfolding_all rfl))));(with_reducible refine wpStill_nil ?_)
          go_upto_region 14 with(fail)
          obtain⟨wd2,hwd2⟩ : ∃wd,wd=wd1.drew:=⟨_,rfl⟩;have kd2:Bel wr wd2:=Bel.of kd1 (by rw [hwd2];exact((Bel.refl _).drew:Bel wd1 _):Bel wd1 wd2).out;have HWD2:=Lib.hid hwd2;clear hwd2 e0 e1 e2 e3 e4 e5 e6 e7 ep;obtain⟨e0,e1,e2,e3,e4,e5,e6,e7⟩:=KS.out _ kd2;have ep:=kd2.some EP.out;refine qa9 14 (by kernel_rfl) (by kernel_rfl) HWD2.out ?_
          (simp only [List.take_succ_cons,List.take_zero,List.drop_succ_cons,List.drop_zero]);(repeat (first|((with_reducible refine wpStill_step (fun K hK=>?_));go_simp;(with_reducible refine hK _ ?_);clear hK K)|((with_reducible refine qac ?_ ?_);(with_unfolding_all rfl))));(with_reducible refine wpStill_nil ?_)
          go_wp2;exact⟨⟨k+1,by omega,by go_num,Bel.of kw kd2.out,HN⟩,by simp [intOf];omega⟩
   ·have hki : ¬(k:Int)<(l.length:Int):=by omega
    have HE:=Lib.hid (show(0:Int)=T by
     have h:=hgo.out;rw [show k=l.length by omega,List.drop_length]at h
     rw [←h];rfl)
    clear hgo;go_wp2;go_ret;exact⟨qad HE.out,kw.out⟩
end
end Go.Proofs.YtgpjhibdongmbaaGreatDoor
