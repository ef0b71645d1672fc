import Derived.Test.YtgpjhibdongmbaaGreatDoorRsIdx
import Derived.Test.YtgpjhibdongmbaaGreatDoorMap
import Derived.Test.YtgpjhibdongmbaaGreatDoorIdWord
import Derived.Deep.RegionLaw
import Derived.Deep.AppendLies
import Derived.Test.YtgpjhibdongmbaaGreatDoorCkIdx
import Derived.Deep.RegionHeld3
import Derived.StillTailTactics
import Derived.Deep.DeepCutAuto
import Derived.Deep.CutBlock
set_option maxRecDepth 100000
set_option maxHeartbeats 4000000
set_option linter.unusedVariables false
set_option linter.unusedSimpArgs false
namespace Go.Proofs.YtgpjhibdongmbaaGreatDoor
open Go.RowKit Ck
def qjg:List Value->Option (DataW Unit × List MemPlace)
 | [.int .i64 a,.int .i64 b]=>some (.agg [.lit (.int .i64 a),.lit (.int .i64 b)],[])
 | _=>none
def qas:Value->Option (DataW Unit × List MemPlace)
 | .agg cs=>qjg cs.toList
 | _=>none
theorem qdg {v:Value} {d:DataW Unit × List MemPlace} {a b:Int} (h:qas v=some d) (hd:d.1=.agg [.lit (.int .i64 a),.lit (.int .i64 b)]):v=.agg #[.int .i64 a,.int .i64 b]:=by
 unfold qas at h
 split at h
 ·rename_i cs
  obtain⟨l⟩:=cs;simp only at h;unfold qjg at h
  split at h
  ·cases h
   simp at hd;obtain⟨rfl,rfl⟩:=hd;rfl
  ·cases h
 ·cases h
def ruleD (r:Int × Int):DataW Unit:=.agg [.lit (.int .i64 r.1),.lit (.int .i64 r.2)]
def qez (name:Str):Option (DataW Unit):=(Ck.find? name).map ruleD
def qhw:Str->Option (DataW Unit):=fun k=>if k=[100,101,112,114,101,99,97,116,101,100]then some (ruleD (1,126))else none
def qhv:Str->Option (DataW Unit):=fun k=>if k=[100,111,99]then some (ruleD (7,126))else qhw k
def qhu:Str->Option (DataW Unit):=fun k=>if k=[97,108,105,97,115]then some (ruleD (7,84))else qhv k
def qht:Str->Option (DataW Unit):=fun k=>if k=[115,105,110,99,101]then some (ruleD (4,84))else qhu k
def qhs:Str->Option (DataW Unit):=fun k=>if k=[117,110,116,105,108]then some (ruleD (4,84))else qht k
def qhr:Str->Option (DataW Unit):=fun k=>if k=[109,105,110]then some (ruleD (3,4))else qhs k
def qhq:Str->Option (DataW Unit):=fun k=>if k=[109,97,120]then some (ruleD (3,4))else qhr k
def qhp:Str->Option (DataW Unit):=fun k=>if k=[108,101,110,103,116,104]then some (ruleD (4,4))else qhq k
def qho:Str->Option (DataW Unit):=fun k=>if k=[115,101,99,114,101,116]then some (ruleD (1,4))else qhp k
def qey:Str->Option (DataW Unit):=fun k=>if k=[105,100,101,109,112,111,116,101,110,116]then some (ruleD (1,64))else qho k
def qex:Str->Option (DataW Unit):=fun k=>if k=[116,105,109,101,111,117,116]then some (ruleD (4,64))else qey k
def qew:Str->Option (DataW Unit):=fun k=>if k=[114,111,117,116,101]then some (ruleD (7,64))else qex k
def qgi:Str->Option (DataW Unit):=fun k=>if k=[111,119,110,101,114]then some (ruleD (7,34))else qew k
theorem qmb:qgi=qez:=by
 funext k
 unfold qez Ck.find? Ck.known;unfold qgi;unfold qew;unfold qex;unfold qey;unfold qho;unfold qhp;unfold qhq;unfold qhr;unfold qhs;unfold qht;unfold qhu;unfold qhv;unfold qhw;simp only [List.find?_cons,List.find?_nil];by_cases h0:k=[100,101,112,114,101,99,97,116,101,100]
 ·subst h0;rfl
 by_cases h1:k=[100,111,99]
 ·subst h1;rfl
 by_cases h2:k=[97,108,105,97,115]
 ·subst h2;rfl
 by_cases h3:k=[115,105,110,99,101]
 ·subst h3;rfl
 by_cases h4:k=[117,110,116,105,108]
 ·subst h4;rfl
 by_cases h5:k=[109,105,110]
 ·subst h5;rfl
 by_cases h6:k=[109,97,120]
 ·subst h6;rfl
 by_cases h7:k=[108,101,110,103,116,104]
 ·subst h7;rfl
 by_cases h8:k=[115,101,99,114,101,116]
 ·subst h8;rfl
 by_cases h9:k=[105,100,101,109,112,111,116,101,110,116]
 ·subst h9;rfl
 by_cases h10:k=[116,105,109,101,111,117,116]
 ·subst h10;rfl
 by_cases h11:k=[114,111,117,116,101]
 ·subst h11;rfl
 by_cases h12:k=[111,119,110,101,114]
 ·subst h12;rfl
 simp [h0,h1,h2,h3,h4,h5,h6,h7,h8,h9,h10,h11,h12,Ne.symm h0,Ne.symm h1,Ne.symm h2,Ne.symm h3,Ne.symm h4,Ne.symm h5,Ne.symm h6,Ne.symm h7,Ne.symm h8,Ne.symm h9,Ne.symm h10,Ne.symm h11,Ne.symm h12]
def qmx (w:World) (e:Ending) (w':World):Prop := ∃B:Nat,e=.returned (.map (some B))/\MapIs qas w' B 13 qez/\Below w.heap.size w w'
theorem qal {w a b:World} {B:Nat} (h:Below w.heap.size w a) (hB:w.heap.size<=B) (hg:a.grownBy b (some B)):Below w.heap.size w b:=h.grown hg h.size (fun k hk=>by cases hk;exact hB)
theorem qke (w:World):Calls Tryz.prog 205 #[] w (qmx w):=by
 have hmm := @run_makeMap Tryz.prog
 go_enter Tryz.func205,Tryz.ntmps205
 have m0:MapIs (H:=Unit) qas (w.alloc (.map #[] 0)) w.heap.size 0 (fun _=>none):=MapIs.made w qas;have b0:Below w.heap.size w (w.alloc (.map #[] 0)):=(Below.refl _ _).alloc (Nat.le_refl _) _
 go_wp2_with (refine qa7 _ rfl _ _ _ 193 191 rfl Tryz.underlying193 w.heap.size 0 (fun _=>none) rfl m0 (by decide) [100,101,112,114,101,99,97,116,101,100] (by decide) (.agg #[.int .i64 1,.int .i64 126]) rfl rfl (ruleD (1,126)) [] rfl ?_)
 intro w1 m g;have b1:=qal b0 (Nat.le_refl _) g;have m1:MapIs qas w1 w.heap.size 1 qhw:=m;clear m g m0 b0
 go_wp2_with (refine qa7 _ rfl _ _ _ 193 191 rfl Tryz.underlying193 w.heap.size 1 qhw rfl m1 (by decide) [100,111,99] (by decide) (.agg #[.int .i64 7,.int .i64 126]) rfl rfl (ruleD (7,126)) [] rfl ?_)
 intro w2 m g;have b2:=qal b1 (Nat.le_refl _) g;have m2:MapIs qas w2 w.heap.size 2 qhv:=m;clear m g m1 b1
 go_wp2_with (refine qa7 _ rfl _ _ _ 193 191 rfl Tryz.underlying193 w.heap.size 2 qhv rfl m2 (by decide) [97,108,105,97,115] (by decide) (.agg #[.int .i64 7,.int .i64 84]) rfl rfl (ruleD (7,84)) [] rfl ?_)
 intro w3 m g;have b3:=qal b2 (Nat.le_refl _) g;have m3:MapIs qas w3 w.heap.size 3 qhu:=m;clear m g m2 b2
 go_wp2_with (refine qa7 _ rfl _ _ _ 193 191 rfl Tryz.underlying193 w.heap.size 3 qhu rfl m3 (by decide) [115,105,110,99,101] (by decide) (.agg #[.int .i64 4,.int .i64 84]) rfl rfl (ruleD (4,84)) [] rfl ?_)
 intro w4 m g;have b4:=qal b3 (Nat.le_refl _) g;have m4:MapIs qas w4 w.heap.size 4 qht:=m;clear m g m3 b3
 go_wp2_with (refine qa7 _ rfl _ _ _ 193 191 rfl Tryz.underlying193 w.heap.size 4 qht rfl m4 (by decide) [117,110,116,105,108] (by decide) (.agg #[.int .i64 4,.int .i64 84]) rfl rfl (ruleD (4,84)) [] rfl ?_)
 intro w5 m g;have b5:=qal b4 (Nat.le_refl _) g;have m5:MapIs qas w5 w.heap.size 5 qhs:=m;clear m g m4 b4
 go_wp2_with (refine qa7 _ rfl _ _ _ 193 191 rfl Tryz.underlying193 w.heap.size 5 qhs rfl m5 (by decide) [109,105,110] (by decide) (.agg #[.int .i64 3,.int .i64 4]) rfl rfl (ruleD (3,4)) [] rfl ?_)
 intro w6 m g;have b6:=qal b5 (Nat.le_refl _) g;have m6:MapIs qas w6 w.heap.size 6 qhr:=m;clear m g m5 b5
 go_wp2_with (refine qa7 _ rfl _ _ _ 193 191 rfl Tryz.underlying193 w.heap.size 6 qhr rfl m6 (by decide) [109,97,120] (by decide) (.agg #[.int .i64 3,.int .i64 4]) rfl rfl (ruleD (3,4)) [] rfl ?_)
 intro w7 m g;have b7:=qal b6 (Nat.le_refl _) g;have m7:MapIs qas w7 w.heap.size 7 qhq:=m;clear m g m6 b6
 go_wp2_with (refine qa7 _ rfl _ _ _ 193 191 rfl Tryz.underlying193 w.heap.size 7 qhq rfl m7 (by decide) [108,101,110,103,116,104] (by decide) (.agg #[.int .i64 4,.int .i64 4]) rfl rfl (ruleD (4,4)) [] rfl ?_)
 intro w8 m g;have b8:=qal b7 (Nat.le_refl _) g;have m8:MapIs qas w8 w.heap.size 8 qhp:=m;clear m g m7 b7
 go_wp2_with (refine qa7 _ rfl _ _ _ 193 191 rfl Tryz.underlying193 w.heap.size 8 qhp rfl m8 (by decide) [115,101,99,114,101,116] (by decide) (.agg #[.int .i64 1,.int .i64 4]) rfl rfl (ruleD (1,4)) [] rfl ?_)
 intro w9 m g;have b9:=qal b8 (Nat.le_refl _) g;have m9:MapIs qas w9 w.heap.size 9 qho:=m;clear m g m8 b8
 go_wp2_with (refine qa7 _ rfl _ _ _ 193 191 rfl Tryz.underlying193 w.heap.size 9 qho rfl m9 (by decide) [105,100,101,109,112,111,116,101,110,116] (by decide) (.agg #[.int .i64 1,.int .i64 64]) rfl rfl (ruleD (1,64)) [] rfl ?_)
 intro w10 m g;have b10:=qal b9 (Nat.le_refl _) g;have m10:MapIs qas w10 w.heap.size 10 qey:=m;clear m g m9 b9
 go_wp2_with (refine qa7 _ rfl _ _ _ 193 191 rfl Tryz.underlying193 w.heap.size 10 qey rfl m10 (by decide) [116,105,109,101,111,117,116] (by decide) (.agg #[.int .i64 4,.int .i64 64]) rfl rfl (ruleD (4,64)) [] rfl ?_)
 intro w11 m g;have b11:=qal b10 (Nat.le_refl _) g;have m11:MapIs qas w11 w.heap.size 11 qex:=m;clear m g m10 b10
 go_wp2_with (refine qa7 _ rfl _ _ _ 193 191 rfl Tryz.underlying193 w.heap.size 11 qex rfl m11 (by decide) [114,111,117,116,101] (by decide) (.agg #[.int .i64 7,.int .i64 64]) rfl rfl (ruleD (7,64)) [] rfl ?_)
 intro w12 m g;have b12:=qal b11 (Nat.le_refl _) g;have m12:MapIs qas w12 w.heap.size 12 qew:=m;clear m g m11 b11
 go_wp2_with (refine qa7 _ rfl _ _ _ 193 191 rfl Tryz.underlying193 w.heap.size 12 qew rfl m12 (by decide) [111,119,110,101,114] (by decide) (.agg #[.int .i64 7,.int .i64 34]) rfl rfl (ruleD (7,34)) [] rfl ?_)
 intro w13 m g;have b13:=qal b12 (Nat.le_refl _) g;have m13:MapIs qas w13 w.heap.size 13 qgi:=m;clear m g m12 b12;go_wp2;go_ret;exact⟨w.heap.size,rfl,qmb ▸ m13,b13⟩
end Go.Proofs.YtgpjhibdongmbaaGreatDoor
namespace Go.Proofs.YtgpjhibdongmbaaGreatDoor
open Go.RowKit Ck
def qaw (name:Str):Int × Int:=(Ck.find? name).getD (0,0)
theorem qmc (name:Str):qay name=(qaw name).1:=by
 unfold qay qaw;cases Ck.find? name <;> rfl
theorem qft (name:Str):(qez name).getD (ruleD (0,0))=ruleD (qaw name):=by
 unfold qez qaw;cases Ck.find? name <;> rfl
theorem qj0 (name:Str):(qez name).isSome=(Ck.find? name).isSome:=by
 unfold qez;cases Ck.find? name <;> rfl
theorem qjf (a b:Int) (w:World):(Instr.field 191 (.agg #[.int .i64 a,.int .i64 b]) 0).run Tryz.prog w=.ok (.int .i64 a) w:=by kernel_rfl
theorem qh2 (w:World):(zeroValue 191).run Tryz.prog w=.ok (.agg #[.int .i64 0,.int .i64 0]) w:=by kernel_rfl
theorem qlq {w:World} {B:Nat} (m:MapIs qas w B 13 qez) (name:Str) (hn:name.length<=1000000000):(Instr.lookup 193 (.map (some B)) (.string (S name)) false).run Tryz.prog w=.ok (.agg #[.int .i64 (qaw name).1,.int .i64 (qaw name).2]) w:=by
 obtain⟨v,ps,h1,h2⟩:=m.look Tryz.underlying193 (qh2 w) (zd:=ruleD (0,0)) (zp:=[]) rfl name hn;rw [qft]at h2;rw [h1,qdg h2 rfl]
theorem qdf {w:World} {B:Nat} (m:MapIs qas w B 13 qez) (name:Str) (hn:name.length<=1000000000):(Instr.lookup 193 (.map (some B)) (.string (S name)) true).run Tryz.prog w=.ok (.tuple #[.agg #[.int .i64 (qaw name).1,.int .i64 (qaw name).2],.bool (Ck.find? name).isSome]) w:=by
 obtain⟨v,ps,h1,h2⟩:=m.look_ok Tryz.underlying193 (qh2 w) (zd:=ruleD (0,0)) (zp:=[]) rfl name hn;rw [qft]at h2;rw [h1,qdg h2 rfl,qj0]
theorem nt_Kind (name:Str) (w:World) (hn:name.length<=1000000000):Calls Tryz.prog 216 #[.string (S name)] w fun e w'=>e=.returned (.int .i64 (qay name))/\Below w.heap.size w w':=by
 have ck:=Lib.hid (fun W=>qke W);have hk:=Lib.hid (qmc name);have hfd:=qjf
 go_enter Tryz.func216,Tryz.ntmps216
 go_wp2_with (go_at_call 205;(with_reducible refine(ck.out _).mono ?_);rintro e w1 ⟨B,rfl,m,hb⟩;have hl:=qlq m name hn;clear m)
 go_ret;exact⟨qaf hk.out.symm,hb⟩
theorem nt_right (nm:Str) (k x:Int) (t:Str) (p1 p2 p3 p4:Option Addr) (n1 n2 n3 n4 q1 q2 q3 q4:Nat) (w:World) (h0:0<=x) (h1:x<18446744073709551616) (b1:n1<=140737488355328) (b2:n2<=140737488355328) (b3:n3<=140737488355328) (b4:n4<=140737488355328) (hn:nm.length<=1000000000):Calls Tryz.prog 206 #[.agg #[.string (S nm),.int .i64 k,.int .u64 x,.string (S t),.slice p1 n1 q1,.slice p2 n2 q2,.slice p3 n3 q3,.slice p4 n4 q4]] w fun e w'=>e=.returned (.bool (right ⟨nm,⟨k,x,t,n1,n2,n3,n4⟩⟩))/\Below w.heap.size w w':=by
 have ck:=Lib.hid (fun W=>nt_Kind nm W hn);have cf:=fun(kd:Int) W=>sc_Fits kd k x (S t) p1 p2 p3 p4 n1 n2 n3 n4 q1 q2 q3 q4 W h0 h1 b1 b2 b3 b4
 have hv:right ⟨nm,⟨k,x,t,n1,n2,n3,n4⟩⟩=(decide (qay nm ≠ 0) && Pr.fitsB (qay nm) k x t (n1+n2+n3+n4)):=rfl;have cf':=Lib.hid cf;have hv':=Lib.hid hv;clear cf hv;generalize qay nm=K at ck hv';by_cases hK:K=0
 ·have hKb:(K != 0)=false:=by rw [hK];rfl
  have hv2:=Lib.hid (show right ⟨nm,⟨k,x,t,n1,n2,n3,n4⟩⟩=false by rw [hv'.out,decide_eq_false (not_not_intro hK)];rfl);clear hv' hK cf'
  go_enter Tryz.func206,Tryz.ntmps206
  go_wp2_with (go_at_call 216;(with_reducible refine(ck.out _).mono ?_);rintro e w1 ⟨rfl,h1⟩;have k1:Bel w w1:=Bel.of (by(with_reducible repeat first|assumption|exact Bel.refl _|refine Bel.drew ?_|refine Bel.drewN ?_ _|refine Bel.alloc ?_ _)) h1;obtain⟨hc,hf⟩:=bcell h1;clear h1)
  go_ret;exact⟨qa3 hv2.out.symm,Bel.out (by(with_reducible repeat first|assumption|exact Bel.refl _|refine Bel.drew ?_|refine Bel.drewN ?_ _|refine Bel.alloc ?_ _))⟩
 ·have hKb:(K != 0)=true:=bne_iff_ne.2 hK
  have hv2:=Lib.hid (show right ⟨nm,⟨k,x,t,n1,n2,n3,n4⟩⟩=Pr.fitsB K k x t (n1+n2+n3+n4)by rw [hv'.out,decide_eq_true hK,Bool.true_and]);have cf2:=cf'.out K;clear hv' hK cf';rw [qc2]at cf2;generalize Pr.fitsB K k x t (n1+n2+n3+n4)=R at cf2 hv2;have cf3:=Lib.hid cf2;clear cf2
  go_enter Tryz.func206,Tryz.ntmps206
  go_wp2_with (first
   | (go_at_call 216;(with_reducible refine(ck.out _).mono ?_);rintro e w1 ⟨rfl,h1⟩;have k1:Bel w w1:=Bel.of (by(with_reducible repeat first|assumption|exact Bel.refl _|refine Bel.drew ?_|refine Bel.drewN ?_ _|refine Bel.alloc ?_ _)) h1;obtain⟨hc,hf⟩:=bcell h1;clear h1)
   | (go_at_call 217;(with_reducible refine(cf3.out _).mono ?_);rintro e w2 ⟨rfl,h2⟩;have k2:Bel w w2:=Bel.of (by(with_reducible repeat first|assumption|exact Bel.refl _|refine Bel.drew ?_|refine Bel.drewN ?_ _|refine Bel.alloc ?_ _)) h2;clear h2))
  go_ret;exact⟨qa3 hv2.out.symm,Bel.out (by(with_reducible repeat first|assumption|exact Bel.refl _|refine Bel.drew ?_|refine Bel.drewN ?_ _|refine Bel.alloc ?_ _))⟩
end Go.Proofs.YtgpjhibdongmbaaGreatDoor
namespace Go.Proofs.YtgpjhibdongmbaaGreatDoor
open Go.RowKit Ck
theorem qd3 (w:World) (b i:Nat) (v:Value):w.grownBy (w.setCell ⟨b,i,none⟩ v) (some b):=
 ⟨rfl,rfl,rfl,by simp [World.setCell],fun k _ hk=>Below.heap_setCell _ _ _ _ (fun e=>hk (by rw [e]))⟩
end Go.Proofs.YtgpjhibdongmbaaGreatDoor
namespace Go.Proofs.YtgpjhibdongmbaaGreatDoor
open Go.RowKit Ck
theorem bit_and (M tg:Int) (hM:M=126 ∨ M=84 ∨ M=4 ∨ M=64 ∨ M=34) (h1:1<=tg) (h6:tg<=6):(bits BinOp.and IntKind.i64 (M / 2 ^ tg.toNat) 1 == 0) = !bitOf M tg:=by
 have ht:tg=1 ∨ tg=2 ∨ tg=3 ∨ tg=4 ∨ tg=5 ∨ tg=6:=by omega
 rcases hM with rfl|rfl|rfl|rfl|rfl <;> rcases ht with rfl|rfl|rfl|rfl|rfl|rfl <;> rfl
theorem qgo (name:Str) (r:Int × Int) (h:Ck.find? name=some r):r.2=126 ∨ r.2=84 ∨ r.2=4 ∨ r.2=64 ∨ r.2=34:=by
 unfold Ck.find? at h;rw [Option.map_eq_some_iff]at h;obtain⟨a,h1,rfl⟩:=h;have:=List.mem_of_find?_eq_some h1;simp only [known,List.mem_cons,List.not_mem_nil,or_false]at this;rcases this with rfl|rfl|rfl|rfl|rfl|rfl|rfl|rfl|rfl|rfl|rfl|rfl|rfl <;> simp
theorem qby (n:PNote) (tg:Int) (last:Str) (ok:Bool):qb0 n tg last ok=if(Ck.find? n.name).isNone=true then 8 else if tg<1 ∨ 6<tg ∨ (bits BinOp.and IntKind.i64 ((qaw n.name).2 / 2 ^ tg.toNat) 1 == 0)=true then 1 else if right n=false then 12 else if ok=true/\ltS n.name last=true then 11 else if ok=true/\n.name=last then 9 else 0:=by
 unfold qb0 qaw;cases h:Ck.find? n.name with
 | none=>rfl
 | some r=>
  obtain⟨a,M⟩:=r;simp only [Option.isNone_some,Bool.false_eq_true,if_false,Option.getD_some];by_cases ht:1<=tg/\tg<=6
  ·simp only [bit_and M tg (qgo _ _ h) ht.1 ht.2,Bool.not_eq_true']
  ·have:tg<1 ∨ 6<tg:=by omega
   rcases this with h|h <;> simp [h]
theorem end8 (n:PNote) (tg:Int) (last:Str) (ok:Bool) (h:(Ck.find? n.name).isNone=true):(8:Int)=qb0 n tg last ok:=by
 rw [qby];rw [if_pos h]
theorem end1a (n:PNote) (tg:Int) (last:Str) (ok:Bool) (h0:(Ck.find? n.name).isNone=false) (h:tg<1):(1:Int)=qb0 n tg last ok:=by
 rw [qby];rw [if_neg (by rw [h0];exact Bool.false_ne_true)];rw [if_pos (.inl h)]
theorem end1b (n:PNote) (tg:Int) (last:Str) (ok:Bool) (h0:(Ck.find? n.name).isNone=false) (h:6<tg):(1:Int)=qb0 n tg last ok:=by
 rw [qby];rw [if_neg (by rw [h0];exact Bool.false_ne_true)];rw [if_pos (.inr (.inl h))]
theorem end1c (n:PNote) (tg:Int) (last:Str) (ok:Bool) (h0:(Ck.find? n.name).isNone=false) (h:(tg<1 ∨ 6<tg) ∨ (bits BinOp.and IntKind.i64 ((qaw n.name).2 / 2 ^ tg.toNat) 1 == 0)=true):(1:Int)=qb0 n tg last ok:=by
 rw [qby];rw [if_neg (by rw [h0];exact Bool.false_ne_true)];rw [or_assoc]at h;rw [if_pos h]
theorem end12 (n:PNote) (tg:Int) (last:Str) (ok:Bool) (h0:(Ck.find? n.name).isNone=false) (hm:(1<=tg/\tg<=6)/\(bits BinOp.and IntKind.i64 ((qaw n.name).2 / 2 ^ tg.toNat) 1 == 0)=false) (hr:(!right n)=true):(12:Int)=qb0 n tg last ok:=by
 rw [qby];rw [if_neg (by rw [h0];exact Bool.false_ne_true)]
 have hnm : ¬(tg<1 ∨ 6<tg ∨ (bits BinOp.and IntKind.i64 ((qaw n.name).2 / 2 ^ tg.toNat) 1 == 0)=true):=by
  rintro (h|h|h)
  ·omega
  ·omega
  ·rw [hm.2]at h;cases h
 rw [if_neg hnm];have hr':right n=false:=by simpa using hr
 rw [if_pos hr']
theorem end11 (n:PNote) (tg:Int) (last:Str) (ok:Bool) (h0:(Ck.find? n.name).isNone=false) (hm:(1<=tg/\tg<=6)/\(bits BinOp.and IntKind.i64 ((qaw n.name).2 / 2 ^ tg.toNat) 1 == 0)=false) (hr:(!right n)=false) (ho:ok=true) (hl:Op.bytesLess (S n.name).toList (S last).toList=true):(11:Int)=qb0 n tg last ok:=by
 rw [qby];rw [qgh]at hl;rw [if_neg (by rw [h0];exact Bool.false_ne_true)]
 have hnm : ¬(tg<1 ∨ 6<tg ∨ (bits BinOp.and IntKind.i64 ((qaw n.name).2 / 2 ^ tg.toNat) 1 == 0)=true):=by
  rintro (h|h|h)
  ·omega
  ·omega
  ·rw [hm.2]at h;cases h
 rw [if_neg hnm];have hr':right n=true:=by simpa using hr
 simp [hr',ho,hl]
theorem end9 (n:PNote) (tg:Int) (last:Str) (ok:Bool) (h0:(Ck.find? n.name).isNone=false) (hm:(1<=tg/\tg<=6)/\(bits BinOp.and IntKind.i64 ((qaw n.name).2 / 2 ^ tg.toNat) 1 == 0)=false) (hr:(!right n)=false) (ho:ok=true) (hl:Op.bytesLess (S n.name).toList (S last).toList=false) (he:((S n.name).toList == (S last).toList)=true):(9:Int)=qb0 n tg last ok:=by
 rw [qby];rw [qgh]at hl;rw [eq_S]at he;rw [if_neg (by rw [h0];exact Bool.false_ne_true)]
 have hnm : ¬(tg<1 ∨ 6<tg ∨ (bits BinOp.and IntKind.i64 ((qaw n.name).2 / 2 ^ tg.toNat) 1 == 0)=true):=by
  rintro (h|h|h)
  ·omega
  ·omega
  ·rw [hm.2]at h;cases h
 rw [if_neg hnm];have hr':right n=true:=by simpa using hr
 have he':n.name=last:=by simpa using he
 rw [he']at hl ⊢;simp [hr',ho,hl]
theorem end0a (n:PNote) (tg:Int) (last:Str) (ok:Bool) (h0:(Ck.find? n.name).isNone=false) (hm:(1<=tg/\tg<=6)/\(bits BinOp.and IntKind.i64 ((qaw n.name).2 / 2 ^ tg.toNat) 1 == 0)=false) (hr:(!right n)=false) (ho:ok=true) (hl:Op.bytesLess (S n.name).toList (S last).toList=false) (he:((S n.name).toList == (S last).toList)=false):(0:Int)=qb0 n tg last ok:=by
 rw [qby];rw [qgh]at hl;rw [eq_S]at he;rw [if_neg (by rw [h0];exact Bool.false_ne_true)]
 have hnm : ¬(tg<1 ∨ 6<tg ∨ (bits BinOp.and IntKind.i64 ((qaw n.name).2 / 2 ^ tg.toNat) 1 == 0)=true):=by
  rintro (h|h|h)
  ·omega
  ·omega
  ·rw [hm.2]at h;cases h
 rw [if_neg hnm];have hr':right n=true:=by simpa using hr
 have he' : ¬n.name=last:=by simpa using he
 simp [hr',ho,hl,he']
theorem end0b (n:PNote) (tg:Int) (last:Str) (ok:Bool) (h0:(Ck.find? n.name).isNone=false) (hm:(1<=tg/\tg<=6)/\(bits BinOp.and IntKind.i64 ((qaw n.name).2 / 2 ^ tg.toNat) 1 == 0)=false) (hr:(!right n)=false) (ho : ¬ok=true):(0:Int)=qb0 n tg last ok:=by
 rw [qby];rw [if_neg (by rw [h0];exact Bool.false_ne_true)]
 have hnm : ¬(tg<1 ∨ 6<tg ∨ (bits BinOp.and IntKind.i64 ((qaw n.name).2 / 2 ^ tg.toNat) 1 == 0)=true):=by
  rintro (h|h|h)
  ·omega
  ·omega
  ·rw [hm.2]at h;cases h
 rw [if_neg hnm];have hr':right n=true:=by simpa using hr
 simp [hr',ho]
theorem nt_one (nm:Str) (k x:Int) (t:Str) (p1 p2 p3 p4:Option Addr) (n1 n2 n3 n4 q1 q2 q3 q4:Nat) (tg:Int) (last:Str) (ok:Bool) (w:World) (h0:0<=x) (h1:x<18446744073709551616) (b1:n1<=140737488355328) (b2:n2<=140737488355328) (b3:n3<=140737488355328) (b4:n4<=140737488355328) (hn:nm.length<=1000000000):Calls Tryz.prog 184 #[.agg #[.string (S nm),.int .i64 k,.int .u64 x,.string (S t),.slice p1 n1 q1,.slice p2 n2 q2,.slice p3 n3 q3,.slice p4 n4 q4],.int .i64 tg,.string (S last),.bool ok] w fun e w'=>e=.returned (.int .i64 (qb0 ⟨nm,⟨k,x,t,n1,n2,n3,n4⟩⟩ tg last ok))/\Below w.heap.size w w':=by
 have ck:=Lib.hid (fun W=>qke W);have cr:=Lib.hid (fun W=>nt_right nm k x t p1 p2 p3 p4 n1 n2 n3 n4 q1 q2 q3 q4 W h0 h1 b1 b2 b3 b4 hn);clear h0 h1 b1 b2 b3 b4
 go_enter Tryz.func184,Tryz.ntmps184
 go_wp2
 go_region_held3 (fun w'=>w'.cell? ⟨w.heap.size,0,none⟩=some (.string (S nm))) (go_keep) ((go_at_call 205;(with_reducible refine(ck.out _).mono ?_);rintro e w1 ⟨B,rfl,m,hb⟩;have hl:=qdf m nm hn;have hl2:=qdf (m.bel (Bel.alloc (Bel.refl w1) (.cells #[.int .i64 0,.int .i64 0] 191))) nm hn;have k1:Bel w w1:=Bel.of (by(repeat (first|(with_reducible assumption)|(with_reducible exact Bel.refl _)|(with_reducible refine Bel.drew ?_)|(with_reducible refine Bel.drewN ?_ _)|(with_reducible refine Bel.alloc ?_ _)|((with_reducible refine qc4 ?_ ?hge);(case hge=>(first|omega|(simp;omega))))))) hb;obtain⟨hc,hf⟩:=bcell hb;have hz:=hb.size;simp at hz;have e0:w1.cell? ⟨w.heap.size,0,none⟩=some (.string (S nm)):=(hc w.heap.size 0 (by first|(simp;done)|(simp;omega))).trans (by first|(go_simp;done)|(simp;done)|rfl);have e1:w1.cell? ⟨w.heap.size,1,none⟩=some (.int .i64 k):=(hc w.heap.size 1 (by first|(simp;done)|(simp;omega))).trans (by first|(go_simp;done)|(simp;done)|rfl);have e2:w1.cell? ⟨w.heap.size,2,none⟩=some (.int .u64 x):=(hc w.heap.size 2 (by first|(simp;done)|(simp;omega))).trans (by first|(go_simp;done)|(simp;done)|rfl);have e3:w1.cell? ⟨w.heap.size,3,none⟩=some (.string (S t)):=(hc w.heap.size 3 (by first|(simp;done)|(simp;omega))).trans (by first|(go_simp;done)|(simp;done)|rfl);have e4:w1.cell? ⟨w.heap.size,4,none⟩=some (.slice p1 n1 q1):=(hc w.heap.size 4 (by first|(simp;done)|(simp;omega))).trans (by first|(go_simp;done)|(simp;done)|rfl);have e5:w1.cell? ⟨w.heap.size,5,none⟩=some (.slice p2 n2 q2):=(hc w.heap.size 5 (by first|(simp;done)|(simp;omega))).trans (by first|(go_simp;done)|(simp;done)|rfl);have e6:w1.cell? ⟨w.heap.size,6,none⟩=some (.slice p3 n3 q3):=(hc w.heap.size 6 (by first|(simp;done)|(simp;omega))).trans (by first|(go_simp;done)|(simp;done)|rfl);have e7:w1.cell? ⟨w.heap.size,7,none⟩=some (.slice p4 n4 q4):=(hc w.heap.size 7 (by first|(simp;done)|(simp;omega))).trans (by first|(go_simp;done)|(simp;done)|rfl);have hz1:w.heap.size<w1.heap.size:=(by omega);clear m hb))
 all_goals go_wp2_with (first
   | (go_at_call 206;(with_reducible refine(cr.out _).mono ?_);rintro e w2 ⟨rfl,h2⟩;have k2:Bel w w2:=Bel.of (by(repeat (first|(with_reducible assumption)|(with_reducible exact Bel.refl _)|(with_reducible refine Bel.drew ?_)|(with_reducible refine Bel.drewN ?_ _)|(with_reducible refine Bel.alloc ?_ _)|((with_reducible refine qc4 ?_ ?hge);(case hge=>(first|omega|(simp;omega))))))) h2;obtain⟨hc2,hf2⟩:=bcell h2;clear h2))
 all_goals go_ret
 all_goals refine⟨qaf ?_,Bel.out (by(repeat (first|(with_reducible assumption)|(with_reducible exact Bel.refl _)|(with_reducible refine Bel.drew ?_)|(with_reducible refine Bel.drewN ?_ _)|(with_reducible refine Bel.alloc ?_ _)|((with_reducible refine qc4 ?_ ?hge);(case hge=>(first|omega|(simp;omega)))))))⟩
 all_goals first|exact end8 ⟨nm,⟨k,x,t,n1,n2,n3,n4⟩⟩ tg last ok (by assumption)|exact end11 ⟨nm,⟨k,x,t,n1,n2,n3,n4⟩⟩ tg last ok (by assumption) (by assumption) (by assumption) (by assumption) (by assumption)|exact end9 ⟨nm,⟨k,x,t,n1,n2,n3,n4⟩⟩ tg last ok (by assumption) (by assumption) (by assumption) (by assumption) (by assumption) (by assumption)|exact end0a ⟨nm,⟨k,x,t,n1,n2,n3,n4⟩⟩ tg last ok (by assumption) (by assumption) (by assumption) (by assumption) (by assumption) (by assumption)|exact end0b ⟨nm,⟨k,x,t,n1,n2,n3,n4⟩⟩ tg last ok (by assumption) (by assumption) (by assumption) (by assumption)|exact end12 ⟨nm,⟨k,x,t,n1,n2,n3,n4⟩⟩ tg last ok (by assumption) (by assumption) (by assumption)|exact end1c ⟨nm,⟨k,x,t,n1,n2,n3,n4⟩⟩ tg last ok (by assumption) (by assumption)|exact end1a ⟨nm,⟨k,x,t,n1,n2,n3,n4⟩⟩ tg last ok (by assumption) (by assumption)|exact end1b ⟨nm,⟨k,x,t,n1,n2,n3,n4⟩⟩ tg last ok (by assumption) (by assumption)
end Go.Proofs.YtgpjhibdongmbaaGreatDoor
namespace Go.Proofs.YtgpjhibdongmbaaGreatDoor
open Go.RowKit Ck
theorem nt_Check (v:Value) (l:List PNote) (tg:Int) (w:World) (hv:Notes w v l) (hl : ∀n ∈ l,n.name.length<=1000000000):Calls Tryz.prog 150 #[v,.int .i64 tg] w fun e w'=>e=.returned (.int .i64 (qam l tg))/\Below w.heap.size w w':=by
 obtain⟨p,c,rfl,hlen,hcap,hel⟩:=hv;by_cases h8:8<l.length
 ·have V:=Lib.hid (show qam l tg=3 by unfold qam;rw [if_pos h8])
  have h8':(8:Int)<(l.length:Int):=by omega
  clear hel hl
  go_enter Tryz.func150,Tryz.ntmps150
  go_wp2;go_ret
  exact⟨qaf V.out.symm,Below.refl _ _⟩
 ·have V:=Lib.hid (show qc5 tg l [] false=qam l tg by unfold qam;rw [if_neg h8])
  have h8' : ¬(8:Int)<(l.length:Int):=by omega
  have EL:=Lib.hid hel;have HL:=Lib.hid hl;clear hel hl;generalize qam l tg=T at V
  go_enter Tryz.func150,Tryz.ntmps150
  go_wp2
  go_loopw [5,14] (fun t i wr => ∃(k:Nat) (last:Str),k<=l.length/\t=.string (S last)/\i=.int .i64 k/\Bel w wr/\Hid (qc5 tg (l.drop k) last (decide (0<k))=T)) (fun _ i _=>l.length-(intOf i).toNat)
  case atStart=>exact⟨0,[],by omega,rfl,rfl,Bel.refl _,V⟩
  case round=>
   obtain⟨k,last,hk,rfl,rfl,kw,hgo⟩:=hrel;by_cases hlt:k<l.length
   ·have hg:l[k]? = some l[k]:=List.getElem?_eq_getElem hlt
    obtain⟨b,off,rfl,hbs,vs,hce,nv,rfl,p1,p2,p3,p4,c1,c2,c3,c4,rfl,u0,u1,g1,g2,g3,g4⟩:=EL.out k _ hg;have hnl:=HL.out _ (List.getElem_mem hlt);have hdr:l.drop k=l[k] :: l.drop (k+1):=List.drop_eq_getElem_cons hlt;have hgo2:=hgo.out;rw [hdr]at hgo2;clear hgo hdr hg;generalize l[k]=n at *;obtain⟨nm,⟨nk,nx,nt,m1,m2,m3,m4⟩⟩:=n;have co:=Lib.hid (fun ok W=>nt_one nm nk nx nt p1 p2 p3 p4 m1 m2 m3 m4 c1 c2 c3 c4 tg last ok W u0 u1 g1 g2 g3 g4 hnl);have GO:=Lib.hid hgo2;have e0:wr.cell? ⟨b,off+k*8,none⟩=some (.string (S nm)):=kw.some (hce 0 _ rfl);have e1:wr.cell? ⟨b,off+k*8+1,none⟩=some (.int .i64 nk):=kw.some (hce 1 _ rfl);have e2:wr.cell? ⟨b,off+k*8+2,none⟩=some (.int .u64 nx):=kw.some (hce 2 _ rfl);have e3:wr.cell? ⟨b,off+k*8+3,none⟩=some (.string (S nt)):=kw.some (hce 3 _ rfl);have e4:wr.cell? ⟨b,off+k*8+4,none⟩=some (.slice p1 m1 c1):=kw.some (hce 4 _ rfl);have e5:wr.cell? ⟨b,off+k*8+5,none⟩=some (.slice p2 m2 c2):=kw.some (hce 5 _ rfl);have e6:wr.cell? ⟨b,off+k*8+6,none⟩=some (.slice p3 m3 c3):=kw.some (hce 6 _ rfl);have e7:wr.cell? ⟨b,off+k*8+7,none⟩=some (.slice p4 m4 c4):=kw.some (hce 7 _ rfl);clear hce hgo2 u0 u1 g1 g2 g3 g4 hnl;have hki:((k:Int)<(l.length:Int)):=by omega
    have hwr:IntKind.i64.wrap ((k:Int)+1)=(k:Int)+1:=wrap_small _ (by omega) (by omega)
    go_wp2_with (go_at_call 184;(with_reducible refine(co.out _ _).mono ?_);rintro e w2 ⟨rfl,h2⟩;have k2:Bel w w2:=Bel.of (by(repeat (first|(with_reducible assumption)|(with_reducible exact Bel.refl _)|(with_reducible refine Bel.drew ?_)|(with_reducible refine Bel.drewN ?_ _)|(with_reducible refine Bel.alloc ?_ _)|((with_reducible refine qc4 ?_ ?hge);(case hge=>(first|omega|(simp;omega))))))) h2;obtain⟨hc2,hf2⟩:=bcell h2;clear h2)
    ·rename_i hne
     go_ret;refine⟨qaf ?_,Bel.out (by(repeat (first|(with_reducible assumption)|(with_reducible exact Bel.refl _)|(with_reducible refine Bel.drew ?_)|(with_reducible refine Bel.drewN ?_ _)|(with_reducible refine Bel.alloc ?_ _)|((with_reducible refine qc4 ?_ ?hge);(case hge=>(first|omega|(simp;omega)))))))⟩
     have G:=GO.out;unfold qc5 at G;rw [if_neg (by simpa using hne)]at G;exact G
    ·rename_i heq
     refine⟨⟨k+1,nm,by omega,rfl,rfl,(by(repeat (first|(with_reducible assumption)|(with_reducible exact Bel.refl _)|(with_reducible refine Bel.drew ?_)|(with_reducible refine Bel.drewN ?_ _)|(with_reducible refine Bel.alloc ?_ _)|((with_reducible refine qc4 ?_ ?hge);(case hge=>(first|omega|(simp;omega))))))),?hnext⟩,by simp [intOf];omega⟩
     case hnext=>
      have G:=GO.out;unfold qc5 at G;rw [if_pos (by simpa using heq)]at G;rw [decide_eq_true (Nat.succ_pos k)];exact Lib.hid G
   ·have hkl:k=l.length:=by omega
    subst hkl;have G:=hgo.out;rw [List.drop_length]at G;have G0:T=0:=G.symm;clear hgo G;go_wp2;go_ret;exact⟨qaf G0.symm,kw.out⟩
end Go.Proofs.YtgpjhibdongmbaaGreatDoor
namespace Go.Proofs.YtgpjhibdongmbaaGreatDoor
open Go.RowKit Ck
theorem row_bel {w w':World} {B:Nat} {e:TypeId} {size:Nat} {v:Value} {n:Nat} {xs:List Value} (h:w.ownsRow B e size v n xs) (k:Bel w w'):w'.ownsRow B e size v n xs:=by
 refine⟨h.1,?_⟩;rcases h.2 with hn|⟨g,cap,cur,rfl,hb,hgg,rest⟩
 ·exact .inl hn
 ·exact .inr ⟨g,cap,cur,rfl,hb,(Below.block k g (Array.getElem?_eq_some_iff.1 hgg).1).trans hgg,rest⟩
end Go.Proofs.YtgpjhibdongmbaaGreatDoor
namespace Go.Proofs.YtgpjhibdongmbaaGreatDoor
open Go.RowKit
theorem qa8 {P:Program} {id:Nat} {Q:Exit->Act->World->Prop} {a:Act} {w wd:World} {l:List Oper} (n:Nat) (hm:P.follows .mixedOrders=true) (hB:Region.lexTailB .any l.toArray n=true) (hwd:wd=w.drew)
  (h:wpStill P l.toArray wd (fun a'=>wpList P l.toArray Q (l.drop n) a' wd) (l.take n) a):(Code.region id l.toArray true).wp P Q a w:=by subst hwd;exact wp_region_still_tail n hm hB h
theorem qab {P:Program} {ops:Array Oper} {w:World} {Q:Act->Prop} {o:Oper} {rest:List Oper} {a:Act} (h:Region.wanted o (yielded ops a.tmps)=false) (k:wpStill P ops w Q rest (a.put o.dst undef)):wpStill P ops w Q (o :: rest) a:=by
 unfold wpStill;rw [h];exact k
end Go.Proofs.YtgpjhibdongmbaaGreatDoor
namespace Go.Proofs.YtgpjhibdongmbaaGreatDoor
open Go.RowKit Ck
end Go.Proofs.YtgpjhibdongmbaaGreatDoor
namespace Go.Proofs.YtgpjhibdongmbaaGreatDoor
open Go.RowKit Ck
section
variable {w0 : World} {fb : Nat} {d : Str} {num : Int} {w : World} {bl : List (Nat × Array Value × TypeId)} {N : Nat} {ps : List PProb} {wx : World}
end
end Go.Proofs.YtgpjhibdongmbaaGreatDoor
namespace Go.Proofs.YtgpjhibdongmbaaGreatDoor
open Go.RowKit Ck
end Go.Proofs.YtgpjhibdongmbaaGreatDoor
namespace Go.Proofs.YtgpjhibdongmbaaGreatDoor
open Go.RowKit Ck
end Go.Proofs.YtgpjhibdongmbaaGreatDoor
namespace Go.Proofs.YtgpjhibdongmbaaGreatDoor
open Go.RowKit Ck
theorem qm4 {w:World} {B C:Nat} {e:TypeId} {z:Nat} {v:Value} {n:Nat} {xs:List Value} (h:w.ownsRow C e z v n xs) (hb:B<=C):w.ownsRow B e z v n xs:=by
 refine⟨h.1,?_⟩;rcases h.2 with hn|⟨g,cap,cur,h1,h2,rest⟩
 ·exact .inl hn
 ·exact .inr ⟨g,cap,cur,h1,Nat.le_trans hb h2,rest⟩
end Go.Proofs.YtgpjhibdongmbaaGreatDoor
namespace Go.Proofs.YtgpjhibdongmbaaGreatDoor.Ck
inductive Fin (s:PSchema):Str->Prop
 | mk (n:Str) (m:PMsg) (h:msgOf s n=some m) (hk : ∀k,k ∈ needs m->(msgOf s k).isSome=true->Fin s k):Fin s n
theorem getD_set (l:List Bool) (i k:Nat) (h:i<l.length):(l.set i true).getD k false=if k=i then true else l.getD k false:=by
 by_cases hk:k=i
 ·subst hk;simp [List.getD,h]
 ·simp [List.getD,hk,List.getElem?_set_ne (Ne.symm hk)]
end Go.Proofs.YtgpjhibdongmbaaGreatDoor.Ck
namespace Go.Proofs.YtgpjhibdongmbaaGreatDoor
open Go.RowKit Ck
end Go.Proofs.YtgpjhibdongmbaaGreatDoor
namespace Go.Proofs.YtgpjhibdongmbaaGreatDoor
open Go.RowKit
theorem qfk (s:ByteArray) (l:List UInt8) (w:World) (hl:s.data.toList=l) :
  Calls Tryz.prog 103 #[.string s] w fun e w'=>e=.returned (.bool (Id.isWord l))/\w=w':=by
 have hb:s.toList=l:=by rw [ByteArray.toList_eq];exact hl
 have H:=Lib.hid hb;clear hl hb
 go_enter Tryz.func103,Tryz.ntmps103
 go_wp2
 all_goals go_ret
 all_goals
  refine⟨qa3 ?_,rfl⟩;simp only [H.out,beq_iff_eq,beq_eq_false_iff_ne,ne_eq]at *
  first
  | contradiction
  | (symm;apply word_of;subst l;decide)
  | (symm;apply decide_eq_false;simp only [Id.words,List.mem_cons,List.not_mem_nil,or_false,not_or];(repeat' (first|assumption|apply And.intro));done)
theorem qly (b:UInt8) (w:World):Calls Tryz.prog 166 #[.int .u8 (b.toNat:Int)] w fun e w'=>e=.returned (.bool (Id.smB b))/\w=w':=by
 have hb:=b.toNat_lt
 go_enter Tryz.func166,Tryz.ntmps166
 go_wp2
 all_goals go_ret
 all_goals exact⟨qa3 (by rw [Bool.eq_iff_iff];simp [Id.smB]at *;try omega),rfl⟩
theorem qiq (b:UInt8) (w:World):Calls Tryz.prog 167 #[.int .u8 (b.toNat:Int)] w fun e w'=>e=.returned (.bool (Id.caB b))/\w=w':=by
 have hb:=b.toNat_lt
 go_enter Tryz.func167,Tryz.ntmps167
 go_wp2
 all_goals go_ret
 all_goals exact⟨qa3 (by rw [Bool.eq_iff_iff];simp [Id.caB]at *;try omega),rfl⟩
theorem qlz (s:ByteArray) (l:List UInt8) (w:World) (hl:s.data.toList=l) (hs:s.size<=1000000000) :
  Calls Tryz.prog 102 #[.string s] w fun e w'=>e=.returned (.tuple #[.string (S (Id.splitL l).1),.string (S (Id.splitL l).2)])/\∃n,w.drewN n=w':=by
 have hsz:l.length=s.size:=by rw [←hl];exact len_l s
 have HL:=Lib.hid hl;clear hl
 go_enter Tryz.func102,Tryz.ntmps102
 go_wp2
 go_loopw [4] (fun i wr => ∃k:Nat,k<=s.size/\i=.int .i64 ((k:Int)-1)/\w=wr/\Hid (∀j,k<=j->l[j]? ≠ some 46)) (fun i _=>(intOf i+1).toNat)
 case atStart=>exact⟨s.size,Nat.le_refl _,rfl,rfl,Lib.hid (fun j hj=>by rw [List.getElem?_eq_none (by omega)];simp)⟩
 case round=>
  obtain⟨k,hk,rfl,rfl,hno⟩:=hrel;cases k with
  | zero=>
   have hd:Id.lastDot l = -1:=(Id.lastDot_none l).2 fun hm=>by
    obtain⟨j,hj⟩:=List.mem_iff_getElem?.1 hm;exact hno.out j (by omega) hj
   have hv:Id.splitL l=([],l):=by unfold Id.splitL;rw [if_pos hd]
   have V:=Lib.hid hv;have hneg : ¬((0:Int)<=((0:Nat):Int)-1):=by omega
   clear hd hv;go_wp2;go_ret2;exact⟨by rw [V.out, ←HL.out];rfl,0,rfl⟩
  | succ j=>
   have hj:j<s.size:=by omega
   have hg:l[j]? = some (s[j]'hj):=by rw [←HL.out];exact get_l s j hj
   have hij:((j+1:Nat):Int)-1=(j:Int):=by omega
   have q0:(0:Int)<=j:=by omega
   have q1:(j:Int)<s.size:=by omega
   have q2:s[j].toNat<256:=UInt8.toNat_lt _;simp only [hij];by_cases hc:s[j]'hj=46
   ·have hd:Id.lastDot l=j:=Id.lastDot_at l j (by rw [hg,hc]) (fun i hi=>hno.out i (by omega))
    have hv:Id.splitL l=(l.take j,l.drop (j+1)):=by unfold Id.splitL;rw [if_neg (by omega),hd];rfl
    have h1:S (l.take j)=s.extract 0 j:=by symm;apply S_of;rw [qeh,HL.out];simp
    have h2:S (l.drop (j+1))=s.extract (j+1) s.size:=by
     symm;apply S_of
     rw [qeh,HL.out];exact List.take_of_length_le (by rw [List.length_drop,hsz];exact Nat.le_refl _)
    have V:=Lib.hid hv;have H1:=Lib.hid h1;have H2:=Lib.hid h2;have hb:((s[j].toNat:Int) == 46)=true:=by rw [hc];rfl
    clear hd hv h1 h2 hg hc hij;have s1:IntKind.i64.wrap ((j:Int)+1)=(j:Int)+1:=IntWalk.i64_in _ (by omega);have s2:(0:Int)<=(j:Int)+1:=by omega
    have s3:((j:Int)+1).toNat=j+1:=by omega
    have s4:j+1<=s.size:=by omega
    have s5:(j:Int)+1<=s.size:=by omega
    go_wp2
    go_quiet (fail)
    go_wp2;go_ret2
    exact⟨by(rw [V.out,H1.out,H2.out]);rfl,_,rfl⟩
   ·have hb:((s[j].toNat:Int) == 46)=false:=beq_eq_false_iff_ne.2 (fun e=>hc (by apply UInt8.toNat_inj.1;show s[j].toNat=46;omega))
    have hno2:Hid (∀i,j<=i->l[i]? ≠ some 46):=Lib.hid (fun i hi=>by
     by_cases e:i=j
     ·subst e;rw [hg];simpa using hc
     ·exact hno.out i (by omega))
    clear hg hc hij;go_wp2;go_roundw
    case rel=>exact⟨j,by omega,rfl,trivial,hno2⟩
    case measure=>simp [intOf]
end Go.Proofs.YtgpjhibdongmbaaGreatDoor
