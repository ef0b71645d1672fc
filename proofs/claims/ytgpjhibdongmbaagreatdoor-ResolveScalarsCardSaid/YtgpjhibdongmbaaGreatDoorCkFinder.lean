import Derived.Test.YtgpjhibdongmbaaGreatDoorRsMem
import Derived.Test.YtgpjhibdongmbaaGreatDoorMap
import Derived.Test.YtgpjhibdongmbaaGreatDoorPrProg1
import Derived.Deep.RegionLaw
import Derived.Deep.AppendLies
set_option maxRecDepth 100000
set_option maxHeartbeats 4000000
set_option linter.unusedVariables false
set_option linter.unusedSimpArgs false
namespace Go.Proofs.YtgpjhibdongmbaaGreatDoor
section
open Go.RowKit Ck
def qir:List Value->Option (DataW Unit × List MemPlace)
 | [.int .i64 a,.int .i64 b]=>some (.agg [.lit (.int .i64 a),.lit (.int .i64 b)],[])
 | _=>none
def qaj:Value->Option (DataW Unit × List MemPlace)
 | .agg cs=>qir cs.toList
 | _=>none
theorem qcx {v:Value} {d:DataW Unit × List MemPlace} {a b:Int} (h:qaj v=some d) (hd:d.1=.agg [.lit (.int .i64 a),.lit (.int .i64 b)]):v=.agg #[.int .i64 a,.int .i64 b]:=by
 unfold qaj at h
 split at h
 ·rename_i cs
  obtain⟨l⟩:=cs;simp only at h;unfold qir at h
  split at h
  ·cases h
   simp at hd;obtain⟨rfl,rfl⟩:=hd;rfl
  ·cases h
 ·cases h
def ruleD (r:Int × Int):DataW Unit:=.agg [.lit (.int .i64 r.1),.lit (.int .i64 r.2)]
def qea (name:Str):Option (DataW Unit):=(Ck.find? name).map ruleD
def qh3:Str->Option (DataW Unit):=fun k=>if k=[100,101,112,114,101,99,97,116,101,100]then some (ruleD (1,126))else none
def qh2:Str->Option (DataW Unit):=fun k=>if k=[100,111,99]then some (ruleD (7,126))else qh3 k
def qh1:Str->Option (DataW Unit):=fun k=>if k=[97,108,105,97,115]then some (ruleD (7,84))else qh2 k
def qh0:Str->Option (DataW Unit):=fun k=>if k=[115,105,110,99,101]then some (ruleD (4,84))else qh1 k
def qgz:Str->Option (DataW Unit):=fun k=>if k=[117,110,116,105,108]then some (ruleD (4,84))else qh0 k
def qgy:Str->Option (DataW Unit):=fun k=>if k=[109,105,110]then some (ruleD (3,4))else qgz k
def qgx:Str->Option (DataW Unit):=fun k=>if k=[109,97,120]then some (ruleD (3,4))else qgy k
def qgw:Str->Option (DataW Unit):=fun k=>if k=[108,101,110,103,116,104]then some (ruleD (4,4))else qgx k
def qgv:Str->Option (DataW Unit):=fun k=>if k=[115,101,99,114,101,116]then some (ruleD (1,4))else qgw k
def qe9:Str->Option (DataW Unit):=fun k=>if k=[105,100,101,109,112,111,116,101,110,116]then some (ruleD (1,64))else qgv k
def qe8:Str->Option (DataW Unit):=fun k=>if k=[116,105,109,101,111,117,116]then some (ruleD (4,64))else qe9 k
def qe7:Str->Option (DataW Unit):=fun k=>if k=[114,111,117,116,101]then some (ruleD (7,64))else qe8 k
def qft:Str->Option (DataW Unit):=fun k=>if k=[111,119,110,101,114]then some (ruleD (7,34))else qe7 k
theorem ql9:qft=qea:=by
 funext k
 unfold qea Ck.find? Ck.known;unfold qft;unfold qe7;unfold qe8;unfold qe9;unfold qgv;unfold qgw;unfold qgx;unfold qgy;unfold qgz;unfold qh0;unfold qh1;unfold qh2;unfold qh3;simp only [List.find?_cons,List.find?_nil];by_cases h0:k=[100,101,112,114,101,99,97,116,101,100]
 ·subst h0;rfl
 by_cases h1:k=[100,111,99]
 ·subst h1;rfl
 by_cases h2:k=[97,108,105,97,115]
 ·subst h2;rfl
 by_cases h3:k=[115,105,110,99,101]
 ·subst h3;rfl
 by_cases h4:k=[117,110,116,105,108]
 ·subst h4;rfl
 by_cases h5:k=[109,105,110]
 ·subst h5;rfl
 by_cases h6:k=[109,97,120]
 ·subst h6;rfl
 by_cases h7:k=[108,101,110,103,116,104]
 ·subst h7;rfl
 by_cases h8:k=[115,101,99,114,101,116]
 ·subst h8;rfl
 by_cases h9:k=[105,100,101,109,112,111,116,101,110,116]
 ·subst h9;rfl
 by_cases h10:k=[116,105,109,101,111,117,116]
 ·subst h10;rfl
 by_cases h11:k=[114,111,117,116,101]
 ·subst h11;rfl
 by_cases h12:k=[111,119,110,101,114]
 ·subst h12;rfl
 simp [h0,h1,h2,h3,h4,h5,h6,h7,h8,h9,h10,h11,h12,Ne.symm h0,Ne.symm h1,Ne.symm h2,Ne.symm h3,Ne.symm h4,Ne.symm h5,Ne.symm h6,Ne.symm h7,Ne.symm h8,Ne.symm h9,Ne.symm h10,Ne.symm h11,Ne.symm h12]
def qlw (w:World) (e:Ending) (w':World):Prop := ∃B:Nat,e=.returned (.map (some B))/\MapIs qaj w' B 13 qea/\Below w.heap.size w w'
theorem qag {w a b:World} {B:Nat} (h:Below w.heap.size w a) (hB:w.heap.size<=B) (hg:a.grownBy b (some B)):Below w.heap.size w b:=h.grown hg h.size (fun k hk=>by cases hk;exact hB)
theorem qjk (w:World):Calls Tryz.prog 205 #[] w (qlw w):=by
 have hmm := @run_makeMap Tryz.prog
 go_enter Tryz.func205,Tryz.ntmps205
 have m0:MapIs (H:=Unit) qaj (w.alloc (.map #[] 0)) w.heap.size 0 (fun _=>none):=MapIs.made w qaj;have b0:Below w.heap.size w (w.alloc (.map #[] 0)):=(Below.refl _ _).alloc (Nat.le_refl _) _
 go_wp2_with (refine qa6 _ rfl _ _ _ 193 191 rfl Tryz.underlying193 w.heap.size 0 (fun _=>none) rfl m0 (by decide) [100,101,112,114,101,99,97,116,101,100] (by decide) (.agg #[.int .i64 1,.int .i64 126]) rfl rfl (ruleD (1,126)) [] rfl ?_)
 intro w1 m g;have b1:=qag b0 (Nat.le_refl _) g;have m1:MapIs qaj w1 w.heap.size 1 qh3:=m;clear m g m0 b0
 go_wp2_with (refine qa6 _ rfl _ _ _ 193 191 rfl Tryz.underlying193 w.heap.size 1 qh3 rfl m1 (by decide) [100,111,99] (by decide) (.agg #[.int .i64 7,.int .i64 126]) rfl rfl (ruleD (7,126)) [] rfl ?_)
 intro w2 m g;have b2:=qag b1 (Nat.le_refl _) g;have m2:MapIs qaj w2 w.heap.size 2 qh2:=m;clear m g m1 b1
 go_wp2_with (refine qa6 _ rfl _ _ _ 193 191 rfl Tryz.underlying193 w.heap.size 2 qh2 rfl m2 (by decide) [97,108,105,97,115] (by decide) (.agg #[.int .i64 7,.int .i64 84]) rfl rfl (ruleD (7,84)) [] rfl ?_)
 intro w3 m g;have b3:=qag b2 (Nat.le_refl _) g;have m3:MapIs qaj w3 w.heap.size 3 qh1:=m;clear m g m2 b2
 go_wp2_with (refine qa6 _ rfl _ _ _ 193 191 rfl Tryz.underlying193 w.heap.size 3 qh1 rfl m3 (by decide) [115,105,110,99,101] (by decide) (.agg #[.int .i64 4,.int .i64 84]) rfl rfl (ruleD (4,84)) [] rfl ?_)
 intro w4 m g;have b4:=qag b3 (Nat.le_refl _) g;have m4:MapIs qaj w4 w.heap.size 4 qh0:=m;clear m g m3 b3
 go_wp2_with (refine qa6 _ rfl _ _ _ 193 191 rfl Tryz.underlying193 w.heap.size 4 qh0 rfl m4 (by decide) [117,110,116,105,108] (by decide) (.agg #[.int .i64 4,.int .i64 84]) rfl rfl (ruleD (4,84)) [] rfl ?_)
 intro w5 m g;have b5:=qag b4 (Nat.le_refl _) g;have m5:MapIs qaj w5 w.heap.size 5 qgz:=m;clear m g m4 b4
 go_wp2_with (refine qa6 _ rfl _ _ _ 193 191 rfl Tryz.underlying193 w.heap.size 5 qgz rfl m5 (by decide) [109,105,110] (by decide) (.agg #[.int .i64 3,.int .i64 4]) rfl rfl (ruleD (3,4)) [] rfl ?_)
 intro w6 m g;have b6:=qag b5 (Nat.le_refl _) g;have m6:MapIs qaj w6 w.heap.size 6 qgy:=m;clear m g m5 b5
 go_wp2_with (refine qa6 _ rfl _ _ _ 193 191 rfl Tryz.underlying193 w.heap.size 6 qgy rfl m6 (by decide) [109,97,120] (by decide) (.agg #[.int .i64 3,.int .i64 4]) rfl rfl (ruleD (3,4)) [] rfl ?_)
 intro w7 m g;have b7:=qag b6 (Nat.le_refl _) g;have m7:MapIs qaj w7 w.heap.size 7 qgx:=m;clear m g m6 b6
 go_wp2_with (refine qa6 _ rfl _ _ _ 193 191 rfl Tryz.underlying193 w.heap.size 7 qgx rfl m7 (by decide) [108,101,110,103,116,104] (by decide) (.agg #[.int .i64 4,.int .i64 4]) rfl rfl (ruleD (4,4)) [] rfl ?_)
 intro w8 m g;have b8:=qag b7 (Nat.le_refl _) g;have m8:MapIs qaj w8 w.heap.size 8 qgw:=m;clear m g m7 b7
 go_wp2_with (refine qa6 _ rfl _ _ _ 193 191 rfl Tryz.underlying193 w.heap.size 8 qgw rfl m8 (by decide) [115,101,99,114,101,116] (by decide) (.agg #[.int .i64 1,.int .i64 4]) rfl rfl (ruleD (1,4)) [] rfl ?_)
 intro w9 m g;have b9:=qag b8 (Nat.le_refl _) g;have m9:MapIs qaj w9 w.heap.size 9 qgv:=m;clear m g m8 b8
 go_wp2_with (refine qa6 _ rfl _ _ _ 193 191 rfl Tryz.underlying193 w.heap.size 9 qgv rfl m9 (by decide) [105,100,101,109,112,111,116,101,110,116] (by decide) (.agg #[.int .i64 1,.int .i64 64]) rfl rfl (ruleD (1,64)) [] rfl ?_)
 intro w10 m g;have b10:=qag b9 (Nat.le_refl _) g;have m10:MapIs qaj w10 w.heap.size 10 qe9:=m;clear m g m9 b9
 go_wp2_with (refine qa6 _ rfl _ _ _ 193 191 rfl Tryz.underlying193 w.heap.size 10 qe9 rfl m10 (by decide) [116,105,109,101,111,117,116] (by decide) (.agg #[.int .i64 4,.int .i64 64]) rfl rfl (ruleD (4,64)) [] rfl ?_)
 intro w11 m g;have b11:=qag b10 (Nat.le_refl _) g;have m11:MapIs qaj w11 w.heap.size 11 qe8:=m;clear m g m10 b10
 go_wp2_with (refine qa6 _ rfl _ _ _ 193 191 rfl Tryz.underlying193 w.heap.size 11 qe8 rfl m11 (by decide) [114,111,117,116,101] (by decide) (.agg #[.int .i64 7,.int .i64 64]) rfl rfl (ruleD (7,64)) [] rfl ?_)
 intro w12 m g;have b12:=qag b11 (Nat.le_refl _) g;have m12:MapIs qaj w12 w.heap.size 12 qe7:=m;clear m g m11 b11
 go_wp2_with (refine qa6 _ rfl _ _ _ 193 191 rfl Tryz.underlying193 w.heap.size 12 qe7 rfl m12 (by decide) [111,119,110,101,114] (by decide) (.agg #[.int .i64 7,.int .i64 34]) rfl rfl (ruleD (7,34)) [] rfl ?_)
 intro w13 m g;have b13:=qag b12 (Nat.le_refl _) g;have m13:MapIs qaj w13 w.heap.size 13 qft:=m;clear m g m12 b12;go_wp2;go_ret;exact⟨w.heap.size,rfl,ql9 ▸ m13,b13⟩
end
section
open Go.RowKit Ck
def qal (name:Str):Int × Int:=(Ck.find? name).getD (0,0)
theorem qla (name:Str):qan name=(qal name).1:=by
 unfold qan qal;cases Ck.find? name <;> rfl
theorem qf3 (name:Str):(qea name).getD (ruleD (0,0))=ruleD (qal name):=by
 unfold qea qal;cases Ck.find? name <;> rfl
theorem qi5 (name:Str):(qea name).isSome=(Ck.find? name).isSome:=by
 unfold qea;cases Ck.find? name <;> rfl
theorem qiq (a b:Int) (w:World):(Instr.field 191 (.agg #[.int .i64 a,.int .i64 b]) 0).run Tryz.prog w=.ok (.int .i64 a) w:=by kernel_rfl
theorem qgc (w:World):(zeroValue 191).run Tryz.prog w=.ok (.agg #[.int .i64 0,.int .i64 0]) w:=by kernel_rfl
theorem qkr {w:World} {B:Nat} (m:MapIs qaj w B 13 qea) (name:Str) (hn:name.length<=1000000000):(Instr.lookup 193 (.map (some B)) (.string (S name)) false).run Tryz.prog w=.ok (.agg #[.int .i64 (qal name).1,.int .i64 (qal name).2]) w:=by
 obtain⟨v,ps,h1,h2⟩:=m.look Tryz.underlying193 (qgc w) (zd:=ruleD (0,0)) (zp:=[]) rfl name hn;rw [qf3]at h2;rw [h1,qcx h2 rfl]
theorem qcw {w:World} {B:Nat} (m:MapIs qaj w B 13 qea) (name:Str) (hn:name.length<=1000000000):(Instr.lookup 193 (.map (some B)) (.string (S name)) true).run Tryz.prog w=.ok (.tuple #[.agg #[.int .i64 (qal name).1,.int .i64 (qal name).2],.bool (Ck.find? name).isSome]) w:=by
 obtain⟨v,ps,h1,h2⟩:=m.look_ok Tryz.underlying193 (qgc w) (zd:=ruleD (0,0)) (zp:=[]) rfl name hn;rw [qf3]at h2;rw [h1,qcx h2 rfl,qi5]
theorem nt_Kind (name:Str) (w:World) (hn:name.length<=1000000000):Calls Tryz.prog 216 #[.string (S name)] w fun e w'=>e=.returned (.int .i64 (qan name))/\Below w.heap.size w w':=by
 have ck:=Lib.hid (fun W=>qjk W);have hk:=Lib.hid (qla name);have hfd:=qiq
 go_enter Tryz.func216,Tryz.ntmps216
 go_wp2_with (go_at_call 205;(with_reducible refine(ck.out _).mono ?_);rintro e w1 ⟨B,rfl,m,hb⟩;have hl:=qkr m name hn;clear m)
 go_ret;exact⟨qad hk.out.symm,hb⟩
theorem nt_right (nm:Str) (k x:Int) (t:Str) (p1 p2 p3 p4:Option Addr) (n1 n2 n3 n4 q1 q2 q3 q4:Nat) (w:World) (h0:0<=x) (h1:x<18446744073709551616) (b1:n1<=140737488355328) (b2:n2<=140737488355328) (b3:n3<=140737488355328) (b4:n4<=140737488355328) (hn:nm.length<=1000000000):Calls Tryz.prog 206 #[.agg #[.string (S nm),.int .i64 k,.int .u64 x,.string (S t),.slice p1 n1 q1,.slice p2 n2 q2,.slice p3 n3 q3,.slice p4 n4 q4]] w fun e w'=>e=.returned (.bool (right ⟨nm,⟨k,x,t,n1,n2,n3,n4⟩⟩))/\Below w.heap.size w w':=by
 have ck:=Lib.hid (fun W=>nt_Kind nm W hn);have cf:=fun(kd:Int) W=>sc_Fits kd k x (S t) p1 p2 p3 p4 n1 n2 n3 n4 q1 q2 q3 q4 W h0 h1 b1 b2 b3 b4
 have hv:right ⟨nm,⟨k,x,t,n1,n2,n3,n4⟩⟩=(decide (qan nm ≠ 0) && Pr.fitsB (qan nm) k x t (n1+n2+n3+n4)):=rfl;have cf':=Lib.hid cf;have hv':=Lib.hid hv;clear cf hv;generalize qan nm=K at ck hv';by_cases hK:K=0
 ·have hKb:(K != 0)=false:=by rw [hK];rfl
  have hv2:=Lib.hid (show right ⟨nm,⟨k,x,t,n1,n2,n3,n4⟩⟩=false by rw [hv'.out,decide_eq_false (not_not_intro hK)];rfl);clear hv' hK cf'
  go_enter Tryz.func206,Tryz.ntmps206
  go_wp2_with (go_at_call 216;(with_reducible refine(ck.out _).mono ?_);rintro e w1 ⟨rfl,h1⟩;have k1:Bel w w1:=Bel.of (by(with_reducible repeat first|assumption|exact Bel.refl _|refine Bel.drew ?_|refine Bel.drewN ?_ _|refine Bel.alloc ?_ _)) h1;obtain⟨hc,hf⟩:=bcell h1;clear h1)
  go_ret;exact⟨qa3 hv2.out.symm,Bel.out (by(with_reducible repeat first|assumption|exact Bel.refl _|refine Bel.drew ?_|refine Bel.drewN ?_ _|refine Bel.alloc ?_ _))⟩
 ·have hKb:(K != 0)=true:=bne_iff_ne.2 hK
  have hv2:=Lib.hid (show right ⟨nm,⟨k,x,t,n1,n2,n3,n4⟩⟩=Pr.fitsB K k x t (n1+n2+n3+n4)by rw [hv'.out,decide_eq_true hK,Bool.true_and]);have cf2:=cf'.out K;clear hv' hK cf';rw [qbz]at cf2;generalize Pr.fitsB K k x t (n1+n2+n3+n4)=R at cf2 hv2;have cf3:=Lib.hid cf2;clear cf2
  go_enter Tryz.func206,Tryz.ntmps206
  go_wp2_with (first
   | (go_at_call 216;(with_reducible refine(ck.out _).mono ?_);rintro e w1 ⟨rfl,h1⟩;have k1:Bel w w1:=Bel.of (by(with_reducible repeat first|assumption|exact Bel.refl _|refine Bel.drew ?_|refine Bel.drewN ?_ _|refine Bel.alloc ?_ _)) h1;obtain⟨hc,hf⟩:=bcell h1;clear h1)
   | (go_at_call 217;(with_reducible refine(cf3.out _).mono ?_);rintro e w2 ⟨rfl,h2⟩;have k2:Bel w w2:=Bel.of (by(with_reducible repeat first|assumption|exact Bel.refl _|refine Bel.drew ?_|refine Bel.drewN ?_ _|refine Bel.alloc ?_ _)) h2;clear h2))
  go_ret;exact⟨qa3 hv2.out.symm,Bel.out (by(with_reducible repeat first|assumption|exact Bel.refl _|refine Bel.drew ?_|refine Bel.drewN ?_ _|refine Bel.alloc ?_ _))⟩
end
section
open Go.RowKit Ck
theorem qcl (w:World) (b i:Nat) (v:Value):w.grownBy (w.setCell ⟨b,i,none⟩ v) (some b):=
 ⟨rfl,rfl,rfl,by simp [World.setCell],fun k _ hk=>Below.heap_setCell _ _ _ _ (fun e=>hk (by rw [e]))⟩
end
end Go.Proofs.YtgpjhibdongmbaaGreatDoor
