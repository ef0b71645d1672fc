import Derived.Test.YtfoaaglbpmmhiaaGreatDoorCkNote1
import Derived.Test.YtfoaaglbpmmhiaaGreatDoorPrProg1
import Derived.Test.YtfoaaglbpmmhiaaGreatDoorKitA
import Derived.Deep.RegionHeld3
set_option maxRecDepth 100000
set_option maxHeartbeats 4000000
set_option linter.unusedVariables false
set_option linter.unusedSimpArgs false
namespace Go.Proofs.YtfoaaglbpmmhiaaGreatDoor
section
open Go.RowKit Ck
def qbd (name:Str):Int × Int:=(Ck.find? name).getD (0,0)
theorem qql (name:Str):qbg name=(qbd name).1:=by
 unfold qbg qbd;cases Ck.find? name <;> rfl
theorem qil (name:Str):(qhh name).getD (ruleD (0,0))=ruleD (qbd name):=by
 unfold qhh qbd;cases Ck.find? name <;> rfl
theorem qme (name:Str):(qhh name).isSome=(Ck.find? name).isSome:=by
 unfold qhh;cases Ck.find? name <;> rfl
theorem qn1 (a b:Int) (w:World):(Instr.field 253 (.agg #[.int .i64 a,.int .i64 b]) 0).run Tryz.prog w=.ok (.int .i64 a) w:=by kernel_rfl
theorem qki (w:World):(zeroValue 253).run Tryz.prog w=.ok (.agg #[.int .i64 0,.int .i64 0]) w:=by kernel_rfl
theorem qpr {w:World} {B:Nat} (m:MapIs qb5 w B 13 qhh) (name:Str) (hn:name.length<=1000000000):(Instr.lookup 255 (.map (some B)) (.string (S name)) false).run Tryz.prog w=.ok (.agg #[.int .i64 (qbd name).1,.int .i64 (qbd name).2]) w:=by
 obtain⟨v,ps,h1,h2⟩:=m.look Tryz.underlying255 (qki w) (zd:=ruleD (0,0)) (zp:=[]) rfl name hn;rw [qil]at h2;rw [h1,qf8 h2 rfl]
theorem qf7 {w:World} {B:Nat} (m:MapIs qb5 w B 13 qhh) (name:Str) (hn:name.length<=1000000000):(Instr.lookup 255 (.map (some B)) (.string (S name)) true).run Tryz.prog w=.ok (.tuple #[.agg #[.int .i64 (qbd name).1,.int .i64 (qbd name).2],.bool (Ck.find? name).isSome]) w:=by
 obtain⟨v,ps,h1,h2⟩:=m.look_ok Tryz.underlying255 (qki w) (zd:=ruleD (0,0)) (zp:=[]) rfl name hn;rw [qil]at h2;rw [h1,qf8 h2 rfl,qme]
theorem nt_Kind (name:Str) (w:World) (hn:name.length<=1000000000):Calls Tryz.prog 227 #[.string (S name)] w fun e w'=>e=.returned (.int .i64 (qbg name))/\Below w.heap.size w w':=by
 have ck:=h_ (fun W=>qnt W);have hk:=h_ (qql name);have hfd:=qn1
 go_enter Tryz.func227,Tryz.ntmps227
 go_wp2_with (go_at_call 221;(with_reducible refine(ck.out _).mono ?_);rintro e w1 ⟨B,rfl,m,hb⟩;have hl:=qpr m name hn;clear m)
 go_ret;exact⟨qar hk.out.symm,hb⟩
theorem nt_right (nm:Str) (k x:Int) (t:Str) (p1 p2 p3 p4:Option Addr) (n1 n2 n3 n4 q1 q2 q3 q4:Nat) (w:World) (h0:0<=x) (h1:x<18446744073709551616) (b1:n1<=140737488355328) (b2:n2<=140737488355328) (b3:n3<=140737488355328) (b4:n4<=140737488355328) (hn:nm.length<=1000000000):Calls Tryz.prog 222 #[.agg #[.string (S nm),.int .i64 k,.int .u64 x,.string (S t),.slice p1 n1 q1,.slice p2 n2 q2,.slice p3 n3 q3,.slice p4 n4 q4]] w fun e w'=>e=.returned (.bool (right ⟨nm,⟨k,x,t,n1,n2,n3,n4⟩⟩))/\Below w.heap.size w w':=by
 have ck:=h_ (fun W=>nt_Kind nm W hn);have cf:=fun(kd:Int) W=>qgb kd k x (S t) p1 p2 p3 p4 n1 n2 n3 n4 q1 q2 q3 q4 W h0 h1 b1 b2 b3 b4
 have hv:right ⟨nm,⟨k,x,t,n1,n2,n3,n4⟩⟩=(decide (qbg nm ≠ 0) && Pr.fitsB (qbg nm) k x t (n1+n2+n3+n4)):=rfl;have cf':=h_ cf;have hv':=h_ hv;clear cf hv;generalize qbg nm=K at ck hv';by_cases hK:K=0
 ·have hKb:(K != 0)=false:=by rw [hK];rfl
  have hv2:=h_ (show right ⟨nm,⟨k,x,t,n1,n2,n3,n4⟩⟩=false by rw [hv'.out,decide_eq_false (not_not_intro hK)];rfl);clear hv' hK cf'
  go_enter Tryz.func222,Tryz.ntmps222
  go_wp2_with (go_at_call 227;(with_reducible refine(ck.out _).mono ?_);rintro e w1 ⟨rfl,h1⟩;have k1:Bel w w1:=Bel.of (by(with_reducible repeat first|assumption|exact Bel.refl _|refine Bel.drew ?_|refine Bel.drewN ?_ _|refine Bel.alloc ?_ _)) h1;obtain⟨hc,hf⟩:=bcell h1;clear h1)
  go_ret;exact⟨qa3 hv2.out.symm,Bel.out (by(with_reducible repeat first|assumption|exact Bel.refl _|refine Bel.drew ?_|refine Bel.drewN ?_ _|refine Bel.alloc ?_ _))⟩
 ·have hKb:(K != 0)=true:=bne_iff_ne.2 hK
  have hv2:=h_ (show right ⟨nm,⟨k,x,t,n1,n2,n3,n4⟩⟩=Pr.fitsB K k x t (n1+n2+n3+n4)by rw [hv'.out,decide_eq_true hK,Bool.true_and]);have cf2:=cf'.out K;clear hv' hK cf';rw [qah]at cf2;generalize Pr.fitsB K k x t (n1+n2+n3+n4)=R at cf2 hv2;have cf3:=h_ cf2;clear cf2
  go_enter Tryz.func222,Tryz.ntmps222
  go_wp2_with (first
   | (go_at_call 227;(with_reducible refine(ck.out _).mono ?_);rintro e w1 ⟨rfl,h1⟩;have k1:Bel w w1:=Bel.of (by(with_reducible repeat first|assumption|exact Bel.refl _|refine Bel.drew ?_|refine Bel.drewN ?_ _|refine Bel.alloc ?_ _)) h1;obtain⟨hc,hf⟩:=bcell h1;clear h1)
   | (go_at_call 195;(with_reducible refine(cf3.out _).mono ?_);rintro e w2 ⟨rfl,h2⟩;have k2:Bel w w2:=Bel.of (by(with_reducible repeat first|assumption|exact Bel.refl _|refine Bel.drew ?_|refine Bel.drewN ?_ _|refine Bel.alloc ?_ _)) h2;clear h2))
  go_ret;exact⟨qa3 hv2.out.symm,Bel.out (by(with_reducible repeat first|assumption|exact Bel.refl _|refine Bel.drew ?_|refine Bel.drewN ?_ _|refine Bel.alloc ?_ _))⟩
end
section
open Go.RowKit Ck
theorem bit_and (M tg:Int) (hM:M=126 ∨ M=84 ∨ M=4 ∨ M=64 ∨ M=34) (h1:1<=tg) (h6:tg<=6):(bits BinOp.and IntKind.i64 (M / 2 ^ tg.toNat) 1 == 0) = !bitOf M tg:=by
 have ht:tg=1 ∨ tg=2 ∨ tg=3 ∨ tg=4 ∨ tg=5 ∨ tg=6:=by omega
 rcases hM with rfl|rfl|rfl|rfl|rfl <;> rcases ht with rfl|rfl|rfl|rfl|rfl|rfl <;> rfl
theorem qjq (name:Str) (r:Int × Int) (h:Ck.find? name=some r):r.2=126 ∨ r.2=84 ∨ r.2=4 ∨ r.2=64 ∨ r.2=34:=by
 unfold Ck.find? at h;rw [Option.map_eq_some_iff]at h;obtain⟨a,h1,rfl⟩:=h;have:=List.mem_of_find?_eq_some h1;simp only [known,List.mem_cons,List.not_mem_nil,or_false]at this;rcases this with rfl|rfl|rfl|rfl|rfl|rfl|rfl|rfl|rfl|rfl|rfl|rfl|rfl <;> simp
theorem qcx (n:PNote) (tg:Int) (last:Str) (ok:Bool):qbk n tg last ok=if(Ck.find? n.name).isNone=true then 8 else if tg<1 ∨ 6<tg ∨ (bits BinOp.and IntKind.i64 ((qbd n.name).2 / 2 ^ tg.toNat) 1 == 0)=true then 1 else if right n=false then 12 else if ok=true/\ltS n.name last=true then 11 else if ok=true/\n.name=last then 9 else 0:=by
 unfold qbk qbd;cases h:Ck.find? n.name with
 | none=>rfl
 | some r=>
  obtain⟨a,M⟩:=r;simp only [Option.isNone_some,Bool.false_eq_true,if_false,Option.getD_some];by_cases ht:1<=tg/\tg<=6
  ·simp only [bit_and M tg (qjq _ _ h) ht.1 ht.2,Bool.not_eq_true']
  ·have:tg<1 ∨ 6<tg:=by omega
   rcases this with h|h <;> simp [h]
theorem end8 (n:PNote) (tg:Int) (last:Str) (ok:Bool) (h:(Ck.find? n.name).isNone=true):(8:Int)=qbk n tg last ok:=by
 rw [qcx];rw [if_pos h]
theorem end1a (n:PNote) (tg:Int) (last:Str) (ok:Bool) (h0:(Ck.find? n.name).isNone=false) (h:tg<1):(1:Int)=qbk n tg last ok:=by
 rw [qcx];rw [if_neg (by rw [h0];exact Bool.false_ne_true)];rw [if_pos (.inl h)]
theorem end1b (n:PNote) (tg:Int) (last:Str) (ok:Bool) (h0:(Ck.find? n.name).isNone=false) (h:6<tg):(1:Int)=qbk n tg last ok:=by
 rw [qcx];rw [if_neg (by rw [h0];exact Bool.false_ne_true)];rw [if_pos (.inr (.inl h))]
theorem end1c (n:PNote) (tg:Int) (last:Str) (ok:Bool) (h0:(Ck.find? n.name).isNone=false) (h:(tg<1 ∨ 6<tg) ∨ (bits BinOp.and IntKind.i64 ((qbd n.name).2 / 2 ^ tg.toNat) 1 == 0)=true):(1:Int)=qbk n tg last ok:=by
 rw [qcx];rw [if_neg (by rw [h0];exact Bool.false_ne_true)];rw [or_assoc]at h;rw [if_pos h]
theorem end12 (n:PNote) (tg:Int) (last:Str) (ok:Bool) (h0:(Ck.find? n.name).isNone=false) (hm:(1<=tg/\tg<=6)/\(bits BinOp.and IntKind.i64 ((qbd n.name).2 / 2 ^ tg.toNat) 1 == 0)=false) (hr:(!right n)=true):(12:Int)=qbk n tg last ok:=by
 rw [qcx];rw [if_neg (by rw [h0];exact Bool.false_ne_true)]
 have hnm : ¬(tg<1 ∨ 6<tg ∨ (bits BinOp.and IntKind.i64 ((qbd n.name).2 / 2 ^ tg.toNat) 1 == 0)=true):=by
  rintro (h|h|h)
  ·omega
  ·omega
  ·rw [hm.2]at h;cases h
 rw [if_neg hnm];have hr':right n=false:=by simpa using hr
 rw [if_pos hr']
theorem end11 (n:PNote) (tg:Int) (last:Str) (ok:Bool) (h0:(Ck.find? n.name).isNone=false) (hm:(1<=tg/\tg<=6)/\(bits BinOp.and IntKind.i64 ((qbd n.name).2 / 2 ^ tg.toNat) 1 == 0)=false) (hr:(!right n)=false) (ho:ok=true) (hl:Op.bytesLess (S n.name).toList (S last).toList=true):(11:Int)=qbk n tg last ok:=by
 rw [qcx];rw [qg3]at hl;rw [if_neg (by rw [h0];exact Bool.false_ne_true)]
 have hnm : ¬(tg<1 ∨ 6<tg ∨ (bits BinOp.and IntKind.i64 ((qbd n.name).2 / 2 ^ tg.toNat) 1 == 0)=true):=by
  rintro (h|h|h)
  ·omega
  ·omega
  ·rw [hm.2]at h;cases h
 rw [if_neg hnm];have hr':right n=true:=by simpa using hr
 simp [hr',ho,hl]
theorem end9 (n:PNote) (tg:Int) (last:Str) (ok:Bool) (h0:(Ck.find? n.name).isNone=false) (hm:(1<=tg/\tg<=6)/\(bits BinOp.and IntKind.i64 ((qbd n.name).2 / 2 ^ tg.toNat) 1 == 0)=false) (hr:(!right n)=false) (ho:ok=true) (hl:Op.bytesLess (S n.name).toList (S last).toList=false) (he:((S n.name).toList == (S last).toList)=true):(9:Int)=qbk n tg last ok:=by
 rw [qcx];rw [qg3]at hl;rw [eq_S]at he;rw [if_neg (by rw [h0];exact Bool.false_ne_true)]
 have hnm : ¬(tg<1 ∨ 6<tg ∨ (bits BinOp.and IntKind.i64 ((qbd n.name).2 / 2 ^ tg.toNat) 1 == 0)=true):=by
  rintro (h|h|h)
  ·omega
  ·omega
  ·rw [hm.2]at h;cases h
 rw [if_neg hnm];have hr':right n=true:=by simpa using hr
 have he':n.name=last:=by simpa using he
 rw [he']at hl ⊢;simp [hr',ho,hl]
theorem end0a (n:PNote) (tg:Int) (last:Str) (ok:Bool) (h0:(Ck.find? n.name).isNone=false) (hm:(1<=tg/\tg<=6)/\(bits BinOp.and IntKind.i64 ((qbd n.name).2 / 2 ^ tg.toNat) 1 == 0)=false) (hr:(!right n)=false) (ho:ok=true) (hl:Op.bytesLess (S n.name).toList (S last).toList=false) (he:((S n.name).toList == (S last).toList)=false):(0:Int)=qbk n tg last ok:=by
 rw [qcx];rw [qg3]at hl;rw [eq_S]at he;rw [if_neg (by rw [h0];exact Bool.false_ne_true)]
 have hnm : ¬(tg<1 ∨ 6<tg ∨ (bits BinOp.and IntKind.i64 ((qbd n.name).2 / 2 ^ tg.toNat) 1 == 0)=true):=by
  rintro (h|h|h)
  ·omega
  ·omega
  ·rw [hm.2]at h;cases h
 rw [if_neg hnm];have hr':right n=true:=by simpa using hr
 have he' : ¬n.name=last:=by simpa using he
 simp [hr',ho,hl,he']
theorem end0b (n:PNote) (tg:Int) (last:Str) (ok:Bool) (h0:(Ck.find? n.name).isNone=false) (hm:(1<=tg/\tg<=6)/\(bits BinOp.and IntKind.i64 ((qbd n.name).2 / 2 ^ tg.toNat) 1 == 0)=false) (hr:(!right n)=false) (ho : ¬ok=true):(0:Int)=qbk n tg last ok:=by
 rw [qcx];rw [if_neg (by rw [h0];exact Bool.false_ne_true)]
 have hnm : ¬(tg<1 ∨ 6<tg ∨ (bits BinOp.and IntKind.i64 ((qbd n.name).2 / 2 ^ tg.toNat) 1 == 0)=true):=by
  rintro (h|h|h)
  ·omega
  ·omega
  ·rw [hm.2]at h;cases h
 rw [if_neg hnm];have hr':right n=true:=by simpa using hr
 simp [hr',ho]
theorem nt_one (nm:Str) (k x:Int) (t:Str) (p1 p2 p3 p4:Option Addr) (n1 n2 n3 n4 q1 q2 q3 q4:Nat) (tg:Int) (last:Str) (ok:Bool) (w:World) (h0:0<=x) (h1:x<18446744073709551616) (b1:n1<=140737488355328) (b2:n2<=140737488355328) (b3:n3<=140737488355328) (b4:n4<=140737488355328) (hn:nm.length<=1000000000):Calls Tryz.prog 199 #[.agg #[.string (S nm),.int .i64 k,.int .u64 x,.string (S t),.slice p1 n1 q1,.slice p2 n2 q2,.slice p3 n3 q3,.slice p4 n4 q4],.int .i64 tg,.string (S last),.bool ok] w fun e w'=>e=.returned (.int .i64 (qbk ⟨nm,⟨k,x,t,n1,n2,n3,n4⟩⟩ tg last ok))/\Below w.heap.size w w':=by
 have ck:=h_ (fun W=>qnt W);have cr:=h_ (fun W=>nt_right nm k x t p1 p2 p3 p4 n1 n2 n3 n4 q1 q2 q3 q4 W h0 h1 b1 b2 b3 b4 hn);clear h0 h1 b1 b2 b3 b4
 go_enter Tryz.func199,Tryz.ntmps199
 go_wp2
 go_region_held3 (fun w'=>w'.cell? ⟨w.heap.size,0,none⟩=some (.string (S nm))) (go_keep) ((go_at_call 221;(with_reducible refine(ck.out _).mono ?_);rintro e w1 ⟨B,rfl,m,hb⟩;have hl:=qf7 m nm hn;have hl2:=qf7 (m.bel (Bel.alloc (Bel.refl w1) (.cells #[.int .i64 0,.int .i64 0] 253))) nm hn;have k1:Bel w w1:=Bel.of (by(repeat (first|(with_reducible assumption)|(with_reducible exact Bel.refl _)|(with_reducible refine Bel.drew ?_)|(with_reducible refine Bel.drewN ?_ _)|(with_reducible refine Bel.alloc ?_ _)|((with_reducible refine qa8 ?_ ?hge);(case hge=>(first|omega|(simp;omega))))))) hb;obtain⟨hc,hf⟩:=bcell hb;have hz:=hb.size;simp at hz;have e0:w1.cell? ⟨w.heap.size,0,none⟩=some (.string (S nm)):=(hc w.heap.size 0 (by first|(simp;done)|(simp;omega))).trans (by first|(go_simp;done)|(simp;done)|rfl);have e1:w1.cell? ⟨w.heap.size,1,none⟩=some (.int .i64 k):=(hc w.heap.size 1 (by first|(simp;done)|(simp;omega))).trans (by first|(go_simp;done)|(simp;done)|rfl);have e2:w1.cell? ⟨w.heap.size,2,none⟩=some (.int .u64 x):=(hc w.heap.size 2 (by first|(simp;done)|(simp;omega))).trans (by first|(go_simp;done)|(simp;done)|rfl);have e3:w1.cell? ⟨w.heap.size,3,none⟩=some (.string (S t)):=(hc w.heap.size 3 (by first|(simp;done)|(simp;omega))).trans (by first|(go_simp;done)|(simp;done)|rfl);have e4:w1.cell? ⟨w.heap.size,4,none⟩=some (.slice p1 n1 q1):=(hc w.heap.size 4 (by first|(simp;done)|(simp;omega))).trans (by first|(go_simp;done)|(simp;done)|rfl);have e5:w1.cell? ⟨w.heap.size,5,none⟩=some (.slice p2 n2 q2):=(hc w.heap.size 5 (by first|(simp;done)|(simp;omega))).trans (by first|(go_simp;done)|(simp;done)|rfl);have e6:w1.cell? ⟨w.heap.size,6,none⟩=some (.slice p3 n3 q3):=(hc w.heap.size 6 (by first|(simp;done)|(simp;omega))).trans (by first|(go_simp;done)|(simp;done)|rfl);have e7:w1.cell? ⟨w.heap.size,7,none⟩=some (.slice p4 n4 q4):=(hc w.heap.size 7 (by first|(simp;done)|(simp;omega))).trans (by first|(go_simp;done)|(simp;done)|rfl);have hz1:w.heap.size<w1.heap.size:=(by omega);clear m hb))
 all_goals go_wp2_with (first
   | (go_at_call 222;(with_reducible refine(cr.out _).mono ?_);rintro e w2 ⟨rfl,h2⟩;have k2:Bel w w2:=Bel.of (by(repeat (first|(with_reducible assumption)|(with_reducible exact Bel.refl _)|(with_reducible refine Bel.drew ?_)|(with_reducible refine Bel.drewN ?_ _)|(with_reducible refine Bel.alloc ?_ _)|((with_reducible refine qa8 ?_ ?hge);(case hge=>(first|omega|(simp;omega))))))) h2;obtain⟨hc2,hf2⟩:=bcell h2;clear h2))
 all_goals go_ret
 all_goals refine⟨qar ?_,Bel.out (by(repeat (first|(with_reducible assumption)|(with_reducible exact Bel.refl _)|(with_reducible refine Bel.drew ?_)|(with_reducible refine Bel.drewN ?_ _)|(with_reducible refine Bel.alloc ?_ _)|((with_reducible refine qa8 ?_ ?hge);(case hge=>(first|omega|(simp;omega)))))))⟩
 all_goals first|exact end8 ⟨nm,⟨k,x,t,n1,n2,n3,n4⟩⟩ tg last ok (by assumption)|exact end11 ⟨nm,⟨k,x,t,n1,n2,n3,n4⟩⟩ tg last ok (by assumption) (by assumption) (by assumption) (by assumption) (by assumption)|exact end9 ⟨nm,⟨k,x,t,n1,n2,n3,n4⟩⟩ tg last ok (by assumption) (by assumption) (by assumption) (by assumption) (by assumption) (by assumption)|exact end0a ⟨nm,⟨k,x,t,n1,n2,n3,n4⟩⟩ tg last ok (by assumption) (by assumption) (by assumption) (by assumption) (by assumption) (by assumption)|exact end0b ⟨nm,⟨k,x,t,n1,n2,n3,n4⟩⟩ tg last ok (by assumption) (by assumption) (by assumption) (by assumption)|exact end12 ⟨nm,⟨k,x,t,n1,n2,n3,n4⟩⟩ tg last ok (by assumption) (by assumption) (by assumption)|exact end1c ⟨nm,⟨k,x,t,n1,n2,n3,n4⟩⟩ tg last ok (by assumption) (by assumption)|exact end1a ⟨nm,⟨k,x,t,n1,n2,n3,n4⟩⟩ tg last ok (by assumption) (by assumption)|exact end1b ⟨nm,⟨k,x,t,n1,n2,n3,n4⟩⟩ tg last ok (by assumption) (by assumption)
end
section
open Go.RowKit Ck
theorem nt_Check (v:Value) (l:List PNote) (tg:Int) (w:World) (hv:Notes w v l) (hl : ∀n ∈ l,n.name.length<=1000000000):Calls Tryz.prog 163 #[v,.int .i64 tg] w fun e w'=>e=.returned (.int .i64 (qam l tg))/\Below w.heap.size w w':=by
 obtain⟨p,c,rfl,hlen,hcap,hel⟩:=hv;by_cases h8:8<l.length
 ·have V:=h_ (show qam l tg=3 by unfold qam;rw [if_pos h8])
  have h8':(8:Int)<(l.length:Int):=by omega
  clear hel hl
  go_enter Tryz.func163,Tryz.ntmps163
  go_wp2;go_ret
  exact⟨qar V.out.symm,Below.refl _ _⟩
 ·have V:=h_ (show qd1 tg l [] false=qam l tg by unfold qam;rw [if_neg h8])
  have h8' : ¬(8:Int)<(l.length:Int):=by omega
  have EL:=h_ hel;have HL:=h_ hl;clear hel hl;generalize qam l tg=T at V
  go_enter Tryz.func163,Tryz.ntmps163
  go_wp2
  go_loopw [5,14] (fun t i wr => ∃(k:Nat) (last:Str),k<=l.length/\t=.string (S last)/\i=.int .i64 k/\Bel w wr/\Hid (qd1 tg (l.drop k) last (decide (0<k))=T)) (fun _ i _=>l.length-(intOf i).toNat)
  case atStart=>exact⟨0,[],by omega,rfl,rfl,Bel.refl _,V⟩
  case round=>
   obtain⟨k,last,hk,rfl,rfl,kw,hgo⟩:=hrel;by_cases hlt:k<l.length
   ·have hg:l[k]? = some l[k]:=List.getElem?_eq_getElem hlt
    obtain⟨b,off,rfl,hbs,vs,hce,nv,rfl,p1,p2,p3,p4,c1,c2,c3,c4,rfl,u0,u1,g1,g2,g3,g4⟩:=EL.out k _ hg;have hnl:=HL.out _ (List.getElem_mem hlt);have hdr:l.drop k=l[k] :: l.drop (k+1):=List.drop_eq_getElem_cons hlt;have hgo2:=hgo.out;rw [hdr]at hgo2;clear hgo hdr hg;generalize l[k]=n at *;obtain⟨nm,⟨nk,nx,nt,m1,m2,m3,m4⟩⟩:=n;have co:=h_ (fun ok W=>nt_one nm nk nx nt p1 p2 p3 p4 m1 m2 m3 m4 c1 c2 c3 c4 tg last ok W u0 u1 g1 g2 g3 g4 hnl);have GO:=h_ hgo2;have e0:wr.cell? ⟨b,off+k*8,none⟩=some (.string (S nm)):=kw.some (hce 0 _ rfl);have e1:wr.cell? ⟨b,off+k*8+1,none⟩=some (.int .i64 nk):=kw.some (hce 1 _ rfl);have e2:wr.cell? ⟨b,off+k*8+2,none⟩=some (.int .u64 nx):=kw.some (hce 2 _ rfl);have e3:wr.cell? ⟨b,off+k*8+3,none⟩=some (.string (S nt)):=kw.some (hce 3 _ rfl);have e4:wr.cell? ⟨b,off+k*8+4,none⟩=some (.slice p1 m1 c1):=kw.some (hce 4 _ rfl);have e5:wr.cell? ⟨b,off+k*8+5,none⟩=some (.slice p2 m2 c2):=kw.some (hce 5 _ rfl);have e6:wr.cell? ⟨b,off+k*8+6,none⟩=some (.slice p3 m3 c3):=kw.some (hce 6 _ rfl);have e7:wr.cell? ⟨b,off+k*8+7,none⟩=some (.slice p4 m4 c4):=kw.some (hce 7 _ rfl);clear hce hgo2 u0 u1 g1 g2 g3 g4 hnl;have hki:((k:Int)<(l.length:Int)):=by omega
    have hwr:IntKind.i64.wrap ((k:Int)+1)=(k:Int)+1:=wrap_small _ (by omega) (by omega)
    go_wp2_with (go_at_call 199;(with_reducible refine(co.out _ _).mono ?_);rintro e w2 ⟨rfl,h2⟩;have k2:Bel w w2:=Bel.of (by(repeat (first|(with_reducible assumption)|(with_reducible exact Bel.refl _)|(with_reducible refine Bel.drew ?_)|(with_reducible refine Bel.drewN ?_ _)|(with_reducible refine Bel.alloc ?_ _)|((with_reducible refine qa8 ?_ ?hge);(case hge=>(first|omega|(simp;omega))))))) h2;obtain⟨hc2,hf2⟩:=bcell h2;clear h2)
    ·rename_i hne
     go_ret;refine⟨qar ?_,Bel.out (by(repeat (first|(with_reducible assumption)|(with_reducible exact Bel.refl _)|(with_reducible refine Bel.drew ?_)|(with_reducible refine Bel.drewN ?_ _)|(with_reducible refine Bel.alloc ?_ _)|((with_reducible refine qa8 ?_ ?hge);(case hge=>(first|omega|(simp;omega)))))))⟩
     have G:=GO.out;unfold qd1 at G;rw [if_neg (by simpa using hne)]at G;exact G
    ·rename_i heq
     refine⟨⟨k+1,nm,by omega,rfl,rfl,(by(repeat (first|(with_reducible assumption)|(with_reducible exact Bel.refl _)|(with_reducible refine Bel.drew ?_)|(with_reducible refine Bel.drewN ?_ _)|(with_reducible refine Bel.alloc ?_ _)|((with_reducible refine qa8 ?_ ?hge);(case hge=>(first|omega|(simp;omega))))))),?hnext⟩,by simp [intOf];omega⟩
     case hnext=>
      have G:=GO.out;unfold qd1 at G;rw [if_pos (by simpa using heq)]at G;rw [decide_eq_true (Nat.succ_pos k)];exact h_ G
   ·have hkl:k=l.length:=by omega
    subst hkl;have G:=hgo.out;rw [List.drop_length]at G;have G0:T=0:=G.symm;clear hgo G;go_wp2;go_ret;exact⟨qar G0.symm,kw.out⟩
end
end Go.Proofs.YtfoaaglbpmmhiaaGreatDoor
