import Derived.Test.YtgpjhibdongmbaaGreatDoorCkFinder
import Derived.Test.YtgpjhibdongmbaaGreatDoorRsMem
import Derived.Test.YtgpjhibdongmbaaGreatDoorCkMem
import Derived.Deep.RegionHeld3
import Derived.Test.YtgpjhibdongmbaaGreatDoorIdWord
import Derived.StillTailTactics
import Derived.Deep.DeepCutAuto
import Derived.Deep.CutBlock
import Derived.Test.YtgpjhibdongmbaaGreatDoorMap
import Derived.IntWalk
set_option maxRecDepth 100000
set_option maxHeartbeats 4000000
set_option linter.unusedVariables false
set_option linter.unusedSimpArgs false
namespace Go.Proofs.YtgpjhibdongmbaaGreatDoor
open Go.RowKit Ck
theorem bit_and (M tg:Int) (hM:M=126 ∨ M=84 ∨ M=4 ∨ M=64 ∨ M=34) (h1:1<=tg) (h6:tg<=6):(bits BinOp.and IntKind.i64 (M / 2 ^ tg.toNat) 1 == 0) = !bitOf M tg:=by
 have ht:tg=1 ∨ tg=2 ∨ tg=3 ∨ tg=4 ∨ tg=5 ∨ tg=6:=by omega
 rcases hM with rfl|rfl|rfl|rfl|rfl <;> rcases ht with rfl|rfl|rfl|rfl|rfl|rfl <;> rfl
theorem qew (name:Str) (r:Int × Int) (h:Ck.find? name=some r):r.2=126 ∨ r.2=84 ∨ r.2=4 ∨ r.2=64 ∨ r.2=34:=by
 unfold Ck.find? at h;rw [Option.map_eq_some_iff]at h;obtain⟨a,h1,rfl⟩:=h;have:=List.mem_of_find?_eq_some h1;simp only [known,List.mem_cons,List.not_mem_nil,or_false]at this;rcases this with rfl|rfl|rfl|rfl|rfl|rfl|rfl|rfl|rfl|rfl|rfl|rfl|rfl <;> simp
theorem qbb (n:PNote) (tg:Int) (last:Str) (ok:Bool):qb1 n tg last ok=if(Ck.find? n.name).isNone=true then 8 else if tg<1 ∨ 6<tg ∨ (bits BinOp.and IntKind.i64 ((qb3 n.name).2 / 2 ^ tg.toNat) 1 == 0)=true then 1 else if right n=false then 12 else if ok=true/\ltS n.name last=true then 11 else if ok=true/\n.name=last then 9 else 0:=by
 unfold qb1 qb3;cases h:Ck.find? n.name with
 | none=>rfl
 | some r=>
  obtain⟨a,M⟩:=r;simp only [Option.isNone_some,Bool.false_eq_true,if_false,Option.getD_some];by_cases ht:1<=tg/\tg<=6
  ·simp only [bit_and M tg (qew _ _ h) ht.1 ht.2,Bool.not_eq_true']
  ·have:tg<1 ∨ 6<tg:=by omega
   rcases this with h|h <;> simp [h]
theorem end8 (n:PNote) (tg:Int) (last:Str) (ok:Bool) (h:(Ck.find? n.name).isNone=true):(8:Int)=qb1 n tg last ok:=by
 rw [qbb];rw [if_pos h]
theorem end1a (n:PNote) (tg:Int) (last:Str) (ok:Bool) (h0:(Ck.find? n.name).isNone=false) (h:tg<1):(1:Int)=qb1 n tg last ok:=by
 rw [qbb];rw [if_neg (by rw [h0];exact Bool.false_ne_true)];rw [if_pos (.inl h)]
theorem end1b (n:PNote) (tg:Int) (last:Str) (ok:Bool) (h0:(Ck.find? n.name).isNone=false) (h:6<tg):(1:Int)=qb1 n tg last ok:=by
 rw [qbb];rw [if_neg (by rw [h0];exact Bool.false_ne_true)];rw [if_pos (.inr (.inl h))]
theorem end1c (n:PNote) (tg:Int) (last:Str) (ok:Bool) (h0:(Ck.find? n.name).isNone=false) (h:(tg<1 ∨ 6<tg) ∨ (bits BinOp.and IntKind.i64 ((qb3 n.name).2 / 2 ^ tg.toNat) 1 == 0)=true):(1:Int)=qb1 n tg last ok:=by
 rw [qbb];rw [if_neg (by rw [h0];exact Bool.false_ne_true)];rw [or_assoc]at h;rw [if_pos h]
theorem end12 (n:PNote) (tg:Int) (last:Str) (ok:Bool) (h0:(Ck.find? n.name).isNone=false) (hm:(1<=tg/\tg<=6)/\(bits BinOp.and IntKind.i64 ((qb3 n.name).2 / 2 ^ tg.toNat) 1 == 0)=false) (hr:(!right n)=true):(12:Int)=qb1 n tg last ok:=by
 rw [qbb];rw [if_neg (by rw [h0];exact Bool.false_ne_true)]
 have hnm : ¬(tg<1 ∨ 6<tg ∨ (bits BinOp.and IntKind.i64 ((qb3 n.name).2 / 2 ^ tg.toNat) 1 == 0)=true):=by
  rintro (h|h|h)
  ·omega
  ·omega
  ·rw [hm.2]at h;cases h
 rw [if_neg hnm];have hr':right n=false:=by simpa using hr
 rw [if_pos hr']
theorem end11 (n:PNote) (tg:Int) (last:Str) (ok:Bool) (h0:(Ck.find? n.name).isNone=false) (hm:(1<=tg/\tg<=6)/\(bits BinOp.and IntKind.i64 ((qb3 n.name).2 / 2 ^ tg.toNat) 1 == 0)=false) (hr:(!right n)=false) (ho:ok=true) (hl:Op.bytesLess (S n.name).toList (S last).toList=true):(11:Int)=qb1 n tg last ok:=by
 rw [qbb];rw [less_S]at hl;rw [if_neg (by rw [h0];exact Bool.false_ne_true)]
 have hnm : ¬(tg<1 ∨ 6<tg ∨ (bits BinOp.and IntKind.i64 ((qb3 n.name).2 / 2 ^ tg.toNat) 1 == 0)=true):=by
  rintro (h|h|h)
  ·omega
  ·omega
  ·rw [hm.2]at h;cases h
 rw [if_neg hnm];have hr':right n=true:=by simpa using hr
 simp [hr',ho,hl]
theorem end9 (n:PNote) (tg:Int) (last:Str) (ok:Bool) (h0:(Ck.find? n.name).isNone=false) (hm:(1<=tg/\tg<=6)/\(bits BinOp.and IntKind.i64 ((qb3 n.name).2 / 2 ^ tg.toNat) 1 == 0)=false) (hr:(!right n)=false) (ho:ok=true) (hl:Op.bytesLess (S n.name).toList (S last).toList=false) (he:((S n.name).toList == (S last).toList)=true):(9:Int)=qb1 n tg last ok:=by
 rw [qbb];rw [less_S]at hl;rw [eq_S]at he;rw [if_neg (by rw [h0];exact Bool.false_ne_true)]
 have hnm : ¬(tg<1 ∨ 6<tg ∨ (bits BinOp.and IntKind.i64 ((qb3 n.name).2 / 2 ^ tg.toNat) 1 == 0)=true):=by
  rintro (h|h|h)
  ·omega
  ·omega
  ·rw [hm.2]at h;cases h
 rw [if_neg hnm];have hr':right n=true:=by simpa using hr
 have he':n.name=last:=by simpa using he
 rw [he']at hl ⊢;simp [hr',ho,hl]
theorem end0a (n:PNote) (tg:Int) (last:Str) (ok:Bool) (h0:(Ck.find? n.name).isNone=false) (hm:(1<=tg/\tg<=6)/\(bits BinOp.and IntKind.i64 ((qb3 n.name).2 / 2 ^ tg.toNat) 1 == 0)=false) (hr:(!right n)=false) (ho:ok=true) (hl:Op.bytesLess (S n.name).toList (S last).toList=false) (he:((S n.name).toList == (S last).toList)=false):(0:Int)=qb1 n tg last ok:=by
 rw [qbb];rw [less_S]at hl;rw [eq_S]at he;rw [if_neg (by rw [h0];exact Bool.false_ne_true)]
 have hnm : ¬(tg<1 ∨ 6<tg ∨ (bits BinOp.and IntKind.i64 ((qb3 n.name).2 / 2 ^ tg.toNat) 1 == 0)=true):=by
  rintro (h|h|h)
  ·omega
  ·omega
  ·rw [hm.2]at h;cases h
 rw [if_neg hnm];have hr':right n=true:=by simpa using hr
 have he' : ¬n.name=last:=by simpa using he
 simp [hr',ho,hl,he']
theorem end0b (n:PNote) (tg:Int) (last:Str) (ok:Bool) (h0:(Ck.find? n.name).isNone=false) (hm:(1<=tg/\tg<=6)/\(bits BinOp.and IntKind.i64 ((qb3 n.name).2 / 2 ^ tg.toNat) 1 == 0)=false) (hr:(!right n)=false) (ho : ¬ok=true):(0:Int)=qb1 n tg last ok:=by
 rw [qbb];rw [if_neg (by rw [h0];exact Bool.false_ne_true)]
 have hnm : ¬(tg<1 ∨ 6<tg ∨ (bits BinOp.and IntKind.i64 ((qb3 n.name).2 / 2 ^ tg.toNat) 1 == 0)=true):=by
  rintro (h|h|h)
  ·omega
  ·omega
  ·rw [hm.2]at h;cases h
 rw [if_neg hnm];have hr':right n=true:=by simpa using hr
 simp [hr',ho]
theorem nt_one (nm:Str) (k x:Int) (t:Str) (p1 p2 p3 p4:Option Addr) (n1 n2 n3 n4 q1 q2 q3 q4:Nat) (tg:Int) (last:Str) (ok:Bool) (w:World) (h0:0<=x) (h1:x<18446744073709551616) (b1:n1<=140737488355328) (b2:n2<=140737488355328) (b3:n3<=140737488355328) (b4:n4<=140737488355328) (hn:nm.length<=1000000000):Calls Tryz.prog 184 #[.agg #[.string (S nm),.int .i64 k,.int .u64 x,.string (S t),.slice p1 n1 q1,.slice p2 n2 q2,.slice p3 n3 q3,.slice p4 n4 q4],.int .i64 tg,.string (S last),.bool ok] w fun e w'=>e=.returned (.int .i64 (qb1 ⟨nm,⟨k,x,t,n1,n2,n3,n4⟩⟩ tg last ok))/\Below w.heap.size w w':=by
 have ck:=Lib.hid (fun W=>qhs W);have cr:=Lib.hid (fun W=>nt_right nm k x t p1 p2 p3 p4 n1 n2 n3 n4 q1 q2 q3 q4 W h0 h1 b1 b2 b3 b4 hn);clear h0 h1 b1 b2 b3 b4
 go_enter Tryz.func184,Tryz.ntmps184
 go_wp2
 go_region_held3 (fun w'=>w'.cell? ⟨w.heap.size,0,none⟩=some (.string (S nm))) (go_keep) ((go_at_call 205;(with_reducible refine(ck.out _).mono ?_);rintro e w1 ⟨B,rfl,m,hb⟩;have hl:=qcd m nm hn;have hl2:=qcd (m.bel (Bel.alloc (Bel.refl w1) (.cells #[.int .i64 0,.int .i64 0] 191))) nm hn;have k1:Bel w w1:=Bel.of (by(repeat (first|(with_reducible assumption)|(with_reducible exact Bel.refl _)|(with_reducible refine Bel.drew ?_)|(with_reducible refine Bel.drewN ?_ _)|(with_reducible refine Bel.alloc ?_ _)|((with_reducible refine qbq ?_ ?hge);(case hge=>(first|omega|(simp;omega))))))) hb;obtain⟨hc,hf⟩:=bcell hb;have hz:=hb.size;simp at hz;have e0:w1.cell? ⟨w.heap.size,0,none⟩=some (.string (S nm)):=(hc w.heap.size 0 (by first|(simp;done)|(simp;omega))).trans (by first|(go_simp;done)|(simp;done)|rfl);have e1:w1.cell? ⟨w.heap.size,1,none⟩=some (.int .i64 k):=(hc w.heap.size 1 (by first|(simp;done)|(simp;omega))).trans (by first|(go_simp;done)|(simp;done)|rfl);have e2:w1.cell? ⟨w.heap.size,2,none⟩=some (.int .u64 x):=(hc w.heap.size 2 (by first|(simp;done)|(simp;omega))).trans (by first|(go_simp;done)|(simp;done)|rfl);have e3:w1.cell? ⟨w.heap.size,3,none⟩=some (.string (S t)):=(hc w.heap.size 3 (by first|(simp;done)|(simp;omega))).trans (by first|(go_simp;done)|(simp;done)|rfl);have e4:w1.cell? ⟨w.heap.size,4,none⟩=some (.slice p1 n1 q1):=(hc w.heap.size 4 (by first|(simp;done)|(simp;omega))).trans (by first|(go_simp;done)|(simp;done)|rfl);have e5:w1.cell? ⟨w.heap.size,5,none⟩=some (.slice p2 n2 q2):=(hc w.heap.size 5 (by first|(simp;done)|(simp;omega))).trans (by first|(go_simp;done)|(simp;done)|rfl);have e6:w1.cell? ⟨w.heap.size,6,none⟩=some (.slice p3 n3 q3):=(hc w.heap.size 6 (by first|(simp;done)|(simp;omega))).trans (by first|(go_simp;done)|(simp;done)|rfl);have e7:w1.cell? ⟨w.heap.size,7,none⟩=some (.slice p4 n4 q4):=(hc w.heap.size 7 (by first|(simp;done)|(simp;omega))).trans (by first|(go_simp;done)|(simp;done)|rfl);have hz1:w.heap.size<w1.heap.size:=(by omega);clear m hb))
 all_goals go_wp2_with (first
   | (go_at_call 206;(with_reducible refine(cr.out _).mono ?_);rintro e w2 ⟨rfl,h2⟩;have k2:Bel w w2:=Bel.of (by(repeat (first|(with_reducible assumption)|(with_reducible exact Bel.refl _)|(with_reducible refine Bel.drew ?_)|(with_reducible refine Bel.drewN ?_ _)|(with_reducible refine Bel.alloc ?_ _)|((with_reducible refine qbq ?_ ?hge);(case hge=>(first|omega|(simp;omega))))))) h2;obtain⟨hc2,hf2⟩:=bcell h2;clear h2))
 all_goals go_ret
 all_goals refine⟨qac ?_,Bel.out (by(repeat (first|(with_reducible assumption)|(with_reducible exact Bel.refl _)|(with_reducible refine Bel.drew ?_)|(with_reducible refine Bel.drewN ?_ _)|(with_reducible refine Bel.alloc ?_ _)|((with_reducible refine qbq ?_ ?hge);(case hge=>(first|omega|(simp;omega)))))))⟩
 all_goals first|exact end8 ⟨nm,⟨k,x,t,n1,n2,n3,n4⟩⟩ tg last ok (by assumption)|exact end11 ⟨nm,⟨k,x,t,n1,n2,n3,n4⟩⟩ tg last ok (by assumption) (by assumption) (by assumption) (by assumption) (by assumption)|exact end9 ⟨nm,⟨k,x,t,n1,n2,n3,n4⟩⟩ tg last ok (by assumption) (by assumption) (by assumption) (by assumption) (by assumption) (by assumption)|exact end0a ⟨nm,⟨k,x,t,n1,n2,n3,n4⟩⟩ tg last ok (by assumption) (by assumption) (by assumption) (by assumption) (by assumption) (by assumption)|exact end0b ⟨nm,⟨k,x,t,n1,n2,n3,n4⟩⟩ tg last ok (by assumption) (by assumption) (by assumption) (by assumption)|exact end12 ⟨nm,⟨k,x,t,n1,n2,n3,n4⟩⟩ tg last ok (by assumption) (by assumption) (by assumption)|exact end1c ⟨nm,⟨k,x,t,n1,n2,n3,n4⟩⟩ tg last ok (by assumption) (by assumption)|exact end1a ⟨nm,⟨k,x,t,n1,n2,n3,n4⟩⟩ tg last ok (by assumption) (by assumption)|exact end1b ⟨nm,⟨k,x,t,n1,n2,n3,n4⟩⟩ tg last ok (by assumption) (by assumption)
end Go.Proofs.YtgpjhibdongmbaaGreatDoor
namespace Go.Proofs.YtgpjhibdongmbaaGreatDoor
open Go.RowKit Ck
theorem nt_Check (v:Value) (l:List PNote) (tg:Int) (w:World) (hv:Notes w v l) (hl : ∀n ∈ l,n.name.length<=1000000000):Calls Tryz.prog 150 #[v,.int .i64 tg] w fun e w'=>e=.returned (.int .i64 (qar l tg))/\Below w.heap.size w w':=by
 obtain⟨p,c,rfl,hlen,hcap,hel⟩:=hv;by_cases h8:8<l.length
 ·have V:=Lib.hid (show qar l tg=3 by unfold qar;rw [if_pos h8])
  have h8':(8:Int)<(l.length:Int):=by omega
  clear hel hl
  go_enter Tryz.func150,Tryz.ntmps150
  go_wp2;go_ret
  exact⟨qac V.out.symm,Below.refl _ _⟩
 ·have V:=Lib.hid (show qgp tg l [] false=qar l tg by unfold qar;rw [if_neg h8])
  have h8' : ¬(8:Int)<(l.length:Int):=by omega
  have EL:=Lib.hid hel;have HL:=Lib.hid hl;clear hel hl;generalize qar l tg=T at V
  go_enter Tryz.func150,Tryz.ntmps150
  go_wp2
  go_loopw [5,14] (fun t i wr => ∃(k:Nat) (last:Str),k<=l.length/\t=.string (S last)/\i=.int .i64 k/\Bel w wr/\Hid (qgp tg (l.drop k) last (decide (0<k))=T)) (fun _ i _=>l.length-(intOf i).toNat)
  case atStart=>exact⟨0,[],by omega,rfl,rfl,Bel.refl _,V⟩
  case round=>
   obtain⟨k,last,hk,rfl,rfl,kw,hgo⟩:=hrel;by_cases hlt:k<l.length
   ·have hg:l[k]? = some l[k]:=List.getElem?_eq_getElem hlt
    obtain⟨b,off,rfl,hbs,vs,hce,nv,rfl,p1,p2,p3,p4,c1,c2,c3,c4,rfl,u0,u1,g1,g2,g3,g4⟩:=EL.out k _ hg;have hnl:=HL.out _ (List.getElem_mem hlt);have hdr:l.drop k=l[k] :: l.drop (k+1):=List.drop_eq_getElem_cons hlt;have hgo2:=hgo.out;rw [hdr]at hgo2;clear hgo hdr hg;generalize l[k]=n at *;obtain⟨nm,⟨nk,nx,nt,m1,m2,m3,m4⟩⟩:=n;have co:=Lib.hid (fun ok W=>nt_one nm nk nx nt p1 p2 p3 p4 m1 m2 m3 m4 c1 c2 c3 c4 tg last ok W u0 u1 g1 g2 g3 g4 hnl);have GO:=Lib.hid hgo2;have e0:wr.cell? ⟨b,off+k*8,none⟩=some (.string (S nm)):=kw.some (hce 0 _ rfl);have e1:wr.cell? ⟨b,off+k*8+1,none⟩=some (.int .i64 nk):=kw.some (hce 1 _ rfl);have e2:wr.cell? ⟨b,off+k*8+2,none⟩=some (.int .u64 nx):=kw.some (hce 2 _ rfl);have e3:wr.cell? ⟨b,off+k*8+3,none⟩=some (.string (S nt)):=kw.some (hce 3 _ rfl);have e4:wr.cell? ⟨b,off+k*8+4,none⟩=some (.slice p1 m1 c1):=kw.some (hce 4 _ rfl);have e5:wr.cell? ⟨b,off+k*8+5,none⟩=some (.slice p2 m2 c2):=kw.some (hce 5 _ rfl);have e6:wr.cell? ⟨b,off+k*8+6,none⟩=some (.slice p3 m3 c3):=kw.some (hce 6 _ rfl);have e7:wr.cell? ⟨b,off+k*8+7,none⟩=some (.slice p4 m4 c4):=kw.some (hce 7 _ rfl);clear hce hgo2 u0 u1 g1 g2 g3 g4 hnl;have hki:((k:Int)<(l.length:Int)):=by omega
    have hwr:IntKind.i64.wrap ((k:Int)+1)=(k:Int)+1:=wrap_small _ (by omega) (by omega)
    go_wp2_with (go_at_call 184;(with_reducible refine(co.out _ _).mono ?_);rintro e w2 ⟨rfl,h2⟩;have k2:Bel w w2:=Bel.of (by(repeat (first|(with_reducible assumption)|(with_reducible exact Bel.refl _)|(with_reducible refine Bel.drew ?_)|(with_reducible refine Bel.drewN ?_ _)|(with_reducible refine Bel.alloc ?_ _)|((with_reducible refine qbq ?_ ?hge);(case hge=>(first|omega|(simp;omega))))))) h2;obtain⟨hc2,hf2⟩:=bcell h2;clear h2)
    ·rename_i hne
     go_ret;refine⟨qac ?_,Bel.out (by(repeat (first|(with_reducible assumption)|(with_reducible exact Bel.refl _)|(with_reducible refine Bel.drew ?_)|(with_reducible refine Bel.drewN ?_ _)|(with_reducible refine Bel.alloc ?_ _)|((with_reducible refine qbq ?_ ?hge);(case hge=>(first|omega|(simp;omega)))))))⟩
     have G:=GO.out;unfold qgp at G;rw [if_neg (by simpa using hne)]at G;exact G
    ·rename_i heq
     refine⟨⟨k+1,nm,by omega,rfl,rfl,(by(repeat (first|(with_reducible assumption)|(with_reducible exact Bel.refl _)|(with_reducible refine Bel.drew ?_)|(with_reducible refine Bel.drewN ?_ _)|(with_reducible refine Bel.alloc ?_ _)|((with_reducible refine qbq ?_ ?hge);(case hge=>(first|omega|(simp;omega))))))),?hnext⟩,by simp [intOf];omega⟩
     case hnext=>
      have G:=GO.out;unfold qgp at G;rw [if_pos (by simpa using heq)]at G;rw [decide_eq_true (Nat.succ_pos k)];exact Lib.hid G
   ·have hkl:k=l.length:=by omega
    subst hkl;have G:=hgo.out;rw [List.drop_length]at G;have G0:T=0:=G.symm;clear hgo G;go_wp2;go_ret;exact⟨qac G0.symm,kw.out⟩
end Go.Proofs.YtgpjhibdongmbaaGreatDoor
namespace Go.Proofs.YtgpjhibdongmbaaGreatDoor
open Go.RowKit Ck
theorem row_bel {w w':World} {B:Nat} {e:TypeId} {size:Nat} {v:Value} {n:Nat} {xs:List Value} (h:w.ownsRow B e size v n xs) (k:Bel w w'):w'.ownsRow B e size v n xs:=by
 refine⟨h.1,?_⟩;rcases h.2 with hn|⟨g,cap,cur,rfl,hb,hgg,rest⟩
 ·exact .inl hn
 ·exact .inr ⟨g,cap,cur,rfl,hb,(Below.block k g (Array.getElem?_eq_some_iff.1 hgg).1).trans hgg,rest⟩
end Go.Proofs.YtgpjhibdongmbaaGreatDoor
namespace Go.Proofs.YtgpjhibdongmbaaGreatDoor
open Go.RowKit
theorem qbh {P:Program} {id:Nat} {Q:Exit->Act->World->Prop} {a:Act} {w wd:World} {l:List Oper} (n:Nat) (hm:P.follows .mixedOrders=true) (hB:Region.lexTailB .any l.toArray n=true) (hwd:wd=w.drew)
  (h:wpStill P l.toArray wd (fun a'=>wpList P l.toArray Q (l.drop n) a' wd) (l.take n) a):(Code.region id l.toArray true).wp P Q a w:=by subst hwd;exact wp_region_still_tail n hm hB h
theorem qch {P:Program} {ops:Array Oper} {w:World} {Q:Act->Prop} {o:Oper} {rest:List Oper} {a:Act} (h:Region.wanted o (yielded ops a.tmps)=false) (k:wpStill P ops w Q rest (a.put o.dst undef)):wpStill P ops w Q (o :: rest) a:=by
 unfold wpStill;rw [h];exact k
end Go.Proofs.YtgpjhibdongmbaaGreatDoor
namespace Go.Proofs.YtgpjhibdongmbaaGreatDoor
open Go.RowKit Ck
end Go.Proofs.YtgpjhibdongmbaaGreatDoor
namespace Go.Proofs.YtgpjhibdongmbaaGreatDoor
open Go.RowKit Ck
section
variable {w0 : World} {fb : Nat} {d : Str} {num : Int} {w : World} {bl : List (Nat × Array Value × TypeId)} {N : Nat} {ps : List PProb} {wx : World}
end
end Go.Proofs.YtgpjhibdongmbaaGreatDoor
namespace Go.Proofs.YtgpjhibdongmbaaGreatDoor
open Go.RowKit Ck
end Go.Proofs.YtgpjhibdongmbaaGreatDoor
namespace Go.Proofs.YtgpjhibdongmbaaGreatDoor
open Go.RowKit Ck
end Go.Proofs.YtgpjhibdongmbaaGreatDoor
namespace Go.Proofs.YtgpjhibdongmbaaGreatDoor
open Go.RowKit Ck
theorem qj2 {w:World} {B C:Nat} {e:TypeId} {z:Nat} {v:Value} {n:Nat} {xs:List Value} (h:w.ownsRow C e z v n xs) (hb:B<=C):w.ownsRow B e z v n xs:=by
 refine⟨h.1,?_⟩;rcases h.2 with hn|⟨g,cap,cur,h1,h2,rest⟩
 ·exact .inl hn
 ·exact .inr ⟨g,cap,cur,h1,Nat.le_trans hb h2,rest⟩
end Go.Proofs.YtgpjhibdongmbaaGreatDoor
namespace Go.Proofs.YtgpjhibdongmbaaGreatDoor.Ck
inductive Fin (s:PSchema):Str->Prop
 | mk (n:Str) (m:PMsg) (h:msgOf s n=some m) (hk : ∀k,k ∈ needs m->(msgOf s k).isSome=true->Fin s k):Fin s n
theorem getD_set (l:List Bool) (i k:Nat) (h:i<l.length):(l.set i true).getD k false=if k=i then true else l.getD k false:=by
 by_cases hk:k=i
 ·subst hk;simp [List.getD,h]
 ·simp [List.getD,hk,List.getElem?_set_ne (Ne.symm hk)]
end Go.Proofs.YtgpjhibdongmbaaGreatDoor.Ck
namespace Go.Proofs.YtgpjhibdongmbaaGreatDoor
open Go.RowKit Ck
end Go.Proofs.YtgpjhibdongmbaaGreatDoor
namespace Go.Proofs.YtgpjhibdongmbaaGreatDoor
open Go.RowKit
end Go.Proofs.YtgpjhibdongmbaaGreatDoor
namespace Go.Proofs.YtgpjhibdongmbaaGreatDoor
open Go.RowKit
end Go.Proofs.YtgpjhibdongmbaaGreatDoor
namespace Go.Proofs.YtgpjhibdongmbaaGreatDoor
open Go.RowKit Ck
end Go.Proofs.YtgpjhibdongmbaaGreatDoor
