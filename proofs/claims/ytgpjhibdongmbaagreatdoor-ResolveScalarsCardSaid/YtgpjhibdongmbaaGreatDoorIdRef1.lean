import Derived.Test.YtgpjhibdongmbaaGreatDoorCkFinder
import Derived.Test.YtgpjhibdongmbaaGreatDoorRsMem
import Derived.Test.YtgpjhibdongmbaaGreatDoorCkIdx
import Derived.Deep.RegionHeld3
import Derived.Test.YtgpjhibdongmbaaGreatDoorIdWord
import Derived.StillTailTactics
import Derived.Deep.DeepCutAuto
import Derived.Deep.CutBlock
import Derived.Test.YtgpjhibdongmbaaGreatDoorMap
set_option maxRecDepth 100000
set_option maxHeartbeats 4000000
set_option linter.unusedVariables false
set_option linter.unusedSimpArgs false
namespace Go.Proofs.YtgpjhibdongmbaaGreatDoor
open Go.RowKit Ck
theorem bit_and (M tg:Int) (hM:M=126 ∨ M=84 ∨ M=4 ∨ M=64 ∨ M=34) (h1:1<=tg) (h6:tg<=6):(bits BinOp.and IntKind.i64 (M / 2 ^ tg.toNat) 1 == 0) = !bitOf M tg:=by
 have ht:tg=1 ∨ tg=2 ∨ tg=3 ∨ tg=4 ∨ tg=5 ∨ tg=6:=by omega
 rcases hM with rfl|rfl|rfl|rfl|rfl <;> rcases ht with rfl|rfl|rfl|rfl|rfl|rfl <;> rfl
theorem qfz (name:Str) (r:Int × Int) (h:Ck.find? name=some r):r.2=126 ∨ r.2=84 ∨ r.2=4 ∨ r.2=64 ∨ r.2=34:=by
 unfold Ck.find? at h;rw [Option.map_eq_some_iff]at h;obtain⟨a,h1,rfl⟩:=h;have:=List.mem_of_find?_eq_some h1;simp only [known,List.mem_cons,List.not_mem_nil,or_false]at this;rcases this with rfl|rfl|rfl|rfl|rfl|rfl|rfl|rfl|rfl|rfl|rfl|rfl|rfl <;> simp
theorem qbm (n:PNote) (tg:Int) (last:Str) (ok:Bool):qaq n tg last ok=if(Ck.find? n.name).isNone=true then 8 else if tg<1 ∨ 6<tg ∨ (bits BinOp.and IntKind.i64 ((qal n.name).2 / 2 ^ tg.toNat) 1 == 0)=true then 1 else if right n=false then 12 else if ok=true/\ltS n.name last=true then 11 else if ok=true/\n.name=last then 9 else 0:=by
 unfold qaq qal;cases h:Ck.find? n.name with
 | none=>rfl
 | some r=>
  obtain⟨a,M⟩:=r;simp only [Option.isNone_some,Bool.false_eq_true,if_false,Option.getD_some];by_cases ht:1<=tg/\tg<=6
  ·simp only [bit_and M tg (qfz _ _ h) ht.1 ht.2,Bool.not_eq_true']
  ·have:tg<1 ∨ 6<tg:=by omega
   rcases this with h|h <;> simp [h]
theorem end8 (n:PNote) (tg:Int) (last:Str) (ok:Bool) (h:(Ck.find? n.name).isNone=true):(8:Int)=qaq n tg last ok:=by
 rw [qbm];rw [if_pos h]
theorem end1a (n:PNote) (tg:Int) (last:Str) (ok:Bool) (h0:(Ck.find? n.name).isNone=false) (h:tg<1):(1:Int)=qaq n tg last ok:=by
 rw [qbm];rw [if_neg (by rw [h0];exact Bool.false_ne_true)];rw [if_pos (.inl h)]
theorem end1b (n:PNote) (tg:Int) (last:Str) (ok:Bool) (h0:(Ck.find? n.name).isNone=false) (h:6<tg):(1:Int)=qaq n tg last ok:=by
 rw [qbm];rw [if_neg (by rw [h0];exact Bool.false_ne_true)];rw [if_pos (.inr (.inl h))]
theorem end1c (n:PNote) (tg:Int) (last:Str) (ok:Bool) (h0:(Ck.find? n.name).isNone=false) (h:(tg<1 ∨ 6<tg) ∨ (bits BinOp.and IntKind.i64 ((qal n.name).2 / 2 ^ tg.toNat) 1 == 0)=true):(1:Int)=qaq n tg last ok:=by
 rw [qbm];rw [if_neg (by rw [h0];exact Bool.false_ne_true)];rw [or_assoc]at h;rw [if_pos h]
theorem end12 (n:PNote) (tg:Int) (last:Str) (ok:Bool) (h0:(Ck.find? n.name).isNone=false) (hm:(1<=tg/\tg<=6)/\(bits BinOp.and IntKind.i64 ((qal n.name).2 / 2 ^ tg.toNat) 1 == 0)=false) (hr:(!right n)=true):(12:Int)=qaq n tg last ok:=by
 rw [qbm];rw [if_neg (by rw [h0];exact Bool.false_ne_true)]
 have hnm : ¬(tg<1 ∨ 6<tg ∨ (bits BinOp.and IntKind.i64 ((qal n.name).2 / 2 ^ tg.toNat) 1 == 0)=true):=by
  rintro (h|h|h)
  ·omega
  ·omega
  ·rw [hm.2]at h;cases h
 rw [if_neg hnm];have hr':right n=false:=by simpa using hr
 rw [if_pos hr']
theorem end11 (n:PNote) (tg:Int) (last:Str) (ok:Bool) (h0:(Ck.find? n.name).isNone=false) (hm:(1<=tg/\tg<=6)/\(bits BinOp.and IntKind.i64 ((qal n.name).2 / 2 ^ tg.toNat) 1 == 0)=false) (hr:(!right n)=false) (ho:ok=true) (hl:Op.bytesLess (S n.name).toList (S last).toList=true):(11:Int)=qaq n tg last ok:=by
 rw [qbm];rw [qfs]at hl;rw [if_neg (by rw [h0];exact Bool.false_ne_true)]
 have hnm : ¬(tg<1 ∨ 6<tg ∨ (bits BinOp.and IntKind.i64 ((qal n.name).2 / 2 ^ tg.toNat) 1 == 0)=true):=by
  rintro (h|h|h)
  ·omega
  ·omega
  ·rw [hm.2]at h;cases h
 rw [if_neg hnm];have hr':right n=true:=by simpa using hr
 simp [hr',ho,hl]
theorem end9 (n:PNote) (tg:Int) (last:Str) (ok:Bool) (h0:(Ck.find? n.name).isNone=false) (hm:(1<=tg/\tg<=6)/\(bits BinOp.and IntKind.i64 ((qal n.name).2 / 2 ^ tg.toNat) 1 == 0)=false) (hr:(!right n)=false) (ho:ok=true) (hl:Op.bytesLess (S n.name).toList (S last).toList=false) (he:((S n.name).toList == (S last).toList)=true):(9:Int)=qaq n tg last ok:=by
 rw [qbm];rw [qfs]at hl;rw [eq_S]at he;rw [if_neg (by rw [h0];exact Bool.false_ne_true)]
 have hnm : ¬(tg<1 ∨ 6<tg ∨ (bits BinOp.and IntKind.i64 ((qal n.name).2 / 2 ^ tg.toNat) 1 == 0)=true):=by
  rintro (h|h|h)
  ·omega
  ·omega
  ·rw [hm.2]at h;cases h
 rw [if_neg hnm];have hr':right n=true:=by simpa using hr
 have he':n.name=last:=by simpa using he
 rw [he']at hl ⊢;simp [hr',ho,hl]
theorem end0a (n:PNote) (tg:Int) (last:Str) (ok:Bool) (h0:(Ck.find? n.name).isNone=false) (hm:(1<=tg/\tg<=6)/\(bits BinOp.and IntKind.i64 ((qal n.name).2 / 2 ^ tg.toNat) 1 == 0)=false) (hr:(!right n)=false) (ho:ok=true) (hl:Op.bytesLess (S n.name).toList (S last).toList=false) (he:((S n.name).toList == (S last).toList)=false):(0:Int)=qaq n tg last ok:=by
 rw [qbm];rw [qfs]at hl;rw [eq_S]at he;rw [if_neg (by rw [h0];exact Bool.false_ne_true)]
 have hnm : ¬(tg<1 ∨ 6<tg ∨ (bits BinOp.and IntKind.i64 ((qal n.name).2 / 2 ^ tg.toNat) 1 == 0)=true):=by
  rintro (h|h|h)
  ·omega
  ·omega
  ·rw [hm.2]at h;cases h
 rw [if_neg hnm];have hr':right n=true:=by simpa using hr
 have he' : ¬n.name=last:=by simpa using he
 simp [hr',ho,hl,he']
theorem end0b (n:PNote) (tg:Int) (last:Str) (ok:Bool) (h0:(Ck.find? n.name).isNone=false) (hm:(1<=tg/\tg<=6)/\(bits BinOp.and IntKind.i64 ((qal n.name).2 / 2 ^ tg.toNat) 1 == 0)=false) (hr:(!right n)=false) (ho : ¬ok=true):(0:Int)=qaq n tg last ok:=by
 rw [qbm];rw [if_neg (by rw [h0];exact Bool.false_ne_true)]
 have hnm : ¬(tg<1 ∨ 6<tg ∨ (bits BinOp.and IntKind.i64 ((qal n.name).2 / 2 ^ tg.toNat) 1 == 0)=true):=by
  rintro (h|h|h)
  ·omega
  ·omega
  ·rw [hm.2]at h;cases h
 rw [if_neg hnm];have hr':right n=true:=by simpa using hr
 simp [hr',ho]
theorem nt_one (nm:Str) (k x:Int) (t:Str) (p1 p2 p3 p4:Option Addr) (n1 n2 n3 n4 q1 q2 q3 q4:Nat) (tg:Int) (last:Str) (ok:Bool) (w:World) (h0:0<=x) (h1:x<18446744073709551616) (b1:n1<=140737488355328) (b2:n2<=140737488355328) (b3:n3<=140737488355328) (b4:n4<=140737488355328) (hn:nm.length<=1000000000):Calls Tryz.prog 184 #[.agg #[.string (S nm),.int .i64 k,.int .u64 x,.string (S t),.slice p1 n1 q1,.slice p2 n2 q2,.slice p3 n3 q3,.slice p4 n4 q4],.int .i64 tg,.string (S last),.bool ok] w fun e w'=>e=.returned (.int .i64 (qaq ⟨nm,⟨k,x,t,n1,n2,n3,n4⟩⟩ tg last ok))/\Below w.heap.size w w':=by
 have ck:=Lib.hid (fun W=>qjk W);have cr:=Lib.hid (fun W=>nt_right nm k x t p1 p2 p3 p4 n1 n2 n3 n4 q1 q2 q3 q4 W h0 h1 b1 b2 b3 b4 hn);clear h0 h1 b1 b2 b3 b4
 go_enter Tryz.func184,Tryz.ntmps184
 go_wp2
 go_region_held3 (fun w'=>w'.cell? ⟨w.heap.size,0,none⟩=some (.string (S nm))) (go_keep) ((go_at_call 205;(with_reducible refine(ck.out _).mono ?_);rintro e w1 ⟨B,rfl,m,hb⟩;have hl:=qcw m nm hn;have hl2:=qcw (m.bel (Bel.alloc (Bel.refl w1) (.cells #[.int .i64 0,.int .i64 0] 191))) nm hn;have k1:Bel w w1:=Bel.of (by(repeat (first|(with_reducible assumption)|(with_reducible exact Bel.refl _)|(with_reducible refine Bel.drew ?_)|(with_reducible refine Bel.drewN ?_ _)|(with_reducible refine Bel.alloc ?_ _)|((with_reducible refine qbr ?_ ?hge);(case hge=>(first|omega|(simp;omega))))))) hb;obtain⟨hc,hf⟩:=bcell hb;have hz:=hb.size;simp at hz;have e0:w1.cell? ⟨w.heap.size,0,none⟩=some (.string (S nm)):=(hc w.heap.size 0 (by first|(simp;done)|(simp;omega))).trans (by first|(go_simp;done)|(simp;done)|rfl);have e1:w1.cell? ⟨w.heap.size,1,none⟩=some (.int .i64 k):=(hc w.heap.size 1 (by first|(simp;done)|(simp;omega))).trans (by first|(go_simp;done)|(simp;done)|rfl);have e2:w1.cell? ⟨w.heap.size,2,none⟩=some (.int .u64 x):=(hc w.heap.size 2 (by first|(simp;done)|(simp;omega))).trans (by first|(go_simp;done)|(simp;done)|rfl);have e3:w1.cell? ⟨w.heap.size,3,none⟩=some (.string (S t)):=(hc w.heap.size 3 (by first|(simp;done)|(simp;omega))).trans (by first|(go_simp;done)|(simp;done)|rfl);have e4:w1.cell? ⟨w.heap.size,4,none⟩=some (.slice p1 n1 q1):=(hc w.heap.size 4 (by first|(simp;done)|(simp;omega))).trans (by first|(go_simp;done)|(simp;done)|rfl);have e5:w1.cell? ⟨w.heap.size,5,none⟩=some (.slice p2 n2 q2):=(hc w.heap.size 5 (by first|(simp;done)|(simp;omega))).trans (by first|(go_simp;done)|(simp;done)|rfl);have e6:w1.cell? ⟨w.heap.size,6,none⟩=some (.slice p3 n3 q3):=(hc w.heap.size 6 (by first|(simp;done)|(simp;omega))).trans (by first|(go_simp;done)|(simp;done)|rfl);have e7:w1.cell? ⟨w.heap.size,7,none⟩=some (.slice p4 n4 q4):=(hc w.heap.size 7 (by first|(simp;done)|(simp;omega))).trans (by first|(go_simp;done)|(simp;done)|rfl);have hz1:w.heap.size<w1.heap.size:=(by omega);clear m hb))
 all_goals go_wp2_with (first
   | (go_at_call 206;(with_reducible refine(cr.out _).mono ?_);rintro e w2 ⟨rfl,h2⟩;have k2:Bel w w2:=Bel.of (by(repeat (first|(with_reducible assumption)|(with_reducible exact Bel.refl _)|(with_reducible refine Bel.drew ?_)|(with_reducible refine Bel.drewN ?_ _)|(with_reducible refine Bel.alloc ?_ _)|((with_reducible refine qbr ?_ ?hge);(case hge=>(first|omega|(simp;omega))))))) h2;obtain⟨hc2,hf2⟩:=bcell h2;clear h2))
 all_goals go_ret
 all_goals refine⟨qad ?_,Bel.out (by(repeat (first|(with_reducible assumption)|(with_reducible exact Bel.refl _)|(with_reducible refine Bel.drew ?_)|(with_reducible refine Bel.drewN ?_ _)|(with_reducible refine Bel.alloc ?_ _)|((with_reducible refine qbr ?_ ?hge);(case hge=>(first|omega|(simp;omega)))))))⟩
 all_goals first|exact end8 ⟨nm,⟨k,x,t,n1,n2,n3,n4⟩⟩ tg last ok (by assumption)|exact end11 ⟨nm,⟨k,x,t,n1,n2,n3,n4⟩⟩ tg last ok (by assumption) (by assumption) (by assumption) (by assumption) (by assumption)|exact end9 ⟨nm,⟨k,x,t,n1,n2,n3,n4⟩⟩ tg last ok (by assumption) (by assumption) (by assumption) (by assumption) (by assumption) (by assumption)|exact end0a ⟨nm,⟨k,x,t,n1,n2,n3,n4⟩⟩ tg last ok (by assumption) (by assumption) (by assumption) (by assumption) (by assumption) (by assumption)|exact end0b ⟨nm,⟨k,x,t,n1,n2,n3,n4⟩⟩ tg last ok (by assumption) (by assumption) (by assumption) (by assumption)|exact end12 ⟨nm,⟨k,x,t,n1,n2,n3,n4⟩⟩ tg last ok (by assumption) (by assumption) (by assumption)|exact end1c ⟨nm,⟨k,x,t,n1,n2,n3,n4⟩⟩ tg last ok (by assumption) (by assumption)|exact end1a ⟨nm,⟨k,x,t,n1,n2,n3,n4⟩⟩ tg last ok (by assumption) (by assumption)|exact end1b ⟨nm,⟨k,x,t,n1,n2,n3,n4⟩⟩ tg last ok (by assumption) (by assumption)
end Go.Proofs.YtgpjhibdongmbaaGreatDoor
namespace Go.Proofs.YtgpjhibdongmbaaGreatDoor
open Go.RowKit Ck
theorem nt_Check (v:Value) (l:List PNote) (tg:Int) (w:World) (hv:Notes w v l) (hl : ∀n ∈ l,n.name.length<=1000000000):Calls Tryz.prog 150 #[v,.int .i64 tg] w fun e w'=>e=.returned (.int .i64 (qah l tg))/\Below w.heap.size w w':=by
 obtain⟨p,c,rfl,hlen,hcap,hel⟩:=hv;by_cases h8:8<l.length
 ·have V:=Lib.hid (show qah l tg=3 by unfold qah;rw [if_pos h8])
  have h8':(8:Int)<(l.length:Int):=by omega
  clear hel hl
  go_enter Tryz.func150,Tryz.ntmps150
  go_wp2;go_ret
  exact⟨qad V.out.symm,Below.refl _ _⟩
 ·have V:=Lib.hid (show qbs tg l [] false=qah l tg by unfold qah;rw [if_neg h8])
  have h8' : ¬(8:Int)<(l.length:Int):=by omega
  have EL:=Lib.hid hel;have HL:=Lib.hid hl;clear hel hl;generalize qah l tg=T at V
  go_enter Tryz.func150,Tryz.ntmps150
  go_wp2
  go_loopw [5,14] (fun t i wr => ∃(k:Nat) (last:Str),k<=l.length/\t=.string (S last)/\i=.int .i64 k/\Bel w wr/\Hid (qbs tg (l.drop k) last (decide (0<k))=T)) (fun _ i _=>l.length-(intOf i).toNat)
  case atStart=>exact⟨0,[],by omega,rfl,rfl,Bel.refl _,V⟩
  case round=>
   obtain⟨k,last,hk,rfl,rfl,kw,hgo⟩:=hrel;by_cases hlt:k<l.length
   ·have hg:l[k]? = some l[k]:=List.getElem?_eq_getElem hlt
    obtain⟨b,off,rfl,hbs,vs,hce,nv,rfl,p1,p2,p3,p4,c1,c2,c3,c4,rfl,u0,u1,g1,g2,g3,g4⟩:=EL.out k _ hg;have hnl:=HL.out _ (List.getElem_mem hlt);have hdr:l.drop k=l[k] :: l.drop (k+1):=List.drop_eq_getElem_cons hlt;have hgo2:=hgo.out;rw [hdr]at hgo2;clear hgo hdr hg;generalize l[k]=n at *;obtain⟨nm,⟨nk,nx,nt,m1,m2,m3,m4⟩⟩:=n;have co:=Lib.hid (fun ok W=>nt_one nm nk nx nt p1 p2 p3 p4 m1 m2 m3 m4 c1 c2 c3 c4 tg last ok W u0 u1 g1 g2 g3 g4 hnl);have GO:=Lib.hid hgo2;have e0:wr.cell? ⟨b,off+k*8,none⟩=some (.string (S nm)):=kw.some (hce 0 _ rfl);have e1:wr.cell? ⟨b,off+k*8+1,none⟩=some (.int .i64 nk):=kw.some (hce 1 _ rfl);have e2:wr.cell? ⟨b,off+k*8+2,none⟩=some (.int .u64 nx):=kw.some (hce 2 _ rfl);have e3:wr.cell? ⟨b,off+k*8+3,none⟩=some (.string (S nt)):=kw.some (hce 3 _ rfl);have e4:wr.cell? ⟨b,off+k*8+4,none⟩=some (.slice p1 m1 c1):=kw.some (hce 4 _ rfl);have e5:wr.cell? ⟨b,off+k*8+5,none⟩=some (.slice p2 m2 c2):=kw.some (hce 5 _ rfl);have e6:wr.cell? ⟨b,off+k*8+6,none⟩=some (.slice p3 m3 c3):=kw.some (hce 6 _ rfl);have e7:wr.cell? ⟨b,off+k*8+7,none⟩=some (.slice p4 m4 c4):=kw.some (hce 7 _ rfl);clear hce hgo2 u0 u1 g1 g2 g3 g4 hnl;have hki:((k:Int)<(l.length:Int)):=by omega
    have hwr:IntKind.i64.wrap ((k:Int)+1)=(k:Int)+1:=wrap_small _ (by omega) (by omega)
    go_wp2_with (go_at_call 184;(with_reducible refine(co.out _ _).mono ?_);rintro e w2 ⟨rfl,h2⟩;have k2:Bel w w2:=Bel.of (by(repeat (first|(with_reducible assumption)|(with_reducible exact Bel.refl _)|(with_reducible refine Bel.drew ?_)|(with_reducible refine Bel.drewN ?_ _)|(with_reducible refine Bel.alloc ?_ _)|((with_reducible refine qbr ?_ ?hge);(case hge=>(first|omega|(simp;omega))))))) h2;obtain⟨hc2,hf2⟩:=bcell h2;clear h2)
    ·rename_i hne
     go_ret;refine⟨qad ?_,Bel.out (by(repeat (first|(with_reducible assumption)|(with_reducible exact Bel.refl _)|(with_reducible refine Bel.drew ?_)|(with_reducible refine Bel.drewN ?_ _)|(with_reducible refine Bel.alloc ?_ _)|((with_reducible refine qbr ?_ ?hge);(case hge=>(first|omega|(simp;omega)))))))⟩
     have G:=GO.out;unfold qbs at G;rw [if_neg (by simpa using hne)]at G;exact G
    ·rename_i heq
     refine⟨⟨k+1,nm,by omega,rfl,rfl,(by(repeat (first|(with_reducible assumption)|(with_reducible exact Bel.refl _)|(with_reducible refine Bel.drew ?_)|(with_reducible refine Bel.drewN ?_ _)|(with_reducible refine Bel.alloc ?_ _)|((with_reducible refine qbr ?_ ?hge);(case hge=>(first|omega|(simp;omega))))))),?hnext⟩,by simp [intOf];omega⟩
     case hnext=>
      have G:=GO.out;unfold qbs at G;rw [if_pos (by simpa using heq)]at G;rw [decide_eq_true (Nat.succ_pos k)];exact Lib.hid G
   ·have hkl:k=l.length:=by omega
    subst hkl;have G:=hgo.out;rw [List.drop_length]at G;have G0:T=0:=G.symm;clear hgo G;go_wp2;go_ret;exact⟨qad G0.symm,kw.out⟩
end Go.Proofs.YtgpjhibdongmbaaGreatDoor
namespace Go.Proofs.YtgpjhibdongmbaaGreatDoor
open Go.RowKit Ck
theorem row_bel {w w':World} {B:Nat} {e:TypeId} {size:Nat} {v:Value} {n:Nat} {xs:List Value} (h:w.ownsRow B e size v n xs) (k:Bel w w'):w'.ownsRow B e size v n xs:=by
 refine⟨h.1,?_⟩;rcases h.2 with hn|⟨g,cap,cur,rfl,hb,hgg,rest⟩
 ·exact .inl hn
 ·exact .inr ⟨g,cap,cur,rfl,hb,(Below.block k g (Array.getElem?_eq_some_iff.1 hgg).1).trans hgg,rest⟩
end Go.Proofs.YtgpjhibdongmbaaGreatDoor
namespace Go.Proofs.YtgpjhibdongmbaaGreatDoor
open Go.RowKit
theorem qa9 {P:Program} {id:Nat} {Q:Exit->Act->World->Prop} {a:Act} {w wd:World} {l:List Oper} (n:Nat) (hm:P.follows .mixedOrders=true) (hB:Region.lexTailB .any l.toArray n=true) (hwd:wd=w.drew)
  (h:wpStill P l.toArray wd (fun a'=>wpList P l.toArray Q (l.drop n) a' wd) (l.take n) a):(Code.region id l.toArray true).wp P Q a w:=by subst hwd;exact wp_region_still_tail n hm hB h
theorem qac {P:Program} {ops:Array Oper} {w:World} {Q:Act->Prop} {o:Oper} {rest:List Oper} {a:Act} (h:Region.wanted o (yielded ops a.tmps)=false) (k:wpStill P ops w Q rest (a.put o.dst undef)):wpStill P ops w Q (o :: rest) a:=by
 unfold wpStill;rw [h];exact k
end Go.Proofs.YtgpjhibdongmbaaGreatDoor
namespace Go.Proofs.YtgpjhibdongmbaaGreatDoor
open Go.RowKit Ck
end Go.Proofs.YtgpjhibdongmbaaGreatDoor
namespace Go.Proofs.YtgpjhibdongmbaaGreatDoor
open Go.RowKit Ck
section
variable {w0 : World} {fb : Nat} {d : Str} {num : Int} {w : World} {bl : List (Nat × Array Value × TypeId)} {N : Nat} {ps : List PProb} {wx : World}
end
end Go.Proofs.YtgpjhibdongmbaaGreatDoor
namespace Go.Proofs.YtgpjhibdongmbaaGreatDoor
open Go.RowKit Ck
end Go.Proofs.YtgpjhibdongmbaaGreatDoor
namespace Go.Proofs.YtgpjhibdongmbaaGreatDoor
open Go.RowKit Ck
end Go.Proofs.YtgpjhibdongmbaaGreatDoor
namespace Go.Proofs.YtgpjhibdongmbaaGreatDoor
open Go.RowKit Ck
theorem ql5 {w:World} {B C:Nat} {e:TypeId} {z:Nat} {v:Value} {n:Nat} {xs:List Value} (h:w.ownsRow C e z v n xs) (hb:B<=C):w.ownsRow B e z v n xs:=by
 refine⟨h.1,?_⟩;rcases h.2 with hn|⟨g,cap,cur,h1,h2,rest⟩
 ·exact .inl hn
 ·exact .inr ⟨g,cap,cur,h1,Nat.le_trans hb h2,rest⟩
end Go.Proofs.YtgpjhibdongmbaaGreatDoor
namespace Go.Proofs.YtgpjhibdongmbaaGreatDoor.Ck
inductive Fin (s:PSchema):Str->Prop
 | mk (n:Str) (m:PMsg) (h:msgOf s n=some m) (hk : ∀k,k ∈ needs m->(msgOf s k).isSome=true->Fin s k):Fin s n
theorem getD_set (l:List Bool) (i k:Nat) (h:i<l.length):(l.set i true).getD k false=if k=i then true else l.getD k false:=by
 by_cases hk:k=i
 ·subst hk;simp [List.getD,h]
 ·simp [List.getD,hk,List.getElem?_set_ne (Ne.symm hk)]
end Go.Proofs.YtgpjhibdongmbaaGreatDoor.Ck
namespace Go.Proofs.YtgpjhibdongmbaaGreatDoor
open Go.RowKit Ck
end Go.Proofs.YtgpjhibdongmbaaGreatDoor
namespace Go.Proofs.YtgpjhibdongmbaaGreatDoor
open Go.RowKit
theorem qes (s:ByteArray) (l:List UInt8) (w:World) (hl:s.data.toList=l) :
  Calls Tryz.prog 103 #[.string s] w fun e w'=>e=.returned (.bool (Id.isWord l))/\w=w':=by
 have hb:s.toList=l:=by rw [ByteArray.toList_eq];exact hl
 have H:=Lib.hid hb;clear hl hb
 go_enter Tryz.func103,Tryz.ntmps103
 go_wp2
 all_goals go_ret
 all_goals
  refine⟨qa3 ?_,rfl⟩;simp only [H.out,beq_iff_eq,beq_eq_false_iff_ne,ne_eq]at *
  first
  | contradiction
  | (symm;apply word_of;subst l;decide)
  | (symm;apply decide_eq_false;simp only [Id.words,List.mem_cons,List.not_mem_nil,or_false,not_or];(repeat' (first|assumption|apply And.intro));done)
theorem qky (b:UInt8) (w:World):Calls Tryz.prog 166 #[.int .u8 (b.toNat:Int)] w fun e w'=>e=.returned (.bool (Id.smB b))/\w=w':=by
 have hb:=b.toNat_lt
 go_enter Tryz.func166,Tryz.ntmps166
 go_wp2
 all_goals go_ret
 all_goals exact⟨qa3 (by rw [Bool.eq_iff_iff];simp [Id.smB]at *;try omega),rfl⟩
theorem qht (b:UInt8) (w:World):Calls Tryz.prog 167 #[.int .u8 (b.toNat:Int)] w fun e w'=>e=.returned (.bool (Id.caB b))/\w=w':=by
 have hb:=b.toNat_lt
 go_enter Tryz.func167,Tryz.ntmps167
 go_wp2
 all_goals go_ret
 all_goals exact⟨qa3 (by rw [Bool.eq_iff_iff];simp [Id.caB]at *;try omega),rfl⟩
theorem qkz (s:ByteArray) (l:List UInt8) (w:World) (hl:s.data.toList=l) (hs:s.size<=1000000000) :
  Calls Tryz.prog 102 #[.string s] w fun e w'=>e=.returned (.tuple #[.string (S (Id.splitL l).1),.string (S (Id.splitL l).2)])/\∃n,w.drewN n=w':=by
 have hsz:l.length=s.size:=by rw [←hl];exact len_l s
 have HL:=Lib.hid hl;clear hl
 go_enter Tryz.func102,Tryz.ntmps102
 go_wp2
 go_loopw [4] (fun i wr => ∃k:Nat,k<=s.size/\i=.int .i64 ((k:Int)-1)/\w=wr/\Hid (∀j,k<=j->l[j]? ≠ some 46)) (fun i _=>(intOf i+1).toNat)
 case atStart=>exact⟨s.size,Nat.le_refl _,rfl,rfl,Lib.hid (fun j hj=>by rw [List.getElem?_eq_none (by omega)];simp)⟩
 case round=>
  obtain⟨k,hk,rfl,rfl,hno⟩:=hrel;cases k with
  | zero=>
   have hd:Id.lastDot l = -1:=(Id.lastDot_none l).2 fun hm=>by
    obtain⟨j,hj⟩:=List.mem_iff_getElem?.1 hm;exact hno.out j (by omega) hj
   have hv:Id.splitL l=([],l):=by unfold Id.splitL;rw [if_pos hd]
   have V:=Lib.hid hv;have hneg : ¬((0:Int)<=((0:Nat):Int)-1):=by omega
   clear hd hv;go_wp2;go_ret2;exact⟨by rw [V.out, ←HL.out];rfl,0,rfl⟩
  | succ j=>
   have hj:j<s.size:=by omega
   have hg:l[j]? = some (s[j]'hj):=by rw [←HL.out];exact get_l s j hj
   have hij:((j+1:Nat):Int)-1=(j:Int):=by omega
   have q0:(0:Int)<=j:=by omega
   have q1:(j:Int)<s.size:=by omega
   have q2:s[j].toNat<256:=UInt8.toNat_lt _;simp only [hij];by_cases hc:s[j]'hj=46
   ·have hd:Id.lastDot l=j:=Id.lastDot_at l j (by rw [hg,hc]) (fun i hi=>hno.out i (by omega))
    have hv:Id.splitL l=(l.take j,l.drop (j+1)):=by unfold Id.splitL;rw [if_neg (by omega),hd];rfl
    have h1:S (l.take j)=s.extract 0 j:=by symm;apply S_of;rw [qdw,HL.out];simp
    have h2:S (l.drop (j+1))=s.extract (j+1) s.size:=by
     symm;apply S_of
     rw [qdw,HL.out];exact List.take_of_length_le (by rw [List.length_drop,hsz];exact Nat.le_refl _)
    have V:=Lib.hid hv;have H1:=Lib.hid h1;have H2:=Lib.hid h2;have hb:((s[j].toNat:Int) == 46)=true:=by rw [hc];rfl
    clear hd hv h1 h2 hg hc hij;have s1:IntKind.i64.wrap ((j:Int)+1)=(j:Int)+1:=IntWalk.i64_in _ (by omega);have s2:(0:Int)<=(j:Int)+1:=by omega
    have s3:((j:Int)+1).toNat=j+1:=by omega
    have s4:j+1<=s.size:=by omega
    have s5:(j:Int)+1<=s.size:=by omega
    go_wp2
    go_quiet (fail)
    go_wp2;go_ret2
    exact⟨by(rw [V.out,H1.out,H2.out]);rfl,_,rfl⟩
   ·have hb:((s[j].toNat:Int) == 46)=false:=beq_eq_false_iff_ne.2 (fun e=>hc (by apply UInt8.toNat_inj.1;show s[j].toNat=46;omega))
    have hno2:Hid (∀i,j<=i->l[i]? ≠ some 46):=Lib.hid (fun i hi=>by
     by_cases e:i=j
     ·subst e;rw [hg];simpa using hc
     ·exact hno.out i (by omega))
    clear hg hc hij;go_wp2;go_roundw
    case rel=>exact⟨j,by omega,rfl,trivial,hno2⟩
    case measure=>simp [intOf]
end Go.Proofs.YtgpjhibdongmbaaGreatDoor
