import Derived.Test.YtgpjhibdongmbaaGreatDoorUtfDec
import Derived.Test.YtgpjhibdongmbaaGreatDoorShelf
import Derived.Laws.Bits64b
import Derived.Deep.RegionHeld3
import Derived.IntWalk
import Derived.Test.YtgpjhibdongmbaaGreatDoorRows
import Derived.LaidLaws
import Derived.OpenShut
import Derived.Lib.OthersKept
import Derived.Lib.Split
set_option maxRecDepth 100000
set_option maxHeartbeats 4000000
set_option linter.unusedVariables false
set_option linter.unusedSimpArgs false
namespace Go.Proofs.YtgpjhibdongmbaaGreatDoor
open Go.RowKit
theorem rep_list (m:List UInt8) (h:0<m.length):Lib.hasPrefix m [239,191,189]=true ↔
  (Utf.gb m 0=239/\(decide (1<m.length)=true/\Utf.gb m 1=191)/\decide (2<m.length)=true/\Utf.gb m 2=189):=by
 have e : ∀(b:UInt8) (n:Nat),n<256->(b.toNat=n ↔ UInt8.ofNat n=b):=by
  intro b n hn;constructor
  ·rintro rfl;simp
  ·rintro rfl;simp [UInt8.toNat_ofNat',Nat.mod_eq_of_lt hn]
 match m,h with
 | [a],_=>simp [Lib.hasPrefix,List.isPrefixOf]
 | [a,b],_=>simp [Lib.hasPrefix,List.isPrefixOf]
 | a :: b :: c :: t,_=>
  simp only [Lib.hasPrefix,List.isPrefixOf,Bool.and_eq_true,beq_iff_eq,Utf.gb,List.getElem?_cons_zero,List.getElem?_cons_succ,Option.getD_some,List.length_cons,decide_eq_true_eq,e _ _ (show 239<256 by omega),e _ _ (show 191<256 by omega),e _ _ (show 189<256 by omega)];constructor
  ·rintro ⟨h1,h2,h3,_⟩;exact⟨h1,⟨by omega,h2⟩,by omega,h3⟩
  ·rintro ⟨h1,⟨_,h2⟩,_,h3⟩;exact⟨h1,h2,h3,trivial⟩
theorem qgj (l:List UInt8) (i:Nat) (hi:i<l.length):Lib.hasPrefix (l.drop i) [239,191,189]=true ↔ Utf.isRep l i:=by
 have hg : ∀k,Utf.gb (l.drop i) k=Utf.gb l (i+k):=fun k=>by unfold Utf.gb;rw [List.getElem?_drop]
 rw [rep_list _ (by simp;omega),hg,hg,hg,List.length_drop];unfold Utf.isRep;rw [show decide (1<l.length-i)=decide (i+1<l.length)from by rw [decide_eq_decide];omega,show decide (2<l.length-i)=decide (i+2<l.length)from by rw [decide_eq_decide];omega];rfl
theorem qg2 (w:World) (s:ByteArray) (k:Nat):Below w.heap.size w (w.iter s k):=(Below.refl _ _).alloc (Nat.le_refl _) _
theorem qgw (s:ByteArray) (l:List UInt8) (i:Nat) (a c:Int) (w:World) (hl:s.data.toList=l) (ha:a=i) (hc:c=((Utf8.decode s i).1:Nat)) (hs:s.size<=1000000000) (hi:i<s.size) :
  Calls Tryz.prog 204 #[.string s,.int .i64 a,.int .i32 c] w fun e w'=>e=.returned (.bool (decide (Utf.szAt l i=0)))/\w=w':=by
 have hls:s.data.toList.length=s.size:=len_l s;have hsub:(s.extract i s.size).data.toList=s.data.toList.drop i:=by rw [qeh,List.take_of_length_le (by simp)]
 have hP:=fun W=>Tryz.strings_HasPrefix (s.extract i s.size) ⟨#[239,191,189]⟩ W
 rw [hsub]at hP;have hp:=qgj s.data.toList i (by omega);subst ha hl;by_cases h0:Utf.szAt s.data.toList i=0
 ·have hb:=Utf.decode_bad s i (by omega) h0
  have hp':Lib.hasPrefix (s.data.toList.drop i) [239,191,189]=false:=by
   cases hh:Lib.hasPrefix (s.data.toList.drop i) [239,191,189]with
   | false=>rfl
   | true=>exact absurd (hp.1 hh) hb.2
  have hc':(c == 65533)=true:=by rw [hc,hb.1];rfl
  have hd:=Lib.hid (decide_eq_true h0);rw [show(⟨#[239,191,189]⟩:ByteArray).data.toList=[239,191,189]from rfl,hp']at hP;have HP:=Lib.hid hP;clear hP hp hb h0 hp' hls hsub hc
  go_enter Tryz.func204,Tryz.ntmps204
  go_wp2_with (go_at_call 215;(with_reducible refine(HP.out _).mono ?_);rintro e w' ⟨rfl,rfl⟩)
  go_ret;exact⟨qa3 hd.out.symm,rfl⟩
 ·have hg:=Utf.decode_good s i (by omega) h0
  have hd:=Lib.hid (decide_eq_false h0);by_cases hr:(Utf8.decode s i).1=65533
  ·have hp':Lib.hasPrefix (s.data.toList.drop i) [239,191,189]=true:=hp.2 (hg.2.1 hr)
   have hc':(c == 65533)=true:=by rw [hc,hr];rfl
   rw [show(⟨#[239,191,189]⟩:ByteArray).data.toList=[239,191,189]from rfl,hp']at hP;have HP:=Lib.hid hP;clear hP hp hg h0 hp' hls hsub hc hr
   go_enter Tryz.func204,Tryz.ntmps204
   go_wp2_with (go_at_call 215;(with_reducible refine(HP.out _).mono ?_);rintro e w' ⟨rfl,rfl⟩)
   go_ret;exact⟨qa3 hd.out.symm,rfl⟩
  ·have hc':(c == 65533)=false:=ine (by omega)
   clear hP hp hg h0 hls hsub hc hr
   go_enter Tryz.func204,Tryz.ntmps204
   go_wp2;go_ret
   exact⟨qa3 hd.out.symm,rfl⟩
theorem dec_pos (s:ByteArray) (i:Nat) (hi:i<s.size):(Utf8.decode s i).2=max 1 (Utf.szAt s.data.toList i):=by
 have hls:s.data.toList.length=s.size:=len_l s;by_cases h0:Utf.szAt s.data.toList i=0
 ·rw [(Utf.decode_bad s i (by omega) h0).1,h0];rfl
 ·rw [(Utf.decode_good s i (by omega) h0).1];omega
theorem utf_Bad (s:ByteArray) (l:List UInt8) (w:World) (hl:s.data.toList=l) (hs:s.size<=1000000000) :
  Calls Tryz.prog 182 #[.string s] w fun e w'=>e=.returned (.int .i64 (Utf.bad l))/\Below w.heap.size w w':=by
 have hnn:=Lib.hid (len_l s);subst hl
 go_enter Tryz.func182,Tryz.ntmps182
 go_wp2
 go_loopw [] (fun wr => ∃k:Nat,k<=s.size/\wr=w.iter s k/\Hid (Utf.badS 0 k (s.data.toList.drop k)=Utf.bad s.data.toList)) (fun wr=>s.size-wr.iterPos w.heap.size)
 case atStart=>exact⟨0,by omega,rfl,rfl⟩
 case round=>
  obtain⟨k,hk,rfl,H⟩:=hrel;by_cases hlt:k<s.size
  ·have hnx:=fun ty=>run_next_any (P:=Tryz.prog) w s k ty hlt
   have HS:=Lib.hid (Utf.badS_step s.data.toList k (by rw [hnn.out];exact hlt));have hdp:=dec_pos s k hlt;have hle := @Utf.szAt_lt s.data.toList k;rw [hnn.out]at hle;by_cases h0:Utf.szAt s.data.toList k=0
   ·have h0':decide (Utf.szAt s.data.toList k=0)=true:=decide_eq_true h0
    have h0h:=Lib.hid h0;clear h0 hle hdp
    go_wp2_with (go_at_call 204;refine(qgw s _ k _ _ _ rfl (by omega) (by omega) hs hlt).mono ?_;rintro e w' ⟨rfl,rfl⟩)
    go_ret;refine⟨qaf (by rw [←H.out,HS.out,if_pos h0h.out]),qg2 _ _ _⟩
   ·have hle2:=hle h0
    have h0':decide (Utf.szAt s.data.toList k=0)=false:=decide_eq_false h0;have h0h:=Lib.hid h0;rw [show max 1 (Utf.szAt s.data.toList k)=Utf.szAt s.data.toList k from by omega]at hdp;have hdh:=Lib.hid hdp;clear h0 hle hdp
    go_wp2_with (go_at_call 204;refine(qgw s _ k _ _ _ rfl (by omega) (by omega) hs hlt).mono ?_;rintro e w' ⟨rfl,rfl⟩)
    go_roundw
    case rel=>exact⟨k+Utf.szAt s.data.toList k,by omega,by rw [hdh.out],Lib.hid (by rw [←H.out,HS.out,if_neg h0h.out])⟩
    case measure=>have:=h0h.out;have:=hdh.out;simp;omega
  ·have hnx:=fun ty=>run_next_end (P:=Tryz.prog) w s k ty hlt
   go_wp2;go_ret
   refine⟨qaf (by rw [←H.out,Utf.bad_end _ _ (by rw [hnn.out];omega)]),qg2 _ _ _⟩
theorem qgx (s:ByteArray) (l:List UInt8) (w:World) (hl:s.data.toList=l) (hs:s.size<=1000000000) :
  Calls Tryz.prog 145 #[.string s] w fun e w'=>e=.returned (.bool (decide (Utf.bad l<0)))/\Below w.heap.size w w':=by
 go_enter Tryz.func145,Tryz.ntmps145
 go_wp2_with (go_at_call 182;refine(utf_Bad s l _ hl hs).mono ?_;rintro e w' ⟨rfl,hb⟩)
 go_ret;exact⟨rfl,hb⟩
end Go.Proofs.YtgpjhibdongmbaaGreatDoor
namespace Go.Proofs.YtgpjhibdongmbaaGreatDoor
open Go.RowKit
theorem _root_.Go.RowKit.Below.bal {w a:World} (h:Below w.heap.size w a) (o:Obj):Below w.heap.size w (a.alloc o):=h.alloc h.size o
theorem _root_.Go.RowKit.Below.link {w a b:World} (k:Below a.heap.size a b) (h:Below w.heap.size w a):Below w.heap.size w b:=h.trans (k.mono h.size)
theorem bcell {W w1:World} (hb:Below W.heap.size W w1):(∀b o,b<W.heap.size->w1.cell? ⟨b,o,none⟩=W.cell? ⟨b,o,none⟩)/\(∀b o,b<W.heap.size->w1.frozen? ⟨b,o,none⟩=W.frozen? ⟨b,o,none⟩):=
 ⟨fun b o h=>hb.cell (p:=⟨b,o,none⟩) h,fun b o h=>hb.frozen (p:=⟨b,o,none⟩) h⟩
theorem qj5 (b:Int) (h0:0<=b) (h1:b<18446744073709551616):wrap64 b=if b<9223372036854775808 then b else b-18446744073709551616:=by
 unfold wrap64;split <;> omega
theorem emp (t:ByteArray):t.toList.isEmpty=decide (t.data.toList=[]):=by
 rw [ByteArray.toList_eq];cases t.data.toList <;> rfl
theorem emp' (t:ByteArray):(t.toList=[])=(t.data.toList=[]):=by rw [ByteArray.toList_eq]
theorem sc_Is (k:Int) (w:World):Calls Tryz.prog 183 #[.int .i64 k] w fun e w'=>e=.returned (.bool (Pr.isK k))/\w=w':=by
 go_enter Tryz.func183,Tryz.ntmps183
 go_wp2
 all_goals go_ret
 all_goals exact⟨qa3 (by rw [Bool.eq_iff_iff];simp [Pr.isK]at *;try omega),rfl⟩
theorem sc_texty (k:Int) (w:World):Calls Tryz.prog 235 #[.int .i64 k] w fun e w'=>e=.returned (.bool (Pr.txt k))/\w=w':=by
 go_enter Tryz.func235,Tryz.ntmps235
 go_wp2
 all_goals go_ret
 all_goals exact⟨qa3 (by rw [Bool.eq_iff_iff];simp [Pr.txt]at *;try omega),rfl⟩
theorem qh1 (k x:Int) (w:World) (h0:0<=x) (h1:x<18446744073709551616):Calls Tryz.prog 228 #[.int .i64 k,.int .u64 x] w fun e w'=>e=.returned (.bool (Pr.withB k x))/\w=w':=by
 go_enter Tryz.func228,Tryz.ntmps228
 go_wp2
 all_goals go_ret
 all_goals
  refine⟨qa3 ?_,rfl⟩;have hw:=qj5 x h0 h1;rw [Bool.eq_iff_iff];simp only [beq_iff_eq,beq_eq_false_iff_ne,ne_eq]at *;simp [Pr.withB, *]
  try (split at hw <;> (repeat' split) <;> omega)
theorem sc_lean (k x:Int) (t:ByteArray) (p1 p2 p3 p4:Option Addr) (n1 n2 n3 n4 q1 q2 q3 q4:Nat) (w:World) (h0:0<=x) (h1:x<18446744073709551616) (b1:n1<=140737488355328) (b2:n2<=140737488355328) (b3:n3<=140737488355328) (b4:n4<=140737488355328):Calls Tryz.prog 227 #[.agg #[.int .i64 k,.int .u64 x,.string t,.slice p1 n1 q1,.slice p2 n2 q2,.slice p3 n3 q3,.slice p4 n4 q4]] w fun e w'=>e=.returned (.bool (Pr.leanB k x t.data.toList (n1+n2+n3+n4)))/\Below w.heap.size w w':=by
 have c:=Lib.hid (fun W=>sc_texty k W);by_cases hz:n1+n2+n3+n4=0
 ·have hl:Pr.leanB k x t.data.toList (n1+n2+n3+n4)=if Pr.txt k=true then decide (x=0)else decide (t.data.toList=[]):=by simp [Pr.leanB,hz]
  have hl':=Lib.hid hl;clear hl;have hz':(n1:Int)+n2+n3+n4<=0:=by omega
  clear hz;cases ht:Pr.txt k
  all_goals
   rw [ht]at c hl';clear ht
   go_enter Tryz.func227,Tryz.ntmps227
   go_wp2_with (first
    | (go_at_call 235;(with_reducible refine(c.out _).mono ?_);rintro e w' ⟨rfl,rfl⟩))
   go_ret;refine⟨qa3 ?_,(Below.refl _ _).alloc (Nat.le_refl _) _⟩
   rw [hl'.out,Bool.eq_iff_iff];simp [emp,emp']
 ·have hl:Pr.leanB k x t.data.toList (n1+n2+n3+n4)=false:=by unfold Pr.leanB;rw [decide_eq_false hz];rfl
  have hl':=Lib.hid hl;clear hl;have hz':0<(n1:Int)+n2+n3+n4:=by omega
  clear hz
  go_enter Tryz.func227,Tryz.ntmps227
  go_wp2;go_ret
  exact⟨qa3 hl'.out.symm,(Below.refl _ _).alloc (Nat.le_refl _) _⟩
theorem qfg (kind:Int) (k x:Int) (t:ByteArray) (p1 p2 p3 p4:Option Addr) (n1 n2 n3 n4 q1 q2 q3 q4:Nat) (w:World) (h0:0<=x) (h1:x<18446744073709551616) (b1:n1<=140737488355328) (b2:n2<=140737488355328) (b3:n3<=140737488355328) (b4:n4<=140737488355328) (ht:t.size<=1000000000):Calls Tryz.prog 217 #[.int .i64 kind,.agg #[.int .i64 k,.int .u64 x,.string t,.slice p1 n1 q1,.slice p2 n2 q2,.slice p3 n3 q3,.slice p4 n4 q4]] w fun e w'=>e=.returned (.bool (Pr.fitsB kind k x t.data.toList (n1+n2+n3+n4)))/\Below w.heap.size w w':=by
 have hl:t.data.toList.length=t.size:=len_l t;have c1:=Lib.hid (fun W=>sc_Is kind W);have c2:=Lib.hid (fun W=>sc_lean k x t p1 p2 p3 p4 n1 n2 n3 n4 q1 q2 q3 q4 W h0 h1 b1 b2 b3 b4);have c3:=Lib.hid (fun W=>qh1 kind x W h0 h1);have c4:=Lib.hid (fun W=>qgx t t.data.toList W rfl ht);have hE:Pr.fitsB kind k x t.data.toList (n1+n2+n3+n4)=(Pr.isK kind && decide (k=kind) && Pr.leanB k x t.data.toList (n1+n2+n3+n4) && Pr.withB kind x && decide (t.size<=4096) && (decide (kind ≠ 7) || decide (Utf.bad t.data.toList<0))):=by unfold Pr.fitsB;rw [hl]
 have hE':=Lib.hid hE;clear hE hl;generalize Pr.fitsB kind k x t.data.toList (n1+n2+n3+n4)=R at hE' ⊢;generalize Pr.leanB k x t.data.toList (n1+n2+n3+n4)=bl at c2 hE';generalize Pr.withB kind x=bw at c3 hE';generalize Pr.isK kind=bi at c1 hE';generalize decide (Utf.bad t.data.toList<0)=bv at c4 hE';by_cases hk:k=kind
 ·subst hk
  rw [decide_eq_true rfl]at hE'
  go_enter Tryz.func217,Tryz.ntmps217
  go_wp2_with (first
   | (go_at_call 183;(with_reducible refine(c1.out _).mono ?_);rintro e w' ⟨rfl,rfl⟩)
   | (go_at_call 227;(with_reducible refine(c2.out _).mono ?_);rintro e w1 ⟨rfl,hb1⟩;obtain⟨hc1,hf1⟩:=bcell hb1;have hz1:=hb1.size;(try simp at hz1);(try have hx1:w.heap.size+1<w1.heap.size:=by omega);(try have hy1:w.heap.size<w1.heap.size:=by omega))
   | (go_at_call 228;(with_reducible refine(c3.out _).mono ?_);rintro e w' ⟨rfl,rfl⟩)
   | (go_at_call 145;(with_reducible refine(c4.out _).mono ?_);rintro e w2 ⟨rfl,hb2⟩;obtain⟨hc2,hf2⟩:=bcell hb2;have hz2:=hb2.size;(try simp at hz2);(try have hx2:w.heap.size+1<w2.heap.size:=by omega);(try have hy2:w.heap.size<w2.heap.size:=by omega)))
  all_goals go_ret
  all_goals refine⟨qa3 ?_,by(repeat (first|(with_reducible exact Below.refl _ _)|(with_reducible refine Below.drew ?_)|(with_reducible refine Below.bal ?_ _)|(with_reducible refine Below.setCell ?_ (by simp) _)|(with_reducible refine Below.link (by assumption) ?_)))⟩
  all_goals rw [hE'.out]
  all_goals (simp_all;try (first|omega|(intros;omega)))
 ·have hk':(k != kind)=true:=bne_iff_ne.2 hk
  rw [decide_eq_false hk]at hE';clear hk
  go_enter Tryz.func217,Tryz.ntmps217
  go_wp2_with (first
   | (go_at_call 183;(with_reducible refine(c1.out _).mono ?_);rintro e w' ⟨rfl,rfl⟩))
  all_goals go_ret
  all_goals refine⟨qa3 ?_,by(repeat (first|(with_reducible exact Below.refl _ _)|(with_reducible refine Below.drew ?_)|(with_reducible refine Below.bal ?_ _)|(with_reducible refine Below.setCell ?_ (by simp) _)|(with_reducible refine Below.link (by assumption) ?_)))⟩
  all_goals rw [hE'.out]
  all_goals simp
theorem qim (kind:Int) (k x:Int) (t:ByteArray) (p1 p2 p3 p4:Option Addr) (n1 n2 n3 n4 q1 q2 q3 q4:Nat) (w:World) (h0:0<=x) (h1:x<18446744073709551616) (b1:n1<=140737488355328) (b2:n2<=140737488355328) (b3:n3<=140737488355328) (b4:n4<=140737488355328) (ht:4096<t.size):Calls Tryz.prog 217 #[.int .i64 kind,.agg #[.int .i64 k,.int .u64 x,.string t,.slice p1 n1 q1,.slice p2 n2 q2,.slice p3 n3 q3,.slice p4 n4 q4]] w fun e w'=>e=.returned (.bool false)/\Below w.heap.size w w':=by
 have c1:=Lib.hid (fun W=>sc_Is kind W);have c2:=Lib.hid (fun W=>sc_lean k x t p1 p2 p3 p4 n1 n2 n3 n4 q1 q2 q3 q4 W h0 h1 b1 b2 b3 b4);have c3:=Lib.hid (fun W=>qh1 kind x W h0 h1);generalize Pr.leanB k x t.data.toList (n1+n2+n3+n4)=bl at c2;generalize Pr.withB kind x=bw at c3;generalize Pr.isK kind=bi at c1;have ht1:(4096:Int)<t.size:=by omega
 by_cases hk:k=kind
 ·subst hk
  go_enter Tryz.func217,Tryz.ntmps217
  go_wp2_with (first
   | (go_at_call 183;(with_reducible refine(c1.out _).mono ?_);rintro e w' ⟨rfl,rfl⟩)
   | (go_at_call 227;(with_reducible refine(c2.out _).mono ?_);rintro e w1 ⟨rfl,hb1⟩;obtain⟨hc1,hf1⟩:=bcell hb1;have hz1:=hb1.size;(try simp at hz1);(try have hx1:w.heap.size+1<w1.heap.size:=by omega);(try have hy1:w.heap.size<w1.heap.size:=by omega))
   | (go_at_call 228;(with_reducible refine(c3.out _).mono ?_);rintro e w' ⟨rfl,rfl⟩))
  all_goals go_ret
  all_goals exact⟨rfl,by(repeat (first|(with_reducible exact Below.refl _ _)|(with_reducible refine Below.drew ?_)|(with_reducible refine Below.bal ?_ _)|(with_reducible refine Below.setCell ?_ (by simp) _)|(with_reducible refine Below.link (by assumption) ?_)))⟩
 ·have hk':(k != kind)=true:=bne_iff_ne.2 hk
  clear hk
  go_enter Tryz.func217,Tryz.ntmps217
  go_wp2_with (first
   | (go_at_call 183;(with_reducible refine(c1.out _).mono ?_);rintro e w' ⟨rfl,rfl⟩))
  all_goals go_ret
  all_goals exact⟨rfl,by(repeat (first|(with_reducible exact Below.refl _ _)|(with_reducible refine Below.drew ?_)|(with_reducible refine Below.bal ?_ _)|(with_reducible refine Below.setCell ?_ (by simp) _)|(with_reducible refine Below.link (by assumption) ?_)))⟩
theorem sc_Fits (kind:Int) (k x:Int) (t:ByteArray) (p1 p2 p3 p4:Option Addr) (n1 n2 n3 n4 q1 q2 q3 q4:Nat) (w:World) (h0:0<=x) (h1:x<18446744073709551616) (b1:n1<=140737488355328) (b2:n2<=140737488355328) (b3:n3<=140737488355328) (b4:n4<=140737488355328):Calls Tryz.prog 217 #[.int .i64 kind,.agg #[.int .i64 k,.int .u64 x,.string t,.slice p1 n1 q1,.slice p2 n2 q2,.slice p3 n3 q3,.slice p4 n4 q4]] w fun e w'=>e=.returned (.bool (Pr.fitsB kind k x t.data.toList (n1+n2+n3+n4)))/\Below w.heap.size w w':=by
 by_cases ht:t.size<=1000000000
 ·exact qfg kind k x t p1 p2 p3 p4 n1 n2 n3 n4 q1 q2 q3 q4 w h0 h1 b1 b2 b3 b4 ht
 ·have e:Pr.fitsB kind k x t.data.toList (n1+n2+n3+n4)=false:=by
   have hl:t.data.toList.length=t.size:=len_l t;unfold Pr.fitsB;rw [hl,decide_eq_false (show ¬ t.size<=4096 by omega)];simp
  rw [e];exact qim kind k x t p1 p2 p3 p4 n1 n2 n3 n4 q1 q2 q3 q4 w h0 h1 b1 b2 b3 b4 (by omega)
end Go.Proofs.YtgpjhibdongmbaaGreatDoor
namespace Go.Proofs.YtgpjhibdongmbaaGreatDoor
open Go.RowKit
def Tab (w:World):Prop:=(∀i,i<27->w.cell? ⟨5,i,none⟩=some (.int .i64 (Pr.famT.getD i 0)))/\(∀i,i<18->w.cell? ⟨1,i,none⟩=some (.int .u64 (Pr.boundT.getD i 0)))/\2<=w.heap.size
theorem Tab.below {w w':World} (h:Tab w) (hb:Below w.heap.size w w'):Tab w':=by
 obtain⟨h1,h2,h3⟩:=h;refine⟨fun i hi=>?_,fun i hi=>?_,by have:=hb.size;omega⟩
 ·rw [hb.cell (World.block_lt_of_cell? w _ (h1 i hi))];exact h1 i hi
 ·rw [hb.cell (World.block_lt_of_cell? w _ (h2 i hi))];exact h2 i hi
theorem pr_row (f:Int) (w:World):Calls Tryz.prog 236 #[.int .i64 f] w fun e w'=>e=.returned (.int .i64 (Pr.rowOf f))/\w=w':=by
 go_enter Tryz.func236,Tryz.ntmps236
 go_wp2
 all_goals go_ret
 all_goals exact⟨qaf (by simp only [beq_iff_eq,beq_eq_false_iff_ne,ne_eq]at *;simp [Pr.rowOf, *]),rfl⟩
theorem qk2 (k:Int) (w:World):Calls Tryz.prog 221 #[.int .i64 k] w fun e w'=>e=.returned (.bool (Pr.num k))/\w=w':=by
 go_enter Tryz.func221,Tryz.ntmps221
 go_wp2
 all_goals go_ret
 all_goals exact⟨qa3 (by rw [Bool.eq_iff_iff];simp [Pr.num]at *;try omega),rfl⟩
theorem row_no {f:Int} (hf:Pr.isF f=false):Pr.rowOf f = -1:=by
 have:=of_decide_eq_false hf;unfold Pr.rowOf;rw [if_neg (by omega),if_neg (by omega),if_neg (by omega)]
theorem row_yes {f:Int} (hf:Pr.isF f=true):0<=Pr.rowOf f/\Pr.rowOf f<=2:=by
 rcases Pr.isF_true hf with rfl|rfl|rfl <;> decide
theorem qhc (f k:Int) (w:World) (hT:Tab w):Calls Tryz.prog 229 #[.int .i64 f,.int .i64 k] w fun e w'=>e=.returned (.int .i64 (Pr.fam f k))/\w=w':=by
 cases hf:Pr.isF f
 ·have hv:Pr.fam f k=0:=by unfold Pr.fam;rw [if_neg (by simp [hf])]
  have c1:=Lib.hid (fun W=>pr_row f W);rw [row_no hf]at c1;rw [hv];clear hf hv hT
  go_enter Tryz.func229,Tryz.ntmps229
  go_wp2_with (first
   | (go_at_call 236;(with_reducible refine(c1.out _).mono ?_);rintro e w' ⟨rfl,rfl⟩))
  go_ret;exact⟨rfl,rfl⟩
 ·have c1:=Lib.hid (fun W=>pr_row f W)
  have c2:=Lib.hid (fun W=>sc_Is k W);obtain⟨r1,r2⟩:=row_yes hf;cases hk:Pr.isK k
  ·have hv:Pr.fam f k=0:=by unfold Pr.fam;rw [if_neg (by simp [hk])]
   rw [hv];rw [hk]at c2;generalize Pr.rowOf f=r at c1 r1 r2;clear hf hv hT hk
   go_enter Tryz.func229,Tryz.ntmps229
   go_wp2_with (first
    | (go_at_call 236;(with_reducible refine(c1.out _).mono ?_);rintro e w' ⟨rfl,rfl⟩)
    | (go_at_call 183;(with_reducible refine(c2.out _).mono ?_);rintro e w' ⟨rfl,rfl⟩))
   go_ret;exact⟨rfl,rfl⟩
  ·have hv:Pr.fam f k=Pr.famT.getD (Pr.rowOf f*9+(k-1)).toNat 0:=by unfold Pr.fam;rw [if_pos ⟨hf,hk⟩]
   have hv':=Lib.hid hv;have hk2:=of_decide_eq_true hk;obtain⟨k1,k2⟩:=hk2;rw [hk]at c2;obtain⟨r,hr⟩:=Int.eq_ofNat_of_zero_le r1;obtain⟨j,hj⟩:=Int.eq_ofNat_of_zero_le (show 0<=k-1 by omega);have e:(Pr.rowOf f*9+(k-1)).toNat=r*9+j:=by omega
   rw [e]at hv';have hx:=hT.1 (r*9+j) (by omega);have hx':w.cell? ⟨5,r*9+j,none⟩=some (.int .i64 (Pr.fam f k)):=by rw [hx,hv'.out]
   rw [hr]at c1;generalize Pr.fam f k=y at hx' hv' hv ⊢;have r3:r<3:=by omega
   have j3:j<9:=by omega
   obtain rfl:k=(j:Int)+1:=by omega
   clear hf hv hT hk hj hr e hx r1 r2 hv' k1 k2
   go_enter Tryz.func229,Tryz.ntmps229
   go_wp2_with (first
    | (go_at_call 236;(with_reducible refine(c1.out _).mono ?_);rintro e w' ⟨rfl,rfl⟩)
    | (go_at_call 183;(with_reducible refine(c2.out _).mono ?_);rintro e w' ⟨rfl,rfl⟩))
   go_ret;exact⟨rfl,rfl⟩
theorem qk1 (f a b:Int) (w:World) (hT:Tab w):Calls Tryz.prog 220 #[.int .i64 f,.int .i64 a,.int .i64 b] w fun e w'=>e=.returned (.bool (Pr.rel f a b))/\w=w':=by
 have c1:=Lib.hid (fun W h=>qhc f a W h);have c2:=Lib.hid (fun W h=>qhc f b W h);have hv:=Lib.hid (show Pr.rel f a b=decide (Pr.fam f a ≠ 0/\Pr.fam f a=Pr.fam f b)from rfl);generalize Pr.rel f a b=R at hv ⊢;generalize Pr.fam f a=fa at c1 hv;generalize Pr.fam f b=fb at c2 hv;have hT':=Lib.hid hT;clear hT
 go_enter Tryz.func220,Tryz.ntmps220
 go_wp2_with (first
  | (go_at_call 229;(with_reducible refine(c1.out _ hT'.out).mono ?_);rintro e w' ⟨rfl,rfl⟩)
  | (go_at_call 229;(with_reducible refine(c2.out _ hT'.out).mono ?_);rintro e w' ⟨rfl,rfl⟩))
 all_goals go_ret
 all_goals refine⟨qa3 ?_,rfl⟩
 all_goals rw [hv.out,Bool.eq_iff_iff]
 all_goals simp_all
theorem ql9 (w:World) (hT:Tab w) (k:Int) (hk:Pr.isK k=true) : ∃j:Nat,k=(j:Int)+1/\j<9/\w.cell? ⟨1,j*2,none⟩=some (.int .u64 (Pr.below k))/\w.cell? ⟨1,j*2+1,none⟩=some (.int .u64 (Pr.most k)):=by
 obtain⟨k1,k2⟩:=of_decide_eq_true hk;obtain⟨j,hj⟩:=Int.eq_ofNat_of_zero_le (show 0<=k-1 by omega);refine⟨j,by omega,by omega,?_,?_⟩
 ·rw [hT.2.1 (j*2) (by omega)]
  unfold Pr.below;have e:(2*(k-1)).toNat=j*2:=by omega
  rw [e]
 ·rw [hT.2.1 (j*2+1) (by omega)]
  unfold Pr.most;have e:(2*(k-1)+1).toNat=j*2+1:=by omega
  rw [e]
theorem pr_Level (f a b:Int) (w:World) (hT:Tab w):Calls Tryz.prog 208 #[.int .i64 f,.int .i64 a,.int .i64 b] w fun e w'=>e=.returned (.int .i64 (Pr.lev f a b))/\Below w.heap.size w w':=by
 have c1:=Lib.hid (fun W h=>qk1 f a b W h);have c2:=Lib.hid (fun W=>qk2 a W);have hT':=Lib.hid hT;cases hr:Pr.rel f a b
 ·have hv:Pr.lev f a b=0:=if_pos hr
  rw [hr]at c1;rw [hv];clear hr hv hT
  go_enter Tryz.func208,Tryz.ntmps208
  go_wp2_with (first
   | (go_at_call 220;(with_reducible refine(c1.out _ hT'.out).mono ?_);rintro e w' ⟨rfl,rfl⟩))
  go_ret;exact⟨rfl,Below.refl _ _⟩
 ·have hv:Pr.lev f a b=if a=b then 2 else if Pr.num a=true then(if Pr.below b<Pr.below a ∨ Pr.most b<Pr.most a then 1 else 2)else if a=8 then 1 else 2:=if_neg (by rw [hr];decide)
  obtain⟨_,ka,kb⟩:=Pr.rel_true hr;rw [hr]at c1;clear hr;by_cases hab:a=b
  ·rw [hv,if_pos hab]
   have hab':(a == b)=true:=beq_iff_eq.2 hab;clear hv hab hT ka kb
   go_enter Tryz.func208,Tryz.ntmps208
   go_wp2_with (first
    | (go_at_call 220;(with_reducible refine(c1.out _ hT'.out).mono ?_);rintro e w' ⟨rfl,rfl⟩))
   go_ret;exact⟨rfl,Below.refl _ _⟩
  ·rw [if_neg hab]at hv
   have hab':(a == b)=false:=beq_eq_false_iff_ne.2 hab;cases hn:Pr.num a
   ·rw [hn]at c2 hv
    have hv':=Lib.hid hv;clear hv hab hT ka kb hn
    go_enter Tryz.func208,Tryz.ntmps208
    go_wp2_with (first
     | (go_at_call 220;(with_reducible refine(c1.out _ hT'.out).mono ?_);rintro e w' ⟨rfl,rfl⟩)
     | (go_at_call 221;(with_reducible refine(c2.out _).mono ?_);rintro e w' ⟨rfl,rfl⟩))
    all_goals go_ret
    all_goals exact⟨qaf (by rw [hv'.out];simp_all),Below.refl _ _⟩
   ·rw [hn,if_pos rfl]at hv
    rw [hn]at c2;have hv':=Lib.hid hv;obtain⟨i,hi,hi9,ha1,ha2⟩:=ql9 w hT a ka;obtain⟨j,hj,hj9,hb1,hb2⟩:=ql9 w hT b kb;generalize Pr.lev f a b=R at hv' ⊢;generalize Pr.below a=ya at ha1 hv';generalize Pr.most a=za at ha2 hv';generalize Pr.below b=yb at hb1 hv';generalize Pr.most b=zb at hb2 hv';clear hv hab hT ka kb hn;subst hi hj
    go_enter Tryz.func208,Tryz.ntmps208
    go_wp2_with (first
     | (go_at_call 220;(with_reducible refine(c1.out _ hT'.out).mono ?_);rintro e w' ⟨rfl,rfl⟩)
     | (go_at_call 221;(with_reducible refine(c2.out _).mono ?_);rintro e w' ⟨rfl,rfl⟩))
    have s1:IntKind.i64.wrap ((i:Int)+1-1)=i:=by rw [IntWalk.i64_in _ (by omega)];omega
    have s2:IntKind.i64.wrap ((j:Int)+1-1)=j:=by rw [IntWalk.i64_in _ (by omega)];omega
    have s7:IntKind.i64.wrap (i:Int)=i:=IntWalk.i64_in _ (by omega);have s8:IntKind.i64.wrap (j:Int)=j:=IntWalk.i64_in _ (by omega);have s3:(0:Int)<=i:=by omega
    have s4:(0:Int)<=j:=by omega
    have s5:(i:Int)<9:=by omega
    have s6:(j:Int)<9:=by omega
    go_region_held3 (fun w'=>w'.cell? ⟨1,i*2,none⟩=some (.int .u64 ya)/\w'.cell? ⟨1,i*2+1,none⟩=some (.int .u64 za)/\w'.cell? ⟨1,j*2,none⟩=some (.int .u64 yb)/\w'.cell? ⟨1,j*2+1,none⟩=some (.int .u64 zb)) (go_keep) (fail)
    all_goals (clear s1 s2 s7 s8;go_wp2)
    all_goals go_ret
    all_goals exact⟨qaf (by rw [hv'.out];first|rw [if_pos (by omega)]|rw [if_neg (by omega)]),by(repeat (first|(with_reducible exact Below.refl _ _)|(with_reducible refine Below.drew ?_)|(with_reducible refine Below.bal ?_ _)|(with_reducible refine Below.setCell ?_ (by simp) _)|(with_reducible refine Below.link (by assumption) ?_)))⟩
end Go.Proofs.YtgpjhibdongmbaaGreatDoor
namespace Go.Proofs.YtgpjhibdongmbaaGreatDoor
open Go.RowKit
mutual
def flat {H:Type}:DataW H->List Value
 | .lit (.int k z) => [.int k z]
 | .agg ps=>qdt ps
 | _ => []
def qdt {H:Type}:List (DataW H)->List Value
 | [] => []
 | d :: ds=>flat d ++ qdt ds
end
def inRow (P:Program):Nat->List Field->Bool
 | _,[]=>true
 | o,f :: fs=>f.offset == o && inRow P (o+P.cellsOf f.type) fs
def qjn (P:Program):List Field->Nat
 | []=>0
 | f :: fs=>P.cellsOf f.type+qjn P fs
def qis (P:Program):Nat->TypeId->Bool
 | 0,_=>false
 | m+1,t=>match P.underlying t with
  | some (.int _)=>P.cellsOf t == 1
  | some (.array n e)=>qis P m e && P.cellsOf t == n*P.cellsOf e
  | some (.struct fs)=>inRow P 0 fs.toList && fs.toList.all (fun f=>qis P m f.type) && P.cellsOf t == qjn P fs.toList
  | _=>false
theorem chunks {H:Type} (c:Nat) : ∀(n:Nat) (cs:List Value) (xs:List (DataW H × List MemPlace)),cs.length=n*c->xs.length=n->(∀i,i<n->∃y,xs[i]? = some y/\(cs.drop (i*c)).take c=flat y.1)->cs=qdt (xs.map (·.1)):=by
 intro n
 induction n with
 | zero=>
  intro cs xs hc hx _;have:cs=[]:=List.eq_nil_of_length_eq_zero (by omega);have h2:xs=[]:=List.eq_nil_of_length_eq_zero hx;subst this h2;rfl
 | succ n ih=>
  intro cs xs hc hx h
  match xs,hx with
  | y :: ys,hx=>
   obtain⟨y',hy,h0⟩:=h 0 (by omega);simp at hy;subst hy
   have:=ih (cs.drop c) ys (by simp [hc,Nat.succ_mul]) (by simpa using hx) (fun i hi=>by
    obtain⟨z,hz,h1⟩:=h (i+1) (by omega);refine⟨z,by simpa using hz,?_⟩;rw [←h1,List.drop_drop]
    congr 2;rw [Nat.succ_mul];omega)
   show cs=flat y.1 ++ qdt (ys.map (·.1))
   rw [←this, ←h0];simp
theorem qkx {H:Type} (P:Program) (cs:List Value) : ∀(fs:List Field) (o:Nat) (xs:List (DataW H × List MemPlace)),xs.length=fs.length->inRow P o fs=true →
  (∀(i:Nat) (f:Field),fs[i]? = some f->∃y,xs[i]? = some y/\(cs.drop f.offset).take (P.cellsOf f.type)=flat y.1)->(cs.drop o).take (qjn P fs)=qdt (xs.map (·.1)):=by
 intro fs
 induction fs with
 | nil=>
  intro o xs hx _ _;have h2:xs=[]:=List.eq_nil_of_length_eq_zero hx;subst h2;simp [qjn,qdt]
 | cons f fs ih=>
  intro o xs hx hr h
  match xs,hx with
  | y :: ys,hx=>
   simp only [inRow,Bool.and_eq_true,beq_iff_eq]at hr;obtain⟨y',hy,h0⟩:=h 0 f rfl;simp at hy;subst hy
   have:=ih (o+P.cellsOf f.type) ys (by simpa using hx) hr.2 (fun i g hg=>by
    obtain⟨z,hz,h1⟩:=h (i+1) g (by simpa using hg)
    exact⟨z,by simpa using hz,h1⟩)
   show(cs.drop o).take (P.cellsOf f.type+qjn P fs)=flat y.1 ++ qdt (ys.map (·.1))
   rw [←this, ←h0,hr.1,List.take_add,List.drop_drop]
theorem qds {H:Type} {enc:TypeId × Value->H} {P:Program} {w:World} {base:Nat} {sp:Nat->Bool} {held:Bool} : ∀(m:Nat) (t:TypeId) (cs:List Value) (x:DataW H × List MemPlace) (fuel:Nat),
  qis P m t=true->DataW.trod enc P w base sp held fuel t cs=some x->cs=flat x.1:=by
 intro m
 induction m with
 | zero=>intro t cs x fuel h;cases h
 | succ m ih=>
  intro t cs x fuel hp h;unfold qis at hp
  split at hp
  ·rename_i k ht
   obtain⟨n,rfl,rfl,_⟩:=DataW.trod_int ht h;rfl
  ·rename_i n e ht
   simp only [Bool.and_eq_true,beq_iff_eq]at hp;obtain⟨xs,m',rfl,rfl,hl,hn,hi⟩:=DataW.trod_array ht h;refine chunks (P.cellsOf e) n cs xs (by rw [hl,hp.2]) hn (fun i hlt=>?_);have hx:xs[i]? = some (xs[i]'(by omega)):=List.getElem?_eq_getElem (by omega);have:=hi i hlt;rw [hx]at this;exact⟨_,hx,ih _ _ _ _ hp.1 this⟩
  ·rename_i fs ht
   simp only [Bool.and_eq_true,beq_iff_eq]at hp;obtain⟨xs,m',rfl,rfl,hl,hn,hi⟩:=DataW.trod_struct ht h
   have:=qkx P cs fs.toList 0 xs (by simpa using hn) hp.1.1 (fun i f hf=>by
    have hf':fs[i]? = some f:=by simpa using hf
    have hlt:i<xs.length:=by rw [hn];exact(Array.getElem?_eq_some_iff.1 hf').1
    have hx:xs[i]? = some (xs[i]'hlt):=List.getElem?_eq_getElem hlt;have h1:=hi i f hf';rw [hx]at h1
    exact⟨_,hx,ih _ _ _ _ (List.all_eq_true.1 hp.1.2 f (List.mem_of_getElem? hf)) h1⟩)
   rw [List.drop_zero, ←hp.2, ←hl,List.take_length]at this;exact this
  ·cases hp
end Go.Proofs.YtgpjhibdongmbaaGreatDoor
namespace Go.Proofs.YtgpjhibdongmbaaGreatDoor
open Go.RowKit
def Bel (w a:World):Prop:=Below w.heap.size w a
theorem Bel.refl (w:World):Bel w w:=Below.refl _ _
theorem Bel.of {w a b:World} (h:Bel w a) (k:Below a.heap.size a b):Bel w b:=Below.trans h (k.mono h.size)
theorem Bel.drew {w a:World} (h:Bel w a):Bel w a.drew:=Below.drew h
theorem Bel.drewN {w a:World} (h:Bel w a) (n:Nat):Bel w (a.drewN n):=qj3 h n
theorem Bel.alloc {w a:World} (h:Bel w a) (o:Obj):Bel w (a.alloc o):=Below.alloc h h.size o
theorem Bel.out {w a:World} (h:Bel w a):Below w.heap.size w a:=h
theorem Bel.cell {w a:World} (h:Bel w a) {b o:Nat} (hb:b<w.heap.size):a.cell? ⟨b,o,none⟩=w.cell? ⟨b,o,none⟩:=Below.cell h hb
theorem Bel.size {w a:World} (h:Bel w a):w.heap.size<=a.heap.size:=Below.size h
end Go.Proofs.YtgpjhibdongmbaaGreatDoor
namespace Go.Proofs.YtgpjhibdongmbaaGreatDoor
open Go.RowKit
section
variable {α : Type}
def Keeps (E:World->Nat->Nat->α->Prop):Prop := ∀(w w':World) (b o:Nat) (x:α),b<w.heap.size->Bel w w'->E w b o x->E w' b o x
def Sl (C:Nat) (E:World->Nat->Nat->α->Prop) (w:World) (v:Value) (xs:List α):Prop:=
 ∃(p:Option Addr) (c:Nat),v=.slice p xs.length c/\xs.length<=140737488355328/\xs.length<=c/\∀i x,xs[i]? = some x->∃b off:Nat,p=some ⟨b,off,none⟩/\b<w.heap.size/\E w b (off+i*C) x
theorem Sl.bel {C:Nat} {E:World->Nat->Nat->α->Prop} (hE:Keeps E) {w w':World} {v:Value} {xs:List α} (h:Sl C E w v xs) (k:Bel w w'):Sl C E w' v xs:=by
 obtain⟨p,c,h1,h2,h2c,h3⟩:=h
 exact⟨p,c,h1,h2,h2c,fun i x hx=>by
  obtain⟨b,off,e,hb,he⟩:=h3 i x hx
  exact⟨b,off,e,Nat.lt_of_lt_of_le hb k.size,hE w w' b _ x hb k he⟩⟩
theorem Sl.nil (C:Nat) (E:World->Nat->Nat->α->Prop) (w:World) (p:Option Addr) (c:Nat):Sl C E w (.slice p 0 c) []:=⟨p,c,rfl,by simp,by simp,fun i x hx=>by simp at hx⟩
end
theorem Bel.some {w w':World} (k:Bel w w') {b o:Nat} {v:Value} (h:w.cell? ⟨b,o,none⟩=some v):w'.cell? ⟨b,o,none⟩=some v:=
 (k.cell (World.block_lt_of_cell? w _ h)).trans h
theorem qmd {e:TypeId} {b:Option Nat} {w w':World} (h:Lib.OthersKept e b w w') {k:Nat} {cs:Array Value} {t:TypeId} {fr:Nat × Nat} (hk:w.heap[k]? = some (.cells cs t fr)) (hb:some k ≠ b) (ht:t ≠ e):w'.heap[k]? = some (.cells cs t fr):=
 h k _ hk hb (fun c fz he=>ht (by injection he))
def EStr (w:World) (b o:Nat) (k:List UInt8):Prop:=w.cell? ⟨b,o,none⟩=some (.string (S k))
theorem EStr.keeps:Keeps EStr:=fun _ _ _ _ _ _ k h=>k.some h
end Go.Proofs.YtgpjhibdongmbaaGreatDoor
namespace Go.Proofs.YtgpjhibdongmbaaGreatDoor.Id
def cls (c:Int):Int:=if 97<=c/\c<=122 then 1 else if 65<=c/\c<=90 then 2 else if 48<=c/\c<=57 then 3 else if c=95 then 4 else 0
def smB (b:UInt8):Bool:=decide (97<=b.toNat/\b.toNat<=122)
def caB (b:UInt8):Bool:=decide (65<=b.toNat/\b.toNat<=90)
def nmB (b:UInt8):Bool:=decide (cls b.toNat ≠ 0)
def letB (b:UInt8):Bool:=smB b || caB b
def okB:List UInt8->Bool
 | []=>true
 | b :: r=>letB b && r.all nmB
def isPart (l:List UInt8):Bool:=okB l && decide (1<=l.length/\l.length<=40)
def onHead (b:UInt8):List (List UInt8)->List (List UInt8)
 | [] => [[b]]
 | p :: ps=>(b :: p) :: ps
def cut (c:UInt8):List UInt8->List (List UInt8)
 | [] => [[]]
 | b :: r=>if b=c then [] :: cut c r else onHead b (cut c r)
def isFull (l:List UInt8):Bool:=(cut 46 l).all isPart && decide (l.length<=120)
def join (s n:List UInt8):List UInt8:=if s=[]then n else s ++ 46 :: n
def lastDot:List UInt8->Int
 | [] => -1
 | b :: r=>if lastDot r = -1 then(if b=46 then 0 else -1)else lastDot r+1
def splitL (l:List UInt8):List UInt8 × List UInt8:=if lastDot l = -1 then([],l)else(l.take (lastDot l).toNat,l.drop ((lastDot l).toNat+1))
def upF:Nat->List UInt8->List (List UInt8)
 | 0,l => [l]
 | n+1,l=>if l=[]then [l]else l :: upF n (splitL l).1
def up (l:List UInt8):List (List UInt8):=upF l.length l
def has (known:List (List UInt8)) (s:List UInt8):Bool:=decide (s ∈ known)
def resolve (scope name:List UInt8) (known:List (List UInt8)):List UInt8 × Bool:=
 match name with
 | 46 :: abs=>if has known abs=true then(abs,true)else([],false)
 | _=>match (up scope).find? (fun s=>has known (join s name))with
  | some s=>(join s name,true)
  | none=>([],false)
def upB (b:UInt8):UInt8:=if smB b=true then b-32 else b
def cap:List UInt8->List UInt8
 | [] => []
 | b :: r=>upB b :: r
theorem bcls (b:UInt8):cls b.toNat=if smB b=true then 1 else if caB b=true then 2 else if 48<=b.toNat/\b.toNat<=57 then 3 else if b.toNat=95 then 4 else 0:=by
 unfold cls smB caB;simp only [decide_eq_true_eq]
 (repeat' split) <;> first|rfl|omega
theorem cut_hit (c:UInt8) (r:List UInt8):cut c (c :: r)=[] :: cut c r:=by rw [cut];exact if_pos rfl
theorem cut_miss (c b:UInt8) (r:List UInt8) (h:b ≠ c):cut c (b :: r)=onHead b (cut c r):=by rw [cut];exact if_neg h
theorem cut_ne (c:UInt8) (l:List UInt8):cut c l ≠ []:=by
 cases l with
 | nil=>simp [cut]
 | cons b r=>
  by_cases hb:b=c
  ·subst hb;rw [cut_hit];simp
  ·rw [cut_miss c b r hb]
   cases cut c r <;> simp [onHead]
theorem cut_none (c:UInt8) : ∀l:List UInt8,c ∉ l->cut c l=[l]
 | [],_=>rfl
 | b :: r,h=>by
  have hb:b ≠ c:=fun e=>h (by simp [e])
  have hr:c ∉ r:=fun e=>h (by simp [e])
  rw [cut_miss c b r hb,cut_none c r hr];rfl
theorem idx_one (c:UInt8) : ∀l:List UInt8,(Lib.index l [c] = -1/\c ∉ l) ∨ (0<=Lib.index l [c])
 | []=>.inl ⟨by simp [Lib.index],by simp⟩
 | b :: r=>by
  unfold Lib.index;by_cases hb:c=b
  ·subst hb
   right;simp [List.isPrefixOf]
  ·have hp:([c].isPrefixOf (b :: r))=false:=by simp [List.isPrefixOf,hb]
   rw [if_neg (by simp [hp])];rcases idx_one c r with⟨h1,h2⟩|h
   ·left
    rw [if_pos (by simp [h1])];exact⟨rfl,by simp [hb,h2]⟩
   ·right
    rw [if_neg (by simp;omega)];omega
theorem split_cut (c:UInt8) : ∀l:List UInt8,Lib.splitK [c] 0 (Lib.count l [c]) l=cut c l
 | []=>by
  rw [Lib.count_miss (by simp [Lib.index])];rfl
 | b :: r=>by
  by_cases hb:c=b
  ·subst hb
   have hi:Lib.index (c :: r) [c]=((0:Nat):Int):=by unfold Lib.index;simp [List.isPrefixOf]
   rw [Lib.count_hit (by simp) hi,Nat.add_comm];unfold Lib.splitK;rw [hi,if_neg (by simp)];have:=split_cut c r;simp only [Int.toNat_natCast,List.length_cons,List.length_nil,List.drop_succ_cons,List.drop_zero,List.take_zero,Nat.zero_add];rw [this,cut_hit]
  ·have hp:([c].isPrefixOf (b :: r))=false:=by simp [List.isPrefixOf,hb]
   have ih:=split_cut c r;rcases idx_one c r with⟨h1,h2⟩|h
   ·have hi:Lib.index (b :: r) [c] = -1:=by
     unfold Lib.index;rw [if_neg (by simp [hp]),if_pos (by simp [h1])]
    rw [Lib.count_miss hi,cut_none c (b :: r) (by simp [hb,h2])];rfl
   ·obtain⟨i,hi⟩:=Int.eq_ofNat_of_zero_le h
    have hi':Lib.index r [c]=(i:Int):=hi
    have hi2:Lib.index (b :: r) [c]=((i+1:Nat):Int):=by
     unfold Lib.index;rw [if_neg (by simp [hp]),if_neg (by simp;omega),hi'];rfl
    rw [Lib.count_hit (by simp) hi',Nat.add_comm]at ih;rw [Lib.count_hit (by simp) hi2,Nat.add_comm];unfold Lib.splitK at ih ⊢;rw [hi',if_neg (by simp)]at ih;rw [hi2,if_neg (by simp;omega)];rw [cut_miss c b r (fun e=>hb e.symm), ←ih];simp [onHead]
theorem qfs : ∀l:List UInt8, -1<=lastDot l/\lastDot l<l.length
 | []=>by simp [lastDot]
 | b :: r=>by
  have:=qfs r;unfold lastDot;simp only [List.length_cons]
  (repeat' split) <;> omega
theorem lastDot_none : ∀l:List UInt8,lastDot l = -1 ↔ 46 ∉ l
 | []=>by simp [lastDot]
 | b :: r=>by
  have:=lastDot_none r;have hg:=qfs r;unfold lastDot;by_cases hr:lastDot r = -1
  ·rw [if_pos hr]
   by_cases hb:b=46
   ·simp [hb]
   ·simp [hb,this.1 hr,Ne.symm hb]
  ·rw [if_neg hr]
   have h2:46 ∈ r:=Decidable.byContradiction fun e=>hr (this.2 e)
   simp [h2];omega
theorem lastDot_at (l:List UInt8) (i:Nat) (h1:l[i]? = some 46) (h2 : ∀j,i<j->l[j]? ≠ some 46):lastDot l=i:=by
 induction l generalizing i with
 | nil=>simp at h1
 | cons b r ih=>
  unfold lastDot;cases i with
  | zero=>
   have hr:lastDot r = -1:=(lastDot_none r).2 (fun hm=>by
    obtain⟨j,hj⟩:=List.mem_iff_getElem?.1 hm
    exact h2 (j+1) (by omega) (by simpa using hj))
   simp at h1;rw [if_pos hr,if_pos h1];rfl
  | succ i=>
   have:=ih i (by simpa using h1) (fun j hj=>by simpa using h2 (j+1) (by omega));rw [if_neg (by omega),this];rfl
theorem lastDot_spec (l:List UInt8):(lastDot l = -1/\46 ∉ l) ∨ ∃i:Nat,lastDot l=i/\i<l.length/\l[i]? = some 46/\∀j,i<j->l[j]? ≠ some 46:=by
 induction l with
 | nil=>exact .inl ⟨rfl,by simp⟩
 | cons b r ih=>
  unfold lastDot;rcases ih with⟨h1,h2⟩|⟨i,h1,h2,h3,h4⟩
  ·rw [if_pos h1]
   by_cases hb:b=46
   ·right
    refine⟨0,by rw [if_pos hb];rfl,by simp,by simp [hb],fun j hj hc=>?_⟩;obtain⟨k,rfl⟩ : ∃k,j=k+1:=⟨j-1,by omega⟩;exact h2 (List.mem_iff_getElem?.2 ⟨k,by simpa using hc⟩)
   ·left
    exact⟨by rw [if_neg hb],by simp [Ne.symm hb,h2]⟩
  ·right
   refine⟨i+1,by rw [if_neg (by omega),h1];rfl,by simp;omega,by simpa using h3,fun j hj=>?_⟩;obtain⟨k,rfl⟩ : ∃k,j=k+1:=⟨j-1,by omega⟩
   simpa using h4 k (by omega)
end Go.Proofs.YtgpjhibdongmbaaGreatDoor.Id
namespace Go.Proofs.YtgpjhibdongmbaaGreatDoor
def Id.words:List (List UInt8):=[[109,101,115,115,97,103,101],[101,110,117,109],[115,101,114,118,105,99,101],[117,110,105,111,110],[109,97,112],[108,105,115,116],[114,101,113,117,105,114,101,100],[111,112,116,105,111,110,97,108],[112,108,97,105,110],[100,101,102,97,117,108,116],[114,101,115,101,114,118,101,100],[105,109,112,111,114,116],[115,112,97,99,101],[114,112,99],[115,116,114,101,97,109],[114,101,116,117,114,110,115],[111,112,101,110],[116,114,117,101],[102,97,108,115,101],[110,97,110],[105,110,102]]
def Id.isWord (l:List UInt8):Bool:=decide (l ∈ Id.words)
end Go.Proofs.YtgpjhibdongmbaaGreatDoor
