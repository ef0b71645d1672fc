import Derived.Test.YtgpjhibdongmbaaGreatDoorUtfDec
import Derived.Test.YtgpjhibdongmbaaGreatDoorShelf
import Derived.Laws.Bits64b
set_option maxRecDepth 100000
set_option maxHeartbeats 4000000
set_option linter.unusedVariables false
set_option linter.unusedSimpArgs false
namespace Go.Proofs.YtgpjhibdongmbaaGreatDoor
section
open Go.RowKit
theorem rep_list (m:List UInt8) (h:0<m.length):Lib.hasPrefix m [239,191,189]=true ↔
  (Utf.gb m 0=239/\(decide (1<m.length)=true/\Utf.gb m 1=191)/\decide (2<m.length)=true/\Utf.gb m 2=189):=by
 have e : ∀(b:UInt8) (n:Nat),n<256->(b.toNat=n ↔ UInt8.ofNat n=b):=by
  intro b n hn;constructor
  ·rintro rfl;simp
  ·rintro rfl;simp [UInt8.toNat_ofNat',Nat.mod_eq_of_lt hn]
 match m,h with
 | [a],_=>simp [Lib.hasPrefix,List.isPrefixOf]
 | [a,b],_=>simp [Lib.hasPrefix,List.isPrefixOf]
 | a :: b :: c :: t,_=>
  simp only [Lib.hasPrefix,List.isPrefixOf,Bool.and_eq_true,beq_iff_eq,Utf.gb,List.getElem?_cons_zero,List.getElem?_cons_succ,Option.getD_some,List.length_cons,decide_eq_true_eq,e _ _ (show 239<256 by omega),e _ _ (show 191<256 by omega),e _ _ (show 189<256 by omega)];constructor
  ·rintro ⟨h1,h2,h3,_⟩;exact⟨h1,⟨by omega,h2⟩,by omega,h3⟩
  ·rintro ⟨h1,⟨_,h2⟩,_,h3⟩;exact⟨h1,h2,h3,trivial⟩
theorem qfu (l:List UInt8) (i:Nat) (hi:i<l.length):Lib.hasPrefix (l.drop i) [239,191,189]=true ↔ Utf.isRep l i:=by
 have hg : ∀k,Utf.gb (l.drop i) k=Utf.gb l (i+k):=fun k=>by unfold Utf.gb;rw [List.getElem?_drop]
 rw [rep_list _ (by simp;omega),hg,hg,hg,List.length_drop];unfold Utf.isRep;rw [show decide (1<l.length-i)=decide (i+1<l.length)from by rw [decide_eq_decide];omega,show decide (2<l.length-i)=decide (i+2<l.length)from by rw [decide_eq_decide];omega];rfl
theorem qfc (w:World) (s:ByteArray) (k:Nat):Below w.heap.size w (w.iter s k):=(Below.refl _ _).alloc (Nat.le_refl _) _
theorem qg5 (s:ByteArray) (l:List UInt8) (i:Nat) (a c:Int) (w:World) (hl:s.data.toList=l) (ha:a=i) (hc:c=((Utf8.decode s i).1:Nat)) (hs:s.size<=1000000000) (hi:i<s.size) :
  Calls Tryz.prog 204 #[.string s,.int .i64 a,.int .i32 c] w fun e w'=>e=.returned (.bool (decide (Utf.szAt l i=0)))/\w=w':=by
 have hls:s.data.toList.length=s.size:=len_l s;have hsub:(s.extract i s.size).data.toList=s.data.toList.drop i:=by rw [qdw,List.take_of_length_le (by simp)]
 have hP:=fun W=>Tryz.strings_HasPrefix (s.extract i s.size) ⟨#[239,191,189]⟩ W
 rw [hsub]at hP;have hp:=qfu s.data.toList i (by omega);subst ha hl;by_cases h0:Utf.szAt s.data.toList i=0
 ·have hb:=Utf.decode_bad s i (by omega) h0
  have hp':Lib.hasPrefix (s.data.toList.drop i) [239,191,189]=false:=by
   cases hh:Lib.hasPrefix (s.data.toList.drop i) [239,191,189]with
   | false=>rfl
   | true=>exact absurd (hp.1 hh) hb.2
  have hc':(c == 65533)=true:=by rw [hc,hb.1];rfl
  have hd:=Lib.hid (decide_eq_true h0);rw [show(⟨#[239,191,189]⟩:ByteArray).data.toList=[239,191,189]from rfl,hp']at hP;have HP:=Lib.hid hP;clear hP hp hb h0 hp' hls hsub hc
  go_enter Tryz.func204,Tryz.ntmps204
  go_wp2_with (go_at_call 215;(with_reducible refine(HP.out _).mono ?_);rintro e w' ⟨rfl,rfl⟩)
  go_ret;exact⟨qa3 hd.out.symm,rfl⟩
 ·have hg:=Utf.decode_good s i (by omega) h0
  have hd:=Lib.hid (decide_eq_false h0);by_cases hr:(Utf8.decode s i).1=65533
  ·have hp':Lib.hasPrefix (s.data.toList.drop i) [239,191,189]=true:=hp.2 (hg.2.1 hr)
   have hc':(c == 65533)=true:=by rw [hc,hr];rfl
   rw [show(⟨#[239,191,189]⟩:ByteArray).data.toList=[239,191,189]from rfl,hp']at hP;have HP:=Lib.hid hP;clear hP hp hg h0 hp' hls hsub hc hr
   go_enter Tryz.func204,Tryz.ntmps204
   go_wp2_with (go_at_call 215;(with_reducible refine(HP.out _).mono ?_);rintro e w' ⟨rfl,rfl⟩)
   go_ret;exact⟨qa3 hd.out.symm,rfl⟩
  ·have hc':(c == 65533)=false:=ine (by omega)
   clear hP hp hg h0 hls hsub hc hr
   go_enter Tryz.func204,Tryz.ntmps204
   go_wp2;go_ret
   exact⟨qa3 hd.out.symm,rfl⟩
theorem dec_pos (s:ByteArray) (i:Nat) (hi:i<s.size):(Utf8.decode s i).2=max 1 (Utf.szAt s.data.toList i):=by
 have hls:s.data.toList.length=s.size:=len_l s;by_cases h0:Utf.szAt s.data.toList i=0
 ·rw [(Utf.decode_bad s i (by omega) h0).1,h0];rfl
 ·rw [(Utf.decode_good s i (by omega) h0).1];omega
theorem utf_Bad (s:ByteArray) (l:List UInt8) (w:World) (hl:s.data.toList=l) (hs:s.size<=1000000000) :
  Calls Tryz.prog 182 #[.string s] w fun e w'=>e=.returned (.int .i64 (Utf.bad l))/\Below w.heap.size w w':=by
 have hnn:=Lib.hid (len_l s);subst hl
 go_enter Tryz.func182,Tryz.ntmps182
 go_wp2
 go_loopw [] (fun wr => ∃k:Nat,k<=s.size/\wr=w.iter s k/\Hid (Utf.badS 0 k (s.data.toList.drop k)=Utf.bad s.data.toList)) (fun wr=>s.size-wr.iterPos w.heap.size)
 case atStart=>exact⟨0,by omega,rfl,rfl⟩
 case round=>
  obtain⟨k,hk,rfl,H⟩:=hrel;by_cases hlt:k<s.size
  ·have hnx:=fun ty=>run_next_any (P:=Tryz.prog) w s k ty hlt
   have HS:=Lib.hid (Utf.badS_step s.data.toList k (by rw [hnn.out];exact hlt));have hdp:=dec_pos s k hlt;have hle := @Utf.szAt_lt s.data.toList k;rw [hnn.out]at hle;by_cases h0:Utf.szAt s.data.toList k=0
   ·have h0':decide (Utf.szAt s.data.toList k=0)=true:=decide_eq_true h0
    have h0h:=Lib.hid h0;clear h0 hle hdp
    go_wp2_with (go_at_call 204;refine(qg5 s _ k _ _ _ rfl (by omega) (by omega) hs hlt).mono ?_;rintro e w' ⟨rfl,rfl⟩)
    go_ret;refine⟨qad (by rw [←H.out,HS.out,if_pos h0h.out]),qfc _ _ _⟩
   ·have hle2:=hle h0
    have h0':decide (Utf.szAt s.data.toList k=0)=false:=decide_eq_false h0;have h0h:=Lib.hid h0;rw [show max 1 (Utf.szAt s.data.toList k)=Utf.szAt s.data.toList k from by omega]at hdp;have hdh:=Lib.hid hdp;clear h0 hle hdp
    go_wp2_with (go_at_call 204;refine(qg5 s _ k _ _ _ rfl (by omega) (by omega) hs hlt).mono ?_;rintro e w' ⟨rfl,rfl⟩)
    go_roundw
    case rel=>exact⟨k+Utf.szAt s.data.toList k,by omega,by rw [hdh.out],Lib.hid (by rw [←H.out,HS.out,if_neg h0h.out])⟩
    case measure=>have:=h0h.out;have:=hdh.out;simp;omega
  ·have hnx:=fun ty=>run_next_end (P:=Tryz.prog) w s k ty hlt
   go_wp2;go_ret
   refine⟨qad (by rw [←H.out,Utf.bad_end _ _ (by rw [hnn.out];omega)]),qfc _ _ _⟩
theorem qg6 (s:ByteArray) (l:List UInt8) (w:World) (hl:s.data.toList=l) (hs:s.size<=1000000000) :
  Calls Tryz.prog 145 #[.string s] w fun e w'=>e=.returned (.bool (decide (Utf.bad l<0)))/\Below w.heap.size w w':=by
 go_enter Tryz.func145,Tryz.ntmps145
 go_wp2_with (go_at_call 182;refine(utf_Bad s l _ hl hs).mono ?_;rintro e w' ⟨rfl,hb⟩)
 go_ret;exact⟨rfl,hb⟩
end
section
open Go.RowKit
theorem _root_.Go.RowKit.Below.bal {w a:World} (h:Below w.heap.size w a) (o:Obj):Below w.heap.size w (a.alloc o):=h.alloc h.size o
theorem _root_.Go.RowKit.Below.link {w a b:World} (k:Below a.heap.size a b) (h:Below w.heap.size w a):Below w.heap.size w b:=h.trans (k.mono h.size)
theorem bcell {W w1:World} (hb:Below W.heap.size W w1):(∀b o,b<W.heap.size->w1.cell? ⟨b,o,none⟩=W.cell? ⟨b,o,none⟩)/\(∀b o,b<W.heap.size->w1.frozen? ⟨b,o,none⟩=W.frozen? ⟨b,o,none⟩):=
 ⟨fun b o h=>hb.cell (p:=⟨b,o,none⟩) h,fun b o h=>hb.frozen (p:=⟨b,o,none⟩) h⟩
theorem qid (b:Int) (h0:0<=b) (h1:b<18446744073709551616):wrap64 b=if b<9223372036854775808 then b else b-18446744073709551616:=by
 unfold wrap64;split <;> omega
theorem emp (t:ByteArray):t.toList.isEmpty=decide (t.data.toList=[]):=by
 rw [ByteArray.toList_eq];cases t.data.toList <;> rfl
theorem emp' (t:ByteArray):(t.toList=[])=(t.data.toList=[]):=by rw [ByteArray.toList_eq]
theorem sc_Is (k:Int) (w:World):Calls Tryz.prog 183 #[.int .i64 k] w fun e w'=>e=.returned (.bool (Pr.isK k))/\w=w':=by
 go_enter Tryz.func183,Tryz.ntmps183
 go_wp2
 all_goals go_ret
 all_goals exact⟨qa3 (by rw [Bool.eq_iff_iff];simp [Pr.isK]at *;try omega),rfl⟩
theorem sc_texty (k:Int) (w:World):Calls Tryz.prog 235 #[.int .i64 k] w fun e w'=>e=.returned (.bool (Pr.txt k))/\w=w':=by
 go_enter Tryz.func235,Tryz.ntmps235
 go_wp2
 all_goals go_ret
 all_goals exact⟨qa3 (by rw [Bool.eq_iff_iff];simp [Pr.txt]at *;try omega),rfl⟩
theorem qgb (k x:Int) (w:World) (h0:0<=x) (h1:x<18446744073709551616):Calls Tryz.prog 228 #[.int .i64 k,.int .u64 x] w fun e w'=>e=.returned (.bool (Pr.withB k x))/\w=w':=by
 go_enter Tryz.func228,Tryz.ntmps228
 go_wp2
 all_goals go_ret
 all_goals
  refine⟨qa3 ?_,rfl⟩;have hw:=qid x h0 h1;rw [Bool.eq_iff_iff];simp only [beq_iff_eq,beq_eq_false_iff_ne,ne_eq]at *;simp [Pr.withB, *]
  try (split at hw <;> (repeat' split) <;> omega)
theorem sc_lean (k x:Int) (t:ByteArray) (p1 p2 p3 p4:Option Addr) (n1 n2 n3 n4 q1 q2 q3 q4:Nat) (w:World) (h0:0<=x) (h1:x<18446744073709551616) (b1:n1<=140737488355328) (b2:n2<=140737488355328) (b3:n3<=140737488355328) (b4:n4<=140737488355328):Calls Tryz.prog 227 #[.agg #[.int .i64 k,.int .u64 x,.string t,.slice p1 n1 q1,.slice p2 n2 q2,.slice p3 n3 q3,.slice p4 n4 q4]] w fun e w'=>e=.returned (.bool (Pr.leanB k x t.data.toList (n1+n2+n3+n4)))/\Below w.heap.size w w':=by
 have c:=Lib.hid (fun W=>sc_texty k W);by_cases hz:n1+n2+n3+n4=0
 ·have hl:Pr.leanB k x t.data.toList (n1+n2+n3+n4)=if Pr.txt k=true then decide (x=0)else decide (t.data.toList=[]):=by simp [Pr.leanB,hz]
  have hl':=Lib.hid hl;clear hl;have hz':(n1:Int)+n2+n3+n4<=0:=by omega
  clear hz;cases ht:Pr.txt k
  all_goals
   rw [ht]at c hl';clear ht
   go_enter Tryz.func227,Tryz.ntmps227
   go_wp2_with (first
    | (go_at_call 235;(with_reducible refine(c.out _).mono ?_);rintro e w' ⟨rfl,rfl⟩))
   go_ret;refine⟨qa3 ?_,(Below.refl _ _).alloc (Nat.le_refl _) _⟩
   rw [hl'.out,Bool.eq_iff_iff];simp [emp,emp']
 ·have hl:Pr.leanB k x t.data.toList (n1+n2+n3+n4)=false:=by unfold Pr.leanB;rw [decide_eq_false hz];rfl
  have hl':=Lib.hid hl;clear hl;have hz':0<(n1:Int)+n2+n3+n4:=by omega
  clear hz
  go_enter Tryz.func227,Tryz.ntmps227
  go_wp2;go_ret
  exact⟨qa3 hl'.out.symm,(Below.refl _ _).alloc (Nat.le_refl _) _⟩
theorem qen (kind:Int) (k x:Int) (t:ByteArray) (p1 p2 p3 p4:Option Addr) (n1 n2 n3 n4 q1 q2 q3 q4:Nat) (w:World) (h0:0<=x) (h1:x<18446744073709551616) (b1:n1<=140737488355328) (b2:n2<=140737488355328) (b3:n3<=140737488355328) (b4:n4<=140737488355328) (ht:t.size<=1000000000):Calls Tryz.prog 217 #[.int .i64 kind,.agg #[.int .i64 k,.int .u64 x,.string t,.slice p1 n1 q1,.slice p2 n2 q2,.slice p3 n3 q3,.slice p4 n4 q4]] w fun e w'=>e=.returned (.bool (Pr.fitsB kind k x t.data.toList (n1+n2+n3+n4)))/\Below w.heap.size w w':=by
 have hl:t.data.toList.length=t.size:=len_l t;have c1:=Lib.hid (fun W=>sc_Is kind W);have c2:=Lib.hid (fun W=>sc_lean k x t p1 p2 p3 p4 n1 n2 n3 n4 q1 q2 q3 q4 W h0 h1 b1 b2 b3 b4);have c3:=Lib.hid (fun W=>qgb kind x W h0 h1);have c4:=Lib.hid (fun W=>qg6 t t.data.toList W rfl ht);have hE:Pr.fitsB kind k x t.data.toList (n1+n2+n3+n4)=(Pr.isK kind && decide (k=kind) && Pr.leanB k x t.data.toList (n1+n2+n3+n4) && Pr.withB kind x && decide (t.size<=4096) && (decide (kind ≠ 7) || decide (Utf.bad t.data.toList<0))):=by unfold Pr.fitsB;rw [hl]
 have hE':=Lib.hid hE;clear hE hl;generalize Pr.fitsB kind k x t.data.toList (n1+n2+n3+n4)=R at hE' ⊢;generalize Pr.leanB k x t.data.toList (n1+n2+n3+n4)=bl at c2 hE';generalize Pr.withB kind x=bw at c3 hE';generalize Pr.isK kind=bi at c1 hE';generalize decide (Utf.bad t.data.toList<0)=bv at c4 hE';by_cases hk:k=kind
 ·subst hk
  rw [decide_eq_true rfl]at hE'
  go_enter Tryz.func217,Tryz.ntmps217
  go_wp2_with (first
   | (go_at_call 183;(with_reducible refine(c1.out _).mono ?_);rintro e w' ⟨rfl,rfl⟩)
   | (go_at_call 227;(with_reducible refine(c2.out _).mono ?_);rintro e w1 ⟨rfl,hb1⟩;obtain⟨hc1,hf1⟩:=bcell hb1;have hz1:=hb1.size;(try simp at hz1);(try have hx1:w.heap.size+1<w1.heap.size:=by omega);(try have hy1:w.heap.size<w1.heap.size:=by omega))
   | (go_at_call 228;(with_reducible refine(c3.out _).mono ?_);rintro e w' ⟨rfl,rfl⟩)
   | (go_at_call 145;(with_reducible refine(c4.out _).mono ?_);rintro e w2 ⟨rfl,hb2⟩;obtain⟨hc2,hf2⟩:=bcell hb2;have hz2:=hb2.size;(try simp at hz2);(try have hx2:w.heap.size+1<w2.heap.size:=by omega);(try have hy2:w.heap.size<w2.heap.size:=by omega)))
  all_goals go_ret
  all_goals refine⟨qa3 ?_,by(repeat (first|(with_reducible exact Below.refl _ _)|(with_reducible refine Below.drew ?_)|(with_reducible refine Below.bal ?_ _)|(with_reducible refine Below.setCell ?_ (by simp) _)|(with_reducible refine Below.link (by assumption) ?_)))⟩
  all_goals rw [hE'.out]
  all_goals (simp_all;try (first|omega|(intros;omega)))
 ·have hk':(k != kind)=true:=bne_iff_ne.2 hk
  rw [decide_eq_false hk]at hE';clear hk
  go_enter Tryz.func217,Tryz.ntmps217
  go_wp2_with (first
   | (go_at_call 183;(with_reducible refine(c1.out _).mono ?_);rintro e w' ⟨rfl,rfl⟩))
  all_goals go_ret
  all_goals refine⟨qa3 ?_,by(repeat (first|(with_reducible exact Below.refl _ _)|(with_reducible refine Below.drew ?_)|(with_reducible refine Below.bal ?_ _)|(with_reducible refine Below.setCell ?_ (by simp) _)|(with_reducible refine Below.link (by assumption) ?_)))⟩
  all_goals rw [hE'.out]
  all_goals simp
theorem qhp (kind:Int) (k x:Int) (t:ByteArray) (p1 p2 p3 p4:Option Addr) (n1 n2 n3 n4 q1 q2 q3 q4:Nat) (w:World) (h0:0<=x) (h1:x<18446744073709551616) (b1:n1<=140737488355328) (b2:n2<=140737488355328) (b3:n3<=140737488355328) (b4:n4<=140737488355328) (ht:4096<t.size):Calls Tryz.prog 217 #[.int .i64 kind,.agg #[.int .i64 k,.int .u64 x,.string t,.slice p1 n1 q1,.slice p2 n2 q2,.slice p3 n3 q3,.slice p4 n4 q4]] w fun e w'=>e=.returned (.bool false)/\Below w.heap.size w w':=by
 have c1:=Lib.hid (fun W=>sc_Is kind W);have c2:=Lib.hid (fun W=>sc_lean k x t p1 p2 p3 p4 n1 n2 n3 n4 q1 q2 q3 q4 W h0 h1 b1 b2 b3 b4);have c3:=Lib.hid (fun W=>qgb kind x W h0 h1);generalize Pr.leanB k x t.data.toList (n1+n2+n3+n4)=bl at c2;generalize Pr.withB kind x=bw at c3;generalize Pr.isK kind=bi at c1;have ht1:(4096:Int)<t.size:=by omega
 by_cases hk:k=kind
 ·subst hk
  go_enter Tryz.func217,Tryz.ntmps217
  go_wp2_with (first
   | (go_at_call 183;(with_reducible refine(c1.out _).mono ?_);rintro e w' ⟨rfl,rfl⟩)
   | (go_at_call 227;(with_reducible refine(c2.out _).mono ?_);rintro e w1 ⟨rfl,hb1⟩;obtain⟨hc1,hf1⟩:=bcell hb1;have hz1:=hb1.size;(try simp at hz1);(try have hx1:w.heap.size+1<w1.heap.size:=by omega);(try have hy1:w.heap.size<w1.heap.size:=by omega))
   | (go_at_call 228;(with_reducible refine(c3.out _).mono ?_);rintro e w' ⟨rfl,rfl⟩))
  all_goals go_ret
  all_goals exact⟨rfl,by(repeat (first|(with_reducible exact Below.refl _ _)|(with_reducible refine Below.drew ?_)|(with_reducible refine Below.bal ?_ _)|(with_reducible refine Below.setCell ?_ (by simp) _)|(with_reducible refine Below.link (by assumption) ?_)))⟩
 ·have hk':(k != kind)=true:=bne_iff_ne.2 hk
  clear hk
  go_enter Tryz.func217,Tryz.ntmps217
  go_wp2_with (first
   | (go_at_call 183;(with_reducible refine(c1.out _).mono ?_);rintro e w' ⟨rfl,rfl⟩))
  all_goals go_ret
  all_goals exact⟨rfl,by(repeat (first|(with_reducible exact Below.refl _ _)|(with_reducible refine Below.drew ?_)|(with_reducible refine Below.bal ?_ _)|(with_reducible refine Below.setCell ?_ (by simp) _)|(with_reducible refine Below.link (by assumption) ?_)))⟩
theorem sc_Fits (kind:Int) (k x:Int) (t:ByteArray) (p1 p2 p3 p4:Option Addr) (n1 n2 n3 n4 q1 q2 q3 q4:Nat) (w:World) (h0:0<=x) (h1:x<18446744073709551616) (b1:n1<=140737488355328) (b2:n2<=140737488355328) (b3:n3<=140737488355328) (b4:n4<=140737488355328):Calls Tryz.prog 217 #[.int .i64 kind,.agg #[.int .i64 k,.int .u64 x,.string t,.slice p1 n1 q1,.slice p2 n2 q2,.slice p3 n3 q3,.slice p4 n4 q4]] w fun e w'=>e=.returned (.bool (Pr.fitsB kind k x t.data.toList (n1+n2+n3+n4)))/\Below w.heap.size w w':=by
 by_cases ht:t.size<=1000000000
 ·exact qen kind k x t p1 p2 p3 p4 n1 n2 n3 n4 q1 q2 q3 q4 w h0 h1 b1 b2 b3 b4 ht
 ·have e:Pr.fitsB kind k x t.data.toList (n1+n2+n3+n4)=false:=by
   have hl:t.data.toList.length=t.size:=len_l t;unfold Pr.fitsB;rw [hl,decide_eq_false (show ¬ t.size<=4096 by omega)];simp
  rw [e];exact qhp kind k x t p1 p2 p3 p4 n1 n2 n3 n4 q1 q2 q3 q4 w h0 h1 b1 b2 b3 b4 (by omega)
end
end Go.Proofs.YtgpjhibdongmbaaGreatDoor
