import Derived.Test.YtfoaaglbpmmhiaaGreatDoorKitA
import Derived.Test.YtfoaaglbpmmhiaaGreatDoorPrProg1
import Derived.StillTailTactics
set_option maxRecDepth 100000
set_option maxHeartbeats 4000000
set_option linter.unusedVariables false
set_option linter.unusedSimpArgs false
namespace Go.Proofs.YtfoaaglbpmmhiaaGreatDoor
section
open Go.RowKit
theorem qcb (s:ByteArray) (i lo hi:Nat) (a b c:Int) (w:World) (ha:a=i) (hb:b=lo) (hc:c=hi) (hs:s.size<=1000000000) (hi1:i<=2000000000) :
  Calls Tryz.prog 212 #[.string s,.int .i64 a,.int .u8 b,.int .u8 c] w fun e w'=>e=.returned (.bool (Utf.btw s.data.toList i lo hi))/\w=w':=by
 subst ha hb hc
 go_enter Tryz.func212,Tryz.ntmps212
 go_wp2
 ·have h1:i<s.size:=by assumption
  have h2:lo<=s[i].toNat:=by assumption
  go_ret;exact⟨by simp [Utf.btw,get_l s i h1,h2],rfl⟩
 ·have h1:i<s.size:=by assumption
  have h2 : ¬ lo<=s[i].toNat:=by assumption
  go_ret;exact⟨by simp [Utf.btw,get_l s i h1,h2],rfl⟩
 ·have h1 : ¬ i<s.size:=by assumption
  go_ret;exact⟨by simp [Utf.btw,qo7 s i h1],rfl⟩
theorem tl_step (l:List UInt8) (i k n:Nat) (h:k<n):Utf.tl l (i+k) (n-k)=(Utf.btw l (i+k) 128 191 && Utf.tl l (i+(k+1)) (n-(k+1))):=by
 obtain⟨m,rfl⟩ : ∃m,n=k+1+m:=⟨n-(k+1),by omega⟩;rw [show k+1+m-k=m+1 from by omega,show k+1+m-(k+1)=m from by omega];rfl
theorem qfa (s:ByteArray) (i n:Nat) (a b:Int) (w:World) (ha:a=i) (hb:b=n) (hs:s.size<=1000000000) (hi:i<=1000000010) (hn:n<=10) :
  Calls Tryz.prog 211 #[.string s,.int .i64 a,.int .i64 b] w fun e w'=>e=.returned (.bool (Utf.tl s.data.toList i n))/\w=w':=by
 subst ha hb
 go_enter Tryz.func211,Tryz.ntmps211
 go_wp2
 go_loop [7] (fun v => ∃k:Nat,k<=n/\v=.int .i64 k/\Hid (Utf.tl s.data.toList (i+k) (n-k)=Utf.tl s.data.toList i n)) (fun v=>n-(intOf v).toNat)
 case atStart=>exact⟨0,by omega,rfl,rfl⟩
 case round=>
  obtain⟨k,hk,rfl,H⟩:=hrel;by_cases hlt:k<n
  ·have HS:=h_ (tl_step s.data.toList i k n hlt)
   by_cases hb:Utf.btw s.data.toList (i+k) 128 191=true
   ·go_wp2_with (go_at_call 212;refine(qcb s (i+k) 128 191 _ _ _ _ (by omega) rfl rfl hs (by omega)).mono ?_;rintro e w' ⟨rfl,rfl⟩)
    go_round
    case rel=>exact⟨k+1,by omega,by go_num,h_ (by rw [←H.out,HS.out,hb];rfl)⟩
    case measure=>simp [intOf];omega
   ·have hb':Utf.btw s.data.toList (i+k) 128 191=false:=by simpa using hb
    clear hb
    go_wp2_with (go_at_call 212;refine(qcb s (i+k) 128 191 _ _ _ _ (by omega) rfl rfl hs (by omega)).mono ?_;rintro e w' ⟨rfl,rfl⟩)
    go_ret;exact⟨by rw [←H.out,HS.out,hb'];rfl,rfl⟩
  ·go_wp2
   go_ret;have:k=n:=by omega
   subst this;exact⟨by rw [←H.out];simp [Utf.tl],rfl⟩
theorem qnc (s:ByteArray) (i:Nat) (a:Int) (w:World) (ha:a=i) (hs:s.size<=1000000000) (hi:i<s.size) :
  Calls Tryz.prog 188 #[.string s,.int .i64 a] w fun e w'=>e=.returned (.int .i64 (Utf.szAt s.data.toList i))/\w=w':=by
 subst ha;have hg:=h_ (get_l s i hi)
 go_enter Tryz.func188,Tryz.ntmps188
 go_wp2_with (first
  | (go_at_call 212;refine(qcb s (i+1) 160 191 _ _ _ _ (by omega) (by omega) (by omega) hs (by omega)).mono ?_;rintro e w' ⟨rfl,rfl⟩)
  | (go_at_call 212;refine(qcb s (i+1) 128 159 _ _ _ _ (by omega) (by omega) (by omega) hs (by omega)).mono ?_;rintro e w' ⟨rfl,rfl⟩)
  | (go_at_call 212;refine(qcb s (i+1) 144 191 _ _ _ _ (by omega) (by omega) (by omega) hs (by omega)).mono ?_;rintro e w' ⟨rfl,rfl⟩)
  | (go_at_call 212;refine(qcb s (i+1) 128 143 _ _ _ _ (by omega) (by omega) (by omega) hs (by omega)).mono ?_;rintro e w' ⟨rfl,rfl⟩)
  | (go_at_call 211;refine(qfa s (i+1) 1 _ _ _ (by omega) (by omega) hs (by omega) (by omega)).mono ?_;rintro e w' ⟨rfl,rfl⟩)
  | (go_at_call 211;refine(qfa s (i+2) 1 _ _ _ (by omega) (by omega) hs (by omega) (by omega)).mono ?_;rintro e w' ⟨rfl,rfl⟩)
  | (go_at_call 211;refine(qfa s (i+1) 2 _ _ _ (by omega) (by omega) hs (by omega) (by omega)).mono ?_;rintro e w' ⟨rfl,rfl⟩)
  | (go_at_call 211;refine(qfa s (i+2) 2 _ _ _ (by omega) (by omega) hs (by omega) (by omega)).mono ?_;rintro e w' ⟨rfl,rfl⟩)
  | (go_at_call 211;refine(qfa s (i+1) 3 _ _ _ (by omega) (by omega) hs (by omega) (by omega)).mono ?_;rintro e w' ⟨rfl,rfl⟩))
 all_goals go_ret
 all_goals refine⟨qar ?_,rfl⟩
 all_goals simp only [Utf.szAt,hg.out]
 all_goals clear hg
 all_goals go_tidy
 all_goals grind
end
section
open Go.RowKit
theorem ref_Bad (s:ByteArray) (l:List UInt8) (w:World) (hl:s.data.toList=l) (hs:s.size<=1000000000) :
  Calls Tryz.prog 149 #[.string s] w fun e w'=>e=.returned (.int .i64 (Utf.bad l))/\w=w':=by
 have hn:=len_l s;have hnn:=h_ hn;clear hn;subst hl
 go_enter Tryz.func149,Tryz.ntmps149
 go_wp2
 go_loop [3] (fun v => ∃k:Nat,k<=s.size/\v=.int .i64 k/\Hid (Utf.badS 0 k (s.data.toList.drop k)=Utf.bad s.data.toList)) (fun v=>s.size-(intOf v).toNat)
 case atStart=>exact⟨0,by omega,rfl,rfl⟩
 case round=>
  obtain⟨k,hk,rfl,H⟩:=hrel;by_cases hlt:k<s.size
  ·have HS:=h_ (Utf.badS_step s.data.toList k (by rw [hnn.out];exact hlt))
   have hle := @Utf.szAt_lt s.data.toList k;rw [hnn.out]at hle;by_cases h0:Utf.szAt s.data.toList k=0
   ·have h0':((Utf.szAt s.data.toList k:Int) == 0)=true:=by simp [h0]
    have h0h:=h_ h0;clear h0 hle
    go_wp2_with (go_at_call 188;refine(qnc s k _ _ (by omega) hs (by omega)).mono ?_;rintro e w' ⟨rfl,rfl⟩)
    go_ret;exact⟨qar (by rw [←H.out,HS.out,if_pos h0h.out]),rfl⟩
   ·have hle2:=hle h0
    have h0':((Utf.szAt s.data.toList k:Int) == 0)=false:=by simp [h0]
    have h0h:=h_ h0;clear h0 hle
    go_wp2_with (go_at_call 188;refine(qnc s k _ _ (by omega) hs (by omega)).mono ?_;rintro e w' ⟨rfl,rfl⟩)
    go_round
    case rel=>exact⟨k+Utf.szAt s.data.toList k,by omega,by go_num,h_ (by rw [←H.out,HS.out,if_neg h0h.out])⟩
    case measure=>have:=h0h.out;simp [intOf];omega
  ·go_wp2
   go_ret;exact⟨qar (by rw [←H.out,Utf.bad_end _ _ (by rw [hnn.out];omega)]),rfl⟩
theorem qkm (s:ByteArray) (l:List UInt8) (w:World) (hl:s.data.toList=l) (hs:s.size<=1000000000) :
  Calls Tryz.prog 110 #[.string s] w fun e w'=>e=.returned (.bool (decide (Utf.bad l<0)))/\w=w':=by
 go_enter Tryz.func110,Tryz.ntmps110
 go_wp2_with (go_at_call 149;refine(ref_Bad s l _ hl hs).mono ?_;rintro e w' ⟨rfl,rfl⟩)
 go_ret;exact⟨rfl,rfl⟩
end
section
open Go.RowKit
theorem r4_Is (k:Int) (w:World):Calls Tryz.prog 181 #[.int .i64 k] w fun e w'=>e=.returned (.bool (Pr.isK k))/\w=w':=by
 go_enter Tryz.func181,Tryz.ntmps181
 go_wp2
 all_goals go_ret
 all_goals exact⟨qa3 (by rw [Bool.eq_iff_iff];simp [Pr.isK]at *;try omega),rfl⟩
theorem qnl (k:Int) (w:World):Calls Tryz.prog 183 #[.int .i64 k] w fun e w'=>e=.returned (.bool (Pr.txt k))/\w=w':=by
 go_enter Tryz.func183,Tryz.ntmps183
 go_wp2
 all_goals go_ret
 all_goals exact⟨qa3 (by rw [Bool.eq_iff_iff];simp [Pr.txt]at *;try omega),rfl⟩
end
section
open Go.RowKit
theorem r4_Class (x:Int) (w:World) (h0:0<=x) (h1:x<18446744073709551616):Calls Tryz.prog 184 #[.int .u64 x] w fun e w'=>e=.returned (.int .i64 (Pr.cls x))/\w=w':=by
 go_enter Tryz.func184,Tryz.ntmps184
 go_wp2
 all_goals go_ret
 all_goals
  refine⟨qar ?_,rfl⟩
  try simp only [beq_iff_eq,beq_eq_false_iff_ne,bne_iff_ne,bne_eq_false_iff_eq,ne_eq]at *
  unfold Pr.cls
  (repeat' split) <;> omega
theorem r4_Norm (k x:Int) (t:ByteArray) (p1 p2 p3 p4:Option Addr) (n1 n2 n3 n4 q1 q2 q3 q4:Nat) (w:World) (h0:0<=x) (h1:x<18446744073709551616) (b1:n1<=140737488355328) (b2:n2<=140737488355328) (b3:n3<=140737488355328) (b4:n4<=140737488355328):Calls Tryz.prog 147 #[.agg #[.int .i64 k,.int .u64 x,.string t,.slice p1 n1 q1,.slice p2 n2 q2,.slice p3 n3 q3,.slice p4 n4 q4]] w fun e w'=>e=.returned (.agg #[.int .i64 k,.int .u64 (Pr.normB k x),.string t,.slice p1 n1 q1,.slice p2 n2 q2,.slice p3 n3 q3,.slice p4 n4 q4])/\Below w.heap.size w w':=by
 by_cases hk:k=6
 ·subst hk
  have c:=h_ (fun W=>r4_Class x W h0 h1);by_cases hc:Pr.cls x=0
  ·have hn:Pr.normB 6 x=9221120237041090560:=if_pos ⟨rfl,hc⟩
   rw [hn];rw [hc]at c;clear hc hn
   go_enter Tryz.func147,Tryz.ntmps147
   go_wp2_with (first
    | (go_at_call 184;(with_reducible refine(c.out _).mono ?_);rintro e w' ⟨rfl,rfl⟩))
   exact bodyPost_ret (by simp [results,Tryz.results147,go_sem]) rfl ⟨rfl,((Below.refl _ _).bal _).bal _⟩
  ·have hn:Pr.normB 6 x=x:=if_neg (fun h=>hc h.2)
   have hc':(Pr.cls x == 0)=false:=beq_eq_false_iff_ne.2 hc;rw [hn];clear hc hn
   go_enter Tryz.func147,Tryz.ntmps147
   go_wp2_with (first
    | (go_at_call 184;(with_reducible refine(c.out _).mono ?_);rintro e w' ⟨rfl,rfl⟩))
   exact bodyPost_ret (by simp [results,Tryz.results147,go_sem]) rfl ⟨rfl,((Below.refl _ _).bal _).bal _⟩
 ·have hn:Pr.normB k x=x:=if_neg (fun h=>hk h.1)
  have hk':(k == 6)=false:=beq_eq_false_iff_ne.2 hk;rw [hn];clear hk hn
  go_enter Tryz.func147,Tryz.ntmps147
  go_wp2;exact bodyPost_ret (by simp [results,Tryz.results147,go_sem]) rfl ⟨rfl,((Below.refl _ _).bal _).bal _⟩
theorem r4_lone (k x:Int) (t:ByteArray) (p1 p2 p3 p4:Option Addr) (n1 n2 n3 n4 q1 q2 q3 q4:Nat) (w:World):Calls Tryz.prog 182 #[.agg #[.int .i64 k,.int .u64 x,.string t,.slice p1 n1 q1,.slice p2 n2 q2,.slice p3 n3 q3,.slice p4 n4 q4]] w fun e w'=>e=.returned (.bool (decide ((n1+n2+n3+n4)=0)))/\Below w.heap.size w w':=by
 go_enter Tryz.func182,Tryz.ntmps182
 go_wp2
 all_goals go_ret
 all_goals refine⟨qa3 ?_,by(repeat (first|(with_reducible exact Below.refl _ _)|(with_reducible refine Below.drew ?_)|(with_reducible refine Below.bal ?_ _)|(with_reducible refine Below.setCell ?_ (by simp) _)|(with_reducible refine Below.link (by assumption) ?_)))⟩
 all_goals rw [Bool.eq_iff_iff]
 all_goals simp_all
 all_goals try omega
end
section
open Go.RowKit
theorem qnm (kind k:Int) (x:Int) (t:ByteArray) (p1 p2 p3 p4:Option Addr) (n1 n2 n3 n4 q1 q2 q3 q4:Nat) (w:World) (h0:0<=x) (h1:x<18446744073709551616) (b1:n1<=140737488355328) (b2:n2<=140737488355328) (b3:n3<=140737488355328) (b4:n4<=140737488355328) (hk:k ≠ kind):Calls Tryz.prog 146 #[.int .i64 kind,.agg #[.int .i64 k,.int .u64 x,.string t,.slice p1 n1 q1,.slice p2 n2 q2,.slice p3 n3 q3,.slice p4 n4 q4]] w fun e w'=>e=.returned (.bool (Pr.fitsB kind k x t.data.toList (n1+n2+n3+n4)))/\Below w.heap.size w w':=by
 have e:Pr.fitsB kind k x t.data.toList (n1+n2+n3+n4)=false:=by unfold Pr.fitsB;rw [decide_eq_false hk];simp
 rw [e];have hk':(k != kind)=true:=bne_iff_ne.2 hk;have c1:=h_ (fun W=>r4_Is kind W);generalize Pr.isK kind=bi at c1;clear hk e
 go_enter Tryz.func146,Tryz.ntmps146
 go_wp2_with (first
  | (go_at_call 181;(with_reducible refine(c1.out _).mono ?_);rintro e w' ⟨rfl,rfl⟩))
 all_goals go_ret
 all_goals exact⟨rfl,by(repeat (first|(with_reducible exact Below.refl _ _)|(with_reducible refine Below.drew ?_)|(with_reducible refine Below.bal ?_ _)|(with_reducible refine Below.setCell ?_ (by simp) _)|(with_reducible refine Below.link (by assumption) ?_)))⟩
theorem qma (k:Int) (x:Int) (t:ByteArray) (p1 p2 p3 p4:Option Addr) (n1 n2 n3 n4 q1 q2 q3 q4:Nat) (w:World) (hk:Pr.txt k=true) (c4:Hid (∀W:World,t.size<=4096->Calls Tryz.prog 110 #[.string t] W fun e w'=>e=.returned (.bool (decide (Utf.bad t.data.toList<0)))/\W=w')): Calls Tryz.prog 146 #[.int .i64 k,.agg #[.int .i64 k,.int .u64 x,.string t,.slice p1 n1 q1,.slice p2 n2 q2,.slice p3 n3 q3,.slice p4 n4 q4]] w fun e w'=>e=.returned (.bool (Pr.fitsB k k x t.data.toList (n1+n2+n3+n4)))/\Below w.heap.size w w':=by
 have hE:=Pr.fits_ref k x t.data.toList (n1+n2+n3+n4);rw [if_pos hk,len_l]at hE;have hE':=h_ hE;have c1:=h_ (fun W=>r4_Is k W);have c2:=h_ (fun W=>r4_lone k x t p1 p2 p3 p4 n1 n2 n3 n4 q1 q2 q3 q4 W);have c3:=h_ (fun W=>qnl k W);rw [hk]at c3;clear hE hk;generalize Pr.fitsB k k x t.data.toList (n1+n2+n3+n4)=R at hE' ⊢;generalize decide (n1+n2+n3+n4=0)=bl at c2 hE';generalize Pr.isK k=bi at c1 hE';generalize decide (Utf.bad t.data.toList<0)=bv at c4 hE'
 go_enter Tryz.func146,Tryz.ntmps146
 go_wp2_with (first
  | (go_at_call 181;(with_reducible refine(c1.out _).mono ?_);rintro e w' ⟨rfl,rfl⟩)
  | (go_at_call 182;(with_reducible refine(c2.out _).mono ?_);rintro e w1 ⟨rfl,hb1⟩;obtain⟨hc1,hf1⟩:=bcell hb1;have hz1:=hb1.size;(try simp at hz1);(try have hx1:w.heap.size+1<w1.heap.size:=by omega);(try have hy1:w.heap.size<w1.heap.size:=by omega))
  | (go_at_call 183;(with_reducible refine(c3.out _).mono ?_);rintro e w' ⟨rfl,rfl⟩)
  | (go_at_call 110;(with_reducible refine(c4.out _ (by omega)).mono ?_);rintro e w' ⟨rfl,rfl⟩))
 all_goals go_ret
 all_goals refine⟨qa3 ?_,by(repeat (first|(with_reducible exact Below.refl _ _)|(with_reducible refine Below.drew ?_)|(with_reducible refine Below.bal ?_ _)|(with_reducible refine Below.setCell ?_ (by simp) _)|(with_reducible refine Below.link (by assumption) ?_)))⟩
 all_goals rw [hE'.out]
 all_goals (try simp only [beq_iff_eq,beq_eq_false_iff_ne,bne_iff_ne,bne_eq_false_iff_eq,ne_eq,Bool.not_eq_true]at *)
 all_goals simp_all
 all_goals (first|omega|(intros;omega)|(cases bv <;> simp_all <;> omega))
theorem qmb (k:Int) (x:Int) (t:ByteArray) (p1 p2 p3 p4:Option Addr) (n1 n2 n3 n4 q1 q2 q3 q4:Nat) (w:World) (h0:0<=x) (h1:x<18446744073709551616) (hk:Pr.txt k=false):Calls Tryz.prog 146 #[.int .i64 k,.agg #[.int .i64 k,.int .u64 x,.string t,.slice p1 n1 q1,.slice p2 n2 q2,.slice p3 n3 q3,.slice p4 n4 q4]] w fun e w'=>e=.returned (.bool (Pr.fitsB k k x t.data.toList (n1+n2+n3+n4)))/\Below w.heap.size w w':=by
 have hE:=Pr.fits_ref k x t.data.toList (n1+n2+n3+n4);rw [if_neg (by rw [hk];decide)]at hE;have hE':=h_ hE;have c1:=h_ (fun W=>r4_Is k W);have c2:=h_ (fun W=>r4_lone k x t p1 p2 p3 p4 n1 n2 n3 n4 q1 q2 q3 q4 W);have c3:=h_ (fun W=>qnl k W);rw [hk]at c3;clear hE hk;have hw:=h_ (qmo x h0 h1);generalize Pr.fitsB k k x t.data.toList (n1+n2+n3+n4)=R at hE' ⊢;generalize decide (n1+n2+n3+n4=0)=bl at c2 hE';generalize Pr.isK k=bi at c1 hE';by_cases ht:t.data.toList=[]
 ·have ht1:t.toList=[]:=by rw [ByteArray.toList_eq];exact ht
  rw [decide_eq_true ht]at hE';clear ht
  go_enter Tryz.func146,Tryz.ntmps146
  go_wp2_with (first
   | (go_at_call 181;(with_reducible refine(c1.out _).mono ?_);rintro e w' ⟨rfl,rfl⟩)
   | (go_at_call 182;(with_reducible refine(c2.out _).mono ?_);rintro e w1 ⟨rfl,hb1⟩;obtain⟨hc1,hf1⟩:=bcell hb1;have hz1:=hb1.size;(try simp at hz1);(try have hx1:w.heap.size+1<w1.heap.size:=by omega);(try have hy1:w.heap.size<w1.heap.size:=by omega))
   | (go_at_call 183;(with_reducible refine(c3.out _).mono ?_);rintro e w' ⟨rfl,rfl⟩))
  all_goals go_ret
  all_goals refine⟨qa3 ?_,by(repeat (first|(with_reducible exact Below.refl _ _)|(with_reducible refine Below.drew ?_)|(with_reducible refine Below.bal ?_ _)|(with_reducible refine Below.setCell ?_ (by simp) _)|(with_reducible refine Below.link (by assumption) ?_)))⟩
  all_goals rw [hE'.out]
  all_goals (try simp only [beq_iff_eq,beq_eq_false_iff_ne,bne_iff_ne,bne_eq_false_iff_eq,ne_eq,Bool.not_eq_true]at *)
  all_goals (simp_all [Pr.withB])
  all_goals (have hw':=hw.out;first|omega|(rw [Bool.eq_iff_iff];simp;split at hw' <;> omega)|(split at hw' <;> omega))
 ·have ht1:t.toList ≠ []:=by rw [ByteArray.toList_eq];exact ht
  rw [decide_eq_false ht]at hE';have ht2:t.toList.isEmpty=false:=by rw [emp,decide_eq_false ht]
  clear ht
  go_enter Tryz.func146,Tryz.ntmps146
  go_wp2_with (first
   | (go_at_call 181;(with_reducible refine(c1.out _).mono ?_);rintro e w' ⟨rfl,rfl⟩)
   | (go_at_call 182;(with_reducible refine(c2.out _).mono ?_);rintro e w1 ⟨rfl,hb1⟩;obtain⟨hc1,hf1⟩:=bcell hb1;have hz1:=hb1.size;(try simp at hz1);(try have hx1:w.heap.size+1<w1.heap.size:=by omega);(try have hy1:w.heap.size<w1.heap.size:=by omega))
   | (go_at_call 183;(with_reducible refine(c3.out _).mono ?_);rintro e w' ⟨rfl,rfl⟩))
  all_goals go_ret
  all_goals refine⟨qa3 ?_,by(repeat (first|(with_reducible exact Below.refl _ _)|(with_reducible refine Below.drew ?_)|(with_reducible refine Below.bal ?_ _)|(with_reducible refine Below.setCell ?_ (by simp) _)|(with_reducible refine Below.link (by assumption) ?_)))⟩
  all_goals rw [hE'.out]
  all_goals simp_all
end
section
open Go.RowKit
theorem r4_Fits (kind k:Int) (x:Int) (t:ByteArray) (p1 p2 p3 p4:Option Addr) (n1 n2 n3 n4 q1 q2 q3 q4:Nat) (w:World) (h0:0<=x) (h1:x<18446744073709551616) (b1:n1<=140737488355328) (b2:n2<=140737488355328) (b3:n3<=140737488355328) (b4:n4<=140737488355328):Calls Tryz.prog 146 #[.int .i64 kind,.agg #[.int .i64 k,.int .u64 x,.string t,.slice p1 n1 q1,.slice p2 n2 q2,.slice p3 n3 q3,.slice p4 n4 q4]] w fun e w'=>e=.returned (.bool (Pr.fitsB kind k x t.data.toList (n1+n2+n3+n4)))/\Below w.heap.size w w':=by
 by_cases hk:k=kind
 ·subst hk
  cases ht:Pr.txt k
  ·exact qmb k x t p1 p2 p3 p4 n1 n2 n3 n4 q1 q2 q3 q4 w h0 h1 ht
  ·exact qma k x t p1 p2 p3 p4 n1 n2 n3 n4 q1 q2 q3 q4 w ht (h_ (fun W h=>qkm t t.data.toList W rfl (by omega)))
 ·exact qnm kind k x t p1 p2 p3 p4 n1 n2 n3 n4 q1 q2 q3 q4 w h0 h1 b1 b2 b3 b4 hk
end
end Go.Proofs.YtfoaaglbpmmhiaaGreatDoor
