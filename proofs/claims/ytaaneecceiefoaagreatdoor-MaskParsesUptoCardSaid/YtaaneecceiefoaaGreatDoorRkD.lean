import Derived.Test.YtaaneecceiefoaaGreatDoorTwo
import Derived.Test.YtaaneecceiefoaaGreatDoorMdLaw
import Derived.Test.YtaaneecceiefoaaGreatDoorIdWord
import Derived.StillTailTactics
import Derived.Test.YtaaneecceiefoaaGreatDoorRkB
import Derived.Deep.DeepCutAuto
set_option maxRecDepth 100000
set_option maxHeartbeats 4000000
set_option linter.unusedVariables false
set_option linter.unusedSimpArgs false
namespace Go.Proofs.YtaaneecceiefoaaGreatDoor.Ck
def usG (cur:Str):Bool:=if cur=[]then true else !(Id.cut 46 cur).any Id.isWord
theorem usG_step {l:Str} (h:l ≠ []):usG l=(!Id.isWord (Id.splitL l).2 && usG (Id.splitL l).1) ∨ (Id.splitL l).1=[]/\(Id.lastDot l ≠ -1):=by
 rcases Id.lastDot_spec l with⟨e,hn⟩|⟨i,e,hi,h3,h4⟩
 ·left
  have hs:Id.splitL l=([],l):=by unfold Id.splitL;rw [if_pos e]
  rw [hs];unfold usG;rw [if_neg h,if_pos rfl,Id.cut_none 46 l hn];simp
 ·have hs:Id.splitL l=(l.take i,l.drop (i+1)):=by unfold Id.splitL;rw [if_neg (by omega),e];rfl
  by_cases ha:l.take i=[]
  ·right
   rw [hs];exact⟨ha,by omega⟩
  ·left
   have hl:=Id.split_at l i e hi h3
   have hn:(46:UInt8) ∉ l.drop (i+1):=by
    intro hm;obtain⟨j,hj⟩:=List.mem_iff_getElem?.1 hm;rw [List.getElem?_drop]at hj;exact h4 (i+1+j) (by omega) hj
   have hc:Id.cut 46 l=Id.cut 46 (l.take i) ++ [l.drop (i+1)]:=by
    conv=>lhs;rw [hl]
    exact Id.cut_append 46 _ hn _
   rw [hs];unfold usG;rw [if_neg h,if_neg ha,hc,List.any_append];simp only [List.any_cons,List.any_nil,Bool.or_false,Bool.not_or];exact Bool.and_comm _ _
theorem usG_full {l:Str} (h:Id.isFull l=true):usG l=(!Id.isWord (Id.splitL l).2 && usG (Id.splitL l).1):=by
 rcases usG_step (Id.isFull_ne h)with e|⟨e,hd⟩
 ·exact e
 ·exfalso
  -- an empty scope before a dot is no full name
  obtain⟨_,f2,_⟩:=Id.full_split h;rw [e]at f2;have hj:Id.join [] (Id.splitL l).2=(Id.splitL l).2:=by unfold Id.join;rw [if_pos rfl]
  rw [hj]at f2;rcases Id.lastDot_spec l with⟨e2,_⟩|⟨i,e2,hi,h3,_⟩
  ·exact hd e2
  ·have hs:Id.splitL l=(l.take i,l.drop (i+1)):=by unfold Id.splitL;rw [if_neg (by omega),e2];rfl
   rw [hs]at f2;have:=congrArg List.length f2;simp only [List.length_drop]at this;omega
theorem qlk {l:Str} (h:Id.isFull l=true):qal l=usG l:=by
 unfold qal usG;rw [h,if_neg (Id.isFull_ne h),Bool.true_and]
end Go.Proofs.YtaaneecceiefoaaGreatDoor.Ck
namespace Go.Proofs.YtaaneecceiefoaaGreatDoor
section
open Go.RowKit
theorem qc4 (s:ByteArray) (i lo hi:Nat) (a b c:Int) (w:World) (ha:a=i) (hb:b=lo) (hc:c=hi) (hs:s.size<=1000000000) (hi1:i<=2000000000) :
  Calls Tryz.prog 157 #[.string s,.int .i64 a,.int .u8 b,.int .u8 c] w fun e w'=>e=.returned (.bool (Utf.btw s.data.toList i lo hi))/\w=w':=by
 subst ha hb hc
 go_enter Tryz.func157,Tryz.ntmps157
 go_wp2
 ·have h1:i<s.size:=by assumption
  have h2:lo<=s[i].toNat:=by assumption
  go_ret;exact⟨by simp [Utf.btw,get_l s i h1,h2],rfl⟩
 ·have h1:i<s.size:=by assumption
  have h2 : ¬ lo<=s[i].toNat:=by assumption
  go_ret;exact⟨by simp [Utf.btw,get_l s i h1,h2],rfl⟩
 ·have h1 : ¬ i<s.size:=by assumption
  go_ret;exact⟨by simp [Utf.btw,qnn s i h1],rfl⟩
theorem tl_step (l:List UInt8) (i k n:Nat) (h:k<n):Utf.tl l (i+k) (n-k)=(Utf.btw l (i+k) 128 191 && Utf.tl l (i+(k+1)) (n-(k+1))):=by
 obtain⟨m,rfl⟩ : ∃m,n=k+1+m:=⟨n-(k+1),by omega⟩;rw [show k+1+m-k=m+1 from by omega,show k+1+m-(k+1)=m from by omega];rfl
theorem qfl (s:ByteArray) (i n:Nat) (a b:Int) (w:World) (ha:a=i) (hb:b=n) (hs:s.size<=1000000000) (hi:i<=1000000010) (hn:n<=10) :
  Calls Tryz.prog 156 #[.string s,.int .i64 a,.int .i64 b] w fun e w'=>e=.returned (.bool (Utf.tl s.data.toList i n))/\w=w':=by
 subst ha hb
 go_enter Tryz.func156,Tryz.ntmps156
 go_wp2
 go_loop [7] (fun v => ∃k:Nat,k<=n/\v=.int .i64 k/\Hid (Utf.tl s.data.toList (i+k) (n-k)=Utf.tl s.data.toList i n)) (fun v=>n-(intOf v).toNat)
 case atStart=>exact⟨0,by omega,rfl,rfl⟩
 case round=>
  obtain⟨k,hk,rfl,H⟩:=hrel;by_cases hlt:k<n
  ·have HS:=Lib.hid (tl_step s.data.toList i k n hlt)
   by_cases hb:Utf.btw s.data.toList (i+k) 128 191=true
   ·go_wp2_with (go_at_call 157;refine(qc4 s (i+k) 128 191 _ _ _ _ (by omega) rfl rfl hs (by omega)).mono ?_;rintro e w' ⟨rfl,rfl⟩)
    go_round
    case rel=>exact⟨k+1,by omega,by go_num,Lib.hid (by rw [←H.out,HS.out,hb];rfl)⟩
    case measure=>simp [intOf];omega
   ·have hb':Utf.btw s.data.toList (i+k) 128 191=false:=by simpa using hb
    clear hb
    go_wp2_with (go_at_call 157;refine(qc4 s (i+k) 128 191 _ _ _ _ (by omega) rfl rfl hs (by omega)).mono ?_;rintro e w' ⟨rfl,rfl⟩)
    go_ret;exact⟨by rw [←H.out,HS.out,hb'];rfl,rfl⟩
  ·go_wp2
   go_ret;have:k=n:=by omega
   subst this;exact⟨by rw [←H.out];simp [Utf.tl],rfl⟩
theorem qml (s:ByteArray) (i:Nat) (a:Int) (w:World) (ha:a=i) (hs:s.size<=1000000000) (hi:i<s.size) :
  Calls Tryz.prog 151 #[.string s,.int .i64 a] w fun e w'=>e=.returned (.int .i64 (Utf.szAt s.data.toList i))/\w=w':=by
 subst ha;have hg:=Lib.hid (get_l s i hi)
 go_enter Tryz.func151,Tryz.ntmps151
 go_wp2_with (first
  | (go_at_call 157;refine(qc4 s (i+1) 160 191 _ _ _ _ (by omega) (by omega) (by omega) hs (by omega)).mono ?_;rintro e w' ⟨rfl,rfl⟩)
  | (go_at_call 157;refine(qc4 s (i+1) 128 159 _ _ _ _ (by omega) (by omega) (by omega) hs (by omega)).mono ?_;rintro e w' ⟨rfl,rfl⟩)
  | (go_at_call 157;refine(qc4 s (i+1) 144 191 _ _ _ _ (by omega) (by omega) (by omega) hs (by omega)).mono ?_;rintro e w' ⟨rfl,rfl⟩)
  | (go_at_call 157;refine(qc4 s (i+1) 128 143 _ _ _ _ (by omega) (by omega) (by omega) hs (by omega)).mono ?_;rintro e w' ⟨rfl,rfl⟩)
  | (go_at_call 156;refine(qfl s (i+1) 1 _ _ _ (by omega) (by omega) hs (by omega) (by omega)).mono ?_;rintro e w' ⟨rfl,rfl⟩)
  | (go_at_call 156;refine(qfl s (i+2) 1 _ _ _ (by omega) (by omega) hs (by omega) (by omega)).mono ?_;rintro e w' ⟨rfl,rfl⟩)
  | (go_at_call 156;refine(qfl s (i+1) 2 _ _ _ (by omega) (by omega) hs (by omega) (by omega)).mono ?_;rintro e w' ⟨rfl,rfl⟩)
  | (go_at_call 156;refine(qfl s (i+2) 2 _ _ _ (by omega) (by omega) hs (by omega) (by omega)).mono ?_;rintro e w' ⟨rfl,rfl⟩)
  | (go_at_call 156;refine(qfl s (i+1) 3 _ _ _ (by omega) (by omega) hs (by omega) (by omega)).mono ?_;rintro e w' ⟨rfl,rfl⟩))
 all_goals go_ret
 all_goals refine⟨qbj ?_,rfl⟩
 all_goals simp only [Utf.szAt,hg.out]
 all_goals clear hg
 all_goals go_tidy
 all_goals grind
end
section
open Go.RowKit
theorem ref_Bad (s:ByteArray) (l:List UInt8) (w:World) (hl:s.data.toList=l) (hs:s.size<=1000000000) :
  Calls Tryz.prog 135 #[.string s] w fun e w'=>e=.returned (.int .i64 (Utf.bad l))/\w=w':=by
 have hn:=len_l s;have hnn:=Lib.hid hn;clear hn;subst hl
 go_enter Tryz.func135,Tryz.ntmps135
 go_wp2
 go_loop [3] (fun v => ∃k:Nat,k<=s.size/\v=.int .i64 k/\Hid (Utf.badS 0 k (s.data.toList.drop k)=Utf.bad s.data.toList)) (fun v=>s.size-(intOf v).toNat)
 case atStart=>exact⟨0,by omega,rfl,rfl⟩
 case round=>
  obtain⟨k,hk,rfl,H⟩:=hrel;by_cases hlt:k<s.size
  ·have HS:=Lib.hid (Utf.badS_step s.data.toList k (by rw [hnn.out];exact hlt))
   have hle := @Utf.szAt_lt s.data.toList k;rw [hnn.out]at hle;by_cases h0:Utf.szAt s.data.toList k=0
   ·have h0':((Utf.szAt s.data.toList k:Int) == 0)=true:=by simp [h0]
    have h0h:=Lib.hid h0;clear h0 hle
    go_wp2_with (go_at_call 151;refine(qml s k _ _ (by omega) hs (by omega)).mono ?_;rintro e w' ⟨rfl,rfl⟩)
    go_ret;exact⟨qbj (by rw [←H.out,HS.out,if_pos h0h.out]),rfl⟩
   ·have hle2:=hle h0
    have h0':((Utf.szAt s.data.toList k:Int) == 0)=false:=by simp [h0]
    have h0h:=Lib.hid h0;clear h0 hle
    go_wp2_with (go_at_call 151;refine(qml s k _ _ (by omega) hs (by omega)).mono ?_;rintro e w' ⟨rfl,rfl⟩)
    go_round
    case rel=>exact⟨k+Utf.szAt s.data.toList k,by omega,by go_num,Lib.hid (by rw [←H.out,HS.out,if_neg h0h.out])⟩
    case measure=>have:=h0h.out;simp [intOf];omega
  ·go_wp2
   go_ret;exact⟨qbj (by rw [←H.out,Utf.bad_end _ _ (by rw [hnn.out];omega)]),rfl⟩
theorem qjw (s:ByteArray) (l:List UInt8) (w:World) (hl:s.data.toList=l) (hs:s.size<=1000000000) :
  Calls Tryz.prog 110 #[.string s] w fun e w'=>e=.returned (.bool (decide (Utf.bad l<0)))/\w=w':=by
 go_enter Tryz.func110,Tryz.ntmps110
 go_wp2_with (go_at_call 135;refine(ref_Bad s l _ hl hs).mono ?_;rintro e w' ⟨rfl,rfl⟩)
 go_ret;exact⟨rfl,rfl⟩
end
section
open Go.RowKit
theorem r4_Is (k:Int) (w:World):Calls Tryz.prog 144 #[.int .i64 k] w fun e w'=>e=.returned (.bool (Pr.isK k))/\w=w':=by
 go_enter Tryz.func144,Tryz.ntmps144
 go_wp2
 all_goals go_ret
 all_goals exact⟨qa7 (by rw [Bool.eq_iff_iff];simp [Pr.isK]at *;try omega),rfl⟩
theorem qms (k:Int) (w:World):Calls Tryz.prog 146 #[.int .i64 k] w fun e w'=>e=.returned (.bool (Pr.txt k))/\w=w':=by
 go_enter Tryz.func146,Tryz.ntmps146
 go_wp2
 all_goals go_ret
 all_goals exact⟨qa7 (by rw [Bool.eq_iff_iff];simp [Pr.txt]at *;try omega),rfl⟩
end
section
open Go.RowKit
theorem r4_Class (x:Int) (w:World) (h0:0<=x) (h1:x<18446744073709551616):Calls Tryz.prog 147 #[.int .u64 x] w fun e w'=>e=.returned (.int .i64 (Pr.cls x))/\w=w':=by
 go_enter Tryz.func147,Tryz.ntmps147
 go_wp2
 all_goals go_ret
 all_goals
  refine⟨qbj ?_,rfl⟩
  try simp only [beq_iff_eq,beq_eq_false_iff_ne,bne_iff_ne,bne_eq_false_iff_eq,ne_eq]at *
  unfold Pr.cls
  (repeat' split) <;> omega
theorem r4_Norm (k x:Int) (t:ByteArray) (p1 p2 p3 p4:Option Addr) (n1 n2 n3 n4 q1 q2 q3 q4:Nat) (w:World) (h0:0<=x) (h1:x<18446744073709551616) (b1:n1<=140737488355328) (b2:n2<=140737488355328) (b3:n3<=140737488355328) (b4:n4<=140737488355328):Calls Tryz.prog 133 #[.agg #[.int .i64 k,.int .u64 x,.string t,.slice p1 n1 q1,.slice p2 n2 q2,.slice p3 n3 q3,.slice p4 n4 q4]] w fun e w'=>e=.returned (.agg #[.int .i64 k,.int .u64 (Pr.normB k x),.string t,.slice p1 n1 q1,.slice p2 n2 q2,.slice p3 n3 q3,.slice p4 n4 q4])/\Below w.heap.size w w':=by
 by_cases hk:k=6
 ·subst hk
  have c:=Lib.hid (fun W=>r4_Class x W h0 h1);by_cases hc:Pr.cls x=0
  ·have hn:Pr.normB 6 x=9221120237041090560:=if_pos ⟨rfl,hc⟩
   rw [hn];rw [hc]at c;clear hc hn
   go_enter Tryz.func133,Tryz.ntmps133
   go_wp2_with (first
    | (go_at_call 147;(with_reducible refine(c.out _).mono ?_);rintro e w' ⟨rfl,rfl⟩))
   exact bodyPost_ret (by simp [results,Tryz.results133,go_sem]) rfl ⟨rfl,((Below.refl _ _).bal _).bal _⟩
  ·have hn:Pr.normB 6 x=x:=if_neg (fun h=>hc h.2)
   have hc':(Pr.cls x == 0)=false:=beq_eq_false_iff_ne.2 hc;rw [hn];clear hc hn
   go_enter Tryz.func133,Tryz.ntmps133
   go_wp2_with (first
    | (go_at_call 147;(with_reducible refine(c.out _).mono ?_);rintro e w' ⟨rfl,rfl⟩))
   exact bodyPost_ret (by simp [results,Tryz.results133,go_sem]) rfl ⟨rfl,((Below.refl _ _).bal _).bal _⟩
 ·have hn:Pr.normB k x=x:=if_neg (fun h=>hk h.1)
  have hk':(k == 6)=false:=beq_eq_false_iff_ne.2 hk;rw [hn];clear hk hn
  go_enter Tryz.func133,Tryz.ntmps133
  go_wp2;exact bodyPost_ret (by simp [results,Tryz.results133,go_sem]) rfl ⟨rfl,((Below.refl _ _).bal _).bal _⟩
theorem r4_lone (k x:Int) (t:ByteArray) (p1 p2 p3 p4:Option Addr) (n1 n2 n3 n4 q1 q2 q3 q4:Nat) (w:World):Calls Tryz.prog 145 #[.agg #[.int .i64 k,.int .u64 x,.string t,.slice p1 n1 q1,.slice p2 n2 q2,.slice p3 n3 q3,.slice p4 n4 q4]] w fun e w'=>e=.returned (.bool (decide ((n1+n2+n3+n4)=0)))/\Below w.heap.size w w':=by
 go_enter Tryz.func145,Tryz.ntmps145
 go_wp2
 all_goals go_ret
 all_goals refine⟨qa7 ?_,by(repeat (first|(with_reducible exact Below.refl _ _)|(with_reducible refine Below.drew ?_)|(with_reducible refine Below.bal ?_ _)|(with_reducible refine Below.setCell ?_ (by simp) _)|(with_reducible refine Below.link (by assumption) ?_)))⟩
 all_goals rw [Bool.eq_iff_iff]
 all_goals simp_all
 all_goals try omega
end
section
open Go.RowKit
theorem qmt (kind k:Int) (x:Int) (t:ByteArray) (p1 p2 p3 p4:Option Addr) (n1 n2 n3 n4 q1 q2 q3 q4:Nat) (w:World) (h0:0<=x) (h1:x<18446744073709551616) (b1:n1<=140737488355328) (b2:n2<=140737488355328) (b3:n3<=140737488355328) (b4:n4<=140737488355328) (hk:k ≠ kind):Calls Tryz.prog 132 #[.int .i64 kind,.agg #[.int .i64 k,.int .u64 x,.string t,.slice p1 n1 q1,.slice p2 n2 q2,.slice p3 n3 q3,.slice p4 n4 q4]] w fun e w'=>e=.returned (.bool (Pr.fitsB kind k x t.data.toList (n1+n2+n3+n4)))/\Below w.heap.size w w':=by
 have e:Pr.fitsB kind k x t.data.toList (n1+n2+n3+n4)=false:=by unfold Pr.fitsB;rw [decide_eq_false hk];simp
 rw [e];have hk':(k != kind)=true:=bne_iff_ne.2 hk;have c1:=Lib.hid (fun W=>r4_Is kind W);generalize Pr.isK kind=bi at c1;clear hk e
 go_enter Tryz.func132,Tryz.ntmps132
 go_wp2_with (first
  | (go_at_call 144;(with_reducible refine(c1.out _).mono ?_);rintro e w' ⟨rfl,rfl⟩))
 all_goals go_ret
 all_goals exact⟨rfl,by(repeat (first|(with_reducible exact Below.refl _ _)|(with_reducible refine Below.drew ?_)|(with_reducible refine Below.bal ?_ _)|(with_reducible refine Below.setCell ?_ (by simp) _)|(with_reducible refine Below.link (by assumption) ?_)))⟩
theorem ql2 (k:Int) (x:Int) (t:ByteArray) (p1 p2 p3 p4:Option Addr) (n1 n2 n3 n4 q1 q2 q3 q4:Nat) (w:World) (hk:Pr.txt k=true) (c4:Hid (∀W:World,t.size<=4096->Calls Tryz.prog 110 #[.string t] W fun e w'=>e=.returned (.bool (decide (Utf.bad t.data.toList<0)))/\W=w')): Calls Tryz.prog 132 #[.int .i64 k,.agg #[.int .i64 k,.int .u64 x,.string t,.slice p1 n1 q1,.slice p2 n2 q2,.slice p3 n3 q3,.slice p4 n4 q4]] w fun e w'=>e=.returned (.bool (Pr.fitsB k k x t.data.toList (n1+n2+n3+n4)))/\Below w.heap.size w w':=by
 have hE:=Pr.fits_ref k x t.data.toList (n1+n2+n3+n4);rw [if_pos hk,len_l]at hE;have hE':=Lib.hid hE;have c1:=Lib.hid (fun W=>r4_Is k W);have c2:=Lib.hid (fun W=>r4_lone k x t p1 p2 p3 p4 n1 n2 n3 n4 q1 q2 q3 q4 W);have c3:=Lib.hid (fun W=>qms k W);rw [hk]at c3;clear hE hk;generalize Pr.fitsB k k x t.data.toList (n1+n2+n3+n4)=R at hE' ⊢;generalize decide (n1+n2+n3+n4=0)=bl at c2 hE';generalize Pr.isK k=bi at c1 hE';generalize decide (Utf.bad t.data.toList<0)=bv at c4 hE'
 go_enter Tryz.func132,Tryz.ntmps132
 go_wp2_with (first
  | (go_at_call 144;(with_reducible refine(c1.out _).mono ?_);rintro e w' ⟨rfl,rfl⟩)
  | (go_at_call 145;(with_reducible refine(c2.out _).mono ?_);rintro e w1 ⟨rfl,hb1⟩;obtain⟨hc1,hf1⟩:=bcell hb1;have hz1:=hb1.size;(try simp at hz1);(try have hx1:w.heap.size+1<w1.heap.size:=by omega);(try have hy1:w.heap.size<w1.heap.size:=by omega))
  | (go_at_call 146;(with_reducible refine(c3.out _).mono ?_);rintro e w' ⟨rfl,rfl⟩)
  | (go_at_call 110;(with_reducible refine(c4.out _ (by omega)).mono ?_);rintro e w' ⟨rfl,rfl⟩))
 all_goals go_ret
 all_goals refine⟨qa7 ?_,by(repeat (first|(with_reducible exact Below.refl _ _)|(with_reducible refine Below.drew ?_)|(with_reducible refine Below.bal ?_ _)|(with_reducible refine Below.setCell ?_ (by simp) _)|(with_reducible refine Below.link (by assumption) ?_)))⟩
 all_goals rw [hE'.out]
 all_goals (try simp only [beq_iff_eq,beq_eq_false_iff_ne,bne_iff_ne,bne_eq_false_iff_eq,ne_eq,Bool.not_eq_true]at *)
 all_goals simp_all
 all_goals (first|omega|(intros;omega)|(cases bv <;> simp_all <;> omega))
theorem ql3 (k:Int) (x:Int) (t:ByteArray) (p1 p2 p3 p4:Option Addr) (n1 n2 n3 n4 q1 q2 q3 q4:Nat) (w:World) (h0:0<=x) (h1:x<18446744073709551616) (hk:Pr.txt k=false):Calls Tryz.prog 132 #[.int .i64 k,.agg #[.int .i64 k,.int .u64 x,.string t,.slice p1 n1 q1,.slice p2 n2 q2,.slice p3 n3 q3,.slice p4 n4 q4]] w fun e w'=>e=.returned (.bool (Pr.fitsB k k x t.data.toList (n1+n2+n3+n4)))/\Below w.heap.size w w':=by
 have hE:=Pr.fits_ref k x t.data.toList (n1+n2+n3+n4);rw [if_neg (by rw [hk];decide)]at hE;have hE':=Lib.hid hE;have c1:=Lib.hid (fun W=>r4_Is k W);have c2:=Lib.hid (fun W=>r4_lone k x t p1 p2 p3 p4 n1 n2 n3 n4 q1 q2 q3 q4 W);have c3:=Lib.hid (fun W=>qms k W);rw [hk]at c3;clear hE hk;have hw:=Lib.hid (wrap64_u x h0 h1);generalize Pr.fitsB k k x t.data.toList (n1+n2+n3+n4)=R at hE' ⊢;generalize decide (n1+n2+n3+n4=0)=bl at c2 hE';generalize Pr.isK k=bi at c1 hE';by_cases ht:t.data.toList=[]
 ·have ht1:t.toList=[]:=by rw [ByteArray.toList_eq];exact ht
  rw [decide_eq_true ht]at hE';clear ht
  go_enter Tryz.func132,Tryz.ntmps132
  go_wp2_with (first
   | (go_at_call 144;(with_reducible refine(c1.out _).mono ?_);rintro e w' ⟨rfl,rfl⟩)
   | (go_at_call 145;(with_reducible refine(c2.out _).mono ?_);rintro e w1 ⟨rfl,hb1⟩;obtain⟨hc1,hf1⟩:=bcell hb1;have hz1:=hb1.size;(try simp at hz1);(try have hx1:w.heap.size+1<w1.heap.size:=by omega);(try have hy1:w.heap.size<w1.heap.size:=by omega))
   | (go_at_call 146;(with_reducible refine(c3.out _).mono ?_);rintro e w' ⟨rfl,rfl⟩))
  all_goals go_ret
  all_goals refine⟨qa7 ?_,by(repeat (first|(with_reducible exact Below.refl _ _)|(with_reducible refine Below.drew ?_)|(with_reducible refine Below.bal ?_ _)|(with_reducible refine Below.setCell ?_ (by simp) _)|(with_reducible refine Below.link (by assumption) ?_)))⟩
  all_goals rw [hE'.out]
  all_goals (try simp only [beq_iff_eq,beq_eq_false_iff_ne,bne_iff_ne,bne_eq_false_iff_eq,ne_eq,Bool.not_eq_true]at *)
  all_goals (simp_all [Pr.withB])
  all_goals (have hw':=hw.out;first|omega|(rw [Bool.eq_iff_iff];simp;split at hw' <;> omega)|(split at hw' <;> omega))
 ·have ht1:t.toList ≠ []:=by rw [ByteArray.toList_eq];exact ht
  rw [decide_eq_false ht]at hE';have ht2:t.toList.isEmpty=false:=by rw [emp,decide_eq_false ht]
  clear ht
  go_enter Tryz.func132,Tryz.ntmps132
  go_wp2_with (first
   | (go_at_call 144;(with_reducible refine(c1.out _).mono ?_);rintro e w' ⟨rfl,rfl⟩)
   | (go_at_call 145;(with_reducible refine(c2.out _).mono ?_);rintro e w1 ⟨rfl,hb1⟩;obtain⟨hc1,hf1⟩:=bcell hb1;have hz1:=hb1.size;(try simp at hz1);(try have hx1:w.heap.size+1<w1.heap.size:=by omega);(try have hy1:w.heap.size<w1.heap.size:=by omega))
   | (go_at_call 146;(with_reducible refine(c3.out _).mono ?_);rintro e w' ⟨rfl,rfl⟩))
  all_goals go_ret
  all_goals refine⟨qa7 ?_,by(repeat (first|(with_reducible exact Below.refl _ _)|(with_reducible refine Below.drew ?_)|(with_reducible refine Below.bal ?_ _)|(with_reducible refine Below.setCell ?_ (by simp) _)|(with_reducible refine Below.link (by assumption) ?_)))⟩
  all_goals rw [hE'.out]
  all_goals simp_all
end
section
open Go.RowKit
theorem r4_Fits (kind k:Int) (x:Int) (t:ByteArray) (p1 p2 p3 p4:Option Addr) (n1 n2 n3 n4 q1 q2 q3 q4:Nat) (w:World) (h0:0<=x) (h1:x<18446744073709551616) (b1:n1<=140737488355328) (b2:n2<=140737488355328) (b3:n3<=140737488355328) (b4:n4<=140737488355328):Calls Tryz.prog 132 #[.int .i64 kind,.agg #[.int .i64 k,.int .u64 x,.string t,.slice p1 n1 q1,.slice p2 n2 q2,.slice p3 n3 q3,.slice p4 n4 q4]] w fun e w'=>e=.returned (.bool (Pr.fitsB kind k x t.data.toList (n1+n2+n3+n4)))/\Below w.heap.size w w':=by
 by_cases hk:k=kind
 ·subst hk
  cases ht:Pr.txt k
  ·exact ql3 k x t p1 p2 p3 p4 n1 n2 n3 n4 q1 q2 q3 q4 w h0 h1 ht
  ·exact ql2 k x t p1 p2 p3 p4 n1 n2 n3 n4 q1 q2 q3 q4 w ht (Lib.hid (fun W h=>qjw t t.data.toList W rfl (by omega)))
 ·exact qmt kind k x t p1 p2 p3 p4 n1 n2 n3 n4 q1 q2 q3 q4 w h0 h1 b1 b2 b3 b4 hk
end
section
open Go.RowKit Ck
theorem qeg {name:Str} (h:(Ck.find? name).isSome=true):name=[100,101,112,114,101,99,97,116,101,100] ∨ name=[100,111,99] ∨ name=[97,108,105,97,115] ∨ name=[115,105,110,99,101] ∨ name=[117,110,116,105,108] ∨ name=[109,105,110] ∨ name=[109,97,120] ∨ name=[108,101,110,103,116,104] ∨ name=[115,101,99,114,101,116] ∨ name=[105,100,101,109,112,111,116,101,110,116] ∨ name=[116,105,109,101,111,117,116] ∨ name=[114,111,117,116,101] ∨ name=[111,119,110,101,114]:=by
  unfold Ck.find? at h;rw [Option.isSome_map,List.find?_isSome]at h;obtain⟨r,hr,he⟩:=h;have he':r.1=name:=by simpa using he
  unfold Ck.known at hr;simp only [List.mem_cons,List.not_mem_nil,or_false]at hr;rcases hr with rfl|rfl|rfl|rfl|rfl|rfl|rfl|rfl|rfl|rfl|rfl|rfl|rfl <;> simp only at he' <;> subst he' <;> simp
theorem qh2 {name:Str} (h:Ck.find? name=none):qc0 name=0:=by unfold qc0;rw [h]
theorem kind_zero {name:Str}:qc0 name=0 ↔ Ck.find? name=none:=by
  constructor
  · intro h
    cases hf:Ck.find? name with
    | none=>rfl
    | some r=>
      exfalso;rcases qeg (by rw [hf];rfl)with rfl|rfl|rfl|rfl|rfl|rfl|rfl|rfl|rfl|rfl|rfl|rfl|rfl <;> exact absurd h (by decide)
  · exact qh2
theorem kind_not {name:Str} (h0 : ¬ name=[100,101,112,114,101,99,97,116,101,100]) (h1 : ¬ name=[100,111,99]) (h2 : ¬ name=[97,108,105,97,115]) (h3 : ¬ name=[115,105,110,99,101]) (h4 : ¬ name=[117,110,116,105,108]) (h5 : ¬ name=[109,105,110]) (h6 : ¬ name=[109,97,120]) (h7 : ¬ name=[108,101,110,103,116,104]) (h8 : ¬ name=[115,101,99,114,101,116]) (h9 : ¬ name=[105,100,101,109,112,111,116,101,110,116]) (h10 : ¬ name=[116,105,109,101,111,117,116]) (h11 : ¬ name=[114,111,117,116,101]) (h12 : ¬ name=[111,119,110,101,114]):qc0 name=0:=by
  refine qh2 ?_;cases hf:Ck.find? name with
  | none=>rfl
  | some r=>
    exfalso;rcases qeg (name:=name) (by rw [hf];rfl)with h|h|h|h|h|h|h|h|h|h|h|h|h
    · exact h0 h
    · exact h1 h
    · exact h2 h
    · exact h3 h
    · exact h4 h
    · exact h5 h
    · exact h6 h
    · exact h7 h
    · exact h8 h
    · exact h9 h
    · exact h10 h
    · exact h11 h
    · exact h12 h
def fitsT (m tg:Int):Bool:=decide (1<=tg/\tg<=6) && bitOf m tg
theorem qki (tg:Int):fitsT 126 tg=decide (1<=tg/\tg<=6):=by
  by_cases h:1<=tg/\tg<=6
  · have h6:tg=1 ∨ tg=2 ∨ tg=3 ∨ tg=4 ∨ tg=5 ∨ tg=6:=by omega
    rcases h6 with rfl|rfl|rfl|rfl|rfl|rfl <;> decide
  · unfold fitsT
    rw [decide_eq_false h,Bool.false_and]
    all_goals (symm;exact decide_eq_false (by omega))
theorem qje (tg:Int):fitsT 84 tg=decide (tg=2 ∨ tg=4 ∨ tg=6):=by
  by_cases h:1<=tg/\tg<=6
  · have h6:tg=1 ∨ tg=2 ∨ tg=3 ∨ tg=4 ∨ tg=5 ∨ tg=6:=by omega
    rcases h6 with rfl|rfl|rfl|rfl|rfl|rfl <;> decide
  · unfold fitsT
    rw [decide_eq_false h,Bool.false_and]
    all_goals (symm;exact decide_eq_false (by omega))
theorem qkh (tg:Int):fitsT 4 tg=decide (tg=2):=by
  by_cases h:1<=tg/\tg<=6
  · have h6:tg=1 ∨ tg=2 ∨ tg=3 ∨ tg=4 ∨ tg=5 ∨ tg=6:=by omega
    rcases h6 with rfl|rfl|rfl|rfl|rfl|rfl <;> decide
  · unfold fitsT
    rw [decide_eq_false h,Bool.false_and]
    all_goals (symm;exact decide_eq_false (by omega))
theorem qjf (tg:Int):fitsT 64 tg=decide (tg=6):=by
  by_cases h:1<=tg/\tg<=6
  · have h6:tg=1 ∨ tg=2 ∨ tg=3 ∨ tg=4 ∨ tg=5 ∨ tg=6:=by omega
    rcases h6 with rfl|rfl|rfl|rfl|rfl|rfl <;> decide
  · unfold fitsT
    rw [decide_eq_false h,Bool.false_and]
    all_goals (symm;exact decide_eq_false (by omega))
theorem fitsT_34 (tg:Int):fitsT 34 tg=decide (tg=1 ∨ tg=5):=by
  by_cases h:1<=tg/\tg<=6
  · have h6:tg=1 ∨ tg=2 ∨ tg=3 ∨ tg=4 ∨ tg=5 ∨ tg=6:=by omega
    rcases h6 with rfl|rfl|rfl|rfl|rfl|rfl <;> decide
  · unfold fitsT
    rw [decide_eq_false h,Bool.false_and]
    all_goals (symm;exact decide_eq_false (by omega))
theorem rk_Kind (l:Str) (w:World) :
    Calls Tryz.prog 148 #[.string (S l)] w fun e w'=>e=.returned (.int .i64 (qc0 l))/\w=w':=by
  have H:=Lib.hid (show(S l).toList=l by rw [ByteArray.toList_eq];rfl)
  go_enter Tryz.func148,Tryz.ntmps148
  go_wp2
  all_goals go_ret
  all_goals
    refine⟨qbj ?_,rfl⟩;simp only [H.out,beq_iff_eq,beq_eq_false_iff_ne,ne_eq]at *
    first
    | contradiction
    | (symm;apply kind_not <;> assumption)
    | (subst l;decide)
theorem rk_fits (l:Str) (tg:Int) (w:World) (hk:(Ck.find? l).isSome=true) :
    Calls Tryz.prog 149 #[.string (S l),.int .i64 tg] w fun e w'=>e=.returned (.bool (fitsT (qcy l).2 tg))/\w=w':=by
  have H:=Lib.hid (show(S l).toList=l by rw [ByteArray.toList_eq];rfl);have HK:=Lib.hid hk;clear hk
  go_enter Tryz.func149,Tryz.ntmps149
  go_wp2
  all_goals go_ret
  all_goals
    refine⟨qa7 ?_,rfl⟩;simp only [H.out,beq_iff_eq,beq_eq_false_iff_ne,ne_eq]at *
    first
    | contradiction
    | (subst l;(first|rw [show(qcy [100,101,112,114,101,99,97,116,101,100]).2=126 by decide,qki]|rw [show(qcy [100,111,99]).2=126 by decide,qki]);rw [Bool.eq_iff_iff];(try simp);(try omega);done)
    | (subst l;(first|rw [show(qcy [97,108,105,97,115]).2=84 by decide,qje]|rw [show(qcy [115,105,110,99,101]).2=84 by decide,qje]|rw [show(qcy [117,110,116,105,108]).2=84 by decide,qje]);rw [Bool.eq_iff_iff];(try simp);(try omega);done)
    | (subst l;(first|rw [show(qcy [109,105,110]).2=4 by decide,qkh]|rw [show(qcy [109,97,120]).2=4 by decide,qkh]|rw [show(qcy [108,101,110,103,116,104]).2=4 by decide,qkh]|rw [show(qcy [115,101,99,114,101,116]).2=4 by decide,qkh]);rw [Bool.eq_iff_iff];(try simp);(try omega);done)
    | (subst l;(first|rw [show(qcy [105,100,101,109,112,111,116,101,110,116]).2=64 by decide,qjf]|rw [show(qcy [116,105,109,101,111,117,116]).2=64 by decide,qjf]|rw [show(qcy [114,111,117,116,101]).2=64 by decide,qjf]);rw [Bool.eq_iff_iff];(try simp);(try omega);done)
    | (have ho:l=[111,119,110,101,114]:=(by rcases qeg HK.out with h|h|h|h|h|h|h|h|h|h|h|h|h <;> first|exact h|(exact absurd h (by assumption)))
       subst ho;rw [show(qcy [111,119,110,101,114]).2=34 by decide,fitsT_34];rw [Bool.eq_iff_iff];(try simp);(try omega);done)
end
section
open Go.RowKit Ck
theorem rk_Right (nm:Str) (nk nx:Int) (nt:Str) (p1 p2 p3 p4:Option Addr) (m1 m2 m3 m4 c1 c2 c3 c4:Nat) (w:World) (h0:0<=nx) (h1:nx<18446744073709551616) (b1:m1<=140737488355328) (b2:m2<=140737488355328) (b3:m3<=140737488355328) (b4:m4<=140737488355328) :
  Calls Tryz.prog 150 #[.agg #[.string (S nm),.int .i64 nk,.int .u64 nx,.string (S nt),.slice p1 m1 c1,.slice p2 m2 c2,.slice p3 m3 c3,.slice p4 m4 c4]] w fun e w'=>e=.returned (.bool (right ⟨nm,⟨nk,nx,nt,m1,m2,m3,m4⟩⟩))/\Below w.heap.size w w':=by
 have ck:=Lib.hid (fun W=>rk_Kind nm W);have cf':=Lib.hid (fun(kd:Int) W=>r4_Fits kd nk nx (S nt) p1 p2 p3 p4 m1 m2 m3 m4 c1 c2 c3 c4 W h0 h1 b1 b2 b3 b4);have hv':=Lib.hid (show right ⟨nm,⟨nk,nx,nt,m1,m2,m3,m4⟩⟩=(decide (qc0 nm ≠ 0) && Pr.fitsB (qc0 nm) nk nx nt (m1+m2+m3+m4))from rfl);generalize qc0 nm=K at ck hv';generalize right ⟨nm,⟨nk,nx,nt,m1,m2,m3,m4⟩⟩=R at hv' ⊢;by_cases hK:K=0
 ·have hKb:(K != 0)=false:=by rw [hK];rfl
  have hv2:=Lib.hid (show R=false by rw [hv'.out,decide_eq_false (not_not_intro hK)];rfl);clear hv' hK cf'
  go_enter Tryz.func150,Tryz.ntmps150
  go_wp2_with (go_at_call 148;(with_reducible refine(ck.out _).mono ?_);rintro e w1 ⟨rfl,rfl⟩)
  go_ret;exact⟨qa7 hv2.out.symm,Bel.out (by(repeat (first|(with_reducible assumption)|(with_reducible exact Bel.refl _)|(with_reducible refine Bel.drew ?_)|(with_reducible refine Bel.drewN ?_ _)|(with_reducible refine Bel.alloc ?_ _)|((with_reducible refine qbf ?_ ?hge);(case hge=>(first|omega|(simp;omega)))))))⟩
 ·have hKb:(K != 0)=true:=bne_iff_ne.2 hK
  by_cases hk:nk=K
  ·have hkb:(nk == K)=true:=by rw [hk];simp
   have hv2:=Lib.hid (show R=Pr.fitsB K nk nx nt (m1+m2+m3+m4)by rw [hv'.out,decide_eq_true hK,Bool.true_and]);have cf2:=cf'.out K;rw [qbi]at cf2;clear hv' hK hk cf';generalize Pr.fitsB K nk nx nt (m1+m2+m3+m4)=R2 at cf2 hv2;have cf3:=Lib.hid cf2;clear cf2
   go_enter Tryz.func150,Tryz.ntmps150
   go_wp2_with (first
    | (go_at_call 148;(with_reducible refine(ck.out _).mono ?_);rintro e w1 ⟨rfl,rfl⟩)
    | (go_at_call 132;(with_reducible refine(cf3.out _).mono ?_);rintro e w2 ⟨rfl,h2⟩;have k2:Bel w w2:=Bel.of (by(with_reducible repeat first|assumption|exact Bel.refl _|refine Bel.drew ?_|refine Bel.drewN ?_ _|refine Bel.alloc ?_ _)) h2;clear h2))
   go_ret;exact⟨qa7 hv2.out.symm,k2.out⟩
  ·have hkb:(nk == K)=false:=beq_eq_false_iff_ne.2 hk
   have hv2:=Lib.hid (show R=false by
    rw [hv'.out];unfold Pr.fitsB
    rw [decide_eq_false hk,Bool.and_false,Bool.false_and,Bool.false_and,Bool.false_and,Bool.false_and,Bool.and_false])
   clear hv' hK hk cf'
   go_enter Tryz.func150,Tryz.ntmps150
   go_wp2_with (go_at_call 148;(with_reducible refine(ck.out _).mono ?_);rintro e w1 ⟨rfl,rfl⟩)
   go_ret;exact⟨qa7 hv2.out.symm,Bel.out (by(repeat (first|(with_reducible assumption)|(with_reducible exact Bel.refl _)|(with_reducible refine Bel.drew ?_)|(with_reducible refine Bel.drewN ?_ _)|(with_reducible refine Bel.alloc ?_ _)|((with_reducible refine qbf ?_ ?hge);(case hge=>(first|omega|(simp;omega)))))))⟩
def qfx (l:List PNote) (k:Nat):Str:=if k=0 then []else match l[k-1]? with|some n=>n.name|none => []
theorem qlb (l:List PNote) (k:Nat) (n:PNote) (h:l[k]? = some n):qfx l (k+1)=n.name:=by
 unfold qfx;rw [if_neg (by omega),show k+1-1=k by omega,h]
theorem one_of (n:PNote) (tg:Int) (last:Str) (ok:Bool) (h:(Ck.find? n.name).isSome=true):qcz n tg last ok=if fitsT (qcy n.name).2 tg=false then 1 else if right n=false then 12 else if ok=true/\Ck.ltS n.name last=true then 11 else if ok=true/\n.name=last then 9 else 0:=by
 obtain⟨r,hr⟩:=Option.isSome_iff_exists.1 h;unfold qcz qcy;rw [hr];simp only [Option.getD_some]
 have he:(tg<1 ∨ 6<tg ∨ bitOf r.2 tg=false) ↔ fitsT r.2 tg=false:=by
  unfold fitsT;rw [Bool.and_eq_false_iff,decide_eq_false_iff_not];constructor
  ·rintro (h|h|h)
   ·exact .inl (by omega)
   ·exact .inl (by omega)
   ·exact .inr h
  ·rintro (h|h)
   ·omega
   ·exact .inr (.inr h)
 by_cases hf:fitsT r.2 tg=false
 ·rw [if_pos (he.2 hf),if_pos hf]
 ·rw [if_neg (fun h=>hf (he.1 h)),if_neg hf]
theorem go_step0 (tg:Int) (n:PNote) (r:List PNote) (last:Str) (ok:Bool) (h:qcz n tg last ok=0):qe5 tg (n :: r) last ok=qe5 tg r n.name true:=by
 show(if qcz n tg last ok=0 then qe5 tg r n.name true else qcz n tg last ok)=_
 rw [if_pos h]
theorem go_stepE (tg:Int) (n:PNote) (r:List PNote) (last:Str) (ok:Bool) {x:Int} (h:qcz n tg last ok=x) (hx:x ≠ 0):qe5 tg (n :: r) last ok=x:=by
 show(if qcz n tg last ok=0 then qe5 tg r n.name true else qcz n tg last ok)=_
 rw [if_neg (by rw [h];exact hx),h]
theorem rk_Check (v:Value) (l:List PNote) (tg:Int) (w:World) (hv:Notes w v l) :
  Calls Tryz.prog 134 #[v,.int .i64 tg] w fun e w'=>e=.returned (.int .i64 (qbb l tg))/\Below w.heap.size w w':=by
 obtain⟨p,c,rfl,hlen,hcap,hel⟩:=hv;by_cases h8:8<l.length
 ·have V:=Lib.hid (show qbb l tg=3 by unfold qbb;rw [if_pos h8])
  have h8':(8:Int)<(l.length:Int):=by omega
  clear hel
  go_enter Tryz.func134,Tryz.ntmps134
  go_wp2;go_ret
  exact⟨qbj V.out.symm,Below.refl _ _⟩
 ·have V:=Lib.hid (show qe5 tg (l.drop 0) (qfx l 0) (decide (0<0))=qbb l tg by unfold qbb;rw [if_neg h8];rfl)
  have h8' : ¬(8:Int)<(l.length:Int):=by omega
  have EL:=Lib.hid hel;clear hel;generalize qbb l tg=T at V
  go_enter Tryz.func134,Tryz.ntmps134
  go_wp2
  go_loopw [5] (fun i wr => ∃k:Nat,k<=l.length/\i=.int .i64 k/\Bel w wr/\Hid (qe5 tg (l.drop k) (qfx l k) (decide (0<k))=T)) (fun i _=>l.length-(intOf i).toNat)
  case atStart=>exact⟨0,by omega,rfl,Bel.refl _,V⟩
  case round=>
   obtain⟨k,hk,rfl,kw,hgo⟩:=hrel;by_cases hlt:k<l.length
   ·have hki:(k:Int)<(l.length:Int):=by omega
    have hk0:(0:Int)<=(k:Int):=by omega
    have hg:l[k]? = some l[k]:=List.getElem?_eq_getElem hlt;obtain⟨b,off,hp,hbs,vs,hce,nv,hvs,p1,p2,p3,p4,c1,c2,c3,c4,hnv,u0,u1,g1,g2,g3,g4⟩:=EL.out k _ hg
    have hprev:k=0 ∨ ∃(j:Nat) (pn:Str),k=j+1/\qfx l k=pn/\w.cell? ⟨b,off+j*8,none⟩=some (.string (S pn)):=by
     by_cases h0:k=0
     ·exact .inl h0
     ·right
      have hgp:l[k-1]? = some l[k-1]:=List.getElem?_eq_getElem (show k-1<l.length by omega);obtain⟨b9,off9,hp9,_,vs9,hce9,nv9,hvs9,_⟩:=EL.out (k-1) _ hgp;have hqq:=hp.symm.trans hp9;cases hqq;subst hvs9;have e9:=hce9 0 _ rfl;rw [Nat.add_zero]at e9;exact⟨k-1,l[k-1].name,by omega,by unfold qfx;rw [if_neg h0,hgp],e9⟩
    have hdr:l.drop k=l[k] :: l.drop (k+1):=List.drop_eq_getElem_cons hlt;have hls:=qlb l k _ hg;have GO:=Lib.hid (show qe5 tg (l[k] :: l.drop (k+1)) (qfx l k) (decide (0<k))=T by rw [←hdr];exact hgo.out);have HPV:=Lib.hid hprev;subst hp hvs hnv;clear hgo hdr hg hprev;generalize l[k]=n at *;obtain⟨nm,⟨nk,nx,nt,m1,m2,m3,m4⟩⟩:=n;have HLS:=Lib.hid (show qe5 tg (l.drop (k+1)) nm true=qe5 tg (l.drop (k+1)) (qfx l (k+1)) (decide (0<k+1))by rw [hls,decide_eq_true (Nat.succ_pos k)]);clear hls;have KS:=Lib.hid (fun W' (kq:Bel wr W')=>show W'.cell? ⟨b,off+k*8,none⟩=some (.string (S nm))/\W'.cell? ⟨b,off+k*8+1,none⟩=some (.int .i64 nk)/\W'.cell? ⟨b,off+k*8+2,none⟩=some (.int .u64 nx)/\W'.cell? ⟨b,off+k*8+3,none⟩=some (.string (S nt))/\W'.cell? ⟨b,off+k*8+4,none⟩=some (.slice p1 m1 c1)/\W'.cell? ⟨b,off+k*8+5,none⟩=some (.slice p2 m2 c2)/\W'.cell? ⟨b,off+k*8+6,none⟩=some (.slice p3 m3 c3)/\W'.cell? ⟨b,off+k*8+7,none⟩=some (.slice p4 m4 c4)from⟨(Bel.of kw kq.out).some (hce 0 _ rfl),(Bel.of kw kq.out).some (hce 1 _ rfl),(Bel.of kw kq.out).some (hce 2 _ rfl),(Bel.of kw kq.out).some (hce 3 _ rfl),(Bel.of kw kq.out).some (hce 4 _ rfl),(Bel.of kw kq.out).some (hce 5 _ rfl),(Bel.of kw kq.out).some (hce 6 _ rfl),(Bel.of kw kq.out).some (hce 7 _ rfl)⟩);obtain⟨e0,e1,e2,e3,e4,e5,e6,e7⟩:=KS.out _ (Bel.refl _);have CK:=Lib.hid (fun W=>rk_Kind nm W);have CR:=Lib.hid (fun W=>rk_Right nm nk nx nt p1 p2 p3 p4 m1 m2 m3 m4 c1 c2 c3 c4 W u0 u1 g1 g2 g3 g4);clear hce u0 u1 g1 g2 g3 g4;cases hf:(Ck.find? nm).isSome with
    | false=>
     have hfn:Ck.find? nm=none:=by cases h:Ck.find? nm with|none=>rfl|some r=>rw [h]at hf;cases hf
     have HE:=Lib.hid (show(8:Int)=T by rw [←GO.out];exact(go_stepE tg _ _ _ _ (by unfold qcz;simp only [hfn]) (by decide)).symm);rw [qh2 hfn]at CK;clear hf hfn
     go_wp2_with (go_at_call 148;(with_reducible refine(CK.out _).mono ?_);rintro e w1 ⟨rfl,rfl⟩)
     go_ret;exact⟨qbj HE.out,kw.out⟩
    | true=>
     have CF:=Lib.hid (fun W=>rk_fits nm tg W hf);have hone:=one_of ⟨nm,⟨nk,nx,nt,m1,m2,m3,m4⟩⟩ tg (qfx l k) (decide (0<k)) hf;simp only at hone;have hkn:qc0 nm ≠ 0:=fun h=>by rw [kind_zero.1 h]at hf;cases hf
     generalize qc0 nm=K at CK hkn;have q0:(K == 0)=false:=beq_eq_false_iff_ne.2 hkn;generalize fitsT (qcy nm).2 tg=FT at CF hone;generalize right ⟨nm,⟨nk,nx,nt,m1,m2,m3,m4⟩⟩=RT at CR hone;clear hkn hf;cases FT with
     | false=>
      rw [if_pos rfl]at hone;have HE:=Lib.hid (show(1:Int)=T by rw [←GO.out];exact(go_stepE tg _ _ _ _ hone (by decide)).symm);clear hone
      go_wp2_with (first
       | (go_at_call 148;(with_reducible refine(CK.out _).mono ?_);rintro e w1 ⟨rfl,rfl⟩)
       | (go_at_call 149;(with_reducible refine(CF.out _).mono ?_);rintro e w2 ⟨rfl,rfl⟩))
      go_ret;exact⟨qbj HE.out,kw.out⟩
     | true=>
      rw [if_neg (by simp)]at hone;cases RT with
      | false=>
       rw [if_pos rfl]at hone;have HE:=Lib.hid (show(12:Int)=T by rw [←GO.out];exact(go_stepE tg _ _ _ _ hone (by decide)).symm);clear hone
       go_wp2_with (first
        | (go_at_call 148;(with_reducible refine(CK.out _).mono ?_);rintro e w1 ⟨rfl,rfl⟩)
        | (go_at_call 149;(with_reducible refine(CF.out _).mono ?_);rintro e w2 ⟨rfl,rfl⟩)
        | (go_at_call 150;(with_reducible refine(CR.out _).mono ?_);rintro e w3 ⟨rfl,h3⟩;have k3:Bel wr w3:=Bel.of (Bel.refl _) h3;clear h3 e0 e1 e2 e3 e4 e5 e6 e7;obtain⟨e0,e1,e2,e3,e4,e5,e6,e7⟩:=KS.out _ k3))
       go_ret;exact⟨qbj HE.out,(Bel.of kw k3.out).out⟩
      | true=>
       rw [if_neg (by simp)]at hone
       go_upto_region 12 with(first
        | (go_at_call 148;(with_reducible refine(CK.out _).mono ?_);rintro e w1 ⟨rfl,rfl⟩)
        | (go_at_call 149;(with_reducible refine(CF.out _).mono ?_);rintro e w2 ⟨rfl,rfl⟩)
        | (go_at_call 150;(with_reducible refine(CR.out _).mono ?_);rintro e w3 ⟨rfl,h3⟩;have k3:Bel wr w3:=Bel.of (Bel.refl _) h3;clear h3 e0 e1 e2 e3 e4 e5 e6 e7;obtain⟨e0,e1,e2,e3,e4,e5,e6,e7⟩:=KS.out _ k3))
       clear CK CF CR;rcases HPV.out with h0|⟨j,pn,hkj,hla,hc9⟩
       ·have hk0n : ¬(0<k):=by omega
        rw [if_neg (fun h=>absurd (of_decide_eq_true h.1) hk0n),if_neg (fun h=>absurd (of_decide_eq_true h.1) hk0n)]at hone;have HN:=Lib.hid (show qe5 tg (l.drop (k+1)) (qfx l (k+1)) (decide (0<k+1))=T by rw [←HLS.out, ←GO.out,go_step0 tg _ _ _ _ hone]);clear hone h0;obtain⟨wd1,hwd1⟩ : ∃wd,wd=w3.drew:=⟨_,rfl⟩;have kd1:Bel wr wd1:=Bel.of k3 (by rw [hwd1];exact((Bel.refl _).drew:Bel w3 _):Bel w3 wd1).out;have HWD1:=Lib.hid hwd1;clear hwd1 e0 e1 e2 e3 e4 e5 e6 e7;obtain⟨e0,e1,e2,e3,e4,e5,e6,e7⟩:=KS.out _ kd1;refine qae 14 (by kernel_rfl) (by kernel_rfl) HWD1.out ?_
        (simp only [List.take_succ_cons,List.take_zero,List.drop_succ_cons,List.drop_zero]);(repeat (first|((with_reducible refine wpStill_step (fun K hK=>?_));go_simp;(with_reducible refine hK _ ?_);clear hK K)|((with_reducible refine qaf ?_ ?_);(with_unfolding_all rfl))));(with_reducible refine wpStill_nil ?_)
        go_upto_region 14 with(fail)
        obtain⟨wd2,hwd2⟩ : ∃wd,wd=wd1.drew:=⟨_,rfl⟩;have kd2:Bel wr wd2:=Bel.of kd1 (by rw [hwd2];exact((Bel.refl _).drew:Bel wd1 _):Bel wd1 wd2).out;have HWD2:=Lib.hid hwd2;clear hwd2 e0 e1 e2 e3 e4 e5 e6 e7;obtain⟨e0,e1,e2,e3,e4,e5,e6,e7⟩:=KS.out _ kd2;refine qae 14 (by kernel_rfl) (by kernel_rfl) HWD2.out ?_
        (simp only [List.take_succ_cons,List.take_zero,List.drop_succ_cons,List.drop_zero]);(repeat (first|((with_reducible refine wpStill_step (fun K hK=>?_));go_simp;(with_reducible refine hK _ ?_);clear hK K)|((with_reducible refine qaf ?_ ?_);(with_unfolding_all rfl))));(with_reducible refine wpStill_nil ?_)
        go_wp2;exact⟨⟨k+1,by omega,by go_num,Bel.of kw kd2.out,HN⟩,by simp [intOf];omega⟩
       ·have hk00:(0:Int)<(k:Int):=by omega
        have hk00n:0<k:=by omega
        have jw3:(k:Int)-1=(j:Int):=by omega
        have jw2:IntKind.i64.wrap (j:Int)=(j:Int):=wrap_small _ (by omega) (by omega);have jw:IntKind.i64.wrap ((k:Int)-1)=(j:Int):=by rw [jw3];exact jw2
        have j1:(j:Int)<(l.length:Int):=by omega
        have j0:(0:Int)<=(j:Int):=by omega
        have EP:=Lib.hid (kw.some hc9);rw [hla,decide_eq_true hk00n]at hone;rw [hla,decide_eq_true hk00n]at GO;clear hc9 hkj hla;cases hlt9:Ck.ltS nm pn with
        | true=>
         rw [if_pos ⟨rfl,hlt9⟩]at hone;have HE:=Lib.hid (show(11:Int)=T by rw [←GO.out];exact(go_stepE tg _ _ _ _ hone (by decide)).symm);have z1:Op.bytesLess (S nm).toList (S pn).toList=true:=by rw [qng];exact hlt9
         clear hone hlt9;obtain⟨wd1,hwd1⟩ : ∃wd,wd=w3.drew:=⟨_,rfl⟩;have kd1:Bel wr wd1:=Bel.of k3 (by rw [hwd1];exact((Bel.refl _).drew:Bel w3 _):Bel w3 wd1).out;have HWD1:=Lib.hid hwd1;clear hwd1 e0 e1 e2 e3 e4 e5 e6 e7;obtain⟨e0,e1,e2,e3,e4,e5,e6,e7⟩:=KS.out _ kd1;have ep:=kd1.some EP.out;refine qae 14 (by kernel_rfl) (by kernel_rfl) HWD1.out ?_
         (simp only [List.take_succ_cons,List.take_zero,List.drop_succ_cons,List.drop_zero]);(repeat (first|((with_reducible refine wpStill_step (fun K hK=>?_));go_simp;(with_reducible refine hK _ ?_);clear hK K)|((with_reducible refine qaf ?_ ?_);(with_unfolding_all rfl))));(with_reducible refine wpStill_nil ?_)
         go_wp2;go_ret
         exact⟨qbj HE.out,(Bel.of kw kd1.out).out⟩
        | false=>
         rw [if_neg (fun h=>by rw [hlt9]at h;cases h.2)]at hone;have z1:Op.bytesLess (S nm).toList (S pn).toList=false:=by rw [qng];exact hlt9
         by_cases he:nm=pn
         ·rw [if_pos ⟨rfl,he⟩]at hone
          have HE:=Lib.hid (show(9:Int)=T by rw [←GO.out];exact(go_stepE tg _ _ _ _ hone (by decide)).symm);have z2:((S nm).toList == (S pn).toList)=true:=by rw [eq_S];exact decide_eq_true he
          clear hone hlt9 he;obtain⟨wd1,hwd1⟩ : ∃wd,wd=w3.drew:=⟨_,rfl⟩;have kd1:Bel wr wd1:=Bel.of k3 (by rw [hwd1];exact((Bel.refl _).drew:Bel w3 _):Bel w3 wd1).out;have HWD1:=Lib.hid hwd1;clear hwd1 e0 e1 e2 e3 e4 e5 e6 e7;obtain⟨e0,e1,e2,e3,e4,e5,e6,e7⟩:=KS.out _ kd1;have ep:=kd1.some EP.out;refine qae 14 (by kernel_rfl) (by kernel_rfl) HWD1.out ?_
          (simp only [List.take_succ_cons,List.take_zero,List.drop_succ_cons,List.drop_zero]);(repeat (first|((with_reducible refine wpStill_step (fun K hK=>?_));go_simp;(with_reducible refine hK _ ?_);clear hK K)|((with_reducible refine qaf ?_ ?_);(with_unfolding_all rfl))));(with_reducible refine wpStill_nil ?_)
          go_upto_region 14 with(fail)
          obtain⟨wd2,hwd2⟩ : ∃wd,wd=wd1.drew:=⟨_,rfl⟩;have kd2:Bel wr wd2:=Bel.of kd1 (by rw [hwd2];exact((Bel.refl _).drew:Bel wd1 _):Bel wd1 wd2).out;have HWD2:=Lib.hid hwd2;clear hwd2 e0 e1 e2 e3 e4 e5 e6 e7 ep;obtain⟨e0,e1,e2,e3,e4,e5,e6,e7⟩:=KS.out _ kd2;have ep:=kd2.some EP.out;refine qae 14 (by kernel_rfl) (by kernel_rfl) HWD2.out ?_
          (simp only [List.take_succ_cons,List.take_zero,List.drop_succ_cons,List.drop_zero]);(repeat (first|((with_reducible refine wpStill_step (fun K hK=>?_));go_simp;(with_reducible refine hK _ ?_);clear hK K)|((with_reducible refine qaf ?_ ?_);(with_unfolding_all rfl))));(with_reducible refine wpStill_nil ?_)
          go_wp2;go_ret
          exact⟨qbj HE.out,(Bel.of kw kd2.out).out⟩
         ·rw [if_neg (fun h=>he h.2)]at hone
          have HN:=Lib.hid (show qe5 tg (l.drop (k+1)) (qfx l (k+1)) (decide (0<k+1))=T by rw [←HLS.out, ←GO.out,go_step0 tg _ _ _ _ hone]);have z2:((S nm).toList == (S pn).toList)=false:=by rw [eq_S];exact decide_eq_false he
          clear hone hlt9 he;obtain⟨wd1,hwd1⟩ : ∃wd,wd=w3.drew:=⟨_,rfl⟩;have kd1:Bel wr wd1:=Bel.of k3 (by rw [hwd1];exact((Bel.refl _).drew:Bel w3 _):Bel w3 wd1).out;have HWD1:=Lib.hid hwd1;clear hwd1 e0 e1 e2 e3 e4 e5 e6 e7;obtain⟨e0,e1,e2,e3,e4,e5,e6,e7⟩:=KS.out _ kd1;have ep:=kd1.some EP.out;refine qae 14 (by kernel_rfl) (by kernel_rfl) HWD1.out ?_
          (simp only [List.take_succ_cons,List.take_zero,List.drop_succ_cons,List.drop_zero]);(repeat (first|((with_reducible refine wpStill_step (fun K hK=>?_));go_simp;(with_reducible refine hK _ ?_);clear hK K)|((with_reducible refine qaf ?_ ?_);(with_unfolding_all rfl))));(with_reducible refine wpStill_nil ?_)
          go_upto_region 14 with(fail)
          obtain⟨wd2,hwd2⟩ : ∃wd,wd=wd1.drew:=⟨_,rfl⟩;have kd2:Bel wr wd2:=Bel.of kd1 (by rw [hwd2];exact((Bel.refl _).drew:Bel wd1 _):Bel wd1 wd2).out;have HWD2:=Lib.hid hwd2;clear hwd2 e0 e1 e2 e3 e4 e5 e6 e7 ep;obtain⟨e0,e1,e2,e3,e4,e5,e6,e7⟩:=KS.out _ kd2;have ep:=kd2.some EP.out;refine qae 14 (by kernel_rfl) (by kernel_rfl) HWD2.out ?_
          (simp only [List.take_succ_cons,List.take_zero,List.drop_succ_cons,List.drop_zero]);(repeat (first|((with_reducible refine wpStill_step (fun K hK=>?_));go_simp;(with_reducible refine hK _ ?_);clear hK K)|((with_reducible refine qaf ?_ ?_);(with_unfolding_all rfl))));(with_reducible refine wpStill_nil ?_)
          go_wp2;exact⟨⟨k+1,by omega,by go_num,Bel.of kw kd2.out,HN⟩,by simp [intOf];omega⟩
   ·have hki : ¬(k:Int)<(l.length:Int):=by omega
    have HE:=Lib.hid (show(0:Int)=T by
     have h:=hgo.out;rw [show k=l.length by omega,List.drop_length]at h
     rw [←h];rfl)
    clear hgo;go_wp2;go_ret;exact⟨qbj HE.out,kw.out⟩
theorem qgr (l:Str) (w:World) (hl:l.length<=1000000000) :
  Calls Tryz.prog 101 #[.string (S l)] w fun e w'=>e=.returned (.bool (qal l))/\Below w.heap.size w w':=by
 have c1:=Lib.hid (fun W=>qmm (S l) l W rfl (by rw [qbr];exact hl));cases hF:Id.isFull l with
 | false=>
  have HV:=Lib.hid (show qal l=false by unfold qal;rw [hF,Bool.false_and]);rw [hF]at c1
  go_enter Tryz.func101,Tryz.ntmps101
  go_wp2_with (go_at_call 127;(with_reducible refine(c1.out _).mono ?_);rintro e w1 ⟨rfl,rfl⟩)
  go_ret;exact⟨qa7 HV.out.symm,Below.refl _ _⟩
 | true=>
  have HV:=Lib.hid (show usG l=qal l from(qlk hF).symm);rw [hF]at c1;generalize qal l=T at HV;have hl120:l.length<=120:=by unfold Id.isFull at hF;simp only [Bool.and_eq_true,decide_eq_true_eq]at hF;exact hF.2
  have HFF:=Lib.hid hF;clear hF
  go_enter Tryz.func101,Tryz.ntmps101
  go_upto_region 3 with(go_at_call 127;(with_reducible refine(c1.out _).mono ?_);rintro e w1 ⟨rfl,rfl⟩)
  go_wp2
  go_loopw [0,3] (fun cu i wr => ∃(k:Nat) (cur:Str),i=.int .i64 k/\cu=.string (S cur)/\cur.length+k<=120/\Bel w wr/\Hid ((cur ≠ []->Id.isFull cur=true)/\usG cur=T)) (fun _ i _=>120-(intOf i).toNat)
  case atStart=>exact⟨0,l,rfl,rfl,by omega,Bel.refl _,Lib.hid ⟨fun _=>HFF.out,HV.out⟩⟩
  case round=>
   obtain⟨k,cur,rfl,rfl,hck,kw,hgo⟩:=hrel;by_cases hc:cur=[]
   ·have HE:=Lib.hid (show true=T by have h:=hgo.out.2;rw [hc]at h;exact h)
    have hq:((k:Int)<120) ∨ ¬((k:Int)<120):=by omega
    clear hgo hck;subst hc;have he:(S []).toList=[]:=qif [] rfl;have he2:(S []).toList.isEmpty=true:=by rw [he];rfl
    rcases hq with hq|hq
    all_goals
     go_wp2
     all_goals go_ret
     all_goals exact⟨qa7 HE.out,kw.out⟩
   ·have hF:=hgo.out.1 hc
    have hpos:0<cur.length:=by cases cur with|nil=>exact absurd rfl hc|cons a r=>simp
    have hk120:(k:Int)<120:=by omega
    have he:=qd0 cur hc;have he2:=qdc cur hc;have hst:=usG_full hF;obtain⟨f1,f2,f3⟩:=Id.full_split hF
    have hlen:(Id.splitL cur).1.length+(k+1)<=120:=by
     have h:=congrArg List.length f2;unfold Id.join at h;by_cases h0:(Id.splitL cur).1=[]
     ·rw [h0];simp only [List.length_nil];omega
     ·rw [if_neg h0]at h
      simp only [List.length_append,List.length_cons]at h;omega
    have cs:=Lib.hid (fun W=>qp8 (S cur) cur W rfl (by rw [qbr];omega));have cw:=Lib.hid (fun W=>qhp (S (Id.splitL cur).2) (Id.splitL cur).2 W rfl);have HG:=Lib.hid (show(!Id.isWord (Id.splitL cur).2 && usG (Id.splitL cur).1)=T by rw [←hst];exact hgo.out.2);have HF3:=Lib.hid f3;clear hst hgo f1 f2 f3 hF hc hck hpos;generalize (Id.splitL cur).1=c1' at *;generalize (Id.splitL cur).2=c2' at *;generalize Id.isWord c2'=Q at *;cases Q with
    | true=>
     have HE:=Lib.hid (show false=T by rw [←HG.out];rfl)
     go_wp2_with (first
      | (go_at_call 128;(with_reducible refine(cs.out _).mono ?_);rintro e w2 ⟨rfl,n2,rfl⟩)
      | (go_at_call 129;(with_reducible refine(cw.out _).mono ?_);rintro e w3 ⟨rfl,rfl⟩))
     go_ret;exact⟨qa7 HE.out,(Bel.drewN kw _).out⟩
    | false=>
     have HN:=Lib.hid (show(c1' ≠ []->Id.isFull c1'=true)/\usG c1'=T from⟨HF3.out,by rw [←HG.out];rfl⟩)
     go_wp2_with (first
      | (go_at_call 128;(with_reducible refine(cs.out _).mono ?_);rintro e w2 ⟨rfl,n2,rfl⟩)
      | (go_at_call 129;(with_reducible refine(cw.out _).mono ?_);rintro e w3 ⟨rfl,rfl⟩))
     exact⟨⟨k+1,c1',by go_num,rfl,hlen,Bel.drewN kw _,HN⟩,by simp [intOf];omega⟩
end
end Go.Proofs.YtaaneecceiefoaaGreatDoor
