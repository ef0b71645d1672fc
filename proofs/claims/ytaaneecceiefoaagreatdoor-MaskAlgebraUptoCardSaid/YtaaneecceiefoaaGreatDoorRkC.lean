import Derived.Test.YtaaneecceiefoaaGreatDoorOpen
import Derived.Test.YtaaneecceiefoaaGreatDoorCkOut
import Derived.Test.YtaaneecceiefoaaGreatDoorIdWord
import Derived.StillTailTactics
import Derived.Test.YtaaneecceiefoaaGreatDoorRkB
import Derived.Deep.DeepCutAuto
set_option maxRecDepth 100000
set_option maxHeartbeats 4000000
set_option linter.unusedVariables false
set_option linter.unusedSimpArgs false
namespace Go.Proofs.YtaaneecceiefoaaGreatDoor.Ck
def usG (cur:Str):Bool:=if cur=[]then true else !(Id.cut 46 cur).any Id.isWord
theorem usG_step {l:Str} (h:l ≠ []):usG l=(!Id.isWord (Id.splitL l).2 && usG (Id.splitL l).1) ∨ (Id.splitL l).1=[]/\(Id.lastDot l ≠ -1):=by
 rcases Id.lastDot_spec l with⟨e,hn⟩|⟨i,e,hi,h3,h4⟩
 ·left
  have hs:Id.splitL l=([],l):=by unfold Id.splitL;rw [if_pos e]
  rw [hs];unfold usG;rw [if_neg h,if_pos rfl,Id.cut_none 46 l hn];simp
 ·have hs:Id.splitL l=(l.take i,l.drop (i+1)):=by unfold Id.splitL;rw [if_neg (by omega),e];rfl
  by_cases ha:l.take i=[]
  ·right
   rw [hs];exact⟨ha,by omega⟩
  ·left
   have hl:=Id.split_at l i e hi h3
   have hn:(46:UInt8) ∉ l.drop (i+1):=by
    intro hm;obtain⟨j,hj⟩:=List.mem_iff_getElem?.1 hm;rw [List.getElem?_drop]at hj;exact h4 (i+1+j) (by omega) hj
   have hc:Id.cut 46 l=Id.cut 46 (l.take i) ++ [l.drop (i+1)]:=by
    conv=>lhs;rw [hl]
    exact Id.cut_append 46 _ hn _
   rw [hs];unfold usG;rw [if_neg h,if_neg ha,hc,List.any_append];simp only [List.any_cons,List.any_nil,Bool.or_false,Bool.not_or];exact Bool.and_comm _ _
theorem usG_full {l:Str} (h:Id.isFull l=true):usG l=(!Id.isWord (Id.splitL l).2 && usG (Id.splitL l).1):=by
 rcases usG_step (Id.isFull_ne h)with e|⟨e,hd⟩
 ·exact e
 ·exfalso
  -- an empty scope before a dot is no full name
  obtain⟨_,f2,_⟩:=Id.full_split h;rw [e]at f2;have hj:Id.join [] (Id.splitL l).2=(Id.splitL l).2:=by unfold Id.join;rw [if_pos rfl]
  rw [hj]at f2;rcases Id.lastDot_spec l with⟨e2,_⟩|⟨i,e2,hi,h3,_⟩
  ·exact hd e2
  ·have hs:Id.splitL l=(l.take i,l.drop (i+1)):=by unfold Id.splitL;rw [if_neg (by omega),e2];rfl
   rw [hs]at f2;have:=congrArg List.length f2;simp only [List.length_drop]at this;omega
theorem qjz {l:Str} (h:Id.isFull l=true):qaf l=usG l:=by
 unfold qaf usG;rw [h,if_neg (Id.isFull_ne h),Bool.true_and]
end Go.Proofs.YtaaneecceiefoaaGreatDoor.Ck
namespace Go.Proofs.YtaaneecceiefoaaGreatDoor
section
open Go.RowKit
theorem qbn (s:ByteArray) (i lo hi:Nat) (a b c:Int) (w:World) (ha:a=i) (hb:b=lo) (hc:c=hi) (hs:s.size<=1000000000) (hi1:i<=2000000000) :
  Calls Tryz.prog 157 #[.string s,.int .i64 a,.int .u8 b,.int .u8 c] w fun e w'=>e=.returned (.bool (Utf.btw s.data.toList i lo hi))/\w=w':=by
 subst ha hb hc
 go_enter Tryz.func157,Tryz.ntmps157
 go_wp2
 ·have h1:i<s.size:=by assumption
  have h2:lo<=s[i].toNat:=by assumption
  go_ret;exact⟨by simp [Utf.btw,get_l s i h1,h2],rfl⟩
 ·have h1:i<s.size:=by assumption
  have h2 : ¬ lo<=s[i].toNat:=by assumption
  go_ret;exact⟨by simp [Utf.btw,get_l s i h1,h2],rfl⟩
 ·have h1 : ¬ i<s.size:=by assumption
  go_ret;exact⟨by simp [Utf.btw,qld s i h1],rfl⟩
theorem tl_step (l:List UInt8) (i k n:Nat) (h:k<n):Utf.tl l (i+k) (n-k)=(Utf.btw l (i+k) 128 191 && Utf.tl l (i+(k+1)) (n-(k+1))):=by
 obtain⟨m,rfl⟩ : ∃m,n=k+1+m:=⟨n-(k+1),by omega⟩;rw [show k+1+m-k=m+1 from by omega,show k+1+m-(k+1)=m from by omega];rfl
theorem qeh (s:ByteArray) (i n:Nat) (a b:Int) (w:World) (ha:a=i) (hb:b=n) (hs:s.size<=1000000000) (hi:i<=1000000010) (hn:n<=10) :
  Calls Tryz.prog 156 #[.string s,.int .i64 a,.int .i64 b] w fun e w'=>e=.returned (.bool (Utf.tl s.data.toList i n))/\w=w':=by
 subst ha hb
 go_enter Tryz.func156,Tryz.ntmps156
 go_wp2
 go_loop [7] (fun v => ∃k:Nat,k<=n/\v=.int .i64 k/\Hid (Utf.tl s.data.toList (i+k) (n-k)=Utf.tl s.data.toList i n)) (fun v=>n-(intOf v).toNat)
 case atStart=>exact⟨0,by omega,rfl,rfl⟩
 case round=>
  obtain⟨k,hk,rfl,H⟩:=hrel;by_cases hlt:k<n
  ·have HS:=Lib.hid (tl_step s.data.toList i k n hlt)
   by_cases hb:Utf.btw s.data.toList (i+k) 128 191=true
   ·go_wp2_with (go_at_call 157;refine(qbn s (i+k) 128 191 _ _ _ _ (by omega) rfl rfl hs (by omega)).mono ?_;rintro e w' ⟨rfl,rfl⟩)
    go_round
    case rel=>exact⟨k+1,by omega,by go_num,Lib.hid (by rw [←H.out,HS.out,hb];rfl)⟩
    case measure=>simp [intOf];omega
   ·have hb':Utf.btw s.data.toList (i+k) 128 191=false:=by simpa using hb
    clear hb
    go_wp2_with (go_at_call 157;refine(qbn s (i+k) 128 191 _ _ _ _ (by omega) rfl rfl hs (by omega)).mono ?_;rintro e w' ⟨rfl,rfl⟩)
    go_ret;exact⟨by rw [←H.out,HS.out,hb'];rfl,rfl⟩
  ·go_wp2
   go_ret;have:k=n:=by omega
   subst this;exact⟨by rw [←H.out];simp [Utf.tl],rfl⟩
theorem qkm (s:ByteArray) (i:Nat) (a:Int) (w:World) (ha:a=i) (hs:s.size<=1000000000) (hi:i<s.size) :
  Calls Tryz.prog 151 #[.string s,.int .i64 a] w fun e w'=>e=.returned (.int .i64 (Utf.szAt s.data.toList i))/\w=w':=by
 subst ha;have hg:=Lib.hid (get_l s i hi)
 go_enter Tryz.func151,Tryz.ntmps151
 go_wp2_with (first
  | (go_at_call 157;refine(qbn s (i+1) 160 191 _ _ _ _ (by omega) (by omega) (by omega) hs (by omega)).mono ?_;rintro e w' ⟨rfl,rfl⟩)
  | (go_at_call 157;refine(qbn s (i+1) 128 159 _ _ _ _ (by omega) (by omega) (by omega) hs (by omega)).mono ?_;rintro e w' ⟨rfl,rfl⟩)
  | (go_at_call 157;refine(qbn s (i+1) 144 191 _ _ _ _ (by omega) (by omega) (by omega) hs (by omega)).mono ?_;rintro e w' ⟨rfl,rfl⟩)
  | (go_at_call 157;refine(qbn s (i+1) 128 143 _ _ _ _ (by omega) (by omega) (by omega) hs (by omega)).mono ?_;rintro e w' ⟨rfl,rfl⟩)
  | (go_at_call 156;refine(qeh s (i+1) 1 _ _ _ (by omega) (by omega) hs (by omega) (by omega)).mono ?_;rintro e w' ⟨rfl,rfl⟩)
  | (go_at_call 156;refine(qeh s (i+2) 1 _ _ _ (by omega) (by omega) hs (by omega) (by omega)).mono ?_;rintro e w' ⟨rfl,rfl⟩)
  | (go_at_call 156;refine(qeh s (i+1) 2 _ _ _ (by omega) (by omega) hs (by omega) (by omega)).mono ?_;rintro e w' ⟨rfl,rfl⟩)
  | (go_at_call 156;refine(qeh s (i+2) 2 _ _ _ (by omega) (by omega) hs (by omega) (by omega)).mono ?_;rintro e w' ⟨rfl,rfl⟩)
  | (go_at_call 156;refine(qeh s (i+1) 3 _ _ _ (by omega) (by omega) hs (by omega) (by omega)).mono ?_;rintro e w' ⟨rfl,rfl⟩))
 all_goals go_ret
 all_goals refine⟨qb2 ?_,rfl⟩
 all_goals simp only [Utf.szAt,hg.out]
 all_goals clear hg
 all_goals go_tidy
 all_goals grind
end
section
open Go.RowKit
theorem ref_Bad (s:ByteArray) (l:List UInt8) (w:World) (hl:s.data.toList=l) (hs:s.size<=1000000000) :
  Calls Tryz.prog 135 #[.string s] w fun e w'=>e=.returned (.int .i64 (Utf.bad l))/\w=w':=by
 have hn:=len_l s;have hnn:=Lib.hid hn;clear hn;subst hl
 go_enter Tryz.func135,Tryz.ntmps135
 go_wp2
 go_loop [3] (fun v => ∃k:Nat,k<=s.size/\v=.int .i64 k/\Hid (Utf.badS 0 k (s.data.toList.drop k)=Utf.bad s.data.toList)) (fun v=>s.size-(intOf v).toNat)
 case atStart=>exact⟨0,by omega,rfl,rfl⟩
 case round=>
  obtain⟨k,hk,rfl,H⟩:=hrel;by_cases hlt:k<s.size
  ·have HS:=Lib.hid (Utf.badS_step s.data.toList k (by rw [hnn.out];exact hlt))
   have hle := @Utf.szAt_lt s.data.toList k;rw [hnn.out]at hle;by_cases h0:Utf.szAt s.data.toList k=0
   ·have h0':((Utf.szAt s.data.toList k:Int) == 0)=true:=by simp [h0]
    have h0h:=Lib.hid h0;clear h0 hle
    go_wp2_with (go_at_call 151;refine(qkm s k _ _ (by omega) hs (by omega)).mono ?_;rintro e w' ⟨rfl,rfl⟩)
    go_ret;exact⟨qb2 (by rw [←H.out,HS.out,if_pos h0h.out]),rfl⟩
   ·have hle2:=hle h0
    have h0':((Utf.szAt s.data.toList k:Int) == 0)=false:=by simp [h0]
    have h0h:=Lib.hid h0;clear h0 hle
    go_wp2_with (go_at_call 151;refine(qkm s k _ _ (by omega) hs (by omega)).mono ?_;rintro e w' ⟨rfl,rfl⟩)
    go_round
    case rel=>exact⟨k+Utf.szAt s.data.toList k,by omega,by go_num,Lib.hid (by rw [←H.out,HS.out,if_neg h0h.out])⟩
    case measure=>have:=h0h.out;simp [intOf];omega
  ·go_wp2
   go_ret;exact⟨qb2 (by rw [←H.out,Utf.bad_end _ _ (by rw [hnn.out];omega)]),rfl⟩
theorem qib (s:ByteArray) (l:List UInt8) (w:World) (hl:s.data.toList=l) (hs:s.size<=1000000000) :
  Calls Tryz.prog 110 #[.string s] w fun e w'=>e=.returned (.bool (decide (Utf.bad l<0)))/\w=w':=by
 go_enter Tryz.func110,Tryz.ntmps110
 go_wp2_with (go_at_call 135;refine(ref_Bad s l _ hl hs).mono ?_;rintro e w' ⟨rfl,rfl⟩)
 go_ret;exact⟨rfl,rfl⟩
end
section
open Go.RowKit
theorem r4_Is (k:Int) (w:World):Calls Tryz.prog 144 #[.int .i64 k] w fun e w'=>e=.returned (.bool (Pr.isK k))/\w=w':=by
 go_enter Tryz.func144,Tryz.ntmps144
 go_wp2
 all_goals go_ret
 all_goals exact⟨qa4 (by rw [Bool.eq_iff_iff];simp [Pr.isK]at *;try omega),rfl⟩
theorem qks (k:Int) (w:World):Calls Tryz.prog 146 #[.int .i64 k] w fun e w'=>e=.returned (.bool (Pr.txt k))/\w=w':=by
 go_enter Tryz.func146,Tryz.ntmps146
 go_wp2
 all_goals go_ret
 all_goals exact⟨qa4 (by rw [Bool.eq_iff_iff];simp [Pr.txt]at *;try omega),rfl⟩
end
section
open Go.RowKit
theorem r4_Class (x:Int) (w:World) (h0:0<=x) (h1:x<18446744073709551616):Calls Tryz.prog 147 #[.int .u64 x] w fun e w'=>e=.returned (.int .i64 (Pr.cls x))/\w=w':=by
 go_enter Tryz.func147,Tryz.ntmps147
 go_wp2
 all_goals go_ret
 all_goals
  refine⟨qb2 ?_,rfl⟩
  try simp only [beq_iff_eq,beq_eq_false_iff_ne,bne_iff_ne,bne_eq_false_iff_eq,ne_eq]at *
  unfold Pr.cls
  (repeat' split) <;> omega
theorem r4_Norm (k x:Int) (t:ByteArray) (p1 p2 p3 p4:Option Addr) (n1 n2 n3 n4 q1 q2 q3 q4:Nat) (w:World) (h0:0<=x) (h1:x<18446744073709551616) (b1:n1<=140737488355328) (b2:n2<=140737488355328) (b3:n3<=140737488355328) (b4:n4<=140737488355328):Calls Tryz.prog 133 #[.agg #[.int .i64 k,.int .u64 x,.string t,.slice p1 n1 q1,.slice p2 n2 q2,.slice p3 n3 q3,.slice p4 n4 q4]] w fun e w'=>e=.returned (.agg #[.int .i64 k,.int .u64 (Pr.normB k x),.string t,.slice p1 n1 q1,.slice p2 n2 q2,.slice p3 n3 q3,.slice p4 n4 q4])/\Below w.heap.size w w':=by
 by_cases hk:k=6
 ·subst hk
  have c:=Lib.hid (fun W=>r4_Class x W h0 h1);by_cases hc:Pr.cls x=0
  ·have hn:Pr.normB 6 x=9221120237041090560:=if_pos ⟨rfl,hc⟩
   rw [hn];rw [hc]at c;clear hc hn
   go_enter Tryz.func133,Tryz.ntmps133
   go_wp2_with (first
    | (go_at_call 147;(with_reducible refine(c.out _).mono ?_);rintro e w' ⟨rfl,rfl⟩))
   exact bodyPost_ret (by simp [results,Tryz.results133,go_sem]) rfl ⟨rfl,((Below.refl _ _).bal _).bal _⟩
  ·have hn:Pr.normB 6 x=x:=if_neg (fun h=>hc h.2)
   have hc':(Pr.cls x == 0)=false:=beq_eq_false_iff_ne.2 hc;rw [hn];clear hc hn
   go_enter Tryz.func133,Tryz.ntmps133
   go_wp2_with (first
    | (go_at_call 147;(with_reducible refine(c.out _).mono ?_);rintro e w' ⟨rfl,rfl⟩))
   exact bodyPost_ret (by simp [results,Tryz.results133,go_sem]) rfl ⟨rfl,((Below.refl _ _).bal _).bal _⟩
 ·have hn:Pr.normB k x=x:=if_neg (fun h=>hk h.1)
  have hk':(k == 6)=false:=beq_eq_false_iff_ne.2 hk;rw [hn];clear hk hn
  go_enter Tryz.func133,Tryz.ntmps133
  go_wp2;exact bodyPost_ret (by simp [results,Tryz.results133,go_sem]) rfl ⟨rfl,((Below.refl _ _).bal _).bal _⟩
theorem r4_lone (k x:Int) (t:ByteArray) (p1 p2 p3 p4:Option Addr) (n1 n2 n3 n4 q1 q2 q3 q4:Nat) (w:World):Calls Tryz.prog 145 #[.agg #[.int .i64 k,.int .u64 x,.string t,.slice p1 n1 q1,.slice p2 n2 q2,.slice p3 n3 q3,.slice p4 n4 q4]] w fun e w'=>e=.returned (.bool (decide ((n1+n2+n3+n4)=0)))/\Below w.heap.size w w':=by
 go_enter Tryz.func145,Tryz.ntmps145
 go_wp2
 all_goals go_ret
 all_goals refine⟨qa4 ?_,by(repeat (first|(with_reducible exact Below.refl _ _)|(with_reducible refine Below.drew ?_)|(with_reducible refine Below.bal ?_ _)|(with_reducible refine Below.setCell ?_ (by simp) _)|(with_reducible refine Below.link (by assumption) ?_)))⟩
 all_goals rw [Bool.eq_iff_iff]
 all_goals simp_all
 all_goals try omega
end
section
open Go.RowKit
theorem qkt (kind k:Int) (x:Int) (t:ByteArray) (p1 p2 p3 p4:Option Addr) (n1 n2 n3 n4 q1 q2 q3 q4:Nat) (w:World) (h0:0<=x) (h1:x<18446744073709551616) (b1:n1<=140737488355328) (b2:n2<=140737488355328) (b3:n3<=140737488355328) (b4:n4<=140737488355328) (hk:k ≠ kind):Calls Tryz.prog 132 #[.int .i64 kind,.agg #[.int .i64 k,.int .u64 x,.string t,.slice p1 n1 q1,.slice p2 n2 q2,.slice p3 n3 q3,.slice p4 n4 q4]] w fun e w'=>e=.returned (.bool (Pr.fitsB kind k x t.data.toList (n1+n2+n3+n4)))/\Below w.heap.size w w':=by
 have e:Pr.fitsB kind k x t.data.toList (n1+n2+n3+n4)=false:=by unfold Pr.fitsB;rw [decide_eq_false hk];simp
 rw [e];have hk':(k != kind)=true:=bne_iff_ne.2 hk;have c1:=Lib.hid (fun W=>r4_Is kind W);generalize Pr.isK kind=bi at c1;clear hk e
 go_enter Tryz.func132,Tryz.ntmps132
 go_wp2_with (first
  | (go_at_call 144;(with_reducible refine(c1.out _).mono ?_);rintro e w' ⟨rfl,rfl⟩))
 all_goals go_ret
 all_goals exact⟨rfl,by(repeat (first|(with_reducible exact Below.refl _ _)|(with_reducible refine Below.drew ?_)|(with_reducible refine Below.bal ?_ _)|(with_reducible refine Below.setCell ?_ (by simp) _)|(with_reducible refine Below.link (by assumption) ?_)))⟩
theorem qjd (k:Int) (x:Int) (t:ByteArray) (p1 p2 p3 p4:Option Addr) (n1 n2 n3 n4 q1 q2 q3 q4:Nat) (w:World) (hk:Pr.txt k=true) (c4:Hid (∀W:World,t.size<=4096->Calls Tryz.prog 110 #[.string t] W fun e w'=>e=.returned (.bool (decide (Utf.bad t.data.toList<0)))/\W=w')): Calls Tryz.prog 132 #[.int .i64 k,.agg #[.int .i64 k,.int .u64 x,.string t,.slice p1 n1 q1,.slice p2 n2 q2,.slice p3 n3 q3,.slice p4 n4 q4]] w fun e w'=>e=.returned (.bool (Pr.fitsB k k x t.data.toList (n1+n2+n3+n4)))/\Below w.heap.size w w':=by
 have hE:=Pr.fits_ref k x t.data.toList (n1+n2+n3+n4);rw [if_pos hk,len_l]at hE;have hE':=Lib.hid hE;have c1:=Lib.hid (fun W=>r4_Is k W);have c2:=Lib.hid (fun W=>r4_lone k x t p1 p2 p3 p4 n1 n2 n3 n4 q1 q2 q3 q4 W);have c3:=Lib.hid (fun W=>qks k W);rw [hk]at c3;clear hE hk;generalize Pr.fitsB k k x t.data.toList (n1+n2+n3+n4)=R at hE' ⊢;generalize decide (n1+n2+n3+n4=0)=bl at c2 hE';generalize Pr.isK k=bi at c1 hE';generalize decide (Utf.bad t.data.toList<0)=bv at c4 hE'
 go_enter Tryz.func132,Tryz.ntmps132
 go_wp2_with (first
  | (go_at_call 144;(with_reducible refine(c1.out _).mono ?_);rintro e w' ⟨rfl,rfl⟩)
  | (go_at_call 145;(with_reducible refine(c2.out _).mono ?_);rintro e w1 ⟨rfl,hb1⟩;obtain⟨hc1,hf1⟩:=bcell hb1;have hz1:=hb1.size;(try simp at hz1);(try have hx1:w.heap.size+1<w1.heap.size:=by omega);(try have hy1:w.heap.size<w1.heap.size:=by omega))
  | (go_at_call 146;(with_reducible refine(c3.out _).mono ?_);rintro e w' ⟨rfl,rfl⟩)
  | (go_at_call 110;(with_reducible refine(c4.out _ (by omega)).mono ?_);rintro e w' ⟨rfl,rfl⟩))
 all_goals go_ret
 all_goals refine⟨qa4 ?_,by(repeat (first|(with_reducible exact Below.refl _ _)|(with_reducible refine Below.drew ?_)|(with_reducible refine Below.bal ?_ _)|(with_reducible refine Below.setCell ?_ (by simp) _)|(with_reducible refine Below.link (by assumption) ?_)))⟩
 all_goals rw [hE'.out]
 all_goals (try simp only [beq_iff_eq,beq_eq_false_iff_ne,bne_iff_ne,bne_eq_false_iff_eq,ne_eq,Bool.not_eq_true]at *)
 all_goals simp_all
 all_goals (first|omega|(intros;omega)|(cases bv <;> simp_all <;> omega))
theorem qje (k:Int) (x:Int) (t:ByteArray) (p1 p2 p3 p4:Option Addr) (n1 n2 n3 n4 q1 q2 q3 q4:Nat) (w:World) (h0:0<=x) (h1:x<18446744073709551616) (hk:Pr.txt k=false):Calls Tryz.prog 132 #[.int .i64 k,.agg #[.int .i64 k,.int .u64 x,.string t,.slice p1 n1 q1,.slice p2 n2 q2,.slice p3 n3 q3,.slice p4 n4 q4]] w fun e w'=>e=.returned (.bool (Pr.fitsB k k x t.data.toList (n1+n2+n3+n4)))/\Below w.heap.size w w':=by
 have hE:=Pr.fits_ref k x t.data.toList (n1+n2+n3+n4);rw [if_neg (by rw [hk];decide)]at hE;have hE':=Lib.hid hE;have c1:=Lib.hid (fun W=>r4_Is k W);have c2:=Lib.hid (fun W=>r4_lone k x t p1 p2 p3 p4 n1 n2 n3 n4 q1 q2 q3 q4 W);have c3:=Lib.hid (fun W=>qks k W);rw [hk]at c3;clear hE hk;have hw:=Lib.hid (wrap64_u x h0 h1);generalize Pr.fitsB k k x t.data.toList (n1+n2+n3+n4)=R at hE' ⊢;generalize decide (n1+n2+n3+n4=0)=bl at c2 hE';generalize Pr.isK k=bi at c1 hE';by_cases ht:t.data.toList=[]
 ·have ht1:t.toList=[]:=by rw [ByteArray.toList_eq];exact ht
  rw [decide_eq_true ht]at hE';clear ht
  go_enter Tryz.func132,Tryz.ntmps132
  go_wp2_with (first
   | (go_at_call 144;(with_reducible refine(c1.out _).mono ?_);rintro e w' ⟨rfl,rfl⟩)
   | (go_at_call 145;(with_reducible refine(c2.out _).mono ?_);rintro e w1 ⟨rfl,hb1⟩;obtain⟨hc1,hf1⟩:=bcell hb1;have hz1:=hb1.size;(try simp at hz1);(try have hx1:w.heap.size+1<w1.heap.size:=by omega);(try have hy1:w.heap.size<w1.heap.size:=by omega))
   | (go_at_call 146;(with_reducible refine(c3.out _).mono ?_);rintro e w' ⟨rfl,rfl⟩))
  all_goals go_ret
  all_goals refine⟨qa4 ?_,by(repeat (first|(with_reducible exact Below.refl _ _)|(with_reducible refine Below.drew ?_)|(with_reducible refine Below.bal ?_ _)|(with_reducible refine Below.setCell ?_ (by simp) _)|(with_reducible refine Below.link (by assumption) ?_)))⟩
  all_goals rw [hE'.out]
  all_goals (try simp only [beq_iff_eq,beq_eq_false_iff_ne,bne_iff_ne,bne_eq_false_iff_eq,ne_eq,Bool.not_eq_true]at *)
  all_goals (simp_all [Pr.withB])
  all_goals (have hw':=hw.out;first|omega|(rw [Bool.eq_iff_iff];simp;split at hw' <;> omega)|(split at hw' <;> omega))
 ·have ht1:t.toList ≠ []:=by rw [ByteArray.toList_eq];exact ht
  rw [decide_eq_false ht]at hE';have ht2:t.toList.isEmpty=false:=by rw [emp,decide_eq_false ht]
  clear ht
  go_enter Tryz.func132,Tryz.ntmps132
  go_wp2_with (first
   | (go_at_call 144;(with_reducible refine(c1.out _).mono ?_);rintro e w' ⟨rfl,rfl⟩)
   | (go_at_call 145;(with_reducible refine(c2.out _).mono ?_);rintro e w1 ⟨rfl,hb1⟩;obtain⟨hc1,hf1⟩:=bcell hb1;have hz1:=hb1.size;(try simp at hz1);(try have hx1:w.heap.size+1<w1.heap.size:=by omega);(try have hy1:w.heap.size<w1.heap.size:=by omega))
   | (go_at_call 146;(with_reducible refine(c3.out _).mono ?_);rintro e w' ⟨rfl,rfl⟩))
  all_goals go_ret
  all_goals refine⟨qa4 ?_,by(repeat (first|(with_reducible exact Below.refl _ _)|(with_reducible refine Below.drew ?_)|(with_reducible refine Below.bal ?_ _)|(with_reducible refine Below.setCell ?_ (by simp) _)|(with_reducible refine Below.link (by assumption) ?_)))⟩
  all_goals rw [hE'.out]
  all_goals simp_all
end
section
open Go.RowKit
theorem r4_Fits (kind k:Int) (x:Int) (t:ByteArray) (p1 p2 p3 p4:Option Addr) (n1 n2 n3 n4 q1 q2 q3 q4:Nat) (w:World) (h0:0<=x) (h1:x<18446744073709551616) (b1:n1<=140737488355328) (b2:n2<=140737488355328) (b3:n3<=140737488355328) (b4:n4<=140737488355328):Calls Tryz.prog 132 #[.int .i64 kind,.agg #[.int .i64 k,.int .u64 x,.string t,.slice p1 n1 q1,.slice p2 n2 q2,.slice p3 n3 q3,.slice p4 n4 q4]] w fun e w'=>e=.returned (.bool (Pr.fitsB kind k x t.data.toList (n1+n2+n3+n4)))/\Below w.heap.size w w':=by
 by_cases hk:k=kind
 ·subst hk
  cases ht:Pr.txt k
  ·exact qje k x t p1 p2 p3 p4 n1 n2 n3 n4 q1 q2 q3 q4 w h0 h1 ht
  ·exact qjd k x t p1 p2 p3 p4 n1 n2 n3 n4 q1 q2 q3 q4 w ht (Lib.hid (fun W h=>qib t t.data.toList W rfl (by omega)))
 ·exact qkt kind k x t p1 p2 p3 p4 n1 n2 n3 n4 q1 q2 q3 q4 w h0 h1 b1 b2 b3 b4 hk
end
section
open Go.RowKit Ck
theorem qdm {name:Str} (h:(Ck.find? name).isSome=true):name=[100,101,112,114,101,99,97,116,101,100] ∨ name=[100,111,99] ∨ name=[97,108,105,97,115] ∨ name=[115,105,110,99,101] ∨ name=[117,110,116,105,108] ∨ name=[109,105,110] ∨ name=[109,97,120] ∨ name=[108,101,110,103,116,104] ∨ name=[115,101,99,114,101,116] ∨ name=[105,100,101,109,112,111,116,101,110,116] ∨ name=[116,105,109,101,111,117,116] ∨ name=[114,111,117,116,101] ∨ name=[111,119,110,101,114]:=by
  unfold Ck.find? at h;rw [Option.isSome_map,List.find?_isSome]at h;obtain⟨r,hr,he⟩:=h;have he':r.1=name:=by simpa using he
  unfold Ck.known at hr;simp only [List.mem_cons,List.not_mem_nil,or_false]at hr;rcases hr with rfl|rfl|rfl|rfl|rfl|rfl|rfl|rfl|rfl|rfl|rfl|rfl|rfl <;> simp only at he' <;> subst he' <;> simp
theorem qfs {name:Str} (h:Ck.find? name=none):qbk name=0:=by unfold qbk;rw [h]
theorem kind_zero {name:Str}:qbk name=0 ↔ Ck.find? name=none:=by
  constructor
  · intro h
    cases hf:Ck.find? name with
    | none=>rfl
    | some r=>
      exfalso;rcases qdm (by rw [hf];rfl)with rfl|rfl|rfl|rfl|rfl|rfl|rfl|rfl|rfl|rfl|rfl|rfl|rfl <;> exact absurd h (by decide)
  · exact qfs
theorem kind_not {name:Str} (h0 : ¬ name=[100,101,112,114,101,99,97,116,101,100]) (h1 : ¬ name=[100,111,99]) (h2 : ¬ name=[97,108,105,97,115]) (h3 : ¬ name=[115,105,110,99,101]) (h4 : ¬ name=[117,110,116,105,108]) (h5 : ¬ name=[109,105,110]) (h6 : ¬ name=[109,97,120]) (h7 : ¬ name=[108,101,110,103,116,104]) (h8 : ¬ name=[115,101,99,114,101,116]) (h9 : ¬ name=[105,100,101,109,112,111,116,101,110,116]) (h10 : ¬ name=[116,105,109,101,111,117,116]) (h11 : ¬ name=[114,111,117,116,101]) (h12 : ¬ name=[111,119,110,101,114]):qbk name=0:=by
  refine qfs ?_;cases hf:Ck.find? name with
  | none=>rfl
  | some r=>
    exfalso;rcases qdm (name:=name) (by rw [hf];rfl)with h|h|h|h|h|h|h|h|h|h|h|h|h
    · exact h0 h
    · exact h1 h
    · exact h2 h
    · exact h3 h
    · exact h4 h
    · exact h5 h
    · exact h6 h
    · exact h7 h
    · exact h8 h
    · exact h9 h
    · exact h10 h
    · exact h11 h
    · exact h12 h
def fitsT (m tg:Int):Bool:=decide (1<=tg/\tg<=6) && bitOf m tg
theorem qiv (tg:Int):fitsT 126 tg=decide (1<=tg/\tg<=6):=by
  by_cases h:1<=tg/\tg<=6
  · have h6:tg=1 ∨ tg=2 ∨ tg=3 ∨ tg=4 ∨ tg=5 ∨ tg=6:=by omega
    rcases h6 with rfl|rfl|rfl|rfl|rfl|rfl <;> decide
  · unfold fitsT
    rw [decide_eq_false h,Bool.false_and]
    all_goals (symm;exact decide_eq_false (by omega))
theorem qhp (tg:Int):fitsT 84 tg=decide (tg=2 ∨ tg=4 ∨ tg=6):=by
  by_cases h:1<=tg/\tg<=6
  · have h6:tg=1 ∨ tg=2 ∨ tg=3 ∨ tg=4 ∨ tg=5 ∨ tg=6:=by omega
    rcases h6 with rfl|rfl|rfl|rfl|rfl|rfl <;> decide
  · unfold fitsT
    rw [decide_eq_false h,Bool.false_and]
    all_goals (symm;exact decide_eq_false (by omega))
theorem qiu (tg:Int):fitsT 4 tg=decide (tg=2):=by
  by_cases h:1<=tg/\tg<=6
  · have h6:tg=1 ∨ tg=2 ∨ tg=3 ∨ tg=4 ∨ tg=5 ∨ tg=6:=by omega
    rcases h6 with rfl|rfl|rfl|rfl|rfl|rfl <;> decide
  · unfold fitsT
    rw [decide_eq_false h,Bool.false_and]
    all_goals (symm;exact decide_eq_false (by omega))
theorem qhq (tg:Int):fitsT 64 tg=decide (tg=6):=by
  by_cases h:1<=tg/\tg<=6
  · have h6:tg=1 ∨ tg=2 ∨ tg=3 ∨ tg=4 ∨ tg=5 ∨ tg=6:=by omega
    rcases h6 with rfl|rfl|rfl|rfl|rfl|rfl <;> decide
  · unfold fitsT
    rw [decide_eq_false h,Bool.false_and]
    all_goals (symm;exact decide_eq_false (by omega))
theorem fitsT_34 (tg:Int):fitsT 34 tg=decide (tg=1 ∨ tg=5):=by
  by_cases h:1<=tg/\tg<=6
  · have h6:tg=1 ∨ tg=2 ∨ tg=3 ∨ tg=4 ∨ tg=5 ∨ tg=6:=by omega
    rcases h6 with rfl|rfl|rfl|rfl|rfl|rfl <;> decide
  · unfold fitsT
    rw [decide_eq_false h,Bool.false_and]
    all_goals (symm;exact decide_eq_false (by omega))
theorem rk_Kind (l:Str) (w:World) :
    Calls Tryz.prog 148 #[.string (S l)] w fun e w'=>e=.returned (.int .i64 (qbk l))/\w=w':=by
  have H:=Lib.hid (show(S l).toList=l by rw [ByteArray.toList_eq];rfl)
  go_enter Tryz.func148,Tryz.ntmps148
  go_wp2
  all_goals go_ret
  all_goals
    refine⟨qb2 ?_,rfl⟩;simp only [H.out,beq_iff_eq,beq_eq_false_iff_ne,ne_eq]at *
    first
    | contradiction
    | (symm;apply kind_not <;> assumption)
    | (subst l;decide)
theorem rk_fits (l:Str) (tg:Int) (w:World) (hk:(Ck.find? l).isSome=true) :
    Calls Tryz.prog 149 #[.string (S l),.int .i64 tg] w fun e w'=>e=.returned (.bool (fitsT (qcd l).2 tg))/\w=w':=by
  have H:=Lib.hid (show(S l).toList=l by rw [ByteArray.toList_eq];rfl);have HK:=Lib.hid hk;clear hk
  go_enter Tryz.func149,Tryz.ntmps149
  go_wp2
  all_goals go_ret
  all_goals
    refine⟨qa4 ?_,rfl⟩;simp only [H.out,beq_iff_eq,beq_eq_false_iff_ne,ne_eq]at *
    first
    | contradiction
    | (subst l;(first|rw [show(qcd [100,101,112,114,101,99,97,116,101,100]).2=126 by decide,qiv]|rw [show(qcd [100,111,99]).2=126 by decide,qiv]);rw [Bool.eq_iff_iff];(try simp);(try omega);done)
    | (subst l;(first|rw [show(qcd [97,108,105,97,115]).2=84 by decide,qhp]|rw [show(qcd [115,105,110,99,101]).2=84 by decide,qhp]|rw [show(qcd [117,110,116,105,108]).2=84 by decide,qhp]);rw [Bool.eq_iff_iff];(try simp);(try omega);done)
    | (subst l;(first|rw [show(qcd [109,105,110]).2=4 by decide,qiu]|rw [show(qcd [109,97,120]).2=4 by decide,qiu]|rw [show(qcd [108,101,110,103,116,104]).2=4 by decide,qiu]|rw [show(qcd [115,101,99,114,101,116]).2=4 by decide,qiu]);rw [Bool.eq_iff_iff];(try simp);(try omega);done)
    | (subst l;(first|rw [show(qcd [105,100,101,109,112,111,116,101,110,116]).2=64 by decide,qhq]|rw [show(qcd [116,105,109,101,111,117,116]).2=64 by decide,qhq]|rw [show(qcd [114,111,117,116,101]).2=64 by decide,qhq]);rw [Bool.eq_iff_iff];(try simp);(try omega);done)
    | (have ho:l=[111,119,110,101,114]:=(by rcases qdm HK.out with h|h|h|h|h|h|h|h|h|h|h|h|h <;> first|exact h|(exact absurd h (by assumption)))
       subst ho;rw [show(qcd [111,119,110,101,114]).2=34 by decide,fitsT_34];rw [Bool.eq_iff_iff];(try simp);(try omega);done)
end
end Go.Proofs.YtaaneecceiefoaaGreatDoor
