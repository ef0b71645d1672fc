import Derived.Test.YtgpjhibdongmbaaGreatDoorUtfDec
import Derived.Test.YtgpjhibdongmbaaGreatDoorIdWord
import Derived.StillTailTactics
import Derived.Test.YtgpjhibdongmbaaGreatDoorCkUse
import Derived.Test.YtgpjhibdongmbaaGreatDoorIdRef1
import Derived.Deep.DeepCutAuto
set_option maxRecDepth 100000
set_option maxHeartbeats 4000000
set_option linter.unusedVariables false
set_option linter.unusedSimpArgs false
namespace Go.Proofs.YtgpjhibdongmbaaGreatDoor
section
open Go.RowKit
theorem qbk (s:ByteArray) (i lo hi:Nat) (a b c:Int) (w:World) (ha:a=i) (hb:b=lo) (hc:c=hi) (hs:s.size<=1000000000) (hi1:i<=2000000000) :
  Calls Tryz.prog 196 #[.string s,.int .i64 a,.int .u8 b,.int .u8 c] w fun e w'=>e=.returned (.bool (Utf.btw s.data.toList i lo hi))/\w=w':=by
 subst ha hb hc
 go_enter Tryz.func196,Tryz.ntmps196
 go_wp2
 ·have h1:i<s.size:=by assumption
  have h2:lo<=s[i].toNat:=by assumption
  go_ret;exact⟨by simp [Utf.btw,get_l s i h1,h2],rfl⟩
 ·have h1:i<s.size:=by assumption
  have h2 : ¬ lo<=s[i].toNat:=by assumption
  go_ret;exact⟨by simp [Utf.btw,get_l s i h1,h2],rfl⟩
 ·have h1 : ¬ i<s.size:=by assumption
  go_ret;exact⟨by simp [Utf.btw,qku s i h1],rfl⟩
theorem tl_step (l:List UInt8) (i k n:Nat) (h:k<n):Utf.tl l (i+k) (n-k)=(Utf.btw l (i+k) 128 191 && Utf.tl l (i+(k+1)) (n-(k+1))):=by
 obtain⟨m,rfl⟩ : ∃m,n=k+1+m:=⟨n-(k+1),by omega⟩;rw [show k+1+m-k=m+1 from by omega,show k+1+m-(k+1)=m from by omega];rfl
theorem qdl (s:ByteArray) (i n:Nat) (a b:Int) (w:World) (ha:a=i) (hb:b=n) (hs:s.size<=1000000000) (hi:i<=1000000010) (hn:n<=10) :
  Calls Tryz.prog 195 #[.string s,.int .i64 a,.int .i64 b] w fun e w'=>e=.returned (.bool (Utf.tl s.data.toList i n))/\w=w':=by
 subst ha hb
 go_enter Tryz.func195,Tryz.ntmps195
 go_wp2
 go_loop [7] (fun v => ∃k:Nat,k<=n/\v=.int .i64 k/\Hid (Utf.tl s.data.toList (i+k) (n-k)=Utf.tl s.data.toList i n)) (fun v=>n-(intOf v).toNat)
 case atStart=>exact⟨0,by omega,rfl,rfl⟩
 case round=>
  obtain⟨k,hk,rfl,H⟩:=hrel;by_cases hlt:k<n
  ·have HS:=Lib.hid (tl_step s.data.toList i k n hlt)
   by_cases hb:Utf.btw s.data.toList (i+k) 128 191=true
   ·go_wp2_with (go_at_call 196;refine(qbk s (i+k) 128 191 _ _ _ _ (by omega) rfl rfl hs (by omega)).mono ?_;rintro e w' ⟨rfl,rfl⟩)
    go_round
    case rel=>exact⟨k+1,by omega,by go_num,Lib.hid (by rw [←H.out,HS.out,hb];rfl)⟩
    case measure=>simp [intOf];omega
   ·have hb':Utf.btw s.data.toList (i+k) 128 191=false:=by simpa using hb
    clear hb
    go_wp2_with (go_at_call 196;refine(qbk s (i+k) 128 191 _ _ _ _ (by omega) rfl rfl hs (by omega)).mono ?_;rintro e w' ⟨rfl,rfl⟩)
    go_ret;exact⟨by rw [←H.out,HS.out,hb'];rfl,rfl⟩
  ·go_wp2
   go_ret;have:k=n:=by omega
   subst this;exact⟨by rw [←H.out];simp [Utf.tl],rfl⟩
theorem qjv (s:ByteArray) (i:Nat) (a:Int) (w:World) (ha:a=i) (hs:s.size<=1000000000) (hi:i<s.size) :
  Calls Tryz.prog 164 #[.string s,.int .i64 a] w fun e w'=>e=.returned (.int .i64 (Utf.szAt s.data.toList i))/\w=w':=by
 subst ha;have hg:=Lib.hid (get_l s i hi)
 go_enter Tryz.func164,Tryz.ntmps164
 go_wp2_with (first
  | (go_at_call 196;refine(qbk s (i+1) 160 191 _ _ _ _ (by omega) (by omega) (by omega) hs (by omega)).mono ?_;rintro e w' ⟨rfl,rfl⟩)
  | (go_at_call 196;refine(qbk s (i+1) 128 159 _ _ _ _ (by omega) (by omega) (by omega) hs (by omega)).mono ?_;rintro e w' ⟨rfl,rfl⟩)
  | (go_at_call 196;refine(qbk s (i+1) 144 191 _ _ _ _ (by omega) (by omega) (by omega) hs (by omega)).mono ?_;rintro e w' ⟨rfl,rfl⟩)
  | (go_at_call 196;refine(qbk s (i+1) 128 143 _ _ _ _ (by omega) (by omega) (by omega) hs (by omega)).mono ?_;rintro e w' ⟨rfl,rfl⟩)
  | (go_at_call 195;refine(qdl s (i+1) 1 _ _ _ (by omega) (by omega) hs (by omega) (by omega)).mono ?_;rintro e w' ⟨rfl,rfl⟩)
  | (go_at_call 195;refine(qdl s (i+2) 1 _ _ _ (by omega) (by omega) hs (by omega) (by omega)).mono ?_;rintro e w' ⟨rfl,rfl⟩)
  | (go_at_call 195;refine(qdl s (i+1) 2 _ _ _ (by omega) (by omega) hs (by omega) (by omega)).mono ?_;rintro e w' ⟨rfl,rfl⟩)
  | (go_at_call 195;refine(qdl s (i+2) 2 _ _ _ (by omega) (by omega) hs (by omega) (by omega)).mono ?_;rintro e w' ⟨rfl,rfl⟩)
  | (go_at_call 195;refine(qdl s (i+1) 3 _ _ _ (by omega) (by omega) hs (by omega) (by omega)).mono ?_;rintro e w' ⟨rfl,rfl⟩))
 all_goals go_ret
 all_goals refine⟨qaf ?_,rfl⟩
 all_goals simp only [Utf.szAt,hg.out]
 all_goals clear hg
 all_goals go_tidy
 all_goals grind
end
section
open Go.RowKit
theorem ref_Bad (s:ByteArray) (l:List UInt8) (w:World) (hl:s.data.toList=l) (hs:s.size<=1000000000) :
  Calls Tryz.prog 168 #[.string s] w fun e w'=>e=.returned (.int .i64 (Utf.bad l))/\w=w':=by
 have hn:=len_l s;have hnn:=Lib.hid hn;clear hn;subst hl
 go_enter Tryz.func168,Tryz.ntmps168
 go_wp2
 go_loop [3] (fun v => ∃k:Nat,k<=s.size/\v=.int .i64 k/\Hid (Utf.badS 0 k (s.data.toList.drop k)=Utf.bad s.data.toList)) (fun v=>s.size-(intOf v).toNat)
 case atStart=>exact⟨0,by omega,rfl,rfl⟩
 case round=>
  obtain⟨k,hk,rfl,H⟩:=hrel;by_cases hlt:k<s.size
  ·have HS:=Lib.hid (Utf.badS_step s.data.toList k (by rw [hnn.out];exact hlt))
   have hle := @Utf.szAt_lt s.data.toList k;rw [hnn.out]at hle;by_cases h0:Utf.szAt s.data.toList k=0
   ·have h0':((Utf.szAt s.data.toList k:Int) == 0)=true:=by simp [h0]
    have h0h:=Lib.hid h0;clear h0 hle
    go_wp2_with (go_at_call 164;refine(qjv s k _ _ (by omega) hs (by omega)).mono ?_;rintro e w' ⟨rfl,rfl⟩)
    go_ret;exact⟨qaf (by rw [←H.out,HS.out,if_pos h0h.out]),rfl⟩
   ·have hle2:=hle h0
    have h0':((Utf.szAt s.data.toList k:Int) == 0)=false:=by simp [h0]
    have h0h:=Lib.hid h0;clear h0 hle
    go_wp2_with (go_at_call 164;refine(qjv s k _ _ (by omega) hs (by omega)).mono ?_;rintro e w' ⟨rfl,rfl⟩)
    go_round
    case rel=>exact⟨k+Utf.szAt s.data.toList k,by omega,by go_num,Lib.hid (by rw [←H.out,HS.out,if_neg h0h.out])⟩
    case measure=>have:=h0h.out;simp [intOf];omega
  ·go_wp2
   go_ret;exact⟨qaf (by rw [←H.out,Utf.bad_end _ _ (by rw [hnn.out];omega)]),rfl⟩
theorem qha (s:ByteArray) (l:List UInt8) (w:World) (hl:s.data.toList=l) (hs:s.size<=1000000000) :
  Calls Tryz.prog 108 #[.string s] w fun e w'=>e=.returned (.bool (decide (Utf.bad l<0)))/\w=w':=by
 go_enter Tryz.func108,Tryz.ntmps108
 go_wp2_with (go_at_call 168;refine(ref_Bad s l _ hl hs).mono ?_;rintro e w' ⟨rfl,rfl⟩)
 go_ret;exact⟨rfl,rfl⟩
end
section
open Go.RowKit
theorem r_isF (k:Int) (w:World):Calls Tryz.prog 72 #[.int .i64 k] w fun e w'=>e=.returned (.bool (Pr.isF k))/\w=w':=by
 go_enter Tryz.func72,Tryz.ntmps72
 go_wp2
 all_goals go_ret
 all_goals exact⟨qa3 (by rw [Bool.eq_iff_iff];simp [Pr.isF]at *;try omega),rfl⟩
theorem r_isK (k:Int) (w:World):Calls Tryz.prog 73 #[.int .i64 k] w fun e w'=>e=.returned (.bool (Pr.isK k))/\w=w':=by
 go_enter Tryz.func73,Tryz.ntmps73
 go_wp2
 all_goals go_ret
 all_goals exact⟨qa3 (by rw [Bool.eq_iff_iff];simp [Pr.isK]at *;try omega),rfl⟩
theorem r_sgn (k:Int) (w:World):Calls Tryz.prog 76 #[.int .i64 k] w fun e w'=>e=.returned (.bool (Pr.sgn k))/\w=w':=by
 go_enter Tryz.func76,Tryz.ntmps76
 go_wp2
 all_goals go_ret
 all_goals exact⟨qa3 (by rw [Bool.eq_iff_iff];simp [Pr.sgn]at *;try omega),rfl⟩
theorem r4_Is (k:Int) (w:World):Calls Tryz.prog 161 #[.int .i64 k] w fun e w'=>e=.returned (.bool (Pr.isK k))/\w=w':=by
 go_enter Tryz.func161,Tryz.ntmps161
 go_wp2
 all_goals go_ret
 all_goals exact⟨qa3 (by rw [Bool.eq_iff_iff];simp [Pr.isK]at *;try omega),rfl⟩
theorem qjz (k:Int) (w:World):Calls Tryz.prog 163 #[.int .i64 k] w fun e w'=>e=.returned (.bool (Pr.txt k))/\w=w':=by
 go_enter Tryz.func163,Tryz.ntmps163
 go_wp2
 all_goals go_ret
 all_goals exact⟨qa3 (by rw [Bool.eq_iff_iff];simp [Pr.txt]at *;try omega),rfl⟩
theorem r_int (k:Int) (w:World):Calls Tryz.prog 74 #[.int .i64 k] w fun e w'=>e=.returned (.bool (decide (k=2 ∨ k=3 ∨ k=4 ∨ k=5)))/\w=w':=by
 go_enter Tryz.func74,Tryz.ntmps74
 go_wp2
 all_goals go_ret
 all_goals exact⟨qa3 (by rw [Bool.eq_iff_iff];simp at *;try omega),rfl⟩
theorem r_great (k:Int) (w:World):Calls Tryz.prog 75 #[.int .i64 k] w fun e w'=>e=.returned (.int .u64 (Pr.great k))/\w=w':=by
 go_enter Tryz.func75,Tryz.ntmps75
 go_wp2
 all_goals go_ret
 all_goals exact⟨qaf (by simp only [beq_iff_eq,beq_eq_false_iff_ne,ne_eq]at *;simp [Pr.great, *]),rfl⟩
theorem r_within (a b:Int) (w:World):Calls Tryz.prog 47 #[.int .i64 a,.int .i64 b] w fun e w'=>e=.returned (.bool (Pr.inR a b))/\w=w':=by
 have hv:=Lib.hid (show Pr.inR a b=decide (Pr.great a<=Pr.great b/\(Pr.sgn a=false ∨ Pr.sgn b=true))from rfl);have c1:=Lib.hid (fun W=>r_great a W);have c2:=Lib.hid (fun W=>r_great b W);have c3:=Lib.hid (fun W=>r_sgn a W);have c4:=Lib.hid (fun W=>r_sgn b W);generalize Pr.inR a b=R at hv ⊢;generalize Pr.great a=ga at c1 hv;generalize Pr.great b=gb at c2 hv;generalize Pr.sgn a=sa at c3 hv;generalize Pr.sgn b=sb at c4 hv
 go_enter Tryz.func47,Tryz.ntmps47
 go_wp2_with (first
  | (go_at_call 75;(with_reducible refine(c1.out _).mono ?_);rintro e w' ⟨rfl,rfl⟩)
  | (go_at_call 75;(with_reducible refine(c2.out _).mono ?_);rintro e w' ⟨rfl,rfl⟩)
  | (go_at_call 76;(with_reducible refine(c3.out _).mono ?_);rintro e w' ⟨rfl,rfl⟩)
  | (go_at_call 76;(with_reducible refine(c4.out _).mono ?_);rintro e w' ⟨rfl,rfl⟩))
 all_goals go_ret
 all_goals refine⟨qa3 ?_,rfl⟩
 all_goals rw [hv.out,Bool.eq_iff_iff]
 all_goals (simp_all;try omega)
theorem qjy (f k:Int) (w:World):Calls Tryz.prog 46 #[.int .i64 f,.int .i64 k] w fun e w'=>e=.returned (.int .i64 (Pr.fam f k))/\w=w':=by
 rw [←Pr.famR_eq]
 have hv:=Lib.hid (show Pr.famR f k=(if Pr.isF f=false ∨ Pr.isK k=false then 0
 else if k=8/\f ≠ 4 then 7
 else if f=1 then(if k=4 ∨ k=5 ∨ k=9 then 1 else if k=3 then 2 else k)
 else if(k=2 ∨ k=3 ∨ k=4 ∨ k=5) ∨ (k=9/\f=2)then 2 else k)from rfl)
 have c1:=Lib.hid (fun W=>r_isF f W);have c2:=Lib.hid (fun W=>r_isK k W);generalize Pr.famR f k=R at hv ⊢;generalize Pr.isF f=bf at c1 hv;generalize Pr.isK k=bk at c2 hv
 go_enter Tryz.func46,Tryz.ntmps46
 go_wp2_with (first
  | (go_at_call 72;(with_reducible refine(c1.out _).mono ?_);rintro e w' ⟨rfl,rfl⟩)
  | (go_at_call 73;(with_reducible refine(c2.out _).mono ?_);rintro e w' ⟨rfl,rfl⟩)
  | (go_at_call 74;(with_reducible refine(r_int _ _).mono ?_);rintro e w' ⟨rfl,rfl⟩))
 all_goals go_ret
 all_goals refine⟨qaf ?_,rfl⟩
 all_goals rw [hv.out]
 all_goals (simp only [beq_iff_eq,beq_eq_false_iff_ne,bne_iff_ne,bne_eq_false_iff_eq,ne_eq,Bool.not_eq_true]at *)
 all_goals simp_all
end
section
open Go.RowKit
theorem r_Level (f a b:Int) (w:World):Calls Tryz.prog 27 #[.int .i64 f,.int .i64 a,.int .i64 b] w fun e w'=>e=.returned (.int .i64 (Pr.lev f a b))/\w=w':=by
 rw [←Pr.levR_eq];have hv:=Lib.hid (show Pr.levR f a b=(if Pr.famR f a=0 ∨ Pr.famR f a ≠ Pr.famR f b then 0 else if a=b ∨ a=7 then 2 else if a=8 ∨ Pr.inR a b=false then 1 else 2)from rfl);rw [Pr.famR_eq,Pr.famR_eq]at hv;have c1:=Lib.hid (fun W=>qjy f a W);have c2:=Lib.hid (fun W=>qjy f b W);have c3:=Lib.hid (fun W=>r_within a b W);generalize Pr.levR f a b=R at hv ⊢;generalize Pr.fam f a=fa at c1 hv;generalize Pr.fam f b=fb at c2 hv;generalize Pr.inR a b=br at c3 hv
 go_enter Tryz.func27,Tryz.ntmps27
 go_wp2_with (first
  | (go_at_call 46;(with_reducible refine(c1.out _).mono ?_);rintro e w' ⟨rfl,rfl⟩)
  | (go_at_call 46;(with_reducible refine(c2.out _).mono ?_);rintro e w' ⟨rfl,rfl⟩)
  | (go_at_call 47;(with_reducible refine(c3.out _).mono ?_);rintro e w' ⟨rfl,rfl⟩))
 all_goals go_ret
 all_goals refine⟨qaf ?_,rfl⟩
 all_goals rw [hv.out]
 all_goals (simp only [beq_iff_eq,beq_eq_false_iff_ne,bne_iff_ne,bne_eq_false_iff_eq,ne_eq,Bool.not_eq_true]at *)
 all_goals simp_all
theorem r4_lone (k x:Int) (t:ByteArray) (p1 p2 p3 p4:Option Addr) (n1 n2 n3 n4 q1 q2 q3 q4:Nat) (w:World):Calls Tryz.prog 162 #[.agg #[.int .i64 k,.int .u64 x,.string t,.slice p1 n1 q1,.slice p2 n2 q2,.slice p3 n3 q3,.slice p4 n4 q4]] w fun e w'=>e=.returned (.bool (decide ((n1+n2+n3+n4)=0)))/\Below w.heap.size w w':=by
 go_enter Tryz.func162,Tryz.ntmps162
 go_wp2
 all_goals go_ret
 all_goals refine⟨qa3 ?_,by(repeat (first|(with_reducible exact Below.refl _ _)|(with_reducible refine Below.drew ?_)|(with_reducible refine Below.bal ?_ _)|(with_reducible refine Below.setCell ?_ (by simp) _)|(with_reducible refine Below.link (by assumption) ?_)))⟩
 all_goals rw [Bool.eq_iff_iff]
 all_goals simp_all
 all_goals try omega
end
section
open Go.RowKit
theorem qk0 (kind k:Int) (x:Int) (t:ByteArray) (p1 p2 p3 p4:Option Addr) (n1 n2 n3 n4 q1 q2 q3 q4:Nat) (w:World) (h0:0<=x) (h1:x<18446744073709551616) (b1:n1<=140737488355328) (b2:n2<=140737488355328) (b3:n3<=140737488355328) (b4:n4<=140737488355328) (hk:k ≠ kind):Calls Tryz.prog 95 #[.int .i64 kind,.agg #[.int .i64 k,.int .u64 x,.string t,.slice p1 n1 q1,.slice p2 n2 q2,.slice p3 n3 q3,.slice p4 n4 q4]] w fun e w'=>e=.returned (.bool (Pr.fitsB kind k x t.data.toList (n1+n2+n3+n4)))/\Below w.heap.size w w':=by
 have e:Pr.fitsB kind k x t.data.toList (n1+n2+n3+n4)=false:=by unfold Pr.fitsB;rw [decide_eq_false hk];simp
 rw [e];have hk':(k != kind)=true:=bne_iff_ne.2 hk;have c1:=Lib.hid (fun W=>r4_Is kind W);generalize Pr.isK kind=bi at c1;clear hk e
 go_enter Tryz.func95,Tryz.ntmps95
 go_wp2_with (first
  | (go_at_call 161;(with_reducible refine(c1.out _).mono ?_);rintro e w' ⟨rfl,rfl⟩))
 all_goals go_ret
 all_goals exact⟨rfl,by(repeat (first|(with_reducible exact Below.refl _ _)|(with_reducible refine Below.drew ?_)|(with_reducible refine Below.bal ?_ _)|(with_reducible refine Below.setCell ?_ (by simp) _)|(with_reducible refine Below.link (by assumption) ?_)))⟩
theorem qir (k:Int) (x:Int) (t:ByteArray) (p1 p2 p3 p4:Option Addr) (n1 n2 n3 n4 q1 q2 q3 q4:Nat) (w:World) (hk:Pr.txt k=true) (c4:Hid (∀W:World,t.size<=4096->Calls Tryz.prog 108 #[.string t] W fun e w'=>e=.returned (.bool (decide (Utf.bad t.data.toList<0)))/\W=w')): Calls Tryz.prog 95 #[.int .i64 k,.agg #[.int .i64 k,.int .u64 x,.string t,.slice p1 n1 q1,.slice p2 n2 q2,.slice p3 n3 q3,.slice p4 n4 q4]] w fun e w'=>e=.returned (.bool (Pr.fitsB k k x t.data.toList (n1+n2+n3+n4)))/\Below w.heap.size w w':=by
 have hE:=Pr.fits_ref k x t.data.toList (n1+n2+n3+n4);rw [if_pos hk,len_l]at hE;have hE':=Lib.hid hE;have c1:=Lib.hid (fun W=>r4_Is k W);have c2:=Lib.hid (fun W=>r4_lone k x t p1 p2 p3 p4 n1 n2 n3 n4 q1 q2 q3 q4 W);have c3:=Lib.hid (fun W=>qjz k W);rw [hk]at c3;clear hE hk;generalize Pr.fitsB k k x t.data.toList (n1+n2+n3+n4)=R at hE' ⊢;generalize decide (n1+n2+n3+n4=0)=bl at c2 hE';generalize Pr.isK k=bi at c1 hE';generalize decide (Utf.bad t.data.toList<0)=bv at c4 hE'
 go_enter Tryz.func95,Tryz.ntmps95
 go_wp2_with (first
  | (go_at_call 161;(with_reducible refine(c1.out _).mono ?_);rintro e w' ⟨rfl,rfl⟩)
  | (go_at_call 162;(with_reducible refine(c2.out _).mono ?_);rintro e w1 ⟨rfl,hb1⟩;obtain⟨hc1,hf1⟩:=bcell hb1;have hz1:=hb1.size;(try simp at hz1);(try have hx1:w.heap.size+1<w1.heap.size:=by omega);(try have hy1:w.heap.size<w1.heap.size:=by omega))
  | (go_at_call 163;(with_reducible refine(c3.out _).mono ?_);rintro e w' ⟨rfl,rfl⟩)
  | (go_at_call 108;(with_reducible refine(c4.out _ (by omega)).mono ?_);rintro e w' ⟨rfl,rfl⟩))
 all_goals go_ret
 all_goals refine⟨qa3 ?_,by(repeat (first|(with_reducible exact Below.refl _ _)|(with_reducible refine Below.drew ?_)|(with_reducible refine Below.bal ?_ _)|(with_reducible refine Below.setCell ?_ (by simp) _)|(with_reducible refine Below.link (by assumption) ?_)))⟩
 all_goals rw [hE'.out]
 all_goals (try simp only [beq_iff_eq,beq_eq_false_iff_ne,bne_iff_ne,bne_eq_false_iff_eq,ne_eq,Bool.not_eq_true]at *)
 all_goals simp_all
 all_goals (first|omega|(intros;omega)|(cases bv <;> simp_all <;> omega))
theorem qeb (k:Int) (x:Int) (t:ByteArray) (p1 p2 p3 p4:Option Addr) (n1 n2 n3 n4 q1 q2 q3 q4:Nat) (w:World) (h0:0<=x) (h1:x<18446744073709551616) (hk:Pr.txt k=false):Calls Tryz.prog 95 #[.int .i64 k,.agg #[.int .i64 k,.int .u64 x,.string t,.slice p1 n1 q1,.slice p2 n2 q2,.slice p3 n3 q3,.slice p4 n4 q4]] w fun e w'=>e=.returned (.bool (Pr.fitsB k k x t.data.toList (n1+n2+n3+n4)))/\Below w.heap.size w w':=by
 have hE:=Pr.fits_ref k x t.data.toList (n1+n2+n3+n4);rw [if_neg (by rw [hk];decide)]at hE;have hE':=Lib.hid hE;have c1:=Lib.hid (fun W=>r4_Is k W);have c2:=Lib.hid (fun W=>r4_lone k x t p1 p2 p3 p4 n1 n2 n3 n4 q1 q2 q3 q4 W);have c3:=Lib.hid (fun W=>qjz k W);rw [hk]at c3;clear hE hk;have hw:=Lib.hid (qj5 x h0 h1);generalize Pr.fitsB k k x t.data.toList (n1+n2+n3+n4)=R at hE' ⊢;generalize decide (n1+n2+n3+n4=0)=bl at c2 hE';generalize Pr.isK k=bi at c1 hE';by_cases ht:t.data.toList=[]
 ·have ht1:t.toList=[]:=by rw [ByteArray.toList_eq];exact ht
  rw [decide_eq_true ht]at hE';clear ht
  go_enter Tryz.func95,Tryz.ntmps95
  go_wp2_with (first
   | (go_at_call 161;(with_reducible refine(c1.out _).mono ?_);rintro e w' ⟨rfl,rfl⟩)
   | (go_at_call 162;(with_reducible refine(c2.out _).mono ?_);rintro e w1 ⟨rfl,hb1⟩;obtain⟨hc1,hf1⟩:=bcell hb1;have hz1:=hb1.size;(try simp at hz1);(try have hx1:w.heap.size+1<w1.heap.size:=by omega);(try have hy1:w.heap.size<w1.heap.size:=by omega))
   | (go_at_call 163;(with_reducible refine(c3.out _).mono ?_);rintro e w' ⟨rfl,rfl⟩))
  all_goals go_ret
  all_goals refine⟨qa3 ?_,by(repeat (first|(with_reducible exact Below.refl _ _)|(with_reducible refine Below.drew ?_)|(with_reducible refine Below.bal ?_ _)|(with_reducible refine Below.setCell ?_ (by simp) _)|(with_reducible refine Below.link (by assumption) ?_)))⟩
  all_goals rw [hE'.out]
  all_goals (try simp only [beq_iff_eq,beq_eq_false_iff_ne,bne_iff_ne,bne_eq_false_iff_eq,ne_eq,Bool.not_eq_true]at *)
  all_goals (simp_all [Pr.withB])
  all_goals (have hw':=hw.out;first|omega|(rw [Bool.eq_iff_iff];simp;split at hw' <;> omega)|(split at hw' <;> omega))
 ·have ht1:t.toList ≠ []:=by rw [ByteArray.toList_eq];exact ht
  rw [decide_eq_false ht]at hE';have ht2:t.toList.isEmpty=false:=by rw [emp,decide_eq_false ht]
  clear ht
  go_enter Tryz.func95,Tryz.ntmps95
  go_wp2_with (first
   | (go_at_call 161;(with_reducible refine(c1.out _).mono ?_);rintro e w' ⟨rfl,rfl⟩)
   | (go_at_call 162;(with_reducible refine(c2.out _).mono ?_);rintro e w1 ⟨rfl,hb1⟩;obtain⟨hc1,hf1⟩:=bcell hb1;have hz1:=hb1.size;(try simp at hz1);(try have hx1:w.heap.size+1<w1.heap.size:=by omega);(try have hy1:w.heap.size<w1.heap.size:=by omega))
   | (go_at_call 163;(with_reducible refine(c3.out _).mono ?_);rintro e w' ⟨rfl,rfl⟩))
  all_goals go_ret
  all_goals refine⟨qa3 ?_,by(repeat (first|(with_reducible exact Below.refl _ _)|(with_reducible refine Below.drew ?_)|(with_reducible refine Below.bal ?_ _)|(with_reducible refine Below.setCell ?_ (by simp) _)|(with_reducible refine Below.link (by assumption) ?_)))⟩
  all_goals rw [hE'.out]
  all_goals simp_all
end
section
open Go.RowKit
theorem r4_Fits (kind k:Int) (x:Int) (t:ByteArray) (p1 p2 p3 p4:Option Addr) (n1 n2 n3 n4 q1 q2 q3 q4:Nat) (w:World) (h0:0<=x) (h1:x<18446744073709551616) (b1:n1<=140737488355328) (b2:n2<=140737488355328) (b3:n3<=140737488355328) (b4:n4<=140737488355328):Calls Tryz.prog 95 #[.int .i64 kind,.agg #[.int .i64 k,.int .u64 x,.string t,.slice p1 n1 q1,.slice p2 n2 q2,.slice p3 n3 q3,.slice p4 n4 q4]] w fun e w'=>e=.returned (.bool (Pr.fitsB kind k x t.data.toList (n1+n2+n3+n4)))/\Below w.heap.size w w':=by
 by_cases hk:k=kind
 ·subst hk
  cases ht:Pr.txt k
  ·exact qeb k x t p1 p2 p3 p4 n1 n2 n3 n4 q1 q2 q3 q4 w h0 h1 ht
  ·exact qir k x t p1 p2 p3 p4 n1 n2 n3 n4 q1 q2 q3 q4 w ht (Lib.hid (fun W h=>qha t t.data.toList W rfl (by omega)))
 ·exact qk0 kind k x t p1 p2 p3 p4 n1 n2 n3 n4 q1 q2 q3 q4 w h0 h1 b1 b2 b3 b4 hk
end
section
open Go.RowKit Ck
theorem qcv {name:Str} (h:(Ck.find? name).isSome=true):name=[100,101,112,114,101,99,97,116,101,100] ∨ name=[100,111,99] ∨ name=[97,108,105,97,115] ∨ name=[115,105,110,99,101] ∨ name=[117,110,116,105,108] ∨ name=[109,105,110] ∨ name=[109,97,120] ∨ name=[108,101,110,103,116,104] ∨ name=[115,101,99,114,101,116] ∨ name=[105,100,101,109,112,111,116,101,110,116] ∨ name=[116,105,109,101,111,117,116] ∨ name=[114,111,117,116,101] ∨ name=[111,119,110,101,114]:=by
  unfold Ck.find? at h;rw [Option.isSome_map,List.find?_isSome]at h;obtain⟨r,hr,he⟩:=h;have he':r.1=name:=by simpa using he
  unfold Ck.known at hr;simp only [List.mem_cons,List.not_mem_nil,or_false]at hr;rcases hr with rfl|rfl|rfl|rfl|rfl|rfl|rfl|rfl|rfl|rfl|rfl|rfl|rfl <;> simp only at he' <;> subst he' <;> simp
theorem qf0 {name:Str} (h:Ck.find? name=none):qay name=0:=by unfold qay;rw [h]
theorem kind_zero {name:Str}:qay name=0 ↔ Ck.find? name=none:=by
  constructor
  · intro h
    cases hf:Ck.find? name with
    | none=>rfl
    | some r=>
      exfalso;rcases qcv (by rw [hf];rfl)with rfl|rfl|rfl|rfl|rfl|rfl|rfl|rfl|rfl|rfl|rfl|rfl|rfl <;> exact absurd h (by decide)
  · exact qf0
theorem kind_not {name:Str} (h0 : ¬ name=[100,101,112,114,101,99,97,116,101,100]) (h1 : ¬ name=[100,111,99]) (h2 : ¬ name=[97,108,105,97,115]) (h3 : ¬ name=[115,105,110,99,101]) (h4 : ¬ name=[117,110,116,105,108]) (h5 : ¬ name=[109,105,110]) (h6 : ¬ name=[109,97,120]) (h7 : ¬ name=[108,101,110,103,116,104]) (h8 : ¬ name=[115,101,99,114,101,116]) (h9 : ¬ name=[105,100,101,109,112,111,116,101,110,116]) (h10 : ¬ name=[116,105,109,101,111,117,116]) (h11 : ¬ name=[114,111,117,116,101]) (h12 : ¬ name=[111,119,110,101,114]):qay name=0:=by
  refine qf0 ?_;cases hf:Ck.find? name with
  | none=>rfl
  | some r=>
    exfalso;rcases qcv (name:=name) (by rw [hf];rfl)with h|h|h|h|h|h|h|h|h|h|h|h|h
    · exact h0 h
    · exact h1 h
    · exact h2 h
    · exact h3 h
    · exact h4 h
    · exact h5 h
    · exact h6 h
    · exact h7 h
    · exact h8 h
    · exact h9 h
    · exact h10 h
    · exact h11 h
    · exact h12 h
def fitsT (m tg:Int):Bool:=decide (1<=tg/\tg<=6) && bitOf m tg
theorem qi3 (tg:Int):fitsT 126 tg=decide (1<=tg/\tg<=6):=by
  by_cases h:1<=tg/\tg<=6
  · have h6:tg=1 ∨ tg=2 ∨ tg=3 ∨ tg=4 ∨ tg=5 ∨ tg=6:=by omega
    rcases h6 with rfl|rfl|rfl|rfl|rfl|rfl <;> decide
  · unfold fitsT
    rw [decide_eq_false h,Bool.false_and]
    all_goals (symm;exact decide_eq_false (by omega))
theorem qgl (tg:Int):fitsT 84 tg=decide (tg=2 ∨ tg=4 ∨ tg=6):=by
  by_cases h:1<=tg/\tg<=6
  · have h6:tg=1 ∨ tg=2 ∨ tg=3 ∨ tg=4 ∨ tg=5 ∨ tg=6:=by omega
    rcases h6 with rfl|rfl|rfl|rfl|rfl|rfl <;> decide
  · unfold fitsT
    rw [decide_eq_false h,Bool.false_and]
    all_goals (symm;exact decide_eq_false (by omega))
theorem qi2 (tg:Int):fitsT 4 tg=decide (tg=2):=by
  by_cases h:1<=tg/\tg<=6
  · have h6:tg=1 ∨ tg=2 ∨ tg=3 ∨ tg=4 ∨ tg=5 ∨ tg=6:=by omega
    rcases h6 with rfl|rfl|rfl|rfl|rfl|rfl <;> decide
  · unfold fitsT
    rw [decide_eq_false h,Bool.false_and]
    all_goals (symm;exact decide_eq_false (by omega))
theorem qgm (tg:Int):fitsT 64 tg=decide (tg=6):=by
  by_cases h:1<=tg/\tg<=6
  · have h6:tg=1 ∨ tg=2 ∨ tg=3 ∨ tg=4 ∨ tg=5 ∨ tg=6:=by omega
    rcases h6 with rfl|rfl|rfl|rfl|rfl|rfl <;> decide
  · unfold fitsT
    rw [decide_eq_false h,Bool.false_and]
    all_goals (symm;exact decide_eq_false (by omega))
theorem fitsT_34 (tg:Int):fitsT 34 tg=decide (tg=1 ∨ tg=5):=by
  by_cases h:1<=tg/\tg<=6
  · have h6:tg=1 ∨ tg=2 ∨ tg=3 ∨ tg=4 ∨ tg=5 ∨ tg=6:=by omega
    rcases h6 with rfl|rfl|rfl|rfl|rfl|rfl <;> decide
  · unfold fitsT
    rw [decide_eq_false h,Bool.false_and]
    all_goals (symm;exact decide_eq_false (by omega))
theorem rk_Kind (l:Str) (w:World) :
    Calls Tryz.prog 105 #[.string (S l)] w fun e w'=>e=.returned (.int .i64 (qay l))/\w=w':=by
  have H:=Lib.hid (show(S l).toList=l by rw [ByteArray.toList_eq];rfl)
  go_enter Tryz.func105,Tryz.ntmps105
  go_wp2
  all_goals go_ret
  all_goals
    refine⟨qaf ?_,rfl⟩;simp only [H.out,beq_iff_eq,beq_eq_false_iff_ne,ne_eq]at *
    first
    | contradiction
    | (symm;apply kind_not <;> assumption)
    | (subst l;decide)
theorem rk_fits (l:Str) (tg:Int) (w:World) (hk:(Ck.find? l).isSome=true) :
    Calls Tryz.prog 106 #[.string (S l),.int .i64 tg] w fun e w'=>e=.returned (.bool (fitsT (qaw l).2 tg))/\w=w':=by
  have H:=Lib.hid (show(S l).toList=l by rw [ByteArray.toList_eq];rfl);have HK:=Lib.hid hk;clear hk
  go_enter Tryz.func106,Tryz.ntmps106
  go_wp2
  all_goals go_ret
  all_goals
    refine⟨qa3 ?_,rfl⟩;simp only [H.out,beq_iff_eq,beq_eq_false_iff_ne,ne_eq]at *
    first
    | contradiction
    | (subst l;(first|rw [show(qaw [100,101,112,114,101,99,97,116,101,100]).2=126 by decide,qi3]|rw [show(qaw [100,111,99]).2=126 by decide,qi3]);rw [Bool.eq_iff_iff];(try simp);(try omega);done)
    | (subst l;(first|rw [show(qaw [97,108,105,97,115]).2=84 by decide,qgl]|rw [show(qaw [115,105,110,99,101]).2=84 by decide,qgl]|rw [show(qaw [117,110,116,105,108]).2=84 by decide,qgl]);rw [Bool.eq_iff_iff];(try simp);(try omega);done)
    | (subst l;(first|rw [show(qaw [109,105,110]).2=4 by decide,qi2]|rw [show(qaw [109,97,120]).2=4 by decide,qi2]|rw [show(qaw [108,101,110,103,116,104]).2=4 by decide,qi2]|rw [show(qaw [115,101,99,114,101,116]).2=4 by decide,qi2]);rw [Bool.eq_iff_iff];(try simp);(try omega);done)
    | (subst l;(first|rw [show(qaw [105,100,101,109,112,111,116,101,110,116]).2=64 by decide,qgm]|rw [show(qaw [116,105,109,101,111,117,116]).2=64 by decide,qgm]|rw [show(qaw [114,111,117,116,101]).2=64 by decide,qgm]);rw [Bool.eq_iff_iff];(try simp);(try omega);done)
    | (have ho:l=[111,119,110,101,114]:=(by rcases qcv HK.out with h|h|h|h|h|h|h|h|h|h|h|h|h <;> first|exact h|(exact absurd h (by assumption)))
       subst ho;rw [show(qaw [111,119,110,101,114]).2=34 by decide,fitsT_34];rw [Bool.eq_iff_iff];(try simp);(try omega);done)
end
end Go.Proofs.YtgpjhibdongmbaaGreatDoor
