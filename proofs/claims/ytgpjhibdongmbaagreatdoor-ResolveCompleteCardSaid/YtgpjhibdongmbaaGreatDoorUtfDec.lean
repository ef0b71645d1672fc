import GoSem.Core.Utf8
import Derived.Test.YtgpjhibdongmbaaGreatDoorRows
import Derived.WalkKit
import Derived.WalkSpells
import Derived.WalkLawsBesides
import Derived.Handy
import Derived.Lib.Hide
import Derived.Deep.QuietTactic
import Derived.BigQuiet
import Derived.Deep.Light
import Derived.Laws.RangeAny
set_option maxRecDepth 100000
set_option maxHeartbeats 4000000
set_option linter.unusedVariables false
set_option linter.unusedSimpArgs false
namespace Go.Proofs.YtgpjhibdongmbaaGreatDoor.Utf
def btw (l:List UInt8) (i lo hi:Nat):Bool:=match l[i]? with
 | some b=>decide (lo<=b.toNat) && decide (b.toNat<=hi)
 | none=>false
def tl (l:List UInt8) (i:Nat):Nat->Bool
 | 0=>true
 | n+1=>btw l i 128 191 && tl l (i+1) n
def szAt (l:List UInt8) (i:Nat):Nat:=match l[i]? with
 | none=>0
 | some u=>
  if u.toNat<128 then 1
  else if 194<=u.toNat/\u.toNat<=223/\tl l (i+1) 1=true then 2
  else if u.toNat=224/\btw l (i+1) 160 191=true/\tl l (i+2) 1=true then 3
  else if u.toNat=237/\btw l (i+1) 128 159=true/\tl l (i+2) 1=true then 3
  else if 225<=u.toNat/\u.toNat<=239/\u.toNat ≠ 237/\tl l (i+1) 2=true then 3
  else if u.toNat=240/\btw l (i+1) 144 191=true/\tl l (i+2) 2=true then 4
  else if 241<=u.toNat/\u.toNat<=243/\tl l (i+1) 3=true then 4
  else if u.toNat=244/\btw l (i+1) 128 143=true/\tl l (i+2) 2=true then 4
  else 0
def sz (l:List UInt8):Nat:=szAt l 0
theorem ql8 (l:List UInt8) (i k lo hi:Nat):btw (l.drop i) k lo hi=btw l (i+k) lo hi:=by
 simp [btw,List.getElem?_drop]
theorem tl_drop (l:List UInt8) (i n:Nat) : ∀k,tl (l.drop i) k n=tl l (i+k) n:=by
 induction n with
 | zero=>intro k;rfl
 | succ n ih=>intro k;simp [tl,ql8,ih,Nat.add_assoc]
theorem qln (l:List UInt8) (i k:Nat):szAt (l.drop i) k=szAt l (i+k):=by
 simp [szAt,List.getElem?_drop,ql8,tl_drop,Nat.add_assoc]
theorem sz_drop (l:List UInt8) (i:Nat):sz (l.drop i)=szAt l i:=by simp [sz,qln]
theorem btw_lt {l:List UInt8} {i lo hi:Nat} (h:btw l i lo hi=true):i<l.length:=by
 unfold btw at h;cases hl:l[i]? with
 | none=>simp [hl]at h
 | some b=>exact(List.getElem?_eq_some_iff.1 hl).1
theorem tl_lt {l:List UInt8} : ∀{n i:Nat},tl l i n=true->i+n<=l.length ∨ n=0:=by
 intro n
 induction n with
 | zero=>intro i _;exact .inr rfl
 | succ n ih=>
  intro i h;simp only [tl,Bool.and_eq_true]at h;have h1:=btw_lt h.1;rcases ih h.2 with h2|h2 <;> omega
theorem szAt_lt {l:List UInt8} {i:Nat}:szAt l i ≠ 0->i+szAt l i<=l.length:=by
 unfold szAt;cases hl:l[i]? with
 | none=>simp
 | some b=>
  have hi:i<l.length:=(List.getElem?_eq_some_iff.1 hl).1;simp only
  repeat' split
  all_goals intro h0
  ·omega
  ·rename_i h;have:=tl_lt h.2.2;omega
  ·rename_i h;have:=tl_lt h.2.2;omega
  ·rename_i h;have:=tl_lt h.2.2;omega
  ·rename_i h;have:=tl_lt h.2.2.2;omega
  ·rename_i h;have:=tl_lt h.2.2;omega
  ·rename_i h;have:=tl_lt h.2.2;omega
  ·rename_i h;have:=tl_lt h.2.2;omega
  ·omega
def badS:Nat->Nat->List UInt8->Int
 | _,_,[] => -1
 | k+1,i,_ :: t=>badS k (i+1) t
 | 0,i,b :: t=>if sz (b :: t)=0 then(i:Int)else badS (sz (b :: t)-1) (i+1) t
def bad (l:List UInt8):Int:=badS 0 0 l
theorem qmu (l:List UInt8) : ∀k i,badS k i l=badS 0 (i+k) (l.drop k):=by
 induction l with
 | nil=>intro k i;cases k <;> simp [badS]
 | cons b t ih=>
  intro k i;cases k with
  | zero=>rfl
  | succ k=>simp only [badS,List.drop_succ_cons];rw [ih];congr 1;omega
theorem badS_step (l:List UInt8) (i:Nat) (h:i<l.length) :
  badS 0 i (l.drop i)=if szAt l i=0 then(i:Int)else badS 0 (i+szAt l i) (l.drop (i+szAt l i)):=by
 rw [List.drop_eq_getElem_cons h];rw [badS, ←List.drop_eq_getElem_cons h,sz_drop]
 split
 ·rfl
 ·rw [qmu,List.drop_drop]
  have e:i+1+(szAt l i-1)=i+szAt l i:=by omega
  rw [e]
theorem bad_end (l:List UInt8) (i:Nat) (h:l.length<=i):badS 0 i (l.drop i) = -1:=by
 rw [List.drop_eq_nil_of_le h];rfl
def val (b:UInt8):Int:=if 48<=b.toNat/\b.toNat<=57 then(b.toNat:Int)-48 else if 97<=b.toNat/\b.toNat<=102 then(b.toNat:Int)-87 else -1
end Go.Proofs.YtgpjhibdongmbaaGreatDoor.Utf
namespace Go.Proofs.YtgpjhibdongmbaaGreatDoor.Pr
def isF (f:Int):Bool:=decide (f=1 ∨ f=2 ∨ f=4)
def isK (k:Int):Bool:=decide (1<=k/\k<=9)
def rowOf (f:Int):Int:=if f=1 then 0 else if f=2 then 1 else if f=4 then 2 else -1
def famT:List Int:=[1,2,2,1,1,6,7,7,1,1,2,2,2,2,6,7,7,2,1,2,2,2,2,6,7,8,9]
def boundT:List Int:=[0,1,2147483648,2147483647,9223372036854775808,9223372036854775807,0,4294967295,0,18446744073709551615,0,0,0,0,0,0,0,2147483647]
def fam (f k:Int):Int:=if isF f=true/\isK k=true then famT.getD (rowOf f*9+(k-1)).toNat 0 else 0
def below (k:Int):Int:=boundT.getD (2*(k-1)).toNat 0
def most (k:Int):Int:=boundT.getD (2*(k-1)+1).toNat 0
def rel (f a b:Int):Bool:=decide (fam f a ≠ 0/\fam f a=fam f b)
def num (k:Int):Bool:=decide (k<=5 ∨ k=9)
def sgn (k:Int):Bool:=decide (k=2 ∨ k=3)
def txt (k:Int):Bool:=decide (k=7 ∨ k=8)
def lev (f a b:Int):Int:=if rel f a b=false then 0 else if a=b then 2 else if num a=true then(if below b<below a ∨ most b<most a then 1 else 2)else if a=8 then 1 else 2
def famR (f k:Int):Int:=
 if isF f=false ∨ isK k=false then 0
 else if k=8/\f ≠ 4 then 7
 else if f=1 then(if k=4 ∨ k=5 ∨ k=9 then 1 else if k=3 then 2 else k)
 else if(k=2 ∨ k=3 ∨ k=4 ∨ k=5) ∨ (k=9/\f=2)then 2 else k
def great (k:Int):Int:=if k=1 then 1 else if k=2 ∨ k=9 then 2147483647 else if k=4 then 4294967295 else if k=3 then 9223372036854775807 else 18446744073709551615
def inR (a b:Int):Bool:=decide (great a<=great b/\(sgn a=false ∨ sgn b=true))
def levR (f a b:Int):Int:=if famR f a=0 ∨ famR f a ≠ famR f b then 0 else if a=b ∨ a=7 then 2 else if a=8 ∨ inR a b=false then 1 else 2
theorem qbi {k:Int} (h:isK k=true):k=1 ∨ k=2 ∨ k=3 ∨ k=4 ∨ k=5 ∨ k=6 ∨ k=7 ∨ k=8 ∨ k=9:=by
 have:=of_decide_eq_true h;omega
theorem isF_true {f:Int} (h:isF f=true):f=1 ∨ f=2 ∨ f=4:=of_decide_eq_true h
theorem famR_eq (f k:Int):famR f k=fam f k:=by
 unfold famR fam;cases hf:isF f with
 | false=>simp
 | true=>
  cases hk:isK k with
  | false=>simp
  | true=>
   rcases isF_true hf with rfl|rfl|rfl <;> rcases qbi hk with rfl|rfl|rfl|rfl|rfl|rfl|rfl|rfl|rfl <;> decide
theorem fam_ne {f k:Int} (h:fam f k ≠ 0):isF f=true/\isK k=true:=by
 unfold fam at h
 split at h
 ·assumption
 ·exact absurd rfl h
theorem rel_true {f a b:Int} (h:rel f a b=true):isF f=true/\isK a=true/\isK b=true:=by
 obtain⟨h1,h2⟩:=of_decide_eq_true h;have h3:=fam_ne h1;rw [h2]at h1;exact⟨h3.1,h3.2,(fam_ne h1).2⟩
theorem levR_eq (f a b:Int):levR f a b=lev f a b:=by
 unfold levR lev;rw [famR_eq,famR_eq];cases hr:rel f a b with
 | false=>
  rw [if_pos rfl,if_pos];have:=of_decide_eq_false hr;omega
 | true=>
  obtain⟨h1,h2,h3⟩:=rel_true hr;rcases isF_true h1 with rfl|rfl|rfl <;> rcases qbi h2 with rfl|rfl|rfl|rfl|rfl|rfl|rfl|rfl|rfl <;> rcases qbi h3 with rfl|rfl|rfl|rfl|rfl|rfl|rfl|rfl|rfl <;> first|(exfalso;revert hr;decide)|decide
def leanB (k b:Int) (t:List UInt8) (n:Nat):Bool:=decide (n=0) && (if txt k=true then decide (b=0)else decide (t=[]))
def withB (k b:Int):Bool:=
 if k=1 then decide (b<=1)else if k=2 then decide (b<=2147483647 ∨ 18446744071562067968<=b)
 else if k=9 then decide (b<=2147483647)else if k=4 then decide (b<=4294967295)else true
def fitsB (kind k b:Int) (t:List UInt8) (n:Nat):Bool:=
 isK kind && decide (k=kind) && leanB k b t n && withB kind b && decide (t.length<=4096) && (decide (kind ≠ 7) || decide (Utf.bad t<0))
def cls (b:Int):Int:=
 if 9218868437227405312<b % 9223372036854775808 then 0 else if b % 9223372036854775808=9218868437227405312 then 1
 else if b % 9223372036854775808=0 then 2 else if b % 9223372036854775808<4503599627370496 then 3 else 4
def normB (k b:Int):Int:=if k=6/\cls b=0 then 9221120237041090560 else b
def neg (a x:Int):Bool:=sgn a && decide (9223372036854775808<=x)
def insB (a b x:Int):Bool:=if neg a x=true then decide (18446744073709551616-x<=below b)else decide (x<=most b)
def turnE (f a b k x:Int) (t:List UInt8) (n:Nat):Int:=
 if isF f=false ∨ isK a=false ∨ isK b=false ∨ fitsB a k x t n=false then 1
 else if rel f a b=false then(if f=1 then 13 else 12)
 else if num a=true/\insB a b x=false then 6
 else if b=7/\¬ Utf.bad t<0 then 7 else 0
def exam (f a b:Int):Int × Int × List UInt8 × Bool:=
 if isF f=false ∨ isK a=false ∨ isK b=false ∨ lev f a b=2 then(0,0,[],false)
 else if lev f a b=0 then(a,0,[],true)
 else if a=8 then(a,0,[255],true)
 else if most b=18446744073709551615 ∨ most a<most b+1 then(a,18446744073709551615,[],true)
 else(a,most b+1,[],true)
theorem qfv {kind k b:Int} {t:List UInt8} {n:Nat} (h:fitsB kind k b t n=true):isK kind=true/\k=kind/\leanB k b t n=true/\withB kind b=true/\t.length<=4096/\(kind ≠ 7 ∨ Utf.bad t<0):=by
 simp only [fitsB,Bool.and_eq_true,Bool.or_eq_true,decide_eq_true_eq]at h;exact⟨h.1.1.1.1.1,h.1.1.1.1.2,h.1.1.1.2,h.1.1.2,h.1.2,h.2⟩
theorem ite_dec {c:Bool} {p q:Prop} [Decidable p] [Decidable q]:(if c=true then decide p else decide q)=true ↔ (if c=true then p else q):=by cases c <;> simp
theorem fits_ref (kind x:Int) (t:List UInt8) (n:Nat):fitsB kind kind x t n=(isK kind && decide (n=0) && (if txt kind=true then decide (x=0) && decide (t.length<=4096) && (decide (kind=8) || decide (Utf.bad t<0))else decide (t=[]) && withB kind x)):=by
 unfold fitsB leanB;cases hk:isK kind
 ·simp
 ·cases ht:txt kind
  ·have h7:kind ≠ 7:=by
    intro h;subst h;exact absurd ht (by decide)
   by_cases hn:t=[]
   ·subst hn;simp [h7]
   ·simp [hn]
  ·have h78:kind=7 ∨ kind=8:=of_decide_eq_true ht
   rcases h78 with rfl|rfl
   ·simp [withB,Bool.and_assoc]
   ·simp [withB,Bool.and_assoc]
end Go.Proofs.YtgpjhibdongmbaaGreatDoor.Pr
namespace Go.Proofs.YtgpjhibdongmbaaGreatDoor
open Go.RowKit
theorem qaf {k:IntKind} {a b:Int} (h:a=b):Ending.returned (.int k a)=.returned (.int k b):=by rw [h]
theorem qa3 {a b:Bool} (h:a=b):Ending.returned (.bool a)=.returned (.bool b):=by rw [h]
theorem len_l (s:ByteArray):s.data.toList.length=s.size:=Array.length_toList
theorem get_l (s:ByteArray) (i:Nat) (h:i<s.size):s.data.toList[i]? = some s[i]:=by
 have h':i<s.data.size:=h;rw [Array.getElem?_toList,Array.getElem?_eq_getElem h'];rfl
theorem qku (s:ByteArray) (i:Nat) (h : ¬ i<s.size):s.data.toList[i]? = none:=by
 have h':s.data.size<=i:=Nat.not_lt.1 h;rw [Array.getElem?_toList,Array.getElem?_eq_none h']
def S (l:List UInt8):ByteArray:=⟨l.toArray⟩
theorem qc2 (l:List UInt8):(S l).data.toList=l:=rfl
theorem S_of {s:ByteArray} {l:List UInt8} (h:s.data.toList=l):s=S l:=by
 subst h;rfl
theorem ql7 (a b:ByteArray):(a ++ b).data.toList=a.data.toList ++ b.data.toList:=by simp [ByteArray.data_append]
theorem qaj (l:List UInt8):(S l).size=l.length:=rfl
theorem qeh (s:ByteArray) (i j:Nat):(s.extract i j).data.toList=(s.data.toList.drop i).take (j-i):=by
 simp [ByteArray.data_extract,List.take_drop]
theorem ine {a b:Int} (h:a ≠ b):(a == b)=false:=beq_eq_false_iff_ne.2 h
theorem bne_t {a b:Int} (h:a ≠ b):(a != b)=true:=bne_iff_ne.2 h
section
variable {P : Program} {f : FuncId} {args : Array Value} {w : World} {a n : Nat} {v : Value}
end
theorem qmn (W:World) (c:UInt8):(convert 68 9 (.slice (some ⟨W.heap.size,0,none⟩) 1 1)).run Tryz.prog (W.alloc (.cells #[.int .u8 (c.toNat:Int)] 5))=.ok (.string (S [c])) (W.alloc (.cells #[.int .u8 (c.toNat:Int)] 5)):=by
 have h:=run_convert_bytes_arg (P:=Tryz.prog) (W.alloc (.cells #[.int .u8 (c.toNat:Int)] 5)) 68 5 Tryz.underlying68 Tryz.underlying5 W.heap.size 0 1 1 [(c.toNat:Int)] rfl (fun i hi=>by
  obtain rfl:i=0:=by omega
  simp) 9 Tryz.underlying9
 rw [h]
 congr 2
 simp [strOfNums,S]
theorem qj3 {B:Nat} {a w:World} (h:Below B a w) (n:Nat):Below B a (w.drewN n):=⟨h.os,h.tape,h.output,h.size,h.block⟩
end Go.Proofs.YtgpjhibdongmbaaGreatDoor
namespace Go.Proofs.YtgpjhibdongmbaaGreatDoor.Utf
def gb (l:List UInt8) (j:Nat):Nat:=(l[j]?.getD 0).toNat
theorem get_gb (s:ByteArray) (j:Nat):(s.get! j).toNat=gb s.data.toList j:=by
 unfold gb
 congr 1
 show s.data[j]! = _
 rw [Array.getElem?_toList,getElem!_def];cases s.data[j]? <;> rfl
theorem btw_gb (l:List UInt8) (j lo hi:Nat):btw l j lo hi=(decide (j<l.length) && (decide (lo<=gb l j) && decide (gb l j<=hi))):=by
 unfold btw gb;by_cases h:j<l.length
 ·rw [List.getElem?_eq_getElem h];simp [h]
 ·rw [List.getElem?_eq_none (by omega)];simp [h]
def decN (b0 b1 b2 b3:Nat) (p1 p2 p3:Bool):Nat × Nat:=
 if b0<128 then(b0,1)
 else if b0 / 32=6/\p1=true/\b1 / 64=2 then
  if(b0 % 32)*64+b1 % 64 ≥ 128 then((b0 % 32)*64+b1 % 64,2)else(65533,1)
 else if b0 / 16=14/\(p1=true/\b1 / 64=2)/\p2=true/\b2 / 64=2 then
  if(b0 % 16)*4096+(b1 % 64)*64+b2 % 64 ≥ 2048/\Utf8.valid ((b0 % 16)*4096+(b1 % 64)*64+b2 % 64:Nat)=true then((b0 % 16)*4096+(b1 % 64)*64+b2 % 64,3)else(65533,1)
 else if b0 / 8=30/\(p1=true/\b1 / 64=2)/\(p2=true/\b2 / 64=2)/\p3=true/\b3 / 64=2 then
  if(b0 % 8)*262144+(b1 % 64)*4096+(b2 % 64)*64+b3 % 64 ≥ 65536/\Utf8.valid ((b0 % 8)*262144+(b1 % 64)*4096+(b2 % 64)*64+b3 % 64:Nat)=true then((b0 % 8)*262144+(b1 % 64)*4096+(b2 % 64)*64+b3 % 64,4)else(65533,1)
 else(65533,1)
theorem qed (s:ByteArray) (i:Nat):Utf8.decode s i =
  decN (gb s.data.toList i) (gb s.data.toList (i+1)) (gb s.data.toList (i+2)) (gb s.data.toList (i+3)) (decide (i+1<s.size)) (decide (i+2<s.size)) (decide (i+3<s.size)):=by
 unfold Utf8.decode decN;simp only [get_gb,Nat.add_zero,Bool.and_eq_true,beq_iff_eq,decide_eq_true_eq,Utf8.runeError,and_assoc,ge_iff_le]
def szN (b0 b1 b2 b3:Nat) (p1 p2 p3:Bool):Nat:=
 if b0<128 then 1
 else if 194<=b0/\b0<=223/\p1=true/\128<=b1/\b1<=191 then 2
 else if b0=224/\(p1=true/\160<=b1/\b1<=191)/\p2=true/\128<=b2/\b2<=191 then 3
 else if b0=237/\(p1=true/\128<=b1/\b1<=159)/\p2=true/\128<=b2/\b2<=191 then 3
 else if 225<=b0/\b0<=239/\b0 ≠ 237/\(p1=true/\128<=b1/\b1<=191)/\p2=true/\128<=b2/\b2<=191 then 3
 else if b0=240/\(p1=true/\144<=b1/\b1<=191)/\(p2=true/\128<=b2/\b2<=191)/\p3=true/\128<=b3/\b3<=191 then 4
 else if 241<=b0/\b0<=243/\(p1=true/\128<=b1/\b1<=191)/\(p2=true/\128<=b2/\b2<=191)/\p3=true/\128<=b3/\b3<=191 then 4
 else if b0=244/\(p1=true/\128<=b1/\b1<=143)/\(p2=true/\128<=b2/\b2<=191)/\p3=true/\128<=b3/\b3<=191 then 4
 else 0
theorem qjb (l:List UInt8) (i:Nat) (h:i<l.length):szAt l i =
  szN (gb l i) (gb l (i+1)) (gb l (i+2)) (gb l (i+3)) (decide (i+1<l.length)) (decide (i+2<l.length)) (decide (i+3<l.length)):=by
 unfold szAt szN;rw [List.getElem?_eq_getElem h];have e:gb l i=l[i].toNat:=by unfold gb;rw [List.getElem?_eq_getElem h];rfl
 simp only [←e];simp only [tl,btw_gb,Bool.and_eq_true,decide_eq_true_eq,and_assoc,Nat.add_assoc,Nat.reduceAdd,Bool.and_true]
theorem qee (c:Nat):Utf8.valid (c:Int)=true ↔ (c<55296 ∨ 57344<=c/\c<=1114111):=by
 unfold Utf8.valid;simp only [Bool.or_eq_true,Bool.and_eq_true,decide_eq_true_eq];omega
theorem dec_bad (b0 b1 b2 b3:Nat) (p1 p2 p3:Bool) (h:szN b0 b1 b2 b3 p1 p2 p3=0) :
  decN b0 b1 b2 b3 p1 p2 p3=(65533,1)/\¬(b0=239/\(p1=true/\b1=191)/\p2=true/\b2=189):=by
 unfold szN at h;unfold decN;simp only [qee];cases p1 <;> cases p2 <;> cases p3 <;> simp only [Bool.false_eq_true,false_and,and_false,true_and,if_false]at h ⊢
 all_goals (repeat' split at h)
 all_goals first|(exact absurd h (by omega))|skip
 all_goals refine⟨?_,by first|(exact fun x=>x)|omega⟩
 all_goals (repeat' split)
 all_goals first|rfl|(exfalso;omega)
theorem qf7 (b0 b1 b2 b3:Nat) (p1 p2 p3:Bool) (h:szN b0 b1 b2 b3 p1 p2 p3 ≠ 0) :
  (szN b0 b1 b2 b3 p1 p2 p3=1/\b0<128/\decN b0 b1 b2 b3 p1 p2 p3=(b0,1)) ∨
  (szN b0 b1 b2 b3 p1 p2 p3=2/\(194<=b0/\b0<=223)/\(128<=b1/\b1<=191)/\decN b0 b1 b2 b3 p1 p2 p3=((b0 % 32)*64+b1 % 64,2)) ∨
  (szN b0 b1 b2 b3 p1 p2 p3=3/\(224<=b0/\b0<=239)/\(128<=b1/\b1<=191)/\(128<=b2/\b2<=191)/\2048<=(b0 % 16)*4096+(b1 % 64)*64+b2 % 64/\((b0 % 16)*4096+(b1 % 64)*64+b2 % 64<55296 ∨ 57344<=(b0 % 16)*4096+(b1 % 64)*64+b2 % 64)/\decN b0 b1 b2 b3 p1 p2 p3=((b0 % 16)*4096+(b1 % 64)*64+b2 % 64,3)) ∨
  (szN b0 b1 b2 b3 p1 p2 p3=4/\(240<=b0/\b0<=244)/\(128<=b1/\b1<=191)/\(128<=b2/\b2<=191)/\(128<=b3/\b3<=191)/\65536<=(b0 % 8)*262144+(b1 % 64)*4096+(b2 % 64)*64+b3 % 64/\(b0 % 8)*262144+(b1 % 64)*4096+(b2 % 64)*64+b3 % 64<=1114111/\decN b0 b1 b2 b3 p1 p2 p3=((b0 % 8)*262144+(b1 % 64)*4096+(b2 % 64)*64+b3 % 64,4)):=by
 revert h
 unfold szN;unfold decN;simp only [qee];cases p1 <;> cases p2 <;> cases p3 <;> simp only [Bool.false_eq_true,false_and,and_false,true_and,if_false]
 all_goals (repeat' split)
 all_goals intro h
 all_goals first|(exact absurd rfl h)|(exfalso;omega)|skip
 all_goals first
  | (refine .inl ⟨by decide,?_⟩;exact⟨by omega,rfl⟩)
  | (refine .inr (.inl ⟨by decide,?_⟩);exact⟨by omega,by omega,rfl⟩)
  | (refine .inr (.inr (.inl ⟨by decide,?_⟩));exact⟨by omega,by omega,by omega,by omega,by omega,rfl⟩)
  | (refine .inr (.inr (.inr ⟨by decide,?_⟩));exact⟨by omega,by omega,by omega,by omega,by omega,by omega,rfl⟩)
theorem qf5 (c:Nat) (hc:c<55296 ∨ 57344<=c/\c<=1114111):(Utf8.encode (c:Int)).data.toList =
  if c<128 then [UInt8.ofNat c]else if c<2048 then [UInt8.ofNat (192+c / 64),UInt8.ofNat (128+c % 64)]
   else if c<65536 then [UInt8.ofNat (224+c / 4096),UInt8.ofNat (128+c / 64 % 64),UInt8.ofNat (128+c % 64)]else [UInt8.ofNat (240+c / 262144),UInt8.ofNat (128+c / 4096 % 64),UInt8.ofNat (128+c / 64 % 64),UInt8.ofNat (128+c % 64)]:=by
 have hv:=(qee c).2 hc;unfold Utf8.encode;simp only [hv,if_true,Int.toNat_natCast];by_cases h1:c<128
 ·simp only [h1,if_true]
 ·by_cases h2:c<2048
  ·simp only [h1,h2,if_true,if_false]
  ·by_cases h3:c<65536
   ·simp only [h1,h2,h3,if_true,if_false]
   ·simp only [h1,h2,h3,if_false]
theorem enc1 (c:Nat) (h:c<128):(Utf8.encode (c:Int)).data.toList=[UInt8.ofNat c]:=by
 rw [qf5 c (by omega),if_pos h]
theorem enc2 (b0 b1 c:Nat) (h0:194<=b0/\b0<=223) (h1:128<=b1/\b1<=191) (hc:c=(b0 % 32)*64+b1 % 64):(Utf8.encode (c:Int)).data.toList=[UInt8.ofNat b0,UInt8.ofNat b1]:=by
 rw [qf5 c (by omega),if_neg (by omega),if_pos (by omega),show 192+c / 64=b0 from by omega,show 128+c % 64=b1 from by omega]
theorem enc3 (b0 b1 b2 c:Nat) (h0:224<=b0/\b0<=239) (h1:128<=b1/\b1<=191) (h2:128<=b2/\b2<=191) (hc:c=(b0 % 16)*4096+(b1 % 64)*64+b2 % 64) (hg:2048<=c) (hv:c<55296 ∨ 57344<=c) :
  (Utf8.encode (c:Int)).data.toList=[UInt8.ofNat b0,UInt8.ofNat b1,UInt8.ofNat b2]:=by
 rw [qf5 c (by omega),if_neg (by omega),if_neg (by omega),if_pos (by omega),show 224+c / 4096=b0 from by omega,show 128+c / 64 % 64=b1 from by omega,show 128+c % 64=b2 from by omega]
theorem enc4 (b0 b1 b2 b3 c:Nat) (h0:240<=b0/\b0<=244) (h1:128<=b1/\b1<=191) (h2:128<=b2/\b2<=191) (h3:128<=b3/\b3<=191) (hc:c=(b0 % 8)*262144+(b1 % 64)*4096+(b2 % 64)*64+b3 % 64) (hg:65536<=c) (hv:c<=1114111) :
  (Utf8.encode (c:Int)).data.toList=[UInt8.ofNat b0,UInt8.ofNat b1,UInt8.ofNat b2,UInt8.ofNat b3]:=by
 rw [qf5 c (by omega),if_neg (by omega),if_neg (by omega),if_neg (by omega),show 240+c / 262144=b0 from by omega,show 128+c / 4096 % 64=b1 from by omega,show 128+c / 64 % 64=b2 from by omega,show 128+c % 64=b3 from by omega]
theorem enc_take (b0 b1 b2 b3:Nat) (p1 p2 p3:Bool) (h:szN b0 b1 b2 b3 p1 p2 p3 ≠ 0) :
  (Utf8.encode ((decN b0 b1 b2 b3 p1 p2 p3).1:Int)).data.toList=([b0,b1,b2,b3].map UInt8.ofNat).take (szN b0 b1 b2 b3 p1 p2 p3):=by
 rcases qf7 b0 b1 b2 b3 p1 p2 p3 h with⟨e,h0,d⟩|⟨e,h0,h1,d⟩|⟨e,h0,h1,h2,hg,hv,d⟩|⟨e,h0,h1,h2,h3,hg,hv,d⟩
 ·rw [e,d,enc1 _ h0];rfl
 ·rw [e,d,enc2 b0 b1 _ h0 h1 rfl];rfl
 ·rw [e,d,enc3 b0 b1 b2 _ h0 h1 h2 rfl hg hv];rfl
 ·rw [e,d,enc4 b0 b1 b2 b3 _ h0 h1 h2 h3 rfl hg hv];rfl
def isRep (l:List UInt8) (i:Nat):Prop:=gb l i=239/\(decide (i+1<l.length)=true/\gb l (i+1)=191)/\decide (i+2<l.length)=true/\gb l (i+2)=189
theorem decode_bad (s:ByteArray) (i:Nat) (hi:i<s.data.toList.length) (h:szAt s.data.toList i=0):Utf8.decode s i=(65533,1)/\¬ isRep s.data.toList i:=by
 have e:s.size=s.data.toList.length:=rfl;rw [qjb _ _ hi]at h;rw [qed,e];exact dec_bad _ _ _ _ _ _ _ h
theorem decode_good (s:ByteArray) (i:Nat) (hi:i<s.data.toList.length) (h:szAt s.data.toList i ≠ 0) :
  (Utf8.decode s i).2=szAt s.data.toList i/\((Utf8.decode s i).1=65533->isRep s.data.toList i)/\(Utf8.encode ((Utf8.decode s i).1:Int)).data.toList=(s.data.toList.drop i).take (szAt s.data.toList i):=by
 have e:s.size=s.data.toList.length:=rfl;have hlt:=szAt_lt h;rw [qjb _ _ hi]at h hlt ⊢;rw [qed,e];refine⟨?_,?_,?_⟩
 ·rcases qf7 _ _ _ _ _ _ _ h with⟨e,_,d⟩|⟨e,_,_,d⟩|⟨e,_,_,_,_,_,d⟩|⟨e,_,_,_,_,_,_,d⟩ <;> rw [e,d]
 ·intro hr
  rcases qf7 _ _ _ _ _ _ _ h with⟨e,h0,d⟩|⟨e,h0,h1,d⟩|⟨e,h0,h1,h2,hg,hv,d⟩|⟨e,h0,h1,h2,h3,hg,hv,d⟩
  ·rw [d]at hr;simp only at hr;exfalso;omega
  ·rw [d]at hr;simp only at hr;exfalso;omega
  ·rw [d]at hr;simp only at hr
   rw [e]at hlt;exact⟨by omega,⟨decide_eq_true (by omega),by omega⟩,decide_eq_true (by omega),by omega⟩
  ·rw [d]at hr;simp only at hr;exfalso;omega
 ·rw [enc_take _ _ _ _ _ _ _ h]
  have hl4:szN (gb s.data.toList i) (gb s.data.toList (i+1)) (gb s.data.toList (i+2)) (gb s.data.toList (i+3)) (decide (i+1<s.data.toList.length)) (decide (i+2<s.data.toList.length)) (decide (i+3<s.data.toList.length))<=4:=by unfold szN;(repeat' split) <;> omega
  generalize szN (gb s.data.toList i) (gb s.data.toList (i+1)) (gb s.data.toList (i+2)) (gb s.data.toList (i+3)) (decide (i+1<s.data.toList.length)) (decide (i+2<s.data.toList.length)) (decide (i+3<s.data.toList.length))=n at *;apply List.ext_getElem?;intro j;by_cases hj:j<n
  ·rw [List.getElem?_take_of_lt hj,List.getElem?_take_of_lt hj,List.getElem?_drop]
   have:j=0 ∨ j=1 ∨ j=2 ∨ j=3:=by omega
   have hh : ∀k,k<s.data.toList.length->s.data.toList[k]? = some (UInt8.ofNat (gb s.data.toList k)):=by
    intro k hk;rw [List.getElem?_eq_getElem hk];unfold gb;rw [List.getElem?_eq_getElem hk];simp
   rcases this with rfl|rfl|rfl|rfl <;> (rw [hh _ (by omega)];rfl)
  ·rw [List.getElem?_eq_none (by simp;omega),List.getElem?_eq_none (by simp;omega)]
end Go.Proofs.YtgpjhibdongmbaaGreatDoor.Utf
