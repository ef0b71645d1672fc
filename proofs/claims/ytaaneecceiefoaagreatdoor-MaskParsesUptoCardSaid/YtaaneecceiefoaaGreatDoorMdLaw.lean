import Derived.Test.YtaaneecceiefoaaGreatDoorIdWord
import Derived.Test.YtaaneecceiefoaaGreatDoorUtfDec
import Derived.Test.YtaaneecceiefoaaGreatDoorShelf
import Derived.Laws.Bits64b
import Derived.Deep.RegionLaw
import Derived.Deep.AppendLies
import Derived.Test.YtaaneecceiefoaaGreatDoorTwo
import Derived.Deep.RegionHeld3
import Derived.Deep.DeepCutAuto
import Derived.Deep.CutBlock
import Derived.Shelf.SlicesQ.Load
import Derived.Maps.OwnSet
import Derived.Maps.Views
import Derived.Lib.LastIndexByte
import Derived.Lib.OthersKept
import Derived.Lib.ItoaNum
import Derived.Lib.AppendIntMem
import Derived.Lib.ItoaLen
set_option maxRecDepth 100000
set_option maxHeartbeats 4000000
set_option linter.unusedVariables false
set_option linter.unusedSimpArgs false
namespace Go.Proofs.YtaaneecceiefoaaGreatDoor
open Go.RowKit
end Go.Proofs.YtaaneecceiefoaaGreatDoor
namespace Go.Proofs.YtaaneecceiefoaaGreatDoor
open Go.RowKit
theorem _root_.Go.RowKit.Below.bal {w a:World} (h:Below w.heap.size w a) (o:Obj):Below w.heap.size w (a.alloc o):=h.alloc h.size o
theorem _root_.Go.RowKit.Below.link {w a b:World} (k:Below a.heap.size a b) (h:Below w.heap.size w a):Below w.heap.size w b:=h.trans (k.mono h.size)
theorem bcell {W w1:World} (hb:Below W.heap.size W w1):(∀b o,b<W.heap.size->w1.cell? ⟨b,o,none⟩=W.cell? ⟨b,o,none⟩)/\(∀b o,b<W.heap.size->w1.frozen? ⟨b,o,none⟩=W.frozen? ⟨b,o,none⟩):=
 ⟨fun b o h=>hb.cell (p:=⟨b,o,none⟩) h,fun b o h=>hb.frozen (p:=⟨b,o,none⟩) h⟩
theorem wrap64_u (b:Int) (h0:0<=b) (h1:b<18446744073709551616):wrap64 b=if b<9223372036854775808 then b else b-18446744073709551616:=by
 unfold wrap64;split <;> omega
theorem emp (t:ByteArray):t.toList.isEmpty=decide (t.data.toList=[]):=by
 rw [ByteArray.toList_eq];cases t.data.toList <;> rfl
end Go.Proofs.YtaaneecceiefoaaGreatDoor
namespace Go.Proofs.YtaaneecceiefoaaGreatDoor
open Go.RowKit Ck
def qcy (name:Str):Int × Int:=(Ck.find? name).getD (0,0)
end Go.Proofs.YtaaneecceiefoaaGreatDoor
namespace Go.Proofs.YtaaneecceiefoaaGreatDoor
open Go.RowKit Ck
theorem qjy:(Tryz.prog.info? 153).map (fun i=>(i.zero,i.size,i.bytes))=some (some (.agg #[.string ByteArray.empty,.int .i64 0,.int .i64 0]),3,32):=by kernel_rfl
theorem ql4 (ps:List PProb) (d:Str) (num e:Int):(ps ++ [(⟨d,num,e⟩:PProb)]).flatMap probC=ps.flatMap probC ++ [.string (S d),.int .i64 num,.int .i64 e]:=by
 simp [probC]
theorem qb2 (w:World) (b i:Nat) (v:Value):w.grownBy (w.setCell ⟨b,i,none⟩ v) (some b):=
 ⟨rfl,rfl,rfl,by simp [World.setCell],fun k _ hk=>Below.heap_setCell _ _ _ _ (fun e=>hk (by rw [e]))⟩
theorem qm8 {w:World} {B:Nat} {e:TypeId} {size:Nat} {v:Value} {n:Nat} {xs:List Value} (h:w.ownsRow B e size v n xs) : ∀g,v.ownBlock=some g->∃c fz,w.heap[g]? = some (.cells c e fz):=fun g hg=>by
 rcases h.2 with⟨hv,_⟩|⟨g',_,cur,hv,_,hgg,_⟩
 ·rw [hv]at hg
  cases hg
 ·rw [hv]at hg
  cases hg;exact⟨cur,_,hgg⟩
end Go.Proofs.YtaaneecceiefoaaGreatDoor
namespace Go.Proofs.YtaaneecceiefoaaGreatDoor
open Go.RowKit Ck
end Go.Proofs.YtaaneecceiefoaaGreatDoor
namespace Go.Proofs.YtaaneecceiefoaaGreatDoor
open Go.RowKit Ck
end Go.Proofs.YtaaneecceiefoaaGreatDoor
namespace Go.Proofs.YtaaneecceiefoaaGreatDoor
open Go.RowKit Ck
theorem qge {w w':World} {B:Nat} {e:TypeId} {size:Nat} {v:Value} {n:Nat} {xs:List Value} (h:w.ownsRow B e size v n xs) (k:Bel w w'):w'.ownsRow B e size v n xs:=by
 refine⟨h.1,?_⟩;rcases h.2 with hn|⟨g,cap,cur,rfl,hb,hgg,rest⟩
 ·exact .inl hn
 ·exact .inr ⟨g,cap,cur,rfl,hb,(Below.block k g (Array.getElem?_eq_some_iff.1 hgg).1).trans hgg,rest⟩
theorem qn0 {e:TypeId} {b:Option Nat} {w w':World} (k:Bel w w'):Lib.OthersKept e b w w':=fun i o hi _ _=>(Below.block k i (Array.getElem?_eq_some_iff.1 hi).1).trans hi
end Go.Proofs.YtaaneecceiefoaaGreatDoor
namespace Go.Proofs.YtaaneecceiefoaaGreatDoor
open Go.RowKit Ck
def qe1 (l:List PSpan) (k:Nat):Option PSpan:=if k=0 then none else l[k-1]?
theorem un_len (d:Str) (num:Int) (ok:Bool) (e:Int):(un d num ok e).length<=1:=by
 cases ok <;> simp [un]
def spanP (d:Str) (lo hi:Int) (last:Option PSpan) (p:PSpan):List PProb:=
 un d (-1) (decide (lo<=p.lo/\p.hi<=hi/\p.lo<=p.hi)) 6 ++ un d (-1) (match last with|none=>true|some q=>decide (q.hi<p.lo)) 11
theorem qm1 (d:Str) (lo hi:Int) (q:Option PSpan):qdw d lo hi q []=[]:=by cases q <;> rfl
theorem qjt (d:Str) (lo hi:Int) (q:Option PSpan) (p:PSpan) (r:List PSpan):qdw d lo hi q (p :: r)=spanP d lo hi q p ++ qdw d lo hi (some p) r:=rfl
end Go.Proofs.YtaaneecceiefoaaGreatDoor
namespace Go.Proofs.YtaaneecceiefoaaGreatDoor
open Go.RowKit Ck
theorem qey (w:World) (o:Obj) (n:Nat) (h:n=w.heap.size):(w.alloc o).heap[n]? = some o:=by subst h;exact heap_alloc_new w o
section
variable {w0 : World} {fb : Nat} {d : Str} {num : Int} {w : World} {bl : List (Nat × Array Value × TypeId)} {N : Nat} {ps : List PProb} {wx : World}
end
end Go.Proofs.YtaaneecceiefoaaGreatDoor
namespace Go.Proofs.YtaaneecceiefoaaGreatDoor
open Go.RowKit Ck
def idxL {α:Type} (p:α->Bool) (xs:List α):Int:=match xs.findIdx? p with|some i=>(i:Int)|none => -1
theorem qni {α:Type} (p:α->Bool) (xs:List α) (k:Nat) (x:α) (hx:xs[k]? = some x) (hp:p x=true) (hn : ∀j y,j<k->xs[j]? = some y->p y=false):idxL p xs=(k:Int):=by
 unfold idxL
 have:xs.findIdx? p=some k:=by
  rw [List.findIdx?_eq_some_iff_getElem];obtain⟨h,rfl⟩:=List.getElem?_eq_some_iff.1 hx;refine⟨h,hp,fun j hj=>?_⟩;have:=hn j _ hj (List.getElem?_eq_getElem (by omega))
  simpa using this
 rw [this]
theorem qkc {α:Type} (p:α->Bool) (xs:List α) (hn : ∀j y,j<xs.length->xs[j]? = some y->p y=false):idxL p xs = -1:=by
 unfold idxL
 have:xs.findIdx? p=none:=by
  rw [List.findIdx?_eq_none_iff];intro x hx;obtain⟨j,hj,rfl⟩:=List.mem_iff_getElem.1 hx;exact hn j _ hj (List.getElem?_eq_getElem hj)
 rw [this]
theorem qkd {α:Type} (p:α->Bool) (xs:List α):(idxL p xs<0/\xs.find? p=none) ∨ ∃(k:Nat) (x:α),idxL p xs=(k:Int)/\xs[k]? = some x/\xs.find? p=some x/\k<xs.length:=by
 unfold idxL;cases h:xs.findIdx? p with
 | none=>
  refine .inl ⟨by show(-1:Int)<0;omega,?_⟩;rw [List.findIdx?_eq_none_iff]at h;rw [List.find?_eq_none];intro x hx;simpa using h x hx
 | some i=>
  rw [List.findIdx?_eq_some_iff_getElem]at h;obtain⟨hi,hp,hn⟩:=h;refine .inr ⟨i,xs[i],rfl,List.getElem?_eq_getElem hi,?_,hi⟩;rw [List.find?_eq_some_iff_getElem];exact⟨hp,i,hi,rfl,fun j hj=>by simpa using hn j hj⟩
def PredOf (α:Type) (V:World->List Value->α->Prop) (w:World) (xs:List α) (p:α->Bool) (g:Nat) (lb:Array Value):Prop:=
 ∀(x:α) (vs:List Value) (W:World),x ∈ xs->V w vs x->Bel w W->Calls Tryz.prog g (#[.agg vs.toArray] ++ lb) W fun e w'=>e=.returned (.bool (p x))/\Below W.heap.size W w'
theorem qfe (w:World):(isAgg 65).run Tryz.prog w=.ok true w:=by kernel_rfl
theorem qdx (w:World):(Go.sizeOf 65).run Tryz.prog w=.ok 16 w:=by kernel_rfl
end Go.Proofs.YtaaneecceiefoaaGreatDoor
namespace Go.Proofs.YtaaneecceiefoaaGreatDoor
open Go.RowKit Ck
end Go.Proofs.YtaaneecceiefoaaGreatDoor
namespace Go.Proofs.YtaaneecceiefoaaGreatDoor
open Go.RowKit Ck
theorem VMsg.len (w:World) (vs:List Value) (x:PMsg) (h:VMsg w vs x):vs.length=5:=by
 obtain⟨_,_,_,_,rfl,_⟩:=h;rfl
theorem VEnum.len (w:World) (vs:List Value) (x:PEnum) (h:VEnum w vs x):vs.length=5:=by
 obtain⟨_,_,_,rfl,_⟩:=h;rfl
theorem VSpan.len (w:World) (vs:List Value) (x:PSpan) (h:VSpan w vs x):vs.length=2:=by
 rw [show vs=_ from h];rfl
theorem VItem.len (w:World) (vs:List Value) (x:PItem) (h:VItem w vs x):vs.length=3:=by
 obtain⟨_,rfl,_⟩:=h;rfl
theorem VField.len (w:World) (vs:List Value) (x:PField) (h:VField w vs x):vs.length=16:=by
 obtain⟨_,_,rfl,⟨_,_,_,_,_,_,_,_,rfl,_⟩,_⟩:=h;rfl
theorem qa5 {α:Type} {C:Nat} {E:World->Nat->Nat->α->Prop} {w:World} {v:Value} {xs:List α} (h:Sl C E w v xs) : ∃(q:Option Addr) (c:Nat),v=.slice q xs.length c/\xs.length<=140737488355328:=by
 obtain⟨q,c,h1,h2,_⟩:=h;exact⟨q,c,h1,h2⟩
def zMsg:List Value:=[.string ByteArray.empty,.slice none 0 0,.slice none 0 0,.slice none 0 0,.slice none 0 0]
theorem qcu {w a:World} {g:Nat} {o:Obj} (hb:Below a.heap.size a w) (h:a.heap[g]? = some o):w.heap[g]? = some o:=by
 have hlt:g<a.heap.size:=(Array.getElem?_eq_some_iff.1 h).1;rw [hb.block g hlt];exact h
theorem qb1 {P:Program} {fn:Func} {p u:Tmp} {ty:TypeId} (h:fn.results=#[.cell p ty,.tmp u]) {tmps:Array Value} {w:World} {g:Nat} {t:TypeId} {cs:Array Value} {d:TypeDesc} {y:Value}
  (hp:tmps.getD p undef=.pointer (some ⟨g,0,none⟩)) (hy:tmps.getD u undef=y) (hg:w.heap[g]? = some (.cells cs t (0,0)))
  (hu:P.underlying ty=some d) (hd:(match d with | .struct _ | .array _ _=>true|_=>false)=true) (hi:(P.info? ty).map (·.size)=some cs.size) :
  (results fn tmps).run P w=.ok (.tuple #[.agg cs,y]) w:=by
 rw [results_cell_tmp h,hp,hy];simp [asAddr,run_loadVar_row w g t ty cs (0,0) d hg hu hd hi]
end Go.Proofs.YtaaneecceiefoaaGreatDoor
namespace Go.Proofs.YtaaneecceiefoaaGreatDoor
open Go.RowKit Ck
end Go.Proofs.YtaaneecceiefoaaGreatDoor
namespace Go.Proofs.YtaaneecceiefoaaGreatDoor.Id
theorem cut_append (c:UInt8) (b:List UInt8) (hb:c ∉ b) : ∀a:List UInt8,cut c (a ++ c :: b)=cut c a ++ [b]
 | []=>by
  show cut c (c :: b)=[[]] ++ [b]
  rw [cut_hit,cut_none c b hb];rfl
 | x :: a=>by
  have ih:=cut_append c b hb a;by_cases hx:x=c
  ·subst hx
   rw [List.cons_append,cut_hit,cut_hit,ih];rfl
  ·rw [List.cons_append,cut_miss c x _ hx,cut_miss c x _ hx,ih]
   have:=cut_ne c a;cases hc:cut c a with
   | nil=>exact absurd hc this
   | cons p ps=>rfl
theorem isFull_ne {l:List UInt8} (h:isFull l=true):l ≠ []:=by
 intro e;subst e;exact absurd h (by decide)
theorem split_at (l:List UInt8) (i:Nat) (h:lastDot l=i) (hi:i<l.length) (h3:l[i]? = some 46):l=l.take i ++ 46 :: l.drop (i+1):=by
 conv=>lhs;rw [←List.take_append_drop i l]
 rw [List.drop_eq_getElem_cons hi];rw [List.getElem?_eq_getElem hi]at h3;rw [Option.some.inj h3]
theorem full_split {l:List UInt8} (h:isFull l=true):isPart (splitL l).2=true/\join (splitL l).1 (splitL l).2=l/\((splitL l).1 ≠ []->isFull (splitL l).1=true):=by
 unfold isFull at h;simp only [Bool.and_eq_true,decide_eq_true_eq]at h;obtain⟨h1,h2⟩:=h;rcases lastDot_spec l with⟨e,hn⟩|⟨i,e,hi,h3,h4⟩
 ·have hs:splitL l=([],l):=by unfold splitL;rw [if_pos e]
  rw [cut_none 46 l hn]at h1;rw [hs];simp at h1;exact⟨h1,by simp [join],fun h=>absurd rfl h⟩
 ·have hs:splitL l=(l.take i,l.drop (i+1)):=by unfold splitL;rw [if_neg (by omega),e];rfl
  have hl:=split_at l i e hi h3
  have hn:(46:UInt8) ∉ l.drop (i+1):=by
   intro hm;obtain⟨j,hj⟩:=List.mem_iff_getElem?.1 hm;rw [List.getElem?_drop]at hj;exact h4 (i+1+j) (by omega) hj
  have hc:cut 46 l=cut 46 (l.take i) ++ [l.drop (i+1)]:=by
   conv=>lhs;rw [hl]
   exact cut_append 46 _ hn _
  rw [hc,List.all_append]at h1;simp only [Bool.and_eq_true]at h1
  have ha:l.take i ≠ []:=by
   intro e0;rw [e0]at h1;exact absurd h1.1 (by decide)
  rw [hs];refine⟨by simpa using h1.2,?_,fun _=>?_⟩
  ·show join (l.take i) (l.drop (i+1))=l
   unfold join;rw [if_neg ha];exact hl.symm
  ·unfold isFull
   simp only [Bool.and_eq_true,decide_eq_true_eq];refine⟨h1.1,?_⟩;show(l.take i).length<=120
   rw [List.length_take];omega
theorem u8_all (p:UInt8->Bool) (h : ∀b:Fin 256,p (UInt8.ofNat b.val)=true) (b:UInt8):p b=true:=by
 have:=h ⟨b.toNat,b.toNat_lt⟩
 simpa using this
end Go.Proofs.YtaaneecceiefoaaGreatDoor.Id
namespace Go.Proofs.YtaaneecceiefoaaGreatDoor
open Go.RowKit
theorem okB_pre (a b:List UInt8) (h:Id.okB (a ++ b)=true):Id.okB a=true:=by
 cases a with
 | nil=>rfl
 | cons x a=>
  simp only [List.cons_append,Id.okB,List.all_append,Bool.and_eq_true]at h ⊢;exact⟨h.1,h.2.1⟩
theorem okB_snoc (l:List UInt8) (b:UInt8):Id.okB (l ++ [b])=(Id.okB l && if l=[]then Id.letB b else Id.nmB b):=by
 cases l with
 | nil=>simp [Id.okB]
 | cons x a=>
  simp only [List.cons_append,Id.okB,List.all_append,List.all_cons,List.all_nil,Bool.and_true];rw [if_neg (by simp),Bool.and_assoc]
theorem take_one (l:List UInt8) (k:Nat) (b:UInt8) (h:l[k]? = some b):l.take (k+1)=l.take k ++ [b]:=by
 obtain⟨hk,rfl⟩:=List.getElem?_eq_some_iff.1 h;exact List.take_succ_eq_append_getElem hk
theorem qgv (l:List UInt8) (k:Nat) (b:UInt8) (h:l[k]? = some b):Id.okB (l.take (k+1))=(Id.okB (l.take k) && if k=0 then Id.letB b else Id.nmB b):=by
 rw [take_one l k b h,okB_snoc]
 congr 1
 have hk:k<l.length:=(List.getElem?_eq_some_iff.1 h).1;by_cases h0:k=0
 ·subst h0;simp
 ·rw [if_neg (fun e=>h0 (by have:=congrArg List.length e;simp only [List.length_take,List.length_nil]at this;omega)),if_neg h0]
theorem qk4 (l:List UInt8) (k:Nat) (b:UInt8) (h:l[k]? = some b) (hb:(if k=0 then Id.letB b else Id.nmB b)=false):Id.isPart l=false:=by
 have h1:=qgv l k b h;rw [hb,Bool.and_false]at h1;cases he:Id.okB l
 ·simp [Id.isPart,he]
 ·rw [←List.take_append_drop (k+1) l]at he
  rw [okB_pre _ _ he]at h1;cases h1
theorem qi7 (l:List UInt8) (h:Id.okB l=true):Id.isPart l=(decide (1<=l.length) && decide (l.length<=40)):=by
 unfold Id.isPart;rw [h,Bool.true_and,Bool.eq_iff_iff];simp
theorem nm_cls (b:UInt8):Id.nmB b=decide (Id.cls b.toNat ≠ 0):=rfl
theorem let_cls (b:UInt8):Id.letB b=decide (Id.cls b.toNat=1 ∨ Id.cls b.toNat=2):=by
 unfold Id.letB;rw [Id.bcls];cases h1:Id.smB b <;> cases h2:Id.caB b <;> simp
 (repeat' split) <;> simp
theorem qo4 (c:Int) (h:128<=c):Id.cls c=0:=by
 unfold Id.cls
 (repeat' split) <;> omega
theorem nm_high (b:UInt8) (h:128<=b.toNat) (k:Nat):(if k=0 then Id.letB b else Id.nmB b)=false:=by
 have:=qo4 b.toNat (by omega);rw [let_cls,nm_cls,this]
 split <;> rfl
end Go.Proofs.YtaaneecceiefoaaGreatDoor
namespace Go.Proofs.YtaaneecceiefoaaGreatDoor
open Go.RowKit
theorem id_class (c:Int) (w:World):Calls Tryz.prog 80 #[.int .i32 c] w fun e w'=>e=.returned (.int .i64 (Id.cls c))/\w=w':=by
  go_enter Tryz.func80,Tryz.ntmps80
  go_wp2
  all_goals go_ret
  all_goals
    refine⟨qbj ?_,rfl⟩
    (try simp only [beq_iff_eq,beq_eq_false_iff_ne,ne_eq]at *)
    unfold Id.cls
    (repeat' split) <;> omega
theorem qcn {B:Nat} {w:World} (h:B<=w.heap.size) (s:ByteArray) (pos:Nat):Below B w (w.iter s pos):=by
  have:=(Below.refl B w).alloc h (.stringIter s pos);exact this
theorem qpn (s:ByteArray) (l:List UInt8) (w:World) (hl:s.data.toList=l) (hs:s.size<=1000000000000000) :
    Calls Tryz.prog 59 #[.string s] w fun e w'=>e=.returned (.bool (Id.isPart l))/\Below w.heap.size w w':=by
  have hsz:=Lib.hid (len_l s);have c:=Lib.hid (fun c W=>id_class c W);have H:=Lib.hid hl;clear hl
  go_enter Tryz.func59,Tryz.ntmps59
  go_wp2
  go_loopw [] (fun w' => ∃pos:Nat,w'=w.iter s pos/\pos<=s.size/\Hid (Id.okB (l.take pos)=true)) (fun w'=>s.size-w'.iterPos w.heap.size)
  case atStart=>exact⟨0,rfl,by omega,Lib.hid rfl⟩
  case round=>
    obtain⟨pos,rfl,hps,hok⟩:=hrel;by_cases hp:pos<s.size
    · have hg:l[pos]? = some (s[pos]'hp):=by rw [←H.out];exact get_l s pos hp
      have hg':=Lib.hid hg;clear hg;by_cases ha:(s[pos]'hp).toNat<128
      · have hnx : ∀ty,(Instr.next (.pointer (some ⟨w.heap.size,0,none⟩)) true ty).run Tryz.prog (w.iter s pos)=_:=fun ty=>run_next_ascii w s pos ty hp ha
        have hcl:=let_cls (s[pos]'hp);have hnm:=nm_cls (s[pos]'hp);have hb:=qk4 l pos _ hg'.out;have ht:=qgv l pos _ hg'.out;rw [hok.out,Bool.true_and]at ht;rw [hcl,hnm]at hb ht;have hb':=Lib.hid hb;have ht':=Lib.hid ht;clear hb ht hcl hnm;generalize hK:Id.cls ((s[pos]'hp).toNat:Int)=K at hb' ht'
        have cc : ∀W,Calls Tryz.prog 80 #[.int .i32 ((s[pos]'hp).toNat:Int)] W fun e w'=>e=.returned (.int .i64 K)/\W=w':=fun W=>by
          have:=c.out ((s[pos]'hp).toNat:Int) W;rw [hK]at this;exact this
        have cc':=Lib.hid cc;clear cc hK;have ends : ∀(b:Bool),(if pos=0 then decide (K=1 ∨ K=2)else decide (K ≠ 0))=false->b=false->Ending.returned (Value.bool b)=.returned (.bool (Id.isPart l)):=fun b h1 h2=>by rw [h2,hb'.out h1]
        have goes:(if pos=0 then decide (K=1 ∨ K=2)else decide (K ≠ 0))=true->Hid (Id.okB (l.take (pos+1))=true):=fun h=>Lib.hid (ht'.out.trans h)
        clear hb' ht';by_cases h0:pos=0
        · subst h0
          have h0':(((0:Nat):Int) == 0)=true:=rfl;rw [if_pos rfl]at ends goes;have E:=Lib.hid ends;have G:=Lib.hid goes;clear ends goes
          go_wp2_with (go_at_call 80;(with_reducible refine(cc'.out _).mono ?_);rintro e w' ⟨rfl,rfl⟩)
          all_goals first
            | (go_ret;exact⟨E.out _ (by simp_all) rfl,qcn (Nat.le_refl _) _ _⟩)
            | (go_roundw
               case rel=>exact⟨1,rfl,by omega,G.out (by simp_all)⟩
               case measure=>simp;omega)
        · have h0':((pos:Int) == 0)=false:=by simpa using h0
          rw [if_neg h0]at ends goes;have E:=Lib.hid ends;have G:=Lib.hid goes;clear ends goes
          go_wp2_with (go_at_call 80;(with_reducible refine(cc'.out _).mono ?_);rintro e w' ⟨rfl,rfl⟩)
          all_goals first
            | (go_ret;exact⟨E.out _ (by simp_all) rfl,qcn (Nat.le_refl _) _ _⟩)
            | (go_roundw
               case rel=>exact⟨pos+1,rfl,by omega,G.out (by simp_all)⟩
               case measure=>simp;omega)
      · have hnx : ∀ty,(Instr.next (.pointer (some ⟨w.heap.size,0,none⟩)) true ty).run Tryz.prog (w.iter s pos)=_:=fun ty=>run_next_any w s pos ty hp
        have hd:=decode_high s pos hp (by omega);generalize (Utf8.decode s pos).1=r at hnx hd;generalize (Utf8.decode s pos).2=wd at hnx hd
        have cc : ∀W,Calls Tryz.prog 80 #[.int .i32 (r:Int)] W fun e w'=>e=.returned (.int .i64 0)/\W=w':=fun W=>by
          have:=c.out (r:Int) W;rw [qo4 (r:Int) (by omega)]at this;exact this
        have cc':=Lib.hid cc;clear cc;have hf:=Lib.hid (qk4 l pos _ hg'.out (nm_high _ (by omega) pos))
        go_wp2_with (go_at_call 80;(with_reducible refine(cc'.out _).mono ?_);rintro e w' ⟨rfl,rfl⟩)
        all_goals (go_ret;exact⟨qa7 hf.out.symm,qcn (Nat.le_refl _) _ _⟩)
    · have hnx : ∀ty,(Instr.next (.pointer (some ⟨w.heap.size,0,none⟩)) true ty).run Tryz.prog (w.iter s pos)=_:=fun ty=>run_next_end w s pos ty hp
      have hln:l.length=s.size:=by rw [←H.out];exact hsz.out
      have hfin:=qi7 l (by have:=hok.out;rwa [List.take_of_length_le (by omega)]at this);rw [hln]at hfin;have F:=Lib.hid hfin;clear hfin hln;by_cases h1:1<=s.size
      · have F':Hid (Id.isPart l=decide (s.size<=40)):=Lib.hid (by rw [F.out,decide_eq_true h1,Bool.true_and])
        clear F;go_wp2
        all_goals go_ret
        all_goals exact⟨qa7 (by rw [F'.out,Bool.eq_iff_iff];simp;omega),qcn (Nat.le_refl _) _ _⟩
      · have F':Hid (Id.isPart l=false):=Lib.hid (by rw [F.out,decide_eq_false h1,Bool.false_and])
        clear F;go_wp2
        all_goals go_ret
        all_goals exact⟨qa7 F'.out.symm,qcn (Nat.le_refl _) _ _⟩
end Go.Proofs.YtaaneecceiefoaaGreatDoor
namespace Go.Proofs.YtaaneecceiefoaaGreatDoor
open Go.RowKit
def Strs (w:World) (v:Value) (ks:List (List UInt8)):Prop:=
 (ks=[]/\∃(a:Option Addr) (c:Nat),v=.slice a 0 c) ∨ ∃b off c:Nat,v=.slice (some ⟨b,off,none⟩) ks.length c/\ks.length<=140737488355328/\b<w.heap.size/\∀j k,ks[j]? = some k->w.cell? ⟨b,off+j,none⟩=some (.string (S k))
theorem Strs.below {w w':World} {v:Value} {ks:List (List UInt8)} (h:Strs w v ks) (hb:Below w.heap.size w w'):Strs w' v ks:=by
 rcases h with h|⟨b,off,c,h1,h2,h3,h4⟩
 ·exact .inl h
 ·exact .inr ⟨b,off,c,h1,h2,Nat.lt_of_lt_of_le h3 hb.size,fun j k hk=>by rw [hb.cell h3];exact h4 j k hk⟩
theorem qim:(Tryz.prog.info? 9).map (fun i=>(i.zero,i.size,i.bytes))=some (some (.string ByteArray.empty),1,16):=by kernel_rfl
def strV (k:List UInt8):Value:=.string (S k)
end Go.Proofs.YtaaneecceiefoaaGreatDoor
namespace Go.Proofs.YtaaneecceiefoaaGreatDoor
open Go.RowKit
theorem word_of (l:List UInt8) (h:l ∈ Id.words):Id.isWord l=true:=decide_eq_true h
def ML (w:World):Prop := ∃m:Int,w.cell? ⟨0,0,none⟩=some (.int .i64 m)
theorem ML.below {w w':World} (h:ML w) (hb:Below w.heap.size w w'):ML w':=by
 obtain⟨m,hm⟩:=h;exact⟨m,by rw [hb.cell (World.block_lt_of_cell? w _ hm)];exact hm⟩
theorem qkm (c:UInt8) : ∀l:List UInt8,(Id.cut c l).length=Lib.count l [c]+1
 | []=>by
  rw [Lib.count_miss (by simp [Lib.index])];rfl
 | b :: r=>by
  have ih:=qkm c r;by_cases hb:c=b
  ·subst hb
   have hi:Lib.index (c :: r) [c]=((0:Nat):Int):=by unfold Lib.index;simp [List.isPrefixOf]
   rw [Lib.count_hit (by simp) hi,Id.cut_hit];simp only [List.length_cons,List.length_nil,Nat.zero_add,List.drop_succ_cons,List.drop_zero,ih];omega
  ·have hp:([c].isPrefixOf (b :: r))=false:=by simp [List.isPrefixOf,hb]
   rw [Id.cut_miss c b r (fun e=>hb e.symm)]
   have hoh : ∀x:List (List UInt8),x ≠ []->(Id.onHead b x).length=x.length:=by
    intro x hx;cases x with
    | nil=>exact absurd rfl hx
    | cons p ps=>rfl
   rw [hoh _ (Id.cut_ne c r),ih];rcases Id.idx_one c r with⟨h1,h2⟩|h
   ·have hi:Lib.index (b :: r) [c] = -1:=by
     unfold Lib.index;rw [if_neg (by simp [hp]),if_pos (by simp [h1])]
    rw [Lib.count_miss hi,Lib.count_miss h1]
   ·obtain⟨i,hi⟩:=Int.eq_ofNat_of_zero_le h
    have hi':Lib.index r [c]=(i:Int):=hi
    have hi2:Lib.index (b :: r) [c]=((i+1:Nat):Int):=by
     unfold Lib.index;rw [if_neg (by simp [hp]),if_neg (by simp;omega),hi'];rfl
    rw [Lib.count_hit (by simp) hi',Lib.count_hit (by simp) hi2];rfl
theorem qio (s:ByteArray) (c:UInt8) (l:List UInt8) (hl:s.data.toList=l):Lib.splitB (S [c]) 0 (Lib.countB s (S [c])) s=(Id.cut c l).map S:=by
 have h:=Lib.splitB_data (S [c]) 0 (Lib.countB s (S [c])) s;have h2:=Id.split_cut c s.data.toList;have h3:Lib.splitK (S [c]).data.toList 0 (Lib.countB s (S [c])) s.data.toList=Id.cut c s.data.toList:=h2;rw [h3,hl]at h;rw [←h,List.map_map];have:(S ∘ fun x:ByteArray=>x.data.toList)=id:=by funext x;rfl
 rw [this,List.map_id]
theorem qkv (s:ByteArray) (c:UInt8) (l:List UInt8) (hl:s.data.toList=l):Lib.countB s (S [c])+1=(Id.cut c l).length:=by
 rw [qkm, ←hl];rfl
theorem qjc (s:ByteArray) (c:UInt8) (l:List UInt8) (w:World) (hl:s.data.toList=l) (hs:s.size<=1000000000) (hM:ML w) :
  Calls Tryz.prog 35 #[.string s,.string ⟨#[c]⟩] w fun e w'=>e=.returned (.slice (some ⟨w.heap.size,0,none⟩) (Id.cut c l).length (Id.cut c l).length)/\w'=w.alloc (.cells ((Id.cut c l).map strV).toArray 9):=by
 obtain⟨m,hm⟩:=hM;refine(Tryz.strings_Split s (S [c]) m w (by omega) hm (by rw [qbr];simp)).mono ?_;rintro e w' ⟨rfl,rfl⟩;rw [qkv s c l hl,qio s c l hl,List.map_map];exact⟨rfl,rfl⟩
end Go.Proofs.YtaaneecceiefoaaGreatDoor
namespace Go.Proofs.YtaaneecceiefoaaGreatDoor
open Go.RowKit Ck
theorem qbw {w:World} {B:Nat} {v:Value} {ks:List Str} (h:w.ownsRow B 9 1 v ks.length (ks.map strV)) (hl:ks.length<=1000000000):Texts w v ks:=by
 have h0:=h;rcases h.2 with⟨rfl,hx⟩|⟨g,cap,cur,rfl,hBg,hg,hc,_⟩
 ·have hk:=List.eq_nil_of_length_eq_zero hx
  subst hk;exact Sl.nil _ _ _ _ _
 ·refine⟨some ⟨g,0,none⟩,cap,rfl,by omega,hc,fun j k hk=>⟨g,0,rfl,(h0.lt g rfl).2,[.string (S k)],?_,rfl⟩⟩
  intro i u hu
  have hi0:i=0:=by
   cases i with
   | zero=>rfl
   | succ i=>simp at hu
  subst hi0;simp at hu;subst hu;have:=h0.cells (g:=g) rfl j (.string (S k)) (by rw [List.getElem?_map,hk];rfl);rw [Addr.add_lit]at this;rw [Nat.zero_add,Nat.mul_one,Nat.add_zero]
  simpa using this
end Go.Proofs.YtaaneecceiefoaaGreatDoor
namespace Go.Proofs.YtaaneecceiefoaaGreatDoor
open Go.RowKit Ck
def qhg (w:World) (ps:List PProb) (e:Ending) (w':World):Prop := ∃v,e=.returned v/\w'.ownsRow w.heap.size 153 3 v ps.length (ps.flatMap probC)/\Below w.heap.size w w'
theorem qpd {w:World} {B C:Nat} {e:TypeId} {z:Nat} {v:Value} {n:Nat} {xs:List Value} (h:w.ownsRow C e z v n xs) (hb:B<=C):w.ownsRow B e z v n xs:=by
 refine⟨h.1,?_⟩;rcases h.2 with hn|⟨g,cap,cur,h1,h2,rest⟩
 ·exact .inl hn
 ·exact .inr ⟨g,cap,cur,h1,Nat.le_trans hb h2,rest⟩
theorem qay {α:Type} {a b:List α} {n k:Nat} (h:a.length<=n) (h2:b.length<=k):(a ++ b).length<=n+k:=by rw [List.length_append];omega
theorem qnv (s:PSchema) (m:PMsg) (i:Nat) (f:PField):(qg2 s m i f).length<=10:=by
 unfold qg2 noted;exact qay (qay (qay (qay (qay (qay (qay (qay (qay (un_len _ _ _ _) (un_len _ _ _ _)) (un_len _ _ _ _)) (un_len _ _ _ _)) (un_len _ _ _ _)) (un_len _ _ _ _)) (un_len _ _ _ _)) (un_len _ _ _ _)) (un_len _ _ _ _)) (un_len _ _ _ _)
theorem qdv (d:Str) (lo hi:Int) : ∀(q:Option PSpan) (l:List PSpan),(qdw d lo hi q l).length<=2*l.length
 | q,[]=>by rw [qm1];simp
 | q,p :: r=>by
  have ih:=qdv d lo hi (some p) r;rw [qjt];unfold spanP;refine Nat.le_trans (qay (qay (un_len _ _ _ _) (un_len _ _ _ _)) ih) ?_;rw [List.length_cons];omega
def goneP (d:Str) (l:List Str):List PProb:=l.flatMap fun g=>un d (-1) (decide (Utf.bad g<0)) 7
theorem qnk (d:Str) (g:Str) (l:List Str):goneP d (g :: l)=un d (-1) (decide (Utf.bad g<0)) 7 ++ goneP d l:=rfl
end Go.Proofs.YtaaneecceiefoaaGreatDoor
namespace Go.Proofs.YtaaneecceiefoaaGreatDoor
open Go.RowKit
structure Row where
 e:TypeId
 z:Nat
 v:Value
 n:Nat
 xs:List Value
structure Box where
 g:Nat
 cs:Array Value
 T:TypeId
def qb6 (R:List Row) (X:List Box):List Nat:=R.filterMap (fun r=>r.v.ownBlock) ++ X.map Box.g
structure ST (w0:World) (R:List Row) (X:List Box) (w:World):Prop where
 bel:Bel w0 w
 rows : ∀r ∈ R,w.ownsRow w0.heap.size r.e r.z r.v r.n r.xs
 boxes : ∀b ∈ X,w0.heap.size<=b.g/\w.heap[b.g]? = some (.cells b.cs b.T (0,0))
 nd:(qb6 R X).Nodup
theorem qfq {α:Type} : ∀(l:List α) (i:Nat) (x:α),l[i]? = some x->∀y,l.Perm (x :: l.eraseIdx i)/\(l.set i y).Perm (y :: l.eraseIdx i)
 | [],i,x,h,y=>by simp at h
 | a :: l,0,x,h,y=>by
  have:a=x:=by simpa using h
  subst this;exact⟨List.Perm.refl _,List.Perm.refl _⟩
 | a :: l,i+1,x,h,y=>by
  have ih:=qfq l i x (by simpa using h) y;exact⟨(List.Perm.cons a ih.1).trans (List.Perm.swap x a _),(List.Perm.cons a ih.2).trans (List.Perm.swap y a _)⟩
theorem qeh {r:Row} {R:List Row} {X:List Box} (h:r.v.ownBlock=none):qb6 (r :: R) X=qb6 R X:=by
 unfold qb6;rw [List.filterMap_cons,h]
theorem qdf {r:Row} {R:List Row} {X:List Box} {g:Nat} (h:r.v.ownBlock=some g):qb6 (r :: R) X=g :: qb6 R X:=by
 unfold qb6;rw [List.filterMap_cons,h];rfl
theorem qg7 {r:Row} {R:List Row} {X:List Box} {g:Nat} (hr:r ∈ R) (h:r.v.ownBlock=some g):g ∈ qb6 R X:=List.mem_append_left _ (List.mem_filterMap.2 ⟨r,hr,h⟩)
theorem qg8 {b:Box} {R:List Row} {X:List Box} (hb:b ∈ X):b.g ∈ qb6 R X:=List.mem_append_right _ (List.mem_map.2 ⟨b,hb,rfl⟩)
section
variable {w0 w w' : World} {R R' : List Row} {X X' : List Box} {r : Row} {b : Box}
theorem ST.start (w:World):ST w [] [] w:=⟨Bel.refl _,fun r h=>(by cases h),fun b h=>(by cases h),List.nodup_nil⟩
theorem ST.perm (h:ST w0 R X w) (hR:R.Perm R') (hX:X.Perm X'):ST w0 R' X' w:=
 ⟨h.bel,fun r hr=>h.rows r (hR.mem_iff.2 hr),fun b hb=>h.boxes b (hX.mem_iff.2 hb),((hR.filterMap _).append (hX.map _)).nodup_iff.1 h.nd⟩
theorem ST.lt (h:ST w0 R X w) : ∀k ∈ qb6 R X,k<w.heap.size:=fun k hk=>by
 rcases List.mem_append.1 hk with hk|hk
 ·obtain⟨r,hr,he⟩:=List.mem_filterMap.1 hk
  exact((h.rows r hr).lt k he).2
 ·obtain⟨b,hb,rfl⟩:=List.mem_map.1 hk
  exact(Array.getElem?_eq_some_iff.1 (h.boxes b hb).2).1
theorem ST.belw (h:ST w0 R X w) (k:Bel w w'):ST w0 R X w':=
 ⟨Bel.of h.bel k,fun r hr=>qge (h.rows r hr) k,fun b hb=>⟨(h.boxes b hb).1,(Below.block k b.g (Array.getElem?_eq_some_iff.1 (h.boxes b hb).2).1).trans (h.boxes b hb).2⟩,h.nd⟩
theorem ST.head_ne (h:ST w0 (r :: R) X w) : ∀k ∈ qb6 R X,some k ≠ r.v.ownBlock:=fun k hk e=>by
 have hn:=h.nd;rw [qdf e.symm]at hn;exact(List.nodup_cons.1 hn).1 hk
theorem ST.tail_nd (h:ST w0 (r :: R) X w):(qb6 R X).Nodup:=by
 have hn:=h.nd;cases e:r.v.ownBlock with
 | none=>rwa [qeh e]at hn
 | some g=>rw [qdf e]at hn;exact(List.nodup_cons.1 hn).2
theorem ST.droprow0 (h:ST w0 (r :: R) X w):ST w0 R X w:=⟨h.bel,fun s hs=>h.rows s (List.mem_cons_of_mem _ hs),h.boxes,h.tail_nd⟩
theorem ST.grow0 {v':Value} {n':Nat} {xs':List Value} (h:ST w0 (r :: R) X w) (hg:w.grownBy w' r.v.ownBlock) (hown:w'.ownsRow w0.heap.size r.e r.z v' n' xs') (hf : ∀g,v'.ownBlock=some g->r.v.ownBlock=some g ∨ w.heap.size<=g) :
  ST w0 (⟨r.e,r.z,v',n',xs'⟩ :: R) X w':=by
 refine⟨Below.grown h.bel hg h.bel.size (fun k hk=>((h.rows r (List.mem_cons_self ..)).lt k hk).1),fun s hs=>?_,fun b hb=>⟨(h.boxes b hb).1,?_⟩,?_⟩
 ·rcases List.mem_cons.1 hs with rfl|hs
  ·exact hown
  ·refine(h.rows s (List.mem_cons_of_mem _ hs)).kept hg ?_
   cases e:s.v.ownBlock with
   | none=>exact .inl rfl
   | some g=>exact .inr (h.head_ne g (qg7 hs e))
 ·have hb2:=(h.boxes b hb).2
  exact(hg.block b.g (Array.getElem?_eq_some_iff.1 hb2).1 (h.head_ne b.g (qg8 hb))).trans hb2
 ·have htl:=h.tail_nd
  have hlt:=h.droprow0.lt;cases e:v'.ownBlock with
  | none=>rw [qeh e];exact htl
  | some g=>
   rw [qdf e];refine List.nodup_cons.2 ⟨fun hm=>?_,htl⟩;rcases hf g e with e2|e2
   ·exact h.head_ne g hm e2.symm
   ·have:=hlt g hm
    omega
theorem ST.addrow {e:TypeId} {z n:Nat} {v:Value} {xs:List Value} (h:ST w0 R X w) (k:Bel w w') (hown:w'.ownsRow w.heap.size e z v n xs):ST w0 (⟨e,z,v,n,xs⟩ :: R) X w':=by
 have h2:=h.belw k;refine⟨h2.bel,fun s hs=>?_,h2.boxes,?_⟩
 ·rcases List.mem_cons.1 hs with rfl|hs
  ·exact qpd hown h.bel.size
  ·exact h2.rows s hs
 ·cases e:v.ownBlock with
  | none=>rw [qeh e];exact h.nd
  | some g=>
   rw [qdf e];refine List.nodup_cons.2 ⟨fun hm=>?_,h.nd⟩;have:=h.lt g hm;have:=(hown.lt g e).1;omega
theorem ST.nilrow (h:ST w0 R X w) (e:TypeId) (z:Nat):ST w0 (⟨e,z,.slice none 0 0,0,[]⟩ :: R) X w:=h.addrow (Bel.refl _) (World.ownsRow_nil _ _ _ _)
theorem ST.addbox (h:ST w0 R X w) (cs:Array Value) (T:TypeId):ST w0 R (⟨w.heap.size,cs,T⟩ :: X) (w.alloc (.cells cs T)):=by
 have h2:=h.belw ((Bel.refl w).alloc (.cells cs T));refine⟨h2.bel,h2.rows,fun b hb=>?_,?_⟩
 ·rcases List.mem_cons.1 hb with rfl|hb
  ·exact⟨h.bel.size,heap_alloc_new _ _⟩
  ·exact h2.boxes b hb
 ·have hp:(qb6 R (⟨w.heap.size,cs,T⟩ :: X)).Perm (w.heap.size :: qb6 R X):=List.perm_middle
  refine hp.nodup_iff.2 (List.nodup_cons.2 ⟨fun hm=>?_,h.nd⟩);have:=h.lt _ hm;omega
theorem ST.box_ne (h:ST w0 R (b :: X) w):(∀k ∈ qb6 R X,k ≠ b.g)/\(qb6 R X).Nodup:=by
 have hp:(qb6 R (b :: X)).Perm (b.g :: qb6 R X):=List.perm_middle;have hn:=List.nodup_cons.1 (hp.nodup_iff.1 h.nd);exact⟨fun k hk e=>hn.1 (e ▸ hk),hn.2⟩
theorem ST.dropbox0 (h:ST w0 R (b :: X) w):ST w0 R X w:=⟨h.bel,h.rows,fun c hc=>h.boxes c (List.mem_cons_of_mem _ hc),h.box_ne.2⟩
theorem ST.setbox0 (h:ST w0 R (b :: X) w) (o:Nat) (v:Value):ST w0 R (⟨b.g,b.cs.setIfInBounds o v,b.T⟩ :: X) (w.setCell ⟨b.g,o,none⟩ v):=by
 have hb:=h.boxes b (List.mem_cons_self ..);have hg:=qb2 w b.g o v;refine⟨qbf h.bel hb.1,fun s hs=>?_,fun c hc=>?_,h.nd⟩
 ·refine(h.rows s hs).kept hg ?_
  cases e:s.v.ownBlock with
  | none=>exact .inl rfl
  | some g=>exact .inr fun e2=>h.box_ne.1 g (qg7 hs e) (by injection e2)
 ·rcases List.mem_cons.1 hc with rfl|hc
  ·exact⟨hb.1,heap_setCell_same w b.g o _ _ v hb.2⟩
  ·have h2:=h.boxes c (List.mem_cons_of_mem _ hc)
   exact⟨h2.1,(Below.heap_setCell _ _ _ _ (h.box_ne.1 c.g (qg8 hc))).trans h2.2⟩
theorem ST.to0 (h:ST w0 R X w) (i:Nat) (hi:R[i]? = some r):ST w0 (r :: R.eraseIdx i) X w:=h.perm (qfq R i r hi r).1 (List.Perm.refl _)
theorem ST.of0 (i:Nat) (hi:R[i]? = some r) {s:Row} (h:ST w0 (s :: R.eraseIdx i) X w):ST w0 (R.set i s) X w:=h.perm (qfq R i r hi s).2.symm (List.Perm.refl _)
theorem ST.grow {v':Value} {n':Nat} {xs':List Value} (h:ST w0 R X w) (i:Nat) (hi:R[i]? = some r) (hg:w.grownBy w' r.v.ownBlock) (hown:w'.ownsRow w0.heap.size r.e r.z v' n' xs') (hf : ∀g,v'.ownBlock=some g->r.v.ownBlock=some g ∨ w.heap.size<=g) :
  ST w0 (R.set i ⟨r.e,r.z,v',n',xs'⟩) X w':=ST.of0 i hi ((h.to0 i hi).grow0 hg hown hf)
theorem ST.setbox (h:ST w0 R X w) (j:Nat) (hj:X[j]? = some b) (o:Nat) (v:Value):ST w0 R (X.set j ⟨b.g,b.cs.setIfInBounds o v,b.T⟩) (w.setCell ⟨b.g,o,none⟩ v):=
 ((h.perm (List.Perm.refl _) (qfq X j b hj b).1).setbox0 o v).perm (List.Perm.refl _) (qfq X j b hj _).2.symm
theorem ST.row (h:ST w0 R X w) (i:Nat) (hi:R[i]? = some r):w.ownsRow w0.heap.size r.e r.z r.v r.n r.xs:=h.rows r (List.mem_of_getElem? hi)
theorem ST.box (h:ST w0 R X w) (j:Nat) (hj:X[j]? = some b):w.heap[b.g]? = some (.cells b.cs b.T (0,0)):=(h.boxes b (List.mem_of_getElem? hj)).2
theorem ST.boxlt (h:ST w0 R X w) (j:Nat) (hj:X[j]? = some b):w0.heap.size<=b.g/\b.g<w.heap.size:=⟨(h.boxes b (List.mem_of_getElem? hj)).1,(Array.getElem?_eq_some_iff.1 (h.box j hj)).1⟩
theorem ST.cell (h:ST w0 R X w) (j:Nat) (hj:X[j]? = some b) (o:Nat):w.cell? ⟨b.g,o,none⟩=b.cs[o]?:=Lib.cell_of_heap (h.box j hj) o
theorem ST.frz (h:ST w0 R X w) (j:Nat) (hj:X[j]? = some b) (o:Nat):w.frozen? ⟨b.g,o,none⟩=false:=Lib.frozen_of_heap (h.box j hj) o
theorem ST.rest {n:Nat} : ∀{R1:List Row},ST w0 (R1 ++ R) X w->ST w0 R X w
 | [],h=>h
 | r :: R1,h=>ST.rest (R1:=R1) (n:=n) (ST.droprow0 (r:=r) (R:=R1 ++ R) h)
end
end Go.Proofs.YtaaneecceiefoaaGreatDoor
namespace Go.Proofs.YtaaneecceiefoaaGreatDoor.Md
open Ck
structure PMem where
 name:Str
 ty:Str
 num:Int
structure PDecl where
 kind:Int
 name:Str
 frm:Str
 mems:List PMem
def cand (name:Str) (k:Nat):Str:=if k=0 then name else name ++ Lib.itoa ((k+1:Nat):Int)
def uniqF (taken:List Str) (name:Str):Nat->Nat->Str
 | 0,k=>cand name k
 | f+1,k=>if Id.has taken (cand name k)=true then uniqF taken name f (k+1)else cand name k
def unique (taken:List Str) (name:Str):Str:=uniqF taken name taken.length 0
def camel (full:Str):Str:=(Id.cut 46 full).flatMap Id.camel
def unGo:List Str->List PField->List Str
 | acc,[]=>acc
 | acc,f :: r=>unGo (if f.un ≠ []/\Id.has acc f.un=false then acc ++ [f.un]else acc) r
def unions (m:PMsg):List Str:=unGo [] m.fields
def word (k:Int):Str:=if k=1 then [98,111,111,108]else if k=2 then [105,51,50]else if k=3 then [105,54,52]else if k=4 then [117,51,50]else if k=5 then [117,54,52]else if k=6 then [100,111,117,98,108,101]else if k=7 then [116,101,120,116]else [98,121,116,101,115]
def isK (k:Int) (f:Str) (d:PDecl):Bool:=decide (d.kind=k) && decide (d.frm=f)
def qn5 (D:List PDecl) (k:Int) (f:Str):Str:=((D.find? (isK k f)).map (·.name)).getD []
def element (D:List PDecl) (tk:Int) (tn:Str):Str:=if tk=10 then qn5 D 1 tn else if tk=9 then qn5 D 3 tn else word tk
def carded (card:Int) (key t:Str):Str:=if card=2 then 63 :: t else if card=4 then 91 :: 93 :: t else if card=5 then [109,97,112,91] ++ key ++ [93] ++ t else t
def fieldT (D:List PDecl) (f:PField):Str:=carded f.card (word f.key) (element D f.tk f.tn)
def addM (l:List PMem) (name ty:Str) (num:Int):List PMem:=l ++ [⟨unique (l.map (·.name)) (Id.camel name),ty,num⟩]
def recGo (D:List PDecl) (m:Str):List PMem->List Str->List PField->List PMem
 | out,had,[]=>out
 | out,had,f :: r=>if f.un=[]then recGo D m (addM out f.name (fieldT D f) f.num) had r else if Id.has had f.un=true then recGo D m out had r else recGo D m (addM out f.un (qn5 D 2 (m ++ 58 :: f.un)) (-1)) (had ++ [f.un]) r
def record (D:List PDecl) (m:PMsg):List PMem:=recGo D m.name [] [] m.fields
def chGo (D:List PDecl) (u:Str):List PMem->List PField->List PMem
 | out,[]=>out
 | out,f :: r=>chGo D u (if f.un=u then addM out f.name (element D f.tk f.tn) f.num else out) r
def choice (D:List PDecl) (m:PMsg) (u:Str):List PMem:=chGo D u [] m.fields
def streamW:Str:=[115,116,114,101,97,109,32]
def calledT (shape:Int) (i o:Str):Str:=(if shape=3 ∨ shape=4 then streamW ++ i else i) ++ [45,62] ++ (if shape=2 ∨ shape=4 then streamW ++ o else o)
def clGo (D:List PDecl):Nat->List PMem->List PMeth->List PMem
 | _,out,[]=>out
 | i,out,m :: r=>clGo D (i+1) (addM out m.name (calledT m.shape (qn5 D 1 m.inn) (qn5 D 1 m.out)) i) r
def client (D:List PDecl) (v:PSvc):List PMem:=clGo D 0 [] v.meths
def itGo:List PMem->List PItem->List PMem
 | out,[]=>out
 | out,x :: r=>itGo (addM out x.name [] x.num) r
def items (e:PEnum):List PMem:=itGo [] e.items
def kindW (k:Int):Str:=if k=1 then [114,101,99,111,114,100]else if k=2 then [99,104,111,105,99,101]else if k=3 then [110,97,109,101,115]else if k=4 then [99,108,105,101,110,116]else [63]
def memT (m:PMem):Str:=[32,32] ++ m.name ++ [32] ++ Lib.itoa m.num ++ (if m.ty=[]then []else 32 :: m.ty) ++ [10]
def declT (d:PDecl):Str:=kindW d.kind ++ [32] ++ d.name ++ [32,61,32] ++ d.frm ++ [10] ++ d.mems.flatMap memT
def text (l:List PDecl):Str:=l.flatMap declT
end Go.Proofs.YtaaneecceiefoaaGreatDoor.Md
namespace Go.Proofs.YtaaneecceiefoaaGreatDoor
open Go.RowKit Ck Md
def memC (m:PMem):List Value:=[.string (S m.name),.string (S m.ty),.int .i64 m.num]
def VMem (w:World) (vs:List Value) (m:PMem):Prop:=vs=memC m
theorem VMem.stays:Stays VMem:=fun _ _ _ _ _ h=>h
def Mems:=Sv 3 VMem
def VDecl (w:World) (vs:List Value) (d:PDecl):Prop := ∃mv,vs=[.int .i64 d.kind,.string (S d.name),.string (S d.frm),mv]/\Mems w mv d.mems
theorem VDecl.stays:Stays VDecl:=fun _ _ _ _ k ⟨mv,h1,h2⟩=>⟨mv,h1,h2.bel VMem.stays k⟩
def whC (d:PDecl):List Value:=[.int .i64 d.kind,.string (S d.frm)]
def nmC (l:List Str):List Value:=l.map fun s=>.string (S s)
end Go.Proofs.YtaaneecceiefoaaGreatDoor
namespace Go.Proofs.YtaaneecceiefoaaGreatDoor
open Go.RowKit Ck Md
end Go.Proofs.YtaaneecceiefoaaGreatDoor
namespace Go.Proofs.YtaaneecceiefoaaGreatDoor
open Go.RowKit
end Go.Proofs.YtaaneecceiefoaaGreatDoor
namespace Go.Proofs.YtaaneecceiefoaaGreatDoor
open Go.RowKit Ck Md
def PT (w : World) : Prop := Lib.TabIs Tryz.prog w "internal/strconv.uint64pow10" .u64 Lib.pow10Tab
theorem PT.bel {w w':World} (h:PT w) (k:Bel w w'):PT w':=Lib.tabBelow_of_tabIs h w' k.out
end Go.Proofs.YtaaneecceiefoaaGreatDoor
namespace Go.Proofs.YtaaneecceiefoaaGreatDoor
open Go.RowKit Ck Md
theorem qau (w:World) (vs:List Value) (t:TypeId) : ∀(j:Nat) (u:Value),vs[j]? = some u->(w.alloc (.cells vs.toArray t)).cell? ((⟨w.heap.size,0,none⟩:Addr).add j)=some u:=by
 intro j u h;rw [Addr.add_lit,Nat.zero_add,World.cell?_alloc_at _ _ _ _ rfl]
 simpa using h
theorem qbc {N M:Nat} {v0:Value} {g2 n cap:Nat} (h:v0.ownBlock=some g2 ∨ g2=N) (hN:M<=N) : ∀g,(Value.slice (some ⟨g2,0,none⟩) n cap).ownBlock=some g->v0.ownBlock=some g ∨ M<=g:=fun g hg=>by
 have:g2=g:=by simpa [Value.ownBlock]using hg
 subst this;rcases h with h|h
 ·exact .inl h
 ·right;omega
end Go.Proofs.YtaaneecceiefoaaGreatDoor
namespace Go.Proofs.YtaaneecceiefoaaGreatDoor
open Go.RowKit Ck Md
end Go.Proofs.YtaaneecceiefoaaGreatDoor
namespace Go.Proofs.YtaaneecceiefoaaGreatDoor
open Go.RowKit Ck Md
def VWh (w:World) (vs:List Value) (d:PDecl):Prop:=vs=whC d
theorem VWh.stays:Stays VWh:=fun _ _ _ _ _ h=>h
def NM (w:World) (g:Nat) (D:List PDecl):Prop := ∃vn vw,w.cell? ⟨g,3,none⟩=some vn/\w.cell? ⟨g,4,none⟩=some vw/\Strs w vn (D.map (·.name))/\Sv 2 VWh w vw D
theorem NM.bel {w w':World} {g:Nat} {D:List PDecl} (h:NM w g D) (k:Bel w w'):NM w' g D:=by
 obtain⟨vn,vw,h1,h2,h3,h4⟩:=h;exact⟨vn,vw,k.some h1,k.some h2,h3.below k.out,h4.bel VWh.stays k⟩
end Go.Proofs.YtaaneecceiefoaaGreatDoor
namespace Go.Proofs.YtaaneecceiefoaaGreatDoor
open Go.RowKit Ck Md
end Go.Proofs.YtaaneecceiefoaaGreatDoor
namespace Go.Proofs.YtaaneecceiefoaaGreatDoor
open Go.RowKit Ck Md
end Go.Proofs.YtaaneecceiefoaaGreatDoor
namespace Go.Proofs.YtaaneecceiefoaaGreatDoor
open Go.RowKit Ck Md
end Go.Proofs.YtaaneecceiefoaaGreatDoor
namespace Go.Proofs.YtaaneecceiefoaaGreatDoor
open Go.RowKit Ck Md
end Go.Proofs.YtaaneecceiefoaaGreatDoor
namespace Go.Proofs.YtaaneecceiefoaaGreatDoor
open Go.RowKit Ck Md
end Go.Proofs.YtaaneecceiefoaaGreatDoor
namespace Go.Proofs.YtaaneecceiefoaaGreatDoor
open Go.RowKit Ck Md
end Go.Proofs.YtaaneecceiefoaaGreatDoor
namespace Go.Proofs.YtaaneecceiefoaaGreatDoor
open Go.RowKit Ck Md
end Go.Proofs.YtaaneecceiefoaaGreatDoor
namespace Go.Proofs.YtaaneecceiefoaaGreatDoor
open Go.RowKit Ck Md
end Go.Proofs.YtaaneecceiefoaaGreatDoor
namespace Go.Proofs.YtaaneecceiefoaaGreatDoor.Md
open Ck
theorem qo1 (x:UInt8) : ∀(l:Str),x ∈ l->x ≠ 46->∃p,p ∈ Id.cut 46 l/\x ∈ p
 | [],h,_=>by cases h
 | b :: r,h,hx=>by
  by_cases hb:b=46
  ·subst hb
   rw [Id.cut_hit];rcases List.mem_cons.1 h with e|h
   ·exact absurd e hx
   ·obtain⟨p,hp,hxp⟩:=qo1 x r h hx
    exact⟨p,List.mem_cons_of_mem _ hp,hxp⟩
  ·rw [Id.cut_miss 46 b r hb]
   rcases List.mem_cons.1 h with rfl|h
   ·cases e:Id.cut 46 r with
    | nil=>exact⟨[x],by simp [Id.onHead],by simp⟩
    | cons q qs=>exact⟨x :: q,by simp [Id.onHead],by simp⟩
   ·obtain⟨p,hp,hxp⟩:=qo1 x r h hx
    cases e:Id.cut 46 r with
    | nil=>rw [e]at hp;cases hp
    | cons q qs=>
     rw [e]at hp;rcases List.mem_cons.1 hp with rfl|hp
     ·exact⟨b :: p,by simp [Id.onHead],List.mem_cons_of_mem _ hxp⟩
     ·exact⟨p,by simp [Id.onHead,hp],hxp⟩
theorem part_nm {l:Str} (h:Id.isPart l=true):(∀x ∈ l,Id.nmB x=true)/\1<=l.length/\l.length<=40:=by
 unfold Id.isPart at h;rw [Bool.and_eq_true,decide_eq_true_iff]at h;refine⟨?_,h.2⟩;cases l with
 | nil=>intro x hx;cases hx
 | cons b r=>
  have h1:=h.1;unfold Id.okB at h1;rw [Bool.and_eq_true]at h1;intro x hx;rcases List.mem_cons.1 hx with rfl|hx
  ·exact Id.let_nm x h1.1
  ·exact List.all_eq_true.1 h1.2 x hx
theorem full_ok {l:Str} (h:Id.isFull l=true):58 ∉ l/\l.length<=120:=by
 unfold Id.isFull at h;rw [Bool.and_eq_true,decide_eq_true_iff]at h;refine⟨fun hm=>?_,h.2⟩;obtain⟨p,hp,hx⟩:=qo1 58 l hm (by decide);have:=(part_nm (List.all_eq_true.1 h.1 p hp)).1 58 hx
 revert this
 decide
end Go.Proofs.YtaaneecceiefoaaGreatDoor.Md
