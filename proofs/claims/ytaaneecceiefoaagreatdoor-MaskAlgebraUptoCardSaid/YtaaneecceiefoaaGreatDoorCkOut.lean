import Derived.Test.YtaaneecceiefoaaGreatDoorIdWord
import Derived.Test.YtaaneecceiefoaaGreatDoorUtfDec
import Derived.Test.YtaaneecceiefoaaGreatDoorShelf
import Derived.Laws.Bits64b
import Derived.Deep.RegionLaw
import Derived.Deep.AppendLies
import Derived.Test.YtaaneecceiefoaaGreatDoorOpen
import Derived.Deep.RegionHeld3
import Derived.Test.YtaaneecceiefoaaGreatDoorOrd
import Derived.Deep.DeepCutAuto
import Derived.Deep.CutBlock
import Derived.Shelf.SlicesQ.Load
import Derived.Maps.OwnSet
import Derived.Maps.Views
import Derived.Lib.LastIndexByte
import Derived.Lib.OthersKept
set_option maxRecDepth 100000
set_option maxHeartbeats 4000000
set_option linter.unusedVariables false
set_option linter.unusedSimpArgs false
namespace Go.Proofs.YtaaneecceiefoaaGreatDoor
open Go.RowKit
end Go.Proofs.YtaaneecceiefoaaGreatDoor
namespace Go.Proofs.YtaaneecceiefoaaGreatDoor
open Go.RowKit
theorem _root_.Go.RowKit.Below.bal {w a:World} (h:Below w.heap.size w a) (o:Obj):Below w.heap.size w (a.alloc o):=h.alloc h.size o
theorem _root_.Go.RowKit.Below.link {w a b:World} (k:Below a.heap.size a b) (h:Below w.heap.size w a):Below w.heap.size w b:=h.trans (k.mono h.size)
theorem bcell {W w1:World} (hb:Below W.heap.size W w1):(∀b o,b<W.heap.size->w1.cell? ⟨b,o,none⟩=W.cell? ⟨b,o,none⟩)/\(∀b o,b<W.heap.size->w1.frozen? ⟨b,o,none⟩=W.frozen? ⟨b,o,none⟩):=
 ⟨fun b o h=>hb.cell (p:=⟨b,o,none⟩) h,fun b o h=>hb.frozen (p:=⟨b,o,none⟩) h⟩
theorem wrap64_u (b:Int) (h0:0<=b) (h1:b<18446744073709551616):wrap64 b=if b<9223372036854775808 then b else b-18446744073709551616:=by
 unfold wrap64;split <;> omega
theorem emp (t:ByteArray):t.toList.isEmpty=decide (t.data.toList=[]):=by
 rw [ByteArray.toList_eq];cases t.data.toList <;> rfl
end Go.Proofs.YtaaneecceiefoaaGreatDoor
namespace Go.Proofs.YtaaneecceiefoaaGreatDoor
open Go.RowKit Ck
def qcd (name:Str):Int × Int:=(Ck.find? name).getD (0,0)
end Go.Proofs.YtaaneecceiefoaaGreatDoor
namespace Go.Proofs.YtaaneecceiefoaaGreatDoor
open Go.RowKit Ck
theorem qid:(Tryz.prog.info? 153).map (fun i=>(i.zero,i.size,i.bytes))=some (some (.agg #[.string ByteArray.empty,.int .i64 0,.int .i64 0]),3,32):=by kernel_rfl
theorem qjf (ps:List PProb) (d:Str) (num e:Int):(ps ++ [(⟨d,num,e⟩:PProb)]).flatMap probC=ps.flatMap probC ++ [.string (S d),.int .i64 num,.int .i64 e]:=by
 simp [probC]
theorem qbi (w:World) (b i:Nat) (v:Value):w.grownBy (w.setCell ⟨b,i,none⟩ v) (some b):=
 ⟨rfl,rfl,rfl,by simp [World.setCell],fun k _ hk=>Below.heap_setCell _ _ _ _ (fun e=>hk (by rw [e]))⟩
theorem qke {w:World} {B:Nat} {e:TypeId} {size:Nat} {v:Value} {n:Nat} {xs:List Value} (h:w.ownsRow B e size v n xs) : ∀g,v.ownBlock=some g->∃c fz,w.heap[g]? = some (.cells c e fz):=fun g hg=>by
 rcases h.2 with⟨hv,_⟩|⟨g',_,cur,hv,_,hgg,_⟩
 ·rw [hv]at hg
  cases hg
 ·rw [hv]at hg
  cases hg;exact⟨cur,_,hgg⟩
end Go.Proofs.YtaaneecceiefoaaGreatDoor
namespace Go.Proofs.YtaaneecceiefoaaGreatDoor
open Go.RowKit Ck
end Go.Proofs.YtaaneecceiefoaaGreatDoor
namespace Go.Proofs.YtaaneecceiefoaaGreatDoor
open Go.RowKit Ck
end Go.Proofs.YtaaneecceiefoaaGreatDoor
namespace Go.Proofs.YtaaneecceiefoaaGreatDoor
open Go.RowKit Ck
theorem qf6 {w w':World} {B:Nat} {e:TypeId} {size:Nat} {v:Value} {n:Nat} {xs:List Value} (h:w.ownsRow B e size v n xs) (k:Bel w w'):w'.ownsRow B e size v n xs:=by
 refine⟨h.1,?_⟩;rcases h.2 with hn|⟨g,cap,cur,rfl,hb,hgg,rest⟩
 ·exact .inl hn
 ·exact .inr ⟨g,cap,cur,rfl,hb,(Below.block k g (Array.getElem?_eq_some_iff.1 hgg).1).trans hgg,rest⟩
theorem qkz {e:TypeId} {b:Option Nat} {w w':World} (k:Bel w w'):Lib.OthersKept e b w w':=fun i o hi _ _=>(Below.block k i (Array.getElem?_eq_some_iff.1 hi).1).trans hi
end Go.Proofs.YtaaneecceiefoaaGreatDoor
namespace Go.Proofs.YtaaneecceiefoaaGreatDoor
open Go.RowKit Ck
def qd6 (l:List PSpan) (k:Nat):Option PSpan:=if k=0 then none else l[k-1]?
theorem un_len (d:Str) (num:Int) (ok:Bool) (e:Int):(un d num ok e).length<=1:=by
 cases ok <;> simp [un]
def spanP (d:Str) (lo hi:Int) (last:Option PSpan) (p:PSpan):List PProb:=
 un d (-1) (decide (lo<=p.lo/\p.hi<=hi/\p.lo<=p.hi)) 6 ++ un d (-1) (match last with|none=>true|some q=>decide (q.hi<p.lo)) 11
theorem qk8 (d:Str) (lo hi:Int) (q:Option PSpan):qd1 d lo hi q []=[]:=by cases q <;> rfl
theorem qi5 (d:Str) (lo hi:Int) (q:Option PSpan) (p:PSpan) (r:List PSpan):qd1 d lo hi q (p :: r)=spanP d lo hi q p ++ qd1 d lo hi (some p) r:=rfl
end Go.Proofs.YtaaneecceiefoaaGreatDoor
namespace Go.Proofs.YtaaneecceiefoaaGreatDoor
open Go.RowKit Ck
theorem qe0 (w:World) (o:Obj) (n:Nat) (h:n=w.heap.size):(w.alloc o).heap[n]? = some o:=by subst h;exact heap_alloc_new w o
section
variable {w0 : World} {fb : Nat} {d : Str} {num : Int} {w : World} {bl : List (Nat × Array Value × TypeId)} {N : Nat} {ps : List PProb} {wx : World}
end
end Go.Proofs.YtaaneecceiefoaaGreatDoor
namespace Go.Proofs.YtaaneecceiefoaaGreatDoor
open Go.RowKit Ck
def idxL {α:Type} (p:α->Bool) (xs:List α):Int:=match xs.findIdx? p with|some i=>(i:Int)|none => -1
theorem idxL_hit {α:Type} (p:α->Bool) (xs:List α) (k:Nat) (x:α) (hx:xs[k]? = some x) (hp:p x=true) (hn : ∀j y,j<k->xs[j]? = some y->p y=false):idxL p xs=(k:Int):=by
 unfold idxL
 have:xs.findIdx? p=some k:=by
  rw [List.findIdx?_eq_some_iff_getElem];obtain⟨h,rfl⟩:=List.getElem?_eq_some_iff.1 hx;refine⟨h,hp,fun j hj=>?_⟩;have:=hn j _ hj (List.getElem?_eq_getElem (by omega))
  simpa using this
 rw [this]
theorem qn8 {α:Type} (p:α->Bool) (xs:List α) (hn : ∀j y,j<xs.length->xs[j]? = some y->p y=false):idxL p xs = -1:=by
 unfold idxL
 have:xs.findIdx? p=none:=by
  rw [List.findIdx?_eq_none_iff];intro x hx;obtain⟨j,hj,rfl⟩:=List.mem_iff_getElem.1 hx;exact hn j _ hj (List.getElem?_eq_getElem hj)
 rw [this]
theorem qn9 {α:Type} (p:α->Bool) (xs:List α):(idxL p xs<0/\xs.find? p=none) ∨ ∃(k:Nat) (x:α),idxL p xs=(k:Int)/\xs[k]? = some x/\xs.find? p=some x/\k<xs.length:=by
 unfold idxL;cases h:xs.findIdx? p with
 | none=>
  refine .inl ⟨by show(-1:Int)<0;omega,?_⟩;rw [List.findIdx?_eq_none_iff]at h;rw [List.find?_eq_none];intro x hx;simpa using h x hx
 | some i=>
  rw [List.findIdx?_eq_some_iff_getElem]at h;obtain⟨hi,hp,hn⟩:=h;refine .inr ⟨i,xs[i],rfl,List.getElem?_eq_getElem hi,?_,hi⟩;rw [List.find?_eq_some_iff_getElem];exact⟨hp,i,hi,rfl,fun j hj=>by simpa using hn j hj⟩
def PredOf (α:Type) (V:World->List Value->α->Prop) (w:World) (xs:List α) (p:α->Bool) (g:Nat) (lb:Array Value):Prop:=
 ∀(x:α) (vs:List Value) (W:World),x ∈ xs->V w vs x->Bel w W->Calls Tryz.prog g (#[.agg vs.toArray] ++ lb) W fun e w'=>e=.returned (.bool (p x))/\Below W.heap.size W w'
theorem qec (w:World):(isAgg 65).run Tryz.prog w=.ok true w:=by kernel_rfl
theorem qd2 (w:World):(Go.sizeOf 65).run Tryz.prog w=.ok 16 w:=by kernel_rfl
end Go.Proofs.YtaaneecceiefoaaGreatDoor
namespace Go.Proofs.YtaaneecceiefoaaGreatDoor
open Go.RowKit Ck
end Go.Proofs.YtaaneecceiefoaaGreatDoor
namespace Go.Proofs.YtaaneecceiefoaaGreatDoor
open Go.RowKit Ck
theorem VMsg.len (w:World) (vs:List Value) (x:PMsg) (h:VMsg w vs x):vs.length=5:=by
 obtain⟨_,_,_,_,rfl,_⟩:=h;rfl
theorem VEnum.len (w:World) (vs:List Value) (x:PEnum) (h:VEnum w vs x):vs.length=5:=by
 obtain⟨_,_,_,rfl,_⟩:=h;rfl
theorem VSpan.len (w:World) (vs:List Value) (x:PSpan) (h:VSpan w vs x):vs.length=2:=by
 rw [show vs=_ from h];rfl
theorem VItem.len (w:World) (vs:List Value) (x:PItem) (h:VItem w vs x):vs.length=3:=by
 obtain⟨_,rfl,_⟩:=h;rfl
theorem VField.len (w:World) (vs:List Value) (x:PField) (h:VField w vs x):vs.length=16:=by
 obtain⟨_,_,rfl,⟨_,_,_,_,_,_,_,_,rfl,_⟩,_⟩:=h;rfl
theorem qa6 {α:Type} {C:Nat} {E:World->Nat->Nat->α->Prop} {w:World} {v:Value} {xs:List α} (h:Sl C E w v xs) : ∃(q:Option Addr) (c:Nat),v=.slice q xs.length c/\xs.length<=140737488355328:=by
 obtain⟨q,c,h1,h2,_⟩:=h;exact⟨q,c,h1,h2⟩
def zMsg:List Value:=[.string ByteArray.empty,.slice none 0 0,.slice none 0 0,.slice none 0 0,.slice none 0 0]
theorem qca {w a:World} {g:Nat} {o:Obj} (hb:Below a.heap.size a w) (h:a.heap[g]? = some o):w.heap[g]? = some o:=by
 have hlt:g<a.heap.size:=(Array.getElem?_eq_some_iff.1 h).1;rw [hb.block g hlt];exact h
theorem qbl {P:Program} {fn:Func} {p u:Tmp} {ty:TypeId} (h:fn.results=#[.cell p ty,.tmp u]) {tmps:Array Value} {w:World} {g:Nat} {t:TypeId} {cs:Array Value} {d:TypeDesc} {y:Value}
  (hp:tmps.getD p undef=.pointer (some ⟨g,0,none⟩)) (hy:tmps.getD u undef=y) (hg:w.heap[g]? = some (.cells cs t (0,0)))
  (hu:P.underlying ty=some d) (hd:(match d with | .struct _ | .array _ _=>true|_=>false)=true) (hi:(P.info? ty).map (·.size)=some cs.size) :
  (results fn tmps).run P w=.ok (.tuple #[.agg cs,y]) w:=by
 rw [results_cell_tmp h,hp,hy];simp [asAddr,run_loadVar_row w g t ty cs (0,0) d hg hu hd hi]
end Go.Proofs.YtaaneecceiefoaaGreatDoor
namespace Go.Proofs.YtaaneecceiefoaaGreatDoor
open Go.RowKit Ck
end Go.Proofs.YtaaneecceiefoaaGreatDoor
namespace Go.Proofs.YtaaneecceiefoaaGreatDoor.Id
theorem cut_append (c:UInt8) (b:List UInt8) (hb:c ∉ b) : ∀a:List UInt8,cut c (a ++ c :: b)=cut c a ++ [b]
 | []=>by
  show cut c (c :: b)=[[]] ++ [b]
  rw [cut_hit,cut_none c b hb];rfl
 | x :: a=>by
  have ih:=cut_append c b hb a;by_cases hx:x=c
  ·subst hx
   rw [List.cons_append,cut_hit,cut_hit,ih];rfl
  ·rw [List.cons_append,cut_miss c x _ hx,cut_miss c x _ hx,ih]
   have:=cut_ne c a;cases hc:cut c a with
   | nil=>exact absurd hc this
   | cons p ps=>rfl
theorem isFull_ne {l:List UInt8} (h:isFull l=true):l ≠ []:=by
 intro e;subst e;exact absurd h (by decide)
theorem split_at (l:List UInt8) (i:Nat) (h:lastDot l=i) (hi:i<l.length) (h3:l[i]? = some 46):l=l.take i ++ 46 :: l.drop (i+1):=by
 conv=>lhs;rw [←List.take_append_drop i l]
 rw [List.drop_eq_getElem_cons hi];rw [List.getElem?_eq_getElem hi]at h3;rw [Option.some.inj h3]
theorem full_split {l:List UInt8} (h:isFull l=true):isPart (splitL l).2=true/\join (splitL l).1 (splitL l).2=l/\((splitL l).1 ≠ []->isFull (splitL l).1=true):=by
 unfold isFull at h;simp only [Bool.and_eq_true,decide_eq_true_eq]at h;obtain⟨h1,h2⟩:=h;rcases lastDot_spec l with⟨e,hn⟩|⟨i,e,hi,h3,h4⟩
 ·have hs:splitL l=([],l):=by unfold splitL;rw [if_pos e]
  rw [cut_none 46 l hn]at h1;rw [hs];simp at h1;exact⟨h1,by simp [join],fun h=>absurd rfl h⟩
 ·have hs:splitL l=(l.take i,l.drop (i+1)):=by unfold splitL;rw [if_neg (by omega),e];rfl
  have hl:=split_at l i e hi h3
  have hn:(46:UInt8) ∉ l.drop (i+1):=by
   intro hm;obtain⟨j,hj⟩:=List.mem_iff_getElem?.1 hm;rw [List.getElem?_drop]at hj;exact h4 (i+1+j) (by omega) hj
  have hc:cut 46 l=cut 46 (l.take i) ++ [l.drop (i+1)]:=by
   conv=>lhs;rw [hl]
   exact cut_append 46 _ hn _
  rw [hc,List.all_append]at h1;simp only [Bool.and_eq_true]at h1
  have ha:l.take i ≠ []:=by
   intro e0;rw [e0]at h1;exact absurd h1.1 (by decide)
  rw [hs];refine⟨by simpa using h1.2,?_,fun _=>?_⟩
  ·show join (l.take i) (l.drop (i+1))=l
   unfold join;rw [if_neg ha];exact hl.symm
  ·unfold isFull
   simp only [Bool.and_eq_true,decide_eq_true_eq];refine⟨h1.1,?_⟩;show(l.take i).length<=120
   rw [List.length_take];omega
theorem u8_all (p:UInt8->Bool) (h : ∀b:Fin 256,p (UInt8.ofNat b.val)=true) (b:UInt8):p b=true:=by
 have:=h ⟨b.toNat,b.toNat_lt⟩
 simpa using this
end Go.Proofs.YtaaneecceiefoaaGreatDoor.Id
namespace Go.Proofs.YtaaneecceiefoaaGreatDoor
open Go.RowKit
theorem okB_pre (a b:List UInt8) (h:Id.okB (a ++ b)=true):Id.okB a=true:=by
 cases a with
 | nil=>rfl
 | cons x a=>
  simp only [List.cons_append,Id.okB,List.all_append,Bool.and_eq_true]at h ⊢;exact⟨h.1,h.2.1⟩
theorem okB_snoc (l:List UInt8) (b:UInt8):Id.okB (l ++ [b])=(Id.okB l && if l=[]then Id.letB b else Id.nmB b):=by
 cases l with
 | nil=>simp [Id.okB]
 | cons x a=>
  simp only [List.cons_append,Id.okB,List.all_append,List.all_cons,List.all_nil,Bool.and_true];rw [if_neg (by simp),Bool.and_assoc]
theorem take_one (l:List UInt8) (k:Nat) (b:UInt8) (h:l[k]? = some b):l.take (k+1)=l.take k ++ [b]:=by
 obtain⟨hk,rfl⟩:=List.getElem?_eq_some_iff.1 h;exact List.take_succ_eq_append_getElem hk
theorem qfm (l:List UInt8) (k:Nat) (b:UInt8) (h:l[k]? = some b):Id.okB (l.take (k+1))=(Id.okB (l.take k) && if k=0 then Id.letB b else Id.nmB b):=by
 rw [take_one l k b h,okB_snoc]
 congr 1
 have hk:k<l.length:=(List.getElem?_eq_some_iff.1 h).1;by_cases h0:k=0
 ·subst h0;simp
 ·rw [if_neg (fun e=>h0 (by have:=congrArg List.length e;simp only [List.length_take,List.length_nil]at this;omega)),if_neg h0]
theorem qih (l:List UInt8) (k:Nat) (b:UInt8) (h:l[k]? = some b) (hb:(if k=0 then Id.letB b else Id.nmB b)=false):Id.isPart l=false:=by
 have h1:=qfm l k b h;rw [hb,Bool.and_false]at h1;cases he:Id.okB l
 ·simp [Id.isPart,he]
 ·rw [←List.take_append_drop (k+1) l]at he
  rw [okB_pre _ _ he]at h1;cases h1
theorem qgq (l:List UInt8) (h:Id.okB l=true):Id.isPart l=(decide (1<=l.length) && decide (l.length<=40)):=by
 unfold Id.isPart;rw [h,Bool.true_and,Bool.eq_iff_iff];simp
theorem nm_cls (b:UInt8):Id.nmB b=decide (Id.cls b.toNat ≠ 0):=rfl
theorem let_cls (b:UInt8):Id.letB b=decide (Id.cls b.toNat=1 ∨ Id.cls b.toNat=2):=by
 unfold Id.letB;rw [Id.bcls];cases h1:Id.smB b <;> cases h2:Id.caB b <;> simp
 (repeat' split) <;> simp
theorem qlt (c:Int) (h:128<=c):Id.cls c=0:=by
 unfold Id.cls
 (repeat' split) <;> omega
theorem nm_high (b:UInt8) (h:128<=b.toNat) (k:Nat):(if k=0 then Id.letB b else Id.nmB b)=false:=by
 have:=qlt b.toNat (by omega);rw [let_cls,nm_cls,this]
 split <;> rfl
end Go.Proofs.YtaaneecceiefoaaGreatDoor
namespace Go.Proofs.YtaaneecceiefoaaGreatDoor
open Go.RowKit
theorem id_class (c:Int) (w:World):Calls Tryz.prog 80 #[.int .i32 c] w fun e w'=>e=.returned (.int .i64 (Id.cls c))/\w=w':=by
  go_enter Tryz.func80,Tryz.ntmps80
  go_wp2
  all_goals go_ret
  all_goals
    refine⟨qb2 ?_,rfl⟩
    (try simp only [beq_iff_eq,beq_eq_false_iff_ne,ne_eq]at *)
    unfold Id.cls
    (repeat' split) <;> omega
theorem qc3 {B:Nat} {w:World} (h:B<=w.heap.size) (s:ByteArray) (pos:Nat):Below B w (w.iter s pos):=by
  have:=(Below.refl B w).alloc h (.stringIter s pos);exact this
theorem qna (s:ByteArray) (l:List UInt8) (w:World) (hl:s.data.toList=l) (hs:s.size<=1000000000000000) :
    Calls Tryz.prog 59 #[.string s] w fun e w'=>e=.returned (.bool (Id.isPart l))/\Below w.heap.size w w':=by
  have hsz:=Lib.hid (len_l s);have c:=Lib.hid (fun c W=>id_class c W);have H:=Lib.hid hl;clear hl
  go_enter Tryz.func59,Tryz.ntmps59
  go_wp2
  go_loopw [] (fun w' => ∃pos:Nat,w'=w.iter s pos/\pos<=s.size/\Hid (Id.okB (l.take pos)=true)) (fun w'=>s.size-w'.iterPos w.heap.size)
  case atStart=>exact⟨0,rfl,by omega,Lib.hid rfl⟩
  case round=>
    obtain⟨pos,rfl,hps,hok⟩:=hrel;by_cases hp:pos<s.size
    · have hg:l[pos]? = some (s[pos]'hp):=by rw [←H.out];exact get_l s pos hp
      have hg':=Lib.hid hg;clear hg;by_cases ha:(s[pos]'hp).toNat<128
      · have hnx : ∀ty,(Instr.next (.pointer (some ⟨w.heap.size,0,none⟩)) true ty).run Tryz.prog (w.iter s pos)=_:=fun ty=>run_next_ascii w s pos ty hp ha
        have hcl:=let_cls (s[pos]'hp);have hnm:=nm_cls (s[pos]'hp);have hb:=qih l pos _ hg'.out;have ht:=qfm l pos _ hg'.out;rw [hok.out,Bool.true_and]at ht;rw [hcl,hnm]at hb ht;have hb':=Lib.hid hb;have ht':=Lib.hid ht;clear hb ht hcl hnm;generalize hK:Id.cls ((s[pos]'hp).toNat:Int)=K at hb' ht'
        have cc : ∀W,Calls Tryz.prog 80 #[.int .i32 ((s[pos]'hp).toNat:Int)] W fun e w'=>e=.returned (.int .i64 K)/\W=w':=fun W=>by
          have:=c.out ((s[pos]'hp).toNat:Int) W;rw [hK]at this;exact this
        have cc':=Lib.hid cc;clear cc hK;have ends : ∀(b:Bool),(if pos=0 then decide (K=1 ∨ K=2)else decide (K ≠ 0))=false->b=false->Ending.returned (Value.bool b)=.returned (.bool (Id.isPart l)):=fun b h1 h2=>by rw [h2,hb'.out h1]
        have goes:(if pos=0 then decide (K=1 ∨ K=2)else decide (K ≠ 0))=true->Hid (Id.okB (l.take (pos+1))=true):=fun h=>Lib.hid (ht'.out.trans h)
        clear hb' ht';by_cases h0:pos=0
        · subst h0
          have h0':(((0:Nat):Int) == 0)=true:=rfl;rw [if_pos rfl]at ends goes;have E:=Lib.hid ends;have G:=Lib.hid goes;clear ends goes
          go_wp2_with (go_at_call 80;(with_reducible refine(cc'.out _).mono ?_);rintro e w' ⟨rfl,rfl⟩)
          all_goals first
            | (go_ret;exact⟨E.out _ (by simp_all) rfl,qc3 (Nat.le_refl _) _ _⟩)
            | (go_roundw
               case rel=>exact⟨1,rfl,by omega,G.out (by simp_all)⟩
               case measure=>simp;omega)
        · have h0':((pos:Int) == 0)=false:=by simpa using h0
          rw [if_neg h0]at ends goes;have E:=Lib.hid ends;have G:=Lib.hid goes;clear ends goes
          go_wp2_with (go_at_call 80;(with_reducible refine(cc'.out _).mono ?_);rintro e w' ⟨rfl,rfl⟩)
          all_goals first
            | (go_ret;exact⟨E.out _ (by simp_all) rfl,qc3 (Nat.le_refl _) _ _⟩)
            | (go_roundw
               case rel=>exact⟨pos+1,rfl,by omega,G.out (by simp_all)⟩
               case measure=>simp;omega)
      · have hnx : ∀ty,(Instr.next (.pointer (some ⟨w.heap.size,0,none⟩)) true ty).run Tryz.prog (w.iter s pos)=_:=fun ty=>run_next_any w s pos ty hp
        have hd:=decode_high s pos hp (by omega);generalize (Utf8.decode s pos).1=r at hnx hd;generalize (Utf8.decode s pos).2=wd at hnx hd
        have cc : ∀W,Calls Tryz.prog 80 #[.int .i32 (r:Int)] W fun e w'=>e=.returned (.int .i64 0)/\W=w':=fun W=>by
          have:=c.out (r:Int) W;rw [qlt (r:Int) (by omega)]at this;exact this
        have cc':=Lib.hid cc;clear cc;have hf:=Lib.hid (qih l pos _ hg'.out (nm_high _ (by omega) pos))
        go_wp2_with (go_at_call 80;(with_reducible refine(cc'.out _).mono ?_);rintro e w' ⟨rfl,rfl⟩)
        all_goals (go_ret;exact⟨qa4 hf.out.symm,qc3 (Nat.le_refl _) _ _⟩)
    · have hnx : ∀ty,(Instr.next (.pointer (some ⟨w.heap.size,0,none⟩)) true ty).run Tryz.prog (w.iter s pos)=_:=fun ty=>run_next_end w s pos ty hp
      have hln:l.length=s.size:=by rw [←H.out];exact hsz.out
      have hfin:=qgq l (by have:=hok.out;rwa [List.take_of_length_le (by omega)]at this);rw [hln]at hfin;have F:=Lib.hid hfin;clear hfin hln;by_cases h1:1<=s.size
      · have F':Hid (Id.isPart l=decide (s.size<=40)):=Lib.hid (by rw [F.out,decide_eq_true h1,Bool.true_and])
        clear F;go_wp2
        all_goals go_ret
        all_goals exact⟨qa4 (by rw [F'.out,Bool.eq_iff_iff];simp;omega),qc3 (Nat.le_refl _) _ _⟩
      · have F':Hid (Id.isPart l=false):=Lib.hid (by rw [F.out,decide_eq_false h1,Bool.false_and])
        clear F;go_wp2
        all_goals go_ret
        all_goals exact⟨qa4 F'.out.symm,qc3 (Nat.le_refl _) _ _⟩
end Go.Proofs.YtaaneecceiefoaaGreatDoor
namespace Go.Proofs.YtaaneecceiefoaaGreatDoor
open Go.RowKit
def Strs (w:World) (v:Value) (ks:List (List UInt8)):Prop:=
 (ks=[]/\∃(a:Option Addr) (c:Nat),v=.slice a 0 c) ∨ ∃b off c:Nat,v=.slice (some ⟨b,off,none⟩) ks.length c/\ks.length<=140737488355328/\b<w.heap.size/\∀j k,ks[j]? = some k->w.cell? ⟨b,off+j,none⟩=some (.string (S k))
theorem Strs.below {w w':World} {v:Value} {ks:List (List UInt8)} (h:Strs w v ks) (hb:Below w.heap.size w w'):Strs w' v ks:=by
 rcases h with h|⟨b,off,c,h1,h2,h3,h4⟩
 ·exact .inl h
 ·exact .inr ⟨b,off,c,h1,h2,Nat.lt_of_lt_of_le h3 hb.size,fun j k hk=>by rw [hb.cell h3];exact h4 j k hk⟩
theorem qh6:(Tryz.prog.info? 9).map (fun i=>(i.zero,i.size,i.bytes))=some (some (.string ByteArray.empty),1,16):=by kernel_rfl
def strV (k:List UInt8):Value:=.string (S k)
end Go.Proofs.YtaaneecceiefoaaGreatDoor
namespace Go.Proofs.YtaaneecceiefoaaGreatDoor
open Go.RowKit
theorem word_of (l:List UInt8) (h:l ∈ Id.words):Id.isWord l=true:=decide_eq_true h
def ML (w:World):Prop := ∃m:Int,w.cell? ⟨0,0,none⟩=some (.int .i64 m)
theorem ML.below {w w':World} (h:ML w) (hb:Below w.heap.size w w'):ML w':=by
 obtain⟨m,hm⟩:=h;exact⟨m,by rw [hb.cell (World.block_lt_of_cell? w _ hm)];exact hm⟩
theorem qiz (c:UInt8) : ∀l:List UInt8,(Id.cut c l).length=Lib.count l [c]+1
 | []=>by
  rw [Lib.count_miss (by simp [Lib.index])];rfl
 | b :: r=>by
  have ih:=qiz c r;by_cases hb:c=b
  ·subst hb
   have hi:Lib.index (c :: r) [c]=((0:Nat):Int):=by unfold Lib.index;simp [List.isPrefixOf]
   rw [Lib.count_hit (by simp) hi,Id.cut_hit];simp only [List.length_cons,List.length_nil,Nat.zero_add,List.drop_succ_cons,List.drop_zero,ih];omega
  ·have hp:([c].isPrefixOf (b :: r))=false:=by simp [List.isPrefixOf,hb]
   rw [Id.cut_miss c b r (fun e=>hb e.symm)]
   have hoh : ∀x:List (List UInt8),x ≠ []->(Id.onHead b x).length=x.length:=by
    intro x hx;cases x with
    | nil=>exact absurd rfl hx
    | cons p ps=>rfl
   rw [hoh _ (Id.cut_ne c r),ih];rcases Id.idx_one c r with⟨h1,h2⟩|h
   ·have hi:Lib.index (b :: r) [c] = -1:=by
     unfold Lib.index;rw [if_neg (by simp [hp]),if_pos (by simp [h1])]
    rw [Lib.count_miss hi,Lib.count_miss h1]
   ·obtain⟨i,hi⟩:=Int.eq_ofNat_of_zero_le h
    have hi':Lib.index r [c]=(i:Int):=hi
    have hi2:Lib.index (b :: r) [c]=((i+1:Nat):Int):=by
     unfold Lib.index;rw [if_neg (by simp [hp]),if_neg (by simp;omega),hi'];rfl
    rw [Lib.count_hit (by simp) hi',Lib.count_hit (by simp) hi2];rfl
theorem qh8 (s:ByteArray) (c:UInt8) (l:List UInt8) (hl:s.data.toList=l):Lib.splitB (S [c]) 0 (Lib.countB s (S [c])) s=(Id.cut c l).map S:=by
 have h:=Lib.splitB_data (S [c]) 0 (Lib.countB s (S [c])) s;have h2:=Id.split_cut c s.data.toList;have h3:Lib.splitK (S [c]).data.toList 0 (Lib.countB s (S [c])) s.data.toList=Id.cut c s.data.toList:=h2;rw [h3,hl]at h;rw [←h,List.map_map];have:(S ∘ fun x:ByteArray=>x.data.toList)=id:=by funext x;rfl
 rw [this,List.map_id]
theorem qj6 (s:ByteArray) (c:UInt8) (l:List UInt8) (hl:s.data.toList=l):Lib.countB s (S [c])+1=(Id.cut c l).length:=by
 rw [qiz, ←hl];rfl
theorem qhn (s:ByteArray) (c:UInt8) (l:List UInt8) (w:World) (hl:s.data.toList=l) (hs:s.size<=1000000000) (hM:ML w) :
  Calls Tryz.prog 35 #[.string s,.string ⟨#[c]⟩] w fun e w'=>e=.returned (.slice (some ⟨w.heap.size,0,none⟩) (Id.cut c l).length (Id.cut c l).length)/\w'=w.alloc (.cells ((Id.cut c l).map strV).toArray 9):=by
 obtain⟨m,hm⟩:=hM;refine(Tryz.strings_Split s (S [c]) m w (by omega) hm (by rw [qdg];simp)).mono ?_;rintro e w' ⟨rfl,rfl⟩;rw [qj6 s c l hl,qh8 s c l hl,List.map_map];exact⟨rfl,rfl⟩
end Go.Proofs.YtaaneecceiefoaaGreatDoor
namespace Go.Proofs.YtaaneecceiefoaaGreatDoor
open Go.RowKit Ck
theorem qbg {w:World} {B:Nat} {v:Value} {ks:List Str} (h:w.ownsRow B 9 1 v ks.length (ks.map strV)) (hl:ks.length<=1000000000):Texts w v ks:=by
 have h0:=h;rcases h.2 with⟨rfl,hx⟩|⟨g,cap,cur,rfl,hBg,hg,hc,_⟩
 ·have hk:=List.eq_nil_of_length_eq_zero hx
  subst hk;exact Sl.nil _ _ _ _ _
 ·refine⟨some ⟨g,0,none⟩,cap,rfl,by omega,hc,fun j k hk=>⟨g,0,rfl,(h0.lt g rfl).2,[.string (S k)],?_,rfl⟩⟩
  intro i u hu
  have hi0:i=0:=by
   cases i with
   | zero=>rfl
   | succ i=>simp at hu
  subst hi0;simp at hu;subst hu;have:=h0.cells (g:=g) rfl j (.string (S k)) (by rw [List.getElem?_map,hk];rfl);rw [Addr.add_lit]at this;rw [Nat.zero_add,Nat.mul_one,Nat.add_zero]
  simpa using this
end Go.Proofs.YtaaneecceiefoaaGreatDoor
namespace Go.Proofs.YtaaneecceiefoaaGreatDoor
open Go.RowKit Ck
def qg5 (w:World) (ps:List PProb) (e:Ending) (w':World):Prop := ∃v,e=.returned v/\w'.ownsRow w.heap.size 153 3 v ps.length (ps.flatMap probC)/\Below w.heap.size w w'
theorem qmv {w:World} {B C:Nat} {e:TypeId} {z:Nat} {v:Value} {n:Nat} {xs:List Value} (h:w.ownsRow C e z v n xs) (hb:B<=C):w.ownsRow B e z v n xs:=by
 refine⟨h.1,?_⟩;rcases h.2 with hn|⟨g,cap,cur,h1,h2,rest⟩
 ·exact .inl hn
 ·exact .inr ⟨g,cap,cur,h1,Nat.le_trans hb h2,rest⟩
theorem qao {α:Type} {a b:List α} {n k:Nat} (h:a.length<=n) (h2:b.length<=k):(a ++ b).length<=n+k:=by rw [List.length_append];omega
theorem qll (s:PSchema) (m:PMsg) (i:Nat) (f:PField):(qf4 s m i f).length<=10:=by
 unfold qf4 noted;exact qao (qao (qao (qao (qao (qao (qao (qao (qao (un_len _ _ _ _) (un_len _ _ _ _)) (un_len _ _ _ _)) (un_len _ _ _ _)) (un_len _ _ _ _)) (un_len _ _ _ _)) (un_len _ _ _ _)) (un_len _ _ _ _)) (un_len _ _ _ _)) (un_len _ _ _ _)
theorem qd0 (d:Str) (lo hi:Int) : ∀(q:Option PSpan) (l:List PSpan),(qd1 d lo hi q l).length<=2*l.length
 | q,[]=>by rw [qk8];simp
 | q,p :: r=>by
  have ih:=qd0 d lo hi (some p) r;rw [qi5];unfold spanP;refine Nat.le_trans (qao (qao (un_len _ _ _ _) (un_len _ _ _ _)) ih) ?_;rw [List.length_cons];omega
def goneP (d:Str) (l:List Str):List PProb:=l.flatMap fun g=>un d (-1) (decide (Utf.bad g<0)) 7
theorem qlc (d:Str) (g:Str) (l:List Str):goneP d (g :: l)=un d (-1) (decide (Utf.bad g<0)) 7 ++ goneP d l:=rfl
end Go.Proofs.YtaaneecceiefoaaGreatDoor
