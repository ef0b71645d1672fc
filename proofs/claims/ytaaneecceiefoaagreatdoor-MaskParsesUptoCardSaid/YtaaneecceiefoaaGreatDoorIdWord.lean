import Derived.Test.YtaaneecceiefoaaGreatDoorRows
import Derived.ProofKit
import Derived.OpenShut
import Derived.ReadAgain
import Derived.Deep.Slices
import Derived.WalkKit
import Derived.WalkSpells
import Derived.WalkLawsBesides
import Derived.Handy
import Derived.Lib.Hide
import Derived.Deep.QuietTactic
import Derived.BigQuiet
import Derived.Deep.Light
import Derived.Lib.OthersKept
import Derived.Lib.Split
import GoSem.Core.Utf8
set_option maxRecDepth 100000
set_option maxHeartbeats 4000000
set_option linter.unusedVariables false
set_option linter.unusedSimpArgs false
namespace Go.Proofs.YtaaneecceiefoaaGreatDoor
open Go.RowKit Go.WideShapes Go.ChangeShapes
section
variable {H : Type} {enc : TypeId × Value → H} {P : Program}
theorem qhs {f:Func} {s:ChangeSpec} {apart fresh handsOn again:Bool} {W W':World} {args:Array Value} {v:Value} {ds gs:List (DataW H)} {before pa pv:List MemPlace}
  (hW:DataW.Whole enc P f.params.toList s.vars apart W args.toList ds gs before)
  (hres : ∀(b:Nat) (sp:Nat->Bool) (hd:Bool),DataW.TrodAll enc P W' b sp hd f.resultTypes.toList (v.resultList f.resultTypes.size) (s.fn H (ds ++ gs)).results [])
  (hargs : ∀sp:Nat->Bool,(∀p ∈ before,sp p.block=true)->DataW.TrodAll enc P W' 0 sp true f.params.toList args.toList (s.fn H (ds ++ gs)).args pa)
  (hvars : ∀sp:Nat->Bool,(∀p ∈ before,sp p.block=true)->DataW.TrodVars enc P W' sp s.vars (s.fn H (ds ++ gs)).vars pv)
  (hps:before=pa ++ pv) (hb:Below W.heap.size W W')
  (hok : ∀(j:Nat) (t:TypeId) (r:Value),f.resultTypes[j]? = some t->(v.resultList f.resultTypes.size)[j]? = some r->Value.okWide P W' .any 0 t r) :
  s.post enc P f apart fresh handsOn again W args v W':=by
 have hlt : ∀p ∈ before,p.block<W.heap.size:=fun p hp=>hW.lt p hp
 have hold : ∀p ∈ before,(fun b=>decide (b<W.heap.size)) p.block=true:=fun p hp=>by simpa using hlt p hp
 refine⟨ds,gs,before,[],pa,pv,hW,hres _ _ _,hargs _ hold,hvars _ hold,World.keptBut_mono (fun p hp=>⟨hp,?_⟩) (hb.frame (· ∈ before)),fun _=>?_⟩
 ·rw [hps,List.mem_append]at hp
  exact Or.inr hp
 ·obtain⟨_,_,_,_,_,hz,hn⟩:=hW
  refine⟨hok,_,_,([] ++ pa) ++ pv,⟨[] ++ pa,pv,trodAll_append (hargs _ (fun _ _=>rfl)) (hres _ _ _),hvars _ (fun _ _=>rfl),rfl,?_,?_⟩,?_⟩
  ·intro b off hp
   have hin:MemPlace.cell b off ∈ before:=by rw [hps];simpa using hp
   rw [hb.frozen (hlt _ hin)];exact hz b off hin
  ·intro ha
   have:=hn ha;rw [hps]at this
   simpa using this
  ·intro p hp _
   rw [hps]
   simpa using hp
end
theorem own:ownKnob Tryz.prog.godebug=none:=by kernel_rfl
end Go.Proofs.YtaaneecceiefoaaGreatDoor
namespace Go.Proofs.YtaaneecceiefoaaGreatDoor
open Go.RowKit Go.WideShapes Go.ChangeShapes Go.Deep
theorem kids:Kids Tryz.prog (· < Tryz.prog.types.size):=kids_rows (by kernel_rfl) (by kernel_rfl)
theorem full : ∀t e,t<Tryz.prog.types.size->Tryz.prog.underlying t=some (.slice e)->0<Tryz.prog.cellsOf e:=slices_full_of Tryz.prog (by kernel_rfl)
section
variable {H : Type} {enc : TypeId × Value → H}
theorem qek {P:Program} {w w':World} {base:Nat} {sp:Nat->Bool} {held:Bool} : ∀{ts:List TypeId} {vs:List Value} {ds:List (DataW H)} {ps:List MemPlace},DataW.TrodAll enc P w base sp held ts vs ds ps->(∀p ∈ ps,w.sameAt w' p)->DataW.TrodAll enc P w' base sp held ts vs ds ps
 | [],[],[],_,h,_=>h
 | _ :: _,_ :: _,_ :: _,_,⟨p,q,⟨n,h1⟩,h2,e⟩,hs=>⟨p,q,⟨n,DataW.trod_carry n _ _ _ h1 (fun x hx=>hs x (by rw [e];exact List.mem_append_left _ hx))⟩,qek h2 (fun x hx=>hs x (by rw [e];exact List.mem_append_right _ hx)),e⟩
theorem qo9 {W W':World} {ts:List TypeId} {vs:List Value} {ds:List (DataW H)} {p:List MemPlace} (hts : ∀t ∈ ts,t<Tryz.prog.types.size) (hA:DataW.TrodAll enc Tryz.prog W 0 (fun _=>true) true ts vs ds p)
  (hlt : ∀x ∈ p,x.block<W.heap.size) (hb:Below W.heap.size W W') (sp:Nat->Bool) (hs : ∀x ∈ p,sp x.block=true):DataW.TrodAll enc Tryz.prog W' 0 sp true ts vs ds p:=
 DataW.TrodAll.respare kids full hts (qek hA (fun x hx=>hb.same (hlt x hx))) hs
theorem qja {f:Func} {s:ChangeSpec} {W W':World} {args:Array Value} {ds gs:List (DataW H)} {before:List MemPlace} (hv:s.vars=[]) (hts : ∀t ∈ f.params.toList,t<Tryz.prog.types.size)
  (hW:DataW.Whole enc Tryz.prog f.params.toList s.vars false W args.toList ds gs before) (hr:f.resultTypes=#[4])
  (h1:(s.fn H ds).results=[.lit (.bool true)]) (h2:(s.fn H ds).args=ds) (h3:(s.fn H ds).vars=[]) (hb:Below W.heap.size W W') :
  s.post enc Tryz.prog f false true false false W args (.bool true) W':=by
 have hW':=hW;obtain⟨p,q,hA,hV,rfl,hfz,hnd⟩:=hW;rw [hv]at hV;obtain⟨rfl,rfl⟩:=trodVars_none hV;have hlt : ∀x ∈ p ++ [],x.block<W.heap.size:=fun x hx=>hW'.lt x hx
 refine qhs (pa:=p) (pv:=[]) hW' (fun b sp hd=>?_) (fun sp hs=>?_) (fun sp hs=>?_) rfl hb ?_
 ·rw [List.append_nil,h1,hr]
  exact trodAll_mk1 (shut_bool Tryz.underlying4 _)
 ·rw [List.append_nil,h2]
  exact qo9 hts hA (fun x hx=>hlt x (by simpa using hx)) hb sp (fun x hx=>hs x (by simpa using hx))
 ·rw [List.append_nil,h3,hv]
  rfl
 ·exact ok_one hr rfl (okWide_bool_mk Tryz.underlying4 _)
theorem qdt {x:Int} (h:(Lit.int .u64 x).wf=true):0<=x/\x<18446744073709551616:=by
 have : -0<=x/\x<=18446744073709551615:=by simpa [Lit.wf,IntKind.min,IntKind.max,IntKind.signed,IntKind.bits]using h
 omega
end
end Go.Proofs.YtaaneecceiefoaaGreatDoor
namespace Go.Proofs.YtaaneecceiefoaaGreatDoor
open Go.RowKit
theorem qbj {k:IntKind} {a b:Int} (h:a=b):Ending.returned (.int k a)=.returned (.int k b):=by rw [h]
theorem qa7 {a b:Bool} (h:a=b):Ending.returned (.bool a)=.returned (.bool b):=by rw [h]
theorem len_l (s:ByteArray):s.data.toList.length=s.size:=Array.length_toList
theorem get_l (s:ByteArray) (i:Nat) (h:i<s.size):s.data.toList[i]? = some s[i]:=by
 have h':i<s.data.size:=h;rw [Array.getElem?_toList,Array.getElem?_eq_getElem h'];rfl
theorem qnn (s:ByteArray) (i:Nat) (h : ¬ i<s.size):s.data.toList[i]? = none:=by
 have h':s.data.size<=i:=Nat.not_lt.1 h;rw [Array.getElem?_toList,Array.getElem?_eq_none h']
def S (l:List UInt8):ByteArray:=⟨l.toArray⟩
theorem qbi (l:List UInt8):(S l).data.toList=l:=rfl
theorem S_of {s:ByteArray} {l:List UInt8} (h:s.data.toList=l):s=S l:=by
 subst h;rfl
theorem qbp (a b:ByteArray):(a ++ b).data.toList=a.data.toList ++ b.data.toList:=by simp [ByteArray.data_append]
theorem qbr (l:List UInt8):(S l).size=l.length:=rfl
theorem qfg (s:ByteArray) (i j:Nat):(s.extract i j).data.toList=(s.data.toList.drop i).take (j-i):=by
 simp [ByteArray.data_extract,List.take_drop]
theorem ieq {a b:Int} (h:a=b):(a == b)=true:=beq_iff_eq.2 h
theorem ine {a b:Int} (h:a ≠ b):(a == b)=false:=beq_eq_false_iff_ne.2 h
theorem bne_t {a b:Int} (h:a ≠ b):(a != b)=true:=bne_iff_ne.2 h
theorem bne_f {a b:Int} (h:a=b):(a != b)=false:=by subst h;simp
section
variable {P : Program} {f : FuncId} {args : Array Value} {w : World} {a n : Nat} {v : Value}
end
theorem qlg {B:Nat} {a w:World} (h:Below B a w) (n:Nat):Below B a (w.drewN n):=⟨h.os,h.tape,h.output,h.size,h.block⟩
end Go.Proofs.YtaaneecceiefoaaGreatDoor
namespace Go.Proofs.YtaaneecceiefoaaGreatDoor
open Go.RowKit
def Bel (w a:World):Prop:=Below w.heap.size w a
theorem Bel.refl (w:World):Bel w w:=Below.refl _ _
theorem Bel.of {w a b:World} (h:Bel w a) (k:Below a.heap.size a b):Bel w b:=Below.trans h (k.mono h.size)
theorem Bel.drew {w a:World} (h:Bel w a):Bel w a.drew:=Below.drew h
theorem Bel.drewN {w a:World} (h:Bel w a) (n:Nat):Bel w (a.drewN n):=qlg h n
theorem Bel.alloc {w a:World} (h:Bel w a) (o:Obj):Bel w (a.alloc o):=Below.alloc h h.size o
theorem Bel.out {w a:World} (h:Bel w a):Below w.heap.size w a:=h
theorem Bel.cell {w a:World} (h:Bel w a) {b o:Nat} (hb:b<w.heap.size):a.cell? ⟨b,o,none⟩=w.cell? ⟨b,o,none⟩:=Below.cell h hb
theorem Bel.size {w a:World} (h:Bel w a):w.heap.size<=a.heap.size:=Below.size h
end Go.Proofs.YtaaneecceiefoaaGreatDoor
namespace Go.Proofs.YtaaneecceiefoaaGreatDoor
open Go.RowKit
section
variable {α : Type}
def Keeps (E:World->Nat->Nat->α->Prop):Prop := ∀(w w':World) (b o:Nat) (x:α),b<w.heap.size->Bel w w'->E w b o x->E w' b o x
def Sl (C:Nat) (E:World->Nat->Nat->α->Prop) (w:World) (v:Value) (xs:List α):Prop:=
 ∃(p:Option Addr) (c:Nat),v=.slice p xs.length c/\xs.length<=140737488355328/\xs.length<=c/\∀i x,xs[i]? = some x->∃b off:Nat,p=some ⟨b,off,none⟩/\b<w.heap.size/\E w b (off+i*C) x
theorem Sl.bel {C:Nat} {E:World->Nat->Nat->α->Prop} (hE:Keeps E) {w w':World} {v:Value} {xs:List α} (h:Sl C E w v xs) (k:Bel w w'):Sl C E w' v xs:=by
 obtain⟨p,c,h1,h2,h2c,h3⟩:=h
 exact⟨p,c,h1,h2,h2c,fun i x hx=>by
  obtain⟨b,off,e,hb,he⟩:=h3 i x hx
  exact⟨b,off,e,Nat.lt_of_lt_of_le hb k.size,hE w w' b _ x hb k he⟩⟩
theorem Sl.nil (C:Nat) (E:World->Nat->Nat->α->Prop) (w:World) (p:Option Addr) (c:Nat):Sl C E w (.slice p 0 c) []:=⟨p,c,rfl,by simp,by simp,fun i x hx=>by simp at hx⟩
end
theorem Bel.some {w w':World} (k:Bel w w') {b o:Nat} {v:Value} (h:w.cell? ⟨b,o,none⟩=some v):w'.cell? ⟨b,o,none⟩=some v:=
 (k.cell (World.block_lt_of_cell? w _ h)).trans h
theorem qfa {e:TypeId} {b:Option Nat} {w w':World} (h:Lib.OthersKept e b w w') {k:Nat} {cs:Array Value} {t:TypeId} {fr:Nat × Nat} (hk:w.heap[k]? = some (.cells cs t fr)) (hb:some k ≠ b) (ht:t ≠ e):w'.heap[k]? = some (.cells cs t fr):=
 h k _ hk hb (fun c fz he=>ht (by injection he))
def EStr (w:World) (b o:Nat) (k:List UInt8):Prop:=w.cell? ⟨b,o,none⟩=some (.string (S k))
theorem EStr.keeps:Keeps EStr:=fun _ _ _ _ _ _ k h=>k.some h
end Go.Proofs.YtaaneecceiefoaaGreatDoor
namespace Go.Proofs.YtaaneecceiefoaaGreatDoor.Id
def cls (c:Int):Int:=if 97<=c/\c<=122 then 1 else if 65<=c/\c<=90 then 2 else if 48<=c/\c<=57 then 3 else if c=95 then 4 else 0
def smB (b:UInt8):Bool:=decide (97<=b.toNat/\b.toNat<=122)
def caB (b:UInt8):Bool:=decide (65<=b.toNat/\b.toNat<=90)
def nmB (b:UInt8):Bool:=decide (cls b.toNat ≠ 0)
def letB (b:UInt8):Bool:=smB b || caB b
def okB:List UInt8->Bool
 | []=>true
 | b :: r=>letB b && r.all nmB
def isPart (l:List UInt8):Bool:=okB l && decide (1<=l.length/\l.length<=40)
def onHead (b:UInt8):List (List UInt8)->List (List UInt8)
 | [] => [[b]]
 | p :: ps=>(b :: p) :: ps
def cut (c:UInt8):List UInt8->List (List UInt8)
 | [] => [[]]
 | b :: r=>if b=c then [] :: cut c r else onHead b (cut c r)
def isFull (l:List UInt8):Bool:=(cut 46 l).all isPart && decide (l.length<=120)
def join (s n:List UInt8):List UInt8:=if s=[]then n else s ++ 46 :: n
def lastDot:List UInt8->Int
 | [] => -1
 | b :: r=>if lastDot r = -1 then(if b=46 then 0 else -1)else lastDot r+1
def splitL (l:List UInt8):List UInt8 × List UInt8:=if lastDot l = -1 then([],l)else(l.take (lastDot l).toNat,l.drop ((lastDot l).toNat+1))
def upF:Nat->List UInt8->List (List UInt8)
 | 0,l => [l]
 | n+1,l=>if l=[]then [l]else l :: upF n (splitL l).1
def up (l:List UInt8):List (List UInt8):=upF l.length l
def has (known:List (List UInt8)) (s:List UInt8):Bool:=decide (s ∈ known)
def resolve (scope name:List UInt8) (known:List (List UInt8)):List UInt8 × Bool:=
 match name with
 | 46 :: abs=>if has known abs=true then(abs,true)else([],false)
 | _=>match (up scope).find? (fun s=>has known (join s name))with
  | some s=>(join s name,true)
  | none=>([],false)
def upB (b:UInt8):UInt8:=if smB b=true then b-32 else b
def cap:List UInt8->List UInt8
 | [] => []
 | b :: r=>upB b :: r
def camelG:Bool->List UInt8->List UInt8
 | _,[] => []
 | st,b :: r=>if b=95 then camelG true r else(if st=true then upB b else b) :: camelG false r
def camel (l:List UInt8):List UInt8:=if isPart l=true then camelG true l else []
theorem bcls (b:UInt8):cls b.toNat=if smB b=true then 1 else if caB b=true then 2 else if 48<=b.toNat/\b.toNat<=57 then 3 else if b.toNat=95 then 4 else 0:=by
 unfold cls smB caB;simp only [decide_eq_true_eq]
 (repeat' split) <;> first|rfl|omega
theorem let_nm (b:UInt8) (h:letB b=true):nmB b=true:=by
 unfold letB at h;unfold nmB;rw [bcls];cases h1:smB b <;> cases h2:caB b <;> simp_all
theorem cut_hit (c:UInt8) (r:List UInt8):cut c (c :: r)=[] :: cut c r:=by rw [cut];exact if_pos rfl
theorem cut_miss (c b:UInt8) (r:List UInt8) (h:b ≠ c):cut c (b :: r)=onHead b (cut c r):=by rw [cut];exact if_neg h
theorem cut_ne (c:UInt8) (l:List UInt8):cut c l ≠ []:=by
 cases l with
 | nil=>simp [cut]
 | cons b r=>
  by_cases hb:b=c
  ·subst hb;rw [cut_hit];simp
  ·rw [cut_miss c b r hb]
   cases cut c r <;> simp [onHead]
theorem cut_none (c:UInt8) : ∀l:List UInt8,c ∉ l->cut c l=[l]
 | [],_=>rfl
 | b :: r,h=>by
  have hb:b ≠ c:=fun e=>h (by simp [e])
  have hr:c ∉ r:=fun e=>h (by simp [e])
  rw [cut_miss c b r hb,cut_none c r hr];rfl
theorem idx_one (c:UInt8) : ∀l:List UInt8,(Lib.index l [c] = -1/\c ∉ l) ∨ (0<=Lib.index l [c])
 | []=>.inl ⟨by simp [Lib.index],by simp⟩
 | b :: r=>by
  unfold Lib.index;by_cases hb:c=b
  ·subst hb
   right;simp [List.isPrefixOf]
  ·have hp:([c].isPrefixOf (b :: r))=false:=by simp [List.isPrefixOf,hb]
   rw [if_neg (by simp [hp])];rcases idx_one c r with⟨h1,h2⟩|h
   ·left
    rw [if_pos (by simp [h1])];exact⟨rfl,by simp [hb,h2]⟩
   ·right
    rw [if_neg (by simp;omega)];omega
theorem split_cut (c:UInt8) : ∀l:List UInt8,Lib.splitK [c] 0 (Lib.count l [c]) l=cut c l
 | []=>by
  rw [Lib.count_miss (by simp [Lib.index])];rfl
 | b :: r=>by
  by_cases hb:c=b
  ·subst hb
   have hi:Lib.index (c :: r) [c]=((0:Nat):Int):=by unfold Lib.index;simp [List.isPrefixOf]
   rw [Lib.count_hit (by simp) hi,Nat.add_comm];unfold Lib.splitK;rw [hi,if_neg (by simp)];have:=split_cut c r;simp only [Int.toNat_natCast,List.length_cons,List.length_nil,List.drop_succ_cons,List.drop_zero,List.take_zero,Nat.zero_add];rw [this,cut_hit]
  ·have hp:([c].isPrefixOf (b :: r))=false:=by simp [List.isPrefixOf,hb]
   have ih:=split_cut c r;rcases idx_one c r with⟨h1,h2⟩|h
   ·have hi:Lib.index (b :: r) [c] = -1:=by
     unfold Lib.index;rw [if_neg (by simp [hp]),if_pos (by simp [h1])]
    rw [Lib.count_miss hi,cut_none c (b :: r) (by simp [hb,h2])];rfl
   ·obtain⟨i,hi⟩:=Int.eq_ofNat_of_zero_le h
    have hi':Lib.index r [c]=(i:Int):=hi
    have hi2:Lib.index (b :: r) [c]=((i+1:Nat):Int):=by
     unfold Lib.index;rw [if_neg (by simp [hp]),if_neg (by simp;omega),hi'];rfl
    rw [Lib.count_hit (by simp) hi',Nat.add_comm]at ih;rw [Lib.count_hit (by simp) hi2,Nat.add_comm];unfold Lib.splitK at ih ⊢;rw [hi',if_neg (by simp)]at ih;rw [hi2,if_neg (by simp;omega)];rw [cut_miss c b r (fun e=>hb e.symm), ←ih];simp [onHead]
theorem qi6 : ∀l:List UInt8, -1<=lastDot l/\lastDot l<l.length
 | []=>by simp [lastDot]
 | b :: r=>by
  have:=qi6 r;unfold lastDot;simp only [List.length_cons]
  (repeat' split) <;> omega
theorem lastDot_none : ∀l:List UInt8,lastDot l = -1 ↔ 46 ∉ l
 | []=>by simp [lastDot]
 | b :: r=>by
  have:=lastDot_none r;have hg:=qi6 r;unfold lastDot;by_cases hr:lastDot r = -1
  ·rw [if_pos hr]
   by_cases hb:b=46
   ·simp [hb]
   ·simp [hb,this.1 hr,Ne.symm hb]
  ·rw [if_neg hr]
   have h2:46 ∈ r:=Decidable.byContradiction fun e=>hr (this.2 e)
   simp [h2];omega
theorem lastDot_at (l:List UInt8) (i:Nat) (h1:l[i]? = some 46) (h2 : ∀j,i<j->l[j]? ≠ some 46):lastDot l=i:=by
 induction l generalizing i with
 | nil=>simp at h1
 | cons b r ih=>
  unfold lastDot;cases i with
  | zero=>
   have hr:lastDot r = -1:=(lastDot_none r).2 (fun hm=>by
    obtain⟨j,hj⟩:=List.mem_iff_getElem?.1 hm
    exact h2 (j+1) (by omega) (by simpa using hj))
   simp at h1;rw [if_pos hr,if_pos h1];rfl
  | succ i=>
   have:=ih i (by simpa using h1) (fun j hj=>by simpa using h2 (j+1) (by omega));rw [if_neg (by omega),this];rfl
theorem lastDot_spec (l:List UInt8):(lastDot l = -1/\46 ∉ l) ∨ ∃i:Nat,lastDot l=i/\i<l.length/\l[i]? = some 46/\∀j,i<j->l[j]? ≠ some 46:=by
 induction l with
 | nil=>exact .inl ⟨rfl,by simp⟩
 | cons b r ih=>
  unfold lastDot;rcases ih with⟨h1,h2⟩|⟨i,h1,h2,h3,h4⟩
  ·rw [if_pos h1]
   by_cases hb:b=46
   ·right
    refine⟨0,by rw [if_pos hb];rfl,by simp,by simp [hb],fun j hj hc=>?_⟩;obtain⟨k,rfl⟩ : ∃k,j=k+1:=⟨j-1,by omega⟩;exact h2 (List.mem_iff_getElem?.2 ⟨k,by simpa using hc⟩)
   ·left
    exact⟨by rw [if_neg hb],by simp [Ne.symm hb,h2]⟩
  ·right
   refine⟨i+1,by rw [if_neg (by omega),h1];rfl,by simp;omega,by simpa using h3,fun j hj=>?_⟩;obtain⟨k,rfl⟩ : ∃k,j=k+1:=⟨j-1,by omega⟩
   simpa using h4 k (by omega)
end Go.Proofs.YtaaneecceiefoaaGreatDoor.Id
namespace Go.Proofs.YtaaneecceiefoaaGreatDoor.Utf
def btw (l:List UInt8) (i lo hi:Nat):Bool:=match l[i]? with
 | some b=>decide (lo<=b.toNat) && decide (b.toNat<=hi)
 | none=>false
def tl (l:List UInt8) (i:Nat):Nat->Bool
 | 0=>true
 | n+1=>btw l i 128 191 && tl l (i+1) n
def szAt (l:List UInt8) (i:Nat):Nat:=match l[i]? with
 | none=>0
 | some u=>
  if u.toNat<128 then 1
  else if 194<=u.toNat/\u.toNat<=223/\tl l (i+1) 1=true then 2
  else if u.toNat=224/\btw l (i+1) 160 191=true/\tl l (i+2) 1=true then 3
  else if u.toNat=237/\btw l (i+1) 128 159=true/\tl l (i+2) 1=true then 3
  else if 225<=u.toNat/\u.toNat<=239/\u.toNat ≠ 237/\tl l (i+1) 2=true then 3
  else if u.toNat=240/\btw l (i+1) 144 191=true/\tl l (i+2) 2=true then 4
  else if 241<=u.toNat/\u.toNat<=243/\tl l (i+1) 3=true then 4
  else if u.toNat=244/\btw l (i+1) 128 143=true/\tl l (i+2) 2=true then 4
  else 0
def sz (l:List UInt8):Nat:=szAt l 0
theorem qo6 (l:List UInt8) (i k lo hi:Nat):btw (l.drop i) k lo hi=btw l (i+k) lo hi:=by
 simp [btw,List.getElem?_drop]
theorem tl_drop (l:List UInt8) (i n:Nat) : ∀k,tl (l.drop i) k n=tl l (i+k) n:=by
 induction n with
 | zero=>intro k;rfl
 | succ n ih=>intro k;simp [tl,qo6,ih,Nat.add_assoc]
theorem qov (l:List UInt8) (i k:Nat):szAt (l.drop i) k=szAt l (i+k):=by
 simp [szAt,List.getElem?_drop,qo6,tl_drop,Nat.add_assoc]
theorem sz_drop (l:List UInt8) (i:Nat):sz (l.drop i)=szAt l i:=by simp [sz,qov]
theorem btw_lt {l:List UInt8} {i lo hi:Nat} (h:btw l i lo hi=true):i<l.length:=by
 unfold btw at h;cases hl:l[i]? with
 | none=>simp [hl]at h
 | some b=>exact(List.getElem?_eq_some_iff.1 hl).1
theorem tl_lt {l:List UInt8} : ∀{n i:Nat},tl l i n=true->i+n<=l.length ∨ n=0:=by
 intro n
 induction n with
 | zero=>intro i _;exact .inr rfl
 | succ n ih=>
  intro i h;simp only [tl,Bool.and_eq_true]at h;have h1:=btw_lt h.1;rcases ih h.2 with h2|h2 <;> omega
theorem szAt_lt {l:List UInt8} {i:Nat}:szAt l i ≠ 0->i+szAt l i<=l.length:=by
 unfold szAt;cases hl:l[i]? with
 | none=>simp
 | some b=>
  have hi:i<l.length:=(List.getElem?_eq_some_iff.1 hl).1;simp only
  repeat' split
  all_goals intro h0
  ·omega
  ·rename_i h;have:=tl_lt h.2.2;omega
  ·rename_i h;have:=tl_lt h.2.2;omega
  ·rename_i h;have:=tl_lt h.2.2;omega
  ·rename_i h;have:=tl_lt h.2.2.2;omega
  ·rename_i h;have:=tl_lt h.2.2;omega
  ·rename_i h;have:=tl_lt h.2.2;omega
  ·rename_i h;have:=tl_lt h.2.2;omega
  ·omega
def cntS:Nat->List UInt8->Nat
 | _,[]=>0
 | k+1,_ :: t=>cntS k t
 | 0,b :: t=>1+cntS (sz (b :: t)-1) t
def cnt (l:List UInt8):Nat:=cntS 0 l
def badS:Nat->Nat->List UInt8->Int
 | _,_,[] => -1
 | k+1,i,_ :: t=>badS k (i+1) t
 | 0,i,b :: t=>if sz (b :: t)=0 then(i:Int)else badS (sz (b :: t)-1) (i+1) t
def bad (l:List UInt8):Int:=badS 0 0 l
theorem qq4 (l:List UInt8) : ∀k i,badS k i l=badS 0 (i+k) (l.drop k):=by
 induction l with
 | nil=>intro k i;cases k <;> simp [badS]
 | cons b t ih=>
  intro k i;cases k with
  | zero=>rfl
  | succ k=>simp only [badS,List.drop_succ_cons];rw [ih];congr 1;omega
theorem badS_step (l:List UInt8) (i:Nat) (h:i<l.length) :
  badS 0 i (l.drop i)=if szAt l i=0 then(i:Int)else badS 0 (i+szAt l i) (l.drop (i+szAt l i)):=by
 rw [List.drop_eq_getElem_cons h];rw [badS, ←List.drop_eq_getElem_cons h,sz_drop]
 split
 ·rfl
 ·rw [qq4,List.drop_drop]
  have e:i+1+(szAt l i-1)=i+szAt l i:=by omega
  rw [e]
theorem bad_end (l:List UInt8) (i:Nat) (h:l.length<=i):badS 0 i (l.drop i) = -1:=by
 rw [List.drop_eq_nil_of_le h];rfl
def val (b:UInt8):Int:=if 48<=b.toNat/\b.toNat<=57 then(b.toNat:Int)-48 else if 97<=b.toNat/\b.toNat<=102 then(b.toNat:Int)-87 else -1
end Go.Proofs.YtaaneecceiefoaaGreatDoor.Utf
namespace Go.Proofs.YtaaneecceiefoaaGreatDoor.Pr
def isF (f:Int):Bool:=decide (f=1 ∨ f=2 ∨ f=4)
def isK (k:Int):Bool:=decide (1<=k/\k<=9)
def rowOf (f:Int):Int:=if f=1 then 0 else if f=2 then 1 else if f=4 then 2 else -1
def famT:List Int:=[1,2,2,1,1,6,7,7,1,1,2,2,2,2,6,7,7,2,1,2,2,2,2,6,7,8,9]
def boundT:List Int:=[0,1,2147483648,2147483647,9223372036854775808,9223372036854775807,0,4294967295,0,18446744073709551615,0,0,0,0,0,0,0,2147483647]
def fam (f k:Int):Int:=if isF f=true/\isK k=true then famT.getD (rowOf f*9+(k-1)).toNat 0 else 0
def below (k:Int):Int:=boundT.getD (2*(k-1)).toNat 0
def most (k:Int):Int:=boundT.getD (2*(k-1)+1).toNat 0
def rel (f a b:Int):Bool:=decide (fam f a ≠ 0/\fam f a=fam f b)
def num (k:Int):Bool:=decide (k<=5 ∨ k=9)
def txt (k:Int):Bool:=decide (k=7 ∨ k=8)
def great (k:Int):Int:=if k=1 then 1 else if k=2 ∨ k=9 then 2147483647 else if k=4 then 4294967295 else if k=3 then 9223372036854775807 else 18446744073709551615
def leanB (k b:Int) (t:List UInt8) (n:Nat):Bool:=decide (n=0) && (if txt k=true then decide (b=0)else decide (t=[]))
def withB (k b:Int):Bool:=
 if k=1 then decide (b<=1)else if k=2 then decide (b<=2147483647 ∨ 18446744071562067968<=b)
 else if k=9 then decide (b<=2147483647)else if k=4 then decide (b<=4294967295)else true
def fitsB (kind k b:Int) (t:List UInt8) (n:Nat):Bool:=
 isK kind && decide (k=kind) && leanB k b t n && withB kind b && decide (t.length<=4096) && (decide (kind ≠ 7) || decide (Utf.bad t<0))
def cls (b:Int):Int:=
 if 9218868437227405312<b % 9223372036854775808 then 0 else if b % 9223372036854775808=9218868437227405312 then 1
 else if b % 9223372036854775808=0 then 2 else if b % 9223372036854775808<4503599627370496 then 3 else 4
def normB (k b:Int):Int:=if k=6/\cls b=0 then 9221120237041090560 else b
theorem fits_ref (kind x:Int) (t:List UInt8) (n:Nat):fitsB kind kind x t n=(isK kind && decide (n=0) && (if txt kind=true then decide (x=0) && decide (t.length<=4096) && (decide (kind=8) || decide (Utf.bad t<0))else decide (t=[]) && withB kind x)):=by
 unfold fitsB leanB;cases hk:isK kind
 ·simp
 ·cases ht:txt kind
  ·have h7:kind ≠ 7:=by
    intro h;subst h;exact absurd ht (by decide)
   by_cases hn:t=[]
   ·subst hn;simp [h7]
   ·simp [hn]
  ·have h78:kind=7 ∨ kind=8:=of_decide_eq_true ht
   rcases h78 with rfl|rfl
   ·simp [withB,Bool.and_assoc]
   ·simp [withB,Bool.and_assoc]
end Go.Proofs.YtaaneecceiefoaaGreatDoor.Pr
namespace Go.Proofs.YtaaneecceiefoaaGreatDoor
def Id.words:List (List UInt8):=[[109,101,115,115,97,103,101],[101,110,117,109],[115,101,114,118,105,99,101],[117,110,105,111,110],[109,97,112],[108,105,115,116],[114,101,113,117,105,114,101,100],[111,112,116,105,111,110,97,108],[112,108,97,105,110],[100,101,102,97,117,108,116],[114,101,115,101,114,118,101,100],[105,109,112,111,114,116],[115,112,97,99,101],[114,112,99],[115,116,114,101,97,109],[114,101,116,117,114,110,115],[111,112,101,110],[116,114,117,101],[102,97,108,115,101],[110,97,110],[105,110,102]]
def Id.isWord (l:List UInt8):Bool:=decide (l ∈ Id.words)
end Go.Proofs.YtaaneecceiefoaaGreatDoor
