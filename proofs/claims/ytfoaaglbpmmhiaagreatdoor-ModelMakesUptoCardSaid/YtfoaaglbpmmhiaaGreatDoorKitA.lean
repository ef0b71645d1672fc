import Derived.Test.YtfoaaglbpmmhiaaGreatDoorRows
import Derived.WalkKit
import Derived.WalkSpells
import Derived.WalkLawsBesides
import Derived.Handy
import Derived.Lib.Hide
import Derived.Deep.QuietTactic
import Derived.BigQuiet
import Derived.Deep.Light
import Derived.ProofKit
import Derived.OpenShut
import Derived.ReadAgain
import Derived.Deep.Slices
import Derived.Lib.OthersKept
import Derived.Lib.Split
import GoSem.Core.Utf8
import Derived.Laws.Strings
import Derived.Lib.LastIndexByte
import Derived.Maps.OwnSet
import Derived.Maps.Views
import Derived.StringKeys
import Derived.StillTailTactics
import Derived.OrdersHeld
set_option maxRecDepth 100000
set_option maxHeartbeats 4000000
set_option linter.unusedVariables false
set_option linter.unusedSimpArgs false
namespace Go.Proofs.YtfoaaglbpmmhiaaGreatDoor
open Go.RowKit
theorem qar {k:IntKind} {a b:Int} (h:a=b):Ending.returned (.int k a)=.returned (.int k b):=by rw [h]
theorem qa3 {a b:Bool} (h:a=b):Ending.returned (.bool a)=.returned (.bool b):=by rw [h]
theorem qay {a b:ByteArray} (h:a=b):Ending.returned (.string a)=.returned (.string b):=by rw [h]
theorem len_l (s:ByteArray):s.data.toList.length=s.size:=Array.length_toList
theorem get_l (s:ByteArray) (i:Nat) (h:i<s.size):s.data.toList[i]? = some s[i]:=by
 have h':i<s.data.size:=h;rw [Array.getElem?_toList,Array.getElem?_eq_getElem h'];rfl
theorem qo7 (s:ByteArray) (i:Nat) (h : ¬ i<s.size):s.data.toList[i]? = none:=by
 have h':s.data.size<=i:=Nat.not_lt.1 h;rw [Array.getElem?_toList,Array.getElem?_eq_none h']
def S (l:List UInt8):ByteArray:=⟨l.toArray⟩
theorem qah (l:List UInt8):(S l).data.toList=l:=rfl
theorem S_of {s:ByteArray} {l:List UInt8} (h:s.data.toList=l):s=S l:=by
 subst h;rfl
theorem qov (a b:ByteArray):(a ++ b).data.toList=a.data.toList ++ b.data.toList:=by simp [ByteArray.data_append]
theorem qai (l:List UInt8):(S l).size=l.length:=rfl
theorem qdl (s:ByteArray) (i j:Nat):(s.extract i j).data.toList=(s.data.toList.drop i).take (j-i):=by
 simp [ByteArray.data_extract,List.take_drop]
theorem ieq {a b:Int} (h:a=b):(a == b)=true:=beq_iff_eq.2 h
theorem ine {a b:Int} (h:a ≠ b):(a == b)=false:=beq_eq_false_iff_ne.2 h
theorem bne_t {a b:Int} (h:a ≠ b):(a != b)=true:=bne_iff_ne.2 h
theorem bne_f {a b:Int} (h:a=b):(a != b)=false:=by subst h;simp
section
variable {P : Program} {f : FuncId} {args : Array Value} {w : World} {a n : Nat} {v : Value}
end
theorem qlr (W:World) (c:UInt8):(convert 105 9 (.slice (some ⟨W.heap.size,0,none⟩) 1 1)).run Tryz.prog (W.alloc (.cells #[.int .u8 (c.toNat:Int)] 5))=.ok (.string (S [c])) (W.alloc (.cells #[.int .u8 (c.toNat:Int)] 5)):=by
 have h:=run_convert_bytes_arg (P:=Tryz.prog) (W.alloc (.cells #[.int .u8 (c.toNat:Int)] 5)) 105 5 Tryz.underlying105 Tryz.underlying5 W.heap.size 0 1 1 [(c.toNat:Int)] rfl (fun i hi=>by
  obtain rfl:i=0:=by omega
  simp) 9 Tryz.underlying9
 rw [h]
 congr 2
 simp [strOfNums,S]
theorem qmm {B:Nat} {a w:World} (h:Below B a w) (n:Nat):Below B a (w.drewN n):=⟨h.os,h.tape,h.output,h.size,h.block⟩
end Go.Proofs.YtfoaaglbpmmhiaaGreatDoor
namespace Go.Proofs.YtfoaaglbpmmhiaaGreatDoor
open Go.RowKit Go.WideShapes Go.ChangeShapes
section
variable {H : Type} {enc : TypeId × Value → H} {P : Program}
theorem qic {f:Func} {s:ChangeSpec} {apart fresh handsOn again:Bool} {W W':World} {args:Array Value} {v:Value} {ds gs:List (DataW H)} {before pa pv:List MemPlace}
  (hW:DataW.Whole enc P f.params.toList s.vars apart W args.toList ds gs before)
  (hres : ∀(b:Nat) (sp:Nat->Bool) (hd:Bool),DataW.TrodAll enc P W' b sp hd f.resultTypes.toList (v.resultList f.resultTypes.size) (s.fn H (ds ++ gs)).results [])
  (hargs : ∀sp:Nat->Bool,(∀p ∈ before,sp p.block=true)->DataW.TrodAll enc P W' 0 sp true f.params.toList args.toList (s.fn H (ds ++ gs)).args pa)
  (hvars : ∀sp:Nat->Bool,(∀p ∈ before,sp p.block=true)->DataW.TrodVars enc P W' sp s.vars (s.fn H (ds ++ gs)).vars pv)
  (hps:before=pa ++ pv) (hb:Below W.heap.size W W')
  (hok : ∀(j:Nat) (t:TypeId) (r:Value),f.resultTypes[j]? = some t->(v.resultList f.resultTypes.size)[j]? = some r->Value.okWide P W' .any 0 t r) :
  s.post enc P f apart fresh handsOn again W args v W':=by
 have hlt : ∀p ∈ before,p.block<W.heap.size:=fun p hp=>hW.lt p hp
 have hold : ∀p ∈ before,(fun b=>decide (b<W.heap.size)) p.block=true:=fun p hp=>by simpa using hlt p hp
 refine⟨ds,gs,before,[],pa,pv,hW,hres _ _ _,hargs _ hold,hvars _ hold,World.keptBut_mono (fun p hp=>⟨hp,?_⟩) (hb.frame (· ∈ before)),fun _=>?_⟩
 ·rw [hps,List.mem_append]at hp
  exact Or.inr hp
 ·obtain⟨_,_,_,_,_,hz,hn⟩:=hW
  refine⟨hok,_,_,([] ++ pa) ++ pv,⟨[] ++ pa,pv,trodAll_append (hargs _ (fun _ _=>rfl)) (hres _ _ _),hvars _ (fun _ _=>rfl),rfl,?_,?_⟩,?_⟩
  ·intro b off hp
   have hin:MemPlace.cell b off ∈ before:=by rw [hps];simpa using hp
   rw [hb.frozen (hlt _ hin)];exact hz b off hin
  ·intro ha
   have:=hn ha;rw [hps]at this
   simpa using this
  ·intro p hp _
   rw [hps]
   simpa using hp
end
theorem own:ownKnob Tryz.prog.godebug=none:=by kernel_rfl
end Go.Proofs.YtfoaaglbpmmhiaaGreatDoor
namespace Go.Proofs.YtfoaaglbpmmhiaaGreatDoor
open Go.RowKit Go.WideShapes Go.ChangeShapes Go.Deep
theorem kids:Kids Tryz.prog (· < Tryz.prog.types.size):=kids_rows (by kernel_rfl) (by kernel_rfl)
theorem full : ∀t e,t<Tryz.prog.types.size->Tryz.prog.underlying t=some (.slice e)->0<Tryz.prog.cellsOf e:=slices_full_of Tryz.prog (by kernel_rfl)
section
variable {H : Type} {enc : TypeId × Value → H}
theorem qem {P:Program} {w w':World} {base:Nat} {sp:Nat->Bool} {held:Bool} : ∀{ts:List TypeId} {vs:List Value} {ds:List (DataW H)} {ps:List MemPlace},DataW.TrodAll enc P w base sp held ts vs ds ps->(∀p ∈ ps,w.sameAt w' p)->DataW.TrodAll enc P w' base sp held ts vs ds ps
 | [],[],[],_,h,_=>h
 | _ :: _,_ :: _,_ :: _,_,⟨p,q,⟨n,h1⟩,h2,e⟩,hs=>⟨p,q,⟨n,DataW.trod_carry n _ _ _ h1 (fun x hx=>hs x (by rw [e];exact List.mem_append_left _ hx))⟩,qem h2 (fun x hx=>hs x (by rw [e];exact List.mem_append_right _ hx)),e⟩
theorem qp1 {W W':World} {ts:List TypeId} {vs:List Value} {ds:List (DataW H)} {p:List MemPlace} (hts : ∀t ∈ ts,t<Tryz.prog.types.size) (hA:DataW.TrodAll enc Tryz.prog W 0 (fun _=>true) true ts vs ds p)
  (hlt : ∀x ∈ p,x.block<W.heap.size) (hb:Below W.heap.size W W') (sp:Nat->Bool) (hs : ∀x ∈ p,sp x.block=true):DataW.TrodAll enc Tryz.prog W' 0 sp true ts vs ds p:=
 DataW.TrodAll.respare kids full hts (qem hA (fun x hx=>hb.same (hlt x hx))) hs
theorem law_post {f:Func} {s:ChangeSpec} {W W':World} {args:Array Value} {ds gs:List (DataW H)} {before:List MemPlace} (hv:s.vars=[]) (hts : ∀t ∈ f.params.toList,t<Tryz.prog.types.size)
  (hW:DataW.Whole enc Tryz.prog f.params.toList s.vars false W args.toList ds gs before) (hr:f.resultTypes=#[4])
  (h1:(s.fn H ds).results=[.lit (.bool true)]) (h2:(s.fn H ds).args=ds) (h3:(s.fn H ds).vars=[]) (hb:Below W.heap.size W W') :
  s.post enc Tryz.prog f false true false false W args (.bool true) W':=by
 have hW':=hW;obtain⟨p,q,hA,hV,rfl,hfz,hnd⟩:=hW;rw [hv]at hV;obtain⟨rfl,rfl⟩:=trodVars_none hV;have hlt : ∀x ∈ p ++ [],x.block<W.heap.size:=fun x hx=>hW'.lt x hx
 refine qic (pa:=p) (pv:=[]) hW' (fun b sp hd=>?_) (fun sp hs=>?_) (fun sp hs=>?_) rfl hb ?_
 ·rw [List.append_nil,h1,hr]
  exact trodAll_mk1 (shut_bool Tryz.underlying4 _)
 ·rw [List.append_nil,h2]
  exact qp1 hts hA (fun x hx=>hlt x (by simpa using hx)) hb sp (fun x hx=>hs x (by simpa using hx))
 ·rw [List.append_nil,h3,hv]
  rfl
 ·exact ok_one hr rfl (okWide_bool_mk Tryz.underlying4 _)
theorem qi0 {x:Int} (h:(Lit.int .u64 x).wf=true):0<=x/\x<18446744073709551616:=by
 have : -0<=x/\x<=18446744073709551615:=by simpa [Lit.wf,IntKind.min,IntKind.max,IntKind.signed,IntKind.bits]using h
 omega
end
end Go.Proofs.YtfoaaglbpmmhiaaGreatDoor
namespace Go.Proofs.YtfoaaglbpmmhiaaGreatDoor
open Go.RowKit
def Bel (w a:World):Prop:=Below w.heap.size w a
theorem Bel.refl (w:World):Bel w w:=Below.refl _ _
theorem Bel.of {w a b:World} (h:Bel w a) (k:Below a.heap.size a b):Bel w b:=Below.trans h (k.mono h.size)
theorem Bel.drew {w a:World} (h:Bel w a):Bel w a.drew:=Below.drew h
theorem Bel.drewN {w a:World} (h:Bel w a) (n:Nat):Bel w (a.drewN n):=qmm h n
theorem Bel.alloc {w a:World} (h:Bel w a) (o:Obj):Bel w (a.alloc o):=Below.alloc h h.size o
theorem Bel.out {w a:World} (h:Bel w a):Below w.heap.size w a:=h
theorem Bel.cell {w a:World} (h:Bel w a) {b o:Nat} (hb:b<w.heap.size):a.cell? ⟨b,o,none⟩=w.cell? ⟨b,o,none⟩:=Below.cell h hb
theorem Bel.size {w a:World} (h:Bel w a):w.heap.size<=a.heap.size:=Below.size h
end Go.Proofs.YtfoaaglbpmmhiaaGreatDoor
namespace Go.Proofs.YtfoaaglbpmmhiaaGreatDoor
open Go.RowKit
section
variable {α : Type}
def Keeps (E:World->Nat->Nat->α->Prop):Prop := ∀(w w':World) (b o:Nat) (x:α),b<w.heap.size->Bel w w'->E w b o x->E w' b o x
def Sl (C:Nat) (E:World->Nat->Nat->α->Prop) (w:World) (v:Value) (xs:List α):Prop:=
 ∃(p:Option Addr) (c:Nat),v=.slice p xs.length c/\xs.length<=140737488355328/\xs.length<=c/\∀i x,xs[i]? = some x->∃b off:Nat,p=some ⟨b,off,none⟩/\b<w.heap.size/\E w b (off+i*C) x
theorem Sl.bel {C:Nat} {E:World->Nat->Nat->α->Prop} (hE:Keeps E) {w w':World} {v:Value} {xs:List α} (h:Sl C E w v xs) (k:Bel w w'):Sl C E w' v xs:=by
 obtain⟨p,c,h1,h2,h2c,h3⟩:=h
 exact⟨p,c,h1,h2,h2c,fun i x hx=>by
  obtain⟨b,off,e,hb,he⟩:=h3 i x hx
  exact⟨b,off,e,Nat.lt_of_lt_of_le hb k.size,hE w w' b _ x hb k he⟩⟩
theorem Sl.nil (C:Nat) (E:World->Nat->Nat->α->Prop) (w:World) (p:Option Addr) (c:Nat):Sl C E w (.slice p 0 c) []:=⟨p,c,rfl,by simp,by simp,fun i x hx=>by simp at hx⟩
end
theorem Bel.some {w w':World} (k:Bel w w') {b o:Nat} {v:Value} (h:w.cell? ⟨b,o,none⟩=some v):w'.cell? ⟨b,o,none⟩=some v:=
 (k.cell (World.block_lt_of_cell? w _ h)).trans h
theorem qbx {e:TypeId} {b:Option Nat} {w w':World} (h:Lib.OthersKept e b w w') {k:Nat} {cs:Array Value} {t:TypeId} {fr:Nat × Nat} (hk:w.heap[k]? = some (.cells cs t fr)) (hb:some k ≠ b) (ht:t ≠ e):w'.heap[k]? = some (.cells cs t fr):=
 h k _ hk hb (fun c fz he=>ht (by injection he))
def EStr (w:World) (b o:Nat) (k:List UInt8):Prop:=w.cell? ⟨b,o,none⟩=some (.string (S k))
theorem EStr.keeps:Keeps EStr:=fun _ _ _ _ _ _ k h=>k.some h
end Go.Proofs.YtfoaaglbpmmhiaaGreatDoor
namespace Go.Proofs.YtfoaaglbpmmhiaaGreatDoor.Id
def cls (c:Int):Int:=if 97<=c/\c<=122 then 1 else if 65<=c/\c<=90 then 2 else if 48<=c/\c<=57 then 3 else if c=95 then 4 else 0
def smB (b:UInt8):Bool:=decide (97<=b.toNat/\b.toNat<=122)
def caB (b:UInt8):Bool:=decide (65<=b.toNat/\b.toNat<=90)
def nmB (b:UInt8):Bool:=decide (cls b.toNat ≠ 0)
def letB (b:UInt8):Bool:=smB b || caB b
def okB:List UInt8->Bool
 | []=>true
 | b :: r=>letB b && r.all nmB
def isPart (l:List UInt8):Bool:=okB l && decide (1<=l.length/\l.length<=40)
def onHead (b:UInt8):List (List UInt8)->List (List UInt8)
 | [] => [[b]]
 | p :: ps=>(b :: p) :: ps
def cut (c:UInt8):List UInt8->List (List UInt8)
 | [] => [[]]
 | b :: r=>if b=c then [] :: cut c r else onHead b (cut c r)
def isFull (l:List UInt8):Bool:=(cut 46 l).all isPart && decide (l.length<=120)
def join (s n:List UInt8):List UInt8:=if s=[]then n else s ++ 46 :: n
def lastDot:List UInt8->Int
 | [] => -1
 | b :: r=>if lastDot r = -1 then(if b=46 then 0 else -1)else lastDot r+1
def splitL (l:List UInt8):List UInt8 × List UInt8:=if lastDot l = -1 then([],l)else(l.take (lastDot l).toNat,l.drop ((lastDot l).toNat+1))
def upF:Nat->List UInt8->List (List UInt8)
 | 0,l => [l]
 | n+1,l=>if l=[]then [l]else l :: upF n (splitL l).1
def up (l:List UInt8):List (List UInt8):=upF l.length l
def has (known:List (List UInt8)) (s:List UInt8):Bool:=decide (s ∈ known)
def resolve (scope name:List UInt8) (known:List (List UInt8)):List UInt8 × Bool:=
 match name with
 | 46 :: abs=>if has known abs=true then(abs,true)else([],false)
 | _=>match (up scope).find? (fun s=>has known (join s name))with
  | some s=>(join s name,true)
  | none=>([],false)
def upB (b:UInt8):UInt8:=if smB b=true then b-32 else b
def cap:List UInt8->List UInt8
 | [] => []
 | b :: r=>upB b :: r
def camelG:Bool->List UInt8->List UInt8
 | _,[] => []
 | st,b :: r=>if b=95 then camelG true r else(if st=true then upB b else b) :: camelG false r
def camel (l:List UInt8):List UInt8:=if isPart l=true then camelG true l else []
theorem bcls (b:UInt8):cls b.toNat=if smB b=true then 1 else if caB b=true then 2 else if 48<=b.toNat/\b.toNat<=57 then 3 else if b.toNat=95 then 4 else 0:=by
 unfold cls smB caB;simp only [decide_eq_true_eq]
 (repeat' split) <;> first|rfl|omega
theorem let_nm (b:UInt8) (h:letB b=true):nmB b=true:=by
 unfold letB at h;unfold nmB;rw [bcls];cases h1:smB b <;> cases h2:caB b <;> simp_all
theorem cut_hit (c:UInt8) (r:List UInt8):cut c (c :: r)=[] :: cut c r:=by rw [cut];exact if_pos rfl
theorem cut_miss (c b:UInt8) (r:List UInt8) (h:b ≠ c):cut c (b :: r)=onHead b (cut c r):=by rw [cut];exact if_neg h
theorem cut_ne (c:UInt8) (l:List UInt8):cut c l ≠ []:=by
 cases l with
 | nil=>simp [cut]
 | cons b r=>
  by_cases hb:b=c
  ·subst hb;rw [cut_hit];simp
  ·rw [cut_miss c b r hb]
   cases cut c r <;> simp [onHead]
theorem cut_none (c:UInt8) : ∀l:List UInt8,c ∉ l->cut c l=[l]
 | [],_=>rfl
 | b :: r,h=>by
  have hb:b ≠ c:=fun e=>h (by simp [e])
  have hr:c ∉ r:=fun e=>h (by simp [e])
  rw [cut_miss c b r hb,cut_none c r hr];rfl
theorem idx_one (c:UInt8) : ∀l:List UInt8,(Lib.index l [c] = -1/\c ∉ l) ∨ (0<=Lib.index l [c])
 | []=>.inl ⟨by simp [Lib.index],by simp⟩
 | b :: r=>by
  unfold Lib.index;by_cases hb:c=b
  ·subst hb
   right;simp [List.isPrefixOf]
  ·have hp:([c].isPrefixOf (b :: r))=false:=by simp [List.isPrefixOf,hb]
   rw [if_neg (by simp [hp])];rcases idx_one c r with⟨h1,h2⟩|h
   ·left
    rw [if_pos (by simp [h1])];exact⟨rfl,by simp [hb,h2]⟩
   ·right
    rw [if_neg (by simp;omega)];omega
theorem split_cut (c:UInt8) : ∀l:List UInt8,Lib.splitK [c] 0 (Lib.count l [c]) l=cut c l
 | []=>by
  rw [Lib.count_miss (by simp [Lib.index])];rfl
 | b :: r=>by
  by_cases hb:c=b
  ·subst hb
   have hi:Lib.index (c :: r) [c]=((0:Nat):Int):=by unfold Lib.index;simp [List.isPrefixOf]
   rw [Lib.count_hit (by simp) hi,Nat.add_comm];unfold Lib.splitK;rw [hi,if_neg (by simp)];have:=split_cut c r;simp only [Int.toNat_natCast,List.length_cons,List.length_nil,List.drop_succ_cons,List.drop_zero,List.take_zero,Nat.zero_add];rw [this,cut_hit]
  ·have hp:([c].isPrefixOf (b :: r))=false:=by simp [List.isPrefixOf,hb]
   have ih:=split_cut c r;rcases idx_one c r with⟨h1,h2⟩|h
   ·have hi:Lib.index (b :: r) [c] = -1:=by
     unfold Lib.index;rw [if_neg (by simp [hp]),if_pos (by simp [h1])]
    rw [Lib.count_miss hi,cut_none c (b :: r) (by simp [hb,h2])];rfl
   ·obtain⟨i,hi⟩:=Int.eq_ofNat_of_zero_le h
    have hi':Lib.index r [c]=(i:Int):=hi
    have hi2:Lib.index (b :: r) [c]=((i+1:Nat):Int):=by
     unfold Lib.index;rw [if_neg (by simp [hp]),if_neg (by simp;omega),hi'];rfl
    rw [Lib.count_hit (by simp) hi',Nat.add_comm]at ih;rw [Lib.count_hit (by simp) hi2,Nat.add_comm];unfold Lib.splitK at ih ⊢;rw [hi',if_neg (by simp)]at ih;rw [hi2,if_neg (by simp;omega)];rw [cut_miss c b r (fun e=>hb e.symm), ←ih];simp [onHead]
theorem camelG_cut : ∀l:List UInt8,(cut 95 l).flatMap cap=camelG true l/\∃p ps,cut 95 l=p :: ps/\p ++ ps.flatMap cap=camelG false l
 | []=>⟨rfl,[],[],rfl,rfl⟩
 | b :: r=>by
  obtain⟨h1,p,ps,h2,h3⟩:=camelG_cut r;by_cases hb:b=95
  ·subst hb
   have hc:cut 95 (95 :: r)=[] :: cut 95 r:=cut_hit 95 r;have hg : ∀st,camelG st (95 :: r)=camelG true r:=fun st=>by rw [camelG];exact if_pos rfl
   rw [hc,hg];exact⟨by simp [cap,h1],[],cut 95 r,rfl,by rw [hg];simp [h1]⟩
  ·have hc:cut 95 (b :: r)=(b :: p) :: ps:=by rw [cut_miss 95 b r hb,h2];rfl
   have hg : ∀st,camelG st (b :: r)=(if st=true then upB b else b) :: camelG false r:=fun st=>by rw [camelG,if_neg hb]
   rw [hc,hg];refine⟨by simp [cap,h3],b :: p,ps,rfl,by rw [hg];simp [h3]⟩
theorem qfh : ∀l:List UInt8, -1<=lastDot l/\lastDot l<l.length
 | []=>by simp [lastDot]
 | b :: r=>by
  have:=qfh r;unfold lastDot;simp only [List.length_cons]
  (repeat' split) <;> omega
theorem lastDot_none : ∀l:List UInt8,lastDot l = -1 ↔ 46 ∉ l
 | []=>by simp [lastDot]
 | b :: r=>by
  have:=lastDot_none r;have hg:=qfh r;unfold lastDot;by_cases hr:lastDot r = -1
  ·rw [if_pos hr]
   by_cases hb:b=46
   ·simp [hb]
   ·simp [hb,this.1 hr,Ne.symm hb]
  ·rw [if_neg hr]
   have h2:46 ∈ r:=Decidable.byContradiction fun e=>hr (this.2 e)
   simp [h2];omega
theorem lastDot_at (l:List UInt8) (i:Nat) (h1:l[i]? = some 46) (h2 : ∀j,i<j->l[j]? ≠ some 46):lastDot l=i:=by
 induction l generalizing i with
 | nil=>simp at h1
 | cons b r ih=>
  unfold lastDot;cases i with
  | zero=>
   have hr:lastDot r = -1:=(lastDot_none r).2 (fun hm=>by
    obtain⟨j,hj⟩:=List.mem_iff_getElem?.1 hm
    exact h2 (j+1) (by omega) (by simpa using hj))
   simp at h1;rw [if_pos hr,if_pos h1];rfl
  | succ i=>
   have:=ih i (by simpa using h1) (fun j hj=>by simpa using h2 (j+1) (by omega));rw [if_neg (by omega),this];rfl
theorem lastDot_spec (l:List UInt8):(lastDot l = -1/\46 ∉ l) ∨ ∃i:Nat,lastDot l=i/\i<l.length/\l[i]? = some 46/\∀j,i<j->l[j]? ≠ some 46:=by
 induction l with
 | nil=>exact .inl ⟨rfl,by simp⟩
 | cons b r ih=>
  unfold lastDot;rcases ih with⟨h1,h2⟩|⟨i,h1,h2,h3,h4⟩
  ·rw [if_pos h1]
   by_cases hb:b=46
   ·right
    refine⟨0,by rw [if_pos hb];rfl,by simp,by simp [hb],fun j hj hc=>?_⟩;obtain⟨k,rfl⟩ : ∃k,j=k+1:=⟨j-1,by omega⟩;exact h2 (List.mem_iff_getElem?.2 ⟨k,by simpa using hc⟩)
   ·left
    exact⟨by rw [if_neg hb],by simp [Ne.symm hb,h2]⟩
  ·right
   refine⟨i+1,by rw [if_neg (by omega),h1];rfl,by simp;omega,by simpa using h3,fun j hj=>?_⟩;obtain⟨k,rfl⟩ : ∃k,j=k+1:=⟨j-1,by omega⟩
   simpa using h4 k (by omega)
theorem splitL_lt (l:List UInt8) (h:l ≠ []):(splitL l).1.length<l.length:=by
 have:=qfh l;have hp:0<l.length:=List.length_pos_iff.2 h;unfold splitL
 split
 ·exact hp
 ·simp only [List.length_take]
  omega
end Go.Proofs.YtfoaaglbpmmhiaaGreatDoor.Id
namespace Go.Proofs.YtfoaaglbpmmhiaaGreatDoor.Utf
def btw (l:List UInt8) (i lo hi:Nat):Bool:=match l[i]? with
 | some b=>decide (lo<=b.toNat) && decide (b.toNat<=hi)
 | none=>false
def tl (l:List UInt8) (i:Nat):Nat->Bool
 | 0=>true
 | n+1=>btw l i 128 191 && tl l (i+1) n
def szAt (l:List UInt8) (i:Nat):Nat:=match l[i]? with
 | none=>0
 | some u=>
  if u.toNat<128 then 1
  else if 194<=u.toNat/\u.toNat<=223/\tl l (i+1) 1=true then 2
  else if u.toNat=224/\btw l (i+1) 160 191=true/\tl l (i+2) 1=true then 3
  else if u.toNat=237/\btw l (i+1) 128 159=true/\tl l (i+2) 1=true then 3
  else if 225<=u.toNat/\u.toNat<=239/\u.toNat ≠ 237/\tl l (i+1) 2=true then 3
  else if u.toNat=240/\btw l (i+1) 144 191=true/\tl l (i+2) 2=true then 4
  else if 241<=u.toNat/\u.toNat<=243/\tl l (i+1) 3=true then 4
  else if u.toNat=244/\btw l (i+1) 128 143=true/\tl l (i+2) 2=true then 4
  else 0
def sz (l:List UInt8):Nat:=szAt l 0
theorem qoy (l:List UInt8) (i k lo hi:Nat):btw (l.drop i) k lo hi=btw l (i+k) lo hi:=by
 simp [btw,List.getElem?_drop]
theorem tl_drop (l:List UInt8) (i n:Nat) : ∀k,tl (l.drop i) k n=tl l (i+k) n:=by
 induction n with
 | zero=>intro k;rfl
 | succ n ih=>intro k;simp [tl,qoy,ih,Nat.add_assoc]
theorem qpj (l:List UInt8) (i k:Nat):szAt (l.drop i) k=szAt l (i+k):=by
 simp [szAt,List.getElem?_drop,qoy,tl_drop,Nat.add_assoc]
theorem sz_drop (l:List UInt8) (i:Nat):sz (l.drop i)=szAt l i:=by simp [sz,qpj]
theorem btw_lt {l:List UInt8} {i lo hi:Nat} (h:btw l i lo hi=true):i<l.length:=by
 unfold btw at h;cases hl:l[i]? with
 | none=>simp [hl]at h
 | some b=>exact(List.getElem?_eq_some_iff.1 hl).1
theorem tl_lt {l:List UInt8} : ∀{n i:Nat},tl l i n=true->i+n<=l.length ∨ n=0:=by
 intro n
 induction n with
 | zero=>intro i _;exact .inr rfl
 | succ n ih=>
  intro i h;simp only [tl,Bool.and_eq_true]at h;have h1:=btw_lt h.1;rcases ih h.2 with h2|h2 <;> omega
theorem szAt_lt {l:List UInt8} {i:Nat}:szAt l i ≠ 0->i+szAt l i<=l.length:=by
 unfold szAt;cases hl:l[i]? with
 | none=>simp
 | some b=>
  have hi:i<l.length:=(List.getElem?_eq_some_iff.1 hl).1;simp only
  repeat' split
  all_goals intro h0
  ·omega
  ·rename_i h;have:=tl_lt h.2.2;omega
  ·rename_i h;have:=tl_lt h.2.2;omega
  ·rename_i h;have:=tl_lt h.2.2;omega
  ·rename_i h;have:=tl_lt h.2.2.2;omega
  ·rename_i h;have:=tl_lt h.2.2;omega
  ·rename_i h;have:=tl_lt h.2.2;omega
  ·rename_i h;have:=tl_lt h.2.2;omega
  ·omega
def cntS:Nat->List UInt8->Nat
 | _,[]=>0
 | k+1,_ :: t=>cntS k t
 | 0,b :: t=>1+cntS (sz (b :: t)-1) t
def cnt (l:List UInt8):Nat:=cntS 0 l
def badS:Nat->Nat->List UInt8->Int
 | _,_,[] => -1
 | k+1,i,_ :: t=>badS k (i+1) t
 | 0,i,b :: t=>if sz (b :: t)=0 then(i:Int)else badS (sz (b :: t)-1) (i+1) t
def bad (l:List UInt8):Int:=badS 0 0 l
theorem qre (l:List UInt8) : ∀k i,badS k i l=badS 0 (i+k) (l.drop k):=by
 induction l with
 | nil=>intro k i;cases k <;> simp [badS]
 | cons b t ih=>
  intro k i;cases k with
  | zero=>rfl
  | succ k=>simp only [badS,List.drop_succ_cons];rw [ih];congr 1;omega
theorem badS_step (l:List UInt8) (i:Nat) (h:i<l.length) :
  badS 0 i (l.drop i)=if szAt l i=0 then(i:Int)else badS 0 (i+szAt l i) (l.drop (i+szAt l i)):=by
 rw [List.drop_eq_getElem_cons h];rw [badS, ←List.drop_eq_getElem_cons h,sz_drop]
 split
 ·rfl
 ·rw [qre,List.drop_drop]
  have e:i+1+(szAt l i-1)=i+szAt l i:=by omega
  rw [e]
theorem bad_end (l:List UInt8) (i:Nat) (h:l.length<=i):badS 0 i (l.drop i) = -1:=by
 rw [List.drop_eq_nil_of_le h];rfl
def val (b:UInt8):Int:=if 48<=b.toNat/\b.toNat<=57 then(b.toNat:Int)-48 else if 97<=b.toNat/\b.toNat<=102 then(b.toNat:Int)-87 else -1
end Go.Proofs.YtfoaaglbpmmhiaaGreatDoor.Utf
namespace Go.Proofs.YtfoaaglbpmmhiaaGreatDoor.Pr
def isF (f:Int):Bool:=decide (f=1 ∨ f=2 ∨ f=4)
def isK (k:Int):Bool:=decide (1<=k/\k<=9)
def rowOf (f:Int):Int:=if f=1 then 0 else if f=2 then 1 else if f=4 then 2 else -1
def famT:List Int:=[1,2,2,1,1,6,7,7,1,1,2,2,2,2,6,7,7,2,1,2,2,2,2,6,7,8,9]
def boundT:List Int:=[0,1,2147483648,2147483647,9223372036854775808,9223372036854775807,0,4294967295,0,18446744073709551615,0,0,0,0,0,0,0,2147483647]
def fam (f k:Int):Int:=if isF f=true/\isK k=true then famT.getD (rowOf f*9+(k-1)).toNat 0 else 0
def below (k:Int):Int:=boundT.getD (2*(k-1)).toNat 0
def most (k:Int):Int:=boundT.getD (2*(k-1)+1).toNat 0
def rel (f a b:Int):Bool:=decide (fam f a ≠ 0/\fam f a=fam f b)
def num (k:Int):Bool:=decide (k<=5 ∨ k=9)
def txt (k:Int):Bool:=decide (k=7 ∨ k=8)
def great (k:Int):Int:=if k=1 then 1 else if k=2 ∨ k=9 then 2147483647 else if k=4 then 4294967295 else if k=3 then 9223372036854775807 else 18446744073709551615
def leanB (k b:Int) (t:List UInt8) (n:Nat):Bool:=decide (n=0) && (if txt k=true then decide (b=0)else decide (t=[]))
def withB (k b:Int):Bool:=
 if k=1 then decide (b<=1)else if k=2 then decide (b<=2147483647 ∨ 18446744071562067968<=b)
 else if k=9 then decide (b<=2147483647)else if k=4 then decide (b<=4294967295)else true
def fitsB (kind k b:Int) (t:List UInt8) (n:Nat):Bool:=
 isK kind && decide (k=kind) && leanB k b t n && withB kind b && decide (t.length<=4096) && (decide (kind ≠ 7) || decide (Utf.bad t<0))
def cls (b:Int):Int:=
 if 9218868437227405312<b % 9223372036854775808 then 0 else if b % 9223372036854775808=9218868437227405312 then 1
 else if b % 9223372036854775808=0 then 2 else if b % 9223372036854775808<4503599627370496 then 3 else 4
def normB (k b:Int):Int:=if k=6/\cls b=0 then 9221120237041090560 else b
theorem fits_ref (kind x:Int) (t:List UInt8) (n:Nat):fitsB kind kind x t n=(isK kind && decide (n=0) && (if txt kind=true then decide (x=0) && decide (t.length<=4096) && (decide (kind=8) || decide (Utf.bad t<0))else decide (t=[]) && withB kind x)):=by
 unfold fitsB leanB;cases hk:isK kind
 ·simp
 ·cases ht:txt kind
  ·have h7:kind ≠ 7:=by
    intro h;subst h;exact absurd ht (by decide)
   by_cases hn:t=[]
   ·subst hn;simp [h7]
   ·simp [hn]
  ·have h78:kind=7 ∨ kind=8:=of_decide_eq_true ht
   rcases h78 with rfl|rfl
   ·simp [withB,Bool.and_assoc]
   ·simp [withB,Bool.and_assoc]
end Go.Proofs.YtfoaaglbpmmhiaaGreatDoor.Pr
namespace Go.Proofs.YtfoaaglbpmmhiaaGreatDoor
def Id.words:List (List UInt8):=[[109,101,115,115,97,103,101],[101,110,117,109],[115,101,114,118,105,99,101],[117,110,105,111,110],[109,97,112],[108,105,115,116],[114,101,113,117,105,114,101,100],[111,112,116,105,111,110,97,108],[112,108,97,105,110],[100,101,102,97,117,108,116],[114,101,115,101,114,118,101,100],[105,109,112,111,114,116],[115,112,97,99,101],[114,112,99],[115,116,114,101,97,109],[114,101,116,117,114,110,115],[111,112,101,110],[116,114,117,101],[102,97,108,115,101],[110,97,110],[105,110,102]]
def Id.isWord (l:List UInt8):Bool:=decide (l ∈ Id.words)
end Go.Proofs.YtfoaaglbpmmhiaaGreatDoor
namespace Go.Proofs.YtfoaaglbpmmhiaaGreatDoor.Ck
abbrev Str:=List UInt8
structure PVal where
 k:Int
 x:Int
 t:Str
 n1:Nat
 n2:Nat
 n3:Nat
 n4:Nat
def PVal.n (v:PVal):Nat:=v.n1+v.n2+v.n3+v.n4
structure PNote where
 name:Str
 val:PVal
structure PField where
 num:Int
 name:Str
 card:Int
 key:Int
 tk:Int
 tn:Str
 un:Str
 hd:Bool
 df:PVal
 notes:List PNote
structure PSpan where
 lo:Int
 hi:Int
structure PMsg where
 name:Str
 fields:List PField
 res:List PSpan
 gone:List Str
 notes:List PNote
structure PItem where
 name:Str
 num:Int
 notes:List PNote
structure PEnum where
 name:Str
 op:Bool
 items:List PItem
 res:List PSpan
 notes:List PNote
structure PMeth where
 name:Str
 inn:Str
 out:Str
 shape:Int
 notes:List PNote
structure PSvc where
 name:Str
 meths:List PMeth
 notes:List PNote
structure PSchema where
 msgs:List PMsg
 enums:List PEnum
 svcs:List PSvc
structure PProb where
 df:Str
 num:Int
 err:Int
def known:List (Str × Int × Int):=[([100,101,112,114,101,99,97,116,101,100],1,126),([100,111,99],7,126),([97,108,105,97,115],7,84),([115,105,110,99,101],4,84),([117,110,116,105,108],4,84),([109,105,110],3,4),([109,97,120],3,4),([108,101,110,103,116,104],4,4),([115,101,99,114,101,116],1,4),([105,100,101,109,112,111,116,101,110,116],1,64),([116,105,109,101,111,117,116],4,64),([114,111,117,116,101],7,64),([111,119,110,101,114],7,34)]
def find? (name:Str):Option (Int × Int):=(known.find? (fun r=>r.1=name)).map (·.2)
def qbg (name:Str):Int:=match find? name with|some r=>r.1|none=>0
def fits (kind:Int) (v:PVal):Bool:=Pr.fitsB kind v.k v.x v.t v.n
def right (n:PNote):Bool:=decide (qbg n.name ≠ 0) && fits (qbg n.name) n.val
def ltS (a b:Str):Bool:=decide (a<b)
def bitOf (m t:Int):Bool:=decide (m / 2 ^ t.toNat % 2=1)
def qbk (n:PNote) (target:Int) (last:Str) (ok:Bool):Int:=
 match find? n.name with
 | none=>8
 | some (_,tg)=>
  if target<1 ∨ 6<target ∨ bitOf tg target=false then 1
  else if right n=false then 12
  else if ok=true/\ltS n.name last=true then 11
  else if ok=true/\n.name=last then 9
  else 0
def qd1 (target:Int):List PNote->Str->Bool->Int
 | [],_,_=>0
 | n :: r,last,ok=>if qbk n target last ok=0 then qd1 target r n.name true else qbk n target last ok
def qam (l:List PNote) (target:Int):Int:=if 8<l.length then 3 else qd1 target l [] false
def qa7 (s:Str):Bool:=Id.isPart s && !Id.isWord s
def qad (s:Str):Bool:=Id.isFull s && !(Id.cut 46 s).any Id.isWord
def un (d:Str) (num:Int) (ok:Bool) (e:Int):List PProb:=if ok=true then []else [⟨d,num,e⟩]
def noted (d:Str) (num:Int) (l:List PNote) (target:Int):List PProb:=un d num (decide (qam l target=0)) (qam l target)
def qbj (l:List PSpan) (n:Int):Bool:=l.any fun x=>decide (x.lo<=n/\n<=x.hi)
def keyed (card key:Int):Bool:=if card ≠ 5 then decide (key=0)else decide (1<=key/\key<=7/\key ≠ 6)
def msgOf (s:PSchema) (name:Str):Option PMsg:=s.msgs.find? fun m=>m.name=name
def qc9 (s:PSchema) (name:Str):Option PEnum:=s.enums.find? fun e=>e.name=name
def typed (s:PSchema) (f:PField):Bool:=
 if 1<=f.tk/\f.tk<=8 then decide (f.tn=[])
 else if f.tk=9 then(qc9 s f.tn).isSome
 else if f.tk=10 then(msgOf s f.tn).isSome && decide (f.card ≠ 3)
 else false
def zeroV (v:PVal):Bool:=decide (v.k=0/\v.x=0/\v.t=[]/\v.n=0)
def u64 (n:Int):Int:=n % 18446744073709551616
def qbs (s:PSchema) (f:PField):Bool:=
 if f.hd=false then zeroV f.df
 else if f.card ≠ 2 ∨ f.un ≠ [] ∨ fits f.tk f.df=false ∨ Pr.normB f.df.k f.df.x ≠ f.df.x then false
 else if f.tk ≠ 9 then true
 else match qc9 s f.tn with
  | none=>false
  | some e=>e.items.any fun it=>decide (u64 it.num=f.df.x)
def qdt (m:PMsg) (i:Nat) (f:PField):Bool:=
 if f.un=[]then true
 else if f.card ≠ 2 ∨ qa7 f.un=false ∨ (m.fields.any fun x=>decide (x.name=f.un))=true then false
 else if((m.fields.take i).any fun x=>decide (x.un=f.un))=false then true
 else match m.fields[i-1]? with
  | some g=>decide (g.un=f.un)
  | none=>false
def qdr (s:PSchema) (m:PMsg) (i:Nat) (f:PField):List PProb:=
 un m.name f.num (decide (1<=f.num/\f.num<=65535)) 6
 ++ un m.name f.num (decide (i=0) || (match m.fields[i-1]? with|some g=>decide (g.num<f.num)|none=>false)) 11
 ++ un m.name f.num (qa7 f.name) 8
 ++ un m.name f.num (!((m.fields.take i).any fun x=>decide (x.name=f.name))) 9
 ++ un m.name f.num (!qbj m.res f.num && !Id.has m.gone f.name) 21
 ++ un m.name f.num (decide (1<=f.card/\f.card<=5) && keyed f.card f.key) 1
 ++ un m.name f.num (typed s f) 12
 ++ un m.name f.num (qdt m i f) 15
 ++ un m.name f.num (qbs s f) 1
 ++ noted m.name f.num f.notes 2
def qcz (d:Str) (least most:Int):Option PSpan->List PSpan->List PProb
 | _,[] => []
 | last,p :: r=>
  un d (-1) (decide (least<=p.lo/\p.hi<=most/\p.lo<=p.hi)) 6
  ++ un d (-1) (match last with|none=>true|some q=>decide (q.hi<p.lo)) 11
  ++ qcz d least most (some p) r
def spans (d:Str) (l:List PSpan) (least most:Int):List PProb:=qcz d least most none l
def needs (m:PMsg):List Str:=(m.fields.filter fun f=>decide (f.card=1/\f.tk=10)).map (·.tn)
def qbv (s:PSchema) (fin:Str->Bool) (m:PMsg):Str->Bool:=
 match msgOf s m.name with
 | none=>fin
 | some f=>if((needs f).any fun n=>(msgOf s n).isSome && !fin n)=true then fin else fun x=>decide (x=m.name) || fin x
def qba (s:PSchema) (fin:Str->Bool):Str->Bool:=s.msgs.foldl (qbv s) fin
def qbr (s:PSchema):Nat->(Str->Bool)->Str->Bool
 | 0,fin=>fin
 | k+1,fin=>qbr s k (qba s fin)
def qci (s:PSchema):Str->Bool:=qbr s (s.msgs.length+1) fun _=>false
def qg5 (s:PSchema) (m:PMsg) (fin:Str->Bool):Bool:=(needs m).any fun n=>(msgOf s n).isSome && !fin n
def qbb (s:PSchema) (m:PMsg):Nat->List PField->List PProb
 | _,[] => []
 | i,f :: r=>qdr s m i f ++ qbb s m (i+1) r
def qan (s:PSchema) (m:PMsg) (fin:Str->Bool):List PProb:=
 un m.name (-1) (qad m.name) 8
 ++ un m.name (-1) (decide (m.fields.length<=64/\m.res.length<=16/\m.gone.length<=16)) 3
 ++ qbb s m 0 m.fields
 ++ spans m.name m.res 1 65535
 ++ m.gone.flatMap (fun g=>un m.name (-1) (decide (Utf.bad g<0)) 7)
 ++ noted m.name (-1) m.notes 1
 ++ un m.name (-1) (!qg5 s m fin) 19
def qnw (s:PSchema) (m:PMsg):List PProb:=qan s m (qci s)
def itemP (e:PEnum) (i:Nat) (it:PItem):List PProb:=
 un e.name it.num (decide (0<=it.num/\it.num<=2147483647)) 6
 ++ un e.name it.num (decide (i=0) || (match e.items[i-1]? with|some g=>decide (g.num<it.num)|none=>false)) 11
 ++ un e.name it.num (qa7 it.name) 8
 ++ un e.name it.num (!((e.items.take i).any fun x=>decide (x.name=it.name))) 9
 ++ un e.name it.num (!qbj e.res it.num) 21
 ++ noted e.name it.num it.notes 4
def qc3 (e:PEnum):Nat->List PItem->List PProb
 | _,[] => []
 | i,f :: r=>itemP e i f ++ qc3 e (i+1) r
def enum (e:PEnum):List PProb:=
 un e.name (-1) (qad e.name) 8
 ++ un e.name (-1) (decide (1<=e.items.length/\e.items.length<=64/\e.res.length<=16)) 3
 ++ un e.name (-1) (match e.items with | []=>true|it :: _=>decide (it.num=0)) 14
 ++ qc3 e 0 e.items
 ++ spans e.name e.res 0 2147483647
 ++ noted e.name (-1) e.notes 3
def methP (s:PSchema) (v:PSvc) (i:Nat) (m:PMeth):List PProb:=
 un v.name i (qa7 m.name) 8
 ++ un v.name i (decide (i=0) || (match v.meths[i-1]? with|some g=>ltS g.name m.name|none=>false)) 11
 ++ un v.name i ((msgOf s m.inn).isSome && (msgOf s m.out).isSome) 12
 ++ un v.name i (decide (1<=m.shape/\m.shape<=4)) 1
 ++ noted v.name i m.notes 6
def qc2 (s:PSchema) (v:PSvc):Nat->List PMeth->List PProb
 | _,[] => []
 | i,m :: r=>methP s v i m ++ qc2 s v (i+1) r
def qax (s:PSchema) (v:PSvc):List PProb:=
 un v.name (-1) (qad v.name) 8
 ++ un v.name (-1) (decide (v.meths.length<=64)) 3
 ++ qc2 s v 0 v.meths
 ++ noted v.name (-1) v.notes 5
def qec:Str->List Str->Bool
 | _,[]=>true
 | a,b :: r=>ltS a b && qec b r
def qcn:List Str->Bool
 | []=>true
 | a :: r=>qec a r
def listP (l:List Str):List PProb:=un [] (-1) (decide (l.length<=64)) 3 ++ un [] (-1) (qcn l) 11
def meet (a b:List Str):Bool:=a.any fun s=>Id.has b s
def apart (a b c:List Str):Bool := !(meet b a || meet c a || meet c b)
def head (s:PSchema):List PProb:=
 listP (s.msgs.map (·.name)) ++ listP (s.enums.map (·.name)) ++ listP (s.svcs.map (·.name))
 ++ un [] (-1) (apart (s.msgs.map (·.name)) (s.enums.map (·.name)) (s.svcs.map (·.name))) 9
def all (s:PSchema):List PProb:=
 head s ++ s.msgs.flatMap (fun m=>qan s m (qci s)) ++ s.enums.flatMap enum ++ s.svcs.flatMap (qax s)
def valid (s:PSchema):Bool:=(all s).isEmpty
end Go.Proofs.YtfoaaglbpmmhiaaGreatDoor.Ck
namespace Go.Proofs.YtfoaaglbpmmhiaaGreatDoor
open Go.RowKit Ck
def Cells (w:World) (b o:Nat) (vs:List Value):Prop := ∀i v,vs[i]? = some v->w.cell? ⟨b,o+i,none⟩=some v
theorem Cells.bel {w w':World} {b o:Nat} {vs:List Value} (h:Cells w b o vs) (k:Bel w w'):Cells w' b o vs:=fun i v hv=>k.some (h i v hv)
def El {α:Type} (V:World->List Value->α->Prop) (w:World) (b o:Nat) (x:α):Prop := ∃vs,Cells w b o vs/\V w vs x
def Stays {α:Type} (V:World->List Value->α->Prop):Prop := ∀w w' vs x,Bel w w'->V w vs x->V w' vs x
theorem El.keeps {α:Type} {V:World->List Value->α->Prop} (h:Stays V):Keeps (El V):=fun w w' b o x hb k ⟨vs,h1,h2⟩=>⟨vs,h1.bel k,h w w' vs x k h2⟩
def Sv {α:Type} (C:Nat) (V:World->List Value->α->Prop):World->Value->List α->Prop:=Sl C (El V)
theorem Sv.bel {α:Type} {C:Nat} {V:World->List Value->α->Prop} (hV:Stays V) {w w':World} {v:Value} {xs:List α} (h:Sv C V w v xs) (k:Bel w w'):Sv C V w' v xs:=Sl.bel (El.keeps hV) h k
def VVal (vs:List Value) (v:PVal):Prop:=
 ∃(p1 p2 p3 p4:Option Addr) (c1 c2 c3 c4:Nat),vs=[.int .i64 v.k,.int .u64 v.x,.string (S v.t),.slice p1 v.n1 c1,.slice p2 v.n2 c2,.slice p3 v.n3 c3,.slice p4 v.n4 c4]/\0<=v.x/\v.x<18446744073709551616/\v.n1<=140737488355328/\v.n2<=140737488355328/\v.n3<=140737488355328/\v.n4<=140737488355328
def VNote (w:World) (vs:List Value) (n:PNote):Prop := ∃vv,vs=.string (S n.name) :: vv/\VVal vv n.val
theorem VNote.stays:Stays VNote:=fun _ _ _ _ _ h=>h
def VSpan (w:World) (vs:List Value) (x:PSpan):Prop:=vs=[.int .i64 x.lo,.int .i64 x.hi]
theorem VSpan.stays:Stays VSpan:=fun _ _ _ _ _ h=>h
def VStr (w:World) (vs:List Value) (k:Str):Prop:=vs=[.string (S k)]
theorem VStr.stays:Stays VStr:=fun _ _ _ _ _ h=>h
def Notes:=Sv 8 VNote
def Spans:=Sv 2 VSpan
def Texts:=Sv 1 VStr
def VField (w:World) (vs:List Value) (f:PField):Prop:=
 ∃vv nv,vs=[.int .i64 f.num,.string (S f.name),.int .i64 f.card,.int .i64 f.key,.int .i64 f.tk,.string (S f.tn),.string (S f.un),.bool f.hd] ++ vv ++ [nv]/\VVal vv f.df/\Notes w nv f.notes
theorem VField.stays:Stays VField:=fun _ _ _ _ k ⟨vv,nv,h1,h2,h3⟩=>⟨vv,nv,h1,h2,h3.bel VNote.stays k⟩
def VItem (w:World) (vs:List Value) (it:PItem):Prop := ∃nv,vs=[.string (S it.name),.int .i64 it.num,nv]/\Notes w nv it.notes
theorem VItem.stays:Stays VItem:=fun _ _ _ _ k ⟨nv,h1,h3⟩=>⟨nv,h1,h3.bel VNote.stays k⟩
def VMeth (w:World) (vs:List Value) (m:PMeth):Prop := ∃nv,vs=[.string (S m.name),.string (S m.inn),.string (S m.out),.int .i64 m.shape,nv]/\Notes w nv m.notes
theorem VMeth.stays:Stays VMeth:=fun _ _ _ _ k ⟨nv,h1,h3⟩=>⟨nv,h1,h3.bel VNote.stays k⟩
def VMsg (w:World) (vs:List Value) (m:PMsg):Prop:=
 ∃fv rv gv nv,vs=[.string (S m.name),fv,rv,gv,nv]/\Sv 16 VField w fv m.fields/\Spans w rv m.res/\Texts w gv m.gone/\Notes w nv m.notes
theorem VMsg.stays:Stays VMsg:=fun _ _ _ _ k ⟨fv,rv,gv,nv,h1,h2,h3,h4,h5⟩=>⟨fv,rv,gv,nv,h1,h2.bel VField.stays k,h3.bel VSpan.stays k,h4.bel VStr.stays k,h5.bel VNote.stays k⟩
def VEnum (w:World) (vs:List Value) (e:PEnum):Prop:=
 ∃iv rv nv,vs=[.string (S e.name),.bool e.op,iv,rv,nv]/\Sv 3 VItem w iv e.items/\Spans w rv e.res/\Notes w nv e.notes
theorem VEnum.stays:Stays VEnum:=fun _ _ _ _ k ⟨iv,rv,nv,h1,h2,h3,h4⟩=>⟨iv,rv,nv,h1,h2.bel VItem.stays k,h3.bel VSpan.stays k,h4.bel VNote.stays k⟩
def VSvc (w:World) (vs:List Value) (v:PSvc):Prop:=
 ∃mv nv,vs=[.string (S v.name),mv,nv]/\Sv 5 VMeth w mv v.meths/\Notes w nv v.notes
theorem VSvc.stays:Stays VSvc:=fun _ _ _ _ k ⟨mv,nv,h1,h2,h3⟩=>⟨mv,nv,h1,h2.bel VMeth.stays k,h3.bel VNote.stays k⟩
def VSchema (w:World) (vs:List Value) (s:PSchema):Prop:=
 ∃mv ev sv,vs=[mv,ev,sv]/\Sv 5 VMsg w mv s.msgs/\Sv 5 VEnum w ev s.enums/\Sv 3 VSvc w sv s.svcs
theorem VSchema.stays:Stays VSchema:=fun _ _ _ _ k ⟨mv,ev,sv,h1,h2,h3,h4⟩=>⟨mv,ev,sv,h1,h2.bel VMsg.stays k,h3.bel VEnum.stays k,h4.bel VSvc.stays k⟩
def probC (p:PProb):List Value:=[.string (S p.df),.int .i64 p.num,.int .i64 p.err]
end Go.Proofs.YtfoaaglbpmmhiaaGreatDoor
namespace Go.Proofs.YtfoaaglbpmmhiaaGreatDoor
open Go.ChangeShapes Go.WideShapes Go.RowKit Go.Deep
section
variable {H : Type} {enc : TypeId × Value → H} {w : World} {base : Nat} {spare : Nat → Bool} {held : Bool}
def Wt (t:TypeId) (y:DataW H × List MemPlace):Prop:=(y.1.weights Tryz.prog t).all (·<=reachBytes)=true
theorem qj0 {P:Program} {e:TypeId} : ∀{l:List (DataW H)},(DataW.weightsAll P e l).all (·<=reachBytes)=true->∀d ∈ l,(d.weights P e).all (·<=reachBytes)=true
 | [],_,d,hd=>by cases hd
 | x :: r,h,d,hd=>by
  simp only [DataW.weightsAll,List.all_append,Bool.and_eq_true]at h;rcases List.mem_cons.1 hd with rfl|hd
  ·exact h.1
  ·exact qj0 h.2 d hd
theorem collect {α:Type} (R:Nat->α->Prop) : ∀n,(∀i,i<n->∃x,R i x)->∃xs:List α,xs.length=n/\∀i x,xs[i]? = some x->R i x
 | 0,_=>⟨[],rfl,fun i x h=>by simp at h⟩
 | n+1,h=>by
  obtain⟨xs,hl,hx⟩:=collect R n (fun i hi=>h i (by omega));obtain⟨x,hxn⟩:=h n (by omega);refine⟨xs ++ [x],by simp [hl],fun i y hy=>?_⟩;rcases Nat.lt_or_ge i xs.length with hi|hi
  ·rw [List.getElem?_append_left hi]at hy
   exact hx i y hy
  ·rw [List.getElem?_append_right hi]at hy
   have hi0:i-xs.length=0:=by
    have:=(List.getElem?_eq_some_iff.1 hy).1
    simpa using this
   rw [hi0]at hy;simp at hy;subst hy;rwa [show i=n by omega]
theorem qoh {P:Program} : ∀{ts:List TypeId} {ds:List (DataW H)},(DataW.weightsEach P ts ds).all (·<=reachBytes)=true->∀(i:Nat) t d,ts[i]? = some t->ds[i]? = some d->(d.weights P t).all (·<=reachBytes)=true
 | [],_,_,i,t,d,h,_=>by simp at h
 | _ :: _,[],_,i,t,d,_,h=>by simp at h
 | t0 :: ts,d0 :: ds,hw,i,t,d,h1,h2=>by
  simp only [DataW.weightsEach,List.all_append,Bool.and_eq_true]at hw;cases i with
  | zero=>simp at h1 h2;subst h1;subst h2;exact hw.1
  | succ i=>exact qoh hw.2 i t d (by simpa using h1) (by simpa using h2)
end
end Go.Proofs.YtfoaaglbpmmhiaaGreatDoor
namespace Go.Proofs.YtfoaaglbpmmhiaaGreatDoor
open Go.RowKit Ck
theorem qfw : ∀a b:List UInt8,Op.bytesLess a b=decide (a<b)
 | [],[]=>by simp [Op.bytesLess]
 | [],b :: l=>by simp [Op.bytesLess]
 | a :: l,[]=>by simp [Op.bytesLess]
 | a :: l,b :: m=>by
  have ih:=qfw l m;unfold Op.bytesLess;simp only [List.cons_lt_cons_iff,ih];by_cases h1:a<b
  ·simp [h1]
  ·by_cases h2:a=b
   ·subst h2;simp [h1]
   ·simp [h1,h2]
theorem qg3 (a b:Str):Op.bytesLess (S a).toList (S b).toList=ltS a b:=by
 rw [ByteArray.toList_eq,ByteArray.toList_eq];exact qfw a b
theorem eq_S (a b:Str):((S a).toList == (S b).toList)=decide (a=b):=by
 rw [ByteArray.toList_eq,ByteArray.toList_eq,qah,qah,Bool.eq_iff_iff];simp
theorem qco (a:Str) (h:a=[]):(S a).toList=[]:=by subst h;rw [ByteArray.toList_eq];rfl
theorem qb6 (a:Str) (h:a ≠ []):(S a).toList ≠ []:=by rw [ByteArray.toList_eq];exact h
theorem qaw (a:Str) (h:a ≠ []):(S a).toList.isEmpty=false:=by rw [ByteArray.toList_eq,qah];simpa using h
theorem qa8 {w a:World} {b o:Nat} {v:Value} (h:Bel w a) (hb:w.heap.size<=b):Bel w (a.setCell ⟨b,o,none⟩ v):=Below.setCell h hb v
end Go.Proofs.YtfoaaglbpmmhiaaGreatDoor
namespace Go.Proofs.YtfoaaglbpmmhiaaGreatDoor.Id
theorem cut_append (c:UInt8) (b:List UInt8) (hb:c ∉ b) : ∀a:List UInt8,cut c (a ++ c :: b)=cut c a ++ [b]
 | []=>by
  show cut c (c :: b)=[[]] ++ [b]
  rw [cut_hit,cut_none c b hb];rfl
 | x :: a=>by
  have ih:=cut_append c b hb a;by_cases hx:x=c
  ·subst hx
   rw [List.cons_append,cut_hit,cut_hit,ih];rfl
  ·rw [List.cons_append,cut_miss c x _ hx,cut_miss c x _ hx,ih]
   have:=cut_ne c a;cases hc:cut c a with
   | nil=>exact absurd hc this
   | cons p ps=>rfl
theorem isFull_ne {l:List UInt8} (h:isFull l=true):l ≠ []:=by
 intro e;subst e;exact absurd h (by decide)
theorem split_at (l:List UInt8) (i:Nat) (h:lastDot l=i) (hi:i<l.length) (h3:l[i]? = some 46):l=l.take i ++ 46 :: l.drop (i+1):=by
 conv=>lhs;rw [←List.take_append_drop i l]
 rw [List.drop_eq_getElem_cons hi];rw [List.getElem?_eq_getElem hi]at h3;rw [Option.some.inj h3]
theorem full_split {l:List UInt8} (h:isFull l=true):isPart (splitL l).2=true/\join (splitL l).1 (splitL l).2=l/\((splitL l).1 ≠ []->isFull (splitL l).1=true):=by
 unfold isFull at h;simp only [Bool.and_eq_true,decide_eq_true_eq]at h;obtain⟨h1,h2⟩:=h;rcases lastDot_spec l with⟨e,hn⟩|⟨i,e,hi,h3,h4⟩
 ·have hs:splitL l=([],l):=by unfold splitL;rw [if_pos e]
  rw [cut_none 46 l hn]at h1;rw [hs];simp at h1;exact⟨h1,by simp [join],fun h=>absurd rfl h⟩
 ·have hs:splitL l=(l.take i,l.drop (i+1)):=by unfold splitL;rw [if_neg (by omega),e];rfl
  have hl:=split_at l i e hi h3
  have hn:(46:UInt8) ∉ l.drop (i+1):=by
   intro hm;obtain⟨j,hj⟩:=List.mem_iff_getElem?.1 hm;rw [List.getElem?_drop]at hj;exact h4 (i+1+j) (by omega) hj
  have hc:cut 46 l=cut 46 (l.take i) ++ [l.drop (i+1)]:=by
   conv=>lhs;rw [hl]
   exact cut_append 46 _ hn _
  rw [hc,List.all_append]at h1;simp only [Bool.and_eq_true]at h1
  have ha:l.take i ≠ []:=by
   intro e0;rw [e0]at h1;exact absurd h1.1 (by decide)
  rw [hs];refine⟨by simpa using h1.2,?_,fun _=>?_⟩
  ·show join (l.take i) (l.drop (i+1))=l
   unfold join;rw [if_neg ha];exact hl.symm
  ·unfold isFull
   simp only [Bool.and_eq_true,decide_eq_true_eq];refine⟨h1.1,?_⟩;show(l.take i).length<=120
   rw [List.length_take];omega
theorem okB_all {l:List UInt8} (h:okB l=true):l.all nmB=true:=by
 cases l with
 | nil=>rfl
 | cons b r=>
  simp only [okB,Bool.and_eq_true]at h;simp only [List.all_cons,Bool.and_eq_true];exact⟨let_nm b h.1,h.2⟩
theorem isPart_parts {l:List UInt8} (h:isPart l=true) : ∃b r,l=b :: r/\letB b=true/\r.all nmB=true/\r.length<=39:=by
 unfold isPart at h;simp only [Bool.and_eq_true,decide_eq_true_eq]at h;obtain⟨h1,h2⟩:=h;cases l with
 | nil=>simp at h2
 | cons b r=>
  simp only [okB,Bool.and_eq_true]at h1;simp only [List.length_cons]at h2;exact⟨b,r,rfl,h1.1,h1.2,by omega⟩
theorem u8_all (p:UInt8->Bool) (h : ∀b:Fin 256,p (UInt8.ofNat b.val)=true) (b:UInt8):p b=true:=by
 have:=h ⟨b.toNat,b.toNat_lt⟩
 simpa using this
end Go.Proofs.YtfoaaglbpmmhiaaGreatDoor.Id
namespace Go.Proofs.YtfoaaglbpmmhiaaGreatDoor
open Go.RowKit
theorem okB_pre (a b:List UInt8) (h:Id.okB (a ++ b)=true):Id.okB a=true:=by
 cases a with
 | nil=>rfl
 | cons x a=>
  simp only [List.cons_append,Id.okB,List.all_append,Bool.and_eq_true]at h ⊢;exact⟨h.1,h.2.1⟩
theorem okB_snoc (l:List UInt8) (b:UInt8):Id.okB (l ++ [b])=(Id.okB l && if l=[]then Id.letB b else Id.nmB b):=by
 cases l with
 | nil=>simp [Id.okB]
 | cons x a=>
  simp only [List.cons_append,Id.okB,List.all_append,List.all_cons,List.all_nil,Bool.and_true];rw [if_neg (by simp),Bool.and_assoc]
theorem take_one (l:List UInt8) (k:Nat) (b:UInt8) (h:l[k]? = some b):l.take (k+1)=l.take k ++ [b]:=by
 obtain⟨hk,rfl⟩:=List.getElem?_eq_some_iff.1 h;exact List.take_succ_eq_append_getElem hk
theorem qh7 (l:List UInt8) (k:Nat) (b:UInt8) (h:l[k]? = some b):Id.okB (l.take (k+1))=(Id.okB (l.take k) && if k=0 then Id.letB b else Id.nmB b):=by
 rw [take_one l k b h,okB_snoc]
 congr 1
 have hk:k<l.length:=(List.getElem?_eq_some_iff.1 h).1;by_cases h0:k=0
 ·subst h0;simp
 ·rw [if_neg (fun e=>h0 (by have:=congrArg List.length e;simp only [List.length_take,List.length_nil]at this;omega)),if_neg h0]
theorem qku (l:List UInt8) (k:Nat) (b:UInt8) (h:l[k]? = some b) (hb:(if k=0 then Id.letB b else Id.nmB b)=false):Id.isPart l=false:=by
 have h1:=qh7 l k b h;rw [hb,Bool.and_false]at h1;cases he:Id.okB l
 ·simp [Id.isPart,he]
 ·rw [←List.take_append_drop (k+1) l]at he
  rw [okB_pre _ _ he]at h1;cases h1
theorem qim (l:List UInt8) (h:Id.okB l=true):Id.isPart l=(decide (1<=l.length) && decide (l.length<=40)):=by
 unfold Id.isPart;rw [h,Bool.true_and,Bool.eq_iff_iff];simp
theorem nm_cls (b:UInt8):Id.nmB b=decide (Id.cls b.toNat ≠ 0):=rfl
theorem let_cls (b:UInt8):Id.letB b=decide (Id.cls b.toNat=1 ∨ Id.cls b.toNat=2):=by
 unfold Id.letB;rw [Id.bcls];cases h1:Id.smB b <;> cases h2:Id.caB b <;> simp
 (repeat' split) <;> simp
theorem qom (c:Int) (h:128<=c):Id.cls c=0:=by
 unfold Id.cls
 (repeat' split) <;> omega
theorem nm_high (b:UInt8) (h:128<=b.toNat) (k:Nat):(if k=0 then Id.letB b else Id.nmB b)=false:=by
 have:=qom b.toNat (by omega);rw [let_cls,nm_cls,this]
 split <;> rfl
end Go.Proofs.YtfoaaglbpmmhiaaGreatDoor
namespace Go.Proofs.YtfoaaglbpmmhiaaGreatDoor
open Go.RowKit Go.Maps Go.WideMaps
theorem qgz:Keyed Tryz.prog 9:=string_keyed Tryz.underlying9
section
variable {H : Type} {R : Value → Option (DataW H × List MemPlace)} {w : World} {b n : Nat} {f : List UInt8 → Option (DataW H)}
def MapIs (R:Value->Option (DataW H × List MemPlace)) (w:World) (b n:Nat) (f:List UInt8->Option (DataW H)):Prop:=
 ∃D:DataW H,w.ownsMap Tryz.prog 9 R b n D/\IsMap D/\∀k,has D (.string k)=(f k).isSome/\∀z,D.atKey (.string k) z=(f k).getD z
theorem MapIs.made (w:World) (R:Value->Option (DataW H × List MemPlace)):MapIs R (w.alloc (.map #[] 0)) w.heap.size 0 (fun _=>none):=
 ⟨.map [],World.ownsMap_made w _ _ _,⟨[],rfl⟩,fun k=>⟨rfl,fun z=>rfl⟩⟩
theorem MapIs.lt (h:MapIs R w b n f):b<w.heap.size:=by obtain⟨D,h1,_⟩:=h;exact h1.lt
theorem MapIs.block {w':World} (h:MapIs R w b n f) (hb:w'.heap[b]? = w.heap[b]?):MapIs R w' b n f:=by
 obtain⟨D,⟨es,clock,h1,F,hs,hD⟩,h2,h3⟩:=h;exact⟨D,⟨es,clock,hb.trans h1,F,hs,hD⟩,h2,h3⟩
theorem MapIs.bel {w':World} (h:MapIs R w b n f) (k:Bel w w'):MapIs R w' b n f:=h.block (Below.block k b h.lt)
theorem qpl (k:List UInt8) (hk:k.length<=1000000000):keyOf Tryz.prog 9 (.string (S k))=some (.string k):=
 keyOf_string_mk Tryz.underlying9 (s:=S k) (by rw [qai];unfold maxLen;omega)
theorem MapIs.put_of {w':World} {D:DataW H} {key:List UInt8} {d:DataW H} {n':Nat} (hD:IsMap D) (hf : ∀k,has D (.string k)=(f k).isSome/\∀z,D.atKey (.string k) z=(f k).getD z)
  (hown:w'.ownsMap Tryz.prog 9 R b n' (D.put (.string key) d)):MapIs R w' b n' (fun k=>if k=key then some d else f k):=by
 refine⟨_,hown,hD.put _ _,fun k=>?_⟩;by_cases hk:k=key
 ·subst hk
  simp only [if_true];exact⟨has_put_same (k:=.string k) hD trivial d,fun z=>atKey_put_same (k:=.string k) hD trivial d z⟩
 ·have hne:Lit.string k ≠ Lit.string key:=fun e=>hk (by injection e)
  simp only [hk,if_false];exact⟨(has_put_other hne d).trans (hf k).1,fun z=>(atKey_put_other hne d z).trans ((hf k).2 z)⟩
end
section
variable {H : Type} {R : Value → Option (DataW H × List MemPlace)} (w : World) {ops : Array Oper} {rest : List Oper} {o : Oper} {a : Act} {Q : Exit → Act → World → Prop}
theorem qab (hg:o.guard=none) (m x v:Operand) (t e:TypeId) (hop:o.op=Op.insert t m x v) (ht:Tryz.prog.underlying t=some (.map 9 e)) (b n:Nat) (f:List UInt8->Option (DataW H))
  (hm:a.eval m=.map (some b)) (h:MapIs R w b n f) (hn:n<=1000000) (key:List UInt8) (hkl:key.length<=1000000000) (val:Value) (hx:a.eval x=.string (S key)) (hv:a.eval v=val) (d:DataW H) (ps:List MemPlace) (hval:R val=some (d,ps))
  (hK : ∀w',MapIs R w' b (n+1) (fun k=>if k=key then some d else f k)->w.grownBy w' (some b)->wpList Tryz.prog ops Q rest (a.put o.dst undef) w'):wpList Tryz.prog ops Q (o :: rest) a w:=by
 obtain⟨D,hown,hD,hf⟩:=h;refine wpList_plain hg fun K' hK'=>?_
 obtain⟨w',hrun,r1,r2⟩:=hown.update qgz ht (by unfold maxLen;omega) (qpl key hkl) hval;unfold Oper.wp;simp [execOp,hop,hm,hx,hv,hrun,Result.andThen];exact hK' _ _ (hK w' (MapIs.put_of hD hf r1) r2)
theorem qf3 (hg:o.guard=none) (m x v:Operand) (t e:TypeId) (hop:o.op=Op.mapUpdate t m x v) (ht:Tryz.prog.underlying t=some (.map 9 e)) (b n:Nat) (f:List UInt8->Option (DataW H))
  (hm:a.eval m=.map (some b)) (h:MapIs R w b n f) (hn:n<=1000000) (key:List UInt8) (hkl:key.length<=1000000000) (val:Value) (hx:a.eval x=.string (S key)) (hv:a.eval v=val) (d:DataW H) (ps:List MemPlace) (hval:R val=some (d,ps))
  (hK : ∀w',MapIs R w' b (n+1) (fun k=>if k=key then some d else f k)->w.grownBy w' (some b)->wpList Tryz.prog ops Q rest (a.put o.dst undef) w'):wpList Tryz.prog ops Q (o :: rest) a w:=by
 obtain⟨D,hown,hD,hf⟩:=h;refine wpList_plain hg fun K' hK'=>?_
 obtain⟨w',hrun,r1,r2⟩:=hown.update qgz ht (by unfold maxLen;omega) (qpl key hkl) hval;unfold Oper.wp;simp [execOp,hop,hm,hx,hv,hrun,Result.andThen];exact hK' _ _ (hK w' (MapIs.put_of hD hf r1) r2)
theorem MapIs.look {w:World} {b n:Nat} {f:List UInt8->Option (DataW H)} (h:MapIs R w b n f) {t e:TypeId} (ht:Tryz.prog.underlying t=some (.map 9 e)) {z:Value} (hz:(zeroValue e).run Tryz.prog w=.ok z w) {zd:DataW H} {zp:List MemPlace} (hzd:R z=some (zd,zp)) (key:List UInt8) (hkl:key.length<=1000000000) :
  ∃v ps,(Instr.lookup t (.map (some b)) (.string (S key)) false).run Tryz.prog w=.ok v w/\R v=some ((f key).getD zd,ps):=by
 obtain⟨D,hown,hD,hf⟩:=h;obtain⟨v,ps,h1,h2⟩:=hown.lookup qgz ht hz hzd (qpl key hkl);exact⟨v,ps,h1,by rw [h2,(hf key).2]⟩
theorem MapIs.look_ok {w:World} {b n:Nat} {f:List UInt8->Option (DataW H)} (h:MapIs R w b n f) {t e:TypeId} (ht:Tryz.prog.underlying t=some (.map 9 e)) {z:Value} (hz:(zeroValue e).run Tryz.prog w=.ok z w) {zd:DataW H} {zp:List MemPlace} (hzd:R z=some (zd,zp)) (key:List UInt8) (hkl:key.length<=1000000000) :
  ∃v ps,(Instr.lookup t (.map (some b)) (.string (S key)) true).run Tryz.prog w=.ok (.tuple #[v,.bool (f key).isSome]) w/\R v=some ((f key).getD zd,ps):=by
 obtain⟨D,hown,hD,hf⟩:=h;obtain⟨v,ps,h1,h2⟩:=hown.look_ok qgz ht hz hzd (qpl key hkl);exact⟨v,ps,by rw [h1,(hf key).1],by rw [h2,(hf key).2]⟩
end
end Go.Proofs.YtfoaaglbpmmhiaaGreatDoor
namespace Go.Proofs.YtfoaaglbpmmhiaaGreatDoor
open Go.RowKit
theorem qae {P:Program} {id:Nat} {Q:Exit->Act->World->Prop} {a:Act} {w wd:World} {l:List Oper} (n:Nat) (hm:P.follows .mixedOrders=true) (hB:Region.lexTailB .any l.toArray n=true) (hwd:wd=w.drew)
  (h:wpStill P l.toArray wd (fun a'=>wpList P l.toArray Q (l.drop n) a' wd) (l.take n) a):(Code.region id l.toArray true).wp P Q a w:=by subst hwd;exact wp_region_still_tail n hm hB h
theorem qaa {P:Program} {ops:Array Oper} {w:World} {Q:Act->Prop} {o:Oper} {rest:List Oper} {a:Act} (h:Region.wanted o (yielded ops a.tmps)=false) (k:wpStill P ops w Q rest (a.put o.dst undef)):wpStill P ops w Q (o :: rest) a:=by
 unfold wpStill;rw [h];exact k
end Go.Proofs.YtfoaaglbpmmhiaaGreatDoor
namespace Go.Proofs.YtfoaaglbpmmhiaaGreatDoor
open Go.RowKit
section
variable {P : Program} {ops : Array Oper} {md : Region.Mode}
def chainG (md:Region.Mode) (ops:Array Oper) (n:Nat):Bool:=
 (List.range ops.size).all fun t=>decide (t<=n) || (List.range t).any fun j=>decide (n<=j) && Region.waitsFor md ops t j
def qle (ops:Array Oper) (n:Nat):Bool:=
 (List.range (n+1)).all fun i=>match (ops[i]?).bind (·.guard)with|some (j,_)=>decide (j<=n)|none=>true
def qbw (ops:Array Oper) (n:Nat):Array Oper:=ops.extract 0 (n+1)
theorem qlo {n i:Nat} (hi:i<=n):(qbw ops n)[i]? = ops[i]?:=by
 unfold qbw;rw [Array.getElem?_extract];by_cases h:i<ops.size
 ·rw [if_pos (by omega),Nat.zero_add]
 ·rw [if_neg (by omega),Array.getElem?_eq_none (by omega)]
theorem cut_none {n i:Nat} (hi:n<i):(qbw ops n)[i]? = none:=by
 unfold qbw;rw [Array.getElem?_extract,if_neg (by omega)]
def Twin (n:Nat) (l l':Array Bool) (ops:Array Oper):Prop:=
 l.size=ops.size/\l'.size=n+1/\(∀i,i<=n->l.getD i true=l'.getD i true/\l.getD i false=l'.getD i false)/\∀t,n<=t->t<ops.size->l.getD t true=false
theorem qer {l:Array Bool} {t:Nat} (h:l.getD t true=false):l.getD t false=false:=by
 rcases Nat.lt_or_ge t l.size with h'|h'
 ·simp [h']at h ⊢;exact h
 ·simp [Array.getElem?_eq_none h']at h
theorem qi1 {n:Nat} {l l':Array Bool} (hG:chainG md ops n=true) (tw:Twin n l l' ops) (i:Nat):i ∈ Region.ready md ops l ↔ i ∈ Region.ready md (qbw ops n) l':=by
 obtain⟨h1,h2,h3,h4⟩:=tw
 have hd : ∀j,l.getD j false=l'.getD j false:=fun j=>by
  rcases Nat.lt_or_ge n j with h|h
  ·rw [show l'.getD j false=false by simp [Array.getElem?_eq_none (show l'.size<=j by omega)]]
   rcases Nat.lt_or_ge j ops.size with h'|h'
   ·exact qer (h4 j (by omega) h')
   ·simp [Array.getElem?_eq_none (show l.size<=j by omega)]
  ·exact(h3 j h).2
 rw [mem_ready,mem_ready];rcases Nat.lt_or_ge n i with h|h
 ·constructor
  ·rintro ⟨g1,o,g2,g3⟩
   exfalso;have hi:i<ops.size:=(Array.getElem?_eq_some_iff.1 g2).1;have:=List.all_eq_true.1 hG i (List.mem_range.2 hi);simp only [Bool.or_eq_true,decide_eq_true_eq]at this;rcases this with this|this
   ·omega
   ·obtain⟨j,hj,hj2⟩:=List.any_eq_true.1 this
    simp only [Bool.and_eq_true,decide_eq_true_eq]at hj2;obtain⟨oj,hoj,e,he,hb,hon⟩:=Region.waitsFor_spec hj2.2;have:oj=o:=Option.some.inj (hoj.symm.trans g2);subst this;have h5:=g3 e he hb;have h6:=List.mem_range.1 hj;rw [hon,qer (h4 j hj2.1 (by omega))]at h5;cases h5
  ·rintro ⟨_,o,g2,_⟩
   rw [cut_none h]at g2;cases g2
 ·rw [qlo h,(h3 i h).1]
  constructor
  ·rintro ⟨g1,o,g2,g3⟩
   exact⟨g1,o,g2,fun e he hb=>by rw [←hd];exact g3 e he hb⟩
  ·rintro ⟨g1,o,g2,g3⟩
   exact⟨g1,o,g2,fun e he hb=>by rw [hd];exact g3 e he hb⟩
theorem twin_set {n i:Nat} {l l':Array Bool} (hn:n<ops.size) (tw:Twin n l l' ops) (hi:i<n):Twin n (l.setIfInBounds i true) (l'.setIfInBounds i true) ops:=by
 obtain⟨h1,h2,h3,h4⟩:=tw;refine⟨by simpa using h1,by simpa using h2,fun j hj=>?_,fun t ht ht'=>?_⟩
 ·by_cases e:i=j
  ·subst e
   have hs:i<l.size:=by omega
   have hs':i<l'.size:=by omega
   simp [hs,hs']
  ·rw [getD_set_ne true e,getD_set_ne true e,getD_set_ne false e,getD_set_ne false e]
   exact h3 j hj
 ·rw [getD_set_ne true (by omega)]
  exact h4 t ht ht'
theorem qoj {n i:Nat} {o:Oper} (hg:qle ops n=true) (hi:i<=n) (ho:ops[i]? = some o) (tmps:Array Value):Region.wanted o (yielded (qbw ops n) tmps)=Region.wanted o (yielded ops tmps):=by
 have h:=List.all_eq_true.1 hg i (List.mem_range.2 (by omega));rw [ho]at h;unfold Region.wanted;cases hgd:o.guard with
 | none=>rfl
 | some p=>
  obtain⟨j,b⟩:=p;simp only [Option.bind_some,hgd,decide_eq_true_eq]at h;have:yielded (qbw ops n) tmps j=yielded ops tmps j:=by unfold yielded;rw [qlo h]
  simp only [this]
theorem cut_stOp {n i:Nat} {w:World} {K K':Act->Prop} {a:Act} (hg:qle ops n=true) (hi:i<=n) (h : ∀a,K' a->K a) (hh:stOp P (qbw ops n) w i K' a):stOp P ops w i K a:=by
 refine stOp_mono h ?_;unfold stOp at *;rw [qlo hi]at hh;cases ho:ops[i]? with
 | none=>rw [ho]at hh;exact hh
 | some o=>
  rw [ho]at hh;simp only [qoj hg hi ho]at hh;exact hh
theorem qiv {n:Nat} {w:World} {L:Array Bool->Act->Prop} (hn:n<ops.size) (hG:chainG md ops n=true) (hg:qle ops n=true) :
  ∀(f:Nat) (l l':Array Bool) (a:Act),Twin n l l' ops->HeadInv md (qbw ops n) n l'->wpAnyL P md (qbw ops n) w n L f l' a →
   wpAnyL P md ops w n (fun l a => ∃l',Twin n l l' ops/\HeadInv md (qbw ops n) n l'/\L l' a) f l a
 | 0,l,l',a,tw,inv,h=>⟨l',tw,inv,h⟩
 | f+1,l,l',a,tw,inv,h=>by
  refine⟨fun he=>h.1 ?_,fun i hi=>?_⟩
  ·have : ∀i,i ∉ Region.ready md (qbw ops n) l':=fun i hi=>by
    have:=(qi1 hG tw i).2 hi;rw [he]at this;cases this
   exact List.eq_nil_iff_forall_not_mem.2 this
  ·have hi':=(qi1 hG tw i).1 hi
   obtain⟨hin,hst⟩:=h.2 i hi';exact⟨hin,cut_stOp hg (Nat.le_of_lt hin) (fun a' h'=>qiv hn hG hg f _ _ a' (twin_set hn tw hin) (inv.set hi' hin) h') hst⟩
def qc8 (k size:Nat):Array Bool:=Array.ofFn (n:=size) fun i=>decide (i.1<k)
theorem qfm (k size i:Nat) (d:Bool) (h:i<size):(qc8 k size).getD i d=decide (i<k):=by
 unfold qc8;simp [h]
theorem qmw {n:Nat} {l l':Array Bool} (hn:n<ops.size) (hs:Region.sinkB md (qbw ops n) n=true) (hc:Region.chainB md (qbw ops n) n=true) (tw:Twin n l l' ops) (inv:HeadInv md (qbw ops n) n l') (hr:Region.ready md (qbw ops n) l'=[n]):l=qc8 n ops.size:=by
 have hcs:n<(qbw ops n).size:=by unfold qbw;simp;omega
 have hall : ∀i,i<n->l'.getD i true=true:=fun i hi=>by
  cases hun:l'.getD i true with
  | true=>rfl
  | false=>
   exfalso;exact tail_waits hs hc hcs inv _ i rfl hi hun n (Nat.le_refl _) (by rw [hr];exact List.mem_singleton.2 rfl)
 obtain⟨h1,h2,h3,h4⟩:=tw;refine Array.ext (by rw [h1];unfold qc8;simp) fun i hi hi2=>?_
 have hio:i<ops.size:=by omega
 have e1:l.getD i true=l[i]:=by simp [hi]
 have e2:(qc8 n ops.size).getD i true=(qc8 n ops.size)[i]:=by simp [hi2]
 rw [←e1, ←e2,qfm _ _ _ _ hio];by_cases h:i<n
 ·rw [(h3 i (by omega)).1,hall i h,decide_eq_true h]
 ·rw [h4 i (by omega) hio,decide_eq_false h]
theorem qlj (k size i:Nat) (h:i<(qc8 k size).size):(qc8 k size)[i]=decide (i<k):=by simp [qc8]
theorem qoc (n size:Nat):(qc8 n size).setIfInBounds n true=qc8 (n+1) size:=by
 refine Array.ext (by simp [qc8]) fun i hi hi2=>?_
 rw [Array.getElem_setIfInBounds (by simpa using hi),qlj,qlj];by_cases h:n=i
 ·subst h;simp
 ·rw [if_neg h,decide_eq_decide]
  omega
def closedB (md:Region.Mode) (ops:Array Oper) (listed:Array Bool):Bool:=
 (List.range ops.size).all fun j => !listed.getD j false || match ops[j]? with|some o=>o.after.all fun e => !Region.binds md e || listed.getD e.on false|none=>true
def twoB (md:Region.Mode) (ops:Array Oper) (n m:Nat):Bool:=
 chainG md ops n && qle ops n && Region.lexTailB md (qbw ops n) n && Region.noSelect ops && Region.sinkB md ops m && Region.chainB md ops m && decide (n<m) && decide (m<ops.size)
 && Region.lexHead md ops (ops.size-m) (m-(n+1)) (n+1) (qc8 (n+1) ops.size) && closedB md ops (qc8 (n+1) ops.size) && decide (Region.ready md ops (qc8 n ops.size)=[n])
theorem qnb {id:Nat} {Q:Exit->Act->World->Prop} {a:Act} {w wd:World} {l:List Oper} (n m:Nat) (hm:P.follows .mixedOrders=true) (hB:twoB .any l.toArray n m=true) (hwd:wd=w.drew)
  (h:wpStill P (l.take (n+1)).toArray wd (fun a'=>wpOp P l.toArray Q n (fun a2 w2=>wpStill P l.toArray w2 (fun a3=>wpList P l.toArray Q (l.drop m) a3 w2) ((l.take m).drop (n+1)) a2) a' wd) (l.take n) a):(Code.region id l.toArray true).wp P Q a w:=by
 subst hwd;simp only [twoB,Bool.and_eq_true,decide_eq_true_eq]at hB;obtain⟨⟨⟨⟨⟨⟨⟨⟨⟨⟨hG,hg⟩,hlt⟩,hsel⟩,hs⟩,hc⟩,hnm⟩,hml⟩,hlex⟩,hcl⟩,hrd⟩:=hB
 have hcut:qbw l.toArray n=(l.take (n+1)).toArray:=by
  unfold qbw;rw [←Array.toArray_toList (xs:=l.toArray.extract 0 (n+1))];simp
 have hml':m<l.length:=by simpa using hml
 simp only [Region.lexTailB,Bool.and_eq_true,decide_eq_true_eq]at hlt;obtain⟨⟨⟨⟨hsel1,hn1⟩,hs1⟩,hc1⟩,hlex1⟩:=hlt;have hsz:(qbw l.toArray n).size=n+1:=by rw [hcut];simp;omega
 have inv0:HeadInv .any (qbw l.toArray n) n (Array.replicate (qbw l.toArray n).size false):=
  ⟨by simp,fun j oj _ hl=>(by rw [getD_replicate_false]at hl;cases hl),fun t _ ht=>getD_in (by simpa using ht) (getD_replicate_false _ _)⟩
 have htl:(l.take n).length=n:=by simp;omega
 rw [←hcut]at h
 have H:=wpAnyL_lex (md:=.any) (g:=(qbw l.toArray n).size-n) hsel1 hs1 hc1 hn1 (l.take n) 0 _ a (fun j hj=>by
  have hj':j<n:=by rw [htl]at hj;exact hj
  rw [Nat.zero_add,qlo (by omega)]
  simp [hj']) (by simpa using htl) inv0 (by rw [htl];exact hlex1) h
 have tw0:Twin n (Array.replicate l.toArray.size false) (Array.replicate (qbw l.toArray n).size false) l.toArray:=by
  refine⟨by simp,by rw [hsz];simp,fun i hi=>?_,fun t _ ht=>getD_in (by simpa using ht) (getD_replicate_false _ _)⟩;rw [getD_replicate_false,getD_replicate_false];have q1:(Array.replicate l.toArray.size false).getD i true=false:=getD_in (by simp;omega) (getD_replicate_false _ _);have q2:(Array.replicate (qbw l.toArray n).size false).getD i true=false:=getD_in (by rw [hsz];simp;omega) (getD_replicate_false _ _);exact⟨by rw [q1,q2],rfl⟩
 have H2:=qiv (by simp;omega) hG hg _ _ _ a tw0 inv0 H;refine wp_region_any hm ?_
 have key : ∀(listed:Array Bool) (a':Act),(∃l',Twin n listed l' l.toArray/\HeadInv .any (qbw l.toArray n) n l'/\(Region.seqB .any (qbw l.toArray n) ((qbw l.toArray n).size-n) n l'=true/\wpOp P l.toArray Q n (fun a2 w2=>wpStill P l.toArray w2 (fun a3=>wpList P l.toArray Q (l.drop m) a3 w2) ((l.take m).drop (n+1)) a2) a' w.drew))->wpAny P .any l.toArray Q ((((l.take m).drop (n+1)).length+(l.drop m).length)+1) listed a' w.drew:=by
  rintro listed a' ⟨l',tw,inv,hseq,hop⟩;rw [hsz,show n+1-n=0+1 by omega]at hseq;simp only [Region.seqB,Bool.and_eq_true,decide_eq_true_eq]at hseq;have hl:=qmw (by simp;omega) hs1 hc1 tw inv hseq.1;subst hl;refine⟨fun he=>?_,fun i hi=>?_⟩
  ·rw [hrd]at he;cases he
  ·rw [hrd]at hi
   have hin:i=n:=by simpa using hi
   subst hin;refine wpOp_mono (fun a2 w2 h2=>?_) hop;rw [qoc];have hlen:((l.take m).drop (i+1)).length=m-(i+1):=by simp;omega
   have inv2:HeadInv .any l.toArray m (qc8 (i+1) l.toArray.size):=by
    refine⟨by unfold qc8;simp,fun j oj hj hl e he hb=>?_,fun t ht ht'=>by rw [qfm _ _ _ _ ht'];exact decide_eq_false (by omega)⟩;have hjs:j<l.toArray.size:=(Array.getElem?_eq_some_iff.1 hj).1;have:=List.all_eq_true.1 hcl j (List.mem_range.2 hjs);rw [hl,hj]at this;simp only [Bool.not_true,Bool.false_or]at this;have:=Array.all_eq_true'.1 this e he;rw [hb]at this
    simpa using this
   have H3:=wpAnyL_lex (md:=.any) (g:=l.toArray.size-m) hsel hs hc hml ((l.take m).drop (i+1)) (i+1) _ a2 (fun j hj=>by
    rw [hlen]at hj;simp only [List.getElem?_drop,List.getElem?_toArray]
    rw [List.getElem?_take,if_pos (by omega)]) (by rw [hlen];omega) inv2 (by rw [hlen];exact hlex) h2
   refine wpAny_of_head (Q':=Q) (g:=(l.drop m).length) (fun listed a3 hL=>?_) _ _ _ H3;have hdl:(l.drop m).length=l.toArray.size-m:=by simp
   exact wpAny_of_seq (md:=.any) (Q':=Q) (l.drop m) m listed a3 w2 (fun j=>by simp [List.getElem?_drop]) (by rw [hdl];exact hL.1) hL.2
 have:=wpAny_of_head (Q':=Q) key _ _ _ H2;have hsum:(l.take n).length+((((l.take m).drop (n+1)).length+(l.drop m).length)+1)=l.toArray.size:=by simp;omega
 rw [hsum]at this;exact this
end
end Go.Proofs.YtfoaaglbpmmhiaaGreatDoor
namespace Go.Proofs.YtfoaaglbpmmhiaaGreatDoor
open Go.RowKit
def qcv (Q:Exit->Act->World->Prop) (T:Act->World->Prop):Exit->Act->World->Prop
 | .normal,a,w=>T a w
 | .outgrown,a,w=>Q .outgrown a w
 | _,_,_=>False
def qb3 (l:List Oper):List (Nat × Bool)->List (Nat × Bool × Oper)
 | [] => []
 | (i,b) :: r=>match l[i]? with
  | some o=>(i,b,o) :: qb3 l r
  | none=>qb3 l r
def wpOrd (P:Program) (ops:Array Oper) (S:World->Prop) (Q:Exit->Act->World->Prop) (K:Act->World->Prop):List (Nat × Bool × Oper)->Act->World->Prop
 | [],a,w=>K a w
 | (_,true,o) :: r,a,w => ∃v,YieldsIf P ops S o v a/\wpOrd P ops S Q K r (a.put o.dst v) w
 | (_,false,o) :: r,a,w=>if Region.wanted o (yielded ops a.tmps)=true then Oper.wp P o a w (fun a' w'=>S w'/\wpOrd P ops S Q K r a' w') Q else S w/\wpOrd P ops S Q K r (a.put o.dst undef) w
section
variable {P : Program} {ops : Array Oper} {md : Region.Mode} {S : World → Prop} {Q : Exit → Act → World → Prop} {K : Act → World → Prop} {a : Act} {w : World} {i : Nat} {o : Oper} {r : List (Nat × Bool × Oper)}
theorem qa1 {v:Value} (hw:Region.wanted o (yielded ops a.tmps)=true) (hy : ∀W,S W->(execOp a.eval o).run P W=.ok (.value v) W) (h:wpOrd P ops S Q K r (a.put o.dst v) w):wpOrd P ops S Q K ((i,true,o) :: r) a w:=⟨v,.inl ⟨hw,hy⟩,h⟩
theorem qaj (h : ∀K':Act->World->Prop,(∀a w,S w->wpOrd P ops S Q K r a w->K' a w)->if Region.wanted o (yielded ops a.tmps)=true then Oper.wp P o a w K' Q else K' (a.put o.dst undef) w):wpOrd P ops S Q K ((i,false,o) :: r) a w:=by
 have h1:=h (fun a' w'=>S w'/\wpOrd P ops S Q K r a' w') (fun _ _ h1 h2=>⟨h1,h2⟩);show(if _ then _ else _)
 exact h1
theorem qbm (h:K a w):wpOrd P ops S Q K [] a w:=h
def cutM (ops:Array Oper) (m:Nat):Array Oper:=ops.extract 0 m
theorem qd7 {m i:Nat} (hi:i<m):(cutM ops m)[i]? = ops[i]?:=by
 unfold cutM;rw [Array.getElem?_extract];by_cases h:i<ops.size
 ·rw [if_pos (by omega),Nat.zero_add]
 ·rw [if_neg (by omega),Array.getElem?_eq_none (by omega)]
theorem qqy {m i:Nat} (hi:m<=i):(cutM ops m)[i]? = none:=by
 unfold cutM;rw [Array.getElem?_extract,if_neg (by omega)]
def qg4 (md:Region.Mode) (ops:Array Oper) (m:Nat):Bool:=
 (List.range m).all fun i=>match ops[i]? with
  | some o=>(match o.guard with|some (j,_)=>decide (j<m)|none=>true) && o.after.all fun e => !Region.binds md e || decide (e.on<i)
  | none=>true
theorem qcq {m i:Nat} {o:Oper} (hg:qg4 md ops m=true) (hi:i<m) (ho:ops[i]? = some o) (tmps:Array Value):Region.wanted o (yielded (cutM ops m) tmps)=Region.wanted o (yielded ops tmps):=by
 have h:=List.all_eq_true.1 hg i (List.mem_range.2 hi);rw [ho]at h;simp only [Bool.and_eq_true]at h;have h:=h.1;unfold Region.wanted;cases hgd:o.guard with
 | none=>rfl
 | some p=>
  obtain⟨j,b⟩:=p;rw [hgd]at h;simp only [decide_eq_true_eq]at h;have:yielded (cutM ops m) tmps j=yielded ops tmps j:=by unfold yielded;rw [qd7 h]
  simp only [this]
theorem qfj {m i:Nat} {o:Oper} (hg:qg4 md ops m=true) (hi:i<m) (ho:ops[i]? = some o) (e:Edge) (he:e ∈ o.after) (hb:Region.binds md e=true):e.on<i:=by
 have h:=List.all_eq_true.1 hg i (List.mem_range.2 hi);rw [ho]at h;simp only [Bool.and_eq_true]at h;have:=Array.all_eq_true'.1 h.2 e he
 simpa [hb]using this
def TwinM (m:Nat) (l l':Array Bool) (ops:Array Oper):Prop:=
 l.size=ops.size/\l'.size=m/\∀i,i<m->l.getD i true=l'.getD i true/\l.getD i false=l'.getD i false
theorem qga {m:Nat} {l l':Array Bool} (hg:qg4 md ops m=true) (tw:TwinM m l l' ops) (i:Nat) (hi:i<m):i ∈ Region.ready md ops l ↔ i ∈ Region.ready md (cutM ops m) l':=by
 obtain⟨h1,h2,h3⟩:=tw;rw [mem_ready,mem_ready,qd7 hi,(h3 i hi).1];constructor
 ·rintro ⟨g1,o,g2,g3⟩
  exact⟨g1,o,g2,fun e he hb=>by rw [←(h3 e.on (Nat.lt_trans (qfj hg hi g2 e he hb) hi)).2];exact g3 e he hb⟩
 ·rintro ⟨g1,o,g2,g3⟩
  exact⟨g1,o,g2,fun e he hb=>by rw [(h3 e.on (Nat.lt_trans (qfj hg hi g2 e he hb) hi)).2];exact g3 e he hb⟩
theorem qpg {m i:Nat} {l l':Array Bool} (hm:m<ops.size) (tw:TwinM m l l' ops) (hi:i<m):TwinM m (l.setIfInBounds i true) (l'.setIfInBounds i true) ops:=by
 obtain⟨h1,h2,h3⟩:=tw;refine⟨by simpa using h1,by simpa using h2,fun j hj=>?_⟩;by_cases e:i=j
 ·subst e
  have hs:i<l.size:=by omega
  have hs':i<l'.size:=by omega
  simp [hs,hs']
 ·rw [getD_set_ne true e,getD_set_ne true e,getD_set_ne false e,getD_set_ne false e]
  exact h3 j hj
theorem qiw {m i:Nat} {l':Array Bool} (h:i ∈ Region.ready md (cutM ops m) l'):i<m:=by
 obtain⟨_,o,ho,_⟩:=mem_ready.1 h;rcases Nat.lt_or_ge i m with h'|h'
 ·exact h'
 ·rw [qqy h']at ho;cases ho
theorem all_done {m:Nat} {l':Array Bool} (hg:qg4 md ops m=true) (hm:m<ops.size) (hs:l'.size=m) (hr:Region.ready md (cutM ops m) l'=[]) : ∀i,i<m->l'.getD i true=true:=by
 intro i
 induction i using Nat.strongRecOn with
 | _ i ih=>
  intro hi;cases hun:l'.getD i true with
  | true=>rfl
  | false=>
   exfalso;have hio:i<ops.size:=by omega
   have hoi:ops[i]? = some ops[i]:=Array.getElem?_eq_getElem hio
   have:i ∈ Region.ready md (cutM ops m) l':=mem_ready.2 ⟨hun,ops[i],by rw [qd7 hi];exact hoi,fun e he hb=>by
    have hlt:=qfj hg hi hoi e he hb;have h:=ih e.on hlt (by omega);have hsz:e.on<l'.size:=by omega
    simp [hsz]at h ⊢;exact h⟩
   rw [hr]at this;cases this
theorem qel {Q':Exit->Act->World->Prop} : ∀(l:List Oper) (x k:Nat) (listed:Array Bool) (a:Act) (w:World),(∀j,l[j]? = ops[k+j]?) →
  Region.seqB md ops l.length k listed=true->wpList P ops Q' l a w->wpAny P md ops Q' (x+l.length) listed a w
 | [],x,_,_,_,_,_,hB,h=>wpAny_done (by simpa [Region.seqB]using hB) h _
 | o :: l,x,k,listed,a,w,hl,hB,h=>by
  have h0:ops[k]? = some o:=by simpa using (hl 0).symm
  simp only [List.length_cons,Region.seqB,Bool.and_eq_true,decide_eq_true_eq]at hB;refine⟨fun h1=>(by rw [hB.1]at h1;cases h1),fun i hi=>?_⟩;rw [hB.1]at hi;have hik:i=k:=by simpa using hi
  subst hik;have hw:wpOp P ops Q' i (wpList P ops Q' l) a w:=by unfold wpOp;simp only [h0];exact h
  exact wpOp_mono (fun a' w' h'=>qel l x (i+1) _ a' w' (fun j=>by have:=hl (j+1);simpa [Nat.add_assoc,Nat.add_comm 1 j]using this) hB.2 h') hw
theorem ql0 {T:Act->World->Prop} (h:LetsOut (qcv Q T)):LetsOut Q:=by
 obtain⟨a,w,h⟩:=h;exact⟨a,w,h⟩
theorem wp_tail {T:Act->World->Prop} {K K':Act->World->Prop} (h : ∀a w,K a w->K' a w) (hh:o.wp P a w K (qcv Q T)):o.wp P a w K' Q:=by
 unfold Oper.wp at *;generalize (execOp a.eval o).run P w=rr at *;cases rr with
 | ok n w'=>
  cases n <;> simp only [Oper.upon]at hh ⊢ <;>
   first
    | exact h _ _ hh
    | exact Calls.mono hh (fun e w'' he=>by cases e <;> first|exact h _ _ he|exact(he:False).elim|exact ql0 he)
    | exact Rows.mono hh (fun _ _ he=>h _ _ he)
 | halt x w'=>cases x <;> simp only [Oper.upon]at hh ⊢ <;> exact(hh:False).elim
theorem qqx {m:Nat} {T:Act->World->Prop} {K K':Act->World->Prop} (hg:qg4 md ops m=true) (hi:i<m) (h : ∀a w,K a w->K' a w) (hh:wpOp P (cutM ops m) (qcv Q T) i K a w):wpOp P ops Q i K' a w:=by
 unfold wpOp at *;rw [qd7 hi]at hh;cases ho:ops[i]? with
 | none=>rw [ho]at hh;exact h _ _ hh
 | some o=>
  rw [ho]at hh;simp only [qcq hg hi ho]at hh;cases hwd:Region.wanted o (yielded ops a.tmps)with
  | false=>rw [hwd]at hh;simp only [Bool.false_eq_true,if_false]at hh ⊢;simpa [hwd]using h _ _ hh
  | true=>
   rw [hwd]at hh;simp only [if_true]at hh;simp only [hwd,if_true];exact hh.imp (wp_tail h) (fun h=>⟨h.1,ql0 h.2⟩)
theorem qol {m:Nat} (l:List Oper) (hl : ∀j:Nat,l[j]? = ops[m+j]?) (hg:qg4 md ops m=true) (hm:m<ops.size) (hs:Region.sinkB md ops m=true) (hc:Region.chainB md ops m=true) (hseq:Region.seqB md ops l.length m (qc8 m ops.size)=true) :
  ∀(fuel:Nat) (listed listed':Array Bool) (a:Act) (w:World),TwinM m listed listed' ops->HeadInv md ops m listed →
   wpAny P md (cutM ops m) (qcv Q (wpList P ops Q l)) fuel listed' a w->wpAny P md ops Q (fuel+l.length) listed a w:=by
 have fin : ∀(fuel:Nat) (listed listed':Array Bool) (a:Act) (w:World),TwinM m listed listed' ops->HeadInv md ops m listed->Region.ready md (cutM ops m) listed'=[]->wpList P ops Q l a w->wpAny P md ops Q (fuel+l.length) listed a w:=by
  intro fuel listed listed' a w tw inv hr h;have had:=all_done hg hm tw.2.1 hr
  have hl1:listed=qc8 m ops.size:=by
   refine Array.ext (by rw [tw.1];unfold qc8;simp) fun i hi hi2=>?_
   have hio:i<ops.size:=by rw [←tw.1];exact hi
   have e1:listed.getD i true=listed[i]:=by simp [hi]
   have e2:(qc8 m ops.size).getD i true=(qc8 m ops.size)[i]:=by simp [hi2]
   rw [←e1, ←e2,qfm _ _ _ _ hio];by_cases h:i<m
   ·rw [(tw.2.2 i h).1,had i h,decide_eq_true h]
   ·rw [inv.tail i (by omega) hio,decide_eq_false h]
  subst hl1;exact qel l fuel m _ a w hl hseq h
 intro fuel
 induction fuel with
 | zero=>intro listed listed' a w tw inv h;exact fin 0 listed listed' a w tw inv h.1 h.2
 | succ f ih=>
  intro listed listed' a w tw inv h;cases hr:Region.ready md (cutM ops m) listed' with
  | nil=>exact fin (f+1) listed listed' a w tw inv hr (h.1 hr)
  | cons i0 rs=>
   have h0:i0 ∈ Region.ready md (cutM ops m) listed':=by rw [hr];exact List.mem_cons_self
   have hi0:i0<m:=qiw h0;have hun0:listed.getD i0 true=false:=by rw [(tw.2.2 i0 hi0).1];exact(mem_ready.1 h0).1
   rw [show f+1+l.length=(f+l.length)+1 by omega];refine⟨fun he=>?_,fun j hj=>?_⟩
   ·have:=(qga hg tw i0 hi0).2 h0
    rw [he]at this;cases this
   ·have hjm:j<m:=by
     rcases Nat.lt_or_ge j m with h'|h'
     ·exact h'
     ·exact absurd hj (tail_waits hs hc hm inv _ i0 rfl hi0 hun0 j h')
    have hj':=(qga hg tw j hjm).1 hj;exact qqx hg hjm (fun a' w' h'=>ih _ _ a' w' (qpg hm tw hjm) (inv.set hj hjm) h') (h.2 j hj')
def ordB (md:Region.Mode) (ops:Array Oper):List (Nat × Bool)->Array Bool->Bool
 | [],listed=>(Region.ready md ops listed).isEmpty
 | (i,true) :: r,listed=>(Region.ready md ops listed).contains i && Region.free md ops listed i && ordB md ops r (listed.setIfInBounds i true)
 | (i,false) :: r,listed=>decide (Region.ready md ops listed=[i]) && ordB md ops r (listed.setIfInBounds i true)
theorem qev {listed:Array Bool} {j:Nat} (h:j ∈ Region.ready md ops listed) : ∃o,ops[j]? = some o:=by
 obtain⟨_,o,ho,_⟩:=mem_ready.1 h;exact⟨o,ho⟩
theorem qey {m:Nat} {l:List Oper} {Qt:Exit->Act->World->Prop} (hl : ∀j:Nat,l[j]? = ops[j]?) (hsel:Region.noSelect (cutM ops m)=true) (hg:qg4 md ops m=true) (hQ : ∀c a w, ¬ Qt (.panic c) a w) (hK : ∀a w,K a w->Qt .normal a w) :
  ∀(ord:List (Nat × Bool)) (listed:Array Bool) (a:Act) (w:World),ordB md (cutM ops m) ord listed=true->S w->wpOrd P ops S Qt K (qb3 l ord) a w->wpAnyH P md (cutM ops m) Qt S ord.length listed a w
 | [],listed,a,w,hB,hS,h=>wpAnyH_done (by simpa [ordB]using hB) (hK _ _ h) _
 | (i,true) :: r,listed,a,w,hB,hS,h=>by
  simp only [ordB,Bool.and_eq_true]at hB;obtain⟨⟨h1,h2⟩,h3⟩:=hB;have hmem:i ∈ Region.ready md (cutM ops m) listed:=by simpa using h1
  have him:=qiw hmem;obtain⟨o,ho⟩:=qev hmem;have hoo:ops[i]? = some o:=by rw [←qd7 him];exact ho
  have hll:l[i]? = some o:=(hl i).trans hoo;simp only [qb3,hll,wpOrd]at h;obtain⟨v,hy,h⟩:=h
  have hy':YieldsIf P (cutM ops m) S o v a:=by
   unfold YieldsIf at *;rw [qcq hg him hoo];exact hy
  exact wpAnyH_take ho hsel h2 h1 (fun c a w hh=>absurd hh (hQ _ _ _)) hy' hS (qey hl hsel hg hQ hK r _ _ w h3 hS h)
 | (i,false) :: r,listed,a,w,hB,hS,h=>by
  simp only [ordB,Bool.and_eq_true,decide_eq_true_eq]at hB;obtain⟨h1,h3⟩:=hB;have hmem:i ∈ Region.ready md (cutM ops m) listed:=by rw [h1];exact List.mem_singleton.2 rfl
  have him:=qiw hmem;obtain⟨o,ho⟩:=qev hmem;have hoo:ops[i]? = some o:=by rw [←qd7 him];exact ho
  have hll:l[i]? = some o:=(hl i).trans hoo;simp only [qb3,hll,wpOrd]at h;refine wpAnyH_all h1 (by simp) fun j hj=>?_
  have hji:j=i:=by simpa using hj
  subst hji;unfold wpOp;simp only [ho,qcq hg him hoo];cases hwd:Region.wanted o (yielded ops a.tmps)with
  | false=>
   rw [hwd]at h;simp only [Bool.false_eq_true,if_false]at h ⊢;exact⟨h.1,qey hl hsel hg hQ hK r _ _ w h3 h.1 h.2⟩
  | true=>
   rw [hwd]at h;simp only [if_true]at h ⊢;exact .inl (Oper.wp_mono (fun a' w' hh=>⟨hh.1,qey hl hsel hg hQ hK r _ _ w' h3 hh.1 hh.2⟩) h)
def regB (md:Region.Mode) (ops:Array Oper) (ord:List (Nat × Bool)) (m:Nat):Bool:=
 Region.noSelect (cutM ops m) && qg4 md ops m && decide (m<ops.size) && Region.sinkB md ops m && Region.chainB md ops m && Region.seqB md ops (ops.size-m) m (qc8 m ops.size) && ordB md (cutM ops m) ord (Array.replicate m false) && decide (ord.length=m)
theorem qak {id:Nat} {w wd:World} {l:List Oper} (S:World->Prop) (ord:List (Nat × Bool)) (m:Nat) (hm:P.follows .mixedOrders=true) (hB:regB .any l.toArray ord m=true) (hwd:wd=w.drew) (hS:S wd)
  (h:wpOrd P l.toArray S (qcv Q (wpList P l.toArray Q (l.drop m))) (fun a' w'=>wpList P l.toArray Q (l.drop m) a' w') (qb3 l ord) a wd):(Code.region id l.toArray true).wp P Q a w:=by
 subst hwd;simp only [regB,Bool.and_eq_true,decide_eq_true_eq]at hB;obtain⟨⟨⟨⟨⟨⟨⟨hsel,hg⟩,hml⟩,hs⟩,hc⟩,hseq⟩,hord⟩,hlen⟩:=hB;have hml':m<l.length:=by simpa using hml
 have H:=wpAny_of_held _ _ _ _ (qey (md:=.any) (P:=P) (K:=fun a' w'=>wpList P l.toArray Q (l.drop m) a' w') (l:=l) (ops:=l.toArray) (m:=m) (Qt:=qcv Q (wpList P l.toArray Q (l.drop m))) (fun j=>by simp) hsel hg (fun c a w hh=>hh) (fun a w hh=>hh) ord _ a w.drew hord hS h)
 have tw0:TwinM m (Array.replicate l.toArray.size false) (Array.replicate m false) l.toArray:=by
  refine⟨by simp,by simp,fun i hi=>?_⟩;have q1:(Array.replicate l.toArray.size false).getD i true=false:=getD_in (by simp;omega) (getD_replicate_false _ _);have q2:(Array.replicate m false).getD i true=false:=getD_in (by simpa using hi) (getD_replicate_false _ _);rw [getD_replicate_false,getD_replicate_false];exact⟨by rw [q1,q2],rfl⟩
 have inv0:HeadInv .any l.toArray m (Array.replicate l.toArray.size false):=
  ⟨by simp,fun j oj _ hl=>(by rw [getD_replicate_false]at hl;cases hl),fun t _ ht=>getD_in (by simpa using ht) (getD_replicate_false _ _)⟩
 have hdl:(l.drop m).length=l.toArray.size-m:=by simp
 have H2:=qol (md:=.any) (l.drop m) (fun j=>by simp [List.getElem?_drop]) hg hml hs hc (by rw [hdl];exact hseq) _ _ _ a w.drew tw0 inv0 H;refine wp_region_any hm ?_;have hsum:ord.length+(l.drop m).length=l.toArray.size:=by rw [hlen];simp;omega
 rw [hsum]at H2;exact H2
end
end Go.Proofs.YtfoaaglbpmmhiaaGreatDoor
namespace Go.Proofs.YtfoaaglbpmmhiaaGreatDoor
open Go.RowKit
inductive OrdT (α:Type)where
 | done
 | take (x:α) (t:OrdT α)
 | alt (x:α) (t:OrdT α) (more:OrdT α)
 | no
def OrdT.alts {α:Type}:OrdT α->List α
 | .alt x _ m=>x :: m.alts
 | _ => []
def OrdT.depth {α:Type}:OrdT α->Nat
 | .take _ t=>t.depth+1
 | .alt _ t _=>t.depth+1
 | _=>0
def pickT (l:List Oper):OrdT Nat->OrdT Oper
 | .done=>.done
 | .take i t=>.take (l.getD i default) (pickT l t)
 | .alt i t m=>.alt (l.getD i default) (pickT l t) (pickT l m)
 | .no=>.no
def qb7 (P:Program) (ops:Array Oper) (S:World->Prop) (Q:Exit->Act->World->Prop) (K:Act->World->Prop):OrdT Oper->Act->World->Prop
 | .done,a,w=>K a w
 | .take o r,a,w => ∃v,YieldsIf P ops S o v a/\qb7 P ops S Q K r (a.put o.dst v) w
 | .alt o r m,a,w=>(if Region.wanted o (yielded ops a.tmps)=true then Oper.wp P o a w (fun a' w'=>S w'/\qb7 P ops S Q K r a' w') Q else S w/\qb7 P ops S Q K r (a.put o.dst undef) w)/\qb7 P ops S Q K m a w
 | .no,_,_=>True
section
variable {P : Program} {ops : Array Oper} {md : Region.Mode} {S : World → Prop} {Q : Exit → Act → World → Prop} {K : Act → World → Prop} {a : Act} {w : World} {o : Oper} {r m : OrdT Oper}
theorem set_s {α:Type} (x:α) (l:List α) (i:Nat) (v:α):(x :: l).set (i+1) v=x :: l.set i v:=by
 simp [List.set]
theorem set_z {α:Type} (x:α) (l:List α) (v:α):(x :: l).set 0 v=v :: l:=by
 simp [List.set]
theorem ev_eq {a:Act} {i:Nat} {v:Value} (h:i<a.tmps.size):(a.put (some i) v).eval (.tmp i)=v:=by
 simp [Act.eval,Act.put,h]
theorem ev_ne {a:Act} {i j:Nat} {v:Value} (h:i ≠ j):(a.put (some i) v).eval (.tmp j)=a.eval (.tmp j):=by
 simp [Act.eval,Act.put,Array.getElem?_setIfInBounds_ne h]
theorem qa4 {a:Act} {i:Nat} {v:Value}:(a.put (some i) v).tmps.size=a.tmps.size:=by
 simp [Act.put]
theorem qa2 {i:Tmp} {v:Value} (hd:o.dst=some i) (hw:Region.wanted o (yielded ops a.tmps)=true) (hy : ∀ρ:Operand->Value,(∀x,ρ x=a.eval x)->∀W,S W->(execOp ρ o).run P W=.ok (.value v) W) (h:qb7 P ops S Q K r (a.put (some i) v) w):qb7 P ops S Q K (.take o r) a w:=
 ⟨v,.inl ⟨hw,hy _ (fun _=>rfl)⟩,by rw [hd];exact h⟩
theorem qkc {i:Tmp} {v:Value} {w':World} (hd:o.dst=some i) (hw:Region.wanted o (yielded ops a.tmps)=true) (hy : ∀ρ:Operand->Value,(∀x,ρ x=a.eval x)->(execOp ρ o).run P w=.ok (.value v) w') (hS:S w') (h:qb7 P ops S Q K r (a.put (some i) v) w') (hm:qb7 P ops S Q K m a w):qb7 P ops S Q K (.alt o r m) a w:=by
 refine⟨?_,hm⟩;rw [if_pos hw];unfold Oper.wp;rw [hy _ (fun _=>rfl),Oper.upon_value,hd];exact⟨hS,h⟩
theorem qbc {i:Tmp} {f:FuncId} {args:Array Value} (hd:o.dst=some i) (hw:Region.wanted o (yielded ops a.tmps)=true) (hy : ∀ρ:Operand->Value,(∀x,ρ x=a.eval x)->(execOp ρ o).run P w=.ok (.enter f args) w) (h:Calls P f args w (fun e w' => ∃v,e=.returned v/\S w'/\qb7 P ops S Q K r (a.put (some i) v) w')) (hm:qb7 P ops S Q K m a w):qb7 P ops S Q K (.alt o r m) a w:=by
 refine⟨?_,hm⟩;rw [if_pos hw];unfold Oper.wp;rw [hy _ (fun _=>rfl),Oper.upon_enter,hd];refine h.mono fun e w' he=>?_
 obtain⟨v,rfl,h1,h2⟩:=he;exact⟨h1,h2⟩
theorem qkz {l:List Oper} {i:Tmp} {v:Value} {w':World} (hd:o.dst=some i) (hw:Region.wanted o (yielded ops a.tmps)=true) (hy : ∀ρ:Operand->Value,(∀x,ρ x=a.eval x)->(execOp ρ o).run P w=.ok (.value v) w') (h:wpList P ops Q l (a.put (some i) v) w'):wpList P ops Q (o :: l) a w:=by
 unfold wpList;rw [if_pos hw];refine .inl ?_;unfold Oper.wp;rw [hy _ (fun _=>rfl),Oper.upon_value,hd];exact h
theorem qbh:qb7 P ops S Q K .no a w:=trivial
theorem qbu (l:List Value) (d:List Deferred) (i:Tmp) (v:Value):Act.put ⟨l.toArray,d⟩ (some i) v=⟨(l.set i v).toArray,d⟩:=by
 simp [Act.put]
theorem qph (hw:Region.wanted o (yielded ops a.tmps)=false) (h:qb7 P ops S Q K r (a.put o.dst undef) w):qb7 P ops S Q K (.take o r) a w:=⟨undef,.inr ⟨hw,rfl⟩,h⟩
theorem qb8 (h:K a w):qb7 P ops S Q K .done a w:=h
def treeB (md:Region.Mode) (ops:Array Oper):OrdT Nat->Bool->Nat->Array Bool->Bool
 | .done,_,n,listed=>(Region.ready md ops listed).isEmpty && decide (n=0)
 | .take i t,_,n,listed=>(Region.ready md ops listed).contains i && Region.free md ops listed i && decide (0<n) && treeB md ops t true (n-1) (listed.setIfInBounds i true)
 | .alt i t m,first,n,listed=>(!first || decide (Region.ready md ops listed=i :: m.alts)) && decide (0<n) && treeB md ops t true (n-1) (listed.setIfInBounds i true) && treeB md ops m false n listed
 | .no,first,_,_ => !first
theorem getD_of {l:List Oper} {i:Nat} {o:Oper} (h:l[i]? = some o):l.getD i default=o:=by
 rw [List.getD_eq_getElem?_getD,h];rfl
theorem qd2 {mm:Nat} {l:List Oper} {Qt:Exit->Act->World->Prop} (hl : ∀j:Nat,l[j]? = ops[j]?) (hsel:Region.noSelect (cutM ops mm)=true) (hg:qg4 md ops mm=true) (hQ : ∀c a w, ¬ Qt (.panic c) a w) (hK : ∀a w,K a w->Qt .normal a w) :
  ∀(t:OrdT Nat) (n:Nat) (listed:Array Bool) (a:Act) (w:World),S w->qb7 P ops S Qt K (pickT l t) a w →
   (treeB md (cutM ops mm) t true n listed=true->wpAnyH P md (cutM ops mm) Qt S n listed a w) ∧
   (∀n',n=n'+1->treeB md (cutM ops mm) t false n listed=true->∀i ∈ t.alts,i ∈ Region.ready md (cutM ops mm) listed->wpOp P (cutM ops mm) Qt i (fun a' w'=>S w'/\wpAnyH P md (cutM ops mm) Qt S n' (listed.setIfInBounds i true) a' w') a w)
 | .done,n,listed,a,w,hS,h=>⟨fun hB=>by
   simp only [treeB,Bool.and_eq_true,decide_eq_true_eq,List.isEmpty_iff]at hB
   exact wpAnyH_done hB.1 (hK _ _ h) _,fun _ _ _ i hi=>by cases hi⟩
 | .no,n,listed,a,w,hS,h=>⟨fun hB=>by simp [treeB]at hB,fun _ _ _ i hi=>by cases hi⟩
 | .take i t,n,listed,a,w,hS,h=>by
  refine⟨fun hB=>?_,fun _ _ _ i hi=>by cases hi⟩;simp only [treeB,Bool.and_eq_true,decide_eq_true_eq]at hB;obtain⟨⟨⟨h1,h2⟩,hn⟩,h3⟩:=hB;obtain⟨n,rfl⟩ : ∃n',n=n'+1:=⟨n-1,by omega⟩;have hmem:i ∈ Region.ready md (cutM ops mm) listed:=by simpa using h1
  have him:=qiw hmem;obtain⟨o,ho⟩:=qev hmem;have hoo:ops[i]? = some o:=by rw [←qd7 him];exact ho
  have hll:=getD_of ((hl i).trans hoo);simp only [pickT,hll,qb7]at h;obtain⟨v,hy,h⟩:=h
  have hy':YieldsIf P (cutM ops mm) S o v a:=by
   unfold YieldsIf at *;rw [qcq hg him hoo];exact hy
  exact wpAnyH_take ho hsel h2 h1 (fun c a w hh=>absurd hh (hQ _ _ _)) hy' hS ((qd2 hl hsel hg hQ hK t n _ _ w hS h).1 h3)
 | .alt i t m,n,listed,a,w,hS,h=>by
  simp only [pickT,qb7]at h;obtain⟨ha,hmr⟩:=h
  have key : ∀n',n=n'+1->treeB md (cutM ops mm) t true n' (listed.setIfInBounds i true)=true->i ∈ Region.ready md (cutM ops mm) listed->wpOp P (cutM ops mm) Qt i (fun a' w'=>S w'/\wpAnyH P md (cutM ops mm) Qt S n' (listed.setIfInBounds i true) a' w') a w:=by
   intro n' hn hB hmem;have him:=qiw hmem;obtain⟨o,ho⟩:=qev hmem;have hoo:ops[i]? = some o:=by rw [←qd7 him];exact ho
   have hll:=getD_of ((hl i).trans hoo);rw [hll]at ha;unfold wpOp;simp only [ho,qcq hg him hoo];cases hwd:Region.wanted o (yielded ops a.tmps)with
   | false=>
    rw [hwd]at ha;simp only [Bool.false_eq_true,if_false]at ha ⊢;exact⟨ha.1,(qd2 hl hsel hg hQ hK t n' _ _ w ha.1 ha.2).1 hB⟩
   | true=>
    rw [hwd]at ha;simp only [if_true]at ha ⊢;exact .inl (Oper.wp_mono (fun a' w' hh=>⟨hh.1,(qd2 hl hsel hg hQ hK t n' _ _ w' hh.1 hh.2).1 hB⟩) ha)
  have more:=fun n' hn hB=>(qd2 hl hsel hg hQ hK m n listed a w hS hmr).2 n' hn hB
  refine⟨fun hB=>?_,fun n' hn hB j hj hjr=>?_⟩
  ·simp only [treeB,Bool.and_eq_true,decide_eq_true_eq,Bool.not_true,Bool.false_or]at hB
   obtain⟨⟨⟨hr,hn⟩,h3⟩,h4⟩:=hB;obtain⟨n,rfl⟩ : ∃n',n=n'+1:=⟨n-1,by omega⟩;refine wpAnyH_all hr (by simp) fun j hj=>?_
   have hjr:j ∈ Region.ready md (cutM ops mm) listed:=by rw [hr];exact hj
   rcases List.mem_cons.1 hj with rfl|hj'
   ·exact key n rfl h3 hjr
   ·exact more n rfl h4 j hj' hjr
  ·simp only [treeB,Bool.and_eq_true,decide_eq_true_eq,Bool.not_false,Bool.true_or,true_and]at hB
   obtain⟨⟨hn0,h3⟩,h4⟩:=hB;subst hn;rcases List.mem_cons.1 hj with rfl|hj'
   ·exact key n' rfl h3 hjr
   ·exact more n' rfl h4 j hj' hjr
def regTB (md:Region.Mode) (ops:Array Oper) (t:OrdT Nat) (m:Nat):Bool:=
 Region.noSelect (cutM ops m) && qg4 md ops m && decide (m<ops.size) && Region.sinkB md ops m && Region.chainB md ops m && Region.seqB md ops (ops.size-m) m (qc8 m ops.size) && treeB md (cutM ops m) t true m (Array.replicate m false)
theorem qm3 {id:Nat} {w wd:World} {l:List Oper} (S:World->Prop) (t:OrdT Nat) (m:Nat) (hm:P.follows .mixedOrders=true) (hB:regTB .any l.toArray t m=true) (hwd:wd=w.drew) (hS:S wd)
  (h:qb7 P l.toArray S (qcv Q (wpList P l.toArray Q (l.drop m))) (fun a' w'=>wpList P l.toArray Q (l.drop m) a' w') (pickT l t) a wd):(Code.region id l.toArray true).wp P Q a w:=by
 subst hwd;simp only [regTB,Bool.and_eq_true,decide_eq_true_eq]at hB;obtain⟨⟨⟨⟨⟨⟨hsel,hg⟩,hml⟩,hs⟩,hc⟩,hseq⟩,hord⟩:=hB;have hml':m<l.length:=by simpa using hml
 have H:=wpAny_of_held _ _ _ _ ((qd2 (md:=.any) (P:=P) (K:=fun a' w'=>wpList P l.toArray Q (l.drop m) a' w') (l:=l) (ops:=l.toArray) (mm:=m) (Qt:=qcv Q (wpList P l.toArray Q (l.drop m))) (fun j=>by simp) hsel hg (fun c a w hh=>hh) (fun a w hh=>hh) t m _ a w.drew hS h).1 hord)
 have tw0:TwinM m (Array.replicate l.toArray.size false) (Array.replicate m false) l.toArray:=by
  refine⟨by simp,by simp,fun i hi=>?_⟩;have q1:(Array.replicate l.toArray.size false).getD i true=false:=getD_in (by simp;omega) (getD_replicate_false _ _);have q2:(Array.replicate m false).getD i true=false:=getD_in (by simpa using hi) (getD_replicate_false _ _);rw [getD_replicate_false,getD_replicate_false];exact⟨by rw [q1,q2],rfl⟩
 have inv0:HeadInv .any l.toArray m (Array.replicate l.toArray.size false):=
  ⟨by simp,fun j oj _ hl=>(by rw [getD_replicate_false]at hl;cases hl),fun t _ ht=>getD_in (by simpa using ht) (getD_replicate_false _ _)⟩
 have hdl:(l.drop m).length=l.toArray.size-m:=by simp
 have H2:=qol (md:=.any) (l.drop m) (fun j=>by simp [List.getElem?_drop]) hg hml hs hc (by rw [hdl];exact hseq) _ _ _ a w.drew tw0 inv0 H;refine wp_region_any hm ?_;have hsum:m+(l.drop m).length=l.toArray.size:=by simp;omega
 rw [hsum]at H2;exact H2
theorem qap {id:Nat} {w wd:World} {l:List Oper} (S:World->Prop) (t:OrdT Nat) (m:Nat) (hm:P.follows .mixedOrders=true) (hB:regTB .any l.toArray t m=true) (hwd:wd=w.drew) (hS:S wd)
  (h : ∀a',a'=a->qb7 P l.toArray S (qcv Q (wpList P l.toArray Q (l.drop m))) (fun a' w'=>wpList P l.toArray Q (l.drop m) a' w') (pickT l t) a' wd):(Code.region id l.toArray true).wp P Q a w:=qm3 S t m hm hB hwd hS (h a rfl)
theorem qaf {ρ:Operand->Value} {dst:Option Tmp} {f:FuncId} {xs:Array Operand} {ats:Array TypeId} {ty:TypeId} {pos:String} {after:Array Edge} {guard:Option (Nat × Bool)} (h:ρ (.func f)=.func (.func f) #[] #[]) :
  execOp ρ { dst:=dst,op:=.call { callee:=.value (.func f),args:=xs,argTypes:=ats },type:=ty,pos:=pos,after:=after,guard:=guard } = callFunc f (#[] ++ xs.map ρ ++ #[]):=by
 unfold execOp resolve;simp only [h];rfl
end
theorem h_ {p : Prop} (h : p) : type_of% (Lib.hid h) := Lib.hid h
theorem z_1 (l : List Value) (i : Nat) (a : Value) : l.toArray.setIfInBounds i a = (l.set i a).toArray := by simp
theorem z_2 (x : Value) (l : List Value) (a : Value) : (x :: l).set 0 a = a :: l := rfl
theorem z_3 (x : Value) (l : List Value) (i : Nat) (a : Value) : (x :: l).set (i + 1) a = x :: l.set i a := rfl
theorem t_1 (x : Oper) (l : List Oper) (i : Nat) : (x :: l).take (i + 1) = x :: l.take i := rfl
theorem t_2 (l : List Oper) : l.take 0 = [] := rfl
theorem t_3 (x : Oper) (l : List Oper) (i : Nat) : (x :: l).drop (i + 1) = l.drop i := rfl
theorem t_4 (l : List Oper) : l.drop 0 = l := rfl
end Go.Proofs.YtfoaaglbpmmhiaaGreatDoor
