import Derived.Test.YtaaneecceiefoaaGreatDoorMaEnvD
import Derived.Test.YtaaneecceiefoaaGreatDoorMaVal
import Derived.Test.YtaaneecceiefoaaGreatDoorMaMem
import Derived.Test.YtaaneecceiefoaaGreatDoorMaDesc3
set_option maxRecDepth 100000
set_option maxHeartbeats 4000000
set_option linter.unusedVariables false
set_option linter.unusedSimpArgs false
namespace Go.Proofs.YtaaneecceiefoaaGreatDoor.Ma
def cntGo (f:List PMask->Nat):List PMask->Nat
 | []=>0
 | x :: r=>(if whole x then 1 else f x.subs)+cntGo f r
def cnt:Nat->List PMask->Nat
 | 0,_=>0
 | n+1,l=>cntGo (cnt n) l
theorem qg6 {α:Type} {l:List α} {k:Nat} (h:k<l.length):l.drop k=l[k] :: l.drop (k+1):=List.drop_eq_getElem_cons h
theorem find_at {l:List PMask} {k:Nat} (h:k<l.length) (q:Int):find (l.drop k) q=if l[k].num=q then some l[k]else find (l.drop (k+1)) q:=by rw [qg6 h,qax]
theorem fm_at {α β:Type} {f:α->Option β} {l:List α} {k:Nat} (h:k<l.length):(l.drop k).filterMap f=(f l[k]).toList ++ (l.drop (k+1)).filterMap f:=by
 rw [qg6 h,List.filterMap_cons];cases f l[k] <;> rfl
theorem map_at {α β:Type} {f:α->β} {l:List α} {k:Nat} (h:k<l.length):(l.drop k).map f=f l[k] :: (l.drop (k+1)).map f:=by rw [qg6 h,List.map_cons]
theorem qlx {α:Type} {f:α->Bool} {l:List α} {k:Nat} (h:k<l.length):(l.drop k).filter f=(if f l[k]=true then [l[k]]else []) ++ (l.drop (k+1)).filter f:=by
 rw [qg6 h,List.filter_cons]
 split <;> rfl
def pvM (l:List PMask):Nat->Option Int
 | 0=>none
 | k+1=>(l[k]?).map PMask.num
theorem qgj {l:List PMask} {k:Nat} (h:k<l.length):pvM l (k+1)=some l[k].num:=by
 show(l[k]?).map _=_
 rw [List.getElem?_eq_getElem h];rfl
end Go.Proofs.YtaaneecceiefoaaGreatDoor.Ma
namespace Go.Proofs.YtaaneecceiefoaaGreatDoor
section
open Go.RowKit Ma
theorem mk_num (k:Int) (v:Value) (w:World) (q:Option Addr) (m c:Nat) (hv:v=.slice q m c):Calls Tryz.prog 46 #[.agg #[.int .i64 k,v]] w fun e w'=>e=.returned (.int .i64 k)/\Bel w w':=by
 subst hv
 go_enter Tryz.func46,Tryz.ntmps46
 go_wp2;go_ret
 exact⟨rfl,(Bel.refl w).alloc _⟩
theorem mk_whole (k:Int) (q:Option Addr) (m c:Nat) (w:World):Calls Tryz.prog 28 #[.agg #[.int .i64 k,.slice q m c]] w fun e w'=>e=.returned (.bool (decide (m=0)))/\Bel w w':=by
 go_enter Tryz.func28,Tryz.ntmps28
 go_wp2;go_ret
 refine⟨qa3 ?_,(Bel.refl w).alloc _⟩;rw [Bool.eq_iff_iff];simp
def FoundM (A:Nat->Prop) (n:Nat) (w:World) (z:Option PMask) (e:Ending) (w':World):Prop := ∃(y:PMask) (p:Option Addr) (c:Nat),(z=some y ∨ z=none/\y=.mk 0 [])/\e=.returned (.tuple #[.agg #[.int .i64 y.num,.slice p y.subs.length c],.bool z.isSome])/\MaskD A n w' (.slice p y.subs.length c) y.subs/\Bel w w'
theorem mk_find (A:Nat->Prop) (n:Nat) (v:Value) (l:List PMask) (q:Int) (w0:World) (h:MaskD A (n+1) w0 v l):Calls Tryz.prog 45 #[v,.int .i64 q,.func (.func 46) #[] #[]] w0 (FoundM A n w0 (find l q)):=by
 obtain⟨p,c,rfl,hl,hcap,hel⟩:=h;have EL:=Lib.hid hel;have V:=Lib.hid (show find (l.drop 0) q=find l q from rfl);generalize find l q=Z at V;have CN:=Lib.hid (fun k v W a m c hv=>mk_num k v W a m c hv);have hS0:=Lib.hid ((ST.start w0).addbox #[.int .i64 0,.slice none 0 0] 61);clear hel hcap
 go_enter Tryz.func45,Tryz.ntmps45
 go_wp2
 go_loopw [13] (fun i wr => ∃k:Nat,k<=l.length/\i=.int .i64 k/\Hid (ST w0 [] [⟨w0.heap.size,#[.int .i64 0,.slice none 0 0],61⟩] wr)/\Hid (find (l.drop k) q=Z)) (fun i _=>l.length-(intOf i).toNat)
 case atStart=>exact⟨0,by omega,rfl,hS0,V⟩
 case round=>as_aux_lemma=>
  clear hS0 V;obtain⟨k,hk,rfl,hS,hx⟩:=hrel;by_cases hlt:k<l.length
  ·obtain⟨b,off,sv,rfl,hbs,hab,hc0,hc1,hd⟩:=EL.out k _ (List.getElem?_eq_getElem hlt)
   obtain⟨sp,sc,rfl⟩:=hd.form;have hki:(k:Int)<(l.length:Int):=by omega
   have e0:=hS.out.bel.some hc0;have e1:=hS.out.bel.some hc1;clear hc0 hc1 hab;have f0:=hS.out.cell 0 rfl 0;have f1:=hS.out.cell 0 rfl 1;have z0:=hS.out.frz 0 rfl 0;have z1:=hS.out.frz 0 rfl 1;have zl:=(hS.out.boxlt 0 rfl).2;dsimp only at f0 f1 z0 z1 zl;have hst:=hx.out;rw [find_at hlt]at hst;clear hx;generalize l[k]=x at *;have HA:=Lib.hid (hS.out.addbox #[.int .i64 x.num,.slice sp x.subs.length sc] 61);by_cases he:x.num=q
   ·have hb:(x.num == q)=true:=ieq he
    rw [if_pos he]at hst;have HST:=Lib.hid hst;clear hst he;go_wp2;have HB:=Lib.hid (show ST w0 [] [⟨w0.heap.size,#[.int .i64 x.num,.slice sp x.subs.length sc],61⟩] _ from((hS.out.setbox 0 rfl 0 (.int .i64 x.num)).setbox 0 rfl 1 (.slice sp x.subs.length sc)).belw (((Bel.refl _).alloc (.cells #[.int .i64 x.num,.slice sp x.subs.length sc] 61)).alloc (.cells #[.int .i64 x.num,.slice sp x.subs.length sc] 61)));refine bodyPost_ret (v:=.tuple #[.agg #[.int .i64 x.num,.slice sp x.subs.length sc],.bool true]) ?hres1 rfl ?hpost1
    case hres1=>exact qbf rfl rfl rfl (HB.out.box 0 rfl) Tryz.underlying61 rfl (by kernel_rfl)
    case hpost1=>exact⟨x,sp,sc,.inl HST.out.symm,by rw [←HST.out];rfl,hd.bel HB.out.bel,HB.out.bel⟩
   ·have hb:(x.num == q)=false:=ine he
    rw [if_neg he]at hst;have HST:=Lib.hid hst;clear hst he;go_wp2;go_roundw
    case rel=>exact⟨k+1,by omega,by go_num,Lib.hid (HA.out.dropbox0.belw ((Bel.refl _).alloc _)),HST⟩
    case measure=>simp [intOf];omega
  ·have hkl:k=l.length:=by omega
   have hz:none=Z:=by have:=hx.out;rw [hkl,List.drop_length]at this;exact this
   subst hz;have f0:=hS.out.cell 0 rfl 0;have f1:=hS.out.cell 0 rfl 1;have z0:=hS.out.frz 0 rfl 0;have z1:=hS.out.frz 0 rfl 1;have zl:=(hS.out.boxlt 0 rfl).2;dsimp only at f0 f1 z0 z1 zl;clear hx;go_wp2;have HB:=Lib.hid (show ST w0 [] [⟨w0.heap.size,#[.int .i64 0,.slice none 0 0],61⟩] _ from((hS.out.setbox 0 rfl 0 (.int .i64 0)).setbox 0 rfl 1 (.slice none 0 0)).belw ((Bel.refl _).alloc (.cells #[.int .i64 0,.slice none 0 0] 61)));refine bodyPost_ret (v:=.tuple #[.agg #[.int .i64 0,.slice none 0 0],.bool false]) ?hres2 rfl ?hpost2
   case hres2=>exact qbf rfl rfl rfl (HB.out.box 0 rfl) Tryz.underlying61 rfl (by kernel_rfl)
   case hpost2=>exact⟨.mk 0 [],none,0,.inr ⟨rfl,rfl⟩,rfl,MaskD.nil _ _,HB.out.bel⟩
theorem qbx {A:Nat->Prop} {n:Nat} {v:Value} {l:List PMask} {q:Int} {x:PMask} (hz:find l q=some x) (w0:World) (h:MaskD A (n+1) w0 v l):Calls Tryz.prog 45 #[v,.int .i64 q,.func (.func 46) #[] #[]] w0 fun e w' => ∃p c,e=.returned (.tuple #[.agg #[.int .i64 x.num,.slice p x.subs.length c],.bool true])/\MaskD A n w' (.slice p x.subs.length c) x.subs/\Bel w0 w':=by
 have:=mk_find A n v l q w0 h;rw [hz]at this;refine this.mono fun e w' ⟨y,p,c,hy,he,hd,k⟩=>?_
 rcases hy with hy|⟨hy,_⟩
 ·cases hy
  exact⟨p,c,he,hd,k⟩
 ·cases hy
theorem qby {A:Nat->Prop} {n:Nat} {v:Value} {l:List PMask} {q:Int} (hz:find l q=none) (w0:World) (h:MaskD A (n+1) w0 v l):Calls Tryz.prog 45 #[v,.int .i64 q,.func (.func 46) #[] #[]] w0 fun e w' => ∃p c,e=.returned (.tuple #[.agg #[.int .i64 0,.slice p 0 c],.bool false])/\Bel w0 w':=by
 have:=mk_find A n v l q w0 h;rw [hz]at this;refine this.mono fun e w' ⟨y,p,c,hy,he,hd,k⟩=>?_
 rcases hy with hy|⟨_,rfl⟩
 ·cases hy
 ·exact⟨p,c,he,k⟩
theorem qai {x:PMask} {B:Bool} (hB:whole x=B) (p:Option Addr) (c:Nat) (w:World):Calls Tryz.prog 28 #[.agg #[.int .i64 x.num,.slice p x.subs.length c]] w fun e w'=>e=.returned (.bool B)/\Bel w w':=by
 refine(mk_whole x.num p x.subs.length c w).mono fun e w' ⟨he,k⟩=>⟨?_,k⟩
 rw [he];refine qa3 ?_;rw [←hB,Bool.eq_iff_iff,whole_iff];simp
theorem qc4 {x:PMask} (h:whole x=false):x.subs ≠ []:=fun e=>by
 have:=whole_iff.2 e;rw [h]at this;cases this
end
section
open Go.RowKit Ck Ma
section
variable {s : PSchema} {nm : Str} {m : PMsg} {rec : List UInt8 → List PMask → Int} {l : List PMask} {k : Nat}
theorem fld_of (hm:msgOf s nm=some m) (q:Int):(envOf s).fld nm q=(qb5 m q).map fun f=>(qc2 f,f.tn):=by
 show((msgOf s nm).bind _).map _=_
 rw [hm];rfl
theorem qed (h:k<l.length):chkGo (envOf s) rec nm (pvM l k) (l.drop k)=if((pvM l k).any fun p=>decide (l[k].num<=p))=true then 11 else match (envOf s).fld nm l[k].num with
  | none=>8
  | some f=>if whole l[k]=true then chkGo (envOf s) rec nm (pvM l (k+1)) (l.drop (k+1))else if f.1=false then 12 else if rec f.2 l[k].subs ≠ 0 then rec f.2 l[k].subs else chkGo (envOf s) rec nm (pvM l (k+1)) (l.drop (k+1)):=by
 rw [qg6 h,qgj h];rfl
theorem chk_ord (h:k<l.length) (hp:((pvM l k).any fun p=>decide (l[k].num<=p))=true):chkGo (envOf s) rec nm (pvM l k) (l.drop k)=11:=by rw [qed h,if_pos hp]
theorem qfa (h:k<l.length) (hp : ¬((pvM l k).any fun p=>decide (l[k].num<=p))=true) (hm:msgOf s nm=some m) (hf:qb5 m l[k].num=none):chkGo (envOf s) rec nm (pvM l k) (l.drop k)=8:=by rw [qed h,if_neg hp,fld_of hm,hf];rfl
theorem qdw (h:k<l.length) (hp : ¬((pvM l k).any fun p=>decide (l[k].num<=p))=true) (hm:msgOf s nm=some m) {f:PField} (hf:qb5 m l[k].num=some f) (hw:whole l[k]=true):chkGo (envOf s) rec nm (pvM l k) (l.drop k)=chkGo (envOf s) rec nm (pvM l (k+1)) (l.drop (k+1)):=by
 rw [qed h,if_neg hp,fld_of hm,hf];exact if_pos hw
theorem qf9 (h:k<l.length) (hp : ¬((pvM l k).any fun p=>decide (l[k].num<=p))=true) (hm:msgOf s nm=some m) {f:PField} (hf:qb5 m l[k].num=some f) (hw:whole l[k]=false) (hs:qc2 f=false):chkGo (envOf s) rec nm (pvM l k) (l.drop k)=12:=by
 rw [qed h,if_neg hp,fld_of hm,hf];show(if _ then _ else if qc2 f=false then _ else _)=_
 rw [if_neg (by rw [hw];exact Bool.false_ne_true),if_pos hs]
theorem qhy (h:k<l.length) (hp : ¬((pvM l k).any fun p=>decide (l[k].num<=p))=true) (hm:msgOf s nm=some m) {f:PField} (hf:qb5 m l[k].num=some f) (hw:whole l[k]=false) (hs:qc2 f=true):chkGo (envOf s) rec nm (pvM l k) (l.drop k)=if rec f.tn l[k].subs=0 then chkGo (envOf s) rec nm (pvM l (k+1)) (l.drop (k+1))else rec f.tn l[k].subs:=by
 rw [qed h,if_neg hp,fld_of hm,hf];show(if _ then _ else if qc2 f=false then _ else if rec f.tn l[k].subs ≠ 0 then _ else _)=_
 rw [if_neg (by rw [hw];exact Bool.false_ne_true),if_neg (by rw [hs];exact Bool.noConfusion)];by_cases h0:rec f.tn l[k].subs=0
 ·rw [if_neg (fun e=>e h0),if_pos h0]
 ·rw [if_pos h0,if_neg h0]
end
theorem VField.at {w:World} {vs:List Value} {f:PField} (h:VField w vs f):vs.toArray[0]? = some (.int .i64 f.num)/\vs.toArray[1]? = some (.string (S f.name))/\vs.toArray[2]? = some (.int .i64 f.card)/\vs.toArray[4]? = some (.int .i64 f.tk)/\vs.toArray[5]? = some (.string (S f.tn)):=by
 obtain⟨_,nv,rfl,⟨_,_,_,_,_,_,_,_,rfl,_⟩,h1⟩:=h;exact⟨rfl,rfl,rfl,rfl,rfl⟩
theorem qhw {m:PMsg} {vs:List Value} (k:Int) (wv w0:World) (hvb:Bel wv w0) (hv:VMsg wv vs m):Calls Tryz.prog 27 #[.agg vs.toArray,.int .i64 k] w0 (qbs VField zFld (qb5 m k) wv w0):=by
 obtain⟨_,_,_,_,rfl,h1,h2,h3,h4⟩:=hv;have h1':=h1;obtain⟨_,_,rfl,_⟩:=qa6 h1;obtain⟨_,_,rfl,_⟩:=qa6 h2;obtain⟨_,_,rfl,_⟩:=qa6 h3;obtain⟨_,_,rfl,_⟩:=qa6 h4;exact ds_Field m.name m.fields _ _ _ _ _ _ _ _ _ _ _ k wv w0 hvb h1'
theorem qd5 {m:PMsg} {vs:List Value} (p:Str) (wv w0:World) (hvb:Bel wv w0) (hv:VMsg wv vs m):Calls Tryz.prog 81 #[.agg vs.toArray,.string (S p)] w0 (qbs VField zFld (qg3 m p) wv w0):=by
 obtain⟨_,_,_,_,rfl,h1,h2,h3,h4⟩:=hv;have h1':=h1;obtain⟨_,_,rfl,_⟩:=qa6 h1;obtain⟨_,_,rfl,_⟩:=qa6 h2;obtain⟨_,_,rfl,_⟩:=qa6 h3;obtain⟨_,_,rfl,_⟩:=qa6 h4;exact qg5 m.name m.fields _ _ _ _ _ _ _ _ _ _ _ p wv w0 hvb h1'
theorem qft (num card key tk dk dx:Int) (name tn un dt:Str) (hd:Bool) (r1 r2 r3 r4 r5:Option Addr) (n1 n2 n3 n4 n5 d1 d2 d3 d4 d5:Nat) (w:World) :
  Calls Tryz.prog 29 #[.agg #[.int .i64 num,.string (S name),.int .i64 card,.int .i64 key,.int .i64 tk,.string (S tn),.string (S un),.bool hd,.int .i64 dk,.int .u64 dx,.string (S dt),.slice r1 n1 d1,.slice r2 n2 d2,.slice r3 n3 d3,.slice r4 n4 d4,.slice r5 n5 d5]] w fun e w'=>e=.returned (.bool (decide (tk=10) && (decide (card=1) || decide (card=2))))/\Bel w w':=by
 have HB:=Lib.hid ((Bel.refl w).alloc (.cells #[.int .i64 num,.string (S name),.int .i64 card,.int .i64 key,.int .i64 tk,.string (S tn),.string (S un),.bool hd,.int .i64 dk,.int .u64 dx,.string (S dt),.slice r1 n1 d1,.slice r2 n2 d2,.slice r3 n3 d3,.slice r4 n4 d4,.slice r5 n5 d5] 65));by_cases h1:tk=10
 ·have h1b:(tk == 10)=true:=ieq h1
  have HR:=Lib.hid (show(decide (tk=10) && (decide (card=1) || decide (card=2)))=(decide (card=1) || decide (card=2))by simp [h1]);clear h1;by_cases h2:card=1
  ·have h2b:(card == 1)=true:=ieq h2
   have HR2:=Lib.hid (show(decide (card=1) || decide (card=2))=true by simp [h2]);clear h2
   go_enter Tryz.func29,Tryz.ntmps29
   go_wp2;go_ret
   exact⟨qa3 (HR.out.trans HR2.out).symm,HB.out⟩
  ·have h2b:(card == 1)=false:=ine h2
   have HR2:=Lib.hid (show(decide (card=1) || decide (card=2))=(card == 2)by rw [decide_eq_false h2,Bool.false_or,Bool.eq_iff_iff];simp);clear h2
   go_enter Tryz.func29,Tryz.ntmps29
   go_wp2;go_ret
   exact⟨qa3 (HR.out.trans HR2.out).symm,HB.out⟩
 ·have h1b:(tk == 10)=false:=ine h1
  have HR:=Lib.hid (show(decide (tk=10) && (decide (card=1) || decide (card=2)))=false by simp [h1]);clear h1
  go_enter Tryz.func29,Tryz.ntmps29
  go_wp2;go_ret
  exact⟨qa3 HR.out.symm,HB.out⟩
theorem qhi {f:PField} {vs:List Value} (w:World) {wv:World} (hv:VField wv vs f):Calls Tryz.prog 29 #[.agg vs.toArray] w fun e w'=>e=.returned (.bool (qc2 f))/\Bel w w':=by
 obtain⟨_,nv,rfl,⟨_,_,_,_,_,_,_,_,rfl,_⟩,h1⟩:=hv;obtain⟨_,_,rfl,_⟩:=qa6 h1;exact qft f.num f.card f.key f.tk f.df.k f.df.x f.name f.tn f.un f.df.t f.hd _ _ _ _ _ _ _ _ _ _ _ _ _ _ _ w
end
end Go.Proofs.YtaaneecceiefoaaGreatDoor
