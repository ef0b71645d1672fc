import Derived.Test.YtaaneecceiefoaaGreatDoorMaMem
import Derived.Test.YtaaneecceiefoaaGreatDoorMaEnvD
import Derived.Test.YtaaneecceiefoaaGreatDoorMaNorm
import Derived.Test.YtaaneecceiefoaaGreatDoorMaDesc3
set_option maxRecDepth 100000
set_option maxHeartbeats 4000000
set_option linter.unusedVariables false
set_option linter.unusedSimpArgs false
namespace Go.Proofs.YtaaneecceiefoaaGreatDoor
section
open Go.RowKit Ma
theorem mk_num (k:Int) (v:Value) (w:World) (q:Option Addr) (m c:Nat) (hv:v=.slice q m c):Calls Tryz.prog 46 #[.agg #[.int .i64 k,v]] w fun e w'=>e=.returned (.int .i64 k)/\Bel w w':=by
 subst hv
 go_enter Tryz.func46,Tryz.ntmps46
 go_wp2;go_ret
 exact⟨rfl,(Bel.refl w).alloc _⟩
theorem mk_whole (k:Int) (q:Option Addr) (m c:Nat) (w:World):Calls Tryz.prog 28 #[.agg #[.int .i64 k,.slice q m c]] w fun e w'=>e=.returned (.bool (decide (m=0)))/\Bel w w':=by
 go_enter Tryz.func28,Tryz.ntmps28
 go_wp2;go_ret
 refine⟨qa4 ?_,(Bel.refl w).alloc _⟩;rw [Bool.eq_iff_iff];simp
def FoundM (A:Nat->Prop) (n:Nat) (w:World) (z:Option PMask) (e:Ending) (w':World):Prop := ∃(y:PMask) (p:Option Addr) (c:Nat),(z=some y ∨ z=none/\y=.mk 0 [])/\e=.returned (.tuple #[.agg #[.int .i64 y.num,.slice p y.subs.length c],.bool z.isSome])/\MaskD A n w' (.slice p y.subs.length c) y.subs/\Bel w w'
theorem mk_find (A:Nat->Prop) (n:Nat) (v:Value) (l:List PMask) (q:Int) (w0:World) (h:MaskD A (n+1) w0 v l):Calls Tryz.prog 45 #[v,.int .i64 q,.func (.func 46) #[] #[]] w0 (FoundM A n w0 (find l q)):=by
 obtain⟨p,c,rfl,hl,hcap,hel⟩:=h;have EL:=Lib.hid hel;have V:=Lib.hid (show find (l.drop 0) q=find l q from rfl);generalize find l q=Z at V;have CN:=Lib.hid (fun k v W a m c hv=>mk_num k v W a m c hv);have hS0:=Lib.hid ((ST.start w0).addbox #[.int .i64 0,.slice none 0 0] 61);clear hel hcap
 go_enter Tryz.func45,Tryz.ntmps45
 go_wp2
 go_loopw [13] (fun i wr => ∃k:Nat,k<=l.length/\i=.int .i64 k/\Hid (ST w0 [] [⟨w0.heap.size,#[.int .i64 0,.slice none 0 0],61⟩] wr)/\Hid (find (l.drop k) q=Z)) (fun i _=>l.length-(intOf i).toNat)
 case atStart=>exact⟨0,by omega,rfl,hS0,V⟩
 case round=>as_aux_lemma=>
  clear hS0 V;obtain⟨k,hk,rfl,hS,hx⟩:=hrel;by_cases hlt:k<l.length
  ·obtain⟨b,off,sv,rfl,hbs,hab,hc0,hc1,hd⟩:=EL.out k _ (List.getElem?_eq_getElem hlt)
   obtain⟨sp,sc,rfl⟩:=hd.form;have hki:(k:Int)<(l.length:Int):=by omega
   have e0:=hS.out.bel.some hc0;have e1:=hS.out.bel.some hc1;clear hc0 hc1 hab;have f0:=hS.out.cell 0 rfl 0;have f1:=hS.out.cell 0 rfl 1;have z0:=hS.out.frz 0 rfl 0;have z1:=hS.out.frz 0 rfl 1;have zl:=(hS.out.boxlt 0 rfl).2;dsimp only at f0 f1 z0 z1 zl;have hst:=hx.out;rw [find_at hlt]at hst;clear hx;generalize l[k]=x at *;have HA:=Lib.hid (hS.out.addbox #[.int .i64 x.num,.slice sp x.subs.length sc] 61);by_cases he:x.num=q
   ·have hb:(x.num == q)=true:=ieq he
    rw [if_pos he]at hst;have HST:=Lib.hid hst;clear hst he;go_wp2;have HB:=Lib.hid (show ST w0 [] [⟨w0.heap.size,#[.int .i64 x.num,.slice sp x.subs.length sc],61⟩] _ from((hS.out.setbox 0 rfl 0 (.int .i64 x.num)).setbox 0 rfl 1 (.slice sp x.subs.length sc)).belw (((Bel.refl _).alloc (.cells #[.int .i64 x.num,.slice sp x.subs.length sc] 61)).alloc (.cells #[.int .i64 x.num,.slice sp x.subs.length sc] 61)));refine bodyPost_ret (v:=.tuple #[.agg #[.int .i64 x.num,.slice sp x.subs.length sc],.bool true]) ?hres1 rfl ?hpost1
    case hres1=>exact qbl rfl rfl rfl (HB.out.box 0 rfl) Tryz.underlying61 rfl (by kernel_rfl)
    case hpost1=>exact⟨x,sp,sc,.inl HST.out.symm,by rw [←HST.out];rfl,hd.bel HB.out.bel,HB.out.bel⟩
   ·have hb:(x.num == q)=false:=ine he
    rw [if_neg he]at hst;have HST:=Lib.hid hst;clear hst he;go_wp2;go_roundw
    case rel=>exact⟨k+1,by omega,by go_num,Lib.hid (HA.out.dropbox0.belw ((Bel.refl _).alloc _)),HST⟩
    case measure=>simp [intOf];omega
  ·have hkl:k=l.length:=by omega
   have hz:none=Z:=by have:=hx.out;rw [hkl,List.drop_length]at this;exact this
   subst hz;have f0:=hS.out.cell 0 rfl 0;have f1:=hS.out.cell 0 rfl 1;have z0:=hS.out.frz 0 rfl 0;have z1:=hS.out.frz 0 rfl 1;have zl:=(hS.out.boxlt 0 rfl).2;dsimp only at f0 f1 z0 z1 zl;clear hx;go_wp2;have HB:=Lib.hid (show ST w0 [] [⟨w0.heap.size,#[.int .i64 0,.slice none 0 0],61⟩] _ from((hS.out.setbox 0 rfl 0 (.int .i64 0)).setbox 0 rfl 1 (.slice none 0 0)).belw ((Bel.refl _).alloc (.cells #[.int .i64 0,.slice none 0 0] 61)));refine bodyPost_ret (v:=.tuple #[.agg #[.int .i64 0,.slice none 0 0],.bool false]) ?hres2 rfl ?hpost2
   case hres2=>exact qbl rfl rfl rfl (HB.out.box 0 rfl) Tryz.underlying61 rfl (by kernel_rfl)
   case hpost2=>exact⟨.mk 0 [],none,0,.inr ⟨rfl,rfl⟩,rfl,MaskD.nil _ _,HB.out.bel⟩
theorem qb7 {A:Nat->Prop} {n:Nat} {v:Value} {l:List PMask} {q:Int} {x:PMask} (hz:find l q=some x) (w0:World) (h:MaskD A (n+1) w0 v l):Calls Tryz.prog 45 #[v,.int .i64 q,.func (.func 46) #[] #[]] w0 fun e w' => ∃p c,e=.returned (.tuple #[.agg #[.int .i64 x.num,.slice p x.subs.length c],.bool true])/\MaskD A n w' (.slice p x.subs.length c) x.subs/\Bel w0 w':=by
 have:=mk_find A n v l q w0 h;rw [hz]at this;refine this.mono fun e w' ⟨y,p,c,hy,he,hd,k⟩=>?_
 rcases hy with hy|⟨hy,_⟩
 ·cases hy
  exact⟨p,c,he,hd,k⟩
 ·cases hy
theorem qb8 {A:Nat->Prop} {n:Nat} {v:Value} {l:List PMask} {q:Int} (hz:find l q=none) (w0:World) (h:MaskD A (n+1) w0 v l):Calls Tryz.prog 45 #[v,.int .i64 q,.func (.func 46) #[] #[]] w0 fun e w' => ∃p c,e=.returned (.tuple #[.agg #[.int .i64 0,.slice p 0 c],.bool false])/\Bel w0 w':=by
 have:=mk_find A n v l q w0 h;rw [hz]at this;refine this.mono fun e w' ⟨y,p,c,hy,he,hd,k⟩=>?_
 rcases hy with hy|⟨_,rfl⟩
 ·cases hy
 ·exact⟨p,c,he,k⟩
theorem qa9 {x:PMask} {B:Bool} (hB:whole x=B) (p:Option Addr) (c:Nat) (w:World):Calls Tryz.prog 28 #[.agg #[.int .i64 x.num,.slice p x.subs.length c]] w fun e w'=>e=.returned (.bool B)/\Bel w w':=by
 refine(mk_whole x.num p x.subs.length c w).mono fun e w' ⟨he,k⟩=>⟨?_,k⟩
 rw [he];refine qa4 ?_;rw [←hB,Bool.eq_iff_iff,whole_iff];simp
theorem qbj {x:PMask} (h:whole x=false):x.subs ≠ []:=fun e=>by
 have:=whole_iff.2 e;rw [h]at this;cases this
end
section
open Go.RowKit Ck Ma
section
variable {s : PSchema} {nm : Str} {m : PMsg} {rec : List UInt8 → List PMask → Int} {l : List PMask} {k : Nat}
theorem fld_of (hm:msgOf s nm=some m) (q:Int):(envOf s).fld nm q=(qas m q).map fun f=>(qbb f,f.tn):=by
 show((msgOf s nm).bind _).map _=_
 rw [hm];rfl
theorem qew (h:k<l.length):chkGo (envOf s) rec nm (pvM l k) (l.drop k)=if((pvM l k).any fun p=>decide (l[k].num<=p))=true then 11 else match (envOf s).fld nm l[k].num with
  | none=>8
  | some f=>if whole l[k]=true then chkGo (envOf s) rec nm (pvM l (k+1)) (l.drop (k+1))else if f.1=false then 12 else if rec f.2 l[k].subs ≠ 0 then rec f.2 l[k].subs else chkGo (envOf s) rec nm (pvM l (k+1)) (l.drop (k+1)):=by
 rw [qe1 h,qhe h];rfl
theorem chk_ord (h:k<l.length) (hp:((pvM l k).any fun p=>decide (l[k].num<=p))=true):chkGo (envOf s) rec nm (pvM l k) (l.drop k)=11:=by rw [qew h,if_pos hp]
theorem qg0 (h:k<l.length) (hp : ¬((pvM l k).any fun p=>decide (l[k].num<=p))=true) (hm:msgOf s nm=some m) (hf:qas m l[k].num=none):chkGo (envOf s) rec nm (pvM l k) (l.drop k)=8:=by rw [qew h,if_neg hp,fld_of hm,hf];rfl
theorem qea (h:k<l.length) (hp : ¬((pvM l k).any fun p=>decide (l[k].num<=p))=true) (hm:msgOf s nm=some m) {f:PField} (hf:qas m l[k].num=some f) (hw:whole l[k]=true):chkGo (envOf s) rec nm (pvM l k) (l.drop k)=chkGo (envOf s) rec nm (pvM l (k+1)) (l.drop (k+1)):=by
 rw [qew h,if_neg hp,fld_of hm,hf];exact if_pos hw
theorem qfz (h:k<l.length) (hp : ¬((pvM l k).any fun p=>decide (l[k].num<=p))=true) (hm:msgOf s nm=some m) {f:PField} (hf:qas m l[k].num=some f) (hw:whole l[k]=false) (hs:qbb f=false):chkGo (envOf s) rec nm (pvM l k) (l.drop k)=12:=by
 rw [qew h,if_neg hp,fld_of hm,hf];show(if _ then _ else if qbb f=false then _ else _)=_
 rw [if_neg (by rw [hw];exact Bool.false_ne_true),if_pos hs]
theorem qj0 (h:k<l.length) (hp : ¬((pvM l k).any fun p=>decide (l[k].num<=p))=true) (hm:msgOf s nm=some m) {f:PField} (hf:qas m l[k].num=some f) (hw:whole l[k]=false) (hs:qbb f=true):chkGo (envOf s) rec nm (pvM l k) (l.drop k)=if rec f.tn l[k].subs=0 then chkGo (envOf s) rec nm (pvM l (k+1)) (l.drop (k+1))else rec f.tn l[k].subs:=by
 rw [qew h,if_neg hp,fld_of hm,hf];show(if _ then _ else if qbb f=false then _ else if rec f.tn l[k].subs ≠ 0 then _ else _)=_
 rw [if_neg (by rw [hw];exact Bool.false_ne_true),if_neg (by rw [hs];exact Bool.noConfusion)];by_cases h0:rec f.tn l[k].subs=0
 ·rw [if_neg (fun e=>e h0),if_pos h0]
 ·rw [if_pos h0,if_neg h0]
end
theorem VField.at {w:World} {vs:List Value} {f:PField} (h:VField w vs f):vs.toArray[0]? = some (.int .i64 f.num)/\vs.toArray[1]? = some (.string (S f.name))/\vs.toArray[2]? = some (.int .i64 f.card)/\vs.toArray[4]? = some (.int .i64 f.tk)/\vs.toArray[5]? = some (.string (S f.tn)):=by
 obtain⟨_,nv,rfl,⟨_,_,_,_,_,_,_,_,rfl,_⟩,h1⟩:=h;exact⟨rfl,rfl,rfl,rfl,rfl⟩
theorem qfy {m:PMsg} {vs:List Value} (k:Int) (wv w0:World) (hvb:Bel wv w0) (hv:VMsg wv vs m):Calls Tryz.prog 27 #[.agg vs.toArray,.int .i64 k] w0 (qc4 VField zFld (qas m k) wv w0):=by
 obtain⟨_,_,_,_,rfl,h1,h2,h3,h4⟩:=hv;have h1':=h1;obtain⟨_,_,rfl,_⟩:=qa6 h1;obtain⟨_,_,rfl,_⟩:=qa6 h2;obtain⟨_,_,rfl,_⟩:=qa6 h3;obtain⟨_,_,rfl,_⟩:=qa6 h4;exact ds_Field m.name m.fields _ _ _ _ _ _ _ _ _ _ _ k wv w0 hvb h1'
theorem qde {m:PMsg} {vs:List Value} (p:Str) (wv w0:World) (hvb:Bel wv w0) (hv:VMsg wv vs m):Calls Tryz.prog 81 #[.agg vs.toArray,.string (S p)] w0 (qc4 VField zFld (qgx m p) wv w0):=by
 obtain⟨_,_,_,_,rfl,h1,h2,h3,h4⟩:=hv;have h1':=h1;obtain⟨_,_,rfl,_⟩:=qa6 h1;obtain⟨_,_,rfl,_⟩:=qa6 h2;obtain⟨_,_,rfl,_⟩:=qa6 h3;obtain⟨_,_,rfl,_⟩:=qa6 h4;exact qgz m.name m.fields _ _ _ _ _ _ _ _ _ _ _ p wv w0 hvb h1'
theorem qgl (num card key tk dk dx:Int) (name tn un dt:Str) (hd:Bool) (r1 r2 r3 r4 r5:Option Addr) (n1 n2 n3 n4 n5 d1 d2 d3 d4 d5:Nat) (w:World) :
  Calls Tryz.prog 29 #[.agg #[.int .i64 num,.string (S name),.int .i64 card,.int .i64 key,.int .i64 tk,.string (S tn),.string (S un),.bool hd,.int .i64 dk,.int .u64 dx,.string (S dt),.slice r1 n1 d1,.slice r2 n2 d2,.slice r3 n3 d3,.slice r4 n4 d4,.slice r5 n5 d5]] w fun e w'=>e=.returned (.bool (decide (tk=10) && (decide (card=1) || decide (card=2))))/\Bel w w':=by
 have HB:=Lib.hid ((Bel.refl w).alloc (.cells #[.int .i64 num,.string (S name),.int .i64 card,.int .i64 key,.int .i64 tk,.string (S tn),.string (S un),.bool hd,.int .i64 dk,.int .u64 dx,.string (S dt),.slice r1 n1 d1,.slice r2 n2 d2,.slice r3 n3 d3,.slice r4 n4 d4,.slice r5 n5 d5] 65));by_cases h1:tk=10
 ·have h1b:(tk == 10)=true:=ieq h1
  have HR:=Lib.hid (show(decide (tk=10) && (decide (card=1) || decide (card=2)))=(decide (card=1) || decide (card=2))by simp [h1]);clear h1;by_cases h2:card=1
  ·have h2b:(card == 1)=true:=ieq h2
   have HR2:=Lib.hid (show(decide (card=1) || decide (card=2))=true by simp [h2]);clear h2
   go_enter Tryz.func29,Tryz.ntmps29
   go_wp2;go_ret
   exact⟨qa4 (HR.out.trans HR2.out).symm,HB.out⟩
  ·have h2b:(card == 1)=false:=ine h2
   have HR2:=Lib.hid (show(decide (card=1) || decide (card=2))=(card == 2)by rw [decide_eq_false h2,Bool.false_or,Bool.eq_iff_iff];simp);clear h2
   go_enter Tryz.func29,Tryz.ntmps29
   go_wp2;go_ret
   exact⟨qa4 (HR.out.trans HR2.out).symm,HB.out⟩
 ·have h1b:(tk == 10)=false:=ine h1
  have HR:=Lib.hid (show(decide (tk=10) && (decide (card=1) || decide (card=2)))=false by simp [h1]);clear h1
  go_enter Tryz.func29,Tryz.ntmps29
  go_wp2;go_ret
  exact⟨qa4 HR.out.symm,HB.out⟩
theorem qii {f:PField} {vs:List Value} (w:World) {wv:World} (hv:VField wv vs f):Calls Tryz.prog 29 #[.agg vs.toArray] w fun e w'=>e=.returned (.bool (qbb f))/\Bel w w':=by
 obtain⟨_,nv,rfl,⟨_,_,_,_,_,_,_,_,rfl,_⟩,h1⟩:=hv;obtain⟨_,_,rfl,_⟩:=qa6 h1;exact qgl f.num f.card f.key f.tk f.df.k f.df.x f.name f.tn f.un f.df.t f.hd _ _ _ _ _ _ _ _ _ _ _ _ _ _ _ w
end
section
open Go.RowKit Ck Ma
theorem VSchema.staysB {s:PSchema} {vs:List Value} {w w':World} (h:VSchema w vs s) (k:Bel w w'):VSchema w' vs s:=VSchema.stays _ _ _ _ k h
def CheckC (n:Nat):Prop := ∀(A:Nat->Prop) (mv ev sv:Value) (s:PSchema) (name:Str) (v:Value) (l:List PMask) (w:World),VSchema w [mv,ev,sv] s->MaskD A n w v l->Calls Tryz.prog 9 #[.agg #[mv,ev,sv],.string (S name),v] w fun e w'=>e=.returned (.int .i64 (chk (envOf s) n name l))/\Bel w w'
theorem qdz (n:Nat) (IH:n ≠ 0->CheckC n):CheckC (n+1):=by
 intro A mv ev sv s name v l w0 hs hl0;have HS:=Lib.hid (fun(W:World) (k:Bel w0 W)=>VSchema.staysB hs k);have CM0:=Lib.hid (fun W (k:Bel w0 W)=>qc1 mv ev sv s name w0 W k hs);obtain⟨_,_,_,he,hm,hev,hsv⟩:=hs;cases he;obtain⟨q2,c2,rfl,hl2⟩:=qa6 hev;obtain⟨q3,c3,rfl,hl3⟩:=qa6 hsv;obtain⟨q1,c1,rfl,hl1⟩:=qa6 hm;clear hm hev hsv;obtain⟨p,c,rfl,hl,hcap,hel⟩:=hl0;have EL:=Lib.hid hel;clear hel hcap;have hS0:=Lib.hid ((ST.start w0).addbox #[.slice q1 s.msgs.length c1,.slice q2 s.enums.length c2,.slice q3 s.svcs.length c3] 26);cases hm:msgOf s name with
 | none=>
  have hr:chk (envOf s) (n+1) name l=10:=by
   show(if(msgOf s name).isSome=true then _ else _)=_
   rw [hm];rfl
  rw [hr];rw [hm]at CM0;clear hr hm
  go_enter Tryz.func9,Tryz.ntmps9
  go_wp2_with (first
   | (go_at_call 26;(with_reducible refine(CM0.out _ hS0.out.bel).mono ?_);rintro e w1 ⟨vm,rfl,hvs,k1⟩;have k1:Bel _ w1:=k1;have hv0:vm=zMsg:=hvs;subst hv0;have H1:=Lib.hid ((hS0.out.belw k1).addbox zMsg.toArray 57);clear k1 hvs)
   | (refine qa3 (old:=#[.string ⟨#[]⟩,.slice none 0 0,.slice none 0 0,.slice none 0 0,.slice none 0 0]) rfl 57 _ _ rfl w1 rfl w1.heap.size rfl zMsg.toArray rfl rfl ar_M rfl (by simp [zMsg,Value.oneCell']) ?_))
  go_ret;exact⟨rfl,H1.out.bel⟩
 | some m=>
  have V:=Lib.hid (show chkGo (envOf s) (chk (envOf s) n) name (pvM l 0) (l.drop 0)=chk (envOf s) (n+1) name l by
   show _=(if(msgOf s name).isSome=true then _ else _)
   rw [hm]
   rfl)
  generalize chk (envOf s) (n+1) name l=R at V;rw [hm]at CM0;have HM:=Lib.hid hm;clear hm
  go_enter Tryz.func9,Tryz.ntmps9
  go_upto_region 2 with(first
   | (go_at_call 26;(with_reducible refine(CM0.out _ hS0.out.bel).mono ?_);rintro e w1 ⟨vm,rfl,hvs,k1⟩;have k1:Bel _ w1:=k1;have HVM:=Lib.hid (show VMsg _ vm m from hvs);obtain⟨hlen,hone⟩:=qcr hvs;have HVS:=Lib.hid hvs;have Z0:vm.toArray.size=5:=(by rw [List.size_toArray];exact hlen);have Z1:=Lib.hid (show(Tryz.prog.info? 57).map (·.size)=some vm.toArray.size by rw [Z0];exact ar_M);have Z2:=Lib.hid (show(#[.string ⟨#[]⟩,.slice none 0 0,.slice none 0 0,.slice none 0 0,.slice none 0 0]:Array Value).size=vm.toArray.size by rw [Z0];rfl);have HO:=Lib.hid hone;clear hlen hone Z0 hvs;have H1:=Lib.hid ((hS0.out.belw k1).addbox vm.toArray 57);have K1:=Lib.hid (show Bel _ (w1.alloc (.cells vm.toArray 57))from k1.alloc _);clear k1)
   | (refine qa3 (old:=#[.string ⟨#[]⟩,.slice none 0 0,.slice none 0 0,.slice none 0 0,.slice none 0 0]) rfl 57 _ _ rfl w1 rfl w1.heap.size rfl vm.toArray rfl rfl Z1.out Z2.out HO.out ?_))
  generalize hwz:World.alloc w1 _=wz at H1 K1 ⊢;clear hwz;generalize hmb:w1.heap.size=mb at H1 ⊢;clear hmb HVS HO Z2;have HZ1:=Z1;have HVM2:=Lib.hid (VMsg.stays _ _ _ _ H1.out.bel HVM.out);have CFd:=Lib.hid (fun W (kk:Bel wz W) q=>qfy (m:=m) (vs:=vm) q wz W kk HVM2.out);have HEN:=Lib.hid H1.out.bel;clear K1 HVM Z1 CM0 hS0
  go_wp2_with (fail)
  go_loopw [24] (fun i wr => ∃k:Nat,k<=l.length/\i=.int .i64 k/\Hid (ST w0 [] [⟨mb,vm.toArray,57⟩,⟨w0.heap.size,#[.slice q1 s.msgs.length c1,.slice q2 s.enums.length c2,.slice q3 s.svcs.length c3],26⟩] wr)/\Hid (Bel wz wr)/\Hid (chkGo (envOf s) (chk (envOf s) n) name (pvM l k) (l.drop k)=R)) (fun i _=>l.length-(intOf i).toNat)
  case atStart=>exact⟨0,by omega,rfl,H1,Lib.hid (Bel.refl _),V⟩
  case round=>as_aux_lemma=>
   clear V H1 HEN;obtain⟨k,hk,rfl,hS,hB,hx⟩:=hrel;by_cases hlt:k<l.length
   ·obtain⟨g,off,sv,rfl,hbs,hab,hc0,hc1,hd⟩:=EL.out k _ (List.getElem?_eq_getElem hlt)
    obtain⟨sp,sc,rfl⟩:=hd.form;have hki:(k:Int)<(l.length:Int):=by omega
    have e0:=hS.out.bel.some hc0;have e1:=hS.out.bel.some hc1;have hst:=hx.out
    have hpv : ∀kp,k=kp+1->∃z,pvM l k=some z/\∃b2 off2:Nat,(some (⟨g,off,none⟩:Addr))=some ⟨b2,off2,none⟩/\w0.cell? ⟨b2,off2+kp*2,none⟩=some (.int .i64 z):=fun kp hkk=>by
     have hkp:kp<l.length:=by omega
     obtain⟨b2,off2,sv2,hq2,hs2,hab2,hp0,_,_⟩:=EL.out kp _ (List.getElem?_eq_getElem hkp);exact⟨_,by rw [hkk];exact qhe hkp,b2,off2,hq2,hp0⟩
    have HPV:=Lib.hid hpv;clear hx hab hpv EL;generalize hxk:l[k]=x at *;have HXK:=Lib.hid hxk;have DX:=Lib.hid (show MaskD A n w0 (.slice sp x.subs.length sc) x.subs from hd);have HX:=Lib.hid (hS.out.addbox #[.int .i64 x.num,.slice sp x.subs.length sc] 61);have HBm:=Lib.hid (HX.out.box 1 rfl);clear hc0 hc1 hd hxk
    go_upto_region 8 with(first
     | (refine qa5 rfl 57 _ rfl mb vm.toArray 57 rfl HBm.out _ Tryz.underlying57 rfl HZ1.out ?_)
     | (go_at_call 27;(with_reducible refine(CFd.out _ (hB.out.alloc _) _).mono ?_);rintro e w1 ⟨vs,rfl,hvs,k1⟩;have k1:Bel _ w1:=k1;obtain⟨hlen,hone⟩:=qcs hvs;have HVS:=Lib.hid hvs;have Z0:vs.toArray.size=16:=(by rw [List.size_toArray];exact hlen);have Z1:=Lib.hid (show(Tryz.prog.info? 65).map (·.size)=some vs.toArray.size by rw [Z0];exact ar_F);have Z2:=Lib.hid (show(#[.int .i64 0,.string ⟨#[]⟩,.int .i64 0,.int .i64 0,.int .i64 0,.string ⟨#[]⟩,.string ⟨#[]⟩,.bool false,.int .i64 0,.int .u64 0,.string ⟨#[]⟩,.slice none 0 0,.slice none 0 0,.slice none 0 0,.slice none 0 0,.slice none 0 0]:Array Value).size=vs.toArray.size by rw [Z0];rfl);have HO:=Lib.hid hone;clear hlen hone Z0 hvs;have H1:=Lib.hid ((HX.out.belw k1).addbox vs.toArray 65);have K1:=Lib.hid (show Bel _ (w1.alloc (.cells vs.toArray 65))from k1.alloc _);clear k1)
     | (refine qa3 (old:=#[.int .i64 0,.string ⟨#[]⟩,.int .i64 0,.int .i64 0,.int .i64 0,.string ⟨#[]⟩,.string ⟨#[]⟩,.bool false,.int .i64 0,.int .u64 0,.string ⟨#[]⟩,.slice none 0 0,.slice none 0 0,.slice none 0 0,.slice none 0 0,.slice none 0 0]) rfl 65 _ _ rfl w1 rfl w1.heap.size rfl vs.toArray rfl rfl Z1.out Z2.out HO.out ?_))
    generalize hwz2:World.alloc w1 _=wy at H1 K1 ⊢;clear hwz2;generalize hfb:w1.heap.size=fb at H1 ⊢;obtain⟨wd,hwd⟩ : ∃wd,wd=wy.drew:=⟨_,rfl⟩;have HD:=Lib.hid (show ST w0 [] [⟨fb,vs.toArray,65⟩,⟨wr.heap.size,#[.int .i64 x.num,.slice sp x.subs.length sc],61⟩,⟨mb,vm.toArray,57⟩,⟨w0.heap.size,#[.slice q1 s.msgs.length c1,.slice q2 s.enums.length c2,.slice q3 s.svcs.length c3],26⟩] wd by rw [hwd];exact H1.out.belw (Bel.refl _).drew);have HBz:=Lib.hid (show Bel wz wd by rw [hwd];exact(Bel.of (hB.out.alloc _) K1.out).drew);have HWD:=Lib.hid hwd;clear hwd H1 K1 hfb hS hB e0 e1 HX HBm;have x0:=HD.out.cell 1 rfl 0;have x1:=HD.out.cell 1 rfl 1;dsimp only at x0 x1;by_cases hk0:k=0
    ·subst hk0
     have hki2:((0:Nat):Int)=0:=rfl;have HP:=Lib.hid (show ¬((pvM l 0).any fun p=>decide (l[0].num<=p))=true from Bool.false_ne_true);refine qag 11 (by kernel_rfl) (by kernel_rfl) HWD.out ?_
     (simp only [List.take_succ_cons,List.take_zero,List.drop_succ_cons,List.drop_zero]);(repeat (first|((with_reducible refine wpStill_step (fun K hK=>?_));go_simp;(with_reducible refine hK _ ?_);clear hK K)|((with_reducible refine qah ?_ ?_);(with_unfolding_all rfl);(simp only [Act.put,List.setIfInBounds_toArray,List.set_cons_zero,List.set_cons_succ]))));(with_reducible refine wpStill_nil ?_)
     cases hf:qas m x.num with
     | none=>
      rw [qg0 hlt HP.out HM.out (by rw [HXK.out];exact hf)]at hst;subst hst;rw [hf]at HVS;go_wp2;go_ret;exact⟨rfl,HD.out.bel⟩
     | some f=>
      rw [hf]at HVS;have HVF:=Lib.hid (show VField _ vs f from HVS.out);have HF5:=Lib.hid (VField.at HVF.out).2.2.2.2;have CS:=Lib.hid (fun W=>qii (f:=f) (vs:=vs) W HVF.out);cases hwx:whole x with
      | true=>
       rw [qea hlt HP.out HM.out (by rw [HXK.out];exact hf) (by rw [HXK.out];exact hwx)]at hst;have HST:=Lib.hid hst;have CX:=Lib.hid (fun p c W=>qa9 hwx p c W);clear hst hf hwx HVS
       go_wp2_with (first
        | (go_at_call 28;(with_reducible refine(CX.out _ _ _).mono ?_);rintro e w2 ⟨rfl,k2⟩;have k2:Bel _ w2:=k2;have K2:=Lib.hid k2;have H2:=Lib.hid (HD.out.belw k2);have HBf:=Lib.hid (H2.out.box 0 rfl);clear x0 x1;clear k2))
       go_roundw
       case rel=>exact⟨0+1,by omega,by go_num,Lib.hid H2.out.dropbox0.dropbox0,Lib.hid (Bel.of HBz.out K2.out),HST⟩
       case measure=>simp [intOf];omega
      | false=>
       have CX:=Lib.hid (fun p c W=>qa9 hwx p c W);have hn0:=DX.out.ne (qbj hwx);cases hsf:qbb f with
       | false=>
        rw [qfz hlt HP.out HM.out (by rw [HXK.out];exact hf) (by rw [HXK.out];exact hwx) hsf]at hst;subst hst;rw [hsf]at CS;clear hf hwx HVS hsf
        go_wp2_with (first
         | (go_at_call 28;(with_reducible refine(CX.out _ _ _).mono ?_);rintro e w2 ⟨rfl,k2⟩;have k2:Bel _ w2:=k2;have K2:=Lib.hid k2;have H2:=Lib.hid (HD.out.belw k2);have HBf:=Lib.hid (H2.out.box 0 rfl);clear x0 x1;clear k2)
         | (refine qa5 rfl 65 _ rfl fb vs.toArray 65 rfl HBf.out _ Tryz.underlying65 rfl Z1.out ?_)
         | (go_at_call 29;(with_reducible refine(CS.out _).mono ?_);rintro e w3 ⟨rfl,k3⟩;have k3:Bel _ w3:=k3;have K3:=Lib.hid (Bel.of K2.out k3);have H3:=Lib.hid (H2.out.belw k3);have t0:=H3.out.cell 3 rfl 0;have t1:=H3.out.cell 3 rfl 1;have t2:=H3.out.cell 3 rfl 2;have t5:=(H3.out.cell 0 rfl 5).trans HF5.out;have x1:=H3.out.cell 1 rfl 1;dsimp only at t0 t1 t2 t5 x1;clear k3))
        go_ret;exact⟨rfl,H3.out.bel⟩
       | true=>
        rw [qj0 hlt HP.out HM.out (by rw [HXK.out];exact hf) (by rw [HXK.out];exact hwx) hsf,HXK.out]at hst;rw [hsf]at CS;have CI:=Lib.hid (fun W (kk:Bel w0 W) (h:MaskD A n W (.slice sp x.subs.length sc) x.subs)=>IH hn0 A (.slice q1 s.msgs.length c1) (.slice q2 s.enums.length c2) (.slice q3 s.svcs.length c3) s f.tn _ x.subs W (HS.out W kk) h);generalize chk (envOf s) n f.tn x.subs=RC at CI hst;clear hf hwx HVS hsf hn0;by_cases h0:RC=0
        ·rw [if_pos h0]at hst
         subst h0;have HST:=Lib.hid hst;clear hst
         go_wp2_with (first
          | (go_at_call 28;(with_reducible refine(CX.out _ _ _).mono ?_);rintro e w2 ⟨rfl,k2⟩;have k2:Bel _ w2:=k2;have K2:=Lib.hid k2;have H2:=Lib.hid (HD.out.belw k2);have HBf:=Lib.hid (H2.out.box 0 rfl);clear x0 x1;clear k2)
          | (refine qa5 rfl 65 _ rfl fb vs.toArray 65 rfl HBf.out _ Tryz.underlying65 rfl Z1.out ?_)
          | (go_at_call 29;(with_reducible refine(CS.out _).mono ?_);rintro e w3 ⟨rfl,k3⟩;have k3:Bel _ w3:=k3;have K3:=Lib.hid (Bel.of K2.out k3);have H3:=Lib.hid (H2.out.belw k3);have t0:=H3.out.cell 3 rfl 0;have t1:=H3.out.cell 3 rfl 1;have t2:=H3.out.cell 3 rfl 2;have t5:=(H3.out.cell 0 rfl 5).trans HF5.out;have x1:=H3.out.cell 1 rfl 1;dsimp only at t0 t1 t2 t5 x1;clear k3)
          | (go_at_call 9;(with_reducible refine(CI.out _ H3.out.bel (DX.out.bel H3.out.bel)).mono ?_);rintro e w4 ⟨rfl,k4⟩;have k4:Bel _ w4:=k4;have K4:=Lib.hid (Bel.of K3.out k4);have H4:=Lib.hid (H3.out.belw k4);clear k4))
         go_roundw
         case rel=>exact⟨0+1,by omega,by go_num,Lib.hid H4.out.dropbox0.dropbox0,Lib.hid (Bel.of HBz.out K4.out),HST⟩
         case measure=>simp [intOf];omega
        ·rw [if_neg h0]at hst
         subst hst;have hb0:(RC != 0)=true:=bne_t h0;clear h0
         go_wp2_with (first
          | (go_at_call 28;(with_reducible refine(CX.out _ _ _).mono ?_);rintro e w2 ⟨rfl,k2⟩;have k2:Bel _ w2:=k2;have K2:=Lib.hid k2;have H2:=Lib.hid (HD.out.belw k2);have HBf:=Lib.hid (H2.out.box 0 rfl);clear x0 x1;clear k2)
          | (refine qa5 rfl 65 _ rfl fb vs.toArray 65 rfl HBf.out _ Tryz.underlying65 rfl Z1.out ?_)
          | (go_at_call 29;(with_reducible refine(CS.out _).mono ?_);rintro e w3 ⟨rfl,k3⟩;have k3:Bel _ w3:=k3;have K3:=Lib.hid (Bel.of K2.out k3);have H3:=Lib.hid (H2.out.belw k3);have t0:=H3.out.cell 3 rfl 0;have t1:=H3.out.cell 3 rfl 1;have t2:=H3.out.cell 3 rfl 2;have t5:=(H3.out.cell 0 rfl 5).trans HF5.out;have x1:=H3.out.cell 1 rfl 1;dsimp only at t0 t1 t2 t5 x1;clear k3)
          | (go_at_call 9;(with_reducible refine(CI.out _ H3.out.bel (DX.out.bel H3.out.bel)).mono ?_);rintro e w4 ⟨rfl,k4⟩;have k4:Bel _ w4:=k4;have K4:=Lib.hid (Bel.of K3.out k4);have H4:=Lib.hid (H3.out.belw k4);clear k4))
         go_ret;exact⟨rfl,H4.out.bel⟩
    ·obtain⟨kp,hkk⟩ : ∃kp,k=kp+1:=⟨k-1,by omega⟩
     have hkp:kp<l.length:=by omega
     have hkpi:(kp:Int)<(l.length:Int):=by omega
     have hki0:(0:Int)<(k:Int):=by omega
     have hkn0:0<k:=by omega
     have jw2:IntKind.i64.wrap (kp:Int)=(kp:Int):=IntWalk.i64_in _ (by omega);have jw:IntKind.i64.wrap ((k:Int)-1)=(kp:Int):=by rw [show(k:Int)-1=(kp:Int)by omega];exact jw2
     obtain⟨z,hz,b2,off2,hq2,hp0⟩:=HPV.out kp hkk;cases hq2;have y0:=HD.out.bel.some hp0;clear hp0;by_cases hxz:x.num<=z
     ·rw [chk_ord hlt (by rw [HXK.out,hz];simpa using hxz)]at hst
      subst hst;clear hkk hz;refine qag 11 (by kernel_rfl) (by kernel_rfl) HWD.out ?_
      (simp only [List.take_succ_cons,List.take_zero,List.drop_succ_cons,List.drop_zero]);(repeat (first|((with_reducible refine wpStill_step (fun K hK=>?_));go_simp;(with_reducible refine hK _ ?_);clear hK K)|((with_reducible refine qah ?_ ?_);(with_unfolding_all rfl);(simp only [Act.put,List.setIfInBounds_toArray,List.set_cons_zero,List.set_cons_succ]))));(with_reducible refine wpStill_nil ?_)
      go_wp2;go_ret
      exact⟨rfl,HD.out.bel⟩
     ·have HP:=Lib.hid (show ¬((pvM l k).any fun p=>decide (l[k].num<=p))=true by rw [HXK.out,hz];simpa using hxz)
      have hzd:decide (x.num<=z)=false:=by simpa using hxz
      have hz2:z<x.num:=by omega
      clear hxz hkk hz;refine qag 11 (by kernel_rfl) (by kernel_rfl) HWD.out ?_
      (simp only [List.take_succ_cons,List.take_zero,List.drop_succ_cons,List.drop_zero]);(repeat (first|((with_reducible refine wpStill_step (fun K hK=>?_));go_simp;(with_reducible refine hK _ ?_);clear hK K)|((with_reducible refine qah ?_ ?_);(with_unfolding_all rfl);(simp only [Act.put,List.setIfInBounds_toArray,List.set_cons_zero,List.set_cons_succ]))));(with_reducible refine wpStill_nil ?_)
      clear y0 jw jw2;cases hf:qas m x.num with
      | none=>
       rw [qg0 hlt HP.out HM.out (by rw [HXK.out];exact hf)]at hst;subst hst;rw [hf]at HVS;go_wp2;go_ret;exact⟨rfl,HD.out.bel⟩
      | some f=>
       rw [hf]at HVS;have HVF:=Lib.hid (show VField _ vs f from HVS.out);have HF5:=Lib.hid (VField.at HVF.out).2.2.2.2;have CS:=Lib.hid (fun W=>qii (f:=f) (vs:=vs) W HVF.out);cases hwx:whole x with
       | true=>
        rw [qea hlt HP.out HM.out (by rw [HXK.out];exact hf) (by rw [HXK.out];exact hwx)]at hst;have HST:=Lib.hid hst;have CX:=Lib.hid (fun p c W=>qa9 hwx p c W);clear hst hf hwx HVS
        go_wp2_with (first
         | (go_at_call 28;(with_reducible refine(CX.out _ _ _).mono ?_);rintro e w2 ⟨rfl,k2⟩;have k2:Bel _ w2:=k2;have K2:=Lib.hid k2;have H2:=Lib.hid (HD.out.belw k2);have HBf:=Lib.hid (H2.out.box 0 rfl);clear x0 x1;clear k2))
        go_roundw
        case rel=>exact⟨k+1,by omega,by go_num,Lib.hid H2.out.dropbox0.dropbox0,Lib.hid (Bel.of HBz.out K2.out),HST⟩
        case measure=>simp [intOf];omega
       | false=>
        have CX:=Lib.hid (fun p c W=>qa9 hwx p c W);have hn0:=DX.out.ne (qbj hwx);cases hsf:qbb f with
        | false=>
         rw [qfz hlt HP.out HM.out (by rw [HXK.out];exact hf) (by rw [HXK.out];exact hwx) hsf]at hst;subst hst;rw [hsf]at CS;clear hf hwx HVS hsf
         go_wp2_with (first
          | (go_at_call 28;(with_reducible refine(CX.out _ _ _).mono ?_);rintro e w2 ⟨rfl,k2⟩;have k2:Bel _ w2:=k2;have K2:=Lib.hid k2;have H2:=Lib.hid (HD.out.belw k2);have HBf:=Lib.hid (H2.out.box 0 rfl);clear x0 x1;clear k2)
          | (refine qa5 rfl 65 _ rfl fb vs.toArray 65 rfl HBf.out _ Tryz.underlying65 rfl Z1.out ?_)
          | (go_at_call 29;(with_reducible refine(CS.out _).mono ?_);rintro e w3 ⟨rfl,k3⟩;have k3:Bel _ w3:=k3;have K3:=Lib.hid (Bel.of K2.out k3);have H3:=Lib.hid (H2.out.belw k3);have t0:=H3.out.cell 3 rfl 0;have t1:=H3.out.cell 3 rfl 1;have t2:=H3.out.cell 3 rfl 2;have t5:=(H3.out.cell 0 rfl 5).trans HF5.out;have x1:=H3.out.cell 1 rfl 1;dsimp only at t0 t1 t2 t5 x1;clear k3))
         go_ret;exact⟨rfl,H3.out.bel⟩
        | true=>
         rw [qj0 hlt HP.out HM.out (by rw [HXK.out];exact hf) (by rw [HXK.out];exact hwx) hsf,HXK.out]at hst;rw [hsf]at CS;have CI:=Lib.hid (fun W (kk:Bel w0 W) (h:MaskD A n W (.slice sp x.subs.length sc) x.subs)=>IH hn0 A (.slice q1 s.msgs.length c1) (.slice q2 s.enums.length c2) (.slice q3 s.svcs.length c3) s f.tn _ x.subs W (HS.out W kk) h);generalize chk (envOf s) n f.tn x.subs=RC at CI hst;clear hf hwx HVS hsf hn0;by_cases h0:RC=0
         ·rw [if_pos h0]at hst
          subst h0;have HST:=Lib.hid hst;clear hst
          go_wp2_with (first
           | (go_at_call 28;(with_reducible refine(CX.out _ _ _).mono ?_);rintro e w2 ⟨rfl,k2⟩;have k2:Bel _ w2:=k2;have K2:=Lib.hid k2;have H2:=Lib.hid (HD.out.belw k2);have HBf:=Lib.hid (H2.out.box 0 rfl);clear x0 x1;clear k2)
           | (refine qa5 rfl 65 _ rfl fb vs.toArray 65 rfl HBf.out _ Tryz.underlying65 rfl Z1.out ?_)
           | (go_at_call 29;(with_reducible refine(CS.out _).mono ?_);rintro e w3 ⟨rfl,k3⟩;have k3:Bel _ w3:=k3;have K3:=Lib.hid (Bel.of K2.out k3);have H3:=Lib.hid (H2.out.belw k3);have t0:=H3.out.cell 3 rfl 0;have t1:=H3.out.cell 3 rfl 1;have t2:=H3.out.cell 3 rfl 2;have t5:=(H3.out.cell 0 rfl 5).trans HF5.out;have x1:=H3.out.cell 1 rfl 1;dsimp only at t0 t1 t2 t5 x1;clear k3)
           | (go_at_call 9;(with_reducible refine(CI.out _ H3.out.bel (DX.out.bel H3.out.bel)).mono ?_);rintro e w4 ⟨rfl,k4⟩;have k4:Bel _ w4:=k4;have K4:=Lib.hid (Bel.of K3.out k4);have H4:=Lib.hid (H3.out.belw k4);clear k4))
          go_roundw
          case rel=>exact⟨k+1,by omega,by go_num,Lib.hid H4.out.dropbox0.dropbox0,Lib.hid (Bel.of HBz.out K4.out),HST⟩
          case measure=>simp [intOf];omega
         ·rw [if_neg h0]at hst
          subst hst;have hb0:(RC != 0)=true:=bne_t h0;clear h0
          go_wp2_with (first
           | (go_at_call 28;(with_reducible refine(CX.out _ _ _).mono ?_);rintro e w2 ⟨rfl,k2⟩;have k2:Bel _ w2:=k2;have K2:=Lib.hid k2;have H2:=Lib.hid (HD.out.belw k2);have HBf:=Lib.hid (H2.out.box 0 rfl);clear x0 x1;clear k2)
           | (refine qa5 rfl 65 _ rfl fb vs.toArray 65 rfl HBf.out _ Tryz.underlying65 rfl Z1.out ?_)
           | (go_at_call 29;(with_reducible refine(CS.out _).mono ?_);rintro e w3 ⟨rfl,k3⟩;have k3:Bel _ w3:=k3;have K3:=Lib.hid (Bel.of K2.out k3);have H3:=Lib.hid (H2.out.belw k3);have t0:=H3.out.cell 3 rfl 0;have t1:=H3.out.cell 3 rfl 1;have t2:=H3.out.cell 3 rfl 2;have t5:=(H3.out.cell 0 rfl 5).trans HF5.out;have x1:=H3.out.cell 1 rfl 1;dsimp only at t0 t1 t2 t5 x1;clear k3)
           | (go_at_call 9;(with_reducible refine(CI.out _ H3.out.bel (DX.out.bel H3.out.bel)).mono ?_);rintro e w4 ⟨rfl,k4⟩;have k4:Bel _ w4:=k4;have K4:=Lib.hid (Bel.of K3.out k4);have H4:=Lib.hid (H3.out.belw k4);clear k4))
          go_ret;exact⟨rfl,H4.out.bel⟩
   ·have hkl:k=l.length:=by omega
    have hz:0=R:=by have:=hx.out;rw [hkl,List.drop_length]at this;exact this
    subst hz;clear hx EL;go_wp2;go_ret;exact⟨rfl,hS.out.bel⟩
theorem qhk : ∀n:Nat,CheckC (n+1)
 | 0=>qdz 0 (fun h=>absurd rfl h)
 | n+1=>qdz (n+1) (fun _=>qhk n)
end
end Go.Proofs.YtaaneecceiefoaaGreatDoor
