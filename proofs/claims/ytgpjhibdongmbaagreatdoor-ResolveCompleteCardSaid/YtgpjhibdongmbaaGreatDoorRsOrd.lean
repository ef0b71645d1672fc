import Derived.Test.YtgpjhibdongmbaaGreatDoorStillL
import Derived.Deep.RegionHeld3
set_option maxRecDepth 100000
set_option maxHeartbeats 4000000
set_option linter.unusedVariables false
set_option linter.unusedSimpArgs false
namespace Go.Proofs.YtgpjhibdongmbaaGreatDoor
open Go.RowKit Ck Rs
theorem qh8 {α:Type} {lt:α->α->Bool} {l:List α} (h:qe2 lt l 1=true) (j:Nat) (x y:α) (hx:l[j]? = some x) (hy:l[j+1]? = some y):lt x y=true:=by
 unfold qe2 at h;rw [List.all_eq_true]at h;have hj:=(List.getElem?_eq_some_iff.1 hy).1;have:=h (j+1) (List.mem_range'_1.2 ⟨by omega,by omega⟩);rw [show j+1-1=j from rfl,hx,hy]at this;exact this
def LtOp {α:Type} (V:World->List Value->α->Prop) (w:World) (xs:List α) (g:Nat):Prop := ∀(j:Nat) (x y:α) (vx vy:List Value) (W:World),xs[j]? = some x->xs[j+1]? = some y->V w vx x->V w vy y->Bel w W->Calls Tryz.prog g #[.agg vx.toArray,.agg vy.toArray] W fun e w'=>e=.returned (.bool true)/\Bel W w'
theorem ri_Op {α:Type} (V:World->List Value->α->Prop) (hV : ∀W vs x,V W vs x->vs.length=8) (g:Nat) (eg : ∀args w,(callFunc g args).run Tryz.prog w=.ok (.enter g args) w) (q:Option Addr) (c:Nat) (xs:List α) (w:World)
  (hv:Sv 8 V w (.slice q xs.length c) xs) (hp:LtOp V w xs g) :
  Calls Tryz.prog 127 #[.slice q xs.length c,.func (.func g) #[] #[]] w fun e w'=>e=.returned (.bool true)/\Bel w w':=by
 obtain⟨q',c',he,hl,hcap,hel⟩:=hv;cases he;have EL:=Lib.hid hel;have HP:=Lib.hid hp;have HV:=Lib.hid hV;clear hel hp hV
 go_enter Tryz.func127,Tryz.ntmps127
 go_wp2
 go_loopw [5] (fun i wr => ∃j:Nat,i=.int .i64 ((j:Int)+1)/\(j<=xs.length)/\Bel w wr) (fun i _=>xs.length+1-(intOf i).toNat)
 case atStart=>exact⟨0,rfl,Nat.zero_le _,Bel.refl _⟩
 case round=>as_aux_lemma=>
  obtain⟨j,rfl,hjl,kw⟩:=hrel;by_cases hlt:j+1<xs.length
  ·have hx:xs[j]? = some xs[j]:=List.getElem?_eq_getElem (by omega)
   have hy:xs[j+1]? = some xs[j+1]:=List.getElem?_eq_getElem hlt;obtain⟨b,off,rfl,hbs,vx,hce,hvx⟩:=EL.out j _ hx;obtain⟨b',off',he,hbs',vy,hcf,hvy⟩:=EL.out (j+1) _ hy;cases he;have hji:(j:Int)+1<(xs.length:Int):=by omega
   obtain⟨wd,hwd⟩ : ∃wd,wd=wr.drew:=⟨_,rfl⟩;have kd:Bel w wd:=by rw [hwd];exact kw.drew
   have HCX:=Lib.hid (fun i v hi=>kd.some (hce i v hi));have HCY:=Lib.hid (fun i v hi=>kd.some (hcf i v hi));have HLX:=Lib.hid (HV.out _ _ _ hvx);have HLY:=Lib.hid (HV.out _ _ _ hvy);have C:=Lib.hid (HP.out j _ _ vx vy wd hx hy hvx hvy kd);have j0:(0:Int)<=(j:Int):=by omega
   have j1:(j:Int)<(xs.length:Int):=by omega
   have jw:IntKind.i64.wrap ((j:Int)+1-1)=(j:Int):=by rw [show(j:Int)+1-1=(j:Int)by omega];exact wrap_small _ (by omega) (by omega)
   have jw2:IntKind.i64.wrap (j:Int)=(j:Int):=wrap_small _ (by omega) (by omega);have jw3:(j:Int)+1-1=(j:Int):=by omega
   have jw4:IntKind.i64.wrap ((j:Int)+1)=(j:Int)+1:=wrap_small _ (by omega) (by omega);have jt:((j:Int)+1).toNat=j+1:=by omega
   have j2:(0:Int)<=(j:Int)+1:=by omega
   have HWD:=Lib.hid hwd;clear hx hy hce hcf hvx hvy hwd
   go_upto_region 4 with(fail)
   refine qa8 10 (by kernel_rfl) (by kernel_rfl) HWD.out ?_
   (simp only [List.take_succ_cons,List.take_zero,List.drop_succ_cons,List.drop_zero])
   repeat (first
    | (refine qat rfl 54 _ rfl b (off+j*8) 8 vx rfl HCX.out qj4 qff HLX.out ?_;simp only [Act.put,List.setIfInBounds_toArray,List.set_cons_zero,List.set_cons_succ])
    | (refine qat rfl 54 _ rfl b (off+(j+1)*8) 8 vy rfl HCY.out qj4 qff HLY.out ?_;simp only [Act.put,List.setIfInBounds_toArray,List.set_cons_zero,List.set_cons_succ])
    | ((with_reducible refine wpStill_step (fun K hK=>?_));go_simp;(with_reducible refine hK _ ?_);clear hK K))
   with_reducible refine wpStill_nil ?_
   go_wp2_with (go_at_fn g;(with_reducible refine C.out.mono ?_);rintro e w1 ⟨rfl,k1⟩;have k1:Bel _ w1:=Bel.of kd k1)
   go_roundw
   case rel=>exact⟨j+1,by go_num,by omega,k1⟩
   case measure=>simp [intOf];omega
  ·have hji : ¬(j:Int)+1<(xs.length:Int):=by omega
   go_wp2;go_ret
   exact⟨rfl,kw⟩
def LtProg {α:Type} (V:World->List Value->α->Prop) (w:World) (xs:List α) (g:Nat):Prop := ∀(j:Nat) (x y:α) (vx vy:List Value) (W:World),xs[j]? = some x->xs[j+1]? = some y->V w vx x->V w vy y->Bel w W->Calls Tryz.prog g #[.agg vx.toArray,.agg vy.toArray] W fun e w'=>e=.returned (.bool true)/\Bel W w'
theorem ri_Prog {α:Type} (V:World->List Value->α->Prop) (hV : ∀W vs x,V W vs x->vs.length=3) (g:Nat) (eg : ∀args w,(callFunc g args).run Tryz.prog w=.ok (.enter g args) w) (q:Option Addr) (c:Nat) (xs:List α) (w:World)
  (hv:Sv 3 V w (.slice q xs.length c) xs) (hp:LtProg V w xs g) :
  Calls Tryz.prog 122 #[.slice q xs.length c,.func (.func g) #[] #[]] w fun e w'=>e=.returned (.bool true)/\Bel w w':=by
 obtain⟨q',c',he,hl,hcap,hel⟩:=hv;cases he;have EL:=Lib.hid hel;have HP:=Lib.hid hp;have HV:=Lib.hid hV;clear hel hp hV
 go_enter Tryz.func122,Tryz.ntmps122
 go_wp2
 go_loopw [5] (fun i wr => ∃j:Nat,i=.int .i64 ((j:Int)+1)/\(j<=xs.length)/\Bel w wr) (fun i _=>xs.length+1-(intOf i).toNat)
 case atStart=>exact⟨0,rfl,Nat.zero_le _,Bel.refl _⟩
 case round=>as_aux_lemma=>
  obtain⟨j,rfl,hjl,kw⟩:=hrel;by_cases hlt:j+1<xs.length
  ·have hx:xs[j]? = some xs[j]:=List.getElem?_eq_getElem (by omega)
   have hy:xs[j+1]? = some xs[j+1]:=List.getElem?_eq_getElem hlt;obtain⟨b,off,rfl,hbs,vx,hce,hvx⟩:=EL.out j _ hx;obtain⟨b',off',he,hbs',vy,hcf,hvy⟩:=EL.out (j+1) _ hy;cases he;have hji:(j:Int)+1<(xs.length:Int):=by omega
   obtain⟨wd,hwd⟩ : ∃wd,wd=wr.drew:=⟨_,rfl⟩;have kd:Bel w wd:=by rw [hwd];exact kw.drew
   have HCX:=Lib.hid (fun i v hi=>kd.some (hce i v hi));have HCY:=Lib.hid (fun i v hi=>kd.some (hcf i v hi));have HLX:=Lib.hid (HV.out _ _ _ hvx);have HLY:=Lib.hid (HV.out _ _ _ hvy);have C:=Lib.hid (HP.out j _ _ vx vy wd hx hy hvx hvy kd);have j0:(0:Int)<=(j:Int):=by omega
   have j1:(j:Int)<(xs.length:Int):=by omega
   have jw:IntKind.i64.wrap ((j:Int)+1-1)=(j:Int):=by rw [show(j:Int)+1-1=(j:Int)by omega];exact wrap_small _ (by omega) (by omega)
   have jw2:IntKind.i64.wrap (j:Int)=(j:Int):=wrap_small _ (by omega) (by omega);have jw3:(j:Int)+1-1=(j:Int):=by omega
   have jw4:IntKind.i64.wrap ((j:Int)+1)=(j:Int)+1:=wrap_small _ (by omega) (by omega);have jt:((j:Int)+1).toNat=j+1:=by omega
   have j2:(0:Int)<=(j:Int)+1:=by omega
   have HWD:=Lib.hid hwd;clear hx hy hce hcf hvx hvy hwd
   go_upto_region 4 with(fail)
   refine qa8 10 (by kernel_rfl) (by kernel_rfl) HWD.out ?_
   (simp only [List.take_succ_cons,List.take_zero,List.drop_succ_cons,List.drop_zero])
   repeat (first
    | (refine qat rfl 52 _ rfl b (off+j*3) 3 vx rfl HCX.out qgu qei HLX.out ?_;simp only [Act.put,List.setIfInBounds_toArray,List.set_cons_zero,List.set_cons_succ])
    | (refine qat rfl 52 _ rfl b (off+(j+1)*3) 3 vy rfl HCY.out qgu qei HLY.out ?_;simp only [Act.put,List.setIfInBounds_toArray,List.set_cons_zero,List.set_cons_succ])
    | ((with_reducible refine wpStill_step (fun K hK=>?_));go_simp;(with_reducible refine hK _ ?_);clear hK K))
   with_reducible refine wpStill_nil ?_
   go_wp2_with (go_at_fn g;(with_reducible refine C.out.mono ?_);rintro e w1 ⟨rfl,k1⟩;have k1:Bel _ w1:=Bel.of kd k1)
   go_roundw
   case rel=>exact⟨j+1,by go_num,by omega,k1⟩
   case measure=>simp [intOf];omega
  ·have hji : ¬(j:Int)+1<(xs.length:Int):=by omega
   go_wp2;go_ret
   exact⟨rfl,kw⟩
def LtEnum {α:Type} (V:World->List Value->α->Prop) (w:World) (xs:List α) (g:Nat):Prop := ∀(j:Nat) (x y:α) (vx vy:List Value) (W:World),xs[j]? = some x->xs[j+1]? = some y->V w vx x->V w vy y->Bel w W->Calls Tryz.prog g #[.agg vx.toArray,.agg vy.toArray] W fun e w'=>e=.returned (.bool true)/\Bel W w'
theorem ri_Enum {α:Type} (V:World->List Value->α->Prop) (hV : ∀W vs x,V W vs x->vs.length=5) (g:Nat) (eg : ∀args w,(callFunc g args).run Tryz.prog w=.ok (.enter g args) w) (q:Option Addr) (c:Nat) (xs:List α) (w:World)
  (hv:Sv 5 V w (.slice q xs.length c) xs) (hp:LtEnum V w xs g) :
  Calls Tryz.prog 124 #[.slice q xs.length c,.func (.func g) #[] #[]] w fun e w'=>e=.returned (.bool true)/\Bel w w':=by
 obtain⟨q',c',he,hl,hcap,hel⟩:=hv;cases he;have EL:=Lib.hid hel;have HP:=Lib.hid hp;have HV:=Lib.hid hV;clear hel hp hV
 go_enter Tryz.func124,Tryz.ntmps124
 go_wp2
 go_loopw [5] (fun i wr => ∃j:Nat,i=.int .i64 ((j:Int)+1)/\(j<=xs.length)/\Bel w wr) (fun i _=>xs.length+1-(intOf i).toNat)
 case atStart=>exact⟨0,rfl,Nat.zero_le _,Bel.refl _⟩
 case round=>as_aux_lemma=>
  obtain⟨j,rfl,hjl,kw⟩:=hrel;by_cases hlt:j+1<xs.length
  ·have hx:xs[j]? = some xs[j]:=List.getElem?_eq_getElem (by omega)
   have hy:xs[j+1]? = some xs[j+1]:=List.getElem?_eq_getElem hlt;obtain⟨b,off,rfl,hbs,vx,hce,hvx⟩:=EL.out j _ hx;obtain⟨b',off',he,hbs',vy,hcf,hvy⟩:=EL.out (j+1) _ hy;cases he;have hji:(j:Int)+1<(xs.length:Int):=by omega
   obtain⟨wd,hwd⟩ : ∃wd,wd=wr.drew:=⟨_,rfl⟩;have kd:Bel w wd:=by rw [hwd];exact kw.drew
   have HCX:=Lib.hid (fun i v hi=>kd.some (hce i v hi));have HCY:=Lib.hid (fun i v hi=>kd.some (hcf i v hi));have HLX:=Lib.hid (HV.out _ _ _ hvx);have HLY:=Lib.hid (HV.out _ _ _ hvy);have C:=Lib.hid (HP.out j _ _ vx vy wd hx hy hvx hvy kd);have j0:(0:Int)<=(j:Int):=by omega
   have j1:(j:Int)<(xs.length:Int):=by omega
   have jw:IntKind.i64.wrap ((j:Int)+1-1)=(j:Int):=by rw [show(j:Int)+1-1=(j:Int)by omega];exact wrap_small _ (by omega) (by omega)
   have jw2:IntKind.i64.wrap (j:Int)=(j:Int):=wrap_small _ (by omega) (by omega);have jw3:(j:Int)+1-1=(j:Int):=by omega
   have jw4:IntKind.i64.wrap ((j:Int)+1)=(j:Int)+1:=wrap_small _ (by omega) (by omega);have jt:((j:Int)+1).toNat=j+1:=by omega
   have j2:(0:Int)<=(j:Int)+1:=by omega
   have HWD:=Lib.hid hwd;clear hx hy hce hcf hvx hvy hwd
   go_upto_region 4 with(fail)
   refine qa8 10 (by kernel_rfl) (by kernel_rfl) HWD.out ?_
   (simp only [List.take_succ_cons,List.take_zero,List.drop_succ_cons,List.drop_zero])
   repeat (first
    | (refine qat rfl 84 _ rfl b (off+j*5) 5 vx rfl HCX.out qgv qej HLX.out ?_;simp only [Act.put,List.setIfInBounds_toArray,List.set_cons_zero,List.set_cons_succ])
    | (refine qat rfl 84 _ rfl b (off+(j+1)*5) 5 vy rfl HCY.out qgv qej HLY.out ?_;simp only [Act.put,List.setIfInBounds_toArray,List.set_cons_zero,List.set_cons_succ])
    | ((with_reducible refine wpStill_step (fun K hK=>?_));go_simp;(with_reducible refine hK _ ?_);clear hK K))
   with_reducible refine wpStill_nil ?_
   go_wp2_with (go_at_fn g;(with_reducible refine C.out.mono ?_);rintro e w1 ⟨rfl,k1⟩;have k1:Bel _ w1:=Bel.of kd k1)
   go_roundw
   case rel=>exact⟨j+1,by go_num,by omega,k1⟩
   case measure=>simp [intOf];omega
  ·have hji : ¬(j:Int)+1<(xs.length:Int):=by omega
   go_wp2;go_ret
   exact⟨rfl,kw⟩
def LtItem {α:Type} (V:World->List Value->α->Prop) (w:World) (xs:List α) (g:Nat):Prop := ∀(j:Nat) (x y:α) (vx vy:List Value) (W:World),xs[j]? = some x->xs[j+1]? = some y->V w vx x->V w vy y->Bel w W->Calls Tryz.prog g #[.agg vx.toArray,.agg vy.toArray] W fun e w'=>e=.returned (.bool true)/\Bel W w'
theorem ri_Item {α:Type} (V:World->List Value->α->Prop) (hV : ∀W vs x,V W vs x->vs.length=3) (g:Nat) (eg : ∀args w,(callFunc g args).run Tryz.prog w=.ok (.enter g args) w) (q:Option Addr) (c:Nat) (xs:List α) (w:World)
  (hv:Sv 3 V w (.slice q xs.length c) xs) (hp:LtItem V w xs g) :
  Calls Tryz.prog 130 #[.slice q xs.length c,.func (.func g) #[] #[]] w fun e w'=>e=.returned (.bool true)/\Bel w w':=by
 obtain⟨q',c',he,hl,hcap,hel⟩:=hv;cases he;have EL:=Lib.hid hel;have HP:=Lib.hid hp;have HV:=Lib.hid hV;clear hel hp hV
 go_enter Tryz.func130,Tryz.ntmps130
 go_wp2
 go_loopw [5] (fun i wr => ∃j:Nat,i=.int .i64 ((j:Int)+1)/\(j<=xs.length)/\Bel w wr) (fun i _=>xs.length+1-(intOf i).toNat)
 case atStart=>exact⟨0,rfl,Nat.zero_le _,Bel.refl _⟩
 case round=>as_aux_lemma=>
  obtain⟨j,rfl,hjl,kw⟩:=hrel;by_cases hlt:j+1<xs.length
  ·have hx:xs[j]? = some xs[j]:=List.getElem?_eq_getElem (by omega)
   have hy:xs[j+1]? = some xs[j+1]:=List.getElem?_eq_getElem hlt;obtain⟨b,off,rfl,hbs,vx,hce,hvx⟩:=EL.out j _ hx;obtain⟨b',off',he,hbs',vy,hcf,hvy⟩:=EL.out (j+1) _ hy;cases he;have hji:(j:Int)+1<(xs.length:Int):=by omega
   obtain⟨wd,hwd⟩ : ∃wd,wd=wr.drew:=⟨_,rfl⟩;have kd:Bel w wd:=by rw [hwd];exact kw.drew
   have HCX:=Lib.hid (fun i v hi=>kd.some (hce i v hi));have HCY:=Lib.hid (fun i v hi=>kd.some (hcf i v hi));have HLX:=Lib.hid (HV.out _ _ _ hvx);have HLY:=Lib.hid (HV.out _ _ _ hvy);have C:=Lib.hid (HP.out j _ _ vx vy wd hx hy hvx hvy kd);have j0:(0:Int)<=(j:Int):=by omega
   have j1:(j:Int)<(xs.length:Int):=by omega
   have jw:IntKind.i64.wrap ((j:Int)+1-1)=(j:Int):=by rw [show(j:Int)+1-1=(j:Int)by omega];exact wrap_small _ (by omega) (by omega)
   have jw2:IntKind.i64.wrap (j:Int)=(j:Int):=wrap_small _ (by omega) (by omega);have jw3:(j:Int)+1-1=(j:Int):=by omega
   have jw4:IntKind.i64.wrap ((j:Int)+1)=(j:Int)+1:=wrap_small _ (by omega) (by omega);have jt:((j:Int)+1).toNat=j+1:=by omega
   have j2:(0:Int)<=(j:Int)+1:=by omega
   have HWD:=Lib.hid hwd;clear hx hy hce hcf hvx hvy hwd
   go_upto_region 4 with(fail)
   refine qa8 10 (by kernel_rfl) (by kernel_rfl) HWD.out ?_
   (simp only [List.take_succ_cons,List.take_zero,List.drop_succ_cons,List.drop_zero])
   repeat (first
    | (refine qat rfl 86 _ rfl b (off+j*3) 3 vx rfl HCX.out qfb qd5 HLX.out ?_;simp only [Act.put,List.setIfInBounds_toArray,List.set_cons_zero,List.set_cons_succ])
    | (refine qat rfl 86 _ rfl b (off+(j+1)*3) 3 vy rfl HCY.out qfb qd5 HLY.out ?_;simp only [Act.put,List.setIfInBounds_toArray,List.set_cons_zero,List.set_cons_succ])
    | ((with_reducible refine wpStill_step (fun K hK=>?_));go_simp;(with_reducible refine hK _ ?_);clear hK K))
   with_reducible refine wpStill_nil ?_
   go_wp2_with (go_at_fn g;(with_reducible refine C.out.mono ?_);rintro e w1 ⟨rfl,k1⟩;have k1:Bel _ w1:=Bel.of kd k1)
   go_roundw
   case rel=>exact⟨j+1,by go_num,by omega,k1⟩
   case measure=>simp [intOf];omega
  ·have hji : ¬(j:Int)+1<(xs.length:Int):=by omega
   go_wp2;go_ret
   exact⟨rfl,kw⟩
theorem lt_Op (x y:POp) (vx vy:List Value) (W:World) (hx:VOp W vx x) (hy:VOp W vy y) (h:decide (x.num<y.num)=true) :
  Calls Tryz.prog 128 #[.agg vx.toArray,.agg vy.toArray] W fun e' w'=>e'=.returned (.bool true)/\Bel W w':=by
 obtain rfl:vx=[.int .i64 x.num,.string (S x.name),.string (S x.ali),.int .i64 x.card,.int .i64 x.key,.int .i64 x.kind,.int .i64 x.tgt,.int .i64 x.un]:=hx;obtain rfl:vy=[.int .i64 y.num,.string (S y.name),.string (S y.ali),.int .i64 y.card,.int .i64 y.key,.int .i64 y.kind,.int .i64 y.tgt,.int .i64 y.un]:=hy;have hlt:x.num<y.num:=of_decide_eq_true h;have hlt2:decide (x.num<y.num)=true:=h;clear h
 (try clear hx hy)
 go_enter Tryz.func128,Tryz.ntmps128
 go_wp2;go_ret
 exact⟨rfl,((Bel.refl _).alloc _).alloc _⟩
theorem lt_Item (x y:PItem) (vx vy:List Value) (W:World) (hx:VItem W vx x) (hy:VItem W vy y) (h:decide (x.num<y.num)=true) :
  Calls Tryz.prog 131 #[.agg vx.toArray,.agg vy.toArray] W fun e' w'=>e'=.returned (.bool true)/\Bel W w':=by
 obtain⟨xq,xc,rfl,_,_⟩:=hx.form;obtain⟨yq,yc,rfl,_,_⟩:=hy.form;have hlt:x.num<y.num:=of_decide_eq_true h;have hlt2:decide (x.num<y.num)=true:=h;clear h
 (try clear hx hy)
 go_enter Tryz.func131,Tryz.ntmps131
 go_wp2;go_ret
 exact⟨rfl,((Bel.refl _).alloc _).alloc _⟩
theorem lt_Prog (x y:PProg) (vx vy:List Value) (W:World) (hx:VProg W vx x) (hy:VProg W vy y) (h:ltS x.name y.name=true) :
  Calls Tryz.prog 123 #[.agg vx.toArray,.agg vy.toArray] W fun e' w'=>e'=.returned (.bool true)/\Bel W w':=by
 obtain⟨xq,xc,rfl,_,_⟩:=hx.form;obtain⟨yq,yc,rfl,_,_⟩:=hy.form;have hlt:Op.bytesLess (S x.name).toList (S y.name).toList=true:=by rw [qc1,ByteArray.toList_eq,ByteArray.toList_eq,qc2,qc2];exact h
 clear h
 (try clear hx hy)
 go_enter Tryz.func123,Tryz.ntmps123
 go_wp2;go_ret
 exact⟨rfl,((Bel.refl _).alloc _).alloc _⟩
theorem lt_Enum (x y:PEnum) (vx vy:List Value) (W:World) (hx:VEnum W vx x) (hy:VEnum W vy y) (h:ltS x.name y.name=true) :
  Calls Tryz.prog 125 #[.agg vx.toArray,.agg vy.toArray] W fun e' w'=>e'=.returned (.bool true)/\Bel W w':=by
 obtain⟨x1,x2,x3,xc1,xc2,xc3,rfl,_⟩:=hx.form;obtain⟨y1,y2,y3,yc1,yc2,yc3,rfl,_⟩:=hy.form;have hlt:Op.bytesLess (S x.name).toList (S y.name).toList=true:=by rw [qc1,ByteArray.toList_eq,ByteArray.toList_eq,qc2,qc2];exact h
 clear h
 (try clear hx hy)
 go_enter Tryz.func125,Tryz.ntmps125
 go_wp2;go_ret
 exact⟨rfl,((Bel.refl _).alloc _).alloc _⟩
theorem cl_ordG (g:PProg) (vs:List Value) (W:World) (hv:VProg W vs g) (h:ordG g=true) :
  Calls Tryz.prog 126 #[.agg vs.toArray] W fun e' w'=>e'=.returned (.bool false)/\Bel W w':=by
 obtain⟨q,c,rfl,h1,l1⟩:=hv.form;have hS0:=(Bel.refl W).alloc (.cells #[.string (S g.name),.slice q g.ops.length c,.int .i64 g.uns] 52);have C:=Lib.hid (fun W' (k0:Bel (W.alloc (.cells #[.string (S g.name),.slice q g.ops.length c,.int .i64 g.uns] 52)) W')=>(fun(k:Bel W W')=>ri_Op VOp VOp.len 128 (enters_of Tryz.func128 (by kernel_rfl) rfl) q c g.ops W' (h1.bel VOp.stays k) (fun j x y vx vy W2 hx hy hvx hvy hb=>lt_Op x y vx vy W2 (VOp.stays _ _ _ _ hb hvx) (VOp.stays _ _ _ _ hb hvy) (qh8 h j x y hx hy))) (Bel.of hS0 k0));clear h hv h1
 go_enter Tryz.func126,Tryz.ntmps126
 go_wp2_with (go_at_call 127;(with_reducible refine(C.out _ (Bel.refl _)).mono ?_);rintro e' w1 ⟨rfl,k1⟩;have k1:Bel _ w1:=k1;have t1_0:=qaa k1 0 _ rfl;have t1_1:=qaa k1 1 _ rfl)
 go_ret;exact⟨rfl,Bel.of hS0 k1⟩
theorem cl_ordE (g:PEnum) (vs:List Value) (W:World) (hv:VEnum W vs g) (h:ordE g=true) :
  Calls Tryz.prog 129 #[.agg vs.toArray] W fun e' w'=>e'=.returned (.bool false)/\Bel W w':=by
 obtain⟨q1,q2,q3,c1,c2,c3,rfl,h1,_,_,l1,l2,l3⟩:=hv.form;have hS0:=(Bel.refl W).alloc (.cells #[.string (S g.name),.bool g.op,.slice q1 g.items.length c1,.slice q2 g.res.length c2,.slice q3 g.notes.length c3] 84);have C:=Lib.hid (fun W' (k0:Bel (W.alloc (.cells #[.string (S g.name),.bool g.op,.slice q1 g.items.length c1,.slice q2 g.res.length c2,.slice q3 g.notes.length c3] 84)) W')=>(fun(k:Bel W W')=>ri_Item VItem VItem.len 131 (enters_of Tryz.func131 (by kernel_rfl) rfl) q1 c1 g.items W' (h1.bel VItem.stays k) (fun j x y vx vy W2 hx hy hvx hvy hb=>lt_Item x y vx vy W2 (VItem.stays _ _ _ _ hb hvx) (VItem.stays _ _ _ _ hb hvy) (qh8 h j x y hx hy))) (Bel.of hS0 k0));clear h hv h1
 go_enter Tryz.func129,Tryz.ntmps129
 go_wp2_with (go_at_call 130;(with_reducible refine(C.out _ (Bel.refl _)).mono ?_);rintro e' w1 ⟨rfl,k1⟩;have k1:Bel _ w1:=k1;have t1_0:=qaa k1 0 _ rfl;have t1_1:=qaa k1 1 _ rfl)
 go_ret;exact⟨rfl,Bel.of hS0 k1⟩
theorem qgd (p:PPlan) (vs:List Value) (w:World) (hv:VPlan w vs p) (h:qcc p=true) :
  Calls Tryz.prog 85 #[.agg vs.toArray] w fun e' w'=>e'=.returned (.bool false)/\Bel w w':=by
 obtain⟨q1,q2,c1,c2,rfl,h1,h2,l1,l2⟩:=hv.form;unfold qcc at h;simp only [Bool.and_eq_true,List.all_eq_true]at h;obtain⟨⟨g1,g2⟩,g3,g4⟩:=h;have hS0:=(Bel.refl w).alloc (.cells #[.slice q1 p.progs.length c1,.slice q2 p.enums.length c2] 25);have C1:=Lib.hid (fun W (k0:Bel (w.alloc (.cells #[.slice q1 p.progs.length c1,.slice q2 p.enums.length c2] 25)) W)=>(fun(k:Bel w W)=>(ri_Prog VProg VProg.len 123 (enters_of Tryz.func123 (by kernel_rfl) rfl) q1 c1 p.progs W (h1.bel VProg.stays k) (fun j x y vx vy W2 hx hy hvx hvy hb=>lt_Prog x y vx vy W2 (VProg.stays _ _ _ _ hb hvx) (VProg.stays _ _ _ _ hb hvy) (qh8 g1 j x y hx hy)))) (Bel.of hS0 k0));have C2:=Lib.hid (fun W (k0:Bel (w.alloc (.cells #[.slice q1 p.progs.length c1,.slice q2 p.enums.length c2] 25)) W)=>(fun(k:Bel w W)=>(ri_Enum VEnum VEnum.len 125 (enters_of Tryz.func125 (by kernel_rfl) rfl) q2 c2 p.enums W (h2.bel VEnum.stays k) (fun j x y vx vy W2 hx hy hvx hvy hb=>lt_Enum x y vx vy W2 (VEnum.stays _ _ _ _ hb hvx) (VEnum.stays _ _ _ _ hb hvy) (qh8 g3 j x y hx hy)))) (Bel.of hS0 k0));have C3:=Lib.hid (fun W (k0:Bel (w.alloc (.cells #[.slice q1 p.progs.length c1,.slice q2 p.enums.length c2] 25)) W)=>(fun(k:Bel w W)=>(qbz (qe9 VProg VProg.len 126 #[] (enters_of Tryz.func126 (by kernel_rfl) rfl) (.slice q1 p.progs.length c1) p.progs (fun _=>false) W (h1.bel VProg.stays k) (fun x vs' W2 hx hv' hb=>cl_ordG x vs' W2 (VProg.stays _ _ _ _ hb hv') (g2 x hx))))) (Bel.of hS0 k0));have C4:=Lib.hid (fun W (k0:Bel (w.alloc (.cells #[.slice q1 p.progs.length c1,.slice q2 p.enums.length c2] 25)) W)=>(fun(k:Bel w W)=>(qbz (qde VEnum VEnum.len 129 #[] (enters_of Tryz.func129 (by kernel_rfl) rfl) (.slice q2 p.enums.length c2) p.enums (fun _=>false) W (h2.bel VEnum.stays k) (fun x vs' W2 hx hv' hb=>cl_ordE x vs' W2 (VEnum.stays _ _ _ _ hb hv') (g4 x hx))))) (Bel.of hS0 k0));clear hv h1 h2 g1 g2 g3 g4
 go_enter Tryz.func85,Tryz.ntmps85
 go_wp2_with (first
  | (go_at_call 122;(with_reducible refine(C1.out _ (Bel.refl _)).mono ?_);rintro e' w1 ⟨rfl,k1⟩;have k1:Bel _ w1:=k1;have t1_0:=qaa k1 0 _ rfl;have t1_1:=qaa k1 1 _ rfl)
  | (go_at_call 124;(with_reducible refine(C2.out _ k1).mono ?_);rintro e' w2 ⟨rfl,k2⟩;have k2:Bel _ w2:=Bel.of k1 k2;have t2_0:=qaa k2 0 _ rfl;have t2_1:=qaa k2 1 _ rfl)
  | (go_at_call 110;(with_reducible refine(C3.out _ k2).mono ?_);rintro e' w3 ⟨rfl,k3⟩;have k3:Bel _ w3:=Bel.of k2 k3;have t3_0:=qaa k3 0 _ rfl;have t3_1:=qaa k3 1 _ rfl)
  | (go_at_call 112;(with_reducible refine(C4.out _ k3).mono ?_);rintro e' w4 ⟨rfl,k4⟩;have k4:Bel _ w4:=Bel.of k3 k4;have t4_0:=qaa k4 0 _ rfl;have t4_1:=qaa k4 1 _ rfl))
 go_ret;exact⟨rfl,Bel.of hS0 k4⟩
end Go.Proofs.YtgpjhibdongmbaaGreatDoor
