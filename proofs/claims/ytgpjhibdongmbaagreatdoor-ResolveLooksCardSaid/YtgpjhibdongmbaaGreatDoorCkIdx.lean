import Derived.Test.YtgpjhibdongmbaaGreatDoorCkMem
import Derived.Shelf.SlicesQ.Load
set_option maxRecDepth 100000
set_option maxHeartbeats 4000000
set_option linter.unusedVariables false
set_option linter.unusedSimpArgs false
namespace Go.Proofs.YtgpjhibdongmbaaGreatDoor
open Go.RowKit Ck
def idxL {α:Type} (p:α->Bool) (xs:List α):Int:=match xs.findIdx? p with|some i=>(i:Int)|none => -1
theorem qbk {α:Type} (p:α->Bool) (xs:List α) (k:Nat) (x:α) (hx:xs[k]? = some x) (hp:p x=true) (hn : ∀j y,j<k->xs[j]? = some y->p y=false):idxL p xs=(k:Int):=by
 unfold idxL
 have:xs.findIdx? p=some k:=by
  rw [List.findIdx?_eq_some_iff_getElem];obtain⟨h,rfl⟩:=List.getElem?_eq_some_iff.1 hx;refine⟨h,hp,fun j hj=>?_⟩;have:=hn j _ hj (List.getElem?_eq_getElem (by omega))
  simpa using this
 rw [this]
theorem qb2 {α:Type} (p:α->Bool) (xs:List α) (hn : ∀j y,j<xs.length->xs[j]? = some y->p y=false):idxL p xs = -1:=by
 unfold idxL
 have:xs.findIdx? p=none:=by
  rw [List.findIdx?_eq_none_iff];intro x hx;obtain⟨j,hj,rfl⟩:=List.mem_iff_getElem.1 hx;exact hn j _ hj (List.getElem?_eq_getElem hj)
 rw [this]
theorem qbl {α:Type} (p:α->Bool) (xs:List α):decide (0<=idxL p xs)=xs.any p:=by
 unfold idxL;cases h:xs.findIdx? p with
 | none=>
  rw [List.findIdx?_eq_none_iff]at h;have:xs.any p=false:=by rw [List.any_eq_false];intro x hx;simpa using h x hx
  rw [this];rfl
 | some i=>
  rw [List.findIdx?_eq_some_iff_getElem]at h;obtain⟨hi,hp,_⟩:=h;have:xs.any p=true:=List.any_eq_true.2 ⟨_,List.getElem_mem hi,hp⟩;rw [this];exact decide_eq_true (Int.natCast_nonneg i)
theorem qje {α:Type} (p:α->Bool) (xs:List α):(idxL p xs<0/\xs.find? p=none) ∨ ∃(k:Nat) (x:α),idxL p xs=(k:Int)/\xs[k]? = some x/\xs.find? p=some x/\k<xs.length:=by
 unfold idxL;cases h:xs.findIdx? p with
 | none=>
  refine .inl ⟨by show(-1:Int)<0;omega,?_⟩;rw [List.findIdx?_eq_none_iff]at h;rw [List.find?_eq_none];intro x hx;simpa using h x hx
 | some i=>
  rw [List.findIdx?_eq_some_iff_getElem]at h;obtain⟨hi,hp,hn⟩:=h;refine .inr ⟨i,xs[i],rfl,List.getElem?_eq_getElem hi,?_,hi⟩;rw [List.find?_eq_some_iff_getElem];exact⟨hp,i,hi,rfl,fun j hj=>by simpa using hn j hj⟩
def qan (α:Type) (V:World->List Value->α->Prop) (w:World) (xs:List α) (p:α->Bool) (g:Nat) (lb:Array Value):Prop:=
 ∀(x:α) (vs:List Value) (W:World),x ∈ xs->V w vs x->Bel w W->Calls Tryz.prog g (#[.agg vs.toArray] ++ lb) W fun e w'=>e=.returned (.bool (p x))/\Below W.heap.size W w'
theorem agg_Span (w:World):(isAgg 116).run Tryz.prog w=.ok true w:=by kernel_rfl
theorem qit (w:World):(Go.sizeOf 116).run Tryz.prog w=.ok 2 w:=by kernel_rfl
theorem ix_Span {α:Type} (V:World->List Value->α->Prop) (hV : ∀W vs x,V W vs x->vs.length=2) (g:Nat) (lb:Array Value) (eg : ∀args w,(callFunc g args).run Tryz.prog w=.ok (.enter g args) w) (v:Value) (xs:List α) (p:α->Bool) (w:World)
  (hv:Sv 2 V w v xs) (hp:qan α V w xs p g lb) :
  Calls Tryz.prog 214 #[v,.func (.func g) #[] lb] w fun e w'=>e=.returned (.int .i64 (idxL p xs))/\Below w.heap.size w w':=by
 obtain⟨q,c,rfl,hl,hcap,hel⟩:=hv;have EL:=Lib.hid hel;have HP:=Lib.hid hp;have HV:=Lib.hid hV;have aE:=agg_Span;obtain⟨K,hK⟩ : ∃K,K=2:=⟨_,rfl⟩;have zE : ∀w,(Go.sizeOf 116).run Tryz.prog w=.ok K w:=hK ▸ qit;have HK:=Lib.hid hK;clear hel hp hV hK
 go_enter Tryz.func214,Tryz.ntmps214
 go_wp2
 go_loopw [5,8] (fun _ i wr => ∃k:Nat,k<=xs.length/\i=.int .i64 k/\Bel w wr/\Hid (∀j y,j<k->xs[j]? = some y->p y=false)) (fun _ i _=>xs.length-(intOf i).toNat)
 case atStart=>exact⟨0,by omega,rfl,Bel.refl _,Lib.hid fun j y hj=>absurd hj (Nat.not_lt_zero _)⟩
 case round=>
  obtain⟨k,hk,rfl,kw,A⟩:=hrel;by_cases hlt:k<xs.length
  ·have hg:xs[k]? = some xs[k]:=List.getElem?_eq_getElem hlt
   obtain⟨b,off,rfl,hbs,vs,hce,hvs⟩:=EL.out k _ hg;have hki:(k:Int)<(xs.length:Int):=by omega
   have l2:Sem.run Tryz.prog (loadCellsFrom ⟨b,off+k*K,none⟩ 0 K #[]) wr=.ok vs.toArray wr:=run_loadCellsFrom_list Tryz.prog _ _ vs K ((HV.out _ _ _ hvs).trans HK.out.symm) (fun i v hi=>by
    rw [HK.out,Addr.add_lit]
    exact kw.some (hce i v hi))
   have HG:=Lib.hid hg;have hcall:=HP.out _ _ wr (List.getElem_mem hlt) hvs kw;clear hce hvs hg;generalize xs[k]=y at *;cases hq:p y with
   | true=>
    rw [hq]at hcall;have HC:=Lib.hid hcall;have HQ:=Lib.hid hq;clear hcall hq
    go_wp2_with (go_at_fn g;(with_reducible refine HC.out.mono ?_);rintro e w' ⟨rfl,hb'⟩)
    go_ret;exact⟨qac (qbk p xs k y HG.out HQ.out A.out).symm,Bel.of kw hb'⟩
   | false=>
    rw [hq]at hcall;have HC:=Lib.hid hcall;have HQ:=Lib.hid hq;clear hcall hq
    go_wp2_with (go_at_fn g;(with_reducible refine HC.out.mono ?_);rintro e w' ⟨rfl,hb'⟩;have k2:=Bel.of kw hb';clear hb')
    refine⟨⟨k+1,by omega,rfl,k2,Lib.hid fun j z hj hz=>?_⟩,by simp [intOf];omega⟩;by_cases e:j=k
    ·subst e
     have:=HG.out;rw [hz]at this;cases this;exact HQ.out
    ·exact A.out j z (by omega) hz
  ·have hki : ¬(k:Int)<(xs.length:Int):=by omega
   have hkl:k=xs.length:=by omega
   subst hkl;go_wp2;go_ret;exact⟨qac (qb2 p xs A.out).symm,kw.out⟩
theorem cf_Span {α:Type} (V:World->List Value->α->Prop) (hV : ∀W vs x,V W vs x->vs.length=2) (g:Nat) (lb:Array Value) (eg : ∀args w,(callFunc g args).run Tryz.prog w=.ok (.enter g args) w) (v:Value) (xs:List α) (p:α->Bool) (w:World)
  (hv:Sv 2 V w v xs) (hp:qan α V w xs p g lb) :
  Calls Tryz.prog 202 #[v,.func (.func g) #[] lb] w fun e w'=>e=.returned (.bool (xs.any p))/\Below w.heap.size w w':=by
 have ci:=Lib.hid (fun W (h:Sv 2 V W v xs) (h2:qan α V W xs p g lb)=>ix_Span V hV g lb eg v xs p W h h2);have HV:=Lib.hid hv;have HP:=Lib.hid hp;have ha:=Lib.hid (qbl p xs);clear hv hp hV;generalize idxL p xs=R at ci ha
 go_enter Tryz.func202,Tryz.ntmps202
 go_wp2_with (go_at_call 214;(with_reducible refine(ci.out _ HV.out HP.out).mono ?_);rintro e w1 ⟨rfl,h1⟩)
 go_ret;exact⟨qa3 ha.out,h1⟩
theorem qdp (w:World):(isAgg 86).run Tryz.prog w=.ok true w:=by kernel_rfl
theorem qc7 (w:World):(Go.sizeOf 86).run Tryz.prog w=.ok 3 w:=by kernel_rfl
theorem ix_Item {α:Type} (V:World->List Value->α->Prop) (hV : ∀W vs x,V W vs x->vs.length=3) (g:Nat) (lb:Array Value) (eg : ∀args w,(callFunc g args).run Tryz.prog w=.ok (.enter g args) w) (v:Value) (xs:List α) (p:α->Bool) (w:World)
  (hv:Sv 3 V w v xs) (hp:qan α V w xs p g lb) :
  Calls Tryz.prog 201 #[v,.func (.func g) #[] lb] w fun e w'=>e=.returned (.int .i64 (idxL p xs))/\Below w.heap.size w w':=by
 obtain⟨q,c,rfl,hl,hcap,hel⟩:=hv;have EL:=Lib.hid hel;have HP:=Lib.hid hp;have HV:=Lib.hid hV;have aE:=qdp;obtain⟨K,hK⟩ : ∃K,K=3:=⟨_,rfl⟩;have zE : ∀w,(Go.sizeOf 86).run Tryz.prog w=.ok K w:=hK ▸ qc7;have HK:=Lib.hid hK;clear hel hp hV hK
 go_enter Tryz.func201,Tryz.ntmps201
 go_wp2
 go_loopw [5,8] (fun _ i wr => ∃k:Nat,k<=xs.length/\i=.int .i64 k/\Bel w wr/\Hid (∀j y,j<k->xs[j]? = some y->p y=false)) (fun _ i _=>xs.length-(intOf i).toNat)
 case atStart=>exact⟨0,by omega,rfl,Bel.refl _,Lib.hid fun j y hj=>absurd hj (Nat.not_lt_zero _)⟩
 case round=>
  obtain⟨k,hk,rfl,kw,A⟩:=hrel;by_cases hlt:k<xs.length
  ·have hg:xs[k]? = some xs[k]:=List.getElem?_eq_getElem hlt
   obtain⟨b,off,rfl,hbs,vs,hce,hvs⟩:=EL.out k _ hg;have hki:(k:Int)<(xs.length:Int):=by omega
   have l2:Sem.run Tryz.prog (loadCellsFrom ⟨b,off+k*K,none⟩ 0 K #[]) wr=.ok vs.toArray wr:=run_loadCellsFrom_list Tryz.prog _ _ vs K ((HV.out _ _ _ hvs).trans HK.out.symm) (fun i v hi=>by
    rw [HK.out,Addr.add_lit]
    exact kw.some (hce i v hi))
   have HG:=Lib.hid hg;have hcall:=HP.out _ _ wr (List.getElem_mem hlt) hvs kw;clear hce hvs hg;generalize xs[k]=y at *;cases hq:p y with
   | true=>
    rw [hq]at hcall;have HC:=Lib.hid hcall;have HQ:=Lib.hid hq;clear hcall hq
    go_wp2_with (go_at_fn g;(with_reducible refine HC.out.mono ?_);rintro e w' ⟨rfl,hb'⟩)
    go_ret;exact⟨qac (qbk p xs k y HG.out HQ.out A.out).symm,Bel.of kw hb'⟩
   | false=>
    rw [hq]at hcall;have HC:=Lib.hid hcall;have HQ:=Lib.hid hq;clear hcall hq
    go_wp2_with (go_at_fn g;(with_reducible refine HC.out.mono ?_);rintro e w' ⟨rfl,hb'⟩;have k2:=Bel.of kw hb';clear hb')
    refine⟨⟨k+1,by omega,rfl,k2,Lib.hid fun j z hj hz=>?_⟩,by simp [intOf];omega⟩;by_cases e:j=k
    ·subst e
     have:=HG.out;rw [hz]at this;cases this;exact HQ.out
    ·exact A.out j z (by omega) hz
  ·have hki : ¬(k:Int)<(xs.length:Int):=by omega
   have hkl:k=xs.length:=by omega
   subst hkl;go_wp2;go_ret;exact⟨qac (qb2 p xs A.out).symm,kw.out⟩
theorem qie {α:Type} (V:World->List Value->α->Prop) (hV : ∀W vs x,V W vs x->vs.length=3) (g:Nat) (lb:Array Value) (eg : ∀args w,(callFunc g args).run Tryz.prog w=.ok (.enter g args) w) (v:Value) (xs:List α) (p:α->Bool) (w:World)
  (hv:Sv 3 V w v xs) (hp:qan α V w xs p g lb) :
  Calls Tryz.prog 177 #[v,.func (.func g) #[] lb] w fun e w'=>e=.returned (.bool (xs.any p))/\Below w.heap.size w w':=by
 have ci:=Lib.hid (fun W (h:Sv 3 V W v xs) (h2:qan α V W xs p g lb)=>ix_Item V hV g lb eg v xs p W h h2);have HV:=Lib.hid hv;have HP:=Lib.hid hp;have ha:=Lib.hid (qbl p xs);clear hv hp hV;generalize idxL p xs=R at ci ha
 go_enter Tryz.func177,Tryz.ntmps177
 go_wp2_with (go_at_call 201;(with_reducible refine(ci.out _ HV.out HP.out).mono ?_);rintro e w1 ⟨rfl,h1⟩)
 go_ret;exact⟨qa3 ha.out,h1⟩
theorem qf1 (w:World):(isAgg 84).run Tryz.prog w=.ok true w:=by kernel_rfl
theorem qdd (w:World):(Go.sizeOf 84).run Tryz.prog w=.ok 5 w:=by kernel_rfl
theorem ix_Enum {α:Type} (V:World->List Value->α->Prop) (hV : ∀W vs x,V W vs x->vs.length=5) (g:Nat) (lb:Array Value) (eg : ∀args w,(callFunc g args).run Tryz.prog w=.ok (.enter g args) w) (v:Value) (xs:List α) (p:α->Bool) (w:World)
  (hv:Sv 5 V w v xs) (hp:qan α V w xs p g lb) :
  Calls Tryz.prog 197 #[v,.func (.func g) #[] lb] w fun e w'=>e=.returned (.int .i64 (idxL p xs))/\Below w.heap.size w w':=by
 obtain⟨q,c,rfl,hl,hcap,hel⟩:=hv;have EL:=Lib.hid hel;have HP:=Lib.hid hp;have HV:=Lib.hid hV;have aE:=qf1;obtain⟨K,hK⟩ : ∃K,K=5:=⟨_,rfl⟩;have zE : ∀w,(Go.sizeOf 84).run Tryz.prog w=.ok K w:=hK ▸ qdd;have HK:=Lib.hid hK;clear hel hp hV hK
 go_enter Tryz.func197,Tryz.ntmps197
 go_wp2
 go_loopw [5,8] (fun _ i wr => ∃k:Nat,k<=xs.length/\i=.int .i64 k/\Bel w wr/\Hid (∀j y,j<k->xs[j]? = some y->p y=false)) (fun _ i _=>xs.length-(intOf i).toNat)
 case atStart=>exact⟨0,by omega,rfl,Bel.refl _,Lib.hid fun j y hj=>absurd hj (Nat.not_lt_zero _)⟩
 case round=>
  obtain⟨k,hk,rfl,kw,A⟩:=hrel;by_cases hlt:k<xs.length
  ·have hg:xs[k]? = some xs[k]:=List.getElem?_eq_getElem hlt
   obtain⟨b,off,rfl,hbs,vs,hce,hvs⟩:=EL.out k _ hg;have hki:(k:Int)<(xs.length:Int):=by omega
   have l2:Sem.run Tryz.prog (loadCellsFrom ⟨b,off+k*K,none⟩ 0 K #[]) wr=.ok vs.toArray wr:=run_loadCellsFrom_list Tryz.prog _ _ vs K ((HV.out _ _ _ hvs).trans HK.out.symm) (fun i v hi=>by
    rw [HK.out,Addr.add_lit]
    exact kw.some (hce i v hi))
   have HG:=Lib.hid hg;have hcall:=HP.out _ _ wr (List.getElem_mem hlt) hvs kw;clear hce hvs hg;generalize xs[k]=y at *;cases hq:p y with
   | true=>
    rw [hq]at hcall;have HC:=Lib.hid hcall;have HQ:=Lib.hid hq;clear hcall hq
    go_wp2_with (go_at_fn g;(with_reducible refine HC.out.mono ?_);rintro e w' ⟨rfl,hb'⟩)
    go_ret;exact⟨qac (qbk p xs k y HG.out HQ.out A.out).symm,Bel.of kw hb'⟩
   | false=>
    rw [hq]at hcall;have HC:=Lib.hid hcall;have HQ:=Lib.hid hq;clear hcall hq
    go_wp2_with (go_at_fn g;(with_reducible refine HC.out.mono ?_);rintro e w' ⟨rfl,hb'⟩;have k2:=Bel.of kw hb';clear hb')
    refine⟨⟨k+1,by omega,rfl,k2,Lib.hid fun j z hj hz=>?_⟩,by simp [intOf];omega⟩;by_cases e:j=k
    ·subst e
     have:=HG.out;rw [hz]at this;cases this;exact HQ.out
    ·exact A.out j z (by omega) hz
  ·have hki : ¬(k:Int)<(xs.length:Int):=by omega
   have hkl:k=xs.length:=by omega
   subst hkl;go_wp2;go_ret;exact⟨qac (qb2 p xs A.out).symm,kw.out⟩
theorem cf_Enum {α:Type} (V:World->List Value->α->Prop) (hV : ∀W vs x,V W vs x->vs.length=5) (g:Nat) (lb:Array Value) (eg : ∀args w,(callFunc g args).run Tryz.prog w=.ok (.enter g args) w) (v:Value) (xs:List α) (p:α->Bool) (w:World)
  (hv:Sv 5 V w v xs) (hp:qan α V w xs p g lb) :
  Calls Tryz.prog 170 #[v,.func (.func g) #[] lb] w fun e w'=>e=.returned (.bool (xs.any p))/\Below w.heap.size w w':=by
 have ci:=Lib.hid (fun W (h:Sv 5 V W v xs) (h2:qan α V W xs p g lb)=>ix_Enum V hV g lb eg v xs p W h h2);have HV:=Lib.hid hv;have HP:=Lib.hid hp;have ha:=Lib.hid (qbl p xs);clear hv hp hV;generalize idxL p xs=R at ci ha
 go_enter Tryz.func170,Tryz.ntmps170
 go_wp2_with (go_at_call 197;(with_reducible refine(ci.out _ HV.out HP.out).mono ?_);rintro e w1 ⟨rfl,h1⟩)
 go_ret;exact⟨qa3 ha.out,h1⟩
end Go.Proofs.YtgpjhibdongmbaaGreatDoor
