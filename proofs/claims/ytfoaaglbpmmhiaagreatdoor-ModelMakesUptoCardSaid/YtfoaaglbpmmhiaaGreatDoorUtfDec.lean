import Derived.Test.YtfoaaglbpmmhiaaGreatDoorKitA
import Derived.Shelf.SlicesQ.Load
import Derived.Laws.RangeAny
set_option maxRecDepth 100000
set_option maxHeartbeats 4000000
set_option linter.unusedVariables false
set_option linter.unusedSimpArgs false
namespace Go.Proofs.YtfoaaglbpmmhiaaGreatDoor
section
open Go.RowKit Ck
def idxL {α:Type} (p:α->Bool) (xs:List α):Int:=match xs.findIdx? p with|some i=>(i:Int)|none => -1
theorem qeg {α:Type} (p:α->Bool) (xs:List α) (k:Nat) (x:α) (hx:xs[k]? = some x) (hp:p x=true) (hn : ∀j y,j<k->xs[j]? = some y->p y=false):idxL p xs=(k:Int):=by
 unfold idxL
 have:xs.findIdx? p=some k:=by
  rw [List.findIdx?_eq_some_iff_getElem];obtain⟨h,rfl⟩:=List.getElem?_eq_some_iff.1 hx;refine⟨h,hp,fun j hj=>?_⟩;have:=hn j _ hj (List.getElem?_eq_getElem (by omega))
  simpa using this
 rw [this]
theorem qdg {α:Type} (p:α->Bool) (xs:List α) (hn : ∀j y,j<xs.length->xs[j]? = some y->p y=false):idxL p xs = -1:=by
 unfold idxL
 have:xs.findIdx? p=none:=by
  rw [List.findIdx?_eq_none_iff];intro x hx;obtain⟨j,hj,rfl⟩:=List.mem_iff_getElem.1 hx;exact hn j _ hj (List.getElem?_eq_getElem hj)
 rw [this]
theorem qhj {α:Type} (p:α->Bool) (xs:List α):decide (0<=idxL p xs)=xs.any p:=by
 unfold idxL;cases h:xs.findIdx? p with
 | none=>
  rw [List.findIdx?_eq_none_iff]at h;have:xs.any p=false:=by rw [List.any_eq_false];intro x hx;simpa using h x hx
  rw [this];rfl
 | some i=>
  rw [List.findIdx?_eq_some_iff_getElem]at h;obtain⟨hi,hp,_⟩:=h;have:xs.any p=true:=List.any_eq_true.2 ⟨_,List.getElem_mem hi,hp⟩;rw [this];exact decide_eq_true (Int.natCast_nonneg i)
theorem qlb {α:Type} (p:α->Bool) (xs:List α):(idxL p xs<0/\xs.find? p=none) ∨ ∃(k:Nat) (x:α),idxL p xs=(k:Int)/\xs[k]? = some x/\xs.find? p=some x/\k<xs.length:=by
 unfold idxL;cases h:xs.findIdx? p with
 | none=>
  refine .inl ⟨by show(-1:Int)<0;omega,?_⟩;rw [List.findIdx?_eq_none_iff]at h;rw [List.find?_eq_none];intro x hx;simpa using h x hx
 | some i=>
  rw [List.findIdx?_eq_some_iff_getElem]at h;obtain⟨hi,hp,hn⟩:=h;refine .inr ⟨i,xs[i],rfl,List.getElem?_eq_getElem hi,?_,hi⟩;rw [List.find?_eq_some_iff_getElem];exact⟨hp,i,hi,rfl,fun j hj=>by simpa using hn j hj⟩
def qfz (α:Type) (V:World->List Value->α->Prop) (w:World) (xs:List α) (p:α->Bool) (g:Nat) (lb:Array Value):Prop:=
 ∀(x:α) (vs:List Value) (W:World),x ∈ xs->V w vs x->Bel w W->Calls Tryz.prog g (#[.agg vs.toArray] ++ lb) W fun e w'=>e=.returned (.bool (p x))/\Below W.heap.size W w'
theorem agg_Span (w:World):(isAgg 194).run Tryz.prog w=.ok true w:=by kernel_rfl
theorem qpo (w:World):(Go.sizeOf 194).run Tryz.prog w=.ok 2 w:=by kernel_rfl
theorem ix_Span {α:Type} (V:World->List Value->α->Prop) (hV : ∀W vs x,V W vs x->vs.length=2) (g:Nat) (lb:Array Value) (eg : ∀args w,(callFunc g args).run Tryz.prog w=.ok (.enter g args) w) (v:Value) (xs:List α) (p:α->Bool) (w:World)
  (hv:Sv 2 V w v xs) (hp:qfz α V w xs p g lb) :
  Calls Tryz.prog 201 #[v,.func (.func g) #[] lb] w fun e w'=>e=.returned (.int .i64 (idxL p xs))/\Below w.heap.size w w':=by
 obtain⟨q,c,rfl,hl,hcap,hel⟩:=hv;have EL:=h_ hel;have HP:=h_ hp;have HV:=h_ hV;have aE:=agg_Span;obtain⟨K,hK⟩ : ∃K,K=2:=⟨_,rfl⟩;have zE : ∀w,(Go.sizeOf 194).run Tryz.prog w=.ok K w:=hK ▸ qpo;have HK:=h_ hK;clear hel hp hV hK
 go_enter Tryz.func201,Tryz.ntmps201
 go_wp2
 go_loopw [5,8] (fun _ i wr => ∃k:Nat,k<=xs.length/\i=.int .i64 k/\Bel w wr/\Hid (∀j y,j<k->xs[j]? = some y->p y=false)) (fun _ i _=>xs.length-(intOf i).toNat)
 case atStart=>exact⟨0,by omega,rfl,Bel.refl _,h_ fun j y hj=>absurd hj (Nat.not_lt_zero _)⟩
 case round=>
  obtain⟨k,hk,rfl,kw,A⟩:=hrel;by_cases hlt:k<xs.length
  ·have hg:xs[k]? = some xs[k]:=List.getElem?_eq_getElem hlt
   obtain⟨b,off,rfl,hbs,vs,hce,hvs⟩:=EL.out k _ hg;have hki:(k:Int)<(xs.length:Int):=by omega
   have l2:Sem.run Tryz.prog (loadCellsFrom ⟨b,off+k*K,none⟩ 0 K #[]) wr=.ok vs.toArray wr:=run_loadCellsFrom_list Tryz.prog _ _ vs K ((HV.out _ _ _ hvs).trans HK.out.symm) (fun i v hi=>by
    rw [HK.out,Addr.add_lit]
    exact kw.some (hce i v hi))
   have HG:=h_ hg;have hcall:=HP.out _ _ wr (List.getElem_mem hlt) hvs kw;clear hce hvs hg;generalize xs[k]=y at *;cases hq:p y with
   | true=>
    rw [hq]at hcall;have HC:=h_ hcall;have HQ:=h_ hq;clear hcall hq
    go_wp2_with (go_at_fn g;(with_reducible refine HC.out.mono ?_);rintro e w' ⟨rfl,hb'⟩)
    go_ret;exact⟨qar (qeg p xs k y HG.out HQ.out A.out).symm,Bel.of kw hb'⟩
   | false=>
    rw [hq]at hcall;have HC:=h_ hcall;have HQ:=h_ hq;clear hcall hq
    go_wp2_with (go_at_fn g;(with_reducible refine HC.out.mono ?_);rintro e w' ⟨rfl,hb'⟩;have k2:=Bel.of kw hb';clear hb')
    refine⟨⟨k+1,by omega,rfl,k2,h_ fun j z hj hz=>?_⟩,by simp [intOf];omega⟩;by_cases e:j=k
    ·subst e
     have:=HG.out;rw [hz]at this;cases this;exact HQ.out
    ·exact A.out j z (by omega) hz
  ·have hki : ¬(k:Int)<(xs.length:Int):=by omega
   have hkl:k=xs.length:=by omega
   subst hkl;go_wp2;go_ret;exact⟨qar (qdg p xs A.out).symm,kw.out⟩
theorem cf_Span {α:Type} (V:World->List Value->α->Prop) (hV : ∀W vs x,V W vs x->vs.length=2) (g:Nat) (lb:Array Value) (eg : ∀args w,(callFunc g args).run Tryz.prog w=.ok (.enter g args) w) (v:Value) (xs:List α) (p:α->Bool) (w:World)
  (hv:Sv 2 V w v xs) (hp:qfz α V w xs p g lb) :
  Calls Tryz.prog 167 #[v,.func (.func g) #[] lb] w fun e w'=>e=.returned (.bool (xs.any p))/\Below w.heap.size w w':=by
 have ci:=h_ (fun W (h:Sv 2 V W v xs) (h2:qfz α V W xs p g lb)=>ix_Span V hV g lb eg v xs p W h h2);have HV:=h_ hv;have HP:=h_ hp;have ha:=h_ (qhj p xs);clear hv hp hV;generalize idxL p xs=R at ci ha
 go_enter Tryz.func167,Tryz.ntmps167
 go_wp2_with (go_at_call 201;(with_reducible refine(ci.out _ HV.out HP.out).mono ?_);rintro e w1 ⟨rfl,h1⟩)
 go_ret;exact⟨qa3 ha.out,h1⟩
theorem agg_Item (w:World):(isAgg 76).run Tryz.prog w=.ok true w:=by kernel_rfl
theorem qpp (w:World):(Go.sizeOf 76).run Tryz.prog w=.ok 3 w:=by kernel_rfl
theorem ix_Item {α:Type} (V:World->List Value->α->Prop) (hV : ∀W vs x,V W vs x->vs.length=3) (g:Nat) (lb:Array Value) (eg : ∀args w,(callFunc g args).run Tryz.prog w=.ok (.enter g args) w) (v:Value) (xs:List α) (p:α->Bool) (w:World)
  (hv:Sv 3 V w v xs) (hp:qfz α V w xs p g lb) :
  Calls Tryz.prog 200 #[v,.func (.func g) #[] lb] w fun e w'=>e=.returned (.int .i64 (idxL p xs))/\Below w.heap.size w w':=by
 obtain⟨q,c,rfl,hl,hcap,hel⟩:=hv;have EL:=h_ hel;have HP:=h_ hp;have HV:=h_ hV;have aE:=agg_Item;obtain⟨K,hK⟩ : ∃K,K=3:=⟨_,rfl⟩;have zE : ∀w,(Go.sizeOf 76).run Tryz.prog w=.ok K w:=hK ▸ qpp;have HK:=h_ hK;clear hel hp hV hK
 go_enter Tryz.func200,Tryz.ntmps200
 go_wp2
 go_loopw [5,8] (fun _ i wr => ∃k:Nat,k<=xs.length/\i=.int .i64 k/\Bel w wr/\Hid (∀j y,j<k->xs[j]? = some y->p y=false)) (fun _ i _=>xs.length-(intOf i).toNat)
 case atStart=>exact⟨0,by omega,rfl,Bel.refl _,h_ fun j y hj=>absurd hj (Nat.not_lt_zero _)⟩
 case round=>
  obtain⟨k,hk,rfl,kw,A⟩:=hrel;by_cases hlt:k<xs.length
  ·have hg:xs[k]? = some xs[k]:=List.getElem?_eq_getElem hlt
   obtain⟨b,off,rfl,hbs,vs,hce,hvs⟩:=EL.out k _ hg;have hki:(k:Int)<(xs.length:Int):=by omega
   have l2:Sem.run Tryz.prog (loadCellsFrom ⟨b,off+k*K,none⟩ 0 K #[]) wr=.ok vs.toArray wr:=run_loadCellsFrom_list Tryz.prog _ _ vs K ((HV.out _ _ _ hvs).trans HK.out.symm) (fun i v hi=>by
    rw [HK.out,Addr.add_lit]
    exact kw.some (hce i v hi))
   have HG:=h_ hg;have hcall:=HP.out _ _ wr (List.getElem_mem hlt) hvs kw;clear hce hvs hg;generalize xs[k]=y at *;cases hq:p y with
   | true=>
    rw [hq]at hcall;have HC:=h_ hcall;have HQ:=h_ hq;clear hcall hq
    go_wp2_with (go_at_fn g;(with_reducible refine HC.out.mono ?_);rintro e w' ⟨rfl,hb'⟩)
    go_ret;exact⟨qar (qeg p xs k y HG.out HQ.out A.out).symm,Bel.of kw hb'⟩
   | false=>
    rw [hq]at hcall;have HC:=h_ hcall;have HQ:=h_ hq;clear hcall hq
    go_wp2_with (go_at_fn g;(with_reducible refine HC.out.mono ?_);rintro e w' ⟨rfl,hb'⟩;have k2:=Bel.of kw hb';clear hb')
    refine⟨⟨k+1,by omega,rfl,k2,h_ fun j z hj hz=>?_⟩,by simp [intOf];omega⟩;by_cases e:j=k
    ·subst e
     have:=HG.out;rw [hz]at this;cases this;exact HQ.out
    ·exact A.out j z (by omega) hz
  ·have hki : ¬(k:Int)<(xs.length:Int):=by omega
   have hkl:k=xs.length:=by omega
   subst hkl;go_wp2;go_ret;exact⟨qar (qdg p xs A.out).symm,kw.out⟩
theorem cf_Item {α:Type} (V:World->List Value->α->Prop) (hV : ∀W vs x,V W vs x->vs.length=3) (g:Nat) (lb:Array Value) (eg : ∀args w,(callFunc g args).run Tryz.prog w=.ok (.enter g args) w) (v:Value) (xs:List α) (p:α->Bool) (w:World)
  (hv:Sv 3 V w v xs) (hp:qfz α V w xs p g lb) :
  Calls Tryz.prog 165 #[v,.func (.func g) #[] lb] w fun e w'=>e=.returned (.bool (xs.any p))/\Below w.heap.size w w':=by
 have ci:=h_ (fun W (h:Sv 3 V W v xs) (h2:qfz α V W xs p g lb)=>ix_Item V hV g lb eg v xs p W h h2);have HV:=h_ hv;have HP:=h_ hp;have ha:=h_ (qhj p xs);clear hv hp hV;generalize idxL p xs=R at ci ha
 go_enter Tryz.func165,Tryz.ntmps165
 go_wp2_with (go_at_call 200;(with_reducible refine(ci.out _ HV.out HP.out).mono ?_);rintro e w1 ⟨rfl,h1⟩)
 go_ret;exact⟨qa3 ha.out,h1⟩
theorem agg_Msg (w:World):(isAgg 44).run Tryz.prog w=.ok true w:=by kernel_rfl
theorem size_Msg (w:World):(Go.sizeOf 44).run Tryz.prog w=.ok 5 w:=by kernel_rfl
theorem ix_Msg {α:Type} (V:World->List Value->α->Prop) (hV : ∀W vs x,V W vs x->vs.length=5) (g:Nat) (lb:Array Value) (eg : ∀args w,(callFunc g args).run Tryz.prog w=.ok (.enter g args) w) (v:Value) (xs:List α) (p:α->Bool) (w:World)
  (hv:Sv 5 V w v xs) (hp:qfz α V w xs p g lb) :
  Calls Tryz.prog 152 #[v,.func (.func g) #[] lb] w fun e w'=>e=.returned (.int .i64 (idxL p xs))/\Below w.heap.size w w':=by
 obtain⟨q,c,rfl,hl,hcap,hel⟩:=hv;have EL:=h_ hel;have HP:=h_ hp;have HV:=h_ hV;have aE:=agg_Msg;obtain⟨K,hK⟩ : ∃K,K=5:=⟨_,rfl⟩;have zE : ∀w,(Go.sizeOf 44).run Tryz.prog w=.ok K w:=hK ▸ size_Msg;have HK:=h_ hK;clear hel hp hV hK
 go_enter Tryz.func152,Tryz.ntmps152
 go_wp2
 go_loopw [5,8] (fun _ i wr => ∃k:Nat,k<=xs.length/\i=.int .i64 k/\Bel w wr/\Hid (∀j y,j<k->xs[j]? = some y->p y=false)) (fun _ i _=>xs.length-(intOf i).toNat)
 case atStart=>exact⟨0,by omega,rfl,Bel.refl _,h_ fun j y hj=>absurd hj (Nat.not_lt_zero _)⟩
 case round=>
  obtain⟨k,hk,rfl,kw,A⟩:=hrel;by_cases hlt:k<xs.length
  ·have hg:xs[k]? = some xs[k]:=List.getElem?_eq_getElem hlt
   obtain⟨b,off,rfl,hbs,vs,hce,hvs⟩:=EL.out k _ hg;have hki:(k:Int)<(xs.length:Int):=by omega
   have l2:Sem.run Tryz.prog (loadCellsFrom ⟨b,off+k*K,none⟩ 0 K #[]) wr=.ok vs.toArray wr:=run_loadCellsFrom_list Tryz.prog _ _ vs K ((HV.out _ _ _ hvs).trans HK.out.symm) (fun i v hi=>by
    rw [HK.out,Addr.add_lit]
    exact kw.some (hce i v hi))
   have HG:=h_ hg;have hcall:=HP.out _ _ wr (List.getElem_mem hlt) hvs kw;clear hce hvs hg;generalize xs[k]=y at *;cases hq:p y with
   | true=>
    rw [hq]at hcall;have HC:=h_ hcall;have HQ:=h_ hq;clear hcall hq
    go_wp2_with (go_at_fn g;(with_reducible refine HC.out.mono ?_);rintro e w' ⟨rfl,hb'⟩)
    go_ret;exact⟨qar (qeg p xs k y HG.out HQ.out A.out).symm,Bel.of kw hb'⟩
   | false=>
    rw [hq]at hcall;have HC:=h_ hcall;have HQ:=h_ hq;clear hcall hq
    go_wp2_with (go_at_fn g;(with_reducible refine HC.out.mono ?_);rintro e w' ⟨rfl,hb'⟩;have k2:=Bel.of kw hb';clear hb')
    refine⟨⟨k+1,by omega,rfl,k2,h_ fun j z hj hz=>?_⟩,by simp [intOf];omega⟩;by_cases e:j=k
    ·subst e
     have:=HG.out;rw [hz]at this;cases this;exact HQ.out
    ·exact A.out j z (by omega) hz
  ·have hki : ¬(k:Int)<(xs.length:Int):=by omega
   have hkl:k=xs.length:=by omega
   subst hkl;go_wp2;go_ret;exact⟨qar (qdg p xs A.out).symm,kw.out⟩
theorem agg_Enum (w:World):(isAgg 74).run Tryz.prog w=.ok true w:=by kernel_rfl
theorem qpq (w:World):(Go.sizeOf 74).run Tryz.prog w=.ok 5 w:=by kernel_rfl
theorem ix_Enum {α:Type} (V:World->List Value->α->Prop) (hV : ∀W vs x,V W vs x->vs.length=5) (g:Nat) (lb:Array Value) (eg : ∀args w,(callFunc g args).run Tryz.prog w=.ok (.enter g args) w) (v:Value) (xs:List α) (p:α->Bool) (w:World)
  (hv:Sv 5 V w v xs) (hp:qfz α V w xs p g lb) :
  Calls Tryz.prog 214 #[v,.func (.func g) #[] lb] w fun e w'=>e=.returned (.int .i64 (idxL p xs))/\Below w.heap.size w w':=by
 obtain⟨q,c,rfl,hl,hcap,hel⟩:=hv;have EL:=h_ hel;have HP:=h_ hp;have HV:=h_ hV;have aE:=agg_Enum;obtain⟨K,hK⟩ : ∃K,K=5:=⟨_,rfl⟩;have zE : ∀w,(Go.sizeOf 74).run Tryz.prog w=.ok K w:=hK ▸ qpq;have HK:=h_ hK;clear hel hp hV hK
 go_enter Tryz.func214,Tryz.ntmps214
 go_wp2
 go_loopw [5,8] (fun _ i wr => ∃k:Nat,k<=xs.length/\i=.int .i64 k/\Bel w wr/\Hid (∀j y,j<k->xs[j]? = some y->p y=false)) (fun _ i _=>xs.length-(intOf i).toNat)
 case atStart=>exact⟨0,by omega,rfl,Bel.refl _,h_ fun j y hj=>absurd hj (Nat.not_lt_zero _)⟩
 case round=>
  obtain⟨k,hk,rfl,kw,A⟩:=hrel;by_cases hlt:k<xs.length
  ·have hg:xs[k]? = some xs[k]:=List.getElem?_eq_getElem hlt
   obtain⟨b,off,rfl,hbs,vs,hce,hvs⟩:=EL.out k _ hg;have hki:(k:Int)<(xs.length:Int):=by omega
   have l2:Sem.run Tryz.prog (loadCellsFrom ⟨b,off+k*K,none⟩ 0 K #[]) wr=.ok vs.toArray wr:=run_loadCellsFrom_list Tryz.prog _ _ vs K ((HV.out _ _ _ hvs).trans HK.out.symm) (fun i v hi=>by
    rw [HK.out,Addr.add_lit]
    exact kw.some (hce i v hi))
   have HG:=h_ hg;have hcall:=HP.out _ _ wr (List.getElem_mem hlt) hvs kw;clear hce hvs hg;generalize xs[k]=y at *;cases hq:p y with
   | true=>
    rw [hq]at hcall;have HC:=h_ hcall;have HQ:=h_ hq;clear hcall hq
    go_wp2_with (go_at_fn g;(with_reducible refine HC.out.mono ?_);rintro e w' ⟨rfl,hb'⟩)
    go_ret;exact⟨qar (qeg p xs k y HG.out HQ.out A.out).symm,Bel.of kw hb'⟩
   | false=>
    rw [hq]at hcall;have HC:=h_ hcall;have HQ:=h_ hq;clear hcall hq
    go_wp2_with (go_at_fn g;(with_reducible refine HC.out.mono ?_);rintro e w' ⟨rfl,hb'⟩;have k2:=Bel.of kw hb';clear hb')
    refine⟨⟨k+1,by omega,rfl,k2,h_ fun j z hj hz=>?_⟩,by simp [intOf];omega⟩;by_cases e:j=k
    ·subst e
     have:=HG.out;rw [hz]at this;cases this;exact HQ.out
    ·exact A.out j z (by omega) hz
  ·have hki : ¬(k:Int)<(xs.length:Int):=by omega
   have hkl:k=xs.length:=by omega
   subst hkl;go_wp2;go_ret;exact⟨qar (qdg p xs A.out).symm,kw.out⟩
theorem qas (w:World):(isAgg 63).run Tryz.prog w=.ok true w:=by kernel_rfl
theorem qal (w:World):(Go.sizeOf 63).run Tryz.prog w=.ok 16 w:=by kernel_rfl
theorem ix_Field {α:Type} (V:World->List Value->α->Prop) (hV : ∀W vs x,V W vs x->vs.length=16) (g:Nat) (lb:Array Value) (eg : ∀args w,(callFunc g args).run Tryz.prog w=.ok (.enter g args) w) (v:Value) (xs:List α) (p:α->Bool) (w:World)
  (hv:Sv 16 V w v xs) (hp:qfz α V w xs p g lb) :
  Calls Tryz.prog 213 #[v,.func (.func g) #[] lb] w fun e w'=>e=.returned (.int .i64 (idxL p xs))/\Below w.heap.size w w':=by
 obtain⟨q,c,rfl,hl,hcap,hel⟩:=hv;have EL:=h_ hel;have HP:=h_ hp;have HV:=h_ hV;have aE:=qas;obtain⟨K,hK⟩ : ∃K,K=16:=⟨_,rfl⟩;have zE : ∀w,(Go.sizeOf 63).run Tryz.prog w=.ok K w:=hK ▸ qal;have HK:=h_ hK;clear hel hp hV hK
 go_enter Tryz.func213,Tryz.ntmps213
 go_wp2
 go_loopw [5,8] (fun _ i wr => ∃k:Nat,k<=xs.length/\i=.int .i64 k/\Bel w wr/\Hid (∀j y,j<k->xs[j]? = some y->p y=false)) (fun _ i _=>xs.length-(intOf i).toNat)
 case atStart=>exact⟨0,by omega,rfl,Bel.refl _,h_ fun j y hj=>absurd hj (Nat.not_lt_zero _)⟩
 case round=>
  obtain⟨k,hk,rfl,kw,A⟩:=hrel;by_cases hlt:k<xs.length
  ·have hg:xs[k]? = some xs[k]:=List.getElem?_eq_getElem hlt
   obtain⟨b,off,rfl,hbs,vs,hce,hvs⟩:=EL.out k _ hg;have hki:(k:Int)<(xs.length:Int):=by omega
   have l2:Sem.run Tryz.prog (loadCellsFrom ⟨b,off+k*K,none⟩ 0 K #[]) wr=.ok vs.toArray wr:=run_loadCellsFrom_list Tryz.prog _ _ vs K ((HV.out _ _ _ hvs).trans HK.out.symm) (fun i v hi=>by
    rw [HK.out,Addr.add_lit]
    exact kw.some (hce i v hi))
   have HG:=h_ hg;have hcall:=HP.out _ _ wr (List.getElem_mem hlt) hvs kw;clear hce hvs hg;generalize xs[k]=y at *;cases hq:p y with
   | true=>
    rw [hq]at hcall;have HC:=h_ hcall;have HQ:=h_ hq;clear hcall hq
    go_wp2_with (go_at_fn g;(with_reducible refine HC.out.mono ?_);rintro e w' ⟨rfl,hb'⟩)
    go_ret;exact⟨qar (qeg p xs k y HG.out HQ.out A.out).symm,Bel.of kw hb'⟩
   | false=>
    rw [hq]at hcall;have HC:=h_ hcall;have HQ:=h_ hq;clear hcall hq
    go_wp2_with (go_at_fn g;(with_reducible refine HC.out.mono ?_);rintro e w' ⟨rfl,hb'⟩;have k2:=Bel.of kw hb';clear hb')
    refine⟨⟨k+1,by omega,rfl,k2,h_ fun j z hj hz=>?_⟩,by simp [intOf];omega⟩;by_cases e:j=k
    ·subst e
     have:=HG.out;rw [hz]at this;cases this;exact HQ.out
    ·exact A.out j z (by omega) hz
  ·have hki : ¬(k:Int)<(xs.length:Int):=by omega
   have hkl:k=xs.length:=by omega
   subst hkl;go_wp2;go_ret;exact⟨qar (qdg p xs A.out).symm,kw.out⟩
theorem qc5 {α:Type} (V:World->List Value->α->Prop) (hV : ∀W vs x,V W vs x->vs.length=16) (g:Nat) (lb:Array Value) (eg : ∀args w,(callFunc g args).run Tryz.prog w=.ok (.enter g args) w) (v:Value) (xs:List α) (p:α->Bool) (w:World)
  (hv:Sv 16 V w v xs) (hp:qfz α V w xs p g lb) :
  Calls Tryz.prog 189 #[v,.func (.func g) #[] lb] w fun e w'=>e=.returned (.bool (xs.any p))/\Below w.heap.size w w':=by
 have ci:=h_ (fun W (h:Sv 16 V W v xs) (h2:qfz α V W xs p g lb)=>ix_Field V hV g lb eg v xs p W h h2);have HV:=h_ hv;have HP:=h_ hp;have ha:=h_ (qhj p xs);clear hv hp hV;generalize idxL p xs=R at ci ha
 go_enter Tryz.func189,Tryz.ntmps189
 go_wp2_with (go_at_call 213;(with_reducible refine(ci.out _ HV.out HP.out).mono ?_);rintro e w1 ⟨rfl,h1⟩)
 go_ret;exact⟨qa3 ha.out,h1⟩
end
section
open Go.RowKit Ck
def PredS (w:World) (xs:List Str) (p:Str->Bool) (g:Nat) (lb:Array Value):Prop:=
 ∀(x:Str) (W:World),x ∈ xs->Bel w W->Calls Tryz.prog g (#[.string (S x)] ++ lb) W fun e w'=>e=.returned (.bool (p x))/\Below W.heap.size W w'
theorem ix_Str (g:Nat) (lb:Array Value) (eg : ∀args w,(callFunc g args).run Tryz.prog w=.ok (.enter g args) w) (v:Value) (xs:List Str) (p:Str->Bool) (w:World)
  (hv:Texts w v xs) (hp:PredS w xs p g lb) :
  Calls Tryz.prog 150 #[v,.func (.func g) #[] lb] w fun e w'=>e=.returned (.int .i64 (idxL p xs))/\Below w.heap.size w w':=by
 obtain⟨q,c,rfl,hl,hcap,hel⟩:=hv;have EL:=h_ hel;have HP:=h_ hp;clear hel hp
 go_enter Tryz.func150,Tryz.ntmps150
 go_wp2
 go_loopw [5,8] (fun _ i wr => ∃k:Nat,k<=xs.length/\i=.int .i64 k/\Bel w wr/\Hid (∀j y,j<k->xs[j]? = some y->p y=false)) (fun _ i _=>xs.length-(intOf i).toNat)
 case atStart=>exact⟨0,by omega,rfl,Bel.refl _,h_ fun j y hj=>absurd hj (Nat.not_lt_zero _)⟩
 case round=>
  obtain⟨k,hk,rfl,kw,A⟩:=hrel;by_cases hlt:k<xs.length
  ·have hg:xs[k]? = some xs[k]:=List.getElem?_eq_getElem hlt
   obtain⟨b,off,rfl,hbs,vs,hce,hvs⟩:=EL.out k _ hg;have hki:(k:Int)<(xs.length:Int):=by omega
   have hvs':vs=[.string (S xs[k])]:=hvs
   have e0:wr.cell? ⟨b,off+k,none⟩=some (.string (S xs[k])):=by
    have:=hce 0 (.string (S xs[k])) (by rw [hvs'];rfl);rw [Nat.mul_one,Nat.add_zero]at this;exact kw.some this
   have HG:=h_ hg;have hcall:=HP.out _ wr (List.getElem_mem hlt) kw;clear hce hvs hvs' hg;generalize xs[k]=y at *;cases hq:p y with
   | true=>
    rw [hq]at hcall;have HC:=h_ hcall;have HQ:=h_ hq;clear hcall hq
    go_wp2_with (go_at_fn g;(with_reducible refine HC.out.mono ?_);rintro e w' ⟨rfl,hb'⟩)
    go_ret;exact⟨qar (qeg p xs k y HG.out HQ.out A.out).symm,Bel.of kw hb'⟩
   | false=>
    rw [hq]at hcall;have HC:=h_ hcall;have HQ:=h_ hq;clear hcall hq
    go_wp2_with (go_at_fn g;(with_reducible refine HC.out.mono ?_);rintro e w' ⟨rfl,hb'⟩;have k2:=Bel.of kw hb';clear hb')
    refine⟨⟨k+1,by omega,rfl,k2,h_ fun j z hj hz=>?_⟩,by simp [intOf];omega⟩;by_cases e:j=k
    ·subst e
     have:=HG.out;rw [hz]at this;cases this;exact HQ.out
    ·exact A.out j z (by omega) hz
  ·have hki : ¬(k:Int)<(xs.length:Int):=by omega
   have hkl:k=xs.length:=by omega
   subst hkl;go_wp2;go_ret;exact⟨qar (qdg p xs A.out).symm,kw.out⟩
theorem qr6 (g:Nat) (lb:Array Value) (eg : ∀args w,(callFunc g args).run Tryz.prog w=.ok (.enter g args) w) (v:Value) (xs:List Str) (p:Str->Bool) (w:World)
  (hv:Texts w v xs) (hp:PredS w xs p g lb) :
  Calls Tryz.prog 112 #[v,.func (.func g) #[] lb] w fun e w'=>e=.returned (.bool (xs.any p))/\Below w.heap.size w w':=by
 have ci:=h_ (fun W (h:Texts W v xs) (h2:PredS W xs p g lb)=>ix_Str g lb eg v xs p W h h2);have HV:=h_ hv;have HP:=h_ hp;have ha:=h_ (qhj p xs);clear hv hp;generalize idxL p xs=R at ci ha
 go_enter Tryz.func112,Tryz.ntmps112
 go_wp2_with (go_at_call 150;(with_reducible refine(ci.out _ HV.out HP.out).mono ?_);rintro e w1 ⟨rfl,h1⟩)
 go_ret;exact⟨qa3 ha.out,h1⟩
end
end Go.Proofs.YtfoaaglbpmmhiaaGreatDoor
namespace Go.Proofs.YtfoaaglbpmmhiaaGreatDoor.Utf
def gb (l:List UInt8) (j:Nat):Nat:=(l[j]?.getD 0).toNat
theorem get_gb (s:ByteArray) (j:Nat):(s.get! j).toNat=gb s.data.toList j:=by
 unfold gb
 congr 1
 show s.data[j]! = _
 rw [Array.getElem?_toList,getElem!_def];cases s.data[j]? <;> rfl
theorem btw_gb (l:List UInt8) (j lo hi:Nat):btw l j lo hi=(decide (j<l.length) && (decide (lo<=gb l j) && decide (gb l j<=hi))):=by
 unfold btw gb;by_cases h:j<l.length
 ·rw [List.getElem?_eq_getElem h];simp [h]
 ·rw [List.getElem?_eq_none (by omega)];simp [h]
def decN (b0 b1 b2 b3:Nat) (p1 p2 p3:Bool):Nat × Nat:=
 if b0<128 then(b0,1)
 else if b0 / 32=6/\p1=true/\b1 / 64=2 then
  if(b0 % 32)*64+b1 % 64 ≥ 128 then((b0 % 32)*64+b1 % 64,2)else(65533,1)
 else if b0 / 16=14/\(p1=true/\b1 / 64=2)/\p2=true/\b2 / 64=2 then
  if(b0 % 16)*4096+(b1 % 64)*64+b2 % 64 ≥ 2048/\Utf8.valid ((b0 % 16)*4096+(b1 % 64)*64+b2 % 64:Nat)=true then((b0 % 16)*4096+(b1 % 64)*64+b2 % 64,3)else(65533,1)
 else if b0 / 8=30/\(p1=true/\b1 / 64=2)/\(p2=true/\b2 / 64=2)/\p3=true/\b3 / 64=2 then
  if(b0 % 8)*262144+(b1 % 64)*4096+(b2 % 64)*64+b3 % 64 ≥ 65536/\Utf8.valid ((b0 % 8)*262144+(b1 % 64)*4096+(b2 % 64)*64+b3 % 64:Nat)=true then((b0 % 8)*262144+(b1 % 64)*4096+(b2 % 64)*64+b3 % 64,4)else(65533,1)
 else(65533,1)
theorem qgr (s:ByteArray) (i:Nat):Utf8.decode s i =
  decN (gb s.data.toList i) (gb s.data.toList (i+1)) (gb s.data.toList (i+2)) (gb s.data.toList (i+3)) (decide (i+1<s.size)) (decide (i+2<s.size)) (decide (i+3<s.size)):=by
 unfold Utf8.decode decN;simp only [get_gb,Nat.add_zero,Bool.and_eq_true,beq_iff_eq,decide_eq_true_eq,Utf8.runeError,and_assoc,ge_iff_le]
def szN (b0 b1 b2 b3:Nat) (p1 p2 p3:Bool):Nat:=
 if b0<128 then 1
 else if 194<=b0/\b0<=223/\p1=true/\128<=b1/\b1<=191 then 2
 else if b0=224/\(p1=true/\160<=b1/\b1<=191)/\p2=true/\128<=b2/\b2<=191 then 3
 else if b0=237/\(p1=true/\128<=b1/\b1<=159)/\p2=true/\128<=b2/\b2<=191 then 3
 else if 225<=b0/\b0<=239/\b0 ≠ 237/\(p1=true/\128<=b1/\b1<=191)/\p2=true/\128<=b2/\b2<=191 then 3
 else if b0=240/\(p1=true/\144<=b1/\b1<=191)/\(p2=true/\128<=b2/\b2<=191)/\p3=true/\128<=b3/\b3<=191 then 4
 else if 241<=b0/\b0<=243/\(p1=true/\128<=b1/\b1<=191)/\(p2=true/\128<=b2/\b2<=191)/\p3=true/\128<=b3/\b3<=191 then 4
 else if b0=244/\(p1=true/\128<=b1/\b1<=143)/\(p2=true/\128<=b2/\b2<=191)/\p3=true/\128<=b3/\b3<=191 then 4
 else 0
theorem qmy (l:List UInt8) (i:Nat) (h:i<l.length):szAt l i =
  szN (gb l i) (gb l (i+1)) (gb l (i+2)) (gb l (i+3)) (decide (i+1<l.length)) (decide (i+2<l.length)) (decide (i+3<l.length)):=by
 unfold szAt szN;rw [List.getElem?_eq_getElem h];have e:gb l i=l[i].toNat:=by unfold gb;rw [List.getElem?_eq_getElem h];rfl
 simp only [←e];simp only [tl,btw_gb,Bool.and_eq_true,decide_eq_true_eq,and_assoc,Nat.add_assoc,Nat.reduceAdd,Bool.and_true]
theorem valid_iff (c:Nat):Utf8.valid (c:Int)=true ↔ (c<55296 ∨ 57344<=c/\c<=1114111):=by
 unfold Utf8.valid;simp only [Bool.or_eq_true,Bool.and_eq_true,decide_eq_true_eq];omega
theorem dec_bad (b0 b1 b2 b3:Nat) (p1 p2 p3:Bool) (h:szN b0 b1 b2 b3 p1 p2 p3=0) :
  decN b0 b1 b2 b3 p1 p2 p3=(65533,1)/\¬(b0=239/\(p1=true/\b1=191)/\p2=true/\b2=189):=by
 unfold szN at h;unfold decN;simp only [valid_iff];cases p1 <;> cases p2 <;> cases p3 <;> simp only [Bool.false_eq_true,false_and,and_false,true_and,if_false]at h ⊢
 all_goals (repeat' split at h)
 all_goals first|(exact absurd h (by omega))|skip
 all_goals refine⟨?_,by first|(exact fun x=>x)|omega⟩
 all_goals (repeat' split)
 all_goals first|rfl|(exfalso;omega)
theorem qhs (b0 b1 b2 b3:Nat) (p1 p2 p3:Bool) (h:szN b0 b1 b2 b3 p1 p2 p3 ≠ 0) :
  (szN b0 b1 b2 b3 p1 p2 p3=1/\b0<128/\decN b0 b1 b2 b3 p1 p2 p3=(b0,1)) ∨
  (szN b0 b1 b2 b3 p1 p2 p3=2/\(194<=b0/\b0<=223)/\(128<=b1/\b1<=191)/\decN b0 b1 b2 b3 p1 p2 p3=((b0 % 32)*64+b1 % 64,2)) ∨
  (szN b0 b1 b2 b3 p1 p2 p3=3/\(224<=b0/\b0<=239)/\(128<=b1/\b1<=191)/\(128<=b2/\b2<=191)/\2048<=(b0 % 16)*4096+(b1 % 64)*64+b2 % 64/\((b0 % 16)*4096+(b1 % 64)*64+b2 % 64<55296 ∨ 57344<=(b0 % 16)*4096+(b1 % 64)*64+b2 % 64)/\decN b0 b1 b2 b3 p1 p2 p3=((b0 % 16)*4096+(b1 % 64)*64+b2 % 64,3)) ∨
  (szN b0 b1 b2 b3 p1 p2 p3=4/\(240<=b0/\b0<=244)/\(128<=b1/\b1<=191)/\(128<=b2/\b2<=191)/\(128<=b3/\b3<=191)/\65536<=(b0 % 8)*262144+(b1 % 64)*4096+(b2 % 64)*64+b3 % 64/\(b0 % 8)*262144+(b1 % 64)*4096+(b2 % 64)*64+b3 % 64<=1114111/\decN b0 b1 b2 b3 p1 p2 p3=((b0 % 8)*262144+(b1 % 64)*4096+(b2 % 64)*64+b3 % 64,4)):=by
 revert h
 unfold szN;unfold decN;simp only [valid_iff];cases p1 <;> cases p2 <;> cases p3 <;> simp only [Bool.false_eq_true,false_and,and_false,true_and,if_false]
 all_goals (repeat' split)
 all_goals intro h
 all_goals first|(exact absurd rfl h)|(exfalso;omega)|skip
 all_goals first
  | (refine .inl ⟨by decide,?_⟩;exact⟨by omega,rfl⟩)
  | (refine .inr (.inl ⟨by decide,?_⟩);exact⟨by omega,by omega,rfl⟩)
  | (refine .inr (.inr (.inl ⟨by decide,?_⟩));exact⟨by omega,by omega,by omega,by omega,by omega,rfl⟩)
  | (refine .inr (.inr (.inr ⟨by decide,?_⟩));exact⟨by omega,by omega,by omega,by omega,by omega,by omega,rfl⟩)
theorem qhq (c:Nat) (hc:c<55296 ∨ 57344<=c/\c<=1114111):(Utf8.encode (c:Int)).data.toList =
  if c<128 then [UInt8.ofNat c]else if c<2048 then [UInt8.ofNat (192+c / 64),UInt8.ofNat (128+c % 64)]
   else if c<65536 then [UInt8.ofNat (224+c / 4096),UInt8.ofNat (128+c / 64 % 64),UInt8.ofNat (128+c % 64)]else [UInt8.ofNat (240+c / 262144),UInt8.ofNat (128+c / 4096 % 64),UInt8.ofNat (128+c / 64 % 64),UInt8.ofNat (128+c % 64)]:=by
 have hv:=(valid_iff c).2 hc;unfold Utf8.encode;simp only [hv,if_true,Int.toNat_natCast];by_cases h1:c<128
 ·simp only [h1,if_true]
 ·by_cases h2:c<2048
  ·simp only [h1,h2,if_true,if_false]
  ·by_cases h3:c<65536
   ·simp only [h1,h2,h3,if_true,if_false]
   ·simp only [h1,h2,h3,if_false]
theorem enc1 (c:Nat) (h:c<128):(Utf8.encode (c:Int)).data.toList=[UInt8.ofNat c]:=by
 rw [qhq c (by omega),if_pos h]
theorem enc2 (b0 b1 c:Nat) (h0:194<=b0/\b0<=223) (h1:128<=b1/\b1<=191) (hc:c=(b0 % 32)*64+b1 % 64):(Utf8.encode (c:Int)).data.toList=[UInt8.ofNat b0,UInt8.ofNat b1]:=by
 rw [qhq c (by omega),if_neg (by omega),if_pos (by omega),show 192+c / 64=b0 from by omega,show 128+c % 64=b1 from by omega]
theorem enc3 (b0 b1 b2 c:Nat) (h0:224<=b0/\b0<=239) (h1:128<=b1/\b1<=191) (h2:128<=b2/\b2<=191) (hc:c=(b0 % 16)*4096+(b1 % 64)*64+b2 % 64) (hg:2048<=c) (hv:c<55296 ∨ 57344<=c) :
  (Utf8.encode (c:Int)).data.toList=[UInt8.ofNat b0,UInt8.ofNat b1,UInt8.ofNat b2]:=by
 rw [qhq c (by omega),if_neg (by omega),if_neg (by omega),if_pos (by omega),show 224+c / 4096=b0 from by omega,show 128+c / 64 % 64=b1 from by omega,show 128+c % 64=b2 from by omega]
theorem enc4 (b0 b1 b2 b3 c:Nat) (h0:240<=b0/\b0<=244) (h1:128<=b1/\b1<=191) (h2:128<=b2/\b2<=191) (h3:128<=b3/\b3<=191) (hc:c=(b0 % 8)*262144+(b1 % 64)*4096+(b2 % 64)*64+b3 % 64) (hg:65536<=c) (hv:c<=1114111) :
  (Utf8.encode (c:Int)).data.toList=[UInt8.ofNat b0,UInt8.ofNat b1,UInt8.ofNat b2,UInt8.ofNat b3]:=by
 rw [qhq c (by omega),if_neg (by omega),if_neg (by omega),if_neg (by omega),show 240+c / 262144=b0 from by omega,show 128+c / 4096 % 64=b1 from by omega,show 128+c / 64 % 64=b2 from by omega,show 128+c % 64=b3 from by omega]
theorem enc_take (b0 b1 b2 b3:Nat) (p1 p2 p3:Bool) (h:szN b0 b1 b2 b3 p1 p2 p3 ≠ 0) :
  (Utf8.encode ((decN b0 b1 b2 b3 p1 p2 p3).1:Int)).data.toList=([b0,b1,b2,b3].map UInt8.ofNat).take (szN b0 b1 b2 b3 p1 p2 p3):=by
 rcases qhs b0 b1 b2 b3 p1 p2 p3 h with⟨e,h0,d⟩|⟨e,h0,h1,d⟩|⟨e,h0,h1,h2,hg,hv,d⟩|⟨e,h0,h1,h2,h3,hg,hv,d⟩
 ·rw [e,d,enc1 _ h0];rfl
 ·rw [e,d,enc2 b0 b1 _ h0 h1 rfl];rfl
 ·rw [e,d,enc3 b0 b1 b2 _ h0 h1 h2 rfl hg hv];rfl
 ·rw [e,d,enc4 b0 b1 b2 b3 _ h0 h1 h2 h3 rfl hg hv];rfl
def isRep (l:List UInt8) (i:Nat):Prop:=gb l i=239/\(decide (i+1<l.length)=true/\gb l (i+1)=191)/\decide (i+2<l.length)=true/\gb l (i+2)=189
theorem decode_bad (s:ByteArray) (i:Nat) (hi:i<s.data.toList.length) (h:szAt s.data.toList i=0):Utf8.decode s i=(65533,1)/\¬ isRep s.data.toList i:=by
 have e:s.size=s.data.toList.length:=rfl;rw [qmy _ _ hi]at h;rw [qgr,e];exact dec_bad _ _ _ _ _ _ _ h
theorem decode_good (s:ByteArray) (i:Nat) (hi:i<s.data.toList.length) (h:szAt s.data.toList i ≠ 0) :
  (Utf8.decode s i).2=szAt s.data.toList i/\((Utf8.decode s i).1=65533->isRep s.data.toList i)/\(Utf8.encode ((Utf8.decode s i).1:Int)).data.toList=(s.data.toList.drop i).take (szAt s.data.toList i):=by
 have e:s.size=s.data.toList.length:=rfl;have hlt:=szAt_lt h;rw [qmy _ _ hi]at h hlt ⊢;rw [qgr,e];refine⟨?_,?_,?_⟩
 ·rcases qhs _ _ _ _ _ _ _ h with⟨e,_,d⟩|⟨e,_,_,d⟩|⟨e,_,_,_,_,_,d⟩|⟨e,_,_,_,_,_,_,d⟩ <;> rw [e,d]
 ·intro hr
  rcases qhs _ _ _ _ _ _ _ h with⟨e,h0,d⟩|⟨e,h0,h1,d⟩|⟨e,h0,h1,h2,hg,hv,d⟩|⟨e,h0,h1,h2,h3,hg,hv,d⟩
  ·rw [d]at hr;simp only at hr;exfalso;omega
  ·rw [d]at hr;simp only at hr;exfalso;omega
  ·rw [d]at hr;simp only at hr
   rw [e]at hlt;exact⟨by omega,⟨decide_eq_true (by omega),by omega⟩,decide_eq_true (by omega),by omega⟩
  ·rw [d]at hr;simp only at hr;exfalso;omega
 ·rw [enc_take _ _ _ _ _ _ _ h]
  have hl4:szN (gb s.data.toList i) (gb s.data.toList (i+1)) (gb s.data.toList (i+2)) (gb s.data.toList (i+3)) (decide (i+1<s.data.toList.length)) (decide (i+2<s.data.toList.length)) (decide (i+3<s.data.toList.length))<=4:=by unfold szN;(repeat' split) <;> omega
  generalize szN (gb s.data.toList i) (gb s.data.toList (i+1)) (gb s.data.toList (i+2)) (gb s.data.toList (i+3)) (decide (i+1<s.data.toList.length)) (decide (i+2<s.data.toList.length)) (decide (i+3<s.data.toList.length))=n at *;apply List.ext_getElem?;intro j;by_cases hj:j<n
  ·rw [List.getElem?_take_of_lt hj,List.getElem?_take_of_lt hj,List.getElem?_drop]
   have:j=0 ∨ j=1 ∨ j=2 ∨ j=3:=by omega
   have hh : ∀k,k<s.data.toList.length->s.data.toList[k]? = some (UInt8.ofNat (gb s.data.toList k)):=by
    intro k hk;rw [List.getElem?_eq_getElem hk];unfold gb;rw [List.getElem?_eq_getElem hk];simp
   rcases this with rfl|rfl|rfl|rfl <;> (rw [hh _ (by omega)];rfl)
  ·rw [List.getElem?_eq_none (by simp;omega),List.getElem?_eq_none (by simp;omega)]
end Go.Proofs.YtfoaaglbpmmhiaaGreatDoor.Utf
