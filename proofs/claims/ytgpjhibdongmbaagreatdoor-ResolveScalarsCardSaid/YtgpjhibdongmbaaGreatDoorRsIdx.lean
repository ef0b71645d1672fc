import Derived.Test.YtgpjhibdongmbaaGreatDoorRsMem
set_option maxRecDepth 100000
set_option maxHeartbeats 4000000
set_option linter.unusedVariables false
set_option linter.unusedSimpArgs false
namespace Go.Proofs.YtgpjhibdongmbaaGreatDoor
open Go.RowKit Ck Rs
theorem qic (w:World):(isAgg 54).run Tryz.prog w=.ok true w:=by kernel_rfl
theorem qem (w:World):(Go.sizeOf 54).run Tryz.prog w=.ok 8 w:=by kernel_rfl
theorem ix_Op {α:Type} (V:World->List Value->α->Prop) (hV : ∀W vs x,V W vs x->vs.length=8) (g:Nat) (lb:Array Value) (eg : ∀args w,(callFunc g args).run Tryz.prog w=.ok (.enter g args) w) (v:Value) (xs:List α) (p:α->Bool) (w:World)
  (hv:Sv 8 V w v xs) (hp:qb0 α V w xs p g lb) :
  Calls Tryz.prog 189 #[v,.func (.func g) #[] lb] w fun e w'=>e=.returned (.int .i64 (idxL p xs))/\Below w.heap.size w w':=by
 obtain⟨q,c,rfl,hl,hcap,hel⟩:=hv;have EL:=Lib.hid hel;have HP:=Lib.hid hp;have HV:=Lib.hid hV;have aE:=qic;obtain⟨K,hK⟩ : ∃K,K=8:=⟨_,rfl⟩;have zE : ∀w,(Go.sizeOf 54).run Tryz.prog w=.ok K w:=hK ▸ qem;have HK:=Lib.hid hK;clear hel hp hV hK
 go_enter Tryz.func189,Tryz.ntmps189
 go_wp2
 go_loopw [5,8] (fun _ i wr => ∃k:Nat,k<=xs.length/\i=.int .i64 k/\Bel w wr/\Hid (∀j y,j<k->xs[j]? = some y->p y=false)) (fun _ i _=>xs.length-(intOf i).toNat)
 case atStart=>exact⟨0,by omega,rfl,Bel.refl _,Lib.hid fun j y hj=>absurd hj (Nat.not_lt_zero _)⟩
 case round=>
  obtain⟨k,hk,rfl,kw,A⟩:=hrel;by_cases hlt:k<xs.length
  ·have hg:xs[k]? = some xs[k]:=List.getElem?_eq_getElem hlt
   obtain⟨b,off,rfl,hbs,vs,hce,hvs⟩:=EL.out k _ hg;have hki:(k:Int)<(xs.length:Int):=by omega
   have l2:Sem.run Tryz.prog (loadCellsFrom ⟨b,off+k*K,none⟩ 0 K #[]) wr=.ok vs.toArray wr:=run_loadCellsFrom_list Tryz.prog _ _ vs K ((HV.out _ _ _ hvs).trans HK.out.symm) (fun i v hi=>by
    rw [HK.out,Addr.add_lit]
    exact kw.some (hce i v hi))
   have HG:=Lib.hid hg;have hcall:=HP.out _ _ wr (List.getElem_mem hlt) hvs kw;clear hce hvs hg;generalize xs[k]=y at *;cases hq:p y with
   | true=>
    rw [hq]at hcall;have HC:=Lib.hid hcall;have HQ:=Lib.hid hq;clear hcall hq
    go_wp2_with (go_at_fn g;(with_reducible refine HC.out.mono ?_);rintro e w' ⟨rfl,hb'⟩)
    go_ret;exact⟨qad (qbv p xs k y HG.out HQ.out A.out).symm,Bel.of kw hb'⟩
   | false=>
    rw [hq]at hcall;have HC:=Lib.hid hcall;have HQ:=Lib.hid hq;clear hcall hq
    go_wp2_with (go_at_fn g;(with_reducible refine HC.out.mono ?_);rintro e w' ⟨rfl,hb'⟩;have k2:=Bel.of kw hb';clear hb')
    refine⟨⟨k+1,by omega,rfl,k2,Lib.hid fun j z hj hz=>?_⟩,by simp [intOf];omega⟩;by_cases e:j=k
    ·subst e
     have:=HG.out;rw [hz]at this;cases this;exact HQ.out
    ·exact A.out j z (by omega) hz
  ·have hki : ¬(k:Int)<(xs.length:Int):=by omega
   have hkl:k=xs.length:=by omega
   subst hkl;go_wp2;go_ret;exact⟨qad (qbd p xs A.out).symm,kw.out⟩
theorem cf_Op {α:Type} (V:World->List Value->α->Prop) (hV : ∀W vs x,V W vs x->vs.length=8) (g:Nat) (lb:Array Value) (eg : ∀args w,(callFunc g args).run Tryz.prog w=.ok (.enter g args) w) (v:Value) (xs:List α) (p:α->Bool) (w:World)
  (hv:Sv 8 V w v xs) (hp:qb0 α V w xs p g lb) :
  Calls Tryz.prog 175 #[v,.func (.func g) #[] lb] w fun e w'=>e=.returned (.bool (xs.any p))/\Below w.heap.size w w':=by
 have ci:=Lib.hid (fun W (h:Sv 8 V W v xs) (h2:qb0 α V W xs p g lb)=>ix_Op V hV g lb eg v xs p W h h2);have HV:=Lib.hid hv;have HP:=Lib.hid hp;have ha:=Lib.hid (qbw p xs);clear hv hp hV;generalize idxL p xs=R at ci ha
 go_enter Tryz.func175,Tryz.ntmps175
 go_wp2_with (go_at_call 189;(with_reducible refine(ci.out _ HV.out HP.out).mono ?_);rintro e w1 ⟨rfl,h1⟩)
 go_ret;exact⟨qa3 ha.out,h1⟩
theorem qg3 (w:World):(isAgg 52).run Tryz.prog w=.ok true w:=by kernel_rfl
theorem qdx (w:World):(Go.sizeOf 52).run Tryz.prog w=.ok 3 w:=by kernel_rfl
theorem ix_Prog {α:Type} (V:World->List Value->α->Prop) (hV : ∀W vs x,V W vs x->vs.length=3) (g:Nat) (lb:Array Value) (eg : ∀args w,(callFunc g args).run Tryz.prog w=.ok (.enter g args) w) (v:Value) (xs:List α) (p:α->Bool) (w:World)
  (hv:Sv 3 V w v xs) (hp:qb0 α V w xs p g lb) :
  Calls Tryz.prog 55 #[v,.func (.func g) #[] lb] w fun e w'=>e=.returned (.int .i64 (idxL p xs))/\Below w.heap.size w w':=by
 obtain⟨q,c,rfl,hl,hcap,hel⟩:=hv;have EL:=Lib.hid hel;have HP:=Lib.hid hp;have HV:=Lib.hid hV;have aE:=qg3;obtain⟨K,hK⟩ : ∃K,K=3:=⟨_,rfl⟩;have zE : ∀w,(Go.sizeOf 52).run Tryz.prog w=.ok K w:=hK ▸ qdx;have HK:=Lib.hid hK;clear hel hp hV hK
 go_enter Tryz.func55,Tryz.ntmps55
 go_wp2
 go_loopw [5,8] (fun _ i wr => ∃k:Nat,k<=xs.length/\i=.int .i64 k/\Bel w wr/\Hid (∀j y,j<k->xs[j]? = some y->p y=false)) (fun _ i _=>xs.length-(intOf i).toNat)
 case atStart=>exact⟨0,by omega,rfl,Bel.refl _,Lib.hid fun j y hj=>absurd hj (Nat.not_lt_zero _)⟩
 case round=>
  obtain⟨k,hk,rfl,kw,A⟩:=hrel;by_cases hlt:k<xs.length
  ·have hg:xs[k]? = some xs[k]:=List.getElem?_eq_getElem hlt
   obtain⟨b,off,rfl,hbs,vs,hce,hvs⟩:=EL.out k _ hg;have hki:(k:Int)<(xs.length:Int):=by omega
   have l2:Sem.run Tryz.prog (loadCellsFrom ⟨b,off+k*K,none⟩ 0 K #[]) wr=.ok vs.toArray wr:=run_loadCellsFrom_list Tryz.prog _ _ vs K ((HV.out _ _ _ hvs).trans HK.out.symm) (fun i v hi=>by
    rw [HK.out,Addr.add_lit]
    exact kw.some (hce i v hi))
   have HG:=Lib.hid hg;have hcall:=HP.out _ _ wr (List.getElem_mem hlt) hvs kw;clear hce hvs hg;generalize xs[k]=y at *;cases hq:p y with
   | true=>
    rw [hq]at hcall;have HC:=Lib.hid hcall;have HQ:=Lib.hid hq;clear hcall hq
    go_wp2_with (go_at_fn g;(with_reducible refine HC.out.mono ?_);rintro e w' ⟨rfl,hb'⟩)
    go_ret;exact⟨qad (qbv p xs k y HG.out HQ.out A.out).symm,Bel.of kw hb'⟩
   | false=>
    rw [hq]at hcall;have HC:=Lib.hid hcall;have HQ:=Lib.hid hq;clear hcall hq
    go_wp2_with (go_at_fn g;(with_reducible refine HC.out.mono ?_);rintro e w' ⟨rfl,hb'⟩;have k2:=Bel.of kw hb';clear hb')
    refine⟨⟨k+1,by omega,rfl,k2,Lib.hid fun j z hj hz=>?_⟩,by simp [intOf];omega⟩;by_cases e:j=k
    ·subst e
     have:=HG.out;rw [hz]at this;cases this;exact HQ.out
    ·exact A.out j z (by omega) hz
  ·have hki : ¬(k:Int)<(xs.length:Int):=by omega
   have hkl:k=xs.length:=by omega
   subst hkl;go_wp2;go_ret;exact⟨qad (qbd p xs A.out).symm,kw.out⟩
theorem cf_Prog {α:Type} (V:World->List Value->α->Prop) (hV : ∀W vs x,V W vs x->vs.length=3) (g:Nat) (lb:Array Value) (eg : ∀args w,(callFunc g args).run Tryz.prog w=.ok (.enter g args) w) (v:Value) (xs:List α) (p:α->Bool) (w:World)
  (hv:Sv 3 V w v xs) (hp:qb0 α V w xs p g lb) :
  Calls Tryz.prog 169 #[v,.func (.func g) #[] lb] w fun e w'=>e=.returned (.bool (xs.any p))/\Below w.heap.size w w':=by
 have ci:=Lib.hid (fun W (h:Sv 3 V W v xs) (h2:qb0 α V W xs p g lb)=>ix_Prog V hV g lb eg v xs p W h h2);have HV:=Lib.hid hv;have HP:=Lib.hid hp;have ha:=Lib.hid (qbw p xs);clear hv hp hV;generalize idxL p xs=R at ci ha
 go_enter Tryz.func169,Tryz.ntmps169
 go_wp2_with (go_at_call 55;(with_reducible refine(ci.out _ HV.out HP.out).mono ?_);rintro e w1 ⟨rfl,h1⟩)
 go_ret;exact⟨qa3 ha.out,h1⟩
theorem qkf (w:World):(isAgg 38).run Tryz.prog w=.ok true w:=by kernel_rfl
theorem qho (w:World):(Go.sizeOf 38).run Tryz.prog w=.ok 3 w:=by kernel_rfl
theorem qlc {α:Type} (V:World->List Value->α->Prop) (hV : ∀W vs x,V W vs x->vs.length=3) (g:Nat) (lb:Array Value) (eg : ∀args w,(callFunc g args).run Tryz.prog w=.ok (.enter g args) w) (v:Value) (xs:List α) (p:α->Bool) (w:World)
  (hv:Sv 3 V w v xs) (hp:qb0 α V w xs p g lb) :
  Calls Tryz.prog 64 #[v,.func (.func g) #[] lb] w fun e w'=>e=.returned (.int .i64 (idxL p xs))/\Below w.heap.size w w':=by
 obtain⟨q,c,rfl,hl,hcap,hel⟩:=hv;have EL:=Lib.hid hel;have HP:=Lib.hid hp;have HV:=Lib.hid hV;have aE:=qkf;obtain⟨K,hK⟩ : ∃K,K=3:=⟨_,rfl⟩;have zE : ∀w,(Go.sizeOf 38).run Tryz.prog w=.ok K w:=hK ▸ qho;have HK:=Lib.hid hK;clear hel hp hV hK
 go_enter Tryz.func64,Tryz.ntmps64
 go_wp2
 go_loopw [5,8] (fun _ i wr => ∃k:Nat,k<=xs.length/\i=.int .i64 k/\Bel w wr/\Hid (∀j y,j<k->xs[j]? = some y->p y=false)) (fun _ i _=>xs.length-(intOf i).toNat)
 case atStart=>exact⟨0,by omega,rfl,Bel.refl _,Lib.hid fun j y hj=>absurd hj (Nat.not_lt_zero _)⟩
 case round=>
  obtain⟨k,hk,rfl,kw,A⟩:=hrel;by_cases hlt:k<xs.length
  ·have hg:xs[k]? = some xs[k]:=List.getElem?_eq_getElem hlt
   obtain⟨b,off,rfl,hbs,vs,hce,hvs⟩:=EL.out k _ hg;have hki:(k:Int)<(xs.length:Int):=by omega
   have l2:Sem.run Tryz.prog (loadCellsFrom ⟨b,off+k*K,none⟩ 0 K #[]) wr=.ok vs.toArray wr:=run_loadCellsFrom_list Tryz.prog _ _ vs K ((HV.out _ _ _ hvs).trans HK.out.symm) (fun i v hi=>by
    rw [HK.out,Addr.add_lit]
    exact kw.some (hce i v hi))
   have HG:=Lib.hid hg;have hcall:=HP.out _ _ wr (List.getElem_mem hlt) hvs kw;clear hce hvs hg;generalize xs[k]=y at *;cases hq:p y with
   | true=>
    rw [hq]at hcall;have HC:=Lib.hid hcall;have HQ:=Lib.hid hq;clear hcall hq
    go_wp2_with (go_at_fn g;(with_reducible refine HC.out.mono ?_);rintro e w' ⟨rfl,hb'⟩)
    go_ret;exact⟨qad (qbv p xs k y HG.out HQ.out A.out).symm,Bel.of kw hb'⟩
   | false=>
    rw [hq]at hcall;have HC:=Lib.hid hcall;have HQ:=Lib.hid hq;clear hcall hq
    go_wp2_with (go_at_fn g;(with_reducible refine HC.out.mono ?_);rintro e w' ⟨rfl,hb'⟩;have k2:=Bel.of kw hb';clear hb')
    refine⟨⟨k+1,by omega,rfl,k2,Lib.hid fun j z hj hz=>?_⟩,by simp [intOf];omega⟩;by_cases e:j=k
    ·subst e
     have:=HG.out;rw [hz]at this;cases this;exact HQ.out
    ·exact A.out j z (by omega) hz
  ·have hki : ¬(k:Int)<(xs.length:Int):=by omega
   have hkl:k=xs.length:=by omega
   subst hkl;go_wp2;go_ret;exact⟨qad (qbd p xs A.out).symm,kw.out⟩
theorem qlp {α:Type} (V:World->List Value->α->Prop) (hV : ∀W vs x,V W vs x->vs.length=3) (g:Nat) (lb:Array Value) (eg : ∀args w,(callFunc g args).run Tryz.prog w=.ok (.enter g args) w) (v:Value) (xs:List α) (p:α->Bool) (w:World)
  (hv:Sv 3 V w v xs) (hp:qb0 α V w xs p g lb) :
  Calls Tryz.prog 36 #[v,.func (.func g) #[] lb] w fun e w'=>e=.returned (.bool (xs.any p))/\Below w.heap.size w w':=by
 have ci:=Lib.hid (fun W (h:Sv 3 V W v xs) (h2:qb0 α V W xs p g lb)=>qlc V hV g lb eg v xs p W h h2);have HV:=Lib.hid hv;have HP:=Lib.hid hp;have ha:=Lib.hid (qbw p xs);clear hv hp hV;generalize idxL p xs=R at ci ha
 go_enter Tryz.func36,Tryz.ntmps36
 go_wp2_with (go_at_call 64;(with_reducible refine(ci.out _ HV.out HP.out).mono ?_);rintro e w1 ⟨rfl,h1⟩)
 go_ret;exact⟨qa3 ha.out,h1⟩
theorem qlu (w:World):(isAgg 44).run Tryz.prog w=.ok true w:=by kernel_rfl
theorem qim (w:World):(Go.sizeOf 44).run Tryz.prog w=.ok 4 w:=by kernel_rfl
theorem ix_Adapt {α:Type} (V:World->List Value->α->Prop) (hV : ∀W vs x,V W vs x->vs.length=4) (g:Nat) (lb:Array Value) (eg : ∀args w,(callFunc g args).run Tryz.prog w=.ok (.enter g args) w) (v:Value) (xs:List α) (p:α->Bool) (w:World)
  (hv:Sv 4 V w v xs) (hp:qb0 α V w xs p g lb) :
  Calls Tryz.prog 63 #[v,.func (.func g) #[] lb] w fun e w'=>e=.returned (.int .i64 (idxL p xs))/\Below w.heap.size w w':=by
 obtain⟨q,c,rfl,hl,hcap,hel⟩:=hv;have EL:=Lib.hid hel;have HP:=Lib.hid hp;have HV:=Lib.hid hV;have aE:=qlu;obtain⟨K,hK⟩ : ∃K,K=4:=⟨_,rfl⟩;have zE : ∀w,(Go.sizeOf 44).run Tryz.prog w=.ok K w:=hK ▸ qim;have HK:=Lib.hid hK;clear hel hp hV hK
 go_enter Tryz.func63,Tryz.ntmps63
 go_wp2
 go_loopw [5,8] (fun _ i wr => ∃k:Nat,k<=xs.length/\i=.int .i64 k/\Bel w wr/\Hid (∀j y,j<k->xs[j]? = some y->p y=false)) (fun _ i _=>xs.length-(intOf i).toNat)
 case atStart=>exact⟨0,by omega,rfl,Bel.refl _,Lib.hid fun j y hj=>absurd hj (Nat.not_lt_zero _)⟩
 case round=>
  obtain⟨k,hk,rfl,kw,A⟩:=hrel;by_cases hlt:k<xs.length
  ·have hg:xs[k]? = some xs[k]:=List.getElem?_eq_getElem hlt
   obtain⟨b,off,rfl,hbs,vs,hce,hvs⟩:=EL.out k _ hg;have hki:(k:Int)<(xs.length:Int):=by omega
   have l2:Sem.run Tryz.prog (loadCellsFrom ⟨b,off+k*K,none⟩ 0 K #[]) wr=.ok vs.toArray wr:=run_loadCellsFrom_list Tryz.prog _ _ vs K ((HV.out _ _ _ hvs).trans HK.out.symm) (fun i v hi=>by
    rw [HK.out,Addr.add_lit]
    exact kw.some (hce i v hi))
   have HG:=Lib.hid hg;have hcall:=HP.out _ _ wr (List.getElem_mem hlt) hvs kw;clear hce hvs hg;generalize xs[k]=y at *;cases hq:p y with
   | true=>
    rw [hq]at hcall;have HC:=Lib.hid hcall;have HQ:=Lib.hid hq;clear hcall hq
    go_wp2_with (go_at_fn g;(with_reducible refine HC.out.mono ?_);rintro e w' ⟨rfl,hb'⟩)
    go_ret;exact⟨qad (qbv p xs k y HG.out HQ.out A.out).symm,Bel.of kw hb'⟩
   | false=>
    rw [hq]at hcall;have HC:=Lib.hid hcall;have HQ:=Lib.hid hq;clear hcall hq
    go_wp2_with (go_at_fn g;(with_reducible refine HC.out.mono ?_);rintro e w' ⟨rfl,hb'⟩;have k2:=Bel.of kw hb';clear hb')
    refine⟨⟨k+1,by omega,rfl,k2,Lib.hid fun j z hj hz=>?_⟩,by simp [intOf];omega⟩;by_cases e:j=k
    ·subst e
     have:=HG.out;rw [hz]at this;cases this;exact HQ.out
    ·exact A.out j z (by omega) hz
  ·have hki : ¬(k:Int)<(xs.length:Int):=by omega
   have hkl:k=xs.length:=by omega
   subst hkl;go_wp2;go_ret;exact⟨qad (qbd p xs A.out).symm,kw.out⟩
theorem cf_Adapt {α:Type} (V:World->List Value->α->Prop) (hV : ∀W vs x,V W vs x->vs.length=4) (g:Nat) (lb:Array Value) (eg : ∀args w,(callFunc g args).run Tryz.prog w=.ok (.enter g args) w) (v:Value) (xs:List α) (p:α->Bool) (w:World)
  (hv:Sv 4 V w v xs) (hp:qb0 α V w xs p g lb) :
  Calls Tryz.prog 34 #[v,.func (.func g) #[] lb] w fun e w'=>e=.returned (.bool (xs.any p))/\Below w.heap.size w w':=by
 have ci:=Lib.hid (fun W (h:Sv 4 V W v xs) (h2:qb0 α V W xs p g lb)=>ix_Adapt V hV g lb eg v xs p W h h2);have HV:=Lib.hid hv;have HP:=Lib.hid hp;have ha:=Lib.hid (qbw p xs);clear hv hp hV;generalize idxL p xs=R at ci ha
 go_enter Tryz.func34,Tryz.ntmps34
 go_wp2_with (go_at_call 63;(with_reducible refine(ci.out _ HV.out HP.out).mono ?_);rintro e w1 ⟨rfl,h1⟩)
 go_ret;exact⟨qa3 ha.out,h1⟩
theorem so_Op {α:Type} (V:World->List Value->α->Prop) (hV : ∀W vs x,V W vs x->vs.length=8) (g:Nat) (lb:Array Value) (eg : ∀args w,(callFunc g args).run Tryz.prog w=.ok (.enter g args) w) (v:Value) (xs:List α) (p:α->Bool) (w:World)
  (hv:Sv 8 V w v xs) (hp:qb0 α V w xs p g lb) :
  Calls Tryz.prog 116 #[v,.func (.func g) #[] lb] w fun e w'=>e=.returned (.bool (xs.any p))/\Bel w w':=by
 have ci:=Lib.hid (fun W (h:Sv 8 V W v xs) (h2:qb0 α V W xs p g lb)=>cf_Op V hV g lb eg v xs p W h h2);have HV:=Lib.hid hv;have HP:=Lib.hid hp;clear hv hp hV;generalize xs.any p=R at ci
 go_enter Tryz.func116,Tryz.ntmps116
 go_wp2_with (go_at_call 175;(with_reducible refine(ci.out _ HV.out HP.out).mono ?_);rintro e w1 ⟨rfl,h1⟩)
 go_ret;exact⟨rfl,h1⟩
theorem qdp {α:Type} (V:World->List Value->α->Prop) (hV : ∀W vs x,V W vs x->vs.length=3) (g:Nat) (lb:Array Value) (eg : ∀args w,(callFunc g args).run Tryz.prog w=.ok (.enter g args) w) (v:Value) (xs:List α) (p:α->Bool) (w:World)
  (hv:Sv 3 V w v xs) (hp:qb0 α V w xs p g lb) :
  Calls Tryz.prog 110 #[v,.func (.func g) #[] lb] w fun e w'=>e=.returned (.bool (xs.any p))/\Bel w w':=by
 have ci:=Lib.hid (fun W (h:Sv 3 V W v xs) (h2:qb0 α V W xs p g lb)=>cf_Prog V hV g lb eg v xs p W h h2);have HV:=Lib.hid hv;have HP:=Lib.hid hp;clear hv hp hV;generalize xs.any p=R at ci
 go_enter Tryz.func110,Tryz.ntmps110
 go_wp2_with (go_at_call 169;(with_reducible refine(ci.out _ HV.out HP.out).mono ?_);rintro e w1 ⟨rfl,h1⟩)
 go_ret;exact⟨rfl,h1⟩
theorem qcv {α:Type} (V:World->List Value->α->Prop) (hV : ∀W vs x,V W vs x->vs.length=5) (g:Nat) (lb:Array Value) (eg : ∀args w,(callFunc g args).run Tryz.prog w=.ok (.enter g args) w) (v:Value) (xs:List α) (p:α->Bool) (w:World)
  (hv:Sv 5 V w v xs) (hp:qb0 α V w xs p g lb) :
  Calls Tryz.prog 112 #[v,.func (.func g) #[] lb] w fun e w'=>e=.returned (.bool (xs.any p))/\Bel w w':=by
 have ci:=Lib.hid (fun W (h:Sv 5 V W v xs) (h2:qb0 α V W xs p g lb)=>cf_Enum V hV g lb eg v xs p W h h2);have HV:=Lib.hid hv;have HP:=Lib.hid hp;clear hv hp hV;generalize xs.any p=R at ci
 go_enter Tryz.func112,Tryz.ntmps112
 go_wp2_with (go_at_call 170;(with_reducible refine(ci.out _ HV.out HP.out).mono ?_);rintro e w1 ⟨rfl,h1⟩)
 go_ret;exact⟨rfl,h1⟩
theorem qg9 {α:Type} (V:World->List Value->α->Prop) (hV : ∀W vs x,V W vs x->vs.length=3) (g:Nat) (lb:Array Value) (eg : ∀args w,(callFunc g args).run Tryz.prog w=.ok (.enter g args) w) (v:Value) (xs:List α) (p:α->Bool) (w:World)
  (hv:Sv 3 V w v xs) (hp:qb0 α V w xs p g lb) :
  Calls Tryz.prog 120 #[v,.func (.func g) #[] lb] w fun e w'=>e=.returned (.bool (xs.any p))/\Bel w w':=by
 have ci:=Lib.hid (fun W (h:Sv 3 V W v xs) (h2:qb0 α V W xs p g lb)=>qk6 V hV g lb eg v xs p W h h2);have HV:=Lib.hid hv;have HP:=Lib.hid hp;clear hv hp hV;generalize xs.any p=R at ci
 go_enter Tryz.func120,Tryz.ntmps120
 go_wp2_with (go_at_call 177;(with_reducible refine(ci.out _ HV.out HP.out).mono ?_);rintro e w1 ⟨rfl,h1⟩)
 go_ret;exact⟨rfl,h1⟩
end Go.Proofs.YtgpjhibdongmbaaGreatDoor
