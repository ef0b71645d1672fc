import Derived.Test.YtaaneecceiefoaaGreatDoorMaEnvD
import Derived.Test.YtaaneecceiefoaaGreatDoorMaVM
import Derived.Test.YtaaneecceiefoaaGreatDoorMdLaw
set_option maxRecDepth 100000
set_option maxHeartbeats 4000000
set_option linter.unusedVariables false
set_option linter.unusedSimpArgs false
namespace Go.Proofs.YtaaneecceiefoaaGreatDoor
section
open Go.RowKit Ck Ma
def AtV {α:Type} (V:World->List Value->α->Prop) (zero:List Value) (wv:World) (vs:List Value):Option α->Prop
 | some x=>V wv vs x
 | none=>vs=zero
def qca {α:Type} (V:World->List Value->α->Prop) (zero:List Value) (r:Option α) (wv w:World) (e:Ending) (w':World):Prop := ∃vs,e=.returned (.tuple #[.agg vs.toArray,.bool r.isSome])/\AtV V zero wv vs r/\Bel w w'
theorem VMsg.one (w:World) (vs:List Value) (x:PMsg) (h:VMsg w vs x):vs.toArray.all (·.oneCell')=true:=by
 obtain⟨_,_,_,_,rfl,h1,h2,h3,h4⟩:=h;obtain⟨_,_,rfl,_⟩:=qa5 h1;obtain⟨_,_,rfl,_⟩:=qa5 h2;obtain⟨_,_,rfl,_⟩:=qa5 h3;obtain⟨_,_,rfl,_⟩:=qa5 h4;simp [Value.oneCell']
theorem VField.one (w:World) (vs:List Value) (x:PField) (h:VField w vs x):vs.toArray.all (·.oneCell')=true:=by
 obtain⟨_,_,rfl,⟨_,_,_,_,_,_,_,_,rfl,_⟩,h1⟩:=h;obtain⟨_,_,rfl,_⟩:=qa5 h1;simp [Value.oneCell']
def zFld:List Value:=[.int .i64 0,.string ByteArray.empty,.int .i64 0,.int .i64 0,.int .i64 0,.string ByteArray.empty,.string ByteArray.empty,.bool false,.int .i64 0,.int .u64 0,.string ByteArray.empty,.slice none 0 0,.slice none 0 0,.slice none 0 0,.slice none 0 0,.slice none 0 0]
theorem ar_M:(Tryz.prog.info? 57).map (·.size)=some 5:=by kernel_rfl
theorem ag_M (w:World):(isAgg 57).run Tryz.prog w=.ok true w:=by kernel_rfl
theorem sz_M (w:World):(Go.sizeOf 57).run Tryz.prog w=.ok 5 w:=by kernel_rfl
theorem qnx (g:Nat) (lb:Array Value) (eg : ∀args w,(callFunc g args).run Tryz.prog w=.ok (.enter g args) w) (v:Value) (xs:List PMsg) (p:PMsg->Bool) (wv w0:World) (hvb:Bel wv w0) (hv:Sv 5 VMsg wv v xs) (hp : ∀x ∈ xs, ∀vs W,VMsg W vs x->Bel w0 W->Calls Tryz.prog g (#[.agg vs.toArray] ++ lb) W fun e w'=>e=.returned (.bool (p x))/\Bel W w') :
  Calls Tryz.prog 54 #[v,.func (.func g) #[] lb] w0 (qca VMsg zMsg (xs.find? p) wv w0):=by
 obtain⟨q,c,rfl,hl,hcap,hel⟩:=hv;have EL:=Lib.hid hel;have HP:=Lib.hid hp;have HVB:=Lib.hid hvb;have VF:=Lib.hid (show(xs.drop 0).find? p=xs.find? p from rfl);generalize xs.find? p=Z at VF;have hS0:=Lib.hid ((ST.start w0).addbox zMsg.toArray 57);clear hel hcap hp hvb
 go_enter Tryz.func54,Tryz.ntmps54
 go_wp2
 go_loopw [11] (fun i wr => ∃k:Nat,k<=xs.length/\i=.int .i64 k/\Hid (ST w0 [] [⟨w0.heap.size,zMsg.toArray,57⟩] wr)/\Hid ((xs.drop k).find? p=Z)) (fun i _=>xs.length-(intOf i).toNat)
 case atStart=>exact⟨0,by omega,rfl,hS0,VF⟩
 case round=>as_aux_lemma=>
  clear hS0 VF;obtain⟨k,hk,rfl,hS,hx⟩:=hrel;by_cases hlt:k<xs.length
  ·obtain⟨b,off,rfl,hbs,vs,hce,hvs⟩:=EL.out k _ (List.getElem?_eq_getElem hlt)
   have hki:(k:Int)<(xs.length:Int):=by omega
   have hst:=hx.out;rw [List.drop_eq_getElem_cons hlt,List.find?_cons]at hst;have HMEM:=Lib.hid (List.getElem_mem hlt);have hlen:=VMsg.len _ _ _ hvs;have hone:=VMsg.one _ _ _ hvs;have HL:=Lib.hid hlen;have HO:=Lib.hid hone;have HVS:=Lib.hid hvs;have HC:=Lib.hid (fun i v hi=>(Bel.of HVB.out hS.out.bel).some (hce i v hi));have Z0:vs.toArray.size=5:=by rw [List.size_toArray];exact hlen
   have Z1:=Lib.hid (show(Tryz.prog.info? 57).map (·.size)=some vs.toArray.size by rw [Z0];exact ar_M);have Z2:=Lib.hid (show zMsg.toArray.size=vs.toArray.size by rw [Z0];rfl);clear hx hce hvs hlen hone Z0;generalize xs[k]=x at *;have HA:=Lib.hid (hS.out.addbox vs.toArray 57);have HB0:=Lib.hid (HA.out.box 0 rfl);have hcall:=HP.out _ HMEM.out vs (wr.alloc (.cells vs.toArray 57)) (VMsg.stays _ _ _ _ (Bel.of HVB.out HA.out.bel) HVS.out) HA.out.bel;cases hq:p x with
   | true=>
    rw [hq]at hcall hst;have HC2:=Lib.hid hcall;have HST:=Lib.hid (show some x=Z from hst);clear hcall hst hq
    go_wp2_with (first
     | (refine qaa rfl 57 _ rfl b (off+k*5) 5 vs rfl HC.out ag_M sz_M HL.out ?_)
     | (refine qa3 (old:=zMsg.toArray) rfl 57 _ _ rfl wr rfl wr.heap.size rfl vs.toArray rfl rfl Z1.out Z2.out HO.out ?_)
     | (refine qa6 rfl 57 _ rfl wr.heap.size vs.toArray 57 rfl HB0.out _ Tryz.underlying57 rfl Z1.out ?_)
     | (refine qa6 rfl 57 _ rfl wr.heap.size vs.toArray 57 rfl HB1.out _ Tryz.underlying57 rfl Z1.out ?_)
     | (refine qa8 rfl 57 _ _ rfl w0.heap.size vs.toArray zMsg.toArray 57 rfl rfl HB2.out Z1.out Z2.out HO.out ?_)
     | (go_at_fn g;(with_reducible refine HC2.out.mono ?_);rintro e w1 ⟨rfl,k1⟩;have k1:Bel _ w1:=k1;have H1:=Lib.hid (HA.out.belw k1);have HB1:=Lib.hid (H1.out.box 0 rfl);have HB2:=Lib.hid (H1.out.box 1 rfl);clear k1))
    have HZ:=Lib.hid (H1.out.setrowbox 1 rfl vs.toArray);refine bodyPost_ret (v:=.tuple #[.agg vs.toArray,.bool true]) ?hres1 rfl ?hpost1
    case hres1=>exact qb1 rfl rfl rfl (HZ.out.box 1 rfl) Tryz.underlying57 rfl Z1.out
    case hpost1=>exact⟨vs,by rw [←HST.out];rfl,by rw [←HST.out];exact HVS.out,HZ.out.bel⟩
   | false=>
    rw [hq]at hcall hst;have HC2:=Lib.hid hcall;have HST:=Lib.hid (show(xs.drop (k+1)).find? p=Z from hst);clear hcall hst hq
    go_wp2_with (first
     | (refine qaa rfl 57 _ rfl b (off+k*5) 5 vs rfl HC.out ag_M sz_M HL.out ?_)
     | (refine qa3 (old:=zMsg.toArray) rfl 57 _ _ rfl wr rfl wr.heap.size rfl vs.toArray rfl rfl Z1.out Z2.out HO.out ?_)
     | (refine qa6 rfl 57 _ rfl wr.heap.size vs.toArray 57 rfl HB0.out _ Tryz.underlying57 rfl Z1.out ?_)
     | (go_at_fn g;(with_reducible refine HC2.out.mono ?_);rintro e w1 ⟨rfl,k1⟩;have k1:Bel _ w1:=k1;have H1:=Lib.hid (HA.out.belw k1);clear k1))
    go_roundw
    case rel=>exact⟨k+1,by omega,by go_num,Lib.hid H1.out.dropbox0,HST⟩
    case measure=>simp [intOf];omega
  ·have hkl:k=xs.length:=by omega
   have hz:none=Z:=by have:=hx.out;rw [hkl,List.drop_length]at this;exact this
   subst hz;clear hx;have HA:=Lib.hid (hS.out.addbox zMsg.toArray 57);have HB0:=Lib.hid (HA.out.box 0 rfl);have HB1:=Lib.hid (HA.out.box 1 rfl);have HO1:=Lib.hid (show zMsg.toArray.all (·.oneCell')=true by simp [zMsg,Value.oneCell'])
   go_wp2_with (first
    | (refine qa6 rfl 57 _ rfl wr.heap.size zMsg.toArray 57 rfl HB0.out _ Tryz.underlying57 rfl ar_M ?_)
    | (refine qa8 rfl 57 _ _ rfl w0.heap.size zMsg.toArray zMsg.toArray 57 rfl rfl HB1.out ar_M rfl HO1.out ?_))
   have HZ:=Lib.hid (HA.out.setrowbox 1 rfl zMsg.toArray);refine bodyPost_ret (v:=.tuple #[.agg zMsg.toArray,.bool false]) ?hres2 rfl ?hpost2
   case hres2=>exact qb1 rfl rfl rfl (HZ.out.box 1 rfl) Tryz.underlying57 rfl ar_M
   case hpost2=>exact⟨zMsg,rfl,rfl,HZ.out.bel⟩
theorem ar_F:(Tryz.prog.info? 65).map (·.size)=some 16:=by kernel_rfl
theorem ag_F (w:World):(isAgg 65).run Tryz.prog w=.ok true w:=by kernel_rfl
theorem sz_F (w:World):(Go.sizeOf 65).run Tryz.prog w=.ok 16 w:=by kernel_rfl
theorem qg4 (g:Nat) (lb:Array Value) (eg : ∀args w,(callFunc g args).run Tryz.prog w=.ok (.enter g args) w) (v:Value) (xs:List PField) (p:PField->Bool) (wv w0:World) (hvb:Bel wv w0) (hv:Sv 16 VField wv v xs) (hp : ∀x ∈ xs, ∀vs W,VField W vs x->Bel w0 W->Calls Tryz.prog g (#[.agg vs.toArray] ++ lb) W fun e w'=>e=.returned (.bool (p x))/\Bel W w') :
  Calls Tryz.prog 56 #[v,.func (.func g) #[] lb] w0 (qca VField zFld (xs.find? p) wv w0):=by
 obtain⟨q,c,rfl,hl,hcap,hel⟩:=hv;have EL:=Lib.hid hel;have HP:=Lib.hid hp;have HVB:=Lib.hid hvb;have VF:=Lib.hid (show(xs.drop 0).find? p=xs.find? p from rfl);generalize xs.find? p=Z at VF;have hS0:=Lib.hid ((ST.start w0).addbox zFld.toArray 65);clear hel hcap hp hvb
 go_enter Tryz.func56,Tryz.ntmps56
 go_wp2
 go_loopw [11] (fun i wr => ∃k:Nat,k<=xs.length/\i=.int .i64 k/\Hid (ST w0 [] [⟨w0.heap.size,zFld.toArray,65⟩] wr)/\Hid ((xs.drop k).find? p=Z)) (fun i _=>xs.length-(intOf i).toNat)
 case atStart=>exact⟨0,by omega,rfl,hS0,VF⟩
 case round=>as_aux_lemma=>
  clear hS0 VF;obtain⟨k,hk,rfl,hS,hx⟩:=hrel;by_cases hlt:k<xs.length
  ·obtain⟨b,off,rfl,hbs,vs,hce,hvs⟩:=EL.out k _ (List.getElem?_eq_getElem hlt)
   have hki:(k:Int)<(xs.length:Int):=by omega
   have hst:=hx.out;rw [List.drop_eq_getElem_cons hlt,List.find?_cons]at hst;have HMEM:=Lib.hid (List.getElem_mem hlt);have hlen:=VField.len _ _ _ hvs;have hone:=VField.one _ _ _ hvs;have HL:=Lib.hid hlen;have HO:=Lib.hid hone;have HVS:=Lib.hid hvs;have HC:=Lib.hid (fun i v hi=>(Bel.of HVB.out hS.out.bel).some (hce i v hi));have Z0:vs.toArray.size=16:=by rw [List.size_toArray];exact hlen
   have Z1:=Lib.hid (show(Tryz.prog.info? 65).map (·.size)=some vs.toArray.size by rw [Z0];exact ar_F);have Z2:=Lib.hid (show zFld.toArray.size=vs.toArray.size by rw [Z0];rfl);clear hx hce hvs hlen hone Z0;generalize xs[k]=x at *;have HA:=Lib.hid (hS.out.addbox vs.toArray 65);have HB0:=Lib.hid (HA.out.box 0 rfl);have hcall:=HP.out _ HMEM.out vs (wr.alloc (.cells vs.toArray 65)) (VField.stays _ _ _ _ (Bel.of HVB.out HA.out.bel) HVS.out) HA.out.bel;cases hq:p x with
   | true=>
    rw [hq]at hcall hst;have HC2:=Lib.hid hcall;have HST:=Lib.hid (show some x=Z from hst);clear hcall hst hq
    go_wp2_with (first
     | (refine qaa rfl 65 _ rfl b (off+k*16) 16 vs rfl HC.out ag_F sz_F HL.out ?_)
     | (refine qa3 (old:=zFld.toArray) rfl 65 _ _ rfl wr rfl wr.heap.size rfl vs.toArray rfl rfl Z1.out Z2.out HO.out ?_)
     | (refine qa6 rfl 65 _ rfl wr.heap.size vs.toArray 65 rfl HB0.out _ Tryz.underlying65 rfl Z1.out ?_)
     | (refine qa6 rfl 65 _ rfl wr.heap.size vs.toArray 65 rfl HB1.out _ Tryz.underlying65 rfl Z1.out ?_)
     | (refine qa8 rfl 65 _ _ rfl w0.heap.size vs.toArray zFld.toArray 65 rfl rfl HB2.out Z1.out Z2.out HO.out ?_)
     | (go_at_fn g;(with_reducible refine HC2.out.mono ?_);rintro e w1 ⟨rfl,k1⟩;have k1:Bel _ w1:=k1;have H1:=Lib.hid (HA.out.belw k1);have HB1:=Lib.hid (H1.out.box 0 rfl);have HB2:=Lib.hid (H1.out.box 1 rfl);clear k1))
    have HZ:=Lib.hid (H1.out.setrowbox 1 rfl vs.toArray);refine bodyPost_ret (v:=.tuple #[.agg vs.toArray,.bool true]) ?hres1 rfl ?hpost1
    case hres1=>exact qb1 rfl rfl rfl (HZ.out.box 1 rfl) Tryz.underlying65 rfl Z1.out
    case hpost1=>exact⟨vs,by rw [←HST.out];rfl,by rw [←HST.out];exact HVS.out,HZ.out.bel⟩
   | false=>
    rw [hq]at hcall hst;have HC2:=Lib.hid hcall;have HST:=Lib.hid (show(xs.drop (k+1)).find? p=Z from hst);clear hcall hst hq
    go_wp2_with (first
     | (refine qaa rfl 65 _ rfl b (off+k*16) 16 vs rfl HC.out ag_F sz_F HL.out ?_)
     | (refine qa3 (old:=zFld.toArray) rfl 65 _ _ rfl wr rfl wr.heap.size rfl vs.toArray rfl rfl Z1.out Z2.out HO.out ?_)
     | (refine qa6 rfl 65 _ rfl wr.heap.size vs.toArray 65 rfl HB0.out _ Tryz.underlying65 rfl Z1.out ?_)
     | (go_at_fn g;(with_reducible refine HC2.out.mono ?_);rintro e w1 ⟨rfl,k1⟩;have k1:Bel _ w1:=k1;have H1:=Lib.hid (HA.out.belw k1);clear k1))
    go_roundw
    case rel=>exact⟨k+1,by omega,by go_num,Lib.hid H1.out.dropbox0,HST⟩
    case measure=>simp [intOf];omega
  ·have hkl:k=xs.length:=by omega
   have hz:none=Z:=by have:=hx.out;rw [hkl,List.drop_length]at this;exact this
   subst hz;clear hx;have HA:=Lib.hid (hS.out.addbox zFld.toArray 65);have HB0:=Lib.hid (HA.out.box 0 rfl);have HB1:=Lib.hid (HA.out.box 1 rfl);have HO1:=Lib.hid (show zFld.toArray.all (·.oneCell')=true by simp [zFld,Value.oneCell'])
   go_wp2_with (first
    | (refine qa6 rfl 65 _ rfl wr.heap.size zFld.toArray 65 rfl HB0.out _ Tryz.underlying65 rfl ar_F ?_)
    | (refine qa8 rfl 65 _ _ rfl w0.heap.size zFld.toArray zFld.toArray 65 rfl rfl HB1.out ar_F rfl HO1.out ?_))
   have HZ:=Lib.hid (HA.out.setrowbox 1 rfl zFld.toArray);refine bodyPost_ret (v:=.tuple #[.agg zFld.toArray,.bool false]) ?hres2 rfl ?hpost2
   case hres2=>exact qb1 rfl rfl rfl (HZ.out.box 1 rfl) Tryz.underlying65 rfl ar_F
   case hpost2=>exact⟨zFld,rfl,rfl,HZ.out.bel⟩
theorem qbq {r:Option PMsg} {w0:World} {vs:List Value} (h:AtV VMsg zMsg w0 vs r):vs.length=5/\vs.toArray.all (·.oneCell')=true:=by
 cases r with
 | none=>cases (show vs=zMsg from h);exact⟨rfl,by simp [zMsg,Value.oneCell']⟩
 | some x=>exact⟨VMsg.len _ _ _ h,VMsg.one _ _ _ h⟩
theorem qc9 {r:Option PField} {w0:World} {vs:List Value} (h:AtV VField zFld w0 vs r):vs.length=16/\vs.toArray.all (·.oneCell')=true:=by
 cases r with
 | none=>cases (show vs=zFld from h);exact⟨rfl,by simp [zFld,Value.oneCell']⟩
 | some x=>exact⟨VField.len _ _ _ h,VField.one _ _ _ h⟩
theorem cl_dsM (nm name:Str) (q1 q2 q3 q4:Option Addr) (n1 n2 n3 n4 c1 c2 c3 c4:Nat) (B:Nat) (W:World) (hB:W.cell? ⟨B,0,none⟩=some (.string (S name))) :
  Calls Tryz.prog 55 #[.agg #[.string (S nm),.slice q1 n1 c1,.slice q2 n2 c2,.slice q3 n3 c3,.slice q4 n4 c4],.pointer (some ⟨B,0,none⟩)] W fun e w'=>e=.returned (.bool (decide (nm=name)))/\Bel W w':=by
 have hlt:B<W.heap.size:=World.block_lt_of_cell? W _ hB;have hv:=Lib.hid (eq_S nm name)
 go_enter Tryz.func55,Tryz.ntmps55
 go_wp2;go_ret
 exact⟨qa7 hv.out,(Bel.refl W).alloc _⟩
theorem cl_dsF (num card key tk dk dx:Int) (name tn un dt:Str) (hd:Bool) (r1 r2 r3 r4 r5:Option Addr) (n1 n2 n3 n4 n5 d1 d2 d3 d4 d5:Nat) (k:Int) (B:Nat) (W:World) (hB:W.cell? ⟨B,0,none⟩=some (.int .i64 k)) :
  Calls Tryz.prog 57 #[.agg #[.int .i64 num,.string (S name),.int .i64 card,.int .i64 key,.int .i64 tk,.string (S tn),.string (S un),.bool hd,.int .i64 dk,.int .u64 dx,.string (S dt),.slice r1 n1 d1,.slice r2 n2 d2,.slice r3 n3 d3,.slice r4 n4 d4,.slice r5 n5 d5],.pointer (some ⟨B,0,none⟩)] W fun e w'=>e=.returned (.bool (decide (num=k)))/\Bel W w':=by
 have hlt:B<W.heap.size:=World.block_lt_of_cell? W _ hB;have hv:=Lib.hid (show(num == k)=decide (num=k)by rw [Bool.eq_iff_iff];simp)
 go_enter Tryz.func57,Tryz.ntmps57
 go_wp2;go_ret
 exact⟨qa7 hv.out,(Bel.refl W).alloc _⟩
theorem cl_dsN (num card key tk dk dx:Int) (name tn un dt:Str) (hd:Bool) (r1 r2 r3 r4 r5:Option Addr) (n1 n2 n3 n4 n5 d1 d2 d3 d4 d5:Nat) (nm:Str) (B:Nat) (W:World) (hB:W.cell? ⟨B,0,none⟩=some (.string (S nm))) :
  Calls Tryz.prog 116 #[.agg #[.int .i64 num,.string (S name),.int .i64 card,.int .i64 key,.int .i64 tk,.string (S tn),.string (S un),.bool hd,.int .i64 dk,.int .u64 dx,.string (S dt),.slice r1 n1 d1,.slice r2 n2 d2,.slice r3 n3 d3,.slice r4 n4 d4,.slice r5 n5 d5],.pointer (some ⟨B,0,none⟩)] W fun e w'=>e=.returned (.bool (decide (name=nm)))/\Bel W w':=by
 have hlt:B<W.heap.size:=World.block_lt_of_cell? W _ hB;have hv:=Lib.hid (eq_S name nm)
 go_enter Tryz.func116,Tryz.ntmps116
 go_wp2;go_ret
 exact⟨qa7 hv.out,(Bel.refl W).alloc _⟩
theorem qbt (mv ev sv:Value) (s:PSchema) (name:Str) (wv w0:World) (hvb:Bel wv w0) (hv:VSchema wv [mv,ev,sv] s) :
  Calls Tryz.prog 26 #[.agg #[mv,ev,sv],.string (S name)] w0 (qca VMsg zMsg (msgOf s name) wv w0):=by
 obtain⟨_,_,_,he,hm,hev,hsv⟩:=hv;cases he;obtain⟨q2,c2,rfl,hl2⟩:=qa5 hev;obtain⟨q3,c3,rfl,hl3⟩:=qa5 hsv;obtain⟨q1,c1,rfl,hl1⟩:=qa5 hm;have HM:=Lib.hid hm;clear hm hev hsv;have HVB:=Lib.hid hvb;clear hvb;have hS0':=((((ST.start w0).addbox #[.slice q1 s.msgs.length c1,.slice q2 s.enums.length c2,.slice q3 s.svcs.length c3] 26).addbox #[.string (S name)] 9).addbox #[.string ⟨#[]⟩,.slice none 0 0,.slice none 0 0,.slice none 0 0,.slice none 0 0] 57);simp only [World.size_alloc]at hS0';have hS0:=Lib.hid hS0';have HN:=Lib.hid (show World.cell? _ _=some (.string (S name))from hS0'.cell 1 rfl 0);clear hS0'
 have CF:=Lib.hid (fun W (kk:Bel w0 W) (hc:W.cell? ⟨w0.heap.size+1,0,none⟩=some (.string (S name)))=>show Calls Tryz.prog 54 #[.slice q1 s.msgs.length c1,.func (.func 55) #[] #[.pointer (some ⟨w0.heap.size+1,0,none⟩)]] W (qca VMsg zMsg (msgOf s name) wv W)from qnx 55 _ (enters_of Tryz.func55 (by kernel_rfl) rfl) _ s.msgs (fun m=>decide (m.name=name)) wv W (Bel.of HVB.out kk) HM.out (fun x hx vs W2 hvs hb2=>by
  obtain⟨_,_,_,_,rfl,h1,h2,h3,h4⟩:=hvs;obtain⟨_,_,rfl,_⟩:=qa5 h1;obtain⟨_,_,rfl,_⟩:=qa5 h2;obtain⟨_,_,rfl,_⟩:=qa5 h3;obtain⟨_,_,rfl,_⟩:=qa5 h4
  exact cl_dsM x.name name _ _ _ _ _ _ _ _ _ _ _ _ _ W2 (hb2.some hc)))
 generalize (msgOf s name)=Z at CF
 go_enter Tryz.func26,Tryz.ntmps26
 go_wp2_with (first
  | (go_at_call 54;(with_reducible refine(CF.out _ hS0.out.bel HN.out).mono ?_);rintro e w1 ⟨vs,rfl,hvs,k1⟩;have k1:Bel _ w1:=k1;obtain⟨hlen,hone⟩:=qbq hvs;have HVS:=Lib.hid hvs;have Z0:vs.toArray.size=5:=(by rw [List.size_toArray];exact hlen);have Z1:=Lib.hid (show(Tryz.prog.info? 57).map (·.size)=some vs.toArray.size by rw [Z0];exact ar_M);have Z2:=Lib.hid (show(#[.string ⟨#[]⟩,.slice none 0 0,.slice none 0 0,.slice none 0 0,.slice none 0 0]:Array Value).size=vs.toArray.size by rw [Z0];rfl);have HO:=Lib.hid hone;have H1:=Lib.hid (hS0.out.belw k1);have HB1:=Lib.hid (H1.out.box 0 rfl);clear k1 hlen hone Z0 hvs)
  | (refine qa8 rfl 57 _ _ rfl (w0.heap.size+1+1) vs.toArray #[.string ⟨#[]⟩,.slice none 0 0,.slice none 0 0,.slice none 0 0,.slice none 0 0] 57 rfl rfl HB1.out Z1.out Z2.out HO.out ?_))
 have HZ:=Lib.hid (H1.out.setrowbox 0 rfl vs.toArray);refine bodyPost_ret (v:=.tuple #[.agg vs.toArray,.bool Z.isSome]) ?hres1 rfl ?hpost1
 case hres1=>exact qb1 rfl rfl rfl (HZ.out.box 0 rfl) Tryz.underlying57 rfl Z1.out
 case hpost1=>exact⟨vs,rfl,HVS.out,HZ.out.bel⟩
end
section
open Go.RowKit Ck Ma
theorem agg_Note (w:World):(isAgg 196).run Tryz.prog w=.ok true w:=by kernel_rfl
theorem qoz (w:World):(Go.sizeOf 196).run Tryz.prog w=.ok 8 w:=by kernel_rfl
theorem ix_Note {α:Type} (V:World->List Value->α->Prop) (hV : ∀W vs x,V W vs x->vs.length=8) (g:Nat) (lb:Array Value) (eg : ∀args w,(callFunc g args).run Tryz.prog w=.ok (.enter g args) w) (v:Value) (xs:List α) (p:α->Bool) (w:World)
  (hv:Sv 8 V w v xs) (hp:PredOf α V w xs p g lb) :
  Calls Tryz.prog 158 #[v,.func (.func g) #[] lb] w fun e w'=>e=.returned (.int .i64 (idxL p xs))/\Below w.heap.size w w':=by
 obtain⟨q,c,rfl,hl,hcap,hel⟩:=hv;have EL:=Lib.hid hel;have HP:=Lib.hid hp;have HV:=Lib.hid hV;have aE:=agg_Note;obtain⟨K,hK⟩ : ∃K,K=8:=⟨_,rfl⟩;have zE : ∀w,(Go.sizeOf 196).run Tryz.prog w=.ok K w:=hK ▸ qoz;have HK:=Lib.hid hK;clear hel hp hV hK
 go_enter Tryz.func158,Tryz.ntmps158
 go_wp2
 go_loopw [5,8] (fun _ i wr => ∃k:Nat,k<=xs.length/\i=.int .i64 k/\Bel w wr/\Hid (∀j y,j<k->xs[j]? = some y->p y=false)) (fun _ i _=>xs.length-(intOf i).toNat)
 case atStart=>exact⟨0,by omega,rfl,Bel.refl _,Lib.hid fun j y hj=>absurd hj (Nat.not_lt_zero _)⟩
 case round=>
  obtain⟨k,hk,rfl,kw,A⟩:=hrel;by_cases hlt:k<xs.length
  ·have hg:xs[k]? = some xs[k]:=List.getElem?_eq_getElem hlt
   obtain⟨b,off,rfl,hbs,vs,hce,hvs⟩:=EL.out k _ hg;have hki:(k:Int)<(xs.length:Int):=by omega
   have l2:Sem.run Tryz.prog (loadCellsFrom ⟨b,off+k*K,none⟩ 0 K #[]) wr=.ok vs.toArray wr:=run_loadCellsFrom_list Tryz.prog _ _ vs K ((HV.out _ _ _ hvs).trans HK.out.symm) (fun i v hi=>by
    rw [HK.out,Addr.add_lit]
    exact kw.some (hce i v hi))
   have HG:=Lib.hid hg;have hcall:=HP.out _ _ wr (List.getElem_mem hlt) hvs kw;clear hce hvs hg;generalize xs[k]=y at *;cases hq:p y with
   | true=>
    rw [hq]at hcall;have HC:=Lib.hid hcall;have HQ:=Lib.hid hq;clear hcall hq
    go_wp2_with (go_at_fn g;(with_reducible refine HC.out.mono ?_);rintro e w' ⟨rfl,hb'⟩)
    go_ret;exact⟨qbj (qni p xs k y HG.out HQ.out A.out).symm,Bel.of kw hb'⟩
   | false=>
    rw [hq]at hcall;have HC:=Lib.hid hcall;have HQ:=Lib.hid hq;clear hcall hq
    go_wp2_with (go_at_fn g;(with_reducible refine HC.out.mono ?_);rintro e w' ⟨rfl,hb'⟩;have k2:=Bel.of kw hb';clear hb')
    refine⟨⟨k+1,by omega,rfl,k2,Lib.hid fun j z hj hz=>?_⟩,by simp [intOf];omega⟩;by_cases e:j=k
    ·subst e
     have:=HG.out;rw [hz]at this;cases this;exact HQ.out
    ·exact A.out j z (by omega) hz
  ·have hki : ¬(k:Int)<(xs.length:Int):=by omega
   have hkl:k=xs.length:=by omega
   subst hkl;go_wp2;go_ret;exact⟨qbj (qkc p xs A.out).symm,kw.out⟩
theorem VNote.len (w:World) (vs:List Value) (x:PNote) (h:VNote w vs x):vs.length=8:=by
 obtain⟨_,rfl,_,_,_,_,_,_,_,_,rfl,_⟩:=h;rfl
theorem cl_note (nm name:Str) (k x:Int) (t:Str) (p1 p2 p3 p4:Option Addr) (n1 n2 n3 n4 c1 c2 c3 c4:Nat) (B:Nat) (W:World) (hB:W.cell? ⟨B,0,none⟩=some (.string (S name))) :
  Calls Tryz.prog 159 #[.agg #[.string (S nm),.int .i64 k,.int .u64 x,.string (S t),.slice p1 n1 c1,.slice p2 n2 c2,.slice p3 n3 c3,.slice p4 n4 c4],.pointer (some ⟨B,0,none⟩)] W fun e w'=>e=.returned (.bool (decide (nm=name)))/\Below W.heap.size W w':=by
 have hlt:B<W.heap.size:=World.block_lt_of_cell? W _ hB;have hv:=Lib.hid (eq_S nm name)
 go_enter Tryz.func159,Tryz.ntmps159
 go_wp2;go_ret
 exact⟨qa7 hv.out,(Below.refl _ _).alloc (Nat.le_refl _) _⟩
theorem nt_index (v:Value) (l:List PNote) (name:Str) (w:World) (hv:Notes w v l) :
  Calls Tryz.prog 154 #[v,.string (S name)] w fun e w'=>e=.returned (.int .i64 (idxL (fun n=>decide (n.name=name)) l))/\Bel w w':=by
 have hs : ∀W,Bel w W->W.cell? ⟨w.heap.size,0,none⟩=some (.string (S name))->Calls Tryz.prog 158 #[v,.func (.func 159) #[] #[.pointer (some ⟨w.heap.size,0,none⟩)]] W fun e w'=>e=.returned (.int .i64 (idxL (fun n=>decide (n.name=name)) l))/\Below W.heap.size W w':=fun W hb hc=>by
  refine ix_Note VNote VNote.len _ _ (enters_of Tryz.func159 (by kernel_rfl) rfl) v l _ W (hv.bel VNote.stays hb) (fun x vs W2 _ hx hb2=>?_);obtain⟨_,rfl,_,_,_,_,_,_,_,_,rfl,_⟩:=hx;exact cl_note x.name name _ _ _ _ _ _ _ _ _ _ _ _ _ _ _ _ W2 (hb2.some hc)
 have cs:=Lib.hid hs;clear hs;obtain⟨q,c,rfl,hl⟩:=qa5 hv;clear hv;generalize idxL (fun n:PNote=>decide (n.name=name)) l=R at cs
 go_enter Tryz.func154,Tryz.ntmps154
 go_wp2_with (go_at_call 158;(with_reducible refine(cs.out _ (by(repeat (first|(with_reducible assumption)|(with_reducible exact Bel.refl _)|(with_reducible refine Bel.drew ?_)|(with_reducible refine Bel.drewN ?_ _)|(with_reducible refine Bel.alloc ?_ _)|((with_reducible refine qbf ?_ ?hge);(case hge=>(first|omega|(simp;omega))))))) (by go_simp)).mono ?_);rintro e w1 ⟨rfl,h1⟩;have k1:Bel w w1:=Bel.of (by(repeat (first|(with_reducible assumption)|(with_reducible exact Bel.refl _)|(with_reducible refine Bel.drew ?_)|(with_reducible refine Bel.drewN ?_ _)|(with_reducible refine Bel.alloc ?_ _)|((with_reducible refine qbf ?_ ?hge);(case hge=>(first|omega|(simp;omega))))))) h1;clear h1)
 go_ret;exact⟨rfl,k1⟩
def zVal:List Value:=[.int .i64 0,.int .u64 0,.string ByteArray.empty,.slice none 0 0,.slice none 0 0,.slice none 0 0,.slice none 0 0]
def ValAt (vs:List Value):Option PNote->Prop
 | some n=>VVal vs n.val
 | none=>vs=zVal
def qq8 (r:Option PNote) (w:World) (e:Ending) (w':World):Prop := ∃vs,e=.returned (.tuple #[.agg vs.toArray,.bool r.isSome])/\ValAt vs r/\Bel w w'
theorem ar_V:(Tryz.prog.info? 46).map (·.size)=some 7:=by kernel_rfl
theorem ag_V (w:World):(isAgg 46).run Tryz.prog w=.ok true w:=by kernel_rfl
theorem sz_V (w:World):(Go.sizeOf 46).run Tryz.prog w=.ok 7 w:=by kernel_rfl
theorem nt_Find (v:Value) (l:List PNote) (name:Str) (w0:World) (hv:Notes w0 v l) :
  Calls Tryz.prog 141 #[v,.string (S name)] w0 (qq8 (l.find? fun n=>decide (n.name=name)) w0):=by
 have CI:=Lib.hid (fun W (kk:Bel w0 W)=>nt_index v l name W (hv.bel VNote.stays kk));have hS0:=Lib.hid ((ST.start w0).addbox #[.int .i64 0,.int .u64 0,.string ⟨#[]⟩,.slice none 0 0,.slice none 0 0,.slice none 0 0,.slice none 0 0] 46);obtain⟨p,c,rfl,hl,hcap,hel⟩:=hv;rcases qkd (fun n:PNote=>decide (n.name=name)) l with⟨hneg,hnone⟩|⟨k,x,hk,hx,hsome,hkl⟩
 ·rw [hnone]
  have hneg2:decide (idxL (fun n:PNote=>decide (n.name=name)) l<0)=true:=by simpa using hneg
  generalize idxL (fun n:PNote=>decide (n.name=name)) l=R at CI hneg hneg2;clear hel hnone
  go_enter Tryz.func141,Tryz.ntmps141
  go_wp2_with (first
   | (go_at_call 154;(with_reducible refine(CI.out _ hS0.out.bel).mono ?_);rintro e w1 ⟨rfl,k1⟩;have k1:Bel _ w1:=k1;have H1:=Lib.hid (hS0.out.belw k1);have HB1:=Lib.hid (H1.out.box 0 rfl);clear k1)
   | (refine qa8 rfl 46 _ _ rfl w0.heap.size zVal.toArray _ 46 rfl rfl HB1.out ar_V rfl (by simp [zVal,Value.oneCell']) ?_))
  have HZ:=Lib.hid (H1.out.setrowbox 0 rfl zVal.toArray);refine bodyPost_ret (v:=.tuple #[.agg zVal.toArray,.bool false]) ?hres1 rfl ?hpost1
  case hres1=>exact qb1 rfl rfl rfl (HZ.out.box 0 rfl) Tryz.underlying46 rfl ar_V
  case hpost1=>exact⟨zVal,rfl,rfl,HZ.out.bel⟩
 ·rw [hsome]
  rw [hk]at CI;obtain⟨b,off,rfl,hbs,vs,hce,hvs⟩:=hel k x hx;obtain⟨vv,rfl,hval⟩:=hvs;have HV:=Lib.hid hval;have hvl:vv.length=7:=by obtain⟨_,_,_,_,_,_,_,_,rfl,_⟩:=hval;rfl
  have hvo:vv.toArray.all (·.oneCell')=true:=by obtain⟨_,_,_,_,_,_,_,_,rfl,_⟩:=hval;simp [Value.oneCell']
  have HC:=Lib.hid (show ∀i u,vv[i]? = some u->w0.cell? ⟨b,off+k*8+1+i,none⟩=some u from fun i u hu=>by
   have:=hce (i+1) u (by simpa using hu)
   rwa [show off+k*8+(i+1)=off+k*8+1+i by omega]at this)
  have Z0:vv.toArray.size=7:=by rw [List.size_toArray];exact hvl
  have Z1:=Lib.hid (show(Tryz.prog.info? 46).map (·.size)=some vv.toArray.size by rw [Z0];exact ar_V);have Z2:=Lib.hid (show(#[.int .i64 0,.int .u64 0,.string ⟨#[]⟩,.slice none 0 0,.slice none 0 0,.slice none 0 0,.slice none 0 0]:Array Value).size=vv.toArray.size by rw [Z0];rfl);have HL:=Lib.hid hvl;have HO:=Lib.hid hvo;have hki:(k:Int)<(l.length:Int):=by omega
  have hkn : ¬((k:Int)<0):=by omega
  clear hel hce hval hvl hvo Z0 hx hk hsome
  go_enter Tryz.func141,Tryz.ntmps141
  go_wp2_with (first
   | (go_at_call 154;(with_reducible refine(CI.out _ hS0.out.bel).mono ?_);rintro e w1 ⟨rfl,k1⟩;have k1:Bel _ w1:=k1;have H1:=Lib.hid (hS0.out.belw k1);have HB1:=Lib.hid (H1.out.box 0 rfl);have HC1:=Lib.hid (fun i u hu=>H1.out.bel.some (HC.out i u hu));clear k1)
   | (refine qaa rfl 46 _ rfl b (off+k*8+1) 7 vv rfl HC1.out ag_V sz_V HL.out ?_)
   | (refine qa8 rfl 46 _ _ rfl w0.heap.size vv.toArray _ 46 rfl rfl HB1.out Z1.out Z2.out HO.out ?_))
  have HZ:=Lib.hid (H1.out.setrowbox 0 rfl vv.toArray);refine bodyPost_ret (v:=.tuple #[.agg vv.toArray,.bool true]) ?hres2 rfl ?hpost2
  case hres2=>exact qb1 rfl rfl rfl (HZ.out.box 0 rfl) Tryz.underlying46 rfl Z1.out
  case hpost2=>exact⟨vv,rfl,HV.out,HZ.out.bel⟩
theorem qny (v:Value) (l:List PNote) (nm:Str) (w0:World) (hv:Notes w0 v l) :
  Calls Tryz.prog 118 #[v,.string (S nm)] w0 fun e w'=>e=.returned (.bool (qbu l nm))/\Bel w0 w':=by
 have CF:=Lib.hid (show Calls Tryz.prog 141 #[v,.string ⟨#[97,108,105,97,115]⟩] w0 (qq8 (l.find? fun n=>decide (n.name=qhf)) w0)from nt_Find v l qhf w0 hv);have hal:qbu l nm=match l.find? (fun n=>decide (n.name=qhf))with|some n=>decide (n.val.k=7) && decide (n.val.t=nm)|none=>false:=rfl
 generalize qbu l nm=R at hal;obtain⟨q,c,rfl,_⟩:=qa5 hv;clear hv;cases hz:l.find? (fun n=>decide (n.name=qhf))with
 | none=>
  rw [hz]at CF hal;have hal2:R=false:=hal;subst hal2;clear hal hz
  go_enter Tryz.func118,Tryz.ntmps118
  go_wp2_with (go_at_call 141;(with_reducible refine CF.out.mono ?_);rintro e w1 ⟨vs,rfl,hvs,k1⟩;have hvs2:vs=[.int .i64 0,.int .u64 0,.string ⟨#[]⟩,.slice none 0 0,.slice none 0 0,.slice none 0 0,.slice none 0 0]:=hvs;subst hvs2;have K1:=Lib.hid k1;clear k1 hvs)
  go_ret;exact⟨rfl,K1.out.alloc _⟩
 | some n=>
  rw [hz]at CF hal;have hal2:R=(decide (n.val.k=7) && decide (n.val.t=nm)):=hal;have HR:=Lib.hid hal2;have HE:=Lib.hid (eq_S n.val.t nm);have HK:=Lib.hid (show(n.val.k == 7)=decide (n.val.k=7)by rw [Bool.eq_iff_iff];simp);clear hal hz hal2;by_cases h7:n.val.k=7
  ·have h7b:(n.val.k == 7)=true:=ieq h7
   have HR2:=Lib.hid (show R=decide (n.val.t=nm)by rw [HR.out,h7];simp);clear h7
   go_enter Tryz.func118,Tryz.ntmps118
   go_wp2_with (go_at_call 141;(with_reducible refine CF.out.mono ?_);rintro e w1 ⟨vs,rfl,hvs,k1⟩;have hvs2:VVal vs n.val:=hvs;obtain⟨p1,p2,p3,p4,c1,c2,c3,c4,hvc,_⟩:=hvs2;subst hvc;have K1:=Lib.hid k1;clear k1 hvs)
   go_ret;exact⟨qa7 (HE.out.trans HR2.out.symm),K1.out.alloc _⟩
  ·have h7b:(n.val.k == 7)=false:=ine h7
   have HR2:R=false:=by rw [HR.out];simp [h7]
   subst HR2;clear h7
   go_enter Tryz.func118,Tryz.ntmps118
   go_wp2_with (go_at_call 141;(with_reducible refine CF.out.mono ?_);rintro e w1 ⟨vs,rfl,hvs,k1⟩;have hvs2:VVal vs n.val:=hvs;obtain⟨p1,p2,p3,p4,c1,c2,c3,c4,hvc,_⟩:=hvs2;subst hvc;have K1:=Lib.hid k1;clear k1 hvs)
   go_ret;exact⟨rfl,K1.out.alloc _⟩
end
end Go.Proofs.YtaaneecceiefoaaGreatDoor
