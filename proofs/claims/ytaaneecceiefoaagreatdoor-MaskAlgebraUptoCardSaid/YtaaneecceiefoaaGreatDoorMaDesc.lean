import Derived.Test.YtaaneecceiefoaaGreatDoorMaEnvD
import Derived.Test.YtaaneecceiefoaaGreatDoorMaMem
set_option maxRecDepth 100000
set_option maxHeartbeats 4000000
set_option linter.unusedVariables false
set_option linter.unusedSimpArgs false
namespace Go.Proofs.YtaaneecceiefoaaGreatDoor
open Go.RowKit Ck Ma
def AtV {α:Type} (V:World->List Value->α->Prop) (zero:List Value) (wv:World) (vs:List Value):Option α->Prop
 | some x=>V wv vs x
 | none=>vs=zero
def qc4 {α:Type} (V:World->List Value->α->Prop) (zero:List Value) (r:Option α) (wv w:World) (e:Ending) (w':World):Prop := ∃vs,e=.returned (.tuple #[.agg vs.toArray,.bool r.isSome])/\AtV V zero wv vs r/\Bel w w'
theorem VMsg.one (w:World) (vs:List Value) (x:PMsg) (h:VMsg w vs x):vs.toArray.all (·.oneCell')=true:=by
 obtain⟨_,_,_,_,rfl,h1,h2,h3,h4⟩:=h;obtain⟨_,_,rfl,_⟩:=qa6 h1;obtain⟨_,_,rfl,_⟩:=qa6 h2;obtain⟨_,_,rfl,_⟩:=qa6 h3;obtain⟨_,_,rfl,_⟩:=qa6 h4;simp [Value.oneCell']
theorem VField.one (w:World) (vs:List Value) (x:PField) (h:VField w vs x):vs.toArray.all (·.oneCell')=true:=by
 obtain⟨_,_,rfl,⟨_,_,_,_,_,_,_,_,rfl,_⟩,h1⟩:=h;obtain⟨_,_,rfl,_⟩:=qa6 h1;simp [Value.oneCell']
def zFld:List Value:=[.int .i64 0,.string ByteArray.empty,.int .i64 0,.int .i64 0,.int .i64 0,.string ByteArray.empty,.string ByteArray.empty,.bool false,.int .i64 0,.int .u64 0,.string ByteArray.empty,.slice none 0 0,.slice none 0 0,.slice none 0 0,.slice none 0 0,.slice none 0 0]
theorem ar_M:(Tryz.prog.info? 57).map (·.size)=some 5:=by kernel_rfl
theorem ag_M (w:World):(isAgg 57).run Tryz.prog w=.ok true w:=by kernel_rfl
theorem sz_M (w:World):(Go.sizeOf 57).run Tryz.prog w=.ok 5 w:=by kernel_rfl
theorem qlm (g:Nat) (lb:Array Value) (eg : ∀args w,(callFunc g args).run Tryz.prog w=.ok (.enter g args) w) (v:Value) (xs:List PMsg) (p:PMsg->Bool) (wv w0:World) (hvb:Bel wv w0) (hv:Sv 5 VMsg wv v xs) (hp : ∀x ∈ xs, ∀vs W,VMsg W vs x->Bel w0 W->Calls Tryz.prog g (#[.agg vs.toArray] ++ lb) W fun e w'=>e=.returned (.bool (p x))/\Bel W w') :
  Calls Tryz.prog 54 #[v,.func (.func g) #[] lb] w0 (qc4 VMsg zMsg (xs.find? p) wv w0):=by
 obtain⟨q,c,rfl,hl,hcap,hel⟩:=hv;have EL:=Lib.hid hel;have HP:=Lib.hid hp;have HVB:=Lib.hid hvb;have VF:=Lib.hid (show(xs.drop 0).find? p=xs.find? p from rfl);generalize xs.find? p=Z at VF;have hS0:=Lib.hid ((ST.start w0).addbox zMsg.toArray 57);clear hel hcap hp hvb
 go_enter Tryz.func54,Tryz.ntmps54
 go_wp2
 go_loopw [11] (fun i wr => ∃k:Nat,k<=xs.length/\i=.int .i64 k/\Hid (ST w0 [] [⟨w0.heap.size,zMsg.toArray,57⟩] wr)/\Hid ((xs.drop k).find? p=Z)) (fun i _=>xs.length-(intOf i).toNat)
 case atStart=>exact⟨0,by omega,rfl,hS0,VF⟩
 case round=>as_aux_lemma=>
  clear hS0 VF;obtain⟨k,hk,rfl,hS,hx⟩:=hrel;by_cases hlt:k<xs.length
  ·obtain⟨b,off,rfl,hbs,vs,hce,hvs⟩:=EL.out k _ (List.getElem?_eq_getElem hlt)
   have hki:(k:Int)<(xs.length:Int):=by omega
   have hst:=hx.out;rw [List.drop_eq_getElem_cons hlt,List.find?_cons]at hst;have HMEM:=Lib.hid (List.getElem_mem hlt);have hlen:=VMsg.len _ _ _ hvs;have hone:=VMsg.one _ _ _ hvs;have HL:=Lib.hid hlen;have HO:=Lib.hid hone;have HVS:=Lib.hid hvs;have HC:=Lib.hid (fun i v hi=>(Bel.of HVB.out hS.out.bel).some (hce i v hi));have Z0:vs.toArray.size=5:=by rw [List.size_toArray];exact hlen
   have Z1:=Lib.hid (show(Tryz.prog.info? 57).map (·.size)=some vs.toArray.size by rw [Z0];exact ar_M);have Z2:=Lib.hid (show zMsg.toArray.size=vs.toArray.size by rw [Z0];rfl);clear hx hce hvs hlen hone Z0;generalize xs[k]=x at *;have HA:=Lib.hid (hS.out.addbox vs.toArray 57);have HB0:=Lib.hid (HA.out.box 0 rfl);have hcall:=HP.out _ HMEM.out vs (wr.alloc (.cells vs.toArray 57)) (VMsg.stays _ _ _ _ (Bel.of HVB.out HA.out.bel) HVS.out) HA.out.bel;cases hq:p x with
   | true=>
    rw [hq]at hcall hst;have HC2:=Lib.hid hcall;have HST:=Lib.hid (show some x=Z from hst);clear hcall hst hq
    go_wp2_with (first
     | (refine qae rfl 57 _ rfl b (off+k*5) 5 vs rfl HC.out ag_M sz_M HL.out ?_)
     | (refine qa3 (old:=zMsg.toArray) rfl 57 _ _ rfl wr rfl wr.heap.size rfl vs.toArray rfl rfl Z1.out Z2.out HO.out ?_)
     | (refine qa5 rfl 57 _ rfl wr.heap.size vs.toArray 57 rfl HB0.out _ Tryz.underlying57 rfl Z1.out ?_)
     | (refine qa5 rfl 57 _ rfl wr.heap.size vs.toArray 57 rfl HB1.out _ Tryz.underlying57 rfl Z1.out ?_)
     | (refine qab rfl 57 _ _ rfl w0.heap.size vs.toArray zMsg.toArray 57 rfl rfl HB2.out Z1.out Z2.out HO.out ?_)
     | (go_at_fn g;(with_reducible refine HC2.out.mono ?_);rintro e w1 ⟨rfl,k1⟩;have k1:Bel _ w1:=k1;have H1:=Lib.hid (HA.out.belw k1);have HB1:=Lib.hid (H1.out.box 0 rfl);have HB2:=Lib.hid (H1.out.box 1 rfl);clear k1))
    have HZ:=Lib.hid (H1.out.setrowbox 1 rfl vs.toArray);refine bodyPost_ret (v:=.tuple #[.agg vs.toArray,.bool true]) ?hres1 rfl ?hpost1
    case hres1=>exact qbl rfl rfl rfl (HZ.out.box 1 rfl) Tryz.underlying57 rfl Z1.out
    case hpost1=>exact⟨vs,by rw [←HST.out];rfl,by rw [←HST.out];exact HVS.out,HZ.out.bel⟩
   | false=>
    rw [hq]at hcall hst;have HC2:=Lib.hid hcall;have HST:=Lib.hid (show(xs.drop (k+1)).find? p=Z from hst);clear hcall hst hq
    go_wp2_with (first
     | (refine qae rfl 57 _ rfl b (off+k*5) 5 vs rfl HC.out ag_M sz_M HL.out ?_)
     | (refine qa3 (old:=zMsg.toArray) rfl 57 _ _ rfl wr rfl wr.heap.size rfl vs.toArray rfl rfl Z1.out Z2.out HO.out ?_)
     | (refine qa5 rfl 57 _ rfl wr.heap.size vs.toArray 57 rfl HB0.out _ Tryz.underlying57 rfl Z1.out ?_)
     | (go_at_fn g;(with_reducible refine HC2.out.mono ?_);rintro e w1 ⟨rfl,k1⟩;have k1:Bel _ w1:=k1;have H1:=Lib.hid (HA.out.belw k1);clear k1))
    go_roundw
    case rel=>exact⟨k+1,by omega,by go_num,Lib.hid H1.out.dropbox0,HST⟩
    case measure=>simp [intOf];omega
  ·have hkl:k=xs.length:=by omega
   have hz:none=Z:=by have:=hx.out;rw [hkl,List.drop_length]at this;exact this
   subst hz;clear hx;have HA:=Lib.hid (hS.out.addbox zMsg.toArray 57);have HB0:=Lib.hid (HA.out.box 0 rfl);have HB1:=Lib.hid (HA.out.box 1 rfl);have HO1:=Lib.hid (show zMsg.toArray.all (·.oneCell')=true by simp [zMsg,Value.oneCell'])
   go_wp2_with (first
    | (refine qa5 rfl 57 _ rfl wr.heap.size zMsg.toArray 57 rfl HB0.out _ Tryz.underlying57 rfl ar_M ?_)
    | (refine qab rfl 57 _ _ rfl w0.heap.size zMsg.toArray zMsg.toArray 57 rfl rfl HB1.out ar_M rfl HO1.out ?_))
   have HZ:=Lib.hid (HA.out.setrowbox 1 rfl zMsg.toArray);refine bodyPost_ret (v:=.tuple #[.agg zMsg.toArray,.bool false]) ?hres2 rfl ?hpost2
   case hres2=>exact qbl rfl rfl rfl (HZ.out.box 1 rfl) Tryz.underlying57 rfl ar_M
   case hpost2=>exact⟨zMsg,rfl,rfl,HZ.out.bel⟩
theorem ar_F:(Tryz.prog.info? 65).map (·.size)=some 16:=by kernel_rfl
theorem ag_F (w:World):(isAgg 65).run Tryz.prog w=.ok true w:=by kernel_rfl
theorem sz_F (w:World):(Go.sizeOf 65).run Tryz.prog w=.ok 16 w:=by kernel_rfl
theorem qeu (g:Nat) (lb:Array Value) (eg : ∀args w,(callFunc g args).run Tryz.prog w=.ok (.enter g args) w) (v:Value) (xs:List PField) (p:PField->Bool) (wv w0:World) (hvb:Bel wv w0) (hv:Sv 16 VField wv v xs) (hp : ∀x ∈ xs, ∀vs W,VField W vs x->Bel w0 W->Calls Tryz.prog g (#[.agg vs.toArray] ++ lb) W fun e w'=>e=.returned (.bool (p x))/\Bel W w') :
  Calls Tryz.prog 56 #[v,.func (.func g) #[] lb] w0 (qc4 VField zFld (xs.find? p) wv w0):=by
 obtain⟨q,c,rfl,hl,hcap,hel⟩:=hv;have EL:=Lib.hid hel;have HP:=Lib.hid hp;have HVB:=Lib.hid hvb;have VF:=Lib.hid (show(xs.drop 0).find? p=xs.find? p from rfl);generalize xs.find? p=Z at VF;have hS0:=Lib.hid ((ST.start w0).addbox zFld.toArray 65);clear hel hcap hp hvb
 go_enter Tryz.func56,Tryz.ntmps56
 go_wp2
 go_loopw [11] (fun i wr => ∃k:Nat,k<=xs.length/\i=.int .i64 k/\Hid (ST w0 [] [⟨w0.heap.size,zFld.toArray,65⟩] wr)/\Hid ((xs.drop k).find? p=Z)) (fun i _=>xs.length-(intOf i).toNat)
 case atStart=>exact⟨0,by omega,rfl,hS0,VF⟩
 case round=>as_aux_lemma=>
  clear hS0 VF;obtain⟨k,hk,rfl,hS,hx⟩:=hrel;by_cases hlt:k<xs.length
  ·obtain⟨b,off,rfl,hbs,vs,hce,hvs⟩:=EL.out k _ (List.getElem?_eq_getElem hlt)
   have hki:(k:Int)<(xs.length:Int):=by omega
   have hst:=hx.out;rw [List.drop_eq_getElem_cons hlt,List.find?_cons]at hst;have HMEM:=Lib.hid (List.getElem_mem hlt);have hlen:=VField.len _ _ _ hvs;have hone:=VField.one _ _ _ hvs;have HL:=Lib.hid hlen;have HO:=Lib.hid hone;have HVS:=Lib.hid hvs;have HC:=Lib.hid (fun i v hi=>(Bel.of HVB.out hS.out.bel).some (hce i v hi));have Z0:vs.toArray.size=16:=by rw [List.size_toArray];exact hlen
   have Z1:=Lib.hid (show(Tryz.prog.info? 65).map (·.size)=some vs.toArray.size by rw [Z0];exact ar_F);have Z2:=Lib.hid (show zFld.toArray.size=vs.toArray.size by rw [Z0];rfl);clear hx hce hvs hlen hone Z0;generalize xs[k]=x at *;have HA:=Lib.hid (hS.out.addbox vs.toArray 65);have HB0:=Lib.hid (HA.out.box 0 rfl);have hcall:=HP.out _ HMEM.out vs (wr.alloc (.cells vs.toArray 65)) (VField.stays _ _ _ _ (Bel.of HVB.out HA.out.bel) HVS.out) HA.out.bel;cases hq:p x with
   | true=>
    rw [hq]at hcall hst;have HC2:=Lib.hid hcall;have HST:=Lib.hid (show some x=Z from hst);clear hcall hst hq
    go_wp2_with (first
     | (refine qae rfl 65 _ rfl b (off+k*16) 16 vs rfl HC.out ag_F sz_F HL.out ?_)
     | (refine qa3 (old:=zFld.toArray) rfl 65 _ _ rfl wr rfl wr.heap.size rfl vs.toArray rfl rfl Z1.out Z2.out HO.out ?_)
     | (refine qa5 rfl 65 _ rfl wr.heap.size vs.toArray 65 rfl HB0.out _ Tryz.underlying65 rfl Z1.out ?_)
     | (refine qa5 rfl 65 _ rfl wr.heap.size vs.toArray 65 rfl HB1.out _ Tryz.underlying65 rfl Z1.out ?_)
     | (refine qab rfl 65 _ _ rfl w0.heap.size vs.toArray zFld.toArray 65 rfl rfl HB2.out Z1.out Z2.out HO.out ?_)
     | (go_at_fn g;(with_reducible refine HC2.out.mono ?_);rintro e w1 ⟨rfl,k1⟩;have k1:Bel _ w1:=k1;have H1:=Lib.hid (HA.out.belw k1);have HB1:=Lib.hid (H1.out.box 0 rfl);have HB2:=Lib.hid (H1.out.box 1 rfl);clear k1))
    have HZ:=Lib.hid (H1.out.setrowbox 1 rfl vs.toArray);refine bodyPost_ret (v:=.tuple #[.agg vs.toArray,.bool true]) ?hres1 rfl ?hpost1
    case hres1=>exact qbl rfl rfl rfl (HZ.out.box 1 rfl) Tryz.underlying65 rfl Z1.out
    case hpost1=>exact⟨vs,by rw [←HST.out];rfl,by rw [←HST.out];exact HVS.out,HZ.out.bel⟩
   | false=>
    rw [hq]at hcall hst;have HC2:=Lib.hid hcall;have HST:=Lib.hid (show(xs.drop (k+1)).find? p=Z from hst);clear hcall hst hq
    go_wp2_with (first
     | (refine qae rfl 65 _ rfl b (off+k*16) 16 vs rfl HC.out ag_F sz_F HL.out ?_)
     | (refine qa3 (old:=zFld.toArray) rfl 65 _ _ rfl wr rfl wr.heap.size rfl vs.toArray rfl rfl Z1.out Z2.out HO.out ?_)
     | (refine qa5 rfl 65 _ rfl wr.heap.size vs.toArray 65 rfl HB0.out _ Tryz.underlying65 rfl Z1.out ?_)
     | (go_at_fn g;(with_reducible refine HC2.out.mono ?_);rintro e w1 ⟨rfl,k1⟩;have k1:Bel _ w1:=k1;have H1:=Lib.hid (HA.out.belw k1);clear k1))
    go_roundw
    case rel=>exact⟨k+1,by omega,by go_num,Lib.hid H1.out.dropbox0,HST⟩
    case measure=>simp [intOf];omega
  ·have hkl:k=xs.length:=by omega
   have hz:none=Z:=by have:=hx.out;rw [hkl,List.drop_length]at this;exact this
   subst hz;clear hx;have HA:=Lib.hid (hS.out.addbox zFld.toArray 65);have HB0:=Lib.hid (HA.out.box 0 rfl);have HB1:=Lib.hid (HA.out.box 1 rfl);have HO1:=Lib.hid (show zFld.toArray.all (·.oneCell')=true by simp [zFld,Value.oneCell'])
   go_wp2_with (first
    | (refine qa5 rfl 65 _ rfl wr.heap.size zFld.toArray 65 rfl HB0.out _ Tryz.underlying65 rfl ar_F ?_)
    | (refine qab rfl 65 _ _ rfl w0.heap.size zFld.toArray zFld.toArray 65 rfl rfl HB1.out ar_F rfl HO1.out ?_))
   have HZ:=Lib.hid (HA.out.setrowbox 1 rfl zFld.toArray);refine bodyPost_ret (v:=.tuple #[.agg zFld.toArray,.bool false]) ?hres2 rfl ?hpost2
   case hres2=>exact qbl rfl rfl rfl (HZ.out.box 1 rfl) Tryz.underlying65 rfl ar_F
   case hpost2=>exact⟨zFld,rfl,rfl,HZ.out.bel⟩
theorem qcr {r:Option PMsg} {w0:World} {vs:List Value} (h:AtV VMsg zMsg w0 vs r):vs.length=5/\vs.toArray.all (·.oneCell')=true:=by
 cases r with
 | none=>cases (show vs=zMsg from h);exact⟨rfl,by simp [zMsg,Value.oneCell']⟩
 | some x=>exact⟨VMsg.len _ _ _ h,VMsg.one _ _ _ h⟩
theorem qcs {r:Option PField} {w0:World} {vs:List Value} (h:AtV VField zFld w0 vs r):vs.length=16/\vs.toArray.all (·.oneCell')=true:=by
 cases r with
 | none=>cases (show vs=zFld from h);exact⟨rfl,by simp [zFld,Value.oneCell']⟩
 | some x=>exact⟨VField.len _ _ _ h,VField.one _ _ _ h⟩
theorem cl_dsM (nm name:Str) (q1 q2 q3 q4:Option Addr) (n1 n2 n3 n4 c1 c2 c3 c4:Nat) (B:Nat) (W:World) (hB:W.cell? ⟨B,0,none⟩=some (.string (S name))) :
  Calls Tryz.prog 55 #[.agg #[.string (S nm),.slice q1 n1 c1,.slice q2 n2 c2,.slice q3 n3 c3,.slice q4 n4 c4],.pointer (some ⟨B,0,none⟩)] W fun e w'=>e=.returned (.bool (decide (nm=name)))/\Bel W w':=by
 have hlt:B<W.heap.size:=World.block_lt_of_cell? W _ hB;have hv:=Lib.hid (eq_S nm name)
 go_enter Tryz.func55,Tryz.ntmps55
 go_wp2;go_ret
 exact⟨qa4 hv.out,(Bel.refl W).alloc _⟩
theorem cl_dsF (num card key tk dk dx:Int) (name tn un dt:Str) (hd:Bool) (r1 r2 r3 r4 r5:Option Addr) (n1 n2 n3 n4 n5 d1 d2 d3 d4 d5:Nat) (k:Int) (B:Nat) (W:World) (hB:W.cell? ⟨B,0,none⟩=some (.int .i64 k)) :
  Calls Tryz.prog 57 #[.agg #[.int .i64 num,.string (S name),.int .i64 card,.int .i64 key,.int .i64 tk,.string (S tn),.string (S un),.bool hd,.int .i64 dk,.int .u64 dx,.string (S dt),.slice r1 n1 d1,.slice r2 n2 d2,.slice r3 n3 d3,.slice r4 n4 d4,.slice r5 n5 d5],.pointer (some ⟨B,0,none⟩)] W fun e w'=>e=.returned (.bool (decide (num=k)))/\Bel W w':=by
 have hlt:B<W.heap.size:=World.block_lt_of_cell? W _ hB;have hv:=Lib.hid (show(num == k)=decide (num=k)by rw [Bool.eq_iff_iff];simp)
 go_enter Tryz.func57,Tryz.ntmps57
 go_wp2;go_ret
 exact⟨qa4 hv.out,(Bel.refl W).alloc _⟩
theorem cl_dsN (num card key tk dk dx:Int) (name tn un dt:Str) (hd:Bool) (r1 r2 r3 r4 r5:Option Addr) (n1 n2 n3 n4 n5 d1 d2 d3 d4 d5:Nat) (nm:Str) (B:Nat) (W:World) (hB:W.cell? ⟨B,0,none⟩=some (.string (S nm))) :
  Calls Tryz.prog 116 #[.agg #[.int .i64 num,.string (S name),.int .i64 card,.int .i64 key,.int .i64 tk,.string (S tn),.string (S un),.bool hd,.int .i64 dk,.int .u64 dx,.string (S dt),.slice r1 n1 d1,.slice r2 n2 d2,.slice r3 n3 d3,.slice r4 n4 d4,.slice r5 n5 d5],.pointer (some ⟨B,0,none⟩)] W fun e w'=>e=.returned (.bool (decide (name=nm)))/\Bel W w':=by
 have hlt:B<W.heap.size:=World.block_lt_of_cell? W _ hB;have hv:=Lib.hid (eq_S name nm)
 go_enter Tryz.func116,Tryz.ntmps116
 go_wp2;go_ret
 exact⟨qa4 hv.out,(Bel.refl W).alloc _⟩
theorem qc1 (mv ev sv:Value) (s:PSchema) (name:Str) (wv w0:World) (hvb:Bel wv w0) (hv:VSchema wv [mv,ev,sv] s) :
  Calls Tryz.prog 26 #[.agg #[mv,ev,sv],.string (S name)] w0 (qc4 VMsg zMsg (msgOf s name) wv w0):=by
 obtain⟨_,_,_,he,hm,hev,hsv⟩:=hv;cases he;obtain⟨q2,c2,rfl,hl2⟩:=qa6 hev;obtain⟨q3,c3,rfl,hl3⟩:=qa6 hsv;obtain⟨q1,c1,rfl,hl1⟩:=qa6 hm;have HM:=Lib.hid hm;clear hm hev hsv;have HVB:=Lib.hid hvb;clear hvb;have hS0':=((((ST.start w0).addbox #[.slice q1 s.msgs.length c1,.slice q2 s.enums.length c2,.slice q3 s.svcs.length c3] 26).addbox #[.string (S name)] 9).addbox #[.string ⟨#[]⟩,.slice none 0 0,.slice none 0 0,.slice none 0 0,.slice none 0 0] 57);simp only [World.size_alloc]at hS0';have hS0:=Lib.hid hS0';have HN:=Lib.hid (show World.cell? _ _=some (.string (S name))from hS0'.cell 1 rfl 0);clear hS0'
 have CF:=Lib.hid (fun W (kk:Bel w0 W) (hc:W.cell? ⟨w0.heap.size+1,0,none⟩=some (.string (S name)))=>show Calls Tryz.prog 54 #[.slice q1 s.msgs.length c1,.func (.func 55) #[] #[.pointer (some ⟨w0.heap.size+1,0,none⟩)]] W (qc4 VMsg zMsg (msgOf s name) wv W)from qlm 55 _ (enters_of Tryz.func55 (by kernel_rfl) rfl) _ s.msgs (fun m=>decide (m.name=name)) wv W (Bel.of HVB.out kk) HM.out (fun x hx vs W2 hvs hb2=>by
  obtain⟨_,_,_,_,rfl,h1,h2,h3,h4⟩:=hvs;obtain⟨_,_,rfl,_⟩:=qa6 h1;obtain⟨_,_,rfl,_⟩:=qa6 h2;obtain⟨_,_,rfl,_⟩:=qa6 h3;obtain⟨_,_,rfl,_⟩:=qa6 h4
  exact cl_dsM x.name name _ _ _ _ _ _ _ _ _ _ _ _ _ W2 (hb2.some hc)))
 generalize (msgOf s name)=Z at CF
 go_enter Tryz.func26,Tryz.ntmps26
 go_wp2_with (first
  | (go_at_call 54;(with_reducible refine(CF.out _ hS0.out.bel HN.out).mono ?_);rintro e w1 ⟨vs,rfl,hvs,k1⟩;have k1:Bel _ w1:=k1;obtain⟨hlen,hone⟩:=qcr hvs;have HVS:=Lib.hid hvs;have Z0:vs.toArray.size=5:=(by rw [List.size_toArray];exact hlen);have Z1:=Lib.hid (show(Tryz.prog.info? 57).map (·.size)=some vs.toArray.size by rw [Z0];exact ar_M);have Z2:=Lib.hid (show(#[.string ⟨#[]⟩,.slice none 0 0,.slice none 0 0,.slice none 0 0,.slice none 0 0]:Array Value).size=vs.toArray.size by rw [Z0];rfl);have HO:=Lib.hid hone;have H1:=Lib.hid (hS0.out.belw k1);have HB1:=Lib.hid (H1.out.box 0 rfl);clear k1 hlen hone Z0 hvs)
  | (refine qab rfl 57 _ _ rfl (w0.heap.size+1+1) vs.toArray #[.string ⟨#[]⟩,.slice none 0 0,.slice none 0 0,.slice none 0 0,.slice none 0 0] 57 rfl rfl HB1.out Z1.out Z2.out HO.out ?_))
 have HZ:=Lib.hid (H1.out.setrowbox 0 rfl vs.toArray);refine bodyPost_ret (v:=.tuple #[.agg vs.toArray,.bool Z.isSome]) ?hres1 rfl ?hpost1
 case hres1=>exact qbl rfl rfl rfl (HZ.out.box 0 rfl) Tryz.underlying57 rfl Z1.out
 case hpost1=>exact⟨vs,rfl,HVS.out,HZ.out.bel⟩
end Go.Proofs.YtaaneecceiefoaaGreatDoor
