import Derived.Test.YtaaneecceiefoaaGreatDoorMaCheck
import Derived.Test.YtaaneecceiefoaaGreatDoorTreeG
import Derived.Test.YtaaneecceiefoaaGreatDoorMaEnvD
set_option maxRecDepth 100000
set_option maxHeartbeats 4000000
set_option linter.unusedVariables false
set_option linter.unusedSimpArgs false
namespace Go.Proofs.YtaaneecceiefoaaGreatDoor
section
open Go.RowKit Ck Ma
def FoundI {α:Type} (V:World->List Value->α->Prop) (zero:List Value) (r:Option α) (wv w:World) (e:Ending) (w':World):Prop := ∃vs at',e=.returned (.tuple #[.agg vs.toArray,.int .i64 at'])/\AtV V zero wv vs r/\decide (at'<0)=r.isNone/\Bel w w'
theorem qkh (mv ev sv:Value) (s:PSchema) (name:Str) (wv w0:World) (hvb:Bel wv w0) (hv:VSchema wv [mv,ev,sv] s) :
  Calls Tryz.prog 30 #[.agg #[mv,ev,sv],.string (S name)] w0 (FoundI VMsg zMsg (msgOf s name) wv w0):=by
 obtain⟨_,_,_,he,hm,hev,hsv⟩:=hv;cases he;obtain⟨q2,c2,rfl,hl2⟩:=qa6 hev;obtain⟨q3,c3,rfl,hl3⟩:=qa6 hsv;clear hev hsv;obtain⟨q1,c1,rfl,hl,hcap,hel⟩:=hm;have hmo:msgOf s name=s.msgs.find? (fun x=>decide (x.name=name)):=rfl;rw [hmo];clear hmo;have EL:=Lib.hid hel;have HVB:=Lib.hid hvb;have VF:=Lib.hid (show(s.msgs.drop 0).find? (fun x=>decide (x.name=name))=s.msgs.find? (fun x=>decide (x.name=name))from rfl);generalize s.msgs.find? (fun x=>decide (x.name=name))=Z at VF;have hS0':=((ST.start w0).addbox #[.slice q1 s.msgs.length c1,.slice q2 s.enums.length c2,.slice q3 s.svcs.length c3] 26).addbox zMsg.toArray 57;simp only [World.size_alloc]at hS0';have hS0:=Lib.hid hS0';clear hel hcap hvb hS0'
 go_enter Tryz.func30,Tryz.ntmps30
 go_wp2
 go_loopw [6] (fun i wr => ∃k:Nat,k<=s.msgs.length/\i=.int .i64 k/\Hid (ST w0 [] [⟨w0.heap.size+1,zMsg.toArray,57⟩,⟨w0.heap.size,#[.slice q1 s.msgs.length c1,.slice q2 s.enums.length c2,.slice q3 s.svcs.length c3],26⟩] wr)/\Hid ((s.msgs.drop k).find? (fun x=>decide (x.name=name))=Z)) (fun i _=>s.msgs.length-(intOf i).toNat)
 case atStart=>exact⟨0,by omega,rfl,hS0,VF⟩
 case round=>as_aux_lemma=>
  clear hS0 VF;obtain⟨k,hk,rfl,hS,hx⟩:=hrel;have u0:=hS.out.cell 1 rfl 0;dsimp only at u0;have HB2:=Lib.hid (hS.out.box 0 rfl);by_cases hlt:k<s.msgs.length
  ·obtain⟨b,off,rfl,hbs,vs,hce,hvs⟩:=EL.out k _ (List.getElem?_eq_getElem hlt)
   have hki:(k:Int)<(s.msgs.length:Int):=by omega
   have hst:=hx.out;rw [List.drop_eq_getElem_cons hlt,List.find?_cons]at hst;have hlen:=VMsg.len _ _ _ hvs;have hone:=VMsg.one _ _ _ hvs;have HL:=Lib.hid hlen;have HO:=Lib.hid hone;have HVS:=Lib.hid hvs;have HC:=Lib.hid (fun i v hi=>(Bel.of HVB.out hS.out.bel).some (hce i v hi));have Z0:vs.toArray.size=5:=by rw [List.size_toArray];exact hlen
   have Z1:=Lib.hid (show(Tryz.prog.info? 57).map (·.size)=some vs.toArray.size by rw [Z0];exact ar_M);have Z2:=Lib.hid (show zMsg.toArray.size=vs.toArray.size by rw [Z0];rfl);clear hx hce hlen hone Z0;generalize s.msgs[k]=x at *;have e0:=HC.out 0 (.string (S x.name)) (by obtain⟨_,_,_,_,hvv,_⟩:=HVS.out;rw [hvv];rfl);rw [Nat.add_zero]at e0;clear hvs;by_cases he:x.name=name
   ·have hcmp:((S x.name).toList == (S name).toList)=true:=by rw [eq_S];exact decide_eq_true he
    rw [decide_eq_true he]at hst;have HST:=Lib.hid (show some x=Z from hst);clear hst he
    go_wp2_with (first
     | (refine qae rfl 57 _ rfl b (off+k*5) 5 vs rfl HC.out ag_M sz_M HL.out ?_)
     | (refine qab rfl 57 _ _ rfl (w0.heap.size+1) vs.toArray zMsg.toArray 57 rfl rfl HB2.out Z1.out Z2.out HO.out ?_))
    have HZ:=Lib.hid (hS.out.setrowbox 0 rfl vs.toArray);refine bodyPost_ret (v:=.tuple #[.agg vs.toArray,.int .i64 k]) ?hres1 rfl ?hpost1
    case hres1=>exact qbl rfl rfl rfl (HZ.out.box 0 rfl) Tryz.underlying57 rfl Z1.out
    case hpost1=>exact⟨vs,_,rfl,by rw [←HST.out];exact HVS.out,by rw [←HST.out];exact decide_eq_false (by omega),HZ.out.bel⟩
   ·have hcmp:((S x.name).toList == (S name).toList)=false:=by rw [eq_S];exact decide_eq_false he
    rw [decide_eq_false he]at hst;have HST:=Lib.hid (show(s.msgs.drop (k+1)).find? (fun x=>decide (x.name=name))=Z from hst);clear hst he;go_wp2;go_roundw
    case rel=>exact⟨k+1,by omega,by go_num,hS,HST⟩
    case measure=>simp [intOf];omega
  ·have hkl:k=s.msgs.length:=by omega
   have hki : ¬(k:Int)<(s.msgs.length:Int):=by omega
   have hz:none=Z:=by have:=hx.out;rw [hkl,List.drop_length]at this;exact this
   subst hz;clear hx;have HO1:=Lib.hid (show zMsg.toArray.all (·.oneCell')=true by simp [zMsg,Value.oneCell'])
   go_wp2_with (refine qab rfl 57 _ _ rfl (w0.heap.size+1) zMsg.toArray zMsg.toArray 57 rfl rfl HB2.out ar_M rfl HO1.out ?_)
   have HZ:=Lib.hid (hS.out.setrowbox 0 rfl zMsg.toArray);refine bodyPost_ret (v:=.tuple #[.agg zMsg.toArray,.int .i64 (-1)]) ?hres2 rfl ?hpost2
   case hres2=>exact qbl rfl rfl rfl (HZ.out.box 0 rfl) Tryz.underlying57 rfl ar_M
   case hpost2=>exact⟨zMsg,_,rfl,rfl,rfl,HZ.out.bel⟩
theorem rm_field {m:PMsg} {vm:List Value} (k0:Int) (wv w0:World) (hvb:Bel wv w0) (hv:VMsg wv vm m):Calls Tryz.prog 31 #[.agg vm.toArray,.int .i64 k0] w0 (qc4 VField zFld (qas m k0) wv w0):=by
 obtain⟨_,_,_,_,rfl,hm,h2,h3,h4⟩:=hv;obtain⟨q2,c2,rfl,_⟩:=qa6 h2;obtain⟨q3,c3,rfl,_⟩:=qa6 h3;obtain⟨q4,c4,rfl,_⟩:=qa6 h4;clear h2 h3 h4;obtain⟨q1,c1,rfl,hl,hcap,hel⟩:=hm;have hmo:qas m k0=m.fields.find? (fun x=>decide (x.num=k0)):=rfl;rw [hmo];clear hmo;show Calls _ _ #[.agg #[.string (S m.name),.slice q1 m.fields.length c1,.slice q2 m.res.length c2,.slice q3 m.gone.length c3,.slice q4 m.notes.length c4],.int .i64 k0] _ _
 have EL:=Lib.hid hel;have HVB:=Lib.hid hvb;have VF:=Lib.hid (show(m.fields.drop 0).find? (fun x=>decide (x.num=k0))=m.fields.find? (fun x=>decide (x.num=k0))from rfl);generalize m.fields.find? (fun x=>decide (x.num=k0))=Z at VF;have hS0':=((ST.start w0).addbox #[.string (S m.name),.slice q1 m.fields.length c1,.slice q2 m.res.length c2,.slice q3 m.gone.length c3,.slice q4 m.notes.length c4] 57).addbox zFld.toArray 65;simp only [World.size_alloc]at hS0';have hS0:=Lib.hid hS0';clear hel hcap hvb hS0'
 go_enter Tryz.func31,Tryz.ntmps31
 go_wp2
 go_loopw [6] (fun i wr => ∃k:Nat,k<=m.fields.length/\i=.int .i64 k/\Hid (ST w0 [] [⟨w0.heap.size+1,zFld.toArray,65⟩,⟨w0.heap.size,#[.string (S m.name),.slice q1 m.fields.length c1,.slice q2 m.res.length c2,.slice q3 m.gone.length c3,.slice q4 m.notes.length c4],57⟩] wr)/\Hid ((m.fields.drop k).find? (fun x=>decide (x.num=k0))=Z)) (fun i _=>m.fields.length-(intOf i).toNat)
 case atStart=>exact⟨0,by omega,rfl,hS0,VF⟩
 case round=>as_aux_lemma=>
  clear hS0 VF;obtain⟨k,hk,rfl,hS,hx⟩:=hrel;have u0:=hS.out.cell 1 rfl 1;dsimp only at u0;have HB2:=Lib.hid (hS.out.box 0 rfl);by_cases hlt:k<m.fields.length
  ·obtain⟨b,off,rfl,hbs,vs,hce,hvs⟩:=EL.out k _ (List.getElem?_eq_getElem hlt)
   have hki:(k:Int)<(m.fields.length:Int):=by omega
   have hst:=hx.out;rw [List.drop_eq_getElem_cons hlt,List.find?_cons]at hst;have hlen:=VField.len _ _ _ hvs;have hone:=VField.one _ _ _ hvs;have HL:=Lib.hid hlen;have HO:=Lib.hid hone;have HVS:=Lib.hid hvs;have HC:=Lib.hid (fun i v hi=>(Bel.of HVB.out hS.out.bel).some (hce i v hi));have Z0:vs.toArray.size=16:=by rw [List.size_toArray];exact hlen
   have Z1:=Lib.hid (show(Tryz.prog.info? 65).map (·.size)=some vs.toArray.size by rw [Z0];exact ar_F);have Z2:=Lib.hid (show zFld.toArray.size=vs.toArray.size by rw [Z0];rfl);clear hx hce hlen hone Z0;generalize m.fields[k]=x at *;have e0:=HC.out 0 (.int .i64 x.num) (by have h:=(VField.at HVS.out).1;rwa [List.getElem?_toArray]at h);rw [Nat.add_zero]at e0;clear hvs;by_cases he:x.num=k0
   ·have hcmp:(x.num == k0)=true:=beq_iff_eq.2 he
    rw [decide_eq_true he]at hst;have HST:=Lib.hid (show some x=Z from hst);clear hst he
    go_wp2_with (first
     | (refine qae rfl 65 _ rfl b (off+k*16) 16 vs rfl HC.out ag_F sz_F HL.out ?_)
     | (refine qab rfl 65 _ _ rfl (w0.heap.size+1) vs.toArray zFld.toArray 65 rfl rfl HB2.out Z1.out Z2.out HO.out ?_))
    have HZ:=Lib.hid (hS.out.setrowbox 0 rfl vs.toArray);refine bodyPost_ret (v:=.tuple #[.agg vs.toArray,.bool true]) ?hres1 rfl ?hpost1
    case hres1=>exact qbl rfl rfl rfl (HZ.out.box 0 rfl) Tryz.underlying65 rfl Z1.out
    case hpost1=>exact⟨vs,by rw [←HST.out];rfl,by rw [←HST.out];exact HVS.out,HZ.out.bel⟩
   ·have hcmp:(x.num == k0)=false:=beq_eq_false_iff_ne.2 he
    rw [decide_eq_false he]at hst;have HST:=Lib.hid (show(m.fields.drop (k+1)).find? (fun x=>decide (x.num=k0))=Z from hst);clear hst he;go_wp2;go_roundw
    case rel=>exact⟨k+1,by omega,by go_num,hS,HST⟩
    case measure=>simp [intOf];omega
  ·have hkl:k=m.fields.length:=by omega
   have hki : ¬(k:Int)<(m.fields.length:Int):=by omega
   have hz:none=Z:=by have:=hx.out;rw [hkl,List.drop_length]at this;exact this
   subst hz;clear hx;have HO1:=Lib.hid (show zFld.toArray.all (·.oneCell')=true by simp [zFld,Value.oneCell'])
   go_wp2_with (refine qab rfl 65 _ _ rfl (w0.heap.size+1) zFld.toArray zFld.toArray 65 rfl rfl HB2.out ar_F rfl HO1.out ?_)
   have HZ:=Lib.hid (hS.out.setrowbox 0 rfl zFld.toArray);refine bodyPost_ret (v:=.tuple #[.agg zFld.toArray,.bool false]) ?hres2 rfl ?hpost2
   case hres2=>exact qbl rfl rfl rfl (HZ.out.box 0 rfl) Tryz.underlying65 rfl ar_F
   case hpost2=>exact⟨zFld,rfl,rfl,HZ.out.bel⟩
theorem qg9 (num card key tk dk dx:Int) (name tn un dt:Str) (hd:Bool) (r1 r2 r3 r4 r5:Option Addr) (n1 n2 n3 n4 n5 d1 d2 d3 d4 d5:Nat) (w:World) :
  Calls Tryz.prog 32 #[.agg #[.int .i64 num,.string (S name),.int .i64 card,.int .i64 key,.int .i64 tk,.string (S tn),.string (S un),.bool hd,.int .i64 dk,.int .u64 dx,.string (S dt),.slice r1 n1 d1,.slice r2 n2 d2,.slice r3 n3 d3,.slice r4 n4 d4,.slice r5 n5 d5]] w fun e w'=>e=.returned (.bool (decide (tk=10) && (decide (card=1) || decide (card=2))))/\Bel w w':=by
 have HB:=Lib.hid ((Bel.refl w).alloc (.cells #[.int .i64 num,.string (S name),.int .i64 card,.int .i64 key,.int .i64 tk,.string (S tn),.string (S un),.bool hd,.int .i64 dk,.int .u64 dx,.string (S dt),.slice r1 n1 d1,.slice r2 n2 d2,.slice r3 n3 d3,.slice r4 n4 d4,.slice r5 n5 d5] 65));by_cases h1:tk=10
 ·have h1b:(tk == 10)=true:=ieq h1
  have HR:=Lib.hid (show(decide (tk=10) && (decide (card=1) || decide (card=2)))=(decide (card=1) || decide (card=2))by simp [h1]);clear h1;by_cases h2:card=1
  ·have h2b:(card == 1)=true:=ieq h2
   have HR2:=Lib.hid (show(decide (card=1) || decide (card=2))=true by simp [h2]);clear h2
   go_enter Tryz.func32,Tryz.ntmps32
   go_wp2;go_ret
   exact⟨qa4 (HR.out.trans HR2.out).symm,HB.out⟩
  ·have h2b:(card == 1)=false:=ine h2
   have HR2:=Lib.hid (show(decide (card=1) || decide (card=2))=(card == 2)by rw [decide_eq_false h2,Bool.false_or,Bool.eq_iff_iff];simp);clear h2
   go_enter Tryz.func32,Tryz.ntmps32
   go_wp2;go_ret
   exact⟨qa4 (HR.out.trans HR2.out).symm,HB.out⟩
 ·have h1b:(tk == 10)=false:=ine h1
  have HR:=Lib.hid (show(decide (tk=10) && (decide (card=1) || decide (card=2)))=false by simp [h1]);clear h1
  go_enter Tryz.func32,Tryz.ntmps32
  go_wp2;go_ret
  exact⟨qa4 HR.out.symm,HB.out⟩
theorem qia {f:PField} {vs:List Value} (w:World) {wv:World} (hv:VField wv vs f):Calls Tryz.prog 32 #[.agg vs.toArray] w fun e w'=>e=.returned (.bool (qbb f))/\Bel w w':=by
 obtain⟨_,nv,rfl,⟨_,_,_,_,_,_,_,_,rfl,_⟩,h1⟩:=hv;obtain⟨_,_,rfl,_⟩:=qa6 h1;exact qg9 f.num f.card f.key f.tk f.df.k f.df.x f.name f.tn f.un f.df.t f.hd _ _ _ _ _ _ _ _ _ _ _ _ _ _ _ w
end
section
open Go.RowKit
section
variable {P : Program} {ops : Array Oper} {S : World → Prop} {Q : Exit → Act → World → Prop} {K : Act → World → Prop} {a : Act} {w : World} {o : Oper} {r m : OrdT Oper}
theorem qcz (hgd:o.guard=none) (ty:TypeId) (x y:Operand) (ho:o.op=.store ty x y) (g:Nat) (cells old:Array Value) (t:TypeId) (hx:a.eval x=.pointer (some ⟨g,0,none⟩)) (hy:a.eval y=.agg cells) (hg:w.heap[g]? = some (.cells old t (0,0))) (hi:(P.info? ty).map (·.size)=some cells.size) (hold:old.size=cells.size) (h1:cells.all (·.oneCell')=true)
  (hS:S (w.setRow g cells)) (h:qau P ops S Q K r (a.put o.dst undef) (w.setRow g cells)) (hm:qau P ops S Q K m a w):qau P ops S Q K (.alt o r m) a w:=by
 refine⟨?_,hm⟩;have hw:Region.wanted o (yielded ops a.tmps)=true:=by simp [Region.wanted,hgd]
 rw [if_pos hw];exact wp_store_row ty x y ho g cells hx hy t old hg hi hold h1 ⟨hS,h⟩
end
theorem qhl {ρ:Operand->Value} {dst:Option Tmp} {pos:String} {after:Array Edge} {guard:Option (Nat × Bool)} {x:Operand} {t2:TypeId} {g:Nat} {cs:Array Value} {t:TypeId} {W:World} (hx:ρ x=.pointer (some ⟨g,0,none⟩)) (hg:W.heap[g]? = some (.cells cs t (0,0))) (hi:(Tryz.prog.info? 57).map (·.size)=some cs.size) :
  (execOp ρ { dst:=dst,op:=.load 57 x,type:=t2,pos:=pos,after:=after,guard:=guard }).run Tryz.prog W=.ok (.value (.agg cs)) W:=by
 have hv:=run_loadVar_row (P:=Tryz.prog) W g t 57 cs (0,0) _ hg Tryz.underlying57 rfl hi;unfold execOp;simp only [hx,Instr.loadAt,Instr.sureAddr,Sem.run_bind,Sem.run_pure,Result.andThen_ok,hv]
end
end Go.Proofs.YtaaneecceiefoaaGreatDoor
