import Derived.Test.YtaaneecceiefoaaGreatDoorMaKeep
import Derived.Test.YtaaneecceiefoaaGreatDoorRkU
import Derived.Test.YtaaneecceiefoaaGreatDoorMaEnvD
import Derived.Test.YtaaneecceiefoaaGreatDoorUtfDec
import Derived.Test.YtaaneecceiefoaaGreatDoorMaOf
set_option maxRecDepth 100000
set_option maxHeartbeats 4000000
set_option linter.unusedVariables false
set_option linter.unusedSimpArgs false
namespace Go.Proofs.YtaaneecceiefoaaGreatDoor
section
open Go.RowKit Ck Ma
def FoundI {α:Type} (V:World->List Value->α->Prop) (zero:List Value) (r:Option α) (wv w:World) (e:Ending) (w':World):Prop := ∃vs at',e=.returned (.tuple #[.agg vs.toArray,.int .i64 at'])/\AtV V zero wv vs r/\decide (at'<0)=r.isNone/\Bel w w'
theorem qcj (mv ev sv:Value) (s:PSchema) (name:Str) (wv w0:World) (hvb:Bel wv w0) (hv:VSchema wv [mv,ev,sv] s) :
  Calls Tryz.prog 30 #[.agg #[mv,ev,sv],.string (S name)] w0 (FoundI VMsg zMsg (msgOf s name) wv w0):=by
 obtain⟨_,_,_,he,hm,hev,hsv⟩:=hv;cases he;obtain⟨q2,c2,rfl,hl2⟩:=qa5 hev;obtain⟨q3,c3,rfl,hl3⟩:=qa5 hsv;clear hev hsv;obtain⟨q1,c1,rfl,hl,hcap,hel⟩:=hm;have hmo:msgOf s name=s.msgs.find? (fun x=>decide (x.name=name)):=rfl;rw [hmo];clear hmo;have EL:=Lib.hid hel;have HVB:=Lib.hid hvb;have VF:=Lib.hid (show(s.msgs.drop 0).find? (fun x=>decide (x.name=name))=s.msgs.find? (fun x=>decide (x.name=name))from rfl);generalize s.msgs.find? (fun x=>decide (x.name=name))=Z at VF;have hS0':=((ST.start w0).addbox #[.slice q1 s.msgs.length c1,.slice q2 s.enums.length c2,.slice q3 s.svcs.length c3] 26).addbox zMsg.toArray 57;simp only [World.size_alloc]at hS0';have hS0:=Lib.hid hS0';clear hel hcap hvb hS0'
 go_enter Tryz.func30,Tryz.ntmps30
 go_wp2
 go_loopw [6] (fun i wr => ∃k:Nat,k<=s.msgs.length/\i=.int .i64 k/\Hid (ST w0 [] [⟨w0.heap.size+1,zMsg.toArray,57⟩,⟨w0.heap.size,#[.slice q1 s.msgs.length c1,.slice q2 s.enums.length c2,.slice q3 s.svcs.length c3],26⟩] wr)/\Hid ((s.msgs.drop k).find? (fun x=>decide (x.name=name))=Z)) (fun i _=>s.msgs.length-(intOf i).toNat)
 case atStart=>exact⟨0,by omega,rfl,hS0,VF⟩
 case round=>as_aux_lemma=>
  clear hS0 VF;obtain⟨k,hk,rfl,hS,hx⟩:=hrel;have u0:=hS.out.cell 1 rfl 0;dsimp only at u0;have HB2:=Lib.hid (hS.out.box 0 rfl);by_cases hlt:k<s.msgs.length
  ·obtain⟨b,off,rfl,hbs,vs,hce,hvs⟩:=EL.out k _ (List.getElem?_eq_getElem hlt)
   have hki:(k:Int)<(s.msgs.length:Int):=by omega
   have hst:=hx.out;rw [List.drop_eq_getElem_cons hlt,List.find?_cons]at hst;have hlen:=VMsg.len _ _ _ hvs;have hone:=VMsg.one _ _ _ hvs;have HL:=Lib.hid hlen;have HO:=Lib.hid hone;have HVS:=Lib.hid hvs;have HC:=Lib.hid (fun i v hi=>(Bel.of HVB.out hS.out.bel).some (hce i v hi));have Z0:vs.toArray.size=5:=by rw [List.size_toArray];exact hlen
   have Z1:=Lib.hid (show(Tryz.prog.info? 57).map (·.size)=some vs.toArray.size by rw [Z0];exact ar_M);have Z2:=Lib.hid (show zMsg.toArray.size=vs.toArray.size by rw [Z0];rfl);clear hx hce hlen hone Z0;generalize s.msgs[k]=x at *;have e0:=HC.out 0 (.string (S x.name)) (by obtain⟨_,_,_,_,hvv,_⟩:=HVS.out;rw [hvv];rfl);rw [Nat.add_zero]at e0;clear hvs;by_cases he:x.name=name
   ·have hcmp:((S x.name).toList == (S name).toList)=true:=by rw [eq_S];exact decide_eq_true he
    rw [decide_eq_true he]at hst;have HST:=Lib.hid (show some x=Z from hst);clear hst he
    go_wp2_with (first
     | (refine qaa rfl 57 _ rfl b (off+k*5) 5 vs rfl HC.out ag_M sz_M HL.out ?_)
     | (refine qa8 rfl 57 _ _ rfl (w0.heap.size+1) vs.toArray zMsg.toArray 57 rfl rfl HB2.out Z1.out Z2.out HO.out ?_))
    have HZ:=Lib.hid (hS.out.setrowbox 0 rfl vs.toArray);refine bodyPost_ret (v:=.tuple #[.agg vs.toArray,.int .i64 k]) ?hres1 rfl ?hpost1
    case hres1=>exact qb1 rfl rfl rfl (HZ.out.box 0 rfl) Tryz.underlying57 rfl Z1.out
    case hpost1=>exact⟨vs,_,rfl,by rw [←HST.out];exact HVS.out,by rw [←HST.out];exact decide_eq_false (by omega),HZ.out.bel⟩
   ·have hcmp:((S x.name).toList == (S name).toList)=false:=by rw [eq_S];exact decide_eq_false he
    rw [decide_eq_false he]at hst;have HST:=Lib.hid (show(s.msgs.drop (k+1)).find? (fun x=>decide (x.name=name))=Z from hst);clear hst he;go_wp2;go_roundw
    case rel=>exact⟨k+1,by omega,by go_num,hS,HST⟩
    case measure=>simp [intOf];omega
  ·have hkl:k=s.msgs.length:=by omega
   have hki : ¬(k:Int)<(s.msgs.length:Int):=by omega
   have hz:none=Z:=by have:=hx.out;rw [hkl,List.drop_length]at this;exact this
   subst hz;clear hx;have HO1:=Lib.hid (show zMsg.toArray.all (·.oneCell')=true by simp [zMsg,Value.oneCell'])
   go_wp2_with (refine qa8 rfl 57 _ _ rfl (w0.heap.size+1) zMsg.toArray zMsg.toArray 57 rfl rfl HB2.out ar_M rfl HO1.out ?_)
   have HZ:=Lib.hid (hS.out.setrowbox 0 rfl zMsg.toArray);refine bodyPost_ret (v:=.tuple #[.agg zMsg.toArray,.int .i64 (-1)]) ?hres2 rfl ?hpost2
   case hres2=>exact qb1 rfl rfl rfl (HZ.out.box 0 rfl) Tryz.underlying57 rfl ar_M
   case hpost2=>exact⟨zMsg,_,rfl,rfl,rfl,HZ.out.bel⟩
theorem qir {m:PMsg} {vm:List Value} (k0:Int) (wv w0:World) (hvb:Bel wv w0) (hv:VMsg wv vm m):Calls Tryz.prog 31 #[.agg vm.toArray,.int .i64 k0] w0 (qca VField zFld (qai m k0) wv w0):=by
 obtain⟨_,_,_,_,rfl,hm,h2,h3,h4⟩:=hv;obtain⟨q2,c2,rfl,_⟩:=qa5 h2;obtain⟨q3,c3,rfl,_⟩:=qa5 h3;obtain⟨q4,c4,rfl,_⟩:=qa5 h4;clear h2 h3 h4;obtain⟨q1,c1,rfl,hl,hcap,hel⟩:=hm;have hmo:qai m k0=m.fields.find? (fun x=>decide (x.num=k0)):=rfl;rw [hmo];clear hmo;show Calls _ _ #[.agg #[.string (S m.name),.slice q1 m.fields.length c1,.slice q2 m.res.length c2,.slice q3 m.gone.length c3,.slice q4 m.notes.length c4],.int .i64 k0] _ _
 have EL:=Lib.hid hel;have HVB:=Lib.hid hvb;have VF:=Lib.hid (show(m.fields.drop 0).find? (fun x=>decide (x.num=k0))=m.fields.find? (fun x=>decide (x.num=k0))from rfl);generalize m.fields.find? (fun x=>decide (x.num=k0))=Z at VF;have hS0':=((ST.start w0).addbox #[.string (S m.name),.slice q1 m.fields.length c1,.slice q2 m.res.length c2,.slice q3 m.gone.length c3,.slice q4 m.notes.length c4] 57).addbox zFld.toArray 65;simp only [World.size_alloc]at hS0';have hS0:=Lib.hid hS0';clear hel hcap hvb hS0'
 go_enter Tryz.func31,Tryz.ntmps31
 go_wp2
 go_loopw [6] (fun i wr => ∃k:Nat,k<=m.fields.length/\i=.int .i64 k/\Hid (ST w0 [] [⟨w0.heap.size+1,zFld.toArray,65⟩,⟨w0.heap.size,#[.string (S m.name),.slice q1 m.fields.length c1,.slice q2 m.res.length c2,.slice q3 m.gone.length c3,.slice q4 m.notes.length c4],57⟩] wr)/\Hid ((m.fields.drop k).find? (fun x=>decide (x.num=k0))=Z)) (fun i _=>m.fields.length-(intOf i).toNat)
 case atStart=>exact⟨0,by omega,rfl,hS0,VF⟩
 case round=>as_aux_lemma=>
  clear hS0 VF;obtain⟨k,hk,rfl,hS,hx⟩:=hrel;have u0:=hS.out.cell 1 rfl 1;dsimp only at u0;have HB2:=Lib.hid (hS.out.box 0 rfl);by_cases hlt:k<m.fields.length
  ·obtain⟨b,off,rfl,hbs,vs,hce,hvs⟩:=EL.out k _ (List.getElem?_eq_getElem hlt)
   have hki:(k:Int)<(m.fields.length:Int):=by omega
   have hst:=hx.out;rw [List.drop_eq_getElem_cons hlt,List.find?_cons]at hst;have hlen:=VField.len _ _ _ hvs;have hone:=VField.one _ _ _ hvs;have HL:=Lib.hid hlen;have HO:=Lib.hid hone;have HVS:=Lib.hid hvs;have HC:=Lib.hid (fun i v hi=>(Bel.of HVB.out hS.out.bel).some (hce i v hi));have Z0:vs.toArray.size=16:=by rw [List.size_toArray];exact hlen
   have Z1:=Lib.hid (show(Tryz.prog.info? 65).map (·.size)=some vs.toArray.size by rw [Z0];exact ar_F);have Z2:=Lib.hid (show zFld.toArray.size=vs.toArray.size by rw [Z0];rfl);clear hx hce hlen hone Z0;generalize m.fields[k]=x at *;have e0:=HC.out 0 (.int .i64 x.num) (by have h:=(VField.at HVS.out).1;rwa [List.getElem?_toArray]at h);rw [Nat.add_zero]at e0;clear hvs;by_cases he:x.num=k0
   ·have hcmp:(x.num == k0)=true:=beq_iff_eq.2 he
    rw [decide_eq_true he]at hst;have HST:=Lib.hid (show some x=Z from hst);clear hst he
    go_wp2_with (first
     | (refine qaa rfl 65 _ rfl b (off+k*16) 16 vs rfl HC.out ag_F sz_F HL.out ?_)
     | (refine qa8 rfl 65 _ _ rfl (w0.heap.size+1) vs.toArray zFld.toArray 65 rfl rfl HB2.out Z1.out Z2.out HO.out ?_))
    have HZ:=Lib.hid (hS.out.setrowbox 0 rfl vs.toArray);refine bodyPost_ret (v:=.tuple #[.agg vs.toArray,.bool true]) ?hres1 rfl ?hpost1
    case hres1=>exact qb1 rfl rfl rfl (HZ.out.box 0 rfl) Tryz.underlying65 rfl Z1.out
    case hpost1=>exact⟨vs,by rw [←HST.out];rfl,by rw [←HST.out];exact HVS.out,HZ.out.bel⟩
   ·have hcmp:(x.num == k0)=false:=beq_eq_false_iff_ne.2 he
    rw [decide_eq_false he]at hst;have HST:=Lib.hid (show(m.fields.drop (k+1)).find? (fun x=>decide (x.num=k0))=Z from hst);clear hst he;go_wp2;go_roundw
    case rel=>exact⟨k+1,by omega,by go_num,hS,HST⟩
    case measure=>simp [intOf];omega
  ·have hkl:k=m.fields.length:=by omega
   have hki : ¬(k:Int)<(m.fields.length:Int):=by omega
   have hz:none=Z:=by have:=hx.out;rw [hkl,List.drop_length]at this;exact this
   subst hz;clear hx;have HO1:=Lib.hid (show zFld.toArray.all (·.oneCell')=true by simp [zFld,Value.oneCell'])
   go_wp2_with (refine qa8 rfl 65 _ _ rfl (w0.heap.size+1) zFld.toArray zFld.toArray 65 rfl rfl HB2.out ar_F rfl HO1.out ?_)
   have HZ:=Lib.hid (hS.out.setrowbox 0 rfl zFld.toArray);refine bodyPost_ret (v:=.tuple #[.agg zFld.toArray,.bool false]) ?hres2 rfl ?hpost2
   case hres2=>exact qb1 rfl rfl rfl (HZ.out.box 0 rfl) Tryz.underlying65 rfl ar_F
   case hpost2=>exact⟨zFld,rfl,rfl,HZ.out.bel⟩
theorem qhl (num card key tk dk dx:Int) (name tn un dt:Str) (hd:Bool) (r1 r2 r3 r4 r5:Option Addr) (n1 n2 n3 n4 n5 d1 d2 d3 d4 d5:Nat) (w:World) :
  Calls Tryz.prog 32 #[.agg #[.int .i64 num,.string (S name),.int .i64 card,.int .i64 key,.int .i64 tk,.string (S tn),.string (S un),.bool hd,.int .i64 dk,.int .u64 dx,.string (S dt),.slice r1 n1 d1,.slice r2 n2 d2,.slice r3 n3 d3,.slice r4 n4 d4,.slice r5 n5 d5]] w fun e w'=>e=.returned (.bool (decide (tk=10) && (decide (card=1) || decide (card=2))))/\Bel w w':=by
 have HB:=Lib.hid ((Bel.refl w).alloc (.cells #[.int .i64 num,.string (S name),.int .i64 card,.int .i64 key,.int .i64 tk,.string (S tn),.string (S un),.bool hd,.int .i64 dk,.int .u64 dx,.string (S dt),.slice r1 n1 d1,.slice r2 n2 d2,.slice r3 n3 d3,.slice r4 n4 d4,.slice r5 n5 d5] 65));by_cases h1:tk=10
 ·have h1b:(tk == 10)=true:=ieq h1
  have HR:=Lib.hid (show(decide (tk=10) && (decide (card=1) || decide (card=2)))=(decide (card=1) || decide (card=2))by simp [h1]);clear h1;by_cases h2:card=1
  ·have h2b:(card == 1)=true:=ieq h2
   have HR2:=Lib.hid (show(decide (card=1) || decide (card=2))=true by simp [h2]);clear h2
   go_enter Tryz.func32,Tryz.ntmps32
   go_wp2;go_ret
   exact⟨qa7 (HR.out.trans HR2.out).symm,HB.out⟩
  ·have h2b:(card == 1)=false:=ine h2
   have HR2:=Lib.hid (show(decide (card=1) || decide (card=2))=(card == 2)by rw [decide_eq_false h2,Bool.false_or,Bool.eq_iff_iff];simp);clear h2
   go_enter Tryz.func32,Tryz.ntmps32
   go_wp2;go_ret
   exact⟨qa7 (HR.out.trans HR2.out).symm,HB.out⟩
 ·have h1b:(tk == 10)=false:=ine h1
  have HR:=Lib.hid (show(decide (tk=10) && (decide (card=1) || decide (card=2)))=false by simp [h1]);clear h1
  go_enter Tryz.func32,Tryz.ntmps32
  go_wp2;go_ret
  exact⟨qa7 HR.out.symm,HB.out⟩
theorem qgq {f:PField} {vs:List Value} (w:World) {wv:World} (hv:VField wv vs f):Calls Tryz.prog 32 #[.agg vs.toArray] w fun e w'=>e=.returned (.bool (qax f))/\Bel w w':=by
 obtain⟨_,nv,rfl,⟨_,_,_,_,_,_,_,_,rfl,_⟩,h1⟩:=hv;obtain⟨_,_,rfl,_⟩:=qa5 h1;exact qhl f.num f.card f.key f.tk f.df.k f.df.x f.name f.tn f.un f.df.t f.hd _ _ _ _ _ _ _ _ _ _ _ _ _ _ _ w
end
section
open Go.RowKit
section
variable {P : Program} {ops : Array Oper} {S : World → Prop} {Q : Exit → Act → World → Prop} {K : Act → World → Prop} {a : Act} {w : World} {o : Oper} {r m : OrdT Oper}
theorem qbg (hgd:o.guard=none) (ty:TypeId) (x y:Operand) (ho:o.op=.store ty x y) (g:Nat) (cells old:Array Value) (t:TypeId) (hx:a.eval x=.pointer (some ⟨g,0,none⟩)) (hy:a.eval y=.agg cells) (hg:w.heap[g]? = some (.cells old t (0,0))) (hi:(P.info? ty).map (·.size)=some cells.size) (hold:old.size=cells.size) (h1:cells.all (·.oneCell')=true)
  (hS:S (w.setRow g cells)) (h:qb3 P ops S Q K r (a.put o.dst undef) (w.setRow g cells)) (hm:qb3 P ops S Q K m a w):qb3 P ops S Q K (.alt o r m) a w:=by
 refine⟨?_,hm⟩;have hw:Region.wanted o (yielded ops a.tmps)=true:=by simp [Region.wanted,hgd]
 rw [if_pos hw];exact wp_store_row ty x y ho g cells hx hy t old hg hi hold h1 ⟨hS,h⟩
end
theorem qdm {ρ:Operand->Value} {dst:Option Tmp} {pos:String} {after:Array Edge} {guard:Option (Nat × Bool)} {x:Operand} {t2:TypeId} {g:Nat} {cs:Array Value} {t:TypeId} {W:World} (hx:ρ x=.pointer (some ⟨g,0,none⟩)) (hg:W.heap[g]? = some (.cells cs t (0,0))) (hi:(Tryz.prog.info? 57).map (·.size)=some cs.size) :
  (execOp ρ { dst:=dst,op:=.load 57 x,type:=t2,pos:=pos,after:=after,guard:=guard }).run Tryz.prog W=.ok (.value (.agg cs)) W:=by
 have hv:=run_loadVar_row (P:=Tryz.prog) W g t 57 cs (0,0) _ hg Tryz.underlying57 rfl hi;unfold execOp;simp only [hx,Instr.loadAt,Instr.sureAddr,Sem.run_bind,Sem.run_pure,Result.andThen_ok,hv]
end
section
open Go.RowKit
theorem qhj {P:Program} {ops:Array Oper} {w:World} {Q:Act->Prop} {rest:List Oper} {a:Act} {o:Oper} (hgd:o.guard=none) (ty:TypeId) (x:Operand) (ho:o.op=.load ty x) (b off n:Nat) (vs:List Value) (hx:a.eval x=.pointer (some ⟨b,off,none⟩)) (hc : ∀i v,vs[i]? = some v->w.cell? ⟨b,off+i,none⟩=some v) (aE : ∀w,(isAgg ty).run P w=.ok true w) (zE : ∀w,(Go.sizeOf ty).run P w=.ok n w) (hn:vs.length=n)
  (h:wpStill P ops w Q rest (a.put o.dst (.agg vs.toArray))):wpStill P ops w Q (o :: rest) a:=by
 refine wpStill_step (fun K hK=>?_);have hw:Region.wanted o (yielded ops a.tmps)=true:=by simp [Region.wanted,hgd]
 rw [if_pos hw];have hl:Sem.run P (loadCellsFrom ⟨b,off,none⟩ 0 n #[]) w=.ok vs.toArray w:=run_loadCellsFrom_list P w ⟨b,off,none⟩ vs n hn (fun i v hi=>by rw [Addr.add_lit];exact hc i v hi)
 have hv:(loadVar ty ⟨b,off,none⟩).run P w=.ok (.agg vs.toArray) w:=by
  unfold loadVar loadCells;simp only [Sem.run_bind,aE,Result.andThen_ok,if_true,zE,hl,Sem.run_pure]
 unfold Oper.still execOp;simp only [ho,hx,Instr.loadAt,Instr.sureAddr,Sem.run_bind,Sem.run_pure,Result.andThen_ok,hv];rw [Oper.stillUpon_value];exact hK _ h
end
section
open Go.RowKit Ck Ma
def ROfC (n:Nat):Prop := ∀(A:Nat->Prop) (mv ev sv:Value) (s:PSchema) (name:Str) (d:VC) (cv:CV) (w:World),VSchema w [mv,ev,sv] s->Fine s->ValC A n w d cv->Calls Tryz.prog 19 #[.agg #[mv,ev,sv],.string (S name),.agg d.cells.toArray] w (qbm (fun _=>False) n w (ofV (envOf s) n name cv))
theorem qp1 (n:Nat) (q1 q2 q3:Option Addr) (c1 c2 c3:Nat) (s:PSchema) (name:Str) (d:VC) (hk:d.k ≠ 10) (w0:World):Calls Tryz.prog 19 #[.agg #[.slice q1 s.msgs.length c1,.slice q2 s.enums.length c2,.slice q3 s.svcs.length c3],.string (S name),.agg #[.int .i64 d.k,.int .u64 d.b,.string (S d.t),.slice d.p1 d.n1 d.c1,.slice d.p2 d.n2 d.c2,.slice d.p3 d.n3 d.c3,.slice d.p4 d.n4 d.c4]] w0 (qbm (fun _=>False) n w0 []):=by
 have hkb:(d.k != 10)=true:=bne_t hk;have hS0':=(((ST.start w0).addbox #[.slice q1 s.msgs.length c1,.slice q2 s.enums.length c2,.slice q3 s.svcs.length c3] 26).addbox #[.int .i64 d.k,.int .u64 d.b,.string (S d.t),.slice d.p1 d.n1 d.c1,.slice d.p2 d.n2 d.c2,.slice d.p3 d.n3 d.c3,.slice d.p4 d.n4 d.c4] 46);simp only [World.size_alloc]at hS0';have hS0:=Lib.hid hS0';clear hS0' hk
 go_enter Tryz.func19,Tryz.ntmps19
 go_wp2;go_ret
 exact⟨_,rfl,MaskD.nil _ _,hS0.out.bel⟩
theorem qmf (n:Nat) (mv ev sv:Value) (s:PSchema) (name:Str) (hm:msgOf s name=none) (d:VC) (hk:d.k=10) (w0:World) (hs:VSchema w0 [mv,ev,sv] s):Calls Tryz.prog 19 #[.agg #[mv,ev,sv],.string (S name),.agg #[.int .i64 d.k,.int .u64 d.b,.string (S d.t),.slice d.p1 d.n1 d.c1,.slice d.p2 d.n2 d.c2,.slice d.p3 d.n3 d.c3,.slice d.p4 d.n4 d.c4]] w0 (qbm (fun _=>False) n w0 []):=by
 have CM0:=Lib.hid (fun W (k:Bel w0 W)=>qcj mv ev sv s name w0 W k hs);rw [hm]at CM0;obtain⟨_,_,_,he,hm,hev,hsv⟩:=hs;cases he;obtain⟨q2,c2,rfl,hl2⟩:=qa5 hev;obtain⟨q3,c3,rfl,hl3⟩:=qa5 hsv;obtain⟨q1,c1,rfl,hl1⟩:=qa5 hm;clear hm hev hsv;rw [hk];have hS0':=(((ST.start w0).addbox #[.slice q1 s.msgs.length c1,.slice q2 s.enums.length c2,.slice q3 s.svcs.length c3] 26).addbox #[.int .i64 10,.int .u64 d.b,.string (S d.t),.slice d.p1 d.n1 d.c1,.slice d.p2 d.n2 d.c2,.slice d.p3 d.n3 d.c3,.slice d.p4 d.n4 d.c4] 46);simp only [World.size_alloc]at hS0';have hS0:=Lib.hid hS0';clear hm hS0' hk
 go_enter Tryz.func19,Tryz.ntmps19
 go_upto_region 5 with(first
 | (go_at_call 30;(with_reducible refine(CM0.out _ hS0.out.bel).mono ?_);rintro e w1 ⟨vm,at1,rfl,hvs,hat,k1⟩;have k1:Bel _ w1:=k1;have hv0:vm=zMsg:=hvs;subst hv0;have H1:=Lib.hid ((hS0.out.belw k1).addbox zMsg.toArray 57);clear k1 hvs)
 | (refine qa3 (old:=#[.string ⟨#[]⟩,.slice none 0 0,.slice none 0 0,.slice none 0 0,.slice none 0 0]) rfl 57 _ _ rfl w1 rfl w1.heap.size rfl zMsg.toArray rfl rfl ar_M rfl (by simp [zMsg,Value.oneCell']) ?_))
 generalize hwz:World.alloc w1 _=wz at H1 ⊢;clear hwz;go_wp2
 go_loopw [7,10] (fun vo i wr=>vo=.slice none 0 0/\i=.int .i64 0/\wr=wz) (fun _ _ _=>0)
 case atStart=>exact⟨rfl,rfl,rfl⟩
 case round=>
  obtain⟨rfl,rfl,rfl⟩:=hrel;have m1:=(H1.out.cell 0 rfl 1).trans (show zMsg.toArray[1]? = some (.slice none 0 0)from rfl);dsimp only at m1;go_wp2;go_ret;exact⟨_,rfl,MaskD.nil _ _,H1.out.bel⟩
theorem qme (n:Nat) (IH:ROfC n):ROfC (n+1):=by
 intro A mv ev sv s name d cv w0 hs hF hd;show Calls _ _ #[.agg #[mv,ev,sv],.string (S name),.agg #[.int .i64 d.k,.int .u64 d.b,.string (S d.t),.slice d.p1 d.n1 d.c1,.slice d.p2 d.n2 d.c2,.slice d.p3 d.n3 d.c3,.slice d.p4 d.n4 d.c4]] _ _
 by_cases hk:d.k=10
 ·obtain⟨sl,rw0,rfl⟩ : ∃sl rw0,cv=.msg sl rw0:=by
   have:=hd.msg.1 hk;cases cv with
   | msg sl rw0=>exact⟨sl,rw0,rfl⟩
   | scalar a b c=>cases this
   | list a=>cases this
   | map a=>cases this
  cases hm:msgOf s name with
  | none=>
   have hr:ofV (envOf s) (n+1) name (.msg sl rw0)=[]:=by
    show(if(msgOf s name).isSome=true then _ else [])=_
    rw [hm];rfl
   rw [hr];exact qmf (n+1) mv ev sv s name hm d hk w0 hs
  | some m=>
   obtain⟨hB,hFl⟩:=hF m (List.mem_of_find?_eq_some hm);rw [of_eq hm hFl];have HS:=Lib.hid (fun(W:World) (k:Bel w0 W)=>VSchema.staysB hs k);have CM0:=Lib.hid (fun W (k:Bel w0 W)=>qcj mv ev sv s name w0 W k hs);rw [hm]at CM0;obtain⟨_,_,_,he,hm,hev,hsv⟩:=hs;cases he;obtain⟨q2,c2,rfl,hl2⟩:=qa5 hev;obtain⟨q3,c3,rfl,hl3⟩:=qa5 hsv;obtain⟨q1,c1,rfl,hl1⟩:=qa5 hm;clear hm hev hsv;obtain⟨_,hsl,_⟩:=hd;obtain⟨lp,lc,hlv,hsll,_,hsel⟩:=hsl;have hd3:(Value.slice d.p3 d.n3 d.c3)=.slice lp sl.length lc:=hlv;injection hd3 with hp3 hn3 hc3
   have ES:=Lib.hid hsel;rw [hk,hp3,hn3,hc3];obtain⟨i1,hi1,hy0,hy1,hy2⟩:=info_parts qce;have V:=Lib.hid (show([]:List ME).map (·.x) ++ (m.fields.drop 0).filterMap (fun f=>ofF (envOf s) n sl f)=m.fields.filterMap (ofF (envOf s) n sl)from rfl);generalize m.fields.filterMap (ofF (envOf s) n sl)=Z at V;have HFi:=Lib.hid hF;have hS0':=(((ST.start w0).addbox #[.slice q1 s.msgs.length c1,.slice q2 s.enums.length c2,.slice q3 s.svcs.length c3] 26).addbox #[.int .i64 10,.int .u64 d.b,.string (S d.t),.slice d.p1 d.n1 d.c1,.slice d.p2 d.n2 d.c2,.slice lp sl.length lc,.slice d.p4 d.n4 d.c4] 46);simp only [World.size_alloc]at hS0';have hS0:=Lib.hid hS0';clear hk hp3 hn3 hc3 hlv hS0' hF hFl hm hsel
   go_enter Tryz.func19,Tryz.ntmps19
   go_upto_region 5 with(first
 | (go_at_call 30;(with_reducible refine(CM0.out _ hS0.out.bel).mono ?_);rintro e w1 ⟨vm,at1,rfl,hvs,hat,k1⟩;have k1:Bel _ w1:=k1;have HVM:=Lib.hid (show VMsg _ vm m from hvs);obtain⟨hlen,hone⟩:=qbq hvs;have HVS:=Lib.hid hvs;have Z0:vm.toArray.size=5:=(by rw [List.size_toArray];exact hlen);have Z1:=Lib.hid (show(Tryz.prog.info? 57).map (·.size)=some vm.toArray.size by rw [Z0];exact ar_M);have Z2:=Lib.hid (show(#[.string ⟨#[]⟩,.slice none 0 0,.slice none 0 0,.slice none 0 0,.slice none 0 0]:Array Value).size=vm.toArray.size by rw [Z0];rfl);have HO:=Lib.hid hone;clear hlen hone Z0 hvs;have H1:=Lib.hid ((hS0.out.belw k1).addbox vm.toArray 57);clear k1)
 | (refine qa3 (old:=#[.string ⟨#[]⟩,.slice none 0 0,.slice none 0 0,.slice none 0 0,.slice none 0 0]) rfl 57 _ _ rfl w1 rfl w1.heap.size rfl vm.toArray rfl rfl Z1.out Z2.out HO.out ?_))
   generalize hwz:World.alloc w1 _=wz at H1 ⊢;clear hwz hat;generalize hmb:w1.heap.size=mb at H1 ⊢;clear hmb HVS HO Z2 Z1 CM0 hS0;obtain⟨fv,_,_,_,hvv,hfl,_⟩:=HVM.out;obtain⟨f1,d1,rfl,_⟩:=qa5 hfl;obtain⟨_,_,hq,hl,hcap,hel⟩:=hfl;cases hq;have EL:=Lib.hid hel;have M1:=Lib.hid (show vm.toArray[1]? = some (.slice f1 m.fields.length d1)by rw [hvv];rfl);have HT:=Lib.hid (H1.out.nilrow 61 2);clear hel hcap hvv H1 HVM;go_wp2
   go_loopw [7,10] (fun vo i wr => ∃(k:Nat) (L:List ME),k<=m.fields.length/\i=.int .i64 k/\Hid (ST w0 [medge vo L] [⟨mb,vm.toArray,57⟩,⟨w0.heap.size+1,#[.int .i64 10,.int .u64 d.b,.string (S d.t),.slice d.p1 d.n1 d.c1,.slice d.p2 d.n2 d.c2,.slice lp sl.length lc,.slice d.p4 d.n4 d.c4],46⟩,⟨w0.heap.size,#[.slice q1 s.msgs.length c1,.slice q2 s.enums.length c2,.slice q3 s.svcs.length c3],26⟩] wr)/\L.length<=k/\Hid (RowOK (fun _=>False) w0.heap.size n vo L wr)/\Hid (L.map (·.x) ++ (m.fields.drop k).filterMap (fun f=>ofF (envOf s) n sl f)=Z)) (fun _ i _=>m.fields.length-(intOf i).toNat)
   case atStart=>exact⟨0,[],by omega,rfl,HT,by simp,Lib.hid (RowOK.nil _ _ _ _ _),V⟩
   case round=>as_aux_lemma=>
    clear V HT;obtain⟨k,L,hk,rfl,hS,hLk,hO,hx⟩:=hrel;obtain⟨wo,hwo⟩ : ∃wo,wo=wr:=⟨_,rfl⟩;subst hwo;obtain⟨qo,co,hvo⟩:=qan (hS.out.row 0 rfl);dsimp only [medge]at hvo;subst hvo;have m1:=(hS.out.cell 0 rfl 1).trans M1.out;dsimp only at m1;by_cases hlt:k<m.fields.length
    ·obtain⟨b,off,rfl,hbs,vs,hce,hvs⟩:=EL.out k _ (List.getElem?_eq_getElem hlt)
     have hki:(k:Int)<(m.fields.length:Int):=by omega
     have hst:=hx.out;rw [fm_at hlt]at hst;have HL:=Lib.hid (VField.len _ _ _ hvs);have HCw:=Lib.hid hce;have HVF:=Lib.hid hvs;have H0:=hS;have O0:=hO;clear hce hx hS hO hvs;generalize m.fields[k]=f at *;have HF0:=Lib.hid (show w0.cell? ⟨b,off+k*16,none⟩=some (.int .i64 f.num)from by have h:=HCw.out 0 _ (show vs[0]? = some (.int .i64 f.num)by have h:=(VField.at HVF.out).1;rwa [List.getElem?_toArray]at h);rwa [Nat.add_zero]at h);have HF5:=Lib.hid (show w0.cell? ⟨b,off+k*16+5,none⟩=some (.string (S f.tn))from HCw.out 5 _ (by have h:=(VField.at HVF.out).2.2.2.2;rwa [List.getElem?_toArray]at h));have CS:=Lib.hid (fun W=>qgq (f:=f) (vs:=vs) W HVF.out);have VI:=Lib.hid (show(sl.drop 0).find? (fun x=>decide (x.1=f.num))=sl.find? (fun x=>decide (x.1=f.num))from rfl);have hof:ofF (envOf s) n sl f=(sl.find? (fun x=>decide (x.1=f.num))).map (fun x=>PMask.mk f.num (if qax f then ofV (envOf s) n f.tn x.2 else [])):=by unfold ofF qip;rw [Option.map_map];rfl
     rw [hof]at hst;have HST0:=Lib.hid hst;clear hst hof;generalize sl.find? (fun x=>decide (x.1=f.num))=Y at VI HST0
     go_upto_region 9 with(fail)
     go_loopw [7,11] (fun vo i wr => ∃j:Nat,j<=sl.length/\vo=.slice qo L.length co/\i=.int .i64 j/\Hid (Bel wo wr)/\Hid ((sl.drop j).find? (fun x=>decide (x.1=f.num))=Y)) (fun _ i _=>sl.length-(intOf i).toNat)
     case atStart=>exact⟨0,by omega,rfl,rfl,Lib.hid (Bel.refl _),VI⟩
     case round=>
      clear VI m1;obtain⟨j,hj,rfl,rfl,hb,hy⟩:=hrel;have HI:=Lib.hid (H0.out.belw hb.out);have v5:=HI.out.cell 1 rfl 5;dsimp only at v5;by_cases hlj:j<sl.length
      ·obtain⟨lb,loff,xs,rfl,hxs,hxa,hxe,dx,hxv,hdx⟩:=ES.out j _ (List.getElem?_eq_getElem hlj)
       have hji:(j:Int)<(sl.length:Int):=by omega
       have hyt:=hy.out;rw [List.drop_eq_getElem_cons hlj,List.find?_cons]at hyt;generalize sl[j]=x at *;have hx0:w0.cell? ⟨lb,loff+j*8,none⟩=some (.int .i64 x.1):=by have h:=hxe 0 (.int .i64 x.1) (by rw [hxv];rfl);rwa [Nat.add_zero]at h
       have HXC:=Lib.hid (fun i v (hi:dx.cells[i]? = some v)=>(by have:=hxe (1+i) v (by rw [hxv,Nat.add_comm,List.getElem?_cons_succ];exact hi);rw [←Nat.add_assoc]at this;exact this:w0.cell? ⟨lb,loff+j*8+1+i,none⟩=some v));have HX0:=Lib.hid hx0;have HDX:=Lib.hid (show ValC A n w0 dx x.2 from hdx);clear hxe hxv hxs hxa hx0 hdx hy
       go_upto_region 11 with(fail)
       clear v5;obtain⟨wd,hwd⟩ : ∃wd,wd=wr.drew:=⟨_,rfl⟩;have HD:=Lib.hid (show ST w0 [medge (.slice qo L.length co) L] [⟨mb,vm.toArray,57⟩,⟨w0.heap.size+1,#[.int .i64 10,.int .u64 d.b,.string (S d.t),.slice d.p1 d.n1 d.c1,.slice d.p2 d.n2 d.c2,.slice (some ⟨lb,loff,none⟩) sl.length lc,.slice d.p4 d.n4 d.c4],46⟩,⟨w0.heap.size,#[.slice q1 s.msgs.length c1,.slice q2 s.enums.length c2,.slice q3 s.svcs.length c3],26⟩] wd by rw [hwd];exact HI.out.belw (Bel.refl _).drew);have KD:=Lib.hid (show Bel wo wd by rw [hwd];exact hb.out.drew);have HWD:=Lib.hid hwd;clear hwd HI hb;have v5:=HD.out.cell 1 rfl 5;have m1:=(HD.out.cell 0 rfl 1).trans M1.out;have x0:=HD.out.bel.some HX0.out;have f0:=HD.out.bel.some HF0.out;dsimp only at v5 m1;by_cases he:x.1=f.num
       ·have hne:(x.1 != f.num)=false:=by simp [he]
        rw [decide_eq_true he]at hyt;have hyt:some x=Y:=hyt;subst hyt;clear he;refine qae 12 (by kernel_rfl) (by kernel_rfl) HWD.out ?_
        (simp only [List.take_succ_cons,List.take_zero,List.drop_succ_cons,List.drop_zero]);(repeat (first|((with_reducible refine wpStill_step (fun K hK=>?_));go_simp;(with_reducible refine hK _ ?_);clear hK K)|((with_reducible refine qaf ?_ ?_);(with_unfolding_all rfl);(simp only [Act.put,List.setIfInBounds_toArray,List.set_cons_zero,List.set_cons_succ]))));(with_reducible refine wpStill_nil ?_)
        go_upto_region 13 with(fail)
        have H2:=Lib.hid (HD.out.addbox #[.int .i64 f.num,.slice none 0 0] 61);have K2:=Lib.hid (KD.out.alloc (.cells #[.int .i64 f.num,.slice none 0 0] 61));generalize hwb:World.alloc wd _=w2 at H2 K2 ⊢;clear hwb x0 f0 v5 m1 hne HWD;have KBL:=Lib.hid (show wo.heap.size<=wd.heap.size from KD.out.size);generalize hkb:wd.heap.size=kb at H2 KBL ⊢;clear hkb;have m1:=(H2.out.cell 1 rfl 1).trans M1.out;dsimp only at m1;have HC:=Lib.hid (fun i v hi=>H2.out.bel.some (HCw.out i v hi));cases hsf:qax f with
        | false=>
         rw [hsf]at CS HST0;have HST:=Lib.hid (show L.map (·.x) ++ ([PMask.mk f.num []] ++ (m.fields.drop (k+1)).filterMap (fun f=>ofF (envOf s) n sl f))=Z from HST0.out);clear HST0 hsf
         go_upto_region 15 with(first
          | (refine qaa rfl 65 _ rfl b (off+k*16) 16 vs rfl HC.out ag_F sz_F HL.out ?_)
          | (go_at_call 32;(with_reducible refine(CS.out _).mono ?_);rintro e w3 ⟨rfl,k3⟩;have k3:Bel _ w3:=k3;have H3:=Lib.hid (H2.out.belw k3);have K3:=Lib.hid (Bel.of K2.out k3);clear k3))
         have k0:=H3.out.cell 0 rfl 0;have k1:=H3.out.cell 0 rfl 1;dsimp only at k0 k1;have H7:=Lib.hid (H3.out.belw ((Bel.refl w3).alloc (.cells #[.int .i64 f.num,.slice none 0 0] 61)));have O7:=Lib.hid ((O0.out.bel K3.out).bel ((Bel.refl w3).alloc (.cells #[.int .i64 f.num,.slice none 0 0] 61)))
         go_wp2_with (at_builtin;refine wpList_append_lies _ rfl _ _ 27 rfl w0.heap.size 61 i1 (.agg #[.int .i64 0,.slice none 0 0]) 2 32 Tryz.underlying27 hi1 hy0 hy1 hy2 rfl (by decide) _ L.length _ rfl (H7.out.row 0 rfl) ⟨w3.heap.size,0,none⟩ 1 1 [.int .i64 f.num,.slice none 0 0] rfl rfl (qau _ _ _) (by simp [Value.oneCell']) (by decide) (by unfold maxLen;omega) (by omega) H7.out.bel.size (w3.heap.size+1) (by simp) ?_)
         intro g8 cap8 w8 hown hgrow hfr hlt8;have O8:=Lib.hid (RowOK.snoc (e:=allE f) (m:=L.length+1) (c:=cap8) O7.out H7.out (fun b hb=>hb.elim) (MaskD.nil n _) hgrow hfr (by simp));have H8:=Lib.hid (qah (e:=allE f) (H7.out.grow 0 rfl hgrow hown (qbc hfr (by simp))));clear hown hgrow hfr;go_wp2;go_roundw
         case rel=>exact⟨k+1,L ++ [allE f],by omega,by go_num,Lib.hid H8.out.dropbox0,by rw [List.length_append,List.length_singleton];omega,O8,by simpa [allE]using HST⟩
         case measure=>simp [intOf];omega
        | true=>
         rw [hsf]at CS HST0;have CI:=Lib.hid (fun W (k:Bel w0 W)=>IH A (.slice q1 s.msgs.length c1) (.slice q2 s.enums.length c2) (.slice q3 s.svcs.length c3) s f.tn dx x.2 W (HS.out W k) HFi.out (HDX.out.bel k));have hst2:L.map (·.x) ++ ([PMask.mk f.num (ofV (envOf s) n f.tn x.2)] ++ (m.fields.drop (k+1)).filterMap (fun f=>ofF (envOf s) n sl f))=Z:=HST0.out;generalize ofV (envOf s) n f.tn x.2=M at CI hst2;unfold qbm at CI;have HST:=Lib.hid hst2;clear hst2 hsf IH HST0
         go_upto_region 14 with(first
          | (refine qaa rfl 65 _ rfl b (off+k*16) 16 vs rfl HC.out ag_F sz_F HL.out ?_)
          | (go_at_call 32;(with_reducible refine(CS.out _).mono ?_);rintro e w3 ⟨rfl,k3⟩;have k3:Bel _ w3:=k3;have H3:=Lib.hid (H2.out.belw k3);have K3:=Lib.hid (Bel.of K2.out k3);clear k3))
         clear m1;obtain⟨we,hwe⟩ : ∃we,we=w3.drew:=⟨_,rfl⟩;have H4:=Lib.hid (show ST w0 [medge (.slice qo L.length co) L] (⟨kb,#[.int .i64 f.num,.slice none 0 0],61⟩ :: [⟨mb,vm.toArray,57⟩,⟨w0.heap.size+1,#[.int .i64 10,.int .u64 d.b,.string (S d.t),.slice d.p1 d.n1 d.c1,.slice d.p2 d.n2 d.c2,.slice (some ⟨lb,loff,none⟩) sl.length lc,.slice d.p4 d.n4 d.c4],46⟩,⟨w0.heap.size,#[.slice q1 s.msgs.length c1,.slice q2 s.enums.length c2,.slice q3 s.svcs.length c3],26⟩]) we by rw [hwe];exact H3.out.belw (Bel.refl _).drew);have K4:=Lib.hid (show Bel wo we by rw [hwe];exact K3.out.drew);have HWE:=Lib.hid hwe;clear hwe H3 K3;have t0:=H4.out.cell 3 rfl 0;have t1:=H4.out.cell 3 rfl 1;have t2:=H4.out.cell 3 rfl 2;have v5:=H4.out.cell 2 rfl 5;have m1:=(H4.out.cell 1 rfl 1).trans M1.out;have f5:=H4.out.bel.some HF5.out;dsimp only at t0 t1 t2 v5 m1;have HXW:=Lib.hid (fun i v hi=>H4.out.bel.some (HXC.out i v hi));refine qae 14 (by kernel_rfl) (by kernel_rfl) HWE.out ?_
         (simp only [List.take_succ_cons,List.take_zero,List.drop_succ_cons,List.drop_zero])
         repeat (first
          | (refine qhj rfl 46 _ rfl lb (loff+j*8+1) 7 dx.cells rfl HXW.out vg_V vz_V rfl ?_;simp only [Act.put,List.setIfInBounds_toArray,List.set_cons_zero,List.set_cons_succ])
          | ((with_reducible refine wpStill_step (fun K hK=>?_));go_simp;(with_reducible refine hK _ ?_);clear hK K))
         with_reducible refine wpStill_nil ?_
         go_upto_region 15 with(go_at_call 19;(with_reducible refine(CI.out _ H4.out.bel).mono ?_);rintro e w5 ⟨mv',rfl,hmd,k5⟩;have k5:Bel _ w5:=k5;obtain⟨mp,mc,hmv⟩:=hmd.form;subst hmv;have H5:=Lib.hid (H4.out.belw k5);have K5:=Lib.hid (Bel.of K4.out k5);have MD5:=Lib.hid hmd;clear t0 t1 t2 v5 m1 f5;have n0:=H5.out.cell 0 rfl 0;have n1:=H5.out.cell 0 rfl 1;have nf:=H5.out.frz 0 rfl 1;dsimp only at n0 n1 nf;clear k5 hmd)
         have H6:=Lib.hid (show ST w0 [medge (.slice qo L.length co) L] (⟨kb,#[.int .i64 f.num,.slice mp M.length mc],61⟩ :: [⟨mb,vm.toArray,57⟩,⟨w0.heap.size+1,#[.int .i64 10,.int .u64 d.b,.string (S d.t),.slice d.p1 d.n1 d.c1,.slice d.p2 d.n2 d.c2,.slice (some ⟨lb,loff,none⟩) sl.length lc,.slice d.p4 d.n4 d.c4],46⟩,⟨w0.heap.size,#[.slice q1 s.msgs.length c1,.slice q2 s.enums.length c2,.slice q3 s.svcs.length c3],26⟩]) _ from H5.out.setbox 0 rfl 1 (.slice mp M.length mc));have K6:=Lib.hid (show Bel wo (w5.setCell ⟨kb,1,none⟩ (.slice mp M.length mc))from qbf K5.out KBL.out);have MD6:=Lib.hid (MaskD.weak (A':=Off (fun _=>False) w0.heap.size (.slice qo L.length co)) ((MD5.out.weak (A':=fun b=>we.heap.size<=b) (fun b hb _=>hb.elim False.elim id)).kept (Keep.grown (qb2 w5 kb 1 (.slice mp M.length mc)) (fun b hb e=>by have e2:b=kb:=(by injection e);have:=(H4.out.boxlt 0 rfl).2;dsimp only at this;omega))) (fun b hb _=>qcv H4.out (.inr hb)));generalize hwc:World.setCell w5 _ _=w6 at H6 K6 MD6 ⊢;clear hwc n0 n1 nf;have n0:=H6.out.cell 0 rfl 0;have n1:=H6.out.cell 0 rfl 1;dsimp only at n0 n1;have H7:=Lib.hid (H6.out.belw ((Bel.refl w6).alloc (.cells #[.int .i64 f.num,.slice mp M.length mc] 61)));have O7:=Lib.hid ((O0.out.bel K6.out).bel ((Bel.refl w6).alloc (.cells #[.int .i64 f.num,.slice mp M.length mc] 61)));have MD7:=Lib.hid (MaskD.bel MD6.out ((Bel.refl w6).alloc (.cells #[.int .i64 f.num,.slice mp M.length mc] 61)))
         go_wp2_with (at_builtin;refine wpList_append_lies _ rfl _ _ 27 rfl w0.heap.size 61 i1 (.agg #[.int .i64 0,.slice none 0 0]) 2 32 Tryz.underlying27 hi1 hy0 hy1 hy2 rfl (by decide) _ L.length _ rfl (H7.out.row 0 rfl) ⟨w6.heap.size,0,none⟩ 1 1 [.int .i64 f.num,.slice mp M.length mc] rfl rfl (qau _ _ _) (by simp [Value.oneCell']) (by decide) (by unfold maxLen;omega) (by omega) H7.out.bel.size (w6.heap.size+1) (by simp) ?_)
         intro g8 cap8 w8 hown hgrow hfr hlt8;have O8:=Lib.hid (RowOK.snoc (e:=⟨.mk f.num M,mp,mc⟩) (m:=L.length+1) (c:=cap8) O7.out H7.out (fun b hb=>hb.elim) MD7.out hgrow hfr (by simp));have H8:=Lib.hid (qah (e:=⟨.mk f.num M,mp,mc⟩) (H7.out.grow 0 rfl hgrow hown (qbc hfr (by simp))));clear hown hgrow hfr;go_wp2;go_roundw
         case rel=>exact⟨k+1,L ++ [⟨.mk f.num M,mp,mc⟩],by omega,by go_num,Lib.hid H8.out.dropbox0,by rw [List.length_append,List.length_singleton];omega,O8,by simpa using HST⟩
         case measure=>simp [intOf];omega
       ·have hne:(x.1 != f.num)=true:=bne_t he
        rw [decide_eq_false he]at hyt;have HYT:=Lib.hid (show(sl.drop (j+1)).find? (fun x=>decide (x.1=f.num))=Y from hyt);clear he hyt;refine qae 12 (by kernel_rfl) (by kernel_rfl) HWD.out ?_
        (simp only [List.take_succ_cons,List.take_zero,List.drop_succ_cons,List.drop_zero]);(repeat (first|((with_reducible refine wpStill_step (fun K hK=>?_));go_simp;(with_reducible refine hK _ ?_);clear hK K)|((with_reducible refine qaf ?_ ?_);(with_unfolding_all rfl);(simp only [Act.put,List.setIfInBounds_toArray,List.set_cons_zero,List.set_cons_succ]))));(with_reducible refine wpStill_nil ?_)
        go_wp2;go_roundw
        case rel=>exact⟨j+1,by omega,rfl,by go_num,KD,HYT⟩
        case measure=>simp [intOf];omega
      ·have hjl:j=sl.length:=by omega
       have hji : ¬(j:Int)<(sl.length:Int):=by omega
       have hyn:none=Y:=by have:=hy.out;rw [hjl,List.drop_length]at this;exact this
       subst hyn;have HST:=Lib.hid (show L.map (·.x) ++ (m.fields.drop (k+1)).filterMap (fun f=>ofF (envOf s) n sl f)=Z from HST0.out);have O9:=Lib.hid (O0.out.bel hb.out);clear HST0 hy;go_wp2;go_roundw
       case rel=>exact⟨k+1,L,by omega,by go_num,HI,by omega,O9,HST⟩
       case measure=>simp [intOf];omega
    ·have hkl:k=m.fields.length:=by omega
     have hki : ¬(k:Int)<(m.fields.length:Int):=by omega
     have hz:L.map (·.x)=Z:=by have:=hx.out;rw [hkl,List.drop_length]at this;simpa using this
     have HR:=Lib.hid (qd3 hS.out hO.out (by omega) hz);clear hx;go_wp2;go_ret;exact⟨_,rfl,HR.out,hS.out.bel⟩
 ·have hr:ofV (envOf s) (n+1) name cv=[]:=by
   cases cv with
   | msg sl rw0=>exact absurd (hd.msg.2 rfl) hk
   | _=>rfl
  rw [hr];obtain⟨_,_,_,he,hm,hev,hsv⟩:=hs;cases he;obtain⟨q2,c2,rfl,hl2⟩:=qa5 hev;obtain⟨q3,c3,rfl,hl3⟩:=qa5 hsv;obtain⟨q1,c1,rfl,hl1⟩:=qa5 hm;clear hm hev hsv;exact qp1 (n+1) q1 q2 q3 c1 c2 c3 s name d hk w0
theorem rm_Of : ∀n:Nat,ROfC n
 | 0=>fun _ _ _ _ _ _ _ _ _ _ _ h=>h.elim
 | n+1=>qme n (rm_Of n)
end
section
open Go.RowKit Ma
theorem qe6 {l:List PMask} (h:l ≠ []):0<l.length/\(0:Int)<(l.length:Int)/\((l.length:Int) == 0)=false/\((l.length:Int) != 0)=true:=by
 have h0:0<l.length:=List.length_pos_iff.2 h;exact⟨h0,by omega,ine (by omega),bne_t (by omega)⟩
theorem qd4 {l:List PMask} (h:l=[]):decide (0<l.length)=false/\((l.length:Int) == 0)=true/\decide ((0:Int)<(l.length:Int))=false:=by
 subst h;exact⟨rfl,rfl,rfl⟩
end
end Go.Proofs.YtaaneecceiefoaaGreatDoor
