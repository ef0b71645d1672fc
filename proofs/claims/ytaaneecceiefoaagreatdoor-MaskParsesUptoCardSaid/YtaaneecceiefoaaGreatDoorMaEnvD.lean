import Derived.Test.YtaaneecceiefoaaGreatDoorMaFind
import Derived.Test.YtaaneecceiefoaaGreatDoorMdLaw
import Derived.Laws.Tables
import Derived.Deep.WholeRow
import Derived.Laws.CopyRow
import Derived.Shelf.SlicesQ.Load
import Derived.Test.YtaaneecceiefoaaGreatDoorMaVM
import Derived.Test.YtaaneecceiefoaaGreatDoorTwo
set_option maxRecDepth 100000
set_option maxHeartbeats 4000000
set_option linter.unusedVariables false
set_option linter.unusedSimpArgs false
namespace Go.Proofs.YtaaneecceiefoaaGreatDoor
section
open Go.RowKit Ma
theorem rm_Find (A:Nat->Prop) (n:Nat) (v:Value) (l:List PMask) (q:Int) (w0:World) (h:MaskD A (n+1) w0 v l):Calls Tryz.prog 48 #[v,.int .i64 q] w0 (FoundM A n w0 (find l q)):=by
 obtain⟨p,c,rfl,hl,hcap,hel⟩:=h;have EL:=Lib.hid hel;have V:=Lib.hid (show find (l.drop 0) q=find l q from rfl);generalize find l q=Z at V;have hS0:=Lib.hid ((ST.start w0).addbox #[.int .i64 0,.slice none 0 0] 61);clear hel hcap
 go_enter Tryz.func48,Tryz.ntmps48
 go_wp2
 go_loopw [6] (fun i wr => ∃k:Nat,k<=l.length/\i=.int .i64 k/\Hid (ST w0 [] [⟨w0.heap.size,#[.int .i64 0,.slice none 0 0],61⟩] wr)/\Hid (find (l.drop k) q=Z)) (fun i _=>l.length-(intOf i).toNat)
 case atStart=>exact⟨0,by omega,rfl,hS0,V⟩
 case round=>as_aux_lemma=>
  clear hS0 V;obtain⟨k,hk,rfl,hS,hx⟩:=hrel;have f0:=hS.out.cell 0 rfl 0;have f1:=hS.out.cell 0 rfl 1;have z0:=hS.out.frz 0 rfl 0;have z1:=hS.out.frz 0 rfl 1;have zl:=(hS.out.boxlt 0 rfl).2;dsimp only at f0 f1 z0 z1 zl;by_cases hlt:k<l.length
  ·obtain⟨b,off,sv,rfl,hbs,hab,hc0,hc1,hd⟩:=EL.out k _ (List.getElem?_eq_getElem hlt)
   obtain⟨sp,sc,rfl⟩:=hd.form;have hki:(k:Int)<(l.length:Int):=by omega
   have e0:=hS.out.bel.some hc0;have e1:=hS.out.bel.some hc1;clear hc0 hc1 hab;have hst:=hx.out;rw [find_at hlt]at hst;clear hx;generalize l[k]=x at *;by_cases he:x.num=q
   ·have hb:(x.num == q)=true:=ieq he
    rw [if_pos he]at hst;have HST:=Lib.hid hst;clear hst he;go_wp2;have HB:=Lib.hid (show ST w0 [] [⟨w0.heap.size,#[.int .i64 x.num,.slice sp x.subs.length sc],61⟩] _ from(hS.out.setbox 0 rfl 0 (.int .i64 x.num)).setbox 0 rfl 1 (.slice sp x.subs.length sc));refine bodyPost_ret (v:=.tuple #[.agg #[.int .i64 x.num,.slice sp x.subs.length sc],.bool true]) ?hres1 rfl ?hpost1
    case hres1=>exact qb1 rfl rfl rfl (HB.out.box 0 rfl) Tryz.underlying61 rfl (by kernel_rfl)
    case hpost1=>exact⟨x,sp,sc,.inl HST.out.symm,by rw [←HST.out];rfl,hd.bel HB.out.bel,HB.out.bel⟩
   ·have hb:(x.num == q)=false:=ine he
    rw [if_neg he]at hst;have HST:=Lib.hid hst;clear hst he;go_wp2;go_roundw
    case rel=>exact⟨k+1,by omega,by go_num,hS,HST⟩
    case measure=>simp [intOf];omega
  ·have hkl:k=l.length:=by omega
   have hz:none=Z:=by have:=hx.out;rw [hkl,List.drop_length]at this;exact this
   subst hz;clear hx;go_wp2;have HB:=Lib.hid (show ST w0 [] [⟨w0.heap.size,#[.int .i64 0,.slice none 0 0],61⟩] _ from(hS.out.setbox 0 rfl 0 (.int .i64 0)).setbox 0 rfl 1 (.slice none 0 0));refine bodyPost_ret (v:=.tuple #[.agg #[.int .i64 0,.slice none 0 0],.bool false]) ?hres2 rfl ?hpost2
   case hres2=>exact qb1 rfl rfl rfl (HB.out.box 0 rfl) Tryz.underlying61 rfl (by kernel_rfl)
   case hpost2=>exact⟨.mk 0 [],none,0,.inr ⟨rfl,rfl⟩,rfl,MaskD.nil _ _,HB.out.bel⟩
theorem qit {A:Nat->Prop} {n:Nat} {v:Value} {l:List PMask} {q:Int} {x:PMask} (hz:find l q=some x) (w0:World) (h:MaskD A (n+1) w0 v l):Calls Tryz.prog 48 #[v,.int .i64 q] w0 fun e w' => ∃p c,e=.returned (.tuple #[.agg #[.int .i64 x.num,.slice p x.subs.length c],.bool true])/\MaskD A n w' (.slice p x.subs.length c) x.subs/\Bel w0 w':=by
 have:=rm_Find A n v l q w0 h;rw [hz]at this;refine this.mono fun e w' ⟨y,p,c,hy,he,hd,k⟩=>?_
 rcases hy with hy|⟨hy,_⟩
 ·cases hy
  exact⟨p,c,he,hd,k⟩
 ·cases hy
theorem qiu {A:Nat->Prop} {n:Nat} {v:Value} {l:List PMask} {q:Int} (hz:find l q=none) (w0:World) (h:MaskD A (n+1) w0 v l):Calls Tryz.prog 48 #[v,.int .i64 q] w0 fun e w' => ∃p c,e=.returned (.tuple #[.agg #[.int .i64 0,.slice p 0 c],.bool false])/\Bel w0 w':=by
 have:=rm_Find A n v l q w0 h;rw [hz]at this;refine this.mono fun e w' ⟨y,p,c,hy,he,hd,k⟩=>?_
 rcases hy with hy|⟨_,rfl⟩
 ·cases hy
 ·exact⟨p,c,he,k⟩
def SameC (n:Nat):Prop := ∀(A1 A2:Nat->Prop) (v1 v2:Value) (a b:List PMask) (w:World),MaskD A1 n w v1 a->MaskD A2 n w v2 b->Calls Tryz.prog 14 #[v1,v2] w fun e w'=>e=.returned (.bool (samB n a b))/\Bel w w'
theorem qkx:SameC 0:=by
 intro A1 A2 v1 v2 a b w0 ha hb;obtain⟨rfl,p,c,rfl⟩:=ha;obtain⟨rfl,p2,c2,rfl⟩:=hb;show Calls _ _ _ _ fun e w'=>e=.returned (.bool true)/\Bel w0 w'
 go_enter Tryz.func14,Tryz.ntmps14
 go_wp2
 go_loopw [5] (fun i wr=>i=.int .i64 0/\Hid (Bel w0 wr)) (fun i _=>0)
 case atStart=>exact⟨rfl,Lib.hid (Bel.refl _)⟩
 case round=>
  obtain⟨rfl,hS⟩:=hrel;go_wp2;go_ret;exact⟨rfl,hS.out⟩
theorem qis (n:Nat) (II:SameC n):SameC (n+1):=by
 intro A1 A2 v1 v2 a b w0 ha hb;obtain⟨p,c,rfl,hl,hcap,hel⟩:=ha;obtain⟨p2,c2,rfl,hl2,hcap2,hel2⟩:=hb;have EL:=Lib.hid hel;have EL2:=Lib.hid hel2;have V:=Lib.hid (show samL (samB n) (a.drop 0) (b.drop 0)=samB (n+1) a b from rfl);have V0:=Lib.hid (show samL (samB n) a b=samB (n+1) a b from rfl);generalize samB (n+1) a b=Z at V V0;clear hel hcap hel2 hcap2;have CI:=Lib.hid (fun W v1 v2 a b h1 h2=>II A1 A2 v1 v2 a b W h1 h2);clear II;by_cases hle:a.length=b.length
 ·have hli:((a.length:Int) != (b.length:Int))=false:=by rw [hle];simp
  have hl1:a.length<=b.length:=by omega
  have HLE:=Lib.hid hle;clear V0 hle
  go_enter Tryz.func14,Tryz.ntmps14
  go_wp2
  go_loopw [5] (fun i wr => ∃k:Nat,k<=a.length/\i=.int .i64 k/\Hid (Bel w0 wr)/\Hid (samL (samB n) (a.drop k) (b.drop k)=Z)) (fun i _=>a.length-(intOf i).toNat)
  case atStart=>exact⟨0,by omega,rfl,Lib.hid (Bel.refl _),V⟩
  case round=>as_aux_lemma=>
   clear V;obtain⟨k,hk,rfl,hS,hx⟩:=hrel;by_cases hlt:k<a.length
   ·have hlt2:k<b.length:=by omega
    obtain⟨g,off,sv,rfl,hbs,hab,hc0,hc1,hd⟩:=EL.out k _ (List.getElem?_eq_getElem hlt);obtain⟨g2,off2,sv2,rfl,hbs2,hab2,hd0,hd1,he⟩:=EL2.out k _ (List.getElem?_eq_getElem hlt2);obtain⟨sp,sc,rfl⟩:=hd.form;obtain⟨sp2,sc2,rfl⟩:=he.form;have hki:(k:Int)<(a.length:Int):=by omega
    have hki2:(k:Int)<(b.length:Int):=by omega
    have hst:=hx.out;rw [samL_at hlt hlt2]at hst;clear hx EL EL2;generalize a[k]=x at *;generalize b[k]=y at *
    go_upto_region 6 with(fail)
    obtain⟨wd,hwd⟩ : ∃wd,wd=wr.drew:=⟨_,rfl⟩;have KD:=Lib.hid (show Bel w0 wd by rw [hwd];exact hS.out.drew);have HWD:=Lib.hid hwd;clear hwd hS;have e0:=KD.out.some hc0;have e1:=KD.out.some hc1;have u0:=KD.out.some hd0;have u1:=KD.out.some hd1;clear hc0 hc1 hd0 hd1 hab hab2;by_cases hn:x.num=y.num
    ·have hnb:(x.num != y.num)=false:=bne_f hn
     rw [if_pos hn]at hst;have CS:=Lib.hid (CI.out wd _ _ x.subs y.subs (hd.bel KD.out) (he.bel KD.out));generalize samB n x.subs y.subs=C at CS hst;clear hn;refine qae 22 (by kernel_rfl) (by kernel_rfl) HWD.out ?_
     (simp only [List.take_succ_cons,List.take_zero,List.drop_succ_cons,List.drop_zero]);(repeat (first|((with_reducible refine wpStill_step (fun K hK=>?_));go_simp;(with_reducible refine hK _ ?_);clear hK K)|((with_reducible refine qaf ?_ ?_);(with_unfolding_all rfl);(simp only [Act.put,List.setIfInBounds_toArray,List.set_cons_zero,List.set_cons_succ]))));(with_reducible refine wpStill_nil ?_)
     cases C with
     | true=>
      rw [if_pos rfl]at hst;have HST:=Lib.hid hst;clear hst
      go_wp2_with (go_at_call 14;(with_reducible refine CS.out.mono ?_);rintro e w1 ⟨rfl,k1⟩;have K1:=Lib.hid (Bel.of KD.out k1);clear k1)
      go_roundw
      case rel=>exact⟨k+1,by omega,by go_num,K1,HST⟩
      case measure=>simp [intOf];omega
     | false=>
      rw [if_neg Bool.false_ne_true]at hst;subst hst
      go_wp2_with (go_at_call 14;(with_reducible refine CS.out.mono ?_);rintro e w1 ⟨rfl,k1⟩;have K1:=Lib.hid (Bel.of KD.out k1);clear k1)
      go_ret;exact⟨rfl,K1.out⟩
    ·have hnb:(x.num != y.num)=true:=bne_t hn
     rw [if_neg hn]at hst;subst hst;clear hn;refine qae 22 (by kernel_rfl) (by kernel_rfl) HWD.out ?_
     (simp only [List.take_succ_cons,List.take_zero,List.drop_succ_cons,List.drop_zero]);(repeat (first|((with_reducible refine wpStill_step (fun K hK=>?_));go_simp;(with_reducible refine hK _ ?_);clear hK K)|((with_reducible refine qaf ?_ ?_);(with_unfolding_all rfl);(simp only [Act.put,List.setIfInBounds_toArray,List.set_cons_zero,List.set_cons_succ]))));(with_reducible refine wpStill_nil ?_)
     go_wp2;go_ret
     exact⟨rfl,KD.out⟩
   ·have hkl:k=a.length:=by omega
    have hz:true=Z:=by have:=hx.out;rw [hkl,List.drop_length,HLE.out,List.drop_length]at this;exact this
    subst hz;clear hx;go_wp2;go_ret;exact⟨rfl,hS.out⟩
 ·have hli:((a.length:Int) != (b.length:Int))=true:=bne_t (by omega)
  have hz:false=Z:=by rw [←V0.out,qm6 hle]
  subst hz;clear V V0 hle
  go_enter Tryz.func14,Tryz.ntmps14
  go_wp2;go_ret
  exact⟨rfl,Bel.refl _⟩
theorem rm_Same : ∀n:Nat,SameC n
 | 0=>qkx
 | n+1=>qis n (rm_Same n)
end
section
open Go.RowKit Ma
theorem qf5 {n:Nat} {A1 A2:Nat->Prop} {v1 v2:Value} {l:List PMask} {W:World} (h1:MaskD A1 n W v1 l) (h2:MaskD A2 n W v2 l):Calls Tryz.prog 14 #[v1,v2] W fun e w'=>e=.returned (.bool true)/\Bel W w':=
 (rm_Same n A1 A2 v1 v2 l l W h1 h2).mono fun e w' h=>by rwa [qp0 h1.dp]at h
end
section
open Go.RowKit
theorem qb5 (w:World) (g:Nat) (cs:Array Value):w.grownBy (w.setRow g cs) (some g):=
 ⟨rfl,rfl,rfl,by simp,fun k hk hne=>setRow_other w g k cs (fun e=>hne (by rw [e]))⟩
theorem ST.setrowbox0 {w0 w:World} {R:List Row} {X:List Box} {b:Box} (h:ST w0 R (b :: X) w) (cs:Array Value):ST w0 R (⟨b.g,cs,b.T⟩ :: X) (w.setRow b.g cs):=by
 have hb:=h.boxes b (List.mem_cons_self ..);have hg:=qb5 w b.g cs;refine⟨Below.grown h.bel hg h.bel.size (fun k hk=>by cases hk;exact hb.1),fun s hs=>?_,fun c hc=>?_,h.nd⟩
 ·refine(h.rows s hs).kept hg ?_
  cases e:s.v.ownBlock with
  | none=>exact .inl rfl
  | some g=>exact .inr fun e2=>h.box_ne.1 g (qg7 hs e) (by injection e2)
 ·rcases List.mem_cons.1 hc with rfl|hc
  ·exact⟨hb.1,setRow_heap w b.g _ _ _ _ hb.2⟩
  ·have h2:=h.boxes c (List.mem_cons_of_mem _ hc)
   exact⟨h2.1,(setRow_other w b.g c.g cs (h.box_ne.1 c.g (qg8 hc))).trans h2.2⟩
theorem ST.setrowbox {w0 w:World} {R:List Row} {X:List Box} {b:Box} (h:ST w0 R X w) (j:Nat) (hj:X[j]? = some b) (cs:Array Value):ST w0 R (X.set j ⟨b.g,cs,b.T⟩) (w.setRow b.g cs):=
 ((h.perm (List.Perm.refl _) (qfq X j b hj b).1).setrowbox0 cs).perm (List.Perm.refl _) (qfq X j b hj _).2.symm
section
variable {P : Program} {ops : Array Oper} {rest : List Oper} {o : Oper} {a : Act} {w : World} {Q : Exit → Act → World → Prop}
theorem qa6 (hgd:o.guard=none) (ty:TypeId) (x:Operand) (ho:o.op=.load ty x) (g:Nat) (cs:Array Value) (t:TypeId) (hx:a.eval x=.pointer (some ⟨g,0,none⟩)) (hg:w.heap[g]? = some (.cells cs t (0,0))) (d:TypeDesc) (hu:P.underlying ty=some d) (hd:(match d with | .struct _ | .array _ _=>true|_=>false)=true) (hi:(P.info? ty).map (·.size)=some cs.size)
  (h:wpList P ops Q rest (a.put o.dst (.agg cs)) w):wpList P ops Q (o :: rest) a w:=by
 refine wpList_plain hgd fun K hK=>?_
 have hl:=run_loadVar_row (P:=P) w g t ty cs (0,0) d hg hu hd hi;unfold Oper.wp execOp;simp only [ho,hx,Instr.loadAt,Instr.sureAddr,Sem.run_bind,Sem.run_pure,Result.andThen_ok,hl];exact hK _ _ h
theorem qaa (hgd:o.guard=none) (ty:TypeId) (x:Operand) (ho:o.op=.load ty x) (b off n:Nat) (vs:List Value) (hx:a.eval x=.pointer (some ⟨b,off,none⟩)) (hc : ∀i v,vs[i]? = some v->w.cell? ⟨b,off+i,none⟩=some v) (aE : ∀w,(isAgg ty).run P w=.ok true w) (zE : ∀w,(Go.sizeOf ty).run P w=.ok n w) (hn:vs.length=n)
  (h:wpList P ops Q rest (a.put o.dst (.agg vs.toArray)) w):wpList P ops Q (o :: rest) a w:=by
 refine wpList_plain hgd fun K hK=>?_
 have hl:Sem.run P (loadCellsFrom ⟨b,off,none⟩ 0 n #[]) w=.ok vs.toArray w:=run_loadCellsFrom_list P w ⟨b,off,none⟩ vs n hn (fun i v hi=>by rw [Addr.add_lit];exact hc i v hi)
 have hv:(loadVar ty ⟨b,off,none⟩).run P w=.ok (.agg vs.toArray) w:=by
  unfold loadVar loadCells;simp only [Sem.run_bind,aE,Result.andThen_ok,if_true,zE,hl,Sem.run_pure]
 unfold Oper.wp execOp;simp only [ho,hx,Instr.loadAt,Instr.sureAddr,Sem.run_bind,Sem.run_pure,Result.andThen_ok,hv];exact hK _ _ h
theorem qa8 (hgd:o.guard=none) (ty:TypeId) (x y:Operand) (ho:o.op=.store ty x y) (g:Nat) (cells old:Array Value) (t:TypeId) (hx:a.eval x=.pointer (some ⟨g,0,none⟩)) (hy:a.eval y=.agg cells) (hg:w.heap[g]? = some (.cells old t (0,0))) (hi:(P.info? ty).map (·.size)=some cells.size) (hold:old.size=cells.size) (h1:cells.all (·.oneCell')=true)
  (h:wpList P ops Q rest (a.put o.dst undef) (w.setRow g cells)):wpList P ops Q (o :: rest) a w:=
 wpList_plain hgd fun K hK=>wp_store_row ty x y ho g cells hx hy t old hg hi hold h1 (hK _ _ h)
theorem qa3 {old:Array Value} {t:TypeId} (hgd:o.guard=none) (ty:TypeId) (x y:Operand) (ho:o.op=.store ty x y) (w1:World) (hw:w=w1.alloc (.cells old t)) (g:Nat) (hgw:w1.heap.size=g) (cells:Array Value) (hx:a.eval x=.pointer (some ⟨g,0,none⟩)) (hy:a.eval y=.agg cells) (hi:(P.info? ty).map (·.size)=some cells.size) (hold:old.size=cells.size) (h1:cells.all (·.oneCell')=true)
  (h:wpList P ops Q rest (a.put o.dst undef) (w1.alloc (.cells cells t))):wpList P ops Q (o :: rest) a w:=by
 subst hw hgw;refine qa8 hgd ty x y ho w1.heap.size cells old t hx hy (heap_alloc_new _ _) hi hold h1 ?_;rw [World.setRow_alloc_new];exact h
theorem qff (hgd:o.guard=none) (ty:TypeId) (x y:Operand) (ho:o.op=.store ty x y) (g off:Nat) (cur new:Array Value) (vs:List Value) (t:TypeId) (hx:a.eval x=.pointer (some ⟨g,off,none⟩)) (hy:a.eval y=.agg vs.toArray) (hg:w.heap[g]? = some (.cells cur t (0,0))) (hi:(P.info? ty).map (·.size)=some vs.length) (hl:off+vs.length<=cur.size) (h1 : ∀u ∈ vs,u.oneCell'=true) (hn:(cur.toList.take off ++ vs ++ cur.toList.drop (off+vs.length)).toArray=new)
  (h:wpList P ops Q rest (a.put o.dst undef) (w.setRow g new)):wpList P ops Q (o :: rest) a w:=by
 subst hn;refine wpList_plain hgd fun K hK=>?_
 have hs:=run_storeCells_at (P:=P) g off t vs 0 cur w hg (by omega) h1;rw [Nat.add_zero]at hs
 have hv:(storeVar ty ⟨g,off,none⟩ (.agg vs.toArray)).run P w=.ok () (w.setRow g (cur.toList.take off ++ vs ++ cur.toList.drop (off+vs.length)).toArray):=by
  cases hq:P.info? ty with
  | none=>simp [hq]at hi
  | some i=>
   have hsz:vs.length=i.size:=by simp [hq]at hi;omega
   simp [storeVar,sizeOf,typeInfo,hq,Value.cells,hsz];rw [←hsz]
   simpa using hs
 unfold Oper.wp execOp;simp only [ho,hx,hy,Instr.storeAt,Instr.sureAddr,Sem.run_bind,Sem.run_pure,Result.andThen_ok,hv];exact hK _ _ h
end
theorem qno : ∀(vs:List Value) (k:Nat) (z:Array Value),k+vs.length=z.size->List.foldl (fun(cs:Array Value) (x:Value × Nat)=>cs.setIfInBounds x.2 x.1) z (vs.zipIdx k)=(z.toList.take k ++ vs).toArray
 | [],k,z,h=>by
  simp only [List.length_nil,Nat.add_zero]at h;subst h;rw [List.append_nil,List.take_of_length_le (by simp)];rfl
 | v :: r,k,z,h=>by
  simp only [List.length_cons]at h;rw [List.zipIdx_cons,List.foldl_cons,qno r (k+1) _ (by rw [Array.size_setIfInBounds];omega),Array.toList_setIfInBounds];have hk:k<z.toList.length:=by rw [Array.length_toList];omega
  congr 1
  rw [List.take_succ_eq_append_getElem (by rw [List.length_set];exact hk),List.getElem_set_self,List.take_set_of_le (Nat.le_refl _),List.append_assoc];rfl
theorem qdn {vs:List Value} {z:Array Value} (h:z.size=vs.toArray.size):List.foldl (fun(cs:Array Value) (x:Value × Nat)=>cs.setIfInBounds x.2 x.1) z vs.zipIdx=vs.toArray:=by
 rw [qno vs 0 z (by rw [h];simp)];simp
end
end Go.Proofs.YtaaneecceiefoaaGreatDoor
namespace Go.Proofs.YtaaneecceiefoaaGreatDoor.Ma
structure Names where
 name:List UInt8->Int->List UInt8
 byName:List UInt8->List UInt8->Option (Int × Bool × List UInt8)
 part:List UInt8->Bool
structure Names.Ok (E:Env) (M:Names):Prop where
 clean : ∀p,M.part p=true->p ≠ []/\46 ∉ p/\44 ∉ p
 part : ∀nm k f,E.fld nm k=some f->M.part (M.name nm k)=true
 back : ∀nm k f,E.has nm=true->E.fld nm k=some f->∃b,M.byName nm (M.name nm k)=some (k,b,f.2)/\(f.1=true->b=true)
 fwd : ∀nm p k b t,E.has nm=true->M.byName nm p=some (k,b,t)->∃s,E.fld nm k=some (s,t)/\(b=true->s=true)
def onFst (b:UInt8):List (List UInt8)->List (List UInt8)
 | [] => [[b]]
 | p :: r=>(b :: p) :: r
def qak (c:UInt8):List UInt8->List (List UInt8)
 | [] => [[]]
 | b :: r=>if b=c then [] :: qak c r else onFst b (qak c r)
def glue (c:UInt8):List (List UInt8)->List UInt8
 | [] => []
 | [p]=>p
 | p :: q :: r=>p ++ c :: glue c (q :: r)
theorem qbx (c b:UInt8) (r:List UInt8):qak c (b :: r)=if b=c then [] :: qak c r else onFst b (qak c r):=rfl
theorem qfo (c:UInt8) : ∀p:List UInt8,c ∉ p->qak c p=[p]
 | [],_=>rfl
 | b :: r,h=>by
  rw [qbx,if_neg (fun e=>h (by rw [e];exact List.mem_cons_self ..)),qfo c r (fun e=>h (List.mem_cons_of_mem _ e))];rfl
theorem qfp (c:UInt8) (s:List UInt8) : ∀p:List UInt8,c ∉ p->qak c (p ++ c :: s)=p :: qak c s
 | [],_=>by
  show qak c (c :: s)=_
  rw [qbx,if_pos rfl]
 | b :: r,h=>by
  show qak c (b :: (r ++ c :: s))=_
  rw [qbx,if_neg (fun e=>h (by rw [e];exact List.mem_cons_self ..)),qfp c s r (fun e=>h (List.mem_cons_of_mem _ e))];rfl
theorem qed (c:UInt8) : ∀l:List (List UInt8),l ≠ []->(∀p ∈ l,c ∉ p)->qak c (glue c l)=l
 | [],h,_=>absurd rfl h
 | [p],_,h=>qfo c p (h p (List.mem_cons_self ..))
 | p :: q :: r,_,h=>by
  unfold glue;rw [qfp c _ p (h p (List.mem_cons_self ..)),qed c (q :: r) (by simp) (fun x hx=>h x (List.mem_cons_of_mem _ hx))]
def walkP (E:Env) (M:Names):List UInt8->List (List UInt8)->Int × List Int
 | _,[]=>(0,[])
 | nm,p :: r=>match M.byName nm p with
  | none=>(8,[])
  | some f=>if r.isEmpty then(0,[f.1])else if f.2.1 && E.has f.2.2 then(if(walkP E M f.2.2 r).1=0 then(0,f.1 :: (walkP E M f.2.2 r).2)else((walkP E M f.2.2 r).1,[]))else(12,[])
def pathM (E:Env) (M:Names) (nm t:List UInt8):Int × List PMask:=
 if(qak 46 t).all M.part then(if E.has nm then(if(walkP E M nm (qak 46 t)).1=0 then(0,nest (walkP E M nm (qak 46 t)).2)else((walkP E M nm (qak 46 t)).1,[]))else(10,[]))else(2,[])
def qc5 (E:Env) (M:Names) (n:Nat) (nm:List UInt8):List PMask->List (List UInt8)->Int × List PMask
 | acc,[]=>(0,acc)
 | acc,t :: r=>if(pathM E M nm t).1 ≠ 0 then((pathM E M nm t).1,[])else qc5 E M n nm (union n acc (pathM E M nm t).2) r
def parse (E:Env) (M:Names) (n:Nat) (nm t:List UInt8):Int × List PMask:=
 if E.has nm=false then(10,[])else if t=[]then(0,[])else if 32<(qak 44 t).length then(3,[])else qc5 E M n nm [] (qak 44 t)
def textN (E:Env) (M:Names):Nat->List UInt8->List PMask->List (List (List UInt8))
 | 0,_,_ => []
 | n+1,nm,l=>l.flatMap fun x=>if whole x then [[M.name nm x.num]]else(textN E M n (E.ty nm x.num) x.subs).map (M.name nm x.num :: ·)
def text (E:Env) (M:Names) (n:Nat) (nm:List UInt8) (l:List PMask):List UInt8:=
 if chk E n nm l ≠ 0 then []else glue 44 ((textN E M n nm l).map (glue 46))
theorem qf4 {E:Env} {M:Names} (hE:E.Ok) (hM:M.Ok E) : ∀(n:Nat) {nm:List UInt8} {l:List PMask},Nm E n nm l->(textN E M n nm l).map (walkP E M nm)=(paths n l).map (fun p=>(0,p))/\∀q ∈ textN E M n nm l,q ≠ []/\∀p ∈ q,M.part p=true
 | 0,nm,l,h=>⟨rfl,fun q hq=>by cases hq⟩
 | n+1,nm,l,h=>by
  have key : ∀x ∈ l,((if whole x then [[M.name nm x.num]]else(textN E M n (E.ty nm x.num) x.subs).map (M.name nm x.num :: ·)).map (walkP E M nm)=(if whole x then [[x.num]]else(paths n x.subs).map (x.num :: ·)).map (fun p=>((0:Int),p)))/\∀q ∈ (if whole x then [[M.name nm x.num]]else(textN E M n (E.ty nm x.num) x.subs).map (M.name nm x.num :: ·)),q ≠ []/\∀p ∈ q,M.part p=true:=by
   intro x hx;obtain⟨f,hf,hs⟩:=h.2.2 x hx;have hpt:=hM.part nm x.num f hf;obtain⟨b,hb,hb2⟩:=hM.back nm x.num f h.1 hf;have ht:E.ty nm x.num=f.2:=by unfold Env.ty;rw [hf];rfl
   cases hw:whole x with
   | true=>
    refine⟨?_,fun q hq=>?_⟩
    ·simp only [if_true,List.map_cons,List.map_nil]
     unfold walkP;rw [hb];rfl
    ·simp only [if_true]at hq
     obtain rfl:=List.mem_singleton.1 hq;exact⟨by simp,fun p hp=>by obtain rfl:=List.mem_singleton.1 hp;exact hpt⟩
   | false=>
    have h2:f.1=true/\Nm E n f.2 x.subs:=by
     rcases hs with e|e
     ·rw [whole_iff.2 e]at hw;cases hw
     ·exact e
    obtain⟨i1,i2⟩:=qf4 hE hM n h2.2;rw [ht];simp only [Bool.false_eq_true,if_false,List.map_map];refine⟨?_,fun q hq=>?_⟩
    ·have hgo : ∀q ∈ textN E M n f.2 x.subs,(walkP E M nm ∘ (M.name nm x.num :: ·)) q=(if(walkP E M f.2 q).1=0 then(0,x.num :: (walkP E M f.2 q).2)else((walkP E M f.2 q).1,[])):=by
      intro q hq;show walkP E M nm (M.name nm x.num :: q)=_
      conv=>lhs;unfold walkP
      rw [hb];have hq1:q.isEmpty=false:=by simpa using (i2 q hq).1
      have hh:=h2.2.hs;simp [hq1,hb2 h2.1,hh]
     rw [List.map_congr_left hgo];have:=congrArg (List.map fun(r:Int × List Int)=>if r.1=0 then((0:Int),x.num :: r.2)else(r.1,[])) i1;rw [List.map_map,List.map_map]at this;exact this
    ·obtain⟨q',hq',rfl⟩:=List.mem_map.1 hq
     exact⟨by simp,fun p hp=>by
      rcases List.mem_cons.1 hp with rfl|hp
      ·exact hpt
      ·exact(i2 q' hq').2 p hp⟩
  clear h;show(List.flatMap _ l).map _=(List.flatMap _ l).map _/\∀q ∈ List.flatMap _ l,_
  induction l with
  | nil=>exact⟨rfl,fun q hq=>by cases hq⟩
  | cons x l ih=>
   obtain⟨j1,j2⟩:=ih (fun y hy=>key y (List.mem_cons_of_mem _ hy));obtain⟨k1,k2⟩:=key x (List.mem_cons_self ..);rw [List.flatMap_cons,List.flatMap_cons,List.map_append,List.map_append,k1,j1];refine⟨rfl,fun q hq=>?_⟩;rcases List.mem_append.1 hq with hq|hq
   ·exact k2 q hq
   ·exact j2 q hq
theorem glue_no {c d:UInt8} (hcd:c ≠ d) : ∀l:List (List UInt8),(∀p ∈ l,d ∉ p)->d ∉ glue c l
 | [],_=>by simp [glue]
 | [p],h=>h p (List.mem_cons_self ..)
 | p :: q :: r,h=>by
  unfold glue;intro hm;rcases List.mem_append.1 hm with hm|hm
  ·exact h p (List.mem_cons_self ..) hm
  ·rcases List.mem_cons.1 hm with e|hm
   ·exact hcd e.symm
   ·exact glue_no hcd (q :: r) (fun x hx=>h x (List.mem_cons_of_mem _ hx)) hm
theorem qpb {E:Env} {M:Names} (hM:M.Ok E) {nm:List UInt8} (hn:E.has nm=true) {q:List (List UInt8)} {p:List Int} (h1:q ≠ []) (h2 : ∀x ∈ q,M.part x=true) (hw:walkP E M nm q=(0,p)):pathM E M nm (glue 46 q)=(0,nest p):=by
 unfold pathM;rw [qed 46 q h1 (fun x hx=>(hM.clean x (h2 x hx)).2.1),if_pos (List.all_eq_true.2 h2),if_pos hn,hw];rfl
theorem qfs {E:Env} {M:Names} (hM:M.Ok E) {n:Nat} {nm:List UInt8} (hn:E.has nm=true) : ∀(qs:List (List (List UInt8))) (ps:List (List Int)) (acc:List PMask),qs.map (walkP E M nm)=ps.map (fun p=>(0,p))->(∀q ∈ qs,q ≠ []/\∀p ∈ q,M.part p=true)->qc5 E M n nm acc (qs.map (glue 46))=(0,qbo n acc ps)
 | [],[],acc,_,_=>rfl
 | [],p :: ps,_,h,_=>by cases h
 | q :: qs,[],_,h,_=>by cases h
 | q :: qs,p :: ps,acc,h,hq=>by
  rw [List.map_cons,List.map_cons]at h;obtain⟨e1,e2⟩:=List.cons.inj h;obtain⟨g1,g2⟩:=hq q (List.mem_cons_self ..);have hp:=qpb hM hn g1 g2 e1;rw [List.map_cons];unfold qc5;rw [hp];exact qfs hM hn qs ps _ e2 (fun r hr=>hq r (List.mem_cons_of_mem _ hr))
theorem qnl {c:UInt8} {l:List (List UInt8)} (h:l ≠ []) (hp : ∀p ∈ l,p ≠ []):glue c l ≠ []:=by
 match l,h,hp with
 | [p],_,hp=>exact hp p (List.mem_cons_self ..)
 | p :: q :: r,_,_=>unfold glue;simp
theorem qmw {E:Env} {M:Names} (hE:E.Ok) (hM:M.Ok E) {n:Nat} {nm:List UInt8} {l:List PMask} (h:Nm E n nm l) (hl:(paths n l).length<=32):parse E M n nm (text E M n nm l)=(0,l):=by
 obtain⟨w1,w2⟩:=qf4 hE hM n h;have hc:=(qdi n nm l h.srt.dp).2 h;have hlen:(textN E M n nm l).length=(paths n l).length:=by simpa using congrArg List.length w1
 have ht:text E M n nm l=glue 44 ((textN E M n nm l).map (glue 46)):=by
  unfold text;rw [if_neg (fun h'=>h' hc)]
 rw [ht];unfold parse;rw [if_neg (by simp [h.hs])];by_cases he:l=[]
 ·subst he
  have:textN E M n nm []=[]:=by cases n <;> rfl
  rw [this];rfl
 ·have hne:paths n l ≠ []:=(qfr n h.srt.dp).2 he
  have hne2:(textN E M n nm l).map (glue 46) ≠ []:=fun e=>hne (List.length_eq_zero_iff.1 (by rw [←hlen,List.map_eq_nil_iff.1 e];rfl))
  have hcl : ∀p ∈ (textN E M n nm l).map (glue 46),p ≠ []/\(44:UInt8) ∉ p:=by
   intro p hp;obtain⟨q,hq,rfl⟩:=List.mem_map.1 hp;obtain⟨g1,g2⟩:=w2 q hq;exact⟨qnl g1 (fun x hx=>(hM.clean x (g2 x hx)).1),glue_no (by decide) q (fun x hx=>(hM.clean x (g2 x hx)).2.2)⟩
  rw [if_neg (qnl hne2 (fun p hp=>(hcl p hp).1)),qed 44 _ hne2 (fun p hp=>(hcl p hp).2),if_neg (by rw [List.length_map,hlen];omega)];rw [qfs hM h.hs _ _ [] w1 w2,qds n h.srt]
theorem walk_nm {E:Env} {M:Names} (hM:M.Ok E) : ∀(ps:List (List UInt8)) {n:Nat} {nm:List UInt8} {l:List Int},ps ≠ []->ps.length<=n->E.has nm=true->walkP E M nm ps=(0,l)->Nm E n nm (nest l)/\l ≠ []
 | [],_,_,_,h,_,_,_=>absurd rfl h
 | p :: r,0,_,_,_,hn,_,_=>by simp at hn
 | p :: r,n+1,nm,l,_,hn,hh,hw=>by
  unfold walkP at hw
  split at hw
  ·cases hw
  ·rename_i f hf
   obtain⟨k,b,t⟩:=f;obtain⟨s,hs1,hs2⟩:=hM.fwd nm p k b t hh hf;dsimp only at hw
   split at hw
   ·cases hw
    exact⟨⟨hh,List.pairwise_singleton ..,fun x hx=>by
     obtain rfl:=List.mem_singleton.1 hx
     exact⟨(s,t),hs1,.inl rfl⟩⟩,by simp⟩
   ·rename_i hr
    split at hw
    ·rename_i hb
     rw [Bool.and_eq_true]at hb
     split at hw
     ·rename_i h0
      cases hw;obtain⟨i1,i2⟩:=walk_nm hM r (n:=n) (fun e=>hr (by rw [e];rfl)) (by simpa using hn) hb.2 (show walkP E M t r=(0,(walkP E M t r).2)by rw [←h0])
      exact⟨⟨hh,List.pairwise_singleton ..,fun x hx=>by
       obtain rfl:=List.mem_singleton.1 hx
       exact⟨(s,t),hs1,.inr ⟨hs2 hb.1,i1⟩⟩⟩,by simp⟩
     ·rename_i h0
      have:=congrArg Prod.fst hw;exact absurd this h0
    ·cases hw
theorem qby (c:UInt8) (l:List UInt8):qak c l ≠ []:=by
 cases l with
 | nil=>simp [qak]
 | cons b r=>
  rw [qbx]
  split
  ·simp
  ·cases qak c r <;> simp [onFst]
theorem qck (c:UInt8) : ∀l:List UInt8,(qak c l).length<=l.length+1
 | []=>by simp [qak]
 | b :: r=>by
  have ih:=qck c r;rw [qbx]
  split
  ·simpa using ih
  ·cases h:qak c r with
   | nil=>simp [onFst]
   | cons p q=>rw [h]at ih;simp only [onFst,List.length_cons]at ih ⊢;omega
theorem path_nm {E:Env} {M:Names} (hM:M.Ok E) {n:Nat} {nm t:List UInt8} (hn:t.length+1<=n) (h:(pathM E M nm t).1=0):Nm E n nm (pathM E M nm t).2:=by
 unfold pathM at h ⊢
 split at h
 ·rename_i h1
  rw [if_pos h1]
  split at h
  ·rename_i h2
   rw [if_pos h2]
   split at h
   ·rename_i h3
    rw [if_pos h3];exact(walk_nm hM (qak 46 t) (qby 46 t) (Nat.le_trans (qck 46 t) hn) h2 (show walkP E M nm (qak 46 t)=(0,(walkP E M nm (qak 46 t)).2)by rw [←h3])).1
   ·rename_i h3
    exact absurd h h3
  ·cases h
 ·cases h
theorem qht {E:Env} {M:Names} (hM:M.Ok E) {n:Nat} {nm:List UInt8} : ∀(l:List (List UInt8)) (acc m:List PMask),(∀t ∈ l,t.length+1<=n)->Nm E n nm acc->qc5 E M n nm acc l=(0,m)->Nm E n nm m
 | [],acc,m,_,ha,h=>by cases h;exact ha
 | t :: r,acc,m,hl,ha,h=>by
  unfold qc5 at h
  split at h
  ·rename_i h1
   have:=congrArg Prod.fst h;exact absurd this h1
  ·rename_i h1
   have h1':(pathM E M nm t).1=0:=by simpa using h1
   exact qht hM r _ m (fun x hx=>hl x (List.mem_cons_of_mem _ hx)) (qil n ha (path_nm hM (hl t (List.mem_cons_self ..)) h1')) h
theorem qc1 (c:UInt8) : ∀(l:List UInt8), ∀p ∈ qak c l,p.length<=l.length
 | [],p,h=>by
  obtain rfl:=List.mem_singleton.1 (show p ∈ [[]]from h);simp
 | b :: r,p,h=>by
  rw [qbx]at h
  split at h
  ·rcases List.mem_cons.1 h with rfl|h
   ·simp
   ·have:=qc1 c r p h
    rw [List.length_cons];omega
  ·cases e:qak c r with
   | nil=>exact absurd e (qby c r)
   | cons q s=>
    rw [e]at h;rcases List.mem_cons.1 (show p ∈ (b :: q) :: s from h)with rfl|h
    ·have:=qc1 c r q (by rw [e];exact List.mem_cons_self ..)
     simpa using this
    ·have:=qc1 c r p (by rw [e];exact List.mem_cons_of_mem _ h)
     rw [List.length_cons];omega
theorem parse_nm {E:Env} {M:Names} (hM:M.Ok E) {n:Nat} {nm t:List UInt8} (hn:t.length+1<=n) {m:List PMask} (h:parse E M n nm t=(0,m)):Nm E n nm m:=by
 unfold parse at h
 split at h
 ·cases h
 ·rename_i h1
  have hh:E.has nm=true:=by simpa using h1
  split at h
  ·cases h;exact Nm.nil hh n
  ·split at h
   ·cases h
   ·exact qht hM _ [] m (fun p hp=>by have:=qc1 44 t p hp;omega) (Nm.nil hh n) h
end Go.Proofs.YtaaneecceiefoaaGreatDoor.Ma
namespace Go.Proofs.YtaaneecceiefoaaGreatDoor.Ma
open Ck
def qax (f:PField):Bool:=decide (f.tk=10) && (decide (f.card=1) || decide (f.card=2))
def qai (m:PMsg) (k:Int):Option PField:=m.fields.find? fun f=>decide (f.num=k)
def qhf:Str:=[97,108,105,97,115]
def qbu (l:List PNote) (nm:Str):Bool:=match l.find? (fun n=>decide (n.name=qhf))with
 | some n=>decide (n.val.k=7) && decide (n.val.t=nm)
 | none=>false
def qbd (m:PMsg) (nm:Str):Option PField:=match m.fields.find? (fun f=>decide (f.name=nm))with
 | some f=>some f
 | none=>m.fields.find? (fun f=>qbu f.notes nm)
def qc2 (f:PField):Bool:=decide (f.tk=10) && !decide (f.card=4) && !decide (f.card=5)
def envOf (s:PSchema):Env where
 has nm:=(msgOf s nm).isSome
 fld nm k:=((msgOf s nm).bind fun m=>qai m k).map fun f=>(qax f,f.tn)
 nums nm:=((msgOf s nm).map fun m=>m.fields.map (·.num)).getD []
def qa4 (s:PSchema):Names where
 name nm k:=(((msgOf s nm).bind fun m=>qai m k).map (·.name)).getD []
 byName nm p:=((msgOf s nm).bind fun m=>qbd m p).map fun f=>(f.num,qc2 f,f.tn)
 part:=Id.isPart
end Go.Proofs.YtaaneecceiefoaaGreatDoor.Ma
