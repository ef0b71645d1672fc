import Derived.Test.YtgpjhibdongmbaaGreatDoorRsR31S
import Derived.Test.YtgpjhibdongmbaaGreatDoorRkC
set_option maxRecDepth 100000
set_option maxHeartbeats 4000000
set_option linter.unusedVariables false
set_option linter.unusedSimpArgs false
namespace Go.Proofs.YtgpjhibdongmbaaGreatDoor
section
open Go.RowKit Ck Rs
theorem rf_name (p:PPlan) (q1 q2:Option Addr) (c1 c2:Nat) (i:Int) (W:World) (hv:VPlan W [.slice q1 p.progs.length c1,.slice q2 p.enums.length c2] p) :
  Calls Tryz.prog 44 #[.agg #[.slice q1 p.progs.length c1,.slice q2 p.enums.length c2],.int .i64 i] W fun e' w'=>e'=.returned (.string (S (nameR p i)))/\Bel W w':=by
 have hS0:=(Bel.refl W).alloc (.cells #[.slice q1 p.progs.length c1,.slice q2 p.enums.length c2] 25);by_cases h1:i<0
 ·have V:=Lib.hid (show nameR p i=[63]by unfold nameR;rw [if_neg (by omega)])
  generalize nameR p i=R at V;clear hv
  go_enter Tryz.func44,Tryz.ntmps44
  go_wp2;go_ret
  exact⟨by rw [V.out];rfl,hS0⟩
 ·by_cases h2:i<p.progs.length
  ·obtain⟨gv,ev,he,hg,_⟩:=hv
   cases he;obtain⟨_,_,he,_,_,hel⟩:=hg;cases he;obtain⟨n,rfl⟩ : ∃n:Nat,i=(n:Int):=⟨i.toNat,by omega⟩;obtain⟨g,hgn,hgm⟩:=qct (l:=p.progs) (a:=(n:Int)) (by omega) h2;have V:=Lib.hid (show nameR p (n:Int)=g.name by unfold nameR;rw [if_pos ⟨by omega,h2⟩,hgn]);rw [Int.toNat_natCast]at hgn;obtain⟨b,off,rfl,_,vs,hce,hvs⟩:=hel n g hgn;obtain⟨oq,oc,rfl,_,_⟩:=hvs.form;have e0:=hce 0 _ rfl;rw [Nat.add_zero]at e0;generalize nameR p (n:Int)=R at V;have h3:(0:Int)<=(n:Int):=by omega
   have hbl:b<W.heap.size:=World.block_lt_of_cell? W _ e0;clear hel hce hvs hgn hgm
   go_enter Tryz.func44,Tryz.ntmps44
   go_wp2;go_ret
   exact⟨by rw [V.out];rfl,hS0⟩
  ·have V:=Lib.hid (show nameR p i=[63]by unfold nameR;rw [if_neg (by omega)])
   generalize nameR p i=R at V;clear hv
   go_enter Tryz.func44,Tryz.ntmps44
   go_wp2;go_ret
   exact⟨by rw [V.out];rfl,hS0⟩
theorem qh9 (o:POp) (W:World) :
  Calls Tryz.prog 61 #[.agg #[.int .i64 o.num,.string (S o.name),.string (S o.ali),.int .i64 o.card,.int .i64 o.key,.int .i64 o.kind,.int .i64 o.tgt,.int .i64 o.un]] W fun e' w'=>e'=.returned (.bool (oneR o))/\Bel W w':=by
 have hS0:=(Bel.refl W).alloc (.cells #[.int .i64 o.num,.string (S o.name),.string (S o.ali),.int .i64 o.card,.int .i64 o.key,.int .i64 o.kind,.int .i64 o.tgt,.int .i64 o.un] 54);by_cases h1:o.card=4
 ·have b1:(o.card != 4)=false:=by rw [h1];rfl
  have V:=Lib.hid (show oneR o=false from decide_eq_false (fun h=>h.1 h1));generalize oneR o=T at V;clear h1
  go_enter Tryz.func61,Tryz.ntmps61
  go_wp2;go_ret
  exact⟨by rw [V.out];rfl,hS0⟩
 ·have b1:(o.card != 4)=true:=bne_iff_ne.2 h1
  by_cases h2:o.card=5
  ·have b2:(o.card != 5)=false:=by rw [h2];rfl
   have V:=Lib.hid (show oneR o=false from decide_eq_false (fun h=>h.2 h2));generalize oneR o=T at V;clear h1 h2
   go_enter Tryz.func61,Tryz.ntmps61
   go_wp2;go_ret
   exact⟨by rw [V.out];rfl,hS0⟩
  ·have b2:(o.card != 5)=true:=bne_iff_ne.2 h2
   have V:=Lib.hid (show oneR o=true from decide_eq_true ⟨h1,h2⟩);generalize oneR o=T at V
   go_enter Tryz.func61,Tryz.ntmps61
   go_wp2;go_ret
   exact⟨by rw [V.out];rfl,hS0⟩
end
section
open Go.RowKit Ck Rs
theorem qjr (a b:Int) (W:World) :
  Calls Tryz.prog 62 #[.int .i64 a,.int .i64 b] W fun e' w'=>e'=.returned (.int .i64 (qav a b))/\W=w':=by
 by_cases h:a=b
 ·have hb:(a == b)=true:=by rw [h];simp
  have V:=Lib.hid (show qav a b=2 by unfold qav;rw [if_pos h]);generalize qav a b=T at V;clear h
  go_enter Tryz.func62,Tryz.ntmps62
  go_wp2;go_ret
  exact⟨by rw [V.out];rfl,rfl⟩
 ·have hb:(a == b)=false:=beq_eq_false_iff_ne.2 h
  have C:=Lib.hid (r_Level 2 a b W);by_cases hl:Pr.lev 2 a b=0
  ·have V:=Lib.hid (show qav a b=4 by unfold qav;rw [if_neg h,if_pos hl])
   rw [hl]at C;generalize qav a b=T at V;clear h hl
   go_enter Tryz.func62,Tryz.ntmps62
   go_wp2_with (go_at_call 27;(with_reducible refine C.out.mono ?_);rintro e' w1 ⟨rfl,rfl⟩)
   go_ret;exact⟨by rw [V.out];rfl,rfl⟩
  ·have V:=Lib.hid (show qav a b=3 by unfold qav;rw [if_neg h,if_neg hl])
   have hlb:(Pr.lev 2 a b != 0)=true:=bne_iff_ne.2 hl;generalize qav a b=T at V;generalize Pr.lev 2 a b=Q at C hlb hl;clear h
   go_enter Tryz.func62,Tryz.ntmps62
   go_wp2_with (go_at_call 27;(with_reducible refine C.out.mono ?_);rintro e' w1 ⟨rfl,rfl⟩)
   go_ret;exact⟨by rw [V.out];rfl,rfl⟩
end
section
open Go.RowKit Ck Rs
def hasIt (num:Int) (y:PItem):Bool:=decide (y.num=num)
theorem rf_item (e:PEnum) (vs:List Value) (num:Int) (W:World) (hv:VEnum W vs e) :
  Calls Tryz.prog 156 #[.agg vs.toArray,.int .i64 num] W fun e' w'=>e'=.returned (.bool (e.items.any (hasIt num)))/\Bel W w':=by
 obtain⟨r1,r2,r3,d1,d2,d3,rfl,hsi,_,_,li,lr,ln⟩:=hv.form;have hS0:=(ST.start W).addbox #[.string (S e.name),.bool e.op,.slice r1 e.items.length d1,.slice r2 e.res.length d2,.slice r3 e.notes.length d3] 84;have HS:=Lib.hid hS0;obtain⟨_,_,he,_,_,hei⟩:=hsi;cases he;have EI:=Lib.hid hei;have V:=Lib.hid (show(e.items.drop 0).any (hasIt num)=e.items.any (hasIt num)from rfl);generalize e.items.any (hasIt num)=T at V;clear hv hei hS0
 go_enter Tryz.func156,Tryz.ntmps156
 go_wp2
 go_loopw [5] (fun i wr => ∃k:Nat,k<=e.items.length/\i=.int .i64 k/\Hid (ST W [] [⟨W.heap.size,#[.string (S e.name),.bool e.op,.slice r1 e.items.length d1,.slice r2 e.res.length d2,.slice r3 e.notes.length d3],84⟩] wr)/\Hid ((e.items.drop k).any (hasIt num)=T)) (fun i _=>e.items.length-(intOf i).toNat)
 case atStart=>exact⟨0,by omega,rfl,HS,V⟩
 case round=>as_aux_lemma=>
  clear HS V;obtain⟨k,hk,rfl,hS,hx⟩:=hrel;have f2:=hS.out.cell 0 rfl 2;dsimp only at f2;by_cases hlt:k<e.items.length
  ·have hki:(k:Int)<(e.items.length:Int):=by omega
   have hk0:(0:Int)<=(k:Int):=by omega
   obtain⟨gb,off,rfl,hbs,vs,hce,hvs⟩:=EI.out k _ (List.getElem?_eq_getElem hlt);have hst:=hx.out;rw [List.drop_eq_getElem_cons hlt,List.any_cons]at hst;clear EI hx;generalize e.items[k]=y at *;obtain⟨nv,rfl,_⟩:=hvs;have y1:=hS.out.bel.some (hce 1 _ rfl);clear hce;by_cases h:y.num=num
   ·have hb:(y.num == num)=true:=by rw [h];simp
    have HST:=Lib.hid (show T=true by rw [←hst,show hasIt num y=true from decide_eq_true h,Bool.true_or]);clear h hst;go_wp2;go_ret;exact⟨by rw [HST.out];rfl,hS.out.bel⟩
   ·have hb:(y.num == num)=false:=beq_eq_false_iff_ne.2 h
    have HST:=Lib.hid (show(e.items.drop (k+1)).any (hasIt num)=T by rw [←hst,show hasIt num y=false from decide_eq_false h,Bool.false_or]);clear h hst;go_wp2;go_roundw
    case rel=>exact⟨k+1,by omega,by go_num,hS,HST⟩
    case measure=>simp [intOf];omega
  ·have hki : ¬(k:Int)<(e.items.length:Int):=by omega
   have HST:=Lib.hid (show T=false by rw [←hx.out,List.drop_eq_nil_of_le (by omega)];rfl);clear hx EI;go_wp2;go_ret;exact⟨by rw [HST.out];rfl,hS.out.bel⟩
end
section
open Go.RowKit Ck Rs
def inB (b:PEnum) (x:PItem):Bool:=b.items.any (hasIt x.num)
def qcp (a b:PEnum):Int:=if qd4 a b=true then 2 else 3
theorem rf_enums (a b:PEnum) (va vb:List Value) (W:World) (hva:VEnum W va a) (hvb:VEnum W vb b) :
  Calls Tryz.prog 92 #[.agg va.toArray,.agg vb.toArray] W fun e' w'=>e'=.returned (.int .i64 (qcp a b))/\Bel W w':=by
 have CI:=fun WW (k:Bel W WW) num=>rf_item b vb num WW (VEnum.stays _ _ _ _ k hvb)
 obtain⟨p1,p2,p3,p4,p5,p6,rfl,hsi,_,_,li,lr,ln⟩:=hva.form;obtain⟨q1,q2,q3,q4,q5,q6,rfl,_,_,_,_,_,_⟩:=hvb.form;have hS0:=((ST.start W).addbox #[.string (S a.name),.bool a.op,.slice p1 a.items.length p4,.slice p2 a.res.length p5,.slice p3 a.notes.length p6] 84).addbox #[.string (S b.name),.bool b.op,.slice q1 b.items.length q4,.slice q2 b.res.length q5,.slice q3 b.notes.length q6] 84;simp only [World.size_alloc]at hS0;cases hbo:b.op with
 | true=>
  have V:=Lib.hid (show qcp a b=2 by unfold qcp qd4;rw [hbo];rfl);rw [hbo]at hS0;generalize qcp a b=R at V;clear hva hvb hsi CI hbo
  go_enter Tryz.func92,Tryz.ntmps92
  go_wp2;go_ret
  exact⟨by rw [V.out];rfl,hS0.bel⟩
 | false=>
  cases hao:a.op with
  | true=>
   have V:=Lib.hid (show qcp a b=3 by unfold qcp qd4;rw [hbo,hao];rfl);rw [hbo,hao]at hS0;generalize qcp a b=R at V;clear hva hvb hsi CI hbo hao
   go_enter Tryz.func92,Tryz.ntmps92
   go_wp2;go_ret
   exact⟨by rw [V.out];rfl,hS0.bel⟩
  | false=>
   have VT:=Lib.hid (show a.items.all (inB b)=true->qcp a b=2 from fun h=>by unfold qcp qd4;rw [hbo,hao];show(if a.items.all (inB b)=true then(2:Int)else 3)=2;rw [if_pos h]);have VF:=Lib.hid (show a.items.all (inB b)=false->qcp a b=3 from fun h=>by unfold qcp qd4;rw [hbo,hao];show(if a.items.all (inB b)=true then(2:Int)else 3)=3;rw [h];rfl);have V:=Lib.hid (show(a.items.drop 0).all (inB b)=a.items.all (inB b)from rfl);rw [hbo,hao]at hS0;rw [hbo]at CI;generalize qcp a b=R at VT VF;generalize a.items.all (inB b)=T at VT VF V;have CI:=Lib.hid CI;have HS:=Lib.hid hS0;obtain⟨_,_,he,_,_,hei⟩:=hsi;cases he;have EI:=Lib.hid hei;clear hva hvb hei hbo hao hS0
   go_enter Tryz.func92,Tryz.ntmps92
   go_wp2
   go_loopw [5] (fun i wr => ∃k:Nat,k<=a.items.length/\i=.int .i64 k/\Hid (ST W [] [⟨W.heap.size+1,#[.string (S b.name),.bool false,.slice q1 b.items.length q4,.slice q2 b.res.length q5,.slice q3 b.notes.length q6],84⟩,⟨W.heap.size,#[.string (S a.name),.bool false,.slice p1 a.items.length p4,.slice p2 a.res.length p5,.slice p3 a.notes.length p6],84⟩] wr)/\Hid ((a.items.drop k).all (inB b)=T)) (fun i _=>a.items.length-(intOf i).toNat)
   case atStart=>exact⟨0,by omega,rfl,HS,V⟩
   case round=>as_aux_lemma=>
    clear HS V;obtain⟨k,hk,rfl,hS,hx⟩:=hrel;have f2:=hS.out.cell 1 rfl 2;dsimp only at f2;by_cases hlt:k<a.items.length
    ·have hki:(k:Int)<(a.items.length:Int):=by omega
     have hk0:(0:Int)<=(k:Int):=by omega
     obtain⟨gb,off,rfl,hbs,vs,hce,hvs⟩:=EI.out k _ (List.getElem?_eq_getElem hlt);have hst:=hx.out;rw [List.drop_eq_getElem_cons hlt,List.all_cons]at hst;clear EI hx;generalize a.items[k]=y at *;obtain⟨nv,rfl,_⟩:=hvs
     go_upto_region 8 with(fail)
     obtain⟨wd,hwd⟩ : ∃wd,wd=wr.drew:=⟨_,rfl⟩;have T8:=hS.out.belw ((Bel.refl _).drew);rw [←hwd]at T8;have y1:=T8.bel.some (hce 1 _ rfl);have g2:=T8.cell 1 rfl 2;have z0:=T8.cell 0 rfl 0;have z1:=T8.cell 0 rfl 1;have z2:=T8.cell 0 rfl 2;have z3:=T8.cell 0 rfl 3;have z4:=T8.cell 0 rfl 4;dsimp only at g2 z0 z1 z2 z3 z4;have HT:=Lib.hid T8;have CJ:=Lib.hid (CI.out wd T8.bel y.num);have HWD:=Lib.hid hwd;have HST:=Lib.hid (show(b.items.any (hasIt y.num) && (a.items.drop (k+1)).all (inB b))=T from hst);generalize b.items.any (hasIt y.num)=D at CJ HST;clear hce hst hwd T8 f2 CI hS;refine qa8 7 (by kernel_rfl) (by kernel_rfl) HWD.out ?_
     (simp only [List.take_succ_cons,List.take_zero,List.drop_succ_cons,List.drop_zero]);(repeat (first|((with_reducible refine wpStill_step (fun K hK=>?_));go_simp;(with_reducible refine hK _ ?_);clear hK K)|((with_reducible refine qab ?_ ?_);(with_unfolding_all rfl))));(with_reducible refine wpStill_nil ?_)
     cases D with
     | true=>
      go_wp2_with (go_at_call 156;(with_reducible refine CJ.out.mono ?_);rintro e' w1 ⟨rfl,k1⟩;have k1:Bel _ w1:=k1)
      go_roundw
      case rel=>exact⟨k+1,by omega,by go_num,Lib.hid (HT.out.belw k1),HST⟩
      case measure=>simp [intOf];omega
     | false=>
      have HR:=Lib.hid (VF.out HST.out.symm)
      go_wp2_with (go_at_call 156;(with_reducible refine CJ.out.mono ?_);rintro e' w1 ⟨rfl,k1⟩;have k1:Bel _ w1:=k1)
      go_ret;exact⟨by rw [HR.out];rfl,Bel.of HT.out.bel k1⟩
    ·have hki : ¬(k:Int)<(a.items.length:Int):=by omega
     have HR:=Lib.hid (VT.out (by rw [←hx.out,List.drop_eq_nil_of_le (by omega)];rfl));clear hx EI;go_wp2;go_ret;exact⟨by rw [HR.out];rfl,hS.out.bel⟩
end
section
open Go.RowKit Ck Rs
theorem qjs (w r:PPlan) (p1 p2 p3 p4:Option Addr) (c1 c2 c3 c4:Nat) (o q:POp) (W:World) (hG:Pl w r p1 p2 p3 p4 c1 c2 c3 c4 W) (ht:Tgt w r o q) :
  Calls Tryz.prog 60 #[.agg #[.slice p1 w.progs.length c1,.slice p2 w.enums.length c2],.agg #[.slice p3 r.progs.length c3,.slice p4 r.enums.length c4],.agg #[.int .i64 o.num,.string (S o.name),.string (S o.ali),.int .i64 o.card,.int .i64 o.key,.int .i64 o.kind,.int .i64 o.tgt,.int .i64 o.un],.agg #[.int .i64 q.num,.string (S q.name),.string (S q.ali),.int .i64 q.card,.int .i64 q.key,.int .i64 q.kind,.int .i64 q.tgt,.int .i64 q.un]] W fun e' w'=>e'=.returned (.int .i64 (elemR w r o q))/\Bel W w':=by
 have hS0:=((((ST.start W).addbox #[.slice p1 w.progs.length c1,.slice p2 w.enums.length c2] 25).addbox #[.slice p3 r.progs.length c3,.slice p4 r.enums.length c4] 25).addbox #[.int .i64 o.num,.string (S o.name),.string (S o.ali),.int .i64 o.card,.int .i64 o.key,.int .i64 o.kind,.int .i64 o.tgt,.int .i64 o.un] 54).addbox #[.int .i64 q.num,.string (S q.name),.string (S q.ali),.int .i64 q.card,.int .i64 q.key,.int .i64 q.kind,.int .i64 q.tgt,.int .i64 q.un] 54;simp only [World.size_alloc]at hS0;have HS:=Lib.hid hS0;have CK:=Lib.hid (fun WW=>qjr o.kind q.kind WW);clear hS0;by_cases h1:o.kind=10
 ·have h1b:(o.kind == 10)=true:=by rw [h1];rfl
  by_cases h2:q.kind=10
  ·have h2b:(q.kind == 10)=true:=by rw [h2];rfl
   have V:=Lib.hid (show elemR w r o q=2 by unfold elemR;rw [if_pos ⟨h1,h2⟩]);generalize elemR w r o q=R at V;clear hG ht h1 h2 CK
   go_enter Tryz.func60,Tryz.ntmps60
   go_wp2;go_ret
   exact⟨by rw [V.out];rfl,HS.out.bel⟩
  ·have h2b:(q.kind == 10)=false:=beq_eq_false_iff_ne.2 h2
   have V:=Lib.hid (show elemR w r o q=4 by exact qf6 h1 h2);generalize elemR w r o q=R at V;clear hG ht h1 h2 CK
   go_enter Tryz.func60,Tryz.ntmps60
   go_wp2;go_ret
   exact⟨by rw [V.out];rfl,HS.out.bel⟩
 ·have h1b:(o.kind == 10)=false:=beq_eq_false_iff_ne.2 h1
  by_cases h2:q.kind=10
  ·have h2b:(q.kind == 10)=true:=by rw [h2];rfl
   have V:=Lib.hid (show elemR w r o q=4 by unfold elemR;rw [if_neg (fun h=>h1 h.1),if_pos (.inr h2)]);generalize elemR w r o q=R at V;clear hG ht h1 h2 CK
   go_enter Tryz.func60,Tryz.ntmps60
   go_wp2;go_ret
   exact⟨by rw [V.out];rfl,HS.out.bel⟩
  ·have h2b:(q.kind == 10)=false:=beq_eq_false_iff_ne.2 h2
   by_cases h3:o.kind=9
   ·have h3b:(o.kind == 9)=true:=by rw [h3];rfl
    by_cases h4:q.kind=9
    ·have h4b:(q.kind == 9)=true:=by rw [h4];rfl
     obtain⟨da,hda,_⟩:=qct (ht.o9 h3).1 (ht.o9 h3).2;obtain⟨db,hdb,_⟩:=qct (ht.q9 h4).1 (ht.q9 h4).2;have V:=Lib.hid (show elemR w r o q=qcp da db by unfold elemR qcp;rw [if_neg (fun h=>h1 h.1),if_neg (fun h=>h.elim h1 h2),if_pos ⟨h3,h4⟩,hda,hdb]);generalize elemR w r o q=R at V;obtain⟨na,hna⟩ : ∃n:Nat,o.tgt=(n:Int):=⟨o.tgt.toNat,by have:=(ht.o9 h3).1;omega⟩;obtain⟨nb,hnb⟩ : ∃n:Nat,q.tgt=(n:Int):=⟨q.tgt.toNat,by have:=(ht.q9 h4).1;omega⟩;have n1:(na:Int)<(w.enums.length:Int):=by have:=(ht.o9 h3).2;omega
     have n2:(nb:Int)<(r.enums.length:Int):=by have:=(ht.q9 h4).2;omega
     have n3:(0:Int)<=(na:Int):=by omega
     have n4:(0:Int)<=(nb:Int):=by omega
     rw [hna,Int.toNat_natCast]at hda;rw [hnb,Int.toNat_natCast]at hdb;rw [hna,hnb]at HS;rw [hna,hnb];obtain⟨_,_,he1,_,_,hel1⟩:=hG.g1;cases he1;obtain⟨_,_,he3,_,_,hel3⟩:=hG.g3;cases he3;obtain⟨eb,eo,rfl,_,va,hca,hva⟩:=hel1 na da hda;obtain⟨fb,fo,rfl,_,vb,hcb,hvb⟩:=hel3 nb db hdb;have CE:=fun WW (k:Bel W WW)=>rf_enums da db va vb WW (VEnum.stays _ _ _ _ k hva) (VEnum.stays _ _ _ _ k hvb)
     obtain⟨u1,u2,u3,u4,u5,u6,rfl,_⟩:=hva.form;obtain⟨v1,v2,v3,v4,v5,v6,rfl,_⟩:=hvb.form;rw [←V.out]at CE;clear hG ht h1 h2 h3 h4 CK hda hdb hna hnb hel1 hel3 hva hvb V
     go_enter Tryz.func60,Tryz.ntmps60
     go_upto_region 6 with(fail)
     generalize hWr:World.alloc _ _=wr;have T:=HS.out;rw [hWr]at T;obtain⟨wd,hwd⟩ : ∃wd,wd=wr.drew:=⟨_,rfl⟩;have T:=T.belw ((Bel.refl _).drew);rw [←hwd]at T;have g1:=T.cell 3 rfl 1;have g2:=T.cell 2 rfl 1;have g3:=T.cell 1 rfl 6;have g4:=T.cell 0 rfl 6;dsimp only at g1 g2 g3 g4;have e0:=T.bel.some (hca 0 _ rfl);have e1:=T.bel.some (hca 1 _ rfl);have e2:=T.bel.some (hca 2 _ rfl);have e3:=T.bel.some (hca 3 _ rfl);have e4:=T.bel.some (hca 4 _ rfl);have f0:=T.bel.some (hcb 0 _ rfl);have f1:=T.bel.some (hcb 1 _ rfl);have f2:=T.bel.some (hcb 2 _ rfl);have f3:=T.bel.some (hcb 3 _ rfl);have f4:=T.bel.some (hcb 4 _ rfl);rw [Nat.add_zero]at e0 f0;have HT:=Lib.hid T;have CJ:=Lib.hid (CE wd T.bel);have HWD:=Lib.hid hwd;clear hca hcb hwd T CE HS hWr;refine qa8 12 (by kernel_rfl) (by kernel_rfl) HWD.out ?_
     (simp only [List.take_succ_cons,List.take_zero,List.drop_succ_cons,List.drop_zero]);(repeat (first|((with_reducible refine wpStill_step (fun K hK=>?_));go_simp;(with_reducible refine hK _ ?_);clear hK K)|((with_reducible refine qab ?_ ?_);(with_unfolding_all rfl))));(with_reducible refine wpStill_nil ?_)
     go_wp2_with (go_at_call 92;(with_reducible refine CJ.out.mono ?_);rintro e' w1 ⟨rfl,k1⟩;have k1:Bel _ w1:=k1)
     go_ret;exact⟨rfl,Bel.of HT.out.bel k1⟩
    ·have h4b:(q.kind == 9)=false:=beq_eq_false_iff_ne.2 h4
     have V0:elemR w r o q=qav o.kind q.kind:=by
      unfold elemR;rw [if_neg (fun h=>h1 h.1),if_neg (fun h=>h.elim h1 h2),if_neg (fun h=>h4 h.2)]
     rw [V0];generalize qav o.kind q.kind=R at CK;clear hG ht h1 h2 V0
     (try clear h3)
     (try clear h4)
     go_enter Tryz.func60,Tryz.ntmps60
     go_wp2_with (go_at_call 62;(with_reducible refine(CK.out _).mono ?_);rintro e' w1 ⟨rfl,rfl⟩)
     go_ret;exact⟨rfl,HS.out.bel⟩
   ·have h3b:(o.kind == 9)=false:=beq_eq_false_iff_ne.2 h3
    have V0:elemR w r o q=qav o.kind q.kind:=by
     unfold elemR;rw [if_neg (fun h=>h1 h.1),if_neg (fun h=>h.elim h1 h2),if_neg (fun h=>h3 h.1)]
    rw [V0];generalize qav o.kind q.kind=R at CK;clear hG ht h1 h2 V0
    (try clear h3)
    (try clear h4)
    go_enter Tryz.func60,Tryz.ntmps60
    go_wp2_with (go_at_call 62;(with_reducible refine(CK.out _).mono ?_);rintro e' w1 ⟨rfl,rfl⟩)
    go_ret;exact⟨rfl,HS.out.bel⟩
end
end Go.Proofs.YtgpjhibdongmbaaGreatDoor
