import Derived.Test.YtgpjhibdongmbaaGreatDoorRsRes9
set_option maxRecDepth 100000
set_option maxHeartbeats 4000000
set_option linter.unusedVariables false
set_option linter.unusedSimpArgs false
namespace Go.Proofs.YtgpjhibdongmbaaGreatDoor
section
open Go.RowKit Ck Rs
theorem qk1 {α:Type} {a b:List α} {k:Nat} {x y:α} (hx:a[k]? = some x) (hy:b[k]? = some y):(a.drop k=b.drop k) ↔ x=y/\a.drop (k+1)=b.drop (k+1):=by
 obtain⟨h1,rfl⟩:=List.getElem?_eq_some_iff.1 hx;obtain⟨h2,rfl⟩:=List.getElem?_eq_some_iff.1 hy;rw [List.drop_eq_getElem_cons h1,List.drop_eq_getElem_cons h2,List.cons.injEq]
theorem eq_Act (v u:Value) (a b:List PAct) (w:World) (hv:Sv 3 VAct w v a) (hu:Sv 3 VAct w u b) :
  Calls Tryz.prog 67 #[v,u] w fun e' w'=>e'=.returned (.bool (decide (a=b)))/\Bel w w':=by
 obtain⟨q,c,rfl,hl,hcap,hel⟩:=hv;obtain⟨q',c',rfl,hl',hcap',hel'⟩:=hu;by_cases hlen:a.length=b.length
 ·have hli:(a.length:Int)=(b.length:Int):=by omega
  have hne:((a.length:Int) != (b.length:Int))=false:=by rw [hli];simp
  obtain⟨R,hR⟩ : ∃R,R=decide (a=b):=⟨_,rfl⟩;have V:=Lib.hid (show decide (a.drop 0=b.drop 0)=R by rw [hR];rfl);rw [←hR];have EX:=Lib.hid hel;have EY:=Lib.hid hel';have HL:=Lib.hid hlen;clear hel hel' hR hlen hli
  go_enter Tryz.func67,Tryz.ntmps67
  go_wp2
  go_loopw [13] (fun i wr => ∃k:Nat,k<=a.length/\i=.int .i64 k/\Bel w wr/\Hid (decide (a.drop k=b.drop k)=R)) (fun i _=>a.length-(intOf i).toNat)
  case atStart=>exact⟨0,by omega,rfl,Bel.refl _,V⟩
  case round=>as_aux_lemma=>
   clear V;obtain⟨k,hk,rfl,kw,hx⟩:=hrel;have hab:=HL.out;by_cases hlt:k<a.length
   ·have hki:(k:Int)<(a.length:Int):=by omega
    have hki2:(k:Int)<(b.length:Int):=by omega
    have hk0:(0:Int)<=(k:Int):=by omega
    have hga:a[k]? = some a[k]:=List.getElem?_eq_getElem hlt;have hgb:b[k]? = some (b[k]'(by omega)):=List.getElem?_eq_getElem (by omega);obtain⟨b1,off1,rfl,_,vx,hcx,hvx⟩:=EX.out k _ hga;obtain⟨b2,off2,rfl,_,vy,hcy,hvy⟩:=EY.out k _ hgb;have hst:=hx.out;have hdr:=qk1 hga hgb;generalize hxe:a[k]=x at *;generalize hye:b[k]'(by omega)=y at *;rw [show vx=[.int .i64 x.num,.int .i64 x.kind,.int .i64 x.sub]from hvx]at hcx;rw [show vy=[.int .i64 y.num,.int .i64 y.kind,.int .i64 y.sub]from hvy]at hcy;have HD:=Lib.hid hdr;clear hx hdr hga hgb hvx hvy hxe hye EX EY hab
    go_upto_region 6 with(fail)
    obtain⟨wd,hwd⟩ : ∃wd,wd=wr.drew:=⟨_,rfl⟩;have kd:Bel w wd:=by rw [hwd];exact kw.drew
    have HWD:=Lib.hid hwd;clear hwd;have ex0:=kd.some (hcx 0 _ rfl);have ey0:=kd.some (hcy 0 _ rfl);have ex1:=kd.some (hcx 1 _ rfl);have ey1:=kd.some (hcy 1 _ rfl);have ex2:=kd.some (hcx 2 _ rfl);have ey2:=kd.some (hcy 2 _ rfl);rw [Nat.add_zero]at ex0 ey0;refine qa9 8 (by kernel_rfl) (by kernel_rfl) HWD.out ?_
    (simp only [List.take_succ_cons,List.take_zero,List.drop_succ_cons,List.drop_zero]);(repeat (first|((with_reducible refine wpStill_step (fun K hK=>?_));go_simp;(with_reducible refine hK _ ?_);clear hK K)|((with_reducible refine qac ?_ ?_);(with_unfolding_all rfl))));(with_reducible refine wpStill_nil ?_)
    by_cases hxy:x=y
    ·have HST:=Lib.hid (show decide (a.drop (k+1)=b.drop (k+1))=R by rw [←hst];exact decide_eq_decide.2 (by rw [HD.out];simp [hxy]))
     subst hxy;clear hst HD;go_wp2;go_roundw
     case rel=>exact⟨k+1,by omega,by go_num,kd,HST⟩
     case measure=>simp [intOf];omega
    ·have HST:=Lib.hid (show R=false by rw [←hst];exact decide_eq_false (fun h=>hxy (HD.out.1 h).1))
     skip
     clear hst HD;go_wp2
     all_goals (first|(go_ret;exact⟨qa3 (by rw [HST.out]),kd⟩)|(exfalso;exact hxy (PAct.ext' (by assumption) (by assumption) (by assumption))))
   ·have hki : ¬(k:Int)<(a.length:Int):=by omega
    have HST:=Lib.hid (show R=true by rw [←hx.out,List.drop_eq_nil_of_le (by omega),List.drop_eq_nil_of_le (by omega)];simp);clear hx EX EY hab;go_wp2;go_ret;exact⟨qa3 (by rw [HST.out]),kw⟩
 ·have hne:((a.length:Int) != (b.length:Int))=true:=by rw [bne_iff_ne];omega
  have HST:=Lib.hid (show decide (a=b)=false from decide_eq_false (fun h=>hlen (by rw [h])));generalize decide (a=b)=R at HST;clear hel hel' hlen
  go_enter Tryz.func67,Tryz.ntmps67
  go_wp2;go_ret
  exact⟨qa3 (by rw [HST.out]),Bel.refl _⟩
theorem eq_Int (v u:Value) (a b:List Int) (w:World) (hv:Sv 1 VInt w v a) (hu:Sv 1 VInt w u b) :
  Calls Tryz.prog 68 #[v,u] w fun e' w'=>e'=.returned (.bool (decide (a=b)))/\Bel w w':=by
 obtain⟨q,c,rfl,hl,hcap,hel⟩:=hv;obtain⟨q',c',rfl,hl',hcap',hel'⟩:=hu;by_cases hlen:a.length=b.length
 ·have hli:(a.length:Int)=(b.length:Int):=by omega
  have hne:((a.length:Int) != (b.length:Int))=false:=by rw [hli];simp
  obtain⟨R,hR⟩ : ∃R,R=decide (a=b):=⟨_,rfl⟩;have V:=Lib.hid (show decide (a.drop 0=b.drop 0)=R by rw [hR];rfl);rw [←hR];have EX:=Lib.hid hel;have EY:=Lib.hid hel';have HL:=Lib.hid hlen;clear hel hel' hR hlen hli
  go_enter Tryz.func68,Tryz.ntmps68
  go_wp2
  go_loopw [13] (fun i wr => ∃k:Nat,k<=a.length/\i=.int .i64 k/\Bel w wr/\Hid (decide (a.drop k=b.drop k)=R)) (fun i _=>a.length-(intOf i).toNat)
  case atStart=>exact⟨0,by omega,rfl,Bel.refl _,V⟩
  case round=>as_aux_lemma=>
   clear V;obtain⟨k,hk,rfl,kw,hx⟩:=hrel;have hab:=HL.out;by_cases hlt:k<a.length
   ·have hki:(k:Int)<(a.length:Int):=by omega
    have hki2:(k:Int)<(b.length:Int):=by omega
    have hk0:(0:Int)<=(k:Int):=by omega
    have hga:a[k]? = some a[k]:=List.getElem?_eq_getElem hlt;have hgb:b[k]? = some (b[k]'(by omega)):=List.getElem?_eq_getElem (by omega);obtain⟨b1,off1,rfl,_,vx,hcx,hvx⟩:=EX.out k _ hga;obtain⟨b2,off2,rfl,_,vy,hcy,hvy⟩:=EY.out k _ hgb;have hst:=hx.out;have hdr:=qk1 hga hgb;generalize hxe:a[k]=x at *;generalize hye:b[k]'(by omega)=y at *;rw [show vx=[.int .i64 x]from hvx]at hcx;rw [show vy=[.int .i64 y]from hvy]at hcy;have HD:=Lib.hid hdr;clear hx hdr hga hgb hvx hvy hxe hye EX EY hab
    go_upto_region 6 with(fail)
    obtain⟨wd,hwd⟩ : ∃wd,wd=wr.drew:=⟨_,rfl⟩;have kd:Bel w wd:=by rw [hwd];exact kw.drew
    have HWD:=Lib.hid hwd;clear hwd;have ex0:=kd.some (hcx 0 _ rfl);have ey0:=kd.some (hcy 0 _ rfl);rw [Nat.add_zero]at ex0 ey0;rw [Nat.mul_one]at ex0 ey0;refine qa9 8 (by kernel_rfl) (by kernel_rfl) HWD.out ?_
    (simp only [List.take_succ_cons,List.take_zero,List.drop_succ_cons,List.drop_zero]);(repeat (first|((with_reducible refine wpStill_step (fun K hK=>?_));go_simp;(with_reducible refine hK _ ?_);clear hK K)|((with_reducible refine qac ?_ ?_);(with_unfolding_all rfl))));(with_reducible refine wpStill_nil ?_)
    by_cases hxy:x=y
    ·have HST:=Lib.hid (show decide (a.drop (k+1)=b.drop (k+1))=R by rw [←hst];exact decide_eq_decide.2 (by rw [HD.out];simp [hxy]))
     subst hxy;clear hst HD;go_wp2;go_roundw
     case rel=>exact⟨k+1,by omega,by go_num,kd,HST⟩
     case measure=>simp [intOf];omega
    ·have HST:=Lib.hid (show R=false by rw [←hst];exact decide_eq_false (fun h=>hxy (HD.out.1 h).1))
     have hb:(x == y)=false:=beq_eq_false_iff_ne.2 hxy;clear hst HD;go_wp2
     all_goals (first|(go_ret;exact⟨qa3 (by rw [HST.out]),kd⟩)|(exfalso;exact hxy (PAct.ext' (by assumption) (by assumption) (by assumption))))
   ·have hki : ¬(k:Int)<(a.length:Int):=by omega
    have HST:=Lib.hid (show R=true by rw [←hx.out,List.drop_eq_nil_of_le (by omega),List.drop_eq_nil_of_le (by omega)];simp);clear hx EX EY hab;go_wp2;go_ret;exact⟨qa3 (by rw [HST.out]),kw⟩
 ·have hne:((a.length:Int) != (b.length:Int))=true:=by rw [bne_iff_ne];omega
  have HST:=Lib.hid (show decide (a=b)=false from decide_eq_false (fun h=>hlen (by rw [h])));generalize decide (a=b)=R at HST;clear hel hel' hlen
  go_enter Tryz.func68,Tryz.ntmps68
  go_wp2;go_ret
  exact⟨qa3 (by rw [HST.out]),Bel.refl _⟩
end
section
open Go.RowKit Ck Rs
theorem cl_same (x y:PAdapt) (vx vy:List Value) (W:World) (hx:VAdapt W vx x) (hy:VAdapt W vy y) :
  Calls Tryz.prog 66 #[.agg vx.toArray,.agg vy.toArray] W fun e' w'=>e'=.returned (.bool (decide (x=y)))/\Bel W w':=by
 obtain⟨xa,xl,xb,xm,rfl,x1,x2,_,_⟩:=hx.form;obtain⟨ya,yl,yb,ym,rfl,y1,y2,_,_⟩:=hy.form;have hS0:=((ST.start W).addbox #[.int .i64 x.w,.int .i64 x.r,.slice xa x.acts.length xb,.slice xl x.lacks.length xm] 44).addbox #[.int .i64 y.w,.int .i64 y.r,.slice ya y.acts.length yb,.slice yl y.lacks.length ym] 44;simp only [World.size_alloc]at hS0;have HS:=Lib.hid hS0;have KS:=Lib.hid (fun WW (T:ST W [] [⟨W.heap.size+1,#[.int .i64 y.w,.int .i64 y.r,.slice ya y.acts.length yb,.slice yl y.lacks.length ym],44⟩,⟨W.heap.size,#[.int .i64 x.w,.int .i64 x.r,.slice xa x.acts.length xb,.slice xl x.lacks.length xm],44⟩] WW)=>show WW.cell? ⟨W.heap.size,0,none⟩=some (.int .i64 x.w)/\WW.cell? ⟨W.heap.size,1,none⟩=some (.int .i64 x.r)/\WW.cell? ⟨W.heap.size,2,none⟩=some (.slice xa x.acts.length xb)/\WW.cell? ⟨W.heap.size,3,none⟩=some (.slice xl x.lacks.length xm)/\WW.cell? ⟨W.heap.size+1,0,none⟩=some (.int .i64 y.w)/\WW.cell? ⟨W.heap.size+1,1,none⟩=some (.int .i64 y.r)/\WW.cell? ⟨W.heap.size+1,2,none⟩=some (.slice ya y.acts.length yb)/\WW.cell? ⟨W.heap.size+1,3,none⟩=some (.slice yl y.lacks.length ym)from⟨T.cell 1 rfl 0,T.cell 1 rfl 1,T.cell 1 rfl 2,T.cell 1 rfl 3,T.cell 0 rfl 0,T.cell 0 rfl 1,T.cell 0 rfl 2,T.cell 0 rfl 3⟩);have CA:=Lib.hid (fun WW (T:ST W [] [⟨W.heap.size+1,#[.int .i64 y.w,.int .i64 y.r,.slice ya y.acts.length yb,.slice yl y.lacks.length ym],44⟩,⟨W.heap.size,#[.int .i64 x.w,.int .i64 x.r,.slice xa x.acts.length xb,.slice xl x.lacks.length xm],44⟩] WW)=>eq_Act _ _ x.acts y.acts WW (x1.bel VAct.stays T.bel) (y1.bel VAct.stays T.bel));have CI:=Lib.hid (fun WW (T:ST W [] [⟨W.heap.size+1,#[.int .i64 y.w,.int .i64 y.r,.slice ya y.acts.length yb,.slice yl y.lacks.length ym],44⟩,⟨W.heap.size,#[.int .i64 x.w,.int .i64 x.r,.slice xa x.acts.length xb,.slice xl x.lacks.length xm],44⟩] WW)=>eq_Int _ _ x.lacks y.lacks WW (x2.bel VInt.stays T.bel) (y2.bel VInt.stays T.bel));clear hx hy x1 x2 y1 y2 hS0;by_cases h1:x.w=y.w
 ·have b1:(x.w == y.w)=true:=by rw [h1];simp
  by_cases h2:x.r=y.r
  ·have b2:(x.r == y.r)=true:=by rw [h2];simp
   by_cases h3:x.acts=y.acts
   ·rw [decide_eq_true h3]at CA
    have V:=Lib.hid (show decide (x=y)=decide (x.lacks=y.lacks)from decide_eq_decide.2 ⟨fun h=>by rw [h],fun h=>PAdapt.ext' h1 h2 h3 h⟩);generalize decide (x=y)=R at V;generalize decide (x.lacks=y.lacks)=Q at V CI;clear h1 h2 h3
    go_enter Tryz.func66,Tryz.ntmps66
    obtain⟨c0,c1,c2,c3,d0,d1,d2,d3⟩:=KS.out _ HS.out
    go_wp2_with (first
     | (go_at_call 67;(with_reducible refine(CA.out _ HS.out).mono ?_);rintro e' w1 ⟨rfl,k1⟩;have k1:Bel _ w1:=k1;have H1:=Lib.hid (HS.out.belw k1);obtain⟨c0,c1,c2,c3,d0,d1,d2,d3⟩:=KS.out _ H1.out;clear k1)
     | (go_at_call 68;(with_reducible refine(CI.out _ H1.out).mono ?_);rintro e' w2 ⟨rfl,k2⟩;have k2:Bel _ w2:=k2;have H2:=Lib.hid (H1.out.belw k2);obtain⟨c0,c1,c2,c3,d0,d1,d2,d3⟩:=KS.out _ H2.out;clear k2))
    go_ret;exact⟨qa3 (by rw [V.out]),H2.out.bel⟩
   ·rw [decide_eq_false h3]at CA
    have V:=Lib.hid (show decide (x=y)=false from decide_eq_false (fun h=>h3 (by rw [h])));generalize decide (x=y)=R at V;clear h1 h2 h3
    go_enter Tryz.func66,Tryz.ntmps66
    obtain⟨c0,c1,c2,c3,d0,d1,d2,d3⟩:=KS.out _ HS.out
    go_wp2_with (go_at_call 67;(with_reducible refine(CA.out _ HS.out).mono ?_);rintro e' w1 ⟨rfl,k1⟩;have k1:Bel _ w1:=k1;have H1:=Lib.hid (HS.out.belw k1);obtain⟨c0,c1,c2,c3,d0,d1,d2,d3⟩:=KS.out _ H1.out;clear k1)
    go_ret;exact⟨qa3 (by rw [V.out]),H1.out.bel⟩
  ·have b2:(x.r == y.r)=false:=beq_eq_false_iff_ne.2 h2
   have V:=Lib.hid (show decide (x=y)=false from decide_eq_false (fun h=>h2 (by rw [h])));generalize decide (x=y)=R at V;clear h1 h2
   go_enter Tryz.func66,Tryz.ntmps66
   obtain⟨c0,c1,c2,c3,d0,d1,d2,d3⟩:=KS.out _ HS.out
   go_wp2;go_ret
   exact⟨qa3 (by rw [V.out]),HS.out.bel⟩
 ·have b1:(x.w == y.w)=false:=beq_eq_false_iff_ne.2 h1
  have V:=Lib.hid (show decide (x=y)=false from decide_eq_false (fun h=>h1 (by rw [h])));generalize decide (x=y)=R at V;clear h1
  go_enter Tryz.func66,Tryz.ntmps66
  obtain⟨c0,c1,c2,c3,d0,d1,d2,d3⟩:=KS.out _ HS.out
  go_wp2;go_ret
  exact⟨qa3 (by rw [V.out]),HS.out.bel⟩
theorem eq_Adapt (v u:Value) (a b:List PAdapt) (w:World) (hv:Sv 4 VAdapt w v a) (hu:Sv 4 VAdapt w u b) :
  Calls Tryz.prog 65 #[v,u,.func (.func 66) #[] #[]] w fun e' w'=>e'=.returned (.bool (decide (a=b)))/\Bel w w':=by
 obtain⟨q,c,rfl,hl,hcap,hel⟩:=hv;obtain⟨q',c',rfl,hl',hcap',hel'⟩:=hu;by_cases hlen:a.length=b.length
 ·have hli:(a.length:Int)=(b.length:Int):=by omega
  have hne:((a.length:Int) != (b.length:Int))=false:=by rw [hli];simp
  obtain⟨R,hR⟩ : ∃R,R=decide (a=b):=⟨_,rfl⟩;have V:=Lib.hid (show decide (a.drop 0=b.drop 0)=R by rw [hR];rfl);rw [←hR];have EX:=Lib.hid hel;have EY:=Lib.hid hel';have HL:=Lib.hid hlen;clear hel hel' hR hlen hli
  go_enter Tryz.func65,Tryz.ntmps65
  go_wp2
  go_loopw [17] (fun i wr => ∃k:Nat,k<=a.length/\i=.int .i64 k/\Bel w wr/\Hid (decide (a.drop k=b.drop k)=R)) (fun i _=>a.length-(intOf i).toNat)
  case atStart=>exact⟨0,by omega,rfl,Bel.refl _,V⟩
  case round=>as_aux_lemma=>
   clear V;obtain⟨k,hk,rfl,kw,hx⟩:=hrel;have hab:=HL.out;by_cases hlt:k<a.length
   ·have hki:(k:Int)<(a.length:Int):=by omega
    have hki2:(k:Int)<(b.length:Int):=by omega
    have hk0:(0:Int)<=(k:Int):=by omega
    have hga:a[k]? = some a[k]:=List.getElem?_eq_getElem hlt;have hgb:b[k]? = some (b[k]'(by omega)):=List.getElem?_eq_getElem (by omega);obtain⟨b1,off1,rfl,_,vx,hcx,hvx⟩:=EX.out k _ hga;obtain⟨b2,off2,rfl,_,vy,hcy,hvy⟩:=EY.out k _ hgb;have hst:=hx.out;have hdr:=qk1 hga hgb;generalize hxe:a[k]=x at *;generalize hye:b[k]'(by omega)=y at *;have C0:=fun WW (kk:Bel w WW)=>cl_same x y vx vy WW (VAdapt.stays _ _ _ _ kk hvx) (VAdapt.stays _ _ _ _ kk hvy)
    obtain⟨xa,xl,xb,xm,rfl,_,_,_,_⟩:=hvx.form;obtain⟨ya,yl,yb,ym,rfl,_,_,_,_⟩:=hvy.form;have C:=Lib.hid C0;have HD:=Lib.hid hdr;have ex0:=kw.some (hcx 0 _ rfl);have ey0:=kw.some (hcy 0 _ rfl);have ex1:=kw.some (hcx 1 _ rfl);have ey1:=kw.some (hcy 1 _ rfl);have ex2:=kw.some (hcx 2 _ rfl);have ey2:=kw.some (hcy 2 _ rfl);have ex3:=kw.some (hcx 3 _ rfl);have ey3:=kw.some (hcy 3 _ rfl);rw [Nat.add_zero]at ex0 ey0;have hb2l:b2<wr.heap.size:=World.block_lt_of_cell? wr _ ey0;clear hx hdr hga hgb hvx hvy hxe hye EX EY hab C0;have hS0:=((ST.start wr).addbox #[.int .i64 x.w,.int .i64 x.r,.slice xa x.acts.length xb,.slice xl x.lacks.length xm] 44).addbox #[.int .i64 y.w,.int .i64 y.r,.slice ya y.acts.length yb,.slice yl y.lacks.length ym] 44;simp only [World.size_alloc]at hS0;have HS:=Lib.hid hS0;have HB:=Lib.hid (Bel.of kw hS0.bel);clear hS0;by_cases hxy:x=y
    ·have HST:=Lib.hid (show decide (a.drop (k+1)=b.drop (k+1))=R by rw [←hst];exact decide_eq_decide.2 (by rw [HD.out];simp [hxy]))
     rw [decide_eq_true hxy]at C;clear hst HD hxy
     go_wp2_with (go_at_call 66;(with_reducible refine(C.out _ HB.out).mono ?_);rintro e' w1 ⟨rfl,k1⟩;have k1:Bel _ w1:=Bel.of HB.out k1)
     go_roundw
     case rel=>exact⟨k+1,by omega,by go_num,k1,HST⟩
     case measure=>simp [intOf];omega
    ·have HST:=Lib.hid (show R=false by rw [←hst];exact decide_eq_false (fun h=>hxy (HD.out.1 h).1))
     rw [decide_eq_false hxy]at C;clear hst HD hxy
     go_wp2_with (go_at_call 66;(with_reducible refine(C.out _ HB.out).mono ?_);rintro e' w1 ⟨rfl,k1⟩;have k1:Bel _ w1:=Bel.of HB.out k1)
     go_ret;exact⟨qa3 (by rw [HST.out]),k1⟩
   ·have hki : ¬(k:Int)<(a.length:Int):=by omega
    have HST:=Lib.hid (show R=true by rw [←hx.out,List.drop_eq_nil_of_le (by omega),List.drop_eq_nil_of_le (by omega)];simp);clear hx EX EY hab;go_wp2;go_ret;exact⟨qa3 (by rw [HST.out]),kw⟩
 ·have hne:((a.length:Int) != (b.length:Int))=true:=by rw [bne_iff_ne];omega
  have HST:=Lib.hid (show decide (a=b)=false from decide_eq_false (fun h=>hlen (by rw [h])));generalize decide (a=b)=R at HST;clear hel hel' hlen
  go_enter Tryz.func65,Tryz.ntmps65
  go_wp2;go_ret
  exact⟨qa3 (by rw [HST.out]),Bel.refl _⟩
theorem rs_same (v u:Value) (a b:List PAdapt) (w:World) (hv:Sv 4 VAdapt w v a) (hu:Sv 4 VAdapt w u b) :
  Calls Tryz.prog 38 #[v,u] w fun e' w'=>e'=.returned (.bool (decide (a=b)))/\Bel w w':=by
 have C:=Lib.hid (eq_Adapt v u a b w hv hu);obtain⟨q,c,rfl,_⟩:=qb6 hv;obtain⟨q',c',rfl,_⟩:=qb6 hu;generalize decide (a=b)=R at C;clear hv hu
 go_enter Tryz.func38,Tryz.ntmps38
 go_wp2_with (go_at_call 65;(with_reducible refine C.out.mono ?_);rintro e' w1 ⟨rfl,k1⟩;have k1:Bel _ w1:=k1)
 go_ret;exact⟨rfl,k1⟩
end
end Go.Proofs.YtgpjhibdongmbaaGreatDoor
