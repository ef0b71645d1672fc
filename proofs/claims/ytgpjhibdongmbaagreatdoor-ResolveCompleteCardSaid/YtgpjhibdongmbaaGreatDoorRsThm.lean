import Derived.Test.YtgpjhibdongmbaaGreatDoorMzTree
import Derived.Test.YtgpjhibdongmbaaGreatDoorIdWord
import Derived.Test.YtgpjhibdongmbaaGreatDoorStillL
import Derived.Test.YtgpjhibdongmbaaGreatDoorOrd
set_option maxRecDepth 100000
set_option maxHeartbeats 4000000
set_option linter.unusedVariables false
set_option linter.unusedSimpArgs false
namespace Go.Proofs.YtgpjhibdongmbaaGreatDoor
open Go.RowKit Ck Rs
theorem rC78 {a:Act} {ρ:Operand->Value} (h : ∀x,ρ x=a.eval x):(∀c,ρ (.const c)=c)/\∀f,ρ (.func f)=.func (.func f) #[] #[]:=⟨fun c=>h (.const c),fun f=>h (.func f)⟩
structure Sr (B:Nat) (w r:PPlan) (p1 p2 p3 p4:Option Addr) (c1 c2 c3 c4:Nat) (W:World):Prop where
 f0:W.cell? ⟨B,0,none⟩=some (.slice p1 w.progs.length c1)
 f1:W.cell? ⟨B,1,none⟩=some (.slice p2 w.enums.length c2)
 f2:W.cell? ⟨B,2,none⟩=some (.slice p3 r.progs.length c3)
 f3:W.cell? ⟨B,3,none⟩=some (.slice p4 r.enums.length c4)
 g0:Sv 3 VProg W (.slice p1 w.progs.length c1) w.progs
 g1:Sv 5 VEnum W (.slice p2 w.enums.length c2) w.enums
 g2:Sv 3 VProg W (.slice p3 r.progs.length c3) r.progs
 g3:Sv 5 VEnum W (.slice p4 r.enums.length c4) r.enums
theorem Sr.bel {B:Nat} {w r:PPlan} {p1 p2 p3 p4:Option Addr} {c1 c2 c3 c4:Nat} {W W':World} (h:Sr B w r p1 p2 p3 p4 c1 c2 c3 c4 W) (k:Bel W W'):Sr B w r p1 p2 p3 p4 c1 c2 c3 c4 W':=
 ⟨k.some h.f0,k.some h.f1,k.some h.f2,k.some h.f3,h.g0.bel VProg.stays k,h.g1.bel VEnum.stays k,h.g2.bel VProg.stays k,h.g3.bel VEnum.stays k⟩
theorem Sr.lt {B:Nat} {w r:PPlan} {p1 p2 p3 p4:Option Addr} {c1 c2 c3 c4:Nat} {W:World} (h:Sr B w r p1 p2 p3 p4 c1 c2 c3 c4 W):B<W.heap.size:=World.block_lt_of_cell? W _ h.f0
theorem qjj (a b:Int) (W:World) (hT:Tab W) :
  Calls Tryz.prog 188 #[.int .i64 a,.int .i64 b] W fun e' w'=>e'=.returned (.int .i64 (qav a b-2))/\Bel W w':=by
 by_cases h:a=b
 ·have hb:(a == b)=true:=by rw [h];simp
  have V:=Lib.hid (show qav a b-2=0 by unfold qav;rw [if_pos h];rfl);generalize qav a b-2=R at V;clear h
  go_enter Tryz.func188,Tryz.ntmps188
  go_wp2;go_ret
  exact⟨by rw [V.out];rfl,Bel.refl _⟩
 ·have hb:(a == b)=false:=beq_eq_false_iff_ne.2 h
  have C:=Lib.hid (pr_Level 2 a b W hT);have h3:=Pr.lev_three 2 a b;by_cases hz:Pr.lev 2 a b=0
  ·have V:=Lib.hid (show qav a b-2=2 by unfold qav;rw [if_neg h,if_pos hz];rfl)
   rw [hz]at C;generalize qav a b-2=R at V;clear h h3 hz
   go_enter Tryz.func188,Tryz.ntmps188
   go_wp2_with (go_at_call 208;(with_reducible refine C.out.mono ?_);rintro e' w1 ⟨rfl,k1⟩;have k1:Bel _ w1:=k1)
   go_ret;exact⟨by rw [V.out];rfl,k1⟩
  ·have V:=Lib.hid (show qav a b-2=1 by unfold qav;rw [if_neg h,if_neg hz];rfl)
   have hp:0<Pr.lev 2 a b:=by omega
   generalize Pr.lev 2 a b=L at C hp;generalize qav a b-2=R at V;clear h h3 hz
   go_enter Tryz.func188,Tryz.ntmps188
   go_wp2_with (go_at_call 208;(with_reducible refine C.out.mono ?_);rintro e' w1 ⟨rfl,k1⟩;have k1:Bel _ w1:=k1)
   go_ret;exact⟨by rw [V.out];rfl,k1⟩
theorem oneR_lt {o:POp} (h:o.card<=5):decide (o.card<4)=oneR o:=by
 unfold oneR;rw [Bool.eq_iff_iff];simp only [decide_eq_true_eq];omega
theorem qh3 (o:POp) (W:World) (h:o.card<=5) :
  Calls Tryz.prog 187 #[.agg #[.int .i64 o.num,.string (S o.name),.string (S o.ali),.int .i64 o.card,.int .i64 o.key,.int .i64 o.kind,.int .i64 o.tgt,.int .i64 o.un]] W fun e' w'=>e'=.returned (.bool (oneR o))/\Bel W w':=by
 have V:=Lib.hid (oneR_lt h);generalize oneR o=R at V;clear h
 go_enter Tryz.func187,Tryz.ntmps187
 go_wp2;go_ret
 exact⟨qa3 V.out,(Bel.refl _).alloc _⟩
theorem qmo (y:PItem) (vs:List Value) (xn:Int) (B:Nat) (W:World) (hv:VItem W vs y) (hB:W.cell? ⟨B,1,none⟩=some (.int .i64 xn)) :
  Calls Tryz.prog 219 #[.agg vs.toArray,.pointer (some ⟨B,0,none⟩)] W fun e' w'=>e'=.returned (.bool (decide (y.num=xn)))/\Bel W w':=by
 obtain⟨q,c,rfl,_⟩:=hv.form;have hlt:B<W.heap.size:=World.block_lt_of_cell? W _ hB;clear hv
 go_enter Tryz.func219,Tryz.ntmps219
 go_wp2;go_ret
 exact⟨qa3 (by rw [Bool.eq_iff_iff];simp),(Bel.refl _).alloc _⟩
theorem qmp (b:PEnum) (x:PItem) (vs:List Value) (q1:Option Addr) (c1:Nat) (B:Nat) (W:World) (hv:VItem W vs x) (hB:W.cell? ⟨B,2,none⟩=some (.slice q1 b.items.length c1)) (hi:Sv 3 VItem W (.slice q1 b.items.length c1) b.items) :
  Calls Tryz.prog 218 #[.agg vs.toArray,.pointer (some ⟨B,0,none⟩)] W fun e' w'=>e'=.returned (.bool (!b.items.any fun y=>decide (y.num=x.num)))/\Bel W w':=by
 obtain⟨q,c,rfl,_⟩:=hv.form;have hlt:B<W.heap.size:=World.block_lt_of_cell? W _ hB;have hS0:=(Bel.refl W).alloc (.cells #[.string (S x.name),.int .i64 x.num,.slice q x.notes.length c] 86);have C:=Lib.hid (fun W' (k:Bel (W.alloc (.cells #[.string (S x.name),.int .i64 x.num,.slice q x.notes.length c] 86)) W')=>ql6 VItem VItem.len 219 #[.pointer (some ⟨W.heap.size,0,none⟩)] (enters_of Tryz.func219 (by kernel_rfl) rfl) (.slice q1 b.items.length c1) b.items (fun y=>decide (y.num=x.num)) W' (hi.bel VItem.stays (Bel.of hS0 k)) (fun y vs' W2 hy hv' hb=>qmo y vs' x.num W.heap.size W2 (VItem.stays _ _ _ _ hb hv') (qaa (Bel.of k hb) 1 _ rfl)));clear hv hi;generalize (b.items.any fun y=>decide (y.num=x.num))=R at C
 go_enter Tryz.func218,Tryz.ntmps218
 go_wp2_with (go_at_call 177;(with_reducible refine(C.out _ (Bel.refl _)).mono ?_);rintro e' w1 ⟨rfl,k1⟩;have k1:Bel _ w1:=k1)
 go_ret;exact⟨rfl,Bel.of hS0 k1⟩
theorem qid:(Tryz.prog.info? 84).map (·.size)=some 5:=by kernel_rfl
theorem qet (s:ByteArray) (b:Bool) (x y z:Option Addr × Nat × Nat):(#[.string s,.bool b,.slice x.1 x.2.1 x.2.2,.slice y.1 y.2.1 y.2.2,.slice z.1 z.2.1 z.2.2]:Array Value).all (·.oneCell')=true:=by simp [Value.oneCell']
theorem rs_items (B:Nat) (w r:PPlan) (p1 p2 p3 p4:Option Addr) (c1 c2 c3 c4:Nat) (o q:POp) (da db:PEnum) (W:World) (hS:Sr B w r p1 p2 p3 p4 c1 c2 c3 c4 W) (ht:0<=o.tgt) (hu:0<=q.tgt) (ha:w.enums[o.tgt.toNat]? = some da) (hb:r.enums[q.tgt.toNat]? = some db) :
  Calls Tryz.prog 207 #[.pointer (some ⟨B,0,none⟩),.agg #[.int .i64 o.num,.string (S o.name),.string (S o.ali),.int .i64 o.card,.int .i64 o.key,.int .i64 o.kind,.int .i64 o.tgt,.int .i64 o.un],.agg #[.int .i64 q.num,.string (S q.name),.string (S q.ali),.int .i64 q.card,.int .i64 q.key,.int .i64 q.kind,.int .i64 q.tgt,.int .i64 q.un]] W fun e' w'=>e'=.returned (.bool (qd4 da db))/\Bel W w':=by
 obtain⟨t,htt⟩ : ∃t:Nat,o.tgt=(t:Int):=⟨o.tgt.toNat,by omega⟩;obtain⟨u,huu⟩ : ∃u:Nat,q.tgt=(u:Int):=⟨q.tgt.toNat,by omega⟩;rw [htt,Int.toNat_natCast]at ha;rw [huu,Int.toNat_natCast]at hb;have hlt:=hS.lt;have lt1:(t:Int)<(w.enums.length:Int):=by have:=(List.getElem?_eq_some_iff.1 ha).1;omega
 have lu1:(u:Int)<(r.enums.length:Int):=by have:=(List.getElem?_eq_some_iff.1 hb).1;omega
 have t0:(0:Int)<=(t:Int):=by omega
 have u0:(0:Int)<=(u:Int):=by omega
 have hS0:=(ST.start W).addbox #[.int .i64 o.num,.string (S o.name),.string (S o.ali),.int .i64 o.card,.int .i64 o.key,.int .i64 o.kind,.int .i64 o.tgt,.int .i64 o.un] 54 |>.addbox #[.int .i64 q.num,.string (S q.name),.string (S q.ali),.int .i64 q.card,.int .i64 q.key,.int .i64 q.kind,.int .i64 q.tgt,.int .i64 q.un] 54
 simp only [World.size_alloc]at hS0;have f1:=hS.f1;have f3:=hS.f3;obtain⟨_,_,he1,_,_,hel1⟩:=hS.g1;obtain⟨_,_,he3,_,_,hel3⟩:=hS.g3;cases he1;cases he3;obtain⟨ab,aoff,rfl,_,va,hca,hva⟩:=hel1 t da ha;obtain⟨bb,boff,rfl,_,vb,hcb,hvb⟩:=hel3 u db hb;obtain⟨a1,a2,a3,ac1,ac2,ac3,rfl,hai,_⟩:=hva.form;obtain⟨b1,b2,b3,bc1,bc2,bc3,rfl,hbi,_⟩:=hvb.form;have CI:=Lib.hid (fun W' (Bb:Nat) (k:Bel W W') (hBb:W'.cell? ⟨Bb,2,none⟩=some (.slice b1 db.items.length bc1))=>ql6 VItem VItem.len 218 #[.pointer (some ⟨Bb,0,none⟩)] (enters_of Tryz.func218 (by kernel_rfl) rfl) (.slice a1 da.items.length ac1) da.items (fun x => !db.items.any fun y=>decide (y.num=x.num)) W' (hai.bel VItem.stays k) (fun x vs' W2 hx hv' hb2=>qmp db x vs' b1 bc1 Bb W2 (VItem.stays _ _ _ _ hb2 hv') (hb2.some hBb) (hbi.bel VItem.stays (Bel.of k hb2))));simp only [qie]at CI;have V:=Lib.hid (show qd4 da db=(db.op || (!da.op && da.items.all fun x=>db.items.any fun y=>decide (y.num=x.num)))from rfl);generalize (da.items.all fun x=>db.items.any fun y=>decide (y.num=x.num))=Q at CI V;generalize qd4 da db=R at V;have HS:=Lib.hid hS0;have HCA:=Lib.hid hca;have HCB:=Lib.hid hcb;have F1:=Lib.hid f1;have F3:=Lib.hid f3;have HT:=Lib.hid htt;have HU:=Lib.hid huu;clear ha hb hel1 hel3 hca hcb hva hvb hai hbi f1 f3 hS0 htt huu ht hu hS;generalize hAO:da.op=ao at *;generalize hBO:db.op=bo at *;clear hAO hBO
 go_enter Tryz.func207,Tryz.ntmps207
 go_upto_region 1 with(fail)
 obtain⟨wd,hwd⟩ : ∃wd,wd=((W.alloc (.cells #[.int .i64 o.num,.string (S o.name),.string (S o.ali),.int .i64 o.card,.int .i64 o.key,.int .i64 o.kind,.int .i64 o.tgt,.int .i64 o.un] 54)).alloc (.cells #[.int .i64 q.num,.string (S q.name),.string (S q.ali),.int .i64 q.card,.int .i64 q.key,.int .i64 q.kind,.int .i64 q.tgt,.int .i64 q.un] 54)).drew:=⟨_,rfl⟩;have T:=HS.out.belw ((Bel.refl _).drew);rw [←hwd]at T;have s6:=T.cell 1 rfl 6;have s7:=T.cell 0 rfl 6;dsimp only at s6 s7;rw [show(#[.int .i64 o.num,.string (S o.name),.string (S o.ali),.int .i64 o.card,.int .i64 o.key,.int .i64 o.kind,.int .i64 o.tgt,.int .i64 o.un]:Array Value)[6]? = some (.int .i64 o.tgt)from rfl,HT.out]at s6;rw [show(#[.int .i64 q.num,.string (S q.name),.string (S q.ali),.int .i64 q.card,.int .i64 q.key,.int .i64 q.kind,.int .i64 q.tgt,.int .i64 q.un]:Array Value)[6]? = some (.int .i64 q.tgt)from rfl,HU.out]at s7;have f1:=T.bel.some F1.out;have f3:=T.bel.some F3.out;have ea0:=T.bel.some (HCA.out 0 _ rfl);rw [Nat.add_zero]at ea0;have eb0:=T.bel.some (HCB.out 0 _ rfl);rw [Nat.add_zero]at eb0;have ea1:=T.bel.some (HCA.out 1 _ rfl);have ea2:=T.bel.some (HCA.out 2 _ rfl);have ea3:=T.bel.some (HCA.out 3 _ rfl);have ea4:=T.bel.some (HCA.out 4 _ rfl);have eb1:=T.bel.some (HCB.out 1 _ rfl);have eb2:=T.bel.some (HCB.out 2 _ rfl);have eb3:=T.bel.some (HCB.out 3 _ rfl);have eb4:=T.bel.some (HCB.out 4 _ rfl);have T:=Lib.hid T;have HWD:=Lib.hid hwd;clear hwd HS f1 f3 s6 s7 ea0 ea1 ea2 ea3 ea4 eb0 eb1 eb2 eb3 eb4;have KS:=Lib.hid (fun W' (h:ST W [] [⟨W.heap.size+1,#[.int .i64 q.num,.string (S q.name),.string (S q.ali),.int .i64 q.card,.int .i64 q.key,.int .i64 q.kind,.int .i64 q.tgt,.int .i64 q.un],54⟩,⟨W.heap.size,#[.int .i64 o.num,.string (S o.name),.string (S o.ali),.int .i64 o.card,.int .i64 o.key,.int .i64 o.kind,.int .i64 o.tgt,.int .i64 o.un],54⟩] W')=>show W'.cell? ⟨B,1,none⟩=some (.slice (some ⟨ab,aoff,none⟩) w.enums.length c2)/\W'.cell? ⟨B,3,none⟩=some (.slice (some ⟨bb,boff,none⟩) r.enums.length c4)/\W'.cell? ⟨W.heap.size,6,none⟩=some (.int .i64 (t:Int))/\W'.cell? ⟨W.heap.size+1,6,none⟩=some (.int .i64 (u:Int))/\W'.cell? ⟨ab,aoff+t*5,none⟩=some (.string (S da.name))/\W'.cell? ⟨ab,aoff+t*5+1,none⟩=some (.bool ao)/\W'.cell? ⟨ab,aoff+t*5+2,none⟩=some (.slice a1 da.items.length ac1)/\W'.cell? ⟨ab,aoff+t*5+3,none⟩=some (.slice a2 da.res.length ac2)/\W'.cell? ⟨ab,aoff+t*5+4,none⟩=some (.slice a3 da.notes.length ac3)/\W'.cell? ⟨bb,boff+u*5,none⟩=some (.string (S db.name))/\W'.cell? ⟨bb,boff+u*5+1,none⟩=some (.bool bo)/\W'.cell? ⟨bb,boff+u*5+2,none⟩=some (.slice b1 db.items.length bc1)/\W'.cell? ⟨bb,boff+u*5+3,none⟩=some (.slice b2 db.res.length bc2)/\W'.cell? ⟨bb,boff+u*5+4,none⟩=some (.slice b3 db.notes.length bc3)from⟨h.bel.some F1.out,h.bel.some F3.out,(h.cell 1 rfl 6).trans (by rw [←HT.out];rfl),(h.cell 0 rfl 6).trans (by rw [←HU.out];rfl),h.bel.some (HCA.out 0 _ rfl),h.bel.some (HCA.out 1 _ rfl),h.bel.some (HCA.out 2 _ rfl),h.bel.some (HCA.out 3 _ rfl),h.bel.some (HCA.out 4 _ rfl),h.bel.some (HCB.out 0 _ rfl),h.bel.some (HCB.out 1 _ rfl),h.bel.some (HCB.out 2 _ rfl),h.bel.some (HCB.out 3 _ rfl),h.bel.some (HCB.out 4 _ rfl)⟩);refine qag (fun WW=>ST W [] [⟨W.heap.size+1,#[.int .i64 q.num,.string (S q.name),.string (S q.ali),.int .i64 q.card,.int .i64 q.key,.int .i64 q.kind,.int .i64 q.tgt,.int .i64 q.un],54⟩,⟨W.heap.size,#[.int .i64 o.num,.string (S o.name),.string (S o.ali),.int .i64 o.card,.int .i64 o.key,.int .i64 o.kind,.int .i64 o.tgt,.int .i64 o.un],54⟩] WW) (.take 0 (.take 1 (.take 2 (.take 3 (.take 4 (.take 5 (.take 6 (.take 7 (.take 8 (.take 9 (.take 10 (.take 11 (.take 12 (.take 13 (.take 14 (.take 15 (.take 16 (.take 17 (.alt 18 (.alt 19 (.alt 20 .done .no) .no) (.alt 19 (.alt 18 (.alt 20 .done .no) .no) .no)))))))))))))))))))) 21 (by kernel_rfl) (by kernel_rfl) HWD.out T.out (fun a ha=>?_)
 (simp only [pickT,List.getD_cons_zero,List.getD_cons_succ])
 have hsz:a.tmps.size=39:=(by rw [ha];kernel_rfl);have a0:a.eval (.tmp 0)=.pointer (some ⟨B,0,none⟩):=(by rw [ha];kernel_rfl);have a4:a.eval (.tmp 4)=.pointer (some ⟨W.heap.size,0,none⟩):=(by rw [ha];kernel_rfl);have a5:a.eval (.tmp 5)=.pointer (some ⟨W.heap.size+1,0,none⟩):=(by rw [ha];kernel_rfl)
 (with_reducible refine qa1 (v:=?_) rfl (by with_unfolding_all rfl) (fun ρ hρ W hW=>?_) ?_);(rotate_left 1)
 focus(clear hW;have p0:=hρ (.tmp 0);(simp +decide only [qa2,hsz,ev_eq,ev_ne,a0,a4,a5]at p0);obtain⟨hc,hfn⟩:=rC78 hρ;clear hρ;go_simp;(all_goals with_reducible first|rfl|(constructor <;> rfl)))
 (with_reducible refine qa1 (v:=?_) rfl (by with_unfolding_all rfl) (fun ρ hρ W hW=>?_) ?_);(rotate_left 1)
 focus(clear hW;have p9:=hρ (.tmp 9);(simp +decide only [qa2,hsz,ev_eq,ev_ne,a0,a4,a5]at p9);obtain⟨hc,hfn⟩:=rC78 hρ;clear hρ;go_simp;(all_goals with_reducible first|rfl|(constructor <;> rfl)))
 (with_reducible refine qa1 (v:=?_) rfl (by with_unfolding_all rfl) (fun ρ hρ W hW=>?_) ?_);(rotate_left 1)
 focus(clear hW;have p10:=hρ (.tmp 10);(simp +decide only [qa2,hsz,ev_eq,ev_ne,a0,a4,a5]at p10);obtain⟨hc,hfn⟩:=rC78 hρ;clear hρ;go_simp;(all_goals with_reducible first|rfl|(constructor <;> rfl)))
 (with_reducible refine qa1 (v:=?_) rfl (by with_unfolding_all rfl) (fun ρ hρ W hW=>?_) ?_);(rotate_left 1)
 focus(clear hW;have p11:=hρ (.tmp 11);(simp +decide only [qa2,hsz,ev_eq,ev_ne,a0,a4,a5]at p11);obtain⟨hc,hfn⟩:=rC78 hρ;clear hρ;go_simp;(all_goals with_reducible first|rfl|(constructor <;> rfl)))
 (with_reducible refine qa1 (v:=?_) rfl (by with_unfolding_all rfl) (fun ρ hρ W hW=>?_) ?_);(rotate_left 1)
 focus(have hS:=KS.out _ hW;clear hW;have p12:=hρ (.tmp 12);(simp +decide only [qa2,hsz,ev_eq,ev_ne,a0,a4,a5]at p12);obtain⟨hc,hfn⟩:=rC78 hρ;clear hρ;go_simp;(all_goals with_reducible first|rfl|(constructor <;> rfl)))
 (with_reducible refine qa1 (v:=?_) rfl (by with_unfolding_all rfl) (fun ρ hρ W hW=>?_) ?_);(rotate_left 1)
 focus(clear hW;have p4:=hρ (.tmp 4);(simp +decide only [qa2,hsz,ev_eq,ev_ne,a0,a4,a5]at p4);obtain⟨hc,hfn⟩:=rC78 hρ;clear hρ;go_simp;(all_goals with_reducible first|rfl|(constructor <;> rfl)))
 (with_reducible refine qa1 (v:=?_) rfl (by with_unfolding_all rfl) (fun ρ hρ W hW=>?_) ?_);(rotate_left 1)
 focus(have hS:=KS.out _ hW;clear hW;have p14:=hρ (.tmp 14);(simp +decide only [qa2,hsz,ev_eq,ev_ne,a0,a4,a5]at p14);obtain⟨hc,hfn⟩:=rC78 hρ;clear hρ;go_simp;(all_goals with_reducible first|rfl|(constructor <;> rfl)))
 (with_reducible refine qa1 (v:=?_) rfl (by with_unfolding_all rfl) (fun ρ hρ W hW=>?_) ?_);(rotate_left 1)
 focus(clear hW;have p13:=hρ (.tmp 13);have p15:=hρ (.tmp 15);(simp +decide only [qa2,hsz,ev_eq,ev_ne,a0,a4,a5]at p13 p15);obtain⟨hc,hfn⟩:=rC78 hρ;clear hρ;go_simp;(all_goals with_reducible first|rfl|(constructor <;> rfl)))
 (with_reducible refine qa1 (v:=?_) rfl (by with_unfolding_all rfl) (fun ρ hρ W hW=>?_) ?_);(rotate_left 1)
 focus(have hS:=KS.out _ hW;clear hW;have p16:=hρ (.tmp 16);(simp +decide only [qa2,hsz,ev_eq,ev_ne,a0,a4,a5]at p16);obtain⟨hc,hfn⟩:=rC78 hρ;clear hρ;go_simp;(all_goals with_reducible first|rfl|(constructor <;> rfl)))
 (with_reducible refine qa1 (v:=?_) rfl (by with_unfolding_all rfl) (fun ρ hρ W hW=>?_) ?_);(rotate_left 1)
 focus(clear hW;have p0:=hρ (.tmp 0);(simp +decide only [qa2,hsz,ev_eq,ev_ne,a0,a4,a5]at p0);obtain⟨hc,hfn⟩:=rC78 hρ;clear hρ;go_simp;(all_goals with_reducible first|rfl|(constructor <;> rfl)))
 (with_reducible refine qa1 (v:=?_) rfl (by with_unfolding_all rfl) (fun ρ hρ W hW=>?_) ?_);(rotate_left 1)
 focus(clear hW;have p18:=hρ (.tmp 18);(simp +decide only [qa2,hsz,ev_eq,ev_ne,a0,a4,a5]at p18);obtain⟨hc,hfn⟩:=rC78 hρ;clear hρ;go_simp;(all_goals with_reducible first|rfl|(constructor <;> rfl)))
 (with_reducible refine qa1 (v:=?_) rfl (by with_unfolding_all rfl) (fun ρ hρ W hW=>?_) ?_);(rotate_left 1)
 focus(clear hW;have p19:=hρ (.tmp 19);(simp +decide only [qa2,hsz,ev_eq,ev_ne,a0,a4,a5]at p19);obtain⟨hc,hfn⟩:=rC78 hρ;clear hρ;go_simp;(all_goals with_reducible first|rfl|(constructor <;> rfl)))
 (with_reducible refine qa1 (v:=?_) rfl (by with_unfolding_all rfl) (fun ρ hρ W hW=>?_) ?_);(rotate_left 1)
 focus(clear hW;have p20:=hρ (.tmp 20);(simp +decide only [qa2,hsz,ev_eq,ev_ne,a0,a4,a5]at p20);obtain⟨hc,hfn⟩:=rC78 hρ;clear hρ;go_simp;(all_goals with_reducible first|rfl|(constructor <;> rfl)))
 (with_reducible refine qa1 (v:=?_) rfl (by with_unfolding_all rfl) (fun ρ hρ W hW=>?_) ?_);(rotate_left 1)
 focus(have hS:=KS.out _ hW;clear hW;have p21:=hρ (.tmp 21);(simp +decide only [qa2,hsz,ev_eq,ev_ne,a0,a4,a5]at p21);obtain⟨hc,hfn⟩:=rC78 hρ;clear hρ;go_simp;(all_goals with_reducible first|rfl|(constructor <;> rfl)))
 (with_reducible refine qa1 (v:=?_) rfl (by with_unfolding_all rfl) (fun ρ hρ W hW=>?_) ?_);(rotate_left 1)
 focus(clear hW;have p5:=hρ (.tmp 5);(simp +decide only [qa2,hsz,ev_eq,ev_ne,a0,a4,a5]at p5);obtain⟨hc,hfn⟩:=rC78 hρ;clear hρ;go_simp;(all_goals with_reducible first|rfl|(constructor <;> rfl)))
 (with_reducible refine qa1 (v:=?_) rfl (by with_unfolding_all rfl) (fun ρ hρ W hW=>?_) ?_);(rotate_left 1)
 focus(have hS:=KS.out _ hW;clear hW;have p23:=hρ (.tmp 23);(simp +decide only [qa2,hsz,ev_eq,ev_ne,a0,a4,a5]at p23);obtain⟨hc,hfn⟩:=rC78 hρ;clear hρ;go_simp;(all_goals with_reducible first|rfl|(constructor <;> rfl)))
 (with_reducible refine qa1 (v:=?_) rfl (by with_unfolding_all rfl) (fun ρ hρ W hW=>?_) ?_);(rotate_left 1)
 focus(clear hW;have p22:=hρ (.tmp 22);have p24:=hρ (.tmp 24);(simp +decide only [qa2,hsz,ev_eq,ev_ne,a0,a4,a5]at p22 p24);obtain⟨hc,hfn⟩:=rC78 hρ;clear hρ;go_simp;(all_goals with_reducible first|rfl|(constructor <;> rfl)))
 (with_reducible refine qa1 (v:=?_) rfl (by with_unfolding_all rfl) (fun ρ hρ W hW=>?_) ?_);(rotate_left 1)
 focus(have hS:=KS.out _ hW;clear hW;have p25:=hρ (.tmp 25);(simp +decide only [qa2,hsz,ev_eq,ev_ne,a0,a4,a5]at p25);obtain⟨hc,hfn⟩:=rC78 hρ;clear hρ;go_simp;(all_goals with_reducible first|rfl|(constructor <;> rfl)))
 (with_reducible refine qb2 (v:=?_) (w':=?_) rfl (by with_unfolding_all rfl) (fun ρ hρ=>?_) ?_ ?_ ?_);(rotate_left 2)
 focus(obtain⟨hc,hfn⟩:=rC78 hρ;clear hρ;go_simp;(all_goals with_reducible first|rfl|(constructor <;> rfl)))
 focus exact(T.out.addbox #[.string ⟨#[]⟩,.bool false,.slice none 0 0,.slice none 0 0,.slice none 0 0] 84).dropbox0
 have T:=Lib.hid (T.out.addbox #[.string ⟨#[]⟩,.bool false,.slice none 0 0,.slice none 0 0,.slice none 0 0] 84);obtain⟨g18,hg18⟩ : ∃g,g=wd.heap.size:=⟨_,rfl⟩;rw [←hg18]at T;rw [←hg18];generalize hA:World.alloc wd _=w18 at T ⊢;clear hA hg18
 ·(with_reducible refine qb2 (v:=?_) (w':=?_) rfl (by with_unfolding_all rfl) (fun ρ hρ=>?_) ?_ ?_ ?_);(rotate_left 2)
  focus(obtain⟨hc,hfn⟩:=rC78 hρ;clear hρ;go_simp;(all_goals with_reducible first|rfl|(constructor <;> rfl)))
  focus exact(T.out.addbox #[.string ⟨#[]⟩,.bool false,.slice none 0 0,.slice none 0 0,.slice none 0 0] 84).dropbox0.dropbox0
  have T:=Lib.hid (T.out.addbox #[.string ⟨#[]⟩,.bool false,.slice none 0 0,.slice none 0 0,.slice none 0 0] 84);obtain⟨g19,hg19⟩ : ∃g,g=w18.heap.size:=⟨_,rfl⟩;rw [←hg19]at T;rw [←hg19];generalize hA:World.alloc w18 _=w19 at T ⊢;clear hA hg19;rotate_left 1
  focus exact qak
  (refine qb1 rfl 84 (.tmp 7) (.tmp 17) (by with_unfolding_all rfl) _ #[.string (S da.name),.bool ao,.slice a1 da.items.length ac1,.slice a2 da.res.length ac2,.slice a3 da.notes.length ac3] #[.string ⟨#[]⟩,.bool false,.slice none 0 0,.slice none 0 0,.slice none 0 0] 84 ?_ ?_ (T.out.box 1 rfl) qid rfl (qet _ _ (_,_,_) (_,_,_) (_,_,_)) ?_ ?_ ?_)
  focus(simp +decide only [qa2,hsz,ev_eq,ev_ne,a0,a4,a5])
  focus(simp +decide only [qa2,hsz,ev_eq,ev_ne,a0,a4,a5])
  focus exact(T.out.setrowbox 1 rfl #[.string (S da.name),.bool ao,.slice a1 da.items.length ac1,.slice a2 da.res.length ac2,.slice a3 da.notes.length ac3]).dropbox0.dropbox0
  have T:=Lib.hid (T.out.setrowbox 1 rfl #[.string (S da.name),.bool ao,.slice a1 da.items.length ac1,.slice a2 da.res.length ac2,.slice a3 da.notes.length ac3]);generalize hA:World.setRow w19 _ _=w20 at T ⊢;clear hA;rotate_left 1
  focus exact qak
  with_reducible refine qan ?_
  (simp only [List.drop_succ_cons,List.drop_zero])
  subst ha
  (simp only [qaz,set_s,set_z])
  have HBX:=Lib.hid (T.out.box 0 rfl);refine qa6 rfl 84 _ _ rfl g19 #[.string (S db.name),.bool bo,.slice b1 db.items.length bc1,.slice b2 db.res.length bc2,.slice b3 db.notes.length bc3] #[.string ⟨#[]⟩,.bool false,.slice none 0 0,.slice none 0 0,.slice none 0 0] 84 (by with_unfolding_all rfl) (by with_unfolding_all rfl) HBX.out qid rfl (qet _ _ (_,_,_) (_,_,_) (_,_,_)) ?_;have T:=Lib.hid (T.out.setrowbox 0 rfl #[.string (S db.name),.bool bo,.slice b1 db.items.length bc1,.slice b2 db.res.length bc2,.slice b3 db.notes.length bc3]);generalize hA:World.setRow w20 _ _=wz at T ⊢;clear hA HBX;generalize g18=gA at T ⊢;generalize g19=gB at T ⊢;have z1:=T.out.cell 0 rfl 1;have y1:=T.out.cell 1 rfl 1;have y2:=T.out.cell 1 rfl 2;dsimp only at z1 y1 y2;cases bo with
  | true=>
   go_wp2;go_ret
   exact⟨qa3 (by rw [V.out];rfl),T.out.bel⟩
  | false=>
   cases ao with
   | true=>
    go_wp2;go_ret
    exact⟨qa3 (by rw [V.out];rfl),T.out.bel⟩
   | false=>
    go_wp2_with (go_at_call 177;(with_reducible refine(CI.out _ gB T.out.bel (T.out.cell 0 rfl 2)).mono ?_);rintro e' w9 ⟨rfl,k9⟩;have k9:Bel _ w9:=Bel.of T.out.bel k9)
    go_ret;exact⟨qa3 (by rw [V.out];simp),k9⟩
 (with_reducible refine qb2 (v:=?_) (w':=?_) rfl (by with_unfolding_all rfl) (fun ρ hρ=>?_) ?_ ?_ ?_);(rotate_left 2)
 focus(obtain⟨hc,hfn⟩:=rC78 hρ;clear hρ;go_simp;(all_goals with_reducible first|rfl|(constructor <;> rfl)))
 focus exact(T.out.addbox #[.string ⟨#[]⟩,.bool false,.slice none 0 0,.slice none 0 0,.slice none 0 0] 84).dropbox0
 have T:=Lib.hid (T.out.addbox #[.string ⟨#[]⟩,.bool false,.slice none 0 0,.slice none 0 0,.slice none 0 0] 84);obtain⟨g19,hg19⟩ : ∃g,g=wd.heap.size:=⟨_,rfl⟩;rw [←hg19]at T;rw [←hg19];generalize hA:World.alloc wd _=w19 at T ⊢;clear hA hg19;rotate_left 1
 focus exact qak
 (with_reducible refine qb2 (v:=?_) (w':=?_) rfl (by with_unfolding_all rfl) (fun ρ hρ=>?_) ?_ ?_ ?_);(rotate_left 2)
 focus(obtain⟨hc,hfn⟩:=rC78 hρ;clear hρ;go_simp;(all_goals with_reducible first|rfl|(constructor <;> rfl)))
 focus exact(T.out.addbox #[.string ⟨#[]⟩,.bool false,.slice none 0 0,.slice none 0 0,.slice none 0 0] 84).dropbox0.dropbox0
 have T:=Lib.hid (T.out.addbox #[.string ⟨#[]⟩,.bool false,.slice none 0 0,.slice none 0 0,.slice none 0 0] 84);obtain⟨g18,hg18⟩ : ∃g,g=w19.heap.size:=⟨_,rfl⟩;rw [←hg18]at T;rw [←hg18];generalize hA:World.alloc w19 _=w18 at T ⊢;clear hA hg18;rotate_left 1
 focus exact qak
 (refine qb1 rfl 84 (.tmp 7) (.tmp 17) (by with_unfolding_all rfl) _ #[.string (S da.name),.bool ao,.slice a1 da.items.length ac1,.slice a2 da.res.length ac2,.slice a3 da.notes.length ac3] #[.string ⟨#[]⟩,.bool false,.slice none 0 0,.slice none 0 0,.slice none 0 0] 84 ?_ ?_ (T.out.box 0 rfl) qid rfl (qet _ _ (_,_,_) (_,_,_) (_,_,_)) ?_ ?_ ?_)
 focus(simp +decide only [qa2,hsz,ev_eq,ev_ne,a0,a4,a5])
 focus(simp +decide only [qa2,hsz,ev_eq,ev_ne,a0,a4,a5])
 focus exact(T.out.setrowbox 0 rfl #[.string (S da.name),.bool ao,.slice a1 da.items.length ac1,.slice a2 da.res.length ac2,.slice a3 da.notes.length ac3]).dropbox0.dropbox0
 have T:=Lib.hid (T.out.setrowbox 0 rfl #[.string (S da.name),.bool ao,.slice a1 da.items.length ac1,.slice a2 da.res.length ac2,.slice a3 da.notes.length ac3]);generalize hA:World.setRow w18 _ _=w20 at T ⊢;clear hA;rotate_left 1
 focus exact qak
 with_reducible refine qan ?_
 (simp only [List.drop_succ_cons,List.drop_zero])
 subst ha
 (simp only [qaz,set_s,set_z])
 have HBX:=Lib.hid (T.out.box 1 rfl);refine qa6 rfl 84 _ _ rfl g19 #[.string (S db.name),.bool bo,.slice b1 db.items.length bc1,.slice b2 db.res.length bc2,.slice b3 db.notes.length bc3] #[.string ⟨#[]⟩,.bool false,.slice none 0 0,.slice none 0 0,.slice none 0 0] 84 (by with_unfolding_all rfl) (by with_unfolding_all rfl) HBX.out qid rfl (qet _ _ (_,_,_) (_,_,_) (_,_,_)) ?_;have T:=Lib.hid (T.out.setrowbox 1 rfl #[.string (S db.name),.bool bo,.slice b1 db.items.length bc1,.slice b2 db.res.length bc2,.slice b3 db.notes.length bc3]);have T:=Lib.hid T.out.swapX;generalize hA:World.setRow w20 _ _=wz at T ⊢;clear hA HBX;generalize g18=gA at T ⊢;generalize g19=gB at T ⊢;have z1:=T.out.cell 0 rfl 1;have y1:=T.out.cell 1 rfl 1;have y2:=T.out.cell 1 rfl 2;dsimp only at z1 y1 y2;cases bo with
 | true=>
  go_wp2;go_ret
  exact⟨qa3 (by rw [V.out];rfl),T.out.bel⟩
 | false=>
  cases ao with
  | true=>
   go_wp2;go_ret
   exact⟨qa3 (by rw [V.out];rfl),T.out.bel⟩
  | false=>
   go_wp2_with (go_at_call 177;(with_reducible refine(CI.out _ gB T.out.bel (T.out.cell 0 rfl 2)).mono ?_);rintro e' w9 ⟨rfl,k9⟩;have k9:Bel _ w9:=Bel.of T.out.bel k9)
   go_ret;exact⟨qa3 (by rw [V.out];simp),k9⟩
end Go.Proofs.YtgpjhibdongmbaaGreatDoor
namespace Go.Proofs.YtgpjhibdongmbaaGreatDoor.Rs
open Ck
structure ActOK (w r:PPlan) (F:List (Int × Int)) (h:PProg) (o:POp) (a:PAct):Prop where
 num:a.num=o.num
 no:opOf h o.num=none->a.kind=1/\a.sub = -1
 yes : ∀q,opOf h o.num=some q->a.kind=qac w r o q/\((a.sub = -1/\(a.kind=4 ∨ o.kind ≠ 10)) ∨ (a.kind ≠ 4/\o.kind=10/\q.kind=10/\∃s:Nat,a.sub=(s:Int)/\F[s]? = some (o.tgt,q.tgt)))
theorem qbm {α:Type} {P F:List α} (h:P <+: F) {i:Nat} {x:α} (hx:P[i]? = some x):F[i]? = some x:=by
 obtain⟨t,rfl⟩:=h;rw [List.getElem?_append_left (List.getElem?_eq_some_iff.1 hx).1,hx]
theorem actR_at {w r:PPlan} (hw:Aimed w) (hr:Aimed r) {g h:PProg} (hg:g ∈ w.progs) (hh:h ∈ r.progs) {o:POp} (ho:o ∈ g.ops) {P F:List (Int × Int)} (hP:qao w r P) (hF:(actR w r h o P).2 <+: F):ActOK w r F h o (actR w r h o P).1:=by
 unfold actR at *;cases hx:opOf h o.num with
 | none=>exact⟨rfl,fun _=>⟨rfl,rfl⟩,fun q hq=>by rw [hx]at hq;cases hq⟩
 | some q=>
  rw [hx]at hF;dsimp only at hF ⊢;by_cases hc:qac w r o q ≠ 4/\o.kind=10
  ·rw [if_pos hc]at hF ⊢
   have hq:=qco hc.2 hc.1;obtain⟨_,_,i,h1,h2⟩:=qfp hP ((hw g hg o ho).1 hc.2) ((hr h hh q (qer hx).1).1 hq);refine⟨rfl,fun hn=>(by rw [hx]at hn;cases hn),fun q2 hq2=>?_⟩;rw [hx]at hq2;cases hq2;exact⟨rfl,.inr ⟨hc.1,hc.2,hq,i,h1,qbm hF h2⟩⟩
  ·rw [if_neg hc]
   refine⟨rfl,fun hn=>(by rw [hx]at hn;cases hn),fun q2 hq2=>?_⟩;rw [hx]at hq2;cases hq2;refine⟨rfl,.inl ⟨rfl,?_⟩⟩;by_cases h4:qac w r o q=4
   ·exact .inl h4
   ·exact .inr fun h10=>hc ⟨h4,h10⟩
theorem qdc {w r:PPlan} (hw:Aimed w) (hr:Aimed r) {g h:PProg} (hg:g ∈ w.progs) (hh:h ∈ r.progs) {F:List (Int × Int)} : ∀(ops:List POp) (A:List PAct) (P:List (Int × Int)),(∀o ∈ ops,o ∈ g.ops)->qao w r P->(qb8 w r h ops A P).2 <+: F →
  (qb8 w r h ops A P).1.length=A.length+ops.length/\A <+: (qb8 w r h ops A P).1/\∀(i:Nat) o,ops[i]? = some o->∃c,(qb8 w r h ops A P).1[A.length+i]? = some c/\ActOK w r F h o c
 | [],A,P,_,hP,hF=>⟨rfl,List.prefix_refl _,fun i o h=>by simp at h⟩
 | o :: os,A,P,ho,hP,hF=>by
  obtain⟨h1,h2⟩:=qg6 hw hr hg hh (ho o (List.mem_cons_self ..)) hP;have hos : ∀x ∈ os,x ∈ g.ops:=fun x hx=>ho x (List.mem_cons_of_mem _ hx)
  obtain⟨i1,i2,i3⟩:=qdc hw hr hg hh os (A ++ [(actR w r h o P).1]) _ hos h1 hF;have hpre:=(qcr hw hr hg hh os (A ++ [(actR w r h o P).1]) _ hos h1).2;have hone:=actR_at hw hr hg hh (ho o (List.mem_cons_self ..)) hP (hpre.trans hF);show(qb8 w r h os (A ++ [(actR w r h o P).1]) (actR w r h o P).2).1.length=_/\A <+: (qb8 w r h os (A ++ [(actR w r h o P).1]) (actR w r h o P).2).1/\∀(i:Nat) o',(o :: os)[i]? = some o'->∃c,(qb8 w r h os (A ++ [(actR w r h o P).1]) (actR w r h o P).2).1[A.length+i]? = some c/\ActOK w r F h o' c
  refine⟨by rw [i1];simp;omega,(List.prefix_append _ _).trans i2,fun i o' hi=>?_⟩;cases i with
  | zero=>
   have:o=o':=by simpa using hi
   subst this;exact⟨_,qbm i2 (by simp),hone⟩
  | succ i=>
   obtain⟨c,hc,hok⟩:=i3 i o' (by simpa using hi);refine⟨c,?_,hok⟩;rw [List.length_append,List.length_singleton,show A.length+1+i=A.length+(i+1)by omega]at hc;exact hc
structure Res (w r:PPlan) (F:List (Int × Int)) (n:Nat) (x:PAdapt):Prop where
 ex : ∃(g h:PProg),F[n]? = some (x.w,x.r)/\(0<=x.w/\x.w<w.progs.length)/\(0<=x.r/\x.r<r.progs.length)/\w.progs[x.w.toNat]? = some g/\r.progs[x.r.toNat]? = some h/\x.acts.length=g.ops.length/\(∀(i:Nat) o,g.ops[i]? = some o->∃c,x.acts[i]? = some c/\ActOK w r F h o c)/\x.lacks=qcf g h
theorem from_ok {w r:PPlan} (hw:Valid w) (hr:Valid r) {a b:Int} (h1:0<=a/\a<w.progs.length) (h2:0<=b/\b<r.progs.length) :
  ∃F,F.length=(fromR w r a b).length/\F[0]? = some (a,b)/\qao w r F/\∀(n:Nat) x,(fromR w r a b)[n]? = some x->Res w r F n x:=by
 have hA:=qb7 hw;have hB:=qb7 hr;obtain⟨i1,i2,i3,i4⟩:=runR_ok hA hB (most w r) 0 [(a,b)] (qgf h1 h2) (Nat.zero_le _) (by omega);refine⟨_,by unfold fromR;omega,qbm i2 rfl,i1,fun n x hx=>?_⟩;obtain⟨g,h,P,e1,e2,e3,e4,e5,e6,e7⟩:=(i4 n x hx).ex;rw [Nat.zero_add]at e1;have hgm:=List.mem_of_getElem? e2;have hhm:=List.mem_of_getElem? e3;obtain⟨j1,_,j3⟩:=qdc hA hB hgm hhm g.ops [] P (fun _ h=>h) e7 e6;obtain⟨r1,r2⟩:=i1.2 _ (List.mem_of_getElem? e1);refine⟨g,h,e1,r1,r2,e2,e3,by rw [e4,j1];simp,fun i o ho=>?_,e5⟩;obtain⟨c,hc,hok⟩:=j3 i o ho;rw [e4];refine⟨c,?_,hok⟩;rwa [List.length_nil,Nat.zero_add]at hc
theorem from_pos {w r:PPlan} (hw:Valid w) (hr:Valid r) {a b:Int} (h1:0<=a/\a<w.progs.length) (h2:0<=b/\b<r.progs.length) : ∃x,(fromR w r a b)[0]? = some x/\x.w=a/\x.r=b/\0<(fromR w r a b).length:=by
 obtain⟨F,hl,h0,_,hres⟩:=from_ok hw hr h1 h2;have hpos:0<(fromR w r a b).length:=by rw [←hl];exact(List.getElem?_eq_some_iff.1 h0).1
 obtain⟨x,hx⟩ : ∃x,(fromR w r a b)[0]? = some x:=⟨_,List.getElem?_eq_getElem hpos⟩;obtain⟨_,_,e1,_⟩:=(hres 0 x hx).ex;rw [h0]at e1;have e2:=Option.some.inj e1;exact⟨x,hx,(congrArg Prod.fst e2).symm,(congrArg Prod.snd e2).symm,hpos⟩
end Go.Proofs.YtgpjhibdongmbaaGreatDoor.Rs
