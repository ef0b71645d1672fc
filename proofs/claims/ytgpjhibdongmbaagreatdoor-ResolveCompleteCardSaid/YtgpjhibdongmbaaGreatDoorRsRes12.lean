import Derived.Test.YtgpjhibdongmbaaGreatDoorRsRes11
import Derived.Test.YtgpjhibdongmbaaGreatDoorRsEnd
set_option maxRecDepth 100000
set_option maxHeartbeats 4000000
set_option linter.unusedVariables false
set_option linter.unusedSimpArgs false
namespace Go.Proofs.YtgpjhibdongmbaaGreatDoor
open Go.RowKit Ck Rs
theorem rC103 {a:Act} {ρ:Operand->Value} (h : ∀x,ρ x=a.eval x):(∀c,ρ (.const c)=c)/\∀f,ρ (.func f)=.func (.func f) #[] #[]:=⟨fun c=>h (.const c),fun f=>h (.func f)⟩
theorem qga (w r:PPlan) (p1 p2 p3 p4:Option Addr) (c1 c2 c3 c4:Nat) (v:Value) (l:List PAdapt) (W:World) (hG:Pl w r p1 p2 p3 p4 c1 c2 c3 c4 W) (hd:Gd w r) (hM:ML W) (hT:Tab W) (hv:Sv 4 VAdapt W v l) :
  Calls Tryz.prog 21 #[.agg #[.slice p1 w.progs.length c1,.slice p2 w.enums.length c2],.agg #[.slice p3 r.progs.length c3,.slice p4 r.enums.length c4],v] W fun e' w'=>e'=.returned (.int .i64 (qg1 w r l))/\Bel W w':=by
 have hS0:=((ST.start W).addbox #[.slice p1 w.progs.length c1,.slice p2 w.enums.length c2] 25).addbox #[.slice p3 r.progs.length c3,.slice p4 r.enums.length c4] 25;simp only [World.size_alloc]at hS0;have HS:=Lib.hid hS0;have C3:=Lib.hid (fun WW (T:ST W [] [⟨W.heap.size+1,#[.slice p3 r.progs.length c3,.slice p4 r.enums.length c4],25⟩,⟨W.heap.size,#[.slice p1 w.progs.length c1,.slice p2 w.enums.length c2],25⟩] WW)=>qjh w r p1 p2 p3 p4 c1 c2 c3 c4 WW ⟨hG.g0.bel VProg.stays T.bel,hG.g1.bel VEnum.stays T.bel,hG.g2.bel VProg.stays T.bel,hG.g3.bel VEnum.stays T.bel⟩ hd (hM.below T.bel));have C4:=Lib.hid (fun WW (T:ST W [] [⟨W.heap.size+1,#[.slice p3 r.progs.length c3,.slice p4 r.enums.length c4],25⟩,⟨W.heap.size,#[.slice p1 w.progs.length c1,.slice p2 w.enums.length c2],25⟩] WW) (a b:Int) (ha:0<=a/\a<w.progs.length) (hb:0<=b/\b<r.progs.length)=>rs_from w r p1 p2 p3 p4 c1 c2 c3 c4 a b WW ⟨hG.g0.bel VProg.stays T.bel,hG.g1.bel VEnum.stays T.bel,hG.g2.bel VProg.stays T.bel,hG.g3.bel VEnum.stays T.bel⟩ (hT.below T.bel) (qb7 hd.vw) (qb7 hd.vr) ha hb hd.few);have HL:=Lib.hid hv;obtain⟨lq,lc,rfl,hl,hcap,hel⟩:=hv;have EL:=Lib.hid hel;clear hS0 hel;cases hll:l with
 | nil=>
  have V:=Lib.hid (show qg1 w r ([]:List PAdapt)=10 from rfl);generalize qg1 w r ([]:List PAdapt)=R at V;subst hll;clear C3 C4 HL EL hG hd hM hT
  go_enter Tryz.func21,Tryz.ntmps21
  go_wp2;go_ret
  exact⟨by rw [V.out];rfl,HS.out.bel⟩
 | cons x t=>
  have hx0:l[0]? = some x:=by rw [hll];rfl
  have hpos:0<l.length:=by rw [hll];simp
  have hce:qg1 w r l=if l.all (inR w r)=false then 6 else if nameR w x.w ≠ nameR r x.r ∨ l ≠ fromR w r x.w x.r then 5 else 0:=by rw [hll];rfl
  rw [←hll];obtain⟨RR,hRR⟩ : ∃R,R=qg1 w r l:=⟨_,rfl⟩;rw [←hRR];rw [←hRR]at hce;obtain⟨Q,hQ⟩ : ∃Q,Q=l.all (inR w r):=⟨_,rfl⟩;have V:=Lib.hid (show(l.drop 0).all (inR w r)=Q from hQ.symm);rw [←hQ]at hce;have HRES:=Lib.hid (show Q=false->RR=6 from fun h=>by rw [hce,if_pos h]);have HRES1:=Lib.hid (show Q=true->RR=if nameR w x.w ≠ nameR r x.r ∨ l ≠ fromR w r x.w x.r then 5 else 0 from fun h=>by rw [hce,if_neg (by rw [h];decide)]);have HIN:=Lib.hid (show Q=true->inR w r x=true from fun h=>by rw [hQ,List.all_eq_true]at h;exact h x (List.mem_of_getElem? hx0));have HX0:=Lib.hid hx0;have z0:((l.length:Int) == 0)=false:=by rw [beq_eq_false_iff_ne];omega
  have HPOS:=Lib.hid hpos;clear hll hx0 hce hRR hQ hpos;have HGG:=Lib.hid hG;clear hG hd hM hT
  go_enter Tryz.func21,Tryz.ntmps21
  go_wp2
  go_loopw [14] (fun i wr => ∃k:Nat,k<=l.length/\i=.int .i64 k/\Hid (ST W [] [⟨W.heap.size+1,#[.slice p3 r.progs.length c3,.slice p4 r.enums.length c4],25⟩,⟨W.heap.size,#[.slice p1 w.progs.length c1,.slice p2 w.enums.length c2],25⟩] wr)/\Hid ((l.drop k).all (inR w r)=Q)) (fun i _=>l.length-(intOf i).toNat)
  case atStart=>exact⟨0,by omega,rfl,HS,V⟩
  case round=>as_aux_lemma=>
   clear HS V;obtain⟨k,hk,rfl,hS,hx⟩:=hrel;by_cases hlt:k<l.length
   ·have hki:(k:Int)<(l.length:Int):=by omega
    obtain⟨lb,loff,rfl,_,vs,hce,hvs⟩:=EL.out k _ (List.getElem?_eq_getElem hlt);have hst:=hx.out;rw [List.drop_eq_getElem_cons hlt,List.all_cons]at hst;clear hx EL HX0 HIN HRES1;generalize l[k]=x at *;obtain⟨xa,xl,xb,xm,rfl,_,_,_,_⟩:=hvs.form;have e0:=hS.out.bel.some (hce 0 _ rfl);have e1:=hS.out.bel.some (hce 1 _ rfl);have e2:=hS.out.bel.some (hce 2 _ rfl);have e3:=hS.out.bel.some (hce 3 _ rfl);rw [Nat.add_zero]at e0;have HX:=Lib.hid (hS.out.addbox #[.int .i64 x.w,.int .i64 x.r,.slice xa x.acts.length xb,.slice xl x.lacks.length xm] 44);have t0:=hS.out.cell 1 rfl 0;have t4:=hS.out.cell 0 rfl 0;have s0:=(hS.out.boxlt 1 rfl).2;have s1:=(hS.out.boxlt 0 rfl).2;dsimp only at t0 t4 s0 s1;clear hce hvs;by_cases h1:x.w<0
    ·have HST:=Lib.hid (show Q=false by rw [←hst,show inR w r x=false from decide_eq_false (fun h=>by omega)];rfl)
     have HE:=Lib.hid (HRES.out HST.out);clear hst;go_wp2;go_ret;exact⟨by rw [HE.out];rfl,HX.out.bel⟩
    ·by_cases h2:(w.progs.length:Int)<=x.w
     ·have HST:=Lib.hid (show Q=false by rw [←hst,show inR w r x=false from decide_eq_false (fun h=>by omega)];rfl)
      have HE:=Lib.hid (HRES.out HST.out);clear hst;go_wp2;go_ret;exact⟨by rw [HE.out];rfl,HX.out.bel⟩
     ·by_cases h3:x.r<0
      ·have HST:=Lib.hid (show Q=false by rw [←hst,show inR w r x=false from decide_eq_false (fun h=>by omega)];rfl)
       have HE:=Lib.hid (HRES.out HST.out);clear hst;go_wp2;go_ret;exact⟨by rw [HE.out];rfl,HX.out.bel⟩
      ·by_cases h4:(r.progs.length:Int)<=x.r
       ·have HST:=Lib.hid (show Q=false by rw [←hst,show inR w r x=false from decide_eq_false (fun h=>by omega)];rfl)
        have HE:=Lib.hid (HRES.out HST.out);clear hst;go_wp2;go_ret;exact⟨by rw [HE.out];rfl,HX.out.bel⟩
       ·have HST:=Lib.hid (show(l.drop (k+1)).all (inR w r)=Q by rw [←hst,show inR w r x=true from decide_eq_true (by omega),Bool.true_and])
        clear hst;go_wp2;go_roundw
        case rel=>exact⟨k+1,by omega,by go_num,Lib.hid HX.out.dropbox0,HST⟩
        case measure=>simp [intOf];omega
   ·have hki : ¬(k:Int)<(l.length:Int):=by omega
    have hQ:Q=true:=by rw [←hx.out,List.drop_eq_nil_of_le (by omega)];rfl
    have hin:=of_decide_eq_true (HIN.out hQ);have HR0:=HRES1.out hQ;clear hx HRES HRES1 HIN;obtain⟨lb,loff,rfl,_,vs,hce,hvs⟩:=EL.out 0 _ HX0.out;obtain⟨xa,xl,xb,xm,rfl,_,_,_,_⟩:=hvs.form;obtain⟨g,hg,hgn⟩:=qdm ⟨hin.1,hin.2.1⟩;obtain⟨h,hh,hhn⟩:=qdm ⟨hin.2.2.1,hin.2.2.2⟩;obtain⟨_,_,he1,_,_,hel1⟩:=HGG.out.g0;obtain⟨_,_,he3,_,_,hel3⟩:=HGG.out.g2;cases he1;cases he3;obtain⟨na,hna⟩ : ∃n:Nat,x.w=(n:Int):=⟨x.w.toNat,by omega⟩;obtain⟨nb,hnb⟩ : ∃n:Nat,x.r=(n:Int):=⟨x.r.toNat,by omega⟩;rw [hna,Int.toNat_natCast]at hg;rw [hnb,Int.toNat_natCast]at hh;obtain⟨gb,goff,rfl,_,vg,hcg,hvg⟩:=hel1 na g hg;obtain⟨hb',hoff,rfl,_,vh,hch,hvh⟩:=hel3 nb h hh;obtain⟨gq,gc,rfl,_,_⟩:=hvg.form;obtain⟨hq,hc,rfl,_,_⟩:=hvh.form;rw [hgn,hhn]at HR0;have C4':=Lib.hid (fun WW T=>C4.out WW T x.w x.r ⟨hin.1,hin.2.1⟩ ⟨hin.2.2.1,hin.2.2.2⟩);unfold qfc at C4';have C4:=C4';have HCE:=Lib.hid hce;have HCG:=Lib.hid hcg;have HCH:=Lib.hid hch;have hl1:(0:Int)<(l.length:Int):=by have:=HPOS.out;omega
    have n1:(na:Int)<(w.progs.length:Int):=by omega
    have n2:(nb:Int)<(r.progs.length:Int):=by omega
    have n3:(0:Int)<=(na:Int):=by omega
    have n4:(0:Int)<=(nb:Int):=by omega
    have HNN:=Lib.hid (show l ≠ []from fun h=>by have:=HPOS.out;rw [h]at this;exact absurd this (by decide));have NW1:=Lib.hid (show na<w.progs.length by omega);have NW2:=Lib.hid (show nb<r.progs.length by omega);have HNA:=Lib.hid hna;have HNB:=Lib.hid hnb;clear hce hcg hch hvs hvg hvh hg hh hel1 hel3 hgn hhn EL HX0 HGG C4' hin hna hnb
    go_upto_region 9 with(fail)
    obtain⟨wd,hwd⟩ : ∃wd,wd=wr.drew:=⟨_,rfl⟩;have T:=hS.out.belw ((Bel.refl _).drew);rw [←hwd]at T;have T:=Lib.hid T;have HWD:=Lib.hid hwd;clear hwd hS;have KS:=Lib.hid (fun WW (T:ST W [] [⟨W.heap.size+1,#[.slice (some ⟨hb',hoff,none⟩) r.progs.length c3,.slice p4 r.enums.length c4],25⟩,⟨W.heap.size,#[.slice (some ⟨gb,goff,none⟩) w.progs.length c1,.slice p2 w.enums.length c2],25⟩] WW)=>show WW.cell? ⟨W.heap.size,0,none⟩=some (.slice (some ⟨gb,goff,none⟩) w.progs.length c1)/\WW.cell? ⟨W.heap.size,1,none⟩=some (.slice p2 w.enums.length c2)/\WW.cell? ⟨W.heap.size+1,0,none⟩=some (.slice (some ⟨hb',hoff,none⟩) r.progs.length c3)/\WW.cell? ⟨W.heap.size+1,1,none⟩=some (.slice p4 r.enums.length c4)/\WW.cell? ⟨lb,loff,none⟩=some (.int .i64 (na:Int))/\WW.cell? ⟨lb,loff+1,none⟩=some (.int .i64 (nb:Int))/\WW.cell? ⟨gb,goff+na*3,none⟩=some (.string (S g.name))/\WW.cell? ⟨hb',hoff+nb*3,none⟩=some (.string (S h.name))from⟨T.cell 1 rfl 0,T.cell 1 rfl 1,T.cell 0 rfl 0,T.cell 0 rfl 1,by have:=T.bel.some (HCE.out 0 _ rfl);rw [HNA.out]at this;simpa using this,by have:=T.bel.some (HCE.out 1 _ rfl);rw [HNB.out]at this;simpa using this,by have:=T.bel.some (HCG.out 0 _ rfl);simpa using this,by have:=T.bel.some (HCH.out 0 _ rfl);simpa using this⟩);by_cases hnm:g.name=h.name
    ·have hne:((S g.name).toList != (S h.name).toList)=false:=by rw [hnm];simp
     have hnp:(S g.name).toList=(S h.name).toList:=by rw [hnm]
     have HRES2:=Lib.hid (show(l ≠ fromR w r x.w x.r->RR=5)/\(l=fromR w r x.w x.r->RR=0)from⟨fun h=>by rw [HR0,if_pos (.inr h)],fun h=>by rw [HR0,if_neg (by intro hh;exact hh.elim (fun h'=>h' hnm) (fun h'=>h' h))]⟩);clear HR0 hnm;rw [HNA.out,HNB.out]at C4 HRES2;refine qag (fun WW=>ST W [] [⟨W.heap.size+1,#[.slice (some ⟨hb',hoff,none⟩) r.progs.length c3,.slice p4 r.enums.length c4],25⟩,⟨W.heap.size,#[.slice (some ⟨gb,goff,none⟩) w.progs.length c1,.slice p2 w.enums.length c2],25⟩] WW) (.take 0 (.take 1 (.take 2 (.take 3 (.take 4 (.take 5 (.take 6 (.take 7 (.take 8 (.take 9 (.take 10 (.take 11 (.take 12 (.take 13 (.take 14 (.take 15 (.take 16 (.take 17 (.take 18 (.take 19 (.take 20 (.take 21 (.alt 22 (.take 23 (.take 24 (.take 25 (.take 26 (.take 27 (.take 28 (.take 29 (.take 30 (.take 31 (.take 32 (.take 33 (.take 34 (.take 35 (.take 36 (.alt 37 .done .no))))))))))))))) .no))))))))))))))))))))))) 38 (by kernel_rfl) (by kernel_rfl) HWD.out T.out (fun a ha=>?_)
     (simp only [pickT,List.getD_cons_zero,List.getD_cons_succ])
     have hsz:a.tmps.size=84:=(by rw [ha];kernel_rfl);have a3:a.eval (.tmp 3)=.pointer (some ⟨W.heap.size,0,none⟩):=(by rw [ha];kernel_rfl);have a4:a.eval (.tmp 4)=.pointer (some ⟨W.heap.size+1,0,none⟩):=(by rw [ha];kernel_rfl);have a2:a.eval (.tmp 2)=.slice (some ⟨lb,loff,none⟩) l.length lc:=(by rw [ha];kernel_rfl)
     (with_reducible refine qa1 (v:=?_) rfl (by with_unfolding_all rfl) (fun ρ hρ W hW=>?_) ?_);(rotate_left 1)
     focus(clear hW;have p3:=hρ (.tmp 3);(simp +decide only [qa2,hsz,ev_eq,ev_ne,a3,a4,a2]at p3);obtain⟨hc,hfn⟩:=rC103 hρ;clear hρ;go_simp;(all_goals with_reducible first|rfl|(constructor <;> rfl)))
     (with_reducible refine qa1 (v:=?_) rfl (by with_unfolding_all rfl) (fun ρ hρ W hW=>?_) ?_);(rotate_left 1)
     focus(have hS:=KS.out _ hW;clear hW;have p43:=hρ (.tmp 43);(simp +decide only [qa2,hsz,ev_eq,ev_ne,a3,a4,a2]at p43);obtain⟨hc,hfn⟩:=rC103 hρ;clear hρ;go_simp;(all_goals with_reducible first|rfl|(constructor <;> rfl)))
     (with_reducible refine qa1 (v:=?_) rfl (by with_unfolding_all rfl) (fun ρ hρ W hW=>?_) ?_);(rotate_left 1)
     focus(clear hW;have p2:=hρ (.tmp 2);(simp +decide only [qa2,hsz,ev_eq,ev_ne,a3,a4,a2]at p2);obtain⟨hc,hfn⟩:=rC103 hρ;clear hρ;go_simp;(all_goals with_reducible first|rfl|(constructor <;> rfl)))
     (with_reducible refine qa1 (v:=.pointer (some ⟨lb,loff,none⟩)) rfl (by with_unfolding_all rfl) (fun ρ hρ W hW=>?_) ?_);skip
     focus(clear hW;have p45:=hρ (.tmp 45);(simp +decide only [qa2,hsz,ev_eq,ev_ne,a3,a4,a2]at p45);obtain⟨hc,hfn⟩:=rC103 hρ;clear hρ;go_simp;(first|done|(all_goals with_reducible first|rfl|(constructor <;> rfl))|(simp only [hne,hnp,HPOS.out,HNN.out,NW1.out,NW2.out];done)|(simp [hne,hnp,HPOS.out,HNN.out,NW1.out,NW2.out];done)|((try simp only [hne,hnp,HPOS.out,HNN.out,NW1.out,NW2.out]);done)))
     (with_reducible refine qa1 (v:=?_) rfl (by with_unfolding_all rfl) (fun ρ hρ W hW=>?_) ?_);(rotate_left 1)
     focus(clear hW;have p46:=hρ (.tmp 46);(simp +decide only [qa2,hsz,ev_eq,ev_ne,a3,a4,a2]at p46);obtain⟨hc,hfn⟩:=rC103 hρ;clear hρ;go_simp;(all_goals with_reducible first|rfl|(constructor <;> rfl)))
     (with_reducible refine qa1 (v:=?_) rfl (by with_unfolding_all rfl) (fun ρ hρ W hW=>?_) ?_);(rotate_left 1)
     focus(have hS:=KS.out _ hW;clear hW;have p47:=hρ (.tmp 47);(simp +decide only [qa2,hsz,ev_eq,ev_ne,a3,a4,a2]at p47);obtain⟨hc,hfn⟩:=rC103 hρ;clear hρ;go_simp;(all_goals with_reducible first|rfl|(constructor <;> rfl)))
     (with_reducible refine qa1 (v:=.pointer (some ⟨gb,goff+na*3,none⟩)) rfl (by with_unfolding_all rfl) (fun ρ hρ W hW=>?_) ?_);skip
     focus(clear hW;have p44:=hρ (.tmp 44);have p48:=hρ (.tmp 48);(simp +decide only [qa2,hsz,ev_eq,ev_ne,a3,a4,a2]at p44 p48);obtain⟨hc,hfn⟩:=rC103 hρ;clear hρ;go_simp;(first|done|(all_goals with_reducible first|rfl|(constructor <;> rfl))|(simp only [hne,hnp,HPOS.out,HNN.out,NW1.out,NW2.out];done)|(simp [hne,hnp,HPOS.out,HNN.out,NW1.out,NW2.out];done)|((try simp only [hne,hnp,HPOS.out,HNN.out,NW1.out,NW2.out]);done)))
     (with_reducible refine qa1 (v:=?_) rfl (by with_unfolding_all rfl) (fun ρ hρ W hW=>?_) ?_);(rotate_left 1)
     focus(clear hW;have p49:=hρ (.tmp 49);(simp +decide only [qa2,hsz,ev_eq,ev_ne,a3,a4,a2]at p49);obtain⟨hc,hfn⟩:=rC103 hρ;clear hρ;go_simp;(all_goals with_reducible first|rfl|(constructor <;> rfl)))
     (with_reducible refine qa1 (v:=?_) rfl (by with_unfolding_all rfl) (fun ρ hρ W hW=>?_) ?_);(rotate_left 1)
     focus(have hS:=KS.out _ hW;clear hW;have p50:=hρ (.tmp 50);(simp +decide only [qa2,hsz,ev_eq,ev_ne,a3,a4,a2]at p50);obtain⟨hc,hfn⟩:=rC103 hρ;clear hρ;go_simp;(all_goals with_reducible first|rfl|(constructor <;> rfl)))
     (with_reducible refine qa1 (v:=?_) rfl (by with_unfolding_all rfl) (fun ρ hρ W hW=>?_) ?_);(rotate_left 1)
     focus(clear hW;have p4:=hρ (.tmp 4);(simp +decide only [qa2,hsz,ev_eq,ev_ne,a3,a4,a2]at p4);obtain⟨hc,hfn⟩:=rC103 hρ;clear hρ;go_simp;(all_goals with_reducible first|rfl|(constructor <;> rfl)))
     (with_reducible refine qa1 (v:=?_) rfl (by with_unfolding_all rfl) (fun ρ hρ W hW=>?_) ?_);(rotate_left 1)
     focus(have hS:=KS.out _ hW;clear hW;have p52:=hρ (.tmp 52);(simp +decide only [qa2,hsz,ev_eq,ev_ne,a3,a4,a2]at p52);obtain⟨hc,hfn⟩:=rC103 hρ;clear hρ;go_simp;(all_goals with_reducible first|rfl|(constructor <;> rfl)))
     (with_reducible refine qa1 (v:=?_) rfl (by with_unfolding_all rfl) (fun ρ hρ W hW=>?_) ?_);(rotate_left 1)
     focus(clear hW;have p2:=hρ (.tmp 2);(simp +decide only [qa2,hsz,ev_eq,ev_ne,a3,a4,a2]at p2);obtain⟨hc,hfn⟩:=rC103 hρ;clear hρ;go_simp;(all_goals with_reducible first|rfl|(constructor <;> rfl)))
     (with_reducible refine qa1 (v:=.pointer (some ⟨lb,loff,none⟩)) rfl (by with_unfolding_all rfl) (fun ρ hρ W hW=>?_) ?_);skip
     focus(clear hW;have p54:=hρ (.tmp 54);(simp +decide only [qa2,hsz,ev_eq,ev_ne,a3,a4,a2]at p54);obtain⟨hc,hfn⟩:=rC103 hρ;clear hρ;go_simp;(first|done|(all_goals with_reducible first|rfl|(constructor <;> rfl))|(simp only [hne,hnp,HPOS.out,HNN.out,NW1.out,NW2.out];done)|(simp [hne,hnp,HPOS.out,HNN.out,NW1.out,NW2.out];done)|((try simp only [hne,hnp,HPOS.out,HNN.out,NW1.out,NW2.out]);done)))
     (with_reducible refine qa1 (v:=?_) rfl (by with_unfolding_all rfl) (fun ρ hρ W hW=>?_) ?_);(rotate_left 1)
     focus(clear hW;have p55:=hρ (.tmp 55);(simp +decide only [qa2,hsz,ev_eq,ev_ne,a3,a4,a2]at p55);obtain⟨hc,hfn⟩:=rC103 hρ;clear hρ;go_simp;(all_goals with_reducible first|rfl|(constructor <;> rfl)))
     (with_reducible refine qa1 (v:=?_) rfl (by with_unfolding_all rfl) (fun ρ hρ W hW=>?_) ?_);(rotate_left 1)
     focus(have hS:=KS.out _ hW;clear hW;have p56:=hρ (.tmp 56);(simp +decide only [qa2,hsz,ev_eq,ev_ne,a3,a4,a2]at p56);obtain⟨hc,hfn⟩:=rC103 hρ;clear hρ;go_simp;(all_goals with_reducible first|rfl|(constructor <;> rfl)))
     (with_reducible refine qa1 (v:=.pointer (some ⟨hb',hoff+nb*3,none⟩)) rfl (by with_unfolding_all rfl) (fun ρ hρ W hW=>?_) ?_);skip
     focus(clear hW;have p53:=hρ (.tmp 53);have p57:=hρ (.tmp 57);(simp +decide only [qa2,hsz,ev_eq,ev_ne,a3,a4,a2]at p53 p57);obtain⟨hc,hfn⟩:=rC103 hρ;clear hρ;go_simp;(first|done|(all_goals with_reducible first|rfl|(constructor <;> rfl))|(simp only [hne,hnp,HPOS.out,HNN.out,NW1.out,NW2.out];done)|(simp [hne,hnp,HPOS.out,HNN.out,NW1.out,NW2.out];done)|((try simp only [hne,hnp,HPOS.out,HNN.out,NW1.out,NW2.out]);done)))
     (with_reducible refine qa1 (v:=?_) rfl (by with_unfolding_all rfl) (fun ρ hρ W hW=>?_) ?_);(rotate_left 1)
     focus(clear hW;have p58:=hρ (.tmp 58);(simp +decide only [qa2,hsz,ev_eq,ev_ne,a3,a4,a2]at p58);obtain⟨hc,hfn⟩:=rC103 hρ;clear hρ;go_simp;(all_goals with_reducible first|rfl|(constructor <;> rfl)))
     (with_reducible refine qa1 (v:=?_) rfl (by with_unfolding_all rfl) (fun ρ hρ W hW=>?_) ?_);(rotate_left 1)
     focus(have hS:=KS.out _ hW;clear hW;have p59:=hρ (.tmp 59);(simp +decide only [qa2,hsz,ev_eq,ev_ne,a3,a4,a2]at p59);obtain⟨hc,hfn⟩:=rC103 hρ;clear hρ;go_simp;(all_goals with_reducible first|rfl|(constructor <;> rfl)))
     (with_reducible refine qa1 (v:=.bool false) rfl (by with_unfolding_all rfl) (fun ρ hρ W hW=>?_) ?_);skip
     focus(clear hW;have p51:=hρ (.tmp 51);have p60:=hρ (.tmp 60);(simp +decide only [qa2,hsz,ev_eq,ev_ne,a3,a4,a2]at p51 p60);obtain⟨hc,hfn⟩:=rC103 hρ;clear hρ;go_simp;(first|done|(all_goals with_reducible first|rfl|(constructor <;> rfl))|(simp only [hne,hnp,HPOS.out,HNN.out,NW1.out,NW2.out];done)|(simp [hne,hnp,HPOS.out,HNN.out,NW1.out,NW2.out];done)|((try simp only [hne,hnp,HPOS.out,HNN.out,NW1.out,NW2.out]);done)))
     (with_reducible refine qa1 (v:=.bool false) rfl (by with_unfolding_all rfl) (fun ρ hρ W hW=>?_) ?_);skip
     focus(clear hW;have p61:=hρ (.tmp 61);(simp +decide only [qa2,hsz,ev_eq,ev_ne,a3,a4,a2]at p61);obtain⟨hc,hfn⟩:=rC103 hρ;clear hρ;go_simp;(first|done|(all_goals with_reducible first|rfl|(constructor <;> rfl))|(simp only [hne,hnp,HPOS.out,HNN.out,NW1.out,NW2.out];done)|(simp [hne,hnp,HPOS.out,HNN.out,NW1.out,NW2.out];done)|((try simp only [hne,hnp,HPOS.out,HNN.out,NW1.out,NW2.out]);done)))
     (with_reducible refine qa9 (v:=?_) (t:=62) rfl rfl (by with_unfolding_all rfl) ?_ (fun ρ hρ W hW=>?_) ?_);(rotate_left 1)
     focus(simp +decide only [qa2,hsz,ev_eq,ev_ne,a3,a4,a2])
     focus(have hS:=KS.out _ hW;clear hW;have p3:=hρ (.tmp 3);(simp +decide only [qa2,hsz,ev_eq,ev_ne,a3,a4,a2]at p3);obtain⟨hc,hfn⟩:=rC103 hρ;clear hρ;go_simp;(all_goals with_reducible first|rfl|(constructor <;> rfl)))
     (with_reducible refine qa9 (v:=?_) (t:=62) rfl rfl (by with_unfolding_all rfl) ?_ (fun ρ hρ W hW=>?_) ?_);(rotate_left 1)
     focus(simp +decide only [qa2,hsz,ev_eq,ev_ne,a3,a4,a2])
     focus(have hS:=KS.out _ hW;clear hW;have p4:=hρ (.tmp 4);(simp +decide only [qa2,hsz,ev_eq,ev_ne,a3,a4,a2]at p4);obtain⟨hc,hfn⟩:=rC103 hρ;clear hρ;go_simp;(all_goals with_reducible first|rfl|(constructor <;> rfl)))
     (with_reducible refine qbu (f:=?_) (args:=?_) (t:=62) rfl rfl (by with_unfolding_all rfl) ?_ (fun ρ hρ=>?_) ?_ ?_);(rotate_left 2)
     focus(simp +decide only [qa2,hsz,ev_eq,ev_ne,a3,a4,a2])
     focus(have p63:=hρ (.tmp 63);have p64:=hρ (.tmp 64);(simp +decide only [qa2,hsz,ev_eq,ev_ne,a3,a4,a2]at p63 p64);obtain⟨hc,hfn⟩:=rC103 hρ;clear hρ;rw [qad (hfn _)];clear hfn;go_simp;(all_goals with_reducible first|rfl|(constructor <;> rfl)))
     with_reducible refine(C3.out _ T.out).mono ?_
     rintro e' w5 ⟨rfl,g5⟩;have g5:Bel wd w5:=g5;have T:=Lib.hid (T.out.belw g5);clear g5;refine⟨_,rfl,T.out,?_⟩;rotate_left 1
     focus exact qak
     (with_reducible refine qa9 (v:=?_) (t:=62) rfl rfl (by with_unfolding_all rfl) ?_ (fun ρ hρ W hW=>?_) ?_);(rotate_left 1)
     focus(simp +decide only [qa2,hsz,ev_eq,ev_ne,a3,a4,a2])
     focus(clear hW;have p65:=hρ (.tmp 65);(simp +decide only [qa2,hsz,ev_eq,ev_ne,a3,a4,a2]at p65);obtain⟨hc,hfn⟩:=rC103 hρ;clear hρ;go_simp;(all_goals with_reducible first|rfl|(constructor <;> rfl)))
     (with_reducible refine qa1 (v:=?_) rfl (by with_unfolding_all rfl) (fun ρ hρ W hW=>?_) ?_);(rotate_left 1)
     focus(clear hW;have p62:=hρ (.tmp 62);have p66:=hρ (.tmp 66);(simp +decide only [qa2,hsz,ev_eq,ev_ne,a3,a4,a2]at p62 p66);obtain⟨hc,hfn⟩:=rC103 hρ;clear hρ;go_simp;(all_goals with_reducible first|rfl|(constructor <;> rfl)))
     (with_reducible refine qa1 (v:=.bool false) rfl (by with_unfolding_all rfl) (fun ρ hρ W hW=>?_) ?_);skip
     focus(clear hW;have p67:=hρ (.tmp 67);(simp +decide only [qa2,hsz,ev_eq,ev_ne,a3,a4,a2]at p67);obtain⟨hc,hfn⟩:=rC103 hρ;clear hρ;go_simp;(first|done|(all_goals with_reducible first|rfl|(constructor <;> rfl))|(simp only [hne,hnp,HPOS.out,HNN.out,NW1.out,NW2.out];done)|(simp [hne,hnp,HPOS.out,HNN.out,NW1.out,NW2.out];done)|((try simp only [hne,hnp,HPOS.out,HNN.out,NW1.out,NW2.out]);done)))
     (with_reducible refine qa9 (v:=?_) (t:=68) rfl rfl (by with_unfolding_all rfl) ?_ (fun ρ hρ W hW=>?_) ?_);(rotate_left 1)
     focus(simp +decide only [qa2,hsz,ev_eq,ev_ne,a3,a4,a2])
     focus(clear hW;have p2:=hρ (.tmp 2);(simp +decide only [qa2,hsz,ev_eq,ev_ne,a3,a4,a2]at p2);obtain⟨hc,hfn⟩:=rC103 hρ;clear hρ;go_simp;(all_goals with_reducible first|rfl|(constructor <;> rfl)))
     (with_reducible refine qa9 (v:=?_) (t:=68) rfl rfl (by with_unfolding_all rfl) ?_ (fun ρ hρ W hW=>?_) ?_);(rotate_left 1)
     focus(simp +decide only [qa2,hsz,ev_eq,ev_ne,a3,a4,a2])
     focus(have hS:=KS.out _ hW;clear hW;have p3:=hρ (.tmp 3);(simp +decide only [qa2,hsz,ev_eq,ev_ne,a3,a4,a2]at p3);obtain⟨hc,hfn⟩:=rC103 hρ;clear hρ;go_simp;(all_goals with_reducible first|rfl|(constructor <;> rfl)))
     (with_reducible refine qa9 (v:=?_) (t:=68) rfl rfl (by with_unfolding_all rfl) ?_ (fun ρ hρ W hW=>?_) ?_);(rotate_left 1)
     focus(simp +decide only [qa2,hsz,ev_eq,ev_ne,a3,a4,a2])
     focus(have hS:=KS.out _ hW;clear hW;have p4:=hρ (.tmp 4);(simp +decide only [qa2,hsz,ev_eq,ev_ne,a3,a4,a2]at p4);obtain⟨hc,hfn⟩:=rC103 hρ;clear hρ;go_simp;(all_goals with_reducible first|rfl|(constructor <;> rfl)))
     (with_reducible refine qa9 (v:=?_) (t:=68) rfl rfl (by with_unfolding_all rfl) ?_ (fun ρ hρ W hW=>?_) ?_);(rotate_left 1)
     focus(simp +decide only [qa2,hsz,ev_eq,ev_ne,a3,a4,a2])
     focus(clear hW;have p2:=hρ (.tmp 2);(simp +decide only [qa2,hsz,ev_eq,ev_ne,a3,a4,a2]at p2);obtain⟨hc,hfn⟩:=rC103 hρ;clear hρ;go_simp;(all_goals with_reducible first|rfl|(constructor <;> rfl)))
     (with_reducible refine qa9 (v:=.pointer (some ⟨lb,loff,none⟩)) (t:=68) rfl rfl (by with_unfolding_all rfl) ?_ (fun ρ hρ W hW=>?_) ?_);skip
     focus(simp +decide only [qa2,hsz,ev_eq,ev_ne,a3,a4,a2])
     focus(clear hW;have p72:=hρ (.tmp 72);(simp +decide only [qa2,hsz,ev_eq,ev_ne,a3,a4,a2]at p72);obtain⟨hc,hfn⟩:=rC103 hρ;clear hρ;go_simp;(first|done|(all_goals with_reducible first|rfl|(constructor <;> rfl))|(simp only [hne,hnp,HPOS.out,HNN.out,NW1.out,NW2.out];done)|(simp [hne,hnp,HPOS.out,HNN.out,NW1.out,NW2.out];done)|((try simp only [hne,hnp,HPOS.out,HNN.out,NW1.out,NW2.out]);done)))
     (with_reducible refine qa9 (v:=?_) (t:=68) rfl rfl (by with_unfolding_all rfl) ?_ (fun ρ hρ W hW=>?_) ?_);(rotate_left 1)
     focus(simp +decide only [qa2,hsz,ev_eq,ev_ne,a3,a4,a2])
     focus(clear hW;have p73:=hρ (.tmp 73);(simp +decide only [qa2,hsz,ev_eq,ev_ne,a3,a4,a2]at p73);obtain⟨hc,hfn⟩:=rC103 hρ;clear hρ;go_simp;(all_goals with_reducible first|rfl|(constructor <;> rfl)))
     (with_reducible refine qa9 (v:=?_) (t:=68) rfl rfl (by with_unfolding_all rfl) ?_ (fun ρ hρ W hW=>?_) ?_);(rotate_left 1)
     focus(simp +decide only [qa2,hsz,ev_eq,ev_ne,a3,a4,a2])
     focus(have hS:=KS.out _ hW;clear hW;have p74:=hρ (.tmp 74);(simp +decide only [qa2,hsz,ev_eq,ev_ne,a3,a4,a2]at p74);obtain⟨hc,hfn⟩:=rC103 hρ;clear hρ;go_simp;(all_goals with_reducible first|rfl|(constructor <;> rfl)))
     (with_reducible refine qa9 (v:=?_) (t:=68) rfl rfl (by with_unfolding_all rfl) ?_ (fun ρ hρ W hW=>?_) ?_);(rotate_left 1)
     focus(simp +decide only [qa2,hsz,ev_eq,ev_ne,a3,a4,a2])
     focus(clear hW;have p2:=hρ (.tmp 2);(simp +decide only [qa2,hsz,ev_eq,ev_ne,a3,a4,a2]at p2);obtain⟨hc,hfn⟩:=rC103 hρ;clear hρ;go_simp;(all_goals with_reducible first|rfl|(constructor <;> rfl)))
     (with_reducible refine qa9 (v:=.pointer (some ⟨lb,loff,none⟩)) (t:=68) rfl rfl (by with_unfolding_all rfl) ?_ (fun ρ hρ W hW=>?_) ?_);skip
     focus(simp +decide only [qa2,hsz,ev_eq,ev_ne,a3,a4,a2])
     focus(clear hW;have p76:=hρ (.tmp 76);(simp +decide only [qa2,hsz,ev_eq,ev_ne,a3,a4,a2]at p76);obtain⟨hc,hfn⟩:=rC103 hρ;clear hρ;go_simp;(first|done|(all_goals with_reducible first|rfl|(constructor <;> rfl))|(simp only [hne,hnp,HPOS.out,HNN.out,NW1.out,NW2.out];done)|(simp [hne,hnp,HPOS.out,HNN.out,NW1.out,NW2.out];done)|((try simp only [hne,hnp,HPOS.out,HNN.out,NW1.out,NW2.out]);done)))
     (with_reducible refine qa9 (v:=?_) (t:=68) rfl rfl (by with_unfolding_all rfl) ?_ (fun ρ hρ W hW=>?_) ?_);(rotate_left 1)
     focus(simp +decide only [qa2,hsz,ev_eq,ev_ne,a3,a4,a2])
     focus(clear hW;have p77:=hρ (.tmp 77);(simp +decide only [qa2,hsz,ev_eq,ev_ne,a3,a4,a2]at p77);obtain⟨hc,hfn⟩:=rC103 hρ;clear hρ;go_simp;(all_goals with_reducible first|rfl|(constructor <;> rfl)))
     (with_reducible refine qa9 (v:=?_) (t:=68) rfl rfl (by with_unfolding_all rfl) ?_ (fun ρ hρ W hW=>?_) ?_);(rotate_left 1)
     focus(simp +decide only [qa2,hsz,ev_eq,ev_ne,a3,a4,a2])
     focus(have hS:=KS.out _ hW;clear hW;have p78:=hρ (.tmp 78);(simp +decide only [qa2,hsz,ev_eq,ev_ne,a3,a4,a2]at p78);obtain⟨hc,hfn⟩:=rC103 hρ;clear hρ;go_simp;(all_goals with_reducible first|rfl|(constructor <;> rfl)))
     (with_reducible refine qbu (f:=?_) (args:=?_) (t:=68) rfl rfl (by with_unfolding_all rfl) ?_ (fun ρ hρ=>?_) ?_ ?_);(rotate_left 2)
     focus(simp +decide only [qa2,hsz,ev_eq,ev_ne,a3,a4,a2])
     focus(have p70:=hρ (.tmp 70);have p71:=hρ (.tmp 71);(simp +decide only [qa2,hsz,ev_eq,ev_ne,a3,a4,a2]at p70 p71);have p75:=hρ (.tmp 75);have p79:=hρ (.tmp 79);(simp +decide only [qa2,hsz,ev_eq,ev_ne,a3,a4,a2]at p75 p79);obtain⟨hc,hfn⟩:=rC103 hρ;clear hρ;rw [qad (hfn _)];clear hfn;go_simp;(all_goals with_reducible first|rfl|(constructor <;> rfl)))
     with_reducible refine(C4.out _ T.out).mono ?_
     rintro e' w6 ⟨v6,rfl,hv6,g6⟩;have g6:Bel w5 w6:=g6;have T:=Lib.hid (T.out.belw g6);have HV6:=Lib.hid hv6;clear g6 hv6;refine⟨_,rfl,T.out,?_⟩;rotate_left 1
     focus exact qak
     with_reducible refine qan ?_
     (simp only [List.drop_succ_cons,List.drop_zero])
     subst ha
     (simp only [qaz,set_s,set_z])
     have C5:=Lib.hid (rs_same (.slice (some ⟨lb,loff,none⟩) l.length lc) v6 l _ w6 (HL.out.bel VAdapt.stays T.out.bel) HV6.out);obtain⟨q6,c6,hq6,_⟩:=qbc HV6.out;subst hq6;generalize hO:decide (l=fromR w r (na:Int) (nb:Int))=O at *;have HO:=Lib.hid hO;clear hO HV6;cases O with
     | true=>
      have hlq:l=fromR w r (na:Int) (nb:Int):=of_decide_eq_true HO.out;have HE:=Lib.hid (HRES2.out.2 hlq);clear hlq
      go_wp2_with (go_at_call 38;(with_reducible refine C5.out.mono ?_);rintro e' w7 ⟨rfl,k7⟩;have k7:Bel _ w7:=k7;have H7:=Lib.hid (T.out.belw k7);clear k7)
      go_ret;exact⟨by rw [HE.out];rfl,H7.out.bel⟩
     | false=>
      have hlq:l ≠ fromR w r (na:Int) (nb:Int):=of_decide_eq_false HO.out;have HE:=Lib.hid (HRES2.out.1 hlq);clear hlq
      go_wp2_with (go_at_call 38;(with_reducible refine C5.out.mono ?_);rintro e' w7 ⟨rfl,k7⟩;have k7:Bel _ w7:=k7;have H7:=Lib.hid (T.out.belw k7);clear k7)
      go_ret;exact⟨by rw [HE.out];rfl,H7.out.bel⟩
    ·have hne:((S g.name).toList != (S h.name).toList)=true:=by rw [bne_iff_ne];intro h';rw [ByteArray.toList_eq,ByteArray.toList_eq,qc2,qc2]at h';exact hnm h'
     have hnp : ¬(S g.name).toList=(S h.name).toList:=by rw [←ne_eq, ←bne_iff_ne];exact hne
     have HRES2:=Lib.hid (show RR=5 by rw [HR0,if_pos (.inl hnm)]);clear HR0 hnm;refine qag (fun WW=>ST W [] [⟨W.heap.size+1,#[.slice (some ⟨hb',hoff,none⟩) r.progs.length c3,.slice p4 r.enums.length c4],25⟩,⟨W.heap.size,#[.slice (some ⟨gb,goff,none⟩) w.progs.length c1,.slice p2 w.enums.length c2],25⟩] WW) (.take 0 (.take 1 (.take 2 (.take 3 (.take 4 (.take 5 (.take 6 (.take 7 (.take 8 (.take 9 (.take 10 (.take 11 (.take 12 (.take 13 (.take 14 (.take 15 (.take 16 (.take 17 (.take 18 (.take 19 (.take 20 (.take 21 (.alt 22 (.take 23 (.take 24 (.take 25 (.take 26 (.take 27 (.take 28 (.take 29 (.take 30 (.take 31 (.take 32 (.take 33 (.take 34 (.take 35 (.take 36 (.alt 37 .done .no))))))))))))))) .no))))))))))))))))))))))) 38 (by kernel_rfl) (by kernel_rfl) HWD.out T.out (fun a ha=>?_)
     (simp only [pickT,List.getD_cons_zero,List.getD_cons_succ])
     have hsz:a.tmps.size=84:=(by rw [ha];kernel_rfl);have a3:a.eval (.tmp 3)=.pointer (some ⟨W.heap.size,0,none⟩):=(by rw [ha];kernel_rfl);have a4:a.eval (.tmp 4)=.pointer (some ⟨W.heap.size+1,0,none⟩):=(by rw [ha];kernel_rfl);have a2:a.eval (.tmp 2)=.slice (some ⟨lb,loff,none⟩) l.length lc:=(by rw [ha];kernel_rfl)
     (with_reducible refine qa1 (v:=?_) rfl (by with_unfolding_all rfl) (fun ρ hρ W hW=>?_) ?_);(rotate_left 1)
     focus(clear hW;have p3:=hρ (.tmp 3);(simp +decide only [qa2,hsz,ev_eq,ev_ne,a3,a4,a2]at p3);obtain⟨hc,hfn⟩:=rC103 hρ;clear hρ;go_simp;(all_goals with_reducible first|rfl|(constructor <;> rfl)))
     (with_reducible refine qa1 (v:=?_) rfl (by with_unfolding_all rfl) (fun ρ hρ W hW=>?_) ?_);(rotate_left 1)
     focus(have hS:=KS.out _ hW;clear hW;have p43:=hρ (.tmp 43);(simp +decide only [qa2,hsz,ev_eq,ev_ne,a3,a4,a2]at p43);obtain⟨hc,hfn⟩:=rC103 hρ;clear hρ;go_simp;(all_goals with_reducible first|rfl|(constructor <;> rfl)))
     (with_reducible refine qa1 (v:=?_) rfl (by with_unfolding_all rfl) (fun ρ hρ W hW=>?_) ?_);(rotate_left 1)
     focus(clear hW;have p2:=hρ (.tmp 2);(simp +decide only [qa2,hsz,ev_eq,ev_ne,a3,a4,a2]at p2);obtain⟨hc,hfn⟩:=rC103 hρ;clear hρ;go_simp;(all_goals with_reducible first|rfl|(constructor <;> rfl)))
     (with_reducible refine qa1 (v:=.pointer (some ⟨lb,loff,none⟩)) rfl (by with_unfolding_all rfl) (fun ρ hρ W hW=>?_) ?_);skip
     focus(clear hW;have p45:=hρ (.tmp 45);(simp +decide only [qa2,hsz,ev_eq,ev_ne,a3,a4,a2]at p45);obtain⟨hc,hfn⟩:=rC103 hρ;clear hρ;go_simp;(first|done|(all_goals with_reducible first|rfl|(constructor <;> rfl))|(simp only [hne,hnp,HPOS.out,HNN.out,NW1.out,NW2.out];done)|(simp [hne,hnp,HPOS.out,HNN.out,NW1.out,NW2.out];done)|((try simp only [hne,hnp,HPOS.out,HNN.out,NW1.out,NW2.out]);done)))
     (with_reducible refine qa1 (v:=?_) rfl (by with_unfolding_all rfl) (fun ρ hρ W hW=>?_) ?_);(rotate_left 1)
     focus(clear hW;have p46:=hρ (.tmp 46);(simp +decide only [qa2,hsz,ev_eq,ev_ne,a3,a4,a2]at p46);obtain⟨hc,hfn⟩:=rC103 hρ;clear hρ;go_simp;(all_goals with_reducible first|rfl|(constructor <;> rfl)))
     (with_reducible refine qa1 (v:=?_) rfl (by with_unfolding_all rfl) (fun ρ hρ W hW=>?_) ?_);(rotate_left 1)
     focus(have hS:=KS.out _ hW;clear hW;have p47:=hρ (.tmp 47);(simp +decide only [qa2,hsz,ev_eq,ev_ne,a3,a4,a2]at p47);obtain⟨hc,hfn⟩:=rC103 hρ;clear hρ;go_simp;(all_goals with_reducible first|rfl|(constructor <;> rfl)))
     (with_reducible refine qa1 (v:=.pointer (some ⟨gb,goff+na*3,none⟩)) rfl (by with_unfolding_all rfl) (fun ρ hρ W hW=>?_) ?_);skip
     focus(clear hW;have p44:=hρ (.tmp 44);have p48:=hρ (.tmp 48);(simp +decide only [qa2,hsz,ev_eq,ev_ne,a3,a4,a2]at p44 p48);obtain⟨hc,hfn⟩:=rC103 hρ;clear hρ;go_simp;(first|done|(all_goals with_reducible first|rfl|(constructor <;> rfl))|(simp only [hne,hnp,HPOS.out,HNN.out,NW1.out,NW2.out];done)|(simp [hne,hnp,HPOS.out,HNN.out,NW1.out,NW2.out];done)|((try simp only [hne,hnp,HPOS.out,HNN.out,NW1.out,NW2.out]);done)))
     (with_reducible refine qa1 (v:=?_) rfl (by with_unfolding_all rfl) (fun ρ hρ W hW=>?_) ?_);(rotate_left 1)
     focus(clear hW;have p49:=hρ (.tmp 49);(simp +decide only [qa2,hsz,ev_eq,ev_ne,a3,a4,a2]at p49);obtain⟨hc,hfn⟩:=rC103 hρ;clear hρ;go_simp;(all_goals with_reducible first|rfl|(constructor <;> rfl)))
     (with_reducible refine qa1 (v:=?_) rfl (by with_unfolding_all rfl) (fun ρ hρ W hW=>?_) ?_);(rotate_left 1)
     focus(have hS:=KS.out _ hW;clear hW;have p50:=hρ (.tmp 50);(simp +decide only [qa2,hsz,ev_eq,ev_ne,a3,a4,a2]at p50);obtain⟨hc,hfn⟩:=rC103 hρ;clear hρ;go_simp;(all_goals with_reducible first|rfl|(constructor <;> rfl)))
     (with_reducible refine qa1 (v:=?_) rfl (by with_unfolding_all rfl) (fun ρ hρ W hW=>?_) ?_);(rotate_left 1)
     focus(clear hW;have p4:=hρ (.tmp 4);(simp +decide only [qa2,hsz,ev_eq,ev_ne,a3,a4,a2]at p4);obtain⟨hc,hfn⟩:=rC103 hρ;clear hρ;go_simp;(all_goals with_reducible first|rfl|(constructor <;> rfl)))
     (with_reducible refine qa1 (v:=?_) rfl (by with_unfolding_all rfl) (fun ρ hρ W hW=>?_) ?_);(rotate_left 1)
     focus(have hS:=KS.out _ hW;clear hW;have p52:=hρ (.tmp 52);(simp +decide only [qa2,hsz,ev_eq,ev_ne,a3,a4,a2]at p52);obtain⟨hc,hfn⟩:=rC103 hρ;clear hρ;go_simp;(all_goals with_reducible first|rfl|(constructor <;> rfl)))
     (with_reducible refine qa1 (v:=?_) rfl (by with_unfolding_all rfl) (fun ρ hρ W hW=>?_) ?_);(rotate_left 1)
     focus(clear hW;have p2:=hρ (.tmp 2);(simp +decide only [qa2,hsz,ev_eq,ev_ne,a3,a4,a2]at p2);obtain⟨hc,hfn⟩:=rC103 hρ;clear hρ;go_simp;(all_goals with_reducible first|rfl|(constructor <;> rfl)))
     (with_reducible refine qa1 (v:=.pointer (some ⟨lb,loff,none⟩)) rfl (by with_unfolding_all rfl) (fun ρ hρ W hW=>?_) ?_);skip
     focus(clear hW;have p54:=hρ (.tmp 54);(simp +decide only [qa2,hsz,ev_eq,ev_ne,a3,a4,a2]at p54);obtain⟨hc,hfn⟩:=rC103 hρ;clear hρ;go_simp;(first|done|(all_goals with_reducible first|rfl|(constructor <;> rfl))|(simp only [hne,hnp,HPOS.out,HNN.out,NW1.out,NW2.out];done)|(simp [hne,hnp,HPOS.out,HNN.out,NW1.out,NW2.out];done)|((try simp only [hne,hnp,HPOS.out,HNN.out,NW1.out,NW2.out]);done)))
     (with_reducible refine qa1 (v:=?_) rfl (by with_unfolding_all rfl) (fun ρ hρ W hW=>?_) ?_);(rotate_left 1)
     focus(clear hW;have p55:=hρ (.tmp 55);(simp +decide only [qa2,hsz,ev_eq,ev_ne,a3,a4,a2]at p55);obtain⟨hc,hfn⟩:=rC103 hρ;clear hρ;go_simp;(all_goals with_reducible first|rfl|(constructor <;> rfl)))
     (with_reducible refine qa1 (v:=?_) rfl (by with_unfolding_all rfl) (fun ρ hρ W hW=>?_) ?_);(rotate_left 1)
     focus(have hS:=KS.out _ hW;clear hW;have p56:=hρ (.tmp 56);(simp +decide only [qa2,hsz,ev_eq,ev_ne,a3,a4,a2]at p56);obtain⟨hc,hfn⟩:=rC103 hρ;clear hρ;go_simp;(all_goals with_reducible first|rfl|(constructor <;> rfl)))
     (with_reducible refine qa1 (v:=.pointer (some ⟨hb',hoff+nb*3,none⟩)) rfl (by with_unfolding_all rfl) (fun ρ hρ W hW=>?_) ?_);skip
     focus(clear hW;have p53:=hρ (.tmp 53);have p57:=hρ (.tmp 57);(simp +decide only [qa2,hsz,ev_eq,ev_ne,a3,a4,a2]at p53 p57);obtain⟨hc,hfn⟩:=rC103 hρ;clear hρ;go_simp;(first|done|(all_goals with_reducible first|rfl|(constructor <;> rfl))|(simp only [hne,hnp,HPOS.out,HNN.out,NW1.out,NW2.out];done)|(simp [hne,hnp,HPOS.out,HNN.out,NW1.out,NW2.out];done)|((try simp only [hne,hnp,HPOS.out,HNN.out,NW1.out,NW2.out]);done)))
     (with_reducible refine qa1 (v:=?_) rfl (by with_unfolding_all rfl) (fun ρ hρ W hW=>?_) ?_);(rotate_left 1)
     focus(clear hW;have p58:=hρ (.tmp 58);(simp +decide only [qa2,hsz,ev_eq,ev_ne,a3,a4,a2]at p58);obtain⟨hc,hfn⟩:=rC103 hρ;clear hρ;go_simp;(all_goals with_reducible first|rfl|(constructor <;> rfl)))
     (with_reducible refine qa1 (v:=?_) rfl (by with_unfolding_all rfl) (fun ρ hρ W hW=>?_) ?_);(rotate_left 1)
     focus(have hS:=KS.out _ hW;clear hW;have p59:=hρ (.tmp 59);(simp +decide only [qa2,hsz,ev_eq,ev_ne,a3,a4,a2]at p59);obtain⟨hc,hfn⟩:=rC103 hρ;clear hρ;go_simp;(all_goals with_reducible first|rfl|(constructor <;> rfl)))
     (with_reducible refine qa1 (v:=.bool true) rfl (by with_unfolding_all rfl) (fun ρ hρ W hW=>?_) ?_);skip
     focus(clear hW;have p51:=hρ (.tmp 51);have p60:=hρ (.tmp 60);(simp +decide only [qa2,hsz,ev_eq,ev_ne,a3,a4,a2]at p51 p60);obtain⟨hc,hfn⟩:=rC103 hρ;clear hρ;go_simp;(first|done|(all_goals with_reducible first|rfl|(constructor <;> rfl))|(simp only [hne,hnp,HPOS.out,HNN.out,NW1.out,NW2.out];done)|(simp [hne,hnp,HPOS.out,HNN.out,NW1.out,NW2.out];done)|((try simp only [hne,hnp,HPOS.out,HNN.out,NW1.out,NW2.out]);done)))
     (with_reducible refine qa1 (v:=.bool true) rfl (by with_unfolding_all rfl) (fun ρ hρ W hW=>?_) ?_);skip
     focus(clear hW;have p61:=hρ (.tmp 61);(simp +decide only [qa2,hsz,ev_eq,ev_ne,a3,a4,a2]at p61);obtain⟨hc,hfn⟩:=rC103 hρ;clear hρ;go_simp;(first|done|(all_goals with_reducible first|rfl|(constructor <;> rfl))|(simp only [hne,hnp,HPOS.out,HNN.out,NW1.out,NW2.out];done)|(simp [hne,hnp,HPOS.out,HNN.out,NW1.out,NW2.out];done)|((try simp only [hne,hnp,HPOS.out,HNN.out,NW1.out,NW2.out]);done)))
     with_reducible refine qae (c:=true) (t:=62) rfl rfl (by with_unfolding_all rfl) ?_ rfl ?_
     focus(simp +decide only [qa2,hsz,ev_eq,ev_ne,a3,a4,a2])
     with_reducible refine qae (c:=true) (t:=62) rfl rfl (by with_unfolding_all rfl) ?_ rfl ?_
     focus(simp +decide only [qa2,hsz,ev_eq,ev_ne,a3,a4,a2])
     with_reducible refine qck (c:=true) (t:=62) rfl rfl (by with_unfolding_all rfl) ?_ rfl ?_ ?_ ?_
     focus(simp +decide only [qa2,hsz,ev_eq,ev_ne,a3,a4,a2])
     focus exact T.out
     rotate_left 1
     focus exact qak
     with_reducible refine qae (c:=true) (t:=62) rfl rfl (by with_unfolding_all rfl) ?_ rfl ?_
     focus(simp +decide only [qa2,hsz,ev_eq,ev_ne,a3,a4,a2])
     (with_reducible refine qa1 (v:=?_) rfl (by with_unfolding_all rfl) (fun ρ hρ W hW=>?_) ?_);(rotate_left 1)
     focus(clear hW;have p62:=hρ (.tmp 62);have p66:=hρ (.tmp 66);(simp +decide only [qa2,hsz,ev_eq,ev_ne,a3,a4,a2]at p62 p66);obtain⟨hc,hfn⟩:=rC103 hρ;clear hρ;go_simp;(all_goals with_reducible first|rfl|(constructor <;> rfl)))
     (with_reducible refine qa1 (v:=.bool true) rfl (by with_unfolding_all rfl) (fun ρ hρ W hW=>?_) ?_);skip
     focus(clear hW;have p67:=hρ (.tmp 67);(simp +decide only [qa2,hsz,ev_eq,ev_ne,a3,a4,a2]at p67);obtain⟨hc,hfn⟩:=rC103 hρ;clear hρ;go_simp;(first|done|(all_goals with_reducible first|rfl|(constructor <;> rfl))|(simp only [hne,hnp,HPOS.out,HNN.out,NW1.out,NW2.out];done)|(simp [hne,hnp,HPOS.out,HNN.out,NW1.out,NW2.out];done)|((try simp only [hne,hnp,HPOS.out,HNN.out,NW1.out,NW2.out]);done)))
     with_reducible refine qae (c:=true) (t:=68) rfl rfl (by with_unfolding_all rfl) ?_ rfl ?_
     focus(simp +decide only [qa2,hsz,ev_eq,ev_ne,a3,a4,a2])
     with_reducible refine qae (c:=true) (t:=68) rfl rfl (by with_unfolding_all rfl) ?_ rfl ?_
     focus(simp +decide only [qa2,hsz,ev_eq,ev_ne,a3,a4,a2])
     with_reducible refine qae (c:=true) (t:=68) rfl rfl (by with_unfolding_all rfl) ?_ rfl ?_
     focus(simp +decide only [qa2,hsz,ev_eq,ev_ne,a3,a4,a2])
     with_reducible refine qae (c:=true) (t:=68) rfl rfl (by with_unfolding_all rfl) ?_ rfl ?_
     focus(simp +decide only [qa2,hsz,ev_eq,ev_ne,a3,a4,a2])
     with_reducible refine qae (c:=true) (t:=68) rfl rfl (by with_unfolding_all rfl) ?_ rfl ?_
     focus(simp +decide only [qa2,hsz,ev_eq,ev_ne,a3,a4,a2])
     with_reducible refine qae (c:=true) (t:=68) rfl rfl (by with_unfolding_all rfl) ?_ rfl ?_
     focus(simp +decide only [qa2,hsz,ev_eq,ev_ne,a3,a4,a2])
     with_reducible refine qae (c:=true) (t:=68) rfl rfl (by with_unfolding_all rfl) ?_ rfl ?_
     focus(simp +decide only [qa2,hsz,ev_eq,ev_ne,a3,a4,a2])
     with_reducible refine qae (c:=true) (t:=68) rfl rfl (by with_unfolding_all rfl) ?_ rfl ?_
     focus(simp +decide only [qa2,hsz,ev_eq,ev_ne,a3,a4,a2])
     with_reducible refine qae (c:=true) (t:=68) rfl rfl (by with_unfolding_all rfl) ?_ rfl ?_
     focus(simp +decide only [qa2,hsz,ev_eq,ev_ne,a3,a4,a2])
     with_reducible refine qae (c:=true) (t:=68) rfl rfl (by with_unfolding_all rfl) ?_ rfl ?_
     focus(simp +decide only [qa2,hsz,ev_eq,ev_ne,a3,a4,a2])
     with_reducible refine qae (c:=true) (t:=68) rfl rfl (by with_unfolding_all rfl) ?_ rfl ?_
     focus(simp +decide only [qa2,hsz,ev_eq,ev_ne,a3,a4,a2])
     with_reducible refine qck (c:=true) (t:=68) rfl rfl (by with_unfolding_all rfl) ?_ rfl ?_ ?_ ?_
     focus(simp +decide only [qa2,hsz,ev_eq,ev_ne,a3,a4,a2])
     focus exact T.out
     rotate_left 1
     focus exact qak
     with_reducible refine qan ?_
     (simp only [List.drop_succ_cons,List.drop_zero])
     subst ha
     (simp only [qaz,set_s,set_z])
     go_wp2;go_ret
     exact⟨by rw [HRES2.out];rfl,T.out.bel⟩
end Go.Proofs.YtgpjhibdongmbaaGreatDoor
