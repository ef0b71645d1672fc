import Derived.Test.YtgpjhibdongmbaaGreatDoorRsR31M
import Derived.Test.YtgpjhibdongmbaaGreatDoorRsR31S
import Derived.Test.YtgpjhibdongmbaaGreatDoorRsR22F
import Derived.Test.YtgpjhibdongmbaaGreatDoorCkMl
import Derived.Test.YtgpjhibdongmbaaGreatDoorRkC
import Derived.Lib.ItoaLen
set_option maxRecDepth 100000
set_option maxHeartbeats 4000000
set_option linter.unusedVariables false
set_option linter.unusedSimpArgs false
namespace Go.Proofs.YtgpjhibdongmbaaGreatDoor
section
open Go.RowKit Ck Rs
theorem rC132 {a:Act} {ρ:Operand->Value} (h : ∀x,ρ x=a.eval x):(∀c,ρ (.const c)=c)/\∀f,ρ (.func f)=.func (.func f) #[] #[]:=⟨fun c=>h (.const c),fun f=>h (.func f)⟩
theorem qia {p q:PPlan} {l:List PAdapt} {k:Nat} {x:PAdapt} (hx:l[k]? = some x) (h:inR p q x=false):qcq p q l=6:=by
 cases l with
 | nil=>cases hx
 | cons a t=>
  have hf:(a :: t).all (inR p q)=false:=by
   rw [List.all_eq_false];exact⟨x,List.mem_of_getElem? hx,by rw [h];decide⟩
  show(if(a :: t).all (inR p q)=false then(6:Int)else _)=6
  rw [if_pos hf]
theorem chk_good {p q:PPlan} {l:List PAdapt} {x:PAdapt} (hx:l[0]? = some x) (h:AllTo (At l fun x=>inR p q x=true) l.length):qcq p q l=if(makeR p q (nameR p x.w)).2 ≠ 0 ∨ l ≠ (makeR p q (nameR p x.w)).1 then 5 else 0:=by
 cases l with
 | nil=>cases hx
 | cons a t=>
  cases hx;have hf : ¬(x :: t).all (inR p q)=false:=by rw [all_at h];decide
  show(if(x :: t).all (inR p q)=false then(6:Int)else _)=_
  rw [if_neg hf]
theorem qjt (p q:PPlan) (p1 p2 p3 p4:Option Addr) (c1 c2 c3 c4:Nat) (v:Value) (l:List PAdapt) (W:World) (hG:Pl p q p1 p2 p3 p4 c1 c2 c3 c4 W) (hd:Gd p q) (hv:Sv 4 VAdapt W v l) :
  Calls Tryz.prog 22 #[.agg #[.slice p1 p.progs.length c1,.slice p2 p.enums.length c2],.agg #[.slice p3 q.progs.length c3,.slice p4 q.enums.length c4],v] W fun e w'=>e=.returned (.int .i64 (qcq p q l))/\Bel W w':=by
 have hS0:=((ST.start W).addbox #[.slice p1 p.progs.length c1,.slice p2 p.enums.length c2] 25).addbox #[.slice p3 q.progs.length c3,.slice p4 q.enums.length c4] 25;simp only [World.size_alloc]at hS0;have H0:=Lib.hid hS0;have CM0:=(fun WW (T:ST W [] [⟨W.heap.size+1,#[.slice p3 q.progs.length c3,.slice p4 q.enums.length c4],25⟩,⟨W.heap.size,#[.slice p1 p.progs.length c1,.slice p2 p.enums.length c2],25⟩] WW) (nm:Str)=>rf_Make p q p1 p2 p3 p4 c1 c2 c3 c4 nm WW (show Pl p q p1 p2 p3 p4 c1 c2 c3 c4 WW from⟨hG.g0.bel VProg.stays T.bel,hG.g1.bel VEnum.stays T.bel,hG.g2.bel VProg.stays T.bel,hG.g3.bel VEnum.stays T.bel⟩) hd);have CM:=Lib.hid CM0;have HV:=Lib.hid hv;obtain⟨q',c',he,_,_,help⟩:=hG.g0;cases he;have EG:=Lib.hid help;obtain⟨lq,lc,rfl,hl,hcap,hel⟩:=hv;have EL:=Lib.hid hel;have hsz:=hd.sw.np;clear hG hd hS0 CM0 hel help;by_cases hl0:l.length=0
 ·have hlb:((l.length:Int) == 0)=true:=by rw [hl0];rfl
  have HE:=Lib.hid (show qcq p q l=10 by rw [List.length_eq_zero_iff.1 hl0];rfl);clear EL HV
  go_enter Tryz.func22,Tryz.ntmps22
  go_wp2;go_ret
  exact⟨by rw [HE.out];rfl,H0.out.bel⟩
 ·have hlb:((l.length:Int) == 0)=false:=beq_eq_false_iff_ne.2 (by omega)
  go_enter Tryz.func22,Tryz.ntmps22
  go_upto_region 4 with(fail)
  clear hlb
  go_loopw [7] (fun ii wr => ∃k:Nat,k<=l.length/\ii=.int .i64 k/\Hid (ST W [] [⟨W.heap.size+1,#[.slice p3 q.progs.length c3,.slice p4 q.enums.length c4],25⟩,⟨W.heap.size,#[.slice p1 p.progs.length c1,.slice p2 p.enums.length c2],25⟩] wr)/\Hid (AllTo (At l fun x=>inR p q x=true) k)) (fun ii _=>l.length-(intOf ii).toNat)
  case atStart=>exact⟨0,by omega,rfl,H0,Lib.hid AllTo.zero⟩
  case round=>as_aux_lemma=>
   clear H0;obtain⟨k,hk,rfl,hS,HI⟩:=hrel;by_cases hlt:k<l.length
   ·have hki:(k:Int)<(l.length:Int):=by omega
    have hk0:(0:Int)<=(k:Int):=by omega
    have hgx:l[k]? = some l[k]:=List.getElem?_eq_getElem hlt;have HGX:=Lib.hid hgx;obtain⟨gb,off,rfl,_,vs,hce,hvs⟩:=EL.out k _ hgx;obtain⟨av,lv,rfl,_,_⟩:=hvs;clear EL CM EG HV hgx;generalize l[k]=x at *
    go_upto_region 6 with(fail)
    obtain⟨wd,hwd⟩ : ∃x,x=wr.drew:=⟨_,rfl⟩;have T:=Lib.hid (show ST W [] [⟨W.heap.size+1,#[.slice p3 q.progs.length c3,.slice p4 q.enums.length c4],25⟩,⟨W.heap.size,#[.slice p1 p.progs.length c1,.slice p2 p.enums.length c2],25⟩] wd by rw [hwd];exact hS.out.belw (Bel.refl _).drew);have HWD:=Lib.hid hwd;have x0:=T.out.bel.some (hce 0 _ rfl);have x1:=T.out.bel.some (hce 1 _ rfl);rw [Nat.add_zero]at x0;have f0:=T.out.cell 1 rfl 0;have f1:=T.out.cell 0 rfl 0;dsimp only at f0 f1;clear hwd hS hce;by_cases a1:x.w<0
    ·have HE:=Lib.hid (show qcq p q l=6 from qia HGX.out (by unfold inR;exact decide_eq_false (fun h=>by omega)))
     clear HI;refine qa8 34 (by kernel_rfl) (by kernel_rfl) HWD.out ?_
     (simp only [List.take_succ_cons,List.take_zero,List.drop_succ_cons,List.drop_zero]);(repeat (first|((with_reducible refine wpStill_step (fun K hK=>?_));go_simp;(with_reducible refine hK _ ?_);clear hK K)|((with_reducible refine qab ?_ ?_);(with_unfolding_all rfl);(simp only [Act.put,List.setIfInBounds_toArray,List.set_cons_zero,List.set_cons_succ]))));(with_reducible refine wpStill_nil ?_)
     go_wp2;go_ret
     exact⟨by rw [HE.out];rfl,T.out.bel⟩
    ·by_cases a2:(p.progs.length:Int)<=x.w
     ·have HE:=Lib.hid (show qcq p q l=6 from qia HGX.out (by unfold inR;exact decide_eq_false (fun h=>by omega)))
      clear HI;refine qa8 34 (by kernel_rfl) (by kernel_rfl) HWD.out ?_
      (simp only [List.take_succ_cons,List.take_zero,List.drop_succ_cons,List.drop_zero]);(repeat (first|((with_reducible refine wpStill_step (fun K hK=>?_));go_simp;(with_reducible refine hK _ ?_);clear hK K)|((with_reducible refine qab ?_ ?_);(with_unfolding_all rfl);(simp only [Act.put,List.setIfInBounds_toArray,List.set_cons_zero,List.set_cons_succ]))));(with_reducible refine wpStill_nil ?_)
      go_wp2;go_ret
      exact⟨by rw [HE.out];rfl,T.out.bel⟩
     ·by_cases a3:x.r<0
      ·have HE:=Lib.hid (show qcq p q l=6 from qia HGX.out (by unfold inR;exact decide_eq_false (fun h=>by omega)))
       clear HI;refine qa8 34 (by kernel_rfl) (by kernel_rfl) HWD.out ?_
       (simp only [List.take_succ_cons,List.take_zero,List.drop_succ_cons,List.drop_zero]);(repeat (first|((with_reducible refine wpStill_step (fun K hK=>?_));go_simp;(with_reducible refine hK _ ?_);clear hK K)|((with_reducible refine qab ?_ ?_);(with_unfolding_all rfl);(simp only [Act.put,List.setIfInBounds_toArray,List.set_cons_zero,List.set_cons_succ]))));(with_reducible refine wpStill_nil ?_)
       go_wp2;go_ret
       exact⟨by rw [HE.out];rfl,T.out.bel⟩
      ·by_cases a4:(q.progs.length:Int)<=x.r
       ·have HE:=Lib.hid (show qcq p q l=6 from qia HGX.out (by unfold inR;exact decide_eq_false (fun h=>by omega)))
        clear HI;refine qa8 34 (by kernel_rfl) (by kernel_rfl) HWD.out ?_
        (simp only [List.take_succ_cons,List.take_zero,List.drop_succ_cons,List.drop_zero]);(repeat (first|((with_reducible refine wpStill_step (fun K hK=>?_));go_simp;(with_reducible refine hK _ ?_);clear hK K)|((with_reducible refine qab ?_ ?_);(with_unfolding_all rfl);(simp only [Act.put,List.setIfInBounds_toArray,List.set_cons_zero,List.set_cons_succ]))));(with_reducible refine wpStill_nil ?_)
        go_wp2;go_ret
        exact⟨by rw [HE.out];rfl,T.out.bel⟩
       ·have HII:=Lib.hid (show AllTo (At l fun x=>inR p q x=true) (k+1)from AllTo.succ HI.out (At.mk HGX.out (by unfold inR;exact decide_eq_true (by omega))))
        clear HI HGX;refine qa8 34 (by kernel_rfl) (by kernel_rfl) HWD.out ?_
        (simp only [List.take_succ_cons,List.take_zero,List.drop_succ_cons,List.drop_zero]);(repeat (first|((with_reducible refine wpStill_step (fun K hK=>?_));go_simp;(with_reducible refine hK _ ?_);clear hK K)|((with_reducible refine qab ?_ ?_);(with_unfolding_all rfl);(simp only [Act.put,List.setIfInBounds_toArray,List.set_cons_zero,List.set_cons_succ]))));(with_reducible refine wpStill_nil ?_)
        go_wp2;go_roundw
        case rel=>exact⟨k+1,by omega,by go_num,T,HII⟩
        case measure=>simp [intOf];omega
   ·have hki : ¬(k:Int)<(l.length:Int):=by omega
    have hl1:0<l.length:=by omega
    have hgx:l[0]? = some l[0]:=List.getElem?_eq_getElem hl1;have hAll:AllTo (At l fun x=>inR p q x=true) l.length:=fun i hi=>HI.out i (by omega)
    have hin:=hAll 0 hl1 _ hgx;have HCK:=Lib.hid (chk_good hgx hAll);obtain⟨gb,off,rfl,_,vs,hce,hvs⟩:=EL.out 0 _ hgx;obtain⟨av,lv,rfl,_,_⟩:=hvs;clear EL HI hgx hAll;generalize l[0]=x at *;unfold inR at hin;obtain⟨a1,a2,_,_⟩:=of_decide_eq_true hin;obtain⟨wn,hwn⟩ : ∃n:Nat,x.w=(n:Int):=⟨x.w.toNat,by omega⟩;obtain⟨g,hg,hgn⟩:=qdm ⟨a1,a2⟩;rw [hwn,Int.toNat_natCast]at hg;obtain⟨pb,poff,rfl,_,vg,hcg,hvg⟩:=EG.out wn g hg;obtain⟨gq,gc,rfl,_,_⟩:=hvg.form;have CM:=(fun WW T=>CM.out WW T g.name);rw [←hgn]at CM;have hnm:S g.name=S (nameR p x.w):=by rw [hgn]
    generalize makeR p q (nameR p x.w)=R at CM HCK;have w1:(wn:Int)<(p.progs.length:Int):=by omega
    have w0:(0:Int)<=(wn:Int):=by omega
    have l1i:(0:Int)<(l.length:Int):=by omega
    rw [hgn]at CM;have CM:=Lib.hid CM
    go_upto_region 8 with(fail)
    obtain⟨wd,hwd⟩ : ∃x,x=wr.drew:=⟨_,rfl⟩;have T:=Lib.hid (hS.out.belw (show Bel wr wd by rw [hwd];exact(Bel.refl _).drew));have HWD:=Lib.hid hwd;have x0:=hce 0 _ rfl;simp only [Nat.zero_mul,Nat.add_zero,hwn]at x0;have X0:=Lib.hid (show W.cell? ⟨gb,off,none⟩=some (.int .i64 (wn:Int))from x0);have n0:=hcg 0 _ rfl;rw [Nat.add_zero]at n0;have N0:=Lib.hid (show W.cell? ⟨pb,poff+wn*3,none⟩=some (.string (S g.name))from n0);clear x0 n0;clear hwd hS hce hcg EG hg hgn a1 a2 hin hwn hnm;have KS:=Lib.hid (fun WW (hh:ST W [] [⟨W.heap.size+1,#[.slice p3 q.progs.length c3,.slice p4 q.enums.length c4],25⟩,⟨W.heap.size,#[.slice (some ⟨pb,poff,none⟩) p.progs.length c1,.slice p2 p.enums.length c2],25⟩] WW)=>show WW.cell? ⟨gb,off,none⟩=some (.int .i64 (wn:Int))/\WW.cell? ⟨W.heap.size,0,none⟩=some (.slice (some ⟨pb,poff,none⟩) p.progs.length c1)/\WW.cell? ⟨W.heap.size,1,none⟩=some (.slice p2 p.enums.length c2)/\WW.cell? ⟨W.heap.size+1,0,none⟩=some (.slice p3 q.progs.length c3)/\WW.cell? ⟨W.heap.size+1,1,none⟩=some (.slice p4 q.enums.length c4)/\WW.cell? ⟨pb,poff+wn*3,none⟩=some (.string (S g.name))from⟨hh.bel.some X0.out,hh.cell 1 rfl 0,hh.cell 1 rfl 1,hh.cell 0 rfl 0,hh.cell 0 rfl 1,hh.bel.some N0.out⟩);refine qag (fun WW=>ST W [] [⟨W.heap.size+1,#[.slice p3 q.progs.length c3,.slice p4 q.enums.length c4],25⟩,⟨W.heap.size,#[.slice (some ⟨pb,poff,none⟩) p.progs.length c1,.slice p2 p.enums.length c2],25⟩] WW) (.take 0 (.take 1 (.take 2 (.take 3 (.take 4 (.take 5 (.take 6 (.take 7 (.take 8 (.take 9 (.take 10 (.alt 11 (.take 12 (.take 13 (.take 14 (.take 15 .done)))) .no)))))))))))) 16 (by kernel_rfl) (by kernel_rfl) HWD.out T.out (fun a ha=>?_)
    (simp only [pickT,List.getD_cons_zero,List.getD_cons_succ])
    have hsz:a.tmps.size=78:=(by rw [ha];kernel_rfl);have a3:a.eval (.tmp 3)=.pointer (some ⟨W.heap.size,0,none⟩):=(by rw [ha];kernel_rfl);have a4:a.eval (.tmp 4)=.pointer (some ⟨W.heap.size+1,0,none⟩):=(by rw [ha];kernel_rfl);have a2:a.eval (.tmp 2)=.slice (some ⟨gb,off,none⟩) l.length lc:=(by rw [ha];kernel_rfl)
    (with_reducible refine qa1 (v:=?_) rfl (by with_unfolding_all rfl) (fun ρ hρ W hW=>?_) ?_);(rotate_left 1)
    focus(have hS:=KS.out _ hW;clear hW;have p3:=hρ (.tmp 3);(simp +decide only [qa2,hsz,ev_eq,ev_ne,a3,a4,a2]at p3);obtain⟨hc,hfn⟩:=rC132 hρ;clear hρ;go_simp;(all_goals with_reducible first|rfl|(constructor <;> rfl)))
    (with_reducible refine qa1 (v:=?_) rfl (by with_unfolding_all rfl) (fun ρ hρ W hW=>?_) ?_);(rotate_left 1)
    focus(have hS:=KS.out _ hW;clear hW;have p4:=hρ (.tmp 4);(simp +decide only [qa2,hsz,ev_eq,ev_ne,a3,a4,a2]at p4);obtain⟨hc,hfn⟩:=rC132 hρ;clear hρ;go_simp;(all_goals with_reducible first|rfl|(constructor <;> rfl)))
    (with_reducible refine qa1 (v:=?_) rfl (by with_unfolding_all rfl) (fun ρ hρ W hW=>?_) ?_);(rotate_left 1)
    focus(clear hW;have p3:=hρ (.tmp 3);(simp +decide only [qa2,hsz,ev_eq,ev_ne,a3,a4,a2]at p3);obtain⟨hc,hfn⟩:=rC132 hρ;clear hρ;go_simp;(all_goals with_reducible first|rfl|(constructor <;> rfl)))
    (with_reducible refine qa1 (v:=?_) rfl (by with_unfolding_all rfl) (fun ρ hρ W hW=>?_) ?_);(rotate_left 1)
    focus(have hS:=KS.out _ hW;clear hW;have p58:=hρ (.tmp 58);(simp +decide only [qa2,hsz,ev_eq,ev_ne,a3,a4,a2]at p58);obtain⟨hc,hfn⟩:=rC132 hρ;clear hρ;go_simp;(all_goals with_reducible first|rfl|(constructor <;> rfl)))
    (with_reducible refine qa1 (v:=?_) rfl (by with_unfolding_all rfl) (fun ρ hρ W hW=>?_) ?_);(rotate_left 1)
    focus(clear hW;have p2:=hρ (.tmp 2);(simp +decide only [qa2,hsz,ev_eq,ev_ne,a3,a4,a2]at p2);obtain⟨hc,hfn⟩:=rC132 hρ;clear hρ;go_simp;(all_goals with_reducible first|rfl|(constructor <;> rfl)))
    (with_reducible refine qa1 (v:=?_) rfl (by with_unfolding_all rfl) (fun ρ hρ W hW=>?_) ?_);(rotate_left 1)
    focus(clear hW;have p60:=hρ (.tmp 60);(simp +decide only [qa2,hsz,ev_eq,ev_ne,a3,a4,a2]at p60);obtain⟨hc,hfn⟩:=rC132 hρ;clear hρ;go_simp;(all_goals with_reducible first|rfl|(constructor <;> rfl)))
    (with_reducible refine qa1 (v:=?_) rfl (by with_unfolding_all rfl) (fun ρ hρ W hW=>?_) ?_);(rotate_left 1)
    focus(clear hW;have p61:=hρ (.tmp 61);(simp +decide only [qa2,hsz,ev_eq,ev_ne,a3,a4,a2]at p61);obtain⟨hc,hfn⟩:=rC132 hρ;clear hρ;go_simp;(all_goals with_reducible first|rfl|(constructor <;> rfl)))
    (with_reducible refine qa1 (v:=?_) rfl (by with_unfolding_all rfl) (fun ρ hρ W hW=>?_) ?_);(rotate_left 1)
    focus(have hS:=KS.out _ hW;clear hW;have p62:=hρ (.tmp 62);(simp +decide only [qa2,hsz,ev_eq,ev_ne,a3,a4,a2]at p62);obtain⟨hc,hfn⟩:=rC132 hρ;clear hρ;go_simp;(all_goals with_reducible first|rfl|(constructor <;> rfl)))
    (with_reducible refine qa1 (v:=?_) rfl (by with_unfolding_all rfl) (fun ρ hρ W hW=>?_) ?_);(rotate_left 1)
    focus(clear hW;have p59:=hρ (.tmp 59);have p63:=hρ (.tmp 63);(simp +decide only [qa2,hsz,ev_eq,ev_ne,a3,a4,a2]at p59 p63);obtain⟨hc,hfn⟩:=rC132 hρ;clear hρ;go_simp;(all_goals with_reducible first|rfl|(constructor <;> rfl)))
    (with_reducible refine qa1 (v:=?_) rfl (by with_unfolding_all rfl) (fun ρ hρ W hW=>?_) ?_);(rotate_left 1)
    focus(clear hW;have p64:=hρ (.tmp 64);(simp +decide only [qa2,hsz,ev_eq,ev_ne,a3,a4,a2]at p64);obtain⟨hc,hfn⟩:=rC132 hρ;clear hρ;go_simp;(all_goals with_reducible first|rfl|(constructor <;> rfl)))
    (with_reducible refine qa1 (v:=?_) rfl (by with_unfolding_all rfl) (fun ρ hρ W hW=>?_) ?_);(rotate_left 1)
    focus(have hS:=KS.out _ hW;clear hW;have p65:=hρ (.tmp 65);(simp +decide only [qa2,hsz,ev_eq,ev_ne,a3,a4,a2]at p65);obtain⟨hc,hfn⟩:=rC132 hρ;clear hρ;go_simp;(all_goals with_reducible first|rfl|(constructor <;> rfl)))
    (with_reducible refine qbe (f:=?_) (args:=?_) rfl (by with_unfolding_all rfl) (fun ρ hρ=>?_) ?_ ?_);(rotate_left 2)
    focus(have p56:=hρ (.tmp 56);have p57:=hρ (.tmp 57);(simp +decide only [qa2,hsz,ev_eq,ev_ne,a3,a4,a2]at p56 p57);have p66:=hρ (.tmp 66);(simp +decide only [qa2,hsz,ev_eq,ev_ne,a3,a4,a2]at p66);obtain⟨hc,hfn⟩:=rC132 hρ;clear hρ;rw [qad (hfn _)];clear hfn;go_simp;(all_goals with_reducible first|rfl|(constructor <;> rfl)))
    with_reducible refine(CM.out _ T.out).mono ?_
    rintro e' w3 ⟨u,rfl,hu,k3⟩;have k3:Bel _ w3:=k3;have H3:=Lib.hid (T.out.belw k3);clear k3;refine⟨_,rfl,H3.out,?_⟩;rotate_left 1
    focus exact qak
    (with_reducible refine qa1 (v:=?_) rfl (by with_unfolding_all rfl) (fun ρ hρ W hW=>?_) ?_);(rotate_left 1)
    focus(clear hW;have p67:=hρ (.tmp 67);(simp +decide only [qa2,hsz,ev_eq,ev_ne,a3,a4,a2]at p67);obtain⟨hc,hfn⟩:=rC132 hρ;clear hρ;go_simp;(all_goals with_reducible first|rfl|(constructor <;> rfl)))
    (with_reducible refine qa1 (v:=?_) rfl (by with_unfolding_all rfl) (fun ρ hρ W hW=>?_) ?_);(rotate_left 1)
    focus(clear hW;have p55:=hρ (.tmp 55);(simp +decide only [qa2,hsz,ev_eq,ev_ne,a3,a4,a2]at p55);obtain⟨hc,hfn⟩:=rC132 hρ;clear hρ;go_simp;(all_goals with_reducible first|rfl|(constructor <;> rfl)))
    (with_reducible refine qa1 (v:=?_) rfl (by with_unfolding_all rfl) (fun ρ hρ W hW=>?_) ?_);(rotate_left 1)
    focus(clear hW;have p55:=hρ (.tmp 55);(simp +decide only [qa2,hsz,ev_eq,ev_ne,a3,a4,a2]at p55);obtain⟨hc,hfn⟩:=rC132 hρ;clear hρ;go_simp;(all_goals with_reducible first|rfl|(constructor <;> rfl)))
    (with_reducible refine qa1 (v:=?_) rfl (by with_unfolding_all rfl) (fun ρ hρ W hW=>?_) ?_);(rotate_left 1)
    focus(clear hW;have p68:=hρ (.tmp 68);(simp +decide only [qa2,hsz,ev_eq,ev_ne,a3,a4,a2]at p68);obtain⟨hc,hfn⟩:=rC132 hρ;clear hρ;go_simp;(all_goals with_reducible first|rfl|(constructor <;> rfl)))
    with_reducible refine qan ?_
    (simp only [List.drop_succ_cons,List.drop_zero])
    (with_reducible refine qdb (v:=?_) (w':=?_) rfl (by with_unfolding_all rfl) (fun ρ hρ=>?_) ?_);(rotate_left 2)
    focus(have p69:=hρ (.tmp 69);(simp +decide only [qa2,hsz,ev_eq,ev_ne,a3,a4,a2]at p69);obtain⟨hc,hfn⟩:=rC132 hρ;clear hρ;go_simp;(all_goals with_reducible first|rfl|(constructor <;> rfl)))
    refine wpList_nil ?_;subst ha
    (simp only [qaz,set_s,set_z])
    go_upto_region 9 with(fail)
    clear KS HWD;have CS:=Lib.hid (rf_Same _ _ l R.1 w3 (HV.out.bel VAdapt.stays H3.out.bel) hu);clear CM HV hu;by_cases hR:R.2=0
    ·have hRb:(R.2 != 0)=false:=by rw [hR];rfl
     go_wp2_with (go_at_call 13;(with_reducible refine(CS.out).mono ?_);rintro e' w4 ⟨b,rfl,hb,k4⟩;have k4:Bel w3 w4:=k4;have H4:=Lib.hid (H3.out.belw k4);have hb:=Lib.hid hb;clear k4)
     focus
      have hbf:b=false:=by simpa using (show(!b)=true by assumption)
      have HE:=Lib.hid (show qcq p q l=5 by rw [HCK.out,if_pos (.inr (fun e=>by have:=hb.out.2 e;rw [hbf]at this;cases this))]);go_ret;exact⟨by rw [HE.out];rfl,H4.out.bel⟩
     have hbt:b=true:=by simpa using (show(!b)=false by assumption)
     have HE:=Lib.hid (show qcq p q l=0 by rw [HCK.out,if_neg (fun h=>h.elim (fun h=>h hR) (fun h=>h (hb.out.1 hbt)))]);go_ret;exact⟨by rw [HE.out];rfl,H4.out.bel⟩
    ·have hRb:(R.2 != 0)=true:=bne_iff_ne.2 hR
     have HE:=Lib.hid (show qcq p q l=5 by rw [HCK.out,if_pos (.inl hR)]);go_wp2;go_ret;exact⟨by rw [HE.out];rfl,H3.out.bel⟩
end
section
open Go.RowKit Ck Rs
def upper (u:Nat):Str:=if u<10 then []else Lib.decDigits (u / 10)
theorem qi8 (u:Nat):Lib.decDigits u=upper u ++ [UInt8.ofNat (48+u % 10)]:=by
 unfold upper;rw [Lib.decDigits];by_cases h:u<10
 ·rw [dif_pos h,if_pos h,Nat.mod_eq_of_lt h];rfl
 ·rw [dif_neg h,if_neg h]
theorem qj9 {u:Nat} (h : ¬ u<10):upper u=upper (u / 10) ++ [UInt8.ofNat (48+u / 10 % 10)]:=by
 conv=>lhs;unfold upper
 rw [if_neg h];exact qi8 (u / 10)
theorem qli {u:Nat} (h:u<10):upper u=[]:=by unfold upper;rw [if_pos h]
theorem conv_n (W:World) (c:UInt8) (n:Int) (h:n=c.toNat):(convert 68 9 (.slice (some ⟨W.heap.size,0,none⟩) 1 1)).run Tryz.prog (W.alloc (.cells #[.int .u8 n] 5))=.ok (.string (S [c])) (W.alloc (.cells #[.int .u8 n] 5)):=by subst h;exact qmn W c
theorem dig_nat (n:Nat):(48+(n:Int) % 10)=((UInt8.ofNat (48+n % 10)).toNat:Int):=by
 have h:n % 10<10:=Nat.mod_lt _ (by decide)
 have:(UInt8.ofNat (48+n % 10)).toNat=48+n % 10:=by
  rw [UInt8.toNat_ofNat'];omega
 rw [this];omega
theorem rf_dec (n:Nat) (W:World) (hn:n<18446744073709551616) :
  Calls Tryz.prog 96 #[.int .u64 (n:Int)] W fun e' w'=>e'=.returned (.string (S (Lib.decDigits n)))/\Bel W w':=by
 obtain⟨c,hc⟩ : ∃c,c=UInt8.ofNat (48+n % 10):=⟨_,rfl⟩;have V:=Lib.hid (show Lib.decDigits n=upper n ++ [c]by rw [hc];exact qi8 n);generalize Lib.decDigits n=T at V;have HS:=Lib.hid ((Bel.refl W).alloc (.cells #[.int .u8 (48+(n:Int) % 10)] 5));have m0:(0:Int)<=(n:Int):=by omega
 have m1:(n:Int)<18446744073709551616:=by omega
 have cv:=conv_n W c (48+(n:Int) % 10) (by rw [hc];exact dig_nat n);clear hc
 go_enter Tryz.func96,Tryz.ntmps96
 go_upto_region 2 with(fail)
 go_loopw [0,3] (fun u s wr => ∃(k:Nat) (l:Str),k<18446744073709551616/\u=.int .u64 (k:Int)/\s=.string (S l)/\Hid (Bel W wr)/\Hid (T=upper k ++ l)/\Hid (9*l.length+k<=18446744073709551625)) (fun u _ _=>(intOf u).toNat)
 case atStart=>exact⟨n,[c],hn,rfl,rfl,HS,V,Lib.hid (show 9*1+n<=18446744073709551625 by omega)⟩
 case round=>as_aux_lemma=>
  clear V HS cv m0 m1;obtain⟨k,l,hk,rfl,rfl,kw,hV,hL⟩:=hrel;have m0:(0:Int)<=(k:Int):=by omega
  have m1:(k:Int)<18446744073709551616:=by omega
  by_cases h10:k<10
  ·have hd : ¬(10:Int)<=(k:Int):=by omega
   have HT:=Lib.hid (show T=l by rw [hV.out,qli h10];rfl);clear hV hL h10;go_wp2;go_ret;exact⟨by rw [HT.out];rfl,kw.out⟩
  ·have hd:(10:Int)<=(k:Int):=by omega
   obtain⟨c,hc⟩ : ∃c,c=UInt8.ofNat (48+k / 10 % 10):=⟨_,rfl⟩;have HT:=Lib.hid (show T=upper (k / 10) ++ ([c] ++ l)by rw [hV.out,qj9 h10,List.append_assoc,hc]);have HL:=Lib.hid (show 9*([c] ++ l).length+k / 10<=18446744073709551625 by have:=hL.out;rw [List.length_append,List.length_singleton];omega);have cv:=conv_n wr c (48+(k:Int) / 10 % 10) (by rw [hc];have:=dig_nat (k / 10);rw [←this];omega);have q1:(0:Int)<=(k:Int) / 10:=by omega
   have q2:(k:Int) / 10<18446744073709551616:=by omega
   have q3:=Lib.hid (show(k:Int) / 10=((k / 10:Nat):Int)by omega);have HB:=Lib.hid (kw.out.alloc (.cells #[.int .u8 (48+(k:Int) / 10 % 10)] 5));have z1 : ¬(9223372036854775807<(S [c]).size+(S l).size):=by rw [qaj,qaj,List.length_singleton];have:=hL.out;omega
   clear hV hL hc;go_wp2;go_roundw
   case rel=>exact⟨k / 10,[c] ++ l,by omega,by rw [q3.out],by rw [S_app],HB,HT,HL⟩
   case measure=>simp [intOf];omega
theorem fits64 (x:Int) (h0:0<=x) (h1:x<18446744073709551616):Pr.fitsB 3 3 x [] 0=true:=by
 unfold Pr.fitsB Pr.isK Pr.leanB Pr.withB;simp [Pr.sgn,Pr.txt]
theorem qlx (x:Int) (W:World) (h0:0<=x) (h1:x<18446744073709551616) :
  Calls Tryz.prog 71 #[.agg #[.int .i64 3,.int .u64 x,.string ⟨#[]⟩,.slice none 0 0,.slice none 0 0,.slice none 0 0,.slice none 0 0]] W fun e' w'=>e'=.returned (.string (S (if 9223372036854775808<=x then 45 :: Lib.decDigits (18446744073709551616-x).toNat else Lib.decDigits x.toNat)))/\Bel W w':=by
 have hS0:=(ST.start W).addbox #[.int .i64 3,.int .u64 x,.string ⟨#[]⟩,.slice none 0 0,.slice none 0 0,.slice none 0 0,.slice none 0 0] 93;have H0:=Lib.hid hS0
 have CF:=Lib.hid (fun WW=>show Calls Tryz.prog 95 #[.int .i64 3,.agg #[.int .i64 3,.int .u64 x,.string ⟨#[]⟩,.slice none 0 0,.slice none 0 0,.slice none 0 0,.slice none 0 0]] WW (fun e w'=>e=.returned (.bool true)/\Bel WW w')from by
  have:=qeb 3 x ⟨#[]⟩ none none none none 0 0 0 0 0 0 0 0 WW h0 h1 rfl;rw [show(ByteArray.mk #[]).data.toList=[]from rfl,fits64 x h0 h1]at this
  exact this)
 have KS:=Lib.hid (fun WW (T:ST W [] [⟨W.heap.size,#[.int .i64 3,.int .u64 x,.string ⟨#[]⟩,.slice none 0 0,.slice none 0 0,.slice none 0 0,.slice none 0 0],93⟩] WW)=>show WW.cell? ⟨W.heap.size,0,none⟩=some (.int .i64 3)/\WW.cell? ⟨W.heap.size,1,none⟩=some (.int .u64 x)from⟨T.cell 0 rfl 0,T.cell 0 rfl 1⟩);clear hS0;by_cases hx:9223372036854775808<=x
 ·rw [if_pos hx]
  obtain⟨m,hm⟩ : ∃m:Nat,18446744073709551616-x=(m:Int):=⟨(18446744073709551616-x).toNat,by omega⟩;have CD:=Lib.hid (fun WW=>rf_dec m WW (by omega))
  have hDl:(Lib.decDigits m).length<=30:=by
   have:=Lib.itoa_length_le (-(m:Int)) (by omega) (by omega);rw [Lib.itoa_neg m (by omega),List.length_cons]at this;omega
  rw [hm,Int.toNat_natCast];generalize Lib.decDigits m=D at CD hDl ⊢
  have hw:IntKind.u64.wrap (-x)=(m:Int):=by
   simp [IntKind.wrap,IntKind.bits,IntKind.signed];omega
  have hw2:IntKind.u64.wrap (0-x)=(m:Int):=by rw [show(0:Int)-x = -x by omega];exact hw
  have z1 : ¬(9223372036854775807<(S [45]).size+(S D).size):=by rw [qaj,qaj,List.length_singleton];omega
  have z2 : ¬(9223372036854775807<1+(S D).size):=by rw [qaj];omega
  clear hm
  go_enter Tryz.func71,Tryz.ntmps71
  go_upto_region 1 with(fail)
  go_wp2_with (first
   | (go_at_call 95;(with_reducible refine(CF.out _).mono ?_);rintro e' w1 ⟨rfl,k1⟩;have k1:Bel _ w1:=k1;have H1:=Lib.hid (H0.out.belw k1);obtain⟨y0,y1⟩:=KS.out _ H1.out;clear k1)
   | (go_at_call 96;(with_reducible refine(CD.out _).mono ?_);rintro e' w2 ⟨rfl,k2⟩;have k2:Bel _ w2:=k2))
  go_ret;exact⟨congrArg (fun s=>Ending.returned (.string s)) (S_app [45] D),Bel.of H1.out.bel k2⟩
 ·rw [if_neg hx]
  obtain⟨m,hm⟩ : ∃m:Nat,x=(m:Int):=⟨x.toNat,by omega⟩;have CD:=(fun WW=>rf_dec m WW (by omega));rw [show x.toNat=m by omega];generalize Lib.decDigits m=D at CD ⊢;rw [←hm]at CD;have CD:=Lib.hid CD;clear hm
  go_enter Tryz.func71,Tryz.ntmps71
  go_upto_region 1 with(fail)
  go_wp2_with (first
   | (go_at_call 95;(with_reducible refine(CF.out _).mono ?_);rintro e' w1 ⟨rfl,k1⟩;have k1:Bel _ w1:=k1;have H1:=Lib.hid (H0.out.belw k1);obtain⟨y0,y1⟩:=KS.out _ H1.out;clear k1)
   | (go_at_call 96;(with_reducible refine(CD.out _).mono ?_);rintro e' w2 ⟨rfl,k2⟩;have k2:Bel _ w2:=k2))
  go_ret;exact⟨rfl,Bel.of H1.out.bel k2⟩
theorem qdj (n:Int) (W:World) (h0 : -9223372036854775808<=n) (h1:n<=9223372036854775807) :
  Calls Tryz.prog 45 #[.int .i64 n] W fun e' w'=>e'=.returned (.string (S (Lib.itoa n)))/\Bel W w':=by
 obtain⟨x,hx⟩ : ∃x,x=IntKind.u64.wrap n:=⟨_,rfl⟩
 have hx2:x=if n<0 then n+18446744073709551616 else n:=by
  rw [hx];simp [IntKind.wrap,IntKind.bits,IntKind.signed]
  split <;> omega
 have hb:0<=x/\x<18446744073709551616:=by rw [hx2];split <;> omega
 have hi:(if 9223372036854775808<=x then 45 :: Lib.decDigits (18446744073709551616-x).toNat else Lib.decDigits x.toNat)=Lib.itoa n:=by
  unfold Lib.itoa;by_cases hn:n<0
  ·rw [hx2,if_pos hn,if_pos hn,if_pos (by omega)]
   congr 2
   omega
  ·rw [hx2,if_neg hn,if_neg hn,if_neg (by omega)]
 have CT:=(fun WW=>qlx x WW hb.1 hb.2);rw [hi]at CT;generalize Lib.itoa n=D at CT ⊢;have CT:=Lib.hid CT;have hxs:=hx.symm;clear hx hx2 hi
 go_enter Tryz.func45,Tryz.ntmps45
 go_wp2_with (go_at_call 71;(with_reducible refine(CT.out _).mono ?_);rintro e' w2 ⟨rfl,k2⟩;have k2:Bel _ w2:=k2)
 go_ret;exact⟨rfl,k2⟩
end
end Go.Proofs.YtgpjhibdongmbaaGreatDoor
