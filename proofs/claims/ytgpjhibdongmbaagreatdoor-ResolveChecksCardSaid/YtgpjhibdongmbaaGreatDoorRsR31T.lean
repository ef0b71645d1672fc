import Derived.Test.YtgpjhibdongmbaaGreatDoorRsR04
import Derived.Test.YtgpjhibdongmbaaGreatDoorRsRes11
import Derived.Test.YtgpjhibdongmbaaGreatDoorRsR31E
import Derived.Test.YtgpjhibdongmbaaGreatDoorRsEnd
set_option maxRecDepth 100000
set_option maxHeartbeats 4000000
set_option linter.unusedVariables false
set_option linter.unusedSimpArgs false
namespace Go.Proofs.YtgpjhibdongmbaaGreatDoor
open Go.RowKit Ck Rs
theorem rC134 {a:Act} {ρ:Operand->Value} (h : ∀x,ρ x=a.eval x):(∀c,ρ (.const c)=c)/\∀f,ρ (.func f)=.func (.func f) #[] #[]:=⟨fun c=>h (.const c),fun f=>h (.func f)⟩
theorem rf_Text (w r:PPlan) (p1 p2 p3 p4:Option Addr) (c1 c2 c3 c4:Nat) (v:Value) (l:List PAdapt) (w0:World) (hG:Pl w r p1 p2 p3 p4 c1 c2 c3 c4 w0) (hv:Sv 4 VAdapt w0 v l) (hr:inRng l) (hB:(textR w r l).length<=1000000000) :
  Calls Tryz.prog 24 #[.agg #[.slice p1 w.progs.length c1,.slice p2 w.enums.length c2],.agg #[.slice p3 r.progs.length c3,.slice p4 r.enums.length c4],v] w0 fun e' w'=>e'=.returned (.string (S (textR w r l)))/\Bel w0 w':=by
 obtain⟨q,c,rfl,hl,hcap,hel⟩:=hv;have EL:=Lib.hid hel;have HR:=Lib.hid hr;have V:=Lib.hid (show [] ++ textR w r (l.drop 0)=textR w r l from rfl);obtain⟨TX,hT⟩ : ∃T,T=textR w r l:=⟨_,rfl⟩;rw [←hT]at V hB ⊢;have HTL:=Lib.hid hB;have hS0:=((ST.start w0).addbox #[.slice p1 w.progs.length c1,.slice p2 w.enums.length c2] 25).addbox #[.slice p3 r.progs.length c3,.slice p4 r.enums.length c4] 25;simp only [World.size_alloc]at hS0;have HS:=Lib.hid hS0;have CW0:=(fun WW (k:Bel w0 WW) (i:Int)=>rf_name w p1 p2 c1 c2 i WW ⟨_,_,rfl,hG.g0.bel VProg.stays k,hG.g1.bel VEnum.stays k⟩);have CR0:=(fun WW (k:Bel w0 WW) (i:Int)=>rf_name r p3 p4 c3 c4 i WW ⟨_,_,rfl,hG.g2.bel VProg.stays k,hG.g3.bel VEnum.stays k⟩);have CW0:=Lib.hid CW0;have CR0:=Lib.hid CR0;clear hG hr hB hT hel hS0
 go_enter Tryz.func24,Tryz.ntmps24
 go_upto_region 3 with(fail)
 go_loopw [7,8] (fun s ii wr => ∃(k:Nat) (acc:Str),k<=l.length/\s=.string (S acc)/\ii=.int .i64 k/\Hid (ST w0 [] [⟨w0.heap.size+1,#[.slice p3 r.progs.length c3,.slice p4 r.enums.length c4],25⟩,⟨w0.heap.size,#[.slice p1 w.progs.length c1,.slice p2 w.enums.length c2],25⟩] wr)/\Hid (acc ++ textR w r (l.drop k)=TX)) (fun _ ii _=>l.length-(intOf ii).toNat)
 case atStart=>exact⟨0,[],by omega,rfl,rfl,HS,V⟩
 case round=>as_aux_lemma=>
  clear HS V;obtain⟨k,acc,hk,rfl,rfl,hS,hx⟩:=hrel;by_cases hlt:k<l.length
  ·have hki:(k:Int)<(l.length:Int):=by omega
   have hk0:(0:Int)<=(k:Int):=by omega
   have HIN:=Lib.hid (HR.out _ (List.getElem_mem hlt));obtain⟨gb,off,rfl,_,vs,hce,hvs⟩:=EL.out k _ (List.getElem?_eq_getElem hlt);obtain⟨aq,lq,ac,lc,rfl,hsa,hsl,_,_⟩:=hvs.form;have hx1:=Lib.hid (show(acc ++ lineP w r l[k]) ++ (((l[k]).acts.drop 0).flatMap actT ++ ((l[k]).lacks.flatMap lackT ++ textR w r (l.drop (k+1))))=TX by rw [←hx.out,List.drop_eq_getElem_cons hlt,qfe];simp only [List.append_assoc,List.drop_zero]);clear hx EL HR;generalize l[k]=d at *;have CW:=(fun WW kk=>CW0.out WW kk d.w);have CR:=(fun WW kk=>CR0.out WW kk d.r);obtain⟨N1,hN1⟩ : ∃N,N=nameR w d.w:=⟨_,rfl⟩;obtain⟨N2,hN2⟩ : ∃N,N=nameR r d.r:=⟨_,rfl⟩;rw [←hN1]at CW;rw [←hN2]at CR;have CW:=Lib.hid CW;have CR:=Lib.hid CR;have hlen:(acc ++ lineP w r d).length<=1000000000:=by have h2:=congrArg List.length hx1.out;rw [List.length_append]at h2;have:=HTL.out;omega
   have hac:acc ++ lineP w r d=(((acc ++ N1) ++ [32,45,62,32]) ++ N2) ++ [10]:=by rw [hN1,hN2];unfold lineP;simp only [List.append_assoc]
   rw [hac]at hlen;simp only [List.length_append,List.length_cons,List.length_nil]at hlen;have h1 : ¬(9223372036854775807<(S acc).size+(S N1).size):=by simp only [qaj];omega
   have h2 : ¬(9223372036854775807<(S acc).size+(S N1).size+4):=by simp only [qaj];omega
   have h3 : ¬(9223372036854775807<(S acc).size+(S N1).size+4+(S N2).size):=by simp only [qaj];omega
   have h4 : ¬(9223372036854775807<(S acc).size+(S N1).size+4+(S N2).size+1):=by simp only [qaj];omega
   have HACC:=Lib.hid (show S (acc ++ lineP w r d)=(((S acc ++ S N1) ++ S [32,45,62,32]) ++ S N2) ++ S [10]by rw [hac,S_app,S_app,S_app,S_app]);have E2:=Lib.hid (hce 2 _ rfl);have E3:=Lib.hid (hce 3 _ rfl);have E0:=Lib.hid (hce 0 _ rfl);have E1:=Lib.hid (hce 1 _ rfl);obtain⟨_,_,he,_,_,hem⟩:=hsa;cases he;have EA:=Lib.hid hem;obtain⟨_,_,he2,_,_,hek⟩:=hsl;cases he2;have EK:=Lib.hid hek;clear hN1 hN2 hac hlen hce hem hek
   go_upto_region 5 with(fail)
   go_cut [7] (fun s7 wx=>s7=.string (S (acc ++ lineP w r d))/\Hid (ST w0 [] [⟨w0.heap.size+1,#[.slice p3 r.progs.length c3,.slice p4 r.enums.length c4],25⟩,⟨w0.heap.size,#[.slice p1 w.progs.length c1,.slice p2 w.enums.length c2],25⟩] wx))
   case first=>as_aux_lemma=>
    obtain⟨wd,hwd⟩ : ∃x,x=wr.drew:=⟨_,rfl⟩;have T:=Lib.hid (show ST w0 [] [⟨w0.heap.size+1,#[.slice p3 r.progs.length c3,.slice p4 r.enums.length c4],25⟩,⟨w0.heap.size,#[.slice p1 w.progs.length c1,.slice p2 w.enums.length c2],25⟩] wd by rw [hwd];exact hS.out.belw (Bel.refl _).drew);have HWD:=Lib.hid hwd;have KS:=Lib.hid (fun WW (hh:ST w0 [] [⟨w0.heap.size+1,#[.slice p3 r.progs.length c3,.slice p4 r.enums.length c4],25⟩,⟨w0.heap.size,#[.slice p1 w.progs.length c1,.slice p2 w.enums.length c2],25⟩] WW)=>show WW.cell? ⟨gb,off+k*4,none⟩=some (.int .i64 d.w)/\WW.cell? ⟨gb,off+k*4+1,none⟩=some (.int .i64 d.r)/\WW.cell? ⟨w0.heap.size,0,none⟩=some (.slice p1 w.progs.length c1)/\WW.cell? ⟨w0.heap.size,1,none⟩=some (.slice p2 w.enums.length c2)/\WW.cell? ⟨w0.heap.size+1,0,none⟩=some (.slice p3 r.progs.length c3)/\WW.cell? ⟨w0.heap.size+1,1,none⟩=some (.slice p4 r.enums.length c4)from⟨by have:=hh.bel.some E0.out;rwa [Nat.add_zero]at this,hh.bel.some E1.out,hh.cell 1 rfl 0,hh.cell 1 rfl 1,hh.cell 0 rfl 0,hh.cell 0 rfl 1⟩);clear hwd hS hx1 EA EK HIN CW0 CR0;refine qag (fun WW=>ST w0 [] [⟨w0.heap.size+1,#[.slice p3 r.progs.length c3,.slice p4 r.enums.length c4],25⟩,⟨w0.heap.size,#[.slice p1 w.progs.length c1,.slice p2 w.enums.length c2],25⟩] WW) (.take 0 (.take 1 (.take 2 (.take 3 (.take 4 (.take 5 (.take 6 (.take 10 (.take 11 (.take 12 (.take 13 (.take 14 (.take 15 (.alt 7 (.take 8 (.take 9 (.alt 16 .done .no))) .no)))))))))))))) 17 (by kernel_rfl) (by kernel_rfl) HWD.out T.out (fun a ha=>?_)
    (simp only [pickT,List.getD_cons_zero,List.getD_cons_succ])
    have hsz:a.tmps.size=110:=(by rw [ha];kernel_rfl);have a7:a.eval (.tmp 7)=.string (S acc):=(by rw [ha];kernel_rfl);have a3:a.eval (.tmp 3)=.pointer (some ⟨w0.heap.size,0,none⟩):=(by rw [ha];kernel_rfl);have a4:a.eval (.tmp 4)=.pointer (some ⟨w0.heap.size+1,0,none⟩):=(by rw [ha];kernel_rfl);have a2:a.eval (.tmp 2)=.slice (some ⟨gb,off,none⟩) l.length c:=(by rw [ha];kernel_rfl);have a8:a.eval (.tmp 8)=.int .i64 k:=(by rw [ha];kernel_rfl)
    (with_reducible refine qa1 (v:=?_) rfl (by with_unfolding_all rfl) (fun ρ hρ W hW=>?_) ?_);(rotate_left 1)
    focus(clear hW;have p7:=hρ (.tmp 7);(simp +decide only [qa2,hsz,ev_eq,ev_ne,a7,a3,a4,a2,a8]at p7);obtain⟨hc,hfn⟩:=rC134 hρ;clear hρ;go_simp;(all_goals with_reducible first|rfl|(constructor <;> rfl)))
    (with_reducible refine qa1 (v:=?_) rfl (by with_unfolding_all rfl) (fun ρ hρ W hW=>?_) ?_);(rotate_left 1)
    focus(have hS:=KS.out _ hW;clear hW;have p3:=hρ (.tmp 3);(simp +decide only [qa2,hsz,ev_eq,ev_ne,a7,a3,a4,a2,a8]at p3);obtain⟨hc,hfn⟩:=rC134 hρ;clear hρ;go_simp;(all_goals with_reducible first|rfl|(constructor <;> rfl)))
    (with_reducible refine qa1 (v:=?_) rfl (by with_unfolding_all rfl) (fun ρ hρ W hW=>?_) ?_);(rotate_left 1)
    focus(clear hW;have p2:=hρ (.tmp 2);(simp +decide only [qa2,hsz,ev_eq,ev_ne,a7,a3,a4,a2,a8]at p2);obtain⟨hc,hfn⟩:=rC134 hρ;clear hρ;go_simp;(all_goals with_reducible first|rfl|(constructor <;> rfl)))
    (with_reducible refine qa1 (v:=?_) rfl (by with_unfolding_all rfl) (fun ρ hρ W hW=>?_) ?_);(rotate_left 1)
    focus(clear hW;have p8:=hρ (.tmp 8);(simp +decide only [qa2,hsz,ev_eq,ev_ne,a7,a3,a4,a2,a8]at p8);obtain⟨hc,hfn⟩:=rC134 hρ;clear hρ;go_simp;(all_goals with_reducible first|rfl|(constructor <;> rfl)))
    (with_reducible refine qa1 (v:=?_) rfl (by with_unfolding_all rfl) (fun ρ hρ W hW=>?_) ?_);(rotate_left 1)
    focus(clear hW;have p21:=hρ (.tmp 21);have p22:=hρ (.tmp 22);(simp +decide only [qa2,hsz,ev_eq,ev_ne,a7,a3,a4,a2,a8]at p21 p22);obtain⟨hc,hfn⟩:=rC134 hρ;clear hρ;go_simp;(all_goals with_reducible first|rfl|(constructor <;> rfl)))
    (with_reducible refine qa1 (v:=?_) rfl (by with_unfolding_all rfl) (fun ρ hρ W hW=>?_) ?_);(rotate_left 1)
    focus(clear hW;have p23:=hρ (.tmp 23);(simp +decide only [qa2,hsz,ev_eq,ev_ne,a7,a3,a4,a2,a8]at p23);obtain⟨hc,hfn⟩:=rC134 hρ;clear hρ;go_simp;(all_goals with_reducible first|rfl|(constructor <;> rfl)))
    (with_reducible refine qa1 (v:=?_) rfl (by with_unfolding_all rfl) (fun ρ hρ W hW=>?_) ?_);(rotate_left 1)
    focus(have hS:=KS.out _ hW;clear hW;have p24:=hρ (.tmp 24);(simp +decide only [qa2,hsz,ev_eq,ev_ne,a7,a3,a4,a2,a8]at p24);obtain⟨hc,hfn⟩:=rC134 hρ;clear hρ;go_simp;(all_goals with_reducible first|rfl|(constructor <;> rfl)))
    (with_reducible refine qa1 (v:=?_) rfl (by with_unfolding_all rfl) (fun ρ hρ W hW=>?_) ?_);(rotate_left 1)
    focus(have hS:=KS.out _ hW;clear hW;have p4:=hρ (.tmp 4);(simp +decide only [qa2,hsz,ev_eq,ev_ne,a7,a3,a4,a2,a8]at p4);obtain⟨hc,hfn⟩:=rC134 hρ;clear hρ;go_simp;(all_goals with_reducible first|rfl|(constructor <;> rfl)))
    (with_reducible refine qa1 (v:=?_) rfl (by with_unfolding_all rfl) (fun ρ hρ W hW=>?_) ?_);(rotate_left 1)
    focus(clear hW;have p2:=hρ (.tmp 2);(simp +decide only [qa2,hsz,ev_eq,ev_ne,a7,a3,a4,a2,a8]at p2);obtain⟨hc,hfn⟩:=rC134 hρ;clear hρ;go_simp;(all_goals with_reducible first|rfl|(constructor <;> rfl)))
    (with_reducible refine qa1 (v:=?_) rfl (by with_unfolding_all rfl) (fun ρ hρ W hW=>?_) ?_);(rotate_left 1)
    focus(clear hW;have p8:=hρ (.tmp 8);(simp +decide only [qa2,hsz,ev_eq,ev_ne,a7,a3,a4,a2,a8]at p8);obtain⟨hc,hfn⟩:=rC134 hρ;clear hρ;go_simp;(all_goals with_reducible first|rfl|(constructor <;> rfl)))
    (with_reducible refine qa1 (v:=?_) rfl (by with_unfolding_all rfl) (fun ρ hρ W hW=>?_) ?_);(rotate_left 1)
    focus(clear hW;have p30:=hρ (.tmp 30);have p31:=hρ (.tmp 31);(simp +decide only [qa2,hsz,ev_eq,ev_ne,a7,a3,a4,a2,a8]at p30 p31);obtain⟨hc,hfn⟩:=rC134 hρ;clear hρ;go_simp;(all_goals with_reducible first|rfl|(constructor <;> rfl)))
    (with_reducible refine qa1 (v:=?_) rfl (by with_unfolding_all rfl) (fun ρ hρ W hW=>?_) ?_);(rotate_left 1)
    focus(clear hW;have p32:=hρ (.tmp 32);(simp +decide only [qa2,hsz,ev_eq,ev_ne,a7,a3,a4,a2,a8]at p32);obtain⟨hc,hfn⟩:=rC134 hρ;clear hρ;go_simp;(all_goals with_reducible first|rfl|(constructor <;> rfl)))
    (with_reducible refine qa1 (v:=?_) rfl (by with_unfolding_all rfl) (fun ρ hρ W hW=>?_) ?_);(rotate_left 1)
    focus(have hS:=KS.out _ hW;clear hW;have p33:=hρ (.tmp 33);(simp +decide only [qa2,hsz,ev_eq,ev_ne,a7,a3,a4,a2,a8]at p33);obtain⟨hc,hfn⟩:=rC134 hρ;clear hρ;go_simp;(all_goals with_reducible first|rfl|(constructor <;> rfl)))
    (with_reducible refine qbe (f:=?_) (args:=?_) rfl (by with_unfolding_all rfl) (fun ρ hρ=>?_) ?_ ?_);(rotate_left 2)
    focus(have p20:=hρ (.tmp 20);have p25:=hρ (.tmp 25);(simp +decide only [qa2,hsz,ev_eq,ev_ne,a7,a3,a4,a2,a8]at p20 p25);obtain⟨hc,hfn⟩:=rC134 hρ;clear hρ;rw [qad (hfn _)];clear hfn;go_simp;(all_goals with_reducible first|rfl|(constructor <;> rfl)))
    with_reducible refine(CW.out _ T.out.bel).mono ?_
    rintro e' w_7 ⟨rfl,g⟩;have g:Bel _ w_7:=g;have T:=Lib.hid (T.out.belw g);clear g;refine⟨_,rfl,T.out,?_⟩;rotate_left 1
    focus exact qak
    (with_reducible refine qa1 (v:=?_) rfl (by with_unfolding_all rfl) (fun ρ hρ W hW=>?_) ?_);(rotate_left 1)
    focus(clear hW;have p19:=hρ (.tmp 19);have p26:=hρ (.tmp 26);(simp +decide only [qa2,hsz,ev_eq,ev_ne,a7,a3,a4,a2,a8]at p19 p26);obtain⟨hc,hfn⟩:=rC134 hρ;clear hρ;go_simp;(all_goals with_reducible first|rfl|(constructor <;> rfl)))
    (with_reducible refine qa1 (v:=?_) rfl (by with_unfolding_all rfl) (fun ρ hρ W hW=>?_) ?_);(rotate_left 1)
    focus(clear hW;have p27:=hρ (.tmp 27);(simp +decide only [qa2,hsz,ev_eq,ev_ne,a7,a3,a4,a2,a8]at p27);obtain⟨hc,hfn⟩:=rC134 hρ;clear hρ;go_simp;(all_goals with_reducible first|rfl|(constructor <;> rfl)))
    (with_reducible refine qbe (f:=?_) (args:=?_) rfl (by with_unfolding_all rfl) (fun ρ hρ=>?_) ?_ ?_);(rotate_left 2)
    focus(have p29:=hρ (.tmp 29);have p34:=hρ (.tmp 34);(simp +decide only [qa2,hsz,ev_eq,ev_ne,a7,a3,a4,a2,a8]at p29 p34);obtain⟨hc,hfn⟩:=rC134 hρ;clear hρ;rw [qad (hfn _)];clear hfn;go_simp;(all_goals with_reducible first|rfl|(constructor <;> rfl)))
    with_reducible refine(CR.out _ T.out.bel).mono ?_
    rintro e' w_16 ⟨rfl,g⟩;have g:Bel _ w_16:=g;have T:=Lib.hid (T.out.belw g);clear g;refine⟨_,rfl,T.out,?_⟩;rotate_left 1
    focus exact qak
    with_reducible refine qan ?_
    (simp only [List.drop_succ_cons,List.drop_zero])
    (with_reducible refine qdb (v:=?_) (w':=?_) rfl (by with_unfolding_all rfl) (fun ρ hρ=>?_) ?_);(rotate_left 2)
    focus(have p28:=hρ (.tmp 28);have p35:=hρ (.tmp 35);(simp +decide only [qa2,hsz,ev_eq,ev_ne,a7,a3,a4,a2,a8]at p28 p35);obtain⟨hc,hfn⟩:=rC134 hρ;clear hρ;go_simp;(all_goals with_reducible first|rfl|(constructor <;> rfl)))
    (with_reducible refine qdb (v:=?_) (w':=?_) rfl (by with_unfolding_all rfl) (fun ρ hρ=>?_) ?_);(rotate_left 2)
    focus(have p36:=hρ (.tmp 36);(simp +decide only [qa2,hsz,ev_eq,ev_ne,a7,a3,a4,a2,a8]at p36);obtain⟨hc,hfn⟩:=rC134 hρ;clear hρ;go_simp;(all_goals with_reducible first|rfl|(constructor <;> rfl)))
    (with_reducible refine qdb (v:=?_) (w':=?_) rfl (by with_unfolding_all rfl) (fun ρ hρ=>?_) ?_);(rotate_left 2)
    focus(have p37:=hρ (.tmp 37);(simp +decide only [qa2,hsz,ev_eq,ev_ne,a7,a3,a4,a2,a8]at p37);obtain⟨hc,hfn⟩:=rC134 hρ;clear hρ;go_simp;(all_goals with_reducible first|rfl|(constructor <;> rfl)))
    refine wpList_nil ?_;subst ha
    (simp only [qaz,set_s,set_z])
    go_wp2;go_meet
    exact⟨by rw [HACC.out];rfl,T⟩
   case rest=>
    rename_i s7 wx hcut
    obtain⟨rfl,T⟩:=hcut;clear h1 h2 h3 h4 HACC CW CR hS
    go_upto_region 7 with(fail)
    go_loopw [7,9] (fun s ii wr => ∃(j:Nat) (acc:Str),j<=d.acts.length/\s=.string (S acc)/\ii=.int .i64 j/\Hid (ST w0 [] [⟨w0.heap.size+1,#[.slice p3 r.progs.length c3,.slice p4 r.enums.length c4],25⟩,⟨w0.heap.size,#[.slice p1 w.progs.length c1,.slice p2 w.enums.length c2],25⟩] wr)/\Hid (acc ++ ((d.acts.drop j).flatMap actT ++ (d.lacks.flatMap lackT ++ textR w r (l.drop (k+1))))=TX)) (fun _ ii _=>d.acts.length-(intOf ii).toNat)
    case atStart=>exact⟨0,_,by omega,rfl,rfl,T,hx1⟩
    case round=>as_aux_lemma=>
     clear T hx1;obtain⟨j,acc,hj,rfl,rfl,hS,hx⟩:=hrel;have e2:=hS.out.bel.some E2.out;by_cases hlt2:j<d.acts.length
     ·have hji:(j:Int)<(d.acts.length:Int):=by omega
      have hj0:(0:Int)<=(j:Int):=by omega
      obtain⟨b3,o3,hq3,_,v3,hc3,hv3⟩:=EA.out j _ (List.getElem?_eq_getElem hlt2);subst hq3;have hin:=HIN.out.1 _ (List.getElem_mem hlt2);have HN:=Lib.hid (show(acc ++ actT d.acts[j]) ++ ((d.acts.drop (j+1)).flatMap actT ++ (d.lacks.flatMap lackT ++ textR w r (l.drop (k+1))))=TX by rw [←hx.out,List.drop_eq_getElem_cons hlt2,List.flatMap_cons];simp only [List.append_assoc]);clear EA EK hx HIN;generalize d.acts[j]=x at *;obtain rfl:v3=actC x:=hv3;have s0:=hS.out.bel.some (hc3 0 _ rfl);have s1:=hS.out.bel.some (hc3 1 _ rfl);have s2:=hS.out.bel.some (hc3 2 _ rfl);rw [Nat.add_zero]at s0;have HX:=Lib.hid (hS.out.addbox #[.int .i64 x.num,.int .i64 x.kind,.int .i64 x.sub] 38)
      go_upto_region 11 with(fail)
      generalize wr.heap.size=xb at HX ⊢;generalize World.alloc wr _=wb at HX ⊢;clear s0 s1 s2 e2 hc3 hS;have T:=HX;clear HX;have t1:=T.out.cell 0 rfl 1;dsimp only at t1
      go_upto_block 4 with(fail)
      go_cut [11] (fun s11 wx=>s11=.string (S (wordR x.kind))/\Hid (ST w0 [] [⟨xb,#[.int .i64 x.num,.int .i64 x.kind,.int .i64 x.sub],38⟩,⟨w0.heap.size+1,#[.slice p3 r.progs.length c3,.slice p4 r.enums.length c4],25⟩,⟨w0.heap.size,#[.slice p1 w.progs.length c1,.slice p2 w.enums.length c2],25⟩] wx))
      case first=>
       by_cases n1:x.kind=1
       ·have b1:(x.kind == 1)=true:=by rw [n1];rfl
        have HW:=Lib.hid (show wordR x.kind=[115,107,105,112]by unfold wordR;rw [if_pos n1]);clear n1;go_wp2;go_meet;exact⟨by rw [HW.out];rfl,T⟩
       ·have b1:(x.kind == 1)=false:=beq_eq_false_iff_ne.2 n1
        by_cases n2:x.kind=2
        ·have b2:(x.kind == 2)=true:=by rw [n2];rfl
         have HW:=Lib.hid (show wordR x.kind=[116,97,107,101]by unfold wordR;rw [if_neg n1,if_pos n2]);clear n1 n2;go_wp2;go_meet;exact⟨by rw [HW.out];rfl,T⟩
        ·have b2:(x.kind == 2)=false:=beq_eq_false_iff_ne.2 n2
         by_cases n3:x.kind=3
         ·have b3:(x.kind == 3)=true:=by rw [n3];rfl
          have HW:=Lib.hid (show wordR x.kind=[116,117,114,110]by unfold wordR;rw [if_neg n1,if_neg n2,if_pos n3]);clear n1 n2 n3;go_wp2;go_meet;exact⟨by rw [HW.out];rfl,T⟩
         ·have b3:(x.kind == 3)=false:=beq_eq_false_iff_ne.2 n3
          by_cases n4:x.kind=4
          ·have b4:(x.kind == 4)=true:=by rw [n4];rfl
           have HW:=Lib.hid (show wordR x.kind=[102,97,105,108]by unfold wordR;rw [if_neg n1,if_neg n2,if_neg n3,if_pos n4]);clear n1 n2 n3 n4;go_wp2;go_meet;exact⟨by rw [HW.out];rfl,T⟩
          ·have b4:(x.kind == 4)=false:=beq_eq_false_iff_ne.2 n4
           have HW:=Lib.hid (show wordR x.kind=[63]by unfold wordR;rw [if_neg n1,if_neg n2,if_neg n3,if_neg n4]);clear n1 n2 n3 n4;go_wp2;go_meet;exact⟨by rw [HW.out];rfl,T⟩
      case rest=>
       rename_i s11 wx hcut
       obtain⟨rfl,T⟩:=hcut;clear t1;have t0:=T.out.cell 0 rfl 0;dsimp only at t0;have hlen:(acc ++ actT x).length<=1000000000:=by have h2:=congrArg List.length HN.out;rw [List.length_append]at h2;have:=HTL.out;omega
       have CN:=(fun WW=>qdj x.num WW hin.1.1 hin.1.2);obtain⟨D,hD⟩ : ∃D,D=Lib.itoa x.num:=⟨_,rfl⟩;rw [←hD]at CN;have CN:=Lib.hid CN;obtain⟨A2,hA2⟩ : ∃A,A=(((acc ++ [32,32]) ++ D) ++ [32]) ++ wordR x.kind:=⟨_,rfl⟩;have HA2:=Lib.hid (show acc ++ actT x=A2 ++ (subT x.sub ++ [10])by rw [hA2,hD];unfold actT;simp only [List.append_assoc]);have hl2:=hlen;rw [HA2.out,hA2]at hl2;simp only [List.length_append,List.length_cons,List.length_nil]at hl2;generalize wordR x.kind=wd' at *;have g1 : ¬(9223372036854775807<(S acc).size+2):=by simp only [qaj];omega
       have g2 : ¬(9223372036854775807<(S acc).size+2+(S D).size):=by simp only [qaj];omega
       have g3 : ¬(9223372036854775807<(S acc).size+2+(S D).size+1):=by simp only [qaj];omega
       have g4 : ¬(9223372036854775807<(S acc).size+2+(S D).size+1+(S wd').size):=by simp only [qaj];omega
       have HS2:=Lib.hid (show S A2=(((S acc ++ S [32,32]) ++ S D) ++ S [32]) ++ S wd' by rw [hA2,S_app,S_app,S_app,S_app]);clear hD hA2 hl2
       go_upto_region 20 with(fail)
       go_cut [7] (fun s7 wx=>s7=.string (S A2)/\Hid (ST w0 [] [⟨xb,#[.int .i64 x.num,.int .i64 x.kind,.int .i64 x.sub],38⟩,⟨w0.heap.size+1,#[.slice p3 r.progs.length c3,.slice p4 r.enums.length c4],25⟩,⟨w0.heap.size,#[.slice p1 w.progs.length c1,.slice p2 w.enums.length c2],25⟩] wx))
       case first=>
        go_wp2_with (go_at_call 45;(with_reducible refine(CN.out _).mono ?_);rintro e' w5 ⟨rfl,k5⟩;have k5:Bel _ w5:=k5;have H5:=Lib.hid (T.out.belw k5);clear k5)
        go_meet;exact⟨by rw [HS2.out];rfl,H5⟩
       case rest=>
        rename_i s7 wy hcut
        obtain⟨rfl,T⟩:=hcut;clear t0 g1 g2 g3 g4 HS2 CN;have t2:=T.out.cell 0 rfl 2;dsimp only at t2;by_cases hsub:0<=x.sub
        ·have hsb:0<=x.sub:=hsub
         have CS:=(fun WW=>qdj x.sub WW hin.2.1 hin.2.2);obtain⟨D2,hD2⟩ : ∃D,D=Lib.itoa x.sub:=⟨_,rfl⟩;have HAC:=Lib.hid (show acc ++ actT x=((A2 ++ [32]) ++ D2) ++ [10]by rw [HA2.out];unfold subT;rw [if_pos hsb,hD2, ←List.singleton_append];simp only [List.append_assoc]);rw [←hD2]at CS;have CS:=Lib.hid CS;rw [HAC.out]at hlen;simp only [List.length_append,List.length_cons,List.length_nil]at hlen;have h1 : ¬(9223372036854775807<(S A2).size+1):=by simp only [qaj];omega
         have h2 : ¬(9223372036854775807<(S A2).size+1+(S D2).size):=by simp only [qaj];omega
         have h3 : ¬(9223372036854775807<(S A2).size+1+(S D2).size+1):=by simp only [qaj];omega
         have HAS:=Lib.hid (show S (acc ++ actT x)=((S A2 ++ S [32]) ++ S D2) ++ S [10]by rw [HAC.out,S_app,S_app,S_app]);clear hin hD2 hlen HAC hsub HA2
         go_wp2_with (go_at_call 45;(with_reducible refine(CS.out _).mono ?_);rintro e' w5 ⟨rfl,k5⟩;have k5:Bel _ w5:=k5;have H5:=Lib.hid (T.out.belw k5);clear k5)
         go_roundw
         case rel=>exact⟨j+1,acc ++ actT x,by omega,by rw [HAS.out];rfl,by go_num,Lib.hid H5.out.dropbox0,HN⟩
         case measure=>simp [intOf];omega
        ·have HAC:=Lib.hid (show acc ++ actT x=A2 ++ [10]by rw [HA2.out];unfold subT;rw [if_neg hsub];simp only [List.append_assoc,List.nil_append])
         rw [HAC.out]at hlen;simp only [List.length_append,List.length_cons,List.length_nil]at hlen;have h1 : ¬(9223372036854775807<(S A2).size+1):=by simp only [qaj];omega
         have HAS:=Lib.hid (show S (acc ++ actT x)=S A2 ++ S [10]by rw [HAC.out,S_app]);clear hin hlen HAC HA2;go_wp2;go_roundw
         case rel=>exact⟨j+1,acc ++ actT x,by omega,by rw [HAS.out];rfl,by go_num,Lib.hid T.out.dropbox0,HN⟩
         case measure=>simp [intOf];omega
     ·have hji : ¬(j:Int)<(d.acts.length:Int):=by omega
      have HXX:=Lib.hid (show acc ++ ((d.lacks.drop 0).flatMap lackT ++ textR w r (l.drop (k+1)))=TX by rw [←hx.out,show d.acts.drop j=[]from List.drop_eq_nil_of_le (by omega)];rfl);clear hx EA
      go_upto_region 25 with(fail)
      clear e2
      go_loopw [7,12] (fun s ii wr => ∃(j:Nat) (acc:Str),j<=d.lacks.length/\s=.string (S acc)/\ii=.int .i64 j/\Hid (ST w0 [] [⟨w0.heap.size+1,#[.slice p3 r.progs.length c3,.slice p4 r.enums.length c4],25⟩,⟨w0.heap.size,#[.slice p1 w.progs.length c1,.slice p2 w.enums.length c2],25⟩] wr)/\Hid (acc ++ ((d.lacks.drop j).flatMap lackT ++ textR w r (l.drop (k+1)))=TX)) (fun _ ii _=>d.lacks.length-(intOf ii).toNat)
      case atStart=>exact⟨0,acc,by omega,rfl,rfl,hS,HXX⟩
      case round=>as_aux_lemma=>
       clear hS HXX;obtain⟨j,acc,hj,rfl,rfl,hS,hx⟩:=hrel;have e3:=hS.out.bel.some E3.out;by_cases hlt3:j<d.lacks.length
       ·have hji:(j:Int)<(d.lacks.length:Int):=by omega
        have hj0:(0:Int)<=(j:Int):=by omega
        obtain⟨b3,o3,hq3,_,v3,hc3,hv3⟩:=EK.out j _ (List.getElem?_eq_getElem hlt3);subst hq3;have hin:=HIN.out.2 _ (List.getElem_mem hlt3);have HN:=Lib.hid (show(acc ++ lackT d.lacks[j]) ++ ((d.lacks.drop (j+1)).flatMap lackT ++ textR w r (l.drop (k+1)))=TX by rw [←hx.out,List.drop_eq_getElem_cons hlt3,List.flatMap_cons];simp only [List.append_assoc]);clear EK hx HIN;generalize d.lacks[j]=x at *;obtain rfl:v3=[.int .i64 x]:=hv3;have s0:=hS.out.bel.some (hc3 0 _ rfl);rw [Nat.mul_one,Nat.add_zero]at s0;have CD:=(fun WW=>qdj x WW hin.1 hin.2);have hll:lackT x=[32,32,108,97,99,107,115,32] ++ Lib.itoa x ++ [10]:=rfl;obtain⟨D,hD⟩ : ∃D,D=Lib.itoa x:=⟨_,rfl⟩;have HAC:=Lib.hid (show acc ++ lackT x=((acc ++ [32,32,108,97,99,107,115,32]) ++ D) ++ [10]by rw [hll,hD];simp only [List.append_assoc]);rw [←hD]at CD;have CD:=Lib.hid CD;have hlen:(acc ++ lackT x).length<=1000000000:=by have h2:=congrArg List.length HN.out;rw [List.length_append]at h2;have:=HTL.out;omega
        rw [HAC.out]at hlen;simp only [List.length_append,List.length_cons,List.length_nil]at hlen;have h1 : ¬(9223372036854775807<(S acc).size+8):=by simp only [qaj];omega
        have h2 : ¬(9223372036854775807<(S acc).size+8+(S D).size):=by simp only [qaj];omega
        have h3 : ¬(9223372036854775807<(S acc).size+8+(S D).size+1):=by simp only [qaj];omega
        have HAS:=Lib.hid (show S (acc ++ lackT x)=((S acc ++ S [32,32,108,97,99,107,115,32]) ++ S D) ++ S [10]by rw [HAC.out,S_app,S_app,S_app]);have T:=hS;clear hc3 hin hD hll hlen HAC
        go_wp2_with (go_at_call 45;(with_reducible refine(CD.out _).mono ?_);rintro e' w5 ⟨rfl,k5⟩;have k5:Bel _ w5:=k5;have H5:=Lib.hid (T.out.belw k5);clear k5)
        go_roundw
        case rel=>exact⟨j+1,acc ++ lackT x,by omega,by rw [HAS.out];rfl,by go_num,H5,HN⟩
        case measure=>simp [intOf];omega
       ·have hji : ¬(j:Int)<(d.lacks.length:Int):=by omega
        have HN:=Lib.hid (show acc ++ textR w r (l.drop (k+1))=TX by rw [←hx.out,show d.lacks.drop j=[]from List.drop_eq_nil_of_le (by omega)];rfl);clear hx EK HIN;go_wp2;go_roundw
        case rel=>exact⟨k+1,acc,by omega,rfl,by go_num,hS,HN⟩
        case measure=>simp [intOf];omega
  ·have hki : ¬(k:Int)<(l.length:Int):=by omega
   have HE:=Lib.hid (show acc=TX by rw [←hx.out,show l.drop k=[]from List.drop_eq_nil_of_le (by omega)];exact(List.append_nil acc).symm);clear hx EL HR;go_wp2;go_ret;exact⟨by rw [HE.out];rfl,hS.out.bel⟩
end Go.Proofs.YtgpjhibdongmbaaGreatDoor
