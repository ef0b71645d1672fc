import Derived.Test.YtgpjhibdongmbaaGreatDoorRsR04
import Derived.Test.YtgpjhibdongmbaaGreatDoorRsR31T
import Derived.Test.YtgpjhibdongmbaaGreatDoorRsR22C
import Derived.Test.YtgpjhibdongmbaaGreatDoorRsRes11
set_option maxRecDepth 100000
set_option maxHeartbeats 4000000
set_option linter.unusedVariables false
set_option linter.unusedSimpArgs false
namespace Go.Proofs.YtgpjhibdongmbaaGreatDoor
open Go.RowKit Ck Rs
theorem rC135 {a:Act} {ρ:Operand->Value} (h : ∀x,ρ x=a.eval x):(∀c,ρ (.const c)=c)/\∀f,ρ (.func f)=.func (.func f) #[] #[]:=⟨fun c=>h (.const c),fun f=>h (.func f)⟩
theorem qf3 {α:Type} {f:α->Str} {B:Nat} : ∀(l:List α),(∀x ∈ l,(f x).length<=B)->(l.flatMap f).length<=B*l.length
 | [],_=>Nat.zero_le _
 | x :: l,h=>by
  rw [List.flatMap_cons,List.length_append,List.length_cons,Nat.mul_succ];have h1:=h x (List.mem_cons_self ..);have h2:=qf3 l (fun y hy=>h y (List.mem_cons_of_mem _ hy));omega
theorem qkj {p:PPlan} (h:SmallP p) (i:Int):(nameR p i).length<=300:=by
 unfold nameR
 split
 ·split
  ·rename_i g hg
   exact(h.pr g (List.mem_of_getElem? hg)).nm
  ·decide
 ·decide
theorem act_len (x:PAct) (h1:inI x.num) (h2:inI x.sub):(actT x).length<=60:=by
 have a:=Lib.itoa_length_le x.num h1.1 h1.2;have b:=Lib.itoa_length_le x.sub h2.1 h2.2;have c:=qj6 x.kind;unfold actT subT;simp only [List.length_append,List.length_cons,List.length_nil]
 split
 ·rw [List.length_cons];omega
 ·rw [List.length_nil];omega
theorem lack_len (n:Int) (h:inI n):(lackT n).length<=60:=by
 have a:=Lib.itoa_length_le n h.1 h.2;unfold lackT;simp only [List.length_append,List.length_cons,List.length_nil];omega
theorem text_len {w r:PPlan} (hw:SmallP w) (hr:SmallP r) {l:List PAdapt} (hs:qe1 l=true) (hi:inRng l):(textR w r l).length<=1000000000:=by
 unfold qe1 at hs;simp only [Bool.and_eq_true,decide_eq_true_eq,List.all_eq_true]at hs
 have h1:=qf3 (f:=adT w r) (B:=10000) l (fun d hd=>by
  have b1:=qf3 (f:=actT) (B:=60) d.acts (fun x hx=>act_len x ((hi d hd).1 x hx).1 ((hi d hd).1 x hx).2);have b2:=qf3 (f:=lackT) (B:=60) d.lacks (fun x hx=>lack_len x ((hi d hd).2 x hx));have b3:=qkj hw d.w;have b4:=qkj hr d.r;have b5:=hs.2 d hd;unfold smD at b5;simp only [Bool.and_eq_true,decide_eq_true_eq]at b5;unfold adT lineP;simp only [List.length_append,List.length_cons,List.length_nil]
  omega)
 unfold textR;have:=hs.1;omega
theorem qkn (p q:PPlan) (p1 p2 p3 p4:Option Addr) (c1 c2 c3 c4:Nat) (v:Value) (l:List PAdapt) (W:World) (hG:Pl p q p1 p2 p3 p4 c1 c2 c3 c4 W) (hv:Sv 4 VAdapt W v l) (hi:inRng l) (hP:PT W) (hM:ML W) (hT:Tab W) :
  Calls Tryz.prog 5 #[.agg #[.slice p1 p.progs.length c1,.slice p2 p.enums.length c2],.agg #[.slice p3 q.progs.length c3,.slice p4 q.enums.length c4],v] W fun e w'=>e=.returned (.bool true)/\Bel W w':=by
 have hS0:=((ST.start W).addbox #[.slice p1 p.progs.length c1,.slice p2 p.enums.length c2] 25).addbox #[.slice p3 q.progs.length c3,.slice p4 q.enums.length c4] 25;simp only [World.size_alloc]at hS0;have H0:=Lib.hid hS0;obtain⟨lq,lc,rfl,hll⟩:=qbc hv;have CA:=Lib.hid (fun WW (k:Bel W WW)=>qhn WW (hP.bel k) (hM.below k.out) (hT.below k));have KS:=Lib.hid (fun WW (T:ST W [] [⟨W.heap.size+1,#[.slice p3 q.progs.length c3,.slice p4 q.enums.length c4],25⟩,⟨W.heap.size,#[.slice p1 p.progs.length c1,.slice p2 p.enums.length c2],25⟩] WW)=>show(WW.cell? ⟨W.heap.size,0,none⟩=some (.slice p1 p.progs.length c1)/\WW.cell? ⟨W.heap.size,1,none⟩=some (.slice p2 p.enums.length c2)/\WW.cell? ⟨W.heap.size+1,0,none⟩=some (.slice p3 q.progs.length c3)/\WW.cell? ⟨W.heap.size+1,1,none⟩=some (.slice p4 q.enums.length c4))from⟨T.cell 1 rfl 0,T.cell 1 rfl 1,T.cell 0 rfl 0,T.cell 0 rfl 1⟩);have CG:=Lib.hid (fun WW (T:ST W [] [⟨W.heap.size+1,#[.slice p3 q.progs.length c3,.slice p4 q.enums.length c4],25⟩,⟨W.heap.size,#[.slice p1 p.progs.length c1,.slice p2 p.enums.length c2],25⟩] WW)=>qkm p q p1 p2 p3 p4 c1 c2 c3 c4 WW (show Pl p q p1 p2 p3 p4 c1 c2 c3 c4 WW from⟨hG.g0.bel VProg.stays T.bel,hG.g1.bel VEnum.stays T.bel,hG.g2.bel VProg.stays T.bel,hG.g3.bel VEnum.stays T.bel⟩));have CP0:=Lib.hid (fun WW (T:ST W [] [⟨W.heap.size+1,#[.slice p3 q.progs.length c3,.slice p4 q.enums.length c4],25⟩,⟨W.heap.size,#[.slice p1 p.progs.length c1,.slice p2 p.enums.length c2],25⟩] WW) (hd:Gd p q)=>qga p q p1 p2 p3 p4 c1 c2 c3 c4 _ l WW (show Pl p q p1 p2 p3 p4 c1 c2 c3 c4 WW from⟨hG.g0.bel VProg.stays T.bel,hG.g1.bel VEnum.stays T.bel,hG.g2.bel VProg.stays T.bel,hG.g3.bel VEnum.stays T.bel⟩) hd (hM.below T.bel) (hT.below T.bel) (hv.bel VAdapt.stays T.bel));have CQ0:=Lib.hid (fun WW (T:ST W [] [⟨W.heap.size+1,#[.slice p3 q.progs.length c3,.slice p4 q.enums.length c4],25⟩,⟨W.heap.size,#[.slice p1 p.progs.length c1,.slice p2 p.enums.length c2],25⟩] WW) (hd:Gd p q)=>qjt p q p1 p2 p3 p4 c1 c2 c3 c4 _ l WW (show Pl p q p1 p2 p3 p4 c1 c2 c3 c4 WW from⟨hG.g0.bel VProg.stays T.bel,hG.g1.bel VEnum.stays T.bel,hG.g2.bel VProg.stays T.bel,hG.g3.bel VEnum.stays T.bel⟩) hd (hv.bel VAdapt.stays T.bel));have CT0:=Lib.hid (fun WW (T:ST W [] [⟨W.heap.size+1,#[.slice p3 q.progs.length c3,.slice p4 q.enums.length c4],25⟩,⟨W.heap.size,#[.slice p1 p.progs.length c1,.slice p2 p.enums.length c2],25⟩] WW) (hB:(textR p q l).length<=1000000000)=>rs_Text p q p1 p2 p3 p4 c1 c2 c3 c4 _ l WW (show Pl p q p1 p2 p3 p4 c1 c2 c3 c4 WW from⟨hG.g0.bel VProg.stays T.bel,hG.g1.bel VEnum.stays T.bel,hG.g2.bel VProg.stays T.bel,hG.g3.bel VEnum.stays T.bel⟩) (hP.bel T.bel) (hv.bel VAdapt.stays T.bel) hi hB);have CU0:=Lib.hid (fun WW (T:ST W [] [⟨W.heap.size+1,#[.slice p3 q.progs.length c3,.slice p4 q.enums.length c4],25⟩,⟨W.heap.size,#[.slice p1 p.progs.length c1,.slice p2 p.enums.length c2],25⟩] WW) (hB:(textR p q l).length<=1000000000)=>rf_Text p q p1 p2 p3 p4 c1 c2 c3 c4 _ l WW (show Pl p q p1 p2 p3 p4 c1 c2 c3 c4 WW from⟨hG.g0.bel VProg.stays T.bel,hG.g1.bel VEnum.stays T.bel,hG.g2.bel VProg.stays T.bel,hG.g3.bel VEnum.stays T.bel⟩) (hv.bel VAdapt.stays T.bel) hi hB);have CS:=(fun WW (T:ST W [] [⟨W.heap.size+1,#[.slice p3 q.progs.length c3,.slice p4 q.enums.length c4],25⟩,⟨W.heap.size,#[.slice p1 p.progs.length c1,.slice p2 p.enums.length c2],25⟩] WW)=>rf_Small _ l WW (hv.bel VAdapt.stays T.bel));have HI:=Lib.hid hi;clear hG hP hM hT hS0 hv hi;obtain⟨Z,hZ⟩ : ∃Z,Z=qe1 l:=⟨_,rfl⟩;rw [←hZ]at CS;have CS:=Lib.hid CS;have HZ:=Lib.hid hZ;clear hZ
 go_enter Tryz.func5,Tryz.ntmps5
 go_upto_region 1 with(fail)
 obtain⟨x0,x1,x2,x3⟩:=KS.out _ H0.out
 go_wp2_with (go_at_call 9;(with_reducible refine(CG.out _ H0.out).mono ?_);rintro e' w1 ⟨B,rfl,hB,k1⟩;have k1:Bel _ w1:=k1;have H1:=Lib.hid (H0.out.belw k1);have hB:=Lib.hid hB;obtain⟨x0,x1,x2,x3⟩:=KS.out _ H1.out;clear k1)
 rotate_left 1
 focus
  go_wp2_with (go_at_call 10;(with_reducible refine(CA.out _ H1.out.bel).mono ?_);rintro e' w9 ⟨rfl,k9⟩;have k9:Bel _ w9:=k9)
  go_ret;exact⟨rfl,Bel.of H1.out.bel k9⟩
 have hd:=hB.out (by first|assumption|(simpa using (show(!B)=false by assumption)));cases Z with
 | false=>
  go_wp2_with (first
   | (go_at_call 14;(with_reducible refine(CS.out _ H1.out).mono ?_);rintro e' w2 ⟨rfl,k2⟩;have k2:Bel _ w2:=k2;have H2:=Lib.hid (H1.out.belw k2);clear k2)
   | (go_at_call 10;(with_reducible refine(CA.out _ H2.out.bel).mono ?_);rintro e' w9 ⟨rfl,k9⟩;have k9:Bel _ w9:=k9))
  go_ret;exact⟨rfl,Bel.of H2.out.bel k9⟩
 | true=>
  have hB2:=text_len hd.sw hd.sr HZ.out.symm HI.out;have CP:=(fun WW T=>CP0.out WW T hd);have CQ:=(fun WW T=>CQ0.out WW T hd);have CT:=(fun WW T=>CT0.out WW T hB2);have CU:=(fun WW T=>CU0.out WW T hB2);rw [ql5 hd.vw hd.vr]at CP;generalize qcq p q l=X at CP CQ;generalize textR p q l=Y at CT CU;have ee:(X == X)=true:=by simp
  have yy:((S Y).toList == (S Y).toList)=true:=by simp
  have CP:=Lib.hid CP;have CQ:=Lib.hid CQ;have CT:=Lib.hid CT;have CU:=Lib.hid CU;clear CP0 CQ0 CT0 CU0 hB HZ HI CG hd hB2
  go_upto_region 3 with(go_at_call 14;(with_reducible refine(CS.out _ H1.out).mono ?_);rintro e' w2 ⟨rfl,k2⟩;have k2:Bel _ w2:=k2;have H2:=Lib.hid (H1.out.belw k2);clear k2)
  clear x0 x1 x2 x3 CS H0 H1;obtain⟨wd,hwd⟩ : ∃x,x=w2.drew:=⟨_,rfl⟩;have T:=Lib.hid (show ST W [] [⟨W.heap.size+1,#[.slice p3 q.progs.length c3,.slice p4 q.enums.length c4],25⟩,⟨W.heap.size,#[.slice p1 p.progs.length c1,.slice p2 p.enums.length c2],25⟩] wd by rw [hwd];exact H2.out.belw (Bel.refl _).drew);have HWD:=Lib.hid hwd;clear hwd H2;refine qag (fun WW=>ST W [] [⟨W.heap.size+1,#[.slice p3 q.progs.length c3,.slice p4 q.enums.length c4],25⟩,⟨W.heap.size,#[.slice p1 p.progs.length c1,.slice p2 p.enums.length c2],25⟩] WW) (.take 0 (.take 1 (.take 2 (.take 4 (.take 5 (.take 6 (.alt 3 (.alt 7 (.take 8 (.take 9 (.take 10 (.take 11 (.take 12 (.take 14 (.take 15 (.take 16 (.alt 13 .done .no))))))))) .no) .no))))))) 17 (by kernel_rfl) (by kernel_rfl) HWD.out T.out (fun a ha=>?_)
  (simp only [pickT,List.getD_cons_zero,List.getD_cons_succ])
  have hsz:a.tmps.size=40:=(by rw [ha];kernel_rfl);have a3:a.eval (.tmp 3)=.pointer (some ⟨W.heap.size,0,none⟩):=(by rw [ha];kernel_rfl);have a4:a.eval (.tmp 4)=.pointer (some ⟨W.heap.size+1,0,none⟩):=(by rw [ha];kernel_rfl);have a2:a.eval (.tmp 2)=.slice lq l.length lc:=(by rw [ha];kernel_rfl)
  (with_reducible refine qa1 (v:=?_) rfl (by with_unfolding_all rfl) (fun ρ hρ W hW=>?_) ?_);(rotate_left 1)
  focus(have hS:=KS.out _ hW;clear hW;have p3:=hρ (.tmp 3);(simp +decide only [qa2,hsz,ev_eq,ev_ne,a3,a4,a2]at p3);obtain⟨hc,hfn⟩:=rC135 hρ;clear hρ;go_simp;(all_goals with_reducible first|rfl|(constructor <;> rfl)))
  (with_reducible refine qa1 (v:=?_) rfl (by with_unfolding_all rfl) (fun ρ hρ W hW=>?_) ?_);(rotate_left 1)
  focus(have hS:=KS.out _ hW;clear hW;have p4:=hρ (.tmp 4);(simp +decide only [qa2,hsz,ev_eq,ev_ne,a3,a4,a2]at p4);obtain⟨hc,hfn⟩:=rC135 hρ;clear hρ;go_simp;(all_goals with_reducible first|rfl|(constructor <;> rfl)))
  (with_reducible refine qa1 (v:=?_) rfl (by with_unfolding_all rfl) (fun ρ hρ W hW=>?_) ?_);(rotate_left 1)
  focus(clear hW;have p2:=hρ (.tmp 2);(simp +decide only [qa2,hsz,ev_eq,ev_ne,a3,a4,a2]at p2);obtain⟨hc,hfn⟩:=rC135 hρ;clear hρ;go_simp;(all_goals with_reducible first|rfl|(constructor <;> rfl)))
  (with_reducible refine qa1 (v:=?_) rfl (by with_unfolding_all rfl) (fun ρ hρ W hW=>?_) ?_);(rotate_left 1)
  focus(have hS:=KS.out _ hW;clear hW;have p3:=hρ (.tmp 3);(simp +decide only [qa2,hsz,ev_eq,ev_ne,a3,a4,a2]at p3);obtain⟨hc,hfn⟩:=rC135 hρ;clear hρ;go_simp;(all_goals with_reducible first|rfl|(constructor <;> rfl)))
  (with_reducible refine qa1 (v:=?_) rfl (by with_unfolding_all rfl) (fun ρ hρ W hW=>?_) ?_);(rotate_left 1)
  focus(have hS:=KS.out _ hW;clear hW;have p4:=hρ (.tmp 4);(simp +decide only [qa2,hsz,ev_eq,ev_ne,a3,a4,a2]at p4);obtain⟨hc,hfn⟩:=rC135 hρ;clear hρ;go_simp;(all_goals with_reducible first|rfl|(constructor <;> rfl)))
  (with_reducible refine qa1 (v:=?_) rfl (by with_unfolding_all rfl) (fun ρ hρ W hW=>?_) ?_);(rotate_left 1)
  focus(clear hW;have p2:=hρ (.tmp 2);(simp +decide only [qa2,hsz,ev_eq,ev_ne,a3,a4,a2]at p2);obtain⟨hc,hfn⟩:=rC135 hρ;clear hρ;go_simp;(all_goals with_reducible first|rfl|(constructor <;> rfl)))
  (with_reducible refine qbe (f:=?_) (args:=?_) rfl (by with_unfolding_all rfl) (fun ρ hρ=>?_) ?_ ?_);(rotate_left 2)
  focus(have p17:=hρ (.tmp 17);have p18:=hρ (.tmp 18);(simp +decide only [qa2,hsz,ev_eq,ev_ne,a3,a4,a2]at p17 p18);have p19:=hρ (.tmp 19);(simp +decide only [qa2,hsz,ev_eq,ev_ne,a3,a4,a2]at p19);obtain⟨hc,hfn⟩:=rC135 hρ;clear hρ;rw [qad (hfn _)];clear hfn;go_simp;(all_goals with_reducible first|rfl|(constructor <;> rfl)))
  with_reducible refine(CP.out _ T.out).mono ?_
  rintro e' w_3 ⟨rfl,g⟩;have g:Bel _ w_3:=g;have T:=Lib.hid (T.out.belw g);clear g;refine⟨_,rfl,T.out,?_⟩;rotate_left 1
  focus exact qak
  (with_reducible refine qbe (f:=?_) (args:=?_) rfl (by with_unfolding_all rfl) (fun ρ hρ=>?_) ?_ ?_);(rotate_left 2)
  focus(have p21:=hρ (.tmp 21);have p22:=hρ (.tmp 22);(simp +decide only [qa2,hsz,ev_eq,ev_ne,a3,a4,a2]at p21 p22);have p23:=hρ (.tmp 23);(simp +decide only [qa2,hsz,ev_eq,ev_ne,a3,a4,a2]at p23);obtain⟨hc,hfn⟩:=rC135 hρ;clear hρ;rw [qad (hfn _)];clear hfn;go_simp;(all_goals with_reducible first|rfl|(constructor <;> rfl)))
  with_reducible refine(CQ.out _ T.out).mono ?_
  rintro e' w_7 ⟨rfl,g⟩;have g:Bel _ w_7:=g;have T:=Lib.hid (T.out.belw g);clear g;refine⟨_,rfl,T.out,?_⟩;rotate_left 1
  focus exact qak
  (with_reducible refine qa1 (v:=.bool true) rfl (by with_unfolding_all rfl) (fun ρ hρ W hW=>?_) ?_);skip
  focus(clear hW;have p20:=hρ (.tmp 20);have p24:=hρ (.tmp 24);(simp +decide only [qa2,hsz,ev_eq,ev_ne,a3,a4,a2]at p20 p24);obtain⟨hc,hfn⟩:=rC135 hρ;clear hρ;go_simp;(first|done|(all_goals with_reducible first|rfl|(constructor <;> rfl))|(simp only [ee];done)|(simp [ee];done)|((try simp only [ee]);done)))
  (with_reducible refine qa1 (v:=.bool true) rfl (by with_unfolding_all rfl) (fun ρ hρ W hW=>?_) ?_);skip
  focus(clear hW;have p25:=hρ (.tmp 25);(simp +decide only [qa2,hsz,ev_eq,ev_ne,a3,a4,a2]at p25);obtain⟨hc,hfn⟩:=rC135 hρ;clear hρ;go_simp;(first|done|(all_goals with_reducible first|rfl|(constructor <;> rfl))|(simp only [ee];done)|(simp [ee];done)|((try simp only [ee]);done)))
  (with_reducible refine qa9 (v:=?_) (t:=26) rfl rfl (by with_unfolding_all rfl) ?_ (fun ρ hρ W hW=>?_) ?_);(rotate_left 1)
  focus(simp +decide only [qa2,hsz,ev_eq,ev_ne,a3,a4,a2])
  focus(have hS:=KS.out _ hW;clear hW;have p3:=hρ (.tmp 3);(simp +decide only [qa2,hsz,ev_eq,ev_ne,a3,a4,a2]at p3);obtain⟨hc,hfn⟩:=rC135 hρ;clear hρ;go_simp;(all_goals with_reducible first|rfl|(constructor <;> rfl)))
  (with_reducible refine qa9 (v:=?_) (t:=26) rfl rfl (by with_unfolding_all rfl) ?_ (fun ρ hρ W hW=>?_) ?_);(rotate_left 1)
  focus(simp +decide only [qa2,hsz,ev_eq,ev_ne,a3,a4,a2])
  focus(have hS:=KS.out _ hW;clear hW;have p4:=hρ (.tmp 4);(simp +decide only [qa2,hsz,ev_eq,ev_ne,a3,a4,a2]at p4);obtain⟨hc,hfn⟩:=rC135 hρ;clear hρ;go_simp;(all_goals with_reducible first|rfl|(constructor <;> rfl)))
  (with_reducible refine qa9 (v:=?_) (t:=26) rfl rfl (by with_unfolding_all rfl) ?_ (fun ρ hρ W hW=>?_) ?_);(rotate_left 1)
  focus(simp +decide only [qa2,hsz,ev_eq,ev_ne,a3,a4,a2])
  focus(clear hW;have p2:=hρ (.tmp 2);(simp +decide only [qa2,hsz,ev_eq,ev_ne,a3,a4,a2]at p2);obtain⟨hc,hfn⟩:=rC135 hρ;clear hρ;go_simp;(all_goals with_reducible first|rfl|(constructor <;> rfl)))
  (with_reducible refine qa9 (v:=?_) (t:=26) rfl rfl (by with_unfolding_all rfl) ?_ (fun ρ hρ W hW=>?_) ?_);(rotate_left 1)
  focus(simp +decide only [qa2,hsz,ev_eq,ev_ne,a3,a4,a2])
  focus(have hS:=KS.out _ hW;clear hW;have p3:=hρ (.tmp 3);(simp +decide only [qa2,hsz,ev_eq,ev_ne,a3,a4,a2]at p3);obtain⟨hc,hfn⟩:=rC135 hρ;clear hρ;go_simp;(all_goals with_reducible first|rfl|(constructor <;> rfl)))
  (with_reducible refine qa9 (v:=?_) (t:=26) rfl rfl (by with_unfolding_all rfl) ?_ (fun ρ hρ W hW=>?_) ?_);(rotate_left 1)
  focus(simp +decide only [qa2,hsz,ev_eq,ev_ne,a3,a4,a2])
  focus(have hS:=KS.out _ hW;clear hW;have p4:=hρ (.tmp 4);(simp +decide only [qa2,hsz,ev_eq,ev_ne,a3,a4,a2]at p4);obtain⟨hc,hfn⟩:=rC135 hρ;clear hρ;go_simp;(all_goals with_reducible first|rfl|(constructor <;> rfl)))
  (with_reducible refine qa9 (v:=?_) (t:=26) rfl rfl (by with_unfolding_all rfl) ?_ (fun ρ hρ W hW=>?_) ?_);(rotate_left 1)
  focus(simp +decide only [qa2,hsz,ev_eq,ev_ne,a3,a4,a2])
  focus(clear hW;have p2:=hρ (.tmp 2);(simp +decide only [qa2,hsz,ev_eq,ev_ne,a3,a4,a2]at p2);obtain⟨hc,hfn⟩:=rC135 hρ;clear hρ;go_simp;(all_goals with_reducible first|rfl|(constructor <;> rfl)))
  (with_reducible refine qbu (f:=?_) (args:=?_) (t:=26) rfl rfl (by with_unfolding_all rfl) ?_ (fun ρ hρ=>?_) ?_ ?_);(rotate_left 2)
  focus(simp +decide only [qa2,hsz,ev_eq,ev_ne,a3,a4,a2])
  focus(have p27:=hρ (.tmp 27);have p28:=hρ (.tmp 28);(simp +decide only [qa2,hsz,ev_eq,ev_ne,a3,a4,a2]at p27 p28);have p29:=hρ (.tmp 29);(simp +decide only [qa2,hsz,ev_eq,ev_ne,a3,a4,a2]at p29);obtain⟨hc,hfn⟩:=rC135 hρ;clear hρ;rw [qad (hfn _)];clear hfn;go_simp;(all_goals with_reducible first|rfl|(constructor <;> rfl)))
  with_reducible refine(CT.out _ T.out).mono ?_
  rintro e' w_13 ⟨rfl,g⟩;have g:Bel _ w_13:=g;have T:=Lib.hid (T.out.belw g);clear g;refine⟨_,rfl,T.out,?_⟩;rotate_left 1
  focus exact qak
  with_reducible refine qan ?_
  (simp only [List.drop_succ_cons,List.drop_zero])
  subst ha
  (simp only [qaz,set_s,set_z])
  obtain⟨x0,x1,x2,x3⟩:=KS.out _ T.out
  go_wp2_with (first
   | (go_at_call 24;(with_reducible refine(CU.out _ T.out).mono ?_);rintro e' w5 ⟨rfl,k5⟩;have k5:Bel _ w5:=k5;have H5:=Lib.hid (T.out.belw k5);clear k5)
   | (go_at_call 10;(with_reducible refine(CA.out _ H5.out.bel).mono ?_);rintro e' w9 ⟨rfl,k9⟩;have k9:Bel _ w9:=k9))
  go_ret;exact⟨rfl,Bel.of H5.out.bel k9⟩
end Go.Proofs.YtgpjhibdongmbaaGreatDoor
