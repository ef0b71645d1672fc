import Derived.Test.YtgpjhibdongmbaaGreatDoorRsWro
import Derived.Test.YtgpjhibdongmbaaGreatDoorOrd
import Derived.Test.YtgpjhibdongmbaaGreatDoorPrRef2
import Derived.Test.YtgpjhibdongmbaaGreatDoorTreeG
set_option maxRecDepth 100000
set_option maxHeartbeats 4000000
set_option linter.unusedVariables false
set_option linter.unusedSimpArgs false
namespace Go.Proofs.YtgpjhibdongmbaaGreatDoor
open Go.RowKit Ck Rs
theorem rC74 {a:Act} {ρ:Operand->Value} (h : ∀x,ρ x=a.eval x):(∀c,ρ (.const c)=c)/\∀f,ρ (.func f)=.func (.func f) #[] #[]:=⟨fun c=>h (.const c),fun f=>h (.func f)⟩
theorem qd4 (n:Nat):madeCells #[.bool false] n=((List.replicate n false).map Value.bool).toArray:=by
 apply Array.ext
 ·simp [madeCells]
 ·intro i h1 h2
  simp [madeCells,Nat.mod_one]
theorem qeg (F:List Bool) (i:Nat) (b:Bool):((F.map Value.bool).toArray).setIfInBounds i (.bool b)=((F.set i b).map Value.bool).toArray:=by
 simp [List.map_set]
theorem qdb (F:List Bool) (i:Nat) (h:i<F.length):((F.map Value.bool).toArray)[i]? = some (.bool (F.getD i false)):=by
 simp [List.getD,h]
theorem cl_end (p:PPlan) (o:POp) (vs:List Value) (F:List Bool) (B bf c:Nat) (W:World) (hv:VOp W vs o) (hB:W.cell? ⟨B,0,none⟩=some (.slice (some ⟨bf,0,none⟩) F.length c)) (hF : ∀j,j<F.length->W.cell? ⟨bf,j,none⟩=some (.bool (F.getD j false))) (ht:o.kind=10->0<=o.tgt/\o.tgt<F.length) :
  Calls Tryz.prog 151 #[.agg vs.toArray,.pointer (some ⟨B,0,none⟩)] W fun e' w'=>e'=.returned (.bool (!okAt F o))/\Bel W w':=by
 obtain rfl:vs=[.int .i64 o.num,.string (S o.name),.string (S o.ali),.int .i64 o.card,.int .i64 o.key,.int .i64 o.kind,.int .i64 o.tgt,.int .i64 o.un]:=hv;have hlt:B<W.heap.size:=World.block_lt_of_cell? W _ hB;have hS0:=(Bel.refl W).alloc (.cells #[.int .i64 o.num,.string (S o.name),.string (S o.ali),.int .i64 o.card,.int .i64 o.key,.int .i64 o.kind,.int .i64 o.tgt,.int .i64 o.un] 54);by_cases h1:o.card=1
 ·have hb1:(o.card == 1)=true:=by rw [h1];rfl
  by_cases h2:o.kind=10
  ·have hb2:(o.kind == 10)=true:=by rw [h2];rfl
   obtain⟨t0,t1⟩:=ht h2;obtain⟨t,htt⟩ : ∃t:Nat,o.tgt=(t:Int):=⟨o.tgt.toNat,by omega⟩;have V:=Lib.hid (show(!okAt F o) = !F.getD t false by unfold okAt;rw [decide_eq_false (by omega),Bool.false_or,htt,Int.toNat_natCast]);have e0:=hF t (by omega);have hlf:bf<W.heap.size:=World.block_lt_of_cell? W _ e0;rw [htt]at t0 t1 ⊢ hS0;generalize F.getD t false=X at *;clear h1 h2 ht htt hF
   go_enter Tryz.func151,Tryz.ntmps151
   go_wp2;go_ret
   exact⟨qa3 (by first|(exact V.out.symm)|(rw [V.out];done)|(rw [V.out];simp [*])),hS0⟩
  ·have hb2:(o.kind == 10)=false:=beq_eq_false_iff_ne.2 h2
   have V:=Lib.hid (show(!okAt F o)=false by unfold okAt;rw [decide_eq_true (.inr h2)];rfl);clear h1 h2 ht hF
   go_enter Tryz.func151,Tryz.ntmps151
   go_wp2;go_ret
   exact⟨qa3 (by first|(exact V.out.symm)|(rw [V.out];done)|(rw [V.out];simp [*])),hS0⟩
 ·have hb1:(o.card == 1)=false:=beq_eq_false_iff_ne.2 h1
  have V:=Lib.hid (show(!okAt F o)=false by unfold okAt;rw [decide_eq_true (.inl h1)];rfl);clear h1 ht hF
  go_enter Tryz.func151,Tryz.ntmps151
  go_wp2;go_ret
  exact⟨qa3 (by first|(exact V.out.symm)|(rw [V.out];done)|(rw [V.out];simp [*])),hS0⟩
theorem co_bool (q:Option Addr) (n c:Nat) (W:World) (hn:n<=1000) (hF : ∃b,q=some ⟨b,0,none⟩/\∀j,j<n->W.cell? ⟨b,j,none⟩=some (.bool true)) :
  Calls Tryz.prog 152 #[.slice q n c,.bool false] W fun e w'=>e=.returned (.bool false)/\Bel W w':=by
 have CI:Calls Tryz.prog 185 #[.slice q n c,.bool false] W fun e w'=>e=.returned (.int .i64 (-1))/\Bel W w':=by
  obtain⟨b,rfl,hF⟩:=hF;have HF:=Lib.hid hF;clear hF
  go_enter Tryz.func185,Tryz.ntmps185
  go_wp2
  go_loopw [8] (fun i wr => ∃k:Nat,k<=n/\i=.int .i64 k/\Bel W wr) (fun i _=>n-(intOf i).toNat)
  case atStart=>exact⟨0,by omega,rfl,Bel.refl _⟩
  case round=>as_aux_lemma=>
   obtain⟨k,hk,rfl,kw⟩:=hrel;by_cases hlt:k<n
   ·have hki:(k:Int)<(n:Int):=by omega
    have e0:=kw.some (HF.out k hlt);go_wp2;go_roundw
    case rel=>exact⟨k+1,by omega,by go_num,kw⟩
    case measure=>simp [intOf];omega
   ·have hki : ¬(k:Int)<(n:Int):=by omega
    go_wp2;go_ret
    exact⟨rfl,kw⟩
 have C:=Lib.hid CI;clear CI hF
 go_enter Tryz.func152,Tryz.ntmps152
 go_wp2_with (go_at_call 185;(with_reducible refine C.out.mono ?_);rintro e' w1 ⟨rfl,k1⟩;have k1:Bel _ w1:=k1)
 go_ret;exact⟨rfl,k1⟩
theorem qjc (p:PPlan) (vs:List Value) (w:World) (hv:VPlan w vs p) (hl:p.progs.length<=64) (hA:Aimed p) (hf : ∀x ∈ fins p p.progs.length (List.replicate p.progs.length false),x=true) :
  Calls Tryz.prog 89 #[.agg vs.toArray] w fun e' w'=>e'=.returned (.bool false)/\Bel w w':=by
 obtain⟨q1,q2,c1,c2,rfl,h1,h2,l1,l2⟩:=hv.form;have hmk:=run_make_row' (P:=Tryz.prog) 119 4 (.bool false) 1 Tryz.underlying119 qhe rfl .i64 .i64 p.progs.length (by omega) (by omega);have hS0:=(ST.start w).addbox #[.slice q1 p.progs.length c1,.slice q2 p.enums.length c2] 25;have H1:=Lib.hid h1;have HA:=Lib.hid hA;have HF:=Lib.hid hf;obtain⟨q',c',he,_,hcap,hel⟩:=h1;cases he;have EL:=Lib.hid hel;clear hv h2 hel hA hf
 go_enter Tryz.func89,Tryz.ntmps89
 go_upto_region 2 with(fail)
 have HS0:=(hS0.addbox (madeCells #[.bool false] p.progs.length) 4).addbox #[.slice (some ⟨w.heap.size+1,0,none⟩) p.progs.length p.progs.length] 119;simp only [World.size_alloc]at HS0;generalize World.alloc (World.alloc (World.alloc w _) _) _=wp at HS0 ⊢;rw [qd4]at HS0;generalize w.heap.size+1+1=b3 at HS0 ⊢;generalize w.heap.size+1=bf at HS0 ⊢;have t0:=HS0.cell 2 rfl 0;dsimp only at t0;have HS:=Lib.hid HS0;obtain⟨T,hT⟩ : ∃T,T=fins p p.progs.length (List.replicate p.progs.length false):=⟨_,rfl⟩;have V:=Lib.hid (show fins p (p.progs.length-0) (List.replicate p.progs.length false)=T from hT.symm);have HTL:=Lib.hid (show T.length=p.progs.length by rw [hT,qfy,List.length_replicate]);have HF:=Lib.hid (show ∀x ∈ T,x=true by rw [hT];exact HF.out);clear hT;clear hmk hS0 HS0;go_wp2
 go_loopw [13] (fun i wr => ∃(r:Nat) (F:List Bool),r<=p.progs.length/\i=.int .i64 r/\Hid (F.length=p.progs.length)/\Hid (fins p (p.progs.length-r) F=T)/\Hid (ST w [] [⟨b3,#[.slice (some ⟨bf,0,none⟩) p.progs.length p.progs.length],119⟩,⟨bf,(F.map Value.bool).toArray,4⟩,⟨w.heap.size,#[.slice q1 p.progs.length c1,.slice q2 p.enums.length c2],25⟩] wr)) (fun i _=>p.progs.length-(intOf i).toNat)
 case atStart=>exact⟨0,_,by omega,rfl,Lib.hid List.length_replicate,V,HS⟩
 case round=>as_aux_lemma=>
  clear t0 V HS;obtain⟨r,F,hr,rfl,hFl,hgo,hS⟩:=hrel;by_cases hlt:r<p.progs.length
  ·have hri:(r:Int)<(p.progs.length:Int):=by omega
   have t0:=hS.out.cell 2 rfl 0;dsimp only at t0;obtain⟨G,hG⟩ : ∃G,G=finGo p.progs 0 F:=⟨_,rfl⟩
   have HG:=Lib.hid (show fins p (p.progs.length-(r+1)) G=T by
    rw [←hgo.out,show p.progs.length-r=(p.progs.length-(r+1))+1 by omega,hG]
    rfl)
   have HR1:=Lib.hid (show finGo (p.progs.drop 0) 0 F=G from hG.symm);clear hG hgo HF HTL;go_wp2
   go_loopw [18] (fun i wi => ∃(k:Nat) (F2:List Bool),k<=p.progs.length/\i=.int .i64 k/\Hid (F2.length=p.progs.length)/\Hid (finGo (p.progs.drop k) k F2=G)/\Hid (ST w [] [⟨b3,#[.slice (some ⟨bf,0,none⟩) p.progs.length p.progs.length],119⟩,⟨bf,(F2.map Value.bool).toArray,4⟩,⟨w.heap.size,#[.slice q1 p.progs.length c1,.slice q2 p.enums.length c2],25⟩] wi)) (fun i _=>p.progs.length-(intOf i).toNat)
   case atStart=>exact⟨0,F,by omega,rfl,hFl,HR1,hS⟩
   case round=>as_aux_lemma=>
    clear t0 HR1 hS hFl;obtain⟨k,F2,hk,rfl,hFl,hgo,hS⟩:=hrel;by_cases hlt2:k<p.progs.length
    ·have hki:(k:Int)<(p.progs.length:Int):=by omega
     have hk0:(0:Int)<=(k:Int):=by omega
     have hg:p.progs[k]? = some p.progs[k]:=List.getElem?_eq_getElem hlt2;obtain⟨b,off,rfl,hbs,vs,hce,hvs⟩:=EL.out k _ hg;have hst:=hgo.out;rw [List.drop_eq_getElem_cons hlt2]at hst;have hgm:=List.getElem_mem hlt2;have AM:=Lib.hid (HA.out _ hgm);clear hgo hg EL H1 HA hgm;generalize p.progs[k]=g at *;obtain⟨oq,oc,rfl,ho,lo⟩:=hvs.form;have HST:=Lib.hid (show finGo (p.progs.drop (k+1)) (k+1) (F2.set k (F2.getD k false || okG F2 g))=G from hst);have e0:=hS.out.bel.some (hce 0 _ rfl);rw [Nat.add_zero]at e0;have e1:=hS.out.bel.some (hce 1 _ rfl);have e2:=hS.out.bel.some (hce 2 _ rfl);have HX:=Lib.hid (hS.out.addbox #[.string (S g.name),.slice oq g.ops.length oc,.int .i64 g.uns] 52);have HO:=Lib.hid ho
     have C:=Lib.hid (fun W (T:ST w [] (⟨wr.heap.size,#[.string (S g.name),.slice oq g.ops.length oc,.int .i64 g.uns],52⟩ :: [⟨b3,#[.slice (some ⟨bf,0,none⟩) p.progs.length p.progs.length],119⟩,⟨bf,(F2.map Value.bool).toArray,4⟩,⟨w.heap.size,#[.slice (some ⟨b,off,none⟩) p.progs.length c1,.slice q2 p.enums.length c2],25⟩]) W)=>show Calls Tryz.prog 116 #[.slice oq g.ops.length oc,.func (.func 151) #[] #[.pointer (some ⟨b3,0,none⟩)]] W (fun e w'=>e=.returned (.bool (!okG F2 g))/\Bel W w')from by
      have:=so_Op VOp VOp.len 151 #[.pointer (some ⟨b3,0,none⟩)] (enters_of Tryz.func151 (by kernel_rfl) rfl) (.slice oq g.ops.length oc) g.ops (fun o => !okAt F2 o) W (HO.out.bel VOp.stays T.bel) (fun x vs' W2 hx hv' hb=>cl_end p x vs' F2 b3 bf p.progs.length W2 hv' (hb.some (by have:=T.cell 1 rfl 0;dsimp only at this;rw [this,hFl.out];rfl)) (fun j hj=>hb.some (by have:=T.cell 2 rfl j;dsimp only at this;rw [this];exact qdb F2 j hj)) (fun h10=>by have:=(AM.out x hx).1 h10;rw [hFl.out];exact this));rw [qhh]at this
      exact this)
     have hFB:=Lib.hid (show ∀W,ST w [] (⟨wr.heap.size,#[.string (S g.name),.slice oq g.ops.length oc,.int .i64 g.uns],52⟩ :: [⟨b3,#[.slice (some ⟨bf,0,none⟩) p.progs.length p.progs.length],119⟩,⟨bf,(F2.map Value.bool).toArray,4⟩,⟨w.heap.size,#[.slice (some ⟨b,off,none⟩) p.progs.length c1,.slice q2 p.enums.length c2],25⟩]) W->W.cell? ⟨bf,k,none⟩=some (.bool (F2.getD k false))from fun W T=>by have:=T.cell 2 rfl k;dsimp only at this;rw [this];exact qdb F2 k (by rw [hFl.out];exact hlt2));have HSET:=Lib.hid (show ∀W (X:Bool),ST w [] (⟨wr.heap.size,#[.string (S g.name),.slice oq g.ops.length oc,.int .i64 g.uns],52⟩ :: [⟨b3,#[.slice (some ⟨bf,0,none⟩) p.progs.length p.progs.length],119⟩,⟨bf,(F2.map Value.bool).toArray,4⟩,⟨w.heap.size,#[.slice (some ⟨b,off,none⟩) p.progs.length c1,.slice q2 p.enums.length c2],25⟩]) W->ST w [] [⟨b3,#[.slice (some ⟨bf,0,none⟩) p.progs.length p.progs.length],119⟩,⟨bf,((F2.set k X).map Value.bool).toArray,4⟩,⟨w.heap.size,#[.slice (some ⟨b,off,none⟩) p.progs.length c1,.slice q2 p.enums.length c2],25⟩] (W.setCell ⟨bf,k,none⟩ (.bool X))from fun W X T=>by rw [←qeg];exact(T.setbox 2 rfl k (.bool X)).dropbox0);have HLS:=Lib.hid (fun X:Bool=>show(F2.set k X).length=p.progs.length by rw [List.length_set,hFl.out]);clear hst hce hvs ho AM HO;generalize okG F2 g=O at HST C;generalize F2.getD k false=Y at HST hFB
     go_upto_region 7 with(fail)
     obtain⟨wd,hwd⟩ : ∃wd,wd=(wr.alloc (.cells #[.string (S g.name),.slice oq g.ops.length oc,.int .i64 g.uns] 52)).drew:=⟨_,rfl⟩;have T:=HX.out.belw ((Bel.refl _).drew);rw [←hwd]at T;have T:=Lib.hid T;have HWD:=Lib.hid hwd;clear hwd e0 e1 e2 HX;have KS:=Lib.hid (fun W (h:ST w [] (⟨wr.heap.size,#[.string (S g.name),.slice oq g.ops.length oc,.int .i64 g.uns],52⟩ :: [⟨b3,#[.slice (some ⟨bf,0,none⟩) p.progs.length p.progs.length],119⟩,⟨bf,(F2.map Value.bool).toArray,4⟩,⟨w.heap.size,#[.slice (some ⟨b,off,none⟩) p.progs.length c1,.slice q2 p.enums.length c2],25⟩]) W)=>show W.cell? ⟨b3,0,none⟩=some (.slice (some ⟨bf,0,none⟩) p.progs.length p.progs.length)/\W.cell? ⟨bf,k,none⟩=some (.bool Y)/\W.cell? ⟨wr.heap.size,1,none⟩=some (.slice oq g.ops.length oc)from⟨h.cell 1 rfl 0,hFB.out W h,h.cell 0 rfl 1⟩);cases Y with
     | true=>
      have HST2:=Lib.hid (show _=G by rw [←HST.out,Bool.true_or]);refine qao (fun W=>ST w [] (⟨wr.heap.size,#[.string (S g.name),.slice oq g.ops.length oc,.int .i64 g.uns],52⟩ :: [⟨b3,#[.slice (some ⟨bf,0,none⟩) p.progs.length p.progs.length],119⟩,⟨bf,(F2.map Value.bool).toArray,4⟩,⟨w.heap.size,#[.slice (some ⟨b,off,none⟩) p.progs.length c1,.slice q2 p.enums.length c2],25⟩]) W) (.take 0 (.take 1 (.take 2 (.take 3 (.take 4 (.take 5 (.take 6 (.take 7 (.take 8 (.alt 9 (.alt 10 (.take 11 (.take 12 .done)) .no) .no)))))))))) 13 (by kernel_rfl) (by kernel_rfl) HWD.out T.out (fun a ha=>?_)
      (simp only [pickT,List.getD_cons_zero,List.getD_cons_succ])
      have hsz:a.tmps.size=41:=(by rw [ha];kernel_rfl);have a3:a.eval (.tmp 3)=.pointer (some ⟨b3,0,none⟩):=(by rw [ha];kernel_rfl);have a4:a.eval (.tmp 4)=.int .i64 k:=(by rw [ha];kernel_rfl);have a5:a.eval (.tmp 5)=.pointer (some ⟨wr.heap.size,0,none⟩):=(by rw [ha];kernel_rfl)
      (with_reducible refine qa1 (v:=?_) rfl (by with_unfolding_all rfl) (fun ρ hρ W hW=>?_) ?_);(rotate_left 1)
      focus(have hS:=KS.out _ hW;clear hW;have p3:=hρ (.tmp 3);(simp +decide only [qa2,hsz,ev_eq,ev_ne,a3,a4,a5]at p3);obtain⟨hc,hfn⟩:=rC74 hρ;clear hρ;go_simp;(all_goals with_reducible first|rfl|(constructor <;> rfl)))
      (with_reducible refine qa1 (v:=?_) rfl (by with_unfolding_all rfl) (fun ρ hρ W hW=>?_) ?_);(rotate_left 1)
      focus(clear hW;have p4:=hρ (.tmp 4);(simp +decide only [qa2,hsz,ev_eq,ev_ne,a3,a4,a5]at p4);obtain⟨hc,hfn⟩:=rC74 hρ;clear hρ;go_simp;(all_goals with_reducible first|rfl|(constructor <;> rfl)))
      (with_reducible refine qa1 (v:=?_) rfl (by with_unfolding_all rfl) (fun ρ hρ W hW=>?_) ?_);(rotate_left 1)
      focus(have hS:=KS.out _ hW;clear hW;have p3:=hρ (.tmp 3);(simp +decide only [qa2,hsz,ev_eq,ev_ne,a3,a4,a5]at p3);obtain⟨hc,hfn⟩:=rC74 hρ;clear hρ;go_simp;(all_goals with_reducible first|rfl|(constructor <;> rfl)))
      (with_reducible refine qa1 (v:=?_) rfl (by with_unfolding_all rfl) (fun ρ hρ W hW=>?_) ?_);(rotate_left 1)
      focus(clear hW;have p4:=hρ (.tmp 4);(simp +decide only [qa2,hsz,ev_eq,ev_ne,a3,a4,a5]at p4);obtain⟨hc,hfn⟩:=rC74 hρ;clear hρ;go_simp;(all_goals with_reducible first|rfl|(constructor <;> rfl)))
      (with_reducible refine qa1 (v:=?_) rfl (by with_unfolding_all rfl) (fun ρ hρ W hW=>?_) ?_);(rotate_left 1)
      focus(clear hW;have p25:=hρ (.tmp 25);have p26:=hρ (.tmp 26);(simp +decide only [qa2,hsz,ev_eq,ev_ne,a3,a4,a5]at p25 p26);obtain⟨hc,hfn⟩:=rC74 hρ;clear hρ;go_simp;(all_goals with_reducible first|rfl|(constructor <;> rfl)))
      (with_reducible refine qa1 (v:=?_) rfl (by with_unfolding_all rfl) (fun ρ hρ W hW=>?_) ?_);(rotate_left 1)
      focus(have hS:=KS.out _ hW;clear hW;have p27:=hρ (.tmp 27);(simp +decide only [qa2,hsz,ev_eq,ev_ne,a3,a4,a5]at p27);obtain⟨hc,hfn⟩:=rC74 hρ;clear hρ;go_simp;(all_goals with_reducible first|rfl|(constructor <;> rfl)))
      (with_reducible refine qa1 (v:=.bool true) rfl (by with_unfolding_all rfl) (fun ρ hρ W hW=>?_) ?_);skip
      focus(clear hW;have p28:=hρ (.tmp 28);(simp +decide only [qa2,hsz,ev_eq,ev_ne,a3,a4,a5]at p28);obtain⟨hc,hfn⟩:=rC74 hρ;clear hρ;go_simp;(first|done|(all_goals with_reducible first|rfl|(constructor <;> rfl))|(simp only [];done)|(simp [];done)|((try simp only []);done)))
      with_reducible refine qaa (c:=true) (t:=29) rfl rfl (by with_unfolding_all rfl) ?_ rfl ?_
      focus(simp +decide only [qa2,hsz,ev_eq,ev_ne,a3,a4,a5])
      with_reducible refine qaa (c:=true) (t:=29) rfl rfl (by with_unfolding_all rfl) ?_ rfl ?_
      focus(simp +decide only [qa2,hsz,ev_eq,ev_ne,a3,a4,a5])
      with_reducible refine qc8 (c:=true) (t:=29) rfl rfl (by with_unfolding_all rfl) ?_ rfl ?_ ?_ ?_
      focus(simp +decide only [qa2,hsz,ev_eq,ev_ne,a3,a4,a5])
      focus exact T.out
      rotate_left 1
      focus exact qax
      with_reducible refine qc8 (c:=true) (t:=29) rfl rfl (by with_unfolding_all rfl) ?_ rfl ?_ ?_ ?_
      focus(simp +decide only [qa2,hsz,ev_eq,ev_ne,a3,a4,a5])
      focus exact T.out
      rotate_left 1
      focus exact qax
      with_reducible refine qaa (c:=true) (t:=29) rfl rfl (by with_unfolding_all rfl) ?_ rfl ?_
      focus(simp +decide only [qa2,hsz,ev_eq,ev_ne,a3,a4,a5])
      (with_reducible refine qa1 (v:=?_) rfl (by with_unfolding_all rfl) (fun ρ hρ W hW=>?_) ?_);(rotate_left 1)
      focus(clear hW;have p29:=hρ (.tmp 29);have p34:=hρ (.tmp 34);(simp +decide only [qa2,hsz,ev_eq,ev_ne,a3,a4,a5]at p29 p34);obtain⟨hc,hfn⟩:=rC74 hρ;clear hρ;go_simp;(all_goals with_reducible first|rfl|(constructor <;> rfl)))
      with_reducible refine qb3 ?_
      (simp only [List.drop_succ_cons,List.drop_zero])
      subst ha
      (simp only [qbf,set_s,set_z])
      have y:=hFB.out _ T.out;have yf:=T.out.frz 2 rfl k;dsimp only at yf;go_wp2;go_roundw
      case rel=>exact⟨k+1,_,by omega,by go_num,Lib.hid (HLS.out true),HST2,Lib.hid (by have h:=HSET.out _ true T.out;simpa using h)⟩
      case measure=>simp [intOf];omega
     | false=>
      have HST2:=Lib.hid (show _=G by rw [←HST.out,Bool.false_or]);refine qao (fun W=>ST w [] (⟨wr.heap.size,#[.string (S g.name),.slice oq g.ops.length oc,.int .i64 g.uns],52⟩ :: [⟨b3,#[.slice (some ⟨bf,0,none⟩) p.progs.length p.progs.length],119⟩,⟨bf,(F2.map Value.bool).toArray,4⟩,⟨w.heap.size,#[.slice (some ⟨b,off,none⟩) p.progs.length c1,.slice q2 p.enums.length c2],25⟩]) W) (.take 0 (.take 1 (.take 2 (.take 3 (.take 4 (.take 5 (.take 6 (.take 7 (.take 8 (.alt 9 (.alt 10 (.take 11 (.take 12 .done)) .no) .no)))))))))) 13 (by kernel_rfl) (by kernel_rfl) HWD.out T.out (fun a ha=>?_)
      (simp only [pickT,List.getD_cons_zero,List.getD_cons_succ])
      have hsz:a.tmps.size=41:=(by rw [ha];kernel_rfl);have a3:a.eval (.tmp 3)=.pointer (some ⟨b3,0,none⟩):=(by rw [ha];kernel_rfl);have a4:a.eval (.tmp 4)=.int .i64 k:=(by rw [ha];kernel_rfl);have a5:a.eval (.tmp 5)=.pointer (some ⟨wr.heap.size,0,none⟩):=(by rw [ha];kernel_rfl)
      (with_reducible refine qa1 (v:=?_) rfl (by with_unfolding_all rfl) (fun ρ hρ W hW=>?_) ?_);(rotate_left 1)
      focus(have hS:=KS.out _ hW;clear hW;have p3:=hρ (.tmp 3);(simp +decide only [qa2,hsz,ev_eq,ev_ne,a3,a4,a5]at p3);obtain⟨hc,hfn⟩:=rC74 hρ;clear hρ;go_simp;(all_goals with_reducible first|rfl|(constructor <;> rfl)))
      (with_reducible refine qa1 (v:=?_) rfl (by with_unfolding_all rfl) (fun ρ hρ W hW=>?_) ?_);(rotate_left 1)
      focus(clear hW;have p4:=hρ (.tmp 4);(simp +decide only [qa2,hsz,ev_eq,ev_ne,a3,a4,a5]at p4);obtain⟨hc,hfn⟩:=rC74 hρ;clear hρ;go_simp;(all_goals with_reducible first|rfl|(constructor <;> rfl)))
      (with_reducible refine qa1 (v:=?_) rfl (by with_unfolding_all rfl) (fun ρ hρ W hW=>?_) ?_);(rotate_left 1)
      focus(have hS:=KS.out _ hW;clear hW;have p3:=hρ (.tmp 3);(simp +decide only [qa2,hsz,ev_eq,ev_ne,a3,a4,a5]at p3);obtain⟨hc,hfn⟩:=rC74 hρ;clear hρ;go_simp;(all_goals with_reducible first|rfl|(constructor <;> rfl)))
      (with_reducible refine qa1 (v:=?_) rfl (by with_unfolding_all rfl) (fun ρ hρ W hW=>?_) ?_);(rotate_left 1)
      focus(clear hW;have p4:=hρ (.tmp 4);(simp +decide only [qa2,hsz,ev_eq,ev_ne,a3,a4,a5]at p4);obtain⟨hc,hfn⟩:=rC74 hρ;clear hρ;go_simp;(all_goals with_reducible first|rfl|(constructor <;> rfl)))
      (with_reducible refine qa1 (v:=?_) rfl (by with_unfolding_all rfl) (fun ρ hρ W hW=>?_) ?_);(rotate_left 1)
      focus(clear hW;have p25:=hρ (.tmp 25);have p26:=hρ (.tmp 26);(simp +decide only [qa2,hsz,ev_eq,ev_ne,a3,a4,a5]at p25 p26);obtain⟨hc,hfn⟩:=rC74 hρ;clear hρ;go_simp;(all_goals with_reducible first|rfl|(constructor <;> rfl)))
      (with_reducible refine qa1 (v:=?_) rfl (by with_unfolding_all rfl) (fun ρ hρ W hW=>?_) ?_);(rotate_left 1)
      focus(have hS:=KS.out _ hW;clear hW;have p27:=hρ (.tmp 27);(simp +decide only [qa2,hsz,ev_eq,ev_ne,a3,a4,a5]at p27);obtain⟨hc,hfn⟩:=rC74 hρ;clear hρ;go_simp;(all_goals with_reducible first|rfl|(constructor <;> rfl)))
      (with_reducible refine qa1 (v:=.bool false) rfl (by with_unfolding_all rfl) (fun ρ hρ W hW=>?_) ?_);skip
      focus(clear hW;have p28:=hρ (.tmp 28);(simp +decide only [qa2,hsz,ev_eq,ev_ne,a3,a4,a5]at p28);obtain⟨hc,hfn⟩:=rC74 hρ;clear hρ;go_simp;(first|done|(all_goals with_reducible first|rfl|(constructor <;> rfl))|(simp only [];done)|(simp [];done)|((try simp only []);done)))
      (with_reducible refine qab (v:=?_) (t:=29) rfl rfl (by with_unfolding_all rfl) ?_ (fun ρ hρ W hW=>?_) ?_);(rotate_left 1)
      focus(simp +decide only [qa2,hsz,ev_eq,ev_ne,a3,a4,a5])
      focus(clear hW;have p5:=hρ (.tmp 5);(simp +decide only [qa2,hsz,ev_eq,ev_ne,a3,a4,a5]at p5);obtain⟨hc,hfn⟩:=rC74 hρ;clear hρ;go_simp;(all_goals with_reducible first|rfl|(constructor <;> rfl)))
      (with_reducible refine qab (v:=?_) (t:=29) rfl rfl (by with_unfolding_all rfl) ?_ (fun ρ hρ W hW=>?_) ?_);(rotate_left 1)
      focus(simp +decide only [qa2,hsz,ev_eq,ev_ne,a3,a4,a5])
      focus(have hS:=KS.out _ hW;clear hW;have p30:=hρ (.tmp 30);(simp +decide only [qa2,hsz,ev_eq,ev_ne,a3,a4,a5]at p30);obtain⟨hc,hfn⟩:=rC74 hρ;clear hρ;go_simp;(all_goals with_reducible first|rfl|(constructor <;> rfl)))
      (with_reducible refine qhm (v:=?_) (w':=?_) (t:=29) rfl rfl (by with_unfolding_all rfl) ?_ (fun ρ hρ=>?_) ?_ ?_ ?_);(rotate_left 2)
      focus(simp +decide only [qa2,hsz,ev_eq,ev_ne,a3,a4,a5])
      focus(have p3:=hρ (.tmp 3);(simp +decide only [qa2,hsz,ev_eq,ev_ne,a3,a4,a5]at p3);obtain⟨hc,hfn⟩:=rC74 hρ;clear hρ;go_simp;(all_goals with_reducible first|rfl|(constructor <;> rfl)))
      focus exact T.out
      rotate_left 1
      focus exact qax
      (with_reducible refine qc3 (f:=?_) (args:=?_) (t:=29) rfl rfl (by with_unfolding_all rfl) ?_ (fun ρ hρ=>?_) ?_ ?_);(rotate_left 2)
      focus(simp +decide only [qa2,hsz,ev_eq,ev_ne,a3,a4,a5])
      focus(have p31:=hρ (.tmp 31);have p32:=hρ (.tmp 32);(simp +decide only [qa2,hsz,ev_eq,ev_ne,a3,a4,a5]at p31 p32);obtain⟨hc,hfn⟩:=rC74 hρ;clear hρ;rw [qbg (hfn _)];clear hfn;go_simp;(all_goals with_reducible first|rfl|(constructor <;> rfl)))
      with_reducible refine(C.out _ T.out).mono ?_
      rintro e' w5 ⟨rfl,g5⟩;have g5:Bel wd w5:=g5;have T:=Lib.hid (T.out.belw g5);clear g5;refine⟨_,rfl,T.out,?_⟩;rotate_left 1
      focus exact qax
      (with_reducible refine qab (v:=?_) (t:=29) rfl rfl (by with_unfolding_all rfl) ?_ (fun ρ hρ W hW=>?_) ?_);(rotate_left 1)
      focus(simp +decide only [qa2,hsz,ev_eq,ev_ne,a3,a4,a5])
      focus(clear hW;have p33:=hρ (.tmp 33);(simp +decide only [qa2,hsz,ev_eq,ev_ne,a3,a4,a5]at p33);obtain⟨hc,hfn⟩:=rC74 hρ;clear hρ;go_simp;(all_goals with_reducible first|rfl|(constructor <;> rfl)))
      (with_reducible refine qa1 (v:=?_) rfl (by with_unfolding_all rfl) (fun ρ hρ W hW=>?_) ?_);(rotate_left 1)
      focus(clear hW;have p29:=hρ (.tmp 29);have p34:=hρ (.tmp 34);(simp +decide only [qa2,hsz,ev_eq,ev_ne,a3,a4,a5]at p29 p34);obtain⟨hc,hfn⟩:=rC74 hρ;clear hρ;go_simp;(all_goals with_reducible first|rfl|(constructor <;> rfl)))
      with_reducible refine qb3 ?_
      (simp only [List.drop_succ_cons,List.drop_zero])
      subst ha
      (simp only [qbf,set_s,set_z])
      have y:=hFB.out _ T.out;have yf:=T.out.frz 2 rfl k;dsimp only at yf;go_wp2;go_roundw
      case rel=>exact⟨k+1,_,by omega,by go_num,Lib.hid (HLS.out O),HST2,Lib.hid (by have h:=HSET.out _ O T.out;simpa using h)⟩
      case measure=>simp [intOf];omega
    ·have hki : ¬(k:Int)<(p.progs.length:Int):=by omega
     have hGF:F2=G:=by rw [←hgo.out,List.drop_eq_nil_of_le (by omega)];rfl
     have HS2:=Lib.hid (hGF ▸ hS.out);have HL2:=Lib.hid (hGF ▸ hFl.out);clear hgo hS hFl hGF;go_wp2;go_roundw
     case rel=>exact⟨r+1,G,by omega,by go_num,HL2,HG,HS2⟩
     case measure=>simp [intOf];omega
  ·have hri : ¬(r:Int)<(p.progs.length:Int):=by omega
   have hFT:F=T:=by rw [←hgo.out,show p.progs.length-r=0 by omega];rfl
   have t1:=hS.out.cell 0 rfl 0;dsimp only at t1
   have C:=Lib.hid (co_bool (some ⟨bf,0,none⟩) p.progs.length p.progs.length wr (by omega) ⟨bf,rfl,fun j hj=>by
    have:=hS.out.cell 1 rfl j;dsimp only at this;rw [this,qdb F j (by rw [hFl.out];exact hj)]
    congr 2
    rw [hFT];have hj2:j<T.length:=by rw [HTL.out];exact hj
    rw [List.getD_eq_getElem?_getD,List.getElem?_eq_getElem hj2]
    exact HF.out _ (List.getElem_mem hj2)⟩)
   clear hFT hgo EL H1 HA HF HTL
   go_wp2_with (go_at_call 152;(with_reducible refine C.out.mono ?_);rintro e' w1 ⟨rfl,k1⟩;have k1:Bel _ w1:=k1)
   go_ret;exact⟨rfl,Bel.of hS.out.bel k1⟩
end Go.Proofs.YtgpjhibdongmbaaGreatDoor
