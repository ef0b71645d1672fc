import Derived.Test.YtaaneecceiefoaaGreatDoorMzMPath
import Derived.Test.YtaaneecceiefoaaGreatDoorMaParse
import Derived.Test.YtaaneecceiefoaaGreatDoorMzUnion
import Derived.Test.YtaaneecceiefoaaGreatDoorMaFind
import Derived.Test.YtaaneecceiefoaaGreatDoorMaEnvD
import Derived.Test.YtaaneecceiefoaaGreatDoorMaPaths
import Derived.Test.YtaaneecceiefoaaGreatDoorMaFindS
import Derived.Test.YtaaneecceiefoaaGreatDoorMaAwake
set_option maxRecDepth 100000
set_option maxHeartbeats 4000000
set_option linter.unusedVariables false
set_option linter.unusedSimpArgs false
namespace Go.Proofs.YtaaneecceiefoaaGreatDoor
section
open Go.RowKit Ck Ma
theorem rC183 {a:Act} {ρ:Operand->Value} (h : ∀x,ρ x=a.eval x):(∀c,ρ (.const c)=c)/\∀f,ρ (.func f)=.func (.func f) #[] #[]:=⟨fun c=>h (.const c),fun f=>h (.func f)⟩
def qod (n:Nat):Prop := ∀(A:Nat->Prop) (v1 v2:Value) (a b:List PMask) (w:World),(∀b,A b->b<w.heap.size)->MaskD A n w v1 a->MaskD A n w v2 b->Srt n a->Srt n b->Wd 1000000000 n a->Wd 1000000000 n b->Calls Tryz.prog 39 #[v1,v2] w (qbm A n w (union n a b))
theorem union2 (n:Nat):qod (n+1):=fun A v1 v2 a b w h1 h2 h3 h4 h5 h6 h7=>by
 rw [qlr (n+1) h4 h5];exact qmc n A v1 v2 a b w h1 h2 h3 h6 h7
theorem rm_Parse (mv ev sv:Value) (s:PSchema) (name t:Str) (w0:World) (hs:VSchema w0 [mv,ev,sv] s) (ht:t.length<=1000000000) :
  Calls Tryz.prog 13 #[.agg #[mv,ev,sv],.string (S name),.string (S t)] w0 (qez (t.length+2) w0 (parse (envOf s) (qa4 s) (t.length+2) name t)):=by
 have CP:=Lib.hid (fun W (k:Bel w0 W) p (hp:p.length<=1000000000)=>rm_path mv ev sv s name p W (VSchema.staysB hs k) hp);have CSp:=Lib.hid (fun W=>show Calls Tryz.prog 37 #[.string (S t),.int .u8 44] W (qlh W (Id.cut 44 t))from by rw [qaq];exact qma t 44 W ht);unfold qlh at CSp;have hne:=show Id.cut 44 t ≠ []by rw [qaq];exact qby 44 t
 have CM0:=Lib.hid (fun W (k:Bel w0 W)=>qcj mv ev sv s name w0 W k hs);have CU0:qod (t.length+2):=union2 (t.length+1);unfold qod at CU0;have CU:=Lib.hid CU0;clear CU0;obtain⟨_,_,_,he,hm,hev,hsv⟩:=hs;cases he;obtain⟨q2,c2,rfl,hl2⟩:=qa5 hev;obtain⟨q3,c3,rfl,hl3⟩:=qa5 hsv;obtain⟨q1s,c1,rfl,hl1⟩:=qa5 hm;clear hm hev hsv;have hS0:=Lib.hid ((ST.start w0).addbox #[.slice q1s s.msgs.length c1,.slice q2 s.enums.length c2,.slice q3 s.svcs.length c3] 26);cases hm:msgOf s name with
 | none=>
  have hr:parse (envOf s) (qa4 s) (t.length+2) name t=(10,[]):=by unfold parse;rw [qnj,hm];rfl
  rw [hr];rw [hm]at CM0;clear hr hm CP CSp CU hne
  go_enter Tryz.func13,Tryz.ntmps13
  go_wp2_with (first
   | (go_at_call 30;(with_reducible refine(CM0.out _ hS0.out.bel).mono ?_);rintro e w1 ⟨vm,at1,rfl,hvs,hat,k1⟩;have k1:Bel _ w1:=k1;have hat:at1<0:=of_decide_eq_true hat;have hv0:vm=zMsg:=hvs;subst hv0;have H1:=Lib.hid ((hS0.out.belw k1).addbox zMsg.toArray 57);clear k1 hvs)
   | (refine qa3 (old:=#[.string ⟨#[]⟩,.slice none 0 0,.slice none 0 0,.slice none 0 0,.slice none 0 0]) rfl 57 _ _ rfl w1 rfl w1.heap.size rfl zMsg.toArray rfl rfl ar_M rfl (by simp [zMsg,Value.oneCell']) ?_))
  go_ret2;exact qcw H1.out.bel
 | some m=>
  rw [hm]at CM0;have hh:(envOf s).has name=true:=by rw [qnj,hm];rfl
  by_cases ht0:t=[]
  ·have hr:parse (envOf s) (qa4 s) (t.length+2) name t=(0,[]):=by unfold parse;rw [hh,if_neg (by simp),if_pos ht0]
   rw [hr];have hte:(S t).toList=[]:=by rw [ByteArray.toList_eq,qbi,ht0]
   have hte2:(S t).toList.isEmpty=true:=by rw [ByteArray.toList_eq,qbi,ht0];rfl
   clear hr hm ht0 CP CSp CU hh hne
   go_enter Tryz.func13,Tryz.ntmps13
   go_wp2_with (first
    | (go_at_call 30;(with_reducible refine(CM0.out _ hS0.out.bel).mono ?_);rintro e w1 ⟨vm,at1,rfl,hvs,hat,k1⟩;have k1:Bel _ w1:=k1;have hat : ¬ at1<0:=of_decide_eq_false hat;have HVM:=Lib.hid (show VMsg w0 vm m from hvs);obtain⟨hlen,hone⟩:=qbq hvs;have Z0:vm.toArray.size=5:=(by rw [List.size_toArray];exact hlen);have Z1:=Lib.hid (show(Tryz.prog.info? 57).map (·.size)=some vm.toArray.size by rw [Z0];exact ar_M);have Z2:=Lib.hid (show(#[.string ⟨#[]⟩,.slice none 0 0,.slice none 0 0,.slice none 0 0,.slice none 0 0]:Array Value).size=vm.toArray.size by rw [Z0];rfl);have HO:=Lib.hid hone;clear hlen hone Z0 hvs;have H1:=Lib.hid ((hS0.out.belw k1).addbox vm.toArray 57);clear k1)
    | (refine qa3 (old:=#[.string ⟨#[]⟩,.slice none 0 0,.slice none 0 0,.slice none 0 0,.slice none 0 0]) rfl 57 _ _ rfl w1 rfl w1.heap.size rfl vm.toArray rfl rfl Z1.out Z2.out HO.out ?_))
   go_ret2;exact qcw H1.out.bel
  ·have hte:(S t).toList ≠ []:=by rw [ByteArray.toList_eq,qbi];exact ht0
   have hte2:(S t).toList.isEmpty=false:=by rw [ByteArray.toList_eq,qbi];simpa using ht0
   have hpe:parse (envOf s) (qa4 s) (t.length+2) name t=if 32<(Id.cut 44 t).length then(3,[])else qc5 (envOf s) (qa4 s) (t.length+2) name [] ((Id.cut 44 t).drop 0):=by unfold parse;rw [hh,if_neg (by simp),if_neg ht0,qaq];rfl
   have hple : ∀p ∈ Id.cut 44 t,p.length<=t.length:=by rw [qaq];exact fun p hp=>qc1 44 t p hp
   have HPL:=Lib.hid hple;generalize parse (envOf s) (qa4 s) (t.length+2) name t=R at hpe;generalize Id.cut 44 t=ps at CSp hpe HPL hne;clear hm ht0 hh hple;by_cases h32:32<ps.length
   ·rw [if_pos h32]at hpe
    subst hpe;have h32i:(32:Int)<(ps.length:Int):=by omega
    clear CP CU HPL hne
    go_enter Tryz.func13,Tryz.ntmps13
    go_wp2_with (first
     | (go_at_call 30;(with_reducible refine(CM0.out _ hS0.out.bel).mono ?_);rintro e w1 ⟨vm,at1,rfl,hvs,hat,k1⟩;have k1:Bel _ w1:=k1;have hat : ¬ at1<0:=of_decide_eq_false hat;have HVM:=Lib.hid (show VMsg w0 vm m from hvs);obtain⟨hlen,hone⟩:=qbq hvs;have Z0:vm.toArray.size=5:=(by rw [List.size_toArray];exact hlen);have Z1:=Lib.hid (show(Tryz.prog.info? 57).map (·.size)=some vm.toArray.size by rw [Z0];exact ar_M);have Z2:=Lib.hid (show(#[.string ⟨#[]⟩,.slice none 0 0,.slice none 0 0,.slice none 0 0,.slice none 0 0]:Array Value).size=vm.toArray.size by rw [Z0];rfl);have HO:=Lib.hid hone;clear hlen hone Z0 hvs;have H1:=Lib.hid ((hS0.out.belw k1).addbox vm.toArray 57);clear k1)
     | (refine qa3 (old:=#[.string ⟨#[]⟩,.slice none 0 0,.slice none 0 0,.slice none 0 0,.slice none 0 0]) rfl 57 _ _ rfl w1 rfl w1.heap.size rfl vm.toArray rfl rfl Z1.out Z2.out HO.out ?_)
     | (go_at_call 37;(with_reducible refine(CSp.out _).mono ?_);rintro e w2 ⟨pv,rfl,hown,k2⟩;have k2:Bel _ w2:=k2;have H2:=Lib.hid (H1.out.belw k2);obtain⟨pg,pc,hpv⟩:=qan hown;have HOW:=Lib.hid (qf7 hown);subst hpv;clear k2 hown))
    go_ret2;exact qcw H2.out.bel
   ·rw [if_neg h32]at hpe
    have V:=Lib.hid hpe.symm;have h32i:(ps.length:Int)<=32:=by omega
    have h32n:ps.length<=32:=by omega
    have hd32:decide ((32:Int)<(ps.length:Int))=false:=by simpa using h32i
    clear hpe h32
    go_enter Tryz.func13,Tryz.ntmps13
    go_upto_region 9 with(first
     | (go_at_call 30;(with_reducible refine(CM0.out _ hS0.out.bel).mono ?_);rintro e w1 ⟨vm,at1,rfl,hvs,hat,k1⟩;have k1:Bel _ w1:=k1;have hat : ¬ at1<0:=of_decide_eq_false hat;have HVM:=Lib.hid (show VMsg w0 vm m from hvs);obtain⟨hlen,hone⟩:=qbq hvs;have Z0:vm.toArray.size=5:=(by rw [List.size_toArray];exact hlen);have Z1:=Lib.hid (show(Tryz.prog.info? 57).map (·.size)=some vm.toArray.size by rw [Z0];exact ar_M);have Z2:=Lib.hid (show(#[.string ⟨#[]⟩,.slice none 0 0,.slice none 0 0,.slice none 0 0,.slice none 0 0]:Array Value).size=vm.toArray.size by rw [Z0];rfl);have HO:=Lib.hid hone;clear hlen hone Z0 hvs;have H1:=Lib.hid ((hS0.out.belw k1).addbox vm.toArray 57);clear k1)
     | (refine qa3 (old:=#[.string ⟨#[]⟩,.slice none 0 0,.slice none 0 0,.slice none 0 0,.slice none 0 0]) rfl 57 _ _ rfl w1 rfl w1.heap.size rfl vm.toArray rfl rfl Z1.out Z2.out HO.out ?_)
     | (go_at_call 37;(with_reducible refine(CSp.out _).mono ?_);rintro e w2 ⟨pv,rfl,hown,k2⟩;have k2:Bel _ w2:=k2;have H2:=Lib.hid (H1.out.belw k2);obtain⟨pg,pc,hpv⟩:=qan hown;have HOW:=Lib.hid (qf7 hown);subst hpv;clear k2 hown))
    obtain⟨g,hg,HPC⟩ : ∃g,pg=some ⟨g,0,none⟩/\Hid (∀j x,ps[j]? = some x->w2.cell? ⟨g,0+j,none⟩=some (.string (S x))):=by
     rcases HOW.out with⟨h1,_⟩|⟨g,c,hc,_,_,h2⟩
     ·exact absurd h1 hne
     ·cases hc
      exact⟨g,rfl,Lib.hid h2⟩
    subst hg;clear HOW hne CSp H1;generalize hmb:w1.heap.size=mb at H2 ⊢;clear hmb
    go_wp2_with (fail)
    go_loopw [11,12] (fun vo i wr => ∃(k:Nat) (acc:List PMask),k<=ps.length/\i=.int .i64 k/\Hid (Bel w2 wr)/\Hid (ST w0 [] [⟨mb,vm.toArray,57⟩,⟨w0.heap.size,#[.slice q1s s.msgs.length c1,.slice q2 s.enums.length c2,.slice q3 s.svcs.length c3],26⟩] wr)/\Hid (MaskD (fun b=>w0.heap.size<=b) (t.length+2) wr vo acc/\Srt (t.length+2) acc/\Wd k (t.length+2) acc)/\Hid (qc5 (envOf s) (qa4 s) (t.length+2) name acc (ps.drop k)=R)) (fun _ i _=>ps.length-(intOf i).toNat)
    case atStart=>exact⟨0,[],by omega,rfl,Lib.hid (Bel.refl _),H2,Lib.hid ⟨MaskD.nil _ _,Srt.nil _,Wd.nil _ _⟩,V⟩
    case round=>as_aux_lemma=>
     clear V H2;obtain⟨k,acc,hk,rfl,HB1,hS,hA,hx⟩:=hrel;obtain⟨ap,ac,hvo⟩:=hA.out.1.form;subst hvo;by_cases hlt:k<ps.length
     ·have hki:(k:Int)<(ps.length:Int):=by omega
      have c0:=HPC.out k _ (List.getElem?_eq_getElem hlt);rw [Nat.zero_add]at c0;have c0:=Lib.hid c0;have hst:=hx.out;rw [List.drop_eq_getElem_cons hlt]at hst;have hpl1:=HPL.out _ (List.getElem_mem hlt);clear hx HPL HPC;generalize ps[k]=p at *;have hst2:(if(pathM (envOf s) (qa4 s) name p).1 ≠ 0 then((pathM (envOf s) (qa4 s) name p).1,[])else qc5 (envOf s) (qa4 s) (t.length+2) name (union (t.length+2) acc (pathM (envOf s) (qa4 s) name p).2) (ps.drop (k+1)))=R:=hst;have C1:=Lib.hid (fun W (hW:Bel w0 W)=>CP.out W hW p (by omega));unfold qez at C1;have hsw:=qk0 s name p (n:=t.length+2) (by omega);generalize pathM (envOf s) (qa4 s) name p=Q at hst2 C1 hsw;obtain⟨q1',qm⟩:=Q;obtain⟨q1,hq1⟩ : ∃q1,q1=q1':=⟨_,rfl⟩;subst hq1;dsimp only at hst2 hsw;have HSW:=Lib.hid hsw;have HWA:=Lib.hid (hA.out.2.2.mono (show k<=1000000000 by omega));have HWQ:=Lib.hid (hsw.2.mono (show 1<=1000000000 by omega));clear hst CP hsw
      go_upto_region 13 with(fail)
      obtain⟨wd,hwd⟩ : ∃wd,wd=wr.drew:=⟨_,rfl⟩;have DA:=Lib.hid (show MaskD (fun b=>w0.heap.size<=b) (t.length+2) wd _ acc by rw [hwd];exact hA.out.1.bel (Bel.refl _).drew);have T:=Lib.hid (show ST w0 [] [⟨mb,vm.toArray,57⟩,⟨w0.heap.size,#[.slice q1s s.msgs.length c1,.slice q2 s.enums.length c2,.slice q3 s.svcs.length c3],26⟩] wd/\Bel w2 wd by rw [hwd];exact⟨hS.out.belw (Bel.refl _).drew,Bel.of HB1.out (Bel.refl _).drew⟩);have HWD:=Lib.hid hwd;clear hwd;have KS:=Lib.hid (fun W (h:ST w0 [] [⟨mb,vm.toArray,57⟩,⟨w0.heap.size,#[.slice q1s s.msgs.length c1,.slice q2 s.enums.length c2,.slice q3 s.svcs.length c3],26⟩] W/\Bel w2 W)=>show W.cell? ⟨w0.heap.size,0,none⟩=some (.slice q1s s.msgs.length c1)/\W.cell? ⟨w0.heap.size,1,none⟩=some (.slice q2 s.enums.length c2)/\W.cell? ⟨w0.heap.size,2,none⟩=some (.slice q3 s.svcs.length c3)/\W.cell? ⟨g,k,none⟩=some (.string (S p))from⟨h.1.cell 1 rfl 0,h.1.cell 1 rfl 1,h.1.cell 1 rfl 2,h.2.some c0.out⟩);refine qac (fun W=>ST w0 [] [⟨mb,vm.toArray,57⟩,⟨w0.heap.size,#[.slice q1s s.msgs.length c1,.slice q2 s.enums.length c2,.slice q3 s.svcs.length c3],26⟩] W/\Bel w2 W) (.take 0 (.take 1 (.take 2 (.take 3 (.take 4 (.take 5 (.alt 6 (.take 7 (.take 8 (.take 9 (.take 10 .done)))) .no))))))) 11 (by kernel_rfl) (by kernel_rfl) HWD.out T.out (fun a ha=>?_)
      (simp only [pickT,List.getD_cons_zero,List.getD_cons_succ])
      have hsz:a.tmps.size=53:=(by rw [ha];kernel_rfl);have a3:a.eval (.tmp 3)=.pointer (some ⟨w0.heap.size,0,none⟩):=(by rw [ha];kernel_rfl);have a1:a.eval (.tmp 1)=.string (S name):=(by rw [ha];kernel_rfl);have a10:a.eval (.tmp 10)=.slice (some ⟨g,0,none⟩) ps.length pc:=(by rw [ha];kernel_rfl);have a12:a.eval (.tmp 12)=.int .i64 k:=(by rw [ha];kernel_rfl)
      (with_reducible refine qa1 (v:=?_) rfl (by with_unfolding_all rfl) (fun ρ hρ W hW=>?_) ?_);(rotate_left 1)
      focus(have hS:=KS.out _ hW;clear hW;have p3:=hρ (.tmp 3);(simp +decide only [qa2,hsz,ev_eq,ev_ne,a3,a1,a10,a12]at p3);obtain⟨hc,hfn⟩:=rC183 hρ;clear hρ;go_simp;(all_goals with_reducible first|rfl|(constructor <;> rfl)))
      (with_reducible refine qa1 (v:=?_) rfl (by with_unfolding_all rfl) (fun ρ hρ W hW=>?_) ?_);(rotate_left 1)
      focus(clear hW;have p1:=hρ (.tmp 1);(simp +decide only [qa2,hsz,ev_eq,ev_ne,a3,a1,a10,a12]at p1);obtain⟨hc,hfn⟩:=rC183 hρ;clear hρ;go_simp;(all_goals with_reducible first|rfl|(constructor <;> rfl)))
      (with_reducible refine qa1 (v:=?_) rfl (by with_unfolding_all rfl) (fun ρ hρ W hW=>?_) ?_);(rotate_left 1)
      focus(clear hW;have p10:=hρ (.tmp 10);(simp +decide only [qa2,hsz,ev_eq,ev_ne,a3,a1,a10,a12]at p10);obtain⟨hc,hfn⟩:=rC183 hρ;clear hρ;go_simp;(all_goals with_reducible first|rfl|(constructor <;> rfl)))
      (with_reducible refine qa1 (v:=?_) rfl (by with_unfolding_all rfl) (fun ρ hρ W hW=>?_) ?_);(rotate_left 1)
      focus(clear hW;have p12:=hρ (.tmp 12);(simp +decide only [qa2,hsz,ev_eq,ev_ne,a3,a1,a10,a12]at p12);obtain⟨hc,hfn⟩:=rC183 hρ;clear hρ;go_simp;(all_goals with_reducible first|rfl|(constructor <;> rfl)))
      (with_reducible refine qa1 (v:=?_) rfl (by with_unfolding_all rfl) (fun ρ hρ W hW=>?_) ?_);(rotate_left 1)
      focus(clear hW;have p39:=hρ (.tmp 39);have p40:=hρ (.tmp 40);(simp +decide only [qa2,hsz,ev_eq,ev_ne,a3,a1,a10,a12]at p39 p40);obtain⟨hc,hfn⟩:=rC183 hρ;clear hρ;go_simp;(all_goals with_reducible first|rfl|(constructor <;> rfl)))
      (with_reducible refine qa1 (v:=?_) rfl (by with_unfolding_all rfl) (fun ρ hρ W hW=>?_) ?_);(rotate_left 1)
      focus(have hS:=KS.out _ hW;clear hW;have p41:=hρ (.tmp 41);(simp +decide only [qa2,hsz,ev_eq,ev_ne,a3,a1,a10,a12]at p41);obtain⟨hc,hfn⟩:=rC183 hρ;clear hρ;go_simp;(all_goals with_reducible first|rfl|(constructor <;> rfl)))
      (with_reducible refine qam (f:=?_) (args:=?_) rfl (by with_unfolding_all rfl) (fun ρ hρ=>?_) ?_ ?_);(rotate_left 2)
      focus(have p37:=hρ (.tmp 37);have p38:=hρ (.tmp 38);(simp +decide only [qa2,hsz,ev_eq,ev_ne,a3,a1,a10,a12]at p37 p38);have p42:=hρ (.tmp 42);(simp +decide only [qa2,hsz,ev_eq,ev_ne,a3,a1,a10,a12]at p42);obtain⟨hc,hfn⟩:=rC183 hρ;clear hρ;rw [qa9 (hfn _)];clear hfn;go_simp;(all_goals with_reducible first|rfl|(constructor <;> rfl)))
      with_reducible refine(C1.out _ T.out.1.bel).mono ?_
      rintro e w3 ⟨v3,rfl,hm3,k3⟩;have k3:Bel wd w3:=k3;obtain⟨p33,c33,hv3⟩:=MaskD.form hm3;subst hv3;have T3:=Lib.hid (show ST w0 [] [⟨mb,vm.toArray,57⟩,⟨w0.heap.size,#[.slice q1s s.msgs.length c1,.slice q2 s.enums.length c2,.slice q3 s.svcs.length c3],26⟩] w3/\Bel w2 w3 from⟨T.out.1.belw k3,Bel.of T.out.2 k3⟩);have M3:=Lib.hid (MaskD.weak (A':=fun b=>w0.heap.size<=b/\b<w3.heap.size) (hm3.le (show p.length+2<=t.length+2 by omega)) (fun b hb hl=>⟨Nat.le_trans T.out.1.bel.size hb,hl⟩));have A3:=Lib.hid (MaskD.weak (A':=fun b=>w0.heap.size<=b/\b<w3.heap.size) (DA.out.bel k3) (fun b hb hl=>⟨hb,hl⟩));clear k3 hm3;refine⟨_,rfl,T3.out,?_⟩;rotate_left 1
      focus exact qap
      (with_reducible refine qa1 (v:=?_) rfl (by with_unfolding_all rfl) (fun ρ hρ W hW=>?_) ?_);(rotate_left 1)
      focus(clear hW;have p43:=hρ (.tmp 43);(simp +decide only [qa2,hsz,ev_eq,ev_ne,a3,a1,a10,a12]at p43);obtain⟨hc,hfn⟩:=rC183 hρ;clear hρ;go_simp;(all_goals with_reducible first|rfl|(constructor <;> rfl)))
      (with_reducible refine qa1 (v:=?_) rfl (by with_unfolding_all rfl) (fun ρ hρ W hW=>?_) ?_);(rotate_left 1)
      focus(clear hW;have p36:=hρ (.tmp 36);(simp +decide only [qa2,hsz,ev_eq,ev_ne,a3,a1,a10,a12]at p36);obtain⟨hc,hfn⟩:=rC183 hρ;clear hρ;go_simp;(all_goals with_reducible first|rfl|(constructor <;> rfl)))
      (with_reducible refine qa1 (v:=?_) rfl (by with_unfolding_all rfl) (fun ρ hρ W hW=>?_) ?_);(rotate_left 1)
      focus(clear hW;have p36:=hρ (.tmp 36);(simp +decide only [qa2,hsz,ev_eq,ev_ne,a3,a1,a10,a12]at p36);obtain⟨hc,hfn⟩:=rC183 hρ;clear hρ;go_simp;(all_goals with_reducible first|rfl|(constructor <;> rfl)))
      (with_reducible refine qa1 (v:=?_) rfl (by with_unfolding_all rfl) (fun ρ hρ W hW=>?_) ?_);(rotate_left 1)
      focus(clear hW;have p44:=hρ (.tmp 44);(simp +decide only [qa2,hsz,ev_eq,ev_ne,a3,a1,a10,a12]at p44);obtain⟨hc,hfn⟩:=rC183 hρ;clear hρ;go_simp;(all_goals with_reducible first|rfl|(constructor <;> rfl)))
      with_reducible refine qao ?_
      (simp only [List.drop_succ_cons,List.drop_zero])
      subst ha
      (simp only [qav,set_s,set_z])
      by_cases hq:q1=0
      ·subst hq
       rw [if_neg (by simp)]at hst2;have HST:=Lib.hid hst2;clear hst2
       go_wp2_with (go_at_call 39;(with_reducible refine(CU.out _ _ _ acc qm w3 (fun b hb=>hb.2) A3.out M3.out hA.out.2.1 HSW.out.1 HWA.out HWQ.out).mono ?_);rintro e w4 ⟨v4,rfl,hm4,k4⟩;have k4:Bel _ w4:=k4;have H4:=Lib.hid (T3.out.1.belw k4);have B4:=Lib.hid (Bel.of T3.out.2 k4);have M4:=Lib.hid (MaskD.weak (A':=fun b=>w0.heap.size<=b) hm4 (fun b hb _=>hb.elim (fun h=>h.1) (fun h=>Nat.le_trans T3.out.1.bel.size h)));clear k4 hm4)
       go_roundw
       case rel=>exact⟨k+1,_,by omega,by go_num,B4,H4,Lib.hid ⟨M4.out,qgo _ hA.out.2.1 HSW.out.1,qij k 1 _ hA.out.2.2 HSW.out.2⟩,HST⟩
       case measure=>simp [intOf];omega
      ·rw [if_pos hq]at hst2
       subst hst2;have hqb:(q1 != 0)=true:=bne_t hq;clear hq CU;go_wp2;go_ret2;exact qcw T3.out.1.bel
     ·have hki : ¬(k:Int)<(ps.length:Int):=by omega
      have hkl:k=ps.length:=by omega
      have hr:(0,acc)=R:=by have:=hx.out;rw [hkl,List.drop_length]at this;exact this
      subst hr;clear hx CP CU;go_wp2;go_ret2;exact⟨.slice ap acc.length ac,rfl,hA.out.1,hS.out.bel⟩
end
section
open Go.RowKit Ck Ma
theorem qf2 (q1 q2 q3:Option Addr) (c1 c2 c3:Nat) (s:PSchema) (name t:Str) (w0:World) (hs:VSchema w0 [.slice q1 s.msgs.length c1,.slice q2 s.enums.length c2,.slice q3 s.svcs.length c3] s) (hQ:qch s) (hf:fewB s=false) :
  Calls Tryz.prog 4 #[.agg #[.slice q1 s.msgs.length c1,.slice q2 s.enums.length c2,.slice q3 s.svcs.length c3],.string (S name),.string (S t)] w0 fun e w'=>e=.returned (.bool true)/\Bel w0 w':=by
 have HS:=Lib.hid ((ST.start w0).addbox #[.slice q1 s.msgs.length c1,.slice q2 s.enums.length c2,.slice q3 s.svcs.length c3] 26);have CF:=qfv q1 q2 q3 c1 c2 c3 s (w0.alloc (.cells #[.slice q1 s.msgs.length c1,.slice q2 s.enums.length c2,.slice q3 s.svcs.length c3] 26)) (VSchema.stays _ _ _ _ HS.out.bel hs) hQ;rw [hf]at CF;have CF:=Lib.hid CF;clear hs hQ hf
 go_enter Tryz.func4,Tryz.ntmps4
 go_wp2_with (go_at_call 8;(with_reducible refine CF.out.mono ?_);rintro e w1 ⟨rfl,k1⟩;have k1:Bel _ w1:=k1;have H1:=Lib.hid (HS.out.belw k1);clear k1)
 go_ret;exact⟨rfl,H1.out.bel⟩
theorem qe7 (q1 q2 q3:Option Addr) (c1 c2 c3:Nat) (s:PSchema) (name t:Str) (w0:World) (hs:VSchema w0 [.slice q1 s.msgs.length c1,.slice q2 s.enums.length c2,.slice q3 s.svcs.length c3] s) (hQ:qch s) (hf:fewB s=true) (hl:3000<t.length) :
  Calls Tryz.prog 4 #[.agg #[.slice q1 s.msgs.length c1,.slice q2 s.enums.length c2,.slice q3 s.svcs.length c3],.string (S name),.string (S t)] w0 fun e w'=>e=.returned (.bool true)/\Bel w0 w':=by
 have HS:=Lib.hid ((ST.start w0).addbox #[.slice q1 s.msgs.length c1,.slice q2 s.enums.length c2,.slice q3 s.svcs.length c3] 26);have CF:=qfv q1 q2 q3 c1 c2 c3 s (w0.alloc (.cells #[.slice q1 s.msgs.length c1,.slice q2 s.enums.length c2,.slice q3 s.svcs.length c3] 26)) (VSchema.stays _ _ _ _ HS.out.bel hs) hQ;rw [hf]at CF;have CF:=Lib.hid CF;have hz:(3000:Int)<((S t).size:Int):=by rw [qbr];omega
 clear hs hQ hf hl
 go_enter Tryz.func4,Tryz.ntmps4
 go_wp2_with (go_at_call 8;(with_reducible refine CF.out.mono ?_);rintro e w1 ⟨rfl,k1⟩;have k1:Bel _ w1:=k1;have H1:=Lib.hid (HS.out.belw k1);clear k1)
 go_ret;exact⟨rfl,H1.out.bel⟩
theorem qef (q1 q2 q3:Option Addr) (c1 c2 c3:Nat) (s:PSchema) (name t:Str) (w0:World) (hs:VSchema w0 [.slice q1 s.msgs.length c1,.slice q2 s.enums.length c2,.slice q3 s.svcs.length c3] s) (hQ:qch s) (hM:ML w0) (hf:fewB s=true) (hl:t.length<=3000) :
  Calls Tryz.prog 4 #[.agg #[.slice q1 s.msgs.length c1,.slice q2 s.enums.length c2,.slice q3 s.svcs.length c3],.string (S name),.string (S t)] w0 fun e w'=>e=.returned (.bool true)/\Bel w0 w':=by
 have hv:valid s=true:=by unfold fewB at hf;rw [Bool.and_eq_true]at hf;exact hf.2
 have hMo:=qn3 hv;have HS:=Lib.hid ((ST.start w0).addbox #[.slice q1 s.msgs.length c1,.slice q2 s.enums.length c2,.slice q3 s.svcs.length c3] 26);have CF:=qfv q1 q2 q3 c1 c2 c3 s (w0.alloc (.cells #[.slice q1 s.msgs.length c1,.slice q2 s.enums.length c2,.slice q3 s.svcs.length c3] 26)) (VSchema.stays _ _ _ _ HS.out.bel hs) hQ;rw [hf]at CF;have CF:=Lib.hid CF;have hz:((S t).size:Int)<=(3000:Int):=by rw [qbr];omega
 have CP0:=fun W (k:Bel w0 W)=>qj5 _ _ _ s name t W (VSchema.stays _ _ _ _ k hs) (hM.below k) (by omega)
 have CR0:=fun W (k:Bel w0 W)=>rm_Parse _ _ _ s name t W (VSchema.stays _ _ _ _ k hs) (by omega)
 have hck : ∀m,parse (envOf s) (qa4 s) (t.length+2) name t=(0,m)->Dp (t.length+2) m->chk (envOf s) (t.length+2) name m=0:=fun m hm hd=>(qdi _ name m hd).2 (parse_nm hMo (by omega) hm)
 have CC0:=fun W (k:Bel w0 W) A v m (h:MaskD A (t.length+2) W v m)=>qj8 (t.length+1) A _ _ _ s name v m W (VSchema.stays _ _ _ _ k hs) h
 have CA:=Lib.hid (fun W (k:Bel w0 W)=>qh0 W (hM.below k));generalize hpp:parse (envOf s) (qa4 s) (t.length+2) name t=R at CP0 CR0 hck;clear hpp;obtain⟨c,m⟩:=R;unfold qez at CP0 CR0;have CP:=Lib.hid CP0;have CR:=Lib.hid CR0;have CSa:=Lib.hid (fun W (A1 A2:Nat->Prop) v1 v2 (h1:MaskD A1 (t.length+2) W v1 m) (h2:MaskD A2 (t.length+2) W v2 m)=>qf5 h1 h2);by_cases hc:c=0
 ·subst hc
  have CC:=Lib.hid (fun W (k:Bel w0 W) A v (h:MaskD A (t.length+2) W v m)=>(show Calls _ _ _ _ (fun e w'=>e=.returned (.int .i64 0)/\Bel W w')from by have:=CC0 W k A v m h;rwa [hck m rfl h.dp]at this));clear CP0 CR0 CC0 hck hs hQ hf hM hl hv hMo;generalize t.length+2=D at CP CR CSa CC
  go_enter Tryz.func4,Tryz.ntmps4
  go_upto_region 3 with(go_at_call 8;(with_reducible refine CF.out.mono ?_);rintro e w1 ⟨rfl,k1⟩;have k1:Bel _ w1:=k1;have H1:=Lib.hid (HS.out.belw k1);clear k1)
  have t0:=H1.out.cell 0 rfl 0;have t1:=H1.out.cell 0 rfl 1;have t2:=H1.out.cell 0 rfl 2;dsimp only at t0 t1 t2
  go_wp2_with (first
   | (go_at_call 12;(with_reducible refine(CP.out _ H1.out.bel).mono ?_);rintro e w2 ⟨v2,rfl,h2,k2⟩;have k2:Bel _ w2:=k2;have T2:=Lib.hid (H1.out.belw k2);have M2:=Lib.hid (show MaskD _ _ _ v2 m from h2);obtain⟨p2,x2,hv2⟩:=MaskD.form M2.out;subst hv2;clear t0 t1 t2;have t0:=T2.out.cell 0 rfl 0;have t1:=T2.out.cell 0 rfl 1;have t2:=T2.out.cell 0 rfl 2;dsimp only at t0 t1 t2;clear k2 h2)
   | (go_at_call 13;(with_reducible refine(CR.out _ T2.out.bel).mono ?_);rintro e w3 ⟨v3,rfl,h3,k3⟩;have k3:Bel _ w3:=k3;have T3:=Lib.hid (T2.out.belw k3);have M3:=Lib.hid (MaskD.bel M2.out k3);have CS:=Lib.hid (CSa.out _ _ _ _ _ M3.out (show MaskD _ _ _ v3 m from h3));obtain⟨p3,x3,hv3⟩:=MaskD.form (show MaskD _ _ _ v3 m from h3);subst hv3;clear t0 t1 t2;have t0:=T3.out.cell 0 rfl 0;have t1:=T3.out.cell 0 rfl 1;have t2:=T3.out.cell 0 rfl 2;dsimp only at t0 t1 t2;clear k3 h3)
   | (go_at_call 14;(with_reducible refine CS.out.mono ?_);rintro e w4 ⟨rfl,k4⟩;have k4:Bel _ w4:=k4;have T4:=Lib.hid (T3.out.belw k4);have M4:=Lib.hid (MaskD.bel M3.out k4);clear t0 t1 t2;have t0:=T4.out.cell 0 rfl 0;have t1:=T4.out.cell 0 rfl 1;have t2:=T4.out.cell 0 rfl 2;dsimp only at t0 t1 t2;clear k4)
   | (go_at_call 9;(with_reducible refine(CC.out _ T4.out.bel _ _ M4.out).mono ?_);rintro e w5 ⟨rfl,k5⟩;have k5:Bel _ w5:=k5;have T5:=Lib.hid (T4.out.belw k5);clear k5)
   | (go_at_call 11;(with_reducible refine(CA.out _ T5.out.bel).mono ?_);rintro e w6 ⟨rfl,k6⟩;have k6:Bel _ w6:=k6;have T6:=Lib.hid (T5.out.belw k6);clear k6))
  go_ret;exact⟨rfl,T6.out.bel⟩
 ·have hb:(c != 0)=true:=bne_t hc
  have hcc:(c == c)=true:=beq_self_eq_true c;clear CP0 CR0 CC0 hck hs hQ hf hM hl hv hMo hc;generalize t.length+2=D at CP CR CSa
  go_enter Tryz.func4,Tryz.ntmps4
  go_upto_region 3 with(go_at_call 8;(with_reducible refine CF.out.mono ?_);rintro e w1 ⟨rfl,k1⟩;have k1:Bel _ w1:=k1;have H1:=Lib.hid (HS.out.belw k1);clear k1)
  have t0:=H1.out.cell 0 rfl 0;have t1:=H1.out.cell 0 rfl 1;have t2:=H1.out.cell 0 rfl 2;dsimp only at t0 t1 t2
  go_wp2_with (first
   | (go_at_call 12;(with_reducible refine(CP.out _ H1.out.bel).mono ?_);rintro e w2 ⟨v2,rfl,h2,k2⟩;have k2:Bel _ w2:=k2;have T2:=Lib.hid (H1.out.belw k2);have M2:=Lib.hid (show MaskD _ _ _ v2 m from h2);obtain⟨p2,x2,hv2⟩:=MaskD.form M2.out;subst hv2;clear t0 t1 t2;have t0:=T2.out.cell 0 rfl 0;have t1:=T2.out.cell 0 rfl 1;have t2:=T2.out.cell 0 rfl 2;dsimp only at t0 t1 t2;clear k2 h2)
   | (go_at_call 13;(with_reducible refine(CR.out _ T2.out.bel).mono ?_);rintro e w3 ⟨v3,rfl,h3,k3⟩;have k3:Bel _ w3:=k3;have T3:=Lib.hid (T2.out.belw k3);have M3:=Lib.hid (MaskD.bel M2.out k3);have CS:=Lib.hid (CSa.out _ _ _ _ _ M3.out (show MaskD _ _ _ v3 m from h3));obtain⟨p3,x3,hv3⟩:=MaskD.form (show MaskD _ _ _ v3 m from h3);subst hv3;clear t0 t1 t2;have t0:=T3.out.cell 0 rfl 0;have t1:=T3.out.cell 0 rfl 1;have t2:=T3.out.cell 0 rfl 2;dsimp only at t0 t1 t2;clear k3 h3)
   | (go_at_call 14;(with_reducible refine CS.out.mono ?_);rintro e w4 ⟨rfl,k4⟩;have k4:Bel _ w4:=k4;have T4:=Lib.hid (T3.out.belw k4);have M4:=Lib.hid (MaskD.bel M3.out k4);clear t0 t1 t2;have t0:=T4.out.cell 0 rfl 0;have t1:=T4.out.cell 0 rfl 1;have t2:=T4.out.cell 0 rfl 2;dsimp only at t0 t1 t2;clear k4)
   | (go_at_call 11;(with_reducible refine(CA.out _ T4.out.bel).mono ?_);rintro e w5 ⟨rfl,k5⟩;have k5:Bel _ w5:=k5;have T5:=Lib.hid (T4.out.belw k5);clear k5))
  go_ret;exact⟨by simp,T5.out.bel⟩
theorem qh1 (q1 q2 q3:Option Addr) (c1 c2 c3:Nat) (s:PSchema) (name t:Str) (w0:World) (hs:VSchema w0 [.slice q1 s.msgs.length c1,.slice q2 s.enums.length c2,.slice q3 s.svcs.length c3] s) (hQ:qch s) (hM:ML w0) :
  Calls Tryz.prog 4 #[.agg #[.slice q1 s.msgs.length c1,.slice q2 s.enums.length c2,.slice q3 s.svcs.length c3],.string (S name),.string (S t)] w0 fun e w'=>e=.returned (.bool true)/\Bel w0 w':=by
 cases hf:fewB s with
 | false=>exact qf2 q1 q2 q3 c1 c2 c3 s name t w0 hs hQ hf
 | true=>
  by_cases hl:3000<t.length
  ·exact qe7 q1 q2 q3 c1 c2 c3 s name t w0 hs hQ hf hl
  ·exact qef q1 q2 q3 c1 c2 c3 s name t w0 hs hQ hM hf (by omega)
end
end Go.Proofs.YtaaneecceiefoaaGreatDoor
