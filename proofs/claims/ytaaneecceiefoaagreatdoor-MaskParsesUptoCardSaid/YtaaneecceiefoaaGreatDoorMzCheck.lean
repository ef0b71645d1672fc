import Derived.Test.YtaaneecceiefoaaGreatDoorMaFindS
import Derived.Test.YtaaneecceiefoaaGreatDoorMzCov
import Derived.Test.YtaaneecceiefoaaGreatDoorMaKeep
set_option maxRecDepth 100000
set_option maxHeartbeats 4000000
set_option linter.unusedVariables false
set_option linter.unusedSimpArgs false
namespace Go.Proofs.YtaaneecceiefoaaGreatDoor
open Go.RowKit Ck Ma
theorem rC148 {a:Act} {ρ:Operand->Value} (h : ∀x,ρ x=a.eval x):(∀c,ρ (.const c)=c)/\∀f,ρ (.func f)=.func (.func f) #[] #[]:=⟨fun c=>h (.const c),fun f=>h (.func f)⟩
def qoh (n:Nat):Prop := ∀(A:Nat->Prop) (mv ev sv:Value) (s:PSchema) (name:Str) (v:Value) (l:List PMask) (w:World),VSchema w [mv,ev,sv] s->MaskD A n w v l->Calls Tryz.prog 10 #[.agg #[mv,ev,sv],.string (S name),v] w fun e w'=>e=.returned (.int .i64 (chk (envOf s) n name l))/\Bel w w'
theorem qep (n:Nat) (IH:n ≠ 0->qoh n):qoh (n+1):=by
 intro A mv ev sv s name v l w0 hs hl0;have HS:=Lib.hid (fun(W:World) (k:Bel w0 W)=>VSchema.staysB hs k);have CM0:=Lib.hid (fun W (k:Bel w0 W)=>qcj mv ev sv s name w0 W k hs);obtain⟨_,_,_,he,hm,hev,hsv⟩:=hs;cases he;obtain⟨q2,c2,rfl,hl2⟩:=qa5 hev;obtain⟨q3,c3,rfl,hl3⟩:=qa5 hsv;obtain⟨q1,c1,rfl,hl1⟩:=qa5 hm;clear hm hev hsv;obtain⟨p,c,rfl,hl,hcap,hel⟩:=hl0;have EL:=Lib.hid hel;clear hel hcap;have hS0:=Lib.hid ((ST.start w0).addbox #[.slice q1 s.msgs.length c1,.slice q2 s.enums.length c2,.slice q3 s.svcs.length c3] 26);cases hm:msgOf s name with
 | none=>
  have hr:chk (envOf s) (n+1) name l=10:=by
   show(if(msgOf s name).isSome=true then _ else _)=_
   rw [hm];rfl
  rw [hr];rw [hm]at CM0;clear hr hm
  go_enter Tryz.func10,Tryz.ntmps10
  go_wp2_with (first
   | (go_at_call 30;(with_reducible refine(CM0.out _ hS0.out.bel).mono ?_);rintro e w1 ⟨vm,at1,rfl,hvs,hat,k1⟩;have k1:Bel _ w1:=k1;have hat:decide (at1<0)=true:=hat;have hv0:vm=zMsg:=hvs;subst hv0;have H1:=Lib.hid ((hS0.out.belw k1).addbox zMsg.toArray 57);clear k1 hvs)
   | (refine qa3 (old:=#[.string ⟨#[]⟩,.slice none 0 0,.slice none 0 0,.slice none 0 0,.slice none 0 0]) rfl 57 _ _ rfl w1 rfl w1.heap.size rfl zMsg.toArray rfl rfl ar_M rfl (by simp [zMsg,Value.oneCell']) ?_))
  go_ret;exact⟨rfl,H1.out.bel⟩
 | some m=>
  have V:=Lib.hid (show chkGo (envOf s) (chk (envOf s) n) name (pvM l 0) (l.drop 0)=chk (envOf s) (n+1) name l by
   show _=(if(msgOf s name).isSome=true then _ else _)
   rw [hm]
   rfl)
  generalize chk (envOf s) (n+1) name l=R at V;rw [hm]at CM0;have HM:=Lib.hid hm;clear hm
  go_enter Tryz.func10,Tryz.ntmps10
  go_upto_region 2 with(first
   | (go_at_call 30;(with_reducible refine(CM0.out _ hS0.out.bel).mono ?_);rintro e w1 ⟨vm,at1,rfl,hvs,hat,k1⟩;have k1:Bel _ w1:=k1;have hat:decide (at1<0)=false:=hat;have HVM:=Lib.hid (show VMsg _ vm m from hvs);obtain⟨hlen,hone⟩:=qbq hvs;have HVS:=Lib.hid hvs;have Z0:vm.toArray.size=5:=(by rw [List.size_toArray];exact hlen);have Z1:=Lib.hid (show(Tryz.prog.info? 57).map (·.size)=some vm.toArray.size by rw [Z0];exact ar_M);have Z2:=Lib.hid (show(#[.string ⟨#[]⟩,.slice none 0 0,.slice none 0 0,.slice none 0 0,.slice none 0 0]:Array Value).size=vm.toArray.size by rw [Z0];rfl);have HO:=Lib.hid hone;clear hlen hone Z0 hvs;have H1:=Lib.hid ((hS0.out.belw k1).addbox vm.toArray 57);clear k1)
   | (refine qa3 (old:=#[.string ⟨#[]⟩,.slice none 0 0,.slice none 0 0,.slice none 0 0,.slice none 0 0]) rfl 57 _ _ rfl w1 rfl w1.heap.size rfl vm.toArray rfl rfl Z1.out Z2.out HO.out ?_))
  generalize hwz:World.alloc w1 _=wz at H1 ⊢;clear hwz;generalize hmb:w1.heap.size=mb at H1 ⊢;clear hmb HVS HO Z2;have HZ1:=Z1;have CFd:=Lib.hid (fun W (kk:Bel w0 W) q=>qir (m:=m) (vm:=vm) q w0 W kk HVM.out);clear HVM Z1 CM0 hS0
  go_wp2_with (fail)
  go_loopw [9] (fun i wr => ∃k:Nat,k<=l.length/\i=.int .i64 k/\Hid (ST w0 [] [⟨mb,vm.toArray,57⟩,⟨w0.heap.size,#[.slice q1 s.msgs.length c1,.slice q2 s.enums.length c2,.slice q3 s.svcs.length c3],26⟩] wr)/\Hid (chkGo (envOf s) (chk (envOf s) n) name (pvM l k) (l.drop k)=R)) (fun i _=>l.length-(intOf i).toNat)
  case atStart=>exact⟨0,by omega,rfl,H1,V⟩
  case round=>as_aux_lemma=>
   clear V H1 hat;obtain⟨k,hk,rfl,hS,hx⟩:=hrel;by_cases hlt:k<l.length
   ·obtain⟨g,off,sv,rfl,hbs,hab,hc0,hc1,hd⟩:=EL.out k _ (List.getElem?_eq_getElem hlt)
    obtain⟨sp,sc,rfl⟩:=hd.form;have hki:(k:Int)<(l.length:Int):=by omega
    have hst:=hx.out
    have hpv : ∀kp,k=kp+1->∃z,pvM l k=some z/\∃b2 off2:Nat,(some (⟨g,off,none⟩:Addr))=some ⟨b2,off2,none⟩/\w0.cell? ⟨b2,off2+kp*2,none⟩=some (.int .i64 z):=fun kp hkk=>by
     have hkp:kp<l.length:=by omega
     obtain⟨b2,off2,sv2,hq2,hs2,hab2,hp0,_,_⟩:=EL.out kp _ (List.getElem?_eq_getElem hkp);exact⟨_,by rw [hkk];exact qiy hkp,b2,off2,hq2,hp0⟩
    have HPV:=Lib.hid hpv;clear hx hab hpv EL;generalize hxk:l[k]=x at *;have HXK:=Lib.hid hxk;have DX:=Lib.hid (show MaskD A n w0 (.slice sp x.subs.length sc) x.subs from hd);have HC0:=Lib.hid hc0;have HC1:=Lib.hid hc1;clear hd hxk
    go_upto_region 7 with(fail)
    go_cut [10,11] (fun s10 s11 wx => ∃(fb:Nat) (vs:List Value),s10=.pointer (some ⟨fb,0,none⟩)/\s11=.bool (qai m x.num).isSome/\Hid (ST w0 [] [⟨fb,vs.toArray,65⟩,⟨mb,vm.toArray,57⟩,⟨w0.heap.size,#[.slice q1 s.msgs.length c1,.slice q2 s.enums.length c2,.slice q3 s.svcs.length c3],26⟩] wx)/\Hid (AtV VField zFld w0 vs (qai m x.num)))
    case first=>as_aux_lemma=>
     obtain⟨wd,hwd⟩ : ∃wd,wd=wr.drew:=⟨_,rfl⟩;have T:=Lib.hid (show ST w0 [] [⟨mb,vm.toArray,57⟩,⟨w0.heap.size,#[.slice q1 s.msgs.length c1,.slice q2 s.enums.length c2,.slice q3 s.svcs.length c3],26⟩] wd by rw [hwd];exact hS.out.belw (Bel.refl _).drew);have HWD:=Lib.hid hwd;clear hwd;have KS:=Lib.hid (fun W (h:ST w0 [] [⟨mb,vm.toArray,57⟩,⟨w0.heap.size,#[.slice q1 s.msgs.length c1,.slice q2 s.enums.length c2,.slice q3 s.svcs.length c3],26⟩] W)=>show W.cell? ⟨g,off+k*2,none⟩=some (.int .i64 x.num)/\W.heap[mb]? = some (.cells vm.toArray 57 (0,0))from⟨h.bel.some hc0,h.box 0 rfl⟩);refine qac (fun W=>ST w0 [] [⟨mb,vm.toArray,57⟩,⟨w0.heap.size,#[.slice q1 s.msgs.length c1,.slice q2 s.enums.length c2,.slice q3 s.svcs.length c3],26⟩] W) (.take 0 (.take 1 (.take 2 (.take 3 (.take 4 (.take 5 (.alt 6 (.take 7 (.take 8 (.take 9 (.alt 10 (.alt 11 .done .no) .no)))) (.alt 10 (.alt 6 (.take 7 (.take 8 (.take 9 (.alt 11 .done .no)))) .no) .no)))))))) 12 (by kernel_rfl) (by kernel_rfl) HWD.out T.out (fun a ha=>?_)
     (simp only [pickT,List.getD_cons_zero,List.getD_cons_succ])
     have hsz:a.tmps.size=90:=(by rw [ha];kernel_rfl);have a7:a.eval (.tmp 7)=.pointer (some ⟨mb,0,none⟩):=(by rw [ha];kernel_rfl);have a2:a.eval (.tmp 2)=.slice (some ⟨g,off,none⟩) l.length c:=(by rw [ha];kernel_rfl);have a9:a.eval (.tmp 9)=.int .i64 k:=(by rw [ha];kernel_rfl)
     (with_reducible refine qa1 (v:=?_) rfl (by with_unfolding_all rfl) (fun ρ hρ W hW=>?_) ?_);(rotate_left 1)
     focus(have hS:=KS.out _ hW;clear hW;have p7:=hρ (.tmp 7);(simp +decide only [qa2,hsz,ev_eq,ev_ne,a7,a2,a9]at p7);obtain⟨hc,hfn⟩:=rC148 hρ;clear hρ;exact qdm p7 hS.2 HZ1.out)
     (with_reducible refine qa1 (v:=?_) rfl (by with_unfolding_all rfl) (fun ρ hρ W hW=>?_) ?_);(rotate_left 1)
     focus(clear hW;have p2:=hρ (.tmp 2);(simp +decide only [qa2,hsz,ev_eq,ev_ne,a7,a2,a9]at p2);obtain⟨hc,hfn⟩:=rC148 hρ;clear hρ;go_simp;(all_goals with_reducible first|rfl|(constructor <;> rfl)))
     (with_reducible refine qa1 (v:=?_) rfl (by with_unfolding_all rfl) (fun ρ hρ W hW=>?_) ?_);(rotate_left 1)
     focus(clear hW;have p9:=hρ (.tmp 9);(simp +decide only [qa2,hsz,ev_eq,ev_ne,a7,a2,a9]at p9);obtain⟨hc,hfn⟩:=rC148 hρ;clear hρ;go_simp;(all_goals with_reducible first|rfl|(constructor <;> rfl)))
     (with_reducible refine qa1 (v:=?_) rfl (by with_unfolding_all rfl) (fun ρ hρ W hW=>?_) ?_);(rotate_left 1)
     focus(clear hW;have p29:=hρ (.tmp 29);have p30:=hρ (.tmp 30);(simp +decide only [qa2,hsz,ev_eq,ev_ne,a7,a2,a9]at p29 p30);obtain⟨hc,hfn⟩:=rC148 hρ;clear hρ;go_simp;(all_goals with_reducible first|rfl|(constructor <;> rfl)))
     (with_reducible refine qa1 (v:=?_) rfl (by with_unfolding_all rfl) (fun ρ hρ W hW=>?_) ?_);(rotate_left 1)
     focus(clear hW;have p31:=hρ (.tmp 31);(simp +decide only [qa2,hsz,ev_eq,ev_ne,a7,a2,a9]at p31);obtain⟨hc,hfn⟩:=rC148 hρ;clear hρ;go_simp;(all_goals with_reducible first|rfl|(constructor <;> rfl)))
     (with_reducible refine qa1 (v:=?_) rfl (by with_unfolding_all rfl) (fun ρ hρ W hW=>?_) ?_);(rotate_left 1)
     focus(have hS:=KS.out _ hW;clear hW;have p32:=hρ (.tmp 32);(simp +decide only [qa2,hsz,ev_eq,ev_ne,a7,a2,a9]at p32);obtain⟨hc,hfn⟩:=rC148 hρ;clear hρ;go_simp;(all_goals with_reducible first|rfl|(constructor <;> rfl)))
     (with_reducible refine qam (f:=?_) (args:=?_) rfl (by with_unfolding_all rfl) (fun ρ hρ=>?_) ?_ ?_);(rotate_left 2)
     focus(have p28:=hρ (.tmp 28);have p33:=hρ (.tmp 33);(simp +decide only [qa2,hsz,ev_eq,ev_ne,a7,a2,a9]at p28 p33);obtain⟨hc,hfn⟩:=rC148 hρ;clear hρ;rw [qa9 (hfn _)];clear hfn;go_simp;(all_goals with_reducible first|rfl|(constructor <;> rfl)))
     with_reducible refine(CFd.out _ T.out.bel _).mono ?_
     rintro e w6 ⟨vs,rfl,hvs,g⟩;have g:Bel wd w6:=g;obtain⟨hlen,hone⟩:=qc9 hvs;have HVS:=Lib.hid hvs;have Z0:vs.toArray.size=16:=(by rw [List.size_toArray];exact hlen);have Z1:=Lib.hid (show(Tryz.prog.info? 65).map (·.size)=some vs.toArray.size by rw [Z0];exact ar_F);have Z2:=Lib.hid (show(#[.int .i64 0,.string ⟨#[]⟩,.int .i64 0,.int .i64 0,.int .i64 0,.string ⟨#[]⟩,.string ⟨#[]⟩,.bool false,.int .i64 0,.int .u64 0,.string ⟨#[]⟩,.slice none 0 0,.slice none 0 0,.slice none 0 0,.slice none 0 0,.slice none 0 0]:Array Value).size=vs.toArray.size by rw [Z0];rfl);have HO:=Lib.hid hone;clear hlen hone Z0 hvs;have T:=Lib.hid (T.out.belw g);clear g;refine⟨_,rfl,T.out,?_⟩
     ·(with_reducible refine qa1 (v:=?_) rfl (by with_unfolding_all rfl) (fun ρ hρ W hW=>?_) ?_);(rotate_left 1)
      focus(clear hW;have p34:=hρ (.tmp 34);(simp +decide only [qa2,hsz,ev_eq,ev_ne,a7,a2,a9]at p34);obtain⟨hc,hfn⟩:=rC148 hρ;clear hρ;go_simp;(all_goals with_reducible first|rfl|(constructor <;> rfl)))
      (with_reducible refine qa1 (v:=?_) rfl (by with_unfolding_all rfl) (fun ρ hρ W hW=>?_) ?_);(rotate_left 1)
      focus(clear hW;have p27:=hρ (.tmp 27);(simp +decide only [qa2,hsz,ev_eq,ev_ne,a7,a2,a9]at p27);obtain⟨hc,hfn⟩:=rC148 hρ;clear hρ;go_simp;(all_goals with_reducible first|rfl|(constructor <;> rfl)))
      (with_reducible refine qa1 (v:=?_) rfl (by with_unfolding_all rfl) (fun ρ hρ W hW=>?_) ?_);(rotate_left 1)
      focus(clear hW;have p27:=hρ (.tmp 27);(simp +decide only [qa2,hsz,ev_eq,ev_ne,a7,a2,a9]at p27);obtain⟨hc,hfn⟩:=rC148 hρ;clear hρ;go_simp;(all_goals with_reducible first|rfl|(constructor <;> rfl)))
      (with_reducible refine qda (v:=?_) (w':=?_) rfl (by with_unfolding_all rfl) (fun ρ hρ=>?_) ?_ ?_ ?_);(rotate_left 2)
      focus(obtain⟨hc,hfn⟩:=rC148 hρ;clear hρ;go_simp;(all_goals with_reducible first|rfl|(constructor <;> rfl)))
      focus exact(T.out.addbox #[.int .i64 0,.string ⟨#[]⟩,.int .i64 0,.int .i64 0,.int .i64 0,.string ⟨#[]⟩,.string ⟨#[]⟩,.bool false,.int .i64 0,.int .u64 0,.string ⟨#[]⟩,.slice none 0 0,.slice none 0 0,.slice none 0 0,.slice none 0 0,.slice none 0 0] 65).dropbox0
      have T:=Lib.hid (T.out.addbox #[.int .i64 0,.string ⟨#[]⟩,.int .i64 0,.int .i64 0,.int .i64 0,.string ⟨#[]⟩,.string ⟨#[]⟩,.bool false,.int .i64 0,.int .u64 0,.string ⟨#[]⟩,.slice none 0 0,.slice none 0 0,.slice none 0 0,.slice none 0 0,.slice none 0 0] 65);generalize hA:World.alloc w6 _=w10 at T ⊢;clear hA;rotate_left 1
      focus exact qap
      (refine qbg rfl 65 (.tmp 10) (.tmp 35) (by with_unfolding_all rfl) _ vs.toArray #[.int .i64 0,.string ⟨#[]⟩,.int .i64 0,.int .i64 0,.int .i64 0,.string ⟨#[]⟩,.string ⟨#[]⟩,.bool false,.int .i64 0,.int .u64 0,.string ⟨#[]⟩,.slice none 0 0,.slice none 0 0,.slice none 0 0,.slice none 0 0,.slice none 0 0] 65 ?_ ?_ (T.out.box 0 rfl) Z1.out Z2.out HO.out ?_ ?_ ?_)
      focus(simp +decide only [qa2,hsz,ev_eq,ev_ne,a7,a2,a9])
      focus(simp +decide only [qa2,hsz,ev_eq,ev_ne,a7,a2,a9])
      focus exact(T.out.setrowbox 0 rfl vs.toArray).dropbox0
      have T:=Lib.hid (T.out.setrowbox 0 rfl vs.toArray);generalize hA:World.setRow w10 _ _=w11 at T ⊢;clear hA;rotate_left 1
      focus exact qap
      with_reducible refine qao ?_
      (simp only [List.drop_succ_cons,List.drop_zero])
      subst ha
      (simp only [qav,set_s,set_z])
      go_wp2;go_meet
      exact⟨_,vs,rfl,rfl,T,HVS⟩
     (with_reducible refine qda (v:=?_) (w':=?_) rfl (by with_unfolding_all rfl) (fun ρ hρ=>?_) ?_ ?_ ?_);(rotate_left 2)
     focus(obtain⟨hc,hfn⟩:=rC148 hρ;clear hρ;go_simp;(all_goals with_reducible first|rfl|(constructor <;> rfl)))
     focus exact(T.out.addbox #[.int .i64 0,.string ⟨#[]⟩,.int .i64 0,.int .i64 0,.int .i64 0,.string ⟨#[]⟩,.string ⟨#[]⟩,.bool false,.int .i64 0,.int .u64 0,.string ⟨#[]⟩,.slice none 0 0,.slice none 0 0,.slice none 0 0,.slice none 0 0,.slice none 0 0] 65).dropbox0
     have T:=Lib.hid (T.out.addbox #[.int .i64 0,.string ⟨#[]⟩,.int .i64 0,.int .i64 0,.int .i64 0,.string ⟨#[]⟩,.string ⟨#[]⟩,.bool false,.int .i64 0,.int .u64 0,.string ⟨#[]⟩,.slice none 0 0,.slice none 0 0,.slice none 0 0,.slice none 0 0,.slice none 0 0] 65);generalize hA:World.alloc wd _=w10 at T ⊢;clear hA;rotate_left 1
     focus exact qap
     (with_reducible refine qam (f:=?_) (args:=?_) rfl (by with_unfolding_all rfl) (fun ρ hρ=>?_) ?_ ?_);(rotate_left 2)
     focus(have p28:=hρ (.tmp 28);have p33:=hρ (.tmp 33);(simp +decide only [qa2,hsz,ev_eq,ev_ne,a7,a2,a9]at p28 p33);obtain⟨hc,hfn⟩:=rC148 hρ;clear hρ;rw [qa9 (hfn _)];clear hfn;go_simp;(all_goals with_reducible first|rfl|(constructor <;> rfl)))
     with_reducible refine(CFd.out _ T.out.bel _).mono ?_
     rintro e w6 ⟨vs,rfl,hvs,g⟩;have g:Bel w10 w6:=g;obtain⟨hlen,hone⟩:=qc9 hvs;have HVS:=Lib.hid hvs;have Z0:vs.toArray.size=16:=(by rw [List.size_toArray];exact hlen);have Z1:=Lib.hid (show(Tryz.prog.info? 65).map (·.size)=some vs.toArray.size by rw [Z0];exact ar_F);have Z2:=Lib.hid (show(#[.int .i64 0,.string ⟨#[]⟩,.int .i64 0,.int .i64 0,.int .i64 0,.string ⟨#[]⟩,.string ⟨#[]⟩,.bool false,.int .i64 0,.int .u64 0,.string ⟨#[]⟩,.slice none 0 0,.slice none 0 0,.slice none 0 0,.slice none 0 0,.slice none 0 0]:Array Value).size=vs.toArray.size by rw [Z0];rfl);have HO:=Lib.hid hone;clear hlen hone Z0 hvs;have T:=Lib.hid (T.out.belw g);clear g;refine⟨_,rfl,T.out.dropbox0,?_⟩;rotate_left 1
     focus exact qap
     (with_reducible refine qa1 (v:=?_) rfl (by with_unfolding_all rfl) (fun ρ hρ W hW=>?_) ?_);(rotate_left 1)
     focus(clear hW;have p34:=hρ (.tmp 34);(simp +decide only [qa2,hsz,ev_eq,ev_ne,a7,a2,a9]at p34);obtain⟨hc,hfn⟩:=rC148 hρ;clear hρ;go_simp;(all_goals with_reducible first|rfl|(constructor <;> rfl)))
     (with_reducible refine qa1 (v:=?_) rfl (by with_unfolding_all rfl) (fun ρ hρ W hW=>?_) ?_);(rotate_left 1)
     focus(clear hW;have p27:=hρ (.tmp 27);(simp +decide only [qa2,hsz,ev_eq,ev_ne,a7,a2,a9]at p27);obtain⟨hc,hfn⟩:=rC148 hρ;clear hρ;go_simp;(all_goals with_reducible first|rfl|(constructor <;> rfl)))
     (with_reducible refine qa1 (v:=?_) rfl (by with_unfolding_all rfl) (fun ρ hρ W hW=>?_) ?_);(rotate_left 1)
     focus(clear hW;have p27:=hρ (.tmp 27);(simp +decide only [qa2,hsz,ev_eq,ev_ne,a7,a2,a9]at p27);obtain⟨hc,hfn⟩:=rC148 hρ;clear hρ;go_simp;(all_goals with_reducible first|rfl|(constructor <;> rfl)))
     (refine qbg rfl 65 (.tmp 10) (.tmp 35) (by with_unfolding_all rfl) _ vs.toArray #[.int .i64 0,.string ⟨#[]⟩,.int .i64 0,.int .i64 0,.int .i64 0,.string ⟨#[]⟩,.string ⟨#[]⟩,.bool false,.int .i64 0,.int .u64 0,.string ⟨#[]⟩,.slice none 0 0,.slice none 0 0,.slice none 0 0,.slice none 0 0,.slice none 0 0] 65 ?_ ?_ (T.out.box 0 rfl) Z1.out Z2.out HO.out ?_ ?_ ?_)
     focus(simp +decide only [qa2,hsz,ev_eq,ev_ne,a7,a2,a9])
     focus(simp +decide only [qa2,hsz,ev_eq,ev_ne,a7,a2,a9])
     focus exact(T.out.setrowbox 0 rfl vs.toArray).dropbox0
     have T:=Lib.hid (T.out.setrowbox 0 rfl vs.toArray);generalize hA:World.setRow w6 _ _=w11 at T ⊢;clear hA;rotate_left 1
     focus exact qap
     with_reducible refine qao ?_
     (simp only [List.drop_succ_cons,List.drop_zero])
     subst ha
     (simp only [qav,set_s,set_z])
     go_wp2;go_meet
     exact⟨_,vs,rfl,rfl,T,HVS⟩
    case rest=>
     obtain⟨fb,vs,h10,h11,HF,HVS⟩:=hcut;subst h10 h11;clear hS hc0 hc1 CFd
     go_upto_region 8 with(fail)
     obtain⟨wd,hwd⟩ : ∃wd,wd=wc.drew:=⟨_,rfl⟩;have HD:=Lib.hid (show ST w0 [] [⟨fb,vs.toArray,65⟩,⟨mb,vm.toArray,57⟩,⟨w0.heap.size,#[.slice q1 s.msgs.length c1,.slice q2 s.enums.length c2,.slice q3 s.svcs.length c3],26⟩] wd by rw [hwd];exact HF.out.belw (Bel.refl _).drew);have HWD:=Lib.hid hwd;clear hwd HF;have e0:=HD.out.bel.some HC0.out;have e1:=HD.out.bel.some HC1.out;by_cases hk0:k=0
     ·subst hk0
      have hki2:((0:Nat):Int)=0:=rfl;have HP:=Lib.hid (show ¬((pvM l 0).any fun p=>decide (l[0].num<=p))=true from Bool.false_ne_true);refine qae 14 (by kernel_rfl) (by kernel_rfl) HWD.out ?_
      (simp only [List.take_succ_cons,List.take_zero,List.drop_succ_cons,List.drop_zero]);(repeat (first|((with_reducible refine wpStill_step (fun K hK=>?_));go_simp;(with_reducible refine hK _ ?_);clear hK K)|((with_reducible refine qaf ?_ ?_);(with_unfolding_all rfl);(simp only [Act.put,List.setIfInBounds_toArray,List.set_cons_zero,List.set_cons_succ]))));(with_reducible refine wpStill_nil ?_)
      cases hf:qai m x.num with
      | none=>
       rw [qhc hlt HP.out HM.out (by rw [HXK.out];exact hf)]at hst;subst hst;rw [hf]at HVS;go_wp2;go_ret;exact⟨rfl,HD.out.bel⟩
      | some f=>
       rw [hf]at HVS;have HVF:=Lib.hid (show VField w0 vs f from HVS.out);have HL16:=Lib.hid (VField.len _ _ _ HVF.out);have HF5:=Lib.hid (VField.at HVF.out).2.2.2.2;have CS:=Lib.hid (fun W=>qgq (f:=f) (vs:=vs) W HVF.out);cases hwx:whole x with
       | true=>
        rw [qfc hlt HP.out HM.out (by rw [HXK.out];exact hf) (by rw [HXK.out];exact hwx)]at hst;have HST:=Lib.hid hst;obtain⟨r1,r2,r3⟩:=qd4 (whole_iff.1 hwx);clear hst hf hwx HVS;go_wp2;go_roundw
        case rel=>exact⟨0+1,by omega,by go_num,Lib.hid HD.out.dropbox0,HST⟩
        case measure=>simp [intOf];omega
       | false=>
        have hn0:=DX.out.ne (qaz hwx);obtain⟨r1,r2,r3,r4⟩:=qe6 (qaz hwx);have K16:=Lib.hid (show ∃K,K=16 from⟨_,rfl⟩);obtain⟨K,hK⟩:=K16.out;have zE : ∀w,(Go.sizeOf 65).run Tryz.prog w=.ok K w:=hK ▸ sz_F;have aE:=ag_F
        have l2:Sem.run Tryz.prog (loadCellsFrom ⟨fb,0,none⟩ 0 K #[]) wd=.ok vs.toArray wd:=run_loadCellsFrom_list Tryz.prog _ _ vs K (HL16.out.trans hK.symm) (fun j v hj=>by
         rw [Addr.add_lit,Nat.zero_add,Lib.cell_of_heap (HD.out.box 0 rfl)]
         simpa using hj)
        have HK:=Lib.hid hK;clear hK K16;cases hsf:qax f with
        | false=>
         rw [qhb hlt HP.out HM.out (by rw [HXK.out];exact hf) (by rw [HXK.out];exact hwx) hsf]at hst;subst hst;rw [hsf]at CS;clear hf hwx HVS hsf
         go_wp2_with (go_at_call 32;(with_reducible refine(CS.out _).mono ?_);rintro e w3 ⟨rfl,k3⟩;have k3:Bel _ w3:=k3;have H3:=Lib.hid (HD.out.belw k3);clear e1 l2;have e1:=H3.out.bel.some HC1.out;clear k3)
         go_ret;exact⟨rfl,H3.out.bel⟩
        | true=>
         rw [qkq hlt HP.out HM.out (by rw [HXK.out];exact hf) (by rw [HXK.out];exact hwx) hsf,HXK.out]at hst;rw [hsf]at CS;have CI:=Lib.hid (fun W (kk:Bel w0 W) (h:MaskD A n W (.slice sp x.subs.length sc) x.subs)=>IH hn0 A (.slice q1 s.msgs.length c1) (.slice q2 s.enums.length c2) (.slice q3 s.svcs.length c3) s f.tn _ x.subs W (HS.out W kk) h);generalize chk (envOf s) n f.tn x.subs=RC at CI hst;clear hf hwx HVS hsf hn0
         go_upto_region 15 with(go_at_call 32;(with_reducible refine(CS.out _).mono ?_);rintro e w3 ⟨rfl,k3⟩;have k3:Bel _ w3:=k3;have H3:=Lib.hid (HD.out.belw k3);clear e1 l2;have e1:=H3.out.bel.some HC1.out;clear k3)
         clear e1;obtain⟨we,hwe⟩ : ∃we,we=w3.drew:=⟨_,rfl⟩;have H4:=Lib.hid (show ST w0 [] [⟨fb,vs.toArray,65⟩,⟨mb,vm.toArray,57⟩,⟨w0.heap.size,#[.slice q1 s.msgs.length c1,.slice q2 s.enums.length c2,.slice q3 s.svcs.length c3],26⟩] we by rw [hwe];exact H3.out.belw (Bel.refl _).drew);have HWE:=Lib.hid hwe;clear hwe;have t0:=H4.out.cell 2 rfl 0;have t1:=H4.out.cell 2 rfl 1;have t2:=H4.out.cell 2 rfl 2;have t5:=(H4.out.cell 0 rfl 5).trans HF5.out;dsimp only at t0 t1 t2 t5;have e1:=H4.out.bel.some HC1.out;refine qae 9 (by kernel_rfl) (by kernel_rfl) HWE.out ?_
         (simp only [List.take_succ_cons,List.take_zero,List.drop_succ_cons,List.drop_zero]);(repeat (first|((with_reducible refine wpStill_step (fun K hK=>?_));go_simp;(with_reducible refine hK _ ?_);clear hK K)|((with_reducible refine qaf ?_ ?_);(with_unfolding_all rfl);(simp only [Act.put,List.setIfInBounds_toArray,List.set_cons_zero,List.set_cons_succ]))));(with_reducible refine wpStill_nil ?_)
         by_cases h0:RC=0
         ·rw [if_pos h0]at hst
          subst h0;have HST:=Lib.hid hst;clear hst
          go_wp2_with (go_at_call 10;(with_reducible refine(CI.out _ H4.out.bel (DX.out.bel H4.out.bel)).mono ?_);rintro e w5 ⟨rfl,k5⟩;have k5:Bel _ w5:=k5;have H5:=Lib.hid (H4.out.belw k5);clear k5)
          go_roundw
          case rel=>exact⟨0+1,by omega,by go_num,Lib.hid H5.out.dropbox0,HST⟩
          case measure=>simp [intOf];omega
         ·rw [if_neg h0]at hst
          subst hst;have hb0:(RC != 0)=true:=bne_t h0;clear h0
          go_wp2_with (go_at_call 10;(with_reducible refine(CI.out _ H4.out.bel (DX.out.bel H4.out.bel)).mono ?_);rintro e w5 ⟨rfl,k5⟩;have k5:Bel _ w5:=k5;have H5:=Lib.hid (H4.out.belw k5);clear k5)
          go_ret;exact⟨rfl,H5.out.bel⟩
     ·obtain⟨kp,hkk⟩ : ∃kp,k=kp+1:=⟨k-1,by omega⟩
      have hkp:kp<l.length:=by omega
      have hkpi:(kp:Int)<(l.length:Int):=by omega
      have hki0:(0:Int)<(k:Int):=by omega
      have hkn0:0<k:=by omega
      have jw2:IntKind.i64.wrap (kp:Int)=(kp:Int):=IntWalk.i64_in _ (by omega);have jw:IntKind.i64.wrap ((k:Int)-1)=(kp:Int):=by rw [show(k:Int)-1=(kp:Int)by omega];exact jw2
      obtain⟨z,hz,b2,off2,hq2,hp0⟩:=HPV.out kp hkk;cases hq2;have y0:=HD.out.bel.some hp0;clear hp0;by_cases hxz:x.num<=z
      ·rw [chk_ord hlt (by rw [HXK.out,hz];simpa using hxz)]at hst
       subst hst;clear hkk hz;refine qae 14 (by kernel_rfl) (by kernel_rfl) HWD.out ?_
       (simp only [List.take_succ_cons,List.take_zero,List.drop_succ_cons,List.drop_zero]);(repeat (first|((with_reducible refine wpStill_step (fun K hK=>?_));go_simp;(with_reducible refine hK _ ?_);clear hK K)|((with_reducible refine qaf ?_ ?_);(with_unfolding_all rfl);(simp only [Act.put,List.setIfInBounds_toArray,List.set_cons_zero,List.set_cons_succ]))));(with_reducible refine wpStill_nil ?_)
       go_wp2;go_ret
       exact⟨rfl,HD.out.bel⟩
      ·have HP:=Lib.hid (show ¬((pvM l k).any fun p=>decide (l[k].num<=p))=true by rw [HXK.out,hz];simpa using hxz)
       have hzd:decide (x.num<=z)=false:=by simpa using hxz
       have hz2:z<x.num:=by omega
       clear hxz hkk hz;refine qae 14 (by kernel_rfl) (by kernel_rfl) HWD.out ?_
       (simp only [List.take_succ_cons,List.take_zero,List.drop_succ_cons,List.drop_zero]);(repeat (first|((with_reducible refine wpStill_step (fun K hK=>?_));go_simp;(with_reducible refine hK _ ?_);clear hK K)|((with_reducible refine qaf ?_ ?_);(with_unfolding_all rfl);(simp only [Act.put,List.setIfInBounds_toArray,List.set_cons_zero,List.set_cons_succ]))));(with_reducible refine wpStill_nil ?_)
       clear y0 jw jw2;cases hf:qai m x.num with
       | none=>
        rw [qhc hlt HP.out HM.out (by rw [HXK.out];exact hf)]at hst;subst hst;rw [hf]at HVS;go_wp2;go_ret;exact⟨rfl,HD.out.bel⟩
       | some f=>
        rw [hf]at HVS;have HVF:=Lib.hid (show VField w0 vs f from HVS.out);have HL16:=Lib.hid (VField.len _ _ _ HVF.out);have HF5:=Lib.hid (VField.at HVF.out).2.2.2.2;have CS:=Lib.hid (fun W=>qgq (f:=f) (vs:=vs) W HVF.out);cases hwx:whole x with
        | true=>
         rw [qfc hlt HP.out HM.out (by rw [HXK.out];exact hf) (by rw [HXK.out];exact hwx)]at hst;have HST:=Lib.hid hst;obtain⟨r1,r2,r3⟩:=qd4 (whole_iff.1 hwx);clear hst hf hwx HVS;go_wp2;go_roundw
         case rel=>exact⟨k+1,by omega,by go_num,Lib.hid HD.out.dropbox0,HST⟩
         case measure=>simp [intOf];omega
        | false=>
         have hn0:=DX.out.ne (qaz hwx);obtain⟨r1,r2,r3,r4⟩:=qe6 (qaz hwx);have K16:=Lib.hid (show ∃K,K=16 from⟨_,rfl⟩);obtain⟨K,hK⟩:=K16.out;have zE : ∀w,(Go.sizeOf 65).run Tryz.prog w=.ok K w:=hK ▸ sz_F;have aE:=ag_F
         have l2:Sem.run Tryz.prog (loadCellsFrom ⟨fb,0,none⟩ 0 K #[]) wd=.ok vs.toArray wd:=run_loadCellsFrom_list Tryz.prog _ _ vs K (HL16.out.trans hK.symm) (fun j v hj=>by
          rw [Addr.add_lit,Nat.zero_add,Lib.cell_of_heap (HD.out.box 0 rfl)]
          simpa using hj)
         have HK:=Lib.hid hK;clear hK K16;cases hsf:qax f with
         | false=>
          rw [qhb hlt HP.out HM.out (by rw [HXK.out];exact hf) (by rw [HXK.out];exact hwx) hsf]at hst;subst hst;rw [hsf]at CS;clear hf hwx HVS hsf
          go_wp2_with (go_at_call 32;(with_reducible refine(CS.out _).mono ?_);rintro e w3 ⟨rfl,k3⟩;have k3:Bel _ w3:=k3;have H3:=Lib.hid (HD.out.belw k3);clear e1 l2;have e1:=H3.out.bel.some HC1.out;clear k3)
          go_ret;exact⟨rfl,H3.out.bel⟩
         | true=>
          rw [qkq hlt HP.out HM.out (by rw [HXK.out];exact hf) (by rw [HXK.out];exact hwx) hsf,HXK.out]at hst;rw [hsf]at CS;have CI:=Lib.hid (fun W (kk:Bel w0 W) (h:MaskD A n W (.slice sp x.subs.length sc) x.subs)=>IH hn0 A (.slice q1 s.msgs.length c1) (.slice q2 s.enums.length c2) (.slice q3 s.svcs.length c3) s f.tn _ x.subs W (HS.out W kk) h);generalize chk (envOf s) n f.tn x.subs=RC at CI hst;clear hf hwx HVS hsf hn0
          go_upto_region 15 with(go_at_call 32;(with_reducible refine(CS.out _).mono ?_);rintro e w3 ⟨rfl,k3⟩;have k3:Bel _ w3:=k3;have H3:=Lib.hid (HD.out.belw k3);clear e1 l2;have e1:=H3.out.bel.some HC1.out;clear k3)
          clear e1;obtain⟨we,hwe⟩ : ∃we,we=w3.drew:=⟨_,rfl⟩;have H4:=Lib.hid (show ST w0 [] [⟨fb,vs.toArray,65⟩,⟨mb,vm.toArray,57⟩,⟨w0.heap.size,#[.slice q1 s.msgs.length c1,.slice q2 s.enums.length c2,.slice q3 s.svcs.length c3],26⟩] we by rw [hwe];exact H3.out.belw (Bel.refl _).drew);have HWE:=Lib.hid hwe;clear hwe;have t0:=H4.out.cell 2 rfl 0;have t1:=H4.out.cell 2 rfl 1;have t2:=H4.out.cell 2 rfl 2;have t5:=(H4.out.cell 0 rfl 5).trans HF5.out;dsimp only at t0 t1 t2 t5;have e1:=H4.out.bel.some HC1.out;refine qae 9 (by kernel_rfl) (by kernel_rfl) HWE.out ?_
          (simp only [List.take_succ_cons,List.take_zero,List.drop_succ_cons,List.drop_zero]);(repeat (first|((with_reducible refine wpStill_step (fun K hK=>?_));go_simp;(with_reducible refine hK _ ?_);clear hK K)|((with_reducible refine qaf ?_ ?_);(with_unfolding_all rfl);(simp only [Act.put,List.setIfInBounds_toArray,List.set_cons_zero,List.set_cons_succ]))));(with_reducible refine wpStill_nil ?_)
          by_cases h0:RC=0
          ·rw [if_pos h0]at hst
           subst h0;have HST:=Lib.hid hst;clear hst
           go_wp2_with (go_at_call 10;(with_reducible refine(CI.out _ H4.out.bel (DX.out.bel H4.out.bel)).mono ?_);rintro e w5 ⟨rfl,k5⟩;have k5:Bel _ w5:=k5;have H5:=Lib.hid (H4.out.belw k5);clear k5)
           go_roundw
           case rel=>exact⟨k+1,by omega,by go_num,Lib.hid H5.out.dropbox0,HST⟩
           case measure=>simp [intOf];omega
          ·rw [if_neg h0]at hst
           subst hst;have hb0:(RC != 0)=true:=bne_t h0;clear h0
           go_wp2_with (go_at_call 10;(with_reducible refine(CI.out _ H4.out.bel (DX.out.bel H4.out.bel)).mono ?_);rintro e w5 ⟨rfl,k5⟩;have k5:Bel _ w5:=k5;have H5:=Lib.hid (H4.out.belw k5);clear k5)
           go_ret;exact⟨rfl,H5.out.bel⟩
   ·have hkl:k=l.length:=by omega
    have hki : ¬(k:Int)<(l.length:Int):=by omega
    have hz:0=R:=by have:=hx.out;rw [hkl,List.drop_length]at this;exact this
    subst hz;clear hx EL;go_wp2;go_ret;exact⟨rfl,hS.out.bel⟩
theorem qfj : ∀n:Nat,qoh (n+1)
 | 0=>qep 0 (fun h=>absurd rfl h)
 | n+1=>qep (n+1) (fun _=>qfj n)
end Go.Proofs.YtaaneecceiefoaaGreatDoor
