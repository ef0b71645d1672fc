import Derived.Test.YtaaneecceiefoaaGreatDoorMaMinus
import Derived.Test.YtaaneecceiefoaaGreatDoorMzCov
import Derived.Test.YtaaneecceiefoaaGreatDoorMaEnvD
set_option maxRecDepth 100000
set_option maxHeartbeats 4000000
set_option linter.unusedVariables false
set_option linter.unusedSimpArgs false
namespace Go.Proofs.YtaaneecceiefoaaGreatDoor
open Go.RowKit Ck Ma
theorem rC151 {a:Act} {ρ:Operand->Value} (h : ∀x,ρ x=a.eval x):(∀c,ρ (.const c)=c)/\∀f,ρ (.func f)=.func (.func f) #[] #[]:=⟨fun c=>h (.const c),fun f=>h (.func f)⟩
def qog (n:Nat):Prop := ∀(A:Nat->Prop) (mv ev sv:Value) (s:PSchema) (name:Str) (v1 v2:Value) (a b:List PMask) (w:World),(∀b,A b->b<w.heap.size)->VSchema w [mv,ev,sv] s->(envOf s).Ok->(∀m ∈ s.msgs,m.fields.length<=1000000000)->MaskD A n w v1 a->MaskD A n w v2 b->Nm (envOf s) n name a->Nm (envOf s) n name b->Wd 1000000000 n a->Calls Tryz.prog 21 #[.agg #[mv,ev,sv],.string (S name),v1,v2] w (qbm A n w (minus (envOf s) n name a b))
theorem all_of {s:PSchema} {name:Str} {m:PMsg} (hm:msgOf s name=some m):all (envOf s) name=m.fields.map fun f=>PMask.mk f.num []:=by
 show(((msgOf s name).map fun m=>m.fields.map (·.num)).getD []).map _=_
 rw [hm];show(m.fields.map _).map _=_
 rw [List.map_map];rfl
theorem qeo (n:Nat) (IH:n ≠ 0->qog n):qog (n+1):=by
 intro A mv ev sv s name v1 v2 la b w0 hA hs hE hN ha hb hna hnb hwa;obtain⟨m,hm⟩ : ∃m,msgOf s name=some m:=Option.isSome_iff_exists.1 hna.hs;obtain⟨i1,hi1,hy0,hy1,hy2⟩:=info_parts qce;have HS:=Lib.hid (fun(W:World) (k:Bel w0 W)=>VSchema.staysB hs k);have CM0:=Lib.hid (fun nm W (k:Bel w0 W)=>qcj mv ev sv s nm w0 W k hs);have HN:=Lib.hid hN;have HE:=Lib.hid hE;obtain⟨_,_,_,he,hm,hev,hsv⟩:=hs;cases he;obtain⟨q2,c2,rfl,hl2⟩:=qa5 hev;obtain⟨q3,c3,rfl,hl3⟩:=qa5 hsv;obtain⟨q1,c1,rfl,hl1⟩:=qa5 hm;clear hm hev hsv;obtain⟨pb,cb,rfl⟩:=hb.form;have DB:=Lib.hid hb;have HA0:=Lib.hid hA;have WA:=Lib.hid hwa;have NA:=Lib.hid hna;have NB:=Lib.hid hnb;obtain⟨p,c,rfl,hl,hcap,hel⟩:=ha;have EL:=Lib.hid hel;have V:=Lib.hid (show([]:List ME).map (·.x) ++ (la.drop 0).filterMap (minO (envOf s) (minus (envOf s) n) name b)=minus (envOf s) (n+1) name la b from rfl);generalize minus (envOf s) (n+1) name la b=Z at V;have hal:la.length<=1000000000:=hwa.1;have hS0:=Lib.hid ((ST.start w0).addbox #[.slice q1 s.msgs.length c1,.slice q2 s.enums.length c2,.slice q3 s.svcs.length c3] 26);have HMo:=Lib.hid hm;have CM1:=CM0.out name;rw [hm]at CM1;have CM1:=Lib.hid CM1;clear hel hcap hb hA hwa hna hnb hE hN hm
 go_enter Tryz.func21,Tryz.ntmps21
 go_upto_region 3 with(first
  | (go_at_call 30;(with_reducible refine(CM1.out _ hS0.out.bel).mono ?_);rintro e w1 ⟨vm,at1,rfl,hvs,hat,k1⟩;have k1:Bel _ w1:=k1;have HVM:=Lib.hid (show VMsg _ vm m from hvs);obtain⟨hlen,hone⟩:=qbq hvs;have HVS:=Lib.hid hvs;have Z0:vm.toArray.size=5:=(by rw [List.size_toArray];exact hlen);have Z1:=Lib.hid (show(Tryz.prog.info? 57).map (·.size)=some vm.toArray.size by rw [Z0];exact ar_M);have Z2:=Lib.hid (show(#[.string ⟨#[]⟩,.slice none 0 0,.slice none 0 0,.slice none 0 0,.slice none 0 0]:Array Value).size=vm.toArray.size by rw [Z0];rfl);have HO:=Lib.hid hone;clear hlen hone Z0 hvs;have H1:=Lib.hid ((hS0.out.belw k1).addbox vm.toArray 57);clear k1)
  | (refine qa3 (old:=#[.string ⟨#[]⟩,.slice none 0 0,.slice none 0 0,.slice none 0 0,.slice none 0 0]) rfl 57 _ _ rfl w1 rfl w1.heap.size rfl vm.toArray rfl rfl Z1.out Z2.out HO.out ?_))
 generalize hwz:World.alloc w1 _=wz at H1 ⊢;clear hwz;generalize hmb:w1.heap.size=mb at H1 ⊢;clear hmb HVS HO Z2 CM1 hS0 hat;have HZ1:=Z1;have CFd:=Lib.hid (fun W (kk:Bel w0 W) q=>qir (m:=m) (vm:=vm) q w0 W kk HVM.out);have HT:=Lib.hid (H1.out.nilrow 61 2);clear H1 Z1 HVM;go_wp2
 go_loopw [9,12] (fun vo i wr => ∃(k:Nat) (L:List ME),k<=la.length/\i=.int .i64 k/\Hid (ST w0 [medge vo L] [⟨mb,vm.toArray,57⟩,⟨w0.heap.size,#[.slice q1 s.msgs.length c1,.slice q2 s.enums.length c2,.slice q3 s.svcs.length c3],26⟩] wr)/\L.length<=k/\Hid (RowOK A w0.heap.size n vo L wr)/\Hid (L.map (·.x) ++ (la.drop k).filterMap (minO (envOf s) (minus (envOf s) n) name b)=Z)) (fun _ i _=>la.length-(intOf i).toNat)
 case atStart=>exact⟨0,[],by omega,rfl,HT,by simp,Lib.hid (RowOK.nil _ _ _ _ _),V⟩
 case round=>as_aux_lemma=>
  clear V HT;obtain⟨k,L,hk,rfl,hS,hLk,hO,hx⟩:=hrel;obtain⟨qo,co,hvo⟩:=qan (hS.out.row 0 rfl);dsimp only [medge]at hvo;subst hvo;by_cases hlt:k<la.length
  ·obtain⟨g,off,sv,rfl,hbs,hab,hc0,hc1,hd⟩:=EL.out k _ (List.getElem?_eq_getElem hlt)
   obtain⟨sp,sc,rfl⟩:=hd.form;have hki:(k:Int)<(la.length:Int):=by omega
   have e0:=hS.out.bel.some hc0;have e1:=hS.out.bel.some hc1;have hst:=hx.out;rw [fm_at hlt]at hst;have WX:=Lib.hid (WA.out.2 _ (List.getElem_mem hlt));obtain⟨f,hf1,hf2,hf3⟩:=nm_at HMo.out NA.out (List.getElem_mem hlt);clear hx WA NA hab;generalize la[k]=x at *;have HC0:=Lib.hid hc0;have HC1:=Lib.hid hc1;have HD:=Lib.hid (show MaskD A n w0 (.slice sp x.subs.length sc) x.subs from hd);have O0:=hO;have H0:=hS;have K0:=Lib.hid (Bel.refl wr);clear hS hd hO hc0 hc1;have CF0:MaskD A (n+1) wr (.slice pb b.length cb) b:=DB.out.bel H0.out.bel;cases hz:find b x.num with
   | none=>
    have CF:=Lib.hid (qiu hz _ CF0);have hp:minO (envOf s) (minus (envOf s) n) name b x=some x:=by unfold minO;rw [hz]
    rw [hp]at hst;have HST:=Lib.hid hst;clear hst hz hp CF0 hf1 hf2 hf3
    go_upto_region 8 with(go_at_call 48;(with_reducible refine CF.out.mono ?_);rintro e w1 ⟨fp,fc,rfl,k1⟩;have k1:Bel _ w1:=k1;have H1:=Lib.hid ((H0.out.belw k1).addbox #[.int .i64 0,.slice fp 0 fc] 61);have K1:=Lib.hid (Bel.alloc k1 (.cells #[.int .i64 0,.slice fp 0 fc] 61));clear k1)
    generalize hwz:World.alloc w1 _=wz2 at H1 K1 ⊢;clear hwz e0 e1;have e0:=H1.out.bel.some HC0.out;have e1:=H1.out.bel.some HC1.out;have H3:=Lib.hid (H1.out.belw ((Bel.refl wz2).alloc (.cells #[.int .i64 x.num,.slice sp x.subs.length sc] 61)));have O3:=Lib.hid ((O0.out.bel K1.out).bel ((Bel.refl wz2).alloc (.cells #[.int .i64 x.num,.slice sp x.subs.length sc] 61)));have XD3:=Lib.hid (HD.out.bel H3.out.bel)
    go_wp2_with (at_builtin;refine wpList_append_lies _ rfl _ _ 27 rfl w0.heap.size 61 i1 (.agg #[.int .i64 0,.slice none 0 0]) 2 32 Tryz.underlying27 hi1 hy0 hy1 hy2 rfl (by decide) _ L.length _ rfl (H3.out.row 0 rfl) ⟨wz2.heap.size,0,none⟩ 1 1 [.int .i64 x.num,.slice sp x.subs.length sc] rfl rfl (qau _ _ _) (by simp [Value.oneCell']) (by decide) (by unfold maxLen;omega) (by omega) H3.out.bel.size (wz2.heap.size+1) (by simp) ?_)
    intro g4 cap4 w4 hown hgrow hfr hlt4;have O4:=Lib.hid (RowOK.snoc (e:=⟨x,sp,sc⟩) (m:=L.length+1) (c:=cap4) O3.out H3.out HA0.out (qes (e:=⟨x,sp,sc⟩) XD3.out) hgrow hfr (by simp));have H4:=Lib.hid (qah (e:=⟨x,sp,sc⟩) (H3.out.grow 0 rfl hgrow hown (qbc hfr (by simp))));clear hown hgrow hfr;go_wp2;go_roundw
    case rel=>exact⟨k+1,L ++ [⟨x,sp,sc⟩],by omega,by go_num,Lib.hid H4.out.dropbox0,by rw [List.length_append,List.length_singleton];omega,O4,by simpa using HST⟩
    case measure=>simp [intOf];omega
   | some y=>
    have CF:=Lib.hid (qit hz _ CF0);obtain⟨hyb,hyn⟩:=qas hz;obtain⟨f',hf1',hf2',hf3'⟩:=nm_at HMo.out NB.out hyb;rw [hyn,hf1]at hf1';cases hf1';cases hwy:whole y with
    | true=>
     have hp:minO (envOf s) (minus (envOf s) n) name b x=none:=by unfold minO;rw [hz];exact if_pos hwy
     rw [hp,Option.toList_none,List.nil_append]at hst;have HST:=Lib.hid hst;obtain⟨r1,r2,r3⟩:=qd4 (whole_iff.1 hwy);clear hst hz hp CF0 hf1 hf2 hf3 hf2' hf3' hyb hyn hwy
     go_upto_region 9 with(go_at_call 48;(with_reducible refine CF.out.mono ?_);rintro e w1 ⟨fp,fc,rfl,hfd,k1⟩;have k1:Bel _ w1:=k1;have H1:=Lib.hid ((H0.out.belw k1).addbox #[.int .i64 y.num,.slice fp y.subs.length fc] 61);have K1:=Lib.hid (Bel.alloc k1 (.cells #[.int .i64 y.num,.slice fp y.subs.length fc] 61));have FD1:=Lib.hid (hfd.bel ((Bel.refl _).alloc (.cells #[.int .i64 y.num,.slice fp y.subs.length fc] 61)));clear k1 hfd)
     generalize hwz:World.alloc w1 _=wz2 at H1 K1 ⊢;clear hwz;have y1:=H1.out.cell 0 rfl 1;dsimp only at y1;go_wp2;go_roundw
     case rel=>exact⟨k+1,L,by omega,by go_num,Lib.hid (H1.out.dropbox0),by omega,Lib.hid (O0.out.bel K1.out),HST⟩
     case measure=>simp [intOf];omega
    | false=>
     have hys:qax f=true/\Nm (envOf s) n f.tn y.subs:=hf3'.resolve_left (qaz hwy);obtain⟨hty,hfn⟩:=from_nm HE.out hf2 hf3 hys hwy;dsimp only at hty hfn
     have hp:minO (envOf s) (minus (envOf s) n) name b x=if(minus (envOf s) n f.tn (fromF (envOf s) name x) y.subs).isEmpty then none else some (.mk x.num (minus (envOf s) n f.tn (fromF (envOf s) name x) y.subs)):=by
      unfold minO;rw [hz];show(if whole y=true then none else _)=_
      rw [if_neg (by rw [hwy];exact Bool.false_ne_true),hty]
     rw [hp]at hst;have HVF:=Lib.hid (show ∀vs,AtV VField zFld w0 vs (qai m x.num)->VField w0 vs f from fun vs h=>by rw [hf1]at h;exact h)
     have hn0:n ≠ 0:=fun e=>by
      subst e;exact qaz hwy hys.2.2
     obtain⟨r1,r2,r3,r4⟩:=qe6 (qaz hwy);clear hz hp CF0 hf1 hf2 hf3 hf2' hf3' hyb hyn hwy
     go_upto_region 9 with(go_at_call 48;(with_reducible refine CF.out.mono ?_);rintro e w1 ⟨fp,fc,rfl,hfd,k1⟩;have k1:Bel _ w1:=k1;have H1:=Lib.hid ((H0.out.belw k1).addbox #[.int .i64 y.num,.slice fp y.subs.length fc] 61);have K1:=Lib.hid (Bel.alloc k1 (.cells #[.int .i64 y.num,.slice fp y.subs.length fc] 61));have FD1:=Lib.hid (hfd.bel ((Bel.refl _).alloc (.cells #[.int .i64 y.num,.slice fp y.subs.length fc] 61)));clear k1 hfd)
     generalize hwz:World.alloc w1 _=w2 at H1 K1 FD1 ⊢;clear hwz;generalize hyb:w1.heap.size=yb at H1 ⊢;clear hyb;have y1:=H1.out.cell 0 rfl 1;dsimp only at y1
     go_upto_region 10 with(fail)
     clear y1 e0 e1
     go_cut [15,16] (fun s15 s16 wx => ∃(fb:Nat) (vs:List Value),s15=.pointer (some ⟨fb,0,none⟩)/\s16=.bool (qai m x.num).isSome/\Hid (ST w0 [medge (.slice qo L.length co) L] [⟨fb,vs.toArray,65⟩,⟨yb,#[.int .i64 y.num,.slice fp y.subs.length fc],61⟩,⟨mb,vm.toArray,57⟩,⟨w0.heap.size,#[.slice q1 s.msgs.length c1,.slice q2 s.enums.length c2,.slice q3 s.svcs.length c3],26⟩] wx)/\Hid (AtV VField zFld w0 vs (qai m x.num))/\Hid (Bel w2 wx))
     case first=>as_aux_lemma=>
      obtain⟨wd,hwd⟩ : ∃wd,wd=w2.drew:=⟨_,rfl⟩;have T:=Lib.hid (show ST w0 [medge (.slice qo L.length co) L] [⟨yb,#[.int .i64 y.num,.slice fp y.subs.length fc],61⟩,⟨mb,vm.toArray,57⟩,⟨w0.heap.size,#[.slice q1 s.msgs.length c1,.slice q2 s.enums.length c2,.slice q3 s.svcs.length c3],26⟩] wd/\Bel w2 wd by rw [hwd];exact⟨H1.out.belw (Bel.refl _).drew,(Bel.refl _).drew⟩);have HWD:=Lib.hid hwd;clear hwd;have KS:=Lib.hid (fun W (h:ST w0 [medge (.slice qo L.length co) L] [⟨yb,#[.int .i64 y.num,.slice fp y.subs.length fc],61⟩,⟨mb,vm.toArray,57⟩,⟨w0.heap.size,#[.slice q1 s.msgs.length c1,.slice q2 s.enums.length c2,.slice q3 s.svcs.length c3],26⟩] W/\Bel w2 W)=>show W.cell? ⟨g,off+k*2,none⟩=some (.int .i64 x.num)/\W.heap[mb]? = some (.cells vm.toArray 57 (0,0))from⟨h.1.bel.some HC0.out,h.1.box 1 rfl⟩);refine qac (fun W=>ST w0 [medge (.slice qo L.length co) L] [⟨yb,#[.int .i64 y.num,.slice fp y.subs.length fc],61⟩,⟨mb,vm.toArray,57⟩,⟨w0.heap.size,#[.slice q1 s.msgs.length c1,.slice q2 s.enums.length c2,.slice q3 s.svcs.length c3],26⟩] W/\Bel w2 W) (.take 0 (.take 1 (.take 2 (.take 3 (.take 4 (.take 5 (.alt 6 (.take 7 (.take 8 (.take 9 (.alt 10 (.alt 11 .done .no) .no)))) (.alt 10 (.alt 6 (.take 7 (.take 8 (.take 9 (.alt 11 .done .no)))) .no) .no)))))))) 12 (by kernel_rfl) (by kernel_rfl) HWD.out T.out (fun a ha=>?_)
      (simp only [pickT,List.getD_cons_zero,List.getD_cons_succ])
      have hsz:a.tmps.size=105:=(by rw [ha];kernel_rfl);have a10:a.eval (.tmp 10)=.pointer (some ⟨mb,0,none⟩):=(by rw [ha];kernel_rfl);have a2:a.eval (.tmp 2)=.slice (some ⟨g,off,none⟩) la.length c:=(by rw [ha];kernel_rfl);have a12:a.eval (.tmp 12)=.int .i64 k:=(by rw [ha];kernel_rfl)
      (with_reducible refine qa1 (v:=?_) rfl (by with_unfolding_all rfl) (fun ρ hρ W hW=>?_) ?_);(rotate_left 1)
      focus(have hS:=KS.out _ hW;clear hW;have p10:=hρ (.tmp 10);(simp +decide only [qa2,hsz,ev_eq,ev_ne,a10,a2,a12]at p10);obtain⟨hc,hfn⟩:=rC151 hρ;clear hρ;exact qdm p10 hS.2 HZ1.out)
      (with_reducible refine qa1 (v:=?_) rfl (by with_unfolding_all rfl) (fun ρ hρ W hW=>?_) ?_);(rotate_left 1)
      focus(clear hW;have p2:=hρ (.tmp 2);(simp +decide only [qa2,hsz,ev_eq,ev_ne,a10,a2,a12]at p2);obtain⟨hc,hfn⟩:=rC151 hρ;clear hρ;go_simp;(all_goals with_reducible first|rfl|(constructor <;> rfl)))
      (with_reducible refine qa1 (v:=?_) rfl (by with_unfolding_all rfl) (fun ρ hρ W hW=>?_) ?_);(rotate_left 1)
      focus(clear hW;have p12:=hρ (.tmp 12);(simp +decide only [qa2,hsz,ev_eq,ev_ne,a10,a2,a12]at p12);obtain⟨hc,hfn⟩:=rC151 hρ;clear hρ;go_simp;(all_goals with_reducible first|rfl|(constructor <;> rfl)))
      (with_reducible refine qa1 (v:=?_) rfl (by with_unfolding_all rfl) (fun ρ hρ W hW=>?_) ?_);(rotate_left 1)
      focus(clear hW;have p57:=hρ (.tmp 57);have p58:=hρ (.tmp 58);(simp +decide only [qa2,hsz,ev_eq,ev_ne,a10,a2,a12]at p57 p58);obtain⟨hc,hfn⟩:=rC151 hρ;clear hρ;go_simp;(all_goals with_reducible first|rfl|(constructor <;> rfl)))
      (with_reducible refine qa1 (v:=?_) rfl (by with_unfolding_all rfl) (fun ρ hρ W hW=>?_) ?_);(rotate_left 1)
      focus(clear hW;have p59:=hρ (.tmp 59);(simp +decide only [qa2,hsz,ev_eq,ev_ne,a10,a2,a12]at p59);obtain⟨hc,hfn⟩:=rC151 hρ;clear hρ;go_simp;(all_goals with_reducible first|rfl|(constructor <;> rfl)))
      (with_reducible refine qa1 (v:=?_) rfl (by with_unfolding_all rfl) (fun ρ hρ W hW=>?_) ?_);(rotate_left 1)
      focus(have hS:=KS.out _ hW;clear hW;have p60:=hρ (.tmp 60);(simp +decide only [qa2,hsz,ev_eq,ev_ne,a10,a2,a12]at p60);obtain⟨hc,hfn⟩:=rC151 hρ;clear hρ;go_simp;(all_goals with_reducible first|rfl|(constructor <;> rfl)))
      (with_reducible refine qam (f:=?_) (args:=?_) rfl (by with_unfolding_all rfl) (fun ρ hρ=>?_) ?_ ?_);(rotate_left 2)
      focus(have p56:=hρ (.tmp 56);have p61:=hρ (.tmp 61);(simp +decide only [qa2,hsz,ev_eq,ev_ne,a10,a2,a12]at p56 p61);obtain⟨hc,hfn⟩:=rC151 hρ;clear hρ;rw [qa9 (hfn _)];clear hfn;go_simp;(all_goals with_reducible first|rfl|(constructor <;> rfl)))
      with_reducible refine(CFd.out _ T.out.1.bel _).mono ?_
      rintro e w16 ⟨vs,rfl,hvs,g⟩;have g:Bel wd w16:=g;obtain⟨hlen,hone⟩:=qc9 hvs;have HVS:=Lib.hid hvs;have Z0:vs.toArray.size=16:=(by rw [List.size_toArray];exact hlen);have Z1:=Lib.hid (show(Tryz.prog.info? 65).map (·.size)=some vs.toArray.size by rw [Z0];exact ar_F);have Z2:=Lib.hid (show(#[.int .i64 0,.string ⟨#[]⟩,.int .i64 0,.int .i64 0,.int .i64 0,.string ⟨#[]⟩,.string ⟨#[]⟩,.bool false,.int .i64 0,.int .u64 0,.string ⟨#[]⟩,.slice none 0 0,.slice none 0 0,.slice none 0 0,.slice none 0 0,.slice none 0 0]:Array Value).size=vs.toArray.size by rw [Z0];rfl);have HO:=Lib.hid hone;clear hlen hone Z0 hvs;have T:=Lib.hid (show _/\_ from⟨T.out.1.belw g,Bel.of T.out.2 g⟩);clear g;refine⟨_,rfl,⟨T.out.1,T.out.2⟩,?_⟩
      ·(with_reducible refine qa1 (v:=?_) rfl (by with_unfolding_all rfl) (fun ρ hρ W hW=>?_) ?_);(rotate_left 1)
       focus(clear hW;have p62:=hρ (.tmp 62);(simp +decide only [qa2,hsz,ev_eq,ev_ne,a10,a2,a12]at p62);obtain⟨hc,hfn⟩:=rC151 hρ;clear hρ;go_simp;(all_goals with_reducible first|rfl|(constructor <;> rfl)))
       (with_reducible refine qa1 (v:=?_) rfl (by with_unfolding_all rfl) (fun ρ hρ W hW=>?_) ?_);(rotate_left 1)
       focus(clear hW;have p55:=hρ (.tmp 55);(simp +decide only [qa2,hsz,ev_eq,ev_ne,a10,a2,a12]at p55);obtain⟨hc,hfn⟩:=rC151 hρ;clear hρ;go_simp;(all_goals with_reducible first|rfl|(constructor <;> rfl)))
       (with_reducible refine qa1 (v:=?_) rfl (by with_unfolding_all rfl) (fun ρ hρ W hW=>?_) ?_);(rotate_left 1)
       focus(clear hW;have p55:=hρ (.tmp 55);(simp +decide only [qa2,hsz,ev_eq,ev_ne,a10,a2,a12]at p55);obtain⟨hc,hfn⟩:=rC151 hρ;clear hρ;go_simp;(all_goals with_reducible first|rfl|(constructor <;> rfl)))
       (with_reducible refine qda (v:=?_) (w':=?_) rfl (by with_unfolding_all rfl) (fun ρ hρ=>?_) ?_ ?_ ?_);(rotate_left 2)
       focus(obtain⟨hc,hfn⟩:=rC151 hρ;clear hρ;go_simp;(all_goals with_reducible first|rfl|(constructor <;> rfl)))
       focus exact⟨(T.out.1.addbox #[.int .i64 0,.string ⟨#[]⟩,.int .i64 0,.int .i64 0,.int .i64 0,.string ⟨#[]⟩,.string ⟨#[]⟩,.bool false,.int .i64 0,.int .u64 0,.string ⟨#[]⟩,.slice none 0 0,.slice none 0 0,.slice none 0 0,.slice none 0 0,.slice none 0 0] 65).dropbox0,T.out.2.alloc _⟩
       have G2:=Lib.hid (show w2.heap.size<=w16.heap.size from T.out.2.size);have T:=Lib.hid (show _/\_ from⟨T.out.1.addbox #[.int .i64 0,.string ⟨#[]⟩,.int .i64 0,.int .i64 0,.int .i64 0,.string ⟨#[]⟩,.string ⟨#[]⟩,.bool false,.int .i64 0,.int .u64 0,.string ⟨#[]⟩,.slice none 0 0,.slice none 0 0,.slice none 0 0,.slice none 0 0,.slice none 0 0] 65,T.out.2.alloc (.cells #[.int .i64 0,.string ⟨#[]⟩,.int .i64 0,.int .i64 0,.int .i64 0,.string ⟨#[]⟩,.string ⟨#[]⟩,.bool false,.int .i64 0,.int .u64 0,.string ⟨#[]⟩,.slice none 0 0,.slice none 0 0,.slice none 0 0,.slice none 0 0,.slice none 0 0] 65)⟩);generalize hA:World.alloc w16 _=w110 at T ⊢;clear hA;rotate_left 1
       focus exact qap
       (refine qbg rfl 65 (.tmp 15) (.tmp 63) (by with_unfolding_all rfl) _ vs.toArray #[.int .i64 0,.string ⟨#[]⟩,.int .i64 0,.int .i64 0,.int .i64 0,.string ⟨#[]⟩,.string ⟨#[]⟩,.bool false,.int .i64 0,.int .u64 0,.string ⟨#[]⟩,.slice none 0 0,.slice none 0 0,.slice none 0 0,.slice none 0 0,.slice none 0 0] 65 ?_ ?_ (T.out.1.box 0 rfl) Z1.out Z2.out HO.out ?_ ?_ ?_)
       focus(simp +decide only [qa2,hsz,ev_eq,ev_ne,a10,a2,a12])
       focus(simp +decide only [qa2,hsz,ev_eq,ev_ne,a10,a2,a12])
       focus exact⟨(T.out.1.setrowbox 0 rfl vs.toArray).dropbox0,Below.grown T.out.2 (qb5 w110 (w16.heap.size) vs.toArray) T.out.2.size (fun k hk=>by cases hk;exact G2.out)⟩
       have T:=Lib.hid (show _/\_ from⟨T.out.1.setrowbox 0 rfl vs.toArray,Below.grown T.out.2 (qb5 w110 (w16.heap.size) vs.toArray) T.out.2.size (fun k hk=>by cases hk;exact G2.out)⟩);generalize hA:World.setRow w110 _ _=w111 at T ⊢;clear hA;rotate_left 1
       focus exact qap
       with_reducible refine qao ?_
       (simp only [List.drop_succ_cons,List.drop_zero])
       subst ha
       (simp only [qav,set_s,set_z])
       go_wp2;go_meet
       exact⟨_,vs,rfl,rfl,Lib.hid T.out.1,HVS,Lib.hid T.out.2⟩
      (with_reducible refine qda (v:=?_) (w':=?_) rfl (by with_unfolding_all rfl) (fun ρ hρ=>?_) ?_ ?_ ?_);(rotate_left 2)
      focus(obtain⟨hc,hfn⟩:=rC151 hρ;clear hρ;go_simp;(all_goals with_reducible first|rfl|(constructor <;> rfl)))
      focus exact⟨(T.out.1.addbox #[.int .i64 0,.string ⟨#[]⟩,.int .i64 0,.int .i64 0,.int .i64 0,.string ⟨#[]⟩,.string ⟨#[]⟩,.bool false,.int .i64 0,.int .u64 0,.string ⟨#[]⟩,.slice none 0 0,.slice none 0 0,.slice none 0 0,.slice none 0 0,.slice none 0 0] 65).dropbox0,T.out.2.alloc _⟩
      have G2:=Lib.hid (show w2.heap.size<=wd.heap.size from T.out.2.size);have T:=Lib.hid (show _/\_ from⟨T.out.1.addbox #[.int .i64 0,.string ⟨#[]⟩,.int .i64 0,.int .i64 0,.int .i64 0,.string ⟨#[]⟩,.string ⟨#[]⟩,.bool false,.int .i64 0,.int .u64 0,.string ⟨#[]⟩,.slice none 0 0,.slice none 0 0,.slice none 0 0,.slice none 0 0,.slice none 0 0] 65,T.out.2.alloc (.cells #[.int .i64 0,.string ⟨#[]⟩,.int .i64 0,.int .i64 0,.int .i64 0,.string ⟨#[]⟩,.string ⟨#[]⟩,.bool false,.int .i64 0,.int .u64 0,.string ⟨#[]⟩,.slice none 0 0,.slice none 0 0,.slice none 0 0,.slice none 0 0,.slice none 0 0] 65)⟩);generalize hA:World.alloc wd _=w110 at T ⊢;clear hA;rotate_left 1
      focus exact qap
      (with_reducible refine qam (f:=?_) (args:=?_) rfl (by with_unfolding_all rfl) (fun ρ hρ=>?_) ?_ ?_);(rotate_left 2)
      focus(have p56:=hρ (.tmp 56);have p61:=hρ (.tmp 61);(simp +decide only [qa2,hsz,ev_eq,ev_ne,a10,a2,a12]at p56 p61);obtain⟨hc,hfn⟩:=rC151 hρ;clear hρ;rw [qa9 (hfn _)];clear hfn;go_simp;(all_goals with_reducible first|rfl|(constructor <;> rfl)))
      with_reducible refine(CFd.out _ T.out.1.bel _).mono ?_
      rintro e w16 ⟨vs,rfl,hvs,g⟩;have g:Bel w110 w16:=g;obtain⟨hlen,hone⟩:=qc9 hvs;have HVS:=Lib.hid hvs;have Z0:vs.toArray.size=16:=(by rw [List.size_toArray];exact hlen);have Z1:=Lib.hid (show(Tryz.prog.info? 65).map (·.size)=some vs.toArray.size by rw [Z0];exact ar_F);have Z2:=Lib.hid (show(#[.int .i64 0,.string ⟨#[]⟩,.int .i64 0,.int .i64 0,.int .i64 0,.string ⟨#[]⟩,.string ⟨#[]⟩,.bool false,.int .i64 0,.int .u64 0,.string ⟨#[]⟩,.slice none 0 0,.slice none 0 0,.slice none 0 0,.slice none 0 0,.slice none 0 0]:Array Value).size=vs.toArray.size by rw [Z0];rfl);have HO:=Lib.hid hone;clear hlen hone Z0 hvs;have T:=Lib.hid (show _/\_ from⟨T.out.1.belw g,Bel.of T.out.2 g⟩);clear g;refine⟨_,rfl,⟨T.out.1.dropbox0,T.out.2⟩,?_⟩;rotate_left 1
      focus exact qap
      (with_reducible refine qa1 (v:=?_) rfl (by with_unfolding_all rfl) (fun ρ hρ W hW=>?_) ?_);(rotate_left 1)
      focus(clear hW;have p62:=hρ (.tmp 62);(simp +decide only [qa2,hsz,ev_eq,ev_ne,a10,a2,a12]at p62);obtain⟨hc,hfn⟩:=rC151 hρ;clear hρ;go_simp;(all_goals with_reducible first|rfl|(constructor <;> rfl)))
      (with_reducible refine qa1 (v:=?_) rfl (by with_unfolding_all rfl) (fun ρ hρ W hW=>?_) ?_);(rotate_left 1)
      focus(clear hW;have p55:=hρ (.tmp 55);(simp +decide only [qa2,hsz,ev_eq,ev_ne,a10,a2,a12]at p55);obtain⟨hc,hfn⟩:=rC151 hρ;clear hρ;go_simp;(all_goals with_reducible first|rfl|(constructor <;> rfl)))
      (with_reducible refine qa1 (v:=?_) rfl (by with_unfolding_all rfl) (fun ρ hρ W hW=>?_) ?_);(rotate_left 1)
      focus(clear hW;have p55:=hρ (.tmp 55);(simp +decide only [qa2,hsz,ev_eq,ev_ne,a10,a2,a12]at p55);obtain⟨hc,hfn⟩:=rC151 hρ;clear hρ;go_simp;(all_goals with_reducible first|rfl|(constructor <;> rfl)))
      (refine qbg rfl 65 (.tmp 15) (.tmp 63) (by with_unfolding_all rfl) _ vs.toArray #[.int .i64 0,.string ⟨#[]⟩,.int .i64 0,.int .i64 0,.int .i64 0,.string ⟨#[]⟩,.string ⟨#[]⟩,.bool false,.int .i64 0,.int .u64 0,.string ⟨#[]⟩,.slice none 0 0,.slice none 0 0,.slice none 0 0,.slice none 0 0,.slice none 0 0] 65 ?_ ?_ (T.out.1.box 0 rfl) Z1.out Z2.out HO.out ?_ ?_ ?_)
      focus(simp +decide only [qa2,hsz,ev_eq,ev_ne,a10,a2,a12])
      focus(simp +decide only [qa2,hsz,ev_eq,ev_ne,a10,a2,a12])
      focus exact⟨(T.out.1.setrowbox 0 rfl vs.toArray).dropbox0,Below.grown T.out.2 (qb5 w16 (wd.heap.size) vs.toArray) T.out.2.size (fun k hk=>by cases hk;exact G2.out)⟩
      have T:=Lib.hid (show _/\_ from⟨T.out.1.setrowbox 0 rfl vs.toArray,Below.grown T.out.2 (qb5 w16 (wd.heap.size) vs.toArray) T.out.2.size (fun k hk=>by cases hk;exact G2.out)⟩);generalize hA:World.setRow w16 _ _=w111 at T ⊢;clear hA;rotate_left 1
      focus exact qap
      with_reducible refine qao ?_
      (simp only [List.drop_succ_cons,List.drop_zero])
      subst ha
      (simp only [qav,set_s,set_z])
      go_wp2;go_meet
      exact⟨_,vs,rfl,rfl,Lib.hid T.out.1,HVS,Lib.hid T.out.2⟩
     case rest=>
      obtain⟨fb,vs,h15,h16,HF,HVS,HK⟩:=hcut;subst h15 h16;have H3:=HF;have K3:=Lib.hid (Bel.of K1.out HK.out);have FD3:=Lib.hid (FD1.out.bel HK.out);have HF5:=Lib.hid (VField.at (HVF.out _ HVS.out)).2.2.2.2;clear HF HK FD1 H1 K1 CFd;have y1:=H3.out.cell 1 rfl 1;have t0:=H3.out.cell 3 rfl 0;have t1:=H3.out.cell 3 rfl 1;have t2:=H3.out.cell 3 rfl 2;have t5:=(H3.out.cell 0 rfl 5).trans HF5.out;have e0:=H3.out.bel.some HC0.out;have e1:=H3.out.bel.some HC1.out;dsimp only at y1 t0 t1 t2 t5;cases hwx:whole x with
      | true=>
       have hfr:fromF (envOf s) name x=all (envOf s) f.tn:=by unfold fromF;rw [if_pos hwx,hty]
       rw [hfr]at hst hfn;obtain⟨m2,hm2⟩ : ∃m2,msgOf s f.tn=some m2:=Option.isSome_iff_exists.1 hys.2.hs;have CM2:=CM0.out f.tn;rw [hm2]at CM2;have CM2:=Lib.hid CM2;have HB2:=Lib.hid (HN.out m2 (List.mem_of_find?_eq_some hm2));obtain⟨n',hn'⟩ : ∃n',n=n'+1:=⟨n-1,by omega⟩;have HWD:=Lib.hid (show Wd 1000000000 n (all (envOf s) f.tn)by rw [hn'];exact wd_all hm2 HB2.out n');have HN1:=Lib.hid (show 1<=n by omega);have HAl:=Lib.hid (all_of hm2);have CI:=Lib.hid (fun W v1 (k:Bel w0 W) (A2:Nat->Prop) (h0 : ∀b,A2 b->b<W.heap.size) (h1:MaskD A2 1 W v1 (all (envOf s) f.tn)) (h2:MaskD A2 n W (.slice fp y.subs.length fc) y.subs)=>IH hn0 A2 (.slice q1 s.msgs.length c1) (.slice q2 s.enums.length c2) (.slice q3 s.svcs.length c3) s f.tn v1 _ (all (envOf s) f.tn) y.subs W h0 (HS.out W k) HE.out HN.out (h1.le HN1.out) h2 hfn hys.2 HWD.out);generalize minus (envOf s) n f.tn (all (envOf s) f.tn) y.subs=M at CI hst;obtain⟨r5,r6,r7⟩:=qd4 (whole_iff.1 hwx);clear hwx hfr hfn hys hn0 IH WX hm2 hn' hty
       go_upto_region 14 with(first
        | (go_at_call 30;(with_reducible refine(CM2.out _ H3.out.bel).mono ?_);rintro e w4 ⟨vi,at4,rfl,hvi,hat4,k4⟩;have k4:Bel _ w4:=k4;have HVI:=Lib.hid (show VMsg w0 vi m2 from hvi);obtain⟨ilen,ione⟩:=qbq hvi;have I0:vi.toArray.size=5:=(by rw [List.size_toArray];exact ilen);have I1:=Lib.hid (show(Tryz.prog.info? 57).map (·.size)=some vi.toArray.size by rw [I0];exact ar_M);have I2:=Lib.hid (show(#[.string ⟨#[]⟩,.slice none 0 0,.slice none 0 0,.slice none 0 0,.slice none 0 0]:Array Value).size=vi.toArray.size by rw [I0];rfl);have IO:=Lib.hid ione;clear ilen ione I0 hvi;have H4:=Lib.hid ((H3.out.belw k4).addbox vi.toArray 57);have K4:=Lib.hid (Bel.of K3.out (Bel.alloc k4 (.cells vi.toArray 57)));have FD4:=Lib.hid ((FD3.out.bel k4).bel ((Bel.refl _).alloc (.cells vi.toArray 57)));clear k4)
        | (refine qa3 (old:=#[.string ⟨#[]⟩,.slice none 0 0,.slice none 0 0,.slice none 0 0,.slice none 0 0]) rfl 57 _ _ rfl w4 rfl w4.heap.size rfl vi.toArray rfl rfl I1.out I2.out IO.out ?_))
       generalize hwi:World.alloc w4 _=wi at H4 K4 FD4 ⊢;clear hwi y1 t0 t1 t2 t5 e0 e1 hat4;have HBi:=Lib.hid (H4.out.box 0 rfl);have CW:=Lib.hid (fun W (k:Bel w0 W)=>show Calls Tryz.prog 49 #[.agg vi.toArray] W (qbm (fun _=>False) 1 W (all (envOf s) f.tn))from by have:=rm_whole (vm:=vi) HB2.out w0 W k HVI.out;rwa [←HAl.out]at this);unfold qbm at CW;have W14:=Lib.hid I1.out
       go_upto_region 15 with(first
        | (refine qa6 rfl 57 _ rfl w4.heap.size vi.toArray 57 rfl HBi.out _ Tryz.underlying57 rfl I1.out ?_)
        | (go_at_call 49;(with_reducible refine(CW.out _ H4.out.bel).mono ?_);rintro e w5 ⟨va,rfl,had,k5⟩;have k5:Bel _ w5:=k5;have H5:=Lib.hid (H4.out.belw k5);have K5:=Lib.hid (Bel.of K4.out k5);have FD5:=Lib.hid (FD4.out.bel k5);have AD5:=Lib.hid (MaskD.weak (A':=fun b=>b<w5.heap.size/\(A b ∨ wr.heap.size<=b)) had (fun b hb hl=>⟨hl,.inr (hb.elim False.elim (fun h=>Nat.le_trans K4.out.size h))⟩));have y1:=H5.out.cell 2 rfl 1;have t0:=H5.out.cell 4 rfl 0;have t1:=H5.out.cell 4 rfl 1;have t2:=H5.out.cell 4 rfl 2;have t5:=(H5.out.cell 1 rfl 5).trans HF5.out;have e0:=H5.out.bel.some HC0.out;have e1:=H5.out.bel.some HC1.out;dsimp only at y1 t0 t1 t2 t5;clear k5 had))
       cases M with
       | nil=>
        have HST:=Lib.hid (show L.map (·.x) ++ (la.drop (k+1)).filterMap (minO (envOf s) (minus (envOf s) n) name b)=Z from hst);clear hst
        go_wp2_with (first
         | (go_at_call 21;(with_reducible refine(CI.out _ _ H5.out.bel _ (fun b hb=>hb.1) AD5.out (FD5.out.weak (fun b hb hl=>⟨hl,.inl hb⟩))).mono ?_);rintro e w6 ⟨mv,rfl,hmd,k6⟩;have k6:Bel _ w6:=k6;obtain⟨mp,mc,hmv⟩:=hmd.form;subst hmv;have H6:=Lib.hid (H5.out.belw k6);have K6:=Lib.hid (Bel.of K5.out k6);have MD6:=Lib.hid (MaskD.weak hmd (fun b hb _=>qcv H0.out (hb.elim (fun h=>h.2) (fun h=>.inr (Nat.le_trans K5.out.size h)))));clear y1 t0 t1 t2 t5 e0 e1;have e0:=H6.out.bel.some HC0.out;have H7:=Lib.hid (H6.out.belw ((Bel.refl w6).alloc (.cells #[.int .i64 x.num,.slice mp 0 mc] 61)));have O7:=Lib.hid ((O0.out.bel K6.out).bel ((Bel.refl w6).alloc (.cells #[.int .i64 x.num,.slice mp 0 mc] 61)));have MD7:=Lib.hid (MaskD.bel MD6.out ((Bel.refl w6).alloc (.cells #[.int .i64 x.num,.slice mp 0 mc] 61)));clear k6 hmd))
        go_roundw
        case rel=>exact⟨k+1,L,by omega,by go_num,Lib.hid (H6.out.dropbox0.dropbox0.dropbox0),by omega,Lib.hid (O0.out.bel K6.out),HST⟩
        case measure=>simp [intOf];omega
       | cons m0 M'=>
        have hst2:L.map (·.x) ++ ([PMask.mk x.num (m0 :: M')] ++ (la.drop (k+1)).filterMap (minO (envOf s) (minus (envOf s) n) name b))=Z:=hst;have hMl:(m0 :: M').length=M'.length+1:=rfl;generalize m0 :: M'=M at CI hst2 hMl;have hMp:(0:Int)<(M.length:Int):=by omega
        have HST:=Lib.hid hst2;clear hst hst2 hMl
        go_wp2_with (first
         | (go_at_call 21;(with_reducible refine(CI.out _ _ H5.out.bel _ (fun b hb=>hb.1) AD5.out (FD5.out.weak (fun b hb hl=>⟨hl,.inl hb⟩))).mono ?_);rintro e w6 ⟨mv,rfl,hmd,k6⟩;have k6:Bel _ w6:=k6;obtain⟨mp,mc,hmv⟩:=hmd.form;subst hmv;have H6:=Lib.hid (H5.out.belw k6);have K6:=Lib.hid (Bel.of K5.out k6);have MD6:=Lib.hid (MaskD.weak hmd (fun b hb _=>qcv H0.out (hb.elim (fun h=>h.2) (fun h=>.inr (Nat.le_trans K5.out.size h)))));clear y1 t0 t1 t2 t5 e0 e1;have e0:=H6.out.bel.some HC0.out;have H7:=Lib.hid (H6.out.belw ((Bel.refl w6).alloc (.cells #[.int .i64 x.num,.slice mp M.length mc] 61)));have O7:=Lib.hid ((O0.out.bel K6.out).bel ((Bel.refl w6).alloc (.cells #[.int .i64 x.num,.slice mp M.length mc] 61)));have MD7:=Lib.hid (MaskD.bel MD6.out ((Bel.refl w6).alloc (.cells #[.int .i64 x.num,.slice mp M.length mc] 61)));clear k6 hmd)
         | (at_builtin;refine wpList_append_lies _ rfl _ _ 27 rfl w0.heap.size 61 i1 (.agg #[.int .i64 0,.slice none 0 0]) 2 32 Tryz.underlying27 hi1 hy0 hy1 hy2 rfl (by decide) _ L.length _ rfl (H7.out.row 0 rfl) ⟨w6.heap.size,0,none⟩ 1 1 [.int .i64 x.num,.slice mp M.length mc] rfl rfl (qau _ _ _) (by simp [Value.oneCell']) (by decide) (by unfold maxLen;omega) (by omega) H7.out.bel.size (w6.heap.size+1) (by simp) ?_))
        intro g8 cap8 w8 hown hgrow hfr hlt8;have O8:=Lib.hid (RowOK.snoc (e:=⟨.mk x.num M,mp,mc⟩) (m:=L.length+1) (c:=cap8) O7.out H7.out HA0.out MD7.out hgrow hfr (by simp));have H8:=Lib.hid (qah (e:=⟨.mk x.num M,mp,mc⟩) (H7.out.grow 0 rfl hgrow hown (qbc hfr (by simp))));clear hown hgrow hfr;go_wp2;go_roundw
        case rel=>exact⟨k+1,L ++ [⟨.mk x.num M,mp,mc⟩],by omega,by go_num,Lib.hid H8.out.dropbox0.dropbox0.dropbox0,by rw [List.length_append,List.length_singleton];omega,O8,by simpa using HST⟩
        case measure=>simp [intOf];omega
      | false=>
       have hfr:fromF (envOf s) name x=x.subs:=by unfold fromF;rw [if_neg (by rw [hwx];exact Bool.false_ne_true)]
       rw [hfr]at hst hfn;have CI:=Lib.hid (fun W (k:Bel w0 W) h1 (h2:MaskD A n W (.slice fp y.subs.length fc) y.subs)=>IH hn0 A (.slice q1 s.msgs.length c1) (.slice q2 s.enums.length c2) (.slice q3 s.svcs.length c3) s f.tn (.slice sp x.subs.length sc) _ x.subs y.subs W (fun b hb=>Nat.lt_of_lt_of_le (HA0.out b hb) k.size) (HS.out W k) HE.out HN.out h1 h2 hfn hys.2 WX.out);generalize minus (envOf s) n f.tn x.subs y.subs=M at CI hst;obtain⟨r5,r6,r7,r8⟩:=qe6 (qaz hwx);clear hwx hfr hfn hys hn0 IH WX hty;cases M with
       | nil=>
        have HST:=Lib.hid (show L.map (·.x) ++ (la.drop (k+1)).filterMap (minO (envOf s) (minus (envOf s) n) name b)=Z from hst);clear hst
        go_wp2_with (first
         | (go_at_call 21;(with_reducible refine(CI.out _ H3.out.bel (HD.out.bel H3.out.bel) FD3.out).mono ?_);rintro e w6 ⟨mv,rfl,hmd,k6⟩;have k6:Bel _ w6:=k6;obtain⟨mp,mc,hmv⟩:=hmd.form;subst hmv;have H6:=Lib.hid (H3.out.belw k6);have K6:=Lib.hid (Bel.of K3.out k6);have MD6:=Lib.hid (MaskD.weak hmd (fun b hb _=>qcv H3.out hb));clear y1 t0 t1 t2 t5 e0 e1;have e0:=H6.out.bel.some HC0.out;have H7:=Lib.hid (H6.out.belw ((Bel.refl w6).alloc (.cells #[.int .i64 x.num,.slice mp 0 mc] 61)));have O7:=Lib.hid ((O0.out.bel K6.out).bel ((Bel.refl w6).alloc (.cells #[.int .i64 x.num,.slice mp 0 mc] 61)));have MD7:=Lib.hid (MaskD.bel MD6.out ((Bel.refl w6).alloc (.cells #[.int .i64 x.num,.slice mp 0 mc] 61)));clear k6 hmd))
        go_roundw
        case rel=>exact⟨k+1,L,by omega,by go_num,Lib.hid (H6.out.dropbox0.dropbox0),by omega,Lib.hid (O0.out.bel K6.out),HST⟩
        case measure=>simp [intOf];omega
       | cons m0 M'=>
        have hst2:L.map (·.x) ++ ([PMask.mk x.num (m0 :: M')] ++ (la.drop (k+1)).filterMap (minO (envOf s) (minus (envOf s) n) name b))=Z:=hst;have hMl:(m0 :: M').length=M'.length+1:=rfl;generalize m0 :: M'=M at CI hst2 hMl;have hMp:(0:Int)<(M.length:Int):=by omega
        have HST:=Lib.hid hst2;clear hst hst2 hMl
        go_wp2_with (first
         | (go_at_call 21;(with_reducible refine(CI.out _ H3.out.bel (HD.out.bel H3.out.bel) FD3.out).mono ?_);rintro e w6 ⟨mv,rfl,hmd,k6⟩;have k6:Bel _ w6:=k6;obtain⟨mp,mc,hmv⟩:=hmd.form;subst hmv;have H6:=Lib.hid (H3.out.belw k6);have K6:=Lib.hid (Bel.of K3.out k6);have MD6:=Lib.hid (MaskD.weak hmd (fun b hb _=>qcv H3.out hb));clear y1 t0 t1 t2 t5 e0 e1;have e0:=H6.out.bel.some HC0.out;have H7:=Lib.hid (H6.out.belw ((Bel.refl w6).alloc (.cells #[.int .i64 x.num,.slice mp M.length mc] 61)));have O7:=Lib.hid ((O0.out.bel K6.out).bel ((Bel.refl w6).alloc (.cells #[.int .i64 x.num,.slice mp M.length mc] 61)));have MD7:=Lib.hid (MaskD.bel MD6.out ((Bel.refl w6).alloc (.cells #[.int .i64 x.num,.slice mp M.length mc] 61)));clear k6 hmd)
         | (at_builtin;refine wpList_append_lies _ rfl _ _ 27 rfl w0.heap.size 61 i1 (.agg #[.int .i64 0,.slice none 0 0]) 2 32 Tryz.underlying27 hi1 hy0 hy1 hy2 rfl (by decide) _ L.length _ rfl (H7.out.row 0 rfl) ⟨w6.heap.size,0,none⟩ 1 1 [.int .i64 x.num,.slice mp M.length mc] rfl rfl (qau _ _ _) (by simp [Value.oneCell']) (by decide) (by unfold maxLen;omega) (by omega) H7.out.bel.size (w6.heap.size+1) (by simp) ?_))
        intro g8 cap8 w8 hown hgrow hfr hlt8;have O8:=Lib.hid (RowOK.snoc (e:=⟨.mk x.num M,mp,mc⟩) (m:=L.length+1) (c:=cap8) O7.out H7.out HA0.out MD7.out hgrow hfr (by simp));have H8:=Lib.hid (qah (e:=⟨.mk x.num M,mp,mc⟩) (H7.out.grow 0 rfl hgrow hown (qbc hfr (by simp))));clear hown hgrow hfr;go_wp2;go_roundw
        case rel=>exact⟨k+1,L ++ [⟨.mk x.num M,mp,mc⟩],by omega,by go_num,Lib.hid H8.out.dropbox0.dropbox0,by rw [List.length_append,List.length_singleton];omega,O8,by simpa using HST⟩
        case measure=>simp [intOf];omega
  ·have hkl:k=la.length:=by omega
   have hki : ¬(k:Int)<(la.length:Int):=by omega
   have hz:L.map (·.x)=Z:=by have:=hx.out;rw [hkl,List.drop_length]at this;simpa using this
   have HR:=Lib.hid (qd3 hS.out hO.out (by omega) hz);clear hx;go_wp2;go_ret;exact⟨_,rfl,HR.out,hS.out.bel⟩
theorem qmg : ∀n:Nat,qog (n+1)
 | 0=>qeo 0 (fun h=>absurd rfl h)
 | n+1=>qeo (n+1) (fun _=>qmg n)
end Go.Proofs.YtaaneecceiefoaaGreatDoor
