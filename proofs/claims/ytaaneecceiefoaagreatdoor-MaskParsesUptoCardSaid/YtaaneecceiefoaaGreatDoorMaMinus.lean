import Derived.Test.YtaaneecceiefoaaGreatDoorMaFindS
import Derived.Test.YtaaneecceiefoaaGreatDoorMzCov
import Derived.Test.YtaaneecceiefoaaGreatDoorMaFind
set_option maxRecDepth 100000
set_option maxHeartbeats 4000000
set_option linter.unusedVariables false
set_option linter.unusedSimpArgs false
namespace Go.Proofs.YtaaneecceiefoaaGreatDoor
section
open Go.RowKit Ck Ma
theorem rm_whole {m:PMsg} {vm:List Value} (hB:m.fields.length<=1000000000) (wv w0:World) (hvb:Bel wv w0) (hv:VMsg wv vm m) :
  Calls Tryz.prog 49 #[.agg vm.toArray] w0 (qbm (fun _=>False) 1 w0 (m.fields.map fun f=>PMask.mk f.num [])):=by
 have V:=Lib.hid (show([]:List ME).map (·.x) ++ (m.fields.drop 0).map (fun f=>PMask.mk f.num [])=m.fields.map fun f=>PMask.mk f.num []from rfl);generalize (m.fields.map fun f=>PMask.mk f.num [])=Z at V;obtain⟨i1,hi1,hy0,hy1,hy2⟩:=info_parts qce;obtain⟨_,_,_,_,rfl,hm,h2,h3,h4⟩:=hv;obtain⟨f2,d2,rfl,_⟩:=qa5 h2;obtain⟨f3,d3,rfl,_⟩:=qa5 h3;obtain⟨f4,d4,rfl,_⟩:=qa5 h4;clear h2 h3 h4;obtain⟨f1,d1,rfl,hl,hcap,hel⟩:=hm;have EL:=Lib.hid hel;have HVB:=Lib.hid hvb;show Calls _ _ #[.agg #[.string (S m.name),.slice f1 m.fields.length d1,.slice f2 m.res.length d2,.slice f3 m.gone.length d3,.slice f4 m.notes.length d4]] _ _
 have HT:=Lib.hid (((ST.start w0).addbox #[.string (S m.name),.slice f1 m.fields.length d1,.slice f2 m.res.length d2,.slice f3 m.gone.length d3,.slice f4 m.notes.length d4] 57).nilrow 61 2);clear hel hcap hvb
 go_enter Tryz.func49,Tryz.ntmps49
 go_wp2
 go_loopw [3,4] (fun vo i wr => ∃(k:Nat) (L:List ME),k<=m.fields.length/\i=.int .i64 k/\Hid (ST w0 [medge vo L] [⟨w0.heap.size,#[.string (S m.name),.slice f1 m.fields.length d1,.slice f2 m.res.length d2,.slice f3 m.gone.length d3,.slice f4 m.notes.length d4],57⟩] wr)/\L.length<=k/\Hid (RowOK (fun _=>False) w0.heap.size 0 vo L wr)/\Hid (L.map (·.x) ++ (m.fields.drop k).map (fun f=>PMask.mk f.num [])=Z)) (fun _ i _=>m.fields.length-(intOf i).toNat)
 case atStart=>exact⟨0,[],by omega,rfl,HT,by simp,Lib.hid (RowOK.nil _ _ _ _ _),V⟩
 case round=>as_aux_lemma=>
  clear V HT;obtain⟨k,L,hk,rfl,hS,hLk,hO,hx⟩:=hrel;obtain⟨qo,co,hvo⟩:=qan (hS.out.row 0 rfl);dsimp only [medge]at hvo;subst hvo;have u1:=hS.out.cell 0 rfl 1;dsimp only at u1;by_cases hlt:k<m.fields.length
  ·obtain⟨b,off,rfl,hbs,vs,hce,hvs⟩:=EL.out k _ (List.getElem?_eq_getElem hlt)
   have hki:(k:Int)<(m.fields.length:Int):=by omega
   have hst:=hx.out;rw [map_at hlt]at hst;have HST:=Lib.hid hst;have x0:=(Bel.of HVB.out hS.out.bel).some (hce 0 (.int .i64 m.fields[k].num) (by have h:=(VField.at hvs).1;rwa [List.getElem?_toArray]at h));rw [Nat.add_zero]at x0;clear hce hvs hx hst;generalize m.fields[k]=f at *;have H3:=Lib.hid (hS.out.belw ((Bel.refl wr).alloc (.cells #[.int .i64 f.num,.slice none 0 0] 61)));have O3:=Lib.hid (hO.out.bel ((Bel.refl wr).alloc (.cells #[.int .i64 f.num,.slice none 0 0] 61)))
   go_wp2_with (at_builtin;refine wpList_append_lies _ rfl _ _ 27 rfl w0.heap.size 61 i1 (.agg #[.int .i64 0,.slice none 0 0]) 2 32 Tryz.underlying27 hi1 hy0 hy1 hy2 rfl (by decide) _ L.length _ rfl (H3.out.row 0 rfl) ⟨wr.heap.size,0,none⟩ 1 1 [.int .i64 f.num,.slice none 0 0] rfl rfl (qau _ _ _) (by simp [Value.oneCell']) (by decide) (by unfold maxLen;omega) (by omega) H3.out.bel.size (wr.heap.size+1) (by simp) ?_)
   intro g4 cap4 w4 hown hgrow hfr hlt4;have O4:=Lib.hid (RowOK.snoc (e:=allE f) (m:=L.length+1) (c:=cap4) O3.out H3.out (fun b hb=>hb.elim) (MaskD.nil 0 _) hgrow hfr (by simp));have H4:=Lib.hid (qah (e:=allE f) (H3.out.grow 0 rfl hgrow hown (qbc hfr (by simp))));clear hown hgrow hfr;go_wp2;go_roundw
   case rel=>exact⟨k+1,L ++ [allE f],by omega,by go_num,H4,by rw [List.length_append,List.length_singleton];omega,O4,by simpa [allE]using HST⟩
   case measure=>simp [intOf];omega
  ·have hkl:k=m.fields.length:=by omega
   have hki : ¬(k:Int)<(m.fields.length:Int):=by omega
   have hz:L.map (·.x)=Z:=by have:=hx.out;rw [hkl,List.drop_length]at this;simpa using this
   have HR:=Lib.hid (qd3 hS.out hO.out (by omega) hz);clear hx;go_wp2;go_ret;exact⟨_,rfl,HR.out,hS.out.bel⟩
end
section
open Go.RowKit Ck Ma
def MinusC (n:Nat):Prop := ∀(A:Nat->Prop) (mv ev sv:Value) (s:PSchema) (name:Str) (v1 v2:Value) (a b:List PMask) (w:World),(∀b,A b->b<w.heap.size)->VSchema w [mv,ev,sv] s->(envOf s).Ok->(∀m ∈ s.msgs,m.fields.length<=1000000000)->MaskD A n w v1 a->MaskD A n w v2 b->Nm (envOf s) n name a->Nm (envOf s) n name b->Wd 1000000000 n a->Calls Tryz.prog 20 #[.agg #[mv,ev,sv],.string (S name),v1,v2] w (qbm A n w (minus (envOf s) n name a b))
theorem wd_all {s:PSchema} {name:Str} {m:PMsg} (hm:msgOf s name=some m) (hB:m.fields.length<=1000000000) (n:Nat):Wd 1000000000 (n+1) (all (envOf s) name):=by
 have hr:all (envOf s) name=m.fields.map fun f=>PMask.mk f.num []:=by
  show(((msgOf s name).map fun m=>m.fields.map (·.num)).getD []).map _=_
  rw [hm];show(m.fields.map _).map _=_
  rw [List.map_map];rfl
 rw [hr];refine⟨by rw [List.length_map];exact hB,fun x hx=>?_⟩;obtain⟨f,_,rfl⟩:=List.mem_map.1 hx;exact Wd.nil _ _
theorem nm_at {s:PSchema} {name:Str} {m:PMsg} {n:Nat} {a:List PMask} {x:PMask} (hm:msgOf s name=some m) (h:Nm (envOf s) (n+1) name a) (hx:x ∈ a) : ∃f,qai m x.num=some f/\(envOf s).fld name x.num=some (qax f,f.tn)/\(x.subs=[] ∨ (qax f=true/\Nm (envOf s) n f.tn x.subs)):=by
 obtain⟨f,hf,h2⟩:=h.2.2 x hx;rw [fld_of hm]at hf;obtain⟨g,hg,rfl⟩:=Option.map_eq_some_iff.1 hf;exact⟨g,hg,by rw [fld_of hm,hg];rfl,h2⟩
theorem qev (n:Nat) (IH:n ≠ 0->MinusC n):MinusC (n+1):=by
 intro A mv ev sv s name v1 v2 a b w0 hA hs hE hN ha hb hna hnb hwa;obtain⟨m,hm⟩ : ∃m,msgOf s name=some m:=Option.isSome_iff_exists.1 hna.hs;obtain⟨i1,hi1,hy0,hy1,hy2⟩:=info_parts qce;have HS:=Lib.hid (fun(W:World) (k:Bel w0 W)=>VSchema.staysB hs k);have CM0:=Lib.hid (fun W (k:Bel w0 W)=>qbt mv ev sv s name w0 W k hs);have CAll:=Lib.hid (fun nm m2 (h:msgOf s nm=some m2) W (k:Bel w0 W)=>mk_all mv ev sv s nm m2 h (hN m2 (List.mem_of_find?_eq_some h)) W (VSchema.staysB hs k));have HN:=Lib.hid hN;have HE:=Lib.hid hE;rw [hm]at CM0;obtain⟨_,_,_,he,hm,hev,hsv⟩:=hs;cases he;obtain⟨q2,c2,rfl,hl2⟩:=qa5 hev;obtain⟨q3,c3,rfl,hl3⟩:=qa5 hsv;obtain⟨q1,c1,rfl,hl1⟩:=qa5 hm;clear hm hev hsv;obtain⟨pb,cb,rfl⟩:=hb.form;have DB:=Lib.hid hb;have HA0:=Lib.hid hA;have WA:=Lib.hid hwa;have NA:=Lib.hid hna;have NB:=Lib.hid hnb;obtain⟨p,c,rfl,hl,hcap,hel⟩:=ha;have EL:=Lib.hid hel;have V:=Lib.hid (show([]:List ME).map (·.x) ++ (a.drop 0).filterMap (minO (envOf s) (minus (envOf s) n) name b)=minus (envOf s) (n+1) name a b from rfl);generalize minus (envOf s) (n+1) name a b=Z at V;have hal:a.length<=1000000000:=hwa.1;have hS0:=Lib.hid ((ST.start w0).addbox #[.slice q1 s.msgs.length c1,.slice q2 s.enums.length c2,.slice q3 s.svcs.length c3] 26);have HMo:=Lib.hid hm;clear hel hcap hb hA hwa hna hnb hE hN hm
 go_enter Tryz.func20,Tryz.ntmps20
 go_upto_region 2 with(first
 | (go_at_call 26;(with_reducible refine(CM0.out _ hS0.out.bel).mono ?_);rintro e w1 ⟨vm,rfl,hvs,k1⟩;have k1:Bel _ w1:=k1;have HVM:=Lib.hid (show VMsg _ vm m from hvs);obtain⟨hlen,hone⟩:=qbq hvs;have HVS:=Lib.hid hvs;have Z0:vm.toArray.size=5:=(by rw [List.size_toArray];exact hlen);have Z1:=Lib.hid (show(Tryz.prog.info? 57).map (·.size)=some vm.toArray.size by rw [Z0];exact ar_M);have Z2:=Lib.hid (show(#[.string ⟨#[]⟩,.slice none 0 0,.slice none 0 0,.slice none 0 0,.slice none 0 0]:Array Value).size=vm.toArray.size by rw [Z0];rfl);have HO:=Lib.hid hone;clear hlen hone Z0 hvs;have H1:=Lib.hid ((hS0.out.belw k1).addbox vm.toArray 57);clear k1)
 | (refine qa3 (old:=#[.string ⟨#[]⟩,.slice none 0 0,.slice none 0 0,.slice none 0 0,.slice none 0 0]) rfl 57 _ _ rfl w1 rfl w1.heap.size rfl vm.toArray rfl rfl Z1.out Z2.out HO.out ?_))
 generalize hwz:World.alloc w1 _=wz at H1 ⊢;clear hwz;generalize hmb:w1.heap.size=mb at H1 ⊢;clear hmb HVS HO Z2 CM0 hS0;have HZ1:=Z1;have CFd:=Lib.hid (fun W (kk:Bel w0 W) q=>qha (m:=m) (vs:=vm) q w0 W kk HVM.out);have HT:=Lib.hid (H1.out.nilrow 61 2);clear H1 Z1 HVM;go_wp2
 go_loopw [11,28] (fun vo i wr => ∃(k:Nat) (L:List ME),k<=a.length/\i=.int .i64 k/\Hid (ST w0 [medge vo L] [⟨mb,vm.toArray,57⟩,⟨w0.heap.size,#[.slice q1 s.msgs.length c1,.slice q2 s.enums.length c2,.slice q3 s.svcs.length c3],26⟩] wr)/\L.length<=k/\Hid (RowOK A w0.heap.size n vo L wr)/\Hid (L.map (·.x) ++ (a.drop k).filterMap (minO (envOf s) (minus (envOf s) n) name b)=Z)) (fun _ i _=>a.length-(intOf i).toNat)
 case atStart=>exact⟨0,[],by omega,rfl,HT,by simp,Lib.hid (RowOK.nil _ _ _ _ _),V⟩
 case round=>as_aux_lemma=>
  clear V HT;obtain⟨k,L,hk,rfl,hS,hLk,hO,hx⟩:=hrel;obtain⟨qo,co,hvo⟩:=qan (hS.out.row 0 rfl);dsimp only [medge]at hvo;subst hvo;by_cases hlt:k<a.length
  ·obtain⟨g,off,sv,rfl,hbs,hab,hc0,hc1,hd⟩:=EL.out k _ (List.getElem?_eq_getElem hlt)
   obtain⟨sp,sc,rfl⟩:=hd.form;have hki:(k:Int)<(a.length:Int):=by omega
   have e0:=hS.out.bel.some hc0;have e1:=hS.out.bel.some hc1;clear hc0 hc1 hab;have hst:=hx.out;rw [fm_at hlt]at hst;have WX:=Lib.hid (WA.out.2 _ (List.getElem_mem hlt));obtain⟨f,hf1,hf2,hf3⟩:=nm_at HMo.out NA.out (List.getElem_mem hlt);clear hx WA NA;generalize a[k]=x at *;have HD:=Lib.hid (show MaskD A n w0 (.slice sp x.subs.length sc) x.subs from hd);have HX:=Lib.hid (hS.out.addbox #[.int .i64 x.num,.slice sp x.subs.length sc] 61);have O0:=hO;have H0:=hS;clear hS hd hO;have CF0:MaskD A (n+1) (wr.alloc (.cells #[.int .i64 x.num,.slice sp x.subs.length sc] 61)) (.slice pb b.length cb) b:=DB.out.bel (H0.out.bel.alloc _);cases hz:find b x.num with
   | none=>
    have CF:=Lib.hid (qc7 hz _ CF0);have hp:minO (envOf s) (minus (envOf s) n) name b x=some x:=by unfold minO;rw [hz]
    rw [hp]at hst;have HST:=Lib.hid hst;clear hst hz hp CF0 hf1 hf2 hf3
    go_upto_region 8 with(go_at_call 45;(with_reducible refine CF.out.mono ?_);rintro e w1 ⟨fp,fc,rfl,k1⟩;have k1:Bel _ w1:=k1;have H1:=Lib.hid ((HX.out.belw k1).addbox #[.int .i64 0,.slice fp 0 fc] 61);have K1:=Lib.hid (Bel.of ((Bel.refl wr).alloc _) (Bel.alloc k1 (.cells #[.int .i64 0,.slice fp 0 fc] 61)));clear k1)
    generalize hwz:World.alloc w1 _=wz2 at H1 K1 ⊢;clear hwz;have x0:=H1.out.cell 1 rfl 0;have x1:=H1.out.cell 1 rfl 1;dsimp only at x0 x1;have H3:=Lib.hid (H1.out.belw ((Bel.refl wz2).alloc (.cells #[.int .i64 x.num,.slice sp x.subs.length sc] 61)));have O3:=Lib.hid ((O0.out.bel K1.out).bel ((Bel.refl wz2).alloc (.cells #[.int .i64 x.num,.slice sp x.subs.length sc] 61)));have XD3:=Lib.hid (HD.out.bel H3.out.bel)
    go_wp2_with (at_builtin;refine wpList_append_lies _ rfl _ _ 27 rfl w0.heap.size 61 i1 (.agg #[.int .i64 0,.slice none 0 0]) 2 32 Tryz.underlying27 hi1 hy0 hy1 hy2 rfl (by decide) _ L.length _ rfl (H3.out.row 0 rfl) ⟨wz2.heap.size,0,none⟩ 1 1 [.int .i64 x.num,.slice sp x.subs.length sc] rfl rfl (qau _ _ _) (by simp [Value.oneCell']) (by decide) (by unfold maxLen;omega) (by omega) H3.out.bel.size (wz2.heap.size+1) (by simp) ?_)
    intro g4 cap4 w4 hown hgrow hfr hlt4;have O4:=Lib.hid (RowOK.snoc (e:=⟨x,sp,sc⟩) (m:=L.length+1) (c:=cap4) O3.out H3.out HA0.out (qes (e:=⟨x,sp,sc⟩) XD3.out) hgrow hfr (by simp));have H4:=Lib.hid (qah (e:=⟨x,sp,sc⟩) (H3.out.grow 0 rfl hgrow hown (qbc hfr (by simp))));clear hown hgrow hfr;go_wp2;go_roundw
    case rel=>exact⟨k+1,L ++ [⟨x,sp,sc⟩],by omega,by go_num,Lib.hid H4.out.dropbox0.dropbox0,by rw [List.length_append,List.length_singleton];omega,O4,by simpa using HST⟩
    case measure=>simp [intOf];omega
   | some y=>
    have CF:=Lib.hid (qc6 hz _ CF0);obtain⟨hyb,hyn⟩:=qas hz;obtain⟨f',hf1',hf2',hf3'⟩:=nm_at HMo.out NB.out hyb;rw [hyn,hf1]at hf1';cases hf1';cases hwy:whole y with
    | true=>
     have hp:minO (envOf s) (minus (envOf s) n) name b x=none:=by unfold minO;rw [hz];exact if_pos hwy
     rw [hp,Option.toList_none,List.nil_append]at hst;have HST:=Lib.hid hst;have CY:=Lib.hid (fun p c W=>qaj hwy p c W);clear hst hz hp CF0 hf1 hf2 hf3 hf2' hf3' hyb hyn hwy
     go_wp2_with (first
      | (go_at_call 45;(with_reducible refine CF.out.mono ?_);rintro e w1 ⟨fp,fc,rfl,hfd,k1⟩;have k1:Bel _ w1:=k1;have H1:=Lib.hid ((HX.out.belw k1).addbox #[.int .i64 y.num,.slice fp y.subs.length fc] 61);have K1:=Lib.hid (Bel.of ((Bel.refl wr).alloc _) (Bel.alloc k1 (.cells #[.int .i64 y.num,.slice fp y.subs.length fc] 61)));have FD1:=Lib.hid (hfd.bel ((Bel.refl _).alloc (.cells #[.int .i64 y.num,.slice fp y.subs.length fc] 61)));have x0:=H1.out.cell 1 rfl 0;have x1:=H1.out.cell 1 rfl 1;dsimp only at x0 x1;clear k1 hfd)
      | (go_at_call 28;(with_reducible refine(CY.out _ _ _).mono ?_);rintro e w2 ⟨rfl,k2⟩;have k2:Bel _ w2:=k2;have H2:=Lib.hid (H1.out.belw k2);have K2:=Lib.hid (Bel.of K1.out k2);have FD2:=Lib.hid (FD1.out.bel k2);have HBm:=Lib.hid (H2.out.box 2 rfl);clear x0 x1;have x0:=H2.out.cell 1 rfl 0;dsimp only at x0;clear k2))
     go_roundw
     case rel=>exact⟨k+1,L,by omega,by go_num,Lib.hid (H2.out.dropbox0.dropbox0),by omega,Lib.hid (O0.out.bel K2.out),HST⟩
     case measure=>simp [intOf];omega
    | false=>
     have hys:qax f=true/\Nm (envOf s) n f.tn y.subs:=hf3'.resolve_left (qaz hwy);obtain⟨hty,hfn⟩:=from_nm HE.out hf2 hf3 hys hwy;dsimp only at hty hfn
     have hp:minO (envOf s) (minus (envOf s) n) name b x=if(minus (envOf s) n f.tn (fromF (envOf s) name x) y.subs).isEmpty then none else some (.mk x.num (minus (envOf s) n f.tn (fromF (envOf s) name x) y.subs)):=by
      unfold minO;rw [hz];show(if whole y=true then none else _)=_
      rw [if_neg (by rw [hwy];exact Bool.false_ne_true),hty]
     rw [hp]at hst;have HVF:=Lib.hid (show ∀vs,AtV VField zFld w0 vs (qai m x.num)->VField w0 vs f from fun vs h=>by rw [hf1]at h;exact h);have CY:=Lib.hid (fun p c W=>qaj hwy p c W)
     have hn0:n ≠ 0:=fun e=>by
      subst e;exact qaz hwy hys.2.2
     clear hz hp CF0 hf1 hf2 hf3 hf2' hf3' hyb hyn hwy
     go_upto_region 11 with(first
      | (go_at_call 45;(with_reducible refine CF.out.mono ?_);rintro e w1 ⟨fp,fc,rfl,hfd,k1⟩;have k1:Bel _ w1:=k1;have H1:=Lib.hid ((HX.out.belw k1).addbox #[.int .i64 y.num,.slice fp y.subs.length fc] 61);have K1:=Lib.hid (Bel.of ((Bel.refl wr).alloc _) (Bel.alloc k1 (.cells #[.int .i64 y.num,.slice fp y.subs.length fc] 61)));have FD1:=Lib.hid (hfd.bel ((Bel.refl _).alloc (.cells #[.int .i64 y.num,.slice fp y.subs.length fc] 61)));have x0:=H1.out.cell 1 rfl 0;have x1:=H1.out.cell 1 rfl 1;dsimp only at x0 x1;clear k1 hfd)
      | (go_at_call 28;(with_reducible refine(CY.out _ _ _).mono ?_);rintro e w2 ⟨rfl,k2⟩;have k2:Bel _ w2:=k2;have H2:=Lib.hid (H1.out.belw k2);have K2:=Lib.hid (Bel.of K1.out k2);have FD2:=Lib.hid (FD1.out.bel k2);have HBm:=Lib.hid (H2.out.box 2 rfl);clear x0 x1;have x0:=H2.out.cell 1 rfl 0;dsimp only at x0;clear k2)
      | (refine qa6 rfl 57 _ rfl mb vm.toArray 57 rfl HBm.out _ Tryz.underlying57 rfl HZ1.out ?_)
      | (go_at_call 27;(with_reducible refine(CFd.out _ H2.out.bel _).mono ?_);rintro e w3 ⟨vs,rfl,hvs,k3⟩;have k3:Bel _ w3:=k3;obtain⟨hlen,hone⟩:=qc9 hvs;have HVS:=Lib.hid hvs;have Z0:vs.toArray.size=16:=(by rw [List.size_toArray];exact hlen);have Z1:=Lib.hid (show(Tryz.prog.info? 65).map (·.size)=some vs.toArray.size by rw [Z0];exact ar_F);have Z2:=Lib.hid (show(#[.int .i64 0,.string ⟨#[]⟩,.int .i64 0,.int .i64 0,.int .i64 0,.string ⟨#[]⟩,.string ⟨#[]⟩,.bool false,.int .i64 0,.int .u64 0,.string ⟨#[]⟩,.slice none 0 0,.slice none 0 0,.slice none 0 0,.slice none 0 0,.slice none 0 0]:Array Value).size=vs.toArray.size by rw [Z0];rfl);have HO:=Lib.hid hone;clear hlen hone Z0 hvs;have H3:=Lib.hid ((H2.out.belw k3).addbox vs.toArray 65);have K3:=Lib.hid (Bel.of K2.out (Bel.alloc k3 (.cells vs.toArray 65)));have FD3:=Lib.hid ((FD2.out.bel k3).bel ((Bel.refl _).alloc (.cells vs.toArray 65)));clear k3)
      | (refine qa3 (old:=#[.int .i64 0,.string ⟨#[]⟩,.int .i64 0,.int .i64 0,.int .i64 0,.string ⟨#[]⟩,.string ⟨#[]⟩,.bool false,.int .i64 0,.int .u64 0,.string ⟨#[]⟩,.slice none 0 0,.slice none 0 0,.slice none 0 0,.slice none 0 0,.slice none 0 0]) rfl 65 _ _ rfl w3 rfl w3.heap.size rfl vs.toArray rfl rfl Z1.out Z2.out HO.out ?_))
     generalize hwf:World.alloc w3 _=wf at H3 K3 FD3 ⊢;clear hwf x0;generalize hfb:w3.heap.size=fb at H3 ⊢;clear hfb;have HF5:=Lib.hid (VField.at (HVF.out _ HVS.out)).2.2.2.2;have x0:=H3.out.cell 2 rfl 0;have x1:=H3.out.cell 2 rfl 1;have y1:=H3.out.cell 1 rfl 1;have t0:=H3.out.cell 4 rfl 0;have t1:=H3.out.cell 4 rfl 1;have t2:=H3.out.cell 4 rfl 2;have t5:=(H3.out.cell 0 rfl 5).trans HF5.out;dsimp only at x0 x1 y1 t0 t1 t2 t5;cases hwx:whole x with
     | true=>
      have CX:=Lib.hid (fun p c W=>qaj hwx p c W);have hfr:fromF (envOf s) name x=all (envOf s) f.tn:=by unfold fromF;rw [if_pos hwx,hty]
      rw [hfr]at hst hfn;obtain⟨m2,hm2⟩ : ∃m2,msgOf s f.tn=some m2:=Option.isSome_iff_exists.1 hys.2.hs;have CAl:=Lib.hid (fun W k=>CAll.out f.tn m2 hm2 W k);obtain⟨n',hn'⟩ : ∃n',n=n'+1:=⟨n-1,by omega⟩;have HWD:=Lib.hid (show Wd 1000000000 n (all (envOf s) f.tn)by rw [hn'];exact wd_all hm2 (HN.out m2 (List.mem_of_find?_eq_some hm2)) n');have HN1:=Lib.hid (show 1<=n by omega);have CI:=Lib.hid (fun W v1 (k:Bel w0 W) (A2:Nat->Prop) (h0 : ∀b,A2 b->b<W.heap.size) (h1:MaskD A2 1 W v1 (all (envOf s) f.tn)) (h2:MaskD A2 n W (.slice fp y.subs.length fc) y.subs)=>IH hn0 A2 (.slice q1 s.msgs.length c1) (.slice q2 s.enums.length c2) (.slice q3 s.svcs.length c3) s f.tn v1 _ (all (envOf s) f.tn) y.subs W h0 (HS.out W k) HE.out HN.out (h1.le HN1.out) h2 hfn hys.2 HWD.out);generalize minus (envOf s) n f.tn (all (envOf s) f.tn) y.subs=M at CI hst;clear hwx hfr hfn hys hn0 IH WX hm2 hn' hty;cases M with
      | nil=>
       have HST:=Lib.hid (show L.map (·.x) ++ (a.drop (k+1)).filterMap (minO (envOf s) (minus (envOf s) n) name b)=Z from hst);clear hst
       go_wp2_with (first
        | (go_at_call 28;(with_reducible refine(CX.out _ _ _).mono ?_);rintro e w4 ⟨rfl,k4⟩;have k4:Bel _ w4:=k4;have H4:=Lib.hid (H3.out.belw k4);have K4:=Lib.hid (Bel.of K3.out k4);have FD4:=Lib.hid (FD3.out.bel k4);clear x0 x1 y1 t0 t1 t2 t5;have x0:=H4.out.cell 2 rfl 0;have x1:=H4.out.cell 2 rfl 1;have y1:=H4.out.cell 1 rfl 1;have t0:=H4.out.cell 4 rfl 0;have t1:=H4.out.cell 4 rfl 1;have t2:=H4.out.cell 4 rfl 2;have t5:=(H4.out.cell 0 rfl 5).trans HF5.out;dsimp only at x0 x1 y1 t0 t1 t2 t5;clear k4)
        | (go_at_call 47;(with_reducible refine(CAl.out _ H4.out.bel).mono ?_);rintro e w5 ⟨va,rfl,had,k5⟩;have k5:Bel _ w5:=k5;have H5:=Lib.hid (H4.out.belw k5);have K5:=Lib.hid (Bel.of K4.out k5);have FD5:=Lib.hid (FD4.out.bel k5);have AD5:=Lib.hid (MaskD.weak (A':=fun b=>b<w5.heap.size/\(A b ∨ wr.heap.size<=b)) had (fun b hb hl=>⟨hl,.inr (hb.elim False.elim (fun h=>Nat.le_trans K4.out.size h))⟩));clear x0 x1 y1 t0 t1 t2 t5;have x0:=H5.out.cell 2 rfl 0;have x1:=H5.out.cell 2 rfl 1;have y1:=H5.out.cell 1 rfl 1;have t0:=H5.out.cell 4 rfl 0;have t1:=H5.out.cell 4 rfl 1;have t2:=H5.out.cell 4 rfl 2;have t5:=(H5.out.cell 0 rfl 5).trans HF5.out;dsimp only at x0 x1 y1 t0 t1 t2 t5;clear k5 had)
        | (go_at_call 20;(with_reducible refine(CI.out _ _ H5.out.bel _ (fun b hb=>hb.1) AD5.out (FD5.out.weak (fun b hb hl=>⟨hl,.inl hb⟩))).mono ?_);rintro e w6 ⟨mv,rfl,hmd,k6⟩;have k6:Bel _ w6:=k6;obtain⟨mp,mc,hmv⟩:=hmd.form;subst hmv;have H6:=Lib.hid (H5.out.belw k6);have K6:=Lib.hid (Bel.of K5.out k6);have MD6:=Lib.hid (MaskD.weak hmd (fun b hb _=>qcv H0.out (hb.elim (fun h=>h.2) (fun h=>.inr (Nat.le_trans K5.out.size h)))));clear x0 x1 y1 t0 t1 t2 t5;have q0:=H6.out.cell 2 rfl 0;dsimp only at q0;have H7:=Lib.hid (H6.out.belw ((Bel.refl w6).alloc (.cells #[.int .i64 x.num,.slice mp 0 mc] 61)));have O7:=Lib.hid ((O0.out.bel K6.out).bel ((Bel.refl w6).alloc (.cells #[.int .i64 x.num,.slice mp 0 mc] 61)));have MD7:=Lib.hid (MaskD.bel MD6.out ((Bel.refl w6).alloc (.cells #[.int .i64 x.num,.slice mp 0 mc] 61)));clear k6 hmd))
       go_roundw
       case rel=>exact⟨k+1,L,by omega,by go_num,Lib.hid (H6.out.dropbox0.dropbox0.dropbox0),by omega,Lib.hid (O0.out.bel K6.out),HST⟩
       case measure=>simp [intOf];omega
      | cons m0 M'=>
       have hst2:L.map (·.x) ++ ([PMask.mk x.num (m0 :: M')] ++ (a.drop (k+1)).filterMap (minO (envOf s) (minus (envOf s) n) name b))=Z:=hst;have hMl:(m0 :: M').length=M'.length+1:=rfl;generalize m0 :: M'=M at CI hst2 hMl;have hMp:(0:Int)<(M.length:Int):=by omega
       have HST:=Lib.hid hst2;clear hst hst2 hMl
       go_wp2_with (first
        | (go_at_call 28;(with_reducible refine(CX.out _ _ _).mono ?_);rintro e w4 ⟨rfl,k4⟩;have k4:Bel _ w4:=k4;have H4:=Lib.hid (H3.out.belw k4);have K4:=Lib.hid (Bel.of K3.out k4);have FD4:=Lib.hid (FD3.out.bel k4);clear x0 x1 y1 t0 t1 t2 t5;have x0:=H4.out.cell 2 rfl 0;have x1:=H4.out.cell 2 rfl 1;have y1:=H4.out.cell 1 rfl 1;have t0:=H4.out.cell 4 rfl 0;have t1:=H4.out.cell 4 rfl 1;have t2:=H4.out.cell 4 rfl 2;have t5:=(H4.out.cell 0 rfl 5).trans HF5.out;dsimp only at x0 x1 y1 t0 t1 t2 t5;clear k4)
        | (go_at_call 47;(with_reducible refine(CAl.out _ H4.out.bel).mono ?_);rintro e w5 ⟨va,rfl,had,k5⟩;have k5:Bel _ w5:=k5;have H5:=Lib.hid (H4.out.belw k5);have K5:=Lib.hid (Bel.of K4.out k5);have FD5:=Lib.hid (FD4.out.bel k5);have AD5:=Lib.hid (MaskD.weak (A':=fun b=>b<w5.heap.size/\(A b ∨ wr.heap.size<=b)) had (fun b hb hl=>⟨hl,.inr (hb.elim False.elim (fun h=>Nat.le_trans K4.out.size h))⟩));clear x0 x1 y1 t0 t1 t2 t5;have x0:=H5.out.cell 2 rfl 0;have x1:=H5.out.cell 2 rfl 1;have y1:=H5.out.cell 1 rfl 1;have t0:=H5.out.cell 4 rfl 0;have t1:=H5.out.cell 4 rfl 1;have t2:=H5.out.cell 4 rfl 2;have t5:=(H5.out.cell 0 rfl 5).trans HF5.out;dsimp only at x0 x1 y1 t0 t1 t2 t5;clear k5 had)
        | (go_at_call 20;(with_reducible refine(CI.out _ _ H5.out.bel _ (fun b hb=>hb.1) AD5.out (FD5.out.weak (fun b hb hl=>⟨hl,.inl hb⟩))).mono ?_);rintro e w6 ⟨mv,rfl,hmd,k6⟩;have k6:Bel _ w6:=k6;obtain⟨mp,mc,hmv⟩:=hmd.form;subst hmv;have H6:=Lib.hid (H5.out.belw k6);have K6:=Lib.hid (Bel.of K5.out k6);have MD6:=Lib.hid (MaskD.weak hmd (fun b hb _=>qcv H0.out (hb.elim (fun h=>h.2) (fun h=>.inr (Nat.le_trans K5.out.size h)))));clear x0 x1 y1 t0 t1 t2 t5;have q0:=H6.out.cell 2 rfl 0;dsimp only at q0;have H7:=Lib.hid (H6.out.belw ((Bel.refl w6).alloc (.cells #[.int .i64 x.num,.slice mp M.length mc] 61)));have O7:=Lib.hid ((O0.out.bel K6.out).bel ((Bel.refl w6).alloc (.cells #[.int .i64 x.num,.slice mp M.length mc] 61)));have MD7:=Lib.hid (MaskD.bel MD6.out ((Bel.refl w6).alloc (.cells #[.int .i64 x.num,.slice mp M.length mc] 61)));clear k6 hmd)
        | (at_builtin;refine wpList_append_lies _ rfl _ _ 27 rfl w0.heap.size 61 i1 (.agg #[.int .i64 0,.slice none 0 0]) 2 32 Tryz.underlying27 hi1 hy0 hy1 hy2 rfl (by decide) _ L.length _ rfl (H7.out.row 0 rfl) ⟨w6.heap.size,0,none⟩ 1 1 [.int .i64 x.num,.slice mp M.length mc] rfl rfl (qau _ _ _) (by simp [Value.oneCell']) (by decide) (by unfold maxLen;omega) (by omega) H7.out.bel.size (w6.heap.size+1) (by simp) ?_))
       intro g8 cap8 w8 hown hgrow hfr hlt8;have O8:=Lib.hid (RowOK.snoc (e:=⟨.mk x.num M,mp,mc⟩) (m:=L.length+1) (c:=cap8) O7.out H7.out HA0.out MD7.out hgrow hfr (by simp));have H8:=Lib.hid (qah (e:=⟨.mk x.num M,mp,mc⟩) (H7.out.grow 0 rfl hgrow hown (qbc hfr (by simp))));clear hown hgrow hfr;go_wp2;go_roundw
       case rel=>exact⟨k+1,L ++ [⟨.mk x.num M,mp,mc⟩],by omega,by go_num,Lib.hid H8.out.dropbox0.dropbox0.dropbox0,by rw [List.length_append,List.length_singleton];omega,O8,by simpa using HST⟩
       case measure=>simp [intOf];omega
     | false=>
      have CX:=Lib.hid (fun p c W=>qaj hwx p c W);have hfr:fromF (envOf s) name x=x.subs:=by unfold fromF;rw [if_neg (by rw [hwx];exact Bool.false_ne_true)]
      rw [hfr]at hst hfn;have CI:=Lib.hid (fun W (k:Bel w0 W) h1 (h2:MaskD A n W (.slice fp y.subs.length fc) y.subs)=>IH hn0 A (.slice q1 s.msgs.length c1) (.slice q2 s.enums.length c2) (.slice q3 s.svcs.length c3) s f.tn (.slice sp x.subs.length sc) _ x.subs y.subs W (fun b hb=>Nat.lt_of_lt_of_le (HA0.out b hb) k.size) (HS.out W k) HE.out HN.out h1 h2 hfn hys.2 WX.out);generalize minus (envOf s) n f.tn x.subs y.subs=M at CI hst;clear hwx hfr hfn hys hn0 IH WX hty;cases M with
      | nil=>
       have HST:=Lib.hid (show L.map (·.x) ++ (a.drop (k+1)).filterMap (minO (envOf s) (minus (envOf s) n) name b)=Z from hst);clear hst
       go_wp2_with (first
        | (go_at_call 28;(with_reducible refine(CX.out _ _ _).mono ?_);rintro e w4 ⟨rfl,k4⟩;have k4:Bel _ w4:=k4;have H4:=Lib.hid (H3.out.belw k4);have K4:=Lib.hid (Bel.of K3.out k4);have FD4:=Lib.hid (FD3.out.bel k4);clear x0 x1 y1 t0 t1 t2 t5;have x0:=H4.out.cell 2 rfl 0;have x1:=H4.out.cell 2 rfl 1;have y1:=H4.out.cell 1 rfl 1;have t0:=H4.out.cell 4 rfl 0;have t1:=H4.out.cell 4 rfl 1;have t2:=H4.out.cell 4 rfl 2;have t5:=(H4.out.cell 0 rfl 5).trans HF5.out;dsimp only at x0 x1 y1 t0 t1 t2 t5;clear k4)
        | (go_at_call 20;(with_reducible refine(CI.out _ H4.out.bel (HD.out.bel H4.out.bel) FD4.out).mono ?_);rintro e w6 ⟨mv,rfl,hmd,k6⟩;have k6:Bel _ w6:=k6;obtain⟨mp,mc,hmv⟩:=hmd.form;subst hmv;have H6:=Lib.hid (H4.out.belw k6);have K6:=Lib.hid (Bel.of K4.out k6);have MD6:=Lib.hid (MaskD.weak hmd (fun b hb _=>qcv H4.out hb));clear x0 x1 y1 t0 t1 t2 t5;have q0:=H6.out.cell 2 rfl 0;dsimp only at q0;have H7:=Lib.hid (H6.out.belw ((Bel.refl w6).alloc (.cells #[.int .i64 x.num,.slice mp 0 mc] 61)));have O7:=Lib.hid ((O0.out.bel K6.out).bel ((Bel.refl w6).alloc (.cells #[.int .i64 x.num,.slice mp 0 mc] 61)));have MD7:=Lib.hid (MaskD.bel MD6.out ((Bel.refl w6).alloc (.cells #[.int .i64 x.num,.slice mp 0 mc] 61)));clear k6 hmd))
       go_roundw
       case rel=>exact⟨k+1,L,by omega,by go_num,Lib.hid (H6.out.dropbox0.dropbox0.dropbox0),by omega,Lib.hid (O0.out.bel K6.out),HST⟩
       case measure=>simp [intOf];omega
      | cons m0 M'=>
       have hst2:L.map (·.x) ++ ([PMask.mk x.num (m0 :: M')] ++ (a.drop (k+1)).filterMap (minO (envOf s) (minus (envOf s) n) name b))=Z:=hst;have hMl:(m0 :: M').length=M'.length+1:=rfl;generalize m0 :: M'=M at CI hst2 hMl;have hMp:(0:Int)<(M.length:Int):=by omega
       have HST:=Lib.hid hst2;clear hst hst2 hMl
       go_wp2_with (first
        | (go_at_call 28;(with_reducible refine(CX.out _ _ _).mono ?_);rintro e w4 ⟨rfl,k4⟩;have k4:Bel _ w4:=k4;have H4:=Lib.hid (H3.out.belw k4);have K4:=Lib.hid (Bel.of K3.out k4);have FD4:=Lib.hid (FD3.out.bel k4);clear x0 x1 y1 t0 t1 t2 t5;have x0:=H4.out.cell 2 rfl 0;have x1:=H4.out.cell 2 rfl 1;have y1:=H4.out.cell 1 rfl 1;have t0:=H4.out.cell 4 rfl 0;have t1:=H4.out.cell 4 rfl 1;have t2:=H4.out.cell 4 rfl 2;have t5:=(H4.out.cell 0 rfl 5).trans HF5.out;dsimp only at x0 x1 y1 t0 t1 t2 t5;clear k4)
        | (go_at_call 20;(with_reducible refine(CI.out _ H4.out.bel (HD.out.bel H4.out.bel) FD4.out).mono ?_);rintro e w6 ⟨mv,rfl,hmd,k6⟩;have k6:Bel _ w6:=k6;obtain⟨mp,mc,hmv⟩:=hmd.form;subst hmv;have H6:=Lib.hid (H4.out.belw k6);have K6:=Lib.hid (Bel.of K4.out k6);have MD6:=Lib.hid (MaskD.weak hmd (fun b hb _=>qcv H4.out hb));clear x0 x1 y1 t0 t1 t2 t5;have q0:=H6.out.cell 2 rfl 0;dsimp only at q0;have H7:=Lib.hid (H6.out.belw ((Bel.refl w6).alloc (.cells #[.int .i64 x.num,.slice mp M.length mc] 61)));have O7:=Lib.hid ((O0.out.bel K6.out).bel ((Bel.refl w6).alloc (.cells #[.int .i64 x.num,.slice mp M.length mc] 61)));have MD7:=Lib.hid (MaskD.bel MD6.out ((Bel.refl w6).alloc (.cells #[.int .i64 x.num,.slice mp M.length mc] 61)));clear k6 hmd)
        | (at_builtin;refine wpList_append_lies _ rfl _ _ 27 rfl w0.heap.size 61 i1 (.agg #[.int .i64 0,.slice none 0 0]) 2 32 Tryz.underlying27 hi1 hy0 hy1 hy2 rfl (by decide) _ L.length _ rfl (H7.out.row 0 rfl) ⟨w6.heap.size,0,none⟩ 1 1 [.int .i64 x.num,.slice mp M.length mc] rfl rfl (qau _ _ _) (by simp [Value.oneCell']) (by decide) (by unfold maxLen;omega) (by omega) H7.out.bel.size (w6.heap.size+1) (by simp) ?_))
       intro g8 cap8 w8 hown hgrow hfr hlt8;have O8:=Lib.hid (RowOK.snoc (e:=⟨.mk x.num M,mp,mc⟩) (m:=L.length+1) (c:=cap8) O7.out H7.out HA0.out MD7.out hgrow hfr (by simp));have H8:=Lib.hid (qah (e:=⟨.mk x.num M,mp,mc⟩) (H7.out.grow 0 rfl hgrow hown (qbc hfr (by simp))));clear hown hgrow hfr;go_wp2;go_roundw
       case rel=>exact⟨k+1,L ++ [⟨.mk x.num M,mp,mc⟩],by omega,by go_num,Lib.hid H8.out.dropbox0.dropbox0.dropbox0,by rw [List.length_append,List.length_singleton];omega,O8,by simpa using HST⟩
       case measure=>simp [intOf];omega
  ·have hkl:k=a.length:=by omega
   have hki : ¬(k:Int)<(a.length:Int):=by omega
   have hz:L.map (·.x)=Z:=by have:=hx.out;rw [hkl,List.drop_length]at this;simpa using this
   have HR:=Lib.hid (qd3 hS.out hO.out (by omega) hz);clear hx;go_wp2;go_ret;exact⟨_,rfl,HR.out,hS.out.bel⟩
theorem qnd : ∀n:Nat,MinusC (n+1)
 | 0=>qev 0 (fun h=>absurd rfl h)
 | n+1=>qev (n+1) (fun _=>qnd n)
end
end Go.Proofs.YtaaneecceiefoaaGreatDoor
