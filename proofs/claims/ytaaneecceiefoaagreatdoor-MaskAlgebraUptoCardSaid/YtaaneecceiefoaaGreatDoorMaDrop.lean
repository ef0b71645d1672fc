import Derived.Test.YtaaneecceiefoaaGreatDoorMzCov
import Derived.Test.YtaaneecceiefoaaGreatDoorMaCheck
import Derived.Test.YtaaneecceiefoaaGreatDoorMaEnvD
set_option maxRecDepth 100000
set_option maxHeartbeats 4000000
set_option linter.unusedVariables false
set_option linter.unusedSimpArgs false
namespace Go.Proofs.YtaaneecceiefoaaGreatDoor
open Go.RowKit Ma
def DropC (n:Nat):Prop := ∀(A:Nat->Prop) (mk:Nat) (d:VC) (cv:CV) (v:Value) (m:List PMask) (w:World),(∀b,A b->b<w.heap.size)->ValC A n w d cv->MaskD A mk w v m->WdV 1034834473170 n cv->Calls Tryz.prog 34 #[.agg d.cells.toArray,v] w (qnp A n w (drop n cv m))
theorem qjk (n:Nat) (A:Nat->Prop) (d:VC) (cv:CV) (v:Value) (m:List PMask) (w0:World) (hd:ValC A (n+1) w0 d cv) (hv : ∃p c,v=.slice p m.length c) (hk:d.k ≠ 10):Calls Tryz.prog 34 #[.agg #[.int .i64 d.k,.int .u64 d.b,.string (S d.t),.slice d.p1 d.n1 d.c1,.slice d.p2 d.n2 d.c2,.slice d.p3 d.n3 d.c3,.slice d.p4 d.n4 d.c4],v] w0 (qnp A (n+1) w0 cv):=by
 obtain⟨vp,vc,rfl⟩:=hv;have hkb:(d.k != 10)=true:=bne_t hk;have hS0':=((ST.start w0).addbox #[.int .i64 d.k,.int .u64 d.b,.string (S d.t),.slice d.p1 d.n1 d.c1,.slice d.p2 d.n2 d.c2,.slice d.p3 d.n3 d.c3,.slice d.p4 d.n4 d.c4] 46).addbox #[.int .i64 d.k,.int .u64 d.b,.string (S d.t),.slice d.p1 d.n1 d.c1,.slice d.p2 d.n2 d.c2,.slice d.p3 d.n3 d.c3,.slice d.p4 d.n4 d.c4] 46;simp only [World.size_alloc]at hS0';have hS0:=Lib.hid hS0';have HD:=Lib.hid hd;clear hk hd hS0'
 go_enter Tryz.func34,Tryz.ntmps34
 go_wp2;refine bodyPost_ret (v:=.agg #[.int .i64 d.k,.int .u64 d.b,.string (S d.t),.slice d.p1 d.n1 d.c1,.slice d.p2 d.n2 d.c2,.slice d.p3 d.n3 d.c3,.slice d.p4 d.n4 d.c4]) ?hres1 rfl ?hpost1
 case hres1=>exact results_cell_row rfl _ _ _ _ _ _ _ rfl (hS0.out.box 0 rfl) Tryz.underlying46 rfl vr_V
 case hpost1=>exact⟨d,rfl,(HD.out.bel hS0.out.bel).weak (fun b hb _=>.inl hb),hS0.out.bel⟩
theorem qhj (n:Nat) (IH:DropC n):DropC (n+1):=by
 intro A mk d cv v m w0 hA hd hm hwd;by_cases hk:d.k=10
 ·obtain⟨sl,rw0,rfl⟩ : ∃sl rw0,cv=.msg sl rw0:=by
   have:=hd.msg.1 hk;cases cv with
   | msg sl rw0=>exact⟨sl,rw0,rfl⟩
   | scalar a b c=>cases this
   | list a=>cases this
   | map a=>cases this
  obtain⟨_,hsl,hrw⟩:=hd;have HRW:=Lib.hid hrw;clear hrw;have DM:=Lib.hid (MaskD.up hm);obtain⟨vp,vc,rfl⟩:=hm.form;have HA0:=Lib.hid hA;have HK:=Lib.hid hk;obtain⟨lp,lc,hlv,hll,hlc,hel⟩:=hsl;have EL:=Lib.hid hel;have WD:=Lib.hid hwd;have V:=Lib.hid (show([]:List SE).map (·.x) ++ (sl.drop 0).filterMap (dropO (drop n) m)=sl.filterMap (dropO (drop n) m)from rfl);have hkw : ∀T,T=sl.filterMap (dropO (drop n) m)->drop (n+1) (.msg sl rw0) m=.msg T rw0:=fun T e=>by subst e;rfl
  have hke:=hkw _ rfl;generalize sl.filterMap (dropO (drop n) m)=T at V hke;rw [hke];have hslb:sl.length<=1034834473170:=hwd.1;obtain⟨i1,hi1,hy0,hy1,hy2⟩:=info_parts qi7;have hd3:(Value.slice d.p3 d.n3 d.c3)=.slice lp sl.length lc:=hlv;injection hd3 with hp3 hn3 hc3
  have hS0':=((ST.start w0).addbox #[.int .i64 d.k,.int .u64 d.b,.string (S d.t),.slice d.p1 d.n1 d.c1,.slice d.p2 d.n2 d.c2,.slice d.p3 d.n3 d.c3,.slice d.p4 d.n4 d.c4] 46).addbox #[.int .i64 0,.int .u64 0,.string ⟨#[]⟩,.slice none 0 0,.slice none 0 0,.slice none 0 0,.slice none 0 0] 46;simp only [World.size_alloc]at hS0';have hS1':=hS0'.setbox 1 rfl 5 (.slice none 0 0);clear hkw hke hm hA hwd hel hlv hk;show Calls _ _ #[.agg #[.int .i64 d.k,.int .u64 d.b,.string (S d.t),.slice d.p1 d.n1 d.c1,.slice d.p2 d.n2 d.c2,.slice d.p3 d.n3 d.c3,.slice d.p4 d.n4 d.c4],_] _ _
  rw [HK.out,hp3,hn3,hc3]
  go_enter Tryz.func34,Tryz.ntmps34
  have hT':=((ST.start w0).addbox #[.int .i64 10,.int .u64 d.b,.string (S d.t),.slice d.p1 d.n1 d.c1,.slice d.p2 d.n2 d.c2,.slice none 0 0,.slice d.p4 d.n4 d.c4] 46).addbox #[.int .i64 0,.int .u64 0,.string ⟨#[]⟩,.slice none 0 0,.slice none 0 0,.slice none 0 0,.slice none 0 0] 46;simp only [World.size_alloc]at hT';have HT:=Lib.hid (show ST w0 [sedge (.slice none 0 0) []] [⟨w0.heap.size+1,#[.int .i64 0,.int .u64 0,.string ⟨#[]⟩,.slice none 0 0,.slice none 0 0,.slice none 0 0,.slice none 0 0],46⟩,⟨w0.heap.size,#[.int .i64 10,.int .u64 d.b,.string (S d.t),.slice d.p1 d.n1 d.c1,.slice d.p2 d.n2 d.c2,.slice none 0 0,.slice d.p4 d.n4 d.c4],46⟩] _ from hT'.nilrow 73 8);clear hS0' hS1' hT' hp3 hn3 hc3;go_wp2
  go_loopw [19] (fun i wr => ∃(k:Nat) (L:List SE) (vo:Value),k<=sl.length/\i=.int .i64 k/\Hid (ST w0 [sedge vo L] [⟨w0.heap.size+1,#[.int .i64 0,.int .u64 0,.string ⟨#[]⟩,.slice none 0 0,.slice none 0 0,.slice none 0 0,.slice none 0 0],46⟩,⟨w0.heap.size,#[.int .i64 10,.int .u64 d.b,.string (S d.t),.slice d.p1 d.n1 d.c1,.slice d.p2 d.n2 d.c2,vo,.slice d.p4 d.n4 d.c4],46⟩] wr)/\L.length<=k/\Hid (SRowOK A (w0.heap.size+2) n vo L wr)/\Hid (L.map (·.x) ++ (sl.drop k).filterMap (dropO (drop n) m)=T)) (fun i _=>sl.length-(intOf i).toNat)
  case atStart=>exact⟨0,[],_,by omega,rfl,HT,by simp,Lib.hid (SRowOK.nil _ _ _ _ _),V⟩
  case round=>as_aux_lemma=>
   clear V HT;obtain⟨k,L,vo,hk,rfl,hS,hLk,hO,hx⟩:=hrel;obtain⟨qo,co,hvo⟩:=qap (hS.out.row 0 rfl);dsimp only [sedge]at hvo;subst hvo;by_cases hlt:k<sl.length
   ·obtain⟨b,off,vs,rfl,hbs,hab,hce,dx,hvs,hdx⟩:=EL.out k _ (List.getElem?_eq_getElem hlt)
    have hki:(k:Int)<(sl.length:Int):=by omega
    have hst:=hx.out;rw [fm_at hlt]at hst;have WX:=Lib.hid (WD.out.2 _ (List.getElem_mem hlt));clear hx hab EL;generalize sl[k]=x at *;have HVS:=Lib.hid hvs;have HC:=Lib.hid (fun i v hi=>hS.out.bel.some (hce i v hi));have HDX:=Lib.hid (show ValC A n w0 dx x.2 from hdx);have HX:=Lib.hid (hS.out.addbox vs.toArray 73);have hl8:vs.length=8:=by rw [hvs];rfl
    have HL:=Lib.hid hl8;have Z0:vs.toArray.size=8:=by rw [List.size_toArray];exact hl8
    have Z1:=Lib.hid (show(Tryz.prog.info? 73).map (·.size)=some vs.toArray.size by rw [Z0];exact ar_S);have Z2:=Lib.hid (show(#[.int .i64 0,.int .i64 0,.int .u64 0,.string ⟨#[]⟩,.slice none 0 0,.slice none 0 0,.slice none 0 0,.slice none 0 0]:Array Value).size=vs.toArray.size by rw [Z0];rfl);have HO1:=Lib.hid (show ∀u ∈ vs,u.oneCell'=true by rw [hvs];exact qi8 ⟨x,dx⟩);have HOA:=Lib.hid (qj3 HO1.out);have x0:=(HX.out.cell 0 rfl 0).trans (show vs.toArray[0]? = some (.int .i64 x.1)by rw [hvs];rfl);dsimp only at x0;have O0:=hO;have H0:=hS;have CF0:MaskD A (mk+1) (wr.alloc (.cells vs.toArray 73)) (.slice vp m.length vc) m:=DM.out.bel HX.out.bel;clear hce hvs hdx hS hO hl8 Z0;cases hz:find m x.1 with
    | none=>
     have CF:=Lib.hid (qb8 hz _ CF0);have hp:dropO (drop n) m x=some x:=by unfold dropO;rw [hz]
     rw [hp]at hst;have HST:=Lib.hid hst;clear hst hz hp CF0
     go_upto_region 9 with(first
      | (refine qae rfl 73 _ rfl b (off+k*8) 8 vs rfl HC.out ag_S sz_S HL.out ?_)
      | (refine qa3 (old:=#[.int .i64 0,.int .i64 0,.int .u64 0,.string ⟨#[]⟩,.slice none 0 0,.slice none 0 0,.slice none 0 0,.slice none 0 0]) rfl 73 _ _ rfl wr rfl wr.heap.size rfl vs.toArray rfl rfl Z1.out Z2.out HOA.out ?_)
      | (go_at_call 45;(with_reducible refine CF.out.mono ?_);rintro e w1 ⟨fp,fc,rfl,k1⟩;have k1:Bel _ w1:=k1;have H2:=Lib.hid ((HX.out.belw k1).addbox #[.int .i64 0,.slice fp 0 fc] 61);have K2:=Lib.hid (Bel.of ((Bel.refl wr).alloc _) (Bel.alloc k1 (.cells #[.int .i64 0,.slice fp 0 fc] 61)));clear k1))
     generalize hwz:World.alloc w1 _=w2 at H2 K2 ⊢;clear hwz
     go_upto_region 12 with(fail)
     have HB2:=Lib.hid (H2.out.box 1 rfl);have FSZ:=Z2;have FSE:=Lib.hid (show vs=seC ⟨x,dx⟩from HVS.out);have FL8:=HL;have FO1:=HO1;have FZ1:=Z1;have FBX:=HB2;have O2:=Lib.hid (O0.out.bel K2.out);have DX2:=Lib.hid (HDX.out.bel H2.out.bel);have v5:=H2.out.cell 3 rfl 5;dsimp only at v5;have hfold:List.foldl (fun(cs:Array Value) (x:Value × Nat)=>cs.setIfInBounds x.snd x.fst) #[.int .i64 0,.int .i64 0,.int .u64 0,.string ⟨#[]⟩,.slice none 0 0,.slice none 0 0,.slice none 0 0,.slice none 0 0] vs.zipIdx=vs.toArray:=qdn FSZ.out;have hl8:vs.length=8:=FL8.out;have HB:=Lib.hid (H2.out.belw ((Bel.refl w2).alloc (.cells vs.toArray 73)));have OB:=Lib.hid (O2.out.bel ((Bel.refl w2).alloc (.cells vs.toArray 73)));have EB:=Lib.hid (qk9 (A:=A) (N:=w0.heap.size+2) (v:=.slice qo L.length co) (e:=⟨x,dx⟩) (HDX.out.bel HB.out.bel));have FL8':=Lib.hid (show vs.length=1*8 from FL8.out)
     go_wp2_with (first
      | (refine qa5 rfl 73 _ rfl wr.heap.size vs.toArray 73 rfl FBX.out _ Tryz.underlying73 rfl FZ1.out ?_)
      | (at_builtin;refine wpList_append_lies _ rfl _ _ 43 rfl w0.heap.size 73 i1 (.agg #[.int .i64 0,.int .i64 0,.int .u64 0,.string ⟨#[]⟩,.slice none 0 0,.slice none 0 0,.slice none 0 0,.slice none 0 0]) 8 136 Tryz.underlying43 hi1 hy0 hy1 hy2 rfl (by decide) _ L.length _ rfl (HB.out.row 0 rfl) ⟨w2.heap.size,0,none⟩ 1 1 vs rfl FL8'.out (qbc _ _ _) FO1.out (by decide) (by unfold maxLen;omega) (by omega) HB.out.bel.size (w2.heap.size+1) (by simp) ?_))
     intro g9 cap9 w9 hown hgrow hfr hlt9;rw [FSE.out]at hown;have OO:=Lib.hid (SRowOK.snoc (e:=⟨x,dx⟩) (m:=L.length+1) (c:=cap9) OB.out HB.out HA0.out EB.out hgrow hfr (by simp));have HH:=Lib.hid (qd3 (e:=⟨x,dx⟩) (HB.out.grow 0 rfl hgrow hown (qby hfr (by simp))));have v9:=HH.out.cell 3 rfl 5;have f9:=HH.out.frz 3 rfl 5;dsimp only at v9 f9;have HF:=Lib.hid (HH.out.setbox 3 rfl 5 (.slice (some ⟨g9,0,none⟩) (L.length+1) cap9));have OF:=Lib.hid (OO.out.kept (qft (g:=w0.heap.size) (o:=5) (u:=.slice (some ⟨g9,0,none⟩) (L.length+1) cap9) HA0.out (by omega)));clear hown hgrow hfr hfold v5;go_wp2;go_roundw
     case rel=>exact⟨k+1,L ++ [⟨x,dx⟩],_,by omega,by go_num,Lib.hid HF.out.dropbox0.dropbox0,by rw [List.length_append,List.length_singleton];omega,OF,by simpa using HST⟩
     case measure=>simp [intOf];omega
    | some y=>
     have CF:=Lib.hid (qb7 hz _ CF0);have hp:dropO (drop n) m x=if(whole y || !x.2.isMsg)=true then none else some (x.1,drop n x.2 y.subs):=by unfold dropO;rw [hz]
     rw [hp]at hst;have hmsg:=HDX.out.msg;clear hz hp CF0;cases hwy:whole y with
     | true=>
      rw [hwy,Bool.true_or,if_pos rfl,Option.toList_none,List.nil_append]at hst;have HST:=Lib.hid hst;have CX:=Lib.hid (fun p c W=>qa9 hwy p c W);clear hst hwy hmsg
      go_upto_region 9 with(first
       | (refine qae rfl 73 _ rfl b (off+k*8) 8 vs rfl HC.out ag_S sz_S HL.out ?_)
       | (refine qa3 (old:=#[.int .i64 0,.int .i64 0,.int .u64 0,.string ⟨#[]⟩,.slice none 0 0,.slice none 0 0,.slice none 0 0,.slice none 0 0]) rfl 73 _ _ rfl wr rfl wr.heap.size rfl vs.toArray rfl rfl Z1.out Z2.out HOA.out ?_)
       | (go_at_call 45;(with_reducible refine CF.out.mono ?_);rintro e w1 ⟨fp,fc,rfl,hfd,k1⟩;have k1:Bel _ w1:=k1;have H1:=Lib.hid ((HX.out.belw k1).addbox #[.int .i64 y.num,.slice fp y.subs.length fc] 61);have K1:=Lib.hid (Bel.of ((Bel.refl wr).alloc _) (Bel.alloc k1 (.cells #[.int .i64 y.num,.slice fp y.subs.length fc] 61)));have FD1:=Lib.hid (hfd.bel ((Bel.refl _).alloc (.cells #[.int .i64 y.num,.slice fp y.subs.length fc] 61)));clear k1 hfd))
      generalize hwa:World.alloc w1 _=wa at H1 K1 FD1 ⊢;clear hwa;have q0:=H1.out.cell 0 rfl 0;have q1:=H1.out.cell 0 rfl 1;dsimp only at q0 q1
      go_wp2_with (first
       | (go_at_call 28;(with_reducible refine(CX.out _ _ _).mono ?_);rintro e w2 ⟨rfl,k2⟩;have k2:Bel _ w2:=k2;have H2:=Lib.hid (H1.out.belw k2);have K2:=Lib.hid (Bel.of K1.out k2);have FD2:=Lib.hid (FD1.out.bel k2);have HC7:=Lib.hid (show ∀i u,dx.cells[i]? = some u->w2.cell? ⟨wr.heap.size,1+i,none⟩=some u from fun i u hu=>(H2.out.cell 1 rfl (1+i)).trans (by rw [HVS.out];show(Value.int .i64 x.1 :: dx.cells).toArray[1+i]? = some u;rw [Nat.add_comm,List.getElem?_toArray,List.getElem?_cons_succ];exact hu));have y1:=H2.out.cell 0 rfl 1;dsimp only at y1;have ZL9:=Lib.hid (show 1+(7:Nat)<=vs.toArray.size by rw [List.size_toArray,HL.out];decide);have kk:=(H2.out.cell 1 rfl 1).trans (show vs.toArray[1]? = some (.int .i64 dx.k)by rw [HVS.out];rfl);dsimp only at kk;clear k2))
      go_roundw
      case rel=>exact⟨k+1,L,_,by omega,by go_num,Lib.hid (H0.out.belw K2.out),by omega,Lib.hid (O0.out.bel K2.out),HST⟩
      case measure=>simp [intOf];omega
     | false=>
      rw [hwy,Bool.false_or]at hst;by_cases hkx:dx.k=10
      ·rw [hmsg.1 hkx,Bool.not_true]at hst
       have hkxb:(dx.k != 10)=false:=bne_f hkx;clear hkx hmsg;rw [if_neg Bool.false_ne_true]at hst;have CX:=Lib.hid (fun p c W=>qa9 hwy p c W);have CI:=Lib.hid (fun W (k:Bel w0 W) v1 (h:MaskD A mk W v1 y.subs)=>IH A mk dx x.2 v1 y.subs W (fun b hb=>Nat.lt_of_lt_of_le (HA0.out b hb) k.size) (HDX.out.bel k) h WX.out);have FDm:=CF;generalize drop n x.2 y.subs=cv' at CI hst;have HST:=Lib.hid hst;clear hst hwy IH WX
       go_upto_region 9 with(first
        | (refine qae rfl 73 _ rfl b (off+k*8) 8 vs rfl HC.out ag_S sz_S HL.out ?_)
        | (refine qa3 (old:=#[.int .i64 0,.int .i64 0,.int .u64 0,.string ⟨#[]⟩,.slice none 0 0,.slice none 0 0,.slice none 0 0,.slice none 0 0]) rfl 73 _ _ rfl wr rfl wr.heap.size rfl vs.toArray rfl rfl Z1.out Z2.out HOA.out ?_)
        | (go_at_call 45;(with_reducible refine CF.out.mono ?_);rintro e w1 ⟨fp,fc,rfl,hfd,k1⟩;have k1:Bel _ w1:=k1;have H1:=Lib.hid ((HX.out.belw k1).addbox #[.int .i64 y.num,.slice fp y.subs.length fc] 61);have K1:=Lib.hid (Bel.of ((Bel.refl wr).alloc _) (Bel.alloc k1 (.cells #[.int .i64 y.num,.slice fp y.subs.length fc] 61)));have FD1:=Lib.hid (hfd.bel ((Bel.refl _).alloc (.cells #[.int .i64 y.num,.slice fp y.subs.length fc] 61)));clear k1 hfd)
        )
       generalize hwa:World.alloc w1 _=wa at H1 K1 FD1 ⊢;clear hwa;have q0:=H1.out.cell 0 rfl 0;have q1:=H1.out.cell 0 rfl 1;dsimp only at q0 q1
       go_upto_region 12 with(first
        | (go_at_call 28;(with_reducible refine(CX.out _ _ _).mono ?_);rintro e w2 ⟨rfl,k2⟩;have k2:Bel _ w2:=k2;have H2:=Lib.hid (H1.out.belw k2);have K2:=Lib.hid (Bel.of K1.out k2);have FD2:=Lib.hid (FD1.out.bel k2);have HC7:=Lib.hid (show ∀i u,dx.cells[i]? = some u->w2.cell? ⟨wr.heap.size,1+i,none⟩=some u from fun i u hu=>(H2.out.cell 1 rfl (1+i)).trans (by rw [HVS.out];show(Value.int .i64 x.1 :: dx.cells).toArray[1+i]? = some u;rw [Nat.add_comm,List.getElem?_toArray,List.getElem?_cons_succ];exact hu));have y1:=H2.out.cell 0 rfl 1;dsimp only at y1;have kk:=(H2.out.cell 1 rfl 1).trans (show vs.toArray[1]? = some (.int .i64 dx.k)by rw [HVS.out];rfl);dsimp only at kk;have ZL9:=Lib.hid (show 1+(7:Nat)<=vs.toArray.size by rw [List.size_toArray,HL.out];decide);clear k2)
        | (refine qae rfl 46 _ rfl wr.heap.size 1 7 dx.cells rfl HC7.out vg_V vz_V rfl ?_)
        | (go_at_call 34;(with_reducible refine(CI.out _ H2.out.bel _ FD2.out).mono ?_);rintro e w4 ⟨d',rfl,hv4,k4⟩;have k4:Bel _ w4:=k4;have H4:=Lib.hid (H2.out.belw k4);have K4:=Lib.hid (Bel.of K2.out k4);have MV4:=Lib.hid hv4;have HB4:=Lib.hid (H4.out.box 1 rfl);clear k4 hv4)
        | (refine qed rfl 46 _ _ rfl wr.heap.size 1 vs.toArray (seC ⟨(x.1,cv'),d'⟩).toArray d'.cells 73 rfl rfl HB4.out vr_V ZL9.out (qnj d') (by rw [HVS.out];rfl) ?_))
       have HZ:=Lib.hid (H4.out.setrowbox 1 rfl (seC ⟨(x.1,cv'),d'⟩).toArray);have hwb:wr.heap.size<w2.heap.size:=(H2.out.boxlt 1 rfl).2
       have hw0:w0.heap.size+2<=wr.heap.size:=by
        have:=(H0.out.boxlt 0 rfl).2;dsimp only at this;omega
       have hgr:=qbr w4 wr.heap.size (seC ⟨(x.1,cv'),d'⟩).toArray;have OZ:=Lib.hid (show SRowOK A (w0.heap.size+2) n (.slice qo L.length co) L _ from O0.out.bel (Below.grown K4.out hgr K4.out.size (fun k hk=>by cases hk;exact Nat.le_refl _)))
       have MZ:=Lib.hid (ValC.weak (A':=Off A (w0.heap.size+2) (.slice qo L.length co)) (MV4.out.kept (Keep.grown hgr (fun b hb e=>by
        have e2:b=wr.heap.size:=by injection e
        rcases hb with hb|hb
        ·have:=HA0.out b hb
         omega
        ·omega))) (fun b hb _=>qka H2.out (by omega) hb))
       generalize hwz:World.setRow _ _ _=wz at HZ OZ MZ ⊢;clear hwz hgr;generalize hxb:wr.heap.size=xb at HZ ⊢;clear hxb;obtain⟨vs2,hv2⟩ : ∃vs2,vs2=seC ⟨(x.1,cv'),d'⟩:=⟨_,rfl⟩;rw [←hv2]at HZ;have FSE:=Lib.hid hv2;have FL8:=Lib.hid (show vs2.length=8 by rw [hv2];rfl);have FSZ:=Lib.hid (show(#[.int .i64 0,.int .i64 0,.int .u64 0,.string ⟨#[]⟩,.slice none 0 0,.slice none 0 0,.slice none 0 0,.slice none 0 0]:Array Value).size=vs2.toArray.size by rw [hv2];rfl);have FO1:=Lib.hid (show ∀u ∈ vs2,u.oneCell'=true by rw [hv2];exact qi8 ⟨(x.1,cv'),d'⟩);have FZ1:=Lib.hid (show(Tryz.prog.info? 73).map (·.size)=some vs2.toArray.size by rw [hv2];exact ar_S);have FBX:=Lib.hid (HZ.out.box 1 rfl);clear hv2;have v5:=HZ.out.cell 3 rfl 5;dsimp only at v5;have hfold:List.foldl (fun(cs:Array Value) (x:Value × Nat)=>cs.setIfInBounds x.snd x.fst) #[.int .i64 0,.int .i64 0,.int .u64 0,.string ⟨#[]⟩,.slice none 0 0,.slice none 0 0,.slice none 0 0,.slice none 0 0] vs2.zipIdx=vs2.toArray:=qdn FSZ.out;have hl8:vs2.length=8:=FL8.out;have HB:=Lib.hid (HZ.out.belw ((Bel.refl wz).alloc (.cells vs2.toArray 73)));have OB:=Lib.hid (OZ.out.bel ((Bel.refl wz).alloc (.cells vs2.toArray 73)));have EB:=Lib.hid ((MZ.out.bel ((Bel.refl wz).alloc (.cells vs2.toArray 73)):SEok (Off A (w0.heap.size+2) (.slice qo L.length co)) n (wz.alloc (.cells vs2.toArray 73)) ⟨(x.1,cv'),d'⟩));have FL8':=Lib.hid (show vs2.length=1*8 from FL8.out)
       go_wp2_with (first
        | (refine qa5 rfl 73 _ rfl xb vs2.toArray 73 rfl FBX.out _ Tryz.underlying73 rfl FZ1.out ?_)
        | (at_builtin;refine wpList_append_lies _ rfl _ _ 43 rfl w0.heap.size 73 i1 (.agg #[.int .i64 0,.int .i64 0,.int .u64 0,.string ⟨#[]⟩,.slice none 0 0,.slice none 0 0,.slice none 0 0,.slice none 0 0]) 8 136 Tryz.underlying43 hi1 hy0 hy1 hy2 rfl (by decide) _ L.length _ rfl (HB.out.row 0 rfl) ⟨wz.heap.size,0,none⟩ 1 1 vs2 rfl FL8'.out (qbc _ _ _) FO1.out (by decide) (by unfold maxLen;omega) (by omega) HB.out.bel.size (wz.heap.size+1) (by simp) ?_))
       intro g9 cap9 w9 hown hgrow hfr hlt9;rw [FSE.out]at hown;have OO:=Lib.hid (SRowOK.snoc (e:=⟨(x.1,cv'),d'⟩) (m:=L.length+1) (c:=cap9) OB.out HB.out HA0.out EB.out hgrow hfr (by simp));have HH:=Lib.hid (qd3 (e:=⟨(x.1,cv'),d'⟩) (HB.out.grow 0 rfl hgrow hown (qby hfr (by simp))));have v9:=HH.out.cell 3 rfl 5;have f9:=HH.out.frz 3 rfl 5;dsimp only at v9 f9;have HF:=Lib.hid (HH.out.setbox 3 rfl 5 (.slice (some ⟨g9,0,none⟩) (L.length+1) cap9));have OF:=Lib.hid (OO.out.kept (qft (g:=w0.heap.size) (o:=5) (u:=.slice (some ⟨g9,0,none⟩) (L.length+1) cap9) HA0.out (by omega)));clear hown hgrow hfr hfold v5;go_wp2;go_roundw
       case rel=>exact⟨k+1,L ++ [⟨(x.1,cv'),d'⟩],_,by omega,by go_num,Lib.hid HF.out.dropbox0.dropbox0,by rw [List.length_append,List.length_singleton];omega,OF,by simpa using HST⟩
       case measure=>simp [intOf];omega
      ·have hni:x.2.isMsg=false:=by
        cases h:x.2.isMsg with
        | false=>rfl
        | true=>exact absurd (hmsg.2 h) hkx
       rw [hni,Bool.not_false,if_pos rfl,Option.toList_none,List.nil_append]at hst;have hkxb:(dx.k != 10)=true:=bne_t hkx;have HST:=Lib.hid hst;have CX:=Lib.hid (fun p c W=>qa9 hwy p c W);clear hst hwy hmsg hkx hni
       go_upto_region 9 with(first
        | (refine qae rfl 73 _ rfl b (off+k*8) 8 vs rfl HC.out ag_S sz_S HL.out ?_)
        | (refine qa3 (old:=#[.int .i64 0,.int .i64 0,.int .u64 0,.string ⟨#[]⟩,.slice none 0 0,.slice none 0 0,.slice none 0 0,.slice none 0 0]) rfl 73 _ _ rfl wr rfl wr.heap.size rfl vs.toArray rfl rfl Z1.out Z2.out HOA.out ?_)
        | (go_at_call 45;(with_reducible refine CF.out.mono ?_);rintro e w1 ⟨fp,fc,rfl,hfd,k1⟩;have k1:Bel _ w1:=k1;have H1:=Lib.hid ((HX.out.belw k1).addbox #[.int .i64 y.num,.slice fp y.subs.length fc] 61);have K1:=Lib.hid (Bel.of ((Bel.refl wr).alloc _) (Bel.alloc k1 (.cells #[.int .i64 y.num,.slice fp y.subs.length fc] 61)));have FD1:=Lib.hid (hfd.bel ((Bel.refl _).alloc (.cells #[.int .i64 y.num,.slice fp y.subs.length fc] 61)));clear k1 hfd))
       generalize hwa:World.alloc w1 _=wa at H1 K1 FD1 ⊢;clear hwa;have q0:=H1.out.cell 0 rfl 0;have q1:=H1.out.cell 0 rfl 1;dsimp only at q0 q1
       go_wp2_with (first
        | (go_at_call 28;(with_reducible refine(CX.out _ _ _).mono ?_);rintro e w2 ⟨rfl,k2⟩;have k2:Bel _ w2:=k2;have H2:=Lib.hid (H1.out.belw k2);have K2:=Lib.hid (Bel.of K1.out k2);have FD2:=Lib.hid (FD1.out.bel k2);have HC7:=Lib.hid (show ∀i u,dx.cells[i]? = some u->w2.cell? ⟨wr.heap.size,1+i,none⟩=some u from fun i u hu=>(H2.out.cell 1 rfl (1+i)).trans (by rw [HVS.out];show(Value.int .i64 x.1 :: dx.cells).toArray[1+i]? = some u;rw [Nat.add_comm,List.getElem?_toArray,List.getElem?_cons_succ];exact hu));have y1:=H2.out.cell 0 rfl 1;dsimp only at y1;have ZL9:=Lib.hid (show 1+(7:Nat)<=vs.toArray.size by rw [List.size_toArray,HL.out];decide);have kk:=(H2.out.cell 1 rfl 1).trans (show vs.toArray[1]? = some (.int .i64 dx.k)by rw [HVS.out];rfl);dsimp only at kk;clear k2))
       go_roundw
       case rel=>exact⟨k+1,L,_,by omega,by go_num,Lib.hid (H0.out.belw K2.out),by omega,Lib.hid (O0.out.bel K2.out),HST⟩
       case measure=>simp [intOf];omega
   ·have hkl:k=sl.length:=by omega
    have hzT:L.map (·.x)=T:=by have:=hx.out;rw [hkl,List.drop_length]at this;simpa using this
    subst hzT;clear hx EL;have v0:=hS.out.cell 1 rfl 0;have v1:=hS.out.cell 1 rfl 1;have v2:=hS.out.cell 1 rfl 2;have v3:=hS.out.cell 1 rfl 3;have v4:=hS.out.cell 1 rfl 4;have v5:=hS.out.cell 1 rfl 5;have v6:=hS.out.cell 1 rfl 6;dsimp only at v0 v1 v2 v3 v4 v5 v6;have HBr:=Lib.hid (hS.out.box 0 rfl);have HD7:=Lib.hid (show ∀u ∈ (⟨10,d.b,d.t,d.p1,d.n1,d.c1,d.p2,d.n2,d.c2,qo,L.length,co,d.p4,d.n4,d.c4⟩:VC).cells,u.oneCell'=true from qnj _)
    go_wp2_with (refine qab rfl 46 _ _ rfl (w0.heap.size+1) (⟨10,d.b,d.t,d.p1,d.n1,d.c1,d.p2,d.n2,d.c2,qo,L.length,co,d.p4,d.n4,d.c4⟩:VC).cells.toArray _ 46 rfl rfl HBr.out vr_V rfl (qj3 HD7.out) ?_)
    have HZ:=Lib.hid (hS.out.setrowbox 0 rfl (⟨10,d.b,d.t,d.p1,d.n1,d.c1,d.p2,d.n2,d.c2,qo,L.length,co,d.p4,d.n4,d.c4⟩:VC).cells.toArray)
    have OZ:=Lib.hid (hO.out.kept (Keep.grown (qbr wr (w0.heap.size+1) (⟨10,d.b,d.t,d.p1,d.n1,d.c1,d.p2,d.n2,d.c2,qo,L.length,co,d.p4,d.n4,d.c4⟩:VC).cells.toArray) (fun b hb e=>by
     have e2:b=w0.heap.size+1:=by injection e
     rcases hb with hb|hb
     ·have:=HA0.out b hb
      omega
     ·omega)))
    refine bodyPost_ret (v:=.agg (⟨10,d.b,d.t,d.p1,d.n1,d.c1,d.p2,d.n2,d.c2,qo,L.length,co,d.p4,d.n4,d.c4⟩:VC).cells.toArray) ?hres2 rfl ?hpost2
    case hres2=>exact results_cell_row rfl _ _ _ _ _ _ _ rfl (HZ.out.box 0 rfl) Tryz.underlying46 rfl vr_V
    case hpost2=>exact⟨(⟨10,d.b,d.t,d.p1,d.n1,d.c1,d.p2,d.n2,d.c2,qo,L.length,co,d.p4,d.n4,d.c4⟩:VC),rfl,⟨rfl,qi6 (HZ.out.row 0 rfl) (by omega) OZ.out (fun b hb=>hb.imp id (fun h=>by omega)) (fun b hb=>.inr hb),(HRW.out.kept (Keep.bel HZ.out.bel) (fun _ _ h=>h)).weak (fun b hb _=>.inl hb) (fun _ _ h=>h)⟩,HZ.out.bel⟩
 ·have hkv:drop (n+1) cv m=cv:=by
   cases cv with
   | msg sl rw0=>exact absurd hd.1 hk
   | scalar a b c=>rfl
   | list a=>rfl
   | map a=>rfl
  rw [hkv];exact qjk n A d cv v m w0 hd hm.form hk
theorem mk_Drop : ∀n:Nat,DropC n
 | 0=>fun _ _ _ _ _ _ _ _ h=>h.elim
 | n+1=>qhj n (mk_Drop n)
end Go.Proofs.YtaaneecceiefoaaGreatDoor
