import Derived.Test.YtaaneecceiefoaaGreatDoorMaKeep
import Derived.Test.YtaaneecceiefoaaGreatDoorMaFind
import Derived.Test.YtaaneecceiefoaaGreatDoorMaEnvD
import Derived.Test.YtaaneecceiefoaaGreatDoorMaDPath
import Derived.Test.YtaaneecceiefoaaGreatDoorMaParse
import Derived.Test.YtaaneecceiefoaaGreatDoorMaVM
set_option maxRecDepth 100000
set_option maxHeartbeats 4000000
set_option linter.unusedVariables false
set_option linter.unusedSimpArgs false
namespace Go.Proofs.YtaaneecceiefoaaGreatDoor
section
open Go.RowKit Ma
def DropC (n:Nat):Prop := ∀(A:Nat->Prop) (mk:Nat) (d:VC) (cv:CV) (v:Value) (m:List PMask) (w:World),(∀b,A b->b<w.heap.size)->ValC A n w d cv->MaskD A mk w v m->WdV 1034834473170 n cv->Calls Tryz.prog 34 #[.agg d.cells.toArray,v] w (qq6 A n w (drop n cv m))
theorem qla (n:Nat) (A:Nat->Prop) (d:VC) (cv:CV) (v:Value) (m:List PMask) (w0:World) (hd:ValC A (n+1) w0 d cv) (hv : ∃p c,v=.slice p m.length c) (hk:d.k ≠ 10):Calls Tryz.prog 34 #[.agg #[.int .i64 d.k,.int .u64 d.b,.string (S d.t),.slice d.p1 d.n1 d.c1,.slice d.p2 d.n2 d.c2,.slice d.p3 d.n3 d.c3,.slice d.p4 d.n4 d.c4],v] w0 (qq6 A (n+1) w0 cv):=by
 obtain⟨vp,vc,rfl⟩:=hv;have hkb:(d.k != 10)=true:=bne_t hk;have hS0':=((ST.start w0).addbox #[.int .i64 d.k,.int .u64 d.b,.string (S d.t),.slice d.p1 d.n1 d.c1,.slice d.p2 d.n2 d.c2,.slice d.p3 d.n3 d.c3,.slice d.p4 d.n4 d.c4] 46).addbox #[.int .i64 d.k,.int .u64 d.b,.string (S d.t),.slice d.p1 d.n1 d.c1,.slice d.p2 d.n2 d.c2,.slice d.p3 d.n3 d.c3,.slice d.p4 d.n4 d.c4] 46;simp only [World.size_alloc]at hS0';have hS0:=Lib.hid hS0';have HD:=Lib.hid hd;clear hk hd hS0'
 go_enter Tryz.func34,Tryz.ntmps34
 go_wp2;refine bodyPost_ret (v:=.agg #[.int .i64 d.k,.int .u64 d.b,.string (S d.t),.slice d.p1 d.n1 d.c1,.slice d.p2 d.n2 d.c2,.slice d.p3 d.n3 d.c3,.slice d.p4 d.n4 d.c4]) ?hres1 rfl ?hpost1
 case hres1=>exact results_cell_row rfl _ _ _ _ _ _ _ rfl (hS0.out.box 0 rfl) Tryz.underlying46 rfl vr_V
 case hpost1=>exact⟨d,rfl,(HD.out.bel hS0.out.bel).weak (fun b hb _=>.inl hb),hS0.out.bel⟩
theorem qj7 (n:Nat) (IH:DropC n):DropC (n+1):=by
 intro A mk d cv v m w0 hA hd hm hwd;by_cases hk:d.k=10
 ·obtain⟨sl,rw0,rfl⟩ : ∃sl rw0,cv=.msg sl rw0:=by
   have:=hd.msg.1 hk;cases cv with
   | msg sl rw0=>exact⟨sl,rw0,rfl⟩
   | scalar a b c=>cases this
   | list a=>cases this
   | map a=>cases this
  obtain⟨_,hsl,hrw⟩:=hd;have HRW:=Lib.hid hrw;clear hrw;have DM:=Lib.hid (MaskD.up hm);obtain⟨vp,vc,rfl⟩:=hm.form;have HA0:=Lib.hid hA;have HK:=Lib.hid hk;obtain⟨lp,lc,hlv,hll,hlc,hel⟩:=hsl;have EL:=Lib.hid hel;have WD:=Lib.hid hwd;have V:=Lib.hid (show([]:List SE).map (·.x) ++ (sl.drop 0).filterMap (dropO (drop n) m)=sl.filterMap (dropO (drop n) m)from rfl);have hkw : ∀T,T=sl.filterMap (dropO (drop n) m)->drop (n+1) (.msg sl rw0) m=.msg T rw0:=fun T e=>by subst e;rfl
  have hke:=hkw _ rfl;generalize sl.filterMap (dropO (drop n) m)=T at V hke;rw [hke];have hslb:sl.length<=1034834473170:=hwd.1;obtain⟨i1,hi1,hy0,hy1,hy2⟩:=info_parts qjv;have hd3:(Value.slice d.p3 d.n3 d.c3)=.slice lp sl.length lc:=hlv;injection hd3 with hp3 hn3 hc3
  have hS0':=((ST.start w0).addbox #[.int .i64 d.k,.int .u64 d.b,.string (S d.t),.slice d.p1 d.n1 d.c1,.slice d.p2 d.n2 d.c2,.slice d.p3 d.n3 d.c3,.slice d.p4 d.n4 d.c4] 46).addbox #[.int .i64 0,.int .u64 0,.string ⟨#[]⟩,.slice none 0 0,.slice none 0 0,.slice none 0 0,.slice none 0 0] 46;simp only [World.size_alloc]at hS0';have hS1':=hS0'.setbox 1 rfl 5 (.slice none 0 0);clear hkw hke hm hA hwd hel hlv hk;show Calls _ _ #[.agg #[.int .i64 d.k,.int .u64 d.b,.string (S d.t),.slice d.p1 d.n1 d.c1,.slice d.p2 d.n2 d.c2,.slice d.p3 d.n3 d.c3,.slice d.p4 d.n4 d.c4],_] _ _
  rw [HK.out,hp3,hn3,hc3]
  go_enter Tryz.func34,Tryz.ntmps34
  have hT':=((ST.start w0).addbox #[.int .i64 10,.int .u64 d.b,.string (S d.t),.slice d.p1 d.n1 d.c1,.slice d.p2 d.n2 d.c2,.slice none 0 0,.slice d.p4 d.n4 d.c4] 46).addbox #[.int .i64 0,.int .u64 0,.string ⟨#[]⟩,.slice none 0 0,.slice none 0 0,.slice none 0 0,.slice none 0 0] 46;simp only [World.size_alloc]at hT';have HT:=Lib.hid (show ST w0 [sedge (.slice none 0 0) []] [⟨w0.heap.size+1,#[.int .i64 0,.int .u64 0,.string ⟨#[]⟩,.slice none 0 0,.slice none 0 0,.slice none 0 0,.slice none 0 0],46⟩,⟨w0.heap.size,#[.int .i64 10,.int .u64 d.b,.string (S d.t),.slice d.p1 d.n1 d.c1,.slice d.p2 d.n2 d.c2,.slice none 0 0,.slice d.p4 d.n4 d.c4],46⟩] _ from hT'.nilrow 73 8);clear hS0' hS1' hT' hp3 hn3 hc3;go_wp2
  go_loopw [19] (fun i wr => ∃(k:Nat) (L:List SE) (vo:Value),k<=sl.length/\i=.int .i64 k/\Hid (ST w0 [sedge vo L] [⟨w0.heap.size+1,#[.int .i64 0,.int .u64 0,.string ⟨#[]⟩,.slice none 0 0,.slice none 0 0,.slice none 0 0,.slice none 0 0],46⟩,⟨w0.heap.size,#[.int .i64 10,.int .u64 d.b,.string (S d.t),.slice d.p1 d.n1 d.c1,.slice d.p2 d.n2 d.c2,vo,.slice d.p4 d.n4 d.c4],46⟩] wr)/\L.length<=k/\Hid (SRowOK A (w0.heap.size+2) n vo L wr)/\Hid (L.map (·.x) ++ (sl.drop k).filterMap (dropO (drop n) m)=T)) (fun i _=>sl.length-(intOf i).toNat)
  case atStart=>exact⟨0,[],_,by omega,rfl,HT,by simp,Lib.hid (SRowOK.nil _ _ _ _ _),V⟩
  case round=>as_aux_lemma=>
   clear V HT;obtain⟨k,L,vo,hk,rfl,hS,hLk,hO,hx⟩:=hrel;obtain⟨qo,co,hvo⟩:=qan (hS.out.row 0 rfl);dsimp only [sedge]at hvo;subst hvo;by_cases hlt:k<sl.length
   ·obtain⟨b,off,vs,rfl,hbs,hab,hce,dx,hvs,hdx⟩:=EL.out k _ (List.getElem?_eq_getElem hlt)
    have hki:(k:Int)<(sl.length:Int):=by omega
    have hst:=hx.out;rw [fm_at hlt]at hst;have WX:=Lib.hid (WD.out.2 _ (List.getElem_mem hlt));clear hx hab EL;generalize sl[k]=x at *;have HVS:=Lib.hid hvs;have HC:=Lib.hid (fun i v hi=>hS.out.bel.some (hce i v hi));have HDX:=Lib.hid (show ValC A n w0 dx x.2 from hdx);have HX:=Lib.hid (hS.out.addbox vs.toArray 73);have hl8:vs.length=8:=by rw [hvs];rfl
    have HL:=Lib.hid hl8;have Z0:vs.toArray.size=8:=by rw [List.size_toArray];exact hl8
    have Z1:=Lib.hid (show(Tryz.prog.info? 73).map (·.size)=some vs.toArray.size by rw [Z0];exact ar_S);have Z2:=Lib.hid (show(#[.int .i64 0,.int .i64 0,.int .u64 0,.string ⟨#[]⟩,.slice none 0 0,.slice none 0 0,.slice none 0 0,.slice none 0 0]:Array Value).size=vs.toArray.size by rw [Z0];rfl);have HO1:=Lib.hid (show ∀u ∈ vs,u.oneCell'=true by rw [hvs];exact qgd ⟨x,dx⟩);have HOA:=Lib.hid (qgk HO1.out);have x0:=(HX.out.cell 0 rfl 0).trans (show vs.toArray[0]? = some (.int .i64 x.1)by rw [hvs];rfl);dsimp only at x0;have O0:=hO;have H0:=hS;have CF0:MaskD A (mk+1) (wr.alloc (.cells vs.toArray 73)) (.slice vp m.length vc) m:=DM.out.bel HX.out.bel;clear hce hvs hdx hS hO hl8 Z0;cases hz:find m x.1 with
    | none=>
     have CF:=Lib.hid (qc7 hz _ CF0);have hp:dropO (drop n) m x=some x:=by unfold dropO;rw [hz]
     rw [hp]at hst;have HST:=Lib.hid hst;clear hst hz hp CF0
     go_upto_region 9 with(first
      | (refine qaa rfl 73 _ rfl b (off+k*8) 8 vs rfl HC.out ag_S sz_S HL.out ?_)
      | (refine qa3 (old:=#[.int .i64 0,.int .i64 0,.int .u64 0,.string ⟨#[]⟩,.slice none 0 0,.slice none 0 0,.slice none 0 0,.slice none 0 0]) rfl 73 _ _ rfl wr rfl wr.heap.size rfl vs.toArray rfl rfl Z1.out Z2.out HOA.out ?_)
      | (go_at_call 45;(with_reducible refine CF.out.mono ?_);rintro e w1 ⟨fp,fc,rfl,k1⟩;have k1:Bel _ w1:=k1;have H2:=Lib.hid ((HX.out.belw k1).addbox #[.int .i64 0,.slice fp 0 fc] 61);have K2:=Lib.hid (Bel.of ((Bel.refl wr).alloc _) (Bel.alloc k1 (.cells #[.int .i64 0,.slice fp 0 fc] 61)));clear k1))
     generalize hwz:World.alloc w1 _=w2 at H2 K2 ⊢;clear hwz
     go_upto_region 12 with(fail)
     have HB2:=Lib.hid (H2.out.box 1 rfl);have FSZ:=Z2;have FSE:=Lib.hid (show vs=seC ⟨x,dx⟩from HVS.out);have FL8:=HL;have FO1:=HO1;have FZ1:=Z1;have FBX:=HB2;have O2:=Lib.hid (O0.out.bel K2.out);have DX2:=Lib.hid (HDX.out.bel H2.out.bel);have v5:=H2.out.cell 3 rfl 5;dsimp only at v5;have hfold:List.foldl (fun(cs:Array Value) (x:Value × Nat)=>cs.setIfInBounds x.snd x.fst) #[.int .i64 0,.int .i64 0,.int .u64 0,.string ⟨#[]⟩,.slice none 0 0,.slice none 0 0,.slice none 0 0,.slice none 0 0] vs.zipIdx=vs.toArray:=qdn FSZ.out;have hl8:vs.length=8:=FL8.out;have HB:=Lib.hid (H2.out.belw ((Bel.refl w2).alloc (.cells vs.toArray 73)));have OB:=Lib.hid (O2.out.bel ((Bel.refl w2).alloc (.cells vs.toArray 73)));have EB:=Lib.hid (qm2 (A:=A) (N:=w0.heap.size+2) (v:=.slice qo L.length co) (e:=⟨x,dx⟩) (HDX.out.bel HB.out.bel));have FL8':=Lib.hid (show vs.length=1*8 from FL8.out)
     go_wp2_with (first
      | (refine qa6 rfl 73 _ rfl wr.heap.size vs.toArray 73 rfl FBX.out _ Tryz.underlying73 rfl FZ1.out ?_)
      | (at_builtin;refine wpList_append_lies _ rfl _ _ 43 rfl w0.heap.size 73 i1 (.agg #[.int .i64 0,.int .i64 0,.int .u64 0,.string ⟨#[]⟩,.slice none 0 0,.slice none 0 0,.slice none 0 0,.slice none 0 0]) 8 136 Tryz.underlying43 hi1 hy0 hy1 hy2 rfl (by decide) _ L.length _ rfl (HB.out.row 0 rfl) ⟨w2.heap.size,0,none⟩ 1 1 vs rfl FL8'.out (qau _ _ _) FO1.out (by decide) (by unfold maxLen;omega) (by omega) HB.out.bel.size (w2.heap.size+1) (by simp) ?_))
     intro g9 cap9 w9 hown hgrow hfr hlt9;rw [FSE.out]at hown;have OO:=Lib.hid (SRowOK.snoc (e:=⟨x,dx⟩) (m:=L.length+1) (c:=cap9) OB.out HB.out HA0.out EB.out hgrow hfr (by simp));have HH:=Lib.hid (qdy (e:=⟨x,dx⟩) (HB.out.grow 0 rfl hgrow hown (qbc hfr (by simp))));have v9:=HH.out.cell 3 rfl 5;have f9:=HH.out.frz 3 rfl 5;dsimp only at v9 f9;have HF:=Lib.hid (HH.out.setbox 3 rfl 5 (.slice (some ⟨g9,0,none⟩) (L.length+1) cap9));have OF:=Lib.hid (OO.out.kept (qh3 (g:=w0.heap.size) (o:=5) (u:=.slice (some ⟨g9,0,none⟩) (L.length+1) cap9) HA0.out (by omega)));clear hown hgrow hfr hfold v5;go_wp2;go_roundw
     case rel=>exact⟨k+1,L ++ [⟨x,dx⟩],_,by omega,by go_num,Lib.hid HF.out.dropbox0.dropbox0,by rw [List.length_append,List.length_singleton];omega,OF,by simpa using HST⟩
     case measure=>simp [intOf];omega
    | some y=>
     have CF:=Lib.hid (qc6 hz _ CF0);have hp:dropO (drop n) m x=if(whole y || !x.2.isMsg)=true then none else some (x.1,drop n x.2 y.subs):=by unfold dropO;rw [hz]
     rw [hp]at hst;have hmsg:=HDX.out.msg;clear hz hp CF0;cases hwy:whole y with
     | true=>
      rw [hwy,Bool.true_or,if_pos rfl,Option.toList_none,List.nil_append]at hst;have HST:=Lib.hid hst;have CX:=Lib.hid (fun p c W=>qaj hwy p c W);clear hst hwy hmsg
      go_upto_region 9 with(first
       | (refine qaa rfl 73 _ rfl b (off+k*8) 8 vs rfl HC.out ag_S sz_S HL.out ?_)
       | (refine qa3 (old:=#[.int .i64 0,.int .i64 0,.int .u64 0,.string ⟨#[]⟩,.slice none 0 0,.slice none 0 0,.slice none 0 0,.slice none 0 0]) rfl 73 _ _ rfl wr rfl wr.heap.size rfl vs.toArray rfl rfl Z1.out Z2.out HOA.out ?_)
       | (go_at_call 45;(with_reducible refine CF.out.mono ?_);rintro e w1 ⟨fp,fc,rfl,hfd,k1⟩;have k1:Bel _ w1:=k1;have H1:=Lib.hid ((HX.out.belw k1).addbox #[.int .i64 y.num,.slice fp y.subs.length fc] 61);have K1:=Lib.hid (Bel.of ((Bel.refl wr).alloc _) (Bel.alloc k1 (.cells #[.int .i64 y.num,.slice fp y.subs.length fc] 61)));have FD1:=Lib.hid (hfd.bel ((Bel.refl _).alloc (.cells #[.int .i64 y.num,.slice fp y.subs.length fc] 61)));clear k1 hfd))
      generalize hwa:World.alloc w1 _=wa at H1 K1 FD1 ⊢;clear hwa;have q0:=H1.out.cell 0 rfl 0;have q1:=H1.out.cell 0 rfl 1;dsimp only at q0 q1
      go_wp2_with (first
       | (go_at_call 28;(with_reducible refine(CX.out _ _ _).mono ?_);rintro e w2 ⟨rfl,k2⟩;have k2:Bel _ w2:=k2;have H2:=Lib.hid (H1.out.belw k2);have K2:=Lib.hid (Bel.of K1.out k2);have FD2:=Lib.hid (FD1.out.bel k2);have HC7:=Lib.hid (show ∀i u,dx.cells[i]? = some u->w2.cell? ⟨wr.heap.size,1+i,none⟩=some u from fun i u hu=>(H2.out.cell 1 rfl (1+i)).trans (by rw [HVS.out];show(Value.int .i64 x.1 :: dx.cells).toArray[1+i]? = some u;rw [Nat.add_comm,List.getElem?_toArray,List.getElem?_cons_succ];exact hu));have y1:=H2.out.cell 0 rfl 1;dsimp only at y1;have ZL9:=Lib.hid (show 1+(7:Nat)<=vs.toArray.size by rw [List.size_toArray,HL.out];decide);have kk:=(H2.out.cell 1 rfl 1).trans (show vs.toArray[1]? = some (.int .i64 dx.k)by rw [HVS.out];rfl);dsimp only at kk;clear k2))
      go_roundw
      case rel=>exact⟨k+1,L,_,by omega,by go_num,Lib.hid (H0.out.belw K2.out),by omega,Lib.hid (O0.out.bel K2.out),HST⟩
      case measure=>simp [intOf];omega
     | false=>
      rw [hwy,Bool.false_or]at hst;by_cases hkx:dx.k=10
      ·rw [hmsg.1 hkx,Bool.not_true]at hst
       have hkxb:(dx.k != 10)=false:=bne_f hkx;clear hkx hmsg;rw [if_neg Bool.false_ne_true]at hst;have CX:=Lib.hid (fun p c W=>qaj hwy p c W);have CI:=Lib.hid (fun W (k:Bel w0 W) v1 (h:MaskD A mk W v1 y.subs)=>IH A mk dx x.2 v1 y.subs W (fun b hb=>Nat.lt_of_lt_of_le (HA0.out b hb) k.size) (HDX.out.bel k) h WX.out);have FDm:=CF;generalize drop n x.2 y.subs=cv' at CI hst;have HST:=Lib.hid hst;clear hst hwy IH WX
       go_upto_region 9 with(first
        | (refine qaa rfl 73 _ rfl b (off+k*8) 8 vs rfl HC.out ag_S sz_S HL.out ?_)
        | (refine qa3 (old:=#[.int .i64 0,.int .i64 0,.int .u64 0,.string ⟨#[]⟩,.slice none 0 0,.slice none 0 0,.slice none 0 0,.slice none 0 0]) rfl 73 _ _ rfl wr rfl wr.heap.size rfl vs.toArray rfl rfl Z1.out Z2.out HOA.out ?_)
        | (go_at_call 45;(with_reducible refine CF.out.mono ?_);rintro e w1 ⟨fp,fc,rfl,hfd,k1⟩;have k1:Bel _ w1:=k1;have H1:=Lib.hid ((HX.out.belw k1).addbox #[.int .i64 y.num,.slice fp y.subs.length fc] 61);have K1:=Lib.hid (Bel.of ((Bel.refl wr).alloc _) (Bel.alloc k1 (.cells #[.int .i64 y.num,.slice fp y.subs.length fc] 61)));have FD1:=Lib.hid (hfd.bel ((Bel.refl _).alloc (.cells #[.int .i64 y.num,.slice fp y.subs.length fc] 61)));clear k1 hfd)
        )
       generalize hwa:World.alloc w1 _=wa at H1 K1 FD1 ⊢;clear hwa;have q0:=H1.out.cell 0 rfl 0;have q1:=H1.out.cell 0 rfl 1;dsimp only at q0 q1
       go_upto_region 12 with(first
        | (go_at_call 28;(with_reducible refine(CX.out _ _ _).mono ?_);rintro e w2 ⟨rfl,k2⟩;have k2:Bel _ w2:=k2;have H2:=Lib.hid (H1.out.belw k2);have K2:=Lib.hid (Bel.of K1.out k2);have FD2:=Lib.hid (FD1.out.bel k2);have HC7:=Lib.hid (show ∀i u,dx.cells[i]? = some u->w2.cell? ⟨wr.heap.size,1+i,none⟩=some u from fun i u hu=>(H2.out.cell 1 rfl (1+i)).trans (by rw [HVS.out];show(Value.int .i64 x.1 :: dx.cells).toArray[1+i]? = some u;rw [Nat.add_comm,List.getElem?_toArray,List.getElem?_cons_succ];exact hu));have y1:=H2.out.cell 0 rfl 1;dsimp only at y1;have kk:=(H2.out.cell 1 rfl 1).trans (show vs.toArray[1]? = some (.int .i64 dx.k)by rw [HVS.out];rfl);dsimp only at kk;have ZL9:=Lib.hid (show 1+(7:Nat)<=vs.toArray.size by rw [List.size_toArray,HL.out];decide);clear k2)
        | (refine qaa rfl 46 _ rfl wr.heap.size 1 7 dx.cells rfl HC7.out vg_V vz_V rfl ?_)
        | (go_at_call 34;(with_reducible refine(CI.out _ H2.out.bel _ FD2.out).mono ?_);rintro e w4 ⟨d',rfl,hv4,k4⟩;have k4:Bel _ w4:=k4;have H4:=Lib.hid (H2.out.belw k4);have K4:=Lib.hid (Bel.of K2.out k4);have MV4:=Lib.hid hv4;have HB4:=Lib.hid (H4.out.box 1 rfl);clear k4 hv4)
        | (refine qff rfl 46 _ _ rfl wr.heap.size 1 vs.toArray (seC ⟨(x.1,cv'),d'⟩).toArray d'.cells 73 rfl rfl HB4.out vr_V ZL9.out (qpv d') (by rw [HVS.out];rfl) ?_))
       have HZ:=Lib.hid (H4.out.setrowbox 1 rfl (seC ⟨(x.1,cv'),d'⟩).toArray);have hwb:wr.heap.size<w2.heap.size:=(H2.out.boxlt 1 rfl).2
       have hw0:w0.heap.size+2<=wr.heap.size:=by
        have:=(H0.out.boxlt 0 rfl).2;dsimp only at this;omega
       have hgr:=qb5 w4 wr.heap.size (seC ⟨(x.1,cv'),d'⟩).toArray;have OZ:=Lib.hid (show SRowOK A (w0.heap.size+2) n (.slice qo L.length co) L _ from O0.out.bel (Below.grown K4.out hgr K4.out.size (fun k hk=>by cases hk;exact Nat.le_refl _)))
       have MZ:=Lib.hid (ValC.weak (A':=Off A (w0.heap.size+2) (.slice qo L.length co)) (MV4.out.kept (Keep.grown hgr (fun b hb e=>by
        have e2:b=wr.heap.size:=by injection e
        rcases hb with hb|hb
        ·have:=HA0.out b hb
         omega
        ·omega))) (fun b hb _=>qm3 H2.out (by omega) hb))
       generalize hwz:World.setRow _ _ _=wz at HZ OZ MZ ⊢;clear hwz hgr;generalize hxb:wr.heap.size=xb at HZ ⊢;clear hxb;obtain⟨vs2,hv2⟩ : ∃vs2,vs2=seC ⟨(x.1,cv'),d'⟩:=⟨_,rfl⟩;rw [←hv2]at HZ;have FSE:=Lib.hid hv2;have FL8:=Lib.hid (show vs2.length=8 by rw [hv2];rfl);have FSZ:=Lib.hid (show(#[.int .i64 0,.int .i64 0,.int .u64 0,.string ⟨#[]⟩,.slice none 0 0,.slice none 0 0,.slice none 0 0,.slice none 0 0]:Array Value).size=vs2.toArray.size by rw [hv2];rfl);have FO1:=Lib.hid (show ∀u ∈ vs2,u.oneCell'=true by rw [hv2];exact qgd ⟨(x.1,cv'),d'⟩);have FZ1:=Lib.hid (show(Tryz.prog.info? 73).map (·.size)=some vs2.toArray.size by rw [hv2];exact ar_S);have FBX:=Lib.hid (HZ.out.box 1 rfl);clear hv2;have v5:=HZ.out.cell 3 rfl 5;dsimp only at v5;have hfold:List.foldl (fun(cs:Array Value) (x:Value × Nat)=>cs.setIfInBounds x.snd x.fst) #[.int .i64 0,.int .i64 0,.int .u64 0,.string ⟨#[]⟩,.slice none 0 0,.slice none 0 0,.slice none 0 0,.slice none 0 0] vs2.zipIdx=vs2.toArray:=qdn FSZ.out;have hl8:vs2.length=8:=FL8.out;have HB:=Lib.hid (HZ.out.belw ((Bel.refl wz).alloc (.cells vs2.toArray 73)));have OB:=Lib.hid (OZ.out.bel ((Bel.refl wz).alloc (.cells vs2.toArray 73)));have EB:=Lib.hid ((MZ.out.bel ((Bel.refl wz).alloc (.cells vs2.toArray 73)):SEok (Off A (w0.heap.size+2) (.slice qo L.length co)) n (wz.alloc (.cells vs2.toArray 73)) ⟨(x.1,cv'),d'⟩));have FL8':=Lib.hid (show vs2.length=1*8 from FL8.out)
       go_wp2_with (first
        | (refine qa6 rfl 73 _ rfl xb vs2.toArray 73 rfl FBX.out _ Tryz.underlying73 rfl FZ1.out ?_)
        | (at_builtin;refine wpList_append_lies _ rfl _ _ 43 rfl w0.heap.size 73 i1 (.agg #[.int .i64 0,.int .i64 0,.int .u64 0,.string ⟨#[]⟩,.slice none 0 0,.slice none 0 0,.slice none 0 0,.slice none 0 0]) 8 136 Tryz.underlying43 hi1 hy0 hy1 hy2 rfl (by decide) _ L.length _ rfl (HB.out.row 0 rfl) ⟨wz.heap.size,0,none⟩ 1 1 vs2 rfl FL8'.out (qau _ _ _) FO1.out (by decide) (by unfold maxLen;omega) (by omega) HB.out.bel.size (wz.heap.size+1) (by simp) ?_))
       intro g9 cap9 w9 hown hgrow hfr hlt9;rw [FSE.out]at hown;have OO:=Lib.hid (SRowOK.snoc (e:=⟨(x.1,cv'),d'⟩) (m:=L.length+1) (c:=cap9) OB.out HB.out HA0.out EB.out hgrow hfr (by simp));have HH:=Lib.hid (qdy (e:=⟨(x.1,cv'),d'⟩) (HB.out.grow 0 rfl hgrow hown (qbc hfr (by simp))));have v9:=HH.out.cell 3 rfl 5;have f9:=HH.out.frz 3 rfl 5;dsimp only at v9 f9;have HF:=Lib.hid (HH.out.setbox 3 rfl 5 (.slice (some ⟨g9,0,none⟩) (L.length+1) cap9));have OF:=Lib.hid (OO.out.kept (qh3 (g:=w0.heap.size) (o:=5) (u:=.slice (some ⟨g9,0,none⟩) (L.length+1) cap9) HA0.out (by omega)));clear hown hgrow hfr hfold v5;go_wp2;go_roundw
       case rel=>exact⟨k+1,L ++ [⟨(x.1,cv'),d'⟩],_,by omega,by go_num,Lib.hid HF.out.dropbox0.dropbox0,by rw [List.length_append,List.length_singleton];omega,OF,by simpa using HST⟩
       case measure=>simp [intOf];omega
      ·have hni:x.2.isMsg=false:=by
        cases h:x.2.isMsg with
        | false=>rfl
        | true=>exact absurd (hmsg.2 h) hkx
       rw [hni,Bool.not_false,if_pos rfl,Option.toList_none,List.nil_append]at hst;have hkxb:(dx.k != 10)=true:=bne_t hkx;have HST:=Lib.hid hst;have CX:=Lib.hid (fun p c W=>qaj hwy p c W);clear hst hwy hmsg hkx hni
       go_upto_region 9 with(first
        | (refine qaa rfl 73 _ rfl b (off+k*8) 8 vs rfl HC.out ag_S sz_S HL.out ?_)
        | (refine qa3 (old:=#[.int .i64 0,.int .i64 0,.int .u64 0,.string ⟨#[]⟩,.slice none 0 0,.slice none 0 0,.slice none 0 0,.slice none 0 0]) rfl 73 _ _ rfl wr rfl wr.heap.size rfl vs.toArray rfl rfl Z1.out Z2.out HOA.out ?_)
        | (go_at_call 45;(with_reducible refine CF.out.mono ?_);rintro e w1 ⟨fp,fc,rfl,hfd,k1⟩;have k1:Bel _ w1:=k1;have H1:=Lib.hid ((HX.out.belw k1).addbox #[.int .i64 y.num,.slice fp y.subs.length fc] 61);have K1:=Lib.hid (Bel.of ((Bel.refl wr).alloc _) (Bel.alloc k1 (.cells #[.int .i64 y.num,.slice fp y.subs.length fc] 61)));have FD1:=Lib.hid (hfd.bel ((Bel.refl _).alloc (.cells #[.int .i64 y.num,.slice fp y.subs.length fc] 61)));clear k1 hfd))
       generalize hwa:World.alloc w1 _=wa at H1 K1 FD1 ⊢;clear hwa;have q0:=H1.out.cell 0 rfl 0;have q1:=H1.out.cell 0 rfl 1;dsimp only at q0 q1
       go_wp2_with (first
        | (go_at_call 28;(with_reducible refine(CX.out _ _ _).mono ?_);rintro e w2 ⟨rfl,k2⟩;have k2:Bel _ w2:=k2;have H2:=Lib.hid (H1.out.belw k2);have K2:=Lib.hid (Bel.of K1.out k2);have FD2:=Lib.hid (FD1.out.bel k2);have HC7:=Lib.hid (show ∀i u,dx.cells[i]? = some u->w2.cell? ⟨wr.heap.size,1+i,none⟩=some u from fun i u hu=>(H2.out.cell 1 rfl (1+i)).trans (by rw [HVS.out];show(Value.int .i64 x.1 :: dx.cells).toArray[1+i]? = some u;rw [Nat.add_comm,List.getElem?_toArray,List.getElem?_cons_succ];exact hu));have y1:=H2.out.cell 0 rfl 1;dsimp only at y1;have ZL9:=Lib.hid (show 1+(7:Nat)<=vs.toArray.size by rw [List.size_toArray,HL.out];decide);have kk:=(H2.out.cell 1 rfl 1).trans (show vs.toArray[1]? = some (.int .i64 dx.k)by rw [HVS.out];rfl);dsimp only at kk;clear k2))
       go_roundw
       case rel=>exact⟨k+1,L,_,by omega,by go_num,Lib.hid (H0.out.belw K2.out),by omega,Lib.hid (O0.out.bel K2.out),HST⟩
       case measure=>simp [intOf];omega
   ·have hkl:k=sl.length:=by omega
    have hzT:L.map (·.x)=T:=by have:=hx.out;rw [hkl,List.drop_length]at this;simpa using this
    subst hzT;clear hx EL;have v0:=hS.out.cell 1 rfl 0;have v1:=hS.out.cell 1 rfl 1;have v2:=hS.out.cell 1 rfl 2;have v3:=hS.out.cell 1 rfl 3;have v4:=hS.out.cell 1 rfl 4;have v5:=hS.out.cell 1 rfl 5;have v6:=hS.out.cell 1 rfl 6;dsimp only at v0 v1 v2 v3 v4 v5 v6;have HBr:=Lib.hid (hS.out.box 0 rfl);have HD7:=Lib.hid (show ∀u ∈ (⟨10,d.b,d.t,d.p1,d.n1,d.c1,d.p2,d.n2,d.c2,qo,L.length,co,d.p4,d.n4,d.c4⟩:VC).cells,u.oneCell'=true from qpv _)
    go_wp2_with (refine qa8 rfl 46 _ _ rfl (w0.heap.size+1) (⟨10,d.b,d.t,d.p1,d.n1,d.c1,d.p2,d.n2,d.c2,qo,L.length,co,d.p4,d.n4,d.c4⟩:VC).cells.toArray _ 46 rfl rfl HBr.out vr_V rfl (qgk HD7.out) ?_)
    have HZ:=Lib.hid (hS.out.setrowbox 0 rfl (⟨10,d.b,d.t,d.p1,d.n1,d.c1,d.p2,d.n2,d.c2,qo,L.length,co,d.p4,d.n4,d.c4⟩:VC).cells.toArray)
    have OZ:=Lib.hid (hO.out.kept (Keep.grown (qb5 wr (w0.heap.size+1) (⟨10,d.b,d.t,d.p1,d.n1,d.c1,d.p2,d.n2,d.c2,qo,L.length,co,d.p4,d.n4,d.c4⟩:VC).cells.toArray) (fun b hb e=>by
     have e2:b=w0.heap.size+1:=by injection e
     rcases hb with hb|hb
     ·have:=HA0.out b hb
      omega
     ·omega)))
    refine bodyPost_ret (v:=.agg (⟨10,d.b,d.t,d.p1,d.n1,d.c1,d.p2,d.n2,d.c2,qo,L.length,co,d.p4,d.n4,d.c4⟩:VC).cells.toArray) ?hres2 rfl ?hpost2
    case hres2=>exact results_cell_row rfl _ _ _ _ _ _ _ rfl (HZ.out.box 0 rfl) Tryz.underlying46 rfl vr_V
    case hpost2=>exact⟨(⟨10,d.b,d.t,d.p1,d.n1,d.c1,d.p2,d.n2,d.c2,qo,L.length,co,d.p4,d.n4,d.c4⟩:VC),rfl,⟨rfl,qju (HZ.out.row 0 rfl) (by omega) OZ.out (fun b hb=>hb.imp id (fun h=>by omega)) (fun b hb=>.inr hb),(HRW.out.kept (Keep.bel HZ.out.bel) (fun _ _ h=>h)).weak (fun b hb _=>.inl hb) (fun _ _ h=>h)⟩,HZ.out.bel⟩
 ·have hkv:drop (n+1) cv m=cv:=by
   cases cv with
   | msg sl rw0=>exact absurd hd.1 hk
   | scalar a b c=>rfl
   | list a=>rfl
   | map a=>rfl
  rw [hkv];exact qla n A d cv v m w0 hd hm.form hk
theorem mk_Drop : ∀n:Nat,DropC n
 | 0=>fun _ _ _ _ _ _ _ _ h=>h.elim
 | n+1=>qj7 n (mk_Drop n)
end
section
open Go.RowKit Ck Ma
namespace Ma
def fA1:PField:=⟨1,[97],2,0,2,[],[],false,⟨0,0,[],0,0,0,0⟩,[]⟩
def fA2:PField:=⟨2,[98],2,0,10,[77],[],false,⟨0,0,[],0,0,0,0⟩,[]⟩
def mA:PMsg:=⟨[77],[fA1,fA2],[],[],[]⟩
def sA:PSchema:=⟨[mA],[],[]⟩
def lA:List PMask:=[.mk 1 [],.mk 2 [.mk 1 []]]
end Ma
theorem parse_A:parse (envOf Ma.sA) (qa4 Ma.sA) 7 [77] [98,46,97,44,97]=(0,Ma.lA):=by kernel_rfl
theorem text_A:text (envOf Ma.sA) (qa4 Ma.sA) 7 [77] Ma.lA=[97,44,98,46,97]:=by kernel_rfl
theorem textN_A:textN (envOf Ma.sA) (qa4 Ma.sA) 7 [77] Ma.lA=[[[97]],[[98],[97]]]:=by kernel_rfl
def vA:CV:=.msg [(1,.scalar 2 0 [])] []
theorem keep_A:keep 2 vA Ma.lA=.msg [(1,.scalar 2 0 [])] []:=by kernel_rfl
theorem drop_A:drop 2 vA Ma.lA=.msg [] []:=by kernel_rfl
theorem wdV_A:WdV 1034834473170 2 vA:=⟨by decide,fun x hx=>by
 have:x=(1,.scalar 2 0 []):=List.mem_singleton.1 hx;subst this
 exact trivial⟩
def fC1:Array Value:=#[.int .i64 1,.string ⟨#[97]⟩,.int .i64 2,.int .i64 0,.int .i64 2,.string ⟨#[]⟩,.string ⟨#[]⟩,.bool false,.int .i64 0,.int .u64 0,.string ⟨#[]⟩,.slice none 0 0,.slice none 0 0,.slice none 0 0,.slice none 0 0,.slice none 0 0]
def fC2:Array Value:=#[.int .i64 2,.string ⟨#[98]⟩,.int .i64 2,.int .i64 0,.int .i64 10,.string ⟨#[77]⟩,.string ⟨#[]⟩,.bool false,.int .i64 0,.int .u64 0,.string ⟨#[]⟩,.slice none 0 0,.slice none 0 0,.slice none 0 0,.slice none 0 0,.slice none 0 0]
theorem qlj (W:World) (f:PField) (n nm tn:ByteArray) (z t:Int) (hf:f=⟨z,nm.data.toList,2,0,t,tn.data.toList,[],false,⟨0,0,[],0,0,0,0⟩,[]⟩):VField W [.int .i64 z,.string nm,.int .i64 2,.int .i64 0,.int .i64 t,.string tn,.string ⟨#[]⟩,.bool false,.int .i64 0,.int .u64 0,.string ⟨#[]⟩,.slice none 0 0,.slice none 0 0,.slice none 0 0,.slice none 0 0,.slice none 0 0] f:=by
 subst hf;exact⟨[.int .i64 0,.int .u64 0,.string ⟨#[]⟩,.slice none 0 0,.slice none 0 0,.slice none 0 0,.slice none 0 0],.slice none 0 0,rfl,⟨none,none,none,none,0,0,0,0,rfl,Int.le_refl 0,(show(0:Int)<18446744073709551616 by decide),Nat.zero_le _,Nat.zero_le _,Nat.zero_le _,Nat.zero_le _⟩,Sl.nil _ _ _ _ _⟩
theorem vmsg_A {W:World} {b:Nat} {t:TypeId} (h:W.heap[b]? = some (.cells (fC1 ++ fC2) t (0,0))):VMsg W [.string (S [77]),.slice (some ⟨b,0,none⟩) 2 2,.slice none 0 0,.slice none 0 0,.slice none 0 0] Ma.mA:=by
 refine⟨_,_,_,_,rfl,⟨some ⟨b,0,none⟩,2,rfl,by decide,by decide,fun i x hx=>?_⟩,Sl.nil _ _ _ _ _,Sl.nil _ _ _ _ _,Sl.nil _ _ _ _ _⟩
 have hi:i=0 ∨ i=1:=by
  have:=(List.getElem?_eq_some_iff.1 hx).1;have h1:Ma.mA.fields.length=2:=rfl;omega
 rcases hi with rfl|rfl
 ·have hxe:Ma.fA1=x:=by
   have:Ma.mA.fields[0]? = some Ma.fA1:=rfl;rw [this]at hx;exact Option.some.inj hx
  subst hxe;refine⟨b,0,rfl,(Array.getElem?_eq_some_iff.1 h).1,fC1.toList,fun j v hv=>?_,qlj W _ ⟨#[]⟩ ⟨#[97]⟩ ⟨#[]⟩ 1 2 rfl⟩;have hj:j<16:=(List.getElem?_eq_some_iff.1 hv).1;rw [Lib.cell_of_heap h];simp only [Nat.zero_mul,Nat.zero_add];rw [Array.getElem?_append_left hj]
  simpa using hv
 ·have hxe:Ma.fA2=x:=by
   have:Ma.mA.fields[1]? = some Ma.fA2:=rfl;rw [this]at hx;exact Option.some.inj hx
  subst hxe;refine⟨b,0,rfl,(Array.getElem?_eq_some_iff.1 h).1,fC2.toList,fun j v hv=>?_,qlj W _ ⟨#[]⟩ ⟨#[98]⟩ ⟨#[77]⟩ 2 10 rfl⟩;rw [Lib.cell_of_heap h,Nat.one_mul,Nat.zero_add,Array.getElem?_append_right (show fC1.size<=16+j from Nat.le_add_right 16 j),show 16+j-fC1.size=j from Nat.add_sub_cancel_left 16 j]
  simpa using hv
theorem qok {W:World} {b c:Nat} {t t2:TypeId} (h:W.heap[b]? = some (.cells (fC1 ++ fC2) t (0,0))) (h2:W.heap[c]? = some (.cells #[.string (S [77]),.slice (some ⟨b,0,none⟩) 2 2,.slice none 0 0,.slice none 0 0,.slice none 0 0] t2 (0,0))) :
  VSchema W [.slice (some ⟨c,0,none⟩) 1 1,.slice none 0 0,.slice none 0 0] Ma.sA:=by
 refine⟨_,_,_,rfl,⟨some ⟨c,0,none⟩,1,rfl,by decide,by decide,fun i x hx=>?_⟩,Sl.nil _ _ _ _ _,Sl.nil _ _ _ _ _⟩
 have hi:i=0:=by
  have:=(List.getElem?_eq_some_iff.1 hx).1;have h1:Ma.sA.msgs.length=1:=rfl;omega
 subst hi
 have hxe:Ma.mA=x:=by
  have:Ma.sA.msgs[0]? = some Ma.mA:=rfl;rw [this]at hx;exact Option.some.inj hx
 subst hxe;refine⟨c,0,rfl,(Array.getElem?_eq_some_iff.1 h2).1,_,fun j v hv=>?_,vmsg_A h⟩;rw [Lib.cell_of_heap h2,Nat.zero_mul,Nat.zero_add]
 simpa using hv
theorem qmx (p:Option Addr) (W:World) (hs:VSchema W [.slice p 1 1,.slice none 0 0,.slice none 0 0] Ma.sA) (hM:ML W):Calls Tryz.prog 12 #[.agg #[.slice p 1 1,.slice none 0 0,.slice none 0 0],.string ⟨#[77]⟩,.string ⟨#[98,46,97,44,97]⟩] W fun e w' => ∃q c,e=.returned (.tuple #[.slice q 2 c,.int .i64 0])/\MaskD (fun b=>b<w'.heap.size) 7 w' (.slice q 2 c) Ma.lA/\Bel W w':=by
 refine(qj5 _ _ _ Ma.sA [77] [98,46,97,44,97] W hs hM (by decide)).mono fun e w' h=>?_
 obtain⟨v,rfl,hd,k⟩:=h;have hp:parse (envOf Ma.sA) (qa4 Ma.sA) (([98,46,97,44,97]:List UInt8).length+2) [77] [98,46,97,44,97]=(0,Ma.lA):=parse_A;rw [hp]at hd ⊢;obtain⟨q,c,rfl⟩:=hd.form;exact⟨q,c,rfl,hd.weak (fun b _ hb=>hb),k⟩
theorem qot (p q:Option Addr) (c:Nat) (W:World) (A:Nat->Prop) (hs:VSchema W [.slice p 1 1,.slice none 0 0,.slice none 0 0] Ma.sA) (hm:MaskD A 7 W (.slice q 2 c) Ma.lA):Calls Tryz.prog 15 #[.agg #[.slice p 1 1,.slice none 0 0,.slice none 0 0],.string ⟨#[77]⟩,.slice q 2 c] W fun e w'=>e=.returned (.string ⟨#[97,44,98,46,97]⟩)/\Bel W w':=by
 refine(mk_Text 6 A _ _ _ Ma.sA [77] _ Ma.lA W hs hm (by rw [textN_A];decide) (fun m hm f hf=>?_) (by decide) (by rw [textN_A];decide)).mono fun e w' h=>?_
 ·have:m=Ma.mA:=List.mem_singleton.1 hm
  subst this
  have hf2:f=Ma.fA1 ∨ f=Ma.fA2:=by
   rcases List.mem_cons.1 hf with h|h
   ·exact .inl h
   ·exact .inr (List.mem_singleton.1 h)
  rcases hf2 with rfl|rfl <;> decide
 ·rw [text_A]at h
  exact h
theorem value_A {A:Nat->Prop} {W:World} {b:Nat} {t:TypeId} (hA:A b) (h:W.heap[b]? = some (.cells #[.int .i64 1,.int .i64 2,.int .u64 0,.string ⟨#[]⟩,.slice none 0 0,.slice none 0 0,.slice none 0 0,.slice none 0 0] t (0,0))):ValC A 2 W ⟨10,0,[],none,0,0,none,0,0,some ⟨b,0,none⟩,1,1,none,0,0⟩ vA:=by
 refine⟨rfl,⟨some ⟨b,0,none⟩,1,rfl,by decide,by decide,fun i x hx=>?_⟩,SlA.nil _ _ _ _ _ _⟩
 have hi:i=0:=by
  have:=(List.getElem?_eq_some_iff.1 hx).1
  simpa using this
 subst hi;have hxe:(1,CV.scalar 2 0 [])=x:=by simpa using hx
 subst hxe;refine⟨b,0,_,rfl,(Array.getElem?_eq_some_iff.1 h).1,hA,fun j v hv=>?_,⟨2,0,[],none,0,0,none,0,0,none,0,0,none,0,0⟩,rfl,rfl,by decide,by decide,by decide,rfl,by decide,by decide,rfl⟩;rw [Lib.cell_of_heap h];simp only [Nat.zero_mul,Nat.zero_add];rw [List.getElem?_toArray];exact hv
theorem qpl (q:Option Addr) (c b:Nat) (W:World) (t:TypeId) (hm:MaskD (fun b=>b<W.heap.size) 7 W (.slice q 2 c) Ma.lA) (h:W.heap[b]? = some (.cells #[.int .i64 1,.int .i64 2,.int .u64 0,.string ⟨#[]⟩,.slice none 0 0,.slice none 0 0,.slice none 0 0,.slice none 0 0] t (0,0))):Calls Tryz.prog 33 #[.agg #[.int .i64 10,.int .u64 0,.string ⟨#[]⟩,.slice none 0 0,.slice none 0 0,.slice (some ⟨b,0,none⟩) 1 1,.slice none 0 0],.slice q 2 c] W fun e w' => ∃d:VC,e=.returned (.agg #[.int .i64 d.k,.int .u64 d.b,.string (S d.t),.slice d.p1 d.n1 d.c1,.slice d.p2 d.n2 d.c2,.slice d.p3 1 d.c3,.slice d.p4 d.n4 d.c4])/\Bel W w':=by
 have hb:=(Array.getElem?_eq_some_iff.1 h).1;refine(mk_Keep 2 _ 7 _ vA _ Ma.lA W (fun b hb=>hb) (value_A hb h) hm wdV_A).mono fun e w' h=>?_
 rw [keep_A]at h;obtain⟨d,rfl,hd,k⟩:=h;obtain⟨_,_,he,_⟩:=hd.2.1
 have hn:d.n3=1:=by
  injection he with _ h2 _
 refine⟨d,?_,k⟩;rw [←hn];rfl
theorem qpu (q:Option Addr) (c b:Nat) (W:World) (t:TypeId) (hm:MaskD (fun b=>b<W.heap.size) 7 W (.slice q 2 c) Ma.lA) (h:W.heap[b]? = some (.cells #[.int .i64 1,.int .i64 2,.int .u64 0,.string ⟨#[]⟩,.slice none 0 0,.slice none 0 0,.slice none 0 0,.slice none 0 0] t (0,0))):Calls Tryz.prog 34 #[.agg #[.int .i64 10,.int .u64 0,.string ⟨#[]⟩,.slice none 0 0,.slice none 0 0,.slice (some ⟨b,0,none⟩) 1 1,.slice none 0 0],.slice q 2 c] W fun e w' => ∃d:VC,e=.returned (.agg #[.int .i64 d.k,.int .u64 d.b,.string (S d.t),.slice d.p1 d.n1 d.c1,.slice d.p2 d.n2 d.c2,.slice d.p3 0 d.c3,.slice d.p4 d.n4 d.c4])/\Bel W w':=by
 have hb:=(Array.getElem?_eq_some_iff.1 h).1;refine(mk_Drop 2 _ 7 _ vA _ Ma.lA W (fun b hb=>hb) (value_A hb h) hm wdV_A).mono fun e w' h=>?_
 rw [drop_A]at h;obtain⟨d,rfl,hd,k⟩:=h;obtain⟨_,_,he,_⟩:=hd.2.1
 have hn:d.n3=0:=by
  injection he with _ h2 _
 refine⟨d,?_,k⟩;rw [←hn];rfl
end
section
open Go.RowKit Ck Ma
theorem qh0 (w:World) (hM:ML w):Calls Tryz.prog 11 #[] w fun e w'=>e=.returned (.bool true)/\Bel w w':=by
 have CP:=Lib.hid (fun W (k:Bel w W) p hs=>qmx p W hs (hM.below k));clear hM
 go_enter Tryz.func11,Tryz.ntmps11
 go_upto_region 2 with(fail)
 have H1:=Lib.hid ((ST.start w).addbox fC1 65);unfold fC1 at H1;generalize hW1:World.alloc w _=W1 at H1 ⊢;have hs1:W1.heap.size=w.heap.size+1:=by rw [←hW1];simp
 clear hW1
 go_upto_region 3 with(fail)
 have H2:=Lib.hid (H1.out.addbox fC2 65);unfold fC2 at H2;have hs2:(World.alloc W1 (.cells fC2 65)).heap.size=w.heap.size+2:=by simp [hs1]
 unfold fC2 at hs2;rw [hs1]at H2;generalize hW2:World.alloc W1 _=W2 at H2 hs2 ⊢;clear hW2 hs1 H1 W1;have HB1:=Lib.hid (show W2.heap[w.heap.size]? = some (.cells fC1 65 (0,0))from H2.out.box 1 rfl);have HB2:=Lib.hid (show W2.heap[w.heap.size+1]? = some (.cells fC2 65 (0,0))from H2.out.box 0 rfl);have Z1:=Lib.hid (show(Tryz.prog.info? 65).map (·.size)=some fC1.size by kernel_rfl);have Z2:=Lib.hid (show(Tryz.prog.info? 65).map (·.size)=some fC2.size by kernel_rfl);have hz1:fC1.size=16:=rfl;have hz2:fC2.size=16:=rfl
 go_upto_region 4 with(first
  | (refine qa6 rfl 65 _ rfl w.heap.size fC1 65 rfl HB1.out _ Tryz.underlying65 rfl Z1.out ?_)
  | (refine qa6 rfl 65 _ rfl (w.heap.size+1) fC2 65 rfl HB2.out _ Tryz.underlying65 rfl Z2.out ?_))
 generalize hX:Array.foldl _ _ fC2.zipIdx 0 _=X;have hXf:X=fC1 ++ fC2:=by rw [←hX];kernel_rfl
 clear hX;subst hXf
 all_goals (first|(exfalso;assumption)|skip)
 have H3:=Lib.hid (((H2.out.addbox (fC1 ++ fC2) 65).addbox #[.string ⟨#[77]⟩,.slice (some ⟨w.heap.size+2,0,none⟩) 2 2,.slice none 0 0,.slice none 0 0,.slice none 0 0] 57).addbox #[.slice (some ⟨w.heap.size+3,0,none⟩) 1 1,.slice none 0 0,.slice none 0 0] 26);simp only [World.size_alloc,hs2,Nat.add_assoc,Nat.reduceAdd]at H3;have hs3:(World.alloc (World.alloc (World.alloc W2 (.cells (fC1 ++ fC2) 65)) (.cells #[.string ⟨#[77]⟩,.slice (some ⟨w.heap.size+2,0,none⟩) 2 2,.slice none 0 0,.slice none 0 0,.slice none 0 0] 57)) (.cells #[.slice (some ⟨w.heap.size+3,0,none⟩) 1 1,.slice none 0 0,.slice none 0 0] 26)).heap.size=w.heap.size+5:=by simp [hs2]
 generalize hW3:World.alloc (World.alloc (World.alloc W2 _) _) _=W3 at H3 hs3 ⊢;clear hW3 hs2 HB1 HB2 Z1 Z2 hz1 hz2 H2 W2;have SC:=Lib.hid (fun W (k:Bel W3 W)=>qok (W:=W) (b:=w.heap.size+2) (c:=w.heap.size+3) (qcu k (H3.out.box 2 rfl)) (qcu k (H3.out.box 1 rfl)));have c0:=H3.out.cell 0 rfl 0;have c1:=H3.out.cell 0 rfl 1;have c2:=H3.out.cell 0 rfl 2;dsimp only at c0 c1 c2
 go_upto_region 5 with(go_at_call 12;(with_reducible refine(CP.out _ H3.out.bel _ (SC.out _ (Bel.refl _))).mono ?_);rintro e w4 ⟨q,c,rfl,d4,k4⟩;have k4:Bel _ w4:=k4;have H4:=Lib.hid (H3.out.belw k4);have K4:=Lib.hid k4;have D4:=Lib.hid d4;clear k4 d4 c0 c1 c2 CP)
 go_upto_region 6 with(fail)
 have hs5:(World.alloc w4 (.cells #[.int .i64 1,.int .i64 2,.int .u64 0,.string ⟨#[]⟩,.slice none 0 0,.slice none 0 0,.slice none 0 0,.slice none 0 0] 73)).heap.size=w4.heap.size+1:=by simp
 have H5:=Lib.hid ((H4.out.addbox #[.int .i64 1,.int .i64 2,.int .u64 0,.string ⟨#[]⟩,.slice none 0 0,.slice none 0 0,.slice none 0 0,.slice none 0 0] 73).addbox #[.int .i64 10,.int .u64 0,.string ⟨#[]⟩,.slice none 0 0,.slice none 0 0,.slice (some ⟨w4.heap.size,0,none⟩) 1 1,.slice none 0 0] 46);rw [hs5]at H5;have D5:=Lib.hid ((D4.out.bel ((Bel.refl _).alloc (.cells #[.int .i64 1,.int .i64 2,.int .u64 0,.string ⟨#[]⟩,.slice none 0 0,.slice none 0 0,.slice none 0 0,.slice none 0 0] 73))).bel ((Bel.refl _).alloc (.cells #[.int .i64 10,.int .u64 0,.string ⟨#[]⟩,.slice none 0 0,.slice none 0 0,.slice (some ⟨w4.heap.size,0,none⟩) 1 1,.slice none 0 0] 46)));have K5:=Lib.hid (Bel.of K4.out (((Bel.refl w4).alloc (.cells #[.int .i64 1,.int .i64 2,.int .u64 0,.string ⟨#[]⟩,.slice none 0 0,.slice none 0 0,.slice none 0 0,.slice none 0 0] 73)).alloc (.cells #[.int .i64 10,.int .u64 0,.string ⟨#[]⟩,.slice none 0 0,.slice none 0 0,.slice (some ⟨w4.heap.size,0,none⟩) 1 1,.slice none 0 0] 46)));generalize hW5:World.alloc (World.alloc w4 _) _=W5 at H5 D5 K5 ⊢;clear hW5 hs5 hs3 D4 K4 H4 H3;obtain⟨G,hG⟩ : ∃G,G=w4.heap.size:=⟨_,rfl⟩;rw [←hG]at H5 ⊢;have HSL:=Lib.hid (fun W (k:Bel W5 W)=>show W.heap[G]? = some (.cells #[.int .i64 1,.int .i64 2,.int .u64 0,.string ⟨#[]⟩,.slice none 0 0,.slice none 0 0,.slice none 0 0,.slice none 0 0] 73 (0,0))from qcu k (H5.out.box 1 rfl));have CT:=Lib.hid (fun W (k:Bel W5 W)=>qot _ q c W _ (SC.out W (Bel.of K5.out k)) (D5.out.bel k));have CK:=Lib.hid (fun W (k:Bel W5 W)=>qpl q c G W _ ((D5.out.bel k).weak (fun b _ hb=>hb)) (HSL.out W k));have CD:=Lib.hid (fun W (k:Bel W5 W)=>qpu q c G W _ ((D5.out.bel k).weak (fun b _ hb=>hb)) (HSL.out W k));clear D5 K5 SC HSL hG;have c0:=H5.out.cell 2 rfl 0;have c1:=H5.out.cell 2 rfl 1;have c2:=H5.out.cell 2 rfl 2;dsimp only at c0 c1 c2
 go_wp2_with (first
  | (go_at_call 15;(with_reducible refine(CT.out _ (Bel.refl _)).mono ?_);rintro e w6 ⟨rfl,k6⟩;have k6:Bel _ w6:=k6;have K6:=Lib.hid k6;have H6:=Lib.hid (H5.out.belw k6);clear k6 c0 c1 c2 CT;have y0:=H6.out.cell 0 rfl 0;have y1:=H6.out.cell 0 rfl 1;have y2:=H6.out.cell 0 rfl 2;have y3:=H6.out.cell 0 rfl 3;have y4:=H6.out.cell 0 rfl 4;have y5:=H6.out.cell 0 rfl 5;have y6:=H6.out.cell 0 rfl 6;dsimp only at y0 y1 y2 y3 y4 y5 y6)
  | (go_at_call 33;(with_reducible refine(CK.out _ K6.out).mono ?_);rintro e w7 ⟨d7,rfl,k7⟩;have k7:Bel _ w7:=k7;have f7 : ∀W,Sem.run Tryz.prog (Instr.field 46 (.agg #[.int .i64 d7.k,.int .u64 d7.b,.string (S d7.t),.slice d7.p1 d7.n1 d7.c1,.slice d7.p2 d7.n2 d7.c2,.slice d7.p3 1 d7.c3,.slice d7.p4 d7.n4 d7.c4]) 5) W=.ok (.slice d7.p3 1 d7.c3) W:=(fun W=>by kernel_rfl);have K7:=Lib.hid (Bel.of K6.out k7);have H7:=Lib.hid (H6.out.belw k7);clear k7 y0 y1 y2 y3 y4 y5 y6 CK;have y0:=H7.out.cell 0 rfl 0;have y1:=H7.out.cell 0 rfl 1;have y2:=H7.out.cell 0 rfl 2;have y3:=H7.out.cell 0 rfl 3;have y4:=H7.out.cell 0 rfl 4;have y5:=H7.out.cell 0 rfl 5;have y6:=H7.out.cell 0 rfl 6;dsimp only at y0 y1 y2 y3 y4 y5 y6)
  | (go_at_call 34;(with_reducible refine(CD.out _ K7.out).mono ?_);rintro e w8 ⟨d8,rfl,k8⟩;have k8:Bel _ w8:=k8;have f8 : ∀W,Sem.run Tryz.prog (Instr.field 46 (.agg #[.int .i64 d8.k,.int .u64 d8.b,.string (S d8.t),.slice d8.p1 d8.n1 d8.c1,.slice d8.p2 d8.n2 d8.c2,.slice d8.p3 0 d8.c3,.slice d8.p4 d8.n4 d8.c4]) 5) W=.ok (.slice d8.p3 0 d8.c3) W:=(fun W=>by kernel_rfl);have H8:=Lib.hid (H7.out.belw k8)))
 go_ret;exact⟨by simp,H8.out.bel⟩
end
end Go.Proofs.YtaaneecceiefoaaGreatDoor
