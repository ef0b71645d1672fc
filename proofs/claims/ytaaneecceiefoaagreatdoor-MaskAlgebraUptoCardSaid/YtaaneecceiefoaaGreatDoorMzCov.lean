import Derived.Test.YtaaneecceiefoaaGreatDoorCkSmallP
import Derived.Test.YtaaneecceiefoaaGreatDoorMaCheck
import Derived.Test.YtaaneecceiefoaaGreatDoorMaEnvD
set_option maxRecDepth 100000
set_option maxHeartbeats 4000000
set_option linter.unusedVariables false
set_option linter.unusedSimpArgs false
namespace Go.Proofs.YtaaneecceiefoaaGreatDoor
section
open Go.RowKit Ma
theorem ar_S:(Tryz.prog.info? 73).map (·.size)=some 8:=by kernel_rfl
theorem ag_S (w:World):(isAgg 73).run Tryz.prog w=.ok true w:=by kernel_rfl
theorem sz_S (w:World):(Go.sizeOf 73).run Tryz.prog w=.ok 8 w:=by kernel_rfl
theorem vr_V:(Tryz.prog.info? 46).map (·.size)=some 7:=by kernel_rfl
theorem vg_V (w:World):(isAgg 46).run Tryz.prog w=.ok true w:=by kernel_rfl
theorem vz_V (w:World):(Go.sizeOf 46).run Tryz.prog w=.ok 7 w:=by kernel_rfl
theorem qnj (d:VC) : ∀v ∈ d.cells,v.oneCell'=true:=by
 intro v hv;simp only [VC.cells,List.mem_cons,List.not_mem_nil,or_false]at hv;rcases hv with rfl|rfl|rfl|rfl|rfl|rfl|rfl <;> rfl
theorem qj3 {l:List Value} (h : ∀v ∈ l,v.oneCell'=true):l.toArray.all (·.oneCell')=true:=by
 rw [Array.all_eq_true_iff_forall_mem];intro v hv;exact h v (by simpa using hv)
def KeepC (n:Nat):Prop := ∀(A:Nat->Prop) (mk:Nat) (d:VC) (cv:CV) (v:Value) (m:List PMask) (w:World),(∀b,A b->b<w.heap.size)->ValC A n w d cv->MaskD A mk w v m->WdV 1034834473170 n cv->Calls Tryz.prog 33 #[.agg d.cells.toArray,v] w (qnp A n w (keep n cv m))
theorem qjj (n:Nat) (A:Nat->Prop) (d:VC) (cv:CV) (v:Value) (m:List PMask) (w0:World) (hd:ValC A (n+1) w0 d cv) (hv : ∃p c,v=.slice p m.length c) (hk:d.k ≠ 10):Calls Tryz.prog 33 #[.agg #[.int .i64 d.k,.int .u64 d.b,.string (S d.t),.slice d.p1 d.n1 d.c1,.slice d.p2 d.n2 d.c2,.slice d.p3 d.n3 d.c3,.slice d.p4 d.n4 d.c4],v] w0 (qnp A (n+1) w0 cv):=by
 obtain⟨vp,vc,rfl⟩:=hv;have hkb:(d.k != 10)=true:=bne_t hk;have hS0':=((ST.start w0).addbox #[.int .i64 d.k,.int .u64 d.b,.string (S d.t),.slice d.p1 d.n1 d.c1,.slice d.p2 d.n2 d.c2,.slice d.p3 d.n3 d.c3,.slice d.p4 d.n4 d.c4] 46).addbox #[.int .i64 d.k,.int .u64 d.b,.string (S d.t),.slice d.p1 d.n1 d.c1,.slice d.p2 d.n2 d.c2,.slice d.p3 d.n3 d.c3,.slice d.p4 d.n4 d.c4] 46;simp only [World.size_alloc]at hS0';have hS0:=Lib.hid hS0';have HD:=Lib.hid hd;clear hk hd hS0'
 go_enter Tryz.func33,Tryz.ntmps33
 go_wp2;refine bodyPost_ret (v:=.agg #[.int .i64 d.k,.int .u64 d.b,.string (S d.t),.slice d.p1 d.n1 d.c1,.slice d.p2 d.n2 d.c2,.slice d.p3 d.n3 d.c3,.slice d.p4 d.n4 d.c4]) ?hres1 rfl ?hpost1
 case hres1=>exact results_cell_row rfl _ _ _ _ _ _ _ rfl (hS0.out.box 0 rfl) Tryz.underlying46 rfl vr_V
 case hpost1=>exact⟨d,rfl,(HD.out.bel hS0.out.bel).weak (fun b hb _=>.inl hb),hS0.out.bel⟩
theorem qhi (n:Nat) (IH:KeepC n):KeepC (n+1):=by
 intro A mk d cv v m w0 hA hd hm hwd;by_cases hk:d.k=10
 ·obtain⟨sl,rw0,rfl⟩ : ∃sl rw0,cv=.msg sl rw0:=by
   have:=hd.msg.1 hk;cases cv with
   | msg sl rw0=>exact⟨sl,rw0,rfl⟩
   | scalar a b c=>cases this
   | list a=>cases this
   | map a=>cases this
  obtain⟨_,hsl,_⟩:=hd;have DM:=Lib.hid (MaskD.up hm);obtain⟨vp,vc,rfl⟩:=hm.form;have HA0:=Lib.hid hA;have HK:=Lib.hid hk;obtain⟨lp,lc,hlv,hll,hlc,hel⟩:=hsl;have EL:=Lib.hid hel;have WD:=Lib.hid hwd;have V:=Lib.hid (show([]:List SE).map (·.x) ++ (sl.drop 0).filterMap (keepO (keep n) m)=sl.filterMap (keepO (keep n) m)from rfl);have hkw : ∀T,T=sl.filterMap (keepO (keep n) m)->keep (n+1) (.msg sl rw0) m=.msg T []:=fun T e=>by subst e;rfl
  have hke:=hkw _ rfl;generalize sl.filterMap (keepO (keep n) m)=T at V hke;rw [hke];have hslb:sl.length<=1034834473170:=hwd.1;obtain⟨i1,hi1,hy0,hy1,hy2⟩:=info_parts qi7;have hd3:(Value.slice d.p3 d.n3 d.c3)=.slice lp sl.length lc:=hlv;injection hd3 with hp3 hn3 hc3
  have hS0':=((ST.start w0).addbox #[.int .i64 d.k,.int .u64 d.b,.string (S d.t),.slice d.p1 d.n1 d.c1,.slice d.p2 d.n2 d.c2,.slice d.p3 d.n3 d.c3,.slice d.p4 d.n4 d.c4] 46).addbox #[.int .i64 0,.int .u64 0,.string ⟨#[]⟩,.slice none 0 0,.slice none 0 0,.slice none 0 0,.slice none 0 0] 46;simp only [World.size_alloc]at hS0';have hS1':=(hS0'.setbox 1 rfl 5 (.slice none 0 0)).setbox 1 rfl 6 (.slice none 0 0);clear hkw hke hm hA hwd hel hlv hk;show Calls _ _ #[.agg #[.int .i64 d.k,.int .u64 d.b,.string (S d.t),.slice d.p1 d.n1 d.c1,.slice d.p2 d.n2 d.c2,.slice d.p3 d.n3 d.c3,.slice d.p4 d.n4 d.c4],_] _ _
  rw [HK.out,hp3,hn3,hc3]
  go_enter Tryz.func33,Tryz.ntmps33
  have hT':=((ST.start w0).addbox #[.int .i64 10,.int .u64 d.b,.string (S d.t),.slice d.p1 d.n1 d.c1,.slice d.p2 d.n2 d.c2,.slice none 0 0,.slice none 0 0] 46).addbox #[.int .i64 0,.int .u64 0,.string ⟨#[]⟩,.slice none 0 0,.slice none 0 0,.slice none 0 0,.slice none 0 0] 46;simp only [World.size_alloc]at hT';have HT:=Lib.hid (show ST w0 [sedge (.slice none 0 0) []] [⟨w0.heap.size+1,#[.int .i64 0,.int .u64 0,.string ⟨#[]⟩,.slice none 0 0,.slice none 0 0,.slice none 0 0,.slice none 0 0],46⟩,⟨w0.heap.size,#[.int .i64 10,.int .u64 d.b,.string (S d.t),.slice d.p1 d.n1 d.c1,.slice d.p2 d.n2 d.c2,.slice none 0 0,.slice none 0 0],46⟩] _ from hT'.nilrow 73 8);clear hS0' hS1' hT' hp3 hn3 hc3;go_wp2
  go_loopw [20] (fun i wr => ∃(k:Nat) (L:List SE) (vo:Value),k<=sl.length/\i=.int .i64 k/\Hid (ST w0 [sedge vo L] [⟨w0.heap.size+1,#[.int .i64 0,.int .u64 0,.string ⟨#[]⟩,.slice none 0 0,.slice none 0 0,.slice none 0 0,.slice none 0 0],46⟩,⟨w0.heap.size,#[.int .i64 10,.int .u64 d.b,.string (S d.t),.slice d.p1 d.n1 d.c1,.slice d.p2 d.n2 d.c2,vo,.slice none 0 0],46⟩] wr)/\L.length<=k/\Hid (SRowOK A (w0.heap.size+2) n vo L wr)/\Hid (L.map (·.x) ++ (sl.drop k).filterMap (keepO (keep n) m)=T)) (fun i _=>sl.length-(intOf i).toNat)
  case atStart=>exact⟨0,[],_,by omega,rfl,HT,by simp,Lib.hid (SRowOK.nil _ _ _ _ _),V⟩
  case round=>as_aux_lemma=>
   clear V HT;obtain⟨k,L,vo,hk,rfl,hS,hLk,hO,hx⟩:=hrel;obtain⟨qo,co,hvo⟩:=qap (hS.out.row 0 rfl);dsimp only [sedge]at hvo;subst hvo;by_cases hlt:k<sl.length
   ·obtain⟨b,off,vs,rfl,hbs,hab,hce,dx,hvs,hdx⟩:=EL.out k _ (List.getElem?_eq_getElem hlt)
    have hki:(k:Int)<(sl.length:Int):=by omega
    have hst:=hx.out;rw [fm_at hlt]at hst;have WX:=Lib.hid (WD.out.2 _ (List.getElem_mem hlt));clear hx hab EL;generalize sl[k]=x at *;have HVS:=Lib.hid hvs;have HC:=Lib.hid (fun i v hi=>hS.out.bel.some (hce i v hi));have HDX:=Lib.hid (show ValC A n w0 dx x.2 from hdx);have HX:=Lib.hid (hS.out.addbox vs.toArray 73);have hl8:vs.length=8:=by rw [hvs];rfl
    have HL:=Lib.hid hl8;have Z0:vs.toArray.size=8:=by rw [List.size_toArray];exact hl8
    have Z1:=Lib.hid (show(Tryz.prog.info? 73).map (·.size)=some vs.toArray.size by rw [Z0];exact ar_S);have Z2:=Lib.hid (show(#[.int .i64 0,.int .i64 0,.int .u64 0,.string ⟨#[]⟩,.slice none 0 0,.slice none 0 0,.slice none 0 0,.slice none 0 0]:Array Value).size=vs.toArray.size by rw [Z0];rfl);have HO1:=Lib.hid (show ∀u ∈ vs,u.oneCell'=true by rw [hvs];exact qi8 ⟨x,dx⟩);have HOA:=Lib.hid (qj3 HO1.out);have x0:=(HX.out.cell 0 rfl 0).trans (show vs.toArray[0]? = some (.int .i64 x.1)by rw [hvs];rfl);dsimp only at x0;have O0:=hO;have H0:=hS;have CF0:MaskD A (mk+1) (wr.alloc (.cells vs.toArray 73)) (.slice vp m.length vc) m:=DM.out.bel HX.out.bel;clear hce hvs hdx hS hO hl8 Z0;cases hz:find m x.1 with
    | none=>
     have CF:=Lib.hid (qb8 hz _ CF0);have hp:keepO (keep n) m x=none:=by unfold keepO;rw [hz];rfl
     rw [hp,Option.toList_none,List.nil_append]at hst;have HST:=Lib.hid hst;clear hst hz hp CF0
     go_wp2_with (first
      | (refine qae rfl 73 _ rfl b (off+k*8) 8 vs rfl HC.out ag_S sz_S HL.out ?_)
      | (refine qa3 (old:=#[.int .i64 0,.int .i64 0,.int .u64 0,.string ⟨#[]⟩,.slice none 0 0,.slice none 0 0,.slice none 0 0,.slice none 0 0]) rfl 73 _ _ rfl wr rfl wr.heap.size rfl vs.toArray rfl rfl Z1.out Z2.out HOA.out ?_)
      | (go_at_call 45;(with_reducible refine CF.out.mono ?_);rintro e w1 ⟨fp,fc,rfl,k1⟩;have k1:Bel _ w1:=k1;have k2:=Lib.hid (Bel.of ((Bel.refl wr).alloc _) (Bel.alloc k1 (.cells #[.int .i64 0,.slice fp 0 fc] 61)));clear k1))
     go_roundw
     case rel=>exact⟨k+1,L,_,by omega,by go_num,Lib.hid (H0.out.belw k2.out),by omega,Lib.hid (O0.out.bel k2.out),HST⟩
     case measure=>simp [intOf];omega
    | some y=>
     have CF:=Lib.hid (qb7 hz _ CF0);have hp:keepO (keep n) m x=some (if whole y then x else(x.1,keep n x.2 y.subs)):=by unfold keepO;rw [hz];rfl
     rw [hp]at hst;clear hz hp CF0;cases hwy:whole y with
     | true=>
      rw [hwy,if_pos rfl]at hst;have HST:=Lib.hid hst;have CX:=Lib.hid (fun p c W=>qa9 hwy p c W);clear hst hwy
      go_upto_region 12 with(first
       | (refine qae rfl 73 _ rfl b (off+k*8) 8 vs rfl HC.out ag_S sz_S HL.out ?_)
       | (refine qa3 (old:=#[.int .i64 0,.int .i64 0,.int .u64 0,.string ⟨#[]⟩,.slice none 0 0,.slice none 0 0,.slice none 0 0,.slice none 0 0]) rfl 73 _ _ rfl wr rfl wr.heap.size rfl vs.toArray rfl rfl Z1.out Z2.out HOA.out ?_)
       | (go_at_call 45;(with_reducible refine CF.out.mono ?_);rintro e w1 ⟨fp,fc,rfl,hfd,k1⟩;have k1:Bel _ w1:=k1;have H1:=Lib.hid ((HX.out.belw k1).addbox #[.int .i64 y.num,.slice fp y.subs.length fc] 61);have K1:=Lib.hid (Bel.of ((Bel.refl wr).alloc _) (Bel.alloc k1 (.cells #[.int .i64 y.num,.slice fp y.subs.length fc] 61)));have FD1:=Lib.hid (hfd.bel ((Bel.refl _).alloc (.cells #[.int .i64 y.num,.slice fp y.subs.length fc] 61)));clear k1 hfd)
       | (go_at_call 28;(with_reducible refine(CX.out _ _ _).mono ?_);rintro e w2 ⟨rfl,k2⟩;have k2:Bel _ w2:=k2;have H2:=Lib.hid (H1.out.belw k2);have K2:=Lib.hid (Bel.of K1.out k2);have FD2:=Lib.hid (FD1.out.bel k2);have HB2:=Lib.hid (H2.out.box 1 rfl);clear k2))
      have FSZ:=Z2;have FSE:=Lib.hid (show vs=seC ⟨x,dx⟩from HVS.out);have FL8:=HL;have FO1:=HO1;have FZ1:=Z1;have FBX:=HB2;have O2:=Lib.hid (O0.out.bel K2.out);have DX2:=Lib.hid (HDX.out.bel H2.out.bel);have v5:=H2.out.cell 3 rfl 5;dsimp only at v5;have hfold:List.foldl (fun(cs:Array Value) (x:Value × Nat)=>cs.setIfInBounds x.snd x.fst) #[.int .i64 0,.int .i64 0,.int .u64 0,.string ⟨#[]⟩,.slice none 0 0,.slice none 0 0,.slice none 0 0,.slice none 0 0] vs.zipIdx=vs.toArray:=qdn FSZ.out;have hl8:vs.length=8:=FL8.out;have HB:=Lib.hid (H2.out.belw ((Bel.refl w2).alloc (.cells vs.toArray 73)));have OB:=Lib.hid (O2.out.bel ((Bel.refl w2).alloc (.cells vs.toArray 73)));have EB:=Lib.hid (qk9 (A:=A) (N:=w0.heap.size+2) (v:=.slice qo L.length co) (e:=⟨x,dx⟩) (HDX.out.bel HB.out.bel));have FL8':=Lib.hid (show vs.length=1*8 from FL8.out)
      go_wp2_with (first
       | (refine qa5 rfl 73 _ rfl wr.heap.size vs.toArray 73 rfl FBX.out _ Tryz.underlying73 rfl FZ1.out ?_)
       | (at_builtin;refine wpList_append_lies _ rfl _ _ 43 rfl w0.heap.size 73 i1 (.agg #[.int .i64 0,.int .i64 0,.int .u64 0,.string ⟨#[]⟩,.slice none 0 0,.slice none 0 0,.slice none 0 0,.slice none 0 0]) 8 136 Tryz.underlying43 hi1 hy0 hy1 hy2 rfl (by decide) _ L.length _ rfl (HB.out.row 0 rfl) ⟨w2.heap.size,0,none⟩ 1 1 vs rfl FL8'.out (qbc _ _ _) FO1.out (by decide) (by unfold maxLen;omega) (by omega) HB.out.bel.size (w2.heap.size+1) (by simp) ?_))
      intro g9 cap9 w9 hown hgrow hfr hlt9;rw [FSE.out]at hown;have OO:=Lib.hid (SRowOK.snoc (e:=⟨x,dx⟩) (m:=L.length+1) (c:=cap9) OB.out HB.out HA0.out EB.out hgrow hfr (by simp));have HH:=Lib.hid (qd3 (e:=⟨x,dx⟩) (HB.out.grow 0 rfl hgrow hown (qby hfr (by simp))));have v9:=HH.out.cell 3 rfl 5;have f9:=HH.out.frz 3 rfl 5;dsimp only at v9 f9;have HF:=Lib.hid (HH.out.setbox 3 rfl 5 (.slice (some ⟨g9,0,none⟩) (L.length+1) cap9));have OF:=Lib.hid (OO.out.kept (qft (g:=w0.heap.size) (o:=5) (u:=.slice (some ⟨g9,0,none⟩) (L.length+1) cap9) HA0.out (by omega)));clear hown hgrow hfr hfold v5;go_wp2;go_roundw
      case rel=>exact⟨k+1,L ++ [⟨x,dx⟩],_,by omega,by go_num,Lib.hid HF.out.dropbox0.dropbox0,by rw [List.length_append,List.length_singleton];omega,OF,by simpa using HST⟩
      case measure=>simp [intOf];omega
     | false=>
      rw [hwy,if_neg Bool.false_ne_true]at hst;have CX:=Lib.hid (fun p c W=>qa9 hwy p c W);have CI:=Lib.hid (fun W (k:Bel w0 W) v1 (h:MaskD A mk W v1 y.subs)=>IH A mk dx x.2 v1 y.subs W (fun b hb=>Nat.lt_of_lt_of_le (HA0.out b hb) k.size) (HDX.out.bel k) h WX.out);have FDm:=CF;generalize keep n x.2 y.subs=cv' at CI hst;have HST:=Lib.hid hst;clear hst hwy IH WX
      go_upto_region 12 with(first
       | (refine qae rfl 73 _ rfl b (off+k*8) 8 vs rfl HC.out ag_S sz_S HL.out ?_)
       | (refine qa3 (old:=#[.int .i64 0,.int .i64 0,.int .u64 0,.string ⟨#[]⟩,.slice none 0 0,.slice none 0 0,.slice none 0 0,.slice none 0 0]) rfl 73 _ _ rfl wr rfl wr.heap.size rfl vs.toArray rfl rfl Z1.out Z2.out HOA.out ?_)
       | (go_at_call 45;(with_reducible refine CF.out.mono ?_);rintro e w1 ⟨fp,fc,rfl,hfd,k1⟩;have k1:Bel _ w1:=k1;have H1:=Lib.hid ((HX.out.belw k1).addbox #[.int .i64 y.num,.slice fp y.subs.length fc] 61);have K1:=Lib.hid (Bel.of ((Bel.refl wr).alloc _) (Bel.alloc k1 (.cells #[.int .i64 y.num,.slice fp y.subs.length fc] 61)));have FD1:=Lib.hid (hfd.bel ((Bel.refl _).alloc (.cells #[.int .i64 y.num,.slice fp y.subs.length fc] 61)));clear k1 hfd)
       | (go_at_call 28;(with_reducible refine(CX.out _ _ _).mono ?_);rintro e w2 ⟨rfl,k2⟩;have k2:Bel _ w2:=k2;have H2:=Lib.hid (H1.out.belw k2);have K2:=Lib.hid (Bel.of K1.out k2);have FD2:=Lib.hid (FD1.out.bel k2);have HC7:=Lib.hid (show ∀i u,dx.cells[i]? = some u->w2.cell? ⟨wr.heap.size,1+i,none⟩=some u from fun i u hu=>(H2.out.cell 1 rfl (1+i)).trans (by rw [HVS.out];show(Value.int .i64 x.1 :: dx.cells).toArray[1+i]? = some u;rw [Nat.add_comm,List.getElem?_toArray,List.getElem?_cons_succ];exact hu));have y1:=H2.out.cell 0 rfl 1;dsimp only at y1;have ZL9:=Lib.hid (show 1+(7:Nat)<=vs.toArray.size by rw [List.size_toArray,HL.out];decide);clear k2)
       | (refine qae rfl 46 _ rfl wr.heap.size 1 7 dx.cells rfl HC7.out vg_V vz_V rfl ?_)
       | (go_at_call 33;(with_reducible refine(CI.out _ H2.out.bel _ FD2.out).mono ?_);rintro e w4 ⟨d',rfl,hv4,k4⟩;have k4:Bel _ w4:=k4;have H4:=Lib.hid (H2.out.belw k4);have K4:=Lib.hid (Bel.of K2.out k4);have MV4:=Lib.hid hv4;have HB4:=Lib.hid (H4.out.box 1 rfl);clear k4 hv4)
       | (refine qed rfl 46 _ _ rfl wr.heap.size 1 vs.toArray (seC ⟨(x.1,cv'),d'⟩).toArray d'.cells 73 rfl rfl HB4.out vr_V ZL9.out (qnj d') (by rw [HVS.out];rfl) ?_))
      have HZ:=Lib.hid (H4.out.setrowbox 1 rfl (seC ⟨(x.1,cv'),d'⟩).toArray);have hwb:wr.heap.size<w2.heap.size:=(H2.out.boxlt 1 rfl).2
      have hw0:w0.heap.size+2<=wr.heap.size:=by
       have:=(H0.out.boxlt 0 rfl).2;dsimp only at this;omega
      have hgr:=qbr w4 wr.heap.size (seC ⟨(x.1,cv'),d'⟩).toArray;have OZ:=Lib.hid (show SRowOK A (w0.heap.size+2) n (.slice qo L.length co) L _ from O0.out.bel (Below.grown K4.out hgr K4.out.size (fun k hk=>by cases hk;exact Nat.le_refl _)))
      have MZ:=Lib.hid (ValC.weak (A':=Off A (w0.heap.size+2) (.slice qo L.length co)) (MV4.out.kept (Keep.grown hgr (fun b hb e=>by
       have e2:b=wr.heap.size:=by injection e
       rcases hb with hb|hb
       ·have:=HA0.out b hb
        omega
       ·omega))) (fun b hb _=>qka H2.out (by omega) hb))
      generalize hwz:World.setRow _ _ _=wz at HZ OZ MZ ⊢;clear hwz hgr;generalize hxb:wr.heap.size=xb at HZ ⊢;clear hxb;obtain⟨vs2,hv2⟩ : ∃vs2,vs2=seC ⟨(x.1,cv'),d'⟩:=⟨_,rfl⟩;rw [←hv2]at HZ;have FSE:=Lib.hid hv2;have FL8:=Lib.hid (show vs2.length=8 by rw [hv2];rfl);have FSZ:=Lib.hid (show(#[.int .i64 0,.int .i64 0,.int .u64 0,.string ⟨#[]⟩,.slice none 0 0,.slice none 0 0,.slice none 0 0,.slice none 0 0]:Array Value).size=vs2.toArray.size by rw [hv2];rfl);have FO1:=Lib.hid (show ∀u ∈ vs2,u.oneCell'=true by rw [hv2];exact qi8 ⟨(x.1,cv'),d'⟩);have FZ1:=Lib.hid (show(Tryz.prog.info? 73).map (·.size)=some vs2.toArray.size by rw [hv2];exact ar_S);have FBX:=Lib.hid (HZ.out.box 1 rfl);clear hv2;have v5:=HZ.out.cell 3 rfl 5;dsimp only at v5;have hfold:List.foldl (fun(cs:Array Value) (x:Value × Nat)=>cs.setIfInBounds x.snd x.fst) #[.int .i64 0,.int .i64 0,.int .u64 0,.string ⟨#[]⟩,.slice none 0 0,.slice none 0 0,.slice none 0 0,.slice none 0 0] vs2.zipIdx=vs2.toArray:=qdn FSZ.out;have hl8:vs2.length=8:=FL8.out;have HB:=Lib.hid (HZ.out.belw ((Bel.refl wz).alloc (.cells vs2.toArray 73)));have OB:=Lib.hid (OZ.out.bel ((Bel.refl wz).alloc (.cells vs2.toArray 73)));have EB:=Lib.hid ((MZ.out.bel ((Bel.refl wz).alloc (.cells vs2.toArray 73)):SEok (Off A (w0.heap.size+2) (.slice qo L.length co)) n (wz.alloc (.cells vs2.toArray 73)) ⟨(x.1,cv'),d'⟩));have FL8':=Lib.hid (show vs2.length=1*8 from FL8.out)
      go_wp2_with (first
       | (refine qa5 rfl 73 _ rfl xb vs2.toArray 73 rfl FBX.out _ Tryz.underlying73 rfl FZ1.out ?_)
       | (at_builtin;refine wpList_append_lies _ rfl _ _ 43 rfl w0.heap.size 73 i1 (.agg #[.int .i64 0,.int .i64 0,.int .u64 0,.string ⟨#[]⟩,.slice none 0 0,.slice none 0 0,.slice none 0 0,.slice none 0 0]) 8 136 Tryz.underlying43 hi1 hy0 hy1 hy2 rfl (by decide) _ L.length _ rfl (HB.out.row 0 rfl) ⟨wz.heap.size,0,none⟩ 1 1 vs2 rfl FL8'.out (qbc _ _ _) FO1.out (by decide) (by unfold maxLen;omega) (by omega) HB.out.bel.size (wz.heap.size+1) (by simp) ?_))
      intro g9 cap9 w9 hown hgrow hfr hlt9;rw [FSE.out]at hown;have OO:=Lib.hid (SRowOK.snoc (e:=⟨(x.1,cv'),d'⟩) (m:=L.length+1) (c:=cap9) OB.out HB.out HA0.out EB.out hgrow hfr (by simp));have HH:=Lib.hid (qd3 (e:=⟨(x.1,cv'),d'⟩) (HB.out.grow 0 rfl hgrow hown (qby hfr (by simp))));have v9:=HH.out.cell 3 rfl 5;have f9:=HH.out.frz 3 rfl 5;dsimp only at v9 f9;have HF:=Lib.hid (HH.out.setbox 3 rfl 5 (.slice (some ⟨g9,0,none⟩) (L.length+1) cap9));have OF:=Lib.hid (OO.out.kept (qft (g:=w0.heap.size) (o:=5) (u:=.slice (some ⟨g9,0,none⟩) (L.length+1) cap9) HA0.out (by omega)));clear hown hgrow hfr hfold v5;go_wp2;go_roundw
      case rel=>exact⟨k+1,L ++ [⟨(x.1,cv'),d'⟩],_,by omega,by go_num,Lib.hid HF.out.dropbox0.dropbox0,by rw [List.length_append,List.length_singleton];omega,OF,by simpa using HST⟩
      case measure=>simp [intOf];omega
   ·have hkl:k=sl.length:=by omega
    have hzT:L.map (·.x)=T:=by have:=hx.out;rw [hkl,List.drop_length]at this;simpa using this
    subst hzT;clear hx EL;have v0:=hS.out.cell 1 rfl 0;have v1:=hS.out.cell 1 rfl 1;have v2:=hS.out.cell 1 rfl 2;have v3:=hS.out.cell 1 rfl 3;have v4:=hS.out.cell 1 rfl 4;have v5:=hS.out.cell 1 rfl 5;have v6:=hS.out.cell 1 rfl 6;dsimp only at v0 v1 v2 v3 v4 v5 v6;have HBr:=Lib.hid (hS.out.box 0 rfl);have HD7:=Lib.hid (show ∀u ∈ (⟨10,d.b,d.t,d.p1,d.n1,d.c1,d.p2,d.n2,d.c2,qo,L.length,co,none,0,0⟩:VC).cells,u.oneCell'=true from qnj _)
    go_wp2_with (refine qab rfl 46 _ _ rfl (w0.heap.size+1) (⟨10,d.b,d.t,d.p1,d.n1,d.c1,d.p2,d.n2,d.c2,qo,L.length,co,none,0,0⟩:VC).cells.toArray _ 46 rfl rfl HBr.out vr_V rfl (qj3 HD7.out) ?_)
    have HZ:=Lib.hid (hS.out.setrowbox 0 rfl (⟨10,d.b,d.t,d.p1,d.n1,d.c1,d.p2,d.n2,d.c2,qo,L.length,co,none,0,0⟩:VC).cells.toArray)
    have OZ:=Lib.hid (hO.out.kept (Keep.grown (qbr wr (w0.heap.size+1) (⟨10,d.b,d.t,d.p1,d.n1,d.c1,d.p2,d.n2,d.c2,qo,L.length,co,none,0,0⟩:VC).cells.toArray) (fun b hb e=>by
     have e2:b=w0.heap.size+1:=by injection e
     rcases hb with hb|hb
     ·have:=HA0.out b hb
      omega
     ·omega)))
    refine bodyPost_ret (v:=.agg (⟨10,d.b,d.t,d.p1,d.n1,d.c1,d.p2,d.n2,d.c2,qo,L.length,co,none,0,0⟩:VC).cells.toArray) ?hres2 rfl ?hpost2
    case hres2=>exact results_cell_row rfl _ _ _ _ _ _ _ rfl (HZ.out.box 0 rfl) Tryz.underlying46 rfl vr_V
    case hpost2=>exact⟨(⟨10,d.b,d.t,d.p1,d.n1,d.c1,d.p2,d.n2,d.c2,qo,L.length,co,none,0,0⟩:VC),rfl,⟨rfl,qi6 (HZ.out.row 0 rfl) (by omega) OZ.out (fun b hb=>hb.imp id (fun h=>by omega)) (fun b hb=>.inr hb),SlA.nil _ _ _ _ _ _⟩,HZ.out.bel⟩
 ·have hkv:keep (n+1) cv m=cv:=by
   cases cv with
   | msg sl rw0=>exact absurd hd.1 hk
   | scalar a b c=>rfl
   | list a=>rfl
   | map a=>rfl
  rw [hkv];exact qjj n A d cv v m w0 hd hm.form hk
theorem mk_Keep : ∀n:Nat,KeepC n
 | 0=>fun _ _ _ _ _ _ _ _ h=>h.elim
 | n+1=>qhi n (mk_Keep n)
end
section
open Go.RowKit Ma
def SameC (n:Nat):Prop := ∀(A1 A2:Nat->Prop) (v1 v2:Value) (a b:List PMask) (w:World),MaskD A1 n w v1 a->MaskD A2 n w v2 b->Calls Tryz.prog 14 #[v1,v2] w fun e w'=>e=.returned (.bool (samB n a b))/\Bel w w'
theorem qj8:SameC 0:=by
 intro A1 A2 v1 v2 a b w0 ha hb;obtain⟨rfl,p,c,rfl⟩:=ha;obtain⟨rfl,p2,c2,rfl⟩:=hb;show Calls _ _ _ _ fun e w'=>e=.returned (.bool true)/\Bel w0 w'
 go_enter Tryz.func14,Tryz.ntmps14
 go_wp2
 go_loopw [5] (fun i wr=>i=.int .i64 0/\Hid (Bel w0 wr)) (fun i _=>0)
 case atStart=>exact⟨rfl,Lib.hid (Bel.refl _)⟩
 case round=>
  obtain⟨rfl,hS⟩:=hrel;go_wp2;go_ret;exact⟨rfl,hS.out⟩
theorem qha (n:Nat) (II:SameC n):SameC (n+1):=by
 intro A1 A2 v1 v2 a b w0 ha hb;obtain⟨p,c,rfl,hl,hcap,hel⟩:=ha;obtain⟨p2,c2,rfl,hl2,hcap2,hel2⟩:=hb;have EL:=Lib.hid hel;have EL2:=Lib.hid hel2;have V:=Lib.hid (show samL (samB n) (a.drop 0) (b.drop 0)=samB (n+1) a b from rfl);have V0:=Lib.hid (show samL (samB n) a b=samB (n+1) a b from rfl);generalize samB (n+1) a b=Z at V V0;clear hel hcap hel2 hcap2;have CI:=Lib.hid (fun W v1 v2 a b h1 h2=>II A1 A2 v1 v2 a b W h1 h2);clear II;by_cases hle:a.length=b.length
 ·have hli:((a.length:Int) != (b.length:Int))=false:=by rw [hle];simp
  have hl1:a.length<=b.length:=by omega
  have HLE:=Lib.hid hle;clear V0 hle
  go_enter Tryz.func14,Tryz.ntmps14
  go_wp2
  go_loopw [5] (fun i wr => ∃k:Nat,k<=a.length/\i=.int .i64 k/\Hid (Bel w0 wr)/\Hid (samL (samB n) (a.drop k) (b.drop k)=Z)) (fun i _=>a.length-(intOf i).toNat)
  case atStart=>exact⟨0,by omega,rfl,Lib.hid (Bel.refl _),V⟩
  case round=>as_aux_lemma=>
   clear V;obtain⟨k,hk,rfl,hS,hx⟩:=hrel;by_cases hlt:k<a.length
   ·have hlt2:k<b.length:=by omega
    obtain⟨g,off,sv,rfl,hbs,hab,hc0,hc1,hd⟩:=EL.out k _ (List.getElem?_eq_getElem hlt);obtain⟨g2,off2,sv2,rfl,hbs2,hab2,hd0,hd1,he⟩:=EL2.out k _ (List.getElem?_eq_getElem hlt2);obtain⟨sp,sc,rfl⟩:=hd.form;obtain⟨sp2,sc2,rfl⟩:=he.form;have hki:(k:Int)<(a.length:Int):=by omega
    have hki2:(k:Int)<(b.length:Int):=by omega
    have hst:=hx.out;rw [samL_at hlt hlt2]at hst;clear hx EL EL2;generalize a[k]=x at *;generalize b[k]=y at *
    go_upto_region 6 with(fail)
    obtain⟨wd,hwd⟩ : ∃wd,wd=wr.drew:=⟨_,rfl⟩;have KD:=Lib.hid (show Bel w0 wd by rw [hwd];exact hS.out.drew);have HWD:=Lib.hid hwd;clear hwd hS;have e0:=KD.out.some hc0;have e1:=KD.out.some hc1;have u0:=KD.out.some hd0;have u1:=KD.out.some hd1;clear hc0 hc1 hd0 hd1 hab hab2;by_cases hn:x.num=y.num
    ·have hnb:(x.num != y.num)=false:=bne_f hn
     rw [if_pos hn]at hst;have CS:=Lib.hid (CI.out wd _ _ x.subs y.subs (hd.bel KD.out) (he.bel KD.out));generalize samB n x.subs y.subs=C at CS hst;clear hn;refine qag 22 (by kernel_rfl) (by kernel_rfl) HWD.out ?_
     (simp only [List.take_succ_cons,List.take_zero,List.drop_succ_cons,List.drop_zero]);(repeat (first|((with_reducible refine wpStill_step (fun K hK=>?_));go_simp;(with_reducible refine hK _ ?_);clear hK K)|((with_reducible refine qah ?_ ?_);(with_unfolding_all rfl);(simp only [Act.put,List.setIfInBounds_toArray,List.set_cons_zero,List.set_cons_succ]))));(with_reducible refine wpStill_nil ?_)
     cases C with
     | true=>
      rw [if_pos rfl]at hst;have HST:=Lib.hid hst;clear hst
      go_wp2_with (go_at_call 14;(with_reducible refine CS.out.mono ?_);rintro e w1 ⟨rfl,k1⟩;have K1:=Lib.hid (Bel.of KD.out k1);clear k1)
      go_roundw
      case rel=>exact⟨k+1,by omega,by go_num,K1,HST⟩
      case measure=>simp [intOf];omega
     | false=>
      rw [if_neg Bool.false_ne_true]at hst;subst hst
      go_wp2_with (go_at_call 14;(with_reducible refine CS.out.mono ?_);rintro e w1 ⟨rfl,k1⟩;have K1:=Lib.hid (Bel.of KD.out k1);clear k1)
      go_ret;exact⟨rfl,K1.out⟩
    ·have hnb:(x.num != y.num)=true:=bne_t hn
     rw [if_neg hn]at hst;subst hst;clear hn;refine qag 22 (by kernel_rfl) (by kernel_rfl) HWD.out ?_
     (simp only [List.take_succ_cons,List.take_zero,List.drop_succ_cons,List.drop_zero]);(repeat (first|((with_reducible refine wpStill_step (fun K hK=>?_));go_simp;(with_reducible refine hK _ ?_);clear hK K)|((with_reducible refine qah ?_ ?_);(with_unfolding_all rfl);(simp only [Act.put,List.setIfInBounds_toArray,List.set_cons_zero,List.set_cons_succ]))));(with_reducible refine wpStill_nil ?_)
     go_wp2;go_ret
     exact⟨rfl,KD.out⟩
   ·have hkl:k=a.length:=by omega
    have hz:true=Z:=by have:=hx.out;rw [hkl,List.drop_length,HLE.out,List.drop_length]at this;exact this
    subst hz;clear hx;go_wp2;go_ret;exact⟨rfl,hS.out⟩
 ·have hli:((a.length:Int) != (b.length:Int))=true:=bne_t (by omega)
  have hz:false=Z:=by rw [←V0.out,qkd hle]
  subst hz;clear V V0 hle
  go_enter Tryz.func14,Tryz.ntmps14
  go_wp2;go_ret
  exact⟨rfl,Bel.refl _⟩
theorem qkg : ∀n:Nat,SameC n
 | 0=>qj8
 | n+1=>qha n (qkg n)
end
section
open Go.RowKit Ma
theorem len_pos {l:List PMask} (h:l ≠ []):0<l.length/\(0:Int)<(l.length:Int)/\((l.length:Int) == 0)=false/\((l.length:Int) != 0)=true:=by
 have h0:0<l.length:=List.length_pos_iff.2 h;exact⟨h0,by omega,ine (by omega),bne_t (by omega)⟩
theorem ql9 {l:List PMask} (h:l=[]):decide (0<l.length)=false/\((l.length:Int) == 0)=true/\decide ((0:Int)<(l.length:Int))=false:=by
 subst h;exact⟨rfl,rfl,rfl⟩
end
end Go.Proofs.YtaaneecceiefoaaGreatDoor
