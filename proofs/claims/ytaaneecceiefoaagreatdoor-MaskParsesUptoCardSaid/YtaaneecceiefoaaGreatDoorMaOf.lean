import Derived.Test.YtaaneecceiefoaaGreatDoorMaFindS
import Derived.Test.YtaaneecceiefoaaGreatDoorMaKeep
set_option maxRecDepth 100000
set_option maxHeartbeats 4000000
set_option linter.unusedVariables false
set_option linter.unusedSimpArgs false
namespace Go.Proofs.YtaaneecceiefoaaGreatDoor
open Go.RowKit Ck Ma
def ofF (E:Env) (n:Nat) (sl:List (Int × CV)) (f:PField):Option PMask:=(qip sl f.num).map fun v=>PMask.mk f.num (if qax f then ofV E n f.tn v else [])
theorem fm_congr {α β:Type} {f g:α->Option β} : ∀{l:List α},(∀x ∈ l,f x=g x)->l.filterMap f=l.filterMap g
 | [],_=>rfl
 | x :: l,h=>by
  rw [List.filterMap_cons,List.filterMap_cons,h x (List.mem_cons_self ..),fm_congr (fun y hy=>h y (List.mem_cons_of_mem _ hy))]
theorem of_eq {s:PSchema} {name:Str} {m:PMsg} (hm:msgOf s name=some m) (hF : ∀f ∈ m.fields,qai m f.num=some f) (n:Nat) (sl:List (Int × CV)) (rw0:List PRaw):ofV (envOf s) (n+1) name (.msg sl rw0)=m.fields.filterMap (ofF (envOf s) n sl):=by
 show(if(msgOf s name).isSome=true then((((msgOf s name).map fun m=>m.fields.map (·.num)).getD []).filterMap _)else [])=_
 rw [hm];show(m.fields.map (·.num)).filterMap _=_
 rw [List.filterMap_map];refine fm_congr fun f hf=>?_
 have h1:(envOf s).fld name f.num=some (qax f,f.tn):=by rw [fld_of hm,hF f hf];rfl
 show(qip sl f.num).map _=(qip sl f.num).map _
 congr 1
 funext v
 show PMask.mk f.num (if(((envOf s).fld name f.num).map (·.1)).getD false=true then ofV (envOf s) n ((envOf s).ty name f.num) v else [])=_
 have h2:(envOf s).ty name f.num=f.tn:=by unfold Env.ty;rw [h1];rfl
 rw [h2,h1];rfl
def Fine (s:PSchema):Prop := ∀m ∈ s.msgs,m.fields.length<=1000000000/\∀f ∈ m.fields,qai m f.num=some f
def OfC (n:Nat):Prop := ∀(A:Nat->Prop) (mv ev sv:Value) (s:PSchema) (name:Str) (d:VC) (cv:CV) (w:World),VSchema w [mv,ev,sv] s->Fine s->ValC A n w d cv->Calls Tryz.prog 18 #[.agg #[mv,ev,sv],.string (S name),.agg d.cells.toArray] w (qbm (fun _=>False) n w (ofV (envOf s) n name cv))
theorem qnc (n:Nat) (mv ev sv:Value) (s:PSchema) (name:Str) (hm:msgOf s name=none) (d:VC) (w0:World) (hs:VSchema w0 [mv,ev,sv] s):Calls Tryz.prog 18 #[.agg #[mv,ev,sv],.string (S name),.agg #[.int .i64 d.k,.int .u64 d.b,.string (S d.t),.slice d.p1 d.n1 d.c1,.slice d.p2 d.n2 d.c2,.slice d.p3 d.n3 d.c3,.slice d.p4 d.n4 d.c4]] w0 (qbm (fun _=>False) n w0 []):=by
 have CM0:=Lib.hid (fun W (k:Bel w0 W)=>qbt mv ev sv s name w0 W k hs);rw [hm]at CM0;obtain⟨_,_,_,he,hm,hev,hsv⟩:=hs;cases he;obtain⟨q2,c2,rfl,hl2⟩:=qa5 hev;obtain⟨q3,c3,rfl,hl3⟩:=qa5 hsv;obtain⟨q1,c1,rfl,hl1⟩:=qa5 hm;clear hm hev hsv;have hS0':=(((ST.start w0).addbox #[.slice q1 s.msgs.length c1,.slice q2 s.enums.length c2,.slice q3 s.svcs.length c3] 26).addbox #[.int .i64 d.k,.int .u64 d.b,.string (S d.t),.slice d.p1 d.n1 d.c1,.slice d.p2 d.n2 d.c2,.slice d.p3 d.n3 d.c3,.slice d.p4 d.n4 d.c4] 46);simp only [World.size_alloc]at hS0';have hS0:=Lib.hid hS0';clear hm hS0'
 go_enter Tryz.func18,Tryz.ntmps18
 go_wp2_with (first
  | (go_at_call 26;(with_reducible refine(CM0.out _ hS0.out.bel).mono ?_);rintro e w1 ⟨vm,rfl,hvs,k1⟩;have k1:Bel _ w1:=k1;have hv0:vm=zMsg:=hvs;subst hv0;have H1:=Lib.hid ((hS0.out.belw k1).addbox zMsg.toArray 57);clear k1 hvs)
  | (refine qa3 (old:=#[.string ⟨#[]⟩,.slice none 0 0,.slice none 0 0,.slice none 0 0,.slice none 0 0]) rfl 57 _ _ rfl w1 rfl w1.heap.size rfl zMsg.toArray rfl rfl ar_M rfl (by simp [zMsg,Value.oneCell']) ?_))
 go_ret;exact⟨_,rfl,MaskD.nil _ _,H1.out.bel⟩
theorem qph (n:Nat) (mv ev sv:Value) (s:PSchema) (name:Str) (m:PMsg) (hm:msgOf s name=some m) (d:VC) (hk:d.k ≠ 10) (w0:World) (hs:VSchema w0 [mv,ev,sv] s):Calls Tryz.prog 18 #[.agg #[mv,ev,sv],.string (S name),.agg #[.int .i64 d.k,.int .u64 d.b,.string (S d.t),.slice d.p1 d.n1 d.c1,.slice d.p2 d.n2 d.c2,.slice d.p3 d.n3 d.c3,.slice d.p4 d.n4 d.c4]] w0 (qbm (fun _=>False) n w0 []):=by
 have CM0:=Lib.hid (fun W (k:Bel w0 W)=>qbt mv ev sv s name w0 W k hs);rw [hm]at CM0;have hkb:(d.k != 10)=true:=bne_t hk;obtain⟨_,_,_,he,hm,hev,hsv⟩:=hs;cases he;obtain⟨q2,c2,rfl,hl2⟩:=qa5 hev;obtain⟨q3,c3,rfl,hl3⟩:=qa5 hsv;obtain⟨q1,c1,rfl,hl1⟩:=qa5 hm;clear hm hev hsv;have hS0':=(((ST.start w0).addbox #[.slice q1 s.msgs.length c1,.slice q2 s.enums.length c2,.slice q3 s.svcs.length c3] 26).addbox #[.int .i64 d.k,.int .u64 d.b,.string (S d.t),.slice d.p1 d.n1 d.c1,.slice d.p2 d.n2 d.c2,.slice d.p3 d.n3 d.c3,.slice d.p4 d.n4 d.c4] 46);simp only [World.size_alloc]at hS0';have hS0:=Lib.hid hS0';clear hm hS0' hk
 go_enter Tryz.func18,Tryz.ntmps18
 go_upto_region 2 with(first
  | (go_at_call 26;(with_reducible refine(CM0.out _ hS0.out.bel).mono ?_);rintro e w1 ⟨vm,rfl,hvs,k1⟩;have k1:Bel _ w1:=k1;obtain⟨hlen,hone⟩:=qbq hvs;have HVS:=Lib.hid hvs;have Z0:vm.toArray.size=5:=(by rw [List.size_toArray];exact hlen);have Z1:=Lib.hid (show(Tryz.prog.info? 57).map (·.size)=some vm.toArray.size by rw [Z0];exact ar_M);have Z2:=Lib.hid (show(#[.string ⟨#[]⟩,.slice none 0 0,.slice none 0 0,.slice none 0 0,.slice none 0 0]:Array Value).size=vm.toArray.size by rw [Z0];rfl);have HO:=Lib.hid hone;clear hlen hone Z0 hvs;have H1:=Lib.hid ((hS0.out.belw k1).addbox vm.toArray 57);clear k1)
  | (refine qa3 (old:=#[.string ⟨#[]⟩,.slice none 0 0,.slice none 0 0,.slice none 0 0,.slice none 0 0]) rfl 57 _ _ rfl w1 rfl w1.heap.size rfl vm.toArray rfl rfl Z1.out Z2.out HO.out ?_))
 have kv:=H1.out.cell 1 rfl 0;dsimp only at kv;go_wp2;go_ret;exact⟨_,rfl,MaskD.nil _ _,H1.out.bel⟩
theorem qnb (n:Nat) (IH:OfC n):OfC (n+1):=by
 intro A mv ev sv s name d cv w0 hs hF hd;show Calls _ _ #[.agg #[mv,ev,sv],.string (S name),.agg #[.int .i64 d.k,.int .u64 d.b,.string (S d.t),.slice d.p1 d.n1 d.c1,.slice d.p2 d.n2 d.c2,.slice d.p3 d.n3 d.c3,.slice d.p4 d.n4 d.c4]] _ _
 cases hm:msgOf s name with
 | none=>
  have hr:ofV (envOf s) (n+1) name cv=[]:=by
   cases cv with
   | msg sl rw0=>
    show(if(msgOf s name).isSome=true then _ else [])=_
    rw [hm];rfl
   | _=>rfl
  rw [hr];exact qnc (n+1) mv ev sv s name hm d w0 hs
 | some m=>
  by_cases hk:d.k=10
  ·obtain⟨sl,rw0,rfl⟩ : ∃sl rw0,cv=.msg sl rw0:=by
    have:=hd.msg.1 hk;cases cv with
    | msg sl rw0=>exact⟨sl,rw0,rfl⟩
    | scalar a b c=>cases this
    | list a=>cases this
    | map a=>cases this
   obtain⟨hB,hFl⟩:=hF m (List.mem_of_find?_eq_some hm);rw [of_eq hm hFl];have HS:=Lib.hid (fun(W:World) (k:Bel w0 W)=>VSchema.staysB hs k);have CM0:=Lib.hid (fun W (k:Bel w0 W)=>qbt mv ev sv s name w0 W k hs);rw [hm]at CM0;obtain⟨_,_,_,he,hm,hev,hsv⟩:=hs;cases he;obtain⟨q2,c2,rfl,hl2⟩:=qa5 hev;obtain⟨q3,c3,rfl,hl3⟩:=qa5 hsv;obtain⟨q1,c1,rfl,hl1⟩:=qa5 hm;clear hm hev hsv;obtain⟨_,hsl,_⟩:=hd;have hsl0:SlA A 8 (VSlot A n) w0 (.slice d.p3 d.n3 d.c3) sl:=hsl;obtain⟨lp,lc,hlv,_,_,_⟩:=hsl;have hd3:(Value.slice d.p3 d.n3 d.c3)=.slice lp sl.length lc:=hlv;rw [hd3]at hsl0;injection hd3 with hp3 hn3 hc3
   have CFi:=Lib.hid (fun W q (k:Bel w0 W)=>mk_findS A n _ sl q w0 W k hsl0);rw [hk,hp3,hn3,hc3];obtain⟨i1,hi1,hy0,hy1,hy2⟩:=info_parts qce;have V:=Lib.hid (show([]:List ME).map (·.x) ++ (m.fields.drop 0).filterMap (fun f=>ofF (envOf s) n sl f)=m.fields.filterMap (ofF (envOf s) n sl)from rfl);generalize m.fields.filterMap (ofF (envOf s) n sl)=Z at V;have HFi:=Lib.hid hF;have hS0':=(((ST.start w0).addbox #[.slice q1 s.msgs.length c1,.slice q2 s.enums.length c2,.slice q3 s.svcs.length c3] 26).addbox #[.int .i64 10,.int .u64 d.b,.string (S d.t),.slice d.p1 d.n1 d.c1,.slice d.p2 d.n2 d.c2,.slice lp sl.length lc,.slice d.p4 d.n4 d.c4] 46);simp only [World.size_alloc]at hS0';have hS0:=Lib.hid hS0';clear hk hp3 hn3 hc3 hlv hsl0 hS0' hF hFl hm
   go_enter Tryz.func18,Tryz.ntmps18
   go_upto_region 2 with(first
    | (go_at_call 26;(with_reducible refine(CM0.out _ hS0.out.bel).mono ?_);rintro e w1 ⟨vm,rfl,hvs,k1⟩;have k1:Bel _ w1:=k1;have HVM:=Lib.hid (show VMsg _ vm m from hvs);obtain⟨hlen,hone⟩:=qbq hvs;have HVS:=Lib.hid hvs;have Z0:vm.toArray.size=5:=(by rw [List.size_toArray];exact hlen);have Z1:=Lib.hid (show(Tryz.prog.info? 57).map (·.size)=some vm.toArray.size by rw [Z0];exact ar_M);have Z2:=Lib.hid (show(#[.string ⟨#[]⟩,.slice none 0 0,.slice none 0 0,.slice none 0 0,.slice none 0 0]:Array Value).size=vm.toArray.size by rw [Z0];rfl);have HO:=Lib.hid hone;clear hlen hone Z0 hvs;have H1:=Lib.hid ((hS0.out.belw k1).addbox vm.toArray 57);clear k1)
    | (refine qa3 (old:=#[.string ⟨#[]⟩,.slice none 0 0,.slice none 0 0,.slice none 0 0,.slice none 0 0]) rfl 57 _ _ rfl w1 rfl w1.heap.size rfl vm.toArray rfl rfl Z1.out Z2.out HO.out ?_))
   generalize hwz:World.alloc w1 _=wz at H1 ⊢;clear hwz;generalize hmb:w1.heap.size=mb at H1 ⊢;clear hmb HVS HO Z2 Z1 CM0 hS0;obtain⟨fv,_,_,_,hvv,hfl,_⟩:=HVM.out;obtain⟨f1,d1,rfl,_⟩:=qa5 hfl;obtain⟨_,_,hq,hl,hcap,hel⟩:=hfl;cases hq;have EL:=Lib.hid hel;have m1:=(H1.out.cell 0 rfl 1).trans (show vm.toArray[1]? = some (.slice f1 m.fields.length d1)by rw [hvv];rfl);have kv:=H1.out.cell 1 rfl 0;dsimp only at m1 kv;have HT:=Lib.hid (H1.out.nilrow 61 2);clear hel hcap hvv H1 HVM;go_wp2
   go_loopw [9,31] (fun vo i wr => ∃(k:Nat) (L:List ME),k<=m.fields.length/\i=.int .i64 k/\Hid (ST w0 [medge vo L] [⟨mb,vm.toArray,57⟩,⟨w0.heap.size+1,#[.int .i64 10,.int .u64 d.b,.string (S d.t),.slice d.p1 d.n1 d.c1,.slice d.p2 d.n2 d.c2,.slice lp sl.length lc,.slice d.p4 d.n4 d.c4],46⟩,⟨w0.heap.size,#[.slice q1 s.msgs.length c1,.slice q2 s.enums.length c2,.slice q3 s.svcs.length c3],26⟩] wr)/\L.length<=k/\Hid (RowOK (fun _=>False) w0.heap.size n vo L wr)/\Hid (L.map (·.x) ++ (m.fields.drop k).filterMap (fun f=>ofF (envOf s) n sl f)=Z)) (fun _ i _=>m.fields.length-(intOf i).toNat)
   case atStart=>exact⟨0,[],by omega,rfl,HT,by simp,Lib.hid (RowOK.nil _ _ _ _ _),V⟩
   case round=>as_aux_lemma=>
    clear V HT m1 kv;obtain⟨k,L,hk,rfl,hS,hLk,hO,hx⟩:=hrel;obtain⟨qo,co,hvo⟩:=qan (hS.out.row 0 rfl);dsimp only [medge]at hvo;subst hvo;by_cases hlt:k<m.fields.length
    ·obtain⟨b,off,rfl,hbs,vs,hce,hvs⟩:=EL.out k _ (List.getElem?_eq_getElem hlt)
     have hki:(k:Int)<(m.fields.length:Int):=by omega
     have hst:=hx.out;rw [fm_at hlt]at hst;have hlen:=VField.len _ _ _ hvs;have HL:=Lib.hid hlen;have HO:=Lib.hid (VField.one _ _ _ hvs);have HC:=Lib.hid (fun i v hi=>hS.out.bel.some (hce i v hi));have Z0:vs.toArray.size=16:=by rw [List.size_toArray];exact hlen
     have Z1:=Lib.hid (show(Tryz.prog.info? 65).map (·.size)=some vs.toArray.size by rw [Z0];exact ar_F);have Z2:=Lib.hid (show(#[.int .i64 0,.string ⟨#[]⟩,.int .i64 0,.int .i64 0,.int .i64 0,.string ⟨#[]⟩,.string ⟨#[]⟩,.bool false,.int .i64 0,.int .u64 0,.string ⟨#[]⟩,.slice none 0 0,.slice none 0 0,.slice none 0 0,.slice none 0 0,.slice none 0 0]:Array Value).size=vs.toArray.size by rw [Z0];rfl);have HX:=Lib.hid (hS.out.addbox vs.toArray 65);have x0:=(HX.out.cell 0 rfl 0).trans (VField.at hvs).1;have v5:=HX.out.cell 2 rfl 5;dsimp only at x0 v5;have HVF:=Lib.hid hvs;have H0:=hS;have O0:=hO;clear hce hlen Z0 hx hS hO hvs;generalize m.fields[k]=f at *;have HF5:=Lib.hid (VField.at HVF.out).2.2.2.2;have CS:=Lib.hid (fun W=>qgw (f:=f) (vs:=vs) W HVF.out);have CFi:=Lib.hid (fun W (k:Bel w0 W)=>CFi.out W f.num k);cases hz:sl.find? (fun x=>decide (x.1=f.num))with
     | none=>
      have hp:ofF (envOf s) n sl f=none:=by unfold ofF qip;rw [hz];rfl
      rw [hp,Option.toList_none,List.nil_append]at hst;have HST:=Lib.hid hst;rw [hz]at CFi;clear hst hz hp
      go_wp2_with (first
       | (refine qaa rfl 65 _ rfl b (off+k*16) 16 vs rfl HC.out ag_F sz_F HL.out ?_)
       | (refine qa3 (old:=#[.int .i64 0,.string ⟨#[]⟩,.int .i64 0,.int .i64 0,.int .i64 0,.string ⟨#[]⟩,.string ⟨#[]⟩,.bool false,.int .i64 0,.int .u64 0,.string ⟨#[]⟩,.slice none 0 0,.slice none 0 0,.slice none 0 0,.slice none 0 0,.slice none 0 0]) rfl 65 _ _ rfl wr rfl wr.heap.size rfl vs.toArray rfl rfl Z1.out Z2.out HO.out ?_)
       | (go_at_call 43;(with_reducible refine(CFi.out _ HX.out.bel).mono ?_);rintro e w1 ⟨vx,rfl,hvx,k1⟩;have k1:Bel _ w1:=k1;have H1:=Lib.hid ((HX.out.belw k1).addbox vx.toArray 73);have K1:=Lib.hid (Bel.of ((Bel.refl wr).alloc _) (Bel.alloc k1 (.cells vx.toArray 73)));have hv0:vx=zSlot:=hvx;subst hv0;clear hvx;clear k1)
       | (refine qa3 (old:=#[.int .i64 0,.int .i64 0,.int .u64 0,.string ⟨#[]⟩,.slice none 0 0,.slice none 0 0,.slice none 0 0,.slice none 0 0]) rfl 73 _ _ rfl w1 rfl w1.heap.size rfl zSlot.toArray rfl rfl ar_S rfl (by simp [zSlot,Value.oneCell']) ?_))
      go_roundw
      case rel=>exact⟨k+1,L,by omega,by go_num,Lib.hid H1.out.dropbox0.dropbox0,by omega,Lib.hid (O0.out.bel K1.out),HST⟩
      case measure=>simp [intOf];omega
     | some x=>
      have hp:ofF (envOf s) n sl f=some (.mk f.num (if qax f then ofV (envOf s) n f.tn x.2 else [])):=by unfold ofF qip;rw [hz];rfl
      rw [hp]at hst;rw [hz]at CFi;clear hz hp
      go_upto_region 10 with(first
       | (refine qaa rfl 65 _ rfl b (off+k*16) 16 vs rfl HC.out ag_F sz_F HL.out ?_)
       | (refine qa3 (old:=#[.int .i64 0,.string ⟨#[]⟩,.int .i64 0,.int .i64 0,.int .i64 0,.string ⟨#[]⟩,.string ⟨#[]⟩,.bool false,.int .i64 0,.int .u64 0,.string ⟨#[]⟩,.slice none 0 0,.slice none 0 0,.slice none 0 0,.slice none 0 0,.slice none 0 0]) rfl 65 _ _ rfl wr rfl wr.heap.size rfl vs.toArray rfl rfl Z1.out Z2.out HO.out ?_)
       | (go_at_call 43;(with_reducible refine(CFi.out _ HX.out.bel).mono ?_);rintro e w1 ⟨vx,rfl,hvx,k1⟩;have k1:Bel _ w1:=k1;have H1:=Lib.hid ((HX.out.belw k1).addbox vx.toArray 73);have K1:=Lib.hid (Bel.of ((Bel.refl wr).alloc _) (Bel.alloc k1 (.cells vx.toArray 73)));have HVX:=Lib.hid (show VSlot A n w0 vx x from hvx);have hxl:vx.length=8:=(by obtain⟨_,h,_⟩:=hvx;rw [h];rfl);have X0:vx.toArray.size=8:=(by rw [List.size_toArray];exact hxl);have X1:=Lib.hid (show(Tryz.prog.info? 73).map (·.size)=some vx.toArray.size by rw [X0];exact ar_S);have X2:=Lib.hid (show(#[.int .i64 0,.int .i64 0,.int .u64 0,.string ⟨#[]⟩,.slice none 0 0,.slice none 0 0,.slice none 0 0,.slice none 0 0]:Array Value).size=vx.toArray.size by rw [X0];rfl);have XO:=Lib.hid (qgk (show ∀u ∈ vx,u.oneCell'=true by obtain⟨dd,h,_⟩:=hvx;rw [h];exact qgd ⟨x,dd⟩));clear hvx hxl X0;clear k1)
       | (refine qa3 (old:=#[.int .i64 0,.int .i64 0,.int .u64 0,.string ⟨#[]⟩,.slice none 0 0,.slice none 0 0,.slice none 0 0,.slice none 0 0]) rfl 73 _ _ rfl w1 rfl w1.heap.size rfl vx.toArray rfl rfl X1.out X2.out XO.out ?_))
      generalize hwa:World.alloc w1 _=w2 at H1 K1 ⊢;clear hwa x0 v5;generalize hxb:w1.heap.size=xb at H1 ⊢;clear hxb;have x0:=(H1.out.cell 1 rfl 0).trans (VField.at HVF.out).1;dsimp only at x0
      go_upto_region 11 with(fail)
      have H2:=Lib.hid (H1.out.addbox #[.int .i64 f.num,.slice none 0 0] 61);have K2:=Lib.hid (K1.out.alloc (.cells #[.int .i64 f.num,.slice none 0 0] 61));generalize hwb:World.alloc w2 _=w2b at H2 K2 ⊢;clear hwb x0;have KBL:=Lib.hid (show wr.heap.size<=w2.heap.size from K1.out.size);generalize hkb:w2.heap.size=kb at H2 KBL ⊢;clear hkb;have HBf:=Lib.hid (H2.out.box 2 rfl);cases hsf:qax f with
      | false=>
       rw [hsf]at CS hst;have HST:=Lib.hid (show L.map (·.x) ++ ([PMask.mk f.num []] ++ (m.fields.drop (k+1)).filterMap (fun f=>ofF (envOf s) n sl f))=Z from hst);clear hst hsf
       go_upto_region 13 with(first
        | (refine qa6 rfl 65 _ rfl wr.heap.size vs.toArray 65 rfl HBf.out _ Tryz.underlying65 rfl Z1.out ?_)
        | (go_at_call 29;(with_reducible refine(CS.out _).mono ?_);rintro e w3 ⟨rfl,k3⟩;have k3:Bel _ w3:=k3;have H3:=Lib.hid (H2.out.belw k3);have K3:=Lib.hid (Bel.of K2.out k3);have m0:=H3.out.cell 0 rfl 0;have m1:=H3.out.cell 0 rfl 1;dsimp only at m0 m1;clear k3))
       have H5:=Lib.hid (H3.out.belw ((Bel.refl w3).alloc (.cells #[.int .i64 f.num,.slice none 0 0] 61)));have O5:=Lib.hid ((O0.out.bel K3.out).bel ((Bel.refl w3).alloc (.cells #[.int .i64 f.num,.slice none 0 0] 61)))
       go_wp2_with (at_builtin;refine wpList_append_lies _ rfl _ _ 27 rfl w0.heap.size 61 i1 (.agg #[.int .i64 0,.slice none 0 0]) 2 32 Tryz.underlying27 hi1 hy0 hy1 hy2 rfl (by decide) _ L.length _ rfl (H5.out.row 0 rfl) ⟨w3.heap.size,0,none⟩ 1 1 [.int .i64 f.num,.slice none 0 0] rfl rfl (qau _ _ _) (by simp [Value.oneCell']) (by decide) (by unfold maxLen;omega) (by omega) H5.out.bel.size (w3.heap.size+1) (by simp) ?_)
       intro g4 cap4 w4 hown hgrow hfr hlt4;have O4:=Lib.hid (RowOK.snoc (e:=allE f) (m:=L.length+1) (c:=cap4) O5.out H5.out (fun b hb=>hb.elim) (MaskD.nil n _) hgrow hfr (by simp));have H4:=Lib.hid (qah (e:=allE f) (H5.out.grow 0 rfl hgrow hown (qbc hfr (by simp))));clear hown hgrow hfr;go_wp2;go_roundw
       case rel=>exact⟨k+1,L ++ [allE f],by omega,by go_num,Lib.hid H4.out.dropbox0.dropbox0.dropbox0,by rw [List.length_append,List.length_singleton];omega,O4,by simpa [allE]using HST⟩
       case measure=>simp [intOf];omega
      | true=>
       rw [hsf]at CS hst;obtain⟨dx,hvx,hdx⟩:=HVX.out;have CI:=Lib.hid (fun W (k:Bel w0 W)=>IH A (.slice q1 s.msgs.length c1) (.slice q2 s.enums.length c2) (.slice q3 s.svcs.length c3) s f.tn dx x.2 W (HS.out W k) HFi.out (hdx.bel k));have hst2:L.map (·.x) ++ ([PMask.mk f.num (ofV (envOf s) n f.tn x.2)] ++ (m.fields.drop (k+1)).filterMap (fun f=>ofF (envOf s) n sl f))=Z:=hst;generalize ofV (envOf s) n f.tn x.2=M at CI hst2;unfold qbm at CI;have HST:=Lib.hid hst2;clear hst hst2 hsf IH
       go_upto_region 12 with(first
        | (refine qa6 rfl 65 _ rfl wr.heap.size vs.toArray 65 rfl HBf.out _ Tryz.underlying65 rfl Z1.out ?_)
        | (go_at_call 29;(with_reducible refine(CS.out _).mono ?_);rintro e w3 ⟨rfl,k3⟩;have k3:Bel _ w3:=k3;have H3:=Lib.hid (H2.out.belw k3);have K3:=Lib.hid (Bel.of K2.out k3);have m0:=H3.out.cell 0 rfl 0;have m1:=H3.out.cell 0 rfl 1;dsimp only at m0 m1;clear k3))
       clear m0 m1;have t0:=H3.out.cell 5 rfl 0;have t1:=H3.out.cell 5 rfl 1;have t2:=H3.out.cell 5 rfl 2;have t5:=(H3.out.cell 2 rfl 5).trans HF5.out;dsimp only at t0 t1 t2 t5;have HC7:=Lib.hid (show ∀i u,dx.cells[i]? = some u->w3.cell? ⟨xb,1+i,none⟩=some u from fun i u hu=>(H3.out.cell 1 rfl (1+i)).trans (by rw [hvx];show(Value.int .i64 x.1 :: dx.cells).toArray[1+i]? = some u;rw [Nat.add_comm,List.getElem?_toArray,List.getElem?_cons_succ];exact hu))
       go_upto_region 13 with(first
        | (refine qaa rfl 46 _ rfl xb 1 7 dx.cells rfl HC7.out vg_V vz_V rfl ?_)
        | (go_at_call 18;(with_reducible refine(CI.out _ H3.out.bel).mono ?_);rintro e w4 ⟨mv',rfl,hmd,k4⟩;have k4:Bel _ w4:=k4;obtain⟨mp,mc,hmv⟩:=hmd.form;subst hmv;have H4:=Lib.hid (H3.out.belw k4);have K4:=Lib.hid (Bel.of K3.out k4);have MD4:=Lib.hid hmd;have hkb:=(H4.out.boxlt 0 rfl);clear t0 t1 t2 t5;have m0:=H4.out.cell 0 rfl 0;have m1:=H4.out.cell 0 rfl 1;have mf:=H4.out.frz 0 rfl 1;dsimp only at m0 m1 mf;clear k4 hmd))
       have hk3:wr.heap.size<=kb:=KBL.out;have H6:=Lib.hid (show ST w0 [medge (.slice qo L.length co) L] (⟨kb,#[.int .i64 f.num,.slice mp M.length mc],61⟩ :: ⟨xb,vx.toArray,73⟩ :: ⟨wr.heap.size,vs.toArray,65⟩ :: [⟨mb,vm.toArray,57⟩,⟨w0.heap.size+1,#[.int .i64 10,.int .u64 d.b,.string (S d.t),.slice d.p1 d.n1 d.c1,.slice d.p2 d.n2 d.c2,.slice lp sl.length lc,.slice d.p4 d.n4 d.c4],46⟩,⟨w0.heap.size,#[.slice q1 s.msgs.length c1,.slice q2 s.enums.length c2,.slice q3 s.svcs.length c3],26⟩]) _ from H4.out.setbox 0 rfl 1 (.slice mp M.length mc));have K6:=Lib.hid (show Bel wr (w4.setCell ⟨kb,1,none⟩ (.slice mp M.length mc))from qbf K4.out hk3);have MD6:=Lib.hid (MaskD.weak (A':=Off (fun _=>False) w0.heap.size (.slice qo L.length co)) ((MD4.out.weak (A':=fun b=>w3.heap.size<=b) (fun b hb _=>hb.elim False.elim id)).kept (Keep.grown (qb2 w4 kb 1 (.slice mp M.length mc)) (fun b hb e=>by have e2:b=kb:=(by injection e);have:=(H3.out.boxlt 0 rfl).2;dsimp only at this;omega))) (fun b hb _=>qcv H3.out (.inr hb)));generalize hwc:World.setCell w4 _ _=w6 at H6 K6 MD6 ⊢;clear hwc m0 m1 mf;have m0:=H6.out.cell 0 rfl 0;have m1:=H6.out.cell 0 rfl 1;dsimp only at m0 m1;have H7:=Lib.hid (H6.out.belw ((Bel.refl w6).alloc (.cells #[.int .i64 f.num,.slice mp M.length mc] 61)));have O7:=Lib.hid ((O0.out.bel K6.out).bel ((Bel.refl w6).alloc (.cells #[.int .i64 f.num,.slice mp M.length mc] 61)));have MD7:=Lib.hid (MaskD.bel MD6.out ((Bel.refl w6).alloc (.cells #[.int .i64 f.num,.slice mp M.length mc] 61)))
       go_wp2_with (at_builtin;refine wpList_append_lies _ rfl _ _ 27 rfl w0.heap.size 61 i1 (.agg #[.int .i64 0,.slice none 0 0]) 2 32 Tryz.underlying27 hi1 hy0 hy1 hy2 rfl (by decide) _ L.length _ rfl (H7.out.row 0 rfl) ⟨w6.heap.size,0,none⟩ 1 1 [.int .i64 f.num,.slice mp M.length mc] rfl rfl (qau _ _ _) (by simp [Value.oneCell']) (by decide) (by unfold maxLen;omega) (by omega) H7.out.bel.size (w6.heap.size+1) (by simp) ?_)
       intro g8 cap8 w8 hown hgrow hfr hlt8;have O8:=Lib.hid (RowOK.snoc (e:=⟨.mk f.num M,mp,mc⟩) (m:=L.length+1) (c:=cap8) O7.out H7.out (fun b hb=>hb.elim) MD7.out hgrow hfr (by simp));have H8:=Lib.hid (qah (e:=⟨.mk f.num M,mp,mc⟩) (H7.out.grow 0 rfl hgrow hown (qbc hfr (by simp))));clear hown hgrow hfr;go_wp2;go_roundw
       case rel=>exact⟨k+1,L ++ [⟨.mk f.num M,mp,mc⟩],by omega,by go_num,Lib.hid H8.out.dropbox0.dropbox0.dropbox0,by rw [List.length_append,List.length_singleton];omega,O8,by simpa using HST⟩
       case measure=>simp [intOf];omega
    ·have hkl:k=m.fields.length:=by omega
     have hki : ¬(k:Int)<(m.fields.length:Int):=by omega
     have hz:L.map (·.x)=Z:=by have:=hx.out;rw [hkl,List.drop_length]at this;simpa using this
     have HR:=Lib.hid (qd3 hS.out hO.out (by omega) hz);clear hx;go_wp2;go_ret;exact⟨_,rfl,HR.out,hS.out.bel⟩
  ·have hr:ofV (envOf s) (n+1) name cv=[]:=by
    cases cv with
    | msg sl rw0=>exact absurd (hd.msg.2 rfl) hk
    | _=>rfl
   rw [hr];exact qph (n+1) mv ev sv s name m hm d hk w0 hs
theorem mk_Of : ∀n:Nat,OfC n
 | 0=>fun _ _ _ _ _ _ _ _ _ _ _ h=>h.elim
 | n+1=>qnb n (mk_Of n)
end Go.Proofs.YtaaneecceiefoaaGreatDoor
