import Derived.Test.YtaaneecceiefoaaGreatDoorMaPgo
import Derived.Test.YtaaneecceiefoaaGreatDoorMaCheck
import Derived.Test.YtaaneecceiefoaaGreatDoorMaNorm
set_option maxRecDepth 100000
set_option maxHeartbeats 4000000
set_option linter.unusedVariables false
set_option linter.unusedSimpArgs false
namespace Go.Proofs.YtaaneecceiefoaaGreatDoor
open Go.RowKit Ck Ma
def PathOut (w0:World) (R:Int × List PField) (e:Ending) (w':World):Prop := ∃v,e=.returned (.tuple #[v,.int .i64 R.1])/\∃L:List FE,ST w0 [frow v L] [] w'/\(∀x ∈ L,FEok x)/\L.map (·.f)=R.2
theorem qbp {w0 w:World} {c:Int} (h:Bel w0 w):PathOut w0 (c,[]) (.returned (.tuple #[.slice none 0 0,.int .i64 c])) w:=⟨_,rfl,[],((ST.start w0).nilrow 65 16).belw h,fun x hx=>(by cases hx),rfl⟩
theorem ds_Path (mv ev sv:Value) (s:PSchema) (name t:Str) (w0:World) (hs:VSchema w0 [mv,ev,sv] s) (hM:ML w0) (ht:t.length<=1000000) :
  Calls Tryz.prog 60 #[.agg #[mv,ev,sv],.string (S name),.string (S t)] w0 (PathOut w0 (pathR s name t)):=by
 obtain⟨i1,hi1,hy0,hy1,hy2⟩:=info_parts fld_info;have CM0:=Lib.hid (fun W (k:Bel w0 W) q=>qc1 mv ev sv s q w0 W k hs);obtain⟨_,_,_,he,hm,hev,hsv⟩:=hs;cases he;obtain⟨q2,c2,rfl,hl2⟩:=qa6 hev;obtain⟨q3,c3,rfl,hl3⟩:=qa6 hsv;obtain⟨q1,c1,rfl,hl1⟩:=qa6 hm;clear hm hev hsv;have hS0:=Lib.hid ((ST.start w0).addbox #[.slice q1 s.msgs.length c1,.slice q2 s.enums.length c2,.slice q3 s.svcs.length c3] 26);have HML:=Lib.hid hM;clear hM;by_cases ht0:t=[]
 ·have hr:pathR s name t=(1,[]):=by unfold pathR;rw [if_pos ht0]
  rw [hr];have hte:(S t).toList=[]:=by rw [ByteArray.toList_eq,qcb,ht0]
  have hte2:(S t).toList.isEmpty=true:=by rw [ByteArray.toList_eq,qcb,ht0];rfl
  clear ht0 hr CM0
  go_enter Tryz.func60,Tryz.ntmps60
  go_wp2;go_ret2
  exact qbp hS0.out.bel
 ·have hte:(S t).toList ≠ []:=by rw [ByteArray.toList_eq,qcb];exact ht0
  have hte2:(S t).toList.isEmpty=false:=by rw [ByteArray.toList_eq,qcb];simpa using ht0
  cases hm:msgOf s name with
  | none=>
   have hr:pathR s name t=(10,[]):=by unfold pathR;rw [if_neg ht0,hm];rfl
   rw [hr];have CM1:=Lib.hid (fun W k=>CM0.out W k name);rw [hm]at CM1;clear hr hm ht0
   go_enter Tryz.func60,Tryz.ntmps60
   go_wp2_with (first
    | (go_at_call 26;(with_reducible refine(CM1.out _ hS0.out.bel).mono ?_);rintro e w1 ⟨vm,rfl,hvs,k1⟩;have k1:Bel _ w1:=k1;have hv0:vm=zMsg:=hvs;subst hv0;have H1:=Lib.hid ((hS0.out.belw k1).addbox zMsg.toArray 57);clear k1 hvs)
    | (refine qa3 (old:=#[.string ⟨#[]⟩,.slice none 0 0,.slice none 0 0,.slice none 0 0,.slice none 0 0]) rfl 57 _ _ rfl w1 rfl w1.heap.size rfl zMsg.toArray rfl rfl ar_M rfl (by simp [zMsg,Value.oneCell']) ?_))
   go_ret2;exact qbp H1.out.bel
  | some m=>
   have V:=Lib.hid (show pgo s name [] none ((Id.cut 46 t).drop 0)=pathR s name t by unfold pathR;rw [if_neg ht0,hm];rfl);generalize pathR s name t=R at V;have CM1:=Lib.hid (fun W k=>CM0.out W k name);rw [hm]at CM1;have HM:=Lib.hid hm;have CSp:=Lib.hid (fun W (k:Bel w0 W)=>qhn (S t) 46 t W (qcb _) (by rw [qdg];omega) (by obtain⟨q,hq⟩:=HML.out;exact⟨q,k.some hq⟩));have hpl:(Id.cut 46 t).length<=1000001:=by rw [qbf];have:=qd7 46 t;omega
   generalize Id.cut 46 t=ps at V CSp hpl;clear hm ht0
   go_enter Tryz.func60,Tryz.ntmps60
   go_upto_region 4 with(first
    | (go_at_call 26;(with_reducible refine(CM1.out _ hS0.out.bel).mono ?_);rintro e w1 ⟨vm,rfl,hvs,k1⟩;have k1:Bel _ w1:=k1;have HVM:=Lib.hid (show VMsg w0 vm m from hvs);obtain⟨hlen,hone⟩:=qcr hvs;have HVS:=Lib.hid hvs;have Z0:vm.toArray.size=5:=(by rw [List.size_toArray];exact hlen);have Z1:=Lib.hid (show(Tryz.prog.info? 57).map (·.size)=some vm.toArray.size by rw [Z0];exact ar_M);have Z2:=Lib.hid (show(#[.string ⟨#[]⟩,.slice none 0 0,.slice none 0 0,.slice none 0 0,.slice none 0 0]:Array Value).size=vm.toArray.size by rw [Z0];rfl);have HO:=Lib.hid hone;clear hlen hone Z0 hvs;have H1:=Lib.hid ((hS0.out.belw k1).addbox vm.toArray 57);clear k1)
    | (refine qa3 (old:=#[.string ⟨#[]⟩,.slice none 0 0,.slice none 0 0,.slice none 0 0,.slice none 0 0]) rfl 57 _ _ rfl w1 rfl w1.heap.size rfl vm.toArray rfl rfl Z1.out Z2.out HO.out ?_))
   generalize hwz:World.alloc w1 _=wz at H1 ⊢;clear hwz;generalize hmb:w1.heap.size=mb at H1 ⊢;clear hmb HVS HO Z2 CM1
   go_upto_region 7 with(fail)
   have C7:=Lib.hid (CSp.out wz H1.out.bel);have H2':=H1.out.addbox (ps.map strV).toArray 9;have H2:=Lib.hid H2';have hpz:(ps.map strV).toArray.size=ps.length:=by simp
   go_wp2_with (go_at_call 35;(with_reducible refine C7.out.mono ?_);rintro e w2 ⟨rfl,hw2⟩;subst hw2)
   generalize hwp:World.alloc wz _=wp at H2 ⊢;clear hwp;generalize hpb:wz.heap.size=pb at H2 ⊢;clear hpb;have H3:=Lib.hid (show ST w0 [frow (.slice none 0 0) []] [⟨pb,(ps.map strV).toArray,9⟩,⟨mb,vm.toArray,57⟩,⟨w0.heap.size,#[.slice q1 s.msgs.length c1,.slice q2 s.enums.length c2,.slice q3 s.svcs.length c3],26⟩] wp from H2.out.nilrow 65 16);have hvl:=VMsg.len _ _ _ HVM.out;clear H1 H2 H2' C7 CSp hS0 Z1
   go_loopw [10,29] (fun vo i wr => ∃(n:Nat) (L:List FE) (vm:List Value),n<=ps.length/\i=.int .i64 n/\Hid (L.length=n)/\Hid (ST w0 [frow vo L] [⟨pb,(ps.map strV).toArray,9⟩,⟨mb,vm.toArray,57⟩,⟨w0.heap.size,#[.slice q1 s.msgs.length c1,.slice q2 s.enums.length c2,.slice q3 s.svcs.length c3],26⟩] wr)/\Hid (vm.length=5)/\Hid (L=[]->VMsg w0 vm m)/\Hid (∀x ∈ L,FEok x)/\Hid (pgo s name (L.map (·.f)) (L.map (·.f)).getLast? (ps.drop n)=R)) (fun _ i _=>ps.length-(intOf i).toNat)
   case atStart=>exact⟨0,[],vm,by omega,rfl,Lib.hid rfl,H3,Lib.hid hvl,Lib.hid (fun _=>HVM.out),Lib.hid (fun x hx=>(by cases hx)),V⟩
   case round=>as_aux_lemma=>
    clear V H3 HVM hvl;obtain⟨n,L,vq,hLk,rfl,hLn,hS,hvm,hvM,hO,hx⟩:=hrel;obtain⟨qo,co,hvo⟩:=qap (hS.out.row 0 rfl);dsimp only [frow]at hvo;rw [hLn.out]at hvo;by_cases hlt:n<ps.length
    ·have hki:(n:Int)<(ps.length:Int):=by omega
     have c0:=(hS.out.cell 0 rfl n).trans (show(ps.map strV).toArray[n]? = some (.string (S ps[n]))by simp [strV,hlt]);dsimp only at c0;have hst:=hx.out;rw [List.drop_eq_getElem_cons hlt]at hst;clear hx;generalize ps[n]=p at *;by_cases hL:L=[]
     ·have HVQ:=Lib.hid (hvM.out hL)
      subst hL;have hn0:n=0:=hLn.out.symm;subst hn0;have hn02:((0:Nat):Int)=0:=rfl;have hst2:onFld (qbe s name p) (fun f=>pgo s name ([] ++ [f]) (some f) (ps.drop (0+1)))=R:=hst;subst hvo;have HQ:=Lib.hid (show ST w0 [frow (.slice qo 0 co) []] [⟨pb,(ps.map strV).toArray,9⟩,⟨mb,vq.toArray,57⟩,⟨w0.heap.size,#[.slice q1 s.msgs.length c1,.slice q2 s.enums.length c2,.slice q3 s.svcs.length c3],26⟩] wr from hS.out);have ZQ:=Lib.hid (show(Tryz.prog.info? 57).map (·.size)=some vq.toArray.size by rw [List.size_toArray,hvm.out];exact ar_M);clear hst hS hO hvM
      go_upto_region 15 with(fail)
      have HMQ:=HM;have HBq:=Lib.hid (HQ.out.box 1 rfl);have CF:=Lib.hid (fun W (kk:Bel w0 W)=>qde (m:=m) (vs:=vq) p w0 W kk HVQ.out);cases hf:qgx m p with
      | none=>
       have hfa:qbe s name p=none:=by unfold qbe;rw [HMQ.out];exact hf
       rw [hfa]at hst2;have hr:((8,[]):Int × List PField)=R:=hst2;subst hr;rw [hf]at CF;clear hst2 hfa
       go_wp2_with (first
        | (refine qa5 rfl 57 _ rfl mb vq.toArray 57 rfl HBq.out _ Tryz.underlying57 rfl ZQ.out ?_)
        | (go_at_call 81;(with_reducible refine(CF.out _ HQ.out.bel).mono ?_);rintro e w6 ⟨vf,rfl,hvf,k6⟩;have k6:Bel _ w6:=k6;have hv0:vf=zFld:=hvf;subst hv0;have H6:=Lib.hid ((HQ.out.belw k6).addbox zFld.toArray 65);clear k6 hvf)
        | (refine qa3 (old:=#[.int .i64 0,.string ⟨#[]⟩,.int .i64 0,.int .i64 0,.int .i64 0,.string ⟨#[]⟩,.string ⟨#[]⟩,.bool false,.int .i64 0,.int .u64 0,.string ⟨#[]⟩,.slice none 0 0,.slice none 0 0,.slice none 0 0,.slice none 0 0,.slice none 0 0]) rfl 65 _ _ rfl w6 rfl w6.heap.size rfl zFld.toArray rfl rfl ar_F rfl (by simp [zFld,Value.oneCell']) ?_))
       go_ret2;exact qbp H6.out.bel
      | some f=>
       have hfa:qbe s name p=some f:=by unfold qbe;rw [HMQ.out];exact hf
       rw [hfa]at hst2;have hst3:pgo s name ([] ++ [f]) (some f) (ps.drop (0+1))=R:=hst2;have HST:=Lib.hid hst3;rw [hf]at CF;clear hst2 hst3 hfa hf
       go_upto_region 18 with(first
        | (refine qa5 rfl 57 _ rfl mb vq.toArray 57 rfl HBq.out _ Tryz.underlying57 rfl ZQ.out ?_)
        | (go_at_call 81;(with_reducible refine(CF.out _ HQ.out.bel).mono ?_);rintro e w6 ⟨vs,rfl,hvs,k6⟩;have k6:Bel _ w6:=k6;have HVF:=Lib.hid (show VField w0 vs f from hvs);obtain⟨hlen,hone⟩:=qcs hvs;have HVS:=Lib.hid hvs;have Z0:vs.toArray.size=16:=(by rw [List.size_toArray];exact hlen);have Z1:=Lib.hid (show(Tryz.prog.info? 65).map (·.size)=some vs.toArray.size by rw [Z0];exact ar_F);have Z2:=Lib.hid (show(#[.int .i64 0,.string ⟨#[]⟩,.int .i64 0,.int .i64 0,.int .i64 0,.string ⟨#[]⟩,.string ⟨#[]⟩,.bool false,.int .i64 0,.int .u64 0,.string ⟨#[]⟩,.slice none 0 0,.slice none 0 0,.slice none 0 0,.slice none 0 0,.slice none 0 0]:Array Value).size=vs.toArray.size by rw [Z0];rfl);have HO:=Lib.hid hone;clear hlen hone Z0 hvs;have H6:=Lib.hid ((HQ.out.belw k6).addbox vs.toArray 65);clear k6)
        | (refine qa3 (old:=#[.int .i64 0,.string ⟨#[]⟩,.int .i64 0,.int .i64 0,.int .i64 0,.string ⟨#[]⟩,.string ⟨#[]⟩,.bool false,.int .i64 0,.int .u64 0,.string ⟨#[]⟩,.slice none 0 0,.slice none 0 0,.slice none 0 0,.slice none 0 0,.slice none 0 0]) rfl 65 _ _ rfl w6 rfl w6.heap.size rfl vs.toArray rfl rfl Z1.out Z2.out HO.out ?_))
       generalize hw7:World.alloc w6 _=w7 at H6 ⊢;clear hw7;generalize hfb7:w6.heap.size=fb7 at H6 ⊢;clear hfb7;have HB6:=Lib.hid (H6.out.box 0 rfl);have HS6:=Lib.hid (H6.out.belw ((Bel.refl _).alloc (.cells vs.toArray 65)));have hv16:vs.length=1*16:=VField.len _ _ _ HVF.out;have HV16:=Lib.hid hv16;have HO1:=Lib.hid (show ∀u ∈ vs,u.oneCell'=true from fun u hu=>(Array.all_eq_true_iff_forall_mem.1 HO.out) u (by simpa using hu));have hLl:0<=1000001:=by omega
       have hfold:List.foldl (fun(cs:Array Value) (x:Value × Nat)=>cs.setIfInBounds x.snd x.fst) #[.int .i64 0,.string ⟨#[]⟩,.int .i64 0,.int .i64 0,.int .i64 0,.string ⟨#[]⟩,.string ⟨#[]⟩,.bool false,.int .i64 0,.int .u64 0,.string ⟨#[]⟩,.slice none 0 0,.slice none 0 0,.slice none 0 0,.slice none 0 0,.slice none 0 0] vs.zipIdx=vs.toArray:=qdn Z2.out;have hvl16:vs.length=16:=VField.len _ _ _ HVF.out;clear hv16 HVS Z2
       go_wp2_with (first
        | (refine qa5 rfl 65 _ rfl fb7 vs.toArray 65 rfl HB6.out _ Tryz.underlying65 rfl Z1.out ?_)
        | (at_builtin;refine wpList_append_lies _ rfl _ _ 52 rfl w0.heap.size 65 i1 (.agg #[.int .i64 0,.string ⟨#[]⟩,.int .i64 0,.int .i64 0,.int .i64 0,.string ⟨#[]⟩,.string ⟨#[]⟩,.bool false,.int .i64 0,.int .u64 0,.string ⟨#[]⟩,.slice none 0 0,.slice none 0 0,.slice none 0 0,.slice none 0 0,.slice none 0 0]) 16 240 Tryz.underlying52 hi1 hy0 hy1 hy2 rfl (by decide) _ 0 _ rfl (HS6.out.row 0 rfl) ⟨w7.heap.size,0,none⟩ 1 1 vs rfl HV16.out (qbc _ _ _) HO1.out (by decide) (by unfold maxLen;omega) (by omega) HS6.out.bel.size (w7.heap.size+1) (by simp) ?_))
       intro g9 cap9 w9 hown hgrow hfr hlt9;have HH:=Lib.hid (qir (e:=⟨f,vs,hvl16⟩) (HS6.out.grow 0 rfl hgrow hown (qby hfr (by simp))))
       have hfe : ∀x ∈ ([]:List FE) ++ [(⟨f,vs,hvl16⟩:FE)],FEok x:=fun x hx=>by
        rcases List.mem_append.1 hx with hx|hx
        ·exact(by cases hx)
        ·rw [List.mem_singleton]at hx
         subst hx;exact HVF.out.fe
       have HFE:=Lib.hid hfe;have HVL:=Lib.hid hvl16;have HNX:=Lib.hid (show(([]:List FE) ++ [(⟨f,vs,hvl16⟩:FE)]).length=0+1 by rw [List.length_append,List.length_singleton,List.length_nil]);have HST2:=Lib.hid (show pgo s name ((([]:List FE) ++ [(⟨f,vs,hvl16⟩:FE)]).map (·.f)) ((([]:List FE) ++ [(⟨f,vs,hvl16⟩:FE)]).map (·.f)).getLast? (ps.drop (0+1))=R by simpa using HST.out);generalize hLX:([]:List FE) ++ [(⟨f,vs,hvl16⟩:FE)]=LX2 at HH HFE HNX HST2;have hne:LX2 ≠ []:=by rw [←hLX];simp
       have HNE:=Lib.hid hne;clear hown hgrow hfr hfold hLX hne hfe hvl16;go_wp2;go_roundw
       case rel=>exact⟨0+1,LX2,vq,by omega,by go_num,HNX,Lib.hid HH.out.dropbox0,Lib.hid hvm.out,Lib.hid (fun h=>absurd h HNE.out),HFE,HST2⟩
       case measure=>simp [intOf];omega
     ·rcases qjh feC_len (hS.out.row 0 rfl)with⟨_,h2⟩|⟨gq,cq,hvo2,hgb,hgl,hcl,hel⟩
      ·exact absurd h2 hL
      dsimp only [frow]at hvo2 hel;rw [hvo,hLn.out]at hvo2;cases hvo2;subst hvo;have hLp:0<n:=by rw [←hLn.out];exact List.length_pos_iff.2 hL
      obtain⟨kp,hkk⟩ : ∃kp,n=kp+1:=⟨n-1,by omega⟩;have hkpl:kp<L.length:=by rw [hLn.out];omega
      have hkpi:(kp:Int)<(n:Int):=by omega
      have hki0:(0:Int)<(n:Int):=by omega
      have jw2:IntKind.i64.wrap (kp:Int)=(kp:Int):=IntWalk.i64_in _ (by omega);have jw:IntKind.i64.wrap ((n:Int)-1)=(kp:Int):=by rw [show(n:Int)-1=(kp:Int)by omega];exact jw2
      have hgx:L[kp]? = some L[kp]:=List.getElem?_eq_getElem hkpl
      have hlast:(L.map (·.f)).getLast? = some L[kp].f:=by
       rw [List.getLast?_eq_getElem?,List.length_map,hLn.out,hkk,Nat.add_sub_cancel,List.getElem?_map,hgx];rfl
      rw [hlast]at hst;have HC:=Lib.hid (fun j u hu=>hel kp _ hgx j u hu);have hok:=hO.out _ (List.getElem_mem hkpl);generalize L[kp]=ge at *;obtain⟨g,gvs,ghl⟩:=ge;obtain⟨g0,g2,g4,g5,gon⟩:=hok;dsimp only [feC]at HC g0 g2 g4 g5 gon hst;have HC2:=Lib.hid HC.out;have G2:=Lib.hid (show gvs.toArray[2]? = some (.int .i64 g.card)by simpa using g2);have G4:=Lib.hid (show gvs.toArray[4]? = some (.int .i64 g.tk)by simpa using g4);have G5:=Lib.hid (show gvs.toArray[5]? = some (.string (S g.tn))by simpa using g5);have GO:=Lib.hid gon;have GL:=Lib.hid ghl;have Y0:gvs.toArray.size=16:=by rw [List.size_toArray];exact ghl
      have Y1:=Lib.hid (show(Tryz.prog.info? 65).map (·.size)=some gvs.toArray.size by rw [Y0];exact ar_F);have Y2:=Lib.hid (show(#[.int .i64 0,.string ⟨#[]⟩,.int .i64 0,.int .i64 0,.int .i64 0,.string ⟨#[]⟩,.string ⟨#[]⟩,.bool false,.int .i64 0,.int .u64 0,.string ⟨#[]⟩,.slice none 0 0,.slice none 0 0,.slice none 0 0,.slice none 0 0,.slice none 0 0]:Array Value).size=gvs.toArray.size by rw [Y0];rfl);have HA:=Lib.hid (hS.out.addbox gvs.toArray 65);have a0:=HA.out.cell 3 rfl 0;have a1:=HA.out.cell 3 rfl 1;have a2:=HA.out.cell 3 rfl 2;have a5:=(HA.out.cell 0 rfl 5).trans G5.out;dsimp only at a0 a1 a2 a5;have CM1:=Lib.hid (CM0.out _ HA.out.bel g.tn);have HZq:=Lib.hid (show vq.toArray.size=5 by rw [List.size_toArray];exact hvm.out);clear hel hgx hlast g0 g2 g4 g5 gon Y0 hkk hvM hvm;cases hms:msgOf s g.tn with
      | none=>
       rw [hms]at CM1;have hg:goes s g=false:=by unfold goes;rw [hms];simp
       have hst2:((12,[]):Int × List PField)=R:=by rw [←hst];show _=(if goes s g=true then _ else _);rw [hg];rfl
       subst hst2;clear hst hg hms
       go_upto_region 13 with(first
        | (refine qae rfl 65 _ rfl gq (kp*16) 16 gvs rfl HC2.out ag_F sz_F GL.out ?_)
        | (refine qa3 (old:=#[.int .i64 0,.string ⟨#[]⟩,.int .i64 0,.int .i64 0,.int .i64 0,.string ⟨#[]⟩,.string ⟨#[]⟩,.bool false,.int .i64 0,.int .u64 0,.string ⟨#[]⟩,.slice none 0 0,.slice none 0 0,.slice none 0 0,.slice none 0 0,.slice none 0 0]) rfl 65 _ _ rfl wr rfl wr.heap.size rfl gvs.toArray rfl rfl Y1.out Y2.out GO.out ?_)
        | (go_at_call 26;(with_reducible refine CM1.out.mono ?_);rintro e w4 ⟨vn,rfl,hvn,k4⟩;have k4:Bel _ w4:=k4;have hv0:vn=zMsg:=hvn;subst hv0;have H4:=Lib.hid (HA.out.belw k4);have HB4:=Lib.hid (H4.out.box 2 rfl);clear k4 hvn)
        | (refine qab rfl 57 _ _ rfl mb zMsg.toArray vq.toArray 57 rfl rfl HB4.out ar_M HZq.out (by simp [zMsg,Value.oneCell']) ?_))
       have HQ:=Lib.hid (H4.out.setrowbox 2 rfl zMsg.toArray);generalize hwq:World.setRow _ _ _=wq at HQ ⊢;clear hwq;have b4:=(HQ.out.cell 0 rfl 4).trans G4.out;have b2:=(HQ.out.cell 0 rfl 2).trans G2.out;dsimp only at b4 b2;by_cases h1:g.tk=10
       ·have h1b:(g.tk != 10)=false:=bne_f h1
        by_cases h4:g.card=4
        ·have h4b:(g.card == 4)=true:=ieq h4
         go_wp2;go_ret2
         exact qbp HQ.out.bel
        ·have h4b:(g.card == 4)=false:=ine h4
         by_cases h5:g.card=5
         ·have h5b:(g.card == 5)=true:=ieq h5
          go_wp2;go_ret2
          exact qbp HQ.out.bel
         ·have h5b:(g.card == 5)=false:=ine h5
          clear h1 h4 h5;go_wp2;go_ret2;exact qbp HQ.out.bel
       ·have h1b:(g.tk != 10)=true:=bne_t h1
        go_wp2;go_ret2
        exact qbp HQ.out.bel
      | some mq=>
       rw [hms]at CM1;have HMQ:=Lib.hid hms;clear hms
       go_upto_region 13 with(first
        | (refine qae rfl 65 _ rfl gq (kp*16) 16 gvs rfl HC2.out ag_F sz_F GL.out ?_)
        | (refine qa3 (old:=#[.int .i64 0,.string ⟨#[]⟩,.int .i64 0,.int .i64 0,.int .i64 0,.string ⟨#[]⟩,.string ⟨#[]⟩,.bool false,.int .i64 0,.int .u64 0,.string ⟨#[]⟩,.slice none 0 0,.slice none 0 0,.slice none 0 0,.slice none 0 0,.slice none 0 0]) rfl 65 _ _ rfl wr rfl wr.heap.size rfl gvs.toArray rfl rfl Y1.out Y2.out GO.out ?_)
        | (go_at_call 26;(with_reducible refine CM1.out.mono ?_);rintro e w4 ⟨vn,rfl,hvn,k4⟩;have k4:Bel _ w4:=k4;have HVN:=Lib.hid (show VMsg w0 vn mq from hvn);have hvn5:=VMsg.len _ _ _ HVN.out;have NO:=Lib.hid (VMsg.one _ _ _ HVN.out);have N0:vn.toArray.size=5:=(by rw [List.size_toArray];exact hvn5);have N1:=Lib.hid (show(Tryz.prog.info? 57).map (·.size)=some vn.toArray.size by rw [N0];exact ar_M);have N2:=Lib.hid (show vq.toArray.size=vn.toArray.size by rw [N0];exact HZq.out);have HVN5:=Lib.hid hvn5;have H4:=Lib.hid (HA.out.belw k4);have HB4:=Lib.hid (H4.out.box 2 rfl);clear k4 hvn N0 hvn5)
        | (refine qab rfl 57 _ _ rfl mb vn.toArray vq.toArray 57 rfl rfl HB4.out N1.out N2.out NO.out ?_))
       have HQ:=Lib.hid (H4.out.setrowbox 2 rfl vn.toArray);generalize hwq:World.setRow _ _ _=wq at HQ ⊢;clear hwq;have b4:=(HQ.out.cell 0 rfl 4).trans G4.out;have b2:=(HQ.out.cell 0 rfl 2).trans G2.out;dsimp only at b4 b2;by_cases h1:g.tk=10
       ·have h1b:(g.tk != 10)=false:=bne_f h1
        by_cases h4:g.card=4
        ·have h4b:(g.card == 4)=true:=ieq h4
         have hg:goes s g=false:=by unfold goes qho;simp [*]
         have hst2:((12,[]):Int × List PField)=R:=by rw [←hst];show _=(if goes s g=true then _ else _);rw [hg];rfl
         subst hst2;clear hst hg;go_wp2;go_ret2;exact qbp HQ.out.bel
        ·have h4b:(g.card == 4)=false:=ine h4
         by_cases h5:g.card=5
         ·have h5b:(g.card == 5)=true:=ieq h5
          have hg:goes s g=false:=by unfold goes qho;simp [*]
          have hst2:((12,[]):Int × List PField)=R:=by rw [←hst];show _=(if goes s g=true then _ else _);rw [hg];rfl
          subst hst2;clear hst hg;go_wp2;go_ret2;exact qbp HQ.out.bel
         ·have h5b:(g.card == 5)=false:=ine h5
          have hg:goes s g=true:=by unfold goes qho;rw [HMQ.out];simp [h1,h4,h5]
          have hst2:onFld (qbe s g.tn p) (fun f=>pgo s name (L.map (·.f) ++ [f]) (some f) (ps.drop (n+1)))=R:=by rw [←hst];show _=(if goes s g=true then _ else _);rw [hg,if_pos rfl]
          clear hst hg h1 h4 h5
          go_upto_region 15 with(fail)
          clear a0 a1 a2 a5 b4 b2 jw jw2;have HBq:=Lib.hid (HQ.out.box 2 rfl);have CF:=Lib.hid (fun W (kk:Bel w0 W)=>qde (m:=mq) (vs:=vn) p w0 W kk HVN.out);cases hf:qgx mq p with
          | none=>
           have hfa:qbe s g.tn p=none:=by unfold qbe;rw [HMQ.out];exact hf
           rw [hfa]at hst2;have hr:((8,[]):Int × List PField)=R:=hst2;subst hr;rw [hf]at CF;clear hst2 hfa
           go_wp2_with (first
            | (refine qa5 rfl 57 _ rfl mb vn.toArray 57 rfl HBq.out _ Tryz.underlying57 rfl N1.out ?_)
            | (go_at_call 81;(with_reducible refine(CF.out _ HQ.out.bel).mono ?_);rintro e w6 ⟨vf,rfl,hvf,k6⟩;have k6:Bel _ w6:=k6;have hv0:vf=zFld:=hvf;subst hv0;have H6:=Lib.hid ((HQ.out.belw k6).addbox zFld.toArray 65);clear k6 hvf)
            | (refine qa3 (old:=#[.int .i64 0,.string ⟨#[]⟩,.int .i64 0,.int .i64 0,.int .i64 0,.string ⟨#[]⟩,.string ⟨#[]⟩,.bool false,.int .i64 0,.int .u64 0,.string ⟨#[]⟩,.slice none 0 0,.slice none 0 0,.slice none 0 0,.slice none 0 0,.slice none 0 0]) rfl 65 _ _ rfl w6 rfl w6.heap.size rfl zFld.toArray rfl rfl ar_F rfl (by simp [zFld,Value.oneCell']) ?_))
           go_ret2;exact qbp H6.out.bel
          | some f=>
           have hfa:qbe s g.tn p=some f:=by unfold qbe;rw [HMQ.out];exact hf
           rw [hfa]at hst2;have hst3:pgo s name (L.map (·.f) ++ [f]) (some f) (ps.drop (n+1))=R:=hst2;have HST:=Lib.hid hst3;rw [hf]at CF;clear hst2 hst3 hfa hf
           go_upto_region 18 with(first
            | (refine qa5 rfl 57 _ rfl mb vn.toArray 57 rfl HBq.out _ Tryz.underlying57 rfl N1.out ?_)
            | (go_at_call 81;(with_reducible refine(CF.out _ HQ.out.bel).mono ?_);rintro e w6 ⟨vs,rfl,hvs,k6⟩;have k6:Bel _ w6:=k6;have HVF:=Lib.hid (show VField w0 vs f from hvs);obtain⟨hlen,hone⟩:=qcs hvs;have HVS:=Lib.hid hvs;have Z0:vs.toArray.size=16:=(by rw [List.size_toArray];exact hlen);have Z1:=Lib.hid (show(Tryz.prog.info? 65).map (·.size)=some vs.toArray.size by rw [Z0];exact ar_F);have Z2:=Lib.hid (show(#[.int .i64 0,.string ⟨#[]⟩,.int .i64 0,.int .i64 0,.int .i64 0,.string ⟨#[]⟩,.string ⟨#[]⟩,.bool false,.int .i64 0,.int .u64 0,.string ⟨#[]⟩,.slice none 0 0,.slice none 0 0,.slice none 0 0,.slice none 0 0,.slice none 0 0]:Array Value).size=vs.toArray.size by rw [Z0];rfl);have HO:=Lib.hid hone;clear hlen hone Z0 hvs;have H6:=Lib.hid ((HQ.out.belw k6).addbox vs.toArray 65);clear k6)
            | (refine qa3 (old:=#[.int .i64 0,.string ⟨#[]⟩,.int .i64 0,.int .i64 0,.int .i64 0,.string ⟨#[]⟩,.string ⟨#[]⟩,.bool false,.int .i64 0,.int .u64 0,.string ⟨#[]⟩,.slice none 0 0,.slice none 0 0,.slice none 0 0,.slice none 0 0,.slice none 0 0]) rfl 65 _ _ rfl w6 rfl w6.heap.size rfl vs.toArray rfl rfl Z1.out Z2.out HO.out ?_))
           generalize hw7:World.alloc w6 _=w7 at H6 ⊢;clear hw7;generalize hfb7:w6.heap.size=fb7 at H6 ⊢;clear hfb7;have HB6:=Lib.hid (H6.out.box 0 rfl);have HS6:=Lib.hid (H6.out.belw ((Bel.refl _).alloc (.cells vs.toArray 65)));have hv16:vs.length=1*16:=VField.len _ _ _ HVF.out;have HV16:=Lib.hid hv16;have HO1:=Lib.hid (show ∀u ∈ vs,u.oneCell'=true from fun u hu=>(Array.all_eq_true_iff_forall_mem.1 HO.out) u (by simpa using hu));have hLl:L.length<=1000001:=by rw [hLn.out];omega
           have hfold:List.foldl (fun(cs:Array Value) (x:Value × Nat)=>cs.setIfInBounds x.snd x.fst) #[.int .i64 0,.string ⟨#[]⟩,.int .i64 0,.int .i64 0,.int .i64 0,.string ⟨#[]⟩,.string ⟨#[]⟩,.bool false,.int .i64 0,.int .u64 0,.string ⟨#[]⟩,.slice none 0 0,.slice none 0 0,.slice none 0 0,.slice none 0 0,.slice none 0 0] vs.zipIdx=vs.toArray:=qdn Z2.out;have hvl16:vs.length=16:=VField.len _ _ _ HVF.out;clear hv16 HVS Z2
           go_wp2_with (first
            | (refine qa5 rfl 65 _ rfl fb7 vs.toArray 65 rfl HB6.out _ Tryz.underlying65 rfl Z1.out ?_)
            | (at_builtin;refine wpList_append_lies _ rfl _ _ 52 rfl w0.heap.size 65 i1 (.agg #[.int .i64 0,.string ⟨#[]⟩,.int .i64 0,.int .i64 0,.int .i64 0,.string ⟨#[]⟩,.string ⟨#[]⟩,.bool false,.int .i64 0,.int .u64 0,.string ⟨#[]⟩,.slice none 0 0,.slice none 0 0,.slice none 0 0,.slice none 0 0,.slice none 0 0]) 16 240 Tryz.underlying52 hi1 hy0 hy1 hy2 rfl (by decide) _ L.length _ rfl (HS6.out.row 0 rfl) ⟨w7.heap.size,0,none⟩ 1 1 vs rfl HV16.out (qbc _ _ _) HO1.out (by decide) (by unfold maxLen;omega) (by omega) HS6.out.bel.size (w7.heap.size+1) (by simp) ?_))
           intro g9 cap9 w9 hown hgrow hfr hlt9;have HH:=Lib.hid (qir (e:=⟨f,vs,hvl16⟩) (HS6.out.grow 0 rfl hgrow hown (qby hfr (by simp))))
           have hfe : ∀x ∈ L ++ [(⟨f,vs,hvl16⟩:FE)],FEok x:=fun x hx=>by
            rcases List.mem_append.1 hx with hx|hx
            ·exact hO.out x hx
            ·rw [List.mem_singleton]at hx
             subst hx;exact HVF.out.fe
           have HFE:=Lib.hid hfe;have HVL:=Lib.hid hvl16;have HNX:=Lib.hid (show(L ++ [(⟨f,vs,hvl16⟩:FE)]).length=n+1 by rw [List.length_append,List.length_singleton,hLn.out]);have HST2:=Lib.hid (show pgo s name ((L ++ [(⟨f,vs,hvl16⟩:FE)]).map (·.f)) ((L ++ [(⟨f,vs,hvl16⟩:FE)]).map (·.f)).getLast? (ps.drop (n+1))=R by simpa using HST.out);generalize hLX:L ++ [(⟨f,vs,hvl16⟩:FE)]=LX2 at HH HFE HNX HST2;have hne:LX2 ≠ []:=by rw [←hLX];simp
           have HNE:=Lib.hid hne;clear hown hgrow hfr hfold hLX hne hfe hvl16;go_wp2;go_roundw
           case rel=>exact⟨n+1,LX2,vn,by omega,by go_num,HNX,Lib.hid HH.out.dropbox0.dropbox0,Lib.hid HVN5.out,Lib.hid (fun h=>absurd h HNE.out),HFE,HST2⟩
           case measure=>simp [intOf];omega
       ·have h1b:(g.tk != 10)=true:=bne_t h1
        have hg:goes s g=false:=by unfold goes qho;simp [*]
        have hst2:((12,[]):Int × List PField)=R:=by rw [←hst];show _=(if goes s g=true then _ else _);rw [hg];rfl
        subst hst2;clear hst hg;go_wp2;go_ret2;exact qbp HQ.out.bel
    ·have hr:(0,L.map (·.f))=R:=by
      have:=hx.out;rw [List.drop_of_length_le (by omega)]at this;rw [←this];cases (L.map (·.f)).getLast? <;> rfl
     subst hr;subst hvo;clear hx;go_wp2;go_ret2;exact⟨_,rfl,L,hS.out.dropbox0.dropbox0.dropbox0,hO.out,rfl⟩
end Go.Proofs.YtaaneecceiefoaaGreatDoor
