import Derived.Test.YtaaneecceiefoaaGreatDoorMaPgr
import Derived.Test.YtaaneecceiefoaaGreatDoorMaDPath
import Derived.Test.YtaaneecceiefoaaGreatDoorMaParse
import Derived.Test.YtaaneecceiefoaaGreatDoorRkA
set_option maxRecDepth 100000
set_option maxHeartbeats 4000000
set_option linter.unusedVariables false
set_option linter.unusedSimpArgs false
namespace Go.Proofs.YtaaneecceiefoaaGreatDoor
section
open Go.RowKit Ck Ma
def bytesIn:Value->Nat
 | .string s=>s.size
 | _=>0
theorem pgr_cons (s:PSchema) (acc:List PField) (m:PMsg) (p:Str) (r:List Str):pgr s acc m (p :: r)=onFld (qbd m p) fun f=>if r.isEmpty=true then(0,acc ++ [f])else if qc2 f=true then onMsg (msgOf s f.tn) (fun m2=>pgr s (acc ++ [f]) m2 r)else(12,[]):=rfl
theorem rd_Path (mv ev sv:Value) (s:PSchema) (name t:Str) (w0:World) (hs:VSchema w0 [mv,ev,sv] s) (ht:t.length<=1000000000) :
  Calls Tryz.prog 62 #[.agg #[mv,ev,sv],.string (S name),.string (S t)] w0 (qoj w0 (pathR s name t)):=by
 obtain⟨i1,hi1,hy0,hy1,hy2⟩:=info_parts qnp;have CM0:=Lib.hid (fun W (k:Bel w0 W) q=>qmp mv ev sv s q w0 W k hs);obtain⟨_,_,_,he,hm,hev,hsv⟩:=hs;cases he;obtain⟨q2,c2,rfl,hl2⟩:=qa5 hev;obtain⟨q3,c3,rfl,hl3⟩:=qa5 hsv;obtain⟨q1,c1,rfl,hl1⟩:=qa5 hm;clear hm hev hsv;have hS0:=Lib.hid ((ST.start w0).addbox #[.slice q1 s.msgs.length c1,.slice q2 s.enums.length c2,.slice q3 s.svcs.length c3] 26);by_cases ht0:t=[]
 ·have hr:pathR s name t=(1,[]):=by unfold pathR;rw [if_pos ht0]
  rw [hr];have hte:(S t).toList=[]:=by rw [ByteArray.toList_eq,qbi,ht0]
  have hte2:(S t).toList.isEmpty=true:=by rw [ByteArray.toList_eq,qbi,ht0];rfl
  clear ht0 hr CM0
  go_enter Tryz.func62,Tryz.ntmps62
  go_wp2;go_ret2
  exact qb9 hS0.out.bel
 ·have hte:(S t).toList ≠ []:=by rw [ByteArray.toList_eq,qbi];exact ht0
  have hte2:(S t).toList.isEmpty=false:=by rw [ByteArray.toList_eq,qbi];simpa using ht0
  cases hm:msgOf s name with
  | none=>
   have hr:pathR s name t=(10,[]):=by unfold pathR;rw [if_neg ht0,hm];rfl
   rw [hr];have CM1:=Lib.hid (fun W k=>CM0.out W k name);rw [hm]at CM1;clear hr hm ht0
   go_enter Tryz.func62,Tryz.ntmps62
   go_wp2_with (first
    | (go_at_call 84;(with_reducible refine(CM1.out _ hS0.out.bel).mono ?_);rintro e w1 ⟨vn,rfl,hvn,k1⟩;have k1:Bel _ w1:=k1;have hv0:vn=zMsg:=hvn;subst hv0;have H1:=Lib.hid ((hS0.out.belw k1).addbox zMsg.toArray 57);clear k1)
    | (refine qa3 (old:=#[.string ⟨#[]⟩,.slice none 0 0,.slice none 0 0,.slice none 0 0,.slice none 0 0]) rfl 57 _ _ rfl w1 rfl w1.heap.size rfl zMsg.toArray rfl rfl ar_M rfl (by simp [zMsg,Value.oneCell']) ?_))
   go_ret2;exact qb9 H1.out.bel
  | some m=>
   have V:=Lib.hid (show pgr s (([]:List FE).map (·.f)) m (qak 46 t)=pathR s name t from(qpc ht0 hm).symm);generalize pathR s name t=R at V;have CM1:=Lib.hid (fun W k=>CM0.out W k name);rw [hm]at CM1;have CSp:=Lib.hid (fun W u (hu:List.length u<=1000000000)=>show Calls Tryz.prog 85 #[.string (S u),.int .u8 46] W (qjl u 46 W)from rd_split u 46 W hu);unfold qjl at CSp;clear hm ht0
   go_enter Tryz.func62,Tryz.ntmps62
   go_upto_region 6 with(first
    | (go_at_call 84;(with_reducible refine(CM1.out _ hS0.out.bel).mono ?_);rintro e w1 ⟨vn,rfl,hvn,k1⟩;have k1:Bel _ w1:=k1;have HVM:=Lib.hid (show VMsg w0 vn m from hvn);have hvs:=hvn;obtain⟨hlen,hone⟩:=qbq hvs;have HVS:=Lib.hid hvs;have Z0:vn.toArray.size=5:=(by rw [List.size_toArray];exact hlen);have Z1:=Lib.hid (show(Tryz.prog.info? 57).map (·.size)=some vn.toArray.size by rw [Z0];exact ar_M);have Z2:=Lib.hid (show(#[.string ⟨#[]⟩,.slice none 0 0,.slice none 0 0,.slice none 0 0,.slice none 0 0]:Array Value).size=vn.toArray.size by rw [Z0];rfl);have HO:=Lib.hid hone;clear hlen hone Z0 hvs;have H1:=Lib.hid ((hS0.out.belw k1).addbox vn.toArray 57);clear k1)
    | (refine qa3 (old:=#[.string ⟨#[]⟩,.slice none 0 0,.slice none 0 0,.slice none 0 0,.slice none 0 0]) rfl 57 _ _ rfl w1 rfl w1.heap.size rfl vn.toArray rfl rfl Z1.out Z2.out HO.out ?_))
   generalize hwz:World.alloc w1 _=wz at H1 ⊢;clear hwz;generalize hmb:w1.heap.size=mb at H1 ⊢;clear hmb HVS HO Z2 CM1 Z1;have H3:=Lib.hid (show ST w0 [frow (.slice none 0 0) []] [⟨mb,vn.toArray,57⟩,⟨w0.heap.size,#[.slice q1 s.msgs.length c1,.slice q2 s.enums.length c2,.slice q3 s.svcs.length c3],26⟩] wz from H1.out.nilrow 65 16);clear H1 hS0;go_wp2
   go_loopw [2,9,10] (fun vp vk vo wr => ∃(u:Str) (cm:PMsg) (vm:List Value) (L:List FE),vp=.string (S u)/\vk=.bool true/\L.length+u.length<=t.length/\Hid (ST w0 [frow vo L] [⟨mb,vm.toArray,57⟩,⟨w0.heap.size,#[.slice q1 s.msgs.length c1,.slice q2 s.enums.length c2,.slice q3 s.svcs.length c3],26⟩] wr)/\Hid (VMsg w0 vm cm)/\Hid (∀x ∈ L,FEok x)/\Hid (pgr s (L.map (·.f)) cm (qak 46 u)=R)) (fun vp _ _ _=>bytesIn vp)
   case atStart=>exact⟨t,m,vn,[],rfl,rfl,by simp,H3,HVM,Lib.hid (fun x hx=>(by cases hx)),V⟩
   case round=>as_aux_lemma=>
    clear V H3 HVM;obtain⟨u,cm,vm,L,rfl,rfl,hLu,hS,HVM,HOK,hx⟩:=hrel;obtain⟨qo,co,hvo⟩:=qan (hS.out.row 0 rfl);dsimp only [frow]at hvo;subst hvo;have hul:=Lib.hid (show u.length<=1000000000 by omega);have hv5:=VMsg.len _ _ _ HVM.out;have HZq:=Lib.hid (show vm.toArray.size=5 by rw [List.size_toArray];exact hv5);have ZQ:=Lib.hid (show(Tryz.prog.info? 57).map (·.size)=some vm.toArray.size by rw [HZq.out];exact ar_M);clear hv5
    go_upto_region 8 with(go_at_call 85;(with_reducible refine(CSp.out wr u hul.out).mono ?_);rintro e w1 ⟨p,r,bb,rfl,hpu,hrl,k1⟩;have k1:Bel wr w1:=k1;have H1:=Lib.hid (hS.out.belw k1);have HPU:=Lib.hid hpu;have HRL:=Lib.hid hrl;clear k1 hpu hrl)
    have hst:=hx.out;rw [HPU.out]at hst;clear hx;have CF:=Lib.hid (fun W (kk:Bel w0 W)=>qhq (m:=cm) (vm:=vm) p w0 W kk HVM.out);have HBq:=Lib.hid (H1.out.box 0 rfl);cases hf:qbd cm p with
    | none=>
     have hr:((8,[]):Int × List PField)=R:=by rw [←hst];unfold pgr;rw [hf];rfl
     subst hr;rw [hf]at CF;clear hst
     go_wp2_with (first
      | (refine qa6 rfl 57 _ rfl mb vm.toArray 57 rfl HBq.out _ Tryz.underlying57 rfl ZQ.out ?_)
      | (go_at_call 86;(with_reducible refine(CF.out _ H1.out.bel).mono ?_);rintro e w6 ⟨vf,rfl,hvf,k6⟩;have k6:Bel _ w6:=k6;have hv0:vf=zFld:=hvf;subst hv0;have H6:=Lib.hid ((H1.out.belw k6).addbox zFld.toArray 65);clear k6 hvf)
      | (refine qa3 (old:=#[.int .i64 0,.string ⟨#[]⟩,.int .i64 0,.int .i64 0,.int .i64 0,.string ⟨#[]⟩,.string ⟨#[]⟩,.bool false,.int .i64 0,.int .u64 0,.string ⟨#[]⟩,.slice none 0 0,.slice none 0 0,.slice none 0 0,.slice none 0 0,.slice none 0 0]) rfl 65 _ _ rfl w6 rfl w6.heap.size rfl zFld.toArray rfl rfl ar_F rfl (by simp [zFld,Value.oneCell']) ?_))
     go_ret2;exact qb9 H6.out.bel
    | some f=>
     have hst2:(if(if bb=true then qak 46 r else []).isEmpty=true then(0,L.map (·.f) ++ [f])else if qc2 f=true then onMsg (msgOf s f.tn) (fun m2=>pgr s (L.map (·.f) ++ [f]) m2 (if bb=true then qak 46 r else []))else(12,[]))=R:=by rw [pgr_cons,hf]at hst;exact hst
     rw [hf]at CF;clear hst hf
     go_upto_region 11 with(first
      | (refine qa6 rfl 57 _ rfl mb vm.toArray 57 rfl HBq.out _ Tryz.underlying57 rfl ZQ.out ?_)
      | (go_at_call 86;(with_reducible refine(CF.out _ H1.out.bel).mono ?_);rintro e w6 ⟨vs,rfl,hvs,k6⟩;have k6:Bel _ w6:=k6;have HVF:=Lib.hid (show VField w0 vs f from hvs);obtain⟨hlen,hone⟩:=qc9 hvs;have HVS:=Lib.hid hvs;have Z0:vs.toArray.size=16:=(by rw [List.size_toArray];exact hlen);have Z1:=Lib.hid (show(Tryz.prog.info? 65).map (·.size)=some vs.toArray.size by rw [Z0];exact ar_F);have Z2:=Lib.hid (show(#[.int .i64 0,.string ⟨#[]⟩,.int .i64 0,.int .i64 0,.int .i64 0,.string ⟨#[]⟩,.string ⟨#[]⟩,.bool false,.int .i64 0,.int .u64 0,.string ⟨#[]⟩,.slice none 0 0,.slice none 0 0,.slice none 0 0,.slice none 0 0,.slice none 0 0]:Array Value).size=vs.toArray.size by rw [Z0];rfl);have HO:=Lib.hid hone;clear hlen hone Z0 hvs;have H6:=Lib.hid ((H1.out.belw k6).addbox vs.toArray 65);clear k6)
      | (refine qa3 (old:=#[.int .i64 0,.string ⟨#[]⟩,.int .i64 0,.int .i64 0,.int .i64 0,.string ⟨#[]⟩,.string ⟨#[]⟩,.bool false,.int .i64 0,.int .u64 0,.string ⟨#[]⟩,.slice none 0 0,.slice none 0 0,.slice none 0 0,.slice none 0 0,.slice none 0 0]) rfl 65 _ _ rfl w6 rfl w6.heap.size rfl vs.toArray rfl rfl Z1.out Z2.out HO.out ?_))
     generalize hw7:World.alloc w6 _=w7 at H6 ⊢;clear hw7;generalize hfb7:w6.heap.size=fb7 at H6 ⊢;clear hfb7;have HB6:=Lib.hid (H6.out.box 0 rfl);have HS6:=Lib.hid (H6.out.belw ((Bel.refl _).alloc (.cells vs.toArray 65)));have hv16:vs.length=1*16:=VField.len _ _ _ HVF.out;have HV16:=Lib.hid hv16;have HO1:=Lib.hid (show ∀u ∈ vs,u.oneCell'=true from fun u hu=>(Array.all_eq_true_iff_forall_mem.1 HO.out) u (by simpa using hu));have hLl:L.length<=1000000001:=by omega
     have hfold:List.foldl (fun(cs:Array Value) (x:Value × Nat)=>cs.setIfInBounds x.snd x.fst) #[.int .i64 0,.string ⟨#[]⟩,.int .i64 0,.int .i64 0,.int .i64 0,.string ⟨#[]⟩,.string ⟨#[]⟩,.bool false,.int .i64 0,.int .u64 0,.string ⟨#[]⟩,.slice none 0 0,.slice none 0 0,.slice none 0 0,.slice none 0 0,.slice none 0 0] vs.zipIdx=vs.toArray:=qdn Z2.out;have hvl16:vs.length=16:=VField.len _ _ _ HVF.out;have G2:=Lib.hid (VField.at HVF.out).2.2.1;have G4:=Lib.hid (VField.at HVF.out).2.2.2.1;have G5:=Lib.hid (VField.at HVF.out).2.2.2.2;clear hv16 HVS Z2
     go_upto_region 12 with(first
      | (refine qa6 rfl 65 _ rfl fb7 vs.toArray 65 rfl HB6.out _ Tryz.underlying65 rfl Z1.out ?_)
      | (at_builtin;refine wpList_append_lies _ rfl _ _ 52 rfl w0.heap.size 65 i1 (.agg #[.int .i64 0,.string ⟨#[]⟩,.int .i64 0,.int .i64 0,.int .i64 0,.string ⟨#[]⟩,.string ⟨#[]⟩,.bool false,.int .i64 0,.int .u64 0,.string ⟨#[]⟩,.slice none 0 0,.slice none 0 0,.slice none 0 0,.slice none 0 0,.slice none 0 0]) 16 240 Tryz.underlying52 hi1 hy0 hy1 hy2 rfl (by decide) _ L.length _ rfl (HS6.out.row 0 rfl) ⟨w7.heap.size,0,none⟩ 1 1 vs rfl HV16.out (qau _ _ _) HO1.out (by decide) (by unfold maxLen;omega) (by omega) HS6.out.bel.size (w7.heap.size+1) (by simp) ?_))
     intro g9 cap9 w9 hown hgrow hfr hlt9;have H9:=Lib.hid (qh6 (e:=⟨f,vs,hvl16⟩) (HS6.out.grow 0 rfl hgrow hown (qbc hfr (by simp))))
     have HFE:=Lib.hid (show ∀x ∈ L ++ [(⟨f,vs,hvl16⟩:FE)],FEok x from fun x hx=>by
      rcases List.mem_append.1 hx with hx|hx
      ·exact HOK.out x hx
      ·rw [List.mem_singleton]at hx
       subst hx
       exact HVF.out.fe)
     clear hown hgrow hfr hfold;cases bb with
     | false=>
      have hr:(0,(L ++ [(⟨f,vs,hvl16⟩:FE)]).map (·.f))=R:=by rw [←hst2];simp
      subst hr;clear hst2;go_wp2;go_ret2;exact⟨.slice (some ⟨g9,0,none⟩) (L.length+1) cap9,rfl,L ++ [⟨f,vs,hvl16⟩],H9.out.dropbox0.dropbox0.dropbox0,HFE.out,rfl⟩
     | true=>
      have hne:=qby 46 r;have hpe:(qak 46 r).isEmpty=false:=List.isEmpty_eq_false_iff.2 hne
      have HST:=Lib.hid (show(if qc2 f=true then onMsg (msgOf s f.tn) (fun m2=>pgr s ((L ++ [(⟨f,vs,hvl16⟩:FE)]).map (·.f)) m2 (qak 46 r))else(12,[]))=R by
       rw [←hst2];simp only [if_true,hpe,List.map_append,List.map_cons,List.map_nil]
       simp)
      clear hst2 hne hpe
      go_upto_region 14 with(fail)
      have b2:=(H9.out.cell 0 rfl 2).trans G2.out;have b4:=(H9.out.cell 0 rfl 4).trans G4.out;have b5:=(H9.out.cell 0 rfl 5).trans G5.out;have a0:=H9.out.cell 2 rfl 0;have a1:=H9.out.cell 2 rfl 1;have a2:=H9.out.cell 2 rfl 2;dsimp only at b2 b4 b5 a0 a1 a2;by_cases h1:f.tk=10
      ·have h1b:(f.tk != 10)=false:=bne_f h1
       by_cases h4:f.card=4
       ·have h4b:(f.card == 4)=true:=ieq h4
        have hg:qc2 f=false:=by unfold qc2;simp [*]
        have hst2:((12,[]):Int × List PField)=R:=by rw [←HST.out,hg];rfl
        subst hst2;clear hg;go_wp2;go_ret2;exact qb9 H9.out.bel
       ·have h4b:(f.card == 4)=false:=ine h4
        by_cases h5:f.card=5
        ·have h5b:(f.card == 5)=true:=ieq h5
         have hg:qc2 f=false:=by unfold qc2;simp [*]
         have hst2:((12,[]):Int × List PField)=R:=by rw [←HST.out,hg];rfl
         subst hst2;clear hg;go_wp2;go_ret2;exact qb9 H9.out.bel
        ·have h5b:(f.card == 5)=false:=ine h5
         have hg:qc2 f=true:=by unfold qc2;simp [h1,h4,h5]
         have hst3:onMsg (msgOf s f.tn) (fun m2=>pgr s ((L ++ [(⟨f,vs,hvl16⟩:FE)]).map (·.f)) m2 (qak 46 r))=R:=by rw [←HST.out,hg];simp
         have HST3:=Lib.hid hst3;clear hst3 hg h1 h4 h5;cases hms:msgOf s f.tn with
         | none=>
          have CM1:=Lib.hid (fun W k=>CM0.out W k f.tn);rw [hms]at CM1 HST3;have hst4:((12,[]):Int × List PField)=R:=HST3.out;subst hst4;clear hms
          go_wp2_with (first
           | (go_at_call 84;(with_reducible refine(CM1.out _ H9.out.bel).mono ?_);rintro e w4 ⟨vn,rfl,hvn,k4⟩;have k4:Bel _ w4:=k4;have hv0:vn=zMsg:=hvn;subst hv0;have H4:=Lib.hid (H9.out.belw k4);have HB4:=Lib.hid (H4.out.box 1 rfl);clear k4)
           | (refine qa8 rfl 57 _ _ rfl mb zMsg.toArray vm.toArray 57 rfl rfl HB4.out ar_M HZq.out (by simp [zMsg,Value.oneCell']) ?_))
          have HQ:=Lib.hid (H4.out.setrowbox 1 rfl zMsg.toArray);go_ret2;exact qb9 HQ.out.bel
         | some m2=>
          have CM1:=Lib.hid (fun W k=>CM0.out W k f.tn);rw [hms]at CM1 HST3;have HST4:=Lib.hid (show pgr s ((L ++ [(⟨f,vs,hvl16⟩:FE)]).map (·.f)) m2 (qak 46 r)=R from HST3.out);clear hms
          go_wp2_with (first
           | (go_at_call 84;(with_reducible refine(CM1.out _ H9.out.bel).mono ?_);rintro e w4 ⟨vn,rfl,hvn,k4⟩;have k4:Bel _ w4:=k4;have HVN:=Lib.hid (show VMsg w0 vn m2 from hvn);have hvn5:=VMsg.len _ _ _ HVN.out;have NO:=Lib.hid (VMsg.one _ _ _ HVN.out);have N0:vn.toArray.size=5:=(by rw [List.size_toArray];exact hvn5);have N1:=Lib.hid (show(Tryz.prog.info? 57).map (·.size)=some vn.toArray.size by rw [N0];exact ar_M);have N2:=Lib.hid (show vm.toArray.size=vn.toArray.size by rw [N0];exact HZq.out);have H4:=Lib.hid (H9.out.belw k4);have HB4:=Lib.hid (H4.out.box 1 rfl);clear N0 hvn5 hvn;clear k4)
           | (refine qa8 rfl 57 _ _ rfl mb vn.toArray vm.toArray 57 rfl rfl HB4.out N1.out N2.out NO.out ?_))
          have HQ:=Lib.hid (H4.out.setrowbox 1 rfl vn.toArray);generalize hwq:World.setRow _ _ _=wq at HQ ⊢;clear hwq;go_roundw
          case rel=>exact⟨r,m2,vn,L ++ [⟨f,vs,hvl16⟩],rfl,rfl,by rw [List.length_append,List.length_singleton];have:=HRL.out (by trivial);omega,Lib.hid HQ.out.dropbox0,HVN,HFE,HST4⟩
          case measure=>have:=HRL.out (by trivial);simpa [bytesIn,qbr]using this
      ·have h1b:(f.tk != 10)=true:=bne_t h1
       have hg:qc2 f=false:=by unfold qc2;simp [*]
       have hst2:((12,[]):Int × List PField)=R:=by rw [←HST.out,hg];rfl
       subst hst2;clear hg;go_wp2;go_ret2;exact qb9 H9.out.bel
end
section
open Go.RowKit Ck Ma
theorem rm_path (mv ev sv:Value) (s:PSchema) (name t:Str) (w0:World) (hs:VSchema w0 [mv,ev,sv] s) (ht:t.length<=1000000000) :
  Calls Tryz.prog 38 #[.agg #[mv,ev,sv],.string (S name),.string (S t)] w0 (qez (t.length+2) w0 (pathM (envOf s) (qa4 s) name t)):=by
 have CP:=Lib.hid (fun W (k:Bel w0 W)=>rd_Path mv ev sv s name t W (VSchema.staysB hs k) ht);have CSp:=Lib.hid (fun W=>show Calls Tryz.prog 37 #[.string (S t),.int .u8 46] W (qlh W (Id.cut 46 t))from by rw [qaq];exact qma t 46 W ht);unfold qlh at CSp;have hne:=show Id.cut 46 t ≠ []by rw [qaq];exact qby 46 t
 have hpl:(Id.cut 46 t).length<=t.length+1:=by rw [qaq];exact qck 46 t
 have hple : ∀p ∈ Id.cut 46 t,p.length<=1000000000:=by rw [qaq];exact fun p hp=>Nat.le_trans (qc1 46 t p hp) ht
 have HPL:=Lib.hid hple;have V:=Lib.hid (show((Id.cut 46 t).drop 0).all Id.isPart=(qak 46 t).all (qa4 s).part by rw [←qaq];rfl);have hno:(qak 46 t).all (qa4 s).part=false->pathM (envOf s) (qa4 s) name t=(2,[]):=fun h=>by unfold pathM;rw [h];rfl
 have hyes:(qak 46 t).all (qa4 s).part=true->pathM (envOf s) (qa4 s) name t=(if(pathR s name t).1=0 then(0,nest ((pathR s name t).2.map PField.num))else((pathR s name t).1,[])):=fun h=>(qj0 s name t (fun e=>by subst e;cases h) h).1
 have hrl:(pathR s name t).2.length<=t.length+1:=qgu s name t;have HNO:=Lib.hid hno;have HYES:=Lib.hid hyes;generalize (qak 46 t).all (qa4 s).part=B at V HNO HYES;generalize pathM (envOf s) (qa4 s) name t=R at HNO HYES;generalize pathR s name t=Q at HYES CP hrl;generalize Id.cut 46 t=ps at CSp hpl V HPL hne;obtain⟨_,_,_,he,hm,hev,hsv⟩:=hs;cases he;obtain⟨q2,c2,rfl,hl2⟩:=qa5 hev;obtain⟨q3,c3,rfl,hl3⟩:=qa5 hsv;obtain⟨q1,c1,rfl,hl1⟩:=qa5 hm;clear hm hev hsv;have hS0:=Lib.hid ((ST.start w0).addbox #[.slice q1 s.msgs.length c1,.slice q2 s.enums.length c2,.slice q3 s.svcs.length c3] 26);clear hple hno hyes
 go_enter Tryz.func38,Tryz.ntmps38
 go_upto_region 2 with(go_at_call 37;(with_reducible refine(CSp.out _).mono ?_);rintro e w1 ⟨pv,rfl,hown,k1⟩;have k1:Bel _ w1:=k1;have H1:=Lib.hid (hS0.out.belw k1);obtain⟨pg,pc,hpv⟩:=qan hown;have HOW:=Lib.hid (qf7 hown);subst hpv;clear k1 hown)
 obtain⟨g,hg,HPC⟩ : ∃g,pg=some ⟨g,0,none⟩/\Hid (∀j x,ps[j]? = some x->w1.cell? ⟨g,0+j,none⟩=some (.string (S x))):=by
  rcases HOW.out with⟨h1,_⟩|⟨g,c,hc,_,_,h2⟩
  ·exact absurd h1 hne
  ·cases hc
   exact⟨g,rfl,Lib.hid h2⟩
 subst hg;clear HOW hne CSp;go_wp2
 go_loopw [9] (fun i wr => ∃(k:Nat),k<=ps.length/\i=.int .i64 k/\Hid (Bel w1 wr)/\Hid (ST w0 [] [⟨w0.heap.size,#[.slice q1 s.msgs.length c1,.slice q2 s.enums.length c2,.slice q3 s.svcs.length c3],26⟩] wr)/\Hid ((ps.drop k).all Id.isPart=B)) (fun i _=>ps.length-(intOf i).toNat)
 case atStart=>exact⟨0,by omega,rfl,Lib.hid (Bel.refl _),H1,V⟩
 case round=>as_aux_lemma=>
  clear V H1;obtain⟨k,hk,rfl,HB1,hS,hx⟩:=hrel;by_cases hlt:k<ps.length
  ·have hki:(k:Int)<(ps.length:Int):=by omega
   have c0:=HB1.out.some (HPC.out k _ (List.getElem?_eq_getElem hlt));rw [Nat.zero_add]at c0;have hst:=hx.out;rw [List.drop_eq_getElem_cons hlt,List.all_cons]at hst;have hpl1:=HPL.out _ (List.getElem_mem hlt);clear hx CP;generalize ps[k]=p at *;have CI:=Lib.hid (fun W=>qfm (S p) p W (qbi _) (by rw [qbr];omega));generalize Id.isPart p=P at CI hst;cases P with
   | true=>
    have HST:=Lib.hid (show(ps.drop (k+1)).all Id.isPart=B from hst);clear hst
    go_wp2_with (go_at_call 61;(with_reducible refine(CI.out _).mono ?_);rintro e w3 ⟨rfl,rfl⟩;have H3:=hS)
    go_roundw
    case rel=>exact⟨k+1,by omega,by go_num,HB1,H3,HST⟩
    case measure=>simp [intOf];omega
   | false=>
    have hb:false=B:=hst;have hr:=HNO.out hb.symm;subst hr;clear hst hb
    go_wp2_with (go_at_call 61;(with_reducible refine(CI.out _).mono ?_);rintro e w3 ⟨rfl,rfl⟩;have H3:=hS)
    go_ret2;exact qcw H3.out.bel
  ·have hkl:k=ps.length:=by omega
   have hb:true=B:=by have:=hx.out;rw [hkl,List.drop_length]at this;exact this
   have hr:=HYES.out hb.symm;have C2:=Lib.hid (CP.out wr hS.out.bel);have t0:=hS.out.cell 0 rfl 0;have t1:=hS.out.cell 0 rfl 1;have t2:=hS.out.cell 0 rfl 2;dsimp only at t0 t1 t2;have HBel:=Lib.hid hS.out.bel;clear hx CP HNO HYES HPL hb;subst hkl;by_cases hq:Q.1=0
   ·rw [if_pos hq]at hr
    obtain⟨q1,ql⟩:=Q;dsimp only at hq hrl C2 hr;subst hq;obtain⟨NS,hNS⟩ : ∃NS,NS=ql.map PField.num:=⟨_,rfl⟩;rw [←hNS]at hr;subst hr;have HNS:=Lib.hid hNS;clear hNS
    go_upto_region 10 with(go_at_call 62;(with_reducible refine C2.out.mono ?_);rintro e w3 ⟨v3,rfl,L,hS3,hfe,hLe⟩;have HFE:=Lib.hid hfe;have HLE:=Lib.hid hLe;have H3:=Lib.hid hS3;clear hS3 hfe hLe)
    obtain⟨qo,co,hvo⟩:=qan (H3.out.row 0 rfl);dsimp only [frow]at hvo;subst hvo;have hLl:L.length<=t.length+1:=by have:=congrArg List.length HLE.out;simp at this;omega
    have HLN:=Lib.hid (show(L.map fun x=>x.f.num)=NS by rw [HNS.out, ←HLE.out,List.map_map];rfl);have hnl:NS.length=L.length:=by rw [←HLN.out,List.length_map]
    have HNL:=Lib.hid hnl;clear C2 t0 t1 t2 hnl;obtain⟨wo,hwo⟩ : ∃wo:World,wo=wr:=⟨_,rfl⟩;subst hwo;go_wp2
    go_loopw [12,13] (fun vo vi wr => ∃(k:Nat) (z:Int),k<=L.length/\z=(k:Int)-1/\vi=.int .i64 z/\Hid (ST wo [frow (.slice qo L.length co) L] [] wr)/\Hid (MaskD (fun b=>w0.heap.size<=b) (L.length-k) wr vo (nest (NS.drop k)))) (fun _ vi _=>(intOf vi+1).toNat)
    case atStart=>exact⟨L.length,_,by omega,rfl,rfl,H3,Lib.hid (by rw [List.drop_of_length_le (by rw [HNL.out];omega)];exact MaskD.nil _ _)⟩
    case round=>as_aux_lemma=>
     clear H3;obtain⟨k,z,hk,hz,rfl,hS,hM⟩:=hrel;obtain⟨mp,mc,hvo⟩:=hM.out.form;subst hvo;cases k with
     | zero=>
      have hz2:z = -1:=by rw [hz];rfl
      subst hz2;have HMM:=Lib.hid (hM.out.le (show L.length-0<=t.length+2 by omega));have HBB:=Lib.hid (Bel.of HBel.out hS.out.bel);clear hz hM;go_wp2;go_ret2;exact⟨.slice mp (nest (NS.drop 0)).length mc,rfl,HMM.out,HBB.out⟩
     | succ kp=>
      have hz2:z=(kp:Int):=by rw [hz];simp
      subst hz2;have hkp:kp<L.length:=by omega
      have hkpi:(kp:Int)<(L.length:Int):=by omega
      have hkn:kp<NS.length:=by rw [HNL.out];exact hkp
      have hnk:NS[kp]=L[kp].f.num:=by
       have:=congrArg (fun l=>l[kp]?) HLN.out;simp only [List.getElem?_map,List.getElem?_eq_getElem hkp,List.getElem?_eq_getElem hkn,Option.map_some]at this;exact(Option.some.inj this).symm
      have hnest:=nest_at hkn;rw [hnk]at hnest;rcases qj2 qnw (hS.out.row 0 rfl)with⟨_,h2⟩|⟨gq,cq,hvo2,hgb,hgl,hcl,hel⟩
      ·change L=[]at h2
       rw [h2]at hkp;cases hkp
      dsimp only [frow]at hvo2 hel;cases hvo2;have e0:=hel kp _ (List.getElem?_eq_getElem hkp) 0 _ (HFE.out _ (List.getElem_mem hkp)).1;rw [Nat.add_zero]at e0;have HNE:=Lib.hid hnest;have hbw:w0.heap.size<=wr.heap.size:=(Bel.of HBel.out hS.out.bel).size;have hM2:=Lib.hid (qk7 (z:=L[kp].f.num) hM.out hbw);generalize L[kp].f.num=nk at *;have hlev:L.length-(kp+1)+1=L.length-kp:=by omega
      have HLV:=Lib.hid hlev;have HSN:=Lib.hid (hS.out.belw ((Bel.refl wr).alloc (.cells #[.int .i64 nk,.slice mp (nest (NS.drop (kp+1))).length mc] 61)));clear hz hel hnest hnk hM hS hlev;go_wp2;go_roundw
      case rel=>exact⟨kp,_,by omega,rfl,by go_num,HSN,Lib.hid (by rw [HNE.out, ←HLV.out];exact hM2.out)⟩
      case measure=>simp [intOf] <;> omega
   ·rw [if_neg hq]at hr
    subst hr;have hqb:(Q.1 != 0)=true:=bne_t hq;clear hq
    go_wp2_with (go_at_call 62;(with_reducible refine C2.out.mono ?_);rintro e w3 ⟨v3,rfl,L,hS3,hfe,hLe⟩;have H3:=Lib.hid (Bel.of HBel.out hS3.bel);obtain⟨qo,co,hvo⟩:=qan (hS3.row 0 rfl);dsimp only [frow]at hvo;subst hvo;clear hS3 hfe hLe)
    go_ret2;exact qcw H3.out
end
end Go.Proofs.YtaaneecceiefoaaGreatDoor
