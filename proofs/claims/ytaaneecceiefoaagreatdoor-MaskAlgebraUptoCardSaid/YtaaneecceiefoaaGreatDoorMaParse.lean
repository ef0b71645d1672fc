import Derived.Test.YtaaneecceiefoaaGreatDoorMaDPath
import Derived.Test.YtaaneecceiefoaaGreatDoorCkOut
import Derived.Test.YtaaneecceiefoaaGreatDoorMaUnion
set_option maxRecDepth 100000
set_option maxHeartbeats 4000000
set_option linter.unusedVariables false
set_option linter.unusedSimpArgs false
namespace Go.Proofs.YtaaneecceiefoaaGreatDoor
section
open Go.RowKit Ck Ma
def qm2 (n:Nat) (w:World) (R:Int × List PMask) (e:Ending) (w':World):Prop := ∃v,e=.returned (.tuple #[v,.int .i64 R.1])/\MaskD (fun b=>w.heap.size<=b) n w' v R.2/\Bel w w'
theorem qfc {n:Nat} {w w':World} {c:Int} (h:Bel w w'):qm2 n w (c,[]) (.returned (.tuple #[.slice none 0 0,.int .i64 c])) w':=⟨_,rfl,MaskD.nil _ _,h⟩
theorem nest_at {l:List Int} {k:Nat} (h:k<l.length):nest (l.drop k)=[.mk l[k] (nest (l.drop (k+1)))]:=by
 rw [List.drop_eq_getElem_cons h];rfl
theorem qn0 {A:Nat->Prop} {n:Nat} {w:World} {z:Int} {v:Value} {l:List PMask} (h:MaskD A n w v l) (hA:A w.heap.size):MaskD A (n+1) (w.alloc (.cells #[.int .i64 z,v] 61)) (.slice (some ⟨w.heap.size,0,none⟩) 1 1) [.mk z l]:=by
 refine⟨some ⟨w.heap.size,0,none⟩,1,rfl,by simp,by simp,fun i x hx=>?_⟩
 have hi:i=0:=by
  have:=(List.getElem?_eq_some_iff.1 hx).1
  simpa using this
 subst hi;have hx2:PMask.mk z l=x:=by simpa using hx
 subst hx2;exact⟨w.heap.size,0,v,rfl,by simp,hA,by simp [PMask.num],by simp,h.bel ((Bel.refl w).alloc _)⟩
theorem mk_path (mv ev sv:Value) (s:PSchema) (name t:Str) (w0:World) (hs:VSchema w0 [mv,ev,sv] s) (hM:ML w0) (ht:t.length<=1000000) :
  Calls Tryz.prog 36 #[.agg #[mv,ev,sv],.string (S name),.string (S t)] w0 (qm2 (t.length+2) w0 (pathM (envOf s) (qa7 s) name t)):=by
 have CP:=Lib.hid (fun W (k:Bel w0 W)=>ds_Path mv ev sv s name t W (VSchema.staysB hs k) (by obtain⟨q,hq⟩:=hM;exact⟨q,k.some hq⟩) ht);have CSp:=Lib.hid (fun W (k:Bel w0 W)=>qhn (S t) 46 t W (qcb _) (by rw [qdg];omega) (by obtain⟨q,hq⟩:=hM;exact⟨q,k.some hq⟩));have hpl:(Id.cut 46 t).length<=t.length+1:=by rw [qbf];exact qd7 46 t
 have hple : ∀p ∈ Id.cut 46 t,p.length<=1000000:=by rw [qbf];exact fun p hp=>Nat.le_trans (qd8 46 t p hp) ht
 have HPL:=Lib.hid hple;have V:=Lib.hid (show((Id.cut 46 t).drop 0).all Id.isPart=(qba 46 t).all (qa7 s).part by rw [←qbf];rfl);have hno:(qba 46 t).all (qa7 s).part=false->pathM (envOf s) (qa7 s) name t=(2,[]):=fun h=>by unfold pathM;rw [h];rfl
 have hyes:(qba 46 t).all (qa7 s).part=true->pathM (envOf s) (qa7 s) name t=(if(pathR s name t).1=0 then(0,nest ((pathR s name t).2.map PField.num))else((pathR s name t).1,[])):=fun h=>(qkv s name t (fun e=>by subst e;cases h) h).1
 have hrl:(pathR s name t).2.length<=t.length+1:=qif s name t;have HNO:=Lib.hid hno;have HYES:=Lib.hid hyes;generalize (qba 46 t).all (qa7 s).part=B at V HNO HYES;generalize pathM (envOf s) (qa7 s) name t=R at HNO HYES;generalize pathR s name t=Q at HYES CP hrl;generalize Id.cut 46 t=ps at CSp hpl V HPL;obtain⟨_,_,_,he,hm,hev,hsv⟩:=hs;cases he;obtain⟨q2,c2,rfl,hl2⟩:=qa6 hev;obtain⟨q3,c3,rfl,hl3⟩:=qa6 hsv;obtain⟨q1,c1,rfl,hl1⟩:=qa6 hm;clear hm hev hsv;have hS0:=Lib.hid ((ST.start w0).addbox #[.slice q1 s.msgs.length c1,.slice q2 s.enums.length c2,.slice q3 s.svcs.length c3] 26);clear hM hple hno hyes;have C1:=Lib.hid (CSp.out _ hS0.out.bel);have H1':=hS0.out.addbox (ps.map strV).toArray 9;simp only [World.size_alloc]at H1';have H1:=Lib.hid H1';clear H1' CSp
 go_enter Tryz.func36,Tryz.ntmps36
 go_wp2_with (go_at_call 35;(with_reducible refine C1.out.mono ?_);rintro e w2 ⟨rfl,hw2⟩;subst hw2)
 generalize hwp:World.alloc (World.alloc w0 _) _=wp at H1 ⊢;clear hwp
 go_loopw [17] (fun i wr => ∃(k:Nat),k<=ps.length/\i=.int .i64 k/\Hid (ST w0 [] [⟨w0.heap.size+1,(ps.map strV).toArray,9⟩,⟨w0.heap.size,#[.slice q1 s.msgs.length c1,.slice q2 s.enums.length c2,.slice q3 s.svcs.length c3],26⟩] wr)/\Hid ((ps.drop k).all Id.isPart=B)) (fun i _=>ps.length-(intOf i).toNat)
 case atStart=>exact⟨0,by omega,rfl,H1,V⟩
 case round=>as_aux_lemma=>
  clear V H1 C1;obtain⟨k,hk,rfl,hS,hx⟩:=hrel;by_cases hlt:k<ps.length
  ·have hki:(k:Int)<(ps.length:Int):=by omega
   have c0:=(hS.out.cell 0 rfl k).trans (show(ps.map strV).toArray[k]? = some (.string (S ps[k]))by simp [strV,hlt]);dsimp only at c0;have hst:=hx.out;rw [List.drop_eq_getElem_cons hlt,List.all_cons]at hst;have hpl1:=HPL.out _ (List.getElem_mem hlt);clear hx CP;generalize ps[k]=p at *;have CI:=Lib.hid (fun W=>qna (S p) p W (qcb _) (by rw [qdg];omega));generalize Id.isPart p=P at CI hst;cases P with
   | true=>
    have HST:=Lib.hid (show(ps.drop (k+1)).all Id.isPart=B from hst);clear hst
    go_wp2_with (go_at_call 59;(with_reducible refine(CI.out _).mono ?_);rintro e w3 ⟨rfl,k3⟩;have k3:Bel _ w3:=k3;have H3:=Lib.hid (hS.out.belw k3);clear k3)
    go_roundw
    case rel=>exact⟨k+1,by omega,by go_num,H3,HST⟩
    case measure=>simp [intOf];omega
   | false=>
    have hb:false=B:=hst;have hr:=HNO.out hb.symm;subst hr;clear hst hb
    go_wp2_with (go_at_call 59;(with_reducible refine(CI.out _).mono ?_);rintro e w3 ⟨rfl,k3⟩;have k3:Bel _ w3:=k3;have H3:=Lib.hid (hS.out.belw k3);clear k3)
    go_ret2;exact qfc H3.out.bel
  ·have hkl:k=ps.length:=by omega
   have hb:true=B:=by have:=hx.out;rw [hkl,List.drop_length]at this;exact this
   have hr:=HYES.out hb.symm;have C2:=Lib.hid (CP.out wr hS.out.bel);have t0:=hS.out.cell 1 rfl 0;have t1:=hS.out.cell 1 rfl 1;have t2:=hS.out.cell 1 rfl 2;dsimp only at t0 t1 t2;have HBel:=Lib.hid hS.out.bel;clear hx CP HNO HYES HPL hb;subst hkl;by_cases hq:Q.1=0
   ·rw [if_pos hq]at hr
    obtain⟨q1,ql⟩:=Q;dsimp only at hq hrl C2 hr;subst hq;obtain⟨NS,hNS⟩ : ∃NS,NS=ql.map PField.num:=⟨_,rfl⟩;rw [←hNS]at hr;subst hr;have HNS:=Lib.hid hNS;clear hNS
    go_upto_region 10 with(go_at_call 60;(with_reducible refine C2.out.mono ?_);rintro e w3 ⟨v3,rfl,L,hS3,hfe,hLe⟩;have HFE:=Lib.hid hfe;have HLE:=Lib.hid hLe;have H3:=Lib.hid hS3;clear hS3 hfe hLe)
    obtain⟨qo,co,hvo⟩:=qap (H3.out.row 0 rfl);dsimp only [frow]at hvo;subst hvo;have hLl:L.length<=t.length+1:=by have:=congrArg List.length HLE.out;simp at this;omega
    have HLN:=Lib.hid (show(L.map fun x=>x.f.num)=NS by rw [HNS.out, ←HLE.out,List.map_map];rfl);have hnl:NS.length=L.length:=by rw [←HLN.out,List.length_map]
    have HNL:=Lib.hid hnl;clear C2 t0 t1 t2 hnl;obtain⟨wo,hwo⟩ : ∃wo:World,wo=wr:=⟨_,rfl⟩;subst hwo;go_wp2
    go_loopw [12,13] (fun vo vi wr => ∃(k:Nat) (z:Int),k<=L.length/\z=(k:Int)-1/\vi=.int .i64 z/\Hid (ST wo [frow (.slice qo L.length co) L] [] wr)/\Hid (MaskD (fun b=>w0.heap.size<=b) (L.length-k) wr vo (nest (NS.drop k)))) (fun _ vi _=>(intOf vi+1).toNat)
    case atStart=>exact⟨L.length,_,by omega,rfl,rfl,H3,Lib.hid (by rw [List.drop_of_length_le (by rw [HNL.out];omega)];exact MaskD.nil _ _)⟩
    case round=>as_aux_lemma=>
     clear H3;obtain⟨k,z,hk,hz,rfl,hS,hM⟩:=hrel;obtain⟨mp,mc,hvo⟩:=hM.out.form;subst hvo;cases k with
     | zero=>
      have hz2:z = -1:=by rw [hz];rfl
      subst hz2;have HMM:=Lib.hid (hM.out.le (show L.length-0<=t.length+2 by omega));have HBB:=Lib.hid (Bel.of HBel.out hS.out.bel);clear hz hM;go_wp2;go_ret2;exact⟨.slice mp (nest (NS.drop 0)).length mc,rfl,HMM.out,HBB.out⟩
     | succ kp=>
      have hz2:z=(kp:Int):=by rw [hz];simp
      subst hz2;have hkp:kp<L.length:=by omega
      have hkpi:(kp:Int)<(L.length:Int):=by omega
      have hkn:kp<NS.length:=by rw [HNL.out];exact hkp
      have hnk:NS[kp]=L[kp].f.num:=by
       have:=congrArg (fun l=>l[kp]?) HLN.out;simp only [List.getElem?_map,List.getElem?_eq_getElem hkp,List.getElem?_eq_getElem hkn,Option.map_some]at this;exact(Option.some.inj this).symm
      have hnest:=nest_at hkn;rw [hnk]at hnest;rcases qjh feC_len (hS.out.row 0 rfl)with⟨_,h2⟩|⟨gq,cq,hvo2,hgb,hgl,hcl,hel⟩
      ·change L=[]at h2
       rw [h2]at hkp;cases hkp
      dsimp only [frow]at hvo2 hel;cases hvo2;have e0:=hel kp _ (List.getElem?_eq_getElem hkp) 0 _ (HFE.out _ (List.getElem_mem hkp)).1;rw [Nat.add_zero]at e0;have HNE:=Lib.hid hnest;have hbw:w0.heap.size<=wr.heap.size:=(Bel.of HBel.out hS.out.bel).size;have hM2:=Lib.hid (qn0 (z:=L[kp].f.num) hM.out hbw);generalize L[kp].f.num=nk at *;have hlev:L.length-(kp+1)+1=L.length-kp:=by omega
      have HLV:=Lib.hid hlev;have HSN:=Lib.hid (hS.out.belw ((Bel.refl wr).alloc (.cells #[.int .i64 nk,.slice mp (nest (NS.drop (kp+1))).length mc] 61)));clear hz hel hnest hnk hM hS hlev;go_wp2;go_roundw
      case rel=>exact⟨kp,_,by omega,rfl,by go_num,HSN,Lib.hid (by rw [HNE.out, ←HLV.out];exact hM2.out)⟩
      case measure=>simp [intOf] <;> omega
   ·rw [if_neg hq]at hr
    subst hr;have hqb:(Q.1 != 0)=true:=bne_t hq;clear hq
    go_wp2_with (go_at_call 60;(with_reducible refine C2.out.mono ?_);rintro e w3 ⟨v3,rfl,L,hS3,hfe,hLe⟩;have H3:=Lib.hid (Bel.of HBel.out hS3.bel);obtain⟨qo,co,hvo⟩:=qap (hS3.row 0 rfl);dsimp only [frow]at hvo;subst hvo;clear hS3 hfe hLe)
    go_ret2;exact qfc H3.out
end
section
open Go.RowKit Ck Ma
theorem qi4 : ∀(n:Nat) {a b:List PMask},Srt n a->Srt n b->Srt n (union n a b)
 | 0,_,_,_,_=>rfl
 | n+1,a,b,ha,hb=>by
  refine⟨qdf ha.1 hb.1,fun z hz=>?_⟩;have hz2:=mem_isort.1 hz;unfold qbo at hz2;rcases List.mem_append.1 hz2 with h|h
  ·obtain⟨x,hx,rfl⟩:=List.mem_map.1 h
   unfold uniA
   split
   ·rename_i y hy
    unfold joinF;show Srt n (if _ then _ else _)
    split
    ·exact Srt.nil _
    ·exact qi4 n (ha.2 x hx) (hb.2 y (qac hy).1)
   ·exact ha.2 x hx
  ·exact hb.2 z (List.mem_filter.1 h).1
theorem qmt (s:PSchema) (nm t:Str) {n:Nat} (hn:t.length+2<=n):Srt n (pathM (envOf s) (qa7 s) nm t).2/\Wd 1 n (pathM (envOf s) (qa7 s) nm t).2:=by
 by_cases hp:(qba 46 t).all (qa7 s).part=true
 ·rw [(qkv s nm t (fun e=>by subst e;cases hp) hp).1]
  have hl:=qif s nm t
  split
  ·exact⟨qk6 n _ (by rw [List.length_map];omega),wd_nest n _⟩
  ·exact⟨Srt.nil _,Wd.nil _ _⟩
 ·have:pathM (envOf s) (qa7 s) nm t=(2,[]):=by unfold pathM;rw [if_neg hp]
  rw [this];exact⟨Srt.nil _,Wd.nil _ _⟩
theorem mk_Parse (mv ev sv:Value) (s:PSchema) (name t:Str) (w0:World) (hs:VSchema w0 [mv,ev,sv] s) (hM:ML w0) (ht:t.length<=1000000) :
  Calls Tryz.prog 12 #[.agg #[mv,ev,sv],.string (S name),.string (S t)] w0 (qm2 (t.length+2) w0 (parse (envOf s) (qa7 s) (t.length+2) name t)):=by
 have CP:=Lib.hid (fun W (k:Bel w0 W) p (hp:p.length<=1000000)=>mk_path mv ev sv s name p W (VSchema.staysB hs k) (by obtain⟨q,hq⟩:=hM;exact⟨q,k.some hq⟩) hp);have CSp:=Lib.hid (fun W (k:Bel w0 W)=>qhn (S t) 44 t W (qcb _) (by rw [qdg];omega) (by obtain⟨q,hq⟩:=hM;exact⟨q,k.some hq⟩));have CM0:=Lib.hid (fun W (k:Bel w0 W)=>qc1 mv ev sv s name w0 W k hs);have CU0:qlz (t.length+2):=qfn (t.length+1);unfold qlz at CU0;have CU:=Lib.hid CU0;clear CU0;obtain⟨_,_,_,he,hm,hev,hsv⟩:=hs;cases he;obtain⟨q2,c2,rfl,hl2⟩:=qa6 hev;obtain⟨q3,c3,rfl,hl3⟩:=qa6 hsv;obtain⟨q1,c1,rfl,hl1⟩:=qa6 hm;clear hm hev hsv;have hS0:=Lib.hid ((ST.start w0).addbox #[.slice q1 s.msgs.length c1,.slice q2 s.enums.length c2,.slice q3 s.svcs.length c3] 26);clear hM;cases hm:msgOf s name with
 | none=>
  have hr:parse (envOf s) (qa7 s) (t.length+2) name t=(10,[]):=by unfold parse;rw [has_eq,hm];rfl
  rw [hr];rw [hm]at CM0;clear hr hm CP CSp CU
  go_enter Tryz.func12,Tryz.ntmps12
  go_wp2_with (first
   | (go_at_call 26;(with_reducible refine(CM0.out _ hS0.out.bel).mono ?_);rintro e w1 ⟨vm,rfl,hvs,k1⟩;have k1:Bel _ w1:=k1;have hv0:vm=zMsg:=hvs;subst hv0;have H1:=Lib.hid ((hS0.out.belw k1).addbox zMsg.toArray 57);clear k1 hvs)
   | (refine qa3 (old:=#[.string ⟨#[]⟩,.slice none 0 0,.slice none 0 0,.slice none 0 0,.slice none 0 0]) rfl 57 _ _ rfl w1 rfl w1.heap.size rfl zMsg.toArray rfl rfl ar_M rfl (by simp [zMsg,Value.oneCell']) ?_))
  go_ret2;exact qfc H1.out.bel
 | some m=>
  rw [hm]at CM0;have hh:(envOf s).has name=true:=by rw [has_eq,hm];rfl
  have ARM:=0;clear ARM;by_cases ht0:t=[]
  ·have hr:parse (envOf s) (qa7 s) (t.length+2) name t=(0,[]):=by unfold parse;rw [hh,if_neg (by simp),if_pos ht0]
   rw [hr];have hte:(S t).toList=[]:=by rw [ByteArray.toList_eq,qcb,ht0]
   have hte2:(S t).toList.isEmpty=true:=by rw [ByteArray.toList_eq,qcb,ht0];rfl
   clear hr hm ht0 CP CSp CU hh
   go_enter Tryz.func12,Tryz.ntmps12
   go_wp2_with (first
    | (go_at_call 26;(with_reducible refine(CM0.out _ hS0.out.bel).mono ?_);rintro e w1 ⟨vm,rfl,hvs,k1⟩;have k1:Bel _ w1:=k1;have HVM:=Lib.hid (show VMsg w0 vm m from hvs);obtain⟨hlen,hone⟩:=qcr hvs;have HVS:=Lib.hid hvs;have Z0:vm.toArray.size=5:=(by rw [List.size_toArray];exact hlen);have Z1:=Lib.hid (show(Tryz.prog.info? 57).map (·.size)=some vm.toArray.size by rw [Z0];exact ar_M);have Z2:=Lib.hid (show(#[.string ⟨#[]⟩,.slice none 0 0,.slice none 0 0,.slice none 0 0,.slice none 0 0]:Array Value).size=vm.toArray.size by rw [Z0];rfl);have HO:=Lib.hid hone;clear hlen hone Z0 hvs;have H1:=Lib.hid ((hS0.out.belw k1).addbox vm.toArray 57);clear k1)
    | (refine qa3 (old:=#[.string ⟨#[]⟩,.slice none 0 0,.slice none 0 0,.slice none 0 0,.slice none 0 0]) rfl 57 _ _ rfl w1 rfl w1.heap.size rfl vm.toArray rfl rfl Z1.out Z2.out HO.out ?_))
   go_ret2;exact qfc H1.out.bel
  ·have hte:(S t).toList ≠ []:=by rw [ByteArray.toList_eq,qcb];exact ht0
   have hte2:(S t).toList.isEmpty=false:=by rw [ByteArray.toList_eq,qcb];simpa using ht0
   have hpe:parse (envOf s) (qa7 s) (t.length+2) name t=if 32<(Id.cut 44 t).length then(3,[])else qgh (envOf s) (qa7 s) (t.length+2) name [] ((Id.cut 44 t).drop 0):=by unfold parse;rw [hh,if_neg (by simp),if_neg ht0,qbf];rfl
   have hple : ∀p ∈ Id.cut 44 t,p.length<=t.length:=by rw [qbf];exact fun p hp=>qd8 44 t p hp
   have HPL:=Lib.hid hple;generalize parse (envOf s) (qa7 s) (t.length+2) name t=R at hpe;generalize Id.cut 44 t=ps at CSp hpe HPL;clear hm ht0 hh hple;by_cases h32:32<ps.length
   ·rw [if_pos h32]at hpe
    subst hpe;have h32i:(32:Int)<(ps.length:Int):=by omega
    clear CP CU HPL
    go_enter Tryz.func12,Tryz.ntmps12
    go_upto_region 6 with(first
     | (go_at_call 26;(with_reducible refine(CM0.out _ hS0.out.bel).mono ?_);rintro e w1 ⟨vm,rfl,hvs,k1⟩;have k1:Bel _ w1:=k1;have HVM:=Lib.hid (show VMsg w0 vm m from hvs);obtain⟨hlen,hone⟩:=qcr hvs;have HVS:=Lib.hid hvs;have Z0:vm.toArray.size=5:=(by rw [List.size_toArray];exact hlen);have Z1:=Lib.hid (show(Tryz.prog.info? 57).map (·.size)=some vm.toArray.size by rw [Z0];exact ar_M);have Z2:=Lib.hid (show(#[.string ⟨#[]⟩,.slice none 0 0,.slice none 0 0,.slice none 0 0,.slice none 0 0]:Array Value).size=vm.toArray.size by rw [Z0];rfl);have HO:=Lib.hid hone;clear hlen hone Z0 hvs;have H1:=Lib.hid ((hS0.out.belw k1).addbox vm.toArray 57);clear k1)
     | (refine qa3 (old:=#[.string ⟨#[]⟩,.slice none 0 0,.slice none 0 0,.slice none 0 0,.slice none 0 0]) rfl 57 _ _ rfl w1 rfl w1.heap.size rfl vm.toArray rfl rfl Z1.out Z2.out HO.out ?_))
    have C1:=Lib.hid (CSp.out _ H1.out.bel);have H2:=Lib.hid (H1.out.addbox (ps.map strV).toArray 9)
    go_wp2_with (go_at_call 35;(with_reducible refine C1.out.mono ?_);rintro e w2 ⟨rfl,hw2⟩;subst hw2)
    go_ret2;exact qfc H2.out.bel
   ·rw [if_neg h32]at hpe
    have V:=Lib.hid hpe.symm;have h32i:(ps.length:Int)<=32:=by omega
    have h32n:ps.length<=32:=by omega
    have hd32:decide ((32:Int)<(ps.length:Int))=false:=by simpa using h32i
    clear hpe h32
    go_enter Tryz.func12,Tryz.ntmps12
    go_upto_region 6 with(first
     | (go_at_call 26;(with_reducible refine(CM0.out _ hS0.out.bel).mono ?_);rintro e w1 ⟨vm,rfl,hvs,k1⟩;have k1:Bel _ w1:=k1;have HVM:=Lib.hid (show VMsg w0 vm m from hvs);obtain⟨hlen,hone⟩:=qcr hvs;have HVS:=Lib.hid hvs;have Z0:vm.toArray.size=5:=(by rw [List.size_toArray];exact hlen);have Z1:=Lib.hid (show(Tryz.prog.info? 57).map (·.size)=some vm.toArray.size by rw [Z0];exact ar_M);have Z2:=Lib.hid (show(#[.string ⟨#[]⟩,.slice none 0 0,.slice none 0 0,.slice none 0 0,.slice none 0 0]:Array Value).size=vm.toArray.size by rw [Z0];rfl);have HO:=Lib.hid hone;clear hlen hone Z0 hvs;have H1:=Lib.hid ((hS0.out.belw k1).addbox vm.toArray 57);clear k1)
     | (refine qa3 (old:=#[.string ⟨#[]⟩,.slice none 0 0,.slice none 0 0,.slice none 0 0,.slice none 0 0]) rfl 57 _ _ rfl w1 rfl w1.heap.size rfl vm.toArray rfl rfl Z1.out Z2.out HO.out ?_))
    have C1:=Lib.hid (CSp.out _ H1.out.bel);have H2':=H1.out.addbox (ps.map strV).toArray 9
    go_upto_region 9 with(go_at_call 35;(with_reducible refine C1.out.mono ?_);rintro e w2 ⟨rfl,hw2⟩;subst hw2)
    simp only [World.size_alloc]at H2';have H2:=Lib.hid H2';generalize hwp:World.alloc (World.alloc w1 _) _=wp at H2 ⊢;clear hwp H2' C1 H1 HVS;generalize hmb:w1.heap.size=mb at H2 ⊢;clear hmb
    go_wp2_with (fail)
    go_loopw [11,33] (fun vo i wr => ∃(k:Nat) (acc:List PMask),k<=ps.length/\i=.int .i64 k/\Hid (ST w0 [] [⟨mb+1,(ps.map strV).toArray,9⟩,⟨mb,vm.toArray,57⟩,⟨w0.heap.size,#[.slice q1 s.msgs.length c1,.slice q2 s.enums.length c2,.slice q3 s.svcs.length c3],26⟩] wr)/\Hid (MaskD (fun b=>w0.heap.size<=b) (t.length+2) wr vo acc/\Srt (t.length+2) acc/\Wd k (t.length+2) acc)/\Hid (qgh (envOf s) (qa7 s) (t.length+2) name acc (ps.drop k)=R)) (fun _ i _=>ps.length-(intOf i).toNat)
    case atStart=>exact⟨0,[],by omega,rfl,H2,Lib.hid ⟨MaskD.nil _ _,Srt.nil _,Wd.nil _ _⟩,V⟩
    case round=>as_aux_lemma=>
     clear V H2;obtain⟨k,acc,hk,rfl,hS,hA,hx⟩:=hrel;obtain⟨ap,ac,hvo⟩:=hA.out.1.form;subst hvo;by_cases hlt:k<ps.length
     ·have hki:(k:Int)<(ps.length:Int):=by omega
      have c0:=(hS.out.cell 0 rfl k).trans (show(ps.map strV).toArray[k]? = some (.string (S ps[k]))by simp [strV,hlt]);have t0:=hS.out.cell 2 rfl 0;have t1:=hS.out.cell 2 rfl 1;have t2:=hS.out.cell 2 rfl 2;dsimp only at c0 t0 t1 t2;have hst:=hx.out;rw [List.drop_eq_getElem_cons hlt]at hst;have hpl1:=HPL.out _ (List.getElem_mem hlt);clear hx HPL;generalize ps[k]=p at *;have hst2:(if(pathM (envOf s) (qa7 s) name p).1 ≠ 0 then((pathM (envOf s) (qa7 s) name p).1,[])else qgh (envOf s) (qa7 s) (t.length+2) name (union (t.length+2) acc (pathM (envOf s) (qa7 s) name p).2) (ps.drop (k+1)))=R:=hst;have C1:=Lib.hid (CP.out wr hS.out.bel p (by omega));have hsw:=qmt s name p (n:=t.length+2) (by omega);generalize pathM (envOf s) (qa7 s) name p=Q at hst2 C1 hsw;obtain⟨q1,qm⟩:=Q;dsimp only at hst2 hsw;have HSW:=Lib.hid hsw;have HWA:=Lib.hid (hA.out.2.2.mono (show k<=1000000000 by omega));have HWQ:=Lib.hid (hsw.2.mono (show 1<=1000000000 by omega));clear hst CP hsw;by_cases hq:q1=0
      ·subst hq
       rw [if_neg (by simp)]at hst2;have HST:=Lib.hid hst2;clear hst2
       go_wp2_with (first
        | (go_at_call 36;(with_reducible refine C1.out.mono ?_);rintro e w3 ⟨v3,rfl,hm3,k3⟩;have k3:Bel _ w3:=k3;obtain⟨p33,c33,hv3⟩:=hm3.form;subst hv3;have H3:=Lib.hid (hS.out.belw k3);have M3:=Lib.hid (MaskD.weak (A':=fun b=>w0.heap.size<=b/\b<w3.heap.size) (hm3.le (show p.length+2<=t.length+2 by omega)) (fun b hb hl=>⟨Nat.le_trans hS.out.bel.size hb,hl⟩));have A3:=Lib.hid (MaskD.weak (A':=fun b=>w0.heap.size<=b/\b<w3.heap.size) (hA.out.1.bel k3) (fun b hb hl=>⟨hb,hl⟩));clear k3 hm3)
        | (go_at_call 22;(with_reducible refine(CU.out _ _ _ acc qm w3 (fun b hb=>hb.2) A3.out M3.out hA.out.2.1 HSW.out.1 HWA.out HWQ.out).mono ?_);rintro e w4 ⟨v4,rfl,hm4,k4⟩;have k4:Bel _ w4:=k4;have H4:=Lib.hid (H3.out.belw k4);have M4:=Lib.hid (MaskD.weak (A':=fun b=>w0.heap.size<=b) hm4 (fun b hb _=>hb.elim (fun h=>h.1) (fun h=>Nat.le_trans H3.out.bel.size h)));clear k4 hm4))
       go_roundw
       case rel=>exact⟨k+1,_,by omega,by go_num,H4,Lib.hid ⟨M4.out,qi4 _ hA.out.2.1 HSW.out.1,qjw k 1 _ hA.out.2.2 HSW.out.2⟩,HST⟩
       case measure=>simp [intOf];omega
      ·rw [if_pos hq]at hst2
       subst hst2;have hqb:(q1 != 0)=true:=bne_t hq;clear hq CU
       go_wp2_with (go_at_call 36;(with_reducible refine C1.out.mono ?_);rintro e w3 ⟨v3,rfl,hm3,k3⟩;have k3:Bel _ w3:=k3;obtain⟨p33,c33,hv3⟩:=hm3.form;subst hv3;have H3:=Lib.hid (hS.out.belw k3);clear k3 hm3)
       go_ret2;exact qfc H3.out.bel
     ·have hkl:k=ps.length:=by omega
      have hr:(0,acc)=R:=by have:=hx.out;rw [hkl,List.drop_length]at this;exact this
      subst hr;clear hx CP CU;go_wp2;go_ret2;exact⟨.slice ap acc.length ac,rfl,hA.out.1,hS.out.bel⟩
end
end Go.Proofs.YtaaneecceiefoaaGreatDoor
