import Derived.Test.YtaaneecceiefoaaGreatDoorMaDPath
import Derived.Test.YtaaneecceiefoaaGreatDoorMdLaw
import Derived.Test.YtaaneecceiefoaaGreatDoorMaVM
import Derived.Test.YtaaneecceiefoaaGreatDoorShelf
import Derived.Test.YtaaneecceiefoaaGreatDoorMaFind
import Derived.Test.YtaaneecceiefoaaGreatDoorMaKeep
set_option maxRecDepth 100000
set_option maxHeartbeats 4000000
set_option linter.unusedVariables false
set_option linter.unusedSimpArgs false
namespace Go.Proofs.YtaaneecceiefoaaGreatDoor
section
open Go.RowKit Ck Ma
def qez (n:Nat) (w:World) (R:Int × List PMask) (e:Ending) (w':World):Prop := ∃v,e=.returned (.tuple #[v,.int .i64 R.1])/\MaskD (fun b=>w.heap.size<=b) n w' v R.2/\Bel w w'
theorem qcw {n:Nat} {w w':World} {c:Int} (h:Bel w w'):qez n w (c,[]) (.returned (.tuple #[.slice none 0 0,.int .i64 c])) w':=⟨_,rfl,MaskD.nil _ _,h⟩
theorem nest_at {l:List Int} {k:Nat} (h:k<l.length):nest (l.drop k)=[.mk l[k] (nest (l.drop (k+1)))]:=by
 rw [List.drop_eq_getElem_cons h];rfl
theorem qk7 {A:Nat->Prop} {n:Nat} {w:World} {z:Int} {v:Value} {l:List PMask} (h:MaskD A n w v l) (hA:A w.heap.size):MaskD A (n+1) (w.alloc (.cells #[.int .i64 z,v] 61)) (.slice (some ⟨w.heap.size,0,none⟩) 1 1) [.mk z l]:=by
 refine⟨some ⟨w.heap.size,0,none⟩,1,rfl,by simp,by simp,fun i x hx=>?_⟩
 have hi:i=0:=by
  have:=(List.getElem?_eq_some_iff.1 hx).1
  simpa using this
 subst hi;have hx2:PMask.mk z l=x:=by simpa using hx
 subst hx2;exact⟨w.heap.size,0,v,rfl,by simp,hA,by simp [PMask.num],by simp,h.bel ((Bel.refl w).alloc _)⟩
theorem mk_path (mv ev sv:Value) (s:PSchema) (name t:Str) (w0:World) (hs:VSchema w0 [mv,ev,sv] s) (hM:ML w0) (ht:t.length<=1000000000) :
  Calls Tryz.prog 36 #[.agg #[mv,ev,sv],.string (S name),.string (S t)] w0 (qez (t.length+2) w0 (pathM (envOf s) (qa4 s) name t)):=by
 have CP:=Lib.hid (fun W (k:Bel w0 W)=>ds_Path mv ev sv s name t W (VSchema.staysB hs k) (by obtain⟨q,hq⟩:=hM;exact⟨q,k.some hq⟩) ht);have CSp:=Lib.hid (fun W (k:Bel w0 W)=>qjc (S t) 46 t W (qbi _) (by rw [qbr];omega) (by obtain⟨q,hq⟩:=hM;exact⟨q,k.some hq⟩));have hpl:(Id.cut 46 t).length<=t.length+1:=by rw [qaq];exact qck 46 t
 have hple : ∀p ∈ Id.cut 46 t,p.length<=1000000000:=by rw [qaq];exact fun p hp=>Nat.le_trans (qc1 46 t p hp) ht
 have HPL:=Lib.hid hple;have V:=Lib.hid (show((Id.cut 46 t).drop 0).all Id.isPart=(qak 46 t).all (qa4 s).part by rw [←qaq];rfl);have hno:(qak 46 t).all (qa4 s).part=false->pathM (envOf s) (qa4 s) name t=(2,[]):=fun h=>by unfold pathM;rw [h];rfl
 have hyes:(qak 46 t).all (qa4 s).part=true->pathM (envOf s) (qa4 s) name t=(if(pathR s name t).1=0 then(0,nest ((pathR s name t).2.map PField.num))else((pathR s name t).1,[])):=fun h=>(qj0 s name t (fun e=>by subst e;cases h) h).1
 have hrl:(pathR s name t).2.length<=t.length+1:=qgu s name t;have HNO:=Lib.hid hno;have HYES:=Lib.hid hyes;generalize (qak 46 t).all (qa4 s).part=B at V HNO HYES;generalize pathM (envOf s) (qa4 s) name t=R at HNO HYES;generalize pathR s name t=Q at HYES CP hrl;generalize Id.cut 46 t=ps at CSp hpl V HPL;obtain⟨_,_,_,he,hm,hev,hsv⟩:=hs;cases he;obtain⟨q2,c2,rfl,hl2⟩:=qa5 hev;obtain⟨q3,c3,rfl,hl3⟩:=qa5 hsv;obtain⟨q1,c1,rfl,hl1⟩:=qa5 hm;clear hm hev hsv;have hS0:=Lib.hid ((ST.start w0).addbox #[.slice q1 s.msgs.length c1,.slice q2 s.enums.length c2,.slice q3 s.svcs.length c3] 26);clear hM hple hno hyes;have C1:=Lib.hid (CSp.out _ hS0.out.bel);have H1':=hS0.out.addbox (ps.map strV).toArray 9;simp only [World.size_alloc]at H1';have H1:=Lib.hid H1';clear H1' CSp
 go_enter Tryz.func36,Tryz.ntmps36
 go_wp2_with (go_at_call 35;(with_reducible refine C1.out.mono ?_);rintro e w2 ⟨rfl,hw2⟩;subst hw2)
 generalize hwp:World.alloc (World.alloc w0 _) _=wp at H1 ⊢;clear hwp
 go_loopw [17] (fun i wr => ∃(k:Nat),k<=ps.length/\i=.int .i64 k/\Hid (ST w0 [] [⟨w0.heap.size+1,(ps.map strV).toArray,9⟩,⟨w0.heap.size,#[.slice q1 s.msgs.length c1,.slice q2 s.enums.length c2,.slice q3 s.svcs.length c3],26⟩] wr)/\Hid ((ps.drop k).all Id.isPart=B)) (fun i _=>ps.length-(intOf i).toNat)
 case atStart=>exact⟨0,by omega,rfl,H1,V⟩
 case round=>as_aux_lemma=>
  clear V H1 C1;obtain⟨k,hk,rfl,hS,hx⟩:=hrel;by_cases hlt:k<ps.length
  ·have hki:(k:Int)<(ps.length:Int):=by omega
   have c0:=(hS.out.cell 0 rfl k).trans (show(ps.map strV).toArray[k]? = some (.string (S ps[k]))by simp [strV,hlt]);dsimp only at c0;have hst:=hx.out;rw [List.drop_eq_getElem_cons hlt,List.all_cons]at hst;have hpl1:=HPL.out _ (List.getElem_mem hlt);clear hx CP;generalize ps[k]=p at *;have CI:=Lib.hid (fun W=>qpn (S p) p W (qbi _) (by rw [qbr];omega));generalize Id.isPart p=P at CI hst;cases P with
   | true=>
    have HST:=Lib.hid (show(ps.drop (k+1)).all Id.isPart=B from hst);clear hst
    go_wp2_with (go_at_call 59;(with_reducible refine(CI.out _).mono ?_);rintro e w3 ⟨rfl,k3⟩;have k3:Bel _ w3:=k3;have H3:=Lib.hid (hS.out.belw k3);clear k3)
    go_roundw
    case rel=>exact⟨k+1,by omega,by go_num,H3,HST⟩
    case measure=>simp [intOf];omega
   | false=>
    have hb:false=B:=hst;have hr:=HNO.out hb.symm;subst hr;clear hst hb
    go_wp2_with (go_at_call 59;(with_reducible refine(CI.out _).mono ?_);rintro e w3 ⟨rfl,k3⟩;have k3:Bel _ w3:=k3;have H3:=Lib.hid (hS.out.belw k3);clear k3)
    go_ret2;exact qcw H3.out.bel
  ·have hkl:k=ps.length:=by omega
   have hb:true=B:=by have:=hx.out;rw [hkl,List.drop_length]at this;exact this
   have hr:=HYES.out hb.symm;have C2:=Lib.hid (CP.out wr hS.out.bel);have t0:=hS.out.cell 1 rfl 0;have t1:=hS.out.cell 1 rfl 1;have t2:=hS.out.cell 1 rfl 2;dsimp only at t0 t1 t2;have HBel:=Lib.hid hS.out.bel;clear hx CP HNO HYES HPL hb;subst hkl;by_cases hq:Q.1=0
   ·rw [if_pos hq]at hr
    obtain⟨q1,ql⟩:=Q;dsimp only at hq hrl C2 hr;subst hq;obtain⟨NS,hNS⟩ : ∃NS,NS=ql.map PField.num:=⟨_,rfl⟩;rw [←hNS]at hr;subst hr;have HNS:=Lib.hid hNS;clear hNS
    go_upto_region 10 with(go_at_call 60;(with_reducible refine C2.out.mono ?_);rintro e w3 ⟨v3,rfl,L,hS3,hfe,hLe⟩;have HFE:=Lib.hid hfe;have HLE:=Lib.hid hLe;have H3:=Lib.hid hS3;clear hS3 hfe hLe)
    obtain⟨qo,co,hvo⟩:=qan (H3.out.row 0 rfl);dsimp only [frow]at hvo;subst hvo;have hLl:L.length<=t.length+1:=by have:=congrArg List.length HLE.out;simp at this;omega
    have HLN:=Lib.hid (show(L.map fun x=>x.f.num)=NS by rw [HNS.out, ←HLE.out,List.map_map];rfl);have hnl:NS.length=L.length:=by rw [←HLN.out,List.length_map]
    have HNL:=Lib.hid hnl;clear C2 t0 t1 t2 hnl;obtain⟨wo,hwo⟩ : ∃wo:World,wo=wr:=⟨_,rfl⟩;subst hwo;go_wp2
    go_loopw [12,13] (fun vo vi wr => ∃(k:Nat) (z:Int),k<=L.length/\z=(k:Int)-1/\vi=.int .i64 z/\Hid (ST wo [frow (.slice qo L.length co) L] [] wr)/\Hid (MaskD (fun b=>w0.heap.size<=b) (L.length-k) wr vo (nest (NS.drop k)))) (fun _ vi _=>(intOf vi+1).toNat)
    case atStart=>exact⟨L.length,_,by omega,rfl,rfl,H3,Lib.hid (by rw [List.drop_of_length_le (by rw [HNL.out];omega)];exact MaskD.nil _ _)⟩
    case round=>as_aux_lemma=>
     clear H3;obtain⟨k,z,hk,hz,rfl,hS,hM⟩:=hrel;obtain⟨mp,mc,hvo⟩:=hM.out.form;subst hvo;cases k with
     | zero=>
      have hz2:z = -1:=by rw [hz];rfl
      subst hz2;have HMM:=Lib.hid (hM.out.le (show L.length-0<=t.length+2 by omega));have HBB:=Lib.hid (Bel.of HBel.out hS.out.bel);clear hz hM;go_wp2;go_ret2;exact⟨.slice mp (nest (NS.drop 0)).length mc,rfl,HMM.out,HBB.out⟩
     | succ kp=>
      have hz2:z=(kp:Int):=by rw [hz];simp
      subst hz2;have hkp:kp<L.length:=by omega
      have hkpi:(kp:Int)<(L.length:Int):=by omega
      have hkn:kp<NS.length:=by rw [HNL.out];exact hkp
      have hnk:NS[kp]=L[kp].f.num:=by
       have:=congrArg (fun l=>l[kp]?) HLN.out;simp only [List.getElem?_map,List.getElem?_eq_getElem hkp,List.getElem?_eq_getElem hkn,Option.map_some]at this;exact(Option.some.inj this).symm
      have hnest:=nest_at hkn;rw [hnk]at hnest;rcases qj2 qnw (hS.out.row 0 rfl)with⟨_,h2⟩|⟨gq,cq,hvo2,hgb,hgl,hcl,hel⟩
      ·change L=[]at h2
       rw [h2]at hkp;cases hkp
      dsimp only [frow]at hvo2 hel;cases hvo2;have e0:=hel kp _ (List.getElem?_eq_getElem hkp) 0 _ (HFE.out _ (List.getElem_mem hkp)).1;rw [Nat.add_zero]at e0;have HNE:=Lib.hid hnest;have hbw:w0.heap.size<=wr.heap.size:=(Bel.of HBel.out hS.out.bel).size;have hM2:=Lib.hid (qk7 (z:=L[kp].f.num) hM.out hbw);generalize L[kp].f.num=nk at *;have hlev:L.length-(kp+1)+1=L.length-kp:=by omega
      have HLV:=Lib.hid hlev;have HSN:=Lib.hid (hS.out.belw ((Bel.refl wr).alloc (.cells #[.int .i64 nk,.slice mp (nest (NS.drop (kp+1))).length mc] 61)));clear hz hel hnest hnk hM hS hlev;go_wp2;go_roundw
      case rel=>exact⟨kp,_,by omega,rfl,by go_num,HSN,Lib.hid (by rw [HNE.out, ←HLV.out];exact hM2.out)⟩
      case measure=>simp [intOf] <;> omega
   ·rw [if_neg hq]at hr
    subst hr;have hqb:(Q.1 != 0)=true:=bne_t hq;clear hq
    go_wp2_with (go_at_call 60;(with_reducible refine C2.out.mono ?_);rintro e w3 ⟨v3,rfl,L,hS3,hfe,hLe⟩;have H3:=Lib.hid (Bel.of HBel.out hS3.bel);obtain⟨qo,co,hvo⟩:=qan (hS3.row 0 rfl);dsimp only [frow]at hvo;subst hvo;clear hS3 hfe hLe)
    go_ret2;exact qcw H3.out
end
section
open Go.RowKit Ma
def cmpI (x y:Int):Int:=if x<y then -1 else if y<x then 1 else 0
theorem sl_nan (x:Int) (w:World):Calls Tryz.prog 68 #[.int .i64 x] w fun e w'=>e=.returned (.bool false)/\w=w':=by
 go_enter Tryz.func68,Tryz.ntmps68
 go_wp2;go_ret
 exact⟨rfl,rfl⟩
theorem qm4 (x y:Int) (w:World):Calls Tryz.prog 52 #[.int .i64 x,.int .i64 y] w fun e w'=>e=.returned (.int .i64 (cmpI x y))/\w=w':=by
 have CN:=Lib.hid (fun x W=>sl_nan x W);by_cases h1:x<y
 ·have hv:=Lib.hid (show cmpI x y = -1 by unfold cmpI;rw [if_pos h1])
  go_enter Tryz.func52,Tryz.ntmps52
  go_wp2_with (go_at_call 68;(with_reducible refine(CN.out _ _).mono ?_);rintro e w1 ⟨rfl,rfl⟩)
  go_ret;exact⟨qbj hv.out.symm,rfl⟩
 ·by_cases h2:y<x
  ·have hv:=Lib.hid (show cmpI x y=1 by unfold cmpI;rw [if_neg h1,if_pos h2])
   go_enter Tryz.func52,Tryz.ntmps52
   go_wp2_with (go_at_call 68;(with_reducible refine(CN.out _ _).mono ?_);rintro e w1 ⟨rfl,rfl⟩)
   go_ret;exact⟨qbj hv.out.symm,rfl⟩
  ·have hv:=Lib.hid (show cmpI x y=0 by unfold cmpI;rw [if_neg h1,if_neg h2])
   go_enter Tryz.func52,Tryz.ntmps52
   go_wp2_with (go_at_call 68;(with_reducible refine(CN.out _ _).mono ?_);rintro e w1 ⟨rfl,rfl⟩)
   go_ret;exact⟨qbj hv.out.symm,rfl⟩
theorem cl_union (x y:Int) (p q:Option Addr) (m n c d:Nat) (w:World):Calls Tryz.prog 51 #[.agg #[.int .i64 x,.slice p m c],.agg #[.int .i64 y,.slice q n d]] w fun e w'=>e=.returned (.int .i64 (cmpI x y))/\∃k os',w'=Sort.grow (w.drewN k) os':=by
 have CC:=Lib.hid (fun W=>qm4 x y W);generalize cmpI x y=r at CC
 go_enter Tryz.func51,Tryz.ntmps51
 go_wp2_with (go_at_call 52;(with_reducible refine(CC.out _).mono ?_);rintro e w1 ⟨rfl,rfl⟩)
 go_ret;exact⟨rfl,0,_,by rw [Sort.alloc_eq_grow,Sort.alloc_eq_grow,Sort.grow_grow];rfl⟩
theorem qf9 (x y:ME):Go.Proofs.ltOf (fun x y:ME=>cmpI x.x.num y.x.num) x y=decide (x.x.num<y.x.num):=by
 unfold Go.Proofs.ltOf cmpI;by_cases h1:x.x.num<y.x.num
 ·simp [h1]
 ·by_cases h2:y.x.num<x.x.num <;> simp [h1,h2]
theorem swo_cmpI:Sort.SWO (Go.Proofs.ltOf fun x y:ME=>cmpI x.x.num y.x.num)where
 irrefl x:=by rw [qf9];simp
 trans x y z h1 h2:=by rw [qf9]at *;simp at *;omega
 ntrans x y z h1 h2:=by rw [qf9]at *;simp at *;omega
def SortOut (w0 w:World) (R:List Row) (X:List Box) (v:Value) (L:List ME) (e:Ending) (w':World):Prop := ∃L':List ME,e=.returned (.tuple #[])/\L'.Perm L/\L'.Pairwise (fun x y=>x.x.num<=y.x.num)/\ST w0 (medge v L' :: R) X w'/\w.grownBy w' v.ownBlock
theorem mk_sort (w0 w:World) (R:List Row) (X:List Box) (v:Value) (L:List ME) (h:ST w0 (medge v L :: R) X w) (hl:L.length<4611686018427387904):Calls Tryz.prog 50 #[v,.func (.func 51) #[] #[]] w (SortOut w0 w R X v L):=by
 have h0:w.ownsRow w0.heap.size 61 2 v L.length (L.flatMap meC):=h.row 0 rfl;rcases qj2 qi1 h0 with⟨rfl,rfl⟩|⟨g,c,rfl,hg,hs,hc,hel⟩
 ·refine(AnyF.slices_SortFunc_none Tryz.sortMask none 0 _ w).mono fun e w' ⟨he,hw⟩=>?_
  subst hw;exact⟨[],he,List.Perm.refl _,List.Pairwise.nil,h,World.grownBy.refl _ _⟩
 ·have hos:=qmy (α:=ME) (enc:=meC) qi1 (by decide) (d:=L.toArray) (by simpa using h0)
  obtain⟨hH,hgl,hnew⟩:=hos;have eg : ∀args w,(callFunc 51 args).run Tryz.prog w=.ok (.enter 51 args) w:=enters_of Tryz.func51 (by kernel_rfl) rfl;have hcmp:CmpLays Tryz.prog 51 #[] meC 2 (fun x y:ME=>cmpI x.x.num y.x.num) g 0 L.toArray.size w:=fun m os dk hdk x y=>cl_union x.x.num y.x.num x.p y.p _ _ _ _ _
  have hcon:=AnyQ.slices_SortFunc Tryz.sortMask 2 (fun w=>(by kernel_rfl)) (fun w=>(by kernel_rfl)) meC qi1 meC_one (fun x y=>cmpI x.x.num y.x.num) swo_cmpI 51 #[] g 0 c L.toArray w eg hcmp hH hgl (by simpa using hl);have hcon2:Calls Tryz.prog 50 #[.slice (some ⟨g,0,none⟩) L.length c,.func (.func 51) #[] #[]] w _:=hcon;refine hcon2.mono fun e w' ⟨he,d',n,os,hp,hso,hw⟩=>?_
  subst hw;have hsz:d'.size=L.toArray.size:=hp.1;obtain⟨n1,n2⟩:=hnew d' n os hsz
  have hpl:d'.toList.Perm L:=by
   have:=hp.2.2;rw [show d'.extract 0 L.toArray.size=d' by rw [←hsz];simp]at this
   simpa using this
  have hll:d'.toList.length=L.length:=hpl.length_eq;refine⟨d'.toList,he,hpl,?_,?_,n2⟩
  ·rw [List.pairwise_iff_getElem]
   intro i j hi hj hij;have hi2:i<d'.size:=by simpa using hi
   have hj2:j<d'.size:=by simpa using hj
   have:=hso i j (Nat.zero_le _) hij (by rw [←hsz];exact hj2);rw [qf9,getElem!_pos d' j hj2,getElem!_pos d' i hi2]at this;simp at this
   simpa using this
  ·have:=h.grow 0 rfl n2 (v':=.slice (some ⟨g,0,none⟩) L.length c) (n':=L.length) (xs':=d'.toList.flatMap meC) (by unfold medge;simpa using n1) (fun k hk=>.inl hk)
   unfold medge at this ⊢;rw [hll];exact this
theorem RowOK.sort {A:Nat->Prop} {w0 w w':World} {n:Nat} {v:Value} {L L':List ME} {R:List Row} {X:List Box} (h:RowOK A w0.heap.size n v L w) (hS:ST w0 (medge v L :: R) X w) (hA : ∀b,A b->b<w0.heap.size) (hp:L'.Perm L) (hg:w.grownBy w' v.ownBlock):RowOK A w0.heap.size n v L' w':=by
 intro e he;have he2:=hp.mem_iff.1 he;rcases qj2 qi1 (hS.row 0 rfl)with⟨_,h2⟩|⟨g,c,h1,_⟩
 ·change L=[]at h2
  subst h2;cases he2
 ·change v=_ at h1
  subst h1;exact(h e he2).grown hg hA (fun k hk=>((hS.row 0 rfl).lt k hk).1) (.inl rfl)
theorem qoy {raw:List PMask} {L L':List ME} (hd:Dif raw) (hL:L.map (·.x)=raw) (hp:L'.Perm L) (hs:L'.Pairwise (fun x y=>x.x.num<=y.x.num)):L'.map (·.x)=isort raw:=by
 subst hL;refine sort_eq hd (hp.map _) ?_;rw [List.pairwise_map];exact hs
end
section
open Go.RowKit Ma
def qoe (n:Nat):Prop := ∀(A:Nat->Prop) (v1 v2:Value) (a b:List PMask) (w:World),(∀b,A b->b<w.heap.size)->MaskD A n w v1 a->MaskD A n w v2 b->Srt n a->Srt n b->Wd 1000000000 n a->Wd 1000000000 n b->Calls Tryz.prog 22 #[v1,v2] w (qbm A n w (union n a b))
theorem qeu (n:Nat) (IH:n ≠ 0->qoe n):qoe (n+1):=by
 intro A v1 v2 a b w0 hA ha hb hsa hsb hwa hwb;obtain⟨i1,hi1,hy0,hy1,hy2⟩:=info_parts qce;have DA:=Lib.hid ha;have DB:=Lib.hid hb;have HA0:=Lib.hid hA;have WA:=Lib.hid hwa;have WB:=Lib.hid hwb;have SA:=Lib.hid hsa;have SB:=Lib.hid hsb;obtain⟨p,c,rfl,hl,hcap,hel⟩:=ha;obtain⟨p2,c2,rfl,hl2,hcap2,hel2⟩:=hb;have EL:=Lib.hid hel;have EL2:=Lib.hid hel2;have V:=Lib.hid (show([]:List ME).map (·.x) ++ (a.drop 0).map (uniA (union n) b)=a.map (uniA (union n) b)from rfl);have V2:=Lib.hid (show a.map (uniA (union n) b) ++ (b.drop 0).filter (fun y=>(find a y.num).isNone)=qb8 (union n) a b from rfl);have V3:=Lib.hid (show isort (qb8 (union n) a b)=union (n+1) a b from rfl);have DR:=Lib.hid (qnz (union n) hsa.1 hsb.1);generalize hraw:qb8 (union n) a b=RAW at V2 V3 DR;generalize union (n+1) a b=Z at V3;have hal:a.length<=1000000000:=hwa.1;have hbl:b.length<=1000000000:=hwb.1;have hS0:=Lib.hid (show ST w0 [medge (.slice none 0 0) []] [] w0 from(ST.start w0).nilrow 61 2);clear hel hcap hel2 hcap2 hA hwa hwb hsa hsb hraw;generalize hM:a.map (uniA (union n) b)=MA at V V2;clear hM
 go_enter Tryz.func22,Tryz.ntmps22
 go_wp2
 go_loopw [5,16] (fun vo i wr => ∃(k:Nat) (L:List ME),k<=a.length/\i=.int .i64 k/\Hid (ST w0 [medge vo L] [] wr)/\L.length<=k/\Hid (RowOK A w0.heap.size n vo L wr)/\Hid (L.map (·.x) ++ (a.drop k).map (uniA (union n) b)=MA)) (fun _ i _=>a.length-(intOf i).toNat)
 case atStart=>exact⟨0,[],by omega,rfl,hS0,by simp,Lib.hid (RowOK.nil _ _ _ _ _),V⟩
 case round=>as_aux_lemma=>
  clear V hS0;obtain⟨k,L,hk,rfl,hS,hLk,hO,hx⟩:=hrel;by_cases hlt:k<a.length
  ·clear V2 V3 DR EL2
   obtain⟨g,off,sv,rfl,hbs,hab,hc0,hc1,hd⟩:=EL.out k _ (List.getElem?_eq_getElem hlt);obtain⟨sp,sc,rfl⟩:=hd.form;have hki:(k:Int)<(a.length:Int):=by omega
   have e0:=hS.out.bel.some hc0;have e1:=hS.out.bel.some hc1;clear hc0 hc1 hab;have hst:=hx.out;rw [map_at hlt]at hst;have WX:=Lib.hid (WA.out.2 _ (List.getElem_mem hlt));have SX:=Lib.hid (SA.out.2 _ (List.getElem_mem hlt));clear hx WA SA DA;generalize a[k]=x at *;have HD:=Lib.hid (show MaskD A n w0 (.slice sp x.subs.length sc) x.subs from hd);obtain⟨qo,co,hvo⟩:=qan (hS.out.row 0 rfl);dsimp only [medge]at hvo;subst hvo;have HX:=Lib.hid (hS.out.addbox #[.int .i64 x.num,.slice sp x.subs.length sc] 61);have hbg:w0.heap.size<=wr.heap.size:=hS.out.bel.size;have O0:=hO;have H0:=hS;clear hS hd hO;have CF0:MaskD A (n+1) (wr.alloc (.cells #[.int .i64 x.num,.slice sp x.subs.length sc] 61)) (.slice p2 b.length c2) b:=DB.out.bel (H0.out.bel.alloc _);cases hz:find b x.num with
   | none=>
    have CF:=Lib.hid (qc7 hz _ CF0);have hp:uniA (union n) b x=x:=by unfold uniA;rw [hz]
    rw [hp]at hst;have HST:=Lib.hid hst;clear hst hz hp CF0
    go_upto_region 10 with(go_at_call 45;(with_reducible refine CF.out.mono ?_);rintro e w1 ⟨fp,fc,rfl,k1⟩;have k1:Bel _ w1:=k1;have H1:=Lib.hid ((HX.out.belw k1).addbox #[.int .i64 0,.slice fp 0 fc] 61);have K1:=Lib.hid (Bel.of ((Bel.refl wr).alloc _) (Bel.alloc k1 (.cells #[.int .i64 0,.slice fp 0 fc] 61)));have x0:=H1.out.cell 1 rfl 0;have x1:=H1.out.cell 1 rfl 1;dsimp only at x0 x1;clear k1)
    have OZ:=Lib.hid (O0.out.bel K1.out);generalize hwz:World.alloc w1 _=wz at H1 K1 OZ x0 x1 ⊢;clear hwz;have HB:=Lib.hid (H1.out.belw ((Bel.refl wz).alloc (.cells #[.int .i64 x.num,.slice sp x.subs.length sc] 61)));have OB:=Lib.hid (OZ.out.bel ((Bel.refl wz).alloc (.cells #[.int .i64 x.num,.slice sp x.subs.length sc] 61)));have EB:=Lib.hid (qes (A:=A) (N:=w0.heap.size) (v:=.slice qo L.length co) (e:=⟨x,sp,sc⟩) (HD.out.bel HB.out.bel))
    go_wp2_with (at_builtin;refine wpList_append_lies _ rfl _ _ 27 rfl w0.heap.size 61 i1 (.agg #[.int .i64 0,.slice none 0 0]) 2 32 Tryz.underlying27 hi1 hy0 hy1 hy2 rfl (by decide) _ L.length _ rfl (HB.out.row 0 rfl) ⟨wz.heap.size,0,none⟩ 1 1 [.int .i64 x.num,.slice sp x.subs.length sc] rfl rfl (qau _ _ _) (by simp [Value.oneCell']) (by decide) (by unfold maxLen;omega) (by omega) HB.out.bel.size (wz.heap.size+1) (by simp) ?_)
    intro g9 cap9 w9 hown hgrow hfr hlt9;have OO:=Lib.hid (RowOK.snoc (e:=⟨x,sp,sc⟩) (m:=L.length+1) (c:=cap9) OB.out HB.out HA0.out EB.out hgrow hfr (by simp));have HH:=Lib.hid (qah (e:=⟨x,sp,sc⟩) (HB.out.grow 0 rfl hgrow hown (qbc hfr (by simp))));clear hown hgrow hfr;go_wp2;go_roundw
    case rel=>exact⟨k+1,L ++ [⟨x,sp,sc⟩],by omega,by go_num,Lib.hid HH.out.dropbox0.dropbox0,by rw [List.length_append,List.length_singleton];omega,OO,by simpa using HST⟩
    case measure=>simp [intOf];omega
   | some y=>
    have CF:=Lib.hid (qc6 hz _ CF0);have hp:uniA (union n) b x=joinF (union n) x y:=by unfold uniA;rw [hz]
    have WY:=Lib.hid (WB.out.find hz);have SY:=Lib.hid (SB.out.2 _ (qas hz).1);rw [hp]at hst;clear hz hp CF0 WB SB DB;cases hwx:whole x with
    | true=>
     have hp:joinF (union n) x y=.mk x.num []:=by unfold joinF;rw [hwx,Bool.true_or,if_pos rfl]
     rw [hp]at hst;have HST:=Lib.hid hst;have CX:=Lib.hid (fun p c W=>qaj hwx p c W);clear hst hwx hp
     go_upto_region 10 with(first
      | (go_at_call 45;(with_reducible refine CF.out.mono ?_);rintro e w1 ⟨fp,fc,rfl,hfd,k1⟩;have k1:Bel _ w1:=k1;have H1:=Lib.hid ((HX.out.belw k1).addbox #[.int .i64 y.num,.slice fp y.subs.length fc] 61);have K1:=Lib.hid (Bel.of ((Bel.refl wr).alloc _) (Bel.alloc k1 (.cells #[.int .i64 y.num,.slice fp y.subs.length fc] 61)));have FD1:=Lib.hid (hfd.bel ((Bel.refl _).alloc (.cells #[.int .i64 y.num,.slice fp y.subs.length fc] 61)));have x0:=H1.out.cell 1 rfl 0;have x1:=H1.out.cell 1 rfl 1;have y0:=H1.out.cell 0 rfl 0;have y1:=H1.out.cell 0 rfl 1;dsimp only at x0 x1 y0 y1;clear k1 hfd)
      | (go_at_call 28;(with_reducible refine(CX.out _ _ _).mono ?_);rintro e w2 ⟨rfl,k2⟩;have k2:Bel _ w2:=k2;have H2:=Lib.hid (H1.out.belw k2);have K2:=Lib.hid (Bel.of K1.out k2);have FD2:=Lib.hid (FD1.out.bel k2);clear x0 x1 y0 y1;have x0:=H2.out.cell 1 rfl 0;have x1:=H2.out.cell 1 rfl 1;have y0:=H2.out.cell 0 rfl 0;have y1:=H2.out.cell 0 rfl 1;have xf:=H2.out.frz 1 rfl 1;dsimp only at x0 x1 y0 y1 xf;clear k2))
     have HZ:=Lib.hid (show ST w0 [medge (.slice qo L.length co) L] [⟨w1.heap.size,#[.int .i64 y.num,.slice fp y.subs.length fc],61⟩,⟨wr.heap.size,#[.int .i64 x.num,.slice none 0 0],61⟩] _ from H2.out.setbox 1 rfl 1 (.slice none 0 0));have OZ:=Lib.hid (show RowOK A w0.heap.size n (.slice qo L.length co) L _ from O0.out.bel (qbf (o:=1) (v:=.slice none 0 0) K2.out (Nat.le_refl _)));clear x0 x1 y0 y1 xf;generalize hwz:World.setCell _ _ _=wz at HZ OZ ⊢;clear hwz;have x0:=HZ.out.cell 1 rfl 0;have x1:=HZ.out.cell 1 rfl 1;dsimp only at x0 x1;have HB:=Lib.hid (HZ.out.belw ((Bel.refl wz).alloc (.cells #[.int .i64 x.num,.slice none 0 0] 61)));have OB:=Lib.hid (OZ.out.bel ((Bel.refl wz).alloc (.cells #[.int .i64 x.num,.slice none 0 0] 61)));have EB:=Lib.hid ((MaskD.nil n _:MEok (Off A w0.heap.size (.slice qo L.length co)) n (wz.alloc (.cells #[.int .i64 x.num,.slice none 0 0] 61)) ⟨.mk x.num [],none,0⟩))
     go_wp2_with (at_builtin;refine wpList_append_lies _ rfl _ _ 27 rfl w0.heap.size 61 i1 (.agg #[.int .i64 0,.slice none 0 0]) 2 32 Tryz.underlying27 hi1 hy0 hy1 hy2 rfl (by decide) _ L.length _ rfl (HB.out.row 0 rfl) ⟨wz.heap.size,0,none⟩ 1 1 [.int .i64 x.num,.slice none 0 0] rfl rfl (qau _ _ _) (by simp [Value.oneCell']) (by decide) (by unfold maxLen;omega) (by omega) HB.out.bel.size (wz.heap.size+1) (by simp) ?_)
     intro g9 cap9 w9 hown hgrow hfr hlt9;have OO:=Lib.hid (RowOK.snoc (e:=⟨.mk x.num [],none,0⟩) (m:=L.length+1) (c:=cap9) OB.out HB.out HA0.out EB.out hgrow hfr (by simp));have HH:=Lib.hid (qah (e:=⟨.mk x.num [],none,0⟩) (HB.out.grow 0 rfl hgrow hown (qbc hfr (by simp))));clear hown hgrow hfr;go_wp2;go_roundw
     case rel=>exact⟨k+1,L ++ [⟨.mk x.num [],none,0⟩],by omega,by go_num,Lib.hid HH.out.dropbox0.dropbox0,by rw [List.length_append,List.length_singleton];omega,OO,by simpa using HST⟩
     case measure=>simp [intOf];omega
    | false=>
     have CX:=Lib.hid (fun p c W=>qaj hwx p c W);cases hwy:whole y with
     | true=>
      have hp:joinF (union n) x y=.mk x.num []:=by unfold joinF;rw [hwy,Bool.or_true,if_pos rfl]
      rw [hp]at hst;have HST:=Lib.hid hst;have CY:=Lib.hid (fun p c W=>qaj hwy p c W);clear hst hwx hwy hp
      go_upto_region 10 with(first
       | (go_at_call 45;(with_reducible refine CF.out.mono ?_);rintro e w1 ⟨fp,fc,rfl,hfd,k1⟩;have k1:Bel _ w1:=k1;have H1:=Lib.hid ((HX.out.belw k1).addbox #[.int .i64 y.num,.slice fp y.subs.length fc] 61);have K1:=Lib.hid (Bel.of ((Bel.refl wr).alloc _) (Bel.alloc k1 (.cells #[.int .i64 y.num,.slice fp y.subs.length fc] 61)));have FD1:=Lib.hid (hfd.bel ((Bel.refl _).alloc (.cells #[.int .i64 y.num,.slice fp y.subs.length fc] 61)));have x0:=H1.out.cell 1 rfl 0;have x1:=H1.out.cell 1 rfl 1;have y0:=H1.out.cell 0 rfl 0;have y1:=H1.out.cell 0 rfl 1;dsimp only at x0 x1 y0 y1;clear k1 hfd)
       | (go_at_call 28;(with_reducible refine(CX.out _ _ _).mono ?_);rintro e w2 ⟨rfl,k2⟩;have k2:Bel _ w2:=k2;have H2:=Lib.hid (H1.out.belw k2);have K2:=Lib.hid (Bel.of K1.out k2);have FD2:=Lib.hid (FD1.out.bel k2);clear x0 x1 y0 y1;have x0:=H2.out.cell 1 rfl 0;have x1:=H2.out.cell 1 rfl 1;have y0:=H2.out.cell 0 rfl 0;have y1:=H2.out.cell 0 rfl 1;have xf:=H2.out.frz 1 rfl 1;dsimp only at x0 x1 y0 y1 xf;clear k2)
       | (go_at_call 28;(with_reducible refine(CY.out _ _ _).mono ?_);rintro e w3 ⟨rfl,k3⟩;have k3:Bel _ w3:=k3;have H3:=Lib.hid (H2.out.belw k3);have K3:=Lib.hid (Bel.of K2.out k3);have FD3:=Lib.hid (FD2.out.bel k3);clear x0 x1 y0 y1 xf;have x0:=H3.out.cell 1 rfl 0;have x1:=H3.out.cell 1 rfl 1;have y0:=H3.out.cell 0 rfl 0;have y1:=H3.out.cell 0 rfl 1;have xf:=H3.out.frz 1 rfl 1;dsimp only at x0 x1 y0 y1 xf;clear k3))
      have HZ:=Lib.hid (show ST w0 [medge (.slice qo L.length co) L] [⟨w1.heap.size,#[.int .i64 y.num,.slice fp y.subs.length fc],61⟩,⟨wr.heap.size,#[.int .i64 x.num,.slice none 0 0],61⟩] _ from H3.out.setbox 1 rfl 1 (.slice none 0 0));have OZ:=Lib.hid (show RowOK A w0.heap.size n (.slice qo L.length co) L _ from O0.out.bel (qbf (o:=1) (v:=.slice none 0 0) K3.out (Nat.le_refl _)));clear x0 x1 y0 y1 xf;generalize hwz:World.setCell _ _ _=wz at HZ OZ ⊢;clear hwz;have x0:=HZ.out.cell 1 rfl 0;have x1:=HZ.out.cell 1 rfl 1;dsimp only at x0 x1;have HB:=Lib.hid (HZ.out.belw ((Bel.refl wz).alloc (.cells #[.int .i64 x.num,.slice none 0 0] 61)));have OB:=Lib.hid (OZ.out.bel ((Bel.refl wz).alloc (.cells #[.int .i64 x.num,.slice none 0 0] 61)));have EB:=Lib.hid ((MaskD.nil n _:MEok (Off A w0.heap.size (.slice qo L.length co)) n (wz.alloc (.cells #[.int .i64 x.num,.slice none 0 0] 61)) ⟨.mk x.num [],none,0⟩))
      go_wp2_with (at_builtin;refine wpList_append_lies _ rfl _ _ 27 rfl w0.heap.size 61 i1 (.agg #[.int .i64 0,.slice none 0 0]) 2 32 Tryz.underlying27 hi1 hy0 hy1 hy2 rfl (by decide) _ L.length _ rfl (HB.out.row 0 rfl) ⟨wz.heap.size,0,none⟩ 1 1 [.int .i64 x.num,.slice none 0 0] rfl rfl (qau _ _ _) (by simp [Value.oneCell']) (by decide) (by unfold maxLen;omega) (by omega) HB.out.bel.size (wz.heap.size+1) (by simp) ?_)
      intro g9 cap9 w9 hown hgrow hfr hlt9;have OO:=Lib.hid (RowOK.snoc (e:=⟨.mk x.num [],none,0⟩) (m:=L.length+1) (c:=cap9) OB.out HB.out HA0.out EB.out hgrow hfr (by simp));have HH:=Lib.hid (qah (e:=⟨.mk x.num [],none,0⟩) (HB.out.grow 0 rfl hgrow hown (qbc hfr (by simp))));clear hown hgrow hfr;go_wp2;go_roundw
      case rel=>exact⟨k+1,L ++ [⟨.mk x.num [],none,0⟩],by omega,by go_num,Lib.hid HH.out.dropbox0.dropbox0,by rw [List.length_append,List.length_singleton];omega,OO,by simpa using HST⟩
      case measure=>simp [intOf];omega
     | false=>
      have hp:joinF (union n) x y=.mk x.num (union n x.subs y.subs):=by unfold joinF;rw [hwx,hwy,Bool.or_false,if_neg Bool.false_ne_true]
      rw [hp]at hst;have CY:=Lib.hid (fun p c W=>qaj hwy p c W);have hn0:=HD.out.ne (qaz hwx);have CI:=Lib.hid (fun W v1 v2 (k:Bel w0 W) h1 h2=>IH hn0 A v1 v2 x.subs y.subs W (fun b hb=>Nat.lt_of_lt_of_le (HA0.out b hb) k.size) h1 h2 SX.out SY.out WX.out WY.out);generalize union n x.subs y.subs=M at CI hst;have HST:=Lib.hid hst;clear hwx hwy hp hn0 IH WX WY SX SY hst
      go_upto_region 10 with(first
       | (go_at_call 45;(with_reducible refine CF.out.mono ?_);rintro e w1 ⟨fp,fc,rfl,hfd,k1⟩;have k1:Bel _ w1:=k1;have H1:=Lib.hid ((HX.out.belw k1).addbox #[.int .i64 y.num,.slice fp y.subs.length fc] 61);have K1:=Lib.hid (Bel.of ((Bel.refl wr).alloc _) (Bel.alloc k1 (.cells #[.int .i64 y.num,.slice fp y.subs.length fc] 61)));have FD1:=Lib.hid (hfd.bel ((Bel.refl _).alloc (.cells #[.int .i64 y.num,.slice fp y.subs.length fc] 61)));have x0:=H1.out.cell 1 rfl 0;have x1:=H1.out.cell 1 rfl 1;have y0:=H1.out.cell 0 rfl 0;have y1:=H1.out.cell 0 rfl 1;dsimp only at x0 x1 y0 y1;clear k1 hfd)
       | (go_at_call 28;(with_reducible refine(CX.out _ _ _).mono ?_);rintro e w2 ⟨rfl,k2⟩;have k2:Bel _ w2:=k2;have H2:=Lib.hid (H1.out.belw k2);have K2:=Lib.hid (Bel.of K1.out k2);have FD2:=Lib.hid (FD1.out.bel k2);clear x0 x1 y0 y1;have x0:=H2.out.cell 1 rfl 0;have x1:=H2.out.cell 1 rfl 1;have y0:=H2.out.cell 0 rfl 0;have y1:=H2.out.cell 0 rfl 1;have xf:=H2.out.frz 1 rfl 1;dsimp only at x0 x1 y0 y1 xf;clear k2)
       | (go_at_call 28;(with_reducible refine(CY.out _ _ _).mono ?_);rintro e w3 ⟨rfl,k3⟩;have k3:Bel _ w3:=k3;have H3:=Lib.hid (H2.out.belw k3);have K3:=Lib.hid (Bel.of K2.out k3);have FD3:=Lib.hid (FD2.out.bel k3);clear x0 x1 y0 y1 xf;have x0:=H3.out.cell 1 rfl 0;have x1:=H3.out.cell 1 rfl 1;have y0:=H3.out.cell 0 rfl 0;have y1:=H3.out.cell 0 rfl 1;have xf:=H3.out.frz 1 rfl 1;dsimp only at x0 x1 y0 y1 xf;clear k3)
       | (go_at_call 22;(with_reducible refine(CI.out _ _ _ H3.out.bel (HD.out.bel H3.out.bel) FD3.out).mono ?_);rintro e w4 ⟨mv,rfl,hmd,k4⟩;have k4:Bel _ w4:=k4;obtain⟨mp,mc,hmv⟩:=hmd.form;subst hmv;have H4:=Lib.hid (H3.out.belw k4);have K4:=Lib.hid (Bel.of K3.out k4);have MD4:=Lib.hid hmd;clear x0 x1 y0 y1 xf;have x0:=H4.out.cell 1 rfl 0;have x1:=H4.out.cell 1 rfl 1;have y0:=H4.out.cell 0 rfl 0;have y1:=H4.out.cell 0 rfl 1;have xf:=H4.out.frz 1 rfl 1;dsimp only at x0 x1 y0 y1 xf;clear k4 hmd))
      have HZ:=Lib.hid (show ST w0 [medge (.slice qo L.length co) L] [⟨w1.heap.size,#[.int .i64 y.num,.slice fp y.subs.length fc],61⟩,⟨wr.heap.size,#[.int .i64 x.num,.slice mp M.length mc],61⟩] _ from H4.out.setbox 1 rfl 1 (.slice mp M.length mc));have OZ:=Lib.hid (show RowOK A w0.heap.size n (.slice qo L.length co) L _ from O0.out.bel (qbf (o:=1) (v:=.slice mp M.length mc) K4.out (Nat.le_refl _)));have hwr:wr.heap.size<w3.heap.size:=(H3.out.boxlt 1 rfl).2
      have MZ:=Lib.hid (MaskD.weak (A':=Off A w0.heap.size (.slice qo L.length co)) (MD4.out.kept (Keep.grown (qb2 w4 wr.heap.size 1 (.slice mp M.length mc)) (fun b hb e=>by
       have e2:b=wr.heap.size:=by injection e
       rcases hb with hb|hb
       ·have:=HA0.out b hb
        omega
       ·omega))) (fun b hb _=>qcv H3.out hb))
      clear x0 x1 y0 y1 xf hwr;generalize hwz:World.setCell _ _ _=wz at HZ OZ MZ ⊢;clear hwz;have x0:=HZ.out.cell 1 rfl 0;have x1:=HZ.out.cell 1 rfl 1;dsimp only at x0 x1;have HB:=Lib.hid (HZ.out.belw ((Bel.refl wz).alloc (.cells #[.int .i64 x.num,.slice mp M.length mc] 61)));have OB:=Lib.hid (OZ.out.bel ((Bel.refl wz).alloc (.cells #[.int .i64 x.num,.slice mp M.length mc] 61)));have EB:=Lib.hid ((MaskD.bel MZ.out ((Bel.refl wz).alloc (.cells #[.int .i64 x.num,.slice mp M.length mc] 61)):MEok (Off A w0.heap.size (.slice qo L.length co)) n (wz.alloc (.cells #[.int .i64 x.num,.slice mp M.length mc] 61)) ⟨.mk x.num M,mp,mc⟩))
      go_wp2_with (at_builtin;refine wpList_append_lies _ rfl _ _ 27 rfl w0.heap.size 61 i1 (.agg #[.int .i64 0,.slice none 0 0]) 2 32 Tryz.underlying27 hi1 hy0 hy1 hy2 rfl (by decide) _ L.length _ rfl (HB.out.row 0 rfl) ⟨wz.heap.size,0,none⟩ 1 1 [.int .i64 x.num,.slice mp M.length mc] rfl rfl (qau _ _ _) (by simp [Value.oneCell']) (by decide) (by unfold maxLen;omega) (by omega) HB.out.bel.size (wz.heap.size+1) (by simp) ?_)
      intro g9 cap9 w9 hown hgrow hfr hlt9;have OO:=Lib.hid (RowOK.snoc (e:=⟨.mk x.num M,mp,mc⟩) (m:=L.length+1) (c:=cap9) OB.out HB.out HA0.out EB.out hgrow hfr (by simp));have HH:=Lib.hid (qah (e:=⟨.mk x.num M,mp,mc⟩) (HB.out.grow 0 rfl hgrow hown (qbc hfr (by simp))));clear hown hgrow hfr;go_wp2;go_roundw
      case rel=>exact⟨k+1,L ++ [⟨.mk x.num M,mp,mc⟩],by omega,by go_num,Lib.hid HH.out.dropbox0.dropbox0,by rw [List.length_append,List.length_singleton];omega,OO,by simpa using HST⟩
      case measure=>simp [intOf];omega
  ·have hkl:k=a.length:=by omega
   have hm:L.map (·.x)=MA:=by have:=hx.out;rw [hkl,List.drop_length]at this;simpa using this
   subst hkl;clear hx WA SA EL;subst hm;go_wp2
   go_loopw [5,48] (fun vo i wr => ∃(k:Nat) (L:List ME),k<=b.length/\i=.int .i64 k/\Hid (ST w0 [medge vo L] [] wr)/\L.length<=a.length+k/\Hid (RowOK A w0.heap.size n vo L wr)/\Hid (L.map (·.x) ++ (b.drop k).filter (fun y=>(find a y.num).isNone)=RAW)) (fun _ i _=>b.length-(intOf i).toNat)
   case atStart=>exact⟨0,L,by omega,rfl,hS,by omega,hO,V2⟩
   case round=>as_aux_lemma=>
    clear V2 hS hO hLk;obtain⟨k,L,hk,rfl,hS,hLk,hO,hx⟩:=hrel;by_cases hlt:k<b.length
    ·clear V3 DR
     obtain⟨g,off,sv,rfl,hbs,hab,hc0,hc1,hd⟩:=EL2.out k _ (List.getElem?_eq_getElem hlt);obtain⟨sp,sc,rfl⟩:=hd.form;have hki:(k:Int)<(b.length:Int):=by omega
     have e0:=hS.out.bel.some hc0;have e1:=hS.out.bel.some hc1;clear hc0 hc1 hab;have hst:=hx.out;rw [qps hlt]at hst;clear hx WB SB DB;generalize b[k]=x at *;have HD:=Lib.hid (show MaskD A n w0 (.slice sp x.subs.length sc) x.subs from hd);obtain⟨qo,co,hvo⟩:=qan (hS.out.row 0 rfl);dsimp only [medge]at hvo;subst hvo;have HX:=Lib.hid (hS.out.addbox #[.int .i64 x.num,.slice sp x.subs.length sc] 61);have O0:=hO;have H0:=hS;clear hS hd hO;have CF0:MaskD A (n+1) (wr.alloc (.cells #[.int .i64 x.num,.slice sp x.subs.length sc] 61)) (.slice p a.length c) a:=DA.out.bel (H0.out.bel.alloc _);cases hz:find a x.num with
     | none=>
      have CF:=Lib.hid (qc7 hz _ CF0);rw [hz]at hst;have HST:=Lib.hid hst;clear hst hz CF0
      go_upto_region 17 with(go_at_call 45;(with_reducible refine CF.out.mono ?_);rintro e w1 ⟨fp,fc,rfl,k1⟩;have k1:Bel _ w1:=k1;have H1:=Lib.hid ((HX.out.belw k1).addbox #[.int .i64 0,.slice fp 0 fc] 61);have K1:=Lib.hid (Bel.of ((Bel.refl wr).alloc _) (Bel.alloc k1 (.cells #[.int .i64 0,.slice fp 0 fc] 61)));have x0:=H1.out.cell 1 rfl 0;have x1:=H1.out.cell 1 rfl 1;dsimp only at x0 x1;clear k1)
      have OZ:=Lib.hid (O0.out.bel K1.out);generalize hwz:World.alloc w1 _=wz at H1 K1 OZ x0 x1 ⊢;clear hwz;have HB:=Lib.hid (H1.out.belw ((Bel.refl wz).alloc (.cells #[.int .i64 x.num,.slice sp x.subs.length sc] 61)));have OB:=Lib.hid (OZ.out.bel ((Bel.refl wz).alloc (.cells #[.int .i64 x.num,.slice sp x.subs.length sc] 61)));have EB:=Lib.hid (qes (A:=A) (N:=w0.heap.size) (v:=.slice qo L.length co) (e:=⟨x,sp,sc⟩) (HD.out.bel HB.out.bel))
      go_wp2_with (at_builtin;refine wpList_append_lies _ rfl _ _ 27 rfl w0.heap.size 61 i1 (.agg #[.int .i64 0,.slice none 0 0]) 2 32 Tryz.underlying27 hi1 hy0 hy1 hy2 rfl (by decide) _ L.length _ rfl (HB.out.row 0 rfl) ⟨wz.heap.size,0,none⟩ 1 1 [.int .i64 x.num,.slice sp x.subs.length sc] rfl rfl (qau _ _ _) (by simp [Value.oneCell']) (by decide) (by unfold maxLen;omega) (by omega) HB.out.bel.size (wz.heap.size+1) (by simp) ?_)
      intro g9 cap9 w9 hown hgrow hfr hlt9;have OO:=Lib.hid (RowOK.snoc (e:=⟨x,sp,sc⟩) (m:=L.length+1) (c:=cap9) OB.out HB.out HA0.out EB.out hgrow hfr (by simp));have HH:=Lib.hid (qah (e:=⟨x,sp,sc⟩) (HB.out.grow 0 rfl hgrow hown (qbc hfr (by simp))));clear hown hgrow hfr;go_wp2;go_roundw
      case rel=>exact⟨k+1,L ++ [⟨x,sp,sc⟩],by omega,by go_num,Lib.hid HH.out.dropbox0.dropbox0,by rw [List.length_append,List.length_singleton];omega,OO,by simpa using HST⟩
      case measure=>simp [intOf];omega
     | some y=>
      have CF:=Lib.hid (qc6 hz _ CF0);rw [hz]at hst;have HST:=Lib.hid (show L.map (·.x) ++ (b.drop (k+1)).filter (fun y=>(find a y.num).isNone)=RAW from hst);clear hst hz CF0
      go_wp2_with (go_at_call 45;(with_reducible refine CF.out.mono ?_);rintro e w1 ⟨fp,fc,rfl,hfd,k1⟩;have k1:Bel _ w1:=k1;have H1:=Lib.hid ((HX.out.belw k1).addbox #[.int .i64 y.num,.slice fp y.subs.length fc] 61);have K1:=Lib.hid (Bel.of ((Bel.refl wr).alloc _) (Bel.alloc k1 (.cells #[.int .i64 y.num,.slice fp y.subs.length fc] 61)));have FD1:=Lib.hid (hfd.bel ((Bel.refl _).alloc (.cells #[.int .i64 y.num,.slice fp y.subs.length fc] 61)));have x0:=H1.out.cell 1 rfl 0;have x1:=H1.out.cell 1 rfl 1;have y0:=H1.out.cell 0 rfl 0;have y1:=H1.out.cell 0 rfl 1;dsimp only at x0 x1 y0 y1;clear k1 hfd)
      go_roundw
      case rel=>exact⟨k+1,L,by omega,by go_num,Lib.hid (H0.out.belw K1.out),by omega,Lib.hid (O0.out.bel K1.out),HST⟩
      case measure=>simp [intOf];omega
    ·have hkl:k=b.length:=by omega
     have hm:L.map (·.x)=RAW:=by have:=hx.out;rw [hkl,List.drop_length]at this;simpa using this
     obtain⟨qo,co,hvo⟩:=qan (hS.out.row 0 rfl);dsimp only [medge]at hvo;subst hvo;have CS:=Lib.hid (mk_sort w0 wr [] [] _ L hS.out (by omega));have HM:=Lib.hid hm;clear hx hm EL2 WB SB DA DB;subst hkl
     go_wp2_with (go_at_call 50;(with_reducible refine CS.out.mono ?_);rintro e w1 ⟨L',rfl,hp,hso,hS2,hgr⟩)
     go_ret;exact⟨_,rfl,qd3 hS2 (hO.out.sort hS.out HA0.out hp hgr) (by have:=hp.length_eq;omega) ((qoy DR.out HM.out hp hso).trans V3.out),hS2.bel⟩
theorem qna : ∀n:Nat,qoe (n+1)
 | 0=>qeu 0 (fun h=>absurd rfl h)
 | n+1=>qeu (n+1) (fun _=>qna n)
end
section
open Go.RowKit Ck Ma
theorem qgo : ∀(n:Nat) {a b:List PMask},Srt n a->Srt n b->Srt n (union n a b)
 | 0,_,_,_,_=>rfl
 | n+1,a,b,ha,hb=>by
  refine⟨qdg ha.1 hb.1,fun z hz=>?_⟩;have hz2:=mem_isort.1 hz;unfold qb8 at hz2;rcases List.mem_append.1 hz2 with h|h
  ·obtain⟨x,hx,rfl⟩:=List.mem_map.1 h
   unfold uniA
   split
   ·rename_i y hy
    unfold joinF;show Srt n (if _ then _ else _)
    split
    ·exact Srt.nil _
    ·exact qgo n (ha.2 x hx) (hb.2 y (qas hy).1)
   ·exact ha.2 x hx
  ·exact hb.2 z (List.mem_filter.1 h).1
theorem qk0 (s:PSchema) (nm t:Str) {n:Nat} (hn:t.length+2<=n):Srt n (pathM (envOf s) (qa4 s) nm t).2/\Wd 1 n (pathM (envOf s) (qa4 s) nm t).2:=by
 by_cases hp:(qak 46 t).all (qa4 s).part=true
 ·rw [(qj0 s nm t (fun e=>by subst e;cases hp) hp).1]
  have hl:=qgu s nm t
  split
  ·exact⟨qm0 n _ (by rw [List.length_map];omega),wd_nest n _⟩
  ·exact⟨Srt.nil _,Wd.nil _ _⟩
 ·have:pathM (envOf s) (qa4 s) nm t=(2,[]):=by unfold pathM;rw [if_neg hp]
  rw [this];exact⟨Srt.nil _,Wd.nil _ _⟩
theorem qj5 (mv ev sv:Value) (s:PSchema) (name t:Str) (w0:World) (hs:VSchema w0 [mv,ev,sv] s) (hM:ML w0) (ht:t.length<=1000000000) :
  Calls Tryz.prog 12 #[.agg #[mv,ev,sv],.string (S name),.string (S t)] w0 (qez (t.length+2) w0 (parse (envOf s) (qa4 s) (t.length+2) name t)):=by
 have CP:=Lib.hid (fun W (k:Bel w0 W) p (hp:p.length<=1000000000)=>mk_path mv ev sv s name p W (VSchema.staysB hs k) (by obtain⟨q,hq⟩:=hM;exact⟨q,k.some hq⟩) hp);have CSp:=Lib.hid (fun W (k:Bel w0 W)=>qjc (S t) 44 t W (qbi _) (by rw [qbr];omega) (by obtain⟨q,hq⟩:=hM;exact⟨q,k.some hq⟩));have CM0:=Lib.hid (fun W (k:Bel w0 W)=>qbt mv ev sv s name w0 W k hs);have CU0:qoe (t.length+2):=qna (t.length+1);unfold qoe at CU0;have CU:=Lib.hid CU0;clear CU0;obtain⟨_,_,_,he,hm,hev,hsv⟩:=hs;cases he;obtain⟨q2,c2,rfl,hl2⟩:=qa5 hev;obtain⟨q3,c3,rfl,hl3⟩:=qa5 hsv;obtain⟨q1,c1,rfl,hl1⟩:=qa5 hm;clear hm hev hsv;have hS0:=Lib.hid ((ST.start w0).addbox #[.slice q1 s.msgs.length c1,.slice q2 s.enums.length c2,.slice q3 s.svcs.length c3] 26);clear hM;cases hm:msgOf s name with
 | none=>
  have hr:parse (envOf s) (qa4 s) (t.length+2) name t=(10,[]):=by unfold parse;rw [qnj,hm];rfl
  rw [hr];rw [hm]at CM0;clear hr hm CP CSp CU
  go_enter Tryz.func12,Tryz.ntmps12
  go_wp2_with (first
   | (go_at_call 26;(with_reducible refine(CM0.out _ hS0.out.bel).mono ?_);rintro e w1 ⟨vm,rfl,hvs,k1⟩;have k1:Bel _ w1:=k1;have hv0:vm=zMsg:=hvs;subst hv0;have H1:=Lib.hid ((hS0.out.belw k1).addbox zMsg.toArray 57);clear k1 hvs)
   | (refine qa3 (old:=#[.string ⟨#[]⟩,.slice none 0 0,.slice none 0 0,.slice none 0 0,.slice none 0 0]) rfl 57 _ _ rfl w1 rfl w1.heap.size rfl zMsg.toArray rfl rfl ar_M rfl (by simp [zMsg,Value.oneCell']) ?_))
  go_ret2;exact qcw H1.out.bel
 | some m=>
  rw [hm]at CM0;have hh:(envOf s).has name=true:=by rw [qnj,hm];rfl
  have ARM:=0;clear ARM;by_cases ht0:t=[]
  ·have hr:parse (envOf s) (qa4 s) (t.length+2) name t=(0,[]):=by unfold parse;rw [hh,if_neg (by simp),if_pos ht0]
   rw [hr];have hte:(S t).toList=[]:=by rw [ByteArray.toList_eq,qbi,ht0]
   have hte2:(S t).toList.isEmpty=true:=by rw [ByteArray.toList_eq,qbi,ht0];rfl
   clear hr hm ht0 CP CSp CU hh
   go_enter Tryz.func12,Tryz.ntmps12
   go_wp2_with (first
    | (go_at_call 26;(with_reducible refine(CM0.out _ hS0.out.bel).mono ?_);rintro e w1 ⟨vm,rfl,hvs,k1⟩;have k1:Bel _ w1:=k1;have HVM:=Lib.hid (show VMsg w0 vm m from hvs);obtain⟨hlen,hone⟩:=qbq hvs;have HVS:=Lib.hid hvs;have Z0:vm.toArray.size=5:=(by rw [List.size_toArray];exact hlen);have Z1:=Lib.hid (show(Tryz.prog.info? 57).map (·.size)=some vm.toArray.size by rw [Z0];exact ar_M);have Z2:=Lib.hid (show(#[.string ⟨#[]⟩,.slice none 0 0,.slice none 0 0,.slice none 0 0,.slice none 0 0]:Array Value).size=vm.toArray.size by rw [Z0];rfl);have HO:=Lib.hid hone;clear hlen hone Z0 hvs;have H1:=Lib.hid ((hS0.out.belw k1).addbox vm.toArray 57);clear k1)
    | (refine qa3 (old:=#[.string ⟨#[]⟩,.slice none 0 0,.slice none 0 0,.slice none 0 0,.slice none 0 0]) rfl 57 _ _ rfl w1 rfl w1.heap.size rfl vm.toArray rfl rfl Z1.out Z2.out HO.out ?_))
   go_ret2;exact qcw H1.out.bel
  ·have hte:(S t).toList ≠ []:=by rw [ByteArray.toList_eq,qbi];exact ht0
   have hte2:(S t).toList.isEmpty=false:=by rw [ByteArray.toList_eq,qbi];simpa using ht0
   have hpe:parse (envOf s) (qa4 s) (t.length+2) name t=if 32<(Id.cut 44 t).length then(3,[])else qc5 (envOf s) (qa4 s) (t.length+2) name [] ((Id.cut 44 t).drop 0):=by unfold parse;rw [hh,if_neg (by simp),if_neg ht0,qaq];rfl
   have hple : ∀p ∈ Id.cut 44 t,p.length<=t.length:=by rw [qaq];exact fun p hp=>qc1 44 t p hp
   have HPL:=Lib.hid hple;generalize parse (envOf s) (qa4 s) (t.length+2) name t=R at hpe;generalize Id.cut 44 t=ps at CSp hpe HPL;clear hm ht0 hh hple;by_cases h32:32<ps.length
   ·rw [if_pos h32]at hpe
    subst hpe;have h32i:(32:Int)<(ps.length:Int):=by omega
    clear CP CU HPL
    go_enter Tryz.func12,Tryz.ntmps12
    go_upto_region 6 with(first
     | (go_at_call 26;(with_reducible refine(CM0.out _ hS0.out.bel).mono ?_);rintro e w1 ⟨vm,rfl,hvs,k1⟩;have k1:Bel _ w1:=k1;have HVM:=Lib.hid (show VMsg w0 vm m from hvs);obtain⟨hlen,hone⟩:=qbq hvs;have HVS:=Lib.hid hvs;have Z0:vm.toArray.size=5:=(by rw [List.size_toArray];exact hlen);have Z1:=Lib.hid (show(Tryz.prog.info? 57).map (·.size)=some vm.toArray.size by rw [Z0];exact ar_M);have Z2:=Lib.hid (show(#[.string ⟨#[]⟩,.slice none 0 0,.slice none 0 0,.slice none 0 0,.slice none 0 0]:Array Value).size=vm.toArray.size by rw [Z0];rfl);have HO:=Lib.hid hone;clear hlen hone Z0 hvs;have H1:=Lib.hid ((hS0.out.belw k1).addbox vm.toArray 57);clear k1)
     | (refine qa3 (old:=#[.string ⟨#[]⟩,.slice none 0 0,.slice none 0 0,.slice none 0 0,.slice none 0 0]) rfl 57 _ _ rfl w1 rfl w1.heap.size rfl vm.toArray rfl rfl Z1.out Z2.out HO.out ?_))
    have C1:=Lib.hid (CSp.out _ H1.out.bel);have H2:=Lib.hid (H1.out.addbox (ps.map strV).toArray 9)
    go_wp2_with (go_at_call 35;(with_reducible refine C1.out.mono ?_);rintro e w2 ⟨rfl,hw2⟩;subst hw2)
    go_ret2;exact qcw H2.out.bel
   ·rw [if_neg h32]at hpe
    have V:=Lib.hid hpe.symm;have h32i:(ps.length:Int)<=32:=by omega
    have h32n:ps.length<=32:=by omega
    have hd32:decide ((32:Int)<(ps.length:Int))=false:=by simpa using h32i
    clear hpe h32
    go_enter Tryz.func12,Tryz.ntmps12
    go_upto_region 6 with(first
     | (go_at_call 26;(with_reducible refine(CM0.out _ hS0.out.bel).mono ?_);rintro e w1 ⟨vm,rfl,hvs,k1⟩;have k1:Bel _ w1:=k1;have HVM:=Lib.hid (show VMsg w0 vm m from hvs);obtain⟨hlen,hone⟩:=qbq hvs;have HVS:=Lib.hid hvs;have Z0:vm.toArray.size=5:=(by rw [List.size_toArray];exact hlen);have Z1:=Lib.hid (show(Tryz.prog.info? 57).map (·.size)=some vm.toArray.size by rw [Z0];exact ar_M);have Z2:=Lib.hid (show(#[.string ⟨#[]⟩,.slice none 0 0,.slice none 0 0,.slice none 0 0,.slice none 0 0]:Array Value).size=vm.toArray.size by rw [Z0];rfl);have HO:=Lib.hid hone;clear hlen hone Z0 hvs;have H1:=Lib.hid ((hS0.out.belw k1).addbox vm.toArray 57);clear k1)
     | (refine qa3 (old:=#[.string ⟨#[]⟩,.slice none 0 0,.slice none 0 0,.slice none 0 0,.slice none 0 0]) rfl 57 _ _ rfl w1 rfl w1.heap.size rfl vm.toArray rfl rfl Z1.out Z2.out HO.out ?_))
    have C1:=Lib.hid (CSp.out _ H1.out.bel);have H2':=H1.out.addbox (ps.map strV).toArray 9
    go_upto_region 9 with(go_at_call 35;(with_reducible refine C1.out.mono ?_);rintro e w2 ⟨rfl,hw2⟩;subst hw2)
    simp only [World.size_alloc]at H2';have H2:=Lib.hid H2';generalize hwp:World.alloc (World.alloc w1 _) _=wp at H2 ⊢;clear hwp H2' C1 H1 HVS;generalize hmb:w1.heap.size=mb at H2 ⊢;clear hmb
    go_wp2_with (fail)
    go_loopw [11,33] (fun vo i wr => ∃(k:Nat) (acc:List PMask),k<=ps.length/\i=.int .i64 k/\Hid (ST w0 [] [⟨mb+1,(ps.map strV).toArray,9⟩,⟨mb,vm.toArray,57⟩,⟨w0.heap.size,#[.slice q1 s.msgs.length c1,.slice q2 s.enums.length c2,.slice q3 s.svcs.length c3],26⟩] wr)/\Hid (MaskD (fun b=>w0.heap.size<=b) (t.length+2) wr vo acc/\Srt (t.length+2) acc/\Wd k (t.length+2) acc)/\Hid (qc5 (envOf s) (qa4 s) (t.length+2) name acc (ps.drop k)=R)) (fun _ i _=>ps.length-(intOf i).toNat)
    case atStart=>exact⟨0,[],by omega,rfl,H2,Lib.hid ⟨MaskD.nil _ _,Srt.nil _,Wd.nil _ _⟩,V⟩
    case round=>as_aux_lemma=>
     clear V H2;obtain⟨k,acc,hk,rfl,hS,hA,hx⟩:=hrel;obtain⟨ap,ac,hvo⟩:=hA.out.1.form;subst hvo;by_cases hlt:k<ps.length
     ·have hki:(k:Int)<(ps.length:Int):=by omega
      have c0:=(hS.out.cell 0 rfl k).trans (show(ps.map strV).toArray[k]? = some (.string (S ps[k]))by simp [strV,hlt]);have t0:=hS.out.cell 2 rfl 0;have t1:=hS.out.cell 2 rfl 1;have t2:=hS.out.cell 2 rfl 2;dsimp only at c0 t0 t1 t2;have hst:=hx.out;rw [List.drop_eq_getElem_cons hlt]at hst;have hpl1:=HPL.out _ (List.getElem_mem hlt);clear hx HPL;generalize ps[k]=p at *;have hst2:(if(pathM (envOf s) (qa4 s) name p).1 ≠ 0 then((pathM (envOf s) (qa4 s) name p).1,[])else qc5 (envOf s) (qa4 s) (t.length+2) name (union (t.length+2) acc (pathM (envOf s) (qa4 s) name p).2) (ps.drop (k+1)))=R:=hst;have C1:=Lib.hid (CP.out wr hS.out.bel p (by omega));have hsw:=qk0 s name p (n:=t.length+2) (by omega);generalize pathM (envOf s) (qa4 s) name p=Q at hst2 C1 hsw;obtain⟨q1,qm⟩:=Q;dsimp only at hst2 hsw;have HSW:=Lib.hid hsw;have HWA:=Lib.hid (hA.out.2.2.mono (show k<=1000000000 by omega));have HWQ:=Lib.hid (hsw.2.mono (show 1<=1000000000 by omega));clear hst CP hsw;by_cases hq:q1=0
      ·subst hq
       rw [if_neg (by simp)]at hst2;have HST:=Lib.hid hst2;clear hst2
       go_wp2_with (first
        | (go_at_call 36;(with_reducible refine C1.out.mono ?_);rintro e w3 ⟨v3,rfl,hm3,k3⟩;have k3:Bel _ w3:=k3;obtain⟨p33,c33,hv3⟩:=hm3.form;subst hv3;have H3:=Lib.hid (hS.out.belw k3);have M3:=Lib.hid (MaskD.weak (A':=fun b=>w0.heap.size<=b/\b<w3.heap.size) (hm3.le (show p.length+2<=t.length+2 by omega)) (fun b hb hl=>⟨Nat.le_trans hS.out.bel.size hb,hl⟩));have A3:=Lib.hid (MaskD.weak (A':=fun b=>w0.heap.size<=b/\b<w3.heap.size) (hA.out.1.bel k3) (fun b hb hl=>⟨hb,hl⟩));clear k3 hm3)
        | (go_at_call 22;(with_reducible refine(CU.out _ _ _ acc qm w3 (fun b hb=>hb.2) A3.out M3.out hA.out.2.1 HSW.out.1 HWA.out HWQ.out).mono ?_);rintro e w4 ⟨v4,rfl,hm4,k4⟩;have k4:Bel _ w4:=k4;have H4:=Lib.hid (H3.out.belw k4);have M4:=Lib.hid (MaskD.weak (A':=fun b=>w0.heap.size<=b) hm4 (fun b hb _=>hb.elim (fun h=>h.1) (fun h=>Nat.le_trans H3.out.bel.size h)));clear k4 hm4))
       go_roundw
       case rel=>exact⟨k+1,_,by omega,by go_num,H4,Lib.hid ⟨M4.out,qgo _ hA.out.2.1 HSW.out.1,qij k 1 _ hA.out.2.2 HSW.out.2⟩,HST⟩
       case measure=>simp [intOf];omega
      ·rw [if_pos hq]at hst2
       subst hst2;have hqb:(q1 != 0)=true:=bne_t hq;clear hq CU
       go_wp2_with (go_at_call 36;(with_reducible refine C1.out.mono ?_);rintro e w3 ⟨v3,rfl,hm3,k3⟩;have k3:Bel _ w3:=k3;obtain⟨p33,c33,hv3⟩:=hm3.form;subst hv3;have H3:=Lib.hid (hS.out.belw k3);clear k3 hm3)
       go_ret2;exact qcw H3.out.bel
     ·have hkl:k=ps.length:=by omega
      have hr:(0,acc)=R:=by have:=hx.out;rw [hkl,List.drop_length]at this;exact this
      subst hr;clear hx CP CU;go_wp2;go_ret2;exact⟨.slice ap acc.length ac,rfl,hA.out.1,hS.out.bel⟩
end
end Go.Proofs.YtaaneecceiefoaaGreatDoor
