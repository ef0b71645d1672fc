import Derived.Test.YtaaneecceiefoaaGreatDoorMaDPath
import Derived.Test.YtaaneecceiefoaaGreatDoorCkOut
import Derived.Test.YtaaneecceiefoaaGreatDoorMaVal
import Derived.Test.YtaaneecceiefoaaGreatDoorShelf
import Derived.Test.YtaaneecceiefoaaGreatDoorMaMem
import Derived.Test.YtaaneecceiefoaaGreatDoorMaChk
set_option maxRecDepth 100000
set_option maxHeartbeats 4000000
set_option linter.unusedVariables false
set_option linter.unusedSimpArgs false
namespace Go.Proofs.YtaaneecceiefoaaGreatDoor
section
open Go.RowKit Ck Ma
def qkm (n:Nat) (w:World) (R:Int × List PMask) (e:Ending) (w':World):Prop := ∃v,e=.returned (.tuple #[v,.int .i64 R.1])/\MaskD (fun b=>w.heap.size<=b) n w' v R.2/\Bel w w'
theorem qes {n:Nat} {w w':World} {c:Int} (h:Bel w w'):qkm n w (c,[]) (.returned (.tuple #[.slice none 0 0,.int .i64 c])) w':=⟨_,rfl,MaskD.nil _ _,h⟩
theorem nest_at {l:List Int} {k:Nat} (h:k<l.length):nest (l.drop k)=[.mk l[k] (nest (l.drop (k+1)))]:=by
 rw [List.drop_eq_getElem_cons h];rfl
theorem qlk {A:Nat->Prop} {n:Nat} {w:World} {z:Int} {v:Value} {l:List PMask} (h:MaskD A n w v l) (hA:A w.heap.size):MaskD A (n+1) (w.alloc (.cells #[.int .i64 z,v] 61)) (.slice (some ⟨w.heap.size,0,none⟩) 1 1) [.mk z l]:=by
 refine⟨some ⟨w.heap.size,0,none⟩,1,rfl,by simp,by simp,fun i x hx=>?_⟩
 have hi:i=0:=by
  have:=(List.getElem?_eq_some_iff.1 hx).1
  simpa using this
 subst hi;have hx2:PMask.mk z l=x:=by simpa using hx
 subst hx2;exact⟨w.heap.size,0,v,rfl,by simp,hA,by simp [PMask.num],by simp,h.bel ((Bel.refl w).alloc _)⟩
theorem mk_path (mv ev sv:Value) (s:PSchema) (name t:Str) (w0:World) (hs:VSchema w0 [mv,ev,sv] s) (hM:ML w0) (ht:t.length<=1000000) :
  Calls Tryz.prog 36 #[.agg #[mv,ev,sv],.string (S name),.string (S t)] w0 (qkm (t.length+2) w0 (pathM (envOf s) (qa7 s) name t)):=by
 have CP:=Lib.hid (fun W (k:Bel w0 W)=>ds_Path mv ev sv s name t W (VSchema.staysB hs k) (by obtain⟨q,hq⟩:=hM;exact⟨q,k.some hq⟩) ht);have CSp:=Lib.hid (fun W (k:Bel w0 W)=>qgr (S t) 46 t W (qc1 _) (by rw [qd6];omega) (by obtain⟨q,hq⟩:=hM;exact⟨q,k.some hq⟩));have hpl:(Id.cut 46 t).length<=t.length+1:=by rw [qb7];exact qcx 46 t
 have hple : ∀p ∈ Id.cut 46 t,p.length<=1000000:=by rw [qb7];exact fun p hp=>Nat.le_trans (qcy 46 t p hp) ht
 have HPL:=Lib.hid hple;have V:=Lib.hid (show((Id.cut 46 t).drop 0).all Id.isPart=(qb4 46 t).all (qa7 s).part by rw [←qb7];rfl);have hno:(qb4 46 t).all (qa7 s).part=false->pathM (envOf s) (qa7 s) name t=(2,[]):=fun h=>by unfold pathM;rw [h];rfl
 have hyes:(qb4 46 t).all (qa7 s).part=true->pathM (envOf s) (qa7 s) name t=(if(pathR s name t).1=0 then(0,nest ((pathR s name t).2.map PField.num))else((pathR s name t).1,[])):=fun h=>(qji s name t (fun e=>by subst e;cases h) h).1
 have hrl:(pathR s name t).2.length<=t.length+1:=qhf s name t;have HNO:=Lib.hid hno;have HYES:=Lib.hid hyes;generalize (qb4 46 t).all (qa7 s).part=B at V HNO HYES;generalize pathM (envOf s) (qa7 s) name t=R at HNO HYES;generalize pathR s name t=Q at HYES CP hrl;generalize Id.cut 46 t=ps at CSp hpl V HPL;obtain⟨_,_,_,he,hm,hev,hsv⟩:=hs;cases he;obtain⟨q2,c2,rfl,hl2⟩:=qa6 hev;obtain⟨q3,c3,rfl,hl3⟩:=qa6 hsv;obtain⟨q1,c1,rfl,hl1⟩:=qa6 hm;clear hm hev hsv;have hS0:=Lib.hid ((ST.start w0).addbox #[.slice q1 s.msgs.length c1,.slice q2 s.enums.length c2,.slice q3 s.svcs.length c3] 26);clear hM hple hno hyes;have C1:=Lib.hid (CSp.out _ hS0.out.bel);have H1':=hS0.out.addbox (ps.map strV).toArray 9;simp only [World.size_alloc]at H1';have H1:=Lib.hid H1';clear H1' CSp
 go_enter Tryz.func36,Tryz.ntmps36
 go_wp2_with (go_at_call 35;(with_reducible refine C1.out.mono ?_);rintro e w2 ⟨rfl,hw2⟩;subst hw2)
 generalize hwp:World.alloc (World.alloc w0 _) _=wp at H1 ⊢;clear hwp
 go_loopw [17] (fun i wr => ∃(k:Nat),k<=ps.length/\i=.int .i64 k/\Hid (ST w0 [] [⟨w0.heap.size+1,(ps.map strV).toArray,9⟩,⟨w0.heap.size,#[.slice q1 s.msgs.length c1,.slice q2 s.enums.length c2,.slice q3 s.svcs.length c3],26⟩] wr)/\Hid ((ps.drop k).all Id.isPart=B)) (fun i _=>ps.length-(intOf i).toNat)
 case atStart=>exact⟨0,by omega,rfl,H1,V⟩
 case round=>as_aux_lemma=>
  clear V H1 C1;obtain⟨k,hk,rfl,hS,hx⟩:=hrel;by_cases hlt:k<ps.length
  ·have hki:(k:Int)<(ps.length:Int):=by omega
   have c0:=(hS.out.cell 0 rfl k).trans (show(ps.map strV).toArray[k]? = some (.string (S ps[k]))by simp [strV,hlt]);dsimp only at c0;have hst:=hx.out;rw [List.drop_eq_getElem_cons hlt,List.all_cons]at hst;have hpl1:=HPL.out _ (List.getElem_mem hlt);clear hx CP;generalize ps[k]=p at *;have CI:=Lib.hid (fun W=>qlr (S p) p W (qc1 _) (by rw [qd6];omega));generalize Id.isPart p=P at CI hst;cases P with
   | true=>
    have HST:=Lib.hid (show(ps.drop (k+1)).all Id.isPart=B from hst);clear hst
    go_wp2_with (go_at_call 59;(with_reducible refine(CI.out _).mono ?_);rintro e w3 ⟨rfl,k3⟩;have k3:Bel _ w3:=k3;have H3:=Lib.hid (hS.out.belw k3);clear k3)
    go_roundw
    case rel=>exact⟨k+1,by omega,by go_num,H3,HST⟩
    case measure=>simp [intOf];omega
   | false=>
    have hb:false=B:=hst;have hr:=HNO.out hb.symm;subst hr;clear hst hb
    go_wp2_with (go_at_call 59;(with_reducible refine(CI.out _).mono ?_);rintro e w3 ⟨rfl,k3⟩;have k3:Bel _ w3:=k3;have H3:=Lib.hid (hS.out.belw k3);clear k3)
    go_ret2;exact qes H3.out.bel
  ·have hkl:k=ps.length:=by omega
   have hb:true=B:=by have:=hx.out;rw [hkl,List.drop_length]at this;exact this
   have hr:=HYES.out hb.symm;have C2:=Lib.hid (CP.out wr hS.out.bel);have t0:=hS.out.cell 1 rfl 0;have t1:=hS.out.cell 1 rfl 1;have t2:=hS.out.cell 1 rfl 2;dsimp only at t0 t1 t2;have HBel:=Lib.hid hS.out.bel;clear hx CP HNO HYES HPL hb;subst hkl;by_cases hq:Q.1=0
   ·rw [if_pos hq]at hr
    obtain⟨q1,ql⟩:=Q;dsimp only at hq hrl C2 hr;subst hq;obtain⟨NS,hNS⟩ : ∃NS,NS=ql.map PField.num:=⟨_,rfl⟩;rw [←hNS]at hr;subst hr;have HNS:=Lib.hid hNS;clear hNS
    go_upto_region 10 with(go_at_call 60;(with_reducible refine C2.out.mono ?_);rintro e w3 ⟨v3,rfl,L,hS3,hfe,hLe⟩;have HFE:=Lib.hid hfe;have HLE:=Lib.hid hLe;have H3:=Lib.hid hS3;clear hS3 hfe hLe)
    obtain⟨qo,co,hvo⟩:=qaw (H3.out.row 0 rfl);dsimp only [frow]at hvo;subst hvo;have hLl:L.length<=t.length+1:=by have:=congrArg List.length HLE.out;simp at this;omega
    have HLN:=Lib.hid (show(L.map fun x=>x.f.num)=NS by rw [HNS.out, ←HLE.out,List.map_map];rfl);have hnl:NS.length=L.length:=by rw [←HLN.out,List.length_map]
    have HNL:=Lib.hid hnl;clear C2 t0 t1 t2 hnl;obtain⟨wo,hwo⟩ : ∃wo:World,wo=wr:=⟨_,rfl⟩;subst hwo;go_wp2
    go_loopw [12,13] (fun vo vi wr => ∃(k:Nat) (z:Int),k<=L.length/\z=(k:Int)-1/\vi=.int .i64 z/\Hid (ST wo [frow (.slice qo L.length co) L] [] wr)/\Hid (MaskD (fun b=>w0.heap.size<=b) (L.length-k) wr vo (nest (NS.drop k)))) (fun _ vi _=>(intOf vi+1).toNat)
    case atStart=>exact⟨L.length,_,by omega,rfl,rfl,H3,Lib.hid (by rw [List.drop_of_length_le (by rw [HNL.out];omega)];exact MaskD.nil _ _)⟩
    case round=>as_aux_lemma=>
     clear H3;obtain⟨k,z,hk,hz,rfl,hS,hM⟩:=hrel;obtain⟨mp,mc,hvo⟩:=hM.out.form;subst hvo;cases k with
     | zero=>
      have hz2:z = -1:=by rw [hz];rfl
      subst hz2;have HMM:=Lib.hid (hM.out.le (show L.length-0<=t.length+2 by omega));have HBB:=Lib.hid (Bel.of HBel.out hS.out.bel);clear hz hM;go_wp2;go_ret2;exact⟨.slice mp (nest (NS.drop 0)).length mc,rfl,HMM.out,HBB.out⟩
     | succ kp=>
      have hz2:z=(kp:Int):=by rw [hz];simp
      subst hz2;have hkp:kp<L.length:=by omega
      have hkpi:(kp:Int)<(L.length:Int):=by omega
      have hkn:kp<NS.length:=by rw [HNL.out];exact hkp
      have hnk:NS[kp]=L[kp].f.num:=by
       have:=congrArg (fun l=>l[kp]?) HLN.out;simp only [List.getElem?_map,List.getElem?_eq_getElem hkp,List.getElem?_eq_getElem hkn,Option.map_some]at this;exact(Option.some.inj this).symm
      have hnest:=nest_at hkn;rw [hnk]at hnest;rcases qid feC_len (hS.out.row 0 rfl)with⟨_,h2⟩|⟨gq,cq,hvo2,hgb,hgl,hcl,hel⟩
      ·change L=[]at h2
       rw [h2]at hkp;cases hkp
      dsimp only [frow]at hvo2 hel;cases hvo2;have e0:=hel kp _ (List.getElem?_eq_getElem hkp) 0 _ (HFE.out _ (List.getElem_mem hkp)).1;rw [Nat.add_zero]at e0;have HNE:=Lib.hid hnest;have hbw:w0.heap.size<=wr.heap.size:=(Bel.of HBel.out hS.out.bel).size;have hM2:=Lib.hid (qlk (z:=L[kp].f.num) hM.out hbw);generalize L[kp].f.num=nk at *;have hlev:L.length-(kp+1)+1=L.length-kp:=by omega
      have HLV:=Lib.hid hlev;have HSN:=Lib.hid (hS.out.belw ((Bel.refl wr).alloc (.cells #[.int .i64 nk,.slice mp (nest (NS.drop (kp+1))).length mc] 61)));clear hz hel hnest hnk hM hS hlev;go_wp2;go_roundw
      case rel=>exact⟨kp,_,by omega,rfl,by go_num,HSN,Lib.hid (by rw [HNE.out, ←HLV.out];exact hM2.out)⟩
      case measure=>simp [intOf] <;> omega
   ·rw [if_neg hq]at hr
    subst hr;have hqb:(Q.1 != 0)=true:=bne_t hq;clear hq
    go_wp2_with (go_at_call 60;(with_reducible refine C2.out.mono ?_);rintro e w3 ⟨v3,rfl,L,hS3,hfe,hLe⟩;have H3:=Lib.hid (Bel.of HBel.out hS3.bel);obtain⟨qo,co,hvo⟩:=qaw (hS3.row 0 rfl);dsimp only [frow]at hvo;subst hvo;clear hS3 hfe hLe)
    go_ret2;exact qes H3.out
end
section
open Go.RowKit Ma
def cmpI (x y:Int):Int:=if x<y then -1 else if y<x then 1 else 0
theorem sl_nan (x:Int) (w:World):Calls Tryz.prog 68 #[.int .i64 x] w fun e w'=>e=.returned (.bool false)/\w=w':=by
 go_enter Tryz.func68,Tryz.ntmps68
 go_wp2;go_ret
 exact⟨rfl,rfl⟩
theorem qiz (x y:Int) (w:World):Calls Tryz.prog 52 #[.int .i64 x,.int .i64 y] w fun e w'=>e=.returned (.int .i64 (cmpI x y))/\w=w':=by
 have CN:=Lib.hid (fun x W=>sl_nan x W);by_cases h1:x<y
 ·have hv:=Lib.hid (show cmpI x y = -1 by unfold cmpI;rw [if_pos h1])
  go_enter Tryz.func52,Tryz.ntmps52
  go_wp2_with (go_at_call 68;(with_reducible refine(CN.out _ _).mono ?_);rintro e w1 ⟨rfl,rfl⟩)
  go_ret;exact⟨qay hv.out.symm,rfl⟩
 ·by_cases h2:y<x
  ·have hv:=Lib.hid (show cmpI x y=1 by unfold cmpI;rw [if_neg h1,if_pos h2])
   go_enter Tryz.func52,Tryz.ntmps52
   go_wp2_with (go_at_call 68;(with_reducible refine(CN.out _ _).mono ?_);rintro e w1 ⟨rfl,rfl⟩)
   go_ret;exact⟨qay hv.out.symm,rfl⟩
  ·have hv:=Lib.hid (show cmpI x y=0 by unfold cmpI;rw [if_neg h1,if_neg h2])
   go_enter Tryz.func52,Tryz.ntmps52
   go_wp2_with (go_at_call 68;(with_reducible refine(CN.out _ _).mono ?_);rintro e w1 ⟨rfl,rfl⟩)
   go_ret;exact⟨qay hv.out.symm,rfl⟩
theorem cl_union (x y:Int) (p q:Option Addr) (m n c d:Nat) (w:World):Calls Tryz.prog 51 #[.agg #[.int .i64 x,.slice p m c],.agg #[.int .i64 y,.slice q n d]] w fun e w'=>e=.returned (.int .i64 (cmpI x y))/\∃k os',w'=Sort.grow (w.drewN k) os':=by
 have CC:=Lib.hid (fun W=>qiz x y W);generalize cmpI x y=r at CC
 go_enter Tryz.func51,Tryz.ntmps51
 go_wp2_with (go_at_call 52;(with_reducible refine(CC.out _).mono ?_);rintro e w1 ⟨rfl,rfl⟩)
 go_ret;exact⟨rfl,0,_,by rw [Sort.alloc_eq_grow,Sort.alloc_eq_grow,Sort.grow_grow];rfl⟩
theorem qdt (x y:ME):Go.Proofs.ltOf (fun x y:ME=>cmpI x.x.num y.x.num) x y=decide (x.x.num<y.x.num):=by
 unfold Go.Proofs.ltOf cmpI;by_cases h1:x.x.num<y.x.num
 ·simp [h1]
 ·by_cases h2:y.x.num<x.x.num <;> simp [h1,h2]
theorem swo_cmpI:Sort.SWO (Go.Proofs.ltOf fun x y:ME=>cmpI x.x.num y.x.num)where
 irrefl x:=by rw [qdt];simp
 trans x y z h1 h2:=by rw [qdt]at *;simp at *;omega
 ntrans x y z h1 h2:=by rw [qdt]at *;simp at *;omega
def SortOut (w0 w:World) (R:List Row) (X:List Box) (v:Value) (L:List ME) (e:Ending) (w':World):Prop := ∃L':List ME,e=.returned (.tuple #[])/\L'.Perm L/\L'.Pairwise (fun x y=>x.x.num<=y.x.num)/\ST w0 (medge v L' :: R) X w'/\w.grownBy w' v.ownBlock
theorem mk_sort (w0 w:World) (R:List Row) (X:List Box) (v:Value) (L:List ME) (h:ST w0 (medge v L :: R) X w) (hl:L.length<4611686018427387904):Calls Tryz.prog 50 #[v,.func (.func 51) #[] #[]] w (SortOut w0 w R X v L):=by
 have h0:w.ownsRow w0.heap.size 61 2 v L.length (L.flatMap meC):=h.row 0 rfl;rcases qid qfu h0 with⟨rfl,rfl⟩|⟨g,c,rfl,hg,hs,hc,hel⟩
 ·refine(AnyF.slices_SortFunc_none Tryz.sortMask none 0 _ w).mono fun e w' ⟨he,hw⟩=>?_
  subst hw;exact⟨[],he,List.Perm.refl _,List.Pairwise.nil,h,World.grownBy.refl _ _⟩
 ·have hos:=qjk (α:=ME) (enc:=meC) qfu (by decide) (d:=L.toArray) (by simpa using h0)
  obtain⟨hH,hgl,hnew⟩:=hos;have eg : ∀args w,(callFunc 51 args).run Tryz.prog w=.ok (.enter 51 args) w:=enters_of Tryz.func51 (by kernel_rfl) rfl;have hcmp:CmpLays Tryz.prog 51 #[] meC 2 (fun x y:ME=>cmpI x.x.num y.x.num) g 0 L.toArray.size w:=fun m os dk hdk x y=>cl_union x.x.num y.x.num x.p y.p _ _ _ _ _
  have hcon:=AnyQ.slices_SortFunc Tryz.sortMask 2 (fun w=>(by kernel_rfl)) (fun w=>(by kernel_rfl)) meC qfu meC_one (fun x y=>cmpI x.x.num y.x.num) swo_cmpI 51 #[] g 0 c L.toArray w eg hcmp hH hgl (by simpa using hl);have hcon2:Calls Tryz.prog 50 #[.slice (some ⟨g,0,none⟩) L.length c,.func (.func 51) #[] #[]] w _:=hcon;refine hcon2.mono fun e w' ⟨he,d',n,os,hp,hso,hw⟩=>?_
  subst hw;have hsz:d'.size=L.toArray.size:=hp.1;obtain⟨n1,n2⟩:=hnew d' n os hsz
  have hpl:d'.toList.Perm L:=by
   have:=hp.2.2;rw [show d'.extract 0 L.toArray.size=d' by rw [←hsz];simp]at this
   simpa using this
  have hll:d'.toList.length=L.length:=hpl.length_eq;refine⟨d'.toList,he,hpl,?_,?_,n2⟩
  ·rw [List.pairwise_iff_getElem]
   intro i j hi hj hij;have hi2:i<d'.size:=by simpa using hi
   have hj2:j<d'.size:=by simpa using hj
   have:=hso i j (Nat.zero_le _) hij (by rw [←hsz];exact hj2);rw [qdt,getElem!_pos d' j hj2,getElem!_pos d' i hi2]at this;simp at this
   simpa using this
  ·have:=h.grow 0 rfl n2 (v':=.slice (some ⟨g,0,none⟩) L.length c) (n':=L.length) (xs':=d'.toList.flatMap meC) (by unfold medge;simpa using n1) (fun k hk=>.inl hk)
   unfold medge at this ⊢;rw [hll];exact this
theorem RowOK.sort {A:Nat->Prop} {w0 w w':World} {n:Nat} {v:Value} {L L':List ME} {R:List Row} {X:List Box} (h:RowOK A w0.heap.size n v L w) (hS:ST w0 (medge v L :: R) X w) (hA : ∀b,A b->b<w0.heap.size) (hp:L'.Perm L) (hg:w.grownBy w' v.ownBlock):RowOK A w0.heap.size n v L' w':=by
 intro e he;have he2:=hp.mem_iff.1 he;rcases qid qfu (hS.row 0 rfl)with⟨_,h2⟩|⟨g,c,h1,_⟩
 ·change L=[]at h2
  subst h2;cases he2
 ·change v=_ at h1
  subst h1;exact(h e he2).grown hg hA (fun k hk=>((hS.row 0 rfl).lt k hk).1) (.inl rfl)
theorem ql1 {raw:List PMask} {L L':List ME} (hd:Dif raw) (hL:L.map (·.x)=raw) (hp:L'.Perm L) (hs:L'.Pairwise (fun x y=>x.x.num<=y.x.num)):L'.map (·.x)=isort raw:=by
 subst hL;refine sort_eq hd (hp.map _) ?_;rw [List.pairwise_map];exact hs
end
section
open Ma
theorem qhm : ∀{l:List PMask},(isort l).length=l.length
 | []=>rfl
 | x :: l=>by
  have hi : ∀m:List PMask,(ins x m).length=m.length+1:=by
   intro m
   induction m with
   | nil=>rfl
   | cons y m ih=>
    unfold ins
    split
    ·rfl
    ·simp [ih]
  show(ins x (isort l)).length=_
  rw [hi,qhm (l:=l)];rfl
theorem qim (A B:Nat) : ∀(n:Nat) {a b:List PMask},Wd A n a->Wd B n b->Wd (A+B) n (union n a b)
 | 0,_,_,_,_=>trivial
 | n+1,a,b,ha,hb=>by
  refine⟨?_,fun z hz=>?_⟩
  ·show(isort _).length<=_
   rw [qhm];unfold qbw;rw [List.length_append,List.length_map];have:=List.length_filter_le (fun y=>(find a y.num).isNone) b;have:=ha.1;have:=hb.1;omega
  ·have hz2:=mem_isort.1 hz
   unfold qbw at hz2;rcases List.mem_append.1 hz2 with h|h
   ·obtain⟨x,hx,rfl⟩:=List.mem_map.1 h
    have h1:=ha.2 x hx;unfold uniA
    split
    ·rename_i y hy
     unfold joinF;show Wd _ n (if _ then _ else _)
     split
     ·exact Wd.nil _ _
     ·exact qim A B n h1 (hb.find hy)
    ·exact h1.mono (by omega)
   ·exact(hb.2 z (List.mem_filter.1 h).1).mono (by omega)
theorem wd_nest : ∀(n:Nat) (p:List Int),Wd 1 n (nest p)
 | 0,_=>trivial
 | n+1,[]=>Wd.nil _ _
 | n+1,k :: r=>⟨by simp [nest],fun x hx=>by
   have:x=.mk k (nest r):=by simpa [nest]using hx
   subst this
   exact wd_nest n r⟩
end
end Go.Proofs.YtaaneecceiefoaaGreatDoor
