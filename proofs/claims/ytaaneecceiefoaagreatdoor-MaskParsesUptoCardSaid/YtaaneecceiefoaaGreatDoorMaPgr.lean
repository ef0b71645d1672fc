import Derived.Test.YtaaneecceiefoaaGreatDoorMaPaths
import Derived.Test.YtaaneecceiefoaaGreatDoorMzCov
import Derived.Test.YtaaneecceiefoaaGreatDoorMaDesc2
import Derived.Test.YtaaneecceiefoaaGreatDoorMaKeep
import Derived.Test.YtaaneecceiefoaaGreatDoorMaDPath
set_option maxRecDepth 100000
set_option maxHeartbeats 4000000
set_option linter.unusedVariables false
set_option linter.unusedSimpArgs false
namespace Go.Proofs.YtaaneecceiefoaaGreatDoor
section
open Go.RowKit Ck Ma
def onP (p:Str):List Str->List Str
 | [] => [p]
 | q :: r=>(p ++ q) :: r
theorem onP_nil {l:List Str} (h:l ≠ []):onP [] l=l:=by
 cases l with
 | nil=>exact absurd rfl h
 | cons q r=>rfl
theorem onP_fst (p:Str) (b:UInt8) : ∀l:List Str,l ≠ []->onP p (onFst b l)=onP (p ++ [b]) l
 | [],h=>absurd rfl h
 | q :: r,_=>by
  show(p ++ (b :: q)) :: r=(p ++ [b] ++ q) :: r
  simp
theorem spl_at {c:UInt8} {t:Str} {j k:Nat} (hj:j<=k) (hk:k<t.length) (xs:List Str):xs ++ onP ((t.drop j).take (k-j)) (qak c (t.drop k))=if t[k]=c then(xs ++ [(t.drop j).take (k-j)]) ++ onP ((t.drop (k+1)).take 0) (qak c (t.drop (k+1)))else xs ++ onP ((t.drop j).take (k+1-j)) (qak c (t.drop (k+1))):=by
 rw [List.drop_eq_getElem_cons hk,qbx]
 split
 ·rw [List.take_zero,onP_nil (qby _ _)]
  show xs ++ (_ ++ []) :: _=_
  simp
 ·rw [onP_fst _ _ _ (qby _ _)]
  congr 2
  rw [show k+1-j=(k-j)+1 by omega,List.take_add_one,List.getElem?_drop,show j+(k-j)=k by omega,List.getElem?_eq_getElem hk];rfl
theorem qma (t:Str) (c:UInt8) (w0:World) (ht:t.length<=1000000000) :
  Calls Tryz.prog 37 #[.string (S t),.int .u8 (c.toNat:Int)] w0 (qlh w0 (qak c t)):=by
 obtain⟨i0,hi,hz0,hz1,hz2⟩:=info_parts qjs;have V:=Lib.hid (show([]:List Str) ++ onP ((t.drop 0).take (0-0)) (qak c (t.drop 0))=qak c t from onP_nil (qby _ _));generalize qak c t=Z at V ⊢;obtain⟨s,hs⟩ : ∃s:ByteArray,s=S t:=⟨_,rfl⟩;have HL:=Lib.hid (show s.data.toList=t by rw [hs];exact qbi t);have hsz:t.length=s.size:=by rw [hs];rfl
 rw [←hs]
 have HX:=Lib.hid (show ∀j k,s.extract j k=S ((t.drop j).take (k-j))from fun j k=>by
  apply S_of
  rw [qfg,HL.out])
 clear hs;have c2:c.toNat<256:=UInt8.toNat_lt _;have HT:=Lib.hid (show ST w0 [srow (.slice none 0 0) []] [] w0 from(ST.start w0).nilrow 9 1)
 go_enter Tryz.func37,Tryz.ntmps37
 go_wp2
 go_loopw [5,6,7] (fun vo vf vi wr => ∃(j k:Nat) (xs:List Str),j<=k/\k<=s.size/\vf=.int .i64 j/\vi=.int .i64 k/\xs.length<=k/\Hid (ST w0 [srow vo xs] [] wr)/\Hid (xs ++ onP ((t.drop j).take (k-j)) (qak c (t.drop k))=Z)) (fun _ _ vi _=>s.size-(intOf vi).toNat)
 case atStart=>exact⟨0,0,[],by omega,by omega,rfl,rfl,by simp,HT,V⟩
 case round=>as_aux_lemma=>
  clear V HT;obtain⟨j,k,xs,hjk,hk,rfl,rfl,hxk,hS,hx⟩:=hrel;obtain⟨qo,co,hvo⟩:=qan (hS.out.row 0 rfl);dsimp only [srow]at hvo;subst hvo;have hxx:=HX.out j k;by_cases hlt:k<s.size
  ·have hkt:k<t.length:=by omega
   have hst:=hx.out;rw [spl_at hjk hkt]at hst
   have hge:t[k]=s[k]'hlt:=by
    have h1:t[k]? = some (s[k]'hlt):=by rw [←HL.out];exact get_l s k hlt
    exact(List.getElem?_eq_some_iff.1 h1).2
   have r1:(k:Int)<s.size:=by omega
   have r2:s[k].toNat<256:=UInt8.toNat_lt _;have r3:(0:Int)<=k:=by omega
   have r4:(j:Int)<=k:=by omega
   have r5:(0:Int)<=j:=by omega
   have r6:k<=s.size:=by omega
   by_cases hb:t[k]=c
   ·rw [if_pos hb]at hst
    have hb2:((s[k].toNat:Int) == (c.toNat:Int))=true:=by rw [←hge,hb];exact beq_self_eq_true _
    obtain⟨P,hP⟩ : ∃P,P=(t.drop j).take (k-j):=⟨_,rfl⟩;rw [←hP]at hst hxx;have HST:=Lib.hid hst;have HB:=Lib.hid (hS.out.belw ((Bel.refl _).alloc (.cells #[.string (S P)] 9)));clear hst hx hb hge hP
    go_wp2_with (at_builtin;refine wpList_append_lies _ rfl _ _ 54 rfl w0.heap.size 9 i0 (.string ByteArray.empty) 1 16 Tryz.underlying54 hi hz0 hz1 hz2 rfl (by decide) _ xs.length _ rfl (HB.out.row 0 rfl) ⟨wr.heap.size,0,none⟩ 1 1 [.string (S P)] rfl rfl (qau _ _ _) (by simp [Value.oneCell']) (by decide) (by unfold maxLen;omega) (by omega) HB.out.bel.size (wr.heap.size+1) (by simp) ?_)
    intro g9 cap9 w9 hown hgrow hfr hlt9;have HH:=Lib.hid (qgp (ys:=[P]) (HB.out.grow 0 rfl hgrow hown (qbc hfr (by simp))));clear hown hgrow hfr;go_wp2;go_roundw
    case rel=>exact⟨k+1,k+1,xs ++ [P],by omega,by omega,by go_num,by go_num,by rw [List.length_append,List.length_singleton];omega,HH,by simpa using HST⟩
    case measure=>simp [intOf];omega
   ·rw [if_neg hb]at hst
    have hb2:((s[k].toNat:Int) == (c.toNat:Int))=false:=by
     rw [beq_eq_false_iff_ne];intro e;exact hb (by rw [hge];apply UInt8.toNat_inj.1;omega)
    have HST:=Lib.hid hst;clear hst hx hb hge hxx;go_wp2;go_roundw
    case rel=>exact⟨j,k+1,xs,by omega,by omega,rfl,by go_num,by omega,hS,HST⟩
    case measure=>simp [intOf];omega
  ·have hks:k=s.size:=by omega
   obtain⟨P,hP⟩ : ∃P,P=(t.drop j).take (k-j):=⟨_,rfl⟩;rw [←hP]at hxx
   have hz:xs ++ [P]=Z:=by
    have:=hx.out;rw [show t.drop k=[]from List.drop_eq_nil_of_le (by omega), ←hP]at this;rw [←this];show xs ++ [P]=xs ++ [P ++ []]
    rw [List.append_nil]
   have r1 : ¬(k:Int)<s.size:=by omega
   have r4:(j:Int)<=s.size:=by omega
   have r5:(0:Int)<=j:=by omega
   rw [hks]at hxx;have HB:=Lib.hid (hS.out.belw ((Bel.refl _).alloc (.cells #[.string (S P)] 9)));clear hx hP
   go_wp2_with (at_builtin;refine wpList_append_lies _ rfl _ _ 54 rfl w0.heap.size 9 i0 (.string ByteArray.empty) 1 16 Tryz.underlying54 hi hz0 hz1 hz2 rfl (by decide) _ xs.length _ rfl (HB.out.row 0 rfl) ⟨wr.heap.size,0,none⟩ 1 1 [.string (S P)] rfl rfl (qau _ _ _) (by simp [Value.oneCell']) (by decide) (by unfold maxLen;omega) (by omega) HB.out.bel.size (wr.heap.size+1) (by simp) ?_)
   intro g9 cap9 w9 hown hgrow hfr hlt9;have HH:=Lib.hid (qgp (ys:=[P]) (HB.out.grow 0 rfl hgrow hown (qbc hfr (by simp))));clear hown hgrow hfr;subst hz;go_wp2;go_ret;exact⟨_,rfl,HH.out.row 0 rfl,HH.out.bel⟩
end
section
open Go.RowKit Ck Ma
theorem qmp (mv ev sv:Value) (s:PSchema) (name:Str) (wv w0:World) (hvb:Bel wv w0) (hv:VSchema wv [mv,ev,sv] s) :
  Calls Tryz.prog 84 #[.agg #[mv,ev,sv],.string (S name)] w0 (qca VMsg zMsg (msgOf s name) wv w0):=by
 obtain⟨_,_,_,he,hm,hev,hsv⟩:=hv;cases he;obtain⟨q2,c2,rfl,hl2⟩:=qa5 hev;obtain⟨q3,c3,rfl,hl3⟩:=qa5 hsv;clear hev hsv;obtain⟨q1,c1,rfl,hl,hcap,hel⟩:=hm;have hmo:msgOf s name=s.msgs.find? (fun x=>decide (x.name=name)):=rfl;rw [hmo];clear hmo;have EL:=Lib.hid hel;have HVB:=Lib.hid hvb;have VF:=Lib.hid (show(s.msgs.drop 0).find? (fun x=>decide (x.name=name))=s.msgs.find? (fun x=>decide (x.name=name))from rfl);generalize s.msgs.find? (fun x=>decide (x.name=name))=Z at VF;have hS0':=((ST.start w0).addbox #[.slice q1 s.msgs.length c1,.slice q2 s.enums.length c2,.slice q3 s.svcs.length c3] 26).addbox zMsg.toArray 57;simp only [World.size_alloc]at hS0';have hS0:=Lib.hid hS0';clear hel hcap hvb hS0'
 go_enter Tryz.func84,Tryz.ntmps84
 go_wp2
 go_loopw [6] (fun i wr => ∃k:Nat,k<=s.msgs.length/\i=.int .i64 k/\Hid (ST w0 [] [⟨w0.heap.size+1,zMsg.toArray,57⟩,⟨w0.heap.size,#[.slice q1 s.msgs.length c1,.slice q2 s.enums.length c2,.slice q3 s.svcs.length c3],26⟩] wr)/\Hid ((s.msgs.drop k).find? (fun x=>decide (x.name=name))=Z)) (fun i _=>s.msgs.length-(intOf i).toNat)
 case atStart=>exact⟨0,by omega,rfl,hS0,VF⟩
 case round=>as_aux_lemma=>
  clear hS0 VF;obtain⟨k,hk,rfl,hS,hx⟩:=hrel;have u0:=hS.out.cell 1 rfl 0;dsimp only at u0;have HB2:=Lib.hid (hS.out.box 0 rfl);by_cases hlt:k<s.msgs.length
  ·obtain⟨b,off,rfl,hbs,vs,hce,hvs⟩:=EL.out k _ (List.getElem?_eq_getElem hlt)
   have hki:(k:Int)<(s.msgs.length:Int):=by omega
   have hst:=hx.out;rw [List.drop_eq_getElem_cons hlt,List.find?_cons]at hst;have hlen:=VMsg.len _ _ _ hvs;have hone:=VMsg.one _ _ _ hvs;have HL:=Lib.hid hlen;have HO:=Lib.hid hone;have HVS:=Lib.hid hvs;have HC:=Lib.hid (fun i v hi=>(Bel.of HVB.out hS.out.bel).some (hce i v hi));have Z0:vs.toArray.size=5:=by rw [List.size_toArray];exact hlen
   have Z1:=Lib.hid (show(Tryz.prog.info? 57).map (·.size)=some vs.toArray.size by rw [Z0];exact ar_M);have Z2:=Lib.hid (show zMsg.toArray.size=vs.toArray.size by rw [Z0];rfl);clear hx hce hlen hone Z0;generalize s.msgs[k]=x at *;have e0:=HC.out 0 (.string (S x.name)) (by obtain⟨_,_,_,_,hvv,_⟩:=HVS.out;rw [hvv];rfl);rw [Nat.add_zero]at e0;clear hvs;by_cases he:x.name=name
   ·have hcmp:((S x.name).toList == (S name).toList)=true:=by rw [eq_S];exact decide_eq_true he
    rw [decide_eq_true he]at hst;have HST:=Lib.hid (show some x=Z from hst);clear hst he
    go_wp2_with (first
     | (refine qaa rfl 57 _ rfl b (off+k*5) 5 vs rfl HC.out ag_M sz_M HL.out ?_)
     | (refine qa8 rfl 57 _ _ rfl (w0.heap.size+1) vs.toArray zMsg.toArray 57 rfl rfl HB2.out Z1.out Z2.out HO.out ?_))
    have HZ:=Lib.hid (hS.out.setrowbox 0 rfl vs.toArray);refine bodyPost_ret (v:=.tuple #[.agg vs.toArray,.bool true]) ?hres1 rfl ?hpost1
    case hres1=>exact qb1 rfl rfl rfl (HZ.out.box 0 rfl) Tryz.underlying57 rfl Z1.out
    case hpost1=>exact⟨vs,by rw [←HST.out];rfl,by rw [←HST.out];exact HVS.out,HZ.out.bel⟩
   ·have hcmp:((S x.name).toList == (S name).toList)=false:=by rw [eq_S];exact decide_eq_false he
    rw [decide_eq_false he]at hst;have HST:=Lib.hid (show(s.msgs.drop (k+1)).find? (fun x=>decide (x.name=name))=Z from hst);clear hst he;go_wp2;go_roundw
    case rel=>exact⟨k+1,by omega,by go_num,hS,HST⟩
    case measure=>simp [intOf];omega
  ·have hkl:k=s.msgs.length:=by omega
   have hki : ¬(k:Int)<(s.msgs.length:Int):=by omega
   have hz:none=Z:=by have:=hx.out;rw [hkl,List.drop_length]at this;exact this
   subst hz;clear hx;have HO1:=Lib.hid (show zMsg.toArray.all (·.oneCell')=true by simp [zMsg,Value.oneCell'])
   go_wp2_with (refine qa8 rfl 57 _ _ rfl (w0.heap.size+1) zMsg.toArray zMsg.toArray 57 rfl rfl HB2.out ar_M rfl HO1.out ?_)
   have HZ:=Lib.hid (hS.out.setrowbox 0 rfl zMsg.toArray);refine bodyPost_ret (v:=.tuple #[.agg zMsg.toArray,.bool false]) ?hres2 rfl ?hpost2
   case hres2=>exact qb1 rfl rfl rfl (HZ.out.box 0 rfl) Tryz.underlying57 rfl ar_M
   case hpost2=>exact⟨zMsg,rfl,rfl,HZ.out.bel⟩
def qjl (t:Str) (c:UInt8) (w0:World) (e:Ending) (w':World):Prop := ∃p r b,e=.returned (.tuple #[.string (S p),.string (S r),.bool b])/\qak c t=p :: (if b=true then qak c r else [])/\(b=true->r.length<t.length)/\Bel w0 w'
theorem rd_split (t:Str) (c:UInt8) (w0:World) (ht:t.length<=1000000000) :
  Calls Tryz.prog 85 #[.string (S t),.int .u8 (c.toNat:Int)] w0 (qjl t c w0):=by
 obtain⟨s,hs⟩ : ∃s:ByteArray,s=S t:=⟨_,rfl⟩;have HL:=Lib.hid (show s.data.toList=t by rw [hs];exact qbi t);have hsz:t.length=s.size:=by rw [hs];rfl
 rw [←hs]
 have HX:=Lib.hid (show ∀j k,s.extract j k=S ((t.drop j).take (k-j))from fun j k=>by
  apply S_of
  rw [qfg,HL.out])
 have hst0:=hs;have HS0:=Lib.hid hs;clear hs hst0;have c2:c.toNat<256:=UInt8.toNat_lt _
 go_enter Tryz.func85,Tryz.ntmps85
 go_wp2
 go_loopw [7] (fun vi wr => ∃k:Nat,k<=s.size/\vi=.int .i64 k/\Hid (Bel w0 wr)/\Hid (c ∉ t.take k)) (fun vi _=>s.size-(intOf vi).toNat)
 case atStart=>exact⟨0,by omega,rfl,Lib.hid (Bel.refl _),Lib.hid (by simp)⟩
 case round=>as_aux_lemma=>
  obtain⟨k,hk,rfl,hS,hx⟩:=hrel;by_cases hlt:k<s.size
  ·have hkt:k<t.length:=by omega
   have hge:t[k]=s[k]'hlt:=by
    have h1:t[k]? = some (s[k]'hlt):=by rw [←HL.out];exact get_l s k hlt
    exact(List.getElem?_eq_some_iff.1 h1).2
   have r1:(k:Int)<s.size:=by omega
   have r2:s[k].toNat<256:=UInt8.toNat_lt _;have r3:(0:Int)<=k:=by omega
   by_cases hb:t[k]=c
   ·have hb2:((s[k].toNat:Int) == (c.toNat:Int))=true:=by rw [←hge,hb];exact beq_self_eq_true _
    have hpc:qak c t=t.take k :: (if true=true then qak c (t.drop (k+1))else []):=by
     conv=>lhs;rw [←List.take_append_drop k t,List.drop_eq_getElem_cons hkt,hb,qfp c _ _ hx.out]
     rfl
    have HPC:=Lib.hid hpc;have x1:s.extract 0 k=S (t.take k):=by rw [HX.out];simp
    have x2:s.extract (k+1) s.size=S (t.drop (k+1)):=by rw [HX.out,List.take_of_length_le (by rw [List.length_drop];omega)]
    have r4:(k:Int)+1<=s.size:=by omega
    have r5:k+1<=s.size:=by omega
    have jw:IntKind.i64.wrap ((k:Int)+1)=((k+1:Nat):Int):=by rw [show(k:Int)+1=((k+1:Nat):Int)by omega];exact IntWalk.i64_in _ (by omega)
    have r6:((k+1:Nat):Int)<=s.size:=by omega
    have r7:(0:Int)<=((k+1:Nat):Int):=by omega
    have r8:(k:Int)<=s.size:=by omega
    have r9:k<=s.size:=by omega
    have s1:((k:Int)+1).toNat=k+1:=by omega
    have s2 : ¬((k:Int)+1<0):=by omega
    have s3 : ¬((s.size:Int)<(k:Int)+1):=by omega
    have s4:(0:Int)<=(k:Int)+1:=by omega
    have jw3:IntKind.i64.wrap ((k:Int)+1)=(k:Int)+1:=IntWalk.i64_in _ (by omega);clear hx hb hge hpc
    go_upto_region 5 with(fail)
    obtain⟨wd,hwd⟩ : ∃wd,wd=wr.drew:=⟨_,rfl⟩;have KD:=Lib.hid (show Bel w0 wd by rw [hwd];exact hS.out.drew);have HWD:=Lib.hid hwd;clear hwd;refine qae 8 (by kernel_rfl) (by kernel_rfl) HWD.out ?_
    (simp only [List.take_succ_cons,List.take_zero,List.drop_succ_cons,List.drop_zero]);(repeat (first|((with_reducible refine wpStill_step (fun K hK=>?_));go_simp;(with_reducible refine hK _ ?_);clear hK K)|((with_reducible refine qaf ?_ ?_);(with_unfolding_all rfl);(simp only [Act.put,List.setIfInBounds_toArray,List.set_cons_zero,List.set_cons_succ]))));(with_reducible refine wpStill_nil ?_)
    go_wp2
    go_ret3
    exact⟨_,_,_,rfl,HPC.out,fun _=>by rw [List.length_drop];omega,KD.out⟩
   ·have hb2:((s[k].toNat:Int) == (c.toNat:Int))=false:=by
     rw [beq_eq_false_iff_ne];intro e;exact hb (by rw [hge];apply UInt8.toNat_inj.1;omega)
    have HN:=Lib.hid (show c ∉ t.take (k+1)by
     rw [List.take_add_one,List.getElem?_eq_getElem hkt];intro h;rcases List.mem_append.1 h with h|h
     ·exact hx.out h
     ·simp at h
      exact hb h.symm)
    clear hx hb hge;go_wp2;go_roundw
    case rel=>exact⟨k+1,by omega,by go_num,hS,HN⟩
    case measure=>simp [intOf];omega
  ·have hks:k=s.size:=by omega
   have hpc:qak c t=t :: (if false=true then qak c []else []):=by
    have:=hx.out;rw [List.take_of_length_le (by omega)]at this;rw [qfo c t this];rfl
   have HPC:=Lib.hid hpc;have r1 : ¬(k:Int)<s.size:=by omega
   clear hx hpc;go_wp2
   go_ret3
   exact⟨t,[],false,by rw [←HS0.out];rfl,HPC.out,(fun h=>by cases h),hS.out⟩
end
section
open Go.RowKit Ck Ma
theorem rd_index (v:Value) (l:List PNote) (name:Str) (w0:World) (hv:Notes w0 v l) :
  Calls Tryz.prog 155 #[v,.string (S name)] w0 fun e w'=>e=.returned (.int .i64 (idxL (fun n=>decide (n.name=name)) l))/\Bel w0 w':=by
 obtain⟨p,c,rfl,hl,hcap,hel⟩:=hv;have EL:=Lib.hid hel;have HH:=Lib.hid (fun k x (hx:l[k]? = some x) (hp:x.name=name) hn=>qni (fun n:PNote=>decide (n.name=name)) l k x hx (decide_eq_true hp) hn);have HM:=Lib.hid (qkc (fun n:PNote=>decide (n.name=name)) l);generalize idxL (fun n:PNote=>decide (n.name=name)) l=R at HH HM;clear hel hcap
 go_enter Tryz.func155,Tryz.ntmps155
 go_wp2
 go_loopw [5] (fun vi wr => ∃k:Nat,k<=l.length/\vi=.int .i64 k/\Hid (Bel w0 wr)/\Hid (∀j y,j<k->l[j]? = some y->decide (y.name=name)=false)) (fun vi _=>l.length-(intOf vi).toNat)
 case atStart=>exact⟨0,by omega,rfl,Lib.hid (Bel.refl _),Lib.hid (fun j y hj=>by omega)⟩
 case round=>as_aux_lemma=>
  obtain⟨k,hk,rfl,hS,hx⟩:=hrel;by_cases hlt:k<l.length
  ·obtain⟨b,off,rfl,hbs,vs,hce,hvs⟩:=EL.out k _ (List.getElem?_eq_getElem hlt)
   have hki:(k:Int)<(l.length:Int):=by omega
   have hxk:l[k]? = some l[k]:=List.getElem?_eq_getElem hlt;have e0:=hS.out.some (hce 0 (.string (S l[k].name)) (by obtain⟨_,hvv,_⟩:=hvs;rw [hvv];rfl));rw [Nat.add_zero]at e0;have HK:=Lib.hid hxk;clear hce hvs hxk;generalize l[k]=x at *;by_cases he:x.name=name
   ·have hcmp:((S x.name).toList == (S name).toList)=true:=by rw [eq_S];exact decide_eq_true he
    have hz:=HH.out k x HK.out he hx.out;clear hx he;subst hz;go_wp2;go_ret;exact⟨rfl,hS.out⟩
   ·have hcmp:((S x.name).toList == (S name).toList)=false:=by rw [eq_S];exact decide_eq_false he
    have HN:=Lib.hid (show ∀j y,j<k+1->l[j]? = some y->decide (y.name=name)=false from fun j y hj hy=>by
     rcases Nat.lt_succ_iff_lt_or_eq.1 hj with h|rfl
     ·exact hx.out j y h hy
     ·rw [HK.out]at hy
      cases hy
      exact decide_eq_false he)
    clear hx he;go_wp2;go_roundw
    case rel=>exact⟨k+1,by omega,by go_num,hS,HN⟩
    case measure=>simp [intOf];omega
  ·have hkl:k=l.length:=by omega
   have hki : ¬(k:Int)<(l.length:Int):=by omega
   have hz:=HM.out (by rw [←hkl];exact hx.out);subst hz;clear hx;go_wp2;go_ret;exact⟨rfl,hS.out⟩
theorem rd_Find (v:Value) (l:List PNote) (name:Str) (w0:World) (hv:Notes w0 v l) :
  Calls Tryz.prog 142 #[v,.string (S name)] w0 (qq8 (l.find? fun n=>decide (n.name=name)) w0):=by
 have CI:=Lib.hid (fun W (kk:Bel w0 W)=>rd_index v l name W (hv.bel VNote.stays kk));have hS0:=Lib.hid ((ST.start w0).addbox #[.int .i64 0,.int .u64 0,.string ⟨#[]⟩,.slice none 0 0,.slice none 0 0,.slice none 0 0,.slice none 0 0] 46);obtain⟨p,c,rfl,hl,hcap,hel⟩:=hv;rcases qkd (fun n:PNote=>decide (n.name=name)) l with⟨hneg,hnone⟩|⟨k,x,hk,hx,hsome,hkl⟩
 ·rw [hnone]
  have hneg2:decide (idxL (fun n:PNote=>decide (n.name=name)) l<0)=true:=by simpa using hneg
  generalize idxL (fun n:PNote=>decide (n.name=name)) l=R at CI hneg hneg2;clear hel hnone
  go_enter Tryz.func142,Tryz.ntmps142
  go_wp2_with (first
   | (go_at_call 155;(with_reducible refine(CI.out _ hS0.out.bel).mono ?_);rintro e w1 ⟨rfl,k1⟩;have k1:Bel _ w1:=k1;have H1:=Lib.hid (hS0.out.belw k1);have HB1:=Lib.hid (H1.out.box 0 rfl);clear k1)
   | (refine qa8 rfl 46 _ _ rfl w0.heap.size zVal.toArray _ 46 rfl rfl HB1.out ar_V rfl (by simp [zVal,Value.oneCell']) ?_))
  have HZ:=Lib.hid (H1.out.setrowbox 0 rfl zVal.toArray);refine bodyPost_ret (v:=.tuple #[.agg zVal.toArray,.bool false]) ?hres1 rfl ?hpost1
  case hres1=>exact qb1 rfl rfl rfl (HZ.out.box 0 rfl) Tryz.underlying46 rfl ar_V
  case hpost1=>exact⟨zVal,rfl,rfl,HZ.out.bel⟩
 ·rw [hsome]
  rw [hk]at CI;obtain⟨b,off,rfl,hbs,vs,hce,hvs⟩:=hel k x hx;obtain⟨vv,rfl,hval⟩:=hvs;have HV:=Lib.hid hval;have hvl:vv.length=7:=by obtain⟨_,_,_,_,_,_,_,_,rfl,_⟩:=hval;rfl
  have hvo:vv.toArray.all (·.oneCell')=true:=by obtain⟨_,_,_,_,_,_,_,_,rfl,_⟩:=hval;simp [Value.oneCell']
  have HC:=Lib.hid (show ∀i u,vv[i]? = some u->w0.cell? ⟨b,off+k*8+1+i,none⟩=some u from fun i u hu=>by
   have:=hce (i+1) u (by simpa using hu)
   rwa [show off+k*8+(i+1)=off+k*8+1+i by omega]at this)
  have Z0:vv.toArray.size=7:=by rw [List.size_toArray];exact hvl
  have Z1:=Lib.hid (show(Tryz.prog.info? 46).map (·.size)=some vv.toArray.size by rw [Z0];exact ar_V);have Z2:=Lib.hid (show(#[.int .i64 0,.int .u64 0,.string ⟨#[]⟩,.slice none 0 0,.slice none 0 0,.slice none 0 0,.slice none 0 0]:Array Value).size=vv.toArray.size by rw [Z0];rfl);have HL:=Lib.hid hvl;have HO:=Lib.hid hvo;have hki:(k:Int)<(l.length:Int):=by omega
  have hkn : ¬((k:Int)<0):=by omega
  clear hel hce hval hvl hvo Z0 hx hk hsome
  go_enter Tryz.func142,Tryz.ntmps142
  go_wp2_with (first
   | (go_at_call 155;(with_reducible refine(CI.out _ hS0.out.bel).mono ?_);rintro e w1 ⟨rfl,k1⟩;have k1:Bel _ w1:=k1;have H1:=Lib.hid (hS0.out.belw k1);have HB1:=Lib.hid (H1.out.box 0 rfl);have HC1:=Lib.hid (fun i u hu=>H1.out.bel.some (HC.out i u hu));clear k1)
   | (refine qaa rfl 46 _ rfl b (off+k*8+1) 7 vv rfl HC1.out ag_V sz_V HL.out ?_)
   | (refine qa8 rfl 46 _ _ rfl w0.heap.size vv.toArray _ 46 rfl rfl HB1.out Z1.out Z2.out HO.out ?_))
  have HZ:=Lib.hid (H1.out.setrowbox 0 rfl vv.toArray);refine bodyPost_ret (v:=.tuple #[.agg vv.toArray,.bool true]) ?hres2 rfl ?hpost2
  case hres2=>exact qb1 rfl rfl rfl (HZ.out.box 0 rfl) Tryz.underlying46 rfl Z1.out
  case hpost2=>exact⟨vv,rfl,HV.out,HZ.out.bel⟩
theorem rd_alias (v:Value) (l:List PNote) (nm:Str) (w0:World) (hv:Notes w0 v l) :
  Calls Tryz.prog 119 #[v,.string (S nm)] w0 fun e w'=>e=.returned (.bool (qbu l nm))/\Bel w0 w':=by
 have CF:=Lib.hid (show Calls Tryz.prog 142 #[v,.string ⟨#[97,108,105,97,115]⟩] w0 (qq8 (l.find? fun n=>decide (n.name=qhf)) w0)from rd_Find v l qhf w0 hv);have hal:qbu l nm=match l.find? (fun n=>decide (n.name=qhf))with|some n=>decide (n.val.k=7) && decide (n.val.t=nm)|none=>false:=rfl
 generalize qbu l nm=R at hal;obtain⟨q,c,rfl,_⟩:=qa5 hv;clear hv;cases hz:l.find? (fun n=>decide (n.name=qhf))with
 | none=>
  rw [hz]at CF hal;have hal2:R=false:=hal;subst hal2;clear hal hz
  go_enter Tryz.func119,Tryz.ntmps119
  go_wp2_with (go_at_call 142;(with_reducible refine CF.out.mono ?_);rintro e w1 ⟨vs,rfl,hvs,k1⟩;have hvs2:vs=[.int .i64 0,.int .u64 0,.string ⟨#[]⟩,.slice none 0 0,.slice none 0 0,.slice none 0 0,.slice none 0 0]:=hvs;subst hvs2;have K1:=Lib.hid k1;clear k1 hvs)
  go_ret;exact⟨rfl,K1.out.alloc _⟩
 | some n=>
  rw [hz]at CF hal;have hal2:R=(decide (n.val.k=7) && decide (n.val.t=nm)):=hal;have HR:=Lib.hid hal2;have HE:=Lib.hid (eq_S n.val.t nm);have HK:=Lib.hid (show(n.val.k == 7)=decide (n.val.k=7)by rw [Bool.eq_iff_iff];simp);clear hal hz hal2;by_cases h7:n.val.k=7
  ·have h7b:(n.val.k == 7)=true:=ieq h7
   have HR2:=Lib.hid (show R=decide (n.val.t=nm)by rw [HR.out,h7];simp);clear h7
   go_enter Tryz.func119,Tryz.ntmps119
   go_wp2_with (go_at_call 142;(with_reducible refine CF.out.mono ?_);rintro e w1 ⟨vs,rfl,hvs,k1⟩;have hvs2:VVal vs n.val:=hvs;obtain⟨p1,p2,p3,p4,c1,c2,c3,c4,hvc,_⟩:=hvs2;subst hvc;have K1:=Lib.hid k1;clear k1 hvs)
   go_ret;exact⟨qa7 (HE.out.trans HR2.out.symm),K1.out.alloc _⟩
  ·have h7b:(n.val.k == 7)=false:=ine h7
   have HR2:R=false:=by rw [HR.out];simp [h7]
   subst HR2;clear h7
   go_enter Tryz.func119,Tryz.ntmps119
   go_wp2_with (go_at_call 142;(with_reducible refine CF.out.mono ?_);rintro e w1 ⟨vs,rfl,hvs,k1⟩;have hvs2:VVal vs n.val:=hvs;obtain⟨p1,p2,p3,p4,c1,c2,c3,c4,hvc,_⟩:=hvs2;subst hvc;have K1:=Lib.hid k1;clear k1 hvs)
   go_ret;exact⟨rfl,K1.out.alloc _⟩
end
section
open Go.RowKit Ck Ma
theorem VField.notes {w:World} {vs:List Value} {f:PField} (h:VField w vs f) : ∃nv,vs[15]? = some nv/\Notes w nv f.notes:=by
 obtain⟨_,nv,rfl,⟨_,_,_,_,_,_,_,_,rfl,_⟩,h1⟩:=h;exact⟨nv,rfl,h1⟩
theorem qhq {m:PMsg} {vm:List Value} (p:Str) (wv w0:World) (hvb:Bel wv w0) (hv:VMsg wv vm m):Calls Tryz.prog 86 #[.agg vm.toArray,.string (S p)] w0 (qca VField zFld (qbd m p) wv w0):=by
 obtain⟨_,_,_,_,rfl,hm,h2,h3,h4⟩:=hv;obtain⟨q2,c2,rfl,_⟩:=qa5 h2;obtain⟨q3,c3,rfl,_⟩:=qa5 h3;obtain⟨q4,c4,rfl,_⟩:=qa5 h4;clear h2 h3 h4;obtain⟨q1,c1,rfl,hl,hcap,hel⟩:=hm;have F1:=Lib.hid (show ∀x,m.fields.find? (fun x=>decide (x.name=p))=some x->qbd m p=some x from fun x h=>by unfold qbd;rw [h]);have F2:=Lib.hid (show m.fields.find? (fun x=>decide (x.name=p))=none->(m.fields.drop 0).find? (fun x=>qbu x.notes p)=qbd m p from fun h=>by unfold qbd;rw [h];rfl);generalize qbd m p=Z at F1 F2 ⊢;show Calls _ _ #[.agg #[.string (S m.name),.slice q1 m.fields.length c1,.slice q2 m.res.length c2,.slice q3 m.gone.length c3,.slice q4 m.notes.length c4],.string (S p)] _ _
 have EL:=Lib.hid hel;have HVB:=Lib.hid hvb;have VF:=Lib.hid (show(m.fields.drop 0).find? (fun x=>decide (x.name=p))=m.fields.find? (fun x=>decide (x.name=p))from rfl);generalize m.fields.find? (fun x=>decide (x.name=p))=Y at VF F1 F2;have hS0':=((ST.start w0).addbox #[.string (S m.name),.slice q1 m.fields.length c1,.slice q2 m.res.length c2,.slice q3 m.gone.length c3,.slice q4 m.notes.length c4] 57).addbox zFld.toArray 65;simp only [World.size_alloc]at hS0';have hS0:=Lib.hid hS0';clear hel hcap hvb hS0'
 go_enter Tryz.func86,Tryz.ntmps86
 go_wp2
 go_loopw [6] (fun i wr => ∃k:Nat,k<=m.fields.length/\i=.int .i64 k/\Hid (ST w0 [] [⟨w0.heap.size+1,zFld.toArray,65⟩,⟨w0.heap.size,#[.string (S m.name),.slice q1 m.fields.length c1,.slice q2 m.res.length c2,.slice q3 m.gone.length c3,.slice q4 m.notes.length c4],57⟩] wr)/\Hid ((m.fields.drop k).find? (fun x=>decide (x.name=p))=Y)) (fun i _=>m.fields.length-(intOf i).toNat)
 case atStart=>exact⟨0,by omega,rfl,hS0,VF⟩
 case round=>as_aux_lemma=>
  clear hS0 VF;obtain⟨k,hk,rfl,hS,hx⟩:=hrel;have u0:=hS.out.cell 1 rfl 1;dsimp only at u0;have HB2:=Lib.hid (hS.out.box 0 rfl);by_cases hlt:k<m.fields.length
  ·obtain⟨b,off,rfl,hbs,vs,hce,hvs⟩:=EL.out k _ (List.getElem?_eq_getElem hlt)
   have hki:(k:Int)<(m.fields.length:Int):=by omega
   have hst:=hx.out;rw [List.drop_eq_getElem_cons hlt,List.find?_cons]at hst;have hlen:=VField.len _ _ _ hvs;have hone:=VField.one _ _ _ hvs;have HL:=Lib.hid hlen;have HO:=Lib.hid hone;have HVS:=Lib.hid hvs;have HC:=Lib.hid (fun i v hi=>(Bel.of HVB.out hS.out.bel).some (hce i v hi));have Z0:vs.toArray.size=16:=by rw [List.size_toArray];exact hlen
   have Z1:=Lib.hid (show(Tryz.prog.info? 65).map (·.size)=some vs.toArray.size by rw [Z0];exact ar_F);have Z2:=Lib.hid (show zFld.toArray.size=vs.toArray.size by rw [Z0];rfl);clear hx hlen hone Z0;generalize m.fields[k]=x at *;have e0:=HC.out 1 (.string (S x.name)) (by have h:=(VField.at HVS.out).2.1;rwa [List.getElem?_toArray]at h);clear hvs hce;by_cases he:x.name=p
   ·have hcmp:((S x.name).toList == (S p).toList)=true:=by rw [eq_S];exact decide_eq_true he
    rw [decide_eq_true he]at hst;have HST:=Lib.hid (F1.out x hst.symm);clear hst he F1 F2
    go_wp2_with (first
     | (refine qaa rfl 65 _ rfl b (off+k*16) 16 vs rfl HC.out ag_F sz_F HL.out ?_)
     | (refine qa8 rfl 65 _ _ rfl (w0.heap.size+1) vs.toArray zFld.toArray 65 rfl rfl HB2.out Z1.out Z2.out HO.out ?_))
    have HZ:=Lib.hid (hS.out.setrowbox 0 rfl vs.toArray);refine bodyPost_ret (v:=.tuple #[.agg vs.toArray,.bool true]) ?hres1 rfl ?hpost1
    case hres1=>exact qb1 rfl rfl rfl (HZ.out.box 0 rfl) Tryz.underlying65 rfl Z1.out
    case hpost1=>exact⟨vs,by rw [HST.out];rfl,by rw [HST.out];exact HVS.out,HZ.out.bel⟩
   ·have hcmp:((S x.name).toList == (S p).toList)=false:=by rw [eq_S];exact decide_eq_false he
    rw [decide_eq_false he]at hst;have HST:=Lib.hid (show(m.fields.drop (k+1)).find? (fun x=>decide (x.name=p))=Y from hst);clear hst he;go_wp2;go_roundw
    case rel=>exact⟨k+1,by omega,by go_num,hS,HST⟩
    case measure=>simp [intOf];omega
  ·have hkl:k=m.fields.length:=by omega
   have hki : ¬(k:Int)<(m.fields.length:Int):=by omega
   have hy:Y=none:=by have:=hx.out;rw [hkl,List.drop_length]at this;exact this.symm
   have V2:=Lib.hid (F2.out hy);have hS1:=hS;clear hx F1 F2 hy hkl;go_wp2
   go_loopw [7] (fun i wr => ∃k:Nat,k<=m.fields.length/\i=.int .i64 k/\Hid (ST w0 [] [⟨w0.heap.size+1,zFld.toArray,65⟩,⟨w0.heap.size,#[.string (S m.name),.slice q1 m.fields.length c1,.slice q2 m.res.length c2,.slice q3 m.gone.length c3,.slice q4 m.notes.length c4],57⟩] wr)/\Hid ((m.fields.drop k).find? (fun x=>qbu x.notes p)=Z)) (fun i _=>m.fields.length-(intOf i).toNat)
   case atStart=>exact⟨0,by omega,rfl,hS1,V2⟩
   case round=>as_aux_lemma=>
    clear hS hS1 V2 u0 HB2 hki hk;obtain⟨k,hk,rfl,hS,hx⟩:=hrel;have u0:=hS.out.cell 1 rfl 1;dsimp only at u0;by_cases hlt:k<m.fields.length
    ·obtain⟨b,off,rfl,hbs,vs,hce,hvs⟩:=EL.out k _ (List.getElem?_eq_getElem hlt)
     have hki:(k:Int)<(m.fields.length:Int):=by omega
     have hst:=hx.out;rw [List.drop_eq_getElem_cons hlt,List.find?_cons]at hst;have hlen:=VField.len _ _ _ hvs;have hone:=VField.one _ _ _ hvs;have HL:=Lib.hid hlen;have HO:=Lib.hid hone;have HVS:=Lib.hid hvs;have HC:=Lib.hid (fun i v hi=>(Bel.of HVB.out hS.out.bel).some (hce i v hi));have Z0:vs.toArray.size=16:=by rw [List.size_toArray];exact hlen
     have Z1:=Lib.hid (show(Tryz.prog.info? 65).map (·.size)=some vs.toArray.size by rw [Z0];exact ar_F);have Z2:=Lib.hid (show zFld.toArray.size=vs.toArray.size by rw [Z0];rfl);clear hx hlen hone Z0;generalize m.fields[k]=x at *;obtain⟨nv,hn15,hno⟩:=VField.notes hvs;have e0:=HC.out 15 nv hn15;have HCE:=Lib.hid hce;have hno2:Notes _ nv x.notes:=Sv.bel VNote.stays hno (Bel.of HVB.out hS.out.bel);have CA:=Lib.hid (rd_alias nv x.notes p _ hno2);obtain⟨nq,nc,rfl,_⟩:=qa5 hno;clear hvs hce hno hno2 hn15;cases ha:qbu x.notes p with
     | true=>
      rw [ha]at hst CA;have HST:=Lib.hid (show Z=some x from hst.symm);clear hst ha
      go_wp2_with (first
       | (go_at_call 119;(with_reducible refine CA.out.mono ?_);rintro e w1 ⟨rfl,k1⟩;have k1:Bel _ w1:=k1;have H1:=Lib.hid (hS.out.belw k1);have HB3:=Lib.hid (H1.out.box 0 rfl);have HC1:=Lib.hid (fun i v hi=>(Bel.of HVB.out H1.out.bel).some (HCE.out i v hi));have u1:=H1.out.cell 1 rfl 1;dsimp only at u1;clear u0 e0;clear k1)
       | (refine qaa rfl 65 _ rfl b (off+k*16) 16 vs rfl HC1.out ag_F sz_F HL.out ?_)
       | (refine qa8 rfl 65 _ _ rfl (w0.heap.size+1) vs.toArray zFld.toArray 65 rfl rfl HB3.out Z1.out Z2.out HO.out ?_))
      have HZ:=Lib.hid (H1.out.setrowbox 0 rfl vs.toArray);refine bodyPost_ret (v:=.tuple #[.agg vs.toArray,.bool true]) ?hres2 rfl ?hpost2
      case hres2=>exact qb1 rfl rfl rfl (HZ.out.box 0 rfl) Tryz.underlying65 rfl Z1.out
      case hpost2=>exact⟨vs,by rw [HST.out];rfl,by rw [HST.out];exact HVS.out,HZ.out.bel⟩
     | false=>
      rw [ha]at hst CA;have HST:=Lib.hid (show(m.fields.drop (k+1)).find? (fun x=>qbu x.notes p)=Z from hst);clear hst ha
      go_wp2_with (go_at_call 119;(with_reducible refine CA.out.mono ?_);rintro e w1 ⟨rfl,k1⟩;have k1:Bel _ w1:=k1;have H1:=Lib.hid (hS.out.belw k1);have HB3:=Lib.hid (H1.out.box 0 rfl);have HC1:=Lib.hid (fun i v hi=>(Bel.of HVB.out H1.out.bel).some (HCE.out i v hi));have u1:=H1.out.cell 1 rfl 1;dsimp only at u1;clear u0 e0;clear k1)
      go_roundw
      case rel=>exact⟨k+1,by omega,by go_num,H1,HST⟩
      case measure=>simp [intOf];omega
    ·have hkl:k=m.fields.length:=by omega
     have hki : ¬(k:Int)<(m.fields.length:Int):=by omega
     have hz:none=Z:=by have:=hx.out;rw [hkl,List.drop_length]at this;exact this
     subst hz;have HB3:=Lib.hid (hS.out.box 0 rfl);clear hx;have HO1:=Lib.hid (show zFld.toArray.all (·.oneCell')=true by simp [zFld,Value.oneCell'])
     go_wp2_with (refine qa8 rfl 65 _ _ rfl (w0.heap.size+1) zFld.toArray zFld.toArray 65 rfl rfl HB3.out ar_F rfl HO1.out ?_)
     have HZ:=Lib.hid (hS.out.setrowbox 0 rfl zFld.toArray);refine bodyPost_ret (v:=.tuple #[.agg zFld.toArray,.bool false]) ?hres3 rfl ?hpost3
     case hres3=>exact qb1 rfl rfl rfl (HZ.out.box 0 rfl) Tryz.underlying65 rfl ar_F
     case hpost3=>exact⟨zFld,rfl,rfl,HZ.out.bel⟩
end
end Go.Proofs.YtaaneecceiefoaaGreatDoor
namespace Go.Proofs.YtaaneecceiefoaaGreatDoor.Ma
open Ck
def onMsg (o:Option PMsg) (k:PMsg->Int × List PField):Int × List PField:=match o with
 | none=>(12,[])
 | some m=>k m
def pgr (s:PSchema):List PField->PMsg->List Str->Int × List PField
 | acc,_,[]=>(0,acc)
 | acc,m,p :: r=>onFld (qbd m p) fun f=>if r.isEmpty=true then(0,acc ++ [f])else if qc2 f=true then onMsg (msgOf s f.tn) (fun m2=>pgr s (acc ++ [f]) m2 r)else(12,[])
theorem pgr_eq (s:PSchema) (nm:Str) : ∀(r:List Str) (p q:Str) (acc:List PField) (m:PMsg),msgOf s q=some m->pgr s acc m (p :: r)=onFld (qbe s q p) fun f=>pgo s nm (acc ++ [f]) (some f) r
 | r,p,q,acc,m,hm=>by
  have hf:qbe s q p=qbd m p:=by unfold qbe;rw [hm];rfl
  rw [hf];unfold pgr;cases hz:qbd m p with
  | none=>rfl
  | some f=>
   show(if r.isEmpty=true then(0,acc ++ [f])else _)=pgo s nm (acc ++ [f]) (some f) r
   cases r with
   | nil=>rfl
   | cons p2 r2=>
    rw [if_neg (by simp)];show _=if goes s f=true then onFld (qbe s f.tn p2) (fun g=>pgo s nm (acc ++ [f] ++ [g]) (some g) r2)else(12,[])
    unfold goes;cases hg:qc2 f with
    | false=>rfl
    | true=>
     rw [if_pos rfl];cases hm2:msgOf s f.tn with
     | none=>rfl
     | some m2=>exact pgr_eq s nm r2 p2 f.tn (acc ++ [f]) m2 hm2
theorem qpc {s:PSchema} {nm t:Str} {m:PMsg} (ht:t ≠ []) (hm:msgOf s nm=some m):pathR s nm t=pgr s [] m (qak 46 t):=by
 unfold pathR;rw [if_neg ht,hm,qaq];show pgo s nm [] none (qak 46 t)=_
 cases hp:qak 46 t with
 | nil=>exact absurd hp (qby 46 t)
 | cons p r=>exact(pgr_eq s nm r p nm [] m hm).symm
end Go.Proofs.YtaaneecceiefoaaGreatDoor.Ma
