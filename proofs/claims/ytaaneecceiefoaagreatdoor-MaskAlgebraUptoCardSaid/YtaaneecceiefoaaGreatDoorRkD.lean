import Derived.Test.YtaaneecceiefoaaGreatDoorRkC
import Derived.Deep.DeepCutAuto
set_option maxRecDepth 100000
set_option maxHeartbeats 4000000
set_option linter.unusedVariables false
set_option linter.unusedSimpArgs false
namespace Go.Proofs.YtaaneecceiefoaaGreatDoor
open Go.RowKit Ck
theorem rk_Right (nm:Str) (nk nx:Int) (nt:Str) (p1 p2 p3 p4:Option Addr) (m1 m2 m3 m4 c1 c2 c3 c4:Nat) (w:World) (h0:0<=nx) (h1:nx<18446744073709551616) (b1:m1<=140737488355328) (b2:m2<=140737488355328) (b3:m3<=140737488355328) (b4:m4<=140737488355328) :
  Calls Tryz.prog 150 #[.agg #[.string (S nm),.int .i64 nk,.int .u64 nx,.string (S nt),.slice p1 m1 c1,.slice p2 m2 c2,.slice p3 m3 c3,.slice p4 m4 c4]] w fun e w'=>e=.returned (.bool (right ⟨nm,⟨nk,nx,nt,m1,m2,m3,m4⟩⟩))/\Below w.heap.size w w':=by
 have ck:=Lib.hid (fun W=>rk_Kind nm W);have cf':=Lib.hid (fun(kd:Int) W=>r4_Fits kd nk nx (S nt) p1 p2 p3 p4 m1 m2 m3 m4 c1 c2 c3 c4 W h0 h1 b1 b2 b3 b4);have hv':=Lib.hid (show right ⟨nm,⟨nk,nx,nt,m1,m2,m3,m4⟩⟩=(decide (qbk nm ≠ 0) && Pr.fitsB (qbk nm) nk nx nt (m1+m2+m3+m4))from rfl);generalize qbk nm=K at ck hv';generalize right ⟨nm,⟨nk,nx,nt,m1,m2,m3,m4⟩⟩=R at hv' ⊢;by_cases hK:K=0
 ·have hKb:(K != 0)=false:=by rw [hK];rfl
  have hv2:=Lib.hid (show R=false by rw [hv'.out,decide_eq_false (not_not_intro hK)];rfl);clear hv' hK cf'
  go_enter Tryz.func150,Tryz.ntmps150
  go_wp2_with (go_at_call 148;(with_reducible refine(ck.out _).mono ?_);rintro e w1 ⟨rfl,rfl⟩)
  go_ret;exact⟨qa4 hv2.out.symm,Bel.out (by(repeat (first|(with_reducible assumption)|(with_reducible exact Bel.refl _)|(with_reducible refine Bel.drew ?_)|(with_reducible refine Bel.drewN ?_ _)|(with_reducible refine Bel.alloc ?_ _)|((with_reducible refine qb9 ?_ ?hge);(case hge=>(first|omega|(simp;omega)))))))⟩
 ·have hKb:(K != 0)=true:=bne_iff_ne.2 hK
  by_cases hk:nk=K
  ·have hkb:(nk == K)=true:=by rw [hk];simp
   have hv2:=Lib.hid (show R=Pr.fitsB K nk nx nt (m1+m2+m3+m4)by rw [hv'.out,decide_eq_true hK,Bool.true_and]);have cf2:=cf'.out K;rw [qcb]at cf2;clear hv' hK hk cf';generalize Pr.fitsB K nk nx nt (m1+m2+m3+m4)=R2 at cf2 hv2;have cf3:=Lib.hid cf2;clear cf2
   go_enter Tryz.func150,Tryz.ntmps150
   go_wp2_with (first
    | (go_at_call 148;(with_reducible refine(ck.out _).mono ?_);rintro e w1 ⟨rfl,rfl⟩)
    | (go_at_call 132;(with_reducible refine(cf3.out _).mono ?_);rintro e w2 ⟨rfl,h2⟩;have k2:Bel w w2:=Bel.of (by(with_reducible repeat first|assumption|exact Bel.refl _|refine Bel.drew ?_|refine Bel.drewN ?_ _|refine Bel.alloc ?_ _)) h2;clear h2))
   go_ret;exact⟨qa4 hv2.out.symm,k2.out⟩
  ·have hkb:(nk == K)=false:=beq_eq_false_iff_ne.2 hk
   have hv2:=Lib.hid (show R=false by
    rw [hv'.out];unfold Pr.fitsB
    rw [decide_eq_false hk,Bool.and_false,Bool.false_and,Bool.false_and,Bool.false_and,Bool.false_and,Bool.and_false])
   clear hv' hK hk cf'
   go_enter Tryz.func150,Tryz.ntmps150
   go_wp2_with (go_at_call 148;(with_reducible refine(ck.out _).mono ?_);rintro e w1 ⟨rfl,rfl⟩)
   go_ret;exact⟨qa4 hv2.out.symm,Bel.out (by(repeat (first|(with_reducible assumption)|(with_reducible exact Bel.refl _)|(with_reducible refine Bel.drew ?_)|(with_reducible refine Bel.drewN ?_ _)|(with_reducible refine Bel.alloc ?_ _)|((with_reducible refine qb9 ?_ ?hge);(case hge=>(first|omega|(simp;omega)))))))⟩
def qen (l:List PNote) (k:Nat):Str:=if k=0 then []else match l[k-1]? with|some n=>n.name|none => []
theorem qjl (l:List PNote) (k:Nat) (n:PNote) (h:l[k]? = some n):qen l (k+1)=n.name:=by
 unfold qen;rw [if_neg (by omega),show k+1-1=k by omega,h]
theorem one_of (n:PNote) (tg:Int) (last:Str) (ok:Bool) (h:(Ck.find? n.name).isSome=true):qce n tg last ok=if fitsT (qcd n.name).2 tg=false then 1 else if right n=false then 12 else if ok=true/\Ck.ltS n.name last=true then 11 else if ok=true/\n.name=last then 9 else 0:=by
 obtain⟨r,hr⟩:=Option.isSome_iff_exists.1 h;unfold qce qcd;rw [hr];simp only [Option.getD_some]
 have he:(tg<1 ∨ 6<tg ∨ bitOf r.2 tg=false) ↔ fitsT r.2 tg=false:=by
  unfold fitsT;rw [Bool.and_eq_false_iff,decide_eq_false_iff_not];constructor
  ·rintro (h|h|h)
   ·exact .inl (by omega)
   ·exact .inl (by omega)
   ·exact .inr h
  ·rintro (h|h)
   ·omega
   ·exact .inr (.inr h)
 by_cases hf:fitsT r.2 tg=false
 ·rw [if_pos (he.2 hf),if_pos hf]
 ·rw [if_neg (fun h=>hf (he.1 h)),if_neg hf]
theorem go_step0 (tg:Int) (n:PNote) (r:List PNote) (last:Str) (ok:Bool) (h:qce n tg last ok=0):qdb tg (n :: r) last ok=qdb tg r n.name true:=by
 show(if qce n tg last ok=0 then qdb tg r n.name true else qce n tg last ok)=_
 rw [if_pos h]
theorem go_stepE (tg:Int) (n:PNote) (r:List PNote) (last:Str) (ok:Bool) {x:Int} (h:qce n tg last ok=x) (hx:x ≠ 0):qdb tg (n :: r) last ok=x:=by
 show(if qce n tg last ok=0 then qdb tg r n.name true else qce n tg last ok)=_
 rw [if_neg (by rw [h];exact hx),h]
theorem rk_Check (v:Value) (l:List PNote) (tg:Int) (w:World) (hv:Notes w v l) :
  Calls Tryz.prog 134 #[v,.int .i64 tg] w fun e w'=>e=.returned (.int .i64 (qb0 l tg))/\Below w.heap.size w w':=by
 obtain⟨p,c,rfl,hlen,hcap,hel⟩:=hv;by_cases h8:8<l.length
 ·have V:=Lib.hid (show qb0 l tg=3 by unfold qb0;rw [if_pos h8])
  have h8':(8:Int)<(l.length:Int):=by omega
  clear hel
  go_enter Tryz.func134,Tryz.ntmps134
  go_wp2;go_ret
  exact⟨qb2 V.out.symm,Below.refl _ _⟩
 ·have V:=Lib.hid (show qdb tg (l.drop 0) (qen l 0) (decide (0<0))=qb0 l tg by unfold qb0;rw [if_neg h8];rfl)
  have h8' : ¬(8:Int)<(l.length:Int):=by omega
  have EL:=Lib.hid hel;clear hel;generalize qb0 l tg=T at V
  go_enter Tryz.func134,Tryz.ntmps134
  go_wp2
  go_loopw [5] (fun i wr => ∃k:Nat,k<=l.length/\i=.int .i64 k/\Bel w wr/\Hid (qdb tg (l.drop k) (qen l k) (decide (0<k))=T)) (fun i _=>l.length-(intOf i).toNat)
  case atStart=>exact⟨0,by omega,rfl,Bel.refl _,V⟩
  case round=>
   obtain⟨k,hk,rfl,kw,hgo⟩:=hrel;by_cases hlt:k<l.length
   ·have hki:(k:Int)<(l.length:Int):=by omega
    have hk0:(0:Int)<=(k:Int):=by omega
    have hg:l[k]? = some l[k]:=List.getElem?_eq_getElem hlt;obtain⟨b,off,hp,hbs,vs,hce,nv,hvs,p1,p2,p3,p4,c1,c2,c3,c4,hnv,u0,u1,g1,g2,g3,g4⟩:=EL.out k _ hg
    have hprev:k=0 ∨ ∃(j:Nat) (pn:Str),k=j+1/\qen l k=pn/\w.cell? ⟨b,off+j*8,none⟩=some (.string (S pn)):=by
     by_cases h0:k=0
     ·exact .inl h0
     ·right
      have hgp:l[k-1]? = some l[k-1]:=List.getElem?_eq_getElem (show k-1<l.length by omega);obtain⟨b9,off9,hp9,_,vs9,hce9,nv9,hvs9,_⟩:=EL.out (k-1) _ hgp;have hqq:=hp.symm.trans hp9;cases hqq;subst hvs9;have e9:=hce9 0 _ rfl;rw [Nat.add_zero]at e9;exact⟨k-1,l[k-1].name,by omega,by unfold qen;rw [if_neg h0,hgp],e9⟩
    have hdr:l.drop k=l[k] :: l.drop (k+1):=List.drop_eq_getElem_cons hlt;have hls:=qjl l k _ hg;have GO:=Lib.hid (show qdb tg (l[k] :: l.drop (k+1)) (qen l k) (decide (0<k))=T by rw [←hdr];exact hgo.out);have HPV:=Lib.hid hprev;subst hp hvs hnv;clear hgo hdr hg hprev;generalize l[k]=n at *;obtain⟨nm,⟨nk,nx,nt,m1,m2,m3,m4⟩⟩:=n;have HLS:=Lib.hid (show qdb tg (l.drop (k+1)) nm true=qdb tg (l.drop (k+1)) (qen l (k+1)) (decide (0<k+1))by rw [hls,decide_eq_true (Nat.succ_pos k)]);clear hls;have KS:=Lib.hid (fun W' (kq:Bel wr W')=>show W'.cell? ⟨b,off+k*8,none⟩=some (.string (S nm))/\W'.cell? ⟨b,off+k*8+1,none⟩=some (.int .i64 nk)/\W'.cell? ⟨b,off+k*8+2,none⟩=some (.int .u64 nx)/\W'.cell? ⟨b,off+k*8+3,none⟩=some (.string (S nt))/\W'.cell? ⟨b,off+k*8+4,none⟩=some (.slice p1 m1 c1)/\W'.cell? ⟨b,off+k*8+5,none⟩=some (.slice p2 m2 c2)/\W'.cell? ⟨b,off+k*8+6,none⟩=some (.slice p3 m3 c3)/\W'.cell? ⟨b,off+k*8+7,none⟩=some (.slice p4 m4 c4)from⟨(Bel.of kw kq.out).some (hce 0 _ rfl),(Bel.of kw kq.out).some (hce 1 _ rfl),(Bel.of kw kq.out).some (hce 2 _ rfl),(Bel.of kw kq.out).some (hce 3 _ rfl),(Bel.of kw kq.out).some (hce 4 _ rfl),(Bel.of kw kq.out).some (hce 5 _ rfl),(Bel.of kw kq.out).some (hce 6 _ rfl),(Bel.of kw kq.out).some (hce 7 _ rfl)⟩);obtain⟨e0,e1,e2,e3,e4,e5,e6,e7⟩:=KS.out _ (Bel.refl _);have CK:=Lib.hid (fun W=>rk_Kind nm W);have CR:=Lib.hid (fun W=>rk_Right nm nk nx nt p1 p2 p3 p4 m1 m2 m3 m4 c1 c2 c3 c4 W u0 u1 g1 g2 g3 g4);clear hce u0 u1 g1 g2 g3 g4;cases hf:(Ck.find? nm).isSome with
    | false=>
     have hfn:Ck.find? nm=none:=by cases h:Ck.find? nm with|none=>rfl|some r=>rw [h]at hf;cases hf
     have HE:=Lib.hid (show(8:Int)=T by rw [←GO.out];exact(go_stepE tg _ _ _ _ (by unfold qce;simp only [hfn]) (by decide)).symm);rw [qfs hfn]at CK;clear hf hfn
     go_wp2_with (go_at_call 148;(with_reducible refine(CK.out _).mono ?_);rintro e w1 ⟨rfl,rfl⟩)
     go_ret;exact⟨qb2 HE.out,kw.out⟩
    | true=>
     have CF:=Lib.hid (fun W=>rk_fits nm tg W hf);have hone:=one_of ⟨nm,⟨nk,nx,nt,m1,m2,m3,m4⟩⟩ tg (qen l k) (decide (0<k)) hf;simp only at hone;have hkn:qbk nm ≠ 0:=fun h=>by rw [kind_zero.1 h]at hf;cases hf
     generalize qbk nm=K at CK hkn;have q0:(K == 0)=false:=beq_eq_false_iff_ne.2 hkn;generalize fitsT (qcd nm).2 tg=FT at CF hone;generalize right ⟨nm,⟨nk,nx,nt,m1,m2,m3,m4⟩⟩=RT at CR hone;clear hkn hf;cases FT with
     | false=>
      rw [if_pos rfl]at hone;have HE:=Lib.hid (show(1:Int)=T by rw [←GO.out];exact(go_stepE tg _ _ _ _ hone (by decide)).symm);clear hone
      go_wp2_with (first
       | (go_at_call 148;(with_reducible refine(CK.out _).mono ?_);rintro e w1 ⟨rfl,rfl⟩)
       | (go_at_call 149;(with_reducible refine(CF.out _).mono ?_);rintro e w2 ⟨rfl,rfl⟩))
      go_ret;exact⟨qb2 HE.out,kw.out⟩
     | true=>
      rw [if_neg (by simp)]at hone;cases RT with
      | false=>
       rw [if_pos rfl]at hone;have HE:=Lib.hid (show(12:Int)=T by rw [←GO.out];exact(go_stepE tg _ _ _ _ hone (by decide)).symm);clear hone
       go_wp2_with (first
        | (go_at_call 148;(with_reducible refine(CK.out _).mono ?_);rintro e w1 ⟨rfl,rfl⟩)
        | (go_at_call 149;(with_reducible refine(CF.out _).mono ?_);rintro e w2 ⟨rfl,rfl⟩)
        | (go_at_call 150;(with_reducible refine(CR.out _).mono ?_);rintro e w3 ⟨rfl,h3⟩;have k3:Bel wr w3:=Bel.of (Bel.refl _) h3;clear h3 e0 e1 e2 e3 e4 e5 e6 e7;obtain⟨e0,e1,e2,e3,e4,e5,e6,e7⟩:=KS.out _ k3))
       go_ret;exact⟨qb2 HE.out,(Bel.of kw k3.out).out⟩
      | true=>
       rw [if_neg (by simp)]at hone
       go_upto_region 12 with(first
        | (go_at_call 148;(with_reducible refine(CK.out _).mono ?_);rintro e w1 ⟨rfl,rfl⟩)
        | (go_at_call 149;(with_reducible refine(CF.out _).mono ?_);rintro e w2 ⟨rfl,rfl⟩)
        | (go_at_call 150;(with_reducible refine(CR.out _).mono ?_);rintro e w3 ⟨rfl,h3⟩;have k3:Bel wr w3:=Bel.of (Bel.refl _) h3;clear h3 e0 e1 e2 e3 e4 e5 e6 e7;obtain⟨e0,e1,e2,e3,e4,e5,e6,e7⟩:=KS.out _ k3))
       clear CK CF CR;rcases HPV.out with h0|⟨j,pn,hkj,hla,hc9⟩
       ·have hk0n : ¬(0<k):=by omega
        rw [if_neg (fun h=>absurd (of_decide_eq_true h.1) hk0n),if_neg (fun h=>absurd (of_decide_eq_true h.1) hk0n)]at hone;have HN:=Lib.hid (show qdb tg (l.drop (k+1)) (qen l (k+1)) (decide (0<k+1))=T by rw [←HLS.out, ←GO.out,go_step0 tg _ _ _ _ hone]);clear hone h0;obtain⟨wd1,hwd1⟩ : ∃wd,wd=w3.drew:=⟨_,rfl⟩;have kd1:Bel wr wd1:=Bel.of k3 (by rw [hwd1];exact((Bel.refl _).drew:Bel w3 _):Bel w3 wd1).out;have HWD1:=Lib.hid hwd1;clear hwd1 e0 e1 e2 e3 e4 e5 e6 e7;obtain⟨e0,e1,e2,e3,e4,e5,e6,e7⟩:=KS.out _ kd1;refine qag 14 (by kernel_rfl) (by kernel_rfl) HWD1.out ?_
        (simp only [List.take_succ_cons,List.take_zero,List.drop_succ_cons,List.drop_zero]);(repeat (first|((with_reducible refine wpStill_step (fun K hK=>?_));go_simp;(with_reducible refine hK _ ?_);clear hK K)|((with_reducible refine qah ?_ ?_);(with_unfolding_all rfl))));(with_reducible refine wpStill_nil ?_)
        go_upto_region 14 with(fail)
        obtain⟨wd2,hwd2⟩ : ∃wd,wd=wd1.drew:=⟨_,rfl⟩;have kd2:Bel wr wd2:=Bel.of kd1 (by rw [hwd2];exact((Bel.refl _).drew:Bel wd1 _):Bel wd1 wd2).out;have HWD2:=Lib.hid hwd2;clear hwd2 e0 e1 e2 e3 e4 e5 e6 e7;obtain⟨e0,e1,e2,e3,e4,e5,e6,e7⟩:=KS.out _ kd2;refine qag 14 (by kernel_rfl) (by kernel_rfl) HWD2.out ?_
        (simp only [List.take_succ_cons,List.take_zero,List.drop_succ_cons,List.drop_zero]);(repeat (first|((with_reducible refine wpStill_step (fun K hK=>?_));go_simp;(with_reducible refine hK _ ?_);clear hK K)|((with_reducible refine qah ?_ ?_);(with_unfolding_all rfl))));(with_reducible refine wpStill_nil ?_)
        go_wp2;exact⟨⟨k+1,by omega,by go_num,Bel.of kw kd2.out,HN⟩,by simp [intOf];omega⟩
       ·have hk00:(0:Int)<(k:Int):=by omega
        have hk00n:0<k:=by omega
        have jw3:(k:Int)-1=(j:Int):=by omega
        have jw2:IntKind.i64.wrap (j:Int)=(j:Int):=wrap_small _ (by omega) (by omega);have jw:IntKind.i64.wrap ((k:Int)-1)=(j:Int):=by rw [jw3];exact jw2
        have j1:(j:Int)<(l.length:Int):=by omega
        have j0:(0:Int)<=(j:Int):=by omega
        have EP:=Lib.hid (kw.some hc9);rw [hla,decide_eq_true hk00n]at hone;rw [hla,decide_eq_true hk00n]at GO;clear hc9 hkj hla;cases hlt9:Ck.ltS nm pn with
        | true=>
         rw [if_pos ⟨rfl,hlt9⟩]at hone;have HE:=Lib.hid (show(11:Int)=T by rw [←GO.out];exact(go_stepE tg _ _ _ _ hone (by decide)).symm);have z1:Op.bytesLess (S nm).toList (S pn).toList=true:=by rw [ql8];exact hlt9
         clear hone hlt9;obtain⟨wd1,hwd1⟩ : ∃wd,wd=w3.drew:=⟨_,rfl⟩;have kd1:Bel wr wd1:=Bel.of k3 (by rw [hwd1];exact((Bel.refl _).drew:Bel w3 _):Bel w3 wd1).out;have HWD1:=Lib.hid hwd1;clear hwd1 e0 e1 e2 e3 e4 e5 e6 e7;obtain⟨e0,e1,e2,e3,e4,e5,e6,e7⟩:=KS.out _ kd1;have ep:=kd1.some EP.out;refine qag 14 (by kernel_rfl) (by kernel_rfl) HWD1.out ?_
         (simp only [List.take_succ_cons,List.take_zero,List.drop_succ_cons,List.drop_zero]);(repeat (first|((with_reducible refine wpStill_step (fun K hK=>?_));go_simp;(with_reducible refine hK _ ?_);clear hK K)|((with_reducible refine qah ?_ ?_);(with_unfolding_all rfl))));(with_reducible refine wpStill_nil ?_)
         go_wp2;go_ret
         exact⟨qb2 HE.out,(Bel.of kw kd1.out).out⟩
        | false=>
         rw [if_neg (fun h=>by rw [hlt9]at h;cases h.2)]at hone;have z1:Op.bytesLess (S nm).toList (S pn).toList=false:=by rw [ql8];exact hlt9
         by_cases he:nm=pn
         ·rw [if_pos ⟨rfl,he⟩]at hone
          have HE:=Lib.hid (show(9:Int)=T by rw [←GO.out];exact(go_stepE tg _ _ _ _ hone (by decide)).symm);have z2:((S nm).toList == (S pn).toList)=true:=by rw [eq_S];exact decide_eq_true he
          clear hone hlt9 he;obtain⟨wd1,hwd1⟩ : ∃wd,wd=w3.drew:=⟨_,rfl⟩;have kd1:Bel wr wd1:=Bel.of k3 (by rw [hwd1];exact((Bel.refl _).drew:Bel w3 _):Bel w3 wd1).out;have HWD1:=Lib.hid hwd1;clear hwd1 e0 e1 e2 e3 e4 e5 e6 e7;obtain⟨e0,e1,e2,e3,e4,e5,e6,e7⟩:=KS.out _ kd1;have ep:=kd1.some EP.out;refine qag 14 (by kernel_rfl) (by kernel_rfl) HWD1.out ?_
          (simp only [List.take_succ_cons,List.take_zero,List.drop_succ_cons,List.drop_zero]);(repeat (first|((with_reducible refine wpStill_step (fun K hK=>?_));go_simp;(with_reducible refine hK _ ?_);clear hK K)|((with_reducible refine qah ?_ ?_);(with_unfolding_all rfl))));(with_reducible refine wpStill_nil ?_)
          go_upto_region 14 with(fail)
          obtain⟨wd2,hwd2⟩ : ∃wd,wd=wd1.drew:=⟨_,rfl⟩;have kd2:Bel wr wd2:=Bel.of kd1 (by rw [hwd2];exact((Bel.refl _).drew:Bel wd1 _):Bel wd1 wd2).out;have HWD2:=Lib.hid hwd2;clear hwd2 e0 e1 e2 e3 e4 e5 e6 e7 ep;obtain⟨e0,e1,e2,e3,e4,e5,e6,e7⟩:=KS.out _ kd2;have ep:=kd2.some EP.out;refine qag 14 (by kernel_rfl) (by kernel_rfl) HWD2.out ?_
          (simp only [List.take_succ_cons,List.take_zero,List.drop_succ_cons,List.drop_zero]);(repeat (first|((with_reducible refine wpStill_step (fun K hK=>?_));go_simp;(with_reducible refine hK _ ?_);clear hK K)|((with_reducible refine qah ?_ ?_);(with_unfolding_all rfl))));(with_reducible refine wpStill_nil ?_)
          go_wp2;go_ret
          exact⟨qb2 HE.out,(Bel.of kw kd2.out).out⟩
         ·rw [if_neg (fun h=>he h.2)]at hone
          have HN:=Lib.hid (show qdb tg (l.drop (k+1)) (qen l (k+1)) (decide (0<k+1))=T by rw [←HLS.out, ←GO.out,go_step0 tg _ _ _ _ hone]);have z2:((S nm).toList == (S pn).toList)=false:=by rw [eq_S];exact decide_eq_false he
          clear hone hlt9 he;obtain⟨wd1,hwd1⟩ : ∃wd,wd=w3.drew:=⟨_,rfl⟩;have kd1:Bel wr wd1:=Bel.of k3 (by rw [hwd1];exact((Bel.refl _).drew:Bel w3 _):Bel w3 wd1).out;have HWD1:=Lib.hid hwd1;clear hwd1 e0 e1 e2 e3 e4 e5 e6 e7;obtain⟨e0,e1,e2,e3,e4,e5,e6,e7⟩:=KS.out _ kd1;have ep:=kd1.some EP.out;refine qag 14 (by kernel_rfl) (by kernel_rfl) HWD1.out ?_
          (simp only [List.take_succ_cons,List.take_zero,List.drop_succ_cons,List.drop_zero]);(repeat (first|((with_reducible refine wpStill_step (fun K hK=>?_));go_simp;(with_reducible refine hK _ ?_);clear hK K)|((with_reducible refine qah ?_ ?_);(with_unfolding_all rfl))));(with_reducible refine wpStill_nil ?_)
          go_upto_region 14 with(fail)
          obtain⟨wd2,hwd2⟩ : ∃wd,wd=wd1.drew:=⟨_,rfl⟩;have kd2:Bel wr wd2:=Bel.of kd1 (by rw [hwd2];exact((Bel.refl _).drew:Bel wd1 _):Bel wd1 wd2).out;have HWD2:=Lib.hid hwd2;clear hwd2 e0 e1 e2 e3 e4 e5 e6 e7 ep;obtain⟨e0,e1,e2,e3,e4,e5,e6,e7⟩:=KS.out _ kd2;have ep:=kd2.some EP.out;refine qag 14 (by kernel_rfl) (by kernel_rfl) HWD2.out ?_
          (simp only [List.take_succ_cons,List.take_zero,List.drop_succ_cons,List.drop_zero]);(repeat (first|((with_reducible refine wpStill_step (fun K hK=>?_));go_simp;(with_reducible refine hK _ ?_);clear hK K)|((with_reducible refine qah ?_ ?_);(with_unfolding_all rfl))));(with_reducible refine wpStill_nil ?_)
          go_wp2;exact⟨⟨k+1,by omega,by go_num,Bel.of kw kd2.out,HN⟩,by simp [intOf];omega⟩
   ·have hki : ¬(k:Int)<(l.length:Int):=by omega
    have HE:=Lib.hid (show(0:Int)=T by
     have h:=hgo.out;rw [show k=l.length by omega,List.drop_length]at h
     rw [←h];rfl)
    clear hgo;go_wp2;go_ret;exact⟨qb2 HE.out,kw.out⟩
theorem qfi (l:Str) (w:World) (hl:l.length<=1000000000) :
  Calls Tryz.prog 101 #[.string (S l)] w fun e w'=>e=.returned (.bool (qaf l))/\Below w.heap.size w w':=by
 have c1:=Lib.hid (fun W=>qkn (S l) l W rfl (by rw [qdg];exact hl));cases hF:Id.isFull l with
 | false=>
  have HV:=Lib.hid (show qaf l=false by unfold qaf;rw [hF,Bool.false_and]);rw [hF]at c1
  go_enter Tryz.func101,Tryz.ntmps101
  go_wp2_with (go_at_call 127;(with_reducible refine(c1.out _).mono ?_);rintro e w1 ⟨rfl,rfl⟩)
  go_ret;exact⟨qa4 HV.out.symm,Below.refl _ _⟩
 | true=>
  have HV:=Lib.hid (show usG l=qaf l from(qjz hF).symm);rw [hF]at c1;generalize qaf l=T at HV;have hl120:l.length<=120:=by unfold Id.isFull at hF;simp only [Bool.and_eq_true,decide_eq_true_eq]at hF;exact hF.2
  have HFF:=Lib.hid hF;clear hF
  go_enter Tryz.func101,Tryz.ntmps101
  go_upto_region 3 with(go_at_call 127;(with_reducible refine(c1.out _).mono ?_);rintro e w1 ⟨rfl,rfl⟩)
  go_wp2
  go_loopw [0,3] (fun cu i wr => ∃(k:Nat) (cur:Str),i=.int .i64 k/\cu=.string (S cur)/\cur.length+k<=120/\Bel w wr/\Hid ((cur ≠ []->Id.isFull cur=true)/\usG cur=T)) (fun _ i _=>120-(intOf i).toNat)
  case atStart=>exact⟨0,l,rfl,rfl,by omega,Bel.refl _,Lib.hid ⟨fun _=>HFF.out,HV.out⟩⟩
  case round=>
   obtain⟨k,cur,rfl,rfl,hck,kw,hgo⟩:=hrel;by_cases hc:cur=[]
   ·have HE:=Lib.hid (show true=T by have h:=hgo.out.2;rw [hc]at h;exact h)
    have hq:((k:Int)<120) ∨ ¬((k:Int)<120):=by omega
    clear hgo hck;subst hc;have he:(S []).toList=[]:=qgy [] rfl;have he2:(S []).toList.isEmpty=true:=by rw [he];rfl
    rcases hq with hq|hq
    all_goals
     go_wp2
     all_goals go_ret
     all_goals exact⟨qa4 HE.out,kw.out⟩
   ·have hF:=hgo.out.1 hc
    have hpos:0<cur.length:=by cases cur with|nil=>exact absurd rfl hc|cons a r=>simp
    have hk120:(k:Int)<120:=by omega
    have he:=qcf cur hc;have he2:=qcn cur hc;have hst:=usG_full hF;obtain⟨f1,f2,f3⟩:=Id.full_split hF
    have hlen:(Id.splitL cur).1.length+(k+1)<=120:=by
     have h:=congrArg List.length f2;unfold Id.join at h;by_cases h0:(Id.splitL cur).1=[]
     ·rw [h0];simp only [List.length_nil];omega
     ·rw [if_neg h0]at h
      simp only [List.length_append,List.length_cons]at h;omega
    have cs:=Lib.hid (fun W=>qmq (S cur) cur W rfl (by rw [qdg];omega));have cw:=Lib.hid (fun W=>qgd (S (Id.splitL cur).2) (Id.splitL cur).2 W rfl);have HG:=Lib.hid (show(!Id.isWord (Id.splitL cur).2 && usG (Id.splitL cur).1)=T by rw [←hst];exact hgo.out.2);have HF3:=Lib.hid f3;clear hst hgo f1 f2 f3 hF hc hck hpos;generalize (Id.splitL cur).1=c1' at *;generalize (Id.splitL cur).2=c2' at *;generalize Id.isWord c2'=Q at *;cases Q with
    | true=>
     have HE:=Lib.hid (show false=T by rw [←HG.out];rfl)
     go_wp2_with (first
      | (go_at_call 128;(with_reducible refine(cs.out _).mono ?_);rintro e w2 ⟨rfl,n2,rfl⟩)
      | (go_at_call 129;(with_reducible refine(cw.out _).mono ?_);rintro e w3 ⟨rfl,rfl⟩))
     go_ret;exact⟨qa4 HE.out,(Bel.drewN kw _).out⟩
    | false=>
     have HN:=Lib.hid (show(c1' ≠ []->Id.isFull c1'=true)/\usG c1'=T from⟨HF3.out,by rw [←HG.out];rfl⟩)
     go_wp2_with (first
      | (go_at_call 128;(with_reducible refine(cs.out _).mono ?_);rintro e w2 ⟨rfl,n2,rfl⟩)
      | (go_at_call 129;(with_reducible refine(cw.out _).mono ?_);rintro e w3 ⟨rfl,rfl⟩))
     exact⟨⟨k+1,c1',by go_num,rfl,hlen,Bel.drewN kw _,HN⟩,by simp [intOf];omega⟩
end Go.Proofs.YtaaneecceiefoaaGreatDoor
