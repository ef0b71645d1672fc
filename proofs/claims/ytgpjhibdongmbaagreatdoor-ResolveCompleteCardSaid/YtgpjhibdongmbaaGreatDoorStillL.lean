import Derived.Test.YtgpjhibdongmbaaGreatDoorRkC
import Derived.Deep.DeepCutAuto
import Derived.Test.YtgpjhibdongmbaaGreatDoorRsIdx
import Derived.Test.YtgpjhibdongmbaaGreatDoorMap
import Derived.Test.YtgpjhibdongmbaaGreatDoorIdRef1
import Derived.Shelf.SlicesQ.Load
set_option maxRecDepth 100000
set_option maxHeartbeats 4000000
set_option linter.unusedVariables false
set_option linter.unusedSimpArgs false
namespace Go.Proofs.YtgpjhibdongmbaaGreatDoor
section
open Go.RowKit Ck
theorem rk_Right (nm:Str) (nk nx:Int) (nt:Str) (p1 p2 p3 p4:Option Addr) (m1 m2 m3 m4 c1 c2 c3 c4:Nat) (w:World) (h0:0<=nx) (h1:nx<18446744073709551616) (b1:m1<=140737488355328) (b2:m2<=140737488355328) (b3:m3<=140737488355328) (b4:m4<=140737488355328) :
  Calls Tryz.prog 107 #[.agg #[.string (S nm),.int .i64 nk,.int .u64 nx,.string (S nt),.slice p1 m1 c1,.slice p2 m2 c2,.slice p3 m3 c3,.slice p4 m4 c4]] w fun e w'=>e=.returned (.bool (right ⟨nm,⟨nk,nx,nt,m1,m2,m3,m4⟩⟩))/\Below w.heap.size w w':=by
 have ck:=Lib.hid (fun W=>rk_Kind nm W);have cf':=Lib.hid (fun(kd:Int) W=>r4_Fits kd nk nx (S nt) p1 p2 p3 p4 m1 m2 m3 m4 c1 c2 c3 c4 W h0 h1 b1 b2 b3 b4);have hv':=Lib.hid (show right ⟨nm,⟨nk,nx,nt,m1,m2,m3,m4⟩⟩=(decide (qay nm ≠ 0) && Pr.fitsB (qay nm) nk nx nt (m1+m2+m3+m4))from rfl);generalize qay nm=K at ck hv';generalize right ⟨nm,⟨nk,nx,nt,m1,m2,m3,m4⟩⟩=R at hv' ⊢;by_cases hK:K=0
 ·have hKb:(K != 0)=false:=by rw [hK];rfl
  have hv2:=Lib.hid (show R=false by rw [hv'.out,decide_eq_false (not_not_intro hK)];rfl);clear hv' hK cf'
  go_enter Tryz.func107,Tryz.ntmps107
  go_wp2_with (go_at_call 105;(with_reducible refine(ck.out _).mono ?_);rintro e w1 ⟨rfl,rfl⟩)
  go_ret;exact⟨qa3 hv2.out.symm,Bel.out (by(repeat (first|(with_reducible assumption)|(with_reducible exact Bel.refl _)|(with_reducible refine Bel.drew ?_)|(with_reducible refine Bel.drewN ?_ _)|(with_reducible refine Bel.alloc ?_ _)|((with_reducible refine qc4 ?_ ?hge);(case hge=>(first|omega|(simp;omega)))))))⟩
 ·have hKb:(K != 0)=true:=bne_iff_ne.2 hK
  by_cases hk:nk=K
  ·have hkb:(nk == K)=true:=by rw [hk];simp
   have hv2:=Lib.hid (show R=Pr.fitsB K nk nx nt (m1+m2+m3+m4)by rw [hv'.out,decide_eq_true hK,Bool.true_and]);have cf2:=cf'.out K;rw [qc2]at cf2;clear hv' hK hk cf';generalize Pr.fitsB K nk nx nt (m1+m2+m3+m4)=R2 at cf2 hv2;have cf3:=Lib.hid cf2;clear cf2
   go_enter Tryz.func107,Tryz.ntmps107
   go_wp2_with (first
    | (go_at_call 105;(with_reducible refine(ck.out _).mono ?_);rintro e w1 ⟨rfl,rfl⟩)
    | (go_at_call 95;(with_reducible refine(cf3.out _).mono ?_);rintro e w2 ⟨rfl,h2⟩;have k2:Bel w w2:=Bel.of (by(with_reducible repeat first|assumption|exact Bel.refl _|refine Bel.drew ?_|refine Bel.drewN ?_ _|refine Bel.alloc ?_ _)) h2;clear h2))
   go_ret;exact⟨qa3 hv2.out.symm,k2.out⟩
  ·have hkb:(nk == K)=false:=beq_eq_false_iff_ne.2 hk
   have hv2:=Lib.hid (show R=false by
    rw [hv'.out];unfold Pr.fitsB
    rw [decide_eq_false hk,Bool.and_false,Bool.false_and,Bool.false_and,Bool.false_and,Bool.false_and,Bool.and_false])
   clear hv' hK hk cf'
   go_enter Tryz.func107,Tryz.ntmps107
   go_wp2_with (go_at_call 105;(with_reducible refine(ck.out _).mono ?_);rintro e w1 ⟨rfl,rfl⟩)
   go_ret;exact⟨qa3 hv2.out.symm,Bel.out (by(repeat (first|(with_reducible assumption)|(with_reducible exact Bel.refl _)|(with_reducible refine Bel.drew ?_)|(with_reducible refine Bel.drewN ?_ _)|(with_reducible refine Bel.alloc ?_ _)|((with_reducible refine qc4 ?_ ?hge);(case hge=>(first|omega|(simp;omega)))))))⟩
def qdo (l:List PNote) (k:Nat):Str:=if k=0 then []else match l[k-1]? with|some n=>n.name|none => []
theorem qiz (l:List PNote) (k:Nat) (n:PNote) (h:l[k]? = some n):qdo l (k+1)=n.name:=by
 unfold qdo;rw [if_neg (by omega),show k+1-1=k by omega,h]
theorem one_of (n:PNote) (tg:Int) (last:Str) (ok:Bool) (h:(Ck.find? n.name).isSome=true):qb0 n tg last ok=if fitsT (qaw n.name).2 tg=false then 1 else if right n=false then 12 else if ok=true/\Ck.ltS n.name last=true then 11 else if ok=true/\n.name=last then 9 else 0:=by
 obtain⟨r,hr⟩:=Option.isSome_iff_exists.1 h;unfold qb0 qaw;rw [hr];simp only [Option.getD_some]
 have he:(tg<1 ∨ 6<tg ∨ bitOf r.2 tg=false) ↔ fitsT r.2 tg=false:=by
  unfold fitsT;rw [Bool.and_eq_false_iff,decide_eq_false_iff_not];constructor
  ·rintro (h|h|h)
   ·exact .inl (by omega)
   ·exact .inl (by omega)
   ·exact .inr h
  ·rintro (h|h)
   ·omega
   ·exact .inr (.inr h)
 by_cases hf:fitsT r.2 tg=false
 ·rw [if_pos (he.2 hf),if_pos hf]
 ·rw [if_neg (fun h=>hf (he.1 h)),if_neg hf]
theorem go_step0 (tg:Int) (n:PNote) (r:List PNote) (last:Str) (ok:Bool) (h:qb0 n tg last ok=0):qc5 tg (n :: r) last ok=qc5 tg r n.name true:=by
 show(if qb0 n tg last ok=0 then qc5 tg r n.name true else qb0 n tg last ok)=_
 rw [if_pos h]
theorem go_stepE (tg:Int) (n:PNote) (r:List PNote) (last:Str) (ok:Bool) {x:Int} (h:qb0 n tg last ok=x) (hx:x ≠ 0):qc5 tg (n :: r) last ok=x:=by
 show(if qb0 n tg last ok=0 then qc5 tg r n.name true else qb0 n tg last ok)=_
 rw [if_neg (by rw [h];exact hx),h]
theorem rk_Check (v:Value) (l:List PNote) (tg:Int) (w:World) (hv:Notes w v l) :
  Calls Tryz.prog 80 #[v,.int .i64 tg] w fun e w'=>e=.returned (.int .i64 (qam l tg))/\Below w.heap.size w w':=by
 obtain⟨p,c,rfl,hlen,hcap,hel⟩:=hv;by_cases h8:8<l.length
 ·have V:=Lib.hid (show qam l tg=3 by unfold qam;rw [if_pos h8])
  have h8':(8:Int)<(l.length:Int):=by omega
  clear hel
  go_enter Tryz.func80,Tryz.ntmps80
  go_wp2;go_ret
  exact⟨qaf V.out.symm,Below.refl _ _⟩
 ·have V:=Lib.hid (show qc5 tg (l.drop 0) (qdo l 0) (decide (0<0))=qam l tg by unfold qam;rw [if_neg h8];rfl)
  have h8' : ¬(8:Int)<(l.length:Int):=by omega
  have EL:=Lib.hid hel;clear hel;generalize qam l tg=T at V
  go_enter Tryz.func80,Tryz.ntmps80
  go_wp2
  go_loopw [5] (fun i wr => ∃k:Nat,k<=l.length/\i=.int .i64 k/\Bel w wr/\Hid (qc5 tg (l.drop k) (qdo l k) (decide (0<k))=T)) (fun i _=>l.length-(intOf i).toNat)
  case atStart=>exact⟨0,by omega,rfl,Bel.refl _,V⟩
  case round=>
   obtain⟨k,hk,rfl,kw,hgo⟩:=hrel;by_cases hlt:k<l.length
   ·have hki:(k:Int)<(l.length:Int):=by omega
    have hk0:(0:Int)<=(k:Int):=by omega
    have hg:l[k]? = some l[k]:=List.getElem?_eq_getElem hlt;obtain⟨b,off,hp,hbs,vs,hce,nv,hvs,p1,p2,p3,p4,c1,c2,c3,c4,hnv,u0,u1,g1,g2,g3,g4⟩:=EL.out k _ hg
    have hprev:k=0 ∨ ∃(j:Nat) (pn:Str),k=j+1/\qdo l k=pn/\w.cell? ⟨b,off+j*8,none⟩=some (.string (S pn)):=by
     by_cases h0:k=0
     ·exact .inl h0
     ·right
      have hgp:l[k-1]? = some l[k-1]:=List.getElem?_eq_getElem (show k-1<l.length by omega);obtain⟨b9,off9,hp9,_,vs9,hce9,nv9,hvs9,_⟩:=EL.out (k-1) _ hgp;have hqq:=hp.symm.trans hp9;cases hqq;subst hvs9;have e9:=hce9 0 _ rfl;rw [Nat.add_zero]at e9;exact⟨k-1,l[k-1].name,by omega,by unfold qdo;rw [if_neg h0,hgp],e9⟩
    have hdr:l.drop k=l[k] :: l.drop (k+1):=List.drop_eq_getElem_cons hlt;have hls:=qiz l k _ hg;have GO:=Lib.hid (show qc5 tg (l[k] :: l.drop (k+1)) (qdo l k) (decide (0<k))=T by rw [←hdr];exact hgo.out);have HPV:=Lib.hid hprev;subst hp hvs hnv;clear hgo hdr hg hprev;generalize l[k]=n at *;obtain⟨nm,⟨nk,nx,nt,m1,m2,m3,m4⟩⟩:=n;have HLS:=Lib.hid (show qc5 tg (l.drop (k+1)) nm true=qc5 tg (l.drop (k+1)) (qdo l (k+1)) (decide (0<k+1))by rw [hls,decide_eq_true (Nat.succ_pos k)]);clear hls;have KS:=Lib.hid (fun W' (kq:Bel wr W')=>show W'.cell? ⟨b,off+k*8,none⟩=some (.string (S nm))/\W'.cell? ⟨b,off+k*8+1,none⟩=some (.int .i64 nk)/\W'.cell? ⟨b,off+k*8+2,none⟩=some (.int .u64 nx)/\W'.cell? ⟨b,off+k*8+3,none⟩=some (.string (S nt))/\W'.cell? ⟨b,off+k*8+4,none⟩=some (.slice p1 m1 c1)/\W'.cell? ⟨b,off+k*8+5,none⟩=some (.slice p2 m2 c2)/\W'.cell? ⟨b,off+k*8+6,none⟩=some (.slice p3 m3 c3)/\W'.cell? ⟨b,off+k*8+7,none⟩=some (.slice p4 m4 c4)from⟨(Bel.of kw kq.out).some (hce 0 _ rfl),(Bel.of kw kq.out).some (hce 1 _ rfl),(Bel.of kw kq.out).some (hce 2 _ rfl),(Bel.of kw kq.out).some (hce 3 _ rfl),(Bel.of kw kq.out).some (hce 4 _ rfl),(Bel.of kw kq.out).some (hce 5 _ rfl),(Bel.of kw kq.out).some (hce 6 _ rfl),(Bel.of kw kq.out).some (hce 7 _ rfl)⟩);obtain⟨e0,e1,e2,e3,e4,e5,e6,e7⟩:=KS.out _ (Bel.refl _);have CK:=Lib.hid (fun W=>rk_Kind nm W);have CR:=Lib.hid (fun W=>rk_Right nm nk nx nt p1 p2 p3 p4 m1 m2 m3 m4 c1 c2 c3 c4 W u0 u1 g1 g2 g3 g4);clear hce u0 u1 g1 g2 g3 g4;cases hf:(Ck.find? nm).isSome with
    | false=>
     have hfn:Ck.find? nm=none:=by cases h:Ck.find? nm with|none=>rfl|some r=>rw [h]at hf;cases hf
     have HE:=Lib.hid (show(8:Int)=T by rw [←GO.out];exact(go_stepE tg _ _ _ _ (by unfold qb0;simp only [hfn]) (by decide)).symm);rw [qf0 hfn]at CK;clear hf hfn
     go_wp2_with (go_at_call 105;(with_reducible refine(CK.out _).mono ?_);rintro e w1 ⟨rfl,rfl⟩)
     go_ret;exact⟨qaf HE.out,kw.out⟩
    | true=>
     have CF:=Lib.hid (fun W=>rk_fits nm tg W hf);have hone:=one_of ⟨nm,⟨nk,nx,nt,m1,m2,m3,m4⟩⟩ tg (qdo l k) (decide (0<k)) hf;simp only at hone;have hkn:qay nm ≠ 0:=fun h=>by rw [kind_zero.1 h]at hf;cases hf
     generalize qay nm=K at CK hkn;have q0:(K == 0)=false:=beq_eq_false_iff_ne.2 hkn;generalize fitsT (qaw nm).2 tg=FT at CF hone;generalize right ⟨nm,⟨nk,nx,nt,m1,m2,m3,m4⟩⟩=RT at CR hone;clear hkn hf;cases FT with
     | false=>
      rw [if_pos rfl]at hone;have HE:=Lib.hid (show(1:Int)=T by rw [←GO.out];exact(go_stepE tg _ _ _ _ hone (by decide)).symm);clear hone
      go_wp2_with (first
       | (go_at_call 105;(with_reducible refine(CK.out _).mono ?_);rintro e w1 ⟨rfl,rfl⟩)
       | (go_at_call 106;(with_reducible refine(CF.out _).mono ?_);rintro e w2 ⟨rfl,rfl⟩))
      go_ret;exact⟨qaf HE.out,kw.out⟩
     | true=>
      rw [if_neg (by simp)]at hone;cases RT with
      | false=>
       rw [if_pos rfl]at hone;have HE:=Lib.hid (show(12:Int)=T by rw [←GO.out];exact(go_stepE tg _ _ _ _ hone (by decide)).symm);clear hone
       go_wp2_with (first
        | (go_at_call 105;(with_reducible refine(CK.out _).mono ?_);rintro e w1 ⟨rfl,rfl⟩)
        | (go_at_call 106;(with_reducible refine(CF.out _).mono ?_);rintro e w2 ⟨rfl,rfl⟩)
        | (go_at_call 107;(with_reducible refine(CR.out _).mono ?_);rintro e w3 ⟨rfl,h3⟩;have k3:Bel wr w3:=Bel.of (Bel.refl _) h3;clear h3 e0 e1 e2 e3 e4 e5 e6 e7;obtain⟨e0,e1,e2,e3,e4,e5,e6,e7⟩:=KS.out _ k3))
       go_ret;exact⟨qaf HE.out,(Bel.of kw k3.out).out⟩
      | true=>
       rw [if_neg (by simp)]at hone
       go_upto_region 12 with(first
        | (go_at_call 105;(with_reducible refine(CK.out _).mono ?_);rintro e w1 ⟨rfl,rfl⟩)
        | (go_at_call 106;(with_reducible refine(CF.out _).mono ?_);rintro e w2 ⟨rfl,rfl⟩)
        | (go_at_call 107;(with_reducible refine(CR.out _).mono ?_);rintro e w3 ⟨rfl,h3⟩;have k3:Bel wr w3:=Bel.of (Bel.refl _) h3;clear h3 e0 e1 e2 e3 e4 e5 e6 e7;obtain⟨e0,e1,e2,e3,e4,e5,e6,e7⟩:=KS.out _ k3))
       clear CK CF CR;rcases HPV.out with h0|⟨j,pn,hkj,hla,hc9⟩
       ·have hk0n : ¬(0<k):=by omega
        rw [if_neg (fun h=>absurd (of_decide_eq_true h.1) hk0n),if_neg (fun h=>absurd (of_decide_eq_true h.1) hk0n)]at hone;have HN:=Lib.hid (show qc5 tg (l.drop (k+1)) (qdo l (k+1)) (decide (0<k+1))=T by rw [←HLS.out, ←GO.out,go_step0 tg _ _ _ _ hone]);clear hone h0;obtain⟨wd1,hwd1⟩ : ∃wd,wd=w3.drew:=⟨_,rfl⟩;have kd1:Bel wr wd1:=Bel.of k3 (by rw [hwd1];exact((Bel.refl _).drew:Bel w3 _):Bel w3 wd1).out;have HWD1:=Lib.hid hwd1;clear hwd1 e0 e1 e2 e3 e4 e5 e6 e7;obtain⟨e0,e1,e2,e3,e4,e5,e6,e7⟩:=KS.out _ kd1;refine qa8 14 (by kernel_rfl) (by kernel_rfl) HWD1.out ?_
        (simp only [List.take_succ_cons,List.take_zero,List.drop_succ_cons,List.drop_zero]);(repeat (first|((with_reducible refine wpStill_step (fun K hK=>?_));go_simp;(with_reducible refine hK _ ?_);clear hK K)|((with_reducible refine qab ?_ ?_);(with_unfolding_all rfl))));(with_reducible refine wpStill_nil ?_)
        go_upto_region 14 with(fail)
        obtain⟨wd2,hwd2⟩ : ∃wd,wd=wd1.drew:=⟨_,rfl⟩;have kd2:Bel wr wd2:=Bel.of kd1 (by rw [hwd2];exact((Bel.refl _).drew:Bel wd1 _):Bel wd1 wd2).out;have HWD2:=Lib.hid hwd2;clear hwd2 e0 e1 e2 e3 e4 e5 e6 e7;obtain⟨e0,e1,e2,e3,e4,e5,e6,e7⟩:=KS.out _ kd2;refine qa8 14 (by kernel_rfl) (by kernel_rfl) HWD2.out ?_
        (simp only [List.take_succ_cons,List.take_zero,List.drop_succ_cons,List.drop_zero]);(repeat (first|((with_reducible refine wpStill_step (fun K hK=>?_));go_simp;(with_reducible refine hK _ ?_);clear hK K)|((with_reducible refine qab ?_ ?_);(with_unfolding_all rfl))));(with_reducible refine wpStill_nil ?_)
        go_wp2;exact⟨⟨k+1,by omega,by go_num,Bel.of kw kd2.out,HN⟩,by simp [intOf];omega⟩
       ·have hk00:(0:Int)<(k:Int):=by omega
        have hk00n:0<k:=by omega
        have jw3:(k:Int)-1=(j:Int):=by omega
        have jw2:IntKind.i64.wrap (j:Int)=(j:Int):=wrap_small _ (by omega) (by omega);have jw:IntKind.i64.wrap ((k:Int)-1)=(j:Int):=by rw [jw3];exact jw2
        have j1:(j:Int)<(l.length:Int):=by omega
        have j0:(0:Int)<=(j:Int):=by omega
        have EP:=Lib.hid (kw.some hc9);rw [hla,decide_eq_true hk00n]at hone;rw [hla,decide_eq_true hk00n]at GO;clear hc9 hkj hla;cases hlt9:Ck.ltS nm pn with
        | true=>
         rw [if_pos ⟨rfl,hlt9⟩]at hone;have HE:=Lib.hid (show(11:Int)=T by rw [←GO.out];exact(go_stepE tg _ _ _ _ hone (by decide)).symm);have z1:Op.bytesLess (S nm).toList (S pn).toList=true:=by rw [qgh];exact hlt9
         clear hone hlt9;obtain⟨wd1,hwd1⟩ : ∃wd,wd=w3.drew:=⟨_,rfl⟩;have kd1:Bel wr wd1:=Bel.of k3 (by rw [hwd1];exact((Bel.refl _).drew:Bel w3 _):Bel w3 wd1).out;have HWD1:=Lib.hid hwd1;clear hwd1 e0 e1 e2 e3 e4 e5 e6 e7;obtain⟨e0,e1,e2,e3,e4,e5,e6,e7⟩:=KS.out _ kd1;have ep:=kd1.some EP.out;refine qa8 14 (by kernel_rfl) (by kernel_rfl) HWD1.out ?_
         (simp only [List.take_succ_cons,List.take_zero,List.drop_succ_cons,List.drop_zero]);(repeat (first|((with_reducible refine wpStill_step (fun K hK=>?_));go_simp;(with_reducible refine hK _ ?_);clear hK K)|((with_reducible refine qab ?_ ?_);(with_unfolding_all rfl))));(with_reducible refine wpStill_nil ?_)
         go_wp2;go_ret
         exact⟨qaf HE.out,(Bel.of kw kd1.out).out⟩
        | false=>
         rw [if_neg (fun h=>by rw [hlt9]at h;cases h.2)]at hone;have z1:Op.bytesLess (S nm).toList (S pn).toList=false:=by rw [qgh];exact hlt9
         by_cases he:nm=pn
         ·rw [if_pos ⟨rfl,he⟩]at hone
          have HE:=Lib.hid (show(9:Int)=T by rw [←GO.out];exact(go_stepE tg _ _ _ _ hone (by decide)).symm);have z2:((S nm).toList == (S pn).toList)=true:=by rw [eq_S];exact decide_eq_true he
          clear hone hlt9 he;obtain⟨wd1,hwd1⟩ : ∃wd,wd=w3.drew:=⟨_,rfl⟩;have kd1:Bel wr wd1:=Bel.of k3 (by rw [hwd1];exact((Bel.refl _).drew:Bel w3 _):Bel w3 wd1).out;have HWD1:=Lib.hid hwd1;clear hwd1 e0 e1 e2 e3 e4 e5 e6 e7;obtain⟨e0,e1,e2,e3,e4,e5,e6,e7⟩:=KS.out _ kd1;have ep:=kd1.some EP.out;refine qa8 14 (by kernel_rfl) (by kernel_rfl) HWD1.out ?_
          (simp only [List.take_succ_cons,List.take_zero,List.drop_succ_cons,List.drop_zero]);(repeat (first|((with_reducible refine wpStill_step (fun K hK=>?_));go_simp;(with_reducible refine hK _ ?_);clear hK K)|((with_reducible refine qab ?_ ?_);(with_unfolding_all rfl))));(with_reducible refine wpStill_nil ?_)
          go_upto_region 14 with(fail)
          obtain⟨wd2,hwd2⟩ : ∃wd,wd=wd1.drew:=⟨_,rfl⟩;have kd2:Bel wr wd2:=Bel.of kd1 (by rw [hwd2];exact((Bel.refl _).drew:Bel wd1 _):Bel wd1 wd2).out;have HWD2:=Lib.hid hwd2;clear hwd2 e0 e1 e2 e3 e4 e5 e6 e7 ep;obtain⟨e0,e1,e2,e3,e4,e5,e6,e7⟩:=KS.out _ kd2;have ep:=kd2.some EP.out;refine qa8 14 (by kernel_rfl) (by kernel_rfl) HWD2.out ?_
          (simp only [List.take_succ_cons,List.take_zero,List.drop_succ_cons,List.drop_zero]);(repeat (first|((with_reducible refine wpStill_step (fun K hK=>?_));go_simp;(with_reducible refine hK _ ?_);clear hK K)|((with_reducible refine qab ?_ ?_);(with_unfolding_all rfl))));(with_reducible refine wpStill_nil ?_)
          go_wp2;go_ret
          exact⟨qaf HE.out,(Bel.of kw kd2.out).out⟩
         ·rw [if_neg (fun h=>he h.2)]at hone
          have HN:=Lib.hid (show qc5 tg (l.drop (k+1)) (qdo l (k+1)) (decide (0<k+1))=T by rw [←HLS.out, ←GO.out,go_step0 tg _ _ _ _ hone]);have z2:((S nm).toList == (S pn).toList)=false:=by rw [eq_S];exact decide_eq_false he
          clear hone hlt9 he;obtain⟨wd1,hwd1⟩ : ∃wd,wd=w3.drew:=⟨_,rfl⟩;have kd1:Bel wr wd1:=Bel.of k3 (by rw [hwd1];exact((Bel.refl _).drew:Bel w3 _):Bel w3 wd1).out;have HWD1:=Lib.hid hwd1;clear hwd1 e0 e1 e2 e3 e4 e5 e6 e7;obtain⟨e0,e1,e2,e3,e4,e5,e6,e7⟩:=KS.out _ kd1;have ep:=kd1.some EP.out;refine qa8 14 (by kernel_rfl) (by kernel_rfl) HWD1.out ?_
          (simp only [List.take_succ_cons,List.take_zero,List.drop_succ_cons,List.drop_zero]);(repeat (first|((with_reducible refine wpStill_step (fun K hK=>?_));go_simp;(with_reducible refine hK _ ?_);clear hK K)|((with_reducible refine qab ?_ ?_);(with_unfolding_all rfl))));(with_reducible refine wpStill_nil ?_)
          go_upto_region 14 with(fail)
          obtain⟨wd2,hwd2⟩ : ∃wd,wd=wd1.drew:=⟨_,rfl⟩;have kd2:Bel wr wd2:=Bel.of kd1 (by rw [hwd2];exact((Bel.refl _).drew:Bel wd1 _):Bel wd1 wd2).out;have HWD2:=Lib.hid hwd2;clear hwd2 e0 e1 e2 e3 e4 e5 e6 e7 ep;obtain⟨e0,e1,e2,e3,e4,e5,e6,e7⟩:=KS.out _ kd2;have ep:=kd2.some EP.out;refine qa8 14 (by kernel_rfl) (by kernel_rfl) HWD2.out ?_
          (simp only [List.take_succ_cons,List.take_zero,List.drop_succ_cons,List.drop_zero]);(repeat (first|((with_reducible refine wpStill_step (fun K hK=>?_));go_simp;(with_reducible refine hK _ ?_);clear hK K)|((with_reducible refine qab ?_ ?_);(with_unfolding_all rfl))));(with_reducible refine wpStill_nil ?_)
          go_wp2;exact⟨⟨k+1,by omega,by go_num,Bel.of kw kd2.out,HN⟩,by simp [intOf];omega⟩
   ·have hki : ¬(k:Int)<(l.length:Int):=by omega
    have HE:=Lib.hid (show(0:Int)=T by
     have h:=hgo.out;rw [show k=l.length by omega,List.drop_length]at h
     rw [←h];rfl)
    clear hgo;go_wp2;go_ret;exact⟨qaf HE.out,kw.out⟩
end
section
open Go.RowKit Ck
theorem qhd (s:Str) (w:World) (hs:s.length<=1000000000000000) :
  Calls Tryz.prog 118 #[.string (S s)] w fun e w'=>e=.returned (.bool (qa5 s))/\Below w.heap.size w w':=by
 have cp:=Lib.hid (qhz (S s) s w rfl (by rw [qaj];exact hs));have cw:=Lib.hid (fun W=>qhy (S s) s W rfl);have hv:qa5 s=(Id.isPart s && !Id.isWord s):=rfl;have HV:=Lib.hid hv;clear hv;generalize Id.isWord s=Q at *;cases hR:Id.isPart s <;> rw [hR]at cp HV <;> clear hR
 all_goals
  go_enter Tryz.func118,Tryz.ntmps118
  go_wp2_with (first
   | (go_at_call 176;(with_reducible refine cp.out.mono ?_);rintro e w1 ⟨rfl,h1⟩)
   | (go_at_call 174;(with_reducible refine(cw.out _).mono ?_);rintro e w2 ⟨rfl,rfl⟩))
  go_ret;exact⟨qa3 HV.out.symm,h1⟩
theorem pl_full (s:Str) (w:World) (hs:s.length<=100000000) (hM:ML w) :
  Calls Tryz.prog 115 #[.string (S s)] w fun e w'=>e=.returned (.bool (qah s))/\Below w.heap.size w w':=by
 have cp:=Lib.hid (qmh (S s) s w rfl (by rw [qaj];exact hs) hM);have csp:=Lib.hid (fun(W:World) (hb:Below w.heap.size w W)=>qkt (S s) 46 s W rfl (by rw [qaj];omega) (hM.below hb));have hcut : ∀p ∈ Id.cut 46 s,p.length<=s.length:=fun p hp=>qfy 46 s p hp
 have hmany:=qgs 46 s;have hv:qah s=(Id.isFull s && !(Id.cut 46 s).any Id.isWord):=rfl
 have hcc : ∀W:World,Calls Tryz.prog 172 #[.slice (some ⟨W.heap.size,0,none⟩) (Id.cut 46 s).length (Id.cut 46 s).length,.func (.func 174) #[] #[]] (W.alloc (.cells ((Id.cut 46 s).map strV).toArray 9)) fun e w'=>e=.returned (.bool ((Id.cut 46 s).any Id.isWord))/\Below (W.alloc (.cells ((Id.cut 46 s).map strV).toArray 9)).heap.size (W.alloc (.cells ((Id.cut 46 s).map strV).toArray 9)) w':=fun W=>by
  refine cf_Str _ _ (enters_of Tryz.func174 (by kernel_rfl) rfl) _ (Id.cut 46 s) _ _ ⟨_,_,rfl,by omega,by omega,fun i x hx=>⟨W.heap.size,0,rfl,by simp,[.string (S x)],?_,rfl⟩⟩ (fun x W2 _ _=>?_)
  ·intro j v hj
   have hj0:j=0:=by
    cases j with
    | zero=>rfl
    | succ j=>simp at hj
   subst hj0;simp at hj;subst hj;rw [Nat.zero_add,Nat.mul_one,Nat.add_zero];exact qfo W _ _ i x hx
  ·refine(qhy (S x) x W2 rfl).mono ?_
   rintro e w' ⟨rfl,rfl⟩;exact⟨rfl,Below.refl _ _⟩
 clear hcut hmany;generalize Id.cut 46 s=P at csp hv hcc;generalize Id.isFull s=R at cp hv;have HV:=Lib.hid hv;have cc:=Lib.hid hcc;clear hv hcc hM;generalize hQ:P.any Id.isWord=Q at cc HV;clear hQ;have hst:(strV:List UInt8->Value)=strV:=rfl;cases R with
 | false=>
  go_enter Tryz.func115,Tryz.ntmps115
  go_wp2_with (go_at_call 171;(with_reducible refine cp.out.mono ?_);rintro e w1 ⟨rfl,h1⟩)
  go_ret;exact⟨qa3 HV.out.symm,h1⟩
 | true=>
  go_enter Tryz.func115,Tryz.ntmps115
  go_wp2_with (first
   | (go_at_call 171;(with_reducible refine cp.out.mono ?_);rintro e w1 ⟨rfl,h1⟩;have k1:Bel w w1:=h1)
   | (go_at_call 173;(with_reducible refine(csp.out _ h1).mono ?_);rintro e w2 ⟨rfl,hw2⟩;(subst hw2);have k2:=Bel.alloc k1 (.cells (P.map strV).toArray 9))
   | (go_at_call 172;(with_reducible refine(cc.out _).mono ?_);rintro e w3 ⟨rfl,h3⟩))
  go_ret;exact⟨qa3 HV.out.symm,Bel.out (Bel.of k2 h3)⟩
theorem qd8 (s:Str) (w:World) (hs:s.length<=1000000000) :
  Calls Tryz.prog 78 #[.string (S s)] w fun e w'=>e=.returned (.bool (qa5 s))/\Bel w w':=by
 have cp:=Lib.hid (fun W=>qfl (S s) s W rfl (by rw [qaj];omega));have cw:=Lib.hid (fun W=>qfk (S s) s W rfl);have hv:qa5 s=(Id.isPart s && !Id.isWord s):=rfl;have HV:=Lib.hid hv;clear hv;generalize Id.isWord s=Q at *;cases hR:Id.isPart s <;> rw [hR]at cp HV <;> clear hR
 all_goals
  go_enter Tryz.func78,Tryz.ntmps78
  go_wp2_with (first
   | (go_at_call 104;(with_reducible refine(cp.out _).mono ?_);rintro e w1 ⟨rfl,rfl⟩)
   | (go_at_call 103;(with_reducible refine(cw.out _).mono ?_);rintro e w2 ⟨rfl,rfl⟩))
  go_ret;exact⟨qa3 HV.out.symm,Bel.refl _⟩
def strSz:Value->Nat
 | .string b=>b.size
 | _=>0
theorem qfm (l:Str) (w:World) (hl:l.length<=1000000000) :
  Calls Tryz.prog 77 #[.string (S l)] w fun e w'=>e=.returned (.bool (qah l))/\Bel w w':=by
 have c1:=Lib.hid (fun W=>qjw (S l) l W rfl (by rw [qaj];exact hl));cases hF:Id.isFull l with
 | false=>
  have HV:=Lib.hid (show qah l=false by unfold qah;rw [hF,Bool.false_and]);rw [hF]at c1
  go_enter Tryz.func77,Tryz.ntmps77
  go_wp2_with (go_at_call 101;(with_reducible refine(c1.out _).mono ?_);rintro e w1 ⟨rfl,rfl⟩)
  go_ret;exact⟨qa3 HV.out.symm,Bel.refl _⟩
 | true=>
  have HV:=Lib.hid (show usG l=qah l from(qj8 hF).symm);rw [hF]at c1;generalize qah l=T at HV;have hl120:l.length<=120:=by unfold Id.isFull at hF;simp only [Bool.and_eq_true,decide_eq_true_eq]at hF;exact hF.2
  have HFF:=Lib.hid hF;clear hF
  go_enter Tryz.func77,Tryz.ntmps77
  go_wp2_with (go_at_call 101;(with_reducible refine(c1.out _).mono ?_);rintro e w1 ⟨rfl,rfl⟩)
  go_loopw [0] (fun cu wr => ∃(cur:Str),cu=.string (S cur)/\cur.length<=120/\Bel w wr/\Hid ((cur ≠ []->Id.isFull cur=true)/\usG cur=T)) (fun cu _=>strSz cu)
  case atStart=>exact⟨l,rfl,hl120,Bel.refl _,Lib.hid ⟨fun _=>HFF.out,HV.out⟩⟩
  case round=>
   obtain⟨cur,rfl,hck,kw,hgo⟩:=hrel;by_cases hc:cur=[]
   ·have HE:=Lib.hid (show true=T by have h:=hgo.out.2;rw [hc]at h;exact h)
    clear hgo hck;subst hc;have he:(S []).toList=[]:=empty_S [] rfl;have he2:(S []).toList.isEmpty=true:=by rw [he];rfl
    go_wp2;go_ret
    exact⟨qa3 HE.out,kw⟩
   ·have hF:=hgo.out.1 hc
    have hpos:0<cur.length:=by cases cur with|nil=>exact absurd rfl hc|cons a r=>simp
    have he:=qkg cur hc;have he2:=qiy cur hc;have hst:=usG_full hF;obtain⟨f1,f2,f3⟩:=Id.full_split hF
    have hlen:(Id.splitL cur).1.length+1<=cur.length:=by
     have h:=congrArg List.length f2;unfold Id.join at h;by_cases h0:(Id.splitL cur).1=[]
     ·rw [h0];simp only [List.length_nil];omega
     ·rw [if_neg h0]at h
      simp only [List.length_append,List.length_cons]at h;omega
    have hcz:(S cur).size=cur.length:=qaj _;have cs:=Lib.hid (fun W=>qlz (S cur) cur W rfl (by rw [qaj];omega));have cw:=Lib.hid (fun W=>qfk (S (Id.splitL cur).2) (Id.splitL cur).2 W rfl);have HG:=Lib.hid (show(!Id.isWord (Id.splitL cur).2 && usG (Id.splitL cur).1)=T by rw [←hst];exact hgo.out.2);have HF3:=Lib.hid f3;clear hst hgo f1 f2 f3 hF hc hpos;generalize (Id.splitL cur).1=c1' at *;generalize (Id.splitL cur).2=c2' at *;generalize Id.isWord c2'=Q at *;cases Q with
    | true=>
     have HE:=Lib.hid (show false=T by rw [←HG.out];rfl)
     go_wp2_with (first
      | (go_at_call 102;(with_reducible refine(cs.out _).mono ?_);rintro e w2 ⟨rfl,n2,rfl⟩)
      | (go_at_call 103;(with_reducible refine(cw.out _).mono ?_);rintro e w3 ⟨rfl,rfl⟩))
     go_ret;exact⟨qa3 HE.out,(Bel.drewN kw _)⟩
    | false=>
     have HN:=Lib.hid (show(c1' ≠ []->Id.isFull c1'=true)/\usG c1'=T from⟨HF3.out,by rw [←HG.out];rfl⟩)
     go_wp2_with (first
      | (go_at_call 102;(with_reducible refine(cs.out _).mono ?_);rintro e w2 ⟨rfl,n2,rfl⟩)
      | (go_at_call 103;(with_reducible refine(cw.out _).mono ?_);rintro e w3 ⟨rfl,rfl⟩))
     exact⟨⟨c1',rfl,by omega,Bel.drewN kw _,HN⟩,by simp [strSz,qaj];omega⟩
end
section
open Go.RowKit Ck Rs
theorem qie {α:Type} (f:α->Bool) (l:List α):(l.any fun x => !f x) = !l.all f:=by
 induction l with
 | nil=>rfl
 | cons a l ih=>rw [List.any_cons,List.all_cons,ih,Bool.not_and]
theorem VPlan.form {w:World} {vs:List Value} {p:PPlan} (h:VPlan w vs p) : ∃(q1 q2:Option Addr) (c1 c2:Nat),vs=[.slice q1 p.progs.length c1,.slice q2 p.enums.length c2]/\Sv 3 VProg w (.slice q1 p.progs.length c1) p.progs/\Sv 5 VEnum w (.slice q2 p.enums.length c2) p.enums/\p.progs.length<=140737488355328/\p.enums.length<=140737488355328:=by
 obtain⟨gv,ev,rfl,h1,h2⟩:=h;obtain⟨q1,c1,rfl,l1⟩:=qbc h1;obtain⟨q2,c2,rfl,l2⟩:=qbc h2;exact⟨q1,q2,c1,c2,rfl,h1,h2,l1,l2⟩
theorem VProg.form {w:World} {vs:List Value} {g:PProg} (h:VProg w vs g) : ∃(q:Option Addr) (c:Nat),vs=[.string (S g.name),.slice q g.ops.length c,.int .i64 g.uns]/\Sv 8 VOp w (.slice q g.ops.length c) g.ops/\g.ops.length<=140737488355328:=by
 obtain⟨ov,rfl,h1⟩:=h;obtain⟨q,c,rfl,l⟩:=qbc h1;exact⟨q,c,rfl,h1,l⟩
theorem VEnum.form {w:World} {vs:List Value} {e:PEnum} (h:VEnum w vs e) : ∃(q1 q2 q3:Option Addr) (c1 c2 c3:Nat),vs=[.string (S e.name),.bool e.op,.slice q1 e.items.length c1,.slice q2 e.res.length c2,.slice q3 e.notes.length c3]/\Sv 3 VItem w (.slice q1 e.items.length c1) e.items/\Spans w (.slice q2 e.res.length c2) e.res/\Notes w (.slice q3 e.notes.length c3) e.notes/\e.items.length<=140737488355328/\e.res.length<=140737488355328/\e.notes.length<=140737488355328:=by
 obtain⟨iv,rv,nv,rfl,h1,h2,h3⟩:=h;obtain⟨q1,c1,rfl,l1⟩:=qbc h1;obtain⟨q2,c2,rfl,l2⟩:=qbc h2;obtain⟨q3,c3,rfl,l3⟩:=qbc h3;exact⟨q1,q2,q3,c1,c2,c3,rfl,h1,h2,h3,l1,l2,l3⟩
theorem VItem.form {w:World} {vs:List Value} {x:PItem} (h:VItem w vs x) : ∃(q:Option Addr) (c:Nat),vs=[.string (S x.name),.int .i64 x.num,.slice q x.notes.length c]/\Notes w (.slice q x.notes.length c) x.notes/\x.notes.length<=140737488355328:=by
 obtain⟨nv,rfl,h1⟩:=h;obtain⟨q,c,rfl,l⟩:=qbc h1;exact⟨q,c,rfl,h1,l⟩
theorem cl_limG (g:PProg) (vs:List Value) (W:World) (hv:VProg W vs g) :
  Calls Tryz.prog 111 #[.agg vs.toArray] W fun e w'=>e=.returned (.bool (!limG g))/\Bel W w':=by
 obtain⟨q,c,rfl,_,hl⟩:=hv.form;have V:=Lib.hid (show decide ((64:Int)<(g.ops.length:Int)) = !limG g by unfold limG;rw [Bool.eq_iff_iff];simp;omega);clear hv;generalize limG g=R at V
 go_enter Tryz.func111,Tryz.ntmps111
 go_wp2;go_ret
 exact⟨qa3 V.out,(Bel.refl _).alloc _⟩
theorem cl_limE (e:PEnum) (vs:List Value) (W:World) (hv:VEnum W vs e) :
  Calls Tryz.prog 113 #[.agg vs.toArray] W fun e' w'=>e'=.returned (.bool (!limE e))/\Bel W w':=by
 obtain⟨q1,q2,q3,c1,c2,c3,rfl,_,_,_,l1,l2,_⟩:=hv.form;have V:=Lib.hid (show limE e=decide (¬(e.items.length:Int)<1/\¬(64:Int)<(e.items.length:Int)/\¬(16:Int)<(e.res.length:Int))by unfold limE;rw [Bool.eq_iff_iff];simp;omega);clear hv;generalize limE e=R at V
 go_enter Tryz.func113,Tryz.ntmps113
 go_wp2
 all_goals go_ret
 all_goals refine⟨qa3 ?_,(Bel.refl _).alloc _⟩
 all_goals (rw [V.out,Bool.eq_iff_iff];simp_all <;> omega)
theorem qaa {w w1:World} {cs:Array Value} {T:TypeId} (k:Bel (w.alloc (.cells cs T)) w1) (i:Nat) (v:Value) (h:cs[i]? = some v):w1.cell? ⟨w.heap.size,i,none⟩=some v:=by
 refine k.some ?_;rw [World.cell?_alloc_at _ _ _ _ rfl];exact h
theorem qif {α:Type} : ∀xs:List α,(xs.any fun _=>false)=false
 | []=>rfl
 | a :: l=>by rw [List.any_cons,qif l];rfl
theorem qbz {α:Type} {xs:List α} {P:Program} {f:FuncId} {args:Array Value} {w:World} (h:Calls P f args w fun e w'=>e=.returned (.bool (xs.any fun _=>false))/\Bel w w'):Calls P f args w fun e w'=>e=.returned (.bool false)/\Bel w w':=by
 rwa [qif]at h
theorem qk5 (p:PPlan) (vs:List Value) (w:World) (hv:VPlan w vs p) (h:qe4 p=true) :
  Calls Tryz.prog 83 #[.agg vs.toArray] w fun e w'=>e=.returned (.bool false)/\Bel w w':=by
 obtain⟨q1,q2,c1,c2,rfl,h1,h2,l1,l2⟩:=hv.form;unfold qe4 at h;simp only [Bool.and_eq_true,List.all_eq_true,decide_eq_true_eq]at h;obtain⟨⟨n1,n2⟩,g1,g2⟩:=h;have hS0:=(Bel.refl w).alloc (.cells #[.slice q1 p.progs.length c1,.slice q2 p.enums.length c2] 25);have CG:=Lib.hid (fun W (k:Bel (w.alloc (.cells #[.slice q1 p.progs.length c1,.slice q2 p.enums.length c2] 25)) W)=>qbz (qe9 VProg VProg.len 111 #[] (enters_of Tryz.func111 (by kernel_rfl) rfl) (.slice q1 p.progs.length c1) p.progs (fun _=>false) W (h1.bel VProg.stays (Bel.of hS0 k)) (fun x vs W2 hx hv hb=>by have:=cl_limG x vs W2 (VProg.stays _ _ _ _ hb hv);rwa [g1 x hx]at this)));have CE:=Lib.hid (fun W (k:Bel (w.alloc (.cells #[.slice q1 p.progs.length c1,.slice q2 p.enums.length c2] 25)) W)=>qbz (qde VEnum VEnum.len 113 #[] (enters_of Tryz.func113 (by kernel_rfl) rfl) (.slice q2 p.enums.length c2) p.enums (fun _=>false) W (h2.bel VEnum.stays (Bel.of hS0 k)) (fun x vs W2 hx hv hb=>by have:=cl_limE x vs W2 (VEnum.stays _ _ _ _ hb hv);rwa [g2 x hx]at this)));clear hv h1 h2 g1 g2;have hm : ¬(64:Int)<max (p.progs.length:Int) (p.enums.length:Int):=by omega
 clear n1 n2
 go_enter Tryz.func83,Tryz.ntmps83
 go_wp2_with (first
  | (go_at_call 110;(with_reducible refine(CG.out _ (Bel.refl _)).mono ?_);rintro e w1 ⟨rfl,k1⟩;have k1:Bel _ w1:=k1;have t0:=qaa k1 0 _ rfl;have t1:=qaa k1 1 _ rfl)
  | (go_at_call 112;(with_reducible refine(CE.out _ k1).mono ?_);rintro e w2 ⟨rfl,k2⟩;have k2:Bel _ w2:=Bel.of k1 k2))
 go_ret;exact⟨rfl,Bel.of hS0 k2⟩
end
section
open Go.RowKit Ck Rs
structure SmallG (g:PProg):Prop where
 nm:g.name.length<=300
 ops:g.ops.length<=400
 op : ∀o ∈ g.ops,o.name.length<=300/\o.ali.length<=300
structure SmallE (e:PEnum):Prop where
 nm:e.name.length<=300
 items:e.items.length<=400
 res:e.res.length<=400
 item : ∀x ∈ e.items,x.name.length<=300/\x.notes.length<=1/\∀n ∈ x.notes,n.val.t.length<=300
structure SmallP (p:PPlan):Prop where
 np:p.progs.length<=60
 ne:p.enums.length<=60
 pr : ∀g ∈ p.progs,SmallG g
 en : ∀e ∈ p.enums,SmallE e
theorem cl_namO (o:POp) (vs:List Value) (W:World) (hv:VOp W vs o) (h:qa5 o.name=true) (hl:o.name.length<=1000000000) :
  Calls Tryz.prog 117 #[.agg vs.toArray] W fun e' w'=>e'=.returned (.bool false)/\Bel W w':=by
 obtain rfl:vs=[.int .i64 o.num,.string (S o.name),.string (S o.ali),.int .i64 o.card,.int .i64 o.key,.int .i64 o.kind,.int .i64 o.tgt,.int .i64 o.un]:=hv;have hS0:=(Bel.refl W).alloc (.cells #[.int .i64 o.num,.string (S o.name),.string (S o.ali),.int .i64 o.card,.int .i64 o.key,.int .i64 o.kind,.int .i64 o.tgt,.int .i64 o.un] 54);have C:=Lib.hid (fun W' (k0:Bel (W.alloc (.cells #[.int .i64 o.num,.string (S o.name),.string (S o.ali),.int .i64 o.card,.int .i64 o.key,.int .i64 o.kind,.int .i64 o.tgt,.int .i64 o.un] 54)) W')=>(fun(k:Bel W W')=>qhd o.name W' (by omega)) (Bel.of hS0 k0));rw [h]at C;clear h hl
 go_enter Tryz.func117,Tryz.ntmps117
 go_wp2_with (go_at_call 118;(with_reducible refine(C.out _ (Bel.refl _)).mono ?_);rintro e' w1 ⟨rfl,k1⟩;have k1:Bel _ w1:=k1;have t1_0:=qaa k1 0 _ rfl;have t1_1:=qaa k1 1 _ rfl)
 go_ret;exact⟨rfl,Bel.of hS0 k1⟩
theorem cl_namI (o:PItem) (vs:List Value) (W:World) (hv:VItem W vs o) (h:qa5 o.name=true) (hl:o.name.length<=1000000000) :
  Calls Tryz.prog 121 #[.agg vs.toArray] W fun e' w'=>e'=.returned (.bool false)/\Bel W w':=by
 obtain⟨q,c,rfl,_,_⟩:=hv.form;have hS0:=(Bel.refl W).alloc (.cells #[.string (S o.name),.int .i64 o.num,.slice q o.notes.length c] 86);have C:=Lib.hid (fun W' (k0:Bel (W.alloc (.cells #[.string (S o.name),.int .i64 o.num,.slice q o.notes.length c] 86)) W')=>(fun(k:Bel W W')=>qhd o.name W' (by omega)) (Bel.of hS0 k0));rw [h]at C;clear h hl hv
 go_enter Tryz.func121,Tryz.ntmps121
 go_wp2_with (go_at_call 118;(with_reducible refine(C.out _ (Bel.refl _)).mono ?_);rintro e' w1 ⟨rfl,k1⟩;have k1:Bel _ w1:=k1;have t1_0:=qaa k1 0 _ rfl;have t1_1:=qaa k1 1 _ rfl)
 go_ret;exact⟨rfl,Bel.of hS0 k1⟩
theorem cl_namG (g:PProg) (vs:List Value) (W:World) (hv:VProg W vs g) (h:namG g=true) (hl:SmallG g) (hM:ML W) :
  Calls Tryz.prog 114 #[.agg vs.toArray] W fun e' w'=>e'=.returned (.bool false)/\Bel W w':=by
 obtain⟨q,c,rfl,h1,l1⟩:=hv.form;unfold namG at h;rw [Bool.and_eq_true,List.all_eq_true]at h;have hS0:=(Bel.refl W).alloc (.cells #[.string (S g.name),.slice q g.ops.length c,.int .i64 g.uns] 52);have C:=Lib.hid (fun W' (k0:Bel (W.alloc (.cells #[.string (S g.name),.slice q g.ops.length c,.int .i64 g.uns] 52)) W')=>(fun(k:Bel W W')=>pl_full g.name W' (by have:=hl.nm;omega) (hM.below k)) (Bel.of hS0 k0));rw [h.1]at C;have D:=Lib.hid (fun W' (k0:Bel (W.alloc (.cells #[.string (S g.name),.slice q g.ops.length c,.int .i64 g.uns] 52)) W')=>(fun(k:Bel W W')=>(qbz (so_Op VOp VOp.len 117 #[] (enters_of Tryz.func117 (by kernel_rfl) rfl) (.slice q g.ops.length c) g.ops (fun _=>false) W' (h1.bel VOp.stays k) (fun x vs' W2 hx hv' hb=>cl_namO x vs' W2 hv' (h.2 x hx) (by have:=(hl.op x hx).1;omega))))) (Bel.of hS0 k0));clear h hl hv h1 hM
 go_enter Tryz.func114,Tryz.ntmps114
 go_wp2_with (first
  | (go_at_call 115;(with_reducible refine(C.out _ (Bel.refl _)).mono ?_);rintro e' w1 ⟨rfl,k1⟩;have k1:Bel _ w1:=k1;have t1_0:=qaa k1 0 _ rfl;have t1_1:=qaa k1 1 _ rfl;have t1_2:=qaa k1 2 _ rfl)
  | (go_at_call 116;(with_reducible refine(D.out _ k1).mono ?_);rintro e' w2 ⟨rfl,k2⟩;have k2:Bel _ w2:=Bel.of k1 k2;have t2_0:=qaa k2 0 _ rfl;have t2_1:=qaa k2 1 _ rfl))
 go_ret;exact⟨rfl,Bel.of hS0 k2⟩
theorem cl_namE (e:PEnum) (vs:List Value) (W:World) (hv:VEnum W vs e) (h:namE e=true) (hl:SmallE e) (hM:ML W) :
  Calls Tryz.prog 119 #[.agg vs.toArray] W fun e' w'=>e'=.returned (.bool false)/\Bel W w':=by
 obtain⟨q1,q2,q3,c1,c2,c3,rfl,h1,_,_,l1,l2,l3⟩:=hv.form;unfold namE at h;rw [Bool.and_eq_true,List.all_eq_true]at h;have hS0:=(Bel.refl W).alloc (.cells #[.string (S e.name),.bool e.op,.slice q1 e.items.length c1,.slice q2 e.res.length c2,.slice q3 e.notes.length c3] 84);have C:=Lib.hid (fun W' (k0:Bel (W.alloc (.cells #[.string (S e.name),.bool e.op,.slice q1 e.items.length c1,.slice q2 e.res.length c2,.slice q3 e.notes.length c3] 84)) W')=>(fun(k:Bel W W')=>pl_full e.name W' (by have:=hl.nm;omega) (hM.below k)) (Bel.of hS0 k0));rw [h.1]at C;have D:=Lib.hid (fun W' (k0:Bel (W.alloc (.cells #[.string (S e.name),.bool e.op,.slice q1 e.items.length c1,.slice q2 e.res.length c2,.slice q3 e.notes.length c3] 84)) W')=>(fun(k:Bel W W')=>(qbz (qh0 VItem VItem.len 121 #[] (enters_of Tryz.func121 (by kernel_rfl) rfl) (.slice q1 e.items.length c1) e.items (fun _=>false) W' (h1.bel VItem.stays k) (fun x vs' W2 hx hv' hb=>cl_namI x vs' W2 (VItem.stays _ _ _ _ hb hv') (h.2 x hx) (by have:=(hl.item x hx).1;omega))))) (Bel.of hS0 k0));clear h hl hv h1 hM
 go_enter Tryz.func119,Tryz.ntmps119
 go_wp2_with (first
  | (go_at_call 115;(with_reducible refine(C.out _ (Bel.refl _)).mono ?_);rintro e' w1 ⟨rfl,k1⟩;have k1:Bel _ w1:=k1;have t1_0:=qaa k1 0 _ rfl;have t1_1:=qaa k1 1 _ rfl;have t1_2:=qaa k1 2 _ rfl;have t1_3:=qaa k1 3 _ rfl;have t1_4:=qaa k1 4 _ rfl)
  | (go_at_call 120;(with_reducible refine(D.out _ k1).mono ?_);rintro e' w2 ⟨rfl,k2⟩;have k2:Bel _ w2:=Bel.of k1 k2;have t2_0:=qaa k2 0 _ rfl;have t2_1:=qaa k2 1 _ rfl))
 go_ret;exact⟨rfl,Bel.of hS0 k2⟩
theorem qit (p:PPlan) (vs:List Value) (w:World) (hv:VPlan w vs p) (h:names p=true) (hl:SmallP p) (hM:ML w) :
  Calls Tryz.prog 84 #[.agg vs.toArray] w fun e' w'=>e'=.returned (.bool false)/\Bel w w':=by
 obtain⟨q1,q2,c1,c2,rfl,h1,h2,l1,l2⟩:=hv.form;unfold names at h;rw [Bool.and_eq_true,List.all_eq_true,List.all_eq_true]at h;have hS0:=(Bel.refl w).alloc (.cells #[.slice q1 p.progs.length c1,.slice q2 p.enums.length c2] 25);have CG:=Lib.hid (fun W (k:Bel (w.alloc (.cells #[.slice q1 p.progs.length c1,.slice q2 p.enums.length c2] 25)) W)=>(qbz (qe9 VProg VProg.len 114 #[] (enters_of Tryz.func114 (by kernel_rfl) rfl) (.slice q1 p.progs.length c1) p.progs (fun _=>false) W (h1.bel VProg.stays (Bel.of hS0 k)) (fun x vs' W2 hx hv' hb=>cl_namG x vs' W2 (VProg.stays _ _ _ _ hb hv') (h.1 x hx) (hl.pr x hx) (hM.below (Bel.of (Bel.of hS0 k) hb))))));have CE:=Lib.hid (fun W (k:Bel (w.alloc (.cells #[.slice q1 p.progs.length c1,.slice q2 p.enums.length c2] 25)) W)=>(qbz (qde VEnum VEnum.len 119 #[] (enters_of Tryz.func119 (by kernel_rfl) rfl) (.slice q2 p.enums.length c2) p.enums (fun _=>false) W (h2.bel VEnum.stays (Bel.of hS0 k)) (fun x vs' W2 hx hv' hb=>cl_namE x vs' W2 (VEnum.stays _ _ _ _ hb hv') (h.2 x hx) (hl.en x hx) (hM.below (Bel.of (Bel.of hS0 k) hb))))));clear hv h1 h2 h
 go_enter Tryz.func84,Tryz.ntmps84
 go_wp2_with (first
  | (go_at_call 110;(with_reducible refine(CG.out _ (Bel.refl _)).mono ?_);rintro e' w1 ⟨rfl,k1⟩;have k1:Bel _ w1:=k1;have t0:=qaa k1 0 _ rfl;have t1:=qaa k1 1 _ rfl)
  | (go_at_call 112;(with_reducible refine(CE.out _ k1).mono ?_);rintro e' w2 ⟨rfl,k2⟩;have k2:Bel _ w2:=Bel.of k1 k2))
 go_ret;exact⟨rfl,Bel.of hS0 k2⟩
end
section
open Go.RowKit
theorem qat {P:Program} {ops:Array Oper} {w:World} {Q:Act->Prop} {rest:List Oper} {a:Act} {o:Oper} (hgd:o.guard=none) (ty:TypeId) (x:Operand) (ho:o.op=.load ty x) (b off n:Nat) (vs:List Value) (hx:a.eval x=.pointer (some ⟨b,off,none⟩)) (hc : ∀i v,vs[i]? = some v->w.cell? ⟨b,off+i,none⟩=some v) (aE : ∀w,(isAgg ty).run P w=.ok true w) (zE : ∀w,(Go.sizeOf ty).run P w=.ok n w) (hn:vs.length=n)
  (h:wpStill P ops w Q rest (a.put o.dst (.agg vs.toArray))):wpStill P ops w Q (o :: rest) a:=by
 refine wpStill_step (fun K hK=>?_);have hw:Region.wanted o (yielded ops a.tmps)=true:=by simp [Region.wanted,hgd]
 rw [if_pos hw];have hl:Sem.run P (loadCellsFrom ⟨b,off,none⟩ 0 n #[]) w=.ok vs.toArray w:=run_loadCellsFrom_list P w ⟨b,off,none⟩ vs n hn (fun i v hi=>by rw [Addr.add_lit];exact hc i v hi)
 have hv:(loadVar ty ⟨b,off,none⟩).run P w=.ok (.agg vs.toArray) w:=by
  unfold loadVar loadCells;simp only [Sem.run_bind,aE,Result.andThen_ok,if_true,zE,hl,Sem.run_pure]
 unfold Oper.still execOp;simp only [ho,hx,Instr.loadAt,Instr.sureAddr,Sem.run_bind,Sem.run_pure,Result.andThen_ok,hv];rw [Oper.stillUpon_value];exact hK _ h
end
end Go.Proofs.YtgpjhibdongmbaaGreatDoor
