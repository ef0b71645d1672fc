import Derived.Test.YtaaneecceiefoaaGreatDoorCkOut
import Derived.Test.YtaaneecceiefoaaGreatDoorCkFin
import Derived.Test.YtaaneecceiefoaaGreatDoorOrd
import Derived.Test.YtaaneecceiefoaaGreatDoorMaMem
import Derived.Test.YtaaneecceiefoaaGreatDoorIdRef2
import Derived.Deep.DeepCutAuto
import Derived.IntWalk
set_option maxRecDepth 100000
set_option maxHeartbeats 4000000
set_option linter.unusedVariables false
set_option linter.unusedSimpArgs false
namespace Go.Proofs.YtaaneecceiefoaaGreatDoor
open Go.RowKit Ck
def idxI:Option Nat->Int
 | some k=>(k:Int)
 | none => -1
theorem qip (o:Option Nat):(0<=idxI o ↔ o.isSome=true):=by cases o <;> simp [idxI]
def enGo (n:Str):List PEnum->Nat->Option Nat
 | [],_=>none
 | m :: r,i=>if m.name=n then some i else enGo n r (i+1)
def enOf (s:PSchema) (n:Str):Option Nat:=enGo n s.enums 0
theorem qix (n:Str) : ∀(l:List PEnum) (i k:Nat),enGo n l i=some k->i<=k/\∃m,l[k-i]? = some m/\l.find? (fun m=>m.name=n)=some m
 | [],i,k,h=>by simp [enGo]at h
 | m :: r,i,k,h=>by
  unfold enGo at h
  split at h
  ·rename_i hm
   injection h with h
   subst h;refine⟨Nat.le_refl _,m,by simp,by simp [hm]⟩
  ·rename_i hm
   obtain⟨h1,x,h2,h4⟩:=qix n r (i+1) k h;refine⟨by omega,x,?_,by simp [hm,h4]⟩;rw [show k-i=(k-(i+1))+1 by omega]
   simpa using h2
theorem qiy (n:Str) : ∀(l:List PEnum) (i:Nat),enGo n l i=none ↔ l.find? (fun m=>m.name=n)=none
 | [],i=>by simp [enGo]
 | m :: r,i=>by
  have:=qiy n r (i+1);unfold enGo;by_cases hm:m.name=n
  ·simp [hm]
  ·simp [hm,this]
theorem qnh {s:PSchema} {n:Str} {k:Nat} (h:enOf s n=some k) : ∃m,s.enums[k]? = some m/\qet s n=some m:=by
 obtain⟨_,m,h2,h4⟩:=qix n s.enums 0 k h;exact⟨m,by simpa using h2,h4⟩
theorem enOf_none {s:PSchema} {n:Str}:enOf s n=none ↔ qet s n=none:=qiy n s.enums 0
theorem qjq (s:PSchema) (n:Str):(enOf s n).isSome=(qet s n).isSome:=by
 have := @enOf_none s n;cases h1:enOf s n <;> cases h2:qet s n <;> simp_all
theorem qbu (sq1 sq2 sq3:Option Addr) (sc1 sc2 sc3:Nat) (s:PSchema) (n:Str) (w:World) (hs:VSchema w [.slice sq1 s.msgs.length sc1,.slice sq2 s.enums.length sc2,.slice sq3 s.svcs.length sc3] s) :
  Calls Tryz.prog 111 #[.agg #[.slice sq1 s.msgs.length sc1,.slice sq2 s.enums.length sc2,.slice sq3 s.svcs.length sc3],.string (S n)] w fun e w'=>e=.returned (.int .i64 (idxI (idxOf s n)))/\Below w.heap.size w w':=by
 have KB:=Lib.hid (fun W' (k:Bel (w.alloc (.cells #[.slice sq1 s.msgs.length sc1,.slice sq2 s.enums.length sc2,.slice sq3 s.svcs.length sc3] 26)) W')=>show W'.cell? ⟨w.heap.size,0,none⟩=some (.slice sq1 s.msgs.length sc1)/\W'.cell? ⟨w.heap.size,1,none⟩=some (.slice sq2 s.enums.length sc2)/\W'.cell? ⟨w.heap.size,2,none⟩=some (.slice sq3 s.svcs.length sc3)from⟨k.some ((World.cell?_alloc_at _ _ _ _ rfl).trans rfl),k.some ((World.cell?_alloc_at _ _ _ _ rfl).trans rfl),k.some ((World.cell?_alloc_at _ _ _ _ rfl).trans rfl)⟩);have kb:Bel w (w.alloc (.cells #[.slice sq1 s.msgs.length sc1,.slice sq2 s.enums.length sc2,.slice sq3 s.svcs.length sc3] 26)):=(Bel.refl _).alloc _;obtain⟨_,_,_,hcs,hm1,hm2,hm3⟩:=id hs;cases hcs;have HM1:=Lib.hid hm1;have hll:s.msgs.length<=140737488355328:=by obtain⟨_,_,_,h,_⟩:=hm1;exact h
 clear hm1 hm2 hm3 hs;have HV:=Lib.hid (show idxGo n (s.msgs.drop 0) 0=idxOf s n from rfl);generalize idxOf s n=R at HV
 go_enter Tryz.func111,Tryz.ntmps111
 go_wp2
 go_loopw [5] (fun i wr => ∃k:Nat,k<=s.msgs.length/\i=.int .i64 k/\Bel (w.alloc (.cells #[.slice sq1 s.msgs.length sc1,.slice sq2 s.enums.length sc2,.slice sq3 s.svcs.length sc3] 26)) wr/\Hid (idxGo n (s.msgs.drop k) k=R)) (fun i _=>s.msgs.length-(intOf i).toNat)
 case atStart=>exact⟨0,by omega,rfl,Bel.refl _,HV⟩
 case round=>
  obtain⟨k,hk,rfl,kw,hgo⟩:=hrel;obtain⟨c0,c1,c2⟩:=KB.out _ kw;have hb0:Bel w wr:=Bel.of kb kw.out;by_cases hlt:k<s.msgs.length
  ·have hki:(k:Int)<(s.msgs.length:Int):=by omega
   have hk0:(0:Int)<=(k:Int):=by omega
   have hg:=List.getElem?_eq_getElem hlt;have hlist:=HM1.out;obtain⟨qq,cq,hqe,_,_,hel⟩:=hlist;cases hqe;obtain⟨b,off,hqq,hbs,cs,hce,hvs⟩:=hel k _ hg;have hdr:s.msgs.drop k=s.msgs[k] :: s.msgs.drop (k+1):=List.drop_eq_getElem_cons hlt;have hst:=hgo.out;rw [hdr]at hst;unfold idxGo at hst;subst hqq;obtain⟨_,_,_,_,hvv,_⟩:=hvs;subst hvv;have e0:=hb0.some (hce 0 _ rfl);rw [Nat.add_zero]at e0;have HST:=Lib.hid hst;clear hst hgo hdr hg hel hce;generalize s.msgs[k]=x at *;by_cases hn:x.name=n
   ·have qn:((S x.name).toList == (S n).toList)=true:=by rw [eq_S];exact decide_eq_true hn
    have hR:=Lib.hid (show(k:Int)=idxI R by have:=HST.out;rw [if_pos hn]at this;rw [←this];rfl);clear hn HST;go_wp2;go_ret;exact⟨qb2 hR.out,hb0.out⟩
   ·have qn:((S x.name).toList == (S n).toList)=false:=by rw [eq_S];exact decide_eq_false hn
    have HG:=Lib.hid (show idxGo n (s.msgs.drop (k+1)) (k+1)=R by have:=HST.out;rw [if_neg hn]at this;exact this);clear hn HST;go_wp2;exact⟨⟨k+1,by omega,by go_num,kw,HG⟩,by simp [intOf];omega⟩
  ·have hki : ¬(k:Int)<(s.msgs.length:Int):=by omega
   have hR:=Lib.hid (show(-1:Int)=idxI R by
    have:=hgo.out;rw [show k=s.msgs.length by omega,List.drop_length]at this
    rw [←this];rfl)
   clear hgo;go_wp2;go_ret;exact⟨qb2 hR.out,hb0.out⟩
theorem qga (sq1 sq2 sq3:Option Addr) (sc1 sc2 sc3:Nat) (s:PSchema) (n:Str) (w:World) (hs:VSchema w [.slice sq1 s.msgs.length sc1,.slice sq2 s.enums.length sc2,.slice sq3 s.svcs.length sc3] s) :
  Calls Tryz.prog 130 #[.agg #[.slice sq1 s.msgs.length sc1,.slice sq2 s.enums.length sc2,.slice sq3 s.svcs.length sc3],.string (S n)] w fun e w'=>e=.returned (.int .i64 (idxI (enOf s n)))/\Below w.heap.size w w':=by
 have KB:=Lib.hid (fun W' (k:Bel (w.alloc (.cells #[.slice sq1 s.msgs.length sc1,.slice sq2 s.enums.length sc2,.slice sq3 s.svcs.length sc3] 26)) W')=>show W'.cell? ⟨w.heap.size,0,none⟩=some (.slice sq1 s.msgs.length sc1)/\W'.cell? ⟨w.heap.size,1,none⟩=some (.slice sq2 s.enums.length sc2)/\W'.cell? ⟨w.heap.size,2,none⟩=some (.slice sq3 s.svcs.length sc3)from⟨k.some ((World.cell?_alloc_at _ _ _ _ rfl).trans rfl),k.some ((World.cell?_alloc_at _ _ _ _ rfl).trans rfl),k.some ((World.cell?_alloc_at _ _ _ _ rfl).trans rfl)⟩);have kb:Bel w (w.alloc (.cells #[.slice sq1 s.msgs.length sc1,.slice sq2 s.enums.length sc2,.slice sq3 s.svcs.length sc3] 26)):=(Bel.refl _).alloc _;obtain⟨_,_,_,hcs,hm1,hm2,hm3⟩:=id hs;cases hcs;have HM1:=Lib.hid hm2;have hll:s.enums.length<=140737488355328:=by obtain⟨_,_,_,h,_⟩:=hm2;exact h
 clear hm1 hm2 hm3 hs;have HV:=Lib.hid (show enGo n (s.enums.drop 0) 0=enOf s n from rfl);generalize enOf s n=R at HV
 go_enter Tryz.func130,Tryz.ntmps130
 go_wp2
 go_loopw [5] (fun i wr => ∃k:Nat,k<=s.enums.length/\i=.int .i64 k/\Bel (w.alloc (.cells #[.slice sq1 s.msgs.length sc1,.slice sq2 s.enums.length sc2,.slice sq3 s.svcs.length sc3] 26)) wr/\Hid (enGo n (s.enums.drop k) k=R)) (fun i _=>s.enums.length-(intOf i).toNat)
 case atStart=>exact⟨0,by omega,rfl,Bel.refl _,HV⟩
 case round=>
  obtain⟨k,hk,rfl,kw,hgo⟩:=hrel;obtain⟨c0,c1,c2⟩:=KB.out _ kw;have hb0:Bel w wr:=Bel.of kb kw.out;by_cases hlt:k<s.enums.length
  ·have hki:(k:Int)<(s.enums.length:Int):=by omega
   have hk0:(0:Int)<=(k:Int):=by omega
   have hg:=List.getElem?_eq_getElem hlt;have hlist:=HM1.out;obtain⟨qq,cq,hqe,_,_,hel⟩:=hlist;cases hqe;obtain⟨b,off,hqq,hbs,cs,hce,hvs⟩:=hel k _ hg;have hdr:s.enums.drop k=s.enums[k] :: s.enums.drop (k+1):=List.drop_eq_getElem_cons hlt;have hst:=hgo.out;rw [hdr]at hst;unfold enGo at hst;subst hqq;obtain⟨_,_,_,hvv,_⟩:=hvs;subst hvv;have e0:=hb0.some (hce 0 _ rfl);rw [Nat.add_zero]at e0;have HST:=Lib.hid hst;clear hst hgo hdr hg hel hce;generalize s.enums[k]=x at *;by_cases hn:x.name=n
   ·have qn:((S x.name).toList == (S n).toList)=true:=by rw [eq_S];exact decide_eq_true hn
    have hR:=Lib.hid (show(k:Int)=idxI R by have:=HST.out;rw [if_pos hn]at this;rw [←this];rfl);clear hn HST;go_wp2;go_ret;exact⟨qb2 hR.out,hb0.out⟩
   ·have qn:((S x.name).toList == (S n).toList)=false:=by rw [eq_S];exact decide_eq_false hn
    have HG:=Lib.hid (show enGo n (s.enums.drop (k+1)) (k+1)=R by have:=HST.out;rw [if_neg hn]at this;exact this);clear hn HST;go_wp2;exact⟨⟨k+1,by omega,by go_num,kw,HG⟩,by simp [intOf];omega⟩
  ·have hki : ¬(k:Int)<(s.enums.length:Int):=by omega
   have hR:=Lib.hid (show(-1:Int)=idxI R by
    have:=hgo.out;rw [show k=s.enums.length by omega,List.drop_length]at this
    rw [←this];rfl)
   clear hgo;go_wp2;go_ret;exact⟨qb2 hR.out,hb0.out⟩
theorem qf7 (v:Value) (l:List PSpan) (n:Int) (w:World) (hv:Spans w v l) :
  Calls Tryz.prog 103 #[v,.int .i64 n] w fun e w'=>e=.returned (.bool (qc7 l n))/\Below w.heap.size w w':=by
 obtain⟨q,c,rfl,hll,hcc,hel⟩:=hv;have EL:=Lib.hid hel;have HV:=Lib.hid (show(l.drop 0).any (fun x=>decide (x.lo<=n/\n<=x.hi))=qc7 l n from rfl);generalize qc7 l n=R at HV;clear hel
 go_enter Tryz.func103,Tryz.ntmps103
 go_wp2
 go_loopw [5] (fun i wr => ∃k:Nat,k<=l.length/\i=.int .i64 k/\Bel w wr/\Hid ((l.drop k).any (fun x=>decide (x.lo<=n/\n<=x.hi))=R)) (fun i _=>l.length-(intOf i).toNat)
 case atStart=>exact⟨0,by omega,rfl,Bel.refl _,HV⟩
 case round=>
  obtain⟨k,hk,rfl,kw,hgo⟩:=hrel;by_cases hlt:k<l.length
  ·have hki:(k:Int)<(l.length:Int):=by omega
   have hk0:(0:Int)<=(k:Int):=by omega
   have hg:=List.getElem?_eq_getElem hlt;obtain⟨b,off,rfl,hbs,cs,hce,hvs⟩:=EL.out k _ hg;have hdr:l.drop k=l[k] :: l.drop (k+1):=List.drop_eq_getElem_cons hlt;have hst:=hgo.out;rw [hdr,List.any_cons]at hst;have HST:=Lib.hid hst;have hvs':cs=[.int .i64 l[k].lo,.int .i64 l[k].hi]:=hvs;subst hvs';have e0:=kw.some (hce 0 _ rfl);rw [Nat.add_zero]at e0;have e1:=kw.some (hce 1 _ rfl);clear hst hgo hdr hg hce hvs;generalize l[k]=x at *;by_cases h1:x.lo<=n
   ·by_cases h2:n<=x.hi
    ·have hR:=Lib.hid (show true=R by rw [←HST.out,decide_eq_true ⟨h1,h2⟩];rfl)
     clear HST;go_wp2;go_ret;exact⟨qa4 hR.out,kw.out⟩
    ·have HG:=Lib.hid (show(l.drop (k+1)).any (fun x=>decide (x.lo<=n/\n<=x.hi))=R by rw [←HST.out,decide_eq_false (fun h=>h2 h.2),Bool.false_or])
     clear HST;go_wp2;exact⟨⟨k+1,by omega,by go_num,kw,HG⟩,by simp [intOf];omega⟩
   ·have HG:=Lib.hid (show(l.drop (k+1)).any (fun x=>decide (x.lo<=n/\n<=x.hi))=R by rw [←HST.out,decide_eq_false (fun h=>h1 h.1),Bool.false_or])
    clear HST;go_wp2;exact⟨⟨k+1,by omega,by go_num,kw,HG⟩,by simp [intOf];omega⟩
  ·have hki : ¬(k:Int)<(l.length:Int):=by omega
   have hR:=Lib.hid (show false=R by
    have:=hgo.out;rw [show k=l.length by omega,List.drop_length]at this
    rw [←this];rfl)
   clear hgo;go_wp2;go_ret;exact⟨qa4 hR.out,kw.out⟩
theorem rk_card (fu:Int) (fn:Str) (fca fke ftk:Int) (ftn fun0:Str) (fhd:Bool) (fvk fvx:Int) (fvt:Str) (fr1 fr2 fr3 fr4 fr5:Option Addr) (fm1 fd1 fm2 fd2 fm3 fd3 fm4 fd4 fm5 fd5:Nat) (w:World) :
  Calls Tryz.prog 104 #[.agg #[.int .i64 fu,.string (S fn),.int .i64 fca,.int .i64 fke,.int .i64 ftk,.string (S ftn),.string (S fun0),.bool fhd,.int .i64 fvk,.int .u64 fvx,.string (S fvt),.slice fr1 fm1 fd1,.slice fr2 fm2 fd2,.slice fr3 fm3 fd3,.slice fr4 fm4 fd4,.slice fr5 fm5 fd5]] w fun e w'=>e=.returned (.bool (decide (1<=fca/\fca<=5) && keyed fca fke))/\Below w.heap.size w w':=by
 have HV:=Lib.hid (show(decide (1<=fca/\fca<=5) && keyed fca fke)=(decide (1<=fca/\fca<=5) && (if fca ≠ 5 then decide (fke=0)else decide (1<=fke/\fke<=7/\fke ≠ 6)))from rfl);generalize (decide (1<=fca/\fca<=5) && keyed fca fke)=R at HV
 go_enter Tryz.func104,Tryz.ntmps104
 by_cases h5:fca=5
 ·have q5:(fca != 5)=false:=by rw [h5];rfl
  have HR:=Lib.hid (show R=decide (1<=fke/\fke<=7/\fke ≠ 6)by rw [HV.out,h5];simp);clear HV h5;go_wp2
  all_goals go_ret
  all_goals refine⟨qa4 ?_,Bel.out (by(repeat (first|(with_reducible assumption)|(with_reducible exact Bel.refl _)|(with_reducible refine Bel.drew ?_)|(with_reducible refine Bel.drewN ?_ _)|(with_reducible refine Bel.alloc ?_ _)|((with_reducible refine qb9 ?_ ?hge);(case hge=>(first|omega|(simp;omega)))))))⟩
  all_goals rw [HR.out,Bool.eq_iff_iff]
  all_goals simp
  all_goals (first|done|omega|(simp_all;done)|(simp_all;omega))
 ·have q5:(fca != 5)=true:=by rw [bne_iff_ne];exact h5
  have HR:=Lib.hid (show R=(decide (1<=fca/\fca<=4) && decide (fke=0))by rw [HV.out,if_pos h5];congr 1;rw [decide_eq_decide];omega);clear HV;go_wp2
  all_goals go_ret
  all_goals refine⟨qa4 ?_,Bel.out (by(repeat (first|(with_reducible assumption)|(with_reducible exact Bel.refl _)|(with_reducible refine Bel.drew ?_)|(with_reducible refine Bel.drewN ?_ _)|(with_reducible refine Bel.alloc ?_ _)|((with_reducible refine qb9 ?_ ?hge);(case hge=>(first|omega|(simp;omega)))))))⟩
  all_goals rw [HR.out,Bool.eq_iff_iff]
  all_goals simp
  all_goals (first|done|omega|(simp_all;done)|(simp_all;omega))
theorem rk_typ (sq1 sq2 sq3:Option Addr) (sc1 sc2 sc3:Nat) (s:PSchema) (fu:Int) (fn:Str) (fca fke ftk:Int) (ftn fun0:Str) (fhd:Bool) (fvk fvx:Int) (fvt:Str) (fr1 fr2 fr3 fr4 fr5:Option Addr) (fm1 fd1 fm2 fd2 fm3 fd3 fm4 fd4 fm5 fd5:Nat) (nts:List PNote) (w:World) (hs:VSchema w [.slice sq1 s.msgs.length sc1,.slice sq2 s.enums.length sc2,.slice sq3 s.svcs.length sc3] s) :
  Calls Tryz.prog 105 #[.agg #[.slice sq1 s.msgs.length sc1,.slice sq2 s.enums.length sc2,.slice sq3 s.svcs.length sc3],.agg #[.int .i64 fu,.string (S fn),.int .i64 fca,.int .i64 fke,.int .i64 ftk,.string (S ftn),.string (S fun0),.bool fhd,.int .i64 fvk,.int .u64 fvx,.string (S fvt),.slice fr1 fm1 fd1,.slice fr2 fm2 fd2,.slice fr3 fm3 fd3,.slice fr4 fm4 fd4,.slice fr5 fm5 fd5]] w fun e w'=>e=.returned (.bool (typed s ⟨fu,fn,fca,fke,ftk,ftn,fun0,fhd,⟨fvk,fvx,fvt,fm1,fm2,fm3,fm4⟩,nts⟩))/\Below w.heap.size w w':=by
 have V:typed s ⟨fu,fn,fca,fke,ftk,ftn,fun0,fhd,⟨fvk,fvx,fvt,fm1,fm2,fm3,fm4⟩,nts⟩=if 1<=ftk/\ftk<=8 then decide (ftn=[])else if ftk=9 then(qet s ftn).isSome else if ftk=10 then(msgOf s ftn).isSome && decide (fca ≠ 3)else false:=rfl
 have hce:=fun W (k:Bel w W)=>qga sq1 sq2 sq3 sc1 sc2 sc3 s ftn W (hs.stays_bel k)
 have hcm:=fun W (k:Bel w W)=>qbu sq1 sq2 sq3 sc1 sc2 sc3 s ftn W (hs.stays_bel k)
 have n1:=qip (enOf s ftn);have n2:=qip (idxOf s ftn);rw [qjq]at n1;rw [qbq]at n2;have HV:=Lib.hid V;clear V hs;generalize typed s ⟨fu,fn,fca,fke,ftk,ftn,fun0,fhd,⟨fvk,fvx,fvt,fm1,fm2,fm3,fm4⟩,nts⟩=R at HV;generalize idxI (enOf s ftn)=E at hce n1;generalize idxI (idxOf s ftn)=M at hcm n2;generalize (qet s ftn).isSome=eb at n1 HV;generalize (msgOf s ftn).isSome=mb at n2 HV;have CE:=Lib.hid hce;have CM:=Lib.hid hcm;have N1:=Lib.hid n1;have N2:=Lib.hid n2;clear hce hcm n1 n2
 go_enter Tryz.func105,Tryz.ntmps105
 by_cases h9:ftk=9
 ·have q9:(ftk == 9)=true:=by rw [h9];rfl
  have HR:=Lib.hid (show R=eb by rw [HV.out,if_neg (by omega),if_pos h9]);clear HV h9
  go_wp2_with (go_at_call 130;(with_reducible refine(CE.out _ (by(with_reducible repeat first|assumption|exact Bel.refl _|refine Bel.drew ?_|refine Bel.drewN ?_ _|refine Bel.alloc ?_ _))).mono ?_);rintro e w1 ⟨rfl,g1⟩;have k1:Bel w w1:=Bel.of (by(with_reducible repeat first|assumption|exact Bel.refl _|refine Bel.drew ?_|refine Bel.drewN ?_ _|refine Bel.alloc ?_ _)) g1;clear g1)
  all_goals go_ret
  all_goals refine⟨qa4 ?_,k1.out⟩
  all_goals rw [HR.out,Bool.eq_iff_iff, ←N1.out]
  all_goals simp
 ·have q9:(ftk == 9)=false:=beq_eq_false_iff_ne.2 h9
  by_cases h10:ftk=10
  ·have q10:(ftk == 10)=true:=by rw [h10];rfl
   have HR:=Lib.hid (show R=(mb && decide (fca ≠ 3))by rw [HV.out,if_neg (by omega),if_neg h9,if_pos h10]);clear HV h10
   go_wp2_with (go_at_call 111;(with_reducible refine(CM.out _ (by(with_reducible repeat first|assumption|exact Bel.refl _|refine Bel.drew ?_|refine Bel.drewN ?_ _|refine Bel.alloc ?_ _))).mono ?_);rintro e w1 ⟨rfl,g1⟩;have k1:Bel w w1:=Bel.of (by(with_reducible repeat first|assumption|exact Bel.refl _|refine Bel.drew ?_|refine Bel.drewN ?_ _|refine Bel.alloc ?_ _)) g1;obtain⟨hc,hf⟩:=bcell g1;have hz:=g1.size;simp at hz;have hx1:w.heap.size+1<w1.heap.size:=(by omega);have hy1:w.heap.size<w1.heap.size:=(by omega);clear g1)
   all_goals go_ret
   all_goals refine⟨qa4 ?_,k1.out⟩
   all_goals rw [HR.out,Bool.eq_iff_iff,Bool.and_eq_true, ←N2.out]
   all_goals simp
   all_goals (first|done|omega|(simp_all;done)|(simp_all;omega))
  ·have q10:(ftk == 10)=false:=beq_eq_false_iff_ne.2 h10
   have HR:=Lib.hid (show R=(decide (1<=ftk/\ftk<=8) && decide (ftn=[]))by
    rw [HV.out,if_neg h9,if_neg h10];by_cases h:1<=ftk/\ftk<=8
    ·rw [if_pos h,decide_eq_true h,Bool.true_and]
    ·rw [if_neg h,decide_eq_false h,Bool.false_and])
   clear HV h9 h10;have hte:ftn=[] ∨ ftn ≠ []:=by by_cases h:ftn=[];exact .inl h;exact .inr h
   rcases hte with ht|ht
   ·subst ht
    have he:(S []).toList=[]:=qgy [] rfl;have he2:(S []).toList.isEmpty=true:=by rw [he];rfl
    go_wp2
    all_goals go_ret
    all_goals refine⟨qa4 ?_,Bel.out (by(repeat (first|(with_reducible assumption)|(with_reducible exact Bel.refl _)|(with_reducible refine Bel.drew ?_)|(with_reducible refine Bel.drewN ?_ _)|(with_reducible refine Bel.alloc ?_ _)|((with_reducible refine qb9 ?_ ?hge);(case hge=>(first|omega|(simp;omega)))))))⟩
    all_goals rw [HR.out,Bool.eq_iff_iff]
    all_goals simp
    all_goals (first|done|omega|(simp_all;done)|(simp_all;omega))
   ·have he:=qcf ftn ht
    have he2:=qcn ftn ht;have HR2:=Lib.hid (show R=false by rw [HR.out,decide_eq_false ht,Bool.and_false]);clear HR ht;go_wp2
    all_goals go_ret
    all_goals refine⟨qa4 ?_,Bel.out (by(repeat (first|(with_reducible assumption)|(with_reducible exact Bel.refl _)|(with_reducible refine Bel.drew ?_)|(with_reducible refine Bel.drewN ?_ _)|(with_reducible refine Bel.alloc ?_ _)|((with_reducible refine qb9 ?_ ?hge);(case hge=>(first|omega|(simp;omega)))))))⟩
    all_goals rw [HR2.out]
    all_goals (first|rfl|(simp;done)|(simp_all;done))
theorem qbv (l:Str) (w:World) (hl:l.length<=1000000000000000) :
  Calls Tryz.prog 102 #[.string (S l)] w fun e w'=>e=.returned (.bool (qaj l))/\Below w.heap.size w w':=by
 have HV:=Lib.hid (show qaj l=(Id.isPart l && !Id.isWord l)from rfl);have c1:=Lib.hid (fun W=>qge (S l) l W rfl (by rw [qdg];exact hl));have c2:=Lib.hid (fun W=>qgd (S l) l W rfl);generalize qaj l=R at HV;generalize Id.isPart l=P at c1 HV;generalize Id.isWord l=Q at c2 HV
 go_enter Tryz.func102,Tryz.ntmps102
 cases P
 all_goals
  go_wp2_with (first
   | (go_at_call 61;(with_reducible refine(c1.out _).mono ?_);rintro e w1 ⟨rfl,rfl⟩)
   | (go_at_call 129;(with_reducible refine(c2.out _).mono ?_);rintro e w2 ⟨rfl,rfl⟩))
  all_goals go_ret
  all_goals exact⟨qa4 (by rw [HV.out];simp),Below.refl _ _⟩
theorem qdu (avk avx:Int) (avt:Str) (ar1 ar2 ar3 ar4:Option Addr) (am1 ad1 am2 ad2 am3 ad3 am4 ad4:Nat) (bvk bvx:Int) (bvt:Str) (br1 br2 br3 br4:Option Addr) (bm1 bd1 bm2 bd2 bm3 bd3 bm4 bd4:Nat) (w:World) (ha1:am1<=140737488355328) (ha2:am2<=140737488355328) (ha3:am3<=140737488355328) (ha4:am4<=140737488355328) (hb1:bm1<=140737488355328) (hb2:bm2<=140737488355328) (hb3:bm3<=140737488355328) (hb4:bm4<=140737488355328) :
  Calls Tryz.prog 131 #[.agg #[.int .i64 avk,.int .u64 avx,.string (S avt),.slice ar1 am1 ad1,.slice ar2 am2 ad2,.slice ar3 am3 ad3,.slice ar4 am4 ad4],.agg #[.int .i64 bvk,.int .u64 bvx,.string (S bvt),.slice br1 bm1 bd1,.slice br2 bm2 bd2,.slice br3 bm3 bd3,.slice br4 bm4 bd4]] w fun e w'=>e=.returned (.bool (decide (avk=bvk) && (decide (avx=bvx) && (decide (avt=bvt) && decide (am1+am2+am3+am4+bm1+bm2+bm3+bm4=0)))))/\Below w.heap.size w w':=by
 obtain⟨R,hR⟩ : ∃R,R=(decide (avk=bvk) && (decide (avx=bvx) && (decide (avt=bvt) && decide (am1+am2+am3+am4+bm1+bm2+bm3+bm4=0)))):=⟨_,rfl⟩;rw [←hR];have HV:=Lib.hid hR;clear hR;have s0:IntKind.i64.wrap ((am1:Int)+(am2:Int))=(am1:Int)+(am2:Int):=IntWalk.i64_in _ (by omega);have s1:IntKind.i64.wrap ((am1:Int)+(am2:Int)+(am3:Int))=(am1:Int)+(am2:Int)+(am3:Int):=IntWalk.i64_in _ (by omega);have s2:IntKind.i64.wrap ((am1:Int)+(am2:Int)+(am3:Int)+(am4:Int))=(am1:Int)+(am2:Int)+(am3:Int)+(am4:Int):=IntWalk.i64_in _ (by omega);have s3:IntKind.i64.wrap ((am1:Int)+(am2:Int)+(am3:Int)+(am4:Int)+(bm1:Int))=(am1:Int)+(am2:Int)+(am3:Int)+(am4:Int)+(bm1:Int):=IntWalk.i64_in _ (by omega);have s4:IntKind.i64.wrap ((am1:Int)+(am2:Int)+(am3:Int)+(am4:Int)+(bm1:Int)+(bm2:Int))=(am1:Int)+(am2:Int)+(am3:Int)+(am4:Int)+(bm1:Int)+(bm2:Int):=IntWalk.i64_in _ (by omega);have s5:IntKind.i64.wrap ((am1:Int)+(am2:Int)+(am3:Int)+(am4:Int)+(bm1:Int)+(bm2:Int)+(bm3:Int))=(am1:Int)+(am2:Int)+(am3:Int)+(am4:Int)+(bm1:Int)+(bm2:Int)+(bm3:Int):=IntWalk.i64_in _ (by omega);have s6:IntKind.i64.wrap ((am1:Int)+(am2:Int)+(am3:Int)+(am4:Int)+(bm1:Int)+(bm2:Int)+(bm3:Int)+(bm4:Int))=(am1:Int)+(am2:Int)+(am3:Int)+(am4:Int)+(bm1:Int)+(bm2:Int)+(bm3:Int)+(bm4:Int):=IntWalk.i64_in _ (by omega)
 go_enter Tryz.func131,Tryz.ntmps131
 by_cases hk:avk=bvk
 ·have qk:(avk == bvk)=true:=by rw [hk];simp
  by_cases hx:avx=bvx
  ·have qx:(avx == bvx)=true:=by rw [hx];simp
   by_cases ht:avt=bvt
   ·have qt:((S avt).toList == (S bvt).toList)=true:=by rw [eq_S];exact decide_eq_true ht
    have HR:=Lib.hid (show R=decide (am1+am2+am3+am4+bm1+bm2+bm3+bm4=0)by rw [HV.out,decide_eq_true hk,decide_eq_true hx,decide_eq_true ht];rfl);clear HV hk hx ht;go_wp2
    all_goals go_ret
    all_goals refine⟨qa4 ?_,Bel.out (by(repeat (first|(with_reducible assumption)|(with_reducible exact Bel.refl _)|(with_reducible refine Bel.drew ?_)|(with_reducible refine Bel.drewN ?_ _)|(with_reducible refine Bel.alloc ?_ _)|((with_reducible refine qb9 ?_ ?hge);(case hge=>(first|omega|(simp;omega)))))))⟩
    all_goals rw [HR.out,Bool.eq_iff_iff]
    all_goals simp
    all_goals omega
   ·have qt:((S avt).toList == (S bvt).toList)=false:=by rw [eq_S];exact decide_eq_false ht
    have HR:=Lib.hid (show R=false by rw [HV.out,decide_eq_false ht,Bool.false_and,Bool.and_false,Bool.and_false]);clear HV hk hx ht;go_wp2
    all_goals go_ret
    all_goals exact⟨qa4 HR.out.symm,Bel.out (by(repeat (first|(with_reducible assumption)|(with_reducible exact Bel.refl _)|(with_reducible refine Bel.drew ?_)|(with_reducible refine Bel.drewN ?_ _)|(with_reducible refine Bel.alloc ?_ _)|((with_reducible refine qb9 ?_ ?hge);(case hge=>(first|omega|(simp;omega)))))))⟩
  ·have qx:(avx == bvx)=false:=beq_eq_false_iff_ne.2 hx
   have HR:=Lib.hid (show R=false by rw [HV.out,decide_eq_false hx,Bool.false_and,Bool.and_false]);clear HV hk hx;go_wp2
   all_goals go_ret
   all_goals exact⟨qa4 HR.out.symm,Bel.out (by(repeat (first|(with_reducible assumption)|(with_reducible exact Bel.refl _)|(with_reducible refine Bel.drew ?_)|(with_reducible refine Bel.drewN ?_ _)|(with_reducible refine Bel.alloc ?_ _)|((with_reducible refine qb9 ?_ ?hge);(case hge=>(first|omega|(simp;omega)))))))⟩
 ·have qk:(avk == bvk)=false:=beq_eq_false_iff_ne.2 hk
  have HR:=Lib.hid (show R=false by rw [HV.out,decide_eq_false hk,Bool.false_and]);clear HV hk;go_wp2
  all_goals go_ret
  all_goals exact⟨qa4 HR.out.symm,Bel.out (by(repeat (first|(with_reducible assumption)|(with_reducible exact Bel.refl _)|(with_reducible refine Bel.drew ?_)|(with_reducible refine Bel.drewN ?_ _)|(with_reducible refine Bel.alloc ?_ _)|((with_reducible refine qb9 ?_ ?hge);(case hge=>(first|omega|(simp;omega)))))))⟩
end Go.Proofs.YtaaneecceiefoaaGreatDoor
