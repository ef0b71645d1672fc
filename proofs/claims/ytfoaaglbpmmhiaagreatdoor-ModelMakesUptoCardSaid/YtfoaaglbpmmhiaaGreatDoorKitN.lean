import Derived.Test.YtfoaaglbpmmhiaaGreatDoorKitC
import Derived.Deep.OwnRows
import Derived.Test.YtfoaaglbpmmhiaaGreatDoorCkNote1
import Derived.Test.YtfoaaglbpmmhiaaGreatDoorCkSound
import Derived.Test.YtfoaaglbpmmhiaaGreatDoorKitA
import Derived.Test.YtfoaaglbpmmhiaaGreatDoorMrCamel
import Derived.Deep.DeepCutAuto
import Derived.IntWalk
set_option maxRecDepth 100000
set_option maxHeartbeats 4000000
set_option linter.unusedVariables false
set_option linter.unusedSimpArgs false
namespace Go.Proofs.YtfoaaglbpmmhiaaGreatDoor
section
open Go.RowKit Ck
def BitsAt (w0:World) (Bf:Nat) (fin:List Bool) (wx:World):Prop:=w0.heap.size<=Bf/\wx.heap[Bf]? = some (.cells (fin.map Value.bool).toArray 4 (0,0))/\Bel w0 wx
theorem BitsAt.base {w0 wx:World} {Bf:Nat} {fin:List Bool} (h:BitsAt w0 Bf fin wx):Bel w0 wx:=h.2.2
theorem BitsAt.bel {w0 wx w':World} {Bf:Nat} {fin:List Bool} (h:BitsAt w0 Bf fin wx) (k:Bel wx w'):BitsAt w0 Bf fin w':=
 ⟨h.1,(Below.block k Bf (Array.getElem?_eq_some_iff.1 h.2.1).1).trans h.2.1,Bel.of h.2.2 k.out⟩
theorem BitsAt.cell {w0 wx:World} {Bf:Nat} {fin:List Bool} (h:BitsAt w0 Bf fin wx) (i:Nat) (hi:i<fin.length):wx.cell? ⟨Bf,i,none⟩=some (.bool (fin.getD i false)):=by
 rw [Lib.cell_of_heap h.2.1];simp [List.getD,hi]
theorem BitsAt.frozen {w0 wx:World} {Bf:Nat} {fin:List Bool} (h:BitsAt w0 Bf fin wx) (i:Nat):wx.frozen? ⟨Bf,i,none⟩=false:=Lib.frozen_of_heap h.2.1 i
theorem BitsAt.set {w0 wx:World} {Bf:Nat} {fin:List Bool} (h:BitsAt w0 Bf fin wx) (i:Nat) (b:Bool):BitsAt w0 Bf (fin.set i b) (wx.setCell ⟨Bf,i,none⟩ (.bool b)):=by
 refine⟨h.1,?_,qa8 h.2.2 h.1⟩;rw [heap_setCell_same wx Bf i _ _ _ h.2.1];simp [List.map_set]
theorem BitsAt.start {w0 wc:World} (k:Bel w0 wc) (n:Nat):BitsAt w0 wc.heap.size (List.replicate n false) (wc.alloc (.cells (madeCells #[.bool false] n) 4)):=by
 refine⟨k.size,?_,k.alloc _⟩;rw [heap_alloc_new]
 congr 2
 apply Array.ext
 ·simp [madeCells]
 ·intro i h1 h2
  simp [madeCells,Nat.mod_one]
theorem qr8:(Tryz.prog.info? 4).map (fun i=>(i.zero,i.size,i.bytes))=some (some (.bool false),1,1):=by kernel_rfl
end
section
open Go.RowKit Ck
def idxI:Option Nat->Int
 | some k=>(k:Int)
 | none => -1
theorem qlc (o:Option Nat):(0<=idxI o ↔ o.isSome=true):=by cases o <;> simp [idxI]
def enGo (n:Str):List PEnum->Nat->Option Nat
 | [],_=>none
 | m :: r,i=>if m.name=n then some i else enGo n r (i+1)
def enOf (s:PSchema) (n:Str):Option Nat:=enGo n s.enums 0
theorem qll (n:Str) : ∀(l:List PEnum) (i k:Nat),enGo n l i=some k->i<=k/\∃m,l[k-i]? = some m/\l.find? (fun m=>m.name=n)=some m
 | [],i,k,h=>by simp [enGo]at h
 | m :: r,i,k,h=>by
  unfold enGo at h
  split at h
  ·rename_i hm
   injection h with h
   subst h;refine⟨Nat.le_refl _,m,by simp,by simp [hm]⟩
  ·rename_i hm
   obtain⟨h1,x,h2,h4⟩:=qll n r (i+1) k h;refine⟨by omega,x,?_,by simp [hm,h4]⟩;rw [show k-i=(k-(i+1))+1 by omega]
   simpa using h2
theorem qlm (n:Str) : ∀(l:List PEnum) (i:Nat),enGo n l i=none ↔ l.find? (fun m=>m.name=n)=none
 | [],i=>by simp [enGo]
 | m :: r,i=>by
  have:=qlm n r (i+1);unfold enGo;by_cases hm:m.name=n
  ·simp [hm]
  ·simp [hm,this]
theorem qqu {s:PSchema} {n:Str} {k:Nat} (h:enOf s n=some k) : ∃m,s.enums[k]? = some m/\qc9 s n=some m:=by
 obtain⟨_,m,h2,h4⟩:=qll n s.enums 0 k h;exact⟨m,by simpa using h2,h4⟩
theorem enOf_none {s:PSchema} {n:Str}:enOf s n=none ↔ qc9 s n=none:=qlm n s.enums 0
theorem qmg (s:PSchema) (n:Str):(enOf s n).isSome=(qc9 s n).isSome:=by
 have := @enOf_none s n;cases h1:enOf s n <;> cases h2:qc9 s n <;> simp_all
theorem qck (sq1 sq2 sq3:Option Addr) (sc1 sc2 sc3:Nat) (s:PSchema) (n:Str) (w:World) (hs:VSchema w [.slice sq1 s.msgs.length sc1,.slice sq2 s.enums.length sc2,.slice sq3 s.svcs.length sc3] s) :
  Calls Tryz.prog 111 #[.agg #[.slice sq1 s.msgs.length sc1,.slice sq2 s.enums.length sc2,.slice sq3 s.svcs.length sc3],.string (S n)] w fun e w'=>e=.returned (.int .i64 (idxI (idxOf s n)))/\Below w.heap.size w w':=by
 have KB:=h_ (fun W' (k:Bel (w.alloc (.cells #[.slice sq1 s.msgs.length sc1,.slice sq2 s.enums.length sc2,.slice sq3 s.svcs.length sc3] 26)) W')=>show W'.cell? ⟨w.heap.size,0,none⟩=some (.slice sq1 s.msgs.length sc1)/\W'.cell? ⟨w.heap.size,1,none⟩=some (.slice sq2 s.enums.length sc2)/\W'.cell? ⟨w.heap.size,2,none⟩=some (.slice sq3 s.svcs.length sc3)from⟨k.some ((World.cell?_alloc_at _ _ _ _ rfl).trans rfl),k.some ((World.cell?_alloc_at _ _ _ _ rfl).trans rfl),k.some ((World.cell?_alloc_at _ _ _ _ rfl).trans rfl)⟩);have kb:Bel w (w.alloc (.cells #[.slice sq1 s.msgs.length sc1,.slice sq2 s.enums.length sc2,.slice sq3 s.svcs.length sc3] 26)):=(Bel.refl _).alloc _;obtain⟨_,_,_,hcs,hm1,hm2,hm3⟩:=id hs;cases hcs;have HM1:=h_ hm1;have hll:s.msgs.length<=140737488355328:=by obtain⟨_,_,_,h,_⟩:=hm1;exact h
 clear hm1 hm2 hm3 hs;have HV:=h_ (show idxGo n (s.msgs.drop 0) 0=idxOf s n from rfl);generalize idxOf s n=R at HV
 go_enter Tryz.func111,Tryz.ntmps111
 go_wp2
 go_loopw [5] (fun i wr => ∃k:Nat,k<=s.msgs.length/\i=.int .i64 k/\Bel (w.alloc (.cells #[.slice sq1 s.msgs.length sc1,.slice sq2 s.enums.length sc2,.slice sq3 s.svcs.length sc3] 26)) wr/\Hid (idxGo n (s.msgs.drop k) k=R)) (fun i _=>s.msgs.length-(intOf i).toNat)
 case atStart=>exact⟨0,by omega,rfl,Bel.refl _,HV⟩
 case round=>
  obtain⟨k,hk,rfl,kw,hgo⟩:=hrel;obtain⟨c0,c1,c2⟩:=KB.out _ kw;have hb0:Bel w wr:=Bel.of kb kw.out;by_cases hlt:k<s.msgs.length
  ·have hki:(k:Int)<(s.msgs.length:Int):=by omega
   have hk0:(0:Int)<=(k:Int):=by omega
   have hg:=List.getElem?_eq_getElem hlt;have hlist:=HM1.out;obtain⟨qq,cq,hqe,_,_,hel⟩:=hlist;cases hqe;obtain⟨b,off,hqq,hbs,cs,hce,hvs⟩:=hel k _ hg;have hdr:s.msgs.drop k=s.msgs[k] :: s.msgs.drop (k+1):=List.drop_eq_getElem_cons hlt;have hst:=hgo.out;rw [hdr]at hst;unfold idxGo at hst;subst hqq;obtain⟨_,_,_,_,hvv,_⟩:=hvs;subst hvv;have e0:=hb0.some (hce 0 _ rfl);rw [Nat.add_zero]at e0;have HST:=h_ hst;clear hst hgo hdr hg hel hce;generalize s.msgs[k]=x at *;by_cases hn:x.name=n
   ·have qn:((S x.name).toList == (S n).toList)=true:=by rw [eq_S];exact decide_eq_true hn
    have hR:=h_ (show(k:Int)=idxI R by have:=HST.out;rw [if_pos hn]at this;rw [←this];rfl);clear hn HST;go_wp2;go_ret;exact⟨qar hR.out,hb0.out⟩
   ·have qn:((S x.name).toList == (S n).toList)=false:=by rw [eq_S];exact decide_eq_false hn
    have HG:=h_ (show idxGo n (s.msgs.drop (k+1)) (k+1)=R by have:=HST.out;rw [if_neg hn]at this;exact this);clear hn HST;go_wp2;exact⟨⟨k+1,by omega,by go_num,kw,HG⟩,by simp [intOf];omega⟩
  ·have hki : ¬(k:Int)<(s.msgs.length:Int):=by omega
   have hR:=h_ (show(-1:Int)=idxI R by
    have:=hgo.out;rw [show k=s.msgs.length by omega,List.drop_length]at this
    rw [←this];rfl)
   clear hgo;go_wp2;go_ret;exact⟨qar hR.out,hb0.out⟩
theorem qi7 (sq1 sq2 sq3:Option Addr) (sc1 sc2 sc3:Nat) (s:PSchema) (n:Str) (w:World) (hs:VSchema w [.slice sq1 s.msgs.length sc1,.slice sq2 s.enums.length sc2,.slice sq3 s.svcs.length sc3] s) :
  Calls Tryz.prog 144 #[.agg #[.slice sq1 s.msgs.length sc1,.slice sq2 s.enums.length sc2,.slice sq3 s.svcs.length sc3],.string (S n)] w fun e w'=>e=.returned (.int .i64 (idxI (enOf s n)))/\Below w.heap.size w w':=by
 have KB:=h_ (fun W' (k:Bel (w.alloc (.cells #[.slice sq1 s.msgs.length sc1,.slice sq2 s.enums.length sc2,.slice sq3 s.svcs.length sc3] 26)) W')=>show W'.cell? ⟨w.heap.size,0,none⟩=some (.slice sq1 s.msgs.length sc1)/\W'.cell? ⟨w.heap.size,1,none⟩=some (.slice sq2 s.enums.length sc2)/\W'.cell? ⟨w.heap.size,2,none⟩=some (.slice sq3 s.svcs.length sc3)from⟨k.some ((World.cell?_alloc_at _ _ _ _ rfl).trans rfl),k.some ((World.cell?_alloc_at _ _ _ _ rfl).trans rfl),k.some ((World.cell?_alloc_at _ _ _ _ rfl).trans rfl)⟩);have kb:Bel w (w.alloc (.cells #[.slice sq1 s.msgs.length sc1,.slice sq2 s.enums.length sc2,.slice sq3 s.svcs.length sc3] 26)):=(Bel.refl _).alloc _;obtain⟨_,_,_,hcs,hm1,hm2,hm3⟩:=id hs;cases hcs;have HM1:=h_ hm2;have hll:s.enums.length<=140737488355328:=by obtain⟨_,_,_,h,_⟩:=hm2;exact h
 clear hm1 hm2 hm3 hs;have HV:=h_ (show enGo n (s.enums.drop 0) 0=enOf s n from rfl);generalize enOf s n=R at HV
 go_enter Tryz.func144,Tryz.ntmps144
 go_wp2
 go_loopw [5] (fun i wr => ∃k:Nat,k<=s.enums.length/\i=.int .i64 k/\Bel (w.alloc (.cells #[.slice sq1 s.msgs.length sc1,.slice sq2 s.enums.length sc2,.slice sq3 s.svcs.length sc3] 26)) wr/\Hid (enGo n (s.enums.drop k) k=R)) (fun i _=>s.enums.length-(intOf i).toNat)
 case atStart=>exact⟨0,by omega,rfl,Bel.refl _,HV⟩
 case round=>
  obtain⟨k,hk,rfl,kw,hgo⟩:=hrel;obtain⟨c0,c1,c2⟩:=KB.out _ kw;have hb0:Bel w wr:=Bel.of kb kw.out;by_cases hlt:k<s.enums.length
  ·have hki:(k:Int)<(s.enums.length:Int):=by omega
   have hk0:(0:Int)<=(k:Int):=by omega
   have hg:=List.getElem?_eq_getElem hlt;have hlist:=HM1.out;obtain⟨qq,cq,hqe,_,_,hel⟩:=hlist;cases hqe;obtain⟨b,off,hqq,hbs,cs,hce,hvs⟩:=hel k _ hg;have hdr:s.enums.drop k=s.enums[k] :: s.enums.drop (k+1):=List.drop_eq_getElem_cons hlt;have hst:=hgo.out;rw [hdr]at hst;unfold enGo at hst;subst hqq;obtain⟨_,_,_,hvv,_⟩:=hvs;subst hvv;have e0:=hb0.some (hce 0 _ rfl);rw [Nat.add_zero]at e0;have HST:=h_ hst;clear hst hgo hdr hg hel hce;generalize s.enums[k]=x at *;by_cases hn:x.name=n
   ·have qn:((S x.name).toList == (S n).toList)=true:=by rw [eq_S];exact decide_eq_true hn
    have hR:=h_ (show(k:Int)=idxI R by have:=HST.out;rw [if_pos hn]at this;rw [←this];rfl);clear hn HST;go_wp2;go_ret;exact⟨qar hR.out,hb0.out⟩
   ·have qn:((S x.name).toList == (S n).toList)=false:=by rw [eq_S];exact decide_eq_false hn
    have HG:=h_ (show enGo n (s.enums.drop (k+1)) (k+1)=R by have:=HST.out;rw [if_neg hn]at this;exact this);clear hn HST;go_wp2;exact⟨⟨k+1,by omega,by go_num,kw,HG⟩,by simp [intOf];omega⟩
  ·have hki : ¬(k:Int)<(s.enums.length:Int):=by omega
   have hR:=h_ (show(-1:Int)=idxI R by
    have:=hgo.out;rw [show k=s.enums.length by omega,List.drop_length]at this
    rw [←this];rfl)
   clear hgo;go_wp2;go_ret;exact⟨qar hR.out,hb0.out⟩
theorem qgc (v:Value) (l:List PSpan) (n:Int) (w:World) (hv:Spans w v l) :
  Calls Tryz.prog 103 #[v,.int .i64 n] w fun e w'=>e=.returned (.bool (qbj l n))/\Below w.heap.size w w':=by
 obtain⟨q,c,rfl,hll,hcc,hel⟩:=hv;have EL:=h_ hel;have HV:=h_ (show(l.drop 0).any (fun x=>decide (x.lo<=n/\n<=x.hi))=qbj l n from rfl);generalize qbj l n=R at HV;clear hel
 go_enter Tryz.func103,Tryz.ntmps103
 go_wp2
 go_loopw [5] (fun i wr => ∃k:Nat,k<=l.length/\i=.int .i64 k/\Bel w wr/\Hid ((l.drop k).any (fun x=>decide (x.lo<=n/\n<=x.hi))=R)) (fun i _=>l.length-(intOf i).toNat)
 case atStart=>exact⟨0,by omega,rfl,Bel.refl _,HV⟩
 case round=>
  obtain⟨k,hk,rfl,kw,hgo⟩:=hrel;by_cases hlt:k<l.length
  ·have hki:(k:Int)<(l.length:Int):=by omega
   have hk0:(0:Int)<=(k:Int):=by omega
   have hg:=List.getElem?_eq_getElem hlt;obtain⟨b,off,rfl,hbs,cs,hce,hvs⟩:=EL.out k _ hg;have hdr:l.drop k=l[k] :: l.drop (k+1):=List.drop_eq_getElem_cons hlt;have hst:=hgo.out;rw [hdr,List.any_cons]at hst;have HST:=h_ hst;have hvs':cs=[.int .i64 l[k].lo,.int .i64 l[k].hi]:=hvs;subst hvs';have e0:=kw.some (hce 0 _ rfl);rw [Nat.add_zero]at e0;have e1:=kw.some (hce 1 _ rfl);clear hst hgo hdr hg hce hvs;generalize l[k]=x at *;by_cases h1:x.lo<=n
   ·by_cases h2:n<=x.hi
    ·have hR:=h_ (show true=R by rw [←HST.out,decide_eq_true ⟨h1,h2⟩];rfl)
     clear HST;go_wp2;go_ret;exact⟨qa3 hR.out,kw.out⟩
    ·have HG:=h_ (show(l.drop (k+1)).any (fun x=>decide (x.lo<=n/\n<=x.hi))=R by rw [←HST.out,decide_eq_false (fun h=>h2 h.2),Bool.false_or])
     clear HST;go_wp2;exact⟨⟨k+1,by omega,by go_num,kw,HG⟩,by simp [intOf];omega⟩
   ·have HG:=h_ (show(l.drop (k+1)).any (fun x=>decide (x.lo<=n/\n<=x.hi))=R by rw [←HST.out,decide_eq_false (fun h=>h1 h.1),Bool.false_or])
    clear HST;go_wp2;exact⟨⟨k+1,by omega,by go_num,kw,HG⟩,by simp [intOf];omega⟩
  ·have hki : ¬(k:Int)<(l.length:Int):=by omega
   have hR:=h_ (show false=R by
    have:=hgo.out;rw [show k=l.length by omega,List.drop_length]at this
    rw [←this];rfl)
   clear hgo;go_wp2;go_ret;exact⟨qa3 hR.out,kw.out⟩
theorem rk_card (fu:Int) (fn:Str) (fca fke ftk:Int) (ftn fun0:Str) (fhd:Bool) (fvk fvx:Int) (fvt:Str) (fr1 fr2 fr3 fr4 fr5:Option Addr) (fm1 fd1 fm2 fd2 fm3 fd3 fm4 fd4 fm5 fd5:Nat) (w:World) :
  Calls Tryz.prog 104 #[.agg #[.int .i64 fu,.string (S fn),.int .i64 fca,.int .i64 fke,.int .i64 ftk,.string (S ftn),.string (S fun0),.bool fhd,.int .i64 fvk,.int .u64 fvx,.string (S fvt),.slice fr1 fm1 fd1,.slice fr2 fm2 fd2,.slice fr3 fm3 fd3,.slice fr4 fm4 fd4,.slice fr5 fm5 fd5]] w fun e w'=>e=.returned (.bool (decide (1<=fca/\fca<=5) && keyed fca fke))/\Below w.heap.size w w':=by
 have HV:=h_ (show(decide (1<=fca/\fca<=5) && keyed fca fke)=(decide (1<=fca/\fca<=5) && (if fca ≠ 5 then decide (fke=0)else decide (1<=fke/\fke<=7/\fke ≠ 6)))from rfl);generalize (decide (1<=fca/\fca<=5) && keyed fca fke)=R at HV
 go_enter Tryz.func104,Tryz.ntmps104
 by_cases h5:fca=5
 ·have q5:(fca != 5)=false:=by rw [h5];rfl
  have HR:=h_ (show R=decide (1<=fke/\fke<=7/\fke ≠ 6)by rw [HV.out,h5];simp);clear HV h5;go_wp2
  all_goals go_ret
  all_goals refine⟨qa3 ?_,Bel.out (by(repeat (first|(with_reducible assumption)|(with_reducible exact Bel.refl _)|(with_reducible refine Bel.drew ?_)|(with_reducible refine Bel.drewN ?_ _)|(with_reducible refine Bel.alloc ?_ _)|((with_reducible refine qa8 ?_ ?hge);(case hge=>(first|omega|(simp;omega)))))))⟩
  all_goals rw [HR.out,Bool.eq_iff_iff]
  all_goals simp
  all_goals (first|done|omega|(simp_all;done)|(simp_all;omega))
 ·have q5:(fca != 5)=true:=by rw [bne_iff_ne];exact h5
  have HR:=h_ (show R=(decide (1<=fca/\fca<=4) && decide (fke=0))by rw [HV.out,if_pos h5];congr 1;rw [decide_eq_decide];omega);clear HV;go_wp2
  all_goals go_ret
  all_goals refine⟨qa3 ?_,Bel.out (by(repeat (first|(with_reducible assumption)|(with_reducible exact Bel.refl _)|(with_reducible refine Bel.drew ?_)|(with_reducible refine Bel.drewN ?_ _)|(with_reducible refine Bel.alloc ?_ _)|((with_reducible refine qa8 ?_ ?hge);(case hge=>(first|omega|(simp;omega)))))))⟩
  all_goals rw [HR.out,Bool.eq_iff_iff]
  all_goals simp
  all_goals (first|done|omega|(simp_all;done)|(simp_all;omega))
theorem rk_typ (sq1 sq2 sq3:Option Addr) (sc1 sc2 sc3:Nat) (s:PSchema) (fu:Int) (fn:Str) (fca fke ftk:Int) (ftn fun0:Str) (fhd:Bool) (fvk fvx:Int) (fvt:Str) (fr1 fr2 fr3 fr4 fr5:Option Addr) (fm1 fd1 fm2 fd2 fm3 fd3 fm4 fd4 fm5 fd5:Nat) (nts:List PNote) (w:World) (hs:VSchema w [.slice sq1 s.msgs.length sc1,.slice sq2 s.enums.length sc2,.slice sq3 s.svcs.length sc3] s) :
  Calls Tryz.prog 105 #[.agg #[.slice sq1 s.msgs.length sc1,.slice sq2 s.enums.length sc2,.slice sq3 s.svcs.length sc3],.agg #[.int .i64 fu,.string (S fn),.int .i64 fca,.int .i64 fke,.int .i64 ftk,.string (S ftn),.string (S fun0),.bool fhd,.int .i64 fvk,.int .u64 fvx,.string (S fvt),.slice fr1 fm1 fd1,.slice fr2 fm2 fd2,.slice fr3 fm3 fd3,.slice fr4 fm4 fd4,.slice fr5 fm5 fd5]] w fun e w'=>e=.returned (.bool (typed s ⟨fu,fn,fca,fke,ftk,ftn,fun0,fhd,⟨fvk,fvx,fvt,fm1,fm2,fm3,fm4⟩,nts⟩))/\Below w.heap.size w w':=by
 have V:typed s ⟨fu,fn,fca,fke,ftk,ftn,fun0,fhd,⟨fvk,fvx,fvt,fm1,fm2,fm3,fm4⟩,nts⟩=if 1<=ftk/\ftk<=8 then decide (ftn=[])else if ftk=9 then(qc9 s ftn).isSome else if ftk=10 then(msgOf s ftn).isSome && decide (fca ≠ 3)else false:=rfl
 have hce:=fun W (k:Bel w W)=>qi7 sq1 sq2 sq3 sc1 sc2 sc3 s ftn W (hs.stays_bel k)
 have hcm:=fun W (k:Bel w W)=>qck sq1 sq2 sq3 sc1 sc2 sc3 s ftn W (hs.stays_bel k)
 have n1:=qlc (enOf s ftn);have n2:=qlc (idxOf s ftn);rw [qmg]at n1;rw [qch]at n2;have HV:=h_ V;clear V hs;generalize typed s ⟨fu,fn,fca,fke,ftk,ftn,fun0,fhd,⟨fvk,fvx,fvt,fm1,fm2,fm3,fm4⟩,nts⟩=R at HV;generalize idxI (enOf s ftn)=E at hce n1;generalize idxI (idxOf s ftn)=M at hcm n2;generalize (qc9 s ftn).isSome=eb at n1 HV;generalize (msgOf s ftn).isSome=mb at n2 HV;have CE:=h_ hce;have CM:=h_ hcm;have N1:=h_ n1;have N2:=h_ n2;clear hce hcm n1 n2
 go_enter Tryz.func105,Tryz.ntmps105
 by_cases h9:ftk=9
 ·have q9:(ftk == 9)=true:=by rw [h9];rfl
  have HR:=h_ (show R=eb by rw [HV.out,if_neg (by omega),if_pos h9]);clear HV h9
  go_wp2_with (go_at_call 144;(with_reducible refine(CE.out _ (by(with_reducible repeat first|assumption|exact Bel.refl _|refine Bel.drew ?_|refine Bel.drewN ?_ _|refine Bel.alloc ?_ _))).mono ?_);rintro e w1 ⟨rfl,g1⟩;have k1:Bel w w1:=Bel.of (by(with_reducible repeat first|assumption|exact Bel.refl _|refine Bel.drew ?_|refine Bel.drewN ?_ _|refine Bel.alloc ?_ _)) g1;clear g1)
  all_goals go_ret
  all_goals refine⟨qa3 ?_,k1.out⟩
  all_goals rw [HR.out,Bool.eq_iff_iff, ←N1.out]
  all_goals simp
 ·have q9:(ftk == 9)=false:=beq_eq_false_iff_ne.2 h9
  by_cases h10:ftk=10
  ·have q10:(ftk == 10)=true:=by rw [h10];rfl
   have HR:=h_ (show R=(mb && decide (fca ≠ 3))by rw [HV.out,if_neg (by omega),if_neg h9,if_pos h10]);clear HV h10
   go_wp2_with (go_at_call 111;(with_reducible refine(CM.out _ (by(with_reducible repeat first|assumption|exact Bel.refl _|refine Bel.drew ?_|refine Bel.drewN ?_ _|refine Bel.alloc ?_ _))).mono ?_);rintro e w1 ⟨rfl,g1⟩;have k1:Bel w w1:=Bel.of (by(with_reducible repeat first|assumption|exact Bel.refl _|refine Bel.drew ?_|refine Bel.drewN ?_ _|refine Bel.alloc ?_ _)) g1;obtain⟨hc,hf⟩:=bcell g1;have hz:=g1.size;simp at hz;have hx1:w.heap.size+1<w1.heap.size:=(by omega);have hy1:w.heap.size<w1.heap.size:=(by omega);clear g1)
   all_goals go_ret
   all_goals refine⟨qa3 ?_,k1.out⟩
   all_goals rw [HR.out,Bool.eq_iff_iff,Bool.and_eq_true, ←N2.out]
   all_goals simp
   all_goals (first|done|omega|(simp_all;done)|(simp_all;omega))
  ·have q10:(ftk == 10)=false:=beq_eq_false_iff_ne.2 h10
   have HR:=h_ (show R=(decide (1<=ftk/\ftk<=8) && decide (ftn=[]))by
    rw [HV.out,if_neg h9,if_neg h10];by_cases h:1<=ftk/\ftk<=8
    ·rw [if_pos h,decide_eq_true h,Bool.true_and]
    ·rw [if_neg h,decide_eq_false h,Bool.false_and])
   clear HV h9 h10;have hte:ftn=[] ∨ ftn ≠ []:=by by_cases h:ftn=[];exact .inl h;exact .inr h
   rcases hte with ht|ht
   ·subst ht
    have he:(S []).toList=[]:=qco [] rfl;have he2:(S []).toList.isEmpty=true:=by rw [he];rfl
    go_wp2
    all_goals go_ret
    all_goals refine⟨qa3 ?_,Bel.out (by(repeat (first|(with_reducible assumption)|(with_reducible exact Bel.refl _)|(with_reducible refine Bel.drew ?_)|(with_reducible refine Bel.drewN ?_ _)|(with_reducible refine Bel.alloc ?_ _)|((with_reducible refine qa8 ?_ ?hge);(case hge=>(first|omega|(simp;omega)))))))⟩
    all_goals rw [HR.out,Bool.eq_iff_iff]
    all_goals simp
    all_goals (first|done|omega|(simp_all;done)|(simp_all;omega))
   ·have he:=qb6 ftn ht
    have he2:=qaw ftn ht;have HR2:=h_ (show R=false by rw [HR.out,decide_eq_false ht,Bool.and_false]);clear HR ht;go_wp2
    all_goals go_ret
    all_goals refine⟨qa3 ?_,Bel.out (by(repeat (first|(with_reducible assumption)|(with_reducible exact Bel.refl _)|(with_reducible refine Bel.drew ?_)|(with_reducible refine Bel.drewN ?_ _)|(with_reducible refine Bel.alloc ?_ _)|((with_reducible refine qa8 ?_ ?hge);(case hge=>(first|omega|(simp;omega)))))))⟩
    all_goals rw [HR2.out]
    all_goals (first|rfl|(simp;done)|(simp_all;done))
theorem qcl (l:Str) (w:World) (hl:l.length<=1000000000000000) :
  Calls Tryz.prog 102 #[.string (S l)] w fun e w'=>e=.returned (.bool (qa7 l))/\Below w.heap.size w w':=by
 have HV:=h_ (show qa7 l=(Id.isPart l && !Id.isWord l)from rfl);have c1:=h_ (fun W=>qfb (S l) l W rfl (by rw [qai];exact hl));have c2:=h_ (fun W=>qi9 (S l) l W rfl);generalize qa7 l=R at HV;generalize Id.isPart l=P at c1 HV;generalize Id.isWord l=Q at c2 HV
 go_enter Tryz.func102,Tryz.ntmps102
 cases P
 all_goals
  go_wp2_with (first
   | (go_at_call 95;(with_reducible refine(c1.out _).mono ?_);rintro e w1 ⟨rfl,rfl⟩)
   | (go_at_call 143;(with_reducible refine(c2.out _).mono ?_);rintro e w2 ⟨rfl,rfl⟩))
  all_goals go_ret
  all_goals exact⟨qa3 (by rw [HV.out];simp),Below.refl _ _⟩
theorem qen (avk avx:Int) (avt:Str) (ar1 ar2 ar3 ar4:Option Addr) (am1 ad1 am2 ad2 am3 ad3 am4 ad4:Nat) (bvk bvx:Int) (bvt:Str) (br1 br2 br3 br4:Option Addr) (bm1 bd1 bm2 bd2 bm3 bd3 bm4 bd4:Nat) (w:World) (ha1:am1<=140737488355328) (ha2:am2<=140737488355328) (ha3:am3<=140737488355328) (ha4:am4<=140737488355328) (hb1:bm1<=140737488355328) (hb2:bm2<=140737488355328) (hb3:bm3<=140737488355328) (hb4:bm4<=140737488355328) :
  Calls Tryz.prog 145 #[.agg #[.int .i64 avk,.int .u64 avx,.string (S avt),.slice ar1 am1 ad1,.slice ar2 am2 ad2,.slice ar3 am3 ad3,.slice ar4 am4 ad4],.agg #[.int .i64 bvk,.int .u64 bvx,.string (S bvt),.slice br1 bm1 bd1,.slice br2 bm2 bd2,.slice br3 bm3 bd3,.slice br4 bm4 bd4]] w fun e w'=>e=.returned (.bool (decide (avk=bvk) && (decide (avx=bvx) && (decide (avt=bvt) && decide (am1+am2+am3+am4+bm1+bm2+bm3+bm4=0)))))/\Below w.heap.size w w':=by
 obtain⟨R,hR⟩ : ∃R,R=(decide (avk=bvk) && (decide (avx=bvx) && (decide (avt=bvt) && decide (am1+am2+am3+am4+bm1+bm2+bm3+bm4=0)))):=⟨_,rfl⟩;rw [←hR];have HV:=h_ hR;clear hR;have s0:IntKind.i64.wrap ((am1:Int)+(am2:Int))=(am1:Int)+(am2:Int):=IntWalk.i64_in _ (by omega);have s1:IntKind.i64.wrap ((am1:Int)+(am2:Int)+(am3:Int))=(am1:Int)+(am2:Int)+(am3:Int):=IntWalk.i64_in _ (by omega);have s2:IntKind.i64.wrap ((am1:Int)+(am2:Int)+(am3:Int)+(am4:Int))=(am1:Int)+(am2:Int)+(am3:Int)+(am4:Int):=IntWalk.i64_in _ (by omega);have s3:IntKind.i64.wrap ((am1:Int)+(am2:Int)+(am3:Int)+(am4:Int)+(bm1:Int))=(am1:Int)+(am2:Int)+(am3:Int)+(am4:Int)+(bm1:Int):=IntWalk.i64_in _ (by omega);have s4:IntKind.i64.wrap ((am1:Int)+(am2:Int)+(am3:Int)+(am4:Int)+(bm1:Int)+(bm2:Int))=(am1:Int)+(am2:Int)+(am3:Int)+(am4:Int)+(bm1:Int)+(bm2:Int):=IntWalk.i64_in _ (by omega);have s5:IntKind.i64.wrap ((am1:Int)+(am2:Int)+(am3:Int)+(am4:Int)+(bm1:Int)+(bm2:Int)+(bm3:Int))=(am1:Int)+(am2:Int)+(am3:Int)+(am4:Int)+(bm1:Int)+(bm2:Int)+(bm3:Int):=IntWalk.i64_in _ (by omega);have s6:IntKind.i64.wrap ((am1:Int)+(am2:Int)+(am3:Int)+(am4:Int)+(bm1:Int)+(bm2:Int)+(bm3:Int)+(bm4:Int))=(am1:Int)+(am2:Int)+(am3:Int)+(am4:Int)+(bm1:Int)+(bm2:Int)+(bm3:Int)+(bm4:Int):=IntWalk.i64_in _ (by omega)
 go_enter Tryz.func145,Tryz.ntmps145
 by_cases hk:avk=bvk
 ·have qk:(avk == bvk)=true:=by rw [hk];simp
  by_cases hx:avx=bvx
  ·have qx:(avx == bvx)=true:=by rw [hx];simp
   by_cases ht:avt=bvt
   ·have qt:((S avt).toList == (S bvt).toList)=true:=by rw [eq_S];exact decide_eq_true ht
    have HR:=h_ (show R=decide (am1+am2+am3+am4+bm1+bm2+bm3+bm4=0)by rw [HV.out,decide_eq_true hk,decide_eq_true hx,decide_eq_true ht];rfl);clear HV hk hx ht;go_wp2
    all_goals go_ret
    all_goals refine⟨qa3 ?_,Bel.out (by(repeat (first|(with_reducible assumption)|(with_reducible exact Bel.refl _)|(with_reducible refine Bel.drew ?_)|(with_reducible refine Bel.drewN ?_ _)|(with_reducible refine Bel.alloc ?_ _)|((with_reducible refine qa8 ?_ ?hge);(case hge=>(first|omega|(simp;omega)))))))⟩
    all_goals rw [HR.out,Bool.eq_iff_iff]
    all_goals simp
    all_goals omega
   ·have qt:((S avt).toList == (S bvt).toList)=false:=by rw [eq_S];exact decide_eq_false ht
    have HR:=h_ (show R=false by rw [HV.out,decide_eq_false ht,Bool.false_and,Bool.and_false,Bool.and_false]);clear HV hk hx ht;go_wp2
    all_goals go_ret
    all_goals exact⟨qa3 HR.out.symm,Bel.out (by(repeat (first|(with_reducible assumption)|(with_reducible exact Bel.refl _)|(with_reducible refine Bel.drew ?_)|(with_reducible refine Bel.drewN ?_ _)|(with_reducible refine Bel.alloc ?_ _)|((with_reducible refine qa8 ?_ ?hge);(case hge=>(first|omega|(simp;omega)))))))⟩
  ·have qx:(avx == bvx)=false:=beq_eq_false_iff_ne.2 hx
   have HR:=h_ (show R=false by rw [HV.out,decide_eq_false hx,Bool.false_and,Bool.and_false]);clear HV hk hx;go_wp2
   all_goals go_ret
   all_goals exact⟨qa3 HR.out.symm,Bel.out (by(repeat (first|(with_reducible assumption)|(with_reducible exact Bel.refl _)|(with_reducible refine Bel.drew ?_)|(with_reducible refine Bel.drewN ?_ _)|(with_reducible refine Bel.alloc ?_ _)|((with_reducible refine qa8 ?_ ?hge);(case hge=>(first|omega|(simp;omega)))))))⟩
 ·have qk:(avk == bvk)=false:=beq_eq_false_iff_ne.2 hk
  have HR:=h_ (show R=false by rw [HV.out,decide_eq_false hk,Bool.false_and]);clear HV hk;go_wp2
  all_goals go_ret
  all_goals exact⟨qa3 HR.out.symm,Bel.out (by(repeat (first|(with_reducible assumption)|(with_reducible exact Bel.refl _)|(with_reducible refine Bel.drew ?_)|(with_reducible refine Bel.drewN ?_ _)|(with_reducible refine Bel.alloc ?_ _)|((with_reducible refine qa8 ?_ ?hge);(case hge=>(first|omega|(simp;omega)))))))⟩
end
section
open Go.RowKit Ck
def refF (s:PSchema) (fin:List Bool) (f:PField):Bool:=if f.card=1/\f.tk=10 then(match idxOf s f.tn with|some k => !fin.getD k false|none=>false)else false
theorem qne (s:PSchema) (fin:List Bool) : ∀l:List PField,(((l.filter fun f=>decide (f.card=1/\f.tk=10)).map (·.tn)).any fun n=>match idxOf s n with|some k => !fin.getD k false|none=>false)=l.any (refF s fin)
 | []=>rfl
 | f :: r=>by
  have ih:=qne s fin r;rw [List.any_cons, ←ih,List.filter_cons];by_cases h:f.card=1/\f.tk=10
  ·rw [if_pos (by simpa using h),List.map_cons,List.any_cons]
   unfold refF;rw [if_pos h]
  ·rw [if_neg (by simpa using h)]
   unfold refF;rw [if_neg h,Bool.false_or]
theorem qj8 (s:PSchema) (m:PMsg) (fin:List Bool):qbf s m fin=m.fields.any (refF s fin):=qne s fin m.fields
theorem qjs {α:Type} (p:α->Bool) (l:List α) (k:Nat) (x:α) (h:l[k]? = some x):(l.drop k).any p=(p x || (l.drop (k+1)).any p):=by
 obtain⟨hk,rfl⟩:=List.getElem?_eq_some_iff.1 h;rw [List.drop_eq_getElem_cons hk,List.any_cons]
theorem refF_of {s:PSchema} {fin:List Bool} {f:PField} (h:f.card=1/\f.tk=10):refF s fin f=match idxOf s f.tn with|some k => !fin.getD k false|none=>false:=by unfold refF;rw [if_pos h]
theorem refF_not {s:PSchema} {fin:List Bool} {f:PField} (h : ¬(f.card=1/\f.tk=10)):refF s fin f=false:=by unfold refF;rw [if_neg h]
theorem qm8 (n i:Nat) (h:i<n):(List.range n).drop i=i :: (List.range n).drop (i+1):=by
 rw [List.drop_eq_getElem_cons (by simpa using h),List.getElem_range]
theorem qn4 (sq1 sq2 sq3:Option Addr) (sc1 sc2 sc3:Nat) (s:PSchema) (mq1 mq2 mq3 mq4:Option Addr) (mc1 mc2 mc3 mc4:Nat) (m:PMsg) (fin:List Bool) (Bf fc:Nat) (w:World) (hs:VSchema w [.slice sq1 s.msgs.length sc1,.slice sq2 s.enums.length sc2,.slice sq3 s.svcs.length sc3] s) (hm:VMsg w [.string (S m.name),.slice mq1 m.fields.length mc1,.slice mq2 m.res.length mc2,.slice mq3 m.gone.length mc3,.slice mq4 m.notes.length mc4] m) (hf:w.heap[Bf]? = some (.cells (fin.map Value.bool).toArray 4 (0,0))) (hfl:fin.length=s.msgs.length) :
  Calls Tryz.prog 100 #[.agg #[.slice sq1 s.msgs.length sc1,.slice sq2 s.enums.length sc2,.slice sq3 s.svcs.length sc3],.agg #[.string (S m.name),.slice mq1 m.fields.length mc1,.slice mq2 m.res.length mc2,.slice mq3 m.gone.length mc3,.slice mq4 m.notes.length mc4],.slice (some ⟨Bf,0,none⟩) s.msgs.length fc] w fun e w'=>e=.returned (.bool (qbf s m fin))/\Below w.heap.size w w':=by
 have hKB : ∀W',Bel ((w.alloc (.cells #[.slice sq1 s.msgs.length sc1,.slice sq2 s.enums.length sc2,.slice sq3 s.svcs.length sc3] 26)).alloc (.cells #[.string (S m.name),.slice mq1 m.fields.length mc1,.slice mq2 m.res.length mc2,.slice mq3 m.gone.length mc3,.slice mq4 m.notes.length mc4] 44)) W'->W'.cell? ⟨w.heap.size,0,none⟩=some (.slice sq1 s.msgs.length sc1)/\W'.cell? ⟨w.heap.size,1,none⟩=some (.slice sq2 s.enums.length sc2)/\W'.cell? ⟨w.heap.size,2,none⟩=some (.slice sq3 s.svcs.length sc3)/\W'.cell? ⟨(w.heap.size+1),0,none⟩=some (.string (S m.name))/\W'.cell? ⟨(w.heap.size+1),1,none⟩=some (.slice mq1 m.fields.length mc1)/\W'.cell? ⟨(w.heap.size+1),2,none⟩=some (.slice mq2 m.res.length mc2)/\W'.cell? ⟨(w.heap.size+1),3,none⟩=some (.slice mq3 m.gone.length mc3)/\W'.cell? ⟨(w.heap.size+1),4,none⟩=some (.slice mq4 m.notes.length mc4):=fun W' k=>by
  refine⟨k.some ?_,k.some ?_,k.some ?_,k.some ?_,k.some ?_,k.some ?_,k.some ?_,k.some ?_⟩
  all_goals first
   | (rw [World.cell?_alloc_at _ _ _ _ (by simp)];rfl)
   | (rw [World.cell?_alloc_past _ _ _ (by simp),World.cell?_alloc_at _ _ _ _ rfl];rfl)
 have KB:=h_ hKB;have kb:Bel w ((w.alloc (.cells #[.slice sq1 s.msgs.length sc1,.slice sq2 s.enums.length sc2,.slice sq3 s.svcs.length sc3] 26)).alloc (.cells #[.string (S m.name),.slice mq1 m.fields.length mc1,.slice mq2 m.res.length mc2,.slice mq3 m.gone.length mc3,.slice mq4 m.notes.length mc4] 44)):=((Bel.refl _).alloc _).alloc _;have CY:=h_ (fun W (k:Bel w W) (i:Nat) (hi:i<fin.length)=>(show W.cell? ⟨Bf,i,none⟩=some (.bool (fin.getD i false))from k.some (by rw [Lib.cell_of_heap hf];simp [List.getD,hi])));have CM:=h_ (fun(n:Str) W (k:Bel w W)=>qck sq1 sq2 sq3 sc1 sc2 sc3 s n W (hs.stays_bel k));obtain⟨_,_,_,hcs,hm1,_,_⟩:=id hs;cases hcs;have hsl:s.msgs.length<=140737488355328:=by obtain⟨_,_,_,h,_⟩:=hm1;exact h
 obtain⟨_,_,_,_,hcm,g1,_,_,_⟩:=id hm;cases hcm;have G1:=h_ g1;have hll:m.fields.length<=140737488355328:=by obtain⟨_,_,_,h,_⟩:=g1;exact h
 have HV:=h_ (show(m.fields.drop 0).any (refF s fin)=qbf s m fin by rw [qj8];rfl);generalize qbf s m fin=R at HV;clear hKB hf hs hm hm1 g1;obtain⟨c0,c1,c2,e0,e1,e2,e3,e4⟩:=KB.out _ (Bel.refl _)
 go_enter Tryz.func100,Tryz.ntmps100
 go_wp2
 go_loopw [7] (fun i wr => ∃k:Nat,k<=m.fields.length/\i=.int .i64 k/\Bel ((w.alloc (.cells #[.slice sq1 s.msgs.length sc1,.slice sq2 s.enums.length sc2,.slice sq3 s.svcs.length sc3] 26)).alloc (.cells #[.string (S m.name),.slice mq1 m.fields.length mc1,.slice mq2 m.res.length mc2,.slice mq3 m.gone.length mc3,.slice mq4 m.notes.length mc4] 44)) wr/\Hid ((m.fields.drop k).any (refF s fin)=R)) (fun i _=>m.fields.length-(intOf i).toNat)
 case atStart=>exact⟨0,by omega,rfl,Bel.refl _,HV⟩
 case round=>
  clear c0 c1 c2 e0 e1 e2 e3 e4;obtain⟨k,hk,rfl,kw,hgo⟩:=hrel;obtain⟨c0,c1,c2,e0,e1,e2,e3,e4⟩:=KB.out _ kw;have hw3:Bel w wr:=Bel.of kb kw.out;by_cases hlt:k<m.fields.length
  ·have hki:(k:Int)<(m.fields.length:Int):=by omega
   have hk0:(0:Int)<=(k:Int):=by omega
   have hg2:=List.getElem?_eq_getElem hlt;have hl3:=G1.out;obtain⟨qq3,cq3,hqe3,_,_,hel3⟩:=hl3;cases hqe3;obtain⟨b4,off4,hqq4,hbs4,cs4,hce4,hvs4⟩:=hel3 k _ hg2;have HST3:=h_ (show(refF s fin m.fields[k] || (m.fields.drop (k+1)).any (refF s fin))=R by rw [←hgo.out,qjs _ _ _ _ hg2]);obtain⟨_,_,hvv4,⟨r1,r2,r3,r4,d1,d2,d3,d4,hvv5,_⟩,hnt⟩:=hvs4;obtain⟨v1,z1,hnv,_⟩:=qa5 hnt;subst hvv4 hvv5 hnv;generalize m.fields[k]=f at *;have aE:=qas;obtain⟨K,hK⟩ : ∃K,K=16:=⟨_,rfl⟩;have zE : ∀w,(Go.sizeOf 63).run Tryz.prog w=.ok K w:=hK ▸ qal
   have l2:Sem.run Tryz.prog (loadCellsFrom ⟨b4,off4+k*K,none⟩ 0 K #[]) wr=.ok #[.int .i64 f.num,.string (S f.name),.int .i64 f.card,.int .i64 f.key,.int .i64 f.tk,.string (S f.tn),.string (S f.un),.bool f.hd,.int .i64 f.df.k,.int .u64 f.df.x,.string (S f.df.t),.slice r1 f.df.n1 d1,.slice r2 f.df.n2 d2,.slice r3 f.df.n3 d3,.slice r4 f.df.n4 d4,.slice v1 f.notes.length z1] wr:=run_loadCellsFrom_list Tryz.prog _ _ _ K hK.symm (fun i v hi=>by
    rw [hK,Addr.add_lit]
    exact hw3.some (hce4 i v hi))
   have HK:=h_ hK;subst hqq4;clear hK hce4 hg2 hnt hel3 hgo
   go_upto_region 5 with(fail)
   all_goals (first|(exfalso;exact absurd HK.out.symm (by assumption))|(have h16:16=K:=(by assumption);subst h16))
   clear l2 aE zE HK c0 c1 c2 e0 e1 e2 e3 e4;generalize hwF:World.alloc wr _=wF;have kF:Bel wr wF:=by rw [←hwF];exact(Bel.refl _).alloc _
   have x2:wF.cell? ⟨wr.heap.size,2,none⟩=some (.int .i64 f.card):=by rw [←hwF,World.cell?_alloc_at _ _ _ _ rfl];rfl
   have x4:wF.cell? ⟨wr.heap.size,4,none⟩=some (.int .i64 f.tk):=by rw [←hwF,World.cell?_alloc_at _ _ _ _ rfl];rfl
   have x5:wF.cell? ⟨wr.heap.size,5,none⟩=some (.string (S f.tn)):=by rw [←hwF,World.cell?_alloc_at _ _ _ _ rfl];rfl
   clear hwF;have kwF:Bel ((w.alloc (.cells #[.slice sq1 s.msgs.length sc1,.slice sq2 s.enums.length sc2,.slice sq3 s.svcs.length sc3] 26)).alloc (.cells #[.string (S m.name),.slice (some ⟨b4,off4,none⟩) m.fields.length mc1,.slice mq2 m.res.length mc2,.slice mq3 m.gone.length mc3,.slice mq4 m.notes.length mc4] 44)) wF:=Bel.of kw kF.out;have hwF:Bel w wF:=Bel.of hw3 kF.out;obtain⟨c0,c1,c2,e0,e1,e2,e3,e4⟩:=KB.out _ kwF;by_cases hb:f.card=1/\f.tk=10
   ·have q1:(f.card != 1)=false:=by rw [hb.1];rfl
    have q2:(f.tk != 10)=false:=by rw [hb.2];rfl
    have hRF:=refF_of (s:=s) (fin:=fin) hb;clear hb;cases hx:idxOf s f.tn with
    | none=>
     have CMx:=h_ (fun W (k:Bel w W)=>(show Calls Tryz.prog 111 #[.agg #[.slice sq1 s.msgs.length sc1,.slice sq2 s.enums.length sc2,.slice sq3 s.svcs.length sc3],.string (S f.tn)] W (fun e w'=>e=.returned (.int .i64 (-1))/\Below W.heap.size W w')by have h:=CM.out f.tn W k;rw [hx]at h;exact h));have HG:=h_ (show(m.fields.drop (k+1)).any (refF s fin)=R by rw [←HST3.out,hRF,hx,Bool.false_or]);clear hx hRF HST3
     go_wp2_with (go_at_call 111;(with_reducible refine(CMx.out _ hwF).mono ?_);rintro e w4 ⟨rfl,h4⟩;have k4:Bel wF w4:=Bel.of (Bel.refl _) h4;clear h4)
     exact⟨⟨k+1,by omega,by go_num,Bel.of kwF k4.out,HG⟩,by simp [intOf];omega⟩
    | some kx=>
     have CMx:=h_ (fun W (k:Bel w W)=>(show Calls Tryz.prog 111 #[.agg #[.slice sq1 s.msgs.length sc1,.slice sq2 s.enums.length sc2,.slice sq3 s.svcs.length sc3],.string (S f.tn)] W (fun e w'=>e=.returned (.int .i64 (kx:Int))/\Below W.heap.size W w')by have h:=CM.out f.tn W k;rw [hx]at h;exact h))
     have hkx:kx<s.msgs.length:=by
      obtain⟨mm,h1,_⟩:=qe5 hx;exact(List.getElem?_eq_some_iff.1 h1).1
     have HG:=h_ (show(!fin.getD kx false || (m.fields.drop (k+1)).any (refF s fin))=R by rw [←HST3.out,hRF,hx]);have CYx:=h_ (fun W (k:Bel w W)=>CY.out W k kx (by omega));have hx0:(0:Int)<=(kx:Int):=by omega
     have hx1:(kx:Int)<(s.msgs.length:Int):=by omega
     clear hx hRF HST3 hkx;generalize fin.getD kx false=bk at *;cases bk with
     | true=>
      go_wp2_with (go_at_call 111;(with_reducible refine(CMx.out _ hwF).mono ?_);rintro e w4 ⟨rfl,h4⟩;have k4:Bel wF w4:=Bel.of (Bel.refl _) h4;have y:=CYx.out _ (Bel.of hwF k4.out);clear h4)
      exact⟨⟨k+1,by omega,by go_num,Bel.of kwF k4.out,h_ (by have h:=HG.out;simpa using h)⟩,by simp [intOf];omega⟩
     | false=>
      have hR:=h_ (show true=R by have h:=HG.out;simpa using h);clear HG
      go_wp2_with (go_at_call 111;(with_reducible refine(CMx.out _ hwF).mono ?_);rintro e w4 ⟨rfl,h4⟩;have k4:Bel wF w4:=Bel.of (Bel.refl _) h4;have y:=CYx.out _ (Bel.of hwF k4.out);clear h4)
      go_ret;exact⟨qa3 hR.out,(Bel.of hwF k4.out).out⟩
   ·have HG:=h_ (show(m.fields.drop (k+1)).any (refF s fin)=R by rw [←HST3.out,refF_not hb,Bool.false_or])
    clear HST3
    have hq:((f.card != 1)=false/\(f.tk != 10)=true) ∨ (f.card != 1)=true:=by
     by_cases h1:f.card=1
     ·exact .inl ⟨by rw [h1];rfl,by rw [bne_iff_ne];exact fun h=>hb ⟨h1,h⟩⟩
     ·exact .inr (by rw [bne_iff_ne];exact h1)
    clear hb;rcases hq with⟨q1,q2⟩|q1
    all_goals
     go_wp2;exact⟨⟨k+1,by omega,by go_num,kwF,HG⟩,by simp [intOf];omega⟩
  ·have hki : ¬(k:Int)<(m.fields.length:Int):=by omega
   have hR:=h_ (show false=R by
    have:=hgo.out;rw [show k=m.fields.length by omega,List.drop_length]at this
    rw [←this];rfl)
   clear hgo;go_wp2;go_ret;exact⟨qa3 hR.out,hw3.out⟩
theorem qpv (sq1 sq2 sq3:Option Addr) (sc1 sc2 sc3:Nat) (s:PSchema) (w:World) (hs:VSchema w [.slice sq1 s.msgs.length sc1,.slice sq2 s.enums.length sc2,.slice sq3 s.svcs.length sc3] s) :
  Calls Tryz.prog 75 #[.agg #[.slice sq1 s.msgs.length sc1,.slice sq2 s.enums.length sc2,.slice sq3 s.svcs.length sc3]] w fun e w' => ∃Bf,e=.returned (.slice (some ⟨Bf,0,none⟩) s.msgs.length s.msgs.length)/\BitsAt w Bf (qbi s) w'/\(qbi s).length=s.msgs.length:=by
 have KB:=h_ (fun W' (k:Bel (w.alloc (.cells #[.slice sq1 s.msgs.length sc1,.slice sq2 s.enums.length sc2,.slice sq3 s.svcs.length sc3] 26)) W')=>show W'.cell? ⟨w.heap.size,0,none⟩=some (.slice sq1 s.msgs.length sc1)/\W'.cell? ⟨w.heap.size,1,none⟩=some (.slice sq2 s.enums.length sc2)/\W'.cell? ⟨w.heap.size,2,none⟩=some (.slice sq3 s.svcs.length sc3)from⟨k.some ((World.cell?_alloc_at _ _ _ _ rfl).trans rfl),k.some ((World.cell?_alloc_at _ _ _ _ rfl).trans rfl),k.some ((World.cell?_alloc_at _ _ _ _ rfl).trans rfl)⟩);have kb:Bel w (w.alloc (.cells #[.slice sq1 s.msgs.length sc1,.slice sq2 s.enums.length sc2,.slice sq3 s.svcs.length sc3] 26)):=(Bel.refl _).alloc _;have hs0:=hs;obtain⟨_,_,_,hcs,hm1,_,_⟩:=hs;cases hcs;have hsl:s.msgs.length<=140737488355328:=by obtain⟨_,_,_,h,_⟩:=hm1;exact h
 have HM1:=h_ hm1;have CN:=h_ (fun(mq1 mq2 mq3 mq4:Option Addr) (mc1 mc2 mc3 mc4:Nat) (m:PMsg) (fin:List Bool) (Bf fc:Nat) W (k:Bel w W)=>qn4 sq1 sq2 sq3 sc1 sc2 sc3 s mq1 mq2 mq3 mq4 mc1 mc2 mc3 mc4 m fin Bf fc W (hs0.stays_bel k));have hmk:=run_make_row' (P:=Tryz.prog) 134 4 (.bool false) 1 Tryz.underlying134 qr8 rfl .i64 .i64 s.msgs.length (by omega) (by omega);have HF0:=h_ (show(if true=true then qdz s (s.msgs.length-0) (List.replicate s.msgs.length false)else List.replicate s.msgs.length false)=qbi s from rfl);generalize qbi s=FT at HF0 ⊢;clear hm1 hs0;obtain⟨c0,c1,c2⟩:=KB.out _ (Bel.refl _)
 go_enter Tryz.func75,Tryz.ntmps75
 generalize hWB:(w.alloc (.cells #[.slice sq1 s.msgs.length sc1,.slice sq2 s.enums.length sc2,.slice sq3 s.svcs.length sc3] 26))=WB at KB kb c0 c1 c2
 (try rw [hWB])
 go_upto_region 2 with(fail)
 have hBS:=BitsAt.start (w0:=WB) (Bel.refl _) s.msgs.length;clear hmk c0 c1 c2;generalize World.alloc WB _=wb at *;obtain⟨Bf,hBf⟩ : ∃Bf,Bf=WB.heap.size:=⟨_,rfl⟩;rw [←hBf]at hBS;rw [←hBf];have hrl:(List.replicate s.msgs.length false).length=s.msgs.length:=List.length_replicate;have HBS:=h_ hBS;clear hBS hBf;obtain⟨c0,c1,c2⟩:=KB.out _ HBS.out.base;go_wp2
 go_loopw [4,5] (fun mo i wr => ∃(r:Nat) (fin:List Bool) (more:Bool),r<=s.msgs.length/\i=.int .i64 r/\mo=.bool more/\BitsAt WB Bf fin wr/\fin.length=s.msgs.length/\Hid ((if more=true then qdz s (s.msgs.length-r) fin else fin)=FT)) (fun _ i _=>s.msgs.length-(intOf i).toNat)
 case atStart=>exact⟨0,_,true,by omega,rfl,rfl,HBS.out,hrl,HF0⟩
 case round=>
  clear c0 c1 c2 hrl HF0 HBS;obtain⟨r,fin,more,hr,rfl,rfl,hB,hfl,hgo⟩:=hrel;obtain⟨c0,c1,c2⟩:=KB.out _ hB.base;by_cases hlt:r<s.msgs.length/\more=true
  ·obtain⟨hlt,hmo⟩:=hlt
   subst hmo;have hri:(r:Int)<(s.msgs.length:Int):=by omega
   obtain⟨R1,hR1⟩ : ∃R1,R1=qh5 s fin:=⟨_,rfl⟩
   have HG:=h_ (show(if R1.2=true then qdz s (s.msgs.length-(r+1)) R1.1 else R1.1)=FT by
    have h:=hgo.out;rw [if_pos rfl,show s.msgs.length-r=(s.msgs.length-(r+1))+1 by omega]at h;rw [hR1]
    exact h)
   have HR1:=h_ (show((List.range s.msgs.length).drop 0).foldl (rStep s) (fin,false)=R1 from hR1.symm);clear hR1 hgo;go_wp2
   go_loopw [4,6] (fun mo i wr => ∃(j:Nat) (fin2:List Bool) (mo2:Bool),j<=s.msgs.length/\i=.int .i64 j/\mo=.bool mo2/\BitsAt WB Bf fin2 wr/\fin2.length=s.msgs.length/\Hid (((List.range s.msgs.length).drop j).foldl (rStep s) (fin2,mo2)=R1)) (fun _ i _=>s.msgs.length-(intOf i).toNat)
   case atStart=>exact⟨0,fin,false,by omega,rfl,rfl,hB,hfl,HR1⟩
   case round=>
    clear c0 c1 c2 hB HR1 hfl;obtain⟨j,fin2,mo2,hj,rfl,rfl,hB2,hfl2,hgo2⟩:=hrel;obtain⟨c0,c1,c2⟩:=KB.out _ hB2.base;by_cases hlt2:j<s.msgs.length
    ·have hji:(j:Int)<(s.msgs.length:Int):=by omega
     have hj0:(0:Int)<=(j:Int):=by omega
     have hg:=List.getElem?_eq_getElem hlt2;have hl1:=HM1.out;obtain⟨qq1,cq1,hqe1,_,_,hel1⟩:=hl1;cases hqe1;obtain⟨b1',off1,hqq1,hbs1,cs1,hce1,hvs1⟩:=hel1 j _ hg;have hst:rStep s (fin2,mo2) j=if fin2.getD j false=false/\qbf s s.msgs[j] fin2=false then(fin2.set j true,true)else(fin2,mo2):=by unfold rStep;rw [hg]
     have HST:=h_ (show((List.range s.msgs.length).drop (j+1)).foldl (rStep s) (if fin2.getD j false=false/\qbf s s.msgs[j] fin2=false then(fin2.set j true,true)else(fin2,mo2))=R1 by
      have h:=hgo2.out;rw [qm8 _ _ hlt2,List.foldl_cons,hst]at h
      exact h)
     have HVM:=h_ hvs1;obtain⟨_,_,_,_,hvv1,g1,g2,g3,g4⟩:=hvs1;obtain⟨u1,y1,rfl,_⟩:=qa5 g1;obtain⟨u2,y2,rfl,_⟩:=qa5 g2;obtain⟨u3,y3,rfl,_⟩:=qa5 g3;obtain⟨u4,y4,rfl,_⟩:=qa5 g4;subst hvv1 hqq1;have hwr:Bel w wr:=Bel.of kb hB2.base.out;have e0:=hwr.some (hce1 0 _ rfl);rw [Nat.add_zero]at e0;have e1:=hwr.some (hce1 1 _ rfl);have e2:=hwr.some (hce1 2 _ rfl);have e3:=hwr.some (hce1 3 _ rfl);have e4:=hwr.some (hce1 4 _ rfl);have y:=hB2.cell j (by omega);clear hel1 hce1 hg hst hgo2 g1 g2 g3 g4;generalize s.msgs[j]=m at *;have CN2:=h_ (fun W (k:Bel wr W)=>CN.out u1 u2 u3 u4 y1 y2 y3 y4 m fin2 Bf s.msgs.length W (Bel.of hwr k.out) (VMsg.stays _ _ _ _ (Bel.of hwr k.out) HVM.out) (hB2.bel k).2.1 hfl2);generalize qbf s m fin2=NB at CN2 HST;generalize fin2.getD j false=bj at *
     go_upto_region 10 with(fail)
     have KS:=h_ (And.intro c0 (And.intro c1 (And.intro c2 (And.intro e0 (And.intro e1 (And.intro e2 (And.intro e3 (And.intro e4 y))))))));clear c0 c1 c2 e0 e1 e2 e3 e4 y;obtain⟨wd,hwd⟩ : ∃wd,wd=wr.drew:=⟨_,rfl⟩;have kd:Bel wr wd:=by rw [hwd];exact(Bel.refl _).drew
     have HWD:=h_ hwd;clear hwd;have c0:=kd.some KS.out.1;have c1:=kd.some KS.out.2.1;have c2:=kd.some KS.out.2.2.1;have e0:=kd.some KS.out.2.2.2.1;have e1:=kd.some KS.out.2.2.2.2.1;have e2:=kd.some KS.out.2.2.2.2.2.1;have e3:=kd.some KS.out.2.2.2.2.2.2.1;have e4:=kd.some KS.out.2.2.2.2.2.2.2.1;have y:=kd.some KS.out.2.2.2.2.2.2.2.2;have HBD:=h_ (hB2.bel kd);clear hB2;cases bj with
     | true=>
      have HN:=h_ (show((List.range s.msgs.length).drop (j+1)).foldl (rStep s) (fin2,mo2)=R1 by have h:=HST.out;rwa [if_neg (by simp)]at h);clear HST;refine qae 13 (by kernel_rfl) (by kernel_rfl) HWD.out ?_
      (simp only [t_1,t_2,t_3,t_4]);(repeat (first|((with_reducible refine wpStill_step (fun K hK=>?_));go_simp;(with_reducible refine hK _ ?_);clear hK K)|((with_reducible refine qaa ?_ ?_);(with_unfolding_all rfl))));(with_reducible refine wpStill_nil ?_)
      go_wp2;exact⟨⟨j+1,fin2,mo2,by omega,by go_num,rfl,HBD.out,hfl2,HN⟩,by simp [intOf];omega⟩
     | false=>
      cases NB with
      | true=>
       have HN:=h_ (show((List.range s.msgs.length).drop (j+1)).foldl (rStep s) (fin2,mo2)=R1 by have h:=HST.out;rwa [if_neg (by simp)]at h);clear HST;refine qae 13 (by kernel_rfl) (by kernel_rfl) HWD.out ?_
       (simp only [t_1,t_2,t_3,t_4]);(repeat (first|((with_reducible refine wpStill_step (fun K hK=>?_));go_simp;(with_reducible refine hK _ ?_);clear hK K)|((with_reducible refine qaa ?_ ?_);(with_unfolding_all rfl))));(with_reducible refine wpStill_nil ?_)
       go_wp2_with (go_at_call 100;(with_reducible refine(CN2.out _ kd).mono ?_);rintro e w4 ⟨rfl,h4⟩;have k4:Bel wd w4:=Bel.of (Bel.refl _) h4;clear h4)
       exact⟨⟨j+1,fin2,mo2,by omega,by go_num,rfl,HBD.out.bel k4,hfl2,HN⟩,by simp [intOf];omega⟩
      | false=>
       have HN:=h_ (show((List.range s.msgs.length).drop (j+1)).foldl (rStep s) (fin2.set j true,true)=R1 by have h:=HST.out;rwa [if_pos (by simp)]at h);clear HST;refine qae 13 (by kernel_rfl) (by kernel_rfl) HWD.out ?_
       (simp only [t_1,t_2,t_3,t_4]);(repeat (first|((with_reducible refine wpStill_step (fun K hK=>?_));go_simp;(with_reducible refine hK _ ?_);clear hK K)|((with_reducible refine qaa ?_ ?_);(with_unfolding_all rfl))));(with_reducible refine wpStill_nil ?_)
       go_wp2_with (go_at_call 100;(with_reducible refine(CN2.out _ kd).mono ?_);rintro e w4 ⟨rfl,h4⟩;have k4:Bel wd w4:=Bel.of (Bel.refl _) h4;have HB4:=h_ (HBD.out.bel k4);have y4:=HB4.out.cell j (by omega);have yf:=HB4.out.frozen j;clear h4)
       exact⟨⟨j+1,fin2.set j true,true,by omega,by go_num,rfl,HB4.out.set j _,by simpa using hfl2,HN⟩,by simp [intOf];omega⟩
    ·have hji : ¬(j:Int)<(s.msgs.length:Int):=by omega
     have hfR:(fin2,mo2)=R1:=by
      have h:=hgo2.out;rw [show j=s.msgs.length by omega,List.drop_eq_nil_of_le (by simp)]at h;exact h
     subst hfR;have HB2:=h_ hB2;clear hgo2 hB2;go_wp2;exact⟨⟨r+1,fin2,mo2,by omega,by go_num,rfl,HB2.out,hfl2,HG⟩,by simp [intOf];omega⟩
  ·have hfT:fin=FT:=by
    have h:=hgo.out;by_cases hm:more=true
    ·have hge : ¬ r<s.msgs.length:=fun h2=>hlt ⟨h2,hm⟩
     rw [if_pos hm,show s.msgs.length-r=0 by omega]at h;exact h
    ·rw [if_neg hm]at h
     exact h
   subst hfT;have HE:Hid (BitsAt w Bf fin wr):=h_ ⟨Nat.le_trans kb.size hB.1,hB.2.1,Bel.of kb hB.2.2.out⟩
   have hq : ¬((r:Int)<(s.msgs.length:Int)) ∨ ((r:Int)<(s.msgs.length:Int)/\more=false):=by
    by_cases h:r<s.msgs.length
    ·exact .inr ⟨by omega,by simpa [h]using hlt⟩
    ·exact .inl (by omega)
   clear hgo hB hlt;rcases hq with hq|⟨hq,hm⟩
   ·go_wp2
    all_goals go_ret
    all_goals (first|(exact⟨Bf,rfl,HE.out⟩)|(exact⟨Bf,rfl,HE.out,hfl⟩))
   ·subst hm
    go_wp2
    all_goals go_ret
    all_goals (first|(exact⟨Bf,rfl,HE.out⟩)|(exact⟨Bf,rfl,HE.out,hfl⟩))
end
end Go.Proofs.YtfoaaglbpmmhiaaGreatDoor
