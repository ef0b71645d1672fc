import Derived.Test.YtfoaaglbpmmhiaaGreatDoorKitR
import Derived.Test.YtfoaaglbpmmhiaaGreatDoorCkNote1
import Derived.Test.YtfoaaglbpmmhiaaGreatDoorCkFind
set_option maxRecDepth 100000
set_option maxHeartbeats 4000000
set_option linter.unusedVariables false
set_option linter.unusedSimpArgs false
namespace Go.Proofs.YtfoaaglbpmmhiaaGreatDoor
open Go.RowKit Ck
theorem sl_len {α:Type} {C:Nat} {E:World->Nat->Nat->α->Prop} {w:World} {q:Option Addr} {n c:Nat} {xs:List α} (h:Sl C E w (.slice q n c) xs):n=xs.length:=by
 obtain ⟨_,_,he,_⟩:=h;cases he;rfl
def ProbsOut (w:World) (ps:List PProb) (e:Ending) (w':World):Prop := ∃ v,e=.returned v/\w'.ownsRow w.heap.size 164 3 v ps.length (ps.flatMap probC)/\Below w.heap.size w w'
theorem own_lower {w:World} {B C:Nat} {e:TypeId} {z:Nat} {v:Value} {n:Nat} {xs:List Value} (h:w.ownsRow C e z v n xs) (hb:B<=C):w.ownsRow B e z v n xs:=by
 refine ⟨h.1,?_⟩;rcases h.2 with hn | ⟨g,cap,cur,h1,h2,rest⟩
 ·exact .inl hn
 ·exact .inr ⟨g,cap,cur,h1,Nat.le_trans hb h2,rest⟩
theorem FS.out {w0:World} {fb:Nat} {d:Str} {num:Int} {w:World} {bl:List (Nat × Array Value × TypeId)} {N:Nat} {ps:List PProb} {wx:World} (h:FS w0 fb d num w bl N ps wx) : ∃ v,wx.cell? ⟨fb,2,none⟩=some v/\wx.ownsRow w0.heap.size 164 3 v ps.length (ps.flatMap probC):=by
 obtain ⟨⟨hB,v,hb,hown,hne⟩,_⟩:=h;exact ⟨v,by rw [Lib.cell_of_heap hb];rfl,hown⟩
theorem FS.of_post {w0:World} {fb:Nat} {d:Str} {num n2:Int} {w:World} {bl:List (Nat × Array Value × TypeId)} {N N2:Nat} {ps ps2:List PProb} {wx w':World} {e:Ending} (h:FS w0 fb d num w bl N ps wx) (p:FdPost w0 fb d n2 ps2 wx e w') (hl:ps2.length<=N2):FS w0 fb d n2 w bl N2 ps2 w':=by
 obtain ⟨h1,h2,h3,h4,h5⟩:=h;obtain ⟨_,g1,g2,g3⟩:=p;refine ⟨g1,g2,h3.trans g3,hl,fun b hb => ?_⟩;obtain ⟨q1,q2,q3⟩:=h5 b hb;exact ⟨kept_cell g3 q1 (fun e => q2 (by injection e)) q3,q2,q3⟩
theorem FS.start (w a:World) (d:Str) (num:Int) (bl:List (Nat × Array Value × TypeId)) (hk:Bel w a) (hbl : ∀ b ∈ bl,a.heap[b.1]? = some (.cells b.2.1 b.2.2 (0,0))/\b.2.2 ≠ 164) :
  FS w a.heap.size d num w bl 0 [] (a.alloc (.cells #[.string (S d),.int .i64 num,.slice none 0 0] 141)):=by
 refine ⟨⟨hk.size,.slice none 0 0,heap_alloc_new _ _,⟨rfl,.inl ⟨rfl,rfl⟩⟩,by simp [Value.ownBlock]⟩,hk.alloc _,oth_bel (hk.alloc _),by simp,fun b hb => ?_⟩;obtain ⟨h1,h2⟩:=hbl b hb;have hlt:b.1 < a.heap.size:=(Array.getElem?_eq_some_iff.1 h1).1;exact ⟨(heap_alloc_old _ _ hlt).trans h1,by omega,h2⟩
theorem app_len {α:Type} {a b:List α} {n k:Nat} (h:a.length<=n) (h2:b.length<=k):(a ++ b).length<=n + k:=by rw [List.length_append];omega
theorem fieldP_len (s:PSchema) (m:PMsg) (i:Nat) (f:PField):(fieldP s m i f).length<=10:=by
 unfold fieldP noted;exact app_len (app_len (app_len (app_len (app_len (app_len (app_len (app_len (app_len (un_len _ _ _ _) (un_len _ _ _ _)) (un_len _ _ _ _)) (un_len _ _ _ _)) (un_len _ _ _ _)) (un_len _ _ _ _)) (un_len _ _ _ _)) (un_len _ _ _ _)) (un_len _ _ _ _)) (un_len _ _ _ _)
theorem spans_len (d:Str) (lo hi:Int) : ∀ (q:Option PSpan) (l:List PSpan),(spansGo d lo hi q l).length<=2 * l.length
 | q,[] => by rw [span_end];simp
 | q,p :: r => by
  have ih:=spans_len d lo hi (some p) r;rw [span_cons];unfold spanP;refine Nat.le_trans (app_len (app_len (un_len _ _ _ _) (un_len _ _ _ _)) ih) ?_;rw [List.length_cons];omega
def goneP (d:Str) (l:List Str):List PProb:=l.flatMap fun g => un d (-1) (decide (Utf.bad g < 0)) 7
theorem goneP_cons (d:Str) (g:Str) (l:List Str):goneP d (g :: l)=un d (-1) (decide (Utf.bad g < 0)) 7 ++ goneP d l:=rfl
end Go.Proofs.YtfoaaglbpmmhiaaGreatDoor
namespace Go.Proofs.YtfoaaglbpmmhiaaGreatDoor
open Go.RowKit Ck
theorem ck_usablePart (s:Str) (w:World) (hs:s.length<=1000000000000000) :
  Calls Tryz.prog 124 #[.string (S s)] w fun e w' => e=.returned (.bool (usablePart s))/\Below w.heap.size w w':=by
 have cp:=Lib.hid (id_IsPart (S s) s w rfl (by rw [S_size];exact hs));have cw:=Lib.hid (fun W => id_IsWord (S s) s W rfl);have hv:usablePart s=(Id.isPart s && !Id.isWord s):=rfl;have HV:=Lib.hid hv;clear hv;generalize Id.isWord s=Q at *;cases hR:Id.isPart s <;> rw [hR] at cp HV <;> clear hR
 all_goals
  go_enter Tryz.func124,Tryz.ntmps124
  go_wp2_with (first
   | (go_at_call 61;(with_reducible refine cp.out.mono ?_);rintro e w1 ⟨rfl,h1⟩)
   | (go_at_call 155;(with_reducible refine (cw.out _).mono ?_);rintro e w2 ⟨rfl,rfl⟩))
  go_ret
  exact ⟨ret_bool HV.out.symm,h1⟩
theorem ck_usableName (s:Str) (w:World) (hs:s.length<=100000000) (hM:ML w) :
  Calls Tryz.prog 118 #[.string (S s)] w fun e w' => e=.returned (.bool (usableName s))/\Below w.heap.size w w':=by
 have cp:=Lib.hid (id_IsFull (S s) s w rfl (by rw [S_size];exact hs) hM);have csp:=Lib.hid (fun (W:World) (hb:Below w.heap.size w W) => id_split (S s) 46 s W rfl (by rw [S_size];omega) (hM.below hb));have hcut : ∀ p ∈ Id.cut 46 s,p.length<=s.length:=fun p hp => cut_len 46 s p hp
 have hmany:=cut_many 46 s;have hv:usableName s=(Id.isFull s && !(Id.cut 46 s).any Id.isWord):=rfl
 have hcc : ∀ W:World,Calls Tryz.prog 112 #[.slice (some ⟨W.heap.size,0,none⟩) (Id.cut 46 s).length (Id.cut 46 s).length,.func (.func 155) #[] #[]] (W.alloc (.cells ((Id.cut 46 s).map strV).toArray 9)) fun e w' => e=.returned (.bool ((Id.cut 46 s).any Id.isWord))/\Below (W.alloc (.cells ((Id.cut 46 s).map strV).toArray 9)).heap.size (W.alloc (.cells ((Id.cut 46 s).map strV).toArray 9)) w':=fun W => by
  refine cf_Str _ _ (enters_of Tryz.func155 (by kernel_rfl) rfl) _ (Id.cut 46 s) _ _ ⟨_,_,rfl,by omega,by omega,fun i x hx => ⟨W.heap.size,0,rfl,by simp,[.string (S x)],?_,rfl⟩⟩ (fun x W2 _ _ => ?_)
  ·intro j v hj
   have hj0:j=0:=by
    cases j with
    | zero => rfl
    | succ j => simp at hj
   subst hj0;simp at hj;subst hj;rw [Nat.zero_add,Nat.mul_one,Nat.add_zero];exact piece_cell W _ _ i x hx
  ·refine (id_IsWord (S x) x W2 rfl).mono ?_
   rintro e w' ⟨rfl,rfl⟩;exact ⟨rfl,Below.refl _ _⟩
 clear hcut hmany;generalize Id.cut 46 s=P at csp hv hcc;generalize Id.isFull s=R at cp hv;have HV:=Lib.hid hv;have cc:=Lib.hid hcc;clear hv hcc hM;generalize hQ:P.any Id.isWord=Q at cc HV;clear hQ;have hst:(strV:List UInt8->Value)=strV:=rfl;cases R with
 | false =>
  go_enter Tryz.func118,Tryz.ntmps118
  go_wp2_with (go_at_call 154;(with_reducible refine cp.out.mono ?_);rintro e w1 ⟨rfl,h1⟩)
  go_ret
  exact ⟨ret_bool HV.out.symm,h1⟩
 | true =>
  go_enter Tryz.func118,Tryz.ntmps118
  go_wp2_with (first
   | (go_at_call 154;(with_reducible refine cp.out.mono ?_);rintro e w1 ⟨rfl,h1⟩;have k1:Bel w w1:=h1)
   | (go_at_call 60;(with_reducible refine (csp.out _ h1).mono ?_);rintro e w2 ⟨rfl,hw2⟩;(subst hw2);have k2:=Bel.alloc k1 (.cells (P.map strV).toArray 9))
   | (go_at_call 112;(with_reducible refine (cc.out _).mono ?_);rintro e w3 ⟨rfl,h3⟩))
  go_ret
  exact ⟨ret_bool HV.out.symm,Bel.out (Bel.of k2 h3)⟩
end Go.Proofs.YtfoaaglbpmmhiaaGreatDoor
namespace Go.Proofs.YtfoaaglbpmmhiaaGreatDoor
open Go.RowKit Ck
theorem ck_zero (k x:Int) (t:Str) (p1 p2 p3 p4:Option Addr) (n1 n2 n3 n4 q1 q2 q3 q4:Nat) (w:World) (b1:n1<=140737488355328) (b2:n2<=140737488355328) (b3:n3<=140737488355328) (b4:n4<=140737488355328) :
  Calls Tryz.prog 194 #[.agg #[.int .i64 k,.int .u64 x,.string (S t),.slice p1 n1 q1,.slice p2 n2 q2,.slice p3 n3 q3,.slice p4 n4 q4]] w fun e w' => e=.returned (.bool (zeroV ⟨k,x,t,n1,n2,n3,n4⟩))/\Below w.heap.size w w':=by
 have hv:zeroV ⟨k,x,t,n1,n2,n3,n4⟩=decide (k=0/\x=0/\t=[]/\n1 + n2 + n3 + n4=0):=rfl;have HV:=Lib.hid hv;clear hv;generalize zeroV ⟨k,x,t,n1,n2,n3,n4⟩=R at HV;by_cases hk:k=0
 ·by_cases hx:x=0
  ·by_cases ht:t=[]
   ·have H2:=Lib.hid (show R=decide (((n1:Int) + n2 + n3 + n4:Int)=0) by rw [HV.out,Bool.eq_iff_iff,decide_eq_true_iff,decide_eq_true_iff];simp only [hk,hx,ht,true_and];omega)
    clear HV;subst ht hk hx;have he:(S []).toList=[]:=empty_S [] rfl;have he2:(S []).toList.isEmpty=true:=by rw [he];rfl
    go_enter Tryz.func194,Tryz.ntmps194
    go_wp2
    all_goals go_ret
    all_goals exact ⟨ret_bool (by rw [H2.out];rfl),(Below.refl _ _).alloc (Nat.le_refl _) _⟩
   ·have H2:=Lib.hid (show R=false by rw [HV.out];exact decide_eq_false (fun h => ht h.2.2.1))
    have he:=nonempty_S t ht;have he2:=nonempty_S' t ht;clear HV ht;subst hk hx
    go_enter Tryz.func194,Tryz.ntmps194
    go_wp2
    all_goals go_ret
    all_goals exact ⟨ret_bool H2.out.symm,(Below.refl _ _).alloc (Nat.le_refl _) _⟩
  ·have H2:=Lib.hid (show R=false by rw [HV.out];exact decide_eq_false (fun h => hx h.2.1))
   have he:=ine hx;clear HV hx;subst hk
   go_enter Tryz.func194,Tryz.ntmps194
   go_wp2
   all_goals go_ret
   all_goals exact ⟨ret_bool H2.out.symm,(Below.refl _ _).alloc (Nat.le_refl _) _⟩
 ·have H2:=Lib.hid (show R=false by rw [HV.out];exact decide_eq_false (fun h => hk h.1))
  have he:=ine hk;clear HV hk
  go_enter Tryz.func194,Tryz.ntmps194
  go_wp2
  all_goals go_ret
  all_goals exact ⟨ret_bool H2.out.symm,(Below.refl _ _).alloc (Nat.le_refl _) _⟩
end Go.Proofs.YtfoaaglbpmmhiaaGreatDoor
namespace Go.Proofs.YtfoaaglbpmmhiaaGreatDoor
open Go.RowKit Ck
def FoundMsg (r:Option PMsg) (w:World) (e:Ending) (w':World):Prop:=
 ∃ rn:Str, ∃ rq1 rq2 rq3 rq4:Option Addr, ∃ rm1 rm2 rm3 rm4 rc1 rc2 rc3 rc4:Nat,e=.returned (.tuple #[.agg #[.string (S rn),.slice rq1 rm1 rc1,.slice rq2 rm2 rc2,.slice rq3 rm3 rc3,.slice rq4 rm4 rc4],.bool r.isSome])/\(∀ x,r=some x->VMsg w [.string (S rn),.slice rq1 rm1 rc1,.slice rq2 rm2 rc2,.slice rq3 rm3 rc3,.slice rq4 rm4 rc4] x)/\Below w.heap.size w w'
theorem VSchema.stays_bel {w w2:World} {vs:List Value} {s:PSchema} (h:VSchema w vs s) (k:Bel w w2):VSchema w2 vs s:=VSchema.stays w w2 vs s k h
theorem ck_message2 (mv ev sv:Value) (s:PSchema) (name:Str) (w:World) (hv:VSchema w [mv,ev,sv] s) :
  Calls Tryz.prog 115 #[.agg #[mv,ev,sv],.string (S name)] w (FoundMsg (msgOf s name) w):=by
 refine (ck_message mv ev sv s name w hv).mono ?_;rintro e w' ⟨vs,rfl,h1,h2⟩;unfold FoundMsg;cases hr:msgOf s name with
 | none =>
  rw [hr] at h1;simp only at h1;subst h1;exact ⟨[],none,none,none,none,0,0,0,0,0,0,0,0,rfl,(fun x hx => by cases hx),h2⟩
 | some x =>
  rw [hr] at h1;simp only at h1;have h1':=h1;obtain ⟨v1,v2,v3,v4,rfl,g1,g2,g3,g4⟩:=h1;obtain ⟨x1,y1,rfl,_⟩:=sl_form g1;obtain ⟨x2,y2,rfl,_⟩:=sl_form g2;obtain ⟨x3,y3,rfl,_⟩:=sl_form g3;obtain ⟨x4,y4,rfl,_⟩:=sl_form g4;exact ⟨_,_,_,_,_,_,_,_,_,_,_,_,_,rfl,(fun z hz => by cases hz;exact h1'),h2⟩
def FoundEnum (r:Option PEnum) (w:World) (e:Ending) (w':World):Prop:=
 ∃ rn:Str, ∃ rop:Bool, ∃ rq1 rq2 rq3:Option Addr, ∃ rm1 rm2 rm3 rc1 rc2 rc3:Nat,e=.returned (.tuple #[.agg #[.string (S rn),.bool rop,.slice rq1 rm1 rc1,.slice rq2 rm2 rc2,.slice rq3 rm3 rc3],.bool r.isSome])/\(∀ x,r=some x->VEnum w [.string (S rn),.bool rop,.slice rq1 rm1 rc1,.slice rq2 rm2 rc2,.slice rq3 rm3 rc3] x)/\Below w.heap.size w w'
theorem ck_enum2 (mv ev sv:Value) (s:PSchema) (name:Str) (w:World) (hv:VSchema w [mv,ev,sv] s) :
  Calls Tryz.prog 191 #[.agg #[mv,ev,sv],.string (S name)] w (FoundEnum (enumOf s name) w):=by
 refine (ck_enum mv ev sv s name w hv).mono ?_;rintro e w' ⟨vs,rfl,h1,h2⟩;unfold FoundEnum;cases hr:enumOf s name with
 | none =>
  rw [hr] at h1;simp only at h1;subst h1;exact ⟨[],false,none,none,none,0,0,0,0,0,0,rfl,(fun x hx => by cases hx),h2⟩
 | some x =>
  rw [hr] at h1;simp only at h1;have h1':=h1;obtain ⟨v1,v2,v3,rfl,g1,g2,g3⟩:=h1;obtain ⟨x1,y1,rfl,_⟩:=sl_form g1;obtain ⟨x2,y2,rfl,_⟩:=sl_form g2;obtain ⟨x3,y3,rfl,_⟩:=sl_form g3;exact ⟨_,_,_,_,_,_,_,_,_,_,_,rfl,(fun z hz => by cases hz;exact h1'),h2⟩
theorem ck_typed (sq1 sq2 sq3:Option Addr) (sm1 sm2 sm3 sc1 sc2 sc3:Nat) (s:PSchema) (fu:Int) (fn:Str) (fca fke ftk:Int) (ftn fun0:Str) (fhd:Bool) (fvk fvx:Int) (fvt:Str) (fr1 fr2 fr3 fr4 fr5:Option Addr) (fm1 fd1 fm2 fd2 fm3 fd3 fm4 fd4 fm5 fd5:Nat) (nts:List PNote) (w:World) (hv:VSchema w [.slice sq1 sm1 sc1,.slice sq2 sm2 sc2,.slice sq3 sm3 sc3] s) :
  Calls Tryz.prog 159 #[.agg #[.slice sq1 sm1 sc1,.slice sq2 sm2 sc2,.slice sq3 sm3 sc3],.agg #[.int .i64 fu,.string (S fn),.int .i64 fca,.int .i64 fke,.int .i64 ftk,.string (S ftn),.string (S fun0),.bool fhd,.int .i64 fvk,.int .u64 fvx,.string (S fvt),.slice fr1 fm1 fd1,.slice fr2 fm2 fd2,.slice fr3 fm3 fd3,.slice fr4 fm4 fd4,.slice fr5 fm5 fd5]] w fun e w' => e=.returned (.bool (typed s ⟨fu,fn,fca,fke,ftk,ftn,fun0,fhd,⟨fvk,fvx,fvt,fm1,fm2,fm3,fm4⟩,nts⟩))/\Below w.heap.size w w':=by
 have V:typed s ⟨fu,fn,fca,fke,ftk,ftn,fun0,fhd,⟨fvk,fvx,fvt,fm1,fm2,fm3,fm4⟩,nts⟩=if 1<=ftk/\ftk<=8 then decide (ftn=[]) else if ftk=9 then (enumOf s ftn).isSome else if ftk=10 then (msgOf s ftn).isSome && decide (fca ≠ 3) else false:=rfl
 have ce:=Lib.hid (fun W (k:Bel w W) => ck_enum2 _ _ _ s ftn W (hv.stays_bel k));have cm:=Lib.hid (fun W (k:Bel w W) => ck_message2 _ _ _ s ftn W (hv.stays_bel k));have HV:=Lib.hid V;clear V hv;generalize typed s ⟨fu,fn,fca,fke,ftk,ftn,fun0,fhd,⟨fvk,fvx,fvt,fm1,fm2,fm3,fm4⟩,nts⟩=R at HV;generalize enumOf s ftn=E at ce HV;generalize msgOf s ftn=M at cm HV;by_cases h1:1<=ftk/\ftk<=8
 ·have H:=Lib.hid (show R=decide (ftn=[]) by rw [HV.out,if_pos h1])
  obtain ⟨h1a,h1b⟩:=h1;clear HV;by_cases ht:ftn=[]
  ·have H2:=Lib.hid (show R=true by rw [H.out];exact decide_eq_true ht)
   clear H;subst ht;have he:(S []).toList=[]:=empty_S [] rfl;have he2:(S []).toList.isEmpty=true:=by rw [he];rfl
   go_enter Tryz.func159,Tryz.ntmps159
   go_wp2
   all_goals go_ret
   all_goals exact ⟨ret_bool H2.out.symm,Bel.out (by (repeat (first | (with_reducible assumption) | (with_reducible exact Bel.refl _) | (with_reducible refine Bel.drew ?_) | (with_reducible refine Bel.drewN ?_ _) | (with_reducible refine Bel.alloc ?_ _) | ((with_reducible refine bel_set ?_ ?hge);(case hge => (first | omega | (simp;omega)))))))⟩
  ·have H2:=Lib.hid (show R=false by rw [H.out];exact decide_eq_false ht)
   have he:=nonempty_S ftn ht;have he2:=nonempty_S' ftn ht;clear H ht
   go_enter Tryz.func159,Tryz.ntmps159
   go_wp2
   all_goals go_ret
   all_goals exact ⟨ret_bool H2.out.symm,Bel.out (by (repeat (first | (with_reducible assumption) | (with_reducible exact Bel.refl _) | (with_reducible refine Bel.drew ?_) | (with_reducible refine Bel.drewN ?_ _) | (with_reducible refine Bel.alloc ?_ _) | ((with_reducible refine bel_set ?_ ?hge);(case hge => (first | omega | (simp;omega)))))))⟩
 ·by_cases h9:ftk=9
  ·have H:=Lib.hid (show R=E.isSome by rw [HV.out,if_neg h1,if_pos h9])
   clear HV h1;subst h9
   go_enter Tryz.func159,Tryz.ntmps159
   go_wp2_with (go_at_call 191;(with_reducible refine (ce.out _ (by (repeat (first | (with_reducible assumption) | (with_reducible exact Bel.refl _) | (with_reducible refine Bel.drew ?_) | (with_reducible refine Bel.drewN ?_ _) | (with_reducible refine Bel.alloc ?_ _) | ((with_reducible refine bel_set ?_ ?hge);(case hge => (first | omega | (simp;omega)))))))).mono ?_);rintro e w1 ⟨ja,jb,jc,jd,je,jf,jg,jh,ji,jj,jk,rfl,_,g1⟩;have k1:Bel w w1:=Bel.of (by (repeat (first | (with_reducible assumption) | (with_reducible exact Bel.refl _) | (with_reducible refine Bel.drew ?_) | (with_reducible refine Bel.drewN ?_ _) | (with_reducible refine Bel.alloc ?_ _) | ((with_reducible refine bel_set ?_ ?hge);(case hge => (first | omega | (simp;omega))))))) g1;clear g1)
   go_ret
   exact ⟨ret_bool H.out.symm,Bel.out (by (repeat (first | (with_reducible assumption) | (with_reducible exact Bel.refl _) | (with_reducible refine Bel.drew ?_) | (with_reducible refine Bel.drewN ?_ _) | (with_reducible refine Bel.alloc ?_ _) | ((with_reducible refine bel_set ?_ ?hge);(case hge => (first | omega | (simp;omega)))))))⟩
  ·by_cases h10:ftk=10
   ·have H:=Lib.hid (show R=(M.isSome && decide (fca ≠ 3)) by rw [HV.out,if_neg h1,if_neg h9,if_pos h10])
    clear HV h1 h9;subst h10;cases hQ:M.isSome
    all_goals
     have H3:=Lib.hid (show R=_ by rw [H.out,hQ])
     go_enter Tryz.func159,Tryz.ntmps159
     go_wp2_with (go_at_call 115;(with_reducible refine (cm.out _ (by (repeat (first | (with_reducible assumption) | (with_reducible exact Bel.refl _) | (with_reducible refine Bel.drew ?_) | (with_reducible refine Bel.drewN ?_ _) | (with_reducible refine Bel.alloc ?_ _) | ((with_reducible refine bel_set ?_ ?hge);(case hge => (first | omega | (simp;omega)))))))).mono ?_);rintro e w1 ⟨ja,jb,jc,jd,je,jf,jg,jh,ji,jj,jk,jl,jm,rfl,_,g1⟩;have k1:Bel w w1:=Bel.of (by (repeat (first | (with_reducible assumption) | (with_reducible exact Bel.refl _) | (with_reducible refine Bel.drew ?_) | (with_reducible refine Bel.drewN ?_ _) | (with_reducible refine Bel.alloc ?_ _) | ((with_reducible refine bel_set ?_ ?hge);(case hge => (first | omega | (simp;omega))))))) g1;obtain ⟨hc,hf⟩:=bcell g1;have hz:=g1.size;simp at hz;have hx1:w.heap.size + 1 < w1.heap.size:=(by omega);have hy1:w.heap.size < w1.heap.size:=(by omega);clear g1)
     go_ret
     exact ⟨ret_bool (by rw [H3.out];first | rfl | (simp;done) | (rw [Bool.eq_iff_iff];simp)),Bel.out (by (repeat (first | (with_reducible assumption) | (with_reducible exact Bel.refl _) | (with_reducible refine Bel.drew ?_) | (with_reducible refine Bel.drewN ?_ _) | (with_reducible refine Bel.alloc ?_ _) | ((with_reducible refine bel_set ?_ ?hge);(case hge => (first | omega | (simp;omega)))))))⟩
   ·have H:=Lib.hid (show R=false by rw [HV.out,if_neg h1,if_neg h9,if_neg h10])
    have h9':=ine h9;have h10':=ine h10;have hout:ftk < 1 ∨ 8 < ftk:=by omega
    clear HV h1 h9 h10;rcases hout with ho | ho
    all_goals
     go_enter Tryz.func159,Tryz.ntmps159
     go_wp2
     all_goals go_ret
     all_goals exact ⟨ret_bool H.out.symm,Bel.out (by (repeat (first | (with_reducible assumption) | (with_reducible exact Bel.refl _) | (with_reducible refine Bel.drew ?_) | (with_reducible refine Bel.drewN ?_ _) | (with_reducible refine Bel.alloc ?_ _) | ((with_reducible refine bel_set ?_ ?hge);(case hge => (first | omega | (simp;omega)))))))⟩
end Go.Proofs.YtfoaaglbpmmhiaaGreatDoor
