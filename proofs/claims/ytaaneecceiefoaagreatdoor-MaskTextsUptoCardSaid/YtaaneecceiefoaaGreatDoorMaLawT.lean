import Derived.Test.YtaaneecceiefoaaGreatDoorMzPaths
import Derived.Test.YtaaneecceiefoaaGreatDoorMaPaths
import Derived.Test.YtaaneecceiefoaaGreatDoorMaFind
import Derived.Test.YtaaneecceiefoaaGreatDoorMaEnvD
import Derived.Test.YtaaneecceiefoaaGreatDoorMaDPath
import Derived.Test.YtaaneecceiefoaaGreatDoorMaParse
import Derived.Test.YtaaneecceiefoaaGreatDoorMaAwake
set_option maxRecDepth 100000
set_option maxHeartbeats 4000000
set_option linter.unusedVariables false
set_option linter.unusedSimpArgs false
namespace Go.Proofs.YtaaneecceiefoaaGreatDoor
open Go.RowKit Ck Ma
theorem rm_Text (n:Nat) (A:Nat->Prop) (mv ev sv:Value) (s:PSchema) (name:Str) (v:Value) (l:List PMask) (w0:World) (hs:VSchema w0 [mv,ev,sv] s) (hl:MaskD A (n+1) w0 v l) (hE:(envOf s).Ok) (hMo:(qa4 s).Ok (envOf s)) (hnm : ∀m ∈ s.msgs, ∀f ∈ m.fields,f.name.length<=1000000) (hn:(n+1)*2000000<=1000000000000000) (hg:(glue 44 ((textN (envOf s) (qa4 s) (n+1) name l).map (glue 46))).length<=140737488355328) :
  Calls Tryz.prog 16 #[.agg #[mv,ev,sv],.string (S name),v] w0 fun e w'=>e=.returned (.string (S (text (envOf s) (qa4 s) (n+1) name l)))/\Bel w0 w':=by
 have hck:=qdi (E:=envOf s) (n+1) name l hl.dp;have CC:=Lib.hid (fun W (k:Bel w0 W)=>qfj n A mv ev sv s name v l W (VSchema.staysB hs k) (hl.bel k));have htr : ∀hN:Nm (envOf s) (n+1) name l,textR (envOf s) (qa4 s) (n+1) name [] l=glue 44 ((textN (envOf s) (qa4 s) (n+1) name l).map (glue 46)):=fun hN=>qlv hE hMo (n+1) hN
 have CPt:=Lib.hid (fun W (k:Bel w0 W) hN=>show Calls Tryz.prog 42 #[.agg #[mv,ev,sv],.string (S name),.string (S []),v] W fun e w'=>e=.returned (.string (S (glue 44 ((textN (envOf s) (qa4 s) (n+1) name l).map (glue 46)))))/\Bel W w' from by
  have:=qmb n A mv ev sv s name [] v l W (VSchema.staysB hs k) (hl.bel k) hN (by rw [htr hN];omega) hnm (by simpa using hn)
  rwa [htr hN]at this)
 have htx:text (envOf s) (qa4 s) (n+1) name l=if chk (envOf s) (n+1) name l ≠ 0 then []else glue 44 ((textN (envOf s) (qa4 s) (n+1) name l).map (glue 46)):=rfl
 generalize text (envOf s) (qa4 s) (n+1) name l=R at htx;generalize glue 44 ((textN (envOf s) (qa4 s) (n+1) name l).map (glue 46))=G at htx CPt;generalize chk (envOf s) (n+1) name l=RC at htx CC hck;obtain⟨mp,mc,rfl⟩:=hl.form;obtain⟨_,_,_,he,hm,hev,hsv⟩:=hs;cases he;obtain⟨q2,c2,rfl,hl2⟩:=qa5 hev;obtain⟨q3,c3,rfl,hl3⟩:=qa5 hsv;obtain⟨q1,c1,rfl,hl1⟩:=qa5 hm;clear hm hev hsv;have hS0:=Lib.hid ((ST.start w0).addbox #[.slice q1 s.msgs.length c1,.slice q2 s.enums.length c2,.slice q3 s.svcs.length c3] 26);clear hl hnm hn htr hg hE hMo;by_cases h0:RC=0
 ·subst h0
  rw [if_neg (by simp)]at htx;subst htx;have CP2:=Lib.hid (fun W k=>CPt.out W k (hck.1 rfl));clear hck CPt
  go_enter Tryz.func16,Tryz.ntmps16
  go_wp2_with (first
   | (go_at_call 10;(with_reducible refine(CC.out _ hS0.out.bel).mono ?_);rintro e w1 ⟨rfl,k1⟩;have k1:Bel _ w1:=k1;have H1:=Lib.hid (hS0.out.belw k1);have t0:=H1.out.cell 0 rfl 0;have t1:=H1.out.cell 0 rfl 1;have t2:=H1.out.cell 0 rfl 2;dsimp only at t0 t1 t2;clear k1)
   | (go_at_call 42;(refine(CP2.out _ H1.out.bel).mono ?_);rintro e w2 ⟨rfl,k2⟩;have k2:Bel _ w2:=k2;have K2:=Lib.hid (Bel.of H1.out.bel k2);clear k2))
  go_ret;exact⟨rfl,K2.out⟩
 ·rw [if_pos h0]at htx
  subst htx;have hb:(RC != 0)=true:=bne_t h0;clear h0 hck CPt
  go_enter Tryz.func16,Tryz.ntmps16
  go_wp2_with (go_at_call 10;(with_reducible refine(CC.out _ hS0.out.bel).mono ?_);rintro e w1 ⟨rfl,k1⟩;have k1:Bel _ w1:=k1;have H1:=Lib.hid (hS0.out.belw k1);clear k1)
  go_ret;exact⟨rfl,H1.out.bel⟩
end Go.Proofs.YtaaneecceiefoaaGreatDoor
namespace Go.Proofs.YtaaneecceiefoaaGreatDoor.Ma
open Ck
theorem Nm.up {E:Env} : ∀{n:Nat} {nm:List UInt8} {l:List PMask},Nm E n nm l->Nm E (n+1) nm l
 | 0,nm,l,h=>by
  obtain⟨h1,rfl⟩:=h;exact Nm.nil h1 1
 | n+1,nm,l,h=>⟨h.1,h.2.1,fun x hx=>by
  obtain⟨f,hf,hs⟩:=h.2.2 x hx
  exact⟨f,hf,hs.imp id (fun g=>⟨g.1,g.2.up⟩)⟩⟩
theorem Nm.le {E:Env} {n m:Nat} {nm:List UInt8} {l:List PMask} (h:Nm E n nm l) (hm:n<=m):Nm E m nm l:=by
 induction hm with
 | refl=>exact h
 | step _ ih=>exact ih.up
theorem uniA_eq {f g:List PMask->List PMask->List PMask} {a b:List PMask} (h : ∀x ∈ a, ∀y ∈ b,f x.subs y.subs=g x.subs y.subs):qb8 f a b=qb8 g a b:=by
 unfold qb8
 congr 1
 refine List.map_congr_left fun x hx=>?_
 unfold uniA;cases hy:find b x.num with
 | none=>rfl
 | some y=>
  show joinF f x y=joinF g x y
  unfold joinF;rw [h x hx y (qas hy).1]
theorem qlp : ∀(n:Nat) {a b:List PMask},Dp n a->Dp n b->union (n+1) a b=union n a b
 | 0,a,b,ha,hb=>by
  have h1:a=[]:=ha;have h2:b=[]:=hb;subst h1 h2;rfl
 | n+1,a,b,ha,hb=>by
  show isort (qb8 (union (n+1)) a b)=isort (qb8 (union n) a b)
  rw [uniA_eq fun x hx y hy=>qlp n (ha x hx) (hb y hy)]
theorem union_le {n m:Nat} {a b:List PMask} (ha:Dp n a) (hb:Dp n b) (hm:n<=m):union m a b=union n a b:=by
 induction hm with
 | refl=>rfl
 | step h ih=>rw [qlp _ (ha.le h) (hb.le h),ih]
theorem qhu {E:Env} {M:Names} (hM:M.Ok E) {n m:Nat} (hm:n<=m) {nm:List UInt8} : ∀(l:List (List UInt8)) (acc:List PMask),(∀t ∈ l,t.length+1<=n)->Nm E n nm acc->qc5 E M m nm acc l=qc5 E M n nm acc l
 | [],acc,_,_=>rfl
 | t :: r,acc,hl,ha=>by
  unfold qc5
  split
  ·rfl
  ·rename_i h1
   have h1':(pathM E M nm t).1=0:=by simpa using h1
   have hp:=path_nm hM (hl t (List.mem_cons_self ..)) h1';rw [union_le ha.srt.dp hp.srt.dp hm];exact qhu hM hm r _ (fun x hx=>hl x (List.mem_cons_of_mem _ hx)) (qil n ha hp)
theorem parse_le {E:Env} {M:Names} (hM:M.Ok E) {n m:Nat} {nm t:List UInt8} (hn:t.length+1<=n) (hm:n<=m):parse E M m nm t=parse E M n nm t:=by
 unfold parse
 split
 ·rfl
 ·rename_i h1
  split
  ·rfl
  ·split
   ·rfl
   ·have hh:E.has nm=true:=by simpa using h1
    exact qhu hM hm _ [] (fun p hp=>by have:=qc1 44 t p hp;omega) (Nm.nil hh n)
theorem qlw {E:Env} {M:Names} : ∀(n:Nat) {nm:List UInt8} {l:List PMask},Dp n l->textN E M (n+1) nm l=textN E M n nm l
 | 0,nm,l,h=>by
  have h1:l=[]:=h;subst h1;rfl
 | n+1,nm,l,h=>by
  show l.flatMap _=l.flatMap _
  rw [List.flatMap_def,List.flatMap_def]
  congr 1
  refine List.map_congr_left fun x hx=>?_
  show(if whole x then [[M.name nm x.num]]else(textN E M (n+1) (E.ty nm x.num) x.subs).map (M.name nm x.num :: ·))=_
  rw [qlw n (h x hx)]
theorem qly {E:Env} {M:Names} {n m:Nat} {nm:List UInt8} {l:List PMask} (h:Dp n l) (hm:n<=m):textN E M m nm l=textN E M n nm l:=by
 induction hm with
 | refl=>rfl
 | step g ih=>rw [qlw _ (h.le g),ih]
theorem qlt {E:Env} {M:Names} {n:Nat} {nm:List UInt8} {l:List PMask} (h:Nm E n nm l):text E M n nm l=glue 44 ((textN E M n nm l).map (glue 46)):=by
 unfold text;rw [if_neg (fun h'=>h' ((qdi n nm l h.srt.dp).2 h))]
theorem text_le {E:Env} {M:Names} {n m:Nat} {nm:List UInt8} {l:List PMask} (h:Nm E n nm l) (hm:n<=m):text E M m nm l=text E M n nm l:=by
 rw [qlt (h.le hm),qlt h,qly h.srt.dp hm]
theorem qdu {E:Env} {M:Names} : ∀(n:Nat) {nm:List UInt8} {l:List PMask},(textN E M n nm l).length=cnt n l
 | 0,_,_=>rfl
 | n+1,nm,l=>by
  show(l.flatMap _).length=cntGo (cnt n) l
  induction l with
  | nil=>rfl
  | cons x r ih=>
   rw [List.flatMap_cons,List.length_append,ih];show _=(if whole x then 1 else cnt n x.subs)+cntGo (cnt n) r
   congr 1
   split
   ·rfl
   ·rw [List.length_map,qdu n]
theorem ql5 {E:Env} {M:Names} (hE:E.Ok) (hM:M.Ok E) {n:Nat} {nm:List UInt8} {l:List PMask} (h:Nm E n nm l) (hl:cnt n l<=32):parse E M ((text E M n nm l).length+2) nm (text E M n nm l)=(0,l):=by
 obtain⟨K,hK⟩ : ∃K,K=max n ((text E M n nm l).length+2):=⟨_,rfl⟩;have h1:n<=K:=by omega
 have h2:(text E M n nm l).length+2<=K:=by omega
 have hk:=qmw hE hM (h.le h1) (by rw [←qkp, ←qdu (E:=E) (M:=M) (nm:=nm),qly h.srt.dp h1,qdu];exact hl);rw [text_le h h1]at hk;rw [←hk];exact(parse_le hM (by omega) h2).symm
theorem qjd {c:UInt8} {B:Nat} : ∀L:List (List UInt8),(∀p ∈ L,p.length<=B)->(glue c L).length<=L.length*(B+1)
 | [],_=>by simp [glue]
 | [a],h=>by
  have:=h a (List.mem_cons_self ..);show a.length<=1*(B+1)
  omega
 | a :: b :: r,h=>by
  have h1:=h a (List.mem_cons_self ..);have h2:=qjd (c:=c) (b :: r) (fun p hp=>h p (List.mem_cons_of_mem _ hp));show(a ++ c :: glue c (b :: r)).length<=_
  rw [List.length_append,List.length_cons,List.length_cons (a:=a),Nat.add_mul];omega
theorem qlx {E:Env} {M:Names} : ∀(n:Nat) {nm:List UInt8} {l:List PMask}, ∀q ∈ textN E M n nm l,q ≠ []/\q.length<=n
 | 0,_,_,q,hq=>(by cases hq)
 | n+1,nm,l,q,hq=>by
  obtain⟨x,_,hx⟩:=List.mem_flatMap.1 hq
  split at hx
  ·rw [List.mem_singleton]at hx
   subst hx;exact⟨by simp,by simp⟩
  ·obtain⟨r,hr,rfl⟩:=List.mem_map.1 hx
   have:=(qlx n r hr).2;exact⟨by simp,by rw [List.length_cons];omega⟩
theorem qhi {E:Env} {M:Names} {B:Nat} (hB : ∀nm k,(M.name nm k).length<=B) : ∀(n:Nat) {nm:List UInt8} {l:List PMask}, ∀q ∈ textN E M n nm l, ∀p ∈ q,p.length<=B
 | 0,_,_,q,hq=>(by cases hq)
 | n+1,nm,l,q,hq=>by
  obtain⟨x,_,hx⟩:=List.mem_flatMap.1 hq
  split at hx
  ·rw [List.mem_singleton]at hx
   subst hx;intro p hp;rw [List.mem_singleton]at hp;subst hp;exact hB _ _
  ·obtain⟨r,hr,rfl⟩:=List.mem_map.1 hx
   intro p hp;rcases List.mem_cons.1 hp with rfl|hp
   ·exact hB _ _
   ·exact qhi hB n r hr p hp
theorem qlu {E:Env} {M:Names} {B n C:Nat} {nm:List UInt8} {l:List PMask} (hB : ∀nm k,(M.name nm k).length<=B) (hc:cnt n l<=C):(glue 44 ((textN E M n nm l).map (glue 46))).length<=C*(n*(B+1)+1):=by
 refine Nat.le_trans (qjd (B:=n*(B+1)) _ fun p hp=>?_) ?_
 ·obtain⟨q,hq,rfl⟩:=List.mem_map.1 hp
  exact Nat.le_trans (qjd q (qhi hB n q hq)) (Nat.mul_le_mul_right _ (qlx n q hq).2)
 ·rw [List.length_map,qdu]
  exact Nat.mul_le_mul_right _ hc
theorem name_40 {s:PSchema} (h:valid s=true):(∀m ∈ s.msgs, ∀f ∈ m.fields,f.name.length<=40)/\∀nm k,((qa4 s).name nm k).length<=40:=by
 have h1 : ∀m ∈ s.msgs, ∀f ∈ m.fields,f.name.length<=40:=fun m hm f hf=>by
  obtain⟨i,_,ho⟩:=ok_of h hm hf;have hp:Id.isPart f.name=true:=ho.part;unfold Id.isPart at hp;rw [Bool.and_eq_true,decide_eq_true_iff]at hp;exact hp.2.2
 refine⟨h1,fun nm k=>?_⟩;show((((msgOf s nm).bind fun m=>qai m k).map (·.name)).getD []).length<=40
 cases hg:(msgOf s nm).bind fun m=>qai m k with
 | none=>simp
 | some g=>
  obtain⟨m,hm,hg⟩:=Option.bind_eq_some_iff.1 hg;exact h1 m (qd1 hm) g (qde hg).1
end Go.Proofs.YtaaneecceiefoaaGreatDoor.Ma
namespace Go.Proofs.YtaaneecceiefoaaGreatDoor
open Go.RowKit Ck Ma
theorem qfw (q1 q2 q3:Option Addr) (c1 c2 c3:Nat) (s:PSchema) (name:Str) (n:Nat) (mp:Option Addr) (mc:Nat) (m:List PMask) (w0:World) (hs:VSchema w0 [.slice q1 s.msgs.length c1,.slice q2 s.enums.length c2,.slice q3 s.svcs.length c3] s) (hQ:qch s) (hf:fewB s=false) :
  Calls Tryz.prog 5 #[.agg #[.slice q1 s.msgs.length c1,.slice q2 s.enums.length c2,.slice q3 s.svcs.length c3],.string (S name),.slice mp m.length mc] w0 fun e w'=>e=.returned (.bool true)/\Bel w0 w':=by
 have HS:=Lib.hid ((ST.start w0).addbox #[.slice q1 s.msgs.length c1,.slice q2 s.enums.length c2,.slice q3 s.svcs.length c3] 26);have CF:=qfv q1 q2 q3 c1 c2 c3 s (w0.alloc (.cells #[.slice q1 s.msgs.length c1,.slice q2 s.enums.length c2,.slice q3 s.svcs.length c3] 26)) (VSchema.stays _ _ _ _ HS.out.bel hs) hQ;rw [hf]at CF;have CF:=Lib.hid CF;clear hs hQ hf
 go_enter Tryz.func5,Tryz.ntmps5
 go_wp2_with (go_at_call 8;(with_reducible refine CF.out.mono ?_);rintro e w1 ⟨rfl,k1⟩;have k1:Bel _ w1:=k1;have H1:=Lib.hid (HS.out.belw k1);clear k1)
 go_ret;exact⟨rfl,H1.out.bel⟩
theorem qf1 (q1 q2 q3:Option Addr) (c1 c2 c3:Nat) (s:PSchema) (name:Str) (n:Nat) (mp:Option Addr) (mc:Nat) (m:List PMask) (w0:World) (hs:VSchema w0 [.slice q1 s.msgs.length c1,.slice q2 s.enums.length c2,.slice q3 s.svcs.length c3] s) (hQ:qch s) (hm:MaskD (fun b=>b<w0.heap.size) (n+1) w0 (.slice mp m.length mc) m) (hM:ML w0) (hcnt:cnt (n+1) m<=1048576) (hn:n+1<=524288) (hf:fewB s=true) :
  Calls Tryz.prog 5 #[.agg #[.slice q1 s.msgs.length c1,.slice q2 s.enums.length c2,.slice q3 s.svcs.length c3],.string (S name),.slice mp m.length mc] w0 fun e w'=>e=.returned (.bool true)/\Bel w0 w':=by
 have hv:valid s=true:=by unfold fewB at hf;rw [Bool.and_eq_true]at hf;exact hf.2
 have hE:=env_ok hv;have hMo:=qn3 hv;obtain⟨h40,h41⟩:=name_40 hv;have hnm : ∀m ∈ s.msgs, ∀f ∈ m.fields,f.name.length<=1000000:=fun m hm f hf=>Nat.le_trans (h40 m hm f hf) (by decide)
 have hn2:(n+1)*2000000<=1000000000000000:=by omega
 have hg:(glue 44 ((textN (envOf s) (qa4 s) (n+1) name m).map (glue 46))).length<=140737488355328:=Nat.le_trans (qlu (C:=1048576) h41 hcnt) (by omega);have HS:=Lib.hid ((ST.start w0).addbox #[.slice q1 s.msgs.length c1,.slice q2 s.enums.length c2,.slice q3 s.svcs.length c3] 26);have CF:=qfv q1 q2 q3 c1 c2 c3 s (w0.alloc (.cells #[.slice q1 s.msgs.length c1,.slice q2 s.enums.length c2,.slice q3 s.svcs.length c3] 26)) (VSchema.stays _ _ _ _ HS.out.bel hs) hQ;rw [hf]at CF;have CF:=Lib.hid CF;have CT:=Lib.hid (fun W (k:Bel w0 W)=>mk_Text n _ _ _ _ s name _ m W (VSchema.stays _ _ _ _ k hs) (hm.bel k) (by rw [qdu];exact hcnt) hnm hn2 hg);have CRT:=Lib.hid (fun W (k:Bel w0 W)=>rm_Text n _ _ _ _ s name _ m W (VSchema.stays _ _ _ _ k hs) (hm.bel k) hE hMo hnm hn2 hg);have CRC:=Lib.hid (fun W (k:Bel w0 W)=>qfj n _ _ _ _ s name _ m W (VSchema.stays _ _ _ _ k hs) (hm.bel k));have CPt:=Lib.hid (fun W (k:Bel w0 W)=>qmd n _ _ m W (hm.bel k) (Nat.le_trans hcnt (by decide)));have CA:=Lib.hid (fun W (k:Bel w0 W)=>qh0 W (hM.below k));have hck:=qdi (E:=envOf s) (n+1) name m hm.dp;by_cases h0:chk (envOf s) (n+1) name m=0
 ·have hN:=hck.1 h0
  have htn:=qlt (M:=qa4 s) hN;rw [h0]at CRC;have CRC:=Lib.hid CRC.out;by_cases h32:cnt (n+1) m<=32
  ·have htl:(text (envOf s) (qa4 s) (n+1) name m).length<=1000000000:=by
    rw [htn];exact Nat.le_trans (qlu (C:=32) h41 h32) (by omega)
   have CP0:=fun W (k:Bel w0 W)=>qj5 _ _ _ s name (text (envOf s) (qa4 s) (n+1) name m) W (VSchema.stays _ _ _ _ k hs) (hM.below k) htl
   rw [ql5 hE hMo hN h32]at CP0;unfold qez at CP0;have CP:=Lib.hid CP0;have CSa:=Lib.hid (fun W v6 (k:Bel w0 W) (A2:Nat->Prop) (h6:MaskD A2 ((text (envOf s) (qa4 s) (n+1) name m).length+2) W v6 m)=>qf5 (MaskD.le (hm.bel k) (Nat.le_add_right (n+1) ((text (envOf s) (qa4 s) (n+1) name m).length+2))) (MaskD.le h6 (Nat.le_add_left _ (n+1))));generalize text (envOf s) (qa4 s) (n+1) name m=Z at CT CRT CP CSa;generalize Z.length+2=D at CP CSa;have hg32 : ¬(32:Int)<((cnt (n+1) m:Nat):Int):=by omega
   generalize cnt (n+1) m=K at CPt hg32;clear hs hQ hf hm hM hE hMo h40 h41 hnm hn2 hg hcnt hn hck h0 hN htn htl CP0 h32 hv
   go_enter Tryz.func5,Tryz.ntmps5
   go_upto_region 3 with(go_at_call 8;(with_reducible refine CF.out.mono ?_);rintro e w1 ⟨rfl,k1⟩;have k1:Bel _ w1:=k1;have H1:=Lib.hid (HS.out.belw k1);clear k1)
   have t0:=H1.out.cell 0 rfl 0;have t1:=H1.out.cell 0 rfl 1;have t2:=H1.out.cell 0 rfl 2;dsimp only at t0 t1 t2
   go_wp2_with (first
    | (go_at_call 15;(with_reducible refine(CT.out _ H1.out.bel).mono ?_);rintro e w2 ⟨rfl,k2⟩;have k2:Bel _ w2:=k2;have T2:=Lib.hid (H1.out.belw k2);clear t0 t1 t2;have t0:=T2.out.cell 0 rfl 0;have t1:=T2.out.cell 0 rfl 1;have t2:=T2.out.cell 0 rfl 2;dsimp only at t0 t1 t2;clear k2)
    | (go_at_call 16;(with_reducible refine(CRT.out _ T2.out.bel).mono ?_);rintro e w3 ⟨rfl,k3⟩;have k3:Bel _ w3:=k3;have T3:=Lib.hid (T2.out.belw k3);clear t0 t1 t2;have t0:=T3.out.cell 0 rfl 0;have t1:=T3.out.cell 0 rfl 1;have t2:=T3.out.cell 0 rfl 2;dsimp only at t0 t1 t2;clear k3)
    | (go_at_call 10;(with_reducible refine(CRC.out _ T3.out.bel).mono ?_);rintro e w4 ⟨rfl,k4⟩;have k4:Bel _ w4:=k4;have T4:=Lib.hid (T3.out.belw k4);clear t0 t1 t2;have t0:=T4.out.cell 0 rfl 0;have t1:=T4.out.cell 0 rfl 1;have t2:=T4.out.cell 0 rfl 2;dsimp only at t0 t1 t2;clear k4)
    | (go_at_call 17;(with_reducible refine(CPt.out _ T4.out.bel).mono ?_);rintro e w5 ⟨rfl,k5⟩;have k5:Bel _ w5:=k5;have T5:=Lib.hid (T4.out.belw k5);clear t0 t1 t2;have t0:=T5.out.cell 0 rfl 0;have t1:=T5.out.cell 0 rfl 1;have t2:=T5.out.cell 0 rfl 2;dsimp only at t0 t1 t2;clear k5)
    | (go_at_call 12;(with_reducible refine(CP.out _ T5.out.bel).mono ?_);rintro e w6 ⟨v6,rfl,h6,k6⟩;have k6:Bel _ w6:=k6;have T6:=Lib.hid (T5.out.belw k6);have h6:MaskD _ _ _ v6 m:=h6;have CS:=Lib.hid (CSa.out _ _ T6.out.bel _ h6);obtain⟨p6,c6,hv6⟩:=MaskD.form h6;subst hv6;clear k6 h6)
    | (go_at_call 14;(with_reducible refine CS.out.mono ?_);rintro e w7 ⟨rfl,k7⟩;have k7:Bel _ w7:=k7;have T7:=Lib.hid (T6.out.belw k7);clear k7)
    | (go_at_call 11;(with_reducible refine(CA.out _ T7.out.bel).mono ?_);rintro e w8 ⟨rfl,k8⟩;have k8:Bel _ w8:=k8;have T8:=Lib.hid (T7.out.belw k8);clear k8))
   go_ret;exact⟨by simp,T8.out.bel⟩
  ·have hg32:(32:Int)<((cnt (n+1) m:Nat):Int):=by omega
   generalize cnt (n+1) m=K at CPt hg32;generalize text (envOf s) (qa4 s) (n+1) name m=Z at CT CRT;clear hs hQ hf hm hM hE hMo h40 h41 hnm hn2 hg hcnt hn hck h0 hN htn h32 hv
   go_enter Tryz.func5,Tryz.ntmps5
   go_upto_region 3 with(go_at_call 8;(with_reducible refine CF.out.mono ?_);rintro e w1 ⟨rfl,k1⟩;have k1:Bel _ w1:=k1;have H1:=Lib.hid (HS.out.belw k1);clear k1)
   have t0:=H1.out.cell 0 rfl 0;have t1:=H1.out.cell 0 rfl 1;have t2:=H1.out.cell 0 rfl 2;dsimp only at t0 t1 t2
   go_wp2_with (first
    | (go_at_call 15;(with_reducible refine(CT.out _ H1.out.bel).mono ?_);rintro e w2 ⟨rfl,k2⟩;have k2:Bel _ w2:=k2;have T2:=Lib.hid (H1.out.belw k2);clear t0 t1 t2;have t0:=T2.out.cell 0 rfl 0;have t1:=T2.out.cell 0 rfl 1;have t2:=T2.out.cell 0 rfl 2;dsimp only at t0 t1 t2;clear k2)
    | (go_at_call 16;(with_reducible refine(CRT.out _ T2.out.bel).mono ?_);rintro e w3 ⟨rfl,k3⟩;have k3:Bel _ w3:=k3;have T3:=Lib.hid (T2.out.belw k3);clear t0 t1 t2;have t0:=T3.out.cell 0 rfl 0;have t1:=T3.out.cell 0 rfl 1;have t2:=T3.out.cell 0 rfl 2;dsimp only at t0 t1 t2;clear k3)
    | (go_at_call 10;(with_reducible refine(CRC.out _ T3.out.bel).mono ?_);rintro e w4 ⟨rfl,k4⟩;have k4:Bel _ w4:=k4;have T4:=Lib.hid (T3.out.belw k4);clear t0 t1 t2;have t0:=T4.out.cell 0 rfl 0;have t1:=T4.out.cell 0 rfl 1;have t2:=T4.out.cell 0 rfl 2;dsimp only at t0 t1 t2;clear k4)
    | (go_at_call 17;(with_reducible refine(CPt.out _ T4.out.bel).mono ?_);rintro e w5 ⟨rfl,k5⟩;have k5:Bel _ w5:=k5;have T5:=Lib.hid (T4.out.belw k5);clear t0 t1 t2;have t0:=T5.out.cell 0 rfl 0;have t1:=T5.out.cell 0 rfl 1;have t2:=T5.out.cell 0 rfl 2;dsimp only at t0 t1 t2;clear k5)
    | (go_at_call 11;(with_reducible refine(CA.out _ T5.out.bel).mono ?_);rintro e w6 ⟨rfl,k6⟩;have k6:Bel _ w6:=k6;have T6:=Lib.hid (T5.out.belw k6);clear k6))
   go_ret;exact⟨rfl,T6.out.bel⟩
 ·generalize text (envOf s) (qa4 s) (n+1) name m=Z at CT CRT
  generalize chk (envOf s) (n+1) name m=RC at CRC h0;have hb:(RC != 0)=true:=bne_t h0;clear hs hQ hf hm hM hE hMo h40 h41 hnm hn2 hg hcnt hn hck h0 hv CPt
  go_enter Tryz.func5,Tryz.ntmps5
  go_upto_region 3 with(go_at_call 8;(with_reducible refine CF.out.mono ?_);rintro e w1 ⟨rfl,k1⟩;have k1:Bel _ w1:=k1;have H1:=Lib.hid (HS.out.belw k1);clear k1)
  have t0:=H1.out.cell 0 rfl 0;have t1:=H1.out.cell 0 rfl 1;have t2:=H1.out.cell 0 rfl 2;dsimp only at t0 t1 t2
  go_wp2_with (first
   | (go_at_call 15;(with_reducible refine(CT.out _ H1.out.bel).mono ?_);rintro e w2 ⟨rfl,k2⟩;have k2:Bel _ w2:=k2;have T2:=Lib.hid (H1.out.belw k2);clear t0 t1 t2;have t0:=T2.out.cell 0 rfl 0;have t1:=T2.out.cell 0 rfl 1;have t2:=T2.out.cell 0 rfl 2;dsimp only at t0 t1 t2;clear k2)
   | (go_at_call 16;(with_reducible refine(CRT.out _ T2.out.bel).mono ?_);rintro e w3 ⟨rfl,k3⟩;have k3:Bel _ w3:=k3;have T3:=Lib.hid (T2.out.belw k3);clear t0 t1 t2;have t0:=T3.out.cell 0 rfl 0;have t1:=T3.out.cell 0 rfl 1;have t2:=T3.out.cell 0 rfl 2;dsimp only at t0 t1 t2;clear k3)
   | (go_at_call 10;(with_reducible refine(CRC.out _ T3.out.bel).mono ?_);rintro e w4 ⟨rfl,k4⟩;have k4:Bel _ w4:=k4;have T4:=Lib.hid (T3.out.belw k4);clear t0 t1 t2;have t0:=T4.out.cell 0 rfl 0;have t1:=T4.out.cell 0 rfl 1;have t2:=T4.out.cell 0 rfl 2;dsimp only at t0 t1 t2;clear k4)
   | (go_at_call 11;(with_reducible refine(CA.out _ T4.out.bel).mono ?_);rintro e w5 ⟨rfl,k5⟩;have k5:Bel _ w5:=k5;have T5:=Lib.hid (T4.out.belw k5);clear k5))
  go_ret;exact⟨rfl,T5.out.bel⟩
theorem qi5 (q1 q2 q3:Option Addr) (c1 c2 c3:Nat) (s:PSchema) (name:Str) (n:Nat) (mp:Option Addr) (mc:Nat) (m:List PMask) (w0:World) (hs:VSchema w0 [.slice q1 s.msgs.length c1,.slice q2 s.enums.length c2,.slice q3 s.svcs.length c3] s) (hQ:qch s) (hm:MaskD (fun b=>b<w0.heap.size) (n+1) w0 (.slice mp m.length mc) m) (hM:ML w0) (hcnt:cnt (n+1) m<=1048576) (hn:n+1<=524288) :
  Calls Tryz.prog 5 #[.agg #[.slice q1 s.msgs.length c1,.slice q2 s.enums.length c2,.slice q3 s.svcs.length c3],.string (S name),.slice mp m.length mc] w0 fun e w'=>e=.returned (.bool true)/\Bel w0 w':=by
 cases hf:fewB s with
 | false=>exact qfw q1 q2 q3 c1 c2 c3 s name n mp mc m w0 hs hQ hf
 | true=>exact qf1 q1 q2 q3 c1 c2 c3 s name n mp mc m w0 hs hQ hm hM hcnt hn hf
end Go.Proofs.YtaaneecceiefoaaGreatDoor
