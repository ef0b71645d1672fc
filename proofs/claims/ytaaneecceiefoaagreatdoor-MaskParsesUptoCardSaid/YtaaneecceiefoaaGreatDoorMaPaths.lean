import Derived.Test.YtaaneecceiefoaaGreatDoorMaEnvD
import Derived.Test.YtaaneecceiefoaaGreatDoorCkLists2
import Derived.Test.YtaaneecceiefoaaGreatDoorMaFindS
import Derived.Test.YtaaneecceiefoaaGreatDoorShelf
set_option maxRecDepth 100000
set_option maxHeartbeats 4000000
set_option linter.unusedVariables false
set_option linter.unusedSimpArgs false
namespace Go.Proofs.YtaaneecceiefoaaGreatDoor.Ma
open Ck Md
theorem qd1 {s:PSchema} {nm:Str} {m:PMsg} (h:msgOf s nm=some m):m ∈ s.msgs:=List.mem_of_find?_eq_some h
theorem nums_lt {s:PSchema} {m:PMsg} (h:valid s=true) (hm:m ∈ s.msgs):(m.fields.map (·.num)).Pairwise (· < ·):=by
 rw [List.pairwise_map,List.pairwise_iff_getElem];intro i j hi hj hij
 have hk : ∀(d i:Nat) (hi:i<m.fields.length) (hj:i+d+1<m.fields.length),m.fields[i].num<m.fields[i+d+1].num:=by
  intro d
  induction d with
  | zero=>
   intro i hi hj;rcases ((msg_ok h hm).fld (i+1) _ (List.getElem?_eq_getElem hj)).asc with e|⟨g,hg,hlt⟩
   ·omega
   ·rw [Nat.add_sub_cancel,List.getElem?_eq_getElem hi]at hg
    cases hg;exact hlt
  | succ d ih=>
   intro i hi hj;have h1:=ih i hi (by omega);rcases ((msg_ok h hm).fld (i+(d+1)+1) _ (List.getElem?_eq_getElem hj)).asc with e|⟨g,hg,hlt⟩
   ·omega
   ·rw [Nat.add_sub_cancel,List.getElem?_eq_getElem (show i+(d+1)<m.fields.length by omega)]at hg
    rw [←Option.some.inj hg]at hlt;exact Int.lt_trans h1 hlt
 have:=hk (j-i-1) i hi (by omega)
 simpa [show i+(j-i-1)+1=j by omega]using this
theorem qde {m:PMsg} {k:Int} {f:PField} (h:qai m k=some f):f ∈ m.fields/\f.num=k:=by
 refine⟨List.mem_of_find?_eq_some h,?_⟩;have:=List.find?_some h
 simpa using this
theorem qdp {s:PSchema} (h:valid s=true) {m:PMsg} (hm:m ∈ s.msgs) {f:PField} (hf:f ∈ m.fields):qai m f.num=some f:=by
 have hp:=nums_lt h hm;unfold qai
 revert hf hp
 generalize m.fields=l;intro hf hp
 induction l with
 | nil=>cases hf
 | cons x l ih=>
  rw [List.map_cons,List.pairwise_cons]at hp;rw [List.find?_cons];rcases List.mem_cons.1 hf with rfl|hf
  ·simp
  ·have:=hp.1 f.num (List.mem_map.2 ⟨f,hf,rfl⟩)
   rw [decide_eq_false (by omega)];exact ih hf hp.2
theorem ok_of {s:PSchema} (h:valid s=true) {m:PMsg} (hm:m ∈ s.msgs) {f:PField} (hf:f ∈ m.fields) : ∃i,m.fields[i]? = some f/\FldOk s m i f:=by
 obtain⟨i,hi⟩:=List.getElem?_of_mem hf;exact⟨i,hi,(msg_ok h hm).fld i f hi⟩
theorem env_ok {s:PSchema} (h:valid s=true):(envOf s).Ok:=by
 refine⟨fun nm=>?_,fun nm k hk=>?_,fun nm k f hf hs=>?_⟩
 ·show(((msgOf s nm).map fun m=>m.fields.map (·.num)).getD []).Pairwise _
  cases e:msgOf s nm with
  | none=>exact List.Pairwise.nil
  | some m=>exact nums_lt h (qd1 e)
 ·have hk':k ∈ ((msgOf s nm).map fun m=>m.fields.map (·.num)).getD []:=hk
  show(((msgOf s nm).bind fun m=>qai m k).map fun f=>(qax f,f.tn)).isSome=true
  cases e:msgOf s nm with
  | none=>rw [e]at hk';cases hk'
  | some m=>
   rw [e]at hk';obtain⟨f,hf,rfl⟩:=List.mem_map.1 (show k ∈ m.fields.map (·.num)from hk');show((qai m f.num).map _).isSome=true
   rw [qdp h (qd1 e) hf];rfl
 ·have hf':((msgOf s nm).bind fun m=>qai m k).map (fun f=>(qax f,f.tn))=some f:=hf
  obtain⟨g,hg,rfl⟩:=Option.map_eq_some_iff.1 hf';obtain⟨m,hm,hg⟩:=Option.bind_eq_some_iff.1 hg;obtain⟨i,_,ho⟩:=ok_of h (qd1 hm) (qde hg).1;have hs':qax g=true:=hs;unfold qax at hs';rw [Bool.and_eq_true,decide_eq_true_iff]at hs';have ht:=ho.ty;unfold typed at ht;rw [if_neg (by omega),if_neg (by omega),if_pos hs'.1,Bool.and_eq_true]at ht;exact ht.1
theorem qn4 {s:PSchema} (h:valid s=true) {m:PMsg} (hm:m ∈ s.msgs) {f:PField} (hf:f ∈ m.fields):qbd m f.name=some f:=by
 have hu : ∀(i:Nat) g,m.fields[i]? = some g->∀(j:Nat) (hj:j<i) x,m.fields[j]? = some x->x.name ≠ g.name:=by
  intro i g hg j hj x hx e;have h1:=(all_nil.1 (valid_iff.1 h)).2.1 m hm;have h2:=(qex h1).field i g hg;unfold qg2 at h2;simp only [List.append_eq_nil_iff,qop]at h2;obtain⟨⟨⟨⟨⟨⟨⟨⟨⟨_,_⟩,_⟩,h4⟩,_⟩,_⟩,_⟩,_⟩,_⟩,_⟩:=h2;have h4':((m.fields.take i).any fun x=>decide (x.name=g.name))=false:=by simpa using h4
  have:((m.fields.take i).any fun x=>decide (x.name=g.name))=true:=List.any_eq_true.2 ⟨x,List.mem_of_getElem? (show(m.fields.take i)[j]? = some x by rw [List.getElem?_take_of_lt hj];exact hx),decide_eq_true e⟩;rw [h4']at this;cases this
 obtain⟨i,hi⟩:=List.getElem?_of_mem hf
 have:m.fields.find? (fun x=>decide (x.name=f.name))=some f:=by
  cases e:m.fields.find? (fun x=>decide (x.name=f.name))with
  | none=>
   have:=List.find?_eq_none.1 e f hf;simp at this
  | some g=>
   have hg:=List.find?_some e;have hg':g.name=f.name:=by simpa using hg
   obtain⟨j,hj⟩:=List.getElem?_of_mem (List.mem_of_find?_eq_some e);rcases Nat.lt_trichotomy i j with hlt|heq|hgt
   ·exact absurd hg'.symm (hu j g hj i hlt f hi)
   ·rw [heq,hj]at hi
    exact hi
   ·exact absurd hg' (hu i f hi j hgt g hj)
 unfold qbd;rw [this]
theorem qle {m:PMsg} {p:Str} {f:PField} (h:qbd m p=some f):f ∈ m.fields:=by
 unfold qbd at h
 split at h
 ·rename_i g hg
  cases h;exact List.mem_of_find?_eq_some hg
 ·exact List.mem_of_find?_eq_some h
theorem qmv {p:Str} (h:Id.isPart p=true):p ≠ []/\(46:UInt8) ∉ p/\(44:UInt8) ∉ p:=by
 obtain⟨h1,h2,_⟩:=part_nm h;refine⟨fun e=>by rw [e]at h2;simp at h2,fun e=>?_,fun e=>?_⟩
 ·have:=h1 _ e
  revert this
  decide
 ·have:=h1 _ e
  revert this
  decide
theorem qn3 {s:PSchema} (h:valid s=true):Names.Ok (envOf s) (qa4 s):=by
 refine⟨fun p hp=>qmv hp,fun nm k f hf=>?_,fun nm k f hn hf=>?_,fun nm p k b t hn hb=>?_⟩
 ·have hf':((msgOf s nm).bind fun m=>qai m k).map (fun f=>(qax f,f.tn))=some f:=hf
  obtain⟨g,hg,rfl⟩:=Option.map_eq_some_iff.1 hf';show Id.isPart ((((msgOf s nm).bind fun m=>qai m k).map (·.name)).getD [])=true
  rw [hg];obtain⟨m,hm,hg⟩:=Option.bind_eq_some_iff.1 hg;obtain⟨i,_,ho⟩:=ok_of h (qd1 hm) (qde hg).1;exact ho.part
 ·have hf':((msgOf s nm).bind fun m=>qai m k).map (fun f=>(qax f,f.tn))=some f:=hf
  obtain⟨g,hg,rfl⟩:=Option.map_eq_some_iff.1 hf';refine⟨qc2 g,?_,fun hs=>?_⟩
  ·show((msgOf s nm).bind fun m=>qbd m ((((msgOf s nm).bind fun m=>qai m k).map (·.name)).getD [])).map _=_
   rw [hg];obtain⟨m,hm,hg⟩:=Option.bind_eq_some_iff.1 hg;obtain⟨h1,h2⟩:=qde hg;rw [hm];show(qbd m g.name).map _=_
   rw [qn4 h (qd1 hm) h1, ←h2];rfl
  ·have hs':qax g=true:=hs
   unfold qax at hs';unfold qc2;simp only [Bool.and_eq_true,Bool.or_eq_true,decide_eq_true_eq]at hs';obtain⟨h1,h2⟩:=hs';have h4:g.card ≠ 4:=by omega
   have h5:g.card ≠ 5:=by omega
   simp [h1,h4,h5]
 ·have hb':((msgOf s nm).bind fun m=>qbd m p).map (fun f=>(f.num,qc2 f,f.tn))=some (k,b,t):=hb
  obtain⟨g,hg,he⟩:=Option.map_eq_some_iff.1 hb';simp only [Prod.mk.injEq]at he;obtain⟨rfl,rfl,rfl⟩:=he;obtain⟨m,hm,hg⟩:=Option.bind_eq_some_iff.1 hg;have hgm:=qle hg;refine⟨qax g,?_,fun hgo=>?_⟩
  ·show((msgOf s nm).bind fun m=>qai m g.num).map _=_
   rw [hm];show(qai m g.num).map _=_
   rw [qdp h (qd1 hm) hgm];rfl
  ·obtain⟨i,_,ho⟩:=ok_of h (qd1 hm) hgm
   unfold qc2 at hgo;simp only [Bool.and_eq_true,Bool.not_eq_true',decide_eq_true_eq,decide_eq_false_iff_not]at hgo;have ht:=ho.ty;unfold typed at ht;rw [if_neg (by omega),if_neg (by omega),if_pos hgo.1.1,Bool.and_eq_true,decide_eq_true_iff]at ht;have hc:=ho.card;unfold qax;simp only [Bool.and_eq_true,Bool.or_eq_true,decide_eq_true_eq];exact⟨hgo.1.1,by omega⟩
end Go.Proofs.YtaaneecceiefoaaGreatDoor.Ma
namespace Go.Proofs.YtaaneecceiefoaaGreatDoor.Ma
def comma (out p:List UInt8):List UInt8:=(if out ≠ []then out ++ [44]else out) ++ p
def textR (E:Env) (M:Names):Nat->List UInt8->List UInt8->List PMask->List UInt8
 | 0,_,_,_ => []
 | n+1,nm,pre,l=>l.foldl (fun out x=>comma out (if whole x then pre ++ M.name nm x.num else textR E M n (E.ty nm x.num) (pre ++ M.name nm x.num ++ [46]) x.subs)) []
theorem qnm (c:UInt8) : ∀(a b:List (List UInt8)),a ≠ []->b ≠ []->glue c (a ++ b)=glue c a ++ c :: glue c b
 | [],_,h,_=>absurd rfl h
 | [x],[],_,h=>absurd rfl h
 | [x],y :: b,_,_=>rfl
 | x :: y :: r,b,_,hb=>by
  show x ++ c :: glue c ((y :: r) ++ b)=(x ++ c :: glue c (y :: r)) ++ c :: glue c b
  rw [qnm c (y :: r) b (by simp) hb];simp
theorem qo3 {a b:List (List UInt8)} (ha : ∀p ∈ a,p ≠ []) (hb:b ≠ []):comma (glue 44 a) (glue 44 b)=glue 44 (a ++ b):=by
 unfold comma;by_cases h:a=[]
 ·subst h
  rfl
 ·rw [if_pos (qnl h ha),qnm 44 a b h hb]
  simp
theorem qh4 (c:UInt8) (p:List UInt8) {l:List (List UInt8)} (h:l ≠ []):glue c (p :: l)=p ++ c :: glue c l:=by
 cases l with
 | nil=>exact absurd rfl h
 | cons q r=>rfl
theorem textN_ne {E:Env} {M:Names} {n:Nat} {nm:List UInt8} {l:List PMask} (h:Nm E n nm l) (hE:E.Ok) (hM:M.Ok E) (hl:l ≠ []):textN E M n nm l ≠ []:=fun e=>by
 have:=(qf4 hE hM n h).1;rw [e]at this;exact(qfr n h.srt.dp).2 hl (List.map_eq_nil_iff.1 this.symm)
theorem qlv {E:Env} {M:Names} (hE:E.Ok) (hM:M.Ok E) : ∀(n:Nat) {nm pre:List UInt8} {l:List PMask},Nm E n nm l->textR E M n nm pre l=glue 44 ((textN E M n nm l).map fun q=>pre ++ glue 46 q)
 | 0,_,_,_,_=>rfl
 | n+1,nm,pre,l,h=>by
  have one : ∀x ∈ l,(if whole x then pre ++ M.name nm x.num else textR E M n (E.ty nm x.num) (pre ++ M.name nm x.num ++ [46]) x.subs)=glue 44 ((if whole x then [[M.name nm x.num]]else(textN E M n (E.ty nm x.num) x.subs).map (M.name nm x.num :: ·)).map fun q=>pre ++ glue 46 q)/\(if whole x then [[M.name nm x.num]]else(textN E M n (E.ty nm x.num) x.subs).map (M.name nm x.num :: ·)) ≠ []/\∀q ∈ (if whole x then [[M.name nm x.num]]else(textN E M n (E.ty nm x.num) x.subs).map (M.name nm x.num :: ·)),pre ++ glue 46 q ≠ []:=by
   intro x hx;obtain⟨f,hf,hs⟩:=h.2.2 x hx;have hpt:=hM.clean _ (hM.part nm x.num f hf);have ht:E.ty nm x.num=f.2:=by unfold Env.ty;rw [hf];rfl
   cases hw:whole x with
   | true=>
    refine⟨rfl,by simp,fun q hq=>?_⟩;simp only [if_true]at hq;obtain rfl:=List.mem_singleton.1 hq;intro e;exact hpt.1 (List.append_eq_nil_iff.1 e).2
   | false=>
    have h2:f.1=true/\Nm E n f.2 x.subs:=by
     rcases hs with e|e
     ·rw [whole_iff.2 e]at hw;cases hw
     ·exact e
    have hne:x.subs ≠ []:=fun e=>by rw [whole_iff.2 e]at hw;cases hw
    have hq2:=(qf4 hE hM n h2.2).2;rw [ht];simp only [Bool.false_eq_true,if_false];refine⟨?_,fun e=>textN_ne h2.2 hE hM hne (List.map_eq_nil_iff.1 e),fun q hq=>?_⟩
    ·rw [qlv hE hM n h2.2,List.map_map]
     refine congrArg (glue 44) (List.map_congr_left fun q hq=>?_);show pre ++ M.name nm x.num ++ [46] ++ glue 46 q=pre ++ glue 46 (M.name nm x.num :: q)
     rw [qh4 46 _ (hq2 q hq).1];simp
    ·obtain⟨q',hq',rfl⟩:=List.mem_map.1 hq
     rw [qh4 46 _ (hq2 q' hq').1];simp
  have go : ∀(r:List PMask) (ts:List (List (List UInt8))),(∀x ∈ r,x ∈ l)->(∀q ∈ ts,pre ++ glue 46 q ≠ [])->r.foldl (fun out x=>comma out (if whole x then pre ++ M.name nm x.num else textR E M n (E.ty nm x.num) (pre ++ M.name nm x.num ++ [46]) x.subs)) (glue 44 (ts.map fun q=>pre ++ glue 46 q))=glue 44 ((ts ++ textN E M (n+1) nm r).map fun q=>pre ++ glue 46 q):=by
   intro r
   induction r with
   | nil=>intro ts _ _;simp [textN]
   | cons x r ih=>
    intro ts hr hts;obtain⟨o1,o2,o3⟩:=one x (hr x (List.mem_cons_self ..))
    rw [List.foldl_cons,o1,qo3 (fun p hp=>by obtain⟨q,hq,rfl⟩:=List.mem_map.1 hp;exact hts q hq) (fun e=>o2 (List.map_eq_nil_iff.1 e)), ←List.map_append,ih _ (fun y hy=>hr y (List.mem_cons_of_mem _ hy)) (fun q hq=>by
     rcases List.mem_append.1 hq with hq|hq
     ·exact hts q hq
     ·exact o3 q hq),List.append_assoc]
    rfl
  have:=go l [] (fun x hx=>hx) (fun q hq=>by cases hq);exact this
end Go.Proofs.YtaaneecceiefoaaGreatDoor.Ma
namespace Go.Proofs.YtaaneecceiefoaaGreatDoor
open Go.RowKit Ck Ma
theorem qjr {E:Env} {M:Names} : ∀(n:Nat) {nm:List UInt8} {l:List PMask},Dp n l->l ≠ []->textN E M n nm l ≠ []
 | 0,_,l,h,hl=>absurd h hl
 | n+1,nm,[],_,hl=>absurd rfl hl
 | n+1,nm,x :: r,h,_=>by
  show(List.flatMap _ (x :: r)) ≠ []
  rw [List.flatMap_cons];intro e;have e1:=(List.append_eq_nil_iff.1 e).1
  split at e1
  ·cases e1
  ·rename_i hw
   have:=qjr (E:=E) (M:=M) n (nm:=E.ty nm x.num) (h x (List.mem_cons_self ..)) (fun hs=>hw (whole_iff.2 hs));exact this (List.map_eq_nil_iff.1 e1)
theorem qou {E:Env} {M:Names} : ∀(n:Nat) {nm:List UInt8} {l:List PMask}, ∀q ∈ textN E M n nm l,q ≠ []
 | 0,_,_,q,hq=>(by cases hq)
 | n+1,nm,l,q,hq=>by
  obtain⟨x,_,hx⟩:=List.mem_flatMap.1 hq
  split at hx
  ·rw [List.mem_singleton]at hx
   subst hx;simp
  ·obtain⟨r,_,rfl⟩:=List.mem_map.1 hx
   simp
def ptx (E:Env) (M:Names) (n:Nat) (nm pre:List UInt8) (x:PMask):List (List UInt8):=if whole x then [pre ++ M.name nm x.num]else(textN E M n (E.ty nm x.num) x.subs).map fun q=>(pre ++ M.name nm x.num ++ [46]) ++ glue 46 q
theorem ptx_all (E:Env) (M:Names) (n:Nat) (nm pre:List UInt8) (l:List PMask):(textN E M (n+1) nm l).map (fun q=>pre ++ glue 46 q)=l.flatMap (ptx E M n nm pre):=by
 show(l.flatMap _).map _=_
 rw [List.map_flatMap]
 congr 1
 funext x
 unfold ptx
 split
 ·rfl
 ·rw [List.map_map]
  refine List.map_congr_left fun q hq=>?_
  show pre ++ glue 46 (M.name nm x.num :: q)=_
  rw [qh4 46 _ (qou n q hq)];simp
theorem flat_at {α β:Type} {f:α->List β} {l:List α} {k:Nat} (h:k<l.length):(l.drop k).flatMap f=f l[k] ++ (l.drop (k+1)).flatMap f:=by
 rw [List.drop_eq_getElem_cons h,List.flatMap_cons]
def srow (v:Value) (xs:List Str):Row:=⟨9,1,v,xs.length,nmC xs⟩
theorem qgp {w0 w:World} {R:List Row} {X:List Box} {v:Value} {xs ys:List Str} (h:ST w0 (⟨9,1,v,xs.length+ys.length,nmC xs ++ nmC ys⟩ :: R) X w):ST w0 (srow v (xs ++ ys) :: R) X w:=by
 unfold srow;rw [List.length_append];have:nmC (xs ++ ys)=nmC xs ++ nmC ys:=by unfold nmC;simp
 rw [this];exact h
theorem nmC_len (xs:List Str):(nmC xs).length=xs.length:=by unfold nmC;simp
theorem nmC_one (xs:List Str) : ∀u ∈ nmC xs,u.oneCell'=true:=by
 intro u hu;unfold nmC at hu;obtain⟨x,_,rfl⟩:=List.mem_map.1 hu;rfl
theorem qjs:(Tryz.prog.info? 9).map (fun i=>(i.zero,i.size,i.bytes))=some (some (.string ByteArray.empty),1,16):=by kernel_rfl
def qlh (w:World) (us:List Str) (e:Ending) (w':World):Prop := ∃v,e=.returned v/\w'.ownsRow w.heap.size 9 1 v us.length (nmC us)/\Bel w w'
theorem ql6 {w:World} {B:Nat} {v:Value} {us:List Str} (h:w.ownsRow B 9 1 v us.length (nmC us)) (hl:0<us.length) : ∃g c,v=.slice (some ⟨g,0,none⟩) us.length c/\∀j u,(nmC us)[j]? = some u->w.cell? ((⟨g,0,none⟩:Addr).add j)=some u:=by
 rcases h.2 with⟨_,h0⟩|⟨g,cap,cur,rfl,_⟩
 ·omega
 ·exact⟨g,cap,rfl,fun j u hu=>h.cells (g:=g) rfl j u hu⟩
def PathsC (n:Nat):Prop := ∀(A:Nat->Prop) (mv ev sv:Value) (s:PSchema) (name pre:Str) (v:Value) (l:List PMask) (w:World),VSchema w [mv,ev,sv] s->MaskD A n w v l->Nm (envOf s) n name l->(textN (envOf s) (qa4 s) n name l).length<=1048576->(∀m ∈ s.msgs, ∀f ∈ m.fields,f.name.length<=1000000)->pre.length+n*2000000<=1000000000000000->Calls Tryz.prog 41 #[.agg #[mv,ev,sv],.string (S name),.string (S pre),v] w (qlh w ((textN (envOf s) (qa4 s) n name l).map fun q=>pre ++ glue 46 q))
theorem qet (n:Nat) (IH:n ≠ 0->PathsC n):PathsC (n+1):=by
 intro A mv ev sv s name pre v l w0 hs hl0 hN hcnt hnm hpre;obtain⟨i0,hi,hz0,hz1,hz2⟩:=info_parts qjs;have HS:=Lib.hid (fun(W:World) (k:Bel w0 W)=>VSchema.staysB hs k);have CM0:=Lib.hid (fun W (k:Bel w0 W)=>qbt mv ev sv s name w0 W k hs);obtain⟨_,_,_,he,hm,hev,hsv⟩:=hs;cases he;obtain⟨q2,c2,rfl,hl2⟩:=qa5 hev;obtain⟨q3,c3,rfl,hl3⟩:=qa5 hsv;obtain⟨q1,c1,rfl,hl1⟩:=qa5 hm;clear hm hev hsv;obtain⟨p,c,rfl,hl,hcap,hel⟩:=hl0;have EL:=Lib.hid hel;clear hel hcap;have hS0:=Lib.hid ((ST.start w0).addbox #[.slice q1 s.msgs.length c1,.slice q2 s.enums.length c2,.slice q3 s.svcs.length c3] 26);obtain⟨m,hm⟩ : ∃m,msgOf s name=some m:=Option.isSome_iff_exists.1 hN.1;have hmem:m ∈ s.msgs:=List.mem_of_find?_eq_some hm
 have HNX:=Lib.hid (show ∀x ∈ l, ∃f,qai m x.num=some f/\(x.subs=[] ∨ Nm (envOf s) n f.tn x.subs)from fun x hx=>by
  obtain⟨f,hf,hh⟩:=hN.2.2 x hx;rw [fld_of hm]at hf;obtain⟨g,hg,rfl⟩:=Option.map_eq_some_iff.1 hf
  exact⟨g,hg,hh.imp id (fun h=>h.2)⟩)
 have HFN:=Lib.hid (show ∀f ∈ m.fields,f.name.length<=1000000 from hnm m hmem);have HNM:=Lib.hid hnm;have V:=Lib.hid (show([]:List Str) ++ (l.drop 0).flatMap (ptx (envOf s) (qa4 s) n name pre)=(textN (envOf s) (qa4 s) (n+1) name l).map (fun q=>pre ++ glue 46 q)by rw [ptx_all];rfl);have htl:((textN (envOf s) (qa4 s) (n+1) name l).map (fun q=>pre ++ glue 46 q)).length<=1048576:=by rw [List.length_map];exact hcnt
 generalize (textN (envOf s) (qa4 s) (n+1) name l).map (fun q=>pre ++ glue 46 q)=T at V htl;rw [hm]at CM0;have HM:=Lib.hid hm;have zpre:(S pre).size=pre.length:=qbr _;have hpl:pre.length+2000000+n*2000000<=1000000000000000:=by rw [Nat.add_mul]at hpre;omega
 have HPL:=Lib.hid hpl;have hpl2:pre.length<=999999998000000:=by omega
 clear hm hN hcnt hnm hpre hmem hpl
 go_enter Tryz.func41,Tryz.ntmps41
 go_upto_region 2 with(first
  | (go_at_call 26;(with_reducible refine(CM0.out _ hS0.out.bel).mono ?_);rintro e w1 ⟨vm,rfl,hvs,k1⟩;have k1:Bel _ w1:=k1;have HVM:=Lib.hid (show VMsg w0 vm m from hvs);obtain⟨hlen,hone⟩:=qbq hvs;have HVS:=Lib.hid hvs;have Z0:vm.toArray.size=5:=(by rw [List.size_toArray];exact hlen);have Z1:=Lib.hid (show(Tryz.prog.info? 57).map (·.size)=some vm.toArray.size by rw [Z0];exact ar_M);have Z2:=Lib.hid (show(#[.string ⟨#[]⟩,.slice none 0 0,.slice none 0 0,.slice none 0 0,.slice none 0 0]:Array Value).size=vm.toArray.size by rw [Z0];rfl);have HO:=Lib.hid hone;clear hlen hone Z0 hvs;have H1:=Lib.hid ((hS0.out.belw k1).addbox vm.toArray 57);clear k1)
  | (refine qa3 (old:=#[.string ⟨#[]⟩,.slice none 0 0,.slice none 0 0,.slice none 0 0,.slice none 0 0]) rfl 57 _ _ rfl w1 rfl w1.heap.size rfl vm.toArray rfl rfl Z1.out Z2.out HO.out ?_))
 generalize hwz:World.alloc w1 _=wz at H1 ⊢;clear hwz;generalize hmb:w1.heap.size=mb at H1 ⊢;clear hmb HVS HO Z2;have HZ1:=Z1;have H2:=Lib.hid (show ST w0 [srow (.slice none 0 0) []] [⟨mb,vm.toArray,57⟩,⟨w0.heap.size,#[.slice q1 s.msgs.length c1,.slice q2 s.enums.length c2,.slice q3 s.svcs.length c3],26⟩] wz from H1.out.nilrow 9 1);have CFd:=Lib.hid (fun W (kk:Bel w0 W) q=>qha (m:=m) (vs:=vm) q w0 W kk HVM.out);clear Z1 CM0 hS0 H1
 go_wp2_with (fail)
 go_loopw [11,24] (fun vo i wr => ∃(k:Nat) (xs:List Str),k<=l.length/\i=.int .i64 k/\Hid (ST w0 [srow vo xs] [⟨mb,vm.toArray,57⟩,⟨w0.heap.size,#[.slice q1 s.msgs.length c1,.slice q2 s.enums.length c2,.slice q3 s.svcs.length c3],26⟩] wr)/\Hid (xs ++ (l.drop k).flatMap (ptx (envOf s) (qa4 s) n name pre)=T)) (fun _ i _=>l.length-(intOf i).toNat)
 case atStart=>exact⟨0,[],by omega,rfl,H2,V⟩
 case round=>as_aux_lemma=>
  clear V H2;obtain⟨k,xs,hk,rfl,hS,hx⟩:=hrel;obtain⟨qo,co,hvo⟩:=qan (hS.out.row 0 rfl);dsimp only [srow]at hvo;subst hvo;by_cases hlt:k<l.length
  ·obtain⟨g,off,sv,rfl,hbs,hab,hc0,hc1,hd⟩:=EL.out k _ (List.getElem?_eq_getElem hlt)
   obtain⟨sp,sc,rfl⟩:=hd.form;have hki:(k:Int)<(l.length:Int):=by omega
   have e0:=hS.out.bel.some hc0;have e1:=hS.out.bel.some hc1;have hst:=hx.out;rw [flat_at hlt]at hst;obtain⟨f,hf,hsub⟩:=HNX.out _ (List.getElem_mem hlt)
   have hxl:xs.length+(ptx (envOf s) (qa4 s) n name pre l[k]).length<=1048576:=by
    have:=congrArg List.length hst;simp only [List.length_append]at this;omega
   clear hx hab EL HNX;generalize l[k]=x at *;have hfm:f ∈ m.fields:=List.mem_of_find?_eq_some hf;have hfl:=HFN.out f hfm;have zf:(S f.name).size=f.name.length:=qbr _;have hty:(envOf s).ty name x.num=f.tn:=by unfold Env.ty;rw [fld_of HM.out,hf];rfl
   have hna:(qa4 s).name name x.num=f.name:=by show(((msgOf s name).bind fun m=>qai m x.num).map (·.name)).getD []=_;rw [HM.out];show((qai m x.num).map (·.name)).getD []=_;rw [hf];rfl
   have DX:=Lib.hid (show MaskD A n w0 (.slice sp x.subs.length sc) x.subs from hd);have HX:=Lib.hid (hS.out.addbox #[.int .i64 x.num,.slice sp x.subs.length sc] 61);have HBm:=Lib.hid (HX.out.box 1 rfl);have CF1:=CFd.out (wr.alloc (.cells #[.int .i64 x.num,.slice sp x.subs.length sc] 61)) HX.out.bel x.num;rw [hf]at CF1;have CF:=Lib.hid CF1;clear hc0 hc1 hd hf hfm CF1
   go_upto_region 7 with(first
    | (refine qa6 rfl 57 _ rfl mb vm.toArray 57 rfl HBm.out _ Tryz.underlying57 rfl HZ1.out ?_)
    | (go_at_call 27;(with_reducible refine CF.out.mono ?_);rintro e w1 ⟨vs,rfl,hvs,k1⟩;have k1:Bel _ w1:=k1;have HVF:=Lib.hid (show VField w0 vs f from hvs);obtain⟨hlen,hone⟩:=qc9 hvs;have HVS:=Lib.hid hvs;have Z0:vs.toArray.size=16:=(by rw [List.size_toArray];exact hlen);have Z1:=Lib.hid (show(Tryz.prog.info? 65).map (·.size)=some vs.toArray.size by rw [Z0];exact ar_F);have Z2:=Lib.hid (show(#[.int .i64 0,.string ⟨#[]⟩,.int .i64 0,.int .i64 0,.int .i64 0,.string ⟨#[]⟩,.string ⟨#[]⟩,.bool false,.int .i64 0,.int .u64 0,.string ⟨#[]⟩,.slice none 0 0,.slice none 0 0,.slice none 0 0,.slice none 0 0,.slice none 0 0]:Array Value).size=vs.toArray.size by rw [Z0];rfl);have HO:=Lib.hid hone;clear hlen hone Z0 hvs;have H1:=Lib.hid ((HX.out.belw k1).addbox vs.toArray 65);clear k1)
    | (refine qa3 (old:=#[.int .i64 0,.string ⟨#[]⟩,.int .i64 0,.int .i64 0,.int .i64 0,.string ⟨#[]⟩,.string ⟨#[]⟩,.bool false,.int .i64 0,.int .u64 0,.string ⟨#[]⟩,.slice none 0 0,.slice none 0 0,.slice none 0 0,.slice none 0 0,.slice none 0 0]) rfl 65 _ _ rfl w1 rfl w1.heap.size rfl vs.toArray rfl rfl Z1.out Z2.out HO.out ?_))
   generalize hwz2:World.alloc w1 _=wy at H1 ⊢;clear hwz2;generalize hfb:w1.heap.size=fb at H1 ⊢;clear hfb HX HBm CF HVS Z2;have F1:=Lib.hid (VField.at HVF.out).2.1;have F5:=Lib.hid (VField.at HVF.out).2.2.2.2;have x0:=H1.out.cell 1 rfl 0;have x1:=H1.out.cell 1 rfl 1;dsimp only at x0 x1;cases hwx:whole x with
   | true=>
    have CX:=Lib.hid (fun p c W=>qaj hwx p c W);have hpt:ptx (envOf s) (qa4 s) n name pre x=[pre ++ f.name]:=by unfold ptx;rw [if_pos hwx,hna]
    rw [hpt]at hst hxl;have HST:=Lib.hid hst;have hxl2:xs.length+1<=1048576:=hxl;have hsum:(S pre).size+(S f.name).size<=9223372036854775807:=by omega
    have hcat:S pre ++ S f.name=S (pre ++ f.name):=S_of (qbp _ _);clear hwx hpt hst hty hna hsub hxl
    go_upto_region 8 with(go_at_call 28;(with_reducible refine(CX.out _ _ _).mono ?_);rintro e w2 ⟨rfl,k2⟩;have k2:Bel _ w2:=k2;have H2:=Lib.hid (H1.out.belw k2);have t1:=(H2.out.cell 0 rfl 1).trans F1.out;dsimp only at t1;clear x0 x1;clear k2)
    have HB:=Lib.hid (H2.out.belw ((Bel.refl _).alloc (.cells #[.string (S (pre ++ f.name))] 9)))
    go_wp2_with (at_builtin;refine wpList_append_lies _ rfl _ _ 54 rfl w0.heap.size 9 i0 (.string ByteArray.empty) 1 16 Tryz.underlying54 hi hz0 hz1 hz2 rfl (by decide) _ xs.length _ rfl (HB.out.row 0 rfl) ⟨w2.heap.size,0,none⟩ 1 1 [.string (S (pre ++ f.name))] rfl rfl (qau _ _ _) (by simp [Value.oneCell']) (by decide) (by unfold maxLen;omega) (by omega) HB.out.bel.size (w2.heap.size+1) (by simp) ?_)
    intro g9 cap9 w9 hown hgrow hfr hlt9;have HH:=Lib.hid (qgp (ys:=[pre ++ f.name]) (HB.out.grow 0 rfl hgrow hown (qbc hfr (by simp))));clear hown hgrow hfr hcat hsum;go_wp2;go_roundw
    case rel=>exact⟨k+1,xs ++ [pre ++ f.name],by omega,by go_num,Lib.hid HH.out.dropbox0.dropbox0,by simpa using HST⟩
    case measure=>simp [intOf];omega
   | false=>
    have CX:=Lib.hid (fun p c W=>qaj hwx p c W);have hsn:=qaz hwx;have hpt:ptx (envOf s) (qa4 s) n name pre x=(textN (envOf s) (qa4 s) n f.tn x.subs).map fun q=>(pre ++ f.name ++ [46]) ++ glue 46 q:=by unfold ptx;rw [hwx,if_neg Bool.false_ne_true,hna,hty]
    rw [hpt]at hst hxl;have hdp:Dp n x.subs:=DX.out.dp;have hne:=qjr (E:=envOf s) (M:=qa4 s) n (nm:=f.tn) hdp hsn;have hcn:(textN (envOf s) (qa4 s) n f.tn x.subs).length<=1048576:=by rw [List.length_map]at hxl;omega
    have hpr2:(pre ++ f.name ++ [46]).length+n*2000000<=1000000000000000:=by
     simp only [List.length_append,List.length_singleton];have:=HPL.out;omega
    have CI:=Lib.hid (fun W (k:Bel w0 W) (h:MaskD A n W (.slice sp x.subs.length sc) x.subs)=>IH (DX.out.ne hsn) A (.slice q1 s.msgs.length c1) (.slice q2 s.enums.length c2) (.slice q3 s.svcs.length c3) s f.tn (pre ++ f.name ++ [46]) _ x.subs W (HS.out W k) h (hsub.resolve_left hsn) hcn HNM.out hpr2);have hul:0<((textN (envOf s) (qa4 s) n f.tn x.subs).map fun q=>(pre ++ f.name ++ [46]) ++ glue 46 q).length:=by rw [List.length_map];exact List.length_pos_iff.2 hne
    generalize ((textN (envOf s) (qa4 s) n f.tn x.subs).map fun q=>(pre ++ f.name ++ [46]) ++ glue 46 q)=us at hst hxl CI hul;have HST:=Lib.hid hst;have hsum:(S pre).size+(S f.name).size<=9223372036854775807:=by omega
    have hcat:S pre ++ S f.name=S (pre ++ f.name):=S_of (qbp _ _);have zs:(S (pre ++ f.name)).size=pre.length+f.name.length:=by rw [qbr,List.length_append]
    have hsum2:(S (pre ++ f.name)).size+(S [46]).size<=9223372036854775807:=by rw [zs];show _+1<=_;omega
    have hcat2:S (pre ++ f.name) ++ ⟨#[46]⟩=S (pre ++ f.name ++ [46]):=S_of (qbp _ (S [46]));generalize pre ++ f.name ++ [46]=PP at CI hcat2;clear hwx hpt hst hty hna hsub hsn hdp hne hcn hpr2
    go_wp2_with (first
     | (go_at_call 28;(with_reducible refine(CX.out _ _ _).mono ?_);rintro e w2 ⟨rfl,k2⟩;have k2:Bel _ w2:=k2;have H2:=Lib.hid (H1.out.belw k2);have t1:=(H2.out.cell 0 rfl 1).trans F1.out;have t5:=(H2.out.cell 0 rfl 5).trans F5.out;have a0:=H2.out.cell 3 rfl 0;have a1:=H2.out.cell 3 rfl 1;have a2:=H2.out.cell 3 rfl 2;have u1:=H2.out.cell 1 rfl 1;dsimp only at t1 t5 a0 a1 a2 u1;clear x0 x1;clear k2)
     | (go_at_call 41;(with_reducible refine(CI.out _ H2.out.bel (DX.out.bel H2.out.bel)).mono ?_);rintro e w4 ⟨v4,rfl,hown4,k4⟩;have k4:Bel _ w4:=k4;have H4:=Lib.hid (H2.out.belw k4);obtain⟨g4,cap4,hv4,hcl4⟩:=ql6 hown4 hul;subst hv4;have HC4:=Lib.hid hcl4;clear k4 hown4 hcl4)
     | (at_builtin;refine wpList_append_lies _ rfl _ _ 54 rfl w0.heap.size 9 i0 (.string ByteArray.empty) 1 16 Tryz.underlying54 hi hz0 hz1 hz2 rfl (by decide) _ xs.length _ rfl (H4.out.row 0 rfl) ⟨g4,0,none⟩ us.length cap4 (nmC us) rfl (by rw [nmC_len,Nat.mul_one]) HC4.out (nmC_one us) hul (by unfold maxLen;omega) (by omega) H4.out.bel.size w4.heap.size rfl ?_))
    intro g9 cap9 w9 hown hgrow hfr hlt9;have HH:=Lib.hid (qgp (ys:=us) (H4.out.grow 0 rfl hgrow hown (qbc hfr (by simp))));clear hown hgrow hfr hcat hsum hcat2 hsum2;go_wp2;go_roundw
    case rel=>exact⟨k+1,xs ++ us,by omega,by go_num,Lib.hid HH.out.dropbox0.dropbox0,by simpa using HST⟩
    case measure=>simp [intOf];omega
  ·have hkl:k=l.length:=by omega
   have hz:xs=T:=by have:=hx.out;rw [hkl,List.drop_length]at this;simpa using this
   subst hz;clear hx EL HNX;go_wp2;go_ret;exact⟨_,rfl,hS.out.row 0 rfl,hS.out.bel⟩
theorem qn8 : ∀n:Nat,PathsC (n+1)
 | 0=>qet 0 (fun h=>absurd rfl h)
 | n+1=>qet (n+1) (fun _=>qn8 n)
end Go.Proofs.YtaaneecceiefoaaGreatDoor
