import Derived.Test.YtaaneecceiefoaaGreatDoorMaPaths
import Derived.Test.YtaaneecceiefoaaGreatDoorMaKeep
import Derived.Test.YtaaneecceiefoaaGreatDoorMdLaw
import Derived.Test.YtaaneecceiefoaaGreatDoorMaFindS
import Derived.Test.YtaaneecceiefoaaGreatDoorMaVM
set_option maxRecDepth 100000
set_option maxHeartbeats 4000000
set_option linter.unusedVariables false
set_option linter.unusedSimpArgs false
namespace Go.Proofs.YtaaneecceiefoaaGreatDoor
section
open Go.RowKit Ck Ma
theorem qka : ∀l:List (List UInt8),Lib.join l [44]=glue 44 l
 | []=>rfl
 | [x]=>Lib.join_one x [44]
 | x :: y :: r=>by
  have ih:=qka (y :: r);show _=x ++ 44 :: glue 44 (y :: r)
  rw [←ih];simp [Lib.join,List.intercalate,List.intersperse]
theorem qf7 {w:World} {B:Nat} {v:Value} {us:List Str} (h:w.ownsRow B 9 1 v us.length (nmC us)):(us=[]/\v=.slice none 0 0) ∨ ∃g c,v=.slice (some ⟨g,0,none⟩) us.length c/\us.length<=c/\g<w.heap.size/\∀j x,us[j]? = some x->w.cell? ⟨g,0+j,none⟩=some (.string (S x)):=by
 rcases h.2 with⟨rfl,h0⟩|⟨g,cap,cur,rfl,h1,h2,h3,_⟩
 ·exact .inl ⟨List.length_eq_zero_iff.1 h0,rfl⟩
 ·refine .inr ⟨g,cap,rfl,h3,(Array.getElem?_eq_some_iff.1 h2).1,fun j x hx=>?_⟩
  have:=h.cells (g:=g) rfl j (.string (S x)) (by unfold nmC;rw [List.getElem?_map,hx];rfl);rw [Addr.add_lit]at this;exact this
theorem sl_join {w:World} {B:Nat} {v:Value} {us:List Str} (h:w.ownsRow B 9 1 v us.length (nmC us)) (hl:us.length<=1048576) (hg:(glue 44 us).length<=140737488355328):Calls Tryz.prog 40 #[v,.string ⟨#[44]⟩] w fun e w'=>e=.returned (.string (S (glue 44 us)))/\Bel w w':=by
 rcases qf7 h with⟨rfl,rfl⟩|⟨g,c,rfl,hc,hgl,hce⟩
 ·refine(Tryz.strings_Join_none none 0 ⟨#[44]⟩ w).mono fun e w' ⟨he,hw⟩=>?_
  subst hw;exact⟨he,Bel.refl _⟩
 ·have hmm:(us.map S).map (fun x=>x.data.toList)=us:=by
   rw [List.map_map];exact List.map_id us
  have hj:Lib.join ((us.map S).map (fun x=>x.data.toList)) (⟨#[44]⟩:ByteArray).data.toList=glue 44 us:=by rw [hmm];exact qka us
  have hlen:us.length=(us.map S).length:=by simp
  have hcon:=Tryz.strings_Join g 0 c (us.map S) ⟨#[44]⟩ w (fun j x hx=>by
   rw [List.getElem?_map]at hx;cases hu:us[j]? with
   | none=>rw [hu]at hx;cases hx
   | some u=>
    rw [hu]at hx;cases hx
    exact hce j u hu) hgl (by rw [←hlen];omega) (by rw [←hlen];exact hc) (by rw [hj];exact hg)
  rw [←hlen]at hcon;refine hcon.mono fun e w' ⟨he,hw⟩=>⟨?_,hw⟩
  rw [he,hj];rfl
theorem mk_Text (n:Nat) (A:Nat->Prop) (mv ev sv:Value) (s:PSchema) (name:Str) (v:Value) (l:List PMask) (w0:World) (hs:VSchema w0 [mv,ev,sv] s) (hl:MaskD A (n+1) w0 v l) (hcnt:(textN (envOf s) (qa4 s) (n+1) name l).length<=1048576) (hnm : ∀m ∈ s.msgs, ∀f ∈ m.fields,f.name.length<=1000000) (hn:(n+1)*2000000<=1000000000000000) (hg:(glue 44 ((textN (envOf s) (qa4 s) (n+1) name l).map (glue 46))).length<=140737488355328) :
  Calls Tryz.prog 15 #[.agg #[mv,ev,sv],.string (S name),v] w0 fun e w'=>e=.returned (.string (S (text (envOf s) (qa4 s) (n+1) name l)))/\Bel w0 w':=by
 have hck:=qdi (E:=envOf s) (n+1) name l hl.dp;have CC:=Lib.hid (fun W (k:Bel w0 W)=>qj8 n A mv ev sv s name v l W (VSchema.staysB hs k) (hl.bel k));have CPt:=Lib.hid (fun W (k:Bel w0 W) hN=>qn8 n A mv ev sv s name [] v l W (VSchema.staysB hs k) (hl.bel k) hN hcnt hnm (by simpa using hn));have htx:text (envOf s) (qa4 s) (n+1) name l=if chk (envOf s) (n+1) name l ≠ 0 then []else glue 44 ((textN (envOf s) (qa4 s) (n+1) name l).map (glue 46)):=rfl
 have hme:((textN (envOf s) (qa4 s) (n+1) name l).map fun q=>([]:Str) ++ glue 46 q)=(textN (envOf s) (qa4 s) (n+1) name l).map (glue 46):=rfl;have hml:((textN (envOf s) (qa4 s) (n+1) name l).map (glue 46)).length<=1048576:=by rw [List.length_map];exact hcnt
 rw [hme]at CPt;generalize text (envOf s) (qa4 s) (n+1) name l=R at htx;generalize (textN (envOf s) (qa4 s) (n+1) name l).map (glue 46)=us at htx CPt hg hml;generalize chk (envOf s) (n+1) name l=RC at htx CC hck;obtain⟨mp,mc,rfl⟩:=hl.form;obtain⟨_,_,_,he,hm,hev,hsv⟩:=hs;cases he;obtain⟨q2,c2,rfl,hl2⟩:=qa5 hev;obtain⟨q3,c3,rfl,hl3⟩:=qa5 hsv;obtain⟨q1,c1,rfl,hl1⟩:=qa5 hm;clear hm hev hsv;have hS0:=Lib.hid ((ST.start w0).addbox #[.slice q1 s.msgs.length c1,.slice q2 s.enums.length c2,.slice q3 s.svcs.length c3] 26);clear hl hcnt hnm hn hme;by_cases h0:RC=0
 ·subst h0
  rw [if_neg (by simp)]at htx;subst htx;have CP2:=Lib.hid (fun W k=>CPt.out W k (hck.1 rfl));have hg2:=Lib.hid hg;clear hck CPt hg
  go_enter Tryz.func15,Tryz.ntmps15
  go_wp2_with (first
   | (go_at_call 9;(with_reducible refine(CC.out _ hS0.out.bel).mono ?_);rintro e w1 ⟨rfl,k1⟩;have k1:Bel _ w1:=k1;have H1:=Lib.hid (hS0.out.belw k1);have t0:=H1.out.cell 0 rfl 0;have t1:=H1.out.cell 0 rfl 1;have t2:=H1.out.cell 0 rfl 2;dsimp only at t0 t1 t2;clear k1)
   | (go_at_call 41;(refine(CP2.out _ H1.out.bel).mono ?_);rintro e w2 ⟨v2,rfl,hown,k2⟩;have k2:Bel _ w2:=k2;have K2:=Lib.hid (Bel.of H1.out.bel k2);have CJ:=Lib.hid (sl_join hown hml hg2.out);obtain⟨p2,c2,hv2⟩:=qan hown;subst hv2;clear k2 hown)
   | (go_at_call 40;(with_reducible refine CJ.out.mono ?_);rintro e w3 ⟨rfl,k3⟩;have K3:=Lib.hid (Bel.of K2.out k3);clear k3))
  go_ret;exact⟨rfl,K3.out⟩
 ·rw [if_pos h0]at htx
  subst htx;have hb:(RC != 0)=true:=bne_t h0;clear h0 hck CPt
  go_enter Tryz.func15,Tryz.ntmps15
  go_wp2_with (go_at_call 9;(with_reducible refine(CC.out _ hS0.out.bel).mono ?_);rintro e w1 ⟨rfl,k1⟩;have k1:Bel _ w1:=k1;have H1:=Lib.hid (hS0.out.belw k1);clear k1)
  go_ret;exact⟨rfl,H1.out.bel⟩
end
section
open Go.RowKit Ck Ma
def qbe (s:PSchema) (nm p:Str):Option PField:=(msgOf s nm).bind fun m=>qbd m p
def goes (s:PSchema) (g:PField):Bool:=qc2 g && (msgOf s g.tn).isSome
def onFld (o:Option PField) (k:PField->Int × List PField):Int × List PField:=match o with
 | none=>(8,[])
 | some f=>k f
def pgo (s:PSchema) (nm:Str):List PField->Option PField->List Str->Int × List PField
 | acc,_,[]=>(0,acc)
 | acc,none,p :: r=>onFld (qbe s nm p) fun f=>pgo s nm (acc ++ [f]) (some f) r
 | acc,some g,p :: r=>if goes s g=true then onFld (qbe s g.tn p) (fun f=>pgo s nm (acc ++ [f]) (some f) r)else(12,[])
def pathR (s:PSchema) (nm t:Str):Int × List PField:=if t=[]then(1,[])else if(msgOf s nm).isSome=true then pgo s nm [] none (Id.cut 46 t)else(10,[])
theorem qhd (s:PSchema) (nm p:Str):(qa4 s).byName nm p=(qbe s nm p).map fun f=>(f.num,qc2 f,f.tn):=rfl
theorem qnj (s:PSchema) (nm:Str):(envOf s).has nm=(msgOf s nm).isSome:=rfl
theorem qaq (c:UInt8) : ∀l:List UInt8,Id.cut c l=qak c l
 | []=>rfl
 | b :: r=>by
  unfold Id.cut qak;rw [qaq c r];cases qak c r <;> rfl
theorem qjn (s:PSchema) (q p:Str) (r:List Str) {f:PField} (hf:qbe s q p=some f):walkP (envOf s) (qa4 s) q (p :: r)=if r.isEmpty then(0,[f.num])else if goes s f=true then(if(walkP (envOf s) (qa4 s) f.tn r).1=0 then(0,f.num :: (walkP (envOf s) (qa4 s) f.tn r).2)else((walkP (envOf s) (qa4 s) f.tn r).1,[]))else(12,[]):=by
 have hb:=qhd s q p;rw [hf]at hb;show(match (qa4 s).byName q p with|none=>_|some f=>_)=_
 rw [hb];rfl
theorem pgo_walk (s:PSchema) (nm:Str) : ∀(r:List Str) (q p:Str) (acc:List PField) (X:Int × List PField),X=onFld (qbe s q p) (fun f=>pgo s nm (acc ++ [f]) (some f) r) →
  X.1=(walkP (envOf s) (qa4 s) q (p :: r)).1/\(X.1=0->X.2.map PField.num=acc.map PField.num ++ (walkP (envOf s) (qa4 s) q (p :: r)).2)/\(X.1 ≠ 0->X.2=[]):=by
 intro r
 induction r with
 | nil=>
  intro q p acc X hX;cases hf:qbe s q p with
  | none=>
   have hw:walkP (envOf s) (qa4 s) q [p]=(8,[]):=by
    show(match (qa4 s).byName q p with|none=>_|some f=>_)=_
    rw [qhd,hf];rfl
   rw [hf]at hX;have hX2:X=(8,[]):=hX;subst hX2;rw [hw];exact⟨rfl,fun h=>(by cases h),fun _=>rfl⟩
  | some f=>
   rw [hf]at hX;have hX2:X=(0,acc ++ [f]):=hX;subst hX2;rw [qjn s q p [] hf];exact⟨rfl,fun _=>by simp,fun h=>absurd rfl h⟩
 | cons p2 r2 ih=>
  intro q p acc X hX;cases hf:qbe s q p with
  | none=>
   have hw:walkP (envOf s) (qa4 s) q (p :: p2 :: r2)=(8,[]):=by
    show(match (qa4 s).byName q p with|none=>_|some f=>_)=_
    rw [qhd,hf];rfl
   rw [hf]at hX;have hX2:X=(8,[]):=hX;subst hX2;rw [hw];exact⟨rfl,fun h=>(by cases h),fun _=>rfl⟩
  | some f=>
   rw [hf]at hX;have hX2:X=if goes s f=true then onFld (qbe s f.tn p2) (fun f2=>pgo s nm ((acc ++ [f]) ++ [f2]) (some f2) r2)else(12,[]):=hX
   rw [qjn s q p (p2 :: r2) hf,if_neg (by simp)];by_cases hg:goes s f=true
   ·rw [if_pos hg]at hX2 ⊢
    obtain⟨i1,i2,i3⟩:=ih f.tn p2 (acc ++ [f]) X hX2;refine⟨?_,fun h=>?_,i3⟩
    ·rw [i1]
     split
     ·rename_i h0
      exact h0
     ·rfl
    ·rw [i1]at h
     rw [if_pos h,i2 (i1.trans h)];simp
   ·rw [if_neg hg]at hX2 ⊢
    subst hX2;exact⟨rfl,fun h=>(by cases h),fun _=>rfl⟩
theorem qj0 (s:PSchema) (nm t:Str) (ht:t ≠ []) (hp:(qak 46 t).all (qa4 s).part=true):pathM (envOf s) (qa4 s) nm t=(if(pathR s nm t).1=0 then(0,nest ((pathR s nm t).2.map PField.num))else((pathR s nm t).1,[]))/\((pathR s nm t).1 ≠ 0->(pathR s nm t).2=[]):=by
 unfold pathM pathR;rw [if_pos hp,if_neg ht,qnj];by_cases h:(msgOf s nm).isSome=true
 ·rw [if_pos h,if_pos h,qaq]
  obtain⟨p,r,hpr⟩ : ∃p r,qak 46 t=p :: r:=by
   cases e:qak 46 t with
   | nil=>exact absurd e (qby 46 t)
   | cons p r=>exact⟨p,r,rfl⟩
  rw [hpr];obtain⟨i1,i2,i3⟩:=pgo_walk s nm r nm p [] (pgo s nm [] none (p :: r)) rfl;refine⟨?_,i3⟩;rw [i1];by_cases h0:(walkP (envOf s) (qa4 s) nm (p :: r)).1=0
  ·rw [if_pos h0,if_pos h0,i2 (i1.trans h0)]
   rfl
  ·rw [if_neg h0,if_neg h0]
 ·rw [if_neg h,if_neg h]
  exact⟨by simp,fun _=>rfl⟩
theorem qk3 {o:Option PField} {k:PField->Int × List PField} {B:Nat} (h : ∀f,(k f).2.length<=B):(onFld o k).2.length<=B:=by
 cases o with
 | none=>exact Nat.zero_le _
 | some f=>exact h f
theorem qmu (s:PSchema) (nm:Str) : ∀(ps:List Str) (acc:List PField) (last:Option PField),(pgo s nm acc last ps).2.length<=acc.length+ps.length
 | [],acc,last=>by cases last <;> exact Nat.le_add_right _ _
 | p :: r,acc,none=>qk3 fun f=>by
  have:=qmu s nm r (acc ++ [f]) (some f);rw [List.length_append,List.length_singleton]at this;rw [List.length_cons];omega
 | p :: r,acc,some g=>by
  show(if goes s g=true then onFld (qbe s g.tn p) (fun f=>pgo s nm (acc ++ [f]) (some f) r)else((12,[]):Int × List PField)).2.length<=_
  split
  ·exact qk3 fun f=>by
    have:=qmu s nm r (acc ++ [f]) (some f);rw [List.length_append,List.length_singleton]at this;rw [List.length_cons];omega
  ·exact Nat.zero_le _
theorem qgu (s:PSchema) (nm t:Str):(pathR s nm t).2.length<=t.length+1:=by
 unfold pathR
 split
 ·exact Nat.zero_le _
 ·split
  ·have:=qmu s nm (Id.cut 46 t) [] none
   rw [qaq]at this ⊢;have:=qck 46 t;simp only [List.length_nil,Nat.zero_add]at *;omega
  ·exact Nat.zero_le _
structure FE where
 f:PField
 vs:List Value
 h:vs.length=16
def feC (e:FE):List Value:=e.vs
theorem qnw (e:FE):(feC e).length=16:=e.h
def frow (v:Value) (L:List FE):Row:=⟨65,16,v,L.length,L.flatMap feC⟩
def FEok (e:FE):Prop:=e.vs[0]? = some (.int .i64 e.f.num)/\e.vs[2]? = some (.int .i64 e.f.card)/\e.vs[4]? = some (.int .i64 e.f.tk)/\e.vs[5]? = some (.string (S e.f.tn))/\e.vs.toArray.all (·.oneCell')=true
theorem VField.fe {w:World} {vs:List Value} {f:PField} (h:VField w vs f):FEok ⟨f,vs,VField.len _ _ _ h⟩:=by
 have ho:=VField.one _ _ _ h;obtain⟨_,nv,rfl,⟨_,_,_,_,_,_,_,_,rfl,_⟩,h1⟩:=h;exact⟨rfl,rfl,rfl,rfl,ho⟩
theorem qh6 {w0 w:World} {R:List Row} {X:List Box} {v:Value} {L:List FE} {e:FE} (h:ST w0 (⟨65,16,v,L.length+1,L.flatMap feC ++ feC e⟩ :: R) X w):ST w0 (frow v (L ++ [e]) :: R) X w:=by
 unfold frow;rw [List.length_append,List.flatMap_append]
 simpa using h
theorem qnp:(Tryz.prog.info? 65).map (fun i=>(i.zero,i.size,i.bytes))=some (some (.agg #[.int .i64 0,.string ByteArray.empty,.int .i64 0,.int .i64 0,.int .i64 0,.string ByteArray.empty,.string ByteArray.empty,.bool false,.int .i64 0,.int .u64 0,.string ByteArray.empty,.slice none 0 0,.slice none 0 0,.slice none 0 0,.slice none 0 0,.slice none 0 0]),16,240):=by kernel_rfl
end
section
open Go.RowKit Ck Ma
def qoj (w0:World) (R:Int × List PField) (e:Ending) (w':World):Prop := ∃v,e=.returned (.tuple #[v,.int .i64 R.1])/\∃L:List FE,ST w0 [frow v L] [] w'/\(∀x ∈ L,FEok x)/\L.map (·.f)=R.2
theorem qb9 {w0 w:World} {c:Int} (h:Bel w0 w):qoj w0 (c,[]) (.returned (.tuple #[.slice none 0 0,.int .i64 c])) w:=⟨_,rfl,[],((ST.start w0).nilrow 65 16).belw h,fun x hx=>(by cases hx),rfl⟩
theorem ds_Path (mv ev sv:Value) (s:PSchema) (name t:Str) (w0:World) (hs:VSchema w0 [mv,ev,sv] s) (hM:ML w0) (ht:t.length<=1000000000) :
  Calls Tryz.prog 60 #[.agg #[mv,ev,sv],.string (S name),.string (S t)] w0 (qoj w0 (pathR s name t)):=by
 obtain⟨i1,hi1,hy0,hy1,hy2⟩:=info_parts qnp;have CM0:=Lib.hid (fun W (k:Bel w0 W) q=>qbt mv ev sv s q w0 W k hs);obtain⟨_,_,_,he,hm,hev,hsv⟩:=hs;cases he;obtain⟨q2,c2,rfl,hl2⟩:=qa5 hev;obtain⟨q3,c3,rfl,hl3⟩:=qa5 hsv;obtain⟨q1,c1,rfl,hl1⟩:=qa5 hm;clear hm hev hsv;have hS0:=Lib.hid ((ST.start w0).addbox #[.slice q1 s.msgs.length c1,.slice q2 s.enums.length c2,.slice q3 s.svcs.length c3] 26);have HML:=Lib.hid hM;clear hM;by_cases ht0:t=[]
 ·have hr:pathR s name t=(1,[]):=by unfold pathR;rw [if_pos ht0]
  rw [hr];have hte:(S t).toList=[]:=by rw [ByteArray.toList_eq,qbi,ht0]
  have hte2:(S t).toList.isEmpty=true:=by rw [ByteArray.toList_eq,qbi,ht0];rfl
  clear ht0 hr CM0
  go_enter Tryz.func60,Tryz.ntmps60
  go_wp2;go_ret2
  exact qb9 hS0.out.bel
 ·have hte:(S t).toList ≠ []:=by rw [ByteArray.toList_eq,qbi];exact ht0
  have hte2:(S t).toList.isEmpty=false:=by rw [ByteArray.toList_eq,qbi];simpa using ht0
  cases hm:msgOf s name with
  | none=>
   have hr:pathR s name t=(10,[]):=by unfold pathR;rw [if_neg ht0,hm];rfl
   rw [hr];have CM1:=Lib.hid (fun W k=>CM0.out W k name);rw [hm]at CM1;clear hr hm ht0
   go_enter Tryz.func60,Tryz.ntmps60
   go_wp2_with (first
    | (go_at_call 26;(with_reducible refine(CM1.out _ hS0.out.bel).mono ?_);rintro e w1 ⟨vm,rfl,hvs,k1⟩;have k1:Bel _ w1:=k1;have hv0:vm=zMsg:=hvs;subst hv0;have H1:=Lib.hid ((hS0.out.belw k1).addbox zMsg.toArray 57);clear k1 hvs)
    | (refine qa3 (old:=#[.string ⟨#[]⟩,.slice none 0 0,.slice none 0 0,.slice none 0 0,.slice none 0 0]) rfl 57 _ _ rfl w1 rfl w1.heap.size rfl zMsg.toArray rfl rfl ar_M rfl (by simp [zMsg,Value.oneCell']) ?_))
   go_ret2;exact qb9 H1.out.bel
  | some m=>
   have V:=Lib.hid (show pgo s name [] none ((Id.cut 46 t).drop 0)=pathR s name t by unfold pathR;rw [if_neg ht0,hm];rfl);generalize pathR s name t=R at V;have CM1:=Lib.hid (fun W k=>CM0.out W k name);rw [hm]at CM1;have HM:=Lib.hid hm;have CSp:=Lib.hid (fun W (k:Bel w0 W)=>qjc (S t) 46 t W (qbi _) (by rw [qbr];omega) (by obtain⟨q,hq⟩:=HML.out;exact⟨q,k.some hq⟩));have hpl:(Id.cut 46 t).length<=1000000001:=by rw [qaq];have:=qck 46 t;omega
   generalize Id.cut 46 t=ps at V CSp hpl;clear hm ht0
   go_enter Tryz.func60,Tryz.ntmps60
   go_upto_region 4 with(first
    | (go_at_call 26;(with_reducible refine(CM1.out _ hS0.out.bel).mono ?_);rintro e w1 ⟨vm,rfl,hvs,k1⟩;have k1:Bel _ w1:=k1;have HVM:=Lib.hid (show VMsg w0 vm m from hvs);obtain⟨hlen,hone⟩:=qbq hvs;have HVS:=Lib.hid hvs;have Z0:vm.toArray.size=5:=(by rw [List.size_toArray];exact hlen);have Z1:=Lib.hid (show(Tryz.prog.info? 57).map (·.size)=some vm.toArray.size by rw [Z0];exact ar_M);have Z2:=Lib.hid (show(#[.string ⟨#[]⟩,.slice none 0 0,.slice none 0 0,.slice none 0 0,.slice none 0 0]:Array Value).size=vm.toArray.size by rw [Z0];rfl);have HO:=Lib.hid hone;clear hlen hone Z0 hvs;have H1:=Lib.hid ((hS0.out.belw k1).addbox vm.toArray 57);clear k1)
    | (refine qa3 (old:=#[.string ⟨#[]⟩,.slice none 0 0,.slice none 0 0,.slice none 0 0,.slice none 0 0]) rfl 57 _ _ rfl w1 rfl w1.heap.size rfl vm.toArray rfl rfl Z1.out Z2.out HO.out ?_))
   generalize hwz:World.alloc w1 _=wz at H1 ⊢;clear hwz;generalize hmb:w1.heap.size=mb at H1 ⊢;clear hmb HVS HO Z2 CM1
   go_upto_region 7 with(fail)
   have C7:=Lib.hid (CSp.out wz H1.out.bel);have H2':=H1.out.addbox (ps.map strV).toArray 9;have H2:=Lib.hid H2';have hpz:(ps.map strV).toArray.size=ps.length:=by simp
   go_wp2_with (go_at_call 35;(with_reducible refine C7.out.mono ?_);rintro e w2 ⟨rfl,hw2⟩;subst hw2)
   generalize hwp:World.alloc wz _=wp at H2 ⊢;clear hwp;generalize hpb:wz.heap.size=pb at H2 ⊢;clear hpb;have H3:=Lib.hid (show ST w0 [frow (.slice none 0 0) []] [⟨pb,(ps.map strV).toArray,9⟩,⟨mb,vm.toArray,57⟩,⟨w0.heap.size,#[.slice q1 s.msgs.length c1,.slice q2 s.enums.length c2,.slice q3 s.svcs.length c3],26⟩] wp from H2.out.nilrow 65 16);have hvl:=VMsg.len _ _ _ HVM.out;clear H1 H2 H2' C7 CSp hS0 Z1
   go_loopw [10,29] (fun vo i wr => ∃(n:Nat) (L:List FE) (vm:List Value),n<=ps.length/\i=.int .i64 n/\Hid (L.length=n)/\Hid (ST w0 [frow vo L] [⟨pb,(ps.map strV).toArray,9⟩,⟨mb,vm.toArray,57⟩,⟨w0.heap.size,#[.slice q1 s.msgs.length c1,.slice q2 s.enums.length c2,.slice q3 s.svcs.length c3],26⟩] wr)/\Hid (vm.length=5)/\Hid (L=[]->VMsg w0 vm m)/\Hid (∀x ∈ L,FEok x)/\Hid (pgo s name (L.map (·.f)) (L.map (·.f)).getLast? (ps.drop n)=R)) (fun _ i _=>ps.length-(intOf i).toNat)
   case atStart=>exact⟨0,[],vm,by omega,rfl,Lib.hid rfl,H3,Lib.hid hvl,Lib.hid (fun _=>HVM.out),Lib.hid (fun x hx=>(by cases hx)),V⟩
   case round=>as_aux_lemma=>
    clear V H3 HVM hvl;obtain⟨n,L,vq,hLk,rfl,hLn,hS,hvm,hvM,hO,hx⟩:=hrel;obtain⟨qo,co,hvo⟩:=qan (hS.out.row 0 rfl);dsimp only [frow]at hvo;rw [hLn.out]at hvo;by_cases hlt:n<ps.length
    ·have hki:(n:Int)<(ps.length:Int):=by omega
     have c0:=(hS.out.cell 0 rfl n).trans (show(ps.map strV).toArray[n]? = some (.string (S ps[n]))by simp [strV,hlt]);dsimp only at c0;have hst:=hx.out;rw [List.drop_eq_getElem_cons hlt]at hst;clear hx;generalize ps[n]=p at *;by_cases hL:L=[]
     ·have HVQ:=Lib.hid (hvM.out hL)
      subst hL;have hn0:n=0:=hLn.out.symm;subst hn0;have hn02:((0:Nat):Int)=0:=rfl;have hst2:onFld (qbe s name p) (fun f=>pgo s name ([] ++ [f]) (some f) (ps.drop (0+1)))=R:=hst;subst hvo;have HQ:=Lib.hid (show ST w0 [frow (.slice qo 0 co) []] [⟨pb,(ps.map strV).toArray,9⟩,⟨mb,vq.toArray,57⟩,⟨w0.heap.size,#[.slice q1 s.msgs.length c1,.slice q2 s.enums.length c2,.slice q3 s.svcs.length c3],26⟩] wr from hS.out);have ZQ:=Lib.hid (show(Tryz.prog.info? 57).map (·.size)=some vq.toArray.size by rw [List.size_toArray,hvm.out];exact ar_M);clear hst hS hO hvM
      go_upto_region 15 with(fail)
      have HMQ:=HM;have HBq:=Lib.hid (HQ.out.box 1 rfl);have CF:=Lib.hid (fun W (kk:Bel w0 W)=>qea (m:=m) (vs:=vq) p w0 W kk HVQ.out);cases hf:qbd m p with
      | none=>
       have hfa:qbe s name p=none:=by unfold qbe;rw [HMQ.out];exact hf
       rw [hfa]at hst2;have hr:((8,[]):Int × List PField)=R:=hst2;subst hr;rw [hf]at CF;clear hst2 hfa
       go_wp2_with (first
        | (refine qa6 rfl 57 _ rfl mb vq.toArray 57 rfl HBq.out _ Tryz.underlying57 rfl ZQ.out ?_)
        | (go_at_call 81;(with_reducible refine(CF.out _ HQ.out.bel).mono ?_);rintro e w6 ⟨vf,rfl,hvf,k6⟩;have k6:Bel _ w6:=k6;have hv0:vf=zFld:=hvf;subst hv0;have H6:=Lib.hid ((HQ.out.belw k6).addbox zFld.toArray 65);clear k6 hvf)
        | (refine qa3 (old:=#[.int .i64 0,.string ⟨#[]⟩,.int .i64 0,.int .i64 0,.int .i64 0,.string ⟨#[]⟩,.string ⟨#[]⟩,.bool false,.int .i64 0,.int .u64 0,.string ⟨#[]⟩,.slice none 0 0,.slice none 0 0,.slice none 0 0,.slice none 0 0,.slice none 0 0]) rfl 65 _ _ rfl w6 rfl w6.heap.size rfl zFld.toArray rfl rfl ar_F rfl (by simp [zFld,Value.oneCell']) ?_))
       go_ret2;exact qb9 H6.out.bel
      | some f=>
       have hfa:qbe s name p=some f:=by unfold qbe;rw [HMQ.out];exact hf
       rw [hfa]at hst2;have hst3:pgo s name ([] ++ [f]) (some f) (ps.drop (0+1))=R:=hst2;have HST:=Lib.hid hst3;rw [hf]at CF;clear hst2 hst3 hfa hf
       go_upto_region 18 with(first
        | (refine qa6 rfl 57 _ rfl mb vq.toArray 57 rfl HBq.out _ Tryz.underlying57 rfl ZQ.out ?_)
        | (go_at_call 81;(with_reducible refine(CF.out _ HQ.out.bel).mono ?_);rintro e w6 ⟨vs,rfl,hvs,k6⟩;have k6:Bel _ w6:=k6;have HVF:=Lib.hid (show VField w0 vs f from hvs);obtain⟨hlen,hone⟩:=qc9 hvs;have HVS:=Lib.hid hvs;have Z0:vs.toArray.size=16:=(by rw [List.size_toArray];exact hlen);have Z1:=Lib.hid (show(Tryz.prog.info? 65).map (·.size)=some vs.toArray.size by rw [Z0];exact ar_F);have Z2:=Lib.hid (show(#[.int .i64 0,.string ⟨#[]⟩,.int .i64 0,.int .i64 0,.int .i64 0,.string ⟨#[]⟩,.string ⟨#[]⟩,.bool false,.int .i64 0,.int .u64 0,.string ⟨#[]⟩,.slice none 0 0,.slice none 0 0,.slice none 0 0,.slice none 0 0,.slice none 0 0]:Array Value).size=vs.toArray.size by rw [Z0];rfl);have HO:=Lib.hid hone;clear hlen hone Z0 hvs;have H6:=Lib.hid ((HQ.out.belw k6).addbox vs.toArray 65);clear k6)
        | (refine qa3 (old:=#[.int .i64 0,.string ⟨#[]⟩,.int .i64 0,.int .i64 0,.int .i64 0,.string ⟨#[]⟩,.string ⟨#[]⟩,.bool false,.int .i64 0,.int .u64 0,.string ⟨#[]⟩,.slice none 0 0,.slice none 0 0,.slice none 0 0,.slice none 0 0,.slice none 0 0]) rfl 65 _ _ rfl w6 rfl w6.heap.size rfl vs.toArray rfl rfl Z1.out Z2.out HO.out ?_))
       generalize hw7:World.alloc w6 _=w7 at H6 ⊢;clear hw7;generalize hfb7:w6.heap.size=fb7 at H6 ⊢;clear hfb7;have HB6:=Lib.hid (H6.out.box 0 rfl);have HS6:=Lib.hid (H6.out.belw ((Bel.refl _).alloc (.cells vs.toArray 65)));have hv16:vs.length=1*16:=VField.len _ _ _ HVF.out;have HV16:=Lib.hid hv16;have HO1:=Lib.hid (show ∀u ∈ vs,u.oneCell'=true from fun u hu=>(Array.all_eq_true_iff_forall_mem.1 HO.out) u (by simpa using hu));have hLl:0<=1000000001:=by omega
       have hfold:List.foldl (fun(cs:Array Value) (x:Value × Nat)=>cs.setIfInBounds x.snd x.fst) #[.int .i64 0,.string ⟨#[]⟩,.int .i64 0,.int .i64 0,.int .i64 0,.string ⟨#[]⟩,.string ⟨#[]⟩,.bool false,.int .i64 0,.int .u64 0,.string ⟨#[]⟩,.slice none 0 0,.slice none 0 0,.slice none 0 0,.slice none 0 0,.slice none 0 0] vs.zipIdx=vs.toArray:=qdn Z2.out;have hvl16:vs.length=16:=VField.len _ _ _ HVF.out;clear hv16 HVS Z2
       go_wp2_with (first
        | (refine qa6 rfl 65 _ rfl fb7 vs.toArray 65 rfl HB6.out _ Tryz.underlying65 rfl Z1.out ?_)
        | (at_builtin;refine wpList_append_lies _ rfl _ _ 52 rfl w0.heap.size 65 i1 (.agg #[.int .i64 0,.string ⟨#[]⟩,.int .i64 0,.int .i64 0,.int .i64 0,.string ⟨#[]⟩,.string ⟨#[]⟩,.bool false,.int .i64 0,.int .u64 0,.string ⟨#[]⟩,.slice none 0 0,.slice none 0 0,.slice none 0 0,.slice none 0 0,.slice none 0 0]) 16 240 Tryz.underlying52 hi1 hy0 hy1 hy2 rfl (by decide) _ 0 _ rfl (HS6.out.row 0 rfl) ⟨w7.heap.size,0,none⟩ 1 1 vs rfl HV16.out (qau _ _ _) HO1.out (by decide) (by unfold maxLen;omega) (by omega) HS6.out.bel.size (w7.heap.size+1) (by simp) ?_))
       intro g9 cap9 w9 hown hgrow hfr hlt9;have HH:=Lib.hid (qh6 (e:=⟨f,vs,hvl16⟩) (HS6.out.grow 0 rfl hgrow hown (qbc hfr (by simp))))
       have hfe : ∀x ∈ ([]:List FE) ++ [(⟨f,vs,hvl16⟩:FE)],FEok x:=fun x hx=>by
        rcases List.mem_append.1 hx with hx|hx
        ·exact(by cases hx)
        ·rw [List.mem_singleton]at hx
         subst hx;exact HVF.out.fe
       have HFE:=Lib.hid hfe;have HVL:=Lib.hid hvl16;have HNX:=Lib.hid (show(([]:List FE) ++ [(⟨f,vs,hvl16⟩:FE)]).length=0+1 by rw [List.length_append,List.length_singleton,List.length_nil]);have HST2:=Lib.hid (show pgo s name ((([]:List FE) ++ [(⟨f,vs,hvl16⟩:FE)]).map (·.f)) ((([]:List FE) ++ [(⟨f,vs,hvl16⟩:FE)]).map (·.f)).getLast? (ps.drop (0+1))=R by simpa using HST.out);generalize hLX:([]:List FE) ++ [(⟨f,vs,hvl16⟩:FE)]=LX2 at HH HFE HNX HST2;have hne:LX2 ≠ []:=by rw [←hLX];simp
       have HNE:=Lib.hid hne;clear hown hgrow hfr hfold hLX hne hfe hvl16;go_wp2;go_roundw
       case rel=>exact⟨0+1,LX2,vq,by omega,by go_num,HNX,Lib.hid HH.out.dropbox0,Lib.hid hvm.out,Lib.hid (fun h=>absurd h HNE.out),HFE,HST2⟩
       case measure=>simp [intOf];omega
     ·rcases qj2 qnw (hS.out.row 0 rfl)with⟨_,h2⟩|⟨gq,cq,hvo2,hgb,hgl,hcl,hel⟩
      ·exact absurd h2 hL
      dsimp only [frow]at hvo2 hel;rw [hvo,hLn.out]at hvo2;cases hvo2;subst hvo;have hLp:0<n:=by rw [←hLn.out];exact List.length_pos_iff.2 hL
      obtain⟨kp,hkk⟩ : ∃kp,n=kp+1:=⟨n-1,by omega⟩;have hkpl:kp<L.length:=by rw [hLn.out];omega
      have hkpi:(kp:Int)<(n:Int):=by omega
      have hki0:(0:Int)<(n:Int):=by omega
      have jw2:IntKind.i64.wrap (kp:Int)=(kp:Int):=IntWalk.i64_in _ (by omega);have jw:IntKind.i64.wrap ((n:Int)-1)=(kp:Int):=by rw [show(n:Int)-1=(kp:Int)by omega];exact jw2
      have hgx:L[kp]? = some L[kp]:=List.getElem?_eq_getElem hkpl
      have hlast:(L.map (·.f)).getLast? = some L[kp].f:=by
       rw [List.getLast?_eq_getElem?,List.length_map,hLn.out,hkk,Nat.add_sub_cancel,List.getElem?_map,hgx];rfl
      rw [hlast]at hst;have HC:=Lib.hid (fun j u hu=>hel kp _ hgx j u hu);have hok:=hO.out _ (List.getElem_mem hkpl);generalize L[kp]=ge at *;obtain⟨g,gvs,ghl⟩:=ge;obtain⟨g0,g2,g4,g5,gon⟩:=hok;dsimp only [feC]at HC g0 g2 g4 g5 gon hst;have HC2:=Lib.hid HC.out;have G2:=Lib.hid (show gvs.toArray[2]? = some (.int .i64 g.card)by simpa using g2);have G4:=Lib.hid (show gvs.toArray[4]? = some (.int .i64 g.tk)by simpa using g4);have G5:=Lib.hid (show gvs.toArray[5]? = some (.string (S g.tn))by simpa using g5);have GO:=Lib.hid gon;have GL:=Lib.hid ghl;have Y0:gvs.toArray.size=16:=by rw [List.size_toArray];exact ghl
      have Y1:=Lib.hid (show(Tryz.prog.info? 65).map (·.size)=some gvs.toArray.size by rw [Y0];exact ar_F);have Y2:=Lib.hid (show(#[.int .i64 0,.string ⟨#[]⟩,.int .i64 0,.int .i64 0,.int .i64 0,.string ⟨#[]⟩,.string ⟨#[]⟩,.bool false,.int .i64 0,.int .u64 0,.string ⟨#[]⟩,.slice none 0 0,.slice none 0 0,.slice none 0 0,.slice none 0 0,.slice none 0 0]:Array Value).size=gvs.toArray.size by rw [Y0];rfl);have HA:=Lib.hid (hS.out.addbox gvs.toArray 65);have a0:=HA.out.cell 3 rfl 0;have a1:=HA.out.cell 3 rfl 1;have a2:=HA.out.cell 3 rfl 2;have a5:=(HA.out.cell 0 rfl 5).trans G5.out;dsimp only at a0 a1 a2 a5;have CM1:=Lib.hid (CM0.out _ HA.out.bel g.tn);have HZq:=Lib.hid (show vq.toArray.size=5 by rw [List.size_toArray];exact hvm.out);clear hel hgx hlast g0 g2 g4 g5 gon Y0 hkk hvM hvm;cases hms:msgOf s g.tn with
      | none=>
       rw [hms]at CM1;have hg:goes s g=false:=by unfold goes;rw [hms];simp
       have hst2:((12,[]):Int × List PField)=R:=by rw [←hst];show _=(if goes s g=true then _ else _);rw [hg];rfl
       subst hst2;clear hst hg hms
       go_upto_region 13 with(first
        | (refine qaa rfl 65 _ rfl gq (kp*16) 16 gvs rfl HC2.out ag_F sz_F GL.out ?_)
        | (refine qa3 (old:=#[.int .i64 0,.string ⟨#[]⟩,.int .i64 0,.int .i64 0,.int .i64 0,.string ⟨#[]⟩,.string ⟨#[]⟩,.bool false,.int .i64 0,.int .u64 0,.string ⟨#[]⟩,.slice none 0 0,.slice none 0 0,.slice none 0 0,.slice none 0 0,.slice none 0 0]) rfl 65 _ _ rfl wr rfl wr.heap.size rfl gvs.toArray rfl rfl Y1.out Y2.out GO.out ?_)
        | (go_at_call 26;(with_reducible refine CM1.out.mono ?_);rintro e w4 ⟨vn,rfl,hvn,k4⟩;have k4:Bel _ w4:=k4;have hv0:vn=zMsg:=hvn;subst hv0;have H4:=Lib.hid (HA.out.belw k4);have HB4:=Lib.hid (H4.out.box 2 rfl);clear k4 hvn)
        | (refine qa8 rfl 57 _ _ rfl mb zMsg.toArray vq.toArray 57 rfl rfl HB4.out ar_M HZq.out (by simp [zMsg,Value.oneCell']) ?_))
       have HQ:=Lib.hid (H4.out.setrowbox 2 rfl zMsg.toArray);generalize hwq:World.setRow _ _ _=wq at HQ ⊢;clear hwq;have b4:=(HQ.out.cell 0 rfl 4).trans G4.out;have b2:=(HQ.out.cell 0 rfl 2).trans G2.out;dsimp only at b4 b2;by_cases h1:g.tk=10
       ·have h1b:(g.tk != 10)=false:=bne_f h1
        by_cases h4:g.card=4
        ·have h4b:(g.card == 4)=true:=ieq h4
         go_wp2;go_ret2
         exact qb9 HQ.out.bel
        ·have h4b:(g.card == 4)=false:=ine h4
         by_cases h5:g.card=5
         ·have h5b:(g.card == 5)=true:=ieq h5
          go_wp2;go_ret2
          exact qb9 HQ.out.bel
         ·have h5b:(g.card == 5)=false:=ine h5
          clear h1 h4 h5;go_wp2;go_ret2;exact qb9 HQ.out.bel
       ·have h1b:(g.tk != 10)=true:=bne_t h1
        go_wp2;go_ret2
        exact qb9 HQ.out.bel
      | some mq=>
       rw [hms]at CM1;have HMQ:=Lib.hid hms;clear hms
       go_upto_region 13 with(first
        | (refine qaa rfl 65 _ rfl gq (kp*16) 16 gvs rfl HC2.out ag_F sz_F GL.out ?_)
        | (refine qa3 (old:=#[.int .i64 0,.string ⟨#[]⟩,.int .i64 0,.int .i64 0,.int .i64 0,.string ⟨#[]⟩,.string ⟨#[]⟩,.bool false,.int .i64 0,.int .u64 0,.string ⟨#[]⟩,.slice none 0 0,.slice none 0 0,.slice none 0 0,.slice none 0 0,.slice none 0 0]) rfl 65 _ _ rfl wr rfl wr.heap.size rfl gvs.toArray rfl rfl Y1.out Y2.out GO.out ?_)
        | (go_at_call 26;(with_reducible refine CM1.out.mono ?_);rintro e w4 ⟨vn,rfl,hvn,k4⟩;have k4:Bel _ w4:=k4;have HVN:=Lib.hid (show VMsg w0 vn mq from hvn);have hvn5:=VMsg.len _ _ _ HVN.out;have NO:=Lib.hid (VMsg.one _ _ _ HVN.out);have N0:vn.toArray.size=5:=(by rw [List.size_toArray];exact hvn5);have N1:=Lib.hid (show(Tryz.prog.info? 57).map (·.size)=some vn.toArray.size by rw [N0];exact ar_M);have N2:=Lib.hid (show vq.toArray.size=vn.toArray.size by rw [N0];exact HZq.out);have HVN5:=Lib.hid hvn5;have H4:=Lib.hid (HA.out.belw k4);have HB4:=Lib.hid (H4.out.box 2 rfl);clear k4 hvn N0 hvn5)
        | (refine qa8 rfl 57 _ _ rfl mb vn.toArray vq.toArray 57 rfl rfl HB4.out N1.out N2.out NO.out ?_))
       have HQ:=Lib.hid (H4.out.setrowbox 2 rfl vn.toArray);generalize hwq:World.setRow _ _ _=wq at HQ ⊢;clear hwq;have b4:=(HQ.out.cell 0 rfl 4).trans G4.out;have b2:=(HQ.out.cell 0 rfl 2).trans G2.out;dsimp only at b4 b2;by_cases h1:g.tk=10
       ·have h1b:(g.tk != 10)=false:=bne_f h1
        by_cases h4:g.card=4
        ·have h4b:(g.card == 4)=true:=ieq h4
         have hg:goes s g=false:=by unfold goes qc2;simp [*]
         have hst2:((12,[]):Int × List PField)=R:=by rw [←hst];show _=(if goes s g=true then _ else _);rw [hg];rfl
         subst hst2;clear hst hg;go_wp2;go_ret2;exact qb9 HQ.out.bel
        ·have h4b:(g.card == 4)=false:=ine h4
         by_cases h5:g.card=5
         ·have h5b:(g.card == 5)=true:=ieq h5
          have hg:goes s g=false:=by unfold goes qc2;simp [*]
          have hst2:((12,[]):Int × List PField)=R:=by rw [←hst];show _=(if goes s g=true then _ else _);rw [hg];rfl
          subst hst2;clear hst hg;go_wp2;go_ret2;exact qb9 HQ.out.bel
         ·have h5b:(g.card == 5)=false:=ine h5
          have hg:goes s g=true:=by unfold goes qc2;rw [HMQ.out];simp [h1,h4,h5]
          have hst2:onFld (qbe s g.tn p) (fun f=>pgo s name (L.map (·.f) ++ [f]) (some f) (ps.drop (n+1)))=R:=by rw [←hst];show _=(if goes s g=true then _ else _);rw [hg,if_pos rfl]
          clear hst hg h1 h4 h5
          go_upto_region 15 with(fail)
          clear a0 a1 a2 a5 b4 b2 jw jw2;have HBq:=Lib.hid (HQ.out.box 2 rfl);have CF:=Lib.hid (fun W (kk:Bel w0 W)=>qea (m:=mq) (vs:=vn) p w0 W kk HVN.out);cases hf:qbd mq p with
          | none=>
           have hfa:qbe s g.tn p=none:=by unfold qbe;rw [HMQ.out];exact hf
           rw [hfa]at hst2;have hr:((8,[]):Int × List PField)=R:=hst2;subst hr;rw [hf]at CF;clear hst2 hfa
           go_wp2_with (first
            | (refine qa6 rfl 57 _ rfl mb vn.toArray 57 rfl HBq.out _ Tryz.underlying57 rfl N1.out ?_)
            | (go_at_call 81;(with_reducible refine(CF.out _ HQ.out.bel).mono ?_);rintro e w6 ⟨vf,rfl,hvf,k6⟩;have k6:Bel _ w6:=k6;have hv0:vf=zFld:=hvf;subst hv0;have H6:=Lib.hid ((HQ.out.belw k6).addbox zFld.toArray 65);clear k6 hvf)
            | (refine qa3 (old:=#[.int .i64 0,.string ⟨#[]⟩,.int .i64 0,.int .i64 0,.int .i64 0,.string ⟨#[]⟩,.string ⟨#[]⟩,.bool false,.int .i64 0,.int .u64 0,.string ⟨#[]⟩,.slice none 0 0,.slice none 0 0,.slice none 0 0,.slice none 0 0,.slice none 0 0]) rfl 65 _ _ rfl w6 rfl w6.heap.size rfl zFld.toArray rfl rfl ar_F rfl (by simp [zFld,Value.oneCell']) ?_))
           go_ret2;exact qb9 H6.out.bel
          | some f=>
           have hfa:qbe s g.tn p=some f:=by unfold qbe;rw [HMQ.out];exact hf
           rw [hfa]at hst2;have hst3:pgo s name (L.map (·.f) ++ [f]) (some f) (ps.drop (n+1))=R:=hst2;have HST:=Lib.hid hst3;rw [hf]at CF;clear hst2 hst3 hfa hf
           go_upto_region 18 with(first
            | (refine qa6 rfl 57 _ rfl mb vn.toArray 57 rfl HBq.out _ Tryz.underlying57 rfl N1.out ?_)
            | (go_at_call 81;(with_reducible refine(CF.out _ HQ.out.bel).mono ?_);rintro e w6 ⟨vs,rfl,hvs,k6⟩;have k6:Bel _ w6:=k6;have HVF:=Lib.hid (show VField w0 vs f from hvs);obtain⟨hlen,hone⟩:=qc9 hvs;have HVS:=Lib.hid hvs;have Z0:vs.toArray.size=16:=(by rw [List.size_toArray];exact hlen);have Z1:=Lib.hid (show(Tryz.prog.info? 65).map (·.size)=some vs.toArray.size by rw [Z0];exact ar_F);have Z2:=Lib.hid (show(#[.int .i64 0,.string ⟨#[]⟩,.int .i64 0,.int .i64 0,.int .i64 0,.string ⟨#[]⟩,.string ⟨#[]⟩,.bool false,.int .i64 0,.int .u64 0,.string ⟨#[]⟩,.slice none 0 0,.slice none 0 0,.slice none 0 0,.slice none 0 0,.slice none 0 0]:Array Value).size=vs.toArray.size by rw [Z0];rfl);have HO:=Lib.hid hone;clear hlen hone Z0 hvs;have H6:=Lib.hid ((HQ.out.belw k6).addbox vs.toArray 65);clear k6)
            | (refine qa3 (old:=#[.int .i64 0,.string ⟨#[]⟩,.int .i64 0,.int .i64 0,.int .i64 0,.string ⟨#[]⟩,.string ⟨#[]⟩,.bool false,.int .i64 0,.int .u64 0,.string ⟨#[]⟩,.slice none 0 0,.slice none 0 0,.slice none 0 0,.slice none 0 0,.slice none 0 0]) rfl 65 _ _ rfl w6 rfl w6.heap.size rfl vs.toArray rfl rfl Z1.out Z2.out HO.out ?_))
           generalize hw7:World.alloc w6 _=w7 at H6 ⊢;clear hw7;generalize hfb7:w6.heap.size=fb7 at H6 ⊢;clear hfb7;have HB6:=Lib.hid (H6.out.box 0 rfl);have HS6:=Lib.hid (H6.out.belw ((Bel.refl _).alloc (.cells vs.toArray 65)));have hv16:vs.length=1*16:=VField.len _ _ _ HVF.out;have HV16:=Lib.hid hv16;have HO1:=Lib.hid (show ∀u ∈ vs,u.oneCell'=true from fun u hu=>(Array.all_eq_true_iff_forall_mem.1 HO.out) u (by simpa using hu));have hLl:L.length<=1000000001:=by rw [hLn.out];omega
           have hfold:List.foldl (fun(cs:Array Value) (x:Value × Nat)=>cs.setIfInBounds x.snd x.fst) #[.int .i64 0,.string ⟨#[]⟩,.int .i64 0,.int .i64 0,.int .i64 0,.string ⟨#[]⟩,.string ⟨#[]⟩,.bool false,.int .i64 0,.int .u64 0,.string ⟨#[]⟩,.slice none 0 0,.slice none 0 0,.slice none 0 0,.slice none 0 0,.slice none 0 0] vs.zipIdx=vs.toArray:=qdn Z2.out;have hvl16:vs.length=16:=VField.len _ _ _ HVF.out;clear hv16 HVS Z2
           go_wp2_with (first
            | (refine qa6 rfl 65 _ rfl fb7 vs.toArray 65 rfl HB6.out _ Tryz.underlying65 rfl Z1.out ?_)
            | (at_builtin;refine wpList_append_lies _ rfl _ _ 52 rfl w0.heap.size 65 i1 (.agg #[.int .i64 0,.string ⟨#[]⟩,.int .i64 0,.int .i64 0,.int .i64 0,.string ⟨#[]⟩,.string ⟨#[]⟩,.bool false,.int .i64 0,.int .u64 0,.string ⟨#[]⟩,.slice none 0 0,.slice none 0 0,.slice none 0 0,.slice none 0 0,.slice none 0 0]) 16 240 Tryz.underlying52 hi1 hy0 hy1 hy2 rfl (by decide) _ L.length _ rfl (HS6.out.row 0 rfl) ⟨w7.heap.size,0,none⟩ 1 1 vs rfl HV16.out (qau _ _ _) HO1.out (by decide) (by unfold maxLen;omega) (by omega) HS6.out.bel.size (w7.heap.size+1) (by simp) ?_))
           intro g9 cap9 w9 hown hgrow hfr hlt9;have HH:=Lib.hid (qh6 (e:=⟨f,vs,hvl16⟩) (HS6.out.grow 0 rfl hgrow hown (qbc hfr (by simp))))
           have hfe : ∀x ∈ L ++ [(⟨f,vs,hvl16⟩:FE)],FEok x:=fun x hx=>by
            rcases List.mem_append.1 hx with hx|hx
            ·exact hO.out x hx
            ·rw [List.mem_singleton]at hx
             subst hx;exact HVF.out.fe
           have HFE:=Lib.hid hfe;have HVL:=Lib.hid hvl16;have HNX:=Lib.hid (show(L ++ [(⟨f,vs,hvl16⟩:FE)]).length=n+1 by rw [List.length_append,List.length_singleton,hLn.out]);have HST2:=Lib.hid (show pgo s name ((L ++ [(⟨f,vs,hvl16⟩:FE)]).map (·.f)) ((L ++ [(⟨f,vs,hvl16⟩:FE)]).map (·.f)).getLast? (ps.drop (n+1))=R by simpa using HST.out);generalize hLX:L ++ [(⟨f,vs,hvl16⟩:FE)]=LX2 at HH HFE HNX HST2;have hne:LX2 ≠ []:=by rw [←hLX];simp
           have HNE:=Lib.hid hne;clear hown hgrow hfr hfold hLX hne hfe hvl16;go_wp2;go_roundw
           case rel=>exact⟨n+1,LX2,vn,by omega,by go_num,HNX,Lib.hid HH.out.dropbox0.dropbox0,Lib.hid HVN5.out,Lib.hid (fun h=>absurd h HNE.out),HFE,HST2⟩
           case measure=>simp [intOf];omega
       ·have h1b:(g.tk != 10)=true:=bne_t h1
        have hg:goes s g=false:=by unfold goes qc2;simp [*]
        have hst2:((12,[]):Int × List PField)=R:=by rw [←hst];show _=(if goes s g=true then _ else _);rw [hg];rfl
        subst hst2;clear hst hg;go_wp2;go_ret2;exact qb9 HQ.out.bel
    ·have hr:(0,L.map (·.f))=R:=by
      have:=hx.out;rw [List.drop_of_length_le (by omega)]at this;rw [←this];cases (L.map (·.f)).getLast? <;> rfl
     subst hr;subst hvo;clear hx;go_wp2;go_ret2;exact⟨_,rfl,L,hS.out.dropbox0.dropbox0.dropbox0,hO.out,rfl⟩
end
end Go.Proofs.YtaaneecceiefoaaGreatDoor
