import Derived.Test.YtaaneecceiefoaaGreatDoorMaMem
import Derived.Test.YtaaneecceiefoaaGreatDoorMaEnvD
import Derived.Test.YtaaneecceiefoaaGreatDoorMaCheck
import Derived.Test.YtaaneecceiefoaaGreatDoorMaNorm
import Derived.Test.YtaaneecceiefoaaGreatDoorMzCov
set_option maxRecDepth 100000
set_option maxHeartbeats 4000000
set_option linter.unusedVariables false
set_option linter.unusedSimpArgs false
namespace Go.Proofs.YtaaneecceiefoaaGreatDoor
section
open Ma
theorem fm_len {α β:Type} (f:α->Option β) (l:List α):(l.filterMap f).length<=l.length:=List.length_filterMap_le f l
theorem qio : ∀{l:List PMask},(isort l).length=l.length
 | []=>rfl
 | x :: l=>by
  have hi : ∀m:List PMask,(ins x m).length=m.length+1:=by
   intro m
   induction m with
   | nil=>rfl
   | cons y m ih=>
    unfold ins
    split
    ·rfl
    ·simp [ih]
  show(ins x (isort l)).length=_
  rw [hi,qio (l:=l)];rfl
theorem qjw (A B:Nat) : ∀(n:Nat) {a b:List PMask},Wd A n a->Wd B n b->Wd (A+B) n (union n a b)
 | 0,_,_,_,_=>trivial
 | n+1,a,b,ha,hb=>by
  refine⟨?_,fun z hz=>?_⟩
  ·show(isort _).length<=_
   rw [qio];unfold qbo;rw [List.length_append,List.length_map];have:=List.length_filter_le (fun y=>(find a y.num).isNone) b;have:=ha.1;have:=hb.1;omega
  ·have hz2:=mem_isort.1 hz
   unfold qbo at hz2;rcases List.mem_append.1 hz2 with h|h
   ·obtain⟨x,hx,rfl⟩:=List.mem_map.1 h
    have h1:=ha.2 x hx;unfold uniA
    split
    ·rename_i y hy
     unfold joinF;show Wd _ n (if _ then _ else _)
     split
     ·exact Wd.nil _ _
     ·exact qjw A B n h1 (hb.find hy)
    ·exact h1.mono (by omega)
   ·exact(hb.2 z (List.mem_filter.1 h).1).mono (by omega)
theorem qjx {E:Env} {B:Nat} (hE : ∀nm,(E.nums nm).length<=B) : ∀(n:Nat) {nm:List UInt8} {a b:List PMask},Wd B n a->Wd B n (minus E n nm a b)
 | 0,_,_,_,_=>trivial
 | n+1,nm,a,b,ha=>by
  refine⟨Nat.le_trans (fm_len _ _) ha.1,fun z hz=>?_⟩;obtain⟨x,hx,hz⟩:=List.mem_filterMap.1 hz;have h1:=ha.2 x hx;unfold minO at hz
  split at hz
  ·cases hz;exact h1
  ·split at hz
   ·cases hz
   ·split at hz
    ·cases hz
    ·cases hz
     refine qjx hE n ?_;unfold fromF
     split
     ·cases n with
      | zero=>trivial
      | succ n=>
       refine⟨by unfold all;rw [List.length_map];exact hE _,fun y hy=>?_⟩;unfold all at hy;obtain⟨k,_,rfl⟩:=List.mem_map.1 hy;exact Wd.nil _ _
     ·exact h1
theorem wd_nest : ∀(n:Nat) (p:List Int),Wd 1 n (nest p)
 | 0,_=>trivial
 | n+1,[]=>Wd.nil _ _
 | n+1,k :: r=>⟨by simp [nest],fun x hx=>by
   have:x=.mk k (nest r):=by simpa [nest]using hx
   subst this
   exact wd_nest n r⟩
end
section
open Go.RowKit Ck Ma
def allE (f:PField):ME:=⟨.mk f.num [],none,0⟩
theorem mk_all (mv ev sv:Value) (s:PSchema) (name:Str) (m:PMsg) (hm:msgOf s name=some m) (hB:m.fields.length<=1000000000) (w0:World) (hs:VSchema w0 [mv,ev,sv] s) :
  Calls Tryz.prog 47 #[.agg #[mv,ev,sv],.string (S name)] w0 (qe2 (fun _=>False) 1 w0 (all (envOf s) name)):=by
 have CM0:=Lib.hid (fun W (k:Bel w0 W)=>qc1 mv ev sv s name w0 W k hs)
 have hr:all (envOf s) name=m.fields.map fun f=>PMask.mk f.num []:=by
  show(((msgOf s name).map fun m=>m.fields.map (·.num)).getD []).map _=_
  rw [hm];show(m.fields.map _).map _=_
  rw [List.map_map];rfl
 rw [hr,hm]at *;have V:=Lib.hid (show([]:List ME).map (·.x) ++ (m.fields.drop 0).map (fun f=>PMask.mk f.num [])=m.fields.map fun f=>PMask.mk f.num []from rfl);generalize (m.fields.map fun f=>PMask.mk f.num [])=Z at V;obtain⟨i1,hi1,hy0,hy1,hy2⟩:=info_parts qe6;obtain⟨_,_,_,he,hm,hev,hsv⟩:=hs;cases he;obtain⟨q2,c2,rfl,hl2⟩:=qa6 hev;obtain⟨q3,c3,rfl,hl3⟩:=qa6 hsv;obtain⟨q1,c1,rfl,hl1⟩:=qa6 hm;clear hm hev hsv;have hS0:=Lib.hid ((ST.start w0).addbox #[.slice q1 s.msgs.length c1,.slice q2 s.enums.length c2,.slice q3 s.svcs.length c3] 26);clear hr
 go_enter Tryz.func47,Tryz.ntmps47
 go_upto_region 2 with(first
 | (go_at_call 26;(with_reducible refine(CM0.out _ hS0.out.bel).mono ?_);rintro e w1 ⟨vm,rfl,hvs,k1⟩;have k1:Bel _ w1:=k1;have HVM:=Lib.hid (show VMsg _ vm m from hvs);obtain⟨hlen,hone⟩:=qcr hvs;have HVS:=Lib.hid hvs;have Z0:vm.toArray.size=5:=(by rw [List.size_toArray];exact hlen);have Z1:=Lib.hid (show(Tryz.prog.info? 57).map (·.size)=some vm.toArray.size by rw [Z0];exact ar_M);have Z2:=Lib.hid (show(#[.string ⟨#[]⟩,.slice none 0 0,.slice none 0 0,.slice none 0 0,.slice none 0 0]:Array Value).size=vm.toArray.size by rw [Z0];rfl);have HO:=Lib.hid hone;clear hlen hone Z0 hvs;have H1:=Lib.hid ((hS0.out.belw k1).addbox vm.toArray 57);clear k1)
 | (refine qa3 (old:=#[.string ⟨#[]⟩,.slice none 0 0,.slice none 0 0,.slice none 0 0,.slice none 0 0]) rfl 57 _ _ rfl w1 rfl w1.heap.size rfl vm.toArray rfl rfl Z1.out Z2.out HO.out ?_))
 generalize hwz:World.alloc w1 _=wz at H1 ⊢;clear hwz;generalize hmb:w1.heap.size=mb at H1 ⊢;clear hmb HVS HO Z2 Z1 CM0 hS0;obtain⟨fv,_,_,_,hvv,hfl,_⟩:=HVM.out;obtain⟨f1,d1,rfl,_⟩:=qa6 hfl;obtain⟨_,_,hq,hl,hcap,hel⟩:=hfl;cases hq;have EL:=Lib.hid hel;have m1:=(H1.out.cell 0 rfl 1).trans (show vm.toArray[1]? = some (.slice f1 m.fields.length d1)by rw [hvv];rfl);dsimp only at m1;have HT:=Lib.hid (H1.out.nilrow 61 2);clear hel hcap hvv H1 HVM;go_wp2
 go_loopw [7,19] (fun vo i wr => ∃(k:Nat) (L:List ME),k<=m.fields.length/\i=.int .i64 k/\Hid (ST w0 [medge vo L] [⟨mb,vm.toArray,57⟩,⟨w0.heap.size,#[.slice q1 s.msgs.length c1,.slice q2 s.enums.length c2,.slice q3 s.svcs.length c3],26⟩] wr)/\L.length<=k/\Hid (RowOK (fun _=>False) w0.heap.size 0 vo L wr)/\Hid (L.map (·.x) ++ (m.fields.drop k).map (fun f=>PMask.mk f.num [])=Z)) (fun _ i _=>m.fields.length-(intOf i).toNat)
 case atStart=>exact⟨0,[],by omega,rfl,HT,by simp,Lib.hid (RowOK.nil _ _ _ _ _),V⟩
 case round=>as_aux_lemma=>
  clear V HT m1;obtain⟨k,L,hk,rfl,hS,hLk,hO,hx⟩:=hrel;obtain⟨qo,co,hvo⟩:=qap (hS.out.row 0 rfl);dsimp only [medge]at hvo;subst hvo;by_cases hlt:k<m.fields.length
  ·obtain⟨b,off,rfl,hbs,vs,hce,hvs⟩:=EL.out k _ (List.getElem?_eq_getElem hlt)
   have hki:(k:Int)<(m.fields.length:Int):=by omega
   have hst:=hx.out;rw [map_at hlt]at hst;have HST:=Lib.hid hst;have hlen:=VField.len _ _ _ hvs;have HL:=Lib.hid hlen;have HO:=Lib.hid (VField.one _ _ _ hvs);have HC:=Lib.hid (fun i v hi=>hS.out.bel.some (hce i v hi));have Z0:vs.toArray.size=16:=by rw [List.size_toArray];exact hlen
   have Z1:=Lib.hid (show(Tryz.prog.info? 65).map (·.size)=some vs.toArray.size by rw [Z0];exact ar_F);have Z2:=Lib.hid (show(#[.int .i64 0,.string ⟨#[]⟩,.int .i64 0,.int .i64 0,.int .i64 0,.string ⟨#[]⟩,.string ⟨#[]⟩,.bool false,.int .i64 0,.int .u64 0,.string ⟨#[]⟩,.slice none 0 0,.slice none 0 0,.slice none 0 0,.slice none 0 0,.slice none 0 0]:Array Value).size=vs.toArray.size by rw [Z0];rfl);have HX:=Lib.hid (hS.out.addbox vs.toArray 65);have x0:=(HX.out.cell 0 rfl 0).trans (VField.at hvs).1;dsimp only at x0;have O1:=Lib.hid (hO.out.bel ((Bel.refl wr).alloc (.cells vs.toArray 65)));clear hce hvs hlen Z0 hx hst hS hO;generalize m.fields[k]=f at *
   go_upto_region 6 with(first
    | (refine qae rfl 65 _ rfl b (off+k*16) 16 vs rfl HC.out ag_F sz_F HL.out ?_)
    | (refine qa3 (old:=#[.int .i64 0,.string ⟨#[]⟩,.int .i64 0,.int .i64 0,.int .i64 0,.string ⟨#[]⟩,.string ⟨#[]⟩,.bool false,.int .i64 0,.int .u64 0,.string ⟨#[]⟩,.slice none 0 0,.slice none 0 0,.slice none 0 0,.slice none 0 0,.slice none 0 0]) rfl 65 _ _ rfl wr rfl wr.heap.size rfl vs.toArray rfl rfl Z1.out Z2.out HO.out ?_))
   generalize hwa:World.alloc wr _=wa at HX O1 x0 ⊢;clear hwa;have H3:=Lib.hid (HX.out.belw ((Bel.refl wa).alloc (.cells #[.int .i64 f.num,.slice none 0 0] 61)));have O3:=Lib.hid (O1.out.bel ((Bel.refl wa).alloc (.cells #[.int .i64 f.num,.slice none 0 0] 61)))
   go_wp2_with (at_builtin;refine wpList_append_lies _ rfl _ _ 27 rfl w0.heap.size 61 i1 (.agg #[.int .i64 0,.slice none 0 0]) 2 32 Tryz.underlying27 hi1 hy0 hy1 hy2 rfl (by decide) _ L.length _ rfl (H3.out.row 0 rfl) ⟨wa.heap.size,0,none⟩ 1 1 [.int .i64 f.num,.slice none 0 0] rfl rfl (qbc _ _ _) (by simp [Value.oneCell']) (by decide) (by unfold maxLen;omega) (by omega) H3.out.bel.size (wa.heap.size+1) (by simp) ?_)
   intro g4 cap4 w4 hown hgrow hfr hlt4;have O4:=Lib.hid (RowOK.snoc (e:=allE f) (m:=L.length+1) (c:=cap4) O3.out H3.out (fun b hb=>hb.elim) (MaskD.nil 0 _) hgrow hfr (by simp));have H4:=Lib.hid (qaw (e:=allE f) (H3.out.grow 0 rfl hgrow hown (qby hfr (by simp))));clear hown hgrow hfr;go_wp2;go_roundw
   case rel=>exact⟨k+1,L ++ [allE f],by omega,by go_num,Lib.hid H4.out.dropbox0,by rw [List.length_append,List.length_singleton];omega,O4,by simpa [allE]using HST⟩
   case measure=>simp [intOf];omega
  ·have hkl:k=m.fields.length:=by omega
   have hki : ¬(k:Int)<(m.fields.length:Int):=by omega
   have hz:L.map (·.x)=Z:=by have:=hx.out;rw [hkl,List.drop_length]at this;simpa using this
   have HR:=Lib.hid (qfp hS.out hO.out (by omega) hz);clear hx;go_wp2;go_ret;exact⟨_,rfl,HR.out,hS.out.bel⟩
end
end Go.Proofs.YtaaneecceiefoaaGreatDoor
