import Derived.Test.YtaaneecceiefoaaGreatDoorMaCheck
import Derived.Test.YtaaneecceiefoaaGreatDoorMaText2
import Derived.Test.YtaaneecceiefoaaGreatDoorShelf
import Derived.Test.YtaaneecceiefoaaGreatDoorCkOut
set_option maxRecDepth 100000
set_option maxHeartbeats 4000000
set_option linter.unusedVariables false
set_option linter.unusedSimpArgs false
namespace Go.Proofs.YtaaneecceiefoaaGreatDoor
section
open Go.RowKit Ck Ma
theorem qi3 {E:Env} {M:Names} : ∀(n:Nat) {nm:List UInt8} {l:List PMask},Dp n l->l ≠ []->textN E M n nm l ≠ []
 | 0,_,l,h,hl=>absurd h hl
 | n+1,nm,[],_,hl=>absurd rfl hl
 | n+1,nm,x :: r,h,_=>by
  show(List.flatMap _ (x :: r)) ≠ []
  rw [List.flatMap_cons];intro e;have e1:=(List.append_eq_nil_iff.1 e).1
  split at e1
  ·cases e1
  ·rename_i hw
   have:=qi3 (E:=E) (M:=M) n (nm:=E.ty nm x.num) (h x (List.mem_cons_self ..)) (fun hs=>hw (whole_iff.2 hs));exact this (List.map_eq_nil_iff.1 e1)
theorem qmc {E:Env} {M:Names} : ∀(n:Nat) {nm:List UInt8} {l:List PMask}, ∀q ∈ textN E M n nm l,q ≠ []
 | 0,_,_,q,hq=>(by cases hq)
 | n+1,nm,l,q,hq=>by
  obtain⟨x,_,hx⟩:=List.mem_flatMap.1 hq
  split at hx
  ·rw [List.mem_singleton]at hx
   subst hx;simp
  ·obtain⟨r,_,rfl⟩:=List.mem_map.1 hx
   simp
def ptx (E:Env) (M:Names) (n:Nat) (nm pre:List UInt8) (x:PMask):List (List UInt8):=if whole x then [pre ++ M.name nm x.num]else(textN E M n (E.ty nm x.num) x.subs).map fun q=>(pre ++ M.name nm x.num ++ [46]) ++ glue 46 q
theorem ptx_all (E:Env) (M:Names) (n:Nat) (nm pre:List UInt8) (l:List PMask):(textN E M (n+1) nm l).map (fun q=>pre ++ glue 46 q)=l.flatMap (ptx E M n nm pre):=by
 show(l.flatMap _).map _=_
 rw [List.map_flatMap]
 congr 1
 funext x
 unfold ptx
 split
 ·rfl
 ·rw [List.map_map]
  refine List.map_congr_left fun q hq=>?_
  show pre ++ glue 46 (M.name nm x.num :: q)=_
  rw [qnc 46 _ (qmc n q hq)];simp
theorem flat_at {α β:Type} {f:α->List β} {l:List α} {k:Nat} (h:k<l.length):(l.drop k).flatMap f=f l[k] ++ (l.drop (k+1)).flatMap f:=by
 rw [List.drop_eq_getElem_cons h,List.flatMap_cons]
def srow (v:Value) (xs:List Str):Row:=⟨9,1,v,xs.length,nmC xs⟩
theorem qk7 {w0 w:World} {R:List Row} {X:List Box} {v:Value} {xs ys:List Str} (h:ST w0 (⟨9,1,v,xs.length+ys.length,nmC xs ++ nmC ys⟩ :: R) X w):ST w0 (srow v (xs ++ ys) :: R) X w:=by
 unfold srow;rw [List.length_append];have:nmC (xs ++ ys)=nmC xs ++ nmC ys:=by unfold nmC;simp
 rw [this];exact h
theorem nmC_len (xs:List Str):(nmC xs).length=xs.length:=by unfold nmC;simp
theorem nmC_one (xs:List Str) : ∀u ∈ nmC xs,u.oneCell'=true:=by
 intro u hu;unfold nmC at hu;obtain⟨x,_,rfl⟩:=List.mem_map.1 hu;rfl
theorem qme:(Tryz.prog.info? 9).map (fun i=>(i.zero,i.size,i.bytes))=some (some (.string ByteArray.empty),1,16):=by kernel_rfl
def StrOut (w:World) (us:List Str) (e:Ending) (w':World):Prop := ∃v,e=.returned v/\w'.ownsRow w.heap.size 9 1 v us.length (nmC us)/\Bel w w'
theorem qjg {w:World} {B:Nat} {v:Value} {us:List Str} (h:w.ownsRow B 9 1 v us.length (nmC us)) (hl:0<us.length) : ∃g c,v=.slice (some ⟨g,0,none⟩) us.length c/\∀j u,(nmC us)[j]? = some u->w.cell? ((⟨g,0,none⟩:Addr).add j)=some u:=by
 rcases h.2 with⟨_,h0⟩|⟨g,cap,cur,rfl,_⟩
 ·omega
 ·exact⟨g,cap,rfl,fun j u hu=>h.cells (g:=g) rfl j u hu⟩
def PathsC (n:Nat):Prop := ∀(A:Nat->Prop) (mv ev sv:Value) (s:PSchema) (name pre:Str) (v:Value) (l:List PMask) (w:World),VSchema w [mv,ev,sv] s->MaskD A n w v l->Nm (envOf s) n name l->(textN (envOf s) (qa7 s) n name l).length<=1000000->(∀m ∈ s.msgs, ∀f ∈ m.fields,f.name.length<=1000000)->pre.length+n*2000000<=1000000000000000->Calls Tryz.prog 41 #[.agg #[mv,ev,sv],.string (S name),.string (S pre),v] w (StrOut w ((textN (envOf s) (qa7 s) n name l).map fun q=>pre ++ glue 46 q))
theorem qdw (n:Nat) (IH:n ≠ 0->PathsC n):PathsC (n+1):=by
 intro A mv ev sv s name pre v l w0 hs hl0 hN hcnt hnm hpre;obtain⟨i0,hi,hz0,hz1,hz2⟩:=info_parts qme;have HS:=Lib.hid (fun(W:World) (k:Bel w0 W)=>VSchema.staysB hs k);have CM0:=Lib.hid (fun W (k:Bel w0 W)=>qc1 mv ev sv s name w0 W k hs);obtain⟨_,_,_,he,hm,hev,hsv⟩:=hs;cases he;obtain⟨q2,c2,rfl,hl2⟩:=qa6 hev;obtain⟨q3,c3,rfl,hl3⟩:=qa6 hsv;obtain⟨q1,c1,rfl,hl1⟩:=qa6 hm;clear hm hev hsv;obtain⟨p,c,rfl,hl,hcap,hel⟩:=hl0;have EL:=Lib.hid hel;clear hel hcap;have hS0:=Lib.hid ((ST.start w0).addbox #[.slice q1 s.msgs.length c1,.slice q2 s.enums.length c2,.slice q3 s.svcs.length c3] 26);obtain⟨m,hm⟩ : ∃m,msgOf s name=some m:=Option.isSome_iff_exists.1 hN.1;have hmem:m ∈ s.msgs:=List.mem_of_find?_eq_some hm
 have HNX:=Lib.hid (show ∀x ∈ l, ∃f,qas m x.num=some f/\(x.subs=[] ∨ Nm (envOf s) n f.tn x.subs)from fun x hx=>by
  obtain⟨f,hf,hh⟩:=hN.2.2 x hx;rw [fld_of hm]at hf;obtain⟨g,hg,rfl⟩:=Option.map_eq_some_iff.1 hf
  exact⟨g,hg,hh.imp id (fun h=>h.2)⟩)
 have HFN:=Lib.hid (show ∀f ∈ m.fields,f.name.length<=1000000 from hnm m hmem);have HNM:=Lib.hid hnm;have V:=Lib.hid (show([]:List Str) ++ (l.drop 0).flatMap (ptx (envOf s) (qa7 s) n name pre)=(textN (envOf s) (qa7 s) (n+1) name l).map (fun q=>pre ++ glue 46 q)by rw [ptx_all];rfl);have htl:((textN (envOf s) (qa7 s) (n+1) name l).map (fun q=>pre ++ glue 46 q)).length<=1000000:=by rw [List.length_map];exact hcnt
 generalize (textN (envOf s) (qa7 s) (n+1) name l).map (fun q=>pre ++ glue 46 q)=T at V htl;rw [hm]at CM0;have HM:=Lib.hid hm;have zpre:(S pre).size=pre.length:=qdg _;have hpl:pre.length+2000000+n*2000000<=1000000000000000:=by rw [Nat.add_mul]at hpre;omega
 have HPL:=Lib.hid hpl;have hpl2:pre.length<=999999998000000:=by omega
 clear hm hN hcnt hnm hpre hmem hpl
 go_enter Tryz.func41,Tryz.ntmps41
 go_upto_region 2 with(first
  | (go_at_call 26;(with_reducible refine(CM0.out _ hS0.out.bel).mono ?_);rintro e w1 ⟨vm,rfl,hvs,k1⟩;have k1:Bel _ w1:=k1;have HVM:=Lib.hid (show VMsg w0 vm m from hvs);obtain⟨hlen,hone⟩:=qcr hvs;have HVS:=Lib.hid hvs;have Z0:vm.toArray.size=5:=(by rw [List.size_toArray];exact hlen);have Z1:=Lib.hid (show(Tryz.prog.info? 57).map (·.size)=some vm.toArray.size by rw [Z0];exact ar_M);have Z2:=Lib.hid (show(#[.string ⟨#[]⟩,.slice none 0 0,.slice none 0 0,.slice none 0 0,.slice none 0 0]:Array Value).size=vm.toArray.size by rw [Z0];rfl);have HO:=Lib.hid hone;clear hlen hone Z0 hvs;have H1:=Lib.hid ((hS0.out.belw k1).addbox vm.toArray 57);clear k1)
  | (refine qa3 (old:=#[.string ⟨#[]⟩,.slice none 0 0,.slice none 0 0,.slice none 0 0,.slice none 0 0]) rfl 57 _ _ rfl w1 rfl w1.heap.size rfl vm.toArray rfl rfl Z1.out Z2.out HO.out ?_))
 generalize hwz:World.alloc w1 _=wz at H1 ⊢;clear hwz;generalize hmb:w1.heap.size=mb at H1 ⊢;clear hmb HVS HO Z2;have HZ1:=Z1;have H2:=Lib.hid (show ST w0 [srow (.slice none 0 0) []] [⟨mb,vm.toArray,57⟩,⟨w0.heap.size,#[.slice q1 s.msgs.length c1,.slice q2 s.enums.length c2,.slice q3 s.svcs.length c3],26⟩] wz from H1.out.nilrow 9 1);have CFd:=Lib.hid (fun W (kk:Bel w0 W) q=>qfy (m:=m) (vs:=vm) q w0 W kk HVM.out);clear Z1 CM0 hS0 H1
 go_wp2_with (fail)
 go_loopw [11,24] (fun vo i wr => ∃(k:Nat) (xs:List Str),k<=l.length/\i=.int .i64 k/\Hid (ST w0 [srow vo xs] [⟨mb,vm.toArray,57⟩,⟨w0.heap.size,#[.slice q1 s.msgs.length c1,.slice q2 s.enums.length c2,.slice q3 s.svcs.length c3],26⟩] wr)/\Hid (xs ++ (l.drop k).flatMap (ptx (envOf s) (qa7 s) n name pre)=T)) (fun _ i _=>l.length-(intOf i).toNat)
 case atStart=>exact⟨0,[],by omega,rfl,H2,V⟩
 case round=>as_aux_lemma=>
  clear V H2;obtain⟨k,xs,hk,rfl,hS,hx⟩:=hrel;obtain⟨qo,co,hvo⟩:=qap (hS.out.row 0 rfl);dsimp only [srow]at hvo;subst hvo;by_cases hlt:k<l.length
  ·obtain⟨g,off,sv,rfl,hbs,hab,hc0,hc1,hd⟩:=EL.out k _ (List.getElem?_eq_getElem hlt)
   obtain⟨sp,sc,rfl⟩:=hd.form;have hki:(k:Int)<(l.length:Int):=by omega
   have e0:=hS.out.bel.some hc0;have e1:=hS.out.bel.some hc1;have hst:=hx.out;rw [flat_at hlt]at hst;obtain⟨f,hf,hsub⟩:=HNX.out _ (List.getElem_mem hlt)
   have hxl:xs.length+(ptx (envOf s) (qa7 s) n name pre l[k]).length<=1000000:=by
    have:=congrArg List.length hst;simp only [List.length_append]at this;omega
   clear hx hab EL HNX;generalize l[k]=x at *;have hfm:f ∈ m.fields:=List.mem_of_find?_eq_some hf;have hfl:=HFN.out f hfm;have zf:(S f.name).size=f.name.length:=qdg _;have hty:(envOf s).ty name x.num=f.tn:=by unfold Env.ty;rw [fld_of HM.out,hf];rfl
   have hna:(qa7 s).name name x.num=f.name:=by show(((msgOf s name).bind fun m=>qas m x.num).map (·.name)).getD []=_;rw [HM.out];show((qas m x.num).map (·.name)).getD []=_;rw [hf];rfl
   have DX:=Lib.hid (show MaskD A n w0 (.slice sp x.subs.length sc) x.subs from hd);have HX:=Lib.hid (hS.out.addbox #[.int .i64 x.num,.slice sp x.subs.length sc] 61);have HBm:=Lib.hid (HX.out.box 1 rfl);have CF1:=CFd.out (wr.alloc (.cells #[.int .i64 x.num,.slice sp x.subs.length sc] 61)) HX.out.bel x.num;rw [hf]at CF1;have CF:=Lib.hid CF1;clear hc0 hc1 hd hf hfm CF1
   go_upto_region 7 with(first
    | (refine qa5 rfl 57 _ rfl mb vm.toArray 57 rfl HBm.out _ Tryz.underlying57 rfl HZ1.out ?_)
    | (go_at_call 27;(with_reducible refine CF.out.mono ?_);rintro e w1 ⟨vs,rfl,hvs,k1⟩;have k1:Bel _ w1:=k1;have HVF:=Lib.hid (show VField w0 vs f from hvs);obtain⟨hlen,hone⟩:=qcs hvs;have HVS:=Lib.hid hvs;have Z0:vs.toArray.size=16:=(by rw [List.size_toArray];exact hlen);have Z1:=Lib.hid (show(Tryz.prog.info? 65).map (·.size)=some vs.toArray.size by rw [Z0];exact ar_F);have Z2:=Lib.hid (show(#[.int .i64 0,.string ⟨#[]⟩,.int .i64 0,.int .i64 0,.int .i64 0,.string ⟨#[]⟩,.string ⟨#[]⟩,.bool false,.int .i64 0,.int .u64 0,.string ⟨#[]⟩,.slice none 0 0,.slice none 0 0,.slice none 0 0,.slice none 0 0,.slice none 0 0]:Array Value).size=vs.toArray.size by rw [Z0];rfl);have HO:=Lib.hid hone;clear hlen hone Z0 hvs;have H1:=Lib.hid ((HX.out.belw k1).addbox vs.toArray 65);clear k1)
    | (refine qa3 (old:=#[.int .i64 0,.string ⟨#[]⟩,.int .i64 0,.int .i64 0,.int .i64 0,.string ⟨#[]⟩,.string ⟨#[]⟩,.bool false,.int .i64 0,.int .u64 0,.string ⟨#[]⟩,.slice none 0 0,.slice none 0 0,.slice none 0 0,.slice none 0 0,.slice none 0 0]) rfl 65 _ _ rfl w1 rfl w1.heap.size rfl vs.toArray rfl rfl Z1.out Z2.out HO.out ?_))
   generalize hwz2:World.alloc w1 _=wy at H1 ⊢;clear hwz2;generalize hfb:w1.heap.size=fb at H1 ⊢;clear hfb HX HBm CF HVS Z2;have F1:=Lib.hid (VField.at HVF.out).2.1;have F5:=Lib.hid (VField.at HVF.out).2.2.2.2;have x0:=H1.out.cell 1 rfl 0;have x1:=H1.out.cell 1 rfl 1;dsimp only at x0 x1;cases hwx:whole x with
   | true=>
    have CX:=Lib.hid (fun p c W=>qa9 hwx p c W);have hpt:ptx (envOf s) (qa7 s) n name pre x=[pre ++ f.name]:=by unfold ptx;rw [if_pos hwx,hna]
    rw [hpt]at hst hxl;have HST:=Lib.hid hst;have hxl2:xs.length+1<=1000000:=hxl;have hsum:(S pre).size+(S f.name).size<=9223372036854775807:=by omega
    have hcat:S pre ++ S f.name=S (pre ++ f.name):=S_of (qg1 _ _);clear hwx hpt hst hty hna hsub hxl
    go_upto_region 8 with(go_at_call 28;(with_reducible refine(CX.out _ _ _).mono ?_);rintro e w2 ⟨rfl,k2⟩;have k2:Bel _ w2:=k2;have H2:=Lib.hid (H1.out.belw k2);have t1:=(H2.out.cell 0 rfl 1).trans F1.out;dsimp only at t1;clear x0 x1;clear k2)
    have HB:=Lib.hid (H2.out.belw ((Bel.refl _).alloc (.cells #[.string (S (pre ++ f.name))] 9)))
    go_wp2_with (at_builtin;refine wpList_append_lies _ rfl _ _ 54 rfl w0.heap.size 9 i0 (.string ByteArray.empty) 1 16 Tryz.underlying54 hi hz0 hz1 hz2 rfl (by decide) _ xs.length _ rfl (HB.out.row 0 rfl) ⟨w2.heap.size,0,none⟩ 1 1 [.string (S (pre ++ f.name))] rfl rfl (qbc _ _ _) (by simp [Value.oneCell']) (by decide) (by unfold maxLen;omega) (by omega) HB.out.bel.size (w2.heap.size+1) (by simp) ?_)
    intro g9 cap9 w9 hown hgrow hfr hlt9;have HH:=Lib.hid (qk7 (ys:=[pre ++ f.name]) (HB.out.grow 0 rfl hgrow hown (qby hfr (by simp))));clear hown hgrow hfr hcat hsum;go_wp2;go_roundw
    case rel=>exact⟨k+1,xs ++ [pre ++ f.name],by omega,by go_num,Lib.hid HH.out.dropbox0.dropbox0,by simpa using HST⟩
    case measure=>simp [intOf];omega
   | false=>
    have CX:=Lib.hid (fun p c W=>qa9 hwx p c W);have hsn:=qbj hwx;have hpt:ptx (envOf s) (qa7 s) n name pre x=(textN (envOf s) (qa7 s) n f.tn x.subs).map fun q=>(pre ++ f.name ++ [46]) ++ glue 46 q:=by unfold ptx;rw [hwx,if_neg Bool.false_ne_true,hna,hty]
    rw [hpt]at hst hxl;have hdp:Dp n x.subs:=DX.out.dp;have hne:=qi3 (E:=envOf s) (M:=qa7 s) n (nm:=f.tn) hdp hsn;have hcn:(textN (envOf s) (qa7 s) n f.tn x.subs).length<=1000000:=by rw [List.length_map]at hxl;omega
    have hpr2:(pre ++ f.name ++ [46]).length+n*2000000<=1000000000000000:=by
     simp only [List.length_append,List.length_singleton];have:=HPL.out;omega
    have CI:=Lib.hid (fun W (k:Bel w0 W) (h:MaskD A n W (.slice sp x.subs.length sc) x.subs)=>IH (DX.out.ne hsn) A (.slice q1 s.msgs.length c1) (.slice q2 s.enums.length c2) (.slice q3 s.svcs.length c3) s f.tn (pre ++ f.name ++ [46]) _ x.subs W (HS.out W k) h (hsub.resolve_left hsn) hcn HNM.out hpr2);have hul:0<((textN (envOf s) (qa7 s) n f.tn x.subs).map fun q=>(pre ++ f.name ++ [46]) ++ glue 46 q).length:=by rw [List.length_map];exact List.length_pos_iff.2 hne
    generalize ((textN (envOf s) (qa7 s) n f.tn x.subs).map fun q=>(pre ++ f.name ++ [46]) ++ glue 46 q)=us at hst hxl CI hul;have HST:=Lib.hid hst;have hsum:(S pre).size+(S f.name).size<=9223372036854775807:=by omega
    have hcat:S pre ++ S f.name=S (pre ++ f.name):=S_of (qg1 _ _);have zs:(S (pre ++ f.name)).size=pre.length+f.name.length:=by rw [qdg,List.length_append]
    have hsum2:(S (pre ++ f.name)).size+(S [46]).size<=9223372036854775807:=by rw [zs];show _+1<=_;omega
    have hcat2:S (pre ++ f.name) ++ ⟨#[46]⟩=S (pre ++ f.name ++ [46]):=S_of (qg1 _ (S [46]));generalize pre ++ f.name ++ [46]=PP at CI hcat2;clear hwx hpt hst hty hna hsub hsn hdp hne hcn hpr2
    go_wp2_with (first
     | (go_at_call 28;(with_reducible refine(CX.out _ _ _).mono ?_);rintro e w2 ⟨rfl,k2⟩;have k2:Bel _ w2:=k2;have H2:=Lib.hid (H1.out.belw k2);have t1:=(H2.out.cell 0 rfl 1).trans F1.out;have t5:=(H2.out.cell 0 rfl 5).trans F5.out;have a0:=H2.out.cell 3 rfl 0;have a1:=H2.out.cell 3 rfl 1;have a2:=H2.out.cell 3 rfl 2;have u1:=H2.out.cell 1 rfl 1;dsimp only at t1 t5 a0 a1 a2 u1;clear x0 x1;clear k2)
     | (go_at_call 41;(with_reducible refine(CI.out _ H2.out.bel (DX.out.bel H2.out.bel)).mono ?_);rintro e w4 ⟨v4,rfl,hown4,k4⟩;have k4:Bel _ w4:=k4;have H4:=Lib.hid (H2.out.belw k4);obtain⟨g4,cap4,hv4,hcl4⟩:=qjg hown4 hul;subst hv4;have HC4:=Lib.hid hcl4;clear k4 hown4 hcl4)
     | (at_builtin;refine wpList_append_lies _ rfl _ _ 54 rfl w0.heap.size 9 i0 (.string ByteArray.empty) 1 16 Tryz.underlying54 hi hz0 hz1 hz2 rfl (by decide) _ xs.length _ rfl (H4.out.row 0 rfl) ⟨g4,0,none⟩ us.length cap4 (nmC us) rfl (by rw [nmC_len,Nat.mul_one]) HC4.out (nmC_one us) hul (by unfold maxLen;omega) (by omega) H4.out.bel.size w4.heap.size rfl ?_))
    intro g9 cap9 w9 hown hgrow hfr hlt9;have HH:=Lib.hid (qk7 (ys:=us) (H4.out.grow 0 rfl hgrow hown (qby hfr (by simp))));clear hown hgrow hfr hcat hsum hcat2 hsum2;go_wp2;go_roundw
    case rel=>exact⟨k+1,xs ++ us,by omega,by go_num,Lib.hid HH.out.dropbox0.dropbox0,by simpa using HST⟩
    case measure=>simp [intOf];omega
  ·have hkl:k=l.length:=by omega
   have hz:xs=T:=by have:=hx.out;rw [hkl,List.drop_length]at this;simpa using this
   subst hz;clear hx EL HNX;go_wp2;go_ret;exact⟨_,rfl,hS.out.row 0 rfl,hS.out.bel⟩
theorem ql3 : ∀n:Nat,PathsC (n+1)
 | 0=>qdw 0 (fun h=>absurd rfl h)
 | n+1=>qdw (n+1) (fun _=>ql3 n)
end
section
open Go.RowKit Ck Ma
theorem qin : ∀l:List (List UInt8),Lib.join l [44]=glue 44 l
 | []=>rfl
 | [x]=>Lib.join_one x [44]
 | x :: y :: r=>by
  have ih:=qin (y :: r);show _=x ++ 44 :: glue 44 (y :: r)
  rw [←ih];simp [Lib.join,List.intercalate,List.intersperse]
theorem qmu {w:World} {B:Nat} {v:Value} {us:List Str} (h:w.ownsRow B 9 1 v us.length (nmC us)):(us=[]/\v=.slice none 0 0) ∨ ∃g c,v=.slice (some ⟨g,0,none⟩) us.length c/\us.length<=c/\g<w.heap.size/\∀j x,us[j]? = some x->w.cell? ⟨g,0+j,none⟩=some (.string (S x)):=by
 rcases h.2 with⟨rfl,h0⟩|⟨g,cap,cur,rfl,h1,h2,h3,_⟩
 ·exact .inl ⟨List.length_eq_zero_iff.1 h0,rfl⟩
 ·refine .inr ⟨g,cap,rfl,h3,(Array.getElem?_eq_some_iff.1 h2).1,fun j x hx=>?_⟩
  have:=h.cells (g:=g) rfl j (.string (S x)) (by unfold nmC;rw [List.getElem?_map,hx];rfl);rw [Addr.add_lit]at this;exact this
theorem sl_join {w:World} {B:Nat} {v:Value} {us:List Str} (h:w.ownsRow B 9 1 v us.length (nmC us)) (hl:us.length<=1000000) (hg:(glue 44 us).length<=140737488355328):Calls Tryz.prog 40 #[v,.string ⟨#[44]⟩] w fun e w'=>e=.returned (.string (S (glue 44 us)))/\Bel w w':=by
 rcases qmu h with⟨rfl,rfl⟩|⟨g,c,rfl,hc,hgl,hce⟩
 ·refine(Tryz.strings_Join_none none 0 ⟨#[44]⟩ w).mono fun e w' ⟨he,hw⟩=>?_
  subst hw;exact⟨he,Bel.refl _⟩
 ·have hmm:(us.map S).map (fun x=>x.data.toList)=us:=by
   rw [List.map_map];exact List.map_id us
  have hj:Lib.join ((us.map S).map (fun x=>x.data.toList)) (⟨#[44]⟩:ByteArray).data.toList=glue 44 us:=by rw [hmm];exact qin us
  have hlen:us.length=(us.map S).length:=by simp
  have hcon:=Tryz.strings_Join g 0 c (us.map S) ⟨#[44]⟩ w (fun j x hx=>by
   rw [List.getElem?_map]at hx;cases hu:us[j]? with
   | none=>rw [hu]at hx;cases hx
   | some u=>
    rw [hu]at hx;cases hx
    exact hce j u hu) hgl (by rw [←hlen];omega) (by rw [←hlen];exact hc) (by rw [hj];exact hg)
  rw [←hlen]at hcon;refine hcon.mono fun e w' ⟨he,hw⟩=>⟨?_,hw⟩
  rw [he,hj];rfl
theorem mk_Text (n:Nat) (A:Nat->Prop) (mv ev sv:Value) (s:PSchema) (name:Str) (v:Value) (l:List PMask) (w0:World) (hs:VSchema w0 [mv,ev,sv] s) (hl:MaskD A (n+1) w0 v l) (hcnt:(textN (envOf s) (qa7 s) (n+1) name l).length<=1000000) (hnm : ∀m ∈ s.msgs, ∀f ∈ m.fields,f.name.length<=1000000) (hn:(n+1)*2000000<=1000000000000000) (hg:(glue 44 ((textN (envOf s) (qa7 s) (n+1) name l).map (glue 46))).length<=140737488355328) :
  Calls Tryz.prog 15 #[.agg #[mv,ev,sv],.string (S name),v] w0 fun e w'=>e=.returned (.string (S (text (envOf s) (qa7 s) (n+1) name l)))/\Bel w0 w':=by
 have hck:=qfd (E:=envOf s) (n+1) name l hl.dp;have CC:=Lib.hid (fun W (k:Bel w0 W)=>qhk n A mv ev sv s name v l W (VSchema.staysB hs k) (hl.bel k));have CPt:=Lib.hid (fun W (k:Bel w0 W) hN=>ql3 n A mv ev sv s name [] v l W (VSchema.staysB hs k) (hl.bel k) hN hcnt hnm (by simpa using hn));have htx:text (envOf s) (qa7 s) (n+1) name l=if chk (envOf s) (n+1) name l ≠ 0 then []else glue 44 ((textN (envOf s) (qa7 s) (n+1) name l).map (glue 46)):=rfl
 have hme:((textN (envOf s) (qa7 s) (n+1) name l).map fun q=>([]:Str) ++ glue 46 q)=(textN (envOf s) (qa7 s) (n+1) name l).map (glue 46):=rfl;have hml:((textN (envOf s) (qa7 s) (n+1) name l).map (glue 46)).length<=1000000:=by rw [List.length_map];exact hcnt
 rw [hme]at CPt;generalize text (envOf s) (qa7 s) (n+1) name l=R at htx;generalize (textN (envOf s) (qa7 s) (n+1) name l).map (glue 46)=us at htx CPt hg hml;generalize chk (envOf s) (n+1) name l=RC at htx CC hck;obtain⟨mp,mc,rfl⟩:=hl.form;obtain⟨_,_,_,he,hm,hev,hsv⟩:=hs;cases he;obtain⟨q2,c2,rfl,hl2⟩:=qa6 hev;obtain⟨q3,c3,rfl,hl3⟩:=qa6 hsv;obtain⟨q1,c1,rfl,hl1⟩:=qa6 hm;clear hm hev hsv;have hS0:=Lib.hid ((ST.start w0).addbox #[.slice q1 s.msgs.length c1,.slice q2 s.enums.length c2,.slice q3 s.svcs.length c3] 26);clear hl hcnt hnm hn hme;by_cases h0:RC=0
 ·subst h0
  rw [if_neg (by simp)]at htx;subst htx;have CP2:=Lib.hid (fun W k=>CPt.out W k (hck.1 rfl));have hg2:=Lib.hid hg;clear hck CPt hg
  go_enter Tryz.func15,Tryz.ntmps15
  go_wp2_with (first
   | (go_at_call 9;(with_reducible refine(CC.out _ hS0.out.bel).mono ?_);rintro e w1 ⟨rfl,k1⟩;have k1:Bel _ w1:=k1;have H1:=Lib.hid (hS0.out.belw k1);have t0:=H1.out.cell 0 rfl 0;have t1:=H1.out.cell 0 rfl 1;have t2:=H1.out.cell 0 rfl 2;dsimp only at t0 t1 t2;clear k1)
   | (go_at_call 41;(refine(CP2.out _ H1.out.bel).mono ?_);rintro e w2 ⟨v2,rfl,hown,k2⟩;have k2:Bel _ w2:=k2;have K2:=Lib.hid (Bel.of H1.out.bel k2);have CJ:=Lib.hid (sl_join hown hml hg2.out);obtain⟨p2,c2,hv2⟩:=qap hown;subst hv2;clear k2 hown)
   | (go_at_call 40;(with_reducible refine CJ.out.mono ?_);rintro e w3 ⟨rfl,k3⟩;have K3:=Lib.hid (Bel.of K2.out k3);clear k3))
  go_ret;exact⟨rfl,K3.out⟩
 ·rw [if_pos h0]at htx
  subst htx;have hb:(RC != 0)=true:=bne_t h0;clear h0 hck CPt
  go_enter Tryz.func15,Tryz.ntmps15
  go_wp2_with (go_at_call 9;(with_reducible refine(CC.out _ hS0.out.bel).mono ?_);rintro e w1 ⟨rfl,k1⟩;have k1:Bel _ w1:=k1;have H1:=Lib.hid (hS0.out.belw k1);clear k1)
  go_ret;exact⟨rfl,H1.out.bel⟩
end
section
open Go.RowKit Ck Ma
def qbe (s:PSchema) (nm p:Str):Option PField:=(msgOf s nm).bind fun m=>qgx m p
def goes (s:PSchema) (g:PField):Bool:=qho g && (msgOf s g.tn).isSome
def onFld (o:Option PField) (k:PField->Int × List PField):Int × List PField:=match o with
 | none=>(8,[])
 | some f=>k f
def pgo (s:PSchema) (nm:Str):List PField->Option PField->List Str->Int × List PField
 | acc,_,[]=>(0,acc)
 | acc,none,p :: r=>onFld (qbe s nm p) fun f=>pgo s nm (acc ++ [f]) (some f) r
 | acc,some g,p :: r=>if goes s g=true then onFld (qbe s g.tn p) (fun f=>pgo s nm (acc ++ [f]) (some f) r)else(12,[])
def pathR (s:PSchema) (nm t:Str):Int × List PField:=if t=[]then(1,[])else if(msgOf s nm).isSome=true then pgo s nm [] none (Id.cut 46 t)else(10,[])
theorem qg2 (s:PSchema) (nm p:Str):(qa7 s).byName nm p=(qbe s nm p).map fun f=>(f.num,qho f,f.tn):=rfl
theorem has_eq (s:PSchema) (nm:Str):(envOf s).has nm=(msgOf s nm).isSome:=rfl
theorem qbf (c:UInt8) : ∀l:List UInt8,Id.cut c l=qba c l
 | []=>rfl
 | b :: r=>by
  unfold Id.cut qba;rw [qbf c r];cases qba c r <;> rfl
theorem qhy (s:PSchema) (q p:Str) (r:List Str) {f:PField} (hf:qbe s q p=some f):walkP (envOf s) (qa7 s) q (p :: r)=if r.isEmpty then(0,[f.num])else if goes s f=true then(if(walkP (envOf s) (qa7 s) f.tn r).1=0 then(0,f.num :: (walkP (envOf s) (qa7 s) f.tn r).2)else((walkP (envOf s) (qa7 s) f.tn r).1,[]))else(12,[]):=by
 have hb:=qg2 s q p;rw [hf]at hb;show(match (qa7 s).byName q p with|none=>_|some f=>_)=_
 rw [hb];rfl
theorem pgo_walk (s:PSchema) (nm:Str) : ∀(r:List Str) (q p:Str) (acc:List PField) (X:Int × List PField),X=onFld (qbe s q p) (fun f=>pgo s nm (acc ++ [f]) (some f) r) →
  X.1=(walkP (envOf s) (qa7 s) q (p :: r)).1/\(X.1=0->X.2.map PField.num=acc.map PField.num ++ (walkP (envOf s) (qa7 s) q (p :: r)).2)/\(X.1 ≠ 0->X.2=[]):=by
 intro r
 induction r with
 | nil=>
  intro q p acc X hX;cases hf:qbe s q p with
  | none=>
   have hw:walkP (envOf s) (qa7 s) q [p]=(8,[]):=by
    show(match (qa7 s).byName q p with|none=>_|some f=>_)=_
    rw [qg2,hf];rfl
   rw [hf]at hX;have hX2:X=(8,[]):=hX;subst hX2;rw [hw];exact⟨rfl,fun h=>(by cases h),fun _=>rfl⟩
  | some f=>
   rw [hf]at hX;have hX2:X=(0,acc ++ [f]):=hX;subst hX2;rw [qhy s q p [] hf];exact⟨rfl,fun _=>by simp,fun h=>absurd rfl h⟩
 | cons p2 r2 ih=>
  intro q p acc X hX;cases hf:qbe s q p with
  | none=>
   have hw:walkP (envOf s) (qa7 s) q (p :: p2 :: r2)=(8,[]):=by
    show(match (qa7 s).byName q p with|none=>_|some f=>_)=_
    rw [qg2,hf];rfl
   rw [hf]at hX;have hX2:X=(8,[]):=hX;subst hX2;rw [hw];exact⟨rfl,fun h=>(by cases h),fun _=>rfl⟩
  | some f=>
   rw [hf]at hX;have hX2:X=if goes s f=true then onFld (qbe s f.tn p2) (fun f2=>pgo s nm ((acc ++ [f]) ++ [f2]) (some f2) r2)else(12,[]):=hX
   rw [qhy s q p (p2 :: r2) hf,if_neg (by simp)];by_cases hg:goes s f=true
   ·rw [if_pos hg]at hX2 ⊢
    obtain⟨i1,i2,i3⟩:=ih f.tn p2 (acc ++ [f]) X hX2;refine⟨?_,fun h=>?_,i3⟩
    ·rw [i1]
     split
     ·rename_i h0
      exact h0
     ·rfl
    ·rw [i1]at h
     rw [if_pos h,i2 (i1.trans h)];simp
   ·rw [if_neg hg]at hX2 ⊢
    subst hX2;exact⟨rfl,fun h=>(by cases h),fun _=>rfl⟩
theorem qkv (s:PSchema) (nm t:Str) (ht:t ≠ []) (hp:(qba 46 t).all (qa7 s).part=true):pathM (envOf s) (qa7 s) nm t=(if(pathR s nm t).1=0 then(0,nest ((pathR s nm t).2.map PField.num))else((pathR s nm t).1,[]))/\((pathR s nm t).1 ≠ 0->(pathR s nm t).2=[]):=by
 unfold pathM pathR;rw [if_pos hp,if_neg ht,has_eq];by_cases h:(msgOf s nm).isSome=true
 ·rw [if_pos h,if_pos h,qbf]
  obtain⟨p,r,hpr⟩ : ∃p r,qba 46 t=p :: r:=by
   cases e:qba 46 t with
   | nil=>exact absurd e (qie 46 t)
   | cons p r=>exact⟨p,r,rfl⟩
  rw [hpr];obtain⟨i1,i2,i3⟩:=pgo_walk s nm r nm p [] (pgo s nm [] none (p :: r)) rfl;refine⟨?_,i3⟩;rw [i1];by_cases h0:(walkP (envOf s) (qa7 s) nm (p :: r)).1=0
  ·rw [if_pos h0,if_pos h0,i2 (i1.trans h0)]
   rfl
  ·rw [if_neg h0,if_neg h0]
 ·rw [if_neg h,if_neg h]
  exact⟨by simp,fun _=>rfl⟩
theorem qig {o:Option PField} {k:PField->Int × List PField} {B:Nat} (h : ∀f,(k f).2.length<=B):(onFld o k).2.length<=B:=by
 cases o with
 | none=>exact Nat.zero_le _
 | some f=>exact h f
theorem qku (s:PSchema) (nm:Str) : ∀(ps:List Str) (acc:List PField) (last:Option PField),(pgo s nm acc last ps).2.length<=acc.length+ps.length
 | [],acc,last=>by cases last <;> exact Nat.le_add_right _ _
 | p :: r,acc,none=>qig fun f=>by
  have:=qku s nm r (acc ++ [f]) (some f);rw [List.length_append,List.length_singleton]at this;rw [List.length_cons];omega
 | p :: r,acc,some g=>by
  show(if goes s g=true then onFld (qbe s g.tn p) (fun f=>pgo s nm (acc ++ [f]) (some f) r)else((12,[]):Int × List PField)).2.length<=_
  split
  ·exact qig fun f=>by
    have:=qku s nm r (acc ++ [f]) (some f);rw [List.length_append,List.length_singleton]at this;rw [List.length_cons];omega
  ·exact Nat.zero_le _
theorem qif (s:PSchema) (nm t:Str):(pathR s nm t).2.length<=t.length+1:=by
 unfold pathR
 split
 ·exact Nat.zero_le _
 ·split
  ·have:=qku s nm (Id.cut 46 t) [] none
   rw [qbf]at this ⊢;have:=qd7 46 t;simp only [List.length_nil,Nat.zero_add]at *;omega
  ·exact Nat.zero_le _
structure FE where
 f:PField
 vs:List Value
 h:vs.length=16
def feC (e:FE):List Value:=e.vs
theorem feC_len (e:FE):(feC e).length=16:=e.h
def frow (v:Value) (L:List FE):Row:=⟨65,16,v,L.length,L.flatMap feC⟩
def FEok (e:FE):Prop:=e.vs[0]? = some (.int .i64 e.f.num)/\e.vs[2]? = some (.int .i64 e.f.card)/\e.vs[4]? = some (.int .i64 e.f.tk)/\e.vs[5]? = some (.string (S e.f.tn))/\e.vs.toArray.all (·.oneCell')=true
theorem VField.fe {w:World} {vs:List Value} {f:PField} (h:VField w vs f):FEok ⟨f,vs,VField.len _ _ _ h⟩:=by
 have ho:=VField.one _ _ _ h;obtain⟨_,nv,rfl,⟨_,_,_,_,_,_,_,_,rfl,_⟩,h1⟩:=h;exact⟨rfl,rfl,rfl,rfl,ho⟩
theorem qir {w0 w:World} {R:List Row} {X:List Box} {v:Value} {L:List FE} {e:FE} (h:ST w0 (⟨65,16,v,L.length+1,L.flatMap feC ++ feC e⟩ :: R) X w):ST w0 (frow v (L ++ [e]) :: R) X w:=by
 unfold frow;rw [List.length_append,List.flatMap_append]
 simpa using h
theorem fld_info:(Tryz.prog.info? 65).map (fun i=>(i.zero,i.size,i.bytes))=some (some (.agg #[.int .i64 0,.string ByteArray.empty,.int .i64 0,.int .i64 0,.int .i64 0,.string ByteArray.empty,.string ByteArray.empty,.bool false,.int .i64 0,.int .u64 0,.string ByteArray.empty,.slice none 0 0,.slice none 0 0,.slice none 0 0,.slice none 0 0,.slice none 0 0]),16,240):=by kernel_rfl
end
end Go.Proofs.YtaaneecceiefoaaGreatDoor
