import Derived.Test.YtaaneecceiefoaaGreatDoorMzCheck
import Derived.Test.YtaaneecceiefoaaGreatDoorMaPaths
import Derived.Test.YtaaneecceiefoaaGreatDoorMaFind
set_option maxRecDepth 100000
set_option maxHeartbeats 4000000
set_option linter.unusedVariables false
set_option linter.unusedSimpArgs false
namespace Go.Proofs.YtaaneecceiefoaaGreatDoor
open Go.RowKit Ck Ma
theorem rC170 {a:Act} {ρ:Operand->Value} (h : ∀x,ρ x=a.eval x):(∀c,ρ (.const c)=c)/\∀f,ρ (.func f)=.func (.func f) #[] #[]:=⟨fun c=>h (.const c),fun f=>h (.func f)⟩
def CntC (n:Nat):Prop := ∀(A:Nat->Prop) (v:Value) (a:List PMask) (w:World),MaskD A n w v a->cnt n a<=1000000000000000->Calls Tryz.prog 17 #[v] w fun e w'=>e=.returned (.int .i64 (cnt n a:Nat))/\Bel w w'
theorem qen (n:Nat) (II:n ≠ 0->CntC n):CntC (n+1):=by
 intro A v a w0 ha hB;obtain⟨p,c,rfl,hl,hcap,hel⟩:=ha;have EL:=Lib.hid hel;have V:=Lib.hid (show 0+cntGo (cnt n) (a.drop 0)=cnt (n+1) a from Nat.zero_add _);generalize cnt (n+1) a=Z at V hB;clear hel hcap;have CI:=Lib.hid II;clear II
 go_enter Tryz.func17,Tryz.ntmps17
 go_wp2
 go_loopw [3,4] (fun nv i wr => ∃k t:Nat,k<=a.length/\nv=.int .i64 t/\i=.int .i64 k/\Hid (Bel w0 wr)/\Hid (t+cntGo (cnt n) (a.drop k)=Z)) (fun _ i _=>a.length-(intOf i).toNat)
 case atStart=>exact⟨0,0,by omega,rfl,rfl,Lib.hid (Bel.refl _),V⟩
 case round=>as_aux_lemma=>
  clear V;obtain⟨k,t,hk,rfl,rfl,hS,hx⟩:=hrel;by_cases hlt:k<a.length
  ·obtain⟨g,off,sv,rfl,hbs,hab,hc0,hc1,hd⟩:=EL.out k _ (List.getElem?_eq_getElem hlt)
   obtain⟨sp,sc,rfl⟩:=hd.form;have hki:(k:Int)<(a.length:Int):=by omega
   have hst:=hx.out;rw [cntGo_at hlt]at hst;clear hx;generalize a[k]=x at *;have e1:=hS.out.some hc1;have hdw:=hd.bel hS.out;clear hc0 hc1 hab EL;cases hwx:whole x with
   | true=>
    rw [hwx,if_pos rfl, ←Nat.add_assoc]at hst;obtain⟨r1,r2,r3⟩:=qd4 (whole_iff.1 hwx);have HST:=Lib.hid hst;have jw:IntKind.i64.wrap ((t:Int)+1)=((t+1:Nat):Int):=by rw [show(t:Int)+1=((t+1:Nat):Int)by omega];exact IntWalk.i64_in _ (by omega)
    clear hst hwx hd hdw;go_wp2;go_roundw
    case rel=>exact⟨k+1,t+1,by omega,by go_num,by go_num,hS,HST⟩
    case measure=>simp [intOf];omega
   | false=>
    rw [hwx,if_neg Bool.false_ne_true, ←Nat.add_assoc]at hst;have hn0:=hd.ne (qaz hwx);obtain⟨r1,r2,r3,r4⟩:=qe6 (qaz hwx);have CS:=Lib.hid (CI.out hn0 A _ x.subs wr hdw (by omega));generalize cnt n x.subs=C at CS hst;have jw:IntKind.i64.wrap ((t:Int)+(C:Int))=((t+C:Nat):Int):=by rw [show(t:Int)+(C:Int)=((t+C:Nat):Int)by omega];exact IntWalk.i64_in _ (by omega)
    have HST:=Lib.hid hst;clear hst hwx hd hdw hn0
    go_wp2_with (go_at_call 17;(with_reducible refine CS.out.mono ?_);rintro e w1 ⟨rfl,k1⟩;have K1:=Lib.hid (Bel.of hS.out k1);clear k1)
    go_roundw
    case rel=>exact⟨k+1,t+C,by omega,by go_num,by go_num,K1,HST⟩
    case measure=>simp [intOf];omega
  ·have hkl:k=a.length:=by omega
   have hki : ¬(k:Int)<(a.length:Int):=by omega
   have hz:t=Z:=by have:=hx.out;rw [hkl,List.drop_length]at this;exact this
   subst hz;clear hx;go_wp2;go_ret;exact⟨rfl,hS.out⟩
theorem qmd : ∀n:Nat,CntC (n+1)
 | 0=>qen 0 (fun h=>absurd rfl h)
 | n+1=>qen (n+1) (fun _=>qmd n)
def piece (E:Env) (M:Names) (n:Nat) (nm pre:Str) (x:PMask):Str:=if whole x then pre ++ M.name nm x.num else textR E M n (E.ty nm x.num) (pre ++ M.name nm x.num ++ [46]) x.subs
def pstep (E:Env) (M:Names) (n:Nat) (nm pre:Str) (out:Str) (x:PMask):Str:=comma out (piece E M n nm pre x)
theorem qec {E:Env} {M:Names} {n:Nat} {nm pre:Str} : ∀(l:List PMask) (acc:Str),acc.length<=(l.foldl (pstep E M n nm pre) acc).length
 | [],acc=>Nat.le_refl _
 | x :: r,acc=>by
  refine Nat.le_trans ?_ (qec r (pstep E M n nm pre acc x));unfold pstep comma
  split <;> simp only [List.length_append] <;> omega
theorem fold_at {α β:Type} {f:β->α->β} {l:List α} {k:Nat} {b:β} (h:k<l.length):(l.drop k).foldl f b=(l.drop (k+1)).foldl f (f b l[k]):=by
 rw [List.drop_eq_getElem_cons h,List.foldl_cons]
theorem qkn {a:Str} (h:a=[]) (p:Str):comma a p=a ++ p:=by unfold comma;rw [if_neg (fun g=>g h)]
theorem qii {a:Str} (h:a ≠ []) (p:Str):comma a p=(a ++ [44]) ++ p:=by unfold comma;rw [if_pos h]
theorem qks {ρ:Operand->Value} {dst:Option Tmp} {pos:String} {after:Array Edge} {guard:Option (Nat × Bool)} {x y:Operand} {a b c:ByteArray} {w:World} (hx:ρ x=.string a) (hy:ρ y=.string b) (h:a.size+b.size<=9223372036854775807) (hz:a ++ b=c) :
  (execOp ρ { dst:=dst,op:=.binOp .add 9 x y 9,type:=9,pos:=pos,after:=after,guard:=guard }).run Tryz.prog w=.ok (.value (.string c)) w:=by
 subst hz;have h2 : ¬(9223372036854775807<a.size+b.size):=by omega
 go_simp
def qof (n:Nat):Prop := ∀(A:Nat->Prop) (mv ev sv:Value) (s:PSchema) (name pre:Str) (v:Value) (l:List PMask) (w:World),VSchema w [mv,ev,sv] s->MaskD A n w v l->Nm (envOf s) n name l->(textR (envOf s) (qa4 s) n name pre l).length<=1000000000000000->(∀m ∈ s.msgs, ∀f ∈ m.fields,f.name.length<=1000000)->pre.length+n*2000000<=1000000000000000->Calls Tryz.prog 42 #[.agg #[mv,ev,sv],.string (S name),.string (S pre),v] w fun e w'=>e=.returned (.string (S (textR (envOf s) (qa4 s) n name pre l)))/\Bel w w'
theorem qel (n:Nat) (IH:n ≠ 0->qof n):qof (n+1):=by
 intro A mv ev sv s name pre v l w0 hs hl0 hN hB hnm hpre;have HS:=Lib.hid (fun(W:World) (k:Bel w0 W)=>VSchema.staysB hs k);have CM0:=Lib.hid (fun W (k:Bel w0 W)=>qcj mv ev sv s name w0 W k hs);obtain⟨_,_,_,he,hm,hev,hsv⟩:=hs;cases he;obtain⟨q2,c2,rfl,hl2⟩:=qa5 hev;obtain⟨q3,c3,rfl,hl3⟩:=qa5 hsv;obtain⟨q1,c1,rfl,hl1⟩:=qa5 hm;clear hm hev hsv;obtain⟨p,c,rfl,hl,hcap,hel⟩:=hl0;have EL:=Lib.hid hel;clear hel hcap;have hS0:=Lib.hid ((ST.start w0).addbox #[.slice q1 s.msgs.length c1,.slice q2 s.enums.length c2,.slice q3 s.svcs.length c3] 26);obtain⟨m,hm⟩ : ∃m,msgOf s name=some m:=Option.isSome_iff_exists.1 hN.1;have hmem:m ∈ s.msgs:=List.mem_of_find?_eq_some hm
 have HNX:=Lib.hid (show ∀x ∈ l, ∃f,qai m x.num=some f/\(x.subs=[] ∨ Nm (envOf s) n f.tn x.subs)from fun x hx=>by
  obtain⟨f,hf,hh⟩:=hN.2.2 x hx;rw [fld_of hm]at hf;obtain⟨g,hg,rfl⟩:=Option.map_eq_some_iff.1 hf
  exact⟨g,hg,hh.imp id (fun h=>h.2)⟩)
 have HFN:=Lib.hid (show ∀f ∈ m.fields,f.name.length<=1000000 from hnm m hmem);have HNM:=Lib.hid hnm;have V:=Lib.hid (show(l.drop 0).foldl (pstep (envOf s) (qa4 s) n name pre) []=textR (envOf s) (qa4 s) (n+1) name pre l from rfl);generalize textR (envOf s) (qa4 s) (n+1) name pre l=Z at V hB;rw [hm]at CM0;have HM:=Lib.hid hm;have zpre:(S pre).size=pre.length:=qbr _;have hpl:pre.length+2000000+n*2000000<=1000000000000000:=by rw [Nat.add_mul]at hpre;omega
 have HPL:=Lib.hid hpl;have hpl2:pre.length<=999999998000000:=by omega
 clear hm hN hnm hpre hmem hpl
 go_enter Tryz.func42,Tryz.ntmps42
 go_upto_region 3 with(first
  | (go_at_call 30;(with_reducible refine(CM0.out _ hS0.out.bel).mono ?_);rintro e w1 ⟨vm,at1,rfl,hvs,hat,k1⟩;have k1:Bel _ w1:=k1;have HVM:=Lib.hid (show VMsg _ vm m from hvs);obtain⟨hlen,hone⟩:=qbq hvs;have HVS:=Lib.hid hvs;have Z0:vm.toArray.size=5:=(by rw [List.size_toArray];exact hlen);have Z1:=Lib.hid (show(Tryz.prog.info? 57).map (·.size)=some vm.toArray.size by rw [Z0];exact ar_M);have Z2:=Lib.hid (show(#[.string ⟨#[]⟩,.slice none 0 0,.slice none 0 0,.slice none 0 0,.slice none 0 0]:Array Value).size=vm.toArray.size by rw [Z0];rfl);have HO:=Lib.hid hone;clear hlen hone Z0 hvs;have H1:=Lib.hid ((hS0.out.belw k1).addbox vm.toArray 57);clear k1)
  | (refine qa3 (old:=#[.string ⟨#[]⟩,.slice none 0 0,.slice none 0 0,.slice none 0 0,.slice none 0 0]) rfl 57 _ _ rfl w1 rfl w1.heap.size rfl vm.toArray rfl rfl Z1.out Z2.out HO.out ?_))
 generalize hwz:World.alloc w1 _=wz at H1 ⊢;clear hwz;generalize hmb:w1.heap.size=mb at H1 ⊢;clear hmb HVS HO Z2 hat;have HZ1:=Z1;have CFd:=Lib.hid (fun W (kk:Bel w0 W) q=>qir (m:=m) (vm:=vm) q w0 W kk HVM.out);clear HVM Z1 CM0 hS0
 go_wp2_with (fail)
 go_loopw [9,12] (fun vo i wr => ∃(k:Nat) (acc:Str),k<=l.length/\vo=.string (S acc)/\i=.int .i64 k/\Hid (ST w0 [] [⟨mb,vm.toArray,57⟩,⟨w0.heap.size,#[.slice q1 s.msgs.length c1,.slice q2 s.enums.length c2,.slice q3 s.svcs.length c3],26⟩] wr)/\Hid ((l.drop k).foldl (pstep (envOf s) (qa4 s) n name pre) acc=Z)) (fun _ i _=>l.length-(intOf i).toNat)
 case atStart=>exact⟨0,[],by omega,rfl,rfl,H1,V⟩
 case round=>as_aux_lemma=>
  clear V H1;obtain⟨k,acc,hk,rfl,rfl,hS,hx⟩:=hrel;by_cases hlt:k<l.length
  ·obtain⟨g,off,sv,rfl,hbs,hab,hc0,hc1,hd⟩:=EL.out k _ (List.getElem?_eq_getElem hlt)
   obtain⟨sp,sc,rfl⟩:=hd.form;have hki:(k:Int)<(l.length:Int):=by omega
   have hst:=hx.out;rw [fold_at hlt]at hst;obtain⟨f,hf,hsub⟩:=HNX.out _ (List.getElem_mem hlt);clear hx hab EL HNX;generalize l[k]=x at *;have hfl:=HFN.out f (List.mem_of_find?_eq_some hf);have zf:(S f.name).size=f.name.length:=qbr _;have hty:(envOf s).ty name x.num=f.tn:=by unfold Env.ty;rw [fld_of HM.out,hf];rfl
   have hna:(qa4 s).name name x.num=f.name:=by show(((msgOf s name).bind fun m=>qai m x.num).map (·.name)).getD []=_;rw [HM.out];show((qai m x.num).map (·.name)).getD []=_;rw [hf];rfl
   have DX:=Lib.hid (show MaskD A n w0 (.slice sp x.subs.length sc) x.subs from hd);have HVF0:=Lib.hid (show ∀vs,AtV VField zFld w0 vs (qai m x.num)->VField w0 vs f from fun vs h=>by rw [hf]at h;exact h);have HC1:=Lib.hid hc1;clear hd hf
   go_upto_region 6 with(fail)
   go_cut [13,14] (fun s13 s14 wx => ∃(fb:Nat) (vs:List Value),s13=.pointer (some ⟨fb,0,none⟩)/\s14=.bool (qai m x.num).isSome/\Hid (ST w0 [] [⟨fb,vs.toArray,65⟩,⟨mb,vm.toArray,57⟩,⟨w0.heap.size,#[.slice q1 s.msgs.length c1,.slice q2 s.enums.length c2,.slice q3 s.svcs.length c3],26⟩] wx)/\Hid (AtV VField zFld w0 vs (qai m x.num)))
   case first=>as_aux_lemma=>
    obtain⟨wd,hwd⟩ : ∃wd,wd=wr.drew:=⟨_,rfl⟩;have T:=Lib.hid (show ST w0 [] [⟨mb,vm.toArray,57⟩,⟨w0.heap.size,#[.slice q1 s.msgs.length c1,.slice q2 s.enums.length c2,.slice q3 s.svcs.length c3],26⟩] wd by rw [hwd];exact hS.out.belw (Bel.refl _).drew);have HWD:=Lib.hid hwd;clear hwd;have KS:=Lib.hid (fun W (h:ST w0 [] [⟨mb,vm.toArray,57⟩,⟨w0.heap.size,#[.slice q1 s.msgs.length c1,.slice q2 s.enums.length c2,.slice q3 s.svcs.length c3],26⟩] W)=>show W.cell? ⟨g,off+k*2,none⟩=some (.int .i64 x.num)/\W.heap[mb]? = some (.cells vm.toArray 57 (0,0))from⟨h.bel.some hc0,h.box 0 rfl⟩);refine qac (fun W=>ST w0 [] [⟨mb,vm.toArray,57⟩,⟨w0.heap.size,#[.slice q1 s.msgs.length c1,.slice q2 s.enums.length c2,.slice q3 s.svcs.length c3],26⟩] W) (.take 0 (.take 1 (.take 2 (.take 3 (.take 4 (.take 5 (.alt 6 (.take 7 (.take 8 (.take 9 (.alt 10 (.alt 11 .done .no) .no)))) (.alt 10 (.alt 6 (.take 7 (.take 8 (.take 9 (.alt 11 .done .no)))) .no) .no)))))))) 12 (by kernel_rfl) (by kernel_rfl) HWD.out T.out (fun a ha=>?_)
    (simp only [pickT,List.getD_cons_zero,List.getD_cons_succ])
    have hsz:a.tmps.size=72:=(by rw [ha];kernel_rfl);have a10:a.eval (.tmp 10)=.pointer (some ⟨mb,0,none⟩):=(by rw [ha];kernel_rfl);have a3:a.eval (.tmp 3)=.slice (some ⟨g,off,none⟩) l.length c:=(by rw [ha];kernel_rfl);have a12:a.eval (.tmp 12)=.int .i64 k:=(by rw [ha];kernel_rfl)
    (with_reducible refine qa1 (v:=?_) rfl (by with_unfolding_all rfl) (fun ρ hρ W hW=>?_) ?_);(rotate_left 1)
    focus(have hS:=KS.out _ hW;clear hW;have p10:=hρ (.tmp 10);(simp +decide only [qa2,hsz,ev_eq,ev_ne,a10,a3,a12]at p10);obtain⟨hc,hfn⟩:=rC170 hρ;clear hρ;exact qdm p10 hS.2 HZ1.out)
    (with_reducible refine qa1 (v:=?_) rfl (by with_unfolding_all rfl) (fun ρ hρ W hW=>?_) ?_);(rotate_left 1)
    focus(clear hW;have p3:=hρ (.tmp 3);(simp +decide only [qa2,hsz,ev_eq,ev_ne,a10,a3,a12]at p3);obtain⟨hc,hfn⟩:=rC170 hρ;clear hρ;go_simp;(all_goals with_reducible first|rfl|(constructor <;> rfl)))
    (with_reducible refine qa1 (v:=?_) rfl (by with_unfolding_all rfl) (fun ρ hρ W hW=>?_) ?_);(rotate_left 1)
    focus(clear hW;have p12:=hρ (.tmp 12);(simp +decide only [qa2,hsz,ev_eq,ev_ne,a10,a3,a12]at p12);obtain⟨hc,hfn⟩:=rC170 hρ;clear hρ;go_simp;(all_goals with_reducible first|rfl|(constructor <;> rfl)))
    (with_reducible refine qa1 (v:=?_) rfl (by with_unfolding_all rfl) (fun ρ hρ W hW=>?_) ?_);(rotate_left 1)
    focus(clear hW;have p29:=hρ (.tmp 29);have p30:=hρ (.tmp 30);(simp +decide only [qa2,hsz,ev_eq,ev_ne,a10,a3,a12]at p29 p30);obtain⟨hc,hfn⟩:=rC170 hρ;clear hρ;go_simp;(all_goals with_reducible first|rfl|(constructor <;> rfl)))
    (with_reducible refine qa1 (v:=?_) rfl (by with_unfolding_all rfl) (fun ρ hρ W hW=>?_) ?_);(rotate_left 1)
    focus(clear hW;have p31:=hρ (.tmp 31);(simp +decide only [qa2,hsz,ev_eq,ev_ne,a10,a3,a12]at p31);obtain⟨hc,hfn⟩:=rC170 hρ;clear hρ;go_simp;(all_goals with_reducible first|rfl|(constructor <;> rfl)))
    (with_reducible refine qa1 (v:=?_) rfl (by with_unfolding_all rfl) (fun ρ hρ W hW=>?_) ?_);(rotate_left 1)
    focus(have hS:=KS.out _ hW;clear hW;have p32:=hρ (.tmp 32);(simp +decide only [qa2,hsz,ev_eq,ev_ne,a10,a3,a12]at p32);obtain⟨hc,hfn⟩:=rC170 hρ;clear hρ;go_simp;(all_goals with_reducible first|rfl|(constructor <;> rfl)))
    (with_reducible refine qam (f:=?_) (args:=?_) rfl (by with_unfolding_all rfl) (fun ρ hρ=>?_) ?_ ?_);(rotate_left 2)
    focus(have p28:=hρ (.tmp 28);have p33:=hρ (.tmp 33);(simp +decide only [qa2,hsz,ev_eq,ev_ne,a10,a3,a12]at p28 p33);obtain⟨hc,hfn⟩:=rC170 hρ;clear hρ;rw [qa9 (hfn _)];clear hfn;go_simp;(all_goals with_reducible first|rfl|(constructor <;> rfl)))
    with_reducible refine(CFd.out _ T.out.bel _).mono ?_
    rintro e w6 ⟨vs,rfl,hvs,g⟩;have g:Bel wd w6:=g;obtain⟨hlen,hone⟩:=qc9 hvs;have HVS:=Lib.hid hvs;have Z0:vs.toArray.size=16:=(by rw [List.size_toArray];exact hlen);have Z1:=Lib.hid (show(Tryz.prog.info? 65).map (·.size)=some vs.toArray.size by rw [Z0];exact ar_F);have Z2:=Lib.hid (show(#[.int .i64 0,.string ⟨#[]⟩,.int .i64 0,.int .i64 0,.int .i64 0,.string ⟨#[]⟩,.string ⟨#[]⟩,.bool false,.int .i64 0,.int .u64 0,.string ⟨#[]⟩,.slice none 0 0,.slice none 0 0,.slice none 0 0,.slice none 0 0,.slice none 0 0]:Array Value).size=vs.toArray.size by rw [Z0];rfl);have HO:=Lib.hid hone;clear hlen hone Z0 hvs;have T:=Lib.hid (T.out.belw g);clear g;refine⟨_,rfl,T.out,?_⟩
    ·(with_reducible refine qa1 (v:=?_) rfl (by with_unfolding_all rfl) (fun ρ hρ W hW=>?_) ?_);(rotate_left 1)
     focus(clear hW;have p34:=hρ (.tmp 34);(simp +decide only [qa2,hsz,ev_eq,ev_ne,a10,a3,a12]at p34);obtain⟨hc,hfn⟩:=rC170 hρ;clear hρ;go_simp;(all_goals with_reducible first|rfl|(constructor <;> rfl)))
     (with_reducible refine qa1 (v:=?_) rfl (by with_unfolding_all rfl) (fun ρ hρ W hW=>?_) ?_);(rotate_left 1)
     focus(clear hW;have p27:=hρ (.tmp 27);(simp +decide only [qa2,hsz,ev_eq,ev_ne,a10,a3,a12]at p27);obtain⟨hc,hfn⟩:=rC170 hρ;clear hρ;go_simp;(all_goals with_reducible first|rfl|(constructor <;> rfl)))
     (with_reducible refine qa1 (v:=?_) rfl (by with_unfolding_all rfl) (fun ρ hρ W hW=>?_) ?_);(rotate_left 1)
     focus(clear hW;have p27:=hρ (.tmp 27);(simp +decide only [qa2,hsz,ev_eq,ev_ne,a10,a3,a12]at p27);obtain⟨hc,hfn⟩:=rC170 hρ;clear hρ;go_simp;(all_goals with_reducible first|rfl|(constructor <;> rfl)))
     (with_reducible refine qda (v:=?_) (w':=?_) rfl (by with_unfolding_all rfl) (fun ρ hρ=>?_) ?_ ?_ ?_);(rotate_left 2)
     focus(obtain⟨hc,hfn⟩:=rC170 hρ;clear hρ;go_simp;(all_goals with_reducible first|rfl|(constructor <;> rfl)))
     focus exact(T.out.addbox #[.int .i64 0,.string ⟨#[]⟩,.int .i64 0,.int .i64 0,.int .i64 0,.string ⟨#[]⟩,.string ⟨#[]⟩,.bool false,.int .i64 0,.int .u64 0,.string ⟨#[]⟩,.slice none 0 0,.slice none 0 0,.slice none 0 0,.slice none 0 0,.slice none 0 0] 65).dropbox0
     have T:=Lib.hid (T.out.addbox #[.int .i64 0,.string ⟨#[]⟩,.int .i64 0,.int .i64 0,.int .i64 0,.string ⟨#[]⟩,.string ⟨#[]⟩,.bool false,.int .i64 0,.int .u64 0,.string ⟨#[]⟩,.slice none 0 0,.slice none 0 0,.slice none 0 0,.slice none 0 0,.slice none 0 0] 65);generalize hA:World.alloc w6 _=w10 at T ⊢;clear hA;rotate_left 1
     focus exact qap
     (refine qbg rfl 65 (.tmp 13) (.tmp 35) (by with_unfolding_all rfl) _ vs.toArray #[.int .i64 0,.string ⟨#[]⟩,.int .i64 0,.int .i64 0,.int .i64 0,.string ⟨#[]⟩,.string ⟨#[]⟩,.bool false,.int .i64 0,.int .u64 0,.string ⟨#[]⟩,.slice none 0 0,.slice none 0 0,.slice none 0 0,.slice none 0 0,.slice none 0 0] 65 ?_ ?_ (T.out.box 0 rfl) Z1.out Z2.out HO.out ?_ ?_ ?_)
     focus(simp +decide only [qa2,hsz,ev_eq,ev_ne,a10,a3,a12])
     focus(simp +decide only [qa2,hsz,ev_eq,ev_ne,a10,a3,a12])
     focus exact(T.out.setrowbox 0 rfl vs.toArray).dropbox0
     have T:=Lib.hid (T.out.setrowbox 0 rfl vs.toArray);generalize hA:World.setRow w10 _ _=w11 at T ⊢;clear hA;rotate_left 1
     focus exact qap
     with_reducible refine qao ?_
     (simp only [List.drop_succ_cons,List.drop_zero])
     subst ha
     (simp only [qav,set_s,set_z])
     go_wp2;go_meet
     exact⟨_,vs,rfl,rfl,T,HVS⟩
    (with_reducible refine qda (v:=?_) (w':=?_) rfl (by with_unfolding_all rfl) (fun ρ hρ=>?_) ?_ ?_ ?_);(rotate_left 2)
    focus(obtain⟨hc,hfn⟩:=rC170 hρ;clear hρ;go_simp;(all_goals with_reducible first|rfl|(constructor <;> rfl)))
    focus exact(T.out.addbox #[.int .i64 0,.string ⟨#[]⟩,.int .i64 0,.int .i64 0,.int .i64 0,.string ⟨#[]⟩,.string ⟨#[]⟩,.bool false,.int .i64 0,.int .u64 0,.string ⟨#[]⟩,.slice none 0 0,.slice none 0 0,.slice none 0 0,.slice none 0 0,.slice none 0 0] 65).dropbox0
    have T:=Lib.hid (T.out.addbox #[.int .i64 0,.string ⟨#[]⟩,.int .i64 0,.int .i64 0,.int .i64 0,.string ⟨#[]⟩,.string ⟨#[]⟩,.bool false,.int .i64 0,.int .u64 0,.string ⟨#[]⟩,.slice none 0 0,.slice none 0 0,.slice none 0 0,.slice none 0 0,.slice none 0 0] 65);generalize hA:World.alloc wd _=w10 at T ⊢;clear hA;rotate_left 1
    focus exact qap
    (with_reducible refine qam (f:=?_) (args:=?_) rfl (by with_unfolding_all rfl) (fun ρ hρ=>?_) ?_ ?_);(rotate_left 2)
    focus(have p28:=hρ (.tmp 28);have p33:=hρ (.tmp 33);(simp +decide only [qa2,hsz,ev_eq,ev_ne,a10,a3,a12]at p28 p33);obtain⟨hc,hfn⟩:=rC170 hρ;clear hρ;rw [qa9 (hfn _)];clear hfn;go_simp;(all_goals with_reducible first|rfl|(constructor <;> rfl)))
    with_reducible refine(CFd.out _ T.out.bel _).mono ?_
    rintro e w6 ⟨vs,rfl,hvs,g⟩;have g:Bel w10 w6:=g;obtain⟨hlen,hone⟩:=qc9 hvs;have HVS:=Lib.hid hvs;have Z0:vs.toArray.size=16:=(by rw [List.size_toArray];exact hlen);have Z1:=Lib.hid (show(Tryz.prog.info? 65).map (·.size)=some vs.toArray.size by rw [Z0];exact ar_F);have Z2:=Lib.hid (show(#[.int .i64 0,.string ⟨#[]⟩,.int .i64 0,.int .i64 0,.int .i64 0,.string ⟨#[]⟩,.string ⟨#[]⟩,.bool false,.int .i64 0,.int .u64 0,.string ⟨#[]⟩,.slice none 0 0,.slice none 0 0,.slice none 0 0,.slice none 0 0,.slice none 0 0]:Array Value).size=vs.toArray.size by rw [Z0];rfl);have HO:=Lib.hid hone;clear hlen hone Z0 hvs;have T:=Lib.hid (T.out.belw g);clear g;refine⟨_,rfl,T.out.dropbox0,?_⟩;rotate_left 1
    focus exact qap
    (with_reducible refine qa1 (v:=?_) rfl (by with_unfolding_all rfl) (fun ρ hρ W hW=>?_) ?_);(rotate_left 1)
    focus(clear hW;have p34:=hρ (.tmp 34);(simp +decide only [qa2,hsz,ev_eq,ev_ne,a10,a3,a12]at p34);obtain⟨hc,hfn⟩:=rC170 hρ;clear hρ;go_simp;(all_goals with_reducible first|rfl|(constructor <;> rfl)))
    (with_reducible refine qa1 (v:=?_) rfl (by with_unfolding_all rfl) (fun ρ hρ W hW=>?_) ?_);(rotate_left 1)
    focus(clear hW;have p27:=hρ (.tmp 27);(simp +decide only [qa2,hsz,ev_eq,ev_ne,a10,a3,a12]at p27);obtain⟨hc,hfn⟩:=rC170 hρ;clear hρ;go_simp;(all_goals with_reducible first|rfl|(constructor <;> rfl)))
    (with_reducible refine qa1 (v:=?_) rfl (by with_unfolding_all rfl) (fun ρ hρ W hW=>?_) ?_);(rotate_left 1)
    focus(clear hW;have p27:=hρ (.tmp 27);(simp +decide only [qa2,hsz,ev_eq,ev_ne,a10,a3,a12]at p27);obtain⟨hc,hfn⟩:=rC170 hρ;clear hρ;go_simp;(all_goals with_reducible first|rfl|(constructor <;> rfl)))
    (refine qbg rfl 65 (.tmp 13) (.tmp 35) (by with_unfolding_all rfl) _ vs.toArray #[.int .i64 0,.string ⟨#[]⟩,.int .i64 0,.int .i64 0,.int .i64 0,.string ⟨#[]⟩,.string ⟨#[]⟩,.bool false,.int .i64 0,.int .u64 0,.string ⟨#[]⟩,.slice none 0 0,.slice none 0 0,.slice none 0 0,.slice none 0 0,.slice none 0 0] 65 ?_ ?_ (T.out.box 0 rfl) Z1.out Z2.out HO.out ?_ ?_ ?_)
    focus(simp +decide only [qa2,hsz,ev_eq,ev_ne,a10,a3,a12])
    focus(simp +decide only [qa2,hsz,ev_eq,ev_ne,a10,a3,a12])
    focus exact(T.out.setrowbox 0 rfl vs.toArray).dropbox0
    have T:=Lib.hid (T.out.setrowbox 0 rfl vs.toArray);generalize hA:World.setRow w6 _ _=w11 at T ⊢;clear hA;rotate_left 1
    focus exact qap
    with_reducible refine qao ?_
    (simp only [List.drop_succ_cons,List.drop_zero])
    subst ha
    (simp only [qav,set_s,set_z])
    go_wp2;go_meet
    exact⟨_,vs,rfl,rfl,T,HVS⟩
   case rest=>
    obtain⟨fb,vs,h13,h14,HF,HVS⟩:=hcut;subst h13 h14;have HVF:=Lib.hid (HVF0.out _ HVS.out);have HF1:=Lib.hid (VField.at HVF.out).2.1;have HF5:=Lib.hid (VField.at HVF.out).2.2.2.2;have e1:=HF.out.bel.some HC1.out;have t1:=(HF.out.cell 0 rfl 1).trans HF1.out;dsimp only at t1;clear hS hc0 hc1 CFd HVF0 HVS;cases hwx:whole x with
    | true=>
     have hpc:piece (envOf s) (qa4 s) n name pre x=pre ++ f.name:=by unfold piece;rw [if_pos hwx,hna]
     obtain⟨r1,r2,r3⟩:=qd4 (whole_iff.1 hwx);have hst:(l.drop (k+1)).foldl (pstep (envOf s) (qa4 s) n name pre) (comma acc (piece (envOf s) (qa4 s) n name pre x))=Z:=hst;rw [hpc]at hst;have hsum:(S pre).size+(S f.name).size<=9223372036854775807:=by omega
     have hcat:S pre ++ S f.name=S (pre ++ f.name):=S_of (qbp _ _);clear hwx hpc hty hna hsub;by_cases ha0:acc=[]
     ·have hte:(S acc).toList=[]:=by rw [ByteArray.toList_eq,qbi];exact ha0
      have z0:(S acc).size=acc.length:=qbr _;obtain⟨R,hR⟩ : ∃R,R=acc ++ pre:=⟨_,rfl⟩;obtain⟨F,hF⟩ : ∃F,F=R ++ f.name:=⟨_,rfl⟩;have HST:=Lib.hid (show(l.drop (k+1)).foldl (pstep (envOf s) (qa4 s) n name pre) F=Z by rw [hF,hR,List.append_assoc];exact(qkn ha0 _) ▸ hst);have hZ:F.length<=Z.length:=by rw [←HST.out];exact qec _ _
      have hFl:F.length=R.length+f.name.length:=by rw [hF,List.length_append]
      have hRl:R.length=acc.length+pre.length:=by rw [hR,List.length_append]
      have hcc:S acc ++ S pre=S R:=by rw [hR];exact S_of (qbp _ _)
      have zR:(S R).size=R.length:=qbr _;have hc2:S R ++ S f.name=S F:=by rw [hF];exact S_of (qbp _ _)
      clear hR hF;have hqe:(S acc).toList.isEmpty=true:=by rw [hte];exact List.isEmpty_nil
      clear ha0 hst;go_wp2;go_roundw
      case rel=>exact⟨k+1,F,by omega,by go_num,by go_num,Lib.hid HF.out.dropbox0,HST⟩
      case measure=>simp [intOf];omega
     ·have hqe:(S acc).toList.isEmpty=false:=by rw [ByteArray.toList_eq,qbi];exact List.isEmpty_eq_false_iff.2 ha0
      have z0:(S acc).size=acc.length:=qbr _;obtain⟨Q,hQ⟩ : ∃Q,Q=acc ++ [44]:=⟨_,rfl⟩;obtain⟨R,hR⟩ : ∃R,R=Q ++ pre:=⟨_,rfl⟩;obtain⟨F,hF⟩ : ∃F,F=R ++ f.name:=⟨_,rfl⟩;have HST:=Lib.hid (show(l.drop (k+1)).foldl (pstep (envOf s) (qa4 s) n name pre) F=Z by rw [hF,hR,List.append_assoc];exact hQ ▸ (qii ha0 _) ▸ hst);have hZ:F.length<=Z.length:=by rw [←HST.out];exact qec _ _
      have hFl:F.length=R.length+f.name.length:=by rw [hF,List.length_append]
      have hRl:R.length=Q.length+pre.length:=by rw [hR,List.length_append]
      have hcc:S Q ++ S pre=S R:=by rw [hR];exact S_of (qbp _ _)
      have zR:(S R).size=R.length:=qbr _;have hc2:S R ++ S f.name=S F:=by rw [hF];exact S_of (qbp _ _)
      clear hR hF;have hca:S acc ++ ⟨#[44]⟩=S Q:=by rw [hQ];exact S_of (qbp _ (S [44]))
      have z44:(⟨#[44]⟩:ByteArray).size=1:=rfl;have hQl:Q.length=acc.length+1:=by rw [hQ,List.length_append];rfl
      have hsa:(S acc).size+(⟨#[44]⟩:ByteArray).size<=9223372036854775807:=by rw [z0,z44];omega
      have zQ:(S Q).size=Q.length:=qbr _;clear ha0 hst hQ;go_wp2;go_roundw
      case rel=>exact⟨k+1,F,by omega,by go_num,by go_num,Lib.hid HF.out.dropbox0,HST⟩
      case measure=>simp [intOf];omega
    | false=>
     have hsn:=qaz hwx;obtain⟨r1,r2,r3,r4⟩:=qe6 hsn;have hpc:piece (envOf s) (qa4 s) n name pre x=textR (envOf s) (qa4 s) n f.tn (pre ++ f.name ++ [46]) x.subs:=by unfold piece;rw [hwx,if_neg Bool.false_ne_true,hna,hty]
     have hpr2:(pre ++ f.name ++ [46]).length+n*2000000<=1000000000000000:=by
      simp only [List.length_append,List.length_singleton];have:=HPL.out;omega
     have hst:(l.drop (k+1)).foldl (pstep (envOf s) (qa4 s) n name pre) (comma acc (piece (envOf s) (qa4 s) n name pre x))=Z:=hst;rw [hpc]at hst
     have hcm:(textR (envOf s) (qa4 s) n f.tn (pre ++ f.name ++ [46]) x.subs).length<=Z.length:=by
      rw [←hst];refine Nat.le_trans ?_ (qec (E:=envOf s) (M:=qa4 s) (n:=n) (nm:=name) (pre:=pre) _ _);unfold comma
      split <;> simp only [List.length_append] <;> omega
     have CI:=Lib.hid (fun W (k:Bel w0 W) (h:MaskD A n W (.slice sp x.subs.length sc) x.subs)=>IH (DX.out.ne hsn) A (.slice q1 s.msgs.length c1) (.slice q2 s.enums.length c2) (.slice q3 s.svcs.length c3) s f.tn (pre ++ f.name ++ [46]) _ x.subs W (HS.out W k) h (hsub.resolve_left hsn) (Nat.le_trans hcm hB) HNM.out hpr2);generalize textR (envOf s) (qa4 s) n f.tn (pre ++ f.name ++ [46]) x.subs=P at CI hst;have hsum:(S pre).size+(S f.name).size<=9223372036854775807:=by omega
     have hcat:S pre ++ S f.name=S (pre ++ f.name):=S_of (qbp _ _);have zs:(S (pre ++ f.name)).size=pre.length+f.name.length:=by rw [qbr,List.length_append]
     have hn1 : ¬(9223372036854775807<pre.length+f.name.length):=by omega
     have hn2 : ¬(9223372036854775807<pre.length+f.name.length+1):=by omega
     have z46:(⟨#[46]⟩:ByteArray).size=1:=rfl;have hsum2:(S (pre ++ f.name)).size+(⟨#[46]⟩:ByteArray).size<=9223372036854775807:=by rw [zs];show _+1<=_;omega
     have hcat2:S (pre ++ f.name) ++ ⟨#[46]⟩=S (pre ++ f.name ++ [46]):=S_of (qbp _ (S [46]));generalize pre ++ f.name ++ [46]=PP at CI hcat2;have zP:(S P).size=P.length:=qbr _;clear hwx hpc hty hna hsub hsn hpr2 hcm;by_cases ha0:acc=[]
     ·have hte:(S acc).toList=[]:=by rw [ByteArray.toList_eq,qbi];exact ha0
      have z0:(S acc).size=acc.length:=qbr _;obtain⟨F,hF⟩ : ∃F,F=acc ++ P:=⟨_,rfl⟩;have HST:=Lib.hid (show(l.drop (k+1)).foldl (pstep (envOf s) (qa4 s) n name pre) F=Z by rw [hF];exact(qkn ha0 _) ▸ hst);have hZ:F.length<=Z.length:=by rw [←HST.out];exact qec _ _
      have hFl:F.length=acc.length+P.length:=by rw [hF,List.length_append]
      have hcc:S acc ++ S P=S F:=by rw [hF];exact S_of (qbp _ _)
      clear hF;have hqe:(S acc).toList.isEmpty=true:=by rw [hte];exact List.isEmpty_nil
      clear ha0 hst
      go_upto_region 11 with(fail)
      obtain⟨wd,hwd⟩ : ∃wd,wd=wc.drew:=⟨_,rfl⟩;have T:=Lib.hid (show ST w0 [] [⟨fb,vs.toArray,65⟩,⟨mb,vm.toArray,57⟩,⟨w0.heap.size,#[.slice q1 s.msgs.length c1,.slice q2 s.enums.length c2,.slice q3 s.svcs.length c3],26⟩] wd by rw [hwd];exact HF.out.belw (Bel.refl _).drew);have HWD:=Lib.hid hwd;clear hwd e1 t1;have KS:=Lib.hid (fun W (h:ST w0 [] [⟨fb,vs.toArray,65⟩,⟨mb,vm.toArray,57⟩,⟨w0.heap.size,#[.slice q1 s.msgs.length c1,.slice q2 s.enums.length c2,.slice q3 s.svcs.length c3],26⟩] W)=>show W.cell? ⟨w0.heap.size,0,none⟩=some (.slice q1 s.msgs.length c1)/\W.cell? ⟨w0.heap.size,1,none⟩=some (.slice q2 s.enums.length c2)/\W.cell? ⟨w0.heap.size,2,none⟩=some (.slice q3 s.svcs.length c3)/\W.cell? ⟨fb,5,none⟩=some (.string (S f.tn))/\W.cell? ⟨fb,1,none⟩=some (.string (S f.name))/\W.cell? ⟨g,off+k*2+1,none⟩=some (.slice sp x.subs.length sc)from⟨h.cell 2 rfl 0,h.cell 2 rfl 1,h.cell 2 rfl 2,(h.cell 0 rfl 5).trans HF5.out,(h.cell 0 rfl 1).trans HF1.out,h.bel.some HC1.out⟩);refine qac (fun W=>ST w0 [] [⟨fb,vs.toArray,65⟩,⟨mb,vm.toArray,57⟩,⟨w0.heap.size,#[.slice q1 s.msgs.length c1,.slice q2 s.enums.length c2,.slice q3 s.svcs.length c3],26⟩] W) (.take 0 (.take 1 (.take 2 (.take 3 (.take 4 (.take 5 (.take 6 (.take 7 (.take 8 (.take 9 (.take 10 (.take 11 (.take 12 (.take 13 (.take 14 (.alt 15 .done .no)))))))))))))))) 16 (by kernel_rfl) (by kernel_rfl) HWD.out T.out (fun a ha=>?_)
      (simp only [pickT,List.getD_cons_zero,List.getD_cons_succ])
      have hsz:a.tmps.size=72:=(by rw [ha];kernel_rfl);have a9:a.eval (.tmp 9)=.string (S acc):=(by rw [ha];kernel_rfl);have a4:a.eval (.tmp 4)=.pointer (some ⟨w0.heap.size,0,none⟩):=(by rw [ha];kernel_rfl);have a13:a.eval (.tmp 13)=.pointer (some ⟨fb,0,none⟩):=(by rw [ha];kernel_rfl);have a2:a.eval (.tmp 2)=.string (S pre):=(by rw [ha];kernel_rfl);have a3:a.eval (.tmp 3)=.slice (some ⟨g,off,none⟩) l.length c:=(by rw [ha];kernel_rfl);have a12:a.eval (.tmp 12)=.int .i64 k:=(by rw [ha];kernel_rfl)
      (with_reducible refine qa1 (v:=?_) rfl (by with_unfolding_all rfl) (fun ρ hρ W hW=>?_) ?_);(rotate_left 1)
      focus(clear hW;have p9:=hρ (.tmp 9);(simp +decide only [qa2,hsz,ev_eq,ev_ne,a9,a4,a13,a2,a3,a12]at p9);obtain⟨hc,hfn⟩:=rC170 hρ;clear hρ;go_simp;(all_goals with_reducible first|rfl|(constructor <;> rfl)))
      (with_reducible refine qa1 (v:=?_) rfl (by with_unfolding_all rfl) (fun ρ hρ W hW=>?_) ?_);(rotate_left 1)
      focus(have hS:=KS.out _ hW;clear hW;have p4:=hρ (.tmp 4);(simp +decide only [qa2,hsz,ev_eq,ev_ne,a9,a4,a13,a2,a3,a12]at p4);obtain⟨hc,hfn⟩:=rC170 hρ;clear hρ;go_simp;(all_goals with_reducible first|rfl|(constructor <;> rfl)))
      (with_reducible refine qa1 (v:=?_) rfl (by with_unfolding_all rfl) (fun ρ hρ W hW=>?_) ?_);(rotate_left 1)
      focus(clear hW;have p13:=hρ (.tmp 13);(simp +decide only [qa2,hsz,ev_eq,ev_ne,a9,a4,a13,a2,a3,a12]at p13);obtain⟨hc,hfn⟩:=rC170 hρ;clear hρ;go_simp;(all_goals with_reducible first|rfl|(constructor <;> rfl)))
      (with_reducible refine qa1 (v:=?_) rfl (by with_unfolding_all rfl) (fun ρ hρ W hW=>?_) ?_);(rotate_left 1)
      focus(clear hW;have p56:=hρ (.tmp 56);(simp +decide only [qa2,hsz,ev_eq,ev_ne,a9,a4,a13,a2,a3,a12]at p56);obtain⟨hc,hfn⟩:=rC170 hρ;clear hρ;go_simp;(all_goals with_reducible first|rfl|(constructor <;> rfl)))
      (with_reducible refine qa1 (v:=?_) rfl (by with_unfolding_all rfl) (fun ρ hρ W hW=>?_) ?_);(rotate_left 1)
      focus(have hS:=KS.out _ hW;clear hW;have p57:=hρ (.tmp 57);(simp +decide only [qa2,hsz,ev_eq,ev_ne,a9,a4,a13,a2,a3,a12]at p57);obtain⟨hc,hfn⟩:=rC170 hρ;clear hρ;go_simp;(all_goals with_reducible first|rfl|(constructor <;> rfl)))
      (with_reducible refine qa1 (v:=?_) rfl (by with_unfolding_all rfl) (fun ρ hρ W hW=>?_) ?_);(rotate_left 1)
      focus(clear hW;have p2:=hρ (.tmp 2);(simp +decide only [qa2,hsz,ev_eq,ev_ne,a9,a4,a13,a2,a3,a12]at p2);obtain⟨hc,hfn⟩:=rC170 hρ;clear hρ;go_simp;(all_goals with_reducible first|rfl|(constructor <;> rfl)))
      (with_reducible refine qa1 (v:=?_) rfl (by with_unfolding_all rfl) (fun ρ hρ W hW=>?_) ?_);(rotate_left 1)
      focus(clear hW;have p13:=hρ (.tmp 13);(simp +decide only [qa2,hsz,ev_eq,ev_ne,a9,a4,a13,a2,a3,a12]at p13);obtain⟨hc,hfn⟩:=rC170 hρ;clear hρ;go_simp;(all_goals with_reducible first|rfl|(constructor <;> rfl)))
      (with_reducible refine qa1 (v:=?_) rfl (by with_unfolding_all rfl) (fun ρ hρ W hW=>?_) ?_);(rotate_left 1)
      focus(have hS:=KS.out _ hW;clear hW;have p60:=hρ (.tmp 60);(simp +decide only [qa2,hsz,ev_eq,ev_ne,a9,a4,a13,a2,a3,a12]at p60);obtain⟨hc,hfn⟩:=rC170 hρ;clear hρ;go_simp;(all_goals with_reducible first|rfl|(constructor <;> rfl)))
      (with_reducible refine qa1 (v:=?_) rfl (by with_unfolding_all rfl) (fun ρ hρ W hW=>?_) ?_);(rotate_left 1)
      focus(clear hW;have p59:=hρ (.tmp 59);have p61:=hρ (.tmp 61);(simp +decide only [qa2,hsz,ev_eq,ev_ne,a9,a4,a13,a2,a3,a12]at p59 p61);obtain⟨hc,hfn⟩:=rC170 hρ;clear hρ;(with_reducible exact qks p59 p61 hsum hcat))
      (with_reducible refine qa1 (v:=?_) rfl (by with_unfolding_all rfl) (fun ρ hρ W hW=>?_) ?_);(rotate_left 1)
      focus(clear hW;have p62:=hρ (.tmp 62);(simp +decide only [qa2,hsz,ev_eq,ev_ne,a9,a4,a13,a2,a3,a12]at p62);obtain⟨hc,hfn⟩:=rC170 hρ;clear hρ;(with_reducible exact qks p62 (hc _) hsum2 hcat2))
      (with_reducible refine qa1 (v:=?_) rfl (by with_unfolding_all rfl) (fun ρ hρ W hW=>?_) ?_);(rotate_left 1)
      focus(clear hW;have p3:=hρ (.tmp 3);(simp +decide only [qa2,hsz,ev_eq,ev_ne,a9,a4,a13,a2,a3,a12]at p3);obtain⟨hc,hfn⟩:=rC170 hρ;clear hρ;go_simp;(all_goals with_reducible first|rfl|(constructor <;> rfl)))
      (with_reducible refine qa1 (v:=?_) rfl (by with_unfolding_all rfl) (fun ρ hρ W hW=>?_) ?_);(rotate_left 1)
      focus(clear hW;have p12:=hρ (.tmp 12);(simp +decide only [qa2,hsz,ev_eq,ev_ne,a9,a4,a13,a2,a3,a12]at p12);obtain⟨hc,hfn⟩:=rC170 hρ;clear hρ;go_simp;(all_goals with_reducible first|rfl|(constructor <;> rfl)))
      (with_reducible refine qa1 (v:=?_) rfl (by with_unfolding_all rfl) (fun ρ hρ W hW=>?_) ?_);(rotate_left 1)
      focus(clear hW;have p64:=hρ (.tmp 64);have p65:=hρ (.tmp 65);(simp +decide only [qa2,hsz,ev_eq,ev_ne,a9,a4,a13,a2,a3,a12]at p64 p65);obtain⟨hc,hfn⟩:=rC170 hρ;clear hρ;go_simp;(all_goals with_reducible first|rfl|(constructor <;> rfl)))
      (with_reducible refine qa1 (v:=?_) rfl (by with_unfolding_all rfl) (fun ρ hρ W hW=>?_) ?_);(rotate_left 1)
      focus(clear hW;have p66:=hρ (.tmp 66);(simp +decide only [qa2,hsz,ev_eq,ev_ne,a9,a4,a13,a2,a3,a12]at p66);obtain⟨hc,hfn⟩:=rC170 hρ;clear hρ;go_simp;(all_goals with_reducible first|rfl|(constructor <;> rfl)))
      (with_reducible refine qa1 (v:=?_) rfl (by with_unfolding_all rfl) (fun ρ hρ W hW=>?_) ?_);(rotate_left 1)
      focus(have hS:=KS.out _ hW;clear hW;have p67:=hρ (.tmp 67);(simp +decide only [qa2,hsz,ev_eq,ev_ne,a9,a4,a13,a2,a3,a12]at p67);obtain⟨hc,hfn⟩:=rC170 hρ;clear hρ;go_simp;(all_goals with_reducible first|rfl|(constructor <;> rfl)))
      (with_reducible refine qam (f:=?_) (args:=?_) rfl (by with_unfolding_all rfl) (fun ρ hρ=>?_) ?_ ?_);(rotate_left 2)
      focus(have p55:=hρ (.tmp 55);have p58:=hρ (.tmp 58);(simp +decide only [qa2,hsz,ev_eq,ev_ne,a9,a4,a13,a2,a3,a12]at p55 p58);have p63:=hρ (.tmp 63);have p68:=hρ (.tmp 68);(simp +decide only [qa2,hsz,ev_eq,ev_ne,a9,a4,a13,a2,a3,a12]at p63 p68);obtain⟨hc,hfn⟩:=rC170 hρ;clear hρ;rw [qa9 (hfn _)];clear hfn;go_simp;(all_goals with_reducible first|rfl|(constructor <;> rfl)))
      with_reducible refine(CI.out _ T.out.bel (DX.out.bel T.out.bel)).mono ?_
      rintro e w5 ⟨rfl,g5⟩;have g5:Bel wd w5:=g5;have T:=Lib.hid (T.out.belw g5);clear g5;refine⟨_,rfl,T.out,?_⟩;rotate_left 1
      focus exact qap
      with_reducible refine qao ?_
      (simp only [List.drop_succ_cons,List.drop_zero])
      subst ha
      (simp only [qav,set_s,set_z])
      go_wp2;go_roundw
      case rel=>exact⟨k+1,F,by omega,by go_num,by go_num,Lib.hid T.out.dropbox0,HST⟩
      case measure=>simp [intOf];omega
     ·have hqe:(S acc).toList.isEmpty=false:=by rw [ByteArray.toList_eq,qbi];exact List.isEmpty_eq_false_iff.2 ha0
      have z0:(S acc).size=acc.length:=qbr _;obtain⟨Q,hQ⟩ : ∃Q,Q=acc ++ [44]:=⟨_,rfl⟩;obtain⟨F,hF⟩ : ∃F,F=Q ++ P:=⟨_,rfl⟩;have HST:=Lib.hid (show(l.drop (k+1)).foldl (pstep (envOf s) (qa4 s) n name pre) F=Z by rw [hF];exact hQ ▸ (qii ha0 _) ▸ hst);have hZ:F.length<=Z.length:=by rw [←HST.out];exact qec _ _
      have hFl:F.length=Q.length+P.length:=by rw [hF,List.length_append]
      have hcc:S Q ++ S P=S F:=by rw [hF];exact S_of (qbp _ _)
      clear hF;have hca:S acc ++ ⟨#[44]⟩=S Q:=by rw [hQ];exact S_of (qbp _ (S [44]))
      have z44:(⟨#[44]⟩:ByteArray).size=1:=rfl;have hQl:Q.length=acc.length+1:=by rw [hQ,List.length_append];rfl
      have hsa:(S acc).size+(⟨#[44]⟩:ByteArray).size<=9223372036854775807:=by rw [z0,z44];omega
      have zQ:(S Q).size=Q.length:=qbr _;clear ha0 hst hQ
      go_upto_region 11 with(fail)
      obtain⟨wd,hwd⟩ : ∃wd,wd=wc.drew:=⟨_,rfl⟩;have T:=Lib.hid (show ST w0 [] [⟨fb,vs.toArray,65⟩,⟨mb,vm.toArray,57⟩,⟨w0.heap.size,#[.slice q1 s.msgs.length c1,.slice q2 s.enums.length c2,.slice q3 s.svcs.length c3],26⟩] wd by rw [hwd];exact HF.out.belw (Bel.refl _).drew);have HWD:=Lib.hid hwd;clear hwd e1 t1;have KS:=Lib.hid (fun W (h:ST w0 [] [⟨fb,vs.toArray,65⟩,⟨mb,vm.toArray,57⟩,⟨w0.heap.size,#[.slice q1 s.msgs.length c1,.slice q2 s.enums.length c2,.slice q3 s.svcs.length c3],26⟩] W)=>show W.cell? ⟨w0.heap.size,0,none⟩=some (.slice q1 s.msgs.length c1)/\W.cell? ⟨w0.heap.size,1,none⟩=some (.slice q2 s.enums.length c2)/\W.cell? ⟨w0.heap.size,2,none⟩=some (.slice q3 s.svcs.length c3)/\W.cell? ⟨fb,5,none⟩=some (.string (S f.tn))/\W.cell? ⟨fb,1,none⟩=some (.string (S f.name))/\W.cell? ⟨g,off+k*2+1,none⟩=some (.slice sp x.subs.length sc)from⟨h.cell 2 rfl 0,h.cell 2 rfl 1,h.cell 2 rfl 2,(h.cell 0 rfl 5).trans HF5.out,(h.cell 0 rfl 1).trans HF1.out,h.bel.some HC1.out⟩);refine qac (fun W=>ST w0 [] [⟨fb,vs.toArray,65⟩,⟨mb,vm.toArray,57⟩,⟨w0.heap.size,#[.slice q1 s.msgs.length c1,.slice q2 s.enums.length c2,.slice q3 s.svcs.length c3],26⟩] W) (.take 0 (.take 1 (.take 2 (.take 3 (.take 4 (.take 5 (.take 6 (.take 7 (.take 8 (.take 9 (.take 10 (.take 11 (.take 12 (.take 13 (.take 14 (.alt 15 .done .no)))))))))))))))) 16 (by kernel_rfl) (by kernel_rfl) HWD.out T.out (fun a ha=>?_)
      (simp only [pickT,List.getD_cons_zero,List.getD_cons_succ])
      have hsz:a.tmps.size=72:=(by rw [ha];kernel_rfl);have a9:a.eval (.tmp 9)=.string (S Q):=(by rw [ha];kernel_rfl);have a4:a.eval (.tmp 4)=.pointer (some ⟨w0.heap.size,0,none⟩):=(by rw [ha];kernel_rfl);have a13:a.eval (.tmp 13)=.pointer (some ⟨fb,0,none⟩):=(by rw [ha];kernel_rfl);have a2:a.eval (.tmp 2)=.string (S pre):=(by rw [ha];kernel_rfl);have a3:a.eval (.tmp 3)=.slice (some ⟨g,off,none⟩) l.length c:=(by rw [ha];kernel_rfl);have a12:a.eval (.tmp 12)=.int .i64 k:=(by rw [ha];kernel_rfl)
      (with_reducible refine qa1 (v:=?_) rfl (by with_unfolding_all rfl) (fun ρ hρ W hW=>?_) ?_);(rotate_left 1)
      focus(clear hW;have p9:=hρ (.tmp 9);(simp +decide only [qa2,hsz,ev_eq,ev_ne,a9,a4,a13,a2,a3,a12]at p9);obtain⟨hc,hfn⟩:=rC170 hρ;clear hρ;go_simp;(all_goals with_reducible first|rfl|(constructor <;> rfl)))
      (with_reducible refine qa1 (v:=?_) rfl (by with_unfolding_all rfl) (fun ρ hρ W hW=>?_) ?_);(rotate_left 1)
      focus(have hS:=KS.out _ hW;clear hW;have p4:=hρ (.tmp 4);(simp +decide only [qa2,hsz,ev_eq,ev_ne,a9,a4,a13,a2,a3,a12]at p4);obtain⟨hc,hfn⟩:=rC170 hρ;clear hρ;go_simp;(all_goals with_reducible first|rfl|(constructor <;> rfl)))
      (with_reducible refine qa1 (v:=?_) rfl (by with_unfolding_all rfl) (fun ρ hρ W hW=>?_) ?_);(rotate_left 1)
      focus(clear hW;have p13:=hρ (.tmp 13);(simp +decide only [qa2,hsz,ev_eq,ev_ne,a9,a4,a13,a2,a3,a12]at p13);obtain⟨hc,hfn⟩:=rC170 hρ;clear hρ;go_simp;(all_goals with_reducible first|rfl|(constructor <;> rfl)))
      (with_reducible refine qa1 (v:=?_) rfl (by with_unfolding_all rfl) (fun ρ hρ W hW=>?_) ?_);(rotate_left 1)
      focus(clear hW;have p56:=hρ (.tmp 56);(simp +decide only [qa2,hsz,ev_eq,ev_ne,a9,a4,a13,a2,a3,a12]at p56);obtain⟨hc,hfn⟩:=rC170 hρ;clear hρ;go_simp;(all_goals with_reducible first|rfl|(constructor <;> rfl)))
      (with_reducible refine qa1 (v:=?_) rfl (by with_unfolding_all rfl) (fun ρ hρ W hW=>?_) ?_);(rotate_left 1)
      focus(have hS:=KS.out _ hW;clear hW;have p57:=hρ (.tmp 57);(simp +decide only [qa2,hsz,ev_eq,ev_ne,a9,a4,a13,a2,a3,a12]at p57);obtain⟨hc,hfn⟩:=rC170 hρ;clear hρ;go_simp;(all_goals with_reducible first|rfl|(constructor <;> rfl)))
      (with_reducible refine qa1 (v:=?_) rfl (by with_unfolding_all rfl) (fun ρ hρ W hW=>?_) ?_);(rotate_left 1)
      focus(clear hW;have p2:=hρ (.tmp 2);(simp +decide only [qa2,hsz,ev_eq,ev_ne,a9,a4,a13,a2,a3,a12]at p2);obtain⟨hc,hfn⟩:=rC170 hρ;clear hρ;go_simp;(all_goals with_reducible first|rfl|(constructor <;> rfl)))
      (with_reducible refine qa1 (v:=?_) rfl (by with_unfolding_all rfl) (fun ρ hρ W hW=>?_) ?_);(rotate_left 1)
      focus(clear hW;have p13:=hρ (.tmp 13);(simp +decide only [qa2,hsz,ev_eq,ev_ne,a9,a4,a13,a2,a3,a12]at p13);obtain⟨hc,hfn⟩:=rC170 hρ;clear hρ;go_simp;(all_goals with_reducible first|rfl|(constructor <;> rfl)))
      (with_reducible refine qa1 (v:=?_) rfl (by with_unfolding_all rfl) (fun ρ hρ W hW=>?_) ?_);(rotate_left 1)
      focus(have hS:=KS.out _ hW;clear hW;have p60:=hρ (.tmp 60);(simp +decide only [qa2,hsz,ev_eq,ev_ne,a9,a4,a13,a2,a3,a12]at p60);obtain⟨hc,hfn⟩:=rC170 hρ;clear hρ;go_simp;(all_goals with_reducible first|rfl|(constructor <;> rfl)))
      (with_reducible refine qa1 (v:=?_) rfl (by with_unfolding_all rfl) (fun ρ hρ W hW=>?_) ?_);(rotate_left 1)
      focus(clear hW;have p59:=hρ (.tmp 59);have p61:=hρ (.tmp 61);(simp +decide only [qa2,hsz,ev_eq,ev_ne,a9,a4,a13,a2,a3,a12]at p59 p61);obtain⟨hc,hfn⟩:=rC170 hρ;clear hρ;(with_reducible exact qks p59 p61 hsum hcat))
      (with_reducible refine qa1 (v:=?_) rfl (by with_unfolding_all rfl) (fun ρ hρ W hW=>?_) ?_);(rotate_left 1)
      focus(clear hW;have p62:=hρ (.tmp 62);(simp +decide only [qa2,hsz,ev_eq,ev_ne,a9,a4,a13,a2,a3,a12]at p62);obtain⟨hc,hfn⟩:=rC170 hρ;clear hρ;(with_reducible exact qks p62 (hc _) hsum2 hcat2))
      (with_reducible refine qa1 (v:=?_) rfl (by with_unfolding_all rfl) (fun ρ hρ W hW=>?_) ?_);(rotate_left 1)
      focus(clear hW;have p3:=hρ (.tmp 3);(simp +decide only [qa2,hsz,ev_eq,ev_ne,a9,a4,a13,a2,a3,a12]at p3);obtain⟨hc,hfn⟩:=rC170 hρ;clear hρ;go_simp;(all_goals with_reducible first|rfl|(constructor <;> rfl)))
      (with_reducible refine qa1 (v:=?_) rfl (by with_unfolding_all rfl) (fun ρ hρ W hW=>?_) ?_);(rotate_left 1)
      focus(clear hW;have p12:=hρ (.tmp 12);(simp +decide only [qa2,hsz,ev_eq,ev_ne,a9,a4,a13,a2,a3,a12]at p12);obtain⟨hc,hfn⟩:=rC170 hρ;clear hρ;go_simp;(all_goals with_reducible first|rfl|(constructor <;> rfl)))
      (with_reducible refine qa1 (v:=?_) rfl (by with_unfolding_all rfl) (fun ρ hρ W hW=>?_) ?_);(rotate_left 1)
      focus(clear hW;have p64:=hρ (.tmp 64);have p65:=hρ (.tmp 65);(simp +decide only [qa2,hsz,ev_eq,ev_ne,a9,a4,a13,a2,a3,a12]at p64 p65);obtain⟨hc,hfn⟩:=rC170 hρ;clear hρ;go_simp;(all_goals with_reducible first|rfl|(constructor <;> rfl)))
      (with_reducible refine qa1 (v:=?_) rfl (by with_unfolding_all rfl) (fun ρ hρ W hW=>?_) ?_);(rotate_left 1)
      focus(clear hW;have p66:=hρ (.tmp 66);(simp +decide only [qa2,hsz,ev_eq,ev_ne,a9,a4,a13,a2,a3,a12]at p66);obtain⟨hc,hfn⟩:=rC170 hρ;clear hρ;go_simp;(all_goals with_reducible first|rfl|(constructor <;> rfl)))
      (with_reducible refine qa1 (v:=?_) rfl (by with_unfolding_all rfl) (fun ρ hρ W hW=>?_) ?_);(rotate_left 1)
      focus(have hS:=KS.out _ hW;clear hW;have p67:=hρ (.tmp 67);(simp +decide only [qa2,hsz,ev_eq,ev_ne,a9,a4,a13,a2,a3,a12]at p67);obtain⟨hc,hfn⟩:=rC170 hρ;clear hρ;go_simp;(all_goals with_reducible first|rfl|(constructor <;> rfl)))
      (with_reducible refine qam (f:=?_) (args:=?_) rfl (by with_unfolding_all rfl) (fun ρ hρ=>?_) ?_ ?_);(rotate_left 2)
      focus(have p55:=hρ (.tmp 55);have p58:=hρ (.tmp 58);(simp +decide only [qa2,hsz,ev_eq,ev_ne,a9,a4,a13,a2,a3,a12]at p55 p58);have p63:=hρ (.tmp 63);have p68:=hρ (.tmp 68);(simp +decide only [qa2,hsz,ev_eq,ev_ne,a9,a4,a13,a2,a3,a12]at p63 p68);obtain⟨hc,hfn⟩:=rC170 hρ;clear hρ;rw [qa9 (hfn _)];clear hfn;go_simp;(all_goals with_reducible first|rfl|(constructor <;> rfl)))
      with_reducible refine(CI.out _ T.out.bel (DX.out.bel T.out.bel)).mono ?_
      rintro e w5 ⟨rfl,g5⟩;have g5:Bel wd w5:=g5;have T:=Lib.hid (T.out.belw g5);clear g5;refine⟨_,rfl,T.out,?_⟩;rotate_left 1
      focus exact qap
      with_reducible refine qao ?_
      (simp only [List.drop_succ_cons,List.drop_zero])
      subst ha
      (simp only [qav,set_s,set_z])
      go_wp2;go_roundw
      case rel=>exact⟨k+1,F,by omega,by go_num,by go_num,Lib.hid T.out.dropbox0,HST⟩
      case measure=>simp [intOf];omega
  ·have hkl:k=l.length:=by omega
   have hki : ¬(k:Int)<(l.length:Int):=by omega
   have hz:acc=Z:=by have:=hx.out;rw [hkl,List.drop_length]at this;exact this
   subst hz;clear hx EL HNX;go_wp2;go_ret;exact⟨rfl,hS.out.bel⟩
theorem qmb : ∀n:Nat,qof (n+1)
 | 0=>qel 0 (fun h=>absurd rfl h)
 | n+1=>qel (n+1) (fun _=>qmb n)
end Go.Proofs.YtaaneecceiefoaaGreatDoor
