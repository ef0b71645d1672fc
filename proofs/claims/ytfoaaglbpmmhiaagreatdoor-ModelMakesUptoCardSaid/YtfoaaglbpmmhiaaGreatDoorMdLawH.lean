import Derived.Test.YtfoaaglbpmmhiaaGreatDoorMdMakeP
import Derived.Test.YtfoaaglbpmmhiaaGreatDoorMrUns
import Derived.Test.YtfoaaglbpmmhiaaGreatDoorMrCamel
import Derived.Test.YtfoaaglbpmmhiaaGreatDoorMdChoice
import Derived.Deep.Upon
import Derived.Deep.AppendLies
import Derived.Test.YtfoaaglbpmmhiaaGreatDoorKitS
set_option maxRecDepth 100000
set_option maxHeartbeats 4000000
set_option linter.unusedVariables false
set_option linter.unusedSimpArgs false
namespace Go.Proofs.YtfoaaglbpmmhiaaGreatDoor
section
open Go.RowKit Ck Md
def nmT (l:List PMem) (k:Nat):List Value:=nmC ((l.take k).map (·.name))
def WithOut (w0:World) (R:List Row) (X:List Box) (l:List PMem) (e:Ending) (w':World):Prop := ∃v',e=.returned v'/\ST w0 (mrow v' l :: R) X w'
theorem qqb {w0 w:World} {R:List Row} {X:List Box} {v:Value} {l:List PMem} {i:Nat} (h:ST w0 R X w) (hi:R[i]? = some (mrow v l)) {k:Nat} (hk:k<l.length) : ∃g cap,v=.slice (some ⟨g,0,none⟩) l.length cap/\w.cell? ⟨g,k*3,none⟩=some (.string (S l[k].name)):=by
 have h0:w.ownsRow w0.heap.size 80 3 v l.length (l.flatMap memC):=h.row i hi;rcases h0.2 with⟨_,hn⟩|⟨g,cap,cur,hv,_⟩
 ·omega
 ·refine⟨g,cap,hv,?_⟩
  refine h.rowcell i hi (by show v=_;exact hv) (k*3) _ ?_;show(l.flatMap memC)[k*3]? = _
  have : ∀(l:List PMem) (k:Nat) (hk:k<l.length),(l.flatMap memC)[k*3]? = some (.string (S l[k].name)):=by
   intro l
   induction l with
   | nil=>intro k hk;simp at hk
   | cons a l ih=>
    intro k hk;rw [List.flatMap_cons];cases k with
    | zero=>rfl
    | succ k=>
     rw [List.getElem?_append_right (by show 3<=_;omega)];show(l.flatMap memC)[(k+1)*3-3]? = _
     rw [show(k+1)*3-3=k*3 by omega,ih k (by simpa using hk)];rfl
  exact this l k hk
theorem qge (w0:World) (R:List Row) (X:List Box) (v:Value) (l:List PMem) (name ty:Str) (num:Int) (w:World) (h:ST w0 (mrow v l :: R) X w) (hl:l.length<=1000000) (hn:name.length<=100000000) :
  Calls Tryz.prog 48 #[v,.string (S name),.string (S ty),.int .i64 num] w (WithOut w0 R X (addM l name ty num)):=by
 obtain⟨i0,hi,hz0,hz1,hz2⟩:=info_parts qc7;obtain⟨i1,hi1,hy0,hy1,hy2⟩:=info_parts qfe;have hown0:w.ownsRow w0.heap.size 80 3 v l.length (l.flatMap memC):=h.row 0 rfl;obtain⟨qv,cv,rfl⟩:=qa9 hown0;have hS0:=h_ (h.nilrow 9 1);have V:=h_ (qfy l name ty num);generalize addM l name ty num=LL at V;have CC:=h_ (fun W=>qh3 (S name) name W (qah _) (by rw [qai];exact hn));have hcl:=qc0 name;generalize Id.camel name=CN at V CC hcl;clear h hown0
 go_enter Tryz.func48,Tryz.ntmps48
 go_wp2
 go_loopw [9,10] (fun vt i wr => ∃k:Nat,k<=l.length/\i=.int .i64 k/\Hid (ST w0 (⟨9,1,vt,k,nmT l k⟩ :: mrow (.slice qv l.length cv) l :: R) X wr)) (fun _ i _=>l.length-(intOf i).toNat)
 case atStart=>exact⟨0,by omega,rfl,hS0⟩
 case round=>
  clear hS0;obtain⟨k,hk,rfl,hS⟩:=hrel;by_cases hlt:k<l.length
  ·have hki:(k:Int)<(l.length:Int):=by omega
   obtain⟨g,cap,hq,c0⟩:=qqb hS.out (i:=1) rfl hlt;cases hq
   have hnm:nmT l k ++ [.string (S l[k].name)]=nmT l (k+1):=by
    unfold nmT;rw [List.take_succ_eq_append_getElem hlt];unfold nmC;rw [List.map_append,List.map_append];rfl
   have HN:=h_ hnm;clear hnm;generalize l[k].name=nm at *;have H1:=h_ (hS.out.belw ((Bel.refl wr).alloc (.cells #[.string (S nm)] 9)));clear hS
   go_wp2_with (at_builtin;refine wpList_append_lies _ rfl _ _ 37 rfl w0.heap.size 9 i0 (.string ByteArray.empty) 1 16 Tryz.underlying37 hi hz0 hz1 hz2 rfl (by decide) _ k _ rfl (H1.out.row 0 rfl) ⟨wr.heap.size,0,none⟩ 1 1 [.string (S nm)] rfl rfl (qaz _ _ _) (by simp [Value.oneCell']) (by decide) (by unfold maxLen;omega) (by omega) H1.out.bel.size (wr.heap.size+1) (by simp) ?_)
   intro g2 cap2 w2 hown hgrow hfr hlt2;have H2:=h_ (H1.out.grow 0 rfl hgrow hown (qby hfr (by simp)));clear H1 hown hgrow hfr hlt2;go_wp2;go_roundw
   case rel=>exact⟨k+1,by omega,by go_num,h_ (by rw [←HN.out];exact H2.out)⟩
   case measure=>simp [intOf];omega
  ·have hkl:k=l.length:=by omega
   subst hkl;have H:=h_ (show ST w0 (⟨9,1,_,l.length,nmC (l.map (·.name))⟩ :: mrow (.slice qv l.length cv) l :: R) X wr by have:=hS.out;unfold nmT at this;rw [List.take_length]at this;exact this);have hlm:(l.map (·.name)).length=l.length:=List.length_map ..;have hvo:=qa9 (H.out.row 0 rfl);dsimp only at hvo;obtain⟨qt,ct,hvt⟩:=hvo;subst hvt;have CU:=h_ (fun W (kk:Bel wr W)=>qdx _ (l.map (·.name)) CN W (qd5 (by rw [hlm];exact(H.out.belw kk).row 0 rfl) (by rw [hlm];omega)) (by omega) (by rw [List.length_map];omega));generalize qbl (l.map (·.name)) CN=U at V CU;clear hS
   go_wp2_with (first
    | (go_at_call 67;(with_reducible refine(CC.out _).mono ?_);rintro e w1 ⟨rfl,k1⟩;have k1:Bel _ w1:=k1)
    | (go_at_call 19;(with_reducible refine(CU.out _ k1).mono ?_);rintro e w2 ⟨rfl,k2⟩;have H1:=h_ ((H.out.belw k1).belw k2);have H2:=h_ (H1.out.belw ((Bel.refl w2).alloc (.cells #[.string (S U),.string (S ty),.int .i64 num] 80))))
    | (at_builtin;refine wpList_append_lies _ rfl _ _ 45 rfl w0.heap.size 80 i1 (.agg #[.string ByteArray.empty,.string ByteArray.empty,.int .i64 0]) 3 40 Tryz.underlying45 hi1 hy0 hy1 hy2 rfl (by decide) _ l.length _ rfl (H2.out.row 1 rfl) ⟨w2.heap.size,0,none⟩ 1 1 [.string (S U),.string (S ty),.int .i64 num] rfl rfl (qaz _ _ _) (by simp [Value.oneCell']) (by decide) (by unfold maxLen;omega) (by omega) H2.out.bel.size (w2.heap.size+1) (by simp) ?_))
   intro g3 cap3 w3 hown hgrow hfr hlt3;have H3:=h_ ((H2.out.grow 1 rfl hgrow hown (qby hfr (by simp))).droprow 0);clear H2 H1 H hown hgrow hfr hlt3;go_wp2;go_ret;refine⟨_,rfl,?_⟩;rw [V.out];unfold mrow;rw [List.length_append,List.flatMap_append];exact H3.out
end
section
open Go.RowKit Ck Md
def declV (d:PDecl) (mv:Value):Value:=.agg #[.int .i64 d.kind,.string (S d.name),.string (S d.frm),mv]
def FindOut (w:World) (OD:Option PDecl) (e:Ending) (w':World):Prop := ∃(p:Option Addr) (c:Nat),e=.returned (.tuple #[declV (OD.getD zeroD) (.slice p (OD.getD zeroD).mems.length c),.bool OD.isSome])/\Mems w' (.slice p (OD.getD zeroD).mems.length c) (OD.getD zeroD).mems/\Bel w w'
theorem qlk {α:Type} (P:α->Bool) (l:List α) (k:Nat) (h:k<l.length):(l.drop k).find? P=if P l[k]=true then some l[k]else(l.drop (k+1)).find? P:=by
 rw [List.drop_eq_getElem_cons h,List.find?_cons];cases P l[k] <;> rfl
end
section
open Go.RowKit Ck Md
theorem rd_Of (v:Value) (l:List PDecl) (n:Str) (w:World) (hv:Decls w v l) :
  Calls Tryz.prog 32 #[v,.string (S n)] w (FindOut w (ofD l n)):=by
 obtain⟨q,c,rfl,hl,hcap,hel⟩:=hv;have V:=h_ (show(l.drop 0).find? (fun d=>decide (d.frm=n))=ofD l n from rfl);generalize ofD l n=OD at V;have EL:=h_ hel;clear hel;have hb0:=heap_alloc_new w (.cells #[.int .i64 0,.string ⟨#[]⟩,.string ⟨#[]⟩,.slice none 0 0] 47);have kw:Bel w (w.alloc (.cells #[.int .i64 0,.string ⟨#[]⟩,.string ⟨#[]⟩,.slice none 0 0] 47)):=(Bel.refl w).alloc _
 go_enter Tryz.func32,Tryz.ntmps32
 go_wp2
 go_loop [6] (fun i => ∃k:Nat,k<=l.length/\i=.int .i64 k/\Hid ((l.drop k).find? (fun d=>decide (d.frm=n))=OD)) (fun i=>l.length-(intOf i).toNat)
 case atStart=>exact⟨0,by omega,rfl,V⟩
 case round=>
  obtain⟨k,hk,rfl,hx⟩:=hrel;by_cases hlt:k<l.length
  ·have hki:(k:Int)<(l.length:Int):=by omega
   have hg:=List.getElem?_eq_getElem hlt;obtain⟨b,off,rfl,hbs,vs,hce,hvs⟩:=EL.out k _ hg;obtain⟨mv,hvs1,hmv⟩:=hvs;subst hvs1;have hst:=hx.out;rw [qlk _ _ _ hlt]at hst;have hms:=h_ hmv;obtain⟨qm,cm,rfl,_,_,_⟩:=hmv;have e0:=kw.some (hce 0 _ rfl);rw [Nat.add_zero]at e0;have e1:=kw.some (hce 1 _ rfl);have e2:=kw.some (hce 2 _ rfl);have e3:=kw.some (hce 3 _ rfl);have e0w:=hce 0 _ rfl;rw [Nat.add_zero]at e0w;have e1w:=hce 1 _ rfl;have e2w:=hce 2 _ rfl;have e3w:=hce 3 _ rfl;clear hx hg hce;generalize l[k]=d at *;by_cases he:d.frm=n
   ·rw [if_pos (by simpa using he)]at hst
    have HT:=h_ hst;have hcmp:((S d.frm).toList == (S n).toList)=true:=by rw [ByteArray.toList_eq,ByteArray.toList_eq,qah,qah,he];simp
    clear hst he;go_wp2;refine bodyPost_ret (v:=.tuple #[declV d (.slice qm d.mems.length cm),.bool true]) ?hres rfl ?hpost
    case hres=>exact qeo rfl rfl rfl (heap_alloc_new w _) Tryz.underlying47 rfl (by kernel_rfl)
    case hpost=>
     rw [←HT.out];have kf:Bel w _:=(Bel.refl w).alloc (.cells #[.int .i64 d.kind,.string (S d.name),.string (S d.frm),.slice qm d.mems.length cm] 47);exact⟨qm,cm,rfl,hms.out.bel VMem.stays kf,kf⟩
   ·rw [if_neg (by simpa using he)]at hst
    have HT:=h_ hst;have hcmp:((S d.frm).toList == (S n).toList)=false:=by rw [ByteArray.toList_eq,ByteArray.toList_eq,qah,qah];simpa using he
    clear hst he;go_wp2;go_round
    case rel=>exact⟨k+1,by omega,by go_num,HT⟩
    case measure=>simp [intOf];omega
  ·have hxe:OD=none:=by rw [←hx.out,List.drop_eq_nil_of_le (by omega)];rfl
   have HT:=h_ hxe;clear hxe hx;go_wp2;refine bodyPost_ret (v:=.tuple #[declV zeroD (.slice none 0 0),.bool false]) ?hres rfl ?hpost
   case hres=>exact qeo rfl rfl rfl (heap_alloc_new w _) Tryz.underlying47 rfl (by kernel_rfl)
   case hpost=>
    rw [HT.out];have kf:Bel w _:=(Bel.refl w).alloc (.cells #[.int .i64 0,.string ⟨#[]⟩,.string ⟨#[]⟩,.slice none 0 0] 47);exact⟨none,0,rfl,Sl.nil _ _ _ _ _,kf⟩
end
section
open Go.RowKit Ck Md
end
section
open Go.RowKit Ck Md
theorem qm6 (d:PDecl) (qa qb:Option Addr) (ca cb:Nat) (w:World) (ha:Mems w (.slice qa d.mems.length ca) d.mems) (hb:Mems w (.slice qb d.mems.length cb) d.mems) :
  Calls Tryz.prog 29 #[declV d (.slice qa d.mems.length ca),declV d (.slice qb d.mems.length cb)] w fun e w'=>e=.returned (.bool true)/\Bel w w':=by
 obtain⟨_,_,hq,hl,hcap,hela⟩:=ha;cases hq;obtain⟨_,_,hq,_,hcapb,helb⟩:=hb;cases hq;have EA:=h_ hela;have EB:=h_ helb;clear hela helb
 have S2:=h_ (show ST w [] [⟨w.heap.size+1,#[.int .i64 d.kind,.string (S d.name),.string (S d.frm),.slice qb d.mems.length cb],47⟩,⟨w.heap.size,#[.int .i64 d.kind,.string (S d.name),.string (S d.frm),.slice qa d.mems.length ca],47⟩] ((w.alloc (.cells #[.int .i64 d.kind,.string (S d.name),.string (S d.frm),.slice qa d.mems.length ca] 47)).alloc (.cells #[.int .i64 d.kind,.string (S d.name),.string (S d.frm),.slice qb d.mems.length cb] 47))from by
  have:=((ST.start w).addbox #[.int .i64 d.kind,.string (S d.name),.string (S d.frm),.slice qa d.mems.length ca] 47).addbox #[.int .i64 d.kind,.string (S d.name),.string (S d.frm),.slice qb d.mems.length cb] 47;rw [World.size_alloc]at this
  exact this)
 unfold declV
 go_enter Tryz.func29,Tryz.ntmps29
 go_upto_region 2 with(fail)
 go_wp2
 go_loopw [5,6] (fun o i wr => ∃k:Nat,k<=d.mems.length/\o=.bool true/\i=.int .i64 k/\Hid (ST w [] [⟨w.heap.size+1,#[.int .i64 d.kind,.string (S d.name),.string (S d.frm),.slice qb d.mems.length cb],47⟩,⟨w.heap.size,#[.int .i64 d.kind,.string (S d.name),.string (S d.frm),.slice qa d.mems.length ca],47⟩] wr)) (fun _ i _=>d.mems.length-(intOf i).toNat)
 case atStart=>exact⟨0,by omega,by simp,rfl,S2⟩
 case round=>
  clear S2;obtain⟨k,hk,rfl,rfl,hST⟩:=hrel;have xa:wr.cell? ⟨w.heap.size,3,none⟩=some (.slice qa d.mems.length ca):=hST.out.cell 1 rfl 3;by_cases hlt:k<d.mems.length
  ·have hki:(k:Int)<(d.mems.length:Int):=by omega
   have hg:=List.getElem?_eq_getElem hlt;obtain⟨b1,o1,rfl,hs1,vs1,hc1,hv1⟩:=EA.out k _ hg;obtain⟨b2,o2,rfl,hs2,vs2,hc2,hv2⟩:=EB.out k _ hg;have hv1':vs1=memC d.mems[k]:=hv1;have hv2':vs2=memC d.mems[k]:=hv2;subst hv1' hv2';generalize d.mems[k]=m at *
   go_upto_region 5 with(fail)
   obtain⟨wd,hwd⟩ : ∃wd,wd=wr.drew:=⟨_,rfl⟩;have HD:=h_ (show ST w _ _ wd by rw [hwd];exact hST.out.belw (Bel.refl _).drew);have HWD:=h_ hwd;clear hwd hST xa;have kd:=HD.out.bel;have xa:wd.cell? ⟨w.heap.size,3,none⟩=some (.slice (some ⟨b1,o1,none⟩) d.mems.length ca):=HD.out.cell 1 rfl 3;have xb:wd.cell? ⟨w.heap.size+1,3,none⟩=some (.slice (some ⟨b2,o2,none⟩) d.mems.length cb):=HD.out.cell 0 rfl 3;have e0:wd.cell? ⟨b1,o1+k*3,none⟩=some (.string (S m.name)):=kd.some (by have:=hc1 0 (.string (S m.name)) rfl;rwa [Nat.add_zero]at this);have e1:wd.cell? ⟨b1,o1+k*3+1,none⟩=some (.string (S m.ty)):=kd.some (hc1 1 _ rfl);have e2:wd.cell? ⟨b1,o1+k*3+2,none⟩=some (.int .i64 m.num):=kd.some (hc1 2 _ rfl);have f0:wd.cell? ⟨b2,o2+k*3,none⟩=some (.string (S m.name)):=kd.some (by have:=hc2 0 (.string (S m.name)) rfl;rwa [Nat.add_zero]at this);have f1:wd.cell? ⟨b2,o2+k*3+1,none⟩=some (.string (S m.ty)):=kd.some (hc2 1 _ rfl);have f2:wd.cell? ⟨b2,o2+k*3+2,none⟩=some (.int .i64 m.num):=kd.some (hc2 2 _ rfl);refine qae 10 (by kernel_rfl) (by kernel_rfl) HWD.out ?_
   (simp only [t_1,t_2,t_3,t_4]);(repeat (first|((with_reducible refine wpStill_step (fun K hK=>?_));go_simp;(with_reducible refine hK _ ?_);clear hK K)|((with_reducible refine qaa ?_ ?_);(with_unfolding_all rfl))));(with_reducible refine wpStill_nil ?_)
   go_wp2;go_roundw
   case rel=>exact⟨k+1,by omega,by simp,by go_num,HD⟩
   case measure=>simp [intOf];omega
  ·have hki : ¬(k:Int)<(d.mems.length:Int):=by omega
   go_wp2;go_ret
   exact⟨rfl,hST.out.bel⟩
end
section
open Go.RowKit Ck Md
end
section
open Go.RowKit Ck Md
theorem rd_word (k:Int) (w:World):Calls Tryz.prog 57 #[.int .i64 k] w fun e w'=>e=.returned (.string (S (wordR k)))/\Bel w w':=by
 by_cases hk:1<=k/\k<=8
 ·obtain⟨h1,h2⟩:=hk
  have hc:k=1 ∨ k=2 ∨ k=3 ∨ k=4 ∨ k=5 ∨ k=6 ∨ k=7 ∨ k=8:=by omega
  clear h1 h2;rcases hc with h|h|h|h|h|h|h|h
  ·subst h
   go_enter Tryz.func57,Tryz.ntmps57
   go_wp2;go_ret
   exact⟨rfl,(Bel.refl _).alloc _⟩
  ·subst h
   go_enter Tryz.func57,Tryz.ntmps57
   go_wp2;go_ret
   exact⟨rfl,(Bel.refl _).alloc _⟩
  ·subst h
   go_enter Tryz.func57,Tryz.ntmps57
   go_wp2;go_ret
   exact⟨rfl,(Bel.refl _).alloc _⟩
  ·subst h
   go_enter Tryz.func57,Tryz.ntmps57
   go_wp2;go_ret
   exact⟨rfl,(Bel.refl _).alloc _⟩
  ·subst h
   go_enter Tryz.func57,Tryz.ntmps57
   go_wp2;go_ret
   exact⟨rfl,(Bel.refl _).alloc _⟩
  ·subst h
   go_enter Tryz.func57,Tryz.ntmps57
   go_wp2;go_ret
   exact⟨rfl,(Bel.refl _).alloc _⟩
  ·subst h
   go_enter Tryz.func57,Tryz.ntmps57
   go_wp2;go_ret
   exact⟨rfl,(Bel.refl _).alloc _⟩
  ·subst h
   go_enter Tryz.func57,Tryz.ntmps57
   go_wp2;go_ret
   exact⟨rfl,(Bel.refl _).alloc _⟩
 ·have hT:=h_ (show wordR k=[]from if_neg hk)
  by_cases h1:k<1
  ·clear hk
   go_enter Tryz.func57,Tryz.ntmps57
   go_wp2;go_ret
   exact⟨by rw [hT.out];rfl,(Bel.refl _).alloc _⟩
  ·have h2:8<k:=by omega
   clear hk
   go_enter Tryz.func57,Tryz.ntmps57
   go_wp2;go_ret
   exact⟨by rw [hT.out];rfl,(Bel.refl _).alloc _⟩
theorem qk5 (k:Int):(wordR k).length<=6:=by
 unfold wordR
 split
 ·exact qj2 k
 ·simp
def FoundZ (w:World) (Z:PDecl) (e:Ending) (w':World):Prop := ∃(p:Option Addr) (c:Nat) (b:Bool),e=.returned (.tuple #[.agg #[.int .i64 Z.kind,.string (S Z.name),.string (S Z.frm),.slice p Z.mems.length c],.bool b])/\Mems w' (.slice p Z.mems.length c) Z.mems/\Bel w w'
theorem qfl {w w':World} {e:Ending} {D:List PDecl} {f:Str} (h:FindOut w (ofD D f) e w'):FoundZ w (ofZ D f) e w':=by
 obtain⟨p,c,h1,h2,h3⟩:=h;exact⟨p,c,_,h1,h2,h3⟩
theorem qia (v:Value) (l:List PDecl) (tk:Int) (tn:Str) (w:World) (hv:Decls w v l) :
  Calls Tryz.prog 26 #[v,.agg #[.int .i64 tk,.string (S tn)]] w fun e w'=>e=.returned (.string (S (qbz l tk tn)))/\Bel w w':=by
 have kw:Bel w (w.alloc (.cells #[.int .i64 tk,.string (S tn)] 54)):=(Bel.refl w).alloc _;have CW:=h_ (fun W=>rd_word tk W);have CO:=h_ (fun W (k:Bel w W)=>(rd_Of v l tn W (hv.bel VDecl.stays k)).mono (fun e w' h=>qfl h));have HV:=h_ (show qbz l tk tn=if wordR tk ≠ []then wordR tk else(ofZ l tn).name from rfl);obtain⟨q,c,rfl,_⟩:=hv;generalize qbz l tk tn=E at HV;generalize wordR tk=X at CW HV;generalize ofZ l tn=Z at CO HV;by_cases hX:X=[]
 ·have hE:=h_ (show E=Z.name by rw [HV.out,if_neg (fun h=>h hX)])
  subst hX;have hte:(S ([]:Str)).toList=[]:=by rw [ByteArray.toList_eq,qah]
  have hte2:(S ([]:Str)).toList.isEmpty=true:=by rw [hte];rfl
  clear HV
  go_enter Tryz.func26,Tryz.ntmps26
  go_wp2_with (first
   | (go_at_call 57;(with_reducible refine(CW.out _).mono ?_);rintro e w1 ⟨rfl,k1⟩;have kk1:=Bel.of kw k1.out;have c1:w1.cell? ⟨w.heap.size,1,none⟩=some (.string (S tn)):=k1.some (by rw [World.cell?_alloc_at _ _ _ _ rfl];rfl))
   | (go_at_call 32;(with_reducible refine(CO.out _ kk1).mono ?_);rintro e w2 ⟨p,c2,b,rfl,m2,k2⟩))
  go_ret;exact⟨qay (by rw [hE.out]),(Bel.of kk1 k2.out).alloc _⟩
 ·have hE:=h_ (show E=X by rw [HV.out,if_pos hX])
  have hne:(S X).toList ≠ []:=by rw [ByteArray.toList_eq,qah];exact hX
  have hne2:(S X).toList.isEmpty=false:=by rw [ByteArray.toList_eq,qah];simpa using hX
  clear HV
  go_enter Tryz.func26,Tryz.ntmps26
  go_wp2_with (go_at_call 57;(with_reducible refine(CW.out _).mono ?_);rintro e w1 ⟨rfl,k1⟩;have kk1:=Bel.of kw k1.out;have c1:w1.cell? ⟨w.heap.size,1,none⟩=some (.string (S tn)):=k1.some (by rw [World.cell?_alloc_at _ _ _ _ rfl];rfl))
  go_ret;exact⟨qay (by rw [hE.out]),kk1⟩
theorem rd_Typed (v:Value) (l:List PDecl) (f:PField) (r1 r2 r3 r4 r5:Option Addr) (d1 d2 d3 d4 d5:Nat) (w:World) (hv:Decls w v l) (hl:(qbz l f.tk f.tn).length<=1000000000) :
  Calls Tryz.prog 25 #[v,.agg #[.int .i64 f.num,.string (S f.name),.int .i64 f.card,.int .i64 f.key,.int .i64 f.tk,.string (S f.tn),.string (S f.un),.bool f.hd,.int .i64 f.df.k,.int .u64 f.df.x,.string (S f.df.t),.slice r1 f.df.n1 d1,.slice r2 f.df.n2 d2,.slice r3 f.df.n3 d3,.slice r4 f.df.n4 d4,.slice r5 f.notes.length d5]] w fun e w'=>e=.returned (.string (S (qgx l f)))/\Bel w w':=by
 have CN:=h_ (fun W (kk:Bel w W)=>qia v l f.tk f.tn W (hv.bel VDecl.stays kk));have CW:=h_ (fun W=>rd_word f.key W);have hw:=qk5 f.key;have kw:Bel w (w.alloc (.cells #[.int .i64 f.num,.string (S f.name),.int .i64 f.card,.int .i64 f.key,.int .i64 f.tk,.string (S f.tn),.string (S f.un),.bool f.hd,.int .i64 f.df.k,.int .u64 f.df.x,.string (S f.df.t),.slice r1 f.df.n1 d1,.slice r2 f.df.n2 d2,.slice r3 f.df.n3 d3,.slice r4 f.df.n4 d4,.slice r5 f.notes.length d5] 63)):=(Bel.refl w).alloc _;have HV:=h_ (show qgx l f=qei f.card (wordR f.key) (qbz l f.tk f.tn)from rfl);obtain⟨q,c,rfl,_⟩:=hv;generalize qgx l f=T at HV;generalize qbz l f.tk f.tn=E at CN HV hl;generalize wordR f.key=WW at CW HV hw;have zE:(S E).size=E.length:=qai _;have zW:(S WW).size=WW.length:=qai _;by_cases h2:f.card=2
 ·have e2:=ieq2 h2
  have hT:=h_ (show T=[63] ++ E by rw [HV.out];unfold qei;rw [if_pos h2];try rfl);clear HV h2
  go_enter Tryz.func25,Tryz.ntmps25
  go_wp2_with (first
   | (go_at_call 26;(with_reducible refine(CN.out _ kw).mono ?_);rintro e w1 ⟨rfl,k1⟩;have kk1:=Bel.of kw k1.out;have c2:w1.cell? ⟨w.heap.size,2,none⟩=some (.int .i64 f.card):=k1.some (by rw [World.cell?_alloc_at _ _ _ _ rfl];rfl);have c3:w1.cell? ⟨w.heap.size,3,none⟩=some (.int .i64 f.key):=k1.some (by rw [World.cell?_alloc_at _ _ _ _ rfl];rfl))
   | (go_at_call 57;(with_reducible refine(CW.out _).mono ?_);rintro e w2 ⟨rfl,k2⟩))
  go_ret;exact⟨qay (by rw [hT.out];simp only [←S_app];rfl),kk1⟩
 have e2:=ine2 h2;by_cases h4:f.card=4
 ·have e4:=ieq2 h4
  have hT:=h_ (show T=[91,93] ++ E by rw [HV.out];unfold qei;rw [if_neg h2,if_pos h4];try rfl);clear HV h4 h2
  go_enter Tryz.func25,Tryz.ntmps25
  go_wp2_with (first
   | (go_at_call 26;(with_reducible refine(CN.out _ kw).mono ?_);rintro e w1 ⟨rfl,k1⟩;have kk1:=Bel.of kw k1.out;have c2:w1.cell? ⟨w.heap.size,2,none⟩=some (.int .i64 f.card):=k1.some (by rw [World.cell?_alloc_at _ _ _ _ rfl];rfl);have c3:w1.cell? ⟨w.heap.size,3,none⟩=some (.int .i64 f.key):=k1.some (by rw [World.cell?_alloc_at _ _ _ _ rfl];rfl))
   | (go_at_call 57;(with_reducible refine(CW.out _).mono ?_);rintro e w2 ⟨rfl,k2⟩))
  go_ret;exact⟨qay (by rw [hT.out];simp only [←S_app];rfl),kk1⟩
 have e4:=ine2 h4;by_cases h5:f.card=5
 ·have e5:=ieq2 h5
  have hT:=h_ (show T=[109,97,112,91] ++ WW ++ [93] ++ E by rw [HV.out];unfold qei;rw [if_neg h2,if_neg h4,if_pos h5];try rfl);clear HV h5 h2 h4
  go_enter Tryz.func25,Tryz.ntmps25
  go_wp2_with (first
   | (go_at_call 26;(with_reducible refine(CN.out _ kw).mono ?_);rintro e w1 ⟨rfl,k1⟩;have kk1:=Bel.of kw k1.out;have c2:w1.cell? ⟨w.heap.size,2,none⟩=some (.int .i64 f.card):=k1.some (by rw [World.cell?_alloc_at _ _ _ _ rfl];rfl);have c3:w1.cell? ⟨w.heap.size,3,none⟩=some (.int .i64 f.key):=k1.some (by rw [World.cell?_alloc_at _ _ _ _ rfl];rfl))
   | (go_at_call 57;(with_reducible refine(CW.out _).mono ?_);rintro e w2 ⟨rfl,k2⟩))
  go_ret;exact⟨qay (by rw [hT.out];simp only [←S_app];rfl),(Bel.of kk1 k2.out)⟩
 have e5:=ine2 h5;have hT:=h_ (show T=E by rw [HV.out];unfold qei;rw [if_neg h2,if_neg h4,if_neg h5]);clear HV h2 h4 h5
 go_enter Tryz.func25,Tryz.ntmps25
 go_wp2_with (go_at_call 26;(with_reducible refine(CN.out _ kw).mono ?_);rintro e w1 ⟨rfl,k1⟩;have kk1:=Bel.of kw k1.out;have c2:w1.cell? ⟨w.heap.size,2,none⟩=some (.int .i64 f.card):=k1.some (by rw [World.cell?_alloc_at _ _ _ _ rfl];rfl);have c3:w1.cell? ⟨w.heap.size,3,none⟩=some (.int .i64 f.key):=k1.some (by rw [World.cell?_alloc_at _ _ _ _ rfl];rfl))
 go_ret;exact⟨qay (by rw [hT.out]),kk1⟩
theorem qni (v:Value) (l:List PDecl) (nm inn out:Str) (SH:Int) (r5:Option Addr) (n5 d5:Nat) (w:World) (hv:Decls w v l) (hi:(ofZ l inn).name.length<=400) (ho:(ofZ l out).name.length<=400) :
  Calls Tryz.prog 27 #[v,.agg #[.string (S nm),.string (S inn),.string (S out),.int .i64 SH,.slice r5 n5 d5]] w fun e w'=>e=.returned (.string (S (qbn SH (ofZ l inn).name (ofZ l out).name)))/\Bel w w':=by
 have kw:=h_ (show Bel w (w.alloc (.cells #[.string (S nm),.string (S inn),.string (S out),.int .i64 SH,.slice r5 n5 d5] 71))from(Bel.refl w).alloc _);have CI:=h_ (fun W (k:Bel w W)=>(rd_Of v l inn W (hv.bel VDecl.stays k)).mono (fun e w' h=>qfl h));have CO:=h_ (fun W (k:Bel w W)=>(rd_Of v l out W (hv.bel VDecl.stays k)).mono (fun e w' h=>qfl h));have HP:=h_ (fun(W:World) (k:Bel (w.alloc (.cells #[.string (S nm),.string (S inn),.string (S out),.int .i64 SH,.slice r5 n5 d5] 71)) W)=>show W.cell? ⟨w.heap.size,2,none⟩=some (.string (S out))/\W.cell? ⟨w.heap.size,3,none⟩=some (.int .i64 SH)from⟨k.some (by rw [World.cell?_alloc_at _ _ _ _ rfl];rfl),k.some (by rw [World.cell?_alloc_at _ _ _ _ rfl];rfl)⟩);have HV:=h_ (show qbn SH (ofZ l inn).name (ofZ l out).name=(if SH=3 ∨ SH=4 then qcf ++ (ofZ l inn).name else(ofZ l inn).name) ++ [45,62] ++ (if SH=2 ∨ SH=4 then qcf ++ (ofZ l out).name else(ofZ l out).name)from rfl);obtain⟨q,c,rfl,_⟩:=hv;generalize qbn SH (ofZ l inn).name (ofZ l out).name=T at HV ⊢;generalize ofZ l inn=ZI at CI HV hi;generalize ofZ l out=ZO at CO HV ho;have zi:(S ZI.name).size=ZI.name.length:=qai _;have zo:(S ZO.name).size=ZO.name.length:=qai _
 go_enter Tryz.func27,Tryz.ntmps27
 go_upto_region 2 with(go_at_call 32;(with_reducible refine(CI.out _ kw.out).mono ?_);rintro e w1 ⟨p1,c1,b1,rfl,m1,k1⟩)
 have H1:=h_ (show Bel (w.alloc (.cells #[.string (S nm),.string (S inn),.string (S out),.int .i64 SH,.slice r5 n5 d5] 71)) (w1.alloc (.cells #[.int .i64 ZI.kind,.string (S ZI.name),.string (S ZI.frm),.slice p1 ZI.mems.length c1] 47))from(show Bel _ w1 from k1).alloc _);have hb1:(w1.alloc (.cells #[.int .i64 ZI.kind,.string (S ZI.name),.string (S ZI.frm),.slice p1 ZI.mems.length c1] 47)).heap[w1.heap.size]? = some (.cells #[.int .i64 ZI.kind,.string (S ZI.name),.string (S ZI.frm),.slice p1 ZI.mems.length c1] 47 (0,0)):=heap_alloc_new _ _;clear k1 m1 CI;generalize w1.alloc (.cells #[.int .i64 ZI.kind,.string (S ZI.name),.string (S ZI.frm),.slice p1 ZI.mems.length c1] 47)=V1 at hb1 H1 ⊢;generalize w1.heap.size=g1 at hb1 ⊢;obtain⟨y2,y3⟩:=HP.out _ H1.out;have KV1:=h_ (show Bel w V1 from(Bel.of kw.out H1.out.out).out)
 go_upto_region 3 with(go_at_call 32;(with_reducible refine(CO.out _ KV1.out).mono ?_);rintro e w2 ⟨p2,c2,b2,rfl,m2,k2⟩)
 have H2:=h_ (show Bel V1 (w2.alloc (.cells #[.int .i64 ZO.kind,.string (S ZO.name),.string (S ZO.frm),.slice p2 ZO.mems.length c2] 47))from(show Bel _ w2 from k2).alloc _);have hb2:(w2.alloc (.cells #[.int .i64 ZO.kind,.string (S ZO.name),.string (S ZO.frm),.slice p2 ZO.mems.length c2] 47)).heap[w2.heap.size]? = some (.cells #[.int .i64 ZO.kind,.string (S ZO.name),.string (S ZO.frm),.slice p2 ZO.mems.length c2] 47 (0,0)):=heap_alloc_new _ _;clear k2 m2 CO y2 y3;generalize w2.alloc (.cells #[.int .i64 ZO.kind,.string (S ZO.name),.string (S ZO.frm),.slice p2 ZO.mems.length c2] 47)=V2 at hb2 H2 ⊢;generalize w2.heap.size=g2 at hb2 ⊢;have KV2:=h_ (show Bel w V2 from(Bel.of KV1.out H2.out.out).out);have z1:V2.cell? ⟨g1,1,none⟩=some (.string (S ZI.name)):=H2.out.some (Lib.cell_of_heap hb1 1);have z2:V2.cell? ⟨g2,1,none⟩=some (.string (S ZO.name)):=Lib.cell_of_heap hb2 1;obtain⟨y2,y3⟩:=HP.out _ (Bel.of H1.out H2.out.out);clear hb1 hb2 H1 H2 KV1 HP kw;by_cases h2:SH=2
 ·subst h2
  have hT:=h_ (show T=(ZI.name) ++ [45,62] ++ (qcf ++ ZO.name)by rw [HV.out];rfl);clear HV;go_wp2;go_ret;exact⟨qay (by rw [hT.out];exact S_of (by simp [ByteArray.data_append,qah,qcf])),KV2.out⟩
 by_cases h3:SH=3
 ·subst h3
  have hT:=h_ (show T=(qcf ++ ZI.name) ++ [45,62] ++ (ZO.name)by rw [HV.out];rfl);clear HV;go_wp2;go_ret;exact⟨qay (by rw [hT.out];exact S_of (by simp [ByteArray.data_append,qah,qcf])),KV2.out⟩
 by_cases h4:SH=4
 ·subst h4
  have hT:=h_ (show T=(qcf ++ ZI.name) ++ [45,62] ++ (qcf ++ ZO.name)by rw [HV.out];rfl);clear HV;go_wp2;go_ret;exact⟨qay (by rw [hT.out];exact S_of (by simp [ByteArray.data_append,qah,qcf])),KV2.out⟩
 have e2:=ine2 h2;have e3:=ine2 h3;have e4:=ine2 h4;have hT:=h_ (show T=(ZI.name) ++ [45,62] ++ (ZO.name)by rw [HV.out,if_neg (fun h=>h.elim h3 h4),if_neg (fun h=>h.elim h2 h4)]);clear HV;go_wp2;go_ret;exact⟨qay (by rw [hT.out];exact S_of (by simp [ByteArray.data_append,qah,qcf])),KV2.out⟩
theorem qq5 (v:Value) (l:List PDecl) (x:PMeth) (r5:Option Addr) (n5 d5:Nat) (w:World) (hv:Decls w v l) (hi:(ofZ l x.inn).name.length<=400) (ho:(ofZ l x.out).name.length<=400) :
  Calls Tryz.prog 27 #[v,.agg #[.string (S x.name),.string (S x.inn),.string (S x.out),.int .i64 x.shape,.slice r5 n5 d5]] w fun e w'=>e=.returned (.string (S (qfv l x)))/\Bel w w':=qni v l x.name x.inn x.out x.shape r5 n5 d5 w hv hi ho
end
section
open Go.RowKit Ck Md
theorem law_few (q1 q2 q3:Option Addr) (n1 n2 n3 c1 c2 c3:Nat) (w:World) :
  Calls Tryz.prog 10 #[.agg #[.slice q1 n1 c1,.slice q2 n2 c2,.slice q3 n3 c3]] w fun e w'=>e=.returned (.bool (decide (n1<=8/\n2<=8/\n3<=8)))/\Bel w w':=by
 have kw:Bel w (w.alloc (.cells #[.slice q1 n1 c1,.slice q2 n2 c2,.slice q3 n3 c3] 26)):=(Bel.refl w).alloc _;obtain⟨B,hB⟩ : ∃B,B=decide (n1<=8/\n2<=8/\n3<=8):=⟨_,rfl⟩;rw [←hB];by_cases h1:(n1:Int)<=8
 ·by_cases h2:(n2:Int)<=8
  ·by_cases h3:(n3:Int)<=8
   ·have HT:=h_ (show B=true by rw [hB];exact decide_eq_true ⟨by omega,by omega,by omega⟩)
    clear hB
    go_enter Tryz.func10,Tryz.ntmps10
    go_wp2;go_ret
    exact⟨by rw [HT.out];rfl,kw⟩
   ·have HT:=h_ (show B=false by rw [hB];exact decide_eq_false (fun h=>by omega))
    clear hB
    go_enter Tryz.func10,Tryz.ntmps10
    go_wp2;go_ret
    exact⟨by rw [HT.out];rfl,kw⟩
  ·have HT:=h_ (show B=false by rw [hB];exact decide_eq_false (fun h=>by omega))
   clear hB
   go_enter Tryz.func10,Tryz.ntmps10
   go_wp2;go_ret
   exact⟨by rw [HT.out];rfl,kw⟩
 ·have HT:=h_ (show B=false by rw [hB];exact decide_eq_false (fun h=>by omega))
  clear hB
  go_enter Tryz.func10,Tryz.ntmps10
  go_wp2;go_ret
  exact⟨by rw [HT.out];rfl,kw⟩
def pvAt (l:List PField):Nat->Option Str
 | 0=>none
 | k+1=>(l[k]?).map (·.un)
end
end Go.Proofs.YtfoaaglbpmmhiaaGreatDoor
