import Derived.Test.YtaaneecceiefoaaGreatDoorMaCheck
import Derived.Test.YtaaneecceiefoaaGreatDoorMaNorm
import Derived.Test.YtaaneecceiefoaaGreatDoorMaAll
import Derived.Test.YtaaneecceiefoaaGreatDoorMzCov
import Derived.Test.YtaaneecceiefoaaGreatDoorMaEnvD
import Derived.Test.YtaaneecceiefoaaGreatDoorMaMem
set_option maxRecDepth 100000
set_option maxHeartbeats 4000000
set_option linter.unusedVariables false
set_option linter.unusedSimpArgs false
namespace Go.Proofs.YtaaneecceiefoaaGreatDoor
section
open Go.RowKit Ma
def MeetC (n:Nat):Prop := ∀(A:Nat->Prop) (v1 v2:Value) (a b:List PMask) (w:World),(∀b,A b->b<w.heap.size)->MaskD A n w v1 a->MaskD A n w v2 b->Wd 1000000000 n a->Wd 1000000000 n b->Calls Tryz.prog 23 #[v1,v2] w (qe2 A n w (meet n a b))
theorem qel (n:Nat) (IH:n ≠ 0->MeetC n):MeetC (n+1):=by
 intro A v1 v2 a b w0 hA ha hb hwa hwb;obtain⟨i1,hi1,hy0,hy1,hy2⟩:=info_parts qe6;obtain⟨pb,cb,rfl⟩:=hb.form;have DB:=Lib.hid hb;have HA0:=Lib.hid hA;have WA:=Lib.hid hwa;have WB:=Lib.hid hwb;obtain⟨p,c,rfl,hl,hcap,hel⟩:=ha;have EL:=Lib.hid hel;have V:=Lib.hid (show([]:List ME).map (·.x) ++ (a.drop 0).filterMap (pickO (meet n) b)=meet (n+1) a b from rfl);generalize meet (n+1) a b=Z at V;have hal:a.length<=1000000000:=hwa.1;have hS0:=Lib.hid (show ST w0 [medge (.slice none 0 0) []] [] w0 from(ST.start w0).nilrow 61 2);clear hel hcap hb hA hwa hwb
 go_enter Tryz.func23,Tryz.ntmps23
 go_wp2
 go_loopw [5,13] (fun vo i wr => ∃(k:Nat) (L:List ME),k<=a.length/\i=.int .i64 k/\Hid (ST w0 [medge vo L] [] wr)/\L.length<=k/\Hid (RowOK A w0.heap.size n vo L wr)/\Hid (L.map (·.x) ++ (a.drop k).filterMap (pickO (meet n) b)=Z)) (fun _ i _=>a.length-(intOf i).toNat)
 case atStart=>exact⟨0,[],by omega,rfl,hS0,by simp,Lib.hid (RowOK.nil _ _ _ _ _),V⟩
 case round=>as_aux_lemma=>
  clear V hS0;obtain⟨k,L,hk,rfl,hS,hLk,hO,hx⟩:=hrel;by_cases hlt:k<a.length
  ·obtain⟨g,off,sv,rfl,hbs,hab,hc0,hc1,hd⟩:=EL.out k _ (List.getElem?_eq_getElem hlt)
   obtain⟨sp,sc,rfl⟩:=hd.form;have hki:(k:Int)<(a.length:Int):=by omega
   have e0:=hS.out.bel.some hc0;have e1:=hS.out.bel.some hc1;clear hc0 hc1 hab;have hst:=hx.out;rw [fm_at hlt]at hst;have WX:=Lib.hid (WA.out.2 _ (List.getElem_mem hlt));clear hx WA;generalize a[k]=x at *;have HD:=Lib.hid (show MaskD A n w0 (.slice sp x.subs.length sc) x.subs from hd);obtain⟨qo,co,hvo⟩:=qap (hS.out.row 0 rfl);dsimp only [medge]at hvo;subst hvo;have HX:=Lib.hid (hS.out.addbox #[.int .i64 x.num,.slice sp x.subs.length sc] 61);have O0:=hO;have H0:=hS;clear hS hd hO;have CF0:MaskD A (n+1) (wr.alloc (.cells #[.int .i64 x.num,.slice sp x.subs.length sc] 61)) (.slice pb b.length cb) b:=DB.out.bel (H0.out.bel.alloc _);cases hz:find b x.num with
   | none=>
    have CF:=Lib.hid (qb8 hz _ CF0);have hp:pickO (meet n) b x=none:=by unfold pickO;rw [hz];rfl
    rw [hp,Option.toList_none,List.nil_append]at hst;have HST:=Lib.hid hst;clear hst hz hp CF0
    go_wp2_with (go_at_call 45;(with_reducible refine CF.out.mono ?_);rintro e w1 ⟨fp,fc,rfl,k1⟩;have k1:Bel _ w1:=k1;have k2:=Lib.hid (Bel.of ((Bel.refl wr).alloc _) (Bel.alloc k1 (.cells #[.int .i64 0,.slice fp 0 fc] 61)));clear k1)
    go_roundw
    case rel=>exact⟨k+1,L,by omega,by go_num,Lib.hid (H0.out.belw k2.out),by omega,Lib.hid (O0.out.bel k2.out),HST⟩
    case measure=>simp [intOf];omega
   | some y=>
    have CF:=Lib.hid (qb7 hz _ CF0);have hp:pickO (meet n) b x=meetO (meet n) x y:=by unfold pickO;rw [hz];rfl
    have WY:=Lib.hid (WB.out.find hz);rw [hp]at hst;clear hz hp CF0 WB;cases hwx:whole x with
    | true=>
     have hp:meetO (meet n) x y=some y:=by unfold meetO;rw [if_pos hwx]
     rw [hp]at hst;have HST:=Lib.hid hst;have CX:=Lib.hid (fun p c W=>qa9 hwx p c W);clear hst hwx hp
     go_wp2_with (first
      | (go_at_call 45;(with_reducible refine CF.out.mono ?_);rintro e w1 ⟨fp,fc,rfl,hfd,k1⟩;have k1:Bel _ w1:=k1;have H1:=Lib.hid ((HX.out.belw k1).addbox #[.int .i64 y.num,.slice fp y.subs.length fc] 61);have K1:=Lib.hid (Bel.of ((Bel.refl wr).alloc _) (Bel.alloc k1 (.cells #[.int .i64 y.num,.slice fp y.subs.length fc] 61)));have FD1:=Lib.hid (hfd.bel ((Bel.refl _).alloc (.cells #[.int .i64 y.num,.slice fp y.subs.length fc] 61)));have x0:=H1.out.cell 1 rfl 0;have x1:=H1.out.cell 1 rfl 1;dsimp only at x0 x1;clear k1 hfd)
      | (go_at_call 28;(with_reducible refine(CX.out _ _ _).mono ?_);rintro e w2 ⟨rfl,k2⟩;have k2:Bel _ w2:=k2;have H2:=Lib.hid (H1.out.belw k2);have K2:=Lib.hid (Bel.of K1.out k2);have FD2:=Lib.hid (FD1.out.bel k2);have y0:=H2.out.cell 0 rfl 0;have y1:=H2.out.cell 0 rfl 1;dsimp only at y0 y1;have H3:=Lib.hid (H2.out.belw ((Bel.refl w2).alloc (.cells #[.int .i64 y.num,.slice fp y.subs.length fc] 61)));have O3:=Lib.hid ((O0.out.bel K2.out).bel ((Bel.refl w2).alloc (.cells #[.int .i64 y.num,.slice fp y.subs.length fc] 61)));have FD3:=Lib.hid (FD2.out.bel ((Bel.refl w2).alloc (.cells #[.int .i64 y.num,.slice fp y.subs.length fc] 61)));clear k2)
      | (at_builtin;refine wpList_append_lies _ rfl _ _ 27 rfl w0.heap.size 61 i1 (.agg #[.int .i64 0,.slice none 0 0]) 2 32 Tryz.underlying27 hi1 hy0 hy1 hy2 rfl (by decide) _ L.length _ rfl (H3.out.row 0 rfl) ⟨w2.heap.size,0,none⟩ 1 1 [.int .i64 y.num,.slice fp y.subs.length fc] rfl rfl (qbc _ _ _) (by simp [Value.oneCell']) (by decide) (by unfold maxLen;omega) (by omega) H3.out.bel.size (w2.heap.size+1) (by simp) ?_))
     intro g4 cap4 w4 hown hgrow hfr hlt4;have O4:=Lib.hid (RowOK.snoc (e:=⟨y,fp,fc⟩) (m:=L.length+1) (c:=cap4) O3.out H3.out HA0.out (qgk (e:=⟨y,fp,fc⟩) FD3.out) hgrow hfr (by simp));have H4:=Lib.hid (qaw (e:=⟨y,fp,fc⟩) (H3.out.grow 0 rfl hgrow hown (qby hfr (by simp))));clear hown hgrow hfr;go_wp2;go_roundw
     case rel=>exact⟨k+1,L ++ [⟨y,fp,fc⟩],by omega,by go_num,Lib.hid H4.out.dropbox0.dropbox0,by rw [List.length_append,List.length_singleton];omega,O4,by simpa using HST⟩
     case measure=>simp [intOf];omega
    | false=>
     have hp0:meetO (meet n) x y=if whole y then some x else if(meet n x.subs y.subs).isEmpty then none else some (.mk x.num (meet n x.subs y.subs)):=by unfold meetO;rw [if_neg (by rw [hwx];exact Bool.false_ne_true)]
     rw [hp0]at hst;have CX:=Lib.hid (fun p c W=>qa9 hwx p c W);cases hwy:whole y with
     | true=>
      rw [if_pos hwy]at hst;have HST:=Lib.hid hst;have CY:=Lib.hid (fun p c W=>qa9 hwy p c W);clear hst hwx hwy hp0
      go_wp2_with (first
       | (go_at_call 45;(with_reducible refine CF.out.mono ?_);rintro e w1 ⟨fp,fc,rfl,hfd,k1⟩;have k1:Bel _ w1:=k1;have H1:=Lib.hid ((HX.out.belw k1).addbox #[.int .i64 y.num,.slice fp y.subs.length fc] 61);have K1:=Lib.hid (Bel.of ((Bel.refl wr).alloc _) (Bel.alloc k1 (.cells #[.int .i64 y.num,.slice fp y.subs.length fc] 61)));have FD1:=Lib.hid (hfd.bel ((Bel.refl _).alloc (.cells #[.int .i64 y.num,.slice fp y.subs.length fc] 61)));have x0:=H1.out.cell 1 rfl 0;have x1:=H1.out.cell 1 rfl 1;dsimp only at x0 x1;clear k1 hfd)
       | (go_at_call 28;(with_reducible refine(CX.out _ _ _).mono ?_);rintro e w2 ⟨rfl,k2⟩;have k2:Bel _ w2:=k2;have H2:=Lib.hid (H1.out.belw k2);have K2:=Lib.hid (Bel.of K1.out k2);have FD2:=Lib.hid (FD1.out.bel k2);have y0:=H2.out.cell 0 rfl 0;have y1:=H2.out.cell 0 rfl 1;dsimp only at y0 y1;clear k2)
       | (go_at_call 28;(with_reducible refine(CY.out _ _ _).mono ?_);rintro e w3 ⟨rfl,k3⟩;have k3:Bel _ w3:=k3;have HA3:=Lib.hid (H2.out.belw k3);have K3:=Lib.hid (Bel.of K2.out k3);have u0:=HA3.out.cell 1 rfl 0;have u1:=HA3.out.cell 1 rfl 1;dsimp only at u0 u1;have H3:=Lib.hid (HA3.out.belw ((Bel.refl w3).alloc (.cells #[.int .i64 x.num,.slice sp x.subs.length sc] 61)));have O3:=Lib.hid ((O0.out.bel K3.out).bel ((Bel.refl w3).alloc (.cells #[.int .i64 x.num,.slice sp x.subs.length sc] 61)));have XD3:=Lib.hid (HD.out.bel H3.out.bel);clear k3)
       | (at_builtin;refine wpList_append_lies _ rfl _ _ 27 rfl w0.heap.size 61 i1 (.agg #[.int .i64 0,.slice none 0 0]) 2 32 Tryz.underlying27 hi1 hy0 hy1 hy2 rfl (by decide) _ L.length _ rfl (H3.out.row 0 rfl) ⟨w3.heap.size,0,none⟩ 1 1 [.int .i64 x.num,.slice sp x.subs.length sc] rfl rfl (qbc _ _ _) (by simp [Value.oneCell']) (by decide) (by unfold maxLen;omega) (by omega) H3.out.bel.size (w3.heap.size+1) (by simp) ?_))
      intro g4 cap4 w4 hown hgrow hfr hlt4;have O4:=Lib.hid (RowOK.snoc (e:=⟨x,sp,sc⟩) (m:=L.length+1) (c:=cap4) O3.out H3.out HA0.out (qgk (e:=⟨x,sp,sc⟩) XD3.out) hgrow hfr (by simp));have H4:=Lib.hid (qaw (e:=⟨x,sp,sc⟩) (H3.out.grow 0 rfl hgrow hown (qby hfr (by simp))));clear hown hgrow hfr;go_wp2;go_roundw
      case rel=>exact⟨k+1,L ++ [⟨x,sp,sc⟩],by omega,by go_num,Lib.hid H4.out.dropbox0.dropbox0,by rw [List.length_append,List.length_singleton];omega,O4,by simpa using HST⟩
      case measure=>simp [intOf];omega
     | false=>
      rw [if_neg (by rw [hwy];exact Bool.false_ne_true)]at hst;have CY:=Lib.hid (fun p c W=>qa9 hwy p c W);have hn0:=HD.out.ne (qbj hwx);have CI:=Lib.hid (fun W v1 v2 (k:Bel w0 W) h1 h2=>IH hn0 A v1 v2 x.subs y.subs W (fun b hb=>Nat.lt_of_lt_of_le (HA0.out b hb) k.size) h1 h2 WX.out WY.out);generalize meet n x.subs y.subs=M at CI hst;clear hwx hwy hp0 hn0 IH WX WY;cases M with
      | nil=>
       have HST:=Lib.hid (show L.map (·.x) ++ (a.drop (k+1)).filterMap (pickO (meet n) b)=Z from hst);clear hst
       go_wp2_with (first
        | (go_at_call 45;(with_reducible refine CF.out.mono ?_);rintro e w1 ⟨fp,fc,rfl,hfd,k1⟩;have k1:Bel _ w1:=k1;have H1:=Lib.hid ((HX.out.belw k1).addbox #[.int .i64 y.num,.slice fp y.subs.length fc] 61);have K1:=Lib.hid (Bel.of ((Bel.refl wr).alloc _) (Bel.alloc k1 (.cells #[.int .i64 y.num,.slice fp y.subs.length fc] 61)));have FD1:=Lib.hid (hfd.bel ((Bel.refl _).alloc (.cells #[.int .i64 y.num,.slice fp y.subs.length fc] 61)));have x0:=H1.out.cell 1 rfl 0;have x1:=H1.out.cell 1 rfl 1;dsimp only at x0 x1;clear k1 hfd)
        | (go_at_call 28;(with_reducible refine(CX.out _ _ _).mono ?_);rintro e w2 ⟨rfl,k2⟩;have k2:Bel _ w2:=k2;have H2:=Lib.hid (H1.out.belw k2);have K2:=Lib.hid (Bel.of K1.out k2);have FD2:=Lib.hid (FD1.out.bel k2);have y0:=H2.out.cell 0 rfl 0;have y1:=H2.out.cell 0 rfl 1;dsimp only at y0 y1;clear k2)
        | (go_at_call 28;(with_reducible refine(CY.out _ _ _).mono ?_);rintro e w3 ⟨rfl,k3⟩;have k3:Bel _ w3:=k3;have H3:=Lib.hid (H2.out.belw k3);have K3:=Lib.hid (Bel.of K2.out k3);have FD3:=Lib.hid (FD2.out.bel k3);have u1:=H3.out.cell 1 rfl 1;have t1:=H3.out.cell 0 rfl 1;dsimp only at u1 t1;clear k3)
        | (go_at_call 23;(with_reducible refine(CI.out _ _ _ H3.out.bel (HD.out.bel H3.out.bel) FD3.out).mono ?_);rintro e w4 ⟨mv,rfl,hmd,k4⟩;have k4:Bel _ w4:=k4;obtain⟨mp,mc,hmv⟩:=hmd.form;subst hmv;have H4:=Lib.hid (H3.out.belw k4);have K4:=Lib.hid (Bel.of K3.out k4);have MD4:=Lib.hid (MaskD.weak hmd (fun b hb _=>qek H3.out hb));have q0:=H4.out.cell 1 rfl 0;dsimp only at q0;have H5:=Lib.hid (H4.out.belw ((Bel.refl w4).alloc (.cells #[.int .i64 x.num,.slice mp 0 mc] 61)));have O5:=Lib.hid ((O0.out.bel K4.out).bel ((Bel.refl w4).alloc (.cells #[.int .i64 x.num,.slice mp 0 mc] 61)));have MD5:=Lib.hid (MaskD.bel MD4.out ((Bel.refl w4).alloc (.cells #[.int .i64 x.num,.slice mp 0 mc] 61)));clear k4 hmd))
       go_roundw
       case rel=>exact⟨k+1,L,by omega,by go_num,Lib.hid (H4.out.dropbox0.dropbox0),by omega,Lib.hid (O0.out.bel K4.out),HST⟩
       case measure=>simp [intOf];omega
      | cons m0 M'=>
       have hst2:L.map (·.x) ++ ([PMask.mk x.num (m0 :: M')] ++ (a.drop (k+1)).filterMap (pickO (meet n) b))=Z:=hst;have hMl:(m0 :: M').length=M'.length+1:=rfl;generalize m0 :: M'=M at CI hst2 hMl;have hMp:(0:Int)<(M.length:Int):=by omega
       have HST:=Lib.hid hst2;clear hst hst2 hMl
       go_wp2_with (first
        | (go_at_call 45;(with_reducible refine CF.out.mono ?_);rintro e w1 ⟨fp,fc,rfl,hfd,k1⟩;have k1:Bel _ w1:=k1;have H1:=Lib.hid ((HX.out.belw k1).addbox #[.int .i64 y.num,.slice fp y.subs.length fc] 61);have K1:=Lib.hid (Bel.of ((Bel.refl wr).alloc _) (Bel.alloc k1 (.cells #[.int .i64 y.num,.slice fp y.subs.length fc] 61)));have FD1:=Lib.hid (hfd.bel ((Bel.refl _).alloc (.cells #[.int .i64 y.num,.slice fp y.subs.length fc] 61)));have x0:=H1.out.cell 1 rfl 0;have x1:=H1.out.cell 1 rfl 1;dsimp only at x0 x1;clear k1 hfd)
        | (go_at_call 28;(with_reducible refine(CX.out _ _ _).mono ?_);rintro e w2 ⟨rfl,k2⟩;have k2:Bel _ w2:=k2;have H2:=Lib.hid (H1.out.belw k2);have K2:=Lib.hid (Bel.of K1.out k2);have FD2:=Lib.hid (FD1.out.bel k2);have y0:=H2.out.cell 0 rfl 0;have y1:=H2.out.cell 0 rfl 1;dsimp only at y0 y1;clear k2)
        | (go_at_call 28;(with_reducible refine(CY.out _ _ _).mono ?_);rintro e w3 ⟨rfl,k3⟩;have k3:Bel _ w3:=k3;have H3:=Lib.hid (H2.out.belw k3);have K3:=Lib.hid (Bel.of K2.out k3);have FD3:=Lib.hid (FD2.out.bel k3);have u1:=H3.out.cell 1 rfl 1;have t1:=H3.out.cell 0 rfl 1;dsimp only at u1 t1;clear k3)
        | (go_at_call 23;(with_reducible refine(CI.out _ _ _ H3.out.bel (HD.out.bel H3.out.bel) FD3.out).mono ?_);rintro e w4 ⟨mv,rfl,hmd,k4⟩;have k4:Bel _ w4:=k4;obtain⟨mp,mc,hmv⟩:=hmd.form;subst hmv;have H4:=Lib.hid (H3.out.belw k4);have K4:=Lib.hid (Bel.of K3.out k4);have MD4:=Lib.hid (MaskD.weak hmd (fun b hb _=>qek H3.out hb));have q0:=H4.out.cell 1 rfl 0;dsimp only at q0;have H5:=Lib.hid (H4.out.belw ((Bel.refl w4).alloc (.cells #[.int .i64 x.num,.slice mp M.length mc] 61)));have O5:=Lib.hid ((O0.out.bel K4.out).bel ((Bel.refl w4).alloc (.cells #[.int .i64 x.num,.slice mp M.length mc] 61)));have MD5:=Lib.hid (MaskD.bel MD4.out ((Bel.refl w4).alloc (.cells #[.int .i64 x.num,.slice mp M.length mc] 61)));clear k4 hmd)
        | (at_builtin;refine wpList_append_lies _ rfl _ _ 27 rfl w0.heap.size 61 i1 (.agg #[.int .i64 0,.slice none 0 0]) 2 32 Tryz.underlying27 hi1 hy0 hy1 hy2 rfl (by decide) _ L.length _ rfl (H5.out.row 0 rfl) ⟨w4.heap.size,0,none⟩ 1 1 [.int .i64 x.num,.slice mp M.length mc] rfl rfl (qbc _ _ _) (by simp [Value.oneCell']) (by decide) (by unfold maxLen;omega) (by omega) H5.out.bel.size (w4.heap.size+1) (by simp) ?_))
       intro g6 cap6 w6 hown hgrow hfr hlt6;have O6:=Lib.hid (RowOK.snoc (e:=⟨.mk x.num M,mp,mc⟩) (m:=L.length+1) (c:=cap6) O5.out H5.out HA0.out MD5.out hgrow hfr (by simp));have H6:=Lib.hid (qaw (e:=⟨.mk x.num M,mp,mc⟩) (H5.out.grow 0 rfl hgrow hown (qby hfr (by simp))));clear hown hgrow hfr;go_wp2;go_roundw
       case rel=>exact⟨k+1,L ++ [⟨.mk x.num M,mp,mc⟩],by omega,by go_num,Lib.hid H6.out.dropbox0.dropbox0,by rw [List.length_append,List.length_singleton];omega,O6,by simpa using HST⟩
       case measure=>simp [intOf];omega
  ·have hkl:k=a.length:=by omega
   have hz:L.map (·.x)=Z:=by have:=hx.out;rw [hkl,List.drop_length]at this;simpa using this
   have HR:=Lib.hid (qfp hS.out hO.out (by omega) hz);clear hx;obtain⟨qo,co,hvo⟩:=qap (hS.out.row 0 rfl);dsimp only [medge]at hvo;subst hvo;go_wp2;go_ret;exact⟨_,rfl,HR.out,hS.out.bel⟩
theorem qij : ∀n:Nat,MeetC (n+1)
 | 0=>qel 0 (fun h=>absurd rfl h)
 | n+1=>qel (n+1) (fun _=>qij n)
end
section
open Go.RowKit Ma
def CovC (n:Nat):Prop := ∀(A:Nat->Prop) (v1 v2:Value) (a b:List PMask) (w:World),MaskD A n w v1 a->MaskD A n w v2 b->Calls Tryz.prog 24 #[v1,v2] w fun e w'=>e=.returned (.bool (qbs n a b))/\Bel w w'
theorem qdc (n:Nat) (IH:n ≠ 0->CovC n):CovC (n+1):=by
 intro A v1 v2 a b w0 ha hb;obtain⟨pa,ca,rfl⟩:=ha.form;have DA:=Lib.hid ha;obtain⟨p,c,rfl,hl,hcap,hel⟩:=hb;have EL:=Lib.hid hel;have V:=Lib.hid (show(b.drop 0).all (qh2 (qbs n) a)=qbs (n+1) a b from rfl);generalize qbs (n+1) a b=Z at V;clear hel hcap ha
 go_enter Tryz.func24,Tryz.ntmps24
 go_wp2
 go_loopw [11] (fun i wr => ∃k:Nat,k<=b.length/\i=.int .i64 k/\Hid (Bel w0 wr)/\Hid ((b.drop k).all (qh2 (qbs n) a)=Z)) (fun i _=>b.length-(intOf i).toNat)
 case atStart=>exact⟨0,by omega,rfl,Lib.hid (Bel.refl _),V⟩
 case round=>as_aux_lemma=>
  clear V;obtain⟨k,hk,rfl,hS,hx⟩:=hrel;by_cases hlt:k<b.length
  ·obtain⟨g,off,sv,rfl,hbs,hab,hc0,hc1,hd⟩:=EL.out k _ (List.getElem?_eq_getElem hlt)
   obtain⟨sp,sc,rfl⟩:=hd.form;have hki:(k:Int)<(b.length:Int):=by omega
   have e0:=hS.out.some hc0;have e1:=hS.out.some hc1;clear hc0 hc1 hab;have hst:=hx.out;rw [all_at hlt]at hst;clear hx;generalize b[k]=y at *;have HD:=Lib.hid (show MaskD A n w0 (.slice sp y.subs.length sc) y.subs from hd);have HA:=Lib.hid ((ST.start wr).addbox #[.int .i64 y.num,.slice sp y.subs.length sc] 61);have HW:=Lib.hid hS.out;clear hS hd;cases hz:find a y.num with
   | none=>
    have hr:false=Z:=by rw [←hst];unfold qh2;rw [hz];rfl
    have CF:=Lib.hid (qb8 hz _ (DA.out.bel (HW.out.alloc (.cells #[.int .i64 y.num,.slice sp y.subs.length sc] 61))));subst hr;clear hst hz
    go_wp2_with (go_at_call 45;(with_reducible refine CF.out.mono ?_);rintro e w1 ⟨fp,fc,rfl,k1⟩;have k2:=Lib.hid (Bel.of (HW.out.alloc _) k1);clear k1)
    go_ret;exact⟨rfl,k2.out.alloc _⟩
   | some x=>
    have hone:qh2 (qbs n) a y=(whole x || (!whole y && qbs n x.subs y.subs)):=by unfold qh2;rw [hz]
    rw [hone]at hst;have CF:=Lib.hid (qb7 hz _ (DA.out.bel (HW.out.alloc (.cells #[.int .i64 y.num,.slice sp y.subs.length sc] 61))));clear hz hone;cases hwx:whole x with
    | true=>
     rw [hwx,Bool.true_or,Bool.true_and]at hst;have HST:=Lib.hid hst;have CX:=Lib.hid (fun p c W=>qa9 hwx p c W);clear hst hwx
     go_wp2_with (first
      | (go_at_call 45;(with_reducible refine CF.out.mono ?_);rintro e w1 ⟨fp,fc,rfl,hfd,k1⟩;have k1:Bel _ w1:=k1;have H1:=Lib.hid ((HA.out.belw k1).addbox #[.int .i64 x.num,.slice fp x.subs.length fc] 61);have K1:=Lib.hid (Bel.of (HW.out.alloc _) k1);clear k1 hfd)
      | (go_at_call 28;(with_reducible refine(CX.out _ _ _).mono ?_);rintro e w2 ⟨rfl,k2⟩;have K2:=Lib.hid (Bel.of (K1.out.alloc _) k2);clear k2))
     go_roundw
     case rel=>exact⟨k+1,by omega,by go_num,K2,HST⟩
     case measure=>simp [intOf];omega
    | false=>
     rw [hwx,Bool.false_or]at hst;have CX:=Lib.hid (fun p c W=>qa9 hwx p c W);cases hwy:whole y with
     | true=>
      rw [hwy]at hst;have CY:=Lib.hid (fun p c W=>qa9 hwy p c W);have hr:false=Z:=hst;subst hr;clear hst hwx hwy
      go_wp2_with (first
       | (go_at_call 45;(with_reducible refine CF.out.mono ?_);rintro e w1 ⟨fp,fc,rfl,hfd,k1⟩;have k1:Bel _ w1:=k1;have H1:=Lib.hid ((HA.out.belw k1).addbox #[.int .i64 x.num,.slice fp x.subs.length fc] 61);have K1:=Lib.hid (Bel.of (HW.out.alloc _) k1);clear k1 hfd)
       | (go_at_call 28;(with_reducible refine(CX.out _ _ _).mono ?_);rintro e w2 ⟨rfl,k2⟩;have k2:Bel _ w2:=k2;have H2:=Lib.hid (H1.out.belw k2);have K2:=Lib.hid (Bel.of (K1.out.alloc _) k2);have y0:=H2.out.cell 1 rfl 0;have y1:=H2.out.cell 1 rfl 1;dsimp only at y0 y1;clear k2)
       | (go_at_call 28;(with_reducible refine(CY.out _ _ _).mono ?_);rintro e w3 ⟨rfl,k3⟩;have K3:=Lib.hid (Bel.of K2.out k3);clear k3))
      go_ret;exact⟨rfl,K3.out⟩
     | false=>
      rw [hwy,Bool.not_false,Bool.true_and]at hst;have CY:=Lib.hid (fun p c W=>qa9 hwy p c W);have CI:=Lib.hid (fun W v1 v2 h1 h2=>IH (HD.out.ne (qbj hwy)) A v1 v2 x.subs y.subs W h1 h2);generalize hC:qbs n x.subs y.subs=C at CI hst;clear hwx hwy hC;cases C with
      | true=>
       have HST:=Lib.hid hst;clear hst
       go_wp2_with (first
        | (go_at_call 45;(with_reducible refine CF.out.mono ?_);rintro e w1 ⟨fp,fc,rfl,hfd,k1⟩;have k1:Bel _ w1:=k1;have H1:=Lib.hid ((HA.out.belw k1).addbox #[.int .i64 x.num,.slice fp x.subs.length fc] 61);have K1:=Lib.hid (Bel.of (HW.out.alloc _) k1);have HFD:=Lib.hid (hfd.bel ((Bel.refl _).alloc (.cells #[.int .i64 x.num,.slice fp x.subs.length fc] 61)));clear k1 hfd)
        | (go_at_call 28;(with_reducible refine(CX.out _ _ _).mono ?_);rintro e w2 ⟨rfl,k2⟩;have k2:Bel _ w2:=k2;have H2:=Lib.hid (H1.out.belw k2);have K2:=Lib.hid (Bel.of (K1.out.alloc _) k2);have HFD2:=Lib.hid (HFD.out.bel k2);have y0:=H2.out.cell 1 rfl 0;have y1:=H2.out.cell 1 rfl 1;dsimp only at y0 y1;clear k2)
        | (go_at_call 28;(with_reducible refine(CY.out _ _ _).mono ?_);rintro e w3 ⟨rfl,k3⟩;have k3:Bel _ w3:=k3;have H3:=Lib.hid (H2.out.belw k3);have K3:=Lib.hid (Bel.of K2.out k3);have HFD3:=Lib.hid (HFD2.out.bel k3);have x1:=H3.out.cell 0 rfl 1;have u1:=H3.out.cell 1 rfl 1;dsimp only at x1 u1;clear k3)
        | (go_at_call 24;(with_reducible refine(CI.out _ _ _ HFD3.out (HD.out.bel K3.out)).mono ?_);rintro e w4 ⟨rfl,k4⟩;have K4:=Lib.hid (Bel.of K3.out k4);clear k4))
       go_roundw
       case rel=>exact⟨k+1,by omega,by go_num,K4,by simpa using HST⟩
       case measure=>simp [intOf];omega
      | false=>
       have hr:false=Z:=hst;subst hr;clear hst
       go_wp2_with (first
        | (go_at_call 45;(with_reducible refine CF.out.mono ?_);rintro e w1 ⟨fp,fc,rfl,hfd,k1⟩;have k1:Bel _ w1:=k1;have H1:=Lib.hid ((HA.out.belw k1).addbox #[.int .i64 x.num,.slice fp x.subs.length fc] 61);have K1:=Lib.hid (Bel.of (HW.out.alloc _) k1);have HFD:=Lib.hid (hfd.bel ((Bel.refl _).alloc (.cells #[.int .i64 x.num,.slice fp x.subs.length fc] 61)));clear k1 hfd)
        | (go_at_call 28;(with_reducible refine(CX.out _ _ _).mono ?_);rintro e w2 ⟨rfl,k2⟩;have k2:Bel _ w2:=k2;have H2:=Lib.hid (H1.out.belw k2);have K2:=Lib.hid (Bel.of (K1.out.alloc _) k2);have HFD2:=Lib.hid (HFD.out.bel k2);have y0:=H2.out.cell 1 rfl 0;have y1:=H2.out.cell 1 rfl 1;dsimp only at y0 y1;clear k2)
        | (go_at_call 28;(with_reducible refine(CY.out _ _ _).mono ?_);rintro e w3 ⟨rfl,k3⟩;have k3:Bel _ w3:=k3;have H3:=Lib.hid (H2.out.belw k3);have K3:=Lib.hid (Bel.of K2.out k3);have HFD3:=Lib.hid (HFD2.out.bel k3);have x1:=H3.out.cell 0 rfl 1;have u1:=H3.out.cell 1 rfl 1;dsimp only at x1 u1;clear k3)
        | (go_at_call 24;(with_reducible refine(CI.out _ _ _ HFD3.out (HD.out.bel K3.out)).mono ?_);rintro e w4 ⟨rfl,k4⟩;have K4:=Lib.hid (Bel.of K3.out k4);clear k4))
       go_ret;exact⟨rfl,K4.out⟩
  ·have hkl:k=b.length:=by omega
   have hz:true=Z:=by have:=hx.out;rw [hkl,List.drop_length]at this;exact this
   subst hz;clear hx;go_wp2;go_ret;exact⟨rfl,hS.out⟩
theorem qfo : ∀n:Nat,CovC (n+1)
 | 0=>qdc 0 (fun h=>absurd rfl h)
 | n+1=>qdc (n+1) (fun _=>qfo n)
end
section
open Go.RowKit Ma
theorem qi9 {n:Nat} {A1 A2:Nat->Prop} {v1 v2:Value} {l:List PMask} {W:World} (h1:MaskD A1 n W v1 l) (h2:MaskD A2 n W v2 l):Calls Tryz.prog 14 #[v1,v2] W fun e w'=>e=.returned (.bool true)/\Bel W w':=
 (qkg n A1 A2 v1 v2 l l W h1 h2).mono fun e w' h=>by rwa [qmj h1.dp]at h
end
end Go.Proofs.YtaaneecceiefoaaGreatDoor
namespace Go.Proofs.YtaaneecceiefoaaGreatDoor.Ma
open Ck Md
theorem qhh {s:PSchema} {nm:Str} {m:PMsg} (h:msgOf s nm=some m):m ∈ s.msgs:=List.mem_of_find?_eq_some h
theorem nums_lt {s:PSchema} {m:PMsg} (h:valid s=true) (hm:m ∈ s.msgs):(m.fields.map (·.num)).Pairwise (· < ·):=by
 rw [List.pairwise_map,List.pairwise_iff_getElem];intro i j hi hj hij
 have hk : ∀(d i:Nat) (hi:i<m.fields.length) (hj:i+d+1<m.fields.length),m.fields[i].num<m.fields[i+d+1].num:=by
  intro d
  induction d with
  | zero=>
   intro i hi hj;rcases ((msg_ok h hm).fld (i+1) _ (List.getElem?_eq_getElem hj)).asc with e|⟨g,hg,hlt⟩
   ·omega
   ·rw [Nat.add_sub_cancel,List.getElem?_eq_getElem hi]at hg
    cases hg;exact hlt
  | succ d ih=>
   intro i hi hj;have h1:=ih i hi (by omega);rcases ((msg_ok h hm).fld (i+(d+1)+1) _ (List.getElem?_eq_getElem hj)).asc with e|⟨g,hg,hlt⟩
   ·omega
   ·rw [Nat.add_sub_cancel,List.getElem?_eq_getElem (show i+(d+1)<m.fields.length by omega)]at hg
    rw [←Option.some.inj hg]at hlt;exact Int.lt_trans h1 hlt
 have:=hk (j-i-1) i hi (by omega)
 simpa [show i+(j-i-1)+1=j by omega]using this
theorem qjp {m:PMsg} {k:Int} {f:PField} (h:qas m k=some f):f ∈ m.fields/\f.num=k:=by
 refine⟨List.mem_of_find?_eq_some h,?_⟩;have:=List.find?_some h
 simpa using this
theorem qhs {s:PSchema} (h:valid s=true) {m:PMsg} (hm:m ∈ s.msgs) {f:PField} (hf:f ∈ m.fields):qas m f.num=some f:=by
 have hp:=nums_lt h hm;unfold qas
 revert hf hp
 generalize m.fields=l;intro hf hp
 induction l with
 | nil=>cases hf
 | cons x l ih=>
  rw [List.map_cons,List.pairwise_cons]at hp;rw [List.find?_cons];rcases List.mem_cons.1 hf with rfl|hf
  ·simp
  ·have:=hp.1 f.num (List.mem_map.2 ⟨f,hf,rfl⟩)
   rw [decide_eq_false (by omega)];exact ih hf hp.2
theorem ok_of {s:PSchema} (h:valid s=true) {m:PMsg} (hm:m ∈ s.msgs) {f:PField} (hf:f ∈ m.fields) : ∃i,m.fields[i]? = some f/\FldOk s m i f:=by
 obtain⟨i,hi⟩:=List.getElem?_of_mem hf;exact⟨i,hi,(msg_ok h hm).fld i f hi⟩
theorem env_ok {s:PSchema} (h:valid s=true):(envOf s).Ok:=by
 refine⟨fun nm=>?_,fun nm k hk=>?_,fun nm k f hf hs=>?_⟩
 ·show(((msgOf s nm).map fun m=>m.fields.map (·.num)).getD []).Pairwise _
  cases e:msgOf s nm with
  | none=>exact List.Pairwise.nil
  | some m=>exact nums_lt h (qhh e)
 ·have hk':k ∈ ((msgOf s nm).map fun m=>m.fields.map (·.num)).getD []:=hk
  show(((msgOf s nm).bind fun m=>qas m k).map fun f=>(qbb f,f.tn)).isSome=true
  cases e:msgOf s nm with
  | none=>rw [e]at hk';cases hk'
  | some m=>
   rw [e]at hk';obtain⟨f,hf,rfl⟩:=List.mem_map.1 (show k ∈ m.fields.map (·.num)from hk');show((qas m f.num).map _).isSome=true
   rw [qhs h (qhh e) hf];rfl
 ·have hf':((msgOf s nm).bind fun m=>qas m k).map (fun f=>(qbb f,f.tn))=some f:=hf
  obtain⟨g,hg,rfl⟩:=Option.map_eq_some_iff.1 hf';obtain⟨m,hm,hg⟩:=Option.bind_eq_some_iff.1 hg;obtain⟨i,_,ho⟩:=ok_of h (qhh hm) (qjp hg).1;have hs':qbb g=true:=hs;unfold qbb at hs';rw [Bool.and_eq_true,decide_eq_true_iff]at hs';have ht:=ho.ty;unfold typed at ht;rw [if_neg (by omega),if_neg (by omega),if_pos hs'.1,Bool.and_eq_true]at ht;exact ht.1
end Go.Proofs.YtaaneecceiefoaaGreatDoor.Ma
namespace Go.Proofs.YtaaneecceiefoaaGreatDoor.Ma
theorem qnc (c:UInt8) (p:List UInt8) {l:List (List UInt8)} (h:l ≠ []):glue c (p :: l)=p ++ c :: glue c l:=by
 cases l with
 | nil=>exact absurd rfl h
 | cons q r=>rfl
end Go.Proofs.YtaaneecceiefoaaGreatDoor.Ma
