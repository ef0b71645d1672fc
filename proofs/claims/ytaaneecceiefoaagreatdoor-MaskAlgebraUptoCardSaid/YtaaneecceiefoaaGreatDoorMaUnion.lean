import Derived.Test.YtaaneecceiefoaaGreatDoorMaNorm
import Derived.Test.YtaaneecceiefoaaGreatDoorShelf
import Derived.Test.YtaaneecceiefoaaGreatDoorMaCheck
import Derived.Test.YtaaneecceiefoaaGreatDoorMaAll
set_option maxRecDepth 100000
set_option maxHeartbeats 4000000
set_option linter.unusedVariables false
set_option linter.unusedSimpArgs false
namespace Go.Proofs.YtaaneecceiefoaaGreatDoor
section
open Go.RowKit Ma
def cmpI (x y:Int):Int:=if x<y then -1 else if y<x then 1 else 0
theorem sl_nan (x:Int) (w:World):Calls Tryz.prog 68 #[.int .i64 x] w fun e w'=>e=.returned (.bool false)/\w=w':=by
 go_enter Tryz.func68,Tryz.ntmps68
 go_wp2;go_ret
 exact⟨rfl,rfl⟩
theorem qkb (x y:Int) (w:World):Calls Tryz.prog 52 #[.int .i64 x,.int .i64 y] w fun e w'=>e=.returned (.int .i64 (cmpI x y))/\w=w':=by
 have CN:=Lib.hid (fun x W=>sl_nan x W);by_cases h1:x<y
 ·have hv:=Lib.hid (show cmpI x y = -1 by unfold cmpI;rw [if_pos h1])
  go_enter Tryz.func52,Tryz.ntmps52
  go_wp2_with (go_at_call 68;(with_reducible refine(CN.out _ _).mono ?_);rintro e w1 ⟨rfl,rfl⟩)
  go_ret;exact⟨qb2 hv.out.symm,rfl⟩
 ·by_cases h2:y<x
  ·have hv:=Lib.hid (show cmpI x y=1 by unfold cmpI;rw [if_neg h1,if_pos h2])
   go_enter Tryz.func52,Tryz.ntmps52
   go_wp2_with (go_at_call 68;(with_reducible refine(CN.out _ _).mono ?_);rintro e w1 ⟨rfl,rfl⟩)
   go_ret;exact⟨qb2 hv.out.symm,rfl⟩
  ·have hv:=Lib.hid (show cmpI x y=0 by unfold cmpI;rw [if_neg h1,if_neg h2])
   go_enter Tryz.func52,Tryz.ntmps52
   go_wp2_with (go_at_call 68;(with_reducible refine(CN.out _ _).mono ?_);rintro e w1 ⟨rfl,rfl⟩)
   go_ret;exact⟨qb2 hv.out.symm,rfl⟩
theorem cl_union (x y:Int) (p q:Option Addr) (m n c d:Nat) (w:World):Calls Tryz.prog 51 #[.agg #[.int .i64 x,.slice p m c],.agg #[.int .i64 y,.slice q n d]] w fun e w'=>e=.returned (.int .i64 (cmpI x y))/\∃k os',w'=Sort.grow (w.drewN k) os':=by
 have CC:=Lib.hid (fun W=>qkb x y W);generalize cmpI x y=r at CC
 go_enter Tryz.func51,Tryz.ntmps51
 go_wp2_with (go_at_call 52;(with_reducible refine(CC.out _).mono ?_);rintro e w1 ⟨rfl,rfl⟩)
 go_ret;exact⟨rfl,0,_,by rw [Sort.alloc_eq_grow,Sort.alloc_eq_grow,Sort.grow_grow];rfl⟩
theorem qe7 (x y:ME):Go.Proofs.ltOf (fun x y:ME=>cmpI x.x.num y.x.num) x y=decide (x.x.num<y.x.num):=by
 unfold Go.Proofs.ltOf cmpI;by_cases h1:x.x.num<y.x.num
 ·simp [h1]
 ·by_cases h2:y.x.num<x.x.num <;> simp [h1,h2]
theorem swo_cmpI:Sort.SWO (Go.Proofs.ltOf fun x y:ME=>cmpI x.x.num y.x.num)where
 irrefl x:=by rw [qe7];simp
 trans x y z h1 h2:=by rw [qe7]at *;simp at *;omega
 ntrans x y z h1 h2:=by rw [qe7]at *;simp at *;omega
def SortOut (w0 w:World) (R:List Row) (X:List Box) (v:Value) (L:List ME) (e:Ending) (w':World):Prop := ∃L':List ME,e=.returned (.tuple #[])/\L'.Perm L/\L'.Pairwise (fun x y=>x.x.num<=y.x.num)/\ST w0 (medge v L' :: R) X w'/\w.grownBy w' v.ownBlock
theorem mk_sort (w0 w:World) (R:List Row) (X:List Box) (v:Value) (L:List ME) (h:ST w0 (medge v L :: R) X w) (hl:L.length<4611686018427387904):Calls Tryz.prog 50 #[v,.func (.func 51) #[] #[]] w (SortOut w0 w R X v L):=by
 have h0:w.ownsRow w0.heap.size 61 2 v L.length (L.flatMap meC):=h.row 0 rfl;rcases qjh qgn h0 with⟨rfl,rfl⟩|⟨g,c,rfl,hg,hs,hc,hel⟩
 ·refine(AnyF.slices_SortFunc_none Tryz.sortMask none 0 _ w).mono fun e w' ⟨he,hw⟩=>?_
  subst hw;exact⟨[],he,List.Perm.refl _,List.Pairwise.nil,h,World.grownBy.refl _ _⟩
 ·have hos:=qkx (α:=ME) (enc:=meC) qgn (by decide) (d:=L.toArray) (by simpa using h0)
  obtain⟨hH,hgl,hnew⟩:=hos;have eg : ∀args w,(callFunc 51 args).run Tryz.prog w=.ok (.enter 51 args) w:=enters_of Tryz.func51 (by kernel_rfl) rfl;have hcmp:CmpLays Tryz.prog 51 #[] meC 2 (fun x y:ME=>cmpI x.x.num y.x.num) g 0 L.toArray.size w:=fun m os dk hdk x y=>cl_union x.x.num y.x.num x.p y.p _ _ _ _ _
  have hcon:=AnyQ.slices_SortFunc Tryz.sortMask 2 (fun w=>(by kernel_rfl)) (fun w=>(by kernel_rfl)) meC qgn meC_one (fun x y=>cmpI x.x.num y.x.num) swo_cmpI 51 #[] g 0 c L.toArray w eg hcmp hH hgl (by simpa using hl);have hcon2:Calls Tryz.prog 50 #[.slice (some ⟨g,0,none⟩) L.length c,.func (.func 51) #[] #[]] w _:=hcon;refine hcon2.mono fun e w' ⟨he,d',n,os,hp,hso,hw⟩=>?_
  subst hw;have hsz:d'.size=L.toArray.size:=hp.1;obtain⟨n1,n2⟩:=hnew d' n os hsz
  have hpl:d'.toList.Perm L:=by
   have:=hp.2.2;rw [show d'.extract 0 L.toArray.size=d' by rw [←hsz];simp]at this
   simpa using this
  have hll:d'.toList.length=L.length:=hpl.length_eq;refine⟨d'.toList,he,hpl,?_,?_,n2⟩
  ·rw [List.pairwise_iff_getElem]
   intro i j hi hj hij;have hi2:i<d'.size:=by simpa using hi
   have hj2:j<d'.size:=by simpa using hj
   have:=hso i j (Nat.zero_le _) hij (by rw [←hsz];exact hj2);rw [qe7,getElem!_pos d' j hj2,getElem!_pos d' i hi2]at this;simp at this
   simpa using this
  ·have:=h.grow 0 rfl n2 (v':=.slice (some ⟨g,0,none⟩) L.length c) (n':=L.length) (xs':=d'.toList.flatMap meC) (by unfold medge;simpa using n1) (fun k hk=>.inl hk)
   unfold medge at this ⊢;rw [hll];exact this
theorem RowOK.sort {A:Nat->Prop} {w0 w w':World} {n:Nat} {v:Value} {L L':List ME} {R:List Row} {X:List Box} (h:RowOK A w0.heap.size n v L w) (hS:ST w0 (medge v L :: R) X w) (hA : ∀b,A b->b<w0.heap.size) (hp:L'.Perm L) (hg:w.grownBy w' v.ownBlock):RowOK A w0.heap.size n v L' w':=by
 intro e he;have he2:=hp.mem_iff.1 he;rcases qjh qgn (hS.row 0 rfl)with⟨_,h2⟩|⟨g,c,h1,_⟩
 ·change L=[]at h2
  subst h2;cases he2
 ·change v=_ at h1
  subst h1;exact(h e he2).grown hg hA (fun k hk=>((hS.row 0 rfl).lt k hk).1) (.inl rfl)
theorem qmh {raw:List PMask} {L L':List ME} (hd:Dif raw) (hL:L.map (·.x)=raw) (hp:L'.Perm L) (hs:L'.Pairwise (fun x y=>x.x.num<=y.x.num)):L'.map (·.x)=isort raw:=by
 subst hL;refine sort_eq hd (hp.map _) ?_;rw [List.pairwise_map];exact hs
end
section
open Go.RowKit Ma
def qlz (n:Nat):Prop := ∀(A:Nat->Prop) (v1 v2:Value) (a b:List PMask) (w:World),(∀b,A b->b<w.heap.size)->MaskD A n w v1 a->MaskD A n w v2 b->Srt n a->Srt n b->Wd 1000000000 n a->Wd 1000000000 n b->Calls Tryz.prog 22 #[v1,v2] w (qe2 A n w (union n a b))
theorem qdx (n:Nat) (IH:n ≠ 0->qlz n):qlz (n+1):=by
 intro A v1 v2 a b w0 hA ha hb hsa hsb hwa hwb;obtain⟨i1,hi1,hy0,hy1,hy2⟩:=info_parts qe6;have DA:=Lib.hid ha;have DB:=Lib.hid hb;have HA0:=Lib.hid hA;have WA:=Lib.hid hwa;have WB:=Lib.hid hwb;have SA:=Lib.hid hsa;have SB:=Lib.hid hsb;obtain⟨p,c,rfl,hl,hcap,hel⟩:=ha;obtain⟨p2,c2,rfl,hl2,hcap2,hel2⟩:=hb;have EL:=Lib.hid hel;have EL2:=Lib.hid hel2;have V:=Lib.hid (show([]:List ME).map (·.x) ++ (a.drop 0).map (uniA (union n) b)=a.map (uniA (union n) b)from rfl);have V2:=Lib.hid (show a.map (uniA (union n) b) ++ (b.drop 0).filter (fun y=>(find a y.num).isNone)=qbo (union n) a b from rfl);have V3:=Lib.hid (show isort (qbo (union n) a b)=union (n+1) a b from rfl);have DR:=Lib.hid (qlo (union n) hsa.1 hsb.1);generalize hraw:qbo (union n) a b=RAW at V2 V3 DR;generalize union (n+1) a b=Z at V3;have hal:a.length<=1000000000:=hwa.1;have hbl:b.length<=1000000000:=hwb.1;have hS0:=Lib.hid (show ST w0 [medge (.slice none 0 0) []] [] w0 from(ST.start w0).nilrow 61 2);clear hel hcap hel2 hcap2 hA hwa hwb hsa hsb hraw;generalize hM:a.map (uniA (union n) b)=MA at V V2;clear hM
 go_enter Tryz.func22,Tryz.ntmps22
 go_wp2
 go_loopw [5,16] (fun vo i wr => ∃(k:Nat) (L:List ME),k<=a.length/\i=.int .i64 k/\Hid (ST w0 [medge vo L] [] wr)/\L.length<=k/\Hid (RowOK A w0.heap.size n vo L wr)/\Hid (L.map (·.x) ++ (a.drop k).map (uniA (union n) b)=MA)) (fun _ i _=>a.length-(intOf i).toNat)
 case atStart=>exact⟨0,[],by omega,rfl,hS0,by simp,Lib.hid (RowOK.nil _ _ _ _ _),V⟩
 case round=>as_aux_lemma=>
  clear V hS0;obtain⟨k,L,hk,rfl,hS,hLk,hO,hx⟩:=hrel;by_cases hlt:k<a.length
  ·clear V2 V3 DR EL2
   obtain⟨g,off,sv,rfl,hbs,hab,hc0,hc1,hd⟩:=EL.out k _ (List.getElem?_eq_getElem hlt);obtain⟨sp,sc,rfl⟩:=hd.form;have hki:(k:Int)<(a.length:Int):=by omega
   have e0:=hS.out.bel.some hc0;have e1:=hS.out.bel.some hc1;clear hc0 hc1 hab;have hst:=hx.out;rw [map_at hlt]at hst;have WX:=Lib.hid (WA.out.2 _ (List.getElem_mem hlt));have SX:=Lib.hid (SA.out.2 _ (List.getElem_mem hlt));clear hx WA SA DA;generalize a[k]=x at *;have HD:=Lib.hid (show MaskD A n w0 (.slice sp x.subs.length sc) x.subs from hd);obtain⟨qo,co,hvo⟩:=qap (hS.out.row 0 rfl);dsimp only [medge]at hvo;subst hvo;have HX:=Lib.hid (hS.out.addbox #[.int .i64 x.num,.slice sp x.subs.length sc] 61);have hbg:w0.heap.size<=wr.heap.size:=hS.out.bel.size;have O0:=hO;have H0:=hS;clear hS hd hO;have CF0:MaskD A (n+1) (wr.alloc (.cells #[.int .i64 x.num,.slice sp x.subs.length sc] 61)) (.slice p2 b.length c2) b:=DB.out.bel (H0.out.bel.alloc _);cases hz:find b x.num with
   | none=>
    have CF:=Lib.hid (qb8 hz _ CF0);have hp:uniA (union n) b x=x:=by unfold uniA;rw [hz]
    rw [hp]at hst;have HST:=Lib.hid hst;clear hst hz hp CF0
    go_upto_region 10 with(go_at_call 45;(with_reducible refine CF.out.mono ?_);rintro e w1 ⟨fp,fc,rfl,k1⟩;have k1:Bel _ w1:=k1;have H1:=Lib.hid ((HX.out.belw k1).addbox #[.int .i64 0,.slice fp 0 fc] 61);have K1:=Lib.hid (Bel.of ((Bel.refl wr).alloc _) (Bel.alloc k1 (.cells #[.int .i64 0,.slice fp 0 fc] 61)));have x0:=H1.out.cell 1 rfl 0;have x1:=H1.out.cell 1 rfl 1;dsimp only at x0 x1;clear k1)
    have OZ:=Lib.hid (O0.out.bel K1.out);generalize hwz:World.alloc w1 _=wz at H1 K1 OZ x0 x1 ⊢;clear hwz;have HB:=Lib.hid (H1.out.belw ((Bel.refl wz).alloc (.cells #[.int .i64 x.num,.slice sp x.subs.length sc] 61)));have OB:=Lib.hid (OZ.out.bel ((Bel.refl wz).alloc (.cells #[.int .i64 x.num,.slice sp x.subs.length sc] 61)));have EB:=Lib.hid (qgk (A:=A) (N:=w0.heap.size) (v:=.slice qo L.length co) (e:=⟨x,sp,sc⟩) (HD.out.bel HB.out.bel))
    go_wp2_with (at_builtin;refine wpList_append_lies _ rfl _ _ 27 rfl w0.heap.size 61 i1 (.agg #[.int .i64 0,.slice none 0 0]) 2 32 Tryz.underlying27 hi1 hy0 hy1 hy2 rfl (by decide) _ L.length _ rfl (HB.out.row 0 rfl) ⟨wz.heap.size,0,none⟩ 1 1 [.int .i64 x.num,.slice sp x.subs.length sc] rfl rfl (qbc _ _ _) (by simp [Value.oneCell']) (by decide) (by unfold maxLen;omega) (by omega) HB.out.bel.size (wz.heap.size+1) (by simp) ?_)
    intro g9 cap9 w9 hown hgrow hfr hlt9;have OO:=Lib.hid (RowOK.snoc (e:=⟨x,sp,sc⟩) (m:=L.length+1) (c:=cap9) OB.out HB.out HA0.out EB.out hgrow hfr (by simp));have HH:=Lib.hid (qaw (e:=⟨x,sp,sc⟩) (HB.out.grow 0 rfl hgrow hown (qby hfr (by simp))));clear hown hgrow hfr;go_wp2;go_roundw
    case rel=>exact⟨k+1,L ++ [⟨x,sp,sc⟩],by omega,by go_num,Lib.hid HH.out.dropbox0.dropbox0,by rw [List.length_append,List.length_singleton];omega,OO,by simpa using HST⟩
    case measure=>simp [intOf];omega
   | some y=>
    have CF:=Lib.hid (qb7 hz _ CF0);have hp:uniA (union n) b x=joinF (union n) x y:=by unfold uniA;rw [hz]
    have WY:=Lib.hid (WB.out.find hz);have SY:=Lib.hid (SB.out.2 _ (qac hz).1);rw [hp]at hst;clear hz hp CF0 WB SB DB;cases hwx:whole x with
    | true=>
     have hp:joinF (union n) x y=.mk x.num []:=by unfold joinF;rw [hwx,Bool.true_or,if_pos rfl]
     rw [hp]at hst;have HST:=Lib.hid hst;have CX:=Lib.hid (fun p c W=>qa9 hwx p c W);clear hst hwx hp
     go_upto_region 10 with(first
      | (go_at_call 45;(with_reducible refine CF.out.mono ?_);rintro e w1 ⟨fp,fc,rfl,hfd,k1⟩;have k1:Bel _ w1:=k1;have H1:=Lib.hid ((HX.out.belw k1).addbox #[.int .i64 y.num,.slice fp y.subs.length fc] 61);have K1:=Lib.hid (Bel.of ((Bel.refl wr).alloc _) (Bel.alloc k1 (.cells #[.int .i64 y.num,.slice fp y.subs.length fc] 61)));have FD1:=Lib.hid (hfd.bel ((Bel.refl _).alloc (.cells #[.int .i64 y.num,.slice fp y.subs.length fc] 61)));have x0:=H1.out.cell 1 rfl 0;have x1:=H1.out.cell 1 rfl 1;have y0:=H1.out.cell 0 rfl 0;have y1:=H1.out.cell 0 rfl 1;dsimp only at x0 x1 y0 y1;clear k1 hfd)
      | (go_at_call 28;(with_reducible refine(CX.out _ _ _).mono ?_);rintro e w2 ⟨rfl,k2⟩;have k2:Bel _ w2:=k2;have H2:=Lib.hid (H1.out.belw k2);have K2:=Lib.hid (Bel.of K1.out k2);have FD2:=Lib.hid (FD1.out.bel k2);clear x0 x1 y0 y1;have x0:=H2.out.cell 1 rfl 0;have x1:=H2.out.cell 1 rfl 1;have y0:=H2.out.cell 0 rfl 0;have y1:=H2.out.cell 0 rfl 1;have xf:=H2.out.frz 1 rfl 1;dsimp only at x0 x1 y0 y1 xf;clear k2))
     have HZ:=Lib.hid (show ST w0 [medge (.slice qo L.length co) L] [⟨w1.heap.size,#[.int .i64 y.num,.slice fp y.subs.length fc],61⟩,⟨wr.heap.size,#[.int .i64 x.num,.slice none 0 0],61⟩] _ from H2.out.setbox 1 rfl 1 (.slice none 0 0));have OZ:=Lib.hid (show RowOK A w0.heap.size n (.slice qo L.length co) L _ from O0.out.bel (qb9 (o:=1) (v:=.slice none 0 0) K2.out (Nat.le_refl _)));clear x0 x1 y0 y1 xf;generalize hwz:World.setCell _ _ _=wz at HZ OZ ⊢;clear hwz;have x0:=HZ.out.cell 1 rfl 0;have x1:=HZ.out.cell 1 rfl 1;dsimp only at x0 x1;have HB:=Lib.hid (HZ.out.belw ((Bel.refl wz).alloc (.cells #[.int .i64 x.num,.slice none 0 0] 61)));have OB:=Lib.hid (OZ.out.bel ((Bel.refl wz).alloc (.cells #[.int .i64 x.num,.slice none 0 0] 61)));have EB:=Lib.hid ((MaskD.nil n _:MEok (Off A w0.heap.size (.slice qo L.length co)) n (wz.alloc (.cells #[.int .i64 x.num,.slice none 0 0] 61)) ⟨.mk x.num [],none,0⟩))
     go_wp2_with (at_builtin;refine wpList_append_lies _ rfl _ _ 27 rfl w0.heap.size 61 i1 (.agg #[.int .i64 0,.slice none 0 0]) 2 32 Tryz.underlying27 hi1 hy0 hy1 hy2 rfl (by decide) _ L.length _ rfl (HB.out.row 0 rfl) ⟨wz.heap.size,0,none⟩ 1 1 [.int .i64 x.num,.slice none 0 0] rfl rfl (qbc _ _ _) (by simp [Value.oneCell']) (by decide) (by unfold maxLen;omega) (by omega) HB.out.bel.size (wz.heap.size+1) (by simp) ?_)
     intro g9 cap9 w9 hown hgrow hfr hlt9;have OO:=Lib.hid (RowOK.snoc (e:=⟨.mk x.num [],none,0⟩) (m:=L.length+1) (c:=cap9) OB.out HB.out HA0.out EB.out hgrow hfr (by simp));have HH:=Lib.hid (qaw (e:=⟨.mk x.num [],none,0⟩) (HB.out.grow 0 rfl hgrow hown (qby hfr (by simp))));clear hown hgrow hfr;go_wp2;go_roundw
     case rel=>exact⟨k+1,L ++ [⟨.mk x.num [],none,0⟩],by omega,by go_num,Lib.hid HH.out.dropbox0.dropbox0,by rw [List.length_append,List.length_singleton];omega,OO,by simpa using HST⟩
     case measure=>simp [intOf];omega
    | false=>
     have CX:=Lib.hid (fun p c W=>qa9 hwx p c W);cases hwy:whole y with
     | true=>
      have hp:joinF (union n) x y=.mk x.num []:=by unfold joinF;rw [hwy,Bool.or_true,if_pos rfl]
      rw [hp]at hst;have HST:=Lib.hid hst;have CY:=Lib.hid (fun p c W=>qa9 hwy p c W);clear hst hwx hwy hp
      go_upto_region 10 with(first
       | (go_at_call 45;(with_reducible refine CF.out.mono ?_);rintro e w1 ⟨fp,fc,rfl,hfd,k1⟩;have k1:Bel _ w1:=k1;have H1:=Lib.hid ((HX.out.belw k1).addbox #[.int .i64 y.num,.slice fp y.subs.length fc] 61);have K1:=Lib.hid (Bel.of ((Bel.refl wr).alloc _) (Bel.alloc k1 (.cells #[.int .i64 y.num,.slice fp y.subs.length fc] 61)));have FD1:=Lib.hid (hfd.bel ((Bel.refl _).alloc (.cells #[.int .i64 y.num,.slice fp y.subs.length fc] 61)));have x0:=H1.out.cell 1 rfl 0;have x1:=H1.out.cell 1 rfl 1;have y0:=H1.out.cell 0 rfl 0;have y1:=H1.out.cell 0 rfl 1;dsimp only at x0 x1 y0 y1;clear k1 hfd)
       | (go_at_call 28;(with_reducible refine(CX.out _ _ _).mono ?_);rintro e w2 ⟨rfl,k2⟩;have k2:Bel _ w2:=k2;have H2:=Lib.hid (H1.out.belw k2);have K2:=Lib.hid (Bel.of K1.out k2);have FD2:=Lib.hid (FD1.out.bel k2);clear x0 x1 y0 y1;have x0:=H2.out.cell 1 rfl 0;have x1:=H2.out.cell 1 rfl 1;have y0:=H2.out.cell 0 rfl 0;have y1:=H2.out.cell 0 rfl 1;have xf:=H2.out.frz 1 rfl 1;dsimp only at x0 x1 y0 y1 xf;clear k2)
       | (go_at_call 28;(with_reducible refine(CY.out _ _ _).mono ?_);rintro e w3 ⟨rfl,k3⟩;have k3:Bel _ w3:=k3;have H3:=Lib.hid (H2.out.belw k3);have K3:=Lib.hid (Bel.of K2.out k3);have FD3:=Lib.hid (FD2.out.bel k3);clear x0 x1 y0 y1 xf;have x0:=H3.out.cell 1 rfl 0;have x1:=H3.out.cell 1 rfl 1;have y0:=H3.out.cell 0 rfl 0;have y1:=H3.out.cell 0 rfl 1;have xf:=H3.out.frz 1 rfl 1;dsimp only at x0 x1 y0 y1 xf;clear k3))
      have HZ:=Lib.hid (show ST w0 [medge (.slice qo L.length co) L] [⟨w1.heap.size,#[.int .i64 y.num,.slice fp y.subs.length fc],61⟩,⟨wr.heap.size,#[.int .i64 x.num,.slice none 0 0],61⟩] _ from H3.out.setbox 1 rfl 1 (.slice none 0 0));have OZ:=Lib.hid (show RowOK A w0.heap.size n (.slice qo L.length co) L _ from O0.out.bel (qb9 (o:=1) (v:=.slice none 0 0) K3.out (Nat.le_refl _)));clear x0 x1 y0 y1 xf;generalize hwz:World.setCell _ _ _=wz at HZ OZ ⊢;clear hwz;have x0:=HZ.out.cell 1 rfl 0;have x1:=HZ.out.cell 1 rfl 1;dsimp only at x0 x1;have HB:=Lib.hid (HZ.out.belw ((Bel.refl wz).alloc (.cells #[.int .i64 x.num,.slice none 0 0] 61)));have OB:=Lib.hid (OZ.out.bel ((Bel.refl wz).alloc (.cells #[.int .i64 x.num,.slice none 0 0] 61)));have EB:=Lib.hid ((MaskD.nil n _:MEok (Off A w0.heap.size (.slice qo L.length co)) n (wz.alloc (.cells #[.int .i64 x.num,.slice none 0 0] 61)) ⟨.mk x.num [],none,0⟩))
      go_wp2_with (at_builtin;refine wpList_append_lies _ rfl _ _ 27 rfl w0.heap.size 61 i1 (.agg #[.int .i64 0,.slice none 0 0]) 2 32 Tryz.underlying27 hi1 hy0 hy1 hy2 rfl (by decide) _ L.length _ rfl (HB.out.row 0 rfl) ⟨wz.heap.size,0,none⟩ 1 1 [.int .i64 x.num,.slice none 0 0] rfl rfl (qbc _ _ _) (by simp [Value.oneCell']) (by decide) (by unfold maxLen;omega) (by omega) HB.out.bel.size (wz.heap.size+1) (by simp) ?_)
      intro g9 cap9 w9 hown hgrow hfr hlt9;have OO:=Lib.hid (RowOK.snoc (e:=⟨.mk x.num [],none,0⟩) (m:=L.length+1) (c:=cap9) OB.out HB.out HA0.out EB.out hgrow hfr (by simp));have HH:=Lib.hid (qaw (e:=⟨.mk x.num [],none,0⟩) (HB.out.grow 0 rfl hgrow hown (qby hfr (by simp))));clear hown hgrow hfr;go_wp2;go_roundw
      case rel=>exact⟨k+1,L ++ [⟨.mk x.num [],none,0⟩],by omega,by go_num,Lib.hid HH.out.dropbox0.dropbox0,by rw [List.length_append,List.length_singleton];omega,OO,by simpa using HST⟩
      case measure=>simp [intOf];omega
     | false=>
      have hp:joinF (union n) x y=.mk x.num (union n x.subs y.subs):=by unfold joinF;rw [hwx,hwy,Bool.or_false,if_neg Bool.false_ne_true]
      rw [hp]at hst;have CY:=Lib.hid (fun p c W=>qa9 hwy p c W);have hn0:=HD.out.ne (qbj hwx);have CI:=Lib.hid (fun W v1 v2 (k:Bel w0 W) h1 h2=>IH hn0 A v1 v2 x.subs y.subs W (fun b hb=>Nat.lt_of_lt_of_le (HA0.out b hb) k.size) h1 h2 SX.out SY.out WX.out WY.out);generalize union n x.subs y.subs=M at CI hst;have HST:=Lib.hid hst;clear hwx hwy hp hn0 IH WX WY SX SY hst
      go_upto_region 10 with(first
       | (go_at_call 45;(with_reducible refine CF.out.mono ?_);rintro e w1 ⟨fp,fc,rfl,hfd,k1⟩;have k1:Bel _ w1:=k1;have H1:=Lib.hid ((HX.out.belw k1).addbox #[.int .i64 y.num,.slice fp y.subs.length fc] 61);have K1:=Lib.hid (Bel.of ((Bel.refl wr).alloc _) (Bel.alloc k1 (.cells #[.int .i64 y.num,.slice fp y.subs.length fc] 61)));have FD1:=Lib.hid (hfd.bel ((Bel.refl _).alloc (.cells #[.int .i64 y.num,.slice fp y.subs.length fc] 61)));have x0:=H1.out.cell 1 rfl 0;have x1:=H1.out.cell 1 rfl 1;have y0:=H1.out.cell 0 rfl 0;have y1:=H1.out.cell 0 rfl 1;dsimp only at x0 x1 y0 y1;clear k1 hfd)
       | (go_at_call 28;(with_reducible refine(CX.out _ _ _).mono ?_);rintro e w2 ⟨rfl,k2⟩;have k2:Bel _ w2:=k2;have H2:=Lib.hid (H1.out.belw k2);have K2:=Lib.hid (Bel.of K1.out k2);have FD2:=Lib.hid (FD1.out.bel k2);clear x0 x1 y0 y1;have x0:=H2.out.cell 1 rfl 0;have x1:=H2.out.cell 1 rfl 1;have y0:=H2.out.cell 0 rfl 0;have y1:=H2.out.cell 0 rfl 1;have xf:=H2.out.frz 1 rfl 1;dsimp only at x0 x1 y0 y1 xf;clear k2)
       | (go_at_call 28;(with_reducible refine(CY.out _ _ _).mono ?_);rintro e w3 ⟨rfl,k3⟩;have k3:Bel _ w3:=k3;have H3:=Lib.hid (H2.out.belw k3);have K3:=Lib.hid (Bel.of K2.out k3);have FD3:=Lib.hid (FD2.out.bel k3);clear x0 x1 y0 y1 xf;have x0:=H3.out.cell 1 rfl 0;have x1:=H3.out.cell 1 rfl 1;have y0:=H3.out.cell 0 rfl 0;have y1:=H3.out.cell 0 rfl 1;have xf:=H3.out.frz 1 rfl 1;dsimp only at x0 x1 y0 y1 xf;clear k3)
       | (go_at_call 22;(with_reducible refine(CI.out _ _ _ H3.out.bel (HD.out.bel H3.out.bel) FD3.out).mono ?_);rintro e w4 ⟨mv,rfl,hmd,k4⟩;have k4:Bel _ w4:=k4;obtain⟨mp,mc,hmv⟩:=hmd.form;subst hmv;have H4:=Lib.hid (H3.out.belw k4);have K4:=Lib.hid (Bel.of K3.out k4);have MD4:=Lib.hid hmd;clear x0 x1 y0 y1 xf;have x0:=H4.out.cell 1 rfl 0;have x1:=H4.out.cell 1 rfl 1;have y0:=H4.out.cell 0 rfl 0;have y1:=H4.out.cell 0 rfl 1;have xf:=H4.out.frz 1 rfl 1;dsimp only at x0 x1 y0 y1 xf;clear k4 hmd))
      have HZ:=Lib.hid (show ST w0 [medge (.slice qo L.length co) L] [⟨w1.heap.size,#[.int .i64 y.num,.slice fp y.subs.length fc],61⟩,⟨wr.heap.size,#[.int .i64 x.num,.slice mp M.length mc],61⟩] _ from H4.out.setbox 1 rfl 1 (.slice mp M.length mc));have OZ:=Lib.hid (show RowOK A w0.heap.size n (.slice qo L.length co) L _ from O0.out.bel (qb9 (o:=1) (v:=.slice mp M.length mc) K4.out (Nat.le_refl _)));have hwr:wr.heap.size<w3.heap.size:=(H3.out.boxlt 1 rfl).2
      have MZ:=Lib.hid (MaskD.weak (A':=Off A w0.heap.size (.slice qo L.length co)) (MD4.out.kept (Keep.grown (qbi w4 wr.heap.size 1 (.slice mp M.length mc)) (fun b hb e=>by
       have e2:b=wr.heap.size:=by injection e
       rcases hb with hb|hb
       ·have:=HA0.out b hb
        omega
       ·omega))) (fun b hb _=>qek H3.out hb))
      clear x0 x1 y0 y1 xf hwr;generalize hwz:World.setCell _ _ _=wz at HZ OZ MZ ⊢;clear hwz;have x0:=HZ.out.cell 1 rfl 0;have x1:=HZ.out.cell 1 rfl 1;dsimp only at x0 x1;have HB:=Lib.hid (HZ.out.belw ((Bel.refl wz).alloc (.cells #[.int .i64 x.num,.slice mp M.length mc] 61)));have OB:=Lib.hid (OZ.out.bel ((Bel.refl wz).alloc (.cells #[.int .i64 x.num,.slice mp M.length mc] 61)));have EB:=Lib.hid ((MaskD.bel MZ.out ((Bel.refl wz).alloc (.cells #[.int .i64 x.num,.slice mp M.length mc] 61)):MEok (Off A w0.heap.size (.slice qo L.length co)) n (wz.alloc (.cells #[.int .i64 x.num,.slice mp M.length mc] 61)) ⟨.mk x.num M,mp,mc⟩))
      go_wp2_with (at_builtin;refine wpList_append_lies _ rfl _ _ 27 rfl w0.heap.size 61 i1 (.agg #[.int .i64 0,.slice none 0 0]) 2 32 Tryz.underlying27 hi1 hy0 hy1 hy2 rfl (by decide) _ L.length _ rfl (HB.out.row 0 rfl) ⟨wz.heap.size,0,none⟩ 1 1 [.int .i64 x.num,.slice mp M.length mc] rfl rfl (qbc _ _ _) (by simp [Value.oneCell']) (by decide) (by unfold maxLen;omega) (by omega) HB.out.bel.size (wz.heap.size+1) (by simp) ?_)
      intro g9 cap9 w9 hown hgrow hfr hlt9;have OO:=Lib.hid (RowOK.snoc (e:=⟨.mk x.num M,mp,mc⟩) (m:=L.length+1) (c:=cap9) OB.out HB.out HA0.out EB.out hgrow hfr (by simp));have HH:=Lib.hid (qaw (e:=⟨.mk x.num M,mp,mc⟩) (HB.out.grow 0 rfl hgrow hown (qby hfr (by simp))));clear hown hgrow hfr;go_wp2;go_roundw
      case rel=>exact⟨k+1,L ++ [⟨.mk x.num M,mp,mc⟩],by omega,by go_num,Lib.hid HH.out.dropbox0.dropbox0,by rw [List.length_append,List.length_singleton];omega,OO,by simpa using HST⟩
      case measure=>simp [intOf];omega
  ·have hkl:k=a.length:=by omega
   have hm:L.map (·.x)=MA:=by have:=hx.out;rw [hkl,List.drop_length]at this;simpa using this
   subst hkl;clear hx WA SA EL;subst hm;go_wp2
   go_loopw [5,48] (fun vo i wr => ∃(k:Nat) (L:List ME),k<=b.length/\i=.int .i64 k/\Hid (ST w0 [medge vo L] [] wr)/\L.length<=a.length+k/\Hid (RowOK A w0.heap.size n vo L wr)/\Hid (L.map (·.x) ++ (b.drop k).filter (fun y=>(find a y.num).isNone)=RAW)) (fun _ i _=>b.length-(intOf i).toNat)
   case atStart=>exact⟨0,L,by omega,rfl,hS,by omega,hO,V2⟩
   case round=>as_aux_lemma=>
    clear V2 hS hO hLk;obtain⟨k,L,hk,rfl,hS,hLk,hO,hx⟩:=hrel;by_cases hlt:k<b.length
    ·clear V3 DR
     obtain⟨g,off,sv,rfl,hbs,hab,hc0,hc1,hd⟩:=EL2.out k _ (List.getElem?_eq_getElem hlt);obtain⟨sp,sc,rfl⟩:=hd.form;have hki:(k:Int)<(b.length:Int):=by omega
     have e0:=hS.out.bel.some hc0;have e1:=hS.out.bel.some hc1;clear hc0 hc1 hab;have hst:=hx.out;rw [qng hlt]at hst;clear hx WB SB DB;generalize b[k]=x at *;have HD:=Lib.hid (show MaskD A n w0 (.slice sp x.subs.length sc) x.subs from hd);obtain⟨qo,co,hvo⟩:=qap (hS.out.row 0 rfl);dsimp only [medge]at hvo;subst hvo;have HX:=Lib.hid (hS.out.addbox #[.int .i64 x.num,.slice sp x.subs.length sc] 61);have O0:=hO;have H0:=hS;clear hS hd hO;have CF0:MaskD A (n+1) (wr.alloc (.cells #[.int .i64 x.num,.slice sp x.subs.length sc] 61)) (.slice p a.length c) a:=DA.out.bel (H0.out.bel.alloc _);cases hz:find a x.num with
     | none=>
      have CF:=Lib.hid (qb8 hz _ CF0);rw [hz]at hst;have HST:=Lib.hid hst;clear hst hz CF0
      go_upto_region 17 with(go_at_call 45;(with_reducible refine CF.out.mono ?_);rintro e w1 ⟨fp,fc,rfl,k1⟩;have k1:Bel _ w1:=k1;have H1:=Lib.hid ((HX.out.belw k1).addbox #[.int .i64 0,.slice fp 0 fc] 61);have K1:=Lib.hid (Bel.of ((Bel.refl wr).alloc _) (Bel.alloc k1 (.cells #[.int .i64 0,.slice fp 0 fc] 61)));have x0:=H1.out.cell 1 rfl 0;have x1:=H1.out.cell 1 rfl 1;dsimp only at x0 x1;clear k1)
      have OZ:=Lib.hid (O0.out.bel K1.out);generalize hwz:World.alloc w1 _=wz at H1 K1 OZ x0 x1 ⊢;clear hwz;have HB:=Lib.hid (H1.out.belw ((Bel.refl wz).alloc (.cells #[.int .i64 x.num,.slice sp x.subs.length sc] 61)));have OB:=Lib.hid (OZ.out.bel ((Bel.refl wz).alloc (.cells #[.int .i64 x.num,.slice sp x.subs.length sc] 61)));have EB:=Lib.hid (qgk (A:=A) (N:=w0.heap.size) (v:=.slice qo L.length co) (e:=⟨x,sp,sc⟩) (HD.out.bel HB.out.bel))
      go_wp2_with (at_builtin;refine wpList_append_lies _ rfl _ _ 27 rfl w0.heap.size 61 i1 (.agg #[.int .i64 0,.slice none 0 0]) 2 32 Tryz.underlying27 hi1 hy0 hy1 hy2 rfl (by decide) _ L.length _ rfl (HB.out.row 0 rfl) ⟨wz.heap.size,0,none⟩ 1 1 [.int .i64 x.num,.slice sp x.subs.length sc] rfl rfl (qbc _ _ _) (by simp [Value.oneCell']) (by decide) (by unfold maxLen;omega) (by omega) HB.out.bel.size (wz.heap.size+1) (by simp) ?_)
      intro g9 cap9 w9 hown hgrow hfr hlt9;have OO:=Lib.hid (RowOK.snoc (e:=⟨x,sp,sc⟩) (m:=L.length+1) (c:=cap9) OB.out HB.out HA0.out EB.out hgrow hfr (by simp));have HH:=Lib.hid (qaw (e:=⟨x,sp,sc⟩) (HB.out.grow 0 rfl hgrow hown (qby hfr (by simp))));clear hown hgrow hfr;go_wp2;go_roundw
      case rel=>exact⟨k+1,L ++ [⟨x,sp,sc⟩],by omega,by go_num,Lib.hid HH.out.dropbox0.dropbox0,by rw [List.length_append,List.length_singleton];omega,OO,by simpa using HST⟩
      case measure=>simp [intOf];omega
     | some y=>
      have CF:=Lib.hid (qb7 hz _ CF0);rw [hz]at hst;have HST:=Lib.hid (show L.map (·.x) ++ (b.drop (k+1)).filter (fun y=>(find a y.num).isNone)=RAW from hst);clear hst hz CF0
      go_wp2_with (go_at_call 45;(with_reducible refine CF.out.mono ?_);rintro e w1 ⟨fp,fc,rfl,hfd,k1⟩;have k1:Bel _ w1:=k1;have H1:=Lib.hid ((HX.out.belw k1).addbox #[.int .i64 y.num,.slice fp y.subs.length fc] 61);have K1:=Lib.hid (Bel.of ((Bel.refl wr).alloc _) (Bel.alloc k1 (.cells #[.int .i64 y.num,.slice fp y.subs.length fc] 61)));have FD1:=Lib.hid (hfd.bel ((Bel.refl _).alloc (.cells #[.int .i64 y.num,.slice fp y.subs.length fc] 61)));have x0:=H1.out.cell 1 rfl 0;have x1:=H1.out.cell 1 rfl 1;have y0:=H1.out.cell 0 rfl 0;have y1:=H1.out.cell 0 rfl 1;dsimp only at x0 x1 y0 y1;clear k1 hfd)
      go_roundw
      case rel=>exact⟨k+1,L,by omega,by go_num,Lib.hid (H0.out.belw K1.out),by omega,Lib.hid (O0.out.bel K1.out),HST⟩
      case measure=>simp [intOf];omega
    ·have hkl:k=b.length:=by omega
     have hm:L.map (·.x)=RAW:=by have:=hx.out;rw [hkl,List.drop_length]at this;simpa using this
     obtain⟨qo,co,hvo⟩:=qap (hS.out.row 0 rfl);dsimp only [medge]at hvo;subst hvo;have CS:=Lib.hid (mk_sort w0 wr [] [] _ L hS.out (by omega));have HM:=Lib.hid hm;clear hx hm EL2 WB SB DA DB;subst hkl
     go_wp2_with (go_at_call 50;(with_reducible refine CS.out.mono ?_);rintro e w1 ⟨L',rfl,hp,hso,hS2,hgr⟩)
     go_ret;exact⟨_,rfl,qfp hS2 (hO.out.sort hS.out HA0.out hp hgr) (by have:=hp.length_eq;omega) ((qmh DR.out HM.out hp hso).trans V3.out),hS2.bel⟩
theorem qfn : ∀n:Nat,qlz (n+1)
 | 0=>qdx 0 (fun h=>absurd rfl h)
 | n+1=>qdx (n+1) (fun _=>qfn n)
end
end Go.Proofs.YtaaneecceiefoaaGreatDoor
