import Derived.Test.YtfoaaglbpmmhiaaGreatDoorKitT
import Derived.Test.YtfoaaglbpmmhiaaGreatDoorCkNote1
set_option maxRecDepth 100000
set_option maxHeartbeats 4000000
set_option linter.unusedVariables false
set_option linter.unusedSimpArgs false
namespace Go.Proofs.YtfoaaglbpmmhiaaGreatDoor
open Go.RowKit Ck Md
theorem unGo_len : ∀ (l:List PField) (acc:List Str),(unGo acc l).length<=acc.length + l.length
 | [],acc => by simp [unGo]
 | f :: r,acc => by
  unfold unGo;by_cases h:f.un ≠ []/\Id.has acc f.un=false
  ·rw [if_pos h]
   have:=unGo_len r (acc ++ [f.un]);rw [List.length_append,List.length_singleton] at this;rw [List.length_cons];omega
  ·rw [if_neg h]
   have:=unGo_len r acc;rw [List.length_cons];omega
theorem unGo_cons (f:PField) (r:List PField) (acc:List Str):unGo acc (f :: r)=unGo (if f.un ≠ []/\Id.has acc f.un=false then acc ++ [f.un] else acc) r:=rfl
def StrsOut (w:World) (us:List Str) (e:Ending) (w':World):Prop := ∃ v,e=.returned v/\w'.ownsRow w.heap.size 9 1 v us.length (nmC us)/\Bel w w'
theorem S_isEmpty (l:Str):(S l).toList.isEmpty=l.isEmpty:=by rw [ByteArray.toList_eq,S_list]
theorem md_unions (mn:Str) (mq1 mq2 mq3 mq4:Option Addr) (mm1 mm2 mm3 mm4 mc1 mc2 mc3 mc4:Nat) (m:PMsg) (w:World) (hv:VMsg w [.string (S mn),.slice mq1 mm1 mc1,.slice mq2 mm2 mc2,.slice mq3 mm3 mc3,.slice mq4 mm4 mc4] m) (hfn:m.fields.length<=2000000) :
  Calls Tryz.prog 38 #[.agg #[.string (S mn),.slice mq1 mm1 mc1,.slice mq2 mm2 mc2,.slice mq3 mm3 mc3,.slice mq4 mm4 mc4]] w (StrsOut w (unions m)):=by
 obtain ⟨_,_,_,_,hcm,hm1,_,_,_⟩:=hv;cases hcm;obtain ⟨q,c,hq,hl,hcap,hel⟩:=hm1;cases hq;have VT:unGo [] (m.fields.drop 0)=unions m:=rfl;have hTl:(unions m).length<=m.fields.length:=by have:=unGo_len m.fields [];rw [List.length_nil,Nat.zero_add] at this;exact this
 generalize unions m=T at VT hTl;have V:=Lib.hid VT;have EL:=Lib.hid hel;clear hel VT;obtain ⟨i0,hi,hz0,hz1,hz2⟩:=info_parts str_info
 go_enter Tryz.func38,Tryz.ntmps38
 go_wp2
 go_loopw [3,9] (fun v i wr => ∃ (k:Nat) (xs:List Str),k<=m.fields.length/\i=.int .i64 k/\wr.ownsRow w.heap.size 9 1 v xs.length (nmC xs)/\Below w.heap.size w wr/\w.heap.size < wr.heap.size/\xs.length<=k/\Hid (unGo xs (m.fields.drop k)=T)) (fun _ i _ => m.fields.length - (intOf i).toNat)
 case atStart => exact ⟨0,[],by omega,rfl,⟨rfl,.inl ⟨rfl,rfl⟩⟩,by simpa using (Below.refl _ _).alloc (Nat.le_refl _) _,by simp,by simp,by simpa using V⟩
 case round =>
  obtain ⟨k,xs,hk,rfl,hown,hb,hbz,hxl,hx⟩:=hrel;by_cases hlt:k < m.fields.length
  ·have hg:=List.getElem?_eq_getElem hlt
   obtain ⟨b,off,rfl,hbs,vs,hce,hvs⟩:=EL.out k _ hg;have hdr:m.fields.drop k=m.fields[k] :: m.fields.drop (k + 1):=List.drop_eq_getElem_cons hlt;obtain ⟨_,_,hvs1,⟨r1,r2,r3,r4,d1,d2,d3,d4,hvv,_⟩,hnt⟩:=hvs;obtain ⟨r5,d5,hnv,hnl⟩:=sl_form hnt;subst hvs1 hvv hnv;generalize m.fields[k]=f at *;have hki:(k:Int) < (m.fields.length:Int):=by omega
   have aE:=agg_Field;obtain ⟨K,hK⟩ : ∃ K,K=16:=⟨_,rfl⟩;have zE : ∀ w,(Go.sizeOf 63).run Tryz.prog w=.ok K w:=hK ▸ size_Field
   have l2:Sem.run Tryz.prog (loadCellsFrom ⟨b,off + k * K,none⟩ 0 K #[]) wr=.ok #[.int .i64 f.num,.string (S f.name),.int .i64 f.card,.int .i64 f.key,.int .i64 f.tk,.string (S f.tn),.string (S f.un),.bool f.hd,.int .i64 f.df.k,.int .u64 f.df.x,.string (S f.df.t),.slice r1 f.df.n1 d1,.slice r2 f.df.n2 d2,.slice r3 f.df.n3 d3,.slice r4 f.df.n4 d4,.slice r5 f.notes.length d5] wr:=run_loadCellsFrom_list Tryz.prog _ _ _ K hK.symm (fun j v hj => by
    rw [hK,Addr.add_lit]
    exact Bel.some hb (hce j v hj))
   have HK:=Lib.hid hK;clear hK hce hg hnt;have hst:=hx.out;rw [hdr,unGo_cons] at hst;have hbox:Bel wr (wr.alloc (.cells #[.int .i64 f.num,.string (S f.name),.int .i64 f.card,.int .i64 f.key,.int .i64 f.tk,.string (S f.tn),.string (S f.un),.bool f.hd,.int .i64 f.df.k,.int .u64 f.df.x,.string (S f.df.t),.slice r1 f.df.n1 d1,.slice r2 f.df.n2 d2,.slice r3 f.df.n3 d3,.slice r4 f.df.n4 d4,.slice r5 f.notes.length d5] 63)):=(Bel.refl wr).alloc _;have CH:=Lib.hid (fun W (kk:Bel (wr.alloc (.cells #[.int .i64 f.num,.string (S f.name),.int .i64 f.card,.int .i64 f.key,.int .i64 f.tk,.string (S f.tn),.string (S f.un),.bool f.hd,.int .i64 f.df.k,.int .u64 f.df.x,.string (S f.df.t),.slice r1 f.df.n1 d1,.slice r2 f.df.n2 d2,.slice r3 f.df.n3 d3,.slice r4 f.df.n4 d4,.slice r5 f.notes.length d5] 63)) W) => md_has _ xs (S f.un) f.un W (own_strs (row_bel hown (Bel.of hbox kk.out)) (by omega)) (S_list _));clear hx hdr;by_cases hu:f.un=[]
   ·rw [if_neg (fun e => e.1 hu)] at hst
    have hx2:=Lib.hid hst;have hue:(S f.un).toList=[]:=by rw [ByteArray.toList_eq,S_list,hu]
    clear hst CH hu
    go_upto_region 5 with (fail)
    all_goals (first | (exfalso;exact absurd HK.out.symm (by assumption)) | (have h16:16=K:=(by assumption);subst h16))
    clear l2 aE zE HK
    go_wp2
    refine ⟨⟨k + 1,xs,by omega,rfl,hown.alloc _,hb.alloc (by omega) _,by simp;omega,by omega,hx2⟩,by simp [intOf];omega⟩
   ·have hue:(S f.un).toList ≠ []:=by rw [ByteArray.toList_eq,S_list];exact hu
    have hue2:(S f.un).toList.isEmpty=false:=by rw [S_isEmpty];simpa using hu
    by_cases hh:Id.has xs f.un=true
    ·rw [if_neg (fun e => by rw [hh] at e;cases e.2)] at hst
     have hx2:=Lib.hid hst;rw [hh] at CH;clear hst hh hu
     go_upto_region 5 with (fail)
     all_goals (first | (exfalso;exact absurd HK.out.symm (by assumption)) | (have h16:16=K:=(by assumption);subst h16))
     clear l2 aE zE HK
     go_wp2_with (go_at_call 54;(with_reducible refine (CH.out _ (by (repeat (first | (with_reducible assumption) | (with_reducible exact Bel.refl _) | (with_reducible refine Bel.drew ?_) | (with_reducible refine Bel.drewN ?_ _) | (with_reducible refine Bel.alloc ?_ _) | ((with_reducible refine bel_set ?_ ?hge);(case hge => (first | omega | (simp;omega)))))))).mono ?_);rintro e w1 ⟨rfl,rfl⟩)
     refine ⟨⟨k + 1,xs,by omega,rfl,hown.alloc _,hb.alloc (by omega) _,by simp;omega,by omega,hx2⟩,by simp [intOf];omega⟩
    ·have hh2:Id.has xs f.un=false:=by simpa using hh
     rw [if_pos ⟨hu,hh2⟩] at hst;have hx2:=Lib.hid hst;rw [hh2] at CH;clear hst hh hh2 hu
     go_upto_region 5 with (fail)
     all_goals (first | (exfalso;exact absurd HK.out.symm (by assumption)) | (have h16:16=K:=(by assumption);subst h16))
     clear l2 aE zE HK
     go_wp2_with (first
      | (go_at_call 54;(with_reducible refine (CH.out _ (by (repeat (first | (with_reducible assumption) | (with_reducible exact Bel.refl _) | (with_reducible refine Bel.drew ?_) | (with_reducible refine Bel.drewN ?_ _) | (with_reducible refine Bel.alloc ?_ _) | ((with_reducible refine bel_set ?_ ?hge);(case hge => (first | omega | (simp;omega)))))))).mono ?_);rintro e w1 ⟨rfl,rfl⟩)
      | (at_builtin;refine wpList_append_own _ rfl _ _ 37 rfl w.heap.size 9 i0 (.string ByteArray.empty) 1 16 Tryz.underlying37 hi hz0 hz1 hz2 rfl (by decide) _ _ _ rfl ((hown.alloc _).alloc _) ⟨wr.heap.size + 1,0,none⟩ 1 1 [.string (S f.un)] rfl rfl (new_one2 _ _ _ _) (by simp [Value.oneCell']) (by unfold maxLen;omega) (by omega) (by simp;omega) ?_))
     intro v' w1 hown1 hgrow _;have hb1:=(((hb.alloc (by omega) (.cells #[.int .i64 f.num,.string (S f.name),.int .i64 f.card,.int .i64 f.key,.int .i64 f.tk,.string (S f.tn),.string (S f.un),.bool f.hd,.int .i64 f.df.k,.int .u64 f.df.x,.string (S f.df.t),.slice r1 f.df.n1 d1,.slice r2 f.df.n2 d2,.slice r3 f.df.n3 d3,.slice r4 f.df.n4 d4,.slice r5 f.notes.length d5] 63)).alloc (by simp;omega) (.cells #[.string (S f.un)] 9))).grown hgrow (by simp;omega) (fun g hg => (hown.lt g hg).1)
     have hown2:w1.ownsRow w.heap.size 9 1 v' (xs ++ [f.un]).length (nmC (xs ++ [f.un])):=by
      rw [show nmC (xs ++ [f.un])=nmC xs ++ [.string (S f.un)] by unfold nmC;simp,List.length_append];exact hown1
     have hz:=hgrow.size;clear hgrow hown1
     go_wp2
     refine ⟨⟨k + 1,xs ++ [f.un],by omega,rfl,hown2,hb1,by simp at hz;omega,by simp;omega,hx2⟩,by simp [intOf];omega⟩
  ·have hkl:k=m.fields.length:=by omega
   have hxe:xs=T:=by have:=hx.out;rw [hkl,List.drop_length] at this;exact this
   subst hxe;subst hkl;clear hx V EL
   go_wp2
   go_ret
   exact ⟨_,rfl,hown,hb⟩
end Go.Proofs.YtfoaaglbpmmhiaaGreatDoor
namespace Go.Proofs.YtfoaaglbpmmhiaaGreatDoor
open Go.RowKit Ck Md
theorem decl_info:(Tryz.prog.info? 47).map (fun i => (i.zero,i.size,i.bytes))=some (some (.agg #[.int .i64 0,.string ByteArray.empty,.string ByteArray.empty,.slice none 0 0]),4,64):=by kernel_rfl
def MK (w0:World) (g:Nat) (a b c:Value) (D:List PDecl) (M:List Value) (R:List Row) (X:List Box) (w:World):Prop := ∃ vn vw vo,
 ST w0 (⟨9,1,vn,D.length,nmC (D.map (·.name))⟩ :: ⟨119,2,vw,D.length,D.flatMap whC⟩ :: ⟨47,4,vo,D.length,outC D M⟩ :: R) (⟨g,#[a,b,c,vn,vw,vo],89⟩ :: X) w
theorem outC_nil (D:List PDecl) (d:PDecl):outC (D ++ [d]) []=outC D [] ++ [.int .i64 d.kind,.string (S d.name),.string (S d.frm),.slice none 0 0]:=by
 induction D with
 | nil => rfl
 | cons a D ih => simp [outC,ih]
def DclPost (w0:World) (g:Nat) (a b c:Value) (D:List PDecl) (R:List Row) (X:List Box) (U:Str) (e:Ending) (w':World):Prop:=e=.returned (.string (S U))/\MK w0 g a b c D [] R X w'
theorem md_declare (w0:World) (g:Nat) (a b c:Value) (D:List PDecl) (R:List Row) (X:List Box) (kd:Int) (name fr:Str) (w:World) (h:MK w0 g a b c D [] R X w) (hP:PT w0) (hn:name.length<=4000000000) (hk:D.length<=1000000000) :
  Calls Tryz.prog 36 #[.pointer (some ⟨g,0,none⟩),.int .i64 kd,.string (S name),.string (S fr)] w (DclPost w0 g a b c (addD D kd name fr) R X (unique (D.map (·.name)) name)):=by
 obtain ⟨vn,vw,vo,h⟩:=h;obtain ⟨i1,hi1,hy0,hy1,hy2⟩:=info_parts decl_info;have hle:(D.map (·.name)).length=D.length:=List.length_map _;have CA:=Lib.hid (md_addT w0 _ X g 89 a b c vo vn vw (D.map (·.name)) (D.flatMap whC) name kd fr w (by rw [hle];exact h) hP hn (by rw [hle];exact hk));have c5:w.cell? ⟨g,3,none⟩=some vn:=h.cell 0 rfl 3;unfold addD;have HM:=Lib.hid (fun U => show (D ++ [(⟨kd,U,fr,[]⟩:PDecl)]).map (·.name)=D.map (·.name) ++ [U] by simp);generalize hU:unique (D.map (·.name)) name=U at CA;clear h hU
 go_enter Tryz.func36,Tryz.ntmps36
 go_upto_region 2 with (go_at_call 59;(with_reducible refine CA.out.mono ?_);rintro e w1 ⟨vn',vw',rfl,h1⟩)
 have e0:w1.cell? ⟨g,5,none⟩=some vo:=h1.cell 0 rfl 5;have hs1:=(h1.boxlt 0 rfl).2;have H2:=Lib.hid (h1.belw ((Bel.refl w1).alloc (.cells #[.int .i64 kd,.string (S U),.string (S fr),.slice none 0 0] 47)));clear h1 CA c5
 go_wp2_with (at_builtin;refine wpList_append_lies _ rfl _ _ 28 rfl w0.heap.size 47 i1 (.agg #[.int .i64 0,.string ByteArray.empty,.string ByteArray.empty,.slice none 0 0]) 4 64 Tryz.underlying28 hi1 hy0 hy1 hy2 rfl (by decide) vo D.length _ rfl (H2.out.row 2 rfl) ⟨w1.heap.size,0,none⟩ 1 1 [.int .i64 kd,.string (S U),.string (S fr),.slice none 0 0] rfl rfl (one_new _ _ _) (by simp [Value.oneCell']) (by decide) (by unfold maxLen;omega) (by omega) H2.out.bel.size (w1.heap.size + 1) (by simp) ?_)
 intro g3 cap3 w4 hown hgrow hfr hlt2;have H7:=H2.out.grow 2 rfl hgrow hown (fr_own hfr (by simp));have e2:w4.cell? ⟨g,5,none⟩=some vo:=H7.cell 0 rfl 5;have z2:w4.frozen? ⟨g,5,none⟩=false:=H7.frz 0 rfl 5;have H8:=Lib.hid (H7.setbox 0 rfl 5 (.slice (some ⟨g3,0,none⟩) (D.length + 1) cap3));clear H2 H7 hown hgrow hfr hlt2
 go_wp2
 go_ret
 refine ⟨rfl,vn',vw',.slice (some ⟨g3,0,none⟩) (D.length + 1) cap3,?_⟩;have hR:=H8.out;have hfm:(D ++ [(⟨kd,U,fr,[]⟩:PDecl)]).flatMap whC=D.flatMap whC ++ [.int .i64 kd,.string (S fr)]:=by rw [List.flatMap_append];rfl
 rw [HM.out,outC_nil,hfm,List.length_append,List.length_singleton];rw [hle] at hR;exact hR
end Go.Proofs.YtfoaaglbpmmhiaaGreatDoor
namespace Go.Proofs.YtfoaaglbpmmhiaaGreatDoor
open Go.RowKit Ck Md
theorem ieq2 {a b:Int} (h:a=b):(a == b)=true:=beq_iff_eq.2 h
theorem ine2 {a b:Int} (h:a ≠ b):(a == b)=false:=beq_eq_false_iff_ne.2 h
theorem md_element (g:Nat) (D:List PDecl) (tk:Int) (tn:Str) (w:World) (h:NM w g D) :
  Calls Tryz.prog 65 #[.pointer (some ⟨g,0,none⟩),.agg #[.int .i64 tk,.string (S tn)]] w fun e w' => e=.returned (.string (S (element D tk tn)))/\Bel w w':=by
 have CN:=Lib.hid (fun W (kk:Bel w W) k => md_name g D k tn W (h.bel kk));have kw:Bel w (w.alloc (.cells #[.int .i64 tk,.string (S tn)] 54)):=(Bel.refl w).alloc _;have b0:(w.alloc (.cells #[.int .i64 tk,.string (S tn)] 54)).cell? ⟨w.heap.size,0,none⟩=some (.int .i64 tk):=by rw [World.cell?_alloc_at _ _ _ _ rfl];rfl
 have b1:(w.alloc (.cells #[.int .i64 tk,.string (S tn)] 54)).cell? ⟨w.heap.size,1,none⟩=some (.string (S tn)):=by rw [World.cell?_alloc_at _ _ _ _ rfl];rfl
 have hgl:g < w.heap.size:=by
  obtain ⟨vn,vw,h1,_⟩:=h;exact World.block_lt_of_cell? w _ h1
 clear h;have hV : ∀ T,T=element D tk tn->element D tk tn=T:=fun T h => h.symm
 unfold Md.element;by_cases h10:tk=10
 ·rw [if_pos h10]
  have e10:=ieq2 h10;have C:=Lib.hid (fun W (kk:Bel w W) => CN.out W kk 1);generalize nameOf D 1 tn=U at C;clear CN hV h10
  go_enter Tryz.func65,Tryz.ntmps65
  go_upto_region 3 with (fail)
  obtain ⟨wd,hwd⟩ : ∃ wd,wd=(w.alloc (.cells #[.int .i64 tk,.string (S tn)] 54)).drew:=⟨_,rfl⟩;have kd:Bel w wd:=by rw [hwd];exact kw.drew
  have y1:wd.cell? ⟨w.heap.size,1,none⟩=some (.string (S tn)):=by rw [hwd];exact b1
  have hl:w.heap.size < wd.heap.size:=by rw [hwd];simp
  have HWD:=Lib.hid hwd;clear hwd b0 b1 kw;refine rg_tail 6 (by kernel_rfl) (by kernel_rfl) HWD.out ?_
  (simp only [List.take_succ_cons,List.take_zero,List.drop_succ_cons,List.drop_zero]);(repeat (first | ((with_reducible refine wpStill_step (fun K hK => ?_));go_simp;(with_reducible refine hK _ ?_);clear hK K) | ((with_reducible refine rg_skip ?_ ?_);(with_unfolding_all rfl))));(with_reducible refine wpStill_nil ?_)
  go_wp2_with (go_at_call 64;(with_reducible refine (C.out _ kd).mono ?_);rintro e w1 ⟨rfl,k1⟩)
  go_ret
  exact ⟨rfl,Bel.of kd k1.out⟩
 ·rw [if_neg h10]
  have e10:=ine2 h10;by_cases h9:tk=9
  ·rw [if_pos h9]
   have e9:=ieq2 h9;have C:=Lib.hid (fun W (kk:Bel w W) => CN.out W kk 3);generalize nameOf D 3 tn=U at C;clear CN hV h10 h9
   go_enter Tryz.func65,Tryz.ntmps65
   go_upto_region 5 with (fail)
   obtain ⟨wd,hwd⟩ : ∃ wd,wd=(w.alloc (.cells #[.int .i64 tk,.string (S tn)] 54)).drew:=⟨_,rfl⟩;have kd:Bel w wd:=by rw [hwd];exact kw.drew
   have y1:wd.cell? ⟨w.heap.size,1,none⟩=some (.string (S tn)):=by rw [hwd];exact b1
   have hl:w.heap.size < wd.heap.size:=by rw [hwd];simp
   have HWD:=Lib.hid hwd;clear hwd b0 b1 kw;refine rg_tail 6 (by kernel_rfl) (by kernel_rfl) HWD.out ?_
   (simp only [List.take_succ_cons,List.take_zero,List.drop_succ_cons,List.drop_zero]);(repeat (first | ((with_reducible refine wpStill_step (fun K hK => ?_));go_simp;(with_reducible refine hK _ ?_);clear hK K) | ((with_reducible refine rg_skip ?_ ?_);(with_unfolding_all rfl))));(with_reducible refine wpStill_nil ?_)
   go_wp2_with (go_at_call 64;(with_reducible refine (C.out _ kd).mono ?_);rintro e w1 ⟨rfl,k1⟩)
   go_ret
   exact ⟨rfl,Bel.of kd k1.out⟩
  ·rw [if_neg h9]
   have e9:=ine2 h9;have C:=Lib.hid (fun W => md_word tk W);generalize Md.word tk=U at C;clear CN hV h9 h10
   go_enter Tryz.func65,Tryz.ntmps65
   go_wp2_with (go_at_call 93;(with_reducible refine (C.out _).mono ?_);rintro e w1 ⟨rfl,rfl⟩)
   go_ret
   exact ⟨rfl,kw⟩
end Go.Proofs.YtfoaaglbpmmhiaaGreatDoor
namespace Go.Proofs.YtfoaaglbpmmhiaaGreatDoor
open Go.RowKit Ck Md
theorem word_len (k:Int):(Md.word k).length<=6:=by
 unfold Md.word
 (repeat' split) <;> decide
theorem md_field (g:Nat) (D:List PDecl) (f:PField) (r1 r2 r3 r4 r5:Option Addr) (d1 d2 d3 d4 d5:Nat) (w:World) (h:NM w g D) (hl:(element D f.tk f.tn).length<=1000000000) :
  Calls Tryz.prog 63 #[.pointer (some ⟨g,0,none⟩),.agg #[.int .i64 f.num,.string (S f.name),.int .i64 f.card,.int .i64 f.key,.int .i64 f.tk,.string (S f.tn),.string (S f.un),.bool f.hd,.int .i64 f.df.k,.int .u64 f.df.x,.string (S f.df.t),.slice r1 f.df.n1 d1,.slice r2 f.df.n2 d2,.slice r3 f.df.n3 d3,.slice r4 f.df.n4 d4,.slice r5 f.notes.length d5]] w fun e w' => e=.returned (.string (S (fieldT D f)))/\Bel w w':=by
 have CN:=Lib.hid (fun W (kk:Bel w W) => md_element g D f.tk f.tn W (h.bel kk));have CW:=Lib.hid (fun W => md_word f.key W);have hw:=word_len f.key;have kw:Bel w (w.alloc (.cells #[.int .i64 f.num,.string (S f.name),.int .i64 f.card,.int .i64 f.key,.int .i64 f.tk,.string (S f.tn),.string (S f.un),.bool f.hd,.int .i64 f.df.k,.int .u64 f.df.x,.string (S f.df.t),.slice r1 f.df.n1 d1,.slice r2 f.df.n2 d2,.slice r3 f.df.n3 d3,.slice r4 f.df.n4 d4,.slice r5 f.notes.length d5] 63)):=(Bel.refl w).alloc _;have HV:=Lib.hid (show fieldT D f=carded f.card (Md.word f.key) (element D f.tk f.tn) from rfl);clear h;generalize fieldT D f=T at HV;generalize element D f.tk f.tn=E at CN HV hl;generalize Md.word f.key=WW at CW HV hw;have zE:(S E).size=E.length:=S_size _;have zW:(S WW).size=WW.length:=S_size _;by_cases h2:f.card=2
 ·have e2:=ieq2 h2
  have hT:=Lib.hid (show T=[63] ++ E by rw [HV.out];unfold carded;rw [if_pos h2];try rfl);clear HV h2
  go_enter Tryz.func63,Tryz.ntmps63
  go_wp2_with (first
   | (go_at_call 65;(with_reducible refine (CN.out _ kw).mono ?_);rintro e w1 ⟨rfl,k1⟩;have c2:w1.cell? ⟨w.heap.size,2,none⟩=some (.int .i64 f.card):=k1.some (by rw [World.cell?_alloc_at _ _ _ _ rfl];rfl);have c3:w1.cell? ⟨w.heap.size,3,none⟩=some (.int .i64 f.key):=k1.some (by rw [World.cell?_alloc_at _ _ _ _ rfl];rfl))
   | (go_at_call 93;(with_reducible refine (CW.out _).mono ?_);rintro e w2 ⟨rfl,rfl⟩))
  go_ret
  exact ⟨ret_str (by rw [hT.out];simp only [← S_app];rfl),Bel.of kw k1.out⟩
 have e2:=ine2 h2;by_cases h4:f.card=4
 ·have e4:=ieq2 h4
  have hT:=Lib.hid (show T=[91,93] ++ E by rw [HV.out];unfold carded;rw [if_neg h2,if_pos h4];try rfl);clear HV h4 h2
  go_enter Tryz.func63,Tryz.ntmps63
  go_wp2_with (first
   | (go_at_call 65;(with_reducible refine (CN.out _ kw).mono ?_);rintro e w1 ⟨rfl,k1⟩;have c2:w1.cell? ⟨w.heap.size,2,none⟩=some (.int .i64 f.card):=k1.some (by rw [World.cell?_alloc_at _ _ _ _ rfl];rfl);have c3:w1.cell? ⟨w.heap.size,3,none⟩=some (.int .i64 f.key):=k1.some (by rw [World.cell?_alloc_at _ _ _ _ rfl];rfl))
   | (go_at_call 93;(with_reducible refine (CW.out _).mono ?_);rintro e w2 ⟨rfl,rfl⟩))
  go_ret
  exact ⟨ret_str (by rw [hT.out];simp only [← S_app];rfl),Bel.of kw k1.out⟩
 have e4:=ine2 h4;by_cases h5:f.card=5
 ·have e5:=ieq2 h5
  have hT:=Lib.hid (show T=[109,97,112,91] ++ WW ++ [93] ++ E by rw [HV.out];unfold carded;rw [if_neg h2,if_neg h4,if_pos h5];try rfl);clear HV h5 h2 h4
  go_enter Tryz.func63,Tryz.ntmps63
  go_wp2_with (first
   | (go_at_call 65;(with_reducible refine (CN.out _ kw).mono ?_);rintro e w1 ⟨rfl,k1⟩;have c2:w1.cell? ⟨w.heap.size,2,none⟩=some (.int .i64 f.card):=k1.some (by rw [World.cell?_alloc_at _ _ _ _ rfl];rfl);have c3:w1.cell? ⟨w.heap.size,3,none⟩=some (.int .i64 f.key):=k1.some (by rw [World.cell?_alloc_at _ _ _ _ rfl];rfl))
   | (go_at_call 93;(with_reducible refine (CW.out _).mono ?_);rintro e w2 ⟨rfl,rfl⟩))
  go_ret
  exact ⟨ret_str (by rw [hT.out];simp only [← S_app];rfl),Bel.of kw k1.out⟩
 have e5:=ine2 h5;have hT:=Lib.hid (show T=E by rw [HV.out];unfold carded;rw [if_neg h2,if_neg h4,if_neg h5]);clear HV h2 h4 h5
 go_enter Tryz.func63,Tryz.ntmps63
 go_wp2_with (go_at_call 65;(with_reducible refine (CN.out _ kw).mono ?_);rintro e w1 ⟨rfl,k1⟩;have c2:w1.cell? ⟨w.heap.size,2,none⟩=some (.int .i64 f.card):=k1.some (by rw [World.cell?_alloc_at _ _ _ _ rfl];rfl);have c3:w1.cell? ⟨w.heap.size,3,none⟩=some (.int .i64 f.key):=k1.some (by rw [World.cell?_alloc_at _ _ _ _ rfl];rfl))
 go_ret
 exact ⟨ret_str (by rw [hT.out]),Bel.of kw k1.out⟩
end Go.Proofs.YtfoaaglbpmmhiaaGreatDoor
