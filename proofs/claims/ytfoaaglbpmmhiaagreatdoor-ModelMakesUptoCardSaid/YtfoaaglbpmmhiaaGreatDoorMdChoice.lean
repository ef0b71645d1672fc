import Derived.Test.YtfoaaglbpmmhiaaGreatDoorKitT
import Derived.Test.YtfoaaglbpmmhiaaGreatDoorCkNote1
set_option maxRecDepth 100000
set_option maxHeartbeats 4000000
set_option linter.unusedVariables false
set_option linter.unusedSimpArgs false
namespace Go.Proofs.YtfoaaglbpmmhiaaGreatDoor
section
open Go.RowKit Ck Md
theorem qf5 : ∀(l:List PField) (acc:List Str),(unGo acc l).length<=acc.length+l.length
 | [],acc=>by simp [unGo]
 | f :: r,acc=>by
  unfold unGo;by_cases h:f.un ≠ []/\Id.has acc f.un=false
  ·rw [if_pos h]
   have:=qf5 r (acc ++ [f.un]);rw [List.length_append,List.length_singleton]at this;rw [List.length_cons];omega
  ·rw [if_neg h]
   have:=qf5 r acc;rw [List.length_cons];omega
theorem qka (f:PField) (r:List PField) (acc:List Str):unGo acc (f :: r)=unGo (if f.un ≠ []/\Id.has acc f.un=false then acc ++ [f.un]else acc) r:=rfl
def StrsOut (w:World) (us:List Str) (e:Ending) (w':World):Prop := ∃v,e=.returned v/\w'.ownsRow w.heap.size 9 1 v us.length (nmC us)/\Bel w w'
theorem qe6 (l:Str):(S l).toList.isEmpty=l.isEmpty:=by rw [ByteArray.toList_eq,qah]
theorem qkw (mn:Str) (mq1 mq2 mq3 mq4:Option Addr) (mm1 mm2 mm3 mm4 mc1 mc2 mc3 mc4:Nat) (m:PMsg) (w:World) (hv:VMsg w [.string (S mn),.slice mq1 mm1 mc1,.slice mq2 mm2 mc2,.slice mq3 mm3 mc3,.slice mq4 mm4 mc4] m) (hfn:m.fields.length<=2000000) :
  Calls Tryz.prog 38 #[.agg #[.string (S mn),.slice mq1 mm1 mc1,.slice mq2 mm2 mc2,.slice mq3 mm3 mc3,.slice mq4 mm4 mc4]] w (StrsOut w (qbt m)):=by
 obtain⟨_,_,_,_,hcm,hm1,_,_,_⟩:=hv;cases hcm;obtain⟨q,c,hq,hl,hcap,hel⟩:=hm1;cases hq;have VT:unGo [] (m.fields.drop 0)=qbt m:=rfl;have hTl:(qbt m).length<=m.fields.length:=by have:=qf5 m.fields [];rw [List.length_nil,Nat.zero_add]at this;exact this
 generalize qbt m=T at VT hTl;have V:=h_ VT;have EL:=h_ hel;clear hel VT;obtain⟨i0,hi,hz0,hz1,hz2⟩:=info_parts qc7
 go_enter Tryz.func38,Tryz.ntmps38
 go_wp2
 go_loopw [3,9] (fun v i wr => ∃(k:Nat) (xs:List Str),k<=m.fields.length/\i=.int .i64 k/\wr.ownsRow w.heap.size 9 1 v xs.length (nmC xs)/\Below w.heap.size w wr/\w.heap.size<wr.heap.size/\xs.length<=k/\Hid (unGo xs (m.fields.drop k)=T)) (fun _ i _=>m.fields.length-(intOf i).toNat)
 case atStart=>exact⟨0,[],by omega,rfl,⟨rfl,.inl ⟨rfl,rfl⟩⟩,by simpa using (Below.refl _ _).alloc (Nat.le_refl _) _,by simp,by simp,by simpa using V⟩
 case round=>
  obtain⟨k,xs,hk,rfl,hown,hb,hbz,hxl,hx⟩:=hrel;by_cases hlt:k<m.fields.length
  ·have hg:=List.getElem?_eq_getElem hlt
   obtain⟨b,off,rfl,hbs,vs,hce,hvs⟩:=EL.out k _ hg;have hdr:m.fields.drop k=m.fields[k] :: m.fields.drop (k+1):=List.drop_eq_getElem_cons hlt;obtain⟨_,_,hvs1,⟨r1,r2,r3,r4,d1,d2,d3,d4,hvv,_⟩,hnt⟩:=hvs;obtain⟨r5,d5,hnv,hnl⟩:=qa5 hnt;subst hvs1 hvv hnv;generalize m.fields[k]=f at *;have hki:(k:Int)<(m.fields.length:Int):=by omega
   have aE:=qas;obtain⟨K,hK⟩ : ∃K,K=16:=⟨_,rfl⟩;have zE : ∀w,(Go.sizeOf 63).run Tryz.prog w=.ok K w:=hK ▸ qal
   have l2:Sem.run Tryz.prog (loadCellsFrom ⟨b,off+k*K,none⟩ 0 K #[]) wr=.ok #[.int .i64 f.num,.string (S f.name),.int .i64 f.card,.int .i64 f.key,.int .i64 f.tk,.string (S f.tn),.string (S f.un),.bool f.hd,.int .i64 f.df.k,.int .u64 f.df.x,.string (S f.df.t),.slice r1 f.df.n1 d1,.slice r2 f.df.n2 d2,.slice r3 f.df.n3 d3,.slice r4 f.df.n4 d4,.slice r5 f.notes.length d5] wr:=run_loadCellsFrom_list Tryz.prog _ _ _ K hK.symm (fun j v hj=>by
    rw [hK,Addr.add_lit]
    exact Bel.some hb (hce j v hj))
   have HK:=h_ hK;clear hK hce hg hnt;have hst:=hx.out;rw [hdr,qka]at hst;have hbox:Bel wr (wr.alloc (.cells #[.int .i64 f.num,.string (S f.name),.int .i64 f.card,.int .i64 f.key,.int .i64 f.tk,.string (S f.tn),.string (S f.un),.bool f.hd,.int .i64 f.df.k,.int .u64 f.df.x,.string (S f.df.t),.slice r1 f.df.n1 d1,.slice r2 f.df.n2 d2,.slice r3 f.df.n3 d3,.slice r4 f.df.n4 d4,.slice r5 f.notes.length d5] 63)):=(Bel.refl wr).alloc _;have CH:=h_ (fun W (kk:Bel (wr.alloc (.cells #[.int .i64 f.num,.string (S f.name),.int .i64 f.card,.int .i64 f.key,.int .i64 f.tk,.string (S f.tn),.string (S f.un),.bool f.hd,.int .i64 f.df.k,.int .u64 f.df.x,.string (S f.df.t),.slice r1 f.df.n1 d1,.slice r2 f.df.n2 d2,.slice r3 f.df.n3 d3,.slice r4 f.df.n4 d4,.slice r5 f.notes.length d5] 63)) W)=>md_has _ xs (S f.un) f.un W (qd5 (qd0 hown (Bel.of hbox kk.out)) (by omega)) (qah _));clear hx hdr;by_cases hu:f.un=[]
   ·rw [if_neg (fun e=>e.1 hu)]at hst
    have hx2:=h_ hst;have hue:(S f.un).toList=[]:=by rw [ByteArray.toList_eq,qah,hu]
    clear hst CH hu
    go_upto_region 5 with(fail)
    all_goals (first|(exfalso;exact absurd HK.out.symm (by assumption))|(have h16:16=K:=(by assumption);subst h16))
    clear l2 aE zE HK;go_wp2;refine⟨⟨k+1,xs,by omega,rfl,hown.alloc _,hb.alloc (by omega) _,by simp;omega,by omega,hx2⟩,by simp [intOf];omega⟩
   ·have hue:(S f.un).toList ≠ []:=by rw [ByteArray.toList_eq,qah];exact hu
    have hue2:(S f.un).toList.isEmpty=false:=by rw [qe6];simpa using hu
    by_cases hh:Id.has xs f.un=true
    ·rw [if_neg (fun e=>by rw [hh]at e;cases e.2)]at hst
     have hx2:=h_ hst;rw [hh]at CH;clear hst hh hu
     go_upto_region 5 with(fail)
     all_goals (first|(exfalso;exact absurd HK.out.symm (by assumption))|(have h16:16=K:=(by assumption);subst h16))
     clear l2 aE zE HK
     go_wp2_with (go_at_call 54;(with_reducible refine(CH.out _ (by(repeat (first|(with_reducible assumption)|(with_reducible exact Bel.refl _)|(with_reducible refine Bel.drew ?_)|(with_reducible refine Bel.drewN ?_ _)|(with_reducible refine Bel.alloc ?_ _)|((with_reducible refine qa8 ?_ ?hge);(case hge=>(first|omega|(simp;omega)))))))).mono ?_);rintro e w1 ⟨rfl,rfl⟩)
     refine⟨⟨k+1,xs,by omega,rfl,hown.alloc _,hb.alloc (by omega) _,by simp;omega,by omega,hx2⟩,by simp [intOf];omega⟩
    ·have hh2:Id.has xs f.un=false:=by simpa using hh
     rw [if_pos ⟨hu,hh2⟩]at hst;have hx2:=h_ hst;rw [hh2]at CH;clear hst hh hh2 hu
     go_upto_region 5 with(fail)
     all_goals (first|(exfalso;exact absurd HK.out.symm (by assumption))|(have h16:16=K:=(by assumption);subst h16))
     clear l2 aE zE HK
     go_wp2_with (first
      | (go_at_call 54;(with_reducible refine(CH.out _ (by(repeat (first|(with_reducible assumption)|(with_reducible exact Bel.refl _)|(with_reducible refine Bel.drew ?_)|(with_reducible refine Bel.drewN ?_ _)|(with_reducible refine Bel.alloc ?_ _)|((with_reducible refine qa8 ?_ ?hge);(case hge=>(first|omega|(simp;omega)))))))).mono ?_);rintro e w1 ⟨rfl,rfl⟩)
      | (at_builtin;refine wpList_append_own _ rfl _ _ 37 rfl w.heap.size 9 i0 (.string ByteArray.empty) 1 16 Tryz.underlying37 hi hz0 hz1 hz2 rfl (by decide) _ _ _ rfl ((hown.alloc _).alloc _) ⟨wr.heap.size+1,0,none⟩ 1 1 [.string (S f.un)] rfl rfl (qh8 _ _ _ _) (by simp [Value.oneCell']) (by unfold maxLen;omega) (by omega) (by simp;omega) ?_))
     intro v' w1 hown1 hgrow _;have hb1:=(((hb.alloc (by omega) (.cells #[.int .i64 f.num,.string (S f.name),.int .i64 f.card,.int .i64 f.key,.int .i64 f.tk,.string (S f.tn),.string (S f.un),.bool f.hd,.int .i64 f.df.k,.int .u64 f.df.x,.string (S f.df.t),.slice r1 f.df.n1 d1,.slice r2 f.df.n2 d2,.slice r3 f.df.n3 d3,.slice r4 f.df.n4 d4,.slice r5 f.notes.length d5] 63)).alloc (by simp;omega) (.cells #[.string (S f.un)] 9))).grown hgrow (by simp;omega) (fun g hg=>(hown.lt g hg).1)
     have hown2:w1.ownsRow w.heap.size 9 1 v' (xs ++ [f.un]).length (nmC (xs ++ [f.un])):=by
      rw [show nmC (xs ++ [f.un])=nmC xs ++ [.string (S f.un)]by unfold nmC;simp,List.length_append];exact hown1
     have hz:=hgrow.size;clear hgrow hown1;go_wp2;refine⟨⟨k+1,xs ++ [f.un],by omega,rfl,hown2,hb1,by simp at hz;omega,by simp;omega,hx2⟩,by simp [intOf];omega⟩
  ·have hkl:k=m.fields.length:=by omega
   have hxe:xs=T:=by have:=hx.out;rw [hkl,List.drop_length]at this;exact this
   subst hxe;subst hkl;clear hx V EL;go_wp2;go_ret;exact⟨_,rfl,hown,hb⟩
end
section
open Go.RowKit Ck Md
theorem qhr:(Tryz.prog.info? 47).map (fun i=>(i.zero,i.size,i.bytes))=some (some (.agg #[.int .i64 0,.string ByteArray.empty,.string ByteArray.empty,.slice none 0 0]),4,64):=by kernel_rfl
def MK (w0:World) (g:Nat) (a b c:Value) (D:List PDecl) (M:List Value) (R:List Row) (X:List Box) (w:World):Prop := ∃vn vw vo,
 ST w0 (⟨9,1,vn,D.length,nmC (D.map (·.name))⟩ :: ⟨119,2,vw,D.length,D.flatMap whC⟩ :: ⟨47,4,vo,D.length,outC D M⟩ :: R) (⟨g,#[a,b,c,vn,vw,vo],89⟩ :: X) w
theorem outC_nil (D:List PDecl) (d:PDecl):outC (D ++ [d]) []=outC D [] ++ [.int .i64 d.kind,.string (S d.name),.string (S d.frm),.slice none 0 0]:=by
 induction D with
 | nil=>rfl
 | cons a D ih=>simp [outC,ih]
def DclPost (w0:World) (g:Nat) (a b c:Value) (D:List PDecl) (R:List Row) (X:List Box) (U:Str) (e:Ending) (w':World):Prop:=e=.returned (.string (S U))/\MK w0 g a b c D [] R X w'
theorem qe4 (w0:World) (g:Nat) (a b c:Value) (D:List PDecl) (R:List Row) (X:List Box) (kd:Int) (name fr:Str) (w:World) (h:MK w0 g a b c D [] R X w) (hP:PT w0) (hn:name.length<=4000000000) (hk:D.length<=1000000000) :
  Calls Tryz.prog 36 #[.pointer (some ⟨g,0,none⟩),.int .i64 kd,.string (S name),.string (S fr)] w (DclPost w0 g a b c (addD D kd name fr) R X (qbl (D.map (·.name)) name)):=by
 obtain⟨vn,vw,vo,h⟩:=h;obtain⟨i1,hi1,hy0,hy1,hy2⟩:=info_parts qhr;have hle:(D.map (·.name)).length=D.length:=List.length_map _;have CA:=h_ (md_addT w0 _ X g 89 a b c vo vn vw (D.map (·.name)) (D.flatMap whC) name kd fr w (by rw [hle];exact h) hP hn (by rw [hle];exact hk));have c5:w.cell? ⟨g,3,none⟩=some vn:=h.cell 0 rfl 3;unfold addD;have HM:=h_ (fun U=>show(D ++ [(⟨kd,U,fr,[]⟩:PDecl)]).map (·.name)=D.map (·.name) ++ [U]by simp);generalize hU:qbl (D.map (·.name)) name=U at CA;clear h hU
 go_enter Tryz.func36,Tryz.ntmps36
 go_upto_region 2 with(go_at_call 59;(with_reducible refine CA.out.mono ?_);rintro e w1 ⟨vn',vw',rfl,h1⟩)
 have e0:w1.cell? ⟨g,5,none⟩=some vo:=h1.cell 0 rfl 5;have hs1:=(h1.boxlt 0 rfl).2;have H2:=h_ (h1.belw ((Bel.refl w1).alloc (.cells #[.int .i64 kd,.string (S U),.string (S fr),.slice none 0 0] 47)));clear h1 CA c5
 go_wp2_with (at_builtin;refine wpList_append_lies _ rfl _ _ 28 rfl w0.heap.size 47 i1 (.agg #[.int .i64 0,.string ByteArray.empty,.string ByteArray.empty,.slice none 0 0]) 4 64 Tryz.underlying28 hi1 hy0 hy1 hy2 rfl (by decide) vo D.length _ rfl (H2.out.row 2 rfl) ⟨w1.heap.size,0,none⟩ 1 1 [.int .i64 kd,.string (S U),.string (S fr),.slice none 0 0] rfl rfl (qaz _ _ _) (by simp [Value.oneCell']) (by decide) (by unfold maxLen;omega) (by omega) H2.out.bel.size (w1.heap.size+1) (by simp) ?_)
 intro g3 cap3 w4 hown hgrow hfr hlt2;have H7:=H2.out.grow 2 rfl hgrow hown (qby hfr (by simp));have e2:w4.cell? ⟨g,5,none⟩=some vo:=H7.cell 0 rfl 5;have z2:w4.frozen? ⟨g,5,none⟩=false:=H7.frz 0 rfl 5;have H8:=h_ (H7.setbox 0 rfl 5 (.slice (some ⟨g3,0,none⟩) (D.length+1) cap3));clear H2 H7 hown hgrow hfr hlt2;go_wp2;go_ret;refine⟨rfl,vn',vw',.slice (some ⟨g3,0,none⟩) (D.length+1) cap3,?_⟩;have hR:=H8.out;have hfm:(D ++ [(⟨kd,U,fr,[]⟩:PDecl)]).flatMap whC=D.flatMap whC ++ [.int .i64 kd,.string (S fr)]:=by rw [List.flatMap_append];rfl
 rw [HM.out,outC_nil,hfm,List.length_append,List.length_singleton];rw [hle]at hR;exact hR
end
section
open Go.RowKit Ck Md
theorem ieq2 {a b:Int} (h:a=b):(a == b)=true:=beq_iff_eq.2 h
theorem ine2 {a b:Int} (h:a ≠ b):(a == b)=false:=beq_eq_false_iff_ne.2 h
theorem qii (g:Nat) (D:List PDecl) (tk:Int) (tn:Str) (w:World) (h:NM w g D) :
  Calls Tryz.prog 65 #[.pointer (some ⟨g,0,none⟩),.agg #[.int .i64 tk,.string (S tn)]] w fun e w'=>e=.returned (.string (S (element D tk tn)))/\Bel w w':=by
 have CN:=h_ (fun W (kk:Bel w W) k=>qkx g D k tn W (h.bel kk));have kw:Bel w (w.alloc (.cells #[.int .i64 tk,.string (S tn)] 54)):=(Bel.refl w).alloc _;have b0:(w.alloc (.cells #[.int .i64 tk,.string (S tn)] 54)).cell? ⟨w.heap.size,0,none⟩=some (.int .i64 tk):=by rw [World.cell?_alloc_at _ _ _ _ rfl];rfl
 have b1:(w.alloc (.cells #[.int .i64 tk,.string (S tn)] 54)).cell? ⟨w.heap.size,1,none⟩=some (.string (S tn)):=by rw [World.cell?_alloc_at _ _ _ _ rfl];rfl
 have hgl:g<w.heap.size:=by
  obtain⟨vn,vw,h1,_⟩:=h;exact World.block_lt_of_cell? w _ h1
 clear h;have hV : ∀T,T=element D tk tn->element D tk tn=T:=fun T h=>h.symm
 unfold Md.element;by_cases h10:tk=10
 ·rw [if_pos h10]
  have e10:=ieq2 h10;have C:=h_ (fun W (kk:Bel w W)=>CN.out W kk 1);generalize qcg D 1 tn=U at C;clear CN hV h10
  go_enter Tryz.func65,Tryz.ntmps65
  go_upto_region 3 with(fail)
  obtain⟨wd,hwd⟩ : ∃wd,wd=(w.alloc (.cells #[.int .i64 tk,.string (S tn)] 54)).drew:=⟨_,rfl⟩;have kd:Bel w wd:=by rw [hwd];exact kw.drew
  have y1:wd.cell? ⟨w.heap.size,1,none⟩=some (.string (S tn)):=by rw [hwd];exact b1
  have hl:w.heap.size<wd.heap.size:=by rw [hwd];simp
  have HWD:=h_ hwd;clear hwd b0 b1 kw;refine qae 6 (by kernel_rfl) (by kernel_rfl) HWD.out ?_
  (simp only [t_1,t_2,t_3,t_4]);(repeat (first|((with_reducible refine wpStill_step (fun K hK=>?_));go_simp;(with_reducible refine hK _ ?_);clear hK K)|((with_reducible refine qaa ?_ ?_);(with_unfolding_all rfl))));(with_reducible refine wpStill_nil ?_)
  go_wp2_with (go_at_call 64;(with_reducible refine(C.out _ kd).mono ?_);rintro e w1 ⟨rfl,k1⟩)
  go_ret;exact⟨rfl,Bel.of kd k1.out⟩
 ·rw [if_neg h10]
  have e10:=ine2 h10;by_cases h9:tk=9
  ·rw [if_pos h9]
   have e9:=ieq2 h9;have C:=h_ (fun W (kk:Bel w W)=>CN.out W kk 3);generalize qcg D 3 tn=U at C;clear CN hV h10 h9
   go_enter Tryz.func65,Tryz.ntmps65
   go_upto_region 5 with(fail)
   obtain⟨wd,hwd⟩ : ∃wd,wd=(w.alloc (.cells #[.int .i64 tk,.string (S tn)] 54)).drew:=⟨_,rfl⟩;have kd:Bel w wd:=by rw [hwd];exact kw.drew
   have y1:wd.cell? ⟨w.heap.size,1,none⟩=some (.string (S tn)):=by rw [hwd];exact b1
   have hl:w.heap.size<wd.heap.size:=by rw [hwd];simp
   have HWD:=h_ hwd;clear hwd b0 b1 kw;refine qae 6 (by kernel_rfl) (by kernel_rfl) HWD.out ?_
   (simp only [t_1,t_2,t_3,t_4]);(repeat (first|((with_reducible refine wpStill_step (fun K hK=>?_));go_simp;(with_reducible refine hK _ ?_);clear hK K)|((with_reducible refine qaa ?_ ?_);(with_unfolding_all rfl))));(with_reducible refine wpStill_nil ?_)
   go_wp2_with (go_at_call 64;(with_reducible refine(C.out _ kd).mono ?_);rintro e w1 ⟨rfl,k1⟩)
   go_ret;exact⟨rfl,Bel.of kd k1.out⟩
  ·rw [if_neg h9]
   have e9:=ine2 h9;have C:=h_ (fun W=>md_word tk W);generalize Md.word tk=U at C;clear CN hV h9 h10
   go_enter Tryz.func65,Tryz.ntmps65
   go_wp2_with (go_at_call 93;(with_reducible refine(C.out _).mono ?_);rintro e w1 ⟨rfl,rfl⟩)
   go_ret;exact⟨rfl,kw⟩
end
section
open Go.RowKit Ck Md
theorem qj2 (k:Int):(Md.word k).length<=6:=by
 unfold Md.word
 (repeat' split) <;> decide
theorem md_field (g:Nat) (D:List PDecl) (f:PField) (r1 r2 r3 r4 r5:Option Addr) (d1 d2 d3 d4 d5:Nat) (w:World) (h:NM w g D) (hl:(element D f.tk f.tn).length<=1000000000) :
  Calls Tryz.prog 63 #[.pointer (some ⟨g,0,none⟩),.agg #[.int .i64 f.num,.string (S f.name),.int .i64 f.card,.int .i64 f.key,.int .i64 f.tk,.string (S f.tn),.string (S f.un),.bool f.hd,.int .i64 f.df.k,.int .u64 f.df.x,.string (S f.df.t),.slice r1 f.df.n1 d1,.slice r2 f.df.n2 d2,.slice r3 f.df.n3 d3,.slice r4 f.df.n4 d4,.slice r5 f.notes.length d5]] w fun e w'=>e=.returned (.string (S (qit D f)))/\Bel w w':=by
 have CN:=h_ (fun W (kk:Bel w W)=>qii g D f.tk f.tn W (h.bel kk));have CW:=h_ (fun W=>md_word f.key W);have hw:=qj2 f.key;have kw:Bel w (w.alloc (.cells #[.int .i64 f.num,.string (S f.name),.int .i64 f.card,.int .i64 f.key,.int .i64 f.tk,.string (S f.tn),.string (S f.un),.bool f.hd,.int .i64 f.df.k,.int .u64 f.df.x,.string (S f.df.t),.slice r1 f.df.n1 d1,.slice r2 f.df.n2 d2,.slice r3 f.df.n3 d3,.slice r4 f.df.n4 d4,.slice r5 f.notes.length d5] 63)):=(Bel.refl w).alloc _;have HV:=h_ (show qit D f=qei f.card (Md.word f.key) (element D f.tk f.tn)from rfl);clear h;generalize qit D f=T at HV;generalize element D f.tk f.tn=E at CN HV hl;generalize Md.word f.key=WW at CW HV hw;have zE:(S E).size=E.length:=qai _;have zW:(S WW).size=WW.length:=qai _;by_cases h2:f.card=2
 ·have e2:=ieq2 h2
  have hT:=h_ (show T=[63] ++ E by rw [HV.out];unfold qei;rw [if_pos h2];try rfl);clear HV h2
  go_enter Tryz.func63,Tryz.ntmps63
  go_wp2_with (first
   | (go_at_call 65;(with_reducible refine(CN.out _ kw).mono ?_);rintro e w1 ⟨rfl,k1⟩;have c2:w1.cell? ⟨w.heap.size,2,none⟩=some (.int .i64 f.card):=k1.some (by rw [World.cell?_alloc_at _ _ _ _ rfl];rfl);have c3:w1.cell? ⟨w.heap.size,3,none⟩=some (.int .i64 f.key):=k1.some (by rw [World.cell?_alloc_at _ _ _ _ rfl];rfl))
   | (go_at_call 93;(with_reducible refine(CW.out _).mono ?_);rintro e w2 ⟨rfl,rfl⟩))
  go_ret;exact⟨qay (by rw [hT.out];simp only [←S_app];rfl),Bel.of kw k1.out⟩
 have e2:=ine2 h2;by_cases h4:f.card=4
 ·have e4:=ieq2 h4
  have hT:=h_ (show T=[91,93] ++ E by rw [HV.out];unfold qei;rw [if_neg h2,if_pos h4];try rfl);clear HV h4 h2
  go_enter Tryz.func63,Tryz.ntmps63
  go_wp2_with (first
   | (go_at_call 65;(with_reducible refine(CN.out _ kw).mono ?_);rintro e w1 ⟨rfl,k1⟩;have c2:w1.cell? ⟨w.heap.size,2,none⟩=some (.int .i64 f.card):=k1.some (by rw [World.cell?_alloc_at _ _ _ _ rfl];rfl);have c3:w1.cell? ⟨w.heap.size,3,none⟩=some (.int .i64 f.key):=k1.some (by rw [World.cell?_alloc_at _ _ _ _ rfl];rfl))
   | (go_at_call 93;(with_reducible refine(CW.out _).mono ?_);rintro e w2 ⟨rfl,rfl⟩))
  go_ret;exact⟨qay (by rw [hT.out];simp only [←S_app];rfl),Bel.of kw k1.out⟩
 have e4:=ine2 h4;by_cases h5:f.card=5
 ·have e5:=ieq2 h5
  have hT:=h_ (show T=[109,97,112,91] ++ WW ++ [93] ++ E by rw [HV.out];unfold qei;rw [if_neg h2,if_neg h4,if_pos h5];try rfl);clear HV h5 h2 h4
  go_enter Tryz.func63,Tryz.ntmps63
  go_wp2_with (first
   | (go_at_call 65;(with_reducible refine(CN.out _ kw).mono ?_);rintro e w1 ⟨rfl,k1⟩;have c2:w1.cell? ⟨w.heap.size,2,none⟩=some (.int .i64 f.card):=k1.some (by rw [World.cell?_alloc_at _ _ _ _ rfl];rfl);have c3:w1.cell? ⟨w.heap.size,3,none⟩=some (.int .i64 f.key):=k1.some (by rw [World.cell?_alloc_at _ _ _ _ rfl];rfl))
   | (go_at_call 93;(with_reducible refine(CW.out _).mono ?_);rintro e w2 ⟨rfl,rfl⟩))
  go_ret;exact⟨qay (by rw [hT.out];simp only [←S_app];rfl),Bel.of kw k1.out⟩
 have e5:=ine2 h5;have hT:=h_ (show T=E by rw [HV.out];unfold qei;rw [if_neg h2,if_neg h4,if_neg h5]);clear HV h2 h4 h5
 go_enter Tryz.func63,Tryz.ntmps63
 go_wp2_with (go_at_call 65;(with_reducible refine(CN.out _ kw).mono ?_);rintro e w1 ⟨rfl,k1⟩;have c2:w1.cell? ⟨w.heap.size,2,none⟩=some (.int .i64 f.card):=k1.some (by rw [World.cell?_alloc_at _ _ _ _ rfl];rfl);have c3:w1.cell? ⟨w.heap.size,3,none⟩=some (.int .i64 f.key):=k1.some (by rw [World.cell?_alloc_at _ _ _ _ rfl];rfl))
 go_ret;exact⟨qay (by rw [hT.out]),Bel.of kw k1.out⟩
end
section
open Go.RowKit Ck Md
theorem qfe:(Tryz.prog.info? 80).map (fun i=>(i.zero,i.size,i.bytes))=some (some (.agg #[.string ByteArray.empty,.string ByteArray.empty,.int .i64 0]),3,40):=by kernel_rfl
def memR (vn vw v:Value) (out:List PMem) (R:List Row):List Row:=⟨9,1,vn,(out.map (·.name)).length,nmC (out.map (·.name))⟩ :: ⟨3,1,vw,(out.map (·.name)).length,out.map (fun x=>.int .i64 x.num)⟩ :: ⟨80,3,v,out.length,out.flatMap memC⟩ :: R
def qj1 (w:World) (l:List PMem) (e:Ending) (w':World):Prop := ∃v,e=.returned v/\w'.ownsRow w.heap.size 80 3 v l.length (l.flatMap memC)/\Bel w w'
theorem qd6 (vn vw v:Value) (out:List PMem) (U ty:Str) (x:Int) (R:List Row) :
  (⟨9,1,vn,(out.map (·.name)).length+1,nmC (out.map (·.name) ++ [U])⟩ :: ⟨3,1,vw,(out.map (·.name)).length+1,out.map (fun x=>Value.int .i64 x.num) ++ [.int .i64 x]⟩ :: ⟨80,3,v,out.length+1,out.flatMap memC ++ [.string (S U),.string (S ty),.int .i64 x]⟩ :: R:List Row)=memR vn vw v (out ++ [⟨U,ty,x⟩]) R:=by
 unfold memR;simp [memC]
theorem qfy (out:List PMem) (n ty:Str) (x:Int):addM out n ty x=out ++ [⟨qbl (out.map (·.name)) (Id.camel n),ty,x⟩]:=rfl
theorem qqf (g:Nat) (D:List PDecl) (mn:Str) (mq1 mq2 mq3 mq4:Option Addr) (mm1 mm2 mm3 mm4 mc1 mc2 mc3 mc4:Nat) (m:PMsg) (u:Str) (w:World) (h:NM w g D) (hv:VMsg w [.string (S mn),.slice mq1 mm1 mc1,.slice mq2 mm2 mc2,.slice mq3 mm3 mc3,.slice mq4 mm4 mc4] m) (hP:PT w) (hM:ML w) (hfn:m.fields.length<=2000000) (hfl : ∀f ∈ m.fields,f.name.length<=100000000) :
  Calls Tryz.prog 41 #[.pointer (some ⟨g,0,none⟩),.agg #[.string (S mn),.slice mq1 mm1 mc1,.slice mq2 mm2 mc2,.slice mq3 mm3 mc3,.slice mq4 mm4 mc4],.string (S u)] w (qj1 w (qdk D m u)):=by
 obtain⟨i1,hi1,hy0,hy1,hy2⟩:=info_parts qfe;obtain⟨_,_,_,_,hcm,hm1,_,_,_⟩:=hv;cases hcm;obtain⟨q,c,hq,hl,hcap,hel⟩:=hm1;cases hq;have V:=h_ (show chGo D u [] (m.fields.drop 0)=qdk D m u from rfl);generalize qdk D m u=T at V;have EL:=h_ hel;have HF:=h_ hfl;have HNM:=h_ (fun W (kk:Bel w W)=>h.bel kk);clear hel hfl h;have hS0:=h_ (((((ST.start w).addbox #[.string (S m.name),.slice mq1 m.fields.length mc1,.slice mq2 mm2 mc2,.slice mq3 mm3 mc3,.slice mq4 mm4 mc4] 44).addbox #[.slice none 0 0,.slice none 0 0] 97).nilrow 80 3).nilrow 3 1 |>.nilrow 9 1)
 go_enter Tryz.func41,Tryz.ntmps41
 go_wp2
 go_loopw [8,14] (fun v i wr => ∃(k:Nat) (out:List PMem) (vn vw vo:Value),vo=v/\k<=m.fields.length/\i=.int .i64 k/\Hid (ST w (memR vn vw vo out []) [⟨w.heap.size+1,#[vn,vw],97⟩,⟨w.heap.size,#[.string (S m.name),.slice mq1 m.fields.length mc1,.slice mq2 mm2 mc2,.slice mq3 mm3 mc3,.slice mq4 mm4 mc4],44⟩] wr)/\out.length<=k/\Hid (chGo D u out (m.fields.drop k)=T)) (fun _ i _=>m.fields.length-(intOf i).toNat)
 case atStart=>exact⟨0,[],.slice none 0 0,.slice none 0 0,.slice none 0 0,rfl,by omega,rfl,h_ (by have:=hS0.out;simpa [memR,nmC]using this),by simp,V⟩
 case round=>
  clear hS0;obtain⟨k,out,vn,vw,vo,rfl,hk,rfl,hSH,hol,hx⟩:=hrel;have hST:=hSH.out;have hfr:=(hST.boxlt 0 rfl).2;by_cases hlt:k<m.fields.length
  ·have hg2:=List.getElem?_eq_getElem hlt
   obtain⟨b,off,rfl,hbs,vs,hce,hvs⟩:=EL.out k _ hg2;have hdr:m.fields.drop k=m.fields[k] :: m.fields.drop (k+1):=List.drop_eq_getElem_cons hlt;obtain⟨_,_,hvs1,⟨r1,r2,r3,r4,d1,d2,d3,d4,hvv,_⟩,hnt⟩:=hvs;obtain⟨r5,d5,hnv,hnl⟩:=qa5 hnt;subst hvs1 hvv hnv;have hfb:=HF.out _ (List.getElem_mem hlt);generalize m.fields[k]=f at *;have hki:(k:Int)<(m.fields.length:Int):=by omega
   have aE:=qas;obtain⟨K,hK⟩ : ∃K,K=16:=⟨_,rfl⟩;have zE : ∀w,(Go.sizeOf 63).run Tryz.prog w=.ok K w:=hK ▸ qal
   have l2:Sem.run Tryz.prog (loadCellsFrom ⟨b,off+k*K,none⟩ 0 K #[]) wr=.ok #[.int .i64 f.num,.string (S f.name),.int .i64 f.card,.int .i64 f.key,.int .i64 f.tk,.string (S f.tn),.string (S f.un),.bool f.hd,.int .i64 f.df.k,.int .u64 f.df.x,.string (S f.df.t),.slice r1 f.df.n1 d1,.slice r2 f.df.n2 d2,.slice r3 f.df.n3 d3,.slice r4 f.df.n4 d4,.slice r5 f.notes.length d5] wr:=run_loadCellsFrom_list Tryz.prog _ _ _ K hK.symm (fun j v hj=>by
    rw [hK,Addr.add_lit]
    exact Bel.some hST.bel (hce j v hj))
   have HK:=h_ hK;clear hK hce hg2 hnt;have hst:=hx.out;rw [hdr]at hst;unfold chGo at hst;clear hx hdr;by_cases hu:f.un=u
   ·rw [if_pos hu,qfy]at hst
    have hue:((S f.un).toList == (S u).toList)=true:=by rw [ByteArray.toList_eq,ByteArray.toList_eq,qah,qah,hu];simp
    have HA:=h_ (hST.addbox #[.int .i64 f.num,.string (S f.name),.int .i64 f.card,.int .i64 f.key,.int .i64 f.tk,.string (S f.tn),.string (S f.un),.bool f.hd,.int .i64 f.df.k,.int .u64 f.df.x,.string (S f.df.t),.slice r1 f.df.n1 d1,.slice r2 f.df.n2 d2,.slice r3 f.df.n3 d3,.slice r4 f.df.n4 d4,.slice r5 f.notes.length d5] 63);have hol2:(out.map (·.name)).length<=1000000000:=by rw [List.length_map];omega
    have cam:=h_ (fun W (kk:Bel w W)=>qdq (S f.name) f.name W (qah _) (by rw [qai];exact hfb) (hM.below kk.out));have hcl:=qc0 f.name;have CE:=h_ (fun W (kk:Bel w W)=>qii g D f.tk f.tn W (HNM.out W kk));generalize element D f.tk f.tn=E at CE hst;generalize Id.camel f.name=CN at cam hcl hst;generalize hU:qbl (out.map (·.name)) CN=U at hst;have HU:=h_ hU;have HST2:=h_ hst;clear hU hst hu hST hSH
    go_upto_region 7 with(fail)
    all_goals (first|(exfalso;exact absurd HK.out.symm (by assumption))|(have h16:16=K:=(by assumption);subst h16))
    clear l2 aE zE HK;obtain⟨wd,hwd⟩ : ∃wd,wd=(wr.alloc (.cells #[.int .i64 f.num,.string (S f.name),.int .i64 f.card,.int .i64 f.key,.int .i64 f.tk,.string (S f.tn),.string (S f.un),.bool f.hd,.int .i64 f.df.k,.int .u64 f.df.x,.string (S f.df.t),.slice r1 f.df.n1 d1,.slice r2 f.df.n2 d2,.slice r3 f.df.n3 d3,.slice r4 f.df.n4 d4,.slice r5 f.notes.length d5] 63)).drew:=⟨_,rfl⟩;have HD:=h_ (show ST w _ _ wd by rw [hwd];exact HA.out.belw (Bel.refl _).drew);have HWD:=h_ hwd;clear hwd HA;have SS:=h_ (fun(R:List Row) (X:List Box) (W:World) (hs:ST w R X W) (i:Nat) (hi:X[i]? = some ⟨wr.heap.size,#[.int .i64 f.num,.string (S f.name),.int .i64 f.card,.int .i64 f.key,.int .i64 f.tk,.string (S f.tn),.string (S f.un),.bool f.hd,.int .i64 f.df.k,.int .u64 f.df.x,.string (S f.df.t),.slice r1 f.df.n1 d1,.slice r2 f.df.n2 d2,.slice r3 f.df.n3 d3,.slice r4 f.df.n4 d4,.slice r5 f.notes.length d5],63⟩)=>show W.cell? ⟨wr.heap.size,1,none⟩=some (.string (S f.name))/\W.cell? ⟨wr.heap.size,0,none⟩=some (.int .i64 f.num)/\W.cell? ⟨wr.heap.size,4,none⟩=some (.int .i64 f.tk)/\W.cell? ⟨wr.heap.size,5,none⟩=some (.string (S f.tn))from⟨hs.cell i hi 1,hs.cell i hi 0,hs.cell i hi 4,hs.cell i hi 5⟩);refine qak (fun W=>W.cell? ⟨wr.heap.size,1,none⟩=some (.string (S f.name))/\W.cell? ⟨wr.heap.size,0,none⟩=some (.int .i64 f.num)/\W.cell? ⟨wr.heap.size,4,none⟩=some (.int .i64 f.tk)/\W.cell? ⟨wr.heap.size,5,none⟩=some (.string (S f.tn))) [(0,true),(1,true),(2,true),(4,true),(5,true),(7,true),(8,true),(9,true),(11,true),(12,true),(3,false),(6,false),(10,false),(13,true),(14,false)] 15 (by kernel_rfl) (by kernel_rfl) HWD.out (SS.out _ _ _ HD.out 0 rfl) ?_;simp only [qb3,List.getElem?_cons_zero,List.getElem?_cons_succ]
    (with_reducible refine qa1 (v:=?vv170) (by with_unfolding_all rfl) (fun W hW=>?hy170) ?hr170);(case hy170=>((try dsimp only at hW);go_simp;(all_goals with_reducible rfl)));(simp only [Act.put,z_1,z_2,z_3])
    (with_reducible refine qa1 (v:=?vv171) (by with_unfolding_all rfl) (fun W hW=>?hy171) ?hr171);(case hy171=>((try dsimp only at hW);go_simp;(all_goals with_reducible rfl)));(simp only [Act.put,z_1,z_2,z_3])
    (with_reducible refine qa1 (v:=?vv172) (by with_unfolding_all rfl) (fun W hW=>?hy172) ?hr172);(case hy172=>((try dsimp only at hW);go_simp;(all_goals with_reducible rfl)));(simp only [Act.put,z_1,z_2,z_3])
    (with_reducible refine qa1 (v:=?vv173) (by with_unfolding_all rfl) (fun W hW=>?hy173) ?hr173);(case hy173=>((try dsimp only at hW);go_simp;(all_goals with_reducible rfl)));(simp only [Act.put,z_1,z_2,z_3])
    (with_reducible refine qa1 (v:=?vv174) (by with_unfolding_all rfl) (fun W hW=>?hy174) ?hr174);(case hy174=>((try dsimp only at hW);go_simp;(all_goals with_reducible rfl)));(simp only [Act.put,z_1,z_2,z_3])
    (with_reducible refine qa1 (v:=?vv175) (by with_unfolding_all rfl) (fun W hW=>?hy175) ?hr175);(case hy175=>((try dsimp only at hW);go_simp;(all_goals with_reducible rfl)));(simp only [Act.put,z_1,z_2,z_3])
    (with_reducible refine qa1 (v:=?vv176) (by with_unfolding_all rfl) (fun W hW=>?hy176) ?hr176);(case hy176=>((try dsimp only at hW);go_simp;(all_goals with_reducible rfl)));(simp only [Act.put,z_1,z_2,z_3])
    (with_reducible refine qa1 (v:=?vv177) (by with_unfolding_all rfl) (fun W hW=>?hy177) ?hr177);(case hy177=>((try dsimp only at hW);go_simp;(all_goals with_reducible rfl)));(simp only [Act.put,z_1,z_2,z_3])
    (with_reducible refine qa1 (v:=?vv178) (by with_unfolding_all rfl) (fun W hW=>?hy178) ?hr178);(case hy178=>((try dsimp only at hW);go_simp;(all_goals with_reducible rfl)));(simp only [Act.put,z_1,z_2,z_3])
    (with_reducible refine qa1 (v:=?vv179) (by with_unfolding_all rfl) (fun W hW=>?hy179) ?hr179);(case hy179=>((try dsimp only at hW);go_simp;(all_goals with_reducible rfl)));(simp only [Act.put,z_1,z_2,z_3])
    with_reducible refine qaj (fun K hK=>?_)
    go_simp
    with_reducible refine(cam.out _ HD.out.bel).mono ?_
    rintro e w1 ⟨rfl,g1⟩;have H1:=h_ (HD.out.belw g1).swapX;refine hK _ _ (SS.out _ _ _ H1.out 1 rfl) ?_;clear hK K g1 HD cam
    (try simp only [Act.put,z_1,z_2,z_3])
    have ADD:=h_ (qeq w _ _ _ _ vn vw (out.map fun x:PMem=>x.name) _ CN f.num w1 H1.out hP (by omega) hol2);rw [HU.out]at ADD
    with_reducible refine qaj (fun K hK=>?_)
    go_simp
    with_reducible refine ADD.out.mono ?_
    rintro e w2 ⟨vn',vw',rfl,h2⟩;have H2:=h_ h2;refine hK _ _ (SS.out _ _ _ H2.out 1 rfl) ?_;clear hK K h2 ADD H1
    (try simp only [Act.put,z_1,z_2,z_3])
    with_reducible refine qaj (fun K hK=>?_)
    go_simp
    with_reducible refine(CE.out _ H2.out.bel).mono ?_
    rintro e w3 ⟨rfl,g3⟩;have H3:=h_ (H2.out.belw g3);refine hK _ _ (SS.out _ _ _ H3.out 1 rfl) ?_;clear hK K g3 H2 CE
    (try simp only [Act.put,z_1,z_2,z_3])
    (with_reducible refine qa1 (v:=?vv180) (by with_unfolding_all rfl) (fun W hW=>?hy180) ?hr180);(case hy180=>((try dsimp only at hW);go_simp;(all_goals with_reducible rfl)));(simp only [Act.put,z_1,z_2,z_3])
    with_reducible refine qaj (fun K hK=>?_)
    go_simp;have H4:=h_ (H3.out.belw ((Bel.refl w3).alloc (.cells #[.string (S U),.string (S E),.int .i64 f.num] 80)))
    refine hK _ _ (SS.out _ _ _ H4.out 1 rfl) ?_;clear hK K H3
    (try simp only [Act.put,z_1,z_2,z_3])
    refine qbm ?_;simp only [t_3,t_4];have hol3:out.length<=2000000:=by omega
    go_wp2_with (at_builtin;refine wpList_append_lies _ rfl _ _ 45 rfl w.heap.size 80 i1 (.agg #[.string ByteArray.empty,.string ByteArray.empty,.int .i64 0]) 3 40 Tryz.underlying45 hi1 hy0 hy1 hy2 rfl (by decide) vo out.length _ rfl (H4.out.row 2 rfl) ⟨w3.heap.size,0,none⟩ 1 1 [.string (S U),.string (S E),.int .i64 f.num] rfl rfl (qaz _ _ _) (by simp [Value.oneCell']) (by decide) (by unfold maxLen;omega) (by omega) H4.out.bel.size (w3.heap.size+1) (by simp) ?_)
    intro g3 cap3 w4 hown hgrow hfr3 hlt2;have H7:=H4.out.grow 2 rfl hgrow hown (qby hfr3 (by simp));have H8:=h_ (H7.swapX.dropbox0);clear H4 H7 hown hgrow hfr3 hlt2 SS;go_wp2;refine⟨⟨k+1,out ++ [⟨U,E,f.num⟩],vn',vw',_,rfl,by omega,rfl,h_ (by rw [←qd6];exact H8.out),by simp;omega,HST2⟩,by simp [intOf];omega⟩
   ·rw [if_neg hu]at hst
    have hue:((S f.un).toList == (S u).toList)=false:=by rw [ByteArray.toList_eq,ByteArray.toList_eq,qah,qah];simpa using hu
    have HST2:=h_ hst;have HA:=h_ (hST.belw ((Bel.refl wr).alloc (.cells #[.int .i64 f.num,.string (S f.name),.int .i64 f.card,.int .i64 f.key,.int .i64 f.tk,.string (S f.tn),.string (S f.un),.bool f.hd,.int .i64 f.df.k,.int .u64 f.df.x,.string (S f.df.t),.slice r1 f.df.n1 d1,.slice r2 f.df.n2 d2,.slice r3 f.df.n3 d3,.slice r4 f.df.n4 d4,.slice r5 f.notes.length d5] 63)));clear hst hu hSH hST
    go_upto_region 6 with(fail)
    all_goals (first|(exfalso;exact absurd HK.out.symm (by assumption))|(have h16:16=K:=(by assumption);subst h16))
    clear l2 aE zE HK;go_wp2;refine⟨⟨k+1,out,vn,vw,_,rfl,by omega,rfl,HA,by omega,HST2⟩,by simp [intOf];omega⟩
  ·have hkl:k=m.fields.length:=by omega
   have hxe:out=T:=by have:=hx.out;rw [hkl,List.drop_length]at this;exact this
   subst hxe;subst hkl;clear hx V EL;go_wp2;go_ret;exact⟨_,rfl,hST.row 2 rfl,hST.bel⟩
end
end Go.Proofs.YtfoaaglbpmmhiaaGreatDoor
