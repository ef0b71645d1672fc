import Derived.Test.YtfoaaglbpmmhiaaGreatDoorCkSeen
import Derived.Test.YtfoaaglbpmmhiaaGreatDoorKitC
import Derived.Test.YtfoaaglbpmmhiaaGreatDoorKitA
import Derived.Deep.DeepCutAuto
set_option maxRecDepth 100000
set_option maxHeartbeats 4000000
set_option linter.unusedVariables false
set_option linter.unusedSimpArgs false
namespace Go.Proofs.YtfoaaglbpmmhiaaGreatDoor
open Go.RowKit Ck
theorem qcs (xu:Int) (xn:Str) (xca xke xtk:Int) (xtn xun:Str) (xhd:Bool) (xvk xvx:Int) (xvt:Str) (xr1 xr2 xr3 xr4 xr5:Option Addr) (xm1 xd1 xm2 xd2 xm3 xd3 xm4 xd4 xm5 xd5:Nat) (un0:Str) (B:Nat) (W:World) (hB:W.cell? ⟨B,6,none⟩=some (.string (S un0))) :
  Calls Tryz.prog 192 #[.agg #[.int .i64 xu,.string (S xn),.int .i64 xca,.int .i64 xke,.int .i64 xtk,.string (S xtn),.string (S xun),.bool xhd,.int .i64 xvk,.int .u64 xvx,.string (S xvt),.slice xr1 xm1 xd1,.slice xr2 xm2 xd2,.slice xr3 xm3 xd3,.slice xr4 xm4 xd4,.slice xr5 xm5 xd5],.pointer (some ⟨B,0,none⟩)] W fun e w'=>e=.returned (.bool (decide (xn=un0)))/\Below W.heap.size W w':=by
 have hlt:B<W.heap.size:=World.block_lt_of_cell? W _ hB;have hv:=h_ (eq_S xn un0)
 go_enter Tryz.func192,Tryz.ntmps192
 go_wp2;go_ret
 exact⟨qa3 hv.out,(Below.refl _ _).alloc (Nat.le_refl _) _⟩
theorem qcr (xu:Int) (xn:Str) (xca xke xtk:Int) (xtn xun:Str) (xhd:Bool) (xvk xvx:Int) (xvt:Str) (xr1 xr2 xr3 xr4 xr5:Option Addr) (xm1 xd1 xm2 xd2 xm3 xd3 xm4 xd4 xm5 xd5:Nat) (un0:Str) (B:Nat) (W:World) (hB:W.cell? ⟨B,6,none⟩=some (.string (S un0))) :
  Calls Tryz.prog 193 #[.agg #[.int .i64 xu,.string (S xn),.int .i64 xca,.int .i64 xke,.int .i64 xtk,.string (S xtn),.string (S xun),.bool xhd,.int .i64 xvk,.int .u64 xvx,.string (S xvt),.slice xr1 xm1 xd1,.slice xr2 xm2 xd2,.slice xr3 xm3 xd3,.slice xr4 xm4 xd4,.slice xr5 xm5 xd5],.pointer (some ⟨B,0,none⟩)] W fun e w'=>e=.returned (.bool (decide (xun=un0)))/\Below W.heap.size W w':=by
 have hlt:B<W.heap.size:=World.block_lt_of_cell? W _ hB;have hv:=h_ (eq_S xun un0)
 go_enter Tryz.func193,Tryz.ntmps193
 go_wp2;go_ret
 exact⟨qa3 hv.out,(Below.refl _ _).alloc (Nat.le_refl _) _⟩
theorem un_A (i:Nat) (m:PMsg) (mn:Str) (mq1 mq2 mq3 mq4:Option Addr) (mm1 mm2 mm3 mm4 mc1 mc2 mc3 mc4:Nat) (w:World) (hv:VMsg w [.string (S mn),.slice mq1 mm1 mc1,.slice mq2 mm2 mc2,.slice mq3 mm3 mc3,.slice mq4 mm4 mc4] m) (hi:i<m.fields.length) (hun:m.fields[i].un.length<=1000000000000000) (R:Bool) (hR:R=true) (h1:m.fields[i].un=[]) :
  Calls Tryz.prog 160 #[.agg #[.string (S mn),.slice mq1 mm1 mc1,.slice mq2 mm2 mc2,.slice mq3 mm3 mc3,.slice mq4 mm4 mc4],.int .i64 (i:Int)] w fun e w'=>e=.returned (.bool R)/\Below w.heap.size w w':=by
 obtain⟨_,_,_,_,hcm,hm,_⟩:=hv;cases hcm;obtain⟨q,c,hq,hl,hcap,hel⟩:=hm;cases hq;have hg:=List.getElem?_eq_getElem hi;obtain⟨b,off,hbo,hbs,vs,hce,hvs⟩:=hel i _ hg;subst hbo;obtain⟨_,_,hvs1,⟨r1,r2,r3,r4,d1,d2,d3,d4,hvv,hx0,hx1,hb1,hb2,hb3,hb4⟩,hnt⟩:=hvs;obtain⟨r5,d5,hnv,hnl⟩:=qa5 hnt;subst hvs1 hvv hnv
 have hprev : ∀j,i=j+1->∃g:PField,m.fields[i-1]? = some g/\w.cell? ⟨b,off+j*16+6,none⟩=some (.string (S g.un)):=fun j hj=>by
  have hgj:m.fields[j]? = some m.fields[j]:=List.getElem?_eq_getElem (by omega);obtain⟨b',off',he,_,vs2,hce2,hvs2⟩:=hel j _ hgj;cases he;obtain⟨_,_,rfl,⟨_,_,_,_,_,_,_,_,rfl,_⟩,_⟩:=hvs2;have hij:i-1=j:=by omega
  exact⟨_,by rw [hij];exact hgj,hce2 6 _ rfl⟩
 have htake:(m.fields.take i).length=i:=by rw [List.length_take];omega
 generalize m.fields[i]=f at *;have aE:=qas;obtain⟨K,hK⟩ : ∃K,K=16:=⟨_,rfl⟩;have zE : ∀w,(Go.sizeOf 63).run Tryz.prog w=.ok K w:=hK ▸ qal
 have l2:Sem.run Tryz.prog (loadCellsFrom ⟨b,off+i*K,none⟩ 0 K #[]) (w.alloc (.cells #[.string (S m.name),.slice (some ⟨b,off,none⟩) m.fields.length mc1,.slice mq2 mm2 mc2,.slice mq3 mm3 mc3,.slice mq4 mm4 mc4] 44))=.ok #[.int .i64 f.num,.string (S f.name),.int .i64 f.card,.int .i64 f.key,.int .i64 f.tk,.string (S f.tn),.string (S f.un),.bool f.hd,.int .i64 f.df.k,.int .u64 f.df.x,.string (S f.df.t),.slice r1 f.df.n1 d1,.slice r2 f.df.n2 d2,.slice r3 f.df.n3 d3,.slice r4 f.df.n4 d4,.slice r5 f.notes.length d5] (w.alloc (.cells #[.string (S m.name),.slice (some ⟨b,off,none⟩) m.fields.length mc1,.slice mq2 mm2 mc2,.slice mq3 mm3 mc3,.slice mq4 mm4 mc4] 44)):=run_loadCellsFrom_list Tryz.prog _ _ _ K hK.symm (fun j v hj=>by
  rw [hK,Addr.add_lit,World.cell?_alloc_past _ _ _ hbs]
  exact hce j v hj)
 have HK:=h_ hK;clear hK;obtain⟨Wb,hWb⟩ : ∃Wb,Wb=(w.alloc (.cells #[.string (S m.name),.slice (some ⟨b,off,none⟩) m.fields.length mc1,.slice mq2 mm2 mc2,.slice mq3 mm3 mc3,.slice mq4 mm4 mc4] 44)).alloc (.cells #[.int .i64 f.num,.string (S f.name),.int .i64 f.card,.int .i64 f.key,.int .i64 f.tk,.string (S f.tn),.string (S f.un),.bool f.hd,.int .i64 f.df.k,.int .u64 f.df.x,.string (S f.df.t),.slice r1 f.df.n1 d1,.slice r2 f.df.n2 d2,.slice r3 f.df.n3 d3,.slice r4 f.df.n4 d4,.slice r5 f.notes.length d5] 63):=⟨_,rfl⟩;have kb:Bel w Wb:=by rw [hWb];exact((Bel.refl w).alloc _).alloc _
 have hKS : ∀w',Bel Wb w'->w'.cell? ⟨w.heap.size,1,none⟩=some (.slice (some ⟨b,off,none⟩) m.fields.length mc1)/\w'.cell? ⟨w.heap.size+1,2,none⟩=some (.int .i64 f.card)/\w'.cell? ⟨w.heap.size+1,6,none⟩=some (.string (S f.un)):=fun w' k=>by
  refine⟨k.some ?_,k.some ?_,k.some ?_⟩
  ·rw [hWb,World.cell?_alloc_past _ _ _ (by simp),World.cell?_alloc_at _ _ _ _ rfl];rfl
  ·rw [hWb,World.cell?_alloc_at _ _ _ _ (by simp)];rfl
  ·rw [hWb,World.cell?_alloc_at _ _ _ _ (by simp)];rfl
 have hc1 : ∀W,Bel Wb W->Calls Tryz.prog 189 #[.slice (some ⟨b,off,none⟩) m.fields.length mc1,.func (.func 192) #[] #[.pointer (some ⟨w.heap.size+1,0,none⟩)]] W fun e w'=>e=.returned (.bool (m.fields.any fun x=>decide (x.name=f.un)))/\Below W.heap.size W w':=fun W hb=>by
  refine qc5 VField VField.len _ _ (enters_of Tryz.func192 (by kernel_rfl) rfl) _ m.fields _ W ⟨some ⟨b,off,none⟩,_,rfl,hl,hcap,fun j x hx=>?_⟩ (fun x vx W2 _ hx hb2=>?_)
  ·obtain⟨b',off',he,hb',hE⟩:=hel j x hx
   exact⟨b',off',he,Nat.lt_of_lt_of_le hb' (Bel.of kb hb).size,El.keeps VField.stays _ _ _ _ _ hb' (Bel.of kb hb) hE⟩
  obtain⟨_,_,rfl,⟨_,_,_,_,_,_,_,_,rfl,_⟩,hxn⟩:=hx;obtain⟨_,_,rfl,_⟩:=qa5 hxn;exact qcs x.num x.name x.card x.key x.tk x.tn x.un x.hd x.df.k x.df.x x.df.t _ _ _ _ _ _ _ _ _ _ _ _ _ _ _ f.un _ W2 (hb2.some (hKS W hb).2.2)
 have hc2 : ∀W,Bel Wb W->Calls Tryz.prog 189 #[.slice (some ⟨b,off,none⟩) i mc1,.func (.func 193) #[] #[.pointer (some ⟨w.heap.size+1,0,none⟩)]] W fun e w'=>e=.returned (.bool ((m.fields.take i).any fun x=>decide (x.un=f.un)))/\Below W.heap.size W w':=fun W hb=>by
  refine qc5 VField VField.len _ _ (enters_of Tryz.func193 (by kernel_rfl) rfl) _ (m.fields.take i) _ W ⟨some ⟨b,off,none⟩,_,by rw [htake],by omega,by omega,fun j x hx=>?_⟩ (fun x vx W2 _ hx hb2=>?_)
  ·obtain⟨b',off',he,hb',hE⟩:=hel j x (qd3 _ _ _ _ hx)
   exact⟨b',off',he,Nat.lt_of_lt_of_le hb' (Bel.of kb hb).size,El.keeps VField.stays _ _ _ _ _ hb' (Bel.of kb hb) hE⟩
  obtain⟨_,_,rfl,⟨_,_,_,_,_,_,_,_,rfl,_⟩,hxn⟩:=hx;obtain⟨_,_,rfl,_⟩:=qa5 hxn;exact qcr x.num x.name x.card x.key x.tk x.tn x.un x.hd x.df.k x.df.x x.df.t _ _ _ _ _ _ _ _ _ _ _ _ _ _ _ f.un _ W2 (hb2.some (hKS W hb).2.2)
 have hu:=fun W=>qb1 f.un W hun
 have i0:(0:Int)<=(i:Int):=by omega
 have i1:(i:Int)<(m.fields.length:Int):=by omega
 have i2:(i:Int)<=(mc1:Int):=by omega
 have C1:=h_ hc1;have C2:=h_ hc2;have CU:=h_ hu;have KS:=h_ hKS;have HW:=h_ hWb;have HP:=h_ hprev;clear hc1 hc2 hu hKS hprev hel hce hnt htake;have he:(S f.un).toList=[]:=qco f.un h1;have he2:(S f.un).toList.isEmpty=true:=by rw [he];rfl
 clear h1;subst hR
 go_enter Tryz.func160,Tryz.ntmps160
 go_upto_region 2 with(fail)
 all_goals (first|(exfalso;exact absurd HK.out.symm (by assumption))|(have h16:16=K:=(by assumption);subst h16))
 clear l2 aE zE;go_wp2
 all_goals go_ret
 all_goals exact⟨rfl,Bel.out (HW.out ▸ kb)⟩
theorem un_B (i:Nat) (m:PMsg) (mn:Str) (mq1 mq2 mq3 mq4:Option Addr) (mm1 mm2 mm3 mm4 mc1 mc2 mc3 mc4:Nat) (w:World) (hv:VMsg w [.string (S mn),.slice mq1 mm1 mc1,.slice mq2 mm2 mc2,.slice mq3 mm3 mc3,.slice mq4 mm4 mc4] m) (hi:i<m.fields.length) (hun:m.fields[i].un.length<=1000000000000000) (R:Bool) (hR:R=false) (h1:m.fields[i].un ≠ []) (h2:m.fields[i].card ≠ 2) :
  Calls Tryz.prog 160 #[.agg #[.string (S mn),.slice mq1 mm1 mc1,.slice mq2 mm2 mc2,.slice mq3 mm3 mc3,.slice mq4 mm4 mc4],.int .i64 (i:Int)] w fun e w'=>e=.returned (.bool R)/\Below w.heap.size w w':=by
 obtain⟨_,_,_,_,hcm,hm,_⟩:=hv;cases hcm;obtain⟨q,c,hq,hl,hcap,hel⟩:=hm;cases hq;have hg:=List.getElem?_eq_getElem hi;obtain⟨b,off,hbo,hbs,vs,hce,hvs⟩:=hel i _ hg;subst hbo;obtain⟨_,_,hvs1,⟨r1,r2,r3,r4,d1,d2,d3,d4,hvv,hx0,hx1,hb1,hb2,hb3,hb4⟩,hnt⟩:=hvs;obtain⟨r5,d5,hnv,hnl⟩:=qa5 hnt;subst hvs1 hvv hnv
 have hprev : ∀j,i=j+1->∃g:PField,m.fields[i-1]? = some g/\w.cell? ⟨b,off+j*16+6,none⟩=some (.string (S g.un)):=fun j hj=>by
  have hgj:m.fields[j]? = some m.fields[j]:=List.getElem?_eq_getElem (by omega);obtain⟨b',off',he,_,vs2,hce2,hvs2⟩:=hel j _ hgj;cases he;obtain⟨_,_,rfl,⟨_,_,_,_,_,_,_,_,rfl,_⟩,_⟩:=hvs2;have hij:i-1=j:=by omega
  exact⟨_,by rw [hij];exact hgj,hce2 6 _ rfl⟩
 have htake:(m.fields.take i).length=i:=by rw [List.length_take];omega
 generalize m.fields[i]=f at *;have aE:=qas;obtain⟨K,hK⟩ : ∃K,K=16:=⟨_,rfl⟩;have zE : ∀w,(Go.sizeOf 63).run Tryz.prog w=.ok K w:=hK ▸ qal
 have l2:Sem.run Tryz.prog (loadCellsFrom ⟨b,off+i*K,none⟩ 0 K #[]) (w.alloc (.cells #[.string (S m.name),.slice (some ⟨b,off,none⟩) m.fields.length mc1,.slice mq2 mm2 mc2,.slice mq3 mm3 mc3,.slice mq4 mm4 mc4] 44))=.ok #[.int .i64 f.num,.string (S f.name),.int .i64 f.card,.int .i64 f.key,.int .i64 f.tk,.string (S f.tn),.string (S f.un),.bool f.hd,.int .i64 f.df.k,.int .u64 f.df.x,.string (S f.df.t),.slice r1 f.df.n1 d1,.slice r2 f.df.n2 d2,.slice r3 f.df.n3 d3,.slice r4 f.df.n4 d4,.slice r5 f.notes.length d5] (w.alloc (.cells #[.string (S m.name),.slice (some ⟨b,off,none⟩) m.fields.length mc1,.slice mq2 mm2 mc2,.slice mq3 mm3 mc3,.slice mq4 mm4 mc4] 44)):=run_loadCellsFrom_list Tryz.prog _ _ _ K hK.symm (fun j v hj=>by
  rw [hK,Addr.add_lit,World.cell?_alloc_past _ _ _ hbs]
  exact hce j v hj)
 have HK:=h_ hK;clear hK;obtain⟨Wb,hWb⟩ : ∃Wb,Wb=(w.alloc (.cells #[.string (S m.name),.slice (some ⟨b,off,none⟩) m.fields.length mc1,.slice mq2 mm2 mc2,.slice mq3 mm3 mc3,.slice mq4 mm4 mc4] 44)).alloc (.cells #[.int .i64 f.num,.string (S f.name),.int .i64 f.card,.int .i64 f.key,.int .i64 f.tk,.string (S f.tn),.string (S f.un),.bool f.hd,.int .i64 f.df.k,.int .u64 f.df.x,.string (S f.df.t),.slice r1 f.df.n1 d1,.slice r2 f.df.n2 d2,.slice r3 f.df.n3 d3,.slice r4 f.df.n4 d4,.slice r5 f.notes.length d5] 63):=⟨_,rfl⟩;have kb:Bel w Wb:=by rw [hWb];exact((Bel.refl w).alloc _).alloc _
 have hKS : ∀w',Bel Wb w'->w'.cell? ⟨w.heap.size,1,none⟩=some (.slice (some ⟨b,off,none⟩) m.fields.length mc1)/\w'.cell? ⟨w.heap.size+1,2,none⟩=some (.int .i64 f.card)/\w'.cell? ⟨w.heap.size+1,6,none⟩=some (.string (S f.un)):=fun w' k=>by
  refine⟨k.some ?_,k.some ?_,k.some ?_⟩
  ·rw [hWb,World.cell?_alloc_past _ _ _ (by simp),World.cell?_alloc_at _ _ _ _ rfl];rfl
  ·rw [hWb,World.cell?_alloc_at _ _ _ _ (by simp)];rfl
  ·rw [hWb,World.cell?_alloc_at _ _ _ _ (by simp)];rfl
 have hc1 : ∀W,Bel Wb W->Calls Tryz.prog 189 #[.slice (some ⟨b,off,none⟩) m.fields.length mc1,.func (.func 192) #[] #[.pointer (some ⟨w.heap.size+1,0,none⟩)]] W fun e w'=>e=.returned (.bool (m.fields.any fun x=>decide (x.name=f.un)))/\Below W.heap.size W w':=fun W hb=>by
  refine qc5 VField VField.len _ _ (enters_of Tryz.func192 (by kernel_rfl) rfl) _ m.fields _ W ⟨some ⟨b,off,none⟩,_,rfl,hl,hcap,fun j x hx=>?_⟩ (fun x vx W2 _ hx hb2=>?_)
  ·obtain⟨b',off',he,hb',hE⟩:=hel j x hx
   exact⟨b',off',he,Nat.lt_of_lt_of_le hb' (Bel.of kb hb).size,El.keeps VField.stays _ _ _ _ _ hb' (Bel.of kb hb) hE⟩
  obtain⟨_,_,rfl,⟨_,_,_,_,_,_,_,_,rfl,_⟩,hxn⟩:=hx;obtain⟨_,_,rfl,_⟩:=qa5 hxn;exact qcs x.num x.name x.card x.key x.tk x.tn x.un x.hd x.df.k x.df.x x.df.t _ _ _ _ _ _ _ _ _ _ _ _ _ _ _ f.un _ W2 (hb2.some (hKS W hb).2.2)
 have hc2 : ∀W,Bel Wb W->Calls Tryz.prog 189 #[.slice (some ⟨b,off,none⟩) i mc1,.func (.func 193) #[] #[.pointer (some ⟨w.heap.size+1,0,none⟩)]] W fun e w'=>e=.returned (.bool ((m.fields.take i).any fun x=>decide (x.un=f.un)))/\Below W.heap.size W w':=fun W hb=>by
  refine qc5 VField VField.len _ _ (enters_of Tryz.func193 (by kernel_rfl) rfl) _ (m.fields.take i) _ W ⟨some ⟨b,off,none⟩,_,by rw [htake],by omega,by omega,fun j x hx=>?_⟩ (fun x vx W2 _ hx hb2=>?_)
  ·obtain⟨b',off',he,hb',hE⟩:=hel j x (qd3 _ _ _ _ hx)
   exact⟨b',off',he,Nat.lt_of_lt_of_le hb' (Bel.of kb hb).size,El.keeps VField.stays _ _ _ _ _ hb' (Bel.of kb hb) hE⟩
  obtain⟨_,_,rfl,⟨_,_,_,_,_,_,_,_,rfl,_⟩,hxn⟩:=hx;obtain⟨_,_,rfl,_⟩:=qa5 hxn;exact qcr x.num x.name x.card x.key x.tk x.tn x.un x.hd x.df.k x.df.x x.df.t _ _ _ _ _ _ _ _ _ _ _ _ _ _ _ f.un _ W2 (hb2.some (hKS W hb).2.2)
 have hu:=fun W=>qb1 f.un W hun
 have i0:(0:Int)<=(i:Int):=by omega
 have i1:(i:Int)<(m.fields.length:Int):=by omega
 have i2:(i:Int)<=(mc1:Int):=by omega
 have C1:=h_ hc1;have C2:=h_ hc2;have CU:=h_ hu;have KS:=h_ hKS;have HW:=h_ hWb;have HP:=h_ hprev;clear hc1 hc2 hu hKS hprev hel hce hnt htake;have he:=qb6 f.un h1;have he2:=qaw f.un h1;clear h1;have hb:=bne_t h2;clear h2;subst hR
 go_enter Tryz.func160,Tryz.ntmps160
 go_upto_region 2 with(fail)
 all_goals (first|(exfalso;exact absurd HK.out.symm (by assumption))|(have h16:16=K:=(by assumption);subst h16))
 clear l2 aE zE;go_wp2
 all_goals go_ret
 all_goals exact⟨rfl,Bel.out (HW.out ▸ kb)⟩
theorem un_C (i:Nat) (m:PMsg) (mn:Str) (mq1 mq2 mq3 mq4:Option Addr) (mm1 mm2 mm3 mm4 mc1 mc2 mc3 mc4:Nat) (w:World) (hv:VMsg w [.string (S mn),.slice mq1 mm1 mc1,.slice mq2 mm2 mc2,.slice mq3 mm3 mc3,.slice mq4 mm4 mc4] m) (hi:i<m.fields.length) (hun:m.fields[i].un.length<=1000000000000000) (R:Bool) (hR:R=false) (h1:m.fields[i].un ≠ []) (h2:m.fields[i].card=2) (h3:qa7 m.fields[i].un=false) :
  Calls Tryz.prog 160 #[.agg #[.string (S mn),.slice mq1 mm1 mc1,.slice mq2 mm2 mc2,.slice mq3 mm3 mc3,.slice mq4 mm4 mc4],.int .i64 (i:Int)] w fun e w'=>e=.returned (.bool R)/\Below w.heap.size w w':=by
 obtain⟨_,_,_,_,hcm,hm,_⟩:=hv;cases hcm;obtain⟨q,c,hq,hl,hcap,hel⟩:=hm;cases hq;have hg:=List.getElem?_eq_getElem hi;obtain⟨b,off,hbo,hbs,vs,hce,hvs⟩:=hel i _ hg;subst hbo;obtain⟨_,_,hvs1,⟨r1,r2,r3,r4,d1,d2,d3,d4,hvv,hx0,hx1,hb1,hb2,hb3,hb4⟩,hnt⟩:=hvs;obtain⟨r5,d5,hnv,hnl⟩:=qa5 hnt;subst hvs1 hvv hnv
 have hprev : ∀j,i=j+1->∃g:PField,m.fields[i-1]? = some g/\w.cell? ⟨b,off+j*16+6,none⟩=some (.string (S g.un)):=fun j hj=>by
  have hgj:m.fields[j]? = some m.fields[j]:=List.getElem?_eq_getElem (by omega);obtain⟨b',off',he,_,vs2,hce2,hvs2⟩:=hel j _ hgj;cases he;obtain⟨_,_,rfl,⟨_,_,_,_,_,_,_,_,rfl,_⟩,_⟩:=hvs2;have hij:i-1=j:=by omega
  exact⟨_,by rw [hij];exact hgj,hce2 6 _ rfl⟩
 have htake:(m.fields.take i).length=i:=by rw [List.length_take];omega
 generalize m.fields[i]=f at *;have aE:=qas;obtain⟨K,hK⟩ : ∃K,K=16:=⟨_,rfl⟩;have zE : ∀w,(Go.sizeOf 63).run Tryz.prog w=.ok K w:=hK ▸ qal
 have l2:Sem.run Tryz.prog (loadCellsFrom ⟨b,off+i*K,none⟩ 0 K #[]) (w.alloc (.cells #[.string (S m.name),.slice (some ⟨b,off,none⟩) m.fields.length mc1,.slice mq2 mm2 mc2,.slice mq3 mm3 mc3,.slice mq4 mm4 mc4] 44))=.ok #[.int .i64 f.num,.string (S f.name),.int .i64 f.card,.int .i64 f.key,.int .i64 f.tk,.string (S f.tn),.string (S f.un),.bool f.hd,.int .i64 f.df.k,.int .u64 f.df.x,.string (S f.df.t),.slice r1 f.df.n1 d1,.slice r2 f.df.n2 d2,.slice r3 f.df.n3 d3,.slice r4 f.df.n4 d4,.slice r5 f.notes.length d5] (w.alloc (.cells #[.string (S m.name),.slice (some ⟨b,off,none⟩) m.fields.length mc1,.slice mq2 mm2 mc2,.slice mq3 mm3 mc3,.slice mq4 mm4 mc4] 44)):=run_loadCellsFrom_list Tryz.prog _ _ _ K hK.symm (fun j v hj=>by
  rw [hK,Addr.add_lit,World.cell?_alloc_past _ _ _ hbs]
  exact hce j v hj)
 have HK:=h_ hK;clear hK;obtain⟨Wb,hWb⟩ : ∃Wb,Wb=(w.alloc (.cells #[.string (S m.name),.slice (some ⟨b,off,none⟩) m.fields.length mc1,.slice mq2 mm2 mc2,.slice mq3 mm3 mc3,.slice mq4 mm4 mc4] 44)).alloc (.cells #[.int .i64 f.num,.string (S f.name),.int .i64 f.card,.int .i64 f.key,.int .i64 f.tk,.string (S f.tn),.string (S f.un),.bool f.hd,.int .i64 f.df.k,.int .u64 f.df.x,.string (S f.df.t),.slice r1 f.df.n1 d1,.slice r2 f.df.n2 d2,.slice r3 f.df.n3 d3,.slice r4 f.df.n4 d4,.slice r5 f.notes.length d5] 63):=⟨_,rfl⟩;have kb:Bel w Wb:=by rw [hWb];exact((Bel.refl w).alloc _).alloc _
 have hKS : ∀w',Bel Wb w'->w'.cell? ⟨w.heap.size,1,none⟩=some (.slice (some ⟨b,off,none⟩) m.fields.length mc1)/\w'.cell? ⟨w.heap.size+1,2,none⟩=some (.int .i64 f.card)/\w'.cell? ⟨w.heap.size+1,6,none⟩=some (.string (S f.un)):=fun w' k=>by
  refine⟨k.some ?_,k.some ?_,k.some ?_⟩
  ·rw [hWb,World.cell?_alloc_past _ _ _ (by simp),World.cell?_alloc_at _ _ _ _ rfl];rfl
  ·rw [hWb,World.cell?_alloc_at _ _ _ _ (by simp)];rfl
  ·rw [hWb,World.cell?_alloc_at _ _ _ _ (by simp)];rfl
 have hc1 : ∀W,Bel Wb W->Calls Tryz.prog 189 #[.slice (some ⟨b,off,none⟩) m.fields.length mc1,.func (.func 192) #[] #[.pointer (some ⟨w.heap.size+1,0,none⟩)]] W fun e w'=>e=.returned (.bool (m.fields.any fun x=>decide (x.name=f.un)))/\Below W.heap.size W w':=fun W hb=>by
  refine qc5 VField VField.len _ _ (enters_of Tryz.func192 (by kernel_rfl) rfl) _ m.fields _ W ⟨some ⟨b,off,none⟩,_,rfl,hl,hcap,fun j x hx=>?_⟩ (fun x vx W2 _ hx hb2=>?_)
  ·obtain⟨b',off',he,hb',hE⟩:=hel j x hx
   exact⟨b',off',he,Nat.lt_of_lt_of_le hb' (Bel.of kb hb).size,El.keeps VField.stays _ _ _ _ _ hb' (Bel.of kb hb) hE⟩
  obtain⟨_,_,rfl,⟨_,_,_,_,_,_,_,_,rfl,_⟩,hxn⟩:=hx;obtain⟨_,_,rfl,_⟩:=qa5 hxn;exact qcs x.num x.name x.card x.key x.tk x.tn x.un x.hd x.df.k x.df.x x.df.t _ _ _ _ _ _ _ _ _ _ _ _ _ _ _ f.un _ W2 (hb2.some (hKS W hb).2.2)
 have hc2 : ∀W,Bel Wb W->Calls Tryz.prog 189 #[.slice (some ⟨b,off,none⟩) i mc1,.func (.func 193) #[] #[.pointer (some ⟨w.heap.size+1,0,none⟩)]] W fun e w'=>e=.returned (.bool ((m.fields.take i).any fun x=>decide (x.un=f.un)))/\Below W.heap.size W w':=fun W hb=>by
  refine qc5 VField VField.len _ _ (enters_of Tryz.func193 (by kernel_rfl) rfl) _ (m.fields.take i) _ W ⟨some ⟨b,off,none⟩,_,by rw [htake],by omega,by omega,fun j x hx=>?_⟩ (fun x vx W2 _ hx hb2=>?_)
  ·obtain⟨b',off',he,hb',hE⟩:=hel j x (qd3 _ _ _ _ hx)
   exact⟨b',off',he,Nat.lt_of_lt_of_le hb' (Bel.of kb hb).size,El.keeps VField.stays _ _ _ _ _ hb' (Bel.of kb hb) hE⟩
  obtain⟨_,_,rfl,⟨_,_,_,_,_,_,_,_,rfl,_⟩,hxn⟩:=hx;obtain⟨_,_,rfl,_⟩:=qa5 hxn;exact qcr x.num x.name x.card x.key x.tk x.tn x.un x.hd x.df.k x.df.x x.df.t _ _ _ _ _ _ _ _ _ _ _ _ _ _ _ f.un _ W2 (hb2.some (hKS W hb).2.2)
 have hu:=fun W=>qb1 f.un W hun
 have i0:(0:Int)<=(i:Int):=by omega
 have i1:(i:Int)<(m.fields.length:Int):=by omega
 have i2:(i:Int)<=(mc1:Int):=by omega
 simp only [h3]at hu;clear h3;have C1:=h_ hc1;have C2:=h_ hc2;have CU:=h_ hu;have KS:=h_ hKS;have HW:=h_ hWb;have HP:=h_ hprev;clear hc1 hc2 hu hKS hprev hel hce hnt htake;have he:=qb6 f.un h1;have he2:=qaw f.un h1;clear h1;have hb:=bne_f h2;clear h2;subst hR
 go_enter Tryz.func160,Tryz.ntmps160
 go_upto_region 2 with(fail)
 all_goals (first|(exfalso;exact absurd HK.out.symm (by assumption))|(have h16:16=K:=(by assumption);subst h16))
 clear l2 aE zE
 go_wp2_with (first
  | (go_at_call 124;(with_reducible refine(CU.out _).mono ?_);rintro e w1 ⟨rfl,g1⟩;have k1:Bel Wb w1:=(by first|(exact HW.out ▸ g1)|(exact Bel.of (by assumption) g1));obtain⟨s1,s2,s3⟩:=KS.out _ k1;clear g1)
  | (go_at_call 189;(with_reducible refine(C1.out _ (by assumption)).mono ?_);rintro e w2 ⟨rfl,g1⟩;have k2:Bel Wb w2:=Bel.of (by assumption) g1;obtain⟨s4,s5,s6⟩:=KS.out _ k2;clear g1)
  | (go_at_call 189;(with_reducible refine(C2.out _ (by assumption)).mono ?_);rintro e w3 ⟨rfl,g1⟩;have k3:Bel Wb w3:=Bel.of (by assumption) g1;obtain⟨s7,s8,s9⟩:=KS.out _ k3;clear g1))
 all_goals go_ret
 all_goals exact⟨rfl,Bel.out (Bel.of kb k1)⟩
theorem un_D (i:Nat) (m:PMsg) (mn:Str) (mq1 mq2 mq3 mq4:Option Addr) (mm1 mm2 mm3 mm4 mc1 mc2 mc3 mc4:Nat) (w:World) (hv:VMsg w [.string (S mn),.slice mq1 mm1 mc1,.slice mq2 mm2 mc2,.slice mq3 mm3 mc3,.slice mq4 mm4 mc4] m) (hi:i<m.fields.length) (hun:m.fields[i].un.length<=1000000000000000) (R:Bool) (hR:R=false) (h1:m.fields[i].un ≠ []) (h2:m.fields[i].card=2) (h3:qa7 m.fields[i].un=true) (h4:(m.fields.any fun x=>decide (x.name=m.fields[i].un))=true) :
  Calls Tryz.prog 160 #[.agg #[.string (S mn),.slice mq1 mm1 mc1,.slice mq2 mm2 mc2,.slice mq3 mm3 mc3,.slice mq4 mm4 mc4],.int .i64 (i:Int)] w fun e w'=>e=.returned (.bool R)/\Below w.heap.size w w':=by
 obtain⟨_,_,_,_,hcm,hm,_⟩:=hv;cases hcm;obtain⟨q,c,hq,hl,hcap,hel⟩:=hm;cases hq;have hg:=List.getElem?_eq_getElem hi;obtain⟨b,off,hbo,hbs,vs,hce,hvs⟩:=hel i _ hg;subst hbo;obtain⟨_,_,hvs1,⟨r1,r2,r3,r4,d1,d2,d3,d4,hvv,hx0,hx1,hb1,hb2,hb3,hb4⟩,hnt⟩:=hvs;obtain⟨r5,d5,hnv,hnl⟩:=qa5 hnt;subst hvs1 hvv hnv
 have hprev : ∀j,i=j+1->∃g:PField,m.fields[i-1]? = some g/\w.cell? ⟨b,off+j*16+6,none⟩=some (.string (S g.un)):=fun j hj=>by
  have hgj:m.fields[j]? = some m.fields[j]:=List.getElem?_eq_getElem (by omega);obtain⟨b',off',he,_,vs2,hce2,hvs2⟩:=hel j _ hgj;cases he;obtain⟨_,_,rfl,⟨_,_,_,_,_,_,_,_,rfl,_⟩,_⟩:=hvs2;have hij:i-1=j:=by omega
  exact⟨_,by rw [hij];exact hgj,hce2 6 _ rfl⟩
 have htake:(m.fields.take i).length=i:=by rw [List.length_take];omega
 generalize m.fields[i]=f at *;have aE:=qas;obtain⟨K,hK⟩ : ∃K,K=16:=⟨_,rfl⟩;have zE : ∀w,(Go.sizeOf 63).run Tryz.prog w=.ok K w:=hK ▸ qal
 have l2:Sem.run Tryz.prog (loadCellsFrom ⟨b,off+i*K,none⟩ 0 K #[]) (w.alloc (.cells #[.string (S m.name),.slice (some ⟨b,off,none⟩) m.fields.length mc1,.slice mq2 mm2 mc2,.slice mq3 mm3 mc3,.slice mq4 mm4 mc4] 44))=.ok #[.int .i64 f.num,.string (S f.name),.int .i64 f.card,.int .i64 f.key,.int .i64 f.tk,.string (S f.tn),.string (S f.un),.bool f.hd,.int .i64 f.df.k,.int .u64 f.df.x,.string (S f.df.t),.slice r1 f.df.n1 d1,.slice r2 f.df.n2 d2,.slice r3 f.df.n3 d3,.slice r4 f.df.n4 d4,.slice r5 f.notes.length d5] (w.alloc (.cells #[.string (S m.name),.slice (some ⟨b,off,none⟩) m.fields.length mc1,.slice mq2 mm2 mc2,.slice mq3 mm3 mc3,.slice mq4 mm4 mc4] 44)):=run_loadCellsFrom_list Tryz.prog _ _ _ K hK.symm (fun j v hj=>by
  rw [hK,Addr.add_lit,World.cell?_alloc_past _ _ _ hbs]
  exact hce j v hj)
 have HK:=h_ hK;clear hK;obtain⟨Wb,hWb⟩ : ∃Wb,Wb=(w.alloc (.cells #[.string (S m.name),.slice (some ⟨b,off,none⟩) m.fields.length mc1,.slice mq2 mm2 mc2,.slice mq3 mm3 mc3,.slice mq4 mm4 mc4] 44)).alloc (.cells #[.int .i64 f.num,.string (S f.name),.int .i64 f.card,.int .i64 f.key,.int .i64 f.tk,.string (S f.tn),.string (S f.un),.bool f.hd,.int .i64 f.df.k,.int .u64 f.df.x,.string (S f.df.t),.slice r1 f.df.n1 d1,.slice r2 f.df.n2 d2,.slice r3 f.df.n3 d3,.slice r4 f.df.n4 d4,.slice r5 f.notes.length d5] 63):=⟨_,rfl⟩;have kb:Bel w Wb:=by rw [hWb];exact((Bel.refl w).alloc _).alloc _
 have hKS : ∀w',Bel Wb w'->w'.cell? ⟨w.heap.size,1,none⟩=some (.slice (some ⟨b,off,none⟩) m.fields.length mc1)/\w'.cell? ⟨w.heap.size+1,2,none⟩=some (.int .i64 f.card)/\w'.cell? ⟨w.heap.size+1,6,none⟩=some (.string (S f.un)):=fun w' k=>by
  refine⟨k.some ?_,k.some ?_,k.some ?_⟩
  ·rw [hWb,World.cell?_alloc_past _ _ _ (by simp),World.cell?_alloc_at _ _ _ _ rfl];rfl
  ·rw [hWb,World.cell?_alloc_at _ _ _ _ (by simp)];rfl
  ·rw [hWb,World.cell?_alloc_at _ _ _ _ (by simp)];rfl
 have hc1 : ∀W,Bel Wb W->Calls Tryz.prog 189 #[.slice (some ⟨b,off,none⟩) m.fields.length mc1,.func (.func 192) #[] #[.pointer (some ⟨w.heap.size+1,0,none⟩)]] W fun e w'=>e=.returned (.bool (m.fields.any fun x=>decide (x.name=f.un)))/\Below W.heap.size W w':=fun W hb=>by
  refine qc5 VField VField.len _ _ (enters_of Tryz.func192 (by kernel_rfl) rfl) _ m.fields _ W ⟨some ⟨b,off,none⟩,_,rfl,hl,hcap,fun j x hx=>?_⟩ (fun x vx W2 _ hx hb2=>?_)
  ·obtain⟨b',off',he,hb',hE⟩:=hel j x hx
   exact⟨b',off',he,Nat.lt_of_lt_of_le hb' (Bel.of kb hb).size,El.keeps VField.stays _ _ _ _ _ hb' (Bel.of kb hb) hE⟩
  obtain⟨_,_,rfl,⟨_,_,_,_,_,_,_,_,rfl,_⟩,hxn⟩:=hx;obtain⟨_,_,rfl,_⟩:=qa5 hxn;exact qcs x.num x.name x.card x.key x.tk x.tn x.un x.hd x.df.k x.df.x x.df.t _ _ _ _ _ _ _ _ _ _ _ _ _ _ _ f.un _ W2 (hb2.some (hKS W hb).2.2)
 have hc2 : ∀W,Bel Wb W->Calls Tryz.prog 189 #[.slice (some ⟨b,off,none⟩) i mc1,.func (.func 193) #[] #[.pointer (some ⟨w.heap.size+1,0,none⟩)]] W fun e w'=>e=.returned (.bool ((m.fields.take i).any fun x=>decide (x.un=f.un)))/\Below W.heap.size W w':=fun W hb=>by
  refine qc5 VField VField.len _ _ (enters_of Tryz.func193 (by kernel_rfl) rfl) _ (m.fields.take i) _ W ⟨some ⟨b,off,none⟩,_,by rw [htake],by omega,by omega,fun j x hx=>?_⟩ (fun x vx W2 _ hx hb2=>?_)
  ·obtain⟨b',off',he,hb',hE⟩:=hel j x (qd3 _ _ _ _ hx)
   exact⟨b',off',he,Nat.lt_of_lt_of_le hb' (Bel.of kb hb).size,El.keeps VField.stays _ _ _ _ _ hb' (Bel.of kb hb) hE⟩
  obtain⟨_,_,rfl,⟨_,_,_,_,_,_,_,_,rfl,_⟩,hxn⟩:=hx;obtain⟨_,_,rfl,_⟩:=qa5 hxn;exact qcr x.num x.name x.card x.key x.tk x.tn x.un x.hd x.df.k x.df.x x.df.t _ _ _ _ _ _ _ _ _ _ _ _ _ _ _ f.un _ W2 (hb2.some (hKS W hb).2.2)
 have hu:=fun W=>qb1 f.un W hun
 have i0:(0:Int)<=(i:Int):=by omega
 have i1:(i:Int)<(m.fields.length:Int):=by omega
 have i2:(i:Int)<=(mc1:Int):=by omega
 simp only [h3]at hu;simp only [h4]at hc1;clear h3 h4;have C1:=h_ hc1;have C2:=h_ hc2;have CU:=h_ hu;have KS:=h_ hKS;have HW:=h_ hWb;have HP:=h_ hprev;clear hc1 hc2 hu hKS hprev hel hce hnt htake;have he:=qb6 f.un h1;have he2:=qaw f.un h1;clear h1;have hb:=bne_f h2;clear h2;subst hR
 go_enter Tryz.func160,Tryz.ntmps160
 go_upto_region 2 with(fail)
 all_goals (first|(exfalso;exact absurd HK.out.symm (by assumption))|(have h16:16=K:=(by assumption);subst h16))
 clear l2 aE zE
 go_wp2_with (first
  | (go_at_call 124;(with_reducible refine(CU.out _).mono ?_);rintro e w1 ⟨rfl,g1⟩;have k1:Bel Wb w1:=(by first|(exact HW.out ▸ g1)|(exact Bel.of (by assumption) g1));obtain⟨s1,s2,s3⟩:=KS.out _ k1;clear g1)
  | (go_at_call 189;(with_reducible refine(C1.out _ (by assumption)).mono ?_);rintro e w2 ⟨rfl,g1⟩;have k2:Bel Wb w2:=Bel.of (by assumption) g1;obtain⟨s4,s5,s6⟩:=KS.out _ k2;clear g1)
  | (go_at_call 189;(with_reducible refine(C2.out _ (by assumption)).mono ?_);rintro e w3 ⟨rfl,g1⟩;have k3:Bel Wb w3:=Bel.of (by assumption) g1;obtain⟨s7,s8,s9⟩:=KS.out _ k3;clear g1))
 all_goals go_ret
 all_goals exact⟨rfl,Bel.out (Bel.of kb k2)⟩
theorem un_E (i:Nat) (m:PMsg) (mn:Str) (mq1 mq2 mq3 mq4:Option Addr) (mm1 mm2 mm3 mm4 mc1 mc2 mc3 mc4:Nat) (w:World) (hv:VMsg w [.string (S mn),.slice mq1 mm1 mc1,.slice mq2 mm2 mc2,.slice mq3 mm3 mc3,.slice mq4 mm4 mc4] m) (hi:i<m.fields.length) (hun:m.fields[i].un.length<=1000000000000000) (R:Bool) (hR:R=true) (h1:m.fields[i].un ≠ []) (h2:m.fields[i].card=2) (h3:qa7 m.fields[i].un=true) (h4:(m.fields.any fun x=>decide (x.name=m.fields[i].un))=false) (h5:((m.fields.take i).any fun x=>decide (x.un=m.fields[i].un))=false) :
  Calls Tryz.prog 160 #[.agg #[.string (S mn),.slice mq1 mm1 mc1,.slice mq2 mm2 mc2,.slice mq3 mm3 mc3,.slice mq4 mm4 mc4],.int .i64 (i:Int)] w fun e w'=>e=.returned (.bool R)/\Below w.heap.size w w':=by
 obtain⟨_,_,_,_,hcm,hm,_⟩:=hv;cases hcm;obtain⟨q,c,hq,hl,hcap,hel⟩:=hm;cases hq;have hg:=List.getElem?_eq_getElem hi;obtain⟨b,off,hbo,hbs,vs,hce,hvs⟩:=hel i _ hg;subst hbo;obtain⟨_,_,hvs1,⟨r1,r2,r3,r4,d1,d2,d3,d4,hvv,hx0,hx1,hb1,hb2,hb3,hb4⟩,hnt⟩:=hvs;obtain⟨r5,d5,hnv,hnl⟩:=qa5 hnt;subst hvs1 hvv hnv
 have hprev : ∀j,i=j+1->∃g:PField,m.fields[i-1]? = some g/\w.cell? ⟨b,off+j*16+6,none⟩=some (.string (S g.un)):=fun j hj=>by
  have hgj:m.fields[j]? = some m.fields[j]:=List.getElem?_eq_getElem (by omega);obtain⟨b',off',he,_,vs2,hce2,hvs2⟩:=hel j _ hgj;cases he;obtain⟨_,_,rfl,⟨_,_,_,_,_,_,_,_,rfl,_⟩,_⟩:=hvs2;have hij:i-1=j:=by omega
  exact⟨_,by rw [hij];exact hgj,hce2 6 _ rfl⟩
 have htake:(m.fields.take i).length=i:=by rw [List.length_take];omega
 generalize m.fields[i]=f at *;have aE:=qas;obtain⟨K,hK⟩ : ∃K,K=16:=⟨_,rfl⟩;have zE : ∀w,(Go.sizeOf 63).run Tryz.prog w=.ok K w:=hK ▸ qal
 have l2:Sem.run Tryz.prog (loadCellsFrom ⟨b,off+i*K,none⟩ 0 K #[]) (w.alloc (.cells #[.string (S m.name),.slice (some ⟨b,off,none⟩) m.fields.length mc1,.slice mq2 mm2 mc2,.slice mq3 mm3 mc3,.slice mq4 mm4 mc4] 44))=.ok #[.int .i64 f.num,.string (S f.name),.int .i64 f.card,.int .i64 f.key,.int .i64 f.tk,.string (S f.tn),.string (S f.un),.bool f.hd,.int .i64 f.df.k,.int .u64 f.df.x,.string (S f.df.t),.slice r1 f.df.n1 d1,.slice r2 f.df.n2 d2,.slice r3 f.df.n3 d3,.slice r4 f.df.n4 d4,.slice r5 f.notes.length d5] (w.alloc (.cells #[.string (S m.name),.slice (some ⟨b,off,none⟩) m.fields.length mc1,.slice mq2 mm2 mc2,.slice mq3 mm3 mc3,.slice mq4 mm4 mc4] 44)):=run_loadCellsFrom_list Tryz.prog _ _ _ K hK.symm (fun j v hj=>by
  rw [hK,Addr.add_lit,World.cell?_alloc_past _ _ _ hbs]
  exact hce j v hj)
 have HK:=h_ hK;clear hK;obtain⟨Wb,hWb⟩ : ∃Wb,Wb=(w.alloc (.cells #[.string (S m.name),.slice (some ⟨b,off,none⟩) m.fields.length mc1,.slice mq2 mm2 mc2,.slice mq3 mm3 mc3,.slice mq4 mm4 mc4] 44)).alloc (.cells #[.int .i64 f.num,.string (S f.name),.int .i64 f.card,.int .i64 f.key,.int .i64 f.tk,.string (S f.tn),.string (S f.un),.bool f.hd,.int .i64 f.df.k,.int .u64 f.df.x,.string (S f.df.t),.slice r1 f.df.n1 d1,.slice r2 f.df.n2 d2,.slice r3 f.df.n3 d3,.slice r4 f.df.n4 d4,.slice r5 f.notes.length d5] 63):=⟨_,rfl⟩;have kb:Bel w Wb:=by rw [hWb];exact((Bel.refl w).alloc _).alloc _
 have hKS : ∀w',Bel Wb w'->w'.cell? ⟨w.heap.size,1,none⟩=some (.slice (some ⟨b,off,none⟩) m.fields.length mc1)/\w'.cell? ⟨w.heap.size+1,2,none⟩=some (.int .i64 f.card)/\w'.cell? ⟨w.heap.size+1,6,none⟩=some (.string (S f.un)):=fun w' k=>by
  refine⟨k.some ?_,k.some ?_,k.some ?_⟩
  ·rw [hWb,World.cell?_alloc_past _ _ _ (by simp),World.cell?_alloc_at _ _ _ _ rfl];rfl
  ·rw [hWb,World.cell?_alloc_at _ _ _ _ (by simp)];rfl
  ·rw [hWb,World.cell?_alloc_at _ _ _ _ (by simp)];rfl
 have hc1 : ∀W,Bel Wb W->Calls Tryz.prog 189 #[.slice (some ⟨b,off,none⟩) m.fields.length mc1,.func (.func 192) #[] #[.pointer (some ⟨w.heap.size+1,0,none⟩)]] W fun e w'=>e=.returned (.bool (m.fields.any fun x=>decide (x.name=f.un)))/\Below W.heap.size W w':=fun W hb=>by
  refine qc5 VField VField.len _ _ (enters_of Tryz.func192 (by kernel_rfl) rfl) _ m.fields _ W ⟨some ⟨b,off,none⟩,_,rfl,hl,hcap,fun j x hx=>?_⟩ (fun x vx W2 _ hx hb2=>?_)
  ·obtain⟨b',off',he,hb',hE⟩:=hel j x hx
   exact⟨b',off',he,Nat.lt_of_lt_of_le hb' (Bel.of kb hb).size,El.keeps VField.stays _ _ _ _ _ hb' (Bel.of kb hb) hE⟩
  obtain⟨_,_,rfl,⟨_,_,_,_,_,_,_,_,rfl,_⟩,hxn⟩:=hx;obtain⟨_,_,rfl,_⟩:=qa5 hxn;exact qcs x.num x.name x.card x.key x.tk x.tn x.un x.hd x.df.k x.df.x x.df.t _ _ _ _ _ _ _ _ _ _ _ _ _ _ _ f.un _ W2 (hb2.some (hKS W hb).2.2)
 have hc2 : ∀W,Bel Wb W->Calls Tryz.prog 189 #[.slice (some ⟨b,off,none⟩) i mc1,.func (.func 193) #[] #[.pointer (some ⟨w.heap.size+1,0,none⟩)]] W fun e w'=>e=.returned (.bool ((m.fields.take i).any fun x=>decide (x.un=f.un)))/\Below W.heap.size W w':=fun W hb=>by
  refine qc5 VField VField.len _ _ (enters_of Tryz.func193 (by kernel_rfl) rfl) _ (m.fields.take i) _ W ⟨some ⟨b,off,none⟩,_,by rw [htake],by omega,by omega,fun j x hx=>?_⟩ (fun x vx W2 _ hx hb2=>?_)
  ·obtain⟨b',off',he,hb',hE⟩:=hel j x (qd3 _ _ _ _ hx)
   exact⟨b',off',he,Nat.lt_of_lt_of_le hb' (Bel.of kb hb).size,El.keeps VField.stays _ _ _ _ _ hb' (Bel.of kb hb) hE⟩
  obtain⟨_,_,rfl,⟨_,_,_,_,_,_,_,_,rfl,_⟩,hxn⟩:=hx;obtain⟨_,_,rfl,_⟩:=qa5 hxn;exact qcr x.num x.name x.card x.key x.tk x.tn x.un x.hd x.df.k x.df.x x.df.t _ _ _ _ _ _ _ _ _ _ _ _ _ _ _ f.un _ W2 (hb2.some (hKS W hb).2.2)
 have hu:=fun W=>qb1 f.un W hun
 have i0:(0:Int)<=(i:Int):=by omega
 have i1:(i:Int)<(m.fields.length:Int):=by omega
 have i2:(i:Int)<=(mc1:Int):=by omega
 simp only [h3]at hu;simp only [h4]at hc1;simp only [h5]at hc2;clear h3 h4 h5;have C1:=h_ hc1;have C2:=h_ hc2;have CU:=h_ hu;have KS:=h_ hKS;have HW:=h_ hWb;have HP:=h_ hprev;clear hc1 hc2 hu hKS hprev hel hce hnt htake;have he:=qb6 f.un h1;have he2:=qaw f.un h1;clear h1;have hb:=bne_f h2;clear h2;subst hR
 go_enter Tryz.func160,Tryz.ntmps160
 go_upto_region 2 with(fail)
 all_goals (first|(exfalso;exact absurd HK.out.symm (by assumption))|(have h16:16=K:=(by assumption);subst h16))
 clear l2 aE zE
 go_upto_region 7 with(first
  | (go_at_call 124;(with_reducible refine(CU.out _).mono ?_);rintro e w1 ⟨rfl,g1⟩;have k1:Bel Wb w1:=(by first|(exact HW.out ▸ g1)|(exact Bel.of (by assumption) g1));obtain⟨s1,s2,s3⟩:=KS.out _ k1;clear g1)
  | (go_at_call 189;(with_reducible refine(C1.out _ (by assumption)).mono ?_);rintro e w2 ⟨rfl,g1⟩;have k2:Bel Wb w2:=Bel.of (by assumption) g1;obtain⟨s4,s5,s6⟩:=KS.out _ k2;clear g1)
  | (go_at_call 189;(with_reducible refine(C2.out _ (by assumption)).mono ?_);rintro e w3 ⟨rfl,g1⟩;have k3:Bel Wb w3:=Bel.of (by assumption) g1;obtain⟨s7,s8,s9⟩:=KS.out _ k3;clear g1))
 obtain⟨wd,hwd⟩ : ∃wd,wd=w3.drew:=⟨_,rfl⟩;have kd:Bel Wb wd:=by rw [hwd];exact Bel.drew k3
 have HWD:=h_ hwd;clear hwd s1 s2 s3 s4 s5 s6 s7 s8 s9;obtain⟨s1,s2,s3⟩:=KS.out _ kd;refine qae 14 (by kernel_rfl) (by kernel_rfl) HWD.out ?_
 (simp only [t_1,t_2,t_3,t_4]);(repeat (first|((with_reducible refine wpStill_step (fun K hK=>?_));go_simp;(with_reducible refine hK _ ?_);clear hK K)|((with_reducible refine qaa ?_ ?_);(with_unfolding_all rfl))));(with_reducible refine wpStill_nil ?_)
 go_wp2
 all_goals go_ret
 all_goals exact⟨rfl,Bel.out (Bel.of kb kd)⟩
theorem un_F (i:Nat) (m:PMsg) (mn:Str) (mq1 mq2 mq3 mq4:Option Addr) (mm1 mm2 mm3 mm4 mc1 mc2 mc3 mc4:Nat) (w:World) (hv:VMsg w [.string (S mn),.slice mq1 mm1 mc1,.slice mq2 mm2 mc2,.slice mq3 mm3 mc3,.slice mq4 mm4 mc4] m) (hi:i<m.fields.length) (hun:m.fields[i].un.length<=1000000000000000) (j:Nat) (hij:i=j+1) (R:Bool) (hR : ∀g,m.fields[i-1]? = some g->R=decide (g.un=m.fields[i].un)) (h1:m.fields[i].un ≠ []) (h2:m.fields[i].card=2) (h3:qa7 m.fields[i].un=true) (h4:(m.fields.any fun x=>decide (x.name=m.fields[i].un))=false) (h5:((m.fields.take i).any fun x=>decide (x.un=m.fields[i].un))=true) :
  Calls Tryz.prog 160 #[.agg #[.string (S mn),.slice mq1 mm1 mc1,.slice mq2 mm2 mc2,.slice mq3 mm3 mc3,.slice mq4 mm4 mc4],.int .i64 (i:Int)] w fun e w'=>e=.returned (.bool R)/\Below w.heap.size w w':=by
 obtain⟨_,_,_,_,hcm,hm,_⟩:=hv;cases hcm;obtain⟨q,c,hq,hl,hcap,hel⟩:=hm;cases hq;have hg:=List.getElem?_eq_getElem hi;obtain⟨b,off,hbo,hbs,vs,hce,hvs⟩:=hel i _ hg;subst hbo;obtain⟨_,_,hvs1,⟨r1,r2,r3,r4,d1,d2,d3,d4,hvv,hx0,hx1,hb1,hb2,hb3,hb4⟩,hnt⟩:=hvs;obtain⟨r5,d5,hnv,hnl⟩:=qa5 hnt;subst hvs1 hvv hnv
 have hprev : ∀j,i=j+1->∃g:PField,m.fields[i-1]? = some g/\w.cell? ⟨b,off+j*16+6,none⟩=some (.string (S g.un)):=fun j hj=>by
  have hgj:m.fields[j]? = some m.fields[j]:=List.getElem?_eq_getElem (by omega);obtain⟨b',off',he,_,vs2,hce2,hvs2⟩:=hel j _ hgj;cases he;obtain⟨_,_,rfl,⟨_,_,_,_,_,_,_,_,rfl,_⟩,_⟩:=hvs2;have hij:i-1=j:=by omega
  exact⟨_,by rw [hij];exact hgj,hce2 6 _ rfl⟩
 have htake:(m.fields.take i).length=i:=by rw [List.length_take];omega
 generalize m.fields[i]=f at *;have aE:=qas;obtain⟨K,hK⟩ : ∃K,K=16:=⟨_,rfl⟩;have zE : ∀w,(Go.sizeOf 63).run Tryz.prog w=.ok K w:=hK ▸ qal
 have l2:Sem.run Tryz.prog (loadCellsFrom ⟨b,off+i*K,none⟩ 0 K #[]) (w.alloc (.cells #[.string (S m.name),.slice (some ⟨b,off,none⟩) m.fields.length mc1,.slice mq2 mm2 mc2,.slice mq3 mm3 mc3,.slice mq4 mm4 mc4] 44))=.ok #[.int .i64 f.num,.string (S f.name),.int .i64 f.card,.int .i64 f.key,.int .i64 f.tk,.string (S f.tn),.string (S f.un),.bool f.hd,.int .i64 f.df.k,.int .u64 f.df.x,.string (S f.df.t),.slice r1 f.df.n1 d1,.slice r2 f.df.n2 d2,.slice r3 f.df.n3 d3,.slice r4 f.df.n4 d4,.slice r5 f.notes.length d5] (w.alloc (.cells #[.string (S m.name),.slice (some ⟨b,off,none⟩) m.fields.length mc1,.slice mq2 mm2 mc2,.slice mq3 mm3 mc3,.slice mq4 mm4 mc4] 44)):=run_loadCellsFrom_list Tryz.prog _ _ _ K hK.symm (fun j v hj=>by
  rw [hK,Addr.add_lit,World.cell?_alloc_past _ _ _ hbs]
  exact hce j v hj)
 have HK:=h_ hK;clear hK;obtain⟨Wb,hWb⟩ : ∃Wb,Wb=(w.alloc (.cells #[.string (S m.name),.slice (some ⟨b,off,none⟩) m.fields.length mc1,.slice mq2 mm2 mc2,.slice mq3 mm3 mc3,.slice mq4 mm4 mc4] 44)).alloc (.cells #[.int .i64 f.num,.string (S f.name),.int .i64 f.card,.int .i64 f.key,.int .i64 f.tk,.string (S f.tn),.string (S f.un),.bool f.hd,.int .i64 f.df.k,.int .u64 f.df.x,.string (S f.df.t),.slice r1 f.df.n1 d1,.slice r2 f.df.n2 d2,.slice r3 f.df.n3 d3,.slice r4 f.df.n4 d4,.slice r5 f.notes.length d5] 63):=⟨_,rfl⟩;have kb:Bel w Wb:=by rw [hWb];exact((Bel.refl w).alloc _).alloc _
 have hKS : ∀w',Bel Wb w'->w'.cell? ⟨w.heap.size,1,none⟩=some (.slice (some ⟨b,off,none⟩) m.fields.length mc1)/\w'.cell? ⟨w.heap.size+1,2,none⟩=some (.int .i64 f.card)/\w'.cell? ⟨w.heap.size+1,6,none⟩=some (.string (S f.un)):=fun w' k=>by
  refine⟨k.some ?_,k.some ?_,k.some ?_⟩
  ·rw [hWb,World.cell?_alloc_past _ _ _ (by simp),World.cell?_alloc_at _ _ _ _ rfl];rfl
  ·rw [hWb,World.cell?_alloc_at _ _ _ _ (by simp)];rfl
  ·rw [hWb,World.cell?_alloc_at _ _ _ _ (by simp)];rfl
 have hc1 : ∀W,Bel Wb W->Calls Tryz.prog 189 #[.slice (some ⟨b,off,none⟩) m.fields.length mc1,.func (.func 192) #[] #[.pointer (some ⟨w.heap.size+1,0,none⟩)]] W fun e w'=>e=.returned (.bool (m.fields.any fun x=>decide (x.name=f.un)))/\Below W.heap.size W w':=fun W hb=>by
  refine qc5 VField VField.len _ _ (enters_of Tryz.func192 (by kernel_rfl) rfl) _ m.fields _ W ⟨some ⟨b,off,none⟩,_,rfl,hl,hcap,fun j x hx=>?_⟩ (fun x vx W2 _ hx hb2=>?_)
  ·obtain⟨b',off',he,hb',hE⟩:=hel j x hx
   exact⟨b',off',he,Nat.lt_of_lt_of_le hb' (Bel.of kb hb).size,El.keeps VField.stays _ _ _ _ _ hb' (Bel.of kb hb) hE⟩
  obtain⟨_,_,rfl,⟨_,_,_,_,_,_,_,_,rfl,_⟩,hxn⟩:=hx;obtain⟨_,_,rfl,_⟩:=qa5 hxn;exact qcs x.num x.name x.card x.key x.tk x.tn x.un x.hd x.df.k x.df.x x.df.t _ _ _ _ _ _ _ _ _ _ _ _ _ _ _ f.un _ W2 (hb2.some (hKS W hb).2.2)
 have hc2 : ∀W,Bel Wb W->Calls Tryz.prog 189 #[.slice (some ⟨b,off,none⟩) i mc1,.func (.func 193) #[] #[.pointer (some ⟨w.heap.size+1,0,none⟩)]] W fun e w'=>e=.returned (.bool ((m.fields.take i).any fun x=>decide (x.un=f.un)))/\Below W.heap.size W w':=fun W hb=>by
  refine qc5 VField VField.len _ _ (enters_of Tryz.func193 (by kernel_rfl) rfl) _ (m.fields.take i) _ W ⟨some ⟨b,off,none⟩,_,by rw [htake],by omega,by omega,fun j x hx=>?_⟩ (fun x vx W2 _ hx hb2=>?_)
  ·obtain⟨b',off',he,hb',hE⟩:=hel j x (qd3 _ _ _ _ hx)
   exact⟨b',off',he,Nat.lt_of_lt_of_le hb' (Bel.of kb hb).size,El.keeps VField.stays _ _ _ _ _ hb' (Bel.of kb hb) hE⟩
  obtain⟨_,_,rfl,⟨_,_,_,_,_,_,_,_,rfl,_⟩,hxn⟩:=hx;obtain⟨_,_,rfl,_⟩:=qa5 hxn;exact qcr x.num x.name x.card x.key x.tk x.tn x.un x.hd x.df.k x.df.x x.df.t _ _ _ _ _ _ _ _ _ _ _ _ _ _ _ f.un _ W2 (hb2.some (hKS W hb).2.2)
 have hu:=fun W=>qb1 f.un W hun
 have i0:(0:Int)<=(i:Int):=by omega
 have i1:(i:Int)<(m.fields.length:Int):=by omega
 have i2:(i:Int)<=(mc1:Int):=by omega
 simp only [h3]at hu;simp only [h4]at hc1;simp only [h5]at hc2;clear h3 h4 h5;have C1:=h_ hc1;have C2:=h_ hc2;have CU:=h_ hu;have KS:=h_ hKS;have HW:=h_ hWb;have HP:=h_ hprev;clear hc1 hc2 hu hKS hprev hel hce hnt htake;have he:=qb6 f.un h1;have he2:=qaw f.un h1;clear h1;have hb:=bne_f h2;clear h2;obtain⟨g,hg1,hg2⟩:=HP.out j hij;have hR2:=h_ ((hR g hg1).trans (eq_S g.un f.un).symm);have j0:(0:Int)<=(j:Int):=by omega
 have j1:(j:Int)<(m.fields.length:Int):=by omega
 have jw:IntKind.i64.wrap ((i:Int)-1)=(j:Int):=by rw [show(i:Int)-1=(j:Int)by omega];exact wrap_small _ (by omega) (by omega)
 have jw2:IntKind.i64.wrap (j:Int)=(j:Int):=wrap_small _ (by omega) (by omega);have jw3:(i:Int)-1=(j:Int):=by omega
 clear hij hR hg1
 go_enter Tryz.func160,Tryz.ntmps160
 go_upto_region 2 with(fail)
 all_goals (first|(exfalso;exact absurd HK.out.symm (by assumption))|(have h16:16=K:=(by assumption);subst h16))
 clear l2 aE zE
 go_upto_region 7 with(first
  | (go_at_call 124;(with_reducible refine(CU.out _).mono ?_);rintro e w1 ⟨rfl,g1⟩;have k1:Bel Wb w1:=(by first|(exact HW.out ▸ g1)|(exact Bel.of (by assumption) g1));obtain⟨s1,s2,s3⟩:=KS.out _ k1;clear g1)
  | (go_at_call 189;(with_reducible refine(C1.out _ (by assumption)).mono ?_);rintro e w2 ⟨rfl,g1⟩;have k2:Bel Wb w2:=Bel.of (by assumption) g1;obtain⟨s4,s5,s6⟩:=KS.out _ k2;clear g1)
  | (go_at_call 189;(with_reducible refine(C2.out _ (by assumption)).mono ?_);rintro e w3 ⟨rfl,g1⟩;have k3:Bel Wb w3:=Bel.of (by assumption) g1;obtain⟨s7,s8,s9⟩:=KS.out _ k3;clear g1))
 obtain⟨wd,hwd⟩ : ∃wd,wd=w3.drew:=⟨_,rfl⟩;have kd:Bel Wb wd:=by rw [hwd];exact Bel.drew k3
 have HWD:=h_ hwd;clear hwd s1 s2 s3 s4 s5 s6 s7 s8 s9;obtain⟨s1,s2,s3⟩:=KS.out _ kd;have s4:=(Bel.of kb kd).some hg2;refine qae 14 (by kernel_rfl) (by kernel_rfl) HWD.out ?_
 (simp only [t_1,t_2,t_3,t_4]);(repeat (first|((with_reducible refine wpStill_step (fun K hK=>?_));go_simp;(with_reducible refine hK _ ?_);clear hK K)|((with_reducible refine qaa ?_ ?_);(with_unfolding_all rfl))));(with_reducible refine wpStill_nil ?_)
 go_wp2
 all_goals go_ret
 all_goals exact⟨qa3 hR2.out.symm,Bel.out (Bel.of kb kd)⟩
theorem qr2 (i:Nat) (m:PMsg) (mn:Str) (mq1 mq2 mq3 mq4:Option Addr) (mm1 mm2 mm3 mm4 mc1 mc2 mc3 mc4:Nat) (w:World) (hv:VMsg w [.string (S mn),.slice mq1 mm1 mc1,.slice mq2 mm2 mc2,.slice mq3 mm3 mc3,.slice mq4 mm4 mc4] m) (hi:i<m.fields.length) (hun:m.fields[i].un.length<=1000000000000000) :
  Calls Tryz.prog 160 #[.agg #[.string (S mn),.slice mq1 mm1 mc1,.slice mq2 mm2 mc2,.slice mq3 mm3 mc3,.slice mq4 mm4 mc4],.int .i64 (i:Int)] w fun e w'=>e=.returned (.bool (qdt m i m.fields[i]))/\Below w.heap.size w w':=by
 have V:qdt m i m.fields[i]=if m.fields[i].un=[]then true else if m.fields[i].card ≠ 2 ∨ qa7 m.fields[i].un=false ∨ (m.fields.any fun x=>decide (x.name=m.fields[i].un))=true then false else if((m.fields.take i).any fun x=>decide (x.un=m.fields[i].un))=false then true else match m.fields[i-1]? with|some g=>decide (g.un=m.fields[i].un)|none=>false:=rfl
 by_cases h1:m.fields[i].un=[]
 ·exact un_A i m mn mq1 mq2 mq3 mq4 mm1 mm2 mm3 mm4 mc1 mc2 mc3 mc4 w hv hi hun _ (by rw [V,if_pos h1]) h1
 ·rw [if_neg h1]at V
  by_cases h2:m.fields[i].card=2
  ·cases h3:qa7 m.fields[i].un with
   | false=>exact un_C i m mn mq1 mq2 mq3 mq4 mm1 mm2 mm3 mm4 mc1 mc2 mc3 mc4 w hv hi hun _ (by rw [V,if_pos (.inr (.inl h3))]) h1 h2 h3
   | true=>
    cases h4:(m.fields.any fun x=>decide (x.name=m.fields[i].un))with
    | true=>exact un_D i m mn mq1 mq2 mq3 mq4 mm1 mm2 mm3 mm4 mc1 mc2 mc3 mc4 w hv hi hun _ (by rw [V,if_pos (.inr (.inr h4))]) h1 h2 h3 h4
    | false=>
     rw [if_neg (by rw [h3,h4];simp [h2])]at V;cases h5:((m.fields.take i).any fun x=>decide (x.un=m.fields[i].un))with
     | false=>exact un_E i m mn mq1 mq2 mq3 mq4 mm1 mm2 mm3 mm4 mc1 mc2 mc3 mc4 w hv hi hun _ (by rw [V,if_pos h5]) h1 h2 h3 h4 h5
     | true=>
      rw [if_neg (by rw [h5];exact Bool.noConfusion)]at V;have hi0:i ≠ 0:=by rintro rfl;simp at h5
      exact un_F i m mn mq1 mq2 mq3 mq4 mm1 mm2 mm3 mm4 mc1 mc2 mc3 mc4 w hv hi hun (i-1) (by omega) _ (fun g hg=>by rw [V,hg]) h1 h2 h3 h4 h5
  ·exact un_B i m mn mq1 mq2 mq3 mq4 mm1 mm2 mm3 mm4 mc1 mc2 mc3 mc4 w hv hi hun _ (by rw [V,if_pos (.inl h2)]) h1 h2
end Go.Proofs.YtfoaaglbpmmhiaaGreatDoor
