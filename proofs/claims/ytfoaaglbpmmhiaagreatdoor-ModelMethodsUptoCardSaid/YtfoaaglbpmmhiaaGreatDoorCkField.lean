import Derived.Test.YtfoaaglbpmmhiaaGreatDoorKitR
import Derived.Test.YtfoaaglbpmmhiaaGreatDoorCkDefE
import Derived.Test.YtfoaaglbpmmhiaaGreatDoorCkUnited
import Derived.Test.YtfoaaglbpmmhiaaGreatDoorCkSeen
import Derived.Test.YtfoaaglbpmmhiaaGreatDoorKitA
import Derived.Deep.DeepCutAuto
set_option maxRecDepth 100000
set_option maxHeartbeats 4000000
set_option linter.unusedVariables false
set_option linter.unusedSimpArgs false
namespace Go.Proofs.YtfoaaglbpmmhiaaGreatDoor
open Go.RowKit Ck
theorem texts_strs {w:World} {v:Value} {ks:List Str} (h:Texts w v ks):Strs w v ks:=by
 obtain ⟨q,c,rfl,hl,hcap,hel⟩:=h;cases ks with
 | nil => exact .inl ⟨rfl,q,c,rfl⟩
 | cons x r =>
  obtain ⟨b,off,rfl,hb,_⟩:=hel 0 x rfl;refine .inr ⟨b,off,c,rfl,hl,hb,fun j k hk => ?_⟩;obtain ⟨b',off',he,_,vs,hce,hvs⟩:=hel j k hk;cases he;have hvs':vs=[.string (S k)]:=hvs;have:=hce 0 (.string (S k)) (by rw [hvs'];rfl);rwa [Nat.mul_one,Nat.add_zero] at this
theorem fd_field (w0:World) (fb:Nat) (num:Int) (ps:List PProb) (w:World) (sq1 sq2 sq3:Option Addr) (sm1 sm2 sm3 sc1 sc2 sc3:Nat) (s:PSchema) (mn:Str) (mq1 mq2 mq3 mq4:Option Addr) (mm1 mm2 mm3 mm4 mc1 mc2 mc3 mc4:Nat) (m:PMsg) (i:Nat) (hF:Finder w0.heap.size fb m.name num ps w) (hps:ps.length<=100000000) (k0:Bel w0 w) (hs:VSchema w0 [.slice sq1 sm1 sc1,.slice sq2 sm2 sc2,.slice sq3 sm3 sc3] s) (hm0:VMsg w0 [.string (S mn),.slice mq1 mm1 mc1,.slice mq2 mm2 mc2,.slice mq3 mm3 mc3,.slice mq4 mm4 mc4] m) (hi:i < m.fields.length) (hb1:m.fields[i].name.length<=1000000000) (hb2:m.fields[i].un.length<=1000000000000000) (hb3 : ∀ n ∈ m.fields[i].notes,n.name.length<=1000000000) :
  Calls Tryz.prog 119 #[.pointer (some ⟨fb,0,none⟩),.agg #[.slice sq1 sm1 sc1,.slice sq2 sm2 sc2,.slice sq3 sm3 sc3],.agg #[.string (S mn),.slice mq1 mm1 mc1,.slice mq2 mm2 mc2,.slice mq3 mm3 mc3,.slice mq4 mm4 mc4],.int .i64 (i:Int)] w (FdPost w0 fb m.name (-1) (ps ++ fieldP s m i m.fields[i]) w):=by
 obtain ⟨_,_,_,_,hcm,hm1,hm2,hm3,hm4⟩:=hm0;cases hcm;obtain ⟨q,c,hq,hl,hcap,hel⟩:=hm1;cases hq;have hg:=List.getElem?_eq_getElem hi;obtain ⟨b,off,hbo,hbs,vs,hce,hvs⟩:=hel i _ hg;subst hbo;have hun:=ck_united i m m.name (some ⟨b,off,none⟩) mq2 mq3 mq4 m.fields.length mm2 mm3 mm4 mc1 mc2 mc3 mc4;have hUN : ∀ W,Bel w0 W->Calls Tryz.prog 160 #[.agg #[.string (S m.name),.slice (some ⟨b,off,none⟩) m.fields.length mc1,.slice mq2 mm2 mc2,.slice mq3 mm3 mc3,.slice mq4 mm4 mc4],.int .i64 (i:Int)] W fun e w' => e=.returned (.bool (united m i m.fields[i]))/\Below W.heap.size W w':=fun W k => hun W ⟨_,_,_,_,rfl,Sv.bel VField.stays ⟨_,_,rfl,hl,hcap,hel⟩ k,hm2.bel VSpan.stays k,hm3.bel VStr.stays k,hm4.bel VNote.stays k⟩ hi hb2
 have hSE : ∀ W,Bel w0 W->Calls Tryz.prog 156 #[.slice (some ⟨b,off,none⟩) m.fields.length mc1,.int .i64 (i:Int),.func (.func 157) #[] #[]] W fun e w' => e=.returned (.bool ((m.fields.take i).any fun x => decide (x.name=m.fields[i].name)))/\Below W.heap.size W w':=fun W k => ck_seenField _ m.fields i W (Sv.bel VField.stays ⟨_,_,rfl,hl,hcap,hel⟩ k) hi
 obtain ⟨_,_,hvs1,⟨r1,r2,r3,r4,d1,d2,d3,d4,hvv,hx0,hx1,hb1',hb2',hb3',hb4'⟩,hnt⟩:=hvs;obtain ⟨r5,d5,hnv,hnl⟩:=sl_form hnt;subst hvs1 hvv hnv
 have hprev : ∀ j,i=j + 1->∃ g:PField,m.fields[i - 1]? = some g/\w0.cell? ⟨b,off + j * 16,none⟩=some (.int .i64 g.num):=fun j hj => by
  have hgj:m.fields[j]? = some m.fields[j]:=List.getElem?_eq_getElem (by omega);obtain ⟨b',off',he,_,vs2,hce2,hvs2⟩:=hel j _ hgj;cases he;obtain ⟨_,_,rfl,⟨_,_,_,_,_,_,_,_,rfl,_⟩,_⟩:=hvs2;have hij:i - 1=j:=by omega
  exact ⟨_,by rw [hij];exact hgj,hce2 0 _ rfl⟩
 clear hun hb2;generalize m.fields[i]=f at *;have hTY : ∀ W,Bel w0 W->Calls Tryz.prog 159 #[.agg #[.slice sq1 sm1 sc1,.slice sq2 sm2 sc2,.slice sq3 sm3 sc3],.agg #[.int .i64 f.num,.string (S f.name),.int .i64 f.card,.int .i64 f.key,.int .i64 f.tk,.string (S f.tn),.string (S f.un),.bool f.hd,.int .i64 f.df.k,.int .u64 f.df.x,.string (S f.df.t),.slice r1 f.df.n1 d1,.slice r2 f.df.n2 d2,.slice r3 f.df.n3 d3,.slice r4 f.df.n4 d4,.slice r5 f.notes.length d5]] W fun e w' => e=.returned (.bool (typed s f))/\Below W.heap.size W w':=fun W k => ck_typed sq1 sq2 sq3 sm1 sm2 sm3 sc1 sc2 sc3 s f.num f.name f.card f.key f.tk f.tn f.un f.hd f.df.k f.df.x f.df.t r1 r2 r3 r4 r5 f.df.n1 d1 f.df.n2 d2 f.df.n3 d3 f.df.n4 d4 f.notes.length d5 f.notes W (hs.stays_bel k)
 have hDF : ∀ W,Bel w0 W->Calls Tryz.prog 161 #[.agg #[.slice sq1 sm1 sc1,.slice sq2 sm2 sc2,.slice sq3 sm3 sc3],.agg #[.int .i64 f.num,.string (S f.name),.int .i64 f.card,.int .i64 f.key,.int .i64 f.tk,.string (S f.tn),.string (S f.un),.bool f.hd,.int .i64 f.df.k,.int .u64 f.df.x,.string (S f.df.t),.slice r1 f.df.n1 d1,.slice r2 f.df.n2 d2,.slice r3 f.df.n3 d3,.slice r4 f.df.n4 d4,.slice r5 f.notes.length d5]] W fun e w' => e=.returned (.bool (defaulted s f))/\Below W.heap.size W w':=fun W k => ck_defaulted sq1 sq2 sq3 sm1 sm2 sm3 sc1 sc2 sc3 s f.num f.name f.card f.key f.tk f.tn f.un f.hd f.df.k f.df.x f.df.t r1 r2 r3 r4 r5 f.df.n1 d1 f.df.n2 d2 f.df.n3 d3 f.df.n4 d4 f.notes.length d5 f.notes W (hs.stays_bel k) hx0 hx1 hb1' hb2' hb3' hb4'
 have hUP : ∀ W,Calls Tryz.prog 124 #[.string (S f.name)] W fun e w' => e=.returned (.bool (usablePart f.name))/\Below W.heap.size W w':=fun W => ck_usablePart f.name W (by omega)
 have hRS : ∀ W,Bel w0 W->Calls Tryz.prog 127 #[.slice mq2 mm2 mc2,.int .i64 f.num] W fun e w' => e=.returned (.bool (reserved m.res f.num))/\Below W.heap.size W w':=fun W k => ck_Reserved _ m.res f.num W (hm2.bel VSpan.stays k)
 have hCN : ∀ W,Bel w0 W->Calls Tryz.prog 114 #[.slice mq3 mm3 mc3,.string (S f.name)] W fun e w' => e=.returned (.bool (Id.has m.gone f.name))/\W=w':=fun W k => id_contains _ m.gone (S f.name) f.name W (texts_strs (hm3.bel VStr.stays k)) rfl
 have hKY : ∀ W,Calls Tryz.prog 158 #[.int .i64 f.card,.int .i64 f.key] W fun e w' => e=.returned (.bool (keyed f.card f.key))/\W=w':=fun W => ck_keyed f.card f.key W
 have V:fieldP s m i f=un m.name f.num (decide (1<=f.num/\f.num<=65535)) 6 ++ un m.name f.num (decide (i=0) || (match m.fields[i - 1]? with | some g => decide (g.num < f.num) | none => false)) 11 ++ un m.name f.num (usablePart f.name) 8 ++ un m.name f.num (!((m.fields.take i).any fun x => decide (x.name=f.name))) 9 ++ un m.name f.num (!reserved m.res f.num && !Id.has m.gone f.name) 21 ++ un m.name f.num (decide (1<=f.card/\f.card<=5) && keyed f.card f.key) 1 ++ un m.name f.num (typed s f) 12 ++ un m.name f.num (united m i f) 15 ++ un m.name f.num (defaulted s f) 1 ++ noted m.name f.num f.notes 2:=rfl;generalize hO1:decide (1<=f.num/\f.num<=65535)=O1 at V;generalize hO2:(decide (i=0) || (match m.fields[i - 1]? with | some g => decide (g.num < f.num) | none => false))=O2 at V;generalize usablePart f.name=O3 at hUP V;generalize ((m.fields.take i).any fun x => decide (x.name=f.name))=Q4 at hSE V;generalize reserved m.res f.num=Q5 at hRS V;generalize Id.has m.gone f.name=Q5b at hCN V;generalize hO5:(!Q5 && !Q5b)=O5 at V;generalize keyed f.card f.key=Q6 at hKY V;generalize hO6:(decide (1<=f.card/\f.card<=5) && Q6)=O6 at V;generalize typed s f=O7 at hTY V;generalize united m i f=O8 at hUN V;generalize defaulted s f=O9 at hDF V
 have hpost : ∀ wx,FS w0 fb m.name (-1) w [] (ps.length + 10) ((((((((((ps ++ un m.name f.num O1 6) ++ un m.name f.num O2 11) ++ un m.name f.num O3 8) ++ un m.name f.num (!Q4) 9) ++ un m.name f.num O5 21) ++ un m.name f.num O6 1) ++ un m.name f.num O7 12) ++ un m.name f.num O8 15) ++ un m.name f.num O9 1) ++ noted m.name f.num f.notes 2) wx->Finder w0.heap.size fb m.name (-1) (ps ++ fieldP s m i f) wx/\Bel w0 wx/\Lib.OthersKept 164 (some fb) w wx:=fun wx h => by
  refine ⟨?_,h.2.1,h.2.2.1⟩;rw [V]
  simpa only [List.append_assoc] using h.1
 obtain ⟨BLK,hBLK⟩ : ∃ BLK:List (Nat × Array Value × TypeId),BLK=[(w.heap.size,#[.slice sq1 sm1 sc1,.slice sq2 sm2 sc2,.slice sq3 sm3 sc3],26),(w.heap.size + 1,#[.string (S m.name),.slice (some ⟨b,off,none⟩) m.fields.length mc1,.slice mq2 mm2 mc2,.slice mq3 mm3 mc3,.slice mq4 mm4 mc4],44),(w.heap.size + 1 + 1,#[.int .i64 f.num,.string (S f.name),.int .i64 f.card,.int .i64 f.key,.int .i64 f.tk,.string (S f.tn),.string (S f.un),.bool f.hd,.int .i64 f.df.k,.int .u64 f.df.x,.string (S f.df.t),.slice r1 f.df.n1 d1,.slice r2 f.df.n2 d2,.slice r3 f.df.n3 d3,.slice r4 f.df.n4 d4,.slice r5 f.notes.length d5],63)]:=⟨_,rfl⟩;have b1:(w.heap.size,#[.slice sq1 sm1 sc1,.slice sq2 sm2 sc2,.slice sq3 sm3 sc3],26) ∈ BLK:=by rw [hBLK];exact List.mem_cons_self
 have b2:(w.heap.size + 1,#[.string (S m.name),.slice (some ⟨b,off,none⟩) m.fields.length mc1,.slice mq2 mm2 mc2,.slice mq3 mm3 mc3,.slice mq4 mm4 mc4],44) ∈ BLK:=by rw [hBLK];exact List.mem_cons_of_mem _ List.mem_cons_self
 have b3:(w.heap.size + 1 + 1,#[.int .i64 f.num,.string (S f.name),.int .i64 f.card,.int .i64 f.key,.int .i64 f.tk,.string (S f.tn),.string (S f.un),.bool f.hd,.int .i64 f.df.k,.int .u64 f.df.x,.string (S f.df.t),.slice r1 f.df.n1 d1,.slice r2 f.df.n2 d2,.slice r3 f.df.n3 d3,.slice r4 f.df.n4 d4,.slice r5 f.notes.length d5],63) ∈ BLK:=by rw [hBLK];exact List.mem_cons_of_mem _ (List.mem_cons_of_mem _ List.mem_cons_self)
 have hflt:fb < w.heap.size:=hF.lt
 have hFS0:FS w0 fb m.name num w BLK ps.length ps (((w.alloc (.cells #[.slice sq1 sm1 sc1,.slice sq2 sm2 sc2,.slice sq3 sm3 sc3] 26)).alloc (.cells #[.string (S m.name),.slice (some ⟨b,off,none⟩) m.fields.length mc1,.slice mq2 mm2 mc2,.slice mq3 mm3 mc3,.slice mq4 mm4 mc4] 44)).alloc (.cells #[.int .i64 f.num,.string (S f.name),.int .i64 f.card,.int .i64 f.key,.int .i64 f.tk,.string (S f.tn),.string (S f.un),.bool f.hd,.int .i64 f.df.k,.int .u64 f.df.x,.string (S f.df.t),.slice r1 f.df.n1 d1,.slice r2 f.df.n2 d2,.slice r3 f.df.n3 d3,.slice r4 f.df.n4 d4,.slice r5 f.notes.length d5] 63)):=by
  have kk:Bel w (((w.alloc (.cells #[.slice sq1 sm1 sc1,.slice sq2 sm2 sc2,.slice sq3 sm3 sc3] 26)).alloc (.cells #[.string (S m.name),.slice (some ⟨b,off,none⟩) m.fields.length mc1,.slice mq2 mm2 mc2,.slice mq3 mm3 mc3,.slice mq4 mm4 mc4] 44)).alloc (.cells #[.int .i64 f.num,.string (S f.name),.int .i64 f.card,.int .i64 f.key,.int .i64 f.tk,.string (S f.tn),.string (S f.un),.bool f.hd,.int .i64 f.df.k,.int .u64 f.df.x,.string (S f.df.t),.slice r1 f.df.n1 d1,.slice r2 f.df.n2 d2,.slice r3 f.df.n3 d3,.slice r4 f.df.n4 d4,.slice r5 f.notes.length d5] 63)):=(((Bel.refl w).alloc _).alloc _).alloc _;refine ⟨hF.bel kk,Bel.of k0 kk,oth_bel kk,Nat.le_refl _,fun x hx => ?_⟩;rw [hBLK] at hx;simp only [List.mem_cons,List.not_mem_nil,or_false] at hx;rcases hx with rfl | rfl | rfl
  ·exact ⟨(heap_alloc_old _ _ (by simp;omega)).trans ((heap_alloc_old _ _ (by simp)).trans (heap_alloc_new _ _)),by show w.heap.size ≠ fb;omega,by show 26 ≠ 164;decide⟩
  ·exact ⟨(heap_alloc_old _ _ (by simp)).trans (heap_alloc_at _ _ _ (by simp)),by show w.heap.size + 1 ≠ fb;omega,by show 44 ≠ 164;decide⟩
  ·exact ⟨heap_alloc_at _ _ _ (by simp),by show w.heap.size + 1 + 1 ≠ fb;omega,by show 63 ≠ 164;decide⟩
 obtain ⟨fc,ffz⟩:=hFS0.fdcell;have FS0:=Lib.hid hFS0;have UN:=Lib.hid hUN;have SE:=Lib.hid hSE;have TY:=Lib.hid hTY;have DF:=Lib.hid hDF;have UP:=Lib.hid hUP;have RS:=Lib.hid hRS;have CN:=Lib.hid hCN;have KY:=Lib.hid hKY;have HO1:=Lib.hid hO1;have HO2:=Lib.hid hO2;have HO5:=Lib.hid hO5;have HO6:=Lib.hid hO6;have HPOST:=Lib.hid hpost;have HPV:=Lib.hid hprev;have HNT:=Lib.hid hnt;have HB3:=Lib.hid hb3;have aE:=agg_Field;obtain ⟨K,hK⟩ : ∃ K,K=16:=⟨_,rfl⟩;have zE : ∀ w,(Go.sizeOf 63).run Tryz.prog w=.ok K w:=hK ▸ size_Field
 have l2:Sem.run Tryz.prog (loadCellsFrom ⟨b,off + i * K,none⟩ 0 K #[]) ((w.alloc (.cells #[.slice sq1 sm1 sc1,.slice sq2 sm2 sc2,.slice sq3 sm3 sc3] 26)).alloc (.cells #[.string (S m.name),.slice (some ⟨b,off,none⟩) m.fields.length mc1,.slice mq2 mm2 mc2,.slice mq3 mm3 mc3,.slice mq4 mm4 mc4] 44))=.ok #[.int .i64 f.num,.string (S f.name),.int .i64 f.card,.int .i64 f.key,.int .i64 f.tk,.string (S f.tn),.string (S f.un),.bool f.hd,.int .i64 f.df.k,.int .u64 f.df.x,.string (S f.df.t),.slice r1 f.df.n1 d1,.slice r2 f.df.n2 d2,.slice r3 f.df.n3 d3,.slice r4 f.df.n4 d4,.slice r5 f.notes.length d5] ((w.alloc (.cells #[.slice sq1 sm1 sc1,.slice sq2 sm2 sc2,.slice sq3 sm3 sc3] 26)).alloc (.cells #[.string (S m.name),.slice (some ⟨b,off,none⟩) m.fields.length mc1,.slice mq2 mm2 mc2,.slice mq3 mm3 mc3,.slice mq4 mm4 mc4] 44)):=run_loadCellsFrom_list Tryz.prog _ _ _ K hK.symm (fun j v hj => by
  rw [hK,Addr.add_lit]
  exact (((Bel.of k0 (Bel.refl w)).alloc _).alloc _).some (hce j v hj))
 have HK:=Lib.hid hK;have i0:(0:Int)<=(i:Int):=by omega
 have i1:(i:Int) < (m.fields.length:Int):=by omega
 have hbw:b < w.heap.size:=Nat.lt_of_lt_of_le hbs k0.size;clear hK hFS0 hUN hSE hTY hDF hUP hRS hCN hKY hO1 hO2 hO5 hO6 hpost hprev hnt hb3 hb1 V hBLK hF hs hm2 hm3 hm4 hel hce hg hx0 hx1 hb1' hb2' hb3' hb4' hnl
 go_enter Tryz.func119,Tryz.ntmps119
 go_upto_region 2 with (fail)
 all_goals (first | (exfalso;exact absurd HK.out.symm (by assumption)) | (have h16:16=K:=(by assumption);subst h16))
 clear l2 aE zE HK
 go_cut [] (fun wx => FS w0 fb m.name f.num w BLK ps.length ps wx)
 case first =>
  go_wp2
  go_meet
  exact FS0.out.setnum
 case rest =>
  have hFS:=hcut;clear hcut
  go_upto_region 3 with (fail)
  go_cut [] (fun wx => FS w0 fb m.name f.num w BLK (ps.length + 1) (ps ++ un m.name f.num O1 6) wx)
  case first =>
   have kk1:=hFS.cell b1;have kk2:=hFS.cell b2;have kk3:=hFS.cell b3;by_cases ha:1<=f.num
   all_goals
    go_wp2_with (go_at_call 80;(with_reducible refine (hFS.unless (by omega) _ _).mono ?_);rintro e w9 ⟨rfl,h9⟩;have hend:=Lib.hid h9;clear h9)
    all_goals go_meet
    all_goals exact hend.out.okc (by rw [← HO1.out];first | (simp [ha];done) | (rw [Bool.eq_iff_iff];simp [ha];try omega))
  case rest =>
   have hFS:=hcut;clear hcut
   go_upto_region 4 with (fail)
   go_cut [] (fun wx => FS w0 fb m.name f.num w BLK (ps.length + 2) ((ps ++ un m.name f.num O1 6) ++ un m.name f.num O2 11) wx)
   case first =>
    obtain ⟨wd,hwd⟩ : ∃ wd,wd=wc.drew:=⟨_,rfl⟩;have kd:Bel wc wd:=by rw [hwd];exact (Bel.refl _).drew
    have HWD:=Lib.hid hwd;have hFd:=hFS.bel kd;have kk1:=hFd.cell b1;have kk2:=hFd.cell b2;have kk3:=hFd.cell b3;clear hwd;by_cases hi0:i=0
    ·have hO:O2=true:=by rw [← HO2.out,decide_eq_true hi0,Bool.true_or]
     subst hi0 hO;refine rg_tail 15 (by kernel_rfl) (by kernel_rfl) HWD.out ?_
     (simp only [List.take_succ_cons,List.take_zero,List.drop_succ_cons,List.drop_zero]);(repeat (first | ((with_reducible refine wpStill_step (fun K hK => ?_));go_simp;(with_reducible refine hK _ ?_);clear hK K) | ((with_reducible refine rg_skip ?_ ?_);(with_unfolding_all rfl))));(with_reducible refine wpStill_nil ?_)
     go_wp2_with (go_at_call 80;(with_reducible refine (hFd.unless (by omega) _ _).mono ?_);rintro e w9 ⟨rfl,h9⟩;have hend:=Lib.hid h9;clear h9)
     go_meet
     exact hend.out
    ·obtain ⟨j,hij⟩ : ∃ j,i=j + 1:=⟨i - 1,by omega⟩
     obtain ⟨g,hg1,hg2⟩:=HPV.out j hij;have hO:=Lib.hid (show decide (g.num < f.num)=O2 by rw [← HO2.out,hg1,decide_eq_false hi0,Bool.false_or]);have d1:=hFd.2.1.some hg2;have j0:(0:Int)<=(j:Int):=by omega
     have j1:(j:Int) < (m.fields.length:Int):=by omega
     have jn:((i:Int) == 0)=false:=by rw [beq_eq_false_iff_ne];omega
     have jw:IntKind.i64.wrap ((i:Int) - 1)=(j:Int):=by rw [show (i:Int) - 1=(j:Int) by omega];exact wrap_small _ (by omega) (by omega)
     have jw2:IntKind.i64.wrap (j:Int)=(j:Int):=wrap_small _ (by omega) (by omega);have jw3:(i:Int) - 1=(j:Int):=by omega
     clear hij hg1 hg2 hi0;refine rg_tail 15 (by kernel_rfl) (by kernel_rfl) HWD.out ?_
     (simp only [List.take_succ_cons,List.take_zero,List.drop_succ_cons,List.drop_zero]);(repeat (first | ((with_reducible refine wpStill_step (fun K hK => ?_));go_simp;(with_reducible refine hK _ ?_);clear hK K) | ((with_reducible refine rg_skip ?_ ?_);(with_unfolding_all rfl))));(with_reducible refine wpStill_nil ?_)
     go_wp2_with (go_at_call 80;(with_reducible refine (hFd.unless (by omega) _ _).mono ?_);rintro e w9 ⟨rfl,h9⟩;have hend:=Lib.hid h9;clear h9)
     go_meet
     exact hend.out.okc hO.out
   case rest =>
    have hFS:=hcut;clear hcut
    go_upto_region 5 with (fail)
    go_cut [] (fun wx => FS w0 fb m.name f.num w BLK (ps.length + 3) (((ps ++ un m.name f.num O1 6) ++ un m.name f.num O2 11) ++ un m.name f.num O3 8) wx)
    case first =>
     have kk1:=hFS.cell b1;have kk2:=hFS.cell b2;have kk3:=hFS.cell b3
     go_wp2_with (first
      | (go_at_call 124;(with_reducible refine (UP.out _).mono ?_);rintro e w1 ⟨rfl,g1⟩;have hF1:=FS.bel hFS g1;have kk1:=hF1.cell b1;have kk2:=hF1.cell b2;have kk3:=hF1.cell b3;clear g1)
      | (go_at_call 80;(with_reducible refine (hF1.unless (by omega) _ _).mono ?_);rintro e w9 ⟨rfl,h9⟩;have hend:=Lib.hid h9;clear h9))
     go_meet
     exact hend.out
    case rest =>
     have hFS:=hcut;clear hcut
     go_upto_region 6 with (fail)
     go_cut [] (fun wx => FS w0 fb m.name f.num w BLK (ps.length + 4) ((((ps ++ un m.name f.num O1 6) ++ un m.name f.num O2 11) ++ un m.name f.num O3 8) ++ un m.name f.num (!Q4) 9) wx)
     case first =>
      have kk1:=hFS.cell b1;have kk2:=hFS.cell b2;have kk3:=hFS.cell b3
      go_wp2_with (first
       | (go_at_call 156;(with_reducible refine (SE.out _ (FS.bel0 hFS)).mono ?_);rintro e w1 ⟨rfl,g1⟩;have hF1:=FS.bel hFS g1;have kk1:=hF1.cell b1;have kk2:=hF1.cell b2;have kk3:=hF1.cell b3;clear g1)
       | (go_at_call 80;(with_reducible refine (hF1.unless (by omega) _ _).mono ?_);rintro e w9 ⟨rfl,h9⟩;have hend:=Lib.hid h9;clear h9))
      go_meet
      exact hend.out
     case rest =>
      have hFS:=hcut;clear hcut
      go_upto_region 7 with (fail)
      go_cut [] (fun wx => FS w0 fb m.name f.num w BLK (ps.length + 5) (((((ps ++ un m.name f.num O1 6) ++ un m.name f.num O2 11) ++ un m.name f.num O3 8) ++ un m.name f.num (!Q4) 9) ++ un m.name f.num O5 21) wx)
      case first =>
       have kk1:=hFS.cell b1;have kk2:=hFS.cell b2;have kk3:=hFS.cell b3;cases Q5
       all_goals
        go_wp2_with (first
         | (go_at_call 127;(with_reducible refine (RS.out _ (FS.bel0 hFS)).mono ?_);rintro e w1 ⟨rfl,g1⟩;have hF1:=FS.bel hFS g1;have kk1:=hF1.cell b1;have kk2:=hF1.cell b2;have kk3:=hF1.cell b3;clear g1)
         | (go_at_call 114;(with_reducible refine (CN.out _ (FS.bel0 hF1)).mono ?_);rintro e w2 ⟨rfl,rfl⟩)
         | (go_at_call 80;(with_reducible refine (hF1.unless (by omega) _ _).mono ?_);rintro e w9 ⟨rfl,h9⟩;have hend:=Lib.hid h9;clear h9))
        all_goals go_meet
        all_goals exact hend.out.okc (by rw [← HO5.out];simp)
      case rest =>
       have hFS:=hcut;clear hcut
       go_upto_region 8 with (fail)
       go_cut [] (fun wx => FS w0 fb m.name f.num w BLK (ps.length + 6) ((((((ps ++ un m.name f.num O1 6) ++ un m.name f.num O2 11) ++ un m.name f.num O3 8) ++ un m.name f.num (!Q4) 9) ++ un m.name f.num O5 21) ++ un m.name f.num O6 1) wx)
       case first =>
        have kk1:=hFS.cell b1;have kk2:=hFS.cell b2;have kk3:=hFS.cell b3
        have hcase:(1<=f.card/\f.card<=5/\O6=Q6) ∨ (f.card < 1/\O6=false) ∨ (1<=f.card/\5 < f.card/\O6=false):=by
         by_cases ha:1<=f.card
         ·by_cases hb:f.card<=5
          ·exact .inl ⟨ha,hb,by rw [← HO6.out,decide_eq_true ⟨ha,hb⟩,Bool.true_and]⟩
          ·exact .inr (.inr ⟨ha,by omega,by rw [← HO6.out,decide_eq_false (fun h => hb h.2),Bool.false_and]⟩)
         ·exact .inr (.inl ⟨by omega,by rw [← HO6.out,decide_eq_false (fun h => ha h.1),Bool.false_and]⟩)
        rcases hcase with ⟨ha,hb,hO⟩ | ⟨ha,hO⟩ | ⟨ha,hb,hO⟩
        all_goals (have HO:=Lib.hid hO;clear hO)
        all_goals
         go_wp2_with (first
          | (go_at_call 158;(with_reducible refine (KY.out _).mono ?_);rintro e w2 ⟨rfl,rfl⟩)
          | (go_at_call 80;(with_reducible refine (hFS.unless (by omega) _ _).mono ?_);rintro e w9 ⟨rfl,h9⟩;have hend:=Lib.hid h9;clear h9))
         all_goals go_meet
         all_goals exact hend.out.okc HO.out.symm
       case rest =>
        have hFS:=hcut;clear hcut
        go_upto_region 9 with (fail)
        go_cut [] (fun wx => FS w0 fb m.name f.num w BLK (ps.length + 7) (((((((ps ++ un m.name f.num O1 6) ++ un m.name f.num O2 11) ++ un m.name f.num O3 8) ++ un m.name f.num (!Q4) 9) ++ un m.name f.num O5 21) ++ un m.name f.num O6 1) ++ un m.name f.num O7 12) wx)
        case first =>
         have kk1:=hFS.cell b1;have kk3:=hFS.cell b3;have aE:=agg_Field;obtain ⟨K,hK⟩ : ∃ K,K=16:=⟨_,rfl⟩;have zE : ∀ w,(Go.sizeOf 63).run Tryz.prog w=.ok K w:=hK ▸ size_Field
         have l2:Sem.run Tryz.prog (loadCellsFrom ⟨w.heap.size + 1 + 1,0,none⟩ 0 K #[]) wc=.ok #[.int .i64 f.num,.string (S f.name),.int .i64 f.card,.int .i64 f.key,.int .i64 f.tk,.string (S f.tn),.string (S f.un),.bool f.hd,.int .i64 f.df.k,.int .u64 f.df.x,.string (S f.df.t),.slice r1 f.df.n1 d1,.slice r2 f.df.n2 d2,.slice r3 f.df.n3 d3,.slice r4 f.df.n4 d4,.slice r5 f.notes.length d5] wc:=run_loadCellsFrom_list Tryz.prog _ _ _ K hK.symm (fun j v hj => by
          rw [Addr.add_lit,Nat.zero_add,kk3 j,List.getElem?_toArray]
          exact hj)
         clear hK
         go_wp2_with (first
          | (go_at_call 159;(with_reducible refine (TY.out _ (FS.bel0 hFS)).mono ?_);rintro e w1 ⟨rfl,g1⟩;have hF1:=FS.bel hFS g1;have kk1:=hF1.cell b1;have kk2:=hF1.cell b2;have kk3:=hF1.cell b3;clear g1)
          | (go_at_call 80;(with_reducible refine (hF1.unless (by omega) _ _).mono ?_);rintro e w9 ⟨rfl,h9⟩;have hend:=Lib.hid h9;clear h9))
         go_meet
         exact hend.out
        case rest =>
         have hFS:=hcut;clear hcut
         go_upto_region 10 with (fail)
         go_cut [] (fun wx => FS w0 fb m.name f.num w BLK (ps.length + 8) ((((((((ps ++ un m.name f.num O1 6) ++ un m.name f.num O2 11) ++ un m.name f.num O3 8) ++ un m.name f.num (!Q4) 9) ++ un m.name f.num O5 21) ++ un m.name f.num O6 1) ++ un m.name f.num O7 12) ++ un m.name f.num O8 15) wx)
         case first =>
          have kk1:=hFS.cell b1;have kk2:=hFS.cell b2;have kk3:=hFS.cell b3
          go_wp2_with (first
           | (go_at_call 160;(with_reducible refine (UN.out _ (FS.bel0 hFS)).mono ?_);rintro e w1 ⟨rfl,g1⟩;have hF1:=FS.bel hFS g1;have kk1:=hF1.cell b1;have kk2:=hF1.cell b2;have kk3:=hF1.cell b3;clear g1)
           | (go_at_call 80;(with_reducible refine (hF1.unless (by omega) _ _).mono ?_);rintro e w9 ⟨rfl,h9⟩;have hend:=Lib.hid h9;clear h9))
          go_meet
          exact hend.out
         case rest =>
          have hFS:=hcut;clear hcut
          go_upto_region 11 with (fail)
          go_cut [] (fun wx => FS w0 fb m.name f.num w BLK (ps.length + 9) (((((((((ps ++ un m.name f.num O1 6) ++ un m.name f.num O2 11) ++ un m.name f.num O3 8) ++ un m.name f.num (!Q4) 9) ++ un m.name f.num O5 21) ++ un m.name f.num O6 1) ++ un m.name f.num O7 12) ++ un m.name f.num O8 15) ++ un m.name f.num O9 1) wx)
          case first =>
           have kk1:=hFS.cell b1;have kk3:=hFS.cell b3;have aE:=agg_Field;obtain ⟨K,hK⟩ : ∃ K,K=16:=⟨_,rfl⟩;have zE : ∀ w,(Go.sizeOf 63).run Tryz.prog w=.ok K w:=hK ▸ size_Field
           have l2:Sem.run Tryz.prog (loadCellsFrom ⟨w.heap.size + 1 + 1,0,none⟩ 0 K #[]) wc=.ok #[.int .i64 f.num,.string (S f.name),.int .i64 f.card,.int .i64 f.key,.int .i64 f.tk,.string (S f.tn),.string (S f.un),.bool f.hd,.int .i64 f.df.k,.int .u64 f.df.x,.string (S f.df.t),.slice r1 f.df.n1 d1,.slice r2 f.df.n2 d2,.slice r3 f.df.n3 d3,.slice r4 f.df.n4 d4,.slice r5 f.notes.length d5] wc:=run_loadCellsFrom_list Tryz.prog _ _ _ K hK.symm (fun j v hj => by
            rw [Addr.add_lit,Nat.zero_add,kk3 j,List.getElem?_toArray]
            exact hj)
           clear hK
           go_wp2_with (first
            | (go_at_call 161;(with_reducible refine (DF.out _ (FS.bel0 hFS)).mono ?_);rintro e w1 ⟨rfl,g1⟩;have hF1:=FS.bel hFS g1;have kk1:=hF1.cell b1;have kk2:=hF1.cell b2;have kk3:=hF1.cell b3;clear g1)
            | (go_at_call 80;(with_reducible refine (hF1.unless (by omega) _ _).mono ?_);rintro e w9 ⟨rfl,h9⟩;have hend:=Lib.hid h9;clear h9))
           go_meet
           exact hend.out
          case rest =>
           have hFS:=hcut;clear hcut;have kk1:=hFS.cell b1;have kk2:=hFS.cell b2;have kk3:=hFS.cell b3;obtain ⟨q1,q2⟩:=hFS.fdcell
           go_upto_region 13 with (go_at_call 122;(with_reducible refine (hFS.noted (by omega) _ _ _ HNT.out HB3.out).mono ?_);rintro e w9 ⟨rfl,h9⟩)
           obtain ⟨z1,z2⟩:=h9.fdcell;have Z:=Lib.hid (HPOST.out _ (FS.thin h9.setnum));clear hFS kk1 kk2 kk3 q1 q2 h9
           go_wp2
           exact bodyPost_end (results_none (by rfl) _ _ _) rfl ⟨rfl,Z.out⟩
end Go.Proofs.YtfoaaglbpmmhiaaGreatDoor
