import Derived.Test.YtfoaaglbpmmhiaaGreatDoorKitC
import Derived.Test.YtfoaaglbpmmhiaaGreatDoorCkDefE
import Derived.Test.YtfoaaglbpmmhiaaGreatDoorCkUnited
import Derived.Test.YtfoaaglbpmmhiaaGreatDoorCkSeen
import Derived.Test.YtfoaaglbpmmhiaaGreatDoorKitA
import Derived.Deep.DeepCutAuto
import Derived.Test.YtfoaaglbpmmhiaaGreatDoorCkNote1
set_option maxRecDepth 100000
set_option maxHeartbeats 4000000
set_option linter.unusedVariables false
set_option linter.unusedSimpArgs false
namespace Go.Proofs.YtfoaaglbpmmhiaaGreatDoor
section
open Go.RowKit Ck
theorem qdv {w:World} {v:Value} {ks:List Str} (h:Texts w v ks):Strs w v ks:=by
 obtain⟨q,c,rfl,hl,hcap,hel⟩:=h;cases ks with
 | nil=>exact .inl ⟨rfl,q,c,rfl⟩
 | cons x r=>
  obtain⟨b,off,rfl,hb,_⟩:=hel 0 x rfl;refine .inr ⟨b,off,c,rfl,hl,hb,fun j k hk=>?_⟩;obtain⟨b',off',he,_,vs,hce,hvs⟩:=hel j k hk;cases he;have hvs':vs=[.string (S k)]:=hvs;have:=hce 0 (.string (S k)) (by rw [hvs'];rfl);rwa [Nat.mul_one,Nat.add_zero]at this
theorem fd_field (w0:World) (fb:Nat) (num:Int) (ps:List PProb) (w:World) (sq1 sq2 sq3:Option Addr) (sm1 sm2 sm3 sc1 sc2 sc3:Nat) (s:PSchema) (mn:Str) (mq1 mq2 mq3 mq4:Option Addr) (mm1 mm2 mm3 mm4 mc1 mc2 mc3 mc4:Nat) (m:PMsg) (i:Nat) (hF:Finder w0.heap.size fb m.name num ps w) (hps:ps.length<=100000000) (k0:Bel w0 w) (hs:VSchema w0 [.slice sq1 sm1 sc1,.slice sq2 sm2 sc2,.slice sq3 sm3 sc3] s) (hm0:VMsg w0 [.string (S mn),.slice mq1 mm1 mc1,.slice mq2 mm2 mc2,.slice mq3 mm3 mc3,.slice mq4 mm4 mc4] m) (hi:i<m.fields.length) (hb1:m.fields[i].name.length<=1000000000) (hb2:m.fields[i].un.length<=1000000000000000) (hb3 : ∀n ∈ m.fields[i].notes,n.name.length<=1000000000) :
  Calls Tryz.prog 119 #[.pointer (some ⟨fb,0,none⟩),.agg #[.slice sq1 sm1 sc1,.slice sq2 sm2 sc2,.slice sq3 sm3 sc3],.agg #[.string (S mn),.slice mq1 mm1 mc1,.slice mq2 mm2 mc2,.slice mq3 mm3 mc3,.slice mq4 mm4 mc4],.int .i64 (i:Int)] w (qp6 w0 fb m.name (-1) (ps ++ qdr s m i m.fields[i]) w):=by
 obtain⟨_,_,_,_,hcm,hm1,hm2,hm3,hm4⟩:=hm0;cases hcm;obtain⟨q,c,hq,hl,hcap,hel⟩:=hm1;cases hq;have hg:=List.getElem?_eq_getElem hi;obtain⟨b,off,hbo,hbs,vs,hce,hvs⟩:=hel i _ hg;subst hbo;have hun:=qr2 i m m.name (some ⟨b,off,none⟩) mq2 mq3 mq4 m.fields.length mm2 mm3 mm4 mc1 mc2 mc3 mc4;have hUN : ∀W,Bel w0 W->Calls Tryz.prog 160 #[.agg #[.string (S m.name),.slice (some ⟨b,off,none⟩) m.fields.length mc1,.slice mq2 mm2 mc2,.slice mq3 mm3 mc3,.slice mq4 mm4 mc4],.int .i64 (i:Int)] W fun e w'=>e=.returned (.bool (qdt m i m.fields[i]))/\Below W.heap.size W w':=fun W k=>hun W ⟨_,_,_,_,rfl,Sv.bel VField.stays ⟨_,_,rfl,hl,hcap,hel⟩ k,hm2.bel VSpan.stays k,hm3.bel VStr.stays k,hm4.bel VNote.stays k⟩ hi hb2
 have hSE : ∀W,Bel w0 W->Calls Tryz.prog 156 #[.slice (some ⟨b,off,none⟩) m.fields.length mc1,.int .i64 (i:Int),.func (.func 157) #[] #[]] W fun e w'=>e=.returned (.bool ((m.fields.take i).any fun x=>decide (x.name=m.fields[i].name)))/\Below W.heap.size W w':=fun W k=>qjy _ m.fields i W (Sv.bel VField.stays ⟨_,_,rfl,hl,hcap,hel⟩ k) hi
 obtain⟨_,_,hvs1,⟨r1,r2,r3,r4,d1,d2,d3,d4,hvv,hx0,hx1,hb1',hb2',hb3',hb4'⟩,hnt⟩:=hvs;obtain⟨r5,d5,hnv,hnl⟩:=qa5 hnt;subst hvs1 hvv hnv
 have hprev : ∀j,i=j+1->∃g:PField,m.fields[i-1]? = some g/\w0.cell? ⟨b,off+j*16,none⟩=some (.int .i64 g.num):=fun j hj=>by
  have hgj:m.fields[j]? = some m.fields[j]:=List.getElem?_eq_getElem (by omega);obtain⟨b',off',he,_,vs2,hce2,hvs2⟩:=hel j _ hgj;cases he;obtain⟨_,_,rfl,⟨_,_,_,_,_,_,_,_,rfl,_⟩,_⟩:=hvs2;have hij:i-1=j:=by omega
  exact⟨_,by rw [hij];exact hgj,hce2 0 _ rfl⟩
 clear hun hb2;generalize m.fields[i]=f at *;have hTY : ∀W,Bel w0 W->Calls Tryz.prog 159 #[.agg #[.slice sq1 sm1 sc1,.slice sq2 sm2 sc2,.slice sq3 sm3 sc3],.agg #[.int .i64 f.num,.string (S f.name),.int .i64 f.card,.int .i64 f.key,.int .i64 f.tk,.string (S f.tn),.string (S f.un),.bool f.hd,.int .i64 f.df.k,.int .u64 f.df.x,.string (S f.df.t),.slice r1 f.df.n1 d1,.slice r2 f.df.n2 d2,.slice r3 f.df.n3 d3,.slice r4 f.df.n4 d4,.slice r5 f.notes.length d5]] W fun e w'=>e=.returned (.bool (typed s f))/\Below W.heap.size W w':=fun W k=>ck_typed sq1 sq2 sq3 sm1 sm2 sm3 sc1 sc2 sc3 s f.num f.name f.card f.key f.tk f.tn f.un f.hd f.df.k f.df.x f.df.t r1 r2 r3 r4 r5 f.df.n1 d1 f.df.n2 d2 f.df.n3 d3 f.df.n4 d4 f.notes.length d5 f.notes W (hs.stays_bel k)
 have hDF : ∀W,Bel w0 W->Calls Tryz.prog 161 #[.agg #[.slice sq1 sm1 sc1,.slice sq2 sm2 sc2,.slice sq3 sm3 sc3],.agg #[.int .i64 f.num,.string (S f.name),.int .i64 f.card,.int .i64 f.key,.int .i64 f.tk,.string (S f.tn),.string (S f.un),.bool f.hd,.int .i64 f.df.k,.int .u64 f.df.x,.string (S f.df.t),.slice r1 f.df.n1 d1,.slice r2 f.df.n2 d2,.slice r3 f.df.n3 d3,.slice r4 f.df.n4 d4,.slice r5 f.notes.length d5]] W fun e w'=>e=.returned (.bool (qbs s f))/\Below W.heap.size W w':=fun W k=>qk1 sq1 sq2 sq3 sm1 sm2 sm3 sc1 sc2 sc3 s f.num f.name f.card f.key f.tk f.tn f.un f.hd f.df.k f.df.x f.df.t r1 r2 r3 r4 r5 f.df.n1 d1 f.df.n2 d2 f.df.n3 d3 f.df.n4 d4 f.notes.length d5 f.notes W (hs.stays_bel k) hx0 hx1 hb1' hb2' hb3' hb4'
 have hUP : ∀W,Calls Tryz.prog 124 #[.string (S f.name)] W fun e w'=>e=.returned (.bool (qa7 f.name))/\Below W.heap.size W w':=fun W=>qb1 f.name W (by omega)
 have hRS : ∀W,Bel w0 W->Calls Tryz.prog 127 #[.slice mq2 mm2 mc2,.int .i64 f.num] W fun e w'=>e=.returned (.bool (qbj m.res f.num))/\Below W.heap.size W w':=fun W k=>qgu _ m.res f.num W (hm2.bel VSpan.stays k)
 have hCN : ∀W,Bel w0 W->Calls Tryz.prog 114 #[.slice mq3 mm3 mc3,.string (S f.name)] W fun e w'=>e=.returned (.bool (Id.has m.gone f.name))/\W=w':=fun W k=>qgo _ m.gone (S f.name) f.name W (qdv (hm3.bel VStr.stays k)) rfl
 have hKY : ∀W,Calls Tryz.prog 158 #[.int .i64 f.card,.int .i64 f.key] W fun e w'=>e=.returned (.bool (keyed f.card f.key))/\W=w':=fun W=>ck_keyed f.card f.key W
 have V:qdr s m i f=un m.name f.num (decide (1<=f.num/\f.num<=65535)) 6 ++ un m.name f.num (decide (i=0) || (match m.fields[i-1]? with|some g=>decide (g.num<f.num)|none=>false)) 11 ++ un m.name f.num (qa7 f.name) 8 ++ un m.name f.num (!((m.fields.take i).any fun x=>decide (x.name=f.name))) 9 ++ un m.name f.num (!qbj m.res f.num && !Id.has m.gone f.name) 21 ++ un m.name f.num (decide (1<=f.card/\f.card<=5) && keyed f.card f.key) 1 ++ un m.name f.num (typed s f) 12 ++ un m.name f.num (qdt m i f) 15 ++ un m.name f.num (qbs s f) 1 ++ noted m.name f.num f.notes 2:=rfl;generalize hO1:decide (1<=f.num/\f.num<=65535)=O1 at V;generalize hO2:(decide (i=0) || (match m.fields[i-1]? with|some g=>decide (g.num<f.num)|none=>false))=O2 at V;generalize qa7 f.name=O3 at hUP V;generalize ((m.fields.take i).any fun x=>decide (x.name=f.name))=Q4 at hSE V;generalize qbj m.res f.num=Q5 at hRS V;generalize Id.has m.gone f.name=Q5b at hCN V;generalize hO5:(!Q5 && !Q5b)=O5 at V;generalize keyed f.card f.key=Q6 at hKY V;generalize hO6:(decide (1<=f.card/\f.card<=5) && Q6)=O6 at V;generalize typed s f=O7 at hTY V;generalize qdt m i f=O8 at hUN V;generalize qbs s f=O9 at hDF V
 have hpost : ∀wx,FS w0 fb m.name (-1) w [] (ps.length+10) ((((((((((ps ++ un m.name f.num O1 6) ++ un m.name f.num O2 11) ++ un m.name f.num O3 8) ++ un m.name f.num (!Q4) 9) ++ un m.name f.num O5 21) ++ un m.name f.num O6 1) ++ un m.name f.num O7 12) ++ un m.name f.num O8 15) ++ un m.name f.num O9 1) ++ noted m.name f.num f.notes 2) wx->Finder w0.heap.size fb m.name (-1) (ps ++ qdr s m i f) wx/\Bel w0 wx/\Lib.OthersKept 164 (some fb) w wx:=fun wx h=>by
  refine⟨?_,h.2.1,h.2.2.1⟩;rw [V]
  simpa only [List.append_assoc]using h.1
 obtain⟨BLK,hBLK⟩ : ∃BLK:List (Nat × Array Value × TypeId),BLK=[(w.heap.size,#[.slice sq1 sm1 sc1,.slice sq2 sm2 sc2,.slice sq3 sm3 sc3],26),(w.heap.size+1,#[.string (S m.name),.slice (some ⟨b,off,none⟩) m.fields.length mc1,.slice mq2 mm2 mc2,.slice mq3 mm3 mc3,.slice mq4 mm4 mc4],44),(w.heap.size+1+1,#[.int .i64 f.num,.string (S f.name),.int .i64 f.card,.int .i64 f.key,.int .i64 f.tk,.string (S f.tn),.string (S f.un),.bool f.hd,.int .i64 f.df.k,.int .u64 f.df.x,.string (S f.df.t),.slice r1 f.df.n1 d1,.slice r2 f.df.n2 d2,.slice r3 f.df.n3 d3,.slice r4 f.df.n4 d4,.slice r5 f.notes.length d5],63)]:=⟨_,rfl⟩;have b1:(w.heap.size,#[.slice sq1 sm1 sc1,.slice sq2 sm2 sc2,.slice sq3 sm3 sc3],26) ∈ BLK:=by rw [hBLK];exact List.mem_cons_self
 have b2:(w.heap.size+1,#[.string (S m.name),.slice (some ⟨b,off,none⟩) m.fields.length mc1,.slice mq2 mm2 mc2,.slice mq3 mm3 mc3,.slice mq4 mm4 mc4],44) ∈ BLK:=by rw [hBLK];exact List.mem_cons_of_mem _ List.mem_cons_self
 have b3:(w.heap.size+1+1,#[.int .i64 f.num,.string (S f.name),.int .i64 f.card,.int .i64 f.key,.int .i64 f.tk,.string (S f.tn),.string (S f.un),.bool f.hd,.int .i64 f.df.k,.int .u64 f.df.x,.string (S f.df.t),.slice r1 f.df.n1 d1,.slice r2 f.df.n2 d2,.slice r3 f.df.n3 d3,.slice r4 f.df.n4 d4,.slice r5 f.notes.length d5],63) ∈ BLK:=by rw [hBLK];exact List.mem_cons_of_mem _ (List.mem_cons_of_mem _ List.mem_cons_self)
 have hflt:fb<w.heap.size:=hF.lt
 have hFS0:FS w0 fb m.name num w BLK ps.length ps (((w.alloc (.cells #[.slice sq1 sm1 sc1,.slice sq2 sm2 sc2,.slice sq3 sm3 sc3] 26)).alloc (.cells #[.string (S m.name),.slice (some ⟨b,off,none⟩) m.fields.length mc1,.slice mq2 mm2 mc2,.slice mq3 mm3 mc3,.slice mq4 mm4 mc4] 44)).alloc (.cells #[.int .i64 f.num,.string (S f.name),.int .i64 f.card,.int .i64 f.key,.int .i64 f.tk,.string (S f.tn),.string (S f.un),.bool f.hd,.int .i64 f.df.k,.int .u64 f.df.x,.string (S f.df.t),.slice r1 f.df.n1 d1,.slice r2 f.df.n2 d2,.slice r3 f.df.n3 d3,.slice r4 f.df.n4 d4,.slice r5 f.notes.length d5] 63)):=by
  have kk:Bel w (((w.alloc (.cells #[.slice sq1 sm1 sc1,.slice sq2 sm2 sc2,.slice sq3 sm3 sc3] 26)).alloc (.cells #[.string (S m.name),.slice (some ⟨b,off,none⟩) m.fields.length mc1,.slice mq2 mm2 mc2,.slice mq3 mm3 mc3,.slice mq4 mm4 mc4] 44)).alloc (.cells #[.int .i64 f.num,.string (S f.name),.int .i64 f.card,.int .i64 f.key,.int .i64 f.tk,.string (S f.tn),.string (S f.un),.bool f.hd,.int .i64 f.df.k,.int .u64 f.df.x,.string (S f.df.t),.slice r1 f.df.n1 d1,.slice r2 f.df.n2 d2,.slice r3 f.df.n3 d3,.slice r4 f.df.n4 d4,.slice r5 f.notes.length d5] 63)):=(((Bel.refl w).alloc _).alloc _).alloc _;refine⟨hF.bel kk,Bel.of k0 kk,qfd kk,Nat.le_refl _,fun x hx=>?_⟩;rw [hBLK]at hx;simp only [List.mem_cons,List.not_mem_nil,or_false]at hx;rcases hx with rfl|rfl|rfl
  ·exact⟨(heap_alloc_old _ _ (by simp;omega)).trans ((heap_alloc_old _ _ (by simp)).trans (heap_alloc_new _ _)),by show w.heap.size ≠ fb;omega,by show 26 ≠ 164;decide⟩
  ·exact⟨(heap_alloc_old _ _ (by simp)).trans (qb0 _ _ _ (by simp)),by show w.heap.size+1 ≠ fb;omega,by show 44 ≠ 164;decide⟩
  ·exact⟨qb0 _ _ _ (by simp),by show w.heap.size+1+1 ≠ fb;omega,by show 63 ≠ 164;decide⟩
 obtain⟨fc,ffz⟩:=hFS0.fdcell;have FS0:=h_ hFS0;have UN:=h_ hUN;have SE:=h_ hSE;have TY:=h_ hTY;have DF:=h_ hDF;have UP:=h_ hUP;have RS:=h_ hRS;have CN:=h_ hCN;have KY:=h_ hKY;have HO1:=h_ hO1;have HO2:=h_ hO2;have HO5:=h_ hO5;have HO6:=h_ hO6;have HPOST:=h_ hpost;have HPV:=h_ hprev;have HNT:=h_ hnt;have HB3:=h_ hb3;have aE:=qas;obtain⟨K,hK⟩ : ∃K,K=16:=⟨_,rfl⟩;have zE : ∀w,(Go.sizeOf 63).run Tryz.prog w=.ok K w:=hK ▸ qal
 have l2:Sem.run Tryz.prog (loadCellsFrom ⟨b,off+i*K,none⟩ 0 K #[]) ((w.alloc (.cells #[.slice sq1 sm1 sc1,.slice sq2 sm2 sc2,.slice sq3 sm3 sc3] 26)).alloc (.cells #[.string (S m.name),.slice (some ⟨b,off,none⟩) m.fields.length mc1,.slice mq2 mm2 mc2,.slice mq3 mm3 mc3,.slice mq4 mm4 mc4] 44))=.ok #[.int .i64 f.num,.string (S f.name),.int .i64 f.card,.int .i64 f.key,.int .i64 f.tk,.string (S f.tn),.string (S f.un),.bool f.hd,.int .i64 f.df.k,.int .u64 f.df.x,.string (S f.df.t),.slice r1 f.df.n1 d1,.slice r2 f.df.n2 d2,.slice r3 f.df.n3 d3,.slice r4 f.df.n4 d4,.slice r5 f.notes.length d5] ((w.alloc (.cells #[.slice sq1 sm1 sc1,.slice sq2 sm2 sc2,.slice sq3 sm3 sc3] 26)).alloc (.cells #[.string (S m.name),.slice (some ⟨b,off,none⟩) m.fields.length mc1,.slice mq2 mm2 mc2,.slice mq3 mm3 mc3,.slice mq4 mm4 mc4] 44)):=run_loadCellsFrom_list Tryz.prog _ _ _ K hK.symm (fun j v hj=>by
  rw [hK,Addr.add_lit]
  exact(((Bel.of k0 (Bel.refl w)).alloc _).alloc _).some (hce j v hj))
 have HK:=h_ hK;have i0:(0:Int)<=(i:Int):=by omega
 have i1:(i:Int)<(m.fields.length:Int):=by omega
 have hbw:b<w.heap.size:=Nat.lt_of_lt_of_le hbs k0.size;clear hK hFS0 hUN hSE hTY hDF hUP hRS hCN hKY hO1 hO2 hO5 hO6 hpost hprev hnt hb3 hb1 V hBLK hF hs hm2 hm3 hm4 hel hce hg hx0 hx1 hb1' hb2' hb3' hb4' hnl
 go_enter Tryz.func119,Tryz.ntmps119
 go_upto_region 2 with(fail)
 all_goals (first|(exfalso;exact absurd HK.out.symm (by assumption))|(have h16:16=K:=(by assumption);subst h16))
 clear l2 aE zE HK
 go_cut [] (fun wx=>FS w0 fb m.name f.num w BLK ps.length ps wx)
 case first=>
  go_wp2;go_meet
  exact FS0.out.setnum
 case rest=>
  have hFS:=hcut;clear hcut
  go_upto_region 3 with(fail)
  go_cut [] (fun wx=>FS w0 fb m.name f.num w BLK (ps.length+1) (ps ++ un m.name f.num O1 6) wx)
  case first=>
   have kk1:=hFS.cell b1;have kk2:=hFS.cell b2;have kk3:=hFS.cell b3;by_cases ha:1<=f.num
   all_goals
    go_wp2_with (go_at_call 80;(with_reducible refine(hFS.unless (by omega) _ _).mono ?_);rintro e w9 ⟨rfl,h9⟩;have hend:=h_ h9;clear h9)
    all_goals go_meet
    all_goals exact hend.out.okc (by rw [←HO1.out];first|(simp [ha];done)|(rw [Bool.eq_iff_iff];simp [ha];try omega))
  case rest=>
   have hFS:=hcut;clear hcut
   go_upto_region 4 with(fail)
   go_cut [] (fun wx=>FS w0 fb m.name f.num w BLK (ps.length+2) ((ps ++ un m.name f.num O1 6) ++ un m.name f.num O2 11) wx)
   case first=>
    obtain⟨wd,hwd⟩ : ∃wd,wd=wc.drew:=⟨_,rfl⟩;have kd:Bel wc wd:=by rw [hwd];exact(Bel.refl _).drew
    have HWD:=h_ hwd;have hFd:=hFS.bel kd;have kk1:=hFd.cell b1;have kk2:=hFd.cell b2;have kk3:=hFd.cell b3;clear hwd;by_cases hi0:i=0
    ·have hO:O2=true:=by rw [←HO2.out,decide_eq_true hi0,Bool.true_or]
     subst hi0 hO;refine qae 15 (by kernel_rfl) (by kernel_rfl) HWD.out ?_
     (simp only [t_1,t_2,t_3,t_4]);(repeat (first|((with_reducible refine wpStill_step (fun K hK=>?_));go_simp;(with_reducible refine hK _ ?_);clear hK K)|((with_reducible refine qaa ?_ ?_);(with_unfolding_all rfl))));(with_reducible refine wpStill_nil ?_)
     go_wp2_with (go_at_call 80;(with_reducible refine(hFd.unless (by omega) _ _).mono ?_);rintro e w9 ⟨rfl,h9⟩;have hend:=h_ h9;clear h9)
     go_meet;exact hend.out
    ·obtain⟨j,hij⟩ : ∃j,i=j+1:=⟨i-1,by omega⟩
     obtain⟨g,hg1,hg2⟩:=HPV.out j hij;have hO:=h_ (show decide (g.num<f.num)=O2 by rw [←HO2.out,hg1,decide_eq_false hi0,Bool.false_or]);have d1:=hFd.2.1.some hg2;have j0:(0:Int)<=(j:Int):=by omega
     have j1:(j:Int)<(m.fields.length:Int):=by omega
     have jn:((i:Int) == 0)=false:=by rw [beq_eq_false_iff_ne];omega
     have jw:IntKind.i64.wrap ((i:Int)-1)=(j:Int):=by rw [show(i:Int)-1=(j:Int)by omega];exact wrap_small _ (by omega) (by omega)
     have jw2:IntKind.i64.wrap (j:Int)=(j:Int):=wrap_small _ (by omega) (by omega);have jw3:(i:Int)-1=(j:Int):=by omega
     clear hij hg1 hg2 hi0;refine qae 15 (by kernel_rfl) (by kernel_rfl) HWD.out ?_
     (simp only [t_1,t_2,t_3,t_4]);(repeat (first|((with_reducible refine wpStill_step (fun K hK=>?_));go_simp;(with_reducible refine hK _ ?_);clear hK K)|((with_reducible refine qaa ?_ ?_);(with_unfolding_all rfl))));(with_reducible refine wpStill_nil ?_)
     go_wp2_with (go_at_call 80;(with_reducible refine(hFd.unless (by omega) _ _).mono ?_);rintro e w9 ⟨rfl,h9⟩;have hend:=h_ h9;clear h9)
     go_meet;exact hend.out.okc hO.out
   case rest=>
    have hFS:=hcut;clear hcut
    go_upto_region 5 with(fail)
    go_cut [] (fun wx=>FS w0 fb m.name f.num w BLK (ps.length+3) (((ps ++ un m.name f.num O1 6) ++ un m.name f.num O2 11) ++ un m.name f.num O3 8) wx)
    case first=>
     have kk1:=hFS.cell b1;have kk2:=hFS.cell b2;have kk3:=hFS.cell b3
     go_wp2_with (first
      | (go_at_call 124;(with_reducible refine(UP.out _).mono ?_);rintro e w1 ⟨rfl,g1⟩;have hF1:=FS.bel hFS g1;have kk1:=hF1.cell b1;have kk2:=hF1.cell b2;have kk3:=hF1.cell b3;clear g1)
      | (go_at_call 80;(with_reducible refine(hF1.unless (by omega) _ _).mono ?_);rintro e w9 ⟨rfl,h9⟩;have hend:=h_ h9;clear h9))
     go_meet;exact hend.out
    case rest=>
     have hFS:=hcut;clear hcut
     go_upto_region 6 with(fail)
     go_cut [] (fun wx=>FS w0 fb m.name f.num w BLK (ps.length+4) ((((ps ++ un m.name f.num O1 6) ++ un m.name f.num O2 11) ++ un m.name f.num O3 8) ++ un m.name f.num (!Q4) 9) wx)
     case first=>
      have kk1:=hFS.cell b1;have kk2:=hFS.cell b2;have kk3:=hFS.cell b3
      go_wp2_with (first
       | (go_at_call 156;(with_reducible refine(SE.out _ (FS.bel0 hFS)).mono ?_);rintro e w1 ⟨rfl,g1⟩;have hF1:=FS.bel hFS g1;have kk1:=hF1.cell b1;have kk2:=hF1.cell b2;have kk3:=hF1.cell b3;clear g1)
       | (go_at_call 80;(with_reducible refine(hF1.unless (by omega) _ _).mono ?_);rintro e w9 ⟨rfl,h9⟩;have hend:=h_ h9;clear h9))
      go_meet;exact hend.out
     case rest=>
      have hFS:=hcut;clear hcut
      go_upto_region 7 with(fail)
      go_cut [] (fun wx=>FS w0 fb m.name f.num w BLK (ps.length+5) (((((ps ++ un m.name f.num O1 6) ++ un m.name f.num O2 11) ++ un m.name f.num O3 8) ++ un m.name f.num (!Q4) 9) ++ un m.name f.num O5 21) wx)
      case first=>
       have kk1:=hFS.cell b1;have kk2:=hFS.cell b2;have kk3:=hFS.cell b3;cases Q5
       all_goals
        go_wp2_with (first
         | (go_at_call 127;(with_reducible refine(RS.out _ (FS.bel0 hFS)).mono ?_);rintro e w1 ⟨rfl,g1⟩;have hF1:=FS.bel hFS g1;have kk1:=hF1.cell b1;have kk2:=hF1.cell b2;have kk3:=hF1.cell b3;clear g1)
         | (go_at_call 114;(with_reducible refine(CN.out _ (FS.bel0 hF1)).mono ?_);rintro e w2 ⟨rfl,rfl⟩)
         | (go_at_call 80;(with_reducible refine(hF1.unless (by omega) _ _).mono ?_);rintro e w9 ⟨rfl,h9⟩;have hend:=h_ h9;clear h9))
        all_goals go_meet
        all_goals exact hend.out.okc (by rw [←HO5.out];simp)
      case rest=>
       have hFS:=hcut;clear hcut
       go_upto_region 8 with(fail)
       go_cut [] (fun wx=>FS w0 fb m.name f.num w BLK (ps.length+6) ((((((ps ++ un m.name f.num O1 6) ++ un m.name f.num O2 11) ++ un m.name f.num O3 8) ++ un m.name f.num (!Q4) 9) ++ un m.name f.num O5 21) ++ un m.name f.num O6 1) wx)
       case first=>
        have kk1:=hFS.cell b1;have kk2:=hFS.cell b2;have kk3:=hFS.cell b3
        have hcase:(1<=f.card/\f.card<=5/\O6=Q6) ∨ (f.card<1/\O6=false) ∨ (1<=f.card/\5<f.card/\O6=false):=by
         by_cases ha:1<=f.card
         ·by_cases hb:f.card<=5
          ·exact .inl ⟨ha,hb,by rw [←HO6.out,decide_eq_true ⟨ha,hb⟩,Bool.true_and]⟩
          ·exact .inr (.inr ⟨ha,by omega,by rw [←HO6.out,decide_eq_false (fun h=>hb h.2),Bool.false_and]⟩)
         ·exact .inr (.inl ⟨by omega,by rw [←HO6.out,decide_eq_false (fun h=>ha h.1),Bool.false_and]⟩)
        rcases hcase with⟨ha,hb,hO⟩|⟨ha,hO⟩|⟨ha,hb,hO⟩
        all_goals (have HO:=h_ hO;clear hO)
        all_goals
         go_wp2_with (first
          | (go_at_call 158;(with_reducible refine(KY.out _).mono ?_);rintro e w2 ⟨rfl,rfl⟩)
          | (go_at_call 80;(with_reducible refine(hFS.unless (by omega) _ _).mono ?_);rintro e w9 ⟨rfl,h9⟩;have hend:=h_ h9;clear h9))
         all_goals go_meet
         all_goals exact hend.out.okc HO.out.symm
       case rest=>
        have hFS:=hcut;clear hcut
        go_upto_region 9 with(fail)
        go_cut [] (fun wx=>FS w0 fb m.name f.num w BLK (ps.length+7) (((((((ps ++ un m.name f.num O1 6) ++ un m.name f.num O2 11) ++ un m.name f.num O3 8) ++ un m.name f.num (!Q4) 9) ++ un m.name f.num O5 21) ++ un m.name f.num O6 1) ++ un m.name f.num O7 12) wx)
        case first=>
         have kk1:=hFS.cell b1;have kk3:=hFS.cell b3;have aE:=qas;obtain⟨K,hK⟩ : ∃K,K=16:=⟨_,rfl⟩;have zE : ∀w,(Go.sizeOf 63).run Tryz.prog w=.ok K w:=hK ▸ qal
         have l2:Sem.run Tryz.prog (loadCellsFrom ⟨w.heap.size+1+1,0,none⟩ 0 K #[]) wc=.ok #[.int .i64 f.num,.string (S f.name),.int .i64 f.card,.int .i64 f.key,.int .i64 f.tk,.string (S f.tn),.string (S f.un),.bool f.hd,.int .i64 f.df.k,.int .u64 f.df.x,.string (S f.df.t),.slice r1 f.df.n1 d1,.slice r2 f.df.n2 d2,.slice r3 f.df.n3 d3,.slice r4 f.df.n4 d4,.slice r5 f.notes.length d5] wc:=run_loadCellsFrom_list Tryz.prog _ _ _ K hK.symm (fun j v hj=>by
          rw [Addr.add_lit,Nat.zero_add,kk3 j,List.getElem?_toArray]
          exact hj)
         clear hK
         go_wp2_with (first
          | (go_at_call 159;(with_reducible refine(TY.out _ (FS.bel0 hFS)).mono ?_);rintro e w1 ⟨rfl,g1⟩;have hF1:=FS.bel hFS g1;have kk1:=hF1.cell b1;have kk2:=hF1.cell b2;have kk3:=hF1.cell b3;clear g1)
          | (go_at_call 80;(with_reducible refine(hF1.unless (by omega) _ _).mono ?_);rintro e w9 ⟨rfl,h9⟩;have hend:=h_ h9;clear h9))
         go_meet;exact hend.out
        case rest=>
         have hFS:=hcut;clear hcut
         go_upto_region 10 with(fail)
         go_cut [] (fun wx=>FS w0 fb m.name f.num w BLK (ps.length+8) ((((((((ps ++ un m.name f.num O1 6) ++ un m.name f.num O2 11) ++ un m.name f.num O3 8) ++ un m.name f.num (!Q4) 9) ++ un m.name f.num O5 21) ++ un m.name f.num O6 1) ++ un m.name f.num O7 12) ++ un m.name f.num O8 15) wx)
         case first=>
          have kk1:=hFS.cell b1;have kk2:=hFS.cell b2;have kk3:=hFS.cell b3
          go_wp2_with (first
           | (go_at_call 160;(with_reducible refine(UN.out _ (FS.bel0 hFS)).mono ?_);rintro e w1 ⟨rfl,g1⟩;have hF1:=FS.bel hFS g1;have kk1:=hF1.cell b1;have kk2:=hF1.cell b2;have kk3:=hF1.cell b3;clear g1)
           | (go_at_call 80;(with_reducible refine(hF1.unless (by omega) _ _).mono ?_);rintro e w9 ⟨rfl,h9⟩;have hend:=h_ h9;clear h9))
          go_meet;exact hend.out
         case rest=>
          have hFS:=hcut;clear hcut
          go_upto_region 11 with(fail)
          go_cut [] (fun wx=>FS w0 fb m.name f.num w BLK (ps.length+9) (((((((((ps ++ un m.name f.num O1 6) ++ un m.name f.num O2 11) ++ un m.name f.num O3 8) ++ un m.name f.num (!Q4) 9) ++ un m.name f.num O5 21) ++ un m.name f.num O6 1) ++ un m.name f.num O7 12) ++ un m.name f.num O8 15) ++ un m.name f.num O9 1) wx)
          case first=>
           have kk1:=hFS.cell b1;have kk3:=hFS.cell b3;have aE:=qas;obtain⟨K,hK⟩ : ∃K,K=16:=⟨_,rfl⟩;have zE : ∀w,(Go.sizeOf 63).run Tryz.prog w=.ok K w:=hK ▸ qal
           have l2:Sem.run Tryz.prog (loadCellsFrom ⟨w.heap.size+1+1,0,none⟩ 0 K #[]) wc=.ok #[.int .i64 f.num,.string (S f.name),.int .i64 f.card,.int .i64 f.key,.int .i64 f.tk,.string (S f.tn),.string (S f.un),.bool f.hd,.int .i64 f.df.k,.int .u64 f.df.x,.string (S f.df.t),.slice r1 f.df.n1 d1,.slice r2 f.df.n2 d2,.slice r3 f.df.n3 d3,.slice r4 f.df.n4 d4,.slice r5 f.notes.length d5] wc:=run_loadCellsFrom_list Tryz.prog _ _ _ K hK.symm (fun j v hj=>by
            rw [Addr.add_lit,Nat.zero_add,kk3 j,List.getElem?_toArray]
            exact hj)
           clear hK
           go_wp2_with (first
            | (go_at_call 161;(with_reducible refine(DF.out _ (FS.bel0 hFS)).mono ?_);rintro e w1 ⟨rfl,g1⟩;have hF1:=FS.bel hFS g1;have kk1:=hF1.cell b1;have kk2:=hF1.cell b2;have kk3:=hF1.cell b3;clear g1)
            | (go_at_call 80;(with_reducible refine(hF1.unless (by omega) _ _).mono ?_);rintro e w9 ⟨rfl,h9⟩;have hend:=h_ h9;clear h9))
           go_meet;exact hend.out
          case rest=>
           have hFS:=hcut;clear hcut;have kk1:=hFS.cell b1;have kk2:=hFS.cell b2;have kk3:=hFS.cell b3;obtain⟨q1,q2⟩:=hFS.fdcell
           go_upto_region 13 with(go_at_call 122;(with_reducible refine(hFS.noted (by omega) _ _ _ HNT.out HB3.out).mono ?_);rintro e w9 ⟨rfl,h9⟩)
           obtain⟨z1,z2⟩:=h9.fdcell;have Z:=h_ (HPOST.out _ (FS.thin h9.setnum));clear hFS kk1 kk2 kk3 q1 q2 h9;go_wp2;exact bodyPost_end (results_none (by rfl) _ _ _) rfl ⟨rfl,Z.out⟩
end
section
open Go.RowKit Ck
def qc1:Value->Option (DataW Unit × List MemPlace)
 | .bool b=>some (.lit (.bool b),[])
 | _=>none
theorem qk3 {v:Value} {d:DataW Unit × List MemPlace} {b:Bool} (h:qc1 v=some d) (hd:d.1=.lit (.bool b)):v=.bool b:=by
 unfold qc1 at h
 split at h
 ·cases h
  simp at hd;rw [hd]
 ·cases h
def boolF (fin:Str->Bool):Str->Option (DataW Unit):=fun k=>if fin k=true then some (.lit (.bool true))else none
theorem qrb (fin:Str->Bool) (k:Str):(boolF fin k).getD (.lit (.bool false))=.lit (.bool (fin k)):=by
 unfold boolF;cases fin k <;> rfl
theorem qr9 (w:World):(zeroValue 4).run Tryz.prog w=.ok (.bool false) w:=by kernel_rfl
theorem qlu {w:World} {B k:Nat} {fin:Str->Bool} (m:MapIs qc1 w B k (boolF fin)) (n:Str) (hn:n.length<=1000000000):(Instr.lookup 146 (.map (some B)) (.string (S n)) false).run Tryz.prog w=.ok (.bool (fin n)) w:=by
 obtain⟨v,ps,h1,h2⟩:=m.look Tryz.underlying146 (qr9 w) (zd:=.lit (.bool false)) (zp:=[]) rfl n hn;rw [qrb]at h2;rw [h1,qk3 h2 rfl]
theorem qr0 (n:Str) (sq1 sq2 sq3:Option Addr) (sm1 sm2 sm3 sc1 sc2 sc3:Nat) (s:PSchema) (fin:Str->Bool) (Bs Bo Bm k:Nat) (W:World) (hv:VSchema W [.slice sq1 sm1 sc1,.slice sq2 sm2 sc2,.slice sq3 sm3 sc3] s) (h0:W.cell? ⟨Bs,0,none⟩=some (.slice sq1 sm1 sc1)) (h1:W.cell? ⟨Bs,1,none⟩=some (.slice sq2 sm2 sc2)) (h2:W.cell? ⟨Bs,2,none⟩=some (.slice sq3 sm3 sc3)) (ho:W.cell? ⟨Bo,0,none⟩=some (.map (some Bm))) (hm:MapIs qc1 W Bm k (boolF fin)) (hn:n.length<=1000000000) :
  Calls Tryz.prog 117 #[.string (S n),.pointer (some ⟨Bs,0,none⟩),.pointer (some ⟨Bo,0,none⟩)] W fun e w'=>e=.returned (.bool ((msgOf s n).isSome && !fin n))/\Below W.heap.size W w':=by
 have CM:=h_ (fun V=>qcc (.slice sq1 sm1 sc1) (.slice sq2 sm2 sc2) (.slice sq3 sm3 sc3) s n V);have HV:=h_ hv;have hl0:=h_ (fun W' (kk:Bel W W')=>qlu (hm.bel kk) n hn);have hbo:Bo<W.heap.size:=World.block_lt_of_cell? W _ ho;clear hv hm;generalize hM:msgOf s n=M at CM;have HM:=h_ hM;clear hM;generalize hF:fin n=F at hl0;cases hQ:M.isSome
 all_goals
  have HQ:=h_ hQ
  go_enter Tryz.func117,Tryz.ntmps117
  go_upto_region 2 with(go_at_call 115;(with_reducible refine(CM.out _ HV.out).mono ?_);rintro e w1 ⟨ja,jb,jc,jd,je,jf,jg,jh,ji,jj,jk,jl,jm,rfl,_,g1⟩;have k1:Bel W w1:=g1;have ho1:=k1.some ho;have hz:=g1.size;clear g1)
  have hl:=hl0.out _ (k1.alloc (.cells #[.string (S ja),.slice jb jf jj,.slice jc jg jk,.slice jd jh jl,.slice je ji jm] 44));have hb1:Bo<w1.heap.size:=(by omega);go_wp2
  all_goals go_ret
  all_goals exact⟨qa3 (by first|rfl|(rw [HQ.out];rfl)),Bel.out (k1.alloc _)⟩
theorem qr1 (n:Str) (sq1 sq2 sq3:Option Addr) (sm1 sm2 sm3 sc1 sc2 sc3:Nat) (s:PSchema) (fin:Str->Bool) (Bs Bo Bm k:Nat) (W:World) (hv:VSchema W [.slice sq1 sm1 sc1,.slice sq2 sm2 sc2,.slice sq3 sm3 sc3] s) (h0:W.cell? ⟨Bs,0,none⟩=some (.slice sq1 sm1 sc1)) (h1:W.cell? ⟨Bs,1,none⟩=some (.slice sq2 sm2 sc2)) (h2:W.cell? ⟨Bs,2,none⟩=some (.slice sq3 sm3 sc3)) (ho:W.cell? ⟨Bo,0,none⟩=some (.map (some Bm))) (hm:MapIs qc1 W Bm k (boolF fin)) (hn:n.length<=1000000000) :
  Calls Tryz.prog 164 #[.string (S n),.pointer (some ⟨Bs,0,none⟩),.pointer (some ⟨Bo,0,none⟩)] W fun e w'=>e=.returned (.bool ((msgOf s n).isSome && !fin n))/\Below W.heap.size W w':=by
 have CM:=h_ (fun V=>qcc (.slice sq1 sm1 sc1) (.slice sq2 sm2 sc2) (.slice sq3 sm3 sc3) s n V);have HV:=h_ hv;have hl0:=h_ (fun W' (kk:Bel W W')=>qlu (hm.bel kk) n hn);have hbo:Bo<W.heap.size:=World.block_lt_of_cell? W _ ho;clear hv hm;generalize hM:msgOf s n=M at CM;have HM:=h_ hM;clear hM;generalize hF:fin n=F at hl0;cases hQ:M.isSome
 all_goals
  have HQ:=h_ hQ
  go_enter Tryz.func164,Tryz.ntmps164
  go_upto_region 2 with(go_at_call 115;(with_reducible refine(CM.out _ HV.out).mono ?_);rintro e w1 ⟨ja,jb,jc,jd,je,jf,jg,jh,ji,jj,jk,jl,jm,rfl,_,g1⟩;have k1:Bel W w1:=g1;have ho1:=k1.some ho;have hz:=g1.size;clear g1)
  have hl:=hl0.out _ (k1.alloc (.cells #[.string (S ja),.slice jb jf jj,.slice jc jg jk,.slice jd jh jl,.slice je ji jm] 44));have hb1:Bo<w1.heap.size:=(by omega);go_wp2
  all_goals go_ret
  all_goals exact⟨qa3 (by first|rfl|(rw [HQ.out];rfl)),Bel.out (k1.alloc _)⟩
theorem qnu (m:PMsg) (h : ∀f ∈ m.fields,f.tn.length<=1000000000) : ∀x ∈ needs m,x.length<=1000000000:=by
 intro x hx;unfold needs at hx;rw [List.mem_map]at hx;obtain⟨f,hf,rfl⟩:=hx;exact h f (List.mem_filter.1 hf).1
theorem qr4 (sq1 sq2 sq3:Option Addr) (sm1 sm2 sm3 sc1 sc2 sc3:Nat) (s:PSchema) (mn:Str) (mq1 mq2 mq3 mq4:Option Addr) (mm1 mm2 mm3 mm4 mc1 mc2 mc3 mc4:Nat) (m:PMsg) (fin:Str->Bool) (Bm k:Nat) (w:World) (hs:VSchema w [.slice sq1 sm1 sc1,.slice sq2 sm2 sc2,.slice sq3 sm3 sc3] s) (hv:VMsg w [.string (S mn),.slice mq1 mm1 mc1,.slice mq2 mm2 mc2,.slice mq3 mm3 mc3,.slice mq4 mm4 mc4] m) (hm:MapIs qc1 w Bm k (boolF fin)) (hn : ∀f ∈ m.fields,f.tn.length<=1000000000) (hfn:m.fields.length<=2000000) :
  Calls Tryz.prog 123 #[.agg #[.slice sq1 sm1 sc1,.slice sq2 sm2 sc2,.slice sq3 sm3 sc3],.agg #[.string (S mn),.slice mq1 mm1 mc1,.slice mq2 mm2 mc2,.slice mq3 mm3 mc3,.slice mq4 mm4 mc4],.map (some Bm)] w fun e w'=>e=.returned (.bool (qg5 s m fin))/\Below w.heap.size w w':=by
 have CN:=h_ (fun W (kk:Bel w W)=>qor _ _ _ _ _ _ _ _ _ _ _ _ _ m W (VMsg.stays w W _ m kk hv) hfn)
 have hcc : ∀(v:Value) (W:World),Texts W v (needs m)->Bel w W->W.cell? ⟨w.heap.size,0,none⟩=some (.slice sq1 sm1 sc1)->W.cell? ⟨w.heap.size,1,none⟩=some (.slice sq2 sm2 sc2)->W.cell? ⟨w.heap.size,2,none⟩=some (.slice sq3 sm3 sc3)->W.cell? ⟨w.heap.size+1+1,0,none⟩=some (.map (some Bm)) →
   Calls Tryz.prog 112 #[v,.func (.func 164) #[] #[.pointer (some ⟨w.heap.size,0,none⟩),.pointer (some ⟨w.heap.size+1+1,0,none⟩)]] W fun e w'=>e=.returned (.bool (qg5 s m fin))/\Below W.heap.size W w':=fun v W ht kW c0 c1 c2 co=>by
  refine qr6 _ _ (enters_of Tryz.func164 (by kernel_rfl) rfl) v (needs m) _ W ht (fun x W2 hx hb2=>?_);exact qr1 x _ _ _ _ _ _ _ _ _ s fin _ _ Bm k W2 (hs.stays_bel (Bel.of kW hb2)) (hb2.some c0) (hb2.some c1) (hb2.some c2) (hb2.some co) (hm.bel (Bel.of kW hb2)) (qnu m hn x hx)
 have CC:=h_ hcc
 have hKS : ∀w',Bel (((w.alloc (.cells #[.slice sq1 sm1 sc1,.slice sq2 sm2 sc2,.slice sq3 sm3 sc3] 26)).alloc (.cells #[.string (S mn),.slice mq1 mm1 mc1,.slice mq2 mm2 mc2,.slice mq3 mm3 mc3,.slice mq4 mm4 mc4] 44)).alloc (.cells #[.map (some Bm)] 146)) w'->w'.cell? ⟨w.heap.size,0,none⟩=some (.slice sq1 sm1 sc1)/\w'.cell? ⟨w.heap.size,1,none⟩=some (.slice sq2 sm2 sc2)/\w'.cell? ⟨w.heap.size,2,none⟩=some (.slice sq3 sm3 sc3)/\w'.cell? ⟨w.heap.size+1+1,0,none⟩=some (.map (some Bm)):=fun w' kk=>by
  refine⟨kk.some ?_,kk.some ?_,kk.some ?_,kk.some ?_⟩
  all_goals first
   | (rw [World.cell?_alloc_at _ _ _ _ (by simp)];rfl)
   | (rw [World.cell?_alloc_past _ _ _ (by simp;omega),World.cell?_alloc_past _ _ _ (by simp),World.cell?_alloc_at _ _ _ _ rfl];rfl)
   | (rw [World.cell?_alloc_past _ _ _ (by simp),World.cell?_alloc_past _ _ _ (by simp),World.cell?_alloc_at _ _ _ _ rfl];rfl)
 have KS:=h_ hKS;clear hs hm hcc hKS hv;generalize qg5 s m fin=R at CC;generalize needs m=T at CN CC
 go_enter Tryz.func123,Tryz.ntmps123
 go_wp2_with (first
  | (go_at_call 116;(with_reducible refine(CN.out _ (by(with_reducible repeat first|assumption|exact Bel.refl _|refine Bel.drew ?_|refine Bel.drewN ?_ _|refine Bel.alloc ?_ _))).mono ?_);rintro e w1 ⟨v,rfl,ht,g1⟩;have k1:Bel w w1:=Bel.of (by(with_reducible repeat first|assumption|exact Bel.refl _|refine Bel.drew ?_|refine Bel.drewN ?_ _|refine Bel.alloc ?_ _)) g1;obtain⟨c0,c1,c2,co⟩:=KS.out _ (show Bel _ w1 from g1);have HT:=h_ ht;clear g1 ht)
  | (go_at_call 112;(with_reducible refine(CC.out _ _ HT.out k1 c0 c1 c2 co).mono ?_);rintro e w2 ⟨rfl,g1⟩;have k2:Bel w w2:=Bel.of k1 g1;clear g1))
 go_ret;exact⟨rfl,k2.out⟩
end
section
open Go.RowKit Ck
theorem qoz:boolF (fun _=>false)=fun _=>none:=by
 funext k;rfl
theorem qra (fin:Str->Bool) (n:Str):(fun k=>if k=n then some (.lit (.bool true))else boolF fin k)=boolF fun x=>decide (x=n) || fin x:=by
 funext k
 unfold boolF;by_cases h:k=n
 ·simp [h]
 ·simp [h]
def FinAt (w:World) (c0 c1 c2:Value) (k:Nat) (cur:Str->Bool) (wr:World):Prop:=
 Below w.heap.size w wr/\wr.cell? ⟨w.heap.size,0,none⟩=some c0/\wr.cell? ⟨w.heap.size,1,none⟩=some c1/\wr.cell? ⟨w.heap.size,2,none⟩=some c2/\wr.cell? ⟨w.heap.size+1+1,0,none⟩=some (.map (some (w.heap.size+1)))/\MapIs qc1 wr (w.heap.size+1) k (boolF cur)
theorem FinAt.bel {w:World} {c0 c1 c2:Value} {k:Nat} {cur:Str->Bool} {wr w':World} (h:FinAt w c0 c1 c2 k cur wr) (b:Bel wr w'):FinAt w c0 c1 c2 k cur w':=by
 obtain⟨h1,h2,h3,h4,h5,h6⟩:=h;exact⟨Bel.of h1 b,b.some h2,b.some h3,b.some h4,b.some h5,h6.bel b⟩
theorem FinAt.base {w:World} {c0 c1 c2:Value} {k:Nat} {cur:Str->Bool} {wr:World} (h:FinAt w c0 c1 c2 k cur wr):Bel w wr:=h.1
theorem FinAt.put {w:World} {c0 c1 c2:Value} {k:Nat} {cur:Str->Bool} {wr w':World} (h:FinAt w c0 c1 c2 k cur wr) {n:Str} (hm:MapIs qc1 w' (w.heap.size+1) (k+1) (fun x=>if x=n then some (.lit (.bool true))else boolF cur x)) (hg:wr.grownBy w' (some (w.heap.size+1))):FinAt w c0 c1 c2 (k+1) (fun x=>decide (x=n) || cur x) w':=by
 obtain⟨h1,h2,h3,h4,h5,h6⟩:=h;have hne : ∀j,j ≠ w.heap.size+1->some j ≠ some (w.heap.size+1):=fun j h e=>h (by injection e)
 refine⟨h1.grown hg h1.size (fun k hk=>by cases hk;omega),hg.cell h2 (hne _ (by simp)),hg.cell h3 (hne _ (by simp)),hg.cell h4 (hne _ (by simp)),hg.cell h5 (hne _ (by simp)),?_⟩;rw [←qra];exact hm
theorem qqt (s:PSchema) (m:PMsg) (hm:m ∈ s.msgs) : ∃f,msgOf s m.name=some f/\f ∈ s.msgs/\f.name=m.name:=by
 cases h:msgOf s m.name with
 | none=>
  unfold msgOf at h;rw [List.find?_eq_none]at h;exact absurd (by simp) (h m hm)
 | some f=>
  unfold msgOf at h;have h1:=List.find?_some h;exact⟨f,rfl,List.mem_of_find?_eq_some h,by simpa using h1⟩
theorem qr3 (sq1 sq2 sq3:Option Addr) (sm1 sm2 sm3 sc1 sc2 sc3:Nat) (s:PSchema) (w:World) (hs:VSchema w [.slice sq1 sm1 sc1,.slice sq2 sm2 sc2,.slice sq3 sm3 sc3] s) (hlen:s.msgs.length<=900) (hnm : ∀m ∈ s.msgs,m.name.length<=1000000000) (hn : ∀m ∈ s.msgs,m.fields.length<=2000000/\∀f ∈ m.fields,f.tn.length<=1000000000) :
  Calls Tryz.prog 83 #[.agg #[.slice sq1 sm1 sc1,.slice sq2 sm2 sc2,.slice sq3 sm3 sc3]] w fun e w' => ∃Bm k,e=.returned (.map (some Bm))/\MapIs qc1 w' Bm k (boolF (qci s))/\Below w.heap.size w w':=by
 have hs0:=hs;obtain⟨_,_,_,hcs,hm1,_,_⟩:=hs;cases hcs;obtain⟨q,c,hq,hl,hcap,hel⟩:=hm1;cases hq;have EL:=h_ hel;have V:=h_ (show qbr s (s.msgs.length+1-0) (fun _=>false)=qci s from rfl);generalize qci s=T at V;have HS:=h_ hs0;have HNM:=h_ hnm;have HN:=h_ hn;have hmm := @run_makeMap Tryz.prog
 have hst:FinAt w (.slice sq1 s.msgs.length sc1) (.slice sq2 sm2 sc2) (.slice sq3 sm3 sc3) 0 (fun _=>false) (((w.alloc (.cells #[.slice sq1 s.msgs.length sc1,.slice sq2 sm2 sc2,.slice sq3 sm3 sc3] 26)).alloc (.map #[] 0)).alloc (.cells #[.map (some (w.heap.size+1))] 146)):=by
  refine⟨(((Below.refl _ _).alloc (Nat.le_refl _) _).alloc (by simp) _).alloc (by simp;omega) _,?_,?_,?_,?_,?_⟩
  ·rw [World.cell?_alloc_past _ _ _ (by simp;omega),World.cell?_alloc_past _ _ _ (by simp),World.cell?_alloc_at _ _ _ _ rfl];rfl
  ·rw [World.cell?_alloc_past _ _ _ (by simp;omega),World.cell?_alloc_past _ _ _ (by simp),World.cell?_alloc_at _ _ _ _ rfl];rfl
  ·rw [World.cell?_alloc_past _ _ _ (by simp;omega),World.cell?_alloc_past _ _ _ (by simp),World.cell?_alloc_at _ _ _ _ rfl];rfl
  ·rw [World.cell?_alloc_at _ _ _ _ (by simp)];rfl
  ·have:=(MapIs.made (H:=Unit) (w.alloc (.cells #[.slice sq1 s.msgs.length sc1,.slice sq2 sm2 sc2,.slice sq3 sm3 sc3] 26)) qc1).bel ((Bel.refl _).alloc (.cells #[.map (some (w.heap.size+1))] 146))
   rw [qoz]
   simpa using this
 have HST:=h_ hst;clear hel hs0 hnm hn hst
 go_enter Tryz.func83,Tryz.ntmps83
 go_wp2
 go_loopw [14] (fun i wr => ∃(r cnt:Nat) (cur:Str->Bool),r<=s.msgs.length+1/\i=.int .i64 r/\cnt<=r*s.msgs.length/\FinAt w (.slice sq1 s.msgs.length sc1) (.slice sq2 sm2 sc2) (.slice sq3 sm3 sc3) cnt cur wr/\Hid (qbr s (s.msgs.length+1-r) cur=T)) (fun i _=>s.msgs.length+1-(intOf i).toNat)
 case atStart=>exact⟨0,0,_,by omega,rfl,by omega,HST.out,V⟩
 case round=>
  obtain⟨r,cnt,cur,hr,rfl,hcnt,hF,hgo⟩:=hrel;by_cases hlt:r<s.msgs.length+1
  ·have hgo2:=h_ (show qbr s (s.msgs.length+1-(r+1)) (qba s cur)=T by
    rw [←hgo.out,show s.msgs.length+1-r=(s.msgs.length+1-(r+1))+1 by omega];rfl)
   have hrl:r*s.msgs.length<=900*901:=by
    have h1:r*s.msgs.length<=901*900:=Nat.mul_le_mul (by omega) hlen;omega
   have hri:(r:Int)<(s.msgs.length:Int)+1:=by omega
   have hrm:(r+1)*s.msgs.length=r*s.msgs.length+s.msgs.length:=Nat.succ_mul _ _;have HRM:=h_ hrm;clear hgo hrm;obtain⟨_,f0,f1,f2,f3,_⟩:=hF;have hin:Hid ((s.msgs.drop 0).foldl (qbv s) cur=qba s cur):=h_ rfl;generalize qba s cur=G at hin hgo2;obtain⟨wo,hwo⟩ : ∃wo:World,wo=wr:=⟨_,rfl⟩;subst hwo;go_wp2
   go_loopw [19] (fun i wi => ∃(j cnt2:Nat) (cu2:Str->Bool),j<=s.msgs.length/\i=.int .i64 j/\cnt2<=r*s.msgs.length+j/\FinAt w (.slice sq1 s.msgs.length sc1) (.slice sq2 sm2 sc2) (.slice sq3 sm3 sc3) cnt2 cu2 wi/\Hid ((s.msgs.drop j).foldl (qbv s) cu2=G)) (fun i _=>s.msgs.length-(intOf i).toNat)
   case atStart=>exact⟨0,cnt,cur,by omega,rfl,by omega,⟨by assumption,f0,f1,f2,f3,by assumption⟩,hin⟩
   case round=>
    obtain⟨j,cnt2,cu2,hj,rfl,hcnt2,hF2,hin2⟩:=hrel;by_cases hjl:j<s.msgs.length
    ·have hg:=List.getElem?_eq_getElem hjl
     obtain⟨b,off,rfl,hbs,vs,hce,hvs⟩:=EL.out j _ hg;have hdr:s.msgs.drop j=s.msgs[j] :: s.msgs.drop (j+1):=List.drop_eq_getElem_cons hjl;have hmem:s.msgs[j] ∈ s.msgs:=List.getElem_mem hjl;obtain⟨fm,hfe,hfm,hfn⟩:=qqt s _ hmem;have hmn:=HNM.out _ hmem;have hin3:=h_ (show(s.msgs.drop (j+1)).foldl (qbv s) (qbv s cu2 s.msgs[j])=G by rw [←hin2.out,hdr];rfl)
     have hstep:qbv s cu2 s.msgs[j]=if((needs fm).any fun n=>(msgOf s n).isSome && !cu2 n)=true then cu2 else fun x=>decide (x=s.msgs[j].name) || cu2 x:=by
      unfold qbv;rw [hfe]
     have HST2:=h_ hstep;have HFE:=h_ hfe;clear hin2 hdr hstep hfe hg hmem;obtain⟨w1',w2',w3',w4',hvv,g1,g2,g3,g4⟩:=hvs;obtain⟨v1,y1,rfl,_⟩:=qa5 g1;obtain⟨v2,y2,rfl,_⟩:=qa5 g2;obtain⟨v3,y3,rfl,_⟩:=qa5 g3;obtain⟨v4,y4,rfl,_⟩:=qa5 g4;subst hvv;have hFb:=hF2.base;have e0:=hFb.some (hce 0 _ rfl);rw [Nat.add_zero]at e0;have e1:=hFb.some (hce 1 _ rfl);have e2:=hFb.some (hce 2 _ rfl);have e3:=hFb.some (hce 3 _ rfl);have e4:=hFb.some (hce 4 _ rfl);clear hce g1 g2 g3 g4;generalize s.msgs[j]=m at *;have hji:(j:Int)<(s.msgs.length:Int):=by omega
     have CM:=h_ (fun W (k:Bel w W)=>qcc (.slice (some ⟨b,off,none⟩) s.msgs.length sc1) (.slice sq2 sm2 sc2) (.slice sq3 sm3 sc3) s m.name W (HS.out.stays_bel k));have CNE:=h_ (fun ja jb jc jd je jf jg jh ji jj jk jl jm W hv=>qor ja jb jc jd je jf jg jh ji jj jk jl jm fm W hv (HN.out fm hfm).1)
     have hcc : ∀(v:Value) (W:World),Texts W v (needs fm)->FinAt w (.slice (some ⟨b,off,none⟩) s.msgs.length sc1) (.slice sq2 sm2 sc2) (.slice sq3 sm3 sc3) cnt2 cu2 W →
       Calls Tryz.prog 112 #[v,.func (.func 117) #[] #[.pointer (some ⟨w.heap.size,0,none⟩),.pointer (some ⟨w.heap.size+1+1,0,none⟩)]] W fun e w'=>e=.returned (.bool ((needs fm).any fun n=>(msgOf s n).isSome && !cu2 n))/\Below W.heap.size W w':=fun v W ht hW=>by
      refine qr6 _ _ (enters_of Tryz.func117 (by kernel_rfl) rfl) v (needs fm) _ W ht (fun x W2 hx hb2=>?_);obtain⟨q1,q2,q3,q4,q5,q6⟩:=hW.bel hb2;exact qr0 x _ _ _ _ _ _ _ _ _ s cu2 _ _ _ cnt2 W2 (HS.out.stays_bel q1) q2 q3 q4 q5 q6 (qnu fm (HN.out fm hfm).2 x hx)
     have CC:=h_ hcc;clear hcc;generalize hO:((needs fm).any fun n=>(msgOf s n).isSome && !cu2 n)=O at CC HST2;clear hO;generalize needs fm=NF at CNE CC;obtain⟨q1,q2,q3,q4,q5,q6⟩:=hF2;have hwz:w.heap.size+1+1<wr.heap.size:=World.block_lt_of_cell? wr _ q5;have HF2:=h_ (show FinAt w (.slice (some ⟨b,off,none⟩) s.msgs.length sc1) (.slice sq2 sm2 sc2) (.slice sq3 sm3 sc3) cnt2 cu2 wr from⟨q1,q2,q3,q4,q5,q6⟩);have kb:Bel w wr:=q1;have hw0:w.heap.size<wr.heap.size:=by omega
     clear q1 q6 hFb f0 f1 f2 f3;cases O with
     | true=>
      go_wp2_with (first
      | (go_at_call 115;(with_reducible refine(CM.out _ (by(with_reducible repeat first|assumption|exact Bel.refl _|refine Bel.drew ?_|refine Bel.drewN ?_ _|refine Bel.alloc ?_ _))).mono ?_);rintro e w1 ⟨ja,jb,jc,jd,je,jf,jg,jh,ji,jj,jk,jl,jm,rfl,hx,g1⟩;have hF3:=h_ (FinAt.bel (HF2.out.bel ((Bel.refl wr).alloc (.cells #[.string (S m.name),.slice v1 m.fields.length y1,.slice v2 m.res.length y2,.slice v3 m.gone.length y3,.slice v4 m.notes.length y4] 44))) g1);have n1:w1.cell? ⟨wr.heap.size,0,none⟩=some (.string (S m.name)):=Bel.some g1 (by rw [World.cell?_alloc_at _ _ _ _ rfl];rfl);have HV1:=h_ (VMsg.stays _ _ _ _ (show Bel _ (w1.alloc (.cells #[.string (S ja),.slice jb jf jj,.slice jc jg jk,.slice jd jh jl,.slice je ji jm] 44))from Bel.alloc g1 _) (hx fm HFE.out));have z1:=g1.size;simp at z1;have y1:wr.heap.size<w1.heap.size:=(by omega);clear g1 hx)
      | (go_at_call 116;(with_reducible refine(CNE.out ja jb jc jd je jf jg jh ji jj jk jl jm _ HV1.out).mono ?_);rintro e w2 ⟨v,rfl,ht,g2⟩;have hF4:=h_ (FinAt.bel (hF3.out.bel ((Bel.refl w1).alloc (.cells #[.string (S ja),.slice jb jf jj,.slice jc jg jk,.slice jd jh jl,.slice je ji jm] 44))) g2);have n2:w2.cell? ⟨wr.heap.size,0,none⟩=some (.string (S m.name)):=Bel.some g2 (((Bel.refl w1).alloc _).some n1);have HT:=h_ ht;clear g2 ht)
      | (go_at_call 112;(with_reducible refine(CC.out _ _ HT.out hF4.out).mono ?_);rintro e w3 ⟨rfl,g3⟩;have hF5:=h_ (hF4.out.bel g3);have n3:w3.cell? ⟨wr.heap.size,0,none⟩=some (.string (S m.name)):=Bel.some g3 n2;have hmp:=hF5.out.2.2.2.2.2;have co3:=hF5.out.2.2.2.2.1;clear g3))
      refine⟨⟨j+1,cnt2,cu2,by omega,rfl,by omega,hF5.out,h_ ?_⟩,by simp [intOf];omega⟩;have:=hin3.out;rw [HST2.out]at this
      first|rw [if_pos rfl]at this|rw [if_pos trivial]at this
      exact this
     | false=>
      go_wp2_with (first
      | (go_at_call 115;(with_reducible refine(CM.out _ (by(with_reducible repeat first|assumption|exact Bel.refl _|refine Bel.drew ?_|refine Bel.drewN ?_ _|refine Bel.alloc ?_ _))).mono ?_);rintro e w1 ⟨ja,jb,jc,jd,je,jf,jg,jh,ji,jj,jk,jl,jm,rfl,hx,g1⟩;have hF3:=h_ (FinAt.bel (HF2.out.bel ((Bel.refl wr).alloc (.cells #[.string (S m.name),.slice v1 m.fields.length y1,.slice v2 m.res.length y2,.slice v3 m.gone.length y3,.slice v4 m.notes.length y4] 44))) g1);have n1:w1.cell? ⟨wr.heap.size,0,none⟩=some (.string (S m.name)):=Bel.some g1 (by rw [World.cell?_alloc_at _ _ _ _ rfl];rfl);have HV1:=h_ (VMsg.stays _ _ _ _ (show Bel _ (w1.alloc (.cells #[.string (S ja),.slice jb jf jj,.slice jc jg jk,.slice jd jh jl,.slice je ji jm] 44))from Bel.alloc g1 _) (hx fm HFE.out));have z1:=g1.size;simp at z1;have y1:wr.heap.size<w1.heap.size:=(by omega);clear g1 hx)
      | (go_at_call 116;(with_reducible refine(CNE.out ja jb jc jd je jf jg jh ji jj jk jl jm _ HV1.out).mono ?_);rintro e w2 ⟨v,rfl,ht,g2⟩;have hF4:=h_ (FinAt.bel (hF3.out.bel ((Bel.refl w1).alloc (.cells #[.string (S ja),.slice jb jf jj,.slice jc jg jk,.slice jd jh jl,.slice je ji jm] 44))) g2);have n2:w2.cell? ⟨wr.heap.size,0,none⟩=some (.string (S m.name)):=Bel.some g2 (((Bel.refl w1).alloc _).some n1);have HT:=h_ ht;clear g2 ht)
      | (go_at_call 112;(with_reducible refine(CC.out _ _ HT.out hF4.out).mono ?_);rintro e w3 ⟨rfl,g3⟩;have hF5:=h_ (hF4.out.bel g3);have n3:w3.cell? ⟨wr.heap.size,0,none⟩=some (.string (S m.name)):=Bel.some g3 n2;have hmp:=hF5.out.2.2.2.2.2;have co3:=hF5.out.2.2.2.2.1;clear g3)
      | (refine qf3 _ rfl _ _ _ 146 4 rfl Tryz.underlying146 (w.heap.size+1) cnt2 (boolF cu2) rfl hmp (by omega) m.name hmn (.bool true) rfl rfl (.lit (.bool true)) [] rfl ?_))
      intro w4 hm4 hg4;have hF6:=h_ (hF5.out.put hm4 hg4);clear hm4 hg4 hmp;go_wp2;refine⟨⟨j+1,cnt2+1,_,by omega,rfl,by omega,hF6.out,h_ ?_⟩,by simp [intOf];omega⟩;have:=hin3.out;rw [HST2.out]at this
      first|rw [if_neg Bool.false_ne_true]at this|rw [if_neg not_false]at this
      exact this
    ·have hjl2:j=s.msgs.length:=by omega
     have hG:cu2=G:=by have:=hin2.out;rw [hjl2,List.drop_length]at this;exact this
     subst hG;subst hjl2;clear hin2;go_wp2;refine⟨⟨r+1,cnt2,cu2,by omega,rfl,by rw [HRM.out];omega,hF2,hgo2⟩,by simp [intOf];omega⟩
  ·have hre:r=s.msgs.length+1:=by omega
   have hcur:cur=T:=by have:=hgo.out;rw [hre,Nat.sub_self]at this;exact this
   subst hcur;subst hre;have co:=hF.2.2.2.2.1;clear hgo;go_wp2;go_ret;exact⟨_,_,rfl,hF.2.2.2.2.2,hF.1⟩
end
end Go.Proofs.YtfoaaglbpmmhiaaGreatDoor
