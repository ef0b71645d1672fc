import Derived.Test.YtaaneecceiefoaaGreatDoorRkD
import Derived.Test.YtaaneecceiefoaaGreatDoorTreeG
import Derived.Deep.DeepCutAuto
set_option maxRecDepth 100000
set_option maxHeartbeats 4000000
set_option linter.unusedVariables false
set_option linter.unusedSimpArgs false
namespace Go.Proofs.YtaaneecceiefoaaGreatDoor
open Go.RowKit Ck
theorem qg4 {α:Type} (p:α->Bool) (l:List α) (k:Nat) (x:α) (h:l[k]? = some x):(l.take (k+1)).any p=((l.take k).any p || p x):=by
 rw [List.take_add_one,h,List.any_append];simp
theorem take_at {α:Type} (p:α->Bool) (l:List α) (i j:Nat) (x:α) (h:l[j]? = some x):((l.take i).take (j+1)).any p=(((l.take i).take j).any p || (decide (j<i) && p x)):=by
 by_cases hji:j<i
 ·rw [decide_eq_true hji,Bool.true_and]
  exact qg4 p _ j x (by rw [List.getElem?_take,if_pos hji];exact h)
 ·rw [decide_eq_false hji,Bool.false_and,Bool.or_false]
  rw [List.take_take,List.take_take,Nat.min_eq_right (by omega),Nat.min_eq_right (by omega)]
theorem rk_union (mq1 mq2 mq3 mq4:Option Addr) (mc1 mc2 mc3 mc4:Nat) (m:PMsg) (i:Nat) (f:PField) (w:World) (hm:VMsg w [.string (S m.name),.slice mq1 m.fields.length mc1,.slice mq2 m.res.length mc2,.slice mq3 m.gone.length mc3,.slice mq4 m.notes.length mc4] m) (hf:m.fields[i]? = some f) (hu:f.un.length<=1000000000000000) :
  Calls Tryz.prog 106 #[.agg #[.string (S m.name),.slice mq1 m.fields.length mc1,.slice mq2 m.res.length mc2,.slice mq3 m.gone.length mc3,.slice mq4 m.notes.length mc4],.int .i64 i] w fun e w'=>e=.returned (.bool (qh4 m i f))/\Below w.heap.size w w':=by
 have KB:=Lib.hid (fun W' (k:Bel (w.alloc (.cells #[.string (S m.name),.slice mq1 m.fields.length mc1,.slice mq2 m.res.length mc2,.slice mq3 m.gone.length mc3,.slice mq4 m.notes.length mc4] 57)) W')=>show W'.cell? ⟨w.heap.size,1,none⟩=some (.slice mq1 m.fields.length mc1)from k.some ((World.cell?_alloc_at _ _ _ _ rfl).trans rfl));have kb:Bel w (w.alloc (.cells #[.string (S m.name),.slice mq1 m.fields.length mc1,.slice mq2 m.res.length mc2,.slice mq3 m.gone.length mc3,.slice mq4 m.notes.length mc4] 57)):=(Bel.refl _).alloc _;obtain⟨_,_,_,_,hcm,g1,_,_,_⟩:=id hm;cases hcm;have hll:m.fields.length<=140737488355328:=by obtain⟨_,_,_,h,_⟩:=g1;exact h
 have hil:i<m.fields.length:=(List.getElem?_eq_some_iff.1 hf).1;obtain⟨qq,cq,hqe,_,_,hel⟩:=g1;cases hqe;obtain⟨b,off,hqq,hbs,cs,hce,hvs⟩:=hel i f hf
 have HX:=Lib.hid (fun(j:Nat) (x:PField) (hx:m.fields[j]? = some x)=>(show w.cell? ⟨b,off+j*16+1,none⟩=some (.string (S x.name))/\w.cell? ⟨b,off+j*16+6,none⟩=some (.string (S x.un))by
  obtain⟨b9,off9,hq9,_,cs9,hce9,hvs9⟩:=hel j x hx;have hqq2:=hqq.symm.trans hq9;cases hqq2;obtain⟨_,_,hvv9,_⟩:=hvs9;subst hvv9
  exact⟨hce9 1 _ rfl,hce9 6 _ rfl⟩))
 obtain⟨_,_,hvv4,⟨r1,r2,r3,r4,d1,d2,d3,d4,hvv5,_⟩,hnt⟩:=hvs;obtain⟨v1,z1,hnv,_⟩:=qa6 hnt;subst hvv4 hvv5 hnv hqq;have HV:=Lib.hid (show qh4 m i f=(if f.un=[]then true else if f.card ≠ 2 ∨ qaj f.un=false ∨ (m.fields.any (fun x=>decide (x.name=f.un)))=true then false else if((m.fields.take i).any (fun x=>decide (x.un=f.un)))=false then true else match m.fields[i-1]? with|some g=>decide (g.un=f.un)|none=>false)from rfl);have cu:=Lib.hid (fun W=>qbv f.un W hu);generalize qh4 m i f=R at HV ⊢;have hii:(i:Int)<(m.fields.length:Int):=by omega
 have hi0:(0:Int)<=(i:Int):=by omega
 have aE:=qec;obtain⟨K,hK⟩ : ∃K,K=16:=⟨_,rfl⟩;have zE : ∀w,(Go.sizeOf 65).run Tryz.prog w=.ok K w:=hK ▸ qd2
 have l2:Sem.run Tryz.prog (loadCellsFrom ⟨b,off+i*K,none⟩ 0 K #[]) (w.alloc (.cells #[.string (S m.name),.slice (some ⟨b,off,none⟩) m.fields.length mc1,.slice mq2 m.res.length mc2,.slice mq3 m.gone.length mc3,.slice mq4 m.notes.length mc4] 57))=.ok #[.int .i64 f.num,.string (S f.name),.int .i64 f.card,.int .i64 f.key,.int .i64 f.tk,.string (S f.tn),.string (S f.un),.bool f.hd,.int .i64 f.df.k,.int .u64 f.df.x,.string (S f.df.t),.slice r1 f.df.n1 d1,.slice r2 f.df.n2 d2,.slice r3 f.df.n3 d3,.slice r4 f.df.n4 d4,.slice v1 f.notes.length z1] (w.alloc (.cells #[.string (S m.name),.slice (some ⟨b,off,none⟩) m.fields.length mc1,.slice mq2 m.res.length mc2,.slice mq3 m.gone.length mc3,.slice mq4 m.notes.length mc4] 57)):=run_loadCellsFrom_list Tryz.prog _ _ _ K hK.symm (fun j v hj=>by
  rw [hK,Addr.add_lit]
  exact kb.some (hce j v hj))
 have HK:=Lib.hid hK;have hl1:=KB.out _ (Bel.refl _);clear hK hce hnt hel hm hf
 go_enter Tryz.func106,Tryz.ntmps106
 go_upto_region 2 with(fail)
 all_goals (first|(exfalso;exact absurd HK.out.symm (by assumption))|(have h16:16=K:=(by assumption);subst h16))
 clear l2 aE zE HK hl1;have hz:((w.alloc (.cells #[.string (S m.name),.slice (some ⟨b,off,none⟩) m.fields.length mc1,.slice mq2 m.res.length mc2,.slice mq3 m.gone.length mc3,.slice mq4 m.notes.length mc4] 57))).heap.size=w.heap.size+1:=by simp
 generalize (w.alloc (.cells #[.string (S m.name),.slice (some ⟨b,off,none⟩) m.fields.length mc1,.slice mq2 m.res.length mc2,.slice mq3 m.gone.length mc3,.slice mq4 m.notes.length mc4] 57))=WB at *;generalize hwF:World.alloc WB _=wF;have kF:Bel WB wF:=by rw [←hwF];exact(Bel.refl _).alloc _
 have x2:wF.cell? ⟨w.heap.size+1,2,none⟩=some (.int .i64 f.card):=by rw [←hwF, ←hz,World.cell?_alloc_at _ _ _ _ rfl];rfl
 have x6:wF.cell? ⟨w.heap.size+1,6,none⟩=some (.string (S f.un)):=by rw [←hwF, ←hz,World.cell?_alloc_at _ _ _ _ rfl];rfl
 clear hwF hz;have kwF:Bel w wF:=Bel.of kb kF.out;have hl1:=KB.out _ kF;by_cases h0:f.un=[]
 ·have HR:=Lib.hid (show true=R by rw [HV.out,if_pos h0])
  have he:(S f.un).toList=[]:=by rw [h0];exact qgy [] rfl
  have he2:(S f.un).toList.isEmpty=true:=by rw [he];rfl
  clear HV h0;go_wp2
  all_goals go_ret
  all_goals exact⟨qa4 HR.out,kwF.out⟩
 ·have he:=qcf f.un h0
  have he2:=qcn f.un h0;have HV2:=Lib.hid (show R=(if f.card ≠ 2 ∨ qaj f.un=false ∨ (m.fields.any (fun x=>decide (x.name=f.un)))=true then false else if((m.fields.take i).any (fun x=>decide (x.un=f.un)))=false then true else match m.fields[i-1]? with|some g=>decide (g.un=f.un)|none=>false)by rw [HV.out,if_neg h0]);clear HV h0;by_cases h2:f.card=2
  ·have q2:(f.card != 2)=false:=by rw [h2];rfl
   cases hU:qaj f.un with
   | false=>
    have HR:=Lib.hid (show false=R by rw [HV2.out,if_pos (.inr (.inl hU))]);rw [hU]at cu;clear HV2 h2 hU
    go_wp2_with (go_at_call 102;(with_reducible refine(cu.out _).mono ?_);rintro e w1 ⟨rfl,g1⟩;have k1:Bel w w1:=Bel.of kwF g1;clear g1)
    all_goals go_ret
    all_goals exact⟨qa4 HR.out,k1.out⟩
   | true=>
    have HV3:=Lib.hid (show R=(if(m.fields.any (fun x=>decide (x.name=f.un)))=true then false else if((m.fields.take i).any (fun x=>decide (x.un=f.un)))=false then true else match m.fields[i-1]? with|some g=>decide (g.un=f.un)|none=>false)by
     rw [HV2.out];by_cases ha:(m.fields.any (fun x=>decide (x.name=f.un)))=true
     ·rw [if_pos (.inr (.inr ha)),if_pos ha]
     ·rw [if_neg (fun h=>by rcases h with h|h|h;exact h h2;rw [hU]at h;cases h;exact ha h),if_neg ha])
    rw [hU]at cu;have HA0:=Lib.hid (show(m.fields.drop 0).any (fun x=>decide (x.name=f.un))=m.fields.any (fun x=>decide (x.name=f.un))from rfl);clear HV2 h2 hU;generalize m.fields.any (fun x=>decide (x.name=f.un))=YA at HV3 HA0
    go_upto_region 6 with(go_at_call 102;(with_reducible refine(cu.out _).mono ?_);rintro e w1 ⟨rfl,g1⟩;have k1:Bel wF w1:=Bel.of (Bel.refl _) g1;clear g1)
    have KX:=Lib.hid (fun W (k:Bel w1 W)=>And.intro (k.some (k1.some x2)) (And.intro (k.some (k1.some x6)) (k.some (k1.some hl1))));clear x2 x6 hl1;go_wp2
    go_loopw [6,7] (fun er jj wr => ∃(j:Nat) (e:Bool),j<=m.fields.length/\jj=.int .i64 j/\er=.bool e/\Bel w1 wr/\Hid ((m.fields.drop j).any (fun x=>decide (x.name=f.un))=YA/\e=((m.fields.take i).take j).any (fun x=>decide (x.un=f.un)))) (fun _ jj _=>m.fields.length-(intOf jj).toNat)
    case atStart=>exact⟨0,false,by omega,rfl,rfl,Bel.refl _,Lib.hid ⟨HA0.out,by simp⟩⟩
    case round=>
     obtain⟨j,er,hj,rfl,rfl,kw,hgo⟩:=hrel;obtain⟨wr0,hwr0⟩ : ∃wr0,wr0=wr:=⟨_,rfl⟩;subst hwr0;obtain⟨x2,x6,hl1⟩:=KX.out _ kw;have hw:Bel w wr0:=Bel.of (Bel.of kwF k1.out) kw.out;by_cases hlt:j<m.fields.length
     ·have hji:(j:Int)<(m.fields.length:Int):=by omega
      have hj0:(0:Int)<=(j:Int):=by omega
      have hg:=List.getElem?_eq_getElem hlt;obtain⟨y1,y6⟩:=HX.out j _ hg;have HS1:=Lib.hid (show(decide (m.fields[j].name=f.un) || (m.fields.drop (j+1)).any (fun x=>decide (x.name=f.un)))=YA by rw [←hgo.out.1,qhu _ _ _ _ hg]);have HS2:=Lib.hid (show((m.fields.take i).take (j+1)).any (fun x=>decide (x.un=f.un))=(er || (decide (j<i) && decide (m.fields[j].un=f.un)))by rw [hgo.out.2,take_at _ _ _ _ _ hg]);clear hgo hg;generalize m.fields[j]=x at *;have KX2:=Lib.hid (fun W (k:Bel wr0 W)=>And.intro (k.some (hw.some y1)) (And.intro (k.some (hw.some y6)) (KX.out W (Bel.of kw k.out))));clear y1 y6
      go_upto_region 10 with(fail)
      clear x2 x6 hl1;obtain⟨wd,hwd⟩ : ∃wd,wd=wr0.drew:=⟨_,rfl⟩;have kd:Bel wr0 wd:=by rw [hwd];exact(Bel.refl _).drew
      have HWD:=Lib.hid hwd;clear hwd;obtain⟨y1,y6,x2,x6,hl1⟩:=KX2.out _ kd;by_cases hn:x.name=f.un
      ·have qn:((S x.name).toList == (S f.un).toList)=true:=by rw [eq_S];exact decide_eq_true hn
       have hYA:YA=true:=by rw [←HS1.out,decide_eq_true hn];rfl
       have HR:=Lib.hid (show false=R by rw [HV3.out,if_pos hYA]);clear hn HS1 HS2 hYA HV3;refine qag 8 (by kernel_rfl) (by kernel_rfl) HWD.out ?_
       (simp only [List.take_succ_cons,List.take_zero,List.drop_succ_cons,List.drop_zero]);(repeat (first|((with_reducible refine wpStill_step (fun K hK=>?_));go_simp;(with_reducible refine hK _ ?_);clear hK K)|((with_reducible refine qah ?_ ?_);(with_unfolding_all rfl))));(with_reducible refine wpStill_nil ?_)
       go_wp2;go_ret
       exact⟨qa4 HR.out,(Bel.of hw kd.out).out⟩
      ·have qn:((S x.name).toList == (S f.un).toList)=false:=by rw [eq_S];exact decide_eq_false hn
       have HG1:=Lib.hid (show(m.fields.drop (j+1)).any (fun x=>decide (x.name=f.un))=YA by rw [←HS1.out,decide_eq_false hn,Bool.false_or]);clear hn HS1;refine qag 8 (by kernel_rfl) (by kernel_rfl) HWD.out ?_
       (simp only [List.take_succ_cons,List.take_zero,List.drop_succ_cons,List.drop_zero]);(repeat (first|((with_reducible refine wpStill_step (fun K hK=>?_));go_simp;(with_reducible refine hK _ ?_);clear hK K)|((with_reducible refine qah ?_ ?_);(with_unfolding_all rfl))));(with_reducible refine wpStill_nil ?_)
       go_upto_region 12 with(fail)
       clear y1 y6 x2 x6 hl1;obtain⟨wd2,hwd2⟩ : ∃wd2,wd2=wd.drew:=⟨_,rfl⟩;have kd2:Bel wr0 wd2:=by rw [hwd2];exact kd.drew
       have HWD2:=Lib.hid hwd2;clear hwd2;obtain⟨y1,y6,x2,x6,hl1⟩:=KX2.out _ kd2;have kE:Bel w1 wd2:=Bel.of kw kd2.out;by_cases hji2:j<i
       ·have q1:(j:Int)<(i:Int):=by omega
        by_cases hx:x.un=f.un
        ·have qx:((S x.un).toList == (S f.un).toList)=true:=by rw [eq_S];exact decide_eq_true hx
         have HG2:=Lib.hid (show true=((m.fields.take i).take (j+1)).any (fun x=>decide (x.un=f.un))by rw [HS2.out,decide_eq_true hji2,decide_eq_true hx];simp);clear hx HS2;refine qag 12 (by kernel_rfl) (by kernel_rfl) HWD2.out ?_
         (simp only [List.take_succ_cons,List.take_zero,List.drop_succ_cons,List.drop_zero]);(repeat (first|((with_reducible refine wpStill_step (fun K hK=>?_));go_simp;(with_reducible refine hK _ ?_);clear hK K)|((with_reducible refine qah ?_ ?_);(with_unfolding_all rfl))));(with_reducible refine wpStill_nil ?_)
         go_wp2;exact⟨⟨j+1,true,by omega,by go_num,rfl,kE,Lib.hid ⟨HG1.out,HG2.out⟩⟩,by simp [intOf];omega⟩
        ·have qx:((S x.un).toList == (S f.un).toList)=false:=by rw [eq_S];exact decide_eq_false hx
         have HG2:=Lib.hid (show er=((m.fields.take i).take (j+1)).any (fun x=>decide (x.un=f.un))by rw [HS2.out,decide_eq_false hx,Bool.and_false,Bool.or_false]);clear hx HS2;refine qag 12 (by kernel_rfl) (by kernel_rfl) HWD2.out ?_
         (simp only [List.take_succ_cons,List.take_zero,List.drop_succ_cons,List.drop_zero]);(repeat (first|((with_reducible refine wpStill_step (fun K hK=>?_));go_simp;(with_reducible refine hK _ ?_);clear hK K)|((with_reducible refine qah ?_ ?_);(with_unfolding_all rfl))));(with_reducible refine wpStill_nil ?_)
         go_wp2;exact⟨⟨j+1,er,by omega,by go_num,rfl,kE,Lib.hid ⟨HG1.out,HG2.out⟩⟩,by simp [intOf];omega⟩
       ·have q1 : ¬((j:Int)<(i:Int)):=by omega
        have HG2:=Lib.hid (show er=((m.fields.take i).take (j+1)).any (fun x=>decide (x.un=f.un))by rw [HS2.out,decide_eq_false hji2,Bool.false_and,Bool.or_false]);clear HS2;refine qag 12 (by kernel_rfl) (by kernel_rfl) HWD2.out ?_
        (simp only [List.take_succ_cons,List.take_zero,List.drop_succ_cons,List.drop_zero]);(repeat (first|((with_reducible refine wpStill_step (fun K hK=>?_));go_simp;(with_reducible refine hK _ ?_);clear hK K)|((with_reducible refine qah ?_ ?_);(with_unfolding_all rfl))));(with_reducible refine wpStill_nil ?_)
        go_wp2;exact⟨⟨j+1,er,by omega,by go_num,rfl,kE,Lib.hid ⟨HG1.out,HG2.out⟩⟩,by simp [intOf];omega⟩
     ·have hji : ¬(j:Int)<(m.fields.length:Int):=by omega
      have hYA:YA=false:=by
       have h:=hgo.out.1;rw [show j=m.fields.length by omega,List.drop_length]at h;exact h.symm
      have her:er=(m.fields.take i).any (fun x=>decide (x.un=f.un)):=by
       have h:=hgo.out.2;rw [h,List.take_of_length_le (by simp;omega)]
      have HV4:=Lib.hid (show R=(if er=false then true else match m.fields[i-1]? with|some g=>decide (g.un=f.un)|none=>false)by rw [HV3.out,hYA,her,if_neg (by simp)]);have HE0:=Lib.hid her;clear hgo hYA her HV3
      go_upto_region 14 with(fail)
      clear x2 x6 hl1;obtain⟨wd,hwd⟩ : ∃wd,wd=wr0.drew:=⟨_,rfl⟩;have kd:Bel wr0 wd:=by rw [hwd];exact(Bel.refl _).drew
      have HWD:=Lib.hid hwd;clear hwd;obtain⟨x2,x6,hl1⟩:=KX.out _ (Bel.of kw kd.out);cases er with
      | false=>
       have HR:=Lib.hid (show true=R by rw [HV4.out,if_pos rfl]);clear HV4;refine qag 12 (by kernel_rfl) (by kernel_rfl) HWD.out ?_
       (simp only [List.take_succ_cons,List.take_zero,List.drop_succ_cons,List.drop_zero]);(repeat (first|((with_reducible refine wpStill_step (fun K hK=>?_));go_simp;(with_reducible refine hK _ ?_);clear hK K)|((with_reducible refine qah ?_ ?_);(with_unfolding_all rfl))));(with_reducible refine wpStill_nil ?_)
       go_wp2;go_ret
       exact⟨qa4 HR.out,(Bel.of hw kd.out).out⟩
      | true=>
       have hip:0<i:=by
        rcases Nat.eq_zero_or_pos i with h|h
        ·have h2:=HE0.out
         rw [h,List.take_zero]at h2;cases h2
        ·exact h
       obtain⟨ip,hip2⟩ : ∃ip,i=ip+1:=⟨i-1,by omega⟩;have hgp:=List.getElem?_eq_getElem (show ip<m.fields.length by omega);obtain⟨_,y6⟩:=HX.out ip _ hgp;have HR:=Lib.hid (show decide (m.fields[ip].un=f.un)=R by rw [HV4.out,if_neg (by simp),show i-1=ip by omega,hgp]);generalize m.fields[ip]=g at *;have y6':=(Bel.of hw kd.out).some y6;have jw3:(i:Int)-1=(ip:Int):=by omega
       have jw2:IntKind.i64.wrap (ip:Int)=(ip:Int):=wrap_small _ (by omega) (by omega);have jw:IntKind.i64.wrap ((i:Int)-1)=(ip:Int):=by rw [jw3];exact jw2
       have j1:(ip:Int)<(m.fields.length:Int):=by omega
       have j0:(0:Int)<=(ip:Int):=by omega
       have qg:((S g.un).toList == (S f.un).toList)=decide (g.un=f.un):=eq_S _ _;clear HV4 hip2 hgp y6 hip HE0;generalize decide (g.un=f.un)=G at qg HR;refine qag 12 (by kernel_rfl) (by kernel_rfl) HWD.out ?_
       (simp only [List.take_succ_cons,List.take_zero,List.drop_succ_cons,List.drop_zero]);(repeat (first|((with_reducible refine wpStill_step (fun K hK=>?_));go_simp;(with_reducible refine hK _ ?_);clear hK K)|((with_reducible refine qah ?_ ?_);(with_unfolding_all rfl))));(with_reducible refine wpStill_nil ?_)
       go_wp2;go_ret
       exact⟨qa4 HR.out,(Bel.of hw kd.out).out⟩
  ·have q2:(f.card != 2)=true:=by rw [bne_iff_ne];exact h2
   have HR:=Lib.hid (show false=R by rw [HV2.out,if_pos (.inl h2)]);clear HV2 h2;go_wp2
   all_goals go_ret
   all_goals exact⟨qa4 HR.out,kwF.out⟩
end Go.Proofs.YtaaneecceiefoaaGreatDoor
