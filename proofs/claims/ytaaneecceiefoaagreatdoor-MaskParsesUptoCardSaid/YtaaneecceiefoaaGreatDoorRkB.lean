import Derived.Test.YtaaneecceiefoaaGreatDoorMdLaw
import Derived.Deep.OwnRows
import Derived.Test.YtaaneecceiefoaaGreatDoorRkA
import Derived.Deep.DeepCutAuto
set_option maxRecDepth 100000
set_option maxHeartbeats 4000000
set_option linter.unusedVariables false
set_option linter.unusedSimpArgs false
namespace Go.Proofs.YtaaneecceiefoaaGreatDoor
section
open Go.RowKit Ck
def BitsAt (w0:World) (Bf:Nat) (fin:List Bool) (wx:World):Prop:=w0.heap.size<=Bf/\wx.heap[Bf]? = some (.cells (fin.map Value.bool).toArray 4 (0,0))/\Bel w0 wx
theorem BitsAt.base {w0 wx:World} {Bf:Nat} {fin:List Bool} (h:BitsAt w0 Bf fin wx):Bel w0 wx:=h.2.2
theorem BitsAt.bel {w0 wx w':World} {Bf:Nat} {fin:List Bool} (h:BitsAt w0 Bf fin wx) (k:Bel wx w'):BitsAt w0 Bf fin w':=
 ⟨h.1,(Below.block k Bf (Array.getElem?_eq_some_iff.1 h.2.1).1).trans h.2.1,Bel.of h.2.2 k.out⟩
theorem BitsAt.cell {w0 wx:World} {Bf:Nat} {fin:List Bool} (h:BitsAt w0 Bf fin wx) (i:Nat) (hi:i<fin.length):wx.cell? ⟨Bf,i,none⟩=some (.bool (fin.getD i false)):=by
 rw [Lib.cell_of_heap h.2.1];simp [List.getD,hi]
theorem BitsAt.frozen {w0 wx:World} {Bf:Nat} {fin:List Bool} (h:BitsAt w0 Bf fin wx) (i:Nat):wx.frozen? ⟨Bf,i,none⟩=false:=Lib.frozen_of_heap h.2.1 i
theorem BitsAt.set {w0 wx:World} {Bf:Nat} {fin:List Bool} (h:BitsAt w0 Bf fin wx) (i:Nat) (b:Bool):BitsAt w0 Bf (fin.set i b) (wx.setCell ⟨Bf,i,none⟩ (.bool b)):=by
 refine⟨h.1,?_,qbf h.2.2 h.1⟩;rw [heap_setCell_same wx Bf i _ _ _ h.2.1];simp [List.map_set]
theorem BitsAt.start {w0 wc:World} (k:Bel w0 wc) (n:Nat):BitsAt w0 wc.heap.size (List.replicate n false) (wc.alloc (.cells (madeCells #[.bool false] n) 4)):=by
 refine⟨k.size,?_,k.alloc _⟩;rw [heap_alloc_new]
 congr 2
 apply Array.ext
 ·simp [madeCells]
 ·intro i h1 h2
  simp [madeCells,Nat.mod_one]
theorem qpy:(Tryz.prog.info? 4).map (fun i=>(i.zero,i.size,i.bytes))=some (some (.bool false),1,1):=by kernel_rfl
end
section
open Go.RowKit Ck
def refF (s:PSchema) (fin:List Bool) (f:PField):Bool:=if f.card=1/\f.tk=10 then(match idxOf s f.tn with|some k => !fin.getD k false|none=>false)else false
theorem qmn (s:PSchema) (fin:List Bool) : ∀l:List PField,(((l.filter fun f=>decide (f.card=1/\f.tk=10)).map (·.tn)).any fun n=>match idxOf s n with|some k => !fin.getD k false|none=>false)=l.any (refF s fin)
 | []=>rfl
 | f :: r=>by
  have ih:=qmn s fin r;rw [List.any_cons, ←ih,List.filter_cons];by_cases h:f.card=1/\f.tk=10
  ·rw [if_pos (by simpa using h),List.map_cons,List.any_cons]
   unfold refF;rw [if_pos h]
  ·rw [if_neg (by simpa using h)]
   unfold refF;rw [if_neg h,Bool.false_or]
theorem qiw (s:PSchema) (m:PMsg) (fin:List Bool):qb7 s m fin=m.fields.any (refF s fin):=qmn s fin m.fields
theorem qjh {α:Type} (p:α->Bool) (l:List α) (k:Nat) (x:α) (h:l[k]? = some x):(l.drop k).any p=(p x || (l.drop (k+1)).any p):=by
 obtain⟨hk,rfl⟩:=List.getElem?_eq_some_iff.1 h;rw [List.drop_eq_getElem_cons hk,List.any_cons]
theorem refF_of {s:PSchema} {fin:List Bool} {f:PField} (h:f.card=1/\f.tk=10):refF s fin f=match idxOf s f.tn with|some k => !fin.getD k false|none=>false:=by unfold refF;rw [if_pos h]
theorem refF_not {s:PSchema} {fin:List Bool} {f:PField} (h : ¬(f.card=1/\f.tk=10)):refF s fin f=false:=by unfold refF;rw [if_neg h]
theorem ql0 (n i:Nat) (h:i<n):(List.range n).drop i=i :: (List.range n).drop (i+1):=by
 rw [List.drop_eq_getElem_cons (by simpa using h),List.getElem_range]
theorem qmh (sq1 sq2 sq3:Option Addr) (sc1 sc2 sc3:Nat) (s:PSchema) (mq1 mq2 mq3 mq4:Option Addr) (mc1 mc2 mc3 mc4:Nat) (m:PMsg) (fin:List Bool) (Bf fc:Nat) (w:World) (hs:VSchema w [.slice sq1 s.msgs.length sc1,.slice sq2 s.enums.length sc2,.slice sq3 s.svcs.length sc3] s) (hm:VMsg w [.string (S m.name),.slice mq1 m.fields.length mc1,.slice mq2 m.res.length mc2,.slice mq3 m.gone.length mc3,.slice mq4 m.notes.length mc4] m) (hf:w.heap[Bf]? = some (.cells (fin.map Value.bool).toArray 4 (0,0))) (hfl:fin.length=s.msgs.length) :
  Calls Tryz.prog 100 #[.agg #[.slice sq1 s.msgs.length sc1,.slice sq2 s.enums.length sc2,.slice sq3 s.svcs.length sc3],.agg #[.string (S m.name),.slice mq1 m.fields.length mc1,.slice mq2 m.res.length mc2,.slice mq3 m.gone.length mc3,.slice mq4 m.notes.length mc4],.slice (some ⟨Bf,0,none⟩) s.msgs.length fc] w fun e w'=>e=.returned (.bool (qb7 s m fin))/\Below w.heap.size w w':=by
 have hKB : ∀W',Bel ((w.alloc (.cells #[.slice sq1 s.msgs.length sc1,.slice sq2 s.enums.length sc2,.slice sq3 s.svcs.length sc3] 26)).alloc (.cells #[.string (S m.name),.slice mq1 m.fields.length mc1,.slice mq2 m.res.length mc2,.slice mq3 m.gone.length mc3,.slice mq4 m.notes.length mc4] 57)) W'->W'.cell? ⟨w.heap.size,0,none⟩=some (.slice sq1 s.msgs.length sc1)/\W'.cell? ⟨w.heap.size,1,none⟩=some (.slice sq2 s.enums.length sc2)/\W'.cell? ⟨w.heap.size,2,none⟩=some (.slice sq3 s.svcs.length sc3)/\W'.cell? ⟨(w.heap.size+1),0,none⟩=some (.string (S m.name))/\W'.cell? ⟨(w.heap.size+1),1,none⟩=some (.slice mq1 m.fields.length mc1)/\W'.cell? ⟨(w.heap.size+1),2,none⟩=some (.slice mq2 m.res.length mc2)/\W'.cell? ⟨(w.heap.size+1),3,none⟩=some (.slice mq3 m.gone.length mc3)/\W'.cell? ⟨(w.heap.size+1),4,none⟩=some (.slice mq4 m.notes.length mc4):=fun W' k=>by
  refine⟨k.some ?_,k.some ?_,k.some ?_,k.some ?_,k.some ?_,k.some ?_,k.some ?_,k.some ?_⟩
  all_goals first
   | (rw [World.cell?_alloc_at _ _ _ _ (by simp)];rfl)
   | (rw [World.cell?_alloc_past _ _ _ (by simp),World.cell?_alloc_at _ _ _ _ rfl];rfl)
 have KB:=Lib.hid hKB;have kb:Bel w ((w.alloc (.cells #[.slice sq1 s.msgs.length sc1,.slice sq2 s.enums.length sc2,.slice sq3 s.svcs.length sc3] 26)).alloc (.cells #[.string (S m.name),.slice mq1 m.fields.length mc1,.slice mq2 m.res.length mc2,.slice mq3 m.gone.length mc3,.slice mq4 m.notes.length mc4] 57)):=((Bel.refl _).alloc _).alloc _;have CY:=Lib.hid (fun W (k:Bel w W) (i:Nat) (hi:i<fin.length)=>(show W.cell? ⟨Bf,i,none⟩=some (.bool (fin.getD i false))from k.some (by rw [Lib.cell_of_heap hf];simp [List.getD,hi])));have CM:=Lib.hid (fun(n:Str) W (k:Bel w W)=>qcc sq1 sq2 sq3 sc1 sc2 sc3 s n W (hs.stays_bel k));obtain⟨_,_,_,hcs,hm1,_,_⟩:=id hs;cases hcs;have hsl:s.msgs.length<=140737488355328:=by obtain⟨_,_,_,h,_⟩:=hm1;exact h
 obtain⟨_,_,_,_,hcm,g1,_,_,_⟩:=id hm;cases hcm;have G1:=Lib.hid g1;have hll:m.fields.length<=140737488355328:=by obtain⟨_,_,_,h,_⟩:=g1;exact h
 have HV:=Lib.hid (show(m.fields.drop 0).any (refF s fin)=qb7 s m fin by rw [qiw];rfl);generalize qb7 s m fin=R at HV;clear hKB hf hs hm hm1 g1;obtain⟨c0,c1,c2,e0,e1,e2,e3,e4⟩:=KB.out _ (Bel.refl _)
 go_enter Tryz.func100,Tryz.ntmps100
 go_wp2
 go_loopw [7] (fun i wr => ∃k:Nat,k<=m.fields.length/\i=.int .i64 k/\Bel ((w.alloc (.cells #[.slice sq1 s.msgs.length sc1,.slice sq2 s.enums.length sc2,.slice sq3 s.svcs.length sc3] 26)).alloc (.cells #[.string (S m.name),.slice mq1 m.fields.length mc1,.slice mq2 m.res.length mc2,.slice mq3 m.gone.length mc3,.slice mq4 m.notes.length mc4] 57)) wr/\Hid ((m.fields.drop k).any (refF s fin)=R)) (fun i _=>m.fields.length-(intOf i).toNat)
 case atStart=>exact⟨0,by omega,rfl,Bel.refl _,HV⟩
 case round=>
  clear c0 c1 c2 e0 e1 e2 e3 e4;obtain⟨k,hk,rfl,kw,hgo⟩:=hrel;obtain⟨c0,c1,c2,e0,e1,e2,e3,e4⟩:=KB.out _ kw;have hw3:Bel w wr:=Bel.of kb kw.out;by_cases hlt:k<m.fields.length
  ·have hki:(k:Int)<(m.fields.length:Int):=by omega
   have hk0:(0:Int)<=(k:Int):=by omega
   have hg2:=List.getElem?_eq_getElem hlt;have hl3:=G1.out;obtain⟨qq3,cq3,hqe3,_,_,hel3⟩:=hl3;cases hqe3;obtain⟨b4,off4,hqq4,hbs4,cs4,hce4,hvs4⟩:=hel3 k _ hg2;have HST3:=Lib.hid (show(refF s fin m.fields[k] || (m.fields.drop (k+1)).any (refF s fin))=R by rw [←hgo.out,qjh _ _ _ _ hg2]);obtain⟨_,_,hvv4,⟨r1,r2,r3,r4,d1,d2,d3,d4,hvv5,_⟩,hnt⟩:=hvs4;obtain⟨v1,z1,hnv,_⟩:=qa5 hnt;subst hvv4 hvv5 hnv;generalize m.fields[k]=f at *;have aE:=qfe;obtain⟨K,hK⟩ : ∃K,K=16:=⟨_,rfl⟩;have zE : ∀w,(Go.sizeOf 65).run Tryz.prog w=.ok K w:=hK ▸ qdx
   have l2:Sem.run Tryz.prog (loadCellsFrom ⟨b4,off4+k*K,none⟩ 0 K #[]) wr=.ok #[.int .i64 f.num,.string (S f.name),.int .i64 f.card,.int .i64 f.key,.int .i64 f.tk,.string (S f.tn),.string (S f.un),.bool f.hd,.int .i64 f.df.k,.int .u64 f.df.x,.string (S f.df.t),.slice r1 f.df.n1 d1,.slice r2 f.df.n2 d2,.slice r3 f.df.n3 d3,.slice r4 f.df.n4 d4,.slice v1 f.notes.length z1] wr:=run_loadCellsFrom_list Tryz.prog _ _ _ K hK.symm (fun i v hi=>by
    rw [hK,Addr.add_lit]
    exact hw3.some (hce4 i v hi))
   have HK:=Lib.hid hK;subst hqq4;clear hK hce4 hg2 hnt hel3 hgo
   go_upto_region 5 with(fail)
   all_goals (first|(exfalso;exact absurd HK.out.symm (by assumption))|(have h16:16=K:=(by assumption);subst h16))
   clear l2 aE zE HK c0 c1 c2 e0 e1 e2 e3 e4;generalize hwF:World.alloc wr _=wF;have kF:Bel wr wF:=by rw [←hwF];exact(Bel.refl _).alloc _
   have x2:wF.cell? ⟨wr.heap.size,2,none⟩=some (.int .i64 f.card):=by rw [←hwF,World.cell?_alloc_at _ _ _ _ rfl];rfl
   have x4:wF.cell? ⟨wr.heap.size,4,none⟩=some (.int .i64 f.tk):=by rw [←hwF,World.cell?_alloc_at _ _ _ _ rfl];rfl
   have x5:wF.cell? ⟨wr.heap.size,5,none⟩=some (.string (S f.tn)):=by rw [←hwF,World.cell?_alloc_at _ _ _ _ rfl];rfl
   clear hwF;have kwF:Bel ((w.alloc (.cells #[.slice sq1 s.msgs.length sc1,.slice sq2 s.enums.length sc2,.slice sq3 s.svcs.length sc3] 26)).alloc (.cells #[.string (S m.name),.slice (some ⟨b4,off4,none⟩) m.fields.length mc1,.slice mq2 m.res.length mc2,.slice mq3 m.gone.length mc3,.slice mq4 m.notes.length mc4] 57)) wF:=Bel.of kw kF.out;have hwF:Bel w wF:=Bel.of hw3 kF.out;obtain⟨c0,c1,c2,e0,e1,e2,e3,e4⟩:=KB.out _ kwF;by_cases hb:f.card=1/\f.tk=10
   ·have q1:(f.card != 1)=false:=by rw [hb.1];rfl
    have q2:(f.tk != 10)=false:=by rw [hb.2];rfl
    have hRF:=refF_of (s:=s) (fin:=fin) hb;clear hb;cases hx:idxOf s f.tn with
    | none=>
     have CMx:=Lib.hid (fun W (k:Bel w W)=>(show Calls Tryz.prog 111 #[.agg #[.slice sq1 s.msgs.length sc1,.slice sq2 s.enums.length sc2,.slice sq3 s.svcs.length sc3],.string (S f.tn)] W (fun e w'=>e=.returned (.int .i64 (-1))/\Below W.heap.size W w')by have h:=CM.out f.tn W k;rw [hx]at h;exact h));have HG:=Lib.hid (show(m.fields.drop (k+1)).any (refF s fin)=R by rw [←HST3.out,hRF,hx,Bool.false_or]);clear hx hRF HST3
     go_wp2_with (go_at_call 111;(with_reducible refine(CMx.out _ hwF).mono ?_);rintro e w4 ⟨rfl,h4⟩;have k4:Bel wF w4:=Bel.of (Bel.refl _) h4;clear h4)
     exact⟨⟨k+1,by omega,by go_num,Bel.of kwF k4.out,HG⟩,by simp [intOf];omega⟩
    | some kx=>
     have CMx:=Lib.hid (fun W (k:Bel w W)=>(show Calls Tryz.prog 111 #[.agg #[.slice sq1 s.msgs.length sc1,.slice sq2 s.enums.length sc2,.slice sq3 s.svcs.length sc3],.string (S f.tn)] W (fun e w'=>e=.returned (.int .i64 (kx:Int))/\Below W.heap.size W w')by have h:=CM.out f.tn W k;rw [hx]at h;exact h))
     have hkx:kx<s.msgs.length:=by
      obtain⟨mm,h1,_⟩:=qe8 hx;exact(List.getElem?_eq_some_iff.1 h1).1
     have HG:=Lib.hid (show(!fin.getD kx false || (m.fields.drop (k+1)).any (refF s fin))=R by rw [←HST3.out,hRF,hx]);have CYx:=Lib.hid (fun W (k:Bel w W)=>CY.out W k kx (by omega));have hx0:(0:Int)<=(kx:Int):=by omega
     have hx1:(kx:Int)<(s.msgs.length:Int):=by omega
     clear hx hRF HST3 hkx;generalize fin.getD kx false=bk at *;cases bk with
     | true=>
      go_wp2_with (go_at_call 111;(with_reducible refine(CMx.out _ hwF).mono ?_);rintro e w4 ⟨rfl,h4⟩;have k4:Bel wF w4:=Bel.of (Bel.refl _) h4;have y:=CYx.out _ (Bel.of hwF k4.out);clear h4)
      exact⟨⟨k+1,by omega,by go_num,Bel.of kwF k4.out,Lib.hid (by have h:=HG.out;simpa using h)⟩,by simp [intOf];omega⟩
     | false=>
      have hR:=Lib.hid (show true=R by have h:=HG.out;simpa using h);clear HG
      go_wp2_with (go_at_call 111;(with_reducible refine(CMx.out _ hwF).mono ?_);rintro e w4 ⟨rfl,h4⟩;have k4:Bel wF w4:=Bel.of (Bel.refl _) h4;have y:=CYx.out _ (Bel.of hwF k4.out);clear h4)
      go_ret;exact⟨qa7 hR.out,(Bel.of hwF k4.out).out⟩
   ·have HG:=Lib.hid (show(m.fields.drop (k+1)).any (refF s fin)=R by rw [←HST3.out,refF_not hb,Bool.false_or])
    clear HST3
    have hq:((f.card != 1)=false/\(f.tk != 10)=true) ∨ (f.card != 1)=true:=by
     by_cases h1:f.card=1
     ·exact .inl ⟨by rw [h1];rfl,by rw [bne_iff_ne];exact fun h=>hb ⟨h1,h⟩⟩
     ·exact .inr (by rw [bne_iff_ne];exact h1)
    clear hb;rcases hq with⟨q1,q2⟩|q1
    all_goals
     go_wp2;exact⟨⟨k+1,by omega,by go_num,kwF,HG⟩,by simp [intOf];omega⟩
  ·have hki : ¬(k:Int)<(m.fields.length:Int):=by omega
   have hR:=Lib.hid (show false=R by
    have:=hgo.out;rw [show k=m.fields.length by omega,List.drop_length]at this
    rw [←this];rfl)
   clear hgo;go_wp2;go_ret;exact⟨qa7 hR.out,hw3.out⟩
theorem qp5 (sq1 sq2 sq3:Option Addr) (sc1 sc2 sc3:Nat) (s:PSchema) (w:World) (hs:VSchema w [.slice sq1 s.msgs.length sc1,.slice sq2 s.enums.length sc2,.slice sq3 s.svcs.length sc3] s) :
  Calls Tryz.prog 73 #[.agg #[.slice sq1 s.msgs.length sc1,.slice sq2 s.enums.length sc2,.slice sq3 s.svcs.length sc3]] w fun e w' => ∃Bf,e=.returned (.slice (some ⟨Bf,0,none⟩) s.msgs.length s.msgs.length)/\BitsAt w Bf (qba s) w'/\(qba s).length=s.msgs.length:=by
 have KB:=Lib.hid (fun W' (k:Bel (w.alloc (.cells #[.slice sq1 s.msgs.length sc1,.slice sq2 s.enums.length sc2,.slice sq3 s.svcs.length sc3] 26)) W')=>show W'.cell? ⟨w.heap.size,0,none⟩=some (.slice sq1 s.msgs.length sc1)/\W'.cell? ⟨w.heap.size,1,none⟩=some (.slice sq2 s.enums.length sc2)/\W'.cell? ⟨w.heap.size,2,none⟩=some (.slice sq3 s.svcs.length sc3)from⟨k.some ((World.cell?_alloc_at _ _ _ _ rfl).trans rfl),k.some ((World.cell?_alloc_at _ _ _ _ rfl).trans rfl),k.some ((World.cell?_alloc_at _ _ _ _ rfl).trans rfl)⟩);have kb:Bel w (w.alloc (.cells #[.slice sq1 s.msgs.length sc1,.slice sq2 s.enums.length sc2,.slice sq3 s.svcs.length sc3] 26)):=(Bel.refl _).alloc _;have hs0:=hs;obtain⟨_,_,_,hcs,hm1,_,_⟩:=hs;cases hcs;have hsl:s.msgs.length<=140737488355328:=by obtain⟨_,_,_,h,_⟩:=hm1;exact h
 have HM1:=Lib.hid hm1;have CN:=Lib.hid (fun(mq1 mq2 mq3 mq4:Option Addr) (mc1 mc2 mc3 mc4:Nat) (m:PMsg) (fin:List Bool) (Bf fc:Nat) W (k:Bel w W)=>qmh sq1 sq2 sq3 sc1 sc2 sc3 s mq1 mq2 mq3 mq4 mc1 mc2 mc3 mc4 m fin Bf fc W (hs0.stays_bel k));have hmk:=run_make_row' (P:=Tryz.prog) 121 4 (.bool false) 1 Tryz.underlying121 qpy rfl .i64 .i64 s.msgs.length (by omega) (by omega);have HF0:=Lib.hid (show(if true=true then qe0 s (s.msgs.length-0) (List.replicate s.msgs.length false)else List.replicate s.msgs.length false)=qba s from rfl);generalize qba s=FT at HF0 ⊢;clear hm1 hs0;obtain⟨c0,c1,c2⟩:=KB.out _ (Bel.refl _)
 go_enter Tryz.func73,Tryz.ntmps73
 generalize hWB:(w.alloc (.cells #[.slice sq1 s.msgs.length sc1,.slice sq2 s.enums.length sc2,.slice sq3 s.svcs.length sc3] 26))=WB at KB kb c0 c1 c2
 (try rw [hWB])
 go_upto_region 2 with(fail)
 have hBS:=BitsAt.start (w0:=WB) (Bel.refl _) s.msgs.length;clear hmk c0 c1 c2;generalize World.alloc WB _=wb at *;obtain⟨Bf,hBf⟩ : ∃Bf,Bf=WB.heap.size:=⟨_,rfl⟩;rw [←hBf]at hBS;rw [←hBf];have hrl:(List.replicate s.msgs.length false).length=s.msgs.length:=List.length_replicate;have HBS:=Lib.hid hBS;clear hBS hBf;obtain⟨c0,c1,c2⟩:=KB.out _ HBS.out.base;go_wp2
 go_loopw [4,5] (fun mo i wr => ∃(r:Nat) (fin:List Bool) (more:Bool),r<=s.msgs.length/\i=.int .i64 r/\mo=.bool more/\BitsAt WB Bf fin wr/\fin.length=s.msgs.length/\Hid ((if more=true then qe0 s (s.msgs.length-r) fin else fin)=FT)) (fun _ i _=>s.msgs.length-(intOf i).toNat)
 case atStart=>exact⟨0,_,true,by omega,rfl,rfl,HBS.out,hrl,HF0⟩
 case round=>
  clear c0 c1 c2 hrl HF0 HBS;obtain⟨r,fin,more,hr,rfl,rfl,hB,hfl,hgo⟩:=hrel;obtain⟨c0,c1,c2⟩:=KB.out _ hB.base;by_cases hlt:r<s.msgs.length/\more=true
  ·obtain⟨hlt,hmo⟩:=hlt
   subst hmo;have hri:(r:Int)<(s.msgs.length:Int):=by omega
   obtain⟨R1,hR1⟩ : ∃R1,R1=qgt s fin:=⟨_,rfl⟩
   have HG:=Lib.hid (show(if R1.2=true then qe0 s (s.msgs.length-(r+1)) R1.1 else R1.1)=FT by
    have h:=hgo.out;rw [if_pos rfl,show s.msgs.length-r=(s.msgs.length-(r+1))+1 by omega]at h;rw [hR1]
    exact h)
   have HR1:=Lib.hid (show((List.range s.msgs.length).drop 0).foldl (rStep s) (fin,false)=R1 from hR1.symm);clear hR1 hgo;go_wp2
   go_loopw [4,6] (fun mo i wr => ∃(j:Nat) (fin2:List Bool) (mo2:Bool),j<=s.msgs.length/\i=.int .i64 j/\mo=.bool mo2/\BitsAt WB Bf fin2 wr/\fin2.length=s.msgs.length/\Hid (((List.range s.msgs.length).drop j).foldl (rStep s) (fin2,mo2)=R1)) (fun _ i _=>s.msgs.length-(intOf i).toNat)
   case atStart=>exact⟨0,fin,false,by omega,rfl,rfl,hB,hfl,HR1⟩
   case round=>
    clear c0 c1 c2 hB HR1 hfl;obtain⟨j,fin2,mo2,hj,rfl,rfl,hB2,hfl2,hgo2⟩:=hrel;obtain⟨c0,c1,c2⟩:=KB.out _ hB2.base;by_cases hlt2:j<s.msgs.length
    ·have hji:(j:Int)<(s.msgs.length:Int):=by omega
     have hj0:(0:Int)<=(j:Int):=by omega
     have hg:=List.getElem?_eq_getElem hlt2;have hl1:=HM1.out;obtain⟨qq1,cq1,hqe1,_,_,hel1⟩:=hl1;cases hqe1;obtain⟨b1',off1,hqq1,hbs1,cs1,hce1,hvs1⟩:=hel1 j _ hg;have hst:rStep s (fin2,mo2) j=if fin2.getD j false=false/\qb7 s s.msgs[j] fin2=false then(fin2.set j true,true)else(fin2,mo2):=by unfold rStep;rw [hg]
     have HST:=Lib.hid (show((List.range s.msgs.length).drop (j+1)).foldl (rStep s) (if fin2.getD j false=false/\qb7 s s.msgs[j] fin2=false then(fin2.set j true,true)else(fin2,mo2))=R1 by
      have h:=hgo2.out;rw [ql0 _ _ hlt2,List.foldl_cons,hst]at h
      exact h)
     have HVM:=Lib.hid hvs1;obtain⟨_,_,_,_,hvv1,g1,g2,g3,g4⟩:=hvs1;obtain⟨u1,y1,rfl,_⟩:=qa5 g1;obtain⟨u2,y2,rfl,_⟩:=qa5 g2;obtain⟨u3,y3,rfl,_⟩:=qa5 g3;obtain⟨u4,y4,rfl,_⟩:=qa5 g4;subst hvv1 hqq1;have hwr:Bel w wr:=Bel.of kb hB2.base.out;have e0:=hwr.some (hce1 0 _ rfl);rw [Nat.add_zero]at e0;have e1:=hwr.some (hce1 1 _ rfl);have e2:=hwr.some (hce1 2 _ rfl);have e3:=hwr.some (hce1 3 _ rfl);have e4:=hwr.some (hce1 4 _ rfl);have y:=hB2.cell j (by omega);clear hel1 hce1 hg hst hgo2 g1 g2 g3 g4;generalize s.msgs[j]=m at *;have CN2:=Lib.hid (fun W (k:Bel wr W)=>CN.out u1 u2 u3 u4 y1 y2 y3 y4 m fin2 Bf s.msgs.length W (Bel.of hwr k.out) (VMsg.stays _ _ _ _ (Bel.of hwr k.out) HVM.out) (hB2.bel k).2.1 hfl2);generalize qb7 s m fin2=NB at CN2 HST;generalize fin2.getD j false=bj at *
     go_upto_region 10 with(fail)
     have KS:=Lib.hid (And.intro c0 (And.intro c1 (And.intro c2 (And.intro e0 (And.intro e1 (And.intro e2 (And.intro e3 (And.intro e4 y))))))));clear c0 c1 c2 e0 e1 e2 e3 e4 y;obtain⟨wd,hwd⟩ : ∃wd,wd=wr.drew:=⟨_,rfl⟩;have kd:Bel wr wd:=by rw [hwd];exact(Bel.refl _).drew
     have HWD:=Lib.hid hwd;clear hwd;have c0:=kd.some KS.out.1;have c1:=kd.some KS.out.2.1;have c2:=kd.some KS.out.2.2.1;have e0:=kd.some KS.out.2.2.2.1;have e1:=kd.some KS.out.2.2.2.2.1;have e2:=kd.some KS.out.2.2.2.2.2.1;have e3:=kd.some KS.out.2.2.2.2.2.2.1;have e4:=kd.some KS.out.2.2.2.2.2.2.2.1;have y:=kd.some KS.out.2.2.2.2.2.2.2.2;have HBD:=Lib.hid (hB2.bel kd);clear hB2;cases bj with
     | true=>
      have HN:=Lib.hid (show((List.range s.msgs.length).drop (j+1)).foldl (rStep s) (fin2,mo2)=R1 by have h:=HST.out;rwa [if_neg (by simp)]at h);clear HST;refine qae 13 (by kernel_rfl) (by kernel_rfl) HWD.out ?_
      (simp only [List.take_succ_cons,List.take_zero,List.drop_succ_cons,List.drop_zero]);(repeat (first|((with_reducible refine wpStill_step (fun K hK=>?_));go_simp;(with_reducible refine hK _ ?_);clear hK K)|((with_reducible refine qaf ?_ ?_);(with_unfolding_all rfl))));(with_reducible refine wpStill_nil ?_)
      go_wp2;exact⟨⟨j+1,fin2,mo2,by omega,by go_num,rfl,HBD.out,hfl2,HN⟩,by simp [intOf];omega⟩
     | false=>
      cases NB with
      | true=>
       have HN:=Lib.hid (show((List.range s.msgs.length).drop (j+1)).foldl (rStep s) (fin2,mo2)=R1 by have h:=HST.out;rwa [if_neg (by simp)]at h);clear HST;refine qae 13 (by kernel_rfl) (by kernel_rfl) HWD.out ?_
       (simp only [List.take_succ_cons,List.take_zero,List.drop_succ_cons,List.drop_zero]);(repeat (first|((with_reducible refine wpStill_step (fun K hK=>?_));go_simp;(with_reducible refine hK _ ?_);clear hK K)|((with_reducible refine qaf ?_ ?_);(with_unfolding_all rfl))));(with_reducible refine wpStill_nil ?_)
       go_wp2_with (go_at_call 100;(with_reducible refine(CN2.out _ kd).mono ?_);rintro e w4 ⟨rfl,h4⟩;have k4:Bel wd w4:=Bel.of (Bel.refl _) h4;clear h4)
       exact⟨⟨j+1,fin2,mo2,by omega,by go_num,rfl,HBD.out.bel k4,hfl2,HN⟩,by simp [intOf];omega⟩
      | false=>
       have HN:=Lib.hid (show((List.range s.msgs.length).drop (j+1)).foldl (rStep s) (fin2.set j true,true)=R1 by have h:=HST.out;rwa [if_pos (by simp)]at h);clear HST;refine qae 13 (by kernel_rfl) (by kernel_rfl) HWD.out ?_
       (simp only [List.take_succ_cons,List.take_zero,List.drop_succ_cons,List.drop_zero]);(repeat (first|((with_reducible refine wpStill_step (fun K hK=>?_));go_simp;(with_reducible refine hK _ ?_);clear hK K)|((with_reducible refine qaf ?_ ?_);(with_unfolding_all rfl))));(with_reducible refine wpStill_nil ?_)
       go_wp2_with (go_at_call 100;(with_reducible refine(CN2.out _ kd).mono ?_);rintro e w4 ⟨rfl,h4⟩;have k4:Bel wd w4:=Bel.of (Bel.refl _) h4;have HB4:=Lib.hid (HBD.out.bel k4);have y4:=HB4.out.cell j (by omega);have yf:=HB4.out.frozen j;clear h4)
       exact⟨⟨j+1,fin2.set j true,true,by omega,by go_num,rfl,HB4.out.set j _,by simpa using hfl2,HN⟩,by simp [intOf];omega⟩
    ·have hji : ¬(j:Int)<(s.msgs.length:Int):=by omega
     have hfR:(fin2,mo2)=R1:=by
      have h:=hgo2.out;rw [show j=s.msgs.length by omega,List.drop_eq_nil_of_le (by simp)]at h;exact h
     subst hfR;have HB2:=Lib.hid hB2;clear hgo2 hB2;go_wp2;exact⟨⟨r+1,fin2,mo2,by omega,by go_num,rfl,HB2.out,hfl2,HG⟩,by simp [intOf];omega⟩
  ·have hfT:fin=FT:=by
    have h:=hgo.out;by_cases hm:more=true
    ·have hge : ¬ r<s.msgs.length:=fun h2=>hlt ⟨h2,hm⟩
     rw [if_pos hm,show s.msgs.length-r=0 by omega]at h;exact h
    ·rw [if_neg hm]at h
     exact h
   subst hfT;have HE:Hid (BitsAt w Bf fin wr):=Lib.hid ⟨Nat.le_trans kb.size hB.1,hB.2.1,Bel.of kb hB.2.2.out⟩
   have hq : ¬((r:Int)<(s.msgs.length:Int)) ∨ ((r:Int)<(s.msgs.length:Int)/\more=false):=by
    by_cases h:r<s.msgs.length
    ·exact .inr ⟨by omega,by simpa [h]using hlt⟩
    ·exact .inl (by omega)
   clear hgo hB hlt;rcases hq with hq|⟨hq,hm⟩
   ·go_wp2
    all_goals go_ret
    all_goals (first|(exact⟨Bf,rfl,HE.out⟩)|(exact⟨Bf,rfl,HE.out,hfl⟩))
   ·subst hm
    go_wp2
    all_goals go_ret
    all_goals (first|(exact⟨Bf,rfl,HE.out⟩)|(exact⟨Bf,rfl,HE.out,hfl⟩))
end
end Go.Proofs.YtaaneecceiefoaaGreatDoor
