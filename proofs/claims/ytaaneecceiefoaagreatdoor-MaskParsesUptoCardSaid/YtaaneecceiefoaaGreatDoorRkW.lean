import Derived.Test.YtaaneecceiefoaaGreatDoorRkU
import Derived.Test.YtaaneecceiefoaaGreatDoorRkV
import Derived.Test.YtaaneecceiefoaaGreatDoorCkLists2
import Derived.Deep.DeepCutAuto
set_option maxRecDepth 100000
set_option maxHeartbeats 4000000
set_option linter.unusedVariables false
set_option linter.unusedSimpArgs false
namespace Go.Proofs.YtaaneecceiefoaaGreatDoor
open Go.RowKit Ck
theorem rC117 {a:Act} {ρ:Operand->Value} (h : ∀x,ρ x=a.eval x):(∀c,ρ (.const c)=c)/\∀f,ρ (.func f)=.func (.func f) #[] #[]:=⟨fun c=>h (.const c),fun f=>h (.func f)⟩
theorem qfu {ρ:Operand->Value} {dst:Option Tmp} {pos:String} {after:Array Edge} {guard:Option (Nat × Bool)} {x:Operand} {ty:TypeId} {g:Nat} {cs:Array Value} {W:World} (hx:ρ x=.pointer (some ⟨g,0,none⟩)) (hl : ∀K:Nat,K=16->Sem.run Tryz.prog (loadCellsFrom ⟨g,0,none⟩ 0 K #[]) W=.ok cs W) :
  (execOp ρ { dst:=dst,op:=.load 65 x,type:=ty,pos:=pos,after:=after,guard:=guard }).run Tryz.prog W=.ok (.value (.agg cs)) W:=by
 have aE:=qfe;obtain⟨K,hK⟩ : ∃K,K=16:=⟨_,rfl⟩;have zE : ∀w,(Go.sizeOf 65).run Tryz.prog w=.ok K w:=hK ▸ qdx;have l2:=hl K hK;clear hK hl;go_simp
def qdl (s:PSchema) (m:PMsg) (fin:List Bool):List PProb:=un m.name (-1) (qal m.name) 8 ++ un m.name (-1) (decide (m.fields.length<=64/\m.res.length<=16/\m.gone.length<=16)) 3 ++ qbs s m 0 m.fields ++ spans m.name m.res 1 65535 ++ goneP m.name m.gone ++ noted m.name (-1) m.notes 1 ++ un m.name (-1) (!qb7 s m fin) 19
theorem qmi (sq1 sq2 sq3:Option Addr) (sc1 sc2 sc3:Nat) (s:PSchema) (mq1 mq2 mq3 mq4:Option Addr) (mc1 mc2 mc3 mc4:Nat) (m:PMsg) (fin:List Bool) (Bf fc:Nat) (w:World) (hs:VSchema w [.slice sq1 s.msgs.length sc1,.slice sq2 s.enums.length sc2,.slice sq3 s.svcs.length sc3] s) (hm:VMsg w [.string (S m.name),.slice mq1 m.fields.length mc1,.slice mq2 m.res.length mc2,.slice mq3 m.gone.length mc3,.slice mq4 m.notes.length mc4] m) (hfb:w.heap[Bf]? = some (.cells (fin.map Value.bool).toArray 4 (0,0))) (hfl0:fin.length=s.msgs.length) (hnm:m.name.length<=100000000) (hl1:m.fields.length<=2000000) (hl2:m.res.length<=2000000) (hl3:m.gone.length<=2000000)
  (hfl : ∀f ∈ m.fields,f.name.length<=1000000000/\f.un.length<=1000000000000000) (hgl : ∀g ∈ m.gone,g.length<=1000000000) :
  Calls Tryz.prog 74 #[.agg #[.slice sq1 s.msgs.length sc1,.slice sq2 s.enums.length sc2,.slice sq3 s.svcs.length sc3],.agg #[.string (S m.name),.slice mq1 m.fields.length mc1,.slice mq2 m.res.length mc2,.slice mq3 m.gone.length mc3,.slice mq4 m.notes.length mc4],.slice (some ⟨Bf,0,none⟩) s.msgs.length fc] w (qhg w (qdl s m fin)):=by
 obtain⟨_,_,_,_,hcm,hm1,hm2,hm3,hm4⟩:=id hm;cases hcm;obtain⟨qq,cq,hqe,_,_,hel⟩:=id hm1;cases hqe;have US:=Lib.hid (fun W (k:Bel w W)=>qgr m.name W (by omega));have ND:=Lib.hid (fun W (k:Bel w W)=>qmh sq1 sq2 sq3 sc1 sc2 sc3 s mq1 mq2 mq3 mq4 mc1 mc2 mc3 mc4 m fin Bf fc W (hs.stays_bel k) (VMsg.stays _ _ _ _ k hm) ((Below.block k Bf (Array.getElem?_eq_some_iff.1 hfb).1).trans hfb) hfl0);have HV:=Lib.hid (show qdl s m fin=un m.name (-1) (qal m.name) 8 ++ un m.name (-1) (decide (m.fields.length<=64/\m.res.length<=16/\m.gone.length<=16)) 3 ++ qbs s m 0 m.fields ++ spans m.name m.res 1 65535 ++ goneP m.name m.gone ++ noted m.name (-1) m.notes 1 ++ un m.name (-1) (!qb7 s m fin) 19 from rfl);generalize qal m.name=O1 at US HV;generalize hO2:decide (m.fields.length<=64/\m.res.length<=16/\m.gone.length<=16)=O2 at HV;generalize qb7 s m fin=NB at ND HV;generalize hTF:qbs s m 0 m.fields=TF at HV;have HTF:=Lib.hid (show qbs s m 0 (m.fields.drop 0)=TF from hTF);have HO2:=Lib.hid hO2;clear hTF hO2;obtain⟨BLK,hBLK⟩ : ∃BLK:List (Nat × Array Value × TypeId),BLK=[(w.heap.size,#[.slice sq1 s.msgs.length sc1,.slice sq2 s.enums.length sc2,.slice sq3 s.svcs.length sc3],26),(w.heap.size+1,#[.string (S m.name),.slice mq1 m.fields.length mc1,.slice mq2 m.res.length mc2,.slice mq3 m.gone.length mc3,.slice mq4 m.notes.length mc4],57)]:=⟨_,rfl⟩;have b1:(w.heap.size,#[.slice sq1 s.msgs.length sc1,.slice sq2 s.enums.length sc2,.slice sq3 s.svcs.length sc3],26) ∈ BLK:=by rw [hBLK];exact List.mem_cons_self
 have b2:(w.heap.size+1,#[.string (S m.name),.slice mq1 m.fields.length mc1,.slice mq2 m.res.length mc2,.slice mq3 m.gone.length mc3,.slice mq4 m.notes.length mc4],57) ∈ BLK:=by rw [hBLK];exact List.mem_cons_of_mem _ List.mem_cons_self
 have hst:=RS.start w ((w.alloc (.cells #[.slice sq1 s.msgs.length sc1,.slice sq2 s.enums.length sc2,.slice sq3 s.svcs.length sc3] 26)).alloc (.cells #[.string (S m.name),.slice mq1 m.fields.length mc1,.slice mq2 m.res.length mc2,.slice mq3 m.gone.length mc3,.slice mq4 m.notes.length mc4] 57)) m.name BLK (((Bel.refl w).alloc _).alloc _) (fun x hx=>by
  rw [hBLK]at hx;simp only [List.mem_cons,List.not_mem_nil,or_false]at hx;rcases hx with rfl|rfl
  ·exact⟨(heap_alloc_old _ _ (by simp)).trans (heap_alloc_new _ _),by show 26 ≠ 153;decide⟩
  ·exact⟨qey _ _ _ (by simp),by show 57 ≠ 153;decide⟩)
 simp only [World.size_alloc]at hst;have HS:=Lib.hid hs;have HM:=Lib.hid hm;have HM2:=Lib.hid hm2;have HM3:=Lib.hid hm3;have HM4:=Lib.hid hm4;have HEL:=Lib.hid hel;have HFL:=Lib.hid hfl;have HGL:=Lib.hid hgl;clear hs hm hm1 hm2 hm3 hm4 hel hfl hgl hBLK hfb
 go_enter Tryz.func74,Tryz.ntmps74
 go_upto_region 2 with(fail)
 go_cut [] (fun wx=>RS w (w.heap.size+1+1) m.name w BLK 1 (un m.name (-1) O1 8) wx)
 case first=>as_aux_lemma=>
  have hFS:=hst;have kk1:=hFS.cell b1;have kk2:=hFS.cell b2
  go_wp2_with (first
   | (go_at_call 101;(with_reducible refine(US.out _ (RS.bel0 hFS)).mono ?_);rintro e w1 ⟨rfl,g1⟩;have hF1:=RS.bel hFS g1;have kk1:=hF1.cell b1;have kk2:=hF1.cell b2;clear g1)
   | (go_at_call 70;(with_reducible refine(hF1.add (by omega) _ _ _).mono ?_);rintro e w9 ⟨rfl,h9⟩;have hend:=Lib.hid h9;clear h9))
  go_meet;exact hend.out.okc (by simp)
 case rest=>
  have hFS:=hcut;clear hcut hst
  go_upto_region 3 with(fail)
  go_cut [] (fun wx=>RS w (w.heap.size+1+1) m.name w BLK 2 (un m.name (-1) O1 8 ++ un m.name (-1) O2 3) wx)
  case first=>as_aux_lemma=>
   have kk1:=hFS.cell b1;have kk2:=hFS.cell b2;by_cases ha:64<m.fields.length
   all_goals by_cases hb:16<m.res.length
   all_goals
    have ha':(m.fields.length:Int)<=64 ∨ 64<(m.fields.length:Int):=by omega
    have hb':(m.res.length:Int)<=16 ∨ 16<(m.res.length:Int):=by omega
    rcases ha' with ha'|ha'
    all_goals rcases hb' with hb'|hb'
    all_goals (first|(exfalso;omega)|skip)
    all_goals
     go_wp2_with (go_at_call 70;(with_reducible refine(hFS.add (by omega) _ _ _).mono ?_);rintro e w9 ⟨rfl,h9⟩;have hend:=Lib.hid h9;clear h9)
     all_goals go_meet
     all_goals exact hend.out.okc (by rw [←HO2.out,Bool.eq_iff_iff];simp;omega)
  case rest=>
   have hFS:=hcut;clear hcut;have kk1:=hFS.cell b1;have kk2:=hFS.cell b2;go_wp2
   go_loopw [8] (fun i wr => ∃(k:Nat) (done:List PProb),k<=m.fields.length/\i=.int .i64 k/\RS w (w.heap.size+1+1) m.name w BLK (2+10*k) ((un m.name (-1) O1 8 ++ un m.name (-1) O2 3) ++ done) wr/\Hid (done ++ qbs s m k (m.fields.drop k)=TF)) (fun i _=>m.fields.length-(intOf i).toNat)
   case atStart=>exact⟨0,[],by omega,rfl,by rw [List.append_nil];exact hFS,HTF⟩
   case round=>
    clear kk1 kk2 hFS;obtain⟨k,done,hk,rfl,hFS,hgo⟩:=hrel;by_cases hlt:k<m.fields.length
    ·obtain⟨wo,hwo⟩ : ∃wo,wo=wr:=⟨_,rfl⟩
     subst hwo;have hki:(k:Int)<(m.fields.length:Int):=by omega
     have hk0:(0:Int)<=(k:Int):=by omega
     have hg:=List.getElem?_eq_getElem hlt;obtain⟨b,off,hqq,hbs,cs,hce,hvs⟩:=HEL.out k _ hg;have hdr:m.fields.drop k=m.fields[k] :: m.fields.drop (k+1):=List.drop_eq_getElem_cons hlt;have hgo2:=Lib.hid (show(done ++ qg2 s m k m.fields[k]) ++ qbs s m (k+1) (m.fields.drop (k+1))=TF by rw [←hgo.out,hdr,List.append_assoc];rfl);have hfk:=HFL.out _ (List.getElem_mem hlt)
     have hcell : ∀(j:Nat) (x:PField),m.fields[j]? = some x->w.cell? ⟨b,off+j*16,none⟩=some (.int .i64 x.num)/\w.cell? ⟨b,off+j*16+1,none⟩=some (.string (S x.name)):=fun j x hx=>by
      obtain⟨b9,off9,hq9,_,cs9,hce9,hvs9⟩:=HEL.out j x hx;have hq2:=hqq.symm.trans hq9;cases hq2;obtain⟨_,_,hvv9,_⟩:=hvs9;subst hvv9;exact⟨by have:=hce9 0 _ rfl;rwa [Nat.add_zero]at this,hce9 1 _ rfl⟩
     have HPV:=Lib.hid (show k=0 ∨ ∃(j:Nat) (g:PField),k=j+1/\m.fields[k-1]? = some g/\w.cell? ⟨b,off+j*16,none⟩=some (.int .i64 g.num)by
      by_cases h0:k=0
      ·exact .inl h0
      ·have hgp:=List.getElem?_eq_getElem (show k-1<m.fields.length by omega)
       exact .inr ⟨k-1,_,by omega,hgp,(hcell _ _ hgp).1⟩)
     have HNMS:=Lib.hid (fun j x hx=>(hcell j x hx).2);obtain⟨_,_,hvv4,⟨r1,r2,r3,r4,d1,d2,d3,d4,hvv5,u0,u1,e1,e2,e3,e4⟩,hnt⟩:=hvs;obtain⟨v1,z1,hnv,_⟩:=qa5 hnt;subst hvv4 hvv5 hnv hqq;have UNI0:=fun W (k':Bel w W)=>rk_union (some ⟨b,off,none⟩) mq2 mq3 mq4 mc1 mc2 mc3 mc4 m k m.fields[k] W (VMsg.stays _ _ _ _ k' HM.out) hg hfk.2
     generalize hff:m.fields[k]=f at *;have UP0:=fun W (k':Bel w W)=>qcd f.name W (by omega)
     have RSV0:=fun W (k':Bel w W)=>qgf (.slice mq2 m.res.length mc2) m.res f.num W (HM2.out.bel VSpan.stays k')
     have HAS:=Lib.hid (fun W (k':Bel w W)=>ref_Has (.slice mq3 m.gone.length mc3) m.gone (S f.name) f.name W (qhh (HM3.out.bel VStr.stays k')) rfl);have CRD0:=fun W (k':Bel w W)=>rk_card f.num f.name f.card f.key f.tk f.tn f.un f.hd f.df.k f.df.x f.df.t r1 r2 r3 r4 v1 f.df.n1 d1 f.df.n2 d2 f.df.n3 d3 f.df.n4 d4 f.notes.length z1 W
     have TYP0:=fun W (k':Bel w W)=>rk_typ sq1 sq2 sq3 sc1 sc2 sc3 s f.num f.name f.card f.key f.tk f.tn f.un f.hd f.df.k f.df.x f.df.t r1 r2 r3 r4 v1 f.df.n1 d1 f.df.n2 d2 f.df.n3 d3 f.df.n4 d4 f.notes.length z1 f.notes W (HS.out.stays_bel k')
     have VAL0:=fun W (k':Bel w W)=>rk_value sq1 sq2 sq3 sc1 sc2 sc3 s f.num f.name f.card f.key f.tk f.tn f.un f.hd f.df.k f.df.x f.df.t r1 r2 r3 r4 v1 f.df.n1 d1 f.df.n2 d2 f.df.n3 d3 f.df.n4 d4 f.notes.length z1 f.notes W (HS.out.stays_bel k') u0 u1 e1 e2 e3 e4
     have HNT:=Lib.hid hnt;generalize hFP:qg2 s m k f=FP at hgo2;have VI:qg2 s m k f=un m.name f.num (decide (1<=f.num/\f.num<=65535)) 6 ++ un m.name f.num (decide (k=0) || (match m.fields[k-1]? with|some g=>decide (g.num<f.num)|none=>false)) 11 ++ un m.name f.num (qar f.name) 8 ++ un m.name f.num (!((m.fields.take k).any fun x=>decide (x.name=f.name))) 9 ++ un m.name f.num (!qcs m.res f.num && !Id.has m.gone f.name) 21 ++ un m.name f.num (decide (1<=f.card/\f.card<=5) && keyed f.card f.key) 1 ++ un m.name f.num (typed s f) 12 ++ un m.name f.num (qik m k f) 15 ++ un m.name f.num (qct s f) 1 ++ noted m.name f.num f.notes 2:=rfl;rw [hFP]at VI
     change ∀W,Bel w W->Calls _ _ _ W (fun e w'=>e=.returned (.bool (typed s f))/\Below W.heap.size W w')at TYP0
     change ∀W,Bel w W->Calls _ _ _ W (fun e w'=>e=.returned (.bool (qct s f))/\Below W.heap.size W w')at VAL0
     generalize hI1:decide (1<=f.num/\f.num<=65535)=I1 at VI;generalize hI2:(decide (k=0) || (match m.fields[k-1]? with|some g=>decide (g.num<f.num)|none=>false))=I2 at VI;generalize qar f.name=I3 at VI UP0;generalize hTW:((m.fields.take k).any fun x=>decide (x.name=f.name))=TW at VI;generalize qcs m.res f.num=RV at VI RSV0;generalize Id.has m.gone f.name=HG at VI HAS;generalize (decide (1<=f.card/\f.card<=5) && keyed f.card f.key)=CK at VI CRD0;generalize typed s f=TY at VI TYP0;generalize qik m k f=UN at VI UNI0;generalize qct s f=DF at VI VAL0;have UP:=Lib.hid UP0;have RSV:=Lib.hid RSV0;have CRD:=Lib.hid CRD0;have TYP:=Lib.hid TYP0;have UNI:=Lib.hid UNI0;have VAL:=Lib.hid VAL0;have HIP:=Lib.hid VI;have HI1:=Lib.hid hI1;have HI2:=Lib.hid hI2;have HTW:=Lib.hid hTW;obtain⟨PD,hPD⟩ : ∃PD,PD=(un m.name (-1) O1 8 ++ un m.name (-1) O2 3) ++ done:=⟨_,rfl⟩;rw [←hPD]at hFS;have HPD:=Lib.hid hPD;have aE:=qfe;obtain⟨K,hK⟩ : ∃K,K=16:=⟨_,rfl⟩;have zE : ∀w,(Go.sizeOf 65).run Tryz.prog w=.ok K w:=hK ▸ qdx
     have l2:Sem.run Tryz.prog (loadCellsFrom ⟨b,off+k*K,none⟩ 0 K #[]) wo=.ok #[.int .i64 f.num,.string (S f.name),.int .i64 f.card,.int .i64 f.key,.int .i64 f.tk,.string (S f.tn),.string (S f.un),.bool f.hd,.int .i64 f.df.k,.int .u64 f.df.x,.string (S f.df.t),.slice r1 f.df.n1 d1,.slice r2 f.df.n2 d2,.slice r3 f.df.n3 d3,.slice r4 f.df.n4 d4,.slice v1 f.notes.length z1] wo:=run_loadCellsFrom_list Tryz.prog _ _ _ K hK.symm (fun j v hj=>by
      rw [hK,Addr.add_lit]
      exact hFS.bel0.some (hce j v hj))
     have HK:=Lib.hid hK;have hadd:=hFS.addb #[.int .i64 f.num,.string (S f.name),.int .i64 f.card,.int .i64 f.key,.int .i64 f.tk,.string (S f.tn),.string (S f.un),.bool f.hd,.int .i64 f.df.k,.int .u64 f.df.x,.string (S f.df.t),.slice r1 f.df.n1 d1,.slice r2 f.df.n2 d2,.slice r3 f.df.n3 d3,.slice r4 f.df.n4 d4,.slice v1 f.notes.length z1] 65 (by decide);have b3:(wo.heap.size,#[.int .i64 f.num,.string (S f.name),.int .i64 f.card,.int .i64 f.key,.int .i64 f.tk,.string (S f.tn),.string (S f.un),.bool f.hd,.int .i64 f.df.k,.int .u64 f.df.x,.string (S f.df.t),.slice r1 f.df.n1 d1,.slice r2 f.df.n2 d2,.slice r3 f.df.n3 d3,.slice r4 f.df.n4 d4,.slice v1 f.notes.length z1],65) ∈ ((wo.heap.size,#[.int .i64 f.num,.string (S f.name),.int .i64 f.card,.int .i64 f.key,.int .i64 f.tk,.string (S f.tn),.string (S f.un),.bool f.hd,.int .i64 f.df.k,.int .u64 f.df.x,.string (S f.df.t),.slice r1 f.df.n1 d1,.slice r2 f.df.n2 d2,.slice r3 f.df.n3 d3,.slice r4 f.df.n4 d4,.slice v1 f.notes.length z1],65) :: BLK):=List.mem_cons_self;have b1':=b1;have b2':=b2;have b1:(w.heap.size,#[.slice sq1 s.msgs.length sc1,.slice sq2 s.enums.length sc2,.slice sq3 s.svcs.length sc3],26) ∈ ((wo.heap.size,#[.int .i64 f.num,.string (S f.name),.int .i64 f.card,.int .i64 f.key,.int .i64 f.tk,.string (S f.tn),.string (S f.un),.bool f.hd,.int .i64 f.df.k,.int .u64 f.df.x,.string (S f.df.t),.slice r1 f.df.n1 d1,.slice r2 f.df.n2 d2,.slice r3 f.df.n3 d3,.slice r4 f.df.n4 d4,.slice v1 f.notes.length z1],65) :: BLK):=List.mem_cons_of_mem _ b1';have b2:(w.heap.size+1,#[.string (S m.name),.slice (some ⟨b,off,none⟩) m.fields.length mc1,.slice mq2 m.res.length mc2,.slice mq3 m.gone.length mc3,.slice mq4 m.notes.length mc4],57) ∈ ((wo.heap.size,#[.int .i64 f.num,.string (S f.name),.int .i64 f.card,.int .i64 f.key,.int .i64 f.tk,.string (S f.tn),.string (S f.un),.bool f.hd,.int .i64 f.df.k,.int .u64 f.df.x,.string (S f.df.t),.slice r1 f.df.n1 d1,.slice r2 f.df.n2 d2,.slice r3 f.df.n3 d3,.slice r4 f.df.n4 d4,.slice v1 f.notes.length z1],65) :: BLK):=List.mem_cons_of_mem _ b2';have kk1:=hFS.cell b1';have kk2:=hFS.cell b2';clear hgo hdr hg hce hcell hnt u0 u1 e1 e2 e3 e4 hfk UP0 RSV0 CRD0 TYP0 VAL0 UNI0 VI hI1 hI2 hTW hPD hFP hK hbs
     go_upto_region 8 with(fail)
     all_goals (first|(exfalso;exact absurd HK.out.symm (by assumption))|(have h16:16=K:=(by assumption);subst h16))
     clear l2 aE zE HK kk1 kk2;generalize hwF:World.alloc wo _=wF at *;have hFS1:RS w (w.heap.size+1+1) m.name w ((wo.heap.size,#[.int .i64 f.num,.string (S f.name),.int .i64 f.card,.int .i64 f.key,.int .i64 f.tk,.string (S f.tn),.string (S f.un),.bool f.hd,.int .i64 f.df.k,.int .u64 f.df.x,.string (S f.df.t),.slice r1 f.df.n1 d1,.slice r2 f.df.n2 d2,.slice r3 f.df.n3 d3,.slice r4 f.df.n4 d4,.slice v1 f.notes.length z1],65) :: BLK) (2+10*k) PD wF:=hadd;clear hadd hwF hFS;have hFS:=hFS1;have kk1:=hFS.cell b1;have kk2:=hFS.cell b2;have kk3:=hFS.cell b3;go_wp2
     go_loopw [10,11] (fun tw i wr => ∃(n2:Nat) (T2:Bool),n2<=k/\i=.int .i64 n2/\tw=.bool T2/\RS w (w.heap.size+1+1) m.name w ((wo.heap.size,#[.int .i64 f.num,.string (S f.name),.int .i64 f.card,.int .i64 f.key,.int .i64 f.tk,.string (S f.tn),.string (S f.un),.bool f.hd,.int .i64 f.df.k,.int .u64 f.df.x,.string (S f.df.t),.slice r1 f.df.n1 d1,.slice r2 f.df.n2 d2,.slice r3 f.df.n3 d3,.slice r4 f.df.n4 d4,.slice v1 f.notes.length z1],65) :: BLK) (2+10*k) PD wr/\Hid (T2=((m.fields.take n2).any fun x=>decide (x.name=f.name)))) (fun _ i _=>k-(intOf i).toNat)
     case atStart=>exact⟨0,false,by omega,rfl,rfl,hFS1,Lib.hid (by simp)⟩
     case round=>
      clear kk1 kk2 kk3 hFS hFS1;obtain⟨n2,T2,hn2,rfl,rfl,hFS,hT2⟩:=hrel;by_cases hlt2:n2<k
      ·have h2i:(n2:Int)<(k:Int):=by omega
       have h20:(0:Int)<=(n2:Int):=by omega
       have h2l:(n2:Int)<(m.fields.length:Int):=by omega
       have hgn:=List.getElem?_eq_getElem (show n2<m.fields.length by omega);have hcn:=HNMS.out n2 _ hgn;have HNX:=Lib.hid (show((m.fields.take (n2+1)).any fun x=>decide (x.name=f.name))=(T2 || decide (m.fields[n2].name=f.name))by rw [hT2.out];exact qhe _ _ _ _ hgn);clear hgn hT2;generalize m.fields[n2]=x at *
       go_upto_region 12 with(fail)
       obtain⟨wd,hwd⟩ : ∃wd,wd=wr.drew:=⟨_,rfl⟩;have kd:Bel wr wd:=by rw [hwd];exact(Bel.refl _).drew
       have HWD:=Lib.hid hwd;have hFd:=hFS.bel kd;have kk1:=hFd.cell b1;have kk2:=hFd.cell b2;have kk3:=hFd.cell b3;have xn:=hFd.bel0.some hcn;clear hwd hcn;by_cases hn:x.name=f.name
       ·have qn:((S x.name).toList == (S f.name).toList)=true:=by rw [eq_S];exact decide_eq_true hn
        have HN:=Lib.hid (show true=((m.fields.take (n2+1)).any fun x=>decide (x.name=f.name))by rw [HNX.out,decide_eq_true hn,Bool.or_true]);clear hn HNX;refine qae 8 (by kernel_rfl) (by kernel_rfl) HWD.out ?_
        (simp only [List.take_succ_cons,List.take_zero,List.drop_succ_cons,List.drop_zero]);(repeat (first|((with_reducible refine wpStill_step (fun K hK=>?_));go_simp;(with_reducible refine hK _ ?_);clear hK K)|((with_reducible refine qaf ?_ ?_);(with_unfolding_all rfl))));(with_reducible refine wpStill_nil ?_)
        go_wp2;exact⟨⟨n2+1,true,by omega,by go_num,rfl,hFd,HN⟩,by simp [intOf];omega⟩
       ·have qn:((S x.name).toList == (S f.name).toList)=false:=by rw [eq_S];exact decide_eq_false hn
        have HN:=Lib.hid (show T2=((m.fields.take (n2+1)).any fun x=>decide (x.name=f.name))by rw [HNX.out,decide_eq_false hn,Bool.or_false]);clear hn HNX;refine qae 8 (by kernel_rfl) (by kernel_rfl) HWD.out ?_
        (simp only [List.take_succ_cons,List.take_zero,List.drop_succ_cons,List.drop_zero]);(repeat (first|((with_reducible refine wpStill_step (fun K hK=>?_));go_simp;(with_reducible refine hK _ ?_);clear hK K)|((with_reducible refine qaf ?_ ?_);(with_unfolding_all rfl))));(with_reducible refine wpStill_nil ?_)
        go_wp2;exact⟨⟨n2+1,T2,by omega,by go_num,rfl,hFd,HN⟩,by simp [intOf];omega⟩
      ·have h2i : ¬((n2:Int)<(k:Int)):=by omega
       have hTT:TW=T2:=by rw [hT2.out,show n2=k by omega,HTW.out]
       subst hTT
       have KSA:=Lib.hid (fun W' (k':Bel w W') (hc3 : ∀o,W'.cell? ⟨wo.heap.size,o,none⟩=(#[.int .i64 f.num,.string (S f.name),.int .i64 f.card,.int .i64 f.key,.int .i64 f.tk,.string (S f.tn),.string (S f.un),.bool f.hd,.int .i64 f.df.k,.int .u64 f.df.x,.string (S f.df.t),.slice r1 f.df.n1 d1,.slice r2 f.df.n2 d2,.slice r3 f.df.n3 d3,.slice r4 f.df.n4 d4,.slice v1 f.notes.length z1]:Array Value)[o]?) (hc1 : ∀o,W'.cell? ⟨w.heap.size,o,none⟩=(#[.slice sq1 s.msgs.length sc1,.slice sq2 s.enums.length sc2,.slice sq3 s.svcs.length sc3]:Array Value)[o]?) (hc2 : ∀o,W'.cell? ⟨w.heap.size+1,o,none⟩=(#[.string (S m.name),.slice (some ⟨b,off,none⟩) m.fields.length mc1,.slice mq2 m.res.length mc2,.slice mq3 m.gone.length mc3,.slice mq4 m.notes.length mc4]:Array Value)[o]?)=>(show W'.cell? ⟨w.heap.size,0,none⟩=some (.slice sq1 s.msgs.length sc1)/\W'.cell? ⟨w.heap.size,1,none⟩=some (.slice sq2 s.enums.length sc2)/\W'.cell? ⟨w.heap.size,2,none⟩=some (.slice sq3 s.svcs.length sc3)/\W'.cell? ⟨(w.heap.size+1),0,none⟩=some (.string (S m.name))/\W'.cell? ⟨(w.heap.size+1),1,none⟩=some (.slice (some ⟨b,off,none⟩) m.fields.length mc1)/\W'.cell? ⟨(w.heap.size+1),2,none⟩=some (.slice mq2 m.res.length mc2)/\W'.cell? ⟨(w.heap.size+1),3,none⟩=some (.slice mq3 m.gone.length mc3)/\W'.cell? ⟨(w.heap.size+1),4,none⟩=some (.slice mq4 m.notes.length mc4)/\W'.cell? ⟨wo.heap.size,0,none⟩=some (.int .i64 f.num)/\W'.cell? ⟨wo.heap.size,1,none⟩=some (.string (S f.name))/\(∀K:Nat,K=16->Sem.run Tryz.prog (loadCellsFrom ⟨wo.heap.size,0,none⟩ 0 K #[]) W'=.ok #[.int .i64 f.num,.string (S f.name),.int .i64 f.card,.int .i64 f.key,.int .i64 f.tk,.string (S f.tn),.string (S f.un),.bool f.hd,.int .i64 f.df.k,.int .u64 f.df.x,.string (S f.df.t),.slice r1 f.df.n1 d1,.slice r2 f.df.n2 d2,.slice r3 f.df.n3 d3,.slice r4 f.df.n4 d4,.slice v1 f.notes.length z1] W')from⟨hc1 0,hc1 1,hc1 2,hc2 0,hc2 1,hc2 2,hc2 3,hc2 4,hc3 0,hc3 1,fun K hK=>run_loadCellsFrom_list Tryz.prog _ _ _ K hK.symm (fun j v hj=>by
        rw [Addr.add_lit,Nat.zero_add,hc3 j,List.getElem?_toArray]
        exact hj)⟩))
       clear hT2;have kk1:=hFS.cell b1;have kk2:=hFS.cell b2;have kk3:=hFS.cell b3
       go_upto_region 14 with(fail)
       go_cut [] (fun wx=>RS w (w.heap.size+1+1) m.name w ((wo.heap.size,#[.int .i64 f.num,.string (S f.name),.int .i64 f.card,.int .i64 f.key,.int .i64 f.tk,.string (S f.tn),.string (S f.un),.bool f.hd,.int .i64 f.df.k,.int .u64 f.df.x,.string (S f.df.t),.slice r1 f.df.n1 d1,.slice r2 f.df.n2 d2,.slice r3 f.df.n3 d3,.slice r4 f.df.n4 d4,.slice v1 f.notes.length z1],65) :: BLK) ((2+10*k)+1) ((PD) ++ un m.name f.num I1 6) wx)
       case first=>as_aux_lemma=>
        have kk1:=hFS.cell b1;have kk2:=hFS.cell b2;have kk3:=hFS.cell b3;by_cases ha:f.num<1
        all_goals by_cases hb:65535<f.num
        all_goals (first|(exfalso;omega)|skip)
        all_goals
         go_wp2_with (go_at_call 70;(with_reducible refine(hFS.add (by omega) _ _ _).mono ?_);rintro e w9 ⟨rfl,h9⟩;have hend:=Lib.hid h9;clear h9)
         all_goals go_meet
         all_goals exact hend.out.okc (by rw [←HI1.out,Bool.eq_iff_iff];simp;omega)
       case rest=>
        have hFS:=hcut;have HFS0:=Lib.hid hcut;clear hcut
        go_upto_region 15 with(fail)
        go_cut [] (fun wx=>RS w (w.heap.size+1+1) m.name w ((wo.heap.size,#[.int .i64 f.num,.string (S f.name),.int .i64 f.card,.int .i64 f.key,.int .i64 f.tk,.string (S f.tn),.string (S f.un),.bool f.hd,.int .i64 f.df.k,.int .u64 f.df.x,.string (S f.df.t),.slice r1 f.df.n1 d1,.slice r2 f.df.n2 d2,.slice r3 f.df.n3 d3,.slice r4 f.df.n4 d4,.slice v1 f.notes.length z1],65) :: BLK) ((2+10*k)+2) (((PD) ++ un m.name f.num I1 6) ++ un m.name f.num I2 11) wx)
        case first=>as_aux_lemma=>
         obtain⟨wd,hwd⟩ : ∃wd,wd=wc.drew:=⟨_,rfl⟩;have kd:Bel wc wd:=by rw [hwd];exact(Bel.refl _).drew
         have HWD:=Lib.hid hwd;have hFd:=hFS.bel kd;have kk1:=hFd.cell b1;have kk2:=hFd.cell b2;have kk3:=hFd.cell b3;clear hwd;rcases HPV.out with h0|⟨j,g,hkj,hg1,hg2⟩
         ·have hO:=Lib.hid (show true=I2 by rw [←HI2.out,decide_eq_true h0,Bool.true_or])
          have hk0n : ¬(0<k):=by omega
          clear h0;refine qae 16 (by kernel_rfl) (by kernel_rfl) HWD.out ?_
          (simp only [List.take_succ_cons,List.take_zero,List.drop_succ_cons,List.drop_zero]);(repeat (first|((with_reducible refine wpStill_step (fun K hK=>?_));go_simp;(with_reducible refine hK _ ?_);clear hK K)|((with_reducible refine qaf ?_ ?_);(with_unfolding_all rfl))));(with_reducible refine wpStill_nil ?_)
          go_wp2_with (go_at_call 70;(with_reducible refine(hFd.add (by omega) _ _ _).mono ?_);rintro e w9 ⟨rfl,h9⟩;have hend:=Lib.hid h9;clear h9)
          go_meet;exact hend.out.okc hO.out
         ·have hk00n:0<k:=by omega
          have hO:=Lib.hid (show decide (g.num<f.num)=I2 by rw [←HI2.out,hg1,decide_eq_false (show ¬ k=0 by omega),Bool.false_or]);have d1:=hFd.bel0.some hg2;have hk00:(0:Int)<(k:Int):=by omega
          have jw3:(k:Int)-1=(j:Int):=by omega
          have jw2:IntKind.i64.wrap (j:Int)=(j:Int):=wrap_small _ (by omega) (by omega);have jw:IntKind.i64.wrap ((k:Int)-1)=(j:Int):=by rw [jw3];exact jw2
          have j1:(j:Int)<(m.fields.length:Int):=by omega
          have j0:(0:Int)<=(j:Int):=by omega
          clear hkj hg1 hg2;by_cases hgg:f.num<=g.num
          all_goals
           refine qae 16 (by kernel_rfl) (by kernel_rfl) HWD.out ?_
           (simp only [List.take_succ_cons,List.take_zero,List.drop_succ_cons,List.drop_zero]);(repeat (first|((with_reducible refine wpStill_step (fun K hK=>?_));go_simp;(with_reducible refine hK _ ?_);clear hK K)|((with_reducible refine qaf ?_ ?_);(with_unfolding_all rfl))));(with_reducible refine wpStill_nil ?_)
           go_wp2_with (go_at_call 70;(with_reducible refine(hFd.add (by omega) _ _ _).mono ?_);rintro e w9 ⟨rfl,h9⟩;have hend:=Lib.hid h9;clear h9)
           go_meet;exact hend.out.okc (by rw [←hO.out,Bool.eq_iff_iff];simp;try omega)
        case rest=>
         have hFS:=hcut;have HFS0:=Lib.hid hcut;clear hcut
         go_upto_region 16 with(fail)
         go_cut [] (fun wx=>RS w (w.heap.size+1+1) m.name w ((wo.heap.size,#[.int .i64 f.num,.string (S f.name),.int .i64 f.card,.int .i64 f.key,.int .i64 f.tk,.string (S f.tn),.string (S f.un),.bool f.hd,.int .i64 f.df.k,.int .u64 f.df.x,.string (S f.df.t),.slice r1 f.df.n1 d1,.slice r2 f.df.n2 d2,.slice r3 f.df.n3 d3,.slice r4 f.df.n4 d4,.slice v1 f.notes.length z1],65) :: BLK) ((2+10*k)+3) ((((PD) ++ un m.name f.num I1 6) ++ un m.name f.num I2 11) ++ un m.name f.num I3 8) wx)
         case first=>as_aux_lemma=>
          obtain⟨wd,hwd⟩ : ∃wd,wd=wc.drew:=⟨_,rfl⟩;have kd:Bel wc wd:=by rw [hwd];exact(Bel.refl _).drew
          have HWD:=Lib.hid hwd;clear hwd;have KS:=Lib.hid (fun W' (kq:Bel wc W')=>KSA.out W' (HFS0.out.bel kq).bel0 ((HFS0.out.bel kq).cell b3) ((HFS0.out.bel kq).cell b1) ((HFS0.out.bel kq).cell b2));refine qac (fun W=>Bel wc W) (.take 0 (.take 1 (.take 4 (.take 5 (.alt 2 (.take 3 .done) .no))))) 6 (by kernel_rfl) (by kernel_rfl) HWD.out kd (fun a ha=>?_)
          (simp only [pickT,List.getD_cons_zero,List.getD_cons_succ])
          have hsz:a.tmps.size=178:=(by rw [ha];kernel_rfl);have a3:a.eval (.tmp 3)=.pointer (some ⟨w.heap.size,0,none⟩):=(by rw [ha];kernel_rfl);have a4:a.eval (.tmp 4)=.pointer (some ⟨w.heap.size+1,0,none⟩):=(by rw [ha];kernel_rfl);have a7:a.eval (.tmp 7)=.pointer (some ⟨w.heap.size+1+1,0,none⟩):=(by rw [ha];kernel_rfl);have a8:a.eval (.tmp 8)=.int .i64 k:=(by rw [ha];kernel_rfl);have a9:a.eval (.tmp 9)=.pointer (some ⟨wo.heap.size,0,none⟩):=(by rw [ha];kernel_rfl)
          (with_reducible refine qa1 (v:=?_) rfl (by with_unfolding_all rfl) (fun ρ hρ W hW=>?_) ?_);(rotate_left 1)
          focus(clear hW;have p9:=hρ (.tmp 9);(simp +decide only [qa2,hsz,ev_eq,ev_ne,a3,a4,a7,a8,a9]at p9);obtain⟨hc,hfn⟩:=rC117 hρ;clear hρ;go_simp;(all_goals with_reducible first|rfl|(constructor <;> rfl)))
          (with_reducible refine qa1 (v:=?_) rfl (by with_unfolding_all rfl) (fun ρ hρ W hW=>?_) ?_);(rotate_left 1)
          focus(have hS:=KS.out _ hW;clear hW;have p92:=hρ (.tmp 92);(simp +decide only [qa2,hsz,ev_eq,ev_ne,a3,a4,a7,a8,a9]at p92);obtain⟨hc,hfn⟩:=rC117 hρ;clear hρ;go_simp;(all_goals with_reducible first|rfl|(constructor <;> rfl)))
          (with_reducible refine qa1 (v:=?_) rfl (by with_unfolding_all rfl) (fun ρ hρ W hW=>?_) ?_);(rotate_left 1)
          focus(clear hW;have p9:=hρ (.tmp 9);(simp +decide only [qa2,hsz,ev_eq,ev_ne,a3,a4,a7,a8,a9]at p9);obtain⟨hc,hfn⟩:=rC117 hρ;clear hρ;go_simp;(all_goals with_reducible first|rfl|(constructor <;> rfl)))
          (with_reducible refine qa1 (v:=?_) rfl (by with_unfolding_all rfl) (fun ρ hρ W hW=>?_) ?_);(rotate_left 1)
          focus(have hS:=KS.out _ hW;clear hW;have p96:=hρ (.tmp 96);(simp +decide only [qa2,hsz,ev_eq,ev_ne,a3,a4,a7,a8,a9]at p96);obtain⟨hc,hfn⟩:=rC117 hρ;clear hρ;go_simp;(all_goals with_reducible first|rfl|(constructor <;> rfl)))
          (with_reducible refine qam (f:=?_) (args:=?_) rfl (by with_unfolding_all rfl) (fun ρ hρ=>?_) ?_ ?_);(rotate_left 2)
          focus(have p93:=hρ (.tmp 93);(simp +decide only [qa2,hsz,ev_eq,ev_ne,a3,a4,a7,a8,a9]at p93);obtain⟨hc,hfn⟩:=rC117 hρ;clear hρ;rw [qa9 (hfn _)];clear hfn;go_simp;(all_goals with_reducible first|rfl|(constructor <;> rfl)))
          with_reducible refine(UP.out _ (HFS0.out.bel kd).bel0).mono ?_
          rintro e w5 ⟨rfl,g5⟩;have k5:Bel wc w5:=Bel.of kd g5;clear g5;refine⟨_,rfl,k5,?_⟩;rotate_left 1
          focus exact qap
          (with_reducible refine qa1 (v:=?_) rfl (by with_unfolding_all rfl) (fun ρ hρ W hW=>?_) ?_);(rotate_left 1)
          focus(clear hW;have p94:=hρ (.tmp 94);(simp +decide only [qa2,hsz,ev_eq,ev_ne,a3,a4,a7,a8,a9]at p94);obtain⟨hc,hfn⟩:=rC117 hρ;clear hρ;go_simp;(all_goals with_reducible first|rfl|(constructor <;> rfl)))
          refine qao ?_
          (simp only [List.drop_succ_cons,List.drop_zero])
          subst ha
          (simp only [qav,set_s,set_z])
          have hF5:=HFS0.out.bel k5
          go_wp2_with (go_at_call 70;(with_reducible refine(hF5.add (by omega) _ _ _).mono ?_);rintro e w9 ⟨rfl,h9⟩;have hend:=Lib.hid h9;clear h9)
          go_meet;exact hend.out.okc (by simp)
         case rest=>
          have hFS:=hcut;have HFS0:=Lib.hid hcut;clear hcut
          go_upto_region 17 with(fail)
          go_cut [] (fun wx=>RS w (w.heap.size+1+1) m.name w ((wo.heap.size,#[.int .i64 f.num,.string (S f.name),.int .i64 f.card,.int .i64 f.key,.int .i64 f.tk,.string (S f.tn),.string (S f.un),.bool f.hd,.int .i64 f.df.k,.int .u64 f.df.x,.string (S f.df.t),.slice r1 f.df.n1 d1,.slice r2 f.df.n2 d2,.slice r3 f.df.n3 d3,.slice r4 f.df.n4 d4,.slice v1 f.notes.length z1],65) :: BLK) ((2+10*k)+4) (((((PD) ++ un m.name f.num I1 6) ++ un m.name f.num I2 11) ++ un m.name f.num I3 8) ++ un m.name f.num (!TW) 9) wx)
          case first=>as_aux_lemma=>
           have kk1:=hFS.cell b1;have kk2:=hFS.cell b2;have kk3:=hFS.cell b3
           go_wp2_with (go_at_call 70;(with_reducible refine(hFS.add (by omega) _ _ _).mono ?_);rintro e w9 ⟨rfl,h9⟩;have hend:=Lib.hid h9;clear h9)
           all_goals go_meet
           all_goals exact hend.out
          case rest=>
           have hFS:=hcut;have HFS0:=Lib.hid hcut;clear hcut
           go_upto_region 18 with(fail)
           go_cut [] (fun wx=>RS w (w.heap.size+1+1) m.name w ((wo.heap.size,#[.int .i64 f.num,.string (S f.name),.int .i64 f.card,.int .i64 f.key,.int .i64 f.tk,.string (S f.tn),.string (S f.un),.bool f.hd,.int .i64 f.df.k,.int .u64 f.df.x,.string (S f.df.t),.slice r1 f.df.n1 d1,.slice r2 f.df.n2 d2,.slice r3 f.df.n3 d3,.slice r4 f.df.n4 d4,.slice v1 f.notes.length z1],65) :: BLK) ((2+10*k)+5) ((((((PD) ++ un m.name f.num I1 6) ++ un m.name f.num I2 11) ++ un m.name f.num I3 8) ++ un m.name f.num (!TW) 9) ++ un m.name f.num (!RV && !HG) 21) wx)
           case first=>as_aux_lemma=>
            cases RV with
            | true=>
             obtain⟨wd,hwd⟩ : ∃wd,wd=wc.drew:=⟨_,rfl⟩;have kd:Bel wc wd:=by rw [hwd];exact(Bel.refl _).drew
             have HWD:=Lib.hid hwd;clear hwd;have KS:=Lib.hid (fun W' (kq:Bel wc W')=>KSA.out W' (HFS0.out.bel kq).bel0 ((HFS0.out.bel kq).cell b3) ((HFS0.out.bel kq).cell b1) ((HFS0.out.bel kq).cell b2));refine qac (fun W=>Bel wc W) (.take 0 (.take 1 (.take 2 (.take 3 (.take 12 (.take 13 (.alt 4 (.take 5 (.take 6 (.take 7 (.take 8 (.take 9 (.alt 10 (.take 11 .done) .no)))))) .no))))))) 14 (by kernel_rfl) (by kernel_rfl) HWD.out kd (fun a ha=>?_)
             (simp only [pickT,List.getD_cons_zero,List.getD_cons_succ])
             have hsz:a.tmps.size=178:=(by rw [ha];kernel_rfl);have a3:a.eval (.tmp 3)=.pointer (some ⟨w.heap.size,0,none⟩):=(by rw [ha];kernel_rfl);have a4:a.eval (.tmp 4)=.pointer (some ⟨w.heap.size+1,0,none⟩):=(by rw [ha];kernel_rfl);have a7:a.eval (.tmp 7)=.pointer (some ⟨w.heap.size+1+1,0,none⟩):=(by rw [ha];kernel_rfl);have a8:a.eval (.tmp 8)=.int .i64 k:=(by rw [ha];kernel_rfl);have a9:a.eval (.tmp 9)=.pointer (some ⟨wo.heap.size,0,none⟩):=(by rw [ha];kernel_rfl)
             (with_reducible refine qa1 (v:=?_) rfl (by with_unfolding_all rfl) (fun ρ hρ W hW=>?_) ?_);(rotate_left 1)
             focus(clear hW;have p4:=hρ (.tmp 4);(simp +decide only [qa2,hsz,ev_eq,ev_ne,a3,a4,a7,a8,a9]at p4);obtain⟨hc,hfn⟩:=rC117 hρ;clear hρ;go_simp;(all_goals with_reducible first|rfl|(constructor <;> rfl)))
             (with_reducible refine qa1 (v:=?_) rfl (by with_unfolding_all rfl) (fun ρ hρ W hW=>?_) ?_);(rotate_left 1)
             focus(have hS:=KS.out _ hW;clear hW;have p103:=hρ (.tmp 103);(simp +decide only [qa2,hsz,ev_eq,ev_ne,a3,a4,a7,a8,a9]at p103);obtain⟨hc,hfn⟩:=rC117 hρ;clear hρ;go_simp;(all_goals with_reducible first|rfl|(constructor <;> rfl)))
             (with_reducible refine qa1 (v:=?_) rfl (by with_unfolding_all rfl) (fun ρ hρ W hW=>?_) ?_);(rotate_left 1)
             focus(clear hW;have p9:=hρ (.tmp 9);(simp +decide only [qa2,hsz,ev_eq,ev_ne,a3,a4,a7,a8,a9]at p9);obtain⟨hc,hfn⟩:=rC117 hρ;clear hρ;go_simp;(all_goals with_reducible first|rfl|(constructor <;> rfl)))
             (with_reducible refine qa1 (v:=?_) rfl (by with_unfolding_all rfl) (fun ρ hρ W hW=>?_) ?_);(rotate_left 1)
             focus(have hS:=KS.out _ hW;clear hW;have p105:=hρ (.tmp 105);(simp +decide only [qa2,hsz,ev_eq,ev_ne,a3,a4,a7,a8,a9]at p105);obtain⟨hc,hfn⟩:=rC117 hρ;clear hρ;go_simp;(all_goals with_reducible first|rfl|(constructor <;> rfl)))
             (with_reducible refine qa1 (v:=?_) rfl (by with_unfolding_all rfl) (fun ρ hρ W hW=>?_) ?_);(rotate_left 1)
             focus(clear hW;have p9:=hρ (.tmp 9);(simp +decide only [qa2,hsz,ev_eq,ev_ne,a3,a4,a7,a8,a9]at p9);obtain⟨hc,hfn⟩:=rC117 hρ;clear hρ;go_simp;(all_goals with_reducible first|rfl|(constructor <;> rfl)))
             (with_reducible refine qa1 (v:=?_) rfl (by with_unfolding_all rfl) (fun ρ hρ W hW=>?_) ?_);(rotate_left 1)
             focus(have hS:=KS.out _ hW;clear hW;have p115:=hρ (.tmp 115);(simp +decide only [qa2,hsz,ev_eq,ev_ne,a3,a4,a7,a8,a9]at p115);obtain⟨hc,hfn⟩:=rC117 hρ;clear hρ;go_simp;(all_goals with_reducible first|rfl|(constructor <;> rfl)))
             (with_reducible refine qam (f:=?_) (args:=?_) rfl (by with_unfolding_all rfl) (fun ρ hρ=>?_) ?_ ?_);(rotate_left 2)
             focus(have p104:=hρ (.tmp 104);have p106:=hρ (.tmp 106);(simp +decide only [qa2,hsz,ev_eq,ev_ne,a3,a4,a7,a8,a9]at p104 p106);obtain⟨hc,hfn⟩:=rC117 hρ;clear hρ;rw [qa9 (hfn _)];clear hfn;go_simp;(all_goals with_reducible first|rfl|(constructor <;> rfl)))
             with_reducible refine(RSV.out _ (HFS0.out.bel kd).bel0).mono ?_
             rintro e w5 ⟨rfl,g5⟩;have k5:Bel wc w5:=Bel.of kd g5;clear g5;refine⟨_,rfl,k5,?_⟩;rotate_left 1
             focus exact qap
             (with_reducible refine qa1 (v:=.bool true) rfl (by with_unfolding_all rfl) (fun ρ hρ W hW=>?_) ?_);skip
             focus(clear hW;have p107:=hρ (.tmp 107);(simp +decide only [qa2,hsz,ev_eq,ev_ne,a3,a4,a7,a8,a9]at p107);obtain⟨hc,hfn⟩:=rC117 hρ;clear hρ;go_simp;(first|done|(all_goals with_reducible first|rfl|(constructor <;> rfl))|(simp only [];done)|(simp [];done)|((try simp only []);done)))
             with_reducible refine qag (c:=true) (t:=108) rfl rfl (by with_unfolding_all rfl) ?_ rfl ?_
             focus(simp +decide only [qa2,hsz,ev_eq,ev_ne,a3,a4,a7,a8,a9])
             with_reducible refine qag (c:=true) (t:=108) rfl rfl (by with_unfolding_all rfl) ?_ rfl ?_
             focus(simp +decide only [qa2,hsz,ev_eq,ev_ne,a3,a4,a7,a8,a9])
             with_reducible refine qag (c:=true) (t:=108) rfl rfl (by with_unfolding_all rfl) ?_ rfl ?_
             focus(simp +decide only [qa2,hsz,ev_eq,ev_ne,a3,a4,a7,a8,a9])
             with_reducible refine qag (c:=true) (t:=108) rfl rfl (by with_unfolding_all rfl) ?_ rfl ?_
             focus(simp +decide only [qa2,hsz,ev_eq,ev_ne,a3,a4,a7,a8,a9])
             with_reducible refine qci (c:=true) (t:=108) rfl rfl (by with_unfolding_all rfl) ?_ rfl ?_ ?_ ?_
             focus(simp +decide only [qa2,hsz,ev_eq,ev_ne,a3,a4,a7,a8,a9])
             focus(with_reducible repeat first|assumption|exact Bel.refl _|refine Bel.drew ?_|refine Bel.drewN ?_ _|refine Bel.alloc ?_ _)
             rotate_left 1
             focus exact qap
             (with_reducible refine qa1 (v:=?_) rfl (by with_unfolding_all rfl) (fun ρ hρ W hW=>?_) ?_);(rotate_left 1)
             focus(clear hW;have p108:=hρ (.tmp 108);have p113:=hρ (.tmp 113);(simp +decide only [qa2,hsz,ev_eq,ev_ne,a3,a4,a7,a8,a9]at p108 p113);obtain⟨hc,hfn⟩:=rC117 hρ;clear hρ;go_simp;(all_goals with_reducible first|rfl|(constructor <;> rfl)))
             refine qao ?_
             (simp only [List.drop_succ_cons,List.drop_zero])
             subst ha
             (simp only [qav,set_s,set_z])
             have hF5:=HFS0.out.bel k5
             go_wp2_with (go_at_call 70;(with_reducible refine(hF5.add (by omega) _ _ _).mono ?_);rintro e w9 ⟨rfl,h9⟩;have hend:=Lib.hid h9;clear h9)
             go_meet;exact hend.out.okc (by simp)
            | false=>
             obtain⟨wd,hwd⟩ : ∃wd,wd=wc.drew:=⟨_,rfl⟩;have kd:Bel wc wd:=by rw [hwd];exact(Bel.refl _).drew
             have HWD:=Lib.hid hwd;clear hwd;have KS:=Lib.hid (fun W' (kq:Bel wc W')=>KSA.out W' (HFS0.out.bel kq).bel0 ((HFS0.out.bel kq).cell b3) ((HFS0.out.bel kq).cell b1) ((HFS0.out.bel kq).cell b2));refine qac (fun W=>Bel wc W) (.take 0 (.take 1 (.take 2 (.take 3 (.take 12 (.take 13 (.alt 4 (.take 5 (.take 6 (.take 7 (.take 8 (.take 9 (.alt 10 (.take 11 .done) .no)))))) .no))))))) 14 (by kernel_rfl) (by kernel_rfl) HWD.out kd (fun a ha=>?_)
             (simp only [pickT,List.getD_cons_zero,List.getD_cons_succ])
             have hsz:a.tmps.size=178:=(by rw [ha];kernel_rfl);have a3:a.eval (.tmp 3)=.pointer (some ⟨w.heap.size,0,none⟩):=(by rw [ha];kernel_rfl);have a4:a.eval (.tmp 4)=.pointer (some ⟨w.heap.size+1,0,none⟩):=(by rw [ha];kernel_rfl);have a7:a.eval (.tmp 7)=.pointer (some ⟨w.heap.size+1+1,0,none⟩):=(by rw [ha];kernel_rfl);have a8:a.eval (.tmp 8)=.int .i64 k:=(by rw [ha];kernel_rfl);have a9:a.eval (.tmp 9)=.pointer (some ⟨wo.heap.size,0,none⟩):=(by rw [ha];kernel_rfl)
             (with_reducible refine qa1 (v:=?_) rfl (by with_unfolding_all rfl) (fun ρ hρ W hW=>?_) ?_);(rotate_left 1)
             focus(clear hW;have p4:=hρ (.tmp 4);(simp +decide only [qa2,hsz,ev_eq,ev_ne,a3,a4,a7,a8,a9]at p4);obtain⟨hc,hfn⟩:=rC117 hρ;clear hρ;go_simp;(all_goals with_reducible first|rfl|(constructor <;> rfl)))
             (with_reducible refine qa1 (v:=?_) rfl (by with_unfolding_all rfl) (fun ρ hρ W hW=>?_) ?_);(rotate_left 1)
             focus(have hS:=KS.out _ hW;clear hW;have p103:=hρ (.tmp 103);(simp +decide only [qa2,hsz,ev_eq,ev_ne,a3,a4,a7,a8,a9]at p103);obtain⟨hc,hfn⟩:=rC117 hρ;clear hρ;go_simp;(all_goals with_reducible first|rfl|(constructor <;> rfl)))
             (with_reducible refine qa1 (v:=?_) rfl (by with_unfolding_all rfl) (fun ρ hρ W hW=>?_) ?_);(rotate_left 1)
             focus(clear hW;have p9:=hρ (.tmp 9);(simp +decide only [qa2,hsz,ev_eq,ev_ne,a3,a4,a7,a8,a9]at p9);obtain⟨hc,hfn⟩:=rC117 hρ;clear hρ;go_simp;(all_goals with_reducible first|rfl|(constructor <;> rfl)))
             (with_reducible refine qa1 (v:=?_) rfl (by with_unfolding_all rfl) (fun ρ hρ W hW=>?_) ?_);(rotate_left 1)
             focus(have hS:=KS.out _ hW;clear hW;have p105:=hρ (.tmp 105);(simp +decide only [qa2,hsz,ev_eq,ev_ne,a3,a4,a7,a8,a9]at p105);obtain⟨hc,hfn⟩:=rC117 hρ;clear hρ;go_simp;(all_goals with_reducible first|rfl|(constructor <;> rfl)))
             (with_reducible refine qa1 (v:=?_) rfl (by with_unfolding_all rfl) (fun ρ hρ W hW=>?_) ?_);(rotate_left 1)
             focus(clear hW;have p9:=hρ (.tmp 9);(simp +decide only [qa2,hsz,ev_eq,ev_ne,a3,a4,a7,a8,a9]at p9);obtain⟨hc,hfn⟩:=rC117 hρ;clear hρ;go_simp;(all_goals with_reducible first|rfl|(constructor <;> rfl)))
             (with_reducible refine qa1 (v:=?_) rfl (by with_unfolding_all rfl) (fun ρ hρ W hW=>?_) ?_);(rotate_left 1)
             focus(have hS:=KS.out _ hW;clear hW;have p115:=hρ (.tmp 115);(simp +decide only [qa2,hsz,ev_eq,ev_ne,a3,a4,a7,a8,a9]at p115);obtain⟨hc,hfn⟩:=rC117 hρ;clear hρ;go_simp;(all_goals with_reducible first|rfl|(constructor <;> rfl)))
             (with_reducible refine qam (f:=?_) (args:=?_) rfl (by with_unfolding_all rfl) (fun ρ hρ=>?_) ?_ ?_);(rotate_left 2)
             focus(have p104:=hρ (.tmp 104);have p106:=hρ (.tmp 106);(simp +decide only [qa2,hsz,ev_eq,ev_ne,a3,a4,a7,a8,a9]at p104 p106);obtain⟨hc,hfn⟩:=rC117 hρ;clear hρ;rw [qa9 (hfn _)];clear hfn;go_simp;(all_goals with_reducible first|rfl|(constructor <;> rfl)))
             with_reducible refine(RSV.out _ (HFS0.out.bel kd).bel0).mono ?_
             rintro e w5 ⟨rfl,g5⟩;have k5:Bel wc w5:=Bel.of kd g5;clear g5;refine⟨_,rfl,k5,?_⟩;rotate_left 1
             focus exact qap
             (with_reducible refine qa1 (v:=.bool false) rfl (by with_unfolding_all rfl) (fun ρ hρ W hW=>?_) ?_);skip
             focus(clear hW;have p107:=hρ (.tmp 107);(simp +decide only [qa2,hsz,ev_eq,ev_ne,a3,a4,a7,a8,a9]at p107);obtain⟨hc,hfn⟩:=rC117 hρ;clear hρ;go_simp;(first|done|(all_goals with_reducible first|rfl|(constructor <;> rfl))|(simp only [];done)|(simp [];done)|((try simp only []);done)))
             (with_reducible refine qab (v:=?_) (t:=108) rfl rfl (by with_unfolding_all rfl) ?_ (fun ρ hρ W hW=>?_) ?_);(rotate_left 1)
             focus(simp +decide only [qa2,hsz,ev_eq,ev_ne,a3,a4,a7,a8,a9])
             focus(clear hW;have p4:=hρ (.tmp 4);(simp +decide only [qa2,hsz,ev_eq,ev_ne,a3,a4,a7,a8,a9]at p4);obtain⟨hc,hfn⟩:=rC117 hρ;clear hρ;go_simp;(all_goals with_reducible first|rfl|(constructor <;> rfl)))
             (with_reducible refine qab (v:=?_) (t:=108) rfl rfl (by with_unfolding_all rfl) ?_ (fun ρ hρ W hW=>?_) ?_);(rotate_left 1)
             focus(simp +decide only [qa2,hsz,ev_eq,ev_ne,a3,a4,a7,a8,a9])
             focus(have hS:=KS.out _ hW;clear hW;have p109:=hρ (.tmp 109);(simp +decide only [qa2,hsz,ev_eq,ev_ne,a3,a4,a7,a8,a9]at p109);obtain⟨hc,hfn⟩:=rC117 hρ;clear hρ;go_simp;(all_goals with_reducible first|rfl|(constructor <;> rfl)))
             (with_reducible refine qab (v:=?_) (t:=108) rfl rfl (by with_unfolding_all rfl) ?_ (fun ρ hρ W hW=>?_) ?_);(rotate_left 1)
             focus(simp +decide only [qa2,hsz,ev_eq,ev_ne,a3,a4,a7,a8,a9])
             focus(clear hW;have p9:=hρ (.tmp 9);(simp +decide only [qa2,hsz,ev_eq,ev_ne,a3,a4,a7,a8,a9]at p9);obtain⟨hc,hfn⟩:=rC117 hρ;clear hρ;go_simp;(all_goals with_reducible first|rfl|(constructor <;> rfl)))
             (with_reducible refine qab (v:=?_) (t:=108) rfl rfl (by with_unfolding_all rfl) ?_ (fun ρ hρ W hW=>?_) ?_);(rotate_left 1)
             focus(simp +decide only [qa2,hsz,ev_eq,ev_ne,a3,a4,a7,a8,a9])
             focus(have hS:=KS.out _ hW;clear hW;have p111:=hρ (.tmp 111);(simp +decide only [qa2,hsz,ev_eq,ev_ne,a3,a4,a7,a8,a9]at p111);obtain⟨hc,hfn⟩:=rC117 hρ;clear hρ;go_simp;(all_goals with_reducible first|rfl|(constructor <;> rfl)))
             (with_reducible refine qcq (f:=?_) (args:=?_) (t:=108) rfl rfl (by with_unfolding_all rfl) ?_ (fun ρ hρ=>?_) ?_ ?_);(rotate_left 2)
             focus(simp +decide only [qa2,hsz,ev_eq,ev_ne,a3,a4,a7,a8,a9])
             focus(have p110:=hρ (.tmp 110);have p112:=hρ (.tmp 112);(simp +decide only [qa2,hsz,ev_eq,ev_ne,a3,a4,a7,a8,a9]at p110 p112);obtain⟨hc,hfn⟩:=rC117 hρ;clear hρ;rw [qa9 (hfn _)];clear hfn;go_simp;(all_goals with_reducible first|rfl|(constructor <;> rfl)))
             with_reducible refine(HAS.out _ (HFS0.out.bel k5).bel0).mono ?_
             rintro e w6 ⟨rfl,rfl⟩;refine⟨_,rfl,k5,?_⟩;rotate_left 1
             focus exact qap
             (with_reducible refine qa1 (v:=?_) rfl (by with_unfolding_all rfl) (fun ρ hρ W hW=>?_) ?_);(rotate_left 1)
             focus(clear hW;have p108:=hρ (.tmp 108);have p113:=hρ (.tmp 113);(simp +decide only [qa2,hsz,ev_eq,ev_ne,a3,a4,a7,a8,a9]at p108 p113);obtain⟨hc,hfn⟩:=rC117 hρ;clear hρ;go_simp;(all_goals with_reducible first|rfl|(constructor <;> rfl)))
             refine qao ?_
             (simp only [List.drop_succ_cons,List.drop_zero])
             subst ha
             (simp only [qav,set_s,set_z])
             have hF5:=HFS0.out.bel k5
             go_wp2_with (go_at_call 70;(with_reducible refine(hF5.add (by omega) _ _ _).mono ?_);rintro e w9 ⟨rfl,h9⟩;have hend:=Lib.hid h9;clear h9)
             go_meet;exact hend.out.okc (by simp)
           case rest=>
            have hFS:=hcut;have HFS0:=Lib.hid hcut;clear hcut
            go_upto_region 19 with(fail)
            go_cut [] (fun wx=>RS w (w.heap.size+1+1) m.name w ((wo.heap.size,#[.int .i64 f.num,.string (S f.name),.int .i64 f.card,.int .i64 f.key,.int .i64 f.tk,.string (S f.tn),.string (S f.un),.bool f.hd,.int .i64 f.df.k,.int .u64 f.df.x,.string (S f.df.t),.slice r1 f.df.n1 d1,.slice r2 f.df.n2 d2,.slice r3 f.df.n3 d3,.slice r4 f.df.n4 d4,.slice v1 f.notes.length z1],65) :: BLK) ((2+10*k)+6) (((((((PD) ++ un m.name f.num I1 6) ++ un m.name f.num I2 11) ++ un m.name f.num I3 8) ++ un m.name f.num (!TW) 9) ++ un m.name f.num (!RV && !HG) 21) ++ un m.name f.num CK 1) wx)
            case first=>as_aux_lemma=>
             obtain⟨wd,hwd⟩ : ∃wd,wd=wc.drew:=⟨_,rfl⟩;have kd:Bel wc wd:=by rw [hwd];exact(Bel.refl _).drew
             have HWD:=Lib.hid hwd;clear hwd;have KS:=Lib.hid (fun W' (kq:Bel wc W')=>KSA.out W' (HFS0.out.bel kq).bel0 ((HFS0.out.bel kq).cell b3) ((HFS0.out.bel kq).cell b1) ((HFS0.out.bel kq).cell b2));refine qac (fun W=>Bel wc W) (.take 0 (.take 3 (.take 4 (.alt 1 (.take 2 .done) .no)))) 5 (by kernel_rfl) (by kernel_rfl) HWD.out kd (fun a ha=>?_)
             (simp only [pickT,List.getD_cons_zero,List.getD_cons_succ])
             have hsz:a.tmps.size=178:=(by rw [ha];kernel_rfl);have a3:a.eval (.tmp 3)=.pointer (some ⟨w.heap.size,0,none⟩):=(by rw [ha];kernel_rfl);have a4:a.eval (.tmp 4)=.pointer (some ⟨w.heap.size+1,0,none⟩):=(by rw [ha];kernel_rfl);have a7:a.eval (.tmp 7)=.pointer (some ⟨w.heap.size+1+1,0,none⟩):=(by rw [ha];kernel_rfl);have a8:a.eval (.tmp 8)=.int .i64 k:=(by rw [ha];kernel_rfl);have a9:a.eval (.tmp 9)=.pointer (some ⟨wo.heap.size,0,none⟩):=(by rw [ha];kernel_rfl)
             (with_reducible refine qa1 (v:=?_) rfl (by with_unfolding_all rfl) (fun ρ hρ W hW=>?_) ?_);(rotate_left 1)
             focus(have hS:=KS.out _ hW;clear hW;have p9:=hρ (.tmp 9);(simp +decide only [qa2,hsz,ev_eq,ev_ne,a3,a4,a7,a8,a9]at p9);obtain⟨hc,hfn⟩:=rC117 hρ;clear hρ;exact qfu p9 (hS.2.2.2.2.2.2.2.2.2.2))
             (with_reducible refine qa1 (v:=?_) rfl (by with_unfolding_all rfl) (fun ρ hρ W hW=>?_) ?_);(rotate_left 1)
             focus(clear hW;have p9:=hρ (.tmp 9);(simp +decide only [qa2,hsz,ev_eq,ev_ne,a3,a4,a7,a8,a9]at p9);obtain⟨hc,hfn⟩:=rC117 hρ;clear hρ;go_simp;(all_goals with_reducible first|rfl|(constructor <;> rfl)))
             (with_reducible refine qa1 (v:=?_) rfl (by with_unfolding_all rfl) (fun ρ hρ W hW=>?_) ?_);(rotate_left 1)
             focus(have hS:=KS.out _ hW;clear hW;have p121:=hρ (.tmp 121);(simp +decide only [qa2,hsz,ev_eq,ev_ne,a3,a4,a7,a8,a9]at p121);obtain⟨hc,hfn⟩:=rC117 hρ;clear hρ;go_simp;(all_goals with_reducible first|rfl|(constructor <;> rfl)))
             (with_reducible refine qam (f:=?_) (args:=?_) rfl (by with_unfolding_all rfl) (fun ρ hρ=>?_) ?_ ?_);(rotate_left 2)
             focus(have p118:=hρ (.tmp 118);(simp +decide only [qa2,hsz,ev_eq,ev_ne,a3,a4,a7,a8,a9]at p118);obtain⟨hc,hfn⟩:=rC117 hρ;clear hρ;rw [qa9 (hfn _)];clear hfn;go_simp;(all_goals with_reducible first|rfl|(constructor <;> rfl)))
             with_reducible refine(CRD.out _ (HFS0.out.bel kd).bel0).mono ?_
             rintro e w5 ⟨rfl,g5⟩;have k5:Bel wc w5:=Bel.of kd g5;clear g5;refine⟨_,rfl,k5,?_⟩;rotate_left 1
             focus exact qap
             (with_reducible refine qa1 (v:=?_) rfl (by with_unfolding_all rfl) (fun ρ hρ W hW=>?_) ?_);(rotate_left 1)
             focus(clear hW;have p119:=hρ (.tmp 119);(simp +decide only [qa2,hsz,ev_eq,ev_ne,a3,a4,a7,a8,a9]at p119);obtain⟨hc,hfn⟩:=rC117 hρ;clear hρ;go_simp;(all_goals with_reducible first|rfl|(constructor <;> rfl)))
             refine qao ?_
             (simp only [List.drop_succ_cons,List.drop_zero])
             subst ha
             (simp only [qav,set_s,set_z])
             have hF5:=HFS0.out.bel k5
             go_wp2_with (go_at_call 70;(with_reducible refine(hF5.add (by omega) _ _ _).mono ?_);rintro e w9 ⟨rfl,h9⟩;have hend:=Lib.hid h9;clear h9)
             go_meet;exact hend.out.okc (by simp)
            case rest=>
             have hFS:=hcut;have HFS0:=Lib.hid hcut;clear hcut
             go_upto_region 20 with(fail)
             go_cut [] (fun wx=>RS w (w.heap.size+1+1) m.name w ((wo.heap.size,#[.int .i64 f.num,.string (S f.name),.int .i64 f.card,.int .i64 f.key,.int .i64 f.tk,.string (S f.tn),.string (S f.un),.bool f.hd,.int .i64 f.df.k,.int .u64 f.df.x,.string (S f.df.t),.slice r1 f.df.n1 d1,.slice r2 f.df.n2 d2,.slice r3 f.df.n3 d3,.slice r4 f.df.n4 d4,.slice v1 f.notes.length z1],65) :: BLK) ((2+10*k)+7) ((((((((PD) ++ un m.name f.num I1 6) ++ un m.name f.num I2 11) ++ un m.name f.num I3 8) ++ un m.name f.num (!TW) 9) ++ un m.name f.num (!RV && !HG) 21) ++ un m.name f.num CK 1) ++ un m.name f.num TY 12) wx)
             case first=>as_aux_lemma=>
              obtain⟨wd,hwd⟩ : ∃wd,wd=wc.drew:=⟨_,rfl⟩;have kd:Bel wc wd:=by rw [hwd];exact(Bel.refl _).drew
              have HWD:=Lib.hid hwd;clear hwd;have KS:=Lib.hid (fun W' (kq:Bel wc W')=>KSA.out W' (HFS0.out.bel kq).bel0 ((HFS0.out.bel kq).cell b3) ((HFS0.out.bel kq).cell b1) ((HFS0.out.bel kq).cell b2));refine qac (fun W=>Bel wc W) (.take 0 (.take 1 (.take 4 (.take 5 (.alt 2 (.take 3 .done) .no))))) 6 (by kernel_rfl) (by kernel_rfl) HWD.out kd (fun a ha=>?_)
              (simp only [pickT,List.getD_cons_zero,List.getD_cons_succ])
              have hsz:a.tmps.size=178:=(by rw [ha];kernel_rfl);have a3:a.eval (.tmp 3)=.pointer (some ⟨w.heap.size,0,none⟩):=(by rw [ha];kernel_rfl);have a4:a.eval (.tmp 4)=.pointer (some ⟨w.heap.size+1,0,none⟩):=(by rw [ha];kernel_rfl);have a7:a.eval (.tmp 7)=.pointer (some ⟨w.heap.size+1+1,0,none⟩):=(by rw [ha];kernel_rfl);have a8:a.eval (.tmp 8)=.int .i64 k:=(by rw [ha];kernel_rfl);have a9:a.eval (.tmp 9)=.pointer (some ⟨wo.heap.size,0,none⟩):=(by rw [ha];kernel_rfl)
              (with_reducible refine qa1 (v:=?_) rfl (by with_unfolding_all rfl) (fun ρ hρ W hW=>?_) ?_);(rotate_left 1)
              focus(have hS:=KS.out _ hW;clear hW;have p3:=hρ (.tmp 3);(simp +decide only [qa2,hsz,ev_eq,ev_ne,a3,a4,a7,a8,a9]at p3);obtain⟨hc,hfn⟩:=rC117 hρ;clear hρ;go_simp;(all_goals with_reducible first|rfl|(constructor <;> rfl)))
              (with_reducible refine qa1 (v:=?_) rfl (by with_unfolding_all rfl) (fun ρ hρ W hW=>?_) ?_);(rotate_left 1)
              focus(have hS:=KS.out _ hW;clear hW;have p9:=hρ (.tmp 9);(simp +decide only [qa2,hsz,ev_eq,ev_ne,a3,a4,a7,a8,a9]at p9);obtain⟨hc,hfn⟩:=rC117 hρ;clear hρ;exact qfu p9 (hS.2.2.2.2.2.2.2.2.2.2))
              (with_reducible refine qa1 (v:=?_) rfl (by with_unfolding_all rfl) (fun ρ hρ W hW=>?_) ?_);(rotate_left 1)
              focus(clear hW;have p9:=hρ (.tmp 9);(simp +decide only [qa2,hsz,ev_eq,ev_ne,a3,a4,a7,a8,a9]at p9);obtain⟨hc,hfn⟩:=rC117 hρ;clear hρ;go_simp;(all_goals with_reducible first|rfl|(constructor <;> rfl)))
              (with_reducible refine qa1 (v:=?_) rfl (by with_unfolding_all rfl) (fun ρ hρ W hW=>?_) ?_);(rotate_left 1)
              focus(have hS:=KS.out _ hW;clear hW;have p128:=hρ (.tmp 128);(simp +decide only [qa2,hsz,ev_eq,ev_ne,a3,a4,a7,a8,a9]at p128);obtain⟨hc,hfn⟩:=rC117 hρ;clear hρ;go_simp;(all_goals with_reducible first|rfl|(constructor <;> rfl)))
              (with_reducible refine qam (f:=?_) (args:=?_) rfl (by with_unfolding_all rfl) (fun ρ hρ=>?_) ?_ ?_);(rotate_left 2)
              focus(have p124:=hρ (.tmp 124);have p125:=hρ (.tmp 125);(simp +decide only [qa2,hsz,ev_eq,ev_ne,a3,a4,a7,a8,a9]at p124 p125);obtain⟨hc,hfn⟩:=rC117 hρ;clear hρ;rw [qa9 (hfn _)];clear hfn;go_simp;(all_goals with_reducible first|rfl|(constructor <;> rfl)))
              with_reducible refine(TYP.out _ (HFS0.out.bel kd).bel0).mono ?_
              rintro e w5 ⟨rfl,g5⟩;have k5:Bel wc w5:=Bel.of kd g5;clear g5;refine⟨_,rfl,k5,?_⟩;rotate_left 1
              focus exact qap
              (with_reducible refine qa1 (v:=?_) rfl (by with_unfolding_all rfl) (fun ρ hρ W hW=>?_) ?_);(rotate_left 1)
              focus(clear hW;have p126:=hρ (.tmp 126);(simp +decide only [qa2,hsz,ev_eq,ev_ne,a3,a4,a7,a8,a9]at p126);obtain⟨hc,hfn⟩:=rC117 hρ;clear hρ;go_simp;(all_goals with_reducible first|rfl|(constructor <;> rfl)))
              refine qao ?_
              (simp only [List.drop_succ_cons,List.drop_zero])
              subst ha
              (simp only [qav,set_s,set_z])
              have hF5:=HFS0.out.bel k5
              go_wp2_with (go_at_call 70;(with_reducible refine(hF5.add (by omega) _ _ _).mono ?_);rintro e w9 ⟨rfl,h9⟩;have hend:=Lib.hid h9;clear h9)
              go_meet;exact hend.out.okc (by simp)
             case rest=>
              have hFS:=hcut;have HFS0:=Lib.hid hcut;clear hcut
              go_upto_region 21 with(fail)
              go_cut [] (fun wx=>RS w (w.heap.size+1+1) m.name w ((wo.heap.size,#[.int .i64 f.num,.string (S f.name),.int .i64 f.card,.int .i64 f.key,.int .i64 f.tk,.string (S f.tn),.string (S f.un),.bool f.hd,.int .i64 f.df.k,.int .u64 f.df.x,.string (S f.df.t),.slice r1 f.df.n1 d1,.slice r2 f.df.n2 d2,.slice r3 f.df.n3 d3,.slice r4 f.df.n4 d4,.slice v1 f.notes.length z1],65) :: BLK) ((2+10*k)+8) (((((((((PD) ++ un m.name f.num I1 6) ++ un m.name f.num I2 11) ++ un m.name f.num I3 8) ++ un m.name f.num (!TW) 9) ++ un m.name f.num (!RV && !HG) 21) ++ un m.name f.num CK 1) ++ un m.name f.num TY 12) ++ un m.name f.num UN 15) wx)
              case first=>as_aux_lemma=>
               obtain⟨wd,hwd⟩ : ∃wd,wd=wc.drew:=⟨_,rfl⟩;have kd:Bel wc wd:=by rw [hwd];exact(Bel.refl _).drew
               have HWD:=Lib.hid hwd;clear hwd;have KS:=Lib.hid (fun W' (kq:Bel wc W')=>KSA.out W' (HFS0.out.bel kq).bel0 ((HFS0.out.bel kq).cell b3) ((HFS0.out.bel kq).cell b1) ((HFS0.out.bel kq).cell b2));refine qac (fun W=>Bel wc W) (.take 0 (.take 1 (.take 4 (.take 5 (.alt 2 (.take 3 .done) .no))))) 6 (by kernel_rfl) (by kernel_rfl) HWD.out kd (fun a ha=>?_)
               (simp only [pickT,List.getD_cons_zero,List.getD_cons_succ])
               have hsz:a.tmps.size=178:=(by rw [ha];kernel_rfl);have a3:a.eval (.tmp 3)=.pointer (some ⟨w.heap.size,0,none⟩):=(by rw [ha];kernel_rfl);have a4:a.eval (.tmp 4)=.pointer (some ⟨w.heap.size+1,0,none⟩):=(by rw [ha];kernel_rfl);have a7:a.eval (.tmp 7)=.pointer (some ⟨w.heap.size+1+1,0,none⟩):=(by rw [ha];kernel_rfl);have a8:a.eval (.tmp 8)=.int .i64 k:=(by rw [ha];kernel_rfl);have a9:a.eval (.tmp 9)=.pointer (some ⟨wo.heap.size,0,none⟩):=(by rw [ha];kernel_rfl)
               (with_reducible refine qa1 (v:=?_) rfl (by with_unfolding_all rfl) (fun ρ hρ W hW=>?_) ?_);(rotate_left 1)
               focus(have hS:=KS.out _ hW;clear hW;have p4:=hρ (.tmp 4);(simp +decide only [qa2,hsz,ev_eq,ev_ne,a3,a4,a7,a8,a9]at p4);obtain⟨hc,hfn⟩:=rC117 hρ;clear hρ;go_simp;(all_goals with_reducible first|rfl|(constructor <;> rfl)))
               (with_reducible refine qa1 (v:=?_) rfl (by with_unfolding_all rfl) (fun ρ hρ W hW=>?_) ?_);(rotate_left 1)
               focus(clear hW;have p8:=hρ (.tmp 8);(simp +decide only [qa2,hsz,ev_eq,ev_ne,a3,a4,a7,a8,a9]at p8);obtain⟨hc,hfn⟩:=rC117 hρ;clear hρ;go_simp;(all_goals with_reducible first|rfl|(constructor <;> rfl)))
               (with_reducible refine qa1 (v:=?_) rfl (by with_unfolding_all rfl) (fun ρ hρ W hW=>?_) ?_);(rotate_left 1)
               focus(clear hW;have p9:=hρ (.tmp 9);(simp +decide only [qa2,hsz,ev_eq,ev_ne,a3,a4,a7,a8,a9]at p9);obtain⟨hc,hfn⟩:=rC117 hρ;clear hρ;go_simp;(all_goals with_reducible first|rfl|(constructor <;> rfl)))
               (with_reducible refine qa1 (v:=?_) rfl (by with_unfolding_all rfl) (fun ρ hρ W hW=>?_) ?_);(rotate_left 1)
               focus(have hS:=KS.out _ hW;clear hW;have p135:=hρ (.tmp 135);(simp +decide only [qa2,hsz,ev_eq,ev_ne,a3,a4,a7,a8,a9]at p135);obtain⟨hc,hfn⟩:=rC117 hρ;clear hρ;go_simp;(all_goals with_reducible first|rfl|(constructor <;> rfl)))
               (with_reducible refine qam (f:=?_) (args:=?_) rfl (by with_unfolding_all rfl) (fun ρ hρ=>?_) ?_ ?_);(rotate_left 2)
               focus(have p131:=hρ (.tmp 131);have p132:=hρ (.tmp 132);(simp +decide only [qa2,hsz,ev_eq,ev_ne,a3,a4,a7,a8,a9]at p131 p132);obtain⟨hc,hfn⟩:=rC117 hρ;clear hρ;rw [qa9 (hfn _)];clear hfn;go_simp;(all_goals with_reducible first|rfl|(constructor <;> rfl)))
               with_reducible refine(UNI.out _ (HFS0.out.bel kd).bel0).mono ?_
               rintro e w5 ⟨rfl,g5⟩;have k5:Bel wc w5:=Bel.of kd g5;clear g5;refine⟨_,rfl,k5,?_⟩;rotate_left 1
               focus exact qap
               (with_reducible refine qa1 (v:=?_) rfl (by with_unfolding_all rfl) (fun ρ hρ W hW=>?_) ?_);(rotate_left 1)
               focus(clear hW;have p133:=hρ (.tmp 133);(simp +decide only [qa2,hsz,ev_eq,ev_ne,a3,a4,a7,a8,a9]at p133);obtain⟨hc,hfn⟩:=rC117 hρ;clear hρ;go_simp;(all_goals with_reducible first|rfl|(constructor <;> rfl)))
               refine qao ?_
               (simp only [List.drop_succ_cons,List.drop_zero])
               subst ha
               (simp only [qav,set_s,set_z])
               have hF5:=HFS0.out.bel k5
               go_wp2_with (go_at_call 70;(with_reducible refine(hF5.add (by omega) _ _ _).mono ?_);rintro e w9 ⟨rfl,h9⟩;have hend:=Lib.hid h9;clear h9)
               go_meet;exact hend.out.okc (by simp)
              case rest=>
               have hFS:=hcut;have HFS0:=Lib.hid hcut;clear hcut
               go_upto_region 22 with(fail)
               go_cut [] (fun wx=>RS w (w.heap.size+1+1) m.name w ((wo.heap.size,#[.int .i64 f.num,.string (S f.name),.int .i64 f.card,.int .i64 f.key,.int .i64 f.tk,.string (S f.tn),.string (S f.un),.bool f.hd,.int .i64 f.df.k,.int .u64 f.df.x,.string (S f.df.t),.slice r1 f.df.n1 d1,.slice r2 f.df.n2 d2,.slice r3 f.df.n3 d3,.slice r4 f.df.n4 d4,.slice v1 f.notes.length z1],65) :: BLK) ((2+10*k)+9) ((((((((((PD) ++ un m.name f.num I1 6) ++ un m.name f.num I2 11) ++ un m.name f.num I3 8) ++ un m.name f.num (!TW) 9) ++ un m.name f.num (!RV && !HG) 21) ++ un m.name f.num CK 1) ++ un m.name f.num TY 12) ++ un m.name f.num UN 15) ++ un m.name f.num DF 1) wx)
               case first=>as_aux_lemma=>
                obtain⟨wd,hwd⟩ : ∃wd,wd=wc.drew:=⟨_,rfl⟩;have kd:Bel wc wd:=by rw [hwd];exact(Bel.refl _).drew
                have HWD:=Lib.hid hwd;clear hwd;have KS:=Lib.hid (fun W' (kq:Bel wc W')=>KSA.out W' (HFS0.out.bel kq).bel0 ((HFS0.out.bel kq).cell b3) ((HFS0.out.bel kq).cell b1) ((HFS0.out.bel kq).cell b2));refine qac (fun W=>Bel wc W) (.take 0 (.take 1 (.take 4 (.take 5 (.alt 2 (.take 3 .done) .no))))) 6 (by kernel_rfl) (by kernel_rfl) HWD.out kd (fun a ha=>?_)
                (simp only [pickT,List.getD_cons_zero,List.getD_cons_succ])
                have hsz:a.tmps.size=178:=(by rw [ha];kernel_rfl);have a3:a.eval (.tmp 3)=.pointer (some ⟨w.heap.size,0,none⟩):=(by rw [ha];kernel_rfl);have a4:a.eval (.tmp 4)=.pointer (some ⟨w.heap.size+1,0,none⟩):=(by rw [ha];kernel_rfl);have a7:a.eval (.tmp 7)=.pointer (some ⟨w.heap.size+1+1,0,none⟩):=(by rw [ha];kernel_rfl);have a8:a.eval (.tmp 8)=.int .i64 k:=(by rw [ha];kernel_rfl);have a9:a.eval (.tmp 9)=.pointer (some ⟨wo.heap.size,0,none⟩):=(by rw [ha];kernel_rfl)
                (with_reducible refine qa1 (v:=?_) rfl (by with_unfolding_all rfl) (fun ρ hρ W hW=>?_) ?_);(rotate_left 1)
                focus(have hS:=KS.out _ hW;clear hW;have p3:=hρ (.tmp 3);(simp +decide only [qa2,hsz,ev_eq,ev_ne,a3,a4,a7,a8,a9]at p3);obtain⟨hc,hfn⟩:=rC117 hρ;clear hρ;go_simp;(all_goals with_reducible first|rfl|(constructor <;> rfl)))
                (with_reducible refine qa1 (v:=?_) rfl (by with_unfolding_all rfl) (fun ρ hρ W hW=>?_) ?_);(rotate_left 1)
                focus(have hS:=KS.out _ hW;clear hW;have p9:=hρ (.tmp 9);(simp +decide only [qa2,hsz,ev_eq,ev_ne,a3,a4,a7,a8,a9]at p9);obtain⟨hc,hfn⟩:=rC117 hρ;clear hρ;exact qfu p9 (hS.2.2.2.2.2.2.2.2.2.2))
                (with_reducible refine qa1 (v:=?_) rfl (by with_unfolding_all rfl) (fun ρ hρ W hW=>?_) ?_);(rotate_left 1)
                focus(clear hW;have p9:=hρ (.tmp 9);(simp +decide only [qa2,hsz,ev_eq,ev_ne,a3,a4,a7,a8,a9]at p9);obtain⟨hc,hfn⟩:=rC117 hρ;clear hρ;go_simp;(all_goals with_reducible first|rfl|(constructor <;> rfl)))
                (with_reducible refine qa1 (v:=?_) rfl (by with_unfolding_all rfl) (fun ρ hρ W hW=>?_) ?_);(rotate_left 1)
                focus(have hS:=KS.out _ hW;clear hW;have p142:=hρ (.tmp 142);(simp +decide only [qa2,hsz,ev_eq,ev_ne,a3,a4,a7,a8,a9]at p142);obtain⟨hc,hfn⟩:=rC117 hρ;clear hρ;go_simp;(all_goals with_reducible first|rfl|(constructor <;> rfl)))
                (with_reducible refine qam (f:=?_) (args:=?_) rfl (by with_unfolding_all rfl) (fun ρ hρ=>?_) ?_ ?_);(rotate_left 2)
                focus(have p138:=hρ (.tmp 138);have p139:=hρ (.tmp 139);(simp +decide only [qa2,hsz,ev_eq,ev_ne,a3,a4,a7,a8,a9]at p138 p139);obtain⟨hc,hfn⟩:=rC117 hρ;clear hρ;rw [qa9 (hfn _)];clear hfn;go_simp;(all_goals with_reducible first|rfl|(constructor <;> rfl)))
                with_reducible refine(VAL.out _ (HFS0.out.bel kd).bel0).mono ?_
                rintro e w5 ⟨rfl,g5⟩;have k5:Bel wc w5:=Bel.of kd g5;clear g5;refine⟨_,rfl,k5,?_⟩;rotate_left 1
                focus exact qap
                (with_reducible refine qa1 (v:=?_) rfl (by with_unfolding_all rfl) (fun ρ hρ W hW=>?_) ?_);(rotate_left 1)
                focus(clear hW;have p140:=hρ (.tmp 140);(simp +decide only [qa2,hsz,ev_eq,ev_ne,a3,a4,a7,a8,a9]at p140);obtain⟨hc,hfn⟩:=rC117 hρ;clear hρ;go_simp;(all_goals with_reducible first|rfl|(constructor <;> rfl)))
                refine qao ?_
                (simp only [List.drop_succ_cons,List.drop_zero])
                subst ha
                (simp only [qav,set_s,set_z])
                have hF5:=HFS0.out.bel k5
                go_wp2_with (go_at_call 70;(with_reducible refine(hF5.add (by omega) _ _ _).mono ?_);rintro e w9 ⟨rfl,h9⟩;have hend:=Lib.hid h9;clear h9)
                go_meet;exact hend.out.okc (by simp)
               case rest=>
                have hFS:=hcut;clear hcut;have kk1:=hFS.cell b1;have kk2:=hFS.cell b2;have kk3:=hFS.cell b3
                go_wp2_with (go_at_call 108;(with_reducible refine(hFS.notes (by omega) _ _ _ _ HNT.out).mono ?_);rintro e w9 ⟨rfl,h9⟩;have hend:=Lib.hid h9;clear h9)
                refine⟨⟨k+1,done ++ FP,by omega,by go_num,?_,hgo2⟩,by simp [intOf];omega⟩;have h10:=hend.out.dropb.moreN (N2:=2+10*(k+1)) (by omega);rw [HIP.out];rw [HPD.out]at h10
                simpa only [List.append_assoc]using h10
    ·have hki : ¬(k:Int)<(m.fields.length:Int):=by omega
     have hkl:k=m.fields.length:=by omega
     have hdn:done=TF:=by
      have h:=hgo.out;rw [hkl,List.drop_length]at h
      simpa [qbs]using h
     subst hdn;subst hkl;clear hgo;have kk1:=hFS.cell b1;have kk2:=hFS.cell b2;have hps:((un m.name (-1) O1 8 ++ un m.name (-1) O2 3) ++ done).length<=2+10*m.fields.length:=hFS.2.2.2.1;have CS:=Lib.hid (qmo w (w.heap.size+1+1) m.name ((un m.name (-1) O1 8 ++ un m.name (-1) O2 3) ++ done) wr _ m.res 1 65535 (2+10*m.fields.length) ⟨hFS.1,hFS.2.1,Lib.OthersKept.refl _ _ _,hFS.2.2.2.1,fun b hb=>by cases hb⟩ (by omega) (by omega) HM2.out);have hsl:(spans m.name m.res 1 65535).length<=2*m.res.length:=qdv _ _ _ _ _;generalize spans m.name m.res 1 65535=TSP at CS hsl HV
     go_upto_region 24 with(fail)
     go_cut [] (fun wx=>RS w (w.heap.size+1+1) m.name w BLK (2+10*m.fields.length+2*m.res.length) ((un m.name (-1) O1 8 ++ un m.name (-1) O2 3) ++ done ++ TSP) wx)
     case first=>
      go_wp2_with (go_at_call 109;(with_reducible refine CS.out.mono ?_);rintro e w9 h9;have he:=h9.1;(subst he);have hend:=Lib.hid h9;clear h9)
      go_meet;exact hFS.post hend.out (by rw [List.length_append];omega)
     case rest=>
      clear hFS kk1 kk2 CS;have hFS:=hcut;clear hcut;have kk1:=hFS.cell b1;have kk2:=hFS.cell b2;have VG:=Lib.hid (show [] ++ goneP m.name (m.gone.drop 0)=goneP m.name m.gone from rfl);generalize goneP m.name m.gone=TG at VG HV;obtain⟨qg,cg,hqg,hlg,hcg,helg⟩:=HM3.out;cases hqg;have EG:=Lib.hid helg;clear helg;go_wp2
      go_loopw [12] (fun i wr => ∃(k:Nat) (dg:List PProb),k<=m.gone.length/\i=.int .i64 k/\RS w (w.heap.size+1+1) m.name w BLK ((2+10*m.fields.length+2*m.res.length)+k) (((un m.name (-1) O1 8 ++ un m.name (-1) O2 3) ++ done ++ TSP) ++ dg) wr/\Hid (dg ++ goneP m.name (m.gone.drop k)=TG)) (fun i _=>m.gone.length-(intOf i).toNat)
      case atStart=>exact⟨0,[],by omega,rfl,by rw [List.append_nil];exact hFS,VG⟩
      case round=>
       clear kk1 kk2 hFS;obtain⟨k,dg,hk,rfl,hFS,hgo⟩:=hrel;by_cases hlt:k<m.gone.length
       ·have hki:(k:Int)<(m.gone.length:Int):=by omega
        have hk0:(0:Int)<=(k:Int):=by omega
        have hg:=List.getElem?_eq_getElem hlt;obtain⟨b,off,rfl,hbs,vs,hce,hvs⟩:=EG.out k _ hg;have hdr:m.gone.drop k=m.gone[k] :: m.gone.drop (k+1):=List.drop_eq_getElem_cons hlt;have hgo2:=Lib.hid (show(dg ++ un m.name (-1) (decide (Utf.bad m.gone[k]<0)) 7) ++ goneP m.name (m.gone.drop (k+1))=TG by rw [←hgo.out,hdr,qnk,List.append_assoc]);have hvs':vs=[.string (S m.gone[k])]:=hvs
        have e0:wr.cell? ⟨b,off+k,none⟩=some (.string (S m.gone[k])):=by
         have:=hce 0 (.string (S m.gone[k])) (by rw [hvs'];rfl);rw [Nat.mul_one,Nat.add_zero]at this;exact hFS.bel0.some this
        have CV:=Lib.hid (fun W=>qjw (S m.gone[k]) m.gone[k] W rfl (by rw [qbr];have:=HGL.out _ (List.getElem_mem hlt);omega));clear hce hvs hvs' hdr hgo hg;generalize m.gone[k]=g at *;generalize decide (Utf.bad g<0)=OG at CV hgo2;have kk1:=hFS.cell b1;have kk2:=hFS.cell b2
        go_wp2_with (first
         | (go_at_call 110;(with_reducible refine(CV.out _).mono ?_);rintro e w1 ⟨rfl,rfl⟩)
         | (go_at_call 70;(with_reducible refine(hFS.add (by omega) _ _ _).mono ?_);rintro e w9 ⟨rfl,h9⟩;have hend:=Lib.hid h9;clear h9))
        refine⟨⟨k+1,dg ++ un m.name (-1) OG 7,by omega,by go_num,?_,hgo2⟩,by simp [intOf];omega⟩;rw [←List.append_assoc];exact hend.out.okc (by simp)
       ·have hkl:k=m.gone.length:=by omega
        have hdn:dg=TG:=by
         have h:=hgo.out;rw [hkl,List.drop_length]at h
         simpa [goneP]using h
        subst hdn;subst hkl;clear hgo;have kk1:=hFS.cell b1;have kk2:=hFS.cell b2
        go_upto_region 29 with(fail)
        go_cut [] (fun wx=>RS w (w.heap.size+1+1) m.name w BLK ((2+10*m.fields.length+2*m.res.length)+m.gone.length+1) (((un m.name (-1) O1 8 ++ un m.name (-1) O2 3) ++ done ++ TSP) ++ dg ++ noted m.name (-1) m.notes 1) wx)
        case first=>
         go_wp2_with (go_at_call 108;(with_reducible refine(hFS.notes (by omega) _ _ _ _ HM4.out).mono ?_);rintro e w9 ⟨rfl,h9⟩)
         go_meet;exact h9
        case rest=>
         clear hFS kk1 kk2;have hFS:=hcut;clear hcut;have kk1:=hFS.cell b1;have kk2:=hFS.cell b2
         go_upto_region 31 with(first
          | (go_at_call 100;(with_reducible refine(ND.out _ (RS.bel0 hFS)).mono ?_);rintro e w1 ⟨rfl,g1⟩;have hF1:=RS.bel hFS g1;have kk1:=hF1.cell b1;have kk2:=hF1.cell b2;clear g1)
          | (go_at_call 70;(with_reducible refine(hF1.add (by omega) _ _ _).mono ?_);rintro e w9 ⟨rfl,h9⟩;have hend:=Lib.hid h9;clear h9))
         have hfin:=hend.out;obtain⟨v,z1,z2⟩:=hfin.out;have hbz:=hfin.bel0;have Z2:=Lib.hid z2;clear hFS kk1 kk2 hend hfin z2;go_wp2;go_ret;refine⟨v,rfl,?_,hbz.out⟩;rw [HV.out];exact Z2.out
end Go.Proofs.YtaaneecceiefoaaGreatDoor
