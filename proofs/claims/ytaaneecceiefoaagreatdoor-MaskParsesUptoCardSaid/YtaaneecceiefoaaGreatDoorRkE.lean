import Derived.Test.YtaaneecceiefoaaGreatDoorRkW
import Derived.Deep.DeepCutAuto
import Derived.Test.YtaaneecceiefoaaGreatDoorRkU
import Derived.Test.YtaaneecceiefoaaGreatDoorCkLists2
set_option maxRecDepth 100000
set_option maxHeartbeats 4000000
set_option linter.unusedVariables false
set_option linter.unusedSimpArgs false
namespace Go.Proofs.YtaaneecceiefoaaGreatDoor
section
open Go.RowKit Ck
theorem qp9 (s:PSchema) (m:PMsg):qdl s m (qba s)=qne s m:=by
 unfold qdl qne qbh;rw [qga];rfl
end
section
open Go.RowKit Ck
theorem rC119 {a:Act} {ρ:Operand->Value} (h : ∀x,ρ x=a.eval x):(∀c,ρ (.const c)=c)/\∀f,ρ (.func f)=.func (.func f) #[] #[]:=⟨fun c=>h (.const c),fun f=>h (.func f)⟩
def headZ (l:List PItem):Bool:=match l with | []=>true|it :: _=>decide (it.num=0)
theorem enum_def (e:PEnum):enum e=un e.name (-1) (qal e.name) 8 ++ un e.name (-1) (decide (1<=e.items.length/\e.items.length<=64/\e.res.length<=16)) 3 ++ un e.name (-1) (headZ e.items) 14 ++ qd5 e 0 e.items ++ spans e.name e.res 0 2147483647 ++ noted e.name (-1) e.notes 3:=by
 unfold enum headZ;cases e.items <;> rfl
theorem rk_Enum (eq1 eq2 eq3:Option Addr) (ec1 ec2 ec3:Nat) (e:PEnum) (w:World) (he0:VEnum w [.string (S e.name),.bool e.op,.slice eq1 e.items.length ec1,.slice eq2 e.res.length ec2,.slice eq3 e.notes.length ec3] e) (hnm:e.name.length<=100000000) (hl1:e.items.length<=2000000) (hl2:e.res.length<=2000000) (hil : ∀f ∈ e.items,f.name.length<=1000000000) :
  Calls Tryz.prog 75 #[.agg #[.string (S e.name),.bool e.op,.slice eq1 e.items.length ec1,.slice eq2 e.res.length ec2,.slice eq3 e.notes.length ec3]] w (qhg w (enum e)):=by
 obtain⟨_,_,_,hce0,he1,he2,he3⟩:=he0;cases hce0;obtain⟨qq,cq,hqe,_,_,hel⟩:=id he1;cases hqe;have US:=Lib.hid (fun W (k:Bel w W)=>qgr e.name W (by omega));have HV:=Lib.hid (enum_def e);generalize qal e.name=O1 at US HV;generalize hO2:decide (1<=e.items.length/\e.items.length<=64/\e.res.length<=16)=O2 at HV;generalize hO3:headZ e.items=O3 at HV;generalize hTF:qd5 e 0 e.items=TF at HV;have HTF:=Lib.hid (show qd5 e 0 (e.items.drop 0)=TF from hTF);have HO2:=Lib.hid hO2
 have HHD:=Lib.hid (show(e.items.length=0/\O3=true) ∨ ∃(b off:Nat) (x:Int),eq1=some ⟨b,off,none⟩/\0<e.items.length/\w.cell? ⟨b,off+1,none⟩=some (.int .i64 x)/\decide (x=0)=O3 by
  rcases hcase:e.items with _|⟨it,r⟩
  ·exact .inl ⟨rfl,by rw [←hO3,hcase];rfl⟩
  ·obtain⟨b,off,hq,_,vs,hce,hvs⟩:=hel 0 it (by rw [hcase];rfl)
   obtain⟨nv,rfl,_⟩:=hvs;have hc1:=hce 1 _ rfl;simp only [Nat.zero_mul,Nat.add_zero]at hc1
   exact .inr ⟨b,off,it.num,hq,by simp,hc1,by rw [←hO3,hcase];rfl⟩)
 clear hTF hO2 hO3;obtain⟨BLK,hBLK⟩ : ∃BLK:List (Nat × Array Value × TypeId),BLK=[(w.heap.size,#[.string (S e.name),.bool e.op,.slice eq1 e.items.length ec1,.slice eq2 e.res.length ec2,.slice eq3 e.notes.length ec3],127)]:=⟨_,rfl⟩;have b1:(w.heap.size,#[.string (S e.name),.bool e.op,.slice eq1 e.items.length ec1,.slice eq2 e.res.length ec2,.slice eq3 e.notes.length ec3],127) ∈ BLK:=by rw [hBLK];exact List.mem_cons_self
 have hst:=RS.start w (w.alloc (.cells #[.string (S e.name),.bool e.op,.slice eq1 e.items.length ec1,.slice eq2 e.res.length ec2,.slice eq3 e.notes.length ec3] 127)) e.name BLK ((Bel.refl w).alloc _) (fun x hx=>by
  rw [hBLK]at hx;simp only [List.mem_cons,List.not_mem_nil,or_false]at hx;subst hx
  exact⟨heap_alloc_new _ _,by show 127 ≠ 153;decide⟩)
 simp only [World.size_alloc]at hst;have HE2:=Lib.hid he2;have HE3:=Lib.hid he3;have HEL:=Lib.hid hel;have HIL:=Lib.hid hil;clear he1 he2 he3 hel hil hBLK
 go_enter Tryz.func75,Tryz.ntmps75
 go_upto_region 2 with(fail)
 go_cut [] (fun wx=>RS w (w.heap.size+1) e.name w BLK 1 (un e.name (-1) O1 8) wx)
 case first=>as_aux_lemma=>
  have hFS:=hst;have kk1:=hFS.cell b1
  go_wp2_with (first
   | (go_at_call 101;(with_reducible refine(US.out _ (RS.bel0 hFS)).mono ?_);rintro e w1 ⟨rfl,g1⟩;have hF1:=RS.bel hFS g1;have kk1:=hF1.cell b1;clear g1)
   | (go_at_call 70;(with_reducible refine(hF1.add (by omega) _ _ _).mono ?_);rintro e w9 ⟨rfl,h9⟩;have hend:=Lib.hid h9;clear h9))
  go_meet;exact hend.out.okc (by simp)
 case rest=>
  have hFS:=hcut;clear hcut hst
  go_upto_region 3 with(fail)
  go_cut [] (fun wx=>RS w (w.heap.size+1) e.name w BLK 2 (un e.name (-1) O1 8 ++ un e.name (-1) O2 3) wx)
  case first=>as_aux_lemma=>
   have kk1:=hFS.cell b1;have hc3:e.items.length<1 ∨ (1<=e.items.length/\e.items.length<=64) ∨ 64<e.items.length:=by omega
   rcases hc3 with hc|⟨hc,hc'⟩|hc
   all_goals
    have hci:(e.items.length:Int)<1 ∨ ¬((e.items.length:Int)<1):=by omega
    have hcj:(64:Int)<(e.items.length:Int) ∨ ¬((64:Int)<(e.items.length:Int)):=by omega
    have hb:(16:Int)<(e.res.length:Int) ∨ ¬((16:Int)<(e.res.length:Int)):=by omega
    rcases hci with hci|hci
    all_goals rcases hcj with hcj|hcj
    all_goals (first|(exfalso;omega)|skip)
    all_goals rcases hb with hb|hb
    all_goals
     go_wp2_with (go_at_call 70;(with_reducible refine(hFS.add (by omega) _ _ _).mono ?_);rintro e w9 ⟨rfl,h9⟩;have hend:=Lib.hid h9;clear h9)
     all_goals go_meet
     all_goals exact hend.out.okc (by rw [←HO2.out,Bool.eq_iff_iff];simp;omega)
  case rest=>
   have hFS:=hcut;clear hcut
   go_upto_region 4 with(fail)
   go_cut [] (fun wx=>RS w (w.heap.size+1) e.name w BLK 3 (un e.name (-1) O1 8 ++ un e.name (-1) O2 3 ++ un e.name (-1) O3 14) wx)
   case first=>as_aux_lemma=>
    have kk1:=hFS.cell b1;rcases HHD.out with⟨hz,hO⟩|⟨b,off,x,hq,hpos,hc1,hO⟩
    ·have hz2:(e.items.length:Int)=0:=by omega
     have hz3 : ¬((0:Int)<(e.items.length:Int)):=by omega
     have hz4 : ¬(0<e.items.length):=by omega
     have HO:=Lib.hid hO;clear hz hO
     go_wp2_with (go_at_call 70;(with_reducible refine(hFS.add (by omega) _ _ _).mono ?_);rintro e w9 ⟨rfl,h9⟩;have hend:=Lib.hid h9;clear h9)
     all_goals go_meet
     all_goals exact hend.out.okc (by rw [HO.out];rfl)
    ·subst hq
     have hp2:(0:Int)<(e.items.length:Int):=by omega
     have hx1:=hFS.bel0.some hc1;have HO:=Lib.hid hO;clear hc1 hO;by_cases hx:x=0
     ·have qx:(x != 0)=false:=by rw [hx];rfl
      have HO3:=Lib.hid (show O3=true by rw [←HO.out];exact decide_eq_true hx);clear hx HO
      go_wp2_with (go_at_call 70;(with_reducible refine(hFS.add (by omega) _ _ _).mono ?_);rintro e w9 ⟨rfl,h9⟩;have hend:=Lib.hid h9;clear h9)
      all_goals go_meet
      all_goals exact hend.out.okc (by rw [HO3.out];rfl)
     ·have qx:(x != 0)=true:=by rw [bne_iff_ne];exact hx
      have HO3:=Lib.hid (show O3=false by rw [←HO.out];exact decide_eq_false hx);clear hx HO
      go_wp2_with (go_at_call 70;(with_reducible refine(hFS.add (by omega) _ _ _).mono ?_);rintro e w9 ⟨rfl,h9⟩;have hend:=Lib.hid h9;clear h9)
      all_goals go_meet
      all_goals exact hend.out.okc (by rw [HO3.out];rfl)
   case rest=>
    have hFS:=hcut;clear hcut HHD;have kk1:=hFS.cell b1;go_wp2
    go_loopw [4] (fun i wr => ∃(k:Nat) (done:List PProb),k<=e.items.length/\i=.int .i64 k/\RS w (w.heap.size+1) e.name w BLK (3+6*k) ((un e.name (-1) O1 8 ++ un e.name (-1) O2 3 ++ un e.name (-1) O3 14) ++ done) wr/\Hid (done ++ qd5 e k (e.items.drop k)=TF)) (fun i _=>e.items.length-(intOf i).toNat)
    case atStart=>exact⟨0,[],by omega,rfl,by rw [List.append_nil];exact hFS,HTF⟩
    case round=>
     clear kk1 hFS;obtain⟨k,done,hk,rfl,hFS,hgo⟩:=hrel;by_cases hlt:k<e.items.length
     ·obtain⟨wo,hwo⟩ : ∃wo,wo=wr:=⟨_,rfl⟩
      subst hwo;have hki:(k:Int)<(e.items.length:Int):=by omega
      have hk0:(0:Int)<=(k:Int):=by omega
      have hg:=List.getElem?_eq_getElem hlt;obtain⟨b,off,hqq,hbs,cs,hce,hvs⟩:=HEL.out k _ hg;have hdr:e.items.drop k=e.items[k] :: e.items.drop (k+1):=List.drop_eq_getElem_cons hlt;have hgo2:=Lib.hid (show(done ++ itemP e k e.items[k]) ++ qd5 e (k+1) (e.items.drop (k+1))=TF by rw [←hgo.out,hdr,List.append_assoc];rfl);have hfk:=HIL.out _ (List.getElem_mem hlt)
      have hcell : ∀(j:Nat) (x:PItem),e.items[j]? = some x->w.cell? ⟨b,off+j*3,none⟩=some (.string (S x.name))/\w.cell? ⟨b,off+j*3+1,none⟩=some (.int .i64 x.num):=fun j x hx=>by
       obtain⟨b9,off9,hq9,_,cs9,hce9,hvs9⟩:=HEL.out j x hx;have hq2:=hqq.symm.trans hq9;cases hq2;obtain⟨_,hvv9,_⟩:=hvs9;subst hvv9;exact⟨by have:=hce9 0 _ rfl;rwa [Nat.add_zero]at this,hce9 1 _ rfl⟩
      have HPV:=Lib.hid (show k=0 ∨ ∃(j:Nat) (g:PItem),k=j+1/\e.items[k-1]? = some g/\w.cell? ⟨b,off+j*3+1,none⟩=some (.int .i64 g.num)by
       by_cases h0:k=0
       ·exact .inl h0
       ·have hgp:=List.getElem?_eq_getElem (show k-1<e.items.length by omega)
        exact .inr ⟨k-1,_,by omega,hgp,(hcell _ _ hgp).2⟩)
      have HNMS:=Lib.hid (fun j x hx=>(hcell j x hx).1);obtain⟨nv,hvv4,hnt⟩:=hvs;obtain⟨iq,ic,hnv,_⟩:=qa5 hnt;subst hvv4 hnv hqq;have c0:=hFS.bel0.some (hce 0 _ rfl);rw [Nat.add_zero]at c0;have c1:=hFS.bel0.some (hce 1 _ rfl);have c2:=hFS.bel0.some (hce 2 _ rfl);generalize hff:e.items[k]=it at *;have UP0:=fun W (k':Bel w W)=>qcd it.name W (by omega)
      have RSV0:=fun W (k':Bel w W)=>qgf (.slice eq2 e.res.length ec2) e.res it.num W (HE2.out.bel VSpan.stays k')
      have HNT:=Lib.hid hnt;generalize hFP:itemP e k it=FP at hgo2;have VI:itemP e k it=un e.name it.num (decide (0<=it.num/\it.num<=2147483647)) 6 ++ un e.name it.num (decide (k=0) || (match e.items[k-1]? with|some g=>decide (g.num<it.num)|none=>false)) 11 ++ un e.name it.num (qar it.name) 8 ++ un e.name it.num (!((e.items.take k).any fun x=>decide (x.name=it.name))) 9 ++ un e.name it.num (!qcs e.res it.num) 21 ++ noted e.name it.num it.notes 4:=rfl;rw [hFP]at VI;generalize hI1:decide (0<=it.num/\it.num<=2147483647)=I1 at VI;generalize hI2:(decide (k=0) || (match e.items[k-1]? with|some g=>decide (g.num<it.num)|none=>false))=I2 at VI;generalize qar it.name=I3 at VI UP0;generalize hTW:((e.items.take k).any fun x=>decide (x.name=it.name))=TW at VI;generalize qcs e.res it.num=RV at VI RSV0;have UP:=Lib.hid UP0;have RSV:=Lib.hid RSV0;have HIP:=Lib.hid VI;have HI1:=Lib.hid hI1;have HI2:=Lib.hid hI2;have HTW:=Lib.hid hTW;obtain⟨PD,hPD⟩ : ∃PD,PD=(un e.name (-1) O1 8 ++ un e.name (-1) O2 3 ++ un e.name (-1) O3 14) ++ done:=⟨_,rfl⟩;rw [←hPD]at hFS;have HPD:=Lib.hid hPD;have hadd:=hFS.addb #[.string (S it.name),.int .i64 it.num,.slice iq it.notes.length ic] 162 (by decide);have b3:(wo.heap.size,#[.string (S it.name),.int .i64 it.num,.slice iq it.notes.length ic],162) ∈ ((wo.heap.size,#[.string (S it.name),.int .i64 it.num,.slice iq it.notes.length ic],162) :: BLK):=List.mem_cons_self;have b1':=b1;have b1:(w.heap.size,#[.string (S e.name),.bool e.op,.slice (some ⟨b,off,none⟩) e.items.length ec1,.slice eq2 e.res.length ec2,.slice eq3 e.notes.length ec3],127) ∈ ((wo.heap.size,#[.string (S it.name),.int .i64 it.num,.slice iq it.notes.length ic],162) :: BLK):=List.mem_cons_of_mem _ b1';have kk1:=hFS.cell b1';clear hgo hdr hg hce hcell hnt hfk UP0 RSV0 VI hI1 hI2 hTW hPD hFP hbs
      go_upto_region 9 with(fail)
      clear kk1 c0 c1 c2;generalize hwF:World.alloc wo _=wF at *;have hFS1:RS w (w.heap.size+1) e.name w ((wo.heap.size,#[.string (S it.name),.int .i64 it.num,.slice iq it.notes.length ic],162) :: BLK) (3+6*k) PD wF:=hadd;clear hadd hwF hFS;have hFS:=hFS1;have kk1:=hFS.cell b1;have kk3:=hFS.cell b3;go_wp2
      go_loopw [6,7] (fun tw i wr => ∃(n2:Nat) (T2:Bool),n2<=k/\i=.int .i64 n2/\tw=.bool T2/\RS w (w.heap.size+1) e.name w ((wo.heap.size,#[.string (S it.name),.int .i64 it.num,.slice iq it.notes.length ic],162) :: BLK) (3+6*k) PD wr/\Hid (T2=((e.items.take n2).any fun x=>decide (x.name=it.name)))) (fun _ i _=>k-(intOf i).toNat)
      case atStart=>exact⟨0,false,by omega,rfl,rfl,hFS1,Lib.hid (by simp)⟩
      case round=>
       clear kk1 kk3 hFS hFS1;obtain⟨n2,T2,hn2,rfl,rfl,hFS,hT2⟩:=hrel;by_cases hlt2:n2<k
       ·have h2i:(n2:Int)<(k:Int):=by omega
        have h20:(0:Int)<=(n2:Int):=by omega
        have h2l:(n2:Int)<(e.items.length:Int):=by omega
        have hgn:=List.getElem?_eq_getElem (show n2<e.items.length by omega);have hcn:=HNMS.out n2 _ hgn;have HNX:=Lib.hid (show((e.items.take (n2+1)).any fun x=>decide (x.name=it.name))=(T2 || decide (e.items[n2].name=it.name))by rw [hT2.out];exact qhe _ _ _ _ hgn);clear hgn hT2;generalize e.items[n2]=x at *
        go_upto_region 13 with(fail)
        obtain⟨wd,hwd⟩ : ∃wd,wd=wr.drew:=⟨_,rfl⟩;have kd:Bel wr wd:=by rw [hwd];exact(Bel.refl _).drew
        have HWD:=Lib.hid hwd;have hFd:=hFS.bel kd;have kk1:=hFd.cell b1;have kk3:=hFd.cell b3;have xn:=hFd.bel0.some hcn;clear hwd hcn;by_cases hn:x.name=it.name
        ·have qn:((S x.name).toList == (S it.name).toList)=true:=by rw [eq_S];exact decide_eq_true hn
         have HN:=Lib.hid (show true=((e.items.take (n2+1)).any fun x=>decide (x.name=it.name))by rw [HNX.out,decide_eq_true hn,Bool.or_true]);clear hn HNX;refine qae 8 (by kernel_rfl) (by kernel_rfl) HWD.out ?_
         (simp only [List.take_succ_cons,List.take_zero,List.drop_succ_cons,List.drop_zero]);(repeat (first|((with_reducible refine wpStill_step (fun K hK=>?_));go_simp;(with_reducible refine hK _ ?_);clear hK K)|((with_reducible refine qaf ?_ ?_);(with_unfolding_all rfl))));(with_reducible refine wpStill_nil ?_)
         go_wp2;exact⟨⟨n2+1,true,by omega,by go_num,rfl,hFd,HN⟩,by simp [intOf];omega⟩
        ·have qn:((S x.name).toList == (S it.name).toList)=false:=by rw [eq_S];exact decide_eq_false hn
         have HN:=Lib.hid (show T2=((e.items.take (n2+1)).any fun x=>decide (x.name=it.name))by rw [HNX.out,decide_eq_false hn,Bool.or_false]);clear hn HNX;refine qae 8 (by kernel_rfl) (by kernel_rfl) HWD.out ?_
         (simp only [List.take_succ_cons,List.take_zero,List.drop_succ_cons,List.drop_zero]);(repeat (first|((with_reducible refine wpStill_step (fun K hK=>?_));go_simp;(with_reducible refine hK _ ?_);clear hK K)|((with_reducible refine qaf ?_ ?_);(with_unfolding_all rfl))));(with_reducible refine wpStill_nil ?_)
         go_wp2;exact⟨⟨n2+1,T2,by omega,by go_num,rfl,hFd,HN⟩,by simp [intOf];omega⟩
       ·have h2i : ¬((n2:Int)<(k:Int)):=by omega
        have hTT:TW=T2:=by rw [hT2.out,show n2=k by omega,HTW.out]
        subst hTT;have KSA:=Lib.hid (fun(W':World) (hc3 : ∀o,W'.cell? ⟨wo.heap.size,o,none⟩=(#[.string (S it.name),.int .i64 it.num,.slice iq it.notes.length ic]:Array Value)[o]?) (hc1 : ∀o,W'.cell? ⟨w.heap.size,o,none⟩=(#[.string (S e.name),.bool e.op,.slice (some ⟨b,off,none⟩) e.items.length ec1,.slice eq2 e.res.length ec2,.slice eq3 e.notes.length ec3]:Array Value)[o]?)=>(show W'.cell? ⟨w.heap.size,0,none⟩=some (.string (S e.name))/\W'.cell? ⟨w.heap.size,1,none⟩=some (.bool e.op)/\W'.cell? ⟨w.heap.size,2,none⟩=some (.slice (some ⟨b,off,none⟩) e.items.length ec1)/\W'.cell? ⟨w.heap.size,3,none⟩=some (.slice eq2 e.res.length ec2)/\W'.cell? ⟨w.heap.size,4,none⟩=some (.slice eq3 e.notes.length ec3)/\W'.cell? ⟨wo.heap.size,0,none⟩=some (.string (S it.name))/\W'.cell? ⟨wo.heap.size,1,none⟩=some (.int .i64 it.num)/\W'.cell? ⟨wo.heap.size,2,none⟩=some (.slice iq it.notes.length ic)from⟨hc1 0,hc1 1,hc1 2,hc1 3,hc1 4,hc3 0,hc3 1,hc3 2⟩));clear hT2;have kk1:=hFS.cell b1;have kk3:=hFS.cell b3
        go_upto_region 15 with(fail)
        go_cut [] (fun wx=>RS w (w.heap.size+1) e.name w ((wo.heap.size,#[.string (S it.name),.int .i64 it.num,.slice iq it.notes.length ic],162) :: BLK) ((3+6*k)+1) ((PD) ++ un e.name it.num I1 6) wx)
        case first=>as_aux_lemma=>
         have kk1:=hFS.cell b1;have kk3:=hFS.cell b3;by_cases ha:it.num<0
         all_goals by_cases hb:2147483647<it.num
         all_goals (first|(exfalso;omega)|skip)
         all_goals
          go_wp2_with (go_at_call 70;(with_reducible refine(hFS.add (by omega) _ _ _).mono ?_);rintro e w9 ⟨rfl,h9⟩;have hend:=Lib.hid h9;clear h9)
          all_goals go_meet
          all_goals exact hend.out.okc (by rw [←HI1.out,Bool.eq_iff_iff];simp;omega)
        case rest=>
         have hFS:=hcut;have HFS0:=Lib.hid hcut;clear hcut
         go_upto_region 16 with(fail)
         go_cut [] (fun wx=>RS w (w.heap.size+1) e.name w ((wo.heap.size,#[.string (S it.name),.int .i64 it.num,.slice iq it.notes.length ic],162) :: BLK) ((3+6*k)+2) (((PD) ++ un e.name it.num I1 6) ++ un e.name it.num I2 11) wx)
         case first=>as_aux_lemma=>
          obtain⟨wd,hwd⟩ : ∃wd,wd=wc.drew:=⟨_,rfl⟩;have kd:Bel wc wd:=by rw [hwd];exact(Bel.refl _).drew
          have HWD:=Lib.hid hwd;have hFd:=hFS.bel kd;have kk1:=hFd.cell b1;have kk3:=hFd.cell b3;clear hwd;rcases HPV.out with h0|⟨j,g,hkj,hg1,hg2⟩
          ·have hO:=Lib.hid (show true=I2 by rw [←HI2.out,decide_eq_true h0,Bool.true_or])
           have hk0n : ¬(0<k):=by omega
           clear h0;refine qae 16 (by kernel_rfl) (by kernel_rfl) HWD.out ?_
           (simp only [List.take_succ_cons,List.take_zero,List.drop_succ_cons,List.drop_zero]);(repeat (first|((with_reducible refine wpStill_step (fun K hK=>?_));go_simp;(with_reducible refine hK _ ?_);clear hK K)|((with_reducible refine qaf ?_ ?_);(with_unfolding_all rfl))));(with_reducible refine wpStill_nil ?_)
           go_wp2_with (go_at_call 70;(with_reducible refine(hFd.add (by omega) _ _ _).mono ?_);rintro e w9 ⟨rfl,h9⟩;have hend:=Lib.hid h9;clear h9)
           go_meet;exact hend.out.okc hO.out
          ·have hk00n:0<k:=by omega
           have hO:=Lib.hid (show decide (g.num<it.num)=I2 by rw [←HI2.out,hg1,decide_eq_false (show ¬ k=0 by omega),Bool.false_or]);have d1:=hFd.bel0.some hg2;have hk00:(0:Int)<(k:Int):=by omega
           have jw3:(k:Int)-1=(j:Int):=by omega
           have jw2:IntKind.i64.wrap (j:Int)=(j:Int):=wrap_small _ (by omega) (by omega);have jw:IntKind.i64.wrap ((k:Int)-1)=(j:Int):=by rw [jw3];exact jw2
           have j1:(j:Int)<(e.items.length:Int):=by omega
           have j0:(0:Int)<=(j:Int):=by omega
           clear hkj hg1 hg2;by_cases hgg:it.num<=g.num
           all_goals
            refine qae 16 (by kernel_rfl) (by kernel_rfl) HWD.out ?_
            (simp only [List.take_succ_cons,List.take_zero,List.drop_succ_cons,List.drop_zero]);(repeat (first|((with_reducible refine wpStill_step (fun K hK=>?_));go_simp;(with_reducible refine hK _ ?_);clear hK K)|((with_reducible refine qaf ?_ ?_);(with_unfolding_all rfl))));(with_reducible refine wpStill_nil ?_)
            go_wp2_with (go_at_call 70;(with_reducible refine(hFd.add (by omega) _ _ _).mono ?_);rintro e w9 ⟨rfl,h9⟩;have hend:=Lib.hid h9;clear h9)
            go_meet;exact hend.out.okc (by rw [←hO.out,Bool.eq_iff_iff];simp;try omega)
         case rest=>
          have hFS:=hcut;have HFS0:=Lib.hid hcut;clear hcut
          go_upto_region 17 with(fail)
          go_cut [] (fun wx=>RS w (w.heap.size+1) e.name w ((wo.heap.size,#[.string (S it.name),.int .i64 it.num,.slice iq it.notes.length ic],162) :: BLK) ((3+6*k)+3) ((((PD) ++ un e.name it.num I1 6) ++ un e.name it.num I2 11) ++ un e.name it.num I3 8) wx)
          case first=>as_aux_lemma=>
           obtain⟨wd,hwd⟩ : ∃wd,wd=wc.drew:=⟨_,rfl⟩;have kd:Bel wc wd:=by rw [hwd];exact(Bel.refl _).drew
           have HWD:=Lib.hid hwd;clear hwd;have KS:=Lib.hid (fun W' (kq:Bel wc W')=>KSA.out W' ((HFS0.out.bel kq).cell b3) ((HFS0.out.bel kq).cell b1));refine qac (fun W=>Bel wc W) (.take 0 (.take 1 (.take 4 (.take 5 (.alt 2 (.take 3 .done) .no))))) 6 (by kernel_rfl) (by kernel_rfl) HWD.out kd (fun a ha=>?_)
           (simp only [pickT,List.getD_cons_zero,List.getD_cons_succ])
           have hsz:a.tmps.size=132:=(by rw [ha];kernel_rfl);have a1:a.eval (.tmp 1)=.pointer (some ⟨w.heap.size,0,none⟩):=(by rw [ha];kernel_rfl);have a3:a.eval (.tmp 3)=.pointer (some ⟨w.heap.size+1,0,none⟩):=(by rw [ha];kernel_rfl);have a4:a.eval (.tmp 4)=.int .i64 k:=(by rw [ha];kernel_rfl);have a5:a.eval (.tmp 5)=.pointer (some ⟨wo.heap.size,0,none⟩):=(by rw [ha];kernel_rfl)
           (with_reducible refine qa1 (v:=?_) rfl (by with_unfolding_all rfl) (fun ρ hρ W hW=>?_) ?_);(rotate_left 1)
           focus(clear hW;have p5:=hρ (.tmp 5);(simp +decide only [qa2,hsz,ev_eq,ev_ne,a1,a3,a4,a5]at p5);obtain⟨hc,hfn⟩:=rC119 hρ;clear hρ;go_simp;(all_goals with_reducible first|rfl|(constructor <;> rfl)))
           (with_reducible refine qa1 (v:=?_) rfl (by with_unfolding_all rfl) (fun ρ hρ W hW=>?_) ?_);(rotate_left 1)
           focus(have hS:=KS.out _ hW;clear hW;have p100:=hρ (.tmp 100);(simp +decide only [qa2,hsz,ev_eq,ev_ne,a1,a3,a4,a5]at p100);obtain⟨hc,hfn⟩:=rC119 hρ;clear hρ;go_simp;(all_goals with_reducible first|rfl|(constructor <;> rfl)))
           (with_reducible refine qa1 (v:=?_) rfl (by with_unfolding_all rfl) (fun ρ hρ W hW=>?_) ?_);(rotate_left 1)
           focus(clear hW;have p5:=hρ (.tmp 5);(simp +decide only [qa2,hsz,ev_eq,ev_ne,a1,a3,a4,a5]at p5);obtain⟨hc,hfn⟩:=rC119 hρ;clear hρ;go_simp;(all_goals with_reducible first|rfl|(constructor <;> rfl)))
           (with_reducible refine qa1 (v:=?_) rfl (by with_unfolding_all rfl) (fun ρ hρ W hW=>?_) ?_);(rotate_left 1)
           focus(have hS:=KS.out _ hW;clear hW;have p104:=hρ (.tmp 104);(simp +decide only [qa2,hsz,ev_eq,ev_ne,a1,a3,a4,a5]at p104);obtain⟨hc,hfn⟩:=rC119 hρ;clear hρ;go_simp;(all_goals with_reducible first|rfl|(constructor <;> rfl)))
           (with_reducible refine qam (f:=?_) (args:=?_) rfl (by with_unfolding_all rfl) (fun ρ hρ=>?_) ?_ ?_);(rotate_left 2)
           focus(have p101:=hρ (.tmp 101);(simp +decide only [qa2,hsz,ev_eq,ev_ne,a1,a3,a4,a5]at p101);obtain⟨hc,hfn⟩:=rC119 hρ;clear hρ;rw [qa9 (hfn _)];clear hfn;go_simp;(all_goals with_reducible first|rfl|(constructor <;> rfl)))
           with_reducible refine(UP.out _ (HFS0.out.bel kd).bel0).mono ?_
           rintro e0 w5 ⟨rfl,g5⟩;have k5:Bel wc w5:=Bel.of kd g5;clear g5;refine⟨_,rfl,k5,?_⟩;rotate_left 1
           focus exact qap
           (with_reducible refine qa1 (v:=?_) rfl (by with_unfolding_all rfl) (fun ρ hρ W hW=>?_) ?_);(rotate_left 1)
           focus(clear hW;have p102:=hρ (.tmp 102);(simp +decide only [qa2,hsz,ev_eq,ev_ne,a1,a3,a4,a5]at p102);obtain⟨hc,hfn⟩:=rC119 hρ;clear hρ;go_simp;(all_goals with_reducible first|rfl|(constructor <;> rfl)))
           refine qao ?_
           (simp only [List.drop_succ_cons,List.drop_zero])
           subst ha
           (simp only [qav,set_s,set_z])
           have hF5:=HFS0.out.bel k5
           go_wp2_with (go_at_call 70;(with_reducible refine(hF5.add (by omega) _ _ _).mono ?_);rintro e w9 ⟨rfl,h9⟩;have hend:=Lib.hid h9;clear h9)
           go_meet;exact hend.out.okc (by simp)
          case rest=>
           have hFS:=hcut;have HFS0:=Lib.hid hcut;clear hcut
           go_upto_region 18 with(fail)
           go_cut [] (fun wx=>RS w (w.heap.size+1) e.name w ((wo.heap.size,#[.string (S it.name),.int .i64 it.num,.slice iq it.notes.length ic],162) :: BLK) ((3+6*k)+4) (((((PD) ++ un e.name it.num I1 6) ++ un e.name it.num I2 11) ++ un e.name it.num I3 8) ++ un e.name it.num (!TW) 9) wx)
           case first=>as_aux_lemma=>
            have kk1:=hFS.cell b1;have kk3:=hFS.cell b3
            go_wp2_with (go_at_call 70;(with_reducible refine(hFS.add (by omega) _ _ _).mono ?_);rintro e w9 ⟨rfl,h9⟩;have hend:=Lib.hid h9;clear h9)
            all_goals go_meet
            all_goals exact hend.out
           case rest=>
            have hFS:=hcut;have HFS0:=Lib.hid hcut;clear hcut
            go_upto_region 19 with(fail)
            go_cut [] (fun wx=>RS w (w.heap.size+1) e.name w ((wo.heap.size,#[.string (S it.name),.int .i64 it.num,.slice iq it.notes.length ic],162) :: BLK) ((3+6*k)+5) ((((((PD) ++ un e.name it.num I1 6) ++ un e.name it.num I2 11) ++ un e.name it.num I3 8) ++ un e.name it.num (!TW) 9) ++ un e.name it.num (!RV) 21) wx)
            case first=>as_aux_lemma=>
             obtain⟨wd,hwd⟩ : ∃wd,wd=wc.drew:=⟨_,rfl⟩;have kd:Bel wc wd:=by rw [hwd];exact(Bel.refl _).drew
             have HWD:=Lib.hid hwd;clear hwd;have KS:=Lib.hid (fun W' (kq:Bel wc W')=>KSA.out W' ((HFS0.out.bel kq).cell b3) ((HFS0.out.bel kq).cell b1));refine qac (fun W=>Bel wc W) (.take 0 (.take 1 (.take 2 (.take 3 (.take 5 (.take 6 (.alt 4 .done .no))))))) 7 (by kernel_rfl) (by kernel_rfl) HWD.out kd (fun a ha=>?_)
             (simp only [pickT,List.getD_cons_zero,List.getD_cons_succ])
             have hsz:a.tmps.size=132:=(by rw [ha];kernel_rfl);have a1:a.eval (.tmp 1)=.pointer (some ⟨w.heap.size,0,none⟩):=(by rw [ha];kernel_rfl);have a3:a.eval (.tmp 3)=.pointer (some ⟨w.heap.size+1,0,none⟩):=(by rw [ha];kernel_rfl);have a4:a.eval (.tmp 4)=.int .i64 k:=(by rw [ha];kernel_rfl);have a5:a.eval (.tmp 5)=.pointer (some ⟨wo.heap.size,0,none⟩):=(by rw [ha];kernel_rfl)
             (with_reducible refine qa1 (v:=?_) rfl (by with_unfolding_all rfl) (fun ρ hρ W hW=>?_) ?_);(rotate_left 1)
             focus(clear hW;have p1:=hρ (.tmp 1);(simp +decide only [qa2,hsz,ev_eq,ev_ne,a1,a3,a4,a5]at p1);obtain⟨hc,hfn⟩:=rC119 hρ;clear hρ;go_simp;(all_goals with_reducible first|rfl|(constructor <;> rfl)))
             (with_reducible refine qa1 (v:=?_) rfl (by with_unfolding_all rfl) (fun ρ hρ W hW=>?_) ?_);(rotate_left 1)
             focus(have hS:=KS.out _ hW;clear hW;have p111:=hρ (.tmp 111);(simp +decide only [qa2,hsz,ev_eq,ev_ne,a1,a3,a4,a5]at p111);obtain⟨hc,hfn⟩:=rC119 hρ;clear hρ;go_simp;(all_goals with_reducible first|rfl|(constructor <;> rfl)))
             (with_reducible refine qa1 (v:=?_) rfl (by with_unfolding_all rfl) (fun ρ hρ W hW=>?_) ?_);(rotate_left 1)
             focus(clear hW;have p5:=hρ (.tmp 5);(simp +decide only [qa2,hsz,ev_eq,ev_ne,a1,a3,a4,a5]at p5);obtain⟨hc,hfn⟩:=rC119 hρ;clear hρ;go_simp;(all_goals with_reducible first|rfl|(constructor <;> rfl)))
             (with_reducible refine qa1 (v:=?_) rfl (by with_unfolding_all rfl) (fun ρ hρ W hW=>?_) ?_);(rotate_left 1)
             focus(have hS:=KS.out _ hW;clear hW;have p113:=hρ (.tmp 113);(simp +decide only [qa2,hsz,ev_eq,ev_ne,a1,a3,a4,a5]at p113);obtain⟨hc,hfn⟩:=rC119 hρ;clear hρ;go_simp;(all_goals with_reducible first|rfl|(constructor <;> rfl)))
             (with_reducible refine qa1 (v:=?_) rfl (by with_unfolding_all rfl) (fun ρ hρ W hW=>?_) ?_);(rotate_left 1)
             focus(clear hW;have p5:=hρ (.tmp 5);(simp +decide only [qa2,hsz,ev_eq,ev_ne,a1,a3,a4,a5]at p5);obtain⟨hc,hfn⟩:=rC119 hρ;clear hρ;go_simp;(all_goals with_reducible first|rfl|(constructor <;> rfl)))
             (with_reducible refine qa1 (v:=?_) rfl (by with_unfolding_all rfl) (fun ρ hρ W hW=>?_) ?_);(rotate_left 1)
             focus(have hS:=KS.out _ hW;clear hW;have p116:=hρ (.tmp 116);(simp +decide only [qa2,hsz,ev_eq,ev_ne,a1,a3,a4,a5]at p116);obtain⟨hc,hfn⟩:=rC119 hρ;clear hρ;go_simp;(all_goals with_reducible first|rfl|(constructor <;> rfl)))
             (with_reducible refine qam (f:=?_) (args:=?_) rfl (by with_unfolding_all rfl) (fun ρ hρ=>?_) ?_ ?_);(rotate_left 2)
             focus(have p112:=hρ (.tmp 112);have p114:=hρ (.tmp 114);(simp +decide only [qa2,hsz,ev_eq,ev_ne,a1,a3,a4,a5]at p112 p114);obtain⟨hc,hfn⟩:=rC119 hρ;clear hρ;rw [qa9 (hfn _)];clear hfn;go_simp;(all_goals with_reducible first|rfl|(constructor <;> rfl)))
             with_reducible refine(RSV.out _ (HFS0.out.bel kd).bel0).mono ?_
             rintro e0 w5 ⟨rfl,g5⟩;have k5:Bel wc w5:=Bel.of kd g5;clear g5;refine⟨_,rfl,k5,?_⟩;rotate_left 1
             focus exact qap
             refine qao ?_
             (simp only [List.drop_succ_cons,List.drop_zero])
             subst ha
             (simp only [qav,set_s,set_z])
             have hF5:=HFS0.out.bel k5
             go_wp2_with (go_at_call 70;(with_reducible refine(hF5.add (by omega) _ _ _).mono ?_);rintro e w9 ⟨rfl,h9⟩;have hend:=Lib.hid h9;clear h9)
             go_meet;exact hend.out.okc (by simp)
            case rest=>
             have hFS:=hcut;clear hcut;have kk1:=hFS.cell b1;have kk3:=hFS.cell b3
             go_wp2_with (go_at_call 108;(with_reducible refine(hFS.notes (by omega) _ _ _ _ HNT.out).mono ?_);rintro e0 w9 ⟨rfl,h9⟩;have hend:=Lib.hid h9;clear h9)
             refine⟨⟨k+1,done ++ FP,by omega,by go_num,?_,hgo2⟩,by simp [intOf];omega⟩;have h10:=hend.out.dropb.moreN (N2:=3+6*(k+1)) (by omega);rw [HIP.out];rw [HPD.out]at h10
             simpa only [List.append_assoc]using h10
     ·have hkl:k=e.items.length:=by omega
      have hdn:done=TF:=by
       have h:=hgo.out;rw [hkl,List.drop_length]at h
       simpa [qd5]using h
      subst hdn;subst hkl;clear hgo;have kk1:=hFS.cell b1;have CS:=Lib.hid (qmo w (w.heap.size+1) e.name ((un e.name (-1) O1 8 ++ un e.name (-1) O2 3 ++ un e.name (-1) O3 14) ++ done) wr _ e.res 0 2147483647 (3+6*e.items.length) ⟨hFS.1,hFS.2.1,Lib.OthersKept.refl _ _ _,hFS.2.2.2.1,fun b hb=>by cases hb⟩ (by omega) (by omega) HE2.out);have hsl:(spans e.name e.res 0 2147483647).length<=2*e.res.length:=qdv _ _ _ _ _;have hps:=hFS.2.2.2.1;generalize spans e.name e.res 0 2147483647=TSP at CS hsl HV
      go_upto_region 21 with(fail)
      go_cut [] (fun wx=>RS w (w.heap.size+1) e.name w BLK (3+6*e.items.length+2*e.res.length) ((un e.name (-1) O1 8 ++ un e.name (-1) O2 3 ++ un e.name (-1) O3 14) ++ done ++ TSP) wx)
      case first=>
       go_wp2_with (go_at_call 109;(with_reducible refine CS.out.mono ?_);rintro e0 w9 h9;have he:=h9.1;(subst he);have hend:=Lib.hid h9;clear h9)
       go_meet;exact hFS.post hend.out (by rw [List.length_append];omega)
      case rest=>
       clear hFS kk1 CS;have hFS:=hcut;clear hcut;have kk1:=hFS.cell b1
       go_upto_region 23 with(go_at_call 108;(with_reducible refine(hFS.notes (by omega) _ _ _ _ HE3.out).mono ?_);rintro e0 w9 ⟨rfl,h9⟩;have hend:=Lib.hid h9;clear h9)
       have hfin:=hend.out;obtain⟨v,z1,z2⟩:=hfin.out;have hbz:=hfin.bel0;have Z2:=Lib.hid z2;clear hFS kk1 hend hfin z2;go_wp2;go_ret;refine⟨v,rfl,?_,hbz.out⟩;rw [HV.out];exact Z2.out
end
end Go.Proofs.YtaaneecceiefoaaGreatDoor
