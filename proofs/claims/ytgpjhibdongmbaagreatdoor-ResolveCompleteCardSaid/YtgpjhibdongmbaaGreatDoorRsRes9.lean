import Derived.Test.YtgpjhibdongmbaaGreatDoorRsRes6
import Derived.Test.YtgpjhibdongmbaaGreatDoorRsThm
set_option maxRecDepth 100000
set_option maxHeartbeats 4000000
set_option linter.unusedVariables false
set_option linter.unusedSimpArgs false
namespace Go.Proofs.YtgpjhibdongmbaaGreatDoor
open Go.RowKit Ck Rs
def qel:List (PAdapt × Value × Value)->List Row
 | [] => []
 | m :: M=>⟨38,3,m.2.1,m.1.acts.length,actCs m.1.acts⟩ :: ⟨3,1,m.2.2,m.1.lacks.length,intCs m.1.lacks⟩ :: qel M
theorem qfh : ∀(M:List (PAdapt × Value × Value)) (m:PAdapt × Value × Value),m ∈ M->(⟨38,3,m.2.1,m.1.acts.length,actCs m.1.acts⟩:Row) ∈ qel M/\(⟨3,1,m.2.2,m.1.lacks.length,intCs m.1.lacks⟩:Row) ∈ qel M
 | [],m,h=>by cases h
 | x :: M,m,h=>by
  unfold qel;rcases List.mem_cons.1 h with rfl|h
  ·exact⟨List.mem_cons_self ..,List.mem_cons_of_mem _ (List.mem_cons_self ..)⟩
  ·have:=qfh M m h
   exact⟨List.mem_cons_of_mem _ (List.mem_cons_of_mem _ this.1),List.mem_cons_of_mem _ (List.mem_cons_of_mem _ this.2)⟩
theorem qks (l:List Int):intCs l=l.flatMap (fun n => [Value.int .i64 n]):=by
 unfold intCs
 induction l with
 | nil=>rfl
 | cons a l ih=>rw [List.map_cons,ih,List.flatMap_cons];rfl
theorem qig {w0 w:World} {vo:Value} {P:List (Int × Int)} {M:List (PAdapt × Value × Value)} {X:List Box} (T:ST w0 (⟨44,4,vo,P.length,outR P (M.reverse.map (·.2))⟩ :: qel M) X w) (hlen:M.length=P.length) (hl:P.length<=140737488355328) (hPD : ∀(j:Nat) m,M.reverse[j]? = some m->P[j]? = some (m.1.w,m.1.r)) (hb : ∀m ∈ M,m.1.acts.length<=140737488355328/\m.1.lacks.length<=140737488355328):Sv 4 VAdapt w vo (M.reverse.map (·.1)):=by
 have h:w.ownsRow w0.heap.size 44 4 vo P.length (outR P (M.reverse.map (·.2))):=T.row 0 rfl;have hDl:(M.reverse.map (·.1)).length=P.length:=by rw [List.length_map,List.length_reverse,hlen]
 rcases h.2 with⟨rfl,h0⟩|⟨g,cap,cur,rfl,h1,h2,h3,h4,h5,h6⟩
 ·have:M=[]:=List.length_eq_zero_iff.1 (by omega)
  subst this;exact Sl.nil _ _ _ _ _
 ·refine⟨_,cap,by rw [hDl],by omega,by omega,fun i d hd=>⟨g,0,rfl,(Array.getElem?_eq_some_iff.1 h2).1,?_⟩⟩
  rw [List.getElem?_map]at hd;obtain⟨m,hm,rfl⟩:=Option.map_eq_some_iff.1 hd;have hp:=hPD i m hm;have hmm:m ∈ M:=List.mem_reverse.1 (List.mem_of_getElem? hm);obtain⟨r1,r2⟩:=qfh M m hmm;have o1:=T.rows _ (List.mem_cons_of_mem _ r1);have o2:=T.rows _ (List.mem_cons_of_mem _ r2);obtain⟨b1,b2⟩:=hb m hmm;obtain⟨a0,a1,a2,a3⟩:=qcm P (M.reverse.map (·.2)) i _ hp
  have hla:lAt (M.reverse.map (·.2)) i=m.2:=by
   unfold lAt;rw [List.getD_eq_getElem?_getD,List.getElem?_map,hm];rfl
  rw [hla]at a2 a3;have hc:=h.cells (g:=g) rfl;refine⟨[.int .i64 m.1.w,.int .i64 m.1.r,m.2.1,m.2.2],fun j u hu=>?_,m.2.1,m.2.2,rfl,?_,?_⟩
  ·have hj:j<4:=by
    have:=(List.getElem?_eq_some_iff.1 hu).1
    simpa using this
   have:j=0 ∨ j=1 ∨ j=2 ∨ j=3:=by omega
   rcases this with rfl|rfl|rfl|rfl
   ·have e:Value.int .i64 m.1.w=u:=by simpa using hu
    have:=hc _ _ a0;rw [Addr.add_lit,e]at this
    simpa using this
   ·have e:Value.int .i64 m.1.r=u:=by simpa using hu
    have:=hc _ _ a1;rw [Addr.add_lit,e]at this
    simpa using this
   ·have e:m.2.1=u:=by simpa using hu
    have:=hc _ _ a2;rw [Addr.add_lit,e]at this
    simpa using this
   ·have e:m.2.2=u:=by simpa using hu
    have:=hc _ _ a3;rw [Addr.add_lit,e]at this
    simpa using this
  ·exact qgz actC (fun _=>rfl) o1 b1 (fun x _=>rfl)
  ·have o2':w.ownsRow w0.heap.size 3 1 m.2.2 m.1.lacks.length (intCs m.1.lacks):=o2
   rw [qks]at o2';exact qgz (fun n => [Value.int .i64 n]) (fun _=>rfl) o2' b2 (fun x _=>rfl)
def qfc (w:World) (D:List PAdapt) (e:Ending) (w':World):Prop := ∃v,e=.returned v/\Sv 4 VAdapt w' v D/\Bel w w'
structure Few2 (w r:PPlan):Prop where
 pr:w.progs.length*r.progs.length<=1000000
 wo : ∀g ∈ w.progs,g.ops.length<=1000000
 ro : ∀g ∈ r.progs,g.ops.length<=1000000
theorem rs_from (w r:PPlan) (p1 p2 p3 p4:Option Addr) (c1 c2 c3 c4:Nat) (a b:Int) (W:World) (hG:Pl w r p1 p2 p3 p4 c1 c2 c3 c4 W) (hT:Tab W) (hw:Aimed w) (hr:Aimed r) (ha:0<=a/\a<w.progs.length) (hb:0<=b/\b<r.progs.length) (hf:Few2 w r) :
  Calls Tryz.prog 32 #[.agg #[.slice p1 w.progs.length c1,.slice p2 w.enums.length c2],.agg #[.slice p3 r.progs.length c3,.slice p4 r.enums.length c4],.int .i64 a,.int .i64 b] W (qfc W (fromR w r a b)):=by
 have hS0:=((((ST.start W).addbox #[.slice p1 w.progs.length c1,.slice p2 w.enums.length c2] 25).addbox #[.slice p3 r.progs.length c3,.slice p4 r.enums.length c4] 25).addbox #[.slice p1 w.progs.length c1,.slice p2 w.enums.length c2,.slice p3 r.progs.length c3,.slice p4 r.enums.length c4,.slice none 0 0] 100).nilrow 44 4;simp only [World.size_alloc]at hS0;have HS:=Lib.hid hS0;obtain⟨G,hGd⟩ : ∃G,G=fromR w r a b:=⟨_,rfl⟩;have V:=Lib.hid (show([]:List PAdapt) ++ runR w r (most w r-0) 0 [(a,b)]=G from hGd.symm);rw [←hGd];have CP:=Lib.hid (fun WW (T:ST W (⟨44,4,.slice none 0 0,0,[]⟩ :: []) (⟨W.heap.size+1+1,#[.slice p1 w.progs.length c1,.slice p2 w.enums.length c2,.slice p3 r.progs.length c3,.slice p4 r.enums.length c4,.slice none 0 0],100⟩ :: [⟨W.heap.size+1,#[.slice p3 r.progs.length c3,.slice p4 r.enums.length c4],25⟩,⟨W.heap.size,#[.slice p1 w.progs.length c1,.slice p2 w.enums.length c2],25⟩]) WW)=>qji W (W.heap.size+1+1) (.slice p1 w.progs.length c1) (.slice p2 w.enums.length c2) (.slice p3 r.progs.length c3) (.slice p4 r.enums.length c4) [] [] [] [⟨W.heap.size+1,#[.slice p3 r.progs.length c3,.slice p4 r.enums.length c4],25⟩,⟨W.heap.size,#[.slice p1 w.progs.length c1,.slice p2 w.enums.length c2],25⟩] a b WW ⟨_,T⟩ (fun l h=>by cases h) (Nat.le_refl _) (by decide));unfold qdz at CP;have hP1:=qgf ha hb;clear hS0 hGd
 go_enter Tryz.func32,Tryz.ntmps32
 go_upto_region 3 with(go_at_call 58;(with_reducible refine(CP.out _ HS.out).mono ?_);rintro e' w1 ⟨rfl,h1⟩;have H1:=Lib.hid (show SX W (W.heap.size+1+1) (.slice p1 w.progs.length c1) (.slice p2 w.enums.length c2) (.slice p3 r.progs.length c3) (.slice p4 r.enums.length c4) [(a,b)] [] [] [⟨W.heap.size+1,#[.slice p3 r.progs.length c3,.slice p4 r.enums.length c4],25⟩,⟨W.heap.size,#[.slice p1 w.progs.length c1,.slice p2 w.enums.length c2],25⟩] w1 from h1);clear h1)
 clear HS CP;go_wp2
 go_loopw [10] (fun i wr => ∃(P:List (Int × Int)) (M:List (PAdapt × Value × Value)),i=.int .i64 (M.length:Int)/\M.length<=P.length/\Hid (SX W (W.heap.size+1+1) (.slice p1 w.progs.length c1) (.slice p2 w.enums.length c2) (.slice p3 r.progs.length c3) (.slice p4 r.enums.length c4) P (M.reverse.map (·.2)) (qel M) [⟨W.heap.size+1,#[.slice p3 r.progs.length c3,.slice p4 r.enums.length c4],25⟩,⟨W.heap.size,#[.slice p1 w.progs.length c1,.slice p2 w.enums.length c2],25⟩] wr)/\Hid (M.reverse.map (·.1) ++ runR w r (most w r-M.length) M.length P=G)/\Hid (qao w r P/\AllSl (M.reverse.map (·.2))/\(∀(j:Nat) m,M.reverse[j]? = some m->P[j]? = some (m.1.w,m.1.r))/\∀m ∈ M,m.1.acts.length<=140737488355328/\m.1.lacks.length<=140737488355328)) (fun i _=>most w r-(intOf i).toNat)
 case atStart=>exact⟨[(a,b)],[],rfl,by simp,H1,V,Lib.hid ⟨hP1,(fun l h=>by cases h),(fun j m h=>by simp at h),fun m h=>by cases h⟩⟩
 case round=>as_aux_lemma=>
  clear H1 V;obtain⟨P,M,rfl,hMP,hSX,hx,hI⟩:=hrel;obtain⟨vo,hSo⟩:=hSX.out;obtain⟨oq,oc,hvo⟩:=qar (show wr.ownsRow W.heap.size 44 4 vo P.length (outR P (M.reverse.map (·.2)))from hSo.row 0 rfl);subst hvo;have x4:=hSo.cell 0 rfl 4;dsimp only at x4;have hpl:=qbw hI.out.1;have hpm:P.length<=1000000:=Nat.le_trans hpl hf.pr;have hmost:most w r=w.progs.length*r.progs.length+1:=rfl;by_cases hlt:M.length<P.length
  ·have hi:(M.length:Int)<(P.length:Int):=by omega
   obtain⟨x,hxP⟩ : ∃x,P[M.length]? = some x:=⟨_,List.getElem?_eq_getElem hlt⟩;obtain⟨a',b'⟩:=x;obtain⟨r1,r2⟩:=hI.out.1.2 _ (List.mem_of_getElem? hxP);obtain⟨g,hg,hgm⟩:=qct r1.1 r1.2;obtain⟨h,hh,hhm⟩:=qct r2.1 r2.2;dsimp only at hg hh;have hLl:(M.reverse.map (·.2)).length=M.length:=by rw [List.length_map,List.length_reverse]
   have CV:=rs_visit W (W.heap.size+1+1) w r p1 p2 p3 p4 c1 c2 c3 c4 P (M.reverse.map (·.2)) (qel M) [⟨W.heap.size+1,#[.slice p3 r.progs.length c3,.slice p4 r.enums.length c4],25⟩,⟨W.heap.size,#[.slice p1 w.progs.length c1,.slice p2 w.enums.length c2],25⟩] g h a' b' wr hSX.out hI.out.2.1 (by rw [hLl];exact hxP) hg hh hG hT hw hr hI.out.1 ⟨hf.pr,hf.wo g hgm,hf.ro h hhm⟩;rw [hLl]at CV;unfold VisPost at CV;have hst:=hx.out;rw [show most w r-M.length=(most w r-(M.length+1))+1 by omega]at hst;unfold runR at hst;rw [hxP]at hst;dsimp only at hst;rw [hg,hh]at hst;dsimp only at hst;obtain⟨q1,q2⟩:=qcr hw hr hgm hhm g.ops [] P (fun _ h=>h) hI.out.1;have q3:=(qdc hw hr hgm hhm g.ops [] P (fun _ h=>h) hI.out.1 (List.prefix_refl _)).1;have q4:(qcf g h).length<=h.ops.length:=by unfold qcf;rw [List.length_map];exact List.length_filter_le ..
   have q5:=q2.length_le;generalize qb8 w r h g.ops [] P=AG at *;obtain⟨A,P2⟩:=AG;generalize qcf g h=lk at *;dsimp only at q1 q2 q3 q5 CV hst;have HI:=Lib.hid (show qao w r P2/\(∀(j:Nat) m,M.reverse[j]? = some m->P2[j]? = some (m.1.w,m.1.r))/\P2[M.length]? = some (a',b')/\M.length+1<=P2.length/\A.length<=140737488355328/\lk.length<=140737488355328 from⟨q1,fun j m hj=>qbm q2 (hI.out.2.2.1 j m hj),qbm q2 hxP,by omega,by have:=hf.wo g hgm;simp at q3;omega,by have:=hf.ro h hhm;omega⟩);have HST:=Lib.hid hst;have C:=Lib.hid CV;clear hx hst CV hSX hSo q1 q2 q3 q4 q5 hg hh hgm hhm r1 r2 hxP hLl
   go_wp2_with (go_at_call 59;(with_reducible refine C.out.mono ?_);rintro e' w2 ⟨rfl,av,lv,ha1,hl1,h2⟩;have H2:=Lib.hid h2;clear h2)
   go_roundw
   case rel=>
    refine⟨P2,(⟨a',b',A,lk⟩,av,lv) :: M,by simp only [List.length_cons];go_num,by simp only [List.length_cons];exact HI.out.2.2.2.1,Lib.hid (by rw [List.reverse_cons,List.map_append];exact H2.out),Lib.hid (by rw [List.reverse_cons,List.map_append,List.append_assoc,List.length_cons];exact HST.out),Lib.hid ⟨HI.out.1,?_,?_,?_⟩⟩
    ·rw [List.reverse_cons,List.map_append]
     intro l hl;rcases List.mem_append.1 hl with hl|hl
     ·exact hI.out.2.1 l hl
     ·have:l=(av,lv):=by simpa using hl
      subst this;exact⟨ha1,hl1⟩
    ·intro j m hj
     rw [List.reverse_cons]at hj;by_cases hjm:j<M.length
     ·rw [List.getElem?_append_left (by rw [List.length_reverse];exact hjm)]at hj
      exact HI.out.2.1 j m hj
     ·have hjl:=(List.getElem?_eq_some_iff.1 hj).1
      have hje:j=M.length:=by simp at hjl;omega
      subst hje;rw [List.getElem?_append_right (by simp)]at hj;simp at hj;subst hj;exact HI.out.2.2.1
    ·intro m hm
     rcases List.mem_cons.1 hm with rfl|hm
     ·exact HI.out.2.2.2.2
     ·exact hI.out.2.2.2 m hm
   case measure=>simp [intOf];omega
  ·have hi : ¬(M.length:Int)<(P.length:Int):=by omega
   have hMe:M.length=P.length:=by omega
   have hD:M.reverse.map (·.1)=G:=by
    rw [←hx.out]
    have:runR w r (most w r-M.length) M.length P=[]:=by
     cases most w r-M.length with
     | zero=>rfl
     | succ f=>unfold runR;rw [List.getElem?_eq_none (by omega)]
    rw [this,List.append_nil]
   have HV:=Lib.hid (qig hSo hMe (by have:=hf.pr;omega) hI.out.2.2.1 hI.out.2.2.2);have HB:=Lib.hid hSo.bel;rw [hD]at HV;clear hx hSX hSo hI hD;go_wp2;go_ret;exact⟨_,rfl,HV.out,HB.out⟩
end Go.Proofs.YtgpjhibdongmbaaGreatDoor
namespace Go.Proofs.YtgpjhibdongmbaaGreatDoor
open Go.RowKit Ck Rs
structure Gd (w r:PPlan):Prop where
 vw:Valid w
 vr:Valid r
 sw:SmallP w
 sr:SmallP r
theorem Gd.few {w r:PPlan} (h:Gd w r):Few2 w r:=⟨by have:=Nat.mul_le_mul h.sw.np h.sr.np;omega,fun g hg=>by have:=(h.sw.pr g hg).ops;omega,fun g hg=>by have:=(h.sr.pr g hg).ops;omega⟩
def qe0 (w:World) (r:List PAdapt × Int) (e:Ending) (w':World):Prop := ∃v,e=.returned (.tuple #[v,.int .i64 r.2])/\Sv 4 VAdapt w' v r.1/\Bel w w'
theorem qjh (w r:PPlan) (p1 p2 p3 p4:Option Addr) (c1 c2 c3 c4:Nat) (W:World) (hG:Pl w r p1 p2 p3 p4 c1 c2 c3 c4 W) (hd:Gd w r) (hM:ML W) :
  Calls Tryz.prog 31 #[.agg #[.slice p1 w.progs.length c1,.slice p2 w.enums.length c2],.agg #[.slice p3 r.progs.length c3,.slice p4 r.enums.length c4]] W fun e' w'=>e'=.returned (.bool true)/\Bel W w':=by
 have hS0:=((ST.start W).addbox #[.slice p1 w.progs.length c1,.slice p2 w.enums.length c2] 25).addbox #[.slice p3 r.progs.length c3,.slice p4 r.enums.length c4] 25;simp only [World.size_alloc]at hS0;have HS:=Lib.hid hS0;have KS:=Lib.hid (fun WW (T:ST W [] [⟨W.heap.size+1,#[.slice p3 r.progs.length c3,.slice p4 r.enums.length c4],25⟩,⟨W.heap.size,#[.slice p1 w.progs.length c1,.slice p2 w.enums.length c2],25⟩] WW)=>show WW.cell? ⟨W.heap.size,0,none⟩=some (.slice p1 w.progs.length c1)/\WW.cell? ⟨W.heap.size,1,none⟩=some (.slice p2 w.enums.length c2)/\WW.cell? ⟨W.heap.size+1,0,none⟩=some (.slice p3 r.progs.length c3)/\WW.cell? ⟨W.heap.size+1,1,none⟩=some (.slice p4 r.enums.length c4)from⟨T.cell 1 rfl 0,T.cell 1 rfl 1,T.cell 0 rfl 0,T.cell 0 rfl 1⟩);clear hS0;have C1:=Lib.hid (fun WW (T:ST W [] [⟨W.heap.size+1,#[.slice p3 r.progs.length c3,.slice p4 r.enums.length c4],25⟩,⟨W.heap.size,#[.slice p1 w.progs.length c1,.slice p2 w.enums.length c2],25⟩] WW)=>qk7 w _ WW (show VPlan WW [.slice p1 w.progs.length c1,.slice p2 w.enums.length c2] w from⟨_,_,rfl,hG.g0.bel VProg.stays T.bel,hG.g1.bel VEnum.stays T.bel⟩) hd.vw hd.sw (hM.below T.bel));have C2:=Lib.hid (fun WW (T:ST W [] [⟨W.heap.size+1,#[.slice p3 r.progs.length c3,.slice p4 r.enums.length c4],25⟩,⟨W.heap.size,#[.slice p1 w.progs.length c1,.slice p2 w.enums.length c2],25⟩] WW)=>qk7 r _ WW (show VPlan WW [.slice p3 r.progs.length c3,.slice p4 r.enums.length c4] r from⟨_,_,rfl,hG.g2.bel VProg.stays T.bel,hG.g3.bel VEnum.stays T.bel⟩) hd.vr hd.sr (hM.below T.bel));clear hG hd hM
 go_enter Tryz.func31,Tryz.ntmps31
 go_upto_region 1 with(fail)
 obtain⟨y0,y1,y2,y3⟩:=KS.out _ HS.out
 go_wp2_with (first
  | (go_at_call 57;(with_reducible refine(C1.out _ HS.out).mono ?_);rintro e' w1 ⟨rfl,k1⟩;have k1:Bel _ w1:=k1;have H1:=Lib.hid (HS.out.belw k1);obtain⟨x0,x1,x2,x3⟩:=KS.out _ H1.out;clear k1)
  | (go_at_call 57;(with_reducible refine(C2.out _ H1.out).mono ?_);rintro e' w2 ⟨rfl,k2⟩;have k2:Bel _ w2:=k2;have H2:=Lib.hid (H1.out.belw k2);obtain⟨x0,x1,x2,x3⟩:=KS.out _ H2.out;clear k2))
 go_ret;exact⟨rfl,H2.out.bel⟩
theorem qjl (w r:PPlan) (p1 p2 p3 p4:Option Addr) (c1 c2 c3 c4:Nat) (nm:Str) (W:World) (hG:Pl w r p1 p2 p3 p4 c1 c2 c3 c4 W) (hd:Gd w r) (hM:ML W) (hT:Tab W) :
  Calls Tryz.prog 11 #[.agg #[.slice p1 w.progs.length c1,.slice p2 w.enums.length c2],.agg #[.slice p3 r.progs.length c3,.slice p4 r.enums.length c4],.string (S nm)] W (qe0 W (makeR w r nm)):=by
 have hS0:=((ST.start W).addbox #[.slice p1 w.progs.length c1,.slice p2 w.enums.length c2] 25).addbox #[.slice p3 r.progs.length c3,.slice p4 r.enums.length c4] 25;simp only [World.size_alloc]at hS0;have HS:=Lib.hid hS0;have KS:=Lib.hid (fun WW (T:ST W [] [⟨W.heap.size+1,#[.slice p3 r.progs.length c3,.slice p4 r.enums.length c4],25⟩,⟨W.heap.size,#[.slice p1 w.progs.length c1,.slice p2 w.enums.length c2],25⟩] WW)=>show WW.cell? ⟨W.heap.size,0,none⟩=some (.slice p1 w.progs.length c1)/\WW.cell? ⟨W.heap.size,1,none⟩=some (.slice p2 w.enums.length c2)/\WW.cell? ⟨W.heap.size+1,0,none⟩=some (.slice p3 r.progs.length c3)/\WW.cell? ⟨W.heap.size+1,1,none⟩=some (.slice p4 r.enums.length c4)from⟨T.cell 1 rfl 0,T.cell 1 rfl 1,T.cell 0 rfl 0,T.cell 0 rfl 1⟩);clear hS0;have C1:=Lib.hid (fun WW (T:ST W [] [⟨W.heap.size+1,#[.slice p3 r.progs.length c3,.slice p4 r.enums.length c4],25⟩,⟨W.heap.size,#[.slice p1 w.progs.length c1,.slice p2 w.enums.length c2],25⟩] WW)=>pl_Find w _ nm WW (show VPlan WW [.slice p1 w.progs.length c1,.slice p2 w.enums.length c2] w from⟨_,_,rfl,hG.g0.bel VProg.stays T.bel,hG.g1.bel VEnum.stays T.bel⟩));have C2:=Lib.hid (fun WW (T:ST W [] [⟨W.heap.size+1,#[.slice p3 r.progs.length c3,.slice p4 r.enums.length c4],25⟩,⟨W.heap.size,#[.slice p1 w.progs.length c1,.slice p2 w.enums.length c2],25⟩] WW)=>pl_Find r _ nm WW (show VPlan WW [.slice p3 r.progs.length c3,.slice p4 r.enums.length c4] r from⟨_,_,rfl,hG.g2.bel VProg.stays T.bel,hG.g3.bel VEnum.stays T.bel⟩));have C3:=Lib.hid (fun WW (T:ST W [] [⟨W.heap.size+1,#[.slice p3 r.progs.length c3,.slice p4 r.enums.length c4],25⟩,⟨W.heap.size,#[.slice p1 w.progs.length c1,.slice p2 w.enums.length c2],25⟩] WW)=>qjh w r p1 p2 p3 p4 c1 c2 c3 c4 WW ⟨hG.g0.bel VProg.stays T.bel,hG.g1.bel VEnum.stays T.bel,hG.g2.bel VProg.stays T.bel,hG.g3.bel VEnum.stays T.bel⟩ hd (hM.below T.bel));have C4:=Lib.hid (fun WW (T:ST W [] [⟨W.heap.size+1,#[.slice p3 r.progs.length c3,.slice p4 r.enums.length c4],25⟩,⟨W.heap.size,#[.slice p1 w.progs.length c1,.slice p2 w.enums.length c2],25⟩] WW) (i j:Nat) (hi:i<w.progs.length) (hj:j<r.progs.length)=>rs_from w r p1 p2 p3 p4 c1 c2 c3 c4 (i:Int) (j:Int) WW ⟨hG.g0.bel VProg.stays T.bel,hG.g1.bel VEnum.stays T.bel,hG.g2.bel VProg.stays T.bel,hG.g3.bel VEnum.stays T.bel⟩ (hT.below T.bel) (qb7 hd.vw) (qb7 hd.vr) ⟨by omega,by omega⟩ ⟨by omega,by omega⟩ hd.few);clear hG hd hM hT;unfold qe0;cases h1:qbg w nm with
 | none=>
  have hm:makeR w r nm=([],10):=by unfold makeR;rw [h1]
  have f1:qau w nm=.tuple #[.int .i64 0,.bool false]:=by unfold qau;rw [h1]
  rw [hm];rw [f1]at C1;clear hm f1 h1 C3 C4;cases h2:qbg r nm with
  | none=>
   have f2:qau r nm=.tuple #[.int .i64 0,.bool false]:=by unfold qau;rw [h2]
   rw [f2]at C2;clear f2 h2
   go_enter Tryz.func11,Tryz.ntmps11
   go_upto_region 1 with(fail)
   obtain⟨y0,y1,y2,y3⟩:=KS.out _ HS.out
   go_wp2_with (first
    | (go_at_call 30;(with_reducible refine(C1.out _ HS.out).mono ?_);rintro e' w1 ⟨rfl,k1⟩;have k1:Bel _ w1:=k1;have H1:=Lib.hid (HS.out.belw k1);obtain⟨x0,x1,x2,x3⟩:=KS.out _ H1.out;clear k1)
    | (go_at_call 30;(with_reducible refine(C2.out _ H1.out).mono ?_);rintro e' w2 ⟨rfl,k2⟩;have k2:Bel _ w2:=k2;have H2:=Lib.hid (H1.out.belw k2);obtain⟨x0,x1,x2,x3⟩:=KS.out _ H2.out;clear k2))
   go_ret2;exact⟨_,rfl,Sl.nil _ _ _ _ _,H2.out.bel⟩
  | some j=>
   have f2:qau r nm=.tuple #[.int .i64 (j:Int),.bool true]:=by unfold qau;rw [h2]
   rw [f2]at C2;clear f2 h2
   go_enter Tryz.func11,Tryz.ntmps11
   go_upto_region 1 with(fail)
   obtain⟨y0,y1,y2,y3⟩:=KS.out _ HS.out
   go_wp2_with (first
    | (go_at_call 30;(with_reducible refine(C1.out _ HS.out).mono ?_);rintro e' w1 ⟨rfl,k1⟩;have k1:Bel _ w1:=k1;have H1:=Lib.hid (HS.out.belw k1);obtain⟨x0,x1,x2,x3⟩:=KS.out _ H1.out;clear k1)
    | (go_at_call 30;(with_reducible refine(C2.out _ H1.out).mono ?_);rintro e' w2 ⟨rfl,k2⟩;have k2:Bel _ w2:=k2;have H2:=Lib.hid (H1.out.belw k2);obtain⟨x0,x1,x2,x3⟩:=KS.out _ H2.out;clear k2))
   go_ret2;exact⟨_,rfl,Sl.nil _ _ _ _ _,H2.out.bel⟩
 | some i=>
  have f1:qau w nm=.tuple #[.int .i64 (i:Int),.bool true]:=by unfold qau;rw [h1]
  rw [f1]at C1;cases h2:qbg r nm with
  | none=>
   have hm:makeR w r nm=([],10):=by unfold makeR;rw [h1,h2]
   have f2:qau r nm=.tuple #[.int .i64 0,.bool false]:=by unfold qau;rw [h2]
   rw [hm];rw [f2]at C2;clear hm f1 f2 h1 h2 C3 C4
   go_enter Tryz.func11,Tryz.ntmps11
   go_upto_region 1 with(fail)
   obtain⟨y0,y1,y2,y3⟩:=KS.out _ HS.out
   go_wp2_with (first
    | (go_at_call 30;(with_reducible refine(C1.out _ HS.out).mono ?_);rintro e' w1 ⟨rfl,k1⟩;have k1:Bel _ w1:=k1;have H1:=Lib.hid (HS.out.belw k1);obtain⟨x0,x1,x2,x3⟩:=KS.out _ H1.out;clear k1)
    | (go_at_call 30;(with_reducible refine(C2.out _ H1.out).mono ?_);rintro e' w2 ⟨rfl,k2⟩;have k2:Bel _ w2:=k2;have H2:=Lib.hid (H1.out.belw k2);obtain⟨x0,x1,x2,x3⟩:=KS.out _ H2.out;clear k2))
   go_ret2;exact⟨_,rfl,Sl.nil _ _ _ _ _,H2.out.bel⟩
  | some j=>
   have hm:makeR w r nm=(fromR w r i j,0):=by unfold makeR;rw [h1,h2]
   have f2:qau r nm=.tuple #[.int .i64 (j:Int),.bool true]:=by unfold qau;rw [h2]
   obtain⟨_,_,_,hi⟩:=qbl h1;obtain⟨_,_,_,hj⟩:=qbl h2;rw [hm];rw [f2]at C2;have C5:=Lib.hid (fun WW T=>C4.out WW T i j hi hj);unfold qfc at C5;clear hm f1 f2 h1 h2 C4 hi hj
   go_enter Tryz.func11,Tryz.ntmps11
   go_upto_region 1 with(fail)
   obtain⟨y0,y1,y2,y3⟩:=KS.out _ HS.out
   go_wp2_with (first
    | (go_at_call 30;(with_reducible refine(C1.out _ HS.out).mono ?_);rintro e' w1 ⟨rfl,k1⟩;have k1:Bel _ w1:=k1;have H1:=Lib.hid (HS.out.belw k1);obtain⟨x0,x1,x2,x3⟩:=KS.out _ H1.out;clear k1)
    | (go_at_call 30;(with_reducible refine(C2.out _ H1.out).mono ?_);rintro e' w2 ⟨rfl,k2⟩;have k2:Bel _ w2:=k2;have H2:=Lib.hid (H1.out.belw k2);obtain⟨x0,x1,x2,x3⟩:=KS.out _ H2.out;clear k2)
    | (go_at_call 31;(with_reducible refine(C3.out _ H2.out).mono ?_);rintro e' w3 ⟨rfl,k3⟩;have k3:Bel _ w3:=k3;have H3:=Lib.hid (H2.out.belw k3);obtain⟨x0,x1,x2,x3⟩:=KS.out _ H3.out;clear k3)
    | (go_at_call 32;(with_reducible refine(C5.out _ H3.out).mono ?_);rintro e' w4 ⟨v4,rfl,hv4,k4⟩;have k4:Bel _ w4:=k4;have H4:=Lib.hid (H3.out.belw k4);have HV:=Lib.hid hv4;clear k4 hv4))
   go_ret2;exact⟨_,rfl,HV.out,H4.out.bel⟩
end Go.Proofs.YtgpjhibdongmbaaGreatDoor
namespace Go.Proofs.YtgpjhibdongmbaaGreatDoor.Rs
open Ck
theorem PAct.ext' {a b:PAct} (h1:a.num=b.num) (h2:a.kind=b.kind) (h3:a.sub=b.sub):a=b:=by
 cases a;cases b;simp_all
theorem PAdapt.ext' {a b:PAdapt} (h1:a.w=b.w) (h2:a.r=b.r) (h3:a.acts=b.acts) (h4:a.lacks=b.lacks):a=b:=by
 cases a;cases b;simp_all
instance:DecidableEq PAct:=fun a b=>decidable_of_iff (a.num=b.num/\a.kind=b.kind/\a.sub=b.sub) ⟨fun h=>PAct.ext' h.1 h.2.1 h.2.2,fun h=>by subst h;exact⟨rfl,rfl,rfl⟩⟩
instance:DecidableEq PAdapt:=fun a b=>decidable_of_iff (a.w=b.w/\a.r=b.r/\a.acts=b.acts/\a.lacks=b.lacks) ⟨fun h=>PAdapt.ext' h.1 h.2.1 h.2.2.1 h.2.2.2,fun h=>by subst h;exact⟨rfl,rfl,rfl,rfl⟩⟩
def nameR (p:PPlan) (i:Int):Str:=if 0<=i/\i<p.progs.length then(match p.progs[i.toNat]? with|some g=>g.name|none => [63])else [63]
def qg1 (w r:PPlan) (l:List PAdapt):Int:=match l with
 | []=>10
 | x :: t=>if(x :: t).all (inR w r)=false then 6 else if nameR w x.w ≠ nameR r x.r ∨ (x :: t) ≠ fromR w r x.w x.r then 5 else 0
def qcq (w r:PPlan) (l:List PAdapt):Int:=match l with
 | []=>10
 | x :: t=>if(x :: t).all (inR w r)=false then 6 else if(makeR w r (nameR w x.w)).2 ≠ 0 ∨ (x :: t) ≠ (makeR w r (nameR w x.w)).1 then 5 else 0
theorem qdm {p:PPlan} {i:Int} (h:0<=i/\i<p.progs.length) : ∃g,p.progs[i.toNat]? = some g/\nameR p i=g.name:=by
 obtain⟨g,hg,_⟩:=qct h.1 h.2;refine⟨g,hg,?_⟩;unfold nameR;rw [if_pos h,hg]
theorem ql5 {w r:PPlan} (hw:Valid w) (hr:Valid r) (l:List PAdapt):qg1 w r l=qcq w r l:=by
 cases l with
 | nil=>rfl
 | cons x t=>
  unfold qg1 qcq;dsimp only;by_cases ha:(x :: t).all (inR w r)=false
  ·rw [if_pos ha,if_pos ha]
  ·rw [if_neg ha,if_neg ha]
   have hx:inR w r x=true:=by
    rw [Bool.not_eq_false,List.all_eq_true]at ha;exact ha x (List.mem_cons_self ..)
   have h2:=of_decide_eq_true hx;obtain⟨g,hg,hgn⟩:=qdm ⟨h2.1,h2.2.1⟩;obtain⟨h,hh,hhn⟩:=qdm ⟨h2.2.2.1,h2.2.2.2⟩;have hpw:=qcs hw hg;rw [hgn,hhn];cases hb:qbg r g.name with
   | none=>
    have hm:makeR w r g.name=([],10):=by unfold makeR;rw [hpw,hb]
    have hne:g.name ≠ h.name:=fun e=>by
     rw [e,qcs hr hh]at hb;cases hb
    rw [hm,if_pos (.inl hne),if_pos (.inl (by decide))]
   | some b=>
    obtain⟨h3,hb3,hn3,hbl⟩:=qbl hb;by_cases e:g.name=h.name
    ·have hbe:b=x.r.toNat:=by
      rw [e,qcs hr hh]at hb;exact(Option.some.inj hb).symm
     have hbi:(b:Int)=x.r:=by omega
     have hai:((x.w.toNat:Nat):Int)=x.w:=by omega
     have hm:makeR w r g.name=(fromR w r x.w x.r,0):=by
      unfold makeR;rw [hpw,hb];dsimp only;rw [hbi,hai]
     rw [hm];by_cases hl:(x :: t)=fromR w r x.w x.r
     ·rw [if_neg (by intro h;exact h.elim (fun h=>h e) (fun h=>h hl)),if_neg (by intro h;exact h.elim (fun h=>h rfl) (fun h=>h hl))]
     ·rw [if_pos (.inr hl),if_pos (.inr hl)]
    ·have hm:makeR w r g.name=(fromR w r (x.w.toNat:Int) (b:Int),0):=by
      unfold makeR;rw [hpw,hb]
     have hne:(x :: t) ≠ fromR w r (x.w.toNat:Int) (b:Int):=fun hl=>?_
     ·rw [hm,if_pos (.inl e),if_pos (.inr hne)]
     obtain⟨y,hy,_,hyr,_⟩:=from_pos hw hr (a:=(x.w.toNat:Int)) (b:=(b:Int)) ⟨by omega,by omega⟩ ⟨by omega,by omega⟩;rw [←hl]at hy;have hxy:x=y:=by simpa using hy
     subst hxy;have hbe:x.r.toNat=b:=by omega
     rw [hbe,hb3]at hh;cases hh;exact e hn3.symm
end Go.Proofs.YtgpjhibdongmbaaGreatDoor.Rs
namespace Go.Proofs.YtgpjhibdongmbaaGreatDoor
open Go.RowKit Ck Rs
theorem VAdapt.form {w:World} {vs:List Value} {d:PAdapt} (h:VAdapt w vs d) : ∃(aq lq:Option Addr) (ac lc:Nat),vs=[.int .i64 d.w,.int .i64 d.r,.slice aq d.acts.length ac,.slice lq d.lacks.length lc]/\Sv 3 VAct w (.slice aq d.acts.length ac) d.acts/\Sv 1 VInt w (.slice lq d.lacks.length lc) d.lacks/\d.acts.length<=140737488355328/\d.lacks.length<=140737488355328:=by
 obtain⟨av,lv,rfl,h1,h2⟩:=h;obtain⟨aq,ac,rfl,l1⟩:=qbc h1;obtain⟨lq,lc,rfl,l2⟩:=qbc h2;exact⟨aq,lq,ac,lc,rfl,h1,h2,l1,l2⟩
theorem cl_Ex2 (x:PAct) (vs:List Value) (W:World) (hv:VAct W vs x) :
  Calls Tryz.prog 37 #[.agg vs.toArray] W fun e' w'=>e'=.returned (.bool (!decide (x.kind=2)))/\Bel W w':=by
 obtain rfl:vs=[.int .i64 x.num,.int .i64 x.kind,.int .i64 x.sub]:=hv;have V:=Lib.hid (show(x.kind != 2) = !decide (x.kind=2)from rfl)
 go_enter Tryz.func37,Tryz.ntmps37
 go_wp2;go_ret
 exact⟨qa3 V.out,(Bel.refl _).alloc _⟩
theorem cl_Ex1 (d:PAdapt) (vs:List Value) (W:World) (hv:VAdapt W vs d) :
  Calls Tryz.prog 35 #[.agg vs.toArray] W fun e' w'=>e'=.returned (.bool (!(decide (d.lacks.length=0) && d.acts.all fun x=>decide (x.kind=2))))/\Bel W w':=by
 obtain⟨aq,lq,ac,lc,rfl,h1,h2,l1,l2⟩:=hv.form;have hS0:=(Bel.refl W).alloc (.cells #[.int .i64 d.w,.int .i64 d.r,.slice aq d.acts.length ac,.slice lq d.lacks.length lc] 44);have C0:=fun W' (k:Bel (W.alloc (.cells #[.int .i64 d.w,.int .i64 d.r,.slice aq d.acts.length ac,.slice lq d.lacks.length lc] 44)) W')=>qmr VAct VAct.len 37 #[] (enters_of Tryz.func37 (by kernel_rfl) rfl) (.slice aq d.acts.length ac) d.acts (fun x => !decide (x.kind=2)) W' (h1.bel VAct.stays (Bel.of hS0 k)) (fun x vs' W2 hx hv' hb=>cl_Ex2 x vs' W2 hv')
 simp only [qie]at C0;have C:=Lib.hid C0;have V:=Lib.hid (show(!(decide (d.lacks.length=0) && d.acts.all fun x=>decide (x.kind=2)))=(decide (0<d.lacks.length) || !(d.acts.all fun x=>decide (x.kind=2)))by rw [Bool.not_and];congr 1;rw [Bool.eq_iff_iff,Bool.not_eq_true',decide_eq_false_iff_not,decide_eq_true_eq];omega);generalize (!(decide (d.lacks.length=0) && d.acts.all fun x=>decide (x.kind=2)))=R at V;generalize (!(d.acts.all fun x=>decide (x.kind=2)))=Q at C V;clear hv h1 h2 C0;by_cases hz:0<d.lacks.length
 ·have hz2:(0:Int)<(d.lacks.length:Int):=by omega
  go_enter Tryz.func35,Tryz.ntmps35
  go_wp2;go_ret
  exact⟨qa3 (by rw [V.out];simp [hz]),hS0⟩
 ·have hz2 : ¬(0:Int)<(d.lacks.length:Int):=by omega
  have hzd:decide (0<d.lacks.length)=false:=decide_eq_false hz
  go_enter Tryz.func35,Tryz.ntmps35
  go_wp2_with (go_at_call 36;(with_reducible refine(C.out _ (Bel.refl _)).mono ?_);rintro e' w1 ⟨rfl,k1⟩;have k1:Bel _ w1:=k1)
  go_ret;exact⟨qa3 (by rw [V.out,hzd];simp),Bel.of hS0 k1⟩
theorem qjm (v:Value) (l:List PAdapt) (W:World) (hv:Sv 4 VAdapt W v l) :
  Calls Tryz.prog 17 #[v] W fun e' w'=>e'=.returned (.bool (qmj l))/\Bel W w':=by
 have C0:=cf_Adapt VAdapt VAdapt.len 35 #[] (enters_of Tryz.func35 (by kernel_rfl) rfl) v l _ W hv (fun x vs' W2 hx hv' hb=>cl_Ex1 x vs' W2 (VAdapt.stays _ _ _ _ hb hv'));rw [qie]at C0;have C:=Lib.hid C0;have V:=Lib.hid (show qmj l=l.all (fun d=>decide (d.lacks.length=0) && d.acts.all fun x=>decide (x.kind=2))from rfl);generalize qmj l=R at V;generalize (l.all fun d=>decide (d.lacks.length=0) && d.acts.all fun x=>decide (x.kind=2))=Q at C V;obtain⟨q,c,rfl,_⟩:=qbc hv;clear hv C0
 go_enter Tryz.func17,Tryz.ntmps17
 go_wp2_with (go_at_call 34;(with_reducible refine C.out.mono ?_);rintro e' w1 ⟨rfl,k1⟩;have k1:Bel _ w1:=k1)
 go_ret;exact⟨qa3 (by first|(rw [V.out];done)|(rw [V.out];simp)),k1⟩
def actV:PAct × Bool->Value:=fun r=>.tuple #[.agg #[.int .i64 r.1.num,.int .i64 r.1.kind,.int .i64 r.1.sub],.bool r.2]
def qg7 (l:List PAct) (num:Int):PAct × Bool:=match l.find? (fun x=>decide (x.num=num))with|some x=>(x,true)|none=>(⟨0,0,0⟩,false)
theorem qlg {l:List PAct} {num:Int} {k:Nat} {x:PAct} (hx:l[k]? = some x):qg7 (l.drop k) num=if x.num=num then(x,true)else qg7 (l.drop (k+1)) num:=by
 obtain⟨hk,rfl⟩:=List.getElem?_eq_some_iff.1 hx;unfold qg7;rw [List.drop_eq_getElem_cons hk,List.find?_cons];by_cases h:(l[k]).num=num
 ·rw [decide_eq_true h,if_pos h]
 ·rw [decide_eq_false h,if_neg h]
theorem qlr (d:PAdapt) (vs:List Value) (num:Int) (W:World) (hv:VAdapt W vs d) :
  Calls Tryz.prog 19 #[.agg vs.toArray,.int .i64 num] W fun e' w'=>e'=.returned (actV (qih d num))/\Bel W w':=by
 obtain⟨aq,lq,ac,lc,rfl,h1,h2,l1,l2⟩:=hv.form;have hS0:=((ST.start W).addbox #[.int .i64 d.w,.int .i64 d.r,.slice aq d.acts.length ac,.slice lq d.lacks.length lc] 44).addbox #[.int .i64 0,.int .i64 0,.int .i64 0] 38;simp only [World.size_alloc]at hS0;have HS:=Lib.hid hS0;obtain⟨_,_,he,_,_,hel⟩:=h1;cases he;have EL:=Lib.hid hel;obtain⟨R,hR⟩ : ∃R,R=qih d num:=⟨_,rfl⟩;have V:=Lib.hid (show qg7 (d.acts.drop 0) num=R by rw [hR];rfl);rw [←hR];clear hv h2 hel hS0 hR
 go_enter Tryz.func19,Tryz.ntmps19
 go_wp2
 go_loopw [11] (fun i wr => ∃k:Nat,k<=d.acts.length/\i=.int .i64 k/\Hid (ST W [] [⟨W.heap.size+1,#[.int .i64 0,.int .i64 0,.int .i64 0],38⟩,⟨W.heap.size,#[.int .i64 d.w,.int .i64 d.r,.slice aq d.acts.length ac,.slice lq d.lacks.length lc],44⟩] wr)/\Hid (qg7 (d.acts.drop k) num=R)) (fun i _=>d.acts.length-(intOf i).toNat)
 case atStart=>exact⟨0,by omega,rfl,HS,V⟩
 case round=>as_aux_lemma=>
  clear HS V;obtain⟨k,hk,rfl,hS,hx⟩:=hrel;by_cases hlt:k<d.acts.length
  ·have hg:d.acts[k]? = some d.acts[k]:=List.getElem?_eq_getElem hlt
   obtain⟨g,off,rfl,hbs,vs,hce,hvs⟩:=EL.out k _ hg;have hki:(k:Int)<(d.acts.length:Int):=by omega
   have hst:=hx.out;rw [qlg hg]at hst;clear hx hg EL;generalize d.acts[k]=x at *;rw [show vs=[.int .i64 x.num,.int .i64 x.kind,.int .i64 x.sub]from hvs]at hce;have e0:=hS.out.bel.some (hce 0 _ rfl);rw [Nat.add_zero]at e0;have e1:=hS.out.bel.some (hce 1 _ rfl);have e2:=hS.out.bel.some (hce 2 _ rfl);have HX:=Lib.hid (hS.out.addbox #[.int .i64 x.num,.int .i64 x.kind,.int .i64 x.sub] 38);clear hce hvs;by_cases hn:x.num=num
   ·have hb:(x.num == num)=true:=by rw [hn];simp
    rw [if_pos hn]at hst;have HST:=Lib.hid hst;clear hn hst
    go_upto_region 5 with(fail)
    have z0:=HX.out.cell 0 rfl 0;have z1:=HX.out.cell 0 rfl 1;have z2:=HX.out.cell 0 rfl 2;dsimp only at z0 z1 z2;have HR:=Lib.hid (HX.out.box 1 rfl)
    go_wp2_with (refine qa6 rfl 38 _ _ rfl (W.heap.size+1) #[.int .i64 x.num,.int .i64 x.kind,.int .i64 x.sub] #[.int .i64 0,.int .i64 0,.int .i64 0] 38 rfl rfl HR.out qbp rfl (qbf _ _ _) ?_)
    have TZ:=Lib.hid (HX.out.setrowbox 1 rfl #[.int .i64 x.num,.int .i64 x.kind,.int .i64 x.sub]);refine bodyPost_ret (v:=.tuple #[.agg #[.int .i64 x.num,.int .i64 x.kind,.int .i64 x.sub],.bool true]) ?hres9 rfl ?hpost9
    case hres9=>exact qdk rfl rfl rfl (TZ.out.box 1 rfl) Tryz.underlying38 rfl (by kernel_rfl)
    case hpost9=>exact⟨by rw [←HST.out];rfl,TZ.out.bel⟩
   ·have hb:(x.num == num)=false:=beq_eq_false_iff_ne.2 hn
    rw [if_neg hn]at hst;have HST:=Lib.hid hst;clear hn hst;go_wp2;go_roundw
    case rel=>exact⟨k+1,by omega,by go_num,Lib.hid HX.out.dropbox0,HST⟩
    case measure=>simp [intOf];omega
  ·have hki : ¬(k:Int)<(d.acts.length:Int):=by omega
   have HST:=Lib.hid (show R=(⟨0,0,0⟩,false)by rw [←hx.out,List.drop_eq_nil_of_le (by omega)];rfl);have HR:=Lib.hid (hS.out.box 0 rfl);clear hx EL
   go_wp2_with (refine qa6 rfl 38 _ _ rfl (W.heap.size+1) #[.int .i64 0,.int .i64 0,.int .i64 0] #[.int .i64 0,.int .i64 0,.int .i64 0] 38 rfl rfl HR.out qbp rfl (qbf _ _ _) ?_)
   have TZ:=Lib.hid (hS.out.setrowbox 0 rfl #[.int .i64 0,.int .i64 0,.int .i64 0]);refine bodyPost_ret (v:=.tuple #[.agg #[.int .i64 0,.int .i64 0,.int .i64 0],.bool false]) ?hres8 rfl ?hpost8
   case hres8=>exact qdk rfl rfl rfl (TZ.out.box 0 rfl) Tryz.underlying38 rfl (by kernel_rfl)
   case hpost8=>exact⟨by rw [HST.out];rfl,TZ.out.bel⟩
theorem rs_name (p:PPlan) (q1 q2:Option Addr) (c1 c2:Nat) (i:Int) (W:World) (hv:VPlan W [.slice q1 p.progs.length c1,.slice q2 p.enums.length c2] p) :
  Calls Tryz.prog 40 #[.agg #[.slice q1 p.progs.length c1,.slice q2 p.enums.length c2],.int .i64 i] W fun e' w'=>e'=.returned (.string (S (nameR p i)))/\Bel W w':=by
 have hS0:=(Bel.refl W).alloc (.cells #[.slice q1 p.progs.length c1,.slice q2 p.enums.length c2] 25);by_cases h1:i<0
 ·have V:=Lib.hid (show nameR p i=[63]by unfold nameR;rw [if_neg (by omega)])
  generalize nameR p i=R at V;clear hv
  go_enter Tryz.func40,Tryz.ntmps40
  go_wp2;go_ret
  exact⟨by rw [V.out];rfl,hS0⟩
 ·by_cases h2:i<p.progs.length
  ·obtain⟨gv,ev,he,hg,_⟩:=hv
   cases he;obtain⟨_,_,he,_,_,hel⟩:=hg;cases he;obtain⟨n,rfl⟩ : ∃n:Nat,i=(n:Int):=⟨i.toNat,by omega⟩;obtain⟨g,hgn,hgm⟩:=qct (l:=p.progs) (a:=(n:Int)) (by omega) h2;have V:=Lib.hid (show nameR p (n:Int)=g.name by unfold nameR;rw [if_pos ⟨by omega,h2⟩,hgn]);rw [Int.toNat_natCast]at hgn;obtain⟨b,off,rfl,_,vs,hce,hvs⟩:=hel n g hgn;obtain⟨oq,oc,rfl,_,_⟩:=hvs.form;have e0:=hce 0 _ rfl;rw [Nat.add_zero]at e0;generalize nameR p (n:Int)=R at V;have h3:(0:Int)<=(n:Int):=by omega
   have hbl:b<W.heap.size:=World.block_lt_of_cell? W _ e0;clear hel hce hvs hgn hgm
   go_enter Tryz.func40,Tryz.ntmps40
   go_wp2;go_ret
   exact⟨by rw [V.out];rfl,hS0⟩
  ·have V:=Lib.hid (show nameR p i=[63]by unfold nameR;rw [if_neg (by omega)])
   generalize nameR p i=R at V;clear hv
   go_enter Tryz.func40,Tryz.ntmps40
   go_wp2;go_ret
   exact⟨by rw [V.out];rfl,hS0⟩
def wordR (k:Int):Str:=if k=1 then [115,107,105,112]else if k=2 then [116,97,107,101]else if k=3 then [116,117,114,110]else if k=4 then [102,97,105,108]else [63]
theorem rs_word (k:Int) (W:World) :
  Calls Tryz.prog 42 #[.int .i64 k] W fun e' w'=>e'=.returned (.string (S (wordR k)))/\W=w':=by
 go_enter Tryz.func42,Tryz.ntmps42
 go_wp2
 all_goals go_ret
 all_goals refine⟨?_,rfl⟩
 all_goals (simp only [beq_iff_eq,beq_eq_false_iff_ne,ne_eq]at *;simp [wordR, *];rfl)
end Go.Proofs.YtgpjhibdongmbaaGreatDoor
