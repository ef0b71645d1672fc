import Derived.Test.YtgpjhibdongmbaaGreatDoorRsRes6
set_option maxRecDepth 100000
set_option maxHeartbeats 4000000
set_option linter.unusedVariables false
set_option linter.unusedSimpArgs false
namespace Go.Proofs.YtgpjhibdongmbaaGreatDoor
open Go.RowKit Ck Rs
def qel:List (PAdapt × Value × Value)->List Row
 | [] => []
 | m :: M=>⟨38,3,m.2.1,m.1.acts.length,actCs m.1.acts⟩ :: ⟨3,1,m.2.2,m.1.lacks.length,intCs m.1.lacks⟩ :: qel M
theorem qdv : ∀(M:List (PAdapt × Value × Value)) (m:PAdapt × Value × Value),m ∈ M->(⟨38,3,m.2.1,m.1.acts.length,actCs m.1.acts⟩:Row) ∈ qel M/\(⟨3,1,m.2.2,m.1.lacks.length,intCs m.1.lacks⟩:Row) ∈ qel M
 | [],m,h=>by cases h
 | x :: M,m,h=>by
  unfold qel;rcases List.mem_cons.1 h with rfl|h
  ·exact⟨List.mem_cons_self ..,List.mem_cons_of_mem _ (List.mem_cons_self ..)⟩
  ·have:=qdv M m h
   exact⟨List.mem_cons_of_mem _ (List.mem_cons_of_mem _ this.1),List.mem_cons_of_mem _ (List.mem_cons_of_mem _ this.2)⟩
theorem qi2 (l:List Int):intCs l=l.flatMap (fun n => [Value.int .i64 n]):=by
 unfold intCs
 induction l with
 | nil=>rfl
 | cons a l ih=>rw [List.map_cons,ih,List.flatMap_cons];rfl
theorem qjt {w0 w:World} {vo:Value} {P:List (Int × Int)} {M:List (PAdapt × Value × Value)} {X:List Box} (T:ST w0 (⟨44,4,vo,P.length,outR P (M.reverse.map (·.2))⟩ :: qel M) X w) (hlen:M.length=P.length) (hl:P.length<=140737488355328) (hPD : ∀(j:Nat) m,M.reverse[j]? = some m->P[j]? = some (m.1.w,m.1.r)) (hb : ∀m ∈ M,m.1.acts.length<=140737488355328/\m.1.lacks.length<=140737488355328):Sv 4 VAdapt w vo (M.reverse.map (·.1)):=by
 have h:w.ownsRow w0.heap.size 44 4 vo P.length (outR P (M.reverse.map (·.2))):=T.row 0 rfl;have hDl:(M.reverse.map (·.1)).length=P.length:=by rw [List.length_map,List.length_reverse,hlen]
 rcases h.2 with⟨rfl,h0⟩|⟨g,cap,cur,rfl,h1,h2,h3,h4,h5,h6⟩
 ·have:M=[]:=List.length_eq_zero_iff.1 (by omega)
  subst this;exact Sl.nil _ _ _ _ _
 ·refine⟨_,cap,by rw [hDl],by omega,by omega,fun i d hd=>⟨g,0,rfl,(Array.getElem?_eq_some_iff.1 h2).1,?_⟩⟩
  rw [List.getElem?_map]at hd;obtain⟨m,hm,rfl⟩:=Option.map_eq_some_iff.1 hd;have hp:=hPD i m hm;have hmm:m ∈ M:=List.mem_reverse.1 (List.mem_of_getElem? hm);obtain⟨r1,r2⟩:=qdv M m hmm;have o1:=T.rows _ (List.mem_cons_of_mem _ r1);have o2:=T.rows _ (List.mem_cons_of_mem _ r2);obtain⟨b1,b2⟩:=hb m hmm;obtain⟨a0,a1,a2,a3⟩:=qcj P (M.reverse.map (·.2)) i _ hp
  have hla:lAt (M.reverse.map (·.2)) i=m.2:=by
   unfold lAt;rw [List.getD_eq_getElem?_getD,List.getElem?_map,hm];rfl
  rw [hla]at a2 a3;have hc:=h.cells (g:=g) rfl;refine⟨[.int .i64 m.1.w,.int .i64 m.1.r,m.2.1,m.2.2],fun j u hu=>?_,m.2.1,m.2.2,rfl,?_,?_⟩
  ·have hj:j<4:=by
    have:=(List.getElem?_eq_some_iff.1 hu).1
    simpa using this
   have:j=0 ∨ j=1 ∨ j=2 ∨ j=3:=by omega
   rcases this with rfl|rfl|rfl|rfl
   ·have e:Value.int .i64 m.1.w=u:=by simpa using hu
    have:=hc _ _ a0;rw [Addr.add_lit,e]at this
    simpa using this
   ·have e:Value.int .i64 m.1.r=u:=by simpa using hu
    have:=hc _ _ a1;rw [Addr.add_lit,e]at this
    simpa using this
   ·have e:m.2.1=u:=by simpa using hu
    have:=hc _ _ a2;rw [Addr.add_lit,e]at this
    simpa using this
   ·have e:m.2.2=u:=by simpa using hu
    have:=hc _ _ a3;rw [Addr.add_lit,e]at this
    simpa using this
  ·exact qf5 actC (fun _=>rfl) o1 b1 (fun x _=>rfl)
  ·have o2':w.ownsRow w0.heap.size 3 1 m.2.2 m.1.lacks.length (intCs m.1.lacks):=o2
   rw [qi2]at o2';exact qf5 (fun n => [Value.int .i64 n]) (fun _=>rfl) o2' b2 (fun x _=>rfl)
def qdr (w:World) (D:List PAdapt) (e:Ending) (w':World):Prop := ∃v,e=.returned v/\Sv 4 VAdapt w' v D/\Bel w w'
structure Few2 (w r:PPlan):Prop where
 pr:w.progs.length*r.progs.length<=1000000
 wo : ∀g ∈ w.progs,g.ops.length<=1000000
 ro : ∀g ∈ r.progs,g.ops.length<=1000000
theorem rs_from (w r:PPlan) (p1 p2 p3 p4:Option Addr) (c1 c2 c3 c4:Nat) (a b:Int) (W:World) (hG:Pl w r p1 p2 p3 p4 c1 c2 c3 c4 W) (hT:Tab W) (hw:Aimed w) (hr:Aimed r) (ha:0<=a/\a<w.progs.length) (hb:0<=b/\b<r.progs.length) (hf:Few2 w r) :
  Calls Tryz.prog 32 #[.agg #[.slice p1 w.progs.length c1,.slice p2 w.enums.length c2],.agg #[.slice p3 r.progs.length c3,.slice p4 r.enums.length c4],.int .i64 a,.int .i64 b] W (qdr W (fromR w r a b)):=by
 have hS0:=((((ST.start W).addbox #[.slice p1 w.progs.length c1,.slice p2 w.enums.length c2] 25).addbox #[.slice p3 r.progs.length c3,.slice p4 r.enums.length c4] 25).addbox #[.slice p1 w.progs.length c1,.slice p2 w.enums.length c2,.slice p3 r.progs.length c3,.slice p4 r.enums.length c4,.slice none 0 0] 100).nilrow 44 4;simp only [World.size_alloc]at hS0;have HS:=Lib.hid hS0;obtain⟨G,hGd⟩ : ∃G,G=fromR w r a b:=⟨_,rfl⟩;have V:=Lib.hid (show([]:List PAdapt) ++ runR w r (most w r-0) 0 [(a,b)]=G from hGd.symm);rw [←hGd];have CP:=Lib.hid (fun WW (T:ST W (⟨44,4,.slice none 0 0,0,[]⟩ :: []) (⟨W.heap.size+1+1,#[.slice p1 w.progs.length c1,.slice p2 w.enums.length c2,.slice p3 r.progs.length c3,.slice p4 r.enums.length c4,.slice none 0 0],100⟩ :: [⟨W.heap.size+1,#[.slice p3 r.progs.length c3,.slice p4 r.enums.length c4],25⟩,⟨W.heap.size,#[.slice p1 w.progs.length c1,.slice p2 w.enums.length c2],25⟩]) WW)=>qh9 W (W.heap.size+1+1) (.slice p1 w.progs.length c1) (.slice p2 w.enums.length c2) (.slice p3 r.progs.length c3) (.slice p4 r.enums.length c4) [] [] [] [⟨W.heap.size+1,#[.slice p3 r.progs.length c3,.slice p4 r.enums.length c4],25⟩,⟨W.heap.size,#[.slice p1 w.progs.length c1,.slice p2 w.enums.length c2],25⟩] a b WW ⟨_,T⟩ (fun l h=>by cases h) (Nat.le_refl _) (by decide));unfold qcv at CP;have hP1:=pair_one ha hb;clear hS0 hGd
 go_enter Tryz.func32,Tryz.ntmps32
 go_upto_region 3 with(go_at_call 58;(with_reducible refine(CP.out _ HS.out).mono ?_);rintro e' w1 ⟨rfl,h1⟩;have H1:=Lib.hid (show SX W (W.heap.size+1+1) (.slice p1 w.progs.length c1) (.slice p2 w.enums.length c2) (.slice p3 r.progs.length c3) (.slice p4 r.enums.length c4) [(a,b)] [] [] [⟨W.heap.size+1,#[.slice p3 r.progs.length c3,.slice p4 r.enums.length c4],25⟩,⟨W.heap.size,#[.slice p1 w.progs.length c1,.slice p2 w.enums.length c2],25⟩] w1 from h1);clear h1)
 clear HS CP;go_wp2
 go_loopw [10] (fun i wr => ∃(P:List (Int × Int)) (M:List (PAdapt × Value × Value)),i=.int .i64 (M.length:Int)/\M.length<=P.length/\Hid (SX W (W.heap.size+1+1) (.slice p1 w.progs.length c1) (.slice p2 w.enums.length c2) (.slice p3 r.progs.length c3) (.slice p4 r.enums.length c4) P (M.reverse.map (·.2)) (qel M) [⟨W.heap.size+1,#[.slice p3 r.progs.length c3,.slice p4 r.enums.length c4],25⟩,⟨W.heap.size,#[.slice p1 w.progs.length c1,.slice p2 w.enums.length c2],25⟩] wr)/\Hid (M.reverse.map (·.1) ++ runR w r (most w r-M.length) M.length P=G)/\Hid (qao w r P/\AllSl (M.reverse.map (·.2))/\(∀(j:Nat) m,M.reverse[j]? = some m->P[j]? = some (m.1.w,m.1.r))/\∀m ∈ M,m.1.acts.length<=140737488355328/\m.1.lacks.length<=140737488355328)) (fun i _=>most w r-(intOf i).toNat)
 case atStart=>exact⟨[(a,b)],[],rfl,by simp,H1,V,Lib.hid ⟨hP1,(fun l h=>by cases h),(fun j m h=>by simp at h),fun m h=>by cases h⟩⟩
 case round=>as_aux_lemma=>
  clear H1 V;obtain⟨P,M,rfl,hMP,hSX,hx,hI⟩:=hrel;obtain⟨vo,hSo⟩:=hSX.out;obtain⟨oq,oc,hvo⟩:=qai (show wr.ownsRow W.heap.size 44 4 vo P.length (outR P (M.reverse.map (·.2)))from hSo.row 0 rfl);subst hvo;have x4:=hSo.cell 0 rfl 4;dsimp only at x4;have hpl:=qc9 hI.out.1;have hpm:P.length<=1000000:=Nat.le_trans hpl hf.pr;have hmost:most w r=w.progs.length*r.progs.length+1:=rfl;by_cases hlt:M.length<P.length
  ·have hi:(M.length:Int)<(P.length:Int):=by omega
   obtain⟨x,hxP⟩ : ∃x,P[M.length]? = some x:=⟨_,List.getElem?_eq_getElem hlt⟩;obtain⟨a',b'⟩:=x;obtain⟨r1,r2⟩:=hI.out.1.2 _ (List.mem_of_getElem? hxP);obtain⟨g,hg,hgm⟩:=qgr r1.1 r1.2;obtain⟨h,hh,hhm⟩:=qgr r2.1 r2.2;dsimp only at hg hh;have hLl:(M.reverse.map (·.2)).length=M.length:=by rw [List.length_map,List.length_reverse]
   have CV:=rs_visit W (W.heap.size+1+1) w r p1 p2 p3 p4 c1 c2 c3 c4 P (M.reverse.map (·.2)) (qel M) [⟨W.heap.size+1,#[.slice p3 r.progs.length c3,.slice p4 r.enums.length c4],25⟩,⟨W.heap.size,#[.slice p1 w.progs.length c1,.slice p2 w.enums.length c2],25⟩] g h a' b' wr hSX.out hI.out.2.1 (by rw [hLl];exact hxP) hg hh hG hT hw hr hI.out.1 ⟨hf.pr,hf.wo g hgm,hf.ro h hhm⟩;rw [hLl]at CV;unfold VisPost at CV;have hst:=hx.out;rw [show most w r-M.length=(most w r-(M.length+1))+1 by omega]at hst;unfold runR at hst;rw [hxP]at hst;dsimp only at hst;rw [hg,hh]at hst;dsimp only at hst;obtain⟨q1,q2⟩:=qdq hw hr hgm hhm g.ops [] P (fun _ h=>h) hI.out.1;have q3:=(qgb hw hr hgm hhm g.ops [] P (fun _ h=>h) hI.out.1 (List.prefix_refl _)).1;have q4:(qcy g h).length<=h.ops.length:=by unfold qcy;rw [List.length_map];exact List.length_filter_le ..
   have q5:=q2.length_le;generalize qaz w r h g.ops [] P=AG at *;obtain⟨A,P2⟩:=AG;generalize qcy g h=lk at *;dsimp only at q1 q2 q3 q5 CV hst;have HI:=Lib.hid (show qao w r P2/\(∀(j:Nat) m,M.reverse[j]? = some m->P2[j]? = some (m.1.w,m.1.r))/\P2[M.length]? = some (a',b')/\M.length+1<=P2.length/\A.length<=140737488355328/\lk.length<=140737488355328 from⟨q1,fun j m hj=>qbu q2 (hI.out.2.2.1 j m hj),qbu q2 hxP,by omega,by have:=hf.wo g hgm;simp at q3;omega,by have:=hf.ro h hhm;omega⟩);have HST:=Lib.hid hst;have C:=Lib.hid CV;clear hx hst CV hSX hSo q1 q2 q3 q4 q5 hg hh hgm hhm r1 r2 hxP hLl
   go_wp2_with (go_at_call 59;(with_reducible refine C.out.mono ?_);rintro e' w2 ⟨rfl,av,lv,ha1,hl1,h2⟩;have H2:=Lib.hid h2;clear h2)
   go_roundw
   case rel=>
    refine⟨P2,(⟨a',b',A,lk⟩,av,lv) :: M,by simp only [List.length_cons];go_num,by simp only [List.length_cons];exact HI.out.2.2.2.1,Lib.hid (by rw [List.reverse_cons,List.map_append];exact H2.out),Lib.hid (by rw [List.reverse_cons,List.map_append,List.append_assoc,List.length_cons];exact HST.out),Lib.hid ⟨HI.out.1,?_,?_,?_⟩⟩
    ·rw [List.reverse_cons,List.map_append]
     intro l hl;rcases List.mem_append.1 hl with hl|hl
     ·exact hI.out.2.1 l hl
     ·have:l=(av,lv):=by simpa using hl
      subst this;exact⟨ha1,hl1⟩
    ·intro j m hj
     rw [List.reverse_cons]at hj;by_cases hjm:j<M.length
     ·rw [List.getElem?_append_left (by rw [List.length_reverse];exact hjm)]at hj
      exact HI.out.2.1 j m hj
     ·have hjl:=(List.getElem?_eq_some_iff.1 hj).1
      have hje:j=M.length:=by simp at hjl;omega
      subst hje;rw [List.getElem?_append_right (by simp)]at hj;simp at hj;subst hj;exact HI.out.2.2.1
    ·intro m hm
     rcases List.mem_cons.1 hm with rfl|hm
     ·exact HI.out.2.2.2.2
     ·exact hI.out.2.2.2 m hm
   case measure=>simp [intOf];omega
  ·have hi : ¬(M.length:Int)<(P.length:Int):=by omega
   have hMe:M.length=P.length:=by omega
   have hD:M.reverse.map (·.1)=G:=by
    rw [←hx.out]
    have:runR w r (most w r-M.length) M.length P=[]:=by
     cases most w r-M.length with
     | zero=>rfl
     | succ f=>unfold runR;rw [List.getElem?_eq_none (by omega)]
    rw [this,List.append_nil]
   have HV:=Lib.hid (qjt hSo hMe (by have:=hf.pr;omega) hI.out.2.2.1 hI.out.2.2.2);have HB:=Lib.hid hSo.bel;rw [hD]at HV;clear hx hSX hSo hI hD;go_wp2;go_ret;exact⟨_,rfl,HV.out,HB.out⟩
end Go.Proofs.YtgpjhibdongmbaaGreatDoor
