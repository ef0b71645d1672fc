import Derived.Test.YtgpjhibdongmbaaGreatDoorRsR31S
import Derived.Test.YtgpjhibdongmbaaGreatDoorRsRes9
import Derived.Test.YtgpjhibdongmbaaGreatDoorRsR31F
set_option maxRecDepth 100000
set_option maxHeartbeats 4000000
set_option linter.unusedVariables false
set_option linter.unusedSimpArgs false
namespace Go.Proofs.YtgpjhibdongmbaaGreatDoor
open Go.RowKit Ck Rs
theorem rC129 {a:Act} {ρ:Operand->Value} (h : ∀x,ρ x=a.eval x):(∀c,ρ (.const c)=c)/\∀f,ρ (.func f)=.func (.func f) #[] #[]:=⟨fun c=>h (.const c),fun f=>h (.func f)⟩
theorem own_new {w:World} {vs:List Value} {t:TypeId} {z:Nat} (hz:vs.length=z):(w.alloc (.cells vs.toArray t)).ownsRow w.heap.size t z (.slice (some ⟨w.heap.size,0,none⟩) 1 1) 1 vs:=by
 refine⟨by rw [Nat.one_mul];exact hz,.inr ⟨w.heap.size,1,vs.toArray,rfl,Nat.le_refl _,heap_alloc_new _ _,Nat.le_refl _,by decide,by rw [Nat.one_mul];exact hz,?_⟩⟩;rw [Nat.one_mul,List.take_of_length_le (by simp [hz])]
theorem row_pos {w:World} {B:Nat} {e:TypeId} {z n:Nat} {v:Value} {xs:List Value} (h:w.ownsRow B e z v n xs) (hn:0<n) : ∃g c,v=.slice (some ⟨g,0,none⟩) n c:=by
 rcases h.2 with⟨_,h0⟩|⟨g',cap,cur,hv,_⟩
 ·omega
 ·exact⟨g',cap,hv⟩
theorem actR_no {w r:PPlan} {h:PProg} {o:POp} {P:List (Int × Int)} (hop:opOf h o.num=none):actR w r h o P=(⟨o.num,1, -1⟩,P):=by unfold actR;rw [hop]
theorem qii {w r:PPlan} {h:PProg} {o y:POp} {P:List (Int × Int)} (hop:opOf h o.num=some y) (hc : ¬(qac w r o y ≠ 4/\o.kind=10)):actR w r h o P=(⟨o.num,qac w r o y, -1⟩,P):=by
 unfold actR;rw [hop];show(if _ then _ else _)=_
 rw [if_neg hc]
theorem actR_old {w r:PPlan} {h:PProg} {o y:POp} {P:List (Int × Int)} {i:Nat} (hop:opOf h o.num=some y) (hc:qac w r o y ≠ 4/\o.kind=10) (hi:qce P o.tgt y.tgt=some i):actR w r h o P=(⟨o.num,qac w r o y,(i:Int)⟩,P):=by
 unfold actR qb4;rw [hop];show(if _ then _ else _)=_
 rw [if_pos hc,hi]
theorem actR_new {w r:PPlan} {h:PProg} {o y:POp} {P:List (Int × Int)} (hop:opOf h o.num=some y) (hc:qac w r o y ≠ 4/\o.kind=10) (hi:qce P o.tgt y.tgt=none):actR w r h o P=(⟨o.num,qac w r o y,(P.length:Int)⟩,P ++ [(o.tgt,y.tgt)]):=by
 unfold actR qb4;rw [hop];show(if _ then _ else _)=_
 rw [if_pos hc,hi]
theorem rf_Make (p q:PPlan) (p1 p2 p3 p4:Option Addr) (c1 c2 c3 c4:Nat) (nm:Str) (W:World) (hG:Pl p q p1 p2 p3 p4 c1 c2 c3 c4 W) (hd:Gd p q) :
  Calls Tryz.prog 12 #[.agg #[.slice p1 p.progs.length c1,.slice p2 p.enums.length c2],.agg #[.slice p3 q.progs.length c3,.slice p4 q.enums.length c4],.string (S nm)] W (qe0 W (makeR p q nm)):=by
 have hS0:=((ST.start W).addbox #[.slice p1 p.progs.length c1,.slice p2 p.enums.length c2] 25).addbox #[.slice p3 q.progs.length c3,.slice p4 q.enums.length c4] 25;simp only [World.size_alloc]at hS0;have H0:=Lib.hid hS0;have KS:=Lib.hid (fun WW (T:ST W [] [⟨W.heap.size+1,#[.slice p3 q.progs.length c3,.slice p4 q.enums.length c4],25⟩,⟨W.heap.size,#[.slice p1 p.progs.length c1,.slice p2 p.enums.length c2],25⟩] WW)=>show(WW.cell? ⟨W.heap.size,0,none⟩=some (.slice p1 p.progs.length c1)/\WW.cell? ⟨W.heap.size,1,none⟩=some (.slice p2 p.enums.length c2)/\WW.cell? ⟨W.heap.size+1,0,none⟩=some (.slice p3 q.progs.length c3)/\WW.cell? ⟨W.heap.size+1,1,none⟩=some (.slice p4 q.enums.length c4))from⟨T.cell 1 rfl 0,T.cell 1 rfl 1,T.cell 0 rfl 0,T.cell 0 rfl 1⟩);have CF1:=Lib.hid (fun WW (T:ST W [] [⟨W.heap.size+1,#[.slice p3 q.progs.length c3,.slice p4 q.enums.length c4],25⟩,⟨W.heap.size,#[.slice p1 p.progs.length c1,.slice p2 p.enums.length c2],25⟩] WW)=>qem p _ nm WW (show VPlan WW [.slice p1 p.progs.length c1,.slice p2 p.enums.length c2] p from⟨_,_,rfl,hG.g0.bel VProg.stays T.bel,hG.g1.bel VEnum.stays T.bel⟩));have CF2:=Lib.hid (fun WW (T:ST W [] [⟨W.heap.size+1,#[.slice p3 q.progs.length c3,.slice p4 q.enums.length c4],25⟩,⟨W.heap.size,#[.slice p1 p.progs.length c1,.slice p2 p.enums.length c2],25⟩] WW)=>qem q _ nm WW (show VPlan WW [.slice p3 q.progs.length c3,.slice p4 q.enums.length c4] q from⟨_,_,rfl,hG.g2.bel VProg.stays T.bel,hG.g3.bel VEnum.stays T.bel⟩));have HPL:=Lib.hid hG;clear hG hS0;unfold qe0;cases hpa:qbg p nm with
 | none=>
  cases hpb:qbg q nm with
  | none=>
   rw [qkk (.inl hpa)];rw [qi1 hpa]at CF1;rw [qi1 hpb]at CF2;clear HPL hd hpa hpb
   go_enter Tryz.func12,Tryz.ntmps12
   go_upto_region 1 with(fail)
   obtain⟨x0,x1,x2,x3⟩:=KS.out _ H0.out
   go_wp2_with (first|(go_at_call 25;(with_reducible refine(CF1.out _ H0.out).mono ?_);rintro e' w1 ⟨rfl,k1⟩;have k1:Bel _ w1:=k1;have H1:=Lib.hid (H0.out.belw k1);obtain⟨x0,x1,x2,x3⟩:=KS.out _ H1.out;clear k1)|(go_at_call 25;(with_reducible refine(CF2.out _ H1.out).mono ?_);rintro e' w2 ⟨rfl,k2⟩;have k2:Bel _ w2:=k2;have H2:=Lib.hid (H1.out.belw k2);obtain⟨x0,x1,x2,x3⟩:=KS.out _ H2.out;clear k2))
   go_ret2;exact⟨_,rfl,Sl.nil _ _ _ _ _,H2.out.bel⟩
  | some b=>
   rw [qkk (.inl hpa)];rw [qi1 hpa]at CF1;rw [qi0 hpb]at CF2;clear HPL hd hpa hpb
   go_enter Tryz.func12,Tryz.ntmps12
   go_upto_region 1 with(fail)
   obtain⟨x0,x1,x2,x3⟩:=KS.out _ H0.out
   go_wp2_with (first|(go_at_call 25;(with_reducible refine(CF1.out _ H0.out).mono ?_);rintro e' w1 ⟨rfl,k1⟩;have k1:Bel _ w1:=k1;have H1:=Lib.hid (H0.out.belw k1);obtain⟨x0,x1,x2,x3⟩:=KS.out _ H1.out;clear k1)|(go_at_call 25;(with_reducible refine(CF2.out _ H1.out).mono ?_);rintro e' w2 ⟨rfl,k2⟩;have k2:Bel _ w2:=k2;have H2:=Lib.hid (H1.out.belw k2);obtain⟨x0,x1,x2,x3⟩:=KS.out _ H2.out;clear k2))
   go_ret2;exact⟨_,rfl,Sl.nil _ _ _ _ _,H2.out.bel⟩
 | some a=>
  cases hpb:qbg q nm with
  | none=>
   rw [qkk (.inr hpb)];rw [qi0 hpa]at CF1;rw [qi1 hpb]at CF2;clear HPL hd hpa hpb
   go_enter Tryz.func12,Tryz.ntmps12
   go_upto_region 1 with(fail)
   obtain⟨x0,x1,x2,x3⟩:=KS.out _ H0.out
   go_wp2_with (first|(go_at_call 25;(with_reducible refine(CF1.out _ H0.out).mono ?_);rintro e' w1 ⟨rfl,k1⟩;have k1:Bel _ w1:=k1;have H1:=Lib.hid (H0.out.belw k1);obtain⟨x0,x1,x2,x3⟩:=KS.out _ H1.out;clear k1)|(go_at_call 25;(with_reducible refine(CF2.out _ H1.out).mono ?_);rintro e' w2 ⟨rfl,k2⟩;have k2:Bel _ w2:=k2;have H2:=Lib.hid (H1.out.belw k2);obtain⟨x0,x1,x2,x3⟩:=KS.out _ H2.out;clear k2))
   go_ret2;exact⟨_,rfl,Sl.nil _ _ _ _ _,H2.out.bel⟩
  | some b=>
   obtain⟨g0,hga,_,hal⟩:=qbl hpa;obtain⟨h0,hhb,_,hbl⟩:=qbl hpb;have ha:(0:Int)<=(a:Int)/\(a:Int)<(p.progs.length:Int):=⟨by omega,by omega⟩;have hb:(0:Int)<=(b:Int)/\(b:Int)<(q.progs.length:Int):=⟨by omega,by omega⟩;rw [mk_some hpa hpb];rw [qi0 hpa]at CF1;rw [qi0 hpb]at CF2;obtain⟨_,_,he1,_,_,hel1⟩:=HPL.out.g0;cases he1;obtain⟨pb,poff,rfl,_,_,_,_⟩:=hel1 a g0 hga;have EG:=Lib.hid hel1;obtain⟨_,_,he3,_,_,hel3⟩:=HPL.out.g2;cases he3;obtain⟨qb,qoff,rfl,_,_,_,_⟩:=hel3 b h0 hhb;have EQ:=Lib.hid hel3;obtain⟨G,hGd⟩ : ∃G,G=fromR p q a b:=⟨_,rfl⟩;have V:=Lib.hid (show([]:List PAdapt) ++ runR p q (most p q-0) 0 [((a:Int),(b:Int))]=G from hGd.symm);rw [←hGd];have hP1:=Lib.hid (qgf ha hb);clear hel1 hel3 hGd hga hhb hal hbl hpa hpb ha hb
   go_enter Tryz.func12,Tryz.ntmps12
   go_upto_region 1 with(fail)
   obtain⟨x0,x1,x2,x3⟩:=KS.out _ H0.out
   go_upto_region 5 with(first|(go_at_call 25;(with_reducible refine(CF1.out _ H0.out).mono ?_);rintro e' w1 ⟨rfl,k1⟩;have k1:Bel _ w1:=k1;have H1:=Lib.hid (H0.out.belw k1);obtain⟨x0,x1,x2,x3⟩:=KS.out _ H1.out;clear k1)|(go_at_call 25;(with_reducible refine(CF2.out _ H1.out).mono ?_);rintro e' w2 ⟨rfl,k2⟩;have k2:Bel _ w2:=k2;have H2:=Lib.hid (H1.out.belw k2);obtain⟨x0,x1,x2,x3⟩:=KS.out _ H2.out;clear k2))
   clear x0 x1 x2 x3 CF1 CF2 H0 H1 KS;have H3:=Lib.hid (H2.out.addrow ((Bel.refl w2).alloc _) (own_new (w:=w2) (vs:=[.int .i64 (a:Int),.int .i64 (b:Int),.slice none 0 0,.slice none 0 0]) (t:=44) (z:=4) rfl))
   go_upto_region 6 with(fail)
   generalize hlb:w2.heap.size=lb at H3 ⊢;generalize hwz:World.alloc w2 _=wz at H3 ⊢;clear hlb hwz H2;have H3:=Lib.hid (show ST W [⟨44,4,.slice (some ⟨lb,0,none⟩) 1 1,[((a:Int),(b:Int))].length,outR [((a:Int),(b:Int))] []⟩] (⟨W.heap.size+1,#[.slice (some ⟨qb,qoff,none⟩) q.progs.length c3,.slice p4 q.enums.length c4],25⟩ :: ⟨W.heap.size,#[.slice (some ⟨pb,poff,none⟩) p.progs.length c1,.slice p2 p.enums.length c2],25⟩ :: []) wz from H3.out);go_wp2
   go_loopw [12,13] (fun lv i wr => ∃(P:List (Int × Int)) (M:List (PAdapt × Value × Value)) (vo:Value),vo=lv/\i=.int .i64 (M.length:Int)/\M.length<=P.length/\Hid (ST W (⟨44,4,vo,P.length,outR P (M.reverse.map (·.2))⟩ :: qel M) (⟨W.heap.size+1,#[.slice (some ⟨qb,qoff,none⟩) q.progs.length c3,.slice p4 q.enums.length c4],25⟩ :: ⟨W.heap.size,#[.slice (some ⟨pb,poff,none⟩) p.progs.length c1,.slice p2 p.enums.length c2],25⟩ :: []) wr)/\Hid (M.reverse.map (·.1) ++ runR p q (most p q-M.length) M.length P=G)/\Hid (qao p q P/\AllSl (M.reverse.map (·.2))/\(∀(j:Nat) m,M.reverse[j]? = some m->P[j]? = some (m.1.w,m.1.r))/\∀m ∈ M,m.1.acts.length<=140737488355328/\m.1.lacks.length<=140737488355328)) (fun _ i _=>most p q-(intOf i).toNat)
   case atStart=>exact⟨[((a:Int),(b:Int))],[],_,rfl,rfl,by simp,H3,V,Lib.hid ⟨hP1.out,(fun l h=>by cases h),(fun j m h=>by simp at h),fun m h=>by cases h⟩⟩
   case round=>as_aux_lemma=>
    clear H3 V hP1;obtain⟨P,M,vo,rfl,rfl,hMP,hS,hx,hI⟩:=hrel;have hpl:=qbw hI.out.1;have hpm:P.length<=1000000:=Nat.le_trans hpl hd.few.pr;have hmost:most p q=p.progs.length*q.progs.length+1:=rfl;by_cases hlt:M.length<P.length
    ·skip
     obtain⟨x,hxP⟩ : ∃x,P[M.length]? = some x:=⟨_,List.getElem?_eq_getElem hlt⟩;obtain⟨a',b'⟩:=x;obtain⟨r1,r2⟩:=hI.out.1.2 _ (List.mem_of_getElem? hxP);dsimp only at r1 r2;obtain⟨na,hna⟩ : ∃n:Nat,a'=(n:Int):=⟨a'.toNat,by omega⟩;obtain⟨nb,hnb⟩ : ∃n:Nat,b'=(n:Int):=⟨b'.toNat,by omega⟩;subst hna hnb;obtain⟨g,hg,hgm⟩:=qct r1.1 r1.2;obtain⟨h,hh,hhm⟩:=qct r2.1 r2.2;have hst:=hx.out;rw [show most p q-M.length=(most p q-(M.length+1))+1 by omega]at hst;unfold runR at hst;rw [hxP]at hst;dsimp only at hst;rw [hg,hh]at hst;dsimp only at hst;rw [Int.toNat_natCast]at hg hh;obtain⟨_,q2⟩:=qcr (qb7 hd.vw) (qb7 hd.vr) hgm hhm g.ops [] P (fun _ h=>h) hI.out.1;have q3:=(qdc (qb7 hd.vw) (qb7 hd.vr) hgm hhm g.ops [] P (fun _ h=>h) hI.out.1 (List.prefix_refl _)).1;have q4:(qcf g h).length<=h.ops.length:=by unfold qcf;rw [List.length_map];exact List.length_filter_le ..
     have hgz:g.ops.length<=1000000:=hd.few.wo g hgm;have hhz:h.ops.length<=1000000:=hd.few.ro h hhm;obtain⟨G1,hG1⟩ : ∃G1,G1=qb8 p q h g.ops [] P:=⟨_,rfl⟩;have hGd:=Lib.hid (show qb8 p q h g.ops [] P=G1 from hG1.symm);rw [←hG1]at hst q2 q3;obtain⟨og,oc,hvo⟩:=row_pos (hS.out.row 0 rfl) (show 0<P.length by omega);dsimp only at hvo;subst hvo;obtain⟨L,hL0⟩ : ∃L,L=M.reverse.map (·.2):=⟨_,rfl⟩;obtain⟨R,hR0⟩ : ∃R,R=qel M:=⟨_,rfl⟩;have HLl:=Lib.hid (show L.length=M.length by rw [hL0,List.length_map,List.length_reverse]);have hA:AllSl L:=by rw [hL0];exact hI.out.2.1
     have T:=Lib.hid (show ST W (⟨44,4,.slice (some ⟨og,0,none⟩) P.length oc,P.length,outR P L⟩ :: R) (⟨W.heap.size+1,#[.slice (some ⟨qb,qoff,none⟩) q.progs.length c3,.slice p4 q.enums.length c4],25⟩ :: ⟨W.heap.size,#[.slice (some ⟨pb,poff,none⟩) p.progs.length c1,.slice p2 p.enums.length c2],25⟩ :: []) wr from by rw [hL0,hR0];exact hS.out);have hL:=Lib.hid hL0;have hR:=Lib.hid hR0;have HXP:=Lib.hid hxP
     have HI:=Lib.hid (show ∀(A:List PAct) (P2:List (Int × Int)) (lk:List Int),(A,P2)=G1->lk=qcf g h->(P <+: P2/\(M.reverse.map (·.1) ++ [⟨(na:Int),(nb:Int),A,lk⟩]) ++ runR p q (most p q-(M.length+1)) (M.length+1) P2=G/\A.length<=140737488355328/\lk.length<=140737488355328)from fun A P2 lk e1 e2=>by
      subst e2;rw [←e1]at q2 q3 hst
      refine⟨q2,by rw [List.append_assoc];exact hst,by simp at q3;omega,by omega⟩)
     obtain⟨o0,o1,_,_⟩:=qcm P L _ _ hxP;have HO0:=Lib.hid o0;have HO1:=Lib.hid o1;obtain⟨pb',poff',hpe,_,vg,hcg,hvg⟩:=EG.out na g hg;cases hpe;obtain⟨qb',qoff',hqe,_,vh,hch,hvh⟩:=EQ.out nb h hh;cases hqe;obtain⟨gq,gc,rfl,hgo,lgo⟩:=hvg.form;obtain⟨hq,hc,rfl,hho,lho⟩:=hvh.form;have HGC:=Lib.hid hcg;have HHC:=Lib.hid hch;have HGO:=Lib.hid hgo;have HHO:=Lib.hid hho;have i0:(0:Int)<=(M.length:Int):=by omega
     have i1:(M.length:Int)<(P.length:Int):=by omega
     have j0:(0:Int)<=(na:Int):=by omega
     have j1:(na:Int)<(p.progs.length:Int):=r1.2;have m0:(0:Int)<=(nb:Int):=by omega
     have m1:(nb:Int)<(q.progs.length:Int):=r2.2;clear hx hst q2 q3 q4 hG1 hS hL0 hR0 o0 o1 hcg hch hvg hvh hgo hho hg hh hxP r1 r2
     go_upto_region 9 with(fail)
     go_cut [14] (fun s14 wx => ∃gA,s14=.pointer (some ⟨gA,0,none⟩)/\Hid (ST W (⟨44,4,.slice (some ⟨og,0,none⟩) P.length oc,P.length,outR P L⟩ :: R) (⟨gA,#[.string (S g.name),.slice gq g.ops.length gc,.int .i64 g.uns],52⟩ :: ⟨W.heap.size+1,#[.slice (some ⟨qb,qoff,none⟩) q.progs.length c3,.slice p4 q.enums.length c4],25⟩ :: ⟨W.heap.size,#[.slice (some ⟨pb,poff,none⟩) p.progs.length c1,.slice p2 p.enums.length c2],25⟩ :: []) wx))
     case first=>as_aux_lemma=>
      obtain⟨wd,hwd⟩ : ∃x,x=wr.drew:=⟨_,rfl⟩;have T:=Lib.hid (show ST W (⟨44,4,.slice (some ⟨og,0,none⟩) P.length oc,P.length,outR P L⟩ :: R) (⟨W.heap.size+1,#[.slice (some ⟨qb,qoff,none⟩) q.progs.length c3,.slice p4 q.enums.length c4],25⟩ :: ⟨W.heap.size,#[.slice (some ⟨pb,poff,none⟩) p.progs.length c1,.slice p2 p.enums.length c2],25⟩ :: []) wd by rw [hwd];exact T.out.belw (Bel.refl _).drew);have HWD:=Lib.hid hwd;clear hwd;clear hGd HI hL hR HXP HHC HGO HHO hI hd EG EQ HPL;have KS:=Lib.hid (fun WW (hh:ST W (⟨44,4,.slice (some ⟨og,0,none⟩) P.length oc,P.length,outR P L⟩ :: R) (⟨W.heap.size+1,#[.slice (some ⟨qb,qoff,none⟩) q.progs.length c3,.slice p4 q.enums.length c4],25⟩ :: ⟨W.heap.size,#[.slice (some ⟨pb,poff,none⟩) p.progs.length c1,.slice p2 p.enums.length c2],25⟩ :: []) WW)=>show(WW.cell? ⟨W.heap.size,0,none⟩=some (.slice (some ⟨pb,poff,none⟩) p.progs.length c1)/\WW.cell? ⟨W.heap.size+1,0,none⟩=some (.slice (some ⟨qb,qoff,none⟩) q.progs.length c3))/\(WW.cell? ⟨og,M.length*4,none⟩=some (.int .i64 (na:Int))/\WW.cell? ⟨og,M.length*4+1,none⟩=some (.int .i64 (nb:Int)))/\WW.cell? ⟨pb,poff+na*3,none⟩=some (.string (S g.name))/\WW.cell? ⟨pb,poff+na*3+1,none⟩=some (.slice gq g.ops.length gc)/\WW.cell? ⟨pb,poff+na*3+2,none⟩=some (.int .i64 g.uns)from⟨⟨hh.cell 1 rfl 0,hh.cell 0 rfl 0⟩,⟨hh.rowcell (g:=og) 0 rfl rfl _ _ HO0.out,hh.rowcell (g:=og) 0 rfl rfl _ _ HO1.out⟩,by have:=hh.bel.some (HGC.out 0 _ rfl);rwa [Nat.add_zero]at this,hh.bel.some (HGC.out 1 _ rfl),hh.bel.some (HGC.out 2 _ rfl)⟩);clear HGC;refine qag (fun WW=>ST W (⟨44,4,.slice (some ⟨og,0,none⟩) P.length oc,P.length,outR P L⟩ :: R) (⟨W.heap.size+1,#[.slice (some ⟨qb,qoff,none⟩) q.progs.length c3,.slice p4 q.enums.length c4],25⟩ :: ⟨W.heap.size,#[.slice (some ⟨pb,poff,none⟩) p.progs.length c1,.slice p2 p.enums.length c2],25⟩ :: []) WW) (.take 0 (.take 1 (.take 2 (.take 3 (.take 4 (.take 5 (.take 6 (.take 7 (.take 8 (.alt 9 .done .no)))))))))) 10 (by kernel_rfl) (by kernel_rfl) HWD.out T.out (fun a ha=>?_)
      (simp only [pickT,List.getD_cons_zero,List.getD_cons_succ])
      have hsz:a.tmps.size=190:=(by rw [ha];kernel_rfl);have a12:a.eval (.tmp 12)=.slice (some ⟨og,0,none⟩) P.length oc:=(by rw [ha];kernel_rfl);have a13:a.eval (.tmp 13)=.int .i64 (M.length:Int):=(by rw [ha];kernel_rfl);have a3:a.eval (.tmp 3)=.pointer (some ⟨W.heap.size,0,none⟩):=(by rw [ha];kernel_rfl)
      (with_reducible refine qa1 (v:=?_) rfl (by with_unfolding_all rfl) (fun ρ hρ W hW=>?_) ?_);(rotate_left 1)
      focus(clear hW;have p3:=hρ (.tmp 3);(simp +decide only [qa2,hsz,ev_eq,ev_ne,a12,a13,a3]at p3);obtain⟨hc,hfn⟩:=rC129 hρ;clear hρ;go_simp;(all_goals with_reducible first|rfl|(constructor <;> rfl)))
      (with_reducible refine qa1 (v:=?_) rfl (by with_unfolding_all rfl) (fun ρ hρ W hW=>?_) ?_);(rotate_left 1)
      focus(have hS:=KS.out _ hW;clear hW;have p56:=hρ (.tmp 56);(simp +decide only [qa2,hsz,ev_eq,ev_ne,a12,a13,a3]at p56);obtain⟨hc,hfn⟩:=rC129 hρ;clear hρ;go_simp;(all_goals with_reducible first|rfl|(constructor <;> rfl)))
      (with_reducible refine qa1 (v:=?_) rfl (by with_unfolding_all rfl) (fun ρ hρ W hW=>?_) ?_);(rotate_left 1)
      focus(clear hW;have p12:=hρ (.tmp 12);(simp +decide only [qa2,hsz,ev_eq,ev_ne,a12,a13,a3]at p12);obtain⟨hc,hfn⟩:=rC129 hρ;clear hρ;go_simp;(all_goals with_reducible first|rfl|(constructor <;> rfl)))
      (with_reducible refine qa1 (v:=?_) rfl (by with_unfolding_all rfl) (fun ρ hρ W hW=>?_) ?_);(rotate_left 1)
      focus(clear hW;have p13:=hρ (.tmp 13);(simp +decide only [qa2,hsz,ev_eq,ev_ne,a12,a13,a3]at p13);obtain⟨hc,hfn⟩:=rC129 hρ;clear hρ;go_simp;(all_goals with_reducible first|rfl|(constructor <;> rfl)))
      (with_reducible refine qa1 (v:=?_) rfl (by with_unfolding_all rfl) (fun ρ hρ W hW=>?_) ?_);(rotate_left 1)
      focus(clear hW;have p58:=hρ (.tmp 58);have p59:=hρ (.tmp 59);(simp +decide only [qa2,hsz,ev_eq,ev_ne,a12,a13,a3]at p58 p59);obtain⟨hc,hfn⟩:=rC129 hρ;clear hρ;go_simp;(all_goals with_reducible first|rfl|(constructor <;> rfl)))
      (with_reducible refine qa1 (v:=?_) rfl (by with_unfolding_all rfl) (fun ρ hρ W hW=>?_) ?_);(rotate_left 1)
      focus(clear hW;have p60:=hρ (.tmp 60);(simp +decide only [qa2,hsz,ev_eq,ev_ne,a12,a13,a3]at p60);obtain⟨hc,hfn⟩:=rC129 hρ;clear hρ;go_simp;(all_goals with_reducible first|rfl|(constructor <;> rfl)))
      (with_reducible refine qa1 (v:=?_) rfl (by with_unfolding_all rfl) (fun ρ hρ W hW=>?_) ?_);(rotate_left 1)
      focus(have hS:=KS.out _ hW;clear hW;have p61:=hρ (.tmp 61);(simp +decide only [qa2,hsz,ev_eq,ev_ne,a12,a13,a3]at p61);obtain⟨hc,hfn⟩:=rC129 hρ;clear hρ;go_simp;(all_goals with_reducible first|rfl|(constructor <;> rfl)))
      (with_reducible refine qa1 (v:=?_) rfl (by with_unfolding_all rfl) (fun ρ hρ W hW=>?_) ?_);(rotate_left 1)
      focus(clear hW;have p57:=hρ (.tmp 57);have p62:=hρ (.tmp 62);(simp +decide only [qa2,hsz,ev_eq,ev_ne,a12,a13,a3]at p57 p62);obtain⟨hc,hfn⟩:=rC129 hρ;clear hρ;go_simp;(all_goals with_reducible first|rfl|(constructor <;> rfl)))
      (with_reducible refine qa1 (v:=?_) rfl (by with_unfolding_all rfl) (fun ρ hρ W hW=>?_) ?_);(rotate_left 1)
      focus(have hS:=KS.out _ hW;clear hW;have p63:=hρ (.tmp 63);(simp +decide only [qa2,hsz,ev_eq,ev_ne,a12,a13,a3]at p63);obtain⟨hc,hfn⟩:=rC129 hρ;clear hρ;go_simp;(all_goals with_reducible first|rfl|(constructor <;> rfl)))
      (with_reducible refine qb2 (v:=?_) (w':=?_) rfl (by with_unfolding_all rfl) (fun ρ hρ=>?_) ?_ ?_ ?_);(rotate_left 2)
      focus(obtain⟨hc,hfn⟩:=rC129 hρ;clear hρ;go_simp;(all_goals with_reducible first|rfl|(constructor <;> rfl)))
      focus exact(T.out.addbox #[.string ⟨#[]⟩,.slice none 0 0,.int .i64 0] 52).dropbox0
      have T:=Lib.hid (T.out.addbox #[.string ⟨#[]⟩,.slice none 0 0,.int .i64 0] 52);obtain⟨gA,hgb⟩ : ∃g,g=wd.heap.size:=⟨_,rfl⟩;rw [←hgb]at T;rw [←hgb];generalize hA:World.alloc wd _=wa at T ⊢;clear hA hgb;rotate_left 1
      focus exact qak
      with_reducible refine qan ?_
      (simp only [List.drop_succ_cons,List.drop_zero])
      subst ha
      (simp only [qaz,set_s,set_z])
      have HBX:=Lib.hid (T.out.box 0 rfl);refine qa6 rfl 52 _ _ rfl gA #[.string (S g.name),.slice gq g.ops.length gc,.int .i64 g.uns] #[.string ⟨#[]⟩,.slice none 0 0,.int .i64 0] 52 (by with_unfolding_all rfl) (by with_unfolding_all rfl) HBX.out (show(Tryz.prog.info? 52).map (·.size)=some 3 by kernel_rfl) rfl (by simp [Value.oneCell']) ?_;have T:=Lib.hid (T.out.setrowbox 0 rfl #[.string (S g.name),.slice gq g.ops.length gc,.int .i64 g.uns]);generalize hA:World.setRow wa _ _=wz at T ⊢;clear hA HBX;go_wp2;go_meet;exact⟨_,rfl,T⟩
     case rest=>as_aux_lemma=>
      obtain⟨gA,h14,T⟩:=hcut;subst h14;clear HGC
      go_upto_region 10 with(fail)
      go_cut [15] (fun s15 wx => ∃gB,s15=.pointer (some ⟨gB,0,none⟩)/\Hid (ST W (⟨44,4,.slice (some ⟨og,0,none⟩) P.length oc,P.length,outR P L⟩ :: R) (⟨gB,#[.string (S h.name),.slice hq h.ops.length hc,.int .i64 h.uns],52⟩ :: ⟨gA,#[.string (S g.name),.slice gq g.ops.length gc,.int .i64 g.uns],52⟩ :: ⟨W.heap.size+1,#[.slice (some ⟨qb,qoff,none⟩) q.progs.length c3,.slice p4 q.enums.length c4],25⟩ :: ⟨W.heap.size,#[.slice (some ⟨pb,poff,none⟩) p.progs.length c1,.slice p2 p.enums.length c2],25⟩ :: []) wx))
      case first=>as_aux_lemma=>
       obtain⟨wd,hwd⟩ : ∃x,x=wc.drew:=⟨_,rfl⟩;have T:=Lib.hid (show ST W (⟨44,4,.slice (some ⟨og,0,none⟩) P.length oc,P.length,outR P L⟩ :: R) (⟨gA,#[.string (S g.name),.slice gq g.ops.length gc,.int .i64 g.uns],52⟩ :: ⟨W.heap.size+1,#[.slice (some ⟨qb,qoff,none⟩) q.progs.length c3,.slice p4 q.enums.length c4],25⟩ :: ⟨W.heap.size,#[.slice (some ⟨pb,poff,none⟩) p.progs.length c1,.slice p2 p.enums.length c2],25⟩ :: []) wd by rw [hwd];exact T.out.belw (Bel.refl _).drew);have HWD:=Lib.hid hwd;clear hwd;clear hGd HI hL hR HXP HGO HHO hI hd EG EQ HPL;have KS:=Lib.hid (fun WW (hh:ST W (⟨44,4,.slice (some ⟨og,0,none⟩) P.length oc,P.length,outR P L⟩ :: R) (⟨gA,#[.string (S g.name),.slice gq g.ops.length gc,.int .i64 g.uns],52⟩ :: ⟨W.heap.size+1,#[.slice (some ⟨qb,qoff,none⟩) q.progs.length c3,.slice p4 q.enums.length c4],25⟩ :: ⟨W.heap.size,#[.slice (some ⟨pb,poff,none⟩) p.progs.length c1,.slice p2 p.enums.length c2],25⟩ :: []) WW)=>show(WW.cell? ⟨W.heap.size,0,none⟩=some (.slice (some ⟨pb,poff,none⟩) p.progs.length c1)/\WW.cell? ⟨W.heap.size+1,0,none⟩=some (.slice (some ⟨qb,qoff,none⟩) q.progs.length c3))/\(WW.cell? ⟨og,M.length*4,none⟩=some (.int .i64 (na:Int))/\WW.cell? ⟨og,M.length*4+1,none⟩=some (.int .i64 (nb:Int)))/\WW.cell? ⟨qb,qoff+nb*3,none⟩=some (.string (S h.name))/\WW.cell? ⟨qb,qoff+nb*3+1,none⟩=some (.slice hq h.ops.length hc)/\WW.cell? ⟨qb,qoff+nb*3+2,none⟩=some (.int .i64 h.uns)from⟨⟨hh.cell 2 rfl 0,hh.cell 1 rfl 0⟩,⟨hh.rowcell (g:=og) 0 rfl rfl _ _ HO0.out,hh.rowcell (g:=og) 0 rfl rfl _ _ HO1.out⟩,by have:=hh.bel.some (HHC.out 0 _ rfl);rwa [Nat.add_zero]at this,hh.bel.some (HHC.out 1 _ rfl),hh.bel.some (HHC.out 2 _ rfl)⟩);clear HHC;refine qag (fun WW=>ST W (⟨44,4,.slice (some ⟨og,0,none⟩) P.length oc,P.length,outR P L⟩ :: R) (⟨gA,#[.string (S g.name),.slice gq g.ops.length gc,.int .i64 g.uns],52⟩ :: ⟨W.heap.size+1,#[.slice (some ⟨qb,qoff,none⟩) q.progs.length c3,.slice p4 q.enums.length c4],25⟩ :: ⟨W.heap.size,#[.slice (some ⟨pb,poff,none⟩) p.progs.length c1,.slice p2 p.enums.length c2],25⟩ :: []) WW) (.take 0 (.take 1 (.take 2 (.take 3 (.take 4 (.take 5 (.take 6 (.take 7 (.take 8 (.alt 9 .done .no)))))))))) 10 (by kernel_rfl) (by kernel_rfl) HWD.out T.out (fun a ha=>?_)
       (simp only [pickT,List.getD_cons_zero,List.getD_cons_succ])
       have hsz:a.tmps.size=190:=(by rw [ha];kernel_rfl);have a12:a.eval (.tmp 12)=.slice (some ⟨og,0,none⟩) P.length oc:=(by rw [ha];kernel_rfl);have a13:a.eval (.tmp 13)=.int .i64 (M.length:Int):=(by rw [ha];kernel_rfl);have a4:a.eval (.tmp 4)=.pointer (some ⟨W.heap.size+1,0,none⟩):=(by rw [ha];kernel_rfl)
       (with_reducible refine qa1 (v:=?_) rfl (by with_unfolding_all rfl) (fun ρ hρ W hW=>?_) ?_);(rotate_left 1)
       focus(clear hW;have p4:=hρ (.tmp 4);(simp +decide only [qa2,hsz,ev_eq,ev_ne,a12,a13,a4]at p4);obtain⟨hc,hfn⟩:=rC129 hρ;clear hρ;go_simp;(all_goals with_reducible first|rfl|(constructor <;> rfl)))
       (with_reducible refine qa1 (v:=?_) rfl (by with_unfolding_all rfl) (fun ρ hρ W hW=>?_) ?_);(rotate_left 1)
       focus(have hS:=KS.out _ hW;clear hW;have p65:=hρ (.tmp 65);(simp +decide only [qa2,hsz,ev_eq,ev_ne,a12,a13,a4]at p65);obtain⟨hc,hfn⟩:=rC129 hρ;clear hρ;go_simp;(all_goals with_reducible first|rfl|(constructor <;> rfl)))
       (with_reducible refine qa1 (v:=?_) rfl (by with_unfolding_all rfl) (fun ρ hρ W hW=>?_) ?_);(rotate_left 1)
       focus(clear hW;have p12:=hρ (.tmp 12);(simp +decide only [qa2,hsz,ev_eq,ev_ne,a12,a13,a4]at p12);obtain⟨hc,hfn⟩:=rC129 hρ;clear hρ;go_simp;(all_goals with_reducible first|rfl|(constructor <;> rfl)))
       (with_reducible refine qa1 (v:=?_) rfl (by with_unfolding_all rfl) (fun ρ hρ W hW=>?_) ?_);(rotate_left 1)
       focus(clear hW;have p13:=hρ (.tmp 13);(simp +decide only [qa2,hsz,ev_eq,ev_ne,a12,a13,a4]at p13);obtain⟨hc,hfn⟩:=rC129 hρ;clear hρ;go_simp;(all_goals with_reducible first|rfl|(constructor <;> rfl)))
       (with_reducible refine qa1 (v:=?_) rfl (by with_unfolding_all rfl) (fun ρ hρ W hW=>?_) ?_);(rotate_left 1)
       focus(clear hW;have p67:=hρ (.tmp 67);have p68:=hρ (.tmp 68);(simp +decide only [qa2,hsz,ev_eq,ev_ne,a12,a13,a4]at p67 p68);obtain⟨hc,hfn⟩:=rC129 hρ;clear hρ;go_simp;(all_goals with_reducible first|rfl|(constructor <;> rfl)))
       (with_reducible refine qa1 (v:=?_) rfl (by with_unfolding_all rfl) (fun ρ hρ W hW=>?_) ?_);(rotate_left 1)
       focus(clear hW;have p69:=hρ (.tmp 69);(simp +decide only [qa2,hsz,ev_eq,ev_ne,a12,a13,a4]at p69);obtain⟨hc,hfn⟩:=rC129 hρ;clear hρ;go_simp;(all_goals with_reducible first|rfl|(constructor <;> rfl)))
       (with_reducible refine qa1 (v:=?_) rfl (by with_unfolding_all rfl) (fun ρ hρ W hW=>?_) ?_);(rotate_left 1)
       focus(have hS:=KS.out _ hW;clear hW;have p70:=hρ (.tmp 70);(simp +decide only [qa2,hsz,ev_eq,ev_ne,a12,a13,a4]at p70);obtain⟨hc,hfn⟩:=rC129 hρ;clear hρ;go_simp;(all_goals with_reducible first|rfl|(constructor <;> rfl)))
       (with_reducible refine qa1 (v:=?_) rfl (by with_unfolding_all rfl) (fun ρ hρ W hW=>?_) ?_);(rotate_left 1)
       focus(clear hW;have p66:=hρ (.tmp 66);have p71:=hρ (.tmp 71);(simp +decide only [qa2,hsz,ev_eq,ev_ne,a12,a13,a4]at p66 p71);obtain⟨hc,hfn⟩:=rC129 hρ;clear hρ;go_simp;(all_goals with_reducible first|rfl|(constructor <;> rfl)))
       (with_reducible refine qa1 (v:=?_) rfl (by with_unfolding_all rfl) (fun ρ hρ W hW=>?_) ?_);(rotate_left 1)
       focus(have hS:=KS.out _ hW;clear hW;have p72:=hρ (.tmp 72);(simp +decide only [qa2,hsz,ev_eq,ev_ne,a12,a13,a4]at p72);obtain⟨hc,hfn⟩:=rC129 hρ;clear hρ;go_simp;(all_goals with_reducible first|rfl|(constructor <;> rfl)))
       (with_reducible refine qb2 (v:=?_) (w':=?_) rfl (by with_unfolding_all rfl) (fun ρ hρ=>?_) ?_ ?_ ?_);(rotate_left 2)
       focus(obtain⟨hc,hfn⟩:=rC129 hρ;clear hρ;go_simp;(all_goals with_reducible first|rfl|(constructor <;> rfl)))
       focus exact(T.out.addbox #[.string ⟨#[]⟩,.slice none 0 0,.int .i64 0] 52).dropbox0
       have T:=Lib.hid (T.out.addbox #[.string ⟨#[]⟩,.slice none 0 0,.int .i64 0] 52);obtain⟨gB,hgb⟩ : ∃g,g=wd.heap.size:=⟨_,rfl⟩;rw [←hgb]at T;rw [←hgb];generalize hA:World.alloc wd _=wa at T ⊢;clear hA hgb;rotate_left 1
       focus exact qak
       with_reducible refine qan ?_
       (simp only [List.drop_succ_cons,List.drop_zero])
       subst ha
       (simp only [qaz,set_s,set_z])
       have HBX:=Lib.hid (T.out.box 0 rfl);refine qa6 rfl 52 _ _ rfl gB #[.string (S h.name),.slice hq h.ops.length hc,.int .i64 h.uns] #[.string ⟨#[]⟩,.slice none 0 0,.int .i64 0] 52 (by with_unfolding_all rfl) (by with_unfolding_all rfl) HBX.out (show(Tryz.prog.info? 52).map (·.size)=some 3 by kernel_rfl) rfl (by simp [Value.oneCell']) ?_;have T:=Lib.hid (T.out.setrowbox 0 rfl #[.string (S h.name),.slice hq h.ops.length hc,.int .i64 h.uns]);generalize hA:World.setRow wa _ _=wz at T ⊢;clear hA HBX;go_wp2;go_meet;exact⟨_,rfl,T⟩
      case rest=>as_aux_lemma=>
       obtain⟨gB,h15,T⟩:=hcut;subst h15;clear HHC HO0 HO1 EG EQ;have KS2:=Lib.hid (fun WW {R':List Row} {b1 b2 b3:Box} (hh:ST W R' (b1 :: b2 :: b3 :: ⟨gB,#[.string (S h.name),.slice hq h.ops.length hc,.int .i64 h.uns],52⟩ :: ⟨gA,#[.string (S g.name),.slice gq g.ops.length gc,.int .i64 g.uns],52⟩ :: ⟨W.heap.size+1,#[.slice (some ⟨qb,qoff,none⟩) q.progs.length c3,.slice p4 q.enums.length c4],25⟩ :: ⟨W.heap.size,#[.slice (some ⟨pb,poff,none⟩) p.progs.length c1,.slice p2 p.enums.length c2],25⟩ :: []) WW)=>show WW.cell? ⟨W.heap.size,0,none⟩=some (.slice (some ⟨pb,poff,none⟩) p.progs.length c1)/\WW.cell? ⟨W.heap.size,1,none⟩=some (.slice p2 p.enums.length c2)/\WW.cell? ⟨W.heap.size+1,0,none⟩=some (.slice (some ⟨qb,qoff,none⟩) q.progs.length c3)/\WW.cell? ⟨W.heap.size+1,1,none⟩=some (.slice p4 q.enums.length c4)from⟨hh.cell 6 rfl 0,hh.cell 6 rfl 1,hh.cell 5 rfl 0,hh.cell 5 rfl 1⟩);have HSN:=Lib.hid (T.out.nilrow1 38 3);have z1:=HSN.out.cell 1 rfl 1;dsimp only at z1;have V1:=Lib.hid (show qb8 p q h (g.ops.drop 0) [] P=G1 from hGd.out);have V3:=Lib.hid (show qao p q P/\M.length<P.length from⟨hI.out.1,hlt⟩);clear T;go_wp2
       go_loopw [12,16,17] (fun lv av i wr => ∃(k:Nat) (A:List PAct) (P1:List (Int × Int)) (vo av':Value),vo=lv/\av'=av/\k<=g.ops.length/\i=.int .i64 k/\A.length<=k/\Hid (ST W (⟨44,4,vo,P1.length,outR P1 L⟩ :: ⟨38,3,av',A.length,actCs A⟩ :: R) (⟨gB,#[.string (S h.name),.slice hq h.ops.length hc,.int .i64 h.uns],52⟩ :: ⟨gA,#[.string (S g.name),.slice gq g.ops.length gc,.int .i64 g.uns],52⟩ :: ⟨W.heap.size+1,#[.slice (some ⟨qb,qoff,none⟩) q.progs.length c3,.slice p4 q.enums.length c4],25⟩ :: ⟨W.heap.size,#[.slice (some ⟨pb,poff,none⟩) p.progs.length c1,.slice p2 p.enums.length c2],25⟩ :: []) wr)/\Hid (qb8 p q h (g.ops.drop k) A P1=G1)/\Hid (qao p q P1/\M.length<P1.length)) (fun _ _ i _=>g.ops.length-(intOf i).toNat)
       case atStart=>exact⟨0,[],P,.slice (some ⟨og,0,none⟩) P.length oc,.slice none 0 0,rfl,rfl,by omega,rfl,by simp,HSN,V1,V3⟩
       case round=>as_aux_lemma=>
        clear HSN z1 V1 V3;obtain⟨k,A,P1,vo,av',rfl,rfl,hk,rfl,hAk,hS,hx,hPP⟩:=hrel;have z1:=hS.out.cell 1 rfl 1;dsimp only at z1;by_cases hlt:k<g.ops.length
        ·clear HI HXP hR hL hGd hI
         have hki:(k:Int)<(g.ops.length:Int):=by omega
         have hk0:(0:Int)<=(k:Int):=by omega
         have hg1:=List.getElem?_eq_getElem hlt;obtain⟨_,_,heo,_,_,helo⟩:=HGO.out;cases heo;obtain⟨ob,ooff,rfl,_,vs,hce,hvs⟩:=helo k _ hg1;have hst:=hx.out;rw [List.drop_eq_getElem_cons hlt]at hst;have hmem:=List.getElem_mem hlt;clear hx helo hg1;generalize g.ops[k]=o at *;rw [show vs=opC o from hvs]at hce;have hst:qb8 p q h (g.ops.drop (k+1)) (A ++ [(actR p q h o P1).1]) (actR p q h o P1).2=G1:=hst;obtain⟨hok,hpre⟩:=qg6 (qb7 hd.vw) (qb7 hd.vr) hgm hhm hmem hPP.out.1;have hp1:=qbw hPP.out.1;have hpm1:P1.length<=1000000:=Nat.le_trans hp1 hd.few.pr;obtain⟨oq,oc,hvo⟩:=qar (show wr.ownsRow W.heap.size 44 4 vo P1.length (outR P1 L)from hS.out.row 0 rfl);subst hvo;have CO:=Lib.hid (fun WW (kk:Bel W WW)=>rf_Op h _ o.num WW (show VProg WW [.string (S h.name),.slice hq h.ops.length hc,.int .i64 h.uns] h from⟨_,rfl,HHO.out.bel VOp.stays kk⟩));have CF:=Lib.hid (fun WW (kk:Bel W WW) (y:POp) (hy:opOf h o.num=some y)=>rf_field p q (some ⟨pb,poff,none⟩) p2 (some ⟨qb,qoff,none⟩) p4 c1 c2 c3 c4 o y WW ⟨HPL.out.g0.bel VProg.stays kk,HPL.out.g1.bel VEnum.stays kk,HPL.out.g2.bel VProg.stays kk,HPL.out.g3.bel VEnum.stays kk⟩ ⟨((qb7 hd.vw) g hgm o hmem).2.1,((qb7 hd.vr) h hhm y (qer hy).1).2.1⟩);have e0:=hS.out.bel.some (hce 0 _ rfl);have e1:=hS.out.bel.some (hce 1 _ rfl);have e2:=hS.out.bel.some (hce 2 _ rfl);have e3:=hS.out.bel.some (hce 3 _ rfl);have e4:=hS.out.bel.some (hce 4 _ rfl);have e5:=hS.out.bel.some (hce 5 _ rfl);have e6:=hS.out.bel.some (hce 6 _ rfl);have e7:=hS.out.bel.some (hce 7 _ rfl);rw [Nat.add_zero]at e0;have HX:=Lib.hid (hS.out.addbox #[.int .i64 o.num,.string (S o.name),.string (S o.ali),.int .i64 o.card,.int .i64 o.key,.int .i64 o.kind,.int .i64 o.tgt,.int .i64 o.un] 54);have dg:=hS.out.cell 1 rfl 1;dsimp only at dg;clear hce hvs hS
         go_upto_region 16 with(fail)
         generalize hob1:wr.heap.size=ob1 at HX ⊢;generalize hwz1:World.alloc wr _=wo at HX ⊢;clear e0 e1 e2 e3 e4 e5 e6 e7 dg hob1 hwz1;have y0:=HX.out.cell 0 rfl 0;dsimp only at y0;have HX2:=Lib.hid (HX.out.addbox #[.int .i64 o.num,.int .i64 1,.int .i64 (-1)] 38)
         go_upto_region 17 with(fail)
         generalize hxb1:wo.heap.size=xb at HX2 ⊢;generalize hwz2:World.alloc wo _=wx at HX2 ⊢;clear hxb1 hwz2 y0 HX;have H0:=Lib.hid (show ST W (⟨44,4,.slice oq P1.length oc,P1.length,outR P1 L⟩ :: ⟨38,3,av',A.length,actCs A⟩ :: R) (⟨xb,#[.int .i64 o.num,.int .i64 1,.int .i64 (-1)],38⟩ :: ⟨ob1,#[.int .i64 o.num,.string (S o.name),.string (S o.ali),.int .i64 o.card,.int .i64 o.key,.int .i64 o.kind,.int .i64 o.tgt,.int .i64 o.un],54⟩ :: ⟨gB,#[.string (S h.name),.slice hq h.ops.length hc,.int .i64 h.uns],52⟩ :: ⟨gA,#[.string (S g.name),.slice (some ⟨ob,ooff,none⟩) g.ops.length gc,.int .i64 g.uns],52⟩ :: ⟨W.heap.size+1,#[.slice (some ⟨qb,qoff,none⟩) q.progs.length c3,.slice p4 q.enums.length c4],25⟩ :: ⟨W.heap.size,#[.slice (some ⟨pb,poff,none⟩) p.progs.length c1,.slice p2 p.enums.length c2],25⟩ :: []) wx from HX2.out);clear HX2;have x0:=H0.out.cell 2 rfl 0;have x1:=H0.out.cell 2 rfl 1;have x2:=H0.out.cell 2 rfl 2;dsimp only at x0 x1 x2;have y0:=H0.out.cell 1 rfl 0;dsimp only at y0;clear HPL;cases hop:opOf h o.num with
         | none=>
          rw [hop]at CO;unfold OpOut at CO;dsimp only [opV,opB]at CO;rw [actR_no hop]at hst hok hpre;dsimp only at hst hok hpre;have HST:=Lib.hid hst;have HPP2:=Lib.hid (show qao p q P1/\M.length<P1.length from hPP.out);clear hop hst hok hpre hPP CF
          go_upto_region 26 with(go_at_call 26;(with_reducible refine(CO.out _ H0.out.bel).mono ?_);rintro e' w1 ⟨rfl,k1⟩;have k1:Bel _ w1:=k1;have H1:=Lib.hid (H0.out.belw k1);clear k1)
          have HQ:=Lib.hid (H1.out.addbox #[.int .i64 0,.string ⟨#[]⟩,.string ⟨#[]⟩,.int .i64 0,.int .i64 0,.int .i64 0,.int .i64 0,.int .i64 0] 54);generalize hwz:World.alloc w1 _=wz at HQ ⊢;clear hwz H1 H0 CO x0 x1 x2 y0;have z0:=HQ.out.cell 1 rfl 0;have z1:=HQ.out.cell 1 rfl 1;have z2:=HQ.out.cell 1 rfl 2;dsimp only at z0 z1 z2;have HZ:=Lib.hid (HQ.out.belw ((Bel.refl wz).alloc (.cells #[.int .i64 o.num,.int .i64 1,.int .i64 (-1)] 38)));obtain⟨i1',hi1,hy0,hy1,hy2⟩:=info_parts qci
          skip
          go_wp2_with (at_builtin;refine wpList_append_lies _ rfl _ _ 41 rfl W.heap.size 38 i1' (.agg #[.int .i64 0,.int .i64 0,.int .i64 0]) 3 24 Tryz.underlying41 hi1 hy0 hy1 hy2 rfl (by decide) av' A.length _ rfl (HZ.out.row 1 rfl) ⟨wz.heap.size,0,none⟩ 1 1 [.int .i64 o.num,.int .i64 1,.int .i64 (-1)] rfl rfl (qbh _ _ _) (by simp [Value.oneCell']) (by decide) (by unfold maxLen;omega) (by omega) HZ.out.bel.size (wz.heap.size+1) (by simp) ?_)
          intro g3 cap3 w4 hown hgrow hfr hlt2;have H7:=Lib.hid (HZ.out.grow 1 rfl hgrow hown (qc3 hfr (by simp))).dropbox0.dropbox0.dropbox0;clear hown hgrow hfr hlt2 HZ z0 z1 z2;go_wp2;go_roundw
          case rel=>exact⟨k+1,A ++ [⟨o.num,1,(-1)⟩],P1,.slice oq P1.length oc,.slice (some ⟨g3,0,none⟩) (A.length+1) cap3,rfl,rfl,by omega,by go_num,by rw [List.length_append,List.length_singleton];omega,Lib.hid (by have h:=H7.out;(try simp only [qb5,List.length_append,List.length_singleton]at h);(try simp only [qb5,List.length_append,List.length_singleton]);exact h),HST,HPP2⟩
          case measure=>simp [intOf];omega
         | some y=>
          rw [hop]at CO;unfold OpOut at CO;dsimp only [opV,opB,opC]at CO;have CFy:=(fun WW T=>CF.out WW T y hop);obtain⟨F,hF⟩ : ∃F,F=qac p q o y:=⟨_,rfl⟩;rw [←hF]at CFy;have CFy:=Lib.hid CFy;have HF:=Lib.hid hF;clear CF hF
          go_upto_region 19 with(go_at_call 26;(with_reducible refine(CO.out _ H0.out.bel).mono ?_);rintro e' w1 ⟨rfl,k1⟩;have k1:Bel _ w1:=k1;have H1:=Lib.hid (H0.out.belw k1);clear k1)
          have HQ:=Lib.hid (H1.out.addbox #[.int .i64 y.num,.string (S y.name),.string (S y.ali),.int .i64 y.card,.int .i64 y.key,.int .i64 y.kind,.int .i64 y.tgt,.int .i64 y.un] 54);generalize hqb:w1.heap.size=qb' at HQ ⊢;generalize hwz:World.alloc w1 _=wz at HQ ⊢;clear hwz hqb H1 H0 CO x0 x1 x2 y0;have u0:=HQ.out.cell 0 rfl 0;have u1:=HQ.out.cell 0 rfl 1;have u2:=HQ.out.cell 0 rfl 2;have u3:=HQ.out.cell 0 rfl 3;have u4:=HQ.out.cell 0 rfl 4;have u5:=HQ.out.cell 0 rfl 5;have u6:=HQ.out.cell 0 rfl 6;have u7:=HQ.out.cell 0 rfl 7;dsimp only at u0 u1 u2 u3 u4 u5 u6 u7;have v0:=HQ.out.cell 2 rfl 0;have v1:=HQ.out.cell 2 rfl 1;have v2:=HQ.out.cell 2 rfl 2;have v3:=HQ.out.cell 2 rfl 3;have v4:=HQ.out.cell 2 rfl 4;have v5:=HQ.out.cell 2 rfl 5;have v6:=HQ.out.cell 2 rfl 6;have v7:=HQ.out.cell 2 rfl 7;dsimp only at v0 v1 v2 v3 v4 v5 v6 v7;obtain⟨x0,x1,x2,x3⟩:=KS2.out _ HQ.out
          go_upto_region 20 with(go_at_call 33;(with_reducible refine(CFy.out _ HQ.out.bel).mono ?_);rintro e' w2 ⟨rfl,k2⟩;have k2:Bel _ w2:=k2;have H2:=Lib.hid (HQ.out.belw k2);have y1:=H2.out.cell 1 rfl 1;dsimp only at y1;have yf:=H2.out.frz 1 rfl 1;dsimp only at yf;clear k2)
          clear x0 x1 x2 x3 u0 v0 u1 v1 u2 v2 u3 v3 u4 v4 u5 v5 u6 v6 u7 v7;generalize hA3:World.setCell w2 _ _=w3;have hA4:w2.setCell ⟨xb,1,none⟩ (.int .i64 F)=w3:=hA3;have H3:=Lib.hid (show ST W (⟨44,4,.slice oq P1.length oc,P1.length,outR P1 L⟩ :: ⟨38,3,av',A.length,actCs A⟩ :: R) (⟨qb',#[.int .i64 y.num,.string (S y.name),.string (S y.ali),.int .i64 y.card,.int .i64 y.key,.int .i64 y.kind,.int .i64 y.tgt,.int .i64 y.un],54⟩ :: ⟨xb,#[.int .i64 o.num,.int .i64 F,.int .i64 (-1)],38⟩ :: ⟨ob1,#[.int .i64 o.num,.string (S o.name),.string (S o.ali),.int .i64 o.card,.int .i64 o.key,.int .i64 o.kind,.int .i64 o.tgt,.int .i64 o.un],54⟩ :: ⟨gB,#[.string (S h.name),.slice hq h.ops.length hc,.int .i64 h.uns],52⟩ :: ⟨gA,#[.string (S g.name),.slice (some ⟨ob,ooff,none⟩) g.ops.length gc,.int .i64 g.uns],52⟩ :: ⟨W.heap.size+1,#[.slice (some ⟨qb,qoff,none⟩) q.progs.length c3,.slice p4 q.enums.length c4],25⟩ :: ⟨W.heap.size,#[.slice (some ⟨pb,poff,none⟩) p.progs.length c1,.slice p2 p.enums.length c2],25⟩ :: []) w3 from by rw [←hA4];exact H2.out.setbox 1 rfl 1 (.int .i64 F));clear hA3 hA4 y1 yf H2 HQ CFy;have t1:=H3.out.cell 1 rfl 1;have o5:=H3.out.cell 2 rfl 5;dsimp only at t1 o5;by_cases hF4:F=4
          ·subst hF4
           have hFb:((4:Int) != 4)=false:=rfl
           skip
           rw [qii hop (fun hh=>hh.1 HF.out.symm), ←HF.out]at hst hok hpre;dsimp only at hst hok hpre;have HST:=Lib.hid hst;have HPP2:=Lib.hid (show qao p q P1/\M.length<P1.length from hPP.out);clear hop hst hok hpre hPP HF
           go_upto_region 26 with(fail)
           clear t1 o5;have z0:=H3.out.cell 1 rfl 0;have z1:=H3.out.cell 1 rfl 1;have z2:=H3.out.cell 1 rfl 2;dsimp only at z0 z1 z2;have HZ:=Lib.hid (H3.out.belw ((Bel.refl w3).alloc (.cells #[.int .i64 o.num,.int .i64 4,.int .i64 (-1)] 38)));obtain⟨i1',hi1,hy0,hy1,hy2⟩:=info_parts qci
           skip
           go_wp2_with (at_builtin;refine wpList_append_lies _ rfl _ _ 41 rfl W.heap.size 38 i1' (.agg #[.int .i64 0,.int .i64 0,.int .i64 0]) 3 24 Tryz.underlying41 hi1 hy0 hy1 hy2 rfl (by decide) av' A.length _ rfl (HZ.out.row 1 rfl) ⟨w3.heap.size,0,none⟩ 1 1 [.int .i64 o.num,.int .i64 4,.int .i64 (-1)] rfl rfl (qbh _ _ _) (by simp [Value.oneCell']) (by decide) (by unfold maxLen;omega) (by omega) HZ.out.bel.size (w3.heap.size+1) (by simp) ?_)
           intro g3 cap3 w4 hown hgrow hfr hlt2;have H7:=Lib.hid (HZ.out.grow 1 rfl hgrow hown (qc3 hfr (by simp))).dropbox0.dropbox0.dropbox0;clear hown hgrow hfr hlt2 HZ z0 z1 z2;go_wp2;go_roundw
           case rel=>exact⟨k+1,A ++ [⟨o.num,4,(-1)⟩],P1,.slice oq P1.length oc,.slice (some ⟨g3,0,none⟩) (A.length+1) cap3,rfl,rfl,by omega,by go_num,by rw [List.length_append,List.length_singleton];omega,Lib.hid (by have h:=H7.out;(try simp only [qb5,List.length_append,List.length_singleton]at h);(try simp only [qb5,List.length_append,List.length_singleton]);exact h),HST,HPP2⟩
           case measure=>simp [intOf];omega
          ·have hFb:(F != 4)=true:=bne_iff_ne.2 hF4
           by_cases h10:o.kind=10
           ·have hkb:(o.kind == 10)=true:=by rw [h10];rfl
            have CI:=(fun WW (R':List Row) (X':List Box) (T:ST W (⟨44,4,.slice oq P1.length oc,P1.length,outR P1 L⟩ :: R') X' WW)=>rg_Find (.slice oq P1.length oc) P1 o.tgt y.tgt WW (qhe (show WW.ownsRow W.heap.size 44 4 (.slice oq P1.length oc) P1.length (outR P1 L)from T.row 0 rfl) (by omega) hA));rw [qfw]at CI;have o6:=H3.out.cell 2 rfl 6;have q6:=H3.out.cell 0 rfl 6;dsimp only at o6 q6;cases hpi:qce P1 o.tgt y.tgt with
            | some i=>
             rw [hpi]at CI;dsimp only at CI;have CI:=Lib.hid CI;rw [actR_old hop ⟨by rw [←HF.out];exact hF4,h10⟩ hpi, ←HF.out]at hst hok hpre;dsimp only at hst hok hpre;have HST:=Lib.hid hst;have HPP2:=Lib.hid (show qao p q P1/\M.length<P1.length from hPP.out);clear hop hst hok hpre hPP HF hpi h10 hF4
             go_upto_region 25 with(go_at_call 16;(with_reducible refine(CI.out _ _ _ H3.out).mono ?_);rintro e' w4 ⟨rfl,k4⟩;have k4:Bel _ w4:=k4;have H4:=Lib.hid (H3.out.belw k4);clear k4)
             clear t1 o5 o6 q6 CI H3;have y2:=H4.out.cell 1 rfl 2;dsimp only at y2;have yf:=H4.out.frz 1 rfl 2;dsimp only at yf
             go_upto_region 26 with(fail)
             generalize hA3:World.setCell w4 _ _=w5;have hA4:w4.setCell ⟨xb,2,none⟩ (.int .i64 (i:Int))=w5:=hA3;have H5:=Lib.hid (show ST W (⟨44,4,.slice oq P1.length oc,P1.length,outR P1 L⟩ :: ⟨38,3,av',A.length,actCs A⟩ :: R) (⟨qb',#[.int .i64 y.num,.string (S y.name),.string (S y.ali),.int .i64 y.card,.int .i64 y.key,.int .i64 y.kind,.int .i64 y.tgt,.int .i64 y.un],54⟩ :: ⟨xb,#[.int .i64 o.num,.int .i64 F,.int .i64 (i:Int)],38⟩ :: ⟨ob1,#[.int .i64 o.num,.string (S o.name),.string (S o.ali),.int .i64 o.card,.int .i64 o.key,.int .i64 o.kind,.int .i64 o.tgt,.int .i64 o.un],54⟩ :: ⟨gB,#[.string (S h.name),.slice hq h.ops.length hc,.int .i64 h.uns],52⟩ :: ⟨gA,#[.string (S g.name),.slice (some ⟨ob,ooff,none⟩) g.ops.length gc,.int .i64 g.uns],52⟩ :: ⟨W.heap.size+1,#[.slice (some ⟨qb,qoff,none⟩) q.progs.length c3,.slice p4 q.enums.length c4],25⟩ :: ⟨W.heap.size,#[.slice (some ⟨pb,poff,none⟩) p.progs.length c1,.slice p2 p.enums.length c2],25⟩ :: []) w5 from by rw [←hA4];exact H4.out.setbox 1 rfl 2 (.int .i64 (i:Int)));clear hA3 hA4 y2 yf H4
             have z0:=H5.out.cell 1 rfl 0;have z1:=H5.out.cell 1 rfl 1;have z2:=H5.out.cell 1 rfl 2;dsimp only at z0 z1 z2;have HZ:=Lib.hid (H5.out.belw ((Bel.refl w5).alloc (.cells #[.int .i64 o.num,.int .i64 F,.int .i64 (i:Int)] 38)));obtain⟨i1',hi1,hy0,hy1,hy2⟩:=info_parts qci
             skip
             go_wp2_with (at_builtin;refine wpList_append_lies _ rfl _ _ 41 rfl W.heap.size 38 i1' (.agg #[.int .i64 0,.int .i64 0,.int .i64 0]) 3 24 Tryz.underlying41 hi1 hy0 hy1 hy2 rfl (by decide) av' A.length _ rfl (HZ.out.row 1 rfl) ⟨w5.heap.size,0,none⟩ 1 1 [.int .i64 o.num,.int .i64 F,.int .i64 (i:Int)] rfl rfl (qbh _ _ _) (by simp [Value.oneCell']) (by decide) (by unfold maxLen;omega) (by omega) HZ.out.bel.size (w5.heap.size+1) (by simp) ?_)
             intro g3 cap3 w4 hown hgrow hfr hlt2;have H7:=Lib.hid (HZ.out.grow 1 rfl hgrow hown (qc3 hfr (by simp))).dropbox0.dropbox0.dropbox0;clear hown hgrow hfr hlt2 HZ z0 z1 z2;go_wp2;go_roundw
             case rel=>exact⟨k+1,A ++ [⟨o.num,F,(i:Int)⟩],P1,.slice oq P1.length oc,.slice (some ⟨g3,0,none⟩) (A.length+1) cap3,rfl,rfl,by omega,by go_num,by rw [List.length_append,List.length_singleton];omega,Lib.hid (by have h:=H7.out;(try simp only [qb5,List.length_append,List.length_singleton]at h);(try simp only [qb5,List.length_append,List.length_singleton]);exact h),HST,HPP2⟩
             case measure=>simp [intOf];omega
            | none=>
             rw [hpi]at CI;dsimp only at CI;have CI:=Lib.hid CI;rw [actR_new hop ⟨by rw [←HF.out];exact hF4,h10⟩ hpi, ←HF.out]at hst hok hpre;dsimp only at hst hok hpre;have HST:=Lib.hid hst;have HPP2:=Lib.hid (show qao p q (P1 ++ [(o.tgt,y.tgt)])/\M.length<(P1 ++ [(o.tgt,y.tgt)]).length from⟨hok,by rw [List.length_append];have:=hPP.out.2;omega⟩);have HLP:=Lib.hid (show L.length<=P1.length by rw [HLl.out];have:=hPP.out.2;omega);clear hop hst hok hpre hPP HF hpi h10 hF4
             go_upto_region 24 with(go_at_call 16;(with_reducible refine(CI.out _ _ _ H3.out).mono ?_);rintro e' w4 ⟨rfl,k4⟩;have k4:Bel _ w4:=k4;have H4:=Lib.hid (H3.out.belw k4);clear k4)
             clear t1 o5 o6 q6 CI H3;have o6:=H4.out.cell 2 rfl 6;have q6:=H4.out.cell 0 rfl 6;dsimp only at o6 q6;have HB:=Lib.hid (H4.out.belw ((Bel.refl w4).alloc (.cells #[.int .i64 o.tgt,.int .i64 y.tgt,.slice none 0 0,.slice none 0 0] 44)));obtain⟨i2',hj1,hj0,hj2,hj3⟩:=info_parts qg5;clear H4
             go_upto_region 25 with(at_builtin;refine wpList_append_lies _ rfl _ _ 28 rfl W.heap.size 44 i2' (.agg #[.int .i64 0,.int .i64 0,.slice none 0 0,.slice none 0 0]) 4 64 Tryz.underlying28 hj1 hj0 hj2 hj3 rfl (by decide) (.slice oq P1.length oc) P1.length _ rfl (HB.out.row 0 rfl) ⟨w4.heap.size,0,none⟩ 1 1 [.int .i64 o.tgt,.int .i64 y.tgt,.slice none 0 0,.slice none 0 0] rfl rfl (qbh _ _ _) (by simp [Value.oneCell']) (by decide) (by unfold maxLen;omega) (by omega) HB.out.bel.size (w4.heap.size+1) (by simp) ?_)
             intro g5 cap5 w5 hown5 hgrow5 hfr5 hlt5;have H5':=HB.out.grow 0 rfl hgrow5 hown5 (qc3 hfr5 (by simp));have H5:=Lib.hid (show ST W (⟨44,4,.slice (some ⟨g5,0,none⟩) (P1.length+1) cap5,(P1 ++ [(o.tgt,y.tgt)]).length,outR (P1 ++ [(o.tgt,y.tgt)]) L⟩ :: ⟨38,3,av',A.length,actCs A⟩ :: R) (⟨qb',#[.int .i64 y.num,.string (S y.name),.string (S y.ali),.int .i64 y.card,.int .i64 y.key,.int .i64 y.kind,.int .i64 y.tgt,.int .i64 y.un],54⟩ :: ⟨xb,#[.int .i64 o.num,.int .i64 F,.int .i64 (-1)],38⟩ :: ⟨ob1,#[.int .i64 o.num,.string (S o.name),.string (S o.ali),.int .i64 o.card,.int .i64 o.key,.int .i64 o.kind,.int .i64 o.tgt,.int .i64 o.un],54⟩ :: ⟨gB,#[.string (S h.name),.slice hq h.ops.length hc,.int .i64 h.uns],52⟩ :: ⟨gA,#[.string (S g.name),.slice (some ⟨ob,ooff,none⟩) g.ops.length gc,.int .i64 g.uns],52⟩ :: ⟨W.heap.size+1,#[.slice (some ⟨qb,qoff,none⟩) q.progs.length c3,.slice p4 q.enums.length c4],25⟩ :: ⟨W.heap.size,#[.slice (some ⟨pb,poff,none⟩) p.progs.length c1,.slice p2 p.enums.length c2],25⟩ :: []) w5 from by rw [qep P1 L (o.tgt,y.tgt) HLP.out,List.length_append,List.length_singleton];exact H5');clear H5' hown5 hgrow5 hfr5 hlt5 HB HLP o6 q6 hj1 hj0 hj2 hj3
             go_upto_region 25 with(fail)
             have y2:=H5.out.cell 1 rfl 2;dsimp only at y2;have yf:=H5.out.frz 1 rfl 2;dsimp only at yf
             go_upto_region 26 with(fail)
             generalize hA3:World.setCell w5 _ _=w6;have hA4:w5.setCell ⟨xb,2,none⟩ (.int .i64 (P1.length:Int))=w6:=hA3;have H6:=Lib.hid (show ST W (⟨44,4,.slice (some ⟨g5,0,none⟩) (P1.length+1) cap5,(P1 ++ [(o.tgt,y.tgt)]).length,outR (P1 ++ [(o.tgt,y.tgt)]) L⟩ :: ⟨38,3,av',A.length,actCs A⟩ :: R) (⟨qb',#[.int .i64 y.num,.string (S y.name),.string (S y.ali),.int .i64 y.card,.int .i64 y.key,.int .i64 y.kind,.int .i64 y.tgt,.int .i64 y.un],54⟩ :: ⟨xb,#[.int .i64 o.num,.int .i64 F,.int .i64 (P1.length:Int)],38⟩ :: ⟨ob1,#[.int .i64 o.num,.string (S o.name),.string (S o.ali),.int .i64 o.card,.int .i64 o.key,.int .i64 o.kind,.int .i64 o.tgt,.int .i64 o.un],54⟩ :: ⟨gB,#[.string (S h.name),.slice hq h.ops.length hc,.int .i64 h.uns],52⟩ :: ⟨gA,#[.string (S g.name),.slice (some ⟨ob,ooff,none⟩) g.ops.length gc,.int .i64 g.uns],52⟩ :: ⟨W.heap.size+1,#[.slice (some ⟨qb,qoff,none⟩) q.progs.length c3,.slice p4 q.enums.length c4],25⟩ :: ⟨W.heap.size,#[.slice (some ⟨pb,poff,none⟩) p.progs.length c1,.slice p2 p.enums.length c2],25⟩ :: []) w6 from by rw [←hA4];exact H5.out.setbox 1 rfl 2 (.int .i64 (P1.length:Int)));clear hA3 hA4 y2 yf H5
             have z0:=H6.out.cell 1 rfl 0;have z1:=H6.out.cell 1 rfl 1;have z2:=H6.out.cell 1 rfl 2;dsimp only at z0 z1 z2;have HZ:=Lib.hid (H6.out.belw ((Bel.refl w6).alloc (.cells #[.int .i64 o.num,.int .i64 F,.int .i64 (P1.length:Int)] 38)));obtain⟨i1',hi1,hy0,hy1,hy2⟩:=info_parts qci
             skip
             go_wp2_with (at_builtin;refine wpList_append_lies _ rfl _ _ 41 rfl W.heap.size 38 i1' (.agg #[.int .i64 0,.int .i64 0,.int .i64 0]) 3 24 Tryz.underlying41 hi1 hy0 hy1 hy2 rfl (by decide) av' A.length _ rfl (HZ.out.row 1 rfl) ⟨w6.heap.size,0,none⟩ 1 1 [.int .i64 o.num,.int .i64 F,.int .i64 (P1.length:Int)] rfl rfl (qbh _ _ _) (by simp [Value.oneCell']) (by decide) (by unfold maxLen;omega) (by omega) HZ.out.bel.size (w6.heap.size+1) (by simp) ?_)
             intro g3 cap3 w4 hown hgrow hfr hlt2;have H7:=Lib.hid (HZ.out.grow 1 rfl hgrow hown (qc3 hfr (by simp))).dropbox0.dropbox0.dropbox0;clear hown hgrow hfr hlt2 HZ z0 z1 z2;go_wp2;go_roundw
             case rel=>exact⟨k+1,A ++ [⟨o.num,F,(P1.length:Int)⟩],(P1 ++ [(o.tgt,y.tgt)]),.slice (some ⟨g5,0,none⟩) (P1.length+1) cap5,.slice (some ⟨g3,0,none⟩) (A.length+1) cap3,rfl,rfl,by omega,by go_num,by rw [List.length_append,List.length_singleton];omega,Lib.hid (by have h:=H7.out;(try simp only [qb5,List.length_append,List.length_singleton]at h);(try simp only [qb5,List.length_append,List.length_singleton]);exact h),HST,HPP2⟩
             case measure=>simp [intOf];omega
           ·have hkb:(o.kind == 10)=false:=beq_eq_false_iff_ne.2 h10
            clear hF4;rw [qii hop (fun hh=>h10 hh.2), ←HF.out]at hst hok hpre;dsimp only at hst hok hpre;have HST:=Lib.hid hst;have HPP2:=Lib.hid (show qao p q P1/\M.length<P1.length from hPP.out);clear hop hst hok hpre hPP HF
            go_upto_region 26 with(fail)
            clear t1 o5;have z0:=H3.out.cell 1 rfl 0;have z1:=H3.out.cell 1 rfl 1;have z2:=H3.out.cell 1 rfl 2;dsimp only at z0 z1 z2;have HZ:=Lib.hid (H3.out.belw ((Bel.refl w3).alloc (.cells #[.int .i64 o.num,.int .i64 F,.int .i64 (-1)] 38)));obtain⟨i1',hi1,hy0,hy1,hy2⟩:=info_parts qci
            skip
            go_wp2_with (at_builtin;refine wpList_append_lies _ rfl _ _ 41 rfl W.heap.size 38 i1' (.agg #[.int .i64 0,.int .i64 0,.int .i64 0]) 3 24 Tryz.underlying41 hi1 hy0 hy1 hy2 rfl (by decide) av' A.length _ rfl (HZ.out.row 1 rfl) ⟨w3.heap.size,0,none⟩ 1 1 [.int .i64 o.num,.int .i64 F,.int .i64 (-1)] rfl rfl (qbh _ _ _) (by simp [Value.oneCell']) (by decide) (by unfold maxLen;omega) (by omega) HZ.out.bel.size (w3.heap.size+1) (by simp) ?_)
            intro g3 cap3 w4 hown hgrow hfr hlt2;have H7:=Lib.hid (HZ.out.grow 1 rfl hgrow hown (qc3 hfr (by simp))).dropbox0.dropbox0.dropbox0;clear hown hgrow hfr hlt2 HZ z0 z1 z2;go_wp2;go_roundw
            case rel=>exact⟨k+1,A ++ [⟨o.num,F,(-1)⟩],P1,.slice oq P1.length oc,.slice (some ⟨g3,0,none⟩) (A.length+1) cap3,rfl,rfl,by omega,by go_num,by rw [List.length_append,List.length_singleton];omega,Lib.hid (by have h:=H7.out;(try simp only [qb5,List.length_append,List.length_singleton]at h);(try simp only [qb5,List.length_append,List.length_singleton]);exact h),HST,HPP2⟩
            case measure=>simp [intOf];omega
        ·have hki : ¬(k:Int)<(g.ops.length:Int):=by omega
         have hAG:(A,P1)=G1:=by rw [←hx.out,List.drop_eq_nil_of_le (by omega)];rfl
         subst hAG;clear hx hAk;have HS3:=Lib.hid (hS.out.nilrow2 3 1);obtain⟨LK,hLK⟩ : ∃LK,LK=qcf g h:=⟨_,rfl⟩;have V2:=Lib.hid (show([]:List Int) ++ qcu g (h.ops.drop 0)=LK by rw [hLK];exact qdp g h);have HLK:=Lib.hid hLK;have y1:=HS3.out.cell 1 rfl 1;dsimp only at y1;clear hLK hS z1;go_wp2
         go_loopw [24,25] (fun lv i wr => ∃(k:Nat) (lk:List Int) (lv':Value),lv'=lv/\k<=h.ops.length/\i=.int .i64 k/\lk.length<=k/\Hid (ST W (⟨44,4,vo,P1.length,outR P1 L⟩ :: ⟨38,3,av',A.length,actCs A⟩ :: ⟨3,1,lv',lk.length,intCs lk⟩ :: R) (⟨gB,#[.string (S h.name),.slice hq h.ops.length hc,.int .i64 h.uns],52⟩ :: ⟨gA,#[.string (S g.name),.slice gq g.ops.length gc,.int .i64 g.uns],52⟩ :: ⟨W.heap.size+1,#[.slice (some ⟨qb,qoff,none⟩) q.progs.length c3,.slice p4 q.enums.length c4],25⟩ :: ⟨W.heap.size,#[.slice (some ⟨pb,poff,none⟩) p.progs.length c1,.slice p2 p.enums.length c2],25⟩ :: []) wr)/\Hid (lk ++ qcu g (h.ops.drop k)=LK)) (fun _ i _=>h.ops.length-(intOf i).toNat)
         case atStart=>exact⟨0,[],.slice none 0 0,rfl,by omega,rfl,by simp,HS3,V2⟩
         case round=>as_aux_lemma=>
          clear HS3 V2 y1;obtain⟨k,lk,lv',rfl,hk,rfl,hlk,hS,hx⟩:=hrel;have f0:=hS.out.cell 0 rfl 1;dsimp only at f0;by_cases hlt:k<h.ops.length
          ·skip
           have hki:(k:Int)<(h.ops.length:Int):=by omega
           have hk0:(0:Int)<=(k:Int):=by omega
           have hg1:=List.getElem?_eq_getElem hlt;obtain⟨_,_,heo,_,_,helo⟩:=HHO.out;cases heo;obtain⟨ob,ooff,rfl,_,vs,hce,hvs⟩:=helo k _ hg1;have hst:=hx.out;rw [qev hg1]at hst;clear hx helo hg1;generalize h.ops[k]=y at *;rw [show vs=opC y from hvs]at hce;have CO:=(fun WW (kk:Bel W WW)=>rf_Op g [.string (S g.name),.slice gq g.ops.length gc,.int .i64 g.uns] y.num WW ⟨_,rfl,HGO.out.bel VOp.stays kk⟩);unfold OpOut at CO;have Z0:(opV (opOf g y.num)).toArray.size=8:=by rw [List.size_toArray];exact qhg _
           have Z1:=Lib.hid (show(Tryz.prog.info? 54).map (·.size)=some (opV (opOf g y.num)).toArray.size by rw [Z0];exact qg3);have Z2:=Lib.hid (show(#[.int .i64 0,.string ⟨#[]⟩,.string ⟨#[]⟩,.int .i64 0,.int .i64 0,.int .i64 0,.int .i64 0,.int .i64 0]:Array Value).size=(opV (opOf g y.num)).toArray.size by rw [Z0];rfl);have HO:=Lib.hid (qd2 (opOf g y.num));have hisn:(opOf g y.num).isNone = !opB (opOf g y.num):=by cases opOf g y.num <;> rfl
           rw [hisn]at hst;have CO:=Lib.hid CO;generalize opV (opOf g y.num)=vr at *;generalize opB (opOf g y.num)=ok at *;have E0:=Lib.hid (hce 0 _ rfl);have E3:=Lib.hid (hce 3 _ rfl);have HSK:=Lib.hid hst;clear Z0 hce hvs hisn hst
           go_upto_region 31 with(fail)
           clear f0
           go_cut [27] (fun s27 wx=>s27=.bool ok/\Hid (ST W (⟨44,4,vo,P1.length,outR P1 L⟩ :: ⟨38,3,av',A.length,actCs A⟩ :: ⟨3,1,lv',lk.length,intCs lk⟩ :: R) (⟨gB,#[.string (S h.name),.slice (some ⟨ob,ooff,none⟩) h.ops.length hc,.int .i64 h.uns],52⟩ :: ⟨gA,#[.string (S g.name),.slice gq g.ops.length gc,.int .i64 g.uns],52⟩ :: ⟨W.heap.size+1,#[.slice (some ⟨qb,qoff,none⟩) q.progs.length c3,.slice p4 q.enums.length c4],25⟩ :: ⟨W.heap.size,#[.slice (some ⟨pb,poff,none⟩) p.progs.length c1,.slice p2 p.enums.length c2],25⟩ :: []) wx))
           case first=>as_aux_lemma=>
            obtain⟨wd,hwd⟩ : ∃x,x=wr.drew:=⟨_,rfl⟩;have T:=Lib.hid (show ST W (⟨44,4,vo,P1.length,outR P1 L⟩ :: ⟨38,3,av',A.length,actCs A⟩ :: ⟨3,1,lv',lk.length,intCs lk⟩ :: R) (⟨gB,#[.string (S h.name),.slice (some ⟨ob,ooff,none⟩) h.ops.length hc,.int .i64 h.uns],52⟩ :: ⟨gA,#[.string (S g.name),.slice gq g.ops.length gc,.int .i64 g.uns],52⟩ :: ⟨W.heap.size+1,#[.slice (some ⟨qb,qoff,none⟩) q.progs.length c3,.slice p4 q.enums.length c4],25⟩ :: ⟨W.heap.size,#[.slice (some ⟨pb,poff,none⟩) p.progs.length c1,.slice p2 p.enums.length c2],25⟩ :: []) wd by rw [hwd];exact hS.out.belw (Bel.refl _).drew);have HWD:=Lib.hid hwd;clear hwd hS HSK;have KS:=Lib.hid (fun WW (hh:ST W (⟨44,4,vo,P1.length,outR P1 L⟩ :: ⟨38,3,av',A.length,actCs A⟩ :: ⟨3,1,lv',lk.length,intCs lk⟩ :: R) (⟨gB,#[.string (S h.name),.slice (some ⟨ob,ooff,none⟩) h.ops.length hc,.int .i64 h.uns],52⟩ :: ⟨gA,#[.string (S g.name),.slice gq g.ops.length gc,.int .i64 g.uns],52⟩ :: ⟨W.heap.size+1,#[.slice (some ⟨qb,qoff,none⟩) q.progs.length c3,.slice p4 q.enums.length c4],25⟩ :: ⟨W.heap.size,#[.slice (some ⟨pb,poff,none⟩) p.progs.length c1,.slice p2 p.enums.length c2],25⟩ :: []) WW)=>show WW.cell? ⟨gA,0,none⟩=some (.string (S g.name))/\WW.cell? ⟨gA,1,none⟩=some (.slice gq g.ops.length gc)/\WW.cell? ⟨gA,2,none⟩=some (.int .i64 g.uns)/\WW.cell? ⟨gB,1,none⟩=some (.slice (some ⟨ob,ooff,none⟩) h.ops.length hc)/\WW.cell? ⟨ob,ooff+k*8,none⟩=some (.int .i64 y.num)from⟨hh.cell 1 rfl 0,hh.cell 1 rfl 1,hh.cell 1 rfl 2,hh.cell 0 rfl 1,by have:=hh.bel.some E0.out;rwa [Nat.add_zero]at this⟩);refine qag (fun WW=>ST W (⟨44,4,vo,P1.length,outR P1 L⟩ :: ⟨38,3,av',A.length,actCs A⟩ :: ⟨3,1,lv',lk.length,intCs lk⟩ :: R) (⟨gB,#[.string (S h.name),.slice (some ⟨ob,ooff,none⟩) h.ops.length hc,.int .i64 h.uns],52⟩ :: ⟨gA,#[.string (S g.name),.slice gq g.ops.length gc,.int .i64 g.uns],52⟩ :: ⟨W.heap.size+1,#[.slice (some ⟨qb,qoff,none⟩) q.progs.length c3,.slice p4 q.enums.length c4],25⟩ :: ⟨W.heap.size,#[.slice (some ⟨pb,poff,none⟩) p.progs.length c1,.slice p2 p.enums.length c2],25⟩ :: []) WW) (.take 0 (.take 1 (.take 2 (.take 3 (.take 4 (.take 5 (.take 6 (.alt 7 (.take 8 (.take 9 (.take 10 (.alt 11 (.alt 12 .done .no) .no)))) (.alt 11 (.alt 7 (.take 8 (.take 9 (.take 10 (.alt 12 .done .no)))) .no) .no))))))))) 13 (by kernel_rfl) (by kernel_rfl) HWD.out T.out (fun a ha=>?_)
            (simp only [pickT,List.getD_cons_zero,List.getD_cons_succ])
            have hsz:a.tmps.size=190:=(by rw [ha];kernel_rfl);have a14:a.eval (.tmp 14)=.pointer (some ⟨gA,0,none⟩):=(by rw [ha];kernel_rfl);have a15:a.eval (.tmp 15)=.pointer (some ⟨gB,0,none⟩):=(by rw [ha];kernel_rfl);have a25:a.eval (.tmp 25)=.int .i64 k:=(by rw [ha];kernel_rfl)
            (with_reducible refine qa1 (v:=?_) rfl (by with_unfolding_all rfl) (fun ρ hρ W hW=>?_) ?_);(rotate_left 1)
            focus(have hS:=KS.out _ hW;clear hW;have p14:=hρ (.tmp 14);(simp +decide only [qa2,hsz,ev_eq,ev_ne,a14,a15,a25]at p14);obtain⟨hc,hfn⟩:=rC129 hρ;clear hρ;go_simp;(all_goals with_reducible first|rfl|(constructor <;> rfl)))
            (with_reducible refine qa1 (v:=?_) rfl (by with_unfolding_all rfl) (fun ρ hρ W hW=>?_) ?_);(rotate_left 1)
            focus(clear hW;have p15:=hρ (.tmp 15);(simp +decide only [qa2,hsz,ev_eq,ev_ne,a14,a15,a25]at p15);obtain⟨hc,hfn⟩:=rC129 hρ;clear hρ;go_simp;(all_goals with_reducible first|rfl|(constructor <;> rfl)))
            (with_reducible refine qa1 (v:=?_) rfl (by with_unfolding_all rfl) (fun ρ hρ W hW=>?_) ?_);(rotate_left 1)
            focus(have hS:=KS.out _ hW;clear hW;have p150:=hρ (.tmp 150);(simp +decide only [qa2,hsz,ev_eq,ev_ne,a14,a15,a25]at p150);obtain⟨hc,hfn⟩:=rC129 hρ;clear hρ;go_simp;(all_goals with_reducible first|rfl|(constructor <;> rfl)))
            (with_reducible refine qa1 (v:=?_) rfl (by with_unfolding_all rfl) (fun ρ hρ W hW=>?_) ?_);(rotate_left 1)
            focus(clear hW;have p25:=hρ (.tmp 25);(simp +decide only [qa2,hsz,ev_eq,ev_ne,a14,a15,a25]at p25);obtain⟨hc,hfn⟩:=rC129 hρ;clear hρ;go_simp;(all_goals with_reducible first|rfl|(constructor <;> rfl)))
            (with_reducible refine qa1 (v:=?_) rfl (by with_unfolding_all rfl) (fun ρ hρ W hW=>?_) ?_);(rotate_left 1)
            focus(clear hW;have p151:=hρ (.tmp 151);have p152:=hρ (.tmp 152);(simp +decide only [qa2,hsz,ev_eq,ev_ne,a14,a15,a25]at p151 p152);obtain⟨hc,hfn⟩:=rC129 hρ;clear hρ;go_simp;(all_goals with_reducible first|rfl|(constructor <;> rfl)))
            (with_reducible refine qa1 (v:=?_) rfl (by with_unfolding_all rfl) (fun ρ hρ W hW=>?_) ?_);(rotate_left 1)
            focus(clear hW;have p153:=hρ (.tmp 153);(simp +decide only [qa2,hsz,ev_eq,ev_ne,a14,a15,a25]at p153);obtain⟨hc,hfn⟩:=rC129 hρ;clear hρ;go_simp;(all_goals with_reducible first|rfl|(constructor <;> rfl)))
            (with_reducible refine qa1 (v:=?_) rfl (by with_unfolding_all rfl) (fun ρ hρ W hW=>?_) ?_);(rotate_left 1)
            focus(have hS:=KS.out _ hW;clear hW;have p154:=hρ (.tmp 154);(simp +decide only [qa2,hsz,ev_eq,ev_ne,a14,a15,a25]at p154);obtain⟨hc,hfn⟩:=rC129 hρ;clear hρ;go_simp;(all_goals with_reducible first|rfl|(constructor <;> rfl)))
            (with_reducible refine qbe (f:=?_) (args:=?_) rfl (by with_unfolding_all rfl) (fun ρ hρ=>?_) ?_ ?_);(rotate_left 2)
            focus(have p149:=hρ (.tmp 149);have p155:=hρ (.tmp 155);(simp +decide only [qa2,hsz,ev_eq,ev_ne,a14,a15,a25]at p149 p155);obtain⟨hc,hfn⟩:=rC129 hρ;clear hρ;rw [qad (hfn _)];clear hfn;go_simp;(all_goals with_reducible first|rfl|(constructor <;> rfl)))
            with_reducible refine(CO.out _ T.out.bel).mono ?_
            rintro e w_7 ⟨rfl,g⟩;have g:Bel wd w_7:=g;have T:=Lib.hid (T.out.belw g);clear g;refine⟨_,rfl,T.out,?_⟩
            ·(with_reducible refine qa1 (v:=?_) rfl (by with_unfolding_all rfl) (fun ρ hρ W hW=>?_) ?_);(rotate_left 1)
             focus(clear hW;have p156:=hρ (.tmp 156);(simp +decide only [qa2,hsz,ev_eq,ev_ne,a14,a15,a25]at p156);obtain⟨hc,hfn⟩:=rC129 hρ;clear hρ;go_simp;(all_goals with_reducible first|rfl|(constructor <;> rfl)))
             (with_reducible refine qa1 (v:=?_) rfl (by with_unfolding_all rfl) (fun ρ hρ W hW=>?_) ?_);(rotate_left 1)
             focus(clear hW;have p148:=hρ (.tmp 148);(simp +decide only [qa2,hsz,ev_eq,ev_ne,a14,a15,a25]at p148);obtain⟨hc,hfn⟩:=rC129 hρ;clear hρ;go_simp;(all_goals with_reducible first|rfl|(constructor <;> rfl)))
             (with_reducible refine qa1 (v:=?_) rfl (by with_unfolding_all rfl) (fun ρ hρ W hW=>?_) ?_);(rotate_left 1)
             focus(clear hW;have p148:=hρ (.tmp 148);(simp +decide only [qa2,hsz,ev_eq,ev_ne,a14,a15,a25]at p148);obtain⟨hc,hfn⟩:=rC129 hρ;clear hρ;go_simp;(all_goals with_reducible first|rfl|(constructor <;> rfl)))
             (with_reducible refine qb2 (v:=?_) (w':=?_) rfl (by with_unfolding_all rfl) (fun ρ hρ=>?_) ?_ ?_ ?_);(rotate_left 2)
             focus(obtain⟨hc,hfn⟩:=rC129 hρ;clear hρ;go_simp;(all_goals with_reducible first|rfl|(constructor <;> rfl)))
             focus exact(T.out.addbox #[.int .i64 0,.string ⟨#[]⟩,.string ⟨#[]⟩,.int .i64 0,.int .i64 0,.int .i64 0,.int .i64 0,.int .i64 0] 54).dropbox0
             have T:=Lib.hid (T.out.addbox #[.int .i64 0,.string ⟨#[]⟩,.string ⟨#[]⟩,.int .i64 0,.int .i64 0,.int .i64 0,.int .i64 0,.int .i64 0] 54);generalize hA:World.alloc w_7 _=w_11 at T ⊢;clear hA;rotate_left 1
             focus exact qak
             (refine qb1 rfl 54 (.tmp 26) (.tmp 157) (by with_unfolding_all rfl) _ vr.toArray #[.int .i64 0,.string ⟨#[]⟩,.string ⟨#[]⟩,.int .i64 0,.int .i64 0,.int .i64 0,.int .i64 0,.int .i64 0] 54 ?_ ?_ (T.out.box 0 rfl) Z1.out Z2.out HO.out ?_ ?_ ?_)
             focus(simp +decide only [qa2,hsz,ev_eq,ev_ne,a14,a15,a25])
             focus(simp +decide only [qa2,hsz,ev_eq,ev_ne,a14,a15,a25])
             focus exact(T.out.setrowbox 0 rfl vr.toArray).dropbox0
             have T:=Lib.hid (T.out.setrowbox 0 rfl vr.toArray);generalize hA:World.setRow w_11 _ _=w_12 at T ⊢;clear hA;rotate_left 1
             focus exact qak
             with_reducible refine qan ?_
             (simp only [List.drop_succ_cons,List.drop_zero])
             subst ha
             (simp only [qaz,set_s,set_z])
             go_wp2;go_meet
             exact⟨rfl,Lib.hid T.out.dropbox0⟩
            (with_reducible refine qb2 (v:=?_) (w':=?_) rfl (by with_unfolding_all rfl) (fun ρ hρ=>?_) ?_ ?_ ?_);(rotate_left 2)
            focus(obtain⟨hc,hfn⟩:=rC129 hρ;clear hρ;go_simp;(all_goals with_reducible first|rfl|(constructor <;> rfl)))
            focus exact(T.out.addbox #[.int .i64 0,.string ⟨#[]⟩,.string ⟨#[]⟩,.int .i64 0,.int .i64 0,.int .i64 0,.int .i64 0,.int .i64 0] 54).dropbox0
            have T:=Lib.hid (T.out.addbox #[.int .i64 0,.string ⟨#[]⟩,.string ⟨#[]⟩,.int .i64 0,.int .i64 0,.int .i64 0,.int .i64 0,.int .i64 0] 54);generalize hA:World.alloc wd _=w_11 at T ⊢;clear hA;rotate_left 1
            focus exact qak
            (with_reducible refine qbe (f:=?_) (args:=?_) rfl (by with_unfolding_all rfl) (fun ρ hρ=>?_) ?_ ?_);(rotate_left 2)
            focus(have p149:=hρ (.tmp 149);have p155:=hρ (.tmp 155);(simp +decide only [qa2,hsz,ev_eq,ev_ne,a14,a15,a25]at p149 p155);obtain⟨hc,hfn⟩:=rC129 hρ;clear hρ;rw [qad (hfn _)];clear hfn;go_simp;(all_goals with_reducible first|rfl|(constructor <;> rfl)))
            with_reducible refine(CO.out _ T.out.bel).mono ?_
            rintro e w_7 ⟨rfl,g⟩;have g:Bel w_11 w_7:=g;have T:=Lib.hid (T.out.belw g);clear g;refine⟨_,rfl,T.out.dropbox0,?_⟩;rotate_left 1
            focus exact qak
            (with_reducible refine qa1 (v:=?_) rfl (by with_unfolding_all rfl) (fun ρ hρ W hW=>?_) ?_);(rotate_left 1)
            focus(clear hW;have p156:=hρ (.tmp 156);(simp +decide only [qa2,hsz,ev_eq,ev_ne,a14,a15,a25]at p156);obtain⟨hc,hfn⟩:=rC129 hρ;clear hρ;go_simp;(all_goals with_reducible first|rfl|(constructor <;> rfl)))
            (with_reducible refine qa1 (v:=?_) rfl (by with_unfolding_all rfl) (fun ρ hρ W hW=>?_) ?_);(rotate_left 1)
            focus(clear hW;have p148:=hρ (.tmp 148);(simp +decide only [qa2,hsz,ev_eq,ev_ne,a14,a15,a25]at p148);obtain⟨hc,hfn⟩:=rC129 hρ;clear hρ;go_simp;(all_goals with_reducible first|rfl|(constructor <;> rfl)))
            (with_reducible refine qa1 (v:=?_) rfl (by with_unfolding_all rfl) (fun ρ hρ W hW=>?_) ?_);(rotate_left 1)
            focus(clear hW;have p148:=hρ (.tmp 148);(simp +decide only [qa2,hsz,ev_eq,ev_ne,a14,a15,a25]at p148);obtain⟨hc,hfn⟩:=rC129 hρ;clear hρ;go_simp;(all_goals with_reducible first|rfl|(constructor <;> rfl)))
            (refine qb1 rfl 54 (.tmp 26) (.tmp 157) (by with_unfolding_all rfl) _ vr.toArray #[.int .i64 0,.string ⟨#[]⟩,.string ⟨#[]⟩,.int .i64 0,.int .i64 0,.int .i64 0,.int .i64 0,.int .i64 0] 54 ?_ ?_ (T.out.box 0 rfl) Z1.out Z2.out HO.out ?_ ?_ ?_)
            focus(simp +decide only [qa2,hsz,ev_eq,ev_ne,a14,a15,a25])
            focus(simp +decide only [qa2,hsz,ev_eq,ev_ne,a14,a15,a25])
            focus exact(T.out.setrowbox 0 rfl vr.toArray).dropbox0
            have T:=Lib.hid (T.out.setrowbox 0 rfl vr.toArray);generalize hA:World.setRow w_7 _ _=w_12 at T ⊢;clear hA;rotate_left 1
            focus exact qak
            with_reducible refine qan ?_
            (simp only [List.drop_succ_cons,List.drop_zero])
            subst ha
            (simp only [qaz,set_s,set_z])
            go_wp2;go_meet
            exact⟨rfl,Lib.hid T.out.dropbox0⟩
           case rest=>as_aux_lemma=>
            obtain⟨h27,T⟩:=hcut;subst h27;clear hS CO Z1 Z2 HO;have hst:=HSK.out;have f0:=T.out.cell 0 rfl 1;dsimp only at f0;have e3:=T.out.bel.some E3.out;have e0:=T.out.bel.some E0.out;rw [Nat.add_zero]at e0;clear HSK E0 E3;cases ok with
            | true=>
             rw [if_neg (by simp)]at hst;have HST:=Lib.hid hst;clear hst;go_wp2;go_roundw
             case rel=>exact⟨k+1,lk,lv',rfl,by omega,by go_num,by omega,T,HST⟩
             case measure=>simp [intOf];omega
            | false=>
             by_cases hc1:y.card=1
             ·have hb1:(y.card == 1)=true:=by rw [hc1];rfl
              rw [if_pos ⟨rfl,hc1⟩, ←List.append_assoc]at hst;have HST:=Lib.hid hst;obtain⟨i1',hi1,hi0,hi2,hi3⟩:=info_parts qf1;have H2:=Lib.hid (T.out.belw ((Bel.refl wc).alloc (.cells #[.int .i64 y.num] 3)));clear hst hc1
              go_wp2_with (at_builtin;refine wpList_append_lies _ rfl _ _ 42 rfl W.heap.size 3 i1' (.int .i64 0) 1 8 Tryz.underlying42 hi1 hi0 hi2 hi3 rfl (by decide) lv' lk.length _ rfl (H2.out.row 2 rfl) ⟨wc.heap.size,0,none⟩ 1 1 [.int .i64 y.num] rfl rfl (qbh _ _ _) (by simp [Value.oneCell']) (by decide) (by unfold maxLen;omega) (by omega) H2.out.bel.size (wc.heap.size+1) (by simp) ?_)
              intro g3 cap3 w4 hown hgrow hfr hlt2;have H7:=Lib.hid (H2.out.grow 2 rfl hgrow hown (qc3 hfr (by simp)));clear hown hgrow hfr hlt2 H2 T;go_wp2;go_roundw
              case rel=>exact⟨k+1,lk ++ [y.num],.slice (some ⟨g3,0,none⟩) (lk.length+1) cap3,rfl,by omega,by go_num,by rw [List.length_append,List.length_singleton];omega,Lib.hid (by rw [show intCs (lk ++ [y.num])=intCs lk ++ [.int .i64 y.num]by unfold intCs;simp,List.length_append,List.length_singleton];exact H7.out),HST⟩
              case measure=>simp [intOf];omega
             ·have hb1:(y.card == 1)=false:=beq_eq_false_iff_ne.2 hc1
              rw [if_neg (fun hh=>hc1 hh.2)]at hst;have HST:=Lib.hid hst;clear hst hc1;go_wp2;go_roundw
              case rel=>exact⟨k+1,lk,lv',rfl,by omega,by go_num,by omega,T,HST⟩
              case measure=>simp [intOf];omega
          ·have hki : ¬(k:Int)<(h.ops.length:Int):=by omega
           have hLL:lk=LK:=by rw [←hx.out,List.drop_eq_nil_of_le (by omega)];simp [qcu]
           subst hLL;clear hx;obtain⟨og2,oc2,hvo⟩:=row_pos (hS.out.row 0 rfl) (show 0<P1.length by have:=hPP.out.2;omega);dsimp only at hvo;subst hvo;obtain⟨aq,acp,hav⟩:=qar (show wr.ownsRow W.heap.size 38 3 av' A.length (actCs A)from hS.out.row 1 rfl);obtain⟨lq,lcp,hlv⟩:=qar (show wr.ownsRow W.heap.size 3 1 lv' lk.length (intCs lk)from hS.out.row 2 rfl);subst hav hlv;obtain⟨_,_,o2,o3⟩:=qcm P1 L M.length _ (List.getElem?_eq_getElem hPP.out.2);have O3:=Lib.hid o3;have hset:=qeo P1 L (.slice aq A.length acp) (.slice lq lk.length lcp) (by rw [HLl.out];exact hPP.out.2);rw [HLl.out]at hset;have HSET:=Lib.hid hset;have l1:(M.length:Int)<(P1.length:Int):=by have:=hPP.out.2;omega
           have l0:(0:Int)<=(M.length:Int):=by omega
           have f2:=hS.out.rowcell (g:=og2) 0 rfl rfl _ _ o2;have z2:=hS.out.rowfrz (g:=og2) 0 rfl rfl (M.length*4+2);have T2:=hS.out.setrow (g:=og2) (c:=oc2) 0 rfl rfl (M.length*4+2) (.slice aq A.length acp);dsimp only [List.set]at T2;have T2:=Lib.hid T2;clear o2 o3 hset hS
           go_upto_region 35 with(fail)
           clear f0;generalize hA5:World.setCell wr _ _=w5 at T2 ⊢;clear hA5 f2 z2;have f3:=T2.out.rowcell (g:=og2) 0 rfl rfl (M.length*4+3) _ (by rw [List.getElem?_set_ne (by omega)];exact O3.out);have z3:=T2.out.rowfrz (g:=og2) 0 rfl rfl (M.length*4+3);have T3:=T2.out.setrow (g:=og2) (c:=oc2) 0 rfl rfl (M.length*4+3) (.slice lq lk.length lcp);dsimp only [List.set]at T3;rw [HSET.out]at T3;have T3:=Lib.hid (T3).dropbox0.dropbox0;clear T2;go_wp2;go_roundw
           case rel=>
            have HI9:=HI.out _ _ _ rfl HLK.out;refine⟨P1,(⟨(na:Int),(nb:Int),A,lk⟩,.slice aq A.length acp,.slice lq lk.length lcp) :: M,.slice (some ⟨og2,0,none⟩) P1.length oc2,rfl,by simp only [List.length_cons];go_num,by simp only [List.length_cons];have:=hPP.out.2;omega,Lib.hid (by rw [List.reverse_cons,List.map_append, ←hL.out];have h:=T3.out;rw [hR.out]at h;exact h),Lib.hid (by rw [List.reverse_cons,List.map_append,List.length_cons];exact HI9.2.1),Lib.hid ⟨hPP.out.1,?_,?_,?_⟩⟩
            ·rw [List.reverse_cons,List.map_append]
             intro l hl;rcases List.mem_append.1 hl with hl|hl
             ·exact hI.out.2.1 l hl
             ·have:l=(.slice aq A.length acp,.slice lq lk.length lcp):=by simpa using hl
              subst this;exact⟨⟨_,_,_,rfl⟩,⟨_,_,_,rfl⟩⟩
            ·intro j m hj
             rw [List.reverse_cons]at hj;by_cases hjm:j<M.length
             ·rw [List.getElem?_append_left (by rw [List.length_reverse];exact hjm)]at hj
              exact qbm HI9.1 (hI.out.2.2.1 j m hj)
             ·have hjl:=(List.getElem?_eq_some_iff.1 hj).1
              have hje:j=M.length:=by simp at hjl;omega
              subst hje;rw [List.getElem?_append_right (by simp)]at hj;simp at hj;subst hj;exact qbm HI9.1 HXP.out
            ·intro m hm
             rcases List.mem_cons.1 hm with rfl|hm
             ·exact HI9.2.2
             ·exact hI.out.2.2.2 m hm
           case measure=>simp [intOf];omega
    ·obtain⟨oq,oc,hvo⟩:=qar (show wr.ownsRow W.heap.size 44 4 vo P.length (outR P (M.reverse.map (·.2)))from hS.out.row 0 rfl)
     subst hvo;have hi : ¬(M.length:Int)<(P.length:Int):=by omega
     have hMe:M.length=P.length:=by omega
     have hD:M.reverse.map (·.1)=G:=by
      rw [←hx.out]
      have:runR p q (most p q-M.length) M.length P=[]:=by
       cases most p q-M.length with
       | zero=>rfl
       | succ f=>unfold runR;rw [List.getElem?_eq_none (by omega)]
      rw [this,List.append_nil]
     have HV:=Lib.hid (qig hS.out hMe (by omega) hI.out.2.2.1 hI.out.2.2.2);have HBL:=Lib.hid hS.out.bel;rw [hD]at HV;clear hx hS hI hD EG EQ HPL;go_wp2;go_ret2;exact⟨_,rfl,HV.out,HBL.out⟩
end Go.Proofs.YtgpjhibdongmbaaGreatDoor
