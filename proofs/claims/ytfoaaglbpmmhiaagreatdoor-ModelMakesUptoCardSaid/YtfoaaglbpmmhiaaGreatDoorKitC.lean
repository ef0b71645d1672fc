import Derived.Test.YtfoaaglbpmmhiaaGreatDoorKitH
import Derived.Deep.RegionLaw
import Derived.Deep.AppendLies
import Derived.Test.YtfoaaglbpmmhiaaGreatDoorKitA
import Derived.Deep.RegionHeld3
import Derived.Deep.DeepCutAuto
import Derived.Deep.CutBlock
import Derived.Test.YtfoaaglbpmmhiaaGreatDoorCkNote1
import Derived.Test.YtfoaaglbpmmhiaaGreatDoorCkSeen
set_option maxRecDepth 100000
set_option maxHeartbeats 4000000
set_option linter.unusedVariables false
set_option linter.unusedSimpArgs false
namespace Go.Proofs.YtfoaaglbpmmhiaaGreatDoor
section
open Go.RowKit Ck
theorem qh6:(Tryz.prog.info? 164).map (fun i=>(i.zero,i.size,i.bytes))=some (some (.agg #[.string ByteArray.empty,.int .i64 0,.int .i64 0]),3,32):=by kernel_rfl
def Finder (B f:Nat) (d:Str) (num:Int) (ps:List PProb) (w:World):Prop:=
 B<=f/\∃v,w.heap[f]? = some (.cells #[.string (S d),.int .i64 num,v] 141 (0,0))/\w.ownsRow B 164 3 v ps.length (ps.flatMap probC)/\v.ownBlock ≠ some f
theorem qgg (ps:List PProb) (d:Str) (num e:Int):(ps ++ [(⟨d,num,e⟩:PProb)]).flatMap probC=ps.flatMap probC ++ [.string (S d),.int .i64 num,.int .i64 e]:=by
 simp [probC]
theorem qaq (w:World) (b i:Nat) (v:Value):w.grownBy (w.setCell ⟨b,i,none⟩ v) (some b):=
 ⟨rfl,rfl,rfl,by simp [World.setCell],fun k _ hk=>Below.heap_setCell _ _ _ _ (fun e=>hk (by rw [e]))⟩
theorem qh1 {w:World} {B:Nat} {e:TypeId} {size:Nat} {v:Value} {n:Nat} {xs:List Value} (h:w.ownsRow B e size v n xs) : ∀g,v.ownBlock=some g->∃c fz,w.heap[g]? = some (.cells c e fz):=fun g hg=>by
 rcases h.2 with⟨hv,_⟩|⟨g',_,cur,hv,_,hgg,_⟩
 ·rw [hv]at hg
  cases hg
 ·rw [hv]at hg
  cases hg;exact⟨cur,_,hgg⟩
theorem qjp {B f:Nat} {d:Str} {num e:Int} {ps:List PProb} {v:Value} {w w2:World} {g cap:Nat} (hB:B<=f) (hb:w2.heap[f]? = some (.cells #[.string (S d),.int .i64 num,v] 141 (0,0)))
  (hown:w2.ownsRow B 164 3 (.slice (some ⟨g,0,none⟩) (ps.length+1) cap) (ps.length+1) (ps.flatMap probC ++ [.string (S d),.int .i64 num,.int .i64 e])) (hgf:g ≠ f)
  (hbel:Below B w w2) (hoth:Lib.OthersKept 164 (some f) w w2) :
  Finder B f d num (ps ++ [(⟨d,num,e⟩:PProb)]) (w2.setCell ⟨f,2,none⟩ (.slice (some ⟨g,0,none⟩) (ps.length+1) cap))/\Below B w (w2.setCell ⟨f,2,none⟩ (.slice (some ⟨g,0,none⟩) (ps.length+1) cap))/\Lib.OthersKept 164 (some f) w (w2.setCell ⟨f,2,none⟩ (.slice (some ⟨g,0,none⟩) (ps.length+1) cap)):=by
 have hne:(Value.slice (some ⟨g,0,none⟩) (ps.length+1) cap).ownBlock ≠ some f:=by simp [Value.ownBlock,hgf]
 refine⟨⟨hB,_,heap_setCell_same w2 f 2 _ _ _ hb,?_,hne⟩,hbel.setCell hB _,hoth.setCell _ rfl _⟩;have:=hown.kept (qaq w2 f 2 (.slice (some ⟨g,0,none⟩) (ps.length+1) cap)) (Or.inr hne);rw [qgg]
 simpa using this
theorem qmu (B f:Nat) (d:Str) (num e:Int) (ps:List PProb) (w:World) (h:Finder B f d num ps w) (hps:ps.length<=1000000000) (hBw:B<=w.heap.size) :
  Calls Tryz.prog 80 #[.pointer (some ⟨f,0,none⟩),.bool false,.int .i64 e] w fun e' w'=>e'=.returned (.tuple #[])/\(Finder B f d num (ps ++ [(⟨d,num,e⟩:PProb)]) w'/\Below B w w'/\Lib.OthersKept 164 (some f) w w'):=by
 obtain⟨hB,v,hbk,hown,hne⟩:=h;obtain⟨i0,hi,hz0,hz1,hz2⟩:=info_parts qh6;have c0:w.cell? ⟨f,0,none⟩=some (.string (S d)):=by rw [Lib.cell_of_heap hbk];rfl
 have c1:w.cell? ⟨f,1,none⟩=some (.int .i64 num):=by rw [Lib.cell_of_heap hbk];rfl
 have c2:w.cell? ⟨f,2,none⟩=some v:=by rw [Lib.cell_of_heap hbk];rfl
 have f2:w.frozen? ⟨f,2,none⟩=false:=Lib.frozen_of_heap hbk 2;have hlt:f<w.heap.size:=World.block_lt_of_cell? w _ c0;have t0:(w.drew.alloc (.cells #[.string (S d),.int .i64 num,.int .i64 e] 164)).heap.size=w.heap.size+1:=by simp
 have t1:(w.drew.alloc (.cells #[.string (S d),.int .i64 num,.int .i64 e] 164)).ownsRow B 164 3 v ps.length (ps.flatMap probC):=(hown.drew).alloc _;have t2 : ∀j u,[Value.string (S d),.int .i64 num,.int .i64 e][j]? = some u->(w.drew.alloc (.cells #[.string (S d),.int .i64 num,.int .i64 e] 164)).cell? ((⟨w.heap.size,0,none⟩:Addr).add j)=some u:=World.news_of_block (heap_alloc_new w.drew _);have t3 : ∀u ∈ [Value.string (S d),.int .i64 num,.int .i64 e],u.oneCell'=true:=by simp [Value.oneCell']
 have t4:(ps.length+1)*32<=140737488355328:=by omega
 have t5:ps.length+1<=maxLen:=by unfold maxLen;omega
 have t6:B<=(w.drew.alloc (.cells #[.string (S d),.int .i64 num,.int .i64 e] 164)).heap.size:=by rw [t0];omega
 have t7:f<(w.drew.alloc (.cells #[.string (S d),.int .i64 num,.int .i64 e] 164)).heap.size:=by rw [t0];omega
 have t8 : ∀w2,(w.drew.alloc (.cells #[.string (S d),.int .i64 num,.int .i64 e] 164)).grownBy w2 v.ownBlock->w2.heap[f]? = some (.cells #[.string (S d),.int .i64 num,v] 141 (0,0)):=fun w2 hg=>(hg.block f t7 (Ne.symm hne)).trans ((heap_alloc_old w.drew _ hlt).trans hbk)
 have t9 : ∀(g cap:Nat) (w2:World),(w.drew.alloc (.cells #[.string (S d),.int .i64 num,.int .i64 e] 164)).grownBy w2 v.ownBlock->w2.ownsRow B 164 3 (.slice (some ⟨g,0,none⟩) (ps.length+1) cap) (ps.length+1) (ps.flatMap probC ++ [.string (S d),.int .i64 num,.int .i64 e])->(v.ownBlock=some g ∨ g=w.heap.size+1) →
   (Finder B f d num (ps ++ [(⟨d,num,e⟩:PProb)]) (w2.setCell ⟨f,2,none⟩ (.slice (some ⟨g,0,none⟩) (ps.length+1) cap))/\Below B w (w2.setCell ⟨f,2,none⟩ (.slice (some ⟨g,0,none⟩) (ps.length+1) cap))/\Lib.OthersKept 164 (some f) w (w2.setCell ⟨f,2,none⟩ (.slice (some ⟨g,0,none⟩) (ps.length+1) cap))):=fun g cap w2 hg ho hh=>by
  refine qjp hB (t8 w2 hg) ho ?_ ?_ ?_
  ·intro hgf
   subst hgf;rcases hh with hh|hh
   ·exact hne hh
   ·omega
  ·refine Below.grown (((Below.refl B w).drew).alloc hBw _) hg t6 (fun k hk=>(t1.lt k hk).1)
  ·exact((((Lib.OthersKept.refl _ _ w).drew).alloc _).grown hg (qh1 t1))
 go_enter Tryz.func80,Tryz.ntmps80
 go_wp2
 go_region_law ((refine step_append_lies _ (by rfl) _ _ _ (by rfl) B 164 i0 (.agg #[.string ByteArray.empty,.int .i64 0,.int .i64 0]) 3 32 Tryz.underlying114 hi hz0 hz1 hz2 rfl (by decide) v ps.length _ (by rfl) t1 ⟨w.heap.size,0,none⟩ 1 1 [.string (S d),.int .i64 num,.int .i64 e] (by rfl) (by rfl) t2 t3 (by decide) t5 t4 t6 (w.heap.size+1) t0 ?_;intro g cap w2 hown2 hgrow hgg hglt;have hb2:=h_ (t8 w2 hgrow);have hend:=h_ (t9 g cap w2 hgrow hown2 hgg);have e2:=Lib.cell_of_heap hb2.out 2;have e3:=Lib.frozen_of_heap hb2.out 2))
 all_goals clear t1 t2 t3 t8 t9
 all_goals exact bodyPost_end (results_none (by rfl) _ _ _) rfl ⟨rfl,hend.out⟩
theorem qpe (f:Nat) (e:Int) (w:World) :
  Calls Tryz.prog 80 #[.pointer (some ⟨f,0,none⟩),.bool true,.int .i64 e] w fun e' w'=>e'=.returned (.tuple #[])/\w=w':=by
 go_enter Tryz.func80,Tryz.ntmps80
 go_wp2;exact bodyPost_end (results_none (by rfl) _ _ _) rfl ⟨rfl,rfl⟩
end
section
open Go.RowKit Ck
theorem Finder.lt {B f:Nat} {d:Str} {num:Int} {ps:List PProb} {w:World} (h:Finder B f d num ps w):f<w.heap.size:=by
 obtain⟨_,v,hb,_⟩:=h;exact(Array.getElem?_eq_some_iff.1 hb).1
theorem qd0 {w w':World} {B:Nat} {e:TypeId} {size:Nat} {v:Value} {n:Nat} {xs:List Value} (h:w.ownsRow B e size v n xs) (k:Bel w w'):w'.ownsRow B e size v n xs:=by
 refine⟨h.1,?_⟩;rcases h.2 with hn|⟨g,cap,cur,rfl,hb,hgg,rest⟩
 ·exact .inl hn
 ·exact .inr ⟨g,cap,cur,rfl,hb,(Below.block k g (Array.getElem?_eq_some_iff.1 hgg).1).trans hgg,rest⟩
theorem Finder.bel {B f:Nat} {d:Str} {num:Int} {ps:List PProb} {w w':World} (h:Finder B f d num ps w) (k:Bel w w'):Finder B f d num ps w':=by
 have hlt:=h.lt;obtain⟨hB,v,hb,hown,hne⟩:=h;exact⟨hB,v,(Below.block k f hlt).trans hb,qd0 hown k,hne⟩
theorem qfd {e:TypeId} {b:Option Nat} {w w':World} (k:Bel w w'):Lib.OthersKept e b w w':=fun i o hi _ _=>(Below.block k i (Array.getElem?_eq_some_iff.1 hi).1).trans hi
def qp6 (w0:World) (f:Nat) (d:Str) (num:Int) (ps:List PProb) (w:World) (e:Ending) (w':World):Prop:=
 e=.returned (.tuple #[])/\Finder w0.heap.size f d num ps w'/\Bel w0 w'/\Lib.OthersKept 164 (some f) w w'
theorem qf2 (w0:World) (f:Nat) (d:Str) (num:Int) (ps:List PProb) (w:World) (ok:Bool) (e:Int) (h:Finder w0.heap.size f d num ps w) (hps:ps.length<=1000000000) (k0:Bel w0 w) :
  Calls Tryz.prog 80 #[.pointer (some ⟨f,0,none⟩),.bool ok,.int .i64 e] w (qp6 w0 f d num (ps ++ un d num ok e) w):=by
 cases ok with
 | false=>
  refine(qmu w0.heap.size f d num e ps w h hps k0.size).mono ?_;rintro e' w' ⟨rfl,h1,h2,h3⟩;exact⟨rfl,h1,Below.trans k0 h2,h3⟩
 | true=>
  refine(qpe f e w).mono ?_;rintro e' w' ⟨rfl,rfl⟩;exact⟨rfl,by rw [show un d num true e=[]from rfl,List.append_nil];exact h,k0,Lib.OthersKept.refl _ _ _⟩
theorem fd_noted (w0:World) (f:Nat) (d:Str) (num:Int) (ps:List PProb) (w:World) (v:Value) (l:List PNote) (tg:Int) (h:Finder w0.heap.size f d num ps w) (hps:ps.length<=1000000000) (k0:Bel w0 w) (hv:Notes w v l) (hl : ∀n ∈ l,n.name.length<=1000000000) :
  Calls Tryz.prog 122 #[.pointer (some ⟨f,0,none⟩),v,.int .i64 tg] w (qp6 w0 f d num (ps ++ noted d num l tg) w):=by
 have cc:=h_ (nt_Check v l tg w hv hl);have cu:=h_ (fun W ok (k:Bel w W)=>qf2 w0 f d num ps W ok (qam l tg) (h.bel k) hps (Below.trans k0 (k.mono k0.size)));have hn:=h_ (show noted d num l tg=un d num (decide (qam l tg=0)) (qam l tg)from rfl);clear hv hl h hps;generalize qam l tg=R at cc cu hn;generalize noted d num l tg=NN at hn
 go_enter Tryz.func122,Tryz.ntmps122
 go_wp2_with (first
  | (go_at_call 163;(with_reducible refine cc.out.mono ?_);rintro e w1 ⟨rfl,h1⟩;have k1:Bel w w1:=Bel.of (by(repeat (first|(with_reducible assumption)|(with_reducible exact Bel.refl _)|(with_reducible refine Bel.drew ?_)|(with_reducible refine Bel.drewN ?_ _)|(with_reducible refine Bel.alloc ?_ _)|((with_reducible refine qa8 ?_ ?hge);(case hge=>(first|omega|(simp;omega))))))) h1;clear h1)
  | (go_at_call 80;(with_reducible refine(cu.out _ _ k1).mono ?_);rintro e w2 ⟨rfl,h2⟩;have hend:=h_ h2;clear h2))
 obtain⟨g1,g2,g3⟩:=hend.out;refine bodyPost_end (results_none (by rfl) _ _ _) rfl ⟨rfl,?_,g2,(qfd k1).trans g3⟩;rw [hn.out,show decide (R=0)=(R == 0)from rfl];exact g1
end
section
open Go.RowKit Ck
def qc4 (l:List PSpan) (k:Nat):Option PSpan:=if k=0 then none else l[k-1]?
theorem un_len (d:Str) (num:Int) (ok:Bool) (e:Int):(un d num ok e).length<=1:=by
 cases ok <;> simp [un]
def spanP (d:Str) (lo hi:Int) (last:Option PSpan) (p:PSpan):List PProb:=
 un d (-1) (decide (lo<=p.lo/\p.hi<=hi/\p.lo<=p.hi)) 6 ++ un d (-1) (match last with|none=>true|some q=>decide (q.hi<p.lo)) 11
theorem qj6 (d:Str) (lo hi:Int) (q:Option PSpan):qcz d lo hi q []=[]:=by cases q <;> rfl
theorem qh0 (d:Str) (lo hi:Int) (q:Option PSpan) (p:PSpan) (r:List PSpan):qcz d lo hi q (p :: r)=spanP d lo hi q p ++ qcz d lo hi (some p) r:=rfl
theorem qof (w0:World) (f:Nat) (d:Str) (ps:List PProb) (w:World) (v:Value) (l:List PSpan) (lo hi:Int) (h:Finder w0.heap.size f d (-1) ps w) (hps:ps.length<=100000000) (hll:l.length<=100000000) (k0:Bel w0 w) (hv:Spans w0 v l) :
  Calls Tryz.prog 120 #[.pointer (some ⟨f,0,none⟩),v,.int .i64 lo,.int .i64 hi] w (qp6 w0 f d (-1) (ps ++ spans d l lo hi) w):=by
 obtain⟨p,c,rfl,hlen,hcap,hel⟩:=hv;have V:=h_ (show qcz d lo hi (qc4 l 0) (l.drop 0)=spans d l lo hi from rfl);have EL:=h_ hel;clear hel;generalize spans d l lo hi=T at V
 go_enter Tryz.func120,Tryz.ntmps120
 go_wp2
 go_loopw [12] (fun i wr => ∃(k:Nat) (done:List PProb),k<=l.length/\i=.int .i64 k/\Finder w0.heap.size f d (-1) (ps ++ done) wr/\Bel w0 wr/\Lib.OthersKept 164 (some f) w wr/\done.length<=2*k/\Hid (done ++ qcz d lo hi (qc4 l k) (l.drop k)=T)) (fun i _=>l.length-(intOf i).toNat)
 case atStart=>exact⟨0,[],by omega,rfl,by rw [List.append_nil];exact h,k0,Lib.OthersKept.refl _ _ _,by simp,V⟩
 case round=>
  obtain⟨k,done,hk,rfl,hF,kw,ho,hdl,hgo⟩:=hrel;by_cases hlt:k<l.length
  ·have hg:l[k]? = some l[k]:=List.getElem?_eq_getElem hlt
   obtain⟨b,off,rfl,hbs,vs,hce,hvs⟩:=EL.out k _ hg;have hdr:l.drop k=l[k] :: l.drop (k+1):=List.drop_eq_getElem_cons hlt;have hpv:qc4 l (k+1)=some l[k]:=by unfold qc4;rw [if_neg (by omega),Nat.add_sub_cancel,hg]
   have hgo2:=hgo.out;rw [hdr,qh0, ←hpv]at hgo2;clear hgo hdr hg;have hvs':vs=[.int .i64 l[k].lo,.int .i64 l[k].hi]:=hvs;subst hvs';generalize l[k]=x at *;obtain⟨xa,xz⟩:=x;have e0:wr.cell? ⟨b,off+k*2,none⟩=some (.int .i64 xa):=kw.some (hce 0 _ rfl);have e1:wr.cell? ⟨b,off+k*2+1,none⟩=some (.int .i64 xz):=kw.some (hce 1 _ rfl)
   have hprev:(k=0/\qc4 l k=none) ∨ ∃j q,k=j+1/\qc4 l k=some q/\w0.cell? ⟨b,off+j*2+1,none⟩=some (.int .i64 q.hi):=by
    cases k with
    | zero=>exact .inl ⟨rfl,rfl⟩
    | succ j=>
     have hg2:l[j]? = some l[j]:=List.getElem?_eq_getElem (by omega);obtain⟨b',off',he,_,vs2,hce2,hvs2⟩:=EL.out j _ hg2;cases he;have hvs2':vs2=[.int .i64 l[j].lo,.int .i64 l[j].hi]:=hvs2;subst hvs2';exact .inr ⟨j,l[j],rfl,by unfold qc4;rw [if_neg (by omega),Nat.add_sub_cancel];exact hg2,hce2 1 _ rfl⟩
   clear hce hvs;have GO:=h_ hgo2;clear hgo2;have hki:((k:Int)<(l.length:Int)):=by omega
   have cu6:=h_ (fun W ok (k1:Bel wr W)=>qf2 w0 f d (-1) (ps ++ done) W ok 6 (hF.bel k1) (by rw [List.length_append];omega) (Below.trans kw (k1.mono kw.size)));generalize hO1:decide (lo<=xa/\xz<=hi/\xa<=xz)=O1;have HO1:=h_ hO1;have HPV:=h_ hprev;clear hO1 hprev hpv
   go_upto_region 3 with(fail)
   go_cut [] (fun wx=>Finder w0.heap.size f d (-1) (ps ++ done ++ un d (-1) O1 6) wx/\Bel w0 wx/\Lib.OthersKept 164 (some f) w wx/\wx.heap[wr.heap.size]? = some (.cells #[.int .i64 xa,.int .i64 xz] 194 (0,0)))
   case first=>
    go_wp2_with (go_at_call 80;(with_reducible refine(cu6.out _ _ (by(repeat (first|(with_reducible assumption)|(with_reducible exact Bel.refl _)|(with_reducible refine Bel.drew ?_)|(with_reducible refine Bel.drewN ?_ _)|(with_reducible refine Bel.alloc ?_ _)|((with_reducible refine qa8 ?_ ?hge);(case hge=>(first|omega|(simp;omega)))))))).mono ?_);rintro e w2 ⟨rfl,h2⟩;have hend:=h_ h2;clear h2)
    all_goals go_meet
    all_goals (
     obtain⟨hF2,kw2,ho2⟩:=hend.out;refine⟨?_,kw2,(ho.alloc _).trans ho2,qbx ho2 (heap_alloc_new wr _) (fun e=>by have:=hF.lt;injection e;omega) (by decide)⟩
     first
      | (rw [←HO1.out,show decide (lo<=xa/\xz<=hi/\xa<=xz)=decide (xa<=xz)by simp [*]];exact hF2)
      | (rw [←HO1.out,show decide (lo<=xa/\xz<=hi/\xa<=xz)=false from decide_eq_false (by omega)];exact hF2))
   case rest=>
    obtain⟨hF2,kw2,ho2,hb2⟩:=hcut
    have hlen2:(ps ++ done ++ un d (-1) O1 6).length<=1000000000:=by
     have:=un_len d (-1) O1 6;rw [List.length_append,List.length_append];omega
    have cu11:=h_ (fun W ok (k1:Bel wc W)=>qf2 w0 f d (-1) (ps ++ done ++ un d (-1) O1 6) W ok 11 (hF2.bel k1) hlen2 (Below.trans kw2 (k1.mono kw2.size)))
    have hfin : ∀(O2:Bool) (w3:World),(match qc4 l k with|none=>true|some q=>decide (q.hi<xa))=O2->Finder w0.heap.size f d (-1) (ps ++ done ++ un d (-1) O1 6 ++ un d (-1) O2 11) w3->Bel w0 w3->Lib.OthersKept 164 (some f) w w3 →
      (Finder w0.heap.size f d (-1) (ps ++ (done ++ spanP d lo hi (qc4 l k) ⟨xa,xz⟩)) w3/\Bel w0 w3/\Lib.OthersKept 164 (some f) w w3/\(done ++ spanP d lo hi (qc4 l k) ⟨xa,xz⟩).length<=2*(k+1)/\Hid ((done ++ spanP d lo hi (qc4 l k) ⟨xa,xz⟩) ++ qcz d lo hi (qc4 l (k+1)) (l.drop (k+1))=T)):=fun O2 w3 hO2 g1 g2 g3=>by
     have hsp:spanP d lo hi (qc4 l k) ⟨xa,xz⟩=un d (-1) O1 6 ++ un d (-1) O2 11:=by
      unfold spanP;rw [HO1.out,hO2]
     refine⟨?_,g2,g3,?_,?_⟩
     ·rw [hsp];simpa only [List.append_assoc]using g1
     ·rw [hsp,List.length_append,List.length_append]
      have:=un_len d (-1) O1 6;have:=un_len d (-1) O2 11;omega
     ·refine h_ ?_
      rw [List.append_assoc];exact GO.out
    have HFIN:=h_ hfin;have hkw:IntKind.i64.wrap ((k:Int)+1)=(k:Int)+1:=wrap_small _ (by omega) (by omega);obtain⟨wd,hwd⟩ : ∃wd,wd=wc.drew:=⟨_,rfl⟩;have kd:Bel wc wd:=by rw [hwd];exact(Bel.refl _).drew
    have d0:wd.cell? ⟨wr.heap.size,0,none⟩=some (.int .i64 xa):=kd.some (Lib.cell_of_heap hb2 0);have hod:Lib.OthersKept 164 (some f) w wd:=by rw [hwd];exact ho2.drew
    have HWD:=h_ hwd;clear hfin hwd hb2 hF2 hF h hki
    go_upto_region 4 with(fail)
    rcases HPV.out with⟨hk0,hp0⟩|⟨j,q,hkj,hpq,hcj⟩
    ·have HP0:=h_ hp0
     clear hp0;subst hk0;refine qae 14 (by kernel_rfl) (by kernel_rfl) HWD.out ?_
     (simp only [t_1,t_2,t_3,t_4]);(repeat (first|((with_reducible refine wpStill_step (fun K hK=>?_));go_simp;(with_reducible refine hK _ ?_);clear hK K)|((with_reducible refine qaa ?_ ?_);(with_unfolding_all rfl))));(with_reducible refine wpStill_nil ?_)
     go_wp2_with (go_at_call 80;(with_reducible refine(cu11.out _ _ kd).mono ?_);rintro e w3 ⟨rfl,h3⟩;have hend:=h_ h3;clear h3)
     obtain⟨g1,g2,g3⟩:=hend.out;obtain⟨r1,r2,r3,r4,r5⟩:=HFIN.out true w3 (by rw [HP0.out]) g1 g2 (hod.trans g3);refine⟨⟨0+1,_,by omega,rfl,r1,r2,r3,r4,r5⟩,by simp [intOf];omega⟩
    ·subst hkj
     have d1:wd.cell? ⟨b,off+j*2+1,none⟩=some (.int .i64 q.hi):=(Bel.of kw2 kd).some hcj;have j0:(0:Int)<=(j:Int):=by omega
     have j1:(j:Int)<(l.length:Int):=by omega
     have jn:((((j+1:Nat):Int)) == 0)=false:=by rw [beq_eq_false_iff_ne];omega
     have jn2:(((j:Int)+1) == 0)=false:=by rw [beq_eq_false_iff_ne];omega
     have jm:IntKind.i64.wrap ((j:Int)+1-1)=(j:Int):=by rw [show(j:Int)+1-1=(j:Int)by omega];exact wrap_small _ (by omega) (by omega)
     have jm2:IntKind.i64.wrap (j:Int)=(j:Int):=wrap_small _ (by omega) (by omega);have HPQ:=h_ hpq;clear hpq hcj;refine qae 14 (by kernel_rfl) (by kernel_rfl) HWD.out ?_
     (simp only [t_1,t_2,t_3,t_4]);(repeat (first|((with_reducible refine wpStill_step (fun K hK=>?_));go_simp;(with_reducible refine hK _ ?_);clear hK K)|((with_reducible refine qaa ?_ ?_);(with_unfolding_all rfl))));(with_reducible refine wpStill_nil ?_)
     go_wp2_with (go_at_call 80;(with_reducible refine(cu11.out _ _ kd).mono ?_);rintro e w3 ⟨rfl,h3⟩;have hend:=h_ h3;clear h3)
     obtain⟨g1,g2,g3⟩:=hend.out;obtain⟨r1,r2,r3,r4,r5⟩:=HFIN.out _ w3 (by rw [HPQ.out]) g1 g2 (hod.trans g3);refine⟨⟨j+1+1,_,by omega,rfl,r1,r2,r3,r4,r5⟩,by simp [intOf];omega⟩
  ·have hkl:k=l.length:=by omega
   subst hkl;have G:=hgo.out;rw [List.drop_length,qj6,List.append_nil]at G;subst G;clear hgo EL V;go_wp2;refine bodyPost_end (results_none (by rfl) _ _ _) rfl ⟨rfl,hF,kw,ho⟩
end
section
open Go.RowKit Ck
theorem qb0 (w:World) (o:Obj) (n:Nat) (h:n=w.heap.size):(w.alloc o).heap[n]? = some o:=by subst h;exact heap_alloc_new w o
theorem Finder.setnum {B f:Nat} {d:Str} {num n2:Int} {ps:List PProb} {w:World} (h:Finder B f d num ps w):Finder B f d n2 ps (w.setCell ⟨f,1,none⟩ (.int .i64 n2)):=by
 obtain⟨hB,v,hb,hown,hne⟩:=h;refine⟨hB,v,heap_setCell_same w f 1 _ _ _ hb,?_,hne⟩;exact hown.kept (qaq w f 1 (.int .i64 n2)) (Or.inr hne)
def FS (w0:World) (fb:Nat) (d:Str) (num:Int) (w:World) (bl:List (Nat × Array Value × TypeId)) (N:Nat) (ps:List PProb) (wx:World):Prop:=
 Finder w0.heap.size fb d num ps wx/\Bel w0 wx/\Lib.OthersKept 164 (some fb) w wx/\ps.length<=N/\∀b ∈ bl,wx.heap[b.1]? = some (.cells b.2.1 b.2.2 (0,0))/\b.1 ≠ fb/\b.2.2 ≠ 164
section
variable {w0 : World} {fb : Nat} {d : Str} {num : Int} {w : World} {bl : List (Nat × Array Value × TypeId)} {N : Nat} {ps : List PProb} {wx : World}
theorem FS.bel {w1:World} (h:FS w0 fb d num w bl N ps wx) (k:Bel wx w1):FS w0 fb d num w bl N ps w1:=by
 obtain⟨h1,h2,h3,h4,h5⟩:=h;refine⟨h1.bel k,Bel.of h2 k,h3.trans (qfd k),h4,fun b hb=>?_⟩;obtain⟨g1,g2,g3⟩:=h5 b hb;exact⟨(Below.block k _ (Array.getElem?_eq_some_iff.1 g1).1).trans g1,g2,g3⟩
theorem FS.cell (h:FS w0 fb d num w bl N ps wx) {g:Nat} {cs:Array Value} {T:TypeId} (hb:(g,cs,T) ∈ bl) : ∀o,wx.cell? ⟨g,o,none⟩=cs[o]?:=fun o=>Lib.cell_of_heap (h.2.2.2.2 _ hb).1 o
theorem FS.unless (h:FS w0 fb d num w bl N ps wx) (hN:N<=1000000000) (ok:Bool) (e:Int) :
  Calls Tryz.prog 80 #[.pointer (some ⟨fb,0,none⟩),.bool ok,.int .i64 e] wx fun e' w'=>e'=.returned (.tuple #[])/\FS w0 fb d num w bl (N+1) (ps ++ un d num ok e) w':=by
 obtain⟨h1,h2,h3,h4,h5⟩:=h;refine(qf2 w0 fb d num ps wx ok e h1 (by omega) h2).mono ?_;rintro e' w' ⟨rfl,g1,g2,g3⟩;refine⟨rfl,g1,g2,h3.trans g3,?_,fun b hb=>?_⟩
 ·have:=un_len d num ok e
  rw [List.length_append];omega
 ·obtain⟨q1,q2,q3⟩:=h5 b hb
  exact⟨qbx g3 q1 (fun e=>q2 (by injection e)) q3,q2,q3⟩
theorem FS.noted (h:FS w0 fb d num w bl N ps wx) (hN:N<=1000000000) (v:Value) (l:List PNote) (tg:Int) (hv:Notes w0 v l) (hl : ∀n ∈ l,n.name.length<=1000000000) :
  Calls Tryz.prog 122 #[.pointer (some ⟨fb,0,none⟩),v,.int .i64 tg] wx fun e' w'=>e'=.returned (.tuple #[])/\FS w0 fb d num w bl (N+1) (ps ++ noted d num l tg) w':=by
 obtain⟨h1,h2,h3,h4,h5⟩:=h;refine(fd_noted w0 fb d num ps wx v l tg h1 (by omega) h2 (hv.bel VNote.stays h2) hl).mono ?_;rintro e' w' ⟨rfl,g1,g2,g3⟩;refine⟨rfl,g1,g2,h3.trans g3,?_,fun b hb=>?_⟩
 ·have:(Ck.noted d num l tg).length<=1:=un_len _ _ _ _
  rw [List.length_append];omega
 ·obtain⟨q1,q2,q3⟩:=h5 b hb
  exact⟨qbx g3 q1 (fun e=>q2 (by injection e)) q3,q2,q3⟩
theorem FS.okc {ok ok':Bool} {e:Int} (h:FS w0 fb d num w bl N (ps ++ un d num ok e) wx) (he:ok=ok'):FS w0 fb d num w bl N (ps ++ un d num ok' e) wx:=he ▸ h
theorem FS.setnum {n2:Int} (h:FS w0 fb d num w bl N ps wx):FS w0 fb d n2 w bl N ps (wx.setCell ⟨fb,1,none⟩ (.int .i64 n2)):=by
 obtain⟨h1,h2,h3,h4,h5⟩:=h;refine⟨h1.setnum,qa8 h2 h1.1,h3.setCell _ rfl _,h4,fun b hb=>?_⟩;obtain⟨g1,g2,g3⟩:=h5 b hb;exact⟨(Below.heap_setCell _ _ _ _ (fun e=>g2 (by rw [e]))).trans g1,g2,g3⟩
theorem FS.fdcell (h:FS w0 fb d num w bl N ps wx):wx.cell? ⟨fb,1,none⟩=some (.int .i64 num)/\wx.frozen? ⟨fb,1,none⟩=false:=by
 obtain⟨⟨hB,v,hb,hown,hne⟩,_⟩:=h;exact⟨by rw [Lib.cell_of_heap hb];rfl,Lib.frozen_of_heap hb 1⟩
theorem FS.bel0 (h:FS w0 fb d num w bl N ps wx):Bel w0 wx:=h.2.1
theorem FS.thin (h:FS w0 fb d num w bl N ps wx):FS w0 fb d num w [] N ps wx:=⟨h.1,h.2.1,h.2.2.1,h.2.2.2.1,fun b hb=>by cases hb⟩
end
end
section
open Go.RowKit Ck
theorem qdm {α:Type} {C:Nat} {E:World->Nat->Nat->α->Prop} {w:World} {q:Option Addr} {n c:Nat} {xs:List α} (h:Sl C E w (.slice q n c) xs):n=xs.length:=by
 obtain⟨_,_,he,_⟩:=h;cases he;rfl
def qda (w:World) (ps:List PProb) (e:Ending) (w':World):Prop := ∃v,e=.returned v/\w'.ownsRow w.heap.size 164 3 v ps.length (ps.flatMap probC)/\Below w.heap.size w w'
theorem qq7 {w:World} {B C:Nat} {e:TypeId} {z:Nat} {v:Value} {n:Nat} {xs:List Value} (h:w.ownsRow C e z v n xs) (hb:B<=C):w.ownsRow B e z v n xs:=by
 refine⟨h.1,?_⟩;rcases h.2 with hn|⟨g,cap,cur,h1,h2,rest⟩
 ·exact .inl hn
 ·exact .inr ⟨g,cap,cur,h1,Nat.le_trans hb h2,rest⟩
theorem FS.out {w0:World} {fb:Nat} {d:Str} {num:Int} {w:World} {bl:List (Nat × Array Value × TypeId)} {N:Nat} {ps:List PProb} {wx:World} (h:FS w0 fb d num w bl N ps wx) : ∃v,wx.cell? ⟨fb,2,none⟩=some v/\wx.ownsRow w0.heap.size 164 3 v ps.length (ps.flatMap probC):=by
 obtain⟨⟨hB,v,hb,hown,hne⟩,_⟩:=h;exact⟨v,by rw [Lib.cell_of_heap hb];rfl,hown⟩
theorem FS.of_post {w0:World} {fb:Nat} {d:Str} {num n2:Int} {w:World} {bl:List (Nat × Array Value × TypeId)} {N N2:Nat} {ps ps2:List PProb} {wx w':World} {e:Ending} (h:FS w0 fb d num w bl N ps wx) (p:qp6 w0 fb d n2 ps2 wx e w') (hl:ps2.length<=N2):FS w0 fb d n2 w bl N2 ps2 w':=by
 obtain⟨h1,h2,h3,h4,h5⟩:=h;obtain⟨_,g1,g2,g3⟩:=p;refine⟨g1,g2,h3.trans g3,hl,fun b hb=>?_⟩;obtain⟨q1,q2,q3⟩:=h5 b hb;exact⟨qbx g3 q1 (fun e=>q2 (by injection e)) q3,q2,q3⟩
theorem FS.start (w a:World) (d:Str) (num:Int) (bl:List (Nat × Array Value × TypeId)) (hk:Bel w a) (hbl : ∀b ∈ bl,a.heap[b.1]? = some (.cells b.2.1 b.2.2 (0,0))/\b.2.2 ≠ 164) :
  FS w a.heap.size d num w bl 0 [] (a.alloc (.cells #[.string (S d),.int .i64 num,.slice none 0 0] 141)):=by
 refine⟨⟨hk.size,.slice none 0 0,heap_alloc_new _ _,⟨rfl,.inl ⟨rfl,rfl⟩⟩,by simp [Value.ownBlock]⟩,hk.alloc _,qfd (hk.alloc _),by simp,fun b hb=>?_⟩;obtain⟨h1,h2⟩:=hbl b hb;have hlt:b.1<a.heap.size:=(Array.getElem?_eq_some_iff.1 h1).1;exact⟨(heap_alloc_old _ _ hlt).trans h1,by omega,h2⟩
theorem qb2 {α:Type} {a b:List α} {n k:Nat} (h:a.length<=n) (h2:b.length<=k):(a ++ b).length<=n+k:=by rw [List.length_append];omega
theorem qiu (s:PSchema) (m:PMsg) (i:Nat) (f:PField):(qdr s m i f).length<=10:=by
 unfold qdr noted;exact qb2 (qb2 (qb2 (qb2 (qb2 (qb2 (qb2 (qb2 (qb2 (un_len _ _ _ _) (un_len _ _ _ _)) (un_len _ _ _ _)) (un_len _ _ _ _)) (un_len _ _ _ _)) (un_len _ _ _ _)) (un_len _ _ _ _)) (un_len _ _ _ _)) (un_len _ _ _ _)) (un_len _ _ _ _)
theorem qcw (d:Str) (lo hi:Int) : ∀(q:Option PSpan) (l:List PSpan),(qcz d lo hi q l).length<=2*l.length
 | q,[]=>by rw [qj6];simp
 | q,p :: r=>by
  have ih:=qcw d lo hi (some p) r;rw [qh0];unfold spanP;refine Nat.le_trans (qb2 (qb2 (un_len _ _ _ _) (un_len _ _ _ _)) ih) ?_;rw [List.length_cons];omega
def goneP (d:Str) (l:List Str):List PProb:=l.flatMap fun g=>un d (-1) (decide (Utf.bad g<0)) 7
theorem qir (d:Str) (g:Str) (l:List Str):goneP d (g :: l)=un d (-1) (decide (Utf.bad g<0)) 7 ++ goneP d l:=rfl
end
section
open Go.RowKit Ck
theorem qb1 (s:Str) (w:World) (hs:s.length<=1000000000000000) :
  Calls Tryz.prog 124 #[.string (S s)] w fun e w'=>e=.returned (.bool (qa7 s))/\Below w.heap.size w w':=by
 have cp:=h_ (qhl (S s) s w rfl (by rw [qai];exact hs));have cw:=h_ (fun W=>qld (S s) s W rfl);have hv:qa7 s=(Id.isPart s && !Id.isWord s):=rfl;have HV:=h_ hv;clear hv;generalize Id.isWord s=Q at *;cases hR:Id.isPart s <;> rw [hR]at cp HV <;> clear hR
 all_goals
  go_enter Tryz.func124,Tryz.ntmps124
  go_wp2_with (first
   | (go_at_call 61;(with_reducible refine cp.out.mono ?_);rintro e w1 ⟨rfl,h1⟩)
   | (go_at_call 155;(with_reducible refine(cw.out _).mono ?_);rintro e w2 ⟨rfl,rfl⟩))
  go_ret;exact⟨qa3 HV.out.symm,h1⟩
theorem qd8 (s:Str) (w:World) (hs:s.length<=100000000) (hM:ML w) :
  Calls Tryz.prog 118 #[.string (S s)] w fun e w'=>e=.returned (.bool (qad s))/\Below w.heap.size w w':=by
 have cp:=h_ (qqo (S s) s w rfl (by rw [qai];exact hs) hM);have csp:=h_ (fun(W:World) (hb:Below w.heap.size w W)=>qhk (S s) 46 s W rfl (by rw [qai];omega) (hM.below hb));have hcut : ∀p ∈ Id.cut 46 s,p.length<=s.length:=fun p hp=>qfr 46 s p hp
 have hmany:=qfq 46 s;have hv:qad s=(Id.isFull s && !(Id.cut 46 s).any Id.isWord):=rfl
 have hcc : ∀W:World,Calls Tryz.prog 112 #[.slice (some ⟨W.heap.size,0,none⟩) (Id.cut 46 s).length (Id.cut 46 s).length,.func (.func 155) #[] #[]] (W.alloc (.cells ((Id.cut 46 s).map strV).toArray 9)) fun e w'=>e=.returned (.bool ((Id.cut 46 s).any Id.isWord))/\Below (W.alloc (.cells ((Id.cut 46 s).map strV).toArray 9)).heap.size (W.alloc (.cells ((Id.cut 46 s).map strV).toArray 9)) w':=fun W=>by
  refine qr6 _ _ (enters_of Tryz.func155 (by kernel_rfl) rfl) _ (Id.cut 46 s) _ _ ⟨_,_,rfl,by omega,by omega,fun i x hx=>⟨W.heap.size,0,rfl,by simp,[.string (S x)],?_,rfl⟩⟩ (fun x W2 _ _=>?_)
  ·intro j v hj
   have hj0:j=0:=by
    cases j with
    | zero=>rfl
    | succ j=>simp at hj
   subst hj0;simp at hj;subst hj;rw [Nat.zero_add,Nat.mul_one,Nat.add_zero];exact qe0 W _ _ i x hx
  ·refine(qld (S x) x W2 rfl).mono ?_
   rintro e w' ⟨rfl,rfl⟩;exact⟨rfl,Below.refl _ _⟩
 clear hcut hmany;generalize Id.cut 46 s=P at csp hv hcc;generalize Id.isFull s=R at cp hv;have HV:=h_ hv;have cc:=h_ hcc;clear hv hcc hM;generalize hQ:P.any Id.isWord=Q at cc HV;clear hQ;have hst:(strV:List UInt8->Value)=strV:=rfl;cases R with
 | false=>
  go_enter Tryz.func118,Tryz.ntmps118
  go_wp2_with (go_at_call 154;(with_reducible refine cp.out.mono ?_);rintro e w1 ⟨rfl,h1⟩)
  go_ret;exact⟨qa3 HV.out.symm,h1⟩
 | true=>
  go_enter Tryz.func118,Tryz.ntmps118
  go_wp2_with (first
   | (go_at_call 154;(with_reducible refine cp.out.mono ?_);rintro e w1 ⟨rfl,h1⟩;have k1:Bel w w1:=h1)
   | (go_at_call 60;(with_reducible refine(csp.out _ h1).mono ?_);rintro e w2 ⟨rfl,hw2⟩;(subst hw2);have k2:=Bel.alloc k1 (.cells (P.map strV).toArray 9))
   | (go_at_call 112;(with_reducible refine(cc.out _).mono ?_);rintro e w3 ⟨rfl,h3⟩))
  go_ret;exact⟨qa3 HV.out.symm,Bel.out (Bel.of k2 h3)⟩
end
section
open Go.RowKit Ck
theorem ck_zero (k x:Int) (t:Str) (p1 p2 p3 p4:Option Addr) (n1 n2 n3 n4 q1 q2 q3 q4:Nat) (w:World) (b1:n1<=140737488355328) (b2:n2<=140737488355328) (b3:n3<=140737488355328) (b4:n4<=140737488355328) :
  Calls Tryz.prog 194 #[.agg #[.int .i64 k,.int .u64 x,.string (S t),.slice p1 n1 q1,.slice p2 n2 q2,.slice p3 n3 q3,.slice p4 n4 q4]] w fun e w'=>e=.returned (.bool (zeroV ⟨k,x,t,n1,n2,n3,n4⟩))/\Below w.heap.size w w':=by
 have hv:zeroV ⟨k,x,t,n1,n2,n3,n4⟩=decide (k=0/\x=0/\t=[]/\n1+n2+n3+n4=0):=rfl;have HV:=h_ hv;clear hv;generalize zeroV ⟨k,x,t,n1,n2,n3,n4⟩=R at HV;by_cases hk:k=0
 ·by_cases hx:x=0
  ·by_cases ht:t=[]
   ·have H2:=h_ (show R=decide (((n1:Int)+n2+n3+n4:Int)=0)by rw [HV.out,Bool.eq_iff_iff,decide_eq_true_iff,decide_eq_true_iff];simp only [hk,hx,ht,true_and];omega)
    clear HV;subst ht hk hx;have he:(S []).toList=[]:=qco [] rfl;have he2:(S []).toList.isEmpty=true:=by rw [he];rfl
    go_enter Tryz.func194,Tryz.ntmps194
    go_wp2
    all_goals go_ret
    all_goals exact⟨qa3 (by rw [H2.out];rfl),(Below.refl _ _).alloc (Nat.le_refl _) _⟩
   ·have H2:=h_ (show R=false by rw [HV.out];exact decide_eq_false (fun h=>ht h.2.2.1))
    have he:=qb6 t ht;have he2:=qaw t ht;clear HV ht;subst hk hx
    go_enter Tryz.func194,Tryz.ntmps194
    go_wp2
    all_goals go_ret
    all_goals exact⟨qa3 H2.out.symm,(Below.refl _ _).alloc (Nat.le_refl _) _⟩
  ·have H2:=h_ (show R=false by rw [HV.out];exact decide_eq_false (fun h=>hx h.2.1))
   have he:=ine hx;clear HV hx;subst hk
   go_enter Tryz.func194,Tryz.ntmps194
   go_wp2
   all_goals go_ret
   all_goals exact⟨qa3 H2.out.symm,(Below.refl _ _).alloc (Nat.le_refl _) _⟩
 ·have H2:=h_ (show R=false by rw [HV.out];exact decide_eq_false (fun h=>hk h.1))
  have he:=ine hk;clear HV hk
  go_enter Tryz.func194,Tryz.ntmps194
  go_wp2
  all_goals go_ret
  all_goals exact⟨qa3 H2.out.symm,(Below.refl _ _).alloc (Nat.le_refl _) _⟩
end
section
open Go.RowKit Ck
def qp5 (r:Option PMsg) (w:World) (e:Ending) (w':World):Prop:=
 ∃rn:Str, ∃rq1 rq2 rq3 rq4:Option Addr, ∃rm1 rm2 rm3 rm4 rc1 rc2 rc3 rc4:Nat,e=.returned (.tuple #[.agg #[.string (S rn),.slice rq1 rm1 rc1,.slice rq2 rm2 rc2,.slice rq3 rm3 rc3,.slice rq4 rm4 rc4],.bool r.isSome])/\(∀x,r=some x->VMsg w [.string (S rn),.slice rq1 rm1 rc1,.slice rq2 rm2 rc2,.slice rq3 rm3 rc3,.slice rq4 rm4 rc4] x)/\Below w.heap.size w w'
theorem VSchema.stays_bel {w w2:World} {vs:List Value} {s:PSchema} (h:VSchema w vs s) (k:Bel w w2):VSchema w2 vs s:=VSchema.stays w w2 vs s k h
theorem qcc (mv ev sv:Value) (s:PSchema) (name:Str) (w:World) (hv:VSchema w [mv,ev,sv] s) :
  Calls Tryz.prog 115 #[.agg #[mv,ev,sv],.string (S name)] w (qp5 (msgOf s name) w):=by
 refine(qos mv ev sv s name w hv).mono ?_;rintro e w' ⟨vs,rfl,h1,h2⟩;unfold qp5;cases hr:msgOf s name with
 | none=>
  rw [hr]at h1;simp only at h1;subst h1;exact⟨[],none,none,none,none,0,0,0,0,0,0,0,0,rfl,(fun x hx=>by cases hx),h2⟩
 | some x=>
  rw [hr]at h1;simp only at h1;have h1':=h1;obtain⟨v1,v2,v3,v4,rfl,g1,g2,g3,g4⟩:=h1;obtain⟨x1,y1,rfl,_⟩:=qa5 g1;obtain⟨x2,y2,rfl,_⟩:=qa5 g2;obtain⟨x3,y3,rfl,_⟩:=qa5 g3;obtain⟨x4,y4,rfl,_⟩:=qa5 g4;exact⟨_,_,_,_,_,_,_,_,_,_,_,_,_,rfl,(fun z hz=>by cases hz;exact h1'),h2⟩
def qly (r:Option PEnum) (w:World) (e:Ending) (w':World):Prop:=
 ∃rn:Str, ∃rop:Bool, ∃rq1 rq2 rq3:Option Addr, ∃rm1 rm2 rm3 rc1 rc2 rc3:Nat,e=.returned (.tuple #[.agg #[.string (S rn),.bool rop,.slice rq1 rm1 rc1,.slice rq2 rm2 rc2,.slice rq3 rm3 rc3],.bool r.isSome])/\(∀x,r=some x->VEnum w [.string (S rn),.bool rop,.slice rq1 rm1 rc1,.slice rq2 rm2 rc2,.slice rq3 rm3 rc3] x)/\Below w.heap.size w w'
theorem qk0 (mv ev sv:Value) (s:PSchema) (name:Str) (w:World) (hv:VSchema w [mv,ev,sv] s) :
  Calls Tryz.prog 191 #[.agg #[mv,ev,sv],.string (S name)] w (qly (qc9 s name) w):=by
 refine(ck_enum mv ev sv s name w hv).mono ?_;rintro e w' ⟨vs,rfl,h1,h2⟩;unfold qly;cases hr:qc9 s name with
 | none=>
  rw [hr]at h1;simp only at h1;subst h1;exact⟨[],false,none,none,none,0,0,0,0,0,0,rfl,(fun x hx=>by cases hx),h2⟩
 | some x=>
  rw [hr]at h1;simp only at h1;have h1':=h1;obtain⟨v1,v2,v3,rfl,g1,g2,g3⟩:=h1;obtain⟨x1,y1,rfl,_⟩:=qa5 g1;obtain⟨x2,y2,rfl,_⟩:=qa5 g2;obtain⟨x3,y3,rfl,_⟩:=qa5 g3;exact⟨_,_,_,_,_,_,_,_,_,_,_,rfl,(fun z hz=>by cases hz;exact h1'),h2⟩
theorem ck_typed (sq1 sq2 sq3:Option Addr) (sm1 sm2 sm3 sc1 sc2 sc3:Nat) (s:PSchema) (fu:Int) (fn:Str) (fca fke ftk:Int) (ftn fun0:Str) (fhd:Bool) (fvk fvx:Int) (fvt:Str) (fr1 fr2 fr3 fr4 fr5:Option Addr) (fm1 fd1 fm2 fd2 fm3 fd3 fm4 fd4 fm5 fd5:Nat) (nts:List PNote) (w:World) (hv:VSchema w [.slice sq1 sm1 sc1,.slice sq2 sm2 sc2,.slice sq3 sm3 sc3] s) :
  Calls Tryz.prog 159 #[.agg #[.slice sq1 sm1 sc1,.slice sq2 sm2 sc2,.slice sq3 sm3 sc3],.agg #[.int .i64 fu,.string (S fn),.int .i64 fca,.int .i64 fke,.int .i64 ftk,.string (S ftn),.string (S fun0),.bool fhd,.int .i64 fvk,.int .u64 fvx,.string (S fvt),.slice fr1 fm1 fd1,.slice fr2 fm2 fd2,.slice fr3 fm3 fd3,.slice fr4 fm4 fd4,.slice fr5 fm5 fd5]] w fun e w'=>e=.returned (.bool (typed s ⟨fu,fn,fca,fke,ftk,ftn,fun0,fhd,⟨fvk,fvx,fvt,fm1,fm2,fm3,fm4⟩,nts⟩))/\Below w.heap.size w w':=by
 have V:typed s ⟨fu,fn,fca,fke,ftk,ftn,fun0,fhd,⟨fvk,fvx,fvt,fm1,fm2,fm3,fm4⟩,nts⟩=if 1<=ftk/\ftk<=8 then decide (ftn=[])else if ftk=9 then(qc9 s ftn).isSome else if ftk=10 then(msgOf s ftn).isSome && decide (fca ≠ 3)else false:=rfl
 have ce:=h_ (fun W (k:Bel w W)=>qk0 _ _ _ s ftn W (hv.stays_bel k));have cm:=h_ (fun W (k:Bel w W)=>qcc _ _ _ s ftn W (hv.stays_bel k));have HV:=h_ V;clear V hv;generalize typed s ⟨fu,fn,fca,fke,ftk,ftn,fun0,fhd,⟨fvk,fvx,fvt,fm1,fm2,fm3,fm4⟩,nts⟩=R at HV;generalize qc9 s ftn=E at ce HV;generalize msgOf s ftn=M at cm HV;by_cases h1:1<=ftk/\ftk<=8
 ·have H:=h_ (show R=decide (ftn=[])by rw [HV.out,if_pos h1])
  obtain⟨h1a,h1b⟩:=h1;clear HV;by_cases ht:ftn=[]
  ·have H2:=h_ (show R=true by rw [H.out];exact decide_eq_true ht)
   clear H;subst ht;have he:(S []).toList=[]:=qco [] rfl;have he2:(S []).toList.isEmpty=true:=by rw [he];rfl
   go_enter Tryz.func159,Tryz.ntmps159
   go_wp2
   all_goals go_ret
   all_goals exact⟨qa3 H2.out.symm,Bel.out (by(repeat (first|(with_reducible assumption)|(with_reducible exact Bel.refl _)|(with_reducible refine Bel.drew ?_)|(with_reducible refine Bel.drewN ?_ _)|(with_reducible refine Bel.alloc ?_ _)|((with_reducible refine qa8 ?_ ?hge);(case hge=>(first|omega|(simp;omega)))))))⟩
  ·have H2:=h_ (show R=false by rw [H.out];exact decide_eq_false ht)
   have he:=qb6 ftn ht;have he2:=qaw ftn ht;clear H ht
   go_enter Tryz.func159,Tryz.ntmps159
   go_wp2
   all_goals go_ret
   all_goals exact⟨qa3 H2.out.symm,Bel.out (by(repeat (first|(with_reducible assumption)|(with_reducible exact Bel.refl _)|(with_reducible refine Bel.drew ?_)|(with_reducible refine Bel.drewN ?_ _)|(with_reducible refine Bel.alloc ?_ _)|((with_reducible refine qa8 ?_ ?hge);(case hge=>(first|omega|(simp;omega)))))))⟩
 ·by_cases h9:ftk=9
  ·have H:=h_ (show R=E.isSome by rw [HV.out,if_neg h1,if_pos h9])
   clear HV h1;subst h9
   go_enter Tryz.func159,Tryz.ntmps159
   go_wp2_with (go_at_call 191;(with_reducible refine(ce.out _ (by(repeat (first|(with_reducible assumption)|(with_reducible exact Bel.refl _)|(with_reducible refine Bel.drew ?_)|(with_reducible refine Bel.drewN ?_ _)|(with_reducible refine Bel.alloc ?_ _)|((with_reducible refine qa8 ?_ ?hge);(case hge=>(first|omega|(simp;omega)))))))).mono ?_);rintro e w1 ⟨ja,jb,jc,jd,je,jf,jg,jh,ji,jj,jk,rfl,_,g1⟩;have k1:Bel w w1:=Bel.of (by(repeat (first|(with_reducible assumption)|(with_reducible exact Bel.refl _)|(with_reducible refine Bel.drew ?_)|(with_reducible refine Bel.drewN ?_ _)|(with_reducible refine Bel.alloc ?_ _)|((with_reducible refine qa8 ?_ ?hge);(case hge=>(first|omega|(simp;omega))))))) g1;clear g1)
   go_ret;exact⟨qa3 H.out.symm,Bel.out (by(repeat (first|(with_reducible assumption)|(with_reducible exact Bel.refl _)|(with_reducible refine Bel.drew ?_)|(with_reducible refine Bel.drewN ?_ _)|(with_reducible refine Bel.alloc ?_ _)|((with_reducible refine qa8 ?_ ?hge);(case hge=>(first|omega|(simp;omega)))))))⟩
  ·by_cases h10:ftk=10
   ·have H:=h_ (show R=(M.isSome && decide (fca ≠ 3))by rw [HV.out,if_neg h1,if_neg h9,if_pos h10])
    clear HV h1 h9;subst h10;cases hQ:M.isSome
    all_goals
     have H3:=h_ (show R=_ by rw [H.out,hQ])
     go_enter Tryz.func159,Tryz.ntmps159
     go_wp2_with (go_at_call 115;(with_reducible refine(cm.out _ (by(repeat (first|(with_reducible assumption)|(with_reducible exact Bel.refl _)|(with_reducible refine Bel.drew ?_)|(with_reducible refine Bel.drewN ?_ _)|(with_reducible refine Bel.alloc ?_ _)|((with_reducible refine qa8 ?_ ?hge);(case hge=>(first|omega|(simp;omega)))))))).mono ?_);rintro e w1 ⟨ja,jb,jc,jd,je,jf,jg,jh,ji,jj,jk,jl,jm,rfl,_,g1⟩;have k1:Bel w w1:=Bel.of (by(repeat (first|(with_reducible assumption)|(with_reducible exact Bel.refl _)|(with_reducible refine Bel.drew ?_)|(with_reducible refine Bel.drewN ?_ _)|(with_reducible refine Bel.alloc ?_ _)|((with_reducible refine qa8 ?_ ?hge);(case hge=>(first|omega|(simp;omega))))))) g1;obtain⟨hc,hf⟩:=bcell g1;have hz:=g1.size;simp at hz;have hx1:w.heap.size+1<w1.heap.size:=(by omega);have hy1:w.heap.size<w1.heap.size:=(by omega);clear g1)
     go_ret;exact⟨qa3 (by rw [H3.out];first|rfl|(simp;done)|(rw [Bool.eq_iff_iff];simp)),Bel.out (by(repeat (first|(with_reducible assumption)|(with_reducible exact Bel.refl _)|(with_reducible refine Bel.drew ?_)|(with_reducible refine Bel.drewN ?_ _)|(with_reducible refine Bel.alloc ?_ _)|((with_reducible refine qa8 ?_ ?hge);(case hge=>(first|omega|(simp;omega)))))))⟩
   ·have H:=h_ (show R=false by rw [HV.out,if_neg h1,if_neg h9,if_neg h10])
    have h9':=ine h9;have h10':=ine h10;have hout:ftk<1 ∨ 8<ftk:=by omega
    clear HV h1 h9 h10;rcases hout with ho|ho
    all_goals
     go_enter Tryz.func159,Tryz.ntmps159
     go_wp2
     all_goals go_ret
     all_goals exact⟨qa3 H.out.symm,Bel.out (by(repeat (first|(with_reducible assumption)|(with_reducible exact Bel.refl _)|(with_reducible refine Bel.drew ?_)|(with_reducible refine Bel.drewN ?_ _)|(with_reducible refine Bel.alloc ?_ _)|((with_reducible refine qa8 ?_ ?hge);(case hge=>(first|omega|(simp;omega)))))))⟩
end
end Go.Proofs.YtfoaaglbpmmhiaaGreatDoor
