import Derived.Test.YtaaneecceiefoaaGreatDoorRkD
import Derived.Test.YtaaneecceiefoaaGreatDoorMaVM
import Derived.Deep.RegionLaw
import Derived.Deep.AppendLies
import Derived.Deep.DeepCutAuto
import Derived.Test.YtaaneecceiefoaaGreatDoorUtfDec
set_option maxRecDepth 100000
set_option maxHeartbeats 4000000
set_option linter.unusedVariables false
set_option linter.unusedSimpArgs false
namespace Go.Proofs.YtaaneecceiefoaaGreatDoor
section
open Go.RowKit Ck
def RFinder (B f:Nat) (d:Str) (ps:List PProb) (w:World):Prop:=
 B<=f/\∃v,w.heap[f]? = some (.cells #[.string (S d),v] 116 (0,0))/\w.ownsRow B 153 3 v ps.length (ps.flatMap probC)/\v.ownBlock ≠ some f
theorem qho {B f:Nat} {d:Str} {num e:Int} {ps:List PProb} {v:Value} {w w2:World} {g cap:Nat} (hB:B<=f) (hb:w2.heap[f]? = some (.cells #[.string (S d),v] 116 (0,0)))
  (hown:w2.ownsRow B 153 3 (.slice (some ⟨g,0,none⟩) (ps.length+1) cap) (ps.length+1) (ps.flatMap probC ++ [.string (S d),.int .i64 num,.int .i64 e])) (hgf:g ≠ f)
  (hbel:Below B w w2) (hoth:Lib.OthersKept 153 (some f) w w2) :
  RFinder B f d (ps ++ [(⟨d,num,e⟩:PProb)]) (w2.setCell ⟨f,1,none⟩ (.slice (some ⟨g,0,none⟩) (ps.length+1) cap))/\Below B w (w2.setCell ⟨f,1,none⟩ (.slice (some ⟨g,0,none⟩) (ps.length+1) cap))/\Lib.OthersKept 153 (some f) w (w2.setCell ⟨f,1,none⟩ (.slice (some ⟨g,0,none⟩) (ps.length+1) cap)):=by
 have hne:(Value.slice (some ⟨g,0,none⟩) (ps.length+1) cap).ownBlock ≠ some f:=by simp [Value.ownBlock,hgf]
 refine⟨⟨hB,_,heap_setCell_same w2 f 1 _ _ _ hb,?_,hne⟩,hbel.setCell hB _,hoth.setCell _ rfl _⟩;have:=hown.kept (qb2 w2 f 1 (.slice (some ⟨g,0,none⟩) (ps.length+1) cap)) (Or.inr hne);rw [ql4]
 simpa using this
theorem radd_bad (B f:Nat) (d:Str) (num e:Int) (ps:List PProb) (w:World) (h:RFinder B f d ps w) (hps:ps.length<=1000000000) (hBw:B<=w.heap.size) :
  Calls Tryz.prog 70 #[.pointer (some ⟨f,0,none⟩),.bool true,.int .i64 num,.int .i64 e] w fun e' w'=>e'=.returned (.tuple #[])/\(RFinder B f d (ps ++ [(⟨d,num,e⟩:PProb)]) w'/\Below B w w'/\Lib.OthersKept 153 (some f) w w'):=by
 obtain⟨hB,v,hbk,hown,hne⟩:=h;obtain⟨i0,hi,hz0,hz1,hz2⟩:=info_parts qjy;have c0:w.cell? ⟨f,0,none⟩=some (.string (S d)):=by rw [Lib.cell_of_heap hbk];rfl
 have c2:w.cell? ⟨f,1,none⟩=some v:=by rw [Lib.cell_of_heap hbk];rfl
 have f2:w.frozen? ⟨f,1,none⟩=false:=Lib.frozen_of_heap hbk 1;have hlt:f<w.heap.size:=World.block_lt_of_cell? w _ c0;have t0:(w.drew.alloc (.cells #[.string (S d),.int .i64 num,.int .i64 e] 153)).heap.size=w.heap.size+1:=by simp
 have t1:(w.drew.alloc (.cells #[.string (S d),.int .i64 num,.int .i64 e] 153)).ownsRow B 153 3 v ps.length (ps.flatMap probC):=(hown.drew).alloc _;have t2 : ∀j u,[Value.string (S d),.int .i64 num,.int .i64 e][j]? = some u->(w.drew.alloc (.cells #[.string (S d),.int .i64 num,.int .i64 e] 153)).cell? ((⟨w.heap.size,0,none⟩:Addr).add j)=some u:=World.news_of_block (heap_alloc_new w.drew _);have t3 : ∀u ∈ [Value.string (S d),.int .i64 num,.int .i64 e],u.oneCell'=true:=by simp [Value.oneCell']
 have t4:(ps.length+1)*32<=140737488355328:=by omega
 have t5:ps.length+1<=maxLen:=by unfold maxLen;omega
 have t6:B<=(w.drew.alloc (.cells #[.string (S d),.int .i64 num,.int .i64 e] 153)).heap.size:=by rw [t0];omega
 have t7:f<(w.drew.alloc (.cells #[.string (S d),.int .i64 num,.int .i64 e] 153)).heap.size:=by rw [t0];omega
 have t8 : ∀w2,(w.drew.alloc (.cells #[.string (S d),.int .i64 num,.int .i64 e] 153)).grownBy w2 v.ownBlock->w2.heap[f]? = some (.cells #[.string (S d),v] 116 (0,0)):=fun w2 hg=>(hg.block f t7 (Ne.symm hne)).trans ((heap_alloc_old w.drew _ hlt).trans hbk)
 have t9 : ∀(g cap:Nat) (w2:World),(w.drew.alloc (.cells #[.string (S d),.int .i64 num,.int .i64 e] 153)).grownBy w2 v.ownBlock->w2.ownsRow B 153 3 (.slice (some ⟨g,0,none⟩) (ps.length+1) cap) (ps.length+1) (ps.flatMap probC ++ [.string (S d),.int .i64 num,.int .i64 e])->(v.ownBlock=some g ∨ g=w.heap.size+1) →
   (RFinder B f d (ps ++ [(⟨d,num,e⟩:PProb)]) (w2.setCell ⟨f,1,none⟩ (.slice (some ⟨g,0,none⟩) (ps.length+1) cap))/\Below B w (w2.setCell ⟨f,1,none⟩ (.slice (some ⟨g,0,none⟩) (ps.length+1) cap))/\Lib.OthersKept 153 (some f) w (w2.setCell ⟨f,1,none⟩ (.slice (some ⟨g,0,none⟩) (ps.length+1) cap))):=fun g cap w2 hg ho hh=>by
  refine qho hB (t8 w2 hg) ho ?_ ?_ ?_
  ·intro hgf
   subst hgf;rcases hh with hh|hh
   ·exact hne hh
   ·omega
  ·refine Below.grown (((Below.refl B w).drew).alloc hBw _) hg t6 (fun k hk=>(t1.lt k hk).1)
  ·exact((((Lib.OthersKept.refl _ _ w).drew).alloc _).grown hg (qm8 t1))
 go_enter Tryz.func70,Tryz.ntmps70
 go_wp2
 go_region_law ((refine step_append_lies _ (by rfl) _ _ _ (by rfl) B 153 i0 (.agg #[.string ByteArray.empty,.int .i64 0,.int .i64 0]) 3 32 Tryz.underlying92 hi hz0 hz1 hz2 rfl (by decide) v ps.length _ (by rfl) t1 ⟨w.heap.size,0,none⟩ 1 1 [.string (S d),.int .i64 num,.int .i64 e] (by rfl) (by rfl) t2 t3 (by decide) t5 t4 t6 (w.heap.size+1) t0 ?_;intro g cap w2 hown2 hgrow hgg hglt;have hb2:=Lib.hid (t8 w2 hgrow);have hend:=Lib.hid (t9 g cap w2 hgrow hown2 hgg);have e2:=Lib.cell_of_heap hb2.out 1;have e3:=Lib.frozen_of_heap hb2.out 1))
 all_goals clear t1 t2 t3 t8 t9
 all_goals exact bodyPost_end (results_none (by rfl) _ _ _) rfl ⟨rfl,hend.out⟩
theorem radd_ok (f:Nat) (num e:Int) (w:World) :
  Calls Tryz.prog 70 #[.pointer (some ⟨f,0,none⟩),.bool false,.int .i64 num,.int .i64 e] w fun e' w'=>e'=.returned (.tuple #[])/\w=w':=by
 go_enter Tryz.func70,Tryz.ntmps70
 go_wp2;exact bodyPost_end (results_none (by rfl) _ _ _) rfl ⟨rfl,rfl⟩
theorem RFinder.lt {B f:Nat} {d:Str} {ps:List PProb} {w:World} (h:RFinder B f d ps w):f<w.heap.size:=by
 obtain⟨_,v,hb,_⟩:=h;exact(Array.getElem?_eq_some_iff.1 hb).1
theorem RFinder.bel {B f:Nat} {d:Str} {ps:List PProb} {w w':World} (h:RFinder B f d ps w) (k:Bel w w'):RFinder B f d ps w':=by
 have hlt:=h.lt;obtain⟨hB,v,hb,hown,hne⟩:=h;exact⟨hB,v,(Below.block k f hlt).trans hb,qge hown k,hne⟩
def qq7 (w0:World) (f:Nat) (d:Str) (ps:List PProb) (w:World) (e:Ending) (w':World):Prop:=
 e=.returned (.tuple #[])/\RFinder w0.heap.size f d ps w'/\Bel w0 w'/\Lib.OthersKept 153 (some f) w w'
theorem rd_add (w0:World) (f:Nat) (d:Str) (ps:List PProb) (w:World) (bad:Bool) (num e:Int) (h:RFinder w0.heap.size f d ps w) (hps:ps.length<=1000000000) (k0:Bel w0 w) :
  Calls Tryz.prog 70 #[.pointer (some ⟨f,0,none⟩),.bool bad,.int .i64 num,.int .i64 e] w (qq7 w0 f d (ps ++ un d num (!bad) e) w):=by
 cases bad with
 | true=>
  refine(radd_bad w0.heap.size f d num e ps w h hps k0.size).mono ?_;rintro e' w' ⟨rfl,h1,h2,h3⟩;exact⟨rfl,h1,Below.trans k0 h2,h3⟩
 | false=>
  refine(radd_ok f num e w).mono ?_;rintro e' w' ⟨rfl,rfl⟩;exact⟨rfl,by rw [show un d num (!false) e=[]from rfl,List.append_nil];exact h,k0,Lib.OthersKept.refl _ _ _⟩
theorem rd_notes (w0:World) (f:Nat) (d:Str) (num:Int) (ps:List PProb) (w:World) (v:Value) (l:List PNote) (tg:Int) (h:RFinder w0.heap.size f d ps w) (hps:ps.length<=1000000000) (k0:Bel w0 w) (hv:Notes w v l) :
  Calls Tryz.prog 108 #[.pointer (some ⟨f,0,none⟩),v,.int .i64 tg,.int .i64 num] w (qq7 w0 f d (ps ++ noted d num l tg) w):=by
 have cc:=Lib.hid (rk_Check v l tg w hv);have cu:=Lib.hid (fun W bad (k:Bel w W)=>rd_add w0 f d ps W bad num (qbb l tg) (h.bel k) hps (Below.trans k0 (k.mono k0.size)));have hn:=Lib.hid (show noted d num l tg=un d num (decide (qbb l tg=0)) (qbb l tg)from rfl);clear hv h hps;generalize qbb l tg=R at cc cu hn;generalize noted d num l tg=NN at hn
 go_enter Tryz.func108,Tryz.ntmps108
 go_wp2_with (first
  | (go_at_call 134;(with_reducible refine cc.out.mono ?_);rintro e w1 ⟨rfl,h1⟩;have k1:Bel w w1:=Bel.of (by(with_reducible repeat first|assumption|exact Bel.refl _|refine Bel.drew ?_|refine Bel.drewN ?_ _|refine Bel.alloc ?_ _)) h1;clear h1)
  | (go_at_call 70;(with_reducible refine(cu.out _ _ k1).mono ?_);rintro e w2 ⟨rfl,h2⟩;have hend:=Lib.hid h2;clear h2))
 obtain⟨g1,g2,g3⟩:=hend.out;refine bodyPost_end (results_none (by rfl) _ _ _) rfl ⟨rfl,?_,g2,(qn0 k1).trans g3⟩;rw [hn.out,show decide (R=0)=(!(R != 0))by rw [Bool.eq_iff_iff];simp];exact g1
def RS (w0:World) (fb:Nat) (d:Str) (w:World) (bl:List (Nat × Array Value × TypeId)) (N:Nat) (ps:List PProb) (wx:World):Prop:=
 RFinder w0.heap.size fb d ps wx/\Bel w0 wx/\Lib.OthersKept 153 (some fb) w wx/\ps.length<=N/\∀b ∈ bl,wx.heap[b.1]? = some (.cells b.2.1 b.2.2 (0,0))/\b.1 ≠ fb/\b.2.2 ≠ 153
section
variable {w0 : World} {fb : Nat} {d : Str} {w : World} {bl : List (Nat × Array Value × TypeId)} {N : Nat} {ps : List PProb} {wx : World}
theorem RS.bel {w1:World} (h:RS w0 fb d w bl N ps wx) (k:Bel wx w1):RS w0 fb d w bl N ps w1:=by
 obtain⟨h1,h2,h3,h4,h5⟩:=h;refine⟨h1.bel k,Bel.of h2 k,h3.trans (qn0 k),h4,fun b hb=>?_⟩;obtain⟨g1,g2,g3⟩:=h5 b hb;exact⟨(Below.block k _ (Array.getElem?_eq_some_iff.1 g1).1).trans g1,g2,g3⟩
theorem RS.cell (h:RS w0 fb d w bl N ps wx) {g:Nat} {cs:Array Value} {T:TypeId} (hb:(g,cs,T) ∈ bl) : ∀o,wx.cell? ⟨g,o,none⟩=cs[o]?:=fun o=>Lib.cell_of_heap (h.2.2.2.2 _ hb).1 o
theorem RS.post (h:RS w0 fb d w bl N ps wx) {N2:Nat} {ps2:List PProb} {e:Ending} {w':World} (p:qq7 w0 fb d ps2 wx e w') (hl:ps2.length<=N2):RS w0 fb d w bl N2 ps2 w':=by
 obtain⟨h1,h2,h3,h4,h5⟩:=h;obtain⟨_,g1,g2,g3⟩:=p;refine⟨g1,g2,h3.trans g3,hl,fun b hb=>?_⟩;obtain⟨q1,q2,q3⟩:=h5 b hb;exact⟨qfa g3 q1 (fun e=>q2 (by injection e)) q3,q2,q3⟩
theorem RS.add (h:RS w0 fb d w bl N ps wx) (hN:N<=1000000000) (bad:Bool) (num e:Int) :
  Calls Tryz.prog 70 #[.pointer (some ⟨fb,0,none⟩),.bool bad,.int .i64 num,.int .i64 e] wx fun e' w'=>e'=.returned (.tuple #[])/\RS w0 fb d w bl (N+1) (ps ++ un d num (!bad) e) w':=by
 refine(rd_add w0 fb d ps wx bad num e h.1 (Nat.le_trans h.2.2.2.1 hN) h.2.1).mono ?_;intro e' w' p;refine⟨p.1,h.post p ?_⟩;have:=un_len d num (!bad) e;have:=h.2.2.2.1;rw [List.length_append];omega
theorem RS.notes (h:RS w0 fb d w bl N ps wx) (hN:N<=1000000000) (v:Value) (l:List PNote) (tg num:Int) (hv:Notes w0 v l) :
  Calls Tryz.prog 108 #[.pointer (some ⟨fb,0,none⟩),v,.int .i64 tg,.int .i64 num] wx fun e' w'=>e'=.returned (.tuple #[])/\RS w0 fb d w bl (N+1) (ps ++ noted d num l tg) w':=by
 refine(rd_notes w0 fb d num ps wx v l tg h.1 (Nat.le_trans h.2.2.2.1 hN) h.2.1 (hv.bel VNote.stays h.2.1)).mono ?_;intro e' w' p;refine⟨p.1,h.post p ?_⟩;have:(Ck.noted d num l tg).length<=1:=un_len _ _ _ _;have:=h.2.2.2.1;rw [List.length_append];omega
theorem RS.okc {ok ok':Bool} {num e:Int} (h:RS w0 fb d w bl N (ps ++ un d num ok e) wx) (he:ok=ok'):RS w0 fb d w bl N (ps ++ un d num ok' e) wx:=he ▸ h
theorem RS.bel0 (h:RS w0 fb d w bl N ps wx):Bel w0 wx:=h.2.1
theorem RS.oth (h:RS w0 fb d w bl N ps wx):Lib.OthersKept 153 (some fb) w wx:=h.2.2.1
theorem RS.rebase (h:RS w0 fb d w bl N ps wx):RS w0 fb d wx bl N ps wx:=⟨h.1,h.2.1,Lib.OthersKept.refl _ _ _,h.2.2.2⟩
theorem RS.out (h:RS w0 fb d w bl N ps wx) : ∃v,wx.cell? ⟨fb,1,none⟩=some v/\wx.ownsRow w0.heap.size 153 3 v ps.length (ps.flatMap probC):=by
 obtain⟨⟨hB,v,hb,hown,hne⟩,_⟩:=h;exact⟨v,by rw [Lib.cell_of_heap hb];rfl,hown⟩
theorem RS.lt (h:RS w0 fb d w bl N ps wx):fb<wx.heap.size:=h.1.lt
theorem RS.addb (h:RS w0 fb d w bl N ps wx) (cs:Array Value) (T:TypeId) (hT:T ≠ 153):RS w0 fb d w ((wx.heap.size,cs,T) :: bl) N ps (wx.alloc (.cells cs T)):=by
 have h2:=h.bel ((Bel.refl wx).alloc (.cells cs T));have hlt:=h.lt;refine⟨h2.1,h2.2.1,h2.2.2.1,h2.2.2.2.1,fun b hb=>?_⟩;rcases List.mem_cons.1 hb with rfl|hb
 ·exact⟨heap_alloc_new _ _,by show wx.heap.size ≠ fb;omega,hT⟩
 ·exact h2.2.2.2.2 b hb
theorem RS.dropb {b:Nat × Array Value × TypeId} (h:RS w0 fb d w (b :: bl) N ps wx):RS w0 fb d w bl N ps wx:=⟨h.1,h.2.1,h.2.2.1,h.2.2.2.1,fun x hx=>h.2.2.2.2 x (List.mem_cons_of_mem _ hx)⟩
theorem RS.moreN {N2:Nat} (h:RS w0 fb d w bl N ps wx) (hN:N<=N2):RS w0 fb d w bl N2 ps wx:=⟨h.1,h.2.1,h.2.2.1,Nat.le_trans h.2.2.2.1 hN,h.2.2.2.2⟩
theorem RS.app {w2:World} {v:Value} {ps2:List PProb} {q:Option Addr} {cap:Nat} (h:RS w0 fb d w bl N ps wx) (hv:wx.cell? ⟨fb,1,none⟩=some v)
  (hown:w2.ownsRow w0.heap.size 153 3 (.slice q (ps.length+ps2.length) cap) (ps.length+ps2.length) (ps.flatMap probC ++ ps2.flatMap probC)) (hg:wx.grownBy w2 v.ownBlock) (hq : ∀g,(Value.slice q (ps.length+ps2.length) cap).ownBlock=some g->v.ownBlock=some g ∨ g=wx.heap.size) :
  (RS w0 fb d w bl (N+ps2.length) (ps ++ ps2) (w2.setCell ⟨fb,1,none⟩ (.slice q (ps.length+ps2.length) cap))/\Lib.OthersKept 153 (some fb) wx (w2.setCell ⟨fb,1,none⟩ (.slice q (ps.length+ps2.length) cap)))/\w2.cell? ⟨fb,1,none⟩=some v/\w2.frozen? ⟨fb,1,none⟩=false/\∀b ∈ bl,w2.heap[b.1]? = some (.cells b.2.1 b.2.2 (0,0)):=by
 have hflt:=h.1.lt;obtain⟨⟨hB,v',hb,hown',hne⟩,h2,h3,h4,h5⟩:=h
 have hvv:v'=v:=by
  rw [Lib.cell_of_heap hb]at hv
  simpa using hv
 subst hvv;have hb2:w2.heap[fb]? = some (.cells #[.string (S d),v'] 116 (0,0)):=(hg.block fb hflt (Ne.symm hne)).trans hb;have hoth:Lib.OthersKept 153 (some fb) wx w2:=(Lib.OthersKept.refl _ _ wx).grown hg (qm8 hown')
 have hne2:(Value.slice q (ps.length+ps2.length) cap).ownBlock ≠ some fb:=fun e=>by
  rcases hq fb e with e2|e2
  ·exact hne e2
  ·omega
 have hos:=hoth.setCell (⟨fb,1,none⟩:Addr) rfl (.slice q (ps.length+ps2.length) cap)
 refine⟨⟨⟨⟨hB,_,heap_setCell_same w2 fb 1 _ _ _ hb2,?_,hne2⟩,?_,h3.trans hos,?_,fun b hb=>?_⟩,hos⟩,by rw [Lib.cell_of_heap hb2];rfl,Lib.frozen_of_heap hb2 1,fun b hb=>by
  obtain⟨q1,q2,q3⟩:=h5 b hb
  exact qfa hoth q1 (fun e=>q2 (by injection e)) q3⟩
 ·have:=hown.kept (qb2 w2 fb 1 (.slice q (ps.length+ps2.length) cap)) (Or.inr hne2)
  rw [List.flatMap_append,List.length_append];exact this
 ·exact qbf (Below.grown h2 hg h2.size (fun k hk=>(hown'.lt k hk).1)) hB
 ·rw [List.length_append];omega
 ·obtain⟨q1,q2,q3⟩:=h5 b hb
  exact⟨qfa hos q1 (fun e=>q2 (by injection e)) q3,q2,q3⟩
end
theorem RS.start (w a:World) (d:Str) (bl:List (Nat × Array Value × TypeId)) (hk:Bel w a) (hbl : ∀b ∈ bl,a.heap[b.1]? = some (.cells b.2.1 b.2.2 (0,0))/\b.2.2 ≠ 153) :
  RS w a.heap.size d w bl 0 [] (a.alloc (.cells #[.string (S d),.slice none 0 0] 116)):=by
 refine⟨⟨hk.size,.slice none 0 0,heap_alloc_new _ _,⟨rfl,.inl ⟨rfl,rfl⟩⟩,by simp [Value.ownBlock]⟩,hk.alloc _,qn0 (hk.alloc _),by simp,fun b hb=>?_⟩;obtain⟨h1,h2⟩:=hbl b hb;have hlt:b.1<a.heap.size:=(Array.getElem?_eq_some_iff.1 h1).1;exact⟨(heap_alloc_old _ _ hlt).trans h1,by omega,h2⟩
end
section
open Go.RowKit Ck
def spO (x:PSpan):Option PSpan->Bool
 | none=>true
 | some q=>decide (q.hi<x.lo)
theorem spanP_eq (d:Str) (lo hi:Int) (o:Option PSpan) (x:PSpan):spanP d lo hi o x=un d (-1) (decide (lo<=x.lo/\x.hi<=hi/\x.lo<=x.hi)) 6 ++ un d (-1) (spO x o) 11:=by cases o <;> rfl
theorem qmo (w0:World) (f:Nat) (d:Str) (ps:List PProb) (w:World) (v:Value) (l:List PSpan) (lo hi:Int) (N:Nat) (hFS0:RS w0 f d w [] N ps w) (hN:N<=100000000) (hll:l.length<=100000000) (hv:Spans w0 v l) :
  Calls Tryz.prog 109 #[.pointer (some ⟨f,0,none⟩),v,.int .i64 lo,.int .i64 hi] w (qq7 w0 f d (ps ++ spans d l lo hi) w):=by
 obtain⟨q,c,rfl,_,hcap,hel⟩:=hv;have EL:=Lib.hid hel;have V:=Lib.hid (show [] ++ qdw d lo hi (qe1 l 0) (l.drop 0)=spans d l lo hi from rfl);generalize spans d l lo hi=T at V;clear hel
 go_enter Tryz.func109,Tryz.ntmps109
 go_wp2
 go_loopw [8] (fun i wr => ∃(k:Nat) (done:List PProb),k<=l.length/\i=.int .i64 k/\RS w0 f d w [] (N+2*k) (ps ++ done) wr/\Hid (done ++ qdw d lo hi (qe1 l k) (l.drop k)=T)) (fun i _=>l.length-(intOf i).toNat)
 case atStart=>exact⟨0,[],by omega,rfl,by rw [List.append_nil];exact hFS0,V⟩
 case round=>
  clear hFS0;obtain⟨k,done,hk,rfl,hFS,hgo⟩:=hrel;by_cases hlt:k<l.length
  ·have hki:(k:Int)<(l.length:Int):=by omega
   have hk0:(0:Int)<=(k:Int):=by omega
   have hg:=List.getElem?_eq_getElem hlt;obtain⟨b,off,hp,hbs,cs,hce,hvs⟩:=EL.out k _ hg
   have hprev:(k=0/\qe1 l k=none) ∨ ∃(j:Nat) (q:PSpan),k=j+1/\qe1 l k=some q/\w0.cell? ⟨b,off+j*2+1,none⟩=some (.int .i64 q.hi):=by
    by_cases h0:k=0
    ·exact .inl ⟨h0,by unfold qe1;rw [if_pos h0]⟩
    ·right
     have hgp:=List.getElem?_eq_getElem (show k-1<l.length by omega);obtain⟨b9,off9,hp9,_,vs9,hce9,hvs9⟩:=EL.out (k-1) _ hgp;have hqq:=hp.symm.trans hp9;cases hqq;have hvs9':vs9=[.int .i64 l[k-1].lo,.int .i64 l[k-1].hi]:=hvs9;subst hvs9';exact⟨k-1,l[k-1],by omega,by unfold qe1;rw [if_neg h0,hgp],hce9 1 _ rfl⟩
   have hdr:l.drop k=l[k] :: l.drop (k+1):=List.drop_eq_getElem_cons hlt;have hpn:qe1 l (k+1)=some l[k]:=by unfold qe1;rw [if_neg (by omega),show k+1-1=k by omega,hg]
   have HGO:=Lib.hid (show(done ++ spanP d lo hi (qe1 l k) l[k]) ++ qdw d lo hi (qe1 l (k+1)) (l.drop (k+1))=T by rw [←hgo.out,hdr,qjt,hpn,List.append_assoc]);have hvs':cs=[.int .i64 l[k].lo,.int .i64 l[k].hi]:=hvs;subst hvs' hp;have HPV:=Lib.hid hprev;clear hgo hdr hg hprev hvs hpn;generalize l[k]=x at *;have KS:=Lib.hid (fun W' (kq:Bel w0 W')=>show W'.cell? ⟨b,off+k*2,none⟩=some (.int .i64 x.lo)/\W'.cell? ⟨b,off+k*2+1,none⟩=some (.int .i64 x.hi)from⟨kq.some (by have:=hce 0 _ rfl;rwa [Nat.add_zero]at this),kq.some (hce 1 _ rfl)⟩);clear hce;generalize hO1:decide (lo<=x.lo/\x.hi<=hi/\x.lo<=x.hi)=O1;have HO1:=Lib.hid hO1;clear hO1
   go_upto_region 3 with(fail)
   go_cut [] (fun wx=>RS w0 f d w [] (N+2*k+1) (ps ++ done ++ un d (-1) O1 6) wx)
   case first=>
    obtain⟨wd1,hwd1⟩ : ∃wd,wd=wr.drew:=⟨_,rfl⟩;have kd1:Bel wr wd1:=by rw [hwd1];exact(Bel.refl _).drew
    have HWD1:=Lib.hid hwd1;have hFd1:=hFS.bel kd1;have HFd1:=Lib.hid hFd1;clear hwd1;obtain⟨e0,e1⟩:=KS.out _ hFd1.bel0
    by_cases h1:x.lo<lo
    all_goals by_cases h2:hi<x.hi
    all_goals by_cases h3:x.hi<x.lo
    all_goals
     refine qae 30 (by kernel_rfl) (by kernel_rfl) HWD1.out ?_
     (simp only [List.take_succ_cons,List.take_zero,List.drop_succ_cons,List.drop_zero]);(repeat (first|((with_reducible refine wpStill_step (fun K hK=>?_));go_simp;(with_reducible refine hK _ ?_);clear hK K)|((with_reducible refine qaf ?_ ?_);(with_unfolding_all rfl))));(with_reducible refine wpStill_nil ?_)
     go_wp2_with (go_at_call 70;(with_reducible refine(HFd1.out.add (by omega) _ _ _).mono ?_);rintro e w9 ⟨rfl,h9⟩;have hend:=Lib.hid h9;clear h9)
     go_meet;refine hend.out.okc ?_
     rw [←HO1.out,Bool.eq_iff_iff];simp;omega
   case rest=>
    clear hFS;have hFS:=hcut;clear hcut
    go_upto_region 4 with(fail)
    obtain⟨wd2,hwd2⟩ : ∃wd,wd=wc.drew:=⟨_,rfl⟩;have kd2:Bel wc wd2:=by rw [hwd2];exact(Bel.refl _).drew
    have HWD2:=Lib.hid hwd2;have hFd2:=hFS.bel kd2;have HFd2:=Lib.hid hFd2;clear hwd2;obtain⟨e0,e1⟩:=KS.out _ hFd2.bel0
    have hsp : ∀O2:Bool,spO x (qe1 l k)=O2->spanP d lo hi (qe1 l k) x=un d (-1) O1 6 ++ un d (-1) O2 11:=fun O2 h=>by rw [spanP_eq,HO1.out,h]
    have HSP:=Lib.hid hsp
    have HDO:=Lib.hid (fun(O2:Bool) (W:World) (hO:spO x (qe1 l k)=O2) (h:RS w0 f d w [] (N+2*k+1+1) (ps ++ done ++ un d (-1) O1 6 ++ un d (-1) O2 11) W)=>(show RS w0 f d w [] (N+2*(k+1)) (ps ++ (done ++ spanP d lo hi (qe1 l k) x)) W by
     rw [HSP.out O2 hO];have h2:=h.moreN (N2:=N+2*(k+1)) (by omega)
     simpa only [List.append_assoc]using h2))
    clear hsp;rcases HPV.out with⟨h0,hp0⟩|⟨j,q,hkj,hpq,hcj⟩
    ·have hk0n : ¬(0<k):=by omega
     have HP0:=Lib.hid hp0;clear hp0 h0;refine qae 17 (by kernel_rfl) (by kernel_rfl) HWD2.out ?_
     (simp only [List.take_succ_cons,List.take_zero,List.drop_succ_cons,List.drop_zero]);(repeat (first|((with_reducible refine wpStill_step (fun K hK=>?_));go_simp;(with_reducible refine hK _ ?_);clear hK K)|((with_reducible refine qaf ?_ ?_);(with_unfolding_all rfl))));(with_reducible refine wpStill_nil ?_)
     go_wp2_with (go_at_call 70;(with_reducible refine(HFd2.out.add (by omega) _ _ _).mono ?_);rintro e w9 ⟨rfl,h9⟩;have hend:=Lib.hid h9;clear h9)
     exact⟨⟨k+1,_,by omega,by go_num,HDO.out true _ (by rw [HP0.out];rfl) hend.out,HGO⟩,by simp [intOf];omega⟩
    ·have hk00:(0:Int)<(k:Int):=by omega
     have hk00n:0<k:=by omega
     have jw3:(k:Int)-1=(j:Int):=by omega
     have jw2:IntKind.i64.wrap (j:Int)=(j:Int):=wrap_small _ (by omega) (by omega);have jw:IntKind.i64.wrap ((k:Int)-1)=(j:Int):=by rw [jw3];exact jw2
     have j1:(j:Int)<(l.length:Int):=by omega
     have j0:(0:Int)<=(j:Int):=by omega
     have ep:=hFd2.bel0.some hcj;have HPQ:=Lib.hid hpq;clear hkj hpq hcj;refine qae 17 (by kernel_rfl) (by kernel_rfl) HWD2.out ?_
     (simp only [List.take_succ_cons,List.take_zero,List.drop_succ_cons,List.drop_zero]);(repeat (first|((with_reducible refine wpStill_step (fun K hK=>?_));go_simp;(with_reducible refine hK _ ?_);clear hK K)|((with_reducible refine qaf ?_ ?_);(with_unfolding_all rfl))));(with_reducible refine wpStill_nil ?_)
     go_wp2_with (go_at_call 70;(with_reducible refine(HFd2.out.add (by omega) _ _ _).mono ?_);rintro e w9 ⟨rfl,h9⟩;have hend:=Lib.hid h9;clear h9)
     exact⟨⟨k+1,_,by omega,by go_num,HDO.out _ _ (by rw [HPQ.out];show decide (q.hi<x.lo)=_;first|rfl|(rw [Bool.eq_iff_iff];simp)) hend.out,HGO⟩,by simp [intOf];omega⟩
  ·have hki : ¬(k:Int)<(l.length:Int):=by omega
   have hdn:done=T:=by
    have h:=hgo.out;rw [show k=l.length by omega,List.drop_length,qm1,List.append_nil]at h;exact h
   subst hdn;clear hgo EL;go_wp2;exact bodyPost_end (results_none (by rfl) _ _ _) rfl ⟨rfl,hFS.1,hFS.2.1,hFS.2.2.1⟩
end
section
open Go.RowKit
section
variable {P : Program} {ops : Array Oper} {S : World → Prop} {Q : Exit → Act → World → Prop} {K : Act → World → Prop} {a : Act} {w : World} {o : Oper} {r m : OrdT Oper}
theorem qf3 {j:Nat} {b c:Bool} {t:Tmp} (hg:o.guard=some (j,b)) (hj:(ops[j]?).bind (·.dst)=some t) (hv:a.eval (.tmp t)=.bool c):Region.wanted o (yielded ops a.tmps)=(c == b):=by
 have h:a.tmps[t]? = some (.bool c):=by
  simp only [Act.eval]at hv;rw [Array.getD_eq_getD_getElem?]at hv;cases h:a.tmps[t]? with
  | none=>rw [h]at hv;simp [undef]at hv
  | some x=>rw [h]at hv;simpa using hv
 unfold Region.wanted yielded;rw [hg];simp only [hj,Option.bind_some,h];cases c <;> cases b <;> rfl
theorem qab {i:Tmp} {v:Value} {j:Nat} {b:Bool} {t:Tmp} (hd:o.dst=some i) (hg:o.guard=some (j,b)) (hj:(ops[j]?).bind (·.dst)=some t) (hv:a.eval (.tmp t)=.bool b) (hy : ∀ρ:Operand->Value,(∀x,ρ x=a.eval x)->∀W,S W->(execOp ρ o).run P W=.ok (.value v) W) (h:qb3 P ops S Q K r (a.put (some i) v) w):qb3 P ops S Q K (.take o r) a w:=
 qa1 hd (by rw [qf3 hg hj hv];simp) hy h
theorem qag {i:Tmp} {j:Nat} {b c:Bool} {t:Tmp} (hd:o.dst=some i) (hg:o.guard=some (j,b)) (hj:(ops[j]?).bind (·.dst)=some t) (hv:a.eval (.tmp t)=.bool c) (hc:(c == b)=false) (h:qb3 P ops S Q K r (a.put (some i) undef) w):qb3 P ops S Q K (.take o r) a w:=
 qos (by rw [qf3 hg hj hv];exact hc) (by rw [hd];exact h)
theorem qcq {i:Tmp} {f:FuncId} {args:Array Value} {j:Nat} {b:Bool} {t:Tmp} (hd:o.dst=some i) (hg:o.guard=some (j,b)) (hj:(ops[j]?).bind (·.dst)=some t) (hv:a.eval (.tmp t)=.bool b) (hy : ∀ρ:Operand->Value,(∀x,ρ x=a.eval x)->(execOp ρ o).run P w=.ok (.enter f args) w) (h:Calls P f args w (fun e w' => ∃v,e=.returned v/\S w'/\qb3 P ops S Q K r (a.put (some i) v) w')) (hm:qb3 P ops S Q K m a w):qb3 P ops S Q K (.alt o r m) a w:=
 qam hd (by rw [qf3 hg hj hv];simp) hy h hm
theorem tree_off {i:Tmp} (hd:o.dst=some i) (hw:Region.wanted o (yielded ops a.tmps)=false) (hS:S w) (h:qb3 P ops S Q K r (a.put (some i) undef) w) (hm:qb3 P ops S Q K m a w):qb3 P ops S Q K (.alt o r m) a w:=by
 refine⟨?_,hm⟩;rw [hw,hd];exact⟨hS,h⟩
theorem qci {i:Tmp} {j:Nat} {b c:Bool} {t:Tmp} (hd:o.dst=some i) (hg:o.guard=some (j,b)) (hj:(ops[j]?).bind (·.dst)=some t) (hv:a.eval (.tmp t)=.bool c) (hc:(c == b)=false) (hS:S w) (h:qb3 P ops S Q K r (a.put (some i) undef) w) (hm:qb3 P ops S Q K m a w):qb3 P ops S Q K (.alt o r m) a w:=
 tree_off hd (by rw [qf3 hg hj hv];exact hc) hS h hm
theorem qcb {t:OrdT Oper} (h : ∀a',a'=a->qb3 P ops S Q K t a' w):qb3 P ops S Q K t a w:=h a rfl
end
end
section
open Go.RowKit Ck
theorem qhe {α:Type} (p:α->Bool) (l:List α) (k:Nat) (x:α) (h:l[k]? = some x):(l.take (k+1)).any p=((l.take k).any p || p x):=by
 rw [List.take_add_one,h,List.any_append];simp
theorem take_at {α:Type} (p:α->Bool) (l:List α) (i j:Nat) (x:α) (h:l[j]? = some x):((l.take i).take (j+1)).any p=(((l.take i).take j).any p || (decide (j<i) && p x)):=by
 by_cases hji:j<i
 ·rw [decide_eq_true hji,Bool.true_and]
  exact qhe p _ j x (by rw [List.getElem?_take,if_pos hji];exact h)
 ·rw [decide_eq_false hji,Bool.false_and,Bool.or_false]
  rw [List.take_take,List.take_take,Nat.min_eq_right (by omega),Nat.min_eq_right (by omega)]
theorem rk_union (mq1 mq2 mq3 mq4:Option Addr) (mc1 mc2 mc3 mc4:Nat) (m:PMsg) (i:Nat) (f:PField) (w:World) (hm:VMsg w [.string (S m.name),.slice mq1 m.fields.length mc1,.slice mq2 m.res.length mc2,.slice mq3 m.gone.length mc3,.slice mq4 m.notes.length mc4] m) (hf:m.fields[i]? = some f) (hu:f.un.length<=1000000000000000) :
  Calls Tryz.prog 106 #[.agg #[.string (S m.name),.slice mq1 m.fields.length mc1,.slice mq2 m.res.length mc2,.slice mq3 m.gone.length mc3,.slice mq4 m.notes.length mc4],.int .i64 i] w fun e w'=>e=.returned (.bool (qik m i f))/\Below w.heap.size w w':=by
 have KB:=Lib.hid (fun W' (k:Bel (w.alloc (.cells #[.string (S m.name),.slice mq1 m.fields.length mc1,.slice mq2 m.res.length mc2,.slice mq3 m.gone.length mc3,.slice mq4 m.notes.length mc4] 57)) W')=>show W'.cell? ⟨w.heap.size,1,none⟩=some (.slice mq1 m.fields.length mc1)from k.some ((World.cell?_alloc_at _ _ _ _ rfl).trans rfl));have kb:Bel w (w.alloc (.cells #[.string (S m.name),.slice mq1 m.fields.length mc1,.slice mq2 m.res.length mc2,.slice mq3 m.gone.length mc3,.slice mq4 m.notes.length mc4] 57)):=(Bel.refl _).alloc _;obtain⟨_,_,_,_,hcm,g1,_,_,_⟩:=id hm;cases hcm;have hll:m.fields.length<=140737488355328:=by obtain⟨_,_,_,h,_⟩:=g1;exact h
 have hil:i<m.fields.length:=(List.getElem?_eq_some_iff.1 hf).1;obtain⟨qq,cq,hqe,_,_,hel⟩:=g1;cases hqe;obtain⟨b,off,hqq,hbs,cs,hce,hvs⟩:=hel i f hf
 have HX:=Lib.hid (fun(j:Nat) (x:PField) (hx:m.fields[j]? = some x)=>(show w.cell? ⟨b,off+j*16+1,none⟩=some (.string (S x.name))/\w.cell? ⟨b,off+j*16+6,none⟩=some (.string (S x.un))by
  obtain⟨b9,off9,hq9,_,cs9,hce9,hvs9⟩:=hel j x hx;have hqq2:=hqq.symm.trans hq9;cases hqq2;obtain⟨_,_,hvv9,_⟩:=hvs9;subst hvv9
  exact⟨hce9 1 _ rfl,hce9 6 _ rfl⟩))
 obtain⟨_,_,hvv4,⟨r1,r2,r3,r4,d1,d2,d3,d4,hvv5,_⟩,hnt⟩:=hvs;obtain⟨v1,z1,hnv,_⟩:=qa5 hnt;subst hvv4 hvv5 hnv hqq;have HV:=Lib.hid (show qik m i f=(if f.un=[]then true else if f.card ≠ 2 ∨ qar f.un=false ∨ (m.fields.any (fun x=>decide (x.name=f.un)))=true then false else if((m.fields.take i).any (fun x=>decide (x.un=f.un)))=false then true else match m.fields[i-1]? with|some g=>decide (g.un=f.un)|none=>false)from rfl);have cu:=Lib.hid (fun W=>qcd f.un W hu);generalize qik m i f=R at HV ⊢;have hii:(i:Int)<(m.fields.length:Int):=by omega
 have hi0:(0:Int)<=(i:Int):=by omega
 have aE:=qfe;obtain⟨K,hK⟩ : ∃K,K=16:=⟨_,rfl⟩;have zE : ∀w,(Go.sizeOf 65).run Tryz.prog w=.ok K w:=hK ▸ qdx
 have l2:Sem.run Tryz.prog (loadCellsFrom ⟨b,off+i*K,none⟩ 0 K #[]) (w.alloc (.cells #[.string (S m.name),.slice (some ⟨b,off,none⟩) m.fields.length mc1,.slice mq2 m.res.length mc2,.slice mq3 m.gone.length mc3,.slice mq4 m.notes.length mc4] 57))=.ok #[.int .i64 f.num,.string (S f.name),.int .i64 f.card,.int .i64 f.key,.int .i64 f.tk,.string (S f.tn),.string (S f.un),.bool f.hd,.int .i64 f.df.k,.int .u64 f.df.x,.string (S f.df.t),.slice r1 f.df.n1 d1,.slice r2 f.df.n2 d2,.slice r3 f.df.n3 d3,.slice r4 f.df.n4 d4,.slice v1 f.notes.length z1] (w.alloc (.cells #[.string (S m.name),.slice (some ⟨b,off,none⟩) m.fields.length mc1,.slice mq2 m.res.length mc2,.slice mq3 m.gone.length mc3,.slice mq4 m.notes.length mc4] 57)):=run_loadCellsFrom_list Tryz.prog _ _ _ K hK.symm (fun j v hj=>by
  rw [hK,Addr.add_lit]
  exact kb.some (hce j v hj))
 have HK:=Lib.hid hK;have hl1:=KB.out _ (Bel.refl _);clear hK hce hnt hel hm hf
 go_enter Tryz.func106,Tryz.ntmps106
 go_upto_region 2 with(fail)
 all_goals (first|(exfalso;exact absurd HK.out.symm (by assumption))|(have h16:16=K:=(by assumption);subst h16))
 clear l2 aE zE HK hl1;have hz:((w.alloc (.cells #[.string (S m.name),.slice (some ⟨b,off,none⟩) m.fields.length mc1,.slice mq2 m.res.length mc2,.slice mq3 m.gone.length mc3,.slice mq4 m.notes.length mc4] 57))).heap.size=w.heap.size+1:=by simp
 generalize (w.alloc (.cells #[.string (S m.name),.slice (some ⟨b,off,none⟩) m.fields.length mc1,.slice mq2 m.res.length mc2,.slice mq3 m.gone.length mc3,.slice mq4 m.notes.length mc4] 57))=WB at *;generalize hwF:World.alloc WB _=wF;have kF:Bel WB wF:=by rw [←hwF];exact(Bel.refl _).alloc _
 have x2:wF.cell? ⟨w.heap.size+1,2,none⟩=some (.int .i64 f.card):=by rw [←hwF, ←hz,World.cell?_alloc_at _ _ _ _ rfl];rfl
 have x6:wF.cell? ⟨w.heap.size+1,6,none⟩=some (.string (S f.un)):=by rw [←hwF, ←hz,World.cell?_alloc_at _ _ _ _ rfl];rfl
 clear hwF hz;have kwF:Bel w wF:=Bel.of kb kF.out;have hl1:=KB.out _ kF;by_cases h0:f.un=[]
 ·have HR:=Lib.hid (show true=R by rw [HV.out,if_pos h0])
  have he:(S f.un).toList=[]:=by rw [h0];exact qif [] rfl
  have he2:(S f.un).toList.isEmpty=true:=by rw [he];rfl
  clear HV h0;go_wp2
  all_goals go_ret
  all_goals exact⟨qa7 HR.out,kwF.out⟩
 ·have he:=qd0 f.un h0
  have he2:=qdc f.un h0;have HV2:=Lib.hid (show R=(if f.card ≠ 2 ∨ qar f.un=false ∨ (m.fields.any (fun x=>decide (x.name=f.un)))=true then false else if((m.fields.take i).any (fun x=>decide (x.un=f.un)))=false then true else match m.fields[i-1]? with|some g=>decide (g.un=f.un)|none=>false)by rw [HV.out,if_neg h0]);clear HV h0;by_cases h2:f.card=2
  ·have q2:(f.card != 2)=false:=by rw [h2];rfl
   cases hU:qar f.un with
   | false=>
    have HR:=Lib.hid (show false=R by rw [HV2.out,if_pos (.inr (.inl hU))]);rw [hU]at cu;clear HV2 h2 hU
    go_wp2_with (go_at_call 102;(with_reducible refine(cu.out _).mono ?_);rintro e w1 ⟨rfl,g1⟩;have k1:Bel w w1:=Bel.of kwF g1;clear g1)
    all_goals go_ret
    all_goals exact⟨qa7 HR.out,k1.out⟩
   | true=>
    have HV3:=Lib.hid (show R=(if(m.fields.any (fun x=>decide (x.name=f.un)))=true then false else if((m.fields.take i).any (fun x=>decide (x.un=f.un)))=false then true else match m.fields[i-1]? with|some g=>decide (g.un=f.un)|none=>false)by
     rw [HV2.out];by_cases ha:(m.fields.any (fun x=>decide (x.name=f.un)))=true
     ·rw [if_pos (.inr (.inr ha)),if_pos ha]
     ·rw [if_neg (fun h=>by rcases h with h|h|h;exact h h2;rw [hU]at h;cases h;exact ha h),if_neg ha])
    rw [hU]at cu;have HA0:=Lib.hid (show(m.fields.drop 0).any (fun x=>decide (x.name=f.un))=m.fields.any (fun x=>decide (x.name=f.un))from rfl);clear HV2 h2 hU;generalize m.fields.any (fun x=>decide (x.name=f.un))=YA at HV3 HA0
    go_upto_region 6 with(go_at_call 102;(with_reducible refine(cu.out _).mono ?_);rintro e w1 ⟨rfl,g1⟩;have k1:Bel wF w1:=Bel.of (Bel.refl _) g1;clear g1)
    have KX:=Lib.hid (fun W (k:Bel w1 W)=>And.intro (k.some (k1.some x2)) (And.intro (k.some (k1.some x6)) (k.some (k1.some hl1))));clear x2 x6 hl1;go_wp2
    go_loopw [6,7] (fun er jj wr => ∃(j:Nat) (e:Bool),j<=m.fields.length/\jj=.int .i64 j/\er=.bool e/\Bel w1 wr/\Hid ((m.fields.drop j).any (fun x=>decide (x.name=f.un))=YA/\e=((m.fields.take i).take j).any (fun x=>decide (x.un=f.un)))) (fun _ jj _=>m.fields.length-(intOf jj).toNat)
    case atStart=>exact⟨0,false,by omega,rfl,rfl,Bel.refl _,Lib.hid ⟨HA0.out,by simp⟩⟩
    case round=>
     obtain⟨j,er,hj,rfl,rfl,kw,hgo⟩:=hrel;obtain⟨wr0,hwr0⟩ : ∃wr0,wr0=wr:=⟨_,rfl⟩;subst hwr0;obtain⟨x2,x6,hl1⟩:=KX.out _ kw;have hw:Bel w wr0:=Bel.of (Bel.of kwF k1.out) kw.out;by_cases hlt:j<m.fields.length
     ·have hji:(j:Int)<(m.fields.length:Int):=by omega
      have hj0:(0:Int)<=(j:Int):=by omega
      have hg:=List.getElem?_eq_getElem hlt;obtain⟨y1,y6⟩:=HX.out j _ hg;have HS1:=Lib.hid (show(decide (m.fields[j].name=f.un) || (m.fields.drop (j+1)).any (fun x=>decide (x.name=f.un)))=YA by rw [←hgo.out.1,qjh _ _ _ _ hg]);have HS2:=Lib.hid (show((m.fields.take i).take (j+1)).any (fun x=>decide (x.un=f.un))=(er || (decide (j<i) && decide (m.fields[j].un=f.un)))by rw [hgo.out.2,take_at _ _ _ _ _ hg]);clear hgo hg;generalize m.fields[j]=x at *;have KX2:=Lib.hid (fun W (k:Bel wr0 W)=>And.intro (k.some (hw.some y1)) (And.intro (k.some (hw.some y6)) (KX.out W (Bel.of kw k.out))));clear y1 y6
      go_upto_region 10 with(fail)
      clear x2 x6 hl1;obtain⟨wd,hwd⟩ : ∃wd,wd=wr0.drew:=⟨_,rfl⟩;have kd:Bel wr0 wd:=by rw [hwd];exact(Bel.refl _).drew
      have HWD:=Lib.hid hwd;clear hwd;obtain⟨y1,y6,x2,x6,hl1⟩:=KX2.out _ kd;by_cases hn:x.name=f.un
      ·have qn:((S x.name).toList == (S f.un).toList)=true:=by rw [eq_S];exact decide_eq_true hn
       have hYA:YA=true:=by rw [←HS1.out,decide_eq_true hn];rfl
       have HR:=Lib.hid (show false=R by rw [HV3.out,if_pos hYA]);clear hn HS1 HS2 hYA HV3;refine qae 8 (by kernel_rfl) (by kernel_rfl) HWD.out ?_
       (simp only [List.take_succ_cons,List.take_zero,List.drop_succ_cons,List.drop_zero]);(repeat (first|((with_reducible refine wpStill_step (fun K hK=>?_));go_simp;(with_reducible refine hK _ ?_);clear hK K)|((with_reducible refine qaf ?_ ?_);(with_unfolding_all rfl))));(with_reducible refine wpStill_nil ?_)
       go_wp2;go_ret
       exact⟨qa7 HR.out,(Bel.of hw kd.out).out⟩
      ·have qn:((S x.name).toList == (S f.un).toList)=false:=by rw [eq_S];exact decide_eq_false hn
       have HG1:=Lib.hid (show(m.fields.drop (j+1)).any (fun x=>decide (x.name=f.un))=YA by rw [←HS1.out,decide_eq_false hn,Bool.false_or]);clear hn HS1;refine qae 8 (by kernel_rfl) (by kernel_rfl) HWD.out ?_
       (simp only [List.take_succ_cons,List.take_zero,List.drop_succ_cons,List.drop_zero]);(repeat (first|((with_reducible refine wpStill_step (fun K hK=>?_));go_simp;(with_reducible refine hK _ ?_);clear hK K)|((with_reducible refine qaf ?_ ?_);(with_unfolding_all rfl))));(with_reducible refine wpStill_nil ?_)
       go_upto_region 12 with(fail)
       clear y1 y6 x2 x6 hl1;obtain⟨wd2,hwd2⟩ : ∃wd2,wd2=wd.drew:=⟨_,rfl⟩;have kd2:Bel wr0 wd2:=by rw [hwd2];exact kd.drew
       have HWD2:=Lib.hid hwd2;clear hwd2;obtain⟨y1,y6,x2,x6,hl1⟩:=KX2.out _ kd2;have kE:Bel w1 wd2:=Bel.of kw kd2.out;by_cases hji2:j<i
       ·have q1:(j:Int)<(i:Int):=by omega
        by_cases hx:x.un=f.un
        ·have qx:((S x.un).toList == (S f.un).toList)=true:=by rw [eq_S];exact decide_eq_true hx
         have HG2:=Lib.hid (show true=((m.fields.take i).take (j+1)).any (fun x=>decide (x.un=f.un))by rw [HS2.out,decide_eq_true hji2,decide_eq_true hx];simp);clear hx HS2;refine qae 12 (by kernel_rfl) (by kernel_rfl) HWD2.out ?_
         (simp only [List.take_succ_cons,List.take_zero,List.drop_succ_cons,List.drop_zero]);(repeat (first|((with_reducible refine wpStill_step (fun K hK=>?_));go_simp;(with_reducible refine hK _ ?_);clear hK K)|((with_reducible refine qaf ?_ ?_);(with_unfolding_all rfl))));(with_reducible refine wpStill_nil ?_)
         go_wp2;exact⟨⟨j+1,true,by omega,by go_num,rfl,kE,Lib.hid ⟨HG1.out,HG2.out⟩⟩,by simp [intOf];omega⟩
        ·have qx:((S x.un).toList == (S f.un).toList)=false:=by rw [eq_S];exact decide_eq_false hx
         have HG2:=Lib.hid (show er=((m.fields.take i).take (j+1)).any (fun x=>decide (x.un=f.un))by rw [HS2.out,decide_eq_false hx,Bool.and_false,Bool.or_false]);clear hx HS2;refine qae 12 (by kernel_rfl) (by kernel_rfl) HWD2.out ?_
         (simp only [List.take_succ_cons,List.take_zero,List.drop_succ_cons,List.drop_zero]);(repeat (first|((with_reducible refine wpStill_step (fun K hK=>?_));go_simp;(with_reducible refine hK _ ?_);clear hK K)|((with_reducible refine qaf ?_ ?_);(with_unfolding_all rfl))));(with_reducible refine wpStill_nil ?_)
         go_wp2;exact⟨⟨j+1,er,by omega,by go_num,rfl,kE,Lib.hid ⟨HG1.out,HG2.out⟩⟩,by simp [intOf];omega⟩
       ·have q1 : ¬((j:Int)<(i:Int)):=by omega
        have HG2:=Lib.hid (show er=((m.fields.take i).take (j+1)).any (fun x=>decide (x.un=f.un))by rw [HS2.out,decide_eq_false hji2,Bool.false_and,Bool.or_false]);clear HS2;refine qae 12 (by kernel_rfl) (by kernel_rfl) HWD2.out ?_
        (simp only [List.take_succ_cons,List.take_zero,List.drop_succ_cons,List.drop_zero]);(repeat (first|((with_reducible refine wpStill_step (fun K hK=>?_));go_simp;(with_reducible refine hK _ ?_);clear hK K)|((with_reducible refine qaf ?_ ?_);(with_unfolding_all rfl))));(with_reducible refine wpStill_nil ?_)
        go_wp2;exact⟨⟨j+1,er,by omega,by go_num,rfl,kE,Lib.hid ⟨HG1.out,HG2.out⟩⟩,by simp [intOf];omega⟩
     ·have hji : ¬(j:Int)<(m.fields.length:Int):=by omega
      have hYA:YA=false:=by
       have h:=hgo.out.1;rw [show j=m.fields.length by omega,List.drop_length]at h;exact h.symm
      have her:er=(m.fields.take i).any (fun x=>decide (x.un=f.un)):=by
       have h:=hgo.out.2;rw [h,List.take_of_length_le (by simp;omega)]
      have HV4:=Lib.hid (show R=(if er=false then true else match m.fields[i-1]? with|some g=>decide (g.un=f.un)|none=>false)by rw [HV3.out,hYA,her,if_neg (by simp)]);have HE0:=Lib.hid her;clear hgo hYA her HV3
      go_upto_region 14 with(fail)
      clear x2 x6 hl1;obtain⟨wd,hwd⟩ : ∃wd,wd=wr0.drew:=⟨_,rfl⟩;have kd:Bel wr0 wd:=by rw [hwd];exact(Bel.refl _).drew
      have HWD:=Lib.hid hwd;clear hwd;obtain⟨x2,x6,hl1⟩:=KX.out _ (Bel.of kw kd.out);cases er with
      | false=>
       have HR:=Lib.hid (show true=R by rw [HV4.out,if_pos rfl]);clear HV4;refine qae 12 (by kernel_rfl) (by kernel_rfl) HWD.out ?_
       (simp only [List.take_succ_cons,List.take_zero,List.drop_succ_cons,List.drop_zero]);(repeat (first|((with_reducible refine wpStill_step (fun K hK=>?_));go_simp;(with_reducible refine hK _ ?_);clear hK K)|((with_reducible refine qaf ?_ ?_);(with_unfolding_all rfl))));(with_reducible refine wpStill_nil ?_)
       go_wp2;go_ret
       exact⟨qa7 HR.out,(Bel.of hw kd.out).out⟩
      | true=>
       have hip:0<i:=by
        rcases Nat.eq_zero_or_pos i with h|h
        ·have h2:=HE0.out
         rw [h,List.take_zero]at h2;cases h2
        ·exact h
       obtain⟨ip,hip2⟩ : ∃ip,i=ip+1:=⟨i-1,by omega⟩;have hgp:=List.getElem?_eq_getElem (show ip<m.fields.length by omega);obtain⟨_,y6⟩:=HX.out ip _ hgp;have HR:=Lib.hid (show decide (m.fields[ip].un=f.un)=R by rw [HV4.out,if_neg (by simp),show i-1=ip by omega,hgp]);generalize m.fields[ip]=g at *;have y6':=(Bel.of hw kd.out).some y6;have jw3:(i:Int)-1=(ip:Int):=by omega
       have jw2:IntKind.i64.wrap (ip:Int)=(ip:Int):=wrap_small _ (by omega) (by omega);have jw:IntKind.i64.wrap ((i:Int)-1)=(ip:Int):=by rw [jw3];exact jw2
       have j1:(ip:Int)<(m.fields.length:Int):=by omega
       have j0:(0:Int)<=(ip:Int):=by omega
       have qg:((S g.un).toList == (S f.un).toList)=decide (g.un=f.un):=eq_S _ _;clear HV4 hip2 hgp y6 hip HE0;generalize decide (g.un=f.un)=G at qg HR;refine qae 12 (by kernel_rfl) (by kernel_rfl) HWD.out ?_
       (simp only [List.take_succ_cons,List.take_zero,List.drop_succ_cons,List.drop_zero]);(repeat (first|((with_reducible refine wpStill_step (fun K hK=>?_));go_simp;(with_reducible refine hK _ ?_);clear hK K)|((with_reducible refine qaf ?_ ?_);(with_unfolding_all rfl))));(with_reducible refine wpStill_nil ?_)
       go_wp2;go_ret
       exact⟨qa7 HR.out,(Bel.of hw kd.out).out⟩
  ·have q2:(f.card != 2)=true:=by rw [bne_iff_ne];exact h2
   have HR:=Lib.hid (show false=R by rw [HV2.out,if_pos (.inl h2)]);clear HV2 h2;go_wp2
   all_goals go_ret
   all_goals exact⟨qa7 HR.out,kwF.out⟩
end
end Go.Proofs.YtaaneecceiefoaaGreatDoor
