import Derived.Test.YtaaneecceiefoaaGreatDoorRkD
import Derived.Test.YtaaneecceiefoaaGreatDoorMaMem
import Derived.Deep.RegionLaw
import Derived.Deep.AppendLies
import Derived.Deep.DeepCutAuto
import Derived.Test.YtaaneecceiefoaaGreatDoorUtfDec
set_option maxRecDepth 100000
set_option maxHeartbeats 4000000
set_option linter.unusedVariables false
set_option linter.unusedSimpArgs false
namespace Go.Proofs.YtaaneecceiefoaaGreatDoor
section
open Go.RowKit Ck
def RFinder (B f:Nat) (d:Str) (ps:List PProb) (w:World):Prop:=
 B<=f/\∃v,w.heap[f]? = some (.cells #[.string (S d),v] 116 (0,0))/\w.ownsRow B 153 3 v ps.length (ps.flatMap probC)/\v.ownBlock ≠ some f
theorem qgc {B f:Nat} {d:Str} {num e:Int} {ps:List PProb} {v:Value} {w w2:World} {g cap:Nat} (hB:B<=f) (hb:w2.heap[f]? = some (.cells #[.string (S d),v] 116 (0,0)))
  (hown:w2.ownsRow B 153 3 (.slice (some ⟨g,0,none⟩) (ps.length+1) cap) (ps.length+1) (ps.flatMap probC ++ [.string (S d),.int .i64 num,.int .i64 e])) (hgf:g ≠ f)
  (hbel:Below B w w2) (hoth:Lib.OthersKept 153 (some f) w w2) :
  RFinder B f d (ps ++ [(⟨d,num,e⟩:PProb)]) (w2.setCell ⟨f,1,none⟩ (.slice (some ⟨g,0,none⟩) (ps.length+1) cap))/\Below B w (w2.setCell ⟨f,1,none⟩ (.slice (some ⟨g,0,none⟩) (ps.length+1) cap))/\Lib.OthersKept 153 (some f) w (w2.setCell ⟨f,1,none⟩ (.slice (some ⟨g,0,none⟩) (ps.length+1) cap)):=by
 have hne:(Value.slice (some ⟨g,0,none⟩) (ps.length+1) cap).ownBlock ≠ some f:=by simp [Value.ownBlock,hgf]
 refine⟨⟨hB,_,heap_setCell_same w2 f 1 _ _ _ hb,?_,hne⟩,hbel.setCell hB _,hoth.setCell _ rfl _⟩;have:=hown.kept (qbi w2 f 1 (.slice (some ⟨g,0,none⟩) (ps.length+1) cap)) (Or.inr hne);rw [qjf]
 simpa using this
theorem radd_bad (B f:Nat) (d:Str) (num e:Int) (ps:List PProb) (w:World) (h:RFinder B f d ps w) (hps:ps.length<=1000000000) (hBw:B<=w.heap.size) :
  Calls Tryz.prog 70 #[.pointer (some ⟨f,0,none⟩),.bool true,.int .i64 num,.int .i64 e] w fun e' w'=>e'=.returned (.tuple #[])/\(RFinder B f d (ps ++ [(⟨d,num,e⟩:PProb)]) w'/\Below B w w'/\Lib.OthersKept 153 (some f) w w'):=by
 obtain⟨hB,v,hbk,hown,hne⟩:=h;obtain⟨i0,hi,hz0,hz1,hz2⟩:=info_parts qid;have c0:w.cell? ⟨f,0,none⟩=some (.string (S d)):=by rw [Lib.cell_of_heap hbk];rfl
 have c2:w.cell? ⟨f,1,none⟩=some v:=by rw [Lib.cell_of_heap hbk];rfl
 have f2:w.frozen? ⟨f,1,none⟩=false:=Lib.frozen_of_heap hbk 1;have hlt:f<w.heap.size:=World.block_lt_of_cell? w _ c0;have t0:(w.drew.alloc (.cells #[.string (S d),.int .i64 num,.int .i64 e] 153)).heap.size=w.heap.size+1:=by simp
 have t1:(w.drew.alloc (.cells #[.string (S d),.int .i64 num,.int .i64 e] 153)).ownsRow B 153 3 v ps.length (ps.flatMap probC):=(hown.drew).alloc _;have t2 : ∀j u,[Value.string (S d),.int .i64 num,.int .i64 e][j]? = some u->(w.drew.alloc (.cells #[.string (S d),.int .i64 num,.int .i64 e] 153)).cell? ((⟨w.heap.size,0,none⟩:Addr).add j)=some u:=World.news_of_block (heap_alloc_new w.drew _);have t3 : ∀u ∈ [Value.string (S d),.int .i64 num,.int .i64 e],u.oneCell'=true:=by simp [Value.oneCell']
 have t4:(ps.length+1)*32<=140737488355328:=by omega
 have t5:ps.length+1<=maxLen:=by unfold maxLen;omega
 have t6:B<=(w.drew.alloc (.cells #[.string (S d),.int .i64 num,.int .i64 e] 153)).heap.size:=by rw [t0];omega
 have t7:f<(w.drew.alloc (.cells #[.string (S d),.int .i64 num,.int .i64 e] 153)).heap.size:=by rw [t0];omega
 have t8 : ∀w2,(w.drew.alloc (.cells #[.string (S d),.int .i64 num,.int .i64 e] 153)).grownBy w2 v.ownBlock->w2.heap[f]? = some (.cells #[.string (S d),v] 116 (0,0)):=fun w2 hg=>(hg.block f t7 (Ne.symm hne)).trans ((heap_alloc_old w.drew _ hlt).trans hbk)
 have t9 : ∀(g cap:Nat) (w2:World),(w.drew.alloc (.cells #[.string (S d),.int .i64 num,.int .i64 e] 153)).grownBy w2 v.ownBlock->w2.ownsRow B 153 3 (.slice (some ⟨g,0,none⟩) (ps.length+1) cap) (ps.length+1) (ps.flatMap probC ++ [.string (S d),.int .i64 num,.int .i64 e])->(v.ownBlock=some g ∨ g=w.heap.size+1) →
   (RFinder B f d (ps ++ [(⟨d,num,e⟩:PProb)]) (w2.setCell ⟨f,1,none⟩ (.slice (some ⟨g,0,none⟩) (ps.length+1) cap))/\Below B w (w2.setCell ⟨f,1,none⟩ (.slice (some ⟨g,0,none⟩) (ps.length+1) cap))/\Lib.OthersKept 153 (some f) w (w2.setCell ⟨f,1,none⟩ (.slice (some ⟨g,0,none⟩) (ps.length+1) cap))):=fun g cap w2 hg ho hh=>by
  refine qgc hB (t8 w2 hg) ho ?_ ?_ ?_
  ·intro hgf
   subst hgf;rcases hh with hh|hh
   ·exact hne hh
   ·omega
  ·refine Below.grown (((Below.refl B w).drew).alloc hBw _) hg t6 (fun k hk=>(t1.lt k hk).1)
  ·exact((((Lib.OthersKept.refl _ _ w).drew).alloc _).grown hg (qke t1))
 go_enter Tryz.func70,Tryz.ntmps70
 go_wp2
 go_region_law ((refine step_append_lies _ (by rfl) _ _ _ (by rfl) B 153 i0 (.agg #[.string ByteArray.empty,.int .i64 0,.int .i64 0]) 3 32 Tryz.underlying92 hi hz0 hz1 hz2 rfl (by decide) v ps.length _ (by rfl) t1 ⟨w.heap.size,0,none⟩ 1 1 [.string (S d),.int .i64 num,.int .i64 e] (by rfl) (by rfl) t2 t3 (by decide) t5 t4 t6 (w.heap.size+1) t0 ?_;intro g cap w2 hown2 hgrow hgg hglt;have hb2:=Lib.hid (t8 w2 hgrow);have hend:=Lib.hid (t9 g cap w2 hgrow hown2 hgg);have e2:=Lib.cell_of_heap hb2.out 1;have e3:=Lib.frozen_of_heap hb2.out 1))
 all_goals clear t1 t2 t3 t8 t9
 all_goals exact bodyPost_end (results_none (by rfl) _ _ _) rfl ⟨rfl,hend.out⟩
theorem radd_ok (f:Nat) (num e:Int) (w:World) :
  Calls Tryz.prog 70 #[.pointer (some ⟨f,0,none⟩),.bool false,.int .i64 num,.int .i64 e] w fun e' w'=>e'=.returned (.tuple #[])/\w=w':=by
 go_enter Tryz.func70,Tryz.ntmps70
 go_wp2;exact bodyPost_end (results_none (by rfl) _ _ _) rfl ⟨rfl,rfl⟩
theorem RFinder.lt {B f:Nat} {d:Str} {ps:List PProb} {w:World} (h:RFinder B f d ps w):f<w.heap.size:=by
 obtain⟨_,v,hb,_⟩:=h;exact(Array.getElem?_eq_some_iff.1 hb).1
theorem RFinder.bel {B f:Nat} {d:Str} {ps:List PProb} {w w':World} (h:RFinder B f d ps w) (k:Bel w w'):RFinder B f d ps w':=by
 have hlt:=h.lt;obtain⟨hB,v,hb,hown,hne⟩:=h;exact⟨hB,v,(Below.block k f hlt).trans hb,qf6 hown k,hne⟩
def qnq (w0:World) (f:Nat) (d:Str) (ps:List PProb) (w:World) (e:Ending) (w':World):Prop:=
 e=.returned (.tuple #[])/\RFinder w0.heap.size f d ps w'/\Bel w0 w'/\Lib.OthersKept 153 (some f) w w'
theorem rd_add (w0:World) (f:Nat) (d:Str) (ps:List PProb) (w:World) (bad:Bool) (num e:Int) (h:RFinder w0.heap.size f d ps w) (hps:ps.length<=1000000000) (k0:Bel w0 w) :
  Calls Tryz.prog 70 #[.pointer (some ⟨f,0,none⟩),.bool bad,.int .i64 num,.int .i64 e] w (qnq w0 f d (ps ++ un d num (!bad) e) w):=by
 cases bad with
 | true=>
  refine(radd_bad w0.heap.size f d num e ps w h hps k0.size).mono ?_;rintro e' w' ⟨rfl,h1,h2,h3⟩;exact⟨rfl,h1,Below.trans k0 h2,h3⟩
 | false=>
  refine(radd_ok f num e w).mono ?_;rintro e' w' ⟨rfl,rfl⟩;exact⟨rfl,by rw [show un d num (!false) e=[]from rfl,List.append_nil];exact h,k0,Lib.OthersKept.refl _ _ _⟩
theorem rd_notes (w0:World) (f:Nat) (d:Str) (num:Int) (ps:List PProb) (w:World) (v:Value) (l:List PNote) (tg:Int) (h:RFinder w0.heap.size f d ps w) (hps:ps.length<=1000000000) (k0:Bel w0 w) (hv:Notes w v l) :
  Calls Tryz.prog 108 #[.pointer (some ⟨f,0,none⟩),v,.int .i64 tg,.int .i64 num] w (qnq w0 f d (ps ++ noted d num l tg) w):=by
 have cc:=Lib.hid (rk_Check v l tg w hv);have cu:=Lib.hid (fun W bad (k:Bel w W)=>rd_add w0 f d ps W bad num (qb0 l tg) (h.bel k) hps (Below.trans k0 (k.mono k0.size)));have hn:=Lib.hid (show noted d num l tg=un d num (decide (qb0 l tg=0)) (qb0 l tg)from rfl);clear hv h hps;generalize qb0 l tg=R at cc cu hn;generalize noted d num l tg=NN at hn
 go_enter Tryz.func108,Tryz.ntmps108
 go_wp2_with (first
  | (go_at_call 134;(with_reducible refine cc.out.mono ?_);rintro e w1 ⟨rfl,h1⟩;have k1:Bel w w1:=Bel.of (by(with_reducible repeat first|assumption|exact Bel.refl _|refine Bel.drew ?_|refine Bel.drewN ?_ _|refine Bel.alloc ?_ _)) h1;clear h1)
  | (go_at_call 70;(with_reducible refine(cu.out _ _ k1).mono ?_);rintro e w2 ⟨rfl,h2⟩;have hend:=Lib.hid h2;clear h2))
 obtain⟨g1,g2,g3⟩:=hend.out;refine bodyPost_end (results_none (by rfl) _ _ _) rfl ⟨rfl,?_,g2,(qkz k1).trans g3⟩;rw [hn.out,show decide (R=0)=(!(R != 0))by rw [Bool.eq_iff_iff];simp];exact g1
def RS (w0:World) (fb:Nat) (d:Str) (w:World) (bl:List (Nat × Array Value × TypeId)) (N:Nat) (ps:List PProb) (wx:World):Prop:=
 RFinder w0.heap.size fb d ps wx/\Bel w0 wx/\Lib.OthersKept 153 (some fb) w wx/\ps.length<=N/\∀b ∈ bl,wx.heap[b.1]? = some (.cells b.2.1 b.2.2 (0,0))/\b.1 ≠ fb/\b.2.2 ≠ 153
section
variable {w0 : World} {fb : Nat} {d : Str} {w : World} {bl : List (Nat × Array Value × TypeId)} {N : Nat} {ps : List PProb} {wx : World}
theorem RS.bel {w1:World} (h:RS w0 fb d w bl N ps wx) (k:Bel wx w1):RS w0 fb d w bl N ps w1:=by
 obtain⟨h1,h2,h3,h4,h5⟩:=h;refine⟨h1.bel k,Bel.of h2 k,h3.trans (qkz k),h4,fun b hb=>?_⟩;obtain⟨g1,g2,g3⟩:=h5 b hb;exact⟨(Below.block k _ (Array.getElem?_eq_some_iff.1 g1).1).trans g1,g2,g3⟩
theorem RS.cell (h:RS w0 fb d w bl N ps wx) {g:Nat} {cs:Array Value} {T:TypeId} (hb:(g,cs,T) ∈ bl) : ∀o,wx.cell? ⟨g,o,none⟩=cs[o]?:=fun o=>Lib.cell_of_heap (h.2.2.2.2 _ hb).1 o
theorem RS.post (h:RS w0 fb d w bl N ps wx) {N2:Nat} {ps2:List PProb} {e:Ending} {w':World} (p:qnq w0 fb d ps2 wx e w') (hl:ps2.length<=N2):RS w0 fb d w bl N2 ps2 w':=by
 obtain⟨h1,h2,h3,h4,h5⟩:=h;obtain⟨_,g1,g2,g3⟩:=p;refine⟨g1,g2,h3.trans g3,hl,fun b hb=>?_⟩;obtain⟨q1,q2,q3⟩:=h5 b hb;exact⟨qe8 g3 q1 (fun e=>q2 (by injection e)) q3,q2,q3⟩
theorem RS.add (h:RS w0 fb d w bl N ps wx) (hN:N<=1000000000) (bad:Bool) (num e:Int) :
  Calls Tryz.prog 70 #[.pointer (some ⟨fb,0,none⟩),.bool bad,.int .i64 num,.int .i64 e] wx fun e' w'=>e'=.returned (.tuple #[])/\RS w0 fb d w bl (N+1) (ps ++ un d num (!bad) e) w':=by
 refine(rd_add w0 fb d ps wx bad num e h.1 (Nat.le_trans h.2.2.2.1 hN) h.2.1).mono ?_;intro e' w' p;refine⟨p.1,h.post p ?_⟩;have:=un_len d num (!bad) e;have:=h.2.2.2.1;rw [List.length_append];omega
theorem RS.notes (h:RS w0 fb d w bl N ps wx) (hN:N<=1000000000) (v:Value) (l:List PNote) (tg num:Int) (hv:Notes w0 v l) :
  Calls Tryz.prog 108 #[.pointer (some ⟨fb,0,none⟩),v,.int .i64 tg,.int .i64 num] wx fun e' w'=>e'=.returned (.tuple #[])/\RS w0 fb d w bl (N+1) (ps ++ noted d num l tg) w':=by
 refine(rd_notes w0 fb d num ps wx v l tg h.1 (Nat.le_trans h.2.2.2.1 hN) h.2.1 (hv.bel VNote.stays h.2.1)).mono ?_;intro e' w' p;refine⟨p.1,h.post p ?_⟩;have:(Ck.noted d num l tg).length<=1:=un_len _ _ _ _;have:=h.2.2.2.1;rw [List.length_append];omega
theorem RS.okc {ok ok':Bool} {num e:Int} (h:RS w0 fb d w bl N (ps ++ un d num ok e) wx) (he:ok=ok'):RS w0 fb d w bl N (ps ++ un d num ok' e) wx:=he ▸ h
theorem RS.bel0 (h:RS w0 fb d w bl N ps wx):Bel w0 wx:=h.2.1
theorem RS.oth (h:RS w0 fb d w bl N ps wx):Lib.OthersKept 153 (some fb) w wx:=h.2.2.1
theorem RS.rebase (h:RS w0 fb d w bl N ps wx):RS w0 fb d wx bl N ps wx:=⟨h.1,h.2.1,Lib.OthersKept.refl _ _ _,h.2.2.2⟩
theorem RS.out (h:RS w0 fb d w bl N ps wx) : ∃v,wx.cell? ⟨fb,1,none⟩=some v/\wx.ownsRow w0.heap.size 153 3 v ps.length (ps.flatMap probC):=by
 obtain⟨⟨hB,v,hb,hown,hne⟩,_⟩:=h;exact⟨v,by rw [Lib.cell_of_heap hb];rfl,hown⟩
theorem RS.lt (h:RS w0 fb d w bl N ps wx):fb<wx.heap.size:=h.1.lt
theorem RS.addb (h:RS w0 fb d w bl N ps wx) (cs:Array Value) (T:TypeId) (hT:T ≠ 153):RS w0 fb d w ((wx.heap.size,cs,T) :: bl) N ps (wx.alloc (.cells cs T)):=by
 have h2:=h.bel ((Bel.refl wx).alloc (.cells cs T));have hlt:=h.lt;refine⟨h2.1,h2.2.1,h2.2.2.1,h2.2.2.2.1,fun b hb=>?_⟩;rcases List.mem_cons.1 hb with rfl|hb
 ·exact⟨heap_alloc_new _ _,by show wx.heap.size ≠ fb;omega,hT⟩
 ·exact h2.2.2.2.2 b hb
theorem RS.dropb {b:Nat × Array Value × TypeId} (h:RS w0 fb d w (b :: bl) N ps wx):RS w0 fb d w bl N ps wx:=⟨h.1,h.2.1,h.2.2.1,h.2.2.2.1,fun x hx=>h.2.2.2.2 x (List.mem_cons_of_mem _ hx)⟩
theorem RS.moreN {N2:Nat} (h:RS w0 fb d w bl N ps wx) (hN:N<=N2):RS w0 fb d w bl N2 ps wx:=⟨h.1,h.2.1,h.2.2.1,Nat.le_trans h.2.2.2.1 hN,h.2.2.2.2⟩
theorem RS.app {w2:World} {v:Value} {ps2:List PProb} {q:Option Addr} {cap:Nat} (h:RS w0 fb d w bl N ps wx) (hv:wx.cell? ⟨fb,1,none⟩=some v)
  (hown:w2.ownsRow w0.heap.size 153 3 (.slice q (ps.length+ps2.length) cap) (ps.length+ps2.length) (ps.flatMap probC ++ ps2.flatMap probC)) (hg:wx.grownBy w2 v.ownBlock) (hq : ∀g,(Value.slice q (ps.length+ps2.length) cap).ownBlock=some g->v.ownBlock=some g ∨ g=wx.heap.size) :
  (RS w0 fb d w bl (N+ps2.length) (ps ++ ps2) (w2.setCell ⟨fb,1,none⟩ (.slice q (ps.length+ps2.length) cap))/\Lib.OthersKept 153 (some fb) wx (w2.setCell ⟨fb,1,none⟩ (.slice q (ps.length+ps2.length) cap)))/\w2.cell? ⟨fb,1,none⟩=some v/\w2.frozen? ⟨fb,1,none⟩=false/\∀b ∈ bl,w2.heap[b.1]? = some (.cells b.2.1 b.2.2 (0,0)):=by
 have hflt:=h.1.lt;obtain⟨⟨hB,v',hb,hown',hne⟩,h2,h3,h4,h5⟩:=h
 have hvv:v'=v:=by
  rw [Lib.cell_of_heap hb]at hv
  simpa using hv
 subst hvv;have hb2:w2.heap[fb]? = some (.cells #[.string (S d),v'] 116 (0,0)):=(hg.block fb hflt (Ne.symm hne)).trans hb;have hoth:Lib.OthersKept 153 (some fb) wx w2:=(Lib.OthersKept.refl _ _ wx).grown hg (qke hown')
 have hne2:(Value.slice q (ps.length+ps2.length) cap).ownBlock ≠ some fb:=fun e=>by
  rcases hq fb e with e2|e2
  ·exact hne e2
  ·omega
 have hos:=hoth.setCell (⟨fb,1,none⟩:Addr) rfl (.slice q (ps.length+ps2.length) cap)
 refine⟨⟨⟨⟨hB,_,heap_setCell_same w2 fb 1 _ _ _ hb2,?_,hne2⟩,?_,h3.trans hos,?_,fun b hb=>?_⟩,hos⟩,by rw [Lib.cell_of_heap hb2];rfl,Lib.frozen_of_heap hb2 1,fun b hb=>by
  obtain⟨q1,q2,q3⟩:=h5 b hb
  exact qe8 hoth q1 (fun e=>q2 (by injection e)) q3⟩
 ·have:=hown.kept (qbi w2 fb 1 (.slice q (ps.length+ps2.length) cap)) (Or.inr hne2)
  rw [List.flatMap_append,List.length_append];exact this
 ·exact qb9 (Below.grown h2 hg h2.size (fun k hk=>(hown'.lt k hk).1)) hB
 ·rw [List.length_append];omega
 ·obtain⟨q1,q2,q3⟩:=h5 b hb
  exact⟨qe8 hos q1 (fun e=>q2 (by injection e)) q3,q2,q3⟩
end
theorem RS.start (w a:World) (d:Str) (bl:List (Nat × Array Value × TypeId)) (hk:Bel w a) (hbl : ∀b ∈ bl,a.heap[b.1]? = some (.cells b.2.1 b.2.2 (0,0))/\b.2.2 ≠ 153) :
  RS w a.heap.size d w bl 0 [] (a.alloc (.cells #[.string (S d),.slice none 0 0] 116)):=by
 refine⟨⟨hk.size,.slice none 0 0,heap_alloc_new _ _,⟨rfl,.inl ⟨rfl,rfl⟩⟩,by simp [Value.ownBlock]⟩,hk.alloc _,qkz (hk.alloc _),by simp,fun b hb=>?_⟩;obtain⟨h1,h2⟩:=hbl b hb;have hlt:b.1<a.heap.size:=(Array.getElem?_eq_some_iff.1 h1).1;exact⟨(heap_alloc_old _ _ hlt).trans h1,by omega,h2⟩
end
section
open Go.RowKit Ck
def spO (x:PSpan):Option PSpan->Bool
 | none=>true
 | some q=>decide (q.hi<x.lo)
theorem spanP_eq (d:Str) (lo hi:Int) (o:Option PSpan) (x:PSpan):spanP d lo hi o x=un d (-1) (decide (lo<=x.lo/\x.hi<=hi/\x.lo<=x.hi)) 6 ++ un d (-1) (spO x o) 11:=by cases o <;> rfl
theorem qkp (w0:World) (f:Nat) (d:Str) (ps:List PProb) (w:World) (v:Value) (l:List PSpan) (lo hi:Int) (N:Nat) (hFS0:RS w0 f d w [] N ps w) (hN:N<=100000000) (hll:l.length<=100000000) (hv:Spans w0 v l) :
  Calls Tryz.prog 109 #[.pointer (some ⟨f,0,none⟩),v,.int .i64 lo,.int .i64 hi] w (qnq w0 f d (ps ++ spans d l lo hi) w):=by
 obtain⟨q,c,rfl,_,hcap,hel⟩:=hv;have EL:=Lib.hid hel;have V:=Lib.hid (show [] ++ qd1 d lo hi (qd6 l 0) (l.drop 0)=spans d l lo hi from rfl);generalize spans d l lo hi=T at V;clear hel
 go_enter Tryz.func109,Tryz.ntmps109
 go_wp2
 go_loopw [8] (fun i wr => ∃(k:Nat) (done:List PProb),k<=l.length/\i=.int .i64 k/\RS w0 f d w [] (N+2*k) (ps ++ done) wr/\Hid (done ++ qd1 d lo hi (qd6 l k) (l.drop k)=T)) (fun i _=>l.length-(intOf i).toNat)
 case atStart=>exact⟨0,[],by omega,rfl,by rw [List.append_nil];exact hFS0,V⟩
 case round=>
  clear hFS0;obtain⟨k,done,hk,rfl,hFS,hgo⟩:=hrel;by_cases hlt:k<l.length
  ·have hki:(k:Int)<(l.length:Int):=by omega
   have hk0:(0:Int)<=(k:Int):=by omega
   have hg:=List.getElem?_eq_getElem hlt;obtain⟨b,off,hp,hbs,cs,hce,hvs⟩:=EL.out k _ hg
   have hprev:(k=0/\qd6 l k=none) ∨ ∃(j:Nat) (q:PSpan),k=j+1/\qd6 l k=some q/\w0.cell? ⟨b,off+j*2+1,none⟩=some (.int .i64 q.hi):=by
    by_cases h0:k=0
    ·exact .inl ⟨h0,by unfold qd6;rw [if_pos h0]⟩
    ·right
     have hgp:=List.getElem?_eq_getElem (show k-1<l.length by omega);obtain⟨b9,off9,hp9,_,vs9,hce9,hvs9⟩:=EL.out (k-1) _ hgp;have hqq:=hp.symm.trans hp9;cases hqq;have hvs9':vs9=[.int .i64 l[k-1].lo,.int .i64 l[k-1].hi]:=hvs9;subst hvs9';exact⟨k-1,l[k-1],by omega,by unfold qd6;rw [if_neg h0,hgp],hce9 1 _ rfl⟩
   have hdr:l.drop k=l[k] :: l.drop (k+1):=List.drop_eq_getElem_cons hlt;have hpn:qd6 l (k+1)=some l[k]:=by unfold qd6;rw [if_neg (by omega),show k+1-1=k by omega,hg]
   have HGO:=Lib.hid (show(done ++ spanP d lo hi (qd6 l k) l[k]) ++ qd1 d lo hi (qd6 l (k+1)) (l.drop (k+1))=T by rw [←hgo.out,hdr,qi5,hpn,List.append_assoc]);have hvs':cs=[.int .i64 l[k].lo,.int .i64 l[k].hi]:=hvs;subst hvs' hp;have HPV:=Lib.hid hprev;clear hgo hdr hg hprev hvs hpn;generalize l[k]=x at *;have KS:=Lib.hid (fun W' (kq:Bel w0 W')=>show W'.cell? ⟨b,off+k*2,none⟩=some (.int .i64 x.lo)/\W'.cell? ⟨b,off+k*2+1,none⟩=some (.int .i64 x.hi)from⟨kq.some (by have:=hce 0 _ rfl;rwa [Nat.add_zero]at this),kq.some (hce 1 _ rfl)⟩);clear hce;generalize hO1:decide (lo<=x.lo/\x.hi<=hi/\x.lo<=x.hi)=O1;have HO1:=Lib.hid hO1;clear hO1
   go_upto_region 3 with(fail)
   go_cut [] (fun wx=>RS w0 f d w [] (N+2*k+1) (ps ++ done ++ un d (-1) O1 6) wx)
   case first=>
    obtain⟨wd1,hwd1⟩ : ∃wd,wd=wr.drew:=⟨_,rfl⟩;have kd1:Bel wr wd1:=by rw [hwd1];exact(Bel.refl _).drew
    have HWD1:=Lib.hid hwd1;have hFd1:=hFS.bel kd1;have HFd1:=Lib.hid hFd1;clear hwd1;obtain⟨e0,e1⟩:=KS.out _ hFd1.bel0
    by_cases h1:x.lo<lo
    all_goals by_cases h2:hi<x.hi
    all_goals by_cases h3:x.hi<x.lo
    all_goals
     refine qag 30 (by kernel_rfl) (by kernel_rfl) HWD1.out ?_
     (simp only [List.take_succ_cons,List.take_zero,List.drop_succ_cons,List.drop_zero]);(repeat (first|((with_reducible refine wpStill_step (fun K hK=>?_));go_simp;(with_reducible refine hK _ ?_);clear hK K)|((with_reducible refine qah ?_ ?_);(with_unfolding_all rfl))));(with_reducible refine wpStill_nil ?_)
     go_wp2_with (go_at_call 70;(with_reducible refine(HFd1.out.add (by omega) _ _ _).mono ?_);rintro e w9 ⟨rfl,h9⟩;have hend:=Lib.hid h9;clear h9)
     go_meet;refine hend.out.okc ?_
     rw [←HO1.out,Bool.eq_iff_iff];simp;omega
   case rest=>
    clear hFS;have hFS:=hcut;clear hcut
    go_upto_region 4 with(fail)
    obtain⟨wd2,hwd2⟩ : ∃wd,wd=wc.drew:=⟨_,rfl⟩;have kd2:Bel wc wd2:=by rw [hwd2];exact(Bel.refl _).drew
    have HWD2:=Lib.hid hwd2;have hFd2:=hFS.bel kd2;have HFd2:=Lib.hid hFd2;clear hwd2;obtain⟨e0,e1⟩:=KS.out _ hFd2.bel0
    have hsp : ∀O2:Bool,spO x (qd6 l k)=O2->spanP d lo hi (qd6 l k) x=un d (-1) O1 6 ++ un d (-1) O2 11:=fun O2 h=>by rw [spanP_eq,HO1.out,h]
    have HSP:=Lib.hid hsp
    have HDO:=Lib.hid (fun(O2:Bool) (W:World) (hO:spO x (qd6 l k)=O2) (h:RS w0 f d w [] (N+2*k+1+1) (ps ++ done ++ un d (-1) O1 6 ++ un d (-1) O2 11) W)=>(show RS w0 f d w [] (N+2*(k+1)) (ps ++ (done ++ spanP d lo hi (qd6 l k) x)) W by
     rw [HSP.out O2 hO];have h2:=h.moreN (N2:=N+2*(k+1)) (by omega)
     simpa only [List.append_assoc]using h2))
    clear hsp;rcases HPV.out with⟨h0,hp0⟩|⟨j,q,hkj,hpq,hcj⟩
    ·have hk0n : ¬(0<k):=by omega
     have HP0:=Lib.hid hp0;clear hp0 h0;refine qag 17 (by kernel_rfl) (by kernel_rfl) HWD2.out ?_
     (simp only [List.take_succ_cons,List.take_zero,List.drop_succ_cons,List.drop_zero]);(repeat (first|((with_reducible refine wpStill_step (fun K hK=>?_));go_simp;(with_reducible refine hK _ ?_);clear hK K)|((with_reducible refine qah ?_ ?_);(with_unfolding_all rfl))));(with_reducible refine wpStill_nil ?_)
     go_wp2_with (go_at_call 70;(with_reducible refine(HFd2.out.add (by omega) _ _ _).mono ?_);rintro e w9 ⟨rfl,h9⟩;have hend:=Lib.hid h9;clear h9)
     exact⟨⟨k+1,_,by omega,by go_num,HDO.out true _ (by rw [HP0.out];rfl) hend.out,HGO⟩,by simp [intOf];omega⟩
    ·have hk00:(0:Int)<(k:Int):=by omega
     have hk00n:0<k:=by omega
     have jw3:(k:Int)-1=(j:Int):=by omega
     have jw2:IntKind.i64.wrap (j:Int)=(j:Int):=wrap_small _ (by omega) (by omega);have jw:IntKind.i64.wrap ((k:Int)-1)=(j:Int):=by rw [jw3];exact jw2
     have j1:(j:Int)<(l.length:Int):=by omega
     have j0:(0:Int)<=(j:Int):=by omega
     have ep:=hFd2.bel0.some hcj;have HPQ:=Lib.hid hpq;clear hkj hpq hcj;refine qag 17 (by kernel_rfl) (by kernel_rfl) HWD2.out ?_
     (simp only [List.take_succ_cons,List.take_zero,List.drop_succ_cons,List.drop_zero]);(repeat (first|((with_reducible refine wpStill_step (fun K hK=>?_));go_simp;(with_reducible refine hK _ ?_);clear hK K)|((with_reducible refine qah ?_ ?_);(with_unfolding_all rfl))));(with_reducible refine wpStill_nil ?_)
     go_wp2_with (go_at_call 70;(with_reducible refine(HFd2.out.add (by omega) _ _ _).mono ?_);rintro e w9 ⟨rfl,h9⟩;have hend:=Lib.hid h9;clear h9)
     exact⟨⟨k+1,_,by omega,by go_num,HDO.out _ _ (by rw [HPQ.out];show decide (q.hi<x.lo)=_;first|rfl|(rw [Bool.eq_iff_iff];simp)) hend.out,HGO⟩,by simp [intOf];omega⟩
  ·have hki : ¬(k:Int)<(l.length:Int):=by omega
   have hdn:done=T:=by
    have h:=hgo.out;rw [show k=l.length by omega,List.drop_length,qk8,List.append_nil]at h;exact h
   subst hdn;clear hgo EL;go_wp2;exact bodyPost_end (results_none (by rfl) _ _ _) rfl ⟨rfl,hFS.1,hFS.2.1,hFS.2.2.1⟩
end
section
open Go.RowKit
section
variable {P : Program} {ops : Array Oper} {S : World → Prop} {Q : Exit → Act → World → Prop} {K : Act → World → Prop} {a : Act} {w : World} {o : Oper} {r m : OrdT Oper}
theorem qe3 {j:Nat} {b c:Bool} {t:Tmp} (hg:o.guard=some (j,b)) (hj:(ops[j]?).bind (·.dst)=some t) (hv:a.eval (.tmp t)=.bool c):Region.wanted o (yielded ops a.tmps)=(c == b):=by
 have h:a.tmps[t]? = some (.bool c):=by
  simp only [Act.eval]at hv;rw [Array.getD_eq_getD_getElem?]at hv;cases h:a.tmps[t]? with
  | none=>rw [h]at hv;simp [undef]at hv
  | some x=>rw [h]at hv;simpa using hv
 unfold Region.wanted yielded;rw [hg];simp only [hj,Option.bind_some,h];cases c <;> cases b <;> rfl
theorem qaa {i:Tmp} {v:Value} {j:Nat} {b:Bool} {t:Tmp} (hd:o.dst=some i) (hg:o.guard=some (j,b)) (hj:(ops[j]?).bind (·.dst)=some t) (hv:a.eval (.tmp t)=.bool b) (hy : ∀ρ:Operand->Value,(∀x,ρ x=a.eval x)->∀W,S W->(execOp ρ o).run P W=.ok (.value v) W) (h:qau P ops S Q K r (a.put (some i) v) w):qau P ops S Q K (.take o r) a w:=
 qa1 hd (by rw [qe3 hg hj hv];simp) hy h
theorem qad {i:Tmp} {j:Nat} {b c:Bool} {t:Tmp} (hd:o.dst=some i) (hg:o.guard=some (j,b)) (hj:(ops[j]?).bind (·.dst)=some t) (hv:a.eval (.tmp t)=.bool c) (hc:(c == b)=false) (h:qau P ops S Q K r (a.put (some i) undef) w):qau P ops S Q K (.take o r) a w:=
 qma (by rw [qe3 hg hj hv];exact hc) (by rw [hd];exact h)
theorem qc5 {i:Tmp} {f:FuncId} {args:Array Value} {j:Nat} {b:Bool} {t:Tmp} (hd:o.dst=some i) (hg:o.guard=some (j,b)) (hj:(ops[j]?).bind (·.dst)=some t) (hv:a.eval (.tmp t)=.bool b) (hy : ∀ρ:Operand->Value,(∀x,ρ x=a.eval x)->(execOp ρ o).run P w=.ok (.enter f args) w) (h:Calls P f args w (fun e w' => ∃v,e=.returned v/\S w'/\qau P ops S Q K r (a.put (some i) v) w')) (hm:qau P ops S Q K m a w):qau P ops S Q K (.alt o r m) a w:=
 qan hd (by rw [qe3 hg hj hv];simp) hy h hm
theorem tree_off {i:Tmp} (hd:o.dst=some i) (hw:Region.wanted o (yielded ops a.tmps)=false) (hS:S w) (h:qau P ops S Q K r (a.put (some i) undef) w) (hm:qau P ops S Q K m a w):qau P ops S Q K (.alt o r m) a w:=by
 refine⟨?_,hm⟩;rw [hw,hd];exact⟨hS,h⟩
theorem qbx {i:Tmp} {j:Nat} {b c:Bool} {t:Tmp} (hd:o.dst=some i) (hg:o.guard=some (j,b)) (hj:(ops[j]?).bind (·.dst)=some t) (hv:a.eval (.tmp t)=.bool c) (hc:(c == b)=false) (hS:S w) (h:qau P ops S Q K r (a.put (some i) undef) w) (hm:qau P ops S Q K m a w):qau P ops S Q K (.alt o r m) a w:=
 tree_off hd (by rw [qe3 hg hj hv];exact hc) hS h hm
theorem qbt {t:OrdT Oper} (h : ∀a',a'=a->qau P ops S Q K t a' w):qau P ops S Q K t a w:=h a rfl
end
end
end Go.Proofs.YtaaneecceiefoaaGreatDoor
