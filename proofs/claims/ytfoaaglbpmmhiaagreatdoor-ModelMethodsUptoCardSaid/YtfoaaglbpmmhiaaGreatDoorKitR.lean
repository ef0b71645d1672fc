import Derived.Test.YtfoaaglbpmmhiaaGreatDoorKitH
import Derived.Deep.RegionLaw
import Derived.Deep.AppendLies
import Derived.Test.YtfoaaglbpmmhiaaGreatDoorKitA
import Derived.Deep.RegionHeld3
import Derived.Deep.DeepCutAuto
import Derived.Deep.CutBlock
set_option maxRecDepth 100000
set_option maxHeartbeats 4000000
set_option linter.unusedVariables false
set_option linter.unusedSimpArgs false
namespace Go.Proofs.YtfoaaglbpmmhiaaGreatDoor
open Go.RowKit Ck
theorem prob_info:(Tryz.prog.info? 164).map (fun i => (i.zero,i.size,i.bytes))=some (some (.agg #[.string ByteArray.empty,.int .i64 0,.int .i64 0]),3,32):=by kernel_rfl
def Finder (B f:Nat) (d:Str) (num:Int) (ps:List PProb) (w:World):Prop:=
 B<=f/\∃ v,w.heap[f]? = some (.cells #[.string (S d),.int .i64 num,v] 141 (0,0))/\w.ownsRow B 164 3 v ps.length (ps.flatMap probC)/\v.ownBlock ≠ some f
theorem probs_cells (ps:List PProb) (d:Str) (num e:Int):(ps ++ [(⟨d,num,e⟩:PProb)]).flatMap probC=ps.flatMap probC ++ [.string (S d),.int .i64 num,.int .i64 e]:=by
 simp [probC]
theorem grown_setCell (w:World) (b i:Nat) (v:Value):w.grownBy (w.setCell ⟨b,i,none⟩ v) (some b):=
 ⟨rfl,rfl,rfl,by simp [World.setCell],fun k _ hk => Below.heap_setCell _ _ _ _ (fun e => hk (by rw [e]))⟩
theorem row_kind {w:World} {B:Nat} {e:TypeId} {size:Nat} {v:Value} {n:Nat} {xs:List Value} (h:w.ownsRow B e size v n xs) : ∀ g,v.ownBlock=some g->∃ c fz,w.heap[g]? = some (.cells c e fz):=fun g hg => by
 rcases h.2 with ⟨hv,_⟩ | ⟨g',_,cur,hv,_,hgg,_⟩
 ·rw [hv] at hg
  cases hg
 ·rw [hv] at hg
  cases hg;exact ⟨cur,_,hgg⟩
theorem finder_store {B f:Nat} {d:Str} {num e:Int} {ps:List PProb} {v:Value} {w w2:World} {g cap:Nat} (hB:B<=f) (hb:w2.heap[f]? = some (.cells #[.string (S d),.int .i64 num,v] 141 (0,0)))
  (hown:w2.ownsRow B 164 3 (.slice (some ⟨g,0,none⟩) (ps.length + 1) cap) (ps.length + 1) (ps.flatMap probC ++ [.string (S d),.int .i64 num,.int .i64 e])) (hgf:g ≠ f)
  (hbel:Below B w w2) (hoth:Lib.OthersKept 164 (some f) w w2) :
  Finder B f d num (ps ++ [(⟨d,num,e⟩:PProb)]) (w2.setCell ⟨f,2,none⟩ (.slice (some ⟨g,0,none⟩) (ps.length + 1) cap))/\Below B w (w2.setCell ⟨f,2,none⟩ (.slice (some ⟨g,0,none⟩) (ps.length + 1) cap))/\Lib.OthersKept 164 (some f) w (w2.setCell ⟨f,2,none⟩ (.slice (some ⟨g,0,none⟩) (ps.length + 1) cap)):=by
 have hne:(Value.slice (some ⟨g,0,none⟩) (ps.length + 1) cap).ownBlock ≠ some f:=by simp [Value.ownBlock,hgf]
 refine ⟨⟨hB,_,heap_setCell_same w2 f 2 _ _ _ hb,?_,hne⟩,hbel.setCell hB _,hoth.setCell _ rfl _⟩;have:=hown.kept (grown_setCell w2 f 2 (.slice (some ⟨g,0,none⟩) (ps.length + 1) cap)) (Or.inr hne);rw [probs_cells]
 simpa using this
theorem unless_bad (B f:Nat) (d:Str) (num e:Int) (ps:List PProb) (w:World) (h:Finder B f d num ps w) (hps:ps.length<=1000000000) (hBw:B<=w.heap.size) :
  Calls Tryz.prog 80 #[.pointer (some ⟨f,0,none⟩),.bool false,.int .i64 e] w fun e' w' => e'=.returned (.tuple #[])/\(Finder B f d num (ps ++ [(⟨d,num,e⟩:PProb)]) w'/\Below B w w'/\Lib.OthersKept 164 (some f) w w'):=by
 obtain ⟨hB,v,hbk,hown,hne⟩:=h;obtain ⟨i0,hi,hz0,hz1,hz2⟩:=info_parts prob_info;have c0:w.cell? ⟨f,0,none⟩=some (.string (S d)):=by rw [Lib.cell_of_heap hbk];rfl
 have c1:w.cell? ⟨f,1,none⟩=some (.int .i64 num):=by rw [Lib.cell_of_heap hbk];rfl
 have c2:w.cell? ⟨f,2,none⟩=some v:=by rw [Lib.cell_of_heap hbk];rfl
 have f2:w.frozen? ⟨f,2,none⟩=false:=Lib.frozen_of_heap hbk 2;have hlt:f < w.heap.size:=World.block_lt_of_cell? w _ c0;have t0:(w.drew.alloc (.cells #[.string (S d),.int .i64 num,.int .i64 e] 164)).heap.size=w.heap.size + 1:=by simp
 have t1:(w.drew.alloc (.cells #[.string (S d),.int .i64 num,.int .i64 e] 164)).ownsRow B 164 3 v ps.length (ps.flatMap probC):=(hown.drew).alloc _;have t2 : ∀ j u,[Value.string (S d),.int .i64 num,.int .i64 e][j]? = some u->(w.drew.alloc (.cells #[.string (S d),.int .i64 num,.int .i64 e] 164)).cell? ((⟨w.heap.size,0,none⟩:Addr).add j)=some u:=World.news_of_block (heap_alloc_new w.drew _);have t3 : ∀ u ∈ [Value.string (S d),.int .i64 num,.int .i64 e],u.oneCell'=true:=by simp [Value.oneCell']
 have t4:(ps.length + 1) * 32<=140737488355328:=by omega
 have t5:ps.length + 1<=maxLen:=by unfold maxLen;omega
 have t6:B<=(w.drew.alloc (.cells #[.string (S d),.int .i64 num,.int .i64 e] 164)).heap.size:=by rw [t0];omega
 have t7:f < (w.drew.alloc (.cells #[.string (S d),.int .i64 num,.int .i64 e] 164)).heap.size:=by rw [t0];omega
 have t8 : ∀ w2,(w.drew.alloc (.cells #[.string (S d),.int .i64 num,.int .i64 e] 164)).grownBy w2 v.ownBlock->w2.heap[f]? = some (.cells #[.string (S d),.int .i64 num,v] 141 (0,0)):=fun w2 hg => (hg.block f t7 (Ne.symm hne)).trans ((heap_alloc_old w.drew _ hlt).trans hbk)
 have t9 : ∀ (g cap:Nat) (w2:World),(w.drew.alloc (.cells #[.string (S d),.int .i64 num,.int .i64 e] 164)).grownBy w2 v.ownBlock->w2.ownsRow B 164 3 (.slice (some ⟨g,0,none⟩) (ps.length + 1) cap) (ps.length + 1) (ps.flatMap probC ++ [.string (S d),.int .i64 num,.int .i64 e])->(v.ownBlock=some g ∨ g=w.heap.size + 1) →
   (Finder B f d num (ps ++ [(⟨d,num,e⟩:PProb)]) (w2.setCell ⟨f,2,none⟩ (.slice (some ⟨g,0,none⟩) (ps.length + 1) cap))/\Below B w (w2.setCell ⟨f,2,none⟩ (.slice (some ⟨g,0,none⟩) (ps.length + 1) cap))/\Lib.OthersKept 164 (some f) w (w2.setCell ⟨f,2,none⟩ (.slice (some ⟨g,0,none⟩) (ps.length + 1) cap))):=fun g cap w2 hg ho hh => by
  refine finder_store hB (t8 w2 hg) ho ?_ ?_ ?_
  ·intro hgf
   subst hgf;rcases hh with hh | hh
   ·exact hne hh
   ·omega
  ·refine Below.grown (((Below.refl B w).drew).alloc hBw _) hg t6 (fun k hk => (t1.lt k hk).1)
  ·exact ((((Lib.OthersKept.refl _ _ w).drew).alloc _).grown hg (row_kind t1))
 go_enter Tryz.func80,Tryz.ntmps80
 go_wp2
 go_region_law ((refine step_append_lies _ (by rfl) _ _ _ (by rfl) B 164 i0 (.agg #[.string ByteArray.empty,.int .i64 0,.int .i64 0]) 3 32 Tryz.underlying114 hi hz0 hz1 hz2 rfl (by decide) v ps.length _ (by rfl) t1 ⟨w.heap.size,0,none⟩ 1 1 [.string (S d),.int .i64 num,.int .i64 e] (by rfl) (by rfl) t2 t3 (by decide) t5 t4 t6 (w.heap.size + 1) t0 ?_;intro g cap w2 hown2 hgrow hgg hglt;have hb2:=Lib.hid (t8 w2 hgrow);have hend:=Lib.hid (t9 g cap w2 hgrow hown2 hgg);have e2:=Lib.cell_of_heap hb2.out 2;have e3:=Lib.frozen_of_heap hb2.out 2))
 all_goals clear t1 t2 t3 t8 t9
 all_goals exact bodyPost_end (results_none (by rfl) _ _ _) rfl ⟨rfl,hend.out⟩
theorem unless_ok (f:Nat) (e:Int) (w:World) :
  Calls Tryz.prog 80 #[.pointer (some ⟨f,0,none⟩),.bool true,.int .i64 e] w fun e' w' => e'=.returned (.tuple #[])/\w=w':=by
 go_enter Tryz.func80,Tryz.ntmps80
 go_wp2
 exact bodyPost_end (results_none (by rfl) _ _ _) rfl ⟨rfl,rfl⟩
end Go.Proofs.YtfoaaglbpmmhiaaGreatDoor
namespace Go.Proofs.YtfoaaglbpmmhiaaGreatDoor
open Go.RowKit Ck
theorem Finder.lt {B f:Nat} {d:Str} {num:Int} {ps:List PProb} {w:World} (h:Finder B f d num ps w):f < w.heap.size:=by
 obtain ⟨_,v,hb,_⟩:=h;exact (Array.getElem?_eq_some_iff.1 hb).1
theorem row_bel {w w':World} {B:Nat} {e:TypeId} {size:Nat} {v:Value} {n:Nat} {xs:List Value} (h:w.ownsRow B e size v n xs) (k:Bel w w'):w'.ownsRow B e size v n xs:=by
 refine ⟨h.1,?_⟩;rcases h.2 with hn | ⟨g,cap,cur,rfl,hb,hgg,rest⟩
 ·exact .inl hn
 ·exact .inr ⟨g,cap,cur,rfl,hb,(Below.block k g (Array.getElem?_eq_some_iff.1 hgg).1).trans hgg,rest⟩
theorem Finder.bel {B f:Nat} {d:Str} {num:Int} {ps:List PProb} {w w':World} (h:Finder B f d num ps w) (k:Bel w w'):Finder B f d num ps w':=by
 have hlt:=h.lt;obtain ⟨hB,v,hb,hown,hne⟩:=h;exact ⟨hB,v,(Below.block k f hlt).trans hb,row_bel hown k,hne⟩
theorem oth_bel {e:TypeId} {b:Option Nat} {w w':World} (k:Bel w w'):Lib.OthersKept e b w w':=fun i o hi _ _ => (Below.block k i (Array.getElem?_eq_some_iff.1 hi).1).trans hi
def FdPost (w0:World) (f:Nat) (d:Str) (num:Int) (ps:List PProb) (w:World) (e:Ending) (w':World):Prop:=
 e=.returned (.tuple #[])/\Finder w0.heap.size f d num ps w'/\Bel w0 w'/\Lib.OthersKept 164 (some f) w w'
theorem fd_unless (w0:World) (f:Nat) (d:Str) (num:Int) (ps:List PProb) (w:World) (ok:Bool) (e:Int) (h:Finder w0.heap.size f d num ps w) (hps:ps.length<=1000000000) (k0:Bel w0 w) :
  Calls Tryz.prog 80 #[.pointer (some ⟨f,0,none⟩),.bool ok,.int .i64 e] w (FdPost w0 f d num (ps ++ un d num ok e) w):=by
 cases ok with
 | false =>
  refine (unless_bad w0.heap.size f d num e ps w h hps k0.size).mono ?_;rintro e' w' ⟨rfl,h1,h2,h3⟩;exact ⟨rfl,h1,Below.trans k0 h2,h3⟩
 | true =>
  refine (unless_ok f e w).mono ?_;rintro e' w' ⟨rfl,rfl⟩;exact ⟨rfl,by rw [show un d num true e=[] from rfl,List.append_nil];exact h,k0,Lib.OthersKept.refl _ _ _⟩
theorem fd_noted (w0:World) (f:Nat) (d:Str) (num:Int) (ps:List PProb) (w:World) (v:Value) (l:List PNote) (tg:Int) (h:Finder w0.heap.size f d num ps w) (hps:ps.length<=1000000000) (k0:Bel w0 w) (hv:Notes w v l) (hl : ∀ n ∈ l,n.name.length<=1000000000) :
  Calls Tryz.prog 122 #[.pointer (some ⟨f,0,none⟩),v,.int .i64 tg] w (FdPost w0 f d num (ps ++ noted d num l tg) w):=by
 have cc:=Lib.hid (nt_Check v l tg w hv hl);have cu:=Lib.hid (fun W ok (k:Bel w W) => fd_unless w0 f d num ps W ok (noteCheck l tg) (h.bel k) hps (Below.trans k0 (k.mono k0.size)));have hn:=Lib.hid (show noted d num l tg=un d num (decide (noteCheck l tg=0)) (noteCheck l tg) from rfl);clear hv hl h hps;generalize noteCheck l tg=R at cc cu hn;generalize noted d num l tg=NN at hn
 go_enter Tryz.func122,Tryz.ntmps122
 go_wp2_with (first
  | (go_at_call 163;(with_reducible refine cc.out.mono ?_);rintro e w1 ⟨rfl,h1⟩;have k1:Bel w w1:=Bel.of (by (repeat (first | (with_reducible assumption) | (with_reducible exact Bel.refl _) | (with_reducible refine Bel.drew ?_) | (with_reducible refine Bel.drewN ?_ _) | (with_reducible refine Bel.alloc ?_ _) | ((with_reducible refine bel_set ?_ ?hge);(case hge => (first | omega | (simp;omega))))))) h1;clear h1)
  | (go_at_call 80;(with_reducible refine (cu.out _ _ k1).mono ?_);rintro e w2 ⟨rfl,h2⟩;have hend:=Lib.hid h2;clear h2))
 obtain ⟨g1,g2,g3⟩:=hend.out;refine bodyPost_end (results_none (by rfl) _ _ _) rfl ⟨rfl,?_,g2,(oth_bel k1).trans g3⟩;rw [hn.out,show decide (R=0)=(R == 0) from rfl];exact g1
end Go.Proofs.YtfoaaglbpmmhiaaGreatDoor
namespace Go.Proofs.YtfoaaglbpmmhiaaGreatDoor
open Go.RowKit Ck
def prevOf (l:List PSpan) (k:Nat):Option PSpan:=if k=0 then none else l[k - 1]?
theorem un_len (d:Str) (num:Int) (ok:Bool) (e:Int):(un d num ok e).length<=1:=by
 cases ok <;> simp [un]
def spanP (d:Str) (lo hi:Int) (last:Option PSpan) (p:PSpan):List PProb:=
 un d (-1) (decide (lo<=p.lo/\p.hi<=hi/\p.lo<=p.hi)) 6 ++ un d (-1) (match last with | none => true | some q => decide (q.hi < p.lo)) 11
theorem span_end (d:Str) (lo hi:Int) (q:Option PSpan):spansGo d lo hi q []=[]:=by cases q <;> rfl
theorem span_cons (d:Str) (lo hi:Int) (q:Option PSpan) (p:PSpan) (r:List PSpan):spansGo d lo hi q (p :: r)=spanP d lo hi q p ++ spansGo d lo hi (some p) r:=rfl
theorem fd_spans (w0:World) (f:Nat) (d:Str) (ps:List PProb) (w:World) (v:Value) (l:List PSpan) (lo hi:Int) (h:Finder w0.heap.size f d (-1) ps w) (hps:ps.length<=100000000) (hll:l.length<=100000000) (k0:Bel w0 w) (hv:Spans w0 v l) :
  Calls Tryz.prog 120 #[.pointer (some ⟨f,0,none⟩),v,.int .i64 lo,.int .i64 hi] w (FdPost w0 f d (-1) (ps ++ spans d l lo hi) w):=by
 obtain ⟨p,c,rfl,hlen,hcap,hel⟩:=hv;have V:=Lib.hid (show spansGo d lo hi (prevOf l 0) (l.drop 0)=spans d l lo hi from rfl);have EL:=Lib.hid hel;clear hel;generalize spans d l lo hi=T at V
 go_enter Tryz.func120,Tryz.ntmps120
 go_wp2
 go_loopw [12] (fun i wr => ∃ (k:Nat) (done:List PProb),k<=l.length/\i=.int .i64 k/\Finder w0.heap.size f d (-1) (ps ++ done) wr/\Bel w0 wr/\Lib.OthersKept 164 (some f) w wr/\done.length<=2 * k/\Hid (done ++ spansGo d lo hi (prevOf l k) (l.drop k)=T)) (fun i _ => l.length - (intOf i).toNat)
 case atStart => exact ⟨0,[],by omega,rfl,by rw [List.append_nil];exact h,k0,Lib.OthersKept.refl _ _ _,by simp,V⟩
 case round =>
  obtain ⟨k,done,hk,rfl,hF,kw,ho,hdl,hgo⟩:=hrel;by_cases hlt:k < l.length
  ·have hg:l[k]? = some l[k]:=List.getElem?_eq_getElem hlt
   obtain ⟨b,off,rfl,hbs,vs,hce,hvs⟩:=EL.out k _ hg;have hdr:l.drop k=l[k] :: l.drop (k + 1):=List.drop_eq_getElem_cons hlt;have hpv:prevOf l (k + 1)=some l[k]:=by unfold prevOf;rw [if_neg (by omega),Nat.add_sub_cancel,hg]
   have hgo2:=hgo.out;rw [hdr,span_cons, ← hpv] at hgo2;clear hgo hdr hg;have hvs':vs=[.int .i64 l[k].lo,.int .i64 l[k].hi]:=hvs;subst hvs';generalize l[k]=x at *;obtain ⟨xa,xz⟩:=x;have e0:wr.cell? ⟨b,off + k * 2,none⟩=some (.int .i64 xa):=kw.some (hce 0 _ rfl);have e1:wr.cell? ⟨b,off + k * 2 + 1,none⟩=some (.int .i64 xz):=kw.some (hce 1 _ rfl)
   have hprev:(k=0/\prevOf l k=none) ∨ ∃ j q,k=j + 1/\prevOf l k=some q/\w0.cell? ⟨b,off + j * 2 + 1,none⟩=some (.int .i64 q.hi):=by
    cases k with
    | zero => exact .inl ⟨rfl,rfl⟩
    | succ j =>
     have hg2:l[j]? = some l[j]:=List.getElem?_eq_getElem (by omega);obtain ⟨b',off',he,_,vs2,hce2,hvs2⟩:=EL.out j _ hg2;cases he;have hvs2':vs2=[.int .i64 l[j].lo,.int .i64 l[j].hi]:=hvs2;subst hvs2';exact .inr ⟨j,l[j],rfl,by unfold prevOf;rw [if_neg (by omega),Nat.add_sub_cancel];exact hg2,hce2 1 _ rfl⟩
   clear hce hvs;have GO:=Lib.hid hgo2;clear hgo2;have hki:((k:Int) < (l.length:Int)):=by omega
   have cu6:=Lib.hid (fun W ok (k1:Bel wr W) => fd_unless w0 f d (-1) (ps ++ done) W ok 6 (hF.bel k1) (by rw [List.length_append];omega) (Below.trans kw (k1.mono kw.size)));generalize hO1:decide (lo<=xa/\xz<=hi/\xa<=xz)=O1;have HO1:=Lib.hid hO1;have HPV:=Lib.hid hprev;clear hO1 hprev hpv
   go_upto_region 3 with (fail)
   go_cut [] (fun wx => Finder w0.heap.size f d (-1) (ps ++ done ++ un d (-1) O1 6) wx/\Bel w0 wx/\Lib.OthersKept 164 (some f) w wx/\wx.heap[wr.heap.size]? = some (.cells #[.int .i64 xa,.int .i64 xz] 194 (0,0)))
   case first =>
    go_wp2_with (go_at_call 80;(with_reducible refine (cu6.out _ _ (by (repeat (first | (with_reducible assumption) | (with_reducible exact Bel.refl _) | (with_reducible refine Bel.drew ?_) | (with_reducible refine Bel.drewN ?_ _) | (with_reducible refine Bel.alloc ?_ _) | ((with_reducible refine bel_set ?_ ?hge);(case hge => (first | omega | (simp;omega)))))))).mono ?_);rintro e w2 ⟨rfl,h2⟩;have hend:=Lib.hid h2;clear h2)
    all_goals go_meet
    all_goals (
     obtain ⟨hF2,kw2,ho2⟩:=hend.out;refine ⟨?_,kw2,(ho.alloc _).trans ho2,kept_cell ho2 (heap_alloc_new wr _) (fun e => by have:=hF.lt;injection e;omega) (by decide)⟩
     first
      | (rw [← HO1.out,show decide (lo<=xa/\xz<=hi/\xa<=xz)=decide (xa<=xz) by simp [*]];exact hF2)
      | (rw [← HO1.out,show decide (lo<=xa/\xz<=hi/\xa<=xz)=false from decide_eq_false (by omega)];exact hF2))
   case rest =>
    obtain ⟨hF2,kw2,ho2,hb2⟩:=hcut
    have hlen2:(ps ++ done ++ un d (-1) O1 6).length<=1000000000:=by
     have:=un_len d (-1) O1 6;rw [List.length_append,List.length_append];omega
    have cu11:=Lib.hid (fun W ok (k1:Bel wc W) => fd_unless w0 f d (-1) (ps ++ done ++ un d (-1) O1 6) W ok 11 (hF2.bel k1) hlen2 (Below.trans kw2 (k1.mono kw2.size)))
    have hfin : ∀ (O2:Bool) (w3:World),(match prevOf l k with | none => true | some q => decide (q.hi < xa))=O2->Finder w0.heap.size f d (-1) (ps ++ done ++ un d (-1) O1 6 ++ un d (-1) O2 11) w3->Bel w0 w3->Lib.OthersKept 164 (some f) w w3 →
      (Finder w0.heap.size f d (-1) (ps ++ (done ++ spanP d lo hi (prevOf l k) ⟨xa,xz⟩)) w3/\Bel w0 w3/\Lib.OthersKept 164 (some f) w w3/\(done ++ spanP d lo hi (prevOf l k) ⟨xa,xz⟩).length<=2 * (k + 1)/\Hid ((done ++ spanP d lo hi (prevOf l k) ⟨xa,xz⟩) ++ spansGo d lo hi (prevOf l (k + 1)) (l.drop (k + 1))=T)):=fun O2 w3 hO2 g1 g2 g3 => by
     have hsp:spanP d lo hi (prevOf l k) ⟨xa,xz⟩=un d (-1) O1 6 ++ un d (-1) O2 11:=by
      unfold spanP;rw [HO1.out,hO2]
     refine ⟨?_,g2,g3,?_,?_⟩
     ·rw [hsp];simpa only [List.append_assoc] using g1
     ·rw [hsp,List.length_append,List.length_append]
      have:=un_len d (-1) O1 6;have:=un_len d (-1) O2 11;omega
     ·refine Lib.hid ?_
      rw [List.append_assoc];exact GO.out
    have HFIN:=Lib.hid hfin;have hkw:IntKind.i64.wrap ((k:Int) + 1)=(k:Int) + 1:=wrap_small _ (by omega) (by omega);obtain ⟨wd,hwd⟩ : ∃ wd,wd=wc.drew:=⟨_,rfl⟩;have kd:Bel wc wd:=by rw [hwd];exact (Bel.refl _).drew
    have d0:wd.cell? ⟨wr.heap.size,0,none⟩=some (.int .i64 xa):=kd.some (Lib.cell_of_heap hb2 0);have hod:Lib.OthersKept 164 (some f) w wd:=by rw [hwd];exact ho2.drew
    have HWD:=Lib.hid hwd;clear hfin hwd hb2 hF2 hF h hki
    go_upto_region 4 with (fail)
    rcases HPV.out with ⟨hk0,hp0⟩ | ⟨j,q,hkj,hpq,hcj⟩
    ·have HP0:=Lib.hid hp0
     clear hp0;subst hk0;refine rg_tail 14 (by kernel_rfl) (by kernel_rfl) HWD.out ?_
     (simp only [List.take_succ_cons,List.take_zero,List.drop_succ_cons,List.drop_zero]);(repeat (first | ((with_reducible refine wpStill_step (fun K hK => ?_));go_simp;(with_reducible refine hK _ ?_);clear hK K) | ((with_reducible refine rg_skip ?_ ?_);(with_unfolding_all rfl))));(with_reducible refine wpStill_nil ?_)
     go_wp2_with (go_at_call 80;(with_reducible refine (cu11.out _ _ kd).mono ?_);rintro e w3 ⟨rfl,h3⟩;have hend:=Lib.hid h3;clear h3)
     obtain ⟨g1,g2,g3⟩:=hend.out;obtain ⟨r1,r2,r3,r4,r5⟩:=HFIN.out true w3 (by rw [HP0.out]) g1 g2 (hod.trans g3);refine ⟨⟨0 + 1,_,by omega,rfl,r1,r2,r3,r4,r5⟩,by simp [intOf];omega⟩
    ·subst hkj
     have d1:wd.cell? ⟨b,off + j * 2 + 1,none⟩=some (.int .i64 q.hi):=(Bel.of kw2 kd).some hcj;have j0:(0:Int)<=(j:Int):=by omega
     have j1:(j:Int) < (l.length:Int):=by omega
     have jn:((((j + 1:Nat):Int)) == 0)=false:=by rw [beq_eq_false_iff_ne];omega
     have jn2:(((j:Int) + 1) == 0)=false:=by rw [beq_eq_false_iff_ne];omega
     have jm:IntKind.i64.wrap ((j:Int) + 1 - 1)=(j:Int):=by rw [show (j:Int) + 1 - 1=(j:Int) by omega];exact wrap_small _ (by omega) (by omega)
     have jm2:IntKind.i64.wrap (j:Int)=(j:Int):=wrap_small _ (by omega) (by omega);have HPQ:=Lib.hid hpq;clear hpq hcj;refine rg_tail 14 (by kernel_rfl) (by kernel_rfl) HWD.out ?_
     (simp only [List.take_succ_cons,List.take_zero,List.drop_succ_cons,List.drop_zero]);(repeat (first | ((with_reducible refine wpStill_step (fun K hK => ?_));go_simp;(with_reducible refine hK _ ?_);clear hK K) | ((with_reducible refine rg_skip ?_ ?_);(with_unfolding_all rfl))));(with_reducible refine wpStill_nil ?_)
     go_wp2_with (go_at_call 80;(with_reducible refine (cu11.out _ _ kd).mono ?_);rintro e w3 ⟨rfl,h3⟩;have hend:=Lib.hid h3;clear h3)
     obtain ⟨g1,g2,g3⟩:=hend.out;obtain ⟨r1,r2,r3,r4,r5⟩:=HFIN.out _ w3 (by rw [HPQ.out]) g1 g2 (hod.trans g3);refine ⟨⟨j + 1 + 1,_,by omega,rfl,r1,r2,r3,r4,r5⟩,by simp [intOf];omega⟩
  ·have hkl:k=l.length:=by omega
   subst hkl;have G:=hgo.out;rw [List.drop_length,span_end,List.append_nil] at G;subst G;clear hgo EL V
   go_wp2
   refine bodyPost_end (results_none (by rfl) _ _ _) rfl ⟨rfl,hF,kw,ho⟩
end Go.Proofs.YtfoaaglbpmmhiaaGreatDoor
namespace Go.Proofs.YtfoaaglbpmmhiaaGreatDoor
open Go.RowKit Ck
theorem heap_alloc_at (w:World) (o:Obj) (n:Nat) (h:n=w.heap.size):(w.alloc o).heap[n]? = some o:=by subst h;exact heap_alloc_new w o
theorem Finder.setnum {B f:Nat} {d:Str} {num n2:Int} {ps:List PProb} {w:World} (h:Finder B f d num ps w):Finder B f d n2 ps (w.setCell ⟨f,1,none⟩ (.int .i64 n2)):=by
 obtain ⟨hB,v,hb,hown,hne⟩:=h;refine ⟨hB,v,heap_setCell_same w f 1 _ _ _ hb,?_,hne⟩;exact hown.kept (grown_setCell w f 1 (.int .i64 n2)) (Or.inr hne)
def FS (w0:World) (fb:Nat) (d:Str) (num:Int) (w:World) (bl:List (Nat × Array Value × TypeId)) (N:Nat) (ps:List PProb) (wx:World):Prop:=
 Finder w0.heap.size fb d num ps wx/\Bel w0 wx/\Lib.OthersKept 164 (some fb) w wx/\ps.length<=N/\∀ b ∈ bl,wx.heap[b.1]? = some (.cells b.2.1 b.2.2 (0,0))/\b.1 ≠ fb/\b.2.2 ≠ 164
section
variable {w0 : World} {fb : Nat} {d : Str} {num : Int} {w : World} {bl : List (Nat × Array Value × TypeId)} {N : Nat} {ps : List PProb} {wx : World}
theorem FS.bel {w1:World} (h:FS w0 fb d num w bl N ps wx) (k:Bel wx w1):FS w0 fb d num w bl N ps w1:=by
 obtain ⟨h1,h2,h3,h4,h5⟩:=h;refine ⟨h1.bel k,Bel.of h2 k,h3.trans (oth_bel k),h4,fun b hb => ?_⟩;obtain ⟨g1,g2,g3⟩:=h5 b hb;exact ⟨(Below.block k _ (Array.getElem?_eq_some_iff.1 g1).1).trans g1,g2,g3⟩
theorem FS.cell (h:FS w0 fb d num w bl N ps wx) {g:Nat} {cs:Array Value} {T:TypeId} (hb:(g,cs,T) ∈ bl) : ∀ o,wx.cell? ⟨g,o,none⟩=cs[o]?:=fun o => Lib.cell_of_heap (h.2.2.2.2 _ hb).1 o
theorem FS.unless (h:FS w0 fb d num w bl N ps wx) (hN:N<=1000000000) (ok:Bool) (e:Int) :
  Calls Tryz.prog 80 #[.pointer (some ⟨fb,0,none⟩),.bool ok,.int .i64 e] wx fun e' w' => e'=.returned (.tuple #[])/\FS w0 fb d num w bl (N + 1) (ps ++ un d num ok e) w':=by
 obtain ⟨h1,h2,h3,h4,h5⟩:=h;refine (fd_unless w0 fb d num ps wx ok e h1 (by omega) h2).mono ?_;rintro e' w' ⟨rfl,g1,g2,g3⟩;refine ⟨rfl,g1,g2,h3.trans g3,?_,fun b hb => ?_⟩
 ·have:=un_len d num ok e
  rw [List.length_append];omega
 ·obtain ⟨q1,q2,q3⟩:=h5 b hb
  exact ⟨kept_cell g3 q1 (fun e => q2 (by injection e)) q3,q2,q3⟩
theorem FS.noted (h:FS w0 fb d num w bl N ps wx) (hN:N<=1000000000) (v:Value) (l:List PNote) (tg:Int) (hv:Notes w0 v l) (hl : ∀ n ∈ l,n.name.length<=1000000000) :
  Calls Tryz.prog 122 #[.pointer (some ⟨fb,0,none⟩),v,.int .i64 tg] wx fun e' w' => e'=.returned (.tuple #[])/\FS w0 fb d num w bl (N + 1) (ps ++ noted d num l tg) w':=by
 obtain ⟨h1,h2,h3,h4,h5⟩:=h;refine (fd_noted w0 fb d num ps wx v l tg h1 (by omega) h2 (hv.bel VNote.stays h2) hl).mono ?_;rintro e' w' ⟨rfl,g1,g2,g3⟩;refine ⟨rfl,g1,g2,h3.trans g3,?_,fun b hb => ?_⟩
 ·have:(Ck.noted d num l tg).length<=1:=un_len _ _ _ _
  rw [List.length_append];omega
 ·obtain ⟨q1,q2,q3⟩:=h5 b hb
  exact ⟨kept_cell g3 q1 (fun e => q2 (by injection e)) q3,q2,q3⟩
theorem FS.okc {ok ok':Bool} {e:Int} (h:FS w0 fb d num w bl N (ps ++ un d num ok e) wx) (he:ok=ok'):FS w0 fb d num w bl N (ps ++ un d num ok' e) wx:=he ▸ h
theorem FS.setnum {n2:Int} (h:FS w0 fb d num w bl N ps wx):FS w0 fb d n2 w bl N ps (wx.setCell ⟨fb,1,none⟩ (.int .i64 n2)):=by
 obtain ⟨h1,h2,h3,h4,h5⟩:=h;refine ⟨h1.setnum,bel_set h2 h1.1,h3.setCell _ rfl _,h4,fun b hb => ?_⟩;obtain ⟨g1,g2,g3⟩:=h5 b hb;exact ⟨(Below.heap_setCell _ _ _ _ (fun e => g2 (by rw [e]))).trans g1,g2,g3⟩
theorem FS.fdcell (h:FS w0 fb d num w bl N ps wx):wx.cell? ⟨fb,1,none⟩=some (.int .i64 num)/\wx.frozen? ⟨fb,1,none⟩=false:=by
 obtain ⟨⟨hB,v,hb,hown,hne⟩,_⟩:=h;exact ⟨by rw [Lib.cell_of_heap hb];rfl,Lib.frozen_of_heap hb 1⟩
theorem FS.bel0 (h:FS w0 fb d num w bl N ps wx):Bel w0 wx:=h.2.1
theorem FS.thin (h:FS w0 fb d num w bl N ps wx):FS w0 fb d num w [] N ps wx:=⟨h.1,h.2.1,h.2.2.1,h.2.2.2.1,fun b hb => by cases hb⟩
end
end Go.Proofs.YtfoaaglbpmmhiaaGreatDoor
