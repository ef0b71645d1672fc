import Derived.Test.YtaaneecceiefoaaGreatDoorMaPgo
import Derived.Test.YtaaneecceiefoaaGreatDoorMaParse
import Derived.Test.YtaaneecceiefoaaGreatDoorCkSmallP
import Derived.Test.YtaaneecceiefoaaGreatDoorMzCov
import Derived.Test.YtaaneecceiefoaaGreatDoorMaDrop
set_option maxRecDepth 100000
set_option maxHeartbeats 4000000
set_option linter.unusedVariables false
set_option linter.unusedSimpArgs false
namespace Go.Proofs.YtaaneecceiefoaaGreatDoor
section
open Go.RowKit Ck Ma
namespace Ma
def fA1:PField:=⟨1,[97],2,0,2,[],[],false,⟨0,0,[],0,0,0,0⟩,[]⟩
def fA2:PField:=⟨2,[98],2,0,10,[77],[],false,⟨0,0,[],0,0,0,0⟩,[]⟩
def mA:PMsg:=⟨[77],[fA1,fA2],[],[],[]⟩
def sA:PSchema:=⟨[mA],[],[]⟩
def lA:List PMask:=[.mk 1 [],.mk 2 [.mk 1 []]]
end Ma
theorem parse_A:parse (envOf Ma.sA) (qa7 Ma.sA) 7 [77] [98,46,97,44,97]=(0,Ma.lA):=by kernel_rfl
theorem text_A:text (envOf Ma.sA) (qa7 Ma.sA) 7 [77] Ma.lA=[97,44,98,46,97]:=by kernel_rfl
theorem textN_A:textN (envOf Ma.sA) (qa7 Ma.sA) 7 [77] Ma.lA=[[[97]],[[98],[97]]]:=by kernel_rfl
def vA:CV:=.msg [(1,.scalar 2 0 [])] []
theorem keep_A:keep 2 vA Ma.lA=.msg [(1,.scalar 2 0 [])] []:=by kernel_rfl
theorem drop_A:drop 2 vA Ma.lA=.msg [] []:=by kernel_rfl
theorem wdV_A:WdV 1034834473170 2 vA:=⟨by decide,fun x hx=>by
 have:x=(1,.scalar 2 0 []):=List.mem_singleton.1 hx;subst this
 exact trivial⟩
def fC1:Array Value:=#[.int .i64 1,.string ⟨#[97]⟩,.int .i64 2,.int .i64 0,.int .i64 2,.string ⟨#[]⟩,.string ⟨#[]⟩,.bool false,.int .i64 0,.int .u64 0,.string ⟨#[]⟩,.slice none 0 0,.slice none 0 0,.slice none 0 0,.slice none 0 0,.slice none 0 0]
def fC2:Array Value:=#[.int .i64 2,.string ⟨#[98]⟩,.int .i64 2,.int .i64 0,.int .i64 10,.string ⟨#[77]⟩,.string ⟨#[]⟩,.bool false,.int .i64 0,.int .u64 0,.string ⟨#[]⟩,.slice none 0 0,.slice none 0 0,.slice none 0 0,.slice none 0 0,.slice none 0 0]
theorem qjy (W:World) (f:PField) (n nm tn:ByteArray) (z t:Int) (hf:f=⟨z,nm.data.toList,2,0,t,tn.data.toList,[],false,⟨0,0,[],0,0,0,0⟩,[]⟩):VField W [.int .i64 z,.string nm,.int .i64 2,.int .i64 0,.int .i64 t,.string tn,.string ⟨#[]⟩,.bool false,.int .i64 0,.int .u64 0,.string ⟨#[]⟩,.slice none 0 0,.slice none 0 0,.slice none 0 0,.slice none 0 0,.slice none 0 0] f:=by
 subst hf;exact⟨[.int .i64 0,.int .u64 0,.string ⟨#[]⟩,.slice none 0 0,.slice none 0 0,.slice none 0 0,.slice none 0 0],.slice none 0 0,rfl,⟨none,none,none,none,0,0,0,0,rfl,Int.le_refl 0,(show(0:Int)<18446744073709551616 by decide),Nat.zero_le _,Nat.zero_le _,Nat.zero_le _,Nat.zero_le _⟩,Sl.nil _ _ _ _ _⟩
theorem vmsg_A {W:World} {b:Nat} {t:TypeId} (h:W.heap[b]? = some (.cells (fC1 ++ fC2) t (0,0))):VMsg W [.string (S [77]),.slice (some ⟨b,0,none⟩) 2 2,.slice none 0 0,.slice none 0 0,.slice none 0 0] Ma.mA:=by
 refine⟨_,_,_,_,rfl,⟨some ⟨b,0,none⟩,2,rfl,by decide,by decide,fun i x hx=>?_⟩,Sl.nil _ _ _ _ _,Sl.nil _ _ _ _ _,Sl.nil _ _ _ _ _⟩
 have hi:i=0 ∨ i=1:=by
  have:=(List.getElem?_eq_some_iff.1 hx).1;have h1:Ma.mA.fields.length=2:=rfl;omega
 rcases hi with rfl|rfl
 ·have hxe:Ma.fA1=x:=by
   have:Ma.mA.fields[0]? = some Ma.fA1:=rfl;rw [this]at hx;exact Option.some.inj hx
  subst hxe;refine⟨b,0,rfl,(Array.getElem?_eq_some_iff.1 h).1,fC1.toList,fun j v hv=>?_,qjy W _ ⟨#[]⟩ ⟨#[97]⟩ ⟨#[]⟩ 1 2 rfl⟩;have hj:j<16:=(List.getElem?_eq_some_iff.1 hv).1;rw [Lib.cell_of_heap h];simp only [Nat.zero_mul,Nat.zero_add];rw [Array.getElem?_append_left hj]
  simpa using hv
 ·have hxe:Ma.fA2=x:=by
   have:Ma.mA.fields[1]? = some Ma.fA2:=rfl;rw [this]at hx;exact Option.some.inj hx
  subst hxe;refine⟨b,0,rfl,(Array.getElem?_eq_some_iff.1 h).1,fC2.toList,fun j v hv=>?_,qjy W _ ⟨#[]⟩ ⟨#[98]⟩ ⟨#[77]⟩ 2 10 rfl⟩;rw [Lib.cell_of_heap h,Nat.one_mul,Nat.zero_add,Array.getElem?_append_right (show fC1.size<=16+j from Nat.le_add_right 16 j),show 16+j-fC1.size=j from Nat.add_sub_cancel_left 16 j]
  simpa using hv
theorem qm3 {W:World} {b c:Nat} {t t2:TypeId} (h:W.heap[b]? = some (.cells (fC1 ++ fC2) t (0,0))) (h2:W.heap[c]? = some (.cells #[.string (S [77]),.slice (some ⟨b,0,none⟩) 2 2,.slice none 0 0,.slice none 0 0,.slice none 0 0] t2 (0,0))) :
  VSchema W [.slice (some ⟨c,0,none⟩) 1 1,.slice none 0 0,.slice none 0 0] Ma.sA:=by
 refine⟨_,_,_,rfl,⟨some ⟨c,0,none⟩,1,rfl,by decide,by decide,fun i x hx=>?_⟩,Sl.nil _ _ _ _ _,Sl.nil _ _ _ _ _⟩
 have hi:i=0:=by
  have:=(List.getElem?_eq_some_iff.1 hx).1;have h1:Ma.sA.msgs.length=1:=rfl;omega
 subst hi
 have hxe:Ma.mA=x:=by
  have:Ma.sA.msgs[0]? = some Ma.mA:=rfl;rw [this]at hx;exact Option.some.inj hx
 subst hxe;refine⟨c,0,rfl,(Array.getElem?_eq_some_iff.1 h2).1,_,fun j v hv=>?_,vmsg_A h⟩;rw [Lib.cell_of_heap h2,Nat.zero_mul,Nat.zero_add]
 simpa using hv
theorem qkw (p:Option Addr) (W:World) (hs:VSchema W [.slice p 1 1,.slice none 0 0,.slice none 0 0] Ma.sA) (hM:ML W):Calls Tryz.prog 12 #[.agg #[.slice p 1 1,.slice none 0 0,.slice none 0 0],.string ⟨#[77]⟩,.string ⟨#[98,46,97,44,97]⟩] W fun e w' => ∃q c,e=.returned (.tuple #[.slice q 2 c,.int .i64 0])/\MaskD (fun b=>b<w'.heap.size) 7 w' (.slice q 2 c) Ma.lA/\Bel W w':=by
 refine(mk_Parse _ _ _ Ma.sA [77] [98,46,97,44,97] W hs hM (by decide)).mono fun e w' h=>?_
 obtain⟨v,rfl,hd,k⟩:=h;have hp:parse (envOf Ma.sA) (qa7 Ma.sA) (([98,46,97,44,97]:List UInt8).length+2) [77] [98,46,97,44,97]=(0,Ma.lA):=parse_A;rw [hp]at hd ⊢;obtain⟨q,c,rfl⟩:=hd.form;exact⟨q,c,rfl,hd.weak (fun b _ hb=>hb),k⟩
theorem qmb (p q:Option Addr) (c:Nat) (W:World) (A:Nat->Prop) (hs:VSchema W [.slice p 1 1,.slice none 0 0,.slice none 0 0] Ma.sA) (hm:MaskD A 7 W (.slice q 2 c) Ma.lA):Calls Tryz.prog 15 #[.agg #[.slice p 1 1,.slice none 0 0,.slice none 0 0],.string ⟨#[77]⟩,.slice q 2 c] W fun e w'=>e=.returned (.string ⟨#[97,44,98,46,97]⟩)/\Bel W w':=by
 refine(mk_Text 6 A _ _ _ Ma.sA [77] _ Ma.lA W hs hm (by rw [textN_A];decide) (fun m hm f hf=>?_) (by decide) (by rw [textN_A];decide)).mono fun e w' h=>?_
 ·have:m=Ma.mA:=List.mem_singleton.1 hm
  subst this
  have hf2:f=Ma.fA1 ∨ f=Ma.fA2:=by
   rcases List.mem_cons.1 hf with h|h
   ·exact .inl h
   ·exact .inr (List.mem_singleton.1 h)
  rcases hf2 with rfl|rfl <;> decide
 ·rw [text_A]at h
  exact h
theorem value_A {A:Nat->Prop} {W:World} {b:Nat} {t:TypeId} (hA:A b) (h:W.heap[b]? = some (.cells #[.int .i64 1,.int .i64 2,.int .u64 0,.string ⟨#[]⟩,.slice none 0 0,.slice none 0 0,.slice none 0 0,.slice none 0 0] t (0,0))):ValC A 2 W ⟨10,0,[],none,0,0,none,0,0,some ⟨b,0,none⟩,1,1,none,0,0⟩ vA:=by
 refine⟨rfl,⟨some ⟨b,0,none⟩,1,rfl,by decide,by decide,fun i x hx=>?_⟩,SlA.nil _ _ _ _ _ _⟩
 have hi:i=0:=by
  have:=(List.getElem?_eq_some_iff.1 hx).1
  simpa using this
 subst hi;have hxe:(1,CV.scalar 2 0 [])=x:=by simpa using hx
 subst hxe;refine⟨b,0,_,rfl,(Array.getElem?_eq_some_iff.1 h).1,hA,fun j v hv=>?_,⟨2,0,[],none,0,0,none,0,0,none,0,0,none,0,0⟩,rfl,rfl,by decide,by decide,by decide,rfl,by decide,by decide,rfl⟩;rw [Lib.cell_of_heap h];simp only [Nat.zero_mul,Nat.zero_add];rw [List.getElem?_toArray];exact hv
theorem qn6 (q:Option Addr) (c b:Nat) (W:World) (t:TypeId) (hm:MaskD (fun b=>b<W.heap.size) 7 W (.slice q 2 c) Ma.lA) (h:W.heap[b]? = some (.cells #[.int .i64 1,.int .i64 2,.int .u64 0,.string ⟨#[]⟩,.slice none 0 0,.slice none 0 0,.slice none 0 0,.slice none 0 0] t (0,0))):Calls Tryz.prog 33 #[.agg #[.int .i64 10,.int .u64 0,.string ⟨#[]⟩,.slice none 0 0,.slice none 0 0,.slice (some ⟨b,0,none⟩) 1 1,.slice none 0 0],.slice q 2 c] W fun e w' => ∃d:VC,e=.returned (.agg #[.int .i64 d.k,.int .u64 d.b,.string (S d.t),.slice d.p1 d.n1 d.c1,.slice d.p2 d.n2 d.c2,.slice d.p3 1 d.c3,.slice d.p4 d.n4 d.c4])/\Bel W w':=by
 have hb:=(Array.getElem?_eq_some_iff.1 h).1;refine(mk_Keep 2 _ 7 _ vA _ Ma.lA W (fun b hb=>hb) (value_A hb h) hm wdV_A).mono fun e w' h=>?_
 rw [keep_A]at h;obtain⟨d,rfl,hd,k⟩:=h;obtain⟨_,_,he,_⟩:=hd.2.1
 have hn:d.n3=1:=by
  injection he with _ h2 _
 refine⟨d,?_,k⟩;rw [←hn];rfl
theorem qni (q:Option Addr) (c b:Nat) (W:World) (t:TypeId) (hm:MaskD (fun b=>b<W.heap.size) 7 W (.slice q 2 c) Ma.lA) (h:W.heap[b]? = some (.cells #[.int .i64 1,.int .i64 2,.int .u64 0,.string ⟨#[]⟩,.slice none 0 0,.slice none 0 0,.slice none 0 0,.slice none 0 0] t (0,0))):Calls Tryz.prog 34 #[.agg #[.int .i64 10,.int .u64 0,.string ⟨#[]⟩,.slice none 0 0,.slice none 0 0,.slice (some ⟨b,0,none⟩) 1 1,.slice none 0 0],.slice q 2 c] W fun e w' => ∃d:VC,e=.returned (.agg #[.int .i64 d.k,.int .u64 d.b,.string (S d.t),.slice d.p1 d.n1 d.c1,.slice d.p2 d.n2 d.c2,.slice d.p3 0 d.c3,.slice d.p4 d.n4 d.c4])/\Bel W w':=by
 have hb:=(Array.getElem?_eq_some_iff.1 h).1;refine(mk_Drop 2 _ 7 _ vA _ Ma.lA W (fun b hb=>hb) (value_A hb h) hm wdV_A).mono fun e w' h=>?_
 rw [drop_A]at h;obtain⟨d,rfl,hd,k⟩:=h;obtain⟨_,_,he,_⟩:=hd.2.1
 have hn:d.n3=0:=by
  injection he with _ h2 _
 refine⟨d,?_,k⟩;rw [←hn];rfl
end
section
open Go.RowKit Ck Ma
theorem qn2 (w:World) (hM:ML w):Calls Tryz.prog 11 #[] w fun e w'=>e=.returned (.bool true)/\Bel w w':=by
 have CP:=Lib.hid (fun W (k:Bel w W) p hs=>qkw p W hs (hM.below k));clear hM
 go_enter Tryz.func11,Tryz.ntmps11
 go_upto_region 2 with(fail)
 have H1:=Lib.hid ((ST.start w).addbox fC1 65);unfold fC1 at H1;generalize hW1:World.alloc w _=W1 at H1 ⊢;have hs1:W1.heap.size=w.heap.size+1:=by rw [←hW1];simp
 clear hW1
 go_upto_region 3 with(fail)
 have H2:=Lib.hid (H1.out.addbox fC2 65);unfold fC2 at H2;have hs2:(World.alloc W1 (.cells fC2 65)).heap.size=w.heap.size+2:=by simp [hs1]
 unfold fC2 at hs2;rw [hs1]at H2;generalize hW2:World.alloc W1 _=W2 at H2 hs2 ⊢;clear hW2 hs1 H1 W1;have HB1:=Lib.hid (show W2.heap[w.heap.size]? = some (.cells fC1 65 (0,0))from H2.out.box 1 rfl);have HB2:=Lib.hid (show W2.heap[w.heap.size+1]? = some (.cells fC2 65 (0,0))from H2.out.box 0 rfl);have Z1:=Lib.hid (show(Tryz.prog.info? 65).map (·.size)=some fC1.size by kernel_rfl);have Z2:=Lib.hid (show(Tryz.prog.info? 65).map (·.size)=some fC2.size by kernel_rfl);have hz1:fC1.size=16:=rfl;have hz2:fC2.size=16:=rfl
 go_upto_region 4 with(first
  | (refine qa5 rfl 65 _ rfl w.heap.size fC1 65 rfl HB1.out _ Tryz.underlying65 rfl Z1.out ?_)
  | (refine qa5 rfl 65 _ rfl (w.heap.size+1) fC2 65 rfl HB2.out _ Tryz.underlying65 rfl Z2.out ?_))
 generalize hX:Array.foldl _ _ fC2.zipIdx 0 _=X;have hXf:X=fC1 ++ fC2:=by rw [←hX];kernel_rfl
 clear hX;subst hXf
 all_goals (first|(exfalso;assumption)|skip)
 have H3:=Lib.hid (((H2.out.addbox (fC1 ++ fC2) 65).addbox #[.string ⟨#[77]⟩,.slice (some ⟨w.heap.size+2,0,none⟩) 2 2,.slice none 0 0,.slice none 0 0,.slice none 0 0] 57).addbox #[.slice (some ⟨w.heap.size+3,0,none⟩) 1 1,.slice none 0 0,.slice none 0 0] 26);simp only [World.size_alloc,hs2,Nat.add_assoc,Nat.reduceAdd]at H3;have hs3:(World.alloc (World.alloc (World.alloc W2 (.cells (fC1 ++ fC2) 65)) (.cells #[.string ⟨#[77]⟩,.slice (some ⟨w.heap.size+2,0,none⟩) 2 2,.slice none 0 0,.slice none 0 0,.slice none 0 0] 57)) (.cells #[.slice (some ⟨w.heap.size+3,0,none⟩) 1 1,.slice none 0 0,.slice none 0 0] 26)).heap.size=w.heap.size+5:=by simp [hs2]
 generalize hW3:World.alloc (World.alloc (World.alloc W2 _) _) _=W3 at H3 hs3 ⊢;clear hW3 hs2 HB1 HB2 Z1 Z2 hz1 hz2 H2 W2;have SC:=Lib.hid (fun W (k:Bel W3 W)=>qm3 (W:=W) (b:=w.heap.size+2) (c:=w.heap.size+3) (qca k (H3.out.box 2 rfl)) (qca k (H3.out.box 1 rfl)));have c0:=H3.out.cell 0 rfl 0;have c1:=H3.out.cell 0 rfl 1;have c2:=H3.out.cell 0 rfl 2;dsimp only at c0 c1 c2
 go_upto_region 5 with(go_at_call 12;(with_reducible refine(CP.out _ H3.out.bel _ (SC.out _ (Bel.refl _))).mono ?_);rintro e w4 ⟨q,c,rfl,d4,k4⟩;have k4:Bel _ w4:=k4;have H4:=Lib.hid (H3.out.belw k4);have K4:=Lib.hid k4;have D4:=Lib.hid d4;clear k4 d4 c0 c1 c2 CP)
 go_upto_region 6 with(fail)
 have hs5:(World.alloc w4 (.cells #[.int .i64 1,.int .i64 2,.int .u64 0,.string ⟨#[]⟩,.slice none 0 0,.slice none 0 0,.slice none 0 0,.slice none 0 0] 73)).heap.size=w4.heap.size+1:=by simp
 have H5:=Lib.hid ((H4.out.addbox #[.int .i64 1,.int .i64 2,.int .u64 0,.string ⟨#[]⟩,.slice none 0 0,.slice none 0 0,.slice none 0 0,.slice none 0 0] 73).addbox #[.int .i64 10,.int .u64 0,.string ⟨#[]⟩,.slice none 0 0,.slice none 0 0,.slice (some ⟨w4.heap.size,0,none⟩) 1 1,.slice none 0 0] 46);rw [hs5]at H5;have D5:=Lib.hid ((D4.out.bel ((Bel.refl _).alloc (.cells #[.int .i64 1,.int .i64 2,.int .u64 0,.string ⟨#[]⟩,.slice none 0 0,.slice none 0 0,.slice none 0 0,.slice none 0 0] 73))).bel ((Bel.refl _).alloc (.cells #[.int .i64 10,.int .u64 0,.string ⟨#[]⟩,.slice none 0 0,.slice none 0 0,.slice (some ⟨w4.heap.size,0,none⟩) 1 1,.slice none 0 0] 46)));have K5:=Lib.hid (Bel.of K4.out (((Bel.refl w4).alloc (.cells #[.int .i64 1,.int .i64 2,.int .u64 0,.string ⟨#[]⟩,.slice none 0 0,.slice none 0 0,.slice none 0 0,.slice none 0 0] 73)).alloc (.cells #[.int .i64 10,.int .u64 0,.string ⟨#[]⟩,.slice none 0 0,.slice none 0 0,.slice (some ⟨w4.heap.size,0,none⟩) 1 1,.slice none 0 0] 46)));generalize hW5:World.alloc (World.alloc w4 _) _=W5 at H5 D5 K5 ⊢;clear hW5 hs5 hs3 D4 K4 H4 H3;obtain⟨G,hG⟩ : ∃G,G=w4.heap.size:=⟨_,rfl⟩;rw [←hG]at H5 ⊢;have HSL:=Lib.hid (fun W (k:Bel W5 W)=>show W.heap[G]? = some (.cells #[.int .i64 1,.int .i64 2,.int .u64 0,.string ⟨#[]⟩,.slice none 0 0,.slice none 0 0,.slice none 0 0,.slice none 0 0] 73 (0,0))from qca k (H5.out.box 1 rfl));have CT:=Lib.hid (fun W (k:Bel W5 W)=>qmb _ q c W _ (SC.out W (Bel.of K5.out k)) (D5.out.bel k));have CK:=Lib.hid (fun W (k:Bel W5 W)=>qn6 q c G W _ ((D5.out.bel k).weak (fun b _ hb=>hb)) (HSL.out W k));have CD:=Lib.hid (fun W (k:Bel W5 W)=>qni q c G W _ ((D5.out.bel k).weak (fun b _ hb=>hb)) (HSL.out W k));clear D5 K5 SC HSL hG;have c0:=H5.out.cell 2 rfl 0;have c1:=H5.out.cell 2 rfl 1;have c2:=H5.out.cell 2 rfl 2;dsimp only at c0 c1 c2
 go_wp2_with (first
  | (go_at_call 15;(with_reducible refine(CT.out _ (Bel.refl _)).mono ?_);rintro e w6 ⟨rfl,k6⟩;have k6:Bel _ w6:=k6;have K6:=Lib.hid k6;have H6:=Lib.hid (H5.out.belw k6);clear k6 c0 c1 c2 CT;have y0:=H6.out.cell 0 rfl 0;have y1:=H6.out.cell 0 rfl 1;have y2:=H6.out.cell 0 rfl 2;have y3:=H6.out.cell 0 rfl 3;have y4:=H6.out.cell 0 rfl 4;have y5:=H6.out.cell 0 rfl 5;have y6:=H6.out.cell 0 rfl 6;dsimp only at y0 y1 y2 y3 y4 y5 y6)
  | (go_at_call 33;(with_reducible refine(CK.out _ K6.out).mono ?_);rintro e w7 ⟨d7,rfl,k7⟩;have k7:Bel _ w7:=k7;have f7 : ∀W,Sem.run Tryz.prog (Instr.field 46 (.agg #[.int .i64 d7.k,.int .u64 d7.b,.string (S d7.t),.slice d7.p1 d7.n1 d7.c1,.slice d7.p2 d7.n2 d7.c2,.slice d7.p3 1 d7.c3,.slice d7.p4 d7.n4 d7.c4]) 5) W=.ok (.slice d7.p3 1 d7.c3) W:=(fun W=>by kernel_rfl);have K7:=Lib.hid (Bel.of K6.out k7);have H7:=Lib.hid (H6.out.belw k7);clear k7 y0 y1 y2 y3 y4 y5 y6 CK;have y0:=H7.out.cell 0 rfl 0;have y1:=H7.out.cell 0 rfl 1;have y2:=H7.out.cell 0 rfl 2;have y3:=H7.out.cell 0 rfl 3;have y4:=H7.out.cell 0 rfl 4;have y5:=H7.out.cell 0 rfl 5;have y6:=H7.out.cell 0 rfl 6;dsimp only at y0 y1 y2 y3 y4 y5 y6)
  | (go_at_call 34;(with_reducible refine(CD.out _ K7.out).mono ?_);rintro e w8 ⟨d8,rfl,k8⟩;have k8:Bel _ w8:=k8;have f8 : ∀W,Sem.run Tryz.prog (Instr.field 46 (.agg #[.int .i64 d8.k,.int .u64 d8.b,.string (S d8.t),.slice d8.p1 d8.n1 d8.c1,.slice d8.p2 d8.n2 d8.c2,.slice d8.p3 0 d8.c3,.slice d8.p4 d8.n4 d8.c4]) 5) W=.ok (.slice d8.p3 0 d8.c3) W:=(fun W=>by kernel_rfl);have H8:=Lib.hid (H7.out.belw k8)))
 go_ret;exact⟨by simp,H8.out.bel⟩
end
end Go.Proofs.YtaaneecceiefoaaGreatDoor
