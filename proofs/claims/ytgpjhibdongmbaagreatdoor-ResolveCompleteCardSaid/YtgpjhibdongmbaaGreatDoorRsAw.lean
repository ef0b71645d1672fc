import Derived.Test.YtgpjhibdongmbaaGreatDoorRsRes11
import Derived.Test.YtgpjhibdongmbaaGreatDoorRsRes12
set_option maxRecDepth 100000
set_option maxHeartbeats 4000000
set_option linter.unusedVariables false
set_option linter.unusedSimpArgs false
namespace Go.Proofs.YtgpjhibdongmbaaGreatDoor
section
open Go.RowKit Ck Rs
def oA:POp:=⟨1,[97],[],2,0,4, -1, -1⟩
def oB:POp:=⟨1,[97],[],2,0,5, -1, -1⟩
def oC:POp:=⟨5,[98],[],1,0,5, -1, -1⟩
def pW:PPlan:=⟨[⟨[77],[oA],0⟩],[]⟩
def pR:PPlan:=⟨[⟨[77],[oB,oC],0⟩],[]⟩
def xA:PAct:=⟨1,3, -1⟩
def dA:PAdapt:=⟨0,0,[xA],[5]⟩
theorem chk_W:check pW=0:=by kernel_rfl
theorem chk_R:check pR=0:=by kernel_rfl
theorem qjd (g:PProg) (h1:g.name.length<=300) (h2:g.ops.length<=400) (h3 : ∀o ∈ g.ops,o.name.length<=300/\o.ali.length<=300):SmallP ⟨[g],[]⟩:=
 ⟨by show(1:Nat)<=60;decide,by show(0:Nat)<=60;decide,fun g' hg'=>by rw [List.mem_singleton.1 hg'];exact⟨h1,h2,h3⟩,fun e he=>by cases he⟩
theorem gd_A:Gd pW pR:=⟨qj7 chk_W,qj7 chk_R,qjd _ (by decide) (by decide) (by decide),qjd _ (by decide) (by decide) (by decide)⟩
theorem make_A:makeR pW pR [77]=([dA],0):=by kernel_rfl
theorem make_N:makeR pW pR [78]=([],10):=by kernel_rfl
theorem check_A:qg1 pW pR [dA]=0:=by kernel_rfl
theorem exact_A:qmj [dA]=false:=by decide
theorem action_A:qih dA 1=(xA,true):=by decide
theorem find_A:findV [(0,0)] 0 0 0=.tuple #[.int .i64 0,.bool true]:=by rfl
theorem qkr (n:Nat) (h:n<10):Lib.itoa (n:Int)=Lib.decDigits n:=by
 unfold Lib.itoa;rw [if_neg (by omega)];simp
def tA:Str:=[77,32,45,62,32,77,10,32,32,49,32,116,117,114,110,10,32,32,108,97,99,107,115,32,53,10]
theorem text_A:textR pW pR [dA]=tA:=by
 have h1:Lib.itoa 1=[49]:=by
  have:=qkr 1 (by decide);rw [show((1:Nat):Int)=1 from rfl]at this;rw [this,Lib.decDigits];rfl
 have h5:Lib.itoa 5=[53]:=by
  have:=qkr 5 (by decide);rw [show((5:Nat):Int)=5 from rfl]at this;rw [this,Lib.decDigits];rfl
 unfold textR adT dA;simp only [List.flatMap_cons,List.flatMap_nil,actT,lackT,xA,h1,h5,subT];rfl
theorem rng_A:inRng [dA]:=fun d hd=>by
 rw [List.mem_singleton.1 hd];refine⟨fun x hx=>?_,fun n hn=>?_⟩
 ·rw [List.mem_singleton.1 hx];unfold inI xA;decide
 ·rw [List.mem_singleton.1 hn];unfold inI;decide
section
variable {W WW : World}
theorem sv_one {α:Type} {V:World->List Value->α->Prop} {n b:Nat} {x:α} {cs:List Value} {t:TypeId} (hV:V W cs x) (h:W.heap[b]? = some (.cells cs.toArray t (0,0))):Sv n V W (.slice (some ⟨b,0,none⟩) 1 1) [x]:=by
 refine⟨some ⟨b,0,none⟩,1,rfl,by show(1:Nat)<=140737488355328;decide,by show(1:Nat)<=1;decide,fun i y hy=>?_⟩
 have hi:i=0:=by
  have:=(List.getElem?_eq_some_iff.1 hy).1;have h1:[x].length=1:=rfl;omega
 subst hi;obtain rfl:x=y:=Option.some.inj hy;refine⟨b,0,rfl,(Array.getElem?_eq_some_iff.1 h).1,cs,fun j v hv=>?_,hV⟩;rw [Lib.cell_of_heap h,Nat.zero_mul,Nat.zero_add]
 simpa using hv
theorem sv_two {α:Type} {V:World->List Value->α->Prop} {n b:Nat} {x y:α} {cs ds:List Value} {t:TypeId} (hn:cs.length=n) (hV:V W cs x) (hV2:V W ds y) (h:W.heap[b]? = some (.cells (cs ++ ds).toArray t (0,0))):Sv n V W (.slice (some ⟨b,0,none⟩) 2 2) [x,y]:=by
 refine⟨some ⟨b,0,none⟩,2,rfl,by show(2:Nat)<=140737488355328;decide,by show(2:Nat)<=2;decide,fun i z hz=>?_⟩
 have hi:i=0 ∨ i=1:=by
  have:=(List.getElem?_eq_some_iff.1 hz).1;have h1:[x,y].length=2:=rfl;omega
 rcases hi with rfl|rfl
 ·obtain rfl:x=z:=Option.some.inj hz
  refine⟨b,0,rfl,(Array.getElem?_eq_some_iff.1 h).1,cs,fun j v hv=>?_,hV⟩;rw [Lib.cell_of_heap h,Nat.zero_mul,Nat.zero_add];have hj:=(List.getElem?_eq_some_iff.1 hv).1;simp only [List.getElem?_toArray];rw [List.getElem?_append_left hj,hv]
 ·obtain rfl:y=z:=Option.some.inj hz
  refine⟨b,0,rfl,(Array.getElem?_eq_some_iff.1 h).1,ds,fun j v hv=>?_,hV2⟩;rw [Lib.cell_of_heap h];simp only [List.getElem?_toArray];rw [List.getElem?_append_right (by omega), ←hv]
  congr 1
  rw [hn];omega
theorem pairs_of {v:Value} {l:List PAdapt} (h:Sv 4 VAdapt W v l):Sv 4 VPair W v (l.map fun d=>(d.w,d.r)):=by
 obtain⟨q,c,rfl,hl,hc,hel⟩:=h;refine⟨q,c,by rw [List.length_map],by rw [List.length_map];exact hl,by rw [List.length_map];exact hc,fun i y hy=>?_⟩;rw [List.getElem?_map]at hy;obtain⟨d,hd,rfl⟩:=Option.map_eq_some_iff.1 hy;obtain⟨b,off,hq,hb,vs,hce,hvs⟩:=hel i d hd;obtain⟨aq,lq,ac,lc,rfl,_,_,_,_⟩:=hvs.form;exact⟨b,off,hq,hb,_,hce,aq,lq,_,_,ac,lc,rfl⟩
theorem lies_A {v:Value} (h:Sv 4 VAdapt W v [dA]) : ∃lb lo lc ab ao ac kb ko kc,v=.slice (some ⟨lb,lo,none⟩) 1 lc/\VAdapt W [.int .i64 0,.int .i64 0,.slice (some ⟨ab,ao,none⟩) 1 ac,.slice (some ⟨kb,ko,none⟩) 1 kc] dA/\∀WW,Bel W WW->(WW.cell? ⟨lb,lo,none⟩=some (.int .i64 0)/\WW.cell? ⟨lb,lo+1,none⟩=some (.int .i64 0)/\WW.cell? ⟨lb,lo+2,none⟩=some (.slice (some ⟨ab,ao,none⟩) 1 ac)/\WW.cell? ⟨lb,lo+3,none⟩=some (.slice (some ⟨kb,ko,none⟩) 1 kc)/\WW.cell? ⟨ab,ao,none⟩=some (.int .i64 1)/\WW.cell? ⟨ab,ao+1,none⟩=some (.int .i64 3)/\WW.cell? ⟨ab,ao+2,none⟩=some (.int .i64 (-1))/\WW.cell? ⟨kb,ko,none⟩=some (.int .i64 5)):=by
 obtain⟨q,c,rfl,hl,hc,hel⟩:=h;obtain⟨b,off,rfl,hb,vs,hce,hvs⟩:=hel 0 dA rfl;have hvs0:=hvs;obtain⟨aq,lq,ac,lc,rfl,ha,hk,_,_⟩:=hvs.form;obtain⟨q1,n1,e1,_,_,hel1⟩:=ha;obtain⟨q2,n2,e2,_,_,hel2⟩:=hk;cases e1;cases e2;obtain⟨ab,ao,rfl,_,va,hca,hva⟩:=hel1 0 xA rfl;obtain⟨kb,ko,rfl,_,vk,hck,hvk⟩:=hel2 0 5 rfl;obtain rfl:va=[.int .i64 1,.int .i64 3,.int .i64 (-1)]:=hva;obtain rfl:vk=[.int .i64 5]:=hvk;refine⟨b,off,c,ab,ao,ac,kb,ko,lc,rfl,hvs0,fun WW k=>⟨?_,?_,?_,?_,?_,?_,?_,?_⟩⟩
 ·have:=k.some (hce 0 _ rfl);rw [Nat.zero_mul,Nat.add_zero]at this;exact this
 ·have:=k.some (hce 1 _ rfl);rw [Nat.zero_mul,Nat.add_zero]at this;exact this
 ·have:=k.some (hce 2 _ rfl);rw [Nat.zero_mul,Nat.add_zero]at this;exact this
 ·have:=k.some (hce 3 _ rfl);rw [Nat.zero_mul,Nat.add_zero]at this;exact this
 ·have:=k.some (hca 0 _ rfl);rw [Nat.zero_mul,Nat.add_zero]at this;exact this
 ·have:=k.some (hca 1 _ rfl);rw [Nat.zero_mul,Nat.add_zero]at this;exact this
 ·have:=k.some (hca 2 _ rfl);rw [Nat.zero_mul,Nat.add_zero]at this;exact this
 ·have:=k.some (hck 0 _ rfl);rw [Nat.zero_mul,Nat.add_zero]at this;exact this
end
end
section
open Go.RowKit Ck Rs
theorem pl_A {w W:World} (T:ST w [] [⟨w.heap.size+1+1+1+1+1+1+1+1,#[.slice (some ⟨w.heap.size+1+1+1+1+1+1+1,0,none⟩) 1 1,.slice none 0 0],25⟩,⟨w.heap.size+1+1+1+1+1+1+1,#[.string ⟨#[77]⟩,.slice (some ⟨w.heap.size+1+1+1+1+1+1,0,none⟩) 2 2,.int .i64 0],52⟩,⟨w.heap.size+1+1+1+1+1+1,#[.int .i64 1,.string ⟨#[97]⟩,.string ⟨#[]⟩,.int .i64 2,.int .i64 0,.int .i64 5,.int .i64 (-1),.int .i64 (-1),.int .i64 5,.string ⟨#[98]⟩,.string ⟨#[]⟩,.int .i64 1,.int .i64 0,.int .i64 5,.int .i64 (-1),.int .i64 (-1)],54⟩,⟨w.heap.size+1+1+1+1+1,#[.slice (some ⟨w.heap.size+1+1+1+1,0,none⟩) 1 1,.slice none 0 0],25⟩,⟨w.heap.size+1+1+1+1,#[.string ⟨#[77]⟩,.slice (some ⟨w.heap.size+1+1+1,0,none⟩) 1 1,.int .i64 0],52⟩,⟨w.heap.size+1+1+1,#[.int .i64 1,.string ⟨#[97]⟩,.string ⟨#[]⟩,.int .i64 2,.int .i64 0,.int .i64 4,.int .i64 (-1),.int .i64 (-1)],54⟩,⟨w.heap.size+1+1,#[.int .i64 5,.string ⟨#[98]⟩,.string ⟨#[]⟩,.int .i64 1,.int .i64 0,.int .i64 5,.int .i64 (-1),.int .i64 (-1)],54⟩,⟨w.heap.size+1,#[.int .i64 1,.string ⟨#[97]⟩,.string ⟨#[]⟩,.int .i64 2,.int .i64 0,.int .i64 5,.int .i64 (-1),.int .i64 (-1)],54⟩,⟨w.heap.size,#[.int .i64 1,.string ⟨#[97]⟩,.string ⟨#[]⟩,.int .i64 2,.int .i64 0,.int .i64 4,.int .i64 (-1),.int .i64 (-1)],54⟩] W):Pl pW pR (some ⟨w.heap.size+1+1+1+1,0,none⟩) none (some ⟨w.heap.size+1+1+1+1+1+1+1,0,none⟩) none 1 0 1 0 W:=by
 have h3:=T.box 5 rfl;have h4:=T.box 4 rfl;have h6:=T.box 2 rfl;have h7:=T.box 1 rfl;exact⟨sv_one (cs:=[.string ⟨#[77]⟩,.slice (some ⟨w.heap.size+1+1+1,0,none⟩) 1 1,.int .i64 0]) ⟨_,rfl,sv_one (cs:=opC oA) rfl h3⟩ h4,Sl.nil _ _ _ _ _,sv_one (cs:=[.string ⟨#[77]⟩,.slice (some ⟨w.heap.size+1+1+1+1+1+1,0,none⟩) 2 2,.int .i64 0]) ⟨_,rfl,sv_two (cs:=opC oB) (ds:=opC oC) rfl rfl rfl h6⟩ h7,Sl.nil _ _ _ _ _⟩
theorem qhn (w:World) (hP:PT w) (hM:ML w) (hT:Tab w):Calls Tryz.prog 10 #[] w fun e w'=>e=.returned (.bool true)/\Bel w w':=by
 have hS0:=((((((((((ST.start w).addbox #[.int .i64 1,.string ⟨#[97]⟩,.string ⟨#[]⟩,.int .i64 2,.int .i64 0,.int .i64 4,.int .i64 (-1),.int .i64 (-1)] 54).addbox #[.int .i64 1,.string ⟨#[97]⟩,.string ⟨#[]⟩,.int .i64 2,.int .i64 0,.int .i64 5,.int .i64 (-1),.int .i64 (-1)] 54).addbox #[.int .i64 5,.string ⟨#[98]⟩,.string ⟨#[]⟩,.int .i64 1,.int .i64 0,.int .i64 5,.int .i64 (-1),.int .i64 (-1)] 54).addbox #[.int .i64 1,.string ⟨#[97]⟩,.string ⟨#[]⟩,.int .i64 2,.int .i64 0,.int .i64 4,.int .i64 (-1),.int .i64 (-1)] 54).addbox #[.string ⟨#[77]⟩,.slice (some ⟨w.heap.size+1+1+1,0,none⟩) 1 1,.int .i64 0] 52).addbox #[.slice (some ⟨w.heap.size+1+1+1+1,0,none⟩) 1 1,.slice none 0 0] 25).addbox #[.int .i64 1,.string ⟨#[97]⟩,.string ⟨#[]⟩,.int .i64 2,.int .i64 0,.int .i64 5,.int .i64 (-1),.int .i64 (-1),.int .i64 5,.string ⟨#[98]⟩,.string ⟨#[]⟩,.int .i64 1,.int .i64 0,.int .i64 5,.int .i64 (-1),.int .i64 (-1)] 54).addbox #[.string ⟨#[77]⟩,.slice (some ⟨w.heap.size+1+1+1+1+1+1,0,none⟩) 2 2,.int .i64 0] 52).addbox #[.slice (some ⟨w.heap.size+1+1+1+1+1+1+1,0,none⟩) 1 1,.slice none 0 0] 25);simp only [World.size_alloc]at hS0;have HS:=Lib.hid hS0;clear hS0
 go_enter Tryz.func10,Tryz.ntmps10
 go_upto_region 6 with(fail)
 generalize hW9:World.alloc _ _=W9;have T9:=Lib.hid (show ST w [] [⟨w.heap.size+1+1+1+1+1+1+1+1,#[.slice (some ⟨w.heap.size+1+1+1+1+1+1+1,0,none⟩) 1 1,.slice none 0 0],25⟩,⟨w.heap.size+1+1+1+1+1+1+1,#[.string ⟨#[77]⟩,.slice (some ⟨w.heap.size+1+1+1+1+1+1,0,none⟩) 2 2,.int .i64 0],52⟩,⟨w.heap.size+1+1+1+1+1+1,#[.int .i64 1,.string ⟨#[97]⟩,.string ⟨#[]⟩,.int .i64 2,.int .i64 0,.int .i64 5,.int .i64 (-1),.int .i64 (-1),.int .i64 5,.string ⟨#[98]⟩,.string ⟨#[]⟩,.int .i64 1,.int .i64 0,.int .i64 5,.int .i64 (-1),.int .i64 (-1)],54⟩,⟨w.heap.size+1+1+1+1+1,#[.slice (some ⟨w.heap.size+1+1+1+1,0,none⟩) 1 1,.slice none 0 0],25⟩,⟨w.heap.size+1+1+1+1,#[.string ⟨#[77]⟩,.slice (some ⟨w.heap.size+1+1+1,0,none⟩) 1 1,.int .i64 0],52⟩,⟨w.heap.size+1+1+1,#[.int .i64 1,.string ⟨#[97]⟩,.string ⟨#[]⟩,.int .i64 2,.int .i64 0,.int .i64 4,.int .i64 (-1),.int .i64 (-1)],54⟩,⟨w.heap.size+1+1,#[.int .i64 5,.string ⟨#[98]⟩,.string ⟨#[]⟩,.int .i64 1,.int .i64 0,.int .i64 5,.int .i64 (-1),.int .i64 (-1)],54⟩,⟨w.heap.size+1,#[.int .i64 1,.string ⟨#[97]⟩,.string ⟨#[]⟩,.int .i64 2,.int .i64 0,.int .i64 5,.int .i64 (-1),.int .i64 (-1)],54⟩,⟨w.heap.size,#[.int .i64 1,.string ⟨#[97]⟩,.string ⟨#[]⟩,.int .i64 2,.int .i64 0,.int .i64 4,.int .i64 (-1),.int .i64 (-1)],54⟩] W9 from hW9 ▸ HS.out);clear hW9 HS;have K9:=Lib.hid (fun WW (k:Bel W9 WW)=>show WW.cell? ⟨w.heap.size+1+1+1+1+1,0,none⟩=some (.slice (some ⟨w.heap.size+1+1+1+1,0,none⟩) 1 1)/\WW.cell? ⟨w.heap.size+1+1+1+1+1,1,none⟩=some (.slice none 0 0)/\WW.cell? ⟨w.heap.size+1+1+1+1+1+1+1+1,0,none⟩=some (.slice (some ⟨w.heap.size+1+1+1+1+1+1+1,0,none⟩) 1 1)/\WW.cell? ⟨w.heap.size+1+1+1+1+1+1+1+1,1,none⟩=some (.slice none 0 0)from⟨(T9.out.belw k).cell 3 rfl 0,(T9.out.belw k).cell 3 rfl 1,(T9.out.belw k).cell 0 rfl 0,(T9.out.belw k).cell 0 rfl 1⟩);have C1:=Lib.hid (fun WW (k:Bel W9 WW)=>show Calls Tryz.prog 11 #[.agg #[.slice (some ⟨w.heap.size+1+1+1+1,0,none⟩) 1 1,.slice none 0 0],.agg #[.slice (some ⟨w.heap.size+1+1+1+1+1+1+1,0,none⟩) 1 1,.slice none 0 0],.string ⟨#[77]⟩] WW (qe0 WW ([dA],0))from make_A ▸ qjl pW pR _ none _ none 1 0 1 0 [77] WW (pl_A (T9.out.belw k)) gd_A (hM.below (Bel.of T9.out.bel k)) (hT.below (Bel.of T9.out.bel k)));have C2:=Lib.hid (fun WW (k:Bel W9 WW)=>show Calls Tryz.prog 11 #[.agg #[.slice (some ⟨w.heap.size+1+1+1+1,0,none⟩) 1 1,.slice none 0 0],.agg #[.slice (some ⟨w.heap.size+1+1+1+1+1+1+1,0,none⟩) 1 1,.slice none 0 0],.string ⟨#[78]⟩] WW (qe0 WW ([],10))from make_N ▸ qjl pW pR _ none _ none 1 0 1 0 [78] WW (pl_A (T9.out.belw k)) gd_A (hM.below (Bel.of T9.out.bel k)) (hT.below (Bel.of T9.out.bel k)));have C3:=Lib.hid (fun WW (v:Value) (k:Bel W9 WW) (h:Sv 4 VAdapt WW v [dA])=>show Calls Tryz.prog 21 #[.agg #[.slice (some ⟨w.heap.size+1+1+1+1,0,none⟩) 1 1,.slice none 0 0],.agg #[.slice (some ⟨w.heap.size+1+1+1+1+1+1+1,0,none⟩) 1 1,.slice none 0 0],v] WW fun e' w'=>e'=.returned (.int .i64 0)/\Bel WW w' from check_A ▸ qga pW pR _ none _ none 1 0 1 0 v [dA] WW (pl_A (T9.out.belw k)) gd_A (hM.below (Bel.of T9.out.bel k)) (hT.below (Bel.of T9.out.bel k)) h);have C4:=Lib.hid (fun WW (k:Bel W9 WW)=>show Calls Tryz.prog 21 #[.agg #[.slice (some ⟨w.heap.size+1+1+1+1,0,none⟩) 1 1,.slice none 0 0],.agg #[.slice (some ⟨w.heap.size+1+1+1+1+1+1+1,0,none⟩) 1 1,.slice none 0 0],.slice none 0 0] WW fun e' w'=>e'=.returned (.int .i64 10)/\Bel WW w' from qga pW pR _ none _ none 1 0 1 0 _ [] WW (pl_A (T9.out.belw k)) gd_A (hM.below (Bel.of T9.out.bel k)) (hT.below (Bel.of T9.out.bel k)) (Sl.nil _ _ _ _ _));have C5:=Lib.hid (fun WW (v:Value) (k:Bel W9 WW) (h:Sv 4 VAdapt WW v [dA])=>show Calls Tryz.prog 23 #[.agg #[.slice (some ⟨w.heap.size+1+1+1+1,0,none⟩) 1 1,.slice none 0 0],.agg #[.slice (some ⟨w.heap.size+1+1+1+1+1+1+1,0,none⟩) 1 1,.slice none 0 0],v] WW fun e' w'=>e'=.returned (.string (S tA))/\Bel WW w' from text_A ▸ rs_Text pW pR _ none _ none 1 0 1 0 v [dA] WW (pl_A (T9.out.belw k)) (hP.bel (Bel.of T9.out.bel k)) h rng_A (by rw [text_A];decide));have C6:=Lib.hid (fun WW=>show Calls Tryz.prog 17 #[.slice none 0 0] WW fun e' w'=>e'=.returned (.bool true)/\Bel WW w' from qjm _ [] WW (Sl.nil _ _ _ _ _));have C7:=Lib.hid (fun WW (v:Value) (h:Sv 4 VAdapt WW v [dA])=>show Calls Tryz.prog 17 #[v] WW fun e' w'=>e'=.returned (.bool false)/\Bel WW w' from exact_A ▸ qjm v [dA] WW h);have C8:=Lib.hid (fun WW (v:Value) (h:Sv 4 VAdapt WW v [dA])=>show Calls Tryz.prog 15 #[v,.int .i64 0,.int .i64 0] WW fun e' w'=>e'=.returned (.tuple #[.int .i64 0,.bool true])/\Bel WW w' from find_A ▸ rs_Find v [(0,0)] 0 0 WW (pairs_of h));have C9:=Lib.hid (fun WW (vs:List Value) (h:VAdapt WW vs dA)=>show Calls Tryz.prog 19 #[.agg vs.toArray,.int .i64 1] WW fun e' w'=>e'=.returned (.tuple #[.agg #[.int .i64 1,.int .i64 3,.int .i64 (-1)],.bool true])/\Bel WW w' from(show actV (qih dA 1)=.tuple #[.agg #[.int .i64 1,.int .i64 3,.int .i64 (-1)],.bool true]by rw [action_A];rfl) ▸ qlr dA vs 1 WW h);unfold qe0 at C1 C2;clear hP hM hT;have z0:=K9.out W9 (Bel.refl _);obtain⟨z0a,z0b,z0c,z0d⟩:=z0
 go_upto_region 7 with(go_at_call 11;(with_reducible refine(C1.out _ (Bel.refl _)).mono ?_);rintro e w1 ⟨v,rfl,hv,k1⟩;have k1:Bel W9 w1:=k1;obtain⟨lb,lo,lc,ab,ao,ac,kx,ko,kc,rfl,hvd,hf⟩:=lies_A hv;have HV:=Lib.hid hv;have HVD:=Lib.hid hvd;have HF:=Lib.hid hf;have KW:=Lib.hid k1;clear hv hvd hf k1;have z1:=K9.out w1 (Bel.of KW.out (Bel.refl _));obtain⟨z1a,z1b,z1c,z1d⟩:=z1;have y1:=HF.out w1 (Bel.refl _);obtain⟨y1a,y1b,y1c,y1d,y1e,y1f,y1g,y1h⟩:=y1)
 go_upto_region 8 with(go_at_call 11;(with_reducible refine(C2.out _ KW.out).mono ?_);rintro e w2 ⟨v2,rfl,hv2,k2⟩;have k2:Bel w1 w2:=k2;clear hv2;have z2:=K9.out w2 (Bel.of KW.out k2);obtain⟨z2a,z2b,z2c,z2d⟩:=z2;have y2:=HF.out w2 k2;obtain⟨y2a,y2b,y2c,y2d,y2e,y2f,y2g,y2h⟩:=y2)
 go_upto_region 11 with(go_at_call 17;(with_reducible refine(C7.out _ _ (HV.out.bel VAdapt.stays k2)).mono ?_);rintro e w3 ⟨rfl,k3⟩;have k3:Bel w1 w3:=Bel.of k2 k3;have z3:=K9.out w3 (Bel.of KW.out k3);obtain⟨z3a,z3b,z3c,z3d⟩:=z3;have y3:=HF.out w3 k3;obtain⟨y3a,y3b,y3c,y3d,y3e,y3f,y3g,y3h⟩:=y3)
 generalize hWa:World.alloc w3 _=Wa;have TA:=Lib.hid (show ST w3 [] [⟨w3.heap.size,#[.int .i64 1,.int .i64 3,.int .i64 (-1)],38⟩] Wa from hWa ▸ (ST.start w3).addbox _ _);have ka:Bel w1 Wa:=Bel.of k3 TA.out.bel;generalize w3.heap.size=ga at TA ⊢;clear hWa k2 k3 C1 C2 C7;have z4:=K9.out Wa (Bel.of KW.out ka);obtain⟨z4a,z4b,z4c,z4d⟩:=z4;have y4:=HF.out Wa ka;obtain⟨y4a,y4b,y4c,y4d,y4e,y4f,y4g,y4h⟩:=y4
 go_upto_region 12 with(go_at_call 15;(with_reducible refine(C8.out _ _ (HV.out.bel VAdapt.stays ka)).mono ?_);rintro e w4 ⟨rfl,k4⟩;have k4:Bel Wa w4:=k4;have k14:Bel w1 w4:=Bel.of ka k4;have z5:=K9.out w4 (Bel.of KW.out k14);obtain⟨z5a,z5b,z5c,z5d⟩:=z5;have y5:=HF.out w4 k14;obtain⟨y5a,y5b,y5c,y5d,y5e,y5f,y5g,y5h⟩:=y5)
 go_upto_region 13 with(go_at_call 19;have hv4:=VAdapt.stays _ _ _ _ k14 HVD.out;(with_reducible refine(C9.out _ [.int .i64 0,.int .i64 0,.slice (some ⟨ab,ao,none⟩) 1 ac,.slice (some ⟨kx,ko,none⟩) 1 kc] hv4).mono ?_);rintro e w5 ⟨rfl,k5⟩;have k5:Bel Wa w5:=Bel.of k4 k5)
 generalize hWb:World.alloc w5 _=Wb;have TB:=Lib.hid (show ST w5 [] [⟨w5.heap.size,#[.int .i64 1,.int .i64 3,.int .i64 (-1)],38⟩] Wb from hWb ▸ (ST.start w5).addbox _ _);have kb:Bel Wa Wb:=Bel.of k5 TB.out.bel;generalize w5.heap.size=gb at TB ⊢;clear hWb k4 k5 k14 C8 C9;have KK:=Lib.hid (fun WW (k:Bel Wb WW)=>show(WW.cell? ⟨w.heap.size+1+1+1+1+1,0,none⟩=some (.slice (some ⟨w.heap.size+1+1+1+1,0,none⟩) 1 1)/\WW.cell? ⟨w.heap.size+1+1+1+1+1,1,none⟩=some (.slice none 0 0)/\WW.cell? ⟨w.heap.size+1+1+1+1+1+1+1+1,0,none⟩=some (.slice (some ⟨w.heap.size+1+1+1+1+1+1+1,0,none⟩) 1 1)/\WW.cell? ⟨w.heap.size+1+1+1+1+1+1+1+1,1,none⟩=some (.slice none 0 0))/\(WW.cell? ⟨lb,lo,none⟩=some (.int .i64 0)/\WW.cell? ⟨lb,lo+3,none⟩=some (.slice (some ⟨kx,ko,none⟩) 1 kc)/\WW.cell? ⟨kx,ko,none⟩=some (.int .i64 5))/\(WW.cell? ⟨ga,0,none⟩=some (.int .i64 1)/\WW.cell? ⟨ga,1,none⟩=some (.int .i64 3)/\WW.cell? ⟨ga,2,none⟩=some (.int .i64 (-1)))/\WW.cell? ⟨gb,1,none⟩=some (.int .i64 3)from⟨K9.out _ (Bel.of (Bel.of KW.out ka) (Bel.of kb k)),(have y:=HF.out _ (Bel.of ka (Bel.of kb k));⟨y.1,y.2.2.2.1,y.2.2.2.2.2.2.2⟩),⟨(TA.out.belw (Bel.of kb k)).cell 0 rfl 0,(TA.out.belw (Bel.of kb k)).cell 0 rfl 1,(TA.out.belw (Bel.of kb k)).cell 0 rfl 2⟩,(TB.out.belw k).cell 0 rfl 1⟩);have KA:=Lib.hid (Bel.of ka kb);have KZ:=Lib.hid (Bel.of KW.out (Bel.of ka kb));have K0:=Lib.hid T9.out.bel;clear ka kb TA TB K9 HF HVD T9 KW;obtain⟨⟨z0a,z0b,z0c,z0d⟩,⟨y0a,y0b,y0c⟩,⟨x0a,x0b,x0c⟩,u0⟩:=KK.out Wb (Bel.refl _)
 go_wp2_with (first
  | (go_at_call 21;(with_reducible refine(C3.out _ _ KZ.out (HV.out.bel VAdapt.stays KA.out)).mono ?_);rintro e w6 ⟨rfl,j6⟩;have j6:Bel Wb w6:=j6;obtain⟨⟨z6a,z6b,z6c,z6d⟩,⟨y6a,y6b,y6c⟩,⟨x6a,x6b,x6c⟩,u6⟩:=KK.out w6 j6)
  | (go_at_call 21;have m6:=Bel.of KZ.out j6;(with_reducible refine(C4.out _ m6).mono ?_);rintro e w7 ⟨rfl,j7⟩;have j7:Bel Wb w7:=Bel.of j6 j7;obtain⟨⟨z7a,z7b,z7c,z7d⟩,⟨y7a,y7b,y7c⟩,⟨x7a,x7b,x7c⟩,u7⟩:=KK.out w7 j7)
  | (go_at_call 17;(with_reducible refine(C6.out _).mono ?_);rintro e w8 ⟨rfl,j8⟩;have j8:Bel Wb w8:=Bel.of j7 j8;obtain⟨⟨z8a,z8b,z8c,z8d⟩,⟨y8a,y8b,y8c⟩,⟨x8a,x8b,x8c⟩,u8⟩:=KK.out w8 j8)
  | (go_at_call 23;have m8:=Bel.of KZ.out j8;have hv8:=HV.out.bel VAdapt.stays (Bel.of KA.out j8);(with_reducible refine(C5.out _ _ m8 hv8).mono ?_);rintro e w9 ⟨rfl,j9⟩;have j9:Bel Wb w9:=Bel.of j8 j9;obtain⟨⟨z9a,z9b,z9c,z9d⟩,⟨y9a,y9b,y9c⟩,⟨x9a,x9b,x9c⟩,u9⟩:=KK.out w9 j9))
 go_ret;exact⟨qa3 (by rw [ByteArray.toList_eq,qc2];unfold tA;decide),Bel.of K0.out (Bel.of KZ.out j9)⟩
end
end Go.Proofs.YtgpjhibdongmbaaGreatDoor
