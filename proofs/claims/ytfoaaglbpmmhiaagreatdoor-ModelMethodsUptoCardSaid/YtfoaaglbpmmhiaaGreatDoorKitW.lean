import Derived.Test.YtfoaaglbpmmhiaaGreatDoorMdChoice
import Derived.Deep.Upon
import Derived.Deep.AppendLies
import Derived.Test.YtfoaaglbpmmhiaaGreatDoorMdAwake
set_option maxRecDepth 100000
set_option maxHeartbeats 4000000
set_option linter.unusedVariables false
set_option linter.unusedSimpArgs false
namespace Go.Proofs.YtfoaaglbpmmhiaaGreatDoor
open Go.RowKit Ck Md
theorem wpl_app_zero {ops:Array Oper} {rest:List Oper} {o:Oper} {a:Act} {w:World} {Q:Exit->Act->World->Prop} (hgd:o.guard=none) (s x:Operand)
  (ho:o.op=.call { callee:=.builtin .append,args:=#[s,x],argTypes:=#[45,45] }) (p q:Option Addr) (n cap c:Nat) (hs:a.eval s=.slice p n cap) (hn:n<=cap) (hx:a.eval x=.slice q 0 c)
  (h:wpList Tryz.prog ops Q rest (a.put o.dst (.slice p n cap)) w):wpList Tryz.prog ops Q (o :: rest) a w:=by
 obtain ⟨i0,hi,hz0,hz1,hz2⟩:=info_parts mem_info
 have hsrc:Src Tryz.prog i0.size 45 (.slice q 0 c) 0 [] w:=by
  cases q with
  | none => exact Src.ofNil w Tryz.underlying45 c
  | some ad => exact Src.ofSlice w Tryz.underlying45 ad 0 c [] (by simp) (fun j u h => by simp at h) (fun u h => by cases h)
 have hr:=run_append_nothing w 45 45 o.type 80 i0 Tryz.underlying45 hi p n cap hn _ hsrc;refine wpList_plain hgd fun _ hK => ?_
 unfold Oper.wp execOp;simp only [ho,resolve,invoke,builtin,Sem.run_bind,Sem.run_pure,Result.andThen_ok,List.map_toArray,List.map_cons,List.map_nil,hs,hx,hr];exact hK _ _ h
def declV (d:PDecl) (mv:Value):Value:=.agg #[.int .i64 d.kind,.string (S d.name),.string (S d.frm),mv]
def CopyOut (w:World) (d:PDecl) (e:Ending) (w':World):Prop := ∃ (p:Option Addr) (c:Nat),e=.returned (declV d (.slice p d.mems.length c))/\Mems w' (.slice p d.mems.length c) d.mems/\Bel w w'/\∀ a,p=some a->w.heap.size<=a.block
theorem mems_cells (l:List PMem) : ∀ u ∈ l.flatMap memC,u.oneCell'=true:=by
 intro u hu;rw [List.mem_flatMap] at hu;obtain ⟨p,_,hp⟩:=hu;unfold memC at hp;simp only [List.mem_cons,List.not_mem_nil,or_false] at hp;rcases hp with rfl | rfl | rfl <;> rfl
theorem flat_at : ∀ (l:List PMem) (j:Nat) (u:Value),(l.flatMap memC)[j]? = some u->∃ m,l[j / 3]? = some m/\(memC m)[j % 3]? = some u
 | [],j,u,h => by simp at h
 | m :: l,j,u,h => by
  rw [List.flatMap_cons] at h;rcases Nat.lt_or_ge j 3 with hj | hj
  ·rw [List.getElem?_append_left (by simpa [memC] using hj)] at h
   refine ⟨m,?_,by rwa [Nat.mod_eq_of_lt hj]⟩;rw [Nat.div_eq_of_lt hj];rfl
  ·rw [List.getElem?_append_right (by simpa [memC] using hj)] at h
   obtain ⟨x,h1,h2⟩:=flat_at l (j - 3) u h;refine ⟨x,?_,?_⟩
   ·rw [show j / 3=(j - 3) / 3 + 1 by omega]
    simpa using h1
   ·rwa [show j % 3=(j - 3) % 3 by omega]
theorem flat_len3 : ∀ l:List PMem,(l.flatMap memC).length=l.length * 3
 | [] => rfl
 | m :: l => by rw [List.flatMap_cons,List.length_append,flat_len3 l,List.length_cons];simp [memC];omega
theorem set4 {w1:World} {g:Nat} {t:TypeId} {c0 c1 c2 c3:Value} (hg:w1.heap[g]? = some (.cells #[c0,c1,c2,c3] t (0,0))) (v0 v1 v2 v3:Value) :
  ((((w1.setCell ⟨g,0,none⟩ v0).setCell ⟨g,1,none⟩ v1).setCell ⟨g,2,none⟩ v2).setCell ⟨g,3,none⟩ v3).heap[g]? = some (.cells #[v0,v1,v2,v3] t (0,0)):=by
 have h0:=heap_setCell_same w1 g 0 _ t v0 hg;rw [show (#[c0,c1,c2,c3]:Array Value).setIfInBounds 0 v0=#[v0,c1,c2,c3] from rfl] at h0;have h1:=heap_setCell_same _ g 1 _ t v1 h0;rw [show (#[v0,c1,c2,c3]:Array Value).setIfInBounds 1 v1=#[v0,v1,c2,c3] from rfl] at h1;have h2:=heap_setCell_same _ g 2 _ t v2 h1;rw [show (#[v0,v1,c2,c3]:Array Value).setIfInBounds 2 v2=#[v0,v1,v2,c3] from rfl] at h2;exact heap_setCell_same _ g 3 _ t v3 h2
def FindOut (w:World) (OD:Option PDecl) (e:Ending) (w':World):Prop := ∃ (p:Option Addr) (c:Nat),e=.returned (.tuple #[declV (OD.getD zeroD) (.slice p (OD.getD zeroD).mems.length c),.bool OD.isSome])/\Mems w' (.slice p (OD.getD zeroD).mems.length c) (OD.getD zeroD).mems/\Bel w w'
theorem find_drop {α:Type} (P:α->Bool) (l:List α) (k:Nat) (h:k < l.length):(l.drop k).find? P=if P l[k]=true then some l[k] else (l.drop (k + 1)).find? P:=by
 rw [List.drop_eq_getElem_cons h,List.find?_cons];cases P l[k] <;> rfl
theorem mems_set {w:World} {v:Value} {l:List PMem} (h:Mems w v l) (g o:Nat) (u:Value) (hg : ∀ (p:Addr) n c,v=.slice (some p) n c->p.block ≠ g):Mems (w.setCell ⟨g,o,none⟩ u) v l:=by
 obtain ⟨q,c,rfl,hl,hc,hel⟩:=h;refine ⟨q,c,rfl,hl,hc,fun i x hx => ?_⟩;obtain ⟨b,off,rfl,hb,vs,hce,hvs⟩:=hel i x hx;refine ⟨b,off,rfl,by simpa [World.setCell] using hb,vs,fun j y hy => ?_,hvs⟩;have:=hce j y hy;rw [← this];exact World.cell?_of_block (Below.heap_setCell _ _ _ _ (hg ⟨b,off,none⟩ _ _ rfl))
theorem mems_row {w:World} {B:Nat} {g c:Nat} {l:List PMem} (h:w.ownsRow B 80 3 (.slice (some ⟨g,0,none⟩) l.length c) l.length (l.flatMap memC)) (hl:l.length<=140737488355328):Mems w (.slice (some ⟨g,0,none⟩) l.length c) l:=
 sv_of_own memC (fun _ => rfl) h hl (fun x _ => rfl)
theorem wpl_copy {ops:Array Oper} {rest:List Oper} {o:Oper} {a:Act} {w:World} {Q:Exit->Act->World->Prop} (hgd:o.guard=none) (s x:Operand)
  (ho:o.op=.call { callee:=.builtin .append,args:=#[s,x],argTypes:=#[45,45] }) (B g0 cap0:Nat) (hs:a.eval s=.slice (some ⟨g0,0,none⟩) 0 cap0)
  (hown:w.ownsRow B 80 3 (.slice (some ⟨g0,0,none⟩) 0 cap0) 0 []) (q:Option Addr) (c:Nat) (l:List PMem) (hx:a.eval x=.slice q l.length c) (hm:Mems w (.slice q l.length c) l) (hl:l.length<=3518437208883) (hB:B<=w.heap.size)
  (h : ∀ g cap w',w'.ownsRow B 80 3 (.slice (some ⟨g,0,none⟩) l.length cap) l.length (l.flatMap memC)->w.grownBy w' (Value.slice (some ⟨g0,0,none⟩) 0 cap0).ownBlock->((Value.slice (some ⟨g0,0,none⟩) 0 cap0).ownBlock=some g ∨ g=w.heap.size)->wpList Tryz.prog ops Q rest (a.put o.dst (.slice (some ⟨g,0,none⟩) l.length cap)) w'):wpList Tryz.prog ops Q (o :: rest) a w:=by
 obtain ⟨i0,hi,hz0,hz1,hz2⟩:=info_parts mem_info;cases l with
 | nil => exact wpl_app_zero hgd s x ho (some ⟨g0,0,none⟩) q 0 cap0 c hs (Nat.zero_le _) hx (h g0 cap0 w hown ⟨rfl,rfl,rfl,Nat.le_refl _,fun k _ _ => rfl⟩ (.inl rfl))
 | cons m0 ms =>
  obtain ⟨q2,c2,hq,_,hcap,hel⟩:=hm;cases hq;obtain ⟨b,off,hq,hb,_,_,_⟩:=hel 0 m0 rfl;subst hq;refine wpList_append_lies w hgd s x 45 ho B 80 i0 (.agg #[.string ByteArray.empty,.string ByteArray.empty,.int .i64 0]) 3 40 Tryz.underlying45 hi hz0 hz1 hz2 rfl (by decide) _ 0 [] hs hown ⟨b,off,none⟩ (m0 :: ms).length c ((m0 :: ms).flatMap memC) hx (flat_len3 _) ?_ (mems_cells _) (by simp) (by unfold maxLen;omega) (by omega) hB w.heap.size rfl ?_
  ·intro j u hu
   obtain ⟨m,h1,h2⟩:=flat_at _ _ _ hu;obtain ⟨b2,off2,hq,hb2,vs,hce,hvs⟩:=hel (j / 3) m h1;cases hq;have hvs':vs=memC m:=hvs;subst hvs';have:=hce (j % 3) u h2;rw [Addr.add_lit];rwa [show off + j / 3 * 3 + j % 3=off + j by omega] at this
  ·intro g cap w' h1 h2 h3 h4
   rw [Nat.zero_add] at h1 ⊢;rw [List.nil_append] at h1;exact h g cap w' h1 h2 h3
theorem md_copied (d:PDecl) (q:Option Addr) (c:Nat) (w:World) (hm:Mems w (.slice q d.mems.length c) d.mems) (hl:d.mems.length<=3518437208883) :
  Calls Tryz.prog 56 #[declV d (.slice q d.mems.length c)] w (CopyOut w d):=by
 have hms:=Lib.hid hm;clear hm;unfold declV;obtain ⟨W2,hW2⟩ : ∃ W2,W2=(w.alloc (.cells #[.int .i64 d.kind,.string (S d.name),.string (S d.frm),.slice q d.mems.length c] 47)).alloc (.cells #[.int .i64 0,.string ⟨#[]⟩,.string ⟨#[]⟩,.slice none 0 0] 47):=⟨_,rfl⟩
 have S2:ST w [] [⟨w.heap.size + 1,#[.int .i64 0,.string ⟨#[]⟩,.string ⟨#[]⟩,.slice none 0 0],47⟩,⟨w.heap.size,#[.int .i64 d.kind,.string (S d.name),.string (S d.frm),.slice q d.mems.length c],47⟩] W2:=by
  have:=((ST.start w).addbox #[.int .i64 d.kind,.string (S d.name),.string (S d.frm),.slice q d.mems.length c] 47).addbox #[.int .i64 0,.string ⟨#[]⟩,.string ⟨#[]⟩,.slice none 0 0] 47;rw [World.size_alloc] at this;rw [hW2];exact this
 have HW2:=Lib.hid hW2;have S3:=Lib.hid (S2.addrow ((Bel.refl W2).alloc (.cells #[] 80)) (World.ownsRow_lit (e:=80) (size:=3) W2 #[] 0 (Nat.le_refl _) (by unfold maxLen;omega) rfl));have hst:=S3.out.bel.size;have ea:=Lib.hid (fun o => S3.out.cell 1 rfl o);have e0:(W2.alloc (.cells #[] 80)).cell? ⟨w.heap.size,3,none⟩=some (.slice q d.mems.length c):=ea.out 3;have hw2:w.heap.size + 1 < W2.heap.size:=(S2.boxlt 0 rfl).2;clear S2 hW2 ea
 go_enter Tryz.func56,Tryz.ntmps56
 go_upto_region 1 with (fail)
 rw [← HW2.out]
 go_upto_region 2 with (at_builtin;refine wpl_copy rfl _ _ rfl w.heap.size _ _ rfl (S3.out.row 0 rfl) q c d.mems rfl (hms.out.bel VMem.stays S3.out.bel) hl S3.out.bel.size ?_;intro g cap w4 hown hgrow hfr;have S4:=Lib.hid (S3.out.grow 0 rfl hgrow hown (fr_own hfr (Nat.le_refl _)));have e3:w4.cell? ⟨w.heap.size,3,none⟩=some (.slice q d.mems.length c):=S4.out.cell 1 rfl 3;have z3:w4.frozen? ⟨w.heap.size,3,none⟩=false:=S4.out.frz 1 rfl 3)
 have S5:=S4.out.setbox 1 rfl 3 (.slice (some ⟨g,0,none⟩) d.mems.length cap);generalize w4.setCell ⟨w.heap.size,3,none⟩ (.slice (some ⟨g,0,none⟩) d.mems.length cap)=w5 at S5 ⊢;have c0:w5.cell? ⟨w.heap.size,0,none⟩=some (.int .i64 d.kind):=S5.cell 1 rfl 0;have c1:w5.cell? ⟨w.heap.size,1,none⟩=some (.string (S d.name)):=S5.cell 1 rfl 1;have c2:w5.cell? ⟨w.heap.size,2,none⟩=some (.string (S d.frm)):=S5.cell 1 rfl 2;have c3:w5.cell? ⟨w.heap.size,3,none⟩=some (.slice (some ⟨g,0,none⟩) d.mems.length cap):=S5.cell 1 rfl 3;have d0:w5.cell? ⟨w.heap.size + 1,0,none⟩=some (.int .i64 0):=S5.cell 0 rfl 0;have d1:w5.cell? ⟨w.heap.size + 1,1,none⟩=some (.string ⟨#[]⟩):=S5.cell 0 rfl 1;have d2:w5.cell? ⟨w.heap.size + 1,2,none⟩=some (.string ⟨#[]⟩):=S5.cell 0 rfl 2;have d3:w5.cell? ⟨w.heap.size + 1,3,none⟩=some (.slice none 0 0):=S5.cell 0 rfl 3;have z0 : ∀ o,w5.frozen? ⟨w.heap.size + 1,o,none⟩=false:=fun o => S5.frz 0 rfl o
 have S6:=S5.setbox 0 rfl 0 (.int .i64 d.kind);have S7:=S6.setbox 0 rfl 1 (.string (S d.name));have S8:=S7.setbox 0 rfl 2 (.string (S d.frm));have S9:=Lib.hid (S8.setbox 0 rfl 3 (.slice (some ⟨g,0,none⟩) d.mems.length cap));clear S5 S6 S7 S8 S4 S3 e3 z3 hown hgrow hfr e0 hms
 go_wp2
 refine bodyPost_ret (v:=declV d (.slice (some ⟨g,0,none⟩) d.mems.length cap)) ?hres rfl ?hpost
 case hres => exact results_cell_row rfl _ _ _ _ _ _ _ rfl (S9.out.box 0 rfl) Tryz.underlying47 rfl (by kernel_rfl)
 case hpost => exact ⟨some ⟨g,0,none⟩,cap,rfl,mems_row (S9.out.row 0 rfl) (by omega),S9.out.bel,fun a ha => by cases ha;exact ((S9.out.row 0 rfl).lt g rfl).1⟩
theorem md_Of (v:Value) (l:List PDecl) (n:Str) (w:World) (hv:Decls w v l) (hL : ∀ d ∈ l,d.mems.length<=3518437208883) :
  Calls Tryz.prog 22 #[v,.string (S n)] w (FindOut w (ofD l n)):=by
 obtain ⟨q,c,rfl,hl,hcap,hel⟩:=hv;have V:=Lib.hid (show (l.drop 0).find? (fun d => decide (d.frm=n))=ofD l n from rfl);generalize ofD l n=OD at V;have EL:=Lib.hid hel;have HL:=Lib.hid hL;clear hel hL;have hb0:=Lib.hid (heap_alloc_new w (.cells #[.int .i64 0,.string ⟨#[]⟩,.string ⟨#[]⟩,.slice none 0 0] 47));have kw:=Lib.hid (show Bel w (w.alloc (.cells #[.int .i64 0,.string ⟨#[]⟩,.string ⟨#[]⟩,.slice none 0 0] 47)) from (Bel.refl w).alloc _)
 go_enter Tryz.func22,Tryz.ntmps22
 go_wp2
 go_loopw [10] (fun i wr => ∃ k:Nat,k<=l.length/\i=.int .i64 k/\Bel (w.alloc (.cells #[.int .i64 0,.string ⟨#[]⟩,.string ⟨#[]⟩,.slice none 0 0] 47)) wr/\Hid ((l.drop k).find? (fun d => decide (d.frm=n))=OD)) (fun i _ => l.length - (intOf i).toNat)
 case atStart => exact ⟨0,by omega,rfl,Bel.refl _,V⟩
 case round =>
  obtain ⟨k,hk,rfl,hbw,hx⟩:=hrel;have kr:Bel w wr:=Bel.of kw.out hbw.out;have hlw:w.heap.size < wr.heap.size:=by have:=hbw.size;simp at this;omega
  by_cases hlt:k < l.length
  ·have hki:(k:Int) < (l.length:Int):=by omega
   have hg:=List.getElem?_eq_getElem hlt;have hml:=HL.out _ (List.getElem_mem hlt);obtain ⟨b,off,rfl,hbs,vs,hce,hvs⟩:=EL.out k _ hg;obtain ⟨mv,hvs1,hmv⟩:=hvs;subst hvs1;have hst:=hx.out;rw [find_drop _ _ _ hlt] at hst;have hms:=Lib.hid hmv;obtain ⟨qm,cm,rfl,_,_,_⟩:=hmv;have e0:=kr.some (hce 0 _ rfl);rw [Nat.add_zero] at e0;have e1:=kr.some (hce 1 _ rfl);have e2:=kr.some (hce 2 _ rfl);have e3:=kr.some (hce 3 _ rfl);have hbl:b < w.heap.size:=hbs;clear hx hg hce;generalize l[k]=d at *;by_cases he:d.frm=n
   ·rw [if_pos (by simpa using he)] at hst
    have HT:=Lib.hid hst;have hcmp:((S d.frm).toList == (S n).toList)=true:=by rw [ByteArray.toList_eq,ByteArray.toList_eq,S_list,S_list,he];simp
    have kb:Bel wr (wr.alloc (.cells #[.int .i64 d.kind,.string (S d.name),.string (S d.frm),.slice qm d.mems.length cm] 47)):=(Bel.refl wr).alloc _;have CC:=Lib.hid (md_copied d qm cm (wr.alloc (.cells #[.int .i64 d.kind,.string (S d.name),.string (S d.frm),.slice qm d.mems.length cm] 47)) (hms.out.bel VMem.stays (Bel.of kr kb.out)) hml);unfold declV at CC;clear hst he
    go_wp2_with (go_at_call 56;(with_reducible refine CC.out.mono ?_);rintro e w2 ⟨p2,c2,he2,m2,k2,f2⟩;unfold declV at he2;subst he2;have hb2:=block_of_below (Bel.of hbw (Bel.of kb k2.out).out).out hb0.out;have x0:w2.cell? ⟨w.heap.size,0,none⟩=some (.int .i64 0):=Lib.cell_of_heap hb2 0;have x1:w2.cell? ⟨w.heap.size,1,none⟩=some (.string ⟨#[]⟩):=Lib.cell_of_heap hb2 1;have x2:w2.cell? ⟨w.heap.size,2,none⟩=some (.string ⟨#[]⟩):=Lib.cell_of_heap hb2 2;have x3:w2.cell? ⟨w.heap.size,3,none⟩=some (.slice none 0 0):=Lib.cell_of_heap hb2 3;have fz : ∀ o,w2.frozen? ⟨w.heap.size,o,none⟩=false:=fun o => Lib.frozen_of_heap hb2 o;have kk2:Bel w w2:=Bel.of kr (Bel.of kb k2.out).out)
    refine bodyPost_ret (v:=.tuple #[declV d (.slice p2 d.mems.length c2),.bool true]) ?hres rfl ?hpost
    case hres => exact res_row rfl rfl rfl (set4 hb2 _ _ _ _) Tryz.underlying47 rfl (by kernel_rfl)
    case hpost =>
     rw [← HT.out]
     have hne : ∀ (p:Addr) n c,Value.slice p2 d.mems.length c2=.slice (some p) n c->p.block ≠ w.heap.size:=fun p n c he => by
      injection he with h1 h2 h3
      have:=f2 p h1;rw [World.size_alloc] at this;omega
     have kf:Bel w _:=bel_set (bel_set (bel_set (bel_set kk2 (Nat.le_refl _) (o:=0) (v:=.int .i64 d.kind)) (Nat.le_refl _) (o:=1) (v:=.string (S d.name))) (Nat.le_refl _) (o:=2) (v:=.string (S d.frm))) (Nat.le_refl _) (o:=3) (v:=.slice p2 d.mems.length c2);exact ⟨p2,c2,rfl,mems_set (mems_set (mems_set (mems_set m2 _ _ _ hne) _ _ _ hne) _ _ _ hne) _ _ _ hne,kf⟩
   ·rw [if_neg (by simpa using he)] at hst
    have HT:=Lib.hid hst;have hcmp:((S d.frm).toList == (S n).toList)=false:=by rw [ByteArray.toList_eq,ByteArray.toList_eq,S_list,S_list];simpa using he
    clear hst he
    go_wp2
    go_roundw
    case rel => exact ⟨k + 1,by omega,by go_num,hbw.alloc _,HT⟩
    case measure => simp [intOf];omega
  ·have hxe:OD=none:=by rw [← hx.out,List.drop_eq_nil_of_le (by omega)];rfl
   have HT:=Lib.hid hxe;have hb2:=block_of_below hbw.out hb0.out;have x0:wr.cell? ⟨w.heap.size,0,none⟩=some (.int .i64 0):=Lib.cell_of_heap hb2 0;have x1:wr.cell? ⟨w.heap.size,1,none⟩=some (.string ⟨#[]⟩):=Lib.cell_of_heap hb2 1;have x2:wr.cell? ⟨w.heap.size,2,none⟩=some (.string ⟨#[]⟩):=Lib.cell_of_heap hb2 2;have x3:wr.cell? ⟨w.heap.size,3,none⟩=some (.slice none 0 0):=Lib.cell_of_heap hb2 3;have fz : ∀ o,wr.frozen? ⟨w.heap.size,o,none⟩=false:=fun o => Lib.frozen_of_heap hb2 o
   clear hxe hx
   go_wp2
   refine bodyPost_ret (v:=.tuple #[declV zeroD (.slice none 0 0),.bool false]) ?hres rfl ?hpost
   case hres => exact res_row rfl rfl rfl (set4 hb2 _ _ _ _) Tryz.underlying47 rfl (by kernel_rfl)
   case hpost =>
    rw [HT.out];have kf:Bel w _:=bel_set (bel_set (bel_set (bel_set kr (Nat.le_refl _) (o:=0) (v:=.int .i64 0)) (Nat.le_refl _) (o:=1) (v:=.string ⟨#[]⟩)) (Nat.le_refl _) (o:=2) (v:=.string ⟨#[]⟩)) (Nat.le_refl _) (o:=3) (v:=.slice none 0 0);exact ⟨none,0,rfl,Sl.nil _ _ _ _ _,kf⟩
end Go.Proofs.YtfoaaglbpmmhiaaGreatDoor
namespace Go.Proofs.YtfoaaglbpmmhiaaGreatDoor
open Go.RowKit Ck Md
theorem rd_Of (v:Value) (l:List PDecl) (n:Str) (w:World) (hv:Decls w v l) :
  Calls Tryz.prog 32 #[v,.string (S n)] w (FindOut w (ofD l n)):=by
 obtain ⟨q,c,rfl,hl,hcap,hel⟩:=hv;have V:=Lib.hid (show (l.drop 0).find? (fun d => decide (d.frm=n))=ofD l n from rfl);generalize ofD l n=OD at V;have EL:=Lib.hid hel;clear hel;have hb0:=heap_alloc_new w (.cells #[.int .i64 0,.string ⟨#[]⟩,.string ⟨#[]⟩,.slice none 0 0] 47);have kw:Bel w (w.alloc (.cells #[.int .i64 0,.string ⟨#[]⟩,.string ⟨#[]⟩,.slice none 0 0] 47)):=(Bel.refl w).alloc _
 go_enter Tryz.func32,Tryz.ntmps32
 go_wp2
 go_loop [6] (fun i => ∃ k:Nat,k<=l.length/\i=.int .i64 k/\Hid ((l.drop k).find? (fun d => decide (d.frm=n))=OD)) (fun i => l.length - (intOf i).toNat)
 case atStart => exact ⟨0,by omega,rfl,V⟩
 case round =>
  obtain ⟨k,hk,rfl,hx⟩:=hrel;by_cases hlt:k < l.length
  ·have hki:(k:Int) < (l.length:Int):=by omega
   have hg:=List.getElem?_eq_getElem hlt;obtain ⟨b,off,rfl,hbs,vs,hce,hvs⟩:=EL.out k _ hg;obtain ⟨mv,hvs1,hmv⟩:=hvs;subst hvs1;have hst:=hx.out;rw [find_drop _ _ _ hlt] at hst;have hms:=Lib.hid hmv;obtain ⟨qm,cm,rfl,_,_,_⟩:=hmv;have e0:=kw.some (hce 0 _ rfl);rw [Nat.add_zero] at e0;have e1:=kw.some (hce 1 _ rfl);have e2:=kw.some (hce 2 _ rfl);have e3:=kw.some (hce 3 _ rfl);have e0w:=hce 0 _ rfl;rw [Nat.add_zero] at e0w;have e1w:=hce 1 _ rfl;have e2w:=hce 2 _ rfl;have e3w:=hce 3 _ rfl;clear hx hg hce;generalize l[k]=d at *;by_cases he:d.frm=n
   ·rw [if_pos (by simpa using he)] at hst
    have HT:=Lib.hid hst;have hcmp:((S d.frm).toList == (S n).toList)=true:=by rw [ByteArray.toList_eq,ByteArray.toList_eq,S_list,S_list,he];simp
    clear hst he
    go_wp2
    refine bodyPost_ret (v:=.tuple #[declV d (.slice qm d.mems.length cm),.bool true]) ?hres rfl ?hpost
    case hres => exact res_row rfl rfl rfl (heap_alloc_new w _) Tryz.underlying47 rfl (by kernel_rfl)
    case hpost =>
     rw [← HT.out];have kf:Bel w _:=(Bel.refl w).alloc (.cells #[.int .i64 d.kind,.string (S d.name),.string (S d.frm),.slice qm d.mems.length cm] 47);exact ⟨qm,cm,rfl,hms.out.bel VMem.stays kf,kf⟩
   ·rw [if_neg (by simpa using he)] at hst
    have HT:=Lib.hid hst;have hcmp:((S d.frm).toList == (S n).toList)=false:=by rw [ByteArray.toList_eq,ByteArray.toList_eq,S_list,S_list];simpa using he
    clear hst he
    go_wp2
    go_round
    case rel => exact ⟨k + 1,by omega,by go_num,HT⟩
    case measure => simp [intOf];omega
  ·have hxe:OD=none:=by rw [← hx.out,List.drop_eq_nil_of_le (by omega)];rfl
   have HT:=Lib.hid hxe;clear hxe hx
   go_wp2
   refine bodyPost_ret (v:=.tuple #[declV zeroD (.slice none 0 0),.bool false]) ?hres rfl ?hpost
   case hres => exact res_row rfl rfl rfl (heap_alloc_new w _) Tryz.underlying47 rfl (by kernel_rfl)
   case hpost =>
    rw [HT.out];have kf:Bel w _:=(Bel.refl w).alloc (.cells #[.int .i64 0,.string ⟨#[]⟩,.string ⟨#[]⟩,.slice none 0 0] 47);exact ⟨none,0,rfl,Sl.nil _ _ _ _ _,kf⟩
end Go.Proofs.YtfoaaglbpmmhiaaGreatDoor
namespace Go.Proofs.YtfoaaglbpmmhiaaGreatDoor
open Go.RowKit Ck Md
end Go.Proofs.YtfoaaglbpmmhiaaGreatDoor
namespace Go.Proofs.YtfoaaglbpmmhiaaGreatDoor
open Go.RowKit Ck Md
end Go.Proofs.YtfoaaglbpmmhiaaGreatDoor
namespace Go.Proofs.YtfoaaglbpmmhiaaGreatDoor
open Go.RowKit Ck Md
end Go.Proofs.YtfoaaglbpmmhiaaGreatDoor
