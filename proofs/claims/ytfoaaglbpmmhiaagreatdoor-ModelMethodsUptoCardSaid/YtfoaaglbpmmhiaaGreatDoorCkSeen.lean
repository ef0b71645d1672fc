import Derived.Test.YtfoaaglbpmmhiaaGreatDoorCkFind
import Derived.Deep.RegionHeld3
set_option maxRecDepth 100000
set_option maxHeartbeats 4000000
set_option linter.unusedVariables false
set_option linter.unusedSimpArgs false
namespace Go.Proofs.YtfoaaglbpmmhiaaGreatDoor
open Go.RowKit Ck
theorem cl_nameItem (xn:Str) (xu:Int) (xq:Option Addr) (xm xc:Nat) (W:World):Calls Tryz.prog 126 #[.agg #[.string (S xn),.int .i64 xu,.slice xq xm xc]] W fun e w' => e=.returned (.string (S xn))/\Below W.heap.size W w':=by
 go_enter Tryz.func126,Tryz.ntmps126
 go_wp2
 go_ret
 exact ⟨rfl,(Below.refl _ _).alloc (Nat.le_refl _) _⟩
theorem cl_nameField (xu:Int) (xn:Str) (xca xke xtk:Int) (xtn xun:Str) (xhd:Bool) (xvk xvx:Int) (xvt:Str) (xr1 xr2 xr3 xr4 xr5:Option Addr) (xm1 xd1 xm2 xd2 xm3 xd3 xm4 xd4 xm5 xd5:Nat) (W:World):Calls Tryz.prog 157 #[.agg #[.int .i64 xu,.string (S xn),.int .i64 xca,.int .i64 xke,.int .i64 xtk,.string (S xtn),.string (S xun),.bool xhd,.int .i64 xvk,.int .u64 xvx,.string (S xvt),.slice xr1 xm1 xd1,.slice xr2 xm2 xd2,.slice xr3 xm3 xd3,.slice xr4 xm4 xd4,.slice xr5 xm5 xd5]] W fun e w' => e=.returned (.string (S xn))/\Below W.heap.size W w':=by
 go_enter Tryz.func157,Tryz.ntmps157
 go_wp2
 go_ret
 exact ⟨rfl,(Below.refl _ _).alloc (Nat.le_refl _) _⟩
theorem take_get {α:Type} (xs:List α) (i j:Nat) (x:α) (h:(xs.take i)[j]? = some x):xs[j]? = some x:=by
 rw [List.getElem?_take] at h
 split at h
 ·exact h
 ·cases h
theorem cl_seenItem (xn:Str) (xu:Int) (xq:Option Addr) (xm xc:Nat) (yn:Str) (yu:Int) (yq:Option Addr) (ym yc:Nat) (B1 B2 B3 b off i n c:Nat) (W:World) (h1:W.cell? ⟨B1,0,none⟩=some (.func (.func 126) #[] #[])) (h2:W.cell? ⟨B2,0,none⟩=some (.slice (some ⟨b,off,none⟩) n c)) (h3:W.cell? ⟨B3,0,none⟩=some (.int .i64 i)) (hin:i < n)
  (y_0:W.cell? ⟨b,off + i * 3,none⟩=some (.string (S yn))) (y_1:W.cell? ⟨b,off + i * 3 + 1,none⟩=some (.int .i64 yu)) (y_2:W.cell? ⟨b,off + i * 3 + 2,none⟩=some (.slice yq ym yc)) :
  Calls Tryz.prog 166 #[.agg #[.string (S xn),.int .i64 xu,.slice xq xm xc],.pointer (some ⟨B1,0,none⟩),.pointer (some ⟨B2,0,none⟩),.pointer (some ⟨B3,0,none⟩)] W fun e w' => e=.returned (.bool (decide (xn=yn)))/\Below W.heap.size W w':=by
 have hv:=Lib.hid (eq_S xn yn)
 have hk : ∀ w',Bel (W.alloc (.cells #[.string (S xn),.int .i64 xu,.slice xq xm xc] 76)) w'->w'.cell? ⟨B1,0,none⟩=some (.func (.func 126) #[] #[])/\w'.cell? ⟨B2,0,none⟩=some (.slice (some ⟨b,off,none⟩) n c)/\w'.cell? ⟨B3,0,none⟩=some (.int .i64 i)/\w'.cell? ⟨b,off + i * 3,none⟩=some (.string (S yn))/\w'.cell? ⟨b,off + i * 3 + 1,none⟩=some (.int .i64 yu)/\w'.cell? ⟨b,off + i * 3 + 2,none⟩=some (.slice yq ym yc)/\w'.cell? ⟨W.heap.size,0,none⟩=some (.string (S xn))/\w'.cell? ⟨W.heap.size,1,none⟩=some (.int .i64 xu)/\w'.cell? ⟨W.heap.size,2,none⟩=some (.slice xq xm xc):=fun w' hb => by
  have ho : ∀ (g o:Nat) (v:Value),W.cell? ⟨g,o,none⟩=some v->w'.cell? ⟨g,o,none⟩=some v:=fun g o v h => hb.some ((World.cell?_alloc_past _ g o (World.block_lt_of_cell? W _ h)).trans h)
  refine ⟨ho _ _ _ h1,ho _ _ _ h2,ho _ _ _ h3,ho _ _ _ y_0,ho _ _ _ y_1,ho _ _ _ y_2,?_,?_,?_⟩
  all_goals (refine hb.some ?_;rw [World.cell?_alloc_at _ _ _ _ rfl];rfl)
 have KS:=Lib.hid hk;have c1:=Lib.hid (fun W => cl_nameItem xn xu xq xm xc W);have c2:=Lib.hid (fun W => cl_nameItem yn yu yq ym yc W);have hi0:(0:Int)<=(i:Int):=by omega
 have hi1:(i:Int) < (n:Int):=by omega
 clear hk h1 h2 h3 y_0 y_1 y_2
 go_enter Tryz.func166,Tryz.ntmps166
 go_wp2
 go_region_held3 (fun w' => w'.cell? ⟨B1,0,none⟩=some (.func (.func 126) #[] #[])/\w'.cell? ⟨B2,0,none⟩=some (.slice (some ⟨b,off,none⟩) n c)/\w'.cell? ⟨B3,0,none⟩=some (.int .i64 i)/\w'.cell? ⟨b,off + i * 3,none⟩=some (.string (S yn))/\w'.cell? ⟨b,off + i * 3 + 1,none⟩=some (.int .i64 yu)/\w'.cell? ⟨b,off + i * 3 + 2,none⟩=some (.slice yq ym yc)/\w'.cell? ⟨W.heap.size,0,none⟩=some (.string (S xn))/\w'.cell? ⟨W.heap.size,1,none⟩=some (.int .i64 xu)/\w'.cell? ⟨W.heap.size,2,none⟩=some (.slice xq xm xc)) (first | (exact KS.out _ (by (with_reducible repeat first | assumption | exact Bel.refl _ | refine Bel.drew ?_ | refine Bel.drewN ?_ _ | refine Bel.alloc ?_ _))))
  (first
   | (go_at_call 126;(with_reducible refine (c1.out _).mono ?_);rintro e w1 ⟨rfl,g1⟩;have k1:Bel (W.alloc (.cells #[.string (S xn),.int .i64 xu,.slice xq xm xc] 76)) w1:=Bel.of (by (with_reducible repeat first | assumption | exact Bel.refl _ | refine Bel.drew ?_ | refine Bel.drewN ?_ _ | refine Bel.alloc ?_ _)) g1;clear g1)
   | (go_at_call 126;(with_reducible refine (c2.out _).mono ?_);rintro e w1 ⟨rfl,g1⟩;have k1:Bel (W.alloc (.cells #[.string (S xn),.int .i64 xu,.slice xq xm xc] 76)) w1:=Bel.of (by (with_reducible repeat first | assumption | exact Bel.refl _ | refine Bel.drew ?_ | refine Bel.drewN ?_ _ | refine Bel.alloc ?_ _)) g1;clear g1))
 all_goals go_wp2
 all_goals go_ret
 all_goals exact ⟨ret_bool hv.out,Bel.out (Bel.of ((Bel.refl W).alloc _) (by assumption))⟩
theorem ck_seenItem (v:Value) (xs:List PItem) (i:Nat) (w:World) (hv:Sv 3 VItem w v xs) (hi:i < xs.length) :
  Calls Tryz.prog 125 #[v,.int .i64 (i:Int),.func (.func 126) #[] #[]] w fun e w' => e=.returned (.bool ((xs.take i).any fun x => decide (x.name=xs[i].name)))/\Below w.heap.size w w':=by
 obtain ⟨q,c,rfl,hl,hcap,hel⟩:=hv;obtain ⟨b,off,rfl,hbs,vs,hce,hvs⟩:=hel i _ (List.getElem?_eq_getElem hi)
 have hs : ∀ W,Bel w W->W.cell? ⟨w.heap.size + 1 + 1,0,none⟩=some (.func (.func 126) #[] #[])->W.cell? ⟨w.heap.size,0,none⟩=some (.slice (some ⟨b,off,none⟩) xs.length c)->W.cell? ⟨w.heap.size + 1,0,none⟩=some (.int .i64 (i:Int)) →
   Calls Tryz.prog 165 #[.slice (some ⟨b,off,none⟩) i c,.func (.func 166) #[] #[.pointer (some ⟨w.heap.size + 1 + 1,0,none⟩),.pointer (some ⟨w.heap.size,0,none⟩),.pointer (some ⟨w.heap.size + 1,0,none⟩)]] W fun e w' => e=.returned (.bool ((xs.take i).any fun x => decide (x.name=xs[i].name)))/\Below W.heap.size W w':=fun W hb g1 g2 g3 => by
  have hlen:(xs.take i).length=i:=by rw [List.length_take];omega
  refine cf_Item VItem VItem.len _ _ (enters_of Tryz.func166 (by kernel_rfl) rfl) _ (xs.take i) _ W ⟨some ⟨b,off,none⟩,c,by rw [hlen],by omega,by omega,fun j x hx => ?_⟩ (fun x vx W2 _ hx hb2 => ?_)
  ·obtain ⟨b',off',he,hb',hE⟩:=hel j x (take_get xs i j x hx)
   cases he;exact ⟨b,off,rfl,Nat.lt_of_lt_of_le hb' hb.size,El.keeps VItem.stays _ _ _ _ _ hb' hb hE⟩
  obtain ⟨_,rfl,hxn⟩:=hx;obtain ⟨_,_,rfl,_⟩:=sl_form hxn;have hy : ∀ j u,vs[j]? = some u->W2.cell? ⟨b,off + i * 3 + j,none⟩=some u:=fun j u hu => hb2.some (hb.some (hce j u hu))
  obtain ⟨_,rfl,hyn⟩:=hvs;obtain ⟨_,_,rfl,_⟩:=sl_form hyn;exact cl_seenItem x.name x.num _ _ _ xs[i].name xs[i].num _ _ _ _ _ _ b off i xs.length c W2 (hb2.some g1) (hb2.some g2) (hb2.some g3) hi (hy 0 _ rfl) (hy 1 _ rfl) (hy 2 _ rfl)
 have cs:=Lib.hid hs;clear hs hel hce hvs;generalize ((xs.take i).any fun x => decide (x.name=xs[i].name))=R at cs;have hi0:(0:Int)<=(i:Int):=by omega
 have hi1:(i:Int)<=(c:Int):=by omega
 go_enter Tryz.func125,Tryz.ntmps125
 go_wp2_with (go_at_call 165;(with_reducible refine (cs.out _ (by (with_reducible repeat first | assumption | exact Bel.refl _ | refine Bel.drew ?_ | refine Bel.drewN ?_ _ | refine Bel.alloc ?_ _)) (by go_simp) (by go_simp) (by go_simp)).mono ?_);rintro e w1 ⟨rfl,h1⟩;have k1:Bel w w1:=Bel.of (by (with_reducible repeat first | assumption | exact Bel.refl _ | refine Bel.drew ?_ | refine Bel.drewN ?_ _ | refine Bel.alloc ?_ _)) h1;clear h1)
 go_ret
 exact ⟨rfl,k1.out⟩
theorem cl_seenField (xu:Int) (xn:Str) (xca xke xtk:Int) (xtn xun:Str) (xhd:Bool) (xvk xvx:Int) (xvt:Str) (xr1 xr2 xr3 xr4 xr5:Option Addr) (xm1 xd1 xm2 xd2 xm3 xd3 xm4 xd4 xm5 xd5:Nat) (yu:Int) (yn:Str) (yca yke ytk:Int) (ytn yun:Str) (yhd:Bool) (yvk yvx:Int) (yvt:Str) (yr1 yr2 yr3 yr4 yr5:Option Addr) (ym1 yd1 ym2 yd2 ym3 yd3 ym4 yd4 ym5 yd5:Nat) (B1 B2 B3 b off i n c:Nat) (W:World) (h1:W.cell? ⟨B1,0,none⟩=some (.func (.func 157) #[] #[])) (h2:W.cell? ⟨B2,0,none⟩=some (.slice (some ⟨b,off,none⟩) n c)) (h3:W.cell? ⟨B3,0,none⟩=some (.int .i64 i)) (hin:i < n)
  (y_0:W.cell? ⟨b,off + i * 16,none⟩=some (.int .i64 yu)) (y_1:W.cell? ⟨b,off + i * 16 + 1,none⟩=some (.string (S yn))) (y_2:W.cell? ⟨b,off + i * 16 + 2,none⟩=some (.int .i64 yca)) (y_3:W.cell? ⟨b,off + i * 16 + 3,none⟩=some (.int .i64 yke)) (y_4:W.cell? ⟨b,off + i * 16 + 4,none⟩=some (.int .i64 ytk)) (y_5:W.cell? ⟨b,off + i * 16 + 5,none⟩=some (.string (S ytn))) (y_6:W.cell? ⟨b,off + i * 16 + 6,none⟩=some (.string (S yun))) (y_7:W.cell? ⟨b,off + i * 16 + 7,none⟩=some (.bool yhd)) (y_8:W.cell? ⟨b,off + i * 16 + 8,none⟩=some (.int .i64 yvk)) (y_9:W.cell? ⟨b,off + i * 16 + 9,none⟩=some (.int .u64 yvx)) (y_10:W.cell? ⟨b,off + i * 16 + 10,none⟩=some (.string (S yvt))) (y_11:W.cell? ⟨b,off + i * 16 + 11,none⟩=some (.slice yr1 ym1 yd1)) (y_12:W.cell? ⟨b,off + i * 16 + 12,none⟩=some (.slice yr2 ym2 yd2)) (y_13:W.cell? ⟨b,off + i * 16 + 13,none⟩=some (.slice yr3 ym3 yd3)) (y_14:W.cell? ⟨b,off + i * 16 + 14,none⟩=some (.slice yr4 ym4 yd4)) (y_15:W.cell? ⟨b,off + i * 16 + 15,none⟩=some (.slice yr5 ym5 yd5)) :
  Calls Tryz.prog 190 #[.agg #[.int .i64 xu,.string (S xn),.int .i64 xca,.int .i64 xke,.int .i64 xtk,.string (S xtn),.string (S xun),.bool xhd,.int .i64 xvk,.int .u64 xvx,.string (S xvt),.slice xr1 xm1 xd1,.slice xr2 xm2 xd2,.slice xr3 xm3 xd3,.slice xr4 xm4 xd4,.slice xr5 xm5 xd5],.pointer (some ⟨B1,0,none⟩),.pointer (some ⟨B2,0,none⟩),.pointer (some ⟨B3,0,none⟩)] W fun e w' => e=.returned (.bool (decide (xn=yn)))/\Below W.heap.size W w':=by
 have hv:=Lib.hid (eq_S xn yn)
 have hk : ∀ w',Bel (W.alloc (.cells #[.int .i64 xu,.string (S xn),.int .i64 xca,.int .i64 xke,.int .i64 xtk,.string (S xtn),.string (S xun),.bool xhd,.int .i64 xvk,.int .u64 xvx,.string (S xvt),.slice xr1 xm1 xd1,.slice xr2 xm2 xd2,.slice xr3 xm3 xd3,.slice xr4 xm4 xd4,.slice xr5 xm5 xd5] 63)) w'->w'.cell? ⟨B1,0,none⟩=some (.func (.func 157) #[] #[])/\w'.cell? ⟨B2,0,none⟩=some (.slice (some ⟨b,off,none⟩) n c)/\w'.cell? ⟨B3,0,none⟩=some (.int .i64 i)/\w'.cell? ⟨b,off + i * 16,none⟩=some (.int .i64 yu)/\w'.cell? ⟨b,off + i * 16 + 1,none⟩=some (.string (S yn))/\w'.cell? ⟨b,off + i * 16 + 2,none⟩=some (.int .i64 yca)/\w'.cell? ⟨b,off + i * 16 + 3,none⟩=some (.int .i64 yke)/\w'.cell? ⟨b,off + i * 16 + 4,none⟩=some (.int .i64 ytk)/\w'.cell? ⟨b,off + i * 16 + 5,none⟩=some (.string (S ytn))/\w'.cell? ⟨b,off + i * 16 + 6,none⟩=some (.string (S yun))/\w'.cell? ⟨b,off + i * 16 + 7,none⟩=some (.bool yhd)/\w'.cell? ⟨b,off + i * 16 + 8,none⟩=some (.int .i64 yvk)/\w'.cell? ⟨b,off + i * 16 + 9,none⟩=some (.int .u64 yvx)/\w'.cell? ⟨b,off + i * 16 + 10,none⟩=some (.string (S yvt))/\w'.cell? ⟨b,off + i * 16 + 11,none⟩=some (.slice yr1 ym1 yd1)/\w'.cell? ⟨b,off + i * 16 + 12,none⟩=some (.slice yr2 ym2 yd2)/\w'.cell? ⟨b,off + i * 16 + 13,none⟩=some (.slice yr3 ym3 yd3)/\w'.cell? ⟨b,off + i * 16 + 14,none⟩=some (.slice yr4 ym4 yd4)/\w'.cell? ⟨b,off + i * 16 + 15,none⟩=some (.slice yr5 ym5 yd5)/\w'.cell? ⟨W.heap.size,0,none⟩=some (.int .i64 xu)/\w'.cell? ⟨W.heap.size,1,none⟩=some (.string (S xn))/\w'.cell? ⟨W.heap.size,2,none⟩=some (.int .i64 xca)/\w'.cell? ⟨W.heap.size,3,none⟩=some (.int .i64 xke)/\w'.cell? ⟨W.heap.size,4,none⟩=some (.int .i64 xtk)/\w'.cell? ⟨W.heap.size,5,none⟩=some (.string (S xtn))/\w'.cell? ⟨W.heap.size,6,none⟩=some (.string (S xun))/\w'.cell? ⟨W.heap.size,7,none⟩=some (.bool xhd)/\w'.cell? ⟨W.heap.size,8,none⟩=some (.int .i64 xvk)/\w'.cell? ⟨W.heap.size,9,none⟩=some (.int .u64 xvx)/\w'.cell? ⟨W.heap.size,10,none⟩=some (.string (S xvt))/\w'.cell? ⟨W.heap.size,11,none⟩=some (.slice xr1 xm1 xd1)/\w'.cell? ⟨W.heap.size,12,none⟩=some (.slice xr2 xm2 xd2)/\w'.cell? ⟨W.heap.size,13,none⟩=some (.slice xr3 xm3 xd3)/\w'.cell? ⟨W.heap.size,14,none⟩=some (.slice xr4 xm4 xd4)/\w'.cell? ⟨W.heap.size,15,none⟩=some (.slice xr5 xm5 xd5):=fun w' hb => by
  have ho : ∀ (g o:Nat) (v:Value),W.cell? ⟨g,o,none⟩=some v->w'.cell? ⟨g,o,none⟩=some v:=fun g o v h => hb.some ((World.cell?_alloc_past _ g o (World.block_lt_of_cell? W _ h)).trans h)
  refine ⟨ho _ _ _ h1,ho _ _ _ h2,ho _ _ _ h3,ho _ _ _ y_0,ho _ _ _ y_1,ho _ _ _ y_2,ho _ _ _ y_3,ho _ _ _ y_4,ho _ _ _ y_5,ho _ _ _ y_6,ho _ _ _ y_7,ho _ _ _ y_8,ho _ _ _ y_9,ho _ _ _ y_10,ho _ _ _ y_11,ho _ _ _ y_12,ho _ _ _ y_13,ho _ _ _ y_14,ho _ _ _ y_15,?_,?_,?_,?_,?_,?_,?_,?_,?_,?_,?_,?_,?_,?_,?_,?_⟩
  all_goals (refine hb.some ?_;rw [World.cell?_alloc_at _ _ _ _ rfl];rfl)
 have KS:=Lib.hid hk;have c1:=Lib.hid (fun W => cl_nameField xu xn xca xke xtk xtn xun xhd xvk xvx xvt xr1 xr2 xr3 xr4 xr5 xm1 xd1 xm2 xd2 xm3 xd3 xm4 xd4 xm5 xd5 W);have c2:=Lib.hid (fun W => cl_nameField yu yn yca yke ytk ytn yun yhd yvk yvx yvt yr1 yr2 yr3 yr4 yr5 ym1 yd1 ym2 yd2 ym3 yd3 ym4 yd4 ym5 yd5 W);have hi0:(0:Int)<=(i:Int):=by omega
 have hi1:(i:Int) < (n:Int):=by omega
 clear hk h1 h2 h3 y_0 y_1 y_2 y_3 y_4 y_5 y_6 y_7 y_8 y_9 y_10 y_11 y_12 y_13 y_14 y_15
 go_enter Tryz.func190,Tryz.ntmps190
 go_wp2
 go_region_held3 (fun w' => w'.cell? ⟨B1,0,none⟩=some (.func (.func 157) #[] #[])/\w'.cell? ⟨B2,0,none⟩=some (.slice (some ⟨b,off,none⟩) n c)/\w'.cell? ⟨B3,0,none⟩=some (.int .i64 i)/\w'.cell? ⟨b,off + i * 16,none⟩=some (.int .i64 yu)/\w'.cell? ⟨b,off + i * 16 + 1,none⟩=some (.string (S yn))/\w'.cell? ⟨b,off + i * 16 + 2,none⟩=some (.int .i64 yca)/\w'.cell? ⟨b,off + i * 16 + 3,none⟩=some (.int .i64 yke)/\w'.cell? ⟨b,off + i * 16 + 4,none⟩=some (.int .i64 ytk)/\w'.cell? ⟨b,off + i * 16 + 5,none⟩=some (.string (S ytn))/\w'.cell? ⟨b,off + i * 16 + 6,none⟩=some (.string (S yun))/\w'.cell? ⟨b,off + i * 16 + 7,none⟩=some (.bool yhd)/\w'.cell? ⟨b,off + i * 16 + 8,none⟩=some (.int .i64 yvk)/\w'.cell? ⟨b,off + i * 16 + 9,none⟩=some (.int .u64 yvx)/\w'.cell? ⟨b,off + i * 16 + 10,none⟩=some (.string (S yvt))/\w'.cell? ⟨b,off + i * 16 + 11,none⟩=some (.slice yr1 ym1 yd1)/\w'.cell? ⟨b,off + i * 16 + 12,none⟩=some (.slice yr2 ym2 yd2)/\w'.cell? ⟨b,off + i * 16 + 13,none⟩=some (.slice yr3 ym3 yd3)/\w'.cell? ⟨b,off + i * 16 + 14,none⟩=some (.slice yr4 ym4 yd4)/\w'.cell? ⟨b,off + i * 16 + 15,none⟩=some (.slice yr5 ym5 yd5)/\w'.cell? ⟨W.heap.size,0,none⟩=some (.int .i64 xu)/\w'.cell? ⟨W.heap.size,1,none⟩=some (.string (S xn))/\w'.cell? ⟨W.heap.size,2,none⟩=some (.int .i64 xca)/\w'.cell? ⟨W.heap.size,3,none⟩=some (.int .i64 xke)/\w'.cell? ⟨W.heap.size,4,none⟩=some (.int .i64 xtk)/\w'.cell? ⟨W.heap.size,5,none⟩=some (.string (S xtn))/\w'.cell? ⟨W.heap.size,6,none⟩=some (.string (S xun))/\w'.cell? ⟨W.heap.size,7,none⟩=some (.bool xhd)/\w'.cell? ⟨W.heap.size,8,none⟩=some (.int .i64 xvk)/\w'.cell? ⟨W.heap.size,9,none⟩=some (.int .u64 xvx)/\w'.cell? ⟨W.heap.size,10,none⟩=some (.string (S xvt))/\w'.cell? ⟨W.heap.size,11,none⟩=some (.slice xr1 xm1 xd1)/\w'.cell? ⟨W.heap.size,12,none⟩=some (.slice xr2 xm2 xd2)/\w'.cell? ⟨W.heap.size,13,none⟩=some (.slice xr3 xm3 xd3)/\w'.cell? ⟨W.heap.size,14,none⟩=some (.slice xr4 xm4 xd4)/\w'.cell? ⟨W.heap.size,15,none⟩=some (.slice xr5 xm5 xd5)) (first | (exact KS.out _ (by (with_reducible repeat first | assumption | exact Bel.refl _ | refine Bel.drew ?_ | refine Bel.drewN ?_ _ | refine Bel.alloc ?_ _))))
  (first
   | (go_at_call 157;(with_reducible refine (c1.out _).mono ?_);rintro e w1 ⟨rfl,g1⟩;have k1:Bel (W.alloc (.cells #[.int .i64 xu,.string (S xn),.int .i64 xca,.int .i64 xke,.int .i64 xtk,.string (S xtn),.string (S xun),.bool xhd,.int .i64 xvk,.int .u64 xvx,.string (S xvt),.slice xr1 xm1 xd1,.slice xr2 xm2 xd2,.slice xr3 xm3 xd3,.slice xr4 xm4 xd4,.slice xr5 xm5 xd5] 63)) w1:=Bel.of (by (with_reducible repeat first | assumption | exact Bel.refl _ | refine Bel.drew ?_ | refine Bel.drewN ?_ _ | refine Bel.alloc ?_ _)) g1;clear g1)
   | (go_at_call 157;(with_reducible refine (c2.out _).mono ?_);rintro e w1 ⟨rfl,g1⟩;have k1:Bel (W.alloc (.cells #[.int .i64 xu,.string (S xn),.int .i64 xca,.int .i64 xke,.int .i64 xtk,.string (S xtn),.string (S xun),.bool xhd,.int .i64 xvk,.int .u64 xvx,.string (S xvt),.slice xr1 xm1 xd1,.slice xr2 xm2 xd2,.slice xr3 xm3 xd3,.slice xr4 xm4 xd4,.slice xr5 xm5 xd5] 63)) w1:=Bel.of (by (with_reducible repeat first | assumption | exact Bel.refl _ | refine Bel.drew ?_ | refine Bel.drewN ?_ _ | refine Bel.alloc ?_ _)) g1;clear g1))
 all_goals go_wp2
 all_goals go_ret
 all_goals exact ⟨ret_bool hv.out,Bel.out (Bel.of ((Bel.refl W).alloc _) (by assumption))⟩
theorem ck_seenField (v:Value) (xs:List PField) (i:Nat) (w:World) (hv:Sv 16 VField w v xs) (hi:i < xs.length) :
  Calls Tryz.prog 156 #[v,.int .i64 (i:Int),.func (.func 157) #[] #[]] w fun e w' => e=.returned (.bool ((xs.take i).any fun x => decide (x.name=xs[i].name)))/\Below w.heap.size w w':=by
 obtain ⟨q,c,rfl,hl,hcap,hel⟩:=hv;obtain ⟨b,off,rfl,hbs,vs,hce,hvs⟩:=hel i _ (List.getElem?_eq_getElem hi)
 have hs : ∀ W,Bel w W->W.cell? ⟨w.heap.size + 1 + 1,0,none⟩=some (.func (.func 157) #[] #[])->W.cell? ⟨w.heap.size,0,none⟩=some (.slice (some ⟨b,off,none⟩) xs.length c)->W.cell? ⟨w.heap.size + 1,0,none⟩=some (.int .i64 (i:Int)) →
   Calls Tryz.prog 189 #[.slice (some ⟨b,off,none⟩) i c,.func (.func 190) #[] #[.pointer (some ⟨w.heap.size + 1 + 1,0,none⟩),.pointer (some ⟨w.heap.size,0,none⟩),.pointer (some ⟨w.heap.size + 1,0,none⟩)]] W fun e w' => e=.returned (.bool ((xs.take i).any fun x => decide (x.name=xs[i].name)))/\Below W.heap.size W w':=fun W hb g1 g2 g3 => by
  have hlen:(xs.take i).length=i:=by rw [List.length_take];omega
  refine cf_Field VField VField.len _ _ (enters_of Tryz.func190 (by kernel_rfl) rfl) _ (xs.take i) _ W ⟨some ⟨b,off,none⟩,c,by rw [hlen],by omega,by omega,fun j x hx => ?_⟩ (fun x vx W2 _ hx hb2 => ?_)
  ·obtain ⟨b',off',he,hb',hE⟩:=hel j x (take_get xs i j x hx)
   cases he;exact ⟨b,off,rfl,Nat.lt_of_lt_of_le hb' hb.size,El.keeps VField.stays _ _ _ _ _ hb' hb hE⟩
  obtain ⟨_,_,rfl,⟨_,_,_,_,_,_,_,_,rfl,_⟩,hxn⟩:=hx;obtain ⟨_,_,rfl,_⟩:=sl_form hxn;have hy : ∀ j u,vs[j]? = some u->W2.cell? ⟨b,off + i * 16 + j,none⟩=some u:=fun j u hu => hb2.some (hb.some (hce j u hu))
  obtain ⟨_,_,rfl,⟨_,_,_,_,_,_,_,_,rfl,_⟩,hyn⟩:=hvs;obtain ⟨_,_,rfl,_⟩:=sl_form hyn;exact cl_seenField x.num x.name x.card x.key x.tk x.tn x.un x.hd x.df.k x.df.x x.df.t _ _ _ _ _ _ _ _ _ _ _ _ _ _ _ xs[i].num xs[i].name xs[i].card xs[i].key xs[i].tk xs[i].tn xs[i].un xs[i].hd xs[i].df.k xs[i].df.x xs[i].df.t _ _ _ _ _ _ _ _ _ _ _ _ _ _ _ _ _ _ b off i xs.length c W2 (hb2.some g1) (hb2.some g2) (hb2.some g3) hi (hy 0 _ rfl) (hy 1 _ rfl) (hy 2 _ rfl) (hy 3 _ rfl) (hy 4 _ rfl) (hy 5 _ rfl) (hy 6 _ rfl) (hy 7 _ rfl) (hy 8 _ rfl) (hy 9 _ rfl) (hy 10 _ rfl) (hy 11 _ rfl) (hy 12 _ rfl) (hy 13 _ rfl) (hy 14 _ rfl) (hy 15 _ rfl)
 have cs:=Lib.hid hs;clear hs hel hce hvs;generalize ((xs.take i).any fun x => decide (x.name=xs[i].name))=R at cs;have hi0:(0:Int)<=(i:Int):=by omega
 have hi1:(i:Int)<=(c:Int):=by omega
 go_enter Tryz.func156,Tryz.ntmps156
 go_wp2_with (go_at_call 189;(with_reducible refine (cs.out _ (by (with_reducible repeat first | assumption | exact Bel.refl _ | refine Bel.drew ?_ | refine Bel.drewN ?_ _ | refine Bel.alloc ?_ _)) (by go_simp) (by go_simp) (by go_simp)).mono ?_);rintro e w1 ⟨rfl,h1⟩;have k1:Bel w w1:=Bel.of (by (with_reducible repeat first | assumption | exact Bel.refl _ | refine Bel.drew ?_ | refine Bel.drewN ?_ _ | refine Bel.alloc ?_ _)) h1;clear h1)
 go_ret
 exact ⟨rfl,k1.out⟩
end Go.Proofs.YtfoaaglbpmmhiaaGreatDoor
