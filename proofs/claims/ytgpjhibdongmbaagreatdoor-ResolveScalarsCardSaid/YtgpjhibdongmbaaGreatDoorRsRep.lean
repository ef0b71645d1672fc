import Derived.Test.YtgpjhibdongmbaaGreatDoorStillL
import Derived.Test.YtgpjhibdongmbaaGreatDoorRowBox
import Derived.Deep.RegionHeld3
set_option maxRecDepth 100000
set_option maxHeartbeats 4000000
set_option linter.unusedVariables false
set_option linter.unusedSimpArgs false
namespace Go.Proofs.YtgpjhibdongmbaaGreatDoor
open Go.RowKit Ck Rs
theorem qjo {α:Type} (f:α->Str) (l:List α) (k:Nat) (h:k<l.length):((List.range' k (l.length-k)).all fun i=>newAt f l i)=(newAt f l k && (List.range' (k+1) (l.length-(k+1))).all fun i=>newAt f l i):=by
 rw [show l.length-k=(l.length-(k+1))+1 by omega,List.range'_succ,List.all_cons]
theorem qgq {α:Type} (f:α->Str) (l:List α):((List.range' 0 (l.length-0)).all fun i=>newAt f l i)=Rs.apart f l:=by
 unfold Rs.apart;rw [List.range_eq_range',Nat.sub_zero]
theorem new_end {α:Type} (f:α->Str) (l:List α) (k:Nat) (h:l.length<=k):((List.range' k (l.length-k)).all fun i=>newAt f l i)=true:=by
 rw [show l.length-k=0 by omega];rfl
theorem new_get {α:Type} (f:α->Str) (l:List α) (k:Nat) (x:α) (h:l[k]? = some x):newAt f l k = !((l.take k).any fun y=>decide (f y=f x)):=by
 unfold newAt;rw [h]
theorem qg7 {α:Type} (xs:List α) (i j:Nat) (x:α) (h:(xs.take i)[j]? = some x):xs[j]? = some x:=by
 rw [List.getElem?_take]at h
 split at h
 ·exact h
 ·cases h
theorem qda (xn:Str) (xu:Int) (xq:Option Addr) (xm xc:Nat) (W:World):Calls Tryz.prog 138 #[.agg #[.string (S xn),.int .i64 xu,.slice xq xm xc]] W fun e w'=>e=.returned (.string (S xn))/\Below W.heap.size W w':=by
 go_enter Tryz.func138,Tryz.ntmps138
 go_wp2;go_ret
 exact⟨rfl,(Below.refl _ _).alloc (Nat.le_refl _) _⟩
theorem qk5 (xn:Str) (xu:Int) (xq:Option Addr) (xm xc:Nat) (yn:Str) (yu:Int) (yq:Option Addr) (ym yc:Nat) (B1 B2:Nat) (W:World) (h1:W.cell? ⟨B1,0,none⟩=some (.func (.func 138) #[] #[]))
  (y_0:W.cell? ⟨B2,0,none⟩=some (.string (S yn))) (y_1:W.cell? ⟨B2,1,none⟩=some (.int .i64 yu)) (y_2:W.cell? ⟨B2,2,none⟩=some (.slice yq ym yc)) :
  Calls Tryz.prog 179 #[.agg #[.string (S xn),.int .i64 xu,.slice xq xm xc],.pointer (some ⟨B1,0,none⟩),.pointer (some ⟨B2,0,none⟩)] W fun e w'=>e=.returned (.bool (decide (xn=yn)))/\Below W.heap.size W w':=by
 have hv:=Lib.hid (eq_S xn yn)
 have hk : ∀w',Bel (W.alloc (.cells #[.string (S xn),.int .i64 xu,.slice xq xm xc] 86)) w'->w'.cell? ⟨B1,0,none⟩=some (.func (.func 138) #[] #[])/\w'.cell? ⟨B2,0,none⟩=some (.string (S yn))/\w'.cell? ⟨B2,1,none⟩=some (.int .i64 yu)/\w'.cell? ⟨B2,2,none⟩=some (.slice yq ym yc)/\w'.cell? ⟨W.heap.size,0,none⟩=some (.string (S xn))/\w'.cell? ⟨W.heap.size,1,none⟩=some (.int .i64 xu)/\w'.cell? ⟨W.heap.size,2,none⟩=some (.slice xq xm xc):=fun w' hb=>by
  have ho : ∀(g o:Nat) (v:Value),W.cell? ⟨g,o,none⟩=some v->w'.cell? ⟨g,o,none⟩=some v:=fun g o v h=>hb.some ((World.cell?_alloc_past _ g o (World.block_lt_of_cell? W _ h)).trans h)
  refine⟨ho _ _ _ h1,ho _ _ _ y_0,ho _ _ _ y_1,ho _ _ _ y_2,?_,?_,?_⟩
  all_goals (refine hb.some ?_;rw [World.cell?_alloc_at _ _ _ _ rfl];rfl)
 have KS:=Lib.hid hk;have c1:=Lib.hid (fun W=>qda xn xu xq xm xc W);have c2:=Lib.hid (fun W=>qda yn yu yq ym yc W);clear hk h1 y_0 y_1 y_2
 go_enter Tryz.func179,Tryz.ntmps179
 go_wp2
 go_region_held3 (fun w'=>w'.cell? ⟨B1,0,none⟩=some (.func (.func 138) #[] #[])/\w'.cell? ⟨B2,0,none⟩=some (.string (S yn))/\w'.cell? ⟨B2,1,none⟩=some (.int .i64 yu)/\w'.cell? ⟨B2,2,none⟩=some (.slice yq ym yc)/\w'.cell? ⟨W.heap.size,0,none⟩=some (.string (S xn))/\w'.cell? ⟨W.heap.size,1,none⟩=some (.int .i64 xu)/\w'.cell? ⟨W.heap.size,2,none⟩=some (.slice xq xm xc)) (first|(exact KS.out _ (by(with_reducible repeat first|assumption|exact Bel.refl _|refine Bel.drew ?_|refine Bel.drewN ?_ _|refine Bel.alloc ?_ _))))
  (first
   | (go_at_call 138;(with_reducible refine(c1.out _).mono ?_);rintro e w1 ⟨rfl,g1⟩;have k1:Bel (W.alloc (.cells #[.string (S xn),.int .i64 xu,.slice xq xm xc] 86)) w1:=Bel.of (by(with_reducible repeat first|assumption|exact Bel.refl _|refine Bel.drew ?_|refine Bel.drewN ?_ _|refine Bel.alloc ?_ _)) g1;clear g1)
   | (go_at_call 138;(with_reducible refine(c2.out _).mono ?_);rintro e w1 ⟨rfl,g1⟩;have k1:Bel (W.alloc (.cells #[.string (S xn),.int .i64 xu,.slice xq xm xc] 86)) w1:=Bel.of (by(with_reducible repeat first|assumption|exact Bel.refl _|refine Bel.drew ?_|refine Bel.drewN ?_ _|refine Bel.alloc ?_ _)) g1;clear g1))
 all_goals go_wp2
 all_goals go_ret
 all_goals exact⟨qa3 hv.out,Bel.out (Bel.of ((Bel.refl W).alloc _) (by assumption))⟩
theorem ar_Item:(Tryz.prog.info? 86).map (·.size)=some 3:=by kernel_rfl
theorem qik (q:Option Addr) (c:Nat) (xs:List PItem) (i:Nat) (y:PItem) (vs:List Value) (B1 B2:Nat) (w W:World) (hv:Sv 3 VItem w (.slice q xs.length c) xs) (hi:i<xs.length) (kw:Bel w W) (g1:W.cell? ⟨B1,0,none⟩=some (.func (.func 138) #[] #[])) (hy0 : ∀j u,vs[j]? = some u->W.cell? ⟨B2,j,none⟩=some u) (hvs:VItem w vs y) (hq:xs[i]? = some y) :
  Calls Tryz.prog 120 #[.slice q i c,.func (.func 179) #[] #[.pointer (some ⟨B1,0,none⟩),.pointer (some ⟨B2,0,none⟩)]] W fun e w'=>e=.returned (.bool (!newAt PItem.name xs i))/\Bel W w':=by
 rw [new_get _ _ _ _ hq,Bool.not_not];have HVS:=Lib.hid hvs;obtain⟨q',c',he,hl,hcap,hel⟩:=hv;cases he;have hlen:(xs.take i).length=i:=by rw [List.length_take];omega
 refine qg9 VItem VItem.len _ _ (enters_of Tryz.func179 (by kernel_rfl) rfl) _ (xs.take i) _ W ⟨q,c,by rw [hlen],by omega,by omega,fun j x hx=>?_⟩ (fun x vx W2 _ hx hb2=>?_)
 ·obtain⟨b,off,he,hb',hE⟩:=hel j x (qg7 xs i j x hx)
  exact⟨b,off,he,Nat.lt_of_lt_of_le hb' kw.size,El.keeps VItem.stays _ _ _ _ _ hb' kw hE⟩
 ·have hy : ∀j u,vs[j]? = some u->W2.cell? ⟨B2,j,none⟩=some u:=fun j u hu=>hb2.some (hy0 j u hu)
  have g1b:=hb2.some g1;obtain⟨_,_,rfl,_,_⟩:=VItem.form hx;obtain⟨_,_,rfl,_,_⟩:=VItem.form hvs;exact qk5 x.name x.num _ _ _ y.name y.num _ _ _ B1 B2 W2 g1b (hy 0 _ rfl) (hy 1 _ rfl) (hy 2 _ rfl)
theorem qj9 (q:Option Addr) (c:Nat) (xs:List PItem) (w:World) (hv:Sv 3 VItem w (.slice q xs.length c) xs) :
  Calls Tryz.prog 137 #[.slice q xs.length c,.func (.func 138) #[] #[]] w fun e w'=>e=.returned (.bool (!Rs.apart PItem.name xs))/\Bel w w':=by
 have CS:=Lib.hid (fun i y vs B2 W hi kw g1 hy hvs hq=>qik q c xs i y vs w.heap.size B2 w W hv hi kw g1 hy hvs hq);obtain⟨q',c',he,hl,hcap,hel⟩:=hv;cases he;have EL:=Lib.hid hel;have V:=Lib.hid (qgq PItem.name xs);generalize Rs.apart PItem.name xs=T at V;have aE : ∀w,(isAgg 86).run Tryz.prog w=.ok true w:=qei;obtain⟨K,hK⟩ : ∃K,K=3:=⟨_,rfl⟩;have zE : ∀w,(Go.sizeOf 86).run Tryz.prog w=.ok K w:=hK ▸ qcn;have HK:=Lib.hid hK;have hS0:=Lib.hid ((ST.start w).addbox #[.func (.func 138) #[] #[]] 151);clear hel hK
 go_enter Tryz.func137,Tryz.ntmps137
 go_wp2
 go_loopw [9] (fun i wr => ∃k:Nat,k<=xs.length/\i=.int .i64 k/\Hid (ST w [] [⟨w.heap.size,#[.func (.func 138) #[] #[]],151⟩] wr)/\Hid (((List.range' k (xs.length-k)).all fun i=>newAt PItem.name xs i)=T)) (fun i _=>xs.length-(intOf i).toNat)
 case atStart=>exact⟨0,by omega,rfl,hS0,V⟩
 case round=>as_aux_lemma=>
  clear hS0 V;obtain⟨k,hk,rfl,hS,hx⟩:=hrel;by_cases hlt:k<xs.length
  ·have hg:xs[k]? = some xs[k]:=List.getElem?_eq_getElem hlt
   obtain⟨b,off,rfl,hbs,vs,hce,hvs⟩:=EL.out k _ hg;have hki:(k:Int)<(xs.length:Int):=by omega
   have hst:=hx.out;rw [qjo _ _ _ hlt]at hst;have hlen:=VItem.len _ _ _ hvs
   have l2:Sem.run Tryz.prog (loadCellsFrom ⟨b,off+k*K,none⟩ 0 K #[]) wr=.ok vs.toArray wr:=run_loadCellsFrom_list Tryz.prog _ _ vs K (hlen.trans HK.out.symm) (fun i v hi=>by
    rw [HK.out,Addr.add_lit]
    exact hS.out.bel.some (hce i v hi))
   have HO:=Lib.hid (show vs.toArray.all (·.oneCell')=true from by obtain⟨_,_,rfl,_,_⟩:=VItem.form hvs;simp [Value.oneCell']);have Z0:vs.toArray.size=3:=by rw [List.size_toArray];exact hlen
   have Z1:=Lib.hid (show(Tryz.prog.info? 86).map (·.size)=some vs.toArray.size by rw [Z0];exact ar_Item);have Z2:=Lib.hid (show(#[.string ⟨#[]⟩,.int .i64 0,.slice none 0 0]:Array Value).size=vs.toArray.size by rw [Z0];rfl);have hk0:(0:Int)<=(k:Int):=by omega
   have hkc:(k:Int)<=(c:Int):=by omega
   have H1:=Lib.hid (hS.out.addbox vs.toArray 86);have C1:=Lib.hid (CS.out k xs[k] vs wr.heap.size _ hlt H1.out.bel (H1.out.cell 1 rfl 0) (fun j u hu=>by have:=H1.out.cell 0 rfl j;dsimp only at this;rw [this,List.getElem?_toArray];exact hu) hvs hg);generalize newAt PItem.name xs k=Q at hst C1;clear hx hce hlen Z0 hvs hg CS;generalize xs[k]=x at *;cases Q with
   | true=>
    have HST:=Lib.hid (show _=T by rw [←hst,Bool.true_and]);clear hst
    go_wp2_with (first
     | (refine qaw (old:=#[.string ⟨#[]⟩,.int .i64 0,.slice none 0 0]) rfl 86 _ _ rfl wr rfl wr.heap.size rfl vs.toArray rfl rfl Z1.out Z2.out HO.out ?_)
     | (go_at_call 120;(with_reducible refine C1.out.mono ?_);rintro e w1 ⟨rfl,k1⟩;have H2:=Lib.hid (H1.out.belw k1).dropbox0;clear k1))
    go_roundw
    case rel=>exact⟨k+1,by omega,by go_num,H2,HST⟩
    case measure=>simp [intOf];omega
   | false=>
    have HST:=Lib.hid (show false=T by rw [←hst,Bool.false_and]);clear hst
    go_wp2_with (first
     | (refine qaw (old:=#[.string ⟨#[]⟩,.int .i64 0,.slice none 0 0]) rfl 86 _ _ rfl wr rfl wr.heap.size rfl vs.toArray rfl rfl Z1.out Z2.out HO.out ?_)
     | (go_at_call 120;(with_reducible refine C1.out.mono ?_);rintro e w1 ⟨rfl,k1⟩;have H2:=Lib.hid (H1.out.belw k1).dropbox0;clear k1))
    go_ret;exact⟨qa3 (by rw [←HST.out];rfl),H2.out.bel⟩
  ·have hki : ¬(k:Int)<(xs.length:Int):=by omega
   have HST:=Lib.hid (show true=T by rw [←hx.out,new_end _ _ _ (by omega)]);go_wp2;go_ret;exact⟨qa3 (by rw [←HST.out];rfl),hS.out.bel⟩
theorem qfa (xu:Int) (xn xal:Str) (xca xke xki xta xun:Int) (W:World):Calls Tryz.prog 135 #[.agg #[.int .i64 xu,.string (S xn),.string (S xal),.int .i64 xca,.int .i64 xke,.int .i64 xki,.int .i64 xta,.int .i64 xun]] W fun e w'=>e=.returned (.string (S xn))/\Below W.heap.size W w':=by
 go_enter Tryz.func135,Tryz.ntmps135
 go_wp2;go_ret
 exact⟨rfl,(Below.refl _ _).alloc (Nat.le_refl _) _⟩
theorem cl_repOp (xu:Int) (xn xal:Str) (xca xke xki xta xun:Int) (yu:Int) (yn yal:Str) (yca yke yki yta yun:Int) (B1 B2:Nat) (W:World) (h1:W.cell? ⟨B1,0,none⟩=some (.func (.func 135) #[] #[]))
  (y_0:W.cell? ⟨B2,0,none⟩=some (.int .i64 yu)) (y_1:W.cell? ⟨B2,1,none⟩=some (.string (S yn))) (y_2:W.cell? ⟨B2,2,none⟩=some (.string (S yal))) (y_3:W.cell? ⟨B2,3,none⟩=some (.int .i64 yca)) (y_4:W.cell? ⟨B2,4,none⟩=some (.int .i64 yke)) (y_5:W.cell? ⟨B2,5,none⟩=some (.int .i64 yki)) (y_6:W.cell? ⟨B2,6,none⟩=some (.int .i64 yta)) (y_7:W.cell? ⟨B2,7,none⟩=some (.int .i64 yun)) :
  Calls Tryz.prog 178 #[.agg #[.int .i64 xu,.string (S xn),.string (S xal),.int .i64 xca,.int .i64 xke,.int .i64 xki,.int .i64 xta,.int .i64 xun],.pointer (some ⟨B1,0,none⟩),.pointer (some ⟨B2,0,none⟩)] W fun e w'=>e=.returned (.bool (decide (xn=yn)))/\Below W.heap.size W w':=by
 have hv:=Lib.hid (eq_S xn yn)
 have hk : ∀w',Bel (W.alloc (.cells #[.int .i64 xu,.string (S xn),.string (S xal),.int .i64 xca,.int .i64 xke,.int .i64 xki,.int .i64 xta,.int .i64 xun] 54)) w'->w'.cell? ⟨B1,0,none⟩=some (.func (.func 135) #[] #[])/\w'.cell? ⟨B2,0,none⟩=some (.int .i64 yu)/\w'.cell? ⟨B2,1,none⟩=some (.string (S yn))/\w'.cell? ⟨B2,2,none⟩=some (.string (S yal))/\w'.cell? ⟨B2,3,none⟩=some (.int .i64 yca)/\w'.cell? ⟨B2,4,none⟩=some (.int .i64 yke)/\w'.cell? ⟨B2,5,none⟩=some (.int .i64 yki)/\w'.cell? ⟨B2,6,none⟩=some (.int .i64 yta)/\w'.cell? ⟨B2,7,none⟩=some (.int .i64 yun)/\w'.cell? ⟨W.heap.size,0,none⟩=some (.int .i64 xu)/\w'.cell? ⟨W.heap.size,1,none⟩=some (.string (S xn))/\w'.cell? ⟨W.heap.size,2,none⟩=some (.string (S xal))/\w'.cell? ⟨W.heap.size,3,none⟩=some (.int .i64 xca)/\w'.cell? ⟨W.heap.size,4,none⟩=some (.int .i64 xke)/\w'.cell? ⟨W.heap.size,5,none⟩=some (.int .i64 xki)/\w'.cell? ⟨W.heap.size,6,none⟩=some (.int .i64 xta)/\w'.cell? ⟨W.heap.size,7,none⟩=some (.int .i64 xun):=fun w' hb=>by
  have ho : ∀(g o:Nat) (v:Value),W.cell? ⟨g,o,none⟩=some v->w'.cell? ⟨g,o,none⟩=some v:=fun g o v h=>hb.some ((World.cell?_alloc_past _ g o (World.block_lt_of_cell? W _ h)).trans h)
  refine⟨ho _ _ _ h1,ho _ _ _ y_0,ho _ _ _ y_1,ho _ _ _ y_2,ho _ _ _ y_3,ho _ _ _ y_4,ho _ _ _ y_5,ho _ _ _ y_6,ho _ _ _ y_7,?_,?_,?_,?_,?_,?_,?_,?_⟩
  all_goals (refine hb.some ?_;rw [World.cell?_alloc_at _ _ _ _ rfl];rfl)
 have KS:=Lib.hid hk;have c1:=Lib.hid (fun W=>qfa xu xn xal xca xke xki xta xun W);have c2:=Lib.hid (fun W=>qfa yu yn yal yca yke yki yta yun W);clear hk h1 y_0 y_1 y_2 y_3 y_4 y_5 y_6 y_7
 go_enter Tryz.func178,Tryz.ntmps178
 go_wp2
 go_region_held3 (fun w'=>w'.cell? ⟨B1,0,none⟩=some (.func (.func 135) #[] #[])/\w'.cell? ⟨B2,0,none⟩=some (.int .i64 yu)/\w'.cell? ⟨B2,1,none⟩=some (.string (S yn))/\w'.cell? ⟨B2,2,none⟩=some (.string (S yal))/\w'.cell? ⟨B2,3,none⟩=some (.int .i64 yca)/\w'.cell? ⟨B2,4,none⟩=some (.int .i64 yke)/\w'.cell? ⟨B2,5,none⟩=some (.int .i64 yki)/\w'.cell? ⟨B2,6,none⟩=some (.int .i64 yta)/\w'.cell? ⟨B2,7,none⟩=some (.int .i64 yun)/\w'.cell? ⟨W.heap.size,0,none⟩=some (.int .i64 xu)/\w'.cell? ⟨W.heap.size,1,none⟩=some (.string (S xn))/\w'.cell? ⟨W.heap.size,2,none⟩=some (.string (S xal))/\w'.cell? ⟨W.heap.size,3,none⟩=some (.int .i64 xca)/\w'.cell? ⟨W.heap.size,4,none⟩=some (.int .i64 xke)/\w'.cell? ⟨W.heap.size,5,none⟩=some (.int .i64 xki)/\w'.cell? ⟨W.heap.size,6,none⟩=some (.int .i64 xta)/\w'.cell? ⟨W.heap.size,7,none⟩=some (.int .i64 xun)) (first|(exact KS.out _ (by(with_reducible repeat first|assumption|exact Bel.refl _|refine Bel.drew ?_|refine Bel.drewN ?_ _|refine Bel.alloc ?_ _))))
  (first
   | (go_at_call 135;(with_reducible refine(c1.out _).mono ?_);rintro e w1 ⟨rfl,g1⟩;have k1:Bel (W.alloc (.cells #[.int .i64 xu,.string (S xn),.string (S xal),.int .i64 xca,.int .i64 xke,.int .i64 xki,.int .i64 xta,.int .i64 xun] 54)) w1:=Bel.of (by(with_reducible repeat first|assumption|exact Bel.refl _|refine Bel.drew ?_|refine Bel.drewN ?_ _|refine Bel.alloc ?_ _)) g1;clear g1)
   | (go_at_call 135;(with_reducible refine(c2.out _).mono ?_);rintro e w1 ⟨rfl,g1⟩;have k1:Bel (W.alloc (.cells #[.int .i64 xu,.string (S xn),.string (S xal),.int .i64 xca,.int .i64 xke,.int .i64 xki,.int .i64 xta,.int .i64 xun] 54)) w1:=Bel.of (by(with_reducible repeat first|assumption|exact Bel.refl _|refine Bel.drew ?_|refine Bel.drewN ?_ _|refine Bel.alloc ?_ _)) g1;clear g1))
 all_goals go_wp2
 all_goals go_ret
 all_goals exact⟨qa3 hv.out,Bel.out (Bel.of ((Bel.refl W).alloc _) (by assumption))⟩
theorem ar_Op:(Tryz.prog.info? 54).map (·.size)=some 8:=by kernel_rfl
theorem so_repOp (q:Option Addr) (c:Nat) (xs:List POp) (i:Nat) (y:POp) (vs:List Value) (B1 B2:Nat) (w W:World) (hv:Sv 8 VOp w (.slice q xs.length c) xs) (hi:i<xs.length) (kw:Bel w W) (g1:W.cell? ⟨B1,0,none⟩=some (.func (.func 135) #[] #[])) (hy0 : ∀j u,vs[j]? = some u->W.cell? ⟨B2,j,none⟩=some u) (hvs:VOp w vs y) (hq:xs[i]? = some y) :
  Calls Tryz.prog 116 #[.slice q i c,.func (.func 178) #[] #[.pointer (some ⟨B1,0,none⟩),.pointer (some ⟨B2,0,none⟩)]] W fun e w'=>e=.returned (.bool (!newAt POp.name xs i))/\Bel W w':=by
 rw [new_get _ _ _ _ hq,Bool.not_not];have HVS:=Lib.hid hvs;obtain⟨q',c',he,hl,hcap,hel⟩:=hv;cases he;have hlen:(xs.take i).length=i:=by rw [List.length_take];omega
 refine so_Op VOp VOp.len _ _ (enters_of Tryz.func178 (by kernel_rfl) rfl) _ (xs.take i) _ W ⟨q,c,by rw [hlen],by omega,by omega,fun j x hx=>?_⟩ (fun x vx W2 _ hx hb2=>?_)
 ·obtain⟨b,off,he,hb',hE⟩:=hel j x (qg7 xs i j x hx)
  exact⟨b,off,he,Nat.lt_of_lt_of_le hb' kw.size,El.keeps VOp.stays _ _ _ _ _ hb' kw hE⟩
 ·have hy : ∀j u,vs[j]? = some u->W2.cell? ⟨B2,j,none⟩=some u:=fun j u hu=>hb2.some (hy0 j u hu)
  have g1b:=hb2.some g1;rw [show vx=opC x from hx];rw [show vs=opC y from hvs]at hy;exact cl_repOp x.num x.name x.ali x.card x.key x.kind x.tgt x.un y.num y.name y.ali y.card y.key y.kind y.tgt y.un B1 B2 W2 g1b (hy 0 _ rfl) (hy 1 _ rfl) (hy 2 _ rfl) (hy 3 _ rfl) (hy 4 _ rfl) (hy 5 _ rfl) (hy 6 _ rfl) (hy 7 _ rfl)
theorem pl_repOp (q:Option Addr) (c:Nat) (xs:List POp) (w:World) (hv:Sv 8 VOp w (.slice q xs.length c) xs) :
  Calls Tryz.prog 134 #[.slice q xs.length c,.func (.func 135) #[] #[]] w fun e w'=>e=.returned (.bool (!Rs.apart POp.name xs))/\Bel w w':=by
 have CS:=Lib.hid (fun i y vs B2 W hi kw g1 hy hvs hq=>so_repOp q c xs i y vs w.heap.size B2 w W hv hi kw g1 hy hvs hq);obtain⟨q',c',he,hl,hcap,hel⟩:=hv;cases he;have EL:=Lib.hid hel;have V:=Lib.hid (qgq POp.name xs);generalize Rs.apart POp.name xs=T at V;have aE : ∀w,(isAgg 54).run Tryz.prog w=.ok true w:=qic;obtain⟨K,hK⟩ : ∃K,K=8:=⟨_,rfl⟩;have zE : ∀w,(Go.sizeOf 54).run Tryz.prog w=.ok K w:=hK ▸ qem;have HK:=Lib.hid hK;have hS0:=Lib.hid ((ST.start w).addbox #[.func (.func 135) #[] #[]] 149);clear hel hK
 go_enter Tryz.func134,Tryz.ntmps134
 go_wp2
 go_loopw [9] (fun i wr => ∃k:Nat,k<=xs.length/\i=.int .i64 k/\Hid (ST w [] [⟨w.heap.size,#[.func (.func 135) #[] #[]],149⟩] wr)/\Hid (((List.range' k (xs.length-k)).all fun i=>newAt POp.name xs i)=T)) (fun i _=>xs.length-(intOf i).toNat)
 case atStart=>exact⟨0,by omega,rfl,hS0,V⟩
 case round=>as_aux_lemma=>
  clear hS0 V;obtain⟨k,hk,rfl,hS,hx⟩:=hrel;by_cases hlt:k<xs.length
  ·have hg:xs[k]? = some xs[k]:=List.getElem?_eq_getElem hlt
   obtain⟨b,off,rfl,hbs,vs,hce,hvs⟩:=EL.out k _ hg;have hki:(k:Int)<(xs.length:Int):=by omega
   have hst:=hx.out;rw [qjo _ _ _ hlt]at hst;have hlen:=VOp.len _ _ _ hvs
   have l2:Sem.run Tryz.prog (loadCellsFrom ⟨b,off+k*K,none⟩ 0 K #[]) wr=.ok vs.toArray wr:=run_loadCellsFrom_list Tryz.prog _ _ vs K (hlen.trans HK.out.symm) (fun i v hi=>by
    rw [HK.out,Addr.add_lit]
    exact hS.out.bel.some (hce i v hi))
   have HO:=Lib.hid (show vs.toArray.all (·.oneCell')=true from by rw [show vs=opC _ from hvs];simp [opC,Value.oneCell']);have Z0:vs.toArray.size=8:=by rw [List.size_toArray];exact hlen
   have Z1:=Lib.hid (show(Tryz.prog.info? 54).map (·.size)=some vs.toArray.size by rw [Z0];exact ar_Op);have Z2:=Lib.hid (show(#[.int .i64 0,.string ⟨#[]⟩,.string ⟨#[]⟩,.int .i64 0,.int .i64 0,.int .i64 0,.int .i64 0,.int .i64 0]:Array Value).size=vs.toArray.size by rw [Z0];rfl);have hk0:(0:Int)<=(k:Int):=by omega
   have hkc:(k:Int)<=(c:Int):=by omega
   have H1:=Lib.hid (hS.out.addbox vs.toArray 54);have C1:=Lib.hid (CS.out k xs[k] vs wr.heap.size _ hlt H1.out.bel (H1.out.cell 1 rfl 0) (fun j u hu=>by have:=H1.out.cell 0 rfl j;dsimp only at this;rw [this,List.getElem?_toArray];exact hu) hvs hg);generalize newAt POp.name xs k=Q at hst C1;clear hx hce hlen Z0 hvs hg CS;generalize xs[k]=x at *;cases Q with
   | true=>
    have HST:=Lib.hid (show _=T by rw [←hst,Bool.true_and]);clear hst
    go_wp2_with (first
     | (refine qaw (old:=#[.int .i64 0,.string ⟨#[]⟩,.string ⟨#[]⟩,.int .i64 0,.int .i64 0,.int .i64 0,.int .i64 0,.int .i64 0]) rfl 54 _ _ rfl wr rfl wr.heap.size rfl vs.toArray rfl rfl Z1.out Z2.out HO.out ?_)
     | (go_at_call 116;(with_reducible refine C1.out.mono ?_);rintro e w1 ⟨rfl,k1⟩;have H2:=Lib.hid (H1.out.belw k1).dropbox0;clear k1))
    go_roundw
    case rel=>exact⟨k+1,by omega,by go_num,H2,HST⟩
    case measure=>simp [intOf];omega
   | false=>
    have HST:=Lib.hid (show false=T by rw [←hst,Bool.false_and]);clear hst
    go_wp2_with (first
     | (refine qaw (old:=#[.int .i64 0,.string ⟨#[]⟩,.string ⟨#[]⟩,.int .i64 0,.int .i64 0,.int .i64 0,.int .i64 0,.int .i64 0]) rfl 54 _ _ rfl wr rfl wr.heap.size rfl vs.toArray rfl rfl Z1.out Z2.out HO.out ?_)
     | (go_at_call 116;(with_reducible refine C1.out.mono ?_);rintro e w1 ⟨rfl,k1⟩;have H2:=Lib.hid (H1.out.belw k1).dropbox0;clear k1))
    go_ret;exact⟨qa3 (by rw [←HST.out];rfl),H2.out.bel⟩
  ·have hki : ¬(k:Int)<(xs.length:Int):=by omega
   have HST:=Lib.hid (show true=T by rw [←hx.out,new_end _ _ _ (by omega)]);go_wp2;go_ret;exact⟨qa3 (by rw [←HST.out];rfl),hS.out.bel⟩
end Go.Proofs.YtgpjhibdongmbaaGreatDoor
