import Derived.Test.YtfoaaglbpmmhiaaGreatDoorUtfDec
import Derived.Test.YtfoaaglbpmmhiaaGreatDoorPrProg1
import Derived.Maps.OwnSet
import Derived.Maps.Views
import Derived.Deep.RegionHeld3
set_option maxRecDepth 100000
set_option maxHeartbeats 4000000
set_option linter.unusedVariables false
set_option linter.unusedSimpArgs false
namespace Go.Proofs.YtfoaaglbpmmhiaaGreatDoor
open Go.RowKit Ck
theorem VMsg.len (w:World) (vs:List Value) (x:PMsg) (h:VMsg w vs x):vs.length=5:=by
 obtain ⟨_,_,_,_,rfl,_⟩:=h;rfl
theorem VEnum.len (w:World) (vs:List Value) (x:PEnum) (h:VEnum w vs x):vs.length=5:=by
 obtain ⟨_,_,_,rfl,_⟩:=h;rfl
theorem VSpan.len (w:World) (vs:List Value) (x:PSpan) (h:VSpan w vs x):vs.length=2:=by
 rw [show vs=_ from h];rfl
theorem VItem.len (w:World) (vs:List Value) (x:PItem) (h:VItem w vs x):vs.length=3:=by
 obtain ⟨_,rfl,_⟩:=h;rfl
theorem VField.len (w:World) (vs:List Value) (x:PField) (h:VField w vs x):vs.length=16:=by
 obtain ⟨_,_,rfl,⟨_,_,_,_,_,_,_,_,rfl,_⟩,_⟩:=h;rfl
theorem sl_form {α:Type} {C:Nat} {E:World->Nat->Nat->α->Prop} {w:World} {v:Value} {xs:List α} (h:Sl C E w v xs) : ∃ (q:Option Addr) (c:Nat),v=.slice q xs.length c/\xs.length<=140737488355328:=by
 obtain ⟨q,c,h1,h2,_⟩:=h;exact ⟨q,c,h1,h2⟩
theorem cl_message (nm name:Str) (q1 q2 q3 q4:Option Addr) (n1 n2 n3 n4 c1 c2 c3 c4:Nat) (B:Nat) (W:World) (hB:W.cell? ⟨B,0,none⟩=some (.string (S name))) :
  Calls Tryz.prog 153 #[.agg #[.string (S nm),.slice q1 n1 c1,.slice q2 n2 c2,.slice q3 n3 c3,.slice q4 n4 c4],.pointer (some ⟨B,0,none⟩)] W fun e w' => e=.returned (.bool (decide (nm=name)))/\Below W.heap.size W w':=by
 have hlt:B < W.heap.size:=World.block_lt_of_cell? W _ hB;have hv:=Lib.hid (eq_S nm name)
 go_enter Tryz.func153,Tryz.ntmps153
 go_wp2
 go_ret
 exact ⟨ret_bool hv.out,(Below.refl _ _).alloc (Nat.le_refl _) _⟩
theorem cl_enum (nm name:Str) (op:Bool) (q1 q2 q3:Option Addr) (n1 n2 n3 c1 c2 c3:Nat) (B:Nat) (W:World) (hB:W.cell? ⟨B,0,none⟩=some (.string (S name))) :
  Calls Tryz.prog 215 #[.agg #[.string (S nm),.bool op,.slice q1 n1 c1,.slice q2 n2 c2,.slice q3 n3 c3],.pointer (some ⟨B,0,none⟩)] W fun e w' => e=.returned (.bool (decide (nm=name)))/\Below W.heap.size W w':=by
 have hlt:B < W.heap.size:=World.block_lt_of_cell? W _ hB;have hv:=Lib.hid (eq_S nm name)
 go_enter Tryz.func215,Tryz.ntmps215
 go_wp2
 go_ret
 exact ⟨ret_bool hv.out,(Below.refl _ _).alloc (Nat.le_refl _) _⟩
theorem cl_Reserved (lo hi n:Int) (B:Nat) (W:World) (hB:W.cell? ⟨B,0,none⟩=some (.int .i64 n)) :
  Calls Tryz.prog 168 #[.agg #[.int .i64 lo,.int .i64 hi],.pointer (some ⟨B,0,none⟩)] W fun e w' => e=.returned (.bool (decide (lo<=n/\n<=hi)))/\Below W.heap.size W w':=by
 have hlt:B < W.heap.size:=World.block_lt_of_cell? W _ hB
 go_enter Tryz.func168,Tryz.ntmps168
 go_wp2
 all_goals go_ret
 all_goals refine ⟨ret_bool ?_,(Below.refl _ _).alloc (Nat.le_refl _) _⟩
 all_goals (rw [Bool.eq_iff_iff];simp_all <;> omega)
theorem ck_Reserved (v:Value) (l:List PSpan) (n:Int) (w:World) (hv:Spans w v l) :
  Calls Tryz.prog 127 #[v,.int .i64 n] w fun e w' => e=.returned (.bool (reserved l n))/\Below w.heap.size w w':=by
 have hs : ∀ W,Bel w W->W.cell? ⟨w.heap.size,0,none⟩=some (.int .i64 n)->Calls Tryz.prog 167 #[v,.func (.func 168) #[] #[.pointer (some ⟨w.heap.size,0,none⟩)]] W fun e w' => e=.returned (.bool (reserved l n))/\Below W.heap.size W w':=fun W hb hc => by
  refine cf_Span VSpan VSpan.len _ _ (enters_of Tryz.func168 (by kernel_rfl) rfl) v l _ W (hv.bel VSpan.stays hb) (fun x vs W2 _ hx hb2 => ?_);rw [show vs=_ from hx];exact cl_Reserved x.lo x.hi n _ W2 (hb2.some hc)
 have cs:=Lib.hid hs;clear hs;obtain ⟨q,c,rfl,hl⟩:=sl_form hv;clear hv;generalize reserved l n=R at cs
 go_enter Tryz.func127,Tryz.ntmps127
 go_wp2_with (go_at_call 167;(with_reducible refine (cs.out _ (by (repeat (first | (with_reducible assumption) | (with_reducible exact Bel.refl _) | (with_reducible refine Bel.drew ?_) | (with_reducible refine Bel.drewN ?_ _) | (with_reducible refine Bel.alloc ?_ _) | ((with_reducible refine bel_set ?_ ?hge);(case hge => (first | omega | (simp;omega))))))) (by go_simp)).mono ?_);rintro e w1 ⟨rfl,h1⟩;have k1:Bel w w1:=Bel.of (by (repeat (first | (with_reducible assumption) | (with_reducible exact Bel.refl _) | (with_reducible refine Bel.drew ?_) | (with_reducible refine Bel.drewN ?_ _) | (with_reducible refine Bel.alloc ?_ _) | ((with_reducible refine bel_set ?_ ?hge);(case hge => (first | omega | (simp;omega))))))) h1;clear h1)
 go_ret
 exact ⟨rfl,k1.out⟩
theorem ck_keyed (card key:Int) (w:World):Calls Tryz.prog 158 #[.int .i64 card,.int .i64 key] w fun e w' => e=.returned (.bool (keyed card key))/\w=w':=by
 go_enter Tryz.func158,Tryz.ntmps158
 go_wp2
 all_goals go_ret
 all_goals refine ⟨ret_bool ?_,rfl⟩
 all_goals (unfold keyed;rw [Bool.eq_iff_iff];simp_all <;> omega)
def FoundPost {α:Type} (V:World->List Value->α->Prop) (zero:List Value) (r:Option α) (w:World) (e:Ending) (w':World):Prop:=
 ∃ vs,e=.returned (.tuple #[.agg vs.toArray,.bool r.isSome])/\(match r with | some x => V w vs x | none => vs=zero)/\Below w.heap.size w w'
def zMsg:List Value:=[.string ByteArray.empty,.slice none 0 0,.slice none 0 0,.slice none 0 0,.slice none 0 0]
def zEnum:List Value:=[.string ByteArray.empty,.bool false,.slice none 0 0,.slice none 0 0,.slice none 0 0]
theorem block_of_below {w a:World} {g:Nat} {o:Obj} (hb:Below a.heap.size a w) (h:a.heap[g]? = some o):w.heap[g]? = some o:=by
 have hlt:g < a.heap.size:=(Array.getElem?_eq_some_iff.1 h).1;rw [hb.block g hlt];exact h
theorem set5 {w1:World} {g:Nat} {t:TypeId} {c0 c1 c2 c3 c4:Value} (hg:w1.heap[g]? = some (.cells #[c0,c1,c2,c3,c4] t (0,0))) (v0 v1 v2 v3 v4:Value) :
  (((((w1.setCell ⟨g,0,none⟩ v0).setCell ⟨g,1,none⟩ v1).setCell ⟨g,2,none⟩ v2).setCell ⟨g,3,none⟩ v3).setCell ⟨g,4,none⟩ v4).heap[g]? = some (.cells #[v0,v1,v2,v3,v4] t (0,0)):=by
 have h0:=heap_setCell_same w1 g 0 _ t v0 hg;rw [show (#[c0,c1,c2,c3,c4]:Array Value).setIfInBounds 0 v0=#[v0,c1,c2,c3,c4] from rfl] at h0;have h1:=heap_setCell_same _ g 1 _ t v1 h0;rw [show (#[v0,c1,c2,c3,c4]:Array Value).setIfInBounds 1 v1=#[v0,v1,c2,c3,c4] from rfl] at h1;have h2:=heap_setCell_same _ g 2 _ t v2 h1;rw [show (#[v0,v1,c2,c3,c4]:Array Value).setIfInBounds 2 v2=#[v0,v1,v2,c3,c4] from rfl] at h2;have h3:=heap_setCell_same _ g 3 _ t v3 h2;rw [show (#[v0,v1,v2,c3,c4]:Array Value).setIfInBounds 3 v3=#[v0,v1,v2,v3,c4] from rfl] at h3;exact heap_setCell_same _ g 4 _ t v4 h3
theorem res_row {P:Program} {fn:Func} {p u:Tmp} {ty:TypeId} (h:fn.results=#[.cell p ty,.tmp u]) {tmps:Array Value} {w:World} {g:Nat} {t:TypeId} {cs:Array Value} {d:TypeDesc} {y:Value}
  (hp:tmps.getD p undef=.pointer (some ⟨g,0,none⟩)) (hy:tmps.getD u undef=y) (hg:w.heap[g]? = some (.cells cs t (0,0)))
  (hu:P.underlying ty=some d) (hd:(match d with | .struct _ | .array _ _ => true | _ => false)=true) (hi:(P.info? ty).map (·.size)=some cs.size) :
  (results fn tmps).run P w=.ok (.tuple #[.agg cs,y]) w:=by
 rw [results_cell_tmp h,hp,hy];simp [asAddr,run_loadVar_row w g t ty cs (0,0) d hg hu hd hi]
theorem ck_message (mv ev sv:Value) (s:PSchema) (name:Str) (w:World) (hv:VSchema w [mv,ev,sv] s) :
  Calls Tryz.prog 115 #[.agg #[mv,ev,sv],.string (S name)] w (FoundPost VMsg zMsg (msgOf s name) w):=by
 obtain ⟨_,_,_,he,hm,hev,hsv⟩:=hv;cases he;obtain ⟨q2,c2,rfl,hl2⟩:=sl_form hev;obtain ⟨q3,c3,rfl,hl3⟩:=sl_form hsv
 have hs : ∀ W,Bel w W->W.cell? ⟨w.heap.size + 1,0,none⟩=some (.string (S name))->Calls Tryz.prog 152 #[mv,.func (.func 153) #[] #[.pointer (some ⟨w.heap.size + 1,0,none⟩)]] W fun e w' => e=.returned (.int .i64 (idxL (fun m => decide (m.name=name)) s.msgs))/\Below W.heap.size W w':=fun W hb hc => by
  refine ix_Msg VMsg VMsg.len _ _ (enters_of Tryz.func153 (by kernel_rfl) rfl) mv s.msgs _ W (hm.bel VMsg.stays hb) (fun x vs W2 _ hx hb2 => ?_);obtain ⟨_,_,_,_,rfl,h1,h2,h3,h4⟩:=hx;obtain ⟨_,_,rfl,_⟩:=sl_form h1;obtain ⟨_,_,rfl,_⟩:=sl_form h2;obtain ⟨_,_,rfl,_⟩:=sl_form h3;obtain ⟨_,_,rfl,_⟩:=sl_form h4;exact cl_message x.name name _ _ _ _ _ _ _ _ _ _ _ _ _ W2 (hb2.some hc)
 have hr:msgOf s name=s.msgs.find? fun m => decide (m.name=name):=rfl
 obtain ⟨p,c,rfl,hl,hcap,hel⟩:=hm;clear hev hsv;rcases idxL_find (fun m:PMsg => decide (m.name=name)) s.msgs with ⟨hneg,hnone⟩ | ⟨k,x,hk,hx,hsome,hkl⟩
 ·have hr2:=Lib.hid (hr.trans hnone)
  clear hr hnone hel;generalize idxL (fun m:PMsg => decide (m.name=name)) s.msgs=R at hs hneg;have cs:=Lib.hid hs;clear hs
  go_enter Tryz.func115,Tryz.ntmps115
  go_wp2_with (go_at_call 152;(with_reducible refine (cs.out _ (by (repeat (first | (with_reducible assumption) | (with_reducible exact Bel.refl _) | (with_reducible refine Bel.drew ?_) | (with_reducible refine Bel.drewN ?_ _) | (with_reducible refine Bel.alloc ?_ _) | ((with_reducible refine bel_set ?_ ?hge);(case hge => (first | omega | (simp;omega))))))) (by go_simp)).mono ?_);rintro e w1 ⟨rfl,h1⟩;have k1:Bel w w1:=Bel.of (by (repeat (first | (with_reducible assumption) | (with_reducible exact Bel.refl _) | (with_reducible refine Bel.drew ?_) | (with_reducible refine Bel.drewN ?_ _) | (with_reducible refine Bel.alloc ?_ _) | ((with_reducible refine bel_set ?_ ?hge);(case hge => (first | omega | (simp;omega))))))) h1;have hbk:=Lib.hid (block_of_below h1 (heap_alloc_new _ _));obtain ⟨hc,hf⟩:=bcell h1;have hz:=h1.size;simp at hz;clear h1)
  have hb0:=hbk.out;simp only [World.size_alloc] at hb0;clear hbk hc hf cs;refine bodyPost_ret (v:=.tuple #[.agg #[.string ⟨#[]⟩,.slice none 0 0,.slice none 0 0,.slice none 0 0,.slice none 0 0],.bool false]) ?hres rfl ?hpost
  case hres => exact res_row rfl rfl rfl (set5 hb0 _ _ _ _ _) Tryz.underlying44 rfl (by kernel_rfl)
  case hpost => exact ⟨zMsg,by rw [hr2.out];rfl,by rw [hr2.out],Bel.out (by (repeat (first | (with_reducible assumption) | (with_reducible exact Bel.refl _) | (with_reducible refine Bel.drew ?_) | (with_reducible refine Bel.drewN ?_ _) | (with_reducible refine Bel.alloc ?_ _) | ((with_reducible refine bel_set ?_ ?hge);(case hge => (first | omega | (simp;omega)))))))⟩
 ·have hr2:=Lib.hid (hr.trans hsome)
  rw [hk] at hs;have cs:=Lib.hid hs;obtain ⟨b,off,rfl,hbs,vs,hce,hvs⟩:=hel k x hx;have hvs0:=Lib.hid hvs;obtain ⟨v1,v2,v3,v4,rfl,h1,h2,h3,h4⟩:=hvs;obtain ⟨x1,y1,rfl,_⟩:=sl_form h1;obtain ⟨x2,y2,rfl,_⟩:=sl_form h2;obtain ⟨x3,y3,rfl,_⟩:=sl_form h3;obtain ⟨x4,y4,rfl,_⟩:=sl_form h4;have e0:=hce 0 _ rfl;rw [Nat.add_zero] at e0;have e1:=hce 1 _ rfl;have e2:=hce 2 _ rfl;have e3:=hce 3 _ rfl;have e4:=hce 4 _ rfl;have g0:(k:Int) < (s.msgs.length:Int):=by omega
  clear hs hr hsome hel hce hk hx
  go_enter Tryz.func115,Tryz.ntmps115
  go_wp2_with (go_at_call 152;(with_reducible refine (cs.out _ (by (repeat (first | (with_reducible assumption) | (with_reducible exact Bel.refl _) | (with_reducible refine Bel.drew ?_) | (with_reducible refine Bel.drewN ?_ _) | (with_reducible refine Bel.alloc ?_ _) | ((with_reducible refine bel_set ?_ ?hge);(case hge => (first | omega | (simp;omega))))))) (by go_simp)).mono ?_);rintro e w1 ⟨rfl,h1⟩;have k1:Bel w w1:=Bel.of (by (repeat (first | (with_reducible assumption) | (with_reducible exact Bel.refl _) | (with_reducible refine Bel.drew ?_) | (with_reducible refine Bel.drewN ?_ _) | (with_reducible refine Bel.alloc ?_ _) | ((with_reducible refine bel_set ?_ ?hge);(case hge => (first | omega | (simp;omega))))))) h1;have hbk:=Lib.hid (block_of_below h1 (heap_alloc_new _ _));obtain ⟨hc,hf⟩:=bcell h1;have f0:=k1.some e0;have f1:=k1.some e1;have f2:=k1.some e2;have f3:=k1.some e3;have f4:=k1.some e4;have hz:=h1.size;simp at hz;clear h1)
  have hb0:=hbk.out;simp only [World.size_alloc] at hb0;clear hbk cs hc hf;refine bodyPost_ret (v:=.tuple #[.agg #[.string (S x.name),.slice x1 x.fields.length y1,.slice x2 x.res.length y2,.slice x3 x.gone.length y3,.slice x4 x.notes.length y4],.bool true]) ?hres rfl ?hpost
  case hres => exact res_row rfl rfl rfl (set5 hb0 _ _ _ _ _) Tryz.underlying44 rfl (by kernel_rfl)
  case hpost => exact ⟨_,by rw [hr2.out];rfl,by rw [hr2.out];exact hvs0.out,Bel.out (by (repeat (first | (with_reducible assumption) | (with_reducible exact Bel.refl _) | (with_reducible refine Bel.drew ?_) | (with_reducible refine Bel.drewN ?_ _) | (with_reducible refine Bel.alloc ?_ _) | ((with_reducible refine bel_set ?_ ?hge);(case hge => (first | omega | (simp;omega)))))))⟩
theorem ck_enum (mv ev sv:Value) (s:PSchema) (name:Str) (w:World) (hv:VSchema w [mv,ev,sv] s) :
  Calls Tryz.prog 191 #[.agg #[mv,ev,sv],.string (S name)] w (FoundPost VEnum zEnum (enumOf s name) w):=by
 obtain ⟨_,_,_,he,hm,hev,hsv⟩:=hv;cases he;obtain ⟨q2,c2,rfl,hl2⟩:=sl_form hm;obtain ⟨q3,c3,rfl,hl3⟩:=sl_form hsv;clear hm;have hm:=hev
 have hs : ∀ W,Bel w W->W.cell? ⟨w.heap.size + 1,0,none⟩=some (.string (S name))->Calls Tryz.prog 214 #[ev,.func (.func 215) #[] #[.pointer (some ⟨w.heap.size + 1,0,none⟩)]] W fun e w' => e=.returned (.int .i64 (idxL (fun m => decide (m.name=name)) s.enums))/\Below W.heap.size W w':=fun W hb hc => by
  refine ix_Enum VEnum VEnum.len _ _ (enters_of Tryz.func215 (by kernel_rfl) rfl) ev s.enums _ W (hm.bel VEnum.stays hb) (fun x vs W2 _ hx hb2 => ?_);obtain ⟨_,_,_,rfl,h1,h2,h3⟩:=hx;obtain ⟨_,_,rfl,_⟩:=sl_form h1;obtain ⟨_,_,rfl,_⟩:=sl_form h2;obtain ⟨_,_,rfl,_⟩:=sl_form h3;exact cl_enum x.name name x.op _ _ _ _ _ _ _ _ _ _ W2 (hb2.some hc)
 have hr:enumOf s name=s.enums.find? fun m => decide (m.name=name):=rfl
 obtain ⟨p,c,rfl,hl,hcap,hel⟩:=hm;clear hev hsv;rcases idxL_find (fun m:PEnum => decide (m.name=name)) s.enums with ⟨hneg,hnone⟩ | ⟨k,x,hk,hx,hsome,hkl⟩
 ·have hr2:=Lib.hid (hr.trans hnone)
  clear hr hnone hel;generalize idxL (fun m:PEnum => decide (m.name=name)) s.enums=R at hs hneg;have cs:=Lib.hid hs;clear hs
  go_enter Tryz.func191,Tryz.ntmps191
  go_wp2_with (go_at_call 214;(with_reducible refine (cs.out _ (by (repeat (first | (with_reducible assumption) | (with_reducible exact Bel.refl _) | (with_reducible refine Bel.drew ?_) | (with_reducible refine Bel.drewN ?_ _) | (with_reducible refine Bel.alloc ?_ _) | ((with_reducible refine bel_set ?_ ?hge);(case hge => (first | omega | (simp;omega))))))) (by go_simp)).mono ?_);rintro e w1 ⟨rfl,h1⟩;have k1:Bel w w1:=Bel.of (by (repeat (first | (with_reducible assumption) | (with_reducible exact Bel.refl _) | (with_reducible refine Bel.drew ?_) | (with_reducible refine Bel.drewN ?_ _) | (with_reducible refine Bel.alloc ?_ _) | ((with_reducible refine bel_set ?_ ?hge);(case hge => (first | omega | (simp;omega))))))) h1;have hbk:=Lib.hid (block_of_below h1 (heap_alloc_new _ _));obtain ⟨hc,hf⟩:=bcell h1;have hz:=h1.size;simp at hz;clear h1)
  have hb0:=hbk.out;simp only [World.size_alloc] at hb0;clear hbk hc hf cs;refine bodyPost_ret (v:=.tuple #[.agg #[.string ⟨#[]⟩,.bool false,.slice none 0 0,.slice none 0 0,.slice none 0 0],.bool false]) ?hres rfl ?hpost
  case hres => exact res_row rfl rfl rfl (set5 hb0 _ _ _ _ _) Tryz.underlying74 rfl (by kernel_rfl)
  case hpost => exact ⟨zEnum,by rw [hr2.out];rfl,by rw [hr2.out],Bel.out (by (repeat (first | (with_reducible assumption) | (with_reducible exact Bel.refl _) | (with_reducible refine Bel.drew ?_) | (with_reducible refine Bel.drewN ?_ _) | (with_reducible refine Bel.alloc ?_ _) | ((with_reducible refine bel_set ?_ ?hge);(case hge => (first | omega | (simp;omega)))))))⟩
 ·have hr2:=Lib.hid (hr.trans hsome)
  rw [hk] at hs;have cs:=Lib.hid hs;obtain ⟨b,off,rfl,hbs,vs,hce,hvs⟩:=hel k x hx;have hvs0:=Lib.hid hvs;obtain ⟨v1,v2,v3,rfl,h1,h2,h3⟩:=hvs;obtain ⟨x1,y1,rfl,_⟩:=sl_form h1;obtain ⟨x2,y2,rfl,_⟩:=sl_form h2;obtain ⟨x3,y3,rfl,_⟩:=sl_form h3;have e0:=hce 0 _ rfl;rw [Nat.add_zero] at e0;have e1:=hce 1 _ rfl;have e2:=hce 2 _ rfl;have e3:=hce 3 _ rfl;have e4:=hce 4 _ rfl;have g0:(k:Int) < (s.enums.length:Int):=by omega
  clear hs hr hsome hel hce hk hx
  go_enter Tryz.func191,Tryz.ntmps191
  go_wp2_with (go_at_call 214;(with_reducible refine (cs.out _ (by (repeat (first | (with_reducible assumption) | (with_reducible exact Bel.refl _) | (with_reducible refine Bel.drew ?_) | (with_reducible refine Bel.drewN ?_ _) | (with_reducible refine Bel.alloc ?_ _) | ((with_reducible refine bel_set ?_ ?hge);(case hge => (first | omega | (simp;omega))))))) (by go_simp)).mono ?_);rintro e w1 ⟨rfl,h1⟩;have k1:Bel w w1:=Bel.of (by (repeat (first | (with_reducible assumption) | (with_reducible exact Bel.refl _) | (with_reducible refine Bel.drew ?_) | (with_reducible refine Bel.drewN ?_ _) | (with_reducible refine Bel.alloc ?_ _) | ((with_reducible refine bel_set ?_ ?hge);(case hge => (first | omega | (simp;omega))))))) h1;have hbk:=Lib.hid (block_of_below h1 (heap_alloc_new _ _));obtain ⟨hc,hf⟩:=bcell h1;have f0:=k1.some e0;have f1:=k1.some e1;have f2:=k1.some e2;have f3:=k1.some e3;have f4:=k1.some e4;have hz:=h1.size;simp at hz;clear h1)
  have hb0:=hbk.out;simp only [World.size_alloc] at hb0;clear hbk cs hc hf;refine bodyPost_ret (v:=.tuple #[.agg #[.string (S x.name),.bool x.op,.slice x1 x.items.length y1,.slice x2 x.res.length y2,.slice x3 x.notes.length y3],.bool true]) ?hres rfl ?hpost
  case hres => exact res_row rfl rfl rfl (set5 hb0 _ _ _ _ _) Tryz.underlying74 rfl (by kernel_rfl)
  case hpost => exact ⟨_,by rw [hr2.out];rfl,by rw [hr2.out];exact hvs0.out,Bel.out (by (repeat (first | (with_reducible assumption) | (with_reducible exact Bel.refl _) | (with_reducible refine Bel.drew ?_) | (with_reducible refine Bel.drewN ?_ _) | (with_reducible refine Bel.alloc ?_ _) | ((with_reducible refine bel_set ?_ ?hge);(case hge => (first | omega | (simp;omega)))))))⟩
end Go.Proofs.YtfoaaglbpmmhiaaGreatDoor
