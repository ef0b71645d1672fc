import Derived.Test.YtfoaaglbpmmhiaaGreatDoorUtfDec
import Derived.Test.YtfoaaglbpmmhiaaGreatDoorPrProg1
import Derived.Maps.OwnSet
import Derived.Maps.Views
import Derived.Deep.RegionHeld3
set_option maxRecDepth 100000
set_option maxHeartbeats 4000000
set_option linter.unusedVariables false
set_option linter.unusedSimpArgs false
namespace Go.Proofs.YtfoaaglbpmmhiaaGreatDoor
section
open Go.RowKit Ck
theorem VMsg.len (w:World) (vs:List Value) (x:PMsg) (h:VMsg w vs x):vs.length=5:=by
 obtain⟨_,_,_,_,rfl,_⟩:=h;rfl
theorem VEnum.len (w:World) (vs:List Value) (x:PEnum) (h:VEnum w vs x):vs.length=5:=by
 obtain⟨_,_,_,rfl,_⟩:=h;rfl
theorem VSpan.len (w:World) (vs:List Value) (x:PSpan) (h:VSpan w vs x):vs.length=2:=by
 rw [show vs=_ from h];rfl
theorem VItem.len (w:World) (vs:List Value) (x:PItem) (h:VItem w vs x):vs.length=3:=by
 obtain⟨_,rfl,_⟩:=h;rfl
theorem VField.len (w:World) (vs:List Value) (x:PField) (h:VField w vs x):vs.length=16:=by
 obtain⟨_,_,rfl,⟨_,_,_,_,_,_,_,_,rfl,_⟩,_⟩:=h;rfl
theorem qa5 {α:Type} {C:Nat} {E:World->Nat->Nat->α->Prop} {w:World} {v:Value} {xs:List α} (h:Sl C E w v xs) : ∃(q:Option Addr) (c:Nat),v=.slice q xs.length c/\xs.length<=140737488355328:=by
 obtain⟨q,c,h1,h2,_⟩:=h;exact⟨q,c,h1,h2⟩
theorem qoo (nm name:Str) (q1 q2 q3 q4:Option Addr) (n1 n2 n3 n4 c1 c2 c3 c4:Nat) (B:Nat) (W:World) (hB:W.cell? ⟨B,0,none⟩=some (.string (S name))) :
  Calls Tryz.prog 153 #[.agg #[.string (S nm),.slice q1 n1 c1,.slice q2 n2 c2,.slice q3 n3 c3,.slice q4 n4 c4],.pointer (some ⟨B,0,none⟩)] W fun e w'=>e=.returned (.bool (decide (nm=name)))/\Below W.heap.size W w':=by
 have hlt:B<W.heap.size:=World.block_lt_of_cell? W _ hB;have hv:=h_ (eq_S nm name)
 go_enter Tryz.func153,Tryz.ntmps153
 go_wp2;go_ret
 exact⟨qa3 hv.out,(Below.refl _ _).alloc (Nat.le_refl _) _⟩
theorem cl_enum (nm name:Str) (op:Bool) (q1 q2 q3:Option Addr) (n1 n2 n3 c1 c2 c3:Nat) (B:Nat) (W:World) (hB:W.cell? ⟨B,0,none⟩=some (.string (S name))) :
  Calls Tryz.prog 215 #[.agg #[.string (S nm),.bool op,.slice q1 n1 c1,.slice q2 n2 c2,.slice q3 n3 c3],.pointer (some ⟨B,0,none⟩)] W fun e w'=>e=.returned (.bool (decide (nm=name)))/\Below W.heap.size W w':=by
 have hlt:B<W.heap.size:=World.block_lt_of_cell? W _ hB;have hv:=h_ (eq_S nm name)
 go_enter Tryz.func215,Tryz.ntmps215
 go_wp2;go_ret
 exact⟨qa3 hv.out,(Below.refl _ _).alloc (Nat.le_refl _) _⟩
theorem qmi (lo hi n:Int) (B:Nat) (W:World) (hB:W.cell? ⟨B,0,none⟩=some (.int .i64 n)) :
  Calls Tryz.prog 168 #[.agg #[.int .i64 lo,.int .i64 hi],.pointer (some ⟨B,0,none⟩)] W fun e w'=>e=.returned (.bool (decide (lo<=n/\n<=hi)))/\Below W.heap.size W w':=by
 have hlt:B<W.heap.size:=World.block_lt_of_cell? W _ hB
 go_enter Tryz.func168,Tryz.ntmps168
 go_wp2
 all_goals go_ret
 all_goals refine⟨qa3 ?_,(Below.refl _ _).alloc (Nat.le_refl _) _⟩
 all_goals (rw [Bool.eq_iff_iff];simp_all <;> omega)
theorem qgu (v:Value) (l:List PSpan) (n:Int) (w:World) (hv:Spans w v l) :
  Calls Tryz.prog 127 #[v,.int .i64 n] w fun e w'=>e=.returned (.bool (qbj l n))/\Below w.heap.size w w':=by
 have hs : ∀W,Bel w W->W.cell? ⟨w.heap.size,0,none⟩=some (.int .i64 n)->Calls Tryz.prog 167 #[v,.func (.func 168) #[] #[.pointer (some ⟨w.heap.size,0,none⟩)]] W fun e w'=>e=.returned (.bool (qbj l n))/\Below W.heap.size W w':=fun W hb hc=>by
  refine cf_Span VSpan VSpan.len _ _ (enters_of Tryz.func168 (by kernel_rfl) rfl) v l _ W (hv.bel VSpan.stays hb) (fun x vs W2 _ hx hb2=>?_);rw [show vs=_ from hx];exact qmi x.lo x.hi n _ W2 (hb2.some hc)
 have cs:=h_ hs;clear hs;obtain⟨q,c,rfl,hl⟩:=qa5 hv;clear hv;generalize qbj l n=R at cs
 go_enter Tryz.func127,Tryz.ntmps127
 go_wp2_with (go_at_call 167;(with_reducible refine(cs.out _ (by(repeat (first|(with_reducible assumption)|(with_reducible exact Bel.refl _)|(with_reducible refine Bel.drew ?_)|(with_reducible refine Bel.drewN ?_ _)|(with_reducible refine Bel.alloc ?_ _)|((with_reducible refine qa8 ?_ ?hge);(case hge=>(first|omega|(simp;omega))))))) (by go_simp)).mono ?_);rintro e w1 ⟨rfl,h1⟩;have k1:Bel w w1:=Bel.of (by(repeat (first|(with_reducible assumption)|(with_reducible exact Bel.refl _)|(with_reducible refine Bel.drew ?_)|(with_reducible refine Bel.drewN ?_ _)|(with_reducible refine Bel.alloc ?_ _)|((with_reducible refine qa8 ?_ ?hge);(case hge=>(first|omega|(simp;omega))))))) h1;clear h1)
 go_ret;exact⟨rfl,k1.out⟩
theorem ck_keyed (card key:Int) (w:World):Calls Tryz.prog 158 #[.int .i64 card,.int .i64 key] w fun e w'=>e=.returned (.bool (keyed card key))/\w=w':=by
 go_enter Tryz.func158,Tryz.ntmps158
 go_wp2
 all_goals go_ret
 all_goals refine⟨qa3 ?_,rfl⟩
 all_goals (unfold keyed;rw [Bool.eq_iff_iff];simp_all <;> omega)
def qlx {α:Type} (V:World->List Value->α->Prop) (zero:List Value) (r:Option α) (w:World) (e:Ending) (w':World):Prop:=
 ∃vs,e=.returned (.tuple #[.agg vs.toArray,.bool r.isSome])/\(match r with|some x=>V w vs x|none=>vs=zero)/\Below w.heap.size w w'
def zMsg:List Value:=[.string ByteArray.empty,.slice none 0 0,.slice none 0 0,.slice none 0 0,.slice none 0 0]
def zEnum:List Value:=[.string ByteArray.empty,.bool false,.slice none 0 0,.slice none 0 0,.slice none 0 0]
theorem qca {w a:World} {g:Nat} {o:Obj} (hb:Below a.heap.size a w) (h:a.heap[g]? = some o):w.heap[g]? = some o:=by
 have hlt:g<a.heap.size:=(Array.getElem?_eq_some_iff.1 h).1;rw [hb.block g hlt];exact h
theorem set5 {w1:World} {g:Nat} {t:TypeId} {c0 c1 c2 c3 c4:Value} (hg:w1.heap[g]? = some (.cells #[c0,c1,c2,c3,c4] t (0,0))) (v0 v1 v2 v3 v4:Value) :
  (((((w1.setCell ⟨g,0,none⟩ v0).setCell ⟨g,1,none⟩ v1).setCell ⟨g,2,none⟩ v2).setCell ⟨g,3,none⟩ v3).setCell ⟨g,4,none⟩ v4).heap[g]? = some (.cells #[v0,v1,v2,v3,v4] t (0,0)):=by
 have h0:=heap_setCell_same w1 g 0 _ t v0 hg;rw [show(#[c0,c1,c2,c3,c4]:Array Value).setIfInBounds 0 v0=#[v0,c1,c2,c3,c4]from rfl]at h0;have h1:=heap_setCell_same _ g 1 _ t v1 h0;rw [show(#[v0,c1,c2,c3,c4]:Array Value).setIfInBounds 1 v1=#[v0,v1,c2,c3,c4]from rfl]at h1;have h2:=heap_setCell_same _ g 2 _ t v2 h1;rw [show(#[v0,v1,c2,c3,c4]:Array Value).setIfInBounds 2 v2=#[v0,v1,v2,c3,c4]from rfl]at h2;have h3:=heap_setCell_same _ g 3 _ t v3 h2;rw [show(#[v0,v1,v2,c3,c4]:Array Value).setIfInBounds 3 v3=#[v0,v1,v2,v3,c4]from rfl]at h3;exact heap_setCell_same _ g 4 _ t v4 h3
theorem qeo {P:Program} {fn:Func} {p u:Tmp} {ty:TypeId} (h:fn.results=#[.cell p ty,.tmp u]) {tmps:Array Value} {w:World} {g:Nat} {t:TypeId} {cs:Array Value} {d:TypeDesc} {y:Value}
  (hp:tmps.getD p undef=.pointer (some ⟨g,0,none⟩)) (hy:tmps.getD u undef=y) (hg:w.heap[g]? = some (.cells cs t (0,0)))
  (hu:P.underlying ty=some d) (hd:(match d with | .struct _ | .array _ _=>true|_=>false)=true) (hi:(P.info? ty).map (·.size)=some cs.size) :
  (results fn tmps).run P w=.ok (.tuple #[.agg cs,y]) w:=by
 rw [results_cell_tmp h,hp,hy];simp [asAddr,run_loadVar_row w g t ty cs (0,0) d hg hu hd hi]
theorem qos (mv ev sv:Value) (s:PSchema) (name:Str) (w:World) (hv:VSchema w [mv,ev,sv] s) :
  Calls Tryz.prog 115 #[.agg #[mv,ev,sv],.string (S name)] w (qlx VMsg zMsg (msgOf s name) w):=by
 obtain⟨_,_,_,he,hm,hev,hsv⟩:=hv;cases he;obtain⟨q2,c2,rfl,hl2⟩:=qa5 hev;obtain⟨q3,c3,rfl,hl3⟩:=qa5 hsv
 have hs : ∀W,Bel w W->W.cell? ⟨w.heap.size+1,0,none⟩=some (.string (S name))->Calls Tryz.prog 152 #[mv,.func (.func 153) #[] #[.pointer (some ⟨w.heap.size+1,0,none⟩)]] W fun e w'=>e=.returned (.int .i64 (idxL (fun m=>decide (m.name=name)) s.msgs))/\Below W.heap.size W w':=fun W hb hc=>by
  refine ix_Msg VMsg VMsg.len _ _ (enters_of Tryz.func153 (by kernel_rfl) rfl) mv s.msgs _ W (hm.bel VMsg.stays hb) (fun x vs W2 _ hx hb2=>?_);obtain⟨_,_,_,_,rfl,h1,h2,h3,h4⟩:=hx;obtain⟨_,_,rfl,_⟩:=qa5 h1;obtain⟨_,_,rfl,_⟩:=qa5 h2;obtain⟨_,_,rfl,_⟩:=qa5 h3;obtain⟨_,_,rfl,_⟩:=qa5 h4;exact qoo x.name name _ _ _ _ _ _ _ _ _ _ _ _ _ W2 (hb2.some hc)
 have hr:msgOf s name=s.msgs.find? fun m=>decide (m.name=name):=rfl
 obtain⟨p,c,rfl,hl,hcap,hel⟩:=hm;clear hev hsv;rcases qlb (fun m:PMsg=>decide (m.name=name)) s.msgs with⟨hneg,hnone⟩|⟨k,x,hk,hx,hsome,hkl⟩
 ·have hr2:=h_ (hr.trans hnone)
  clear hr hnone hel;generalize idxL (fun m:PMsg=>decide (m.name=name)) s.msgs=R at hs hneg;have cs:=h_ hs;clear hs
  go_enter Tryz.func115,Tryz.ntmps115
  go_wp2_with (go_at_call 152;(with_reducible refine(cs.out _ (by(repeat (first|(with_reducible assumption)|(with_reducible exact Bel.refl _)|(with_reducible refine Bel.drew ?_)|(with_reducible refine Bel.drewN ?_ _)|(with_reducible refine Bel.alloc ?_ _)|((with_reducible refine qa8 ?_ ?hge);(case hge=>(first|omega|(simp;omega))))))) (by go_simp)).mono ?_);rintro e w1 ⟨rfl,h1⟩;have k1:Bel w w1:=Bel.of (by(repeat (first|(with_reducible assumption)|(with_reducible exact Bel.refl _)|(with_reducible refine Bel.drew ?_)|(with_reducible refine Bel.drewN ?_ _)|(with_reducible refine Bel.alloc ?_ _)|((with_reducible refine qa8 ?_ ?hge);(case hge=>(first|omega|(simp;omega))))))) h1;have hbk:=h_ (qca h1 (heap_alloc_new _ _));obtain⟨hc,hf⟩:=bcell h1;have hz:=h1.size;simp at hz;clear h1)
  have hb0:=hbk.out;simp only [World.size_alloc]at hb0;clear hbk hc hf cs;refine bodyPost_ret (v:=.tuple #[.agg #[.string ⟨#[]⟩,.slice none 0 0,.slice none 0 0,.slice none 0 0,.slice none 0 0],.bool false]) ?hres rfl ?hpost
  case hres=>exact qeo rfl rfl rfl (set5 hb0 _ _ _ _ _) Tryz.underlying44 rfl (by kernel_rfl)
  case hpost=>exact⟨zMsg,by rw [hr2.out];rfl,by rw [hr2.out],Bel.out (by(repeat (first|(with_reducible assumption)|(with_reducible exact Bel.refl _)|(with_reducible refine Bel.drew ?_)|(with_reducible refine Bel.drewN ?_ _)|(with_reducible refine Bel.alloc ?_ _)|((with_reducible refine qa8 ?_ ?hge);(case hge=>(first|omega|(simp;omega)))))))⟩
 ·have hr2:=h_ (hr.trans hsome)
  rw [hk]at hs;have cs:=h_ hs;obtain⟨b,off,rfl,hbs,vs,hce,hvs⟩:=hel k x hx;have hvs0:=h_ hvs;obtain⟨v1,v2,v3,v4,rfl,h1,h2,h3,h4⟩:=hvs;obtain⟨x1,y1,rfl,_⟩:=qa5 h1;obtain⟨x2,y2,rfl,_⟩:=qa5 h2;obtain⟨x3,y3,rfl,_⟩:=qa5 h3;obtain⟨x4,y4,rfl,_⟩:=qa5 h4;have e0:=hce 0 _ rfl;rw [Nat.add_zero]at e0;have e1:=hce 1 _ rfl;have e2:=hce 2 _ rfl;have e3:=hce 3 _ rfl;have e4:=hce 4 _ rfl;have g0:(k:Int)<(s.msgs.length:Int):=by omega
  clear hs hr hsome hel hce hk hx
  go_enter Tryz.func115,Tryz.ntmps115
  go_wp2_with (go_at_call 152;(with_reducible refine(cs.out _ (by(repeat (first|(with_reducible assumption)|(with_reducible exact Bel.refl _)|(with_reducible refine Bel.drew ?_)|(with_reducible refine Bel.drewN ?_ _)|(with_reducible refine Bel.alloc ?_ _)|((with_reducible refine qa8 ?_ ?hge);(case hge=>(first|omega|(simp;omega))))))) (by go_simp)).mono ?_);rintro e w1 ⟨rfl,h1⟩;have k1:Bel w w1:=Bel.of (by(repeat (first|(with_reducible assumption)|(with_reducible exact Bel.refl _)|(with_reducible refine Bel.drew ?_)|(with_reducible refine Bel.drewN ?_ _)|(with_reducible refine Bel.alloc ?_ _)|((with_reducible refine qa8 ?_ ?hge);(case hge=>(first|omega|(simp;omega))))))) h1;have hbk:=h_ (qca h1 (heap_alloc_new _ _));obtain⟨hc,hf⟩:=bcell h1;have f0:=k1.some e0;have f1:=k1.some e1;have f2:=k1.some e2;have f3:=k1.some e3;have f4:=k1.some e4;have hz:=h1.size;simp at hz;clear h1)
  have hb0:=hbk.out;simp only [World.size_alloc]at hb0;clear hbk cs hc hf;refine bodyPost_ret (v:=.tuple #[.agg #[.string (S x.name),.slice x1 x.fields.length y1,.slice x2 x.res.length y2,.slice x3 x.gone.length y3,.slice x4 x.notes.length y4],.bool true]) ?hres rfl ?hpost
  case hres=>exact qeo rfl rfl rfl (set5 hb0 _ _ _ _ _) Tryz.underlying44 rfl (by kernel_rfl)
  case hpost=>exact⟨_,by rw [hr2.out];rfl,by rw [hr2.out];exact hvs0.out,Bel.out (by(repeat (first|(with_reducible assumption)|(with_reducible exact Bel.refl _)|(with_reducible refine Bel.drew ?_)|(with_reducible refine Bel.drewN ?_ _)|(with_reducible refine Bel.alloc ?_ _)|((with_reducible refine qa8 ?_ ?hge);(case hge=>(first|omega|(simp;omega)))))))⟩
theorem ck_enum (mv ev sv:Value) (s:PSchema) (name:Str) (w:World) (hv:VSchema w [mv,ev,sv] s) :
  Calls Tryz.prog 191 #[.agg #[mv,ev,sv],.string (S name)] w (qlx VEnum zEnum (qc9 s name) w):=by
 obtain⟨_,_,_,he,hm,hev,hsv⟩:=hv;cases he;obtain⟨q2,c2,rfl,hl2⟩:=qa5 hm;obtain⟨q3,c3,rfl,hl3⟩:=qa5 hsv;clear hm;have hm:=hev
 have hs : ∀W,Bel w W->W.cell? ⟨w.heap.size+1,0,none⟩=some (.string (S name))->Calls Tryz.prog 214 #[ev,.func (.func 215) #[] #[.pointer (some ⟨w.heap.size+1,0,none⟩)]] W fun e w'=>e=.returned (.int .i64 (idxL (fun m=>decide (m.name=name)) s.enums))/\Below W.heap.size W w':=fun W hb hc=>by
  refine ix_Enum VEnum VEnum.len _ _ (enters_of Tryz.func215 (by kernel_rfl) rfl) ev s.enums _ W (hm.bel VEnum.stays hb) (fun x vs W2 _ hx hb2=>?_);obtain⟨_,_,_,rfl,h1,h2,h3⟩:=hx;obtain⟨_,_,rfl,_⟩:=qa5 h1;obtain⟨_,_,rfl,_⟩:=qa5 h2;obtain⟨_,_,rfl,_⟩:=qa5 h3;exact cl_enum x.name name x.op _ _ _ _ _ _ _ _ _ _ W2 (hb2.some hc)
 have hr:qc9 s name=s.enums.find? fun m=>decide (m.name=name):=rfl
 obtain⟨p,c,rfl,hl,hcap,hel⟩:=hm;clear hev hsv;rcases qlb (fun m:PEnum=>decide (m.name=name)) s.enums with⟨hneg,hnone⟩|⟨k,x,hk,hx,hsome,hkl⟩
 ·have hr2:=h_ (hr.trans hnone)
  clear hr hnone hel;generalize idxL (fun m:PEnum=>decide (m.name=name)) s.enums=R at hs hneg;have cs:=h_ hs;clear hs
  go_enter Tryz.func191,Tryz.ntmps191
  go_wp2_with (go_at_call 214;(with_reducible refine(cs.out _ (by(repeat (first|(with_reducible assumption)|(with_reducible exact Bel.refl _)|(with_reducible refine Bel.drew ?_)|(with_reducible refine Bel.drewN ?_ _)|(with_reducible refine Bel.alloc ?_ _)|((with_reducible refine qa8 ?_ ?hge);(case hge=>(first|omega|(simp;omega))))))) (by go_simp)).mono ?_);rintro e w1 ⟨rfl,h1⟩;have k1:Bel w w1:=Bel.of (by(repeat (first|(with_reducible assumption)|(with_reducible exact Bel.refl _)|(with_reducible refine Bel.drew ?_)|(with_reducible refine Bel.drewN ?_ _)|(with_reducible refine Bel.alloc ?_ _)|((with_reducible refine qa8 ?_ ?hge);(case hge=>(first|omega|(simp;omega))))))) h1;have hbk:=h_ (qca h1 (heap_alloc_new _ _));obtain⟨hc,hf⟩:=bcell h1;have hz:=h1.size;simp at hz;clear h1)
  have hb0:=hbk.out;simp only [World.size_alloc]at hb0;clear hbk hc hf cs;refine bodyPost_ret (v:=.tuple #[.agg #[.string ⟨#[]⟩,.bool false,.slice none 0 0,.slice none 0 0,.slice none 0 0],.bool false]) ?hres rfl ?hpost
  case hres=>exact qeo rfl rfl rfl (set5 hb0 _ _ _ _ _) Tryz.underlying74 rfl (by kernel_rfl)
  case hpost=>exact⟨zEnum,by rw [hr2.out];rfl,by rw [hr2.out],Bel.out (by(repeat (first|(with_reducible assumption)|(with_reducible exact Bel.refl _)|(with_reducible refine Bel.drew ?_)|(with_reducible refine Bel.drewN ?_ _)|(with_reducible refine Bel.alloc ?_ _)|((with_reducible refine qa8 ?_ ?hge);(case hge=>(first|omega|(simp;omega)))))))⟩
 ·have hr2:=h_ (hr.trans hsome)
  rw [hk]at hs;have cs:=h_ hs;obtain⟨b,off,rfl,hbs,vs,hce,hvs⟩:=hel k x hx;have hvs0:=h_ hvs;obtain⟨v1,v2,v3,rfl,h1,h2,h3⟩:=hvs;obtain⟨x1,y1,rfl,_⟩:=qa5 h1;obtain⟨x2,y2,rfl,_⟩:=qa5 h2;obtain⟨x3,y3,rfl,_⟩:=qa5 h3;have e0:=hce 0 _ rfl;rw [Nat.add_zero]at e0;have e1:=hce 1 _ rfl;have e2:=hce 2 _ rfl;have e3:=hce 3 _ rfl;have e4:=hce 4 _ rfl;have g0:(k:Int)<(s.enums.length:Int):=by omega
  clear hs hr hsome hel hce hk hx
  go_enter Tryz.func191,Tryz.ntmps191
  go_wp2_with (go_at_call 214;(with_reducible refine(cs.out _ (by(repeat (first|(with_reducible assumption)|(with_reducible exact Bel.refl _)|(with_reducible refine Bel.drew ?_)|(with_reducible refine Bel.drewN ?_ _)|(with_reducible refine Bel.alloc ?_ _)|((with_reducible refine qa8 ?_ ?hge);(case hge=>(first|omega|(simp;omega))))))) (by go_simp)).mono ?_);rintro e w1 ⟨rfl,h1⟩;have k1:Bel w w1:=Bel.of (by(repeat (first|(with_reducible assumption)|(with_reducible exact Bel.refl _)|(with_reducible refine Bel.drew ?_)|(with_reducible refine Bel.drewN ?_ _)|(with_reducible refine Bel.alloc ?_ _)|((with_reducible refine qa8 ?_ ?hge);(case hge=>(first|omega|(simp;omega))))))) h1;have hbk:=h_ (qca h1 (heap_alloc_new _ _));obtain⟨hc,hf⟩:=bcell h1;have f0:=k1.some e0;have f1:=k1.some e1;have f2:=k1.some e2;have f3:=k1.some e3;have f4:=k1.some e4;have hz:=h1.size;simp at hz;clear h1)
  have hb0:=hbk.out;simp only [World.size_alloc]at hb0;clear hbk cs hc hf;refine bodyPost_ret (v:=.tuple #[.agg #[.string (S x.name),.bool x.op,.slice x1 x.items.length y1,.slice x2 x.res.length y2,.slice x3 x.notes.length y3],.bool true]) ?hres rfl ?hpost
  case hres=>exact qeo rfl rfl rfl (set5 hb0 _ _ _ _ _) Tryz.underlying74 rfl (by kernel_rfl)
  case hpost=>exact⟨_,by rw [hr2.out];rfl,by rw [hr2.out];exact hvs0.out,Bel.out (by(repeat (first|(with_reducible assumption)|(with_reducible exact Bel.refl _)|(with_reducible refine Bel.drew ?_)|(with_reducible refine Bel.drewN ?_ _)|(with_reducible refine Bel.alloc ?_ _)|((with_reducible refine qa8 ?_ ?hge);(case hge=>(first|omega|(simp;omega)))))))⟩
end
section
open Go.RowKit Ck
theorem qgt (xn:Str) (xu:Int) (xq:Option Addr) (xm xc:Nat) (W:World):Calls Tryz.prog 126 #[.agg #[.string (S xn),.int .i64 xu,.slice xq xm xc]] W fun e w'=>e=.returned (.string (S xn))/\Below W.heap.size W w':=by
 go_enter Tryz.func126,Tryz.ntmps126
 go_wp2;go_ret
 exact⟨rfl,(Below.refl _ _).alloc (Nat.le_refl _) _⟩
theorem qfs (xu:Int) (xn:Str) (xca xke xtk:Int) (xtn xun:Str) (xhd:Bool) (xvk xvx:Int) (xvt:Str) (xr1 xr2 xr3 xr4 xr5:Option Addr) (xm1 xd1 xm2 xd2 xm3 xd3 xm4 xd4 xm5 xd5:Nat) (W:World):Calls Tryz.prog 157 #[.agg #[.int .i64 xu,.string (S xn),.int .i64 xca,.int .i64 xke,.int .i64 xtk,.string (S xtn),.string (S xun),.bool xhd,.int .i64 xvk,.int .u64 xvx,.string (S xvt),.slice xr1 xm1 xd1,.slice xr2 xm2 xd2,.slice xr3 xm3 xd3,.slice xr4 xm4 xd4,.slice xr5 xm5 xd5]] W fun e w'=>e=.returned (.string (S xn))/\Below W.heap.size W w':=by
 go_enter Tryz.func157,Tryz.ntmps157
 go_wp2;go_ret
 exact⟨rfl,(Below.refl _ _).alloc (Nat.le_refl _) _⟩
theorem qd3 {α:Type} (xs:List α) (i j:Nat) (x:α) (h:(xs.take i)[j]? = some x):xs[j]? = some x:=by
 rw [List.getElem?_take]at h
 split at h
 ·exact h
 ·cases h
theorem qmh (xn:Str) (xu:Int) (xq:Option Addr) (xm xc:Nat) (yn:Str) (yu:Int) (yq:Option Addr) (ym yc:Nat) (B1 B2 B3 b off i n c:Nat) (W:World) (h1:W.cell? ⟨B1,0,none⟩=some (.func (.func 126) #[] #[])) (h2:W.cell? ⟨B2,0,none⟩=some (.slice (some ⟨b,off,none⟩) n c)) (h3:W.cell? ⟨B3,0,none⟩=some (.int .i64 i)) (hin:i<n)
  (y_0:W.cell? ⟨b,off+i*3,none⟩=some (.string (S yn))) (y_1:W.cell? ⟨b,off+i*3+1,none⟩=some (.int .i64 yu)) (y_2:W.cell? ⟨b,off+i*3+2,none⟩=some (.slice yq ym yc)) :
  Calls Tryz.prog 166 #[.agg #[.string (S xn),.int .i64 xu,.slice xq xm xc],.pointer (some ⟨B1,0,none⟩),.pointer (some ⟨B2,0,none⟩),.pointer (some ⟨B3,0,none⟩)] W fun e w'=>e=.returned (.bool (decide (xn=yn)))/\Below W.heap.size W w':=by
 have hv:=h_ (eq_S xn yn)
 have hk : ∀w',Bel (W.alloc (.cells #[.string (S xn),.int .i64 xu,.slice xq xm xc] 76)) w'->w'.cell? ⟨B1,0,none⟩=some (.func (.func 126) #[] #[])/\w'.cell? ⟨B2,0,none⟩=some (.slice (some ⟨b,off,none⟩) n c)/\w'.cell? ⟨B3,0,none⟩=some (.int .i64 i)/\w'.cell? ⟨b,off+i*3,none⟩=some (.string (S yn))/\w'.cell? ⟨b,off+i*3+1,none⟩=some (.int .i64 yu)/\w'.cell? ⟨b,off+i*3+2,none⟩=some (.slice yq ym yc)/\w'.cell? ⟨W.heap.size,0,none⟩=some (.string (S xn))/\w'.cell? ⟨W.heap.size,1,none⟩=some (.int .i64 xu)/\w'.cell? ⟨W.heap.size,2,none⟩=some (.slice xq xm xc):=fun w' hb=>by
  have ho : ∀(g o:Nat) (v:Value),W.cell? ⟨g,o,none⟩=some v->w'.cell? ⟨g,o,none⟩=some v:=fun g o v h=>hb.some ((World.cell?_alloc_past _ g o (World.block_lt_of_cell? W _ h)).trans h)
  refine⟨ho _ _ _ h1,ho _ _ _ h2,ho _ _ _ h3,ho _ _ _ y_0,ho _ _ _ y_1,ho _ _ _ y_2,?_,?_,?_⟩
  all_goals (refine hb.some ?_;rw [World.cell?_alloc_at _ _ _ _ rfl];rfl)
 have KS:=h_ hk;have c1:=h_ (fun W=>qgt xn xu xq xm xc W);have c2:=h_ (fun W=>qgt yn yu yq ym yc W);have hi0:(0:Int)<=(i:Int):=by omega
 have hi1:(i:Int)<(n:Int):=by omega
 clear hk h1 h2 h3 y_0 y_1 y_2
 go_enter Tryz.func166,Tryz.ntmps166
 go_wp2
 go_region_held3 (fun w'=>w'.cell? ⟨B1,0,none⟩=some (.func (.func 126) #[] #[])/\w'.cell? ⟨B2,0,none⟩=some (.slice (some ⟨b,off,none⟩) n c)/\w'.cell? ⟨B3,0,none⟩=some (.int .i64 i)/\w'.cell? ⟨b,off+i*3,none⟩=some (.string (S yn))/\w'.cell? ⟨b,off+i*3+1,none⟩=some (.int .i64 yu)/\w'.cell? ⟨b,off+i*3+2,none⟩=some (.slice yq ym yc)/\w'.cell? ⟨W.heap.size,0,none⟩=some (.string (S xn))/\w'.cell? ⟨W.heap.size,1,none⟩=some (.int .i64 xu)/\w'.cell? ⟨W.heap.size,2,none⟩=some (.slice xq xm xc)) (first|(exact KS.out _ (by(with_reducible repeat first|assumption|exact Bel.refl _|refine Bel.drew ?_|refine Bel.drewN ?_ _|refine Bel.alloc ?_ _))))
  (first
   | (go_at_call 126;(with_reducible refine(c1.out _).mono ?_);rintro e w1 ⟨rfl,g1⟩;have k1:Bel (W.alloc (.cells #[.string (S xn),.int .i64 xu,.slice xq xm xc] 76)) w1:=Bel.of (by(with_reducible repeat first|assumption|exact Bel.refl _|refine Bel.drew ?_|refine Bel.drewN ?_ _|refine Bel.alloc ?_ _)) g1;clear g1)
   | (go_at_call 126;(with_reducible refine(c2.out _).mono ?_);rintro e w1 ⟨rfl,g1⟩;have k1:Bel (W.alloc (.cells #[.string (S xn),.int .i64 xu,.slice xq xm xc] 76)) w1:=Bel.of (by(with_reducible repeat first|assumption|exact Bel.refl _|refine Bel.drew ?_|refine Bel.drewN ?_ _|refine Bel.alloc ?_ _)) g1;clear g1))
 all_goals go_wp2
 all_goals go_ret
 all_goals exact⟨qa3 hv.out,Bel.out (Bel.of ((Bel.refl W).alloc _) (by assumption))⟩
theorem qmj (v:Value) (xs:List PItem) (i:Nat) (w:World) (hv:Sv 3 VItem w v xs) (hi:i<xs.length) :
  Calls Tryz.prog 125 #[v,.int .i64 (i:Int),.func (.func 126) #[] #[]] w fun e w'=>e=.returned (.bool ((xs.take i).any fun x=>decide (x.name=xs[i].name)))/\Below w.heap.size w w':=by
 obtain⟨q,c,rfl,hl,hcap,hel⟩:=hv;obtain⟨b,off,rfl,hbs,vs,hce,hvs⟩:=hel i _ (List.getElem?_eq_getElem hi)
 have hs : ∀W,Bel w W->W.cell? ⟨w.heap.size+1+1,0,none⟩=some (.func (.func 126) #[] #[])->W.cell? ⟨w.heap.size,0,none⟩=some (.slice (some ⟨b,off,none⟩) xs.length c)->W.cell? ⟨w.heap.size+1,0,none⟩=some (.int .i64 (i:Int)) →
   Calls Tryz.prog 165 #[.slice (some ⟨b,off,none⟩) i c,.func (.func 166) #[] #[.pointer (some ⟨w.heap.size+1+1,0,none⟩),.pointer (some ⟨w.heap.size,0,none⟩),.pointer (some ⟨w.heap.size+1,0,none⟩)]] W fun e w'=>e=.returned (.bool ((xs.take i).any fun x=>decide (x.name=xs[i].name)))/\Below W.heap.size W w':=fun W hb g1 g2 g3=>by
  have hlen:(xs.take i).length=i:=by rw [List.length_take];omega
  refine cf_Item VItem VItem.len _ _ (enters_of Tryz.func166 (by kernel_rfl) rfl) _ (xs.take i) _ W ⟨some ⟨b,off,none⟩,c,by rw [hlen],by omega,by omega,fun j x hx=>?_⟩ (fun x vx W2 _ hx hb2=>?_)
  ·obtain⟨b',off',he,hb',hE⟩:=hel j x (qd3 xs i j x hx)
   cases he;exact⟨b,off,rfl,Nat.lt_of_lt_of_le hb' hb.size,El.keeps VItem.stays _ _ _ _ _ hb' hb hE⟩
  obtain⟨_,rfl,hxn⟩:=hx;obtain⟨_,_,rfl,_⟩:=qa5 hxn;have hy : ∀j u,vs[j]? = some u->W2.cell? ⟨b,off+i*3+j,none⟩=some u:=fun j u hu=>hb2.some (hb.some (hce j u hu))
  obtain⟨_,rfl,hyn⟩:=hvs;obtain⟨_,_,rfl,_⟩:=qa5 hyn;exact qmh x.name x.num _ _ _ xs[i].name xs[i].num _ _ _ _ _ _ b off i xs.length c W2 (hb2.some g1) (hb2.some g2) (hb2.some g3) hi (hy 0 _ rfl) (hy 1 _ rfl) (hy 2 _ rfl)
 have cs:=h_ hs;clear hs hel hce hvs;generalize ((xs.take i).any fun x=>decide (x.name=xs[i].name))=R at cs;have hi0:(0:Int)<=(i:Int):=by omega
 have hi1:(i:Int)<=(c:Int):=by omega
 go_enter Tryz.func125,Tryz.ntmps125
 go_wp2_with (go_at_call 165;(with_reducible refine(cs.out _ (by(with_reducible repeat first|assumption|exact Bel.refl _|refine Bel.drew ?_|refine Bel.drewN ?_ _|refine Bel.alloc ?_ _)) (by go_simp) (by go_simp) (by go_simp)).mono ?_);rintro e w1 ⟨rfl,h1⟩;have k1:Bel w w1:=Bel.of (by(with_reducible repeat first|assumption|exact Bel.refl _|refine Bel.drew ?_|refine Bel.drewN ?_ _|refine Bel.alloc ?_ _)) h1;clear h1)
 go_ret;exact⟨rfl,k1.out⟩
theorem qjw (xu:Int) (xn:Str) (xca xke xtk:Int) (xtn xun:Str) (xhd:Bool) (xvk xvx:Int) (xvt:Str) (xr1 xr2 xr3 xr4 xr5:Option Addr) (xm1 xd1 xm2 xd2 xm3 xd3 xm4 xd4 xm5 xd5:Nat) (yu:Int) (yn:Str) (yca yke ytk:Int) (ytn yun:Str) (yhd:Bool) (yvk yvx:Int) (yvt:Str) (yr1 yr2 yr3 yr4 yr5:Option Addr) (ym1 yd1 ym2 yd2 ym3 yd3 ym4 yd4 ym5 yd5:Nat) (B1 B2 B3 b off i n c:Nat) (W:World) (h1:W.cell? ⟨B1,0,none⟩=some (.func (.func 157) #[] #[])) (h2:W.cell? ⟨B2,0,none⟩=some (.slice (some ⟨b,off,none⟩) n c)) (h3:W.cell? ⟨B3,0,none⟩=some (.int .i64 i)) (hin:i<n)
  (y_0:W.cell? ⟨b,off+i*16,none⟩=some (.int .i64 yu)) (y_1:W.cell? ⟨b,off+i*16+1,none⟩=some (.string (S yn))) (y_2:W.cell? ⟨b,off+i*16+2,none⟩=some (.int .i64 yca)) (y_3:W.cell? ⟨b,off+i*16+3,none⟩=some (.int .i64 yke)) (y_4:W.cell? ⟨b,off+i*16+4,none⟩=some (.int .i64 ytk)) (y_5:W.cell? ⟨b,off+i*16+5,none⟩=some (.string (S ytn))) (y_6:W.cell? ⟨b,off+i*16+6,none⟩=some (.string (S yun))) (y_7:W.cell? ⟨b,off+i*16+7,none⟩=some (.bool yhd)) (y_8:W.cell? ⟨b,off+i*16+8,none⟩=some (.int .i64 yvk)) (y_9:W.cell? ⟨b,off+i*16+9,none⟩=some (.int .u64 yvx)) (y_10:W.cell? ⟨b,off+i*16+10,none⟩=some (.string (S yvt))) (y_11:W.cell? ⟨b,off+i*16+11,none⟩=some (.slice yr1 ym1 yd1)) (y_12:W.cell? ⟨b,off+i*16+12,none⟩=some (.slice yr2 ym2 yd2)) (y_13:W.cell? ⟨b,off+i*16+13,none⟩=some (.slice yr3 ym3 yd3)) (y_14:W.cell? ⟨b,off+i*16+14,none⟩=some (.slice yr4 ym4 yd4)) (y_15:W.cell? ⟨b,off+i*16+15,none⟩=some (.slice yr5 ym5 yd5)) :
  Calls Tryz.prog 190 #[.agg #[.int .i64 xu,.string (S xn),.int .i64 xca,.int .i64 xke,.int .i64 xtk,.string (S xtn),.string (S xun),.bool xhd,.int .i64 xvk,.int .u64 xvx,.string (S xvt),.slice xr1 xm1 xd1,.slice xr2 xm2 xd2,.slice xr3 xm3 xd3,.slice xr4 xm4 xd4,.slice xr5 xm5 xd5],.pointer (some ⟨B1,0,none⟩),.pointer (some ⟨B2,0,none⟩),.pointer (some ⟨B3,0,none⟩)] W fun e w'=>e=.returned (.bool (decide (xn=yn)))/\Below W.heap.size W w':=by
 have hv:=h_ (eq_S xn yn)
 have hk : ∀w',Bel (W.alloc (.cells #[.int .i64 xu,.string (S xn),.int .i64 xca,.int .i64 xke,.int .i64 xtk,.string (S xtn),.string (S xun),.bool xhd,.int .i64 xvk,.int .u64 xvx,.string (S xvt),.slice xr1 xm1 xd1,.slice xr2 xm2 xd2,.slice xr3 xm3 xd3,.slice xr4 xm4 xd4,.slice xr5 xm5 xd5] 63)) w'->w'.cell? ⟨B1,0,none⟩=some (.func (.func 157) #[] #[])/\w'.cell? ⟨B2,0,none⟩=some (.slice (some ⟨b,off,none⟩) n c)/\w'.cell? ⟨B3,0,none⟩=some (.int .i64 i)/\w'.cell? ⟨b,off+i*16,none⟩=some (.int .i64 yu)/\w'.cell? ⟨b,off+i*16+1,none⟩=some (.string (S yn))/\w'.cell? ⟨b,off+i*16+2,none⟩=some (.int .i64 yca)/\w'.cell? ⟨b,off+i*16+3,none⟩=some (.int .i64 yke)/\w'.cell? ⟨b,off+i*16+4,none⟩=some (.int .i64 ytk)/\w'.cell? ⟨b,off+i*16+5,none⟩=some (.string (S ytn))/\w'.cell? ⟨b,off+i*16+6,none⟩=some (.string (S yun))/\w'.cell? ⟨b,off+i*16+7,none⟩=some (.bool yhd)/\w'.cell? ⟨b,off+i*16+8,none⟩=some (.int .i64 yvk)/\w'.cell? ⟨b,off+i*16+9,none⟩=some (.int .u64 yvx)/\w'.cell? ⟨b,off+i*16+10,none⟩=some (.string (S yvt))/\w'.cell? ⟨b,off+i*16+11,none⟩=some (.slice yr1 ym1 yd1)/\w'.cell? ⟨b,off+i*16+12,none⟩=some (.slice yr2 ym2 yd2)/\w'.cell? ⟨b,off+i*16+13,none⟩=some (.slice yr3 ym3 yd3)/\w'.cell? ⟨b,off+i*16+14,none⟩=some (.slice yr4 ym4 yd4)/\w'.cell? ⟨b,off+i*16+15,none⟩=some (.slice yr5 ym5 yd5)/\w'.cell? ⟨W.heap.size,0,none⟩=some (.int .i64 xu)/\w'.cell? ⟨W.heap.size,1,none⟩=some (.string (S xn))/\w'.cell? ⟨W.heap.size,2,none⟩=some (.int .i64 xca)/\w'.cell? ⟨W.heap.size,3,none⟩=some (.int .i64 xke)/\w'.cell? ⟨W.heap.size,4,none⟩=some (.int .i64 xtk)/\w'.cell? ⟨W.heap.size,5,none⟩=some (.string (S xtn))/\w'.cell? ⟨W.heap.size,6,none⟩=some (.string (S xun))/\w'.cell? ⟨W.heap.size,7,none⟩=some (.bool xhd)/\w'.cell? ⟨W.heap.size,8,none⟩=some (.int .i64 xvk)/\w'.cell? ⟨W.heap.size,9,none⟩=some (.int .u64 xvx)/\w'.cell? ⟨W.heap.size,10,none⟩=some (.string (S xvt))/\w'.cell? ⟨W.heap.size,11,none⟩=some (.slice xr1 xm1 xd1)/\w'.cell? ⟨W.heap.size,12,none⟩=some (.slice xr2 xm2 xd2)/\w'.cell? ⟨W.heap.size,13,none⟩=some (.slice xr3 xm3 xd3)/\w'.cell? ⟨W.heap.size,14,none⟩=some (.slice xr4 xm4 xd4)/\w'.cell? ⟨W.heap.size,15,none⟩=some (.slice xr5 xm5 xd5):=fun w' hb=>by
  have ho : ∀(g o:Nat) (v:Value),W.cell? ⟨g,o,none⟩=some v->w'.cell? ⟨g,o,none⟩=some v:=fun g o v h=>hb.some ((World.cell?_alloc_past _ g o (World.block_lt_of_cell? W _ h)).trans h)
  refine⟨ho _ _ _ h1,ho _ _ _ h2,ho _ _ _ h3,ho _ _ _ y_0,ho _ _ _ y_1,ho _ _ _ y_2,ho _ _ _ y_3,ho _ _ _ y_4,ho _ _ _ y_5,ho _ _ _ y_6,ho _ _ _ y_7,ho _ _ _ y_8,ho _ _ _ y_9,ho _ _ _ y_10,ho _ _ _ y_11,ho _ _ _ y_12,ho _ _ _ y_13,ho _ _ _ y_14,ho _ _ _ y_15,?_,?_,?_,?_,?_,?_,?_,?_,?_,?_,?_,?_,?_,?_,?_,?_⟩
  all_goals (refine hb.some ?_;rw [World.cell?_alloc_at _ _ _ _ rfl];rfl)
 have KS:=h_ hk;have c1:=h_ (fun W=>qfs xu xn xca xke xtk xtn xun xhd xvk xvx xvt xr1 xr2 xr3 xr4 xr5 xm1 xd1 xm2 xd2 xm3 xd3 xm4 xd4 xm5 xd5 W);have c2:=h_ (fun W=>qfs yu yn yca yke ytk ytn yun yhd yvk yvx yvt yr1 yr2 yr3 yr4 yr5 ym1 yd1 ym2 yd2 ym3 yd3 ym4 yd4 ym5 yd5 W);have hi0:(0:Int)<=(i:Int):=by omega
 have hi1:(i:Int)<(n:Int):=by omega
 clear hk h1 h2 h3 y_0 y_1 y_2 y_3 y_4 y_5 y_6 y_7 y_8 y_9 y_10 y_11 y_12 y_13 y_14 y_15
 go_enter Tryz.func190,Tryz.ntmps190
 go_wp2
 go_region_held3 (fun w'=>w'.cell? ⟨B1,0,none⟩=some (.func (.func 157) #[] #[])/\w'.cell? ⟨B2,0,none⟩=some (.slice (some ⟨b,off,none⟩) n c)/\w'.cell? ⟨B3,0,none⟩=some (.int .i64 i)/\w'.cell? ⟨b,off+i*16,none⟩=some (.int .i64 yu)/\w'.cell? ⟨b,off+i*16+1,none⟩=some (.string (S yn))/\w'.cell? ⟨b,off+i*16+2,none⟩=some (.int .i64 yca)/\w'.cell? ⟨b,off+i*16+3,none⟩=some (.int .i64 yke)/\w'.cell? ⟨b,off+i*16+4,none⟩=some (.int .i64 ytk)/\w'.cell? ⟨b,off+i*16+5,none⟩=some (.string (S ytn))/\w'.cell? ⟨b,off+i*16+6,none⟩=some (.string (S yun))/\w'.cell? ⟨b,off+i*16+7,none⟩=some (.bool yhd)/\w'.cell? ⟨b,off+i*16+8,none⟩=some (.int .i64 yvk)/\w'.cell? ⟨b,off+i*16+9,none⟩=some (.int .u64 yvx)/\w'.cell? ⟨b,off+i*16+10,none⟩=some (.string (S yvt))/\w'.cell? ⟨b,off+i*16+11,none⟩=some (.slice yr1 ym1 yd1)/\w'.cell? ⟨b,off+i*16+12,none⟩=some (.slice yr2 ym2 yd2)/\w'.cell? ⟨b,off+i*16+13,none⟩=some (.slice yr3 ym3 yd3)/\w'.cell? ⟨b,off+i*16+14,none⟩=some (.slice yr4 ym4 yd4)/\w'.cell? ⟨b,off+i*16+15,none⟩=some (.slice yr5 ym5 yd5)/\w'.cell? ⟨W.heap.size,0,none⟩=some (.int .i64 xu)/\w'.cell? ⟨W.heap.size,1,none⟩=some (.string (S xn))/\w'.cell? ⟨W.heap.size,2,none⟩=some (.int .i64 xca)/\w'.cell? ⟨W.heap.size,3,none⟩=some (.int .i64 xke)/\w'.cell? ⟨W.heap.size,4,none⟩=some (.int .i64 xtk)/\w'.cell? ⟨W.heap.size,5,none⟩=some (.string (S xtn))/\w'.cell? ⟨W.heap.size,6,none⟩=some (.string (S xun))/\w'.cell? ⟨W.heap.size,7,none⟩=some (.bool xhd)/\w'.cell? ⟨W.heap.size,8,none⟩=some (.int .i64 xvk)/\w'.cell? ⟨W.heap.size,9,none⟩=some (.int .u64 xvx)/\w'.cell? ⟨W.heap.size,10,none⟩=some (.string (S xvt))/\w'.cell? ⟨W.heap.size,11,none⟩=some (.slice xr1 xm1 xd1)/\w'.cell? ⟨W.heap.size,12,none⟩=some (.slice xr2 xm2 xd2)/\w'.cell? ⟨W.heap.size,13,none⟩=some (.slice xr3 xm3 xd3)/\w'.cell? ⟨W.heap.size,14,none⟩=some (.slice xr4 xm4 xd4)/\w'.cell? ⟨W.heap.size,15,none⟩=some (.slice xr5 xm5 xd5)) (first|(exact KS.out _ (by(with_reducible repeat first|assumption|exact Bel.refl _|refine Bel.drew ?_|refine Bel.drewN ?_ _|refine Bel.alloc ?_ _))))
  (first
   | (go_at_call 157;(with_reducible refine(c1.out _).mono ?_);rintro e w1 ⟨rfl,g1⟩;have k1:Bel (W.alloc (.cells #[.int .i64 xu,.string (S xn),.int .i64 xca,.int .i64 xke,.int .i64 xtk,.string (S xtn),.string (S xun),.bool xhd,.int .i64 xvk,.int .u64 xvx,.string (S xvt),.slice xr1 xm1 xd1,.slice xr2 xm2 xd2,.slice xr3 xm3 xd3,.slice xr4 xm4 xd4,.slice xr5 xm5 xd5] 63)) w1:=Bel.of (by(with_reducible repeat first|assumption|exact Bel.refl _|refine Bel.drew ?_|refine Bel.drewN ?_ _|refine Bel.alloc ?_ _)) g1;clear g1)
   | (go_at_call 157;(with_reducible refine(c2.out _).mono ?_);rintro e w1 ⟨rfl,g1⟩;have k1:Bel (W.alloc (.cells #[.int .i64 xu,.string (S xn),.int .i64 xca,.int .i64 xke,.int .i64 xtk,.string (S xtn),.string (S xun),.bool xhd,.int .i64 xvk,.int .u64 xvx,.string (S xvt),.slice xr1 xm1 xd1,.slice xr2 xm2 xd2,.slice xr3 xm3 xd3,.slice xr4 xm4 xd4,.slice xr5 xm5 xd5] 63)) w1:=Bel.of (by(with_reducible repeat first|assumption|exact Bel.refl _|refine Bel.drew ?_|refine Bel.drewN ?_ _|refine Bel.alloc ?_ _)) g1;clear g1))
 all_goals go_wp2
 all_goals go_ret
 all_goals exact⟨qa3 hv.out,Bel.out (Bel.of ((Bel.refl W).alloc _) (by assumption))⟩
theorem qjy (v:Value) (xs:List PField) (i:Nat) (w:World) (hv:Sv 16 VField w v xs) (hi:i<xs.length) :
  Calls Tryz.prog 156 #[v,.int .i64 (i:Int),.func (.func 157) #[] #[]] w fun e w'=>e=.returned (.bool ((xs.take i).any fun x=>decide (x.name=xs[i].name)))/\Below w.heap.size w w':=by
 obtain⟨q,c,rfl,hl,hcap,hel⟩:=hv;obtain⟨b,off,rfl,hbs,vs,hce,hvs⟩:=hel i _ (List.getElem?_eq_getElem hi)
 have hs : ∀W,Bel w W->W.cell? ⟨w.heap.size+1+1,0,none⟩=some (.func (.func 157) #[] #[])->W.cell? ⟨w.heap.size,0,none⟩=some (.slice (some ⟨b,off,none⟩) xs.length c)->W.cell? ⟨w.heap.size+1,0,none⟩=some (.int .i64 (i:Int)) →
   Calls Tryz.prog 189 #[.slice (some ⟨b,off,none⟩) i c,.func (.func 190) #[] #[.pointer (some ⟨w.heap.size+1+1,0,none⟩),.pointer (some ⟨w.heap.size,0,none⟩),.pointer (some ⟨w.heap.size+1,0,none⟩)]] W fun e w'=>e=.returned (.bool ((xs.take i).any fun x=>decide (x.name=xs[i].name)))/\Below W.heap.size W w':=fun W hb g1 g2 g3=>by
  have hlen:(xs.take i).length=i:=by rw [List.length_take];omega
  refine qc5 VField VField.len _ _ (enters_of Tryz.func190 (by kernel_rfl) rfl) _ (xs.take i) _ W ⟨some ⟨b,off,none⟩,c,by rw [hlen],by omega,by omega,fun j x hx=>?_⟩ (fun x vx W2 _ hx hb2=>?_)
  ·obtain⟨b',off',he,hb',hE⟩:=hel j x (qd3 xs i j x hx)
   cases he;exact⟨b,off,rfl,Nat.lt_of_lt_of_le hb' hb.size,El.keeps VField.stays _ _ _ _ _ hb' hb hE⟩
  obtain⟨_,_,rfl,⟨_,_,_,_,_,_,_,_,rfl,_⟩,hxn⟩:=hx;obtain⟨_,_,rfl,_⟩:=qa5 hxn;have hy : ∀j u,vs[j]? = some u->W2.cell? ⟨b,off+i*16+j,none⟩=some u:=fun j u hu=>hb2.some (hb.some (hce j u hu))
  obtain⟨_,_,rfl,⟨_,_,_,_,_,_,_,_,rfl,_⟩,hyn⟩:=hvs;obtain⟨_,_,rfl,_⟩:=qa5 hyn;exact qjw x.num x.name x.card x.key x.tk x.tn x.un x.hd x.df.k x.df.x x.df.t _ _ _ _ _ _ _ _ _ _ _ _ _ _ _ xs[i].num xs[i].name xs[i].card xs[i].key xs[i].tk xs[i].tn xs[i].un xs[i].hd xs[i].df.k xs[i].df.x xs[i].df.t _ _ _ _ _ _ _ _ _ _ _ _ _ _ _ _ _ _ b off i xs.length c W2 (hb2.some g1) (hb2.some g2) (hb2.some g3) hi (hy 0 _ rfl) (hy 1 _ rfl) (hy 2 _ rfl) (hy 3 _ rfl) (hy 4 _ rfl) (hy 5 _ rfl) (hy 6 _ rfl) (hy 7 _ rfl) (hy 8 _ rfl) (hy 9 _ rfl) (hy 10 _ rfl) (hy 11 _ rfl) (hy 12 _ rfl) (hy 13 _ rfl) (hy 14 _ rfl) (hy 15 _ rfl)
 have cs:=h_ hs;clear hs hel hce hvs;generalize ((xs.take i).any fun x=>decide (x.name=xs[i].name))=R at cs;have hi0:(0:Int)<=(i:Int):=by omega
 have hi1:(i:Int)<=(c:Int):=by omega
 go_enter Tryz.func156,Tryz.ntmps156
 go_wp2_with (go_at_call 189;(with_reducible refine(cs.out _ (by(with_reducible repeat first|assumption|exact Bel.refl _|refine Bel.drew ?_|refine Bel.drewN ?_ _|refine Bel.alloc ?_ _)) (by go_simp) (by go_simp) (by go_simp)).mono ?_);rintro e w1 ⟨rfl,h1⟩;have k1:Bel w w1:=Bel.of (by(with_reducible repeat first|assumption|exact Bel.refl _|refine Bel.drew ?_|refine Bel.drewN ?_ _|refine Bel.alloc ?_ _)) h1;clear h1)
 go_ret;exact⟨rfl,k1.out⟩
end
end Go.Proofs.YtfoaaglbpmmhiaaGreatDoor
