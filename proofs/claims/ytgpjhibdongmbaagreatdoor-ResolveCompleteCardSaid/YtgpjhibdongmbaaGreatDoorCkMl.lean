import Derived.Test.YtgpjhibdongmbaaGreatDoorUtfDec
import Derived.Test.YtgpjhibdongmbaaGreatDoorShelf
import Derived.Shelf.Strings.BuilderK
import Derived.Test.YtgpjhibdongmbaaGreatDoorRsRes9
import Derived.Lib.ItoaLen
import Derived.Lib.ItoaNum
import Derived.Lib.LaidTab
import Derived.Lib.AppendIntMem
import Derived.Test.YtgpjhibdongmbaaGreatDoorRows
import Derived.ProofKit
import Derived.OpenShut
import Derived.ReadAgain
import Derived.Deep.Slices
import Derived.Lay
import Derived.MakeChecks
import Derived.LaidLaws
import Derived.Deep.DeepHandedRow
import Derived.Test.YtgpjhibdongmbaaGreatDoorIdWord
import Derived.Stop.LaidErr
import Derived.Test.YtgpjhibdongmbaaGreatDoorCkIdx
import Derived.Test.YtgpjhibdongmbaaGreatDoorStillL
import Derived.Test.YtgpjhibdongmbaaGreatDoorMap
set_option maxRecDepth 100000
set_option maxHeartbeats 4000000
set_option linter.unusedVariables false
set_option linter.unusedSimpArgs false
namespace Go.Proofs.YtgpjhibdongmbaaGreatDoor
section
open Go.RowKit
theorem qla:(Tryz.prog.info? 70).map (·.size)=some 2:=by kernel_rfl
theorem bld_lies:liesAt Tryz.prog Tryz.prog.depth 70 (2 / Tryz.prog.cellsOf 70) 0 70 1=true:=by kernel_rfl
theorem qms:(Tryz.prog.info? 5).map (fun i=>(i.zero,i.size,i.bytes))=some (some (.int .u8 0),1,1):=by kernel_rfl
theorem qf9 (b:Nat) (w:World) (h0:w.cell? ⟨b,0,none⟩=some (.pointer (some ⟨b,0,none⟩))) :
  Calls Tryz.prog 69 #[.pointer (some ⟨b,0,none⟩)] w fun e w'=>e=.returned (.tuple #[])/\w'=w:=by
 obtain⟨j,hj,_⟩:=Option.map_eq_some_iff.1 qla
 go_enter Tryz.func69,Tryz.ntmps69
 go_wp2;rw [Lib.run_neq_ptr_same w _ Tryz.underlying67 hj]
 go_wp2
 go_end0
 exact⟨rfl,rfl⟩
theorem qe6 (b:Nat) (w:World) (h0:w.cell? ⟨b,0,none⟩=some (.pointer none)) (hsh:w.shape? b=some (70,2)) (hfz:w.frozen? ⟨b,0,none⟩=false) :
  Calls Tryz.prog 69 #[.pointer (some ⟨b,0,none⟩)] w fun e w'=>e=.returned (.tuple #[])/\w'=w.setCell ⟨b,0,none⟩ (.pointer (some ⟨b,0,none⟩)):=by
 obtain⟨j,hj,hjs⟩:=Option.map_eq_some_iff.1 qla
 go_enter Tryz.func69,Tryz.ntmps69
 go_wp2;rw [Lib.run_to_unsafe w ⟨b,0,none⟩ Tryz.underlying67 Tryz.underlying122 hj (by rw [hjs];decide) hsh (Nat.zero_lt_succ 1)]
 simp only [Result.andThen];rw [Oper.upon_value];go_wp2;rw [run_callFunc_extern Tryz.func93 (by kernel_rfl) (by kernel_rfl) (by kernel_rfl) (e:=Extern.AbiNoEscape.same) (by kernel_rfl)];rw [Lib.run_noEscape];simp only [Result.andThen];rw [Oper.upon_value];go_wp2;rw [Lib.run_from_unsafe w ⟨b,0,none⟩ Tryz.underlying122 Tryz.underlying67 hj hsh bld_lies];simp only [Result.andThen];rw [Oper.upon_value];go_wp2
 go_end0
 exact⟨rfl,rfl⟩
theorem qmt (B b:Nat) (bs:List Value) (w:World) (h:Lib.IsBuilderF 70 5 B b bs w) :
  Calls Tryz.prog 69 #[.pointer (some ⟨b,0,none⟩)] w fun e w'=>e=.returned (.tuple #[])/\(Lib.BuilderAtF 70 5 B b (.pointer (some ⟨b,0,none⟩)) bs w'/\Below B w w'/\Lib.OthersKept 5 (some b) w w'):=by
 rcases h with h|h
 ·refine(qe6 b w h.cell0 h.shape h.frozen0).mono ?_
  rintro e w' ⟨rfl,rfl⟩;exact⟨rfl,h.used _,(Below.refl B w).setCell (p:=⟨b,0,none⟩) h.1 _,(Lib.OthersKept.refl _ _ w).setCell ⟨b,0,none⟩ rfl _⟩
 ·refine(qf9 b w h.cell0).mono ?_
  rintro e w' ⟨rfl,rfl⟩;exact⟨rfl,h,Below.refl B _,Lib.OthersKept.refl _ _ _⟩
theorem qe7 (B b:Nat) (bs:List Value) (s:ByteArray) (w:World) (h:Lib.IsBuilderF 70 5 B b bs w) (hlen:bs.length+s.size<=140737488355328) (hBw:B<=w.heap.size) :
  Calls Tryz.prog 39 #[.pointer (some ⟨b,0,none⟩),.string s] w fun e w'=>e=.returned (.tuple #[.int .i64 s.size,.nilIface])/\(Lib.BuilderAtF 70 5 B b (.pointer (some ⟨b,0,none⟩)) (bs ++ Lib.strCells s) w'/\Below B w w'/\Lib.OthersKept 5 (some b) w w'):=by
 obtain⟨i0,hi,hz0,hz1,hz2⟩:=info_parts qms
 go_enter Tryz.func39,Tryz.ntmps39
 go_wp2_with (go_at_call 69;refine(qmt B b bs _ h).mono ?_)
 rintro e w1 ⟨rfl,h1,hb1,hk1⟩;obtain⟨hB,v,hbk,hown,hne⟩:=h1;have c0:w1.cell? ⟨b,0,none⟩=some (.pointer (some ⟨b,0,none⟩)):=by rw [Lib.cell_of_heap hbk];rfl
 have c1:w1.cell? ⟨b,1,none⟩=some v:=by rw [Lib.cell_of_heap hbk];rfl
 go_wp2_with (at_builtin;refine Lib.wpList_append_own_stringF _ rfl _ _ 68 9 rfl B 5 i0 Tryz.underlying68 Tryz.underlying9 hi hz0 hz1 hz2 _ _ _ rfl hown s rfl ?c3 ?c4 ?c5 ?_)
 case c3=>unfold maxLen;omega
 case c4=>omega
 case c5=>have:=hb1.size;omega
 intro v' w2 hown' hgrow _
 have hlt:b<w1.heap.size:=by
  rcases Nat.lt_or_ge b w1.heap.size with h'|h'
  ·exact h'
  ·simp [Array.getElem?_eq_none h']at hbk
 have hb2:w2.heap[b]? = some (.cells #[.pointer (some ⟨b,0,none⟩),v] 70 (0,0)):=by
  rw [hgrow.block b hlt (fun e=>hne e.symm)];exact hbk
 have d0:w2.cell? ⟨b,0,none⟩=some (.pointer (some ⟨b,0,none⟩)):=by rw [Lib.cell_of_heap hb2];rfl
 have d1:w2.cell? ⟨b,1,none⟩=some v:=by rw [Lib.cell_of_heap hb2];rfl
 have f1:w2.frozen? ⟨b,1,none⟩=false:=Lib.frozen_of_heap hb2 1
 obtain⟨ao,n',cap,rfl⟩ : ∃ao n' cap,v'=.slice ao n' cap:=by
  rcases hown'.2 with⟨hv,_⟩|⟨g,cap,cur,fz,hv,_⟩
  ·exact⟨_,_,_,hv⟩
  ·exact⟨_,_,_,hv⟩
 go_wp2;go_ret2
 refine⟨rfl,?_,?_,(hk1.grown hgrow (Lib.ownsRowF_kind hown)).setCell ⟨b,1,none⟩ rfl _⟩
 ·exact Lib.BuilderAtF.put (T:=70) (e:=5) hB hb2 (bs':=bs ++ Lib.strCells s) (by simpa [Lib.strCells_length]using hown') (by decide)
 ·exact(hb1.grown hgrow (by have:=hb1.size;omega) (fun k hk=>(hown.lt k hk).1)).setCell (p:=⟨b,1,none⟩) hB _
end
section
open Go.RowKit Ck Rs
theorem S_app (a b:List UInt8):S a ++ S b=S (a ++ b):=S_of (ql7 _ _)
theorem isb_bel {T e:TypeId} {B b:Nat} {bs:List Value} {w w':World} (h:Lib.IsBuilderF T e B b bs w) (k:Bel w w'):Lib.IsBuilderF T e B b bs w':=by
 have aux : ∀p,Lib.BuilderAtF T e B b p bs w->Lib.BuilderAtF T e B b p bs w':=fun p ⟨hB,v,hb,hown,hne⟩=>by
  refine⟨hB,v,(Below.block k b (Array.getElem?_eq_some_iff.1 hb).1).trans hb,⟨hown.1,?_⟩,hne⟩;rcases hown.2 with hn|⟨g,cap,cur,fz,h1,h2,h3,rest⟩
  ·exact .inl hn
  ·exact .inr ⟨g,cap,cur,fz,h1,h2,(Below.block k g (Array.getElem?_eq_some_iff.1 h3).1).trans h3,rest⟩
 rcases h with h|h
 ·exact .inl (aux _ h)
 ·exact .inr (aux _ h)
def TS (w0:World) (b:Nat) (acc:Str) (bl:List (Nat × Array Value × TypeId)) (w:World):Prop:=
 Lib.IsBuilderF 70 5 w0.heap.size b (Lib.byteCells acc) w/\Bel w0 w/\∀x ∈ bl,w.heap[x.1]? = some (.cells x.2.1 x.2.2 (0,0))/\x.1 ≠ b/\x.2.2 ≠ 5
section
variable {w0 w w' : World} {b : Nat} {acc : Str} {bl : List (Nat × Array Value × TypeId)}
theorem TS.lt (h:TS w0 b acc bl w):b<w.heap.size:=by
 rcases h.1 with⟨_,v,hb,_⟩|⟨_,v,hb,_⟩ <;> exact(Array.getElem?_eq_some_iff.1 hb).1
theorem TS.bel (h:TS w0 b acc bl w) (k:Bel w w'):TS w0 b acc bl w':=⟨isb_bel h.1 k,Bel.of h.2.1 k,fun x hx=>⟨(Below.block k _ (Array.getElem?_eq_some_iff.1 (h.2.2 x hx).1).1).trans (h.2.2 x hx).1,(h.2.2 x hx).2⟩⟩
theorem TS.addb (h:TS w0 b acc bl w) (cs:Array Value) (T:TypeId) (hT:T ≠ 5):TS w0 b acc ((w.heap.size,cs,T) :: bl) (w.alloc (.cells cs T)):=by
 have h2:=h.bel ((Bel.refl w).alloc (.cells cs T));have hlt:=h.lt;refine⟨h2.1,h2.2.1,fun x hx=>?_⟩;rcases List.mem_cons.1 hx with rfl|hx
 ·exact⟨heap_alloc_new _ _,by show w.heap.size ≠ b;omega,hT⟩
 ·exact h2.2.2 x hx
theorem TS.dropb {x:Nat × Array Value × TypeId} (h:TS w0 b acc (x :: bl) w):TS w0 b acc bl w:=⟨h.1,h.2.1,fun y hy=>h.2.2 y (List.mem_cons_of_mem _ hy)⟩
theorem TS.cell (h:TS w0 b acc bl w) (i:Nat) {x:Nat × Array Value × TypeId} (hi:bl[i]? = some x) (o:Nat):w.cell? ⟨x.1,o,none⟩=x.2.1[o]?:=Lib.cell_of_heap (h.2.2 x (List.mem_of_getElem? hi)).1 o
theorem TS.write (h:TS w0 b acc bl w) (s:Str) (hl:acc.length+s.length<=4000000000) :
  Calls Tryz.prog 39 #[.pointer (some ⟨b,0,none⟩),.string (S s)] w fun e w'=>e=.returned (.tuple #[.int .i64 s.length,.nilIface])/\TS w0 b (acc ++ s) bl w':=by
 refine(qe7 w0.heap.size b (Lib.byteCells acc) (S s) w h.1 (by rw [Lib.byteCells_length,qaj];omega) h.2.1.size).mono ?_;rintro e w' ⟨rfl,h1,h2,h3⟩;have hs:Lib.strCells (S s)=Lib.byteCells s:=rfl;rw [hs, ←Lib.byteCells_append]at h1;refine⟨by rw [qaj],.inr h1,Below.trans h.2.1 h2,fun x hx=>?_⟩;obtain⟨q1,q2,q3⟩:=h.2.2 x hx;exact⟨qmd h3 q1 (fun e=>q2 (by injection e)) q3,q2,q3⟩
end
def PT (w : World) : Prop := Lib.TabIs Tryz.prog w "internal/strconv.uint64pow10" .u64 Lib.pow10Tab
theorem PT.bel {w w':World} (h:PT w) (k:Bel w w'):PT w':=Lib.tabBelow_of_tabIs h w' k.out
theorem bel_grow (w:World) (k:Nat) (os:Array Obj):Bel w (Sort.grow (w.drewN k) os):=by
 refine Bel.of ((Bel.refl w).drewN k) ⟨rfl,rfl,rfl,by simp [Sort.grow],fun i hi=>?_⟩;unfold Sort.grow;exact Array.getElem?_append_left hi
theorem md_Itoa (n:Int) (w:World) (hP:PT w) (h0 : -9223372036854775808<=n) (h1:n<=9223372036854775807) :
  Calls Tryz.prog 41 #[.int .i64 n] w fun e w'=>e=.returned (.string (S (Lib.itoa n)))/\Bel w w':=by
 refine(Tryz.strconv_Itoa n h0 h1 w hP).mono ?_;rintro e w' ⟨rfl,k,os,rfl⟩;exact⟨rfl,bel_grow w k os⟩
def lineP (w r:PPlan) (d:PAdapt):Str:=nameR w d.w ++ [32,45,62,32] ++ nameR r d.r ++ [10]
def subT (s:Int):Str:=if 0<=s then 32 :: Lib.itoa s else []
def actT (x:PAct):Str:=[32,32] ++ Lib.itoa x.num ++ [32] ++ wordR x.kind ++ subT x.sub ++ [10]
def lackT (n:Int):Str:=[32,32,108,97,99,107,115,32] ++ Lib.itoa n ++ [10]
def adT (w r:PPlan) (d:PAdapt):Str:=lineP w r d ++ d.acts.flatMap actT ++ d.lacks.flatMap lackT
def textR (w r:PPlan) (l:List PAdapt):Str:=l.flatMap (adT w r)
theorem qfe (w r:PPlan) (d:PAdapt) (l:List PAdapt):textR w r (d :: l)=lineP w r d ++ d.acts.flatMap actT ++ d.lacks.flatMap lackT ++ textR w r l:=rfl
def inI (n:Int):Prop := -9223372036854775808<=n/\n<=9223372036854775807
def inRng (l:List PAdapt):Prop := ∀d ∈ l,(∀x ∈ d.acts,inI x.num/\inI x.sub)/\∀n ∈ d.lacks,inI n
theorem qj6 (k:Int):(wordR k).length<=4:=by
 unfold wordR
 (repeat' split) <;> decide
end
section
open Go.RowKit Go.WideShapes Go.ChangeShapes
section
variable {H : Type} {enc : TypeId × Value → H} {P : Program}
theorem qfn {f:Func} {s:ChangeSpec} {apart fresh handsOn again:Bool} {W W':World} {args:Array Value} {v:Value} {ds gs:List (DataW H)} {before pa pv:List MemPlace}
  (hW:DataW.Whole enc P f.params.toList s.vars apart W args.toList ds gs before)
  (hres : ∀(b:Nat) (sp:Nat->Bool) (hd:Bool),DataW.TrodAll enc P W' b sp hd f.resultTypes.toList (v.resultList f.resultTypes.size) (s.fn H (ds ++ gs)).results [])
  (hargs : ∀sp:Nat->Bool,(∀p ∈ before,sp p.block=true)->DataW.TrodAll enc P W' 0 sp true f.params.toList args.toList (s.fn H (ds ++ gs)).args pa)
  (hvars : ∀sp:Nat->Bool,(∀p ∈ before,sp p.block=true)->DataW.TrodVars enc P W' sp s.vars (s.fn H (ds ++ gs)).vars pv)
  (hps:before=pa ++ pv) (hb:Below W.heap.size W W')
  (hok : ∀(j:Nat) (t:TypeId) (r:Value),f.resultTypes[j]? = some t->(v.resultList f.resultTypes.size)[j]? = some r->Value.okWide P W' .any 0 t r) :
  s.post enc P f apart fresh handsOn again W args v W':=by
 have hlt : ∀p ∈ before,p.block<W.heap.size:=fun p hp=>hW.lt p hp
 have hold : ∀p ∈ before,(fun b=>decide (b<W.heap.size)) p.block=true:=fun p hp=>by simpa using hlt p hp
 refine⟨ds,gs,before,[],pa,pv,hW,hres _ _ _,hargs _ hold,hvars _ hold,World.keptBut_mono (fun p hp=>⟨hp,?_⟩) (hb.frame (· ∈ before)),fun _=>?_⟩
 ·rw [hps,List.mem_append]at hp
  exact Or.inr hp
 ·obtain⟨_,_,_,_,_,hz,hn⟩:=hW
  refine⟨hok,_,_,([] ++ pa) ++ pv,⟨[] ++ pa,pv,trodAll_append (hargs _ (fun _ _=>rfl)) (hres _ _ _),hvars _ (fun _ _=>rfl),rfl,?_,?_⟩,?_⟩
  ·intro b off hp
   have hin:MemPlace.cell b off ∈ before:=by rw [hps];simpa using hp
   rw [hb.frozen (hlt _ hin)];exact hz b off hin
  ·intro ha
   have:=hn ha;rw [hps]at this
   simpa using this
  ·intro p hp _
   rw [hps]
   simpa using hp
end
theorem own:ownKnob Tryz.prog.godebug=none:=by kernel_rfl
end
section
open Go.RowKit Go.WideShapes Go.ChangeShapes Go.Deep
theorem kids:Kids Tryz.prog (· < Tryz.prog.types.size):=kids_rows (by kernel_rfl) (by kernel_rfl)
theorem full : ∀t e,t<Tryz.prog.types.size->Tryz.prog.underlying t=some (.slice e)->0<Tryz.prog.cellsOf e:=slices_full_of Tryz.prog (by kernel_rfl)
section
variable {H : Type} {enc : TypeId × Value → H}
theorem qcz {P:Program} {w w':World} {base:Nat} {sp:Nat->Bool} {held:Bool} : ∀{ts:List TypeId} {vs:List Value} {ds:List (DataW H)} {ps:List MemPlace},DataW.TrodAll enc P w base sp held ts vs ds ps->(∀p ∈ ps,w.sameAt w' p)->DataW.TrodAll enc P w' base sp held ts vs ds ps
 | [],[],[],_,h,_=>h
 | _ :: _,_ :: _,_ :: _,_,⟨p,q,⟨n,h1⟩,h2,e⟩,hs=>⟨p,q,⟨n,DataW.trod_carry n _ _ _ h1 (fun x hx=>hs x (by rw [e];exact List.mem_append_left _ hx))⟩,qcz h2 (fun x hx=>hs x (by rw [e];exact List.mem_append_right _ hx)),e⟩
theorem qlc {W W':World} {ts:List TypeId} {vs:List Value} {ds:List (DataW H)} {p:List MemPlace} (hts : ∀t ∈ ts,t<Tryz.prog.types.size) (hA:DataW.TrodAll enc Tryz.prog W 0 (fun _=>true) true ts vs ds p)
  (hlt : ∀x ∈ p,x.block<W.heap.size) (hb:Below W.heap.size W W') (sp:Nat->Bool) (hs : ∀x ∈ p,sp x.block=true):DataW.TrodAll enc Tryz.prog W' 0 sp true ts vs ds p:=
 DataW.TrodAll.respare kids full hts (qcz hA (fun x hx=>hb.same (hlt x hx))) hs
theorem qkl {f:Func} {s:ChangeSpec} {W W':World} {args:Array Value} {ds gs:List (DataW H)} {before:List MemPlace} (hv:s.vars=[]) (hts : ∀t ∈ f.params.toList,t<Tryz.prog.types.size)
  (hW:DataW.Whole enc Tryz.prog f.params.toList s.vars false W args.toList ds gs before) (hr:f.resultTypes=#[4])
  (h1:(s.fn H ds).results=[.lit (.bool true)]) (h2:(s.fn H ds).args=ds) (h3:(s.fn H ds).vars=[]) (hb:Below W.heap.size W W') :
  s.post enc Tryz.prog f false true false false W args (.bool true) W':=by
 have hW':=hW;obtain⟨p,q,hA,hV,rfl,hfz,hnd⟩:=hW;rw [hv]at hV;obtain⟨rfl,rfl⟩:=trodVars_none hV;have hlt : ∀x ∈ p ++ [],x.block<W.heap.size:=fun x hx=>hW'.lt x hx
 refine qfn (pa:=p) (pv:=[]) hW' (fun b sp hd=>?_) (fun sp hs=>?_) (fun sp hs=>?_) rfl hb ?_
 ·rw [List.append_nil,h1,hr]
  exact trodAll_mk1 (shut_bool Tryz.underlying4 _)
 ·rw [List.append_nil,h2]
  exact qlc hts hA (fun x hx=>hlt x (by simpa using hx)) hb sp (fun x hx=>hs x (by simpa using hx))
 ·rw [List.append_nil,h3,hv]
  rfl
 ·exact ok_one hr rfl (okWide_bool_mk Tryz.underlying4 _)
theorem qfd {x:Int} (h:(Lit.int .u64 x).wf=true):0<=x/\x<18446744073709551616:=by
 have : -0<=x/\x<=18446744073709551615:=by simpa [Lit.wf,IntKind.min,IntKind.max,IntKind.signed,IntKind.bits]using h
 omega
end
end
section
open Go.RowKit
section
variable {H : Type} {enc : TypeId × Value → H}
theorem qbq {C:Checked} {os:Os} {f:FuncId} {fn:Func} {s:OpenSpec} {conds:List PathCond} {apart:Bool} {laid:List (String × DataW Unit)} (modest:Bool) (w0:World) (args:Array Value) (hos:w0.os=os)
  (hsh:(w0.forCall (fun _ _=>0) ⟨#[],args,[]⟩).Shaped C.prog)
  (hok:Input.okWideB C.prog (w0.forCall (fun _ _=>0) ⟨#[],args,[]⟩) f ⟨#[],args,[]⟩=true)
  (hrow:s.preRow enc C.prog fn conds apart laid (w0.forCall (fun _ _=>0) ⟨#[],args,[]⟩).memory args) :
  ∃(w:World) (tape:Tape) (i:Input),w.os=os/\(w.forCall tape i).Shaped C.prog/\i.vars=[]/\Input.okWide C.prog (w.forCall tape i) .any w.heap.size f i ∧
   s.preRow enc C.prog fn conds apart laid (w.forCall tape i).memory i.args/\({ modest:=modest }:Assume).holds C.prog (lone (Frame.enter C.prog f i.args .normal) [] (w.forCall tape i)):=
 ⟨w0,fun _ _=>0,⟨#[],args,[]⟩,hos,hsh,(Input.okWide_of_okWideB (base:=0) hok).1,(Input.okWide_of_okWideB hok).2,hrow,by
  simp only [Assume.holds]
  exact⟨by simp,by simp,fun _=>Modest.zero,by simp,by simp⟩⟩
end
def qhm:List (String × DataW Unit):=Rows.resolveLooksRow.laid
noncomputable def layWorld (os:Os):World:=World.laidAll Tryz.prog os qhm
theorem qhl (os:Os) (args:Array Value):((layWorld os).forCall (fun _ _=>0) ⟨#[],args,[]⟩).Shaped Tryz.prog:=World.shaped_of_ZipB (by kernel_rfl) (by kernel_rfl)
theorem lay_met (os:Os) (args:Array Value):laidMetH Tryz.prog qhm ((layWorld os).forCall (fun _ _=>0) ⟨#[],args,[]⟩).memory:=by
 rw [MakeChecks.laidMetH_plain _ _ _ (by kernel_rfl)];exact laidMet_laidAll _ (by kernel_rfl) (by kernel_rfl)
end
section
open Go.RowKit
theorem gFam : Tryz.prog.globalNamed "wireschema/promote.families" = some 5 := by kernel_rfl
theorem gBnd : Tryz.prog.globalNamed "wireschema/promote.bounds" = some 1 := by kernel_rfl
theorem pFam:((Tryz.prog.globals[5]?).map (·.type)).all (fun t=>qis Tryz.prog 4 t)=true:=by kernel_rfl
theorem pBnd:((Tryz.prog.globals[1]?).map (·.type)).all (fun t=>qis Tryz.prog 4 t)=true:=by kernel_rfl
theorem fFam:flat (Rows.laid_wireschema_promote_families (H:=Unit))=Pr.famT.map (Value.int .i64):=by kernel_rfl
theorem fBnd:flat (Rows.laid_wireschema_promote_bounds (H:=Unit))=Pr.boundT.map (Value.int .u64):=by kernel_rfl
theorem tab_of0 {W : World} (h : laidMet Tryz.prog [("wireschema/promote.families", Rows.laid_wireschema_promote_families), ("wireschema/promote.bounds", Rows.laid_wireschema_promote_bounds), ("unicode/utf8.first", Rows.laid_unicode_utf8_first)] W) : Tab W := by
 obtain⟨ps,⟨g,t,cs,fuel,p,q,hg,ht,hv,hd,⟨g2,t2,cs2,fuel2,p2,q2,hg2,ht2,hv2,hd2,hr,hq⟩,hp⟩,_⟩:=h;obtain rfl:=Option.some.inj (gFam.symm.trans hg);obtain rfl:=Option.some.inj (gBnd.symm.trans hg2);have k1:=pFam;rw [ht]at k1;have k2:=pBnd;rw [ht2]at k2;have e1:=qds 4 t cs.toList _ fuel k1 hd;have e2:=qds 4 t2 cs2.toList _ fuel2 k2 hd2;rw [fFam]at e1;rw [fBnd]at e2
 have c1 : ∀i,i<27->W.cell? ⟨5,i,none⟩=some (.int .i64 (Pr.famT.getD i 0)):=by
  intro i hi;rw [World.var?_cell hg hv i, ←Array.getElem?_toList,e1,List.getElem?_map];have hl:i<Pr.famT.length:=hi;simp [List.getD,hl]
 have c2 : ∀i,i<18->W.cell? ⟨1,i,none⟩=some (.int .u64 (Pr.boundT.getD i 0)):=by
  intro i hi;rw [World.var?_cell hg2 hv2 i, ←Array.getElem?_toList,e2,List.getElem?_map];have hl:i<Pr.boundT.length:=hi;simp [List.getD,hl]
 refine⟨c1,c2,?_⟩;have:=block_lt_of_cell (c1 0 (by decide));simp at this;omega
theorem tab_eq:(Rows.laid_internal_strconv_uint64pow10:DataW Unit)=Lib.tabData .u64 Lib.pow10Tab:=by kernel_rfl
theorem pt_of {W:World} (h:laidMetH Tryz.prog qhm W):PT W:=by
 rw [MakeChecks.laidMetH_plain _ _ _ (by kernel_rfl)]at h;have h2:=h.tail.tail;rw [tab_eq]at h2;exact Lib.tabIs_of_head (g:=0) (t:=175) (e:=87) (n:=20) (by kernel_rfl) (by kernel_rfl) (by kernel_rfl) (by kernel_rfl) (by kernel_rfl) (by kernel_rfl) h2
theorem tab_of {W:World} (h:laidMetH Tryz.prog qhm W):Tab W:=by
 rw [MakeChecks.laidMetH_plain _ _ _ (by kernel_rfl)]at h;exact tab_of0 h.tail.tail.tail.tail
end
section
open Go.ChangeShapes Go.WideShapes Go.RowKit Go.Deep
section
variable {H : Type} {enc : TypeId × Value → H} {w : World} {base : Nat} {spare : Nat → Bool} {held : Bool}
def Wt (t:TypeId) (y:DataW H × List MemPlace):Prop:=(y.1.weights Tryz.prog t).all (·<=reachBytes)=true
def Opens (enc:TypeId × Value->H) (w:World) (base:Nat) (spare:Nat->Bool) (held:Bool) (t:TypeId) (T:List Value->Prop):Prop:=
 ∀(n:Nat) (cs:List Value) (y:DataW H × List MemPlace),DataW.trod enc Tryz.prog w base spare held n t cs=some y->Wt t y->T cs
theorem qg4 {P:Program} {e:TypeId} : ∀{l:List (DataW H)},(DataW.weightsAll P e l).all (·<=reachBytes)=true->∀d ∈ l,(d.weights P e).all (·<=reachBytes)=true
 | [],_,d,hd=>by cases hd
 | x :: r,h,d,hd=>by
  simp only [DataW.weightsAll,List.all_append,Bool.and_eq_true]at h;rcases List.mem_cons.1 hd with rfl|hd
  ·exact h.1
  ·exact qg4 h.2 d hd
theorem collect {α:Type} (R:Nat->α->Prop) : ∀n,(∀i,i<n->∃x,R i x)->∃xs:List α,xs.length=n/\∀i x,xs[i]? = some x->R i x
 | 0,_=>⟨[],rfl,fun i x h=>by simp at h⟩
 | n+1,h=>by
  obtain⟨xs,hl,hx⟩:=collect R n (fun i hi=>h i (by omega));obtain⟨x,hxn⟩:=h n (by omega);refine⟨xs ++ [x],by simp [hl],fun i y hy=>?_⟩;rcases Nat.lt_or_ge i xs.length with hi|hi
  ·rw [List.getElem?_append_left hi]at hy
   exact hx i y hy
  ·rw [List.getElem?_append_right hi]at hy
   have hi0:i-xs.length=0:=by
    have:=(List.getElem?_eq_some_iff.1 hy).1
    simpa using this
   rw [hi0]at hy;simp at hy;subst hy;rwa [show i=n by omega]
theorem qb3 {α:Type} {t e:TypeId} {C:Nat} {V:World->List Value->α->Prop} {Q:α->Prop} (ht:Tryz.prog.underlying t=some (.slice e)) (hC:Tryz.prog.cellsOf e=C) (hC0:0<C) (hb:decide (1<=Tryz.prog.bytesOf e)=true)
  (hV:Opens enc w base spare held e (fun cs => ∃x,V w cs x/\Q x)):Opens enc w base spare held t (fun cs => ∃v xs,cs=[v]/\Sv C V w v xs/\∀x ∈ xs,Q x):=by
 intro fuel cs y h hw;have hby:=of_decide_eq_true hb;rcases open_slice ht h with⟨rfl,_⟩|⟨a,len,cap,m,k,D,Pl,rfl,hbase,hl,hm,hmm,hy,hel⟩
 ·exact⟨_,[],rfl,Sl.nil _ _ _ _ _,fun x hx=>by cases hx⟩
 ·have hlm:len<=m:=by rw [hmm];split <;> omega
  subst hy;unfold Wt at hw;simp only [DataW.weights,ht,List.all_cons,List.all_append,Bool.and_eq_true,decide_eq_true_eq,List.length_map,List.length_range]at hw;obtain⟨hw1,hw2,_⟩:=hw
  have hlen:len<=140737488355328:=by
   have h3:len<=(len+(m-len))*Tryz.prog.bytesOf e:=Nat.le_trans (Nat.le_add_right len (m-len)) (Nat.le_mul_of_pos_right _ hby);unfold reachBytes at hw1;omega
  obtain⟨xs,hxl,hxs⟩:=collect (fun i x => ∃cs',w.cells? base (a.add (i*C)) C=some cs'/\V w cs' x/\Q x) len (fun i hi=>by
   obtain⟨cs',h1,h2⟩:=hel i (by omega);obtain⟨x,hx1,hx2⟩:=hV k cs' (D i,Pl i) h2 (qg4 hw2 (D i) (List.mem_map.2 ⟨i,List.mem_range.2 hi,rfl⟩));rw [hC]at h1
   exact⟨x,cs',h1,hx1,hx2⟩)
  subst hxl;refine⟨_,xs,rfl,⟨some a,cap,rfl,hlen,hl,fun i x hx=>?_⟩,fun x hx=>?_⟩
  ·obtain⟨cs',h1,hx1,_⟩:=hxs i x hx
   obtain⟨h2,h3,h4⟩:=World.cells?_some h1;obtain⟨b,off,spot⟩:=a;have hlc:0<cs'.length:=by omega
   have hx0:0<xs.length:=by
    have:=(List.getElem?_eq_some_iff.1 hx).1;omega
   obtain⟨cs0,g1,_⟩:=hxs 0 _ (List.getElem?_eq_getElem hx0);obtain⟨_,g3,g4⟩:=World.cells?_some g1;have hlc0:0<cs0.length:=by omega
   have hc1:w.cell? (((⟨b,off,spot⟩:Addr).add (0*C)).add 0)=some cs0[0]:=by
    rw [g4 0 hC0];exact List.getElem?_eq_getElem hlc0
   have hspot:spot=none:=by simpa [Addr.add]using World.cell?_spot hc1
   subst hspot
   have hcell:Cells w b (off+i*C) cs':=fun j v hv=>by
    have hj:j<C:=by
     have:=(List.getElem?_eq_some_iff.1 hv).1;omega
    have:=h4 j hj;rw [add_plain,add_plain]at this;rw [this];exact hv
   exact⟨b,off,rfl,World.block_lt_of_cell? w _ (hcell 0 cs'[0] (List.getElem?_eq_getElem hlc)),cs',hcell,hx1⟩
  ·obtain⟨i,hi⟩:=List.getElem?_of_mem hx
   obtain⟨_,_,_,h⟩:=hxs i x hi;exact h
theorem qhf {t:TypeId} {k:IntKind} (ht:Tryz.prog.underlying t=some (.int k)):Opens enc w base spare held t (fun cs => ∃z,cs=[.int k z]/\(Lit.int k z).wf=true):=by
 intro n cs y h _;obtain⟨z,e,_,g⟩:=DataW.trod_int ht h;exact⟨z,e,g⟩
theorem qkb {t:TypeId} (ht:Tryz.prog.underlying t=some .bool):Opens enc w base spare held t (fun cs => ∃b,cs=[.bool b]):=by
 intro n cs y h _;obtain⟨z,e,_⟩:=DataW.trod_bool ht h;exact⟨z,e⟩
theorem qgg {t:TypeId} (ht:Tryz.prog.underlying t=some .string):Opens enc w base spare held t (fun cs => ∃l:List UInt8,cs=[.string (S l)]/\l.length<=140737488355328):=by
 intro n cs y h hw;obtain⟨s,e,hy,_⟩:=DataW.trod_string ht h;subst hy;unfold Wt at hw;simp only [DataW.weights,List.all_cons,List.all_nil,Bool.and_true,decide_eq_true_eq]at hw;unfold reachBytes at hw;exact⟨s.data.toList,e,by omega⟩
theorem qda {t e:TypeId} (ht:Tryz.prog.underlying t=some (.slice e)) (hb:decide (1<=Tryz.prog.bytesOf e)=true):Opens enc w base spare held t (fun cs => ∃(p:Option Addr) (n c:Nat),cs=[.slice p n c]/\n<=140737488355328):=by
 intro n cs y h hw;have hby:=of_decide_eq_true hb;rcases open_slice ht h with⟨rfl,_⟩|⟨a,len,cap,m,k,D,Pl,rfl,_,hl,hm,hmm,hy,_⟩
 ·exact⟨_,_,_,rfl,by omega⟩
 ·subst hy
  unfold Wt at hw;simp only [DataW.weights,ht,List.all_cons,Bool.and_eq_true,decide_eq_true_eq,List.length_map,List.length_range]at hw;have h2:=hw.1;have h3:len<=(len+(m-len))*Tryz.prog.bytesOf e:=Nat.le_trans (Nat.le_add_right len (m-len)) (Nat.le_mul_of_pos_right _ hby);unfold reachBytes at h2;exact⟨_,_,_,rfl,by omega⟩
theorem ql1 {P:Program} : ∀{ts:List TypeId} {ds:List (DataW H)},(DataW.weightsEach P ts ds).all (·<=reachBytes)=true->∀(i:Nat) t d,ts[i]? = some t->ds[i]? = some d->(d.weights P t).all (·<=reachBytes)=true
 | [],_,_,i,t,d,h,_=>by simp at h
 | _ :: _,[],_,i,t,d,_,h=>by simp at h
 | t0 :: ts,d0 :: ds,hw,i,t,d,h1,h2=>by
  simp only [DataW.weightsEach,List.all_append,Bool.and_eq_true]at hw;cases i with
  | zero=>simp at h1 h2;subst h1;subst h2;exact hw.1
  | succ i=>exact ql1 hw.2 i t d (by simpa using h1) (by simpa using h2)
theorem qaq {t:TypeId} {fs:Array Field} {T:List Value->Prop} (ht:Tryz.prog.underlying t=some (.struct fs)) (N:Nat) (hN:Tryz.prog.cellsOf t=N)
  (hT : ∀cs,cs.length=N->(∀(i off n:Nat) (t':TypeId) (X:List Value->Prop),(fs[i]?).map (fun f=>(f.offset,f.type))=some (off,t')->Tryz.prog.cellsOf t'=n->Opens enc w base spare held t' X->X ((cs.drop off).take n))->T cs):Opens enc w base spare held t T:=by
 intro n cs y h hw;obtain⟨xs,m,_,hy,hl,hlen,hf⟩:=DataW.trod_struct ht h;refine hT cs (hl.trans hN) (fun i off k t' X hi hk hX=>?_);obtain⟨f,hfi,hfe⟩:=Option.map_eq_some_iff.1 hi;simp only [Prod.mk.injEq]at hfe;obtain⟨rfl,rfl⟩:=hfe
 have hi':i<xs.length:=by
  have:=(Array.getElem?_eq_some_iff.1 hfi).1;omega
 have h1:=hf i f hfi;rw [List.getElem?_eq_getElem hi',hk]at h1;refine hX m _ xs[i] h1 ?_;subst hy;unfold Wt at hw ⊢;simp only [DataW.weights,ht]at hw;exact ql1 hw i f.type xs[i].1 (by simp [hfi]) (by simp [hi'])
end
end
section
open Go.ChangeShapes Go.WideShapes Go.RowKit Go.Deep Ck Rs
theorem i64_in {x:Int} (h:(Lit.int .i64 x).wf=true):inI x:=by
 unfold inI
 simpa [Lit.wf,IntKind.min,IntKind.max,IntKind.signed,IntKind.bits]using h
theorem sv_slice {α:Type} {C:Nat} {V:World->List Value->α->Prop} {w:World} {v:Value} {xs:List α} (h:Sv C V w v xs) : ∃(q:Option Addr) (c:Nat),v=.slice q xs.length c:=by
 obtain⟨q,c,h1,h2⟩:=qbc h;exact⟨q,c,h1⟩
section
variable {H : Type} {enc : TypeId × Value → H} {w : World} {base : Nat} {spare : Nat → Bool} {held : Bool}
theorem list2 {α:Type} {l:List α} (h:l.length=2) : ∃a0 a1,l=[a0,a1]:=by
 match l,h with
 | [a0,a1],_=>exact⟨a0,a1,rfl⟩
theorem list3 {α:Type} {l:List α} (h:l.length=3) : ∃a0 a1 a2,l=[a0,a1,a2]:=by
 match l,h with
 | [a0,a1,a2],_=>exact⟨a0,a1,a2,rfl⟩
theorem list5 {α:Type} {l:List α} (h:l.length=5) : ∃a0 a1 a2 a3 a4,l=[a0,a1,a2,a3,a4]:=by
 match l,h with
 | [a0,a1,a2,a3,a4],_=>exact⟨a0,a1,a2,a3,a4,rfl⟩
theorem list7 {α:Type} {l:List α} (h:l.length=7) : ∃a0 a1 a2 a3 a4 a5 a6,l=[a0,a1,a2,a3,a4,a5,a6]:=by
 match l,h with
 | [a0,a1,a2,a3,a4,a5,a6],_=>exact⟨a0,a1,a2,a3,a4,a5,a6,rfl⟩
theorem list8 {α:Type} {l:List α} (h:l.length=8) : ∃a0 a1 a2 a3 a4 a5 a6 a7,l=[a0,a1,a2,a3,a4,a5,a6,a7]:=by
 match l,h with
 | [a0,a1,a2,a3,a4,a5,a6,a7],_=>exact⟨a0,a1,a2,a3,a4,a5,a6,a7,rfl⟩
theorem c_int:Tryz.prog.cellsOf 3=1:=by kernel_rfl
theorem qc7:Opens enc w base spare held 3 (fun cs => ∃z,cs=[.int .i64 z]/\(Lit.int .i64 z).wf=true):=qhf Tryz.underlying3
theorem c_uint64:Tryz.prog.cellsOf 87=1:=by kernel_rfl
theorem qm6:Opens enc w base spare held 87 (fun cs => ∃z,cs=[.int .u64 z]/\(Lit.int .u64 z).wf=true):=qhf Tryz.underlying87
theorem qch:Tryz.prog.cellsOf 9=1:=by kernel_rfl
theorem qbx:Opens enc w base spare held 9 (fun cs => ∃l:List UInt8,cs=[.string (S l)]/\l.length<=140737488355328):=qgg Tryz.underlying9
theorem c_bool:Tryz.prog.cellsOf 4=1:=by kernel_rfl
theorem op_bool:Opens enc w base spare held 4 (fun cs => ∃b,cs=[.bool b]):=qkb Tryz.underlying4
theorem list4 {α:Type} {l:List α} (h:l.length=4) : ∃a0 a1 a2 a3,l=[a0,a1,a2,a3]:=by
 match l,h with
 | [a0,a1,a2,a3],_=>exact⟨a0,a1,a2,a3,rfl⟩
def actB (x:PAct):Prop:=inI x.num/\inI x.sub
def adB (d:PAdapt):Prop:=(∀x ∈ d.acts,actB x)/\∀n ∈ d.lacks,inI n
theorem qm7:Opens enc w base spare held 38 (fun cs => ∃x,VAct w cs x/\actB x):=by
 refine qaq Tryz.underlying38 3 (by kernel_rfl) (fun cs hl hp=>?_);obtain⟨a0,a1,a2,rfl⟩:=list3 hl;obtain⟨n,h0,x0⟩ : ∃z,[a0]=[.int .i64 z]/\(Lit.int .i64 z).wf=true:=hp 0 0 1 3 _ rfl c_int qc7;obtain rfl:a0=_:=(List.cons.inj h0).1;obtain⟨k,h1,x1⟩ : ∃z,[a1]=[.int .i64 z]/\(Lit.int .i64 z).wf=true:=hp 1 1 1 3 _ rfl c_int qc7;obtain rfl:a1=_:=(List.cons.inj h1).1;obtain⟨s,h2,x2⟩ : ∃z,[a2]=[.int .i64 z]/\(Lit.int .i64 z).wf=true:=hp 2 2 1 3 _ rfl c_int qc7;obtain rfl:a2=_:=(List.cons.inj h2).1;exact⟨⟨n,k,s⟩,rfl,i64_in x0,i64_in x2⟩
theorem qka:Opens enc w base spare held 41 (fun cs => ∃v xs,cs=[v]/\Sv 3 VAct w v xs/\∀x ∈ xs,actB x):=qb3 (C:=3) (V:=VAct) (Q:=actB) Tryz.underlying41 (by kernel_rfl) (by decide) (by kernel_rfl) qm7
theorem op_num:Opens enc w base spare held 3 (fun cs => ∃x,VInt w cs x/\inI x):=fun n cs y h hw=>by
 obtain⟨z,h1,h2⟩:=qc7 n cs y h hw;exact⟨z,h1,i64_in h2⟩
theorem ops_int:Opens enc w base spare held 42 (fun cs => ∃v xs,cs=[v]/\Sv 1 VInt w v xs/\∀x ∈ xs,inI x):=qb3 (C:=1) (V:=VInt) (Q:=inI) Tryz.underlying42 (by kernel_rfl) (by decide) (by kernel_rfl) op_num
theorem op_Adapt:Opens enc w base spare held 44 (fun cs => ∃x,VAdapt w cs x/\adB x):=by
 refine qaq Tryz.underlying44 4 (by kernel_rfl) (fun cs hl hp=>?_);obtain⟨a0,a1,a2,a3,rfl⟩:=list4 hl;obtain⟨n,h0,x0⟩ : ∃z,[a0]=[.int .i64 z]/\(Lit.int .i64 z).wf=true:=hp 0 0 1 3 _ rfl c_int qc7;obtain rfl:a0=_:=(List.cons.inj h0).1;obtain⟨k,h1,x1⟩ : ∃z,[a1]=[.int .i64 z]/\(Lit.int .i64 z).wf=true:=hp 1 1 1 3 _ rfl c_int qc7;obtain rfl:a1=_:=(List.cons.inj h1).1;obtain⟨v,ms,h2,x2,y2⟩ : ∃v xs,[a2]=[v]/\Sv 3 VAct w v xs/\∀x ∈ xs,actB x:=hp 2 2 1 41 _ rfl (by kernel_rfl) qka;obtain rfl:a2=_:=(List.cons.inj h2).1;obtain⟨v,ls,h3,x3,y3⟩ : ∃v xs,[a3]=[v]/\Sv 1 VInt w v xs/\∀x ∈ xs,inI x:=hp 3 3 1 42 _ rfl (by kernel_rfl) ops_int;obtain rfl:a3=_:=(List.cons.inj h3).1;exact⟨⟨n,k,ms,ls⟩,⟨_,_,rfl,x2,x3⟩,y2,y3⟩
theorem qm5:Opens enc w base spare held 28 (fun cs => ∃v xs,cs=[v]/\Sv 4 VAdapt w v xs/\∀x ∈ xs,adB x):=qb3 (C:=4) (V:=VAdapt) (Q:=adB) Tryz.underlying28 (by kernel_rfl) (by decide) (by kernel_rfl) op_Adapt
theorem qld {r:Reach} {b0:Nat} {v:Value} {d:DataW H} {p:List MemPlace} (hv:Value.okWide Tryz.prog w r b0 28 v) (h:DataW.Trod enc Tryz.prog w base spare held 28 v d p) (hw:(d.weights Tryz.prog 28).all (·<=reachBytes)=true) :
  ∃(q:Option Addr) (c:Nat) (l:List PAdapt),v=.slice q l.length c/\Sv 4 VAdapt w (.slice q l.length c) l/\inRng l:=by
 obtain⟨q,n,c,rfl⟩:=okWide_slice Tryz.underlying28 hv;obtain⟨fuel,hf⟩:=h;obtain⟨u,xs,hc,hs,hq⟩:=qm5 fuel _ (d,p) hf hw
 have hu:u=.slice q n c:=by
  have:[Value.slice q n c]=[u]:=hc;exact(List.cons.inj this).1.symm
 subst hu;obtain⟨q',c',e⟩:=sv_slice hs;cases e;exact⟨q,c,xs,rfl,hs,hq⟩
end
end
section
open Go.ChangeShapes Go.WideShapes Go.RowKit Go.Deep Ck Rs
section
variable {H : Type} {enc : TypeId × Value → H} {w : World} {base : Nat} {spare : Nat → Bool} {held : Bool}
theorem op_Value:Opens enc w base spare held 93 (fun cs => ∃v,VVal cs v):=by
 refine qaq Tryz.underlying93 7 (by kernel_rfl) (fun cs hl hp=>?_);obtain⟨a0,a1,a2,a3,a4,a5,a6,rfl⟩:=list7 hl;obtain⟨k,h0,x0⟩ : ∃z,[a0]=[.int .i64 z]/\(Lit.int .i64 z).wf=true:=hp 0 0 1 3 _ rfl c_int qc7;obtain rfl:a0=_:=(List.cons.inj h0).1;obtain⟨x,h1,x1⟩ : ∃z,[a1]=[.int .u64 z]/\(Lit.int .u64 z).wf=true:=hp 1 1 1 87 _ rfl c_uint64 qm6;obtain rfl:a1=_:=(List.cons.inj h1).1;obtain⟨l,h2,x2⟩ : ∃l:List UInt8,[a2]=[.string (S l)]/\l.length<=140737488355328:=hp 2 2 1 9 _ rfl qch qbx;obtain rfl:a2=_:=(List.cons.inj h2).1;obtain⟨p3,n1,c3,h3,x3⟩ : ∃(p:Option Addr) (n c:Nat),[a3]=[.slice p n c]/\n<=140737488355328:=hp 3 3 1 88 _ rfl (by kernel_rfl) (qda Tryz.underlying88 (by kernel_rfl));obtain rfl:a3=_:=(List.cons.inj h3).1;obtain⟨p4,n2,c4,h4,x4⟩ : ∃(p:Option Addr) (n c:Nat),[a4]=[.slice p n c]/\n<=140737488355328:=hp 4 4 1 89 _ rfl (by kernel_rfl) (qda Tryz.underlying89 (by kernel_rfl));obtain rfl:a4=_:=(List.cons.inj h4).1;obtain⟨p5,n3,c5,h5,x5⟩ : ∃(p:Option Addr) (n c:Nat),[a5]=[.slice p n c]/\n<=140737488355328:=hp 5 5 1 90 _ rfl (by kernel_rfl) (qda Tryz.underlying90 (by kernel_rfl));obtain rfl:a5=_:=(List.cons.inj h5).1;obtain⟨p6,n4,c6,h6,x6⟩ : ∃(p:Option Addr) (n c:Nat),[a6]=[.slice p n c]/\n<=140737488355328:=hp 6 6 1 91 _ rfl (by kernel_rfl) (qda Tryz.underlying91 (by kernel_rfl));obtain rfl:a6=_:=(List.cons.inj h6).1;exact⟨⟨k,x,l,n1,n2,n3,n4⟩,p3,p4,p5,p6,c3,c4,c5,c6,rfl,(qfd x1).1,(qfd x1).2,x3,x4,x5,x6⟩
theorem op_Note:Opens enc w base spare held 95 (fun cs => ∃x,VNote w cs x/\True):=by
 refine qaq Tryz.underlying95 8 (by kernel_rfl) (fun cs hl hp=>?_);obtain⟨a0,a1,a2,a3,a4,a5,a6,a7,rfl⟩:=list8 hl;obtain⟨l,h0,x0⟩ : ∃l:List UInt8,[a0]=[.string (S l)]/\l.length<=140737488355328:=hp 0 0 1 9 _ rfl qch qbx;obtain rfl:a0=_:=(List.cons.inj h0).1;obtain⟨v,s1⟩ : ∃v,VVal [a1,a2,a3,a4,a5,a6,a7] v:=hp 1 1 7 93 _ rfl (by kernel_rfl) op_Value;exact⟨⟨l,v⟩,⟨_,rfl,s1⟩,trivial⟩
theorem qk9:Opens enc w base spare held 82 (fun cs => ∃v xs,cs=[v]/\Sv 8 VNote w v xs/\∀x ∈ xs,True):=qb3 (V:=VNote) (Q:=fun x:PNote=>True) Tryz.underlying82 (by kernel_rfl) (by decide) (by kernel_rfl) op_Note
theorem op_Span:Opens enc w base spare held 116 (fun cs => ∃x,VSpan w cs x/\True):=by
 refine qaq Tryz.underlying116 2 (by kernel_rfl) (fun cs hl hp=>?_);obtain⟨a0,a1,rfl⟩:=list2 hl;obtain⟨a,h0,x0⟩ : ∃z,[a0]=[.int .i64 z]/\(Lit.int .i64 z).wf=true:=hp 0 0 1 3 _ rfl c_int qc7;obtain rfl:a0=_:=(List.cons.inj h0).1;obtain⟨b,h1,x1⟩ : ∃z,[a1]=[.int .i64 z]/\(Lit.int .i64 z).wf=true:=hp 1 1 1 3 _ rfl c_int qc7;obtain rfl:a1=_:=(List.cons.inj h1).1;exact⟨⟨a,b⟩,rfl,trivial⟩
theorem ops_Span:Opens enc w base spare held 81 (fun cs => ∃v xs,cs=[v]/\Sv 2 VSpan w v xs/\∀x ∈ xs,True):=qb3 (V:=VSpan) (Q:=fun x:PSpan=>True) Tryz.underlying81 (by kernel_rfl) (by decide) (by kernel_rfl) op_Span
theorem op_Item:Opens enc w base spare held 86 (fun cs => ∃x,VItem w cs x/\True):=by
 refine qaq Tryz.underlying86 3 (by kernel_rfl) (fun cs hl hp=>?_);obtain⟨a0,a1,a2,rfl⟩:=list3 hl;obtain⟨nm,h0,x0⟩ : ∃l:List UInt8,[a0]=[.string (S l)]/\l.length<=140737488355328:=hp 0 0 1 9 _ rfl qch qbx;obtain rfl:a0=_:=(List.cons.inj h0).1;obtain⟨num,h1,x1⟩ : ∃z,[a1]=[.int .i64 z]/\(Lit.int .i64 z).wf=true:=hp 1 1 1 3 _ rfl c_int qc7;obtain rfl:a1=_:=(List.cons.inj h1).1;obtain⟨v2,ns,h2,s2,q2⟩ : ∃v xs,[a2]=[v]/\Sv 8 VNote w v xs/\∀x ∈ xs,True:=hp 2 2 1 82 _ rfl (by kernel_rfl) qk9;obtain rfl:a2=_:=(List.cons.inj h2).1;exact⟨⟨nm,num,ns⟩,⟨_,rfl,s2⟩,trivial⟩
theorem ops_Item:Opens enc w base spare held 80 (fun cs => ∃v xs,cs=[v]/\Sv 3 VItem w v xs/\∀x ∈ xs,True):=qb3 (V:=VItem) (Q:=fun x:PItem=>True) Tryz.underlying80 (by kernel_rfl) (by decide) (by kernel_rfl) op_Item
theorem op_Enum:Opens enc w base spare held 84 (fun cs => ∃x,VEnum w cs x/\True):=by
 refine qaq Tryz.underlying84 5 (by kernel_rfl) (fun cs hl hp=>?_);obtain⟨a0,a1,a2,a3,a4,rfl⟩:=list5 hl;obtain⟨nm,h0,x0⟩ : ∃l:List UInt8,[a0]=[.string (S l)]/\l.length<=140737488355328:=hp 0 0 1 9 _ rfl qch qbx;obtain rfl:a0=_:=(List.cons.inj h0).1;obtain⟨op,h1⟩ : ∃b,[a1]=[.bool b]:=hp 1 1 1 4 _ rfl c_bool op_bool;obtain rfl:a1=_:=(List.cons.inj h1).1;obtain⟨v2,its,h2,s2,q2⟩ : ∃v xs,[a2]=[v]/\Sv 3 VItem w v xs/\∀x ∈ xs,True:=hp 2 2 1 80 _ rfl (by kernel_rfl) ops_Item;obtain rfl:a2=_:=(List.cons.inj h2).1;obtain⟨v3,rs,h3,s3,q3⟩ : ∃v xs,[a3]=[v]/\Sv 2 VSpan w v xs/\∀x ∈ xs,True:=hp 3 3 1 81 _ rfl (by kernel_rfl) ops_Span;obtain rfl:a3=_:=(List.cons.inj h3).1;obtain⟨v4,ns,h4,s4,q4⟩ : ∃v xs,[a4]=[v]/\Sv 8 VNote w v xs/\∀x ∈ xs,True:=hp 4 4 1 82 _ rfl (by kernel_rfl) qk9;obtain rfl:a4=_:=(List.cons.inj h4).1;exact⟨⟨nm,op,its,rs,ns⟩,⟨_,_,_,rfl,s2,s3,s4⟩,trivial⟩
theorem ops_Enum:Opens enc w base spare held 23 (fun cs => ∃v xs,cs=[v]/\Sv 5 VEnum w v xs/\∀x ∈ xs,True):=qb3 (V:=VEnum) (Q:=fun x:PEnum=>True) Tryz.underlying23 (by kernel_rfl) (by decide) (by kernel_rfl) op_Enum
theorem op_Op:Opens enc w base spare held 54 (fun cs => ∃x,VOp w cs x/\True):=by
 refine qaq Tryz.underlying54 8 (by kernel_rfl) (fun cs hl hp=>?_);obtain⟨a0,a1,a2,a3,a4,a5,a6,a7,rfl⟩:=list8 hl;obtain⟨num,h0,x0⟩ : ∃z,[a0]=[.int .i64 z]/\(Lit.int .i64 z).wf=true:=hp 0 0 1 3 _ rfl c_int qc7;obtain rfl:a0=_:=(List.cons.inj h0).1;obtain⟨nm,h1,x1⟩ : ∃l:List UInt8,[a1]=[.string (S l)]/\l.length<=140737488355328:=hp 1 1 1 9 _ rfl qch qbx;obtain rfl:a1=_:=(List.cons.inj h1).1;obtain⟨al,h2,x2⟩ : ∃l:List UInt8,[a2]=[.string (S l)]/\l.length<=140737488355328:=hp 2 2 1 9 _ rfl qch qbx;obtain rfl:a2=_:=(List.cons.inj h2).1;obtain⟨ca,h3,x3⟩ : ∃z,[a3]=[.int .i64 z]/\(Lit.int .i64 z).wf=true:=hp 3 3 1 3 _ rfl c_int qc7;obtain rfl:a3=_:=(List.cons.inj h3).1;obtain⟨ke,h4,x4⟩ : ∃z,[a4]=[.int .i64 z]/\(Lit.int .i64 z).wf=true:=hp 4 4 1 3 _ rfl c_int qc7;obtain rfl:a4=_:=(List.cons.inj h4).1;obtain⟨ki,h5,x5⟩ : ∃z,[a5]=[.int .i64 z]/\(Lit.int .i64 z).wf=true:=hp 5 5 1 3 _ rfl c_int qc7;obtain rfl:a5=_:=(List.cons.inj h5).1;obtain⟨tg,h6,x6⟩ : ∃z,[a6]=[.int .i64 z]/\(Lit.int .i64 z).wf=true:=hp 6 6 1 3 _ rfl c_int qc7;obtain rfl:a6=_:=(List.cons.inj h6).1;obtain⟨un,h7,x7⟩ : ∃z,[a7]=[.int .i64 z]/\(Lit.int .i64 z).wf=true:=hp 7 7 1 3 _ rfl c_int qc7;obtain rfl:a7=_:=(List.cons.inj h7).1;exact⟨⟨num,nm,al,ca,ke,ki,tg,un⟩,rfl,trivial⟩
theorem ops_Op:Opens enc w base spare held 50 (fun cs => ∃v xs,cs=[v]/\Sv 8 VOp w v xs/\∀x ∈ xs,True):=qb3 (C:=8) (V:=VOp) (Q:=fun x:POp=>True) Tryz.underlying50 (by kernel_rfl) (by decide) (by kernel_rfl) op_Op
theorem op_Prog:Opens enc w base spare held 52 (fun cs => ∃x,VProg w cs x/\True):=by
 refine qaq Tryz.underlying52 3 (by kernel_rfl) (fun cs hl hp=>?_);obtain⟨a0,a1,a2,rfl⟩:=list3 hl;obtain⟨nm,h0,x0⟩ : ∃l:List UInt8,[a0]=[.string (S l)]/\l.length<=140737488355328:=hp 0 0 1 9 _ rfl qch qbx;obtain rfl:a0=_:=(List.cons.inj h0).1;obtain⟨v1,os,h1,s1,q1⟩ : ∃v xs,[a1]=[v]/\Sv 8 VOp w v xs/\∀x ∈ xs,True:=hp 1 1 1 50 _ rfl (by kernel_rfl) ops_Op;obtain rfl:a1=_:=(List.cons.inj h1).1;obtain⟨us,h2,x2⟩ : ∃z,[a2]=[.int .i64 z]/\(Lit.int .i64 z).wf=true:=hp 2 2 1 3 _ rfl c_int qc7;obtain rfl:a2=_:=(List.cons.inj h2).1;exact⟨⟨nm,os,us⟩,⟨_,rfl,s1⟩,trivial⟩
theorem ops_Prog:Opens enc w base spare held 22 (fun cs => ∃v xs,cs=[v]/\Sv 3 VProg w v xs/\∀x ∈ xs,True):=qb3 (C:=3) (V:=VProg) (Q:=fun x:PProg=>True) Tryz.underlying22 (by kernel_rfl) (by decide) (by kernel_rfl) op_Prog
theorem op_Plan:Opens enc w base spare held 25 (fun cs => ∃x,VPlan w cs x/\True):=by
 refine qaq Tryz.underlying25 2 (by kernel_rfl) (fun cs hl hp=>?_);obtain⟨a0,a1,rfl⟩:=list2 hl;obtain⟨v0,gs,h0,s0,q0⟩ : ∃v xs,[a0]=[v]/\Sv 3 VProg w v xs/\∀x ∈ xs,True:=hp 0 0 1 22 _ rfl (by kernel_rfl) ops_Prog;obtain rfl:a0=_:=(List.cons.inj h0).1;obtain⟨v1,es,h1,s1,q1⟩ : ∃v xs,[a1]=[v]/\Sv 5 VEnum w v xs/\∀x ∈ xs,True:=hp 1 1 1 23 _ rfl (by kernel_rfl) ops_Enum;obtain rfl:a1=_:=(List.cons.inj h1).1;exact⟨⟨gs,es⟩,⟨_,_,rfl,s0,s1⟩,trivial⟩
theorem qfa {r:Reach} {b0:Nat} {v:Value} {d:DataW H} {p:List MemPlace} (hv:Value.okWide Tryz.prog w r b0 25 v) (h:DataW.Trod enc Tryz.prog w base spare held 25 v d p) (hw:(d.weights Tryz.prog 25).all (·<=reachBytes)=true) :
  ∃(vs:List Value) (s:PPlan),v=.agg vs.toArray/\VPlan w vs s:=by
 obtain⟨cs,rfl,hsz⟩:=okWide_struct Tryz.underlying25 hv;obtain⟨fuel,hf⟩:=h;obtain⟨s,hs,_⟩:=op_Plan fuel _ (d,p) hf hw;exact⟨cs.toList,s,by simp,hs⟩
end
end
section
open Go.RowKit
theorem ml_of {W:World} (h:W.ShapedOpen Tryz.prog):ML W:=Tryz.laysM146.s1_3 W h
end
end Go.Proofs.YtgpjhibdongmbaaGreatDoor
