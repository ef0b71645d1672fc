import Derived.Test.YtgpjhibdongmbaaGreatDoorUtfDec
import Derived.Test.YtgpjhibdongmbaaGreatDoorShelf
import Derived.Shelf.Strings.BuilderK
import Derived.Test.YtgpjhibdongmbaaGreatDoorRsRes9
import Derived.Lib.ItoaLen
import Derived.Lib.ItoaNum
import Derived.Lib.LaidTab
import Derived.Lib.AppendIntMem
import Derived.Test.YtgpjhibdongmbaaGreatDoorRows
import Derived.ProofKit
import Derived.OpenShut
import Derived.ReadAgain
import Derived.Deep.Slices
import Derived.Lay
import Derived.MakeChecks
import Derived.LaidLaws
import Derived.Deep.DeepHandedRow
import Derived.Test.YtgpjhibdongmbaaGreatDoorIdWord
import Derived.Stop.LaidErr
set_option maxRecDepth 100000
set_option maxHeartbeats 4000000
set_option linter.unusedVariables false
set_option linter.unusedSimpArgs false
namespace Go.Proofs.YtgpjhibdongmbaaGreatDoor
section
open Go.RowKit
theorem qka:(Tryz.prog.info? 70).map (·.size)=some 2:=by kernel_rfl
theorem bld_lies:liesAt Tryz.prog Tryz.prog.depth 70 (2 / Tryz.prog.cellsOf 70) 0 70 1=true:=by kernel_rfl
theorem qlq:(Tryz.prog.info? 5).map (fun i=>(i.zero,i.size,i.bytes))=some (some (.int .u8 0),1,1):=by kernel_rfl
theorem qeh (b:Nat) (w:World) (h0:w.cell? ⟨b,0,none⟩=some (.pointer (some ⟨b,0,none⟩))) :
  Calls Tryz.prog 69 #[.pointer (some ⟨b,0,none⟩)] w fun e w'=>e=.returned (.tuple #[])/\w'=w:=by
 obtain⟨j,hj,_⟩:=Option.map_eq_some_iff.1 qka
 go_enter Tryz.func69,Tryz.ntmps69
 go_wp2;rw [Lib.run_neq_ptr_same w _ Tryz.underlying67 hj]
 go_wp2
 go_end0
 exact⟨rfl,rfl⟩
theorem qdm (b:Nat) (w:World) (h0:w.cell? ⟨b,0,none⟩=some (.pointer none)) (hsh:w.shape? b=some (70,2)) (hfz:w.frozen? ⟨b,0,none⟩=false) :
  Calls Tryz.prog 69 #[.pointer (some ⟨b,0,none⟩)] w fun e w'=>e=.returned (.tuple #[])/\w'=w.setCell ⟨b,0,none⟩ (.pointer (some ⟨b,0,none⟩)):=by
 obtain⟨j,hj,hjs⟩:=Option.map_eq_some_iff.1 qka
 go_enter Tryz.func69,Tryz.ntmps69
 go_wp2;rw [Lib.run_to_unsafe w ⟨b,0,none⟩ Tryz.underlying67 Tryz.underlying122 hj (by rw [hjs];decide) hsh (Nat.zero_lt_succ 1)]
 simp only [Result.andThen];rw [Oper.upon_value];go_wp2;rw [run_callFunc_extern Tryz.func93 (by kernel_rfl) (by kernel_rfl) (by kernel_rfl) (e:=Extern.AbiNoEscape.same) (by kernel_rfl)];rw [Lib.run_noEscape];simp only [Result.andThen];rw [Oper.upon_value];go_wp2;rw [Lib.run_from_unsafe w ⟨b,0,none⟩ Tryz.underlying122 Tryz.underlying67 hj hsh bld_lies];simp only [Result.andThen];rw [Oper.upon_value];go_wp2
 go_end0
 exact⟨rfl,rfl⟩
theorem qlr (B b:Nat) (bs:List Value) (w:World) (h:Lib.IsBuilderF 70 5 B b bs w) :
  Calls Tryz.prog 69 #[.pointer (some ⟨b,0,none⟩)] w fun e w'=>e=.returned (.tuple #[])/\(Lib.BuilderAtF 70 5 B b (.pointer (some ⟨b,0,none⟩)) bs w'/\Below B w w'/\Lib.OthersKept 5 (some b) w w'):=by
 rcases h with h|h
 ·refine(qdm b w h.cell0 h.shape h.frozen0).mono ?_
  rintro e w' ⟨rfl,rfl⟩;exact⟨rfl,h.used _,(Below.refl B w).setCell (p:=⟨b,0,none⟩) h.1 _,(Lib.OthersKept.refl _ _ w).setCell ⟨b,0,none⟩ rfl _⟩
 ·refine(qeh b w h.cell0).mono ?_
  rintro e w' ⟨rfl,rfl⟩;exact⟨rfl,h,Below.refl B _,Lib.OthersKept.refl _ _ _⟩
theorem qdn (B b:Nat) (bs:List Value) (s:ByteArray) (w:World) (h:Lib.IsBuilderF 70 5 B b bs w) (hlen:bs.length+s.size<=140737488355328) (hBw:B<=w.heap.size) :
  Calls Tryz.prog 39 #[.pointer (some ⟨b,0,none⟩),.string s] w fun e w'=>e=.returned (.tuple #[.int .i64 s.size,.nilIface])/\(Lib.BuilderAtF 70 5 B b (.pointer (some ⟨b,0,none⟩)) (bs ++ Lib.strCells s) w'/\Below B w w'/\Lib.OthersKept 5 (some b) w w'):=by
 obtain⟨i0,hi,hz0,hz1,hz2⟩:=info_parts qlq
 go_enter Tryz.func39,Tryz.ntmps39
 go_wp2_with (go_at_call 69;refine(qlr B b bs _ h).mono ?_)
 rintro e w1 ⟨rfl,h1,hb1,hk1⟩;obtain⟨hB,v,hbk,hown,hne⟩:=h1;have c0:w1.cell? ⟨b,0,none⟩=some (.pointer (some ⟨b,0,none⟩)):=by rw [Lib.cell_of_heap hbk];rfl
 have c1:w1.cell? ⟨b,1,none⟩=some v:=by rw [Lib.cell_of_heap hbk];rfl
 go_wp2_with (at_builtin;refine Lib.wpList_append_own_stringF _ rfl _ _ 68 9 rfl B 5 i0 Tryz.underlying68 Tryz.underlying9 hi hz0 hz1 hz2 _ _ _ rfl hown s rfl ?c3 ?c4 ?c5 ?_)
 case c3=>unfold maxLen;omega
 case c4=>omega
 case c5=>have:=hb1.size;omega
 intro v' w2 hown' hgrow _
 have hlt:b<w1.heap.size:=by
  rcases Nat.lt_or_ge b w1.heap.size with h'|h'
  ·exact h'
  ·simp [Array.getElem?_eq_none h']at hbk
 have hb2:w2.heap[b]? = some (.cells #[.pointer (some ⟨b,0,none⟩),v] 70 (0,0)):=by
  rw [hgrow.block b hlt (fun e=>hne e.symm)];exact hbk
 have d0:w2.cell? ⟨b,0,none⟩=some (.pointer (some ⟨b,0,none⟩)):=by rw [Lib.cell_of_heap hb2];rfl
 have d1:w2.cell? ⟨b,1,none⟩=some v:=by rw [Lib.cell_of_heap hb2];rfl
 have f1:w2.frozen? ⟨b,1,none⟩=false:=Lib.frozen_of_heap hb2 1
 obtain⟨ao,n',cap,rfl⟩ : ∃ao n' cap,v'=.slice ao n' cap:=by
  rcases hown'.2 with⟨hv,_⟩|⟨g,cap,cur,fz,hv,_⟩
  ·exact⟨_,_,_,hv⟩
  ·exact⟨_,_,_,hv⟩
 go_wp2;go_ret2
 refine⟨rfl,?_,?_,(hk1.grown hgrow (Lib.ownsRowF_kind hown)).setCell ⟨b,1,none⟩ rfl _⟩
 ·exact Lib.BuilderAtF.put (T:=70) (e:=5) hB hb2 (bs':=bs ++ Lib.strCells s) (by simpa [Lib.strCells_length]using hown') (by decide)
 ·exact(hb1.grown hgrow (by have:=hb1.size;omega) (fun k hk=>(hown.lt k hk).1)).setCell (p:=⟨b,1,none⟩) hB _
end
section
open Go.RowKit Ck Rs
theorem S_app (a b:List UInt8):S a ++ S b=S (a ++ b):=S_of (qk7 _ _)
theorem isb_bel {T e:TypeId} {B b:Nat} {bs:List Value} {w w':World} (h:Lib.IsBuilderF T e B b bs w) (k:Bel w w'):Lib.IsBuilderF T e B b bs w':=by
 have aux : ∀p,Lib.BuilderAtF T e B b p bs w->Lib.BuilderAtF T e B b p bs w':=fun p ⟨hB,v,hb,hown,hne⟩=>by
  refine⟨hB,v,(Below.block k b (Array.getElem?_eq_some_iff.1 hb).1).trans hb,⟨hown.1,?_⟩,hne⟩;rcases hown.2 with hn|⟨g,cap,cur,fz,h1,h2,h3,rest⟩
  ·exact .inl hn
  ·exact .inr ⟨g,cap,cur,fz,h1,h2,(Below.block k g (Array.getElem?_eq_some_iff.1 h3).1).trans h3,rest⟩
 rcases h with h|h
 ·exact .inl (aux _ h)
 ·exact .inr (aux _ h)
def TS (w0:World) (b:Nat) (acc:Str) (bl:List (Nat × Array Value × TypeId)) (w:World):Prop:=
 Lib.IsBuilderF 70 5 w0.heap.size b (Lib.byteCells acc) w/\Bel w0 w/\∀x ∈ bl,w.heap[x.1]? = some (.cells x.2.1 x.2.2 (0,0))/\x.1 ≠ b/\x.2.2 ≠ 5
section
variable {w0 w w' : World} {b : Nat} {acc : Str} {bl : List (Nat × Array Value × TypeId)}
theorem TS.lt (h:TS w0 b acc bl w):b<w.heap.size:=by
 rcases h.1 with⟨_,v,hb,_⟩|⟨_,v,hb,_⟩ <;> exact(Array.getElem?_eq_some_iff.1 hb).1
theorem TS.bel (h:TS w0 b acc bl w) (k:Bel w w'):TS w0 b acc bl w':=⟨isb_bel h.1 k,Bel.of h.2.1 k,fun x hx=>⟨(Below.block k _ (Array.getElem?_eq_some_iff.1 (h.2.2 x hx).1).1).trans (h.2.2 x hx).1,(h.2.2 x hx).2⟩⟩
theorem TS.addb (h:TS w0 b acc bl w) (cs:Array Value) (T:TypeId) (hT:T ≠ 5):TS w0 b acc ((w.heap.size,cs,T) :: bl) (w.alloc (.cells cs T)):=by
 have h2:=h.bel ((Bel.refl w).alloc (.cells cs T));have hlt:=h.lt;refine⟨h2.1,h2.2.1,fun x hx=>?_⟩;rcases List.mem_cons.1 hx with rfl|hx
 ·exact⟨heap_alloc_new _ _,by show w.heap.size ≠ b;omega,hT⟩
 ·exact h2.2.2 x hx
theorem TS.dropb {x:Nat × Array Value × TypeId} (h:TS w0 b acc (x :: bl) w):TS w0 b acc bl w:=⟨h.1,h.2.1,fun y hy=>h.2.2 y (List.mem_cons_of_mem _ hy)⟩
theorem TS.cell (h:TS w0 b acc bl w) (i:Nat) {x:Nat × Array Value × TypeId} (hi:bl[i]? = some x) (o:Nat):w.cell? ⟨x.1,o,none⟩=x.2.1[o]?:=Lib.cell_of_heap (h.2.2 x (List.mem_of_getElem? hi)).1 o
theorem TS.write (h:TS w0 b acc bl w) (s:Str) (hl:acc.length+s.length<=4000000000) :
  Calls Tryz.prog 39 #[.pointer (some ⟨b,0,none⟩),.string (S s)] w fun e w'=>e=.returned (.tuple #[.int .i64 s.length,.nilIface])/\TS w0 b (acc ++ s) bl w':=by
 refine(qdn w0.heap.size b (Lib.byteCells acc) (S s) w h.1 (by rw [Lib.byteCells_length,qar];omega) h.2.1.size).mono ?_;rintro e w' ⟨rfl,h1,h2,h3⟩;have hs:Lib.strCells (S s)=Lib.byteCells s:=rfl;rw [hs, ←Lib.byteCells_append]at h1;refine⟨by rw [qar],.inr h1,Below.trans h.2.1 h2,fun x hx=>?_⟩;obtain⟨q1,q2,q3⟩:=h.2.2 x hx;exact⟨qlb h3 q1 (fun e=>q2 (by injection e)) q3,q2,q3⟩
end
def PT (w : World) : Prop := Lib.TabIs Tryz.prog w "internal/strconv.uint64pow10" .u64 Lib.pow10Tab
theorem PT.bel {w w':World} (h:PT w) (k:Bel w w'):PT w':=Lib.tabBelow_of_tabIs h w' k.out
theorem bel_grow (w:World) (k:Nat) (os:Array Obj):Bel w (Sort.grow (w.drewN k) os):=by
 refine Bel.of ((Bel.refl w).drewN k) ⟨rfl,rfl,rfl,by simp [Sort.grow],fun i hi=>?_⟩;unfold Sort.grow;exact Array.getElem?_append_left hi
theorem md_Itoa (n:Int) (w:World) (hP:PT w) (h0 : -9223372036854775808<=n) (h1:n<=9223372036854775807) :
  Calls Tryz.prog 41 #[.int .i64 n] w fun e w'=>e=.returned (.string (S (Lib.itoa n)))/\Bel w w':=by
 refine(Tryz.strconv_Itoa n h0 h1 w hP).mono ?_;rintro e w' ⟨rfl,k,os,rfl⟩;exact⟨rfl,bel_grow w k os⟩
def lineP (w r:PPlan) (d:PAdapt):Str:=nameR w d.w ++ [32,45,62,32] ++ nameR r d.r ++ [10]
def subT (s:Int):Str:=if 0<=s then 32 :: Lib.itoa s else []
def actT (x:PAct):Str:=[32,32] ++ Lib.itoa x.num ++ [32] ++ wordR x.kind ++ subT x.sub ++ [10]
def lackT (n:Int):Str:=[32,32,108,97,99,107,115,32] ++ Lib.itoa n ++ [10]
def adT (w r:PPlan) (d:PAdapt):Str:=lineP w r d ++ d.acts.flatMap actT ++ d.lacks.flatMap lackT
def textR (w r:PPlan) (l:List PAdapt):Str:=l.flatMap (adT w r)
theorem qii (w r:PPlan) (d:PAdapt) (l:List PAdapt):textR w r (d :: l)=lineP w r d ++ d.acts.flatMap actT ++ d.lacks.flatMap lackT ++ textR w r l:=rfl
def inI (n:Int):Prop := -9223372036854775808<=n/\n<=9223372036854775807
def inRng (l:List PAdapt):Prop := ∀d ∈ l,(∀x ∈ d.acts,inI x.num/\inI x.sub)/\∀n ∈ d.lacks,inI n
theorem word_len (k:Int):(wordR k).length<=4:=by
 unfold wordR
 (repeat' split) <;> decide
end
section
open Go.RowKit Go.WideShapes Go.ChangeShapes
section
variable {H : Type} {enc : TypeId × Value → H} {P : Program}
theorem qev {f:Func} {s:ChangeSpec} {apart fresh handsOn again:Bool} {W W':World} {args:Array Value} {v:Value} {ds gs:List (DataW H)} {before pa pv:List MemPlace}
  (hW:DataW.Whole enc P f.params.toList s.vars apart W args.toList ds gs before)
  (hres : ∀(b:Nat) (sp:Nat->Bool) (hd:Bool),DataW.TrodAll enc P W' b sp hd f.resultTypes.toList (v.resultList f.resultTypes.size) (s.fn H (ds ++ gs)).results [])
  (hargs : ∀sp:Nat->Bool,(∀p ∈ before,sp p.block=true)->DataW.TrodAll enc P W' 0 sp true f.params.toList args.toList (s.fn H (ds ++ gs)).args pa)
  (hvars : ∀sp:Nat->Bool,(∀p ∈ before,sp p.block=true)->DataW.TrodVars enc P W' sp s.vars (s.fn H (ds ++ gs)).vars pv)
  (hps:before=pa ++ pv) (hb:Below W.heap.size W W')
  (hok : ∀(j:Nat) (t:TypeId) (r:Value),f.resultTypes[j]? = some t->(v.resultList f.resultTypes.size)[j]? = some r->Value.okWide P W' .any 0 t r) :
  s.post enc P f apart fresh handsOn again W args v W':=by
 have hlt : ∀p ∈ before,p.block<W.heap.size:=fun p hp=>hW.lt p hp
 have hold : ∀p ∈ before,(fun b=>decide (b<W.heap.size)) p.block=true:=fun p hp=>by simpa using hlt p hp
 refine⟨ds,gs,before,[],pa,pv,hW,hres _ _ _,hargs _ hold,hvars _ hold,World.keptBut_mono (fun p hp=>⟨hp,?_⟩) (hb.frame (· ∈ before)),fun _=>?_⟩
 ·rw [hps,List.mem_append]at hp
  exact Or.inr hp
 ·obtain⟨_,_,_,_,_,hz,hn⟩:=hW
  refine⟨hok,_,_,([] ++ pa) ++ pv,⟨[] ++ pa,pv,trodAll_append (hargs _ (fun _ _=>rfl)) (hres _ _ _),hvars _ (fun _ _=>rfl),rfl,?_,?_⟩,?_⟩
  ·intro b off hp
   have hin:MemPlace.cell b off ∈ before:=by rw [hps];simpa using hp
   rw [hb.frozen (hlt _ hin)];exact hz b off hin
  ·intro ha
   have:=hn ha;rw [hps]at this
   simpa using this
  ·intro p hp _
   rw [hps]
   simpa using hp
end
theorem own:ownKnob Tryz.prog.godebug=none:=by kernel_rfl
end
section
open Go.RowKit Go.WideShapes Go.ChangeShapes Go.Deep
theorem kids:Kids Tryz.prog (· < Tryz.prog.types.size):=kids_rows (by kernel_rfl) (by kernel_rfl)
theorem full : ∀t e,t<Tryz.prog.types.size->Tryz.prog.underlying t=some (.slice e)->0<Tryz.prog.cellsOf e:=slices_full_of Tryz.prog (by kernel_rfl)
section
variable {H : Type} {enc : TypeId × Value → H}
theorem qci {P:Program} {w w':World} {base:Nat} {sp:Nat->Bool} {held:Bool} : ∀{ts:List TypeId} {vs:List Value} {ds:List (DataW H)} {ps:List MemPlace},DataW.TrodAll enc P w base sp held ts vs ds ps->(∀p ∈ ps,w.sameAt w' p)->DataW.TrodAll enc P w' base sp held ts vs ds ps
 | [],[],[],_,h,_=>h
 | _ :: _,_ :: _,_ :: _,_,⟨p,q,⟨n,h1⟩,h2,e⟩,hs=>⟨p,q,⟨n,DataW.trod_carry n _ _ _ h1 (fun x hx=>hs x (by rw [e];exact List.mem_append_left _ hx))⟩,qci h2 (fun x hx=>hs x (by rw [e];exact List.mem_append_right _ hx)),e⟩
theorem qkc {W W':World} {ts:List TypeId} {vs:List Value} {ds:List (DataW H)} {p:List MemPlace} (hts : ∀t ∈ ts,t<Tryz.prog.types.size) (hA:DataW.TrodAll enc Tryz.prog W 0 (fun _=>true) true ts vs ds p)
  (hlt : ∀x ∈ p,x.block<W.heap.size) (hb:Below W.heap.size W W') (sp:Nat->Bool) (hs : ∀x ∈ p,sp x.block=true):DataW.TrodAll enc Tryz.prog W' 0 sp true ts vs ds p:=
 DataW.TrodAll.respare kids full hts (qci hA (fun x hx=>hb.same (hlt x hx))) hs
theorem law_post {f:Func} {s:ChangeSpec} {W W':World} {args:Array Value} {ds gs:List (DataW H)} {before:List MemPlace} (hv:s.vars=[]) (hts : ∀t ∈ f.params.toList,t<Tryz.prog.types.size)
  (hW:DataW.Whole enc Tryz.prog f.params.toList s.vars false W args.toList ds gs before) (hr:f.resultTypes=#[4])
  (h1:(s.fn H ds).results=[.lit (.bool true)]) (h2:(s.fn H ds).args=ds) (h3:(s.fn H ds).vars=[]) (hb:Below W.heap.size W W') :
  s.post enc Tryz.prog f false true false false W args (.bool true) W':=by
 have hW':=hW;obtain⟨p,q,hA,hV,rfl,hfz,hnd⟩:=hW;rw [hv]at hV;obtain⟨rfl,rfl⟩:=trodVars_none hV;have hlt : ∀x ∈ p ++ [],x.block<W.heap.size:=fun x hx=>hW'.lt x hx
 refine qev (pa:=p) (pv:=[]) hW' (fun b sp hd=>?_) (fun sp hs=>?_) (fun sp hs=>?_) rfl hb ?_
 ·rw [List.append_nil,h1,hr]
  exact trodAll_mk1 (shut_bool Tryz.underlying4 _)
 ·rw [List.append_nil,h2]
  exact qkc hts hA (fun x hx=>hlt x (by simpa using hx)) hb sp (fun x hx=>hs x (by simpa using hx))
 ·rw [List.append_nil,h3,hv]
  rfl
 ·exact ok_one hr rfl (okWide_bool_mk Tryz.underlying4 _)
theorem qel {x:Int} (h:(Lit.int .u64 x).wf=true):0<=x/\x<18446744073709551616:=by
 have : -0<=x/\x<=18446744073709551615:=by simpa [Lit.wf,IntKind.min,IntKind.max,IntKind.signed,IntKind.bits]using h
 omega
end
end
section
open Go.RowKit
section
variable {H : Type} {enc : TypeId × Value → H}
theorem qcb {C:Checked} {os:Os} {f:FuncId} {fn:Func} {s:OpenSpec} {conds:List PathCond} {apart:Bool} {laid:List (String × DataW Unit)} (modest:Bool) (w0:World) (args:Array Value) (hos:w0.os=os)
  (hsh:(w0.forCall (fun _ _=>0) ⟨#[],args,[]⟩).Shaped C.prog)
  (hok:Input.okWideB C.prog (w0.forCall (fun _ _=>0) ⟨#[],args,[]⟩) f ⟨#[],args,[]⟩=true)
  (hrow:s.preRow enc C.prog fn conds apart laid (w0.forCall (fun _ _=>0) ⟨#[],args,[]⟩).memory args) :
  ∃(w:World) (tape:Tape) (i:Input),w.os=os/\(w.forCall tape i).Shaped C.prog/\i.vars=[]/\Input.okWide C.prog (w.forCall tape i) .any w.heap.size f i ∧
   s.preRow enc C.prog fn conds apart laid (w.forCall tape i).memory i.args/\({ modest:=modest }:Assume).holds C.prog (lone (Frame.enter C.prog f i.args .normal) [] (w.forCall tape i)):=
 ⟨w0,fun _ _=>0,⟨#[],args,[]⟩,hos,hsh,(Input.okWide_of_okWideB (base:=0) hok).1,(Input.okWide_of_okWideB hok).2,hrow,by
  simp only [Assume.holds]
  exact⟨by simp,by simp,fun _=>Modest.zero,by simp,by simp⟩⟩
end
def qgt:List (String × DataW Unit):=Rows.resolveLooksRow.laid
noncomputable def layWorld (os:Os):World:=World.laidAll Tryz.prog os qgt
theorem ql7 (os:Os) (args:Array Value):((layWorld os).forCall (fun _ _=>0) ⟨#[],args,[]⟩).Shaped Tryz.prog:=World.shaped_of_ZipB (by kernel_rfl) (by kernel_rfl)
theorem lay_met (os:Os) (args:Array Value):laidMetH Tryz.prog qgt ((layWorld os).forCall (fun _ _=>0) ⟨#[],args,[]⟩).memory:=by
 rw [MakeChecks.laidMetH_plain _ _ _ (by kernel_rfl)];exact laidMet_laidAll _ (by kernel_rfl) (by kernel_rfl)
end
section
open Go.RowKit
theorem gFam : Tryz.prog.globalNamed "wireschema/promote.families" = some 5 := by kernel_rfl
theorem gBnd : Tryz.prog.globalNamed "wireschema/promote.bounds" = some 1 := by kernel_rfl
theorem pFam:((Tryz.prog.globals[5]?).map (·.type)).all (fun t=>qhw Tryz.prog 4 t)=true:=by kernel_rfl
theorem pBnd:((Tryz.prog.globals[1]?).map (·.type)).all (fun t=>qhw Tryz.prog 4 t)=true:=by kernel_rfl
theorem fFam:flat (Rows.laid_wireschema_promote_families (H:=Unit))=Pr.famT.map (Value.int .i64):=by kernel_rfl
theorem fBnd:flat (Rows.laid_wireschema_promote_bounds (H:=Unit))=Pr.boundT.map (Value.int .u64):=by kernel_rfl
theorem tab_of0 {W : World} (h : laidMet Tryz.prog [("wireschema/promote.families", Rows.laid_wireschema_promote_families), ("wireschema/promote.bounds", Rows.laid_wireschema_promote_bounds), ("unicode/utf8.first", Rows.laid_unicode_utf8_first)] W) : Tab W := by
 obtain⟨ps,⟨g,t,cs,fuel,p,q,hg,ht,hv,hd,⟨g2,t2,cs2,fuel2,p2,q2,hg2,ht2,hv2,hd2,hr,hq⟩,hp⟩,_⟩:=h;obtain rfl:=Option.some.inj (gFam.symm.trans hg);obtain rfl:=Option.some.inj (gBnd.symm.trans hg2);have k1:=pFam;rw [ht]at k1;have k2:=pBnd;rw [ht2]at k2;have e1:=qd8 4 t cs.toList _ fuel k1 hd;have e2:=qd8 4 t2 cs2.toList _ fuel2 k2 hd2;rw [fFam]at e1;rw [fBnd]at e2
 have c1 : ∀i,i<27->W.cell? ⟨5,i,none⟩=some (.int .i64 (Pr.famT.getD i 0)):=by
  intro i hi;rw [World.var?_cell hg hv i, ←Array.getElem?_toList,e1,List.getElem?_map];have hl:i<Pr.famT.length:=hi;simp [List.getD,hl]
 have c2 : ∀i,i<18->W.cell? ⟨1,i,none⟩=some (.int .u64 (Pr.boundT.getD i 0)):=by
  intro i hi;rw [World.var?_cell hg2 hv2 i, ←Array.getElem?_toList,e2,List.getElem?_map];have hl:i<Pr.boundT.length:=hi;simp [List.getD,hl]
 refine⟨c1,c2,?_⟩;have:=block_lt_of_cell (c1 0 (by decide));simp at this;omega
theorem tab_eq:(Rows.laid_internal_strconv_uint64pow10:DataW Unit)=Lib.tabData .u64 Lib.pow10Tab:=by kernel_rfl
theorem pt_of {W:World} (h:laidMetH Tryz.prog qgt W):PT W:=by
 rw [MakeChecks.laidMetH_plain _ _ _ (by kernel_rfl)]at h;have h2:=h.tail.tail;rw [tab_eq]at h2;exact Lib.tabIs_of_head (g:=0) (t:=175) (e:=87) (n:=20) (by kernel_rfl) (by kernel_rfl) (by kernel_rfl) (by kernel_rfl) (by kernel_rfl) (by kernel_rfl) h2
theorem tab_of {W:World} (h:laidMetH Tryz.prog qgt W):Tab W:=by
 rw [MakeChecks.laidMetH_plain _ _ _ (by kernel_rfl)]at h;exact tab_of0 h.tail.tail.tail.tail
end
end Go.Proofs.YtgpjhibdongmbaaGreatDoor
