import Derived.Test.YtfoaaglbpmmhiaaGreatDoorKitA
import Derived.Test.YtfoaaglbpmmhiaaGreatDoorShelf
import Derived.Shelf.Strings.BuilderK
import Derived.Test.YtfoaaglbpmmhiaaGreatDoorMdMakeP
set_option maxRecDepth 100000
set_option maxHeartbeats 4000000
set_option linter.unusedVariables false
set_option linter.unusedSimpArgs false
namespace Go.Proofs.YtfoaaglbpmmhiaaGreatDoor
section
open Go.RowKit
theorem qp0:(Tryz.prog.info? 107).map (·.size)=some 2:=by kernel_rfl
theorem bld_lies:liesAt Tryz.prog Tryz.prog.depth 107 (2 / Tryz.prog.cellsOf 107) 0 107 1=true:=by kernel_rfl
theorem qr7:(Tryz.prog.info? 5).map (fun i=>(i.zero,i.size,i.bytes))=some (some (.int .u8 0),1,1):=by kernel_rfl
theorem qhw (b:Nat) (w:World) (h0:w.cell? ⟨b,0,none⟩=some (.pointer (some ⟨b,0,none⟩))) :
  Calls Tryz.prog 68 #[.pointer (some ⟨b,0,none⟩)] w fun e w'=>e=.returned (.tuple #[])/\w'=w:=by
 obtain⟨j,hj,_⟩:=Option.map_eq_some_iff.1 qp0
 go_enter Tryz.func68,Tryz.ntmps68
 go_wp2;rw [Lib.run_neq_ptr_same w _ Tryz.underlying104 hj]
 go_wp2
 go_end0
 exact⟨rfl,rfl⟩
theorem qg6 (b:Nat) (w:World) (h0:w.cell? ⟨b,0,none⟩=some (.pointer none)) (hsh:w.shape? b=some (107,2)) (hfz:w.frozen? ⟨b,0,none⟩=false) :
  Calls Tryz.prog 68 #[.pointer (some ⟨b,0,none⟩)] w fun e w'=>e=.returned (.tuple #[])/\w'=w.setCell ⟨b,0,none⟩ (.pointer (some ⟨b,0,none⟩)):=by
 obtain⟨j,hj,hjs⟩:=Option.map_eq_some_iff.1 qp0
 go_enter Tryz.func68,Tryz.ntmps68
 go_wp2;rw [Lib.run_to_unsafe w ⟨b,0,none⟩ Tryz.underlying104 Tryz.underlying159 hj (by rw [hjs];decide) hsh (Nat.zero_lt_succ 1)]
 simp only [Result.andThen];rw [Oper.upon_value];go_wp2;rw [run_callFunc_extern Tryz.func97 (by kernel_rfl) (by kernel_rfl) (by kernel_rfl) (e:=Extern.AbiNoEscape.same) (by kernel_rfl)];rw [Lib.run_noEscape];simp only [Result.andThen];rw [Oper.upon_value];go_wp2;rw [Lib.run_from_unsafe w ⟨b,0,none⟩ Tryz.underlying159 Tryz.underlying104 hj hsh bld_lies];simp only [Result.andThen];rw [Oper.upon_value];go_wp2
 go_end0
 exact⟨rfl,rfl⟩
theorem qrc (B b:Nat) (bs:List Value) (w:World) (h:Lib.IsBuilderF 107 5 B b bs w) :
  Calls Tryz.prog 68 #[.pointer (some ⟨b,0,none⟩)] w fun e w'=>e=.returned (.tuple #[])/\(Lib.BuilderAtF 107 5 B b (.pointer (some ⟨b,0,none⟩)) bs w'/\Below B w w'/\Lib.OthersKept 5 (some b) w w'):=by
 rcases h with h|h
 ·refine(qg6 b w h.cell0 h.shape h.frozen0).mono ?_
  rintro e w' ⟨rfl,rfl⟩;exact⟨rfl,h.used _,(Below.refl B w).setCell (p:=⟨b,0,none⟩) h.1 _,(Lib.OthersKept.refl _ _ w).setCell ⟨b,0,none⟩ rfl _⟩
 ·refine(qhw b w h.cell0).mono ?_
  rintro e w' ⟨rfl,rfl⟩;exact⟨rfl,h,Below.refl B _,Lib.OthersKept.refl _ _ _⟩
theorem qg7 (B b:Nat) (bs:List Value) (s:ByteArray) (w:World) (h:Lib.IsBuilderF 107 5 B b bs w) (hlen:bs.length+s.size<=140737488355328) (hBw:B<=w.heap.size) :
  Calls Tryz.prog 49 #[.pointer (some ⟨b,0,none⟩),.string s] w fun e w'=>e=.returned (.tuple #[.int .i64 s.size,.nilIface])/\(Lib.BuilderAtF 107 5 B b (.pointer (some ⟨b,0,none⟩)) (bs ++ Lib.strCells s) w'/\Below B w w'/\Lib.OthersKept 5 (some b) w w'):=by
 obtain⟨i0,hi,hz0,hz1,hz2⟩:=info_parts qr7
 go_enter Tryz.func49,Tryz.ntmps49
 go_wp2_with (go_at_call 68;refine(qrc B b bs _ h).mono ?_)
 rintro e w1 ⟨rfl,h1,hb1,hk1⟩;obtain⟨hB,v,hbk,hown,hne⟩:=h1;have c0:w1.cell? ⟨b,0,none⟩=some (.pointer (some ⟨b,0,none⟩)):=by rw [Lib.cell_of_heap hbk];rfl
 have c1:w1.cell? ⟨b,1,none⟩=some v:=by rw [Lib.cell_of_heap hbk];rfl
 go_wp2_with (at_builtin;refine Lib.wpList_append_own_stringF _ rfl _ _ 105 9 rfl B 5 i0 Tryz.underlying105 Tryz.underlying9 hi hz0 hz1 hz2 _ _ _ rfl hown s rfl ?c3 ?c4 ?c5 ?_)
 case c3=>unfold maxLen;omega
 case c4=>omega
 case c5=>have:=hb1.size;omega
 intro v' w2 hown' hgrow _
 have hlt:b<w1.heap.size:=by
  rcases Nat.lt_or_ge b w1.heap.size with h'|h'
  ·exact h'
  ·simp [Array.getElem?_eq_none h']at hbk
 have hb2:w2.heap[b]? = some (.cells #[.pointer (some ⟨b,0,none⟩),v] 107 (0,0)):=by
  rw [hgrow.block b hlt (fun e=>hne e.symm)];exact hbk
 have d0:w2.cell? ⟨b,0,none⟩=some (.pointer (some ⟨b,0,none⟩)):=by rw [Lib.cell_of_heap hb2];rfl
 have d1:w2.cell? ⟨b,1,none⟩=some v:=by rw [Lib.cell_of_heap hb2];rfl
 have f1:w2.frozen? ⟨b,1,none⟩=false:=Lib.frozen_of_heap hb2 1
 obtain⟨ao,n',cap,rfl⟩ : ∃ao n' cap,v'=.slice ao n' cap:=by
  rcases hown'.2 with⟨hv,_⟩|⟨g,cap,cur,fz,hv,_⟩
  ·exact⟨_,_,_,hv⟩
  ·exact⟨_,_,_,hv⟩
 go_wp2;go_ret2
 refine⟨rfl,?_,?_,(hk1.grown hgrow (Lib.ownsRowF_kind hown)).setCell ⟨b,1,none⟩ rfl _⟩
 ·exact Lib.BuilderAtF.put (T:=107) (e:=5) hB hb2 (bs':=bs ++ Lib.strCells s) (by simpa [Lib.strCells_length]using hown') (by decide)
 ·exact(hb1.grown hgrow (by have:=hb1.size;omega) (fun k hk=>(hown.lt k hk).1)).setCell (p:=⟨b,1,none⟩) hB _
end
section
open Go.RowKit Ck Md
theorem isb_bel {T e:TypeId} {B b:Nat} {bs:List Value} {w w':World} (h:Lib.IsBuilderF T e B b bs w) (k:Bel w w'):Lib.IsBuilderF T e B b bs w':=by
 have aux : ∀p,Lib.BuilderAtF T e B b p bs w->Lib.BuilderAtF T e B b p bs w':=fun p ⟨hB,v,hb,hown,hne⟩=>by
  refine⟨hB,v,(Below.block k b (Array.getElem?_eq_some_iff.1 hb).1).trans hb,⟨hown.1,?_⟩,hne⟩;rcases hown.2 with hn|⟨g,cap,cur,fz,h1,h2,h3,rest⟩
  ·exact .inl hn
  ·exact .inr ⟨g,cap,cur,fz,h1,h2,(Below.block k g (Array.getElem?_eq_some_iff.1 h3).1).trans h3,rest⟩
 rcases h with h|h
 ·exact .inl (aux _ h)
 ·exact .inr (aux _ h)
def TS (w0:World) (b:Nat) (acc:Str) (bl:List (Nat × Array Value × TypeId)) (w:World):Prop:=
 Lib.IsBuilderF 107 5 w0.heap.size b (Lib.byteCells acc) w/\Bel w0 w/\∀x ∈ bl,w.heap[x.1]? = some (.cells x.2.1 x.2.2 (0,0))/\x.1 ≠ b/\x.2.2 ≠ 5
section
variable {w0 w w' : World} {b : Nat} {acc : Str} {bl : List (Nat × Array Value × TypeId)}
theorem TS.lt (h:TS w0 b acc bl w):b<w.heap.size:=by
 rcases h.1 with⟨_,v,hb,_⟩|⟨_,v,hb,_⟩ <;> exact(Array.getElem?_eq_some_iff.1 hb).1
theorem TS.bel (h:TS w0 b acc bl w) (k:Bel w w'):TS w0 b acc bl w':=⟨isb_bel h.1 k,Bel.of h.2.1 k,fun x hx=>⟨(Below.block k _ (Array.getElem?_eq_some_iff.1 (h.2.2 x hx).1).1).trans (h.2.2 x hx).1,(h.2.2 x hx).2⟩⟩
theorem TS.addb (h:TS w0 b acc bl w) (cs:Array Value) (T:TypeId) (hT:T ≠ 5):TS w0 b acc ((w.heap.size,cs,T) :: bl) (w.alloc (.cells cs T)):=by
 have h2:=h.bel ((Bel.refl w).alloc (.cells cs T));have hlt:=h.lt;refine⟨h2.1,h2.2.1,fun x hx=>?_⟩;rcases List.mem_cons.1 hx with rfl|hx
 ·exact⟨heap_alloc_new _ _,by show w.heap.size ≠ b;omega,hT⟩
 ·exact h2.2.2 x hx
theorem TS.dropb {x:Nat × Array Value × TypeId} (h:TS w0 b acc (x :: bl) w):TS w0 b acc bl w:=⟨h.1,h.2.1,fun y hy=>h.2.2 y (List.mem_cons_of_mem _ hy)⟩
theorem TS.cell (h:TS w0 b acc bl w) (i:Nat) {x:Nat × Array Value × TypeId} (hi:bl[i]? = some x) (o:Nat):w.cell? ⟨x.1,o,none⟩=x.2.1[o]?:=Lib.cell_of_heap (h.2.2 x (List.mem_of_getElem? hi)).1 o
theorem TS.write (h:TS w0 b acc bl w) (s:Str) (hl:acc.length+s.length<=4000000000) :
  Calls Tryz.prog 49 #[.pointer (some ⟨b,0,none⟩),.string (S s)] w fun e w'=>e=.returned (.tuple #[.int .i64 s.length,.nilIface])/\TS w0 b (acc ++ s) bl w':=by
 refine(qg7 w0.heap.size b (Lib.byteCells acc) (S s) w h.1 (by rw [Lib.byteCells_length,qai];omega) h.2.1.size).mono ?_;rintro e w' ⟨rfl,h1,h2,h3⟩;have hs:Lib.strCells (S s)=Lib.byteCells s:=rfl;rw [hs, ←Lib.byteCells_append]at h1;refine⟨by rw [qai],.inr h1,Below.trans h.2.1 h2,fun x hx=>?_⟩;obtain⟨q1,q2,q3⟩:=h.2.2 x hx;exact⟨qbx h3 q1 (fun e=>q2 (by injection e)) q3,q2,q3⟩
end
def declB (B:Nat) (l:List PDecl):Prop:=(Md.text l).length<=B/\∀d ∈ l,d.name.length<=B/\d.frm.length<=B/\∀m ∈ d.mems,m.name.length<=B/\m.ty.length<=B/\-9223372036854775808<=m.num/\m.num<=9223372036854775807
theorem qpi (d:PDecl) (l:List PDecl):Md.text (d :: l)=declT d ++ Md.text l:=rfl
theorem kind_len (k:Int):(kindW k).length<=6:=by
 unfold kindW
 (repeat' split) <;> decide
def headT (d:PDecl):Str:=kindW d.kind ++ [32] ++ d.name ++ [32,61,32] ++ d.frm ++ [10]
theorem declT_eq (d:PDecl):declT d=headT d ++ d.mems.flatMap memT:=rfl
theorem md_Text (v:Value) (l:List PDecl) (w:World) (hv:Decls w v l) (hP:PT w) (hB:declB 1000000000 l) :
  Calls Tryz.prog 16 #[v] w fun e w'=>e=.returned (.string (S (Md.text l)))/\Bel w w':=by
 obtain⟨q,c,rfl,hl,hcap,hel⟩:=hv;have EL:=h_ hel;have HBd:=h_ hB.2;have hTl:=hB.1;have V:=h_ (show [] ++ Md.text (l.drop 0)=Md.text l from rfl);generalize Md.text l=T at V hTl;have CI:=h_ (fun W (n:Int) (k:Bel w W) h0 h1=>md_Itoa n W (hP.bel k) h0 h1);have hS0:=h_ (show TS w w.heap.size [] [] _ from⟨Lib.IsBuilderF.of (Lib.fresh_isBuilder 107 5 w),(Bel.refl w).alloc _,fun x hx=>by cases hx⟩);clear hel hB hP
 go_enter Tryz.func16,Tryz.ntmps16
 go_wp2
 go_loopw [10] (fun i wr => ∃(k:Nat) (acc:Str),k<=l.length/\i=.int .i64 k/\Hid (TS w w.heap.size acc [] wr)/\Hid (acc ++ Md.text (l.drop k)=T)) (fun i _=>l.length-(intOf i).toNat)
 case atStart=>exact⟨0,[],by omega,rfl,hS0,V⟩
 case round=>as_aux_lemma=>
  clear hS0;obtain⟨k,acc,hk,rfl,hTS,hx⟩:=hrel;have hblt:w.heap.size<wr.heap.size:=hTS.out.lt;by_cases hlt:k<l.length
  ·have hki:(k:Int)<(l.length:Int):=by omega
   have hg:=List.getElem?_eq_getElem hlt;have hbd:=HBd.out _ (List.getElem_mem hlt);obtain⟨b,off,rfl,hbs,vs,hce,hvs⟩:=EL.out k _ hg;obtain⟨mv,hvs1,hmv⟩:=hvs;subst hvs1;have hx1:=h_ (show(acc ++ headT l[k]) ++ ((l[k]).mems.flatMap memT ++ Md.text (l.drop (k+1)))=T by rw [←hx.out,List.drop_eq_getElem_cons hlt,qpi,declT_eq];simp only [List.append_assoc]);clear hx;generalize l[k]=d at *;obtain⟨qm,cm,rfl,hml,hmc,hem⟩:=hmv;have kr:=hTS.out.2.1;have e0:=kr.some (hce 0 _ rfl);rw [Nat.add_zero]at e0;have e1:=kr.some (hce 1 _ rfl);have e2:=kr.some (hce 2 _ rfl);have e3:=kr.some (hce 3 _ rfl);have ELM:=h_ hem;have HBm:=h_ hbd.2.2;have hb1:=hbd.1;have hb2:=hbd.2.1;have hkl:=kind_len d.kind;clear hg hce hem hbd kr;have HA:=h_ (hTS.out.addb #[.int .i64 d.kind,.string (S d.name),.string (S d.frm),.slice qm d.mems.length cm] 47 (by decide));clear hTS
   go_upto_region 5 with(fail)
   clear e0 e1 e2 e3;obtain⟨wd,hwd⟩ : ∃wd,wd=(wr.alloc (.cells #[.int .i64 d.kind,.string (S d.name),.string (S d.frm),.slice qm d.mems.length cm] 47)).drew:=⟨_,rfl⟩;have HD:=h_ (show TS _ _ _ _ wd by rw [hwd];exact HA.out.bel (Bel.refl _).drew);have HWD:=h_ hwd;clear hwd HA;have a0:wd.cell? ⟨wr.heap.size,0,none⟩=some (.int .i64 d.kind):=HD.out.cell 0 rfl 0;have a1:wd.cell? ⟨wr.heap.size,1,none⟩=some (.string (S d.name)):=HD.out.cell 0 rfl 1;have a2:wd.cell? ⟨wr.heap.size,2,none⟩=some (.string (S d.frm)):=HD.out.cell 0 rfl 2;have KW:=h_ (md_kind d.kind);have HH:=h_ (show S (kindW d.kind) ++ (⟨#[32]⟩:ByteArray) ++ S d.name ++ (⟨#[32,61,32]⟩:ByteArray) ++ S d.frm ++ (⟨#[10]⟩:ByteArray)=S (headT d)by unfold headT;simp only [←S_app];rfl);have hhl:(headT d).length=(kindW d.kind).length+5+d.name.length+d.frm.length:=by unfold headT;simp only [List.length_append,List.length_cons,List.length_nil];omega
   have hal:acc.length+(headT d).length<=1000000000:=by
    have:=congrArg List.length hx1.out;simp only [List.length_append]at this;omega
   generalize headT d=HT at hx1 HH hal hhl;generalize kindW d.kind=KD at KW HH hkl hhl;have s1:=qai KD;have s2:=qai d.name;have s3:=qai d.frm;have q3 : ¬(9223372036854775807<(S KD).size+1):=by omega
   have q6 : ¬(9223372036854775807<(S KD).size+1+(S d.name).size):=by omega
   have q7 : ¬(9223372036854775807<(S KD).size+1+(S d.name).size+3):=by omega
   clear s1 s2 s3;refine qak (fun W=>W.cell? ⟨wr.heap.size,0,none⟩=some (.int .i64 d.kind)/\W.cell? ⟨wr.heap.size,1,none⟩=some (.string (S d.name))/\W.cell? ⟨wr.heap.size,2,none⟩=some (.string (S d.frm))) [(0,true),(1,true),(4,true),(5,true),(8,true),(9,true),(2,false),(3,true),(6,true),(7,true)] 10 (by kernel_rfl) (by kernel_rfl) HWD.out ⟨a0,a1,a2⟩ ?_;simp only [qb3,List.getElem?_cons_zero,List.getElem?_cons_succ]
   (with_reducible refine qa1 (v:=?vv264) (by with_unfolding_all rfl) (fun W hW=>?hy264) ?hr264);(case hy264=>((try dsimp only at hW);go_simp;(all_goals with_reducible rfl)));(simp only [Act.put,z_1,z_2,z_3])
   (with_reducible refine qa1 (v:=?vv265) (by with_unfolding_all rfl) (fun W hW=>?hy265) ?hr265);(case hy265=>((try dsimp only at hW);go_simp;(all_goals with_reducible rfl)));(simp only [Act.put,z_1,z_2,z_3])
   (with_reducible refine qa1 (v:=?vv266) (by with_unfolding_all rfl) (fun W hW=>?hy266) ?hr266);(case hy266=>((try dsimp only at hW);go_simp;(all_goals with_reducible rfl)));(simp only [Act.put,z_1,z_2,z_3])
   (with_reducible refine qa1 (v:=?vv267) (by with_unfolding_all rfl) (fun W hW=>?hy267) ?hr267);(case hy267=>((try dsimp only at hW);go_simp;(all_goals with_reducible rfl)));(simp only [Act.put,z_1,z_2,z_3])
   (with_reducible refine qa1 (v:=?vv268) (by with_unfolding_all rfl) (fun W hW=>?hy268) ?hr268);(case hy268=>((try dsimp only at hW);go_simp;(all_goals with_reducible rfl)));(simp only [Act.put,z_1,z_2,z_3])
   (with_reducible refine qa1 (v:=?vv269) (by with_unfolding_all rfl) (fun W hW=>?hy269) ?hr269);(case hy269=>((try dsimp only at hW);go_simp;(all_goals with_reducible rfl)));(simp only [Act.put,z_1,z_2,z_3])
   with_reducible refine qaj (fun K hK=>?_)
   go_simp
   with_reducible refine(KW.out _).mono ?_
   rintro e w1 ⟨rfl,rfl⟩;refine hK _ _ ⟨a0,a1,a2⟩ ?_;clear hK K
   (try simp only [Act.put,z_1,z_2,z_3])
   (with_reducible refine qa1 (v:=?vv270) (by with_unfolding_all rfl) (fun W hW=>?hy270) ?hr270);(case hy270=>((try dsimp only at hW);go_simp;(all_goals with_reducible rfl)));(simp only [Act.put,z_1,z_2,z_3])
   (with_reducible refine qa1 (v:=?vv271) (by with_unfolding_all rfl) (fun W hW=>?hy271) ?hr271);(case hy271=>((try dsimp only at hW);go_simp;(all_goals with_reducible rfl)));(simp only [Act.put,z_1,z_2,z_3])
   (with_reducible refine qa1 (v:=?vv272) (by with_unfolding_all rfl) (fun W hW=>?hy272) ?hr272);(case hy272=>((try dsimp only at hW);go_simp;(all_goals with_reducible rfl)));(simp only [Act.put,z_1,z_2,z_3])
   refine qbm ?_;simp only [t_3,t_4];have s1:=qai KD;have s2:=qai d.name;have s3:=qai d.frm;clear q3 q6 q7 a0 a1 a2;have WR:=h_ (HD.out.write HT (by omega));rw [←HH.out]at WR;clear HD
   go_upto_region 6 with(go_at_call 49;(with_reducible refine WR.out.mono ?_);rintro e w2 ⟨rfl,h2⟩)
   have H2:=h_ h2;have a3:w2.cell? ⟨wr.heap.size,3,none⟩=some (.slice qm d.mems.length cm):=h2.cell 0 rfl 3;clear h2 WR s1 s2 s3 HH;have hx2:=h_ (show(acc ++ HT) ++ (d.mems.drop 0).flatMap memT ++ Md.text (l.drop (k+1))=T by rw [←hx1.out];simp)
   go_upto_region 7 with(fail)
   generalize wr.heap.size=db at H2 ⊢;clear a3
   go_loopw [30] (fun i2 wr => ∃(j:Nat) (acc2:Str),j<=d.mems.length/\i2=.int .i64 j/\Hid (TS w w.heap.size acc2 [(db,#[.int .i64 d.kind,.string (S d.name),.string (S d.frm),.slice qm d.mems.length cm],47)] wr)/\Hid (acc2 ++ (d.mems.drop j).flatMap memT ++ Md.text (l.drop (k+1))=T)) (fun i2 _=>d.mems.length-(intOf i2).toNat)
   case atStart=>exact⟨0,acc ++ HT,by omega,rfl,H2,hx2⟩
   case round=>
    clear H2 hx2 hx1 hal hblt;obtain⟨j,acc2,hj,rfl,hTS,hx⟩:=hrel;have hblt:w.heap.size<wr.heap.size:=hTS.out.lt;by_cases hlt2:j<d.mems.length
    ·have hji:(j:Int)<(d.mems.length:Int):=by omega
     have hg2:=List.getElem?_eq_getElem hlt2;have hbm:=HBm.out _ (List.getElem_mem hlt2);obtain⟨bm,om,rfl,hbsm,vs,hcem,hvsm⟩:=ELM.out j _ hg2;have hvs':vs=memC d.mems[j]:=hvsm;subst hvs';have hx1:=h_ (show acc2 ++ memT d.mems[j] ++ (d.mems.drop (j+1)).flatMap memT ++ Md.text (l.drop (k+1))=T by rw [←hx.out,List.drop_eq_getElem_cons hlt2,List.flatMap_cons];simp only [List.append_assoc]);clear hx;generalize d.mems[j]=m at *;have kr:=hTS.out.2.1;have y0:wr.cell? ⟨bm,om+j*3,none⟩=some (.string (S m.name)):=kr.some (by have:=hcem 0 (.string (S m.name)) rfl;rwa [Nat.add_zero]at this);have y1:wr.cell? ⟨bm,om+j*3+1,none⟩=some (.string (S m.ty)):=kr.some (hcem 1 _ rfl);have y2:wr.cell? ⟨bm,om+j*3+2,none⟩=some (.int .i64 m.num):=kr.some (hcem 2 _ rfl);have HA:=h_ (hTS.out.addb #[.string (S m.name),.string (S m.ty),.int .i64 m.num] 80 (by decide));clear hTS hg2 hcem hvsm kr
     go_upto_region 9 with(fail)
     clear y0 y1 y2;obtain⟨wd,hwd⟩ : ∃wd,wd=(wr.alloc (.cells #[.string (S m.name),.string (S m.ty),.int .i64 m.num] 80)).drew:=⟨_,rfl⟩;have HD:=h_ (show TS _ _ _ _ wd by rw [hwd];exact HA.out.bel (Bel.refl _).drew);have HWD:=h_ hwd;clear hwd HA;have SS:=h_ (fun(acc:Str) (bl:List (Nat × Array Value × TypeId)) (W:World) (hs:TS w w.heap.size acc bl W) (i:Nat) (hi:bl[i]? = some (wr.heap.size,#[.string (S m.name),.string (S m.ty),.int .i64 m.num],80))=>show W.cell? ⟨wr.heap.size,0,none⟩=some (.string (S m.name))/\W.cell? ⟨wr.heap.size,1,none⟩=some (.string (S m.ty))/\W.cell? ⟨wr.heap.size,2,none⟩=some (.int .i64 m.num)from⟨hs.cell i hi 0,hs.cell i hi 1,hs.cell i hi 2⟩);have CI2:=h_ (CI.out wd m.num HD.out.2.1 hbm.2.2.1 hbm.2.2.2);have hil:=Lib.itoa_length_le m.num hbm.2.2.1 hbm.2.2.2;have HH:=h_ (show(⟨#[32,32]⟩:ByteArray) ++ S m.name ++ (⟨#[32]⟩:ByteArray) ++ S (Lib.itoa m.num)=S ([32,32] ++ m.name ++ [32] ++ Lib.itoa m.num)by simp only [←S_app];rfl);have hx1:=h_ (show acc2 ++ ([32,32] ++ m.name ++ [32] ++ Lib.itoa m.num ++ (if m.ty=[]then []else 32 :: m.ty) ++ [10]) ++ (d.mems.drop (j+1)).flatMap memT ++ Md.text (l.drop (k+1))=T from hx1.out);have hml2:=congrArg List.length hx1.out;simp only [List.length_append,List.length_cons,List.length_nil]at hml2;generalize Lib.itoa m.num=NU at CI2 hil HH hx1 hml2;have hbn:=hbm.1;have hbt:=hbm.2.1;clear hbm;have s1:=qai m.name;have s2:=qai NU;have q2 : ¬(9223372036854775807<2+(S m.name).size):=by omega
     have q3 : ¬(9223372036854775807<2+(S m.name).size+1):=by omega
     clear s1 s2;refine qak (fun W=>W.cell? ⟨wr.heap.size,0,none⟩=some (.string (S m.name))/\W.cell? ⟨wr.heap.size,1,none⟩=some (.string (S m.ty))/\W.cell? ⟨wr.heap.size,2,none⟩=some (.int .i64 m.num)) [(0,true),(1,true),(2,true),(3,true),(4,true),(5,true),(6,false)] 7 (by kernel_rfl) (by kernel_rfl) HWD.out (SS.out _ _ _ HD.out 0 rfl) ?_;simp only [qb3,List.getElem?_cons_zero,List.getElem?_cons_succ]
     (with_reducible refine qa1 (v:=?vv273) (by with_unfolding_all rfl) (fun W hW=>?hy273) ?hr273);(case hy273=>((try dsimp only at hW);go_simp;(all_goals with_reducible rfl)));(simp only [Act.put,z_1,z_2,z_3])
     (with_reducible refine qa1 (v:=?vv274) (by with_unfolding_all rfl) (fun W hW=>?hy274) ?hr274);(case hy274=>((try dsimp only at hW);go_simp;(all_goals with_reducible rfl)));(simp only [Act.put,z_1,z_2,z_3])
     (with_reducible refine qa1 (v:=?vv275) (by with_unfolding_all rfl) (fun W hW=>?hy275) ?hr275);(case hy275=>((try dsimp only at hW);go_simp;(all_goals with_reducible rfl)));(simp only [Act.put,z_1,z_2,z_3])
     (with_reducible refine qa1 (v:=?vv276) (by with_unfolding_all rfl) (fun W hW=>?hy276) ?hr276);(case hy276=>((try dsimp only at hW);go_simp;(all_goals with_reducible rfl)));(simp only [Act.put,z_1,z_2,z_3])
     (with_reducible refine qa1 (v:=?vv277) (by with_unfolding_all rfl) (fun W hW=>?hy277) ?hr277);(case hy277=>((try dsimp only at hW);go_simp;(all_goals with_reducible rfl)));(simp only [Act.put,z_1,z_2,z_3])
     (with_reducible refine qa1 (v:=?vv278) (by with_unfolding_all rfl) (fun W hW=>?hy278) ?hr278);(case hy278=>((try dsimp only at hW);go_simp;(all_goals with_reducible rfl)));(simp only [Act.put,z_1,z_2,z_3])
     with_reducible refine qaj (fun K hK=>?_)
     go_simp
     with_reducible refine CI2.out.mono ?_
     rintro e w1 ⟨rfl,k1⟩;have H1:=h_ (HD.out.bel k1);refine hK _ _ (SS.out _ _ _ H1.out 0 rfl) ?_;clear hK K HD CI2 k1
     (try simp only [Act.put,z_1,z_2,z_3])
     refine qbm ?_;simp only [t_3,t_4];clear q2 q3;have s1:=qai m.name;have s2:=qai NU;have hWl:acc2.length+([32,32] ++ m.name ++ [32] ++ NU).length<=1000000100:=by simp only [List.length_append,List.length_cons,List.length_nil];omega
     have WR:=h_ (H1.out.write ([32,32] ++ m.name ++ [32] ++ NU) (by omega));rw [←HH.out]at WR
     go_upto_region 10 with(go_at_call 49;(with_reducible refine WR.out.mono ?_);rintro e w2 ⟨rfl,h2⟩)
     have H2:=h_ h2;clear h2 WR H1 s1 s2 HH hWl;have a1:=(SS.out _ _ _ H2.out 0 rfl).2.1;have zt:=qai m.ty;by_cases hty:m.ty=[]
     ·have hte:(S m.ty).toList=[]:=by rw [ByteArray.toList_eq,qah,hty]
      have hx3:=h_ (show(acc2 ++ ([32,32] ++ m.name ++ [32] ++ NU) ++ [10]) ++ (d.mems.drop (j+1)).flatMap memT ++ Md.text (l.drop (k+1))=T by rw [←hx1.out,if_pos hty];simp only [List.append_assoc,List.nil_append]);have WR:=h_ (H2.out.write [10] (by simp only [List.length_append,List.length_cons,List.length_nil];omega));have WR2:Hid (Calls Tryz.prog 49 #[.pointer (some ⟨w.heap.size,0,none⟩),.string ⟨#[10]⟩] w2 _):=WR;clear hx1 hty H2 SS zt hml2 WR
      go_wp2_with (go_at_call 49;(with_reducible refine WR2.out.mono ?_);rintro e w3 ⟨rfl,h3⟩)
      go_roundw
      case rel=>exact⟨j+1,_,by omega,by go_num,h_ h3.dropb,hx3⟩
      case measure=>simp [intOf];omega
     ·have hte:(S m.ty).toList ≠ []:=by rw [ByteArray.toList_eq,qah];exact hty
      have hte2:(S m.ty).toList.isEmpty=false:=by rw [qe6];simpa using hty
      have hx3:=h_ (show(acc2 ++ ([32,32] ++ m.name ++ [32] ++ NU) ++ (32 :: m.ty) ++ [10]) ++ (d.mems.drop (j+1)).flatMap memT ++ Md.text (l.drop (k+1))=T by rw [←hx1.out,if_neg hty];simp only [List.append_assoc]);have WR:=h_ (H2.out.write (32 :: m.ty) (by simp only [List.length_append,List.length_cons,List.length_nil];omega));have hSt:S (32 :: m.ty)=(⟨#[32]⟩:ByteArray) ++ S m.ty:=by rw [show(⟨#[32]⟩:ByteArray)=S [32]from rfl,S_app];rfl
      rw [hSt]at WR;have W2:=h_ (fun W (hs:TS w w.heap.size (acc2 ++ ([32,32] ++ m.name ++ [32] ++ NU) ++ (32 :: m.ty)) [(wr.heap.size,#[.string (S m.name),.string (S m.ty),.int .i64 m.num],80),(db,#[.int .i64 d.kind,.string (S d.name),.string (S d.frm),.slice (some ⟨bm,om,none⟩) d.mems.length cm],47)] W)=>show Calls Tryz.prog 49 #[.pointer (some ⟨w.heap.size,0,none⟩),.string ⟨#[10]⟩] W _ from hs.write [10] (by simp only [List.length_append,List.length_cons,List.length_nil];omega));clear hx1 hty H2 SS hml2 hSt
      go_wp2_with (first
       | (go_at_call 49;(with_reducible refine WR.out.mono ?_);rintro e w3 ⟨rfl,h3⟩;have W3:=h_ (W2.out _ h3);clear h3 WR W2)
       | (go_at_call 49;(with_reducible refine W3.out.mono ?_);rintro e w4 ⟨rfl,h4⟩))
      go_roundw
      case rel=>exact⟨j+1,_,by omega,by go_num,h_ h4.dropb,hx3⟩
      case measure=>simp [intOf];omega
    ·have hjl:j=d.mems.length:=by omega
     have hx3:=h_ (show acc2 ++ Md.text (l.drop (k+1))=T by have:=hx.out;rw [hjl,List.drop_length]at this;simpa using this);clear hx;go_wp2;go_roundw
     case rel=>exact⟨k+1,acc2,by omega,by go_num,h_ hTS.out.dropb,hx3⟩
     case measure=>simp [intOf];omega
  ·have hkl:k=l.length:=by omega
   have hxe:acc=T:=by have:=hx.out;rw [hkl,List.drop_length]at this;simpa [Md.text]using this
   subst hxe;have CS:=h_ (Tryz.Builder_String_any_k w.heap.size w.heap.size acc wr hTS.out.1 (by omega));have kr:=hTS.out.2.1;clear hx hTS
   go_wp2_with (go_at_call 52;(with_reducible refine CS.out.mono ?_);rintro e w2 ⟨rfl,_,h2,_⟩)
   go_ret;exact⟨rfl,Below.trans kr h2⟩
end
end Go.Proofs.YtfoaaglbpmmhiaaGreatDoor
