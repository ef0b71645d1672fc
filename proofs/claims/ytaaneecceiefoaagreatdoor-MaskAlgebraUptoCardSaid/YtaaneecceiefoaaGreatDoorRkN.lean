import Derived.Test.YtaaneecceiefoaaGreatDoorMaMem
import Derived.Test.YtaaneecceiefoaaGreatDoorIdRef2
import Derived.Deep.AppendLies
import Derived.Deep.DeepCutAuto
set_option maxRecDepth 100000
set_option maxHeartbeats 4000000
set_option linter.unusedVariables false
set_option linter.unusedSimpArgs false
namespace Go.Proofs.YtaaneecceiefoaaGreatDoor
open Go.RowKit Ck
def NS (w:World) (c:Array Value) (v:Value) (xs:List Str) (wr:World):Prop:=
 Below w.heap.size w wr/\wr.heap[w.heap.size]? = some (.cells c 26 (0,0))/\wr.ownsRow (w.heap.size+1) 9 1 v xs.length (xs.map strV)
section
variable {w : World} {c : Array Value} {v : Value} {xs : List Str} {wr : World}
theorem NS.bel {w2:World} (h:NS w c v xs wr) (k:Bel wr w2):NS w c v xs w2:=by
 obtain⟨h1,h2,h3⟩:=h;exact⟨Bel.of h1 k,(Below.block k _ (Array.getElem?_eq_some_iff.1 h2).1).trans h2,qf6 h3 k⟩
theorem NS.base (h:NS w c v xs wr):Bel w wr:=h.1
theorem NS.boxed (h:NS w c v xs wr) : ∀o,wr.cell? ⟨w.heap.size,o,none⟩=c[o]?:=fun o=>Lib.cell_of_heap h.2.1 o
theorem NS.size (h:NS w c v xs wr):w.heap.size+1<=wr.heap.size:=(Array.getElem?_eq_some_iff.1 h.2.1).1
theorem NS.own (h:NS w c v xs wr):wr.ownsRow (w.heap.size+1) 9 1 v xs.length (xs.map strV):=h.2.2
theorem NS.start (w:World) (c:Array Value):NS w c (.slice none 0 0) [] (w.alloc (.cells c 26)):=
 ⟨(Below.refl _ _).alloc (Nat.le_refl _) _,heap_alloc_new _ _,rfl,.inl ⟨rfl,rfl⟩⟩
theorem NS.put {w2:World} {g cap:Nat} {x:Str} (h:NS w c v xs wr) (hown:w2.ownsRow (w.heap.size+1) 9 1 (.slice (some ⟨g,0,none⟩) (xs.length+1) cap) (xs.length+1) (xs.map strV ++ [.string (S x)])) (hg:wr.grownBy w2 v.ownBlock) :
  NS w c (.slice (some ⟨g,0,none⟩) (xs.length+1) cap) (xs ++ [x]) w2:=by
 have hsz:=h.size;obtain⟨h1,h2,h3⟩:=h;refine⟨h1.grown hg h1.size (fun k hk=>by have:=(h3.lt k hk).1;omega),(hg.block _ hsz (fun e=>by have:=(h3.lt _ e.symm).1;omega)).trans h2,?_⟩;rw [List.length_append,List.map_append];exact hown
end
theorem qhg {w:World} {B B':Nat} {e:TypeId} {z:Nat} {v:Value} {n:Nat} {xs:List Value} (h:w.ownsRow B e z v n xs) (hb:B'<=B):w.ownsRow B' e z v n xs:=
 ⟨h.1,h.2.imp id (fun⟨g,cap,cur,h1,h2,r⟩=>⟨g,cap,cur,h1,Nat.le_trans hb h2,r⟩)⟩
def qcq (w:World) (l:List Str) (e:Ending) (w':World):Prop := ∃v,e=.returned v/\w'.ownsRow w.heap.size 9 1 v l.length (l.map strV)/\Below w.heap.size w w'
theorem qmm (sq1 sq2 sq3:Option Addr) (sc1 sc2 sc3:Nat) (s:PSchema) (w:World) (hs:VSchema w [.slice sq1 s.msgs.length sc1,.slice sq2 s.enums.length sc2,.slice sq3 s.svcs.length sc3] s) (hq:s.msgs.length<=1000000000) :
  Calls Tryz.prog 69 #[.agg #[.slice sq1 s.msgs.length sc1,.slice sq2 s.enums.length sc2,.slice sq3 s.svcs.length sc3],.int .i64 1] w (qcq w (s.msgs.map (·.name))):=by
 obtain⟨_,_,_,hcs,hm1,hm2,hm3⟩:=hs;cases hcs;obtain⟨q0,c0,hq0,hl0,_,he0⟩:=hm1;cases hq0;have EL:=Lib.hid he0;obtain⟨i0,hi,hz0,hz1,hz2⟩:=info_parts qh6;have hL:=NS.start w #[.slice sq1 s.msgs.length sc1,.slice sq2 s.enums.length sc2,.slice sq3 s.svcs.length sc3];have HT:=Lib.hid (show [] ++ (s.msgs.drop 0).map (·.name)=(s.msgs.map (·.name))from rfl);generalize (s.msgs.map (·.name))=T at HT;have kk:=hL.boxed;clear he0 hm2 hm3
 go_enter Tryz.func69,Tryz.ntmps69
 go_wp2
 go_loopw [5,6] (fun v i wr => ∃(k:Nat) (xs:List Str) (v5:Value),v5=v/\k<=s.msgs.length/\i=.int .i64 k/\NS w #[.slice sq1 s.msgs.length sc1,.slice sq2 s.enums.length sc2,.slice sq3 s.svcs.length sc3] v5 xs wr/\xs.length<=k/\Hid (xs ++ (s.msgs.drop k).map (·.name)=T)) (fun _ i _=>s.msgs.length-(intOf i).toNat)
 case atStart=>exact⟨0,[],_,rfl,by omega,rfl,hL,by simp,HT⟩
 case round=>
  clear hL kk;obtain⟨k,xs,v5,rfl,hk,rfl,hL,hxl,hx⟩:=hrel;by_cases hlt:k<s.msgs.length
  ·have hki:(k:Int)<(s.msgs.length:Int):=by omega
   have hg:=List.getElem?_eq_getElem hlt;obtain⟨b,off,hqq,hbs,cs,hce,hvs⟩:=EL.out k _ hg;have hdr:s.msgs.drop k=s.msgs[k] :: s.msgs.drop (k+1):=List.drop_eq_getElem_cons hlt;have hx2:=Lib.hid (show(xs ++ [s.msgs[k].name]) ++ (s.msgs.drop (k+1)).map (·.name)=T by rw [←hx.out,hdr,List.map_cons,List.append_assoc];rfl);subst hqq;obtain⟨_,_,_,_,hvv,_⟩:=hvs;subst hvv;have hLb0:=hL.base;have e0:=hLb0.some (hce 0 _ rfl);rw [Nat.add_zero]at e0;clear hce hx hdr hg hLb0;generalize s.msgs[k]=x at *;have hsz:=hL.size;have kk:=hL.boxed;obtain⟨wa,hwa⟩ : ∃wa,wa=wr.alloc (.cells #[.string (S x.name)] 9):=⟨_,rfl⟩;have hLa:=hL.bel ((Bel.refl wr).alloc (.cells #[.string (S x.name)] 9));have hown:=hLa.own;have H1:=Lib.hid hLa;clear hLa hL
   go_wp2_with (at_builtin;refine wpList_append_lies _ rfl _ _ 54 rfl (w.heap.size+1) 9 i0 (.string ByteArray.empty) 1 16 Tryz.underlying54 hi hz0 hz1 hz2 rfl (by decide) v5 xs.length (xs.map strV) rfl hown ⟨wr.heap.size,0,none⟩ 1 1 [.string (S x.name)] rfl rfl (World.news_of_block (heap_alloc_new _ _)) (by simp [Value.oneCell']) (by decide) ?c63 ?cby ?cbase (wr.heap.size+1) (by simp) ?_)
   case c63=>unfold maxLen;omega
   case cby=>omega
   case cbase=>first|omega|(simp;omega)
   intro g cap w2 hown1 hgrow hgg hglt;have HP:=Lib.hid (NS.put H1.out hown1 hgrow);clear hown1 hgrow hgg hglt hown kk;go_wp2;exact⟨⟨k+1,_,_,rfl,by omega,by go_num,HP.out,by simp;omega,hx2⟩,by simp [intOf];omega⟩
  ·have hkl:k=s.msgs.length:=by omega
   have hxe:xs=T:=by have:=hx.out;rw [hkl,List.drop_length]at this;simpa using this
   subst hxe;subst hkl;clear hx;have kk:=hL.boxed;go_wp2
   go_loopw [5,7] (fun v i wr=>v5=v/\i=.int .i64 0/\NS w #[.slice sq1 s.msgs.length sc1,.slice sq2 s.enums.length sc2,.slice sq3 s.svcs.length sc3] v5 xs wr) (fun _ _ _=>0)
   case atStart=>exact⟨rfl,rfl,hL⟩
   case round=>
    clear hL kk;obtain⟨rfl,rfl,hL⟩:=hrel;have kk:=hL.boxed;go_wp2
    go_loopw [5,8] (fun v i wr=>v5=v/\i=.int .i64 0/\NS w #[.slice sq1 s.msgs.length sc1,.slice sq2 s.enums.length sc2,.slice sq3 s.svcs.length sc3] v5 xs wr) (fun _ _ _=>0)
    case atStart=>exact⟨rfl,rfl,hL⟩
    case round=>
     clear hL kk;obtain⟨rfl,rfl,hL⟩:=hrel;have kk:=hL.boxed;go_wp2;go_ret;exact⟨_,rfl,qhg (B':=w.heap.size) hL.own (by omega),hL.base.out⟩
theorem qml (sq1 sq2 sq3:Option Addr) (sc1 sc2 sc3:Nat) (s:PSchema) (w:World) (hs:VSchema w [.slice sq1 s.msgs.length sc1,.slice sq2 s.enums.length sc2,.slice sq3 s.svcs.length sc3] s) (hq:s.enums.length<=1000000000) :
  Calls Tryz.prog 69 #[.agg #[.slice sq1 s.msgs.length sc1,.slice sq2 s.enums.length sc2,.slice sq3 s.svcs.length sc3],.int .i64 2] w (qcq w (s.enums.map (·.name))):=by
 obtain⟨_,_,_,hcs,hm1,hm2,hm3⟩:=hs;cases hcs;obtain⟨q0,c0,hq0,hl0,_,he0⟩:=hm2;cases hq0;have EL:=Lib.hid he0;obtain⟨i0,hi,hz0,hz1,hz2⟩:=info_parts qh6;have hL:=NS.start w #[.slice sq1 s.msgs.length sc1,.slice sq2 s.enums.length sc2,.slice sq3 s.svcs.length sc3];have HT:=Lib.hid (show [] ++ (s.enums.drop 0).map (·.name)=(s.enums.map (·.name))from rfl);generalize (s.enums.map (·.name))=T at HT;have kk:=hL.boxed;clear he0 hm1 hm3
 go_enter Tryz.func69,Tryz.ntmps69
 go_wp2
 go_loopw [5,6] (fun v i wr=>.slice none 0 0=v/\i=.int .i64 0/\NS w #[.slice sq1 s.msgs.length sc1,.slice sq2 s.enums.length sc2,.slice sq3 s.svcs.length sc3] (.slice none 0 0) [] wr) (fun _ _ _=>0)
 case atStart=>exact⟨rfl,rfl,hL⟩
 case round=>
  clear hL kk;obtain⟨rfl,rfl,hL⟩:=hrel;have kk:=hL.boxed;go_wp2
  go_loopw [5,7] (fun v i wr => ∃(k:Nat) (xs:List Str) (v5:Value),v5=v/\k<=s.enums.length/\i=.int .i64 k/\NS w #[.slice sq1 s.msgs.length sc1,.slice sq2 s.enums.length sc2,.slice sq3 s.svcs.length sc3] v5 xs wr/\xs.length<=k/\Hid (xs ++ (s.enums.drop k).map (·.name)=T)) (fun _ i _=>s.enums.length-(intOf i).toNat)
  case atStart=>exact⟨0,[],_,rfl,by omega,rfl,hL,by simp,HT⟩
  case round=>
   clear hL kk;obtain⟨k,xs,v5,rfl,hk,rfl,hL,hxl,hx⟩:=hrel;by_cases hlt:k<s.enums.length
   ·have hki:(k:Int)<(s.enums.length:Int):=by omega
    have hg:=List.getElem?_eq_getElem hlt;obtain⟨b,off,hqq,hbs,cs,hce,hvs⟩:=EL.out k _ hg;have hdr:s.enums.drop k=s.enums[k] :: s.enums.drop (k+1):=List.drop_eq_getElem_cons hlt;have hx2:=Lib.hid (show(xs ++ [s.enums[k].name]) ++ (s.enums.drop (k+1)).map (·.name)=T by rw [←hx.out,hdr,List.map_cons,List.append_assoc];rfl);subst hqq;obtain⟨_,_,_,hvv,_⟩:=hvs;subst hvv;have hLb0:=hL.base;have e0:=hLb0.some (hce 0 _ rfl);rw [Nat.add_zero]at e0;clear hce hx hdr hg hLb0;generalize s.enums[k]=x at *;have hsz:=hL.size;have kk:=hL.boxed;obtain⟨wa,hwa⟩ : ∃wa,wa=wr.alloc (.cells #[.string (S x.name)] 9):=⟨_,rfl⟩;have hLa:=hL.bel ((Bel.refl wr).alloc (.cells #[.string (S x.name)] 9));have hown:=hLa.own;have H1:=Lib.hid hLa;clear hLa hL
    go_wp2_with (at_builtin;refine wpList_append_lies _ rfl _ _ 54 rfl (w.heap.size+1) 9 i0 (.string ByteArray.empty) 1 16 Tryz.underlying54 hi hz0 hz1 hz2 rfl (by decide) v5 xs.length (xs.map strV) rfl hown ⟨wr.heap.size,0,none⟩ 1 1 [.string (S x.name)] rfl rfl (World.news_of_block (heap_alloc_new _ _)) (by simp [Value.oneCell']) (by decide) ?c63 ?cby ?cbase (wr.heap.size+1) (by simp) ?_)
    case c63=>unfold maxLen;omega
    case cby=>omega
    case cbase=>first|omega|(simp;omega)
    intro g cap w2 hown1 hgrow hgg hglt;have HP:=Lib.hid (NS.put H1.out hown1 hgrow);clear hown1 hgrow hgg hglt hown kk;go_wp2;exact⟨⟨k+1,_,_,rfl,by omega,by go_num,HP.out,by simp;omega,hx2⟩,by simp [intOf];omega⟩
   ·have hkl:k=s.enums.length:=by omega
    have hxe:xs=T:=by have:=hx.out;rw [hkl,List.drop_length]at this;simpa using this
    subst hxe;subst hkl;clear hx;have kk:=hL.boxed;go_wp2
    go_loopw [5,8] (fun v i wr=>v5=v/\i=.int .i64 0/\NS w #[.slice sq1 s.msgs.length sc1,.slice sq2 s.enums.length sc2,.slice sq3 s.svcs.length sc3] v5 xs wr) (fun _ _ _=>0)
    case atStart=>exact⟨rfl,rfl,hL⟩
    case round=>
     clear hL kk;obtain⟨rfl,rfl,hL⟩:=hrel;have kk:=hL.boxed;go_wp2;go_ret;exact⟨_,rfl,qhg (B':=w.heap.size) hL.own (by omega),hL.base.out⟩
theorem qmk (sq1 sq2 sq3:Option Addr) (sc1 sc2 sc3:Nat) (s:PSchema) (w:World) (hs:VSchema w [.slice sq1 s.msgs.length sc1,.slice sq2 s.enums.length sc2,.slice sq3 s.svcs.length sc3] s) (hq:s.svcs.length<=1000000000) :
  Calls Tryz.prog 69 #[.agg #[.slice sq1 s.msgs.length sc1,.slice sq2 s.enums.length sc2,.slice sq3 s.svcs.length sc3],.int .i64 3] w (qcq w (s.svcs.map (·.name))):=by
 obtain⟨_,_,_,hcs,hm1,hm2,hm3⟩:=hs;cases hcs;obtain⟨q0,c0,hq0,hl0,_,he0⟩:=hm3;cases hq0;have EL:=Lib.hid he0;obtain⟨i0,hi,hz0,hz1,hz2⟩:=info_parts qh6;have hL:=NS.start w #[.slice sq1 s.msgs.length sc1,.slice sq2 s.enums.length sc2,.slice sq3 s.svcs.length sc3];have HT:=Lib.hid (show [] ++ (s.svcs.drop 0).map (·.name)=(s.svcs.map (·.name))from rfl);generalize (s.svcs.map (·.name))=T at HT;have kk:=hL.boxed;clear he0 hm1 hm2
 go_enter Tryz.func69,Tryz.ntmps69
 go_wp2
 go_loopw [5,6] (fun v i wr=>.slice none 0 0=v/\i=.int .i64 0/\NS w #[.slice sq1 s.msgs.length sc1,.slice sq2 s.enums.length sc2,.slice sq3 s.svcs.length sc3] (.slice none 0 0) [] wr) (fun _ _ _=>0)
 case atStart=>exact⟨rfl,rfl,hL⟩
 case round=>
  clear hL kk;obtain⟨rfl,rfl,hL⟩:=hrel;have kk:=hL.boxed;go_wp2
  go_loopw [5,7] (fun v i wr=>.slice none 0 0=v/\i=.int .i64 0/\NS w #[.slice sq1 s.msgs.length sc1,.slice sq2 s.enums.length sc2,.slice sq3 s.svcs.length sc3] (.slice none 0 0) [] wr) (fun _ _ _=>0)
  case atStart=>exact⟨rfl,rfl,hL⟩
  case round=>
   clear hL kk;obtain⟨rfl,rfl,hL⟩:=hrel;have kk:=hL.boxed;go_wp2
   go_loopw [5,8] (fun v i wr => ∃(k:Nat) (xs:List Str) (v5:Value),v5=v/\k<=s.svcs.length/\i=.int .i64 k/\NS w #[.slice sq1 s.msgs.length sc1,.slice sq2 s.enums.length sc2,.slice sq3 s.svcs.length sc3] v5 xs wr/\xs.length<=k/\Hid (xs ++ (s.svcs.drop k).map (·.name)=T)) (fun _ i _=>s.svcs.length-(intOf i).toNat)
   case atStart=>exact⟨0,[],_,rfl,by omega,rfl,hL,by simp,HT⟩
   case round=>
    clear hL kk;obtain⟨k,xs,v5,rfl,hk,rfl,hL,hxl,hx⟩:=hrel;by_cases hlt:k<s.svcs.length
    ·have hki:(k:Int)<(s.svcs.length:Int):=by omega
     have hg:=List.getElem?_eq_getElem hlt;obtain⟨b,off,hqq,hbs,cs,hce,hvs⟩:=EL.out k _ hg;have hdr:s.svcs.drop k=s.svcs[k] :: s.svcs.drop (k+1):=List.drop_eq_getElem_cons hlt;have hx2:=Lib.hid (show(xs ++ [s.svcs[k].name]) ++ (s.svcs.drop (k+1)).map (·.name)=T by rw [←hx.out,hdr,List.map_cons,List.append_assoc];rfl);subst hqq;obtain⟨_,_,hvv,_⟩:=hvs;subst hvv;have hLb0:=hL.base;have e0:=hLb0.some (hce 0 _ rfl);rw [Nat.add_zero]at e0;clear hce hx hdr hg hLb0;generalize s.svcs[k]=x at *;have hsz:=hL.size;have kk:=hL.boxed;obtain⟨wa,hwa⟩ : ∃wa,wa=wr.alloc (.cells #[.string (S x.name)] 9):=⟨_,rfl⟩;have hLa:=hL.bel ((Bel.refl wr).alloc (.cells #[.string (S x.name)] 9));have hown:=hLa.own;have H1:=Lib.hid hLa;clear hLa hL
     go_wp2_with (at_builtin;refine wpList_append_lies _ rfl _ _ 54 rfl (w.heap.size+1) 9 i0 (.string ByteArray.empty) 1 16 Tryz.underlying54 hi hz0 hz1 hz2 rfl (by decide) v5 xs.length (xs.map strV) rfl hown ⟨wr.heap.size,0,none⟩ 1 1 [.string (S x.name)] rfl rfl (World.news_of_block (heap_alloc_new _ _)) (by simp [Value.oneCell']) (by decide) ?c63 ?cby ?cbase (wr.heap.size+1) (by simp) ?_)
     case c63=>unfold maxLen;omega
     case cby=>omega
     case cbase=>first|omega|(simp;omega)
     intro g cap w2 hown1 hgrow hgg hglt;have HP:=Lib.hid (NS.put H1.out hown1 hgrow);clear hown1 hgrow hgg hglt hown kk;go_wp2;exact⟨⟨k+1,_,_,rfl,by omega,by go_num,HP.out,by simp;omega,hx2⟩,by simp [intOf];omega⟩
    ·have hkl:k=s.svcs.length:=by omega
     have hxe:xs=T:=by have:=hx.out;rw [hkl,List.drop_length]at this;simpa using this
     subst hxe;subst hkl;clear hx;have kk:=hL.boxed;go_wp2;go_ret;exact⟨_,rfl,qhg (B':=w.heap.size) hL.own (by omega),hL.base.out⟩
theorem qct (v:Value) (l:List Str) (w:World) (hv:Texts w v l) :
  Calls Tryz.prog 71 #[v] w fun e w'=>e=.returned (.bool (qgb l))/\Below w.heap.size w w':=by
 obtain⟨q,c,rfl,hl,hcap,hel⟩:=hv;have V:=Lib.hid (rise_one l);have EL:=Lib.hid hel;clear hel;generalize qgb l=T at V
 go_enter Tryz.func71,Tryz.ntmps71
 go_wp2
 go_loopw [3] (fun i wr => ∃k:Nat,1<=k/\k<=140737488355329/\i=.int .i64 k/\Bel w wr/\Hid (qcu l k=T)) (fun i _=>l.length+1-(intOf i).toNat)
 case atStart=>exact⟨1,by omega,by omega,rfl,Bel.refl _,V⟩
 case round=>
  obtain⟨k,hk1,hk2,rfl,kw,hgo⟩:=hrel;by_cases hlt:k<l.length
  ·have hki:(k:Int)<(l.length:Int):=by omega
   have hg:=List.getElem?_eq_getElem hlt;have hg1:=List.getElem?_eq_getElem (show k-1<l.length by omega);obtain⟨b,off,rfl,hbs,vs,hce,hvs⟩:=EL.out k _ hg;obtain⟨b',off',he',_,vs2,hce2,hvs2⟩:=EL.out (k-1) _ hg1;cases he';have hst:=qmo l k _ _ hk1 hg1 hg;have hvs':vs=[.string (S l[k])]:=hvs;have hvs2':vs2=[.string (S l[k-1])]:=hvs2;obtain⟨wd,hwd⟩ : ∃wd,wd=wr.drew:=⟨_,rfl⟩;have kd:Bel w wd:=by rw [hwd];exact kw.drew
   have e0:wd.cell? ⟨b,off+k,none⟩=some (.string (S l[k])):=by
    have:=hce 0 (.string (S l[k])) (by rw [hvs'];rfl);rw [Nat.mul_one,Nat.add_zero]at this;exact kd.some this
   have e1:wd.cell? ⟨b,off+(k-1),none⟩=some (.string (S l[k-1])):=by
    have:=hce2 0 (.string (S l[k-1])) (by rw [hvs2'];rfl);rw [Nat.mul_one,Nat.add_zero]at this;exact kd.some this
   have HG:=Lib.hid (hgo.out.symm.trans hst);have HWD:=Lib.hid hwd;clear hce hce2 hvs hvs' hvs2 hvs2' hgo hst hg hg1 hwd;generalize l[k]=y at *;generalize l[k-1]=x at *;obtain⟨j,hj⟩ : ∃j,k=j+1:=⟨k-1,by omega⟩;have hkj:k-1=j:=by omega
   rw [hkj]at e1;have j0:(0:Int)<=(j:Int):=by omega
   have j1:(j:Int)<(l.length:Int):=by omega
   have k0:(0:Int)<=(k:Int):=by omega
   have jw:IntKind.i64.wrap ((k:Int)-1)=(j:Int):=by rw [show(k:Int)-1=(j:Int)by omega];exact wrap_small _ (by omega) (by omega)
   have jw2:IntKind.i64.wrap (j:Int)=(j:Int):=wrap_small _ (by omega) (by omega);have jw3:(k:Int)-1=(j:Int):=by omega
   clear hj hkj
   go_upto_region 4 with(fail)
   refine qag 9 (by kernel_rfl) (by kernel_rfl) HWD.out ?_
   (simp only [List.take_succ_cons,List.take_zero,List.drop_succ_cons,List.drop_zero]);(repeat (first|((with_reducible refine wpStill_step (fun K hK=>?_));go_simp;(with_reducible refine hK _ ?_);clear hK K)|((with_reducible refine qah ?_ ?_);(with_unfolding_all rfl))));(with_reducible refine wpStill_nil ?_)
   go_wp2
   ·rename_i hor
    rw [ql8,eq_S,decide_eq_true_iff]at hor;have hT:=qfq x y hor;go_ret;exact⟨qa4 (by rw [HG.out,hT];rfl),kd.out⟩
   ·rename_i hor
    rw [ql8,eq_S,decide_eq_false_iff_not]at hor;have hT:=qik x y hor.1 hor.2;exact⟨⟨k+1,by omega,by omega,rfl,kd,Lib.hid (by rw [HG.out,hT];rfl)⟩,by simp [intOf];omega⟩
  ·have hki : ¬(k:Int)<(l.length:Int):=by omega
   have hT:T=true:=by rw [←hgo.out];exact rise_end l k (by omega)
   have HT:=Lib.hid hT;clear hT hgo;go_wp2;go_ret;exact⟨qa4 HT.out.symm,kw.out⟩
theorem qkk (v0 v1:Value) (a b:List Str) (w:World) (h0:Texts w v0 a) (h1:Texts w v1 b) :
  Calls Tryz.prog 72 #[v0,v1] w fun e w'=>e=.returned (.bool (a.any (fun x=>Id.has b x)))/\Below w.heap.size w w':=by
 obtain⟨q,c,rfl,hl,hcap,hel⟩:=h0;have EL:=Lib.hid hel;have HV:=Lib.hid (show(a.drop 0).any (fun x=>Id.has b x)=a.any (fun x=>Id.has b x)from rfl);have CH:=Lib.hid (fun x W (k:Bel w W)=>ref_Has v1 b (S x) x W (qg7 (Sv.bel VStr.stays h1 k)) (by simp [S]));generalize a.any (fun x=>Id.has b x)=T at HV;clear hel h1
 go_enter Tryz.func72,Tryz.ntmps72
 go_wp2
 go_loopw [5] (fun i wr => ∃k:Nat,k<=a.length/\i=.int .i64 k/\Bel w wr/\Hid ((a.drop k).any (fun x=>Id.has b x)=T)) (fun i _=>a.length-(intOf i).toNat)
 case atStart=>exact⟨0,by omega,rfl,Bel.refl _,HV⟩
 case round=>
  obtain⟨k,hk,rfl,kw,hgo⟩:=hrel;by_cases hlt:k<a.length
  ·have hki:(k:Int)<(a.length:Int):=by omega
   have hg:=List.getElem?_eq_getElem hlt;obtain⟨b',off,rfl,hbs,vs,hce,hvs⟩:=EL.out k _ hg;have hvs':vs=[.string (S a[k])]:=hvs
   have e0:wr.cell? ⟨b',off+k,none⟩=some (.string (S a[k])):=by
    have:=hce 0 (.string (S a[k])) (by rw [hvs'];rfl);rw [Nat.mul_one,Nat.add_zero]at this;exact kw.some this
   have hdr:a.drop k=a[k] :: a.drop (k+1):=List.drop_eq_getElem_cons hlt;have hgo2:=Lib.hid (show(Id.has b a[k] || (a.drop (k+1)).any (fun x=>Id.has b x))=T by rw [←hgo.out,hdr,List.any_cons]);clear hce hvs hvs' hgo hdr hg;have HH:=CH.out a[k];generalize a[k]=x at *;have CX:=Lib.hid HH;clear HH;cases hR:Id.has b x with
   | true=>
    rw [hR]at hgo2 CX;clear hR
    go_wp2_with (go_at_call 99;(with_reducible refine(CX.out _ kw).mono ?_);rintro e w1 ⟨rfl,rfl⟩)
    go_ret;exact⟨qa4 (by rw [←hgo2.out];rfl),kw.out⟩
   | false=>
    rw [hR]at hgo2 CX;clear hR
    go_wp2_with (go_at_call 99;(with_reducible refine(CX.out _ kw).mono ?_);rintro e w1 ⟨rfl,rfl⟩)
    exact⟨⟨k+1,by omega,by go_num,kw,Lib.hid (by rw [←hgo2.out];rfl)⟩,by simp [intOf];omega⟩
  ·have hki : ¬(k:Int)<(a.length:Int):=by omega
   have hT:T=false:=by rw [←hgo.out,List.drop_eq_nil_of_le (by omega)];rfl
   have HT:=Lib.hid hT;clear hT hgo;go_wp2;go_ret;exact⟨qa4 HT.out.symm,kw.out⟩
end Go.Proofs.YtaaneecceiefoaaGreatDoor
