import Derived.Test.YtgpjhibdongmbaaGreatDoorRsRes2
import Derived.Test.YtgpjhibdongmbaaGreatDoorRsRep
import Derived.Test.YtgpjhibdongmbaaGreatDoorIdRef1
import Derived.Test.YtgpjhibdongmbaaGreatDoorMap
import Derived.Deep.AppendLies
import Derived.Deep.Upon
set_option maxRecDepth 100000
set_option maxHeartbeats 4000000
set_option linter.unusedVariables false
set_option linter.unusedSimpArgs false
namespace Go.Proofs.YtgpjhibdongmbaaGreatDoor
section
open Go.RowKit Ck Rs
def VPair (w:World) (vs:List Value) (x:Int × Int):Prop := ∃(q1 q2:Option Addr) (n1 n2 c1 c2:Nat),vs=[.int .i64 x.1,.int .i64 x.2,.slice q1 n1 c1,.slice q2 n2 c2]
theorem VPair.stays:Stays VPair:=fun _ _ _ _ _ h=>h
theorem VPair.len (w:World) (vs:List Value) (x:Int × Int) (h:VPair w vs x):vs.length=4:=by
 obtain⟨_,_,_,_,_,_,rfl⟩:=h;rfl
def IsSl (v:Value):Prop := ∃q n c,v=.slice q n c
def outR:List (Int × Int)->List (Value × Value)->List Value
 | [],_ => []
 | x :: P,[]=>.int .i64 x.1 :: .int .i64 x.2 :: .slice none 0 0 :: .slice none 0 0 :: outR P []
 | x :: P,l :: L=>.int .i64 x.1 :: .int .i64 x.2 :: l.1 :: l.2 :: outR P L
theorem qep : ∀(P:List (Int × Int)) (L:List (Value × Value)) (x:Int × Int),L.length<=P.length->outR (P ++ [x]) L=outR P L ++ [.int .i64 x.1,.int .i64 x.2,.slice none 0 0,.slice none 0 0]
 | [],[],x,_=>rfl
 | [],l :: L,x,h=>by simp at h
 | y :: P,[],x,_=>by simp [outR,qep P [] x (Nat.zero_le _)]
 | y :: P,l :: L,x,h=>by
  have:L.length<=P.length:=by simpa using h
  simp [outR,qep P L x this]
def lAt (L:List (Value × Value)) (j:Nat):Value × Value:=L.getD j (.slice none 0 0,.slice none 0 0)
theorem qcm : ∀(P:List (Int × Int)) (L:List (Value × Value)) (j:Nat) (x:Int × Int),P[j]? = some x->(outR P L)[j*4]? = some (.int .i64 x.1)/\(outR P L)[j*4+1]? = some (.int .i64 x.2)/\(outR P L)[j*4+2]? = some (lAt L j).1/\(outR P L)[j*4+3]? = some (lAt L j).2
 | [],_,j,x,h=>by simp at h
 | y :: P,[],0,x,h=>by
  have:y=x:=by simpa using h
  subst this;exact⟨rfl,rfl,rfl,rfl⟩
 | y :: P,l :: L,0,x,h=>by
  have:y=x:=by simpa using h
  subst this;exact⟨rfl,rfl,rfl,rfl⟩
 | y :: P,[],j+1,x,h=>by
  have ih:=qcm P [] j x (by simpa using h);simp only [Nat.succ_mul,outR];exact ih
 | y :: P,l :: L,j+1,x,h=>by
  have ih:=qcm P L j x (by simpa using h);simp only [Nat.succ_mul,outR];exact ih
theorem qeo : ∀(P:List (Int × Int)) (L:List (Value × Value)) (a b:Value),L.length<P.length->((outR P L).set (L.length*4+2) a).set (L.length*4+3) b=outR P (L ++ [(a,b)])
 | [],L,a,b,h=>absurd h (Nat.not_lt_zero _)
 | y :: P,[],a,b,_=>by
  show _=outR (y :: P) [(a,b)]
  simp [outR]
 | y :: P,l :: L,a,b,h=>by
  have h2:L.length<P.length:=by simpa using h
  have ih:=qeo P L a b h2;show((outR (y :: P) (l :: L)).set ((L.length+1)*4+2) a).set ((L.length+1)*4+3) b=outR (y :: P) (l :: (L ++ [(a,b)]))
  simp only [Nat.succ_mul,outR, ←ih];rfl
theorem qhe {w:World} {B:Nat} {v:Value} {P:List (Int × Int)} {L:List (Value × Value)} (h:w.ownsRow B 44 4 v P.length (outR P L)) (hl:P.length<=140737488355328) (hL : ∀l ∈ L,IsSl l.1/\IsSl l.2):Sv 4 VPair w v P:=by
 rcases h.2 with⟨rfl,h0⟩|⟨g,cap,cur,rfl,h1,h2,h3,h4,h5,h6⟩
 ·have:P=[]:=List.length_eq_zero_iff.1 h0
  subst this;exact Sl.nil _ _ _ _ _
 ·refine⟨_,cap,rfl,hl,h3,fun i x hx=>⟨g,0,rfl,(Array.getElem?_eq_some_iff.1 h2).1,[.int .i64 x.1,.int .i64 x.2,(lAt L i).1,(lAt L i).2],fun j u hu=>?_,?_⟩⟩
  ·obtain⟨a0,a1,a2,a3⟩:=qcm P L i x hx
   have hc:=h.cells (g:=g) rfl
   have hj:j<4:=by
    have:=(List.getElem?_eq_some_iff.1 hu).1
    simpa using this
   have:j=0 ∨ j=1 ∨ j=2 ∨ j=3:=by omega
   rcases this with rfl|rfl|rfl|rfl
   ·have e:Value.int .i64 x.1=u:=by simpa using hu
    have:=hc _ _ a0;rw [Addr.add_lit,e]at this
    simpa using this
   ·have e:Value.int .i64 x.2=u:=by simpa using hu
    have:=hc _ _ a1;rw [Addr.add_lit,e]at this
    simpa using this
   ·have e:(lAt L i).1=u:=by simpa using hu
    have:=hc _ _ a2;rw [Addr.add_lit,e]at this
    simpa using this
   ·have e:(lAt L i).2=u:=by simpa using hu
    have:=hc _ _ a3;rw [Addr.add_lit,e]at this
    simpa using this
  ·have hs:IsSl (lAt L i).1/\IsSl (lAt L i).2:=by
    unfold lAt;rw [List.getD_eq_getElem?_getD];cases e:L[i]? with
    | none=>exact⟨⟨none,0,0,rfl⟩,⟨none,0,0,rfl⟩⟩
    | some l=>exact hL l (List.mem_of_getElem? e)
   obtain⟨⟨q1,n1,c1,e1⟩,q2,n2,c2,e2⟩:=hs;exact⟨q1,q2,n1,n2,c1,c2,by rw [e1,e2]⟩
def findV (P:List (Int × Int)) (a b:Int) (k:Nat):Value:=match qce (P.drop k) a b with|some i=>.tuple #[.int .i64 ((k+i:Nat):Int),.bool true]|none=>.tuple #[.int .i64 0,.bool false]
theorem qi5 {P:List (Int × Int)} {a b:Int} {k:Nat} {x:Int × Int} (hx:P[k]? = some x) (h:x.1=a/\x.2=b):findV P a b k=.tuple #[.int .i64 (k:Int),.bool true]:=by
 obtain⟨hk,rfl⟩:=List.getElem?_eq_some_iff.1 hx;unfold findV qce;rw [List.drop_eq_getElem_cons hk,List.findIdx?_cons,decide_eq_true h];rfl
theorem qcn {P:List (Int × Int)} {a b:Int} {k:Nat} {x:Int × Int} (hx:P[k]? = some x) (h : ¬(x.1=a/\x.2=b)):findV P a b k=findV P a b (k+1):=by
 obtain⟨hk,rfl⟩:=List.getElem?_eq_some_iff.1 hx;unfold findV qce;rw [List.drop_eq_getElem_cons hk,List.findIdx?_cons,decide_eq_false h];cases (P.drop (k+1)).findIdx? (fun x=>decide (x.1=a/\x.2=b))with
 | none=>rfl
 | some i=>
  show Value.tuple #[.int .i64 ((k+(i+1):Nat):Int),.bool true]=Value.tuple #[.int .i64 ((k+1+i:Nat):Int),.bool true]
  rw [show k+(i+1)=k+1+i by omega]
theorem qi6 {P:List (Int × Int)} {a b:Int} {k:Nat} (h:P.length<=k):findV P a b k=.tuple #[.int .i64 0,.bool false]:=by
 unfold findV;rw [List.drop_eq_nil_of_le h];rfl
theorem rs_Find (v:Value) (P:List (Int × Int)) (a b:Int) (w:World) (hv:Sv 4 VPair w v P) :
  Calls Tryz.prog 15 #[v,.int .i64 a,.int .i64 b] w fun e' w'=>e'=.returned (findV P a b 0)/\Bel w w':=by
 obtain⟨q,c,rfl,hl,hcap,hel⟩:=hv;have EL:=Lib.hid hel;generalize hT:findV P a b 0=T;have V:=Lib.hid hT;clear hel hT
 go_enter Tryz.func15,Tryz.ntmps15
 go_wp2
 go_loopw [12] (fun i wr => ∃k:Nat,k<=P.length/\i=.int .i64 k/\Bel w wr/\Hid (findV P a b k=T)) (fun i _=>P.length-(intOf i).toNat)
 case atStart=>exact⟨0,by omega,rfl,Bel.refl _,V⟩
 case round=>as_aux_lemma=>
  clear V;obtain⟨k,hk,rfl,kw,hx⟩:=hrel;by_cases hlt:k<P.length
  ·have hg:P[k]? = some P[k]:=List.getElem?_eq_getElem hlt
   obtain⟨g,off,rfl,hbs,vs,hce,hvs⟩:=EL.out k _ hg;obtain⟨s1,s2,m1,m2,d1,d2,rfl⟩:=hvs;have hki:(k:Int)<(P.length:Int):=by omega
   have hk0:(0:Int)<=(k:Int):=by omega
   clear EL;generalize P[k]=x at *;have e0:=kw.some (hce 0 _ rfl);have e1:=kw.some (hce 1 _ rfl);have e2:=kw.some (hce 2 _ rfl);have e3:=kw.some (hce 3 _ rfl);rw [Nat.add_zero]at e0;clear hce;by_cases h1:x.1=a
   ·have b1:(x.1 == a)=true:=by rw [h1];simp
    by_cases h2:x.2=b
    ·have b2:(x.2 == b)=true:=by rw [h2];simp
     have HST:=Lib.hid (show T=.tuple #[.int .i64 (k:Int),.bool true]by rw [←hx.out,qi5 hg ⟨h1,h2⟩]);clear h1 h2 hx hg;go_wp2;go_ret2;exact⟨by rw [HST.out];rfl,kw.alloc _⟩
    ·have b2:(x.2 == b)=false:=beq_eq_false_iff_ne.2 h2
     have HST:=Lib.hid (show findV P a b (k+1)=T by rw [←hx.out,qcn hg (fun h=>h2 h.2)]);clear h1 h2 hx hg;go_wp2;go_roundw
     case rel=>exact⟨k+1,by omega,by go_num,kw.alloc _,HST⟩
     case measure=>simp [intOf];omega
   ·have b1:(x.1 == a)=false:=beq_eq_false_iff_ne.2 h1
    have HST:=Lib.hid (show findV P a b (k+1)=T by rw [←hx.out,qcn hg (fun h=>h1 h.1)]);clear h1 hx hg;go_wp2;go_roundw
    case rel=>exact⟨k+1,by omega,by go_num,kw.alloc _,HST⟩
    case measure=>simp [intOf];omega
  ·have hki : ¬(k:Int)<(P.length:Int):=by omega
   have HST:=Lib.hid (show T=.tuple #[.int .i64 0,.bool false]by rw [←hx.out,qi6 (by omega)]);clear hx;go_wp2;go_ret2;exact⟨by rw [HST.out];rfl,kw⟩
theorem rg_Find (v:Value) (P:List (Int × Int)) (a b:Int) (w:World) (hv:Sv 4 VPair w v P) :
  Calls Tryz.prog 16 #[v,.int .i64 a,.int .i64 b] w fun e' w'=>e'=.returned (findV P a b 0)/\Bel w w':=by
 obtain⟨q,c,rfl,hl,hcap,hel⟩:=hv;have EL:=Lib.hid hel;generalize hT:findV P a b 0=T;have V:=Lib.hid hT;clear hel hT
 go_enter Tryz.func16,Tryz.ntmps16
 go_wp2
 go_loopw [8] (fun i wr => ∃k:Nat,k<=P.length/\i=.int .i64 k/\Bel w wr/\Hid (findV P a b k=T)) (fun i _=>P.length-(intOf i).toNat)
 case atStart=>exact⟨0,by omega,rfl,Bel.refl _,V⟩
 case round=>as_aux_lemma=>
  clear V;obtain⟨k,hk,rfl,kw,hx⟩:=hrel;by_cases hlt:k<P.length
  ·have hg:P[k]? = some P[k]:=List.getElem?_eq_getElem hlt
   obtain⟨g,off,rfl,hbs,vs,hce,hvs⟩:=EL.out k _ hg;obtain⟨s1,s2,m1,m2,d1,d2,rfl⟩:=hvs;have hki:(k:Int)<(P.length:Int):=by omega
   have hk0:(0:Int)<=(k:Int):=by omega
   clear EL;generalize P[k]=x at *;have e0:=kw.some (hce 0 _ rfl);have e1:=kw.some (hce 1 _ rfl);have e2:=kw.some (hce 2 _ rfl);have e3:=kw.some (hce 3 _ rfl);rw [Nat.add_zero]at e0;clear hce;by_cases h1:x.1=a
   ·have b1:(x.1 == a)=true:=by rw [h1];simp
    by_cases h2:x.2=b
    ·have b2:(x.2 == b)=true:=by rw [h2];simp
     have HST:=Lib.hid (show T=.tuple #[.int .i64 (k:Int),.bool true]by rw [←hx.out,qi5 hg ⟨h1,h2⟩]);clear h1 h2 hx hg;go_wp2;go_ret2;exact⟨by rw [HST.out];rfl,kw⟩
    ·have b2:(x.2 == b)=false:=beq_eq_false_iff_ne.2 h2
     have HST:=Lib.hid (show findV P a b (k+1)=T by rw [←hx.out,qcn hg (fun h=>h2 h.2)]);clear h1 h2 hx hg;go_wp2;go_roundw
     case rel=>exact⟨k+1,by omega,by go_num,kw,HST⟩
     case measure=>simp [intOf];omega
   ·have b1:(x.1 == a)=false:=beq_eq_false_iff_ne.2 h1
    have HST:=Lib.hid (show findV P a b (k+1)=T by rw [←hx.out,qcn hg (fun h=>h1 h.1)]);clear h1 hx hg;go_wp2;go_roundw
    case rel=>exact⟨k+1,by omega,by go_num,kw,HST⟩
    case measure=>simp [intOf];omega
  ·have hki : ¬(k:Int)<(P.length:Int):=by omega
   have HST:=Lib.hid (show T=.tuple #[.int .i64 0,.bool false]by rw [←hx.out,qi6 (by omega)]);clear hx;go_wp2;go_ret2;exact⟨by rw [HST.out];rfl,kw⟩
end
section
open Go.RowKit Ck
section
variable {w0 : World} {fb : Nat} {d : Str} {num : Int} {w : World} {bl : List (Nat × Array Value × TypeId)} {N : Nat} {ps : List PProb} {wx : World}
end
end
section
open Go.RowKit Ck Rs
theorem qg5:(Tryz.prog.info? 44).map (fun i=>(i.zero,i.size,i.bytes))=some (some (.agg #[.int .i64 0,.int .i64 0,.slice none 0 0,.slice none 0 0]),4,64):=by kernel_rfl
theorem qbh (w:World) (vs:List Value) (t:TypeId) : ∀(j:Nat) (u:Value),vs[j]? = some u->(w.alloc (.cells vs.toArray t)).cell? ((⟨w.heap.size,0,none⟩:Addr).add j)=some u:=by
 intro j u h;rw [Addr.add_lit,Nat.zero_add,World.cell?_alloc_at _ _ _ _ rfl]
 simpa using h
theorem qc3 {N M:Nat} {v0:Value} {g2 n cap:Nat} (h:v0.ownBlock=some g2 ∨ g2=N) (hN:M<=N) : ∀g,(Value.slice (some ⟨g2,0,none⟩) n cap).ownBlock=some g->v0.ownBlock=some g ∨ M<=g:=fun g hg=>by
 have:g2=g:=by simpa [Value.ownBlock]using hg
 subst this;rcases h with h|h
 ·exact .inl h
 ·right;omega
def SX (w0:World) (B:Nat) (f0 f1 f2 f3:Value) (P:List (Int × Int)) (L:List (Value × Value)) (R:List Row) (X:List Box) (w:World):Prop := ∃vo,ST w0 (⟨44,4,vo,P.length,outR P L⟩ :: R) (⟨B,#[f0,f1,f2,f3,vo],100⟩ :: X) w
def AllSl (L:List (Value × Value)):Prop := ∀l ∈ L,IsSl l.1/\IsSl l.2
theorem qar {w:World} {B:Nat} {e:TypeId} {z n:Nat} {v:Value} {xs:List Value} (h:w.ownsRow B e z v n xs) : ∃q c,v=.slice q n c:=by
 rcases h.2 with⟨rfl,rfl⟩|⟨g,cap,cur,rfl,_⟩
 ·exact⟨none,0,rfl⟩
 ·exact⟨_,_,rfl⟩
def qdz (w0:World) (B:Nat) (f0 f1 f2 f3:Value) (r:Int × List (Int × Int)) (L:List (Value × Value)) (R:List Row) (X:List Box) (e:Ending) (w':World):Prop:=e=.returned (.int .i64 r.1)/\SX w0 B f0 f1 f2 f3 r.2 L R X w'
theorem qfw (P:List (Int × Int)) (a b:Int):findV P a b 0=match qce P a b with|some i=>.tuple #[.int .i64 (i:Int),.bool true]|none=>.tuple #[.int .i64 0,.bool false]:=by
 unfold findV;rw [List.drop_zero];cases qce P a b with
 | none=>rfl
 | some i=>
  show Value.tuple #[.int .i64 ((0+i:Nat):Int),.bool true]=_
  rw [Nat.zero_add]
theorem qji (w0:World) (B:Nat) (f0 f1 f2 f3:Value) (P:List (Int × Int)) (L:List (Value × Value)) (R:List Row) (X:List Box) (a b:Int) (w:World) (h:SX w0 B f0 f1 f2 f3 P L R X w) (hA:AllSl L) (hLP:L.length<=P.length) (hk:P.length<=1000000000) :
  Calls Tryz.prog 58 #[.pointer (some ⟨B,0,none⟩),.int .i64 a,.int .i64 b] w (qdz w0 B f0 f1 f2 f3 (qb4 P a b) L R X):=by
 obtain⟨vo,h⟩:=h;obtain⟨i1,hi1,hy0,hy1,hy2⟩:=info_parts qg5;obtain⟨oq,oc,hvo⟩:=qar (show w.ownsRow w0.heap.size 44 4 vo P.length (outR P L)from h.row 0 rfl);subst hvo;have hown:w.ownsRow w0.heap.size 44 4 (.slice oq P.length oc) P.length (outR P L):=h.row 0 rfl;have C:=Lib.hid (rs_Find _ P a b w (qhe hown (by omega) hA));rw [qfw]at C;have c4:w.cell? ⟨B,4,none⟩=some (.slice oq P.length oc):=h.cell 0 rfl 4;have H:=Lib.hid h;clear h hown;unfold qdz;cases hp:qce P a b with
 | some i=>
  rw [hp]at C;dsimp only at C;have hpa:qb4 P a b=((i:Int),P):=by unfold qb4;rw [hp]
  rw [hpa];clear hp hpa hA hi1 hy0 hy1 hy2
  go_enter Tryz.func58,Tryz.ntmps58
  go_wp2_with (go_at_call 15;(with_reducible refine C.out.mono ?_);rintro e' w1 ⟨rfl,k1⟩;have k1:Bel _ w1:=k1;have H1:=Lib.hid (H.out.belw k1);clear k1)
  go_ret;exact⟨rfl,_,H1.out⟩
 | none=>
  rw [hp]at C;dsimp only at C;have hpa:qb4 P a b=((P.length:Int),P ++ [(a,b)]):=by unfold qb4;rw [hp]
  rw [hpa];have hLP2:=Lib.hid hLP;clear hp hpa hA
  go_enter Tryz.func58,Tryz.ntmps58
  go_upto_region 4 with(go_at_call 15;(with_reducible refine C.out.mono ?_);rintro e' w1 ⟨rfl,k1⟩;have k1:Bel _ w1:=k1;have H1:=Lib.hid (H.out.belw k1);clear k1)
  have e4:w1.cell? ⟨B,4,none⟩=some (.slice oq P.length oc):=H1.out.cell 0 rfl 4;have hs1:=(H1.out.boxlt 0 rfl).2;have H2:=Lib.hid (H1.out.belw ((Bel.refl w1).alloc (.cells #[.int .i64 a,.int .i64 b,.slice none 0 0,.slice none 0 0] 44)));clear c4 C H H1
  go_wp2_with (at_builtin;refine wpList_append_lies _ rfl _ _ 28 rfl w0.heap.size 44 i1 (.agg #[.int .i64 0,.int .i64 0,.slice none 0 0,.slice none 0 0]) 4 64 Tryz.underlying28 hi1 hy0 hy1 hy2 rfl (by decide) (.slice oq P.length oc) P.length _ rfl (H2.out.row 0 rfl) ⟨w1.heap.size,0,none⟩ 1 1 [.int .i64 a,.int .i64 b,.slice none 0 0,.slice none 0 0] rfl rfl (qbh _ _ _) (by simp [Value.oneCell']) (by decide) (by unfold maxLen;omega) (by omega) H2.out.bel.size (w1.heap.size+1) (by simp) ?_)
  intro g3 cap3 w4 hown hgrow hfr hlt2;have H7:=H2.out.grow 0 rfl hgrow hown (qc3 hfr (by simp));have e5:w4.cell? ⟨B,4,none⟩=some (.slice oq P.length oc):=H7.cell 0 rfl 4;have z5:w4.frozen? ⟨B,4,none⟩=false:=H7.frz 0 rfl 4;have H8:=Lib.hid (H7.setbox 0 rfl 4 (.slice (some ⟨g3,0,none⟩) (P.length+1) cap3));have e6:=H8.out.cell 0 rfl 4;dsimp only at e6;have jw:IntKind.i64.wrap ((P.length:Int)+1-1)=(P.length:Int):=by rw [show(P.length:Int)+1-1=(P.length:Int)by omega];exact wrap_small _ (by omega) (by omega)
  have jw2:(P.length:Int)+1-1=(P.length:Int):=by omega
  clear H2 H7 hown hgrow hfr hlt2;go_wp2;go_ret;refine⟨rfl,.slice (some ⟨g3,0,none⟩) (P.length+1) cap3,?_⟩;have hR:=H8.out;rw [qep P L (a,b) hLP2.out,List.length_append,List.length_singleton];exact hR
end
end Go.Proofs.YtgpjhibdongmbaaGreatDoor
