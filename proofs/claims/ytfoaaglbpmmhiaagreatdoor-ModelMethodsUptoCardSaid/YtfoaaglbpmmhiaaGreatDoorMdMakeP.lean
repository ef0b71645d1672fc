import Derived.Test.YtfoaaglbpmmhiaaGreatDoorKitF
import Derived.Test.YtfoaaglbpmmhiaaGreatDoorKitS
set_option maxRecDepth 100000
set_option maxHeartbeats 4000000
set_option linter.unusedVariables false
set_option linter.unusedSimpArgs false
namespace Go.Proofs.YtfoaaglbpmmhiaaGreatDoor
open Go.RowKit Ck Md
theorem outC_set : ∀ (D:List PDecl) (M:List Value) (v v':Value),M.length < D.length->(outC D (M ++ [v'])).set (M.length * 4 + 3) v=outC D (M ++ [v])
 | [],M,v,v',h => by simp at h
 | d :: D,[],v,v',h => by simp [outC]
 | d :: D,x :: M,v,v',h => by
  have ih:=outC_set D M v v' (by simpa using h);simp only [List.cons_append,outC,List.length_cons];rw [show (M.length + 1) * 4 + 3=(M.length * 4 + 3) + 1 + 1 + 1 + 1 by omega];simp only [List.nil_append,List.set_cons_succ];rw [ih]
theorem outC_slot : ∀ (D:List PDecl) (M:List Value),outC D (M ++ [.slice none 0 0])=outC D M
 | [],M => by simp [outC]
 | d :: D,[] => by simp [outC]
 | d :: D,x :: M => by simp [outC,outC_slot D M]
theorem outC_put (D:List PDecl) (M:List Value) (v:Value) (h:M.length < D.length):(outC D M).set (M.length * 4 + 3) v=outC D (M ++ [v]):=by
 rw [← outC_slot D M,outC_set D M v _ h]
theorem outC_at : ∀ (D:List PDecl) (M:List Value) (v:Value),M.length < D.length->(outC D (M ++ [v]))[M.length * 4 + 3]? = some v
 | [],M,v,h => by simp at h
 | d :: D,[],v,h => by simp [outC]
 | d :: D,x :: M,v,h => by
  have ih:=outC_at D M v (by simpa using h);simp only [List.cons_append,outC,List.length_cons];rw [show (M.length + 1) * 4 + 3=(M.length * 4 + 3) + 1 + 1 + 1 + 1 by omega]
  simpa using ih
theorem addD_len (D:List PDecl) (k:Int) (n f:Str):(addD D k n f).length=D.length + 1:=by unfold addD;simp
theorem choicesGo_len (nm m:Str) : ∀ (l:List Str) (D:List PDecl),(choicesGo nm m D l).length=D.length + l.length
 | [],D => by simp [choicesGo]
 | u :: r,D => by
  unfold choicesGo;rw [choicesGo_len nm m r,addD_len,List.length_cons];omega
theorem unions_len64 (m:PMsg):(unions m).length<=m.fields.length:=by have:=unGo_len m.fields [];rw [List.length_nil,Nat.zero_add] at this;exact this
theorem msgD_len (D:List PDecl) (m:PMsg):(msgD D m).length=D.length + 1 + (unions m).length:=by unfold msgD;rw [choicesGo_len,addD_len]
theorem cand_len (n:Str) (k:Nat) (h:k<=1000000000):(cand n k).length<=n.length + 21:=by
 unfold cand
 split
 ·omega
 ·rename_i h0
  have:=itoa_len21 (k + 1) (by omega);rw [List.length_append];omega
theorem unique_len (ks:List Str) (n:Str) (h:ks.length<=1000000000):(unique ks n).length<=n.length + 21:=by
 obtain ⟨i,hi,e⟩:=unique_cand ks n;rw [e];exact cand_len n i (by omega)
structure MB (s:PSchema):Prop where
 m : ∀ m ∈ s.msgs,m.name.length<=120/\m.fields.length<=64/\∀ f ∈ m.fields,f.name.length<=40/\f.un.length<=40
 e : ∀ e ∈ s.enums,e.name.length<=120/\e.items.length<=64/\∀ f ∈ e.items,f.name.length<=40
 v : ∀ v ∈ s.svcs,v.name.length<=120/\v.meths.length<=64/\∀ f ∈ v.meths,f.name.length<=40
 lm:s.msgs.length<=64
 le:s.enums.length<=64
 lv:s.svcs.length<=64
theorem mb_of {s:PSchema} (h:valid s=true):MB s:=by
 have hh:=(head_nil (all_nil.1 (valid_iff.1 h)).1).2.1;refine ⟨fun m hm => ?_,fun e he => ?_,fun v hv => ?_,hh.1,hh.2.1,hh.2.2⟩
 ·have h1:=msg_ok h hm
  refine ⟨h1.len,h1.few,fun f hf => ?_⟩;obtain ⟨i,hi⟩:=List.mem_iff_getElem?.1 hf;have h2:=h1.fld i f hi;refine ⟨(part_nm h2.part).2.2,?_⟩;have h3:=h2.un;unfold united at h3;by_cases hu:f.un=[]
  ·rw [hu];simp
  ·rw [if_neg hu] at h3
   by_cases hc:f.card ≠ 2 ∨ usablePart f.un=false ∨ (m.fields.any fun x => decide (x.name=f.un))=true
   ·rw [if_pos hc] at h3
    cases h3
   ·have:usablePart f.un=true:=by
     cases e:usablePart f.un with
     | true => rfl
     | false => exact absurd (Or.inr (Or.inl e)) hc
    exact (part_nm (usable_part this)).2.2
 ·have h1:=enum_ok h he
  refine ⟨h1.len,h1.few,fun f hf => ?_⟩;obtain ⟨i,hi⟩:=List.mem_iff_getElem?.1 hf;exact (part_nm (h1.it i f hi).part).2.2
 ·have h1:=svc_ok h hv
  exact ⟨h1.len,h1.few,fun f hf => (part_nm (h1.me f hf).1).2.2⟩
def nmB (B:Nat) (D:List PDecl):Prop := ∀ d ∈ D,d.name.length<=B
theorem addD_nm {B:Nat} {D:List PDecl} {k:Int} {n f:Str} (h:nmB B D) (hl:D.length<=1000000000) (hn:n.length + 21<=B):nmB B (addD D k n f):=fun d hd => by
 unfold addD at hd;rcases List.mem_append.1 hd with hd | hd
 ·exact h d hd
 ·have:d=⟨k,unique (D.map (·.name)) n,f,[]⟩:=by simpa using hd
  rw [this];exact Nat.le_trans (unique_len _ n (by rw [List.length_map];exact hl)) hn
theorem choicesGo_nm {B:Nat} (nm m:Str) (hnm:nm.length + 61<=B) : ∀ (l:List Str) (D:List PDecl),nmB B D->D.length + l.length<=1000000000->(∀ u ∈ l,u.length<=40)->nmB B (choicesGo nm m D l)
 | [],D,h,_,_ => h
 | u :: r,D,h,hl,hu => by
  rw [List.length_cons] at hl;unfold choicesGo;refine choicesGo_nm nm m hnm r _ (addD_nm h (by omega) ?_) (by rw [addD_len];omega) (fun x hx => hu x (List.mem_cons_of_mem _ hx));have h1:=hu u (List.mem_cons_self ..);have h2:=camel_len u;rw [List.length_append];omega
theorem unions_short {s:PSchema} (h:MB s) {m:PMsg} (hm:m ∈ s.msgs) : ∀ u ∈ unions m,u.length<=40:=fun u hu => by
 obtain ⟨_,f,hf,rfl⟩:=unions_mem.1 hu;exact ((h.m m hm).2.2 f hf).2
theorem foldM_ok {s:PSchema} (h:MB s) : ∀ (l:List PMsg) (D:List PDecl),(∀ m ∈ l,m ∈ s.msgs)->nmB 400 D->D.length + 65 * l.length<=100000->nmB 400 (l.foldl msgD D)/\(l.foldl msgD D).length<=D.length + 65 * l.length
 | [],D,_,hD,hl => ⟨hD,by simp⟩
 | m :: l,D,hm,hD,hl => by
  rw [List.length_cons] at hl;have hmm:=hm m (List.mem_cons_self ..);have h1:=h.m m hmm;have hu:=unions_len64 m;have h2:=msgD_len D m;have hc:=mcamel_len m.name;have hn:=unique_len (D.map (·.name)) (camel m.name) (by rw [List.length_map];omega)
  have h3:nmB 400 (msgD D m):=by
   unfold msgD;refine choicesGo_nm _ _ (by omega) _ _ (addD_nm hD (by omega) (by omega)) (by rw [addD_len];omega) (unions_short h hmm)
  have h4:=foldM_ok h l (msgD D m) (fun x hx => hm x (List.mem_cons_of_mem _ hx)) h3 (by omega);rw [List.foldl_cons,List.length_cons];exact ⟨h4.1,by omega⟩
theorem foldA_ok {α:Type} (F:List PDecl->α->List PDecl) (k:Int) (N:α->Str) (hF : ∀ D a,F D a=addD D k (camel (N a)) (N a)) : ∀ (l:List α) (D:List PDecl),(∀ a ∈ l,(N a).length<=120)->nmB 400 D->D.length + l.length<=100000->nmB 400 (l.foldl F D)/\(l.foldl F D).length=D.length + l.length
 | [],D,_,hD,_ => ⟨hD,by simp⟩
 | a :: l,D,ha,hD,hl => by
  rw [List.length_cons] at hl;have h1:=ha a (List.mem_cons_self ..);have hc:=mcamel_len (N a)
  have h3:nmB 400 (F D a):=by
   rw [hF];exact addD_nm hD (by omega) (by omega)
  have hl2:(F D a).length=D.length + 1:=by rw [hF,addD_len]
  have h4:=foldA_ok F k N hF l (F D a) (fun x hx => ha x (List.mem_cons_of_mem _ hx)) h3 (by omega);rw [List.foldl_cons,List.length_cons];exact ⟨h4.1,by omega⟩
theorem declared_ok {s:PSchema} (h:MB s):nmB 400 (declared s)/\(declared s).length<=10000:=by
 have h1:=foldM_ok h s.msgs [] (fun _ hm => hm) (fun d hd => by cases hd) (by have:=h.lm;simp;omega);have hb1:=h1.2;have:=h.lm;have:=h.le;have:=h.lv;rw [List.length_nil] at hb1;have h2:=foldA_ok enumD 3 (fun e:PEnum => e.name) (fun _ _ => rfl) s.enums (s.msgs.foldl msgD []) (fun e he => (h.e e he).1) h1.1 (by omega);have h3:=foldA_ok svcD 4 (fun e:PSvc => e.name) (fun _ _ => rfl) s.svcs (s.enums.foldl enumD (s.msgs.foldl msgD [])) (fun e he => (h.v e he).1) h2.1 (by omega);refine ⟨h3.1,?_⟩;have hb2:=h2.2;have hb3:=h3.2;unfold declared;omega
theorem fold_drop {α β:Type} (F:β->α->β) (l:List α) (k:Nat) (h:k < l.length) (D:β):(l.drop k).foldl F D=(l.drop (k + 1)).foldl F (F D l[k]):=by
 rw [List.drop_eq_getElem_cons h,List.foldl_cons]
theorem recGo_len (D:List PDecl) (m:Str) : ∀ (r:List PField) (out:List PMem) (had:List Str),(recGo D m out had r).length<=out.length + r.length
 | [],out,had => by simp [recGo]
 | f :: r,out,had => by
  unfold recGo;have h1:=recGo_len D m r (addM out f.name (fieldT D f) f.num) had;have h2:=recGo_len D m r out had;have h3:=recGo_len D m r (addM out f.un (nameOf D 2 (m ++ 58 :: f.un)) (-1)) (had ++ [f.un]);have ha : ∀ n t k,(addM out n t k).length=out.length + 1:=fun n t k => by unfold addM;simp
  rw [ha] at h1 h3;rw [List.length_cons]
  (repeat' split) <;> omega
theorem chGo_len (D:List PDecl) (u:Str) : ∀ (r:List PField) (out:List PMem),(chGo D u out r).length<=out.length + r.length
 | [],out => by simp [chGo]
 | f :: r,out => by
  unfold chGo;have h1:=chGo_len D u r (addM out f.name (element D f.tk f.tn) f.num);have h2:=chGo_len D u r out;have ha : ∀ n t k,(addM out n t k).length=out.length + 1:=fun n t k => by unfold addM;simp
  rw [ha] at h1;rw [List.length_cons]
  split <;> omega
theorem clGo_len (D:List PDecl) : ∀ (r:List PMeth) (i:Nat) (out:List PMem),(clGo D i out r).length=out.length + r.length
 | [],i,out => by simp [clGo]
 | f :: r,i,out => by
  rw [clGo_cons,clGo_len D r,List.length_cons];unfold addM;simp;omega
theorem itGo_len : ∀ (r:List PItem) (out:List PMem),(itGo out r).length=out.length + r.length
 | [],out => by simp [itGo]
 | f :: r,out => by
  unfold itGo;rw [itGo_len r,List.length_cons];unfold addM;simp;omega
def mrow (v:Value) (l:List PMem):Row:=⟨80,3,v,l.length,l.flatMap memC⟩
def mrows (M:List Value) (L:List (List PMem)):List Row:=List.zipWith mrow M L
theorem mrows_add (M:List Value) (L:List (List PMem)) (v:Value) (l:List PMem) (h:M.length=L.length):mrows (M ++ [v]) (L ++ [l])=mrows M L ++ [mrow v l]:=by
 unfold mrows;rw [List.zipWith_append h];rfl
theorem perm_end {α:Type} (a:α) (l:List α):(a :: l).Perm (l ++ [a]):=(List.perm_append_singleton a l).symm
theorem perm_3 {α:Type} (x a b c:α) (l:List α):(x :: a :: b :: c :: l).Perm (a :: b :: c :: x :: l):=(List.perm_middle (l₁:=[a,b,c]) (a:=x) (l₂:=l)).symm
theorem nm_of_mk {w0:World} {g:Nat} {a b c:Value} {D:List PDecl} {M:List Value} {R:List Row} {X:List Box} {w:World} (h:MK w0 g a b c D M R X w) (hl:D.length<=1000000000):NM w g D:=by
 obtain ⟨vn,vw,vo,h⟩:=h;refine ⟨vn,vw,h.cell 0 rfl 3,h.cell 0 rfl 4,own_strs (B:=w0.heap.size) ?_ (by rw [List.length_map];omega),sv_of_own (V:=VWh) whC (fun _ => rfl) (h.row 1 rfl) (by omega) (fun _ _ => rfl)⟩;have:=h.row 0 rfl;rw [List.length_map];exact this
structure Tr where
 d:PDecl
 v:Value
 l:List PMem
def trC (t:Tr):List Value:=[.int .i64 t.d.kind,.string (S t.d.name),.string (S t.d.frm),t.v]
theorem sv_map {α β:Type} {C:Nat} {V:World->List Value->α->Prop} {V':World->List Value->β->Prop} {w:World} {v:Value} {xs:List α} (F:α->β) (h : ∀ vs x,V w vs x->V' w vs (F x)) (hs:Sv C V w v xs):Sv C V' w v (xs.map F):=by
 obtain ⟨q,c,rfl,hl,hc,hel⟩:=hs;refine ⟨q,c,by rw [List.length_map],by rw [List.length_map];exact hl,by rw [List.length_map];exact hc,fun i x hx => ?_⟩;rw [List.getElem?_map] at hx;cases e:xs[i]? with
 | none => rw [e] at hx;cases hx
 | some y =>
  rw [e] at hx;have hxe:F y=x:=by simpa using hx
  subst hxe;obtain ⟨b,off,h1,h2,vs,h3,h4⟩:=hel i y e;exact ⟨b,off,h1,h2,vs,h3,h _ _ h4⟩
def trs:List PDecl->List Value->List (List PMem)->List Tr
 | d :: D,v :: M,l :: L => ⟨d,v,l⟩ :: trs D M L
 | _,_,_ => []
theorem trs_cells : ∀ (D:List PDecl) (M:List Value) (L:List (List PMem)),M.length=D.length->L.length=D.length->outC D M=(trs D M L).flatMap trC/\(trs D M L).length=D.length/\(trs D M L).map (fun t => withM t.d t.l)=List.zipWith withM D L/\∀ t ∈ trs D M L,mrow t.v t.l ∈ mrows M L/\t.l ∈ L
 | [],[],[],_,_ => ⟨rfl,rfl,rfl,fun t h => by cases h⟩
 | [],v :: M,_,h,_ => by simp at h
 | [],[],l :: L,_,h => by simp at h
 | d :: D,[],_,h,_ => by simp at h
 | d :: D,v :: M,[],_,h => by simp at h
 | d :: D,v :: M,l :: L,h1,h2 => by
  obtain ⟨i1,i2,i3,i4⟩:=trs_cells D M L (by simpa using h1) (by simpa using h2);refine ⟨?_,by simp [trs,i2],by simp [trs,i3],fun t ht => ?_⟩
  ·simp only [trs,outC,List.flatMap_cons,i1]
   rfl
  ·rcases List.mem_cons.1 ht with rfl | ht
   ·exact ⟨List.mem_cons_self ..,List.mem_cons_self ..⟩
   ·exact ⟨List.mem_cons_of_mem _ (i4 t ht).1,List.mem_cons_of_mem _ (i4 t ht).2⟩
theorem decls_of {w0:World} {r1 r2:Row} {vo:Value} {D:List PDecl} {M:List Value} {L:List (List PMem)} {X:List Box} {w:World} (h:ST w0 (r1 :: r2 :: ⟨47,4,vo,D.length,outC D M⟩ :: mrows M L) X w) (h1:M.length=D.length) (h2:L.length=D.length) (hD:D.length<=1000000000) (hL : ∀ l ∈ L,l.length<=1000000000):Decls w vo (List.zipWith withM D L):=by
 obtain ⟨e1,e2,e3,e4⟩:=trs_cells D M L h1 h2;have hr:=h.row 2 rfl
 have hr2:w.ownsRow w0.heap.size 47 4 vo (trs D M L).length ((trs D M L).flatMap trC):=by
  rw [e2, ← e1];exact hr
 rw [← e3];refine sv_map (V:=fun w vs (t:Tr) => vs=trC t/\Mems w t.v t.l) (fun t => withM t.d t.l) (fun vs t ht => ⟨t.v,ht.1,ht.2⟩) ?_;refine sv_of_own trC (fun _ => rfl) hr2 (by omega) (fun t ht => ⟨rfl,?_⟩);obtain ⟨h3,h4⟩:=e4 t ht;have hm:=h.rows (mrow t.v t.l) (List.mem_cons_of_mem _ (List.mem_cons_of_mem _ (List.mem_cons_of_mem _ h3)));exact sv_of_own memC (fun _ => rfl) hm (by have:=hL _ h4;omega) (fun _ _ => rfl)
section
variable {w0 w w' : World} {g : Nat} {a b c : Value} {D : List PDecl} {M : List Value} {R : List Row} {X : List Box} {bx : Box} {r : Row}
theorem MK.bel (h:MK w0 g a b c D M R X w):Bel w0 w:=by obtain ⟨_,_,_,h⟩:=h;exact h.bel
theorem MK.belw (h:MK w0 g a b c D M R X w) (k:Bel w w'):MK w0 g a b c D M R X w':=by obtain ⟨x,y,z,h⟩:=h;exact ⟨x,y,z,h.belw k⟩
theorem MK.addbox (h:MK w0 g a b c D M R X w) (cs:Array Value) (T:TypeId):MK w0 g a b c D M R (⟨w.heap.size,cs,T⟩ :: X) (w.alloc (.cells cs T)):=by obtain ⟨x,y,z,h⟩:=h;exact ⟨x,y,z,(h.addbox cs T).swapX⟩
theorem MK.dropbox (h:MK w0 g a b c D M R (bx :: X) w):MK w0 g a b c D M R X w:=by obtain ⟨x,y,z,h⟩:=h;exact ⟨x,y,z,h.swapX.dropbox0⟩
theorem MK.addrow {e:TypeId} {z n:Nat} {v:Value} {xs:List Value} (h:MK w0 g a b c D M R X w) (k:Bel w w') (hown:w'.ownsRow w.heap.size e z v n xs):MK w0 g a b c D M (⟨e,z,v,n,xs⟩ :: R) X w':=by
 obtain ⟨x,y,z,h⟩:=h;exact ⟨x,y,z,(h.addrow k hown).perm (perm_3 _ _ _ _ _) (List.Perm.refl _)⟩
theorem MK.droprow (h:MK w0 g a b c D M (r :: R) X w):MK w0 g a b c D M R X w:=by obtain ⟨x,y,z,h⟩:=h;exact ⟨x,y,z,h.droprow 3⟩
theorem MK.cell (h:MK w0 g a b c D M R X w) (j:Nat) (hj:X[j]? = some bx) (o:Nat):w.cell? ⟨bx.g,o,none⟩=bx.cs[o]?:=by
 obtain ⟨x,y,z,h⟩:=h;exact h.cell (j + 1) (by simpa using hj) o
theorem MK.lt (h:MK w0 g a b c D M R X w) (j:Nat) (hj:X[j]? = some bx):bx.g < w.heap.size:=by
 obtain ⟨x,y,z,h⟩:=h;exact (h.boxlt (j + 1) (by simpa using hj)).2
theorem MK.endrow (h:MK w0 g a b c D M (r :: R) X w):MK w0 g a b c D M (R ++ [r]) X w:=by
 obtain ⟨x,y,z,h⟩:=h;exact ⟨x,y,z,h.perm ((((perm_end r R).cons _).cons _).cons _) (List.Perm.refl _)⟩
theorem MK.more {v:Value} {l:List PMem} {L:List (List PMem)} (h:MK w0 g a b c D (M ++ [v]) (mrows M L ++ [⟨80,3,v,l.length,l.flatMap memC⟩]) X w) (hML:M.length=L.length):MK w0 g a b c D (M ++ [v]) (mrows (M ++ [v]) (L ++ [l])) X w:=by
 rw [mrows_add _ _ _ _ hML];exact h
theorem MK.more1 {v:Value} {l:List PMem} {L:List (List PMem)} (h:MK w0 g a b c D (M ++ [v]) ((r :: mrows M L) ++ [⟨80,3,v,l.length,l.flatMap memC⟩]) X w) (hML:M.length=L.length):MK w0 g a b c D (M ++ [v]) (r :: mrows (M ++ [v]) (L ++ [l])) X w:=by
 rw [mrows_add _ _ _ _ hML];exact h
theorem MK.out (h:MK w0 g a b c D M R X w) (hD:D.length ≠ 0) : ∃ go cap,w.cell? ⟨g,5,none⟩=some (.slice (some ⟨go,0,none⟩) D.length cap)/\∀ v,M.length < D.length->w.frozen? ⟨go,M.length * 4 + 3,none⟩=false/\(∃ u,w.cell? ⟨go,M.length * 4 + 3,none⟩=some u)/\MK w0 g a b c D (M ++ [v]) R X (w.setCell ⟨go,M.length * 4 + 3,none⟩ v):=by
 obtain ⟨vn,vw,vo,h⟩:=h;have h0:=h.row 2 rfl;obtain ⟨go,cap,hv,hc⟩:=own_cells h0 hD;have hv':vo=.slice (some ⟨go,0,none⟩) D.length cap:=hv;subst hv';refine ⟨go,cap,h.cell 0 rfl 5,fun v hM => ⟨h.rowfrz 2 rfl rfl _,⟨.slice none 0 0,h.rowcell 2 rfl rfl _ _ ?_⟩,vn,vw,.slice (some ⟨go,0,none⟩) D.length cap,?_⟩⟩
 ·show (outC D M)[M.length * 4 + 3]? = some (.slice none 0 0)
  rw [← outC_slot];exact outC_at D M _ hM
 ·have:=h.setrow 2 rfl rfl (M.length * 4 + 3) v
  have e:(outC D M).set (M.length * 4 + 3) v=outC D (M ++ [v]):=outC_put D M v hM;rw [← e];exact this
end
def rowsB (vn vw:Value) (go cap:Nat) (D:List PDecl) (M:List Value) (R:List Row):List Row:=
 ⟨9,1,vn,D.length,nmC (D.map (·.name))⟩ :: ⟨119,2,vw,D.length,D.flatMap whC⟩ :: ⟨47,4,.slice (some ⟨go,0,none⟩) D.length cap,D.length,outC D M⟩ :: R
theorem ST.dropboxAt {w0 w:World} {R:List Row} {X:List Box} {b:Box} (h:ST w0 R X w) (j:Nat) (hj:X[j]? = some b):ST w0 R (X.eraseIdx j) w:=(h.perm (List.Perm.refl _) (perm_at X j b hj b).1).dropbox0
theorem en_start {w0 w:World} {g:Nat} {a b c:Value} {D:List PDecl} {M:List Value} {R:List Row} {X:List Box} (h:MK w0 g a b c D M R X w) (hD:D.length ≠ 0) : ∃ vn vw go cap,ST w0 (memR (.slice none 0 0) (.slice none 0 0) (.slice none 0 0) [] (rowsB vn vw go cap D (M ++ [.slice none 0 0]) R)) (⟨w.heap.size,#[.slice none 0 0,.slice none 0 0],97⟩ :: ⟨g,#[a,b,c,vn,vw,.slice (some ⟨go,0,none⟩) D.length cap],89⟩ :: X) (w.alloc (.cells #[.slice none 0 0,.slice none 0 0] 97)):=by
 obtain ⟨vn,vw,vo,h⟩:=h;obtain ⟨go,cap,hv,_⟩:=own_cells (h.row 2 rfl) hD;have hv':vo=.slice (some ⟨go,0,none⟩) D.length cap:=hv;subst hv';refine ⟨vn,vw,go,cap,?_⟩;have:=(((h.addbox #[.slice none 0 0,.slice none 0 0] 97).nilrow 80 3).nilrow 3 1).nilrow 9 1;unfold rowsB;rw [outC_slot]
 simpa [memR,nmC] using this
theorem en_fin {w0 w:World} {g:Nat} {a b c vn vw v vnn vww:Value} {go cap:Nat} {D:List PDecl} {M:List Value} {R:List Row} {X:List Box} {bx be:Box} {out:List PMem} (h:ST w0 (memR vnn vww v out (rowsB vn vw go cap D (M ++ [v]) R)) (bx :: ⟨g,#[a,b,c,vn,vw,.slice (some ⟨go,0,none⟩) D.length cap],89⟩ :: be :: X) w):MK w0 g a b c D (M ++ [v]) (R ++ [⟨80,3,v,out.length,out.flatMap memC⟩]) X w:=by
 have h1:=h.droprow0.droprow0.dropbox0;have h2:MK w0 g a b c D (M ++ [v]) (⟨80,3,v,out.length,out.flatMap memC⟩ :: R) (be :: X) w:=⟨_,_,_,h1.perm (perm_3 _ _ _ _ _) (List.Perm.refl _)⟩;exact h2.endrow.dropbox
theorem mems_short {s:PSchema} (h:MB s) {D:List PDecl} : ∀ l ∈ memsOf D s,l.length<=64:=fun l hl => by
 unfold memsOf at hl;rcases List.mem_append.1 hl with hl | hl
 ·rcases List.mem_append.1 hl with hl | hl
  ·obtain ⟨m,hm,hl⟩:=List.mem_flatMap.1 hl
   have hb:=(h.m m hm).2.1;unfold memsM at hl;rcases List.mem_cons.1 hl with rfl | hl
   ·have:=recGo_len D m.name m.fields [] []
    unfold record;rw [List.length_nil] at this;omega
   ·obtain ⟨u,_,rfl⟩:=List.mem_map.1 hl
    have:=chGo_len D u m.fields [];unfold choice;rw [List.length_nil] at this;omega
  ·obtain ⟨e,he,rfl⟩:=List.mem_map.1 hl
   have hb:=(h.e e he).2.1;have:=itGo_len e.items [];unfold items;rw [List.length_nil] at this;omega
 ·obtain ⟨v,hv,rfl⟩:=List.mem_map.1 hl
  have hb:=(h.v v hv).2.1;have:=clGo_len D v.meths 0 [];unfold client;rw [List.length_nil] at this;omega
end Go.Proofs.YtfoaaglbpmmhiaaGreatDoor
