import Derived.Test.YtgpjhibdongmbaaGreatDoorUtfDec
import Derived.Test.YtgpjhibdongmbaaGreatDoorTreeG
import Derived.Test.YtgpjhibdongmbaaGreatDoorRowBox
set_option maxRecDepth 100000
set_option maxHeartbeats 4000000
set_option linter.unusedVariables false
set_option linter.unusedSimpArgs false
namespace Go.Proofs.YtgpjhibdongmbaaGreatDoor.Pr
theorem qiq {f a b k x:Int} {t:List UInt8} {n:Nat} (h:fitsB a k x t n=false):turnE f a b k x t n ≠ 0:=by
 unfold turnE;rw [if_pos (.inr (.inr (.inr h)))]
 decide
theorem qgz {f a b k x:Int} {t:List UInt8} {n:Nat} (h:turnE f a b k x t n=0):fitsB a k x t n=true:=by
 cases hf:fitsB a k x t n
 ·exact absurd h (qiq hf)
 ·rfl
theorem lev_three (f a b:Int):lev f a b=0 ∨ lev f a b=1 ∨ lev f a b=2:=by
 unfold lev
 (repeat' split) <;> simp
theorem lev_rel (f a b:Int):lev f a b=0 ↔ rel f a b=false:=by
 unfold lev;cases rel f a b <;> simp
 repeat' split
 all_goals decide
theorem qfk (f a b:Int):(0<lev f a b) ↔ rel f a b=true:=by
 have h1:=lev_rel f a b;have h2:=lev_three f a b;cases h:rel f a b <;> simp [h]at h1 ⊢ <;> omega
theorem rel_iff (f a b:Int):rel f a b=true ↔ (fam f a ≠ 0/\fam f a=fam f b):=decide_eq_true_iff
theorem qe3 {k x:Int} {t:List UInt8} {n:Nat} (h:leanB k x t n=true):n=0/\(if txt k=true then x=0 else t=[]):=by
 simp only [leanB,Bool.and_eq_true,decide_eq_true_eq]at h;exact⟨h.1,ite_dec.1 h.2⟩
theorem fits_mk {b x:Int} {t:List UInt8} (h1:isK b=true) (h2:if txt b=true then x=0 else t=[]) (h3:withB b x=true) (h4:t.length<=4096) (h5:b ≠ 7 ∨ Utf.bad t<0):fitsB b b x t 0=true:=by
 simp only [fitsB,leanB,Bool.and_eq_true,Bool.or_eq_true,decide_eq_true_eq];exact⟨⟨⟨⟨⟨h1,trivial⟩,trivial,ite_dec.2 h2⟩,h3⟩,h4⟩,h5⟩
theorem turnE_zero {f a b k x:Int} {t:List UInt8} {n:Nat}:turnE f a b k x t n=0 ↔ (rel f a b=true/\fitsB a k x t n=true/\(num a=true->insB a b x=true)/\(b=7->Utf.bad t<0)):=by
 unfold turnE;constructor
 ·intro h
  split at h
  ·cases h
  ·rename_i h1
   split at h
   ·split at h <;> cases h
   ·rename_i h2
    split at h
    ·cases h
    ·rename_i h3
     split at h
     ·cases h
     ·rename_i h4
      refine⟨by simpa using h2,by simpa using fun e=>h1 (.inr (.inr (.inr e))),fun hn=>?_,fun hb=>?_⟩
      ·simpa using fun e=>h3 ⟨hn,e⟩
      ·exact Decidable.byContradiction fun hc=>h4 ⟨hb,hc⟩
 ·intro ⟨h1,h2,h3,h4⟩
  obtain⟨r1,r2,r3⟩:=rel_true h1;rw [if_neg (by simp [r1,r2,r3,h2]),if_neg (by simp [h1]),if_neg (by intro hc;rw [h3 hc.1]at hc;exact absurd hc.2 (by decide)),if_neg (by intro hc;exact hc.2 (h4 hc.1))]
theorem bad_nil:Utf.bad []<0:=by decide
theorem honest2 {f a b k x:Int} {t:List UInt8} {n:Nat} (h0:0<=x) (hx:x<18446744073709551616) (h:lev f a b=2) (hf:fitsB a k x t n=true):turnE f a b k x t n=0/\exam f a b=(0,0,[],false):=by
 have hr:rel f a b=true:=(qfk f a b).1 (by omega);obtain⟨h1,h2,h3⟩:=rel_true hr;refine⟨turnE_zero.2 ⟨hr,hf,?_⟩,by unfold exam;rw [if_pos (.inr (.inr (.inr h)))]⟩;obtain⟨_,rfl,hl,hw,ht,hv⟩:=qe9 hf;obtain⟨_,hl2⟩:=qe3 hl;clear hl hf
 rcases isF_true h1 with rfl|rfl|rfl <;> rcases qbe h2 with rfl|rfl|rfl|rfl|rfl|rfl|rfl|rfl|rfl <;> rcases qbe h3 with rfl|rfl|rfl|rfl|rfl|rfl|rfl|rfl|rfl <;>
  first
  | (exfalso;revert h;decide)
  | (simp [num,txt,isK,sgn,neg,insB,withB,below,most,boundT]at hl2 hw hv ⊢ <;> first|done|assumption|(subst hl2;exact bad_nil)|((repeat' split) <;> omega))
theorem cls_nan:cls 9221120237041090560=0:=by decide
theorem qe2 (k b x:Int) (h:k=6 ↔ b=6):normB k (normB b x)=normB k x:=by
 unfold normB;by_cases h6:b=6
 ·have h6':k=6:=h.2 h6
  by_cases hc:cls x=0
  ·simp [h6,h6',hc,cls_nan]
  ·simp [h6,h6',hc]
 ·simp [h6]
theorem rel_six {f a b:Int} (h:rel f a b=true):a=6 ↔ b=6:=by
 obtain⟨h1,h2,h3⟩:=rel_true h
 rcases isF_true h1 with rfl|rfl|rfl <;> rcases qbe h2 with rfl|rfl|rfl|rfl|rfl|rfl|rfl|rfl|rfl <;> rcases qbe h3 with rfl|rfl|rfl|rfl|rfl|rfl|rfl|rfl|rfl <;>
  first
  | (exfalso;revert h;decide)
  | simp
theorem rel_symm {f a b:Int} (h:rel f a b=true):rel f b a=true:=by
 obtain⟨h1,h2⟩:=(rel_iff f a b).1 h;exact(rel_iff f b a).2 ⟨h2 ▸ h1,h2.symm⟩
theorem qht {k b:Int} (x:Int) (h:k=6 ↔ b=6):normB b x=normB k x:=by
 unfold normB;by_cases h6:b=6
 ·have h6':k=6:=h.2 h6
  simp [h6,h6']
 ·have h6':k ≠ 6:=fun e=>h6 (h.1 e)
  simp [h6,h6']
theorem qgq {k x:Int} (h0:0<=x) (hx:x<18446744073709551616):0<=normB k x/\normB k x<18446744073709551616:=by
 unfold normB
 split <;> omega
theorem normB_ne {b x:Int} (h:b ≠ 6):normB b x=x:=if_neg fun e=>h e.1
theorem back {f a b k x:Int} {t:List UInt8} {n:Nat} (h0:0<=x) (hx:x<18446744073709551616) (h:turnE f a b k x t n=0) :
  n=0/\k=a/\fitsB b b (normB b x) t 0=true/\normB b x=normB k x/\turnE f b a b (normB b x) t 0=0/\normB a (normB b x)=normB k x:=by
 obtain⟨hr,hf,hi,hu⟩:=turnE_zero.1 h;obtain⟨h1,h2,h3⟩:=rel_true hr;obtain⟨_,rfl,hl,hw,ht,hv⟩:=qe9 hf;obtain⟨hn,hl2⟩:=qe3 hl;have h6:=rel_six hr;have he:=qht x h6;have hrs:=rel_symm hr;clear hl hf
 have main:fitsB b b (normB b x) t 0=true/\(num b=true->insB b k (normB b x)=true)/\(k=7->Utf.bad t<0):=by
  by_cases hb:b=6
  ·have hk:=h6.2 hb
   subst hb;subst hk;simp [txt]at hl2;subst hl2;exact⟨fits_mk h3 (by simp [txt]) (by simp [withB]) (by simp) (.inl (by decide)),fun h=>absurd h (by decide),fun h=>absurd h (by decide)⟩
  ·rw [normB_ne hb]
   have hk:k ≠ 6:=fun e=>hb (h6.1 e)
   refine(fun(p:(if txt b=true then x=0 else t=[])/\withB b x=true/\(b ≠ 7 ∨ Utf.bad t<0)/\(num b=true->insB b k x=true)/\(k=7->Utf.bad t<0))=>⟨fits_mk h3 p.1 p.2.1 ht p.2.2.1,p.2.2.2.1,p.2.2.2.2⟩) ?_;clear he
   rcases isF_true h1 with rfl|rfl|rfl <;> rcases qbe h2 with rfl|rfl|rfl|rfl|rfl|rfl|rfl|rfl|rfl <;> rcases qbe h3 with rfl|rfl|rfl|rfl|rfl|rfl|rfl|rfl|rfl <;>
    first
    | (exfalso;revert hr;decide)
    | (exfalso;exact hb rfl)
    | (simp [num,txt,isK,sgn,neg,insB,withB,below,most,boundT]at hl2 hw hv hi hu ⊢ <;> (try simp [*]) <;> (repeat' split at hi) <;> (repeat' split) <;> omega)
 exact⟨hn,rfl,main.1,he,turnE_zero.2 ⟨hrs,main.1,main.2.1,main.2.2⟩,by rw [qe2 _ _ _ h6]⟩
theorem qjl {f a b c:Int} (h1:lev f a b=2) (h2:lev f b c=2):lev f a c=2:=by
 have hr1:rel f a b=true:=(qfk f a b).1 (by omega);have hr2:rel f b c=true:=(qfk f b c).1 (by omega);obtain⟨g1,g2,g3⟩:=rel_true hr1;obtain⟨_,_,g4⟩:=rel_true hr2
 rcases isF_true g1 with rfl|rfl|rfl <;> rcases qbe g2 with rfl|rfl|rfl|rfl|rfl|rfl|rfl|rfl|rfl <;> rcases qbe g3 with rfl|rfl|rfl|rfl|rfl|rfl|rfl|rfl|rfl <;>
  first
  | (exfalso;revert h1;decide)
  | (clear hr1 hr2 h1;rcases qbe g4 with rfl|rfl|rfl|rfl|rfl|rfl|rfl|rfl|rfl <;> first|rfl|(exfalso;revert h2;decide))
theorem chain {f a b c k x:Int} {t:List UInt8} {n:Nat} (h0:0<=x) (hx:x<18446744073709551616) (h1:lev f a b=2) (h2:lev f b c=2) (h:turnE f a b k x t n=0) :
  n=0/\turnE f b c b (normB b x) t 0=0/\turnE f a c k x t n=0/\normB c (normB b x)=normB c x:=by
 obtain⟨hn,_,hf,_,_,_⟩:=back h0 hx h;have hr2:rel f b c=true:=(qfk f b c).1 (by omega);have hy:=qgq (k:=b) h0 hx;refine⟨hn,(honest2 hy.1 hy.2 h2 hf).1,(honest2 h0 hx (qjl h1 h2) (qgz h)).1,qe2 _ _ _ (by have:=rel_six hr2;omega)⟩
end Go.Proofs.YtgpjhibdongmbaaGreatDoor.Pr
namespace Go.Proofs.YtgpjhibdongmbaaGreatDoor
open Go.RowKit
section
variable {P : Program} {ops : Array Oper} {S : World → Prop} {Q : Exit → Act → World → Prop} {K : Act → World → Prop} {a : Act} {w : World} {o : Oper} {r m : OrdT Oper}
theorem qau (hgd:o.guard=none) (ty:TypeId) (x y:Operand) (ho:o.op=.store ty x y) (g:Nat) (cells old:Array Value) (t:TypeId) (hx:a.eval x=.pointer (some ⟨g,0,none⟩)) (hy:a.eval y=.agg cells) (hg:w.heap[g]? = some (.cells old t (0,0))) (hi:(P.info? ty).map (·.size)=some cells.size) (hold:old.size=cells.size) (h1:cells.all (·.oneCell')=true)
  (hS:S (w.setRow g cells)) (h:qaa P ops S Q K r (a.put o.dst undef) (w.setRow g cells)) (hm:qaa P ops S Q K m a w):qaa P ops S Q K (.alt o r m) a w:=by
 refine⟨?_,hm⟩;have hw:Region.wanted o (yielded ops a.tmps)=true:=by simp [Region.wanted,hgd]
 rw [if_pos hw];exact wp_store_row ty x y ho g cells hx hy t old hg hi hold h1 ⟨hS,h⟩
end
end Go.Proofs.YtgpjhibdongmbaaGreatDoor
