import Derived.Test.YtaaneecceiefoaaGreatDoorCkFin
import Derived.Test.YtaaneecceiefoaaGreatDoorCkOut
import Derived.Test.YtaaneecceiefoaaGreatDoorOrd
import Derived.Deep.RegionHeld3
import Derived.Deep.DeepCutAuto
import Derived.Test.YtaaneecceiefoaaGreatDoorUtfDec
import Derived.Deep.CutBlock
import Derived.Deep.AppendLies
import Derived.Deep.Upon
import Derived.Test.YtaaneecceiefoaaGreatDoorOpen
set_option maxRecDepth 100000
set_option maxHeartbeats 4000000
set_option linter.unusedVariables false
set_option linter.unusedSimpArgs false
namespace Go.Proofs.YtaaneecceiefoaaGreatDoor.Ck
theorem un_nil {d:Str} {num:Int} {ok:Bool} {e:Int}:un d num ok e=[] ↔ ok=true:=by
 unfold un;cases ok <;> simp
theorem flat_nil {α β:Type} {l:List α} {f:α->List β}:l.flatMap f=[] ↔ ∀x,x ∈ l->f x=[]:=by
 simp [List.flatMap_eq_nil_iff]
theorem all_nil {s:PSchema}:all s=[] ↔ head s=[]/\(∀m,m ∈ s.msgs->qb1 s m (qci s)=[])/\(∀e,e ∈ s.enums->enum e=[])/\(∀v,v ∈ s.svcs->qbh s v=[]):=by
 unfold all;simp only [List.append_eq_nil_iff,flat_nil];constructor
 ·rintro ⟨⟨⟨a,b⟩,c⟩,d⟩;exact⟨a,b,c,d⟩
 ·rintro ⟨a,b,c,d⟩;exact⟨⟨⟨a,b⟩,c⟩,d⟩
theorem valid_iff {s:PSchema}:valid s=true ↔ all s=[]:=by unfold valid;cases all s <;> simp
def rest (s:PSchema):List PProb:=s.msgs.flatMap (fun m=>ql7 s m) ++ s.enums.flatMap enum ++ s.svcs.flatMap (qbh s)
theorem un_len (d:Str) (num:Int) (ok:Bool) (e:Int):(un d num ok e).length<=1:=by unfold un;cases ok <;> simp
end Go.Proofs.YtaaneecceiefoaaGreatDoor.Ck
namespace Go.Proofs.YtaaneecceiefoaaGreatDoor.Ck
theorem qgo (a:Str) : ¬ a<a:=List.lt_irrefl a
theorem pw_ne {α:Type} {f:α->Str} {l:List α} (h:(l.map f).Pairwise (· < ·)) {i j:Nat} {a b:α} (ha:l[i]? = some a) (hb:l[j]? = some b) (e:f a=f b):i=j:=by
 rw [List.pairwise_iff_getElem]at h;obtain⟨hi,rfl⟩:=List.getElem?_eq_some_iff.1 ha;obtain⟨hj,rfl⟩:=List.getElem?_eq_some_iff.1 hb;rcases Nat.lt_trichotomy i j with h1|h1|h1
 ·have:=h i j (by simpa using hi) (by simpa using hj) h1
  simp only [List.getElem_map]at this;rw [e]at this;exact absurd this (qgo _)
 ·exact h1
 ·have:=h j i (by simpa using hj) (by simpa using hi) h1
  simp only [List.getElem_map]at this;rw [e]at this;exact absurd this (qgo _)
theorem find_at {α:Type} {f:α->Str} {l:List α} (h:(l.map f).Pairwise (· < ·)) {i:Nat} {a:α} (ha:l[i]? = some a):l.find? (fun x=>f x=f a)=some a:=by
 cases hf:l.find? (fun x=>decide (f x=f a))with
 | none=>
  have:=List.find?_eq_none.1 hf a (List.mem_of_getElem? ha);simp at this
 | some b=>
  have h1:f b=f a:=by simpa using List.find?_some hf
  obtain⟨j,hj⟩:=List.mem_iff_getElem?.1 (List.mem_of_find?_eq_some hf);have:=pw_ne h hj ha h1;subst this;rw [ha]at hj;rw [Option.some.inj hj]
theorem qer {s:PSchema} {m:PMsg} : ∀(l:List PField) (i:Nat),qbd s m i l=[]->∀(j:Nat) f,l[j]? = some f->qf4 s m (i+j) f=[]
 | [],i,_,j,f,h=>by simp at h
 | a :: r,i,h,j,f,hf=>by
  unfold qbd at h;rw [List.append_eq_nil_iff]at h;cases j with
  | zero=>
   simp at hf;subst hf;exact h.1
  | succ j=>
   have:=qer r (i+1) h.2 j f (by simpa using hf);rwa [show i+1+j=i+(j+1)by omega]at this
structure MsgOk (s:PSchema) (m:PMsg):Prop where
 len:m.fields.length<=64
 field : ∀(i:Nat) f,m.fields[i]? = some f->qf4 s m i f=[]
 acyc:qlp s m (qci s)=false
theorem qgr {s:PSchema} {m:PMsg} (h:qb1 s m (qci s)=[]):MsgOk s m:=by
 unfold qb1 at h;simp only [List.append_eq_nil_iff,un_nil]at h;obtain⟨⟨⟨⟨⟨⟨h1,h2⟩,h3⟩,h4⟩,h5⟩,h6⟩,h7⟩:=h;refine⟨(of_decide_eq_true h2).1,fun i f hf=>?_,by simpa using h7⟩;have:=qer m.fields 0 h3 i f hf;rwa [Nat.zero_add]at this
def Le (a b:List Bool):Prop:=a.length=b.length/\∀k,a.getD k false=true->b.getD k false=true
theorem Le.refl (a:List Bool):Le a a:=⟨rfl,fun _ h=>h⟩
theorem Le.trans {a b c:List Bool} (h:Le a b) (k:Le b c):Le a c:=⟨h.1.trans k.1,fun i hi=>k.2 i (h.2 i hi)⟩
def without (s:PSchema) (k:Nat):PSchema := { s with enums:=s.enums.eraseIdx k }
end Go.Proofs.YtaaneecceiefoaaGreatDoor.Ck
namespace Go.Proofs.YtaaneecceiefoaaGreatDoor.Md
open Ck
theorem qj5 {l:Str} (h:qaf l=true):58 ∉ l/\l.length<=120:=by
 unfold qaf at h;rw [Bool.and_eq_true]at h;exact full_ok h.1
theorem qj4 {l:Str} (h:qaj l=true):Id.isPart l=true:=by
 unfold qaj at h;rw [Bool.and_eq_true]at h;exact h.1
structure FldOk (s:PSchema) (m:PMsg) (i:Nat) (f:PField):Prop where
 num:1<=f.num/\f.num<=65535
 asc:i=0 ∨ ∃g,m.fields[i-1]? = some g/\g.num<f.num
 part:Id.isPart f.name=true
 card:1<=f.card/\f.card<=5
 key:f.card=5->1<=f.key/\f.key<=7
 ty:typed s f=true
 un:qh4 m i f=true
theorem fld_of {s:PSchema} {m:PMsg} {i:Nat} {f:PField} (h:qf4 s m i f=[]):FldOk s m i f:=by
 unfold qf4 at h;simp only [List.append_eq_nil_iff,un_nil]at h;obtain⟨⟨⟨⟨⟨⟨⟨⟨⟨h1,h2⟩,h3⟩,h4⟩,h5⟩,h6⟩,h7⟩,h8⟩,h9⟩,h10⟩:=h;rw [Bool.and_eq_true,decide_eq_true_iff]at h6;refine⟨of_decide_eq_true h1,?_,qj4 h3,h6.1,fun e=>?_,h7,h8⟩
 ·rw [Bool.or_eq_true,decide_eq_true_iff]at h2
  rcases h2 with h2|h2
  ·exact .inl h2
  ·right
   split at h2
   ·rename_i g hg
    exact⟨g,hg,of_decide_eq_true h2⟩
   ·cases h2
 ·have:=h6.2
  unfold keyed at this;rw [if_neg (by omega),decide_eq_true_iff]at this;omega
structure MOk (s:PSchema) (m:PMsg):Prop where
 nocol:58 ∉ m.name
 len:m.name.length<=120
 few:m.fields.length<=64
 fld : ∀(i:Nat) f,m.fields[i]? = some f->FldOk s m i f
theorem msg_ok {s:PSchema} (h:valid s=true) {m:PMsg} (hm:m ∈ s.msgs):MOk s m:=by
 have h1:=(all_nil.1 (valid_iff.1 h)).2.1 m hm;have h2:=qgr h1;unfold qb1 at h1;simp only [List.append_eq_nil_iff,un_nil]at h1;have hn:=qj5 h1.1.1.1.1.1.1;exact⟨hn.1,hn.2,h2.len,fun i f hf=>fld_of (h2.field i f hf)⟩
structure ItOk (e:PEnum) (i:Nat) (f:PItem):Prop where
 num:0<=f.num/\f.num<=2147483647
 asc:i=0 ∨ ∃g,e.items[i-1]? = some g/\g.num<f.num
 part:Id.isPart f.name=true
structure EOk (e:PEnum):Prop where
 nocol:58 ∉ e.name
 len:e.name.length<=120
 few:e.items.length<=64
 it : ∀(i:Nat) f,e.items[i]? = some f->ItOk e i f
structure SOk (s:PSchema) (v:PSvc):Prop where
 nocol:58 ∉ v.name
 len:v.name.length<=120
 few:v.meths.length<=64
 me : ∀f,f ∈ v.meths->Id.isPart f.name=true/\(msgOf s f.inn).isSome=true/\(msgOf s f.out).isSome=true
theorem msgOf_mem {s:PSchema} {n:Str} (h:(msgOf s n).isSome=true) : ∃m ∈ s.msgs,m.name=n:=by
 unfold msgOf at h;rw [List.find?_isSome]at h;obtain⟨m,hm,e⟩:=h;exact⟨m,hm,of_decide_eq_true e⟩
def pairsM (D:List PDecl) (m:PMsg):List (Str × List PMem):=(m.name,record D m) :: (unions m).map (fun u=>(m.name ++ 58 :: u,choice D m u))
def pairs (D:List PDecl) (s:PSchema):List (Str × List PMem):=s.msgs.flatMap (pairsM D) ++ s.enums.map (fun e=>(e.name,items e)) ++ s.svcs.map (fun v=>(v.name,client D v))
end Go.Proofs.YtaaneecceiefoaaGreatDoor.Md
namespace Go.Proofs.YtaaneecceiefoaaGreatDoor.Md
open Ck
end Go.Proofs.YtaaneecceiefoaaGreatDoor.Md
namespace Go.Proofs.YtaaneecceiefoaaGreatDoor
section
open Go.RowKit Ck
theorem VSchema.stays_bel {w w2:World} {vs:List Value} {s:PSchema} (h:VSchema w vs s) (k:Bel w w2):VSchema w2 vs s:=VSchema.stays w w2 vs s k h
end
section
open Go.RowKit Ck
end
section
open Go.RowKit Ck
end
section
open Go.RowKit Ck
end
section
open Go.RowKit Ck
end
section
open Go.RowKit Ck
end
section
open Go.RowKit Ck
theorem qg7 {w:World} {v:Value} {ks:List Str} (h:Texts w v ks):Strs w v ks:=by
 obtain⟨q,c,rfl,hl,hcap,hel⟩:=h;cases ks with
 | nil=>exact .inl ⟨rfl,q,c,rfl⟩
 | cons x r=>
  obtain⟨b,off,rfl,hb,_⟩:=hel 0 x rfl;refine .inr ⟨b,off,c,rfl,hl,hb,fun j k hk=>?_⟩;obtain⟨b',off',he,_,vs,hce,hvs⟩:=hel j k hk;cases he;have hvs':vs=[.string (S k)]:=hvs;have:=hce 0 (.string (S k)) (by rw [hvs'];rfl);rwa [Nat.mul_one,Nat.add_zero]at this
end
section
open Go.RowKit Ck
def qlw:Value->Option (DataW Unit × List MemPlace)
 | .bool b=>some (.lit (.bool b),[])
 | _=>none
def boolF (fin:Str->Bool):Str->Option (DataW Unit):=fun k=>if fin k=true then some (.lit (.bool true))else none
end
section
open Go.RowKit Ck
theorem qnn (fin:Str->Bool) (n:Str):(fun k=>if k=n then some (.lit (.bool true))else boolF fin k)=boolF fun x=>decide (x=n) || fin x:=by
 funext k
 unfold boolF;by_cases h:k=n
 ·simp [h]
 ·simp [h]
def FinAt (w:World) (c0 c1 c2:Value) (k:Nat) (cur:Str->Bool) (wr:World):Prop:=
 Below w.heap.size w wr/\wr.cell? ⟨w.heap.size,0,none⟩=some c0/\wr.cell? ⟨w.heap.size,1,none⟩=some c1/\wr.cell? ⟨w.heap.size,2,none⟩=some c2/\wr.cell? ⟨w.heap.size+1+1,0,none⟩=some (.map (some (w.heap.size+1)))/\MapIs qlw wr (w.heap.size+1) k (boolF cur)
theorem FinAt.bel {w:World} {c0 c1 c2:Value} {k:Nat} {cur:Str->Bool} {wr w':World} (h:FinAt w c0 c1 c2 k cur wr) (b:Bel wr w'):FinAt w c0 c1 c2 k cur w':=by
 obtain⟨h1,h2,h3,h4,h5,h6⟩:=h;exact⟨Bel.of h1 b,b.some h2,b.some h3,b.some h4,b.some h5,h6.bel b⟩
theorem FinAt.base {w:World} {c0 c1 c2:Value} {k:Nat} {cur:Str->Bool} {wr:World} (h:FinAt w c0 c1 c2 k cur wr):Bel w wr:=h.1
theorem FinAt.put {w:World} {c0 c1 c2:Value} {k:Nat} {cur:Str->Bool} {wr w':World} (h:FinAt w c0 c1 c2 k cur wr) {n:Str} (hm:MapIs qlw w' (w.heap.size+1) (k+1) (fun x=>if x=n then some (.lit (.bool true))else boolF cur x)) (hg:wr.grownBy w' (some (w.heap.size+1))):FinAt w c0 c1 c2 (k+1) (fun x=>decide (x=n) || cur x) w':=by
 obtain⟨h1,h2,h3,h4,h5,h6⟩:=h;have hne : ∀j,j ≠ w.heap.size+1->some j ≠ some (w.heap.size+1):=fun j h e=>h (by injection e)
 refine⟨h1.grown hg h1.size (fun k hk=>by cases hk;omega),hg.cell h2 (hne _ (by simp)),hg.cell h3 (hne _ (by simp)),hg.cell h4 (hne _ (by simp)),hg.cell h5 (hne _ (by simp)),?_⟩;rw [←qnn];exact hm
theorem FinAt.weak {w:World} {c0 c1 c2:Value} {k j:Nat} {cur:Str->Bool} {wr:World} (h:FinAt w c0 c1 c2 k cur wr) (hk:k=j):FinAt w c0 c1 c2 j cur wr:=hk ▸ h
end
section
open Go.RowKit Ck
end
section
open Go.RowKit Ck
section
variable {w0 : World} {fb : Nat} {d : Str} {num : Int} {w : World} {bl : List (Nat × Array Value × TypeId)} {N : Nat} {ps : List PProb} {wx : World}
end
theorem qn7 (e:PEnum) (i:Nat) (it:PItem):(itemP e i it).length<=6:=by
 unfold itemP noted;exact qao (qao (qao (qao (qao (un_len _ _ _ _) (un_len _ _ _ _)) (un_len _ _ _ _)) (un_len _ _ _ _)) (un_len _ _ _ _)) (un_len _ _ _ _)
end
section
open Go.RowKit Ck
theorem qfq (x y:Str) (h:ltS y x=true ∨ y=x):ltS x y=false:=by
 unfold ltS at *;rw [decide_eq_false_iff_not];rcases h with h|rfl
 ·have h':=of_decide_eq_true h
  exact List.lt_asymm h'
 ·exact List.lt_irrefl _
theorem qik (x y:Str) (h1:ltS y x=false) (h2:y ≠ x):ltS x y=true:=by
 unfold ltS at *;have h1':=of_decide_eq_false h1;exact decide_eq_true (Decidable.byContradiction fun h=>h2 (List.le_antisymm (List.not_lt.1 h) (List.not_lt.1 h1')))
theorem gtr_S (a b:Str):(!Op.bytesLess (S a).toList (S b).toList && !((S a).toList == (S b).toList))=Ck.ltS b a:=by
 rw [ql8,eq_S];have he : ∀x y:Str,Ck.ltS x y=ltS x y:=fun _ _=>rfl
 rw [he,he];cases h1:ltS a b with
 | true=>rw [qfq b a (.inl h1)];rfl
 | false=>
  by_cases h2:a=b
  ·rw [qfq b a (.inr h2),decide_eq_true h2];rfl
  ·rw [qik b a h1 h2,decide_eq_false h2];rfl
def qcu (l:List Str) (k:Nat):Bool:=match l[k-1]? with|some a=>qhb a (l.drop k)|none=>true
theorem rise_one (l:List Str):qcu l 1=qgb l:=by
 cases l with
 | nil=>rfl
 | cons a r=>rfl
theorem qmo (l:List Str) (k:Nat) (a b:Str) (h1:1<=k) (ha:l[k-1]? = some a) (hb:l[k]? = some b):qcu l k=(ltS a b && qcu l (k+1)):=by
 obtain⟨hk,rfl⟩:=List.getElem?_eq_some_iff.1 hb;unfold qcu;rw [ha,Nat.add_sub_cancel,hb,List.drop_eq_getElem_cons hk];rfl
theorem rise_end (l:List Str) (k:Nat) (h:l.length<=k):qcu l k=true:=by
 unfold qcu;rw [List.drop_eq_nil_of_le h];cases l[k-1]? <;> rfl
end
section
open Go.RowKit Ck
theorem qmy (s:PSchema) (v:PSvc) (i:Nat) (m:PMeth):(methP s v i m).length<=5:=by
 unfold methP noted;exact qao (qao (qao (qao (un_len _ _ _ _) (un_len _ _ _ _)) (un_len _ _ _ _)) (un_len _ _ _ _)) (un_len _ _ _ _)
theorem VMeth.len (w:World) (vs:List Value) (x:PMeth) (h:VMeth w vs x):vs.length=5:=by
 obtain⟨_,rfl,_⟩:=h;rfl
end
section
open Go.RowKit Ck
end
section
open Go.RowKit Ck
section
variable {w : World} {c : Array Value} {vs : Nat → Value} {xs : Nat → List Str} {wr : World}
end
end
section
open Go.RowKit Ck
theorem qap {w:World} {B:Nat} {e:TypeId} {z:Nat} {v:Value} {n:Nat} {xs:List Value} (h:w.ownsRow B e z v n xs) : ∃(q:Option Addr) (c:Nat),v=.slice q n c:=by
 rcases h.2 with⟨h1,h2⟩|⟨g,cap,cur,h1,_⟩
 ·exact⟨none,0,by rw [h1,h2]⟩
 ·exact⟨_,cap,h1⟩
end
section
open Go.RowKit Ck
theorem run_app {w:World} (ty:TypeId) (B C:Nat) (v v2:Value) (n m:Nat) (xs news:List Value) (hown:w.ownsRow B 153 3 v n xs) (hown2:w.ownsRow C 153 3 v2 m news) (h1 : ∀u ∈ news,u.oneCell'=true) (hnm:n+m<=4000000000) (hB:B<=w.heap.size) :
  ∃(q:Option Addr) (cap:Nat) (w':World),(Builtin.append_ #[92,92] ty #[v,v2]).run Tryz.prog w=.ok (.slice q (n+m) cap) w'/\w'.ownsRow B 153 3 (.slice q (n+m) cap) (n+m) (xs ++ news)/\w.grownBy w' v.ownBlock/\∀g,(Value.slice q (n+m) cap).ownBlock=some g->v.ownBlock=some g ∨ g=w.heap.size:=by
 obtain⟨i0,hi,hz0,hz1,hz2⟩:=info_parts qid;cases m with
 | zero=>
  have hnews:news=[]:=by have:=hown2.1;simpa using this
  subst hnews;rw [List.append_nil];have hgr:w.grownBy w v.ownBlock:=⟨rfl,rfl,rfl,Nat.le_refl _,fun k _ _=>rfl⟩;rcases hown2.2 with⟨rfl,_⟩|⟨g2,c2,cur2,rfl,_,hg2,hc2,_⟩
  ·have hrun:=run_append_owned_none (P:=Tryz.prog) (w:=w) B 92 ty 153 i0 3 Tryz.underlying92 hi v n xs hown
   rcases hown.2 with⟨rfl,rfl⟩|⟨g,cap,cur,rfl,_⟩
   ·exact⟨none,0,w,hrun,hown,hgr,fun g h=>by simp [Value.ownBlock]at h⟩
   ·exact⟨some ⟨g,0,none⟩,cap,w,hrun,hown,hgr,fun g h=>.inl h⟩
  ·have hsrc:Src Tryz.prog i0.size 92 (.slice (some ⟨g2,0,none⟩) 0 c2) 0 [] w:=by
    exact Src.ofSlice w Tryz.underlying92 ⟨g2,0,none⟩ 0 c2 [] (by simp) (fun j u h=>by simp at h) (fun u h=>by cases h)
   rcases hown.2 with⟨rfl,rfl⟩|⟨g,cap,cur,rfl,_,_,hc,_⟩
   ·exact⟨none,0,w,run_append_nothing w _ _ _ _ i0 Tryz.underlying92 hi none 0 0 (Nat.le_refl _) _ hsrc,hown,hgr,fun g h=>by simp [Value.ownBlock]at h⟩
   ·exact⟨some ⟨g,0,none⟩,cap,w,run_append_nothing w _ _ _ _ i0 Tryz.underlying92 hi (some ⟨g,0,none⟩) n cap hc _ hsrc,hown,hgr,fun g h=>.inl h⟩
 | succ m=>
  rcases hown2.2 with⟨_,h⟩|⟨g2,c2,cur2,rfl,_,hg2,hc2,_⟩
  ·omega
  ·obtain⟨g,cap,w',hr,q1,q2,q3,q4⟩:=run_append_lies (P:=Tryz.prog) w 92 ty B 153 i0 (.agg #[.string ByteArray.empty,.int .i64 0,.int .i64 0]) 3 32 Tryz.underlying92 hi hz0 hz1 hz2 rfl (by decide) v n xs hown ⟨g2,0,none⟩ (m+1) c2 news hown2.1 (fun j u hu=>hown2.cells (g:=g2) rfl j u hu) h1 (by omega) (by unfold maxLen;omega) (by omega) hB w.heap.size rfl
   exact⟨some ⟨g,0,none⟩,cap,w',hr,q1,q2,fun g' h=>by
    have hgg:g=g':=by simpa [Value.ownBlock]using h
    subst hgg
    exact q3⟩
theorem qh7 {ops:Array Oper} {o:Oper} {a:Act} {w:World} {K:Act->World->Prop} {Q:Exit->Act->World->Prop} {E:Prop} (hgd:o.guard=none) (s x:Operand)
  (ho:o.op=.call { callee:=.builtin .append,args:=#[s,x],argTypes:=#[92,92] })
  (B C:Nat) (v v2:Value) (n m:Nat) (xs news:List Value) (hs:a.eval s=v) (hx:a.eval x=v2) (hown:w.ownsRow B 153 3 v n xs) (hown2:w.ownsRow C 153 3 v2 m news) (h1 : ∀u ∈ news,u.oneCell'=true) (hnm:n+m<=4000000000) (hB:B<=w.heap.size)
  (h : ∀(q:Option Addr) (cap:Nat) (w':World),w'.ownsRow B 153 3 (.slice q (n+m) cap) (n+m) (xs ++ news)->w.grownBy w' v.ownBlock->(∀g,(Value.slice q (n+m) cap).ownBlock=some g->v.ownBlock=some g ∨ g=w.heap.size)->K (a.put o.dst (.slice q (n+m) cap)) w') :
  if Region.wanted o (yielded ops a.tmps)=true then Oper.wp Tryz.prog o a w K Q else E:=by
 have hw:Region.wanted o (yielded ops a.tmps)=true:=by simp [Region.wanted,hgd]
 rw [if_pos hw];obtain⟨q,cap,w',hr,h2,h3,h4⟩:=run_app (w:=w) o.type B C v v2 n m xs news hown hown2 h1 hnm hB;unfold Oper.wp execOp;simp only [ho,resolve,invoke,builtin,Sem.run_bind,Sem.run_pure,Result.andThen_ok,List.map_toArray,List.map_cons,List.map_nil,hs,hx,hr];exact h q cap w' h2 h3 h4
theorem qhf (ps:List PProb) : ∀u ∈ ps.flatMap probC,u.oneCell'=true:=by
 intro u hu;rw [List.mem_flatMap]at hu;obtain⟨p,_,hp⟩:=hu;unfold probC at hp;simp only [List.mem_cons,List.not_mem_nil,or_false]at hp;rcases hp with rfl|rfl|rfl <;> rfl
section
variable {w0 : World} {fb : Nat} {d : Str} {num : Int} {w : World} {bl : List (Nat × Array Value × TypeId)} {N : Nat} {ps : List PProb} {wx : World}
end
end
section
open Go.RowKit Ck
def Short (s:PSchema):Prop:=
 (∀m ∈ s.msgs,m.name.length<=100000000/\m.fields.length<=2000000/\m.res.length<=2000000/\m.gone.length<=2000000/\(∀f ∈ m.fields,f.name.length<=1000000000/\f.un.length<=1000000000000000/\f.tn.length<=1000000000/\∀n ∈ f.notes,n.name.length<=1000000000)/\(∀g ∈ m.gone,g.length<=1000000000)/\∀n ∈ m.notes,n.name.length<=1000000000) ∧
 (∀e ∈ s.enums,e.name.length<=100000000/\e.items.length<=2000000/\e.res.length<=2000000/\(∀f ∈ e.items,f.name.length<=1000000000/\∀n ∈ f.notes,n.name.length<=1000000000)/\∀n ∈ e.notes,n.name.length<=1000000000) ∧
 (∀v ∈ s.svcs,v.name.length<=100000000/\v.meths.length<=2000000/\(∀f ∈ v.meths,f.name.length<=1000000000/\∀n ∈ f.notes,n.name.length<=1000000000)/\∀n ∈ v.notes,n.name.length<=1000000000) ∧
 (s.msgs.length<=900/\s.enums.length<=1000000000/\s.svcs.length<=1000000000)/\(Ck.all s).length<=1000000000
def headN (a b c:List Str):Nat->List PProb
 | 0 => []
 | 1=>listP a
 | 2=>listP a ++ listP b
 | _=>listP a ++ listP b ++ listP c
theorem qhm (l:List Str):listP l=un [] (-1) (decide (l.length<=64)) 3 ++ un [] (-1) (qgb l) 11:=rfl
theorem qky {w w':World} {B fb:Nat} {e:TypeId} {v:Value} {n:Nat} {xs:List Value} (h:w.ownsRow B e 1 v n xs) (k:Lib.OthersKept 153 (some fb) w w') (he:e ≠ 153) (hb:fb<B):w'.ownsRow B e 1 v n xs:=by
 refine⟨h.1,?_⟩;rcases h.2 with hn|⟨g,cap,cur,h1,h2,h3,rest⟩
 ·exact .inl hn
 ·exact .inr ⟨g,cap,cur,h1,h2,qe8 k h3 (fun e=>by injection e;omega) he,rest⟩
end
section
open Go.RowKit Ck
end
section
open Go.RowKit Ck Md
structure MB (s:PSchema):Prop where
 m : ∀m ∈ s.msgs,m.name.length<=120/\m.fields.length<=64/\∀f ∈ m.fields,f.name.length<=40/\f.un.length<=40
 e : ∀e ∈ s.enums,e.name.length<=120/\e.items.length<=64/\∀f ∈ e.items,f.name.length<=40
 v : ∀v ∈ s.svcs,v.name.length<=120/\v.meths.length<=64/\∀f ∈ v.meths,f.name.length<=40
 lm:s.msgs.length<=64
 le:s.enums.length<=64
 lv:s.svcs.length<=64
def nmB (B:Nat) (D:List PDecl):Prop := ∀d ∈ D,d.name.length<=B
structure Tr where
 d:PDecl
 v:Value
 l:List PMem
section
variable {w0 w w' : World} {g : Nat} {a b c : Value} {D : List PDecl} {M : List Value} {R : List Row} {X : List Box} {bx : Box} {r : Row}
end
end
section
open Go.RowKit Ma
def MaskD (A:Nat->Prop):Nat->World->Value->List PMask->Prop
 | 0,_,v,l=>l=[]/\∃p c,v=.slice p 0 c
 | n+1,w,v,l => ∃p c,v=.slice p l.length c/\l.length<=140737488355328/\l.length<=c/\∀i x,l[i]? = some x->∃b off sv,p=some ⟨b,off,none⟩/\b<w.heap.size/\A b/\w.cell? ⟨b,off+i*2,none⟩=some (.int .i64 x.num)/\w.cell? ⟨b,off+i*2+1,none⟩=some sv/\MaskD A n w sv x.subs
def Keep (A:Nat->Prop) (w w':World):Prop:=w.heap.size<=w'.heap.size/\∀b,A b->b<w.heap.size->w'.heap[b]? = w.heap[b]?
theorem Keep.cell {A:Nat->Prop} {w w':World} (h:Keep A w w') {b o:Nat} {v:Value} (hA:A b) (hv:w.cell? ⟨b,o,none⟩=some v):w'.cell? ⟨b,o,none⟩=some v:=
 (World.cell?_of_block (h.2 b hA (World.block_lt_of_cell? w _ hv))).trans hv
theorem Keep.bel {A:Nat->Prop} {w w':World} (h:Bel w w'):Keep A w w':=⟨h.size,fun b _ hb=>h.out.block b hb⟩
theorem Keep.grown {A:Nat->Prop} {w w':World} {row:Option Nat} (h:w.grownBy w' row) (hA : ∀b,A b->some b ≠ row):Keep A w w':=⟨h.size,fun b hb hl=>h.block b hl (hA b hb)⟩
section
variable {A A' : Nat → Prop}
theorem MaskD.dp : ∀{n:Nat} {w:World} {v:Value} {l:List PMask},MaskD A n w v l->Dp n l
 | 0,_,_,_,h=>h.1
 | n+1,w,v,l,h=>fun x hx=>by
  obtain⟨q,c,_,_,_,hel⟩:=h;obtain⟨i,hi⟩:=List.getElem?_of_mem hx;obtain⟨b,off,sv,_,_,_,_,_,hd⟩:=hel i x hi;exact hd.dp
theorem MaskD.kept : ∀{n:Nat} {w w':World} {v:Value} {l:List PMask},MaskD A n w v l->Keep A w w'->MaskD A n w' v l
 | 0,_,_,_,_,h,_=>h
 | n+1,w,w',v,l,h,k=>by
  obtain⟨p,c,h1,h2,h3,hel⟩:=h;refine⟨p,c,h1,h2,h3,fun i x hx=>?_⟩;obtain⟨b,off,sv,e1,e2,e3,e4,e5,hd⟩:=hel i x hx;exact⟨b,off,sv,e1,Nat.lt_of_lt_of_le e2 k.1,e3,k.cell e3 e4,k.cell e3 e5,hd.kept k⟩
theorem MaskD.bel {n:Nat} {w w':World} {v:Value} {l:List PMask} (h:MaskD A n w v l) (k:Bel w w'):MaskD A n w' v l:=h.kept (Keep.bel k)
theorem MaskD.weak : ∀{n:Nat} {w:World} {v:Value} {l:List PMask},MaskD A n w v l->(∀b,A b->b<w.heap.size->A' b)->MaskD A' n w v l
 | 0,_,_,_,h,_=>h
 | n+1,w,v,l,h,k=>by
  obtain⟨p,c,h1,h2,h3,hel⟩:=h;refine⟨p,c,h1,h2,h3,fun i x hx=>?_⟩;obtain⟨b,off,sv,e1,e2,e3,e4,e5,hd⟩:=hel i x hx;exact⟨b,off,sv,e1,e2,k b e3 e2,e4,e5,hd.weak k⟩
theorem MaskD.form {n:Nat} {w:World} {v:Value} {l:List PMask} (h:MaskD A n w v l) : ∃p c,v=.slice p l.length c:=by
 cases n with
 | zero=>
  obtain⟨rfl,p,c,h⟩:=h;exact⟨p,c,h⟩
 | succ n=>
  obtain⟨p,c,h,_⟩:=h;exact⟨p,c,h⟩
theorem MaskD.empty (n:Nat) (w:World) (p:Option Addr) (c:Nat):MaskD A n w (.slice p 0 c) []:=by
 cases n with
 | zero=>exact⟨rfl,p,c,rfl⟩
 | succ n=>exact⟨p,c,rfl,by simp,by simp,fun i x hx=>by simp at hx⟩
theorem MaskD.nil (n:Nat) (w:World):MaskD A n w (.slice none 0 0) []:=MaskD.empty n w none 0
theorem MaskD.len {n:Nat} {w:World} {v:Value} {l:List PMask} (h:MaskD A n w v l):l.length<=140737488355328:=by
 cases n with
 | zero=>rw [h.1];simp
 | succ n=>
  obtain⟨_,_,_,hl,_⟩:=h;exact hl
theorem MaskD.up : ∀{n:Nat} {w:World} {v:Value} {l:List PMask},MaskD A n w v l->MaskD A (n+1) w v l
 | 0,w,v,l,h=>by
  obtain⟨rfl,p,c,rfl⟩:=h;exact MaskD.empty 1 w p c
 | n+1,w,v,l,h=>by
  obtain⟨p,c,h1,h2,h3,hel⟩:=h;refine⟨p,c,h1,h2,h3,fun i x hx=>?_⟩;obtain⟨b,off,sv,e1,e2,e3,e4,e5,hd⟩:=hel i x hx;exact⟨b,off,sv,e1,e2,e3,e4,e5,hd.up⟩
theorem MaskD.le {n m:Nat} {w:World} {v:Value} {l:List PMask} (h:MaskD A n w v l) (hm:n<=m):MaskD A m w v l:=by
 induction hm with
 | refl=>exact h
 | step _ ih=>exact ih.up
theorem MaskD.ne {n:Nat} {w:World} {v:Value} {l:List PMask} (h:MaskD A n w v l) (hl:l ≠ []):n ≠ 0:=by
 intro e;subst e;exact hl h.1
end
def Wd (B:Nat):Nat->List PMask->Prop
 | 0,_=>True
 | n+1,l=>l.length<=B/\∀x ∈ l,Wd B n x.subs
theorem Wd.mono {B C:Nat} (hB:B<=C) : ∀{n:Nat} {l:List PMask},Wd B n l->Wd C n l
 | 0,_,_=>trivial
 | n+1,l,h=>⟨Nat.le_trans h.1 hB,fun x hx=>(h.2 x hx).mono hB⟩
theorem Wd.find {B n:Nat} {l:List PMask} (h:Wd B (n+1) l) {q:Int} {x:PMask} (hx:find l q=some x):Wd B n x.subs:=h.2 x (qac hx).1
theorem Wd.nil (B:Nat) : ∀n:Nat,Wd B n []
 | 0=>trivial
 | n+1=>⟨by simp,fun x hx=>by cases hx⟩
end
end Go.Proofs.YtaaneecceiefoaaGreatDoor
