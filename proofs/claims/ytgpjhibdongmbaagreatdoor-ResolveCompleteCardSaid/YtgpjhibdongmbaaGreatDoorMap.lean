import Derived.Test.YtgpjhibdongmbaaGreatDoorIdWord
import Derived.Test.YtgpjhibdongmbaaGreatDoorUtfDec
import Derived.Lib.LastIndexByte
import Derived.Lib.OthersKept
import Derived.Test.YtgpjhibdongmbaaGreatDoorShelf
import Derived.Maps.OwnSet
import Derived.Maps.Views
import Derived.StringKeys
set_option maxRecDepth 100000
set_option maxHeartbeats 4000000
set_option linter.unusedVariables false
set_option linter.unusedSimpArgs false
namespace Go.Proofs.YtgpjhibdongmbaaGreatDoor.Id
theorem cut_append (c:UInt8) (b:List UInt8) (hb:c ∉ b) : ∀a:List UInt8,cut c (a ++ c :: b)=cut c a ++ [b]
 | []=>by
  show cut c (c :: b)=[[]] ++ [b]
  rw [cut_hit,cut_none c b hb];rfl
 | x :: a=>by
  have ih:=cut_append c b hb a;by_cases hx:x=c
  ·subst hx
   rw [List.cons_append,cut_hit,cut_hit,ih];rfl
  ·rw [List.cons_append,cut_miss c x _ hx,cut_miss c x _ hx,ih]
   have:=cut_ne c a;cases hc:cut c a with
   | nil=>exact absurd hc this
   | cons p ps=>rfl
theorem isFull_ne {l:List UInt8} (h:isFull l=true):l ≠ []:=by
 intro e;subst e;exact absurd h (by decide)
theorem split_at (l:List UInt8) (i:Nat) (h:lastDot l=i) (hi:i<l.length) (h3:l[i]? = some 46):l=l.take i ++ 46 :: l.drop (i+1):=by
 conv=>lhs;rw [←List.take_append_drop i l]
 rw [List.drop_eq_getElem_cons hi];rw [List.getElem?_eq_getElem hi]at h3;rw [Option.some.inj h3]
theorem full_split {l:List UInt8} (h:isFull l=true):isPart (splitL l).2=true/\join (splitL l).1 (splitL l).2=l/\((splitL l).1 ≠ []->isFull (splitL l).1=true):=by
 unfold isFull at h;simp only [Bool.and_eq_true,decide_eq_true_eq]at h;obtain⟨h1,h2⟩:=h;rcases lastDot_spec l with⟨e,hn⟩|⟨i,e,hi,h3,h4⟩
 ·have hs:splitL l=([],l):=by unfold splitL;rw [if_pos e]
  rw [cut_none 46 l hn]at h1;rw [hs];simp at h1;exact⟨h1,by simp [join],fun h=>absurd rfl h⟩
 ·have hs:splitL l=(l.take i,l.drop (i+1)):=by unfold splitL;rw [if_neg (by omega),e];rfl
  have hl:=split_at l i e hi h3
  have hn:(46:UInt8) ∉ l.drop (i+1):=by
   intro hm;obtain⟨j,hj⟩:=List.mem_iff_getElem?.1 hm;rw [List.getElem?_drop]at hj;exact h4 (i+1+j) (by omega) hj
  have hc:cut 46 l=cut 46 (l.take i) ++ [l.drop (i+1)]:=by
   conv=>lhs;rw [hl]
   exact cut_append 46 _ hn _
  rw [hc,List.all_append]at h1;simp only [Bool.and_eq_true]at h1
  have ha:l.take i ≠ []:=by
   intro e0;rw [e0]at h1;exact absurd h1.1 (by decide)
  rw [hs];refine⟨by simpa using h1.2,?_,fun _=>?_⟩
  ·show join (l.take i) (l.drop (i+1))=l
   unfold join;rw [if_neg ha];exact hl.symm
  ·unfold isFull
   simp only [Bool.and_eq_true,decide_eq_true_eq];refine⟨h1.1,?_⟩;show(l.take i).length<=120
   rw [List.length_take];omega
theorem u8_all (p:UInt8->Bool) (h : ∀b:Fin 256,p (UInt8.ofNat b.val)=true) (b:UInt8):p b=true:=by
 have:=h ⟨b.toNat,b.toNat_lt⟩
 simpa using this
end Go.Proofs.YtgpjhibdongmbaaGreatDoor.Id
namespace Go.Proofs.YtgpjhibdongmbaaGreatDoor
section
open Go.RowKit
theorem okB_pre (a b:List UInt8) (h:Id.okB (a ++ b)=true):Id.okB a=true:=by
 cases a with
 | nil=>rfl
 | cons x a=>
  simp only [List.cons_append,Id.okB,List.all_append,Bool.and_eq_true]at h ⊢;exact⟨h.1,h.2.1⟩
theorem okB_snoc (l:List UInt8) (b:UInt8):Id.okB (l ++ [b])=(Id.okB l && if l=[]then Id.letB b else Id.nmB b):=by
 cases l with
 | nil=>simp [Id.okB]
 | cons x a=>
  simp only [List.cons_append,Id.okB,List.all_append,List.all_cons,List.all_nil,Bool.and_true];rw [if_neg (by simp),Bool.and_assoc]
theorem take_one (l:List UInt8) (k:Nat) (b:UInt8) (h:l[k]? = some b):l.take (k+1)=l.take k ++ [b]:=by
 obtain⟨hk,rfl⟩:=List.getElem?_eq_some_iff.1 h;exact List.take_succ_eq_append_getElem hk
theorem qeu (l:List UInt8) (k:Nat) (b:UInt8) (h:l[k]? = some b):Id.okB (l.take (k+1))=(Id.okB (l.take k) && if k=0 then Id.letB b else Id.nmB b):=by
 rw [take_one l k b h,okB_snoc]
 congr 1
 have hk:k<l.length:=(List.getElem?_eq_some_iff.1 h).1;by_cases h0:k=0
 ·subst h0;simp
 ·rw [if_neg (fun e=>h0 (by have:=congrArg List.length e;simp only [List.length_take,List.length_nil]at this;omega)),if_neg h0]
theorem qhh (l:List UInt8) (k:Nat) (b:UInt8) (h:l[k]? = some b) (hb:(if k=0 then Id.letB b else Id.nmB b)=false):Id.isPart l=false:=by
 have h1:=qeu l k b h;rw [hb,Bool.and_false]at h1;cases he:Id.okB l
 ·simp [Id.isPart,he]
 ·rw [←List.take_append_drop (k+1) l]at he
  rw [okB_pre _ _ he]at h1;cases h1
theorem qfu (l:List UInt8) (h:Id.okB l=true):Id.isPart l=(decide (1<=l.length) && decide (l.length<=40)):=by
 unfold Id.isPart;rw [h,Bool.true_and,Bool.eq_iff_iff];simp
theorem nm_cls (b:UInt8):Id.nmB b=decide (Id.cls b.toNat ≠ 0):=rfl
theorem let_cls (b:UInt8):Id.letB b=decide (Id.cls b.toNat=1 ∨ Id.cls b.toNat=2):=by
 unfold Id.letB;rw [Id.bcls];cases h1:Id.smB b <;> cases h2:Id.caB b <;> simp
 (repeat' split) <;> simp
theorem ql3 (c:Int) (h:128<=c):Id.cls c=0:=by
 unfold Id.cls
 (repeat' split) <;> omega
theorem nm_high (b:UInt8) (h:128<=b.toNat) (k:Nat):(if k=0 then Id.letB b else Id.nmB b)=false:=by
 have:=ql3 b.toNat (by omega);rw [let_cls,nm_cls,this]
 split <;> rfl
end
section
open Go.RowKit
theorem id_class (c:Int) (w:World):Calls Tryz.prog 200 #[.int .i32 c] w fun e w'=>e=.returned (.int .i64 (Id.cls c))/\w=w':=by
  go_enter Tryz.func200,Tryz.ntmps200
  go_wp2
  all_goals go_ret
  all_goals
    refine⟨qaf ?_,rfl⟩
    (try simp only [beq_iff_eq,beq_eq_false_iff_ne,ne_eq]at *)
    unfold Id.cls
    (repeat' split) <;> omega
theorem qbt {B:Nat} {w:World} (h:B<=w.heap.size) (s:ByteArray) (pos:Nat):Below B w (w.iter s pos):=by
  have:=(Below.refl B w).alloc h (.stringIter s pos);exact this
theorem qhz (s:ByteArray) (l:List UInt8) (w:World) (hl:s.data.toList=l) (hs:s.size<=1000000000000000) :
    Calls Tryz.prog 176 #[.string s] w fun e w'=>e=.returned (.bool (Id.isPart l))/\Below w.heap.size w w':=by
  have hsz:=Lib.hid (len_l s);have c:=Lib.hid (fun c W=>id_class c W);have H:=Lib.hid hl;clear hl
  go_enter Tryz.func176,Tryz.ntmps176
  go_wp2
  go_loopw [] (fun w' => ∃pos:Nat,w'=w.iter s pos/\pos<=s.size/\Hid (Id.okB (l.take pos)=true)) (fun w'=>s.size-w'.iterPos w.heap.size)
  case atStart=>exact⟨0,rfl,by omega,Lib.hid rfl⟩
  case round=>
    obtain⟨pos,rfl,hps,hok⟩:=hrel;by_cases hp:pos<s.size
    · have hg:l[pos]? = some (s[pos]'hp):=by rw [←H.out];exact get_l s pos hp
      have hg':=Lib.hid hg;clear hg;by_cases ha:(s[pos]'hp).toNat<128
      · have hnx : ∀ty,(Instr.next (.pointer (some ⟨w.heap.size,0,none⟩)) true ty).run Tryz.prog (w.iter s pos)=_:=fun ty=>run_next_ascii w s pos ty hp ha
        have hcl:=let_cls (s[pos]'hp);have hnm:=nm_cls (s[pos]'hp);have hb:=qhh l pos _ hg'.out;have ht:=qeu l pos _ hg'.out;rw [hok.out,Bool.true_and]at ht;rw [hcl,hnm]at hb ht;have hb':=Lib.hid hb;have ht':=Lib.hid ht;clear hb ht hcl hnm;generalize hK:Id.cls ((s[pos]'hp).toNat:Int)=K at hb' ht'
        have cc : ∀W,Calls Tryz.prog 200 #[.int .i32 ((s[pos]'hp).toNat:Int)] W fun e w'=>e=.returned (.int .i64 K)/\W=w':=fun W=>by
          have:=c.out ((s[pos]'hp).toNat:Int) W;rw [hK]at this;exact this
        have cc':=Lib.hid cc;clear cc hK;have ends : ∀(b:Bool),(if pos=0 then decide (K=1 ∨ K=2)else decide (K ≠ 0))=false->b=false->Ending.returned (Value.bool b)=.returned (.bool (Id.isPart l)):=fun b h1 h2=>by rw [h2,hb'.out h1]
        have goes:(if pos=0 then decide (K=1 ∨ K=2)else decide (K ≠ 0))=true->Hid (Id.okB (l.take (pos+1))=true):=fun h=>Lib.hid (ht'.out.trans h)
        clear hb' ht';by_cases h0:pos=0
        · subst h0
          have h0':(((0:Nat):Int) == 0)=true:=rfl;rw [if_pos rfl]at ends goes;have E:=Lib.hid ends;have G:=Lib.hid goes;clear ends goes
          go_wp2_with (go_at_call 200;(with_reducible refine(cc'.out _).mono ?_);rintro e w' ⟨rfl,rfl⟩)
          all_goals first
            | (go_ret;exact⟨E.out _ (by simp_all) rfl,qbt (Nat.le_refl _) _ _⟩)
            | (go_roundw
               case rel=>exact⟨1,rfl,by omega,G.out (by simp_all)⟩
               case measure=>simp;omega)
        · have h0':((pos:Int) == 0)=false:=by simpa using h0
          rw [if_neg h0]at ends goes;have E:=Lib.hid ends;have G:=Lib.hid goes;clear ends goes
          go_wp2_with (go_at_call 200;(with_reducible refine(cc'.out _).mono ?_);rintro e w' ⟨rfl,rfl⟩)
          all_goals first
            | (go_ret;exact⟨E.out _ (by simp_all) rfl,qbt (Nat.le_refl _) _ _⟩)
            | (go_roundw
               case rel=>exact⟨pos+1,rfl,by omega,G.out (by simp_all)⟩
               case measure=>simp;omega)
      · have hnx : ∀ty,(Instr.next (.pointer (some ⟨w.heap.size,0,none⟩)) true ty).run Tryz.prog (w.iter s pos)=_:=fun ty=>run_next_any w s pos ty hp
        have hd:=decode_high s pos hp (by omega);generalize (Utf8.decode s pos).1=r at hnx hd;generalize (Utf8.decode s pos).2=wd at hnx hd
        have cc : ∀W,Calls Tryz.prog 200 #[.int .i32 (r:Int)] W fun e w'=>e=.returned (.int .i64 0)/\W=w':=fun W=>by
          have:=c.out (r:Int) W;rw [ql3 (r:Int) (by omega)]at this;exact this
        have cc':=Lib.hid cc;clear cc;have hf:=Lib.hid (qhh l pos _ hg'.out (nm_high _ (by omega) pos))
        go_wp2_with (go_at_call 200;(with_reducible refine(cc'.out _).mono ?_);rintro e w' ⟨rfl,rfl⟩)
        all_goals (go_ret;exact⟨qa3 hf.out.symm,qbt (Nat.le_refl _) _ _⟩)
    · have hnx : ∀ty,(Instr.next (.pointer (some ⟨w.heap.size,0,none⟩)) true ty).run Tryz.prog (w.iter s pos)=_:=fun ty=>run_next_end w s pos ty hp
      have hln:l.length=s.size:=by rw [←H.out];exact hsz.out
      have hfin:=qfu l (by have:=hok.out;rwa [List.take_of_length_le (by omega)]at this);rw [hln]at hfin;have F:=Lib.hid hfin;clear hfin hln;by_cases h1:1<=s.size
      · have F':Hid (Id.isPart l=decide (s.size<=40)):=Lib.hid (by rw [F.out,decide_eq_true h1,Bool.true_and])
        clear F;go_wp2
        all_goals go_ret
        all_goals exact⟨qa3 (by rw [F'.out,Bool.eq_iff_iff];simp;omega),qbt (Nat.le_refl _) _ _⟩
      · have F':Hid (Id.isPart l=false):=Lib.hid (by rw [F.out,decide_eq_false h1,Bool.false_and])
        clear F;go_wp2
        all_goals go_ret
        all_goals exact⟨qa3 F'.out.symm,qbt (Nat.le_refl _) _ _⟩
end
section
open Go.RowKit
def Strs (w:World) (v:Value) (ks:List (List UInt8)):Prop:=
 (ks=[]/\∃(a:Option Addr) (c:Nat),v=.slice a 0 c) ∨ ∃b off c:Nat,v=.slice (some ⟨b,off,none⟩) ks.length c/\ks.length<=140737488355328/\b<w.heap.size/\∀j k,ks[j]? = some k->w.cell? ⟨b,off+j,none⟩=some (.string (S k))
theorem Strs.below {w w':World} {v:Value} {ks:List (List UInt8)} (h:Strs w v ks) (hb:Below w.heap.size w w'):Strs w' v ks:=by
 rcases h with h|⟨b,off,c,h1,h2,h3,h4⟩
 ·exact .inl h
 ·exact .inr ⟨b,off,c,h1,h2,Nat.lt_of_lt_of_le h3 hb.size,fun j k hk=>by rw [hb.cell h3];exact h4 j k hk⟩
def strV (k:List UInt8):Value:=.string (S k)
end
section
open Go.RowKit
theorem word_of (l:List UInt8) (h:l ∈ Id.words):Id.isWord l=true:=decide_eq_true h
theorem qhy (s:ByteArray) (l:List UInt8) (w:World) (hl:s.data.toList=l) :
  Calls Tryz.prog 174 #[.string s] w fun e w'=>e=.returned (.bool (Id.isWord l))/\w=w':=by
 have hb:s.toList=l:=by rw [ByteArray.toList_eq];exact hl
 have H:=Lib.hid hb;clear hl hb
 go_enter Tryz.func174,Tryz.ntmps174
 go_wp2
 all_goals go_ret
 all_goals
  refine⟨qa3 ?_,rfl⟩;simp only [H.out,beq_iff_eq,beq_eq_false_iff_ne,ne_eq]at *
  first
  | contradiction
  | (symm;apply word_of;subst l;decide)
  | (symm;apply decide_eq_false;simp only [Id.words,List.mem_cons,List.not_mem_nil,or_false,not_or];(repeat' (first|assumption|apply And.intro));done)
def ML (w:World):Prop := ∃m:Int,w.cell? ⟨4,0,none⟩=some (.int .i64 m)
theorem ML.below {w w':World} (h:ML w) (hb:Below w.heap.size w w'):ML w':=by
 obtain⟨m,hm⟩:=h;exact⟨m,by rw [hb.cell (World.block_lt_of_cell? w _ hm)];exact hm⟩
theorem qi9 (c:UInt8) : ∀l:List UInt8,(Id.cut c l).length=Lib.count l [c]+1
 | []=>by
  rw [Lib.count_miss (by simp [Lib.index])];rfl
 | b :: r=>by
  have ih:=qi9 c r;by_cases hb:c=b
  ·subst hb
   have hi:Lib.index (c :: r) [c]=((0:Nat):Int):=by unfold Lib.index;simp [List.isPrefixOf]
   rw [Lib.count_hit (by simp) hi,Id.cut_hit];simp only [List.length_cons,List.length_nil,Nat.zero_add,List.drop_succ_cons,List.drop_zero,ih];omega
  ·have hp:([c].isPrefixOf (b :: r))=false:=by simp [List.isPrefixOf,hb]
   rw [Id.cut_miss c b r (fun e=>hb e.symm)]
   have hoh : ∀x:List (List UInt8),x ≠ []->(Id.onHead b x).length=x.length:=by
    intro x hx;cases x with
    | nil=>exact absurd rfl hx
    | cons p ps=>rfl
   rw [hoh _ (Id.cut_ne c r),ih];rcases Id.idx_one c r with⟨h1,h2⟩|h
   ·have hi:Lib.index (b :: r) [c] = -1:=by
     unfold Lib.index;rw [if_neg (by simp [hp]),if_pos (by simp [h1])]
    rw [Lib.count_miss hi,Lib.count_miss h1]
   ·obtain⟨i,hi⟩:=Int.eq_ofNat_of_zero_le h
    have hi':Lib.index r [c]=(i:Int):=hi
    have hi2:Lib.index (b :: r) [c]=((i+1:Nat):Int):=by
     unfold Lib.index;rw [if_neg (by simp [hp]),if_neg (by simp;omega),hi'];rfl
    rw [Lib.count_hit (by simp) hi',Lib.count_hit (by simp) hi2];rfl
theorem qg9 (s:ByteArray) (c:UInt8) (l:List UInt8) (hl:s.data.toList=l):Lib.splitB (S [c]) 0 (Lib.countB s (S [c])) s=(Id.cut c l).map S:=by
 have h:=Lib.splitB_data (S [c]) 0 (Lib.countB s (S [c])) s;have h2:=Id.split_cut c s.data.toList;have h3:Lib.splitK (S [c]).data.toList 0 (Lib.countB s (S [c])) s.data.toList=Id.cut c s.data.toList:=h2;rw [h3,hl]at h;rw [←h,List.map_map];have:(S ∘ fun x:ByteArray=>x.data.toList)=id:=by funext x;rfl
 rw [this,List.map_id]
theorem qik (s:ByteArray) (c:UInt8) (l:List UInt8) (hl:s.data.toList=l):Lib.countB s (S [c])+1=(Id.cut c l).length:=by
 rw [qi9, ←hl];rfl
theorem qkt (s:ByteArray) (c:UInt8) (l:List UInt8) (w:World) (hl:s.data.toList=l) (hs:s.size<=1000000000) (hM:ML w) :
  Calls Tryz.prog 173 #[.string s,.string ⟨#[c]⟩] w fun e w'=>e=.returned (.slice (some ⟨w.heap.size,0,none⟩) (Id.cut c l).length (Id.cut c l).length)/\w'=w.alloc (.cells ((Id.cut c l).map strV).toArray 9):=by
 obtain⟨m,hm⟩:=hM;refine(Tryz.strings_Split s (S [c]) m w (by omega) hm (by rw [qaj];simp)).mono ?_;rintro e w' ⟨rfl,rfl⟩;rw [qik s c l hl,qg9 s c l hl,List.map_map];exact⟨rfl,rfl⟩
theorem qfy (c:UInt8) : ∀(l:List UInt8) (p:List UInt8),p ∈ Id.cut c l->p.length<=l.length
 | [],p,h=>by
  simp [Id.cut]at h;subst h;simp
 | b :: r,p,h=>by
  by_cases hb:b=c
  ·subst hb
   rw [Id.cut_hit]at h;rcases List.mem_cons.1 h with rfl|h
   ·simp
   ·have:=qfy b r p h
    simp only [List.length_cons];omega
  ·rw [Id.cut_miss c b r hb]at h
   have hn:=Id.cut_ne c r;cases hc:Id.cut c r with
   | nil=>exact absurd hc hn
   | cons q qs=>
    rw [hc]at h;rcases List.mem_cons.1 h with rfl|h
    ·have:=qfy c r q (by rw [hc];simp)
     simp only [List.length_cons];omega
    ·have:=qfy c r p (by rw [hc];simp [h])
     simp only [List.length_cons];omega
theorem qgs (c:UInt8) : ∀(l:List UInt8),(Id.cut c l).length<=l.length+1
 | []=>by simp [Id.cut]
 | b :: r=>by
  have:=qgs c r;by_cases hb:b=c
  ·subst hb
   rw [Id.cut_hit];simp only [List.length_cons];omega
  ·rw [Id.cut_miss c b r hb]
   have hn:=Id.cut_ne c r;cases hc:Id.cut c r with
   | nil=>exact absurd hc hn
   | cons q qs=>
    rw [hc]at this;simp only [Id.onHead,List.length_cons]at this ⊢;omega
theorem qfo (w:World) (P:List (List UInt8)) (t:TypeId) (k:Nat) (p:List UInt8) (h:P[k]? = some p):(w.alloc (.cells (P.map strV).toArray t)).cell? ⟨w.heap.size,k,none⟩=some (.string (S p)):=by
 rw [World.cell?_alloc_at _ _ _ _ rfl,List.getElem?_toArray,List.getElem?_map,h];rfl
theorem qmh (s:ByteArray) (l:List UInt8) (w:World) (hl:s.data.toList=l) (hs:s.size<=100000000) (hM:ML w) :
  Calls Tryz.prog 171 #[.string s] w fun e w'=>e=.returned (.bool (Id.isFull l))/\Below w.heap.size w w':=by
 have c:=Lib.hid (qkt s 46 l w hl (by omega) hM);have hlen:l.length=s.size:=by rw [←hl];exact len_l s
 have hpl : ∀p,p ∈ Id.cut 46 l->p.length<=s.size:=fun p hp=>by have:=qfy 46 l p hp;omega
 have hpm:=qgs 46 l;have hv:Id.isFull l=((Id.cut 46 l).all Id.isPart && decide (s.size<=120)):=by unfold Id.isFull;rw [hlen]
 generalize Id.cut 46 l=P at c hpl hpm hv;have V:=Lib.hid hv;have PL:=Lib.hid hpl;clear hv hpl hl;have hcl:=Lib.hid (qfo w P 9)
 go_enter Tryz.func171,Tryz.ntmps171
 go_wp2_with (go_at_call 173;(with_reducible refine c.out.mono ?_);rintro e w' ⟨rfl,rfl⟩)
 go_loopw [8] (fun i wr => ∃k:Nat,k<=P.length/\i=.int .i64 k/\Below (w.heap.size+1) (w.alloc (.cells (P.map strV).toArray 9)) wr/\Hid ((P.take k).all Id.isPart=true)) (fun i _=>P.length-(intOf i).toNat)
 case atStart=>exact⟨0,by omega,rfl,Below.refl _ _,Lib.hid rfl⟩
 case round=>
  obtain⟨k,hk,rfl,hb,hok⟩:=hrel;have hbw:Below w.heap.size w wr:=((Below.refl _ _).alloc (Nat.le_refl _) _).trans (hb.mono (by omega));by_cases hlt:k<P.length
  ·have hg:P[k]? = some P[k]:=List.getElem?_eq_getElem hlt
   have hcell:wr.cell? ⟨w.heap.size,k,none⟩=some (.string (S P[k])):=by
    rw [hb.cell (p:=⟨w.heap.size,k,none⟩) (Nat.lt_succ_self _)];exact hcl.out k _ hg
   have hpk:=PL.out _ (List.getElem_mem hlt);have cc:=fun W=>qhz (S P[k]) P[k] W rfl (by rw [qaj];omega)
   have htk:(P.take (k+1)).all Id.isPart=((P.take k).all Id.isPart && Id.isPart P[k]):=by
    rw [List.take_succ_eq_append_getElem hlt,List.all_append];simp
   have T:=Lib.hid htk
   have hall:Id.isPart P[k]=false->P.all Id.isPart=false:=by
    intro h;cases ha:P.all Id.isPart
    ·rfl
    ·rw [List.all_eq_true.1 ha _ (List.getElem_mem hlt)]at h
     cases h
   have A:=Lib.hid hall;clear htk hall hg;generalize P[k]=p at cc T A hcell hpk;cases hp:Id.isPart p
   ·rw [hp]at cc
    have cc':=Lib.hid cc;have hf:=Lib.hid (A.out hp);clear cc hp
    go_wp2_with (go_at_call 176;(with_reducible refine(cc'.out _).mono ?_);rintro e w' ⟨rfl,hb2⟩)
    go_ret;exact⟨qa3 (by rw [V.out,hf.out];rfl),hbw.trans (hb2.mono hbw.size)⟩
   ·rw [hp]at cc
    have cc':=Lib.hid cc;have hp':=Lib.hid hp;clear cc hp
    go_wp2_with (go_at_call 176;(with_reducible refine(cc'.out _).mono ?_);rintro e w' ⟨rfl,hb2⟩)
    go_roundw
    case rel=>exact⟨k+1,by omega,by go_num,hb.trans (hb2.mono (by have:=hb.size;simpa using this)),Lib.hid (by rw [T.out,hok.out,hp'.out];rfl)⟩
    case measure=>simp [intOf];omega
  ·have hk':k=P.length:=by omega
   have hfin:P.all Id.isPart=true:=by have:=hok.out;rwa [List.take_of_length_le (by omega)]at this
   have F:=Lib.hid hfin;subst hk';clear hfin;go_wp2;go_ret;exact⟨qa3 (by rw [V.out,F.out,Bool.true_and,Bool.eq_iff_iff];simp;omega),hbw⟩
end
section
open Go.RowKit Go.Maps Go.WideMaps
theorem qg8:Keyed Tryz.prog 9:=string_keyed Tryz.underlying9
section
variable {H : Type} {R : Value → Option (DataW H × List MemPlace)} {w : World} {b n : Nat} {f : List UInt8 → Option (DataW H)}
def MapIs (R:Value->Option (DataW H × List MemPlace)) (w:World) (b n:Nat) (f:List UInt8->Option (DataW H)):Prop:=
 ∃D:DataW H,w.ownsMap Tryz.prog 9 R b n D/\IsMap D/\∀k,has D (.string k)=(f k).isSome/\∀z,D.atKey (.string k) z=(f k).getD z
theorem MapIs.made (w:World) (R:Value->Option (DataW H × List MemPlace)):MapIs R (w.alloc (.map #[] 0)) w.heap.size 0 (fun _=>none):=
 ⟨.map [],World.ownsMap_made w _ _ _,⟨[],rfl⟩,fun k=>⟨rfl,fun z=>rfl⟩⟩
theorem MapIs.lt (h:MapIs R w b n f):b<w.heap.size:=by obtain⟨D,h1,_⟩:=h;exact h1.lt
theorem MapIs.block {w':World} (h:MapIs R w b n f) (hb:w'.heap[b]? = w.heap[b]?):MapIs R w' b n f:=by
 obtain⟨D,⟨es,clock,h1,F,hs,hD⟩,h2,h3⟩:=h;exact⟨D,⟨es,clock,hb.trans h1,F,hs,hD⟩,h2,h3⟩
theorem MapIs.bel {w':World} (h:MapIs R w b n f) (k:Bel w w'):MapIs R w' b n f:=h.block (Below.block k b h.lt)
theorem strKey (k:List UInt8) (hk:k.length<=1000000000):keyOf Tryz.prog 9 (.string (S k))=some (.string k):=
 keyOf_string_mk Tryz.underlying9 (s:=S k) (by rw [qaj];unfold maxLen;omega)
theorem MapIs.put_of {w':World} {D:DataW H} {key:List UInt8} {d:DataW H} {n':Nat} (hD:IsMap D) (hf : ∀k,has D (.string k)=(f k).isSome/\∀z,D.atKey (.string k) z=(f k).getD z)
  (hown:w'.ownsMap Tryz.prog 9 R b n' (D.put (.string key) d)):MapIs R w' b n' (fun k=>if k=key then some d else f k):=by
 refine⟨_,hown,hD.put _ _,fun k=>?_⟩;by_cases hk:k=key
 ·subst hk
  simp only [if_true];exact⟨has_put_same (k:=.string k) hD trivial d,fun z=>atKey_put_same (k:=.string k) hD trivial d z⟩
 ·have hne:Lit.string k ≠ Lit.string key:=fun e=>hk (by injection e)
  simp only [hk,if_false];exact⟨(has_put_other hne d).trans (hf k).1,fun z=>(atKey_put_other hne d z).trans ((hf k).2 z)⟩
end
section
variable {H : Type} {R : Value → Option (DataW H × List MemPlace)} (w : World) {ops : Array Oper} {rest : List Oper} {o : Oper} {a : Act} {Q : Exit → Act → World → Prop}
theorem qa7 (hg:o.guard=none) (m x v:Operand) (t e:TypeId) (hop:o.op=Op.insert t m x v) (ht:Tryz.prog.underlying t=some (.map 9 e)) (b n:Nat) (f:List UInt8->Option (DataW H))
  (hm:a.eval m=.map (some b)) (h:MapIs R w b n f) (hn:n<=1000000) (key:List UInt8) (hkl:key.length<=1000000000) (val:Value) (hx:a.eval x=.string (S key)) (hv:a.eval v=val) (d:DataW H) (ps:List MemPlace) (hval:R val=some (d,ps))
  (hK : ∀w',MapIs R w' b (n+1) (fun k=>if k=key then some d else f k)->w.grownBy w' (some b)->wpList Tryz.prog ops Q rest (a.put o.dst undef) w'):wpList Tryz.prog ops Q (o :: rest) a w:=by
 obtain⟨D,hown,hD,hf⟩:=h;refine wpList_plain hg fun K' hK'=>?_
 obtain⟨w',hrun,r1,r2⟩:=hown.update qg8 ht (by unfold maxLen;omega) (strKey key hkl) hval;unfold Oper.wp;simp [execOp,hop,hm,hx,hv,hrun,Result.andThen];exact hK' _ _ (hK w' (MapIs.put_of hD hf r1) r2)
theorem MapIs.look {w:World} {b n:Nat} {f:List UInt8->Option (DataW H)} (h:MapIs R w b n f) {t e:TypeId} (ht:Tryz.prog.underlying t=some (.map 9 e)) {z:Value} (hz:(zeroValue e).run Tryz.prog w=.ok z w) {zd:DataW H} {zp:List MemPlace} (hzd:R z=some (zd,zp)) (key:List UInt8) (hkl:key.length<=1000000000) :
  ∃v ps,(Instr.lookup t (.map (some b)) (.string (S key)) false).run Tryz.prog w=.ok v w/\R v=some ((f key).getD zd,ps):=by
 obtain⟨D,hown,hD,hf⟩:=h;obtain⟨v,ps,h1,h2⟩:=hown.lookup qg8 ht hz hzd (strKey key hkl);exact⟨v,ps,h1,by rw [h2,(hf key).2]⟩
theorem MapIs.look_ok {w:World} {b n:Nat} {f:List UInt8->Option (DataW H)} (h:MapIs R w b n f) {t e:TypeId} (ht:Tryz.prog.underlying t=some (.map 9 e)) {z:Value} (hz:(zeroValue e).run Tryz.prog w=.ok z w) {zd:DataW H} {zp:List MemPlace} (hzd:R z=some (zd,zp)) (key:List UInt8) (hkl:key.length<=1000000000) :
  ∃v ps,(Instr.lookup t (.map (some b)) (.string (S key)) true).run Tryz.prog w=.ok (.tuple #[v,.bool (f key).isSome]) w/\R v=some ((f key).getD zd,ps):=by
 obtain⟨D,hown,hD,hf⟩:=h;obtain⟨v,ps,h1,h2⟩:=hown.look_ok qg8 ht hz hzd (strKey key hkl);exact⟨v,ps,by rw [h1,(hf key).1],by rw [h2,(hf key).2]⟩
end
end
end Go.Proofs.YtgpjhibdongmbaaGreatDoor
