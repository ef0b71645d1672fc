import Derived.Test.YtfoaaglbpmmhiaaGreatDoorKitA
import Derived.Lib.OthersKept
import Derived.Test.YtfoaaglbpmmhiaaGreatDoorShelf
import Derived.Test.YtfoaaglbpmmhiaaGreatDoorCkSeen
import Derived.Deep.DeepCutAuto
set_option maxRecDepth 100000
set_option maxHeartbeats 4000000
set_option linter.unusedVariables false
set_option linter.unusedSimpArgs false
namespace Go.Proofs.YtfoaaglbpmmhiaaGreatDoor
section
open Go.RowKit
theorem id_class (c:Int) (w:World):Calls Tryz.prog 88 #[.int .i32 c] w fun e w'=>e=.returned (.int .i64 (Id.cls c))/\w=w':=by
  go_enter Tryz.func88,Tryz.ntmps88
  go_wp2
  all_goals go_ret
  all_goals
    refine⟨qar ?_,rfl⟩
    (try simp only [beq_iff_eq,beq_eq_false_iff_ne,ne_eq]at *)
    unfold Id.cls
    (repeat' split) <;> omega
theorem qct {B:Nat} {w:World} (h:B<=w.heap.size) (s:ByteArray) (pos:Nat):Below B w (w.iter s pos):=by
  have:=(Below.refl B w).alloc h (.stringIter s pos);exact this
theorem qhl (s:ByteArray) (l:List UInt8) (w:World) (hl:s.data.toList=l) (hs:s.size<=1000000000000000) :
    Calls Tryz.prog 61 #[.string s] w fun e w'=>e=.returned (.bool (Id.isPart l))/\Below w.heap.size w w':=by
  have hsz:=h_ (len_l s);have c:=h_ (fun c W=>id_class c W);have H:=h_ hl;clear hl
  go_enter Tryz.func61,Tryz.ntmps61
  go_wp2
  go_loopw [] (fun w' => ∃pos:Nat,w'=w.iter s pos/\pos<=s.size/\Hid (Id.okB (l.take pos)=true)) (fun w'=>s.size-w'.iterPos w.heap.size)
  case atStart=>exact⟨0,rfl,by omega,h_ rfl⟩
  case round=>
    obtain⟨pos,rfl,hps,hok⟩:=hrel;by_cases hp:pos<s.size
    · have hg:l[pos]? = some (s[pos]'hp):=by rw [←H.out];exact get_l s pos hp
      have hg':=h_ hg;clear hg;by_cases ha:(s[pos]'hp).toNat<128
      · have hnx : ∀ty,(Instr.next (.pointer (some ⟨w.heap.size,0,none⟩)) true ty).run Tryz.prog (w.iter s pos)=_:=fun ty=>run_next_ascii w s pos ty hp ha
        have hcl:=let_cls (s[pos]'hp);have hnm:=nm_cls (s[pos]'hp);have hb:=qku l pos _ hg'.out;have ht:=qh7 l pos _ hg'.out;rw [hok.out,Bool.true_and]at ht;rw [hcl,hnm]at hb ht;have hb':=h_ hb;have ht':=h_ ht;clear hb ht hcl hnm;generalize hK:Id.cls ((s[pos]'hp).toNat:Int)=K at hb' ht'
        have cc : ∀W,Calls Tryz.prog 88 #[.int .i32 ((s[pos]'hp).toNat:Int)] W fun e w'=>e=.returned (.int .i64 K)/\W=w':=fun W=>by
          have:=c.out ((s[pos]'hp).toNat:Int) W;rw [hK]at this;exact this
        have cc':=h_ cc;clear cc hK;have ends : ∀(b:Bool),(if pos=0 then decide (K=1 ∨ K=2)else decide (K ≠ 0))=false->b=false->Ending.returned (Value.bool b)=.returned (.bool (Id.isPart l)):=fun b h1 h2=>by rw [h2,hb'.out h1]
        have goes:(if pos=0 then decide (K=1 ∨ K=2)else decide (K ≠ 0))=true->Hid (Id.okB (l.take (pos+1))=true):=fun h=>h_ (ht'.out.trans h)
        clear hb' ht';by_cases h0:pos=0
        · subst h0
          have h0':(((0:Nat):Int) == 0)=true:=rfl;rw [if_pos rfl]at ends goes;have E:=h_ ends;have G:=h_ goes;clear ends goes
          go_wp2_with (go_at_call 88;(with_reducible refine(cc'.out _).mono ?_);rintro e w' ⟨rfl,rfl⟩)
          all_goals first
            | (go_ret;exact⟨E.out _ (by simp_all) rfl,qct (Nat.le_refl _) _ _⟩)
            | (go_roundw
               case rel=>exact⟨1,rfl,by omega,G.out (by simp_all)⟩
               case measure=>simp;omega)
        · have h0':((pos:Int) == 0)=false:=by simpa using h0
          rw [if_neg h0]at ends goes;have E:=h_ ends;have G:=h_ goes;clear ends goes
          go_wp2_with (go_at_call 88;(with_reducible refine(cc'.out _).mono ?_);rintro e w' ⟨rfl,rfl⟩)
          all_goals first
            | (go_ret;exact⟨E.out _ (by simp_all) rfl,qct (Nat.le_refl _) _ _⟩)
            | (go_roundw
               case rel=>exact⟨pos+1,rfl,by omega,G.out (by simp_all)⟩
               case measure=>simp;omega)
      · have hnx : ∀ty,(Instr.next (.pointer (some ⟨w.heap.size,0,none⟩)) true ty).run Tryz.prog (w.iter s pos)=_:=fun ty=>run_next_any w s pos ty hp
        have hd:=decode_high s pos hp (by omega);generalize (Utf8.decode s pos).1=r at hnx hd;generalize (Utf8.decode s pos).2=wd at hnx hd
        have cc : ∀W,Calls Tryz.prog 88 #[.int .i32 (r:Int)] W fun e w'=>e=.returned (.int .i64 0)/\W=w':=fun W=>by
          have:=c.out (r:Int) W;rw [qom (r:Int) (by omega)]at this;exact this
        have cc':=h_ cc;clear cc;have hf:=h_ (qku l pos _ hg'.out (nm_high _ (by omega) pos))
        go_wp2_with (go_at_call 88;(with_reducible refine(cc'.out _).mono ?_);rintro e w' ⟨rfl,rfl⟩)
        all_goals (go_ret;exact⟨qa3 hf.out.symm,qct (Nat.le_refl _) _ _⟩)
    · have hnx : ∀ty,(Instr.next (.pointer (some ⟨w.heap.size,0,none⟩)) true ty).run Tryz.prog (w.iter s pos)=_:=fun ty=>run_next_end w s pos ty hp
      have hln:l.length=s.size:=by rw [←H.out];exact hsz.out
      have hfin:=qim l (by have:=hok.out;rwa [List.take_of_length_le (by omega)]at this);rw [hln]at hfin;have F:=h_ hfin;clear hfin hln;by_cases h1:1<=s.size
      · have F':Hid (Id.isPart l=decide (s.size<=40)):=h_ (by rw [F.out,decide_eq_true h1,Bool.true_and])
        clear F;go_wp2
        all_goals go_ret
        all_goals exact⟨qa3 (by rw [F'.out,Bool.eq_iff_iff];simp;omega),qct (Nat.le_refl _) _ _⟩
      · have F':Hid (Id.isPart l=false):=h_ (by rw [F.out,decide_eq_false h1,Bool.false_and])
        clear F;go_wp2
        all_goals go_ret
        all_goals exact⟨qa3 F'.out.symm,qct (Nat.le_refl _) _ _⟩
end
section
open Go.RowKit
def Strs (w:World) (v:Value) (ks:List (List UInt8)):Prop:=
  (ks=[]/\∃(a:Option Addr) (c:Nat),v=.slice a 0 c) ∨ ∃b off c:Nat,v=.slice (some ⟨b,off,none⟩) ks.length c/\ks.length<=140737488355328/\b<w.heap.size/\∀j k,ks[j]? = some k->w.cell? ⟨b,off+j,none⟩=some (.string (S k))
theorem Strs.below {w w':World} {v:Value} {ks:List (List UInt8)} (h:Strs w v ks) (hb:Below w.heap.size w w'):Strs w' v ks:=by
  rcases h with h|⟨b,off,c,h1,h2,h3,h4⟩
  · exact .inl h
  · exact .inr ⟨b,off,c,h1,h2,Nat.lt_of_lt_of_le h3 hb.size,fun j k hk=>by rw [hb.cell h3];exact h4 j k hk⟩
theorem qjv (ks:List (List UInt8)) (s:ByteArray) (x:List UInt8) (hx:s.data.toList=x):Lib.containsS (ks.map S) s=Id.has ks x:=by
  subst hx;rw [Bool.eq_iff_iff,Lib.containsS_iff];unfold Id.has;rw [decide_eq_true_iff,List.mem_map];constructor
  · rintro ⟨k,hk,rfl⟩
    exact hk
  · intro h
    exact⟨_,h,rfl⟩
theorem qgo (v:Value) (ks:List (List UInt8)) (s:ByteArray) (x:List UInt8) (w:World) (h:Strs w v ks) (hx:s.data.toList=x) :
    Calls Tryz.prog 114 #[v,.string s] w fun e w'=>e=.returned (.bool (Id.has ks x))/\w=w':=by
  rcases h with⟨rfl,a,c,rfl⟩|⟨b,off,c,rfl,h2,h3,h4⟩
  · refine(Tryz.slices_Contains_string_empty a c s w).mono ?_
    rintro e w' ⟨rfl,rfl⟩;exact⟨rfl,rfl⟩
  · have hl:ks.length=(ks.map S).length:=by simp
    refine(Tryz.slices_Contains_string b off ks.length c (ks.map S) s w (by simp) (by omega) (fun j hj=>?_)).mono ?_
    · have hj':j<ks.length:=by simpa using hj
      rw [h4 j _ (List.getElem?_eq_getElem hj')];simp [List.getD,hj']
    · rintro e w' ⟨rfl,rfl⟩
      refine⟨qa3 ?_,rfl⟩;rw [hl,List.take_length];exact qjv ks s x hx
theorem qc7:(Tryz.prog.info? 9).map (fun i=>(i.zero,i.size,i.bytes))=some (some (.string ByteArray.empty),1,16):=by kernel_rfl
def strV (k:List UInt8):Value:=.string (S k)
end
section
open Go.RowKit
theorem word_of (l:List UInt8) (h:l ∈ Id.words):Id.isWord l=true:=decide_eq_true h
theorem qld (s:ByteArray) (l:List UInt8) (w:World) (hl:s.data.toList=l) :
    Calls Tryz.prog 155 #[.string s] w fun e w'=>e=.returned (.bool (Id.isWord l))/\w=w':=by
  have hb:s.toList=l:=by rw [ByteArray.toList_eq];exact hl
  have H:=h_ hb;clear hl hb
  go_enter Tryz.func155,Tryz.ntmps155
  go_wp2
  all_goals go_ret
  all_goals
    refine⟨qa3 ?_,rfl⟩;simp only [H.out,beq_iff_eq,beq_eq_false_iff_ne,ne_eq]at *
    first
    | contradiction
    | (symm;apply word_of;subst l;decide)
    | (symm;apply decide_eq_false;simp only [Id.words,List.mem_cons,List.not_mem_nil,or_false,not_or];(repeat' (first|assumption|apply And.intro));done)
def ML (w:World):Prop := ∃m:Int,w.cell? ⟨2,0,none⟩=some (.int .i64 m)
theorem ML.below {w w':World} (h:ML w) (hb:Below w.heap.size w w'):ML w':=by
  obtain⟨m,hm⟩:=h;exact⟨m,by rw [hb.cell (World.block_lt_of_cell? w _ hm)];exact hm⟩
theorem qlp (c:UInt8) : ∀l:List UInt8,(Id.cut c l).length=Lib.count l [c]+1
  | []=>by
    rw [Lib.count_miss (by simp [Lib.index])];rfl
  | b :: r=>by
    have ih:=qlp c r;by_cases hb:c=b
    · subst hb
      have hi:Lib.index (c :: r) [c]=((0:Nat):Int):=by unfold Lib.index;simp [List.isPrefixOf]
      rw [Lib.count_hit (by simp) hi,Id.cut_hit];simp only [List.length_cons,List.length_nil,Nat.zero_add,List.drop_succ_cons,List.drop_zero,ih];omega
    · have hp:([c].isPrefixOf (b :: r))=false:=by simp [List.isPrefixOf,hb]
      rw [Id.cut_miss c b r (fun e=>hb e.symm)]
      have hoh : ∀x:List (List UInt8),x ≠ []->(Id.onHead b x).length=x.length:=by
        intro x hx;cases x with
        | nil=>exact absurd rfl hx
        | cons p ps=>rfl
      rw [hoh _ (Id.cut_ne c r),ih];rcases Id.idx_one c r with⟨h1,h2⟩|h
      · have hi:Lib.index (b :: r) [c] = -1:=by
          unfold Lib.index;rw [if_neg (by simp [hp]),if_pos (by simp [h1])]
        rw [Lib.count_miss hi,Lib.count_miss h1]
      · obtain⟨i,hi⟩:=Int.eq_ofNat_of_zero_le h
        have hi':Lib.index r [c]=(i:Int):=hi
        have hi2:Lib.index (b :: r) [c]=((i+1:Nat):Int):=by
          unfold Lib.index;rw [if_neg (by simp [hp]),if_neg (by simp;omega),hi'];rfl
        rw [Lib.count_hit (by simp) hi',Lib.count_hit (by simp) hi2];rfl
theorem qj5 (s:ByteArray) (c:UInt8) (l:List UInt8) (hl:s.data.toList=l):Lib.splitB (S [c]) 0 (Lib.countB s (S [c])) s=(Id.cut c l).map S:=by
  have h:=Lib.splitB_data (S [c]) 0 (Lib.countB s (S [c])) s;have h2:=Id.split_cut c s.data.toList;have h3:Lib.splitK (S [c]).data.toList 0 (Lib.countB s (S [c])) s.data.toList=Id.cut c s.data.toList:=h2;rw [h3,hl]at h;rw [←h,List.map_map];have:(S ∘ fun x:ByteArray=>x.data.toList)=id:=by funext x;rfl
  rw [this,List.map_id]
theorem qm0 (s:ByteArray) (c:UInt8) (l:List UInt8) (hl:s.data.toList=l):Lib.countB s (S [c])+1=(Id.cut c l).length:=by
  rw [qlp, ←hl];rfl
theorem qhk (s:ByteArray) (c:UInt8) (l:List UInt8) (w:World) (hl:s.data.toList=l) (hs:s.size<=1000000000) (hM:ML w) :
    Calls Tryz.prog 60 #[.string s,.string ⟨#[c]⟩] w fun e w'=>e=.returned (.slice (some ⟨w.heap.size,0,none⟩) (Id.cut c l).length (Id.cut c l).length)/\w'=w.alloc (.cells ((Id.cut c l).map strV).toArray 9):=by
  obtain⟨m,hm⟩:=hM;refine(Tryz.strings_Split s (S [c]) m w (by omega) hm (by rw [qai];simp)).mono ?_;rintro e w' ⟨rfl,rfl⟩;rw [qm0 s c l hl,qj5 s c l hl,List.map_map];exact⟨rfl,rfl⟩
theorem qfr (c:UInt8) : ∀(l:List UInt8) (p:List UInt8),p ∈ Id.cut c l->p.length<=l.length
  | [],p,h=>by
    simp [Id.cut]at h;subst h;simp
  | b :: r,p,h=>by
    by_cases hb:b=c
    · subst hb
      rw [Id.cut_hit]at h;rcases List.mem_cons.1 h with rfl|h
      · simp
      · have:=qfr b r p h
        simp only [List.length_cons];omega
    · rw [Id.cut_miss c b r hb]at h
      have hn:=Id.cut_ne c r;cases hc:Id.cut c r with
      | nil=>exact absurd hc hn
      | cons q qs=>
        rw [hc]at h;rcases List.mem_cons.1 h with rfl|h
        · have:=qfr c r q (by rw [hc];simp)
          simp only [List.length_cons];omega
        · have:=qfr c r p (by rw [hc];simp [h])
          simp only [List.length_cons];omega
theorem qfq (c:UInt8) : ∀(l:List UInt8),(Id.cut c l).length<=l.length+1
  | []=>by simp [Id.cut]
  | b :: r=>by
    have:=qfq c r;by_cases hb:b=c
    · subst hb
      rw [Id.cut_hit];simp only [List.length_cons];omega
    · rw [Id.cut_miss c b r hb]
      have hn:=Id.cut_ne c r;cases hc:Id.cut c r with
      | nil=>exact absurd hc hn
      | cons q qs=>
        rw [hc]at this;simp only [Id.onHead,List.length_cons]at this ⊢;omega
theorem qe0 (w:World) (P:List (List UInt8)) (t:TypeId) (k:Nat) (p:List UInt8) (h:P[k]? = some p):(w.alloc (.cells (P.map strV).toArray t)).cell? ⟨w.heap.size,k,none⟩=some (.string (S p)):=by
  rw [World.cell?_alloc_at _ _ _ _ rfl,List.getElem?_toArray,List.getElem?_map,h];rfl
theorem qqo (s:ByteArray) (l:List UInt8) (w:World) (hl:s.data.toList=l) (hs:s.size<=100000000) (hM:ML w) :
    Calls Tryz.prog 154 #[.string s] w fun e w'=>e=.returned (.bool (Id.isFull l))/\Below w.heap.size w w':=by
  have c:=h_ (qhk s 46 l w hl (by omega) hM);have hlen:l.length=s.size:=by rw [←hl];exact len_l s
  have hpl : ∀p,p ∈ Id.cut 46 l->p.length<=s.size:=fun p hp=>by have:=qfr 46 l p hp;omega
  have hpm:=qfq 46 l;have hv:Id.isFull l=((Id.cut 46 l).all Id.isPart && decide (s.size<=120)):=by unfold Id.isFull;rw [hlen]
  generalize Id.cut 46 l=P at c hpl hpm hv;have V:=h_ hv;have PL:=h_ hpl;clear hv hpl hl;have hcl:=h_ (qe0 w P 9)
  go_enter Tryz.func154,Tryz.ntmps154
  go_wp2_with (go_at_call 60;(with_reducible refine c.out.mono ?_);rintro e w' ⟨rfl,rfl⟩)
  go_loopw [8] (fun i wr => ∃k:Nat,k<=P.length/\i=.int .i64 k/\Below (w.heap.size+1) (w.alloc (.cells (P.map strV).toArray 9)) wr/\Hid ((P.take k).all Id.isPart=true)) (fun i _=>P.length-(intOf i).toNat)
  case atStart=>exact⟨0,by omega,rfl,Below.refl _ _,h_ rfl⟩
  case round=>
    obtain⟨k,hk,rfl,hb,hok⟩:=hrel;have hbw:Below w.heap.size w wr:=((Below.refl _ _).alloc (Nat.le_refl _) _).trans (hb.mono (by omega));by_cases hlt:k<P.length
    · have hg:P[k]? = some P[k]:=List.getElem?_eq_getElem hlt
      have hcell:wr.cell? ⟨w.heap.size,k,none⟩=some (.string (S P[k])):=by
        rw [hb.cell (p:=⟨w.heap.size,k,none⟩) (Nat.lt_succ_self _)];exact hcl.out k _ hg
      have hpk:=PL.out _ (List.getElem_mem hlt);have cc:=fun W=>qhl (S P[k]) P[k] W rfl (by rw [qai];omega)
      have htk:(P.take (k+1)).all Id.isPart=((P.take k).all Id.isPart && Id.isPart P[k]):=by
        rw [List.take_succ_eq_append_getElem hlt,List.all_append];simp
      have T:=h_ htk
      have hall:Id.isPart P[k]=false->P.all Id.isPart=false:=by
        intro h;cases ha:P.all Id.isPart
        · rfl
        · rw [List.all_eq_true.1 ha _ (List.getElem_mem hlt)]at h
          cases h
      have A:=h_ hall;clear htk hall hg;generalize P[k]=p at cc T A hcell hpk;cases hp:Id.isPart p
      · rw [hp]at cc
        have cc':=h_ cc;have hf:=h_ (A.out hp);clear cc hp
        go_wp2_with (go_at_call 61;(with_reducible refine(cc'.out _).mono ?_);rintro e w' ⟨rfl,hb2⟩)
        go_ret;exact⟨qa3 (by rw [V.out,hf.out];rfl),hbw.trans (hb2.mono hbw.size)⟩
      · rw [hp]at cc
        have cc':=h_ cc;have hp':=h_ hp;clear cc hp
        go_wp2_with (go_at_call 61;(with_reducible refine(cc'.out _).mono ?_);rintro e w' ⟨rfl,hb2⟩)
        go_roundw
        case rel=>exact⟨k+1,by omega,by go_num,hb.trans (hb2.mono (by have:=hb.size;simpa using this)),h_ (by rw [T.out,hok.out,hp'.out];rfl)⟩
        case measure=>simp [intOf];omega
    · have hk':k=P.length:=by omega
      have hfin:P.all Id.isPart=true:=by have:=hok.out;rwa [List.take_of_length_le (by omega)]at this
      have F:=h_ hfin;subst hk';clear hfin;go_wp2;go_ret;exact⟨qa3 (by rw [V.out,F.out,Bool.true_and,Bool.eq_iff_iff];simp;omega),hbw⟩
end
section
open Go.RowKit Ck
theorem qao {w:World} {B:Nat} {v:Value} {ks:List Str} (h:w.ownsRow B 9 1 v ks.length (ks.map strV)) (hl:ks.length<=1000000000):Texts w v ks:=by
 have h0:=h;rcases h.2 with⟨rfl,hx⟩|⟨g,cap,cur,rfl,hBg,hg,hc,_⟩
 ·have hk:=List.eq_nil_of_length_eq_zero hx
  subst hk;exact Sl.nil _ _ _ _ _
 ·refine⟨some ⟨g,0,none⟩,cap,rfl,by omega,hc,fun j k hk=>⟨g,0,rfl,(h0.lt g rfl).2,[.string (S k)],?_,rfl⟩⟩
  intro i u hu
  have hi0:i=0:=by
   cases i with
   | zero=>rfl
   | succ i=>simp at hu
  subst hi0;simp at hu;subst hu;have:=h0.cells (g:=g) rfl j (.string (S k)) (by rw [List.getElem?_map,hk];rfl);rw [Addr.add_lit]at this;rw [Nat.zero_add,Nat.mul_one,Nat.add_zero]
  simpa using this
def needL (l:List PField):List Str:=(l.filter fun f=>decide (f.card=1/\f.tk=10)).map (·.tn)
theorem qih (f:PField) (l:List PField):needL (f :: l)=if f.card=1/\f.tk=10 then f.tn :: needL l else needL l:=by
 unfold needL;by_cases h:f.card=1/\f.tk=10
 ·rw [if_pos h,List.filter_cons_of_pos (by simpa using h)];rfl
 ·rw [if_neg h,List.filter_cons_of_neg (by simpa using h)]
theorem qh8 (w:World) (o:Obj) (v:Value) (t:TypeId) : ∀(j:Nat) (u:Value),[v][j]? = some u->((w.alloc o).alloc (.cells #[v] t)).cell? ((⟨w.heap.size+1,0,none⟩:Addr).add j)=some u:=by
 intro j u h;cases j with
 | zero=>
  simp at h;subst h;rw [Addr.add_lit,World.cell?_alloc_at _ _ _ _ (by simp)];rfl
 | succ j=>simp at h
theorem qor (mn:Str) (mq1 mq2 mq3 mq4:Option Addr) (mm1 mm2 mm3 mm4 mc1 mc2 mc3 mc4:Nat) (m:PMsg) (w:World) (hv:VMsg w [.string (S mn),.slice mq1 mm1 mc1,.slice mq2 mm2 mc2,.slice mq3 mm3 mc3,.slice mq4 mm4 mc4] m) (hfn:m.fields.length<=2000000) :
  Calls Tryz.prog 116 #[.agg #[.string (S mn),.slice mq1 mm1 mc1,.slice mq2 mm2 mc2,.slice mq3 mm3 mc3,.slice mq4 mm4 mc4]] w fun e w' => ∃v,e=.returned v/\Texts w' v (needs m)/\Below w.heap.size w w':=by
 obtain⟨_,_,_,_,hcm,hm1,_,_,_⟩:=hv;cases hcm;obtain⟨q,c,hq,hl,hcap,hel⟩:=hm1;cases hq;have VT:needL (m.fields.drop 0)=needs m:=rfl;have hTl:(needs m).length<=m.fields.length:=by unfold needs;rw [List.length_map];exact List.length_filter_le _ _
 generalize needs m=T at VT hTl;have V:=h_ VT;have EL:=h_ hel;clear hel VT;obtain⟨i0,hi,hz0,hz1,hz2⟩:=info_parts qc7
 go_enter Tryz.func116,Tryz.ntmps116
 go_wp2
 go_loopw [3,9] (fun v i wr => ∃(k:Nat) (xs:List Str),k<=m.fields.length/\i=.int .i64 k/\wr.ownsRow w.heap.size 9 1 v xs.length (xs.map strV)/\Below w.heap.size w wr/\w.heap.size<wr.heap.size/\xs.length<=k/\Hid (xs ++ needL (m.fields.drop k)=T)) (fun _ i _=>m.fields.length-(intOf i).toNat)
 case atStart=>exact⟨0,[],by omega,rfl,⟨rfl,.inl ⟨rfl,rfl⟩⟩,by simpa using (Below.refl _ _).alloc (Nat.le_refl _) _,by simp,by simp,by simpa using V⟩
 case round=>
  obtain⟨k,xs,hk,rfl,hown,hb,hbz,hxl,hx⟩:=hrel;by_cases hlt:k<m.fields.length
  ·have hg:=List.getElem?_eq_getElem hlt
   obtain⟨b,off,rfl,hbs,vs,hce,hvs⟩:=EL.out k _ hg;have hdr:m.fields.drop k=m.fields[k] :: m.fields.drop (k+1):=List.drop_eq_getElem_cons hlt;obtain⟨_,_,hvs1,⟨r1,r2,r3,r4,d1,d2,d3,d4,hvv,_⟩,hnt⟩:=hvs;obtain⟨r5,d5,hnv,hnl⟩:=qa5 hnt;subst hvs1 hvv hnv;generalize m.fields[k]=f at *;have hki:(k:Int)<(m.fields.length:Int):=by omega
   have aE:=qas;obtain⟨K,hK⟩ : ∃K,K=16:=⟨_,rfl⟩;have zE : ∀w,(Go.sizeOf 63).run Tryz.prog w=.ok K w:=hK ▸ qal
   have l2:Sem.run Tryz.prog (loadCellsFrom ⟨b,off+k*K,none⟩ 0 K #[]) wr=.ok #[.int .i64 f.num,.string (S f.name),.int .i64 f.card,.int .i64 f.key,.int .i64 f.tk,.string (S f.tn),.string (S f.un),.bool f.hd,.int .i64 f.df.k,.int .u64 f.df.x,.string (S f.df.t),.slice r1 f.df.n1 d1,.slice r2 f.df.n2 d2,.slice r3 f.df.n3 d3,.slice r4 f.df.n4 d4,.slice r5 f.notes.length d5] wr:=run_loadCellsFrom_list Tryz.prog _ _ _ K hK.symm (fun j v hj=>by
    rw [hK,Addr.add_lit]
    exact Bel.some hb (hce j v hj))
   have HK:=h_ hK;clear hK hce hg hnt;have hxl3:(xs ++ needL (m.fields.drop k)).length=T.length:=by rw [hx.out]
   by_cases hyes:f.card=1/\f.tk=10
   ·obtain⟨h1,h10⟩:=hyes
    have hx2:=h_ (show xs ++ [f.tn] ++ needL (m.fields.drop (k+1))=T by rw [←hx.out,hdr,qih,if_pos ⟨h1,h10⟩];simp);have t1:=ieq h1;have t10:=ieq h10;clear hx hdr h1 h10 hxl3
    go_upto_region 5 with(fail)
    all_goals (first|(exfalso;exact absurd HK.out.symm (by assumption))|(have h16:16=K:=(by assumption);subst h16))
    clear l2 aE zE HK
    go_wp2_with (at_builtin;refine wpList_append_own _ rfl _ _ 37 rfl w.heap.size 9 i0 (.string ByteArray.empty) 1 16 Tryz.underlying37 hi hz0 hz1 hz2 rfl (by decide) _ _ _ rfl ((hown.alloc _).alloc _) ⟨wr.heap.size+1,0,none⟩ 1 1 [.string (S f.tn)] rfl rfl ?c1 ?c2 ?c3 ?c4 ?c5 ?_)
    case c2=>rfl
    case c3=>unfold maxLen;omega
    case c4=>omega
    case c5=>first|omega|(simp;omega)
    intro v' w1 hown1 hgrow _;have hb1:=(((hb.alloc (by omega) (.cells #[.int .i64 f.num,.string (S f.name),.int .i64 f.card,.int .i64 f.key,.int .i64 f.tk,.string (S f.tn),.string (S f.un),.bool f.hd,.int .i64 f.df.k,.int .u64 f.df.x,.string (S f.df.t),.slice r1 f.df.n1 d1,.slice r2 f.df.n2 d2,.slice r3 f.df.n3 d3,.slice r4 f.df.n4 d4,.slice r5 f.notes.length d5] 63)).alloc (by simp;omega) (.cells #[.string (S f.tn)] 9))).grown hgrow (by simp;omega) (fun g hg=>(hown.lt g hg).1)
    have hown2:w1.ownsRow w.heap.size 9 1 v' (xs ++ [f.tn]).length ((xs ++ [f.tn]).map strV):=by
     rw [List.map_append,List.length_append];exact hown1
    have hz:=hgrow.size;clear hgrow hown1;go_wp2;refine⟨⟨k+1,xs ++ [f.tn],by omega,rfl,hown2,hb1,by simp at hz;omega,by simp;omega,hx2⟩,by simp [intOf];omega⟩
   ·have hx2:=h_ (show xs ++ needL (m.fields.drop (k+1))=T by rw [←hx.out,hdr,qih,if_neg hyes])
    clear hx hdr hxl3;by_cases h1:f.card=1
    ·have t1:=ieq h1
     have t10:=ine (show f.tk ≠ 10 from fun h=>hyes ⟨h1,h⟩);clear hyes h1
     go_upto_region 5 with(fail)
     all_goals (first|(exfalso;exact absurd HK.out.symm (by assumption))|(have h16:16=K:=(by assumption);subst h16))
     clear l2 aE zE HK;go_wp2;refine⟨⟨k+1,xs,by omega,rfl,hown.alloc _,hb.alloc (by omega) _,by simp;omega,by omega,hx2⟩,by simp [intOf];omega⟩
    ·have t1:=ine h1
     clear hyes h1
     go_upto_region 5 with(fail)
     all_goals (first|(exfalso;exact absurd HK.out.symm (by assumption))|(have h16:16=K:=(by assumption);subst h16))
     clear l2 aE zE HK;go_wp2;refine⟨⟨k+1,xs,by omega,rfl,hown.alloc _,hb.alloc (by omega) _,by simp;omega,by omega,hx2⟩,by simp [intOf];omega⟩
  ·have hkl:k=m.fields.length:=by omega
   have hxe:xs=T:=by have:=hx.out;rw [hkl,List.drop_length]at this;simpa [needL]using this
   subst hxe;subst hkl;clear hx V EL;go_wp2;go_ret;exact⟨_,rfl,qao hown (by omega),hb⟩
end
section
open Go.RowKit Ck
end
section
open Go.RowKit Ck
def longN (x:PNote):Prop:=300<x.name.length ∨ 300<x.val.t.length ∨ 0<x.val.n
instance (x:PNote):Decidable (longN x):=by unfold longN;infer_instance
end
section
open Go.RowKit Ck
def qn2:List Value->Option (DataW Unit × List MemPlace)
 | [.int .i64 a,.int .i64 b]=>some (.agg [.lit (.int .i64 a),.lit (.int .i64 b)],[])
 | _=>none
def qb5:Value->Option (DataW Unit × List MemPlace)
 | .agg cs=>qn2 cs.toList
 | _=>none
theorem qf8 {v:Value} {d:DataW Unit × List MemPlace} {a b:Int} (h:qb5 v=some d) (hd:d.1=.agg [.lit (.int .i64 a),.lit (.int .i64 b)]):v=.agg #[.int .i64 a,.int .i64 b]:=by
 unfold qb5 at h
 split at h
 ·rename_i cs
  obtain⟨l⟩:=cs;simp only at h;unfold qn2 at h
  split at h
  ·cases h
   simp at hd;obtain⟨rfl,rfl⟩:=hd;rfl
  ·cases h
 ·cases h
def ruleD (r:Int × Int):DataW Unit:=.agg [.lit (.int .i64 r.1),.lit (.int .i64 r.2)]
def qhh (name:Str):Option (DataW Unit):=(Ck.find? name).map ruleD
def qla:Str->Option (DataW Unit):=fun k=>if k=[100,101,112,114,101,99,97,116,101,100]then some (ruleD (1,126))else none
def ql9:Str->Option (DataW Unit):=fun k=>if k=[100,111,99]then some (ruleD (7,126))else qla k
def ql8:Str->Option (DataW Unit):=fun k=>if k=[97,108,105,97,115]then some (ruleD (7,84))else ql9 k
def ql7:Str->Option (DataW Unit):=fun k=>if k=[115,105,110,99,101]then some (ruleD (4,84))else ql8 k
def ql6:Str->Option (DataW Unit):=fun k=>if k=[117,110,116,105,108]then some (ruleD (4,84))else ql7 k
def ql5:Str->Option (DataW Unit):=fun k=>if k=[109,105,110]then some (ruleD (3,4))else ql6 k
def ql4:Str->Option (DataW Unit):=fun k=>if k=[109,97,120]then some (ruleD (3,4))else ql5 k
def ql3:Str->Option (DataW Unit):=fun k=>if k=[108,101,110,103,116,104]then some (ruleD (4,4))else ql4 k
def ql2:Str->Option (DataW Unit):=fun k=>if k=[115,101,99,114,101,116]then some (ruleD (1,4))else ql3 k
def qhg:Str->Option (DataW Unit):=fun k=>if k=[105,100,101,109,112,111,116,101,110,116]then some (ruleD (1,64))else ql2 k
def qhf:Str->Option (DataW Unit):=fun k=>if k=[116,105,109,101,111,117,116]then some (ruleD (4,64))else qhg k
def qhe:Str->Option (DataW Unit):=fun k=>if k=[114,111,117,116,101]then some (ruleD (7,64))else qhf k
def qji:Str->Option (DataW Unit):=fun k=>if k=[111,119,110,101,114]then some (ruleD (7,34))else qhe k
theorem qqk:qji=qhh:=by
 funext k
 unfold qhh Ck.find? Ck.known;unfold qji;unfold qhe;unfold qhf;unfold qhg;unfold ql2;unfold ql3;unfold ql4;unfold ql5;unfold ql6;unfold ql7;unfold ql8;unfold ql9;unfold qla;simp only [List.find?_cons,List.find?_nil];by_cases h0:k=[100,101,112,114,101,99,97,116,101,100]
 ·subst h0;rfl
 by_cases h1:k=[100,111,99]
 ·subst h1;rfl
 by_cases h2:k=[97,108,105,97,115]
 ·subst h2;rfl
 by_cases h3:k=[115,105,110,99,101]
 ·subst h3;rfl
 by_cases h4:k=[117,110,116,105,108]
 ·subst h4;rfl
 by_cases h5:k=[109,105,110]
 ·subst h5;rfl
 by_cases h6:k=[109,97,120]
 ·subst h6;rfl
 by_cases h7:k=[108,101,110,103,116,104]
 ·subst h7;rfl
 by_cases h8:k=[115,101,99,114,101,116]
 ·subst h8;rfl
 by_cases h9:k=[105,100,101,109,112,111,116,101,110,116]
 ·subst h9;rfl
 by_cases h10:k=[116,105,109,101,111,117,116]
 ·subst h10;rfl
 by_cases h11:k=[114,111,117,116,101]
 ·subst h11;rfl
 by_cases h12:k=[111,119,110,101,114]
 ·subst h12;rfl
 simp [h0,h1,h2,h3,h4,h5,h6,h7,h8,h9,h10,h11,h12,Ne.symm h0,Ne.symm h1,Ne.symm h2,Ne.symm h3,Ne.symm h4,Ne.symm h5,Ne.symm h6,Ne.symm h7,Ne.symm h8,Ne.symm h9,Ne.symm h10,Ne.symm h11,Ne.symm h12]
def qrh (w:World) (e:Ending) (w':World):Prop := ∃B:Nat,e=.returned (.map (some B))/\MapIs qb5 w' B 13 qhh/\Below w.heap.size w w'
theorem qav {w a b:World} {B:Nat} (h:Below w.heap.size w a) (hB:w.heap.size<=B) (hg:a.grownBy b (some B)):Below w.heap.size w b:=h.grown hg h.size (fun k hk=>by cases hk;exact hB)
theorem qnt (w:World):Calls Tryz.prog 221 #[] w (qrh w):=by
 have hmm := @run_makeMap Tryz.prog
 go_enter Tryz.func221,Tryz.ntmps221
 have m0:MapIs (H:=Unit) qb5 (w.alloc (.map #[] 0)) w.heap.size 0 (fun _=>none):=MapIs.made w qb5;have b0:Below w.heap.size w (w.alloc (.map #[] 0)):=(Below.refl _ _).alloc (Nat.le_refl _) _
 go_wp2_with (refine qab _ rfl _ _ _ 255 253 rfl Tryz.underlying255 w.heap.size 0 (fun _=>none) rfl m0 (by decide) [100,101,112,114,101,99,97,116,101,100] (by decide) (.agg #[.int .i64 1,.int .i64 126]) rfl rfl (ruleD (1,126)) [] rfl ?_)
 intro w1 m g;have b1:=qav b0 (Nat.le_refl _) g;have m1:MapIs qb5 w1 w.heap.size 1 qla:=m;clear m g m0 b0
 go_wp2_with (refine qab _ rfl _ _ _ 255 253 rfl Tryz.underlying255 w.heap.size 1 qla rfl m1 (by decide) [100,111,99] (by decide) (.agg #[.int .i64 7,.int .i64 126]) rfl rfl (ruleD (7,126)) [] rfl ?_)
 intro w2 m g;have b2:=qav b1 (Nat.le_refl _) g;have m2:MapIs qb5 w2 w.heap.size 2 ql9:=m;clear m g m1 b1
 go_wp2_with (refine qab _ rfl _ _ _ 255 253 rfl Tryz.underlying255 w.heap.size 2 ql9 rfl m2 (by decide) [97,108,105,97,115] (by decide) (.agg #[.int .i64 7,.int .i64 84]) rfl rfl (ruleD (7,84)) [] rfl ?_)
 intro w3 m g;have b3:=qav b2 (Nat.le_refl _) g;have m3:MapIs qb5 w3 w.heap.size 3 ql8:=m;clear m g m2 b2
 go_wp2_with (refine qab _ rfl _ _ _ 255 253 rfl Tryz.underlying255 w.heap.size 3 ql8 rfl m3 (by decide) [115,105,110,99,101] (by decide) (.agg #[.int .i64 4,.int .i64 84]) rfl rfl (ruleD (4,84)) [] rfl ?_)
 intro w4 m g;have b4:=qav b3 (Nat.le_refl _) g;have m4:MapIs qb5 w4 w.heap.size 4 ql7:=m;clear m g m3 b3
 go_wp2_with (refine qab _ rfl _ _ _ 255 253 rfl Tryz.underlying255 w.heap.size 4 ql7 rfl m4 (by decide) [117,110,116,105,108] (by decide) (.agg #[.int .i64 4,.int .i64 84]) rfl rfl (ruleD (4,84)) [] rfl ?_)
 intro w5 m g;have b5:=qav b4 (Nat.le_refl _) g;have m5:MapIs qb5 w5 w.heap.size 5 ql6:=m;clear m g m4 b4
 go_wp2_with (refine qab _ rfl _ _ _ 255 253 rfl Tryz.underlying255 w.heap.size 5 ql6 rfl m5 (by decide) [109,105,110] (by decide) (.agg #[.int .i64 3,.int .i64 4]) rfl rfl (ruleD (3,4)) [] rfl ?_)
 intro w6 m g;have b6:=qav b5 (Nat.le_refl _) g;have m6:MapIs qb5 w6 w.heap.size 6 ql5:=m;clear m g m5 b5
 go_wp2_with (refine qab _ rfl _ _ _ 255 253 rfl Tryz.underlying255 w.heap.size 6 ql5 rfl m6 (by decide) [109,97,120] (by decide) (.agg #[.int .i64 3,.int .i64 4]) rfl rfl (ruleD (3,4)) [] rfl ?_)
 intro w7 m g;have b7:=qav b6 (Nat.le_refl _) g;have m7:MapIs qb5 w7 w.heap.size 7 ql4:=m;clear m g m6 b6
 go_wp2_with (refine qab _ rfl _ _ _ 255 253 rfl Tryz.underlying255 w.heap.size 7 ql4 rfl m7 (by decide) [108,101,110,103,116,104] (by decide) (.agg #[.int .i64 4,.int .i64 4]) rfl rfl (ruleD (4,4)) [] rfl ?_)
 intro w8 m g;have b8:=qav b7 (Nat.le_refl _) g;have m8:MapIs qb5 w8 w.heap.size 8 ql3:=m;clear m g m7 b7
 go_wp2_with (refine qab _ rfl _ _ _ 255 253 rfl Tryz.underlying255 w.heap.size 8 ql3 rfl m8 (by decide) [115,101,99,114,101,116] (by decide) (.agg #[.int .i64 1,.int .i64 4]) rfl rfl (ruleD (1,4)) [] rfl ?_)
 intro w9 m g;have b9:=qav b8 (Nat.le_refl _) g;have m9:MapIs qb5 w9 w.heap.size 9 ql2:=m;clear m g m8 b8
 go_wp2_with (refine qab _ rfl _ _ _ 255 253 rfl Tryz.underlying255 w.heap.size 9 ql2 rfl m9 (by decide) [105,100,101,109,112,111,116,101,110,116] (by decide) (.agg #[.int .i64 1,.int .i64 64]) rfl rfl (ruleD (1,64)) [] rfl ?_)
 intro w10 m g;have b10:=qav b9 (Nat.le_refl _) g;have m10:MapIs qb5 w10 w.heap.size 10 qhg:=m;clear m g m9 b9
 go_wp2_with (refine qab _ rfl _ _ _ 255 253 rfl Tryz.underlying255 w.heap.size 10 qhg rfl m10 (by decide) [116,105,109,101,111,117,116] (by decide) (.agg #[.int .i64 4,.int .i64 64]) rfl rfl (ruleD (4,64)) [] rfl ?_)
 intro w11 m g;have b11:=qav b10 (Nat.le_refl _) g;have m11:MapIs qb5 w11 w.heap.size 11 qhf:=m;clear m g m10 b10
 go_wp2_with (refine qab _ rfl _ _ _ 255 253 rfl Tryz.underlying255 w.heap.size 11 qhf rfl m11 (by decide) [114,111,117,116,101] (by decide) (.agg #[.int .i64 7,.int .i64 64]) rfl rfl (ruleD (7,64)) [] rfl ?_)
 intro w12 m g;have b12:=qav b11 (Nat.le_refl _) g;have m12:MapIs qb5 w12 w.heap.size 12 qhe:=m;clear m g m11 b11
 go_wp2_with (refine qab _ rfl _ _ _ 255 253 rfl Tryz.underlying255 w.heap.size 12 qhe rfl m12 (by decide) [111,119,110,101,114] (by decide) (.agg #[.int .i64 7,.int .i64 34]) rfl rfl (ruleD (7,34)) [] rfl ?_)
 intro w13 m g;have b13:=qav b12 (Nat.le_refl _) g;have m13:MapIs qb5 w13 w.heap.size 13 qji:=m;clear m g m12 b12;go_wp2;go_ret;exact⟨w.heap.size,rfl,qqk ▸ m13,b13⟩
end
end Go.Proofs.YtfoaaglbpmmhiaaGreatDoor
