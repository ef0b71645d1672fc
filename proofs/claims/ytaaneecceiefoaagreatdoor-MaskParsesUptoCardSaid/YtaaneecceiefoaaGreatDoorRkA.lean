import Derived.Test.YtaaneecceiefoaaGreatDoorMdLaw
import Derived.Test.YtaaneecceiefoaaGreatDoorCkLists2
import Derived.Test.YtaaneecceiefoaaGreatDoorTwo
import Derived.Deep.DeepCutAuto
import Derived.IntWalk
set_option maxRecDepth 100000
set_option maxHeartbeats 4000000
set_option linter.unusedVariables false
set_option linter.unusedSimpArgs false
namespace Go.Proofs.YtaaneecceiefoaaGreatDoor
section
open Go.RowKit
theorem qhp (s:ByteArray) (l:List UInt8) (w:World) (hl:s.data.toList=l) :
  Calls Tryz.prog 129 #[.string s] w fun e w'=>e=.returned (.bool (Id.isWord l))/\w=w':=by
 have hb:s.toList=l:=by rw [ByteArray.toList_eq];exact hl
 have H:=Lib.hid hb;clear hl hb
 go_enter Tryz.func129,Tryz.ntmps129
 go_wp2
 all_goals go_ret
 all_goals
  refine⟨qa7 ?_,rfl⟩;simp only [H.out,beq_iff_eq,beq_eq_false_iff_ne,ne_eq]at *
  first
  | contradiction
  | (symm;apply word_of;subst l;decide)
  | (symm;apply decide_eq_false;simp only [Id.words,List.mem_cons,List.not_mem_nil,or_false,not_or];(repeat' (first|assumption|apply And.intro));done)
theorem qp7 (b:UInt8) (w:World):Calls Tryz.prog 82 #[.int .u8 (b.toNat:Int)] w fun e w'=>e=.returned (.bool (Id.smB b))/\w=w':=by
 have hb:=b.toNat_lt
 go_enter Tryz.func82,Tryz.ntmps82
 go_wp2
 all_goals go_ret
 all_goals exact⟨qa7 (by rw [Bool.eq_iff_iff];simp [Id.smB]at *;try omega),rfl⟩
theorem qkz (b:UInt8) (w:World):Calls Tryz.prog 83 #[.int .u8 (b.toNat:Int)] w fun e w'=>e=.returned (.bool (Id.caB b))/\w=w':=by
 have hb:=b.toNat_lt
 go_enter Tryz.func83,Tryz.ntmps83
 go_wp2
 all_goals go_ret
 all_goals exact⟨qa7 (by rw [Bool.eq_iff_iff];simp [Id.caB]at *;try omega),rfl⟩
theorem qp8 (s:ByteArray) (l:List UInt8) (w:World) (hl:s.data.toList=l) (hs:s.size<=1000000000) :
  Calls Tryz.prog 128 #[.string s] w fun e w'=>e=.returned (.tuple #[.string (S (Id.splitL l).1),.string (S (Id.splitL l).2)])/\∃n,w.drewN n=w':=by
 have hsz:l.length=s.size:=by rw [←hl];exact len_l s
 have HL:=Lib.hid hl;clear hl
 go_enter Tryz.func128,Tryz.ntmps128
 go_wp2
 go_loopw [4] (fun i wr => ∃k:Nat,k<=s.size/\i=.int .i64 ((k:Int)-1)/\w=wr/\Hid (∀j,k<=j->l[j]? ≠ some 46)) (fun i _=>(intOf i+1).toNat)
 case atStart=>exact⟨s.size,Nat.le_refl _,rfl,rfl,Lib.hid (fun j hj=>by rw [List.getElem?_eq_none (by omega)];simp)⟩
 case round=>
  obtain⟨k,hk,rfl,rfl,hno⟩:=hrel;cases k with
  | zero=>
   have hd:Id.lastDot l = -1:=(Id.lastDot_none l).2 fun hm=>by
    obtain⟨j,hj⟩:=List.mem_iff_getElem?.1 hm;exact hno.out j (by omega) hj
   have hv:Id.splitL l=([],l):=by unfold Id.splitL;rw [if_pos hd]
   have V:=Lib.hid hv;have hneg : ¬((0:Int)<=((0:Nat):Int)-1):=by omega
   clear hd hv;go_wp2;go_ret2;exact⟨by rw [V.out, ←HL.out];rfl,0,rfl⟩
  | succ j=>
   have hj:j<s.size:=by omega
   have hg:l[j]? = some (s[j]'hj):=by rw [←HL.out];exact get_l s j hj
   have hij:((j+1:Nat):Int)-1=(j:Int):=by omega
   have q0:(0:Int)<=j:=by omega
   have q1:(j:Int)<s.size:=by omega
   have q2:s[j].toNat<256:=UInt8.toNat_lt _;simp only [hij];by_cases hc:s[j]'hj=46
   ·have hd:Id.lastDot l=j:=Id.lastDot_at l j (by rw [hg,hc]) (fun i hi=>hno.out i (by omega))
    have hv:Id.splitL l=(l.take j,l.drop (j+1)):=by unfold Id.splitL;rw [if_neg (by omega),hd];rfl
    have h1:S (l.take j)=s.extract 0 j:=by symm;apply S_of;rw [qfg,HL.out];simp
    have h2:S (l.drop (j+1))=s.extract (j+1) s.size:=by
     symm;apply S_of
     rw [qfg,HL.out];exact List.take_of_length_le (by rw [List.length_drop,hsz];exact Nat.le_refl _)
    have V:=Lib.hid hv;have H1:=Lib.hid h1;have H2:=Lib.hid h2;have hb:((s[j].toNat:Int) == 46)=true:=by rw [hc];rfl
    clear hd hv h1 h2 hg hc hij;have s1:IntKind.i64.wrap ((j:Int)+1)=(j:Int)+1:=IntWalk.i64_in _ (by omega);have s2:(0:Int)<=(j:Int)+1:=by omega
    have s3:((j:Int)+1).toNat=j+1:=by omega
    have s4:j+1<=s.size:=by omega
    have s5:(j:Int)+1<=s.size:=by omega
    go_wp2
    go_quiet (fail)
    go_wp2;go_ret2
    exact⟨by(rw [V.out,H1.out,H2.out]);rfl,_,rfl⟩
   ·have hb:((s[j].toNat:Int) == 46)=false:=beq_eq_false_iff_ne.2 (fun e=>hc (by apply UInt8.toNat_inj.1;show s[j].toNat=46;omega))
    have hno2:Hid (∀i,j<=i->l[i]? ≠ some 46):=Lib.hid (fun i hi=>by
     by_cases e:i=j
     ·subst e;rw [hg];simpa using hc
     ·exact hno.out i (by omega))
    clear hg hc hij;go_wp2;go_roundw
    case rel=>exact⟨j,by omega,rfl,trivial,hno2⟩
    case measure=>simp [intOf]
theorem qlc (u:List UInt8) (r:List (List UInt8)) (x:List UInt8) (h:u ≠ x):Id.has (u :: r) x=Id.has r x:=by
 unfold Id.has;simp [Ne.symm h]
theorem ref_Has (v:Value) (ks:List (List UInt8)) (s:ByteArray) (x:List UInt8) (w:World) (h:Strs w v ks) (hx:s.data.toList=x) :
  Calls Tryz.prog 99 #[v,.string s] w fun e w'=>e=.returned (.bool (Id.has ks x))/\w=w':=by
 rcases h with⟨rfl,a,c,rfl⟩|⟨b,off,c,rfl,h2,h3,h4⟩
 ·have hv:Id.has [] x=false:=rfl
  have V:=Lib.hid hv;clear hv hx
  go_enter Tryz.func99,Tryz.ntmps99
  go_wp2
  go_loop [5] (fun i=>i=.int .i64 0) (fun _=>0)
  case atStart=>rfl
  case round=>
   obtain rfl:=hrel;go_wp2;go_ret;exact⟨qa7 V.out.symm,rfl⟩
 ·have hcells:=Lib.hid h4
  have hsx:s.toList=x:=by rw [ByteArray.toList_eq];exact hx
  have HX:=Lib.hid hsx;clear h4 hx hsx
  go_enter Tryz.func99,Tryz.ntmps99
  go_wp2
  go_loop [5] (fun i => ∃k:Nat,k<=ks.length/\i=.int .i64 k/\Hid (Id.has (ks.drop k) x=Id.has ks x)) (fun i=>ks.length-(intOf i).toNat)
  case atStart=>exact⟨0,by omega,rfl,Lib.hid rfl⟩
  case round=>
   obtain⟨k,hk,rfl,hr⟩:=hrel;by_cases hlt:k<ks.length
   ·have hg:ks[k]? = some ks[k]:=List.getElem?_eq_getElem hlt
    have hcell:=hcells.out k _ hg;have hdr:ks.drop k=ks[k] :: ks.drop (k+1):=List.drop_eq_getElem_cons hlt;have hstep:=hr.out;rw [hdr]at hstep;by_cases he:ks[k]=x
    ·have hb:((S ks[k]).toList == s.toList)=true:=by rw [ByteArray.toList_eq,HX.out,qbi,he];simp
     have hv:Id.has ks x=true:=by rw [←hstep];unfold Id.has;simp [he]
     have V:=Lib.hid hv;clear hv hstep hg hdr he;generalize ks[k]=u at hcell hb;go_wp2;go_ret;exact⟨qa7 V.out.symm,rfl⟩
    ·have hb:((S ks[k]).toList == s.toList)=false:=by rw [ByteArray.toList_eq,HX.out,qbi];simpa using he
     have hv:Hid (Id.has (ks.drop (k+1)) x=Id.has ks x):=Lib.hid (by rw [←hstep,qlc _ _ _ he]);clear hstep hg hdr he;generalize ks[k]=u at hcell hb;go_wp2;go_round
     case rel=>exact⟨k+1,by omega,by go_num,hv⟩
     case measure=>simp [intOf];omega
   ·have hv:Id.has ks x=false:=by rw [←hr.out,List.drop_eq_nil_of_le (by omega)];rfl
    have V:=Lib.hid hv;clear hv;go_wp2;go_ret;exact⟨qa7 V.out.symm,rfl⟩
end
section
open Go.RowKit
theorem S_cat (a b:List UInt8):S a ++ S b=S (a ++ b):=S_of (qbp _ _)
theorem nm_or (b:UInt8):Id.nmB b=(Id.smB b || Id.caB b || decide (b.toNat=95) || decide (48<=b.toNat/\b.toNat<=57)):=by
 have:=Id.u8_all (fun b=>decide (Id.nmB b=(Id.smB b || Id.caB b || decide (b.toNat=95) || decide (48<=b.toNat/\b.toNat<=57)))) (by decide +kernel) b
 simpa using this
theorem nm_cases (b:UInt8) (h:Id.nmB b=true):Id.smB b=true ∨ (Id.smB b=false/\Id.caB b=true) ∨ (Id.smB b=false/\Id.caB b=false/\b.toNat=95) ∨ (Id.smB b=false/\Id.caB b=false/\b.toNat ≠ 95/\48<=b.toNat/\b.toNat<=57):=by
 rw [nm_or]at h;cases h1:Id.smB b <;> cases h2:Id.caB b <;> simp [h1,h2]at h ⊢
 by_cases h3:b.toNat=95
 ·exact .inl h3
 ·right
  rcases h with h|h
  ·exact absurd h h3
  ·exact⟨h3,h⟩
theorem nm_not (b:UInt8) (h:Id.nmB b=false):Id.smB b=false/\Id.caB b=false/\b.toNat ≠ 95/\(b.toNat<48 ∨ 57<b.toNat):=by
 rw [nm_or]at h;simp only [Bool.or_eq_false_iff,decide_eq_false_iff_not]at h;exact⟨h.1.1.1,h.1.1.2,h.1.2,by omega⟩
theorem qfm (s:ByteArray) (l:List UInt8) (w:World) (hl:s.data.toList=l) (hs:s.size<=1000000000000000) :
  Calls Tryz.prog 61 #[.string s] w fun e w'=>e=.returned (.bool (Id.isPart l))/\w=w':=by
 have hsz:l.length=s.size:=by rw [←hl];exact len_l s
 have HL:=Lib.hid hl;have cs:=Lib.hid (fun(b:UInt8) W=>qp7 b W);have cc:=Lib.hid (fun(b:UInt8) W=>qkz b W);clear hl;by_cases h0:s.size=0
 ·have hv:Id.isPart l=false:=by unfold Id.isPart;rw [decide_eq_false (by omega)];simp
  have V:=Lib.hid hv;have h0':((s.size:Int) == 0)=true:=by rw [h0];rfl
  clear hv h0 hsz
  go_enter Tryz.func61,Tryz.ntmps61
  go_wp2;go_ret
  exact⟨qa7 V.out.symm,rfl⟩
 ·have h0':((s.size:Int) == 0)=false:=by simpa using h0
  by_cases h40:s.size<=40
  ·have hp:0<s.size:=by omega
   have hg:l[0]? = some (s[0]'hp):=by rw [←HL.out];exact get_l s 0 hp
   have hok1:=qgv l 0 _ hg;have hbad:=qk4 l 0 _ hg;rw [if_pos rfl]at hok1 hbad;have q0:(0:Int)<s.size:=by omega
   have q2:s[0].toNat<256:=UInt8.toNat_lt _;cases hlet:Id.letB (s[0]'hp)
   ·have hv:=hbad hlet
    unfold Id.letB at hlet;simp only [Bool.or_eq_false_iff]at hlet;have c1:=fun W=>cs.out (s[0]'hp) W
    have c2:=fun W=>cc.out (s[0]'hp) W
    rw [hlet.1]at c1;rw [hlet.2]at c2;have C1:=Lib.hid c1;have C2:=Lib.hid c2;have V:=Lib.hid hv;clear hv hlet c1 c2 hok1 hbad hg h0 hsz
    go_enter Tryz.func61,Tryz.ntmps61
    go_wp2_with (first
     | (go_at_call 82;(with_reducible refine(C1.out _).mono ?_);rintro e w' ⟨rfl,rfl⟩)
     | (go_at_call 83;(with_reducible refine(C2.out _).mono ?_);rintro e w' ⟨rfl,rfl⟩))
    go_ret;exact⟨qa7 V.out.symm,rfl⟩
   ·rw [hlet]at hok1
    have ok1:Hid (Id.okB (l.take 1)=true):=Lib.hid hok1;have c1:=fun W=>cs.out (s[0]'hp) W
    have c2:Id.smB (s[0]'hp)=false->∀W,Calls Tryz.prog 83 #[.int .u8 ((s[0]'hp).toNat:Int)] W fun e w'=>e=.returned (.bool true)/\W=w':=fun h W=>by
     have:=cc.out (s[0]'hp) W;unfold Id.letB at hlet;rw [h,Bool.false_or]at hlet;rw [hlet]at this;exact this
    have C2:=Lib.hid c2;have hs0:s[0]'hp=s[0]'hp:=rfl;clear hok1 hbad hg h0 hlet c2 hs0
    have main : ∀(q:Bool),(∀W,Calls Tryz.prog 82 #[.int .u8 ((s[0]'hp).toNat:Int)] W fun e w'=>e=.returned (.bool q)/\W=w')->(q=false->∀W,Calls Tryz.prog 83 #[.int .u8 ((s[0]'hp).toNat:Int)] W fun e w'=>e=.returned (.bool true)/\W=w') →
      Calls Tryz.prog 61 #[.string s] w fun e w'=>e=.returned (.bool (Id.isPart l))/\w=w':=by
     intro q c1 c2;clear C2;have C1:=Lib.hid c1;clear c1;cases q
     all_goals
      first|(have C2:=Lib.hid (c2 rfl);clear c2)|(clear c2;have C2:=Lib.hid trivial)
      go_enter Tryz.func61,Tryz.ntmps61
      go_wp2_with (first
       | (go_at_call 82;(with_reducible refine(C1.out _).mono ?_);rintro e w' ⟨rfl,rfl⟩)
       | (go_at_call 83;(with_reducible refine(C2.out _).mono ?_);rintro e w' ⟨rfl,rfl⟩))
      go_loop [3] (fun i => ∃k:Nat,1<=k/\k<=s.size/\i=.int .i64 k/\Hid (Id.okB (l.take k)=true)) (fun i=>s.size-(intOf i).toNat)
      case atStart=>exact⟨1,by omega,by omega,rfl,ok1⟩
      case round=>
       obtain⟨k,hk1,hk,rfl,hok⟩:=hrel;by_cases hlt:k<s.size
       ·have hg:l[k]? = some (s[k]'hlt):=by rw [←HL.out];exact get_l s k hlt
        have hok1:=qgv l k _ hg;have hbad:=qk4 l k _ hg;rw [if_neg (by omega)]at hok1 hbad;rw [hok.out,Bool.true_and]at hok1;have r1:(k:Int)<s.size:=by omega
        have r2:s[k].toNat<256:=UInt8.toNat_lt _;have d1:=fun W=>cs.out (s[k]'hlt) W
        have d2:=fun W=>cc.out (s[k]'hlt) W
        have h95:s[k].toNat ≠ 95->((s[k].toNat:Int) != 95)=true:=fun h=>bne_iff_ne.2 (by omega)
        have h95':s[k].toNat=95->((s[k].toNat:Int) != 95)=false:=fun h=>by rw [h];rfl
        cases hn:Id.nmB (s[k]'hlt)
        ·have V:=Lib.hid (hbad hn)
         obtain⟨n1,n2,n3,n4⟩:=nm_not _ hn;have e95:=h95 n3;rw [n1]at d1;rw [n2]at d2;have D1:=Lib.hid d1;have D2:=Lib.hid d2;clear h95 h95' hok1 hbad hg hn n1 n2 n3 d1 d2 hok;by_cases n5:s[k].toNat<48
         all_goals
          go_wp2_with (first
           | (go_at_call 82;(with_reducible refine(D1.out _).mono ?_);rintro e w' ⟨rfl,rfl⟩)
           | (go_at_call 83;(with_reducible refine(D2.out _).mono ?_);rintro e w' ⟨rfl,rfl⟩))
          go_ret;exact⟨qa7 V.out.symm,rfl⟩
        ·rw [hn]at hok1
         have OK:=Lib.hid hok1;rcases nm_cases _ hn with n1|⟨n1,n2⟩|⟨n1,n2,n3⟩|⟨n1,n2,n3,n4,n5⟩
         ·rw [n1]at d1
          have D1:=Lib.hid d1;clear h95 h95' hok1 hbad hg hn n1 d1 d2 hok
          go_wp2_with (go_at_call 82;(with_reducible refine(D1.out _).mono ?_);rintro e w' ⟨rfl,rfl⟩)
          go_round
          case rel=>exact⟨k+1,by omega,by omega,by go_num,OK⟩
          case measure=>simp [intOf];omega
         ·rw [n1]at d1
          rw [n2]at d2;have D1:=Lib.hid d1;have D2:=Lib.hid d2;clear h95 h95' hok1 hbad hg hn n1 n2 d1 d2 hok
          go_wp2_with (first
           | (go_at_call 82;(with_reducible refine(D1.out _).mono ?_);rintro e w' ⟨rfl,rfl⟩)
           | (go_at_call 83;(with_reducible refine(D2.out _).mono ?_);rintro e w' ⟨rfl,rfl⟩))
          go_round
          case rel=>exact⟨k+1,by omega,by omega,by go_num,OK⟩
          case measure=>simp [intOf];omega
         ·rw [n1]at d1
          rw [n2]at d2;have e95:=h95' n3;have D1:=Lib.hid d1;have D2:=Lib.hid d2;clear h95 h95' hok1 hbad hg hn n1 n2 n3 d1 d2 hok
          go_wp2_with (first
           | (go_at_call 82;(with_reducible refine(D1.out _).mono ?_);rintro e w' ⟨rfl,rfl⟩)
           | (go_at_call 83;(with_reducible refine(D2.out _).mono ?_);rintro e w' ⟨rfl,rfl⟩))
          go_round
          case rel=>exact⟨k+1,by omega,by omega,by go_num,OK⟩
          case measure=>simp [intOf];omega
         ·rw [n1]at d1
          rw [n2]at d2;have e95:=h95 n3;have D1:=Lib.hid d1;have D2:=Lib.hid d2;have m4:(48:Int)<=s[k].toNat:=by omega
          have m5:(s[k].toNat:Int)<=57:=by omega
          clear h95 h95' hok1 hbad hg hn n1 n2 n3 d1 d2 hok
          go_wp2_with (first
           | (go_at_call 82;(with_reducible refine(D1.out _).mono ?_);rintro e w' ⟨rfl,rfl⟩)
           | (go_at_call 83;(with_reducible refine(D2.out _).mono ?_);rintro e w' ⟨rfl,rfl⟩))
          go_round
          case rel=>exact⟨k+1,by omega,by omega,by go_num,OK⟩
          case measure=>simp [intOf];omega
       ·have hok2:=hok.out
        rw [List.take_of_length_le (by omega)]at hok2;have hv:Id.isPart l=true:=by rw [qi7 l hok2,decide_eq_true (by omega),decide_eq_true (by omega)];rfl
        have V:=Lib.hid hv;clear hv hok2 hok;go_wp2;go_ret;exact⟨qa7 V.out.symm,rfl⟩
    exact main _ c1 C2.out
  ·have hv:Id.isPart l=false:=by unfold Id.isPart;rw [decide_eq_false (by omega)];simp
   have V:=Lib.hid hv;clear hv h0 hsz
   go_enter Tryz.func61,Tryz.ntmps61
   go_wp2;go_ret
   exact⟨qa7 V.out.symm,rfl⟩
def fullG:List UInt8->List UInt8->Bool
 | cur,[]=>Id.isPart cur
 | cur,b :: r=>if b=46 then Id.isPart cur && fullG [] r else fullG (cur ++ [b]) r
theorem qh5 : ∀(r cur:List UInt8), ∃p ps,Id.cut 46 r=p :: ps/\fullG cur r=(Id.isPart (cur ++ p) && ps.all Id.isPart)
 | [],cur=>⟨[],[],rfl,by simp [fullG]⟩
 | b :: r,cur=>by
  by_cases hb:b=46
  ·subst hb
   obtain⟨p,ps,h1,h2⟩:=qh5 r [];refine⟨[],Id.cut 46 r,Id.cut_hit 46 r,?_⟩;rw [fullG,if_pos rfl,h2,h1];simp
  ·obtain⟨p,ps,h1,h2⟩:=qh5 r (cur ++ [b])
   refine⟨b :: p,ps,by rw [Id.cut_miss 46 b r hb,h1];rfl,?_⟩;rw [fullG,if_neg hb,h2];simp
theorem qpp (l:List UInt8):fullG [] l=(Id.cut 46 l).all Id.isPart:=by
 obtain⟨p,ps,h1,h2⟩:=qh5 l [];rw [h1,h2];simp
theorem qmm (s:ByteArray) (l:List UInt8) (w:World) (hl:s.data.toList=l) (hs:s.size<=1000000000) :
  Calls Tryz.prog 127 #[.string s] w fun e w'=>e=.returned (.bool (Id.isFull l))/\w=w':=by
 have hsz:l.length=s.size:=by rw [←hl];exact len_l s
 have hfull:Id.isFull l=(fullG [] l && decide (s.size<=120)):=by unfold Id.isFull;rw [qpp,hsz]
 have HL:=Lib.hid hl;have cp:=Lib.hid (fun(p:List UInt8) W (h:p.length<=120)=>qfm (S p) p W rfl (by rw [qbr];omega));clear hl;by_cases h120:s.size<=120
 ·rw [decide_eq_true h120,Bool.and_true]at hfull
  have F:=Lib.hid hfull;clear hfull
  go_enter Tryz.func127,Tryz.ntmps127
  go_wp2
  go_loop [3,4] (fun t i => ∃(k:Nat) (cur:List UInt8),k<=s.size/\t=.string (S cur)/\i=.int .i64 k/\cur.length<=k/\Hid (fullG cur (l.drop k)=Id.isFull l)) (fun _ i=>s.size-(intOf i).toNat)
  case atStart=>exact⟨0,[],by omega,rfl,rfl,by simp,Lib.hid F.out.symm⟩
  case round=>
   obtain⟨k,cur,hk,rfl,rfl,hcl,hr⟩:=hrel;by_cases hlt:k<s.size
   ·have hg:l[k]? = some (s[k]'hlt):=by rw [←HL.out];exact get_l s k hlt
    obtain⟨hkl,hge⟩:=List.getElem?_eq_some_iff.1 hg;have hdr:l.drop k=s[k] :: l.drop (k+1):=by rw [List.drop_eq_getElem_cons hkl,hge]
    have hstep:=hr.out;rw [hdr,fullG]at hstep;have r1:(k:Int)<s.size:=by omega
    have r2:s[k].toNat<256:=UInt8.toNat_lt _;have r3:(0:Int)<=k:=by omega
    by_cases hb:s[k]'hlt=46
    ·rw [if_pos hb]at hstep
     have hb':((s[k].toNat:Int) != 46)=false:=by rw [hb];rfl
     have c1:=fun W=>cp.out cur W (by omega)
     cases hp:Id.isPart cur
     ·rw [hp]at c1 hstep
      have C1:=Lib.hid c1;have HS:=Lib.hid hstep;clear hr hstep c1 hp hb hdr hge hg
      go_wp2_with (go_at_call 61;(with_reducible refine(C1.out _).mono ?_);rintro e w' ⟨rfl,rfl⟩)
      go_ret;exact⟨qa7 HS.out,rfl⟩
     ·rw [hp,Bool.true_and]at hstep
      rw [hp]at c1;have C1:=Lib.hid c1;have HS:=Lib.hid hstep;clear hr hstep c1 hp hb hdr hge hg
      go_wp2_with (go_at_call 61;(with_reducible refine(C1.out _).mono ?_);rintro e w' ⟨rfl,rfl⟩)
      go_round
      case rel=>exact⟨k+1,[],by omega,rfl,by go_num,by simp,HS⟩
      case measure=>simp [intOf];omega
    ·rw [if_neg hb]at hstep
     have hb':((s[k].toNat:Int) != 46)=true:=bne_iff_ne.2 (fun e=>hb (by apply UInt8.toNat_inj.1;show s[k].toNat=46;omega));have HS:=Lib.hid hstep
     have hx:s.extract k (k+1)=S [s[k]'hlt]:=by
      apply S_of;rw [qfg,HL.out,hdr];simp
     have X:=Lib.hid hx;have j1:(k:Int)+1<=s.size:=by omega
     have j2:k+1<=s.size:=by omega
     have j3:(S cur).size<=120:=by rw [qbr];omega
     clear hr hstep hb hdr hge hg hx;go_wp2;go_round
     case rel=>exact⟨k+1,cur ++ [s[k]'hlt],by omega,by rw [X.out,S_cat],by go_num,by simp;omega,HS⟩
     case measure=>simp [intOf];omega
   ·have hv:=hr.out
    rw [List.drop_eq_nil_of_le (by omega),fullG]at hv;have V:=Lib.hid hv;have C1:=Lib.hid (fun W=>cp.out cur W (by omega));clear hv hr
    go_wp2_with (go_at_call 61;(with_reducible refine(C1.out _).mono ?_);rintro e w' ⟨rfl,rfl⟩)
    go_ret;exact⟨qa7 V.out,rfl⟩
 ·rw [decide_eq_false h120,Bool.and_false]at hfull
  have F:=Lib.hid hfull;clear hfull
  go_enter Tryz.func127,Tryz.ntmps127
  go_wp2;go_ret
  exact⟨qa7 F.out.symm,rfl⟩
end
section
open Go.RowKit Ck
def idxI:Option Nat->Int
 | some k=>(k:Int)
 | none => -1
theorem qke (o:Option Nat):(0<=idxI o ↔ o.isSome=true):=by cases o <;> simp [idxI]
def enGo (n:Str):List PEnum->Nat->Option Nat
 | [],_=>none
 | m :: r,i=>if m.name=n then some i else enGo n r (i+1)
def enOf (s:PSchema) (n:Str):Option Nat:=enGo n s.enums 0
theorem qkk (n:Str) : ∀(l:List PEnum) (i k:Nat),enGo n l i=some k->i<=k/\∃m,l[k-i]? = some m/\l.find? (fun m=>m.name=n)=some m
 | [],i,k,h=>by simp [enGo]at h
 | m :: r,i,k,h=>by
  unfold enGo at h
  split at h
  ·rename_i hm
   injection h with h
   subst h;refine⟨Nat.le_refl _,m,by simp,by simp [hm]⟩
  ·rename_i hm
   obtain⟨h1,x,h2,h4⟩:=qkk n r (i+1) k h;refine⟨by omega,x,?_,by simp [hm,h4]⟩;rw [show k-i=(k-(i+1))+1 by omega]
   simpa using h2
theorem qkl (n:Str) : ∀(l:List PEnum) (i:Nat),enGo n l i=none ↔ l.find? (fun m=>m.name=n)=none
 | [],i=>by simp [enGo]
 | m :: r,i=>by
  have:=qkl n r (i+1);unfold enGo;by_cases hm:m.name=n
  ·simp [hm]
  ·simp [hm,this]
theorem qpt {s:PSchema} {n:Str} {k:Nat} (h:enOf s n=some k) : ∃m,s.enums[k]? = some m/\qg3 s n=some m:=by
 obtain⟨_,m,h2,h4⟩:=qkk n s.enums 0 k h;exact⟨m,by simpa using h2,h4⟩
theorem enOf_none {s:PSchema} {n:Str}:enOf s n=none ↔ qg3 s n=none:=qkl n s.enums 0
theorem qlf (s:PSchema) (n:Str):(enOf s n).isSome=(qg3 s n).isSome:=by
 have := @enOf_none s n;cases h1:enOf s n <;> cases h2:qg3 s n <;> simp_all
theorem qcc (sq1 sq2 sq3:Option Addr) (sc1 sc2 sc3:Nat) (s:PSchema) (n:Str) (w:World) (hs:VSchema w [.slice sq1 s.msgs.length sc1,.slice sq2 s.enums.length sc2,.slice sq3 s.svcs.length sc3] s) :
  Calls Tryz.prog 111 #[.agg #[.slice sq1 s.msgs.length sc1,.slice sq2 s.enums.length sc2,.slice sq3 s.svcs.length sc3],.string (S n)] w fun e w'=>e=.returned (.int .i64 (idxI (idxOf s n)))/\Below w.heap.size w w':=by
 have KB:=Lib.hid (fun W' (k:Bel (w.alloc (.cells #[.slice sq1 s.msgs.length sc1,.slice sq2 s.enums.length sc2,.slice sq3 s.svcs.length sc3] 26)) W')=>show W'.cell? ⟨w.heap.size,0,none⟩=some (.slice sq1 s.msgs.length sc1)/\W'.cell? ⟨w.heap.size,1,none⟩=some (.slice sq2 s.enums.length sc2)/\W'.cell? ⟨w.heap.size,2,none⟩=some (.slice sq3 s.svcs.length sc3)from⟨k.some ((World.cell?_alloc_at _ _ _ _ rfl).trans rfl),k.some ((World.cell?_alloc_at _ _ _ _ rfl).trans rfl),k.some ((World.cell?_alloc_at _ _ _ _ rfl).trans rfl)⟩);have kb:Bel w (w.alloc (.cells #[.slice sq1 s.msgs.length sc1,.slice sq2 s.enums.length sc2,.slice sq3 s.svcs.length sc3] 26)):=(Bel.refl _).alloc _;obtain⟨_,_,_,hcs,hm1,hm2,hm3⟩:=id hs;cases hcs;have HM1:=Lib.hid hm1;have hll:s.msgs.length<=140737488355328:=by obtain⟨_,_,_,h,_⟩:=hm1;exact h
 clear hm1 hm2 hm3 hs;have HV:=Lib.hid (show idxGo n (s.msgs.drop 0) 0=idxOf s n from rfl);generalize idxOf s n=R at HV
 go_enter Tryz.func111,Tryz.ntmps111
 go_wp2
 go_loopw [5] (fun i wr => ∃k:Nat,k<=s.msgs.length/\i=.int .i64 k/\Bel (w.alloc (.cells #[.slice sq1 s.msgs.length sc1,.slice sq2 s.enums.length sc2,.slice sq3 s.svcs.length sc3] 26)) wr/\Hid (idxGo n (s.msgs.drop k) k=R)) (fun i _=>s.msgs.length-(intOf i).toNat)
 case atStart=>exact⟨0,by omega,rfl,Bel.refl _,HV⟩
 case round=>
  obtain⟨k,hk,rfl,kw,hgo⟩:=hrel;obtain⟨c0,c1,c2⟩:=KB.out _ kw;have hb0:Bel w wr:=Bel.of kb kw.out;by_cases hlt:k<s.msgs.length
  ·have hki:(k:Int)<(s.msgs.length:Int):=by omega
   have hk0:(0:Int)<=(k:Int):=by omega
   have hg:=List.getElem?_eq_getElem hlt;have hlist:=HM1.out;obtain⟨qq,cq,hqe,_,_,hel⟩:=hlist;cases hqe;obtain⟨b,off,hqq,hbs,cs,hce,hvs⟩:=hel k _ hg;have hdr:s.msgs.drop k=s.msgs[k] :: s.msgs.drop (k+1):=List.drop_eq_getElem_cons hlt;have hst:=hgo.out;rw [hdr]at hst;unfold idxGo at hst;subst hqq;obtain⟨_,_,_,_,hvv,_⟩:=hvs;subst hvv;have e0:=hb0.some (hce 0 _ rfl);rw [Nat.add_zero]at e0;have HST:=Lib.hid hst;clear hst hgo hdr hg hel hce;generalize s.msgs[k]=x at *;by_cases hn:x.name=n
   ·have qn:((S x.name).toList == (S n).toList)=true:=by rw [eq_S];exact decide_eq_true hn
    have hR:=Lib.hid (show(k:Int)=idxI R by have:=HST.out;rw [if_pos hn]at this;rw [←this];rfl);clear hn HST;go_wp2;go_ret;exact⟨qbj hR.out,hb0.out⟩
   ·have qn:((S x.name).toList == (S n).toList)=false:=by rw [eq_S];exact decide_eq_false hn
    have HG:=Lib.hid (show idxGo n (s.msgs.drop (k+1)) (k+1)=R by have:=HST.out;rw [if_neg hn]at this;exact this);clear hn HST;go_wp2;exact⟨⟨k+1,by omega,by go_num,kw,HG⟩,by simp [intOf];omega⟩
  ·have hki : ¬(k:Int)<(s.msgs.length:Int):=by omega
   have hR:=Lib.hid (show(-1:Int)=idxI R by
    have:=hgo.out;rw [show k=s.msgs.length by omega,List.drop_length]at this
    rw [←this];rfl)
   clear hgo;go_wp2;go_ret;exact⟨qbj hR.out,hb0.out⟩
theorem qhm (sq1 sq2 sq3:Option Addr) (sc1 sc2 sc3:Nat) (s:PSchema) (n:Str) (w:World) (hs:VSchema w [.slice sq1 s.msgs.length sc1,.slice sq2 s.enums.length sc2,.slice sq3 s.svcs.length sc3] s) :
  Calls Tryz.prog 130 #[.agg #[.slice sq1 s.msgs.length sc1,.slice sq2 s.enums.length sc2,.slice sq3 s.svcs.length sc3],.string (S n)] w fun e w'=>e=.returned (.int .i64 (idxI (enOf s n)))/\Below w.heap.size w w':=by
 have KB:=Lib.hid (fun W' (k:Bel (w.alloc (.cells #[.slice sq1 s.msgs.length sc1,.slice sq2 s.enums.length sc2,.slice sq3 s.svcs.length sc3] 26)) W')=>show W'.cell? ⟨w.heap.size,0,none⟩=some (.slice sq1 s.msgs.length sc1)/\W'.cell? ⟨w.heap.size,1,none⟩=some (.slice sq2 s.enums.length sc2)/\W'.cell? ⟨w.heap.size,2,none⟩=some (.slice sq3 s.svcs.length sc3)from⟨k.some ((World.cell?_alloc_at _ _ _ _ rfl).trans rfl),k.some ((World.cell?_alloc_at _ _ _ _ rfl).trans rfl),k.some ((World.cell?_alloc_at _ _ _ _ rfl).trans rfl)⟩);have kb:Bel w (w.alloc (.cells #[.slice sq1 s.msgs.length sc1,.slice sq2 s.enums.length sc2,.slice sq3 s.svcs.length sc3] 26)):=(Bel.refl _).alloc _;obtain⟨_,_,_,hcs,hm1,hm2,hm3⟩:=id hs;cases hcs;have HM1:=Lib.hid hm2;have hll:s.enums.length<=140737488355328:=by obtain⟨_,_,_,h,_⟩:=hm2;exact h
 clear hm1 hm2 hm3 hs;have HV:=Lib.hid (show enGo n (s.enums.drop 0) 0=enOf s n from rfl);generalize enOf s n=R at HV
 go_enter Tryz.func130,Tryz.ntmps130
 go_wp2
 go_loopw [5] (fun i wr => ∃k:Nat,k<=s.enums.length/\i=.int .i64 k/\Bel (w.alloc (.cells #[.slice sq1 s.msgs.length sc1,.slice sq2 s.enums.length sc2,.slice sq3 s.svcs.length sc3] 26)) wr/\Hid (enGo n (s.enums.drop k) k=R)) (fun i _=>s.enums.length-(intOf i).toNat)
 case atStart=>exact⟨0,by omega,rfl,Bel.refl _,HV⟩
 case round=>
  obtain⟨k,hk,rfl,kw,hgo⟩:=hrel;obtain⟨c0,c1,c2⟩:=KB.out _ kw;have hb0:Bel w wr:=Bel.of kb kw.out;by_cases hlt:k<s.enums.length
  ·have hki:(k:Int)<(s.enums.length:Int):=by omega
   have hk0:(0:Int)<=(k:Int):=by omega
   have hg:=List.getElem?_eq_getElem hlt;have hlist:=HM1.out;obtain⟨qq,cq,hqe,_,_,hel⟩:=hlist;cases hqe;obtain⟨b,off,hqq,hbs,cs,hce,hvs⟩:=hel k _ hg;have hdr:s.enums.drop k=s.enums[k] :: s.enums.drop (k+1):=List.drop_eq_getElem_cons hlt;have hst:=hgo.out;rw [hdr]at hst;unfold enGo at hst;subst hqq;obtain⟨_,_,_,hvv,_⟩:=hvs;subst hvv;have e0:=hb0.some (hce 0 _ rfl);rw [Nat.add_zero]at e0;have HST:=Lib.hid hst;clear hst hgo hdr hg hel hce;generalize s.enums[k]=x at *;by_cases hn:x.name=n
   ·have qn:((S x.name).toList == (S n).toList)=true:=by rw [eq_S];exact decide_eq_true hn
    have hR:=Lib.hid (show(k:Int)=idxI R by have:=HST.out;rw [if_pos hn]at this;rw [←this];rfl);clear hn HST;go_wp2;go_ret;exact⟨qbj hR.out,hb0.out⟩
   ·have qn:((S x.name).toList == (S n).toList)=false:=by rw [eq_S];exact decide_eq_false hn
    have HG:=Lib.hid (show enGo n (s.enums.drop (k+1)) (k+1)=R by have:=HST.out;rw [if_neg hn]at this;exact this);clear hn HST;go_wp2;exact⟨⟨k+1,by omega,by go_num,kw,HG⟩,by simp [intOf];omega⟩
  ·have hki : ¬(k:Int)<(s.enums.length:Int):=by omega
   have hR:=Lib.hid (show(-1:Int)=idxI R by
    have:=hgo.out;rw [show k=s.enums.length by omega,List.drop_length]at this
    rw [←this];rfl)
   clear hgo;go_wp2;go_ret;exact⟨qbj hR.out,hb0.out⟩
theorem qgf (v:Value) (l:List PSpan) (n:Int) (w:World) (hv:Spans w v l) :
  Calls Tryz.prog 103 #[v,.int .i64 n] w fun e w'=>e=.returned (.bool (qcs l n))/\Below w.heap.size w w':=by
 obtain⟨q,c,rfl,hll,hcc,hel⟩:=hv;have EL:=Lib.hid hel;have HV:=Lib.hid (show(l.drop 0).any (fun x=>decide (x.lo<=n/\n<=x.hi))=qcs l n from rfl);generalize qcs l n=R at HV;clear hel
 go_enter Tryz.func103,Tryz.ntmps103
 go_wp2
 go_loopw [5] (fun i wr => ∃k:Nat,k<=l.length/\i=.int .i64 k/\Bel w wr/\Hid ((l.drop k).any (fun x=>decide (x.lo<=n/\n<=x.hi))=R)) (fun i _=>l.length-(intOf i).toNat)
 case atStart=>exact⟨0,by omega,rfl,Bel.refl _,HV⟩
 case round=>
  obtain⟨k,hk,rfl,kw,hgo⟩:=hrel;by_cases hlt:k<l.length
  ·have hki:(k:Int)<(l.length:Int):=by omega
   have hk0:(0:Int)<=(k:Int):=by omega
   have hg:=List.getElem?_eq_getElem hlt;obtain⟨b,off,rfl,hbs,cs,hce,hvs⟩:=EL.out k _ hg;have hdr:l.drop k=l[k] :: l.drop (k+1):=List.drop_eq_getElem_cons hlt;have hst:=hgo.out;rw [hdr,List.any_cons]at hst;have HST:=Lib.hid hst;have hvs':cs=[.int .i64 l[k].lo,.int .i64 l[k].hi]:=hvs;subst hvs';have e0:=kw.some (hce 0 _ rfl);rw [Nat.add_zero]at e0;have e1:=kw.some (hce 1 _ rfl);clear hst hgo hdr hg hce hvs;generalize l[k]=x at *;by_cases h1:x.lo<=n
   ·by_cases h2:n<=x.hi
    ·have hR:=Lib.hid (show true=R by rw [←HST.out,decide_eq_true ⟨h1,h2⟩];rfl)
     clear HST;go_wp2;go_ret;exact⟨qa7 hR.out,kw.out⟩
    ·have HG:=Lib.hid (show(l.drop (k+1)).any (fun x=>decide (x.lo<=n/\n<=x.hi))=R by rw [←HST.out,decide_eq_false (fun h=>h2 h.2),Bool.false_or])
     clear HST;go_wp2;exact⟨⟨k+1,by omega,by go_num,kw,HG⟩,by simp [intOf];omega⟩
   ·have HG:=Lib.hid (show(l.drop (k+1)).any (fun x=>decide (x.lo<=n/\n<=x.hi))=R by rw [←HST.out,decide_eq_false (fun h=>h1 h.1),Bool.false_or])
    clear HST;go_wp2;exact⟨⟨k+1,by omega,by go_num,kw,HG⟩,by simp [intOf];omega⟩
  ·have hki : ¬(k:Int)<(l.length:Int):=by omega
   have hR:=Lib.hid (show false=R by
    have:=hgo.out;rw [show k=l.length by omega,List.drop_length]at this
    rw [←this];rfl)
   clear hgo;go_wp2;go_ret;exact⟨qa7 hR.out,kw.out⟩
theorem rk_card (fu:Int) (fn:Str) (fca fke ftk:Int) (ftn fun0:Str) (fhd:Bool) (fvk fvx:Int) (fvt:Str) (fr1 fr2 fr3 fr4 fr5:Option Addr) (fm1 fd1 fm2 fd2 fm3 fd3 fm4 fd4 fm5 fd5:Nat) (w:World) :
  Calls Tryz.prog 104 #[.agg #[.int .i64 fu,.string (S fn),.int .i64 fca,.int .i64 fke,.int .i64 ftk,.string (S ftn),.string (S fun0),.bool fhd,.int .i64 fvk,.int .u64 fvx,.string (S fvt),.slice fr1 fm1 fd1,.slice fr2 fm2 fd2,.slice fr3 fm3 fd3,.slice fr4 fm4 fd4,.slice fr5 fm5 fd5]] w fun e w'=>e=.returned (.bool (decide (1<=fca/\fca<=5) && keyed fca fke))/\Below w.heap.size w w':=by
 have HV:=Lib.hid (show(decide (1<=fca/\fca<=5) && keyed fca fke)=(decide (1<=fca/\fca<=5) && (if fca ≠ 5 then decide (fke=0)else decide (1<=fke/\fke<=7/\fke ≠ 6)))from rfl);generalize (decide (1<=fca/\fca<=5) && keyed fca fke)=R at HV
 go_enter Tryz.func104,Tryz.ntmps104
 by_cases h5:fca=5
 ·have q5:(fca != 5)=false:=by rw [h5];rfl
  have HR:=Lib.hid (show R=decide (1<=fke/\fke<=7/\fke ≠ 6)by rw [HV.out,h5];simp);clear HV h5;go_wp2
  all_goals go_ret
  all_goals refine⟨qa7 ?_,Bel.out (by(repeat (first|(with_reducible assumption)|(with_reducible exact Bel.refl _)|(with_reducible refine Bel.drew ?_)|(with_reducible refine Bel.drewN ?_ _)|(with_reducible refine Bel.alloc ?_ _)|((with_reducible refine qbf ?_ ?hge);(case hge=>(first|omega|(simp;omega)))))))⟩
  all_goals rw [HR.out,Bool.eq_iff_iff]
  all_goals simp
  all_goals (first|done|omega|(simp_all;done)|(simp_all;omega))
 ·have q5:(fca != 5)=true:=by rw [bne_iff_ne];exact h5
  have HR:=Lib.hid (show R=(decide (1<=fca/\fca<=4) && decide (fke=0))by rw [HV.out,if_pos h5];congr 1;rw [decide_eq_decide];omega);clear HV;go_wp2
  all_goals go_ret
  all_goals refine⟨qa7 ?_,Bel.out (by(repeat (first|(with_reducible assumption)|(with_reducible exact Bel.refl _)|(with_reducible refine Bel.drew ?_)|(with_reducible refine Bel.drewN ?_ _)|(with_reducible refine Bel.alloc ?_ _)|((with_reducible refine qbf ?_ ?hge);(case hge=>(first|omega|(simp;omega)))))))⟩
  all_goals rw [HR.out,Bool.eq_iff_iff]
  all_goals simp
  all_goals (first|done|omega|(simp_all;done)|(simp_all;omega))
theorem rk_typ (sq1 sq2 sq3:Option Addr) (sc1 sc2 sc3:Nat) (s:PSchema) (fu:Int) (fn:Str) (fca fke ftk:Int) (ftn fun0:Str) (fhd:Bool) (fvk fvx:Int) (fvt:Str) (fr1 fr2 fr3 fr4 fr5:Option Addr) (fm1 fd1 fm2 fd2 fm3 fd3 fm4 fd4 fm5 fd5:Nat) (nts:List PNote) (w:World) (hs:VSchema w [.slice sq1 s.msgs.length sc1,.slice sq2 s.enums.length sc2,.slice sq3 s.svcs.length sc3] s) :
  Calls Tryz.prog 105 #[.agg #[.slice sq1 s.msgs.length sc1,.slice sq2 s.enums.length sc2,.slice sq3 s.svcs.length sc3],.agg #[.int .i64 fu,.string (S fn),.int .i64 fca,.int .i64 fke,.int .i64 ftk,.string (S ftn),.string (S fun0),.bool fhd,.int .i64 fvk,.int .u64 fvx,.string (S fvt),.slice fr1 fm1 fd1,.slice fr2 fm2 fd2,.slice fr3 fm3 fd3,.slice fr4 fm4 fd4,.slice fr5 fm5 fd5]] w fun e w'=>e=.returned (.bool (typed s ⟨fu,fn,fca,fke,ftk,ftn,fun0,fhd,⟨fvk,fvx,fvt,fm1,fm2,fm3,fm4⟩,nts⟩))/\Below w.heap.size w w':=by
 have V:typed s ⟨fu,fn,fca,fke,ftk,ftn,fun0,fhd,⟨fvk,fvx,fvt,fm1,fm2,fm3,fm4⟩,nts⟩=if 1<=ftk/\ftk<=8 then decide (ftn=[])else if ftk=9 then(qg3 s ftn).isSome else if ftk=10 then(msgOf s ftn).isSome && decide (fca ≠ 3)else false:=rfl
 have hce:=fun W (k:Bel w W)=>qhm sq1 sq2 sq3 sc1 sc2 sc3 s ftn W (hs.stays_bel k)
 have hcm:=fun W (k:Bel w W)=>qcc sq1 sq2 sq3 sc1 sc2 sc3 s ftn W (hs.stays_bel k)
 have n1:=qke (enOf s ftn);have n2:=qke (idxOf s ftn);rw [qlf]at n1;rw [qc8]at n2;have HV:=Lib.hid V;clear V hs;generalize typed s ⟨fu,fn,fca,fke,ftk,ftn,fun0,fhd,⟨fvk,fvx,fvt,fm1,fm2,fm3,fm4⟩,nts⟩=R at HV;generalize idxI (enOf s ftn)=E at hce n1;generalize idxI (idxOf s ftn)=M at hcm n2;generalize (qg3 s ftn).isSome=eb at n1 HV;generalize (msgOf s ftn).isSome=mb at n2 HV;have CE:=Lib.hid hce;have CM:=Lib.hid hcm;have N1:=Lib.hid n1;have N2:=Lib.hid n2;clear hce hcm n1 n2
 go_enter Tryz.func105,Tryz.ntmps105
 by_cases h9:ftk=9
 ·have q9:(ftk == 9)=true:=by rw [h9];rfl
  have HR:=Lib.hid (show R=eb by rw [HV.out,if_neg (by omega),if_pos h9]);clear HV h9
  go_wp2_with (go_at_call 130;(with_reducible refine(CE.out _ (by(with_reducible repeat first|assumption|exact Bel.refl _|refine Bel.drew ?_|refine Bel.drewN ?_ _|refine Bel.alloc ?_ _))).mono ?_);rintro e w1 ⟨rfl,g1⟩;have k1:Bel w w1:=Bel.of (by(with_reducible repeat first|assumption|exact Bel.refl _|refine Bel.drew ?_|refine Bel.drewN ?_ _|refine Bel.alloc ?_ _)) g1;clear g1)
  all_goals go_ret
  all_goals refine⟨qa7 ?_,k1.out⟩
  all_goals rw [HR.out,Bool.eq_iff_iff, ←N1.out]
  all_goals simp
 ·have q9:(ftk == 9)=false:=beq_eq_false_iff_ne.2 h9
  by_cases h10:ftk=10
  ·have q10:(ftk == 10)=true:=by rw [h10];rfl
   have HR:=Lib.hid (show R=(mb && decide (fca ≠ 3))by rw [HV.out,if_neg (by omega),if_neg h9,if_pos h10]);clear HV h10
   go_wp2_with (go_at_call 111;(with_reducible refine(CM.out _ (by(with_reducible repeat first|assumption|exact Bel.refl _|refine Bel.drew ?_|refine Bel.drewN ?_ _|refine Bel.alloc ?_ _))).mono ?_);rintro e w1 ⟨rfl,g1⟩;have k1:Bel w w1:=Bel.of (by(with_reducible repeat first|assumption|exact Bel.refl _|refine Bel.drew ?_|refine Bel.drewN ?_ _|refine Bel.alloc ?_ _)) g1;obtain⟨hc,hf⟩:=bcell g1;have hz:=g1.size;simp at hz;have hx1:w.heap.size+1<w1.heap.size:=(by omega);have hy1:w.heap.size<w1.heap.size:=(by omega);clear g1)
   all_goals go_ret
   all_goals refine⟨qa7 ?_,k1.out⟩
   all_goals rw [HR.out,Bool.eq_iff_iff,Bool.and_eq_true, ←N2.out]
   all_goals simp
   all_goals (first|done|omega|(simp_all;done)|(simp_all;omega))
  ·have q10:(ftk == 10)=false:=beq_eq_false_iff_ne.2 h10
   have HR:=Lib.hid (show R=(decide (1<=ftk/\ftk<=8) && decide (ftn=[]))by
    rw [HV.out,if_neg h9,if_neg h10];by_cases h:1<=ftk/\ftk<=8
    ·rw [if_pos h,decide_eq_true h,Bool.true_and]
    ·rw [if_neg h,decide_eq_false h,Bool.false_and])
   clear HV h9 h10;have hte:ftn=[] ∨ ftn ≠ []:=by by_cases h:ftn=[];exact .inl h;exact .inr h
   rcases hte with ht|ht
   ·subst ht
    have he:(S []).toList=[]:=qif [] rfl;have he2:(S []).toList.isEmpty=true:=by rw [he];rfl
    go_wp2
    all_goals go_ret
    all_goals refine⟨qa7 ?_,Bel.out (by(repeat (first|(with_reducible assumption)|(with_reducible exact Bel.refl _)|(with_reducible refine Bel.drew ?_)|(with_reducible refine Bel.drewN ?_ _)|(with_reducible refine Bel.alloc ?_ _)|((with_reducible refine qbf ?_ ?hge);(case hge=>(first|omega|(simp;omega)))))))⟩
    all_goals rw [HR.out,Bool.eq_iff_iff]
    all_goals simp
    all_goals (first|done|omega|(simp_all;done)|(simp_all;omega))
   ·have he:=qd0 ftn ht
    have he2:=qdc ftn ht;have HR2:=Lib.hid (show R=false by rw [HR.out,decide_eq_false ht,Bool.and_false]);clear HR ht;go_wp2
    all_goals go_ret
    all_goals refine⟨qa7 ?_,Bel.out (by(repeat (first|(with_reducible assumption)|(with_reducible exact Bel.refl _)|(with_reducible refine Bel.drew ?_)|(with_reducible refine Bel.drewN ?_ _)|(with_reducible refine Bel.alloc ?_ _)|((with_reducible refine qbf ?_ ?hge);(case hge=>(first|omega|(simp;omega)))))))⟩
    all_goals rw [HR2.out]
    all_goals (first|rfl|(simp;done)|(simp_all;done))
theorem qcd (l:Str) (w:World) (hl:l.length<=1000000000000000) :
  Calls Tryz.prog 102 #[.string (S l)] w fun e w'=>e=.returned (.bool (qar l))/\Below w.heap.size w w':=by
 have HV:=Lib.hid (show qar l=(Id.isPart l && !Id.isWord l)from rfl);have c1:=Lib.hid (fun W=>qfm (S l) l W rfl (by rw [qbr];exact hl));have c2:=Lib.hid (fun W=>qhp (S l) l W rfl);generalize qar l=R at HV;generalize Id.isPart l=P at c1 HV;generalize Id.isWord l=Q at c2 HV
 go_enter Tryz.func102,Tryz.ntmps102
 cases P
 all_goals
  go_wp2_with (first
   | (go_at_call 61;(with_reducible refine(c1.out _).mono ?_);rintro e w1 ⟨rfl,rfl⟩)
   | (go_at_call 129;(with_reducible refine(c2.out _).mono ?_);rintro e w2 ⟨rfl,rfl⟩))
  all_goals go_ret
  all_goals exact⟨qa7 (by rw [HV.out];simp),Below.refl _ _⟩
theorem qeq (avk avx:Int) (avt:Str) (ar1 ar2 ar3 ar4:Option Addr) (am1 ad1 am2 ad2 am3 ad3 am4 ad4:Nat) (bvk bvx:Int) (bvt:Str) (br1 br2 br3 br4:Option Addr) (bm1 bd1 bm2 bd2 bm3 bd3 bm4 bd4:Nat) (w:World) (ha1:am1<=140737488355328) (ha2:am2<=140737488355328) (ha3:am3<=140737488355328) (ha4:am4<=140737488355328) (hb1:bm1<=140737488355328) (hb2:bm2<=140737488355328) (hb3:bm3<=140737488355328) (hb4:bm4<=140737488355328) :
  Calls Tryz.prog 131 #[.agg #[.int .i64 avk,.int .u64 avx,.string (S avt),.slice ar1 am1 ad1,.slice ar2 am2 ad2,.slice ar3 am3 ad3,.slice ar4 am4 ad4],.agg #[.int .i64 bvk,.int .u64 bvx,.string (S bvt),.slice br1 bm1 bd1,.slice br2 bm2 bd2,.slice br3 bm3 bd3,.slice br4 bm4 bd4]] w fun e w'=>e=.returned (.bool (decide (avk=bvk) && (decide (avx=bvx) && (decide (avt=bvt) && decide (am1+am2+am3+am4+bm1+bm2+bm3+bm4=0)))))/\Below w.heap.size w w':=by
 obtain⟨R,hR⟩ : ∃R,R=(decide (avk=bvk) && (decide (avx=bvx) && (decide (avt=bvt) && decide (am1+am2+am3+am4+bm1+bm2+bm3+bm4=0)))):=⟨_,rfl⟩;rw [←hR];have HV:=Lib.hid hR;clear hR;have s0:IntKind.i64.wrap ((am1:Int)+(am2:Int))=(am1:Int)+(am2:Int):=IntWalk.i64_in _ (by omega);have s1:IntKind.i64.wrap ((am1:Int)+(am2:Int)+(am3:Int))=(am1:Int)+(am2:Int)+(am3:Int):=IntWalk.i64_in _ (by omega);have s2:IntKind.i64.wrap ((am1:Int)+(am2:Int)+(am3:Int)+(am4:Int))=(am1:Int)+(am2:Int)+(am3:Int)+(am4:Int):=IntWalk.i64_in _ (by omega);have s3:IntKind.i64.wrap ((am1:Int)+(am2:Int)+(am3:Int)+(am4:Int)+(bm1:Int))=(am1:Int)+(am2:Int)+(am3:Int)+(am4:Int)+(bm1:Int):=IntWalk.i64_in _ (by omega);have s4:IntKind.i64.wrap ((am1:Int)+(am2:Int)+(am3:Int)+(am4:Int)+(bm1:Int)+(bm2:Int))=(am1:Int)+(am2:Int)+(am3:Int)+(am4:Int)+(bm1:Int)+(bm2:Int):=IntWalk.i64_in _ (by omega);have s5:IntKind.i64.wrap ((am1:Int)+(am2:Int)+(am3:Int)+(am4:Int)+(bm1:Int)+(bm2:Int)+(bm3:Int))=(am1:Int)+(am2:Int)+(am3:Int)+(am4:Int)+(bm1:Int)+(bm2:Int)+(bm3:Int):=IntWalk.i64_in _ (by omega);have s6:IntKind.i64.wrap ((am1:Int)+(am2:Int)+(am3:Int)+(am4:Int)+(bm1:Int)+(bm2:Int)+(bm3:Int)+(bm4:Int))=(am1:Int)+(am2:Int)+(am3:Int)+(am4:Int)+(bm1:Int)+(bm2:Int)+(bm3:Int)+(bm4:Int):=IntWalk.i64_in _ (by omega)
 go_enter Tryz.func131,Tryz.ntmps131
 by_cases hk:avk=bvk
 ·have qk:(avk == bvk)=true:=by rw [hk];simp
  by_cases hx:avx=bvx
  ·have qx:(avx == bvx)=true:=by rw [hx];simp
   by_cases ht:avt=bvt
   ·have qt:((S avt).toList == (S bvt).toList)=true:=by rw [eq_S];exact decide_eq_true ht
    have HR:=Lib.hid (show R=decide (am1+am2+am3+am4+bm1+bm2+bm3+bm4=0)by rw [HV.out,decide_eq_true hk,decide_eq_true hx,decide_eq_true ht];rfl);clear HV hk hx ht;go_wp2
    all_goals go_ret
    all_goals refine⟨qa7 ?_,Bel.out (by(repeat (first|(with_reducible assumption)|(with_reducible exact Bel.refl _)|(with_reducible refine Bel.drew ?_)|(with_reducible refine Bel.drewN ?_ _)|(with_reducible refine Bel.alloc ?_ _)|((with_reducible refine qbf ?_ ?hge);(case hge=>(first|omega|(simp;omega)))))))⟩
    all_goals rw [HR.out,Bool.eq_iff_iff]
    all_goals simp
    all_goals omega
   ·have qt:((S avt).toList == (S bvt).toList)=false:=by rw [eq_S];exact decide_eq_false ht
    have HR:=Lib.hid (show R=false by rw [HV.out,decide_eq_false ht,Bool.false_and,Bool.and_false,Bool.and_false]);clear HV hk hx ht;go_wp2
    all_goals go_ret
    all_goals exact⟨qa7 HR.out.symm,Bel.out (by(repeat (first|(with_reducible assumption)|(with_reducible exact Bel.refl _)|(with_reducible refine Bel.drew ?_)|(with_reducible refine Bel.drewN ?_ _)|(with_reducible refine Bel.alloc ?_ _)|((with_reducible refine qbf ?_ ?hge);(case hge=>(first|omega|(simp;omega)))))))⟩
  ·have qx:(avx == bvx)=false:=beq_eq_false_iff_ne.2 hx
   have HR:=Lib.hid (show R=false by rw [HV.out,decide_eq_false hx,Bool.false_and,Bool.and_false]);clear HV hk hx;go_wp2
   all_goals go_ret
   all_goals exact⟨qa7 HR.out.symm,Bel.out (by(repeat (first|(with_reducible assumption)|(with_reducible exact Bel.refl _)|(with_reducible refine Bel.drew ?_)|(with_reducible refine Bel.drewN ?_ _)|(with_reducible refine Bel.alloc ?_ _)|((with_reducible refine qbf ?_ ?hge);(case hge=>(first|omega|(simp;omega)))))))⟩
 ·have qk:(avk == bvk)=false:=beq_eq_false_iff_ne.2 hk
  have HR:=Lib.hid (show R=false by rw [HV.out,decide_eq_false hk,Bool.false_and]);clear HV hk;go_wp2
  all_goals go_ret
  all_goals exact⟨qa7 HR.out.symm,Bel.out (by(repeat (first|(with_reducible assumption)|(with_reducible exact Bel.refl _)|(with_reducible refine Bel.drew ?_)|(with_reducible refine Bel.drewN ?_ _)|(with_reducible refine Bel.alloc ?_ _)|((with_reducible refine qbf ?_ ?hge);(case hge=>(first|omega|(simp;omega)))))))⟩
end
end Go.Proofs.YtaaneecceiefoaaGreatDoor
