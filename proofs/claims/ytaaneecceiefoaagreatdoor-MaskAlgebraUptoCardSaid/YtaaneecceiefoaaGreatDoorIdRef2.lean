import Derived.Test.YtaaneecceiefoaaGreatDoorCkOut
set_option maxRecDepth 100000
set_option maxHeartbeats 4000000
set_option linter.unusedVariables false
set_option linter.unusedSimpArgs false
namespace Go.Proofs.YtaaneecceiefoaaGreatDoor
section
open Go.RowKit
theorem qgd (s:ByteArray) (l:List UInt8) (w:World) (hl:s.data.toList=l) :
  Calls Tryz.prog 129 #[.string s] w fun e w'=>e=.returned (.bool (Id.isWord l))/\w=w':=by
 have hb:s.toList=l:=by rw [ByteArray.toList_eq];exact hl
 have H:=Lib.hid hb;clear hl hb
 go_enter Tryz.func129,Tryz.ntmps129
 go_wp2
 all_goals go_ret
 all_goals
  refine⟨qa4 ?_,rfl⟩;simp only [H.out,beq_iff_eq,beq_eq_false_iff_ne,ne_eq]at *
  first
  | contradiction
  | (symm;apply word_of;subst l;decide)
  | (symm;apply decide_eq_false;simp only [Id.words,List.mem_cons,List.not_mem_nil,or_false,not_or];(repeat' (first|assumption|apply And.intro));done)
theorem qmp (b:UInt8) (w:World):Calls Tryz.prog 82 #[.int .u8 (b.toNat:Int)] w fun e w'=>e=.returned (.bool (Id.smB b))/\w=w':=by
 have hb:=b.toNat_lt
 go_enter Tryz.func82,Tryz.ntmps82
 go_wp2
 all_goals go_ret
 all_goals exact⟨qa4 (by rw [Bool.eq_iff_iff];simp [Id.smB]at *;try omega),rfl⟩
theorem qja (b:UInt8) (w:World):Calls Tryz.prog 83 #[.int .u8 (b.toNat:Int)] w fun e w'=>e=.returned (.bool (Id.caB b))/\w=w':=by
 have hb:=b.toNat_lt
 go_enter Tryz.func83,Tryz.ntmps83
 go_wp2
 all_goals go_ret
 all_goals exact⟨qa4 (by rw [Bool.eq_iff_iff];simp [Id.caB]at *;try omega),rfl⟩
theorem qmq (s:ByteArray) (l:List UInt8) (w:World) (hl:s.data.toList=l) (hs:s.size<=1000000000) :
  Calls Tryz.prog 128 #[.string s] w fun e w'=>e=.returned (.tuple #[.string (S (Id.splitL l).1),.string (S (Id.splitL l).2)])/\∃n,w.drewN n=w':=by
 have hsz:l.length=s.size:=by rw [←hl];exact len_l s
 have HL:=Lib.hid hl;clear hl
 go_enter Tryz.func128,Tryz.ntmps128
 go_wp2
 go_loopw [4] (fun i wr => ∃k:Nat,k<=s.size/\i=.int .i64 ((k:Int)-1)/\w=wr/\Hid (∀j,k<=j->l[j]? ≠ some 46)) (fun i _=>(intOf i+1).toNat)
 case atStart=>exact⟨s.size,Nat.le_refl _,rfl,rfl,Lib.hid (fun j hj=>by rw [List.getElem?_eq_none (by omega)];simp)⟩
 case round=>
  obtain⟨k,hk,rfl,rfl,hno⟩:=hrel;cases k with
  | zero=>
   have hd:Id.lastDot l = -1:=(Id.lastDot_none l).2 fun hm=>by
    obtain⟨j,hj⟩:=List.mem_iff_getElem?.1 hm;exact hno.out j (by omega) hj
   have hv:Id.splitL l=([],l):=by unfold Id.splitL;rw [if_pos hd]
   have V:=Lib.hid hv;have hneg : ¬((0:Int)<=((0:Nat):Int)-1):=by omega
   clear hd hv;go_wp2;go_ret2;exact⟨by rw [V.out, ←HL.out];rfl,0,rfl⟩
  | succ j=>
   have hj:j<s.size:=by omega
   have hg:l[j]? = some (s[j]'hj):=by rw [←HL.out];exact get_l s j hj
   have hij:((j+1:Nat):Int)-1=(j:Int):=by omega
   have q0:(0:Int)<=j:=by omega
   have q1:(j:Int)<s.size:=by omega
   have q2:s[j].toNat<256:=UInt8.toNat_lt _;simp only [hij];by_cases hc:s[j]'hj=46
   ·have hd:Id.lastDot l=j:=Id.lastDot_at l j (by rw [hg,hc]) (fun i hi=>hno.out i (by omega))
    have hv:Id.splitL l=(l.take j,l.drop (j+1)):=by unfold Id.splitL;rw [if_neg (by omega),hd];rfl
    have h1:S (l.take j)=s.extract 0 j:=by symm;apply S_of;rw [qh5,HL.out];simp
    have h2:S (l.drop (j+1))=s.extract (j+1) s.size:=by
     symm;apply S_of
     rw [qh5,HL.out];exact List.take_of_length_le (by rw [List.length_drop,hsz];exact Nat.le_refl _)
    have V:=Lib.hid hv;have H1:=Lib.hid h1;have H2:=Lib.hid h2;have hb:((s[j].toNat:Int) == 46)=true:=by rw [hc];rfl
    clear hd hv h1 h2 hg hc hij;have s1:IntKind.i64.wrap ((j:Int)+1)=(j:Int)+1:=IntWalk.i64_in _ (by omega);have s2:(0:Int)<=(j:Int)+1:=by omega
    have s3:((j:Int)+1).toNat=j+1:=by omega
    have s4:j+1<=s.size:=by omega
    have s5:(j:Int)+1<=s.size:=by omega
    go_wp2
    go_quiet (fail)
    go_wp2;go_ret2
    exact⟨by(rw [V.out,H1.out,H2.out]);rfl,_,rfl⟩
   ·have hb:((s[j].toNat:Int) == 46)=false:=beq_eq_false_iff_ne.2 (fun e=>hc (by apply UInt8.toNat_inj.1;show s[j].toNat=46;omega))
    have hno2:Hid (∀i,j<=i->l[i]? ≠ some 46):=Lib.hid (fun i hi=>by
     by_cases e:i=j
     ·subst e;rw [hg];simpa using hc
     ·exact hno.out i (by omega))
    clear hg hc hij;go_wp2;go_roundw
    case rel=>exact⟨j,by omega,rfl,trivial,hno2⟩
    case measure=>simp [intOf]
theorem qjm (u:List UInt8) (r:List (List UInt8)) (x:List UInt8) (h:u ≠ x):Id.has (u :: r) x=Id.has r x:=by
 unfold Id.has;simp [Ne.symm h]
theorem ref_Has (v:Value) (ks:List (List UInt8)) (s:ByteArray) (x:List UInt8) (w:World) (h:Strs w v ks) (hx:s.data.toList=x) :
  Calls Tryz.prog 99 #[v,.string s] w fun e w'=>e=.returned (.bool (Id.has ks x))/\w=w':=by
 rcases h with⟨rfl,a,c,rfl⟩|⟨b,off,c,rfl,h2,h3,h4⟩
 ·have hv:Id.has [] x=false:=rfl
  have V:=Lib.hid hv;clear hv hx
  go_enter Tryz.func99,Tryz.ntmps99
  go_wp2
  go_loop [5] (fun i=>i=.int .i64 0) (fun _=>0)
  case atStart=>rfl
  case round=>
   obtain rfl:=hrel;go_wp2;go_ret;exact⟨qa4 V.out.symm,rfl⟩
 ·have hcells:=Lib.hid h4
  have hsx:s.toList=x:=by rw [ByteArray.toList_eq];exact hx
  have HX:=Lib.hid hsx;clear h4 hx hsx
  go_enter Tryz.func99,Tryz.ntmps99
  go_wp2
  go_loop [5] (fun i => ∃k:Nat,k<=ks.length/\i=.int .i64 k/\Hid (Id.has (ks.drop k) x=Id.has ks x)) (fun i=>ks.length-(intOf i).toNat)
  case atStart=>exact⟨0,by omega,rfl,Lib.hid rfl⟩
  case round=>
   obtain⟨k,hk,rfl,hr⟩:=hrel;by_cases hlt:k<ks.length
   ·have hg:ks[k]? = some ks[k]:=List.getElem?_eq_getElem hlt
    have hcell:=hcells.out k _ hg;have hdr:ks.drop k=ks[k] :: ks.drop (k+1):=List.drop_eq_getElem_cons hlt;have hstep:=hr.out;rw [hdr]at hstep;by_cases he:ks[k]=x
    ·have hb:((S ks[k]).toList == s.toList)=true:=by rw [ByteArray.toList_eq,HX.out,qcb,he];simp
     have hv:Id.has ks x=true:=by rw [←hstep];unfold Id.has;simp [he]
     have V:=Lib.hid hv;clear hv hstep hg hdr he;generalize ks[k]=u at hcell hb;go_wp2;go_ret;exact⟨qa4 V.out.symm,rfl⟩
    ·have hb:((S ks[k]).toList == s.toList)=false:=by rw [ByteArray.toList_eq,HX.out,qcb];simpa using he
     have hv:Hid (Id.has (ks.drop (k+1)) x=Id.has ks x):=Lib.hid (by rw [←hstep,qjm _ _ _ he]);clear hstep hg hdr he;generalize ks[k]=u at hcell hb;go_wp2;go_round
     case rel=>exact⟨k+1,by omega,by go_num,hv⟩
     case measure=>simp [intOf];omega
   ·have hv:Id.has ks x=false:=by rw [←hr.out,List.drop_eq_nil_of_le (by omega)];rfl
    have V:=Lib.hid hv;clear hv;go_wp2;go_ret;exact⟨qa4 V.out.symm,rfl⟩
end
section
open Go.RowKit
theorem S_cat (a b:List UInt8):S a ++ S b=S (a ++ b):=S_of (qg1 _ _)
theorem nm_or (b:UInt8):Id.nmB b=(Id.smB b || Id.caB b || decide (b.toNat=95) || decide (48<=b.toNat/\b.toNat<=57)):=by
 have:=Id.u8_all (fun b=>decide (Id.nmB b=(Id.smB b || Id.caB b || decide (b.toNat=95) || decide (48<=b.toNat/\b.toNat<=57)))) (by decide +kernel) b
 simpa using this
theorem nm_cases (b:UInt8) (h:Id.nmB b=true):Id.smB b=true ∨ (Id.smB b=false/\Id.caB b=true) ∨ (Id.smB b=false/\Id.caB b=false/\b.toNat=95) ∨ (Id.smB b=false/\Id.caB b=false/\b.toNat ≠ 95/\48<=b.toNat/\b.toNat<=57):=by
 rw [nm_or]at h;cases h1:Id.smB b <;> cases h2:Id.caB b <;> simp [h1,h2]at h ⊢
 by_cases h3:b.toNat=95
 ·exact .inl h3
 ·right
  rcases h with h|h
  ·exact absurd h h3
  ·exact⟨h3,h⟩
theorem nm_not (b:UInt8) (h:Id.nmB b=false):Id.smB b=false/\Id.caB b=false/\b.toNat ≠ 95/\(b.toNat<48 ∨ 57<b.toNat):=by
 rw [nm_or]at h;simp only [Bool.or_eq_false_iff,decide_eq_false_iff_not]at h;exact⟨h.1.1.1,h.1.1.2,h.1.2,by omega⟩
theorem qge (s:ByteArray) (l:List UInt8) (w:World) (hl:s.data.toList=l) (hs:s.size<=1000000000000000) :
  Calls Tryz.prog 61 #[.string s] w fun e w'=>e=.returned (.bool (Id.isPart l))/\w=w':=by
 have hsz:l.length=s.size:=by rw [←hl];exact len_l s
 have HL:=Lib.hid hl;have cs:=Lib.hid (fun(b:UInt8) W=>qmp b W);have cc:=Lib.hid (fun(b:UInt8) W=>qja b W);clear hl;by_cases h0:s.size=0
 ·have hv:Id.isPart l=false:=by unfold Id.isPart;rw [decide_eq_false (by omega)];simp
  have V:=Lib.hid hv;have h0':((s.size:Int) == 0)=true:=by rw [h0];rfl
  clear hv h0 hsz
  go_enter Tryz.func61,Tryz.ntmps61
  go_wp2;go_ret
  exact⟨qa4 V.out.symm,rfl⟩
 ·have h0':((s.size:Int) == 0)=false:=by simpa using h0
  by_cases h40:s.size<=40
  ·have hp:0<s.size:=by omega
   have hg:l[0]? = some (s[0]'hp):=by rw [←HL.out];exact get_l s 0 hp
   have hok1:=qfm l 0 _ hg;have hbad:=qih l 0 _ hg;rw [if_pos rfl]at hok1 hbad;have q0:(0:Int)<s.size:=by omega
   have q2:s[0].toNat<256:=UInt8.toNat_lt _;cases hlet:Id.letB (s[0]'hp)
   ·have hv:=hbad hlet
    unfold Id.letB at hlet;simp only [Bool.or_eq_false_iff]at hlet;have c1:=fun W=>cs.out (s[0]'hp) W
    have c2:=fun W=>cc.out (s[0]'hp) W
    rw [hlet.1]at c1;rw [hlet.2]at c2;have C1:=Lib.hid c1;have C2:=Lib.hid c2;have V:=Lib.hid hv;clear hv hlet c1 c2 hok1 hbad hg h0 hsz
    go_enter Tryz.func61,Tryz.ntmps61
    go_wp2_with (first
     | (go_at_call 82;(with_reducible refine(C1.out _).mono ?_);rintro e w' ⟨rfl,rfl⟩)
     | (go_at_call 83;(with_reducible refine(C2.out _).mono ?_);rintro e w' ⟨rfl,rfl⟩))
    go_ret;exact⟨qa4 V.out.symm,rfl⟩
   ·rw [hlet]at hok1
    have ok1:Hid (Id.okB (l.take 1)=true):=Lib.hid hok1;have c1:=fun W=>cs.out (s[0]'hp) W
    have c2:Id.smB (s[0]'hp)=false->∀W,Calls Tryz.prog 83 #[.int .u8 ((s[0]'hp).toNat:Int)] W fun e w'=>e=.returned (.bool true)/\W=w':=fun h W=>by
     have:=cc.out (s[0]'hp) W;unfold Id.letB at hlet;rw [h,Bool.false_or]at hlet;rw [hlet]at this;exact this
    have C2:=Lib.hid c2;have hs0:s[0]'hp=s[0]'hp:=rfl;clear hok1 hbad hg h0 hlet c2 hs0
    have main : ∀(q:Bool),(∀W,Calls Tryz.prog 82 #[.int .u8 ((s[0]'hp).toNat:Int)] W fun e w'=>e=.returned (.bool q)/\W=w')->(q=false->∀W,Calls Tryz.prog 83 #[.int .u8 ((s[0]'hp).toNat:Int)] W fun e w'=>e=.returned (.bool true)/\W=w') →
      Calls Tryz.prog 61 #[.string s] w fun e w'=>e=.returned (.bool (Id.isPart l))/\w=w':=by
     intro q c1 c2;clear C2;have C1:=Lib.hid c1;clear c1;cases q
     all_goals
      first|(have C2:=Lib.hid (c2 rfl);clear c2)|(clear c2;have C2:=Lib.hid trivial)
      go_enter Tryz.func61,Tryz.ntmps61
      go_wp2_with (first
       | (go_at_call 82;(with_reducible refine(C1.out _).mono ?_);rintro e w' ⟨rfl,rfl⟩)
       | (go_at_call 83;(with_reducible refine(C2.out _).mono ?_);rintro e w' ⟨rfl,rfl⟩))
      go_loop [3] (fun i => ∃k:Nat,1<=k/\k<=s.size/\i=.int .i64 k/\Hid (Id.okB (l.take k)=true)) (fun i=>s.size-(intOf i).toNat)
      case atStart=>exact⟨1,by omega,by omega,rfl,ok1⟩
      case round=>
       obtain⟨k,hk1,hk,rfl,hok⟩:=hrel;by_cases hlt:k<s.size
       ·have hg:l[k]? = some (s[k]'hlt):=by rw [←HL.out];exact get_l s k hlt
        have hok1:=qfm l k _ hg;have hbad:=qih l k _ hg;rw [if_neg (by omega)]at hok1 hbad;rw [hok.out,Bool.true_and]at hok1;have r1:(k:Int)<s.size:=by omega
        have r2:s[k].toNat<256:=UInt8.toNat_lt _;have d1:=fun W=>cs.out (s[k]'hlt) W
        have d2:=fun W=>cc.out (s[k]'hlt) W
        have h95:s[k].toNat ≠ 95->((s[k].toNat:Int) != 95)=true:=fun h=>bne_iff_ne.2 (by omega)
        have h95':s[k].toNat=95->((s[k].toNat:Int) != 95)=false:=fun h=>by rw [h];rfl
        cases hn:Id.nmB (s[k]'hlt)
        ·have V:=Lib.hid (hbad hn)
         obtain⟨n1,n2,n3,n4⟩:=nm_not _ hn;have e95:=h95 n3;rw [n1]at d1;rw [n2]at d2;have D1:=Lib.hid d1;have D2:=Lib.hid d2;clear h95 h95' hok1 hbad hg hn n1 n2 n3 d1 d2 hok;by_cases n5:s[k].toNat<48
         all_goals
          go_wp2_with (first
           | (go_at_call 82;(with_reducible refine(D1.out _).mono ?_);rintro e w' ⟨rfl,rfl⟩)
           | (go_at_call 83;(with_reducible refine(D2.out _).mono ?_);rintro e w' ⟨rfl,rfl⟩))
          go_ret;exact⟨qa4 V.out.symm,rfl⟩
        ·rw [hn]at hok1
         have OK:=Lib.hid hok1;rcases nm_cases _ hn with n1|⟨n1,n2⟩|⟨n1,n2,n3⟩|⟨n1,n2,n3,n4,n5⟩
         ·rw [n1]at d1
          have D1:=Lib.hid d1;clear h95 h95' hok1 hbad hg hn n1 d1 d2 hok
          go_wp2_with (go_at_call 82;(with_reducible refine(D1.out _).mono ?_);rintro e w' ⟨rfl,rfl⟩)
          go_round
          case rel=>exact⟨k+1,by omega,by omega,by go_num,OK⟩
          case measure=>simp [intOf];omega
         ·rw [n1]at d1
          rw [n2]at d2;have D1:=Lib.hid d1;have D2:=Lib.hid d2;clear h95 h95' hok1 hbad hg hn n1 n2 d1 d2 hok
          go_wp2_with (first
           | (go_at_call 82;(with_reducible refine(D1.out _).mono ?_);rintro e w' ⟨rfl,rfl⟩)
           | (go_at_call 83;(with_reducible refine(D2.out _).mono ?_);rintro e w' ⟨rfl,rfl⟩))
          go_round
          case rel=>exact⟨k+1,by omega,by omega,by go_num,OK⟩
          case measure=>simp [intOf];omega
         ·rw [n1]at d1
          rw [n2]at d2;have e95:=h95' n3;have D1:=Lib.hid d1;have D2:=Lib.hid d2;clear h95 h95' hok1 hbad hg hn n1 n2 n3 d1 d2 hok
          go_wp2_with (first
           | (go_at_call 82;(with_reducible refine(D1.out _).mono ?_);rintro e w' ⟨rfl,rfl⟩)
           | (go_at_call 83;(with_reducible refine(D2.out _).mono ?_);rintro e w' ⟨rfl,rfl⟩))
          go_round
          case rel=>exact⟨k+1,by omega,by omega,by go_num,OK⟩
          case measure=>simp [intOf];omega
         ·rw [n1]at d1
          rw [n2]at d2;have e95:=h95 n3;have D1:=Lib.hid d1;have D2:=Lib.hid d2;have m4:(48:Int)<=s[k].toNat:=by omega
          have m5:(s[k].toNat:Int)<=57:=by omega
          clear h95 h95' hok1 hbad hg hn n1 n2 n3 d1 d2 hok
          go_wp2_with (first
           | (go_at_call 82;(with_reducible refine(D1.out _).mono ?_);rintro e w' ⟨rfl,rfl⟩)
           | (go_at_call 83;(with_reducible refine(D2.out _).mono ?_);rintro e w' ⟨rfl,rfl⟩))
          go_round
          case rel=>exact⟨k+1,by omega,by omega,by go_num,OK⟩
          case measure=>simp [intOf];omega
       ·have hok2:=hok.out
        rw [List.take_of_length_le (by omega)]at hok2;have hv:Id.isPart l=true:=by rw [qgq l hok2,decide_eq_true (by omega),decide_eq_true (by omega)];rfl
        have V:=Lib.hid hv;clear hv hok2 hok;go_wp2;go_ret;exact⟨qa4 V.out.symm,rfl⟩
    exact main _ c1 C2.out
  ·have hv:Id.isPart l=false:=by unfold Id.isPart;rw [decide_eq_false (by omega)];simp
   have V:=Lib.hid hv;clear hv h0 hsz
   go_enter Tryz.func61,Tryz.ntmps61
   go_wp2;go_ret
   exact⟨qa4 V.out.symm,rfl⟩
def fullG:List UInt8->List UInt8->Bool
 | cur,[]=>Id.isPart cur
 | cur,b :: r=>if b=46 then Id.isPart cur && fullG [] r else fullG (cur ++ [b]) r
theorem qfu : ∀(r cur:List UInt8), ∃p ps,Id.cut 46 r=p :: ps/\fullG cur r=(Id.isPart (cur ++ p) && ps.all Id.isPart)
 | [],cur=>⟨[],[],rfl,by simp [fullG]⟩
 | b :: r,cur=>by
  by_cases hb:b=46
  ·subst hb
   obtain⟨p,ps,h1,h2⟩:=qfu r [];refine⟨[],Id.cut 46 r,Id.cut_hit 46 r,?_⟩;rw [fullG,if_pos rfl,h2,h1];simp
  ·obtain⟨p,ps,h1,h2⟩:=qfu r (cur ++ [b])
   refine⟨b :: p,ps,by rw [Id.cut_miss 46 b r hb,h1];rfl,?_⟩;rw [fullG,if_neg hb,h2];simp
theorem qnd (l:List UInt8):fullG [] l=(Id.cut 46 l).all Id.isPart:=by
 obtain⟨p,ps,h1,h2⟩:=qfu l [];rw [h1,h2];simp
theorem qkn (s:ByteArray) (l:List UInt8) (w:World) (hl:s.data.toList=l) (hs:s.size<=1000000000) :
  Calls Tryz.prog 127 #[.string s] w fun e w'=>e=.returned (.bool (Id.isFull l))/\w=w':=by
 have hsz:l.length=s.size:=by rw [←hl];exact len_l s
 have hfull:Id.isFull l=(fullG [] l && decide (s.size<=120)):=by unfold Id.isFull;rw [qnd,hsz]
 have HL:=Lib.hid hl;have cp:=Lib.hid (fun(p:List UInt8) W (h:p.length<=120)=>qge (S p) p W rfl (by rw [qdg];omega));clear hl;by_cases h120:s.size<=120
 ·rw [decide_eq_true h120,Bool.and_true]at hfull
  have F:=Lib.hid hfull;clear hfull
  go_enter Tryz.func127,Tryz.ntmps127
  go_wp2
  go_loop [3,4] (fun t i => ∃(k:Nat) (cur:List UInt8),k<=s.size/\t=.string (S cur)/\i=.int .i64 k/\cur.length<=k/\Hid (fullG cur (l.drop k)=Id.isFull l)) (fun _ i=>s.size-(intOf i).toNat)
  case atStart=>exact⟨0,[],by omega,rfl,rfl,by simp,Lib.hid F.out.symm⟩
  case round=>
   obtain⟨k,cur,hk,rfl,rfl,hcl,hr⟩:=hrel;by_cases hlt:k<s.size
   ·have hg:l[k]? = some (s[k]'hlt):=by rw [←HL.out];exact get_l s k hlt
    obtain⟨hkl,hge⟩:=List.getElem?_eq_some_iff.1 hg;have hdr:l.drop k=s[k] :: l.drop (k+1):=by rw [List.drop_eq_getElem_cons hkl,hge]
    have hstep:=hr.out;rw [hdr,fullG]at hstep;have r1:(k:Int)<s.size:=by omega
    have r2:s[k].toNat<256:=UInt8.toNat_lt _;have r3:(0:Int)<=k:=by omega
    by_cases hb:s[k]'hlt=46
    ·rw [if_pos hb]at hstep
     have hb':((s[k].toNat:Int) != 46)=false:=by rw [hb];rfl
     have c1:=fun W=>cp.out cur W (by omega)
     cases hp:Id.isPart cur
     ·rw [hp]at c1 hstep
      have C1:=Lib.hid c1;have HS:=Lib.hid hstep;clear hr hstep c1 hp hb hdr hge hg
      go_wp2_with (go_at_call 61;(with_reducible refine(C1.out _).mono ?_);rintro e w' ⟨rfl,rfl⟩)
      go_ret;exact⟨qa4 HS.out,rfl⟩
     ·rw [hp,Bool.true_and]at hstep
      rw [hp]at c1;have C1:=Lib.hid c1;have HS:=Lib.hid hstep;clear hr hstep c1 hp hb hdr hge hg
      go_wp2_with (go_at_call 61;(with_reducible refine(C1.out _).mono ?_);rintro e w' ⟨rfl,rfl⟩)
      go_round
      case rel=>exact⟨k+1,[],by omega,rfl,by go_num,by simp,HS⟩
      case measure=>simp [intOf];omega
    ·rw [if_neg hb]at hstep
     have hb':((s[k].toNat:Int) != 46)=true:=bne_iff_ne.2 (fun e=>hb (by apply UInt8.toNat_inj.1;show s[k].toNat=46;omega));have HS:=Lib.hid hstep
     have hx:s.extract k (k+1)=S [s[k]'hlt]:=by
      apply S_of;rw [qh5,HL.out,hdr];simp
     have X:=Lib.hid hx;have j1:(k:Int)+1<=s.size:=by omega
     have j2:k+1<=s.size:=by omega
     have j3:(S cur).size<=120:=by rw [qdg];omega
     clear hr hstep hb hdr hge hg hx;go_wp2;go_round
     case rel=>exact⟨k+1,cur ++ [s[k]'hlt],by omega,by rw [X.out,S_cat],by go_num,by simp;omega,HS⟩
     case measure=>simp [intOf];omega
   ·have hv:=hr.out
    rw [List.drop_eq_nil_of_le (by omega),fullG]at hv;have V:=Lib.hid hv;have C1:=Lib.hid (fun W=>cp.out cur W (by omega));clear hv hr
    go_wp2_with (go_at_call 61;(with_reducible refine(C1.out _).mono ?_);rintro e w' ⟨rfl,rfl⟩)
    go_ret;exact⟨qa4 V.out,rfl⟩
 ·rw [decide_eq_false h120,Bool.and_false]at hfull
  have F:=Lib.hid hfull;clear hfull
  go_enter Tryz.func127,Tryz.ntmps127
  go_wp2;go_ret
  exact⟨qa4 F.out.symm,rfl⟩
end
end Go.Proofs.YtaaneecceiefoaaGreatDoor
