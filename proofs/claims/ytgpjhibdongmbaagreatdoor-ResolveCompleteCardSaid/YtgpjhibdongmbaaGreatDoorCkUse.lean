import Derived.Test.YtgpjhibdongmbaaGreatDoorIdRef1
import Derived.Deep.DeepCutAuto
import Derived.IntWalk
import Derived.Deep.OwnRows
import Derived.Test.YtgpjhibdongmbaaGreatDoorCkIdx
import Derived.Test.YtgpjhibdongmbaaGreatDoorMap
set_option maxRecDepth 100000
set_option maxHeartbeats 4000000
set_option linter.unusedVariables false
set_option linter.unusedSimpArgs false
namespace Go.Proofs.YtgpjhibdongmbaaGreatDoor
section
open Go.RowKit
theorem S_cat (a b:List UInt8):S a ++ S b=S (a ++ b):=S_of (ql7 _ _)
theorem nm_or (b:UInt8):Id.nmB b=(Id.smB b || Id.caB b || decide (b.toNat=95) || decide (48<=b.toNat/\b.toNat<=57)):=by
 have:=Id.u8_all (fun b=>decide (Id.nmB b=(Id.smB b || Id.caB b || decide (b.toNat=95) || decide (48<=b.toNat/\b.toNat<=57)))) (by decide +kernel) b
 simpa using this
theorem nm_cases (b:UInt8) (h:Id.nmB b=true):Id.smB b=true ∨ (Id.smB b=false/\Id.caB b=true) ∨ (Id.smB b=false/\Id.caB b=false/\b.toNat=95) ∨ (Id.smB b=false/\Id.caB b=false/\b.toNat ≠ 95/\48<=b.toNat/\b.toNat<=57):=by
 rw [nm_or]at h;cases h1:Id.smB b <;> cases h2:Id.caB b <;> simp [h1,h2]at h ⊢
 by_cases h3:b.toNat=95
 ·exact .inl h3
 ·right
  rcases h with h|h
  ·exact absurd h h3
  ·exact⟨h3,h⟩
theorem nm_not (b:UInt8) (h:Id.nmB b=false):Id.smB b=false/\Id.caB b=false/\b.toNat ≠ 95/\(b.toNat<48 ∨ 57<b.toNat):=by
 rw [nm_or]at h;simp only [Bool.or_eq_false_iff,decide_eq_false_iff_not]at h;exact⟨h.1.1.1,h.1.1.2,h.1.2,by omega⟩
theorem qfl (s:ByteArray) (l:List UInt8) (w:World) (hl:s.data.toList=l) (hs:s.size<=1000000000000000) :
  Calls Tryz.prog 104 #[.string s] w fun e w'=>e=.returned (.bool (Id.isPart l))/\w=w':=by
 have hsz:l.length=s.size:=by rw [←hl];exact len_l s
 have HL:=Lib.hid hl;have cs:=Lib.hid (fun(b:UInt8) W=>qly b W);have cc:=Lib.hid (fun(b:UInt8) W=>qiq b W);clear hl;by_cases h0:s.size=0
 ·have hv:Id.isPart l=false:=by unfold Id.isPart;rw [decide_eq_false (by omega)];simp
  have V:=Lib.hid hv;have h0':((s.size:Int) == 0)=true:=by rw [h0];rfl
  clear hv h0 hsz
  go_enter Tryz.func104,Tryz.ntmps104
  go_wp2;go_ret
  exact⟨qa3 V.out.symm,rfl⟩
 ·have h0':((s.size:Int) == 0)=false:=by simpa using h0
  by_cases h40:s.size<=40
  ·have hp:0<s.size:=by omega
   have hg:l[0]? = some (s[0]'hp):=by rw [←HL.out];exact get_l s 0 hp
   have hok1:=qeu l 0 _ hg;have hbad:=qhh l 0 _ hg;rw [if_pos rfl]at hok1 hbad;have q0:(0:Int)<s.size:=by omega
   have q2:s[0].toNat<256:=UInt8.toNat_lt _;cases hlet:Id.letB (s[0]'hp)
   ·have hv:=hbad hlet
    unfold Id.letB at hlet;simp only [Bool.or_eq_false_iff]at hlet;have c1:=fun W=>cs.out (s[0]'hp) W
    have c2:=fun W=>cc.out (s[0]'hp) W
    rw [hlet.1]at c1;rw [hlet.2]at c2;have C1:=Lib.hid c1;have C2:=Lib.hid c2;have V:=Lib.hid hv;clear hv hlet c1 c2 hok1 hbad hg h0 hsz
    go_enter Tryz.func104,Tryz.ntmps104
    go_wp2_with (first
     | (go_at_call 166;(with_reducible refine(C1.out _).mono ?_);rintro e w' ⟨rfl,rfl⟩)
     | (go_at_call 167;(with_reducible refine(C2.out _).mono ?_);rintro e w' ⟨rfl,rfl⟩))
    go_ret;exact⟨qa3 V.out.symm,rfl⟩
   ·rw [hlet]at hok1
    have ok1:Hid (Id.okB (l.take 1)=true):=Lib.hid hok1;have c1:=fun W=>cs.out (s[0]'hp) W
    have c2:Id.smB (s[0]'hp)=false->∀W,Calls Tryz.prog 167 #[.int .u8 ((s[0]'hp).toNat:Int)] W fun e w'=>e=.returned (.bool true)/\W=w':=fun h W=>by
     have:=cc.out (s[0]'hp) W;unfold Id.letB at hlet;rw [h,Bool.false_or]at hlet;rw [hlet]at this;exact this
    have C2:=Lib.hid c2;have hs0:s[0]'hp=s[0]'hp:=rfl;clear hok1 hbad hg h0 hlet c2 hs0
    have main : ∀(q:Bool),(∀W,Calls Tryz.prog 166 #[.int .u8 ((s[0]'hp).toNat:Int)] W fun e w'=>e=.returned (.bool q)/\W=w')->(q=false->∀W,Calls Tryz.prog 167 #[.int .u8 ((s[0]'hp).toNat:Int)] W fun e w'=>e=.returned (.bool true)/\W=w') →
      Calls Tryz.prog 104 #[.string s] w fun e w'=>e=.returned (.bool (Id.isPart l))/\w=w':=by
     intro q c1 c2;clear C2;have C1:=Lib.hid c1;clear c1;cases q
     all_goals
      first|(have C2:=Lib.hid (c2 rfl);clear c2)|(clear c2;have C2:=Lib.hid trivial)
      go_enter Tryz.func104,Tryz.ntmps104
      go_wp2_with (first
       | (go_at_call 166;(with_reducible refine(C1.out _).mono ?_);rintro e w' ⟨rfl,rfl⟩)
       | (go_at_call 167;(with_reducible refine(C2.out _).mono ?_);rintro e w' ⟨rfl,rfl⟩))
      go_loop [3] (fun i => ∃k:Nat,1<=k/\k<=s.size/\i=.int .i64 k/\Hid (Id.okB (l.take k)=true)) (fun i=>s.size-(intOf i).toNat)
      case atStart=>exact⟨1,by omega,by omega,rfl,ok1⟩
      case round=>
       obtain⟨k,hk1,hk,rfl,hok⟩:=hrel;by_cases hlt:k<s.size
       ·have hg:l[k]? = some (s[k]'hlt):=by rw [←HL.out];exact get_l s k hlt
        have hok1:=qeu l k _ hg;have hbad:=qhh l k _ hg;rw [if_neg (by omega)]at hok1 hbad;rw [hok.out,Bool.true_and]at hok1;have r1:(k:Int)<s.size:=by omega
        have r2:s[k].toNat<256:=UInt8.toNat_lt _;have d1:=fun W=>cs.out (s[k]'hlt) W
        have d2:=fun W=>cc.out (s[k]'hlt) W
        have h95:s[k].toNat ≠ 95->((s[k].toNat:Int) != 95)=true:=fun h=>bne_iff_ne.2 (by omega)
        have h95':s[k].toNat=95->((s[k].toNat:Int) != 95)=false:=fun h=>by rw [h];rfl
        cases hn:Id.nmB (s[k]'hlt)
        ·have V:=Lib.hid (hbad hn)
         obtain⟨n1,n2,n3,n4⟩:=nm_not _ hn;have e95:=h95 n3;rw [n1]at d1;rw [n2]at d2;have D1:=Lib.hid d1;have D2:=Lib.hid d2;clear h95 h95' hok1 hbad hg hn n1 n2 n3 d1 d2 hok;by_cases n5:s[k].toNat<48
         all_goals
          go_wp2_with (first
           | (go_at_call 166;(with_reducible refine(D1.out _).mono ?_);rintro e w' ⟨rfl,rfl⟩)
           | (go_at_call 167;(with_reducible refine(D2.out _).mono ?_);rintro e w' ⟨rfl,rfl⟩))
          go_ret;exact⟨qa3 V.out.symm,rfl⟩
        ·rw [hn]at hok1
         have OK:=Lib.hid hok1;rcases nm_cases _ hn with n1|⟨n1,n2⟩|⟨n1,n2,n3⟩|⟨n1,n2,n3,n4,n5⟩
         ·rw [n1]at d1
          have D1:=Lib.hid d1;clear h95 h95' hok1 hbad hg hn n1 d1 d2 hok
          go_wp2_with (go_at_call 166;(with_reducible refine(D1.out _).mono ?_);rintro e w' ⟨rfl,rfl⟩)
          go_round
          case rel=>exact⟨k+1,by omega,by omega,by go_num,OK⟩
          case measure=>simp [intOf];omega
         ·rw [n1]at d1
          rw [n2]at d2;have D1:=Lib.hid d1;have D2:=Lib.hid d2;clear h95 h95' hok1 hbad hg hn n1 n2 d1 d2 hok
          go_wp2_with (first
           | (go_at_call 166;(with_reducible refine(D1.out _).mono ?_);rintro e w' ⟨rfl,rfl⟩)
           | (go_at_call 167;(with_reducible refine(D2.out _).mono ?_);rintro e w' ⟨rfl,rfl⟩))
          go_round
          case rel=>exact⟨k+1,by omega,by omega,by go_num,OK⟩
          case measure=>simp [intOf];omega
         ·rw [n1]at d1
          rw [n2]at d2;have e95:=h95' n3;have D1:=Lib.hid d1;have D2:=Lib.hid d2;clear h95 h95' hok1 hbad hg hn n1 n2 n3 d1 d2 hok
          go_wp2_with (first
           | (go_at_call 166;(with_reducible refine(D1.out _).mono ?_);rintro e w' ⟨rfl,rfl⟩)
           | (go_at_call 167;(with_reducible refine(D2.out _).mono ?_);rintro e w' ⟨rfl,rfl⟩))
          go_round
          case rel=>exact⟨k+1,by omega,by omega,by go_num,OK⟩
          case measure=>simp [intOf];omega
         ·rw [n1]at d1
          rw [n2]at d2;have e95:=h95 n3;have D1:=Lib.hid d1;have D2:=Lib.hid d2;have m4:(48:Int)<=s[k].toNat:=by omega
          have m5:(s[k].toNat:Int)<=57:=by omega
          clear h95 h95' hok1 hbad hg hn n1 n2 n3 d1 d2 hok
          go_wp2_with (first
           | (go_at_call 166;(with_reducible refine(D1.out _).mono ?_);rintro e w' ⟨rfl,rfl⟩)
           | (go_at_call 167;(with_reducible refine(D2.out _).mono ?_);rintro e w' ⟨rfl,rfl⟩))
          go_round
          case rel=>exact⟨k+1,by omega,by omega,by go_num,OK⟩
          case measure=>simp [intOf];omega
       ·have hok2:=hok.out
        rw [List.take_of_length_le (by omega)]at hok2;have hv:Id.isPart l=true:=by rw [qfu l hok2,decide_eq_true (by omega),decide_eq_true (by omega)];rfl
        have V:=Lib.hid hv;clear hv hok2 hok;go_wp2;go_ret;exact⟨qa3 V.out.symm,rfl⟩
    exact main _ c1 C2.out
  ·have hv:Id.isPart l=false:=by unfold Id.isPart;rw [decide_eq_false (by omega)];simp
   have V:=Lib.hid hv;clear hv h0 hsz
   go_enter Tryz.func104,Tryz.ntmps104
   go_wp2;go_ret
   exact⟨qa3 V.out.symm,rfl⟩
def fullG:List UInt8->List UInt8->Bool
 | cur,[]=>Id.isPart cur
 | cur,b :: r=>if b=46 then Id.isPart cur && fullG [] r else fullG (cur ++ [b]) r
theorem qf2 : ∀(r cur:List UInt8), ∃p ps,Id.cut 46 r=p :: ps/\fullG cur r=(Id.isPart (cur ++ p) && ps.all Id.isPart)
 | [],cur=>⟨[],[],rfl,by simp [fullG]⟩
 | b :: r,cur=>by
  by_cases hb:b=46
  ·subst hb
   obtain⟨p,ps,h1,h2⟩:=qf2 r [];refine⟨[],Id.cut 46 r,Id.cut_hit 46 r,?_⟩;rw [fullG,if_pos rfl,h2,h1];simp
  ·obtain⟨p,ps,h1,h2⟩:=qf2 r (cur ++ [b])
   refine⟨b :: p,ps,by rw [Id.cut_miss 46 b r hb,h1];rfl,?_⟩;rw [fullG,if_neg hb,h2];simp
theorem qmi (l:List UInt8):fullG [] l=(Id.cut 46 l).all Id.isPart:=by
 obtain⟨p,ps,h1,h2⟩:=qf2 l [];rw [h1,h2];simp
theorem qjw (s:ByteArray) (l:List UInt8) (w:World) (hl:s.data.toList=l) (hs:s.size<=1000000000) :
  Calls Tryz.prog 101 #[.string s] w fun e w'=>e=.returned (.bool (Id.isFull l))/\w=w':=by
 have hsz:l.length=s.size:=by rw [←hl];exact len_l s
 have hfull:Id.isFull l=(fullG [] l && decide (s.size<=120)):=by unfold Id.isFull;rw [qmi,hsz]
 have HL:=Lib.hid hl;have cp:=Lib.hid (fun(p:List UInt8) W (h:p.length<=120)=>qfl (S p) p W rfl (by rw [qaj];omega));clear hl;by_cases h120:s.size<=120
 ·rw [decide_eq_true h120,Bool.and_true]at hfull
  have F:=Lib.hid hfull;clear hfull
  go_enter Tryz.func101,Tryz.ntmps101
  go_wp2
  go_loop [3,4] (fun t i => ∃(k:Nat) (cur:List UInt8),k<=s.size/\t=.string (S cur)/\i=.int .i64 k/\cur.length<=k/\Hid (fullG cur (l.drop k)=Id.isFull l)) (fun _ i=>s.size-(intOf i).toNat)
  case atStart=>exact⟨0,[],by omega,rfl,rfl,by simp,Lib.hid F.out.symm⟩
  case round=>
   obtain⟨k,cur,hk,rfl,rfl,hcl,hr⟩:=hrel;by_cases hlt:k<s.size
   ·have hg:l[k]? = some (s[k]'hlt):=by rw [←HL.out];exact get_l s k hlt
    obtain⟨hkl,hge⟩:=List.getElem?_eq_some_iff.1 hg;have hdr:l.drop k=s[k] :: l.drop (k+1):=by rw [List.drop_eq_getElem_cons hkl,hge]
    have hstep:=hr.out;rw [hdr,fullG]at hstep;have r1:(k:Int)<s.size:=by omega
    have r2:s[k].toNat<256:=UInt8.toNat_lt _;have r3:(0:Int)<=k:=by omega
    by_cases hb:s[k]'hlt=46
    ·rw [if_pos hb]at hstep
     have hb':((s[k].toNat:Int) != 46)=false:=by rw [hb];rfl
     have c1:=fun W=>cp.out cur W (by omega)
     cases hp:Id.isPart cur
     ·rw [hp]at c1 hstep
      have C1:=Lib.hid c1;have HS:=Lib.hid hstep;clear hr hstep c1 hp hb hdr hge hg
      go_wp2_with (go_at_call 104;(with_reducible refine(C1.out _).mono ?_);rintro e w' ⟨rfl,rfl⟩)
      go_ret;exact⟨qa3 HS.out,rfl⟩
     ·rw [hp,Bool.true_and]at hstep
      rw [hp]at c1;have C1:=Lib.hid c1;have HS:=Lib.hid hstep;clear hr hstep c1 hp hb hdr hge hg
      go_wp2_with (go_at_call 104;(with_reducible refine(C1.out _).mono ?_);rintro e w' ⟨rfl,rfl⟩)
      go_round
      case rel=>exact⟨k+1,[],by omega,rfl,by go_num,by simp,HS⟩
      case measure=>simp [intOf];omega
    ·rw [if_neg hb]at hstep
     have hb':((s[k].toNat:Int) != 46)=true:=bne_iff_ne.2 (fun e=>hb (by apply UInt8.toNat_inj.1;show s[k].toNat=46;omega));have HS:=Lib.hid hstep
     have hx:s.extract k (k+1)=S [s[k]'hlt]:=by
      apply S_of;rw [qeh,HL.out,hdr];simp
     have X:=Lib.hid hx;have j1:(k:Int)+1<=s.size:=by omega
     have j2:k+1<=s.size:=by omega
     have j3:(S cur).size<=120:=by rw [qaj];omega
     clear hr hstep hb hdr hge hg hx;go_wp2;go_round
     case rel=>exact⟨k+1,cur ++ [s[k]'hlt],by omega,by rw [X.out,S_cat],by go_num,by simp;omega,HS⟩
     case measure=>simp [intOf];omega
   ·have hv:=hr.out
    rw [List.drop_eq_nil_of_le (by omega),fullG]at hv;have V:=Lib.hid hv;have C1:=Lib.hid (fun W=>cp.out cur W (by omega));clear hv hr
    go_wp2_with (go_at_call 104;(with_reducible refine(C1.out _).mono ?_);rintro e w' ⟨rfl,rfl⟩)
    go_ret;exact⟨qa3 V.out,rfl⟩
 ·rw [decide_eq_false h120,Bool.and_false]at hfull
  have F:=Lib.hid hfull;clear hfull
  go_enter Tryz.func101,Tryz.ntmps101
  go_wp2;go_ret
  exact⟨qa3 F.out.symm,rfl⟩
end
section
open Go.RowKit Ck
theorem qin (v:Value) (l:List PSpan) (n:Int) (w:World) (hv:Spans w v l) :
  Calls Tryz.prog 79 #[v,.int .i64 n] w fun e w'=>e=.returned (.bool (qb6 l n))/\Below w.heap.size w w':=by
 obtain⟨q,c,rfl,hll,hcc,hel⟩:=hv;have EL:=Lib.hid hel;have HV:=Lib.hid (show(l.drop 0).any (fun x=>decide (x.lo<=n/\n<=x.hi))=qb6 l n from rfl);generalize qb6 l n=R at HV;clear hel
 go_enter Tryz.func79,Tryz.ntmps79
 go_wp2
 go_loopw [5] (fun i wr => ∃k:Nat,k<=l.length/\i=.int .i64 k/\Bel w wr/\Hid ((l.drop k).any (fun x=>decide (x.lo<=n/\n<=x.hi))=R)) (fun i _=>l.length-(intOf i).toNat)
 case atStart=>exact⟨0,by omega,rfl,Bel.refl _,HV⟩
 case round=>
  obtain⟨k,hk,rfl,kw,hgo⟩:=hrel;by_cases hlt:k<l.length
  ·have hki:(k:Int)<(l.length:Int):=by omega
   have hk0:(0:Int)<=(k:Int):=by omega
   have hg:=List.getElem?_eq_getElem hlt;obtain⟨b,off,rfl,hbs,cs,hce,hvs⟩:=EL.out k _ hg;have hdr:l.drop k=l[k] :: l.drop (k+1):=List.drop_eq_getElem_cons hlt;have hst:=hgo.out;rw [hdr,List.any_cons]at hst;have HST:=Lib.hid hst;have hvs':cs=[.int .i64 l[k].lo,.int .i64 l[k].hi]:=hvs;subst hvs';have e0:=kw.some (hce 0 _ rfl);rw [Nat.add_zero]at e0;have e1:=kw.some (hce 1 _ rfl);clear hst hgo hdr hg hce hvs;generalize l[k]=x at *;by_cases h1:x.lo<=n
   ·by_cases h2:n<=x.hi
    ·have hR:=Lib.hid (show true=R by rw [←HST.out,decide_eq_true ⟨h1,h2⟩];rfl)
     clear HST;go_wp2;go_ret;exact⟨qa3 hR.out,kw.out⟩
    ·have HG:=Lib.hid (show(l.drop (k+1)).any (fun x=>decide (x.lo<=n/\n<=x.hi))=R by rw [←HST.out,decide_eq_false (fun h=>h2 h.2),Bool.false_or])
     clear HST;go_wp2;exact⟨⟨k+1,by omega,by go_num,kw,HG⟩,by simp [intOf];omega⟩
   ·have HG:=Lib.hid (show(l.drop (k+1)).any (fun x=>decide (x.lo<=n/\n<=x.hi))=R by rw [←HST.out,decide_eq_false (fun h=>h1 h.1),Bool.false_or])
    clear HST;go_wp2;exact⟨⟨k+1,by omega,by go_num,kw,HG⟩,by simp [intOf];omega⟩
  ·have hki : ¬(k:Int)<(l.length:Int):=by omega
   have hR:=Lib.hid (show false=R by
    have:=hgo.out;rw [show k=l.length by omega,List.drop_length]at this
    rw [←this];rfl)
   clear hgo;go_wp2;go_ret;exact⟨qa3 hR.out,kw.out⟩
end
section
open Go.RowKit Ck
def BitsAt (w0:World) (Bf:Nat) (fin:List Bool) (wx:World):Prop:=w0.heap.size<=Bf/\wx.heap[Bf]? = some (.cells (fin.map Value.bool).toArray 4 (0,0))/\Bel w0 wx
theorem BitsAt.base {w0 wx:World} {Bf:Nat} {fin:List Bool} (h:BitsAt w0 Bf fin wx):Bel w0 wx:=h.2.2
theorem BitsAt.bel {w0 wx w':World} {Bf:Nat} {fin:List Bool} (h:BitsAt w0 Bf fin wx) (k:Bel wx w'):BitsAt w0 Bf fin w':=
 ⟨h.1,(Below.block k Bf (Array.getElem?_eq_some_iff.1 h.2.1).1).trans h.2.1,Bel.of h.2.2 k.out⟩
theorem BitsAt.cell {w0 wx:World} {Bf:Nat} {fin:List Bool} (h:BitsAt w0 Bf fin wx) (i:Nat) (hi:i<fin.length):wx.cell? ⟨Bf,i,none⟩=some (.bool (fin.getD i false)):=by
 rw [Lib.cell_of_heap h.2.1];simp [List.getD,hi]
theorem BitsAt.frozen {w0 wx:World} {Bf:Nat} {fin:List Bool} (h:BitsAt w0 Bf fin wx) (i:Nat):wx.frozen? ⟨Bf,i,none⟩=false:=Lib.frozen_of_heap h.2.1 i
theorem BitsAt.set {w0 wx:World} {Bf:Nat} {fin:List Bool} (h:BitsAt w0 Bf fin wx) (i:Nat) (b:Bool):BitsAt w0 Bf (fin.set i b) (wx.setCell ⟨Bf,i,none⟩ (.bool b)):=by
 refine⟨h.1,?_,qc4 h.2.2 h.1⟩;rw [heap_setCell_same wx Bf i _ _ _ h.2.1];simp [List.map_set]
theorem BitsAt.start {w0 wc:World} (k:Bel w0 wc) (n:Nat):BitsAt w0 wc.heap.size (List.replicate n false) (wc.alloc (.cells (madeCells #[.bool false] n) 4)):=by
 refine⟨k.size,?_,k.alloc _⟩;rw [heap_alloc_new]
 congr 2
 apply Array.ext
 ·simp [madeCells]
 ·intro i h1 h2
  simp [madeCells,Nat.mod_one]
theorem qib:(Tryz.prog.info? 4).map (fun i=>(i.zero,i.size,i.bytes))=some (some (.bool false),1,1):=by kernel_rfl
end
section
open Go.RowKit Ck
end
end Go.Proofs.YtgpjhibdongmbaaGreatDoor
namespace Go.Proofs.YtgpjhibdongmbaaGreatDoor.Ck
def usG (cur:Str):Bool:=if cur=[]then true else !(Id.cut 46 cur).any Id.isWord
theorem usG_step {l:Str} (h:l ≠ []):usG l=(!Id.isWord (Id.splitL l).2 && usG (Id.splitL l).1) ∨ (Id.splitL l).1=[]/\(Id.lastDot l ≠ -1):=by
 rcases Id.lastDot_spec l with⟨e,hn⟩|⟨i,e,hi,h3,h4⟩
 ·left
  have hs:Id.splitL l=([],l):=by unfold Id.splitL;rw [if_pos e]
  rw [hs];unfold usG;rw [if_neg h,if_pos rfl,Id.cut_none 46 l hn];simp
 ·have hs:Id.splitL l=(l.take i,l.drop (i+1)):=by unfold Id.splitL;rw [if_neg (by omega),e];rfl
  by_cases ha:l.take i=[]
  ·right
   rw [hs];exact⟨ha,by omega⟩
  ·left
   have hl:=Id.split_at l i e hi h3
   have hn:(46:UInt8) ∉ l.drop (i+1):=by
    intro hm;obtain⟨j,hj⟩:=List.mem_iff_getElem?.1 hm;rw [List.getElem?_drop]at hj;exact h4 (i+1+j) (by omega) hj
   have hc:Id.cut 46 l=Id.cut 46 (l.take i) ++ [l.drop (i+1)]:=by
    conv=>lhs;rw [hl]
    exact Id.cut_append 46 _ hn _
   rw [hs];unfold usG;rw [if_neg h,if_neg ha,hc,List.any_append];simp only [List.any_cons,List.any_nil,Bool.or_false,Bool.not_or];exact Bool.and_comm _ _
theorem usG_full {l:Str} (h:Id.isFull l=true):usG l=(!Id.isWord (Id.splitL l).2 && usG (Id.splitL l).1):=by
 rcases usG_step (Id.isFull_ne h)with e|⟨e,hd⟩
 ·exact e
 ·exfalso
  -- an empty scope before a dot is no full name
  obtain⟨_,f2,_⟩:=Id.full_split h;rw [e]at f2;have hj:Id.join [] (Id.splitL l).2=(Id.splitL l).2:=by unfold Id.join;rw [if_pos rfl]
  rw [hj]at f2;rcases Id.lastDot_spec l with⟨e2,_⟩|⟨i,e2,hi,h3,_⟩
  ·exact hd e2
  ·have hs:Id.splitL l=(l.take i,l.drop (i+1)):=by unfold Id.splitL;rw [if_neg (by omega),e2];rfl
   rw [hs]at f2;have:=congrArg List.length f2;simp only [List.length_drop]at this;omega
theorem qj8 {l:Str} (h:Id.isFull l=true):qah l=usG l:=by
 unfold qah usG;rw [h,if_neg (Id.isFull_ne h),Bool.true_and]
end Go.Proofs.YtgpjhibdongmbaaGreatDoor.Ck
