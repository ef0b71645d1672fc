import Derived.Test.YtfoaaglbpmmhiaaGreatDoorRkAll
import Derived.Test.YtfoaaglbpmmhiaaGreatDoorKitF
import Derived.Test.YtfoaaglbpmmhiaaGreatDoorMdChoice
import Derived.Test.YtfoaaglbpmmhiaaGreatDoorMdMake
import Derived.Test.YtfoaaglbpmmhiaaGreatDoorKitW
import Derived.Test.YtfoaaglbpmmhiaaGreatDoorMdAwake
set_option maxRecDepth 100000
set_option maxHeartbeats 4000000
set_option linter.unusedVariables false
set_option linter.unusedSimpArgs false
namespace Go.Proofs.YtfoaaglbpmmhiaaGreatDoor
open Go.RowKit Ck
theorem rk_Valid (sq1 sq2 sq3:Option Addr) (sc1 sc2 sc3:Nat) (s:PSchema) (w:World) (hs:VSchema w [.slice sq1 s.msgs.length sc1,.slice sq2 s.enums.length sc2,.slice sq3 s.svcs.length sc3] s) (hsh:Short s) :
  Calls Tryz.prog 21 #[.agg #[.slice sq1 s.msgs.length sc1,.slice sq2 s.enums.length sc2,.slice sq3 s.svcs.length sc3]] w fun e w' => e=.returned (.bool (valid s))/\Below w.heap.size w w':=by
 have CA:=Lib.hid (fun W (k:Bel w W) => rk_All sq1 sq2 sq3 sc1 sc2 sc3 s W (hs.stays_bel k) hsh);have HV:=Lib.hid (show valid s=(all s).isEmpty from rfl);have hlen:(all s).length<=1000000000:=hsh.2.2.2.2;clear hs hsh;generalize all s=T at CA HV hlen
 go_enter Tryz.func21,Tryz.ntmps21
 go_wp2_with (go_at_call 55;(with_reducible refine (CA.out _ (by (repeat (first | (with_reducible assumption) | (with_reducible exact Bel.refl _) | (with_reducible refine Bel.drew ?_) | (with_reducible refine Bel.drewN ?_ _) | (with_reducible refine Bel.alloc ?_ _) | ((with_reducible refine bel_set ?_ ?hge);(case hge => (first | omega | (simp;omega)))))))).mono ?_);rintro e w1 ⟨v,rfl,hown,g1⟩;obtain ⟨q,c,rfl⟩:=own_form hown;have k1:Bel w w1:=Bel.of (by (repeat (first | (with_reducible assumption) | (with_reducible exact Bel.refl _) | (with_reducible refine Bel.drew ?_) | (with_reducible refine Bel.drewN ?_ _) | (with_reducible refine Bel.alloc ?_ _) | ((with_reducible refine bel_set ?_ ?hge);(case hge => (first | omega | (simp;omega))))))) g1;clear g1 hown)
 go_ret
 refine ⟨ret_bool ?_,k1.out⟩;rw [HV.out,Bool.eq_iff_iff];cases T <;> simp <;> omega
end Go.Proofs.YtfoaaglbpmmhiaaGreatDoor
namespace Go.Proofs.YtfoaaglbpmmhiaaGreatDoor
open Go.RowKit Ck Md
theorem make_small {s:PSchema} (h:valid s=true) : ∀ d ∈ make s,d.mems.length<=3518437208883:=by
 intro d hd;have hb:=mb_of h;rw [make_pairs h] at hd;obtain ⟨p,hp,rfl⟩:=List.mem_map.1 hd;show p.2.length<=_
 unfold pairs at hp;rcases List.mem_append.1 hp with hp | hp
 ·rcases List.mem_append.1 hp with hp | hp
  ·obtain ⟨m,hm,hp⟩:=List.mem_flatMap.1 hp
   have h1:=(hb.m m hm).2.1;unfold pairsM at hp;rcases List.mem_cons.1 hp with rfl | hp
   ·have:=recGo_len (declared s) m.name m.fields [] []
    rw [List.length_nil] at this;show (recGo _ _ _ _ _).length<=_
    omega
   ·obtain ⟨u,hu,rfl⟩:=List.mem_map.1 hp
    have:=chGo_len (declared s) u m.fields [];rw [List.length_nil] at this;show (chGo _ _ _ _).length<=_
    omega
  ·obtain ⟨e,he,rfl⟩:=List.mem_map.1 hp
   have h1:=(hb.e e he).2.1;have:=items_len e;show (items e).length<=_
   omega
 ·obtain ⟨v,hv,rfl⟩:=List.mem_map.1 hp
  have h1:=(hb.v v hv).2.1;have:=client_len h hv;show (client _ v).length<=_
  omega
def GotD (w:World) (d:PDecl) (e:Ending) (w':World):Prop := ∃ (p:Option Addr) (c:Nat),e=.returned (.tuple #[.agg #[.int .i64 d.kind,.string (S d.name),.string (S d.frm),.slice p d.mems.length c],.bool true])/\Mems w' (.slice p d.mems.length c) d.mems/\Bel w w'
theorem got_of {w w':World} {e:Ending} {OD:Option PDecl} {d:PDecl} (h:FindOut w OD e w') (hd:OD=some d):GotD w d e w':=by
 subst hd;obtain ⟨p,c,h1,h2,h3⟩:=h;exact ⟨p,c,h1,h2,h3⟩
def GotK (w:World) (kd:Int) (nm fr:Str) (n:Nat) (e:Ending) (w':World):Prop := ∃ (p:Option Addr) (c:Nat),e=.returned (.tuple #[.agg #[.int .i64 kd,.string (S nm),.string (S fr),.slice p n c],.bool true])/\Bel w w'
theorem gotk_of {w w':World} {e:Ending} {OD:Option PDecl} {d:PDecl} {kd:Int} {n:Nat} (h:FindOut w OD e w') (hd:OD=some d) (hk:d.kind=kd) (hn:d.mems.length=n):GotK w kd d.name d.frm n e w':=by
 subst hd hk hn;obtain ⟨p,c,h1,h2,h3⟩:=h;exact ⟨p,c,h1,h3⟩
def GotM (w:World) (kd:Int) (nm fr:Str) (ms:List PMem) (e:Ending) (w':World):Prop := ∃ (p:Option Addr) (c:Nat),e=.returned (.tuple #[.agg #[.int .i64 kd,.string (S nm),.string (S fr),.slice p ms.length c],.bool true])/\Mems w' (.slice p ms.length c) ms/\Bel w w'
theorem gotm_of {w w':World} {e:Ending} {d:PDecl} {kd:Int} {ms:List PMem} (h:GotD w d e w') (hk:d.kind=kd) (hn:d.mems=ms):GotM w kd d.name d.frm ms e w':=by
 subst hk hn;exact h
theorem law_membersN (kd:Int) (nm fr:Str) (ms:List PMem) (num:Int) (n:Nat) (t:Str) (q:Option Addr) (c:Nat) (w:World) (hm:Mems w (.slice q ms.length c) ms) (h:memsN num ms=(n,t)) :
  Calls Tryz.prog 23 #[.agg #[.int .i64 kd,.string (S nm),.string (S fr),.slice q ms.length c],.int .i64 num] w fun e w' => e=.returned (.tuple #[.int .i64 (n:Nat),.string (S t)])/\Bel w w':=by
 have:=law_members ⟨kd,nm,fr,ms⟩ num q c w hm;rw [show memsN num (PDecl.mk kd nm fr ms).mems=(n,t) from h] at this;exact this
theorem ofZ_len (D:List PDecl) (tn:Str) (h : ∀ d ∈ D,d.name.length<=400):(ofZ D tn).name.length<=400:=by
 unfold ofZ ofD;cases e:D.find? (fun d => decide (d.frm=tn)) with
 | none => simp [zeroD]
 | some d => exact h d (List.mem_of_find?_eq_some e)
def MadeL (w:World) (L:List PDecl) (e:Ending) (w':World):Prop := ∃ (p:Option Addr) (c:Nat),e=.returned (.tuple #[.slice p L.length c,.int .i64 0])/\Decls w' (.slice p L.length c) L/\Bel w w'
theorem made_of {w w':World} {e:Ending} {L:List PDecl} (h:MakeOk w L e w'):MadeL w L e w':=by
 obtain ⟨v,h1,h2,h3⟩:=h;have h4:=h2;obtain ⟨q,c,rfl,_⟩:=h4;exact ⟨q,c,h1,h2,h3⟩
end Go.Proofs.YtfoaaglbpmmhiaaGreatDoor
