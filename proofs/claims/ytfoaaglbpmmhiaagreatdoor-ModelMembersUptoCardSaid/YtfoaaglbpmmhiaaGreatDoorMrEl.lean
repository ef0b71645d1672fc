import Derived.Test.YtfoaaglbpmmhiaaGreatDoorKitW
import Derived.Test.YtfoaaglbpmmhiaaGreatDoorKitU
set_option maxRecDepth 100000
set_option maxHeartbeats 4000000
set_option linter.unusedVariables false
set_option linter.unusedSimpArgs false
namespace Go.Proofs.YtfoaaglbpmmhiaaGreatDoor
open Go.RowKit Ck Md
theorem rd_word (k:Int) (w:World):Calls Tryz.prog 57 #[.int .i64 k] w fun e w' => e=.returned (.string (S (wordR k)))/\Bel w w':=by
 by_cases hk:1<=k/\k<=8
 ·obtain ⟨h1,h2⟩:=hk
  have hc:k=1 ∨ k=2 ∨ k=3 ∨ k=4 ∨ k=5 ∨ k=6 ∨ k=7 ∨ k=8:=by omega
  clear h1 h2;rcases hc with h | h | h | h | h | h | h | h
  ·subst h
   go_enter Tryz.func57,Tryz.ntmps57
   go_wp2
   go_ret
   exact ⟨rfl,(Bel.refl _).alloc _⟩
  ·subst h
   go_enter Tryz.func57,Tryz.ntmps57
   go_wp2
   go_ret
   exact ⟨rfl,(Bel.refl _).alloc _⟩
  ·subst h
   go_enter Tryz.func57,Tryz.ntmps57
   go_wp2
   go_ret
   exact ⟨rfl,(Bel.refl _).alloc _⟩
  ·subst h
   go_enter Tryz.func57,Tryz.ntmps57
   go_wp2
   go_ret
   exact ⟨rfl,(Bel.refl _).alloc _⟩
  ·subst h
   go_enter Tryz.func57,Tryz.ntmps57
   go_wp2
   go_ret
   exact ⟨rfl,(Bel.refl _).alloc _⟩
  ·subst h
   go_enter Tryz.func57,Tryz.ntmps57
   go_wp2
   go_ret
   exact ⟨rfl,(Bel.refl _).alloc _⟩
  ·subst h
   go_enter Tryz.func57,Tryz.ntmps57
   go_wp2
   go_ret
   exact ⟨rfl,(Bel.refl _).alloc _⟩
  ·subst h
   go_enter Tryz.func57,Tryz.ntmps57
   go_wp2
   go_ret
   exact ⟨rfl,(Bel.refl _).alloc _⟩
 ·have hT:=Lib.hid (show wordR k=[] from if_neg hk)
  by_cases h1:k < 1
  ·clear hk
   go_enter Tryz.func57,Tryz.ntmps57
   go_wp2
   go_ret
   exact ⟨by rw [hT.out];rfl,(Bel.refl _).alloc _⟩
  ·have h2:8 < k:=by omega
   clear hk
   go_enter Tryz.func57,Tryz.ntmps57
   go_wp2
   go_ret
   exact ⟨by rw [hT.out];rfl,(Bel.refl _).alloc _⟩
theorem wordR_len (k:Int):(wordR k).length<=6:=by
 unfold wordR
 split
 ·exact word_len k
 ·simp
def FoundZ (w:World) (Z:PDecl) (e:Ending) (w':World):Prop := ∃ (p:Option Addr) (c:Nat) (b:Bool),e=.returned (.tuple #[.agg #[.int .i64 Z.kind,.string (S Z.name),.string (S Z.frm),.slice p Z.mems.length c],.bool b])/\Mems w' (.slice p Z.mems.length c) Z.mems/\Bel w w'
theorem found_of {w w':World} {e:Ending} {D:List PDecl} {f:Str} (h:FindOut w (ofD D f) e w'):FoundZ w (ofZ D f) e w':=by
 obtain ⟨p,c,h1,h2,h3⟩:=h;exact ⟨p,c,_,h1,h2,h3⟩
theorem rd_Element (v:Value) (l:List PDecl) (tk:Int) (tn:Str) (w:World) (hv:Decls w v l) :
  Calls Tryz.prog 26 #[v,.agg #[.int .i64 tk,.string (S tn)]] w fun e w' => e=.returned (.string (S (elementR l tk tn)))/\Bel w w':=by
 have kw:Bel w (w.alloc (.cells #[.int .i64 tk,.string (S tn)] 54)):=(Bel.refl w).alloc _;have CW:=Lib.hid (fun W => rd_word tk W);have CO:=Lib.hid (fun W (k:Bel w W) => (rd_Of v l tn W (hv.bel VDecl.stays k)).mono (fun e w' h => found_of h));have HV:=Lib.hid (show elementR l tk tn=if wordR tk ≠ [] then wordR tk else (ofZ l tn).name from rfl);obtain ⟨q,c,rfl,_⟩:=hv;generalize elementR l tk tn=E at HV;generalize wordR tk=X at CW HV;generalize ofZ l tn=Z at CO HV;by_cases hX:X=[]
 ·have hE:=Lib.hid (show E=Z.name by rw [HV.out,if_neg (fun h => h hX)])
  subst hX;have hte:(S ([]:Str)).toList=[]:=by rw [ByteArray.toList_eq,S_list]
  have hte2:(S ([]:Str)).toList.isEmpty=true:=by rw [hte];rfl
  clear HV
  go_enter Tryz.func26,Tryz.ntmps26
  go_wp2_with (first
   | (go_at_call 57;(with_reducible refine (CW.out _).mono ?_);rintro e w1 ⟨rfl,k1⟩;have kk1:=Bel.of kw k1.out;have c1:w1.cell? ⟨w.heap.size,1,none⟩=some (.string (S tn)):=k1.some (by rw [World.cell?_alloc_at _ _ _ _ rfl];rfl))
   | (go_at_call 32;(with_reducible refine (CO.out _ kk1).mono ?_);rintro e w2 ⟨p,c2,b,rfl,m2,k2⟩))
  go_ret
  exact ⟨ret_str (by rw [hE.out]),(Bel.of kk1 k2.out).alloc _⟩
 ·have hE:=Lib.hid (show E=X by rw [HV.out,if_pos hX])
  have hne:(S X).toList ≠ []:=by rw [ByteArray.toList_eq,S_list];exact hX
  have hne2:(S X).toList.isEmpty=false:=by rw [ByteArray.toList_eq,S_list];simpa using hX
  clear HV
  go_enter Tryz.func26,Tryz.ntmps26
  go_wp2_with (go_at_call 57;(with_reducible refine (CW.out _).mono ?_);rintro e w1 ⟨rfl,k1⟩;have kk1:=Bel.of kw k1.out;have c1:w1.cell? ⟨w.heap.size,1,none⟩=some (.string (S tn)):=k1.some (by rw [World.cell?_alloc_at _ _ _ _ rfl];rfl))
  go_ret
  exact ⟨ret_str (by rw [hE.out]),kk1⟩
theorem rd_Typed (v:Value) (l:List PDecl) (f:PField) (r1 r2 r3 r4 r5:Option Addr) (d1 d2 d3 d4 d5:Nat) (w:World) (hv:Decls w v l) (hl:(elementR l f.tk f.tn).length<=1000000000) :
  Calls Tryz.prog 25 #[v,.agg #[.int .i64 f.num,.string (S f.name),.int .i64 f.card,.int .i64 f.key,.int .i64 f.tk,.string (S f.tn),.string (S f.un),.bool f.hd,.int .i64 f.df.k,.int .u64 f.df.x,.string (S f.df.t),.slice r1 f.df.n1 d1,.slice r2 f.df.n2 d2,.slice r3 f.df.n3 d3,.slice r4 f.df.n4 d4,.slice r5 f.notes.length d5]] w fun e w' => e=.returned (.string (S (typedR l f)))/\Bel w w':=by
 have CN:=Lib.hid (fun W (kk:Bel w W) => rd_Element v l f.tk f.tn W (hv.bel VDecl.stays kk));have CW:=Lib.hid (fun W => rd_word f.key W);have hw:=wordR_len f.key;have kw:Bel w (w.alloc (.cells #[.int .i64 f.num,.string (S f.name),.int .i64 f.card,.int .i64 f.key,.int .i64 f.tk,.string (S f.tn),.string (S f.un),.bool f.hd,.int .i64 f.df.k,.int .u64 f.df.x,.string (S f.df.t),.slice r1 f.df.n1 d1,.slice r2 f.df.n2 d2,.slice r3 f.df.n3 d3,.slice r4 f.df.n4 d4,.slice r5 f.notes.length d5] 63)):=(Bel.refl w).alloc _;have HV:=Lib.hid (show typedR l f=carded f.card (wordR f.key) (elementR l f.tk f.tn) from rfl);obtain ⟨q,c,rfl,_⟩:=hv;generalize typedR l f=T at HV;generalize elementR l f.tk f.tn=E at CN HV hl;generalize wordR f.key=WW at CW HV hw;have zE:(S E).size=E.length:=S_size _;have zW:(S WW).size=WW.length:=S_size _;by_cases h2:f.card=2
 ·have e2:=ieq2 h2
  have hT:=Lib.hid (show T=[63] ++ E by rw [HV.out];unfold carded;rw [if_pos h2];try rfl);clear HV h2
  go_enter Tryz.func25,Tryz.ntmps25
  go_wp2_with (first
   | (go_at_call 26;(with_reducible refine (CN.out _ kw).mono ?_);rintro e w1 ⟨rfl,k1⟩;have kk1:=Bel.of kw k1.out;have c2:w1.cell? ⟨w.heap.size,2,none⟩=some (.int .i64 f.card):=k1.some (by rw [World.cell?_alloc_at _ _ _ _ rfl];rfl);have c3:w1.cell? ⟨w.heap.size,3,none⟩=some (.int .i64 f.key):=k1.some (by rw [World.cell?_alloc_at _ _ _ _ rfl];rfl))
   | (go_at_call 57;(with_reducible refine (CW.out _).mono ?_);rintro e w2 ⟨rfl,k2⟩))
  go_ret
  exact ⟨ret_str (by rw [hT.out];simp only [← S_app];rfl),kk1⟩
 have e2:=ine2 h2;by_cases h4:f.card=4
 ·have e4:=ieq2 h4
  have hT:=Lib.hid (show T=[91,93] ++ E by rw [HV.out];unfold carded;rw [if_neg h2,if_pos h4];try rfl);clear HV h4 h2
  go_enter Tryz.func25,Tryz.ntmps25
  go_wp2_with (first
   | (go_at_call 26;(with_reducible refine (CN.out _ kw).mono ?_);rintro e w1 ⟨rfl,k1⟩;have kk1:=Bel.of kw k1.out;have c2:w1.cell? ⟨w.heap.size,2,none⟩=some (.int .i64 f.card):=k1.some (by rw [World.cell?_alloc_at _ _ _ _ rfl];rfl);have c3:w1.cell? ⟨w.heap.size,3,none⟩=some (.int .i64 f.key):=k1.some (by rw [World.cell?_alloc_at _ _ _ _ rfl];rfl))
   | (go_at_call 57;(with_reducible refine (CW.out _).mono ?_);rintro e w2 ⟨rfl,k2⟩))
  go_ret
  exact ⟨ret_str (by rw [hT.out];simp only [← S_app];rfl),kk1⟩
 have e4:=ine2 h4;by_cases h5:f.card=5
 ·have e5:=ieq2 h5
  have hT:=Lib.hid (show T=[109,97,112,91] ++ WW ++ [93] ++ E by rw [HV.out];unfold carded;rw [if_neg h2,if_neg h4,if_pos h5];try rfl);clear HV h5 h2 h4
  go_enter Tryz.func25,Tryz.ntmps25
  go_wp2_with (first
   | (go_at_call 26;(with_reducible refine (CN.out _ kw).mono ?_);rintro e w1 ⟨rfl,k1⟩;have kk1:=Bel.of kw k1.out;have c2:w1.cell? ⟨w.heap.size,2,none⟩=some (.int .i64 f.card):=k1.some (by rw [World.cell?_alloc_at _ _ _ _ rfl];rfl);have c3:w1.cell? ⟨w.heap.size,3,none⟩=some (.int .i64 f.key):=k1.some (by rw [World.cell?_alloc_at _ _ _ _ rfl];rfl))
   | (go_at_call 57;(with_reducible refine (CW.out _).mono ?_);rintro e w2 ⟨rfl,k2⟩))
  go_ret
  exact ⟨ret_str (by rw [hT.out];simp only [← S_app];rfl),(Bel.of kk1 k2.out)⟩
 have e5:=ine2 h5;have hT:=Lib.hid (show T=E by rw [HV.out];unfold carded;rw [if_neg h2,if_neg h4,if_neg h5]);clear HV h2 h4 h5
 go_enter Tryz.func25,Tryz.ntmps25
 go_wp2_with (go_at_call 26;(with_reducible refine (CN.out _ kw).mono ?_);rintro e w1 ⟨rfl,k1⟩;have kk1:=Bel.of kw k1.out;have c2:w1.cell? ⟨w.heap.size,2,none⟩=some (.int .i64 f.card):=k1.some (by rw [World.cell?_alloc_at _ _ _ _ rfl];rfl);have c3:w1.cell? ⟨w.heap.size,3,none⟩=some (.int .i64 f.key):=k1.some (by rw [World.cell?_alloc_at _ _ _ _ rfl];rfl))
 go_ret
 exact ⟨ret_str (by rw [hT.out]),kk1⟩
end Go.Proofs.YtfoaaglbpmmhiaaGreatDoor
