import Derived.Test.YtfoaaglbpmmhiaaGreatDoorCkNote1
import Derived.Deep.RegionHeld3
set_option maxRecDepth 100000
set_option maxHeartbeats 4000000
set_option linter.unusedVariables false
set_option linter.unusedSimpArgs false
namespace Go.Proofs.YtfoaaglbpmmhiaaGreatDoor
open Go.RowKit
theorem S_app (a b:List UInt8):S a ++ S b=S (a ++ b):=S_of (cat_list _ _)
theorem upper_one (b:UInt8):Lib.toUpperA [b]=[Id.upB b]:=by
 have:=Id.u8_all (fun b => decide (Lib.upperB b=Id.upB b)) (by decide +kernel) b;simp only [decide_eq_true_eq] at this;simp [Lib.toUpperA,this]
theorem cut_all (q:UInt8->Bool) (c:UInt8) : ∀ (l:List UInt8) (p:List UInt8),l.all q=true->p ∈ Id.cut c l->p.all q=true
 | [],p,_,h => by
  simp [Id.cut] at h;subst h;rfl
 | b :: r,p,ha,h => by
  simp only [List.all_cons,Bool.and_eq_true] at ha;by_cases hb:b=c
  ·subst hb
   rw [Id.cut_hit] at h;rcases List.mem_cons.1 h with rfl | h
   ·rfl
   ·exact cut_all q b r p ha.2 h
  ·rw [Id.cut_miss c b r hb] at h
   have hn:=Id.cut_ne c r;cases hc:Id.cut c r with
   | nil => exact absurd hc hn
   | cons x xs =>
    rw [hc] at h;rcases List.mem_cons.1 h with rfl | h
    ·simp only [List.all_cons,Bool.and_eq_true]
     exact ⟨ha.1,cut_all q c r x ha.2 (by rw [hc];simp)⟩
    ·exact cut_all q c r p ha.2 (by rw [hc];simp [h])
theorem nm_ascii (b:UInt8) (h:Id.nmB b=true):b.toNat < 128:=by
 have:=Id.u8_all (fun b => !Id.nmB b || decide (b.toNat < 128)) (by decide +kernel) b;simp only [Bool.or_eq_true,Bool.not_eq_true',decide_eq_true_eq] at this;rcases this with e | e
 ·rw [h] at e;cases e
 ·exact e
theorem camelG_len : ∀ (l:List UInt8) (st:Bool),(Id.camelG st l).length<=l.length
 | [],_ => by simp [Id.camelG]
 | b :: r,st => by
  unfold Id.camelG
  split
  ·have:=camelG_len r true
   simp only [List.length_cons];omega
  ·have:=camelG_len r false
   simp only [List.length_cons];omega
theorem id_Camel (s:ByteArray) (l:List UInt8) (w:World) (hl:s.data.toList=l) (hs:s.size<=100000000) (hM:ML w) :
  Calls Tryz.prog 39 #[.string s] w fun e w' => e=.returned (.string (S (Id.camel l)))/\Below w.heap.size w w':=by
 have cp:=fun W => id_IsPart s l W hl (by omega)
 cases hp:Id.isPart l
 ·have hv:Id.camel l=[]:=by unfold Id.camel;rw [if_neg (by rw [hp];decide)]
  rw [hp] at cp;have cp':=Lib.hid cp;have V:=Lib.hid hv;clear cp hp hv hl
  go_enter Tryz.func39,Tryz.ntmps39
  go_wp2_with (go_at_call 61;(with_reducible refine (cp'.out _).mono ?_);rintro e w' ⟨rfl,hb⟩)
  go_ret
  exact ⟨ret_str (by rw [V.out];rfl),hb⟩
 ·have hv:Id.camel l=Id.camelG true l:=by unfold Id.camel;rw [if_pos hp]
  have hcat:=(Id.camelG_cut l).1;have hcl:=camelG_len l true;obtain ⟨b0,r0,hlr,_,_,hlen⟩:=Id.isPart_parts hp;have hl40:l.length<=40:=by rw [hlr];simp;omega
  have hall:l.all Id.nmB=true:=by
   unfold Id.isPart at hp;simp only [Bool.and_eq_true] at hp;exact Id.okB_all hp.1
  have hpa:=fun p h => cut_all Id.nmB 95 l p hall h
  have hpl:=fun p h => cut_len 95 l p h
  have hpm:=cut_many 95 l;have c:=Lib.hid (fun W (h:Below w.heap.size w W) => id_split s 95 l W hl (by omega) (hM.below h));rw [hp] at cp;rw [hv];generalize Id.cut 95 l=P at c hpl hpm hcat hpa;generalize Id.camelG true l=C at hcat hcl hv;have cp':=Lib.hid cp;have CAT:=Lib.hid hcat;have PL:=Lib.hid hpl;have PA:=Lib.hid hpa;clear cp hp hv hcat hpl hpa hlr hall hl
  go_enter Tryz.func39,Tryz.ntmps39
  go_wp2_with (first
   | (go_at_call 61;(with_reducible refine (cp'.out _).mono ?_);rintro e w0 ⟨rfl,hb0⟩)
   | (go_at_call 60;(with_reducible refine (c.out _ hb0).mono ?_);rintro e w' ⟨rfl,rfl⟩))
  have hsz0:=hb0.size;have hpc:=Lib.hid (piece_cell w0 P 9)
  go_loopw [3,12] (fun t i wr => ∃ (k:Nat) (acc:List UInt8),k<=P.length/\t=.string (S acc)/\i=.int .i64 k/\Below (w0.heap.size + 1) (w0.alloc (.cells (P.map strV).toArray 9)) wr/\Hid (acc ++ (P.drop k).flatMap Id.cap=C)) (fun _ i _ => P.length - (intOf i).toNat)
  case atStart => exact ⟨0,[],by omega,rfl,rfl,Below.refl _ _,Lib.hid (by simpa using CAT.out)⟩
  case round =>
   obtain ⟨k,acc,hk,rfl,rfl,hb,hacc⟩:=hrel;have hbw:Below w.heap.size w wr:=(hb0.alloc hsz0 _).trans (hb.mono (by omega));by_cases hlt:k < P.length
   ·have hg:P[k]? = some P[k]:=List.getElem?_eq_getElem hlt
    have hcell:wr.cell? ⟨w0.heap.size,k,none⟩=some (.string (S P[k])):=by
     rw [hb.cell (p:=⟨w0.heap.size,k,none⟩) (Nat.lt_succ_self _)];exact hpc.out k _ hg
    have hpk:=PL.out _ (List.getElem_mem hlt);have hal:=PA.out _ (List.getElem_mem hlt);have hdr:P.drop k=P[k] :: P.drop (k + 1):=List.drop_eq_getElem_cons hlt;have hstep:=hacc.out;rw [hdr,List.flatMap_cons, ← List.append_assoc] at hstep
    have hal2:acc.length<=40:=by
     have:=congrArg List.length hacc.out;simp only [List.length_append] at this;omega
    clear hg hdr hacc;generalize P[k]=p at hcell hstep hpk hal;cases p with
    | nil =>
     have hn:(S []).toList=[]:=by rw [ByteArray.toList_eq];rfl
     have hs:=Lib.hid hstep;clear hstep hal
     go_wp2
     go_roundw
     case rel => exact ⟨k + 1,acc,by omega,rfl,by go_num,hb,Lib.hid (by have:=hs.out;simpa [Id.cap] using this)⟩
     case measure => simp [intOf];omega
    | cons b r =>
     have hn:(S (b :: r)).toList ≠ []:=by rw [ByteArray.toList_eq,S_list];simp
     have hn2:(S (b :: r)).toList.isEmpty=false:=by rw [ByteArray.toList_eq,S_list];rfl
     simp only [List.all_cons,Bool.and_eq_true] at hal;have hasc:=nm_ascii b hal.1;have hsz:(S (b :: r)).size=r.length + 1:=rfl;simp only [List.length_cons] at hpk;have hex1:(S (b :: r)).extract 0 1=S [b]:=by apply S_of;rw [sub_list,S_list];rfl
     have hex2:(S (b :: r)).extract 1 (S (b :: r)).size=S r:=by apply S_of;rw [sub_list,S_list,hsz];simp
     have ct : ∀ W,Calls Tryz.prog 62 #[.string ((S (b :: r)).extract 0 1)] W fun e w' => e=.returned (.string (S [Id.upB b]))/\Below W.heap.size W w':=fun W => by
      rw [hex1]
      have:=Tryz.strings_ToUpper_ascii (S [b]) W (by rw [S_size];simp) (fun j x hx => by
       rw [S_list] at hx;cases j with
       | zero => simp at hx;subst hx;exact hasc
       | succ j => simp at hx)
      rw [S_list,upper_one] at this;exact this
     have ct':=Lib.hid ct;have hs:=Lib.hid hstep;have E2:=Lib.hid hex2;have j1:1<=(S (b :: r)).size:=by rw [hsz];omega
     have j2:(1:Int)<=(S (b :: r)).size:=by omega
     have j3:(S acc).size<=40:=hal2;have j4:(S (b :: r)).size<=41:=by rw [hsz];omega
     clear hstep hex1 hex2 ct hal hasc hsz;have j5:(S [Id.upB b]).size<=1:=Nat.le_refl _;generalize hsp:S (b :: r)=sp at hcell hn hn2 ct' E2 j1 j2 j4;clear hsp;generalize hu:S [Id.upB b]=u at ct' j5;have U:=Lib.hid hu;clear hu
     have k1:(u.size:Int) + (sp.extract 1 sp.size).size<=9223372036854775807:=by
      have:(sp.extract 1 sp.size).size<=41:=by rw [ByteArray.size_extract];omega
      omega
     have k2:(u.size:Int) + ((sp.size:Int) - 1)<=9223372036854775807:=by omega
     have k3:((S acc).size:Int) + (u ++ sp.extract 1 sp.size).size<=9223372036854775807:=by
      have:(u ++ sp.extract 1 sp.size).size<=50:=by rw [ByteArray.size_append,ByteArray.size_extract];omega
      omega
     have k4:((S acc).size:Int) + ((u.size:Int) + ((sp.size:Int) - 1))<=9223372036854775807:=by omega
     have n1 : ¬ (9223372036854775807 < u.size + (sp.size - 1)):=by omega
     have n2 : ¬ (9223372036854775807 < (S acc).size + (u.size + (sp.size - 1))):=by omega
     have n3 : ¬ (9223372036854775807 < acc.length + (u.size + (sp.size - 1))):=by rw [S_size] at n2;exact n2
     go_wp2
     go_region_held3 (fun w' => True) (trivial) ((first | (go_at_call 62;(with_reducible refine (ct'.out _).mono ?_);rintro e w2 ⟨rfl,hb2⟩)))
     clear n1 n2 n3 k1 k2 k3 k4
     go_wp2
     go_roundw
     case rel =>
      refine ⟨k + 1,acc ++ Id.upB b :: r,by omega,?_,by go_num,(hb.drew).trans (hb2.mono (by have:=hb.size;simpa using this)),Lib.hid hs.out⟩;rw [← U.out,E2.out,S_app,S_app];rfl
     case measure => simp [intOf];omega
   ·have hk':P.drop k=[]:=List.drop_eq_nil_of_le (by omega)
    have hfin:=hacc.out;rw [hk',List.flatMap_nil,List.append_nil] at hfin;have F:=Lib.hid hfin;clear hk' hfin hacc
    go_wp2
    go_ret
    exact ⟨ret_str (by rw [F.out]),hbw⟩
end Go.Proofs.YtfoaaglbpmmhiaaGreatDoor
