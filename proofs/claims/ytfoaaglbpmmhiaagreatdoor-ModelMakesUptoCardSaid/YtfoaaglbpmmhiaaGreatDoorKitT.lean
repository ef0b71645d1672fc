import Derived.Test.YtfoaaglbpmmhiaaGreatDoorCkNote1
import Derived.Deep.RegionHeld3
import Derived.Test.YtfoaaglbpmmhiaaGreatDoorKitS
import Derived.Lib.AppendIntMem
import Derived.Lib.ItoaLen
import Derived.Deep.RegionLaw
set_option maxRecDepth 100000
set_option maxHeartbeats 4000000
set_option linter.unusedVariables false
set_option linter.unusedSimpArgs false
namespace Go.Proofs.YtfoaaglbpmmhiaaGreatDoor
section
open Go.RowKit
theorem S_app (a b:List UInt8):S a ++ S b=S (a ++ b):=S_of (qov _ _)
theorem qp9 (b:UInt8):Lib.toUpperA [b]=[Id.upB b]:=by
 have:=Id.u8_all (fun b=>decide (Lib.upperB b=Id.upB b)) (by decide +kernel) b;simp only [decide_eq_true_eq]at this;simp [Lib.toUpperA,this]
theorem qlq (q:UInt8->Bool) (c:UInt8) : ∀(l:List UInt8) (p:List UInt8),l.all q=true->p ∈ Id.cut c l->p.all q=true
 | [],p,_,h=>by
  simp [Id.cut]at h;subst h;rfl
 | b :: r,p,ha,h=>by
  simp only [List.all_cons,Bool.and_eq_true]at ha;by_cases hb:b=c
  ·subst hb
   rw [Id.cut_hit]at h;rcases List.mem_cons.1 h with rfl|h
   ·rfl
   ·exact qlq q b r p ha.2 h
  ·rw [Id.cut_miss c b r hb]at h
   have hn:=Id.cut_ne c r;cases hc:Id.cut c r with
   | nil=>exact absurd hc hn
   | cons x xs=>
    rw [hc]at h;rcases List.mem_cons.1 h with rfl|h
    ·simp only [List.all_cons,Bool.and_eq_true]
     exact⟨ha.1,qlq q c r x ha.2 (by rw [hc];simp)⟩
    ·exact qlq q c r p ha.2 (by rw [hc];simp [h])
theorem nm_ascii (b:UInt8) (h:Id.nmB b=true):b.toNat<128:=by
 have:=Id.u8_all (fun b => !Id.nmB b || decide (b.toNat<128)) (by decide +kernel) b;simp only [Bool.or_eq_true,Bool.not_eq_true',decide_eq_true_eq]at this;rcases this with e|e
 ·rw [h]at e;cases e
 ·exact e
theorem qd9 : ∀(l:List UInt8) (st:Bool),(Id.camelG st l).length<=l.length
 | [],_=>by simp [Id.camelG]
 | b :: r,st=>by
  unfold Id.camelG
  split
  ·have:=qd9 r true
   simp only [List.length_cons];omega
  ·have:=qd9 r false
   simp only [List.length_cons];omega
theorem qdq (s:ByteArray) (l:List UInt8) (w:World) (hl:s.data.toList=l) (hs:s.size<=100000000) (hM:ML w) :
  Calls Tryz.prog 39 #[.string s] w fun e w'=>e=.returned (.string (S (Id.camel l)))/\Below w.heap.size w w':=by
 have cp:=fun W=>qhl s l W hl (by omega)
 cases hp:Id.isPart l
 ·have hv:Id.camel l=[]:=by unfold Id.camel;rw [if_neg (by rw [hp];decide)]
  rw [hp]at cp;have cp':=h_ cp;have V:=h_ hv;clear cp hp hv hl
  go_enter Tryz.func39,Tryz.ntmps39
  go_wp2_with (go_at_call 61;(with_reducible refine(cp'.out _).mono ?_);rintro e w' ⟨rfl,hb⟩)
  go_ret;exact⟨qay (by rw [V.out];rfl),hb⟩
 ·have hv:Id.camel l=Id.camelG true l:=by unfold Id.camel;rw [if_pos hp]
  have hcat:=(Id.camelG_cut l).1;have hcl:=qd9 l true;obtain⟨b0,r0,hlr,_,_,hlen⟩:=Id.isPart_parts hp;have hl40:l.length<=40:=by rw [hlr];simp;omega
  have hall:l.all Id.nmB=true:=by
   unfold Id.isPart at hp;simp only [Bool.and_eq_true]at hp;exact Id.okB_all hp.1
  have hpa:=fun p h=>qlq Id.nmB 95 l p hall h
  have hpl:=fun p h=>qfr 95 l p h
  have hpm:=qfq 95 l;have c:=h_ (fun W (h:Below w.heap.size w W)=>qhk s 95 l W hl (by omega) (hM.below h));rw [hp]at cp;rw [hv];generalize Id.cut 95 l=P at c hpl hpm hcat hpa;generalize Id.camelG true l=C at hcat hcl hv;have cp':=h_ cp;have CAT:=h_ hcat;have PL:=h_ hpl;have PA:=h_ hpa;clear cp hp hv hcat hpl hpa hlr hall hl
  go_enter Tryz.func39,Tryz.ntmps39
  go_wp2_with (first
   | (go_at_call 61;(with_reducible refine(cp'.out _).mono ?_);rintro e w0 ⟨rfl,hb0⟩)
   | (go_at_call 60;(with_reducible refine(c.out _ hb0).mono ?_);rintro e w' ⟨rfl,rfl⟩))
  have hsz0:=hb0.size;have hpc:=h_ (qe0 w0 P 9)
  go_loopw [3,12] (fun t i wr => ∃(k:Nat) (acc:List UInt8),k<=P.length/\t=.string (S acc)/\i=.int .i64 k/\Below (w0.heap.size+1) (w0.alloc (.cells (P.map strV).toArray 9)) wr/\Hid (acc ++ (P.drop k).flatMap Id.cap=C)) (fun _ i _=>P.length-(intOf i).toNat)
  case atStart=>exact⟨0,[],by omega,rfl,rfl,Below.refl _ _,h_ (by simpa using CAT.out)⟩
  case round=>
   obtain⟨k,acc,hk,rfl,rfl,hb,hacc⟩:=hrel;have hbw:Below w.heap.size w wr:=(hb0.alloc hsz0 _).trans (hb.mono (by omega));by_cases hlt:k<P.length
   ·have hg:P[k]? = some P[k]:=List.getElem?_eq_getElem hlt
    have hcell:wr.cell? ⟨w0.heap.size,k,none⟩=some (.string (S P[k])):=by
     rw [hb.cell (p:=⟨w0.heap.size,k,none⟩) (Nat.lt_succ_self _)];exact hpc.out k _ hg
    have hpk:=PL.out _ (List.getElem_mem hlt);have hal:=PA.out _ (List.getElem_mem hlt);have hdr:P.drop k=P[k] :: P.drop (k+1):=List.drop_eq_getElem_cons hlt;have hstep:=hacc.out;rw [hdr,List.flatMap_cons, ←List.append_assoc]at hstep
    have hal2:acc.length<=40:=by
     have:=congrArg List.length hacc.out;simp only [List.length_append]at this;omega
    clear hg hdr hacc;generalize P[k]=p at hcell hstep hpk hal;cases p with
    | nil=>
     have hn:(S []).toList=[]:=by rw [ByteArray.toList_eq];rfl
     have hs:=h_ hstep;clear hstep hal;go_wp2;go_roundw
     case rel=>exact⟨k+1,acc,by omega,rfl,by go_num,hb,h_ (by have:=hs.out;simpa [Id.cap]using this)⟩
     case measure=>simp [intOf];omega
    | cons b r=>
     have hn:(S (b :: r)).toList ≠ []:=by rw [ByteArray.toList_eq,qah];simp
     have hn2:(S (b :: r)).toList.isEmpty=false:=by rw [ByteArray.toList_eq,qah];rfl
     simp only [List.all_cons,Bool.and_eq_true]at hal;have hasc:=nm_ascii b hal.1;have hsz:(S (b :: r)).size=r.length+1:=rfl;simp only [List.length_cons]at hpk;have hex1:(S (b :: r)).extract 0 1=S [b]:=by apply S_of;rw [qdl,qah];rfl
     have hex2:(S (b :: r)).extract 1 (S (b :: r)).size=S r:=by apply S_of;rw [qdl,qah,hsz];simp
     have ct : ∀W,Calls Tryz.prog 62 #[.string ((S (b :: r)).extract 0 1)] W fun e w'=>e=.returned (.string (S [Id.upB b]))/\Below W.heap.size W w':=fun W=>by
      rw [hex1]
      have:=Tryz.strings_ToUpper_ascii (S [b]) W (by rw [qai];simp) (fun j x hx=>by
       rw [qah]at hx;cases j with
       | zero=>simp at hx;subst hx;exact hasc
       | succ j=>simp at hx)
      rw [qah,qp9]at this;exact this
     have ct':=h_ ct;have hs:=h_ hstep;have E2:=h_ hex2;have j1:1<=(S (b :: r)).size:=by rw [hsz];omega
     have j2:(1:Int)<=(S (b :: r)).size:=by omega
     have j3:(S acc).size<=40:=hal2;have j4:(S (b :: r)).size<=41:=by rw [hsz];omega
     clear hstep hex1 hex2 ct hal hasc hsz;have j5:(S [Id.upB b]).size<=1:=Nat.le_refl _;generalize hsp:S (b :: r)=sp at hcell hn hn2 ct' E2 j1 j2 j4;clear hsp;generalize hu:S [Id.upB b]=u at ct' j5;have U:=h_ hu;clear hu
     have k1:(u.size:Int)+(sp.extract 1 sp.size).size<=9223372036854775807:=by
      have:(sp.extract 1 sp.size).size<=41:=by rw [ByteArray.size_extract];omega
      omega
     have k2:(u.size:Int)+((sp.size:Int)-1)<=9223372036854775807:=by omega
     have k3:((S acc).size:Int)+(u ++ sp.extract 1 sp.size).size<=9223372036854775807:=by
      have:(u ++ sp.extract 1 sp.size).size<=50:=by rw [ByteArray.size_append,ByteArray.size_extract];omega
      omega
     have k4:((S acc).size:Int)+((u.size:Int)+((sp.size:Int)-1))<=9223372036854775807:=by omega
     have n1 : ¬(9223372036854775807<u.size+(sp.size-1)):=by omega
     have n2 : ¬(9223372036854775807<(S acc).size+(u.size+(sp.size-1))):=by omega
     have n3 : ¬(9223372036854775807<acc.length+(u.size+(sp.size-1))):=by rw [qai]at n2;exact n2
     go_wp2
     go_region_held3 (fun w'=>True) (trivial) ((first|(go_at_call 62;(with_reducible refine(ct'.out _).mono ?_);rintro e w2 ⟨rfl,hb2⟩)))
     clear n1 n2 n3 k1 k2 k3 k4;go_wp2;go_roundw
     case rel=>
      refine⟨k+1,acc ++ Id.upB b :: r,by omega,?_,by go_num,(hb.drew).trans (hb2.mono (by have:=hb.size;simpa using this)),h_ hs.out⟩;rw [←U.out,E2.out,S_app,S_app];rfl
     case measure=>simp [intOf];omega
   ·have hk':P.drop k=[]:=List.drop_eq_nil_of_le (by omega)
    have hfin:=hacc.out;rw [hk',List.flatMap_nil,List.append_nil]at hfin;have F:=h_ hfin;clear hk' hfin hacc;go_wp2;go_ret;exact⟨qay (by rw [F.out]),hbw⟩
end
section
open Go.RowKit Ck Md
theorem has_no (u:Str) (r:List Str) (x:Str) (h:u ≠ x):Id.has (u :: r) x=Id.has r x:=by
 unfold Id.has;simp [Ne.symm h]
theorem md_has (v:Value) (ks:List Str) (s:ByteArray) (x:Str) (w:World) (h:Strs w v ks) (hx:s.data.toList=x) :
  Calls Tryz.prog 54 #[v,.string s] w fun e w'=>e=.returned (.bool (Id.has ks x))/\w=w':=by
 rcases h with⟨rfl,a,c,rfl⟩|⟨b,off,c,rfl,h2,h3,h4⟩
 ·have hv:Id.has [] x=false:=rfl
  have V:=h_ hv;clear hv hx
  go_enter Tryz.func54,Tryz.ntmps54
  go_wp2
  go_loop [9] (fun i=>i=.int .i64 0) (fun _=>0)
  case atStart=>rfl
  case round=>
   obtain rfl:=hrel;go_wp2;go_ret;exact⟨qa3 V.out.symm,rfl⟩
 ·have hcells:=h_ h4
  have hsx:s.toList=x:=by rw [ByteArray.toList_eq];exact hx
  have HX:=h_ hsx;clear h4 hx hsx
  go_enter Tryz.func54,Tryz.ntmps54
  go_wp2
  go_loop [9] (fun i => ∃k:Nat,k<=ks.length/\i=.int .i64 k/\Hid (Id.has (ks.drop k) x=Id.has ks x)) (fun i=>ks.length-(intOf i).toNat)
  case atStart=>exact⟨0,by omega,rfl,h_ rfl⟩
  case round=>
   obtain⟨k,hk,rfl,hr⟩:=hrel;by_cases hlt:k<ks.length
   ·have hg:ks[k]? = some ks[k]:=List.getElem?_eq_getElem hlt
    have hcell:=hcells.out k _ hg;have hdr:ks.drop k=ks[k] :: ks.drop (k+1):=List.drop_eq_getElem_cons hlt;have hstep:=hr.out;rw [hdr]at hstep;by_cases he:ks[k]=x
    ·have hb:((S ks[k]).toList == s.toList)=true:=by rw [ByteArray.toList_eq,HX.out,qah,he];simp
     have hv:Id.has ks x=true:=by rw [←hstep];unfold Id.has;simp [he]
     have V:=h_ hv;clear hv hstep hg hdr he;generalize ks[k]=u at hcell hb;go_wp2;go_ret;exact⟨qa3 V.out.symm,rfl⟩
    ·have hb:((S ks[k]).toList == s.toList)=false:=by rw [ByteArray.toList_eq,HX.out,qah];simpa using he
     have hv:Hid (Id.has (ks.drop (k+1)) x=Id.has ks x):=h_ (by rw [←hstep,has_no _ _ _ he]);clear hstep hg hdr he;generalize ks[k]=u at hcell hb;go_wp2;go_round
     case rel=>exact⟨k+1,by omega,by go_num,hv⟩
     case measure=>simp [intOf];omega
   ·have hv:Id.has ks x=false:=by rw [←hr.out,List.drop_eq_nil_of_le (by omega)];rfl
    have V:=h_ hv;clear hv;go_wp2;go_ret;exact⟨qa3 V.out.symm,rfl⟩
theorem rd_Has (v:Value) (ks:List Str) (s:ByteArray) (x:Str) (w:World) (h:Strs w v ks) (hx:s.data.toList=x) :
  Calls Tryz.prog 20 #[v,.string s] w fun e w'=>e=.returned (.bool (Id.has ks x))/\w=w':=by
 rcases h with⟨rfl,a,c,rfl⟩|⟨b,off,c,rfl,h2,h3,h4⟩
 ·have hv:Id.has [] x=false:=rfl
  have V:=h_ hv;clear hv hx
  go_enter Tryz.func20,Tryz.ntmps20
  go_wp2
  go_loop [5] (fun i=>i=.int .i64 0) (fun _=>0)
  case atStart=>rfl
  case round=>
   obtain rfl:=hrel;go_wp2;go_ret;exact⟨qa3 V.out.symm,rfl⟩
 ·have hcells:=h_ h4
  have hsx:s.toList=x:=by rw [ByteArray.toList_eq];exact hx
  have HX:=h_ hsx;clear h4 hx hsx
  go_enter Tryz.func20,Tryz.ntmps20
  go_wp2
  go_loop [5] (fun i => ∃k:Nat,k<=ks.length/\i=.int .i64 k/\Hid (Id.has (ks.drop k) x=Id.has ks x)) (fun i=>ks.length-(intOf i).toNat)
  case atStart=>exact⟨0,by omega,rfl,h_ rfl⟩
  case round=>
   obtain⟨k,hk,rfl,hr⟩:=hrel;by_cases hlt:k<ks.length
   ·have hg:ks[k]? = some ks[k]:=List.getElem?_eq_getElem hlt
    have hcell:=hcells.out k _ hg;have hdr:ks.drop k=ks[k] :: ks.drop (k+1):=List.drop_eq_getElem_cons hlt;have hstep:=hr.out;rw [hdr]at hstep;by_cases he:ks[k]=x
    ·have hb:((S ks[k]).toList == s.toList)=true:=by rw [ByteArray.toList_eq,HX.out,qah,he];simp
     have hv:Id.has ks x=true:=by rw [←hstep];unfold Id.has;simp [he]
     have V:=h_ hv;clear hv hstep hg hdr he;generalize ks[k]=u at hcell hb;go_wp2;go_ret;exact⟨qa3 V.out.symm,rfl⟩
    ·have hb:((S ks[k]).toList == s.toList)=false:=by rw [ByteArray.toList_eq,HX.out,qah];simpa using he
     have hv:Hid (Id.has (ks.drop (k+1)) x=Id.has ks x):=h_ (by rw [←hstep,has_no _ _ _ he]);clear hstep hg hdr he;generalize ks[k]=u at hcell hb;go_wp2;go_round
     case rel=>exact⟨k+1,by omega,by go_num,hv⟩
     case measure=>simp [intOf];omega
   ·have hv:Id.has ks x=false:=by rw [←hr.out,List.drop_eq_nil_of_le (by omega)];rfl
    have V:=h_ hv;clear hv;go_wp2;go_ret;exact⟨qa3 V.out.symm,rfl⟩
end
section
open Go.RowKit Ck Md
def PT (w : World) : Prop := Lib.TabIs Tryz.prog w "internal/strconv.uint64pow10" .u64 Lib.pow10Tab
theorem PT.bel {w w':World} (h:PT w) (k:Bel w w'):PT w':=Lib.tabBelow_of_tabIs h w' k.out
theorem bel_grow (w:World) (k:Nat) (os:Array Obj):Bel w (Sort.grow (w.drewN k) os):=by
 refine Bel.of ((Bel.refl w).drewN k) ⟨rfl,rfl,rfl,by simp [Sort.grow],fun i hi=>?_⟩;unfold Sort.grow;exact Array.getElem?_append_left hi
theorem md_Itoa (n:Int) (w:World) (hP:PT w) (h0 : -9223372036854775808<=n) (h1:n<=9223372036854775807) :
  Calls Tryz.prog 51 #[.int .i64 n] w fun e w'=>e=.returned (.string (S (Lib.itoa n)))/\Bel w w':=by
 refine(Tryz.strconv_Itoa n h0 h1 w hP).mono ?_;rintro e w' ⟨rfl,k,os,rfl⟩;exact⟨rfl,bel_grow w k os⟩
theorem qfi (n:Nat) (h:n<=4000000000):(Lib.itoa (n:Int)).length<=21:=Lib.itoa_length_le _ (by omega) (by omega)
theorem qky (v:Value) (ks:List Str) (name:Str) (w:World) (h:Strs w v ks) (hP:PT w) (hn:name.length<=1000000000000000) (hk:ks.length<=1000000000) :
  Calls Tryz.prog 18 #[v,.string (S name)] w fun e w'=>e=.returned (.string (S (qbl ks name)))/\Bel w w':=by
 have CH:=h_ (fun W (k:Bel w W) x=>md_has v ks (S x) x W (h.below k.out) (qah x));have CI:=h_ (fun W (n:Nat) (k:Bel w W) (hn:n<=4000000000)=>md_Itoa n W (hP.bel k) (by omega) (by omega));have V:=h_ (show uniqF ks name ks.length 0=qbl ks name from rfl);generalize qbl ks name=U at V;clear h hP
 go_enter Tryz.func18,Tryz.ntmps18
 go_wp2
 go_loopw [5,6] (fun s n wr => ∃(k f:Nat),f+k=ks.length/\s=.string (S (cand name k))/\n=.int .i64 (k+2)/\Bel w wr/\Hid (∀j,j<k->cand name j ∈ ks)/\Hid (uniqF ks name f k=U)) (fun _ n _=>ks.length+2-(intOf n).toNat)
 case atStart=>exact⟨0,ks.length,by omega,rfl,rfl,Bel.refl _,h_ (fun j hj=>by omega),V⟩
 case round=>
  obtain⟨k,f,hf,rfl,rfl,hb,hfree,hU⟩:=hrel;by_cases hh:Id.has ks (cand name k)=true
  ·have hk1:=qhv ks name (k+1) (fun j hj=>by
    rcases Nat.lt_or_ge j k with h1|h1
    ·exact hfree.out j h1
    ·have:j=k:=by omega
     subst this
     exact has_mem.1 hh)
   have hfree2:Hid (∀j,j<k+1->cand name j ∈ ks):=h_ (fun j hj=>by
    rcases Nat.lt_or_ge j k with h1|h1
    ·exact hfree.out j h1
    ·have:j=k:=by omega
     subst this
     exact has_mem.1 hh)
   obtain⟨f2,rfl⟩ : ∃f2,f=f2+1:=⟨f-1,by omega⟩;have hU2:Hid (uniqF ks name f2 (k+1)=U):=h_ (by have:=hU.out;rwa [uniqF,if_pos hh]at this);have hc:Hid (S name ++ S (Lib.itoa ((k+2:Nat):Int))=S (cand name (k+1))):=h_ (by rw [S_app];rfl);have hl:=qfi (k+2) (by omega);have CH2:=h_ (fun W (kk:Bel w W)=>(CH.out W kk (cand name k)));have CI2:=h_ (fun W (kk:Bel w W)=>(CI.out W (k+2) kk (by omega)));rw [hh]at CH2;generalize Lib.itoa ((k+2:Nat):Int)=T at CI2 hc hl;have e2:((k+2:Nat):Int)=(k:Int)+2:=by omega
   rw [e2]at CI2;clear hfree hU hh CH CI;have hsz1:(S name).size=name.length:=qai _;have hsz2:(S T).size=T.length:=qai _
   go_wp2_with (first
    | (go_at_call 54;(with_reducible refine(CH2.out _ (by(repeat (first|(with_reducible assumption)|(with_reducible exact Bel.refl _)|(with_reducible refine Bel.drew ?_)|(with_reducible refine Bel.drewN ?_ _)|(with_reducible refine Bel.alloc ?_ _)|((with_reducible refine qa8 ?_ ?hge);(case hge=>(first|omega|(simp;omega)))))))).mono ?_);rintro e w1 ⟨rfl,rfl⟩)
    | (go_at_call 51;(with_reducible refine(CI2.out _ (by(repeat (first|(with_reducible assumption)|(with_reducible exact Bel.refl _)|(with_reducible refine Bel.drew ?_)|(with_reducible refine Bel.drewN ?_ _)|(with_reducible refine Bel.alloc ?_ _)|((with_reducible refine qa8 ?_ ?hge);(case hge=>(first|omega|(simp;omega)))))))).mono ?_);rintro e w2 ⟨rfl,k2⟩;have kk2:Bel w w2:=Bel.of (by(repeat (first|(with_reducible assumption)|(with_reducible exact Bel.refl _)|(with_reducible refine Bel.drew ?_)|(with_reducible refine Bel.drewN ?_ _)|(with_reducible refine Bel.alloc ?_ _)|((with_reducible refine qa8 ?_ ?hge);(case hge=>(first|omega|(simp;omega))))))) k2.out;clear k2))
   go_roundw
   case rel=>exact⟨k+1,f2,by omega,by rw [hc.out],by go_num,kk2,hfree2,hU2⟩
   case measure=>simp [intOf];omega
  ·have hh':Id.has ks (cand name k)=false:=by simpa using hh
   have CH2:=h_ (fun W (kk:Bel w W)=>(CH.out W kk (cand name k)));rw [hh']at CH2
   have hU2:Hid (cand name k=U):=h_ (by
    have:=hU.out;cases f with
    | zero=>exact this
    | succ f=>rwa [uniqF,if_neg hh]at this)
   clear hfree hU hh hh' CH CI
   go_wp2_with (go_at_call 54;(with_reducible refine(CH2.out _ (by(repeat (first|(with_reducible assumption)|(with_reducible exact Bel.refl _)|(with_reducible refine Bel.drew ?_)|(with_reducible refine Bel.drewN ?_ _)|(with_reducible refine Bel.alloc ?_ _)|((with_reducible refine qa8 ?_ ?hge);(case hge=>(first|omega|(simp;omega)))))))).mono ?_);rintro e w1 ⟨rfl,rfl⟩)
   go_ret;exact⟨qay (by rw [hU2.out]),by(repeat (first|(with_reducible assumption)|(with_reducible exact Bel.refl _)|(with_reducible refine Bel.drew ?_)|(with_reducible refine Bel.drewN ?_ _)|(with_reducible refine Bel.alloc ?_ _)|((with_reducible refine qa8 ?_ ?hge);(case hge=>(first|omega|(simp;omega))))))⟩
end
section
open Go.RowKit Ck Md
theorem qd5 {w:World} {B:Nat} {v:Value} {ks:List Str} (h:w.ownsRow B 9 1 v ks.length (nmC ks)) (hl:ks.length<=140737488355328):Strs w v ks:=by
 have h0:=h;rcases h.2 with⟨rfl,hx⟩|⟨g,cap,cur,rfl,_⟩
 ·exact .inl ⟨List.eq_nil_of_length_eq_zero hx,none,0,rfl⟩
 ·refine .inr ⟨g,0,cap,rfl,hl,(h0.lt g rfl).2,fun j k hk=>?_⟩
  have:=h0.cells (g:=g) rfl j (.string (S k)) (by unfold nmC;rw [List.getElem?_map,hk];rfl);rw [Addr.add_lit]at this;exact this
theorem qaz (w:World) (vs:List Value) (t:TypeId) : ∀(j:Nat) (u:Value),vs[j]? = some u->(w.alloc (.cells vs.toArray t)).cell? ((⟨w.heap.size,0,none⟩:Addr).add j)=some u:=by
 intro j u h;rw [Addr.add_lit,Nat.zero_add,World.cell?_alloc_at _ _ _ _ rfl]
 simpa using h
theorem int_info:(Tryz.prog.info? 3).map (fun i=>(i.zero,i.size,i.bytes))=some (some (.int .i64 0),1,8):=by kernel_rfl
theorem qby {N M:Nat} {v0:Value} {g2 n cap:Nat} (h:v0.ownBlock=some g2 ∨ g2=N) (hN:M<=N) : ∀g,(Value.slice (some ⟨g2,0,none⟩) n cap).ownBlock=some g->v0.ownBlock=some g ∨ M<=g:=fun g hg=>by
 have:g2=g:=by simpa [Value.ownBlock]using hg
 subst this;rcases h with h|h
 ·exact .inl h
 ·right;omega
def AddI (w0:World) (R:List Row) (X:List Box) (g:Nat) (T:TypeId) (ns:List Str) (ws:List Value) (U:Str) (x:Value) (e:Ending) (w':World):Prop := ∃vn' vw',e=.returned (.string (S U)) ∧
   ST w0 (⟨9,1,vn',ns.length+1,nmC (ns ++ [U])⟩ :: ⟨3,1,vw',ns.length+1,ws ++ [x]⟩ :: R) (⟨g,#[vn',vw'],T⟩ :: X) w'
theorem qeq (w0:World) (R:List Row) (X:List Box) (g:Nat) (T:TypeId) (vn vw:Value) (ns:List Str) (ws:List Value) (name:Str) (x:Int) (w:World)
  (h:ST w0 (⟨9,1,vn,ns.length,nmC ns⟩ :: ⟨3,1,vw,ns.length,ws⟩ :: R) (⟨g,#[vn,vw],T⟩ :: X) w) (hP:PT w0) (hn:name.length<=4000000000) (hk:ns.length<=1000000000) :
  Calls Tryz.prog 42 #[.pointer (some ⟨g,0,none⟩),.string (S name),.int .i64 x] w (AddI w0 R X g T ns ws (qbl ns name) (.int .i64 x)):=by
 obtain⟨i0,hi,hz0,hz1,hz2⟩:=info_parts qc7;obtain⟨i1,hi1,hy0,hy1,hy2⟩:=info_parts int_info;have CU:=h_ (qky vn ns name w (qd5 (h.row 0 rfl) (by omega)) (hP.bel h.bel) (by omega) hk);have c0:w.cell? ⟨g,0,none⟩=some vn:=h.cell 0 rfl 0;have c1:w.cell? ⟨g,1,none⟩=some vw:=h.cell 0 rfl 1;have hglt:=(h.boxlt 0 rfl).2;have H:=h_ h;generalize qbl ns name=U at CU;clear h hP
 go_enter Tryz.func42,Tryz.ntmps42
 go_upto_region 2 with(go_at_call 18;(with_reducible refine CU.out.mono ?_);rintro e w1 ⟨rfl,k1⟩)
 have H1:=H.out.belw k1;have H2:=h_ (H1.belw ((Bel.refl w1).alloc (.cells #[.string (S U)] 9)));have hs1:=(H1.boxlt 0 rfl).2;have e0:w1.cell? ⟨g,0,none⟩=some vn:=H1.cell 0 rfl 0;clear H H1 c0 c1 CU
 go_wp2_with (at_builtin;refine wpList_append_lies _ rfl _ _ 37 rfl w0.heap.size 9 i0 (.string ByteArray.empty) 1 16 Tryz.underlying37 hi hz0 hz1 hz2 rfl (by decide) vn ns.length _ rfl (H2.out.row 0 rfl) ⟨w1.heap.size,0,none⟩ 1 1 [.string (S U)] rfl rfl (qaz _ _ _) (by simp [Value.oneCell']) (by decide) (by unfold maxLen;omega) (by omega) H2.out.bel.size (w1.heap.size+1) (by simp) ?_)
 intro g2 cap w2 hown hgrow hfr hlt2;have H3:=H2.out.grow 0 rfl hgrow hown (qby hfr (by simp));have e0:w2.cell? ⟨g,0,none⟩=some vn:=H3.cell 0 rfl 0;have z0:w2.frozen? ⟨g,0,none⟩=false:=H3.frz 0 rfl 0;have H4:=h_ (H3.setbox 0 rfl 0 (.slice (some ⟨g2,0,none⟩) (ns.length+1) cap));clear H2 H3 hown hgrow hfr hlt2
 go_upto_region 3 with(fail)
 generalize hW:World.setCell w2 _ _=w3;have hWh:w2.setCell ⟨g,0,none⟩ (.slice (some ⟨g2,0,none⟩) (ns.length+1) cap)=w3:=hW;rw [hWh]at H4;clear hW hWh e0 z0;have H5:=H4.out;have e1:w3.cell? ⟨g,1,none⟩=some vw:=H5.cell 0 rfl 1;have H6:=h_ (H5.belw ((Bel.refl w3).alloc (.cells #[.int .i64 x] 3)));clear H4 H5
 go_wp2_with (at_builtin;refine wpList_append_lies _ rfl _ _ 95 rfl w0.heap.size 3 i1 (.int .i64 0) 1 8 Tryz.underlying95 hi1 hy0 hy1 hy2 rfl (by decide) vw ns.length _ rfl (H6.out.row 1 rfl) ⟨w3.heap.size,0,none⟩ 1 1 [.int .i64 x] rfl rfl (qaz _ _ _) (by simp [Value.oneCell']) (by decide) (by unfold maxLen;omega) (by omega) H6.out.bel.size (w3.heap.size+1) (by simp) ?_)
 intro g3 cap3 w4 hown hgrow hfr hlt2;have H7:=H6.out.grow 1 rfl hgrow hown (qby hfr (by simp));have e2:w4.cell? ⟨g,1,none⟩=some vw:=H7.cell 0 rfl 1;have z2:w4.frozen? ⟨g,1,none⟩=false:=H7.frz 0 rfl 1;have H8:=h_ (H7.setbox 0 rfl 1 (.slice (some ⟨g3,0,none⟩) (ns.length+1) cap3));clear H6 H7 hown hgrow hfr hlt2;go_wp2;go_ret;exact⟨_,_,rfl,by rw [show nmC (ns ++ [U])=nmC ns ++ [.string (S U)]by unfold nmC;simp];exact H8.out⟩
end
section
open Go.RowKit Ck Md
theorem qmx:(Tryz.prog.info? 119).map (fun i=>(i.zero,i.size,i.bytes))=some (some (.agg #[.int .i64 0,.string ByteArray.empty]),2,24):=by kernel_rfl
def AddT (w0:World) (R:List Row) (X:List Box) (g:Nat) (T:TypeId) (a b c d:Value) (ns:List Str) (ws:List Value) (U:Str) (xs:List Value) (e:Ending) (w':World):Prop := ∃vn' vw',e=.returned (.string (S U)) ∧
   ST w0 (⟨9,1,vn',ns.length+1,nmC (ns ++ [U])⟩ :: ⟨119,2,vw',ns.length+1,ws ++ xs⟩ :: R) (⟨g,#[a,b,c,vn',vw',d],T⟩ :: X) w'
theorem md_addT (w0:World) (R:List Row) (X:List Box) (g:Nat) (T:TypeId) (a b c d vn vw:Value) (ns:List Str) (ws:List Value) (name:Str) (kd:Int) (fr:Str) (w:World)
  (h:ST w0 (⟨9,1,vn,ns.length,nmC ns⟩ :: ⟨119,2,vw,ns.length,ws⟩ :: R) (⟨g,#[a,b,c,vn,vw,d],T⟩ :: X) w) (hP:PT w0) (hn:name.length<=4000000000) (hk:ns.length<=1000000000) :
  Calls Tryz.prog 59 #[.pointer (some ⟨g,3,none⟩),.string (S name),.agg #[.int .i64 kd,.string (S fr)]] w (AddT w0 R X g T a b c d ns ws (qbl ns name) [.int .i64 kd,.string (S fr)]):=by
 obtain⟨i0,hi,hz0,hz1,hz2⟩:=info_parts qc7;obtain⟨i1,hi1,hy0,hy1,hy2⟩:=info_parts qmx;have hA:=h_ (h.addbox #[.int .i64 kd,.string (S fr)] 119);have CU:=h_ (qky vn ns name _ (qd5 (hA.out.row 0 rfl) (by omega)) (hP.bel hA.out.bel) (by omega) hk);have c3:w.cell? ⟨g,3,none⟩=some vn:=h.cell 0 rfl 3;have hglt:=(h.boxlt 0 rfl).2;generalize qbl ns name=U at CU;clear h hP
 go_enter Tryz.func59,Tryz.ntmps59
 go_upto_region 2 with(go_at_call 18;(with_reducible refine CU.out.mono ?_);rintro e w1 ⟨rfl,k1⟩)
 have H1:=hA.out.belw k1;have H2:=h_ (H1.belw ((Bel.refl w1).alloc (.cells #[.string (S U)] 9)));have hs1:=(H1.boxlt 1 rfl).2;have hq1:w.heap.size<w1.heap.size:=(H1.boxlt 0 rfl).2;have e0:w1.cell? ⟨g,3,none⟩=some vn:=H1.cell 1 rfl 3;clear hA H1 c3 CU
 go_wp2_with (at_builtin;refine wpList_append_lies _ rfl _ _ 37 rfl w0.heap.size 9 i0 (.string ByteArray.empty) 1 16 Tryz.underlying37 hi hz0 hz1 hz2 rfl (by decide) vn ns.length _ rfl (H2.out.row 0 rfl) ⟨w1.heap.size,0,none⟩ 1 1 [.string (S U)] rfl rfl (qaz _ _ _) (by simp [Value.oneCell']) (by decide) (by unfold maxLen;omega) (by omega) H2.out.bel.size (w1.heap.size+1) (by simp) ?_)
 intro g2 cap w2 hown hgrow hfr hlt2;have H3:=H2.out.grow 0 rfl hgrow hown (qby hfr (by simp));have e0:w2.cell? ⟨g,3,none⟩=some vn:=H3.cell 1 rfl 3;have z0:w2.frozen? ⟨g,3,none⟩=false:=H3.frz 1 rfl 3;have H4:=h_ (H3.setbox 1 rfl 3 (.slice (some ⟨g2,0,none⟩) (ns.length+1) cap));clear H2 H3 hown hgrow hfr hlt2
 go_upto_region 3 with(fail)
 generalize hW:World.setCell w2 _ _=w3;have hWh:w2.setCell ⟨g,3,none⟩ (.slice (some ⟨g2,0,none⟩) (ns.length+1) cap)=w3:=hW;rw [hWh]at H4;clear hW hWh e0 z0;have H5:=H4.out;have e1:w3.cell? ⟨g,4,none⟩=some vw:=H5.cell 1 rfl 4;have y0:w3.cell? ⟨w.heap.size,0,none⟩=some (.int .i64 kd):=H5.cell 0 rfl 0;have y1:w3.cell? ⟨w.heap.size,1,none⟩=some (.string (S fr)):=H5.cell 0 rfl 1;have l1:g<w3.heap.size:=(H5.boxlt 1 rfl).2;have l2:w.heap.size<w3.heap.size:=(H5.boxlt 0 rfl).2;have H6:=h_ (H5.belw (((Bel.refl w3).drew).alloc (.cells #[.int .i64 kd,.string (S fr)] 119)));have t0:(w3.drew.alloc (.cells #[.int .i64 kd,.string (S fr)] 119)).heap.size=w3.heap.size+1:=by simp
 have t2 : ∀j u,[Value.int .i64 kd,.string (S fr)][j]? = some u->(w3.drew.alloc (.cells #[.int .i64 kd,.string (S fr)] 119)).cell? ((⟨w3.heap.size,0,none⟩:Addr).add j)=some u:=qaz w3.drew _ _;have t3 : ∀u ∈ [Value.int .i64 kd,.string (S fr)],u.oneCell'=true:=by simp [Value.oneCell']
 have t4:(ns.length+1)*24<=140737488355328:=by omega
 have t5:ns.length+1<=maxLen:=by unfold maxLen;omega
 clear H4 H5
 go_region_law ((refine step_append_lies _ (by rfl) _ _ _ (by rfl) w0.heap.size 119 i1 (.agg #[.int .i64 0,.string ByteArray.empty]) 2 24 Tryz.underlying85 hi1 hy0 hy1 hy2 rfl (by decide) vw ns.length _ (by rfl) (H6.out.row 1 rfl) ⟨w3.heap.size,0,none⟩ 1 1 [.int .i64 kd,.string (S fr)] (by rfl) (by rfl) t2 t3 (by decide) t5 t4 H6.out.bel.size (w3.heap.size+1) t0 ?_;intro g3 cap3 w4 hown2 hgrow2 hgg hglt4;have H7:=H6.out.grow 1 rfl hgrow2 hown2 (qby hgg (by simp));have e2:w4.cell? ⟨g,4,none⟩=some vw:=H7.cell 1 rfl 4;have z2:w4.frozen? ⟨g,4,none⟩=false:=H7.frz 1 rfl 4;have H8:=h_ (H7.setbox 1 rfl 4 (.slice (some ⟨g3,0,none⟩) (ns.length+1) cap3));clear H7 hown2 hgrow2 hgg))
 all_goals clear t0 t2 t3 H6
 all_goals (go_wp2;go_ret;exact⟨_,_,rfl,by rw [show nmC (ns ++ [U])=nmC ns ++ [.string (S U)]by unfold nmC;simp];exact ST.dropbox0 H8.out⟩)
end
section
open Go.RowKit Ck Md
def VWh (w:World) (vs:List Value) (d:PDecl):Prop:=vs=whC d
theorem VWh.stays:Stays VWh:=fun _ _ _ _ _ h=>h
def NM (w:World) (g:Nat) (D:List PDecl):Prop := ∃vn vw,w.cell? ⟨g,3,none⟩=some vn/\w.cell? ⟨g,4,none⟩=some vw/\Strs w vn (D.map (·.name))/\Sv 2 VWh w vw D
theorem NM.bel {w w':World} {g:Nat} {D:List PDecl} (h:NM w g D) (k:Bel w w'):NM w' g D:=by
 obtain⟨vn,vw,h1,h2,h3,h4⟩:=h;exact⟨vn,vw,k.some h1,k.some h2,h3.below k.out,h4.bel VWh.stays k⟩
def nmGo (k:Int) (f:Str):List PDecl->Str
 | [] => []
 | d :: r=>if d.kind=k/\d.frm=f then d.name else nmGo k f r
theorem nmGo_eq (k:Int) (f:Str) : ∀D,nmGo k f D=qcg D k f
 | []=>rfl
 | d :: r=>by
  unfold nmGo qcg;rw [List.find?_cons];by_cases h:d.kind=k/\d.frm=f
  ·simp [isK,h]
  ·rw [if_neg h]
   have:isK k f d=false:=by unfold isK;by_cases h1:d.kind=k <;> by_cases h2:d.frm=f <;> simp_all
   rw [this];exact nmGo_eq k f r
theorem qkx (g:Nat) (D:List PDecl) (k:Int) (f:Str) (w:World) (h:NM w g D) :
  Calls Tryz.prog 64 #[.pointer (some ⟨g,3,none⟩),.agg #[.int .i64 k,.string (S f)]] w fun e w'=>e=.returned (.string (S (qcg D k f)))/\Bel w w':=by
 rw [←nmGo_eq];have HN:=h_ (fun W (kk:Bel w W)=>h.bel kk);obtain⟨vn,vw,h1,h2,h3,p,c,rfl,hl,hcap,hel⟩:=h;have V:=h_ (show nmGo k f (D.drop 0)=nmGo k f D from rfl);generalize nmGo k f D=T at V;have hg:g<w.heap.size:=World.block_lt_of_cell? w _ h1;have HE:=h_ hel;have HS:=h_ h3;clear h3 hel
 go_enter Tryz.func64,Tryz.ntmps64
 go_wp2;have b0:(w.alloc (.cells #[.int .i64 k,.string (S f)] 119)).cell? ⟨w.heap.size,0,none⟩=some (.int .i64 k):=by rw [World.cell?_alloc_at _ _ _ _ rfl];rfl
 have b1:(w.alloc (.cells #[.int .i64 k,.string (S f)] 119)).cell? ⟨w.heap.size,1,none⟩=some (.string (S f)):=by rw [World.cell?_alloc_at _ _ _ _ rfl];rfl
 have kw:Bel w (w.alloc (.cells #[.int .i64 k,.string (S f)] 119)):=(Bel.refl w).alloc _
 go_loopw [12] (fun i wr => ∃j:Nat,j<=D.length/\i=.int .i64 j/\Bel (w.alloc (.cells #[.int .i64 k,.string (S f)] 119)) wr/\Hid (nmGo k f (D.drop j)=T)) (fun i _=>D.length-(intOf i).toNat)
 case atStart=>exact⟨0,by omega,rfl,Bel.refl _,V⟩
 case round=>
  obtain⟨j,hj,rfl,hb,hT⟩:=hrel;have kr:Bel w wr:=Bel.of kw hb.out;have l0:w.heap.size<wr.heap.size:=by have:=hb.size;rw [World.size_alloc]at this;omega
  have l1:g<wr.heap.size:=by omega
  by_cases hlt:j<D.length
  ·have hji:(j:Int)<(D.length:Int):=by omega
   have hg2:=List.getElem?_eq_getElem hlt;obtain⟨b,off,rfl,hbs,vs,hce,hvs⟩:=HE.out j _ hg2;have hdr:D.drop j=D[j] :: D.drop (j+1):=List.drop_eq_getElem_cons hlt;have hvs':vs=whC D[j]:=hvs
   have e0:wr.cell? ⟨b,off+j*2,none⟩=some (.int .i64 D[j].kind):=kr.some (by
    have:=hce 0 (.int .i64 D[j].kind) (by rw [hvs'];rfl)
    rwa [Nat.add_zero]at this)
   have e1:wr.cell? ⟨b,off+j*2+1,none⟩=some (.string (S D[j].frm)):=kr.some (hce 1 (.string (S D[j].frm)) (by rw [hvs'];rfl));have q0:wr.cell? ⟨w.heap.size,0,none⟩=some (.int .i64 k):=hb.some b0;have q1:wr.cell? ⟨w.heap.size,1,none⟩=some (.string (S f)):=hb.some b1;have hst:=hT.out;rw [hdr]at hst;unfold nmGo at hst
   obtain⟨bn,on,cn,rfl,hbn,hnc⟩ : ∃bn on cn:Nat,vn=.slice (some ⟨bn,on,none⟩) D.length cn/\bn<w.heap.size/\w.cell? ⟨bn,on+j,none⟩=some (.string (S D[j].name)):=by
    rcases HS.out with⟨h0,_⟩|⟨bn,on,cn,e,_,hbn,hc⟩
    ·have:=congrArg List.length h0
     rw [List.length_map,List.length_nil]at this;exact absurd hlt (by omega)
    ·rw [List.length_map]at e
     exact⟨bn,on,cn,e,hbn,hc j _ (by rw [List.getElem?_map,hg2];rfl)⟩
   have n0:wr.cell? ⟨g,3,none⟩=some (.slice (some ⟨bn,on,none⟩) D.length cn):=kr.some h1;have n1:wr.cell? ⟨bn,on+j,none⟩=some (.string (S D[j].name)):=kr.some hnc;have l2:bn<wr.heap.size:=by omega
   clear HE HS hT hdr hce hvs hvs' hg2 hnc hbs HN b0 b1;generalize D[j].kind=kk at *;generalize D[j].frm=ff at *;generalize D[j].name=nn at *;by_cases he:kk=k/\ff=f
   ·rw [if_pos he]at hst
    obtain⟨rfl,rfl⟩:=he;have HT:=h_ hst;clear hst;go_wp2;go_ret;exact⟨qay (by rw [HT.out]),kr.alloc _⟩
   ·rw [if_neg he]at hst
    have HT:=h_ hst;clear hst;by_cases h1k:kk=k
    ·have hff : ¬ ff=f:=fun e=>he ⟨h1k,e⟩
     subst h1k;have hs:((S ff).toList == (S f).toList)=false:=by rw [ByteArray.toList_eq,ByteArray.toList_eq,qah,qah];simpa using hff
     clear he;go_wp2;go_roundw
     case rel=>exact⟨j+1,by omega,by go_num,hb.alloc _,HT⟩
     case measure=>simp [intOf];omega
    ·have hkk:(kk == k)=false:=beq_eq_false_iff_ne.2 h1k
     clear he;go_wp2;go_roundw
     case rel=>exact⟨j+1,by omega,by go_num,hb.alloc _,HT⟩
     case measure=>simp [intOf];omega
  ·have hv:T=[]:=by rw [←hT.out,List.drop_eq_nil_of_le (by omega)];rfl
   have HT:=h_ hv;clear hv;go_wp2;go_ret;exact⟨qay (by rw [HT.out];rfl),kr⟩
end
section
open Go.RowKit Ck Md
theorem md_word (k:Int) (w:World):Calls Tryz.prog 93 #[.int .i64 k] w fun e w'=>e=.returned (.string (S (Md.word k)))/\w=w':=by
 unfold Md.word;by_cases h1:k=1
 ·subst h1
  go_enter Tryz.func93,Tryz.ntmps93
  go_wp2;go_ret
  exact⟨rfl,rfl⟩
 rw [if_neg h1];have e1:(k == 1)=false:=beq_eq_false_iff_ne.2 h1;by_cases h2:k=2
 ·subst h2
  go_enter Tryz.func93,Tryz.ntmps93
  go_wp2;go_ret
  exact⟨rfl,rfl⟩
 rw [if_neg h2];have e2:(k == 2)=false:=beq_eq_false_iff_ne.2 h2;by_cases h3:k=3
 ·subst h3
  go_enter Tryz.func93,Tryz.ntmps93
  go_wp2;go_ret
  exact⟨rfl,rfl⟩
 rw [if_neg h3];have e3:(k == 3)=false:=beq_eq_false_iff_ne.2 h3;by_cases h4:k=4
 ·subst h4
  go_enter Tryz.func93,Tryz.ntmps93
  go_wp2;go_ret
  exact⟨rfl,rfl⟩
 rw [if_neg h4];have e4:(k == 4)=false:=beq_eq_false_iff_ne.2 h4;by_cases h5:k=5
 ·subst h5
  go_enter Tryz.func93,Tryz.ntmps93
  go_wp2;go_ret
  exact⟨rfl,rfl⟩
 rw [if_neg h5];have e5:(k == 5)=false:=beq_eq_false_iff_ne.2 h5;by_cases h6:k=6
 ·subst h6
  go_enter Tryz.func93,Tryz.ntmps93
  go_wp2;go_ret
  exact⟨rfl,rfl⟩
 rw [if_neg h6];have e6:(k == 6)=false:=beq_eq_false_iff_ne.2 h6;by_cases h7:k=7
 ·subst h7
  go_enter Tryz.func93,Tryz.ntmps93
  go_wp2;go_ret
  exact⟨rfl,rfl⟩
 rw [if_neg h7];have e7:(k == 7)=false:=beq_eq_false_iff_ne.2 h7
 go_enter Tryz.func93,Tryz.ntmps93
 go_wp2;go_ret
 exact⟨rfl,rfl⟩
theorem md_kind (k:Int) (w:World):Calls Tryz.prog 50 #[.int .i64 k] w fun e w'=>e=.returned (.string (S (Md.kindW k)))/\w=w':=by
 unfold Md.kindW;by_cases h1:k=1
 ·subst h1
  go_enter Tryz.func50,Tryz.ntmps50
  go_wp2;go_ret
  exact⟨rfl,rfl⟩
 rw [if_neg h1];have e1:(k == 1)=false:=beq_eq_false_iff_ne.2 h1;by_cases h2:k=2
 ·subst h2
  go_enter Tryz.func50,Tryz.ntmps50
  go_wp2;go_ret
  exact⟨rfl,rfl⟩
 rw [if_neg h2];have e2:(k == 2)=false:=beq_eq_false_iff_ne.2 h2;by_cases h3:k=3
 ·subst h3
  go_enter Tryz.func50,Tryz.ntmps50
  go_wp2;go_ret
  exact⟨rfl,rfl⟩
 rw [if_neg h3];have e3:(k == 3)=false:=beq_eq_false_iff_ne.2 h3;by_cases h4:k=4
 ·subst h4
  go_enter Tryz.func50,Tryz.ntmps50
  go_wp2;go_ret
  exact⟨rfl,rfl⟩
 rw [if_neg h4];have e4:(k == 4)=false:=beq_eq_false_iff_ne.2 h4
 go_enter Tryz.func50,Tryz.ntmps50
 go_wp2;go_ret
 exact⟨rfl,rfl⟩
theorem qow (P:List Str) (k:Nat) (h:k<P.length):(P.drop k).flatMap Id.camel=Id.camel P[k] ++ (P.drop (k+1)).flatMap Id.camel:=by
 rw [List.drop_eq_getElem_cons h,List.flatMap_cons]
theorem qc0 (l:Str):(Id.camel l).length<=l.length:=by
 unfold Id.camel
 split
 ·exact qd9 l true
 ·simp
theorem cut_sum (c:UInt8) : ∀l:Str,((Id.cut c l).map (·.length)).sum<=l.length
 | []=>by simp [Id.cut]
 | b :: r=>by
  have ih:=cut_sum c r;by_cases hb:b=c
  ·subst hb
   rw [Id.cut_hit];simp only [List.map_cons,List.length_nil,List.sum_cons,List.length_cons];omega
  ·rw [Id.cut_miss c b r hb]
   cases e:Id.cut c r with
   | nil=>simp [Id.onHead]
   | cons q qs=>
    rw [e]at ih;simp only [Id.onHead,List.map_cons,List.sum_cons,List.length_cons]at ih ⊢;omega
theorem qoa : ∀P:List Str,(P.flatMap Id.camel).length<=(P.map (·.length)).sum
 | []=>by simp
 | p :: P=>by
  have:=qc0 p;have:=qoa P;rw [List.flatMap_cons,List.length_append,List.map_cons,List.sum_cons];omega
theorem qbp (l:Str):(Md.camel l).length<=l.length:=Nat.le_trans (qoa _) (cut_sum 46 l)
theorem qjg (l:Str) (w:World) (hs:l.length<=100000000) (hM:ML w) :
  Calls Tryz.prog 37 #[.string (S l)] w fun e w'=>e=.returned (.string (S (Md.camel l)))/\Bel w w':=by
 have hcl:=qbp l;have hpl:=fun p h=>qfr 46 l p h
 have hpm:=qfq 46 l;have hsz:(S l).size<=1000000000:=by rw [qai];omega
 have c:=h_ (fun W (h:Bel w W)=>qhk (S l) 46 l W (qah l) hsz (hM.below h.out));have cC:=h_ (fun W (h:Bel w W) (p:Str) (hp:p.length<=100000000)=>qdq (S p) p W (qah p) (by rw [qai];exact hp) (hM.below h.out));have V:=h_ (show(Id.cut 46 l).flatMap Id.camel=Md.camel l from rfl);generalize Md.camel l=C at V hcl;generalize Id.cut 46 l=P at c hpl hpm V;have PL:=h_ hpl;clear hpl hM hsz
 go_enter Tryz.func37,Tryz.ntmps37
 go_wp2_with (go_at_call 60;(with_reducible refine(c.out _ (Bel.refl _)).mono ?_);rintro e w' ⟨rfl,rfl⟩)
 have hpc:=h_ (qe0 w P 9);have kw:Bel w (w.alloc (.cells (P.map strV).toArray 9)):=(Bel.refl w).alloc _
 go_loopw [3,9] (fun t i wr => ∃(k:Nat) (acc:Str),k<=P.length/\t=.string (S acc)/\i=.int .i64 k/\Bel (w.alloc (.cells (P.map strV).toArray 9)) wr/\Hid (acc ++ (P.drop k).flatMap Id.camel=C)) (fun _ i _=>P.length-(intOf i).toNat)
 case atStart=>exact⟨0,[],by omega,rfl,rfl,Bel.refl _,h_ (by simpa using V.out)⟩
 case round=>
  obtain⟨k,acc,hk,rfl,rfl,hb,hacc⟩:=hrel;have hbw:Bel w wr:=Bel.of kw hb.out;by_cases hlt:k<P.length
  ·have hki:(k:Int)<(P.length:Int):=by omega
   have hg:P[k]? = some P[k]:=List.getElem?_eq_getElem hlt;have hcell:wr.cell? ⟨w.heap.size,k,none⟩=some (.string (S P[k])):=hb.some (hpc.out k _ hg);have hpk:=PL.out _ (List.getElem_mem hlt);have hstep:=hacc.out;rw [qow P k hlt, ←List.append_assoc]at hstep
   have hal:(acc ++ Id.camel P[k]).length<=C.length:=by
    have:=congrArg List.length hstep;rw [List.length_append]at this;omega
   have cC2:=h_ (fun W (h:Bel w W)=>cC.out W h P[k] (by omega));have HS:=h_ hstep;rw [List.length_append]at hal;clear hg hacc hstep;generalize P[k]=p at hcell hpk hal cC2 HS;generalize Id.camel p=q at cC2 HS hal;have z1:(S acc).size=acc.length:=qai _;have z2:(S q).size=q.length:=qai _
   go_wp2_with (go_at_call 39;(with_reducible refine(cC2.out _ hbw).mono ?_);rintro e w2 ⟨rfl,k2⟩)
   go_roundw
   case rel=>exact⟨k+1,acc ++ q,by omega,by rw [S_app],by go_num,Bel.of hb k2,HS⟩
   case measure=>simp [intOf];omega
  ·have hv:acc=C:=by rw [←hacc.out,List.drop_eq_nil_of_le (by omega)];simp
   have HT:=h_ hv;clear hv hacc;go_wp2;go_ret;exact⟨qay (by rw [HT.out]),hbw⟩
end
end Go.Proofs.YtfoaaglbpmmhiaaGreatDoor
