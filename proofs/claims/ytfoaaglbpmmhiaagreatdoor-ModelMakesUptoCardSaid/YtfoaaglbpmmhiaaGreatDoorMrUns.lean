import Derived.Test.YtfoaaglbpmmhiaaGreatDoorMdMake
import Derived.Test.YtfoaaglbpmmhiaaGreatDoorMdText
import Derived.Test.YtfoaaglbpmmhiaaGreatDoorKitT
import Derived.Lib.ItoaLen
import Derived.Test.YtfoaaglbpmmhiaaGreatDoorMdChoice
set_option maxRecDepth 100000
set_option maxHeartbeats 4000000
set_option linter.unusedVariables false
set_option linter.unusedSimpArgs false
namespace Go.Proofs.YtfoaaglbpmmhiaaGreatDoor
section
open Go.RowKit Ck Md
def fA:PField:=⟨1,[120],2,0,10,[97,46,117,115,101,114,95,105,100],[],false,⟨0,0,[],0,0,0,0⟩,[]⟩
def mA:PMsg:=⟨[97,46,117,115,101,114,95,105,100],[fA],[],[],[]⟩
def sA:PSchema:=⟨[mA],[],[]⟩
theorem valid_A:valid sA=true:=by kernel_rfl
theorem short_A:Short sA:=by
 refine⟨fun m hm=>?_,(fun e he=>by cases he),(fun e he=>by cases he),⟨by decide,by decide,by decide⟩,?_⟩
 ·have hm':m=mA:=List.mem_singleton.1 hm
  subst hm';refine⟨by decide,by decide,by decide,by decide,fun f hf=>?_,(fun e he=>by cases he),(fun e he=>by cases he)⟩;have hf':f=fA:=List.mem_singleton.1 hf;subst hf';exact⟨by decide,by decide,by decide,(fun e he=>by cases he)⟩
 ·have:=valid_A
  unfold valid at this;rw [List.isEmpty_iff.1 this];exact Nat.zero_le _
def dA:PDecl:=⟨1,[65,85,115,101,114,73,100],[97,46,117,115,101,114,95,105,100],[⟨[88],[63,65,85,115,101,114,73,100],1⟩]⟩
theorem make_A:make sA=[dA]:=by kernel_rfl
theorem itoa_1:Lib.itoa 1=[49]:=by
 have:=qjj 1;rw [show((1:Nat):Int)=1 from rfl]at this;rw [this,Lib.decDigits];rfl
def tA:Str:=[114,101,99,111,114,100,32,65,85,115,101,114,73,100,32,61,32,97,46,117,115,101,114,95,105,100,10,32,32,88,32,49,32,63,65,85,115,101,114,73,100,10]
theorem text_A:Md.text [dA]=tA:=by
 unfold Md.text declT memT dA;simp only [List.flatMap_cons,List.flatMap_nil,itoa_1];rfl
theorem declB_A:declB 1000000000 [dA]:=by
 refine⟨by rw [text_A];decide,fun d hd=>?_⟩;have hd':d=dA:=List.mem_singleton.1 hd;subst hd';refine⟨by decide,by decide,fun m hm=>?_⟩;have hm':m=⟨[88],[63,65,85,115,101,114,73,100],1⟩:=List.mem_singleton.1 hm;subst hm';exact⟨by decide,by decide,by decide,by decide⟩
def fCA:Array Value:=#[.int .i64 1,.string ⟨#[120]⟩,.int .i64 2,.int .i64 0,.int .i64 10,.string ⟨#[97,46,117,115,101,114,95,105,100]⟩,.string ⟨#[]⟩,.bool false,.int .i64 0,.int .u64 0,.string ⟨#[]⟩,.slice none 0 0,.slice none 0 0,.slice none 0 0,.slice none 0 0,.slice none 0 0]
theorem vmsg_A {W:World} {b:Nat} {t:TypeId} (h:W.heap[b]? = some (.cells fCA t (0,0))):VMsg W [.string (S [97,46,117,115,101,114,95,105,100]),.slice (some ⟨b,0,none⟩) 1 1,.slice none 0 0,.slice none 0 0,.slice none 0 0] mA:=by
 refine⟨_,_,_,_,rfl,⟨some ⟨b,0,none⟩,1,rfl,by decide,by decide,fun i x hx=>?_⟩,Sl.nil _ _ _ _ _,Sl.nil _ _ _ _ _,Sl.nil _ _ _ _ _⟩
 have hi:i=0:=by
  have:=(List.getElem?_eq_some_iff.1 hx).1;have h1:mA.fields.length=1:=rfl;omega
 subst hi
 have hxe:fA=x:=by
  have:mA.fields[0]? = some fA:=rfl;rw [this]at hx;exact Option.some.inj hx
 subst hxe;refine⟨b,0,rfl,(Array.getElem?_eq_some_iff.1 h).1,fCA.toList,fun j v hv=>?_,?_⟩
 ·rw [Lib.cell_of_heap h,Nat.zero_mul,Nat.zero_add]
  simpa using hv
 ·exact⟨[.int .i64 0,.int .u64 0,.string ⟨#[]⟩,.slice none 0 0,.slice none 0 0,.slice none 0 0,.slice none 0 0],.slice none 0 0,rfl,⟨none,none,none,none,0,0,0,0,rfl,by decide,by decide,by decide,by decide,by decide,by decide⟩,Sl.nil _ _ _ _ _⟩
theorem qp8 {W:World} {b c:Nat} {t t2:TypeId} (h:W.heap[b]? = some (.cells fCA t (0,0))) (h2:W.heap[c]? = some (.cells #[.string (S [97,46,117,115,101,114,95,105,100]),.slice (some ⟨b,0,none⟩) 1 1,.slice none 0 0,.slice none 0 0,.slice none 0 0] t2 (0,0))) :
  VSchema W [.slice (some ⟨c,0,none⟩) 1 1,.slice none 0 0,.slice none 0 0] sA:=by
 refine⟨_,_,_,rfl,⟨some ⟨c,0,none⟩,1,rfl,by decide,by decide,fun i x hx=>?_⟩,Sl.nil _ _ _ _ _,Sl.nil _ _ _ _ _⟩
 have hi:i=0:=by
  have:=(List.getElem?_eq_some_iff.1 hx).1;have h1:sA.msgs.length=1:=rfl;omega
 subst hi
 have hxe:mA=x:=by
  have:sA.msgs[0]? = some mA:=rfl;rw [this]at hx;exact Option.some.inj hx
 subst hxe;refine⟨c,0,rfl,(Array.getElem?_eq_some_iff.1 h2).1,_,fun j v hv=>?_,vmsg_A h⟩;rw [Lib.cell_of_heap h2,Nat.zero_mul,Nat.zero_add]
 simpa using hv
theorem ql1 (w:World) (hP:PT w) (hM:ML w):Calls Tryz.prog 14 #[] w fun e w'=>e=.returned (.bool true)/\Bel w w':=by
 have hsz : ∀n:Nat,(w.alloc (.cells fCA 63)).heap.size=w.heap.size+1:=fun _=>by simp
 have CMK:=h_ (fun(W:World) (b c:Nat) (t t2:TypeId) (kk:Bel w W) (h:W.heap[b]? = some (.cells fCA t (0,0))) (h2:W.heap[c]? = some (.cells #[.string (S [97,46,117,115,101,114,95,105,100]),.slice (some ⟨b,0,none⟩) 1 1,.slice none 0 0,.slice none 0 0,.slice none 0 0] t2 (0,0)))=>show Calls Tryz.prog 11 #[.agg #[.slice (some ⟨c,0,none⟩) 1 1,.slice none 0 0,.slice none 0 0]] W (qp4 W [dA])from by
  have:=qgk (some ⟨c,0,none⟩) none none 1 0 0 sA W (qp8 h h2) (hP.bel kk) (hM.below kk.out) short_A valid_A
  rwa [make_A]at this)
 clear hsz
 go_enter Tryz.func14,Tryz.ntmps14
 go_upto_region 2 with(fail)
 generalize hW1:w.alloc _=W1;have hb1:W1.heap[w.heap.size]? = some (.cells fCA 63 (0,0)):=by rw [←hW1];exact heap_alloc_new _ _
 have kw1:Bel w W1:=by rw [←hW1];exact(Bel.refl w).alloc _
 have hs1:W1.heap.size=w.heap.size+1:=by rw [←hW1];simp
 clear hW1;have aE:=qas;obtain⟨K,hK⟩ : ∃K,K=16:=⟨_,rfl⟩;have zE : ∀w,(Go.sizeOf 63).run Tryz.prog w=.ok K w:=hK ▸ qal
 have l2:Sem.run Tryz.prog (loadCellsFrom ⟨w.heap.size,0,none⟩ 0 K #[]) W1=.ok fCA W1:=run_loadCellsFrom_list Tryz.prog _ _ _ K hK.symm (fun j v hj=>by
  rw [Addr.add_lit,Nat.zero_add,Lib.cell_of_heap hb1]
  simpa [fCA]using hj)
 have HK:=h_ hK;have HB1:=h_ hb1;have HS1:=h_ hs1;clear hK hb1 hs1;unfold fCA at l2
 go_upto_region 3 with(go_at_call 11;have hk0:=HK.out;subst hk0;generalize hX:Array.setIfInBounds _ 15 (Value.slice none 0 0)=X;have hXf:X=fCA:=(by rw [←hX];kernel_rfl);clear hX;subst hXf;generalize hW4:World.alloc (World.alloc W1 _) _=W4;have p1:Bel w W4:=(by rw [←hW4];exact(kw1.alloc _).alloc _);have p2:W4.heap[W1.heap.size]? = some (.cells fCA 63 (0,0)):=(by rw [←hW4];exact(heap_alloc_old _ _ (by simp)).trans (heap_alloc_new _ _));have p3:W4.heap[W1.heap.size+1]? = some (.cells #[.string (S [97,46,117,115,101,114,95,105,100]),.slice (some ⟨W1.heap.size,0,none⟩) 1 1,.slice none 0 0,.slice none 0 0,.slice none 0 0] 44 (0,0)):=(by rw [←hW4];exact qb0 _ _ _ (by simp));(with_reducible refine(CMK.out W4 W1.heap.size (W1.heap.size+1) 63 44 p1 p2 p3).mono ?_);clear p1 p2 p3;rintro e w5 ⟨v,rfl,hd,k5⟩;have k4:Bel w W4:=(by rw [←hW4];exact(kw1.alloc _).alloc _);have kw5:Bel w w5:=Bel.of k4 k5;clear hW4 k4 k5)
 all_goals (first|(exfalso;have hk:=HK.out;omega)|skip)
 have CT:=h_ (show Calls Tryz.prog 16 #[v] w5 (fun e w'=>e=.returned (.string (S tA))/\Bel w5 w')from(md_Text v [dA] w5 hd (hP.bel kw5) declB_A).mono fun e w' h=>⟨(by rw [h.1,text_A]),h.2⟩);clear hd CMK
 go_wp2_with (go_at_call 16;(with_reducible refine CT.out.mono ?_);rintro e w6 ⟨rfl,k6⟩)
 go_ret;exact⟨qa3 (by rw [ByteArray.toList_eq,qah];unfold tA;decide),Bel.of kw5 k6.out⟩
end
section
open Go.RowKit Ck Md
theorem conv_n (W:World) (c:UInt8) (n:Int) (h:n=c.toNat):(convert 105 9 (.slice (some ⟨W.heap.size,0,none⟩) 1 1)).run Tryz.prog (W.alloc (.cells #[.int .u8 n] 5))=.ok (.string (S [c])) (W.alloc (.cells #[.int .u8 n] 5)):=by
 subst h;exact qlr W c
def dg (u:Nat):UInt8:=UInt8.ofNat (48+u % 10)
theorem dg_nat (u:Nat):((dg u).toNat:Int)=48+(u:Int) % 10:=by
 unfold dg;rw [UInt8.toNat_ofNat'];omega
def qjt (u:Nat):Str:=if 10<=u then Lib.decDigits (u / 10)else []
theorem qoi (u:Nat):Lib.decDigits u=qjt u ++ [dg u]:=by
 unfold qjt dg;rw [Lib.decDigits];by_cases h:u<10
 ·rw [dif_pos h,if_neg (by omega),List.nil_append,show u % 10=u by omega]
 ·rw [dif_neg h,if_pos (by omega)]
theorem dec_len : ∀u:Nat,u<18446744073709551616->(Lib.decDigits u).length<=20:=fun u hu=>by
 have h : ∀(n:Nat) (u:Nat),u<10 ^ n->0<n->(Lib.decDigits u).length<=n:=by
  intro n
  induction n with
  | zero=>intro u _ h;omega
  | succ n ih=>
   intro u hu _;rw [Lib.decDigits];by_cases h:u<10
   ·rw [dif_pos h]
    simp
   ·rw [dif_neg h,List.length_append,List.length_singleton]
    have hn:0<n:=by
     rcases Nat.eq_zero_or_pos n with h0|h0
     ·subst h0;omega
     ·exact h0
    have:=ih (u / 10) (by rw [Nat.pow_succ]at hu;omega) hn;omega
 exact h 20 u (by omega) (by omega)
theorem qkp (u:Nat) (w:World) (hu:u<18446744073709551616) :
  Calls Tryz.prog 70 #[.int .u64 u] w fun e w'=>e=.returned (.string (S (Lib.decDigits u)))/\Bel w w':=by
 have V:=h_ (qoi u).symm;have hlen:=dec_len u hu;generalize Lib.decDigits u=T at V hlen;have hd:=dg_nat u;have hcv:=fun W=>conv_n W (dg u) (48+(u:Int) % 10) hd.symm
 have h0:(0:Int)<=u:=by omega
 have hu':(u:Int)<18446744073709551616:=by omega
 have hw1:IntKind.u64.wrap (48+(u:Int) % 10)=48+(u:Int) % 10:=by
  have:IntKind.u64.wrap (48+(u:Int) % 10)=(48+(u:Int) % 10) % 18446744073709551616:=by simp [IntKind.wrap,IntKind.bits,IntKind.signed]
  omega
 have hw2:IntKind.u8.wrap (48+(u:Int) % 10)=48+(u:Int) % 10:=by
  have:IntKind.u8.wrap (48+(u:Int) % 10)=(48+(u:Int) % 10) % 256:=by simp [IntKind.wrap,IntKind.bits,IntKind.signed]
  omega
 have hc0:=hcv w;have hld:(S [dg u]).size=1:=rfl;clear hd hcv
 go_enter Tryz.func70,Tryz.ntmps70
 go_wp2;clear hc0 hw1 hw2 hld
 go_loopw [0,3] (fun a s wr => ∃(c:Nat) (acc:Str),a=.int .u64 c/\s=.string (S acc)/\c<18446744073709551616/\Bel w wr/\Hid (qjt c ++ acc=T)) (fun a _ _=>(intOf a).toNat)
 case atStart=>exact⟨u,[dg u],rfl,rfl,hu,(Bel.refl w).alloc _,V⟩
 case round=>
  obtain⟨c,acc,rfl,rfl,hc,hb,hT⟩:=hrel;have hc0:(0:Int)<=c:=by omega
  have hc1:(c:Int)<18446744073709551616:=by omega
  have hal:acc.length<=20:=by
   have:=congrArg List.length hT.out;rw [List.length_append]at this;omega
  by_cases h10:10<=c
  ·have h10i:(10:Int)<=c:=by omega
   have hT2:=h_ (show qjt (c / 10) ++ (dg (c / 10) :: acc)=T by
    rw [←hT.out];unfold qjt;rw [if_pos h10,qoi (c / 10)]
    simp [qjt])
   have hd:=dg_nat (c / 10);have hdi:((c / 10:Nat):Int)=(c:Int) / 10:=by omega
   rw [hdi]at hd;have hcv:=conv_n wr (dg (c / 10)) (48+(c:Int) / 10 % 10) hd.symm;have HD:=h_ hdi
   have hw1:IntKind.u64.wrap (48+(c:Int) / 10 % 10)=48+(c:Int) / 10 % 10:=by
    have:IntKind.u64.wrap (48+(c:Int) / 10 % 10)=(48+(c:Int) / 10 % 10) % 18446744073709551616:=by simp [IntKind.wrap,IntKind.bits,IntKind.signed]
    omega
   have hw2:IntKind.u8.wrap (48+(c:Int) / 10 % 10)=48+(c:Int) / 10 % 10:=by
    have:IntKind.u8.wrap (48+(c:Int) / 10 % 10)=(48+(c:Int) / 10 % 10) % 256:=by simp [IntKind.wrap,IntKind.bits,IntKind.signed]
    omega
   have hsz1:(S [dg (c / 10)]).size=1:=rfl;have hsz2:(S acc).size=acc.length:=qai _;have hq0:(0:Int)<=(c:Int) / 10:=by omega
   have hq1:(c:Int) / 10<18446744073709551616:=by omega
   have HC:=h_ (show S [dg (c / 10)] ++ S acc=S (dg (c / 10) :: acc)by rw [S_app];rfl);clear hT hd hdi;generalize dg (c / 10)=DD at hT2 hcv hsz1 HC;go_wp2;go_roundw
   case rel=>exact⟨c / 10,DD :: acc,by rw [HD.out],by rw [HC.out],by omega,hb.alloc _,hT2⟩
   case measure=>simp [intOf];omega
  ·have h10i : ¬(10:Int)<=c:=by omega
   have hx:=h_ (show acc=T by rw [←hT.out];unfold qjt;rw [if_neg h10];rfl);clear hT;go_wp2;go_ret;exact⟨qay (by rw [hx.out]),hb⟩
theorem qng (n:Int) (w:World) (h0 : -9223372036854775808<=n) (h1:n<=9223372036854775807) :
  Calls Tryz.prog 53 #[.int .i64 n] w fun e w'=>e=.returned (.string (S (Lib.itoa n)))/\Bel w w':=by
 by_cases hn:n<0
 ·have hv:Lib.itoa n=45 :: Lib.decDigits n.natAbs:=by unfold Lib.itoa;rw [if_pos hn]
  have V:=h_ hv;have C:=h_ (fun W=>qkp n.natAbs W (by omega));have hl:=dec_len n.natAbs (by omega);generalize Lib.decDigits n.natAbs=T at C V hl;have hsz:=qai T
  have hz:IntKind.u64.wrap (wrap64 (-n))=(n.natAbs:Int):=by
   have h : ∀x:Int,IntKind.u64.wrap x=x % 18446744073709551616:=fun x=>by simp [IntKind.wrap,IntKind.bits,IntKind.signed]
   rw [h];unfold wrap64;omega
  have C2:=h_ (fun W=>show Calls Tryz.prog 70 #[.int .u64 (IntKind.u64.wrap (wrap64 (-n)))] W (fun e w'=>e=.returned (.string (S T))/\Bel W w')from by rw [hz];exact C.out W);clear hz C hv
  go_enter Tryz.func53,Tryz.ntmps53
  go_wp2_with (go_at_call 70;(with_reducible refine(C2.out _).mono ?_);rintro e w1 ⟨rfl,k1⟩)
  go_ret;exact⟨qay (by rw [V.out,show(45 :: T)=[45] ++ T from rfl, ←S_app];rfl),k1⟩
 ·have hv:Lib.itoa n=Lib.decDigits n.toNat:=by unfold Lib.itoa;rw [if_neg hn]
  have V:=h_ hv;obtain⟨k,hk⟩ : ∃k:Nat,n=k:=⟨n.toNat,by omega⟩;subst hk;have C:=h_ (fun W=>qkp k W (by omega));clear hv;rw [Int.toNat_natCast]at V;generalize Lib.decDigits k=T at C V
  have hw:IntKind.u64.wrap (k:Int)=k:=by
   have:IntKind.u64.wrap (k:Int)=(k:Int) % 18446744073709551616:=by simp [IntKind.wrap,IntKind.bits,IntKind.signed]
   omega
  go_enter Tryz.func53,Tryz.ntmps53
  go_wp2_with (go_at_call 70;(with_reducible refine(C.out _).mono ?_);rintro e w1 ⟨rfl,k1⟩)
  go_ret;exact⟨qay (by rw [V.out]),k1⟩
theorem qdx (v:Value) (ks:List Str) (name:Str) (w:World) (h:Strs w v ks) (hn:name.length<=1000000000000000) (hk:ks.length<=1000000000) :
  Calls Tryz.prog 19 #[v,.string (S name)] w fun e w'=>e=.returned (.string (S (qbl ks name)))/\Bel w w':=by
 have CH:=h_ (fun W (k:Bel w W) x=>rd_Has v ks (S x) x W (h.below k.out) (qah x));have CI:=h_ (fun W (n:Nat) (hn:n<=4000000000)=>qng n W (by omega) (by omega));have V:=h_ (show uniqF ks name ks.length 0=qbl ks name from rfl);generalize qbl ks name=U at V;clear h;have z1:(S name).size=name.length:=qai _;by_cases h0:Id.has ks name=true
 ·have hk1:1<=ks.length:=by
   cases ks with
   | nil=>simp [Id.has]at h0
   | cons a r=>simp
  have C0:=h_ (CH.out w (Bel.refl w) name);rw [h0]at C0;have hm0:name ∈ ks:=has_mem.1 h0;obtain⟨f0,hf0⟩ : ∃f0,ks.length=f0+1:=⟨ks.length-1,by omega⟩
  have V1:=h_ (show uniqF ks name f0 1=U by
   have:=V.out;rw [hf0,uniqF]at this
   rwa [if_pos (show Id.has ks (cand name 0)=true from h0)]at this)
  have HF:=h_ hf0;clear V hf0 h0
  go_enter Tryz.func19,Tryz.ntmps19
  go_wp2_with (go_at_call 20;(with_reducible refine C0.out.mono ?_);rintro e w1 ⟨rfl,rfl⟩)
  go_loopw [5] (fun n wr => ∃(k f:Nat),f+(k+1)=ks.length/\n=.int .i64 (k+2)/\Bel w wr/\Hid (∀j,j<k+1->cand name j ∈ ks)/\Hid (uniqF ks name f (k+1)=U)) (fun n _=>ks.length+2-(intOf n).toNat)
  case atStart=>exact⟨0,f0,by have:=HF.out;omega,rfl,Bel.refl _,h_ (fun j hj=>by
   have:j=0:=by omega
   subst this
   exact hm0),V1⟩
  case round=>
   clear V1 HF hm0 C0;obtain⟨k,f,hf,rfl,hb,hfree,hU⟩:=hrel;have hl:=qfi (k+2) (by omega);have CI2:=h_ (fun W=>CI.out W (k+2) (by omega));have e2:((k+2:Nat):Int)=(k:Int)+2:=by omega
   have hc:Hid (S name ++ S (Lib.itoa ((k+2:Nat):Int))=S (cand name (k+1))):=h_ (by rw [S_app];rfl);have CH2:=h_ (fun W (kk:Bel w W)=>CH.out W kk (cand name (k+1)));rw [←hc.out]at CH2;by_cases hh:Id.has ks (cand name (k+1))=true
   ·have hk1:=qhv ks name (k+2) (fun j hj=>by
     rcases Nat.lt_or_ge j (k+1)with h1|h1
     ·exact hfree.out j h1
     ·have:j=k+1:=by omega
      subst this
      exact has_mem.1 hh)
    have hfree2:Hid (∀j,j<k+1+1->cand name j ∈ ks):=h_ (fun j hj=>by
     rcases Nat.lt_or_ge j (k+1)with h1|h1
     ·exact hfree.out j h1
     ·have:j=k+1:=by omega
      subst this
      exact has_mem.1 hh)
    obtain⟨f2,rfl⟩ : ∃f2,f=f2+1:=⟨f-1,by omega⟩;have hU2:Hid (uniqF ks name f2 (k+1+1)=U):=h_ (by have:=hU.out;rwa [uniqF,if_pos hh]at this);rw [hh]at CH2;generalize Lib.itoa ((k+2:Nat):Int)=T at CI2 hc hl CH2;rw [e2]at CI2;have hsz2:(S T).size=T.length:=qai _;clear hfree hU hh CH CI hc e2
    go_wp2_with (first
     | (go_at_call 53;(with_reducible refine(CI2.out _).mono ?_);rintro e w2 ⟨rfl,k2⟩;have kk2:Bel w w2:=Bel.of hb k2.out;clear k2)
     | (go_at_call 20;(with_reducible refine(CH2.out _ kk2).mono ?_);rintro e w1 ⟨rfl,rfl⟩))
    go_roundw
    case rel=>exact⟨k+1,f2,by omega,by go_num,kk2,hfree2,hU2⟩
    case measure=>simp [intOf];omega
   ·have hh':Id.has ks (cand name (k+1))=false:=by simpa using hh
    have hU2:Hid (cand name (k+1)=U):=h_ (by
     have:=hU.out;cases f with
     | zero=>exact this
     | succ f=>rwa [uniqF,if_neg hh]at this)
    rw [hh']at CH2;generalize Lib.itoa ((k+2:Nat):Int)=T at CI2 hc hl CH2;rw [e2]at CI2;have hsz2:(S T).size=T.length:=qai _;clear hfree hU hh hh' CH CI e2
    go_wp2_with (first
     | (go_at_call 20;(with_reducible refine(CH2.out _ (by(repeat (first|(with_reducible assumption)|(with_reducible exact Bel.refl _)|(with_reducible refine Bel.drew ?_)|(with_reducible refine Bel.drewN ?_ _)|(with_reducible refine Bel.alloc ?_ _)|((with_reducible refine qa8 ?_ ?hge);(case hge=>(first|omega|(simp;omega)))))))).mono ?_);rintro e w1 ⟨rfl,rfl⟩)
     | (go_at_call 53;(with_reducible refine(CI2.out _).mono ?_);rintro e w2 ⟨rfl,k2⟩;have kk2:Bel w w2:=Bel.of (by(repeat (first|(with_reducible assumption)|(with_reducible exact Bel.refl _)|(with_reducible refine Bel.drew ?_)|(with_reducible refine Bel.drewN ?_ _)|(with_reducible refine Bel.alloc ?_ _)|((with_reducible refine qa8 ?_ ?hge);(case hge=>(first|omega|(simp;omega))))))) k2.out;clear k2))
    go_ret;exact⟨qay (by rw [←hU2.out, ←hc.out]),by(repeat (first|(with_reducible assumption)|(with_reducible exact Bel.refl _)|(with_reducible refine Bel.drew ?_)|(with_reducible refine Bel.drewN ?_ _)|(with_reducible refine Bel.alloc ?_ _)|((with_reducible refine qa8 ?_ ?hge);(case hge=>(first|omega|(simp;omega))))))⟩
 ·have h0':Id.has ks name=false:=by simpa using h0
  have C0:=h_ (CH.out w (Bel.refl w) name);rw [h0']at C0
  have V1:=h_ (show name=U by
   have:=V.out;cases hl:ks.length with
   | zero=>rw [hl]at this;exact this
   | succ f=>
    rw [hl,uniqF]at this
    rwa [if_neg (show ¬ Id.has ks (cand name 0)=true from h0)]at this)
  clear V h0 h0' CH CI
  go_enter Tryz.func19,Tryz.ntmps19
  go_wp2_with (go_at_call 20;(with_reducible refine C0.out.mono ?_);rintro e w1 ⟨rfl,rfl⟩)
  go_ret;exact⟨qay (by rw [V1.out]),Bel.refl _⟩
end
section
open Go.RowKit Ck Md
end
section
open Go.RowKit Ck Md
theorem qko (mq1 mq2 mq3 mq4:Option Addr) (mm2 mm3 mm4 mc1 mc2 mc3 mc4:Nat) (m:PMsg) (w0:World) (hv:VMsg w0 [.string (S m.name),.slice mq1 m.fields.length mc1,.slice mq2 mm2 mc2,.slice mq3 mm3 mc3,.slice mq4 mm4 mc4] m) (hfn:m.fields.length<=2000000) :
  Calls Tryz.prog 46 #[.agg #[.string (S m.name),.slice mq1 m.fields.length mc1,.slice mq2 mm2 mc2,.slice mq3 mm3 mc3,.slice mq4 mm4 mc4]] w0 (StrsOut w0 (qbt m)):=by
 obtain⟨_,_,_,_,hcm,hm1,_,_,_⟩:=hv;cases hcm;obtain⟨q,c,hq,hl,hcap,hel⟩:=hm1;cases hq;have VT:unGo [] (m.fields.drop 0)=qbt m:=rfl;have hTl:(qbt m).length<=m.fields.length:=by have:=qf5 m.fields [];rw [List.length_nil,Nat.zero_add]at this;exact this
 generalize qbt m=T at VT hTl;have V:=h_ VT;have EL:=h_ hel;clear hel VT;obtain⟨i0,hi,hz0,hz1,hz2⟩:=info_parts qc7;have hS0:=h_ (((ST.start w0).addbox #[.string (S m.name),.slice mq1 m.fields.length mc1,.slice mq2 mm2 mc2,.slice mq3 mm3 mc3,.slice mq4 mm4 mc4] 44).nilrow 9 1)
 go_enter Tryz.func46,Tryz.ntmps46
 go_wp2
 go_loopw [3,4] (fun v i wr => ∃(k:Nat) (xs:List Str),k<=m.fields.length/\i=.int .i64 k/\Hid (ST w0 [⟨9,1,v,xs.length,nmC xs⟩] [⟨w0.heap.size,#[.string (S m.name),.slice mq1 m.fields.length mc1,.slice mq2 mm2 mc2,.slice mq3 mm3 mc3,.slice mq4 mm4 mc4],44⟩] wr)/\xs.length<=k/\Hid (unGo xs (m.fields.drop k)=T)) (fun _ i _=>m.fields.length-(intOf i).toNat)
 case atStart=>exact⟨0,[],by omega,rfl,hS0,by simp,by simpa using V⟩
 case round=>
  clear hS0;obtain⟨k,xs,hk,rfl,hS,hxl,hx⟩:=hrel;have c1:=hS.out.cell 0 rfl 1;dsimp only at c1;by_cases hlt:k<m.fields.length
  ·have hg:=List.getElem?_eq_getElem hlt
   obtain⟨b,off,rfl,hbs,vs,hce,hvs⟩:=EL.out k _ hg;have hdr:m.fields.drop k=m.fields[k] :: m.fields.drop (k+1):=List.drop_eq_getElem_cons hlt;obtain⟨_,_,hvs1,⟨r1,r2,r3,r4,d1,d2,d3,d4,hvv,_⟩,hnt⟩:=hvs;obtain⟨r5,d5,hnv,hnl⟩:=qa5 hnt;subst hvs1 hvv hnv;generalize m.fields[k]=f at *;have hki:(k:Int)<(m.fields.length:Int):=by omega
   have e6:=hS.out.bel.some (hce 6 _ rfl);clear hce hg hnt;have hst:=hx.out;rw [hdr,qka]at hst;have CH:=h_ (rd_Has _ xs (S f.un) f.un wr (qd5 (hS.out.row 0 rfl) (by show xs.length<=_;omega)) (qah _));clear hx hdr;by_cases hu:f.un=[]
   ·rw [if_neg (fun e=>e.1 hu)]at hst
    have hx2:=h_ hst;have hue:(S f.un).toList=[]:=by rw [ByteArray.toList_eq,qah,hu]
    clear hst CH hu;go_wp2;go_roundw
    case rel=>exact⟨k+1,xs,by omega,by go_num,hS,by omega,hx2⟩
    case measure=>simp [intOf];omega
   ·have hue:(S f.un).toList ≠ []:=by rw [ByteArray.toList_eq,qah];exact hu
    have hue2:(S f.un).toList.isEmpty=false:=by rw [qe6];simpa using hu
    by_cases hh:Id.has xs f.un=true
    ·rw [if_neg (fun e=>by rw [hh]at e;cases e.2)]at hst
     have hx2:=h_ hst;rw [hh]at CH;clear hst hh hu
     go_wp2_with (go_at_call 20;(with_reducible refine CH.out.mono ?_);rintro e w1 ⟨rfl,rfl⟩)
     go_roundw
     case rel=>exact⟨k+1,xs,by omega,by go_num,hS,by omega,hx2⟩
     case measure=>simp [intOf];omega
    ·have hh2:Id.has xs f.un=false:=by simpa using hh
     rw [if_pos ⟨hu,hh2⟩]at hst;have hx2:=h_ hst;rw [hh2]at CH;clear hst hh hh2 hu
     go_upto_region 7 with(go_at_call 20;(with_reducible refine CH.out.mono ?_);rintro e w1 ⟨rfl,rfl⟩)
     have H1:=h_ (hS.out.belw ((Bel.refl wr).alloc (.cells #[.string (S f.un)] 9)));clear hS CH
     go_wp2_with (at_builtin;refine wpList_append_lies _ rfl _ _ 37 rfl w0.heap.size 9 i0 (.string ByteArray.empty) 1 16 Tryz.underlying37 hi hz0 hz1 hz2 rfl (by decide) _ xs.length _ rfl (H1.out.row 0 rfl) ⟨wr.heap.size,0,none⟩ 1 1 [.string (S f.un)] rfl rfl (qaz _ _ _) (by simp [Value.oneCell']) (by decide) (by unfold maxLen;omega) (by omega) H1.out.bel.size (wr.heap.size+1) (by simp) ?_)
     intro g2 cap2 w2 hown hgrow hfr hlt2;have H2:=h_ (H1.out.grow 0 rfl hgrow hown (qby hfr (by simp)));clear H1 hown hgrow hfr hlt2;have hnm:nmC xs ++ [.string (S f.un)]=nmC (xs ++ [f.un]):=by unfold nmC;simp
     go_wp2;go_roundw
     case rel=>exact⟨k+1,xs ++ [f.un],by omega,by go_num,h_ (by rw [←hnm,List.length_append];exact H2.out),by rw [List.length_append,List.length_singleton];omega,hx2⟩
     case measure=>simp [intOf];omega
  ·have hkl:k=m.fields.length:=by omega
   have hxe:xs=T:=by have:=hx.out;rw [hkl,List.drop_length]at this;exact this
   subst hxe;have HB:=h_ (hS.out.row 0 rfl);have HBel:=h_ hS.out.bel;clear hx V EL hS;go_wp2;go_ret;exact⟨_,rfl,HB.out,HBel.out⟩
end
end Go.Proofs.YtfoaaglbpmmhiaaGreatDoor
