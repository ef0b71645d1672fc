import Derived.Test.YtfoaaglbpmmhiaaGreatDoorCkNote1
import Derived.Test.YtfoaaglbpmmhiaaGreatDoorKitC
import Derived.Test.YtfoaaglbpmmhiaaGreatDoorKitA
import Derived.Deep.DeepCutAuto
set_option maxRecDepth 100000
set_option maxHeartbeats 4000000
set_option linter.unusedVariables false
set_option linter.unusedSimpArgs false
namespace Go.Proofs.YtfoaaglbpmmhiaaGreatDoor
open Go.RowKit Ck
def boolElem:Value->Option (DataW Unit × List MemPlace)
 | .bool b => some (.lit (.bool b),[])
 | _ => none
theorem boolElem_inv {v:Value} {d:DataW Unit × List MemPlace} {b:Bool} (h:boolElem v=some d) (hd:d.1=.lit (.bool b)):v=.bool b:=by
 unfold boolElem at h
 split at h
 ·cases h
  simp at hd;rw [hd]
 ·cases h
def boolF (fin:Str->Bool):Str->Option (DataW Unit):=fun k => if fin k=true then some (.lit (.bool true)) else none
theorem boolF_get (fin:Str->Bool) (k:Str):(boolF fin k).getD (.lit (.bool false))=.lit (.bool (fin k)):=by
 unfold boolF;cases fin k <;> rfl
theorem bool_zero (w:World):(zeroValue 4).run Tryz.prog w=.ok (.bool false) w:=by kernel_rfl
theorem bool_look {w:World} {B k:Nat} {fin:Str->Bool} (m:MapIs boolElem w B k (boolF fin)) (n:Str) (hn:n.length<=1000000000):(Instr.lookup 146 (.map (some B)) (.string (S n)) false).run Tryz.prog w=.ok (.bool (fin n)) w:=by
 obtain ⟨v,ps,h1,h2⟩:=m.look Tryz.underlying146 (bool_zero w) (zd:=.lit (.bool false)) (zp:=[]) rfl n hn;rw [boolF_get] at h2;rw [h1,boolElem_inv h2 rfl]
theorem cl_finite (n:Str) (sq1 sq2 sq3:Option Addr) (sm1 sm2 sm3 sc1 sc2 sc3:Nat) (s:PSchema) (fin:Str->Bool) (Bs Bo Bm k:Nat) (W:World) (hv:VSchema W [.slice sq1 sm1 sc1,.slice sq2 sm2 sc2,.slice sq3 sm3 sc3] s) (h0:W.cell? ⟨Bs,0,none⟩=some (.slice sq1 sm1 sc1)) (h1:W.cell? ⟨Bs,1,none⟩=some (.slice sq2 sm2 sc2)) (h2:W.cell? ⟨Bs,2,none⟩=some (.slice sq3 sm3 sc3)) (ho:W.cell? ⟨Bo,0,none⟩=some (.map (some Bm))) (hm:MapIs boolElem W Bm k (boolF fin)) (hn:n.length<=1000000000) :
  Calls Tryz.prog 117 #[.string (S n),.pointer (some ⟨Bs,0,none⟩),.pointer (some ⟨Bo,0,none⟩)] W fun e w' => e=.returned (.bool ((msgOf s n).isSome && !fin n))/\Below W.heap.size W w':=by
 have CM:=Lib.hid (fun V => ck_message2 (.slice sq1 sm1 sc1) (.slice sq2 sm2 sc2) (.slice sq3 sm3 sc3) s n V);have HV:=Lib.hid hv;have hl0:=Lib.hid (fun W' (kk:Bel W W') => bool_look (hm.bel kk) n hn);have hbo:Bo < W.heap.size:=World.block_lt_of_cell? W _ ho;clear hv hm;generalize hM:msgOf s n=M at CM;have HM:=Lib.hid hM;clear hM;generalize hF:fin n=F at hl0;cases hQ:M.isSome
 all_goals
  have HQ:=Lib.hid hQ
  go_enter Tryz.func117,Tryz.ntmps117
  go_upto_region 2 with (go_at_call 115;(with_reducible refine (CM.out _ HV.out).mono ?_);rintro e w1 ⟨ja,jb,jc,jd,je,jf,jg,jh,ji,jj,jk,jl,jm,rfl,_,g1⟩;have k1:Bel W w1:=g1;have ho1:=k1.some ho;have hz:=g1.size;clear g1)
  have hl:=hl0.out _ (k1.alloc (.cells #[.string (S ja),.slice jb jf jj,.slice jc jg jk,.slice jd jh jl,.slice je ji jm] 44));have hb1:Bo < w1.heap.size:=(by omega)
  go_wp2
  all_goals go_ret
  all_goals exact ⟨ret_bool (by first | rfl | (rw [HQ.out];rfl)),Bel.out (k1.alloc _)⟩
theorem cl_cyclic (n:Str) (sq1 sq2 sq3:Option Addr) (sm1 sm2 sm3 sc1 sc2 sc3:Nat) (s:PSchema) (fin:Str->Bool) (Bs Bo Bm k:Nat) (W:World) (hv:VSchema W [.slice sq1 sm1 sc1,.slice sq2 sm2 sc2,.slice sq3 sm3 sc3] s) (h0:W.cell? ⟨Bs,0,none⟩=some (.slice sq1 sm1 sc1)) (h1:W.cell? ⟨Bs,1,none⟩=some (.slice sq2 sm2 sc2)) (h2:W.cell? ⟨Bs,2,none⟩=some (.slice sq3 sm3 sc3)) (ho:W.cell? ⟨Bo,0,none⟩=some (.map (some Bm))) (hm:MapIs boolElem W Bm k (boolF fin)) (hn:n.length<=1000000000) :
  Calls Tryz.prog 164 #[.string (S n),.pointer (some ⟨Bs,0,none⟩),.pointer (some ⟨Bo,0,none⟩)] W fun e w' => e=.returned (.bool ((msgOf s n).isSome && !fin n))/\Below W.heap.size W w':=by
 have CM:=Lib.hid (fun V => ck_message2 (.slice sq1 sm1 sc1) (.slice sq2 sm2 sc2) (.slice sq3 sm3 sc3) s n V);have HV:=Lib.hid hv;have hl0:=Lib.hid (fun W' (kk:Bel W W') => bool_look (hm.bel kk) n hn);have hbo:Bo < W.heap.size:=World.block_lt_of_cell? W _ ho;clear hv hm;generalize hM:msgOf s n=M at CM;have HM:=Lib.hid hM;clear hM;generalize hF:fin n=F at hl0;cases hQ:M.isSome
 all_goals
  have HQ:=Lib.hid hQ
  go_enter Tryz.func164,Tryz.ntmps164
  go_upto_region 2 with (go_at_call 115;(with_reducible refine (CM.out _ HV.out).mono ?_);rintro e w1 ⟨ja,jb,jc,jd,je,jf,jg,jh,ji,jj,jk,jl,jm,rfl,_,g1⟩;have k1:Bel W w1:=g1;have ho1:=k1.some ho;have hz:=g1.size;clear g1)
  have hl:=hl0.out _ (k1.alloc (.cells #[.string (S ja),.slice jb jf jj,.slice jc jg jk,.slice jd jh jl,.slice je ji jm] 44));have hb1:Bo < w1.heap.size:=(by omega)
  go_wp2
  all_goals go_ret
  all_goals exact ⟨ret_bool (by first | rfl | (rw [HQ.out];rfl)),Bel.out (k1.alloc _)⟩
theorem need_len (m:PMsg) (h : ∀ f ∈ m.fields,f.tn.length<=1000000000) : ∀ x ∈ needs m,x.length<=1000000000:=by
 intro x hx;unfold needs at hx;rw [List.mem_map] at hx;obtain ⟨f,hf,rfl⟩:=hx;exact h f (List.mem_filter.1 hf).1
theorem ck_cyclic (sq1 sq2 sq3:Option Addr) (sm1 sm2 sm3 sc1 sc2 sc3:Nat) (s:PSchema) (mn:Str) (mq1 mq2 mq3 mq4:Option Addr) (mm1 mm2 mm3 mm4 mc1 mc2 mc3 mc4:Nat) (m:PMsg) (fin:Str->Bool) (Bm k:Nat) (w:World) (hs:VSchema w [.slice sq1 sm1 sc1,.slice sq2 sm2 sc2,.slice sq3 sm3 sc3] s) (hv:VMsg w [.string (S mn),.slice mq1 mm1 mc1,.slice mq2 mm2 mc2,.slice mq3 mm3 mc3,.slice mq4 mm4 mc4] m) (hm:MapIs boolElem w Bm k (boolF fin)) (hn : ∀ f ∈ m.fields,f.tn.length<=1000000000) (hfn:m.fields.length<=2000000) :
  Calls Tryz.prog 123 #[.agg #[.slice sq1 sm1 sc1,.slice sq2 sm2 sc2,.slice sq3 sm3 sc3],.agg #[.string (S mn),.slice mq1 mm1 mc1,.slice mq2 mm2 mc2,.slice mq3 mm3 mc3,.slice mq4 mm4 mc4],.map (some Bm)] w fun e w' => e=.returned (.bool (cyclic s m fin))/\Below w.heap.size w w':=by
 have CN:=Lib.hid (fun W (kk:Bel w W) => ck_needs _ _ _ _ _ _ _ _ _ _ _ _ _ m W (VMsg.stays w W _ m kk hv) hfn)
 have hcc : ∀ (v:Value) (W:World),Texts W v (needs m)->Bel w W->W.cell? ⟨w.heap.size,0,none⟩=some (.slice sq1 sm1 sc1)->W.cell? ⟨w.heap.size,1,none⟩=some (.slice sq2 sm2 sc2)->W.cell? ⟨w.heap.size,2,none⟩=some (.slice sq3 sm3 sc3)->W.cell? ⟨w.heap.size + 1 + 1,0,none⟩=some (.map (some Bm)) →
   Calls Tryz.prog 112 #[v,.func (.func 164) #[] #[.pointer (some ⟨w.heap.size,0,none⟩),.pointer (some ⟨w.heap.size + 1 + 1,0,none⟩)]] W fun e w' => e=.returned (.bool (cyclic s m fin))/\Below W.heap.size W w':=fun v W ht kW c0 c1 c2 co => by
  refine cf_Str _ _ (enters_of Tryz.func164 (by kernel_rfl) rfl) v (needs m) _ W ht (fun x W2 hx hb2 => ?_);exact cl_cyclic x _ _ _ _ _ _ _ _ _ s fin _ _ Bm k W2 (hs.stays_bel (Bel.of kW hb2)) (hb2.some c0) (hb2.some c1) (hb2.some c2) (hb2.some co) (hm.bel (Bel.of kW hb2)) (need_len m hn x hx)
 have CC:=Lib.hid hcc
 have hKS : ∀ w',Bel (((w.alloc (.cells #[.slice sq1 sm1 sc1,.slice sq2 sm2 sc2,.slice sq3 sm3 sc3] 26)).alloc (.cells #[.string (S mn),.slice mq1 mm1 mc1,.slice mq2 mm2 mc2,.slice mq3 mm3 mc3,.slice mq4 mm4 mc4] 44)).alloc (.cells #[.map (some Bm)] 146)) w'->w'.cell? ⟨w.heap.size,0,none⟩=some (.slice sq1 sm1 sc1)/\w'.cell? ⟨w.heap.size,1,none⟩=some (.slice sq2 sm2 sc2)/\w'.cell? ⟨w.heap.size,2,none⟩=some (.slice sq3 sm3 sc3)/\w'.cell? ⟨w.heap.size + 1 + 1,0,none⟩=some (.map (some Bm)):=fun w' kk => by
  refine ⟨kk.some ?_,kk.some ?_,kk.some ?_,kk.some ?_⟩
  all_goals first
   | (rw [World.cell?_alloc_at _ _ _ _ (by simp)];rfl)
   | (rw [World.cell?_alloc_past _ _ _ (by simp;omega),World.cell?_alloc_past _ _ _ (by simp),World.cell?_alloc_at _ _ _ _ rfl];rfl)
   | (rw [World.cell?_alloc_past _ _ _ (by simp),World.cell?_alloc_past _ _ _ (by simp),World.cell?_alloc_at _ _ _ _ rfl];rfl)
 have KS:=Lib.hid hKS;clear hs hm hcc hKS hv;generalize cyclic s m fin=R at CC;generalize needs m=T at CN CC
 go_enter Tryz.func123,Tryz.ntmps123
 go_wp2_with (first
  | (go_at_call 116;(with_reducible refine (CN.out _ (by (with_reducible repeat first | assumption | exact Bel.refl _ | refine Bel.drew ?_ | refine Bel.drewN ?_ _ | refine Bel.alloc ?_ _))).mono ?_);rintro e w1 ⟨v,rfl,ht,g1⟩;have k1:Bel w w1:=Bel.of (by (with_reducible repeat first | assumption | exact Bel.refl _ | refine Bel.drew ?_ | refine Bel.drewN ?_ _ | refine Bel.alloc ?_ _)) g1;obtain ⟨c0,c1,c2,co⟩:=KS.out _ (show Bel _ w1 from g1);have HT:=Lib.hid ht;clear g1 ht)
  | (go_at_call 112;(with_reducible refine (CC.out _ _ HT.out k1 c0 c1 c2 co).mono ?_);rintro e w2 ⟨rfl,g1⟩;have k2:Bel w w2:=Bel.of k1 g1;clear g1))
 go_ret
 exact ⟨rfl,k2.out⟩
end Go.Proofs.YtfoaaglbpmmhiaaGreatDoor
namespace Go.Proofs.YtfoaaglbpmmhiaaGreatDoor
open Go.RowKit Ck
theorem boolF_none:boolF (fun _ => false)=fun _ => none:=by
 funext k;rfl
theorem boolF_put (fin:Str->Bool) (n:Str):(fun k => if k=n then some (.lit (.bool true)) else boolF fin k)=boolF fun x => decide (x=n) || fin x:=by
 funext k
 unfold boolF;by_cases h:k=n
 ·simp [h]
 ·simp [h]
def FinAt (w:World) (c0 c1 c2:Value) (k:Nat) (cur:Str->Bool) (wr:World):Prop:=
 Below w.heap.size w wr/\wr.cell? ⟨w.heap.size,0,none⟩=some c0/\wr.cell? ⟨w.heap.size,1,none⟩=some c1/\wr.cell? ⟨w.heap.size,2,none⟩=some c2/\wr.cell? ⟨w.heap.size + 1 + 1,0,none⟩=some (.map (some (w.heap.size + 1)))/\MapIs boolElem wr (w.heap.size + 1) k (boolF cur)
theorem FinAt.bel {w:World} {c0 c1 c2:Value} {k:Nat} {cur:Str->Bool} {wr w':World} (h:FinAt w c0 c1 c2 k cur wr) (b:Bel wr w'):FinAt w c0 c1 c2 k cur w':=by
 obtain ⟨h1,h2,h3,h4,h5,h6⟩:=h;exact ⟨Bel.of h1 b,b.some h2,b.some h3,b.some h4,b.some h5,h6.bel b⟩
theorem FinAt.base {w:World} {c0 c1 c2:Value} {k:Nat} {cur:Str->Bool} {wr:World} (h:FinAt w c0 c1 c2 k cur wr):Bel w wr:=h.1
theorem FinAt.put {w:World} {c0 c1 c2:Value} {k:Nat} {cur:Str->Bool} {wr w':World} (h:FinAt w c0 c1 c2 k cur wr) {n:Str} (hm:MapIs boolElem w' (w.heap.size + 1) (k + 1) (fun x => if x=n then some (.lit (.bool true)) else boolF cur x)) (hg:wr.grownBy w' (some (w.heap.size + 1))):FinAt w c0 c1 c2 (k + 1) (fun x => decide (x=n) || cur x) w':=by
 obtain ⟨h1,h2,h3,h4,h5,h6⟩:=h;have hne : ∀ j,j ≠ w.heap.size + 1->some j ≠ some (w.heap.size + 1):=fun j h e => h (by injection e)
 refine ⟨h1.grown hg h1.size (fun k hk => by cases hk;omega),hg.cell h2 (hne _ (by simp)),hg.cell h3 (hne _ (by simp)),hg.cell h4 (hne _ (by simp)),hg.cell h5 (hne _ (by simp)),?_⟩;rw [← boolF_put];exact hm
theorem find_name (s:PSchema) (m:PMsg) (hm:m ∈ s.msgs) : ∃ f,msgOf s m.name=some f/\f ∈ s.msgs/\f.name=m.name:=by
 cases h:msgOf s m.name with
 | none =>
  unfold msgOf at h;rw [List.find?_eq_none] at h;exact absurd (by simp) (h m hm)
 | some f =>
  unfold msgOf at h;have h1:=List.find?_some h;exact ⟨f,rfl,List.mem_of_find?_eq_some h,by simpa using h1⟩
theorem ck_finite (sq1 sq2 sq3:Option Addr) (sm1 sm2 sm3 sc1 sc2 sc3:Nat) (s:PSchema) (w:World) (hs:VSchema w [.slice sq1 sm1 sc1,.slice sq2 sm2 sc2,.slice sq3 sm3 sc3] s) (hlen:s.msgs.length<=900) (hnm : ∀ m ∈ s.msgs,m.name.length<=1000000000) (hn : ∀ m ∈ s.msgs,m.fields.length<=2000000/\∀ f ∈ m.fields,f.tn.length<=1000000000) :
  Calls Tryz.prog 83 #[.agg #[.slice sq1 sm1 sc1,.slice sq2 sm2 sc2,.slice sq3 sm3 sc3]] w fun e w' => ∃ Bm k,e=.returned (.map (some Bm))/\MapIs boolElem w' Bm k (boolF (finite s))/\Below w.heap.size w w':=by
 have hs0:=hs;obtain ⟨_,_,_,hcs,hm1,_,_⟩:=hs;cases hcs;obtain ⟨q,c,hq,hl,hcap,hel⟩:=hm1;cases hq;have EL:=Lib.hid hel;have V:=Lib.hid (show finRounds s (s.msgs.length + 1 - 0) (fun _ => false)=finite s from rfl);generalize finite s=T at V;have HS:=Lib.hid hs0;have HNM:=Lib.hid hnm;have HN:=Lib.hid hn;have hmm := @run_makeMap Tryz.prog
 have hst:FinAt w (.slice sq1 s.msgs.length sc1) (.slice sq2 sm2 sc2) (.slice sq3 sm3 sc3) 0 (fun _ => false) (((w.alloc (.cells #[.slice sq1 s.msgs.length sc1,.slice sq2 sm2 sc2,.slice sq3 sm3 sc3] 26)).alloc (.map #[] 0)).alloc (.cells #[.map (some (w.heap.size + 1))] 146)):=by
  refine ⟨(((Below.refl _ _).alloc (Nat.le_refl _) _).alloc (by simp) _).alloc (by simp;omega) _,?_,?_,?_,?_,?_⟩
  ·rw [World.cell?_alloc_past _ _ _ (by simp;omega),World.cell?_alloc_past _ _ _ (by simp),World.cell?_alloc_at _ _ _ _ rfl];rfl
  ·rw [World.cell?_alloc_past _ _ _ (by simp;omega),World.cell?_alloc_past _ _ _ (by simp),World.cell?_alloc_at _ _ _ _ rfl];rfl
  ·rw [World.cell?_alloc_past _ _ _ (by simp;omega),World.cell?_alloc_past _ _ _ (by simp),World.cell?_alloc_at _ _ _ _ rfl];rfl
  ·rw [World.cell?_alloc_at _ _ _ _ (by simp)];rfl
  ·have:=(MapIs.made (H:=Unit) (w.alloc (.cells #[.slice sq1 s.msgs.length sc1,.slice sq2 sm2 sc2,.slice sq3 sm3 sc3] 26)) boolElem).bel ((Bel.refl _).alloc (.cells #[.map (some (w.heap.size + 1))] 146))
   rw [boolF_none]
   simpa using this
 have HST:=Lib.hid hst;clear hel hs0 hnm hn hst
 go_enter Tryz.func83,Tryz.ntmps83
 go_wp2
 go_loopw [14] (fun i wr => ∃ (r cnt:Nat) (cur:Str->Bool),r<=s.msgs.length + 1/\i=.int .i64 r/\cnt<=r * s.msgs.length/\FinAt w (.slice sq1 s.msgs.length sc1) (.slice sq2 sm2 sc2) (.slice sq3 sm3 sc3) cnt cur wr/\Hid (finRounds s (s.msgs.length + 1 - r) cur=T)) (fun i _ => s.msgs.length + 1 - (intOf i).toNat)
 case atStart => exact ⟨0,0,_,by omega,rfl,by omega,HST.out,V⟩
 case round =>
  obtain ⟨r,cnt,cur,hr,rfl,hcnt,hF,hgo⟩:=hrel;by_cases hlt:r < s.msgs.length + 1
  ·have hgo2:=Lib.hid (show finRounds s (s.msgs.length + 1 - (r + 1)) (finRound s cur)=T by
    rw [← hgo.out,show s.msgs.length + 1 - r=(s.msgs.length + 1 - (r + 1)) + 1 by omega];rfl)
   have hrl:r * s.msgs.length<=900 * 901:=by
    have h1:r * s.msgs.length<=901 * 900:=Nat.mul_le_mul (by omega) hlen;omega
   have hri:(r:Int) < (s.msgs.length:Int) + 1:=by omega
   have hrm:(r + 1) * s.msgs.length=r * s.msgs.length + s.msgs.length:=Nat.succ_mul _ _;have HRM:=Lib.hid hrm;clear hgo hrm;obtain ⟨_,f0,f1,f2,f3,_⟩:=hF;have hin:Hid ((s.msgs.drop 0).foldl (finStep s) cur=finRound s cur):=Lib.hid rfl;generalize finRound s cur=G at hin hgo2;obtain ⟨wo,hwo⟩ : ∃ wo:World,wo=wr:=⟨_,rfl⟩;subst hwo
   go_wp2
   go_loopw [19] (fun i wi => ∃ (j cnt2:Nat) (cu2:Str->Bool),j<=s.msgs.length/\i=.int .i64 j/\cnt2<=r * s.msgs.length + j/\FinAt w (.slice sq1 s.msgs.length sc1) (.slice sq2 sm2 sc2) (.slice sq3 sm3 sc3) cnt2 cu2 wi/\Hid ((s.msgs.drop j).foldl (finStep s) cu2=G)) (fun i _ => s.msgs.length - (intOf i).toNat)
   case atStart => exact ⟨0,cnt,cur,by omega,rfl,by omega,⟨by assumption,f0,f1,f2,f3,by assumption⟩,hin⟩
   case round =>
    obtain ⟨j,cnt2,cu2,hj,rfl,hcnt2,hF2,hin2⟩:=hrel;by_cases hjl:j < s.msgs.length
    ·have hg:=List.getElem?_eq_getElem hjl
     obtain ⟨b,off,rfl,hbs,vs,hce,hvs⟩:=EL.out j _ hg;have hdr:s.msgs.drop j=s.msgs[j] :: s.msgs.drop (j + 1):=List.drop_eq_getElem_cons hjl;have hmem:s.msgs[j] ∈ s.msgs:=List.getElem_mem hjl;obtain ⟨fm,hfe,hfm,hfn⟩:=find_name s _ hmem;have hmn:=HNM.out _ hmem;have hin3:=Lib.hid (show (s.msgs.drop (j + 1)).foldl (finStep s) (finStep s cu2 s.msgs[j])=G by rw [← hin2.out,hdr];rfl)
     have hstep:finStep s cu2 s.msgs[j]=if ((needs fm).any fun n => (msgOf s n).isSome && !cu2 n)=true then cu2 else fun x => decide (x=s.msgs[j].name) || cu2 x:=by
      unfold finStep;rw [hfe]
     have HST2:=Lib.hid hstep;have HFE:=Lib.hid hfe;clear hin2 hdr hstep hfe hg hmem;obtain ⟨w1',w2',w3',w4',hvv,g1,g2,g3,g4⟩:=hvs;obtain ⟨v1,y1,rfl,_⟩:=sl_form g1;obtain ⟨v2,y2,rfl,_⟩:=sl_form g2;obtain ⟨v3,y3,rfl,_⟩:=sl_form g3;obtain ⟨v4,y4,rfl,_⟩:=sl_form g4;subst hvv;have hFb:=hF2.base;have e0:=hFb.some (hce 0 _ rfl);rw [Nat.add_zero] at e0;have e1:=hFb.some (hce 1 _ rfl);have e2:=hFb.some (hce 2 _ rfl);have e3:=hFb.some (hce 3 _ rfl);have e4:=hFb.some (hce 4 _ rfl);clear hce g1 g2 g3 g4;generalize s.msgs[j]=m at *;have hji:(j:Int) < (s.msgs.length:Int):=by omega
     have CM:=Lib.hid (fun W (k:Bel w W) => ck_message2 (.slice (some ⟨b,off,none⟩) s.msgs.length sc1) (.slice sq2 sm2 sc2) (.slice sq3 sm3 sc3) s m.name W (HS.out.stays_bel k));have CNE:=Lib.hid (fun ja jb jc jd je jf jg jh ji jj jk jl jm W hv => ck_needs ja jb jc jd je jf jg jh ji jj jk jl jm fm W hv (HN.out fm hfm).1)
     have hcc : ∀ (v:Value) (W:World),Texts W v (needs fm)->FinAt w (.slice (some ⟨b,off,none⟩) s.msgs.length sc1) (.slice sq2 sm2 sc2) (.slice sq3 sm3 sc3) cnt2 cu2 W →
       Calls Tryz.prog 112 #[v,.func (.func 117) #[] #[.pointer (some ⟨w.heap.size,0,none⟩),.pointer (some ⟨w.heap.size + 1 + 1,0,none⟩)]] W fun e w' => e=.returned (.bool ((needs fm).any fun n => (msgOf s n).isSome && !cu2 n))/\Below W.heap.size W w':=fun v W ht hW => by
      refine cf_Str _ _ (enters_of Tryz.func117 (by kernel_rfl) rfl) v (needs fm) _ W ht (fun x W2 hx hb2 => ?_);obtain ⟨q1,q2,q3,q4,q5,q6⟩:=hW.bel hb2;exact cl_finite x _ _ _ _ _ _ _ _ _ s cu2 _ _ _ cnt2 W2 (HS.out.stays_bel q1) q2 q3 q4 q5 q6 (need_len fm (HN.out fm hfm).2 x hx)
     have CC:=Lib.hid hcc;clear hcc;generalize hO:((needs fm).any fun n => (msgOf s n).isSome && !cu2 n)=O at CC HST2;clear hO;generalize needs fm=NF at CNE CC;obtain ⟨q1,q2,q3,q4,q5,q6⟩:=hF2;have hwz:w.heap.size + 1 + 1 < wr.heap.size:=World.block_lt_of_cell? wr _ q5;have HF2:=Lib.hid (show FinAt w (.slice (some ⟨b,off,none⟩) s.msgs.length sc1) (.slice sq2 sm2 sc2) (.slice sq3 sm3 sc3) cnt2 cu2 wr from ⟨q1,q2,q3,q4,q5,q6⟩);have kb:Bel w wr:=q1;have hw0:w.heap.size < wr.heap.size:=by omega
     clear q1 q6 hFb f0 f1 f2 f3;cases O with
     | true =>
      go_wp2_with (first
      | (go_at_call 115;(with_reducible refine (CM.out _ (by (with_reducible repeat first | assumption | exact Bel.refl _ | refine Bel.drew ?_ | refine Bel.drewN ?_ _ | refine Bel.alloc ?_ _))).mono ?_);rintro e w1 ⟨ja,jb,jc,jd,je,jf,jg,jh,ji,jj,jk,jl,jm,rfl,hx,g1⟩;have hF3:=Lib.hid (FinAt.bel (HF2.out.bel ((Bel.refl wr).alloc (.cells #[.string (S m.name),.slice v1 m.fields.length y1,.slice v2 m.res.length y2,.slice v3 m.gone.length y3,.slice v4 m.notes.length y4] 44))) g1);have n1:w1.cell? ⟨wr.heap.size,0,none⟩=some (.string (S m.name)):=Bel.some g1 (by rw [World.cell?_alloc_at _ _ _ _ rfl];rfl);have HV1:=Lib.hid (VMsg.stays _ _ _ _ (show Bel _ (w1.alloc (.cells #[.string (S ja),.slice jb jf jj,.slice jc jg jk,.slice jd jh jl,.slice je ji jm] 44)) from Bel.alloc g1 _) (hx fm HFE.out));have z1:=g1.size;simp at z1;have y1:wr.heap.size < w1.heap.size:=(by omega);clear g1 hx)
      | (go_at_call 116;(with_reducible refine (CNE.out ja jb jc jd je jf jg jh ji jj jk jl jm _ HV1.out).mono ?_);rintro e w2 ⟨v,rfl,ht,g2⟩;have hF4:=Lib.hid (FinAt.bel (hF3.out.bel ((Bel.refl w1).alloc (.cells #[.string (S ja),.slice jb jf jj,.slice jc jg jk,.slice jd jh jl,.slice je ji jm] 44))) g2);have n2:w2.cell? ⟨wr.heap.size,0,none⟩=some (.string (S m.name)):=Bel.some g2 (((Bel.refl w1).alloc _).some n1);have HT:=Lib.hid ht;clear g2 ht)
      | (go_at_call 112;(with_reducible refine (CC.out _ _ HT.out hF4.out).mono ?_);rintro e w3 ⟨rfl,g3⟩;have hF5:=Lib.hid (hF4.out.bel g3);have n3:w3.cell? ⟨wr.heap.size,0,none⟩=some (.string (S m.name)):=Bel.some g3 n2;have hmp:=hF5.out.2.2.2.2.2;have co3:=hF5.out.2.2.2.2.1;clear g3))
      refine ⟨⟨j + 1,cnt2,cu2,by omega,rfl,by omega,hF5.out,Lib.hid ?_⟩,by simp [intOf];omega⟩;have:=hin3.out;rw [HST2.out] at this
      first | rw [if_pos rfl] at this | rw [if_pos trivial] at this
      exact this
     | false =>
      go_wp2_with (first
      | (go_at_call 115;(with_reducible refine (CM.out _ (by (with_reducible repeat first | assumption | exact Bel.refl _ | refine Bel.drew ?_ | refine Bel.drewN ?_ _ | refine Bel.alloc ?_ _))).mono ?_);rintro e w1 ⟨ja,jb,jc,jd,je,jf,jg,jh,ji,jj,jk,jl,jm,rfl,hx,g1⟩;have hF3:=Lib.hid (FinAt.bel (HF2.out.bel ((Bel.refl wr).alloc (.cells #[.string (S m.name),.slice v1 m.fields.length y1,.slice v2 m.res.length y2,.slice v3 m.gone.length y3,.slice v4 m.notes.length y4] 44))) g1);have n1:w1.cell? ⟨wr.heap.size,0,none⟩=some (.string (S m.name)):=Bel.some g1 (by rw [World.cell?_alloc_at _ _ _ _ rfl];rfl);have HV1:=Lib.hid (VMsg.stays _ _ _ _ (show Bel _ (w1.alloc (.cells #[.string (S ja),.slice jb jf jj,.slice jc jg jk,.slice jd jh jl,.slice je ji jm] 44)) from Bel.alloc g1 _) (hx fm HFE.out));have z1:=g1.size;simp at z1;have y1:wr.heap.size < w1.heap.size:=(by omega);clear g1 hx)
      | (go_at_call 116;(with_reducible refine (CNE.out ja jb jc jd je jf jg jh ji jj jk jl jm _ HV1.out).mono ?_);rintro e w2 ⟨v,rfl,ht,g2⟩;have hF4:=Lib.hid (FinAt.bel (hF3.out.bel ((Bel.refl w1).alloc (.cells #[.string (S ja),.slice jb jf jj,.slice jc jg jk,.slice jd jh jl,.slice je ji jm] 44))) g2);have n2:w2.cell? ⟨wr.heap.size,0,none⟩=some (.string (S m.name)):=Bel.some g2 (((Bel.refl w1).alloc _).some n1);have HT:=Lib.hid ht;clear g2 ht)
      | (go_at_call 112;(with_reducible refine (CC.out _ _ HT.out hF4.out).mono ?_);rintro e w3 ⟨rfl,g3⟩;have hF5:=Lib.hid (hF4.out.bel g3);have n3:w3.cell? ⟨wr.heap.size,0,none⟩=some (.string (S m.name)):=Bel.some g3 n2;have hmp:=hF5.out.2.2.2.2.2;have co3:=hF5.out.2.2.2.2.1;clear g3)
      | (refine wpList_store_map _ rfl _ _ _ 146 4 rfl Tryz.underlying146 (w.heap.size + 1) cnt2 (boolF cu2) rfl hmp (by omega) m.name hmn (.bool true) rfl rfl (.lit (.bool true)) [] rfl ?_))
      intro w4 hm4 hg4;have hF6:=Lib.hid (hF5.out.put hm4 hg4);clear hm4 hg4 hmp
      go_wp2
      refine ⟨⟨j + 1,cnt2 + 1,_,by omega,rfl,by omega,hF6.out,Lib.hid ?_⟩,by simp [intOf];omega⟩;have:=hin3.out;rw [HST2.out] at this
      first | rw [if_neg Bool.false_ne_true] at this | rw [if_neg not_false] at this
      exact this
    ·have hjl2:j=s.msgs.length:=by omega
     have hG:cu2=G:=by have:=hin2.out;rw [hjl2,List.drop_length] at this;exact this
     subst hG;subst hjl2;clear hin2
     go_wp2
     refine ⟨⟨r + 1,cnt2,cu2,by omega,rfl,by rw [HRM.out];omega,hF2,hgo2⟩,by simp [intOf];omega⟩
  ·have hre:r=s.msgs.length + 1:=by omega
   have hcur:cur=T:=by have:=hgo.out;rw [hre,Nat.sub_self] at this;exact this
   subst hcur;subst hre;have co:=hF.2.2.2.2.1;clear hgo
   go_wp2
   go_ret
   exact ⟨_,_,rfl,hF.2.2.2.2.2,hF.1⟩
end Go.Proofs.YtfoaaglbpmmhiaaGreatDoor
