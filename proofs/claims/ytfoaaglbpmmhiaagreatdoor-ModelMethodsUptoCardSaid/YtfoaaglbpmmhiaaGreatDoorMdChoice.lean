import Derived.Test.YtfoaaglbpmmhiaaGreatDoorKitS
import Derived.Test.YtfoaaglbpmmhiaaGreatDoorKitU
set_option maxRecDepth 100000
set_option maxHeartbeats 4000000
set_option linter.unusedVariables false
set_option linter.unusedSimpArgs false
namespace Go.Proofs.YtfoaaglbpmmhiaaGreatDoor
open Go.RowKit Ck Md
theorem law_few (q1 q2 q3:Option Addr) (n1 n2 n3 c1 c2 c3:Nat) (w:World) :
  Calls Tryz.prog 10 #[.agg #[.slice q1 n1 c1,.slice q2 n2 c2,.slice q3 n3 c3]] w fun e w' => e=.returned (.bool (decide (n1<=8/\n2<=8/\n3<=8)))/\Bel w w':=by
 have kw:Bel w (w.alloc (.cells #[.slice q1 n1 c1,.slice q2 n2 c2,.slice q3 n3 c3] 26)):=(Bel.refl w).alloc _;obtain ⟨B,hB⟩ : ∃ B,B=decide (n1<=8/\n2<=8/\n3<=8):=⟨_,rfl⟩;rw [← hB];by_cases h1:(n1:Int)<=8
 ·by_cases h2:(n2:Int)<=8
  ·by_cases h3:(n3:Int)<=8
   ·have HT:=Lib.hid (show B=true by rw [hB];exact decide_eq_true ⟨by omega,by omega,by omega⟩)
    clear hB
    go_enter Tryz.func10,Tryz.ntmps10
    go_wp2
    go_ret
    exact ⟨by rw [HT.out];rfl,kw⟩
   ·have HT:=Lib.hid (show B=false by rw [hB];exact decide_eq_false (fun h => by omega))
    clear hB
    go_enter Tryz.func10,Tryz.ntmps10
    go_wp2
    go_ret
    exact ⟨by rw [HT.out];rfl,kw⟩
  ·have HT:=Lib.hid (show B=false by rw [hB];exact decide_eq_false (fun h => by omega))
   clear hB
   go_enter Tryz.func10,Tryz.ntmps10
   go_wp2
   go_ret
   exact ⟨by rw [HT.out];rfl,kw⟩
 ·have HT:=Lib.hid (show B=false by rw [hB];exact decide_eq_false (fun h => by omega))
  clear hB
  go_enter Tryz.func10,Tryz.ntmps10
  go_wp2
  go_ret
  exact ⟨by rw [HT.out];rfl,kw⟩
theorem nodup_ne {α:Type} {f:α->Str} {l:List α} (h:(l.map f).Nodup) {j k:Nat} (hj:j < k) (hk:k < l.length):f l[k] ≠ f (l[j]'(by omega)):=fun e => by
 have h2:=List.pairwise_iff_getElem.1 h j k (by simpa using (by omega:j < l.length)) (by simpa using hk) hj;simp only [List.getElem_map] at h2;exact h2 e.symm
theorem law_distinct (q:Option Addr) (c:Nat) (l:List PMem) (w:World) (hm:Mems w (.slice q l.length c) l) (hn:(l.map (·.name)).Nodup) :
  Calls Tryz.prog 30 #[.slice q l.length c] w fun e w' => e=.returned (.bool true)/\Bel w w':=by
 obtain ⟨_,_,hq,hl,hcap,hel⟩:=hm;cases hq;have EL:=Lib.hid hel;have HN:=Lib.hid hn;clear hel hn
 go_enter Tryz.func30,Tryz.ntmps30
 go_wp2
 go_loopw [3] (fun i wr => ∃ k:Nat,k<=l.length/\i=.int .i64 k/\Hid (Bel w wr)) (fun i _ => l.length - (intOf i).toNat)
 case atStart => exact ⟨0,by omega,rfl,Lib.hid (Bel.refl _)⟩
 case round =>
  obtain ⟨k,hk,rfl,hb⟩:=hrel;by_cases hlt:k < l.length
  ·have hki:(k:Int) < (l.length:Int):=by omega
   go_upto_region 5 with (fail)
   go_loopw [4] (fun i wr => ∃ j:Nat,j<=k/\i=.int .i64 j/\Hid (Bel w wr)) (fun i _ => k - (intOf i).toNat)
   case atStart => exact ⟨0,by omega,rfl,hb⟩
   case round =>
    clear hb;obtain ⟨j,hj,rfl,hb⟩:=hrel;by_cases hjk:j < k
    ·have hji:(j:Int) < (k:Int):=by omega
     have hjl:(j:Int) < (l.length:Int):=by omega
     have hjn:j < l.length:=by omega
     have hne:=nodup_ne HN.out hjk hlt;obtain ⟨b,off,hq,hs1,vs1,hc1,hv1⟩:=EL.out k _ (List.getElem?_eq_getElem hlt);obtain ⟨b2,off2,hq2,hs2,vs2,hc2,hv2⟩:=EL.out j _ (List.getElem?_eq_getElem hjn);subst hq;cases hq2;have hv1':vs1=memC l[k]:=hv1;have hv2':vs2=memC l[j]:=hv2;subst hv1' hv2'
     go_upto_region 7 with (fail)
     obtain ⟨wd,hwd⟩ : ∃ wd,wd=wr.drew:=⟨_,rfl⟩;have HD:=Lib.hid (show Bel w wd by rw [hwd];exact hb.out.drew);have HWD:=Lib.hid hwd;clear hwd hb;have x0:wd.cell? ⟨b,off + k * 3,none⟩=some (.string (S (l[k]).name)):=HD.out.some (by have:=hc1 0 (.string (S (l[k]).name)) rfl;rwa [Nat.add_zero] at this);have y0:wd.cell? ⟨b,off + j * 3,none⟩=some (.string (S (l[j]).name)):=HD.out.some (by have:=hc2 0 (.string (S (l[j]).name)) rfl;rwa [Nat.add_zero] at this);clear hc1 hc2 hv1 hv2;generalize (l[k]).name=A at *;generalize (l[j]).name=B at *;have hcmp:((S A).toList == (S B).toList)=false:=by rw [ByteArray.toList_eq,ByteArray.toList_eq,S_list,S_list];simpa using hne
     clear hne;refine rg_tail 10 (by kernel_rfl) (by kernel_rfl) HWD.out ?_
     (simp only [List.take_succ_cons,List.take_zero,List.drop_succ_cons,List.drop_zero]);(repeat (first | ((with_reducible refine wpStill_step (fun K hK => ?_));go_simp;(with_reducible refine hK _ ?_);clear hK K) | ((with_reducible refine rg_skip ?_ ?_);(with_unfolding_all rfl))));(with_reducible refine wpStill_nil ?_)
     go_wp2
     go_roundw
     case rel => exact ⟨j + 1,by omega,by go_num,HD⟩
     case measure => simp [intOf];omega
    ·have hji : ¬ (j:Int) < (k:Int):=by omega
     go_wp2
     go_roundw
     case rel => exact ⟨k + 1,by omega,by go_num,hb⟩
     case measure => simp [intOf];omega
  ·have hki : ¬ (k:Int) < (l.length:Int):=by omega
   go_wp2
   go_ret
   exact ⟨rfl,hb.out⟩
def pvAt (l:List PField):Nat->Option Str
 | 0 => none
 | k + 1 => (l[k]?).map (·.un)
theorem ucGo_at {l:List PField} {k:Nat} (h:k < l.length):ucGo (pvAt l k) (l.drop k)=(if (l[k]).un ≠ []/\pvAt l k ≠ some (l[k]).un then 1 else 0) + ucGo (pvAt l (k + 1)) (l.drop (k + 1)):=by
 rw [List.drop_eq_getElem_cons h,ucGo];show _=_ + ucGo ((l[k]?).map (·.un)) _
 rw [List.getElem?_eq_getElem h];rfl
theorem law_unions (m:PMsg) (f1 f2 f3 f4:Option Addr) (n2 n3 n4 d1 d2 d3 d4:Nat) (w:World) (hf:Sv 16 VField w (.slice f1 m.fields.length d1) m.fields) :
  Calls Tryz.prog 24 #[.agg #[.string (S m.name),.slice f1 m.fields.length d1,.slice f2 n2 d2,.slice f3 n3 d3,.slice f4 n4 d4]] w fun e w' => e=.returned (.int .i64 (ucGo none m.fields:Nat))/\Bel w w':=by
 obtain ⟨_,_,hq,hl,hcap,hel⟩:=hf;cases hq;have EL:=Lib.hid hel;clear hel;have kV:Bel w (w.alloc (.cells #[.string (S m.name),.slice f1 m.fields.length d1,.slice f2 n2 d2,.slice f3 n3 d3,.slice f4 n4 d4] 44)):=(Bel.refl w).alloc _;have V:=Lib.hid (show 0 + ucGo (pvAt m.fields 0) (m.fields.drop 0)=ucGo none m.fields by rw [Nat.zero_add];rfl);generalize ucGo none m.fields=U at V;have hc0:(w.alloc (.cells #[.string (S m.name),.slice f1 m.fields.length d1,.slice f2 n2 d2,.slice f3 n3 d3,.slice f4 n4 d4] 44)).cell? ⟨w.heap.size,1,none⟩=some (.slice f1 m.fields.length d1):=by rw [World.cell?_alloc_at _ _ _ _ rfl];rfl
 go_enter Tryz.func24,Tryz.ntmps24
 go_wp2
 generalize (w.alloc (.cells #[.string (S m.name),.slice f1 m.fields.length d1,.slice f2 n2 d2,.slice f3 n3 d3,.slice f4 n4 d4] 44))=V1 at kV hc0 ⊢;have KV:=Lib.hid kV;have HC:=Lib.hid hc0;clear kV hc0;generalize w.heap.size=gw at HC ⊢
 go_loopw [3,4] (fun a i wr => ∃ k n:Nat,k<=m.fields.length/\i=.int .i64 k/\a=.int .i64 n/\n<=k/\Hid (Bel V1 wr)/\Hid (n + ucGo (pvAt m.fields k) (m.fields.drop k)=U)) (fun _ i _ => m.fields.length - (intOf i).toNat)
 case atStart => exact ⟨0,0,by omega,rfl,rfl,by omega,Lib.hid (Bel.refl _),V⟩
 case round => as_aux_lemma =>
  clear V;obtain ⟨k,n,hk,rfl,rfl,hnk,hb,hx⟩:=hrel;have c1:wr.cell? ⟨gw,1,none⟩=some (.slice f1 m.fields.length d1):=hb.out.some HC.out;by_cases hlt:k < m.fields.length
  ·have hki:(k:Int) < (m.fields.length:Int):=by omega
   obtain ⟨b,off,hq,hs1,vs1,hce1,hv1⟩:=EL.out k _ (List.getElem?_eq_getElem hlt);subst hq;obtain ⟨vv1,nv1,hvs,_,_⟩:=hv1;subst hvs
   go_upto_region 5 with (fail)
   obtain ⟨wd,hwd⟩ : ∃ wd,wd=wr.drew:=⟨_,rfl⟩;have HD:=Lib.hid (show Bel V1 wd by rw [hwd];exact hb.out.drew);have HWD:=Lib.hid hwd;clear hwd hb c1;have kd:=(Bel.of KV.out HD.out).out;have c1:wd.cell? ⟨gw,1,none⟩=some (.slice (some ⟨b,off,none⟩) m.fields.length d1):=HD.out.some HC.out;have x0:wd.cell? ⟨b,off + k * 16 + 6,none⟩=some (.string (S (m.fields[k]).un)):=(show Bel w wd from kd).some (hce1 6 _ rfl);clear hce1;by_cases hu:(m.fields[k]).un=[]
   ·have hte:(S (m.fields[k]).un).toList=[]:=by rw [ByteArray.toList_eq,S_list,hu]
    have hte2:(S (m.fields[k]).un).toList.isEmpty=true:=by rw [hte];rfl
    have hst:=Lib.hid (show n + 0 + ucGo (pvAt m.fields (k + 1)) (m.fields.drop (k + 1))=U by rw [← hx.out,ucGo_at hlt,if_neg (fun h => h.1 hu)];omega);clear hx hu;generalize (m.fields[k]).un=fu at *;refine rg_tail 24 (by kernel_rfl) (by kernel_rfl) HWD.out ?_
    (simp only [List.take_succ_cons,List.take_zero,List.drop_succ_cons,List.drop_zero]);(repeat (first | ((with_reducible refine wpStill_step (fun K hK => ?_));go_simp;(with_reducible refine hK _ ?_);clear hK K) | ((with_reducible refine rg_skip ?_ ?_);(with_unfolding_all rfl);(simp only [Act.put,List.setIfInBounds_toArray,List.set_cons_zero,List.set_cons_succ]))));(with_reducible refine wpStill_nil ?_)
    go_wp2
    go_roundw
    case rel => exact ⟨k + 1,n + 0,by omega,by go_num,by go_num,by omega,HD,hst⟩
    case measure => simp [intOf];omega
   ·have hte:(S (m.fields[k]).un).toList ≠ []:=by rw [ByteArray.toList_eq,S_list];exact hu
    have hte2:(S (m.fields[k]).un).toList.isEmpty=false:=by rw [S_isEmpty];simpa using hu
    by_cases hk0:k=0
    ·subst hk0
     have hst:=Lib.hid (show n + 1 + ucGo (pvAt m.fields (0 + 1)) (m.fields.drop (0 + 1))=U by rw [← hx.out,ucGo_at hlt,if_pos ⟨hu,fun h => by cases h⟩];omega);clear hx hu;generalize (m.fields[0]).un=fu at *;refine rg_tail 24 (by kernel_rfl) (by kernel_rfl) HWD.out ?_
     (simp only [List.take_succ_cons,List.take_zero,List.drop_succ_cons,List.drop_zero]);(repeat (first | ((with_reducible refine wpStill_step (fun K hK => ?_));go_simp;(with_reducible refine hK _ ?_);clear hK K) | ((with_reducible refine rg_skip ?_ ?_);(with_unfolding_all rfl);(simp only [Act.put,List.setIfInBounds_toArray,List.set_cons_zero,List.set_cons_succ]))));(with_reducible refine wpStill_nil ?_)
     go_wp2
     go_roundw
     case rel => exact ⟨0 + 1,n + 1,by omega,by go_num,by go_num,by omega,HD,hst⟩
     case measure => simp [intOf];omega
    ·obtain ⟨kp,hkk⟩ : ∃ kp,k=kp + 1:=⟨k - 1,by omega⟩
     have hkp:kp < m.fields.length:=by omega
     have hkpi:(kp:Int) < (m.fields.length:Int):=by omega
     have hki0 : ¬ ((k:Int)=0):=by omega
     have jw2:IntKind.i64.wrap (kp:Int)=(kp:Int):=IntWalk.i64_in _ (by omega);have jw:IntKind.i64.wrap ((k:Int) - 1)=(kp:Int):=by rw [show (k:Int) - 1=(kp:Int) by omega];exact jw2
     have hpv:pvAt m.fields k=some (m.fields[kp]).un:=by rw [hkk];show (m.fields[kp]?).map (·.un)=_;rw [List.getElem?_eq_getElem hkp];rfl
     obtain ⟨b2,off2,hq2,hs2,vs2,hce2,hv2⟩:=EL.out kp _ (List.getElem?_eq_getElem hkp);cases hq2;obtain ⟨vv2,nv2,hvs2,_,_⟩:=hv2;subst hvs2;have y0:wd.cell? ⟨b,off + kp * 16 + 6,none⟩=some (.string (S (m.fields[kp]).un)):=(show Bel w wd from kd).some (hce2 6 _ rfl);clear hce2;by_cases he:(m.fields[kp]).un=(m.fields[k]).un
     ·have hcmp:((S (m.fields[kp]).un).toList == (S (m.fields[k]).un).toList)=true:=by rw [he];simp
      have hst:=Lib.hid (show n + 0 + ucGo (pvAt m.fields (k + 1)) (m.fields.drop (k + 1))=U by rw [← hx.out,ucGo_at hlt,if_neg (fun h => h.2 (by rw [hpv,he]))];omega);clear hx hu he hpv hkk;generalize (m.fields[k]).un=fu at *;refine rg_tail 24 (by kernel_rfl) (by kernel_rfl) HWD.out ?_
      (simp only [List.take_succ_cons,List.take_zero,List.drop_succ_cons,List.drop_zero]);(repeat (first | ((with_reducible refine wpStill_step (fun K hK => ?_));go_simp;(with_reducible refine hK _ ?_);clear hK K) | ((with_reducible refine rg_skip ?_ ?_);(with_unfolding_all rfl);(simp only [Act.put,List.setIfInBounds_toArray,List.set_cons_zero,List.set_cons_succ]))));(with_reducible refine wpStill_nil ?_)
      go_wp2
      go_roundw
      case rel => exact ⟨k + 1,n + 0,by omega,by go_num,by go_num,by omega,HD,hst⟩
      case measure => simp [intOf];omega
     ·have hcmp:((S (m.fields[kp]).un).toList == (S (m.fields[k]).un).toList)=false:=by rw [ByteArray.toList_eq,ByteArray.toList_eq,S_list,S_list];simpa using he
      have hst:=Lib.hid (show n + 1 + ucGo (pvAt m.fields (k + 1)) (m.fields.drop (k + 1))=U by rw [← hx.out,ucGo_at hlt,if_pos ⟨hu,fun h => he (by rw [hpv] at h;exact Option.some.inj h)⟩];omega);clear hx hu he hpv hkk;generalize (m.fields[k]).un=fu at *;refine rg_tail 24 (by kernel_rfl) (by kernel_rfl) HWD.out ?_
      (simp only [List.take_succ_cons,List.take_zero,List.drop_succ_cons,List.drop_zero]);(repeat (first | ((with_reducible refine wpStill_step (fun K hK => ?_));go_simp;(with_reducible refine hK _ ?_);clear hK K) | ((with_reducible refine rg_skip ?_ ?_);(with_unfolding_all rfl);(simp only [Act.put,List.setIfInBounds_toArray,List.set_cons_zero,List.set_cons_succ]))));(with_reducible refine wpStill_nil ?_)
      go_wp2
      go_roundw
      case rel => exact ⟨k + 1,n + 1,by omega,by go_num,by go_num,by omega,HD,hst⟩
      case measure => simp [intOf];omega
  ·have hki : ¬ (k:Int) < (m.fields.length:Int):=by omega
   have hfin:=Lib.hid (show n=U by have:=hx.out;rw [List.drop_eq_nil_of_le (by omega)] at this;unfold ucGo at this;omega);clear hx
   go_wp2
   go_ret
   exact ⟨by rw [← hfin.out];rfl,(Bel.of KV.out hb.out).out⟩
theorem law_members (d:PDecl) (num:Int) (q:Option Addr) (c:Nat) (w:World) (hm:Mems w (.slice q d.mems.length c) d.mems) :
  Calls Tryz.prog 23 #[.agg #[.int .i64 d.kind,.string (S d.name),.string (S d.frm),.slice q d.mems.length c],.int .i64 num] w fun e w' => e=.returned (.tuple #[.int .i64 ((memsN num d.mems).1:Nat),.string (S (memsN num d.mems).2)])/\Bel w w':=by
 obtain ⟨_,_,hq,hl,hcap,hel⟩:=hm;cases hq;have EL:=Lib.hid hel;clear hel;have kV:Bel w (w.alloc (.cells #[.int .i64 d.kind,.string (S d.name),.string (S d.frm),.slice q d.mems.length c] 47)):=(Bel.refl w).alloc _;have V:=Lib.hid (show mP num 0 [] ((d.mems.drop 0).map pr)=memsN num d.mems from rfl);generalize memsN num d.mems=R at V;obtain ⟨R1,R2⟩:=R;have hc0:(w.alloc (.cells #[.int .i64 d.kind,.string (S d.name),.string (S d.frm),.slice q d.mems.length c] 47)).cell? ⟨w.heap.size,3,none⟩=some (.slice q d.mems.length c):=by rw [World.cell?_alloc_at _ _ _ _ rfl];rfl
 go_enter Tryz.func23,Tryz.ntmps23
 go_wp2
 generalize (w.alloc (.cells #[.int .i64 d.kind,.string (S d.name),.string (S d.frm),.slice q d.mems.length c] 47))=V1 at kV hc0 ⊢;have KV:=Lib.hid kV;have HC:=Lib.hid hc0;clear kV hc0;generalize w.heap.size=gw at HC ⊢
 go_loopw [6,7,8] (fun a s i wr => ∃ (k n:Nat) (t:Str),k<=d.mems.length/\i=.int .i64 k/\a=.int .i64 n/\s=.string (S t)/\n<=k/\Hid (Bel V1 wr)/\Hid (mP num n t ((d.mems.drop k).map pr)=(R1,R2))) (fun _ _ i _ => d.mems.length - (intOf i).toNat)
 case atStart => exact ⟨0,0,[],by omega,rfl,rfl,rfl,by omega,Lib.hid (Bel.refl _),V⟩
 case round => as_aux_lemma =>
  clear V;obtain ⟨k,n,t,hk,rfl,rfl,rfl,hnk,hb,hx⟩:=hrel;have c1:wr.cell? ⟨gw,3,none⟩=some (.slice q d.mems.length c):=hb.out.some HC.out;by_cases hlt:k < d.mems.length
  ·have hki:(k:Int) < (d.mems.length:Int):=by omega
   obtain ⟨b,off,hq,hs1,vs1,hce1,hv1⟩:=EL.out k _ (List.getElem?_eq_getElem hlt);subst hq;have hv1':vs1=memC d.mems[k]:=hv1;subst hv1';have hst:=hx.out;rw [List.drop_eq_getElem_cons hlt,List.map_cons,mP] at hst;generalize d.mems[k]=m at *;have CE:=Lib.hid (fun (W:World) (kk:Bel V1 W) => show W.cell? ⟨gw,3,none⟩=some (.slice (some ⟨b,off,none⟩) d.mems.length c)/\W.cell? ⟨b,off + k * 3 + 1,none⟩=some (.string (S m.ty))/\W.cell? ⟨b,off + k * 3 + 2,none⟩=some (.int .i64 m.num) from ⟨kk.some HC.out,(show Bel w W from (Bel.of KV.out kk).out).some (hce1 1 _ rfl),(show Bel w W from (Bel.of KV.out kk).out).some (hce1 2 _ rfl)⟩);clear c1 hce1 hx;obtain ⟨c1,x1,x2⟩:=CE.out _ hb.out;by_cases he:m.num=num
   ·rw [if_pos (show (pr m).1=num from he)] at hst
    have HT:=Lib.hid (show mP num (n + 1) m.ty ((d.mems.drop (k + 1)).map pr)=(R1,R2) from hst);have e2:=ieq2 he;have hw1:IntKind.i64.wrap ((n:Int) + 1)=(n:Int) + 1:=IntWalk.i64_in _ (by omega);clear hst he
    go_upto_region 6 with (fail)
    clear c1 x1 x2 e2;obtain ⟨wd,hwd⟩ : ∃ wd,wd=wr.drew:=⟨_,rfl⟩;have HD:=Lib.hid (show Bel V1 wd by rw [hwd];exact hb.out.drew);have HWD:=Lib.hid hwd;clear hwd hb;obtain ⟨c1,x1,x2⟩:=CE.out _ HD.out;refine rg_tail 9 (by kernel_rfl) (by kernel_rfl) HWD.out ?_
    (simp only [List.take_succ_cons,List.take_zero,List.drop_succ_cons,List.drop_zero]);(repeat (first | ((with_reducible refine wpStill_step (fun K hK => ?_));go_simp;(with_reducible refine hK _ ?_);clear hK K) | ((with_reducible refine rg_skip ?_ ?_);(with_unfolding_all rfl))));(with_reducible refine wpStill_nil ?_)
    go_wp2
    go_roundw
    case rel => exact ⟨k + 1,n + 1,_,by omega,by go_num,by go_num,rfl,by omega,HD,HT⟩
    case measure => simp [intOf];omega
   ·rw [if_neg (show ¬ (pr m).1=num from he)] at hst
    have HT:=Lib.hid hst;have e2:=ine2 he;clear hst he
    go_wp2
    go_roundw
    case rel => exact ⟨k + 1,n,_,by omega,by go_num,rfl,rfl,by omega,hb,HT⟩
    case measure => simp [intOf];omega
  ·have hki : ¬ (k:Int) < (d.mems.length:Int):=by omega
   have hfin:=Lib.hid (show (n,t)=(R1,R2) by have:=hx.out;rw [List.drop_eq_nil_of_le (by omega)] at this;exact this);clear hx
   go_wp2
   go_ret2
   cases hfin.out;exact ⟨rfl,(Bel.of KV.out hb.out).out⟩
end Go.Proofs.YtfoaaglbpmmhiaaGreatDoor
namespace Go.Proofs.YtfoaaglbpmmhiaaGreatDoor
open Go.RowKit Ck Md
theorem mem_info:(Tryz.prog.info? 80).map (fun i => (i.zero,i.size,i.bytes))=some (some (.agg #[.string ByteArray.empty,.string ByteArray.empty,.int .i64 0]),3,40):=by kernel_rfl
def memR (vn vw v:Value) (out:List PMem) (R:List Row):List Row:=⟨9,1,vn,(out.map (·.name)).length,nmC (out.map (·.name))⟩ :: ⟨3,1,vw,(out.map (·.name)).length,out.map (fun x => .int .i64 x.num)⟩ :: ⟨80,3,v,out.length,out.flatMap memC⟩ :: R
def MemsOut (w:World) (l:List PMem) (e:Ending) (w':World):Prop := ∃ v,e=.returned v/\w'.ownsRow w.heap.size 80 3 v l.length (l.flatMap memC)/\Bel w w'
theorem memR_add (vn vw v:Value) (out:List PMem) (U ty:Str) (x:Int) (R:List Row) :
  (⟨9,1,vn,(out.map (·.name)).length + 1,nmC (out.map (·.name) ++ [U])⟩ :: ⟨3,1,vw,(out.map (·.name)).length + 1,out.map (fun x => Value.int .i64 x.num) ++ [.int .i64 x]⟩ :: ⟨80,3,v,out.length + 1,out.flatMap memC ++ [.string (S U),.string (S ty),.int .i64 x]⟩ :: R:List Row)=memR vn vw v (out ++ [⟨U,ty,x⟩]) R:=by
 unfold memR;simp [memC]
theorem addM_eq (out:List PMem) (n ty:Str) (x:Int):addM out n ty x=out ++ [⟨unique (out.map (·.name)) (Id.camel n),ty,x⟩]:=rfl
theorem md_choice (g:Nat) (D:List PDecl) (mn:Str) (mq1 mq2 mq3 mq4:Option Addr) (mm1 mm2 mm3 mm4 mc1 mc2 mc3 mc4:Nat) (m:PMsg) (u:Str) (w:World) (h:NM w g D) (hv:VMsg w [.string (S mn),.slice mq1 mm1 mc1,.slice mq2 mm2 mc2,.slice mq3 mm3 mc3,.slice mq4 mm4 mc4] m) (hP:PT w) (hM:ML w) (hfn:m.fields.length<=2000000) (hfl : ∀ f ∈ m.fields,f.name.length<=100000000) :
  Calls Tryz.prog 41 #[.pointer (some ⟨g,0,none⟩),.agg #[.string (S mn),.slice mq1 mm1 mc1,.slice mq2 mm2 mc2,.slice mq3 mm3 mc3,.slice mq4 mm4 mc4],.string (S u)] w (MemsOut w (choice D m u)):=by
 obtain ⟨i1,hi1,hy0,hy1,hy2⟩:=info_parts mem_info;obtain ⟨_,_,_,_,hcm,hm1,_,_,_⟩:=hv;cases hcm;obtain ⟨q,c,hq,hl,hcap,hel⟩:=hm1;cases hq;have V:=Lib.hid (show chGo D u [] (m.fields.drop 0)=choice D m u from rfl);generalize choice D m u=T at V;have EL:=Lib.hid hel;have HF:=Lib.hid hfl;have HNM:=Lib.hid (fun W (kk:Bel w W) => h.bel kk);clear hel hfl h;have hS0:=Lib.hid (((((ST.start w).addbox #[.string (S m.name),.slice mq1 m.fields.length mc1,.slice mq2 mm2 mc2,.slice mq3 mm3 mc3,.slice mq4 mm4 mc4] 44).addbox #[.slice none 0 0,.slice none 0 0] 97).nilrow 80 3).nilrow 3 1 |>.nilrow 9 1)
 go_enter Tryz.func41,Tryz.ntmps41
 go_wp2
 go_loopw [8,14] (fun v i wr => ∃ (k:Nat) (out:List PMem) (vn vw vo:Value),vo=v/\k<=m.fields.length/\i=.int .i64 k/\Hid (ST w (memR vn vw vo out []) [⟨w.heap.size + 1,#[vn,vw],97⟩,⟨w.heap.size,#[.string (S m.name),.slice mq1 m.fields.length mc1,.slice mq2 mm2 mc2,.slice mq3 mm3 mc3,.slice mq4 mm4 mc4],44⟩] wr)/\out.length<=k/\Hid (chGo D u out (m.fields.drop k)=T)) (fun _ i _ => m.fields.length - (intOf i).toNat)
 case atStart => exact ⟨0,[],.slice none 0 0,.slice none 0 0,.slice none 0 0,rfl,by omega,rfl,Lib.hid (by have:=hS0.out;simpa [memR,nmC] using this),by simp,V⟩
 case round =>
  clear hS0;obtain ⟨k,out,vn,vw,vo,rfl,hk,rfl,hSH,hol,hx⟩:=hrel;have hST:=hSH.out;have hfr:=(hST.boxlt 0 rfl).2;by_cases hlt:k < m.fields.length
  ·have hg2:=List.getElem?_eq_getElem hlt
   obtain ⟨b,off,rfl,hbs,vs,hce,hvs⟩:=EL.out k _ hg2;have hdr:m.fields.drop k=m.fields[k] :: m.fields.drop (k + 1):=List.drop_eq_getElem_cons hlt;obtain ⟨_,_,hvs1,⟨r1,r2,r3,r4,d1,d2,d3,d4,hvv,_⟩,hnt⟩:=hvs;obtain ⟨r5,d5,hnv,hnl⟩:=sl_form hnt;subst hvs1 hvv hnv;have hfb:=HF.out _ (List.getElem_mem hlt);generalize m.fields[k]=f at *;have hki:(k:Int) < (m.fields.length:Int):=by omega
   have aE:=agg_Field;obtain ⟨K,hK⟩ : ∃ K,K=16:=⟨_,rfl⟩;have zE : ∀ w,(Go.sizeOf 63).run Tryz.prog w=.ok K w:=hK ▸ size_Field
   have l2:Sem.run Tryz.prog (loadCellsFrom ⟨b,off + k * K,none⟩ 0 K #[]) wr=.ok #[.int .i64 f.num,.string (S f.name),.int .i64 f.card,.int .i64 f.key,.int .i64 f.tk,.string (S f.tn),.string (S f.un),.bool f.hd,.int .i64 f.df.k,.int .u64 f.df.x,.string (S f.df.t),.slice r1 f.df.n1 d1,.slice r2 f.df.n2 d2,.slice r3 f.df.n3 d3,.slice r4 f.df.n4 d4,.slice r5 f.notes.length d5] wr:=run_loadCellsFrom_list Tryz.prog _ _ _ K hK.symm (fun j v hj => by
    rw [hK,Addr.add_lit]
    exact Bel.some hST.bel (hce j v hj))
   have HK:=Lib.hid hK;clear hK hce hg2 hnt;have hst:=hx.out;rw [hdr] at hst;unfold chGo at hst;clear hx hdr;by_cases hu:f.un=u
   ·rw [if_pos hu,addM_eq] at hst
    have hue:((S f.un).toList == (S u).toList)=true:=by rw [ByteArray.toList_eq,ByteArray.toList_eq,S_list,S_list,hu];simp
    have HA:=Lib.hid (hST.addbox #[.int .i64 f.num,.string (S f.name),.int .i64 f.card,.int .i64 f.key,.int .i64 f.tk,.string (S f.tn),.string (S f.un),.bool f.hd,.int .i64 f.df.k,.int .u64 f.df.x,.string (S f.df.t),.slice r1 f.df.n1 d1,.slice r2 f.df.n2 d2,.slice r3 f.df.n3 d3,.slice r4 f.df.n4 d4,.slice r5 f.notes.length d5] 63);have hol2:(out.map (·.name)).length<=1000000000:=by rw [List.length_map];omega
    have cam:=Lib.hid (fun W (kk:Bel w W) => id_Camel (S f.name) f.name W (S_list _) (by rw [S_size];exact hfb) (hM.below kk.out));have hcl:=camel_len f.name;have CE:=Lib.hid (fun W (kk:Bel w W) => md_element g D f.tk f.tn W (HNM.out W kk));generalize element D f.tk f.tn=E at CE hst;generalize Id.camel f.name=CN at cam hcl hst;generalize hU:unique (out.map (·.name)) CN=U at hst;have HU:=Lib.hid hU;have HST2:=Lib.hid hst;clear hU hst hu hST hSH
    go_upto_region 7 with (fail)
    all_goals (first | (exfalso;exact absurd HK.out.symm (by assumption)) | (have h16:16=K:=(by assumption);subst h16))
    clear l2 aE zE HK;obtain ⟨wd,hwd⟩ : ∃ wd,wd=(wr.alloc (.cells #[.int .i64 f.num,.string (S f.name),.int .i64 f.card,.int .i64 f.key,.int .i64 f.tk,.string (S f.tn),.string (S f.un),.bool f.hd,.int .i64 f.df.k,.int .u64 f.df.x,.string (S f.df.t),.slice r1 f.df.n1 d1,.slice r2 f.df.n2 d2,.slice r3 f.df.n3 d3,.slice r4 f.df.n4 d4,.slice r5 f.notes.length d5] 63)).drew:=⟨_,rfl⟩;have HD:=Lib.hid (show ST w _ _ wd by rw [hwd];exact HA.out.belw (Bel.refl _).drew);have HWD:=Lib.hid hwd;clear hwd HA;have SS:=Lib.hid (fun (R:List Row) (X:List Box) (W:World) (hs:ST w R X W) (i:Nat) (hi:X[i]? = some ⟨wr.heap.size,#[.int .i64 f.num,.string (S f.name),.int .i64 f.card,.int .i64 f.key,.int .i64 f.tk,.string (S f.tn),.string (S f.un),.bool f.hd,.int .i64 f.df.k,.int .u64 f.df.x,.string (S f.df.t),.slice r1 f.df.n1 d1,.slice r2 f.df.n2 d2,.slice r3 f.df.n3 d3,.slice r4 f.df.n4 d4,.slice r5 f.notes.length d5],63⟩) => show W.cell? ⟨wr.heap.size,1,none⟩=some (.string (S f.name))/\W.cell? ⟨wr.heap.size,0,none⟩=some (.int .i64 f.num)/\W.cell? ⟨wr.heap.size,4,none⟩=some (.int .i64 f.tk)/\W.cell? ⟨wr.heap.size,5,none⟩=some (.string (S f.tn)) from ⟨hs.cell i hi 1,hs.cell i hi 0,hs.cell i hi 4,hs.cell i hi 5⟩);refine region_ord (fun W => W.cell? ⟨wr.heap.size,1,none⟩=some (.string (S f.name))/\W.cell? ⟨wr.heap.size,0,none⟩=some (.int .i64 f.num)/\W.cell? ⟨wr.heap.size,4,none⟩=some (.int .i64 f.tk)/\W.cell? ⟨wr.heap.size,5,none⟩=some (.string (S f.tn))) [(0,true),(1,true),(2,true),(4,true),(5,true),(7,true),(8,true),(9,true),(11,true),(12,true),(3,false),(6,false),(10,false),(13,true),(14,false)] 15 (by kernel_rfl) (by kernel_rfl) HWD.out (SS.out _ _ _ HD.out 0 rfl) ?_;simp only [pickOps,List.getElem?_cons_zero,List.getElem?_cons_succ]
    (with_reducible refine ord_take (v:=?vv170) (by with_unfolding_all rfl) (fun W hW => ?hy170) ?hr170);(case hy170 => ((try dsimp only at hW);go_simp;(all_goals with_reducible rfl)));(simp only [Act.put,List.setIfInBounds_toArray,List.set_cons_zero,List.set_cons_succ])
    (with_reducible refine ord_take (v:=?vv171) (by with_unfolding_all rfl) (fun W hW => ?hy171) ?hr171);(case hy171 => ((try dsimp only at hW);go_simp;(all_goals with_reducible rfl)));(simp only [Act.put,List.setIfInBounds_toArray,List.set_cons_zero,List.set_cons_succ])
    (with_reducible refine ord_take (v:=?vv172) (by with_unfolding_all rfl) (fun W hW => ?hy172) ?hr172);(case hy172 => ((try dsimp only at hW);go_simp;(all_goals with_reducible rfl)));(simp only [Act.put,List.setIfInBounds_toArray,List.set_cons_zero,List.set_cons_succ])
    (with_reducible refine ord_take (v:=?vv173) (by with_unfolding_all rfl) (fun W hW => ?hy173) ?hr173);(case hy173 => ((try dsimp only at hW);go_simp;(all_goals with_reducible rfl)));(simp only [Act.put,List.setIfInBounds_toArray,List.set_cons_zero,List.set_cons_succ])
    (with_reducible refine ord_take (v:=?vv174) (by with_unfolding_all rfl) (fun W hW => ?hy174) ?hr174);(case hy174 => ((try dsimp only at hW);go_simp;(all_goals with_reducible rfl)));(simp only [Act.put,List.setIfInBounds_toArray,List.set_cons_zero,List.set_cons_succ])
    (with_reducible refine ord_take (v:=?vv175) (by with_unfolding_all rfl) (fun W hW => ?hy175) ?hr175);(case hy175 => ((try dsimp only at hW);go_simp;(all_goals with_reducible rfl)));(simp only [Act.put,List.setIfInBounds_toArray,List.set_cons_zero,List.set_cons_succ])
    (with_reducible refine ord_take (v:=?vv176) (by with_unfolding_all rfl) (fun W hW => ?hy176) ?hr176);(case hy176 => ((try dsimp only at hW);go_simp;(all_goals with_reducible rfl)));(simp only [Act.put,List.setIfInBounds_toArray,List.set_cons_zero,List.set_cons_succ])
    (with_reducible refine ord_take (v:=?vv177) (by with_unfolding_all rfl) (fun W hW => ?hy177) ?hr177);(case hy177 => ((try dsimp only at hW);go_simp;(all_goals with_reducible rfl)));(simp only [Act.put,List.setIfInBounds_toArray,List.set_cons_zero,List.set_cons_succ])
    (with_reducible refine ord_take (v:=?vv178) (by with_unfolding_all rfl) (fun W hW => ?hy178) ?hr178);(case hy178 => ((try dsimp only at hW);go_simp;(all_goals with_reducible rfl)));(simp only [Act.put,List.setIfInBounds_toArray,List.set_cons_zero,List.set_cons_succ])
    (with_reducible refine ord_take (v:=?vv179) (by with_unfolding_all rfl) (fun W hW => ?hy179) ?hr179);(case hy179 => ((try dsimp only at hW);go_simp;(all_goals with_reducible rfl)));(simp only [Act.put,List.setIfInBounds_toArray,List.set_cons_zero,List.set_cons_succ])
    (with_reducible refine ord_call (fun K hK => ?_))
    go_simp
    (with_reducible refine (cam.out _ HD.out.bel).mono ?_)
    rintro e w1 ⟨rfl,g1⟩;have H1:=Lib.hid (HD.out.belw g1).swapX;refine hK _ _ (SS.out _ _ _ H1.out 1 rfl) ?_;clear hK K g1 HD cam
    (try simp only [Act.put,List.setIfInBounds_toArray,List.set_cons_zero,List.set_cons_succ])
    have ADD:=Lib.hid (md_addI w _ _ _ _ vn vw (out.map fun x:PMem => x.name) _ CN f.num w1 H1.out hP (by omega) hol2);rw [HU.out] at ADD
    (with_reducible refine ord_call (fun K hK => ?_))
    go_simp
    (with_reducible refine ADD.out.mono ?_)
    rintro e w2 ⟨vn',vw',rfl,h2⟩;have H2:=Lib.hid h2;refine hK _ _ (SS.out _ _ _ H2.out 1 rfl) ?_;clear hK K h2 ADD H1
    (try simp only [Act.put,List.setIfInBounds_toArray,List.set_cons_zero,List.set_cons_succ])
    (with_reducible refine ord_call (fun K hK => ?_))
    go_simp
    (with_reducible refine (CE.out _ H2.out.bel).mono ?_)
    rintro e w3 ⟨rfl,g3⟩;have H3:=Lib.hid (H2.out.belw g3);refine hK _ _ (SS.out _ _ _ H3.out 1 rfl) ?_;clear hK K g3 H2 CE
    (try simp only [Act.put,List.setIfInBounds_toArray,List.set_cons_zero,List.set_cons_succ])
    (with_reducible refine ord_take (v:=?vv180) (by with_unfolding_all rfl) (fun W hW => ?hy180) ?hr180);(case hy180 => ((try dsimp only at hW);go_simp;(all_goals with_reducible rfl)));(simp only [Act.put,List.setIfInBounds_toArray,List.set_cons_zero,List.set_cons_succ])
    (with_reducible refine ord_call (fun K hK => ?_))
    go_simp
    have H4:=Lib.hid (H3.out.belw ((Bel.refl w3).alloc (.cells #[.string (S U),.string (S E),.int .i64 f.num] 80)));refine hK _ _ (SS.out _ _ _ H4.out 1 rfl) ?_;clear hK K H3
    (try simp only [Act.put,List.setIfInBounds_toArray,List.set_cons_zero,List.set_cons_succ])
    refine ord_nil ?_;simp only [List.drop_succ_cons,List.drop_zero];have hol3:out.length<=2000000:=by omega
    go_wp2_with (at_builtin;refine wpList_append_lies _ rfl _ _ 45 rfl w.heap.size 80 i1 (.agg #[.string ByteArray.empty,.string ByteArray.empty,.int .i64 0]) 3 40 Tryz.underlying45 hi1 hy0 hy1 hy2 rfl (by decide) vo out.length _ rfl (H4.out.row 2 rfl) ⟨w3.heap.size,0,none⟩ 1 1 [.string (S U),.string (S E),.int .i64 f.num] rfl rfl (one_new _ _ _) (by simp [Value.oneCell']) (by decide) (by unfold maxLen;omega) (by omega) H4.out.bel.size (w3.heap.size + 1) (by simp) ?_)
    intro g3 cap3 w4 hown hgrow hfr3 hlt2;have H7:=H4.out.grow 2 rfl hgrow hown (fr_own hfr3 (by simp));have H8:=Lib.hid (H7.swapX.dropbox0);clear H4 H7 hown hgrow hfr3 hlt2 SS
    go_wp2
    refine ⟨⟨k + 1,out ++ [⟨U,E,f.num⟩],vn',vw',_,rfl,by omega,rfl,Lib.hid (by rw [← memR_add];exact H8.out),by simp;omega,HST2⟩,by simp [intOf];omega⟩
   ·rw [if_neg hu] at hst
    have hue:((S f.un).toList == (S u).toList)=false:=by rw [ByteArray.toList_eq,ByteArray.toList_eq,S_list,S_list];simpa using hu
    have HST2:=Lib.hid hst;have HA:=Lib.hid (hST.belw ((Bel.refl wr).alloc (.cells #[.int .i64 f.num,.string (S f.name),.int .i64 f.card,.int .i64 f.key,.int .i64 f.tk,.string (S f.tn),.string (S f.un),.bool f.hd,.int .i64 f.df.k,.int .u64 f.df.x,.string (S f.df.t),.slice r1 f.df.n1 d1,.slice r2 f.df.n2 d2,.slice r3 f.df.n3 d3,.slice r4 f.df.n4 d4,.slice r5 f.notes.length d5] 63)));clear hst hu hSH hST
    go_upto_region 6 with (fail)
    all_goals (first | (exfalso;exact absurd HK.out.symm (by assumption)) | (have h16:16=K:=(by assumption);subst h16))
    clear l2 aE zE HK
    go_wp2
    refine ⟨⟨k + 1,out,vn,vw,_,rfl,by omega,rfl,HA,by omega,HST2⟩,by simp [intOf];omega⟩
  ·have hkl:k=m.fields.length:=by omega
   have hxe:out=T:=by have:=hx.out;rw [hkl,List.drop_length] at this;exact this
   subst hxe;subst hkl;clear hx V EL
   go_wp2
   go_ret
   exact ⟨_,rfl,hST.row 2 rfl,hST.bel⟩
end Go.Proofs.YtfoaaglbpmmhiaaGreatDoor
