import Derived.Test.YtaaneecceiefoaaGreatDoorRkU
import Derived.Deep.DeepCutAuto
set_option maxRecDepth 100000
set_option maxHeartbeats 4000000
set_option linter.unusedVariables false
set_option linter.unusedSimpArgs false
namespace Go.Proofs.YtaaneecceiefoaaGreatDoor
open Go.RowKit Ck
theorem rC116 {a:Act} {ρ:Operand->Value} (h : ∀x,ρ x=a.eval x):(∀c,ρ (.const c)=c)/\∀f,ρ (.func f)=.func (.func f) #[] #[]:=⟨fun c=>h (.const c),fun f=>h (.func f)⟩
theorem qpq {kind k x:Int} {t:List UInt8} {n:Nat} (h:Pr.fitsB kind k x t n=true):n=0:=by
 unfold Pr.fitsB Pr.leanB at h;simp only [Bool.and_eq_true,decide_eq_true_eq]at h
 first|exact h.1.1.1.2.2.2|exact h.1.1.1.2.2|exact h.1.1.1.2.1|(simp_all;done)|omega
theorem rk_value (sq1 sq2 sq3:Option Addr) (sc1 sc2 sc3:Nat) (s:PSchema) (fu:Int) (fn:Str) (fca fke ftk:Int) (ftn fun0:Str) (fhd:Bool) (fvk fvx:Int) (fvt:Str) (fr1 fr2 fr3 fr4 fr5:Option Addr) (fm1 fd1 fm2 fd2 fm3 fd3 fm4 fd4 fm5 fd5:Nat) (nts:List PNote) (w:World) (hs:VSchema w [.slice sq1 s.msgs.length sc1,.slice sq2 s.enums.length sc2,.slice sq3 s.svcs.length sc3] s) (h0:0<=fvx) (h1:fvx<18446744073709551616) (b1:fm1<=140737488355328) (b2:fm2<=140737488355328) (b3:fm3<=140737488355328) (b4:fm4<=140737488355328) :
  Calls Tryz.prog 107 #[.agg #[.slice sq1 s.msgs.length sc1,.slice sq2 s.enums.length sc2,.slice sq3 s.svcs.length sc3],.agg #[.int .i64 fu,.string (S fn),.int .i64 fca,.int .i64 fke,.int .i64 ftk,.string (S ftn),.string (S fun0),.bool fhd,.int .i64 fvk,.int .u64 fvx,.string (S fvt),.slice fr1 fm1 fd1,.slice fr2 fm2 fd2,.slice fr3 fm3 fd3,.slice fr4 fm4 fd4,.slice fr5 fm5 fd5]] w fun e w'=>e=.returned (.bool (qct s ⟨fu,fn,fca,fke,ftk,ftn,fun0,fhd,⟨fvk,fvx,fvt,fm1,fm2,fm3,fm4⟩,nts⟩))/\Below w.heap.size w w':=by
 have hKS : ∀W',Bel (((w.alloc (.cells #[.slice sq1 s.msgs.length sc1,.slice sq2 s.enums.length sc2,.slice sq3 s.svcs.length sc3] 26)).alloc (.cells #[.int .i64 fu,.string (S fn),.int .i64 fca,.int .i64 fke,.int .i64 ftk,.string (S ftn),.string (S fun0),.bool fhd,.int .i64 fvk,.int .u64 fvx,.string (S fvt),.slice fr1 fm1 fd1,.slice fr2 fm2 fd2,.slice fr3 fm3 fd3,.slice fr4 fm4 fd4,.slice fr5 fm5 fd5] 65)).alloc (.cells #[.int .i64 fvk,.int .u64 fvx,.string (S fvt),.slice fr1 fm1 fd1,.slice fr2 fm2 fd2,.slice fr3 fm3 fd3,.slice fr4 fm4 fd4] 46)) W'->W'.cell? ⟨w.heap.size,0,none⟩=some (.slice sq1 s.msgs.length sc1)/\W'.cell? ⟨w.heap.size,1,none⟩=some (.slice sq2 s.enums.length sc2)/\W'.cell? ⟨w.heap.size,2,none⟩=some (.slice sq3 s.svcs.length sc3)/\W'.cell? ⟨w.heap.size+1,2,none⟩=some (.int .i64 fca)/\W'.cell? ⟨w.heap.size+1,4,none⟩=some (.int .i64 ftk)/\W'.cell? ⟨w.heap.size+1,5,none⟩=some (.string (S ftn))/\W'.cell? ⟨w.heap.size+1,6,none⟩=some (.string (S fun0))/\W'.cell? ⟨w.heap.size+1+1,0,none⟩=some (.int .i64 fvk)/\W'.cell? ⟨w.heap.size+1+1,1,none⟩=some (.int .u64 fvx)/\W'.cell? ⟨w.heap.size+1+1,2,none⟩=some (.string (S fvt))/\W'.cell? ⟨w.heap.size+1+1,3,none⟩=some (.slice fr1 fm1 fd1)/\W'.cell? ⟨w.heap.size+1+1,4,none⟩=some (.slice fr2 fm2 fd2)/\W'.cell? ⟨w.heap.size+1+1,5,none⟩=some (.slice fr3 fm3 fd3)/\W'.cell? ⟨w.heap.size+1+1,6,none⟩=some (.slice fr4 fm4 fd4):=fun W' k=>by
  refine⟨k.some ?_,k.some ?_,k.some ?_,k.some ?_,k.some ?_,k.some ?_,k.some ?_,k.some ?_,k.some ?_,k.some ?_,k.some ?_,k.some ?_,k.some ?_,k.some ?_⟩
  all_goals first
   | (rw [World.cell?_alloc_at _ _ _ _ (by simp)];rfl)
   | (rw [World.cell?_alloc_past _ _ _ (by simp),World.cell?_alloc_at _ _ _ _ (by simp)];rfl)
   | (rw [World.cell?_alloc_past _ _ _ (by simp;omega),World.cell?_alloc_past _ _ _ (by simp),World.cell?_alloc_at _ _ _ _ rfl];rfl)
 have KS:=Lib.hid hKS;clear hKS;have kwF:Bel w (((w.alloc (.cells #[.slice sq1 s.msgs.length sc1,.slice sq2 s.enums.length sc2,.slice sq3 s.svcs.length sc3] 26)).alloc (.cells #[.int .i64 fu,.string (S fn),.int .i64 fca,.int .i64 fke,.int .i64 ftk,.string (S ftn),.string (S fun0),.bool fhd,.int .i64 fvk,.int .u64 fvx,.string (S fvt),.slice fr1 fm1 fd1,.slice fr2 fm2 fd2,.slice fr3 fm3 fd3,.slice fr4 fm4 fd4,.slice fr5 fm5 fd5] 65)).alloc (.cells #[.int .i64 fvk,.int .u64 fvx,.string (S fvt),.slice fr1 fm1 fd1,.slice fr2 fm2 fd2,.slice fr3 fm3 fd3,.slice fr4 fm4 fd4] 46)):=(((Bel.refl _).alloc _).alloc _).alloc _;have HV:=Lib.hid (show qct s ⟨fu,fn,fca,fke,ftk,ftn,fun0,fhd,⟨fvk,fvx,fvt,fm1,fm2,fm3,fm4⟩,nts⟩=(if fhd=false then zeroV ⟨fvk,fvx,fvt,fm1,fm2,fm3,fm4⟩else if fca ≠ 2 ∨ fun0 ≠ [] ∨ Pr.fitsB ftk fvk fvx fvt (fm1+fm2+fm3+fm4)=false ∨ Pr.normB fvk fvx ≠ fvx then false else if ftk ≠ 9 then true else match qg3 s ftn with|none=>false|some e=>e.items.any fun it=>decide (Ck.u64 it.num=fvx))from rfl);generalize qct s ⟨fu,fn,fca,fke,ftk,ftn,fun0,fhd,⟨fvk,fvx,fvt,fm1,fm2,fm3,fm4⟩,nts⟩=R at HV ⊢;cases fhd with
 | false=>
  have HR:=Lib.hid (show R=decide (fvk=0/\fvx=0/\fvt=[]/\fm1+fm2+fm3+fm4=0)by rw [HV.out,if_pos rfl];rfl);have CS:=Lib.hid (fun W=>(show Calls Tryz.prog 131 #[.agg #[.int .i64 fvk,.int .u64 fvx,.string (S fvt),.slice fr1 fm1 fd1,.slice fr2 fm2 fd2,.slice fr3 fm3 fd3,.slice fr4 fm4 fd4],.agg #[.int .i64 0,.int .u64 0,.string ⟨#[]⟩,.slice none 0 0,.slice none 0 0,.slice none 0 0,.slice none 0 0]] W _ from qeq fvk fvx fvt fr1 fr2 fr3 fr4 fm1 fd1 fm2 fd2 fm3 fd3 fm4 fd4 0 0 [] none none none none 0 0 0 0 0 0 0 0 W b1 b2 b3 b4 (by decide) (by decide) (by decide) (by decide)));clear HV
  go_enter Tryz.func107,Tryz.ntmps107
  go_wp2_with (go_at_call 131;(with_reducible refine(CS.out _).mono ?_);rintro e w1 ⟨rfl,g1⟩;have k1:Bel w w1:=Bel.of (by(with_reducible repeat first|assumption|exact Bel.refl _|refine Bel.drew ?_|refine Bel.drewN ?_ _|refine Bel.alloc ?_ _)) g1;clear g1)
  all_goals go_ret
  all_goals refine⟨qa7 ?_,k1.out⟩
  all_goals rw [HR.out,Bool.eq_iff_iff]
  all_goals simp
  all_goals omega
 | true=>
  have HV2:=Lib.hid (show R=(if fca ≠ 2 ∨ fun0 ≠ [] ∨ Pr.fitsB ftk fvk fvx fvt (fm1+fm2+fm3+fm4)=false ∨ Pr.normB fvk fvx ≠ fvx then false else if ftk ≠ 9 then true else match qg3 s ftn with|none=>false|some e=>e.items.any fun it=>decide (Ck.u64 it.num=fvx))by rw [HV.out,if_neg (by simp)]);clear HV;have hcf:=fun W (k:Bel w W)=>r4_Fits ftk fvk fvx (S fvt) fr1 fr2 fr3 fr4 fm1 fm2 fm3 fm4 fd1 fd2 fd3 fd4 W h0 h1 b1 b2 b3 b4
  rw [qbi]at hcf;have hnn:0<=Pr.normB fvk fvx/\Pr.normB fvk fvx<18446744073709551616:=by unfold Pr.normB;split <;> omega
  have CN:=Lib.hid (fun W (k:Bel w W)=>r4_Norm fvk fvx (S fvt) fr1 fr2 fr3 fr4 fm1 fm2 fm3 fm4 fd1 fd2 fd3 fd4 W h0 h1 b1 b2 b3 b4);have hcs:=fun W (k:Bel w W)=>qeq fvk fvx fvt fr1 fr2 fr3 fr4 fm1 fd1 fm2 fd2 fm3 fd3 fm4 fd4 fvk (Pr.normB fvk fvx) fvt fr1 fr2 fr3 fr4 fm1 fd1 fm2 fd2 fm3 fd3 fm4 fd4 W b1 b2 b3 b4 b1 b2 b3 b4
  have CM:=Lib.hid (fun W (k:Bel w W)=>qhm sq1 sq2 sq3 sc1 sc2 sc3 s ftn W (hs.stays_bel k));obtain⟨_,_,_,hcsx,_,hm2,_⟩:=id hs;cases hcsx;have HM2:=Lib.hid hm2;clear hm2 hs
  go_enter Tryz.func107,Tryz.ntmps107
  go_upto_region 4 with(fail)
  generalize hwF:World.alloc (((w.alloc (.cells #[.slice sq1 s.msgs.length sc1,.slice sq2 s.enums.length sc2,.slice sq3 s.svcs.length sc3] 26)).alloc (.cells #[.int .i64 fu,.string (S fn),.int .i64 fca,.int .i64 fke,.int .i64 ftk,.string (S ftn),.string (S fun0),.bool true,.int .i64 fvk,.int .u64 fvx,.string (S fvt),.slice fr1 fm1 fd1,.slice fr2 fm2 fd2,.slice fr3 fm3 fd3,.slice fr4 fm4 fd4,.slice fr5 fm5 fd5] 65))) _=wF;have hW3:(((w.alloc (.cells #[.slice sq1 s.msgs.length sc1,.slice sq2 s.enums.length sc2,.slice sq3 s.svcs.length sc3] 26)).alloc (.cells #[.int .i64 fu,.string (S fn),.int .i64 fca,.int .i64 fke,.int .i64 ftk,.string (S ftn),.string (S fun0),.bool true,.int .i64 fvk,.int .u64 fvx,.string (S fvt),.slice fr1 fm1 fd1,.slice fr2 fm2 fd2,.slice fr3 fm3 fd3,.slice fr4 fm4 fd4,.slice fr5 fm5 fd5] 65)).alloc (.cells #[.int .i64 fvk,.int .u64 fvx,.string (S fvt),.slice fr1 fm1 fd1,.slice fr2 fm2 fd2,.slice fr3 fm3 fd3,.slice fr4 fm4 fd4] 46))=wF:=hwF;rw [hW3]at KS kwF;clear hwF hW3;obtain⟨c0,c1,c2,x2,x4,x5,x6,y0,y1,y2,y3,y4,y5,y6⟩:=KS.out _ (Bel.refl _);by_cases h2:fca=2
  ·have q2:(fca != 2)=false:=by rw [h2];rfl
   by_cases hun:fun0=[]
   ·have qu:((S fun0).toList != [])=false:=by rw [hun,qif [] rfl];rfl
    have he:(S fun0).toList=[]:=by rw [hun];exact qif [] rfl
    cases hft:Pr.fitsB ftk fvk fvx fvt (fm1+fm2+fm3+fm4)with
    | false=>
     have HR:=Lib.hid (show false=R by rw [HV2.out,if_pos (.inr (.inr (.inl hft)))]);rw [hft]at hcf;have CF:=Lib.hid hcf;clear HV2 h2 hun hft hcf hcs;obtain⟨wd,hwd⟩ : ∃wd,wd=wF.drew:=⟨_,rfl⟩;have kd:Bel wF wd:=by rw [hwd];exact(Bel.refl _).drew
     have HWD:=Lib.hid hwd;clear hwd c0 c1 c2 x2 x4 x5 x6 y0 y1 y2 y3 y4 y5 y6
     refine qac (fun W=>Bel wF W) (.take 0 (.take 1 (.take 2 (.take 3 (.take 4 (.take 5 (.take 6 (.take 7 (.take 8 (.take 9 (.take 10 (.take 11 (.take 12 (.alt 13 (.take 14 (.take 15 (.take 16 (.take 17 (.take 18 (.alt 19 .done .no)))))) .no)))))))))))))) 20 (by kernel_rfl) (by kernel_rfl) HWD.out kd (fun a ha=>?_)
     (simp only [pickT,List.getD_cons_zero,List.getD_cons_succ])
     have hsz:a.tmps.size=75:=(by rw [ha];kernel_rfl);have a2:a.eval (.tmp 2)=.pointer (some ⟨w.heap.size,0,none⟩):=(by rw [ha];kernel_rfl);have a3:a.eval (.tmp 3)=.pointer (some ⟨w.heap.size+1,0,none⟩):=(by rw [ha];kernel_rfl);have a5:a.eval (.tmp 5)=.pointer (some ⟨w.heap.size+1+1,0,none⟩):=(by rw [ha];kernel_rfl)
     (with_reducible refine qa1 (v:=?_) rfl (by with_unfolding_all rfl) (fun ρ hρ W hW=>?_) ?_);(rotate_left 1)
     focus(clear hW;have p3:=hρ (.tmp 3);(simp +decide only [qa2,hsz,ev_eq,ev_ne,a2,a3,a5]at p3);obtain⟨hc,hfn⟩:=rC116 hρ;clear hρ;go_simp;(all_goals with_reducible first|rfl|(constructor <;> rfl)))
     (with_reducible refine qa1 (v:=?_) rfl (by with_unfolding_all rfl) (fun ρ hρ W hW=>?_) ?_);(rotate_left 1)
     focus(have hS:=KS.out _ hW;clear hW;have p16:=hρ (.tmp 16);(simp +decide only [qa2,hsz,ev_eq,ev_ne,a2,a3,a5]at p16);obtain⟨hc,hfn⟩:=rC116 hρ;clear hρ;go_simp;(all_goals with_reducible first|rfl|(constructor <;> rfl)))
     (with_reducible refine qa1 (v:=.bool false) rfl (by with_unfolding_all rfl) (fun ρ hρ W hW=>?_) ?_);skip
     focus(clear hW;have p17:=hρ (.tmp 17);(simp +decide only [qa2,hsz,ev_eq,ev_ne,a2,a3,a5]at p17);obtain⟨hc,hfn⟩:=rC116 hρ;clear hρ;go_simp;(first|done|(all_goals with_reducible first|rfl|(constructor <;> rfl))|(simp only [q2,qu,bne,Bool.not_true,Bool.not_false];done)|(simp [q2,qu,bne,Bool.not_true,Bool.not_false];done)|((try simp only [q2,qu,bne,Bool.not_true,Bool.not_false]);done)))
     (with_reducible refine qa1 (v:=.bool false) rfl (by with_unfolding_all rfl) (fun ρ hρ W hW=>?_) ?_);skip
     focus(clear hW;have p18:=hρ (.tmp 18);(simp +decide only [qa2,hsz,ev_eq,ev_ne,a2,a3,a5]at p18);obtain⟨hc,hfn⟩:=rC116 hρ;clear hρ;go_simp;(first|done|(all_goals with_reducible first|rfl|(constructor <;> rfl))|(simp only [q2,qu,bne,Bool.not_true,Bool.not_false];done)|(simp [q2,qu,bne,Bool.not_true,Bool.not_false];done)|((try simp only [q2,qu,bne,Bool.not_true,Bool.not_false]);done)))
     (with_reducible refine qab (v:=?_) (t:=19) rfl rfl (by with_unfolding_all rfl) ?_ (fun ρ hρ W hW=>?_) ?_);(rotate_left 1)
     focus(simp +decide only [qa2,hsz,ev_eq,ev_ne,a2,a3,a5])
     focus(clear hW;have p3:=hρ (.tmp 3);(simp +decide only [qa2,hsz,ev_eq,ev_ne,a2,a3,a5]at p3);obtain⟨hc,hfn⟩:=rC116 hρ;clear hρ;go_simp;(all_goals with_reducible first|rfl|(constructor <;> rfl)))
     (with_reducible refine qab (v:=?_) (t:=19) rfl rfl (by with_unfolding_all rfl) ?_ (fun ρ hρ W hW=>?_) ?_);(rotate_left 1)
     focus(simp +decide only [qa2,hsz,ev_eq,ev_ne,a2,a3,a5])
     focus(have hS:=KS.out _ hW;clear hW;have p20:=hρ (.tmp 20);(simp +decide only [qa2,hsz,ev_eq,ev_ne,a2,a3,a5]at p20);obtain⟨hc,hfn⟩:=rC116 hρ;clear hρ;go_simp;(all_goals with_reducible first|rfl|(constructor <;> rfl)))
     (with_reducible refine qab (v:=.bool false) (t:=19) rfl rfl (by with_unfolding_all rfl) ?_ (fun ρ hρ W hW=>?_) ?_);skip
     focus(simp +decide only [qa2,hsz,ev_eq,ev_ne,a2,a3,a5])
     focus(clear hW;have p21:=hρ (.tmp 21);(simp +decide only [qa2,hsz,ev_eq,ev_ne,a2,a3,a5]at p21);obtain⟨hc,hfn⟩:=rC116 hρ;clear hρ;go_simp;(first|done|(all_goals with_reducible first|rfl|(constructor <;> rfl))|(simp only [q2,qu,bne,Bool.not_true,Bool.not_false];done)|(simp [q2,qu,bne,Bool.not_true,Bool.not_false];done)|((try simp only [q2,qu,bne,Bool.not_true,Bool.not_false]);done)))
     (with_reducible refine qa1 (v:=.bool false) rfl (by with_unfolding_all rfl) (fun ρ hρ W hW=>?_) ?_);skip
     focus(clear hW;have p19:=hρ (.tmp 19);have p22:=hρ (.tmp 22);(simp +decide only [qa2,hsz,ev_eq,ev_ne,a2,a3,a5]at p19 p22);obtain⟨hc,hfn⟩:=rC116 hρ;clear hρ;go_simp;(first|done|(all_goals with_reducible first|rfl|(constructor <;> rfl))|(simp only [q2,qu,bne,Bool.not_true,Bool.not_false];done)|(simp [q2,qu,bne,Bool.not_true,Bool.not_false];done)|((try simp only [q2,qu,bne,Bool.not_true,Bool.not_false]);done)))
     with_reducible refine qcb (fun fr1 hfr1=>?_)
     have b1_3:=congrArg (fun x=>Act.eval x (.tmp 3)) hfr1;(simp +decide only [qa2,hsz,ev_eq,ev_ne,a2,a3,a5]at b1_3);have b1_5:=congrArg (fun x=>Act.eval x (.tmp 5)) hfr1;(simp +decide only [qa2,hsz,ev_eq,ev_ne,a2,a3,a5]at b1_5);have b1_23:=congrArg (fun x=>Act.eval x (.tmp 23)) hfr1;(simp +decide only [qa2,hsz,ev_eq,ev_ne,a2,a3,a5]at b1_23);have hsz1:=congrArg (fun x=>x.tmps.size) hfr1;(simp only [qa2,hsz]at hsz1);clear a2 a3 a5 hsz
     (with_reducible refine qa1 (v:=.bool false) rfl (by with_unfolding_all rfl) (fun ρ hρ W hW=>?_) ?_);skip
     focus(clear hW;have p23:=hρ (.tmp 23);(simp +decide only [qa2,hsz1,ev_eq,ev_ne,b1_3,b1_5,b1_23]at p23);obtain⟨hc,hfn⟩:=rC116 hρ;clear hρ;go_simp;(first|done|(all_goals with_reducible first|rfl|(constructor <;> rfl))|(simp only [q2,qu,bne,Bool.not_true,Bool.not_false];done)|(simp [q2,qu,bne,Bool.not_true,Bool.not_false];done)|((try simp only [q2,qu,bne,Bool.not_true,Bool.not_false]);done)))
     (with_reducible refine qab (v:=?_) (t:=24) rfl rfl (by with_unfolding_all rfl) ?_ (fun ρ hρ W hW=>?_) ?_);(rotate_left 1)
     focus(simp +decide only [qa2,hsz1,ev_eq,ev_ne,b1_3,b1_5,b1_23])
     focus(clear hW;have p3:=hρ (.tmp 3);(simp +decide only [qa2,hsz1,ev_eq,ev_ne,b1_3,b1_5,b1_23]at p3);obtain⟨hc,hfn⟩:=rC116 hρ;clear hρ;go_simp;(all_goals with_reducible first|rfl|(constructor <;> rfl)))
     (with_reducible refine qab (v:=?_) (t:=24) rfl rfl (by with_unfolding_all rfl) ?_ (fun ρ hρ W hW=>?_) ?_);(rotate_left 1)
     focus(simp +decide only [qa2,hsz1,ev_eq,ev_ne,b1_3,b1_5,b1_23])
     focus(clear hW;have p25:=hρ (.tmp 25);(simp +decide only [qa2,hsz1,ev_eq,ev_ne,b1_3,b1_5,b1_23]at p25);obtain⟨hc,hfn⟩:=rC116 hρ;clear hρ;go_simp;(all_goals with_reducible first|rfl|(constructor <;> rfl)))
     (with_reducible refine qab (v:=?_) (t:=24) rfl rfl (by with_unfolding_all rfl) ?_ (fun ρ hρ W hW=>?_) ?_);(rotate_left 1)
     focus(simp +decide only [qa2,hsz1,ev_eq,ev_ne,b1_3,b1_5,b1_23])
     focus(have hS:=KS.out _ hW;clear hW;have p26:=hρ (.tmp 26);(simp +decide only [qa2,hsz1,ev_eq,ev_ne,b1_3,b1_5,b1_23]at p26);obtain⟨hc,hfn⟩:=rC116 hρ;clear hρ;go_simp;(all_goals with_reducible first|rfl|(constructor <;> rfl)))
     (with_reducible refine qab (v:=?_) (t:=24) rfl rfl (by with_unfolding_all rfl) ?_ (fun ρ hρ W hW=>?_) ?_);(rotate_left 1)
     focus(simp +decide only [qa2,hsz1,ev_eq,ev_ne,b1_3,b1_5,b1_23])
     focus(have hS:=KS.out _ hW;clear hW;have p5:=hρ (.tmp 5);(simp +decide only [qa2,hsz1,ev_eq,ev_ne,b1_3,b1_5,b1_23]at p5);obtain⟨hc,hfn⟩:=rC116 hρ;clear hρ;go_simp;(all_goals with_reducible first|rfl|(constructor <;> rfl)))
     (with_reducible refine qcq (f:=?_) (args:=?_) (t:=24) rfl rfl (by with_unfolding_all rfl) ?_ (fun ρ hρ=>?_) ?_ ?_);(rotate_left 2)
     focus(simp +decide only [qa2,hsz1,ev_eq,ev_ne,b1_3,b1_5,b1_23])
     focus(have p27:=hρ (.tmp 27);have p28:=hρ (.tmp 28);(simp +decide only [qa2,hsz1,ev_eq,ev_ne,b1_3,b1_5,b1_23]at p27 p28);obtain⟨hc,hfn⟩:=rC116 hρ;clear hρ;rw [qa9 (hfn _)];clear hfn;go_simp;(all_goals with_reducible first|rfl|(constructor <;> rfl)))
     with_reducible refine(CF.out _ (Bel.of kwF kd.out)).mono ?_
     rintro e w5 ⟨rfl,g5⟩;have k5:Bel wF w5:=Bel.of kd g5;clear g5;refine⟨_,rfl,k5,?_⟩;rotate_left 1
     focus exact qap
     (with_reducible refine qab (v:=?_) (t:=24) rfl rfl (by with_unfolding_all rfl) ?_ (fun ρ hρ W hW=>?_) ?_);(rotate_left 1)
     focus(simp +decide only [qa2,hsz1,ev_eq,ev_ne,b1_3,b1_5,b1_23])
     focus(clear hW;have p29:=hρ (.tmp 29);(simp +decide only [qa2,hsz1,ev_eq,ev_ne,b1_3,b1_5,b1_23]at p29);obtain⟨hc,hfn⟩:=rC116 hρ;clear hρ;go_simp;(all_goals with_reducible first|rfl|(constructor <;> rfl)))
     (with_reducible refine qa1 (v:=?_) rfl (by with_unfolding_all rfl) (fun ρ hρ W hW=>?_) ?_);(rotate_left 1)
     focus(clear hW;have p24:=hρ (.tmp 24);have p30:=hρ (.tmp 30);(simp +decide only [qa2,hsz1,ev_eq,ev_ne,b1_3,b1_5,b1_23]at p24 p30);obtain⟨hc,hfn⟩:=rC116 hρ;clear hρ;go_simp;(all_goals with_reducible first|rfl|(constructor <;> rfl)))
     with_reducible refine qcb (fun fr2 hfr2=>?_)
     have b2_5:=congrArg (fun x=>Act.eval x (.tmp 5)) hfr2;(simp +decide only [qa2,hsz1,ev_eq,ev_ne,b1_3,b1_5,b1_23]at b2_5);have b2_31:=congrArg (fun x=>Act.eval x (.tmp 31)) hfr2;(simp +decide only [qa2,hsz1,ev_eq,ev_ne,b1_3,b1_5,b1_23]at b2_31);have hsz2:=congrArg (fun x=>x.tmps.size) hfr2;(simp only [qa2,hsz1]at hsz2);clear b1_3 b1_5 b1_23 hsz1
     (with_reducible refine qa1 (v:=.bool true) rfl (by with_unfolding_all rfl) (fun ρ hρ W hW=>?_) ?_);skip
     focus(clear hW;have p31:=hρ (.tmp 31);(simp +decide only [qa2,hsz2,ev_eq,ev_ne,b2_5,b2_31]at p31);obtain⟨hc,hfn⟩:=rC116 hρ;clear hρ;go_simp;(first|done|(all_goals with_reducible first|rfl|(constructor <;> rfl))|(simp only [q2,qu,bne,Bool.not_true,Bool.not_false];done)|(simp [q2,qu,bne,Bool.not_true,Bool.not_false];done)|((try simp only [q2,qu,bne,Bool.not_true,Bool.not_false]);done)))
     with_reducible refine qag (c:=true) (t:=32) rfl rfl (by with_unfolding_all rfl) ?_ rfl ?_
     focus(simp +decide only [qa2,hsz2,ev_eq,ev_ne,b2_5,b2_31])
     with_reducible refine qag (c:=true) (t:=32) rfl rfl (by with_unfolding_all rfl) ?_ rfl ?_
     focus(simp +decide only [qa2,hsz2,ev_eq,ev_ne,b2_5,b2_31])
     with_reducible refine qci (c:=true) (t:=32) rfl rfl (by with_unfolding_all rfl) ?_ rfl ?_ ?_ ?_
     focus(simp +decide only [qa2,hsz2,ev_eq,ev_ne,b2_5,b2_31])
     focus(with_reducible repeat first|assumption|exact Bel.refl _|refine Bel.drew ?_|refine Bel.drewN ?_ _|refine Bel.alloc ?_ _)
     rotate_left 1
     focus exact qap
     refine qao ?_
     (simp only [List.drop_succ_cons,List.drop_zero])
     subst hfr2 hfr1 ha
     (simp only [qav,set_s,set_z])
     go_wp2
     all_goals go_ret
     all_goals exact⟨qa7 HR.out,(Bel.of kwF k5.out).out⟩
    | true=>
     have hlz:=qpq hft
     have hsc:(decide (fvk=fvk) && (decide (fvx=Pr.normB fvk fvx) && (decide (fvt=fvt) && decide (fm1+fm2+fm3+fm4+fm1+fm2+fm3+fm4=0))))=decide (fvx=Pr.normB fvk fvx):=by
      rw [decide_eq_true rfl,decide_eq_true rfl,decide_eq_true (show fm1+fm2+fm3+fm4+fm1+fm2+fm3+fm4=0 by omega),Bool.true_and,Bool.true_and,Bool.and_true]
     rw [hsc]at hcs;rw [hft]at hcf;have CF:=Lib.hid hcf
     go_cut [38] (fun s38 wx=>s38=.bool (!decide (fvx=Pr.normB fvk fvx))/\Bel wF wx)
     case first=>
      have CS:=Lib.hid hcs;clear HV2 h2 hun hft hcf hcs hlz hsc;obtain⟨wd,hwd⟩ : ∃wd,wd=wF.drew:=⟨_,rfl⟩;have kd:Bel wF wd:=by rw [hwd];exact(Bel.refl _).drew
      have HWD:=Lib.hid hwd;clear hwd c0 c1 c2 x2 x4 x5 x6 y0 y1 y2 y3 y4 y5 y6
      refine qac (fun W=>Bel wF W) (.take 0 (.take 1 (.take 2 (.take 3 (.take 4 (.take 5 (.take 6 (.take 7 (.take 8 (.take 9 (.take 10 (.take 11 (.take 12 (.alt 13 (.take 14 (.take 15 (.take 16 (.take 17 (.take 18 (.alt 19 .done .no)))))) .no)))))))))))))) 20 (by kernel_rfl) (by kernel_rfl) HWD.out kd (fun a ha=>?_)
      (simp only [pickT,List.getD_cons_zero,List.getD_cons_succ])
      have hsz:a.tmps.size=75:=(by rw [ha];kernel_rfl);have a2:a.eval (.tmp 2)=.pointer (some ⟨w.heap.size,0,none⟩):=(by rw [ha];kernel_rfl);have a3:a.eval (.tmp 3)=.pointer (some ⟨w.heap.size+1,0,none⟩):=(by rw [ha];kernel_rfl);have a5:a.eval (.tmp 5)=.pointer (some ⟨w.heap.size+1+1,0,none⟩):=(by rw [ha];kernel_rfl)
      (with_reducible refine qa1 (v:=?_) rfl (by with_unfolding_all rfl) (fun ρ hρ W hW=>?_) ?_);(rotate_left 1)
      focus(clear hW;have p3:=hρ (.tmp 3);(simp +decide only [qa2,hsz,ev_eq,ev_ne,a2,a3,a5]at p3);obtain⟨hc,hfn⟩:=rC116 hρ;clear hρ;go_simp;(all_goals with_reducible first|rfl|(constructor <;> rfl)))
      (with_reducible refine qa1 (v:=?_) rfl (by with_unfolding_all rfl) (fun ρ hρ W hW=>?_) ?_);(rotate_left 1)
      focus(have hS:=KS.out _ hW;clear hW;have p16:=hρ (.tmp 16);(simp +decide only [qa2,hsz,ev_eq,ev_ne,a2,a3,a5]at p16);obtain⟨hc,hfn⟩:=rC116 hρ;clear hρ;go_simp;(all_goals with_reducible first|rfl|(constructor <;> rfl)))
      (with_reducible refine qa1 (v:=.bool false) rfl (by with_unfolding_all rfl) (fun ρ hρ W hW=>?_) ?_);skip
      focus(clear hW;have p17:=hρ (.tmp 17);(simp +decide only [qa2,hsz,ev_eq,ev_ne,a2,a3,a5]at p17);obtain⟨hc,hfn⟩:=rC116 hρ;clear hρ;go_simp;(first|done|(all_goals with_reducible first|rfl|(constructor <;> rfl))|(simp only [q2,qu,bne,Bool.not_true,Bool.not_false];done)|(simp [q2,qu,bne,Bool.not_true,Bool.not_false];done)|((try simp only [q2,qu,bne,Bool.not_true,Bool.not_false]);done)))
      (with_reducible refine qa1 (v:=.bool false) rfl (by with_unfolding_all rfl) (fun ρ hρ W hW=>?_) ?_);skip
      focus(clear hW;have p18:=hρ (.tmp 18);(simp +decide only [qa2,hsz,ev_eq,ev_ne,a2,a3,a5]at p18);obtain⟨hc,hfn⟩:=rC116 hρ;clear hρ;go_simp;(first|done|(all_goals with_reducible first|rfl|(constructor <;> rfl))|(simp only [q2,qu,bne,Bool.not_true,Bool.not_false];done)|(simp [q2,qu,bne,Bool.not_true,Bool.not_false];done)|((try simp only [q2,qu,bne,Bool.not_true,Bool.not_false]);done)))
      (with_reducible refine qab (v:=?_) (t:=19) rfl rfl (by with_unfolding_all rfl) ?_ (fun ρ hρ W hW=>?_) ?_);(rotate_left 1)
      focus(simp +decide only [qa2,hsz,ev_eq,ev_ne,a2,a3,a5])
      focus(clear hW;have p3:=hρ (.tmp 3);(simp +decide only [qa2,hsz,ev_eq,ev_ne,a2,a3,a5]at p3);obtain⟨hc,hfn⟩:=rC116 hρ;clear hρ;go_simp;(all_goals with_reducible first|rfl|(constructor <;> rfl)))
      (with_reducible refine qab (v:=?_) (t:=19) rfl rfl (by with_unfolding_all rfl) ?_ (fun ρ hρ W hW=>?_) ?_);(rotate_left 1)
      focus(simp +decide only [qa2,hsz,ev_eq,ev_ne,a2,a3,a5])
      focus(have hS:=KS.out _ hW;clear hW;have p20:=hρ (.tmp 20);(simp +decide only [qa2,hsz,ev_eq,ev_ne,a2,a3,a5]at p20);obtain⟨hc,hfn⟩:=rC116 hρ;clear hρ;go_simp;(all_goals with_reducible first|rfl|(constructor <;> rfl)))
      (with_reducible refine qab (v:=.bool false) (t:=19) rfl rfl (by with_unfolding_all rfl) ?_ (fun ρ hρ W hW=>?_) ?_);skip
      focus(simp +decide only [qa2,hsz,ev_eq,ev_ne,a2,a3,a5])
      focus(clear hW;have p21:=hρ (.tmp 21);(simp +decide only [qa2,hsz,ev_eq,ev_ne,a2,a3,a5]at p21);obtain⟨hc,hfn⟩:=rC116 hρ;clear hρ;go_simp;(first|done|(all_goals with_reducible first|rfl|(constructor <;> rfl))|(simp only [q2,qu,bne,Bool.not_true,Bool.not_false];done)|(simp [q2,qu,bne,Bool.not_true,Bool.not_false];done)|((try simp only [q2,qu,bne,Bool.not_true,Bool.not_false]);done)))
      (with_reducible refine qa1 (v:=.bool false) rfl (by with_unfolding_all rfl) (fun ρ hρ W hW=>?_) ?_);skip
      focus(clear hW;have p19:=hρ (.tmp 19);have p22:=hρ (.tmp 22);(simp +decide only [qa2,hsz,ev_eq,ev_ne,a2,a3,a5]at p19 p22);obtain⟨hc,hfn⟩:=rC116 hρ;clear hρ;go_simp;(first|done|(all_goals with_reducible first|rfl|(constructor <;> rfl))|(simp only [q2,qu,bne,Bool.not_true,Bool.not_false];done)|(simp [q2,qu,bne,Bool.not_true,Bool.not_false];done)|((try simp only [q2,qu,bne,Bool.not_true,Bool.not_false]);done)))
      with_reducible refine qcb (fun fr1 hfr1=>?_)
      have b1_3:=congrArg (fun x=>Act.eval x (.tmp 3)) hfr1;(simp +decide only [qa2,hsz,ev_eq,ev_ne,a2,a3,a5]at b1_3);have b1_5:=congrArg (fun x=>Act.eval x (.tmp 5)) hfr1;(simp +decide only [qa2,hsz,ev_eq,ev_ne,a2,a3,a5]at b1_5);have b1_23:=congrArg (fun x=>Act.eval x (.tmp 23)) hfr1;(simp +decide only [qa2,hsz,ev_eq,ev_ne,a2,a3,a5]at b1_23);have hsz1:=congrArg (fun x=>x.tmps.size) hfr1;(simp only [qa2,hsz]at hsz1);clear a2 a3 a5 hsz
      (with_reducible refine qa1 (v:=.bool false) rfl (by with_unfolding_all rfl) (fun ρ hρ W hW=>?_) ?_);skip
      focus(clear hW;have p23:=hρ (.tmp 23);(simp +decide only [qa2,hsz1,ev_eq,ev_ne,b1_3,b1_5,b1_23]at p23);obtain⟨hc,hfn⟩:=rC116 hρ;clear hρ;go_simp;(first|done|(all_goals with_reducible first|rfl|(constructor <;> rfl))|(simp only [q2,qu,bne,Bool.not_true,Bool.not_false];done)|(simp [q2,qu,bne,Bool.not_true,Bool.not_false];done)|((try simp only [q2,qu,bne,Bool.not_true,Bool.not_false]);done)))
      (with_reducible refine qab (v:=?_) (t:=24) rfl rfl (by with_unfolding_all rfl) ?_ (fun ρ hρ W hW=>?_) ?_);(rotate_left 1)
      focus(simp +decide only [qa2,hsz1,ev_eq,ev_ne,b1_3,b1_5,b1_23])
      focus(clear hW;have p3:=hρ (.tmp 3);(simp +decide only [qa2,hsz1,ev_eq,ev_ne,b1_3,b1_5,b1_23]at p3);obtain⟨hc,hfn⟩:=rC116 hρ;clear hρ;go_simp;(all_goals with_reducible first|rfl|(constructor <;> rfl)))
      (with_reducible refine qab (v:=?_) (t:=24) rfl rfl (by with_unfolding_all rfl) ?_ (fun ρ hρ W hW=>?_) ?_);(rotate_left 1)
      focus(simp +decide only [qa2,hsz1,ev_eq,ev_ne,b1_3,b1_5,b1_23])
      focus(clear hW;have p25:=hρ (.tmp 25);(simp +decide only [qa2,hsz1,ev_eq,ev_ne,b1_3,b1_5,b1_23]at p25);obtain⟨hc,hfn⟩:=rC116 hρ;clear hρ;go_simp;(all_goals with_reducible first|rfl|(constructor <;> rfl)))
      (with_reducible refine qab (v:=?_) (t:=24) rfl rfl (by with_unfolding_all rfl) ?_ (fun ρ hρ W hW=>?_) ?_);(rotate_left 1)
      focus(simp +decide only [qa2,hsz1,ev_eq,ev_ne,b1_3,b1_5,b1_23])
      focus(have hS:=KS.out _ hW;clear hW;have p26:=hρ (.tmp 26);(simp +decide only [qa2,hsz1,ev_eq,ev_ne,b1_3,b1_5,b1_23]at p26);obtain⟨hc,hfn⟩:=rC116 hρ;clear hρ;go_simp;(all_goals with_reducible first|rfl|(constructor <;> rfl)))
      (with_reducible refine qab (v:=?_) (t:=24) rfl rfl (by with_unfolding_all rfl) ?_ (fun ρ hρ W hW=>?_) ?_);(rotate_left 1)
      focus(simp +decide only [qa2,hsz1,ev_eq,ev_ne,b1_3,b1_5,b1_23])
      focus(have hS:=KS.out _ hW;clear hW;have p5:=hρ (.tmp 5);(simp +decide only [qa2,hsz1,ev_eq,ev_ne,b1_3,b1_5,b1_23]at p5);obtain⟨hc,hfn⟩:=rC116 hρ;clear hρ;go_simp;(all_goals with_reducible first|rfl|(constructor <;> rfl)))
      (with_reducible refine qcq (f:=?_) (args:=?_) (t:=24) rfl rfl (by with_unfolding_all rfl) ?_ (fun ρ hρ=>?_) ?_ ?_);(rotate_left 2)
      focus(simp +decide only [qa2,hsz1,ev_eq,ev_ne,b1_3,b1_5,b1_23])
      focus(have p27:=hρ (.tmp 27);have p28:=hρ (.tmp 28);(simp +decide only [qa2,hsz1,ev_eq,ev_ne,b1_3,b1_5,b1_23]at p27 p28);obtain⟨hc,hfn⟩:=rC116 hρ;clear hρ;rw [qa9 (hfn _)];clear hfn;go_simp;(all_goals with_reducible first|rfl|(constructor <;> rfl)))
      with_reducible refine(CF.out _ (Bel.of kwF kd.out)).mono ?_
      rintro e w5 ⟨rfl,g5⟩;have k5:Bel wF w5:=Bel.of kd g5;clear g5;refine⟨_,rfl,k5,?_⟩;rotate_left 1
      focus exact qap
      (with_reducible refine qab (v:=?_) (t:=24) rfl rfl (by with_unfolding_all rfl) ?_ (fun ρ hρ W hW=>?_) ?_);(rotate_left 1)
      focus(simp +decide only [qa2,hsz1,ev_eq,ev_ne,b1_3,b1_5,b1_23])
      focus(clear hW;have p29:=hρ (.tmp 29);(simp +decide only [qa2,hsz1,ev_eq,ev_ne,b1_3,b1_5,b1_23]at p29);obtain⟨hc,hfn⟩:=rC116 hρ;clear hρ;go_simp;(all_goals with_reducible first|rfl|(constructor <;> rfl)))
      (with_reducible refine qa1 (v:=?_) rfl (by with_unfolding_all rfl) (fun ρ hρ W hW=>?_) ?_);(rotate_left 1)
      focus(clear hW;have p24:=hρ (.tmp 24);have p30:=hρ (.tmp 30);(simp +decide only [qa2,hsz1,ev_eq,ev_ne,b1_3,b1_5,b1_23]at p24 p30);obtain⟨hc,hfn⟩:=rC116 hρ;clear hρ;go_simp;(all_goals with_reducible first|rfl|(constructor <;> rfl)))
      with_reducible refine qcb (fun fr2 hfr2=>?_)
      have b2_5:=congrArg (fun x=>Act.eval x (.tmp 5)) hfr2;(simp +decide only [qa2,hsz1,ev_eq,ev_ne,b1_3,b1_5,b1_23]at b2_5);have b2_31:=congrArg (fun x=>Act.eval x (.tmp 31)) hfr2;(simp +decide only [qa2,hsz1,ev_eq,ev_ne,b1_3,b1_5,b1_23]at b2_31);have hsz2:=congrArg (fun x=>x.tmps.size) hfr2;(simp only [qa2,hsz1]at hsz2);clear b1_3 b1_5 b1_23 hsz1
      (with_reducible refine qa1 (v:=.bool false) rfl (by with_unfolding_all rfl) (fun ρ hρ W hW=>?_) ?_);skip
      focus(clear hW;have p31:=hρ (.tmp 31);(simp +decide only [qa2,hsz2,ev_eq,ev_ne,b2_5,b2_31]at p31);obtain⟨hc,hfn⟩:=rC116 hρ;clear hρ;go_simp;(first|done|(all_goals with_reducible first|rfl|(constructor <;> rfl))|(simp only [q2,qu,bne,Bool.not_true,Bool.not_false];done)|(simp [q2,qu,bne,Bool.not_true,Bool.not_false];done)|((try simp only [q2,qu,bne,Bool.not_true,Bool.not_false]);done)))
      (with_reducible refine qab (v:=?_) (t:=32) rfl rfl (by with_unfolding_all rfl) ?_ (fun ρ hρ W hW=>?_) ?_);(rotate_left 1)
      focus(simp +decide only [qa2,hsz2,ev_eq,ev_ne,b2_5,b2_31])
      focus(have hS:=KS.out _ hW;clear hW;have p5:=hρ (.tmp 5);(simp +decide only [qa2,hsz2,ev_eq,ev_ne,b2_5,b2_31]at p5);obtain⟨hc,hfn⟩:=rC116 hρ;clear hρ;go_simp;(all_goals with_reducible first|rfl|(constructor <;> rfl)))
      (with_reducible refine qab (v:=?_) (t:=32) rfl rfl (by with_unfolding_all rfl) ?_ (fun ρ hρ W hW=>?_) ?_);(rotate_left 1)
      focus(simp +decide only [qa2,hsz2,ev_eq,ev_ne,b2_5,b2_31])
      focus(have hS:=KS.out _ hW;clear hW;have p5:=hρ (.tmp 5);(simp +decide only [qa2,hsz2,ev_eq,ev_ne,b2_5,b2_31]at p5);obtain⟨hc,hfn⟩:=rC116 hρ;clear hρ;go_simp;(all_goals with_reducible first|rfl|(constructor <;> rfl)))
      (with_reducible refine qcq (f:=?_) (args:=?_) (t:=32) rfl rfl (by with_unfolding_all rfl) ?_ (fun ρ hρ=>?_) ?_ ?_);(rotate_left 2)
      focus(simp +decide only [qa2,hsz2,ev_eq,ev_ne,b2_5,b2_31])
      focus(have p34:=hρ (.tmp 34);(simp +decide only [qa2,hsz2,ev_eq,ev_ne,b2_5,b2_31]at p34);obtain⟨hc,hfn⟩:=rC116 hρ;clear hρ;rw [qa9 (hfn _)];clear hfn;go_simp;(all_goals with_reducible first|rfl|(constructor <;> rfl)))
      with_reducible refine(CN.out _ (Bel.of kwF k5.out)).mono ?_
      rintro e w6 ⟨rfl,g6⟩;have k6:Bel wF w6:=Bel.of k5 g6;clear g6;refine⟨_,rfl,k6,?_⟩;rotate_left 1
      focus exact qap
      refine qao ?_
      (simp only [List.drop_succ_cons,List.drop_zero])
      subst hfr2 hfr1 ha
      (simp only [qav,set_s,set_z])
      go_wp2_with (go_at_call 131;(with_reducible refine(CS.out _ (Bel.of kwF k6.out)).mono ?_);rintro e w7 ⟨rfl,g7⟩;have k7:Bel wF w7:=Bel.of k6 g7;clear g7)
      go_meet;exact⟨rfl,k7⟩
     case rest=>
      obtain⟨hs38,kc⟩:=hcut;subst hs38;clear c0 c1 c2 x2 x4 x5 x6 y0 y1 y2 y3 y4 y5 y6;obtain⟨c0,c1,c2,x2,x4,x5,x6,y0,y1,y2,y3,y4,y5,y6⟩:=KS.out _ kc;by_cases hno:fvx=Pr.normB fvk fvx
      ·have HV3:=Lib.hid (show R=(if ftk ≠ 9 then true else match qg3 s ftn with|none=>false|some e=>e.items.any fun it=>decide (Ck.u64 it.num=fvx))by
        rw [HV2.out,if_neg (fun h=>by
         rcases h with h|h|h|h
         ·exact h h2
         ·exact h hun
         ·rw [hft]at h;cases h
         ·exact h hno.symm)])
       have hd:decide (fvx=Pr.normB fvk fvx)=true:=decide_eq_true hno;rw [hd];have hwC:Bel w wc:=Bel.of kwF kc.out;clear HV2 h2 hun hft hcf hcs hlz hsc hno hd CF CN;by_cases h9:ftk=9
       ·have q9:(ftk != 9)=false:=by rw [h9];rfl
        cases hx:enOf s ftn with
        | none=>
         have hen:=enOf_none.1 hx;have HR:=Lib.hid (show false=R by rw [HV3.out,if_neg (fun h=>h h9)];simp only [hen]);have CMx:=Lib.hid (fun W (k:Bel w W)=>(show Calls Tryz.prog 130 #[.agg #[.slice sq1 s.msgs.length sc1,.slice sq2 s.enums.length sc2,.slice sq3 s.svcs.length sc3],.string (S ftn)] W (fun e w'=>e=.returned (.int .i64 (-1))/\Below W.heap.size W w')by have h:=CM.out W k;rw [hx]at h;exact h));clear HV3 h9 hx hen
         go_wp2_with (go_at_call 130;(with_reducible refine(CMx.out _ hwC).mono ?_);rintro e w8 ⟨rfl,g8⟩;have k8:Bel wF w8:=Bel.of kc g8;clear g8 c0 c1 c2 x2 x4 x5 x6 y0 y1 y2 y3 y4 y5 y6;obtain⟨c0,c1,c2,x2,x4,x5,x6,y0,y1,y2,y3,y4,y5,y6⟩:=KS.out _ k8)
         all_goals go_ret
         all_goals exact⟨qa7 HR.out,(Bel.of kwF k8.out).out⟩
        | some kx=>
         obtain⟨en,hgx,hen⟩:=qpt hx;have hkx:kx<s.enums.length:=(List.getElem?_eq_some_iff.1 hgx).1;have HV4:=Lib.hid (show R=(en.items.any fun it=>decide (Ck.u64 it.num=fvx))by rw [HV3.out,if_neg (fun h=>h h9)];simp only [hen]);have CMx:=Lib.hid (fun W (k:Bel w W)=>(show Calls Tryz.prog 130 #[.agg #[.slice sq1 s.msgs.length sc1,.slice sq2 s.enums.length sc2,.slice sq3 s.svcs.length sc3],.string (S ftn)] W (fun e w'=>e=.returned (.int .i64 (kx:Int))/\Below W.heap.size W w')by have h:=CM.out W k;rw [hx]at h;exact h));have hl2:=HM2.out;obtain⟨qq2,cq2,hqe2,hle2,_,hel2⟩:=hl2;cases hqe2;obtain⟨b3',off3,hqq2,hbs3,cs3,hce3,hvs3⟩:=hel2 kx en hgx;obtain⟨_,_,_,hvv3,gi,_,_⟩:=hvs3;obtain⟨qi,ci,rfl,hil⟩:=qa5 gi;subst hvv3;have e2:=hce3 2 _ rfl;have E2:=Lib.hid e2;have hx0:(0:Int)<=(kx:Int):=by omega
         have hx1:(kx:Int)<(s.enums.length:Int):=by omega
         obtain⟨qi2,ci2,hqe3,_,_,hel3⟩:=gi;cases hqe3;have HEL:=Lib.hid hel3;have HA0:=Lib.hid (show(en.items.drop 0).any (fun it=>decide (Ck.u64 it.num=fvx))=R from HV4.out.symm);subst hqq2;clear HV3 HV4 h9 hx hen hgx hel2 hce3 e2 hel3 hkx;have ee:=hwC.some E2.out
         go_upto_region 11 with(go_at_call 130;(with_reducible refine(CMx.out _ hwC).mono ?_);rintro e w8 ⟨rfl,g8⟩;have k8:Bel wF w8:=Bel.of kc g8;clear g8 ee c0 c1 c2 x2 x4 x5 x6 y0 y1 y2 y3 y4 y5 y6;obtain⟨c0,c1,c2,x2,x4,x5,x6,y0,y1,y2,y3,y4,y5,y6⟩:=KS.out _ k8;have ee:=(Bel.of kwF k8.out).some E2.out)
         go_wp2
         go_loopw [7] (fun i wr => ∃j:Nat,j<=en.items.length/\i=.int .i64 j/\Bel wF wr/\Hid ((en.items.drop j).any (fun it=>decide (Ck.u64 it.num=fvx))=R)) (fun i _=>en.items.length-(intOf i).toNat)
         case atStart=>exact⟨0,by omega,rfl,k8,HA0⟩
         case round=>
          clear ee c0 c1 c2 x2 x4 x5 x6 y0 y1 y2 y3 y4 y5 y6;obtain⟨j,hj,rfl,kw,hgo⟩:=hrel;obtain⟨c0,c1,c2,x2,x4,x5,x6,y0,y1,y2,y3,y4,y5,y6⟩:=KS.out _ kw;have hw:=Bel.of kwF kw.out;have ee:=hw.some E2.out;by_cases hlt:j<en.items.length
          ·have hji:(j:Int)<(en.items.length:Int):=by omega
           have hj0:(0:Int)<=(j:Int):=by omega
           have hg:=List.getElem?_eq_getElem hlt;obtain⟨b4,off4,hq4,hbs4,cs4,hce4,hvs4⟩:=HEL.out j _ hg;obtain⟨_,hvv4,_⟩:=hvs4;subst hvv4 hq4;have HST:=Lib.hid (show(decide (Ck.u64 en.items[j].num=fvx) || (en.items.drop (j+1)).any (fun it=>decide (Ck.u64 it.num=fvx)))=R by rw [←hgo.out,qjh _ _ _ _ hg]);have i1:=hw.some (hce4 1 _ rfl);clear hgo hg hce4;generalize en.items[j]=it at *
           go_upto_region 14 with(fail)
           have KI:=Lib.hid i1;have KE:=Lib.hid ee;clear i1 ee c0 c1 c2 x2 x4 x5 x6 y0 y1 y2 y3 y4 y5 y6;obtain⟨wd,hwd⟩ : ∃wd,wd=wr.drew:=⟨_,rfl⟩;have kd:Bel wr wd:=by rw [hwd];exact(Bel.refl _).drew
           have HWD:=Lib.hid hwd;clear hwd;have i1:=kd.some KI.out;have ee:=kd.some KE.out;obtain⟨c0,c1,c2,x2,x4,x5,x6,y0,y1,y2,y3,y4,y5,y6⟩:=KS.out _ (Bel.of kw kd.out);by_cases hn:Ck.u64 it.num=fvx
           ·have qn:(IntKind.u64.wrap it.num == fvx)=true:=by
             have:IntKind.u64.wrap it.num=Ck.u64 it.num:=rfl;rw [this,hn];simp
            have HR:=Lib.hid (show true=R by rw [←HST.out,decide_eq_true hn];rfl);clear hn HST;refine qae 13 (by kernel_rfl) (by kernel_rfl) HWD.out ?_
            (simp only [List.take_succ_cons,List.take_zero,List.drop_succ_cons,List.drop_zero]);(repeat (first|((with_reducible refine wpStill_step (fun K hK=>?_));go_simp;(with_reducible refine hK _ ?_);clear hK K)|((with_reducible refine qaf ?_ ?_);(with_unfolding_all rfl))));(with_reducible refine wpStill_nil ?_)
            go_wp2
            all_goals go_ret
            all_goals exact⟨qa7 HR.out,(Bel.of hw kd.out).out⟩
           ·have qn:(IntKind.u64.wrap it.num == fvx)=false:=by
             have:IntKind.u64.wrap it.num=Ck.u64 it.num:=rfl;rw [this];exact beq_eq_false_iff_ne.2 hn
            have HG:=Lib.hid (show(en.items.drop (j+1)).any (fun it=>decide (Ck.u64 it.num=fvx))=R by rw [←HST.out,decide_eq_false hn,Bool.false_or]);clear hn HST;refine qae 13 (by kernel_rfl) (by kernel_rfl) HWD.out ?_
            (simp only [List.take_succ_cons,List.take_zero,List.drop_succ_cons,List.drop_zero]);(repeat (first|((with_reducible refine wpStill_step (fun K hK=>?_));go_simp;(with_reducible refine hK _ ?_);clear hK K)|((with_reducible refine qaf ?_ ?_);(with_unfolding_all rfl))));(with_reducible refine wpStill_nil ?_)
            go_wp2;exact⟨⟨j+1,by omega,by go_num,Bel.of kw kd.out,HG⟩,by simp [intOf];omega⟩
          ·have hji : ¬(j:Int)<(en.items.length:Int):=by omega
           have HR:=Lib.hid (show false=R by
            have h:=hgo.out;rw [show j=en.items.length by omega,List.drop_length]at h
            rw [←h];rfl)
           clear hgo;go_wp2
           all_goals go_ret
           all_goals exact⟨qa7 HR.out,hw.out⟩
       ·have q9:(ftk != 9)=true:=by rw [bne_iff_ne];exact h9
        have HR:=Lib.hid (show true=R by rw [HV3.out,if_pos h9]);clear HV3 h9
        go_wp2_with (go_at_call 130;(with_reducible refine(CM.out _ hwC).mono ?_);rintro e w8 ⟨rfl,g8⟩;have k8:Bel wF w8:=Bel.of kc g8;clear g8 c0 c1 c2 x2 x4 x5 x6 y0 y1 y2 y3 y4 y5 y6;obtain⟨c0,c1,c2,x2,x4,x5,x6,y0,y1,y2,y3,y4,y5,y6⟩:=KS.out _ k8)
        all_goals go_ret
        all_goals exact⟨qa7 HR.out,(Bel.of kwF k8.out).out⟩
      ·have hd:decide (fvx=Pr.normB fvk fvx)=false:=decide_eq_false hno
       rw [hd];have HR:=Lib.hid (show false=R by rw [HV2.out,if_pos (.inr (.inr (.inr (fun h=>hno h.symm))))]);clear HV2 h2 hun hft hcf hcs hlz hsc hno hd;go_wp2
       all_goals go_ret
       all_goals exact⟨qa7 HR.out,(Bel.of kwF kc.out).out⟩
   ·have qu:((S fun0).toList != [])=true:=by rw [bne_iff_ne];exact qd0 fun0 hun
    have he:=qd0 fun0 hun;have he2:=qdc fun0 hun;have HR:=Lib.hid (show false=R by rw [HV2.out,if_pos (.inr (.inl hun))]);clear HV2 h2 hun hcf hcs;obtain⟨wd,hwd⟩ : ∃wd,wd=wF.drew:=⟨_,rfl⟩;have kd:Bel wF wd:=by rw [hwd];exact(Bel.refl _).drew
    have HWD:=Lib.hid hwd;clear hwd c0 c1 c2 x2 x4 x5 x6 y0 y1 y2 y3 y4 y5 y6
    refine qac (fun W=>Bel wF W) (.take 0 (.take 1 (.take 2 (.take 3 (.take 4 (.take 5 (.take 6 (.take 7 (.take 8 (.take 9 (.take 10 (.take 11 (.take 12 (.alt 13 (.take 14 (.take 15 (.take 16 (.take 17 (.take 18 (.alt 19 .done .no)))))) .no)))))))))))))) 20 (by kernel_rfl) (by kernel_rfl) HWD.out kd (fun a ha=>?_)
    (simp only [pickT,List.getD_cons_zero,List.getD_cons_succ])
    have hsz:a.tmps.size=75:=(by rw [ha];kernel_rfl);have a2:a.eval (.tmp 2)=.pointer (some ⟨w.heap.size,0,none⟩):=(by rw [ha];kernel_rfl);have a3:a.eval (.tmp 3)=.pointer (some ⟨w.heap.size+1,0,none⟩):=(by rw [ha];kernel_rfl);have a5:a.eval (.tmp 5)=.pointer (some ⟨w.heap.size+1+1,0,none⟩):=(by rw [ha];kernel_rfl)
    (with_reducible refine qa1 (v:=?_) rfl (by with_unfolding_all rfl) (fun ρ hρ W hW=>?_) ?_);(rotate_left 1)
    focus(clear hW;have p3:=hρ (.tmp 3);(simp +decide only [qa2,hsz,ev_eq,ev_ne,a2,a3,a5]at p3);obtain⟨hc,hfn⟩:=rC116 hρ;clear hρ;go_simp;(all_goals with_reducible first|rfl|(constructor <;> rfl)))
    (with_reducible refine qa1 (v:=?_) rfl (by with_unfolding_all rfl) (fun ρ hρ W hW=>?_) ?_);(rotate_left 1)
    focus(have hS:=KS.out _ hW;clear hW;have p16:=hρ (.tmp 16);(simp +decide only [qa2,hsz,ev_eq,ev_ne,a2,a3,a5]at p16);obtain⟨hc,hfn⟩:=rC116 hρ;clear hρ;go_simp;(all_goals with_reducible first|rfl|(constructor <;> rfl)))
    (with_reducible refine qa1 (v:=.bool false) rfl (by with_unfolding_all rfl) (fun ρ hρ W hW=>?_) ?_);skip
    focus(clear hW;have p17:=hρ (.tmp 17);(simp +decide only [qa2,hsz,ev_eq,ev_ne,a2,a3,a5]at p17);obtain⟨hc,hfn⟩:=rC116 hρ;clear hρ;go_simp;(first|done|(all_goals with_reducible first|rfl|(constructor <;> rfl))|(simp only [q2,qu,bne,Bool.not_true,Bool.not_false];done)|(simp [q2,qu,bne,Bool.not_true,Bool.not_false];done)|((try simp only [q2,qu,bne,Bool.not_true,Bool.not_false]);done)))
    (with_reducible refine qa1 (v:=.bool false) rfl (by with_unfolding_all rfl) (fun ρ hρ W hW=>?_) ?_);skip
    focus(clear hW;have p18:=hρ (.tmp 18);(simp +decide only [qa2,hsz,ev_eq,ev_ne,a2,a3,a5]at p18);obtain⟨hc,hfn⟩:=rC116 hρ;clear hρ;go_simp;(first|done|(all_goals with_reducible first|rfl|(constructor <;> rfl))|(simp only [q2,qu,bne,Bool.not_true,Bool.not_false];done)|(simp [q2,qu,bne,Bool.not_true,Bool.not_false];done)|((try simp only [q2,qu,bne,Bool.not_true,Bool.not_false]);done)))
    (with_reducible refine qab (v:=?_) (t:=19) rfl rfl (by with_unfolding_all rfl) ?_ (fun ρ hρ W hW=>?_) ?_);(rotate_left 1)
    focus(simp +decide only [qa2,hsz,ev_eq,ev_ne,a2,a3,a5])
    focus(clear hW;have p3:=hρ (.tmp 3);(simp +decide only [qa2,hsz,ev_eq,ev_ne,a2,a3,a5]at p3);obtain⟨hc,hfn⟩:=rC116 hρ;clear hρ;go_simp;(all_goals with_reducible first|rfl|(constructor <;> rfl)))
    (with_reducible refine qab (v:=?_) (t:=19) rfl rfl (by with_unfolding_all rfl) ?_ (fun ρ hρ W hW=>?_) ?_);(rotate_left 1)
    focus(simp +decide only [qa2,hsz,ev_eq,ev_ne,a2,a3,a5])
    focus(have hS:=KS.out _ hW;clear hW;have p20:=hρ (.tmp 20);(simp +decide only [qa2,hsz,ev_eq,ev_ne,a2,a3,a5]at p20);obtain⟨hc,hfn⟩:=rC116 hρ;clear hρ;go_simp;(all_goals with_reducible first|rfl|(constructor <;> rfl)))
    (with_reducible refine qab (v:=.bool true) (t:=19) rfl rfl (by with_unfolding_all rfl) ?_ (fun ρ hρ W hW=>?_) ?_);skip
    focus(simp +decide only [qa2,hsz,ev_eq,ev_ne,a2,a3,a5])
    focus(clear hW;have p21:=hρ (.tmp 21);(simp +decide only [qa2,hsz,ev_eq,ev_ne,a2,a3,a5]at p21);obtain⟨hc,hfn⟩:=rC116 hρ;clear hρ;go_simp;(first|done|(all_goals with_reducible first|rfl|(constructor <;> rfl))|(simp only [q2,qu,bne,Bool.not_true,Bool.not_false];done)|(simp [q2,qu,bne,Bool.not_true,Bool.not_false];done)|((try simp only [q2,qu,bne,Bool.not_true,Bool.not_false]);done)))
    (with_reducible refine qa1 (v:=.bool true) rfl (by with_unfolding_all rfl) (fun ρ hρ W hW=>?_) ?_);skip
    focus(clear hW;have p19:=hρ (.tmp 19);have p22:=hρ (.tmp 22);(simp +decide only [qa2,hsz,ev_eq,ev_ne,a2,a3,a5]at p19 p22);obtain⟨hc,hfn⟩:=rC116 hρ;clear hρ;go_simp;(first|done|(all_goals with_reducible first|rfl|(constructor <;> rfl))|(simp only [q2,qu,bne,Bool.not_true,Bool.not_false];done)|(simp [q2,qu,bne,Bool.not_true,Bool.not_false];done)|((try simp only [q2,qu,bne,Bool.not_true,Bool.not_false]);done)))
    with_reducible refine qcb (fun fr1 hfr1=>?_)
    have b1_3:=congrArg (fun x=>Act.eval x (.tmp 3)) hfr1;(simp +decide only [qa2,hsz,ev_eq,ev_ne,a2,a3,a5]at b1_3);have b1_5:=congrArg (fun x=>Act.eval x (.tmp 5)) hfr1;(simp +decide only [qa2,hsz,ev_eq,ev_ne,a2,a3,a5]at b1_5);have b1_23:=congrArg (fun x=>Act.eval x (.tmp 23)) hfr1;(simp +decide only [qa2,hsz,ev_eq,ev_ne,a2,a3,a5]at b1_23);have hsz1:=congrArg (fun x=>x.tmps.size) hfr1;(simp only [qa2,hsz]at hsz1);clear a2 a3 a5 hsz
    (with_reducible refine qa1 (v:=.bool true) rfl (by with_unfolding_all rfl) (fun ρ hρ W hW=>?_) ?_);skip
    focus(clear hW;have p23:=hρ (.tmp 23);(simp +decide only [qa2,hsz1,ev_eq,ev_ne,b1_3,b1_5,b1_23]at p23);obtain⟨hc,hfn⟩:=rC116 hρ;clear hρ;go_simp;(first|done|(all_goals with_reducible first|rfl|(constructor <;> rfl))|(simp only [q2,qu,bne,Bool.not_true,Bool.not_false];done)|(simp [q2,qu,bne,Bool.not_true,Bool.not_false];done)|((try simp only [q2,qu,bne,Bool.not_true,Bool.not_false]);done)))
    with_reducible refine qag (c:=true) (t:=24) rfl rfl (by with_unfolding_all rfl) ?_ rfl ?_
    focus(simp +decide only [qa2,hsz1,ev_eq,ev_ne,b1_3,b1_5,b1_23])
    with_reducible refine qag (c:=true) (t:=24) rfl rfl (by with_unfolding_all rfl) ?_ rfl ?_
    focus(simp +decide only [qa2,hsz1,ev_eq,ev_ne,b1_3,b1_5,b1_23])
    with_reducible refine qag (c:=true) (t:=24) rfl rfl (by with_unfolding_all rfl) ?_ rfl ?_
    focus(simp +decide only [qa2,hsz1,ev_eq,ev_ne,b1_3,b1_5,b1_23])
    with_reducible refine qag (c:=true) (t:=24) rfl rfl (by with_unfolding_all rfl) ?_ rfl ?_
    focus(simp +decide only [qa2,hsz1,ev_eq,ev_ne,b1_3,b1_5,b1_23])
    with_reducible refine qci (c:=true) (t:=24) rfl rfl (by with_unfolding_all rfl) ?_ rfl ?_ ?_ ?_
    focus(simp +decide only [qa2,hsz1,ev_eq,ev_ne,b1_3,b1_5,b1_23])
    focus(with_reducible repeat first|assumption|exact Bel.refl _|refine Bel.drew ?_|refine Bel.drewN ?_ _|refine Bel.alloc ?_ _)
    rotate_left 1
    focus exact qap
    with_reducible refine qag (c:=true) (t:=24) rfl rfl (by with_unfolding_all rfl) ?_ rfl ?_
    focus(simp +decide only [qa2,hsz1,ev_eq,ev_ne,b1_3,b1_5,b1_23])
    (with_reducible refine qa1 (v:=?_) rfl (by with_unfolding_all rfl) (fun ρ hρ W hW=>?_) ?_);(rotate_left 1)
    focus(clear hW;have p24:=hρ (.tmp 24);have p30:=hρ (.tmp 30);(simp +decide only [qa2,hsz1,ev_eq,ev_ne,b1_3,b1_5,b1_23]at p24 p30);obtain⟨hc,hfn⟩:=rC116 hρ;clear hρ;go_simp;(all_goals with_reducible first|rfl|(constructor <;> rfl)))
    with_reducible refine qcb (fun fr2 hfr2=>?_)
    have b2_5:=congrArg (fun x=>Act.eval x (.tmp 5)) hfr2;(simp +decide only [qa2,hsz1,ev_eq,ev_ne,b1_3,b1_5,b1_23]at b2_5);have b2_31:=congrArg (fun x=>Act.eval x (.tmp 31)) hfr2;(simp +decide only [qa2,hsz1,ev_eq,ev_ne,b1_3,b1_5,b1_23]at b2_31);have hsz2:=congrArg (fun x=>x.tmps.size) hfr2;(simp only [qa2,hsz1]at hsz2);clear b1_3 b1_5 b1_23 hsz1
    (with_reducible refine qa1 (v:=.bool true) rfl (by with_unfolding_all rfl) (fun ρ hρ W hW=>?_) ?_);skip
    focus(clear hW;have p31:=hρ (.tmp 31);(simp +decide only [qa2,hsz2,ev_eq,ev_ne,b2_5,b2_31]at p31);obtain⟨hc,hfn⟩:=rC116 hρ;clear hρ;go_simp;(first|done|(all_goals with_reducible first|rfl|(constructor <;> rfl))|(simp only [q2,qu,bne,Bool.not_true,Bool.not_false];done)|(simp [q2,qu,bne,Bool.not_true,Bool.not_false];done)|((try simp only [q2,qu,bne,Bool.not_true,Bool.not_false]);done)))
    with_reducible refine qag (c:=true) (t:=32) rfl rfl (by with_unfolding_all rfl) ?_ rfl ?_
    focus(simp +decide only [qa2,hsz2,ev_eq,ev_ne,b2_5,b2_31])
    with_reducible refine qag (c:=true) (t:=32) rfl rfl (by with_unfolding_all rfl) ?_ rfl ?_
    focus(simp +decide only [qa2,hsz2,ev_eq,ev_ne,b2_5,b2_31])
    with_reducible refine qci (c:=true) (t:=32) rfl rfl (by with_unfolding_all rfl) ?_ rfl ?_ ?_ ?_
    focus(simp +decide only [qa2,hsz2,ev_eq,ev_ne,b2_5,b2_31])
    focus(with_reducible repeat first|assumption|exact Bel.refl _|refine Bel.drew ?_|refine Bel.drewN ?_ _|refine Bel.alloc ?_ _)
    rotate_left 1
    focus exact qap
    refine qao ?_
    (simp only [List.drop_succ_cons,List.drop_zero])
    subst hfr2 hfr1 ha
    (simp only [qav,set_s,set_z])
    go_wp2
    all_goals go_ret
    all_goals exact⟨qa7 HR.out,(Bel.of kwF kd.out).out⟩
  ·have q2:(fca != 2)=true:=by rw [bne_iff_ne];exact h2
   have HR:=Lib.hid (show false=R by rw [HV2.out,if_pos (.inl h2)]);clear HV2 h2 hcf hcs;obtain⟨wd,hwd⟩ : ∃wd,wd=wF.drew:=⟨_,rfl⟩;have kd:Bel wF wd:=by rw [hwd];exact(Bel.refl _).drew
   have HWD:=Lib.hid hwd;clear hwd c0 c1 c2 x2 x4 x5 x6 y0 y1 y2 y3 y4 y5 y6
   refine qac (fun W=>Bel wF W) (.take 0 (.take 1 (.take 2 (.take 3 (.take 4 (.take 5 (.take 6 (.take 7 (.take 8 (.take 9 (.take 10 (.take 11 (.take 12 (.alt 13 (.take 14 (.take 15 (.take 16 (.take 17 (.take 18 (.alt 19 .done .no)))))) .no)))))))))))))) 20 (by kernel_rfl) (by kernel_rfl) HWD.out kd (fun a ha=>?_)
   (simp only [pickT,List.getD_cons_zero,List.getD_cons_succ])
   have hsz:a.tmps.size=75:=(by rw [ha];kernel_rfl);have a2:a.eval (.tmp 2)=.pointer (some ⟨w.heap.size,0,none⟩):=(by rw [ha];kernel_rfl);have a3:a.eval (.tmp 3)=.pointer (some ⟨w.heap.size+1,0,none⟩):=(by rw [ha];kernel_rfl);have a5:a.eval (.tmp 5)=.pointer (some ⟨w.heap.size+1+1,0,none⟩):=(by rw [ha];kernel_rfl)
   (with_reducible refine qa1 (v:=?_) rfl (by with_unfolding_all rfl) (fun ρ hρ W hW=>?_) ?_);(rotate_left 1)
   focus(clear hW;have p3:=hρ (.tmp 3);(simp +decide only [qa2,hsz,ev_eq,ev_ne,a2,a3,a5]at p3);obtain⟨hc,hfn⟩:=rC116 hρ;clear hρ;go_simp;(all_goals with_reducible first|rfl|(constructor <;> rfl)))
   (with_reducible refine qa1 (v:=?_) rfl (by with_unfolding_all rfl) (fun ρ hρ W hW=>?_) ?_);(rotate_left 1)
   focus(have hS:=KS.out _ hW;clear hW;have p16:=hρ (.tmp 16);(simp +decide only [qa2,hsz,ev_eq,ev_ne,a2,a3,a5]at p16);obtain⟨hc,hfn⟩:=rC116 hρ;clear hρ;go_simp;(all_goals with_reducible first|rfl|(constructor <;> rfl)))
   (with_reducible refine qa1 (v:=.bool true) rfl (by with_unfolding_all rfl) (fun ρ hρ W hW=>?_) ?_);skip
   focus(clear hW;have p17:=hρ (.tmp 17);(simp +decide only [qa2,hsz,ev_eq,ev_ne,a2,a3,a5]at p17);obtain⟨hc,hfn⟩:=rC116 hρ;clear hρ;go_simp;(first|done|(all_goals with_reducible first|rfl|(constructor <;> rfl))|(simp only [q2,qu,bne,Bool.not_true,Bool.not_false];done)|(simp [q2,qu,bne,Bool.not_true,Bool.not_false];done)|((try simp only [q2,qu,bne,Bool.not_true,Bool.not_false]);done)))
   (with_reducible refine qa1 (v:=.bool true) rfl (by with_unfolding_all rfl) (fun ρ hρ W hW=>?_) ?_);skip
   focus(clear hW;have p18:=hρ (.tmp 18);(simp +decide only [qa2,hsz,ev_eq,ev_ne,a2,a3,a5]at p18);obtain⟨hc,hfn⟩:=rC116 hρ;clear hρ;go_simp;(first|done|(all_goals with_reducible first|rfl|(constructor <;> rfl))|(simp only [q2,qu,bne,Bool.not_true,Bool.not_false];done)|(simp [q2,qu,bne,Bool.not_true,Bool.not_false];done)|((try simp only [q2,qu,bne,Bool.not_true,Bool.not_false]);done)))
   with_reducible refine qag (c:=true) (t:=19) rfl rfl (by with_unfolding_all rfl) ?_ rfl ?_
   focus(simp +decide only [qa2,hsz,ev_eq,ev_ne,a2,a3,a5])
   with_reducible refine qag (c:=true) (t:=19) rfl rfl (by with_unfolding_all rfl) ?_ rfl ?_
   focus(simp +decide only [qa2,hsz,ev_eq,ev_ne,a2,a3,a5])
   with_reducible refine qag (c:=true) (t:=19) rfl rfl (by with_unfolding_all rfl) ?_ rfl ?_
   focus(simp +decide only [qa2,hsz,ev_eq,ev_ne,a2,a3,a5])
   (with_reducible refine qa1 (v:=?_) rfl (by with_unfolding_all rfl) (fun ρ hρ W hW=>?_) ?_);(rotate_left 1)
   focus(clear hW;have p19:=hρ (.tmp 19);have p22:=hρ (.tmp 22);(simp +decide only [qa2,hsz,ev_eq,ev_ne,a2,a3,a5]at p19 p22);obtain⟨hc,hfn⟩:=rC116 hρ;clear hρ;go_simp;(all_goals with_reducible first|rfl|(constructor <;> rfl)))
   with_reducible refine qcb (fun fr1 hfr1=>?_)
   have b1_3:=congrArg (fun x=>Act.eval x (.tmp 3)) hfr1;(simp +decide only [qa2,hsz,ev_eq,ev_ne,a2,a3,a5]at b1_3);have b1_5:=congrArg (fun x=>Act.eval x (.tmp 5)) hfr1;(simp +decide only [qa2,hsz,ev_eq,ev_ne,a2,a3,a5]at b1_5);have b1_23:=congrArg (fun x=>Act.eval x (.tmp 23)) hfr1;(simp +decide only [qa2,hsz,ev_eq,ev_ne,a2,a3,a5]at b1_23);have hsz1:=congrArg (fun x=>x.tmps.size) hfr1;(simp only [qa2,hsz]at hsz1);clear a2 a3 a5 hsz
   (with_reducible refine qa1 (v:=.bool true) rfl (by with_unfolding_all rfl) (fun ρ hρ W hW=>?_) ?_);skip
   focus(clear hW;have p23:=hρ (.tmp 23);(simp +decide only [qa2,hsz1,ev_eq,ev_ne,b1_3,b1_5,b1_23]at p23);obtain⟨hc,hfn⟩:=rC116 hρ;clear hρ;go_simp;(first|done|(all_goals with_reducible first|rfl|(constructor <;> rfl))|(simp only [q2,qu,bne,Bool.not_true,Bool.not_false];done)|(simp [q2,qu,bne,Bool.not_true,Bool.not_false];done)|((try simp only [q2,qu,bne,Bool.not_true,Bool.not_false]);done)))
   with_reducible refine qag (c:=true) (t:=24) rfl rfl (by with_unfolding_all rfl) ?_ rfl ?_
   focus(simp +decide only [qa2,hsz1,ev_eq,ev_ne,b1_3,b1_5,b1_23])
   with_reducible refine qag (c:=true) (t:=24) rfl rfl (by with_unfolding_all rfl) ?_ rfl ?_
   focus(simp +decide only [qa2,hsz1,ev_eq,ev_ne,b1_3,b1_5,b1_23])
   with_reducible refine qag (c:=true) (t:=24) rfl rfl (by with_unfolding_all rfl) ?_ rfl ?_
   focus(simp +decide only [qa2,hsz1,ev_eq,ev_ne,b1_3,b1_5,b1_23])
   with_reducible refine qag (c:=true) (t:=24) rfl rfl (by with_unfolding_all rfl) ?_ rfl ?_
   focus(simp +decide only [qa2,hsz1,ev_eq,ev_ne,b1_3,b1_5,b1_23])
   with_reducible refine qci (c:=true) (t:=24) rfl rfl (by with_unfolding_all rfl) ?_ rfl ?_ ?_ ?_
   focus(simp +decide only [qa2,hsz1,ev_eq,ev_ne,b1_3,b1_5,b1_23])
   focus(with_reducible repeat first|assumption|exact Bel.refl _|refine Bel.drew ?_|refine Bel.drewN ?_ _|refine Bel.alloc ?_ _)
   rotate_left 1
   focus exact qap
   with_reducible refine qag (c:=true) (t:=24) rfl rfl (by with_unfolding_all rfl) ?_ rfl ?_
   focus(simp +decide only [qa2,hsz1,ev_eq,ev_ne,b1_3,b1_5,b1_23])
   (with_reducible refine qa1 (v:=?_) rfl (by with_unfolding_all rfl) (fun ρ hρ W hW=>?_) ?_);(rotate_left 1)
   focus(clear hW;have p24:=hρ (.tmp 24);have p30:=hρ (.tmp 30);(simp +decide only [qa2,hsz1,ev_eq,ev_ne,b1_3,b1_5,b1_23]at p24 p30);obtain⟨hc,hfn⟩:=rC116 hρ;clear hρ;go_simp;(all_goals with_reducible first|rfl|(constructor <;> rfl)))
   with_reducible refine qcb (fun fr2 hfr2=>?_)
   have b2_5:=congrArg (fun x=>Act.eval x (.tmp 5)) hfr2;(simp +decide only [qa2,hsz1,ev_eq,ev_ne,b1_3,b1_5,b1_23]at b2_5);have b2_31:=congrArg (fun x=>Act.eval x (.tmp 31)) hfr2;(simp +decide only [qa2,hsz1,ev_eq,ev_ne,b1_3,b1_5,b1_23]at b2_31);have hsz2:=congrArg (fun x=>x.tmps.size) hfr2;(simp only [qa2,hsz1]at hsz2);clear b1_3 b1_5 b1_23 hsz1
   (with_reducible refine qa1 (v:=.bool true) rfl (by with_unfolding_all rfl) (fun ρ hρ W hW=>?_) ?_);skip
   focus(clear hW;have p31:=hρ (.tmp 31);(simp +decide only [qa2,hsz2,ev_eq,ev_ne,b2_5,b2_31]at p31);obtain⟨hc,hfn⟩:=rC116 hρ;clear hρ;go_simp;(first|done|(all_goals with_reducible first|rfl|(constructor <;> rfl))|(simp only [q2,qu,bne,Bool.not_true,Bool.not_false];done)|(simp [q2,qu,bne,Bool.not_true,Bool.not_false];done)|((try simp only [q2,qu,bne,Bool.not_true,Bool.not_false]);done)))
   with_reducible refine qag (c:=true) (t:=32) rfl rfl (by with_unfolding_all rfl) ?_ rfl ?_
   focus(simp +decide only [qa2,hsz2,ev_eq,ev_ne,b2_5,b2_31])
   with_reducible refine qag (c:=true) (t:=32) rfl rfl (by with_unfolding_all rfl) ?_ rfl ?_
   focus(simp +decide only [qa2,hsz2,ev_eq,ev_ne,b2_5,b2_31])
   with_reducible refine qci (c:=true) (t:=32) rfl rfl (by with_unfolding_all rfl) ?_ rfl ?_ ?_ ?_
   focus(simp +decide only [qa2,hsz2,ev_eq,ev_ne,b2_5,b2_31])
   focus(with_reducible repeat first|assumption|exact Bel.refl _|refine Bel.drew ?_|refine Bel.drewN ?_ _|refine Bel.alloc ?_ _)
   rotate_left 1
   focus exact qap
   refine qao ?_
   (simp only [List.drop_succ_cons,List.drop_zero])
   subst hfr2 hfr1 ha
   (simp only [qav,set_s,set_z])
   go_wp2
   all_goals go_ret
   all_goals exact⟨qa7 HR.out,(Bel.of kwF kd.out).out⟩
end Go.Proofs.YtaaneecceiefoaaGreatDoor
