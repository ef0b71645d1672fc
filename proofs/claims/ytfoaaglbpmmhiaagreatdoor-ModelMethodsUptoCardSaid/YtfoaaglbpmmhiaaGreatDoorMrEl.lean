import Derived.Test.YtfoaaglbpmmhiaaGreatDoorKitW
import Derived.Test.YtfoaaglbpmmhiaaGreatDoorKitU
set_option maxRecDepth 100000
set_option maxHeartbeats 4000000
set_option linter.unusedVariables false
set_option linter.unusedSimpArgs false
namespace Go.Proofs.YtfoaaglbpmmhiaaGreatDoor
open Go.RowKit Ck Md
def FoundZ (w:World) (Z:PDecl) (e:Ending) (w':World):Prop := ∃ (p:Option Addr) (c:Nat) (b:Bool),e=.returned (.tuple #[.agg #[.int .i64 Z.kind,.string (S Z.name),.string (S Z.frm),.slice p Z.mems.length c],.bool b])/\Mems w' (.slice p Z.mems.length c) Z.mems/\Bel w w'
theorem found_of {w w':World} {e:Ending} {D:List PDecl} {f:Str} (h:FindOut w (ofD D f) e w'):FoundZ w (ofZ D f) e w':=by
 obtain ⟨p,c,h1,h2,h3⟩:=h;exact ⟨p,c,_,h1,h2,h3⟩
theorem rd_CalledV (v:Value) (l:List PDecl) (nm inn out:Str) (SH:Int) (r5:Option Addr) (n5 d5:Nat) (w:World) (hv:Decls w v l) (hi:(ofZ l inn).name.length<=400) (ho:(ofZ l out).name.length<=400) :
  Calls Tryz.prog 27 #[v,.agg #[.string (S nm),.string (S inn),.string (S out),.int .i64 SH,.slice r5 n5 d5]] w fun e w' => e=.returned (.string (S (calledT SH (ofZ l inn).name (ofZ l out).name)))/\Bel w w':=by
 have kw:=Lib.hid (show Bel w (w.alloc (.cells #[.string (S nm),.string (S inn),.string (S out),.int .i64 SH,.slice r5 n5 d5] 71)) from (Bel.refl w).alloc _);have CI:=Lib.hid (fun W (k:Bel w W) => (rd_Of v l inn W (hv.bel VDecl.stays k)).mono (fun e w' h => found_of h));have CO:=Lib.hid (fun W (k:Bel w W) => (rd_Of v l out W (hv.bel VDecl.stays k)).mono (fun e w' h => found_of h));have HP:=Lib.hid (fun (W:World) (k:Bel (w.alloc (.cells #[.string (S nm),.string (S inn),.string (S out),.int .i64 SH,.slice r5 n5 d5] 71)) W) => show W.cell? ⟨w.heap.size,2,none⟩=some (.string (S out))/\W.cell? ⟨w.heap.size,3,none⟩=some (.int .i64 SH) from ⟨k.some (by rw [World.cell?_alloc_at _ _ _ _ rfl];rfl),k.some (by rw [World.cell?_alloc_at _ _ _ _ rfl];rfl)⟩);have HV:=Lib.hid (show calledT SH (ofZ l inn).name (ofZ l out).name=(if SH=3 ∨ SH=4 then streamW ++ (ofZ l inn).name else (ofZ l inn).name) ++ [45,62] ++ (if SH=2 ∨ SH=4 then streamW ++ (ofZ l out).name else (ofZ l out).name) from rfl);obtain ⟨q,c,rfl,_⟩:=hv;generalize calledT SH (ofZ l inn).name (ofZ l out).name=T at HV ⊢;generalize ofZ l inn=ZI at CI HV hi;generalize ofZ l out=ZO at CO HV ho;have zi:(S ZI.name).size=ZI.name.length:=S_size _;have zo:(S ZO.name).size=ZO.name.length:=S_size _
 go_enter Tryz.func27,Tryz.ntmps27
 go_upto_region 2 with (go_at_call 32;(with_reducible refine (CI.out _ kw.out).mono ?_);rintro e w1 ⟨p1,c1,b1,rfl,m1,k1⟩)
 have H1:=Lib.hid (show Bel (w.alloc (.cells #[.string (S nm),.string (S inn),.string (S out),.int .i64 SH,.slice r5 n5 d5] 71)) (w1.alloc (.cells #[.int .i64 ZI.kind,.string (S ZI.name),.string (S ZI.frm),.slice p1 ZI.mems.length c1] 47)) from (show Bel _ w1 from k1).alloc _);have hb1:(w1.alloc (.cells #[.int .i64 ZI.kind,.string (S ZI.name),.string (S ZI.frm),.slice p1 ZI.mems.length c1] 47)).heap[w1.heap.size]? = some (.cells #[.int .i64 ZI.kind,.string (S ZI.name),.string (S ZI.frm),.slice p1 ZI.mems.length c1] 47 (0,0)):=heap_alloc_new _ _;clear k1 m1 CI;generalize w1.alloc (.cells #[.int .i64 ZI.kind,.string (S ZI.name),.string (S ZI.frm),.slice p1 ZI.mems.length c1] 47)=V1 at hb1 H1 ⊢;generalize w1.heap.size=g1 at hb1 ⊢;obtain ⟨y2,y3⟩:=HP.out _ H1.out;have KV1:=Lib.hid (show Bel w V1 from (Bel.of kw.out H1.out.out).out)
 go_upto_region 3 with (go_at_call 32;(with_reducible refine (CO.out _ KV1.out).mono ?_);rintro e w2 ⟨p2,c2,b2,rfl,m2,k2⟩)
 have H2:=Lib.hid (show Bel V1 (w2.alloc (.cells #[.int .i64 ZO.kind,.string (S ZO.name),.string (S ZO.frm),.slice p2 ZO.mems.length c2] 47)) from (show Bel _ w2 from k2).alloc _);have hb2:(w2.alloc (.cells #[.int .i64 ZO.kind,.string (S ZO.name),.string (S ZO.frm),.slice p2 ZO.mems.length c2] 47)).heap[w2.heap.size]? = some (.cells #[.int .i64 ZO.kind,.string (S ZO.name),.string (S ZO.frm),.slice p2 ZO.mems.length c2] 47 (0,0)):=heap_alloc_new _ _;clear k2 m2 CO y2 y3;generalize w2.alloc (.cells #[.int .i64 ZO.kind,.string (S ZO.name),.string (S ZO.frm),.slice p2 ZO.mems.length c2] 47)=V2 at hb2 H2 ⊢;generalize w2.heap.size=g2 at hb2 ⊢;have KV2:=Lib.hid (show Bel w V2 from (Bel.of KV1.out H2.out.out).out);have z1:V2.cell? ⟨g1,1,none⟩=some (.string (S ZI.name)):=H2.out.some (Lib.cell_of_heap hb1 1);have z2:V2.cell? ⟨g2,1,none⟩=some (.string (S ZO.name)):=Lib.cell_of_heap hb2 1;obtain ⟨y2,y3⟩:=HP.out _ (Bel.of H1.out H2.out.out);clear hb1 hb2 H1 H2 KV1 HP kw;by_cases h2:SH=2
 ·subst h2
  have hT:=Lib.hid (show T=(ZI.name) ++ [45,62] ++ (streamW ++ ZO.name) by rw [HV.out];rfl);clear HV
  go_wp2
  go_ret
  exact ⟨ret_str (by rw [hT.out];exact S_of (by simp [ByteArray.data_append,S_list,streamW])),KV2.out⟩
 by_cases h3:SH=3
 ·subst h3
  have hT:=Lib.hid (show T=(streamW ++ ZI.name) ++ [45,62] ++ (ZO.name) by rw [HV.out];rfl);clear HV
  go_wp2
  go_ret
  exact ⟨ret_str (by rw [hT.out];exact S_of (by simp [ByteArray.data_append,S_list,streamW])),KV2.out⟩
 by_cases h4:SH=4
 ·subst h4
  have hT:=Lib.hid (show T=(streamW ++ ZI.name) ++ [45,62] ++ (streamW ++ ZO.name) by rw [HV.out];rfl);clear HV
  go_wp2
  go_ret
  exact ⟨ret_str (by rw [hT.out];exact S_of (by simp [ByteArray.data_append,S_list,streamW])),KV2.out⟩
 have e2:=ine2 h2;have e3:=ine2 h3;have e4:=ine2 h4;have hT:=Lib.hid (show T=(ZI.name) ++ [45,62] ++ (ZO.name) by rw [HV.out,if_neg (fun h => h.elim h3 h4),if_neg (fun h => h.elim h2 h4)]);clear HV
 go_wp2
 go_ret
 exact ⟨ret_str (by rw [hT.out];exact S_of (by simp [ByteArray.data_append,S_list,streamW])),KV2.out⟩
theorem rd_Called (v:Value) (l:List PDecl) (x:PMeth) (r5:Option Addr) (n5 d5:Nat) (w:World) (hv:Decls w v l) (hi:(ofZ l x.inn).name.length<=400) (ho:(ofZ l x.out).name.length<=400) :
  Calls Tryz.prog 27 #[v,.agg #[.string (S x.name),.string (S x.inn),.string (S x.out),.int .i64 x.shape,.slice r5 n5 d5]] w fun e w' => e=.returned (.string (S (calledR l x)))/\Bel w w':=rd_CalledV v l x.name x.inn x.out x.shape r5 n5 d5 w hv hi ho
end Go.Proofs.YtfoaaglbpmmhiaaGreatDoor
