/- The reference's Small walked. Printed by gensmall.py. -/
import Derived.Test.YtigfjnbgchndkaaGreatDoorKitE
import Derived.Test.YtigfjnbgchndkaaGreatDoorKitA
import Derived.Deep.DeepCutAuto
import Derived.Deep.CutBlock
import Derived.IntWalk
namespace Go.Proofs.YtigfjnbgchndkaaGreatDoor
open Go.RowKit Ck
set_option linter.unusedVariables false
set_option linter.unusedSimpArgs false

theorem rhoCfCkSmall {a : Act} {ρ : Operand → Value} (h : ∀ x, ρ x = a.eval x) : (∀ c, ρ (.const c) = c) ∧ ∀ f, ρ (.func f) = .func (.func f) #[] #[] := ⟨fun c => h (.const c), fun f => h (.func f)⟩
def SmallPost (s : PSchema) (w : World) (e : Ending) (w' : World) : Prop := ∃ b, e = .returned (.bool b) ∧ (b = true → SmallP s) ∧ Below w.heap.size w w'
theorem texts_fresh1 {W W' : World} (x : Str) (k : Bel (W.alloc (.cells #[.string (S x)] 9)) W') : Texts W' (.slice (some ⟨W.heap.size, 0, none⟩) 1 1) [x] := by
 have hz := k.size
 simp only [World.size_alloc] at hz
 refine ⟨_, _, rfl, by simp, by simp, fun i y hy => ⟨W.heap.size, 0, rfl, by omega, [.string (S y)], ?_, rfl⟩⟩
 intro j v hv
 have hi : i = 0 := by
  have := (List.getElem?_eq_some_iff.1 hy).1
  simpa using this
 subst hi
 simp at hy
 subst hy
 have hj : j = 0 := by
  have := (List.getElem?_eq_some_iff.1 hv).1
  simpa using this
 subst hj
 simp at hv
 subst hv
 exact k.some (World.cell?_alloc_at _ _ _ _ rfl)
theorem texts_fresh3 {W W' : World} (x y z : Str) (k : Bel (W.alloc (.cells #[.string (S x), .string (S y), .string (S z)] 9)) W') : Texts W' (.slice (some ⟨W.heap.size, 0, none⟩) 3 3) [x, y, z] := by
 have hz := k.size
 simp only [World.size_alloc] at hz
 refine ⟨_, _, rfl, by simp, by simp, fun i u hu => ⟨W.heap.size, 0, rfl, by omega, [.string (S u)], ?_, rfl⟩⟩
 intro j v hv
 have hj : j = 0 := by
  have := (List.getElem?_eq_some_iff.1 hv).1
  simpa using this
 subst hj
 simp at hv
 subst hv
 have hi : i < 3 := by
  have := (List.getElem?_eq_some_iff.1 hu).1
  simpa using this
 refine k.some ((World.cell?_alloc_at _ _ _ _ rfl).trans ?_)
 match i, hi, hu with
 | 0, _, hu => simp at hu; subst hu; rfl
 | 1, _, hu => simp at hu; subst hu; rfl
 | 2, _, hu => simp at hu; subst hu; rfl
def Inv {α : Type} (R : Prop) (P : α → Prop) (l : List α) (k : Nat) (L : Int) : Prop := L ≤ 400 ∧ -1000000000000000000 ≤ L ∧ (0 ≤ L → R ∧ ∀ x ∈ l.take k, P x)
def InvK {α : Type} (P : α → Prop) (l : List α) (k : Nat) (L : Int) : Prop := L ≤ 400 ∧ -1000000000000000000 ≤ L ∧ (0 ≤ L → L + k ≤ 400 ∧ ∀ x ∈ l.take k, P x)
theorem take_more {α : Type} {P : α → Prop} {l : List α} {k : Nat} {x : α} (hx : l[k]? = some x) (h : ∀ y ∈ l.take k, P y) (hp : P x) : ∀ y ∈ l.take (k + 1), P y := by
 intro y hy
 rw [List.take_add_one, hx] at hy
 rcases List.mem_append.1 hy with hy | hy
 ·exact h y hy
 ·simp at hy
  subst hy
  exact hp
def findBlock (n : Nat) : Code → Option Code
 | .block id c => if id = n then some (.block id c) else findBlock n c
 | .seq a b => match findBlock n a with
  | some c => some c
  | none => findBlock n b
 | .loop c => findBlock n c
 | .scope c => findBlock n c
 | .cond _ a b => match findBlock n a with
  | some c => some c
  | none => findBlock n b
 | _ => none
noncomputable def smB (n : Nat) : Code := ((Tryz.f7.body.bind (findBlock n)).getD .skip)
set_option maxHeartbeats 4000000 in
set_option maxRecDepth 100000 in
theorem sm_loop0 (sq1 sq2 sq3 : Option Addr) (sc1 sc2 sc3 : Nat) (s : PSchema) (w wc : World) (LL : Int) (HM1 : Hid (Sv 5 VMsg w (.slice sq1 s.msgs.length sc1) s.msgs)) (hb : (s.msgs.length : Int) ≤ 140737488355328)
  (KB : Hid (∀ W', Bel (w.alloc (.cells #[.slice sq1 s.msgs.length sc1, .slice sq2 s.enums.length sc2, .slice sq3 s.svcs.length sc3] 26)) W' → W'.cell? ⟨w.heap.size, 0, none⟩ = some (.slice sq1 s.msgs.length sc1) ∧ W'.cell? ⟨w.heap.size, 1, none⟩ = some (.slice sq2 s.enums.length sc2) ∧ W'.cell? ⟨w.heap.size, 2, none⟩ = some (.slice sq3 s.svcs.length sc3))) (kb : Bel w (w.alloc (.cells #[.slice sq1 s.msgs.length sc1, .slice sq2 s.enums.length sc2, .slice sq3 s.svcs.length sc3] 26))) (kc : Bel (w.alloc (.cells #[.slice sq1 s.msgs.length sc1, .slice sq2 s.enums.length sc2, .slice sq3 s.svcs.length sc3] 26)) wc) (hLL1 : LL ≤ 400) (hLL2 : -1000000000000000000 ≤ LL) (hR : 0 ≤ LL → True) (K' : Act → World → Prop) (R : Ending → World → Prop)
  (g0 g2 g5 g6 g7 g8 g9 g10 g11 g12 g13 g14 g15 g16 g17 g18 g19 g20 g21 g22 g23 g24 g25 g26 g27 g28 g29 g30 g31 g32 g33 g34 g35 g36 g37 g38 g39 g40 g41 g42 g43 g44 g45 g46 g47 g48 g49 g50 g51 g52 g53 g54 g55 g56 g57 g58 g59 g60 g61 g62 g63 g64 g65 g66 g67 g68 g69 g70 g71 g72 g73 g74 g75 g76 g77 g78 g79 g80 g81 g82 g83 g84 g85 g86 g87 g88 g89 g90 g91 g92 g93 g94 g95 g96 g97 g98 g99 g100 g101 g102 g103 g104 g105 g106 g107 g108 g109 g110 g111 g112 g113 g114 g115 g116 g117 g118 g119 g120 g121 g122 g123 g124 g125 g126 g127 g128 g129 g130 g131 g132 g133 g134 g135 g136 g137 g138 g139 g140 g141 g142 g143 g144 g145 g146 g147 g148 g149 g150 g151 g152 g153 g154 g155 g156 g157 g158 g159 g160 g161 g162 g163 g164 g165 g166 g167 g168 g169 g170 g171 g172 g173 g174 g175 g176 g177 g178 g179 g180 g181 g182 g183 g184 g185 g186 g187 g188 g189 g190 g191 g192 g193 g194 g195 g196 g197 g198 g199 g200 g201 g202 g203 g204 g205 g206 g207 g208 g209 g210 g211 g212 g213 g214 g215 g216 g217 g218 g219 g220 g221 g222 g223 g224 g225 g226 g227 g228 g229 g230 g231 g232 g233 g234 g235 g236 g237 g238 g239 g240 g241 g242 g243 g244 g245 g246 g247 g248 g249 g250 g251 g252 g253 g254 g255 g256 g257 : Value) (hM : ∀ (wx : World) (u3 u4 u5 u6 u7 u44 u45 u46 u47 u48 u49 u50 u51 u52 u53 u54 u55 u56 u57 u58 u59 u60 u61 u62 u63 u64 u65 u66 u67 u68 u69 u70 u71 u72 u73 u74 u75 u76 u77 u78 u79 u80 u81 u82 u83 u84 u85 u86 u87 u88 u89 u90 u91 u92 u93 u94 u95 u96 u97 u98 u99 u100 u101 u102 u103 u104 u105 u106 u107 u108 u109 u110 u111 u112 u113 u114 u115 u116 u117 u118 u119 u120 : Value), (∃ L : Int, u3 = .int .i64 L ∧ Bel (w.alloc (.cells #[.slice sq1 s.msgs.length sc1, .slice sq2 s.enums.length sc2, .slice sq3 s.svcs.length sc3] 26)) wx ∧ Hid (Inv (True) okMsg s.msgs s.msgs.length L)) → K' ⟨#[g0, .pointer (some ⟨w.heap.size, 0, none⟩), g2, u3, u4, u5, u6, u7, g8, g9, g10, g11, g12, g13, g14, g15, g16, g17, g18, g19, g20, g21, g22, g23, g24, g25, g26, g27, g28, g29, g30, g31, g32, g33, g34, g35, g36, g37, g38, g39, g40, g41, g42, g43, u44, u45, u46, u47, u48, u49, u50, u51, u52, u53, u54, u55, u56, u57, u58, u59, u60, u61, u62, u63, u64, u65, u66, u67, u68, u69, u70, u71, u72, u73, u74, u75, u76, u77, u78, u79, u80, u81, u82, u83, u84, u85, u86, u87, u88, u89, u90, u91, u92, u93, u94, u95, u96, u97, u98, u99, u100, u101, u102, u103, u104, u105, u106, u107, u108, u109, u110, u111, u112, u113, u114, u115, u116, u117, u118, u119, u120, g121, g122, g123, g124, g125, g126, g127, g128, g129, g130, g131, g132, g133, g134, g135, g136, g137, g138, g139, g140, g141, g142, g143, g144, g145, g146, g147, g148, g149, g150, g151, g152, g153, g154, g155, g156, g157, g158, g159, g160, g161, g162, g163, g164, g165, g166, g167, g168, g169, g170, g171, g172, g173, g174, g175, g176, g177, g178, g179, g180, g181, g182, g183, g184, g185, g186, g187, g188, g189, g190, g191, g192, g193, g194, g195, g196, g197, g198, g199, g200, g201, g202, g203, g204, g205, g206, g207, g208, g209, g210, g211, g212, g213, g214, g215, g216, g217, g218, g219, g220, g221, g222, g223, g224, g225, g226, g227, g228, g229, g230, g231, g232, g233, g234, g235, g236, g237, g238, g239, g240, g241, g242, g243, g244, g245, g246, g247, g248, g249, g250, g251, g252, g253, g254, g255, g256, g257], []⟩ wx) :
  Code.wp Tryz.prog (smB 0) (Exit.then K' (bodyPost Tryz.prog Tryz.f7 R)) ⟨#[g0, .pointer (some ⟨w.heap.size, 0, none⟩), g2, .int .i64 LL, .int .i64 0, g5, g6, g7, g8, g9, g10, g11, g12, g13, g14, g15, g16, g17, g18, g19, g20, g21, g22, g23, g24, g25, g26, g27, g28, g29, g30, g31, g32, g33, g34, g35, g36, g37, g38, g39, g40, g41, g42, g43, g44, g45, g46, g47, g48, g49, g50, g51, g52, g53, g54, g55, g56, g57, g58, g59, g60, g61, g62, g63, g64, g65, g66, g67, g68, g69, g70, g71, g72, g73, g74, g75, g76, g77, g78, g79, g80, g81, g82, g83, g84, g85, g86, g87, g88, g89, g90, g91, g92, g93, g94, g95, g96, g97, g98, g99, g100, g101, g102, g103, g104, g105, g106, g107, g108, g109, g110, g111, g112, g113, g114, g115, g116, g117, g118, g119, g120, g121, g122, g123, g124, g125, g126, g127, g128, g129, g130, g131, g132, g133, g134, g135, g136, g137, g138, g139, g140, g141, g142, g143, g144, g145, g146, g147, g148, g149, g150, g151, g152, g153, g154, g155, g156, g157, g158, g159, g160, g161, g162, g163, g164, g165, g166, g167, g168, g169, g170, g171, g172, g173, g174, g175, g176, g177, g178, g179, g180, g181, g182, g183, g184, g185, g186, g187, g188, g189, g190, g191, g192, g193, g194, g195, g196, g197, g198, g199, g200, g201, g202, g203, g204, g205, g206, g207, g208, g209, g210, g211, g212, g213, g214, g215, g216, g217, g218, g219, g220, g221, g222, g223, g224, g225, g226, g227, g228, g229, g230, g231, g232, g233, g234, g235, g236, g237, g238, g239, g240, g241, g242, g243, g244, g245, g246, g247, g248, g249, g250, g251, g252, g253, g254, g255, g256, g257], []⟩ wc := by
 conv => arg 2; whnf
 go_wp2
 go_loopw [3, 4] (fun l i wr => ∃ (k : Nat) (L : Int), k ≤ s.msgs.length ∧ i = .int .i64 k ∧ l = .int .i64 L ∧ Bel (w.alloc (.cells #[.slice sq1 s.msgs.length sc1, .slice sq2 s.enums.length sc2, .slice sq3 s.svcs.length sc3] 26)) wr ∧ Hid (Inv (True) okMsg s.msgs k L)) (fun _ i _ => s.msgs.length - (intOf i).toNat)
 case atStart => exact ⟨0, LL, by omega, rfl, rfl, kc, Lib.hid ⟨hLL1, hLL2, fun h => ⟨hR h, fun x hx => by simp at hx⟩⟩⟩
 case round =>
  clear hLL1 hLL2 hR kc
  obtain ⟨k, L, hk, rfl, rfl, kw, hinv⟩ := hrel
  obtain ⟨wm, hwm⟩ : ∃ wm, wm = wr := ⟨_, rfl⟩
  subst hwm
  have hL1 : L ≤ 400 := hinv.out.1
  have hL2 : -1000000000000000000 ≤ L := hinv.out.2.1
  obtain ⟨c0, c1, c2⟩ := KB.out _ kw
  by_cases hlt : k < s.msgs.length
  ·have hki : (k : Int) < (s.msgs.length : Int) := by omega
   by_cases hL : 0 ≤ L
   ·have hg := List.getElem?_eq_getElem hlt
    have hlist := HM1.out
    obtain ⟨qq, cq, hqe, _, _, hel⟩ := hlist
    cases hqe
    obtain ⟨b, off, hqq, hbs, cs, hce, hvs⟩ := hel k _ hg
    have HG := Lib.hid hg
    subst hqq
    obtain ⟨_, _, _, _, hvv, g1, g2, g3, g4⟩ := hvs
    obtain ⟨u1, y1, rfl, hs1⟩ := sl_form g1
    obtain ⟨u2, y2, rfl, hs2⟩ := sl_form g2
    obtain ⟨u3, y3, rfl, hs3⟩ := sl_form g3
    obtain ⟨u4, y4, rfl, hs4⟩ := sl_form g4
    subst hvv
    have hb0 : Bel w wm := Bel.of kb kw.out
    have e0 := hb0.some (hce 0 _ rfl)
    rw [Nat.add_zero] at e0
    have e1 := hb0.some (hce 1 _ rfl)
    have e2 := hb0.some (hce 2 _ rfl)
    have e3 := hb0.some (hce 3 _ rfl)
    have e4 := hb0.some (hce 4 _ rfl)
    have G1 := Lib.hid g1
    have G2 := Lib.hid g2
    have G3 := Lib.hid g3
    have G4 := Lib.hid g4
    clear hce hg hel g1 g2 g3 g4
    generalize s.msgs[k] = x at *
    have kM : Bel wm (wm.alloc (.cells #[.string (S x.name), .slice u1 x.fields.length y1, .slice u2 x.res.length y2, .slice u3 x.gone.length y3, .slice u4 x.notes.length y4] 42)) := (Bel.refl _).alloc _
    have KS := Lib.hid (fun W' (kq : Bel (wm.alloc (.cells #[.string (S x.name), .slice u1 x.fields.length y1, .slice u2 x.res.length y2, .slice u3 x.gone.length y3, .slice u4 x.notes.length y4] 42)) W') => show W'.cell? ⟨wm.heap.size, 0, none⟩ = some (.string (S x.name)) ∧ W'.cell? ⟨wm.heap.size, 1, none⟩ = some (.slice u1 x.fields.length y1) ∧ W'.cell? ⟨wm.heap.size, 2, none⟩ = some (.slice u2 x.res.length y2) ∧ W'.cell? ⟨wm.heap.size, 3, none⟩ = some (.slice u3 x.gone.length y3) ∧ W'.cell? ⟨wm.heap.size, 4, none⟩ = some (.slice u4 x.notes.length y4) from ⟨kq.some ((World.cell?_alloc_at _ _ _ _ rfl).trans rfl), kq.some ((World.cell?_alloc_at _ _ _ _ rfl).trans rfl), kq.some ((World.cell?_alloc_at _ _ _ _ rfl).trans rfl), kq.some ((World.cell?_alloc_at _ _ _ _ rfl).trans rfl), kq.some ((World.cell?_alloc_at _ _ _ _ rfl).trans rfl)⟩)
    have CN := Lib.hid (fun W (kq : Bel (wm.alloc (.cells #[.string (S x.name), .slice u1 x.fields.length y1, .slice u2 x.res.length y2, .slice u3 x.gone.length y3, .slice u4 x.notes.length y4] 42)) W) => rf_fewNotes (.slice u4 x.notes.length y4) x.notes L W (G4.out.bel VNote.stays (Bel.of hb0 (Bel.of kM kq).out)) (by omega) (by omega))
    have CG := Lib.hid (fun W (kq : Bel (wm.alloc (.cells #[.string (S x.name), .slice u1 x.fields.length y1, .slice u2 x.res.length y2, .slice u3 x.gone.length y3, .slice u4 x.notes.length y4] 42)) W) => rf_fewTexts (.slice u3 x.gone.length y3) x.gone L W (G3.out.bel VStr.stays (Bel.of hb0 (Bel.of kM kq).out)) (by omega) (by omega))
    have CT := Lib.hid (fun (W W' : World) (kq : Bel (W.alloc (.cells #[.string (S x.name)] 9)) W') => rf_fewTexts _ [x.name] L W' (texts_fresh1 x.name kq) (by omega) (by omega))
    have hst := step_msg (m := x) hL hL1
    have f1 := fn_pos x.notes.length L (by omega) hL x.notes 0
    have f3 := ft_pos 1 L (by omega) hL [x.name] 0
    have f2 := ft_pos x.gone.length L (by omega) hL x.gone 0
    generalize ftGo x.gone.length L 0 x.gone = T at CG hst f2
    generalize fnGo x.notes.length L 0 x.notes = F at CN hst f1
    have CT2 : Hid (∀ (W W' : World), Bel (W.alloc (.cells #[.string (S x.name)] 9)) W' → Calls Tryz.prog 24 #[.slice (some ⟨W.heap.size, 0, none⟩) 1 1, .int .i64 L] W' fun e w' => e = .returned (.int .i64 (ftGo 1 L 0 [x.name])) ∧ W' = w') := CT
    clear CT
    generalize ftGo 1 L 0 [x.name] = N at CT2 hst f3
    have CT := CT2
    clear CT2
    have HST := Lib.hid hst
    have F0 : 0 ≤ F := f1.1
    have F1 : F ≤ 140737488355738 := by omega
    have N0 : 0 ≤ N := f3.1
    have N1 : N ≤ 1000 := by omega
    have T0 : 0 ≤ T := f2.1
    have T1 : T ≤ 140737488355738 := by omega
    clear f2
    clear hst f1 f3
    have s0 : IntKind.i64.wrap (L - F) = L - F := IntWalk.i64_in _ (by omega)
    have s1 : IntKind.i64.wrap (L - F - (x.res.length : Int)) = L - F - (x.res.length : Int) := IntWalk.i64_in _ (by omega)
    have s2 : IntKind.i64.wrap (L - F - (x.res.length : Int) - T) = L - F - (x.res.length : Int) - T := IntWalk.i64_in _ (by omega)
    have s3 : IntKind.i64.wrap (L - F - (x.res.length : Int) - T - N) = L - F - (x.res.length : Int) - T - N := IntWalk.i64_in _ (by omega)
    go_upto_region 8 with (fail)
    go_cut [3] (fun s3 wx => ∃ L2 : Int, s3 = .int .i64 L2 ∧ Bel (wm.alloc (.cells #[.string (S x.name), .slice u1 x.fields.length y1, .slice u2 x.res.length y2, .slice u3 x.gone.length y3, .slice u4 x.notes.length y4] 42)) wx ∧ Hid (L2 ≤ 400 ∧ -1000000000000000000 ≤ L2 ∧ (0 ≤ L2 → okM x)))
    case first =>
     obtain ⟨wd, hwd⟩ : ∃ wd, wd = (wm.alloc (.cells #[.string (S x.name), .slice u1 x.fields.length y1, .slice u2 x.res.length y2, .slice u3 x.gone.length y3, .slice u4 x.notes.length y4] 42)).drew := ⟨_, rfl⟩
     have kd : Bel (wm.alloc (.cells #[.string (S x.name), .slice u1 x.fields.length y1, .slice u2 x.res.length y2, .slice u3 x.gone.length y3, .slice u4 x.notes.length y4] 42)) wd := by rw [hwd]; exact (Bel.refl _).drew
     have HWD := Lib.hid hwd
     have HEND := Lib.hid (show (L - F - (x.res.length : Int) - T - N) ≤ 400 ∧ -1000000000000000000 ≤ (L - F - (x.res.length : Int) - T - N) ∧ (0 ≤ (L - F - (x.res.length : Int) - T - N) → okM x) from ⟨by omega, by omega, HST.out⟩)
     clear hwd
     refine region_treeA (fun W => Bel (wm.alloc (.cells #[.string (S x.name), .slice u1 x.fields.length y1, .slice u2 x.res.length y2, .slice u3 x.gone.length y3, .slice u4 x.notes.length y4] 42)) W) (.take 0 (.take 1 (.take 2 (.take 3 (.take 6 (.take 7 (.take 8 (.take 10 (.take 11 (.take 12 (.take 15 (.take 16 (.take 18 (.alt 4 (.take 5 (.take 9 (.alt 13 (.take 14 (.alt 17 (.alt 19 .done .no) .no)) (.alt 17 (.alt 13 (.take 14 (.alt 19 .done .no)) .no) .no)))) (.alt 17 (.alt 4 (.take 5 (.take 9 (.alt 13 (.take 14 (.alt 19 .done .no)) .no))) .no) .no))))))))))))))) 20 (by kernel_rfl) (by kernel_rfl) HWD.out kd (fun a ha => ?_)
     (simp only [pickT, List.getD_cons_zero, List.getD_cons_succ])
     have hsz : a.tmps.size = 258 := (by rw [ha]; kernel_rfl)
     have a3 : a.eval (.tmp 3) = .int .i64 L := (by rw [ha]; kernel_rfl)
     have a5 : a.eval (.tmp 5) = .pointer (some ⟨wm.heap.size, 0, none⟩) := (by rw [ha]; kernel_rfl)
     (with_reducible refine tree_held (v := ?_) rfl (by with_unfolding_all rfl) (fun ρ hρ W hW => ?_) ?_); (rotate_left 1)
     focus (clear hW; have p3 := hρ (.tmp 3); (simp (disch := (first | decide | ((try simp only [sz_put]); rw [hsz]; decide))) only [ev_eq, ev_ne, a3, a5] at p3); obtain ⟨hc, hfn⟩ := rhoCfCkSmall hρ; clear hρ; go_simp; (all_goals with_reducible first | rfl | (constructor <;> rfl)))
     (with_reducible refine tree_held (v := ?_) rfl (by with_unfolding_all rfl) (fun ρ hρ W hW => ?_) ?_); (rotate_left 1)
     focus (clear hW; have p5 := hρ (.tmp 5); (simp (disch := (first | decide | ((try simp only [sz_put]); rw [hsz]; decide))) only [ev_eq, ev_ne, a3, a5] at p5); obtain ⟨hc, hfn⟩ := rhoCfCkSmall hρ; clear hρ; go_simp; (all_goals with_reducible first | rfl | (constructor <;> rfl)))
     (with_reducible refine tree_held (v := ?_) rfl (by with_unfolding_all rfl) (fun ρ hρ W hW => ?_) ?_); (rotate_left 1)
     focus (have hS := KS.out _ hW; clear hW; have p61 := hρ (.tmp 61); (simp (disch := (first | decide | ((try simp only [sz_put]); rw [hsz]; decide))) only [ev_eq, ev_ne, a3, a5] at p61); obtain ⟨hc, hfn⟩ := rhoCfCkSmall hρ; clear hρ; go_simp; (all_goals with_reducible first | rfl | (constructor <;> rfl)))
     (with_reducible refine tree_held (v := ?_) rfl (by with_unfolding_all rfl) (fun ρ hρ W hW => ?_) ?_); (rotate_left 1)
     focus (clear hW; have p3 := hρ (.tmp 3); (simp (disch := (first | decide | ((try simp only [sz_put]); rw [hsz]; decide))) only [ev_eq, ev_ne, a3, a5] at p3); obtain ⟨hc, hfn⟩ := rhoCfCkSmall hρ; clear hρ; go_simp; (all_goals with_reducible first | rfl | (constructor <;> rfl)))
     (with_reducible refine tree_held (v := ?_) rfl (by with_unfolding_all rfl) (fun ρ hρ W hW => ?_) ?_); (rotate_left 1)
     focus (clear hW; have p5 := hρ (.tmp 5); (simp (disch := (first | decide | ((try simp only [sz_put]); rw [hsz]; decide))) only [ev_eq, ev_ne, a3, a5] at p5); obtain ⟨hc, hfn⟩ := rhoCfCkSmall hρ; clear hρ; go_simp; (all_goals with_reducible first | rfl | (constructor <;> rfl)))
     (with_reducible refine tree_held (v := ?_) rfl (by with_unfolding_all rfl) (fun ρ hρ W hW => ?_) ?_); (rotate_left 1)
     focus (have hS := KS.out _ hW; clear hW; have p66 := hρ (.tmp 66); (simp (disch := (first | decide | ((try simp only [sz_put]); rw [hsz]; decide))) only [ev_eq, ev_ne, a3, a5] at p66); obtain ⟨hc, hfn⟩ := rhoCfCkSmall hρ; clear hρ; go_simp; (all_goals with_reducible first | rfl | (constructor <;> rfl)))
     (with_reducible refine tree_held (v := ?_) rfl (by with_unfolding_all rfl) (fun ρ hρ W hW => ?_) ?_); (rotate_left 1)
     focus (clear hW; have p67 := hρ (.tmp 67); (simp (disch := (first | decide | ((try simp only [sz_put]); rw [hsz]; decide))) only [ev_eq, ev_ne, a3, a5] at p67); obtain ⟨hc, hfn⟩ := rhoCfCkSmall hρ; clear hρ; go_simp; (all_goals with_reducible first | rfl | (constructor <;> rfl)))
     (with_reducible refine tree_held (v := ?_) rfl (by with_unfolding_all rfl) (fun ρ hρ W hW => ?_) ?_); (rotate_left 1)
     focus (clear hW; have p5 := hρ (.tmp 5); (simp (disch := (first | decide | ((try simp only [sz_put]); rw [hsz]; decide))) only [ev_eq, ev_ne, a3, a5] at p5); obtain ⟨hc, hfn⟩ := rhoCfCkSmall hρ; clear hρ; go_simp; (all_goals with_reducible first | rfl | (constructor <;> rfl)))
     (with_reducible refine tree_held (v := ?_) rfl (by with_unfolding_all rfl) (fun ρ hρ W hW => ?_) ?_); (rotate_left 1)
     focus (have hS := KS.out _ hW; clear hW; have p70 := hρ (.tmp 70); (simp (disch := (first | decide | ((try simp only [sz_put]); rw [hsz]; decide))) only [ev_eq, ev_ne, a3, a5] at p70); obtain ⟨hc, hfn⟩ := rhoCfCkSmall hρ; clear hρ; go_simp; (all_goals with_reducible first | rfl | (constructor <;> rfl)))
     (with_reducible refine tree_held (v := ?_) rfl (by with_unfolding_all rfl) (fun ρ hρ W hW => ?_) ?_); (rotate_left 1)
     focus (clear hW; have p3 := hρ (.tmp 3); (simp (disch := (first | decide | ((try simp only [sz_put]); rw [hsz]; decide))) only [ev_eq, ev_ne, a3, a5] at p3); obtain ⟨hc, hfn⟩ := rhoCfCkSmall hρ; clear hρ; go_simp; (all_goals with_reducible first | rfl | (constructor <;> rfl)))
     (with_reducible refine tree_held (v := ?_) rfl (by with_unfolding_all rfl) (fun ρ hρ W hW => ?_) ?_); (rotate_left 1)
     focus (clear hW; have p5 := hρ (.tmp 5); (simp (disch := (first | decide | ((try simp only [sz_put]); rw [hsz]; decide))) only [ev_eq, ev_ne, a3, a5] at p5); obtain ⟨hc, hfn⟩ := rhoCfCkSmall hρ; clear hρ; go_simp; (all_goals with_reducible first | rfl | (constructor <;> rfl)))
     (with_reducible refine tree_held (v := ?_) rfl (by with_unfolding_all rfl) (fun ρ hρ W hW => ?_) ?_); (rotate_left 1)
     focus (have hS := KS.out _ hW; clear hW; have p75 := hρ (.tmp 75); (simp (disch := (first | decide | ((try simp only [sz_put]); rw [hsz]; decide))) only [ev_eq, ev_ne, a3, a5] at p75); obtain ⟨hc, hfn⟩ := rhoCfCkSmall hρ; clear hρ; go_simp; (all_goals with_reducible first | rfl | (constructor <;> rfl)))
     (with_reducible refine tree_held (v := ?_) rfl (by with_unfolding_all rfl) (fun ρ hρ W hW => ?_) ?_); (rotate_left 1)
     focus (clear hW; have p3 := hρ (.tmp 3); (simp (disch := (first | decide | ((try simp only [sz_put]); rw [hsz]; decide))) only [ev_eq, ev_ne, a3, a5] at p3); obtain ⟨hc, hfn⟩ := rhoCfCkSmall hρ; clear hρ; go_simp; (all_goals with_reducible first | rfl | (constructor <;> rfl)))
     (with_reducible refine tree_enter (f := ?_) (args := ?_) rfl (by with_unfolding_all rfl) (fun ρ hρ => ?_) ?_ ?_); (rotate_left 2)
     focus (have p62 := hρ (.tmp 62); have p63 := hρ (.tmp 63); (simp (disch := (first | decide | ((try simp only [sz_put]); rw [hsz]; decide))) only [ev_eq, ev_ne, a3, a5] at p62 p63); obtain ⟨hc, hfn⟩ := rhoCfCkSmall hρ; clear hρ; rw [execOp_call_rho (hfn _)]; clear hfn; go_simp; (all_goals with_reducible first | rfl | (constructor <;> rfl)))
     (with_reducible refine (CN.out _ (by (with_reducible repeat first | assumption | exact Bel.refl _ | refine Bel.drew ?_ | refine Bel.drewN ?_ _ | refine Bel.alloc ?_ _))).mono ?_)
     rintro e w1 ⟨rfl, g1⟩
     have q1 := Bel.of (Bel.refl _) g1
     have k1 : Bel (wm.alloc (.cells #[.string (S x.name), .slice u1 x.fields.length y1, .slice u2 x.res.length y2, .slice u3 x.gone.length y3, .slice u4 x.notes.length y4] 42)) w1 := Bel.of (by (with_reducible repeat first | assumption | exact Bel.refl _ | refine Bel.drew ?_ | refine Bel.drewN ?_ _ | refine Bel.alloc ?_ _)) g1
     clear g1
     refine ⟨_, rfl, (by (with_reducible repeat first | assumption | exact Bel.refl _ | refine Bel.drew ?_ | refine Bel.drewN ?_ _ | refine Bel.alloc ?_ _)), ?_⟩
     ·(with_reducible refine tree_held (v := ?_) rfl (by with_unfolding_all rfl) (fun ρ hρ W hW => ?_) ?_); (rotate_left 1)
      focus (clear hW; have p60 := hρ (.tmp 60); have p64 := hρ (.tmp 64); (simp (disch := (first | decide | ((try simp only [sz_put]); rw [hsz]; decide))) only [ev_eq, ev_ne, a3, a5] at p60 p64); obtain ⟨hc, hfn⟩ := rhoCfCkSmall hρ; clear hρ; (with_reducible exact sub_i64 p60 p64 (by assumption)))
      (with_reducible refine tree_held (v := ?_) rfl (by with_unfolding_all rfl) (fun ρ hρ W hW => ?_) ?_); (rotate_left 1)
      focus (clear hW; have p65 := hρ (.tmp 65); have p68 := hρ (.tmp 68); (simp (disch := (first | decide | ((try simp only [sz_put]); rw [hsz]; decide))) only [ev_eq, ev_ne, a3, a5] at p65 p68); obtain ⟨hc, hfn⟩ := rhoCfCkSmall hρ; clear hρ; (with_reducible exact sub_i64 p65 p68 (by assumption)))
      (with_reducible refine tree_enter (f := ?_) (args := ?_) rfl (by with_unfolding_all rfl) (fun ρ hρ => ?_) ?_ ?_); (rotate_left 2)
      focus (have p71 := hρ (.tmp 71); have p72 := hρ (.tmp 72); (simp (disch := (first | decide | ((try simp only [sz_put]); rw [hsz]; decide))) only [ev_eq, ev_ne, a3, a5] at p71 p72); obtain ⟨hc, hfn⟩ := rhoCfCkSmall hρ; clear hρ; rw [execOp_call_rho (hfn _)]; clear hfn; go_simp; (all_goals with_reducible first | rfl | (constructor <;> rfl)))
      (with_reducible refine (CG.out _ (by (with_reducible repeat first | assumption | exact Bel.refl _ | refine Bel.drew ?_ | refine Bel.drewN ?_ _ | refine Bel.alloc ?_ _))).mono ?_)
      rintro e w2 ⟨rfl, rfl⟩
      refine ⟨_, rfl, (by (with_reducible repeat first | assumption | exact Bel.refl _ | refine Bel.drew ?_ | refine Bel.drewN ?_ _ | refine Bel.alloc ?_ _)), ?_⟩
      ·(with_reducible refine tree_held (v := ?_) rfl (by with_unfolding_all rfl) (fun ρ hρ W hW => ?_) ?_); (rotate_left 1)
       focus (clear hW; have p69 := hρ (.tmp 69); have p73 := hρ (.tmp 73); (simp (disch := (first | decide | ((try simp only [sz_put]); rw [hsz]; decide))) only [ev_eq, ev_ne, a3, a5] at p69 p73); obtain ⟨hc, hfn⟩ := rhoCfCkSmall hρ; clear hρ; (with_reducible exact sub_i64 p69 p73 (by assumption)))
       (with_reducible refine tree_step (v := ?_) (w' := ?_) rfl (by with_unfolding_all rfl) (fun ρ hρ => ?_) ?_ ?_ ?_); (rotate_left 2)
       focus (have p76 := hρ (.tmp 76); (simp (disch := (first | decide | ((try simp only [sz_put]); rw [hsz]; decide))) only [ev_eq, ev_ne, a3, a5] at p76); obtain ⟨hc, hfn⟩ := rhoCfCkSmall hρ; clear hρ; go_simp; (all_goals with_reducible first | rfl | (constructor <;> rfl)))
       focus (with_reducible repeat first | assumption | exact Bel.refl _ | refine Bel.drew ?_ | refine Bel.drewN ?_ _ | refine Bel.alloc ?_ _)
       rotate_left 1
       focus exact tree_no
       (with_reducible refine tree_enter (f := ?_) (args := ?_) rfl (by with_unfolding_all rfl) (fun ρ hρ => ?_) ?_ ?_); (rotate_left 2)
       focus (have p77 := hρ (.tmp 77); have p78 := hρ (.tmp 78); (simp (disch := (first | decide | ((try simp only [sz_put]); rw [hsz]; decide))) only [ev_eq, ev_ne, a3, a5] at p77 p78); obtain ⟨hc, hfn⟩ := rhoCfCkSmall hρ; clear hρ; rw [execOp_call_rho (hfn _)]; clear hfn; go_simp; (all_goals with_reducible first | rfl | (constructor <;> rfl)))
       (with_reducible refine (CT.out _ _ (by (with_reducible repeat first | assumption | exact Bel.refl _ | refine Bel.drew ?_ | refine Bel.drewN ?_ _ | refine Bel.alloc ?_ _))).mono ?_)
       rintro e w4 ⟨rfl, rfl⟩
       refine ⟨_, rfl, (by (with_reducible repeat first | assumption | exact Bel.refl _ | refine Bel.drew ?_ | refine Bel.drewN ?_ _ | refine Bel.alloc ?_ _)), ?_⟩
       rotate_left 1
       focus exact tree_no
       refine tree_done ?_
       (simp only [List.drop_succ_cons, List.drop_zero])
       (with_reducible refine list_held (v := ?_) (w' := ?_) rfl (by with_unfolding_all rfl) (fun ρ hρ => ?_) ?_); (rotate_left 2)
       focus (have p74 := hρ (.tmp 74); have p79 := hρ (.tmp 79); (simp (disch := (first | decide | ((try simp only [sz_put]); rw [hsz]; decide))) only [ev_eq, ev_ne, a3, a5] at p74 p79); obtain ⟨hc, hfn⟩ := rhoCfCkSmall hρ; clear hρ; (with_reducible exact sub_i64 p74 p79 (by assumption)))
       (with_reducible refine list_held (v := ?_) (w' := ?_) rfl (by with_unfolding_all rfl) (fun ρ hρ => ?_) ?_); (rotate_left 2)
       focus (have p80 := hρ (.tmp 80); (simp (disch := (first | decide | ((try simp only [sz_put]); rw [hsz]; decide))) only [ev_eq, ev_ne, a3, a5] at p80); obtain ⟨hc, hfn⟩ := rhoCfCkSmall hρ; clear hρ; go_simp; (all_goals with_reducible first | rfl | (constructor <;> rfl)))
       refine wpList_nil ?_
       subst ha
       (simp only [put_some, set_s, set_z])
       go_wp2
       go_meet
       exact ⟨_, rfl, (by (with_reducible repeat first | assumption | exact Bel.refl _ | refine Bel.drew ?_ | refine Bel.drewN ?_ _ | refine Bel.alloc ?_ _)), HEND.out⟩
      (with_reducible refine tree_step (v := ?_) (w' := ?_) rfl (by with_unfolding_all rfl) (fun ρ hρ => ?_) ?_ ?_ ?_); (rotate_left 2)
      focus (have p76 := hρ (.tmp 76); (simp (disch := (first | decide | ((try simp only [sz_put]); rw [hsz]; decide))) only [ev_eq, ev_ne, a3, a5] at p76); obtain ⟨hc, hfn⟩ := rhoCfCkSmall hρ; clear hρ; go_simp; (all_goals with_reducible first | rfl | (constructor <;> rfl)))
      focus (with_reducible repeat first | assumption | exact Bel.refl _ | refine Bel.drew ?_ | refine Bel.drewN ?_ _ | refine Bel.alloc ?_ _)
      rotate_left 1
      focus exact tree_no
      (with_reducible refine tree_enter (f := ?_) (args := ?_) rfl (by with_unfolding_all rfl) (fun ρ hρ => ?_) ?_ ?_); (rotate_left 2)
      focus (have p71 := hρ (.tmp 71); have p72 := hρ (.tmp 72); (simp (disch := (first | decide | ((try simp only [sz_put]); rw [hsz]; decide))) only [ev_eq, ev_ne, a3, a5] at p71 p72); obtain ⟨hc, hfn⟩ := rhoCfCkSmall hρ; clear hρ; rw [execOp_call_rho (hfn _)]; clear hfn; go_simp; (all_goals with_reducible first | rfl | (constructor <;> rfl)))
      (with_reducible refine (CG.out _ (by (with_reducible repeat first | assumption | exact Bel.refl _ | refine Bel.drew ?_ | refine Bel.drewN ?_ _ | refine Bel.alloc ?_ _))).mono ?_)
      rintro e w3 ⟨rfl, rfl⟩
      refine ⟨_, rfl, (by (with_reducible repeat first | assumption | exact Bel.refl _ | refine Bel.drew ?_ | refine Bel.drewN ?_ _ | refine Bel.alloc ?_ _)), ?_⟩
      rotate_left 1
      focus exact tree_no
      (with_reducible refine tree_held (v := ?_) rfl (by with_unfolding_all rfl) (fun ρ hρ W hW => ?_) ?_); (rotate_left 1)
      focus (clear hW; have p69 := hρ (.tmp 69); have p73 := hρ (.tmp 73); (simp (disch := (first | decide | ((try simp only [sz_put]); rw [hsz]; decide))) only [ev_eq, ev_ne, a3, a5] at p69 p73); obtain ⟨hc, hfn⟩ := rhoCfCkSmall hρ; clear hρ; (with_reducible exact sub_i64 p69 p73 (by assumption)))
      (with_reducible refine tree_enter (f := ?_) (args := ?_) rfl (by with_unfolding_all rfl) (fun ρ hρ => ?_) ?_ ?_); (rotate_left 2)
      focus (have p77 := hρ (.tmp 77); have p78 := hρ (.tmp 78); (simp (disch := (first | decide | ((try simp only [sz_put]); rw [hsz]; decide))) only [ev_eq, ev_ne, a3, a5] at p77 p78); obtain ⟨hc, hfn⟩ := rhoCfCkSmall hρ; clear hρ; rw [execOp_call_rho (hfn _)]; clear hfn; go_simp; (all_goals with_reducible first | rfl | (constructor <;> rfl)))
      (with_reducible refine (CT.out _ _ (by (with_reducible repeat first | assumption | exact Bel.refl _ | refine Bel.drew ?_ | refine Bel.drewN ?_ _ | refine Bel.alloc ?_ _))).mono ?_)
      rintro e w4 ⟨rfl, rfl⟩
      refine ⟨_, rfl, (by (with_reducible repeat first | assumption | exact Bel.refl _ | refine Bel.drew ?_ | refine Bel.drewN ?_ _ | refine Bel.alloc ?_ _)), ?_⟩
      rotate_left 1
      focus exact tree_no
      refine tree_done ?_
      (simp only [List.drop_succ_cons, List.drop_zero])
      (with_reducible refine list_held (v := ?_) (w' := ?_) rfl (by with_unfolding_all rfl) (fun ρ hρ => ?_) ?_); (rotate_left 2)
      focus (have p74 := hρ (.tmp 74); have p79 := hρ (.tmp 79); (simp (disch := (first | decide | ((try simp only [sz_put]); rw [hsz]; decide))) only [ev_eq, ev_ne, a3, a5] at p74 p79); obtain ⟨hc, hfn⟩ := rhoCfCkSmall hρ; clear hρ; (with_reducible exact sub_i64 p74 p79 (by assumption)))
      (with_reducible refine list_held (v := ?_) (w' := ?_) rfl (by with_unfolding_all rfl) (fun ρ hρ => ?_) ?_); (rotate_left 2)
      focus (have p80 := hρ (.tmp 80); (simp (disch := (first | decide | ((try simp only [sz_put]); rw [hsz]; decide))) only [ev_eq, ev_ne, a3, a5] at p80); obtain ⟨hc, hfn⟩ := rhoCfCkSmall hρ; clear hρ; go_simp; (all_goals with_reducible first | rfl | (constructor <;> rfl)))
      refine wpList_nil ?_
      subst ha
      (simp only [put_some, set_s, set_z])
      go_wp2
      go_meet
      exact ⟨_, rfl, (by (with_reducible repeat first | assumption | exact Bel.refl _ | refine Bel.drew ?_ | refine Bel.drewN ?_ _ | refine Bel.alloc ?_ _)), HEND.out⟩
     (with_reducible refine tree_step (v := ?_) (w' := ?_) rfl (by with_unfolding_all rfl) (fun ρ hρ => ?_) ?_ ?_ ?_); (rotate_left 2)
     focus (have p76 := hρ (.tmp 76); (simp (disch := (first | decide | ((try simp only [sz_put]); rw [hsz]; decide))) only [ev_eq, ev_ne, a3, a5] at p76); obtain ⟨hc, hfn⟩ := rhoCfCkSmall hρ; clear hρ; go_simp; (all_goals with_reducible first | rfl | (constructor <;> rfl)))
     focus (with_reducible repeat first | assumption | exact Bel.refl _ | refine Bel.drew ?_ | refine Bel.drewN ?_ _ | refine Bel.alloc ?_ _)
     rotate_left 1
     focus exact tree_no
     (with_reducible refine tree_enter (f := ?_) (args := ?_) rfl (by with_unfolding_all rfl) (fun ρ hρ => ?_) ?_ ?_); (rotate_left 2)
     focus (have p62 := hρ (.tmp 62); have p63 := hρ (.tmp 63); (simp (disch := (first | decide | ((try simp only [sz_put]); rw [hsz]; decide))) only [ev_eq, ev_ne, a3, a5] at p62 p63); obtain ⟨hc, hfn⟩ := rhoCfCkSmall hρ; clear hρ; rw [execOp_call_rho (hfn _)]; clear hfn; go_simp; (all_goals with_reducible first | rfl | (constructor <;> rfl)))
     (with_reducible refine (CN.out _ (by (with_reducible repeat first | assumption | exact Bel.refl _ | refine Bel.drew ?_ | refine Bel.drewN ?_ _ | refine Bel.alloc ?_ _))).mono ?_)
     rintro e w2 ⟨rfl, g2⟩
     have q2 := Bel.of (Bel.refl _) g2
     have k2 : Bel (wm.alloc (.cells #[.string (S x.name), .slice u1 x.fields.length y1, .slice u2 x.res.length y2, .slice u3 x.gone.length y3, .slice u4 x.notes.length y4] 42)) w2 := Bel.of (by (with_reducible repeat first | assumption | exact Bel.refl _ | refine Bel.drew ?_ | refine Bel.drewN ?_ _ | refine Bel.alloc ?_ _)) g2
     clear g2
     refine ⟨_, rfl, (by (with_reducible repeat first | assumption | exact Bel.refl _ | refine Bel.drew ?_ | refine Bel.drewN ?_ _ | refine Bel.alloc ?_ _)), ?_⟩
     rotate_left 1
     focus exact tree_no
     (with_reducible refine tree_held (v := ?_) rfl (by with_unfolding_all rfl) (fun ρ hρ W hW => ?_) ?_); (rotate_left 1)
     focus (clear hW; have p60 := hρ (.tmp 60); have p64 := hρ (.tmp 64); (simp (disch := (first | decide | ((try simp only [sz_put]); rw [hsz]; decide))) only [ev_eq, ev_ne, a3, a5] at p60 p64); obtain ⟨hc, hfn⟩ := rhoCfCkSmall hρ; clear hρ; (with_reducible exact sub_i64 p60 p64 (by assumption)))
     (with_reducible refine tree_held (v := ?_) rfl (by with_unfolding_all rfl) (fun ρ hρ W hW => ?_) ?_); (rotate_left 1)
     focus (clear hW; have p65 := hρ (.tmp 65); have p68 := hρ (.tmp 68); (simp (disch := (first | decide | ((try simp only [sz_put]); rw [hsz]; decide))) only [ev_eq, ev_ne, a3, a5] at p65 p68); obtain ⟨hc, hfn⟩ := rhoCfCkSmall hρ; clear hρ; (with_reducible exact sub_i64 p65 p68 (by assumption)))
     (with_reducible refine tree_enter (f := ?_) (args := ?_) rfl (by with_unfolding_all rfl) (fun ρ hρ => ?_) ?_ ?_); (rotate_left 2)
     focus (have p71 := hρ (.tmp 71); have p72 := hρ (.tmp 72); (simp (disch := (first | decide | ((try simp only [sz_put]); rw [hsz]; decide))) only [ev_eq, ev_ne, a3, a5] at p71 p72); obtain ⟨hc, hfn⟩ := rhoCfCkSmall hρ; clear hρ; rw [execOp_call_rho (hfn _)]; clear hfn; go_simp; (all_goals with_reducible first | rfl | (constructor <;> rfl)))
     (with_reducible refine (CG.out _ (by (with_reducible repeat first | assumption | exact Bel.refl _ | refine Bel.drew ?_ | refine Bel.drewN ?_ _ | refine Bel.alloc ?_ _))).mono ?_)
     rintro e w3 ⟨rfl, rfl⟩
     refine ⟨_, rfl, (by (with_reducible repeat first | assumption | exact Bel.refl _ | refine Bel.drew ?_ | refine Bel.drewN ?_ _ | refine Bel.alloc ?_ _)), ?_⟩
     rotate_left 1
     focus exact tree_no
     (with_reducible refine tree_held (v := ?_) rfl (by with_unfolding_all rfl) (fun ρ hρ W hW => ?_) ?_); (rotate_left 1)
     focus (clear hW; have p69 := hρ (.tmp 69); have p73 := hρ (.tmp 73); (simp (disch := (first | decide | ((try simp only [sz_put]); rw [hsz]; decide))) only [ev_eq, ev_ne, a3, a5] at p69 p73); obtain ⟨hc, hfn⟩ := rhoCfCkSmall hρ; clear hρ; (with_reducible exact sub_i64 p69 p73 (by assumption)))
     (with_reducible refine tree_enter (f := ?_) (args := ?_) rfl (by with_unfolding_all rfl) (fun ρ hρ => ?_) ?_ ?_); (rotate_left 2)
     focus (have p77 := hρ (.tmp 77); have p78 := hρ (.tmp 78); (simp (disch := (first | decide | ((try simp only [sz_put]); rw [hsz]; decide))) only [ev_eq, ev_ne, a3, a5] at p77 p78); obtain ⟨hc, hfn⟩ := rhoCfCkSmall hρ; clear hρ; rw [execOp_call_rho (hfn _)]; clear hfn; go_simp; (all_goals with_reducible first | rfl | (constructor <;> rfl)))
     (with_reducible refine (CT.out _ _ (by (with_reducible repeat first | assumption | exact Bel.refl _ | refine Bel.drew ?_ | refine Bel.drewN ?_ _ | refine Bel.alloc ?_ _))).mono ?_)
     rintro e w4 ⟨rfl, rfl⟩
     refine ⟨_, rfl, (by (with_reducible repeat first | assumption | exact Bel.refl _ | refine Bel.drew ?_ | refine Bel.drewN ?_ _ | refine Bel.alloc ?_ _)), ?_⟩
     rotate_left 1
     focus exact tree_no
     refine tree_done ?_
     (simp only [List.drop_succ_cons, List.drop_zero])
     (with_reducible refine list_held (v := ?_) (w' := ?_) rfl (by with_unfolding_all rfl) (fun ρ hρ => ?_) ?_); (rotate_left 2)
     focus (have p74 := hρ (.tmp 74); have p79 := hρ (.tmp 79); (simp (disch := (first | decide | ((try simp only [sz_put]); rw [hsz]; decide))) only [ev_eq, ev_ne, a3, a5] at p74 p79); obtain ⟨hc, hfn⟩ := rhoCfCkSmall hρ; clear hρ; (with_reducible exact sub_i64 p74 p79 (by assumption)))
     (with_reducible refine list_held (v := ?_) (w' := ?_) rfl (by with_unfolding_all rfl) (fun ρ hρ => ?_) ?_); (rotate_left 2)
     focus (have p80 := hρ (.tmp 80); (simp (disch := (first | decide | ((try simp only [sz_put]); rw [hsz]; decide))) only [ev_eq, ev_ne, a3, a5] at p80); obtain ⟨hc, hfn⟩ := rhoCfCkSmall hρ; clear hρ; go_simp; (all_goals with_reducible first | rfl | (constructor <;> rfl)))
     refine wpList_nil ?_
     subst ha
     (simp only [put_some, set_s, set_z])
     go_wp2
     go_meet
     exact ⟨_, rfl, (by (with_reducible repeat first | assumption | exact Bel.refl _ | refine Bel.drew ?_ | refine Bel.drewN ?_ _ | refine Bel.alloc ?_ _)), HEND.out⟩
    case rest =>
     obtain ⟨L2, hs3, kI, hI⟩ := hcut
     subst hs3
     clear HST CN CT CG s0 s1 s2 s3
     have hI1 : L2 ≤ 400 := hI.out.1
     have hI2 : -1000000000000000000 ≤ L2 := hI.out.2.1
     go_wp2
     have kM0 := kw.alloc (.cells #[.string (S x.name), .slice u1 x.fields.length y1, .slice u2 x.res.length y2, .slice u3 x.gone.length y3, .slice u4 x.notes.length y4] 42)
     go_loopw [3, 6] (fun l i wr => ∃ (j : Nat) (L3 : Int), j ≤ x.fields.length ∧ i = .int .i64 j ∧ l = .int .i64 L3 ∧ Bel (wm.alloc (.cells #[.string (S x.name), .slice u1 x.fields.length y1, .slice u2 x.res.length y2, .slice u3 x.gone.length y3, .slice u4 x.notes.length y4] 42)) wr ∧ Hid (InvK okF x.fields j L3 ∧ (0 ≤ L3 → okM x))) (fun _ i _ => x.fields.length - (intOf i).toNat)
     case atStart => exact ⟨0, L2, by omega, rfl, rfl, kI, Lib.hid ⟨⟨hI1, hI2, fun h => ⟨by omega, fun x hx => by simp at hx⟩⟩, hI.out.2.2⟩⟩
     case round =>
      obtain ⟨j, L3, hj, rfl, rfl, kw2, hinv2⟩ := hrel
      have hJ1 : L3 ≤ 400 := hinv2.out.1.1
      have hJ2 : -1000000000000000000 ≤ L3 := hinv2.out.1.2.1
      obtain ⟨m0, m1, m2, m3, m4⟩ := KS.out _ kw2
      by_cases hlt2 : j < x.fields.length
      ·have hji : (j : Int) < (x.fields.length : Int) := by omega
       by_cases hJ : 0 ≤ L3
       ·have hg2 := List.getElem?_eq_getElem hlt2
        have hlist2 := G1.out
        obtain ⟨qq2, cq2, hqe2, _, _, hel2⟩ := hlist2
        cases hqe2
        obtain ⟨b2, off2, hqq2, hbs2, cs2, hce2, hvs2⟩ := hel2 j _ hg2
        have HG2 := Lib.hid hg2
        subst hqq2
        have hbw : Bel w wr := Bel.of hb0 (Bel.of kM kw2.out).out
        obtain ⟨_, _, hvs1, ⟨r1, r2, r3, r4, d1, d2, d3, d4, hvv2, _⟩, hnt⟩ := hvs2
        obtain ⟨v1, z1, hnv, hnl⟩ := sl_form hnt
        subst hvs1 hvv2 hnv
        have HNT := Lib.hid hnt
        generalize x.fields[j] = f at *
        have aE := agg_Field
        obtain ⟨K, hK⟩ : ∃ K, K = 16 := ⟨_, rfl⟩
        have zE : ∀ w, (Go.sizeOf 68).run Tryz.prog w = .ok K w := hK ▸ size_Field
        have l2 : Sem.run Tryz.prog (loadCellsFrom ⟨b2, off2 + j * K, none⟩ 0 K #[]) wr = .ok #[.int .i64 f.num, .string (S f.name), .int .i64 f.card, .int .i64 f.key, .int .i64 f.tk, .string (S f.tn), .string (S f.un), .bool f.hd, .int .i64 f.df.k, .int .u64 f.df.x, .string (S f.df.t), .slice r1 f.df.n1 d1, .slice r2 f.df.n2 d2, .slice r3 f.df.n3 d3, .slice r4 f.df.n4 d4, .slice v1 f.notes.length z1] wr := run_loadCellsFrom_list Tryz.prog _ _ _ K hK.symm (fun i v hi => by
         rw [hK, Addr.add_lit]
         exact Bel.some hbw (hce2 i v hi))
        have HK := Lib.hid hK
        clear hK hce2 hg2 hnt hel2
        have kF : Bel wr (wr.alloc (.cells #[.int .i64 f.num, .string (S f.name), .int .i64 f.card, .int .i64 f.key, .int .i64 f.tk, .string (S f.tn), .string (S f.un), .bool f.hd, .int .i64 f.df.k, .int .u64 f.df.x, .string (S f.df.t), .slice r1 f.df.n1 d1, .slice r2 f.df.n2 d2, .slice r3 f.df.n3 d3, .slice r4 f.df.n4 d4, .slice v1 f.notes.length z1] 68)) := (Bel.refl _).alloc _
        have KS2 := Lib.hid (fun W' (kq : Bel (wr.alloc (.cells #[.int .i64 f.num, .string (S f.name), .int .i64 f.card, .int .i64 f.key, .int .i64 f.tk, .string (S f.tn), .string (S f.un), .bool f.hd, .int .i64 f.df.k, .int .u64 f.df.x, .string (S f.df.t), .slice r1 f.df.n1 d1, .slice r2 f.df.n2 d2, .slice r3 f.df.n3 d3, .slice r4 f.df.n4 d4, .slice v1 f.notes.length z1] 68)) W') => show W'.cell? ⟨wr.heap.size, 0, none⟩ = some (.int .i64 f.num) ∧ W'.cell? ⟨wr.heap.size, 1, none⟩ = some (.string (S f.name)) ∧ W'.cell? ⟨wr.heap.size, 2, none⟩ = some (.int .i64 f.card) ∧ W'.cell? ⟨wr.heap.size, 3, none⟩ = some (.int .i64 f.key) ∧ W'.cell? ⟨wr.heap.size, 4, none⟩ = some (.int .i64 f.tk) ∧ W'.cell? ⟨wr.heap.size, 5, none⟩ = some (.string (S f.tn)) ∧ W'.cell? ⟨wr.heap.size, 6, none⟩ = some (.string (S f.un)) ∧ W'.cell? ⟨wr.heap.size, 7, none⟩ = some (.bool f.hd) ∧ W'.cell? ⟨wr.heap.size, 8, none⟩ = some (.int .i64 f.df.k) ∧ W'.cell? ⟨wr.heap.size, 9, none⟩ = some (.int .u64 f.df.x) ∧ W'.cell? ⟨wr.heap.size, 10, none⟩ = some (.string (S f.df.t)) ∧ W'.cell? ⟨wr.heap.size, 11, none⟩ = some (.slice r1 f.df.n1 d1) ∧ W'.cell? ⟨wr.heap.size, 12, none⟩ = some (.slice r2 f.df.n2 d2) ∧ W'.cell? ⟨wr.heap.size, 13, none⟩ = some (.slice r3 f.df.n3 d3) ∧ W'.cell? ⟨wr.heap.size, 14, none⟩ = some (.slice r4 f.df.n4 d4) ∧ W'.cell? ⟨wr.heap.size, 15, none⟩ = some (.slice v1 f.notes.length z1) from ⟨kq.some ((World.cell?_alloc_at _ _ _ _ rfl).trans rfl), kq.some ((World.cell?_alloc_at _ _ _ _ rfl).trans rfl), kq.some ((World.cell?_alloc_at _ _ _ _ rfl).trans rfl), kq.some ((World.cell?_alloc_at _ _ _ _ rfl).trans rfl), kq.some ((World.cell?_alloc_at _ _ _ _ rfl).trans rfl), kq.some ((World.cell?_alloc_at _ _ _ _ rfl).trans rfl), kq.some ((World.cell?_alloc_at _ _ _ _ rfl).trans rfl), kq.some ((World.cell?_alloc_at _ _ _ _ rfl).trans rfl), kq.some ((World.cell?_alloc_at _ _ _ _ rfl).trans rfl), kq.some ((World.cell?_alloc_at _ _ _ _ rfl).trans rfl), kq.some ((World.cell?_alloc_at _ _ _ _ rfl).trans rfl), kq.some ((World.cell?_alloc_at _ _ _ _ rfl).trans rfl), kq.some ((World.cell?_alloc_at _ _ _ _ rfl).trans rfl), kq.some ((World.cell?_alloc_at _ _ _ _ rfl).trans rfl), kq.some ((World.cell?_alloc_at _ _ _ _ rfl).trans rfl), kq.some ((World.cell?_alloc_at _ _ _ _ rfl).trans rfl)⟩)
        have CN := Lib.hid (fun W (kq : Bel (wr.alloc (.cells #[.int .i64 f.num, .string (S f.name), .int .i64 f.card, .int .i64 f.key, .int .i64 f.tk, .string (S f.tn), .string (S f.un), .bool f.hd, .int .i64 f.df.k, .int .u64 f.df.x, .string (S f.df.t), .slice r1 f.df.n1 d1, .slice r2 f.df.n2 d2, .slice r3 f.df.n3 d3, .slice r4 f.df.n4 d4, .slice v1 f.notes.length z1] 68)) W) => rf_fewNotes (.slice v1 f.notes.length z1) f.notes L3 W (HNT.out.bel VNote.stays (Bel.of hbw (Bel.of ((Bel.refl _).alloc _ : Bel wr (wr.alloc (.cells #[.int .i64 f.num, .string (S f.name), .int .i64 f.card, .int .i64 f.key, .int .i64 f.tk, .string (S f.tn), .string (S f.un), .bool f.hd, .int .i64 f.df.k, .int .u64 f.df.x, .string (S f.df.t), .slice r1 f.df.n1 d1, .slice r2 f.df.n2 d2, .slice r3 f.df.n3 d3, .slice r4 f.df.n4 d4, .slice v1 f.notes.length z1] 68))) kq.out).out)) (by omega) (by omega))
        have CT0 := Lib.hid (fun (W W' : World) (kq : Bel (W.alloc (.cells #[.string (S f.name), .string (S f.tn), .string (S f.un)] 9)) W') => rf_fewTexts _ [f.name, f.tn, f.un] L3 W' (texts_fresh3 f.name f.tn f.un kq) (by omega) (by omega))
        have hst := step_field (f := f) hJ hJ1
        have f1 := fn_pos f.notes.length L3 (by omega) hJ f.notes 0
        have f3 := ft_pos 3 L3 (by omega) hJ [f.name, f.tn, f.un] 0
        generalize fnGo f.notes.length L3 0 f.notes = F2 at CN hst f1
        have CT : Hid (∀ (W W' : World), Bel (W.alloc (.cells #[.string (S f.name), .string (S f.tn), .string (S f.un)] 9)) W' → Calls Tryz.prog 24 #[.slice (some ⟨W.heap.size, 0, none⟩) 3 3, .int .i64 L3] W' fun e w' => e = .returned (.int .i64 (ftGo 3 L3 0 [f.name, f.tn, f.un])) ∧ W' = w') := CT0
        clear CT0
        generalize ftGo 3 L3 0 [f.name, f.tn, f.un] = N2 at CT hst f3
        have HST := Lib.hid hst
        have F20 : 0 ≤ F2 := f1.1
        have F21 : F2 ≤ 140737488355738 := by omega
        have N20 : 0 ≤ N2 := f3.1
        have N21 : N2 ≤ 1000 := by omega
        clear hst f1 f3
        have s0 : IntKind.i64.wrap (L3 - 1) = L3 - 1 := IntWalk.i64_in _ (by omega)
        have s1 : IntKind.i64.wrap (L3 - 1 - F2) = L3 - 1 - F2 := IntWalk.i64_in _ (by omega)
        have s2 : IntKind.i64.wrap (L3 - 1 - F2 - N2) = L3 - 1 - F2 - N2 := IntWalk.i64_in _ (by omega)
        have s3 : IntKind.i64.wrap (L3 - 1 - F2 - N2 + 3) = L3 - 1 - F2 - N2 + 3 := IntWalk.i64_in _ (by omega)
        go_upto_region 13 with (fail)
        all_goals (first | (exfalso; exact absurd HK.out.symm (by assumption)) | (have h16 : 16 = K := (by assumption); subst h16))
        clear l2 aE zE HK
        go_cut [3] (fun s3 wx => ∃ L4 : Int, s3 = .int .i64 L4 ∧ Bel (wr.alloc (.cells #[.int .i64 f.num, .string (S f.name), .int .i64 f.card, .int .i64 f.key, .int .i64 f.tk, .string (S f.tn), .string (S f.un), .bool f.hd, .int .i64 f.df.k, .int .u64 f.df.x, .string (S f.df.t), .slice r1 f.df.n1 d1, .slice r2 f.df.n2 d2, .slice r3 f.df.n3 d3, .slice r4 f.df.n4 d4, .slice v1 f.notes.length z1] 68)) wx ∧ Hid (L4 ≤ 400 ∧ -1000000000000000000 ≤ L4 ∧ (0 ≤ L4 → okF f ∧ L4 ≤ L3 - 1)))
        case first =>
         obtain ⟨wd, hwd⟩ : ∃ wd, wd = (wr.alloc (.cells #[.int .i64 f.num, .string (S f.name), .int .i64 f.card, .int .i64 f.key, .int .i64 f.tk, .string (S f.tn), .string (S f.un), .bool f.hd, .int .i64 f.df.k, .int .u64 f.df.x, .string (S f.df.t), .slice r1 f.df.n1 d1, .slice r2 f.df.n2 d2, .slice r3 f.df.n3 d3, .slice r4 f.df.n4 d4, .slice v1 f.notes.length z1] 68)).drew := ⟨_, rfl⟩
         have kd : Bel (wr.alloc (.cells #[.int .i64 f.num, .string (S f.name), .int .i64 f.card, .int .i64 f.key, .int .i64 f.tk, .string (S f.tn), .string (S f.un), .bool f.hd, .int .i64 f.df.k, .int .u64 f.df.x, .string (S f.df.t), .slice r1 f.df.n1 d1, .slice r2 f.df.n2 d2, .slice r3 f.df.n3 d3, .slice r4 f.df.n4 d4, .slice v1 f.notes.length z1] 68)) wd := by rw [hwd]; exact (Bel.refl _).drew
         have HWD := Lib.hid hwd
         have hle4 : (L3 - 1 - F2 - N2 + 3) ≤ 400 := by
          rcases Int.lt_or_le (L3 - 1 - F2 - N2 + 3) 0 with h | h
          ·omega
          ·have := (HST.out h).2
           omega
         have HEND := Lib.hid (show (L3 - 1 - F2 - N2 + 3) ≤ 400 ∧ -1000000000000000000 ≤ (L3 - 1 - F2 - N2 + 3) ∧ (0 ≤ (L3 - 1 - F2 - N2 + 3) → okF f ∧ (L3 - 1 - F2 - N2 + 3) ≤ L3 - 1) from ⟨hle4, by omega, HST.out⟩)
         clear hle4
         clear hwd
         have KS0 := KS
         clear KS
         have KS := KS2
         refine region_treeA (fun W => Bel (wr.alloc (.cells #[.int .i64 f.num, .string (S f.name), .int .i64 f.card, .int .i64 f.key, .int .i64 f.tk, .string (S f.tn), .string (S f.un), .bool f.hd, .int .i64 f.df.k, .int .u64 f.df.x, .string (S f.df.t), .slice r1 f.df.n1 d1, .slice r2 f.df.n2 d2, .slice r3 f.df.n3 d3, .slice r4 f.df.n4 d4, .slice v1 f.notes.length z1] 68)) W) (.take 0 (.take 1 (.take 2 (.take 3 (.take 4 (.take 7 (.take 8 (.take 9 (.take 10 (.take 11 (.take 12 (.take 13 (.take 15 (.alt 5 (.take 6 (.alt 14 (.alt 16 .done .no) .no)) (.alt 14 (.alt 5 (.take 6 (.alt 16 .done .no)) .no) .no))))))))))))))) 17 (by kernel_rfl) (by kernel_rfl) HWD.out kd (fun a ha => ?_)
         (simp only [pickT, List.getD_cons_zero, List.getD_cons_succ])
         have hsz : a.tmps.size = 258 := (by rw [ha]; kernel_rfl)
         have a3 : a.eval (.tmp 3) = .int .i64 L3 := (by rw [ha]; kernel_rfl)
         have a7 : a.eval (.tmp 7) = .pointer (some ⟨wr.heap.size, 0, none⟩) := (by rw [ha]; kernel_rfl)
         (with_reducible refine tree_held (v := ?_) rfl (by with_unfolding_all rfl) (fun ρ hρ W hW => ?_) ?_); (rotate_left 1)
         focus (clear hW; have p3 := hρ (.tmp 3); (simp (disch := (first | decide | ((try simp only [sz_put]); rw [hsz]; decide))) only [ev_eq, ev_ne, a3, a7] at p3); obtain ⟨hc, hfn⟩ := rhoCfCkSmall hρ; clear hρ; go_simp; (all_goals with_reducible first | rfl | (constructor <;> rfl)))
         (with_reducible refine tree_held (v := ?_) rfl (by with_unfolding_all rfl) (fun ρ hρ W hW => ?_) ?_); (rotate_left 1)
         focus (clear hW; have p97 := hρ (.tmp 97); (simp (disch := (first | decide | ((try simp only [sz_put]); rw [hsz]; decide))) only [ev_eq, ev_ne, a3, a7] at p97); obtain ⟨hc, hfn⟩ := rhoCfCkSmall hρ; clear hρ; (with_reducible exact sub_i64 p97 (hc _) (by assumption)))
         (with_reducible refine tree_held (v := ?_) rfl (by with_unfolding_all rfl) (fun ρ hρ W hW => ?_) ?_); (rotate_left 1)
         focus (clear hW; have p7 := hρ (.tmp 7); (simp (disch := (first | decide | ((try simp only [sz_put]); rw [hsz]; decide))) only [ev_eq, ev_ne, a3, a7] at p7); obtain ⟨hc, hfn⟩ := rhoCfCkSmall hρ; clear hρ; go_simp; (all_goals with_reducible first | rfl | (constructor <;> rfl)))
         (with_reducible refine tree_held (v := ?_) rfl (by with_unfolding_all rfl) (fun ρ hρ W hW => ?_) ?_); (rotate_left 1)
         focus (have hS := KS.out _ hW; clear hW; have p99 := hρ (.tmp 99); (simp (disch := (first | decide | ((try simp only [sz_put]); rw [hsz]; decide))) only [ev_eq, ev_ne, a3, a7] at p99); obtain ⟨hc, hfn⟩ := rhoCfCkSmall hρ; clear hρ; go_simp; (all_goals with_reducible first | rfl | (constructor <;> rfl)))
         (with_reducible refine tree_held (v := ?_) rfl (by with_unfolding_all rfl) (fun ρ hρ W hW => ?_) ?_); (rotate_left 1)
         focus (clear hW; have p3 := hρ (.tmp 3); (simp (disch := (first | decide | ((try simp only [sz_put]); rw [hsz]; decide))) only [ev_eq, ev_ne, a3, a7] at p3); obtain ⟨hc, hfn⟩ := rhoCfCkSmall hρ; clear hρ; go_simp; (all_goals with_reducible first | rfl | (constructor <;> rfl)))
         (with_reducible refine tree_held (v := ?_) rfl (by with_unfolding_all rfl) (fun ρ hρ W hW => ?_) ?_); (rotate_left 1)
         focus (clear hW; have p7 := hρ (.tmp 7); (simp (disch := (first | decide | ((try simp only [sz_put]); rw [hsz]; decide))) only [ev_eq, ev_ne, a3, a7] at p7); obtain ⟨hc, hfn⟩ := rhoCfCkSmall hρ; clear hρ; go_simp; (all_goals with_reducible first | rfl | (constructor <;> rfl)))
         (with_reducible refine tree_held (v := ?_) rfl (by with_unfolding_all rfl) (fun ρ hρ W hW => ?_) ?_); (rotate_left 1)
         focus (have hS := KS.out _ hW; clear hW; have p104 := hρ (.tmp 104); (simp (disch := (first | decide | ((try simp only [sz_put]); rw [hsz]; decide))) only [ev_eq, ev_ne, a3, a7] at p104); obtain ⟨hc, hfn⟩ := rhoCfCkSmall hρ; clear hρ; go_simp; (all_goals with_reducible first | rfl | (constructor <;> rfl)))
         (with_reducible refine tree_held (v := ?_) rfl (by with_unfolding_all rfl) (fun ρ hρ W hW => ?_) ?_); (rotate_left 1)
         focus (clear hW; have p7 := hρ (.tmp 7); (simp (disch := (first | decide | ((try simp only [sz_put]); rw [hsz]; decide))) only [ev_eq, ev_ne, a3, a7] at p7); obtain ⟨hc, hfn⟩ := rhoCfCkSmall hρ; clear hρ; go_simp; (all_goals with_reducible first | rfl | (constructor <;> rfl)))
         (with_reducible refine tree_held (v := ?_) rfl (by with_unfolding_all rfl) (fun ρ hρ W hW => ?_) ?_); (rotate_left 1)
         focus (clear hW; have p106 := hρ (.tmp 106); (simp (disch := (first | decide | ((try simp only [sz_put]); rw [hsz]; decide))) only [ev_eq, ev_ne, a3, a7] at p106); obtain ⟨hc, hfn⟩ := rhoCfCkSmall hρ; clear hρ; go_simp; (all_goals with_reducible first | rfl | (constructor <;> rfl)))
         (with_reducible refine tree_held (v := ?_) rfl (by with_unfolding_all rfl) (fun ρ hρ W hW => ?_) ?_); (rotate_left 1)
         focus (have hS := KS.out _ hW; clear hW; have p107 := hρ (.tmp 107); (simp (disch := (first | decide | ((try simp only [sz_put]); rw [hsz]; decide))) only [ev_eq, ev_ne, a3, a7] at p107); obtain ⟨hc, hfn⟩ := rhoCfCkSmall hρ; clear hρ; go_simp; (all_goals with_reducible first | rfl | (constructor <;> rfl)))
         (with_reducible refine tree_held (v := ?_) rfl (by with_unfolding_all rfl) (fun ρ hρ W hW => ?_) ?_); (rotate_left 1)
         focus (clear hW; have p7 := hρ (.tmp 7); (simp (disch := (first | decide | ((try simp only [sz_put]); rw [hsz]; decide))) only [ev_eq, ev_ne, a3, a7] at p7); obtain ⟨hc, hfn⟩ := rhoCfCkSmall hρ; clear hρ; go_simp; (all_goals with_reducible first | rfl | (constructor <;> rfl)))
         (with_reducible refine tree_held (v := ?_) rfl (by with_unfolding_all rfl) (fun ρ hρ W hW => ?_) ?_); (rotate_left 1)
         focus (have hS := KS.out _ hW; clear hW; have p109 := hρ (.tmp 109); (simp (disch := (first | decide | ((try simp only [sz_put]); rw [hsz]; decide))) only [ev_eq, ev_ne, a3, a7] at p109); obtain ⟨hc, hfn⟩ := rhoCfCkSmall hρ; clear hρ; go_simp; (all_goals with_reducible first | rfl | (constructor <;> rfl)))
         (with_reducible refine tree_held (v := ?_) rfl (by with_unfolding_all rfl) (fun ρ hρ W hW => ?_) ?_); (rotate_left 1)
         focus (clear hW; have p3 := hρ (.tmp 3); (simp (disch := (first | decide | ((try simp only [sz_put]); rw [hsz]; decide))) only [ev_eq, ev_ne, a3, a7] at p3); obtain ⟨hc, hfn⟩ := rhoCfCkSmall hρ; clear hρ; go_simp; (all_goals with_reducible first | rfl | (constructor <;> rfl)))
         (with_reducible refine tree_enter (f := ?_) (args := ?_) rfl (by with_unfolding_all rfl) (fun ρ hρ => ?_) ?_ ?_); (rotate_left 2)
         focus (have p100 := hρ (.tmp 100); have p101 := hρ (.tmp 101); (simp (disch := (first | decide | ((try simp only [sz_put]); rw [hsz]; decide))) only [ev_eq, ev_ne, a3, a7] at p100 p101); obtain ⟨hc, hfn⟩ := rhoCfCkSmall hρ; clear hρ; rw [execOp_call_rho (hfn _)]; clear hfn; go_simp; (all_goals with_reducible first | rfl | (constructor <;> rfl)))
         (with_reducible refine (CN.out _ (by (with_reducible repeat first | assumption | exact Bel.refl _ | refine Bel.drew ?_ | refine Bel.drewN ?_ _ | refine Bel.alloc ?_ _))).mono ?_)
         rintro e w1 ⟨rfl, g1⟩
         have q1 := Bel.of (Bel.refl _) g1
         have k1 : Bel (wr.alloc (.cells #[.int .i64 f.num, .string (S f.name), .int .i64 f.card, .int .i64 f.key, .int .i64 f.tk, .string (S f.tn), .string (S f.un), .bool f.hd, .int .i64 f.df.k, .int .u64 f.df.x, .string (S f.df.t), .slice r1 f.df.n1 d1, .slice r2 f.df.n2 d2, .slice r3 f.df.n3 d3, .slice r4 f.df.n4 d4, .slice v1 f.notes.length z1] 68)) w1 := Bel.of (by (with_reducible repeat first | assumption | exact Bel.refl _ | refine Bel.drew ?_ | refine Bel.drewN ?_ _ | refine Bel.alloc ?_ _)) g1
         clear g1
         refine ⟨_, rfl, (by (with_reducible repeat first | assumption | exact Bel.refl _ | refine Bel.drew ?_ | refine Bel.drewN ?_ _ | refine Bel.alloc ?_ _)), ?_⟩
         ·(with_reducible refine tree_held (v := ?_) rfl (by with_unfolding_all rfl) (fun ρ hρ W hW => ?_) ?_); (rotate_left 1)
          focus (clear hW; have p98 := hρ (.tmp 98); have p102 := hρ (.tmp 102); (simp (disch := (first | decide | ((try simp only [sz_put]); rw [hsz]; decide))) only [ev_eq, ev_ne, a3, a7] at p98 p102); obtain ⟨hc, hfn⟩ := rhoCfCkSmall hρ; clear hρ; (with_reducible exact sub_i64 p98 p102 (by assumption)))
          (with_reducible refine tree_step (v := ?_) (w' := ?_) rfl (by with_unfolding_all rfl) (fun ρ hρ => ?_) ?_ ?_ ?_); (rotate_left 2)
          focus (have p105 := hρ (.tmp 105); have p108 := hρ (.tmp 108); (simp (disch := (first | decide | ((try simp only [sz_put]); rw [hsz]; decide))) only [ev_eq, ev_ne, a3, a7] at p105 p108); have p110 := hρ (.tmp 110); (simp (disch := (first | decide | ((try simp only [sz_put]); rw [hsz]; decide))) only [ev_eq, ev_ne, a3, a7] at p110); obtain ⟨hc, hfn⟩ := rhoCfCkSmall hρ; clear hρ; go_simp; (all_goals with_reducible first | rfl | (constructor <;> rfl)))
          focus (with_reducible repeat first | assumption | exact Bel.refl _ | refine Bel.drew ?_ | refine Bel.drewN ?_ _ | refine Bel.alloc ?_ _)
          rotate_left 1
          focus exact tree_no
          (with_reducible refine tree_enter (f := ?_) (args := ?_) rfl (by with_unfolding_all rfl) (fun ρ hρ => ?_) ?_ ?_); (rotate_left 2)
          focus (have p111 := hρ (.tmp 111); have p112 := hρ (.tmp 112); (simp (disch := (first | decide | ((try simp only [sz_put]); rw [hsz]; decide))) only [ev_eq, ev_ne, a3, a7] at p111 p112); obtain ⟨hc, hfn⟩ := rhoCfCkSmall hρ; clear hρ; rw [execOp_call_rho (hfn _)]; clear hfn; go_simp; (all_goals with_reducible first | rfl | (constructor <;> rfl)))
          (with_reducible refine (CT.out _ _ (by (with_reducible repeat first | assumption | exact Bel.refl _ | refine Bel.drew ?_ | refine Bel.drewN ?_ _ | refine Bel.alloc ?_ _))).mono ?_)
          rintro e w3 ⟨rfl, rfl⟩
          refine ⟨_, rfl, (by (with_reducible repeat first | assumption | exact Bel.refl _ | refine Bel.drew ?_ | refine Bel.drewN ?_ _ | refine Bel.alloc ?_ _)), ?_⟩
          rotate_left 1
          focus exact tree_no
          refine tree_done ?_
          (simp only [List.drop_succ_cons, List.drop_zero])
          (with_reducible refine list_held (v := ?_) (w' := ?_) rfl (by with_unfolding_all rfl) (fun ρ hρ => ?_) ?_); (rotate_left 2)
          focus (have p103 := hρ (.tmp 103); have p113 := hρ (.tmp 113); (simp (disch := (first | decide | ((try simp only [sz_put]); rw [hsz]; decide))) only [ev_eq, ev_ne, a3, a7] at p103 p113); obtain ⟨hc, hfn⟩ := rhoCfCkSmall hρ; clear hρ; (with_reducible exact sub_i64 p103 p113 (by assumption)))
          (with_reducible refine list_held (v := ?_) (w' := ?_) rfl (by with_unfolding_all rfl) (fun ρ hρ => ?_) ?_); (rotate_left 2)
          focus (have p114 := hρ (.tmp 114); (simp (disch := (first | decide | ((try simp only [sz_put]); rw [hsz]; decide))) only [ev_eq, ev_ne, a3, a7] at p114); obtain ⟨hc, hfn⟩ := rhoCfCkSmall hρ; clear hρ; (with_reducible exact add_i64 p114 (hc _) (by assumption)))
          (with_reducible refine list_held (v := ?_) (w' := ?_) rfl (by with_unfolding_all rfl) (fun ρ hρ => ?_) ?_); (rotate_left 2)
          focus (have p115 := hρ (.tmp 115); (simp (disch := (first | decide | ((try simp only [sz_put]); rw [hsz]; decide))) only [ev_eq, ev_ne, a3, a7] at p115); obtain ⟨hc, hfn⟩ := rhoCfCkSmall hρ; clear hρ; go_simp; (all_goals with_reducible first | rfl | (constructor <;> rfl)))
          refine wpList_nil ?_
          subst ha
          (simp only [put_some, set_s, set_z])
          go_wp2
          go_meet
          exact ⟨_, rfl, (by (with_reducible repeat first | assumption | exact Bel.refl _ | refine Bel.drew ?_ | refine Bel.drewN ?_ _ | refine Bel.alloc ?_ _)), HEND.out⟩
         (with_reducible refine tree_step (v := ?_) (w' := ?_) rfl (by with_unfolding_all rfl) (fun ρ hρ => ?_) ?_ ?_ ?_); (rotate_left 2)
         focus (have p105 := hρ (.tmp 105); have p108 := hρ (.tmp 108); (simp (disch := (first | decide | ((try simp only [sz_put]); rw [hsz]; decide))) only [ev_eq, ev_ne, a3, a7] at p105 p108); have p110 := hρ (.tmp 110); (simp (disch := (first | decide | ((try simp only [sz_put]); rw [hsz]; decide))) only [ev_eq, ev_ne, a3, a7] at p110); obtain ⟨hc, hfn⟩ := rhoCfCkSmall hρ; clear hρ; go_simp; (all_goals with_reducible first | rfl | (constructor <;> rfl)))
         focus (with_reducible repeat first | assumption | exact Bel.refl _ | refine Bel.drew ?_ | refine Bel.drewN ?_ _ | refine Bel.alloc ?_ _)
         rotate_left 1
         focus exact tree_no
         (with_reducible refine tree_enter (f := ?_) (args := ?_) rfl (by with_unfolding_all rfl) (fun ρ hρ => ?_) ?_ ?_); (rotate_left 2)
         focus (have p100 := hρ (.tmp 100); have p101 := hρ (.tmp 101); (simp (disch := (first | decide | ((try simp only [sz_put]); rw [hsz]; decide))) only [ev_eq, ev_ne, a3, a7] at p100 p101); obtain ⟨hc, hfn⟩ := rhoCfCkSmall hρ; clear hρ; rw [execOp_call_rho (hfn _)]; clear hfn; go_simp; (all_goals with_reducible first | rfl | (constructor <;> rfl)))
         (with_reducible refine (CN.out _ (by (with_reducible repeat first | assumption | exact Bel.refl _ | refine Bel.drew ?_ | refine Bel.drewN ?_ _ | refine Bel.alloc ?_ _))).mono ?_)
         rintro e w2 ⟨rfl, g2⟩
         have q2 := Bel.of (Bel.refl _) g2
         have k2 : Bel (wr.alloc (.cells #[.int .i64 f.num, .string (S f.name), .int .i64 f.card, .int .i64 f.key, .int .i64 f.tk, .string (S f.tn), .string (S f.un), .bool f.hd, .int .i64 f.df.k, .int .u64 f.df.x, .string (S f.df.t), .slice r1 f.df.n1 d1, .slice r2 f.df.n2 d2, .slice r3 f.df.n3 d3, .slice r4 f.df.n4 d4, .slice v1 f.notes.length z1] 68)) w2 := Bel.of (by (with_reducible repeat first | assumption | exact Bel.refl _ | refine Bel.drew ?_ | refine Bel.drewN ?_ _ | refine Bel.alloc ?_ _)) g2
         clear g2
         refine ⟨_, rfl, (by (with_reducible repeat first | assumption | exact Bel.refl _ | refine Bel.drew ?_ | refine Bel.drewN ?_ _ | refine Bel.alloc ?_ _)), ?_⟩
         rotate_left 1
         focus exact tree_no
         (with_reducible refine tree_held (v := ?_) rfl (by with_unfolding_all rfl) (fun ρ hρ W hW => ?_) ?_); (rotate_left 1)
         focus (clear hW; have p98 := hρ (.tmp 98); have p102 := hρ (.tmp 102); (simp (disch := (first | decide | ((try simp only [sz_put]); rw [hsz]; decide))) only [ev_eq, ev_ne, a3, a7] at p98 p102); obtain ⟨hc, hfn⟩ := rhoCfCkSmall hρ; clear hρ; (with_reducible exact sub_i64 p98 p102 (by assumption)))
         (with_reducible refine tree_enter (f := ?_) (args := ?_) rfl (by with_unfolding_all rfl) (fun ρ hρ => ?_) ?_ ?_); (rotate_left 2)
         focus (have p111 := hρ (.tmp 111); have p112 := hρ (.tmp 112); (simp (disch := (first | decide | ((try simp only [sz_put]); rw [hsz]; decide))) only [ev_eq, ev_ne, a3, a7] at p111 p112); obtain ⟨hc, hfn⟩ := rhoCfCkSmall hρ; clear hρ; rw [execOp_call_rho (hfn _)]; clear hfn; go_simp; (all_goals with_reducible first | rfl | (constructor <;> rfl)))
         (with_reducible refine (CT.out _ _ (by (with_reducible repeat first | assumption | exact Bel.refl _ | refine Bel.drew ?_ | refine Bel.drewN ?_ _ | refine Bel.alloc ?_ _))).mono ?_)
         rintro e w3 ⟨rfl, rfl⟩
         refine ⟨_, rfl, (by (with_reducible repeat first | assumption | exact Bel.refl _ | refine Bel.drew ?_ | refine Bel.drewN ?_ _ | refine Bel.alloc ?_ _)), ?_⟩
         rotate_left 1
         focus exact tree_no
         refine tree_done ?_
         (simp only [List.drop_succ_cons, List.drop_zero])
         (with_reducible refine list_held (v := ?_) (w' := ?_) rfl (by with_unfolding_all rfl) (fun ρ hρ => ?_) ?_); (rotate_left 2)
         focus (have p103 := hρ (.tmp 103); have p113 := hρ (.tmp 113); (simp (disch := (first | decide | ((try simp only [sz_put]); rw [hsz]; decide))) only [ev_eq, ev_ne, a3, a7] at p103 p113); obtain ⟨hc, hfn⟩ := rhoCfCkSmall hρ; clear hρ; (with_reducible exact sub_i64 p103 p113 (by assumption)))
         (with_reducible refine list_held (v := ?_) (w' := ?_) rfl (by with_unfolding_all rfl) (fun ρ hρ => ?_) ?_); (rotate_left 2)
         focus (have p114 := hρ (.tmp 114); (simp (disch := (first | decide | ((try simp only [sz_put]); rw [hsz]; decide))) only [ev_eq, ev_ne, a3, a7] at p114); obtain ⟨hc, hfn⟩ := rhoCfCkSmall hρ; clear hρ; (with_reducible exact add_i64 p114 (hc _) (by assumption)))
         (with_reducible refine list_held (v := ?_) (w' := ?_) rfl (by with_unfolding_all rfl) (fun ρ hρ => ?_) ?_); (rotate_left 2)
         focus (have p115 := hρ (.tmp 115); (simp (disch := (first | decide | ((try simp only [sz_put]); rw [hsz]; decide))) only [ev_eq, ev_ne, a3, a7] at p115); obtain ⟨hc, hfn⟩ := rhoCfCkSmall hρ; clear hρ; go_simp; (all_goals with_reducible first | rfl | (constructor <;> rfl)))
         refine wpList_nil ?_
         subst ha
         (simp only [put_some, set_s, set_z])
         go_wp2
         go_meet
         exact ⟨_, rfl, (by (with_reducible repeat first | assumption | exact Bel.refl _ | refine Bel.drew ?_ | refine Bel.drewN ?_ _ | refine Bel.alloc ?_ _)), HEND.out⟩
        case rest =>
         obtain ⟨L4, hs4, kF2, hI4⟩ := hcut
         subst hs4
         clear HST CN CT s0 s1 s2 s3
         have hI41 : L4 ≤ 400 := hI4.out.1
         have hI42 : -1000000000000000000 ≤ L4 := hI4.out.2.1
         obtain ⟨n0, n1, n2, n3, n4, n5, n6, n7, n8, n9, n10, n11, n12, n13, n14, n15⟩ := KS2.out _ kF2
         have hsz : ((S f.df.t).size : Int) = f.df.t.length := by rw [S_size]
         have HNX := Lib.hid (show InvK okF x.fields (j + 1) L4 ∧ (0 ≤ L4 → okM x) from ⟨⟨hI41, hI42, fun h => by
          obtain ⟨a1, a2⟩ := hI4.out.2.2 h
          obtain ⟨a3, a4⟩ := hinv2.out.1.2.2 hJ
          exact ⟨by push_cast; omega, take_more HG2.out a4 a1⟩⟩, fun h => hinv2.out.2 hJ⟩)
         have HNX2 := Lib.hid (show InvK okF x.fields (j + 1) (-1) ∧ (0 ≤ (-1 : Int) → okM x) from ⟨⟨by omega, by omega, fun h => absurd h (by omega)⟩, fun h => absurd h (by omega)⟩)
         have kEnd := Bel.of kw2 (Bel.of kF kF2.out).out
         by_cases hbig : 300 < (f.df.t.length : Int)
         ·have hb2' : (300 : Int) < ((S f.df.t).size : Int) := by omega
          clear hsz
          go_wp2
          exact ⟨⟨j + 1, -1, by omega, by go_num, rfl, kEnd, HNX2⟩, by simp [intOf]; omega⟩
         ·have hb2' : ¬ (300 : Int) < ((S f.df.t).size : Int) := by omega
          clear hsz
          go_wp2
          exact ⟨⟨j + 1, L4, by omega, by go_num, rfl, kEnd, HNX⟩, by simp [intOf]; omega⟩
       ·go_wp2
        exact ⟨⟨k + 1, L3, by omega, by go_num, rfl, Bel.of kM0 kw2.out, Lib.hid ⟨hJ1, hJ2, fun h => absurd h (by omega)⟩⟩, by simp [intOf]; omega⟩
      ·have hji : ¬ (j : Int) < (x.fields.length : Int) := by omega
       have hjl : j = x.fields.length := by omega
       have hdone : 0 ≤ L3 → okMsg x := fun h => by
        obtain ⟨⟨_, _, h1⟩, h2⟩ := hinv2.out
        obtain ⟨h3, h4⟩ := h1 h
        rw [hjl, List.take_length] at h4
        exact ⟨h2 h, by omega, h4⟩
       have HNEW := Lib.hid (show Inv (True) okMsg s.msgs (k + 1) L3 from ⟨hJ1, hJ2, fun h => ⟨(hinv.out.2.2 hL).1, take_more HG.out (hinv.out.2.2 hL).2 (hdone h)⟩⟩)
       clear hdone
       go_wp2
       exact ⟨⟨k + 1, L3, by omega, by go_num, rfl, Bel.of kM0 kw2.out, HNEW⟩, by simp [intOf]; omega⟩
   ·have HX := Lib.hid (show Inv (True) okMsg s.msgs s.msgs.length L from ⟨hL1, hL2, fun h => absurd h hL⟩)
    go_wp2
    all_goals exact ⟨L, rfl, kw, HX⟩
  ·have hki : ¬ (k : Int) < (s.msgs.length : Int) := by omega
   have hkl : k = s.msgs.length := by omega
   have HX := Lib.hid (show Inv (True) okMsg s.msgs s.msgs.length L by rw [hkl] at hinv; exact hinv.out)
   go_wp2
   all_goals exact ⟨L, rfl, kw, HX⟩
set_option maxHeartbeats 4000000 in
set_option maxRecDepth 100000 in
theorem sm_loop1 (sq1 sq2 sq3 : Option Addr) (sc1 sc2 sc3 : Nat) (s : PSchema) (w wc : World) (LL : Int) (HM2 : Hid (Sv 5 VEnum w (.slice sq2 s.enums.length sc2) s.enums)) (hb : (s.enums.length : Int) ≤ 140737488355328)
  (KB : Hid (∀ W', Bel (w.alloc (.cells #[.slice sq1 s.msgs.length sc1, .slice sq2 s.enums.length sc2, .slice sq3 s.svcs.length sc3] 26)) W' → W'.cell? ⟨w.heap.size, 0, none⟩ = some (.slice sq1 s.msgs.length sc1) ∧ W'.cell? ⟨w.heap.size, 1, none⟩ = some (.slice sq2 s.enums.length sc2) ∧ W'.cell? ⟨w.heap.size, 2, none⟩ = some (.slice sq3 s.svcs.length sc3))) (kb : Bel w (w.alloc (.cells #[.slice sq1 s.msgs.length sc1, .slice sq2 s.enums.length sc2, .slice sq3 s.svcs.length sc3] 26))) (kc : Bel (w.alloc (.cells #[.slice sq1 s.msgs.length sc1, .slice sq2 s.enums.length sc2, .slice sq3 s.svcs.length sc3] 26)) wc) (hLL1 : LL ≤ 400) (hLL2 : -1000000000000000000 ≤ LL) (hR : 0 ≤ LL → ∀ m ∈ s.msgs, okMsg m) (K' : Act → World → Prop) (R : Ending → World → Prop)
  (g0 g2 g4 g5 g6 g7 g9 g10 g11 g12 g13 g14 g15 g16 g17 g18 g19 g20 g21 g22 g23 g24 g25 g26 g27 g28 g29 g30 g31 g32 g33 g34 g35 g36 g37 g38 g39 g40 g41 g42 g43 g44 g45 g46 g47 g48 g49 g50 g51 g52 g53 g54 g55 g56 g57 g58 g59 g60 g61 g62 g63 g64 g65 g66 g67 g68 g69 g70 g71 g72 g73 g74 g75 g76 g77 g78 g79 g80 g81 g82 g83 g84 g85 g86 g87 g88 g89 g90 g91 g92 g93 g94 g95 g96 g97 g98 g99 g100 g101 g102 g103 g104 g105 g106 g107 g108 g109 g110 g111 g112 g113 g114 g115 g116 g117 g118 g119 g120 g121 g122 g123 g124 g125 g126 g127 g128 g129 g130 g131 g132 g133 g134 g135 g136 g137 g138 g139 g140 g141 g142 g143 g144 g145 g146 g147 g148 g149 g150 g151 g152 g153 g154 g155 g156 g157 g158 g159 g160 g161 g162 g163 g164 g165 g166 g167 g168 g169 g170 g171 g172 g173 g174 g175 g176 g177 g178 g179 g180 g181 g182 g183 g184 g185 g186 g187 g188 g189 g190 g191 g192 g193 g194 g195 g196 g197 g198 g199 g200 g201 g202 g203 g204 g205 g206 g207 g208 g209 g210 g211 g212 g213 g214 g215 g216 g217 g218 g219 g220 g221 g222 g223 g224 g225 g226 g227 g228 g229 g230 g231 g232 g233 g234 g235 g236 g237 g238 g239 g240 g241 g242 g243 g244 g245 g246 g247 g248 g249 g250 g251 g252 g253 g254 g255 g256 g257 : Value) (hM : ∀ (wx : World) (u3 u8 u9 u10 u121 u122 u123 u124 u125 u126 u127 u128 u129 u130 u131 u132 u133 u134 u135 u136 u137 u138 u139 u140 u141 u142 u143 u144 u145 u146 u147 u148 u149 u150 u151 u152 u153 u154 u155 u156 u157 u158 u159 u160 u161 u162 u163 u164 u165 u166 u167 u168 u169 u170 u171 u172 u173 u174 u175 u176 u177 u178 u179 u180 u181 u182 u183 : Value), (∃ L : Int, u3 = .int .i64 L ∧ Bel (w.alloc (.cells #[.slice sq1 s.msgs.length sc1, .slice sq2 s.enums.length sc2, .slice sq3 s.svcs.length sc3] 26)) wx ∧ Hid (Inv (∀ m ∈ s.msgs, okMsg m) okEnum s.enums s.enums.length L)) → K' ⟨#[g0, .pointer (some ⟨w.heap.size, 0, none⟩), g2, u3, g4, g5, g6, g7, u8, u9, u10, g11, g12, g13, g14, g15, g16, g17, g18, g19, g20, g21, g22, g23, g24, g25, g26, g27, g28, g29, g30, g31, g32, g33, g34, g35, g36, g37, g38, g39, g40, g41, g42, g43, g44, g45, g46, g47, g48, g49, g50, g51, g52, g53, g54, g55, g56, g57, g58, g59, g60, g61, g62, g63, g64, g65, g66, g67, g68, g69, g70, g71, g72, g73, g74, g75, g76, g77, g78, g79, g80, g81, g82, g83, g84, g85, g86, g87, g88, g89, g90, g91, g92, g93, g94, g95, g96, g97, g98, g99, g100, g101, g102, g103, g104, g105, g106, g107, g108, g109, g110, g111, g112, g113, g114, g115, g116, g117, g118, g119, g120, u121, u122, u123, u124, u125, u126, u127, u128, u129, u130, u131, u132, u133, u134, u135, u136, u137, u138, u139, u140, u141, u142, u143, u144, u145, u146, u147, u148, u149, u150, u151, u152, u153, u154, u155, u156, u157, u158, u159, u160, u161, u162, u163, u164, u165, u166, u167, u168, u169, u170, u171, u172, u173, u174, u175, u176, u177, u178, u179, u180, u181, u182, u183, g184, g185, g186, g187, g188, g189, g190, g191, g192, g193, g194, g195, g196, g197, g198, g199, g200, g201, g202, g203, g204, g205, g206, g207, g208, g209, g210, g211, g212, g213, g214, g215, g216, g217, g218, g219, g220, g221, g222, g223, g224, g225, g226, g227, g228, g229, g230, g231, g232, g233, g234, g235, g236, g237, g238, g239, g240, g241, g242, g243, g244, g245, g246, g247, g248, g249, g250, g251, g252, g253, g254, g255, g256, g257], []⟩ wx) :
  Code.wp Tryz.prog (smB 4) (Exit.then K' (bodyPost Tryz.prog Tryz.f7 R)) ⟨#[g0, .pointer (some ⟨w.heap.size, 0, none⟩), g2, .int .i64 LL, g4, g5, g6, g7, .int .i64 0, g9, g10, g11, g12, g13, g14, g15, g16, g17, g18, g19, g20, g21, g22, g23, g24, g25, g26, g27, g28, g29, g30, g31, g32, g33, g34, g35, g36, g37, g38, g39, g40, g41, g42, g43, g44, g45, g46, g47, g48, g49, g50, g51, g52, g53, g54, g55, g56, g57, g58, g59, g60, g61, g62, g63, g64, g65, g66, g67, g68, g69, g70, g71, g72, g73, g74, g75, g76, g77, g78, g79, g80, g81, g82, g83, g84, g85, g86, g87, g88, g89, g90, g91, g92, g93, g94, g95, g96, g97, g98, g99, g100, g101, g102, g103, g104, g105, g106, g107, g108, g109, g110, g111, g112, g113, g114, g115, g116, g117, g118, g119, g120, g121, g122, g123, g124, g125, g126, g127, g128, g129, g130, g131, g132, g133, g134, g135, g136, g137, g138, g139, g140, g141, g142, g143, g144, g145, g146, g147, g148, g149, g150, g151, g152, g153, g154, g155, g156, g157, g158, g159, g160, g161, g162, g163, g164, g165, g166, g167, g168, g169, g170, g171, g172, g173, g174, g175, g176, g177, g178, g179, g180, g181, g182, g183, g184, g185, g186, g187, g188, g189, g190, g191, g192, g193, g194, g195, g196, g197, g198, g199, g200, g201, g202, g203, g204, g205, g206, g207, g208, g209, g210, g211, g212, g213, g214, g215, g216, g217, g218, g219, g220, g221, g222, g223, g224, g225, g226, g227, g228, g229, g230, g231, g232, g233, g234, g235, g236, g237, g238, g239, g240, g241, g242, g243, g244, g245, g246, g247, g248, g249, g250, g251, g252, g253, g254, g255, g256, g257], []⟩ wc := by
 conv => arg 2; whnf
 go_wp2
 go_loopw [3, 8] (fun l i wr => ∃ (k : Nat) (L : Int), k ≤ s.enums.length ∧ i = .int .i64 k ∧ l = .int .i64 L ∧ Bel (w.alloc (.cells #[.slice sq1 s.msgs.length sc1, .slice sq2 s.enums.length sc2, .slice sq3 s.svcs.length sc3] 26)) wr ∧ Hid (Inv (∀ m ∈ s.msgs, okMsg m) okEnum s.enums k L)) (fun _ i _ => s.enums.length - (intOf i).toNat)
 case atStart => exact ⟨0, LL, by omega, rfl, rfl, kc, Lib.hid ⟨hLL1, hLL2, fun h => ⟨hR h, fun x hx => by simp at hx⟩⟩⟩
 case round =>
  clear hLL1 hLL2 hR kc
  obtain ⟨k, L, hk, rfl, rfl, kw, hinv⟩ := hrel
  obtain ⟨wm, hwm⟩ : ∃ wm, wm = wr := ⟨_, rfl⟩
  subst hwm
  have hL1 : L ≤ 400 := hinv.out.1
  have hL2 : -1000000000000000000 ≤ L := hinv.out.2.1
  obtain ⟨c0, c1, c2⟩ := KB.out _ kw
  by_cases hlt : k < s.enums.length
  ·have hki : (k : Int) < (s.enums.length : Int) := by omega
   by_cases hL : 0 ≤ L
   ·have hg := List.getElem?_eq_getElem hlt
    have hlist := HM2.out
    obtain ⟨qq, cq, hqe, _, _, hel⟩ := hlist
    cases hqe
    obtain ⟨b, off, hqq, hbs, cs, hce, hvs⟩ := hel k _ hg
    have HG := Lib.hid hg
    subst hqq
    obtain ⟨_, _, _, hvv, g1, g2, g3⟩ := hvs
    obtain ⟨u1, y1, rfl, hs1⟩ := sl_form g1
    obtain ⟨u2, y2, rfl, hs2⟩ := sl_form g2
    obtain ⟨u3, y3, rfl, hs3⟩ := sl_form g3
    subst hvv
    have hb0 : Bel w wm := Bel.of kb kw.out
    have e0 := hb0.some (hce 0 _ rfl)
    rw [Nat.add_zero] at e0
    have e1 := hb0.some (hce 1 _ rfl)
    have e2 := hb0.some (hce 2 _ rfl)
    have e3 := hb0.some (hce 3 _ rfl)
    have e4 := hb0.some (hce 4 _ rfl)
    have G1 := Lib.hid g1
    have G2 := Lib.hid g2
    have G3 := Lib.hid g3
    clear hce hg hel g1 g2 g3
    generalize s.enums[k] = x at *
    have kM : Bel wm (wm.alloc (.cells #[.string (S x.name), .bool x.op, .slice u1 x.items.length y1, .slice u2 x.res.length y2, .slice u3 x.notes.length y3] 48)) := (Bel.refl _).alloc _
    have KS := Lib.hid (fun W' (kq : Bel (wm.alloc (.cells #[.string (S x.name), .bool x.op, .slice u1 x.items.length y1, .slice u2 x.res.length y2, .slice u3 x.notes.length y3] 48)) W') => show W'.cell? ⟨wm.heap.size, 0, none⟩ = some (.string (S x.name)) ∧ W'.cell? ⟨wm.heap.size, 1, none⟩ = some (.bool x.op) ∧ W'.cell? ⟨wm.heap.size, 2, none⟩ = some (.slice u1 x.items.length y1) ∧ W'.cell? ⟨wm.heap.size, 3, none⟩ = some (.slice u2 x.res.length y2) ∧ W'.cell? ⟨wm.heap.size, 4, none⟩ = some (.slice u3 x.notes.length y3) from ⟨kq.some ((World.cell?_alloc_at _ _ _ _ rfl).trans rfl), kq.some ((World.cell?_alloc_at _ _ _ _ rfl).trans rfl), kq.some ((World.cell?_alloc_at _ _ _ _ rfl).trans rfl), kq.some ((World.cell?_alloc_at _ _ _ _ rfl).trans rfl), kq.some ((World.cell?_alloc_at _ _ _ _ rfl).trans rfl)⟩)
    have CN := Lib.hid (fun W (kq : Bel (wm.alloc (.cells #[.string (S x.name), .bool x.op, .slice u1 x.items.length y1, .slice u2 x.res.length y2, .slice u3 x.notes.length y3] 48)) W) => rf_fewNotes (.slice u3 x.notes.length y3) x.notes L W (G3.out.bel VNote.stays (Bel.of hb0 (Bel.of kM kq).out)) (by omega) (by omega))
    have CT := Lib.hid (fun (W W' : World) (kq : Bel (W.alloc (.cells #[.string (S x.name)] 9)) W') => rf_fewTexts _ [x.name] L W' (texts_fresh1 x.name kq) (by omega) (by omega))
    have hst := step_enum (e := x) hL hL1
    have f1 := fn_pos x.notes.length L (by omega) hL x.notes 0
    have f3 := ft_pos 1 L (by omega) hL [x.name] 0
    generalize fnGo x.notes.length L 0 x.notes = F at CN hst f1
    have CT2 : Hid (∀ (W W' : World), Bel (W.alloc (.cells #[.string (S x.name)] 9)) W' → Calls Tryz.prog 24 #[.slice (some ⟨W.heap.size, 0, none⟩) 1 1, .int .i64 L] W' fun e w' => e = .returned (.int .i64 (ftGo 1 L 0 [x.name])) ∧ W' = w') := CT
    clear CT
    generalize ftGo 1 L 0 [x.name] = N at CT2 hst f3
    have CT := CT2
    clear CT2
    have HST := Lib.hid hst
    have F0 : 0 ≤ F := f1.1
    have F1 : F ≤ 140737488355738 := by omega
    have N0 : 0 ≤ N := f3.1
    have N1 : N ≤ 1000 := by omega
    clear hst f1 f3
    have s0 : IntKind.i64.wrap (L - F) = L - F := IntWalk.i64_in _ (by omega)
    have s1 : IntKind.i64.wrap (L - F - (x.res.length : Int)) = L - F - (x.res.length : Int) := IntWalk.i64_in _ (by omega)
    have s2 : IntKind.i64.wrap (L - F - (x.res.length : Int) - N) = L - F - (x.res.length : Int) - N := IntWalk.i64_in _ (by omega)
    go_upto_region 20 with (fail)
    go_cut [3] (fun s3 wx => ∃ L2 : Int, s3 = .int .i64 L2 ∧ Bel (wm.alloc (.cells #[.string (S x.name), .bool x.op, .slice u1 x.items.length y1, .slice u2 x.res.length y2, .slice u3 x.notes.length y3] 48)) wx ∧ Hid (L2 ≤ 400 ∧ -1000000000000000000 ≤ L2 ∧ (0 ≤ L2 → okE x)))
    case first =>
     obtain ⟨wd, hwd⟩ : ∃ wd, wd = (wm.alloc (.cells #[.string (S x.name), .bool x.op, .slice u1 x.items.length y1, .slice u2 x.res.length y2, .slice u3 x.notes.length y3] 48)).drew := ⟨_, rfl⟩
     have kd : Bel (wm.alloc (.cells #[.string (S x.name), .bool x.op, .slice u1 x.items.length y1, .slice u2 x.res.length y2, .slice u3 x.notes.length y3] 48)) wd := by rw [hwd]; exact (Bel.refl _).drew
     have HWD := Lib.hid hwd
     have HEND := Lib.hid (show (L - F - (x.res.length : Int) - N) ≤ 400 ∧ -1000000000000000000 ≤ (L - F - (x.res.length : Int) - N) ∧ (0 ≤ (L - F - (x.res.length : Int) - N) → okE x) from ⟨by omega, by omega, HST.out⟩)
     clear hwd
     refine region_treeA (fun W => Bel (wm.alloc (.cells #[.string (S x.name), .bool x.op, .slice u1 x.items.length y1, .slice u2 x.res.length y2, .slice u3 x.notes.length y3] 48)) W) (.take 0 (.take 1 (.take 2 (.take 3 (.take 6 (.take 7 (.take 8 (.take 10 (.take 11 (.take 13 (.alt 4 (.take 5 (.take 9 (.alt 12 (.alt 14 .done .no) .no))) (.alt 12 (.alt 4 (.take 5 (.take 9 (.alt 14 .done .no))) .no) .no)))))))))))) 15 (by kernel_rfl) (by kernel_rfl) HWD.out kd (fun a ha => ?_)
     (simp only [pickT, List.getD_cons_zero, List.getD_cons_succ])
     have hsz : a.tmps.size = 258 := (by rw [ha]; kernel_rfl)
     have a3 : a.eval (.tmp 3) = .int .i64 L := (by rw [ha]; kernel_rfl)
     have a9 : a.eval (.tmp 9) = .pointer (some ⟨wm.heap.size, 0, none⟩) := (by rw [ha]; kernel_rfl)
     (with_reducible refine tree_held (v := ?_) rfl (by with_unfolding_all rfl) (fun ρ hρ W hW => ?_) ?_); (rotate_left 1)
     focus (clear hW; have p3 := hρ (.tmp 3); (simp (disch := (first | decide | ((try simp only [sz_put]); rw [hsz]; decide))) only [ev_eq, ev_ne, a3, a9] at p3); obtain ⟨hc, hfn⟩ := rhoCfCkSmall hρ; clear hρ; go_simp; (all_goals with_reducible first | rfl | (constructor <;> rfl)))
     (with_reducible refine tree_held (v := ?_) rfl (by with_unfolding_all rfl) (fun ρ hρ W hW => ?_) ?_); (rotate_left 1)
     focus (clear hW; have p9 := hρ (.tmp 9); (simp (disch := (first | decide | ((try simp only [sz_put]); rw [hsz]; decide))) only [ev_eq, ev_ne, a3, a9] at p9); obtain ⟨hc, hfn⟩ := rhoCfCkSmall hρ; clear hρ; go_simp; (all_goals with_reducible first | rfl | (constructor <;> rfl)))
     (with_reducible refine tree_held (v := ?_) rfl (by with_unfolding_all rfl) (fun ρ hρ W hW => ?_) ?_); (rotate_left 1)
     focus (have hS := KS.out _ hW; clear hW; have p138 := hρ (.tmp 138); (simp (disch := (first | decide | ((try simp only [sz_put]); rw [hsz]; decide))) only [ev_eq, ev_ne, a3, a9] at p138); obtain ⟨hc, hfn⟩ := rhoCfCkSmall hρ; clear hρ; go_simp; (all_goals with_reducible first | rfl | (constructor <;> rfl)))
     (with_reducible refine tree_held (v := ?_) rfl (by with_unfolding_all rfl) (fun ρ hρ W hW => ?_) ?_); (rotate_left 1)
     focus (clear hW; have p3 := hρ (.tmp 3); (simp (disch := (first | decide | ((try simp only [sz_put]); rw [hsz]; decide))) only [ev_eq, ev_ne, a3, a9] at p3); obtain ⟨hc, hfn⟩ := rhoCfCkSmall hρ; clear hρ; go_simp; (all_goals with_reducible first | rfl | (constructor <;> rfl)))
     (with_reducible refine tree_held (v := ?_) rfl (by with_unfolding_all rfl) (fun ρ hρ W hW => ?_) ?_); (rotate_left 1)
     focus (clear hW; have p9 := hρ (.tmp 9); (simp (disch := (first | decide | ((try simp only [sz_put]); rw [hsz]; decide))) only [ev_eq, ev_ne, a3, a9] at p9); obtain ⟨hc, hfn⟩ := rhoCfCkSmall hρ; clear hρ; go_simp; (all_goals with_reducible first | rfl | (constructor <;> rfl)))
     (with_reducible refine tree_held (v := ?_) rfl (by with_unfolding_all rfl) (fun ρ hρ W hW => ?_) ?_); (rotate_left 1)
     focus (have hS := KS.out _ hW; clear hW; have p143 := hρ (.tmp 143); (simp (disch := (first | decide | ((try simp only [sz_put]); rw [hsz]; decide))) only [ev_eq, ev_ne, a3, a9] at p143); obtain ⟨hc, hfn⟩ := rhoCfCkSmall hρ; clear hρ; go_simp; (all_goals with_reducible first | rfl | (constructor <;> rfl)))
     (with_reducible refine tree_held (v := ?_) rfl (by with_unfolding_all rfl) (fun ρ hρ W hW => ?_) ?_); (rotate_left 1)
     focus (clear hW; have p144 := hρ (.tmp 144); (simp (disch := (first | decide | ((try simp only [sz_put]); rw [hsz]; decide))) only [ev_eq, ev_ne, a3, a9] at p144); obtain ⟨hc, hfn⟩ := rhoCfCkSmall hρ; clear hρ; go_simp; (all_goals with_reducible first | rfl | (constructor <;> rfl)))
     (with_reducible refine tree_held (v := ?_) rfl (by with_unfolding_all rfl) (fun ρ hρ W hW => ?_) ?_); (rotate_left 1)
     focus (clear hW; have p9 := hρ (.tmp 9); (simp (disch := (first | decide | ((try simp only [sz_put]); rw [hsz]; decide))) only [ev_eq, ev_ne, a3, a9] at p9); obtain ⟨hc, hfn⟩ := rhoCfCkSmall hρ; clear hρ; go_simp; (all_goals with_reducible first | rfl | (constructor <;> rfl)))
     (with_reducible refine tree_held (v := ?_) rfl (by with_unfolding_all rfl) (fun ρ hρ W hW => ?_) ?_); (rotate_left 1)
     focus (have hS := KS.out _ hW; clear hW; have p147 := hρ (.tmp 147); (simp (disch := (first | decide | ((try simp only [sz_put]); rw [hsz]; decide))) only [ev_eq, ev_ne, a3, a9] at p147); obtain ⟨hc, hfn⟩ := rhoCfCkSmall hρ; clear hρ; go_simp; (all_goals with_reducible first | rfl | (constructor <;> rfl)))
     (with_reducible refine tree_held (v := ?_) rfl (by with_unfolding_all rfl) (fun ρ hρ W hW => ?_) ?_); (rotate_left 1)
     focus (clear hW; have p3 := hρ (.tmp 3); (simp (disch := (first | decide | ((try simp only [sz_put]); rw [hsz]; decide))) only [ev_eq, ev_ne, a3, a9] at p3); obtain ⟨hc, hfn⟩ := rhoCfCkSmall hρ; clear hρ; go_simp; (all_goals with_reducible first | rfl | (constructor <;> rfl)))
     (with_reducible refine tree_enter (f := ?_) (args := ?_) rfl (by with_unfolding_all rfl) (fun ρ hρ => ?_) ?_ ?_); (rotate_left 2)
     focus (have p139 := hρ (.tmp 139); have p140 := hρ (.tmp 140); (simp (disch := (first | decide | ((try simp only [sz_put]); rw [hsz]; decide))) only [ev_eq, ev_ne, a3, a9] at p139 p140); obtain ⟨hc, hfn⟩ := rhoCfCkSmall hρ; clear hρ; rw [execOp_call_rho (hfn _)]; clear hfn; go_simp; (all_goals with_reducible first | rfl | (constructor <;> rfl)))
     (with_reducible refine (CN.out _ (by (with_reducible repeat first | assumption | exact Bel.refl _ | refine Bel.drew ?_ | refine Bel.drewN ?_ _ | refine Bel.alloc ?_ _))).mono ?_)
     rintro e w1 ⟨rfl, g1⟩
     have q1 := Bel.of (Bel.refl _) g1
     have k1 : Bel (wm.alloc (.cells #[.string (S x.name), .bool x.op, .slice u1 x.items.length y1, .slice u2 x.res.length y2, .slice u3 x.notes.length y3] 48)) w1 := Bel.of (by (with_reducible repeat first | assumption | exact Bel.refl _ | refine Bel.drew ?_ | refine Bel.drewN ?_ _ | refine Bel.alloc ?_ _)) g1
     clear g1
     refine ⟨_, rfl, (by (with_reducible repeat first | assumption | exact Bel.refl _ | refine Bel.drew ?_ | refine Bel.drewN ?_ _ | refine Bel.alloc ?_ _)), ?_⟩
     ·(with_reducible refine tree_held (v := ?_) rfl (by with_unfolding_all rfl) (fun ρ hρ W hW => ?_) ?_); (rotate_left 1)
      focus (clear hW; have p137 := hρ (.tmp 137); have p141 := hρ (.tmp 141); (simp (disch := (first | decide | ((try simp only [sz_put]); rw [hsz]; decide))) only [ev_eq, ev_ne, a3, a9] at p137 p141); obtain ⟨hc, hfn⟩ := rhoCfCkSmall hρ; clear hρ; (with_reducible exact sub_i64 p137 p141 (by assumption)))
      (with_reducible refine tree_held (v := ?_) rfl (by with_unfolding_all rfl) (fun ρ hρ W hW => ?_) ?_); (rotate_left 1)
      focus (clear hW; have p142 := hρ (.tmp 142); have p145 := hρ (.tmp 145); (simp (disch := (first | decide | ((try simp only [sz_put]); rw [hsz]; decide))) only [ev_eq, ev_ne, a3, a9] at p142 p145); obtain ⟨hc, hfn⟩ := rhoCfCkSmall hρ; clear hρ; (with_reducible exact sub_i64 p142 p145 (by assumption)))
      (with_reducible refine tree_step (v := ?_) (w' := ?_) rfl (by with_unfolding_all rfl) (fun ρ hρ => ?_) ?_ ?_ ?_); (rotate_left 2)
      focus (have p148 := hρ (.tmp 148); (simp (disch := (first | decide | ((try simp only [sz_put]); rw [hsz]; decide))) only [ev_eq, ev_ne, a3, a9] at p148); obtain ⟨hc, hfn⟩ := rhoCfCkSmall hρ; clear hρ; go_simp; (all_goals with_reducible first | rfl | (constructor <;> rfl)))
      focus (with_reducible repeat first | assumption | exact Bel.refl _ | refine Bel.drew ?_ | refine Bel.drewN ?_ _ | refine Bel.alloc ?_ _)
      rotate_left 1
      focus exact tree_no
      (with_reducible refine tree_enter (f := ?_) (args := ?_) rfl (by with_unfolding_all rfl) (fun ρ hρ => ?_) ?_ ?_); (rotate_left 2)
      focus (have p149 := hρ (.tmp 149); have p150 := hρ (.tmp 150); (simp (disch := (first | decide | ((try simp only [sz_put]); rw [hsz]; decide))) only [ev_eq, ev_ne, a3, a9] at p149 p150); obtain ⟨hc, hfn⟩ := rhoCfCkSmall hρ; clear hρ; rw [execOp_call_rho (hfn _)]; clear hfn; go_simp; (all_goals with_reducible first | rfl | (constructor <;> rfl)))
      (with_reducible refine (CT.out _ _ (by (with_reducible repeat first | assumption | exact Bel.refl _ | refine Bel.drew ?_ | refine Bel.drewN ?_ _ | refine Bel.alloc ?_ _))).mono ?_)
      rintro e w3 ⟨rfl, rfl⟩
      refine ⟨_, rfl, (by (with_reducible repeat first | assumption | exact Bel.refl _ | refine Bel.drew ?_ | refine Bel.drewN ?_ _ | refine Bel.alloc ?_ _)), ?_⟩
      rotate_left 1
      focus exact tree_no
      refine tree_done ?_
      (simp only [List.drop_succ_cons, List.drop_zero])
      (with_reducible refine list_held (v := ?_) (w' := ?_) rfl (by with_unfolding_all rfl) (fun ρ hρ => ?_) ?_); (rotate_left 2)
      focus (have p146 := hρ (.tmp 146); have p151 := hρ (.tmp 151); (simp (disch := (first | decide | ((try simp only [sz_put]); rw [hsz]; decide))) only [ev_eq, ev_ne, a3, a9] at p146 p151); obtain ⟨hc, hfn⟩ := rhoCfCkSmall hρ; clear hρ; (with_reducible exact sub_i64 p146 p151 (by assumption)))
      (with_reducible refine list_held (v := ?_) (w' := ?_) rfl (by with_unfolding_all rfl) (fun ρ hρ => ?_) ?_); (rotate_left 2)
      focus (have p152 := hρ (.tmp 152); (simp (disch := (first | decide | ((try simp only [sz_put]); rw [hsz]; decide))) only [ev_eq, ev_ne, a3, a9] at p152); obtain ⟨hc, hfn⟩ := rhoCfCkSmall hρ; clear hρ; go_simp; (all_goals with_reducible first | rfl | (constructor <;> rfl)))
      refine wpList_nil ?_
      subst ha
      (simp only [put_some, set_s, set_z])
      go_wp2
      go_meet
      exact ⟨_, rfl, (by (with_reducible repeat first | assumption | exact Bel.refl _ | refine Bel.drew ?_ | refine Bel.drewN ?_ _ | refine Bel.alloc ?_ _)), HEND.out⟩
     (with_reducible refine tree_step (v := ?_) (w' := ?_) rfl (by with_unfolding_all rfl) (fun ρ hρ => ?_) ?_ ?_ ?_); (rotate_left 2)
     focus (have p148 := hρ (.tmp 148); (simp (disch := (first | decide | ((try simp only [sz_put]); rw [hsz]; decide))) only [ev_eq, ev_ne, a3, a9] at p148); obtain ⟨hc, hfn⟩ := rhoCfCkSmall hρ; clear hρ; go_simp; (all_goals with_reducible first | rfl | (constructor <;> rfl)))
     focus (with_reducible repeat first | assumption | exact Bel.refl _ | refine Bel.drew ?_ | refine Bel.drewN ?_ _ | refine Bel.alloc ?_ _)
     rotate_left 1
     focus exact tree_no
     (with_reducible refine tree_enter (f := ?_) (args := ?_) rfl (by with_unfolding_all rfl) (fun ρ hρ => ?_) ?_ ?_); (rotate_left 2)
     focus (have p139 := hρ (.tmp 139); have p140 := hρ (.tmp 140); (simp (disch := (first | decide | ((try simp only [sz_put]); rw [hsz]; decide))) only [ev_eq, ev_ne, a3, a9] at p139 p140); obtain ⟨hc, hfn⟩ := rhoCfCkSmall hρ; clear hρ; rw [execOp_call_rho (hfn _)]; clear hfn; go_simp; (all_goals with_reducible first | rfl | (constructor <;> rfl)))
     (with_reducible refine (CN.out _ (by (with_reducible repeat first | assumption | exact Bel.refl _ | refine Bel.drew ?_ | refine Bel.drewN ?_ _ | refine Bel.alloc ?_ _))).mono ?_)
     rintro e w2 ⟨rfl, g2⟩
     have q2 := Bel.of (Bel.refl _) g2
     have k2 : Bel (wm.alloc (.cells #[.string (S x.name), .bool x.op, .slice u1 x.items.length y1, .slice u2 x.res.length y2, .slice u3 x.notes.length y3] 48)) w2 := Bel.of (by (with_reducible repeat first | assumption | exact Bel.refl _ | refine Bel.drew ?_ | refine Bel.drewN ?_ _ | refine Bel.alloc ?_ _)) g2
     clear g2
     refine ⟨_, rfl, (by (with_reducible repeat first | assumption | exact Bel.refl _ | refine Bel.drew ?_ | refine Bel.drewN ?_ _ | refine Bel.alloc ?_ _)), ?_⟩
     rotate_left 1
     focus exact tree_no
     (with_reducible refine tree_held (v := ?_) rfl (by with_unfolding_all rfl) (fun ρ hρ W hW => ?_) ?_); (rotate_left 1)
     focus (clear hW; have p137 := hρ (.tmp 137); have p141 := hρ (.tmp 141); (simp (disch := (first | decide | ((try simp only [sz_put]); rw [hsz]; decide))) only [ev_eq, ev_ne, a3, a9] at p137 p141); obtain ⟨hc, hfn⟩ := rhoCfCkSmall hρ; clear hρ; (with_reducible exact sub_i64 p137 p141 (by assumption)))
     (with_reducible refine tree_held (v := ?_) rfl (by with_unfolding_all rfl) (fun ρ hρ W hW => ?_) ?_); (rotate_left 1)
     focus (clear hW; have p142 := hρ (.tmp 142); have p145 := hρ (.tmp 145); (simp (disch := (first | decide | ((try simp only [sz_put]); rw [hsz]; decide))) only [ev_eq, ev_ne, a3, a9] at p142 p145); obtain ⟨hc, hfn⟩ := rhoCfCkSmall hρ; clear hρ; (with_reducible exact sub_i64 p142 p145 (by assumption)))
     (with_reducible refine tree_enter (f := ?_) (args := ?_) rfl (by with_unfolding_all rfl) (fun ρ hρ => ?_) ?_ ?_); (rotate_left 2)
     focus (have p149 := hρ (.tmp 149); have p150 := hρ (.tmp 150); (simp (disch := (first | decide | ((try simp only [sz_put]); rw [hsz]; decide))) only [ev_eq, ev_ne, a3, a9] at p149 p150); obtain ⟨hc, hfn⟩ := rhoCfCkSmall hρ; clear hρ; rw [execOp_call_rho (hfn _)]; clear hfn; go_simp; (all_goals with_reducible first | rfl | (constructor <;> rfl)))
     (with_reducible refine (CT.out _ _ (by (with_reducible repeat first | assumption | exact Bel.refl _ | refine Bel.drew ?_ | refine Bel.drewN ?_ _ | refine Bel.alloc ?_ _))).mono ?_)
     rintro e w3 ⟨rfl, rfl⟩
     refine ⟨_, rfl, (by (with_reducible repeat first | assumption | exact Bel.refl _ | refine Bel.drew ?_ | refine Bel.drewN ?_ _ | refine Bel.alloc ?_ _)), ?_⟩
     rotate_left 1
     focus exact tree_no
     refine tree_done ?_
     (simp only [List.drop_succ_cons, List.drop_zero])
     (with_reducible refine list_held (v := ?_) (w' := ?_) rfl (by with_unfolding_all rfl) (fun ρ hρ => ?_) ?_); (rotate_left 2)
     focus (have p146 := hρ (.tmp 146); have p151 := hρ (.tmp 151); (simp (disch := (first | decide | ((try simp only [sz_put]); rw [hsz]; decide))) only [ev_eq, ev_ne, a3, a9] at p146 p151); obtain ⟨hc, hfn⟩ := rhoCfCkSmall hρ; clear hρ; (with_reducible exact sub_i64 p146 p151 (by assumption)))
     (with_reducible refine list_held (v := ?_) (w' := ?_) rfl (by with_unfolding_all rfl) (fun ρ hρ => ?_) ?_); (rotate_left 2)
     focus (have p152 := hρ (.tmp 152); (simp (disch := (first | decide | ((try simp only [sz_put]); rw [hsz]; decide))) only [ev_eq, ev_ne, a3, a9] at p152); obtain ⟨hc, hfn⟩ := rhoCfCkSmall hρ; clear hρ; go_simp; (all_goals with_reducible first | rfl | (constructor <;> rfl)))
     refine wpList_nil ?_
     subst ha
     (simp only [put_some, set_s, set_z])
     go_wp2
     go_meet
     exact ⟨_, rfl, (by (with_reducible repeat first | assumption | exact Bel.refl _ | refine Bel.drew ?_ | refine Bel.drewN ?_ _ | refine Bel.alloc ?_ _)), HEND.out⟩
    case rest =>
     obtain ⟨L2, hs3, kI, hI⟩ := hcut
     subst hs3
     clear HST CN CT s0 s1 s2
     have hI1 : L2 ≤ 400 := hI.out.1
     have hI2 : -1000000000000000000 ≤ L2 := hI.out.2.1
     go_wp2
     have kM0 := kw.alloc (.cells #[.string (S x.name), .bool x.op, .slice u1 x.items.length y1, .slice u2 x.res.length y2, .slice u3 x.notes.length y3] 48)
     go_loopw [3, 10] (fun l i wr => ∃ (j : Nat) (L3 : Int), j ≤ x.items.length ∧ i = .int .i64 j ∧ l = .int .i64 L3 ∧ Bel (wm.alloc (.cells #[.string (S x.name), .bool x.op, .slice u1 x.items.length y1, .slice u2 x.res.length y2, .slice u3 x.notes.length y3] 48)) wr ∧ Hid (InvK okI x.items j L3 ∧ (0 ≤ L3 → okE x))) (fun _ i _ => x.items.length - (intOf i).toNat)
     case atStart => exact ⟨0, L2, by omega, rfl, rfl, kI, Lib.hid ⟨⟨hI1, hI2, fun h => ⟨by omega, fun x hx => by simp at hx⟩⟩, hI.out.2.2⟩⟩
     case round =>
      obtain ⟨j, L3, hj, rfl, rfl, kw2, hinv2⟩ := hrel
      have hJ1 : L3 ≤ 400 := hinv2.out.1.1
      have hJ2 : -1000000000000000000 ≤ L3 := hinv2.out.1.2.1
      obtain ⟨m0, m1, m2, m3, m4⟩ := KS.out _ kw2
      by_cases hlt2 : j < x.items.length
      ·have hji : (j : Int) < (x.items.length : Int) := by omega
       by_cases hJ : 0 ≤ L3
       ·have hg2 := List.getElem?_eq_getElem hlt2
        have hlist2 := G1.out
        obtain ⟨qq2, cq2, hqe2, _, _, hel2⟩ := hlist2
        cases hqe2
        obtain ⟨b2, off2, hqq2, hbs2, cs2, hce2, hvs2⟩ := hel2 j _ hg2
        have HG2 := Lib.hid hg2
        subst hqq2
        have hbw : Bel w wr := Bel.of hb0 (Bel.of kM kw2.out).out
        obtain ⟨_, hvs1, hnt⟩ := hvs2
        obtain ⟨v1, z1, hnv, hnl⟩ := sl_form hnt
        subst hvs1 hnv
        have HNT := Lib.hid hnt
        generalize x.items[j] = f at *
        have hcl : ∀ W', Bel wr W' → W'.cell? ⟨b2, off2 + j * 3, none⟩ = some (.string (S f.name)) ∧ W'.cell? ⟨b2, off2 + j * 3 + 1, none⟩ = some (.int .i64 f.num) ∧ W'.cell? ⟨b2, off2 + j * 3 + 2, none⟩ = some (.slice v1 f.notes.length z1) := fun W' kq => ⟨by have := kq.some (hbw.some (hce2 0 _ rfl)); rwa [Nat.add_zero] at this, kq.some (hbw.some (hce2 1 _ rfl)), kq.some (hbw.some (hce2 2 _ rfl))⟩
        have HCL := Lib.hid hcl
        clear hce2 hg2 hnt hel2 hcl
        have KS2 := Lib.hid (fun W' (kq : Bel wr W') => And.intro (HCL.out W' kq) (KS.out W' (Bel.of kw2 kq.out)))
        have CN := Lib.hid (fun W (kq : Bel wr W) => rf_fewNotes (.slice v1 f.notes.length z1) f.notes L3 W (HNT.out.bel VNote.stays (Bel.of hbw (Bel.of (Bel.refl _ : Bel wr wr) kq.out).out)) (by omega) (by omega))
        have CT0 := Lib.hid (fun (W W' : World) (kq : Bel (W.alloc (.cells #[.string (S f.name)] 9)) W') => rf_fewTexts _ [f.name] L3 W' (texts_fresh1 f.name kq) (by omega) (by omega))
        have hst := step_item (i := f) hJ hJ1
        have f1 := fn_pos f.notes.length L3 (by omega) hJ f.notes 0
        have f3 := ft_pos 1 L3 (by omega) hJ [f.name] 0
        generalize fnGo f.notes.length L3 0 f.notes = F2 at CN hst f1
        have CT : Hid (∀ (W W' : World), Bel (W.alloc (.cells #[.string (S f.name)] 9)) W' → Calls Tryz.prog 24 #[.slice (some ⟨W.heap.size, 0, none⟩) 1 1, .int .i64 L3] W' fun e w' => e = .returned (.int .i64 (ftGo 1 L3 0 [f.name])) ∧ W' = w') := CT0
        clear CT0
        generalize ftGo 1 L3 0 [f.name] = N2 at CT hst f3
        have HST := Lib.hid hst
        have F20 : 0 ≤ F2 := f1.1
        have F21 : F2 ≤ 140737488355738 := by omega
        have N20 : 0 ≤ N2 := f3.1
        have N21 : N2 ≤ 1000 := by omega
        clear hst f1 f3
        have s0 : IntKind.i64.wrap (L3 - F2) = L3 - F2 := IntWalk.i64_in _ (by omega)
        have s1 : IntKind.i64.wrap (L3 - F2 - N2) = L3 - F2 - N2 := IntWalk.i64_in _ (by omega)
        have j0 : (0 : Int) ≤ (j : Int) := by omega
        go_upto_region 24 with (fail)
        have hle4 : (L3 - F2 - N2) ≤ 400 := by
         rcases Int.lt_or_le (L3 - F2 - N2) 0 with h | h
         ·omega
         ·have := (HST.out h).2
          omega
        have HNX := Lib.hid (show InvK okI x.items (j + 1) (L3 - F2 - N2) ∧ (0 ≤ (L3 - F2 - N2) → okE x) from ⟨⟨hle4, by omega, fun h => by
         obtain ⟨a1, a2⟩ := HST.out h
         obtain ⟨a3, a4⟩ := hinv2.out.1.2.2 hJ
         exact ⟨by push_cast; omega, take_more HG2.out a4 a1⟩⟩, fun h => hinv2.out.2 hJ⟩)
        obtain ⟨wd, hwd⟩ : ∃ wd, wd = wr.drew := ⟨_, rfl⟩
        have kd : Bel wr wd := by rw [hwd]; exact (Bel.refl _).drew
        have HWD := Lib.hid hwd
        have hle4 : (L3 - F2 - N2) ≤ 400 := by
         rcases Int.lt_or_le (L3 - F2 - N2) 0 with h | h
         ·omega
         ·have := (HST.out h).2
          omega
        have HEND := Lib.hid (show (L3 - F2 - N2) ≤ 400 ∧ -1000000000000000000 ≤ (L3 - F2 - N2) ∧ (0 ≤ (L3 - F2 - N2) → okI f ∧ (L3 - F2 - N2) ≤ L3 - 1) from ⟨hle4, by omega, HST.out⟩)
        clear hle4
        clear hwd
        have KS0 := KS
        clear KS
        have KS := KS2
        refine region_treeA (fun W => Bel wr W) (.take 0 (.take 1 (.take 2 (.take 3 (.take 4 (.take 5 (.take 6 (.take 7 (.take 10 (.take 11 (.take 12 (.take 13 (.take 14 (.take 15 (.take 17 (.alt 8 (.take 9 (.alt 16 (.alt 18 .done .no) .no)) (.alt 16 (.alt 8 (.take 9 (.alt 18 .done .no)) .no) .no))))))))))))))))) 19 (by kernel_rfl) (by kernel_rfl) HWD.out kd (fun a ha => ?_)
        (simp only [pickT, List.getD_cons_zero, List.getD_cons_succ])
        have hsz : a.tmps.size = 258 := (by rw [ha]; kernel_rfl)
        have a3 : a.eval (.tmp 3) = .int .i64 L3 := (by rw [ha]; kernel_rfl)
        have a9 : a.eval (.tmp 9) = .pointer (some ⟨wm.heap.size, 0, none⟩) := (by rw [ha]; kernel_rfl)
        have a10 : a.eval (.tmp 10) = .int .i64 j := (by rw [ha]; kernel_rfl)
        (with_reducible refine tree_held (v := ?_) rfl (by with_unfolding_all rfl) (fun ρ hρ W hW => ?_) ?_); (rotate_left 1)
        focus (clear hW; have p3 := hρ (.tmp 3); (simp (disch := (first | decide | ((try simp only [sz_put]); rw [hsz]; decide))) only [ev_eq, ev_ne, a3, a9, a10] at p3); obtain ⟨hc, hfn⟩ := rhoCfCkSmall hρ; clear hρ; go_simp; (all_goals with_reducible first | rfl | (constructor <;> rfl)))
        (with_reducible refine tree_held (v := ?_) rfl (by with_unfolding_all rfl) (fun ρ hρ W hW => ?_) ?_); (rotate_left 1)
        focus (clear hW; have p9 := hρ (.tmp 9); (simp (disch := (first | decide | ((try simp only [sz_put]); rw [hsz]; decide))) only [ev_eq, ev_ne, a3, a9, a10] at p9); obtain ⟨hc, hfn⟩ := rhoCfCkSmall hρ; clear hρ; go_simp; (all_goals with_reducible first | rfl | (constructor <;> rfl)))
        (with_reducible refine tree_held (v := ?_) rfl (by with_unfolding_all rfl) (fun ρ hρ W hW => ?_) ?_); (rotate_left 1)
        focus (have hS := KS.out _ hW; clear hW; have p165 := hρ (.tmp 165); (simp (disch := (first | decide | ((try simp only [sz_put]); rw [hsz]; decide))) only [ev_eq, ev_ne, a3, a9, a10] at p165); obtain ⟨hc, hfn⟩ := rhoCfCkSmall hρ; clear hρ; go_simp; (all_goals with_reducible first | rfl | (constructor <;> rfl)))
        (with_reducible refine tree_held (v := ?_) rfl (by with_unfolding_all rfl) (fun ρ hρ W hW => ?_) ?_); (rotate_left 1)
        focus (clear hW; have p10 := hρ (.tmp 10); (simp (disch := (first | decide | ((try simp only [sz_put]); rw [hsz]; decide))) only [ev_eq, ev_ne, a3, a9, a10] at p10); obtain ⟨hc, hfn⟩ := rhoCfCkSmall hρ; clear hρ; go_simp; (all_goals with_reducible first | rfl | (constructor <;> rfl)))
        (with_reducible refine tree_held (v := ?_) rfl (by with_unfolding_all rfl) (fun ρ hρ W hW => ?_) ?_); (rotate_left 1)
        focus (clear hW; have p166 := hρ (.tmp 166); have p167 := hρ (.tmp 167); (simp (disch := (first | decide | ((try simp only [sz_put]); rw [hsz]; decide))) only [ev_eq, ev_ne, a3, a9, a10] at p166 p167); obtain ⟨hc, hfn⟩ := rhoCfCkSmall hρ; clear hρ; go_simp; (all_goals with_reducible first | rfl | (constructor <;> rfl)))
        (with_reducible refine tree_held (v := ?_) rfl (by with_unfolding_all rfl) (fun ρ hρ W hW => ?_) ?_); (rotate_left 1)
        focus (clear hW; have p168 := hρ (.tmp 168); (simp (disch := (first | decide | ((try simp only [sz_put]); rw [hsz]; decide))) only [ev_eq, ev_ne, a3, a9, a10] at p168); obtain ⟨hc, hfn⟩ := rhoCfCkSmall hρ; clear hρ; go_simp; (all_goals with_reducible first | rfl | (constructor <;> rfl)))
        (with_reducible refine tree_held (v := ?_) rfl (by with_unfolding_all rfl) (fun ρ hρ W hW => ?_) ?_); (rotate_left 1)
        focus (have hS := KS.out _ hW; clear hW; have p169 := hρ (.tmp 169); (simp (disch := (first | decide | ((try simp only [sz_put]); rw [hsz]; decide))) only [ev_eq, ev_ne, a3, a9, a10] at p169); obtain ⟨hc, hfn⟩ := rhoCfCkSmall hρ; clear hρ; go_simp; (all_goals with_reducible first | rfl | (constructor <;> rfl)))
        (with_reducible refine tree_held (v := ?_) rfl (by with_unfolding_all rfl) (fun ρ hρ W hW => ?_) ?_); (rotate_left 1)
        focus (clear hW; have p3 := hρ (.tmp 3); (simp (disch := (first | decide | ((try simp only [sz_put]); rw [hsz]; decide))) only [ev_eq, ev_ne, a3, a9, a10] at p3); obtain ⟨hc, hfn⟩ := rhoCfCkSmall hρ; clear hρ; go_simp; (all_goals with_reducible first | rfl | (constructor <;> rfl)))
        (with_reducible refine tree_held (v := ?_) rfl (by with_unfolding_all rfl) (fun ρ hρ W hW => ?_) ?_); (rotate_left 1)
        focus (clear hW; have p9 := hρ (.tmp 9); (simp (disch := (first | decide | ((try simp only [sz_put]); rw [hsz]; decide))) only [ev_eq, ev_ne, a3, a9, a10] at p9); obtain ⟨hc, hfn⟩ := rhoCfCkSmall hρ; clear hρ; go_simp; (all_goals with_reducible first | rfl | (constructor <;> rfl)))
        (with_reducible refine tree_held (v := ?_) rfl (by with_unfolding_all rfl) (fun ρ hρ W hW => ?_) ?_); (rotate_left 1)
        focus (have hS := KS.out _ hW; clear hW; have p174 := hρ (.tmp 174); (simp (disch := (first | decide | ((try simp only [sz_put]); rw [hsz]; decide))) only [ev_eq, ev_ne, a3, a9, a10] at p174); obtain ⟨hc, hfn⟩ := rhoCfCkSmall hρ; clear hρ; go_simp; (all_goals with_reducible first | rfl | (constructor <;> rfl)))
        (with_reducible refine tree_held (v := ?_) rfl (by with_unfolding_all rfl) (fun ρ hρ W hW => ?_) ?_); (rotate_left 1)
        focus (clear hW; have p10 := hρ (.tmp 10); (simp (disch := (first | decide | ((try simp only [sz_put]); rw [hsz]; decide))) only [ev_eq, ev_ne, a3, a9, a10] at p10); obtain ⟨hc, hfn⟩ := rhoCfCkSmall hρ; clear hρ; go_simp; (all_goals with_reducible first | rfl | (constructor <;> rfl)))
        (with_reducible refine tree_held (v := ?_) rfl (by with_unfolding_all rfl) (fun ρ hρ W hW => ?_) ?_); (rotate_left 1)
        focus (clear hW; have p175 := hρ (.tmp 175); have p176 := hρ (.tmp 176); (simp (disch := (first | decide | ((try simp only [sz_put]); rw [hsz]; decide))) only [ev_eq, ev_ne, a3, a9, a10] at p175 p176); obtain ⟨hc, hfn⟩ := rhoCfCkSmall hρ; clear hρ; go_simp; (all_goals with_reducible first | rfl | (constructor <;> rfl)))
        (with_reducible refine tree_held (v := ?_) rfl (by with_unfolding_all rfl) (fun ρ hρ W hW => ?_) ?_); (rotate_left 1)
        focus (clear hW; have p177 := hρ (.tmp 177); (simp (disch := (first | decide | ((try simp only [sz_put]); rw [hsz]; decide))) only [ev_eq, ev_ne, a3, a9, a10] at p177); obtain ⟨hc, hfn⟩ := rhoCfCkSmall hρ; clear hρ; go_simp; (all_goals with_reducible first | rfl | (constructor <;> rfl)))
        (with_reducible refine tree_held (v := ?_) rfl (by with_unfolding_all rfl) (fun ρ hρ W hW => ?_) ?_); (rotate_left 1)
        focus (have hS := KS.out _ hW; clear hW; have p178 := hρ (.tmp 178); (simp (disch := (first | decide | ((try simp only [sz_put]); rw [hsz]; decide))) only [ev_eq, ev_ne, a3, a9, a10] at p178); obtain ⟨hc, hfn⟩ := rhoCfCkSmall hρ; clear hρ; go_simp; (all_goals with_reducible first | rfl | (constructor <;> rfl)))
        (with_reducible refine tree_held (v := ?_) rfl (by with_unfolding_all rfl) (fun ρ hρ W hW => ?_) ?_); (rotate_left 1)
        focus (clear hW; have p3 := hρ (.tmp 3); (simp (disch := (first | decide | ((try simp only [sz_put]); rw [hsz]; decide))) only [ev_eq, ev_ne, a3, a9, a10] at p3); obtain ⟨hc, hfn⟩ := rhoCfCkSmall hρ; clear hρ; go_simp; (all_goals with_reducible first | rfl | (constructor <;> rfl)))
        (with_reducible refine tree_enter (f := ?_) (args := ?_) rfl (by with_unfolding_all rfl) (fun ρ hρ => ?_) ?_ ?_); (rotate_left 2)
        focus (have p170 := hρ (.tmp 170); have p171 := hρ (.tmp 171); (simp (disch := (first | decide | ((try simp only [sz_put]); rw [hsz]; decide))) only [ev_eq, ev_ne, a3, a9, a10] at p170 p171); obtain ⟨hc, hfn⟩ := rhoCfCkSmall hρ; clear hρ; rw [execOp_call_rho (hfn _)]; clear hfn; go_simp; (all_goals with_reducible first | rfl | (constructor <;> rfl)))
        (with_reducible refine (CN.out _ (by (with_reducible repeat first | assumption | exact Bel.refl _ | refine Bel.drew ?_ | refine Bel.drewN ?_ _ | refine Bel.alloc ?_ _))).mono ?_)
        rintro e w1 ⟨rfl, g1⟩
        have q1 := Bel.of (Bel.refl _) g1
        have k1 : Bel wr w1 := Bel.of (by (with_reducible repeat first | assumption | exact Bel.refl _ | refine Bel.drew ?_ | refine Bel.drewN ?_ _ | refine Bel.alloc ?_ _)) g1
        clear g1
        refine ⟨_, rfl, (by (with_reducible repeat first | assumption | exact Bel.refl _ | refine Bel.drew ?_ | refine Bel.drewN ?_ _ | refine Bel.alloc ?_ _)), ?_⟩
        ·(with_reducible refine tree_held (v := ?_) rfl (by with_unfolding_all rfl) (fun ρ hρ W hW => ?_) ?_); (rotate_left 1)
         focus (clear hW; have p164 := hρ (.tmp 164); have p172 := hρ (.tmp 172); (simp (disch := (first | decide | ((try simp only [sz_put]); rw [hsz]; decide))) only [ev_eq, ev_ne, a3, a9, a10] at p164 p172); obtain ⟨hc, hfn⟩ := rhoCfCkSmall hρ; clear hρ; (with_reducible exact sub_i64 p164 p172 (by assumption)))
         (with_reducible refine tree_step (v := ?_) (w' := ?_) rfl (by with_unfolding_all rfl) (fun ρ hρ => ?_) ?_ ?_ ?_); (rotate_left 2)
         focus (have p179 := hρ (.tmp 179); (simp (disch := (first | decide | ((try simp only [sz_put]); rw [hsz]; decide))) only [ev_eq, ev_ne, a3, a9, a10] at p179); obtain ⟨hc, hfn⟩ := rhoCfCkSmall hρ; clear hρ; go_simp; (all_goals with_reducible first | rfl | (constructor <;> rfl)))
         focus (with_reducible repeat first | assumption | exact Bel.refl _ | refine Bel.drew ?_ | refine Bel.drewN ?_ _ | refine Bel.alloc ?_ _)
         rotate_left 1
         focus exact tree_no
         (with_reducible refine tree_enter (f := ?_) (args := ?_) rfl (by with_unfolding_all rfl) (fun ρ hρ => ?_) ?_ ?_); (rotate_left 2)
         focus (have p180 := hρ (.tmp 180); have p181 := hρ (.tmp 181); (simp (disch := (first | decide | ((try simp only [sz_put]); rw [hsz]; decide))) only [ev_eq, ev_ne, a3, a9, a10] at p180 p181); obtain ⟨hc, hfn⟩ := rhoCfCkSmall hρ; clear hρ; rw [execOp_call_rho (hfn _)]; clear hfn; go_simp; (all_goals with_reducible first | rfl | (constructor <;> rfl)))
         (with_reducible refine (CT.out _ _ (by (with_reducible repeat first | assumption | exact Bel.refl _ | refine Bel.drew ?_ | refine Bel.drewN ?_ _ | refine Bel.alloc ?_ _))).mono ?_)
         rintro e w3 ⟨rfl, rfl⟩
         refine ⟨_, rfl, (by (with_reducible repeat first | assumption | exact Bel.refl _ | refine Bel.drew ?_ | refine Bel.drewN ?_ _ | refine Bel.alloc ?_ _)), ?_⟩
         rotate_left 1
         focus exact tree_no
         refine tree_done ?_
         (simp only [List.drop_succ_cons, List.drop_zero])
         (with_reducible refine list_held (v := ?_) (w' := ?_) rfl (by with_unfolding_all rfl) (fun ρ hρ => ?_) ?_); (rotate_left 2)
         focus (have p173 := hρ (.tmp 173); have p182 := hρ (.tmp 182); (simp (disch := (first | decide | ((try simp only [sz_put]); rw [hsz]; decide))) only [ev_eq, ev_ne, a3, a9, a10] at p173 p182); obtain ⟨hc, hfn⟩ := rhoCfCkSmall hρ; clear hρ; (with_reducible exact sub_i64 p173 p182 (by assumption)))
         (with_reducible refine list_held (v := ?_) (w' := ?_) rfl (by with_unfolding_all rfl) (fun ρ hρ => ?_) ?_); (rotate_left 2)
         focus (have p183 := hρ (.tmp 183); (simp (disch := (first | decide | ((try simp only [sz_put]); rw [hsz]; decide))) only [ev_eq, ev_ne, a3, a9, a10] at p183); obtain ⟨hc, hfn⟩ := rhoCfCkSmall hρ; clear hρ; go_simp; (all_goals with_reducible first | rfl | (constructor <;> rfl)))
         refine wpList_nil ?_
         subst ha
         (simp only [put_some, set_s, set_z])
         go_wp2
         exact ⟨⟨j + 1, _, by omega, by go_num, rfl, Bel.of kw2 (show Bel wr _ from (by (with_reducible repeat first | assumption | exact Bel.refl _ | refine Bel.drew ?_ | refine Bel.drewN ?_ _ | refine Bel.alloc ?_ _))).out, HNX⟩, by simp [intOf]; omega⟩
        (with_reducible refine tree_step (v := ?_) (w' := ?_) rfl (by with_unfolding_all rfl) (fun ρ hρ => ?_) ?_ ?_ ?_); (rotate_left 2)
        focus (have p179 := hρ (.tmp 179); (simp (disch := (first | decide | ((try simp only [sz_put]); rw [hsz]; decide))) only [ev_eq, ev_ne, a3, a9, a10] at p179); obtain ⟨hc, hfn⟩ := rhoCfCkSmall hρ; clear hρ; go_simp; (all_goals with_reducible first | rfl | (constructor <;> rfl)))
        focus (with_reducible repeat first | assumption | exact Bel.refl _ | refine Bel.drew ?_ | refine Bel.drewN ?_ _ | refine Bel.alloc ?_ _)
        rotate_left 1
        focus exact tree_no
        (with_reducible refine tree_enter (f := ?_) (args := ?_) rfl (by with_unfolding_all rfl) (fun ρ hρ => ?_) ?_ ?_); (rotate_left 2)
        focus (have p170 := hρ (.tmp 170); have p171 := hρ (.tmp 171); (simp (disch := (first | decide | ((try simp only [sz_put]); rw [hsz]; decide))) only [ev_eq, ev_ne, a3, a9, a10] at p170 p171); obtain ⟨hc, hfn⟩ := rhoCfCkSmall hρ; clear hρ; rw [execOp_call_rho (hfn _)]; clear hfn; go_simp; (all_goals with_reducible first | rfl | (constructor <;> rfl)))
        (with_reducible refine (CN.out _ (by (with_reducible repeat first | assumption | exact Bel.refl _ | refine Bel.drew ?_ | refine Bel.drewN ?_ _ | refine Bel.alloc ?_ _))).mono ?_)
        rintro e w2 ⟨rfl, g2⟩
        have q2 := Bel.of (Bel.refl _) g2
        have k2 : Bel wr w2 := Bel.of (by (with_reducible repeat first | assumption | exact Bel.refl _ | refine Bel.drew ?_ | refine Bel.drewN ?_ _ | refine Bel.alloc ?_ _)) g2
        clear g2
        refine ⟨_, rfl, (by (with_reducible repeat first | assumption | exact Bel.refl _ | refine Bel.drew ?_ | refine Bel.drewN ?_ _ | refine Bel.alloc ?_ _)), ?_⟩
        rotate_left 1
        focus exact tree_no
        (with_reducible refine tree_held (v := ?_) rfl (by with_unfolding_all rfl) (fun ρ hρ W hW => ?_) ?_); (rotate_left 1)
        focus (clear hW; have p164 := hρ (.tmp 164); have p172 := hρ (.tmp 172); (simp (disch := (first | decide | ((try simp only [sz_put]); rw [hsz]; decide))) only [ev_eq, ev_ne, a3, a9, a10] at p164 p172); obtain ⟨hc, hfn⟩ := rhoCfCkSmall hρ; clear hρ; (with_reducible exact sub_i64 p164 p172 (by assumption)))
        (with_reducible refine tree_enter (f := ?_) (args := ?_) rfl (by with_unfolding_all rfl) (fun ρ hρ => ?_) ?_ ?_); (rotate_left 2)
        focus (have p180 := hρ (.tmp 180); have p181 := hρ (.tmp 181); (simp (disch := (first | decide | ((try simp only [sz_put]); rw [hsz]; decide))) only [ev_eq, ev_ne, a3, a9, a10] at p180 p181); obtain ⟨hc, hfn⟩ := rhoCfCkSmall hρ; clear hρ; rw [execOp_call_rho (hfn _)]; clear hfn; go_simp; (all_goals with_reducible first | rfl | (constructor <;> rfl)))
        (with_reducible refine (CT.out _ _ (by (with_reducible repeat first | assumption | exact Bel.refl _ | refine Bel.drew ?_ | refine Bel.drewN ?_ _ | refine Bel.alloc ?_ _))).mono ?_)
        rintro e w3 ⟨rfl, rfl⟩
        refine ⟨_, rfl, (by (with_reducible repeat first | assumption | exact Bel.refl _ | refine Bel.drew ?_ | refine Bel.drewN ?_ _ | refine Bel.alloc ?_ _)), ?_⟩
        rotate_left 1
        focus exact tree_no
        refine tree_done ?_
        (simp only [List.drop_succ_cons, List.drop_zero])
        (with_reducible refine list_held (v := ?_) (w' := ?_) rfl (by with_unfolding_all rfl) (fun ρ hρ => ?_) ?_); (rotate_left 2)
        focus (have p173 := hρ (.tmp 173); have p182 := hρ (.tmp 182); (simp (disch := (first | decide | ((try simp only [sz_put]); rw [hsz]; decide))) only [ev_eq, ev_ne, a3, a9, a10] at p173 p182); obtain ⟨hc, hfn⟩ := rhoCfCkSmall hρ; clear hρ; (with_reducible exact sub_i64 p173 p182 (by assumption)))
        (with_reducible refine list_held (v := ?_) (w' := ?_) rfl (by with_unfolding_all rfl) (fun ρ hρ => ?_) ?_); (rotate_left 2)
        focus (have p183 := hρ (.tmp 183); (simp (disch := (first | decide | ((try simp only [sz_put]); rw [hsz]; decide))) only [ev_eq, ev_ne, a3, a9, a10] at p183); obtain ⟨hc, hfn⟩ := rhoCfCkSmall hρ; clear hρ; go_simp; (all_goals with_reducible first | rfl | (constructor <;> rfl)))
        refine wpList_nil ?_
        subst ha
        (simp only [put_some, set_s, set_z])
        go_wp2
        exact ⟨⟨j + 1, _, by omega, by go_num, rfl, Bel.of kw2 (show Bel wr _ from (by (with_reducible repeat first | assumption | exact Bel.refl _ | refine Bel.drew ?_ | refine Bel.drewN ?_ _ | refine Bel.alloc ?_ _))).out, HNX⟩, by simp [intOf]; omega⟩
       ·go_wp2
        exact ⟨⟨k + 1, L3, by omega, by go_num, rfl, Bel.of kM0 kw2.out, Lib.hid ⟨hJ1, hJ2, fun h => absurd h (by omega)⟩⟩, by simp [intOf]; omega⟩
      ·have hji : ¬ (j : Int) < (x.items.length : Int) := by omega
       have hjl : j = x.items.length := by omega
       have hdone : 0 ≤ L3 → okEnum x := fun h => by
        obtain ⟨⟨_, _, h1⟩, h2⟩ := hinv2.out
        obtain ⟨h3, h4⟩ := h1 h
        rw [hjl, List.take_length] at h4
        exact ⟨h2 h, by omega, h4⟩
       have HNEW := Lib.hid (show Inv (∀ m ∈ s.msgs, okMsg m) okEnum s.enums (k + 1) L3 from ⟨hJ1, hJ2, fun h => ⟨(hinv.out.2.2 hL).1, take_more HG.out (hinv.out.2.2 hL).2 (hdone h)⟩⟩)
       clear hdone
       go_wp2
       exact ⟨⟨k + 1, L3, by omega, by go_num, rfl, Bel.of kM0 kw2.out, HNEW⟩, by simp [intOf]; omega⟩
   ·have HX := Lib.hid (show Inv (∀ m ∈ s.msgs, okMsg m) okEnum s.enums s.enums.length L from ⟨hL1, hL2, fun h => absurd h hL⟩)
    go_wp2
    all_goals exact ⟨L, rfl, kw, HX⟩
  ·have hki : ¬ (k : Int) < (s.enums.length : Int) := by omega
   have hkl : k = s.enums.length := by omega
   have HX := Lib.hid (show Inv (∀ m ∈ s.msgs, okMsg m) okEnum s.enums s.enums.length L by rw [hkl] at hinv; exact hinv.out)
   go_wp2
   all_goals exact ⟨L, rfl, kw, HX⟩
set_option maxHeartbeats 4000000 in
set_option maxRecDepth 100000 in
theorem sm_loop2 (sq1 sq2 sq3 : Option Addr) (sc1 sc2 sc3 : Nat) (s : PSchema) (w wc : World) (LL : Int) (HM3 : Hid (Sv 3 VSvc w (.slice sq3 s.svcs.length sc3) s.svcs)) (hb : (s.svcs.length : Int) ≤ 140737488355328)
  (KB : Hid (∀ W', Bel (w.alloc (.cells #[.slice sq1 s.msgs.length sc1, .slice sq2 s.enums.length sc2, .slice sq3 s.svcs.length sc3] 26)) W' → W'.cell? ⟨w.heap.size, 0, none⟩ = some (.slice sq1 s.msgs.length sc1) ∧ W'.cell? ⟨w.heap.size, 1, none⟩ = some (.slice sq2 s.enums.length sc2) ∧ W'.cell? ⟨w.heap.size, 2, none⟩ = some (.slice sq3 s.svcs.length sc3))) (kb : Bel w (w.alloc (.cells #[.slice sq1 s.msgs.length sc1, .slice sq2 s.enums.length sc2, .slice sq3 s.svcs.length sc3] 26))) (kc : Bel (w.alloc (.cells #[.slice sq1 s.msgs.length sc1, .slice sq2 s.enums.length sc2, .slice sq3 s.svcs.length sc3] 26)) wc) (hLL1 : LL ≤ 400) (hLL2 : -1000000000000000000 ≤ LL) (hR : 0 ≤ LL → (∀ m ∈ s.msgs, okMsg m) ∧ ∀ e ∈ s.enums, okEnum e) (K' : Act → World → Prop) (R : Ending → World → Prop)
  (g0 g2 g4 g5 g6 g7 g8 g9 g10 g12 g13 g14 g15 g16 g17 g18 g19 g20 g21 g22 g23 g24 g25 g26 g27 g28 g29 g30 g31 g32 g33 g34 g35 g36 g37 g38 g39 g40 g41 g42 g43 g44 g45 g46 g47 g48 g49 g50 g51 g52 g53 g54 g55 g56 g57 g58 g59 g60 g61 g62 g63 g64 g65 g66 g67 g68 g69 g70 g71 g72 g73 g74 g75 g76 g77 g78 g79 g80 g81 g82 g83 g84 g85 g86 g87 g88 g89 g90 g91 g92 g93 g94 g95 g96 g97 g98 g99 g100 g101 g102 g103 g104 g105 g106 g107 g108 g109 g110 g111 g112 g113 g114 g115 g116 g117 g118 g119 g120 g121 g122 g123 g124 g125 g126 g127 g128 g129 g130 g131 g132 g133 g134 g135 g136 g137 g138 g139 g140 g141 g142 g143 g144 g145 g146 g147 g148 g149 g150 g151 g152 g153 g154 g155 g156 g157 g158 g159 g160 g161 g162 g163 g164 g165 g166 g167 g168 g169 g170 g171 g172 g173 g174 g175 g176 g177 g178 g179 g180 g181 g182 g183 g184 g185 g186 g187 g188 g189 g190 g191 g192 g193 g194 g195 g196 g197 g198 g199 g200 g201 g202 g203 g204 g205 g206 g207 g208 g209 g210 g211 g212 g213 g214 g215 g216 g217 g218 g219 g220 g221 g222 g223 g224 g225 g226 g227 g228 g229 g230 g231 g232 g233 g234 g235 g236 g237 g238 g239 g240 g241 g242 g243 g244 g245 g246 g247 g248 g249 g250 g251 g252 g253 g254 g255 g256 g257 : Value) (hM : ∀ (wx : World) (u3 u11 u12 u13 u184 u185 u186 u187 u188 u189 u190 u191 u192 u193 u194 u195 u196 u197 u198 u199 u200 u201 u202 u203 u204 u205 u206 u207 u208 u209 u210 u211 u212 u213 u214 u215 u216 u217 u218 u219 u220 u221 u222 u223 u224 u225 u226 u227 u228 u229 u230 u231 u232 u233 u234 u235 u236 u237 u238 u239 u240 u241 u242 u243 u244 u245 u246 u247 u248 u249 u250 u251 u252 u253 u254 u255 : Value), (∃ L : Int, u3 = .int .i64 L ∧ Bel (w.alloc (.cells #[.slice sq1 s.msgs.length sc1, .slice sq2 s.enums.length sc2, .slice sq3 s.svcs.length sc3] 26)) wx ∧ Hid (Inv ((∀ m ∈ s.msgs, okMsg m) ∧ ∀ e ∈ s.enums, okEnum e) okSvc s.svcs s.svcs.length L)) → K' ⟨#[g0, .pointer (some ⟨w.heap.size, 0, none⟩), g2, u3, g4, g5, g6, g7, g8, g9, g10, u11, u12, u13, g14, g15, g16, g17, g18, g19, g20, g21, g22, g23, g24, g25, g26, g27, g28, g29, g30, g31, g32, g33, g34, g35, g36, g37, g38, g39, g40, g41, g42, g43, g44, g45, g46, g47, g48, g49, g50, g51, g52, g53, g54, g55, g56, g57, g58, g59, g60, g61, g62, g63, g64, g65, g66, g67, g68, g69, g70, g71, g72, g73, g74, g75, g76, g77, g78, g79, g80, g81, g82, g83, g84, g85, g86, g87, g88, g89, g90, g91, g92, g93, g94, g95, g96, g97, g98, g99, g100, g101, g102, g103, g104, g105, g106, g107, g108, g109, g110, g111, g112, g113, g114, g115, g116, g117, g118, g119, g120, g121, g122, g123, g124, g125, g126, g127, g128, g129, g130, g131, g132, g133, g134, g135, g136, g137, g138, g139, g140, g141, g142, g143, g144, g145, g146, g147, g148, g149, g150, g151, g152, g153, g154, g155, g156, g157, g158, g159, g160, g161, g162, g163, g164, g165, g166, g167, g168, g169, g170, g171, g172, g173, g174, g175, g176, g177, g178, g179, g180, g181, g182, g183, u184, u185, u186, u187, u188, u189, u190, u191, u192, u193, u194, u195, u196, u197, u198, u199, u200, u201, u202, u203, u204, u205, u206, u207, u208, u209, u210, u211, u212, u213, u214, u215, u216, u217, u218, u219, u220, u221, u222, u223, u224, u225, u226, u227, u228, u229, u230, u231, u232, u233, u234, u235, u236, u237, u238, u239, u240, u241, u242, u243, u244, u245, u246, u247, u248, u249, u250, u251, u252, u253, u254, u255, g256, g257], []⟩ wx) :
  Code.wp Tryz.prog (smB 8) (Exit.then K' (bodyPost Tryz.prog Tryz.f7 R)) ⟨#[g0, .pointer (some ⟨w.heap.size, 0, none⟩), g2, .int .i64 LL, g4, g5, g6, g7, g8, g9, g10, .int .i64 0, g12, g13, g14, g15, g16, g17, g18, g19, g20, g21, g22, g23, g24, g25, g26, g27, g28, g29, g30, g31, g32, g33, g34, g35, g36, g37, g38, g39, g40, g41, g42, g43, g44, g45, g46, g47, g48, g49, g50, g51, g52, g53, g54, g55, g56, g57, g58, g59, g60, g61, g62, g63, g64, g65, g66, g67, g68, g69, g70, g71, g72, g73, g74, g75, g76, g77, g78, g79, g80, g81, g82, g83, g84, g85, g86, g87, g88, g89, g90, g91, g92, g93, g94, g95, g96, g97, g98, g99, g100, g101, g102, g103, g104, g105, g106, g107, g108, g109, g110, g111, g112, g113, g114, g115, g116, g117, g118, g119, g120, g121, g122, g123, g124, g125, g126, g127, g128, g129, g130, g131, g132, g133, g134, g135, g136, g137, g138, g139, g140, g141, g142, g143, g144, g145, g146, g147, g148, g149, g150, g151, g152, g153, g154, g155, g156, g157, g158, g159, g160, g161, g162, g163, g164, g165, g166, g167, g168, g169, g170, g171, g172, g173, g174, g175, g176, g177, g178, g179, g180, g181, g182, g183, g184, g185, g186, g187, g188, g189, g190, g191, g192, g193, g194, g195, g196, g197, g198, g199, g200, g201, g202, g203, g204, g205, g206, g207, g208, g209, g210, g211, g212, g213, g214, g215, g216, g217, g218, g219, g220, g221, g222, g223, g224, g225, g226, g227, g228, g229, g230, g231, g232, g233, g234, g235, g236, g237, g238, g239, g240, g241, g242, g243, g244, g245, g246, g247, g248, g249, g250, g251, g252, g253, g254, g255, g256, g257], []⟩ wc := by
 conv => arg 2; whnf
 go_wp2
 go_loopw [3, 11] (fun l i wr => ∃ (k : Nat) (L : Int), k ≤ s.svcs.length ∧ i = .int .i64 k ∧ l = .int .i64 L ∧ Bel (w.alloc (.cells #[.slice sq1 s.msgs.length sc1, .slice sq2 s.enums.length sc2, .slice sq3 s.svcs.length sc3] 26)) wr ∧ Hid (Inv ((∀ m ∈ s.msgs, okMsg m) ∧ ∀ e ∈ s.enums, okEnum e) okSvc s.svcs k L)) (fun _ i _ => s.svcs.length - (intOf i).toNat)
 case atStart => exact ⟨0, LL, by omega, rfl, rfl, kc, Lib.hid ⟨hLL1, hLL2, fun h => ⟨hR h, fun x hx => by simp at hx⟩⟩⟩
 case round =>
  clear hLL1 hLL2 hR kc
  obtain ⟨k, L, hk, rfl, rfl, kw, hinv⟩ := hrel
  obtain ⟨wm, hwm⟩ : ∃ wm, wm = wr := ⟨_, rfl⟩
  subst hwm
  have hL1 : L ≤ 400 := hinv.out.1
  have hL2 : -1000000000000000000 ≤ L := hinv.out.2.1
  obtain ⟨c0, c1, c2⟩ := KB.out _ kw
  by_cases hlt : k < s.svcs.length
  ·have hki : (k : Int) < (s.svcs.length : Int) := by omega
   by_cases hL : 0 ≤ L
   ·have hg := List.getElem?_eq_getElem hlt
    have hlist := HM3.out
    obtain ⟨qq, cq, hqe, _, _, hel⟩ := hlist
    cases hqe
    obtain ⟨b, off, hqq, hbs, cs, hce, hvs⟩ := hel k _ hg
    have HG := Lib.hid hg
    subst hqq
    obtain ⟨_, _, hvv, g1, g2⟩ := hvs
    obtain ⟨u1, y1, rfl, hs1⟩ := sl_form g1
    obtain ⟨u2, y2, rfl, hs2⟩ := sl_form g2
    subst hvv
    have hb0 : Bel w wm := Bel.of kb kw.out
    have e0 := hb0.some (hce 0 _ rfl)
    rw [Nat.add_zero] at e0
    have e1 := hb0.some (hce 1 _ rfl)
    have e2 := hb0.some (hce 2 _ rfl)
    have G1 := Lib.hid g1
    have G2 := Lib.hid g2
    clear hce hg hel g1 g2
    generalize s.svcs[k] = x at *
    have kM : Bel wm (wm.alloc (.cells #[.string (S x.name), .slice u1 x.meths.length y1, .slice u2 x.notes.length y2] 53)) := (Bel.refl _).alloc _
    have KS := Lib.hid (fun W' (kq : Bel (wm.alloc (.cells #[.string (S x.name), .slice u1 x.meths.length y1, .slice u2 x.notes.length y2] 53)) W') => show W'.cell? ⟨wm.heap.size, 0, none⟩ = some (.string (S x.name)) ∧ W'.cell? ⟨wm.heap.size, 1, none⟩ = some (.slice u1 x.meths.length y1) ∧ W'.cell? ⟨wm.heap.size, 2, none⟩ = some (.slice u2 x.notes.length y2) from ⟨kq.some ((World.cell?_alloc_at _ _ _ _ rfl).trans rfl), kq.some ((World.cell?_alloc_at _ _ _ _ rfl).trans rfl), kq.some ((World.cell?_alloc_at _ _ _ _ rfl).trans rfl)⟩)
    have CN := Lib.hid (fun W (kq : Bel (wm.alloc (.cells #[.string (S x.name), .slice u1 x.meths.length y1, .slice u2 x.notes.length y2] 53)) W) => rf_fewNotes (.slice u2 x.notes.length y2) x.notes L W (G2.out.bel VNote.stays (Bel.of hb0 (Bel.of kM kq).out)) (by omega) (by omega))
    have CT := Lib.hid (fun (W W' : World) (kq : Bel (W.alloc (.cells #[.string (S x.name)] 9)) W') => rf_fewTexts _ [x.name] L W' (texts_fresh1 x.name kq) (by omega) (by omega))
    have hst := step_svc (v := x) hL hL1
    have f1 := fn_pos x.notes.length L (by omega) hL x.notes 0
    have f3 := ft_pos 1 L (by omega) hL [x.name] 0
    generalize fnGo x.notes.length L 0 x.notes = F at CN hst f1
    have CT2 : Hid (∀ (W W' : World), Bel (W.alloc (.cells #[.string (S x.name)] 9)) W' → Calls Tryz.prog 24 #[.slice (some ⟨W.heap.size, 0, none⟩) 1 1, .int .i64 L] W' fun e w' => e = .returned (.int .i64 (ftGo 1 L 0 [x.name])) ∧ W' = w') := CT
    clear CT
    generalize ftGo 1 L 0 [x.name] = N at CT2 hst f3
    have CT := CT2
    clear CT2
    have HST := Lib.hid hst
    have F0 : 0 ≤ F := f1.1
    have F1 : F ≤ 140737488355738 := by omega
    have N0 : 0 ≤ N := f3.1
    have N1 : N ≤ 1000 := by omega
    clear hst f1 f3
    have s0 : IntKind.i64.wrap (L - F) = L - F := IntWalk.i64_in _ (by omega)
    have s1 : IntKind.i64.wrap (L - F - N) = L - F - N := IntWalk.i64_in _ (by omega)
    go_upto_region 29 with (fail)
    go_cut [3] (fun s3 wx => ∃ L2 : Int, s3 = .int .i64 L2 ∧ Bel (wm.alloc (.cells #[.string (S x.name), .slice u1 x.meths.length y1, .slice u2 x.notes.length y2] 53)) wx ∧ Hid (L2 ≤ 400 ∧ -1000000000000000000 ≤ L2 ∧ (0 ≤ L2 → okV x)))
    case first =>
     obtain ⟨wd, hwd⟩ : ∃ wd, wd = (wm.alloc (.cells #[.string (S x.name), .slice u1 x.meths.length y1, .slice u2 x.notes.length y2] 53)).drew := ⟨_, rfl⟩
     have kd : Bel (wm.alloc (.cells #[.string (S x.name), .slice u1 x.meths.length y1, .slice u2 x.notes.length y2] 53)) wd := by rw [hwd]; exact (Bel.refl _).drew
     have HWD := Lib.hid hwd
     have HEND := Lib.hid (show (L - F - N) ≤ 400 ∧ -1000000000000000000 ≤ (L - F - N) ∧ (0 ≤ (L - F - N) → okV x) from ⟨by omega, by omega, HST.out⟩)
     clear hwd
     refine region_treeA (fun W => Bel (wm.alloc (.cells #[.string (S x.name), .slice u1 x.meths.length y1, .slice u2 x.notes.length y2] 53)) W) (.take 0 (.take 1 (.take 2 (.take 3 (.take 6 (.take 7 (.take 9 (.alt 4 (.take 5 (.alt 8 (.alt 10 .done .no) .no)) (.alt 8 (.alt 4 (.take 5 (.alt 10 .done .no)) .no) .no))))))))) 11 (by kernel_rfl) (by kernel_rfl) HWD.out kd (fun a ha => ?_)
     (simp only [pickT, List.getD_cons_zero, List.getD_cons_succ])
     have hsz : a.tmps.size = 258 := (by rw [ha]; kernel_rfl)
     have a3 : a.eval (.tmp 3) = .int .i64 L := (by rw [ha]; kernel_rfl)
     have a12 : a.eval (.tmp 12) = .pointer (some ⟨wm.heap.size, 0, none⟩) := (by rw [ha]; kernel_rfl)
     (with_reducible refine tree_held (v := ?_) rfl (by with_unfolding_all rfl) (fun ρ hρ W hW => ?_) ?_); (rotate_left 1)
     focus (clear hW; have p3 := hρ (.tmp 3); (simp (disch := (first | decide | ((try simp only [sz_put]); rw [hsz]; decide))) only [ev_eq, ev_ne, a3, a12] at p3); obtain ⟨hc, hfn⟩ := rhoCfCkSmall hρ; clear hρ; go_simp; (all_goals with_reducible first | rfl | (constructor <;> rfl)))
     (with_reducible refine tree_held (v := ?_) rfl (by with_unfolding_all rfl) (fun ρ hρ W hW => ?_) ?_); (rotate_left 1)
     focus (clear hW; have p12 := hρ (.tmp 12); (simp (disch := (first | decide | ((try simp only [sz_put]); rw [hsz]; decide))) only [ev_eq, ev_ne, a3, a12] at p12); obtain ⟨hc, hfn⟩ := rhoCfCkSmall hρ; clear hρ; go_simp; (all_goals with_reducible first | rfl | (constructor <;> rfl)))
     (with_reducible refine tree_held (v := ?_) rfl (by with_unfolding_all rfl) (fun ρ hρ W hW => ?_) ?_); (rotate_left 1)
     focus (have hS := KS.out _ hW; clear hW; have p201 := hρ (.tmp 201); (simp (disch := (first | decide | ((try simp only [sz_put]); rw [hsz]; decide))) only [ev_eq, ev_ne, a3, a12] at p201); obtain ⟨hc, hfn⟩ := rhoCfCkSmall hρ; clear hρ; go_simp; (all_goals with_reducible first | rfl | (constructor <;> rfl)))
     (with_reducible refine tree_held (v := ?_) rfl (by with_unfolding_all rfl) (fun ρ hρ W hW => ?_) ?_); (rotate_left 1)
     focus (clear hW; have p3 := hρ (.tmp 3); (simp (disch := (first | decide | ((try simp only [sz_put]); rw [hsz]; decide))) only [ev_eq, ev_ne, a3, a12] at p3); obtain ⟨hc, hfn⟩ := rhoCfCkSmall hρ; clear hρ; go_simp; (all_goals with_reducible first | rfl | (constructor <;> rfl)))
     (with_reducible refine tree_held (v := ?_) rfl (by with_unfolding_all rfl) (fun ρ hρ W hW => ?_) ?_); (rotate_left 1)
     focus (clear hW; have p12 := hρ (.tmp 12); (simp (disch := (first | decide | ((try simp only [sz_put]); rw [hsz]; decide))) only [ev_eq, ev_ne, a3, a12] at p12); obtain ⟨hc, hfn⟩ := rhoCfCkSmall hρ; clear hρ; go_simp; (all_goals with_reducible first | rfl | (constructor <;> rfl)))
     (with_reducible refine tree_held (v := ?_) rfl (by with_unfolding_all rfl) (fun ρ hρ W hW => ?_) ?_); (rotate_left 1)
     focus (have hS := KS.out _ hW; clear hW; have p206 := hρ (.tmp 206); (simp (disch := (first | decide | ((try simp only [sz_put]); rw [hsz]; decide))) only [ev_eq, ev_ne, a3, a12] at p206); obtain ⟨hc, hfn⟩ := rhoCfCkSmall hρ; clear hρ; go_simp; (all_goals with_reducible first | rfl | (constructor <;> rfl)))
     (with_reducible refine tree_held (v := ?_) rfl (by with_unfolding_all rfl) (fun ρ hρ W hW => ?_) ?_); (rotate_left 1)
     focus (clear hW; have p3 := hρ (.tmp 3); (simp (disch := (first | decide | ((try simp only [sz_put]); rw [hsz]; decide))) only [ev_eq, ev_ne, a3, a12] at p3); obtain ⟨hc, hfn⟩ := rhoCfCkSmall hρ; clear hρ; go_simp; (all_goals with_reducible first | rfl | (constructor <;> rfl)))
     (with_reducible refine tree_enter (f := ?_) (args := ?_) rfl (by with_unfolding_all rfl) (fun ρ hρ => ?_) ?_ ?_); (rotate_left 2)
     focus (have p202 := hρ (.tmp 202); have p203 := hρ (.tmp 203); (simp (disch := (first | decide | ((try simp only [sz_put]); rw [hsz]; decide))) only [ev_eq, ev_ne, a3, a12] at p202 p203); obtain ⟨hc, hfn⟩ := rhoCfCkSmall hρ; clear hρ; rw [execOp_call_rho (hfn _)]; clear hfn; go_simp; (all_goals with_reducible first | rfl | (constructor <;> rfl)))
     (with_reducible refine (CN.out _ (by (with_reducible repeat first | assumption | exact Bel.refl _ | refine Bel.drew ?_ | refine Bel.drewN ?_ _ | refine Bel.alloc ?_ _))).mono ?_)
     rintro e w1 ⟨rfl, g1⟩
     have q1 := Bel.of (Bel.refl _) g1
     have k1 : Bel (wm.alloc (.cells #[.string (S x.name), .slice u1 x.meths.length y1, .slice u2 x.notes.length y2] 53)) w1 := Bel.of (by (with_reducible repeat first | assumption | exact Bel.refl _ | refine Bel.drew ?_ | refine Bel.drewN ?_ _ | refine Bel.alloc ?_ _)) g1
     clear g1
     refine ⟨_, rfl, (by (with_reducible repeat first | assumption | exact Bel.refl _ | refine Bel.drew ?_ | refine Bel.drewN ?_ _ | refine Bel.alloc ?_ _)), ?_⟩
     ·(with_reducible refine tree_held (v := ?_) rfl (by with_unfolding_all rfl) (fun ρ hρ W hW => ?_) ?_); (rotate_left 1)
      focus (clear hW; have p200 := hρ (.tmp 200); have p204 := hρ (.tmp 204); (simp (disch := (first | decide | ((try simp only [sz_put]); rw [hsz]; decide))) only [ev_eq, ev_ne, a3, a12] at p200 p204); obtain ⟨hc, hfn⟩ := rhoCfCkSmall hρ; clear hρ; (with_reducible exact sub_i64 p200 p204 (by assumption)))
      (with_reducible refine tree_step (v := ?_) (w' := ?_) rfl (by with_unfolding_all rfl) (fun ρ hρ => ?_) ?_ ?_ ?_); (rotate_left 2)
      focus (have p207 := hρ (.tmp 207); (simp (disch := (first | decide | ((try simp only [sz_put]); rw [hsz]; decide))) only [ev_eq, ev_ne, a3, a12] at p207); obtain ⟨hc, hfn⟩ := rhoCfCkSmall hρ; clear hρ; go_simp; (all_goals with_reducible first | rfl | (constructor <;> rfl)))
      focus (with_reducible repeat first | assumption | exact Bel.refl _ | refine Bel.drew ?_ | refine Bel.drewN ?_ _ | refine Bel.alloc ?_ _)
      rotate_left 1
      focus exact tree_no
      (with_reducible refine tree_enter (f := ?_) (args := ?_) rfl (by with_unfolding_all rfl) (fun ρ hρ => ?_) ?_ ?_); (rotate_left 2)
      focus (have p208 := hρ (.tmp 208); have p209 := hρ (.tmp 209); (simp (disch := (first | decide | ((try simp only [sz_put]); rw [hsz]; decide))) only [ev_eq, ev_ne, a3, a12] at p208 p209); obtain ⟨hc, hfn⟩ := rhoCfCkSmall hρ; clear hρ; rw [execOp_call_rho (hfn _)]; clear hfn; go_simp; (all_goals with_reducible first | rfl | (constructor <;> rfl)))
      (with_reducible refine (CT.out _ _ (by (with_reducible repeat first | assumption | exact Bel.refl _ | refine Bel.drew ?_ | refine Bel.drewN ?_ _ | refine Bel.alloc ?_ _))).mono ?_)
      rintro e w3 ⟨rfl, rfl⟩
      refine ⟨_, rfl, (by (with_reducible repeat first | assumption | exact Bel.refl _ | refine Bel.drew ?_ | refine Bel.drewN ?_ _ | refine Bel.alloc ?_ _)), ?_⟩
      rotate_left 1
      focus exact tree_no
      refine tree_done ?_
      (simp only [List.drop_succ_cons, List.drop_zero])
      (with_reducible refine list_held (v := ?_) (w' := ?_) rfl (by with_unfolding_all rfl) (fun ρ hρ => ?_) ?_); (rotate_left 2)
      focus (have p205 := hρ (.tmp 205); have p210 := hρ (.tmp 210); (simp (disch := (first | decide | ((try simp only [sz_put]); rw [hsz]; decide))) only [ev_eq, ev_ne, a3, a12] at p205 p210); obtain ⟨hc, hfn⟩ := rhoCfCkSmall hρ; clear hρ; (with_reducible exact sub_i64 p205 p210 (by assumption)))
      (with_reducible refine list_held (v := ?_) (w' := ?_) rfl (by with_unfolding_all rfl) (fun ρ hρ => ?_) ?_); (rotate_left 2)
      focus (have p211 := hρ (.tmp 211); (simp (disch := (first | decide | ((try simp only [sz_put]); rw [hsz]; decide))) only [ev_eq, ev_ne, a3, a12] at p211); obtain ⟨hc, hfn⟩ := rhoCfCkSmall hρ; clear hρ; go_simp; (all_goals with_reducible first | rfl | (constructor <;> rfl)))
      refine wpList_nil ?_
      subst ha
      (simp only [put_some, set_s, set_z])
      go_wp2
      go_meet
      exact ⟨_, rfl, (by (with_reducible repeat first | assumption | exact Bel.refl _ | refine Bel.drew ?_ | refine Bel.drewN ?_ _ | refine Bel.alloc ?_ _)), HEND.out⟩
     (with_reducible refine tree_step (v := ?_) (w' := ?_) rfl (by with_unfolding_all rfl) (fun ρ hρ => ?_) ?_ ?_ ?_); (rotate_left 2)
     focus (have p207 := hρ (.tmp 207); (simp (disch := (first | decide | ((try simp only [sz_put]); rw [hsz]; decide))) only [ev_eq, ev_ne, a3, a12] at p207); obtain ⟨hc, hfn⟩ := rhoCfCkSmall hρ; clear hρ; go_simp; (all_goals with_reducible first | rfl | (constructor <;> rfl)))
     focus (with_reducible repeat first | assumption | exact Bel.refl _ | refine Bel.drew ?_ | refine Bel.drewN ?_ _ | refine Bel.alloc ?_ _)
     rotate_left 1
     focus exact tree_no
     (with_reducible refine tree_enter (f := ?_) (args := ?_) rfl (by with_unfolding_all rfl) (fun ρ hρ => ?_) ?_ ?_); (rotate_left 2)
     focus (have p202 := hρ (.tmp 202); have p203 := hρ (.tmp 203); (simp (disch := (first | decide | ((try simp only [sz_put]); rw [hsz]; decide))) only [ev_eq, ev_ne, a3, a12] at p202 p203); obtain ⟨hc, hfn⟩ := rhoCfCkSmall hρ; clear hρ; rw [execOp_call_rho (hfn _)]; clear hfn; go_simp; (all_goals with_reducible first | rfl | (constructor <;> rfl)))
     (with_reducible refine (CN.out _ (by (with_reducible repeat first | assumption | exact Bel.refl _ | refine Bel.drew ?_ | refine Bel.drewN ?_ _ | refine Bel.alloc ?_ _))).mono ?_)
     rintro e w2 ⟨rfl, g2⟩
     have q2 := Bel.of (Bel.refl _) g2
     have k2 : Bel (wm.alloc (.cells #[.string (S x.name), .slice u1 x.meths.length y1, .slice u2 x.notes.length y2] 53)) w2 := Bel.of (by (with_reducible repeat first | assumption | exact Bel.refl _ | refine Bel.drew ?_ | refine Bel.drewN ?_ _ | refine Bel.alloc ?_ _)) g2
     clear g2
     refine ⟨_, rfl, (by (with_reducible repeat first | assumption | exact Bel.refl _ | refine Bel.drew ?_ | refine Bel.drewN ?_ _ | refine Bel.alloc ?_ _)), ?_⟩
     rotate_left 1
     focus exact tree_no
     (with_reducible refine tree_held (v := ?_) rfl (by with_unfolding_all rfl) (fun ρ hρ W hW => ?_) ?_); (rotate_left 1)
     focus (clear hW; have p200 := hρ (.tmp 200); have p204 := hρ (.tmp 204); (simp (disch := (first | decide | ((try simp only [sz_put]); rw [hsz]; decide))) only [ev_eq, ev_ne, a3, a12] at p200 p204); obtain ⟨hc, hfn⟩ := rhoCfCkSmall hρ; clear hρ; (with_reducible exact sub_i64 p200 p204 (by assumption)))
     (with_reducible refine tree_enter (f := ?_) (args := ?_) rfl (by with_unfolding_all rfl) (fun ρ hρ => ?_) ?_ ?_); (rotate_left 2)
     focus (have p208 := hρ (.tmp 208); have p209 := hρ (.tmp 209); (simp (disch := (first | decide | ((try simp only [sz_put]); rw [hsz]; decide))) only [ev_eq, ev_ne, a3, a12] at p208 p209); obtain ⟨hc, hfn⟩ := rhoCfCkSmall hρ; clear hρ; rw [execOp_call_rho (hfn _)]; clear hfn; go_simp; (all_goals with_reducible first | rfl | (constructor <;> rfl)))
     (with_reducible refine (CT.out _ _ (by (with_reducible repeat first | assumption | exact Bel.refl _ | refine Bel.drew ?_ | refine Bel.drewN ?_ _ | refine Bel.alloc ?_ _))).mono ?_)
     rintro e w3 ⟨rfl, rfl⟩
     refine ⟨_, rfl, (by (with_reducible repeat first | assumption | exact Bel.refl _ | refine Bel.drew ?_ | refine Bel.drewN ?_ _ | refine Bel.alloc ?_ _)), ?_⟩
     rotate_left 1
     focus exact tree_no
     refine tree_done ?_
     (simp only [List.drop_succ_cons, List.drop_zero])
     (with_reducible refine list_held (v := ?_) (w' := ?_) rfl (by with_unfolding_all rfl) (fun ρ hρ => ?_) ?_); (rotate_left 2)
     focus (have p205 := hρ (.tmp 205); have p210 := hρ (.tmp 210); (simp (disch := (first | decide | ((try simp only [sz_put]); rw [hsz]; decide))) only [ev_eq, ev_ne, a3, a12] at p205 p210); obtain ⟨hc, hfn⟩ := rhoCfCkSmall hρ; clear hρ; (with_reducible exact sub_i64 p205 p210 (by assumption)))
     (with_reducible refine list_held (v := ?_) (w' := ?_) rfl (by with_unfolding_all rfl) (fun ρ hρ => ?_) ?_); (rotate_left 2)
     focus (have p211 := hρ (.tmp 211); (simp (disch := (first | decide | ((try simp only [sz_put]); rw [hsz]; decide))) only [ev_eq, ev_ne, a3, a12] at p211); obtain ⟨hc, hfn⟩ := rhoCfCkSmall hρ; clear hρ; go_simp; (all_goals with_reducible first | rfl | (constructor <;> rfl)))
     refine wpList_nil ?_
     subst ha
     (simp only [put_some, set_s, set_z])
     go_wp2
     go_meet
     exact ⟨_, rfl, (by (with_reducible repeat first | assumption | exact Bel.refl _ | refine Bel.drew ?_ | refine Bel.drewN ?_ _ | refine Bel.alloc ?_ _)), HEND.out⟩
    case rest =>
     obtain ⟨L2, hs3, kI, hI⟩ := hcut
     subst hs3
     clear HST CN CT s0 s1
     have hI1 : L2 ≤ 400 := hI.out.1
     have hI2 : -1000000000000000000 ≤ L2 := hI.out.2.1
     go_wp2
     have kM0 := kw.alloc (.cells #[.string (S x.name), .slice u1 x.meths.length y1, .slice u2 x.notes.length y2] 53)
     go_loopw [3, 13] (fun l i wr => ∃ (j : Nat) (L3 : Int), j ≤ x.meths.length ∧ i = .int .i64 j ∧ l = .int .i64 L3 ∧ Bel (wm.alloc (.cells #[.string (S x.name), .slice u1 x.meths.length y1, .slice u2 x.notes.length y2] 53)) wr ∧ Hid (InvK okMeth x.meths j L3 ∧ (0 ≤ L3 → okV x))) (fun _ i _ => x.meths.length - (intOf i).toNat)
     case atStart => exact ⟨0, L2, by omega, rfl, rfl, kI, Lib.hid ⟨⟨hI1, hI2, fun h => ⟨by omega, fun x hx => by simp at hx⟩⟩, hI.out.2.2⟩⟩
     case round =>
      obtain ⟨j, L3, hj, rfl, rfl, kw2, hinv2⟩ := hrel
      have hJ1 : L3 ≤ 400 := hinv2.out.1.1
      have hJ2 : -1000000000000000000 ≤ L3 := hinv2.out.1.2.1
      obtain ⟨m0, m1, m2⟩ := KS.out _ kw2
      by_cases hlt2 : j < x.meths.length
      ·have hji : (j : Int) < (x.meths.length : Int) := by omega
       by_cases hJ : 0 ≤ L3
       ·have hg2 := List.getElem?_eq_getElem hlt2
        have hlist2 := G1.out
        obtain ⟨qq2, cq2, hqe2, _, _, hel2⟩ := hlist2
        cases hqe2
        obtain ⟨b2, off2, hqq2, hbs2, cs2, hce2, hvs2⟩ := hel2 j _ hg2
        have HG2 := Lib.hid hg2
        subst hqq2
        have hbw : Bel w wr := Bel.of hb0 (Bel.of kM kw2.out).out
        obtain ⟨_, hvs1, hnt⟩ := hvs2
        obtain ⟨v1, z1, hnv, hnl⟩ := sl_form hnt
        subst hvs1 hnv
        have HNT := Lib.hid hnt
        generalize x.meths[j] = f at *
        have hcl : ∀ W', Bel wr W' → W'.cell? ⟨b2, off2 + j * 5, none⟩ = some (.string (S f.name)) ∧ W'.cell? ⟨b2, off2 + j * 5 + 1, none⟩ = some (.string (S f.inn)) ∧ W'.cell? ⟨b2, off2 + j * 5 + 2, none⟩ = some (.string (S f.out)) ∧ W'.cell? ⟨b2, off2 + j * 5 + 3, none⟩ = some (.int .i64 f.shape) ∧ W'.cell? ⟨b2, off2 + j * 5 + 4, none⟩ = some (.slice v1 f.notes.length z1) := fun W' kq => ⟨by have := kq.some (hbw.some (hce2 0 _ rfl)); rwa [Nat.add_zero] at this, kq.some (hbw.some (hce2 1 _ rfl)), kq.some (hbw.some (hce2 2 _ rfl)), kq.some (hbw.some (hce2 3 _ rfl)), kq.some (hbw.some (hce2 4 _ rfl))⟩
        have HCL := Lib.hid hcl
        clear hce2 hg2 hnt hel2 hcl
        have KS2 := Lib.hid (fun W' (kq : Bel wr W') => And.intro (HCL.out W' kq) (KS.out W' (Bel.of kw2 kq.out)))
        have CN := Lib.hid (fun W (kq : Bel wr W) => rf_fewNotes (.slice v1 f.notes.length z1) f.notes L3 W (HNT.out.bel VNote.stays (Bel.of hbw (Bel.of (Bel.refl _ : Bel wr wr) kq.out).out)) (by omega) (by omega))
        have CT0 := Lib.hid (fun (W W' : World) (kq : Bel (W.alloc (.cells #[.string (S f.name), .string (S f.inn), .string (S f.out)] 9)) W') => rf_fewTexts _ [f.name, f.inn, f.out] L3 W' (texts_fresh3 f.name f.inn f.out kq) (by omega) (by omega))
        have hst := step_meth (m := f) hJ hJ1
        have f1 := fn_pos f.notes.length L3 (by omega) hJ f.notes 0
        have f3 := ft_pos 3 L3 (by omega) hJ [f.name, f.inn, f.out] 0
        generalize fnGo f.notes.length L3 0 f.notes = F2 at CN hst f1
        have CT : Hid (∀ (W W' : World), Bel (W.alloc (.cells #[.string (S f.name), .string (S f.inn), .string (S f.out)] 9)) W' → Calls Tryz.prog 24 #[.slice (some ⟨W.heap.size, 0, none⟩) 3 3, .int .i64 L3] W' fun e w' => e = .returned (.int .i64 (ftGo 3 L3 0 [f.name, f.inn, f.out])) ∧ W' = w') := CT0
        clear CT0
        generalize ftGo 3 L3 0 [f.name, f.inn, f.out] = N2 at CT hst f3
        have HST := Lib.hid hst
        have F20 : 0 ≤ F2 := f1.1
        have F21 : F2 ≤ 140737488355738 := by omega
        have N20 : 0 ≤ N2 := f3.1
        have N21 : N2 ≤ 1000 := by omega
        clear hst f1 f3
        have s0 : IntKind.i64.wrap (L3 - F2) = L3 - F2 := IntWalk.i64_in _ (by omega)
        have s1 : IntKind.i64.wrap (L3 - F2 - N2) = L3 - F2 - N2 := IntWalk.i64_in _ (by omega)
        have s2 : IntKind.i64.wrap (L3 - F2 - N2 + 2) = L3 - F2 - N2 + 2 := IntWalk.i64_in _ (by omega)
        have j0 : (0 : Int) ≤ (j : Int) := by omega
        go_upto_region 33 with (fail)
        have hle4 : (L3 - F2 - N2 + 2) ≤ 400 := by
         rcases Int.lt_or_le (L3 - F2 - N2 + 2) 0 with h | h
         ·omega
         ·have := (HST.out h).2
          omega
        have HNX := Lib.hid (show InvK okMeth x.meths (j + 1) (L3 - F2 - N2 + 2) ∧ (0 ≤ (L3 - F2 - N2 + 2) → okV x) from ⟨⟨hle4, by omega, fun h => by
         obtain ⟨a1, a2⟩ := HST.out h
         obtain ⟨a3, a4⟩ := hinv2.out.1.2.2 hJ
         exact ⟨by push_cast; omega, take_more HG2.out a4 a1⟩⟩, fun h => hinv2.out.2 hJ⟩)
        obtain ⟨wd, hwd⟩ : ∃ wd, wd = wr.drew := ⟨_, rfl⟩
        have kd : Bel wr wd := by rw [hwd]; exact (Bel.refl _).drew
        have HWD := Lib.hid hwd
        have hle4 : (L3 - F2 - N2 + 2) ≤ 400 := by
         rcases Int.lt_or_le (L3 - F2 - N2 + 2) 0 with h | h
         ·omega
         ·have := (HST.out h).2
          omega
        have HEND := Lib.hid (show (L3 - F2 - N2 + 2) ≤ 400 ∧ -1000000000000000000 ≤ (L3 - F2 - N2 + 2) ∧ (0 ≤ (L3 - F2 - N2 + 2) → okMeth f ∧ (L3 - F2 - N2 + 2) ≤ L3 - 1) from ⟨hle4, by omega, HST.out⟩)
        clear hle4
        clear hwd
        have KS0 := KS
        clear KS
        have KS := KS2
        refine region_treeA (fun W => Bel wr W) (.take 0 (.take 1 (.take 2 (.take 3 (.take 4 (.take 5 (.take 6 (.take 7 (.take 10 (.take 11 (.take 12 (.take 13 (.take 14 (.take 15 (.take 16 (.take 17 (.take 18 (.take 19 (.take 20 (.take 21 (.take 22 (.take 23 (.take 24 (.take 25 (.take 26 (.take 27 (.take 29 (.alt 8 (.take 9 (.alt 28 (.alt 30 .done .no) .no)) (.alt 28 (.alt 8 (.take 9 (.alt 30 .done .no)) .no) .no))))))))))))))))))))))))))))) 31 (by kernel_rfl) (by kernel_rfl) HWD.out kd (fun a ha => ?_)
        (simp only [pickT, List.getD_cons_zero, List.getD_cons_succ])
        have hsz : a.tmps.size = 258 := (by rw [ha]; kernel_rfl)
        have a3 : a.eval (.tmp 3) = .int .i64 L3 := (by rw [ha]; kernel_rfl)
        have a12 : a.eval (.tmp 12) = .pointer (some ⟨wm.heap.size, 0, none⟩) := (by rw [ha]; kernel_rfl)
        have a13 : a.eval (.tmp 13) = .int .i64 j := (by rw [ha]; kernel_rfl)
        (with_reducible refine tree_held (v := ?_) rfl (by with_unfolding_all rfl) (fun ρ hρ W hW => ?_) ?_); (rotate_left 1)
        focus (clear hW; have p3 := hρ (.tmp 3); (simp (disch := (first | decide | ((try simp only [sz_put]); rw [hsz]; decide))) only [ev_eq, ev_ne, a3, a12, a13] at p3); obtain ⟨hc, hfn⟩ := rhoCfCkSmall hρ; clear hρ; go_simp; (all_goals with_reducible first | rfl | (constructor <;> rfl)))
        (with_reducible refine tree_held (v := ?_) rfl (by with_unfolding_all rfl) (fun ρ hρ W hW => ?_) ?_); (rotate_left 1)
        focus (clear hW; have p12 := hρ (.tmp 12); (simp (disch := (first | decide | ((try simp only [sz_put]); rw [hsz]; decide))) only [ev_eq, ev_ne, a3, a12, a13] at p12); obtain ⟨hc, hfn⟩ := rhoCfCkSmall hρ; clear hρ; go_simp; (all_goals with_reducible first | rfl | (constructor <;> rfl)))
        (with_reducible refine tree_held (v := ?_) rfl (by with_unfolding_all rfl) (fun ρ hρ W hW => ?_) ?_); (rotate_left 1)
        focus (have hS := KS.out _ hW; clear hW; have p224 := hρ (.tmp 224); (simp (disch := (first | decide | ((try simp only [sz_put]); rw [hsz]; decide))) only [ev_eq, ev_ne, a3, a12, a13] at p224); obtain ⟨hc, hfn⟩ := rhoCfCkSmall hρ; clear hρ; go_simp; (all_goals with_reducible first | rfl | (constructor <;> rfl)))
        (with_reducible refine tree_held (v := ?_) rfl (by with_unfolding_all rfl) (fun ρ hρ W hW => ?_) ?_); (rotate_left 1)
        focus (clear hW; have p13 := hρ (.tmp 13); (simp (disch := (first | decide | ((try simp only [sz_put]); rw [hsz]; decide))) only [ev_eq, ev_ne, a3, a12, a13] at p13); obtain ⟨hc, hfn⟩ := rhoCfCkSmall hρ; clear hρ; go_simp; (all_goals with_reducible first | rfl | (constructor <;> rfl)))
        (with_reducible refine tree_held (v := ?_) rfl (by with_unfolding_all rfl) (fun ρ hρ W hW => ?_) ?_); (rotate_left 1)
        focus (clear hW; have p225 := hρ (.tmp 225); have p226 := hρ (.tmp 226); (simp (disch := (first | decide | ((try simp only [sz_put]); rw [hsz]; decide))) only [ev_eq, ev_ne, a3, a12, a13] at p225 p226); obtain ⟨hc, hfn⟩ := rhoCfCkSmall hρ; clear hρ; go_simp; (all_goals with_reducible first | rfl | (constructor <;> rfl)))
        (with_reducible refine tree_held (v := ?_) rfl (by with_unfolding_all rfl) (fun ρ hρ W hW => ?_) ?_); (rotate_left 1)
        focus (clear hW; have p227 := hρ (.tmp 227); (simp (disch := (first | decide | ((try simp only [sz_put]); rw [hsz]; decide))) only [ev_eq, ev_ne, a3, a12, a13] at p227); obtain ⟨hc, hfn⟩ := rhoCfCkSmall hρ; clear hρ; go_simp; (all_goals with_reducible first | rfl | (constructor <;> rfl)))
        (with_reducible refine tree_held (v := ?_) rfl (by with_unfolding_all rfl) (fun ρ hρ W hW => ?_) ?_); (rotate_left 1)
        focus (have hS := KS.out _ hW; clear hW; have p228 := hρ (.tmp 228); (simp (disch := (first | decide | ((try simp only [sz_put]); rw [hsz]; decide))) only [ev_eq, ev_ne, a3, a12, a13] at p228); obtain ⟨hc, hfn⟩ := rhoCfCkSmall hρ; clear hρ; go_simp; (all_goals with_reducible first | rfl | (constructor <;> rfl)))
        (with_reducible refine tree_held (v := ?_) rfl (by with_unfolding_all rfl) (fun ρ hρ W hW => ?_) ?_); (rotate_left 1)
        focus (clear hW; have p3 := hρ (.tmp 3); (simp (disch := (first | decide | ((try simp only [sz_put]); rw [hsz]; decide))) only [ev_eq, ev_ne, a3, a12, a13] at p3); obtain ⟨hc, hfn⟩ := rhoCfCkSmall hρ; clear hρ; go_simp; (all_goals with_reducible first | rfl | (constructor <;> rfl)))
        (with_reducible refine tree_held (v := ?_) rfl (by with_unfolding_all rfl) (fun ρ hρ W hW => ?_) ?_); (rotate_left 1)
        focus (clear hW; have p12 := hρ (.tmp 12); (simp (disch := (first | decide | ((try simp only [sz_put]); rw [hsz]; decide))) only [ev_eq, ev_ne, a3, a12, a13] at p12); obtain ⟨hc, hfn⟩ := rhoCfCkSmall hρ; clear hρ; go_simp; (all_goals with_reducible first | rfl | (constructor <;> rfl)))
        (with_reducible refine tree_held (v := ?_) rfl (by with_unfolding_all rfl) (fun ρ hρ W hW => ?_) ?_); (rotate_left 1)
        focus (have hS := KS.out _ hW; clear hW; have p233 := hρ (.tmp 233); (simp (disch := (first | decide | ((try simp only [sz_put]); rw [hsz]; decide))) only [ev_eq, ev_ne, a3, a12, a13] at p233); obtain ⟨hc, hfn⟩ := rhoCfCkSmall hρ; clear hρ; go_simp; (all_goals with_reducible first | rfl | (constructor <;> rfl)))
        (with_reducible refine tree_held (v := ?_) rfl (by with_unfolding_all rfl) (fun ρ hρ W hW => ?_) ?_); (rotate_left 1)
        focus (clear hW; have p13 := hρ (.tmp 13); (simp (disch := (first | decide | ((try simp only [sz_put]); rw [hsz]; decide))) only [ev_eq, ev_ne, a3, a12, a13] at p13); obtain ⟨hc, hfn⟩ := rhoCfCkSmall hρ; clear hρ; go_simp; (all_goals with_reducible first | rfl | (constructor <;> rfl)))
        (with_reducible refine tree_held (v := ?_) rfl (by with_unfolding_all rfl) (fun ρ hρ W hW => ?_) ?_); (rotate_left 1)
        focus (clear hW; have p234 := hρ (.tmp 234); have p235 := hρ (.tmp 235); (simp (disch := (first | decide | ((try simp only [sz_put]); rw [hsz]; decide))) only [ev_eq, ev_ne, a3, a12, a13] at p234 p235); obtain ⟨hc, hfn⟩ := rhoCfCkSmall hρ; clear hρ; go_simp; (all_goals with_reducible first | rfl | (constructor <;> rfl)))
        (with_reducible refine tree_held (v := ?_) rfl (by with_unfolding_all rfl) (fun ρ hρ W hW => ?_) ?_); (rotate_left 1)
        focus (clear hW; have p236 := hρ (.tmp 236); (simp (disch := (first | decide | ((try simp only [sz_put]); rw [hsz]; decide))) only [ev_eq, ev_ne, a3, a12, a13] at p236); obtain ⟨hc, hfn⟩ := rhoCfCkSmall hρ; clear hρ; go_simp; (all_goals with_reducible first | rfl | (constructor <;> rfl)))
        (with_reducible refine tree_held (v := ?_) rfl (by with_unfolding_all rfl) (fun ρ hρ W hW => ?_) ?_); (rotate_left 1)
        focus (have hS := KS.out _ hW; clear hW; have p237 := hρ (.tmp 237); (simp (disch := (first | decide | ((try simp only [sz_put]); rw [hsz]; decide))) only [ev_eq, ev_ne, a3, a12, a13] at p237); obtain ⟨hc, hfn⟩ := rhoCfCkSmall hρ; clear hρ; go_simp; (all_goals with_reducible first | rfl | (constructor <;> rfl)))
        (with_reducible refine tree_held (v := ?_) rfl (by with_unfolding_all rfl) (fun ρ hρ W hW => ?_) ?_); (rotate_left 1)
        focus (clear hW; have p12 := hρ (.tmp 12); (simp (disch := (first | decide | ((try simp only [sz_put]); rw [hsz]; decide))) only [ev_eq, ev_ne, a3, a12, a13] at p12); obtain ⟨hc, hfn⟩ := rhoCfCkSmall hρ; clear hρ; go_simp; (all_goals with_reducible first | rfl | (constructor <;> rfl)))
        (with_reducible refine tree_held (v := ?_) rfl (by with_unfolding_all rfl) (fun ρ hρ W hW => ?_) ?_); (rotate_left 1)
        focus (have hS := KS.out _ hW; clear hW; have p239 := hρ (.tmp 239); (simp (disch := (first | decide | ((try simp only [sz_put]); rw [hsz]; decide))) only [ev_eq, ev_ne, a3, a12, a13] at p239); obtain ⟨hc, hfn⟩ := rhoCfCkSmall hρ; clear hρ; go_simp; (all_goals with_reducible first | rfl | (constructor <;> rfl)))
        (with_reducible refine tree_held (v := ?_) rfl (by with_unfolding_all rfl) (fun ρ hρ W hW => ?_) ?_); (rotate_left 1)
        focus (clear hW; have p13 := hρ (.tmp 13); (simp (disch := (first | decide | ((try simp only [sz_put]); rw [hsz]; decide))) only [ev_eq, ev_ne, a3, a12, a13] at p13); obtain ⟨hc, hfn⟩ := rhoCfCkSmall hρ; clear hρ; go_simp; (all_goals with_reducible first | rfl | (constructor <;> rfl)))
        (with_reducible refine tree_held (v := ?_) rfl (by with_unfolding_all rfl) (fun ρ hρ W hW => ?_) ?_); (rotate_left 1)
        focus (clear hW; have p240 := hρ (.tmp 240); have p241 := hρ (.tmp 241); (simp (disch := (first | decide | ((try simp only [sz_put]); rw [hsz]; decide))) only [ev_eq, ev_ne, a3, a12, a13] at p240 p241); obtain ⟨hc, hfn⟩ := rhoCfCkSmall hρ; clear hρ; go_simp; (all_goals with_reducible first | rfl | (constructor <;> rfl)))
        (with_reducible refine tree_held (v := ?_) rfl (by with_unfolding_all rfl) (fun ρ hρ W hW => ?_) ?_); (rotate_left 1)
        focus (clear hW; have p242 := hρ (.tmp 242); (simp (disch := (first | decide | ((try simp only [sz_put]); rw [hsz]; decide))) only [ev_eq, ev_ne, a3, a12, a13] at p242); obtain ⟨hc, hfn⟩ := rhoCfCkSmall hρ; clear hρ; go_simp; (all_goals with_reducible first | rfl | (constructor <;> rfl)))
        (with_reducible refine tree_held (v := ?_) rfl (by with_unfolding_all rfl) (fun ρ hρ W hW => ?_) ?_); (rotate_left 1)
        focus (have hS := KS.out _ hW; clear hW; have p243 := hρ (.tmp 243); (simp (disch := (first | decide | ((try simp only [sz_put]); rw [hsz]; decide))) only [ev_eq, ev_ne, a3, a12, a13] at p243); obtain ⟨hc, hfn⟩ := rhoCfCkSmall hρ; clear hρ; go_simp; (all_goals with_reducible first | rfl | (constructor <;> rfl)))
        (with_reducible refine tree_held (v := ?_) rfl (by with_unfolding_all rfl) (fun ρ hρ W hW => ?_) ?_); (rotate_left 1)
        focus (clear hW; have p12 := hρ (.tmp 12); (simp (disch := (first | decide | ((try simp only [sz_put]); rw [hsz]; decide))) only [ev_eq, ev_ne, a3, a12, a13] at p12); obtain ⟨hc, hfn⟩ := rhoCfCkSmall hρ; clear hρ; go_simp; (all_goals with_reducible first | rfl | (constructor <;> rfl)))
        (with_reducible refine tree_held (v := ?_) rfl (by with_unfolding_all rfl) (fun ρ hρ W hW => ?_) ?_); (rotate_left 1)
        focus (have hS := KS.out _ hW; clear hW; have p245 := hρ (.tmp 245); (simp (disch := (first | decide | ((try simp only [sz_put]); rw [hsz]; decide))) only [ev_eq, ev_ne, a3, a12, a13] at p245); obtain ⟨hc, hfn⟩ := rhoCfCkSmall hρ; clear hρ; go_simp; (all_goals with_reducible first | rfl | (constructor <;> rfl)))
        (with_reducible refine tree_held (v := ?_) rfl (by with_unfolding_all rfl) (fun ρ hρ W hW => ?_) ?_); (rotate_left 1)
        focus (clear hW; have p13 := hρ (.tmp 13); (simp (disch := (first | decide | ((try simp only [sz_put]); rw [hsz]; decide))) only [ev_eq, ev_ne, a3, a12, a13] at p13); obtain ⟨hc, hfn⟩ := rhoCfCkSmall hρ; clear hρ; go_simp; (all_goals with_reducible first | rfl | (constructor <;> rfl)))
        (with_reducible refine tree_held (v := ?_) rfl (by with_unfolding_all rfl) (fun ρ hρ W hW => ?_) ?_); (rotate_left 1)
        focus (clear hW; have p246 := hρ (.tmp 246); have p247 := hρ (.tmp 247); (simp (disch := (first | decide | ((try simp only [sz_put]); rw [hsz]; decide))) only [ev_eq, ev_ne, a3, a12, a13] at p246 p247); obtain ⟨hc, hfn⟩ := rhoCfCkSmall hρ; clear hρ; go_simp; (all_goals with_reducible first | rfl | (constructor <;> rfl)))
        (with_reducible refine tree_held (v := ?_) rfl (by with_unfolding_all rfl) (fun ρ hρ W hW => ?_) ?_); (rotate_left 1)
        focus (clear hW; have p248 := hρ (.tmp 248); (simp (disch := (first | decide | ((try simp only [sz_put]); rw [hsz]; decide))) only [ev_eq, ev_ne, a3, a12, a13] at p248); obtain ⟨hc, hfn⟩ := rhoCfCkSmall hρ; clear hρ; go_simp; (all_goals with_reducible first | rfl | (constructor <;> rfl)))
        (with_reducible refine tree_held (v := ?_) rfl (by with_unfolding_all rfl) (fun ρ hρ W hW => ?_) ?_); (rotate_left 1)
        focus (have hS := KS.out _ hW; clear hW; have p249 := hρ (.tmp 249); (simp (disch := (first | decide | ((try simp only [sz_put]); rw [hsz]; decide))) only [ev_eq, ev_ne, a3, a12, a13] at p249); obtain ⟨hc, hfn⟩ := rhoCfCkSmall hρ; clear hρ; go_simp; (all_goals with_reducible first | rfl | (constructor <;> rfl)))
        (with_reducible refine tree_held (v := ?_) rfl (by with_unfolding_all rfl) (fun ρ hρ W hW => ?_) ?_); (rotate_left 1)
        focus (clear hW; have p3 := hρ (.tmp 3); (simp (disch := (first | decide | ((try simp only [sz_put]); rw [hsz]; decide))) only [ev_eq, ev_ne, a3, a12, a13] at p3); obtain ⟨hc, hfn⟩ := rhoCfCkSmall hρ; clear hρ; go_simp; (all_goals with_reducible first | rfl | (constructor <;> rfl)))
        (with_reducible refine tree_enter (f := ?_) (args := ?_) rfl (by with_unfolding_all rfl) (fun ρ hρ => ?_) ?_ ?_); (rotate_left 2)
        focus (have p229 := hρ (.tmp 229); have p230 := hρ (.tmp 230); (simp (disch := (first | decide | ((try simp only [sz_put]); rw [hsz]; decide))) only [ev_eq, ev_ne, a3, a12, a13] at p229 p230); obtain ⟨hc, hfn⟩ := rhoCfCkSmall hρ; clear hρ; rw [execOp_call_rho (hfn _)]; clear hfn; go_simp; (all_goals with_reducible first | rfl | (constructor <;> rfl)))
        (with_reducible refine (CN.out _ (by (with_reducible repeat first | assumption | exact Bel.refl _ | refine Bel.drew ?_ | refine Bel.drewN ?_ _ | refine Bel.alloc ?_ _))).mono ?_)
        rintro e w1 ⟨rfl, g1⟩
        have q1 := Bel.of (Bel.refl _) g1
        have k1 : Bel wr w1 := Bel.of (by (with_reducible repeat first | assumption | exact Bel.refl _ | refine Bel.drew ?_ | refine Bel.drewN ?_ _ | refine Bel.alloc ?_ _)) g1
        clear g1
        refine ⟨_, rfl, (by (with_reducible repeat first | assumption | exact Bel.refl _ | refine Bel.drew ?_ | refine Bel.drewN ?_ _ | refine Bel.alloc ?_ _)), ?_⟩
        ·(with_reducible refine tree_held (v := ?_) rfl (by with_unfolding_all rfl) (fun ρ hρ W hW => ?_) ?_); (rotate_left 1)
         focus (clear hW; have p223 := hρ (.tmp 223); have p231 := hρ (.tmp 231); (simp (disch := (first | decide | ((try simp only [sz_put]); rw [hsz]; decide))) only [ev_eq, ev_ne, a3, a12, a13] at p223 p231); obtain ⟨hc, hfn⟩ := rhoCfCkSmall hρ; clear hρ; (with_reducible exact sub_i64 p223 p231 (by assumption)))
         (with_reducible refine tree_step (v := ?_) (w' := ?_) rfl (by with_unfolding_all rfl) (fun ρ hρ => ?_) ?_ ?_ ?_); (rotate_left 2)
         focus (have p238 := hρ (.tmp 238); have p244 := hρ (.tmp 244); (simp (disch := (first | decide | ((try simp only [sz_put]); rw [hsz]; decide))) only [ev_eq, ev_ne, a3, a12, a13] at p238 p244); have p250 := hρ (.tmp 250); (simp (disch := (first | decide | ((try simp only [sz_put]); rw [hsz]; decide))) only [ev_eq, ev_ne, a3, a12, a13] at p250); obtain ⟨hc, hfn⟩ := rhoCfCkSmall hρ; clear hρ; go_simp; (all_goals with_reducible first | rfl | (constructor <;> rfl)))
         focus (with_reducible repeat first | assumption | exact Bel.refl _ | refine Bel.drew ?_ | refine Bel.drewN ?_ _ | refine Bel.alloc ?_ _)
         rotate_left 1
         focus exact tree_no
         (with_reducible refine tree_enter (f := ?_) (args := ?_) rfl (by with_unfolding_all rfl) (fun ρ hρ => ?_) ?_ ?_); (rotate_left 2)
         focus (have p251 := hρ (.tmp 251); have p252 := hρ (.tmp 252); (simp (disch := (first | decide | ((try simp only [sz_put]); rw [hsz]; decide))) only [ev_eq, ev_ne, a3, a12, a13] at p251 p252); obtain ⟨hc, hfn⟩ := rhoCfCkSmall hρ; clear hρ; rw [execOp_call_rho (hfn _)]; clear hfn; go_simp; (all_goals with_reducible first | rfl | (constructor <;> rfl)))
         (with_reducible refine (CT.out _ _ (by (with_reducible repeat first | assumption | exact Bel.refl _ | refine Bel.drew ?_ | refine Bel.drewN ?_ _ | refine Bel.alloc ?_ _))).mono ?_)
         rintro e w3 ⟨rfl, rfl⟩
         refine ⟨_, rfl, (by (with_reducible repeat first | assumption | exact Bel.refl _ | refine Bel.drew ?_ | refine Bel.drewN ?_ _ | refine Bel.alloc ?_ _)), ?_⟩
         rotate_left 1
         focus exact tree_no
         refine tree_done ?_
         (simp only [List.drop_succ_cons, List.drop_zero])
         (with_reducible refine list_held (v := ?_) (w' := ?_) rfl (by with_unfolding_all rfl) (fun ρ hρ => ?_) ?_); (rotate_left 2)
         focus (have p232 := hρ (.tmp 232); have p253 := hρ (.tmp 253); (simp (disch := (first | decide | ((try simp only [sz_put]); rw [hsz]; decide))) only [ev_eq, ev_ne, a3, a12, a13] at p232 p253); obtain ⟨hc, hfn⟩ := rhoCfCkSmall hρ; clear hρ; (with_reducible exact sub_i64 p232 p253 (by assumption)))
         (with_reducible refine list_held (v := ?_) (w' := ?_) rfl (by with_unfolding_all rfl) (fun ρ hρ => ?_) ?_); (rotate_left 2)
         focus (have p254 := hρ (.tmp 254); (simp (disch := (first | decide | ((try simp only [sz_put]); rw [hsz]; decide))) only [ev_eq, ev_ne, a3, a12, a13] at p254); obtain ⟨hc, hfn⟩ := rhoCfCkSmall hρ; clear hρ; (with_reducible exact add_i64 p254 (hc _) (by assumption)))
         (with_reducible refine list_held (v := ?_) (w' := ?_) rfl (by with_unfolding_all rfl) (fun ρ hρ => ?_) ?_); (rotate_left 2)
         focus (have p255 := hρ (.tmp 255); (simp (disch := (first | decide | ((try simp only [sz_put]); rw [hsz]; decide))) only [ev_eq, ev_ne, a3, a12, a13] at p255); obtain ⟨hc, hfn⟩ := rhoCfCkSmall hρ; clear hρ; go_simp; (all_goals with_reducible first | rfl | (constructor <;> rfl)))
         refine wpList_nil ?_
         subst ha
         (simp only [put_some, set_s, set_z])
         go_wp2
         exact ⟨⟨j + 1, _, by omega, by go_num, rfl, Bel.of kw2 (show Bel wr _ from (by (with_reducible repeat first | assumption | exact Bel.refl _ | refine Bel.drew ?_ | refine Bel.drewN ?_ _ | refine Bel.alloc ?_ _))).out, HNX⟩, by simp [intOf]; omega⟩
        (with_reducible refine tree_step (v := ?_) (w' := ?_) rfl (by with_unfolding_all rfl) (fun ρ hρ => ?_) ?_ ?_ ?_); (rotate_left 2)
        focus (have p238 := hρ (.tmp 238); have p244 := hρ (.tmp 244); (simp (disch := (first | decide | ((try simp only [sz_put]); rw [hsz]; decide))) only [ev_eq, ev_ne, a3, a12, a13] at p238 p244); have p250 := hρ (.tmp 250); (simp (disch := (first | decide | ((try simp only [sz_put]); rw [hsz]; decide))) only [ev_eq, ev_ne, a3, a12, a13] at p250); obtain ⟨hc, hfn⟩ := rhoCfCkSmall hρ; clear hρ; go_simp; (all_goals with_reducible first | rfl | (constructor <;> rfl)))
        focus (with_reducible repeat first | assumption | exact Bel.refl _ | refine Bel.drew ?_ | refine Bel.drewN ?_ _ | refine Bel.alloc ?_ _)
        rotate_left 1
        focus exact tree_no
        (with_reducible refine tree_enter (f := ?_) (args := ?_) rfl (by with_unfolding_all rfl) (fun ρ hρ => ?_) ?_ ?_); (rotate_left 2)
        focus (have p229 := hρ (.tmp 229); have p230 := hρ (.tmp 230); (simp (disch := (first | decide | ((try simp only [sz_put]); rw [hsz]; decide))) only [ev_eq, ev_ne, a3, a12, a13] at p229 p230); obtain ⟨hc, hfn⟩ := rhoCfCkSmall hρ; clear hρ; rw [execOp_call_rho (hfn _)]; clear hfn; go_simp; (all_goals with_reducible first | rfl | (constructor <;> rfl)))
        (with_reducible refine (CN.out _ (by (with_reducible repeat first | assumption | exact Bel.refl _ | refine Bel.drew ?_ | refine Bel.drewN ?_ _ | refine Bel.alloc ?_ _))).mono ?_)
        rintro e w2 ⟨rfl, g2⟩
        have q2 := Bel.of (Bel.refl _) g2
        have k2 : Bel wr w2 := Bel.of (by (with_reducible repeat first | assumption | exact Bel.refl _ | refine Bel.drew ?_ | refine Bel.drewN ?_ _ | refine Bel.alloc ?_ _)) g2
        clear g2
        refine ⟨_, rfl, (by (with_reducible repeat first | assumption | exact Bel.refl _ | refine Bel.drew ?_ | refine Bel.drewN ?_ _ | refine Bel.alloc ?_ _)), ?_⟩
        rotate_left 1
        focus exact tree_no
        (with_reducible refine tree_held (v := ?_) rfl (by with_unfolding_all rfl) (fun ρ hρ W hW => ?_) ?_); (rotate_left 1)
        focus (clear hW; have p223 := hρ (.tmp 223); have p231 := hρ (.tmp 231); (simp (disch := (first | decide | ((try simp only [sz_put]); rw [hsz]; decide))) only [ev_eq, ev_ne, a3, a12, a13] at p223 p231); obtain ⟨hc, hfn⟩ := rhoCfCkSmall hρ; clear hρ; (with_reducible exact sub_i64 p223 p231 (by assumption)))
        (with_reducible refine tree_enter (f := ?_) (args := ?_) rfl (by with_unfolding_all rfl) (fun ρ hρ => ?_) ?_ ?_); (rotate_left 2)
        focus (have p251 := hρ (.tmp 251); have p252 := hρ (.tmp 252); (simp (disch := (first | decide | ((try simp only [sz_put]); rw [hsz]; decide))) only [ev_eq, ev_ne, a3, a12, a13] at p251 p252); obtain ⟨hc, hfn⟩ := rhoCfCkSmall hρ; clear hρ; rw [execOp_call_rho (hfn _)]; clear hfn; go_simp; (all_goals with_reducible first | rfl | (constructor <;> rfl)))
        (with_reducible refine (CT.out _ _ (by (with_reducible repeat first | assumption | exact Bel.refl _ | refine Bel.drew ?_ | refine Bel.drewN ?_ _ | refine Bel.alloc ?_ _))).mono ?_)
        rintro e w3 ⟨rfl, rfl⟩
        refine ⟨_, rfl, (by (with_reducible repeat first | assumption | exact Bel.refl _ | refine Bel.drew ?_ | refine Bel.drewN ?_ _ | refine Bel.alloc ?_ _)), ?_⟩
        rotate_left 1
        focus exact tree_no
        refine tree_done ?_
        (simp only [List.drop_succ_cons, List.drop_zero])
        (with_reducible refine list_held (v := ?_) (w' := ?_) rfl (by with_unfolding_all rfl) (fun ρ hρ => ?_) ?_); (rotate_left 2)
        focus (have p232 := hρ (.tmp 232); have p253 := hρ (.tmp 253); (simp (disch := (first | decide | ((try simp only [sz_put]); rw [hsz]; decide))) only [ev_eq, ev_ne, a3, a12, a13] at p232 p253); obtain ⟨hc, hfn⟩ := rhoCfCkSmall hρ; clear hρ; (with_reducible exact sub_i64 p232 p253 (by assumption)))
        (with_reducible refine list_held (v := ?_) (w' := ?_) rfl (by with_unfolding_all rfl) (fun ρ hρ => ?_) ?_); (rotate_left 2)
        focus (have p254 := hρ (.tmp 254); (simp (disch := (first | decide | ((try simp only [sz_put]); rw [hsz]; decide))) only [ev_eq, ev_ne, a3, a12, a13] at p254); obtain ⟨hc, hfn⟩ := rhoCfCkSmall hρ; clear hρ; (with_reducible exact add_i64 p254 (hc _) (by assumption)))
        (with_reducible refine list_held (v := ?_) (w' := ?_) rfl (by with_unfolding_all rfl) (fun ρ hρ => ?_) ?_); (rotate_left 2)
        focus (have p255 := hρ (.tmp 255); (simp (disch := (first | decide | ((try simp only [sz_put]); rw [hsz]; decide))) only [ev_eq, ev_ne, a3, a12, a13] at p255); obtain ⟨hc, hfn⟩ := rhoCfCkSmall hρ; clear hρ; go_simp; (all_goals with_reducible first | rfl | (constructor <;> rfl)))
        refine wpList_nil ?_
        subst ha
        (simp only [put_some, set_s, set_z])
        go_wp2
        exact ⟨⟨j + 1, _, by omega, by go_num, rfl, Bel.of kw2 (show Bel wr _ from (by (with_reducible repeat first | assumption | exact Bel.refl _ | refine Bel.drew ?_ | refine Bel.drewN ?_ _ | refine Bel.alloc ?_ _))).out, HNX⟩, by simp [intOf]; omega⟩
       ·go_wp2
        exact ⟨⟨k + 1, L3, by omega, by go_num, rfl, Bel.of kM0 kw2.out, Lib.hid ⟨hJ1, hJ2, fun h => absurd h (by omega)⟩⟩, by simp [intOf]; omega⟩
      ·have hji : ¬ (j : Int) < (x.meths.length : Int) := by omega
       have hjl : j = x.meths.length := by omega
       have hdone : 0 ≤ L3 → okSvc x := fun h => by
        obtain ⟨⟨_, _, h1⟩, h2⟩ := hinv2.out
        obtain ⟨h3, h4⟩ := h1 h
        rw [hjl, List.take_length] at h4
        exact ⟨h2 h, by omega, h4⟩
       have HNEW := Lib.hid (show Inv ((∀ m ∈ s.msgs, okMsg m) ∧ ∀ e ∈ s.enums, okEnum e) okSvc s.svcs (k + 1) L3 from ⟨hJ1, hJ2, fun h => ⟨(hinv.out.2.2 hL).1, take_more HG.out (hinv.out.2.2 hL).2 (hdone h)⟩⟩)
       clear hdone
       go_wp2
       exact ⟨⟨k + 1, L3, by omega, by go_num, rfl, Bel.of kM0 kw2.out, HNEW⟩, by simp [intOf]; omega⟩
   ·have HX := Lib.hid (show Inv ((∀ m ∈ s.msgs, okMsg m) ∧ ∀ e ∈ s.enums, okEnum e) okSvc s.svcs s.svcs.length L from ⟨hL1, hL2, fun h => absurd h hL⟩)
    go_wp2
    all_goals exact ⟨L, rfl, kw, HX⟩
  ·have hki : ¬ (k : Int) < (s.svcs.length : Int) := by omega
   have hkl : k = s.svcs.length := by omega
   have HX := Lib.hid (show Inv ((∀ m ∈ s.msgs, okMsg m) ∧ ∀ e ∈ s.enums, okEnum e) okSvc s.svcs s.svcs.length L by rw [hkl] at hinv; exact hinv.out)
   go_wp2
   all_goals exact ⟨L, rfl, kw, HX⟩
set_option maxHeartbeats 4000000 in
set_option maxRecDepth 100000 in
theorem rf_Small (sq1 sq2 sq3 : Option Addr) (sm1 sm2 sm3 sc1 sc2 sc3 : Nat) (s : PSchema) (w : World) (hs : VSchema w [.slice sq1 sm1 sc1, .slice sq2 sm2 sc2, .slice sq3 sm3 sc3] s) :
  Calls Tryz.prog 7 #[.agg #[.slice sq1 sm1 sc1, .slice sq2 sm2 sc2, .slice sq3 sm3 sc3]] w (SmallPost s w) := by
 have hs0 := hs
 obtain ⟨_, _, _, hcs, hm1, hm2, hm3⟩ := hs
 cases hcs
 obtain rfl := sl_len hm1
 obtain rfl := sl_len hm2
 obtain rfl := sl_len hm3
 have HM1 := Lib.hid hm1
 have HM2 := Lib.hid hm2
 have HM3 := Lib.hid hm3
 obtain ⟨_, _, _, hb1⟩ := sl_form hm1
 obtain ⟨_, _, _, hb2⟩ := sl_form hm2
 obtain ⟨_, _, _, hb3⟩ := sl_form hm3
 clear hm1 hm2 hm3 hs0
 have b1 : (s.msgs.length : Int) ≤ 140737488355328 := by omega
 have b2 : (s.enums.length : Int) ≤ 140737488355328 := by omega
 have b3 : (s.svcs.length : Int) ≤ 140737488355328 := by omega
 by_cases h1 : 150 < (s.msgs.length : Int)
 ·go_enter Tryz.func7, Tryz.ntmps7
  go_wp2
  go_ret
  exact ⟨false, rfl, (fun h => by cases h), Bel.out (by (with_reducible repeat first | assumption | exact Bel.refl _ | refine Bel.drew ?_ | refine Bel.drewN ?_ _ | refine Bel.alloc ?_ _))⟩
 by_cases h2 : 150 < (s.enums.length : Int)
 ·go_enter Tryz.func7, Tryz.ntmps7
  go_wp2
  go_ret
  exact ⟨false, rfl, (fun h => by cases h), Bel.out (by (with_reducible repeat first | assumption | exact Bel.refl _ | refine Bel.drew ?_ | refine Bel.drewN ?_ _ | refine Bel.alloc ?_ _))⟩
 by_cases h3 : 150 < (s.svcs.length : Int)
 ·go_enter Tryz.func7, Tryz.ntmps7
  go_wp2
  go_ret
  exact ⟨false, rfl, (fun h => by cases h), Bel.out (by (with_reducible repeat first | assumption | exact Bel.refl _ | refine Bel.drew ?_ | refine Bel.drewN ?_ _ | refine Bel.alloc ?_ _))⟩
 by_cases h4 : 150 < (s.msgs.length : Int) + s.enums.length + s.svcs.length
 ·go_enter Tryz.func7, Tryz.ntmps7
  go_wp2
  go_ret
  exact ⟨false, rfl, (fun h => by cases h), Bel.out (by (with_reducible repeat first | assumption | exact Bel.refl _ | refine Bel.drew ?_ | refine Bel.drewN ?_ _ | refine Bel.alloc ?_ _))⟩
 have KB := Lib.hid (fun W' (k : Bel (w.alloc (.cells #[.slice sq1 s.msgs.length sc1, .slice sq2 s.enums.length sc2, .slice sq3 s.svcs.length sc3] 26)) W') => show W'.cell? ⟨w.heap.size, 0, none⟩ = some (.slice sq1 s.msgs.length sc1) ∧ W'.cell? ⟨w.heap.size, 1, none⟩ = some (.slice sq2 s.enums.length sc2) ∧ W'.cell? ⟨w.heap.size, 2, none⟩ = some (.slice sq3 s.svcs.length sc3) from ⟨k.some ((World.cell?_alloc_at _ _ _ _ rfl).trans rfl), k.some ((World.cell?_alloc_at _ _ _ _ rfl).trans rfl), k.some ((World.cell?_alloc_at _ _ _ _ rfl).trans rfl)⟩)
 have kb : Bel w (w.alloc (.cells #[.slice sq1 s.msgs.length sc1, .slice sq2 s.enums.length sc2, .slice sq3 s.svcs.length sc3] 26)) := (Bel.refl _).alloc _
 go_enter Tryz.func7, Tryz.ntmps7
 go_upto_block 0 with (fail)
 go_cut [3] (fun u3 wx => ∃ L : Int, u3 = .int .i64 L ∧ Bel (w.alloc (.cells #[.slice sq1 s.msgs.length sc1, .slice sq2 s.enums.length sc2, .slice sq3 s.svcs.length sc3] 26)) wx ∧ Hid (Inv (True) okMsg s.msgs s.msgs.length L))
 case first =>
  refine sm_loop0 _ _ _ _ _ _ s w _ _ HM1 b1 KB kb (Bel.refl _) (by omega) (by omega) (fun _ => trivial) _ _ _ _ _ _ _ _ _ _ _ _ _ _ _ _ _ _ _ _ _ _ _ _ _ _ _ _ _ _ _ _ _ _ _ _ _ _ _ _ _ _ _ _ _ _ _ _ _ _ _ _ _ _ _ _ _ _ _ _ _ _ _ _ _ _ _ _ _ _ _ _ _ _ _ _ _ _ _ _ _ _ _ _ _ _ _ _ _ _ _ _ _ _ _ _ _ _ _ _ _ _ _ _ _ _ _ _ _ _ _ _ _ _ _ _ _ _ _ _ _ _ _ _ _ _ _ _ _ _ _ _ _ _ _ _ _ _ _ _ _ _ _ _ _ _ _ _ _ _ _ _ _ _ _ _ _ _ _ _ _ _ _ _ _ _ _ _ _ _ _ _ _ _ _ _ _ _ _ _ _ _ _ _ _ _ _ _ _ _ _ _ _ _ _ _ _ _ _ _ _ _ _ _ _ _ _ _ _ _ _ _ _ _ _ _ _ _ _ _ _ _ _ _ _ _ _ _ _ _ _ _ _ _ _ _ _ _ _ _ _ _ _ _ _ _ _ _ _ _ _ _ _ _ _ _ _ ?_
  intro wx u3 u4 u5 u6 u7 u44 u45 u46 u47 u48 u49 u50 u51 u52 u53 u54 u55 u56 u57 u58 u59 u60 u61 u62 u63 u64 u65 u66 u67 u68 u69 u70 u71 u72 u73 u74 u75 u76 u77 u78 u79 u80 u81 u82 u83 u84 u85 u86 u87 u88 u89 u90 u91 u92 u93 u94 u95 u96 u97 u98 u99 u100 u101 u102 u103 u104 u105 u106 u107 u108 u109 u110 u111 u112 u113 u114 u115 u116 u117 u118 u119 u120 hr
  (try dsimp only)
  go_step
  go_meet
  exact hr
 case rest =>
  obtain ⟨LL, hs3, kc, hA1⟩ := hcut
  subst hs3
  have hLL1 : LL ≤ 400 := hA1.out.1
  have hLL2 : -1000000000000000000 ≤ LL := hA1.out.2.1
  have hR1 : 0 ≤ LL → ∀ m ∈ s.msgs, okMsg m := fun h => by
   have := (hA1.out.2.2 h).2
   rwa [List.take_length] at this
  go_upto_block 4 with (fail)
  go_cut [3] (fun u3 wx => ∃ L : Int, u3 = .int .i64 L ∧ Bel (w.alloc (.cells #[.slice sq1 s.msgs.length sc1, .slice sq2 s.enums.length sc2, .slice sq3 s.svcs.length sc3] 26)) wx ∧ Hid (Inv (∀ m ∈ s.msgs, okMsg m) okEnum s.enums s.enums.length L))
  case first =>
   refine sm_loop1 _ _ _ _ _ _ s w _ _ HM2 b2 KB kb kc hLL1 hLL2 hR1 _ _ _ _ _ _ _ _ _ _ _ _ _ _ _ _ _ _ _ _ _ _ _ _ _ _ _ _ _ _ _ _ _ _ _ _ _ _ _ _ _ _ _ _ _ _ _ _ _ _ _ _ _ _ _ _ _ _ _ _ _ _ _ _ _ _ _ _ _ _ _ _ _ _ _ _ _ _ _ _ _ _ _ _ _ _ _ _ _ _ _ _ _ _ _ _ _ _ _ _ _ _ _ _ _ _ _ _ _ _ _ _ _ _ _ _ _ _ _ _ _ _ _ _ _ _ _ _ _ _ _ _ _ _ _ _ _ _ _ _ _ _ _ _ _ _ _ _ _ _ _ _ _ _ _ _ _ _ _ _ _ _ _ _ _ _ _ _ _ _ _ _ _ _ _ _ _ _ _ _ _ _ _ _ _ _ _ _ _ _ _ _ _ _ _ _ _ _ _ _ _ _ _ _ _ _ _ _ _ _ _ _ _ _ _ _ _ _ _ _ _ _ _ _ _ _ _ _ _ _ _ _ _ _ _ _ _ _ _ _ _ _ _ _ _ _ _ _ _ _ _ _ _ _ _ _ _ ?_
   intro wx u3 u8 u9 u10 u121 u122 u123 u124 u125 u126 u127 u128 u129 u130 u131 u132 u133 u134 u135 u136 u137 u138 u139 u140 u141 u142 u143 u144 u145 u146 u147 u148 u149 u150 u151 u152 u153 u154 u155 u156 u157 u158 u159 u160 u161 u162 u163 u164 u165 u166 u167 u168 u169 u170 u171 u172 u173 u174 u175 u176 u177 u178 u179 u180 u181 u182 u183 hr
   (try dsimp only)
   go_step
   go_meet
   exact hr
  case rest =>
   obtain ⟨LL, hs3, kc, hA2⟩ := hcut
   subst hs3
   have hLL1 : LL ≤ 400 := hA2.out.1
   have hLL2 : -1000000000000000000 ≤ LL := hA2.out.2.1
   have hR2 : 0 ≤ LL → (∀ m ∈ s.msgs, okMsg m) ∧ ∀ e ∈ s.enums, okEnum e := fun h => by
    obtain ⟨h1, h2⟩ := hA2.out.2.2 h
    rw [List.take_length] at h2
    exact ⟨h1, h2⟩
   clear hR1
   go_upto_block 8 with (fail)
   go_cut [3] (fun u3 wx => ∃ L : Int, u3 = .int .i64 L ∧ Bel (w.alloc (.cells #[.slice sq1 s.msgs.length sc1, .slice sq2 s.enums.length sc2, .slice sq3 s.svcs.length sc3] 26)) wx ∧ Hid (Inv ((∀ m ∈ s.msgs, okMsg m) ∧ ∀ e ∈ s.enums, okEnum e) okSvc s.svcs s.svcs.length L))
   case first =>
    refine sm_loop2 _ _ _ _ _ _ s w _ _ HM3 b3 KB kb kc hLL1 hLL2 hR2 _ _ _ _ _ _ _ _ _ _ _ _ _ _ _ _ _ _ _ _ _ _ _ _ _ _ _ _ _ _ _ _ _ _ _ _ _ _ _ _ _ _ _ _ _ _ _ _ _ _ _ _ _ _ _ _ _ _ _ _ _ _ _ _ _ _ _ _ _ _ _ _ _ _ _ _ _ _ _ _ _ _ _ _ _ _ _ _ _ _ _ _ _ _ _ _ _ _ _ _ _ _ _ _ _ _ _ _ _ _ _ _ _ _ _ _ _ _ _ _ _ _ _ _ _ _ _ _ _ _ _ _ _ _ _ _ _ _ _ _ _ _ _ _ _ _ _ _ _ _ _ _ _ _ _ _ _ _ _ _ _ _ _ _ _ _ _ _ _ _ _ _ _ _ _ _ _ _ _ _ _ _ _ _ _ _ _ _ _ _ _ _ _ _ _ _ _ _ _ _ _ _ _ _ _ _ _ _ _ _ _ _ _ _ _ _ _ _ _ _ _ _ _ _ _ _ _ _ _ _ _ _ _ _ _ _ _ _ _ _ _ _ _ _ _ _ _ _ _ _ _ _ _ _ _ _ _ ?_
    intro wx u3 u11 u12 u13 u184 u185 u186 u187 u188 u189 u190 u191 u192 u193 u194 u195 u196 u197 u198 u199 u200 u201 u202 u203 u204 u205 u206 u207 u208 u209 u210 u211 u212 u213 u214 u215 u216 u217 u218 u219 u220 u221 u222 u223 u224 u225 u226 u227 u228 u229 u230 u231 u232 u233 u234 u235 u236 u237 u238 u239 u240 u241 u242 u243 u244 u245 u246 u247 u248 u249 u250 u251 u252 u253 u254 u255 hr
    (try dsimp only)
    go_step
    go_meet
    exact hr
   case rest =>
    obtain ⟨LL, hs3, kc, hA3⟩ := hcut
    subst hs3
    have hLL1 : LL ≤ 400 := hA3.out.1
    have hLL2 : -1000000000000000000 ≤ LL := hA3.out.2.1
    have HB := Lib.hid (show decide (0 ≤ LL) = true → SmallP s from fun h => by
     obtain ⟨⟨h1, h2⟩, h3⟩ := hA3.out.2.2 (of_decide_eq_true h)
     rw [List.take_length] at h3
     exact ⟨by omega, by omega, by omega, h1, h2, h3⟩)
    clear hR2
    go_wp2
    go_ret
    exact ⟨_, rfl, HB.out, Bel.out (Bel.of kb kc.out)⟩
end Go.Proofs.YtigfjnbgchndkaaGreatDoor
