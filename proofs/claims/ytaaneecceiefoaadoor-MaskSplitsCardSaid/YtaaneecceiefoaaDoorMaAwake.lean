/- Layer 19's awake walked. -/
import Derived.Test.YtaaneecceiefoaaDoorMaAwakeP
namespace Go.Proofs.YtaaneecceiefoaaDoor
open Go.RowKit Ck Ma
set_option linter.unusedVariables false
set_option linter.unusedSimpArgs false
set_option maxHeartbeats 4000000 in
set_option maxRecDepth 100000 in
theorem law_awake (w : World) (hM : ML w) : Calls Tryd.prog 11 #[] w fun e w' => e = .returned (.bool true) ∧ Bel w w' := by
  have CP := Lib.hid (fun W (k : Bel w W) p hs => parse_call p W hs (hM.below k))
  clear hM
  go_enter Tryd.func11, Tryd.ntmps11
  go_upto_region 2 with (fail)
  have H1 := Lib.hid ((ST.start w).addbox fC1 52)
  unfold fC1 at H1
  generalize hW1 : World.alloc w _ = W1 at H1 ⊢
  have hs1 : W1.heap.size = w.heap.size + 1 := by rw [← hW1]; simp
  clear hW1
  go_upto_region 3 with (fail)
  have H2 := Lib.hid (H1.out.addbox fC2 52)
  unfold fC2 at H2
  have hs2 : (World.alloc W1 (.cells fC2 52)).heap.size = w.heap.size + 2 := by simp [hs1]
  unfold fC2 at hs2
  rw [hs1] at H2
  generalize hW2 : World.alloc W1 _ = W2 at H2 hs2 ⊢
  clear hW2 hs1 H1 W1
  have HB1 := Lib.hid (show W2.heap[w.heap.size]? = some (.cells fC1 52 (0, 0)) from H2.out.box 1 rfl)
  have HB2 := Lib.hid (show W2.heap[w.heap.size + 1]? = some (.cells fC2 52 (0, 0)) from H2.out.box 0 rfl)
  have Z1 := Lib.hid (show (Tryd.prog.info? 52).map (·.size) = some fC1.size by kernel_rfl)
  have Z2 := Lib.hid (show (Tryd.prog.info? 52).map (·.size) = some fC2.size by kernel_rfl)
  have hz1 : fC1.size = 16 := rfl
  have hz2 : fC2.size = 16 := rfl
  go_upto_region 4 with (first
    | (refine wpl_load_box rfl 52 _ rfl w.heap.size fC1 52 rfl HB1.out _ Tryd.underlying52 rfl Z1.out ?_)
    | (refine wpl_load_box rfl 52 _ rfl (w.heap.size + 1) fC2 52 rfl HB2.out _ Tryd.underlying52 rfl Z2.out ?_))
  generalize hX : Array.foldl _ _ fC2.zipIdx 0 _ = X
  have hXf : X = fC1 ++ fC2 := by rw [← hX]; kernel_rfl
  clear hX
  subst hXf
  all_goals (first | (exfalso; assumption) | skip)
  have H3 := Lib.hid (((H2.out.addbox (fC1 ++ fC2) 52).addbox #[.string ⟨#[77]⟩, .slice (some ⟨w.heap.size + 2, 0, none⟩) 2 2, .slice none 0 0, .slice none 0 0, .slice none 0 0] 57).addbox #[.slice (some ⟨w.heap.size + 3, 0, none⟩) 1 1, .slice none 0 0, .slice none 0 0] 62)
  simp only [World.size_alloc, hs2, Nat.add_assoc, Nat.reduceAdd] at H3
  have hs3 : (World.alloc (World.alloc (World.alloc W2 (.cells (fC1 ++ fC2) 52)) (.cells #[.string ⟨#[77]⟩, .slice (some ⟨w.heap.size + 2, 0, none⟩) 2 2, .slice none 0 0, .slice none 0 0, .slice none 0 0] 57)) (.cells #[.slice (some ⟨w.heap.size + 3, 0, none⟩) 1 1, .slice none 0 0, .slice none 0 0] 62)).heap.size = w.heap.size + 5 := by simp [hs2]
  generalize hW3 : World.alloc (World.alloc (World.alloc W2 _) _) _ = W3 at H3 hs3 ⊢
  clear hW3 hs2 HB1 HB2 Z1 Z2 hz1 hz2 H2 W2
  have SC := Lib.hid (fun W (k : Bel W3 W) => vschema_A (W := W) (b := w.heap.size + 2) (c := w.heap.size + 3) (block_of_below k (H3.out.box 2 rfl)) (block_of_below k (H3.out.box 1 rfl)))
  have c0 := H3.out.cell 0 rfl 0
  have c1 := H3.out.cell 0 rfl 1
  have c2 := H3.out.cell 0 rfl 2
  dsimp only at c0 c1 c2
  go_upto_region 5 with (go_at_call 26; (with_reducible refine (CP.out _ H3.out.bel _ (SC.out _ (Bel.refl _))).mono ?_); rintro e w4 ⟨q, c, rfl, d4, k4⟩; have k4 : Bel _ w4 := k4; have H4 := Lib.hid (H3.out.belw k4); have K4 := Lib.hid k4; have D4 := Lib.hid d4; clear k4 d4 c0 c1 c2 CP)
  go_upto_region 6 with (fail)
  have hs5 : (World.alloc w4 (.cells #[.int .i64 1, .int .i64 2, .int .u64 0, .string ⟨#[]⟩, .slice none 0 0, .slice none 0 0, .slice none 0 0, .slice none 0 0] 40)).heap.size = w4.heap.size + 1 := by simp
  have H5 := Lib.hid ((H4.out.addbox #[.int .i64 1, .int .i64 2, .int .u64 0, .string ⟨#[]⟩, .slice none 0 0, .slice none 0 0, .slice none 0 0, .slice none 0 0] 40).addbox #[.int .i64 10, .int .u64 0, .string ⟨#[]⟩, .slice none 0 0, .slice none 0 0, .slice (some ⟨w4.heap.size, 0, none⟩) 1 1, .slice none 0 0] 28)
  rw [hs5] at H5
  have D5 := Lib.hid ((D4.out.bel ((Bel.refl _).alloc (.cells #[.int .i64 1, .int .i64 2, .int .u64 0, .string ⟨#[]⟩, .slice none 0 0, .slice none 0 0, .slice none 0 0, .slice none 0 0] 40))).bel ((Bel.refl _).alloc (.cells #[.int .i64 10, .int .u64 0, .string ⟨#[]⟩, .slice none 0 0, .slice none 0 0, .slice (some ⟨w4.heap.size, 0, none⟩) 1 1, .slice none 0 0] 28)))
  have K5 := Lib.hid (Bel.of K4.out (((Bel.refl w4).alloc (.cells #[.int .i64 1, .int .i64 2, .int .u64 0, .string ⟨#[]⟩, .slice none 0 0, .slice none 0 0, .slice none 0 0, .slice none 0 0] 40)).alloc (.cells #[.int .i64 10, .int .u64 0, .string ⟨#[]⟩, .slice none 0 0, .slice none 0 0, .slice (some ⟨w4.heap.size, 0, none⟩) 1 1, .slice none 0 0] 28)))
  generalize hW5 : World.alloc (World.alloc w4 _) _ = W5 at H5 D5 K5 ⊢
  clear hW5 hs5 hs3 D4 K4 H4 H3
  obtain ⟨G, hG⟩ : ∃ G, G = w4.heap.size := ⟨_, rfl⟩
  rw [← hG] at H5 ⊢
  have HSL := Lib.hid (fun W (k : Bel W5 W) => show W.heap[G]? = some (.cells #[.int .i64 1, .int .i64 2, .int .u64 0, .string ⟨#[]⟩, .slice none 0 0, .slice none 0 0, .slice none 0 0, .slice none 0 0] 40 (0, 0)) from block_of_below k (H5.out.box 1 rfl))
  have CT := Lib.hid (fun W (k : Bel W5 W) => text_call _ q c W _ (SC.out W (Bel.of K5.out k)) (D5.out.bel k))
  have CK := Lib.hid (fun W (k : Bel W5 W) => keep_call q c G W _ ((D5.out.bel k).weak (fun b _ hb => hb)) (HSL.out W k))
  have CD := Lib.hid (fun W (k : Bel W5 W) => drop_call q c G W _ ((D5.out.bel k).weak (fun b _ hb => hb)) (HSL.out W k))
  clear D5 K5 SC HSL hG
  have c0 := H5.out.cell 2 rfl 0
  have c1 := H5.out.cell 2 rfl 1
  have c2 := H5.out.cell 2 rfl 2
  dsimp only at c0 c1 c2
  go_wp2_with (first
    | (go_at_call 27; (with_reducible refine (CT.out _ (Bel.refl _)).mono ?_); rintro e w6 ⟨rfl, k6⟩; have k6 : Bel _ w6 := k6; have K6 := Lib.hid k6; have H6 := Lib.hid (H5.out.belw k6); clear k6 c0 c1 c2 CT; have y0 := H6.out.cell 0 rfl 0; have y1 := H6.out.cell 0 rfl 1; have y2 := H6.out.cell 0 rfl 2; have y3 := H6.out.cell 0 rfl 3; have y4 := H6.out.cell 0 rfl 4; have y5 := H6.out.cell 0 rfl 5; have y6 := H6.out.cell 0 rfl 6; dsimp only at y0 y1 y2 y3 y4 y5 y6)
    | (go_at_call 7; (with_reducible refine (CK.out _ K6.out).mono ?_); rintro e w7 ⟨d7, rfl, k7⟩; have k7 : Bel _ w7 := k7; have f7 : ∀ W, Sem.run Tryd.prog (Instr.field 28 (.agg #[.int .i64 d7.k, .int .u64 d7.b, .string (S d7.t), .slice d7.p1 d7.n1 d7.c1, .slice d7.p2 d7.n2 d7.c2, .slice d7.p3 1 d7.c3, .slice d7.p4 d7.n4 d7.c4]) 5) W = .ok (.slice d7.p3 1 d7.c3) W := (fun W => by kernel_rfl); have K7 := Lib.hid (Bel.of K6.out k7); have H7 := Lib.hid (H6.out.belw k7); clear k7 y0 y1 y2 y3 y4 y5 y6 CK; have y0 := H7.out.cell 0 rfl 0; have y1 := H7.out.cell 0 rfl 1; have y2 := H7.out.cell 0 rfl 2; have y3 := H7.out.cell 0 rfl 3; have y4 := H7.out.cell 0 rfl 4; have y5 := H7.out.cell 0 rfl 5; have y6 := H7.out.cell 0 rfl 6; dsimp only at y0 y1 y2 y3 y4 y5 y6)
    | (go_at_call 9; (with_reducible refine (CD.out _ K7.out).mono ?_); rintro e w8 ⟨d8, rfl, k8⟩; have k8 : Bel _ w8 := k8; have f8 : ∀ W, Sem.run Tryd.prog (Instr.field 28 (.agg #[.int .i64 d8.k, .int .u64 d8.b, .string (S d8.t), .slice d8.p1 d8.n1 d8.c1, .slice d8.p2 d8.n2 d8.c2, .slice d8.p3 0 d8.c3, .slice d8.p4 d8.n4 d8.c4]) 5) W = .ok (.slice d8.p3 0 d8.c3) W := (fun W => by kernel_rfl); have H8 := Lib.hid (H7.out.belw k8)))
  go_ret
  exact ⟨by simp, H8.out.bel⟩
end Go.Proofs.YtaaneecceiefoaaDoor
