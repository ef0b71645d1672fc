/- The program's layer 6 walked, part 6: Snake. -/
import Derived.Test.YtefnihgjacnjfaaDoorIdProg5
import Derived.Test.YtefnihgjacnjfaaDoorBuilder
namespace Go.Proofs.YtefnihgjacnjfaaDoor
open Go.RowKit
set_option linter.unusedVariables false
set_option linter.unusedSimpArgs false

theorem lower_map (l : List UInt8) : Lib.toLowerA l = l.map Id.loB := by
  have h : Lib.lowerB = Id.loB := by
    funext b
    have := Id.u8_all (fun b => decide (Lib.lowerB b = Id.loB b)) (by decide +kernel) b
    simpa using this
  unfold Lib.toLowerA
  rw [h]
theorem ca_cls (b : UInt8) : Id.caB b = decide (Id.cls b.toNat = 2) := by
  rw [Id.bcls]
  cases h1 : Id.smB b <;> cases h2 : Id.caB b <;> simp
  · (repeat' split) <;> simp
  · have := Id.u8_all (fun b => !(Id.smB b && Id.caB b)) (by decide +kernel) b
    simp [h1, h2] at this
theorem snakeU_cons (f : Bool) (b : UInt8) (r : List UInt8) : Id.snakeU f (b :: r) = (if Id.caB b = true then (if f = true then [b] else [95, b]) else [b]) ++ Id.snakeU false r := rfl
theorem snakeU_nm : ∀ (l : List UInt8) (f : Bool), l.all Id.nmB = true → (Id.snakeU f l).all Id.nmB = true ∧ (Id.snakeU f l).length ≤ 2 * l.length
  | [], _, _ => by simp [Id.snakeU]
  | b :: r, f, h => by
    simp only [List.all_cons, Bool.and_eq_true] at h
    have ih := snakeU_nm r false h.2
    have h95 : Id.nmB 95 = true := by decide
    unfold Id.snakeU
    cases hc : Id.caB b <;> cases f <;> simp only [Bool.false_eq_true, if_true, if_false, List.all_append, List.all_cons, List.all_nil, Bool.and_true, Bool.and_eq_true, h95, h.1, ih.1, List.length_append, List.length_cons, List.length_nil] <;> refine ⟨by simp, by omega⟩
set_option maxHeartbeats 4000000 in
set_option maxRecDepth 1000000 in
theorem id_Snake (s : ByteArray) (l : List UInt8) (w : World) (hl : s.data.toList = l) (hs : s.size ≤ 100000000) :
    Calls Tryd.prog 28 #[.string s] w fun e w' => e = .returned (.string (S (Id.snake l))) ∧ Below w.heap.size w w' := by
  have cp := fun W => id_IsPart s l W hl (by omega)
  cases hp : Id.isPart l
  · have hv : Id.snake l = [] := by unfold Id.snake; rw [if_neg (by rw [hp]; decide)]
    rw [hp] at cp
    have cp' := Lib.hid cp
    have V := Lib.hid hv
    clear cp hp hv hl
    go_enter Tryd.func28, Tryd.ntmps28
    go_wp2_with (go_at_call 11; (with_reducible refine (cp'.out _).mono ?_); rintro e w' ⟨rfl, hb⟩)
    go_ret
    exact ⟨ret_str (by rw [V.out]; rfl), hb⟩
  · have hv : Id.snake l = Id.snakeG true l := by unfold Id.snake; rw [if_pos hp]
    obtain ⟨b0, r0, hlr, _, _, hlen⟩ := Id.isPart_parts hp
    have hl40 : l.length ≤ 40 := by rw [hlr]; simp; omega
    have hall : l.all Id.nmB = true := by
      unfold Id.isPart at hp
      simp only [Bool.and_eq_true] at hp
      exact Id.okB_all hp.1
    have hlo := Id.lo_snake l hall true
    have hnm := snakeU_nm l true hall
    have hsl : l.length = s.size := by rw [← hl]; exact len_l s
    rw [hp] at cp
    rw [hv, ← hlo]
    have cp' := Lib.hid cp
    have HL := Lib.hid hl
    have NM := Lib.hid hnm.1
    have hlc := hnm.2
    have ALL := Lib.hid hall
    have cc := Lib.hid (fun (b : UInt8) W => id_class (b.toNat : Int) W)
    clear cp hp hv hlr hall hl hlo hnm
    go_enter Tryd.func28, Tryd.ntmps28
    go_wp2_with (go_at_call 11; (with_reducible refine (cp'.out _).mono ?_); rintro e w0 ⟨rfl, hb0⟩)
    have hsz0 := hb0.size
    go_loopw [] (fun wr => ∃ (pos : Nat) (acc : List UInt8), Lib.IsBuilderF 44 5 w0.heap.size w0.heap.size (Lib.byteCells acc) wr ∧ wr.heap[w0.heap.size + 1]? = some (.stringIter s pos) ∧ Below w0.heap.size w0 wr ∧ pos ≤ s.size ∧ Hid (acc ++ Id.snakeU (decide (pos = 0)) (l.drop pos) = Id.snakeU true l)) (fun wr => s.size - wr.iterPos (w0.heap.size + 1))
    case atStart =>
      refine ⟨0, [], (Lib.IsBuilderF.of (Lib.fresh_isBuilder 44 5 w0)).alloc _, ?_, ((Below.refl _ w0).alloc (Nat.le_refl _) _).alloc (by simp) _, by omega, Lib.hid rfl⟩
      have := World.iter_heap (w0.alloc (.cells #[.pointer none, .slice none 0 0] 44)) s 0
      simpa using this
    case round =>
      obtain ⟨pos, acc, hI, hit, hbw, hps, hacc⟩ := hrel
      have hsz : w0.heap.size + 1 < wr.heap.size := (Array.getElem?_eq_some_iff.1 hit).1
      have hal : acc.length ≤ 80 := by
        have := congrArg List.length hacc.out
        simp only [List.length_append] at this
        omega
      by_cases hp : pos < s.size
      · have hg : l[pos]? = some (s[pos]'hp) := by rw [← HL.out]; exact get_l s pos hp
        obtain ⟨hpl, hge⟩ := List.getElem?_eq_some_iff.1 hg
        have hnmb : Id.nmB (s[pos]'hp) = true := by rw [← hge]; exact List.all_eq_true.1 ALL.out _ (List.getElem_mem hpl)
        have hasc := nm_ascii _ hnmb
        have hdr : l.drop pos = (s[pos]'hp) :: l.drop (pos + 1) := by rw [List.drop_eq_getElem_cons hpl, hge]
        have hstep := hacc.out
        rw [hdr] at hstep
        rw [snakeU_cons] at hstep
        have hcc := cc.out (s[pos]'hp)
        have hca := ca_cls (s[pos]'hp)
        have hnx : ∀ ty, (Instr.next (.pointer (some ⟨w0.heap.size + 1, 0, none⟩)) true ty).run Tryd.prog wr = _ := fun ty => Lib.run_next_ascii_at wr (w0.heap.size + 1) s pos ty hit hp hasc
        have hI2 := hI.iterAt hit (pos + 1)
        have hit2 := Lib.iterAt_heap wr (w0.heap.size + 1) s pos (pos + 1) hit
        have hbw2 := Lib.below_iterAt hbw (k := w0.heap.size + 1) (by omega) s (pos + 1)
        have hsz2 : w0.heap.size ≤ (wr.iterAt (w0.heap.size + 1) s (pos + 1)).heap.size := by rw [Lib.iterAt_size]; omega
        clear hg hge hnmb hasc hdr hacc
        have hix : (s[pos]'hp).toNat < 256 := UInt8.toNat_lt _
        have hbc : ∀ x : List UInt8, Lib.byteCells x ++ [.int .u8 ((s[pos]'hp).toNat : Int)] = Lib.byteCells (x ++ [s[pos]'hp]) := fun x => by rw [Lib.byteCells_append]; rfl
        have BC := Lib.hid hbc
        clear hbc
        have cw := Lib.hid (fun (x : List UInt8) W (h : Lib.IsBuilderF 44 5 w0.heap.size w0.heap.size (Lib.byteCells x) W) (h2 : x.length ≤ 81) (h3 : w0.heap.size ≤ W.heap.size) => bld_WriteByte w0.heap.size w0.heap.size (Lib.byteCells x) ((s[pos]'hp).toNat : Int) W h (by rw [Lib.byteCells_length]; omega) h3)
        by_cases h0 : pos = 0
        · subst h0
          have hstep2 : (acc ++ [s[0]'hp]) ++ Id.snakeU false (l.drop 1) = Id.snakeU true l := by
            rw [← hstep]
            cases Id.caB (s[0]'hp) <;> simp
          have HS := Lib.hid hstep2
          clear hstep hstep2 hca hcc
          go_wp2_with (go_at_call 39; refine (cw.out acc _ hI2 (by omega) hsz2).mono ?_)
          rintro e W1 ⟨rfl, h1, b1, k1⟩
          go_wp2
          go_roundw
          case rel => exact ⟨1, acc ++ [s[0]'hp], by rw [← BC.out]; exact Or.inr h1, k1.iter hit2 (by omega), hbw2.trans b1, by omega, HS⟩
          case measure =>
            simp only [World.iterPos, k1.iter hit2 (by omega), hit]
            omega
        · have hpos : (0 : Int) < pos := by omega
          rw [decide_eq_false h0] at hstep
          generalize Id.cls ((s[pos]'hp).toNat : Int) = K at hcc hca
          cases hcb : Id.caB (s[pos]'hp)
          · rw [hcb] at hstep hca
            have hK : (K == 2) = false := by
              have := hca.symm
              simpa using this
            have HS : Hid ((acc ++ [s[pos]'hp]) ++ Id.snakeU (decide (pos + 1 = 0)) (l.drop (pos + 1)) = Id.snakeU true l) := Lib.hid (by rw [← hstep]; simp)
            have cl := Lib.hid hcc
            clear hstep hca hcb hcc
            go_wp2_with (first
              | (go_at_call 31; (with_reducible refine (cl.out _).mono ?_); rintro e w' ⟨rfl, rfl⟩)
              | (go_at_call 39; refine (cw.out acc _ hI2 (by omega) hsz2).mono ?_))
            rintro e W1 ⟨rfl, h1, b1, k1⟩
            go_wp2
            go_roundw
            case rel => exact ⟨pos + 1, acc ++ [s[pos]'hp], by rw [← BC.out]; exact Or.inr h1, k1.iter hit2 (by omega), hbw2.trans b1, by omega, HS⟩
            case measure =>
              simp only [World.iterPos, k1.iter hit2 (by omega), hit]
              omega
          · rw [hcb] at hstep hca
            have hK : (K == 2) = true := by
              have := hca.symm
              simpa using this
            have HS : Hid (((acc ++ [95]) ++ [s[pos]'hp]) ++ Id.snakeU (decide (pos + 1 = 0)) (l.drop (pos + 1)) = Id.snakeU true l) := Lib.hid (by rw [← hstep]; simp)
            have cl := Lib.hid hcc
            have BU : Hid (Lib.byteCells acc ++ [.int .u8 95] = Lib.byteCells (acc ++ [95])) := Lib.hid (by rw [Lib.byteCells_append]; rfl)
            clear hstep hca hcb hcc
            go_wp2_with (first
              | (go_at_call 31; (with_reducible refine (cl.out _).mono ?_); rintro e w' ⟨rfl, rfl⟩)
              | (go_at_call 39; refine (bld_WriteByte w0.heap.size w0.heap.size (Lib.byteCells acc) 95 _ hI2 (by rw [Lib.byteCells_length]; omega) hsz2).mono ?_))
            rintro e W1 ⟨rfl, h1, b1, k1⟩
            rw [BU.out] at h1
            have hit3 := k1.iter hit2 (by omega)
            have hsz3 := b1.size
            go_wp2_with (go_at_call 39; refine (cw.out (acc ++ [95]) _ (Or.inr h1) (by simp; omega) (by omega)).mono ?_)
            rintro e W2 ⟨rfl, h2, b2, k2⟩
            go_wp2
            go_roundw
            case rel => exact ⟨pos + 1, (acc ++ [95]) ++ [s[pos]'hp], by rw [← BC.out]; exact Or.inr h2, k2.iter hit3 (by omega), (hbw2.trans b1).trans b2, by omega, HS⟩
            case measure =>
              simp only [World.iterPos, k2.iter hit3 (by omega), hit]
              omega
      · have hnx : ∀ ty, (Instr.next (.pointer (some ⟨w0.heap.size + 1, 0, none⟩)) true ty).run Tryd.prog wr = _ := fun ty => Lib.run_next_end_at wr (w0.heap.size + 1) s pos ty hit hp
        have hfin : acc = Id.snakeU true l := by
          have := hacc.out
          rw [List.drop_eq_nil_of_le (by omega)] at this
          simpa [Id.snakeU] using this
        have F := Lib.hid hfin
        have hasc : ∀ (j : Nat) (b : UInt8), (S acc).data.toList[j]? = some b → b.toNat < 128 := fun j b hb => nm_ascii b (by
          rw [S_list, hfin] at hb
          exact List.all_eq_true.1 NM.out _ (List.mem_of_getElem? hb))
        have ct := Lib.hid (fun W => Tryd.strings_ToLower_ascii (S acc) W (by rw [S_size]; omega) hasc)
        have cs := Lib.hid (Tryd.Builder_String_any_k w0.heap.size w0.heap.size acc _ hI (by omega))
        clear hfin hasc hacc
        go_wp2_with (first
          | (go_at_call 41; refine cs.out.mono ?_; rintro e W1 ⟨rfl, _, b1, _⟩)
          | (go_at_call 40; refine (ct.out _).mono ?_; rintro e W2 ⟨rfl, b2⟩))
        go_ret
        refine ⟨ret_str (by rw [S_list, lower_map, F.out]; rfl), ?_⟩
        have hb01 : Below w.heap.size w W1 := hb0.trans ((hbw.trans b1).mono hsz0)
        exact hb01.trans (b2.mono (by have := hb01.size; omega))
end Go.Proofs.YtefnihgjacnjfaaDoor
