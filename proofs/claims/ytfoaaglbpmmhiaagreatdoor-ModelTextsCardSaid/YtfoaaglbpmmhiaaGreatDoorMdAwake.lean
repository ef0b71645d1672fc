/- Layer 35's awake walked. Printed by genaw.py. -/
import Derived.Test.YtfoaaglbpmmhiaaGreatDoorMdMake
import Derived.Test.YtfoaaglbpmmhiaaGreatDoorMdText
namespace Go.Proofs.YtfoaaglbpmmhiaaGreatDoor
open Go.RowKit Ck Md
set_option linter.unusedVariables false
set_option linter.unusedSimpArgs false
def fA : PField := ⟨1, [120], 2, 0, 10, [97, 46, 117, 115, 101, 114, 95, 105, 100], [], false, ⟨0, 0, [], 0, 0, 0, 0⟩, []⟩
def mA : PMsg := ⟨[97, 46, 117, 115, 101, 114, 95, 105, 100], [fA], [], [], []⟩
def sA : PSchema := ⟨[mA], [], []⟩
set_option maxRecDepth 100000 in
theorem valid_A : valid sA = true := by kernel_rfl
theorem short_A : Short sA := by
  refine ⟨fun m hm => ?_, (fun e he => by cases he), (fun e he => by cases he), ⟨by decide, by decide, by decide⟩, ?_⟩
  · have hm' : m = mA := List.mem_singleton.1 hm
    subst hm'
    refine ⟨by decide, by decide, by decide, by decide, fun f hf => ?_, (fun e he => by cases he), (fun e he => by cases he)⟩
    have hf' : f = fA := List.mem_singleton.1 hf
    subst hf'
    exact ⟨by decide, by decide, by decide, (fun e he => by cases he)⟩
  · have := valid_A
    unfold valid at this
    rw [List.isEmpty_iff.1 this]
    exact Nat.zero_le _
def dA : PDecl := ⟨1, [65, 85, 115, 101, 114, 73, 100], [97, 46, 117, 115, 101, 114, 95, 105, 100], [⟨[88], [63, 65, 85, 115, 101, 114, 73, 100], 1⟩]⟩
set_option maxRecDepth 100000 in
theorem make_A : make sA = [dA] := by kernel_rfl
theorem itoa_1 : Lib.itoa 1 = [49] := by
  have := itoa_nat 1
  rw [show ((1 : Nat) : Int) = 1 from rfl] at this
  rw [this, Lib.decDigits]
  rfl
def tA : Str := [114, 101, 99, 111, 114, 100, 32, 65, 85, 115, 101, 114, 73, 100, 32, 61, 32, 97, 46, 117, 115, 101, 114, 95, 105, 100, 10, 32, 32, 88, 32, 49, 32, 63, 65, 85, 115, 101, 114, 73, 100, 10]
theorem text_A : Md.text [dA] = tA := by
  unfold Md.text declT memT dA
  simp only [List.flatMap_cons, List.flatMap_nil, itoa_1]
  rfl
theorem declB_A : declB 1000000000 [dA] := by
  refine ⟨by rw [text_A]; decide, fun d hd => ?_⟩
  have hd' : d = dA := List.mem_singleton.1 hd
  subst hd'
  refine ⟨by decide, by decide, fun m hm => ?_⟩
  have hm' : m = ⟨[88], [63, 65, 85, 115, 101, 114, 73, 100], 1⟩ := List.mem_singleton.1 hm
  subst hm'
  exact ⟨by decide, by decide, by decide, by decide⟩
def fCA : Array Value := #[.int .i64 1, .string ⟨#[120]⟩, .int .i64 2, .int .i64 0, .int .i64 10, .string ⟨#[97, 46, 117, 115, 101, 114, 95, 105, 100]⟩, .string ⟨#[]⟩, .bool false, .int .i64 0, .int .u64 0, .string ⟨#[]⟩, .slice none 0 0, .slice none 0 0, .slice none 0 0, .slice none 0 0, .slice none 0 0]
theorem vmsg_A {W : World} {b : Nat} {t : TypeId} (h : W.heap[b]? = some (.cells fCA t (0, 0))) : VMsg W [.string (S [97, 46, 117, 115, 101, 114, 95, 105, 100]), .slice (some ⟨b, 0, none⟩) 1 1, .slice none 0 0, .slice none 0 0, .slice none 0 0] mA := by
  refine ⟨_, _, _, _, rfl, ⟨some ⟨b, 0, none⟩, 1, rfl, by decide, by decide, fun i x hx => ?_⟩, Sl.nil _ _ _ _ _, Sl.nil _ _ _ _ _, Sl.nil _ _ _ _ _⟩
  have hi : i = 0 := by
    have := (List.getElem?_eq_some_iff.1 hx).1
    have h1 : mA.fields.length = 1 := rfl
    omega
  subst hi
  have hxe : fA = x := by
    have : mA.fields[0]? = some fA := rfl
    rw [this] at hx
    exact Option.some.inj hx
  subst hxe
  refine ⟨b, 0, rfl, (Array.getElem?_eq_some_iff.1 h).1, fCA.toList, fun j v hv => ?_, ?_⟩
  · rw [Lib.cell_of_heap h, Nat.zero_mul, Nat.zero_add]
    simpa using hv
  · exact ⟨[.int .i64 0, .int .u64 0, .string ⟨#[]⟩, .slice none 0 0, .slice none 0 0, .slice none 0 0, .slice none 0 0], .slice none 0 0, rfl, ⟨none, none, none, none, 0, 0, 0, 0, rfl, by decide, by decide, by decide, by decide, by decide, by decide⟩, Sl.nil _ _ _ _ _⟩
theorem vschema_A {W : World} {b c : Nat} {t t2 : TypeId} (h : W.heap[b]? = some (.cells fCA t (0, 0))) (h2 : W.heap[c]? = some (.cells #[.string (S [97, 46, 117, 115, 101, 114, 95, 105, 100]), .slice (some ⟨b, 0, none⟩) 1 1, .slice none 0 0, .slice none 0 0, .slice none 0 0] t2 (0, 0))) :
    VSchema W [.slice (some ⟨c, 0, none⟩) 1 1, .slice none 0 0, .slice none 0 0] sA := by
  refine ⟨_, _, _, rfl, ⟨some ⟨c, 0, none⟩, 1, rfl, by decide, by decide, fun i x hx => ?_⟩, Sl.nil _ _ _ _ _, Sl.nil _ _ _ _ _⟩
  have hi : i = 0 := by
    have := (List.getElem?_eq_some_iff.1 hx).1
    have h1 : sA.msgs.length = 1 := rfl
    omega
  subst hi
  have hxe : mA = x := by
    have : sA.msgs[0]? = some mA := rfl
    rw [this] at hx
    exact Option.some.inj hx
  subst hxe
  refine ⟨c, 0, rfl, (Array.getElem?_eq_some_iff.1 h2).1, _, fun j v hv => ?_, vmsg_A h⟩
  rw [Lib.cell_of_heap h2, Nat.zero_mul, Nat.zero_add]
  simpa using hv
set_option maxHeartbeats 4000000 in
set_option maxRecDepth 100000 in
theorem law_awake (w : World) (hP : PT w) (hM : ML w) : Calls Tryz.prog 14 #[] w fun e w' => e = .returned (.bool true) ∧ Bel w w' := by
  have hsz : ∀ n : Nat, (w.alloc (.cells fCA 63)).heap.size = w.heap.size + 1 := fun _ => by simp
  have CMK := Lib.hid (fun (W : World) (b c : Nat) (t t2 : TypeId) (kk : Bel w W) (h : W.heap[b]? = some (.cells fCA t (0, 0))) (h2 : W.heap[c]? = some (.cells #[.string (S [97, 46, 117, 115, 101, 114, 95, 105, 100]), .slice (some ⟨b, 0, none⟩) 1 1, .slice none 0 0, .slice none 0 0, .slice none 0 0] t2 (0, 0))) => show Calls Tryz.prog 11 #[.agg #[.slice (some ⟨c, 0, none⟩) 1 1, .slice none 0 0, .slice none 0 0]] W (MakeOk W [dA]) from by
    have := md_Make_yes (some ⟨c, 0, none⟩) none none 1 0 0 sA W (vschema_A h h2) (hP.bel kk) (hM.below kk.out) short_A valid_A
    rwa [make_A] at this)
  clear hsz
  go_enter Tryz.func14, Tryz.ntmps14
  go_upto_region 2 with (fail)
  generalize hW1 : w.alloc _ = W1
  have hb1 : W1.heap[w.heap.size]? = some (.cells fCA 63 (0, 0)) := by rw [← hW1]; exact heap_alloc_new _ _
  have kw1 : Bel w W1 := by rw [← hW1]; exact (Bel.refl w).alloc _
  have hs1 : W1.heap.size = w.heap.size + 1 := by rw [← hW1]; simp
  clear hW1
  have aE := agg_Field
  obtain ⟨K, hK⟩ : ∃ K, K = 16 := ⟨_, rfl⟩
  have zE : ∀ w, (Go.sizeOf 63).run Tryz.prog w = .ok K w := hK ▸ size_Field
  have l2 : Sem.run Tryz.prog (loadCellsFrom ⟨w.heap.size, 0, none⟩ 0 K #[]) W1 = .ok fCA W1 := run_loadCellsFrom_list Tryz.prog _ _ _ K hK.symm (fun j v hj => by
    rw [Addr.add_lit, Nat.zero_add, Lib.cell_of_heap hb1]
    simpa [fCA] using hj)
  have HK := Lib.hid hK
  have HB1 := Lib.hid hb1
  have HS1 := Lib.hid hs1
  clear hK hb1 hs1
  unfold fCA at l2
  go_upto_region 3 with (go_at_call 11; have hk0 := HK.out; subst hk0; generalize hX : Array.setIfInBounds _ 15 (Value.slice none 0 0) = X; have hXf : X = fCA := (by rw [← hX]; kernel_rfl); clear hX; subst hXf; generalize hW4 : World.alloc (World.alloc W1 _) _ = W4; have p1 : Bel w W4 := (by rw [← hW4]; exact (kw1.alloc _).alloc _); have p2 : W4.heap[W1.heap.size]? = some (.cells fCA 63 (0, 0)) := (by rw [← hW4]; exact (heap_alloc_old _ _ (by simp)).trans (heap_alloc_new _ _)); have p3 : W4.heap[W1.heap.size + 1]? = some (.cells #[.string (S [97, 46, 117, 115, 101, 114, 95, 105, 100]), .slice (some ⟨W1.heap.size, 0, none⟩) 1 1, .slice none 0 0, .slice none 0 0, .slice none 0 0] 44 (0, 0)) := (by rw [← hW4]; exact heap_alloc_at _ _ _ (by simp)); (with_reducible refine (CMK.out W4 W1.heap.size (W1.heap.size + 1) 63 44 p1 p2 p3).mono ?_); clear p1 p2 p3; rintro e w5 ⟨v, rfl, hd, k5⟩; have k4 : Bel w W4 := (by rw [← hW4]; exact (kw1.alloc _).alloc _); have kw5 : Bel w w5 := Bel.of k4 k5; clear hW4 k4 k5)
  all_goals (first | (exfalso; have hk := HK.out; omega) | skip)
  have CT := Lib.hid (show Calls Tryz.prog 16 #[v] w5 (fun e w' => e = .returned (.string (S tA)) ∧ Bel w5 w') from (md_Text v [dA] w5 hd (hP.bel kw5) declB_A).mono fun e w' h => ⟨(by rw [h.1, text_A]), h.2⟩)
  clear hd CMK
  go_wp2_with (go_at_call 16; (with_reducible refine CT.out.mono ?_); rintro e w6 ⟨rfl, k6⟩)
  go_ret
  exact ⟨ret_bool (by rw [ByteArray.toList_eq, S_list]; unfold tA; decide), Bel.of kw5 k6.out⟩
end Go.Proofs.YtfoaaglbpmmhiaaGreatDoor
