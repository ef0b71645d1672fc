/- Small words for the walks: endings, strings as lists of bytes, calls inside a region that draws its order. -/
import Derived.Test.YtaaneecceiefoaaDoorRows
import Derived.WalkKit
import Derived.WalkSpells
import Derived.WalkLawsBesides
import Derived.Handy
import Derived.Lib.Hide
import Derived.Deep.QuietTactic
import Derived.BigQuiet
import Derived.Deep.Light
import Derived.ProofKit
import Derived.OpenShut
import Derived.ReadAgain
import Derived.Deep.Slices
import Derived.Lib.OthersKept
import Derived.Lib.Split
import GoSem.Core.Utf8
import Derived.Lib.LastIndexByte
import Derived.StillTailTactics
import Derived.OrdersHeld
import Derived.Laws.Strings
import Derived.Maps.OwnSet
import Derived.Maps.Views
import Derived.Deep.RegionHeld3
import Derived.Deep.RegionLaw
import Derived.Deep.AppendLies
import Derived.Deep.DeepCutAuto
import Derived.Deep.CutBlock
import Derived.Deep.CondSized
import Derived.Deep.Upon
import Derived.Laws.Tables
import Derived.Deep.WholeRow
import Derived.Laws.CopyRow
import Derived.Shelf.SlicesQ.Load
namespace Go.Proofs.YtaaneecceiefoaaDoor
open Go.RowKit

theorem ret_int {k : IntKind} {a b : Int} (h : a = b) : Ending.returned (.int k a) = .returned (.int k b) := by rw [h]
theorem ret_bool {a b : Bool} (h : a = b) : Ending.returned (.bool a) = .returned (.bool b) := by rw [h]
theorem ret_str {a b : ByteArray} (h : a = b) : Ending.returned (.string a) = .returned (.string b) := by rw [h]
theorem len_l (s : ByteArray) : s.data.toList.length = s.size := Array.length_toList
theorem get_l (s : ByteArray) (i : Nat) (h : i < s.size) : s.data.toList[i]? = some s[i] := by
  have h' : i < s.data.size := h
  rw [Array.getElem?_toList, Array.getElem?_eq_getElem h']; rfl
theorem get_l_none (s : ByteArray) (i : Nat) (h : ¬ i < s.size) : s.data.toList[i]? = none := by
  have h' : s.data.size ≤ i := Nat.not_lt.1 h
  rw [Array.getElem?_toList, Array.getElem?_eq_none h']

/-- the string of a list of bytes -/
def S (l : List UInt8) : ByteArray := ⟨l.toArray⟩
theorem S_list (l : List UInt8) : (S l).data.toList = l := rfl
theorem S_of {s : ByteArray} {l : List UInt8} (h : s.data.toList = l) : s = S l := by
  subst h; rfl
theorem S_inj {a b : List UInt8} (h : S a = S b) : a = b := by
  have := congrArg (fun s : ByteArray => s.data.toList) h
  exact this
theorem cat_list (a b : ByteArray) : (a ++ b).data.toList = a.data.toList ++ b.data.toList := by simp [ByteArray.data_append]
theorem S_size (l : List UInt8) : (S l).size = l.length := rfl
theorem sub_list (s : ByteArray) (i j : Nat) : (s.extract i j).data.toList = (s.data.toList.drop i).take (j - i) := by
  simp [ByteArray.data_extract, List.take_drop]

theorem eq_yes (a b : ByteArray) (h : a.data.toList = b.data.toList) : (a.toList == b.toList) = true := by
  rw [ByteArray.toList_eq, ByteArray.toList_eq, h]; simp
theorem eq_no (a b : ByteArray) (h : a.data.toList ≠ b.data.toList) : (a.toList == b.toList) = false := by
  rw [ByteArray.toList_eq, ByteArray.toList_eq]; simpa using h
theorem neq_yes (a b : ByteArray) (h : a.data.toList = b.data.toList) : (!(a.toList == b.toList)) = false := by rw [eq_yes a b h]; rfl
theorem neq_no (a b : ByteArray) (h : a.data.toList ≠ b.data.toList) : (!(a.toList == b.toList)) = true := by rw [eq_no a b h]; rfl
theorem ieq {a b : Int} (h : a = b) : (a == b) = true := beq_iff_eq.2 h
theorem ine {a b : Int} (h : a ≠ b) : (a == b) = false := beq_eq_false_iff_ne.2 h
theorem bne_t {a b : Int} (h : a ≠ b) : (a != b) = true := bne_iff_ne.2 h
theorem bne_f {a b : Int} (h : a = b) : (a != b) = false := by subst h; simp

section
variable {P : Program} {f : FuncId} {args : Array Value} {w : World} {a n : Nat} {v : Value}
theorem q_same (h : Calls P f args (w.drewN n) fun e w' => e = .returned v ∧ w.drewN n = w') : Calls P f args (w.drewN n) fun e w'' => e = .returned v ∧ ∃ m, w'' = w.drewN m :=
  h.mono fun _ _ ⟨he, hm⟩ => ⟨he, n, hm.symm⟩
theorem q_drew (h : Calls P f args (w.drewN n) fun e w' => e = .returned v ∧ ∃ k, (w.drewN n).drewN k = w') : Calls P f args (w.drewN n) fun e w'' => e = .returned v ∧ ∃ m, w'' = w.drewN m :=
  h.mono fun _ _ ⟨he, k, hm⟩ => ⟨he, n + k, by rw [← hm, World.drewN_drewN]⟩
theorem q_same' (h : Calls P f args (w.drewN (a + n)) fun e w' => e = .returned v ∧ w.drewN (a + n) = w') : Calls P f args (w.drewN (a + n)) fun e w'' => e = .returned v ∧ ∃ m, w'' = w.drewN (a + m) :=
  h.mono fun _ _ ⟨he, hm⟩ => ⟨he, n, hm.symm⟩
theorem q_drew' (h : Calls P f args (w.drewN (a + n)) fun e w' => e = .returned v ∧ ∃ k, (w.drewN (a + n)).drewN k = w') : Calls P f args (w.drewN (a + n)) fun e w'' => e = .returned v ∧ ∃ m, w'' = w.drewN (a + m) :=
  h.mono fun _ _ ⟨he, k, hm⟩ => ⟨he, n + k, by rw [← hm, World.drewN_drewN, Nat.add_assoc]⟩
end
set_option maxRecDepth 100000 in
theorem conv_byte (W : World) (c : UInt8) : (convert 101 9 (.slice (some ⟨W.heap.size, 0, none⟩) 1 1)).run Tryd.prog (W.alloc (.cells #[.int .u8 (c.toNat : Int)] 5)) = .ok (.string (S [c])) (W.alloc (.cells #[.int .u8 (c.toNat : Int)] 5)) := by
  have h := run_convert_bytes_arg (P := Tryd.prog) (W.alloc (.cells #[.int .u8 (c.toNat : Int)] 5)) 101 5 Tryd.underlying101 Tryd.underlying5 W.heap.size 0 1 1 [(c.toNat : Int)] rfl (fun i hi => by
    obtain rfl : i = 0 := by omega
    simp) 9 Tryd.underlying9
  rw [h]
  congr 2
  simp [strOfNums, S]
set_option maxRecDepth 100000 in
theorem conv_byte_drewN (W : World) (nq : Nat) (c : UInt8) : (convert 101 9 (.slice (some ⟨W.heap.size, 0, none⟩) 1 1)).run Tryd.prog ((W.alloc (.cells #[.int .u8 (c.toNat : Int)] 5)).drewN nq) = .ok (.string (S [c])) ((W.alloc (.cells #[.int .u8 (c.toNat : Int)] 5)).drewN nq) := by
  have h := conv_byte (W.drewN nq) c
  exact h
theorem conv_byte_at (W : World) (nq : Nat) (c : UInt8) : (convert 101 9 (.slice (some ⟨W.heap.size, 0, none⟩) 1 1)).run Tryd.prog ((W.drewN nq).alloc (.cells #[.int .u8 (c.toNat : Int)] 5)) = .ok (.string (S [c])) ((W.drewN nq).alloc (.cells #[.int .u8 (c.toNat : Int)] 5)) :=
  conv_byte (W.drewN nq) c
theorem conv_byte_drew (W : World) (c : UInt8) (n : Int) (h : n = c.toNat) : (convert 101 9 (.slice (some ⟨W.heap.size, 0, none⟩) 1 1)).run Tryd.prog (W.alloc (.cells #[.int .u8 n] 5)).drew = .ok (.string (S [c])) (W.alloc (.cells #[.int .u8 n] 5)).drew := by
  subst h; exact conv_byte_drewN W 1 c
theorem below_drewN {B : Nat} {a w : World} (h : Below B a w) (n : Nat) : Below B a (w.drewN n) := ⟨h.os, h.tape, h.output, h.size, h.block⟩
end Go.Proofs.YtaaneecceiefoaaDoor

/- The row's last step where the call froze or made something new. -/
namespace Go.Proofs.YtaaneecceiefoaaDoor
open Go.RowKit Go.WideShapes Go.ChangeShapes
section
variable {H : Type} {enc : TypeId × Value → H} {P : Program}
theorem post_of_below {f : Func} {s : ChangeSpec} {apart fresh handsOn again : Bool} {W W' : World} {args : Array Value} {v : Value} {ds gs : List (DataW H)} {before pa pv : List MemPlace}
    (hW : DataW.Whole enc P f.params.toList s.vars apart W args.toList ds gs before)
    (hres : ∀ (b : Nat) (sp : Nat → Bool) (hd : Bool), DataW.TrodAll enc P W' b sp hd f.resultTypes.toList (v.resultList f.resultTypes.size) (s.fn H (ds ++ gs)).results [])
    (hargs : ∀ sp : Nat → Bool, (∀ p ∈ before, sp p.block = true) → DataW.TrodAll enc P W' 0 sp true f.params.toList args.toList (s.fn H (ds ++ gs)).args pa)
    (hvars : ∀ sp : Nat → Bool, (∀ p ∈ before, sp p.block = true) → DataW.TrodVars enc P W' sp s.vars (s.fn H (ds ++ gs)).vars pv)
    (hps : before = pa ++ pv) (hb : Below W.heap.size W W')
    (hok : ∀ (j : Nat) (t : TypeId) (r : Value), f.resultTypes[j]? = some t → (v.resultList f.resultTypes.size)[j]? = some r → Value.okWide P W' .any 0 t r) :
    s.post enc P f apart fresh handsOn again W args v W' := by
  have hlt : ∀ p ∈ before, p.block < W.heap.size := fun p hp => hW.lt p hp
  have hold : ∀ p ∈ before, (fun b => decide (b < W.heap.size)) p.block = true := fun p hp => by simpa using hlt p hp
  refine ⟨ds, gs, before, [], pa, pv, hW, hres _ _ _, hargs _ hold, hvars _ hold, World.keptBut_mono (fun p hp => ⟨hp, ?_⟩) (hb.frame (· ∈ before)), fun _ => ?_⟩
  · rw [hps, List.mem_append] at hp
    exact Or.inr hp
  · obtain ⟨_, _, _, _, _, hz, hn⟩ := hW
    refine ⟨hok, _, _, ([] ++ pa) ++ pv, ⟨[] ++ pa, pv, trodAll_append (hargs _ (fun _ _ => rfl)) (hres _ _ _), hvars _ (fun _ _ => rfl), rfl, ?_, ?_⟩, ?_⟩
    · intro b off hp
      have hin : MemPlace.cell b off ∈ before := by rw [hps]; simpa using hp
      rw [hb.frozen (hlt _ hin)]
      exact hz b off hin
    · intro ha
      have := hn ha
      rw [hps] at this
      simpa using this
    · intro p hp _
      rw [hps]
      simpa using hp
end
theorem own : ownKnob Tryd.prog.godebug = none := by kernel_rfl
end Go.Proofs.YtaaneecceiefoaaDoor

/- The last steps of a law's row, whatever the parameters' types. -/
namespace Go.Proofs.YtaaneecceiefoaaDoor
open Go.RowKit Go.WideShapes Go.ChangeShapes Go.Deep

theorem kids : Kids Tryd.prog (· < Tryd.prog.types.size) := kids_rows (by kernel_rfl) (by kernel_rfl)
theorem full : ∀ t e, t < Tryd.prog.types.size → Tryd.prog.underlying t = some (.slice e) → 0 < Tryd.prog.cellsOf e := slices_full_of Tryd.prog (by kernel_rfl)
section
variable {H : Type} {enc : TypeId × Value → H}
theorem trodAll_carry {P : Program} {w w' : World} {base : Nat} {sp : Nat → Bool} {held : Bool} : ∀ {ts : List TypeId} {vs : List Value} {ds : List (DataW H)} {ps : List MemPlace}, DataW.TrodAll enc P w base sp held ts vs ds ps → (∀ p ∈ ps, w.sameAt w' p) → DataW.TrodAll enc P w' base sp held ts vs ds ps
  | [], [], [], _, h, _ => h
  | _ :: _, _ :: _, _ :: _, _, ⟨p, q, ⟨n, h1⟩, h2, e⟩, hs => ⟨p, q, ⟨n, DataW.trod_carry n _ _ _ h1 (fun x hx => hs x (by rw [e]; exact List.mem_append_left _ hx))⟩, trodAll_carry h2 (fun x hx => hs x (by rw [e]; exact List.mem_append_right _ hx)), e⟩
/-- The arguments read again behind a call that changed nothing that was there. -/
theorem args_again {W W' : World} {ts : List TypeId} {vs : List Value} {ds : List (DataW H)} {p : List MemPlace} (hts : ∀ t ∈ ts, t < Tryd.prog.types.size) (hA : DataW.TrodAll enc Tryd.prog W 0 (fun _ => true) true ts vs ds p)
    (hlt : ∀ x ∈ p, x.block < W.heap.size) (hb : Below W.heap.size W W') (sp : Nat → Bool) (hs : ∀ x ∈ p, sp x.block = true) : DataW.TrodAll enc Tryd.prog W' 0 sp true ts vs ds p :=
  DataW.TrodAll.respare kids full hts (trodAll_carry hA (fun x hx => hb.same (hlt x hx))) hs
set_option maxRecDepth 100000 in
/-- A law that returned true and changed nothing that was there. -/
theorem law_post {f : Func} {s : ChangeSpec} {W W' : World} {args : Array Value} {ds gs : List (DataW H)} {before : List MemPlace} (hv : s.vars = []) (hts : ∀ t ∈ f.params.toList, t < Tryd.prog.types.size)
    (hW : DataW.Whole enc Tryd.prog f.params.toList s.vars false W args.toList ds gs before) (hr : f.resultTypes = #[4])
    (h1 : (s.fn H ds).results = [.lit (.bool true)]) (h2 : (s.fn H ds).args = ds) (h3 : (s.fn H ds).vars = []) (hb : Below W.heap.size W W') :
    s.post enc Tryd.prog f false true false false W args (.bool true) W' := by
  have hW' := hW
  obtain ⟨p, q, hA, hV, rfl, hfz, hnd⟩ := hW
  rw [hv] at hV
  obtain ⟨rfl, rfl⟩ := trodVars_none hV
  have hlt : ∀ x ∈ p ++ [], x.block < W.heap.size := fun x hx => hW'.lt x hx
  refine post_of_below (pa := p) (pv := []) hW' (fun b sp hd => ?_) (fun sp hs => ?_) (fun sp hs => ?_) rfl hb ?_
  · rw [List.append_nil, h1, hr]
    exact trodAll_mk1 (shut_bool Tryd.underlying4 _)
  · rw [List.append_nil, h2]
    exact args_again hts hA (fun x hx => hlt x (by simpa using hx)) hb sp (fun x hx => hs x (by simpa using hx))
  · rw [List.append_nil, h3, hv]
    rfl
  · exact ok_one hr rfl (okWide_bool_mk Tryd.underlying4 _)
theorem slice_small {P : Program} {w : World} {base : Nat} {sp : Nat → Bool} {held : Bool} {t e : TypeId} (ht : P.underlying t = some (.slice e)) (hb' : decide (1 ≤ P.bytesOf e) = true) {n : Nat} {c : Value} {y : DataW H × List MemPlace} (h : DataW.trod enc P w base sp held n t [c] = some y)
    (hw : (y.1.weights P t).all (· ≤ reachBytes) = true) : ∃ (q : Option Addr) (len cap : Nat), c = .slice q len cap ∧ len ≤ 140737488355328 := by
  have hb := of_decide_eq_true hb'
  rcases open_slice ht h with ⟨h1, _⟩ | ⟨a, len, cap, m, k, D, Pl, h1, _, hl, hm, hmm, hx, _⟩
  · simp at h1
    exact ⟨_, _, _, h1, by omega⟩
  · simp at h1
    refine ⟨_, _, _, h1, ?_⟩
    rw [hx] at hw
    simp only [DataW.weights, ht, List.all_cons, Bool.and_eq_true, decide_eq_true_eq, List.length_map, List.length_range] at hw
    have h2 := hw.1
    have h3 : len ≤ (len + (m - len)) * P.bytesOf e := Nat.le_trans (Nat.le_add_right len (m - len)) (Nat.le_mul_of_pos_right _ hb)
    unfold reachBytes at h2
    omega
theorem u64_bounds {x : Int} (h : (Lit.int .u64 x).wf = true) : 0 ≤ x ∧ x < 18446744073709551616 := by
  have : -0 ≤ x ∧ x ≤ 18446744073709551615 := by simpa [Lit.wf, IntKind.min, IntKind.max, IntKind.signed, IntKind.bits] using h
  omega
end
end Go.Proofs.YtaaneecceiefoaaDoor

/- Worlds behind calls that change nothing that was there. -/
namespace Go.Proofs.YtaaneecceiefoaaDoor
open Go.RowKit
/-- what was there before w stands in a -/
def Bel (w a : World) : Prop := Below w.heap.size w a
theorem Bel.refl (w : World) : Bel w w := Below.refl _ _
theorem Bel.of {w a b : World} (h : Bel w a) (k : Below a.heap.size a b) : Bel w b := Below.trans h (k.mono h.size)
theorem Bel.drew {w a : World} (h : Bel w a) : Bel w a.drew := Below.drew h
theorem Bel.drewN {w a : World} (h : Bel w a) (n : Nat) : Bel w (a.drewN n) := below_drewN h n
theorem Bel.alloc {w a : World} (h : Bel w a) (o : Obj) : Bel w (a.alloc o) := Below.alloc h h.size o
theorem Bel.out {w a : World} (h : Bel w a) : Below w.heap.size w a := h
theorem Bel.cell {w a : World} (h : Bel w a) {b o : Nat} (hb : b < w.heap.size) : a.cell? ⟨b, o, none⟩ = w.cell? ⟨b, o, none⟩ := Below.cell h hb
theorem Bel.size {w a : World} (h : Bel w a) : w.heap.size ≤ a.heap.size := Below.size h
end Go.Proofs.YtaaneecceiefoaaDoor

/- Data in memory: slices of elements of any number of cells; what stands behind calls that change nothing that was there. -/
namespace Go.Proofs.YtaaneecceiefoaaDoor
open Go.RowKit
section
variable {α : Type}
/-- a predicate on an element at a place of a block stays in every world that keeps that block -/
def Keeps (E : World → Nat → Nat → α → Prop) : Prop := ∀ (w w' : World) (b o : Nat) (x : α), b < w.heap.size → Bel w w' → E w b o x → E w' b o x
/-- v is a slice that reads as xs; C cells an element -/
def Sl (C : Nat) (E : World → Nat → Nat → α → Prop) (w : World) (v : Value) (xs : List α) : Prop :=
  ∃ (p : Option Addr) (c : Nat), v = .slice p xs.length c ∧ xs.length ≤ 140737488355328 ∧ xs.length ≤ c ∧ ∀ i x, xs[i]? = some x → ∃ b off : Nat, p = some ⟨b, off, none⟩ ∧ b < w.heap.size ∧ E w b (off + i * C) x
theorem Sl.bel {C : Nat} {E : World → Nat → Nat → α → Prop} (hE : Keeps E) {w w' : World} {v : Value} {xs : List α} (h : Sl C E w v xs) (k : Bel w w') : Sl C E w' v xs := by
  obtain ⟨p, c, h1, h2, h2c, h3⟩ := h
  exact ⟨p, c, h1, h2, h2c, fun i x hx => by
    obtain ⟨b, off, e, hb, he⟩ := h3 i x hx
    exact ⟨b, off, e, Nat.lt_of_lt_of_le hb k.size, hE w w' b _ x hb k he⟩⟩
theorem Sl.nil (C : Nat) (E : World → Nat → Nat → α → Prop) (w : World) (p : Option Addr) (c : Nat) : Sl C E w (.slice p 0 c) [] := ⟨p, c, rfl, by simp, by simp, fun i x hx => by simp at hx⟩
end
/-- a cell of a block -/
theorem Bel.some {w w' : World} (k : Bel w w') {b o : Nat} {v : Value} (h : w.cell? ⟨b, o, none⟩ = some v) : w'.cell? ⟨b, o, none⟩ = some v :=
  (k.cell (World.block_lt_of_cell? w _ h)).trans h
theorem kept_cell {e : TypeId} {b : Option Nat} {w w' : World} (h : Lib.OthersKept e b w w') {k : Nat} {cs : Array Value} {t : TypeId} {fr : Nat × Nat} (hk : w.heap[k]? = some (.cells cs t fr)) (hb : some k ≠ b) (ht : t ≠ e) : w'.heap[k]? = some (.cells cs t fr) :=
  h k _ hk hb (fun c fz he => ht (by injection he))
/-- strings in memory -/
def EStr (w : World) (b o : Nat) (k : List UInt8) : Prop := w.cell? ⟨b, o, none⟩ = some (.string (S k))
theorem EStr.keeps : Keeps EStr := fun _ _ _ _ _ _ k h => k.some h
end Go.Proofs.YtaaneecceiefoaaDoor

/- Plain functions of layer 6 (names): what both sides compute; no program in sight. -/
namespace Go.Proofs.YtaaneecceiefoaaDoor.Id
set_option linter.unusedSimpArgs false
set_option linter.unusedVariables false

/-- the class of a rune -/
def cls (c : Int) : Int := if 97 ≤ c ∧ c ≤ 122 then 1 else if 65 ≤ c ∧ c ≤ 90 then 2 else if 48 ≤ c ∧ c ≤ 57 then 3 else if c = 95 then 4 else 0
def smB (b : UInt8) : Bool := decide (97 ≤ b.toNat ∧ b.toNat ≤ 122)
def caB (b : UInt8) : Bool := decide (65 ≤ b.toNat ∧ b.toNat ≤ 90)
def nmB (b : UInt8) : Bool := decide (cls b.toNat ≠ 0)
def letB (b : UInt8) : Bool := smB b || caB b
/-- name characters that begin with a letter -/
def okB : List UInt8 → Bool
  | [] => true
  | b :: r => letB b && r.all nmB
def isPart (l : List UInt8) : Bool := okB l && decide (1 ≤ l.length ∧ l.length ≤ 40)
def onHead (b : UInt8) : List (List UInt8) → List (List UInt8)
  | [] => [[b]]
  | p :: ps => (b :: p) :: ps
/-- cut at each c -/
def cut (c : UInt8) : List UInt8 → List (List UInt8)
  | [] => [[]]
  | b :: r => if b = c then [] :: cut c r else onHead b (cut c r)
def isFull (l : List UInt8) : Bool := (cut 46 l).all isPart && decide (l.length ≤ 120)
def join (s n : List UInt8) : List UInt8 := if s = [] then n else s ++ 46 :: n
/-- the place of the last dot, -1 if there is none -/
def lastDot : List UInt8 → Int
  | [] => -1
  | b :: r => if lastDot r = -1 then (if b = 46 then 0 else -1) else lastDot r + 1
def splitL (l : List UInt8) : List UInt8 × List UInt8 := if lastDot l = -1 then ([], l) else (l.take (lastDot l).toNat, l.drop ((lastDot l).toNat + 1))
def upF : Nat → List UInt8 → List (List UInt8)
  | 0, l => [l]
  | n + 1, l => if l = [] then [l] else l :: upF n (splitL l).1
def up (l : List UInt8) : List (List UInt8) := upF l.length l
def has (known : List (List UInt8)) (s : List UInt8) : Bool := decide (s ∈ known)
def resolve (scope name : List UInt8) (known : List (List UInt8)) : List UInt8 × Bool :=
  match name with
  | 46 :: abs => if has known abs = true then (abs, true) else ([], false)
  | _ => match (up scope).find? (fun s => has known (join s name)) with
    | some s => (join s name, true)
    | none => ([], false)
def upB (b : UInt8) : UInt8 := if smB b = true then b - 32 else b
def loB (b : UInt8) : UInt8 := if caB b = true then b + 32 else b
def cap : List UInt8 → List UInt8
  | [] => []
  | b :: r => upB b :: r
def camelG : Bool → List UInt8 → List UInt8
  | _, [] => []
  | st, b :: r => if b = 95 then camelG true r else (if st = true then upB b else b) :: camelG false r
def camel (l : List UInt8) : List UInt8 := if isPart l = true then camelG true l else []
def snakeG : Bool → List UInt8 → List UInt8
  | _, [] => []
  | first, b :: r => (if caB b = true then (if first = true then [loB b] else [95, loB b]) else [b]) ++ snakeG false r
def snakeU : Bool → List UInt8 → List UInt8
  | _, [] => []
  | first, b :: r => (if caB b = true then (if first = true then [b] else [95, b]) else [b]) ++ snakeU false r
def snake (l : List UInt8) : List UInt8 := if isPart l = true then snakeG true l else []

theorem bcls (b : UInt8) : cls b.toNat = if smB b = true then 1 else if caB b = true then 2 else if 48 ≤ b.toNat ∧ b.toNat ≤ 57 then 3 else if b.toNat = 95 then 4 else 0 := by
  unfold cls smB caB
  simp only [decide_eq_true_eq]
  (repeat' split) <;> first | rfl | omega
theorem let_nm (b : UInt8) (h : letB b = true) : nmB b = true := by
  unfold letB at h
  unfold nmB
  rw [bcls]
  cases h1 : smB b <;> cases h2 : caB b <;> simp_all
theorem cut_hit (c : UInt8) (r : List UInt8) : cut c (c :: r) = [] :: cut c r := by rw [cut]; exact if_pos rfl
theorem cut_miss (c b : UInt8) (r : List UInt8) (h : b ≠ c) : cut c (b :: r) = onHead b (cut c r) := by rw [cut]; exact if_neg h
theorem cut_ne (c : UInt8) (l : List UInt8) : cut c l ≠ [] := by
  cases l with
  | nil => simp [cut]
  | cons b r =>
    by_cases hb : b = c
    · subst hb; rw [cut_hit]; simp
    · rw [cut_miss c b r hb]
      cases cut c r <;> simp [onHead]
theorem cut_none (c : UInt8) : ∀ l : List UInt8, c ∉ l → cut c l = [l]
  | [], _ => rfl
  | b :: r, h => by
    have hb : b ≠ c := fun e => h (by simp [e])
    have hr : c ∉ r := fun e => h (by simp [e])
    rw [cut_miss c b r hb, cut_none c r hr]
    rfl
theorem idx_one (c : UInt8) : ∀ l : List UInt8, (Lib.index l [c] = -1 ∧ c ∉ l) ∨ (0 ≤ Lib.index l [c])
  | [] => .inl ⟨by simp [Lib.index], by simp⟩
  | b :: r => by
    unfold Lib.index
    by_cases hb : c = b
    · subst hb
      right
      simp [List.isPrefixOf]
    · have hp : ([c].isPrefixOf (b :: r)) = false := by simp [List.isPrefixOf, hb]
      rw [if_neg (by simp [hp])]
      rcases idx_one c r with ⟨h1, h2⟩ | h
      · left
        rw [if_pos (by simp [h1])]
        exact ⟨rfl, by simp [hb, h2]⟩
      · right
        rw [if_neg (by simp; omega)]
        omega
theorem split_cut (c : UInt8) : ∀ l : List UInt8, Lib.splitK [c] 0 (Lib.count l [c]) l = cut c l
  | [] => by
    rw [Lib.count_miss (by simp [Lib.index])]
    rfl
  | b :: r => by
    by_cases hb : c = b
    · subst hb
      have hi : Lib.index (c :: r) [c] = ((0 : Nat) : Int) := by unfold Lib.index; simp [List.isPrefixOf]
      rw [Lib.count_hit (by simp) hi, Nat.add_comm]
      unfold Lib.splitK
      rw [hi, if_neg (by simp)]
      have := split_cut c r
      simp only [Int.toNat_natCast, List.length_cons, List.length_nil, List.drop_succ_cons, List.drop_zero, List.take_zero, Nat.zero_add]
      rw [this, cut_hit]
    · have hp : ([c].isPrefixOf (b :: r)) = false := by simp [List.isPrefixOf, hb]
      have ih := split_cut c r
      rcases idx_one c r with ⟨h1, h2⟩ | h
      · have hi : Lib.index (b :: r) [c] = -1 := by
          unfold Lib.index
          rw [if_neg (by simp [hp]), if_pos (by simp [h1])]
        rw [Lib.count_miss hi, cut_none c (b :: r) (by simp [hb, h2])]
        rfl
      · obtain ⟨i, hi⟩ := Int.eq_ofNat_of_zero_le h
        have hi' : Lib.index r [c] = (i : Int) := hi
        have hi2 : Lib.index (b :: r) [c] = ((i + 1 : Nat) : Int) := by
          unfold Lib.index
          rw [if_neg (by simp [hp]), if_neg (by simp; omega), hi']
          rfl
        rw [Lib.count_hit (by simp) hi', Nat.add_comm] at ih
        rw [Lib.count_hit (by simp) hi2, Nat.add_comm]
        unfold Lib.splitK at ih ⊢
        rw [hi', if_neg (by simp)] at ih
        rw [hi2, if_neg (by simp; omega)]
        rw [cut_miss c b r (fun e => hb e.symm), ← ih]
        simp [onHead]
theorem split_one (c : UInt8) (l : List UInt8) : Lib.split l [c] = cut c l := split_cut c l

theorem camelG_cut : ∀ l : List UInt8, (cut 95 l).flatMap cap = camelG true l ∧ ∃ p ps, cut 95 l = p :: ps ∧ p ++ ps.flatMap cap = camelG false l
  | [] => ⟨rfl, [], [], rfl, rfl⟩
  | b :: r => by
    obtain ⟨h1, p, ps, h2, h3⟩ := camelG_cut r
    by_cases hb : b = 95
    · subst hb
      have hc : cut 95 (95 :: r) = [] :: cut 95 r := cut_hit 95 r
      have hg : ∀ st, camelG st (95 :: r) = camelG true r := fun st => by rw [camelG]; exact if_pos rfl
      rw [hc, hg]
      exact ⟨by simp [cap, h1], [], cut 95 r, rfl, by rw [hg]; simp [h1]⟩
    · have hc : cut 95 (b :: r) = (b :: p) :: ps := by rw [cut_miss 95 b r hb, h2]; rfl
      have hg : ∀ st, camelG st (b :: r) = (if st = true then upB b else b) :: camelG false r := fun st => by rw [camelG, if_neg hb]
      rw [hc, hg]
      refine ⟨by simp [cap, h3], b :: p, ps, rfl, by rw [hg]; simp [h3]⟩
theorem lo_snake (l : List UInt8) (h : l.all nmB = true) (f : Bool) : (snakeU f l).map loB = snakeG f l := by
  induction l generalizing f with
  | nil => rfl
  | cons b r ih =>
    simp only [List.all_cons, Bool.and_eq_true] at h
    have := ih h.2 false
    unfold snakeU snakeG
    rw [List.map_append, this]
    congr 1
    have h95 : loB 95 = 95 := by decide
    cases hc : caB b
    · simp [loB, hc]
    · cases f <;> simp [h95]
/-! the last dot -/
theorem lastDot_ge : ∀ l : List UInt8, -1 ≤ lastDot l ∧ lastDot l < l.length
  | [] => by simp [lastDot]
  | b :: r => by
    have := lastDot_ge r
    unfold lastDot
    simp only [List.length_cons]
    (repeat' split) <;> omega
theorem lastDot_none : ∀ l : List UInt8, lastDot l = -1 ↔ 46 ∉ l
  | [] => by simp [lastDot]
  | b :: r => by
    have := lastDot_none r
    have hg := lastDot_ge r
    unfold lastDot
    by_cases hr : lastDot r = -1
    · rw [if_pos hr]
      by_cases hb : b = 46
      · simp [hb]
      · simp [hb, this.1 hr, Ne.symm hb]
    · rw [if_neg hr]
      have h2 : 46 ∈ r := Decidable.byContradiction fun e => hr (this.2 e)
      simp [h2]
      omega
theorem lastDot_at (l : List UInt8) (i : Nat) (h1 : l[i]? = some 46) (h2 : ∀ j, i < j → l[j]? ≠ some 46) : lastDot l = i := by
  induction l generalizing i with
  | nil => simp at h1
  | cons b r ih =>
    unfold lastDot
    cases i with
    | zero =>
      have hr : lastDot r = -1 := (lastDot_none r).2 (fun hm => by
        obtain ⟨j, hj⟩ := List.mem_iff_getElem?.1 hm
        exact h2 (j + 1) (by omega) (by simpa using hj))
      simp at h1
      rw [if_pos hr, if_pos h1]
      rfl
    | succ i =>
      have := ih i (by simpa using h1) (fun j hj => by simpa using h2 (j + 1) (by omega))
      rw [if_neg (by omega), this]
      rfl
theorem lastDot_spec (l : List UInt8) : (lastDot l = -1 ∧ 46 ∉ l) ∨ ∃ i : Nat, lastDot l = i ∧ i < l.length ∧ l[i]? = some 46 ∧ ∀ j, i < j → l[j]? ≠ some 46 := by
  induction l with
  | nil => exact .inl ⟨rfl, by simp⟩
  | cons b r ih =>
    unfold lastDot
    rcases ih with ⟨h1, h2⟩ | ⟨i, h1, h2, h3, h4⟩
    · rw [if_pos h1]
      by_cases hb : b = 46
      · right
        refine ⟨0, by rw [if_pos hb]; rfl, by simp, by simp [hb], fun j hj hc => ?_⟩
        obtain ⟨k, rfl⟩ : ∃ k, j = k + 1 := ⟨j - 1, by omega⟩
        exact h2 (List.mem_iff_getElem?.2 ⟨k, by simpa using hc⟩)
      · left
        exact ⟨by rw [if_neg hb], by simp [Ne.symm hb, h2]⟩
    · right
      refine ⟨i + 1, by rw [if_neg (by omega), h1]; rfl, by simp; omega, by simpa using h3, fun j hj => ?_⟩
      obtain ⟨k, rfl⟩ : ∃ k, j = k + 1 := ⟨j - 1, by omega⟩
      simpa using h4 k (by omega)
theorem splitL_lt (l : List UInt8) (h : l ≠ []) : (splitL l).1.length < l.length := by
  have := lastDot_ge l
  have hp : 0 < l.length := List.length_pos_iff.2 h
  unfold splitL
  split
  · exact hp
  · simp only [List.length_take]
    omega
theorem upF_enough : ∀ (n m : Nat) (l : List UInt8), l.length ≤ n → l.length ≤ m → upF n l = upF m l
  | 0, 0, _, _, _ => rfl
  | 0, m + 1, l, h, _ => by
    have : l = [] := List.eq_nil_of_length_eq_zero (by omega)
    subst this; rfl
  | n + 1, 0, l, _, h => by
    have : l = [] := List.eq_nil_of_length_eq_zero (by omega)
    subst this; rfl
  | n + 1, m + 1, l, h1, h2 => by
    unfold upF
    split
    · rfl
    · rename_i hl
      have := splitL_lt l hl
      rw [upF_enough n m _ (by omega) (by omega)]
theorem up_cons (l : List UInt8) (h : l ≠ []) : up l = l :: up (splitL l).1 := by
  unfold up
  have := splitL_lt l h
  obtain ⟨n, hn⟩ : ∃ n, l.length = n + 1 := ⟨l.length - 1, by omega⟩
  rw [hn]
  show (if l = [] then [l] else l :: upF n (splitL l).1) = _
  rw [if_neg h, upF_enough n (splitL l).1.length _ (by omega) (Nat.le_refl _)]
theorem up_nil : up [] = [[]] := rfl
end Go.Proofs.YtaaneecceiefoaaDoor.Id

/- Plain functions on lists of bytes: what layer 3 (utf) computes; no program in sight. -/
namespace Go.Proofs.YtaaneecceiefoaaDoor.Utf

/-- a byte from lo to hi at an index -/
def btw (l : List UInt8) (i lo hi : Nat) : Bool := match l[i]? with
  | some b => decide (lo ≤ b.toNat) && decide (b.toNat ≤ hi)
  | none => false
/-- n bytes from 128 to 191 from an index on -/
def tl (l : List UInt8) (i : Nat) : Nat → Bool
  | 0 => true
  | n + 1 => btw l i 128 191 && tl l (i + 1) n
/-- the length of the well-formed sequence at an index, 0 if there is none -/
def szAt (l : List UInt8) (i : Nat) : Nat := match l[i]? with
  | none => 0
  | some u =>
    if u.toNat < 128 then 1
    else if 194 ≤ u.toNat ∧ u.toNat ≤ 223 ∧ tl l (i + 1) 1 = true then 2
    else if u.toNat = 224 ∧ btw l (i + 1) 160 191 = true ∧ tl l (i + 2) 1 = true then 3
    else if u.toNat = 237 ∧ btw l (i + 1) 128 159 = true ∧ tl l (i + 2) 1 = true then 3
    else if 225 ≤ u.toNat ∧ u.toNat ≤ 239 ∧ u.toNat ≠ 237 ∧ tl l (i + 1) 2 = true then 3
    else if u.toNat = 240 ∧ btw l (i + 1) 144 191 = true ∧ tl l (i + 2) 2 = true then 4
    else if 241 ≤ u.toNat ∧ u.toNat ≤ 243 ∧ tl l (i + 1) 3 = true then 4
    else if u.toNat = 244 ∧ btw l (i + 1) 128 143 = true ∧ tl l (i + 2) 2 = true then 4
    else 0
def sz (l : List UInt8) : Nat := szAt l 0

theorem btw_drop (l : List UInt8) (i k lo hi : Nat) : btw (l.drop i) k lo hi = btw l (i + k) lo hi := by
  simp [btw, List.getElem?_drop]
theorem tl_drop (l : List UInt8) (i n : Nat) : ∀ k, tl (l.drop i) k n = tl l (i + k) n := by
  induction n with
  | zero => intro k; rfl
  | succ n ih => intro k; simp [tl, btw_drop, ih, Nat.add_assoc]
theorem szAt_drop (l : List UInt8) (i k : Nat) : szAt (l.drop i) k = szAt l (i + k) := by
  simp [szAt, List.getElem?_drop, btw_drop, tl_drop, Nat.add_assoc]
theorem sz_drop (l : List UInt8) (i : Nat) : sz (l.drop i) = szAt l i := by simp [sz, szAt_drop]

theorem szAt_le4 (l : List UInt8) (i : Nat) : szAt l i ≤ 4 := by
  unfold szAt
  split
  · omega
  · (repeat' split) <;> omega

theorem btw_lt {l : List UInt8} {i lo hi : Nat} (h : btw l i lo hi = true) : i < l.length := by
  unfold btw at h
  cases hl : l[i]? with
  | none => simp [hl] at h
  | some b => exact (List.getElem?_eq_some_iff.1 hl).1
theorem tl_lt {l : List UInt8} : ∀ {n i : Nat}, tl l i n = true → i + n ≤ l.length ∨ n = 0 := by
  intro n
  induction n with
  | zero => intro i _; exact .inr rfl
  | succ n ih =>
    intro i h
    simp only [tl, Bool.and_eq_true] at h
    have h1 := btw_lt h.1
    rcases ih h.2 with h2 | h2 <;> omega
theorem szAt_lt {l : List UInt8} {i : Nat} : szAt l i ≠ 0 → i + szAt l i ≤ l.length := by
  unfold szAt
  cases hl : l[i]? with
  | none => simp
  | some b =>
    have hi : i < l.length := (List.getElem?_eq_some_iff.1 hl).1
    simp only
    repeat' split
    all_goals intro h0
    · omega
    · rename_i h; have := tl_lt h.2.2; omega
    · rename_i h; have := tl_lt h.2.2; omega
    · rename_i h; have := tl_lt h.2.2; omega
    · rename_i h; have := tl_lt h.2.2.2; omega
    · rename_i h; have := tl_lt h.2.2; omega
    · rename_i h; have := tl_lt h.2.2; omega
    · rename_i h; have := tl_lt h.2.2; omega
    · omega

/-- the number of parts; k bytes are to be passed over -/
def cntS : Nat → List UInt8 → Nat
  | _, [] => 0
  | k + 1, _ :: t => cntS k t
  | 0, b :: t => 1 + cntS (sz (b :: t) - 1) t
def cnt (l : List UInt8) : Nat := cntS 0 l
theorem cntS_drop (l : List UInt8) : ∀ k, cntS k l = cnt (l.drop k) := by
  induction l with
  | nil => intro k; cases k <;> simp [cntS, cnt]
  | cons b t ih =>
    intro k
    cases k with
    | zero => rfl
    | succ k => simp [cntS, ih]
theorem cnt_step (l : List UInt8) (i : Nat) (h : i < l.length) : cnt (l.drop i) = 1 + cnt (l.drop (i + max 1 (szAt l i))) := by
  rw [List.drop_eq_getElem_cons h]
  rw [cnt, cntS, ← List.drop_eq_getElem_cons h, sz_drop, cntS_drop, List.drop_drop]
  congr 2; congr 1; omega

/-- the index of the first wrong byte, or -1; k bytes are to be passed over, i is the index of the first -/
def badS : Nat → Nat → List UInt8 → Int
  | _, _, [] => -1
  | k + 1, i, _ :: t => badS k (i + 1) t
  | 0, i, b :: t => if sz (b :: t) = 0 then (i : Int) else badS (sz (b :: t) - 1) (i + 1) t
def bad (l : List UInt8) : Int := badS 0 0 l
theorem badS_drop (l : List UInt8) : ∀ k i, badS k i l = badS 0 (i + k) (l.drop k) := by
  induction l with
  | nil => intro k i; cases k <;> simp [badS]
  | cons b t ih =>
    intro k i
    cases k with
    | zero => rfl
    | succ k => simp only [badS, List.drop_succ_cons]; rw [ih]; congr 1; omega
theorem badS_step (l : List UInt8) (i : Nat) (h : i < l.length) :
    badS 0 i (l.drop i) = if szAt l i = 0 then (i : Int) else badS 0 (i + szAt l i) (l.drop (i + szAt l i)) := by
  rw [List.drop_eq_getElem_cons h]
  rw [badS, ← List.drop_eq_getElem_cons h, sz_drop]
  split
  · rfl
  · rw [badS_drop, List.drop_drop]
    have e : i + 1 + (szAt l i - 1) = i + szAt l i := by omega
    rw [e]
theorem bad_end (l : List UInt8) (i : Nat) (h : l.length ≤ i) : badS 0 i (l.drop i) = -1 := by
  rw [List.drop_eq_nil_of_le h]; rfl
theorem cnt_end (l : List UInt8) (i : Nat) (h : l.length ≤ i) : cnt (l.drop i) = 0 := by
  rw [List.drop_eq_nil_of_le h]; rfl

/-- a hexadecimal digit -/
def dig (n : Nat) : UInt8 := UInt8.ofNat (if n < 10 then 48 + n else 87 + n)
def esc (b : UInt8) : List UInt8 := [dig (b.toNat / 16), dig (b.toNat % 16)]
/-- the form of the part at the head -/
def formAt (l : List UInt8) (i : Nat) : List UInt8 := match l[i]? with
  | none => []
  | some b =>
    if b.toNat = 34 then [92, 34] else if b.toNat = 92 then [92, 92] else if b.toNat = 10 then [92, 110]
    else if b.toNat = 9 then [92, 116] else if b.toNat = 13 then [92, 114]
    else if b.toNat < 32 ∨ b.toNat = 127 ∨ szAt l i = 0 then 92 :: 120 :: esc b
    else (l.drop i).take (szAt l i)
theorem formAt_drop (l : List UInt8) (i k : Nat) : formAt (l.drop i) k = formAt l (i + k) := by
  simp [formAt, List.getElem?_drop, szAt_drop, List.drop_drop]
def quoteS : Nat → List UInt8 → List UInt8
  | _, [] => []
  | k + 1, _ :: t => quoteS k t
  | 0, b :: t => formAt (b :: t) 0 ++ quoteS (sz (b :: t) - 1) t
def quote (l : List UInt8) : List UInt8 := 34 :: (quoteS 0 l ++ [34])
theorem quoteS_drop (l : List UInt8) : ∀ k, quoteS k l = quoteS 0 (l.drop k) := by
  induction l with
  | nil => intro k; cases k <;> simp [quoteS]
  | cons b t ih =>
    intro k
    cases k with
    | zero => rfl
    | succ k => simp [quoteS, ih]
theorem quote_step (l : List UInt8) (i : Nat) (h : i < l.length) :
    quoteS 0 (l.drop i) = formAt l i ++ quoteS 0 (l.drop (i + max 1 (szAt l i))) := by
  rw [List.drop_eq_getElem_cons h]
  rw [quoteS, ← List.drop_eq_getElem_cons h, sz_drop, quoteS_drop, List.drop_drop, formAt_drop]
  congr 3; omega
theorem quote_end (l : List UInt8) (i : Nat) (h : l.length ≤ i) : quoteS 0 (l.drop i) = [] := by
  rw [List.drop_eq_nil_of_le h]; rfl

/-- the value of a hexadecimal digit, or -1 -/
def val (b : UInt8) : Int := if 48 ≤ b.toNat ∧ b.toNat ≤ 57 then (b.toNat : Int) - 48 else if 97 ≤ b.toNat ∧ b.toNat ≤ 102 then (b.toNat : Int) - 87 else -1
def escX : Option UInt8 → Option UInt8 → UInt8 × Nat
  | some h, some k => if 0 ≤ val h ∧ 0 ≤ val k then (UInt8.ofNat (16 * (val h).toNat + (val k).toNat), 4) else (0, 0)
  | _, _ => (0, 0)
/-- the escape at an index: the byte and the length of the form, 0 if there is none -/
def escAt (l : List UInt8) (i : Nat) : UInt8 × Nat := match l[i + 1]? with
  | none => (0, 0)
  | some c =>
    if c.toNat = 34 then (34, 2) else if c.toNat = 92 then (92, 2) else if c.toNat = 110 then (10, 2)
    else if c.toNat = 116 then (9, 2) else if c.toNat = 114 then (13, 2)
    else if c.toNat = 120 then escX l[i + 2]? l[i + 3]?
    else (0, 0)
theorem escAt_drop (l : List UInt8) (i k : Nat) : escAt (l.drop i) k = escAt l (i + k) := by
  simp [escAt, List.getElem?_drop, Nat.add_assoc]

/-- from inside the quoted form on: what was read, and the index behind the closing sign; k bytes are to be passed over, i is the index of the first -/
def unqS : Nat → Nat → List UInt8 → List UInt8 → Option (List UInt8 × Nat)
  | _, _, _, [] => none
  | k + 1, i, out, _ :: t => unqS k (i + 1) out t
  | 0, i, out, b :: t =>
    if b.toNat = 34 then some (out, i + 1)
    else if b.toNat = 92 then (if (escAt (b :: t) 0).2 = 0 then none else unqS ((escAt (b :: t) 0).2 - 1) (i + 1) (out ++ [(escAt (b :: t) 0).1]) t)
    else unqS 0 (i + 1) (out ++ [b]) t
theorem unqS_drop (out : List UInt8) (l : List UInt8) : ∀ k i, unqS k i out l = unqS 0 (i + k) out (l.drop k) := by
  induction l with
  | nil => intro k i; cases k <;> simp [unqS]
  | cons b t ih =>
    intro k i
    cases k with
    | zero => rfl
    | succ k => simp only [unqS, List.drop_succ_cons]; rw [ih]; congr 1; omega
/-- what Unquote gives: the text, the length of the form, the outcome -/
def unqM (l : List UInt8) : Option (List UInt8 × Nat) → List UInt8 × Nat × Nat
  | none => ([], 0, 2)
  | some (out, n) => if quote out = l.take n then (out, n, 0) else ([], 0, 2)
def unq (l : List UInt8) : List UInt8 × Nat × Nat :=
  match l with
  | [] => ([], 0, 2)
  | b :: t => if b.toNat = 34 then unqM l (unqS 0 1 [] t) else ([], 0, 2)

def hex (l : List UInt8) : List UInt8 := l.flatMap esc
def unhexL : List UInt8 → Option (List UInt8)
  | [] => some []
  | [_] => none
  | a :: b :: t => if 0 ≤ val a ∧ 0 ≤ val b then (unhexL t).map (UInt8.ofNat (16 * (val a).toNat + (val b).toNat) :: ·) else none
def unhex (l : List UInt8) : List UInt8 × Nat := match unhexL l with
  | none => ([], 2)
  | some r => (r, 0)
end Go.Proofs.YtaaneecceiefoaaDoor.Utf

/- Plain functions of layer 29 (promote) and layer 4 (scalar): what both sides compute; no program in sight. -/
namespace Go.Proofs.YtaaneecceiefoaaDoor.Pr

def isF (f : Int) : Bool := decide (f = 1 ∨ f = 2 ∨ f = 4)
def isK (k : Int) : Bool := decide (1 ≤ k ∧ k ≤ 9)
def rowOf (f : Int) : Int := if f = 1 then 0 else if f = 2 then 1 else if f = 4 then 2 else -1
def famT : List Int := [1, 2, 2, 1, 1, 6, 7, 7, 1, 1, 2, 2, 2, 2, 6, 7, 7, 2, 1, 2, 2, 2, 2, 6, 7, 8, 9]
def boundT : List Int := [0, 1, 2147483648, 2147483647, 9223372036854775808, 9223372036854775807, 0, 4294967295, 0, 18446744073709551615, 0, 0, 0, 0, 0, 0, 0, 2147483647]
/-- the least kind of a family -/
def fam (f k : Int) : Int := if isF f = true ∧ isK k = true then famT.getD (rowOf f * 9 + (k - 1)).toNat 0 else 0
def below (k : Int) : Int := boundT.getD (2 * (k - 1)).toNat 0
def most (k : Int) : Int := boundT.getD (2 * (k - 1) + 1).toNat 0
def rel (f a b : Int) : Bool := decide (fam f a ≠ 0 ∧ fam f a = fam f b)
def num (k : Int) : Bool := decide (k ≤ 5 ∨ k = 9)
def sgn (k : Int) : Bool := decide (k = 2 ∨ k = 3)
def txt (k : Int) : Bool := decide (k = 7 ∨ k = 8)
def lev (f a b : Int) : Int := if rel f a b = false then 0 else if a = b then 2 else if num a = true then (if below b < below a ∨ most b < most a then 1 else 2) else if a = 8 then 1 else 2

/-! the specification's way -/
def famR (f k : Int) : Int :=
  if isF f = false ∨ isK k = false then 0
  else if k = 8 ∧ f ≠ 4 then 7
  else if f = 1 then (if k = 4 ∨ k = 5 ∨ k = 9 then 1 else if k = 3 then 2 else k)
  else if (k = 2 ∨ k = 3 ∨ k = 4 ∨ k = 5) ∨ (k = 9 ∧ f = 2) then 2 else k
def great (k : Int) : Int := if k = 1 then 1 else if k = 2 ∨ k = 9 then 2147483647 else if k = 4 then 4294967295 else if k = 3 then 9223372036854775807 else 18446744073709551615
def inR (a b : Int) : Bool := decide (great a ≤ great b ∧ (sgn a = false ∨ sgn b = true))
def levR (f a b : Int) : Int := if famR f a = 0 ∨ famR f a ≠ famR f b then 0 else if a = b ∨ a = 7 then 2 else if a = 8 ∨ inR a b = false then 1 else 2

theorem isK_true {k : Int} (h : isK k = true) : k = 1 ∨ k = 2 ∨ k = 3 ∨ k = 4 ∨ k = 5 ∨ k = 6 ∨ k = 7 ∨ k = 8 ∨ k = 9 := by
  have := of_decide_eq_true h; omega
theorem isF_true {f : Int} (h : isF f = true) : f = 1 ∨ f = 2 ∨ f = 4 := of_decide_eq_true h
theorem isK_not (k : Int) : isK k = false → fam = fam := fun _ => rfl
theorem famR_eq (f k : Int) : famR f k = fam f k := by
  unfold famR fam
  cases hf : isF f with
  | false => simp
  | true =>
    cases hk : isK k with
    | false => simp
    | true =>
      rcases isF_true hf with rfl | rfl | rfl <;> rcases isK_true hk with rfl | rfl | rfl | rfl | rfl | rfl | rfl | rfl | rfl <;> decide
theorem fam_ne {f k : Int} (h : fam f k ≠ 0) : isF f = true ∧ isK k = true := by
  unfold fam at h
  split at h
  · assumption
  · exact absurd rfl h
theorem rel_true {f a b : Int} (h : rel f a b = true) : isF f = true ∧ isK a = true ∧ isK b = true := by
  obtain ⟨h1, h2⟩ := of_decide_eq_true h
  have h3 := fam_ne h1
  rw [h2] at h1
  exact ⟨h3.1, h3.2, (fam_ne h1).2⟩
theorem levR_eq (f a b : Int) : levR f a b = lev f a b := by
  unfold levR lev
  rw [famR_eq, famR_eq]
  cases hr : rel f a b with
  | false =>
    rw [if_pos rfl, if_pos]
    have := of_decide_eq_false hr
    omega
  | true =>
    obtain ⟨h1, h2, h3⟩ := rel_true hr
    rcases isF_true h1 with rfl | rfl | rfl <;> rcases isK_true h2 with rfl | rfl | rfl | rfl | rfl | rfl | rfl | rfl | rfl <;> rcases isK_true h3 with rfl | rfl | rfl | rfl | rfl | rfl | rfl | rfl | rfl <;> first | (exfalso; revert hr; decide) | decide

/-! scalars -/
/-- only the field for its kind is set; n: the parts of the other four -/
def leanB (k b : Int) (t : List UInt8) (n : Nat) : Bool := decide (n = 0) && (if txt k = true then decide (b = 0) else decide (t = []))
def withB (k b : Int) : Bool :=
  if k = 1 then decide (b ≤ 1) else if k = 2 then decide (b ≤ 2147483647 ∨ 18446744071562067968 ≤ b)
  else if k = 9 then decide (b ≤ 2147483647) else if k = 4 then decide (b ≤ 4294967295) else true
def fitsB (kind k b : Int) (t : List UInt8) (n : Nat) : Bool :=
  isK kind && decide (k = kind) && leanB k b t n && withB kind b && decide (t.length ≤ 4096) && (decide (kind ≠ 7) || decide (Utf.bad t < 0))
/-- the class of a double -/
def cls (b : Int) : Int :=
  if 9218868437227405312 < b % 9223372036854775808 then 0 else if b % 9223372036854775808 = 9218868437227405312 then 1
  else if b % 9223372036854775808 = 0 then 2 else if b % 9223372036854775808 < 4503599627370496 then 3 else 4
def normB (k b : Int) : Int := if k = 6 ∧ cls b = 0 then 9221120237041090560 else b

/-! conversions -/
def neg (a x : Int) : Bool := sgn a && decide (9223372036854775808 ≤ x)
def insB (a b x : Int) : Bool := if neg a x = true then decide (18446744073709551616 - x ≤ below b) else decide (x ≤ most b)
/-- the outcome of a conversion -/
def turnE (f a b k x : Int) (t : List UInt8) (n : Nat) : Int :=
  if isF f = false ∨ isK a = false ∨ isK b = false ∨ fitsB a k x t n = false then 1
  else if rel f a b = false then (if f = 1 then 13 else 12)
  else if num a = true ∧ insB a b x = false then 6
  else if b = 7 ∧ ¬ Utf.bad t < 0 then 7 else 0
/-- what a conversion gives: kind, bits, text, outcome -/
def turn (f a b k x : Int) (t : List UInt8) (n : Nat) : Int × Int × List UInt8 × Int :=
  if turnE f a b k x t n = 0 then (b, normB b x, t, 0) else (0, 0, [], turnE f a b k x t n)
/-- an example: kind, bits, text, whether there is one -/
def exam (f a b : Int) : Int × Int × List UInt8 × Bool :=
  if isF f = false ∨ isK a = false ∨ isK b = false ∨ lev f a b = 2 then (0, 0, [], false)
  else if lev f a b = 0 then (a, 0, [], true)
  else if a = 8 then (a, 0, [255], true)
  else if most b = 18446744073709551615 ∨ most a < most b + 1 then (a, 18446744073709551615, [], true)
  else (a, most b + 1, [], true)

/-! the specification's way -/
def turnER (f a b k x : Int) (t : List UInt8) (n : Nat) : Int :=
  if isF f = false ∨ isK a = false ∨ isK b = false ∨ k ≠ a ∨ fitsB a k x t n = false then 1
  else if lev f a b = 0 then (if f = 1 then 13 else 12)
  else if a = 6 then 0
  else if a = 7 ∨ a = 8 then (if fitsB b b x t 0 = false then 7 else 0)
  else if (neg a x = true ∧ sgn b = false) ∨ (neg a x = false ∧ great b < x) ∨ fitsB b b x t 0 = false then 6 else 0
def examR (f a b : Int) : Int × Int × List UInt8 × Bool :=
  if isF f = false ∨ isK a = false ∨ isK b = false then (0, 0, [], false)
  else if lev f a b = 0 then (a, 0, [], true)
  else if lev f a b = 2 then (0, 0, [], false)
  else if a = 8 then (a, 0, [255], true)
  else if great b < great a then (a, great b + 1, [], true)
  else (a, 18446744073709551615, [], true)
theorem examR_eq (f a b : Int) : examR f a b = exam f a b := by
  unfold examR exam
  by_cases h : isF f = false ∨ isK a = false ∨ isK b = false
  · rw [if_pos h, if_pos (by rcases h with h | h | h <;> simp [h])]
  · rw [if_neg h]
    have h1 : isF f = true := by simpa using fun e => h (.inl e)
    have h2 : isK a = true := by simpa using fun e => h (.inr (.inl e))
    have h3 : isK b = true := by simpa using fun e => h (.inr (.inr e))
    rcases isF_true h1 with rfl | rfl | rfl <;> rcases isK_true h2 with rfl | rfl | rfl | rfl | rfl | rfl | rfl | rfl | rfl <;> rcases isK_true h3 with rfl | rfl | rfl | rfl | rfl | rfl | rfl | rfl | rfl <;> decide
theorem fits_parts {kind k b : Int} {t : List UInt8} {n : Nat} (h : fitsB kind k b t n = true) : isK kind = true ∧ k = kind ∧ leanB k b t n = true ∧ withB kind b = true ∧ t.length ≤ 4096 ∧ (kind ≠ 7 ∨ Utf.bad t < 0) := by
  simp only [fitsB, Bool.and_eq_true, Bool.or_eq_true, decide_eq_true_eq] at h
  exact ⟨h.1.1.1.1.1, h.1.1.1.1.2, h.1.1.1.2, h.1.1.2, h.1.2, h.2⟩
theorem ite_dec {c : Bool} {p q : Prop} [Decidable p] [Decidable q] : (if c = true then decide p else decide q) = true ↔ (if c = true then p else q) := by cases c <;> simp
theorem turnER_eq (f a b k x : Int) (t : List UInt8) (n : Nat) (h0 : 0 ≤ x) (hx : x < 18446744073709551616) : turnER f a b k x t n = turnE f a b k x t n := by
  unfold turnER turnE
  by_cases h : isF f = false ∨ isK a = false ∨ isK b = false ∨ fitsB a k x t n = false
  · rw [if_pos h, if_pos (by rcases h with h | h | h | h <;> simp [h])]
  · have h1 : isF f = true := by simpa using fun e => h (.inl e)
    have h2 : isK a = true := by simpa using fun e => h (.inr (.inl e))
    have h3 : isK b = true := by simpa using fun e => h (.inr (.inr (.inl e)))
    have h4 : fitsB a k x t n = true := by simpa using fun e => h (.inr (.inr (.inr e)))
    obtain ⟨_, rfl, hl, hw, ht, hv⟩ := fits_parts h4
    rw [if_neg h, if_neg (by intro hc; rcases hc with e | e | e | e | e <;> simp_all)]
    have hlt : lev f k b = 0 ↔ rel f k b = false := by
      unfold lev
      cases rel f k b <;> simp
      repeat' split
      all_goals decide
    by_cases hr : rel f k b = false
    · rw [if_pos (hlt.2 hr), if_pos hr]
    · rw [if_neg (fun e => hr (hlt.1 e)), if_neg hr]
      have hr' : rel f k b = true := by simpa using hr
      have hl2 : n = 0 ∧ (if txt k = true then x = 0 else t = []) := by
        simp only [leanB, Bool.and_eq_true, decide_eq_true_eq] at hl
        exact ⟨hl.1, ite_dec.1 hl.2⟩
      clear h h4 hl hlt hr
      have key : ∀ b', fitsB b' b' x t 0 = true ↔ (isK b' = true ∧ (if txt b' = true then x = 0 else t = []) ∧ withB b' x = true ∧ (b' ≠ 7 ∨ Utf.bad t < 0)) := by
        intro b'
        simp only [fitsB, leanB, Bool.and_eq_true, Bool.or_eq_true, decide_eq_true_eq]
        constructor
        · intro h
          exact ⟨h.1.1.1.1.1, ite_dec.1 h.1.1.1.2.2, h.1.1.2, h.2⟩
        · intro h
          exact ⟨⟨⟨⟨⟨h.1, trivial⟩, trivial, ite_dec.2 h.2.1⟩, h.2.2.1⟩, ht⟩, h.2.2.2⟩
      have keyf : ∀ b', fitsB b' b' x t 0 = false ↔ ¬ (isK b' = true ∧ (if txt b' = true then x = 0 else t = []) ∧ withB b' x = true ∧ (b' ≠ 7 ∨ Utf.bad t < 0)) := by
        intro b'; rw [← key]; simp
      simp only [keyf]
      obtain ⟨_, hl2⟩ := hl2
      rcases isF_true h1 with rfl | rfl | rfl <;> rcases isK_true h2 with rfl | rfl | rfl | rfl | rfl | rfl | rfl | rfl | rfl <;> rcases isK_true h3 with rfl | rfl | rfl | rfl | rfl | rfl | rfl | rfl | rfl <;>
        first
        | (exfalso; revert hr'; decide)
        | (simp [num, txt, isK, sgn, neg, insB, withB, below, most, boundT, great] at hl2 hw hv ⊢; try subst hl2; try simp; try (repeat' split) <;> omega)
theorem fits_ref (kind x : Int) (t : List UInt8) (n : Nat) : fitsB kind kind x t n = (isK kind && decide (n = 0) && (if txt kind = true then decide (x = 0) && decide (t.length ≤ 4096) && (decide (kind = 8) || decide (Utf.bad t < 0)) else decide (t = []) && withB kind x)) := by
  unfold fitsB leanB
  cases hk : isK kind
  · simp
  · cases ht : txt kind
    · have h7 : kind ≠ 7 := by
        intro h; subst h; exact absurd ht (by decide)
      by_cases hn : t = []
      · subst hn; simp [h7]
      · simp [hn]
    · have h78 : kind = 7 ∨ kind = 8 := of_decide_eq_true ht
      rcases h78 with rfl | rfl
      · simp [withB, Bool.and_assoc]
      · simp [withB, Bool.and_assoc]
end Go.Proofs.YtaaneecceiefoaaDoor.Pr

/- The keywords of layer 6, plain. -/
namespace Go.Proofs.YtaaneecceiefoaaDoor
def Id.words : List (List UInt8) := [[109, 101, 115, 115, 97, 103, 101], [101, 110, 117, 109], [115, 101, 114, 118, 105, 99, 101], [117, 110, 105, 111, 110], [109, 97, 112], [108, 105, 115, 116], [114, 101, 113, 117, 105, 114, 101, 100], [111, 112, 116, 105, 111, 110, 97, 108], [112, 108, 97, 105, 110], [100, 101, 102, 97, 117, 108, 116], [114, 101, 115, 101, 114, 118, 101, 100], [105, 109, 112, 111, 114, 116], [115, 112, 97, 99, 101], [114, 112, 99], [115, 116, 114, 101, 97, 109], [114, 101, 116, 117, 114, 110, 115], [111, 112, 101, 110], [116, 114, 117, 101], [102, 97, 108, 115, 101], [110, 97, 110], [105, 110, 102]]
def Id.isWord (l : List UInt8) : Bool := decide (l ∈ Id.words)
end Go.Proofs.YtaaneecceiefoaaDoor

/- Plain functions of layers 8 (annotations) and 12 (rules of schemas): what the program computes; no program in sight. -/
namespace Go.Proofs.YtaaneecceiefoaaDoor.Ck
set_option linter.unusedSimpArgs false
set_option linter.unusedVariables false

abbrev Str := List UInt8
/-- a value: kind, bits, text, and the lengths of its four lists -/
structure PVal where
  k : Int
  x : Int
  t : Str
  n1 : Nat
  n2 : Nat
  n3 : Nat
  n4 : Nat
def PVal.n (v : PVal) : Nat := v.n1 + v.n2 + v.n3 + v.n4
structure PNote where
  name : Str
  val : PVal
structure PField where
  num : Int
  name : Str
  card : Int
  key : Int
  tk : Int
  tn : Str
  un : Str
  hd : Bool
  df : PVal
  notes : List PNote
structure PSpan where
  lo : Int
  hi : Int
structure PMsg where
  name : Str
  fields : List PField
  res : List PSpan
  gone : List Str
  notes : List PNote
structure PItem where
  name : Str
  num : Int
  notes : List PNote
structure PEnum where
  name : Str
  op : Bool
  items : List PItem
  res : List PSpan
  notes : List PNote
structure PMeth where
  name : Str
  inn : Str
  out : Str
  shape : Int
  notes : List PNote
structure PSvc where
  name : Str
  meths : List PMeth
  notes : List PNote
structure PSchema where
  msgs : List PMsg
  enums : List PEnum
  svcs : List PSvc
structure PProb where
  df : Str
  num : Int
  err : Int

/-! annotations -/
/-- the known annotations: name, kind, targets as bits -/
def known : List (Str × Int × Int) := [([100, 101, 112, 114, 101, 99, 97, 116, 101, 100], 1, 126), ([100, 111, 99], 7, 126), ([97, 108, 105, 97, 115], 7, 84), ([115, 105, 110, 99, 101], 4, 84), ([117, 110, 116, 105, 108], 4, 84), ([109, 105, 110], 3, 4), ([109, 97, 120], 3, 4), ([108, 101, 110, 103, 116, 104], 4, 4), ([115, 101, 99, 114, 101, 116], 1, 4), ([105, 100, 101, 109, 112, 111, 116, 101, 110, 116], 1, 64), ([116, 105, 109, 101, 111, 117, 116], 4, 64), ([114, 111, 117, 116, 101], 7, 64), ([111, 119, 110, 101, 114], 7, 34)]
def find? (name : Str) : Option (Int × Int) := (known.find? (fun r => r.1 = name)).map (·.2)
def noteKind (name : Str) : Int := match find? name with | some r => r.1 | none => 0
def fits (kind : Int) (v : PVal) : Bool := Pr.fitsB kind v.k v.x v.t v.n
def right (n : PNote) : Bool := decide (noteKind n.name ≠ 0) && fits (noteKind n.name) n.val
/-- the order of texts -/
def ltS (a b : Str) : Bool := decide (a < b)
def bitOf (m t : Int) : Bool := decide (m / 2 ^ t.toNat % 2 = 1)
def noteOne (n : PNote) (target : Int) (last : Str) (ok : Bool) : Int :=
  match find? n.name with
  | none => 8
  | some (_, tg) =>
    if target < 1 ∨ 6 < target ∨ bitOf tg target = false then 1
    else if right n = false then 12
    else if ok = true ∧ ltS n.name last = true then 11
    else if ok = true ∧ n.name = last then 9
    else 0
def noteGo (target : Int) : List PNote → Str → Bool → Int
  | [], _, _ => 0
  | n :: r, last, ok => if noteOne n target last ok = 0 then noteGo target r n.name true else noteOne n target last ok
def noteCheck (l : List PNote) (target : Int) : Int := if 8 < l.length then 3 else noteGo target l [] false

/-! names -/
def usablePart (s : Str) : Bool := Id.isPart s && !Id.isWord s
def usableName (s : Str) : Bool := Id.isFull s && !(Id.cut 46 s).any Id.isWord
/-! the problems of a definition -/
def un (d : Str) (num : Int) (ok : Bool) (e : Int) : List PProb := if ok = true then [] else [⟨d, num, e⟩]
def noted (d : Str) (num : Int) (l : List PNote) (target : Int) : List PProb := un d num (decide (noteCheck l target = 0)) (noteCheck l target)
def reserved (l : List PSpan) (n : Int) : Bool := l.any fun x => decide (x.lo ≤ n ∧ n ≤ x.hi)
def keyed (card key : Int) : Bool := if card ≠ 5 then decide (key = 0) else decide (1 ≤ key ∧ key ≤ 7 ∧ key ≠ 6)
def msgOf (s : PSchema) (name : Str) : Option PMsg := s.msgs.find? fun m => m.name = name
def enumOf (s : PSchema) (name : Str) : Option PEnum := s.enums.find? fun e => e.name = name
def typed (s : PSchema) (f : PField) : Bool :=
  if 1 ≤ f.tk ∧ f.tk ≤ 8 then decide (f.tn = [])
  else if f.tk = 9 then (enumOf s f.tn).isSome
  else if f.tk = 10 then (msgOf s f.tn).isSome && decide (f.card ≠ 3)
  else false
def zeroV (v : PVal) : Bool := decide (v.k = 0 ∧ v.x = 0 ∧ v.t = [] ∧ v.n = 0)
def u64 (n : Int) : Int := n % 18446744073709551616
def defaulted (s : PSchema) (f : PField) : Bool :=
  if f.hd = false then zeroV f.df
  else if f.card ≠ 2 ∨ f.un ≠ [] ∨ fits f.tk f.df = false ∨ Pr.normB f.df.k f.df.x ≠ f.df.x then false
  else if f.tk ≠ 9 then true
  else match enumOf s f.tn with
    | none => false
    | some e => e.items.any fun it => decide (u64 it.num = f.df.x)
def united (m : PMsg) (i : Nat) (f : PField) : Bool :=
  if f.un = [] then true
  else if f.card ≠ 2 ∨ usablePart f.un = false ∨ (m.fields.any fun x => decide (x.name = f.un)) = true then false
  else if ((m.fields.take i).any fun x => decide (x.un = f.un)) = false then true
  else match m.fields[i - 1]? with
    | some g => decide (g.un = f.un)
    | none => false
def fieldP (s : PSchema) (m : PMsg) (i : Nat) (f : PField) : List PProb :=
  un m.name f.num (decide (1 ≤ f.num ∧ f.num ≤ 65535)) 6
  ++ un m.name f.num (decide (i = 0) || (match m.fields[i - 1]? with | some g => decide (g.num < f.num) | none => false)) 11
  ++ un m.name f.num (usablePart f.name) 8
  ++ un m.name f.num (!((m.fields.take i).any fun x => decide (x.name = f.name))) 9
  ++ un m.name f.num (!reserved m.res f.num && !Id.has m.gone f.name) 21
  ++ un m.name f.num (decide (1 ≤ f.card ∧ f.card ≤ 5) && keyed f.card f.key) 1
  ++ un m.name f.num (typed s f) 12
  ++ un m.name f.num (united m i f) 15
  ++ un m.name f.num (defaulted s f) 1
  ++ noted m.name f.num f.notes 2
def spansGo (d : Str) (least most : Int) : Option PSpan → List PSpan → List PProb
  | _, [] => []
  | last, p :: r =>
    un d (-1) (decide (least ≤ p.lo ∧ p.hi ≤ most ∧ p.lo ≤ p.hi)) 6
    ++ un d (-1) (match last with | none => true | some q => decide (q.hi < p.lo)) 11
    ++ spansGo d least most (some p) r
def spans (d : Str) (l : List PSpan) (least most : Int) : List PProb := spansGo d least most none l
def needs (m : PMsg) : List Str := (m.fields.filter fun f => decide (f.card = 1 ∧ f.tk = 10)).map (·.tn)
/-- one more name is finite, given those that are -/
def finStep (s : PSchema) (fin : Str → Bool) (m : PMsg) : Str → Bool :=
  match msgOf s m.name with
  | none => fin
  | some f => if ((needs f).any fun n => (msgOf s n).isSome && !fin n) = true then fin else fun x => decide (x = m.name) || fin x
def finRound (s : PSchema) (fin : Str → Bool) : Str → Bool := s.msgs.foldl (finStep s) fin
def finRounds (s : PSchema) : Nat → (Str → Bool) → Str → Bool
  | 0, fin => fin
  | k + 1, fin => finRounds s k (finRound s fin)
def finite (s : PSchema) : Str → Bool := finRounds s (s.msgs.length + 1) fun _ => false
def cyclic (s : PSchema) (m : PMsg) (fin : Str → Bool) : Bool := (needs m).any fun n => (msgOf s n).isSome && !fin n
def fieldsGo (s : PSchema) (m : PMsg) : Nat → List PField → List PProb
  | _, [] => []
  | i, f :: r => fieldP s m i f ++ fieldsGo s m (i + 1) r
def inMessage (s : PSchema) (m : PMsg) (fin : Str → Bool) : List PProb :=
  un m.name (-1) (usableName m.name) 8
  ++ un m.name (-1) (decide (m.fields.length ≤ 64 ∧ m.res.length ≤ 16 ∧ m.gone.length ≤ 16)) 3
  ++ fieldsGo s m 0 m.fields
  ++ spans m.name m.res 1 65535
  ++ m.gone.flatMap (fun g => un m.name (-1) (decide (Utf.bad g < 0)) 7)
  ++ noted m.name (-1) m.notes 1
  ++ un m.name (-1) (!cyclic s m fin) 19
def message (s : PSchema) (m : PMsg) : List PProb := inMessage s m (finite s)
def itemP (e : PEnum) (i : Nat) (it : PItem) : List PProb :=
  un e.name it.num (decide (0 ≤ it.num ∧ it.num ≤ 2147483647)) 6
  ++ un e.name it.num (decide (i = 0) || (match e.items[i - 1]? with | some g => decide (g.num < it.num) | none => false)) 11
  ++ un e.name it.num (usablePart it.name) 8
  ++ un e.name it.num (!((e.items.take i).any fun x => decide (x.name = it.name))) 9
  ++ un e.name it.num (!reserved e.res it.num) 21
  ++ noted e.name it.num it.notes 4
def itemsGo (e : PEnum) : Nat → List PItem → List PProb
  | _, [] => []
  | i, f :: r => itemP e i f ++ itemsGo e (i + 1) r
def enum (e : PEnum) : List PProb :=
  un e.name (-1) (usableName e.name) 8
  ++ un e.name (-1) (decide (1 ≤ e.items.length ∧ e.items.length ≤ 64 ∧ e.res.length ≤ 16)) 3
  ++ un e.name (-1) (match e.items with | [] => true | it :: _ => decide (it.num = 0)) 14
  ++ itemsGo e 0 e.items
  ++ spans e.name e.res 0 2147483647
  ++ noted e.name (-1) e.notes 3
def methP (s : PSchema) (v : PSvc) (i : Nat) (m : PMeth) : List PProb :=
  un v.name i (usablePart m.name) 8
  ++ un v.name i (decide (i = 0) || (match v.meths[i - 1]? with | some g => ltS g.name m.name | none => false)) 11
  ++ un v.name i ((msgOf s m.inn).isSome && (msgOf s m.out).isSome) 12
  ++ un v.name i (decide (1 ≤ m.shape ∧ m.shape ≤ 4)) 1
  ++ noted v.name i m.notes 6
def methsGo (s : PSchema) (v : PSvc) : Nat → List PMeth → List PProb
  | _, [] => []
  | i, m :: r => methP s v i m ++ methsGo s v (i + 1) r
def service (s : PSchema) (v : PSvc) : List PProb :=
  un v.name (-1) (usableName v.name) 8
  ++ un v.name (-1) (decide (v.meths.length ≤ 64)) 3
  ++ methsGo s v 0 v.meths
  ++ noted v.name (-1) v.notes 5
def risingGo : Str → List Str → Bool
  | _, [] => true
  | a, b :: r => ltS a b && risingGo b r
def rising : List Str → Bool
  | [] => true
  | a :: r => risingGo a r
def listP (l : List Str) : List PProb := un [] (-1) (decide (l.length ≤ 64)) 3 ++ un [] (-1) (rising l) 11
def meet (a b : List Str) : Bool := a.any fun s => Id.has b s
def apart (a b c : List Str) : Bool := !(meet b a || meet c a || meet c b)
def head (s : PSchema) : List PProb :=
  listP (s.msgs.map (·.name)) ++ listP (s.enums.map (·.name)) ++ listP (s.svcs.map (·.name))
  ++ un [] (-1) (apart (s.msgs.map (·.name)) (s.enums.map (·.name)) (s.svcs.map (·.name))) 9
def all (s : PSchema) : List PProb :=
  head s ++ s.msgs.flatMap (fun m => inMessage s m (finite s)) ++ s.enums.flatMap enum ++ s.svcs.flatMap (service s)
def valid (s : PSchema) : Bool := (all s).isEmpty
end Go.Proofs.YtaaneecceiefoaaDoor.Ck

/- Schemas in memory: what the cells of notes, fields, messages, enums and services hold. -/
namespace Go.Proofs.YtaaneecceiefoaaDoor
open Go.RowKit Ck
set_option linter.unusedVariables false

/-- the cells from a place on hold vs -/
def Cells (w : World) (b o : Nat) (vs : List Value) : Prop := ∀ i v, vs[i]? = some v → w.cell? ⟨b, o + i, none⟩ = some v
theorem Cells.bel {w w' : World} {b o : Nat} {vs : List Value} (h : Cells w b o vs) (k : Bel w w') : Cells w' b o vs := fun i v hv => k.some (h i v hv)
/-- an element whose cells hold a list that reads as x -/
def El {α : Type} (V : World → List Value → α → Prop) (w : World) (b o : Nat) (x : α) : Prop := ∃ vs, Cells w b o vs ∧ V w vs x
def Stays {α : Type} (V : World → List Value → α → Prop) : Prop := ∀ w w' vs x, Bel w w' → V w vs x → V w' vs x
theorem El.keeps {α : Type} {V : World → List Value → α → Prop} (h : Stays V) : Keeps (El V) := fun w w' b o x hb k ⟨vs, h1, h2⟩ => ⟨vs, h1.bel k, h w w' vs x k h2⟩
/-- a slice of such elements -/
def Sv {α : Type} (C : Nat) (V : World → List Value → α → Prop) : World → Value → List α → Prop := Sl C (El V)
theorem Sv.bel {α : Type} {C : Nat} {V : World → List Value → α → Prop} (hV : Stays V) {w w' : World} {v : Value} {xs : List α} (h : Sv C V w v xs) (k : Bel w w') : Sv C V w' v xs := Sl.bel (El.keeps hV) h k

def VVal (vs : List Value) (v : PVal) : Prop :=
  ∃ (p1 p2 p3 p4 : Option Addr) (c1 c2 c3 c4 : Nat), vs = [.int .i64 v.k, .int .u64 v.x, .string (S v.t), .slice p1 v.n1 c1, .slice p2 v.n2 c2, .slice p3 v.n3 c3, .slice p4 v.n4 c4] ∧ 0 ≤ v.x ∧ v.x < 18446744073709551616 ∧ v.n1 ≤ 140737488355328 ∧ v.n2 ≤ 140737488355328 ∧ v.n3 ≤ 140737488355328 ∧ v.n4 ≤ 140737488355328
def VNote (w : World) (vs : List Value) (n : PNote) : Prop := ∃ vv, vs = .string (S n.name) :: vv ∧ VVal vv n.val
theorem VNote.stays : Stays VNote := fun _ _ _ _ _ h => h
def VSpan (w : World) (vs : List Value) (x : PSpan) : Prop := vs = [.int .i64 x.lo, .int .i64 x.hi]
theorem VSpan.stays : Stays VSpan := fun _ _ _ _ _ h => h
def VStr (w : World) (vs : List Value) (k : Str) : Prop := vs = [.string (S k)]
theorem VStr.stays : Stays VStr := fun _ _ _ _ _ h => h
def Notes := Sv 8 VNote
def Spans := Sv 2 VSpan
def Texts := Sv 1 VStr
def VField (w : World) (vs : List Value) (f : PField) : Prop :=
  ∃ vv nv, vs = [.int .i64 f.num, .string (S f.name), .int .i64 f.card, .int .i64 f.key, .int .i64 f.tk, .string (S f.tn), .string (S f.un), .bool f.hd] ++ vv ++ [nv] ∧ VVal vv f.df ∧ Notes w nv f.notes
theorem VField.stays : Stays VField := fun _ _ _ _ k ⟨vv, nv, h1, h2, h3⟩ => ⟨vv, nv, h1, h2, h3.bel VNote.stays k⟩
def VItem (w : World) (vs : List Value) (it : PItem) : Prop := ∃ nv, vs = [.string (S it.name), .int .i64 it.num, nv] ∧ Notes w nv it.notes
theorem VItem.stays : Stays VItem := fun _ _ _ _ k ⟨nv, h1, h3⟩ => ⟨nv, h1, h3.bel VNote.stays k⟩
def VMeth (w : World) (vs : List Value) (m : PMeth) : Prop := ∃ nv, vs = [.string (S m.name), .string (S m.inn), .string (S m.out), .int .i64 m.shape, nv] ∧ Notes w nv m.notes
theorem VMeth.stays : Stays VMeth := fun _ _ _ _ k ⟨nv, h1, h3⟩ => ⟨nv, h1, h3.bel VNote.stays k⟩
def VMsg (w : World) (vs : List Value) (m : PMsg) : Prop :=
  ∃ fv rv gv nv, vs = [.string (S m.name), fv, rv, gv, nv] ∧ Sv 16 VField w fv m.fields ∧ Spans w rv m.res ∧ Texts w gv m.gone ∧ Notes w nv m.notes
theorem VMsg.stays : Stays VMsg := fun _ _ _ _ k ⟨fv, rv, gv, nv, h1, h2, h3, h4, h5⟩ => ⟨fv, rv, gv, nv, h1, h2.bel VField.stays k, h3.bel VSpan.stays k, h4.bel VStr.stays k, h5.bel VNote.stays k⟩
def VEnum (w : World) (vs : List Value) (e : PEnum) : Prop :=
  ∃ iv rv nv, vs = [.string (S e.name), .bool e.op, iv, rv, nv] ∧ Sv 3 VItem w iv e.items ∧ Spans w rv e.res ∧ Notes w nv e.notes
theorem VEnum.stays : Stays VEnum := fun _ _ _ _ k ⟨iv, rv, nv, h1, h2, h3, h4⟩ => ⟨iv, rv, nv, h1, h2.bel VItem.stays k, h3.bel VSpan.stays k, h4.bel VNote.stays k⟩
def VSvc (w : World) (vs : List Value) (v : PSvc) : Prop :=
  ∃ mv nv, vs = [.string (S v.name), mv, nv] ∧ Sv 5 VMeth w mv v.meths ∧ Notes w nv v.notes
theorem VSvc.stays : Stays VSvc := fun _ _ _ _ k ⟨mv, nv, h1, h2, h3⟩ => ⟨mv, nv, h1, h2.bel VMeth.stays k, h3.bel VNote.stays k⟩
def VSchema (w : World) (vs : List Value) (s : PSchema) : Prop :=
  ∃ mv ev sv, vs = [mv, ev, sv] ∧ Sv 5 VMsg w mv s.msgs ∧ Sv 5 VEnum w ev s.enums ∧ Sv 3 VSvc w sv s.svcs
theorem VSchema.stays : Stays VSchema := fun _ _ _ _ k ⟨mv, ev, sv, h1, h2, h3, h4⟩ => ⟨mv, ev, sv, h1, h2.bel VMsg.stays k, h3.bel VEnum.stays k, h4.bel VSvc.stays k⟩
def probC (p : PProb) : List Value := [.string (S p.df), .int .i64 p.num, .int .i64 p.err]
end Go.Proofs.YtaaneecceiefoaaDoor

/- Arguments of any nesting of slices and structs, opened: what their cells hold, with the bounds that the weights give. -/
namespace Go.Proofs.YtaaneecceiefoaaDoor
open Go.ChangeShapes Go.WideShapes Go.RowKit Go.Deep
set_option linter.unusedVariables false
section
variable {H : Type} {enc : TypeId × Value → H} {w : World} {base : Nat} {spare : Nat → Bool} {held : Bool}
/-- the weights of what was read are within memory -/
def Wt (t : TypeId) (y : DataW H × List MemPlace) : Prop := (y.1.weights Tryd.prog t).all (· ≤ reachBytes) = true
/-- cells of type t read, under the weights' bound: they are a T -/
def Opens (enc : TypeId × Value → H) (w : World) (base : Nat) (spare : Nat → Bool) (held : Bool) (t : TypeId) (T : List Value → Prop) : Prop :=
  ∀ (n : Nat) (cs : List Value) (y : DataW H × List MemPlace), DataW.trod enc Tryd.prog w base spare held n t cs = some y → Wt t y → T cs
theorem all_of_mem {P : Program} {e : TypeId} : ∀ {l : List (DataW H)}, (DataW.weightsAll P e l).all (· ≤ reachBytes) = true → ∀ d ∈ l, (d.weights P e).all (· ≤ reachBytes) = true
  | [], _, d, hd => by cases hd
  | x :: r, h, d, hd => by
    simp only [DataW.weightsAll, List.all_append, Bool.and_eq_true] at h
    rcases List.mem_cons.1 hd with rfl | hd
    · exact h.1
    · exact all_of_mem h.2 d hd
theorem collect {α : Type} (R : Nat → α → Prop) : ∀ n, (∀ i, i < n → ∃ x, R i x) → ∃ xs : List α, xs.length = n ∧ ∀ i x, xs[i]? = some x → R i x
  | 0, _ => ⟨[], rfl, fun i x h => by simp at h⟩
  | n + 1, h => by
    obtain ⟨xs, hl, hx⟩ := collect R n (fun i hi => h i (by omega))
    obtain ⟨x, hxn⟩ := h n (by omega)
    refine ⟨xs ++ [x], by simp [hl], fun i y hy => ?_⟩
    rcases Nat.lt_or_ge i xs.length with hi | hi
    · rw [List.getElem?_append_left hi] at hy
      exact hx i y hy
    · rw [List.getElem?_append_right hi] at hy
      have hi0 : i - xs.length = 0 := by
        have := (List.getElem?_eq_some_iff.1 hy).1
        simpa using this
      rw [hi0] at hy
      simp at hy
      subst hy
      rwa [show i = n by omega]
theorem opens_slice {α : Type} {t e : TypeId} {C : Nat} {V : World → List Value → α → Prop} {Q : α → Prop} (ht : Tryd.prog.underlying t = some (.slice e)) (hC : Tryd.prog.cellsOf e = C) (hC0 : 0 < C) (hb : decide (1 ≤ Tryd.prog.bytesOf e) = true)
    (hV : Opens enc w base spare held e (fun cs => ∃ x, V w cs x ∧ Q x)) : Opens enc w base spare held t (fun cs => ∃ v xs, cs = [v] ∧ Sv C V w v xs ∧ ∀ x ∈ xs, Q x) := by
  intro fuel cs y h hw
  have hby := of_decide_eq_true hb
  rcases open_slice ht h with ⟨rfl, _⟩ | ⟨a, len, cap, m, k, D, Pl, rfl, hbase, hl, hm, hmm, hy, hel⟩
  · exact ⟨_, [], rfl, Sl.nil _ _ _ _ _, fun x hx => by cases hx⟩
  · have hlm : len ≤ m := by rw [hmm]; split <;> omega
    subst hy
    unfold Wt at hw
    simp only [DataW.weights, ht, List.all_cons, List.all_append, Bool.and_eq_true, decide_eq_true_eq, List.length_map, List.length_range] at hw
    obtain ⟨hw1, hw2, _⟩ := hw
    have hlen : len ≤ 140737488355328 := by
      have h3 : len ≤ (len + (m - len)) * Tryd.prog.bytesOf e := Nat.le_trans (Nat.le_add_right len (m - len)) (Nat.le_mul_of_pos_right _ hby)
      unfold reachBytes at hw1
      omega
    obtain ⟨xs, hxl, hxs⟩ := collect (fun i x => ∃ cs', w.cells? base (a.add (i * C)) C = some cs' ∧ V w cs' x ∧ Q x) len (fun i hi => by
      obtain ⟨cs', h1, h2⟩ := hel i (by omega)
      obtain ⟨x, hx1, hx2⟩ := hV k cs' (D i, Pl i) h2 (all_of_mem hw2 (D i) (List.mem_map.2 ⟨i, List.mem_range.2 hi, rfl⟩))
      rw [hC] at h1
      exact ⟨x, cs', h1, hx1, hx2⟩)
    subst hxl
    refine ⟨_, xs, rfl, ⟨some a, cap, rfl, hlen, hl, fun i x hx => ?_⟩, fun x hx => ?_⟩
    · obtain ⟨cs', h1, hx1, _⟩ := hxs i x hx
      obtain ⟨h2, h3, h4⟩ := World.cells?_some h1
      obtain ⟨b, off, spot⟩ := a
      have hlc : 0 < cs'.length := by omega
      have hx0 : 0 < xs.length := by
        have := (List.getElem?_eq_some_iff.1 hx).1
        omega
      obtain ⟨cs0, g1, _⟩ := hxs 0 _ (List.getElem?_eq_getElem hx0)
      obtain ⟨_, g3, g4⟩ := World.cells?_some g1
      have hlc0 : 0 < cs0.length := by omega
      have hc1 : w.cell? (((⟨b, off, spot⟩ : Addr).add (0 * C)).add 0) = some cs0[0] := by
        rw [g4 0 hC0]; exact List.getElem?_eq_getElem hlc0
      have hspot : spot = none := by simpa [Addr.add] using World.cell?_spot hc1
      subst hspot
      have hcell : Cells w b (off + i * C) cs' := fun j v hv => by
        have hj : j < C := by
          have := (List.getElem?_eq_some_iff.1 hv).1
          omega
        have := h4 j hj
        rw [add_plain, add_plain] at this
        rw [this]; exact hv
      exact ⟨b, off, rfl, World.block_lt_of_cell? w _ (hcell 0 cs'[0] (List.getElem?_eq_getElem hlc)), cs', hcell, hx1⟩
    · obtain ⟨i, hi⟩ := List.getElem?_of_mem hx
      obtain ⟨_, _, _, h⟩ := hxs i x hi
      exact h
theorem opens_int {t : TypeId} {k : IntKind} (ht : Tryd.prog.underlying t = some (.int k)) : Opens enc w base spare held t (fun cs => ∃ z, cs = [.int k z] ∧ (Lit.int k z).wf = true) := by
  intro n cs y h _
  obtain ⟨z, e, _, g⟩ := DataW.trod_int ht h
  exact ⟨z, e, g⟩
theorem opens_bool {t : TypeId} (ht : Tryd.prog.underlying t = some .bool) : Opens enc w base spare held t (fun cs => ∃ b, cs = [.bool b]) := by
  intro n cs y h _
  obtain ⟨z, e, _⟩ := DataW.trod_bool ht h
  exact ⟨z, e⟩
theorem opens_string {t : TypeId} (ht : Tryd.prog.underlying t = some .string) : Opens enc w base spare held t (fun cs => ∃ l : List UInt8, cs = [.string (S l)] ∧ l.length ≤ 140737488355328) := by
  intro n cs y h hw
  obtain ⟨s, e, hy, _⟩ := DataW.trod_string ht h
  subst hy
  unfold Wt at hw
  simp only [DataW.weights, List.all_cons, List.all_nil, Bool.and_true, decide_eq_true_eq] at hw
  unfold reachBytes at hw
  exact ⟨s.data.toList, e, by omega⟩
/-- a slice whose elements do not matter -/
theorem opens_len {t e : TypeId} (ht : Tryd.prog.underlying t = some (.slice e)) (hb : decide (1 ≤ Tryd.prog.bytesOf e) = true) : Opens enc w base spare held t (fun cs => ∃ (p : Option Addr) (n c : Nat), cs = [.slice p n c] ∧ n ≤ 140737488355328) := by
  intro n cs y h hw
  have hby := of_decide_eq_true hb
  rcases open_slice ht h with ⟨rfl, _⟩ | ⟨a, len, cap, m, k, D, Pl, rfl, _, hl, hm, hmm, hy, _⟩
  · exact ⟨_, _, _, rfl, by omega⟩
  · subst hy
    unfold Wt at hw
    simp only [DataW.weights, ht, List.all_cons, Bool.and_eq_true, decide_eq_true_eq, List.length_map, List.length_range] at hw
    have h2 := hw.1
    have h3 : len ≤ (len + (m - len)) * Tryd.prog.bytesOf e := Nat.le_trans (Nat.le_add_right len (m - len)) (Nat.le_mul_of_pos_right _ hby)
    unfold reachBytes at h2
    exact ⟨_, _, _, rfl, by omega⟩
theorem each_get {P : Program} : ∀ {ts : List TypeId} {ds : List (DataW H)}, (DataW.weightsEach P ts ds).all (· ≤ reachBytes) = true → ∀ (i : Nat) t d, ts[i]? = some t → ds[i]? = some d → (d.weights P t).all (· ≤ reachBytes) = true
  | [], _, _, i, t, d, h, _ => by simp at h
  | _ :: _, [], _, i, t, d, _, h => by simp at h
  | t0 :: ts, d0 :: ds, hw, i, t, d, h1, h2 => by
    simp only [DataW.weightsEach, List.all_append, Bool.and_eq_true] at hw
    cases i with
    | zero => simp at h1 h2; subst h1; subst h2; exact hw.1
    | succ i => exact each_get hw.2 i t d (by simpa using h1) (by simpa using h2)
/-- a struct's parts, each opened: field i lies at 'off' and has n cells -/
theorem opens_struct {t : TypeId} {fs : Array Field} {T : List Value → Prop} (ht : Tryd.prog.underlying t = some (.struct fs)) (N : Nat) (hN : Tryd.prog.cellsOf t = N)
    (hT : ∀ cs, cs.length = N → (∀ (i off n : Nat) (t' : TypeId) (X : List Value → Prop), (fs[i]?).map (fun f => (f.offset, f.type)) = some (off, t') → Tryd.prog.cellsOf t' = n → Opens enc w base spare held t' X → X ((cs.drop off).take n)) → T cs) : Opens enc w base spare held t T := by
  intro n cs y h hw
  obtain ⟨xs, m, _, hy, hl, hlen, hf⟩ := DataW.trod_struct ht h
  refine hT cs (hl.trans hN) (fun i off k t' X hi hk hX => ?_)
  obtain ⟨f, hfi, hfe⟩ := Option.map_eq_some_iff.1 hi
  simp only [Prod.mk.injEq] at hfe
  obtain ⟨rfl, rfl⟩ := hfe
  have hi' : i < xs.length := by
    have := (Array.getElem?_eq_some_iff.1 hfi).1
    omega
  have h1 := hf i f hfi
  rw [List.getElem?_eq_getElem hi', hk] at h1
  refine hX m _ xs[i] h1 ?_
  subst hy
  unfold Wt at hw ⊢
  simp only [DataW.weights, ht] at hw
  exact each_get hw i f.type xs[i].1 (by simp [hfi]) (by simp [hi'])
end
end Go.Proofs.YtaaneecceiefoaaDoor

/- Plain facts of layer 6: what the laws Resolves, Splits and Camels ask; no program in sight. -/
namespace Go.Proofs.YtaaneecceiefoaaDoor.Id
set_option linter.unusedSimpArgs false
set_option linter.unusedVariables false

theorem cut_append (c : UInt8) (b : List UInt8) (hb : c ∉ b) : ∀ a : List UInt8, cut c (a ++ c :: b) = cut c a ++ [b]
  | [] => by
    show cut c (c :: b) = [[]] ++ [b]
    rw [cut_hit, cut_none c b hb]
    rfl
  | x :: a => by
    have ih := cut_append c b hb a
    by_cases hx : x = c
    · subst hx
      rw [List.cons_append, cut_hit, cut_hit, ih]
      rfl
    · rw [List.cons_append, cut_miss c x _ hx, cut_miss c x _ hx, ih]
      have := cut_ne c a
      cases hc : cut c a with
      | nil => exact absurd hc this
      | cons p ps => rfl
theorem isPart_nil : isPart [] = false := by decide
theorem isFull_ne {l : List UInt8} (h : isFull l = true) : l ≠ [] := by
  intro e; subst e
  exact absurd h (by decide)
theorem split_at (l : List UInt8) (i : Nat) (h : lastDot l = i) (hi : i < l.length) (h3 : l[i]? = some 46) : l = l.take i ++ 46 :: l.drop (i + 1) := by
  conv => lhs; rw [← List.take_append_drop i l]
  rw [List.drop_eq_getElem_cons hi]
  rw [List.getElem?_eq_getElem hi] at h3
  rw [Option.some.inj h3]
theorem full_split {l : List UInt8} (h : isFull l = true) : isPart (splitL l).2 = true ∧ join (splitL l).1 (splitL l).2 = l ∧ ((splitL l).1 ≠ [] → isFull (splitL l).1 = true) := by
  unfold isFull at h
  simp only [Bool.and_eq_true, decide_eq_true_eq] at h
  obtain ⟨h1, h2⟩ := h
  rcases lastDot_spec l with ⟨e, hn⟩ | ⟨i, e, hi, h3, h4⟩
  · have hs : splitL l = ([], l) := by unfold splitL; rw [if_pos e]
    rw [cut_none 46 l hn] at h1
    rw [hs]
    simp at h1
    exact ⟨h1, by simp [join], fun h => absurd rfl h⟩
  · have hs : splitL l = (l.take i, l.drop (i + 1)) := by unfold splitL; rw [if_neg (by omega), e]; rfl
    have hl := split_at l i e hi h3
    have hn : (46 : UInt8) ∉ l.drop (i + 1) := by
      intro hm
      obtain ⟨j, hj⟩ := List.mem_iff_getElem?.1 hm
      rw [List.getElem?_drop] at hj
      exact h4 (i + 1 + j) (by omega) hj
    have hc : cut 46 l = cut 46 (l.take i) ++ [l.drop (i + 1)] := by
      conv => lhs; rw [hl]
      exact cut_append 46 _ hn _
    rw [hc, List.all_append] at h1
    simp only [Bool.and_eq_true] at h1
    have ha : l.take i ≠ [] := by
      intro e0
      rw [e0] at h1
      exact absurd h1.1 (by decide)
    rw [hs]
    refine ⟨by simpa using h1.2, ?_, fun _ => ?_⟩
    · show join (l.take i) (l.drop (i + 1)) = l
      unfold join
      rw [if_neg ha]
      exact hl.symm
    · unfold isFull
      simp only [Bool.and_eq_true, decide_eq_true_eq]
      refine ⟨h1.1, ?_⟩
      show (l.take i).length ≤ 120
      rw [List.length_take]
      omega
/-! Camel -/
theorem okB_all {l : List UInt8} (h : okB l = true) : l.all nmB = true := by
  cases l with
  | nil => rfl
  | cons b r =>
    simp only [okB, Bool.and_eq_true] at h
    simp only [List.all_cons, Bool.and_eq_true]
    exact ⟨let_nm b h.1, h.2⟩
theorem isPart_parts {l : List UInt8} (h : isPart l = true) : ∃ b r, l = b :: r ∧ letB b = true ∧ r.all nmB = true ∧ r.length ≤ 39 := by
  unfold isPart at h
  simp only [Bool.and_eq_true, decide_eq_true_eq] at h
  obtain ⟨h1, h2⟩ := h
  cases l with
  | nil => simp at h2
  | cons b r =>
    simp only [okB, Bool.and_eq_true] at h1
    simp only [List.length_cons] at h2
    exact ⟨b, r, rfl, h1.1, h1.2, by omega⟩
theorem u8_all (p : UInt8 → Bool) (h : ∀ b : Fin 256, p (UInt8.ofNat b.val) = true) (b : UInt8) : p b = true := by
  have := h ⟨b.toNat, b.toNat_lt⟩
  simpa using this
theorem up_nm (b : UInt8) : (nmB b = true → nmB (upB b) = true) := by
  have := u8_all (fun b => !nmB b || nmB (upB b)) (by decide +kernel) b
  simp only [Bool.or_eq_true, Bool.not_eq_true'] at this
  intro h
  rcases this with e | e
  · rw [h] at e; cases e
  · exact e
theorem up_ne95 (b : UInt8) : b ≠ 95 → upB b ≠ 95 := by
  have := u8_all (fun b => decide (b = 95) || decide (upB b ≠ 95)) (by decide +kernel) b
  simp only [Bool.or_eq_true, decide_eq_true_eq] at this
  intro h
  rcases this with e | e
  · exact absurd e h
  · exact e
theorem let_up (b : UInt8) : letB b = true → caB (upB b) = true ∧ b ≠ 95 := by
  have := u8_all (fun b => !letB b || (caB (upB b) && decide (b ≠ 95))) (by decide +kernel) b
  simp only [Bool.or_eq_true, Bool.not_eq_true', Bool.and_eq_true, decide_eq_true_eq] at this
  intro h
  rcases this with e | e
  · rw [h] at e; cases e
  · exact e
theorem camelG_facts : ∀ (l : List UInt8) (st : Bool), l.all nmB = true → (camelG st l).all nmB = true ∧ 95 ∉ camelG st l ∧ (camelG st l).length ≤ l.length
  | [], _, _ => by simp [camelG]
  | b :: r, st, h => by
    simp only [List.all_cons, Bool.and_eq_true] at h
    by_cases hb : b = 95
    · have hc : camelG st (b :: r) = camelG true r := by rw [camelG]; exact if_pos hb
      have := camelG_facts r true h.2
      rw [hc]
      exact ⟨this.1, this.2.1, by simp only [List.length_cons]; omega⟩
    · have hc : camelG st (b :: r) = (if st = true then upB b else b) :: camelG false r := by rw [camelG]; exact if_neg hb
      have ih := camelG_facts r false h.2
      have hu := up_nm b h.1
      have hv := up_ne95 b hb
      rw [hc]
      refine ⟨?_, ?_, by simp only [List.length_cons]; omega⟩
      · simp only [List.all_cons, Bool.and_eq_true]
        exact ⟨by cases st <;> simp [h.1, hu], ih.1⟩
      · cases st <;> simp [Ne.symm hb, Ne.symm hv, ih.2.1]
theorem camel_part {l : List UInt8} (h : isPart l = true) : isPart (camel l) = true ∧ (∃ b r, camel l = b :: r ∧ caB b = true) ∧ 95 ∉ camel l := by
  have hc : camel l = camelG true l := by unfold camel; rw [if_pos h]
  obtain ⟨b, r, rfl, hb, hr, hlen⟩ := isPart_parts h
  obtain ⟨hu, hb95⟩ := let_up b hb
  have he : camelG true (b :: r) = upB b :: camelG false r := by rw [camelG]; exact if_neg hb95
  obtain ⟨f1, f2, f3⟩ := camelG_facts r false hr
  rw [hc, he]
  refine ⟨?_, ⟨_, _, rfl, hu⟩, ?_⟩
  · unfold isPart
    simp only [okB, letB, hu, Bool.or_true, Bool.true_and, f1, decide_eq_true_eq, List.length_cons]
    omega
  · have := up_ne95 b hb95
    simp [Ne.symm this, f2]
/-- no capitals, and each underscore is followed by a small letter -/
def plainB : List UInt8 → Bool
  | [] => true
  | b :: r => !caB b && (if b = 95 then (match r with | [] => false | c :: _ => smB c) else true) && plainB r
theorem sm_facts (b : UInt8) : smB b = true → caB (upB b) = true ∧ loB (upB b) = b ∧ b ≠ 95 := by
  have := u8_all (fun b => !smB b || (caB (upB b) && decide (loB (upB b) = b) && decide (b ≠ 95))) (by decide +kernel) b
  simp only [Bool.or_eq_true, Bool.not_eq_true', Bool.and_eq_true, decide_eq_true_eq] at this
  intro h
  rcases this with e | e
  · rw [h] at e; cases e
  · exact ⟨e.1.1, e.1.2, e.2⟩
theorem snake_camel : ∀ (l : List UInt8), plainB l = true → snakeG false (camelG false l) = l
  | [], _ => rfl
  | [b], h => by
    unfold plainB at h
    by_cases hb : b = 95
    · subst hb; exact absurd h (by decide)
    · have hc : camelG false [b] = [b] := by rw [camelG]; exact if_neg hb
      rw [hc]
      simp only [Bool.and_eq_true, Bool.not_eq_true'] at h
      unfold snakeG
      rw [h.1.1]
      rfl
  | b :: c :: r, h => by
    have h0 := h
    unfold plainB at h
    simp only [Bool.and_eq_true, Bool.not_eq_true'] at h
    have ih := snake_camel (c :: r) h.2
    by_cases hb : b = 95
    · subst hb
      rw [if_pos rfl] at h
      obtain ⟨g1, g2, g3⟩ := sm_facts c h.1.2
      have hc1 : camelG false (95 :: c :: r) = upB c :: camelG false r := by
        rw [camelG, if_pos rfl, camelG]
        exact if_neg g3
      have hc2 : camelG false (c :: r) = c :: camelG false r := by rw [camelG]; exact if_neg g3
      have hcc : caB c = false := by
        have h2 := h.2
        unfold plainB at h2
        simp only [Bool.and_eq_true, Bool.not_eq_true'] at h2
        exact h2.1.1
      rw [hc2] at ih
      rw [hc1]
      unfold snakeG at ih ⊢
      rw [hcc] at ih
      rw [g1, g2]
      have : snakeG false (camelG false r) = r := by simpa using ih
      rw [this]
      rfl
    · have hc : camelG false (b :: c :: r) = b :: camelG false (c :: r) := by rw [camelG]; exact if_neg hb
      rw [hc, snakeG, h.1.1, ih]
      rfl
theorem snake_back {l : List UInt8} (h : isPart l = true) (hp : plainB l = true) : snake (camel l) = l := by
  have hq := (camel_part h).1
  unfold snake
  rw [if_pos hq]
  have hc : camel l = camelG true l := by unfold camel; rw [if_pos h]
  rw [hc]
  obtain ⟨b, r, rfl, hb, hr, hlen⟩ := isPart_parts h
  unfold plainB at hp
  simp only [Bool.and_eq_true, Bool.not_eq_true'] at hp
  have hs : smB b = true := by
    unfold letB at hb
    rw [hp.1.1] at hb
    simpa using hb
  obtain ⟨g1, g2, g3⟩ := sm_facts b hs
  have he : camelG true (b :: r) = upB b :: camelG false r := by rw [camelG]; exact if_neg g3
  rw [he, snakeG, g1, g2, snake_camel r hp.2]
  rfl
end Go.Proofs.YtaaneecceiefoaaDoor.Id

/- The library's words and the plain functions of layer 6. -/
namespace Go.Proofs.YtaaneecceiefoaaDoor
open Go.RowKit
set_option linter.unusedSimpArgs false

theorem data_get (s : ByteArray) (j : Nat) (h : j < s.size) : s.data[j]! = s.data.toList[j]'(by rw [len_l]; exact h) := by
  have h' : j < s.data.size := h
  rw [getElem!_pos s.data j h', Array.getElem_toList]
theorem last_dot (s : ByteArray) (l : List UInt8) (hl : s.data.toList = l) : Lib.lastIndexByte s 46 = Id.lastDot l := by
  subst hl
  have hsz := len_l s
  unfold Lib.lastIndexByte
  have hto : ∀ b : UInt8, ((b.toNat : Int) = 46) ↔ b = 46 := by
    intro b
    constructor
    · intro h
      apply UInt8.toNat_inj.1
      show b.toNat = 46
      omega
    · intro h; subst h; rfl
  rcases Lib.lastIdx_spec s 46 s.size with ⟨h1, h2⟩ | ⟨i, h1, h2, h3, h4⟩
  · rw [h1]
    refine ((Id.lastDot_none _).2 fun hm => ?_).symm
    obtain ⟨j, hj, he⟩ := List.mem_iff_getElem.1 hm
    have hj' : j < s.size := by omega
    have := h2 j hj'
    rw [data_get s j hj', he] at this
    exact this rfl
  · rw [h2]
    refine (Id.lastDot_at _ i ?_ fun j hj hc => ?_).symm
    · rw [data_get s i h1, hto] at h3
      rw [List.getElem?_eq_getElem (by omega), h3]
    · obtain ⟨hj2, he⟩ := List.getElem?_eq_some_iff.1 hc
      have hj' : j < s.size := by omega
      have := h4 j hj hj'
      rw [data_get s j hj', he] at this
      exact this rfl
/-! the loop of IsPart -/
theorem okB_pre (a b : List UInt8) (h : Id.okB (a ++ b) = true) : Id.okB a = true := by
  cases a with
  | nil => rfl
  | cons x a =>
    simp only [List.cons_append, Id.okB, List.all_append, Bool.and_eq_true] at h ⊢
    exact ⟨h.1, h.2.1⟩
theorem okB_snoc (l : List UInt8) (b : UInt8) : Id.okB (l ++ [b]) = (Id.okB l && if l = [] then Id.letB b else Id.nmB b) := by
  cases l with
  | nil => simp [Id.okB]
  | cons x a =>
    simp only [List.cons_append, Id.okB, List.all_append, List.all_cons, List.all_nil, Bool.and_true]
    rw [if_neg (by simp), Bool.and_assoc]
theorem take_one (l : List UInt8) (k : Nat) (b : UInt8) (h : l[k]? = some b) : l.take (k + 1) = l.take k ++ [b] := by
  obtain ⟨hk, rfl⟩ := List.getElem?_eq_some_iff.1 h
  exact List.take_succ_eq_append_getElem hk
theorem okB_take (l : List UInt8) (k : Nat) (b : UInt8) (h : l[k]? = some b) : Id.okB (l.take (k + 1)) = (Id.okB (l.take k) && if k = 0 then Id.letB b else Id.nmB b) := by
  rw [take_one l k b h, okB_snoc]
  congr 1
  have hk : k < l.length := (List.getElem?_eq_some_iff.1 h).1
  by_cases h0 : k = 0
  · subst h0; simp
  · rw [if_neg (fun e => h0 (by have := congrArg List.length e; simp only [List.length_take, List.length_nil] at this; omega)), if_neg h0]
theorem okB_bad (l : List UInt8) (k : Nat) (b : UInt8) (h : l[k]? = some b) (hb : (if k = 0 then Id.letB b else Id.nmB b) = false) : Id.isPart l = false := by
  have h1 := okB_take l k b h
  rw [hb, Bool.and_false] at h1
  cases he : Id.okB l
  · simp [Id.isPart, he]
  · rw [← List.take_append_drop (k + 1) l] at he
    rw [okB_pre _ _ he] at h1
    cases h1
theorem isPart_end (l : List UInt8) (h : Id.okB l = true) : Id.isPart l = (decide (1 ≤ l.length) && decide (l.length ≤ 40)) := by
  unfold Id.isPart
  rw [h, Bool.true_and, Bool.eq_iff_iff]
  simp
theorem nm_cls (b : UInt8) : Id.nmB b = decide (Id.cls b.toNat ≠ 0) := rfl
theorem let_cls (b : UInt8) : Id.letB b = decide (Id.cls b.toNat = 1 ∨ Id.cls b.toNat = 2) := by
  unfold Id.letB
  rw [Id.bcls]
  cases h1 : Id.smB b <;> cases h2 : Id.caB b <;> simp
  (repeat' split) <;> simp
theorem cls_high (c : Int) (h : 128 ≤ c) : Id.cls c = 0 := by
  unfold Id.cls
  (repeat' split) <;> omega
theorem nm_high (b : UInt8) (h : 128 ≤ b.toNat) (k : Nat) : (if k = 0 then Id.letB b else Id.nmB b) = false := by
  have := cls_high b.toNat (by omega)
  rw [let_cls, nm_cls, this]
  split <;> rfl
end Go.Proofs.YtaaneecceiefoaaDoor

/- A region that draws its order, whose last operations are forced: walked in the text's order. -/
namespace Go.Proofs.YtaaneecceiefoaaDoor
open Go.RowKit
theorem rg_tail {P : Program} {id : Nat} {Q : Exit → Act → World → Prop} {a : Act} {w wd : World} {l : List Oper} (n : Nat) (hm : P.follows .mixedOrders = true) (hB : Region.lexTailB .any l.toArray n = true) (hwd : wd = w.drew)
    (h : wpStill P l.toArray wd (fun a' => wpList P l.toArray Q (l.drop n) a' wd) (l.take n) a) : (Code.region id l.toArray true).wp P Q a w := by subst hwd; exact wp_region_still_tail n hm hB h
theorem rg_skip {P : Program} {ops : Array Oper} {w : World} {Q : Act → Prop} {o : Oper} {rest : List Oper} {a : Act} (h : Region.wanted o (yielded ops a.tmps) = false) (k : wpStill P ops w Q rest (a.put o.dst undef)) : wpStill P ops w Q (o :: rest) a := by
  unfold wpStill; rw [h]; exact k
end Go.Proofs.YtaaneecceiefoaaDoor

/- A region that draws its order, of two parts of reads with one operation between them: walked in the text's order. -/
namespace Go.Proofs.YtaaneecceiefoaaDoor
open Go.RowKit
set_option linter.unusedVariables false
set_option linter.unusedSimpArgs false
section
variable {P : Program} {ops : Array Oper} {md : Region.Mode}
/-- every operation behind n waits for one from n on -/
def chainG (md : Region.Mode) (ops : Array Oper) (n : Nat) : Bool :=
  (List.range ops.size).all fun t => decide (t ≤ n) || (List.range t).any fun j => decide (n ≤ j) && Region.waitsFor md ops t j
/-- the guards of the first operations look at earlier ones -/
def guardsB (ops : Array Oper) (n : Nat) : Bool :=
  (List.range (n + 1)).all fun i => match (ops[i]?).bind (·.guard) with | some (j, _) => decide (j ≤ n) | none => true
def cutOps (ops : Array Oper) (n : Nat) : Array Oper := ops.extract 0 (n + 1)
theorem cut_get {n i : Nat} (hi : i ≤ n) : (cutOps ops n)[i]? = ops[i]? := by
  unfold cutOps
  rw [Array.getElem?_extract]
  by_cases h : i < ops.size
  · rw [if_pos (by omega), Nat.zero_add]
  · rw [if_neg (by omega), Array.getElem?_eq_none (by omega)]
theorem cut_none {n i : Nat} (hi : n < i) : (cutOps ops n)[i]? = none := by
  unfold cutOps
  rw [Array.getElem?_extract, if_neg (by omega)]
/-- the two lists of what is done agree up to n, and nothing from n on is done -/
def Twin (n : Nat) (l l' : Array Bool) (ops : Array Oper) : Prop :=
  l.size = ops.size ∧ l'.size = n + 1 ∧ (∀ i, i ≤ n → l.getD i true = l'.getD i true ∧ l.getD i false = l'.getD i false) ∧ ∀ t, n ≤ t → t < ops.size → l.getD t true = false
theorem getD_false_of {l : Array Bool} {t : Nat} (h : l.getD t true = false) : l.getD t false = false := by
  rcases Nat.lt_or_ge t l.size with h' | h'
  · simp [h'] at h ⊢; exact h
  · simp [Array.getElem?_eq_none h'] at h
theorem twin_ready {n : Nat} {l l' : Array Bool} (hG : chainG md ops n = true) (tw : Twin n l l' ops) (i : Nat) : i ∈ Region.ready md ops l ↔ i ∈ Region.ready md (cutOps ops n) l' := by
  obtain ⟨h1, h2, h3, h4⟩ := tw
  have hd : ∀ j, l.getD j false = l'.getD j false := fun j => by
    rcases Nat.lt_or_ge n j with h | h
    · rw [show l'.getD j false = false by simp [Array.getElem?_eq_none (show l'.size ≤ j by omega)]]
      rcases Nat.lt_or_ge j ops.size with h' | h'
      · exact getD_false_of (h4 j (by omega) h')
      · simp [Array.getElem?_eq_none (show l.size ≤ j by omega)]
    · exact (h3 j h).2
  rw [mem_ready, mem_ready]
  rcases Nat.lt_or_ge n i with h | h
  · constructor
    · rintro ⟨g1, o, g2, g3⟩
      exfalso
      have hi : i < ops.size := (Array.getElem?_eq_some_iff.1 g2).1
      have := List.all_eq_true.1 hG i (List.mem_range.2 hi)
      simp only [Bool.or_eq_true, decide_eq_true_eq] at this
      rcases this with this | this
      · omega
      · obtain ⟨j, hj, hj2⟩ := List.any_eq_true.1 this
        simp only [Bool.and_eq_true, decide_eq_true_eq] at hj2
        obtain ⟨oj, hoj, e, he, hb, hon⟩ := Region.waitsFor_spec hj2.2
        have : oj = o := Option.some.inj (hoj.symm.trans g2)
        subst this
        have h5 := g3 e he hb
        have h6 := List.mem_range.1 hj
        rw [hon, getD_false_of (h4 j hj2.1 (by omega))] at h5
        cases h5
    · rintro ⟨_, o, g2, _⟩
      rw [cut_none h] at g2
      cases g2
  · rw [cut_get h, (h3 i h).1]
    constructor
    · rintro ⟨g1, o, g2, g3⟩
      exact ⟨g1, o, g2, fun e he hb => by rw [← hd]; exact g3 e he hb⟩
    · rintro ⟨g1, o, g2, g3⟩
      exact ⟨g1, o, g2, fun e he hb => by rw [hd]; exact g3 e he hb⟩
theorem twin_set {n i : Nat} {l l' : Array Bool} (hn : n < ops.size) (tw : Twin n l l' ops) (hi : i < n) : Twin n (l.setIfInBounds i true) (l'.setIfInBounds i true) ops := by
  obtain ⟨h1, h2, h3, h4⟩ := tw
  refine ⟨by simpa using h1, by simpa using h2, fun j hj => ?_, fun t ht ht' => ?_⟩
  · by_cases e : i = j
    · subst e
      have hs : i < l.size := by omega
      have hs' : i < l'.size := by omega
      simp [hs, hs']
    · rw [getD_set_ne true e, getD_set_ne true e, getD_set_ne false e, getD_set_ne false e]
      exact h3 j hj
  · rw [getD_set_ne true (by omega)]
    exact h4 t ht ht'
theorem cut_wanted {n i : Nat} {o : Oper} (hg : guardsB ops n = true) (hi : i ≤ n) (ho : ops[i]? = some o) (tmps : Array Value) : Region.wanted o (yielded (cutOps ops n) tmps) = Region.wanted o (yielded ops tmps) := by
  have h := List.all_eq_true.1 hg i (List.mem_range.2 (by omega))
  rw [ho] at h
  unfold Region.wanted
  cases hgd : o.guard with
  | none => rfl
  | some p =>
    obtain ⟨j, b⟩ := p
    simp only [Option.bind_some, hgd, decide_eq_true_eq] at h
    have : yielded (cutOps ops n) tmps j = yielded ops tmps j := by unfold yielded; rw [cut_get h]
    simp only [this]
theorem cut_stOp {n i : Nat} {w : World} {K K' : Act → Prop} {a : Act} (hg : guardsB ops n = true) (hi : i ≤ n) (h : ∀ a, K' a → K a) (hh : stOp P (cutOps ops n) w i K' a) : stOp P ops w i K a := by
  refine stOp_mono h ?_
  unfold stOp at *
  rw [cut_get hi] at hh
  cases ho : ops[i]? with
  | none => rw [ho] at hh; exact hh
  | some o =>
    rw [ho] at hh
    simp only [cut_wanted hg hi ho] at hh
    exact hh
theorem cut_wpAnyL {n : Nat} {w : World} {L : Array Bool → Act → Prop} (hn : n < ops.size) (hG : chainG md ops n = true) (hg : guardsB ops n = true) :
    ∀ (f : Nat) (l l' : Array Bool) (a : Act), Twin n l l' ops → HeadInv md (cutOps ops n) n l' → wpAnyL P md (cutOps ops n) w n L f l' a →
      wpAnyL P md ops w n (fun l a => ∃ l', Twin n l l' ops ∧ HeadInv md (cutOps ops n) n l' ∧ L l' a) f l a
  | 0, l, l', a, tw, inv, h => ⟨l', tw, inv, h⟩
  | f + 1, l, l', a, tw, inv, h => by
    refine ⟨fun he => h.1 ?_, fun i hi => ?_⟩
    · have : ∀ i, i ∉ Region.ready md (cutOps ops n) l' := fun i hi => by
        have := (twin_ready hG tw i).2 hi
        rw [he] at this; cases this
      exact List.eq_nil_iff_forall_not_mem.2 this
    · have hi' := (twin_ready hG tw i).1 hi
      obtain ⟨hin, hst⟩ := h.2 i hi'
      exact ⟨hin, cut_stOp hg (Nat.le_of_lt hin) (fun a' h' => cut_wpAnyL hn hG hg f _ _ a' (twin_set hn tw hin) (inv.set hi' hin) h') hst⟩
/-- the first k are done -/
def firstN (k size : Nat) : Array Bool := Array.ofFn (n := size) fun i => decide (i.1 < k)
theorem firstN_get (k size i : Nat) (d : Bool) (h : i < size) : (firstN k size).getD i d = decide (i < k) := by
  unfold firstN
  simp [h]
theorem twin_first {n : Nat} {l l' : Array Bool} (hn : n < ops.size) (hs : Region.sinkB md (cutOps ops n) n = true) (hc : Region.chainB md (cutOps ops n) n = true) (tw : Twin n l l' ops) (inv : HeadInv md (cutOps ops n) n l') (hr : Region.ready md (cutOps ops n) l' = [n]) : l = firstN n ops.size := by
  have hcs : n < (cutOps ops n).size := by unfold cutOps; simp; omega
  have hall : ∀ i, i < n → l'.getD i true = true := fun i hi => by
    cases hun : l'.getD i true with
    | true => rfl
    | false =>
      exfalso
      exact tail_waits hs hc hcs inv _ i rfl hi hun n (Nat.le_refl _) (by rw [hr]; exact List.mem_singleton.2 rfl)
  obtain ⟨h1, h2, h3, h4⟩ := tw
  refine Array.ext (by rw [h1]; unfold firstN; simp) fun i hi hi2 => ?_
  have hio : i < ops.size := by omega
  have e1 : l.getD i true = l[i] := by simp [hi]
  have e2 : (firstN n ops.size).getD i true = (firstN n ops.size)[i] := by simp [hi2]
  rw [← e1, ← e2, firstN_get _ _ _ _ hio]
  by_cases h : i < n
  · rw [(h3 i (by omega)).1, hall i h, decide_eq_true h]
  · rw [h4 i (by omega) hio, decide_eq_false h]
theorem firstN_el (k size i : Nat) (h : i < (firstN k size).size) : (firstN k size)[i] = decide (i < k) := by simp [firstN]
theorem firstN_set (n size : Nat) : (firstN n size).setIfInBounds n true = firstN (n + 1) size := by
  refine Array.ext (by simp [firstN]) fun i hi hi2 => ?_
  rw [Array.getElem_setIfInBounds (by simpa using hi), firstN_el, firstN_el]
  by_cases h : n = i
  · subst h; simp
  · rw [if_neg h, decide_eq_decide]
    omega
def closedB (md : Region.Mode) (ops : Array Oper) (listed : Array Bool) : Bool :=
  (List.range ops.size).all fun j => !listed.getD j false || match ops[j]? with | some o => o.after.all fun e => !Region.binds md e || listed.getD e.on false | none => true
/-- a region of two parts of reads and quiet calls, with operation n between them and a forced tail from m on -/
def twoB (md : Region.Mode) (ops : Array Oper) (n m : Nat) : Bool :=
  chainG md ops n && guardsB ops n && Region.lexTailB md (cutOps ops n) n && Region.noSelect ops && Region.sinkB md ops m && Region.chainB md ops m && decide (n < m) && decide (m < ops.size)
  && Region.lexHead md ops (ops.size - m) (m - (n + 1)) (n + 1) (firstN (n + 1) ops.size) && closedB md ops (firstN (n + 1) ops.size) && decide (Region.ready md ops (firstN n ops.size) = [n])
theorem region_two {id : Nat} {Q : Exit → Act → World → Prop} {a : Act} {w wd : World} {l : List Oper} (n m : Nat) (hm : P.follows .mixedOrders = true) (hB : twoB .any l.toArray n m = true) (hwd : wd = w.drew)
    (h : wpStill P (l.take (n + 1)).toArray wd (fun a' => wpOp P l.toArray Q n (fun a2 w2 => wpStill P l.toArray w2 (fun a3 => wpList P l.toArray Q (l.drop m) a3 w2) ((l.take m).drop (n + 1)) a2) a' wd) (l.take n) a) : (Code.region id l.toArray true).wp P Q a w := by
  subst hwd
  simp only [twoB, Bool.and_eq_true, decide_eq_true_eq] at hB
  obtain ⟨⟨⟨⟨⟨⟨⟨⟨⟨⟨hG, hg⟩, hlt⟩, hsel⟩, hs⟩, hc⟩, hnm⟩, hml⟩, hlex⟩, hcl⟩, hrd⟩ := hB
  have hcut : cutOps l.toArray n = (l.take (n + 1)).toArray := by
    unfold cutOps
    rw [← Array.toArray_toList (xs := l.toArray.extract 0 (n + 1))]
    simp
  have hml' : m < l.length := by simpa using hml
  simp only [Region.lexTailB, Bool.and_eq_true, decide_eq_true_eq] at hlt
  obtain ⟨⟨⟨⟨hsel1, hn1⟩, hs1⟩, hc1⟩, hlex1⟩ := hlt
  have hsz : (cutOps l.toArray n).size = n + 1 := by rw [hcut]; simp; omega
  have inv0 : HeadInv .any (cutOps l.toArray n) n (Array.replicate (cutOps l.toArray n).size false) :=
    ⟨by simp, fun j oj _ hl => (by rw [getD_replicate_false] at hl; cases hl), fun t _ ht => getD_in (by simpa using ht) (getD_replicate_false _ _)⟩
  have htl : (l.take n).length = n := by simp; omega
  rw [← hcut] at h
  have H := wpAnyL_lex (md := .any) (g := (cutOps l.toArray n).size - n) hsel1 hs1 hc1 hn1 (l.take n) 0 _ a (fun j hj => by
    have hj' : j < n := by rw [htl] at hj; exact hj
    rw [Nat.zero_add, cut_get (by omega)]
    simp [hj']) (by simpa using htl) inv0 (by rw [htl]; exact hlex1) h
  have tw0 : Twin n (Array.replicate l.toArray.size false) (Array.replicate (cutOps l.toArray n).size false) l.toArray := by
    refine ⟨by simp, by rw [hsz]; simp, fun i hi => ?_, fun t _ ht => getD_in (by simpa using ht) (getD_replicate_false _ _)⟩
    rw [getD_replicate_false, getD_replicate_false]
    have q1 : (Array.replicate l.toArray.size false).getD i true = false := getD_in (by simp; omega) (getD_replicate_false _ _)
    have q2 : (Array.replicate (cutOps l.toArray n).size false).getD i true = false := getD_in (by rw [hsz]; simp; omega) (getD_replicate_false _ _)
    exact ⟨by rw [q1, q2], rfl⟩
  have H2 := cut_wpAnyL (by simp; omega) hG hg _ _ _ a tw0 inv0 H
  refine wp_region_any hm ?_
  have key : ∀ (listed : Array Bool) (a' : Act), (∃ l', Twin n listed l' l.toArray ∧ HeadInv .any (cutOps l.toArray n) n l' ∧ (Region.seqB .any (cutOps l.toArray n) ((cutOps l.toArray n).size - n) n l' = true ∧ wpOp P l.toArray Q n (fun a2 w2 => wpStill P l.toArray w2 (fun a3 => wpList P l.toArray Q (l.drop m) a3 w2) ((l.take m).drop (n + 1)) a2) a' w.drew)) → wpAny P .any l.toArray Q ((((l.take m).drop (n + 1)).length + (l.drop m).length) + 1) listed a' w.drew := by
    rintro listed a' ⟨l', tw, inv, hseq, hop⟩
    rw [hsz, show n + 1 - n = 0 + 1 by omega] at hseq
    simp only [Region.seqB, Bool.and_eq_true, decide_eq_true_eq] at hseq
    have hl := twin_first (by simp; omega) hs1 hc1 tw inv hseq.1
    subst hl
    refine ⟨fun he => ?_, fun i hi => ?_⟩
    · rw [hrd] at he; cases he
    · rw [hrd] at hi
      have hin : i = n := by simpa using hi
      subst hin
      refine wpOp_mono (fun a2 w2 h2 => ?_) hop
      rw [firstN_set]
      have hlen : ((l.take m).drop (i + 1)).length = m - (i + 1) := by simp; omega
      have inv2 : HeadInv .any l.toArray m (firstN (i + 1) l.toArray.size) := by
        refine ⟨by unfold firstN; simp, fun j oj hj hl e he hb => ?_, fun t ht ht' => by rw [firstN_get _ _ _ _ ht']; exact decide_eq_false (by omega)⟩
        have hjs : j < l.toArray.size := (Array.getElem?_eq_some_iff.1 hj).1
        have := List.all_eq_true.1 hcl j (List.mem_range.2 hjs)
        rw [hl, hj] at this
        simp only [Bool.not_true, Bool.false_or] at this
        have := Array.all_eq_true'.1 this e he
        rw [hb] at this
        simpa using this
      have H3 := wpAnyL_lex (md := .any) (g := l.toArray.size - m) hsel hs hc hml ((l.take m).drop (i + 1)) (i + 1) _ a2 (fun j hj => by
        rw [hlen] at hj
        simp only [List.getElem?_drop, List.getElem?_toArray]
        rw [List.getElem?_take, if_pos (by omega)]) (by rw [hlen]; omega) inv2 (by rw [hlen]; exact hlex) h2
      refine wpAny_of_head (Q' := Q) (g := (l.drop m).length) (fun listed a3 hL => ?_) _ _ _ H3
      have hdl : (l.drop m).length = l.toArray.size - m := by simp
      exact wpAny_of_seq (md := .any) (Q' := Q) (l.drop m) m listed a3 w2 (fun j => by simp [List.getElem?_drop]) (by rw [hdl]; exact hL.1) hL.2
  have := wpAny_of_head (Q' := Q) key _ _ _ H2
  have hsum : (l.take n).length + ((((l.take m).drop (n + 1)).length + (l.drop m).length) + 1) = l.toArray.size := by simp; omega
  rw [hsum] at this
  exact this
end
end Go.Proofs.YtaaneecceiefoaaDoor

/- A region that draws its order, walked in an order of the prover's choice: what yields in every world that meets S is taken first, what alone may come up is carried out, and the last operations are forced. -/
namespace Go.Proofs.YtaaneecceiefoaaDoor
open Go.RowKit
set_option linter.unusedVariables false
set_option linter.unusedSimpArgs false
/-- what follows the head of a region -/
def tailPost (Q : Exit → Act → World → Prop) (T : Act → World → Prop) : Exit → Act → World → Prop
  | .normal, a, w => T a w
  | .outgrown, a, w => Q .outgrown a w
  | _, _, _ => False
def pickOps (l : List Oper) : List (Nat × Bool) → List (Nat × Bool × Oper)
  | [] => []
  | (i, b) :: r => match l[i]? with
    | some o => (i, b, o) :: pickOps l r
    | none => pickOps l r
def wpOrd (P : Program) (ops : Array Oper) (S : World → Prop) (Q : Exit → Act → World → Prop) (K : Act → World → Prop) : List (Nat × Bool × Oper) → Act → World → Prop
  | [], a, w => K a w
  | (_, true, o) :: r, a, w => ∃ v, YieldsIf P ops S o v a ∧ wpOrd P ops S Q K r (a.put o.dst v) w
  | (_, false, o) :: r, a, w => if Region.wanted o (yielded ops a.tmps) = true then Oper.wp P o a w (fun a' w' => S w' ∧ wpOrd P ops S Q K r a' w') Q else S w ∧ wpOrd P ops S Q K r (a.put o.dst undef) w
section
variable {P : Program} {ops : Array Oper} {md : Region.Mode} {S : World → Prop} {Q : Exit → Act → World → Prop} {K : Act → World → Prop} {a : Act} {w : World} {i : Nat} {o : Oper} {r : List (Nat × Bool × Oper)}
theorem ord_take {v : Value} (hw : Region.wanted o (yielded ops a.tmps) = true) (hy : ∀ W, S W → (execOp a.eval o).run P W = .ok (.value v) W) (h : wpOrd P ops S Q K r (a.put o.dst v) w) : wpOrd P ops S Q K ((i, true, o) :: r) a w := ⟨v, .inl ⟨hw, hy⟩, h⟩
theorem ord_skip (hw : Region.wanted o (yielded ops a.tmps) = false) (h : wpOrd P ops S Q K r (a.put o.dst undef) w) : wpOrd P ops S Q K ((i, true, o) :: r) a w := ⟨undef, .inr ⟨hw, rfl⟩, h⟩
theorem ord_call (h : ∀ K' : Act → World → Prop, (∀ a w, S w → wpOrd P ops S Q K r a w → K' a w) → if Region.wanted o (yielded ops a.tmps) = true then Oper.wp P o a w K' Q else K' (a.put o.dst undef) w) : wpOrd P ops S Q K ((i, false, o) :: r) a w := by
  have h1 := h (fun a' w' => S w' ∧ wpOrd P ops S Q K r a' w') (fun _ _ h1 h2 => ⟨h1, h2⟩)
  show (if _ then _ else _)
  exact h1
theorem ord_nil (h : K a w) : wpOrd P ops S Q K [] a w := h
/-- the first m operations alone -/
def cutM (ops : Array Oper) (m : Nat) : Array Oper := ops.extract 0 m
theorem cutM_get {m i : Nat} (hi : i < m) : (cutM ops m)[i]? = ops[i]? := by
  unfold cutM
  rw [Array.getElem?_extract]
  by_cases h : i < ops.size
  · rw [if_pos (by omega), Nat.zero_add]
  · rw [if_neg (by omega), Array.getElem?_eq_none (by omega)]
theorem cutM_none {m i : Nat} (hi : m ≤ i) : (cutM ops m)[i]? = none := by
  unfold cutM
  rw [Array.getElem?_extract, if_neg (by omega)]
/-- the guards of the first m look at earlier ones, and so do their edges -/
def headsB (md : Region.Mode) (ops : Array Oper) (m : Nat) : Bool :=
  (List.range m).all fun i => match ops[i]? with
    | some o => (match o.guard with | some (j, _) => decide (j < m) | none => true) && o.after.all fun e => !Region.binds md e || decide (e.on < i)
    | none => true
theorem cutM_wanted {m i : Nat} {o : Oper} (hg : headsB md ops m = true) (hi : i < m) (ho : ops[i]? = some o) (tmps : Array Value) : Region.wanted o (yielded (cutM ops m) tmps) = Region.wanted o (yielded ops tmps) := by
  have h := List.all_eq_true.1 hg i (List.mem_range.2 hi)
  rw [ho] at h
  simp only [Bool.and_eq_true] at h
  have h := h.1
  unfold Region.wanted
  cases hgd : o.guard with
  | none => rfl
  | some p =>
    obtain ⟨j, b⟩ := p
    rw [hgd] at h
    simp only [decide_eq_true_eq] at h
    have : yielded (cutM ops m) tmps j = yielded ops tmps j := by unfold yielded; rw [cutM_get h]
    simp only [this]
theorem heads_edge {m i : Nat} {o : Oper} (hg : headsB md ops m = true) (hi : i < m) (ho : ops[i]? = some o) (e : Edge) (he : e ∈ o.after) (hb : Region.binds md e = true) : e.on < i := by
  have h := List.all_eq_true.1 hg i (List.mem_range.2 hi)
  rw [ho] at h
  simp only [Bool.and_eq_true] at h
  have := Array.all_eq_true'.1 h.2 e he
  simpa [hb] using this
def TwinM (m : Nat) (l l' : Array Bool) (ops : Array Oper) : Prop :=
  l.size = ops.size ∧ l'.size = m ∧ ∀ i, i < m → l.getD i true = l'.getD i true ∧ l.getD i false = l'.getD i false
theorem twinM_ready {m : Nat} {l l' : Array Bool} (hg : headsB md ops m = true) (tw : TwinM m l l' ops) (i : Nat) (hi : i < m) : i ∈ Region.ready md ops l ↔ i ∈ Region.ready md (cutM ops m) l' := by
  obtain ⟨h1, h2, h3⟩ := tw
  rw [mem_ready, mem_ready, cutM_get hi, (h3 i hi).1]
  constructor
  · rintro ⟨g1, o, g2, g3⟩
    exact ⟨g1, o, g2, fun e he hb => by rw [← (h3 e.on (Nat.lt_trans (heads_edge hg hi g2 e he hb) hi)).2]; exact g3 e he hb⟩
  · rintro ⟨g1, o, g2, g3⟩
    exact ⟨g1, o, g2, fun e he hb => by rw [(h3 e.on (Nat.lt_trans (heads_edge hg hi g2 e he hb) hi)).2]; exact g3 e he hb⟩
theorem twinM_set {m i : Nat} {l l' : Array Bool} (hm : m < ops.size) (tw : TwinM m l l' ops) (hi : i < m) : TwinM m (l.setIfInBounds i true) (l'.setIfInBounds i true) ops := by
  obtain ⟨h1, h2, h3⟩ := tw
  refine ⟨by simpa using h1, by simpa using h2, fun j hj => ?_⟩
  by_cases e : i = j
  · subst e
    have hs : i < l.size := by omega
    have hs' : i < l'.size := by omega
    simp [hs, hs']
  · rw [getD_set_ne true e, getD_set_ne true e, getD_set_ne false e, getD_set_ne false e]
    exact h3 j hj
theorem cutM_lt {m i : Nat} {l' : Array Bool} (h : i ∈ Region.ready md (cutM ops m) l') : i < m := by
  obtain ⟨_, o, ho, _⟩ := mem_ready.1 h
  rcases Nat.lt_or_ge i m with h' | h'
  · exact h'
  · rw [cutM_none h'] at ho; cases ho
theorem all_done {m : Nat} {l' : Array Bool} (hg : headsB md ops m = true) (hm : m < ops.size) (hs : l'.size = m) (hr : Region.ready md (cutM ops m) l' = []) : ∀ i, i < m → l'.getD i true = true := by
  intro i
  induction i using Nat.strongRecOn with
  | _ i ih =>
    intro hi
    cases hun : l'.getD i true with
    | true => rfl
    | false =>
      exfalso
      have hio : i < ops.size := by omega
      have hoi : ops[i]? = some ops[i] := Array.getElem?_eq_getElem hio
      have : i ∈ Region.ready md (cutM ops m) l' := mem_ready.2 ⟨hun, ops[i], by rw [cutM_get hi]; exact hoi, fun e he hb => by
        have hlt := heads_edge hg hi hoi e he hb
        have h := ih e.on hlt (by omega)
        have hsz : e.on < l'.size := by omega
        simp [hsz] at h ⊢; exact h⟩
      rw [hr] at this
      cases this
theorem wpAny_of_seq' {Q' : Exit → Act → World → Prop} : ∀ (l : List Oper) (x k : Nat) (listed : Array Bool) (a : Act) (w : World), (∀ j, l[j]? = ops[k + j]?) →
    Region.seqB md ops l.length k listed = true → wpList P ops Q' l a w → wpAny P md ops Q' (x + l.length) listed a w
  | [], x, _, _, _, _, _, hB, h => wpAny_done (by simpa [Region.seqB] using hB) h _
  | o :: l, x, k, listed, a, w, hl, hB, h => by
    have h0 : ops[k]? = some o := by simpa using (hl 0).symm
    simp only [List.length_cons, Region.seqB, Bool.and_eq_true, decide_eq_true_eq] at hB
    refine ⟨fun h1 => (by rw [hB.1] at h1; cases h1), fun i hi => ?_⟩
    rw [hB.1] at hi
    have hik : i = k := by simpa using hi
    subst hik
    have hw : wpOp P ops Q' i (wpList P ops Q' l) a w := by unfold wpOp; simp only [h0]; exact h
    exact wpOp_mono (fun a' w' h' => wpAny_of_seq' l x (i + 1) _ a' w' (fun j => by have := hl (j + 1); simpa [Nat.add_assoc, Nat.add_comm 1 j] using this) hB.2 h') hw
theorem lets_tail {T : Act → World → Prop} (h : LetsOut (tailPost Q T)) : LetsOut Q := by
  obtain ⟨a, w, h⟩ := h
  exact ⟨a, w, h⟩
theorem wp_tail {T : Act → World → Prop} {K K' : Act → World → Prop} (h : ∀ a w, K a w → K' a w) (hh : o.wp P a w K (tailPost Q T)) : o.wp P a w K' Q := by
  unfold Oper.wp at *
  generalize (execOp a.eval o).run P w = rr at *
  cases rr with
  | ok n w' =>
    cases n <;> simp only [Oper.upon] at hh ⊢ <;>
      first
        | exact h _ _ hh
        | exact Calls.mono hh (fun e w'' he => by cases e <;> first | exact h _ _ he | exact (he : False).elim | exact lets_tail he)
        | exact Rows.mono hh (fun _ _ he => h _ _ he)
  | halt x w' => cases x <;> simp only [Oper.upon] at hh ⊢ <;> exact (hh : False).elim
theorem cutM_wpOp {m : Nat} {T : Act → World → Prop} {K K' : Act → World → Prop} (hg : headsB md ops m = true) (hi : i < m) (h : ∀ a w, K a w → K' a w) (hh : wpOp P (cutM ops m) (tailPost Q T) i K a w) : wpOp P ops Q i K' a w := by
  unfold wpOp at *
  rw [cutM_get hi] at hh
  cases ho : ops[i]? with
  | none => rw [ho] at hh; exact h _ _ hh
  | some o =>
    rw [ho] at hh
    simp only [cutM_wanted hg hi ho] at hh
    cases hwd : Region.wanted o (yielded ops a.tmps) with
    | false => rw [hwd] at hh; simp only [Bool.false_eq_true, if_false] at hh ⊢; simpa [hwd] using h _ _ hh
    | true =>
      rw [hwd] at hh
      simp only [if_true] at hh
      simp only [hwd, if_true]
      exact hh.imp (wp_tail h) (fun h => ⟨h.1, lets_tail h.2⟩)
theorem cutM_any {m : Nat} (l : List Oper) (hl : ∀ j : Nat, l[j]? = ops[m + j]?) (hg : headsB md ops m = true) (hm : m < ops.size) (hs : Region.sinkB md ops m = true) (hc : Region.chainB md ops m = true) (hseq : Region.seqB md ops l.length m (firstN m ops.size) = true) :
    ∀ (fuel : Nat) (listed listed' : Array Bool) (a : Act) (w : World), TwinM m listed listed' ops → HeadInv md ops m listed →
      wpAny P md (cutM ops m) (tailPost Q (wpList P ops Q l)) fuel listed' a w → wpAny P md ops Q (fuel + l.length) listed a w := by
  have fin : ∀ (fuel : Nat) (listed listed' : Array Bool) (a : Act) (w : World), TwinM m listed listed' ops → HeadInv md ops m listed → Region.ready md (cutM ops m) listed' = [] → wpList P ops Q l a w → wpAny P md ops Q (fuel + l.length) listed a w := by
    intro fuel listed listed' a w tw inv hr h
    have had := all_done hg hm tw.2.1 hr
    have hl1 : listed = firstN m ops.size := by
      refine Array.ext (by rw [tw.1]; unfold firstN; simp) fun i hi hi2 => ?_
      have hio : i < ops.size := by rw [← tw.1]; exact hi
      have e1 : listed.getD i true = listed[i] := by simp [hi]
      have e2 : (firstN m ops.size).getD i true = (firstN m ops.size)[i] := by simp [hi2]
      rw [← e1, ← e2, firstN_get _ _ _ _ hio]
      by_cases h : i < m
      · rw [(tw.2.2 i h).1, had i h, decide_eq_true h]
      · rw [inv.tail i (by omega) hio, decide_eq_false h]
    subst hl1
    exact wpAny_of_seq' l fuel m _ a w hl hseq h
  intro fuel
  induction fuel with
  | zero => intro listed listed' a w tw inv h; exact fin 0 listed listed' a w tw inv h.1 h.2
  | succ f ih =>
    intro listed listed' a w tw inv h
    cases hr : Region.ready md (cutM ops m) listed' with
    | nil => exact fin (f + 1) listed listed' a w tw inv hr (h.1 hr)
    | cons i0 rs =>
      have h0 : i0 ∈ Region.ready md (cutM ops m) listed' := by rw [hr]; exact List.mem_cons_self
      have hi0 : i0 < m := cutM_lt h0
      have hun0 : listed.getD i0 true = false := by rw [(tw.2.2 i0 hi0).1]; exact (mem_ready.1 h0).1
      rw [show f + 1 + l.length = (f + l.length) + 1 by omega]
      refine ⟨fun he => ?_, fun j hj => ?_⟩
      · have := (twinM_ready hg tw i0 hi0).2 h0
        rw [he] at this; cases this
      · have hjm : j < m := by
          rcases Nat.lt_or_ge j m with h' | h'
          · exact h'
          · exact absurd hj (tail_waits hs hc hm inv _ i0 rfl hi0 hun0 j h')
        have hj' := (twinM_ready hg tw j hjm).1 hj
        exact cutM_wpOp hg hjm (fun a' w' h' => ih _ _ a' w' (twinM_set hm tw hjm) (inv.set hj hjm) h') (h.2 j hj')
/-- the order serves -/
def ordB (md : Region.Mode) (ops : Array Oper) : List (Nat × Bool) → Array Bool → Bool
  | [], listed => (Region.ready md ops listed).isEmpty
  | (i, true) :: r, listed => (Region.ready md ops listed).contains i && Region.free md ops listed i && ordB md ops r (listed.setIfInBounds i true)
  | (i, false) :: r, listed => decide (Region.ready md ops listed = [i]) && ordB md ops r (listed.setIfInBounds i true)
theorem ready_get {listed : Array Bool} {j : Nat} (h : j ∈ Region.ready md ops listed) : ∃ o, ops[j]? = some o := by
  obtain ⟨_, o, ho, _⟩ := mem_ready.1 h
  exact ⟨o, ho⟩
theorem ord_sound {m : Nat} {l : List Oper} {Qt : Exit → Act → World → Prop} (hl : ∀ j : Nat, l[j]? = ops[j]?) (hsel : Region.noSelect (cutM ops m) = true) (hg : headsB md ops m = true) (hQ : ∀ c a w, ¬ Qt (.panic c) a w) (hK : ∀ a w, K a w → Qt .normal a w) :
    ∀ (ord : List (Nat × Bool)) (listed : Array Bool) (a : Act) (w : World), ordB md (cutM ops m) ord listed = true → S w → wpOrd P ops S Qt K (pickOps l ord) a w → wpAnyH P md (cutM ops m) Qt S ord.length listed a w
  | [], listed, a, w, hB, hS, h => wpAnyH_done (by simpa [ordB] using hB) (hK _ _ h) _
  | (i, true) :: r, listed, a, w, hB, hS, h => by
    simp only [ordB, Bool.and_eq_true] at hB
    obtain ⟨⟨h1, h2⟩, h3⟩ := hB
    have hmem : i ∈ Region.ready md (cutM ops m) listed := by simpa using h1
    have him := cutM_lt hmem
    obtain ⟨o, ho⟩ := ready_get hmem
    have hoo : ops[i]? = some o := by rw [← cutM_get him]; exact ho
    have hll : l[i]? = some o := (hl i).trans hoo
    simp only [pickOps, hll, wpOrd] at h
    obtain ⟨v, hy, h⟩ := h
    have hy' : YieldsIf P (cutM ops m) S o v a := by
      unfold YieldsIf at *
      rw [cutM_wanted hg him hoo]
      exact hy
    exact wpAnyH_take ho hsel h2 h1 (fun c a w hh => absurd hh (hQ _ _ _)) hy' hS (ord_sound hl hsel hg hQ hK r _ _ w h3 hS h)
  | (i, false) :: r, listed, a, w, hB, hS, h => by
    simp only [ordB, Bool.and_eq_true, decide_eq_true_eq] at hB
    obtain ⟨h1, h3⟩ := hB
    have hmem : i ∈ Region.ready md (cutM ops m) listed := by rw [h1]; exact List.mem_singleton.2 rfl
    have him := cutM_lt hmem
    obtain ⟨o, ho⟩ := ready_get hmem
    have hoo : ops[i]? = some o := by rw [← cutM_get him]; exact ho
    have hll : l[i]? = some o := (hl i).trans hoo
    simp only [pickOps, hll, wpOrd] at h
    refine wpAnyH_all h1 (by simp) fun j hj => ?_
    have hji : j = i := by simpa using hj
    subst hji
    unfold wpOp
    simp only [ho, cutM_wanted hg him hoo]
    cases hwd : Region.wanted o (yielded ops a.tmps) with
    | false =>
      rw [hwd] at h
      simp only [Bool.false_eq_true, if_false] at h ⊢
      exact ⟨h.1, ord_sound hl hsel hg hQ hK r _ _ w h3 h.1 h.2⟩
    | true =>
      rw [hwd] at h
      simp only [if_true] at h ⊢
      exact .inl (Oper.wp_mono (fun a' w' hh => ⟨hh.1, ord_sound hl hsel hg hQ hK r _ _ w' h3 hh.1 hh.2⟩) h)
/-- a region of a head that goes in the order 'ord' and a tail that is forced from m on -/
def regB (md : Region.Mode) (ops : Array Oper) (ord : List (Nat × Bool)) (m : Nat) : Bool :=
  Region.noSelect (cutM ops m) && headsB md ops m && decide (m < ops.size) && Region.sinkB md ops m && Region.chainB md ops m && Region.seqB md ops (ops.size - m) m (firstN m ops.size) && ordB md (cutM ops m) ord (Array.replicate m false) && decide (ord.length = m)
theorem region_ord {id : Nat} {w wd : World} {l : List Oper} (S : World → Prop) (ord : List (Nat × Bool)) (m : Nat) (hm : P.follows .mixedOrders = true) (hB : regB .any l.toArray ord m = true) (hwd : wd = w.drew) (hS : S wd)
    (h : wpOrd P l.toArray S (tailPost Q (wpList P l.toArray Q (l.drop m))) (fun a' w' => wpList P l.toArray Q (l.drop m) a' w') (pickOps l ord) a wd) : (Code.region id l.toArray true).wp P Q a w := by
  subst hwd
  simp only [regB, Bool.and_eq_true, decide_eq_true_eq] at hB
  obtain ⟨⟨⟨⟨⟨⟨⟨hsel, hg⟩, hml⟩, hs⟩, hc⟩, hseq⟩, hord⟩, hlen⟩ := hB
  have hml' : m < l.length := by simpa using hml
  have H := wpAny_of_held _ _ _ _ (ord_sound (md := .any) (P := P) (K := fun a' w' => wpList P l.toArray Q (l.drop m) a' w') (l := l) (ops := l.toArray) (m := m) (Qt := tailPost Q (wpList P l.toArray Q (l.drop m))) (fun j => by simp) hsel hg (fun c a w hh => hh) (fun a w hh => hh) ord _ a w.drew hord hS h)
  have tw0 : TwinM m (Array.replicate l.toArray.size false) (Array.replicate m false) l.toArray := by
    refine ⟨by simp, by simp, fun i hi => ?_⟩
    have q1 : (Array.replicate l.toArray.size false).getD i true = false := getD_in (by simp; omega) (getD_replicate_false _ _)
    have q2 : (Array.replicate m false).getD i true = false := getD_in (by simpa using hi) (getD_replicate_false _ _)
    rw [getD_replicate_false, getD_replicate_false]
    exact ⟨by rw [q1, q2], rfl⟩
  have inv0 : HeadInv .any l.toArray m (Array.replicate l.toArray.size false) :=
    ⟨by simp, fun j oj _ hl => (by rw [getD_replicate_false] at hl; cases hl), fun t _ ht => getD_in (by simpa using ht) (getD_replicate_false _ _)⟩
  have hdl : (l.drop m).length = l.toArray.size - m := by simp
  have H2 := cutM_any (md := .any) (l.drop m) (fun j => by simp [List.getElem?_drop]) hg hml hs hc (by rw [hdl]; exact hseq) _ _ _ a w.drew tw0 inv0 H
  refine wp_region_any hm ?_
  have hsum : ord.length + (l.drop m).length = l.toArray.size := by rw [hlen]; simp; omega
  rw [hsum] at H2
  exact H2
end
end Go.Proofs.YtaaneecceiefoaaDoor

/- A region that draws its order, walked along a tree of orders: held reads are taken first, the operations that change the world are branched over. -/
namespace Go.Proofs.YtaaneecceiefoaaDoor
open Go.RowKit
set_option linter.unusedVariables false
set_option linter.unusedSimpArgs false
inductive OrdT (α : Type) where
  | done
  | take (x : α) (t : OrdT α)
  | alt (x : α) (t : OrdT α) (more : OrdT α)
  | no
def OrdT.alts {α : Type} : OrdT α → List α
  | .alt x _ m => x :: m.alts
  | _ => []
def OrdT.depth {α : Type} : OrdT α → Nat
  | .take _ t => t.depth + 1
  | .alt _ t _ => t.depth + 1
  | _ => 0
def pickT (l : List Oper) : OrdT Nat → OrdT Oper
  | .done => .done
  | .take i t => .take (l.getD i default) (pickT l t)
  | .alt i t m => .alt (l.getD i default) (pickT l t) (pickT l m)
  | .no => .no
def wpTree (P : Program) (ops : Array Oper) (S : World → Prop) (Q : Exit → Act → World → Prop) (K : Act → World → Prop) : OrdT Oper → Act → World → Prop
  | .done, a, w => K a w
  | .take o r, a, w => ∃ v, YieldsIf P ops S o v a ∧ wpTree P ops S Q K r (a.put o.dst v) w
  | .alt o r m, a, w => (if Region.wanted o (yielded ops a.tmps) = true then Oper.wp P o a w (fun a' w' => S w' ∧ wpTree P ops S Q K r a' w') Q else S w ∧ wpTree P ops S Q K r (a.put o.dst undef) w) ∧ wpTree P ops S Q K m a w
  | .no, _, _ => True
section
variable {P : Program} {ops : Array Oper} {md : Region.Mode} {S : World → Prop} {Q : Exit → Act → World → Prop} {K : Act → World → Prop} {a : Act} {w : World} {o : Oper} {r m : OrdT Oper}
theorem tree_take {v : Value} (hw : Region.wanted o (yielded ops a.tmps) = true) (hy : ∀ W, S W → (execOp a.eval o).run P W = .ok (.value v) W) (h : wpTree P ops S Q K r (a.put o.dst v) w) : wpTree P ops S Q K (.take o r) a w := ⟨v, .inl ⟨hw, hy⟩, h⟩
theorem set_s {α : Type} (x : α) (l : List α) (i : Nat) (v : α) : (x :: l).set (i + 1) v = x :: l.set i v := by
  simp [List.set]
theorem set_z {α : Type} (x : α) (l : List α) (v : α) : (x :: l).set 0 v = v :: l := by
  simp [List.set]
/-! the same with the frame behind a letter: what a temporary holds is looked up along the chain of puts -/
theorem ev_eq {a : Act} {i : Nat} {v : Value} (h : i < a.tmps.size) : (a.put (some i) v).eval (.tmp i) = v := by
  simp [Act.eval, Act.put, h]
theorem ev_ne {a : Act} {i j : Nat} {v : Value} (h : i ≠ j) : (a.put (some i) v).eval (.tmp j) = a.eval (.tmp j) := by
  simp [Act.eval, Act.put, Array.getElem?_setIfInBounds_ne h]
theorem sz_put {a : Act} {i : Nat} {v : Value} : (a.put (some i) v).tmps.size = a.tmps.size := by
  simp [Act.put]
theorem tree_held {i : Tmp} {v : Value} (hd : o.dst = some i) (hw : Region.wanted o (yielded ops a.tmps) = true) (hy : ∀ ρ : Operand → Value, (∀ x, ρ x = a.eval x) → ∀ W, S W → (execOp ρ o).run P W = .ok (.value v) W) (h : wpTree P ops S Q K r (a.put (some i) v) w) : wpTree P ops S Q K (.take o r) a w :=
  ⟨v, .inl ⟨hw, hy _ (fun _ => rfl)⟩, by rw [hd]; exact h⟩
theorem tree_step {i : Tmp} {v : Value} {w' : World} (hd : o.dst = some i) (hw : Region.wanted o (yielded ops a.tmps) = true) (hy : ∀ ρ : Operand → Value, (∀ x, ρ x = a.eval x) → (execOp ρ o).run P w = .ok (.value v) w') (hS : S w') (h : wpTree P ops S Q K r (a.put (some i) v) w') (hm : wpTree P ops S Q K m a w) : wpTree P ops S Q K (.alt o r m) a w := by
  refine ⟨?_, hm⟩
  rw [if_pos hw]
  unfold Oper.wp
  rw [hy _ (fun _ => rfl), Oper.upon_value, hd]
  exact ⟨hS, h⟩
theorem tree_enter {i : Tmp} {f : FuncId} {args : Array Value} (hd : o.dst = some i) (hw : Region.wanted o (yielded ops a.tmps) = true) (hy : ∀ ρ : Operand → Value, (∀ x, ρ x = a.eval x) → (execOp ρ o).run P w = .ok (.enter f args) w) (h : Calls P f args w (fun e w' => ∃ v, e = .returned v ∧ S w' ∧ wpTree P ops S Q K r (a.put (some i) v) w')) (hm : wpTree P ops S Q K m a w) : wpTree P ops S Q K (.alt o r m) a w := by
  refine ⟨?_, hm⟩
  rw [if_pos hw]
  unfold Oper.wp
  rw [hy _ (fun _ => rfl), Oper.upon_enter, hd]
  refine h.mono fun e w' he => ?_
  obtain ⟨v, rfl, h1, h2⟩ := he
  exact ⟨h1, h2⟩
theorem list_held {l : List Oper} {i : Tmp} {v : Value} {w' : World} (hd : o.dst = some i) (hw : Region.wanted o (yielded ops a.tmps) = true) (hy : ∀ ρ : Operand → Value, (∀ x, ρ x = a.eval x) → (execOp ρ o).run P w = .ok (.value v) w') (h : wpList P ops Q l (a.put (some i) v) w') : wpList P ops Q (o :: l) a w := by
  unfold wpList
  rw [if_pos hw]
  refine .inl ?_
  unfold Oper.wp
  rw [hy _ (fun _ => rfl), Oper.upon_value, hd]
  exact h
theorem tree_no : wpTree P ops S Q K .no a w := trivial
theorem put_some (l : List Value) (d : List Deferred) (i : Tmp) (v : Value) : Act.put ⟨l.toArray, d⟩ (some i) v = ⟨(l.set i v).toArray, d⟩ := by
  simp [Act.put]
theorem tree_take2 {l l' : List Value} {d : List Deferred} {i : Tmp} {v : Value} (hd : o.dst = some i) (hw : Region.wanted o (yielded ops l.toArray) = true) (hy : ∀ W, S W → (execOp (Act.eval ⟨l.toArray, d⟩) o).run P W = .ok (.value v) W) (hl : l.set i v = l') (h : wpTree P ops S Q K r ⟨l'.toArray, d⟩ w) : wpTree P ops S Q K (.take o r) ⟨l.toArray, d⟩ w := by
  refine ⟨v, .inl ⟨hw, hy⟩, ?_⟩
  rw [hd, put_some, hl]
  exact h
theorem tree_skip (hw : Region.wanted o (yielded ops a.tmps) = false) (h : wpTree P ops S Q K r (a.put o.dst undef) w) : wpTree P ops S Q K (.take o r) a w := ⟨undef, .inr ⟨hw, rfl⟩, h⟩
theorem tree_alt (h : ∀ K' : Act → World → Prop, (∀ a w, S w → wpTree P ops S Q K r a w → K' a w) → if Region.wanted o (yielded ops a.tmps) = true then Oper.wp P o a w K' Q else K' (a.put o.dst undef) w) (hm : wpTree P ops S Q K m a w) : wpTree P ops S Q K (.alt o r m) a w := by
  have h1 := h (fun a' w' => S w' ∧ wpTree P ops S Q K r a' w') (fun _ _ h1 h2 => ⟨h1, h2⟩)
  exact ⟨h1, hm⟩
theorem tree_one (h : ∀ K' : Act → World → Prop, (∀ a w, S w → wpTree P ops S Q K r a w → K' a w) → if Region.wanted o (yielded ops a.tmps) = true then Oper.wp P o a w K' Q else K' (a.put o.dst undef) w) : wpTree P ops S Q K (.alt o r .no) a w := tree_alt h trivial
theorem tree_done (h : K a w) : wpTree P ops S Q K .done a w := h
/-- the tree serves; 'first': the alternatives from here on are all that may come up -/
def treeB (md : Region.Mode) (ops : Array Oper) : OrdT Nat → Bool → Nat → Array Bool → Bool
  | .done, _, n, listed => (Region.ready md ops listed).isEmpty && decide (n = 0)
  | .take i t, _, n, listed => (Region.ready md ops listed).contains i && Region.free md ops listed i && decide (0 < n) && treeB md ops t true (n - 1) (listed.setIfInBounds i true)
  | .alt i t m, first, n, listed => (!first || decide (Region.ready md ops listed = i :: m.alts)) && decide (0 < n) && treeB md ops t true (n - 1) (listed.setIfInBounds i true) && treeB md ops m false n listed
  | .no, first, _, _ => !first
theorem getD_of {l : List Oper} {i : Nat} {o : Oper} (h : l[i]? = some o) : l.getD i default = o := by
  rw [List.getD_eq_getElem?_getD, h]; rfl
/-- all alternatives from here on -/
theorem tree_sound {mm : Nat} {l : List Oper} {Qt : Exit → Act → World → Prop} (hl : ∀ j : Nat, l[j]? = ops[j]?) (hsel : Region.noSelect (cutM ops mm) = true) (hg : headsB md ops mm = true) (hQ : ∀ c a w, ¬ Qt (.panic c) a w) (hK : ∀ a w, K a w → Qt .normal a w) :
    ∀ (t : OrdT Nat) (n : Nat) (listed : Array Bool) (a : Act) (w : World), S w → wpTree P ops S Qt K (pickT l t) a w →
      (treeB md (cutM ops mm) t true n listed = true → wpAnyH P md (cutM ops mm) Qt S n listed a w) ∧
      (∀ n', n = n' + 1 → treeB md (cutM ops mm) t false n listed = true → ∀ i ∈ t.alts, i ∈ Region.ready md (cutM ops mm) listed → wpOp P (cutM ops mm) Qt i (fun a' w' => S w' ∧ wpAnyH P md (cutM ops mm) Qt S n' (listed.setIfInBounds i true) a' w') a w)
  | .done, n, listed, a, w, hS, h => ⟨fun hB => by
      simp only [treeB, Bool.and_eq_true, decide_eq_true_eq, List.isEmpty_iff] at hB
      exact wpAnyH_done hB.1 (hK _ _ h) _, fun _ _ _ i hi => by cases hi⟩
  | .no, n, listed, a, w, hS, h => ⟨fun hB => by simp [treeB] at hB, fun _ _ _ i hi => by cases hi⟩
  | .take i t, n, listed, a, w, hS, h => by
    refine ⟨fun hB => ?_, fun _ _ _ i hi => by cases hi⟩
    simp only [treeB, Bool.and_eq_true, decide_eq_true_eq] at hB
    obtain ⟨⟨⟨h1, h2⟩, hn⟩, h3⟩ := hB
    obtain ⟨n, rfl⟩ : ∃ n', n = n' + 1 := ⟨n - 1, by omega⟩
    have hmem : i ∈ Region.ready md (cutM ops mm) listed := by simpa using h1
    have him := cutM_lt hmem
    obtain ⟨o, ho⟩ := ready_get hmem
    have hoo : ops[i]? = some o := by rw [← cutM_get him]; exact ho
    have hll := getD_of ((hl i).trans hoo)
    simp only [pickT, hll, wpTree] at h
    obtain ⟨v, hy, h⟩ := h
    have hy' : YieldsIf P (cutM ops mm) S o v a := by
      unfold YieldsIf at *
      rw [cutM_wanted hg him hoo]
      exact hy
    exact wpAnyH_take ho hsel h2 h1 (fun c a w hh => absurd hh (hQ _ _ _)) hy' hS ((tree_sound hl hsel hg hQ hK t n _ _ w hS h).1 h3)
  | .alt i t m, n, listed, a, w, hS, h => by
    simp only [pickT, wpTree] at h
    obtain ⟨ha, hmr⟩ := h
    have key : ∀ n', n = n' + 1 → treeB md (cutM ops mm) t true n' (listed.setIfInBounds i true) = true → i ∈ Region.ready md (cutM ops mm) listed → wpOp P (cutM ops mm) Qt i (fun a' w' => S w' ∧ wpAnyH P md (cutM ops mm) Qt S n' (listed.setIfInBounds i true) a' w') a w := by
      intro n' hn hB hmem
      have him := cutM_lt hmem
      obtain ⟨o, ho⟩ := ready_get hmem
      have hoo : ops[i]? = some o := by rw [← cutM_get him]; exact ho
      have hll := getD_of ((hl i).trans hoo)
      rw [hll] at ha
      unfold wpOp
      simp only [ho, cutM_wanted hg him hoo]
      cases hwd : Region.wanted o (yielded ops a.tmps) with
      | false =>
        rw [hwd] at ha
        simp only [Bool.false_eq_true, if_false] at ha ⊢
        exact ⟨ha.1, (tree_sound hl hsel hg hQ hK t n' _ _ w ha.1 ha.2).1 hB⟩
      | true =>
        rw [hwd] at ha
        simp only [if_true] at ha ⊢
        exact .inl (Oper.wp_mono (fun a' w' hh => ⟨hh.1, (tree_sound hl hsel hg hQ hK t n' _ _ w' hh.1 hh.2).1 hB⟩) ha)
    have more := fun n' hn hB => (tree_sound hl hsel hg hQ hK m n listed a w hS hmr).2 n' hn hB
    refine ⟨fun hB => ?_, fun n' hn hB j hj hjr => ?_⟩
    · simp only [treeB, Bool.and_eq_true, decide_eq_true_eq, Bool.not_true, Bool.false_or] at hB
      obtain ⟨⟨⟨hr, hn⟩, h3⟩, h4⟩ := hB
      obtain ⟨n, rfl⟩ : ∃ n', n = n' + 1 := ⟨n - 1, by omega⟩
      refine wpAnyH_all hr (by simp) fun j hj => ?_
      have hjr : j ∈ Region.ready md (cutM ops mm) listed := by rw [hr]; exact hj
      rcases List.mem_cons.1 hj with rfl | hj'
      · exact key n rfl h3 hjr
      · exact more n rfl h4 j hj' hjr
    · simp only [treeB, Bool.and_eq_true, decide_eq_true_eq, Bool.not_false, Bool.true_or, true_and] at hB
      obtain ⟨⟨hn0, h3⟩, h4⟩ := hB
      subst hn
      rcases List.mem_cons.1 hj with rfl | hj'
      · exact key n' rfl h3 hjr
      · exact more n' rfl h4 j hj' hjr
/-- a region of a head that goes along a tree and a tail that is forced from m on -/
def regTB (md : Region.Mode) (ops : Array Oper) (t : OrdT Nat) (m : Nat) : Bool :=
  Region.noSelect (cutM ops m) && headsB md ops m && decide (m < ops.size) && Region.sinkB md ops m && Region.chainB md ops m && Region.seqB md ops (ops.size - m) m (firstN m ops.size) && treeB md (cutM ops m) t true m (Array.replicate m false)
theorem region_tree {id : Nat} {w wd : World} {l : List Oper} (S : World → Prop) (t : OrdT Nat) (m : Nat) (hm : P.follows .mixedOrders = true) (hB : regTB .any l.toArray t m = true) (hwd : wd = w.drew) (hS : S wd)
    (h : wpTree P l.toArray S (tailPost Q (wpList P l.toArray Q (l.drop m))) (fun a' w' => wpList P l.toArray Q (l.drop m) a' w') (pickT l t) a wd) : (Code.region id l.toArray true).wp P Q a w := by
  subst hwd
  simp only [regTB, Bool.and_eq_true, decide_eq_true_eq] at hB
  obtain ⟨⟨⟨⟨⟨⟨hsel, hg⟩, hml⟩, hs⟩, hc⟩, hseq⟩, hord⟩ := hB
  have hml' : m < l.length := by simpa using hml
  have H := wpAny_of_held _ _ _ _ ((tree_sound (md := .any) (P := P) (K := fun a' w' => wpList P l.toArray Q (l.drop m) a' w') (l := l) (ops := l.toArray) (mm := m) (Qt := tailPost Q (wpList P l.toArray Q (l.drop m))) (fun j => by simp) hsel hg (fun c a w hh => hh) (fun a w hh => hh) t m _ a w.drew hS h).1 hord)
  have tw0 : TwinM m (Array.replicate l.toArray.size false) (Array.replicate m false) l.toArray := by
    refine ⟨by simp, by simp, fun i hi => ?_⟩
    have q1 : (Array.replicate l.toArray.size false).getD i true = false := getD_in (by simp; omega) (getD_replicate_false _ _)
    have q2 : (Array.replicate m false).getD i true = false := getD_in (by simpa using hi) (getD_replicate_false _ _)
    rw [getD_replicate_false, getD_replicate_false]
    exact ⟨by rw [q1, q2], rfl⟩
  have inv0 : HeadInv .any l.toArray m (Array.replicate l.toArray.size false) :=
    ⟨by simp, fun j oj _ hl => (by rw [getD_replicate_false] at hl; cases hl), fun t _ ht => getD_in (by simpa using ht) (getD_replicate_false _ _)⟩
  have hdl : (l.drop m).length = l.toArray.size - m := by simp
  have H2 := cutM_any (md := .any) (l.drop m) (fun j => by simp [List.getElem?_drop]) hg hml hs hc (by rw [hdl]; exact hseq) _ _ _ a w.drew tw0 inv0 H
  refine wp_region_any hm ?_
  have hsum : m + (l.drop m).length = l.toArray.size := by simp; omega
  rw [hsum] at H2
  exact H2
theorem region_treeA {id : Nat} {w wd : World} {l : List Oper} (S : World → Prop) (t : OrdT Nat) (m : Nat) (hm : P.follows .mixedOrders = true) (hB : regTB .any l.toArray t m = true) (hwd : wd = w.drew) (hS : S wd)
    (h : ∀ a', a' = a → wpTree P l.toArray S (tailPost Q (wpList P l.toArray Q (l.drop m))) (fun a' w' => wpList P l.toArray Q (l.drop m) a' w') (pickT l t) a' wd) : (Code.region id l.toArray true).wp P Q a w := region_tree S t m hm hB hwd hS (h a rfl)
theorem execOp_call_rho {ρ : Operand → Value} {dst : Option Tmp} {f : FuncId} {xs : Array Operand} {ats : Array TypeId} {ty : TypeId} {pos : String} {after : Array Edge} {guard : Option (Nat × Bool)} (h : ρ (.func f) = .func (.func f) #[] #[]) :
    execOp ρ { dst := dst, op := .call { callee := .value (.func f), args := xs, argTypes := ats }, type := ty, pos := pos, after := after, guard := guard } = callFunc f (#[] ++ xs.map ρ ++ #[]) := by
  unfold execOp resolve
  simp only [h]
  rfl
theorem sub_i64 {ρ : Operand → Value} {dst : Option Tmp} {pos : String} {after : Array Edge} {guard : Option (Nat × Bool)} {x y : Operand} {a b z : Int} {w : World} (hx : ρ x = .int .i64 a) (hy : ρ y = .int .i64 b) (hz : IntKind.i64.wrap (a - b) = z) :
    (execOp ρ { dst := dst, op := .binOp .sub 3 x y 3, type := 3, pos := pos, after := after, guard := guard }).run Tryd.prog w = .ok (.value (.int .i64 z)) w := by
  subst hz
  go_simp
theorem add_i64 {ρ : Operand → Value} {dst : Option Tmp} {pos : String} {after : Array Edge} {guard : Option (Nat × Bool)} {x y : Operand} {a b z : Int} {w : World} (hx : ρ x = .int .i64 a) (hy : ρ y = .int .i64 b) (hz : IntKind.i64.wrap (a + b) = z) :
    (execOp ρ { dst := dst, op := .binOp .add 3 x y 3, type := 3, pos := pos, after := after, guard := guard }).run Tryd.prog w = .ok (.value (.int .i64 z)) w := by
  subst hz
  go_simp
end
theorem rho_cf {a : Act} {ρ : Operand → Value} (h : ∀ x, ρ x = a.eval x) : (∀ c, ρ (.const c) = c) ∧ ∀ f, ρ (.func f) = .func (.func f) #[] #[] := ⟨fun c => h (.const c), fun f => h (.func f)⟩
end Go.Proofs.YtaaneecceiefoaaDoor

/- Regions that draw their order, walked along a tree of orders: operations under a guard. -/
namespace Go.Proofs.YtaaneecceiefoaaDoor
open Go.RowKit
set_option linter.unusedVariables false
set_option linter.unusedSimpArgs false
section
variable {P : Program} {ops : Array Oper} {S : World → Prop} {Q : Exit → Act → World → Prop} {K : Act → World → Prop} {a : Act} {w : World} {o : Oper} {r m : OrdT Oper}
theorem wanted_of {j : Nat} {b c : Bool} {t : Tmp} (hg : o.guard = some (j, b)) (hj : (ops[j]?).bind (·.dst) = some t) (hv : a.eval (.tmp t) = .bool c) : Region.wanted o (yielded ops a.tmps) = (c == b) := by
  have h : a.tmps[t]? = some (.bool c) := by
    simp only [Act.eval] at hv
    rw [Array.getD_eq_getD_getElem?] at hv
    cases h : a.tmps[t]? with
    | none => rw [h] at hv; simp [undef] at hv
    | some x => rw [h] at hv; simpa using hv
  unfold Region.wanted yielded
  rw [hg]
  simp only [hj, Option.bind_some, h]
  cases c <;> cases b <;> rfl
theorem wanted_undef {j : Nat} {b : Bool} {t : Tmp} (hg : o.guard = some (j, b)) (hj : (ops[j]?).bind (·.dst) = some t) (hv : a.eval (.tmp t) = undef) : Region.wanted o (yielded ops a.tmps) = false := by
  have h : a.tmps[t]? = none ∨ a.tmps[t]? = some undef := by
    simp only [Act.eval] at hv
    rw [Array.getD_eq_getD_getElem?] at hv
    cases h : a.tmps[t]? with
    | none => exact .inl rfl
    | some x => rw [h] at hv; right; simpa using hv
  unfold Region.wanted yielded
  rw [hg]
  simp only [hj, Option.bind_some]
  rcases h with h | h <;> rw [h] <;> rfl
theorem tree_held_g {i : Tmp} {v : Value} {j : Nat} {b : Bool} {t : Tmp} (hd : o.dst = some i) (hg : o.guard = some (j, b)) (hj : (ops[j]?).bind (·.dst) = some t) (hv : a.eval (.tmp t) = .bool b) (hy : ∀ ρ : Operand → Value, (∀ x, ρ x = a.eval x) → ∀ W, S W → (execOp ρ o).run P W = .ok (.value v) W) (h : wpTree P ops S Q K r (a.put (some i) v) w) : wpTree P ops S Q K (.take o r) a w :=
  tree_held hd (by rw [wanted_of hg hj hv]; simp) hy h
theorem tree_skip_g {i : Tmp} {j : Nat} {b c : Bool} {t : Tmp} (hd : o.dst = some i) (hg : o.guard = some (j, b)) (hj : (ops[j]?).bind (·.dst) = some t) (hv : a.eval (.tmp t) = .bool c) (hc : (c == b) = false) (h : wpTree P ops S Q K r (a.put (some i) undef) w) : wpTree P ops S Q K (.take o r) a w :=
  tree_skip (by rw [wanted_of hg hj hv]; exact hc) (by rw [hd]; exact h)
theorem tree_skip_u {i : Tmp} {j : Nat} {b : Bool} {t : Tmp} (hd : o.dst = some i) (hg : o.guard = some (j, b)) (hj : (ops[j]?).bind (·.dst) = some t) (hv : a.eval (.tmp t) = undef) (h : wpTree P ops S Q K r (a.put (some i) undef) w) : wpTree P ops S Q K (.take o r) a w :=
  tree_skip (wanted_undef hg hj hv) (by rw [hd]; exact h)
theorem tree_enter_g {i : Tmp} {f : FuncId} {args : Array Value} {j : Nat} {b : Bool} {t : Tmp} (hd : o.dst = some i) (hg : o.guard = some (j, b)) (hj : (ops[j]?).bind (·.dst) = some t) (hv : a.eval (.tmp t) = .bool b) (hy : ∀ ρ : Operand → Value, (∀ x, ρ x = a.eval x) → (execOp ρ o).run P w = .ok (.enter f args) w) (h : Calls P f args w (fun e w' => ∃ v, e = .returned v ∧ S w' ∧ wpTree P ops S Q K r (a.put (some i) v) w')) (hm : wpTree P ops S Q K m a w) : wpTree P ops S Q K (.alt o r m) a w :=
  tree_enter hd (by rw [wanted_of hg hj hv]; simp) hy h hm
theorem tree_step_g {i : Tmp} {v : Value} {w' : World} {j : Nat} {b : Bool} {t : Tmp} (hd : o.dst = some i) (hg : o.guard = some (j, b)) (hj : (ops[j]?).bind (·.dst) = some t) (hv : a.eval (.tmp t) = .bool b) (hy : ∀ ρ : Operand → Value, (∀ x, ρ x = a.eval x) → (execOp ρ o).run P w = .ok (.value v) w') (hS : S w') (h : wpTree P ops S Q K r (a.put (some i) v) w') (hm : wpTree P ops S Q K m a w) : wpTree P ops S Q K (.alt o r m) a w :=
  tree_step hd (by rw [wanted_of hg hj hv]; simp) hy hS h hm
theorem tree_off {i : Tmp} (hd : o.dst = some i) (hw : Region.wanted o (yielded ops a.tmps) = false) (hS : S w) (h : wpTree P ops S Q K r (a.put (some i) undef) w) (hm : wpTree P ops S Q K m a w) : wpTree P ops S Q K (.alt o r m) a w := by
  refine ⟨?_, hm⟩
  rw [hw, hd]
  exact ⟨hS, h⟩
theorem tree_off_g {i : Tmp} {j : Nat} {b c : Bool} {t : Tmp} (hd : o.dst = some i) (hg : o.guard = some (j, b)) (hj : (ops[j]?).bind (·.dst) = some t) (hv : a.eval (.tmp t) = .bool c) (hc : (c == b) = false) (hS : S w) (h : wpTree P ops S Q K r (a.put (some i) undef) w) (hm : wpTree P ops S Q K m a w) : wpTree P ops S Q K (.alt o r m) a w :=
  tree_off hd (by rw [wanted_of hg hj hv]; exact hc) hS h hm
theorem tree_off_u {i : Tmp} {j : Nat} {b : Bool} {t : Tmp} (hd : o.dst = some i) (hg : o.guard = some (j, b)) (hj : (ops[j]?).bind (·.dst) = some t) (hv : a.eval (.tmp t) = undef) (hS : S w) (h : wpTree P ops S Q K r (a.put (some i) undef) w) (hm : wpTree P ops S Q K m a w) : wpTree P ops S Q K (.alt o r m) a w :=
  tree_off hd (wanted_undef hg hj hv) hS h hm
theorem list_held_g {l : List Oper} {i : Tmp} {v : Value} {w' : World} {j : Nat} {b : Bool} {t : Tmp} (hd : o.dst = some i) (hg : o.guard = some (j, b)) (hj : (ops[j]?).bind (·.dst) = some t) (hv : a.eval (.tmp t) = .bool b) (hy : ∀ ρ : Operand → Value, (∀ x, ρ x = a.eval x) → (execOp ρ o).run P w = .ok (.value v) w') (h : wpList P ops Q l (a.put (some i) v) w') : wpList P ops Q (o :: l) a w :=
  list_held hd (by rw [wanted_of hg hj hv]; simp) hy h
theorem list_off {l : List Oper} {i : Tmp} (hd : o.dst = some i) (hw : Region.wanted o (yielded ops a.tmps) = false) (h : wpList P ops Q l (a.put (some i) undef) w) : wpList P ops Q (o :: l) a w := by
  unfold wpList
  rw [if_neg (by rw [hw]; simp), hd]
  exact h
theorem list_off_g {l : List Oper} {i : Tmp} {j : Nat} {b c : Bool} {t : Tmp} (hd : o.dst = some i) (hg : o.guard = some (j, b)) (hj : (ops[j]?).bind (·.dst) = some t) (hv : a.eval (.tmp t) = .bool c) (hc : (c == b) = false) (h : wpList P ops Q l (a.put (some i) undef) w) : wpList P ops Q (o :: l) a w :=
  list_off hd (by rw [wanted_of hg hj hv]; exact hc) h
theorem list_off_u {l : List Oper} {i : Tmp} {j : Nat} {b : Bool} {t : Tmp} (hd : o.dst = some i) (hg : o.guard = some (j, b)) (hj : (ops[j]?).bind (·.dst) = some t) (hv : a.eval (.tmp t) = undef) (h : wpList P ops Q l (a.put (some i) undef) w) : wpList P ops Q (o :: l) a w :=
  list_off hd (wanted_undef hg hj hv) h
theorem tree_from {t : OrdT Oper} (h : ∀ a', a' = a → wpTree P ops S Q K t a' w) : wpTree P ops S Q K t a w := h a rfl
theorem list_from {l : List Oper} (h : ∀ a', a' = a → wpList P ops Q l a' w) : wpList P ops Q l a w := h a rfl
/-! a region in the text's order, the frame behind a letter -/
theorem region_lin {id : Nat} {l : List Oper} (h : ∀ a', a' = a → wpList P l.toArray Q l a' w) : (Code.region id l.toArray false).wp P Q a w := wp_region_lit (h a rfl)
theorem list_enter {l : List Oper} {i : Tmp} {f : FuncId} {args : Array Value} (hd : o.dst = some i) (hw : Region.wanted o (yielded ops a.tmps) = true) (hy : ∀ ρ : Operand → Value, (∀ x, ρ x = a.eval x) → (execOp ρ o).run P w = .ok (.enter f args) w) (h : Calls P f args w (fun e w' => ∃ v, e = .returned v ∧ wpList P ops Q l (a.put (some i) v) w')) : wpList P ops Q (o :: l) a w := by
  unfold wpList
  rw [if_pos hw]
  refine .inl ?_
  unfold Oper.wp
  rw [hy _ (fun _ => rfl), Oper.upon_enter, hd]
  refine h.mono fun e w' he => ?_
  obtain ⟨v, rfl, h1⟩ := he
  exact h1
theorem list_enter_g {l : List Oper} {i : Tmp} {f : FuncId} {args : Array Value} {j : Nat} {b : Bool} {t : Tmp} (hd : o.dst = some i) (hg : o.guard = some (j, b)) (hj : (ops[j]?).bind (·.dst) = some t) (hv : a.eval (.tmp t) = .bool b) (hy : ∀ ρ : Operand → Value, (∀ x, ρ x = a.eval x) → (execOp ρ o).run P w = .ok (.enter f args) w) (h : Calls P f args w (fun e w' => ∃ v, e = .returned v ∧ wpList P ops Q l (a.put (some i) v) w')) : wpList P ops Q (o :: l) a w :=
  list_enter hd (by rw [wanted_of hg hj hv]; simp) hy h
end
end Go.Proofs.YtaaneecceiefoaaDoor

/- Small words for the walks over masks (the seat that lacks layer 12's texts). Printed by pick.py. -/
namespace Go.Proofs.YtaaneecceiefoaaDoor
open Go.RowKit Ck
set_option linter.unusedVariables false
set_option linter.unusedSimpArgs false

theorem _root_.Go.RowKit.Below.bal {w a : World} (h : Below w.heap.size w a) (o : Obj) : Below w.heap.size w (a.alloc o) := h.alloc h.size o
theorem _root_.Go.RowKit.Below.link {w a b : World} (k : Below a.heap.size a b) (h : Below w.heap.size w a) : Below w.heap.size w b := h.trans (k.mono h.size)
theorem bcell {W w1 : World} (hb : Below W.heap.size W w1) : (∀ b o, b < W.heap.size → w1.cell? ⟨b, o, none⟩ = W.cell? ⟨b, o, none⟩) ∧ (∀ b o, b < W.heap.size → w1.frozen? ⟨b, o, none⟩ = W.frozen? ⟨b, o, none⟩) :=
  ⟨fun b o h => hb.cell (p := ⟨b, o, none⟩) h, fun b o h => hb.frozen (p := ⟨b, o, none⟩) h⟩

theorem bytesLess_lt : ∀ a b : List UInt8, Op.bytesLess a b = decide (a < b)
  | [], [] => by simp [Op.bytesLess]
  | [], b :: l => by simp [Op.bytesLess]
  | a :: l, [] => by simp [Op.bytesLess]
  | a :: l, b :: m => by
    have ih := bytesLess_lt l m
    unfold Op.bytesLess
    simp only [List.cons_lt_cons_iff, ih]
    by_cases h1 : a < b
    · simp [h1]
    · by_cases h2 : a = b
      · subst h2; simp [h1]
      · simp [h1, h2]
theorem less_S (a b : Str) : Op.bytesLess (S a).toList (S b).toList = ltS a b := by
  rw [ByteArray.toList_eq, ByteArray.toList_eq]
  exact bytesLess_lt a b
theorem eq_S (a b : Str) : ((S a).toList == (S b).toList) = decide (a = b) := by
  rw [ByteArray.toList_eq, ByteArray.toList_eq, S_list, S_list, Bool.eq_iff_iff]
  simp
theorem empty_S (a : Str) (h : a = []) : (S a).toList = [] := by subst h; rw [ByteArray.toList_eq]; rfl
theorem nonempty_S (a : Str) (h : a ≠ []) : (S a).toList ≠ [] := by rw [ByteArray.toList_eq]; exact h
theorem nonempty_S' (a : Str) (h : a ≠ []) : (S a).toList.isEmpty = false := by rw [ByteArray.toList_eq, S_list]; simpa using h
theorem bel_set {w a : World} {b o : Nat} {v : Value} (h : Bel w a) (hb : w.heap.size ≤ b) : Bel w (a.setCell ⟨b, o, none⟩ v) := Below.setCell h hb v

theorem VMsg.len (w : World) (vs : List Value) (x : PMsg) (h : VMsg w vs x) : vs.length = 5 := by
  obtain ⟨_, _, _, _, rfl, _⟩ := h; rfl
theorem VField.len (w : World) (vs : List Value) (x : PField) (h : VField w vs x) : vs.length = 16 := by
  obtain ⟨_, _, rfl, ⟨_, _, _, _, _, _, _, _, rfl, _⟩, _⟩ := h; rfl
theorem sl_form {α : Type} {C : Nat} {E : World → Nat → Nat → α → Prop} {w : World} {v : Value} {xs : List α} (h : Sl C E w v xs) : ∃ (q : Option Addr) (c : Nat), v = .slice q xs.length c ∧ xs.length ≤ 140737488355328 := by
  obtain ⟨q, c, h1, h2, _⟩ := h
  exact ⟨q, c, h1, h2⟩
/-- what a search for a definition leaves: its cells, or zero's -/
def FoundPost {α : Type} (V : World → List Value → α → Prop) (zero : List Value) (r : Option α) (w : World) (e : Ending) (w' : World) : Prop :=
  ∃ vs, e = .returned (.tuple #[.agg vs.toArray, .bool r.isSome]) ∧ (match r with | some x => V w vs x | none => vs = zero) ∧ Below w.heap.size w w'
def zMsg : List Value := [.string ByteArray.empty, .slice none 0 0, .slice none 0 0, .slice none 0 0, .slice none 0 0]
theorem block_of_below {w a : World} {g : Nat} {o : Obj} (hb : Below a.heap.size a w) (h : a.heap[g]? = some o) : w.heap[g]? = some o := by
  have hlt : g < a.heap.size := (Array.getElem?_eq_some_iff.1 h).1
  rw [hb.block g hlt]; exact h
theorem set5 {w1 : World} {g : Nat} {t : TypeId} {c0 c1 c2 c3 c4 : Value} (hg : w1.heap[g]? = some (.cells #[c0, c1, c2, c3, c4] t (0, 0))) (v0 v1 v2 v3 v4 : Value) :
    (((((w1.setCell ⟨g, 0, none⟩ v0).setCell ⟨g, 1, none⟩ v1).setCell ⟨g, 2, none⟩ v2).setCell ⟨g, 3, none⟩ v3).setCell ⟨g, 4, none⟩ v4).heap[g]? = some (.cells #[v0, v1, v2, v3, v4] t (0, 0)) := by
  have h0 := heap_setCell_same w1 g 0 _ t v0 hg
  rw [show (#[c0, c1, c2, c3, c4] : Array Value).setIfInBounds 0 v0 = #[v0, c1, c2, c3, c4] from rfl] at h0
  have h1 := heap_setCell_same _ g 1 _ t v1 h0
  rw [show (#[v0, c1, c2, c3, c4] : Array Value).setIfInBounds 1 v1 = #[v0, v1, c2, c3, c4] from rfl] at h1
  have h2 := heap_setCell_same _ g 2 _ t v2 h1
  rw [show (#[v0, v1, c2, c3, c4] : Array Value).setIfInBounds 2 v2 = #[v0, v1, v2, c3, c4] from rfl] at h2
  have h3 := heap_setCell_same _ g 3 _ t v3 h2
  rw [show (#[v0, v1, v2, c3, c4] : Array Value).setIfInBounds 3 v3 = #[v0, v1, v2, v3, c4] from rfl] at h3
  exact heap_setCell_same _ g 4 _ t v4 h3
theorem res_row {P : Program} {fn : Func} {p u : Tmp} {ty : TypeId} (h : fn.results = #[.cell p ty, .tmp u]) {tmps : Array Value} {w : World} {g : Nat} {t : TypeId} {cs : Array Value} {d : TypeDesc} {y : Value}
    (hp : tmps.getD p undef = .pointer (some ⟨g, 0, none⟩)) (hy : tmps.getD u undef = y) (hg : w.heap[g]? = some (.cells cs t (0, 0)))
    (hu : P.underlying ty = some d) (hd : (match d with | .struct _ | .array _ _ => true | _ => false) = true) (hi : (P.info? ty).map (·.size) = some cs.size) :
    (results fn tmps).run P w = .ok (.tuple #[.agg cs, y]) w := by
  rw [results_cell_tmp h, hp, hy]
  simp [asAddr, run_loadVar_row w g t ty cs (0, 0) d hg hu hd hi]
theorem row_bel {w w' : World} {B : Nat} {e : TypeId} {size : Nat} {v : Value} {n : Nat} {xs : List Value} (h : w.ownsRow B e size v n xs) (k : Bel w w') : w'.ownsRow B e size v n xs := by
  refine ⟨h.1, ?_⟩
  rcases h.2 with hn | ⟨g, cap, cur, rfl, hb, hgg, rest⟩
  · exact .inl hn
  · exact .inr ⟨g, cap, cur, rfl, hb, (Below.block k g (Array.getElem?_eq_some_iff.1 hgg).1).trans hgg, rest⟩
theorem own_lower {w : World} {B C : Nat} {e : TypeId} {z : Nat} {v : Value} {n : Nat} {xs : List Value} (h : w.ownsRow C e z v n xs) (hb : B ≤ C) : w.ownsRow B e z v n xs := by
  refine ⟨h.1, ?_⟩
  rcases h.2 with hn | ⟨g, cap, cur, h1, h2, rest⟩
  · exact .inl hn
  · exact .inr ⟨g, cap, cur, h1, Nat.le_trans hb h2, rest⟩
theorem grown_setCell (w : World) (b i : Nat) (v : Value) : w.grownBy (w.setCell ⟨b, i, none⟩ v) (some b) :=
  ⟨rfl, rfl, rfl, by simp [World.setCell], fun k _ hk => Below.heap_setCell _ _ _ _ (fun e => hk (by rw [e]))⟩
theorem own_form {w : World} {B : Nat} {e : TypeId} {z : Nat} {v : Value} {n : Nat} {xs : List Value} (h : w.ownsRow B e z v n xs) : ∃ (q : Option Addr) (c : Nat), v = .slice q n c := by
  rcases h.2 with ⟨h1, h2⟩ | ⟨g, cap, cur, h1, _⟩
  · exact ⟨none, 0, by rw [h1, h2]⟩
  · exact ⟨_, cap, h1⟩
theorem one_new (w : World) (vs : List Value) (t : TypeId) : ∀ (j : Nat) (u : Value), vs[j]? = some u → (w.alloc (.cells vs.toArray t)).cell? ((⟨w.heap.size, 0, none⟩ : Addr).add j) = some u := by
  intro j u h
  rw [Addr.add_lit, Nat.zero_add, World.cell?_alloc_at _ _ _ _ rfl]
  simpa using h
theorem fr_own {N M : Nat} {v0 : Value} {g2 n cap : Nat} (h : v0.ownBlock = some g2 ∨ g2 = N) (hN : M ≤ N) : ∀ g, (Value.slice (some ⟨g2, 0, none⟩) n cap).ownBlock = some g → v0.ownBlock = some g ∨ M ≤ g := fun g hg => by
  have : g2 = g := by simpa [Value.ownBlock] using hg
  subst this
  rcases h with h | h
  · exact .inl h
  · right; omega
def nmC (l : List Str) : List Value := l.map fun s => .string (S s)
end Go.Proofs.YtaaneecceiefoaaDoor

/- A walk's own memory: rows that grow and boxes that change, apart from each other; what was there before stands. -/
namespace Go.Proofs.YtaaneecceiefoaaDoor
open Go.RowKit
set_option linter.unusedVariables false
set_option linter.unusedSimpArgs false
structure Row where
  e : TypeId
  z : Nat
  v : Value
  n : Nat
  xs : List Value
structure Box where
  g : Nat
  cs : Array Value
  T : TypeId
def stBlocks (R : List Row) (X : List Box) : List Nat := R.filterMap (fun r => r.v.ownBlock) ++ X.map Box.g
structure ST (w0 : World) (R : List Row) (X : List Box) (w : World) : Prop where
  bel : Bel w0 w
  rows : ∀ r ∈ R, w.ownsRow w0.heap.size r.e r.z r.v r.n r.xs
  boxes : ∀ b ∈ X, w0.heap.size ≤ b.g ∧ w.heap[b.g]? = some (.cells b.cs b.T (0, 0))
  nd : (stBlocks R X).Nodup
theorem perm_at {α : Type} : ∀ (l : List α) (i : Nat) (x : α), l[i]? = some x → ∀ y, l.Perm (x :: l.eraseIdx i) ∧ (l.set i y).Perm (y :: l.eraseIdx i)
  | [], i, x, h, y => by simp at h
  | a :: l, 0, x, h, y => by
    have : a = x := by simpa using h
    subst this
    exact ⟨List.Perm.refl _, List.Perm.refl _⟩
  | a :: l, i + 1, x, h, y => by
    have ih := perm_at l i x (by simpa using h) y
    exact ⟨(List.Perm.cons a ih.1).trans (List.Perm.swap x a _), (List.Perm.cons a ih.2).trans (List.Perm.swap y a _)⟩
theorem blocks_none {r : Row} {R : List Row} {X : List Box} (h : r.v.ownBlock = none) : stBlocks (r :: R) X = stBlocks R X := by
  unfold stBlocks
  rw [List.filterMap_cons, h]
theorem blocks_some {r : Row} {R : List Row} {X : List Box} {g : Nat} (h : r.v.ownBlock = some g) : stBlocks (r :: R) X = g :: stBlocks R X := by
  unfold stBlocks
  rw [List.filterMap_cons, h]
  rfl
theorem blocks_row {r : Row} {R : List Row} {X : List Box} {g : Nat} (hr : r ∈ R) (h : r.v.ownBlock = some g) : g ∈ stBlocks R X := List.mem_append_left _ (List.mem_filterMap.2 ⟨r, hr, h⟩)
theorem blocks_box {b : Box} {R : List Row} {X : List Box} (hb : b ∈ X) : b.g ∈ stBlocks R X := List.mem_append_right _ (List.mem_map.2 ⟨b, hb, rfl⟩)
section
variable {w0 w w' : World} {R R' : List Row} {X X' : List Box} {r : Row} {b : Box}
theorem ST.start (w : World) : ST w [] [] w := ⟨Bel.refl _, fun r h => (by cases h), fun b h => (by cases h), List.nodup_nil⟩
theorem ST.perm (h : ST w0 R X w) (hR : R.Perm R') (hX : X.Perm X') : ST w0 R' X' w :=
  ⟨h.bel, fun r hr => h.rows r (hR.mem_iff.2 hr), fun b hb => h.boxes b (hX.mem_iff.2 hb), ((hR.filterMap _).append (hX.map _)).nodup_iff.1 h.nd⟩
theorem ST.lt (h : ST w0 R X w) : ∀ k ∈ stBlocks R X, k < w.heap.size := fun k hk => by
  rcases List.mem_append.1 hk with hk | hk
  · obtain ⟨r, hr, he⟩ := List.mem_filterMap.1 hk
    exact ((h.rows r hr).lt k he).2
  · obtain ⟨b, hb, rfl⟩ := List.mem_map.1 hk
    exact (Array.getElem?_eq_some_iff.1 (h.boxes b hb).2).1
theorem ST.belw (h : ST w0 R X w) (k : Bel w w') : ST w0 R X w' :=
  ⟨Bel.of h.bel k, fun r hr => row_bel (h.rows r hr) k, fun b hb => ⟨(h.boxes b hb).1, (Below.block k b.g (Array.getElem?_eq_some_iff.1 (h.boxes b hb).2).1).trans (h.boxes b hb).2⟩, h.nd⟩
theorem ST.head_ne (h : ST w0 (r :: R) X w) : ∀ k ∈ stBlocks R X, some k ≠ r.v.ownBlock := fun k hk e => by
  have hn := h.nd
  rw [blocks_some e.symm] at hn
  exact (List.nodup_cons.1 hn).1 hk
theorem ST.tail_nd (h : ST w0 (r :: R) X w) : (stBlocks R X).Nodup := by
  have hn := h.nd
  cases e : r.v.ownBlock with
  | none => rwa [blocks_none e] at hn
  | some g => rw [blocks_some e] at hn; exact (List.nodup_cons.1 hn).2
theorem ST.droprow0 (h : ST w0 (r :: R) X w) : ST w0 R X w := ⟨h.bel, fun s hs => h.rows s (List.mem_cons_of_mem _ hs), h.boxes, h.tail_nd⟩
theorem ST.grow0 {v' : Value} {n' : Nat} {xs' : List Value} (h : ST w0 (r :: R) X w) (hg : w.grownBy w' r.v.ownBlock) (hown : w'.ownsRow w0.heap.size r.e r.z v' n' xs') (hf : ∀ g, v'.ownBlock = some g → r.v.ownBlock = some g ∨ w.heap.size ≤ g) :
    ST w0 (⟨r.e, r.z, v', n', xs'⟩ :: R) X w' := by
  refine ⟨Below.grown h.bel hg h.bel.size (fun k hk => ((h.rows r (List.mem_cons_self ..)).lt k hk).1), fun s hs => ?_, fun b hb => ⟨(h.boxes b hb).1, ?_⟩, ?_⟩
  · rcases List.mem_cons.1 hs with rfl | hs
    · exact hown
    · refine (h.rows s (List.mem_cons_of_mem _ hs)).kept hg ?_
      cases e : s.v.ownBlock with
      | none => exact .inl rfl
      | some g => exact .inr (h.head_ne g (blocks_row hs e))
  · have hb2 := (h.boxes b hb).2
    exact (hg.block b.g (Array.getElem?_eq_some_iff.1 hb2).1 (h.head_ne b.g (blocks_box hb))).trans hb2
  · have htl := h.tail_nd
    have hlt := h.droprow0.lt
    cases e : v'.ownBlock with
    | none => rw [blocks_none e]; exact htl
    | some g =>
      rw [blocks_some e]
      refine List.nodup_cons.2 ⟨fun hm => ?_, htl⟩
      rcases hf g e with e2 | e2
      · exact h.head_ne g hm e2.symm
      · have := hlt g hm
        omega
theorem ST.addrow {e : TypeId} {z n : Nat} {v : Value} {xs : List Value} (h : ST w0 R X w) (k : Bel w w') (hown : w'.ownsRow w.heap.size e z v n xs) : ST w0 (⟨e, z, v, n, xs⟩ :: R) X w' := by
  have h2 := h.belw k
  refine ⟨h2.bel, fun s hs => ?_, h2.boxes, ?_⟩
  · rcases List.mem_cons.1 hs with rfl | hs
    · exact own_lower hown h.bel.size
    · exact h2.rows s hs
  · cases e : v.ownBlock with
    | none => rw [blocks_none e]; exact h.nd
    | some g =>
      rw [blocks_some e]
      refine List.nodup_cons.2 ⟨fun hm => ?_, h.nd⟩
      have := h.lt g hm
      have := (hown.lt g e).1
      omega
theorem ST.nilrow (h : ST w0 R X w) (e : TypeId) (z : Nat) : ST w0 (⟨e, z, .slice none 0 0, 0, []⟩ :: R) X w := h.addrow (Bel.refl _) (World.ownsRow_nil _ _ _ _)
theorem ST.addbox (h : ST w0 R X w) (cs : Array Value) (T : TypeId) : ST w0 R (⟨w.heap.size, cs, T⟩ :: X) (w.alloc (.cells cs T)) := by
  have h2 := h.belw ((Bel.refl w).alloc (.cells cs T))
  refine ⟨h2.bel, h2.rows, fun b hb => ?_, ?_⟩
  · rcases List.mem_cons.1 hb with rfl | hb
    · exact ⟨h.bel.size, heap_alloc_new _ _⟩
    · exact h2.boxes b hb
  · have hp : (stBlocks R (⟨w.heap.size, cs, T⟩ :: X)).Perm (w.heap.size :: stBlocks R X) := List.perm_middle
    refine hp.nodup_iff.2 (List.nodup_cons.2 ⟨fun hm => ?_, h.nd⟩)
    have := h.lt _ hm
    omega
theorem ST.box_ne (h : ST w0 R (b :: X) w) : (∀ k ∈ stBlocks R X, k ≠ b.g) ∧ (stBlocks R X).Nodup := by
  have hp : (stBlocks R (b :: X)).Perm (b.g :: stBlocks R X) := List.perm_middle
  have hn := List.nodup_cons.1 (hp.nodup_iff.1 h.nd)
  exact ⟨fun k hk e => hn.1 (e ▸ hk), hn.2⟩
theorem ST.dropbox0 (h : ST w0 R (b :: X) w) : ST w0 R X w := ⟨h.bel, h.rows, fun c hc => h.boxes c (List.mem_cons_of_mem _ hc), h.box_ne.2⟩
theorem ST.setbox0 (h : ST w0 R (b :: X) w) (o : Nat) (v : Value) : ST w0 R (⟨b.g, b.cs.setIfInBounds o v, b.T⟩ :: X) (w.setCell ⟨b.g, o, none⟩ v) := by
  have hb := h.boxes b (List.mem_cons_self ..)
  have hg := grown_setCell w b.g o v
  refine ⟨bel_set h.bel hb.1, fun s hs => ?_, fun c hc => ?_, h.nd⟩
  · refine (h.rows s hs).kept hg ?_
    cases e : s.v.ownBlock with
    | none => exact .inl rfl
    | some g => exact .inr fun e2 => h.box_ne.1 g (blocks_row hs e) (by injection e2)
  · rcases List.mem_cons.1 hc with rfl | hc
    · exact ⟨hb.1, heap_setCell_same w b.g o _ _ v hb.2⟩
    · have h2 := h.boxes c (List.mem_cons_of_mem _ hc)
      exact ⟨h2.1, (Below.heap_setCell _ _ _ _ (h.box_ne.1 c.g (blocks_box hc))).trans h2.2⟩
theorem own_set {B : Nat} {e : TypeId} {z n g c : Nat} {xs : List Value} (h : w.ownsRow B e z (.slice (some ⟨g, 0, none⟩) n c) n xs) (o : Nat) (v : Value) : (w.setCell ⟨g, o, none⟩ v).ownsRow B e z (.slice (some ⟨g, 0, none⟩) n c) n (xs.set o v) := by
  refine ⟨by rw [List.length_set]; exact h.1, ?_⟩
  rcases h.2 with ⟨h1, _⟩ | ⟨g', cap, cur, h1, h2, h3, h4, h5, h6, h7⟩
  · cases h1
  · cases h1
    refine .inr ⟨g, c, cur.setIfInBounds o v, rfl, h2, heap_setCell_same w g o cur e v h3, h4, h5, by simpa using h6, ?_⟩
    rw [← h7, Array.toList_setIfInBounds, List.take_set]
theorem ST.setrow0 {g c : Nat} (h : ST w0 (r :: R) X w) (hv : r.v = .slice (some ⟨g, 0, none⟩) r.n c) (o : Nat) (v : Value) : ST w0 (⟨r.e, r.z, r.v, r.n, r.xs.set o v⟩ :: R) X (w.setCell ⟨g, o, none⟩ v) := by
  obtain ⟨e, z, v0, n, xs⟩ := r
  have hv' : v0 = .slice (some ⟨g, 0, none⟩) n c := hv
  subst hv'
  have h0 : w.ownsRow w0.heap.size e z (.slice (some ⟨g, 0, none⟩) n c) n xs := h.rows _ (List.mem_cons_self ..)
  exact h.grow0 (grown_setCell w g o v) (own_set h0 o v) (fun k hk => .inl hk)
theorem ST.addboxRow (h : ST w0 R X w) (cs : Array Value) (T : TypeId) : ST w0 R X (w.alloc (.cells cs T)) := h.belw ((Bel.refl w).alloc _)
theorem ST.swapX {a : Box} (h : ST w0 R (a :: b :: X) w) : ST w0 R (b :: a :: X) w := h.perm (List.Perm.refl _) (List.Perm.swap b a X)
/-! the same at any place -/
theorem ST.to0 (h : ST w0 R X w) (i : Nat) (hi : R[i]? = some r) : ST w0 (r :: R.eraseIdx i) X w := h.perm (perm_at R i r hi r).1 (List.Perm.refl _)
theorem ST.of0 (i : Nat) (hi : R[i]? = some r) {s : Row} (h : ST w0 (s :: R.eraseIdx i) X w) : ST w0 (R.set i s) X w := h.perm (perm_at R i r hi s).2.symm (List.Perm.refl _)
theorem ST.grow {v' : Value} {n' : Nat} {xs' : List Value} (h : ST w0 R X w) (i : Nat) (hi : R[i]? = some r) (hg : w.grownBy w' r.v.ownBlock) (hown : w'.ownsRow w0.heap.size r.e r.z v' n' xs') (hf : ∀ g, v'.ownBlock = some g → r.v.ownBlock = some g ∨ w.heap.size ≤ g) :
    ST w0 (R.set i ⟨r.e, r.z, v', n', xs'⟩) X w' := ST.of0 i hi ((h.to0 i hi).grow0 hg hown hf)
theorem ST.setrow {g c : Nat} (h : ST w0 R X w) (i : Nat) (hi : R[i]? = some r) (hv : r.v = .slice (some ⟨g, 0, none⟩) r.n c) (o : Nat) (v : Value) : ST w0 (R.set i ⟨r.e, r.z, r.v, r.n, r.xs.set o v⟩) X (w.setCell ⟨g, o, none⟩ v) :=
  ST.of0 i hi ((h.to0 i hi).setrow0 hv o v)
theorem ST.setbox (h : ST w0 R X w) (j : Nat) (hj : X[j]? = some b) (o : Nat) (v : Value) : ST w0 R (X.set j ⟨b.g, b.cs.setIfInBounds o v, b.T⟩) (w.setCell ⟨b.g, o, none⟩ v) :=
  ((h.perm (List.Perm.refl _) (perm_at X j b hj b).1).setbox0 o v).perm (List.Perm.refl _) (perm_at X j b hj _).2.symm
theorem ST.row (h : ST w0 R X w) (i : Nat) (hi : R[i]? = some r) : w.ownsRow w0.heap.size r.e r.z r.v r.n r.xs := h.rows r (List.mem_of_getElem? hi)
theorem ST.box (h : ST w0 R X w) (j : Nat) (hj : X[j]? = some b) : w.heap[b.g]? = some (.cells b.cs b.T (0, 0)) := (h.boxes b (List.mem_of_getElem? hj)).2
theorem ST.boxlt (h : ST w0 R X w) (j : Nat) (hj : X[j]? = some b) : w0.heap.size ≤ b.g ∧ b.g < w.heap.size := ⟨(h.boxes b (List.mem_of_getElem? hj)).1, (Array.getElem?_eq_some_iff.1 (h.box j hj)).1⟩
theorem ST.cell (h : ST w0 R X w) (j : Nat) (hj : X[j]? = some b) (o : Nat) : w.cell? ⟨b.g, o, none⟩ = b.cs[o]? := Lib.cell_of_heap (h.box j hj) o
theorem ST.frz (h : ST w0 R X w) (j : Nat) (hj : X[j]? = some b) (o : Nat) : w.frozen? ⟨b.g, o, none⟩ = false := Lib.frozen_of_heap (h.box j hj) o
theorem ST.rx (h : ST w0 R X w) (i : Nat) (hi : R[i]? = some r) (j : Nat) (hj : X[j]? = some b) : r.v.ownBlock ≠ some b.g := fun e =>
  (h.to0 i hi).head_ne b.g (blocks_box (List.mem_of_getElem? hj)) e.symm
theorem ST.rowcell {g c n : Nat} (h : ST w0 R X w) (i : Nat) (hi : R[i]? = some r) (hv : r.v = .slice (some ⟨g, 0, none⟩) n c) (j : Nat) (u : Value) (hu : r.xs[j]? = some u) : w.cell? ⟨g, j, none⟩ = some u := by
  have h0 := h.row i hi
  rw [hv] at h0
  have := h0.cells (g := g) rfl j u hu
  rw [Addr.add_lit, Nat.zero_add] at this
  exact this
theorem ST.rowfrz {g c n : Nat} (h : ST w0 R X w) (i : Nat) (hi : R[i]? = some r) (hv : r.v = .slice (some ⟨g, 0, none⟩) n c) (j : Nat) : w.frozen? ⟨g, j, none⟩ = false := by
  have h0 := h.row i hi
  rw [hv] at h0
  rcases h0.2 with ⟨h1, _⟩ | ⟨g', cap, cur, h1, _, h3, _⟩
  · cases h1
  · cases h1
    exact Lib.frozen_of_heap h3 j
theorem ST.droprow (h : ST w0 R X w) (i : Nat) : ST w0 (R.eraseIdx i) X w := by
  cases e : R[i]? with
  | none => rw [List.eraseIdx_of_length_le (by simpa using e)]; exact h
  | some r => exact (h.to0 i e).droprow0
theorem ST.rest {n : Nat} : ∀ {R1 : List Row}, ST w0 (R1 ++ R) X w → ST w0 R X w
  | [], h => h
  | r :: R1, h => ST.rest (R1 := R1) (n := n) (ST.droprow0 (r := r) (R := R1 ++ R) h)
end
/-- an owned row reads as a list -/
theorem sv_of_own {α : Type} {V : World → List Value → α → Prop} {w : World} {B : Nat} {e : TypeId} {z : Nat} {v : Value} {l : List α} (C : α → List Value) (hC : ∀ x, (C x).length = z) (h : w.ownsRow B e z v l.length (l.flatMap C)) (hl : l.length ≤ 140737488355328) (hV : ∀ x ∈ l, V w (C x) x) : Sv z V w v l := by
  rcases h.2 with ⟨rfl, h0⟩ | ⟨g, cap, cur, rfl, h1, h2, h3, h4, h5, h6⟩
  · have : l = [] := List.length_eq_zero_iff.1 h0
    subst this
    exact Sl.nil _ _ _ _ _
  · refine ⟨_, cap, rfl, hl, h3, fun i x hx => ⟨g, 0, rfl, (Array.getElem?_eq_some_iff.1 h2).1, C x, fun j u hu => ?_, hV x (List.mem_of_getElem? hx)⟩⟩
    · have hj : j < z := by
        have := (List.getElem?_eq_some_iff.1 hu).1
        rwa [hC] at this
      have hfl : ∀ (l : List α) (i : Nat), l[i]? = some x → (l.flatMap C)[i * z + j]? = some u := by
        intro l
        induction l with
        | nil => intro i h; simp at h
        | cons a l ih =>
          intro i hi
          rw [List.flatMap_cons]
          cases i with
          | zero =>
            have : a = x := by simpa using hi
            subst this
            rw [Nat.zero_mul, Nat.zero_add, List.getElem?_append_left (by rw [hC]; exact hj)]
            exact hu
          | succ i =>
            rw [List.getElem?_append_right (by rw [hC, Nat.succ_mul]; omega), hC, Nat.succ_mul, show i * z + z + j - z = i * z + j by omega]
            exact ih i (by simpa using hi)
      have := h.cells (g := g) rfl (i * z + j) u (hfl l i hx)
      rw [Addr.add_lit] at this
      simpa using this
end Go.Proofs.YtaaneecceiefoaaDoor

/- Whole structs, of any number of cells, loaded out of a box or a slice and stored into a box. -/
namespace Go.Proofs.YtaaneecceiefoaaDoor
open Go.RowKit
set_option linter.unusedVariables false
set_option linter.unusedSimpArgs false
theorem grown_setRow (w : World) (g : Nat) (cs : Array Value) : w.grownBy (w.setRow g cs) (some g) :=
  ⟨rfl, rfl, rfl, by simp, fun k hk hne => setRow_other w g k cs (fun e => hne (by rw [e]))⟩
theorem ST.setrowbox0 {w0 w : World} {R : List Row} {X : List Box} {b : Box} (h : ST w0 R (b :: X) w) (cs : Array Value) : ST w0 R (⟨b.g, cs, b.T⟩ :: X) (w.setRow b.g cs) := by
  have hb := h.boxes b (List.mem_cons_self ..)
  have hg := grown_setRow w b.g cs
  refine ⟨Below.grown h.bel hg h.bel.size (fun k hk => by cases hk; exact hb.1), fun s hs => ?_, fun c hc => ?_, h.nd⟩
  · refine (h.rows s hs).kept hg ?_
    cases e : s.v.ownBlock with
    | none => exact .inl rfl
    | some g => exact .inr fun e2 => h.box_ne.1 g (blocks_row hs e) (by injection e2)
  · rcases List.mem_cons.1 hc with rfl | hc
    · exact ⟨hb.1, setRow_heap w b.g _ _ _ _ hb.2⟩
    · have h2 := h.boxes c (List.mem_cons_of_mem _ hc)
      exact ⟨h2.1, (setRow_other w b.g c.g cs (h.box_ne.1 c.g (blocks_box hc))).trans h2.2⟩
theorem ST.setrowbox {w0 w : World} {R : List Row} {X : List Box} {b : Box} (h : ST w0 R X w) (j : Nat) (hj : X[j]? = some b) (cs : Array Value) : ST w0 R (X.set j ⟨b.g, cs, b.T⟩) (w.setRow b.g cs) :=
  ((h.perm (List.Perm.refl _) (perm_at X j b hj b).1).setrowbox0 cs).perm (List.Perm.refl _) (perm_at X j b hj _).2.symm
section
variable {P : Program} {ops : Array Oper} {rest : List Oper} {o : Oper} {a : Act} {w : World} {Q : Exit → Act → World → Prop}
theorem wpl_load_box (hgd : o.guard = none) (ty : TypeId) (x : Operand) (ho : o.op = .load ty x) (g : Nat) (cs : Array Value) (t : TypeId) (hx : a.eval x = .pointer (some ⟨g, 0, none⟩)) (hg : w.heap[g]? = some (.cells cs t (0, 0))) (d : TypeDesc) (hu : P.underlying ty = some d) (hd : (match d with | .struct _ | .array _ _ => true | _ => false) = true) (hi : (P.info? ty).map (·.size) = some cs.size)
    (h : wpList P ops Q rest (a.put o.dst (.agg cs)) w) : wpList P ops Q (o :: rest) a w := by
  refine wpList_plain hgd fun K hK => ?_
  have hl := run_loadVar_row (P := P) w g t ty cs (0, 0) d hg hu hd hi
  unfold Oper.wp execOp
  simp only [ho, hx, Instr.loadAt, Instr.sureAddr, Sem.run_bind, Sem.run_pure, Result.andThen_ok, hl]
  exact hK _ _ h
theorem wpl_load_at (hgd : o.guard = none) (ty : TypeId) (x : Operand) (ho : o.op = .load ty x) (b off n : Nat) (vs : List Value) (hx : a.eval x = .pointer (some ⟨b, off, none⟩)) (hc : ∀ i v, vs[i]? = some v → w.cell? ⟨b, off + i, none⟩ = some v) (aE : ∀ w, (isAgg ty).run P w = .ok true w) (zE : ∀ w, (Go.sizeOf ty).run P w = .ok n w) (hn : vs.length = n)
    (h : wpList P ops Q rest (a.put o.dst (.agg vs.toArray)) w) : wpList P ops Q (o :: rest) a w := by
  refine wpList_plain hgd fun K hK => ?_
  have hl : Sem.run P (loadCellsFrom ⟨b, off, none⟩ 0 n #[]) w = .ok vs.toArray w := run_loadCellsFrom_list P w ⟨b, off, none⟩ vs n hn (fun i v hi => by rw [Addr.add_lit]; exact hc i v hi)
  have hv : (loadVar ty ⟨b, off, none⟩).run P w = .ok (.agg vs.toArray) w := by
    unfold loadVar loadCells
    simp only [Sem.run_bind, aE, Result.andThen_ok, if_true, zE, hl, Sem.run_pure]
  unfold Oper.wp execOp
  simp only [ho, hx, Instr.loadAt, Instr.sureAddr, Sem.run_bind, Sem.run_pure, Result.andThen_ok, hv]
  exact hK _ _ h
theorem wpl_store_box (hgd : o.guard = none) (ty : TypeId) (x y : Operand) (ho : o.op = .store ty x y) (g : Nat) (cells old : Array Value) (t : TypeId) (hx : a.eval x = .pointer (some ⟨g, 0, none⟩)) (hy : a.eval y = .agg cells) (hg : w.heap[g]? = some (.cells old t (0, 0))) (hi : (P.info? ty).map (·.size) = some cells.size) (hold : old.size = cells.size) (h1 : cells.all (·.oneCell') = true)
    (h : wpList P ops Q rest (a.put o.dst undef) (w.setRow g cells)) : wpList P ops Q (o :: rest) a w :=
  wpList_plain hgd fun K hK => wp_store_row ty x y ho g cells hx hy t old hg hi hold h1 (hK _ _ h)
theorem wpl_store_new {old : Array Value} {t : TypeId} (hgd : o.guard = none) (ty : TypeId) (x y : Operand) (ho : o.op = .store ty x y) (w1 : World) (hw : w = w1.alloc (.cells old t)) (g : Nat) (hgw : w1.heap.size = g) (cells : Array Value) (hx : a.eval x = .pointer (some ⟨g, 0, none⟩)) (hy : a.eval y = .agg cells) (hi : (P.info? ty).map (·.size) = some cells.size) (hold : old.size = cells.size) (h1 : cells.all (·.oneCell') = true)
    (h : wpList P ops Q rest (a.put o.dst undef) (w1.alloc (.cells cells t))) : wpList P ops Q (o :: rest) a w := by
  subst hw hgw
  refine wpl_store_box hgd ty x y ho w1.heap.size cells old t hx hy (heap_alloc_new _ _) hi hold h1 ?_
  rw [World.setRow_alloc_new]
  exact h
theorem wpl_store_at (hgd : o.guard = none) (ty : TypeId) (x y : Operand) (ho : o.op = .store ty x y) (g off : Nat) (cur new : Array Value) (vs : List Value) (t : TypeId) (hx : a.eval x = .pointer (some ⟨g, off, none⟩)) (hy : a.eval y = .agg vs.toArray) (hg : w.heap[g]? = some (.cells cur t (0, 0))) (hi : (P.info? ty).map (·.size) = some vs.length) (hl : off + vs.length ≤ cur.size) (h1 : ∀ u ∈ vs, u.oneCell' = true) (hn : (cur.toList.take off ++ vs ++ cur.toList.drop (off + vs.length)).toArray = new)
    (h : wpList P ops Q rest (a.put o.dst undef) (w.setRow g new)) : wpList P ops Q (o :: rest) a w := by
  subst hn
  refine wpList_plain hgd fun K hK => ?_
  have hs := run_storeCells_at (P := P) g off t vs 0 cur w hg (by omega) h1
  rw [Nat.add_zero] at hs
  have hv : (storeVar ty ⟨g, off, none⟩ (.agg vs.toArray)).run P w = .ok () (w.setRow g (cur.toList.take off ++ vs ++ cur.toList.drop (off + vs.length)).toArray) := by
    cases hq : P.info? ty with
    | none => simp [hq] at hi
    | some i =>
      have hsz : vs.length = i.size := by simp [hq] at hi; omega
      simp [storeVar, sizeOf, typeInfo, hq, Value.cells, hsz]
      rw [← hsz]
      simpa using hs
  unfold Oper.wp execOp
  simp only [ho, hx, hy, Instr.storeAt, Instr.sureAddr, Sem.run_bind, Sem.run_pure, Result.andThen_ok, hv]
  exact hK _ _ h
end
/-- what a slice of one struct is made of -/
theorem fold_set : ∀ (vs : List Value) (k : Nat) (z : Array Value), k + vs.length = z.size → List.foldl (fun (cs : Array Value) (x : Value × Nat) => cs.setIfInBounds x.2 x.1) z (vs.zipIdx k) = (z.toList.take k ++ vs).toArray
  | [], k, z, h => by
    simp only [List.length_nil, Nat.add_zero] at h
    subst h
    rw [List.append_nil, List.take_of_length_le (by simp)]
    rfl
  | v :: r, k, z, h => by
    simp only [List.length_cons] at h
    rw [List.zipIdx_cons, List.foldl_cons, fold_set r (k + 1) _ (by rw [Array.size_setIfInBounds]; omega), Array.toList_setIfInBounds]
    have hk : k < z.toList.length := by rw [Array.length_toList]; omega
    congr 1
    rw [List.take_succ_eq_append_getElem (by rw [List.length_set]; exact hk), List.getElem_set_self, List.take_set_of_le (Nat.le_refl _), List.append_assoc]
    rfl
theorem fold_all {vs : List Value} {z : Array Value} (h : z.size = vs.toArray.size) : List.foldl (fun (cs : Array Value) (x : Value × Nat) => cs.setIfInBounds x.2 x.1) z vs.zipIdx = vs.toArray := by
  rw [fold_set vs 0 z (by rw [h]; simp)]
  simp
end Go.Proofs.YtaaneecceiefoaaDoor

/- The library's searches in a slice of structs, by any function value that changes nothing that was there. -/
namespace Go.Proofs.YtaaneecceiefoaaDoor
open Go.RowKit Ck
set_option linter.unusedVariables false
set_option linter.unusedSimpArgs false

/-- the place of the first element of which p holds, or -1 -/
def idxL {α : Type} (p : α → Bool) (xs : List α) : Int := match xs.findIdx? p with | some i => (i : Int) | none => -1
theorem idxL_hit {α : Type} (p : α → Bool) (xs : List α) (k : Nat) (x : α) (hx : xs[k]? = some x) (hp : p x = true) (hn : ∀ j y, j < k → xs[j]? = some y → p y = false) : idxL p xs = (k : Int) := by
  unfold idxL
  have : xs.findIdx? p = some k := by
    rw [List.findIdx?_eq_some_iff_getElem]
    obtain ⟨h, rfl⟩ := List.getElem?_eq_some_iff.1 hx
    refine ⟨h, hp, fun j hj => ?_⟩
    have := hn j _ hj (List.getElem?_eq_getElem (by omega))
    simpa using this
  rw [this]
theorem idxL_miss {α : Type} (p : α → Bool) (xs : List α) (hn : ∀ j y, j < xs.length → xs[j]? = some y → p y = false) : idxL p xs = -1 := by
  unfold idxL
  have : xs.findIdx? p = none := by
    rw [List.findIdx?_eq_none_iff]
    intro x hx
    obtain ⟨j, hj, rfl⟩ := List.mem_iff_getElem.1 hx
    exact hn j _ hj (List.getElem?_eq_getElem hj)
  rw [this]
theorem idxL_any {α : Type} (p : α → Bool) (xs : List α) : decide (0 ≤ idxL p xs) = xs.any p := by
  unfold idxL
  cases h : xs.findIdx? p with
  | none =>
    rw [List.findIdx?_eq_none_iff] at h
    have : xs.any p = false := by rw [List.any_eq_false]; intro x hx; simpa using h x hx
    rw [this]; rfl
  | some i =>
    rw [List.findIdx?_eq_some_iff_getElem] at h
    obtain ⟨hi, hp, _⟩ := h
    have : xs.any p = true := List.any_eq_true.2 ⟨_, List.getElem_mem hi, hp⟩
    rw [this]
    exact decide_eq_true (Int.natCast_nonneg i)
theorem idxL_find {α : Type} (p : α → Bool) (xs : List α) : (idxL p xs < 0 ∧ xs.find? p = none) ∨ ∃ (k : Nat) (x : α), idxL p xs = (k : Int) ∧ xs[k]? = some x ∧ xs.find? p = some x ∧ k < xs.length := by
  unfold idxL
  cases h : xs.findIdx? p with
  | none =>
    refine .inl ⟨by show (-1 : Int) < 0; omega, ?_⟩
    rw [List.findIdx?_eq_none_iff] at h
    rw [List.find?_eq_none]
    intro x hx; simpa using h x hx
  | some i =>
    rw [List.findIdx?_eq_some_iff_getElem] at h
    obtain ⟨hi, hp, hn⟩ := h
    refine .inr ⟨i, xs[i], rfl, List.getElem?_eq_getElem hi, ?_, hi⟩
    rw [List.find?_eq_some_iff_getElem]
    exact ⟨hp, i, hi, rfl, fun j hj => by simpa using hn j hj⟩
/-- a function value that answers p at the elements of xs, as they lie in w -/
def PredOf (α : Type) (V : World → List Value → α → Prop) (w : World) (xs : List α) (p : α → Bool) (g : Nat) (lb : Array Value) : Prop :=
  ∀ (x : α) (vs : List Value) (W : World), x ∈ xs → V w vs x → Bel w W → Calls Tryd.prog g (#[.agg vs.toArray] ++ lb) W fun e w' => e = .returned (.bool (p x)) ∧ Below W.heap.size W w'
theorem agg_Span (w : World) : (isAgg 172).run Tryd.prog w = .ok true w := by kernel_rfl
theorem size_Span (w : World) : (Go.sizeOf 172).run Tryd.prog w = .ok 2 w := by kernel_rfl
theorem agg_Item (w : World) : (isAgg 180).run Tryd.prog w = .ok true w := by kernel_rfl
theorem size_Item (w : World) : (Go.sizeOf 180).run Tryd.prog w = .ok 3 w := by kernel_rfl
theorem agg_Msg (w : World) : (isAgg 57).run Tryd.prog w = .ok true w := by kernel_rfl
theorem size_Msg (w : World) : (Go.sizeOf 57).run Tryd.prog w = .ok 5 w := by kernel_rfl
theorem agg_Enum (w : World) : (isAgg 175).run Tryd.prog w = .ok true w := by kernel_rfl
theorem size_Enum (w : World) : (Go.sizeOf 175).run Tryd.prog w = .ok 5 w := by kernel_rfl
theorem agg_Field (w : World) : (isAgg 52).run Tryd.prog w = .ok true w := by kernel_rfl
theorem size_Field (w : World) : (Go.sizeOf 52).run Tryd.prog w = .ok 16 w := by kernel_rfl
end Go.Proofs.YtaaneecceiefoaaDoor
