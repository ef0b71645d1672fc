/- Layer 14 (desc) walked: fields looked up by number and by name. Printed by gdesc3.py. -/
import Derived.Test.YtaaneecceiefoaaDoorMaDesc2
namespace Go.Proofs.YtaaneecceiefoaaDoor
open Go.RowKit Ck Ma
set_option linter.unusedVariables false
set_option linter.unusedSimpArgs false
set_option maxHeartbeats 4000000 in
set_option maxRecDepth 100000 in
theorem cl_dsA (num card key tk dk dx : Int) (name tn un dt : Str) (hd : Bool) (r1 r2 r3 r4 r5 : Option Addr) (n1 n2 n3 n4 n5 d1 d2 d3 d4 d5 : Nat) (nm : Str) (l : List PNote) (B : Nat) (W : World) (hB : W.cell? ⟨B, 0, none⟩ = some (.string (S nm))) (hn : Notes W (.slice r5 n5 d5) l) :
    Calls Tryd.prog 92 #[.agg #[.int .i64 num, .string (S name), .int .i64 card, .int .i64 key, .int .i64 tk, .string (S tn), .string (S un), .bool hd, .int .i64 dk, .int .u64 dx, .string (S dt), .slice r1 n1 d1, .slice r2 n2 d2, .slice r3 n3 d3, .slice r4 n4 d4, .slice r5 n5 d5], .pointer (some ⟨B, 0, none⟩)] W fun e w' => e = .returned (.bool (aliased l nm)) ∧ Bel W w' := by
  have hlt : B < W.heap.size := World.block_lt_of_cell? W _ hB
  have hS0 := Lib.hid ((ST.start W).addbox #[.int .i64 num, .string (S name), .int .i64 card, .int .i64 key, .int .i64 tk, .string (S tn), .string (S un), .bool hd, .int .i64 dk, .int .u64 dx, .string (S dt), .slice r1 n1 d1, .slice r2 n2 d2, .slice r3 n3 d3, .slice r4 n4 d4, .slice r5 n5 d5] 52)
  have CA := Lib.hid (fun W2 (k : Bel W W2) => ds_aliased (.slice r5 n5 d5) l nm W2 (hn.bel VNote.stays k))
  generalize aliased l nm = R at CA
  clear hn
  go_enter Tryd.func92, Tryd.ntmps92
  go_wp2_with (go_at_call 93; (with_reducible refine (CA.out _ hS0.out.bel).mono ?_); rintro e w1 ⟨rfl, k1⟩; have K1 := Lib.hid (Bel.of hS0.out.bel k1); clear k1)
  go_ret
  exact ⟨rfl, K1.out⟩
set_option maxHeartbeats 4000000 in
set_option maxRecDepth 100000 in
theorem ds_Field (nm : Str) (l : List PField) (q1 q2 q3 q4 : Option Addr) (n2 n3 n4 c1 c2 c3 c4 : Nat) (k : Int) (wv w0 : World) (hvb : Bel wv w0) (hv : Sv 16 VField wv (.slice q1 l.length c1) l) :
    Calls Tryd.prog 56 #[.agg #[.string (S nm), .slice q1 l.length c1, .slice q2 n2 c2, .slice q3 n3 c3, .slice q4 n4 c4], .int .i64 k] w0 (FoundAt VField zFld (l.find? fun f => decide (f.num = k)) wv w0) := by
  have HM := Lib.hid hv
  clear hv
  have HVB := Lib.hid hvb
  clear hvb
  have hS0' := ((((ST.start w0).addbox #[.string (S nm), .slice q1 l.length c1, .slice q2 n2 c2, .slice q3 n3 c3, .slice q4 n4 c4] 57).addbox #[.int .i64 k] 3).addbox #[.int .i64 0, .string ⟨#[]⟩, .int .i64 0, .int .i64 0, .int .i64 0, .string ⟨#[]⟩, .string ⟨#[]⟩, .bool false, .int .i64 0, .int .u64 0, .string ⟨#[]⟩, .slice none 0 0, .slice none 0 0, .slice none 0 0, .slice none 0 0, .slice none 0 0] 52)
  simp only [World.size_alloc] at hS0'
  have hS0 := Lib.hid hS0'
  have HN := Lib.hid (show World.cell? _ _ = some (.int .i64 k) from hS0'.cell 1 rfl 0)
  clear hS0'
  have CF := Lib.hid (fun W (kk : Bel w0 W) (hc : W.cell? ⟨w0.heap.size + 1, 0, none⟩ = some (.int .i64 k)) => show Calls Tryd.prog 78 #[.slice q1 l.length c1, .func (.func 79) #[] #[.pointer (some ⟨w0.heap.size + 1, 0, none⟩)]] W (FoundAt VField zFld (l.find? (fun f => decide (f.num = k))) wv W) from ds_first_F 79 _ (enters_of Tryd.func79 (by kernel_rfl) rfl) _ l (fun f => decide (f.num = k)) wv W (Bel.of HVB.out kk) HM.out (fun x hx vs W2 hvs hb2 => by
    obtain ⟨_, nv, rfl, ⟨_, _, _, _, _, _, _, _, rfl, _⟩, h1⟩ := hvs
    obtain ⟨_, _, rfl, _⟩ := sl_form h1
    exact cl_dsF x.num x.card x.key x.tk x.df.k x.df.x x.name x.tn x.un x.df.t x.hd _ _ _ _ _ _ _ _ _ _ _ _ _ _ _ k _ W2 (hb2.some hc)))
  generalize (l.find? fun f => decide (f.num = k)) = Z at CF
  go_enter Tryd.func56, Tryd.ntmps56
  go_wp2_with (first
    | (go_at_call 78; (with_reducible refine (CF.out _ hS0.out.bel HN.out).mono ?_); rintro e w1 ⟨vs, rfl, hvs, k1⟩; have k1 : Bel _ w1 := k1; obtain ⟨hlen, hone⟩ := found_F hvs; have HVS := Lib.hid hvs; have Z0 : vs.toArray.size = 16 := (by rw [List.size_toArray]; exact hlen); have Z1 := Lib.hid (show (Tryd.prog.info? 52).map (·.size) = some vs.toArray.size by rw [Z0]; exact ar_F); have Z2 := Lib.hid (show (#[.int .i64 0, .string ⟨#[]⟩, .int .i64 0, .int .i64 0, .int .i64 0, .string ⟨#[]⟩, .string ⟨#[]⟩, .bool false, .int .i64 0, .int .u64 0, .string ⟨#[]⟩, .slice none 0 0, .slice none 0 0, .slice none 0 0, .slice none 0 0, .slice none 0 0] : Array Value).size = vs.toArray.size by rw [Z0]; rfl); have HO := Lib.hid hone; have H1 := Lib.hid (hS0.out.belw k1); have HB1 := Lib.hid (H1.out.box 0 rfl); clear k1 hlen hone Z0 hvs)
    | (refine wpl_store_box rfl 52 _ _ rfl (w0.heap.size + 1 + 1) vs.toArray #[.int .i64 0, .string ⟨#[]⟩, .int .i64 0, .int .i64 0, .int .i64 0, .string ⟨#[]⟩, .string ⟨#[]⟩, .bool false, .int .i64 0, .int .u64 0, .string ⟨#[]⟩, .slice none 0 0, .slice none 0 0, .slice none 0 0, .slice none 0 0, .slice none 0 0] 52 rfl rfl HB1.out Z1.out Z2.out HO.out ?_))
  have HZ := Lib.hid (H1.out.setrowbox 0 rfl vs.toArray)
  refine bodyPost_ret (v := .tuple #[.agg vs.toArray, .bool Z.isSome]) ?hres1 rfl ?hpost1
  case hres1 => exact res_row rfl rfl rfl (HZ.out.box 0 rfl) Tryd.underlying52 rfl Z1.out
  case hpost1 => exact ⟨vs, rfl, HVS.out, HZ.out.bel⟩
set_option maxHeartbeats 4000000 in
set_option maxRecDepth 100000 in
theorem ds_FieldNamed (nm : Str) (l : List PField) (q1 q2 q3 q4 : Option Addr) (n2 n3 n4 c1 c2 c3 c4 : Nat) (p : Str) (wv w0 : World) (hvb : Bel wv w0) (hv : Sv 16 VField wv (.slice q1 l.length c1) l) :
    Calls Tryd.prog 77 #[.agg #[.string (S nm), .slice q1 l.length c1, .slice q2 n2 c2, .slice q3 n3 c3, .slice q4 n4 c4], .string (S p)] w0 (FoundAt VField zFld (match l.find? (fun f => decide (f.name = p)) with | some f => some f | none => l.find? (fun f => aliased f.notes p)) wv w0) := by
  have HM := Lib.hid hv
  have HVB := Lib.hid hvb
  clear hv hvb
  have hS0' := ((((ST.start w0).addbox #[.string (S nm), .slice q1 l.length c1, .slice q2 n2 c2, .slice q3 n3 c3, .slice q4 n4 c4] 57).addbox #[.string (S p)] 9).addbox #[.int .i64 0, .string ⟨#[]⟩, .int .i64 0, .int .i64 0, .int .i64 0, .string ⟨#[]⟩, .string ⟨#[]⟩, .bool false, .int .i64 0, .int .u64 0, .string ⟨#[]⟩, .slice none 0 0, .slice none 0 0, .slice none 0 0, .slice none 0 0, .slice none 0 0] 52)
  simp only [World.size_alloc] at hS0'
  have hS0 := Lib.hid hS0'
  have HN := Lib.hid (show World.cell? _ _ = some (.string (S p)) from hS0'.cell 1 rfl 0)
  clear hS0'
  have CF := Lib.hid (fun W (kk : Bel w0 W) (hc : W.cell? ⟨w0.heap.size + 1, 0, none⟩ = some (.string (S p))) => show Calls Tryd.prog 78 #[.slice q1 l.length c1, .func (.func 91) #[] #[.pointer (some ⟨w0.heap.size + 1, 0, none⟩)]] W (FoundAt VField zFld (l.find? (fun f => decide (f.name = p))) wv W) from ds_first_F 91 _ (enters_of Tryd.func91 (by kernel_rfl) rfl) _ l (fun f => decide (f.name = p)) wv W (Bel.of HVB.out kk) HM.out (fun x hx vs W2 hvs hb2 => by
    obtain ⟨_, nv, rfl, ⟨_, _, _, _, _, _, _, _, rfl, _⟩, h1⟩ := hvs
    obtain ⟨_, _, rfl, _⟩ := sl_form h1
    exact cl_dsN x.num x.card x.key x.tk x.df.k x.df.x x.name x.tn x.un x.df.t x.hd _ _ _ _ _ _ _ _ _ _ _ _ _ _ _ p _ W2 (hb2.some hc)))
  have CA := Lib.hid (fun W (kk : Bel w0 W) (hc : W.cell? ⟨w0.heap.size + 1, 0, none⟩ = some (.string (S p))) => show Calls Tryd.prog 78 #[.slice q1 l.length c1, .func (.func 92) #[] #[.pointer (some ⟨w0.heap.size + 1, 0, none⟩)]] W (FoundAt VField zFld (l.find? (fun f => aliased f.notes p)) wv W) from ds_first_F 92 _ (enters_of Tryd.func92 (by kernel_rfl) rfl) _ l (fun f => aliased f.notes p) wv W (Bel.of HVB.out kk) HM.out (fun x hx vs W2 hvs hb2 => by
    obtain ⟨_, nv, rfl, ⟨_, _, _, _, _, _, _, _, rfl, _⟩, h1⟩ := hvs
    obtain ⟨_, _, rfl, _⟩ := sl_form h1
    exact cl_dsA x.num x.card x.key x.tk x.df.k x.df.x x.name x.tn x.un x.df.t x.hd _ _ _ _ _ _ _ _ _ _ _ _ _ _ _ p x.notes _ W2 (hb2.some hc) h1))
  cases hz : l.find? (fun f => decide (f.name = p)) with
  | some f =>
    rw [hz] at CF
    clear CA hz
    go_enter Tryd.func77, Tryd.ntmps77
    go_wp2_with (first
      | (go_at_call 78; (with_reducible refine (CF.out _ hS0.out.bel HN.out).mono ?_); rintro e w1 ⟨vs, rfl, hvs, k1⟩; have k1 : Bel _ w1 := k1; obtain ⟨hlen, hone⟩ := found_F hvs; have HVS := Lib.hid hvs; have Z0 : vs.toArray.size = 16 := (by rw [List.size_toArray]; exact hlen); have Z1 := Lib.hid (show (Tryd.prog.info? 52).map (·.size) = some vs.toArray.size by rw [Z0]; exact ar_F); have Z2 := Lib.hid (show (#[.int .i64 0, .string ⟨#[]⟩, .int .i64 0, .int .i64 0, .int .i64 0, .string ⟨#[]⟩, .string ⟨#[]⟩, .bool false, .int .i64 0, .int .u64 0, .string ⟨#[]⟩, .slice none 0 0, .slice none 0 0, .slice none 0 0, .slice none 0 0, .slice none 0 0] : Array Value).size = vs.toArray.size by rw [Z0]; rfl); have HO := Lib.hid hone; clear hlen hone Z0 hvs; have H1 := Lib.hid (hS0.out.belw k1); have HA := Lib.hid (H1.out.addbox vs.toArray 52); have HB0 := Lib.hid (HA.out.box 0 rfl); have HB1 := Lib.hid (HA.out.box 1 rfl); clear k1)
      | (refine wpl_store_new (old := #[.int .i64 0, .string ⟨#[]⟩, .int .i64 0, .int .i64 0, .int .i64 0, .string ⟨#[]⟩, .string ⟨#[]⟩, .bool false, .int .i64 0, .int .u64 0, .string ⟨#[]⟩, .slice none 0 0, .slice none 0 0, .slice none 0 0, .slice none 0 0, .slice none 0 0]) rfl 52 _ _ rfl w1 rfl w1.heap.size rfl vs.toArray rfl rfl Z1.out Z2.out HO.out ?_)
      | (refine wpl_load_box rfl 52 _ rfl w1.heap.size vs.toArray 52 rfl HB0.out _ Tryd.underlying52 rfl Z1.out ?_)
      | (refine wpl_store_box rfl 52 _ _ rfl (w0.heap.size + 1 + 1) vs.toArray #[.int .i64 0, .string ⟨#[]⟩, .int .i64 0, .int .i64 0, .int .i64 0, .string ⟨#[]⟩, .string ⟨#[]⟩, .bool false, .int .i64 0, .int .u64 0, .string ⟨#[]⟩, .slice none 0 0, .slice none 0 0, .slice none 0 0, .slice none 0 0, .slice none 0 0] 52 rfl rfl HB1.out Z1.out Z2.out HO.out ?_))
    have HZ := Lib.hid (HA.out.setrowbox 1 rfl vs.toArray)
    refine bodyPost_ret (v := .tuple #[.agg vs.toArray, .bool true]) ?hres1 rfl ?hpost1
    case hres1 => exact res_row rfl rfl rfl (HZ.out.box 1 rfl) Tryd.underlying52 rfl Z1.out
    case hpost1 => exact ⟨vs, rfl, HVS.out, HZ.out.bel⟩
  | none =>
    rw [hz] at CF
    clear hz
    show Calls _ _ _ _ (FoundAt VField zFld (l.find? (fun f => aliased f.notes p)) wv w0)
    generalize l.find? (fun f => aliased f.notes p) = Z at CA
    go_enter Tryd.func77, Tryd.ntmps77
    go_wp2_with (first
      | (go_at_call 78; (with_reducible refine (CF.out _ hS0.out.bel HN.out).mono ?_); rintro e w0' ⟨vs0, rfl, hvs, k1⟩; have k1 : Bel _ w0' := k1; have hv0 : vs0 = zFld := hvs; subst hv0; have H0 := Lib.hid ((hS0.out.belw k1).addbox zFld.toArray 52); have HN0 := Lib.hid (show World.cell? _ _ = some (.string (S p)) from H0.out.cell 2 rfl 0); have M1 := H0.out.cell 3 rfl 1; dsimp only at M1; clear k1 hvs)
      | (refine wpl_store_new (old := #[.int .i64 0, .string ⟨#[]⟩, .int .i64 0, .int .i64 0, .int .i64 0, .string ⟨#[]⟩, .string ⟨#[]⟩, .bool false, .int .i64 0, .int .u64 0, .string ⟨#[]⟩, .slice none 0 0, .slice none 0 0, .slice none 0 0, .slice none 0 0, .slice none 0 0]) rfl 52 _ _ rfl w0' rfl w0'.heap.size rfl zFld.toArray rfl rfl ar_F rfl (by simp [zFld, Value.oneCell']) ?_)
      | (go_at_call 78; (with_reducible refine (CA.out _ H0.out.bel HN0.out).mono ?_); rintro e w1 ⟨vs, rfl, hvs, k1⟩; have k1 : Bel _ w1 := k1; obtain ⟨hlen, hone⟩ := found_F hvs; have HVS := Lib.hid hvs; have Z0 : vs.toArray.size = 16 := (by rw [List.size_toArray]; exact hlen); have Z1 := Lib.hid (show (Tryd.prog.info? 52).map (·.size) = some vs.toArray.size by rw [Z0]; exact ar_F); have Z2 := Lib.hid (show (#[.int .i64 0, .string ⟨#[]⟩, .int .i64 0, .int .i64 0, .int .i64 0, .string ⟨#[]⟩, .string ⟨#[]⟩, .bool false, .int .i64 0, .int .u64 0, .string ⟨#[]⟩, .slice none 0 0, .slice none 0 0, .slice none 0 0, .slice none 0 0, .slice none 0 0] : Array Value).size = vs.toArray.size by rw [Z0]; rfl); have HO := Lib.hid hone; clear hlen hone Z0 hvs; have H1 := Lib.hid (H0.out.belw k1); have HB1 := Lib.hid (H1.out.box 1 rfl); clear k1)
      | (refine wpl_store_box rfl 52 _ _ rfl (w0.heap.size + 1 + 1) vs.toArray #[.int .i64 0, .string ⟨#[]⟩, .int .i64 0, .int .i64 0, .int .i64 0, .string ⟨#[]⟩, .string ⟨#[]⟩, .bool false, .int .i64 0, .int .u64 0, .string ⟨#[]⟩, .slice none 0 0, .slice none 0 0, .slice none 0 0, .slice none 0 0, .slice none 0 0] 52 rfl rfl HB1.out Z1.out Z2.out HO.out ?_))
    have HZ := Lib.hid (H1.out.setrowbox 1 rfl vs.toArray)
    refine bodyPost_ret (v := .tuple #[.agg vs.toArray, .bool Z.isSome]) ?hres2 rfl ?hpost2
    case hres2 => exact res_row rfl rfl rfl (HZ.out.box 1 rfl) Tryd.underlying52 rfl Z1.out
    case hpost2 => exact ⟨vs, rfl, HVS.out, HZ.out.bel⟩
end Go.Proofs.YtaaneecceiefoaaDoor
