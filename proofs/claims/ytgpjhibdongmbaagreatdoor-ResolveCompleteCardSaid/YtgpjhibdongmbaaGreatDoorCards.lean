/-
  DERIVED. GIVEN WITH THE SEED: THE CARDS: each row of YtgpjhibdongmbaaGreatDoorRows.lean that lists a variable, with what it lists TIED to the program's text (the seventh form; the later family's looks); each row that meets fmt, with fmt's text TOLD by the authors' own Lean function (tested against real Go, not proved from fmt's source: count such statements apart). THE CARD IS WHAT COUNTS. Prove the row's statement (the work); the ties are given (YtgpjhibdongmbaaGreatDoorTie.lean); close each card by the builder's one call (the guide's Derived/Test/ToyasCard.lean, 'card_holds'). Laid BY PROGRAM, IN A SANDBOX (cutbox-door.mjs). By AI agents, Wed Nov 11 2026. No macro, syntax, notation, axiom, sorry.
-/
import Derived.Test.YtgpjhibdongmbaaGreatDoorRows
import GoSem.ClaimSeven
namespace Go.Proofs.YtgpjhibdongmbaaGreatDoor
namespace Rows

/-- THE TIED CARD OF 'wireschemalaw31.ResolveMakes'. -/
def resolveMakesCard : Claim7 := { stood := { row := resolveMakesRow, standIns := [], harness := (true, "de56f745fe8de01d2609fb16367dad0d6df4c5b33a8380103682470fce070195"), looks := false }, kinds := [], alts := [], laidByText := true, laidKinds := [.data, .data, .data, .data, .data, .data, .pinned], laidTests := true, laidLooks := .later }
def ResolveMakesCardSaid : Prop := Claim7.holds Tryz.pinned (.plain (OpenSpec.ofChange resolveMakesSpec)) resolveMakesCard

/-- THE TIED CARD OF 'wireschemalaw31.ResolveLooks'. -/
def resolveLooksCard : Claim7 := { stood := { row := resolveLooksRow, standIns := [], harness := (true, "de56f745fe8de01d2609fb16367dad0d6df4c5b33a8380103682470fce070195"), looks := false }, kinds := [], alts := [], laidByText := true, laidKinds := [.data, .data, .data, .data, .data, .data, .pinned], laidTests := true, laidLooks := .later }
def ResolveLooksCardSaid : Prop := Claim7.holds Tryz.pinned (.plain (OpenSpec.ofChange resolveLooksSpec)) resolveLooksCard

/-- THE TIED CARD OF 'wireschemalaw31.ResolveChecks'. -/
def resolveChecksCard : Claim7 := { stood := { row := resolveChecksRow, standIns := [], harness := (true, "de56f745fe8de01d2609fb16367dad0d6df4c5b33a8380103682470fce070195"), looks := false }, kinds := [], alts := [], laidByText := true, laidKinds := [.data, .data, .data, .data, .data, .data, .pinned], laidTests := true, laidLooks := .later }
def ResolveChecksCardSaid : Prop := Claim7.holds Tryz.pinned (.plain (OpenSpec.ofChange resolveChecksSpec)) resolveChecksCard

/-- THE TIED CARD OF 'wireschemalaw31.ResolveComplete'. -/
def resolveCompleteCard : Claim7 := { stood := { row := resolveCompleteRow, standIns := [], harness := (true, "de56f745fe8de01d2609fb16367dad0d6df4c5b33a8380103682470fce070195"), looks := false }, kinds := [], alts := [], laidByText := true, laidKinds := [.data, .data, .data, .data, .data, .data, .pinned], laidTests := true, laidLooks := .later }
def ResolveCompleteCardSaid : Prop := Claim7.holds Tryz.pinned (.plain (OpenSpec.ofChange resolveCompleteSpec)) resolveCompleteCard

/-- THE TIED CARD OF 'wireschemalaw31.ResolveSelf'. -/
def resolveSelfCard : Claim7 := { stood := { row := resolveSelfRow, standIns := [], harness := (true, "de56f745fe8de01d2609fb16367dad0d6df4c5b33a8380103682470fce070195"), looks := false }, kinds := [], alts := [], laidByText := true, laidKinds := [.data, .data, .data, .data, .data, .data, .pinned], laidTests := true, laidLooks := .later }
def ResolveSelfCardSaid : Prop := Claim7.holds Tryz.pinned (.plain (OpenSpec.ofChange resolveSelfSpec)) resolveSelfCard

/-- THE TIED CARD OF 'wireschemalaw31.ResolveScalars'. -/
def resolveScalarsCard : Claim7 := { stood := { row := resolveScalarsRow, standIns := [], harness := (true, "de56f745fe8de01d2609fb16367dad0d6df4c5b33a8380103682470fce070195"), looks := false }, kinds := [], alts := [], laidByText := true, laidKinds := [.data, .data, .data, .data, .data, .data, .pinned], laidTests := true, laidLooks := .later }
def ResolveScalarsCardSaid : Prop := Claim7.holds Tryz.pinned (.plain (OpenSpec.ofChange resolveScalarsSpec)) resolveScalarsCard

/-- THE SECOND FORM's CARD OF 'wireschemalaw31.ResolveMakes'. -/
def resolveMakesUptoCard : Claim7 := { stood := { row := resolveMakesUptoRow, standIns := [], harness := (true, "de56f745fe8de01d2609fb16367dad0d6df4c5b33a8380103682470fce070195"), looks := false }, kinds := [], alts := [], laidByText := true, laidKinds := [.data, .data, .data, .data, .data, .data, .pinned], laidTests := true, laidLooks := .later }
def ResolveMakesUptoCardSaid : Prop := Claim7.holds Tryz.pinned (.plain (OpenSpec.upto resolveMakesSpec)) resolveMakesUptoCard

/-- THE SECOND FORM's CARD OF 'wireschemalaw31.ResolveLooks'. -/
def resolveLooksUptoCard : Claim7 := { stood := { row := resolveLooksUptoRow, standIns := [], harness := (true, "de56f745fe8de01d2609fb16367dad0d6df4c5b33a8380103682470fce070195"), looks := false }, kinds := [], alts := [], laidByText := true, laidKinds := [.data, .data, .data, .data, .data, .data, .pinned], laidTests := true, laidLooks := .later }
def ResolveLooksUptoCardSaid : Prop := Claim7.holds Tryz.pinned (.plain (OpenSpec.upto resolveLooksSpec)) resolveLooksUptoCard

/-- THE SECOND FORM's CARD OF 'wireschemalaw31.ResolveChecks'. -/
def resolveChecksUptoCard : Claim7 := { stood := { row := resolveChecksUptoRow, standIns := [], harness := (true, "de56f745fe8de01d2609fb16367dad0d6df4c5b33a8380103682470fce070195"), looks := false }, kinds := [], alts := [], laidByText := true, laidKinds := [.data, .data, .data, .data, .data, .data, .pinned], laidTests := true, laidLooks := .later }
def ResolveChecksUptoCardSaid : Prop := Claim7.holds Tryz.pinned (.plain (OpenSpec.upto resolveChecksSpec)) resolveChecksUptoCard

/-- THE SECOND FORM's CARD OF 'wireschemalaw31.ResolveComplete'. -/
def resolveCompleteUptoCard : Claim7 := { stood := { row := resolveCompleteUptoRow, standIns := [], harness := (true, "de56f745fe8de01d2609fb16367dad0d6df4c5b33a8380103682470fce070195"), looks := false }, kinds := [], alts := [], laidByText := true, laidKinds := [.data, .data, .data, .data, .data, .data, .pinned], laidTests := true, laidLooks := .later }
def ResolveCompleteUptoCardSaid : Prop := Claim7.holds Tryz.pinned (.plain (OpenSpec.upto resolveCompleteSpec)) resolveCompleteUptoCard

/-- THE SECOND FORM's CARD OF 'wireschemalaw31.ResolveSelf'. -/
def resolveSelfUptoCard : Claim7 := { stood := { row := resolveSelfUptoRow, standIns := [], harness := (true, "de56f745fe8de01d2609fb16367dad0d6df4c5b33a8380103682470fce070195"), looks := false }, kinds := [], alts := [], laidByText := true, laidKinds := [.data, .data, .data, .data, .data, .data, .pinned], laidTests := true, laidLooks := .later }
def ResolveSelfUptoCardSaid : Prop := Claim7.holds Tryz.pinned (.plain (OpenSpec.upto resolveSelfSpec)) resolveSelfUptoCard

/-- THE SECOND FORM's CARD OF 'wireschemalaw31.ResolveScalars'. -/
def resolveScalarsUptoCard : Claim7 := { stood := { row := resolveScalarsUptoRow, standIns := [], harness := (true, "de56f745fe8de01d2609fb16367dad0d6df4c5b33a8380103682470fce070195"), looks := false }, kinds := [], alts := [], laidByText := true, laidKinds := [.data, .data, .data, .data, .data, .data, .pinned], laidTests := true, laidLooks := .later }
def ResolveScalarsUptoCardSaid : Prop := Claim7.holds Tryz.pinned (.plain (OpenSpec.upto resolveScalarsSpec)) resolveScalarsUptoCard
end Rows
end Go.Proofs.YtgpjhibdongmbaaGreatDoor
