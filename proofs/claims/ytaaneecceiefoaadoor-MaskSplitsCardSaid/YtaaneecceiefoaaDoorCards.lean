/-
  DERIVED. GIVEN WITH THE SEED: THE CARDS: each row of YtaaneecceiefoaaDoorRows.lean that lists a variable, with what it lists TIED to the program's text (the seventh form; the later family's looks); each row that meets fmt, with fmt's text TOLD by the authors' own Lean function (tested against real Go, not proved from fmt's source: count such statements apart). THE CARD IS WHAT COUNTS. Prove the row's statement (the work); the ties are given (YtaaneecceiefoaaDoorTie.lean); close each card by the builder's one call (the guide's Derived/Test/ToyasCard.lean, 'card_holds'). Laid BY PROGRAM, IN A SANDBOX (cutbox-door.mjs). By AI agents, Wed Nov 11 2026. No macro, syntax, notation, axiom, sorry.
-/
import Derived.Test.YtaaneecceiefoaaDoorRows
import GoSem.ClaimSeven
namespace Go.Proofs.YtaaneecceiefoaaDoor
namespace Rows

/-- THE TIED CARD OF 'wireschemalaw19.MaskKeeps'. -/
def maskKeepsCard : Claim7 := { stood := { row := maskKeepsRow, standIns := [], harness := (true, "f17defb442697806e20c655176c7806de948f3e780ba5f0b652e7861ebb99834"), looks := false }, kinds := [], alts := [], laidByText := true, laidKinds := [.data, .pinned], laidTests := true, laidLooks := .later }
def MaskKeepsCardSaid : Prop := Claim7.holds Tryd.pinned (.plain (OpenSpec.ofChange maskKeepsSpec)) maskKeepsCard

/-- THE TIED CARD OF 'wireschemalaw19.MaskSplits'. -/
def maskSplitsCard : Claim7 := { stood := { row := maskSplitsRow, standIns := [], harness := (true, "f17defb442697806e20c655176c7806de948f3e780ba5f0b652e7861ebb99834"), looks := false }, kinds := [], alts := [], laidByText := true, laidKinds := [.data, .pinned], laidTests := true, laidLooks := .later }
def MaskSplitsCardSaid : Prop := Claim7.holds Tryd.pinned (.plain (OpenSpec.ofChange maskSplitsSpec)) maskSplitsCard

/-- THE TIED CARD OF 'wireschemalaw19.MaskSets'. -/
def maskSetsCard : Claim7 := { stood := { row := maskSetsRow, standIns := [], harness := (true, "f17defb442697806e20c655176c7806de948f3e780ba5f0b652e7861ebb99834"), looks := false }, kinds := [], alts := [], laidByText := true, laidKinds := [.data, .pinned], laidTests := true, laidLooks := .later }
def MaskSetsCardSaid : Prop := Claim7.holds Tryd.pinned (.plain (OpenSpec.ofChange maskSetsSpec)) maskSetsCard

/-- THE SECOND FORM's CARD OF 'wireschemalaw19.MaskKeeps'. -/
def maskKeepsUptoCard : Claim7 := { stood := { row := maskKeepsUptoRow, standIns := [], harness := (true, "f17defb442697806e20c655176c7806de948f3e780ba5f0b652e7861ebb99834"), looks := false }, kinds := [], alts := [], laidByText := true, laidKinds := [.data, .pinned], laidTests := true, laidLooks := .later }
def MaskKeepsUptoCardSaid : Prop := Claim7.holds Tryd.pinned (.plain (OpenSpec.upto maskKeepsSpec)) maskKeepsUptoCard

/-- THE SECOND FORM's CARD OF 'wireschemalaw19.MaskSplits'. -/
def maskSplitsUptoCard : Claim7 := { stood := { row := maskSplitsUptoRow, standIns := [], harness := (true, "f17defb442697806e20c655176c7806de948f3e780ba5f0b652e7861ebb99834"), looks := false }, kinds := [], alts := [], laidByText := true, laidKinds := [.data, .pinned], laidTests := true, laidLooks := .later }
def MaskSplitsUptoCardSaid : Prop := Claim7.holds Tryd.pinned (.plain (OpenSpec.upto maskSplitsSpec)) maskSplitsUptoCard

/-- THE SECOND FORM's CARD OF 'wireschemalaw19.MaskSets'. -/
def maskSetsUptoCard : Claim7 := { stood := { row := maskSetsUptoRow, standIns := [], harness := (true, "f17defb442697806e20c655176c7806de948f3e780ba5f0b652e7861ebb99834"), looks := false }, kinds := [], alts := [], laidByText := true, laidKinds := [.data, .pinned], laidTests := true, laidLooks := .later }
def MaskSetsUptoCardSaid : Prop := Claim7.holds Tryd.pinned (.plain (OpenSpec.upto maskSetsSpec)) maskSetsUptoCard
end Rows
end Go.Proofs.YtaaneecceiefoaaDoor
