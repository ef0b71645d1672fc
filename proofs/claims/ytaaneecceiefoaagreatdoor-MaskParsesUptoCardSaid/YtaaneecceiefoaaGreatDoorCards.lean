/-
  DERIVED. GIVEN WITH THE SEED: THE CARDS: each row of YtaaneecceiefoaaGreatDoorRows.lean that lists a variable, with what it lists TIED to the program's text (the seventh form; the later family's looks); each row that meets fmt, with fmt's text TOLD by the authors' own Lean function (tested against real Go, not proved from fmt's source: count such statements apart). THE CARD IS WHAT COUNTS. Prove the row's statement (the work); the ties are given (YtaaneecceiefoaaGreatDoorTie.lean); close each card by the builder's one call (the guide's Derived/Test/ToyasCard.lean, 'card_holds'). Laid BY PROGRAM, IN A SANDBOX (cutbox-door.mjs). By AI agents, Wed Nov 11 2026. No macro, syntax, notation, axiom, sorry.
-/
import Derived.Test.YtaaneecceiefoaaGreatDoorRows
import GoSem.ClaimSeven
namespace Go.Proofs.YtaaneecceiefoaaGreatDoor
namespace Rows

/-- THE TIED CARD OF 'wireschemalaw19.MaskChecks'. -/
def maskChecksCard : Claim7 := { stood := { row := maskChecksRow, standIns := [], harness := (true, "5f0375ad9219c8b12d5b520ade6918bb469b785e7fab66b5b216d9186da5c292"), looks := false }, kinds := [], alts := [], laidByText := true, laidKinds := [.data, .pinned], laidTests := true, laidLooks := .later }
def MaskChecksCardSaid : Prop := Claim7.holds Tryz.pinned (.plain (OpenSpec.ofChange maskChecksSpec)) maskChecksCard

/-- THE TIED CARD OF 'wireschemalaw19.MaskParses'. -/
def maskParsesCard : Claim7 := { stood := { row := maskParsesRow, standIns := [], harness := (true, "5f0375ad9219c8b12d5b520ade6918bb469b785e7fab66b5b216d9186da5c292"), looks := false }, kinds := [], alts := [], laidByText := true, laidKinds := [.data, .pinned], laidTests := true, laidLooks := .later }
def MaskParsesCardSaid : Prop := Claim7.holds Tryz.pinned (.plain (OpenSpec.ofChange maskParsesSpec)) maskParsesCard

/-- THE TIED CARD OF 'wireschemalaw19.MaskTexts'. -/
def maskTextsCard : Claim7 := { stood := { row := maskTextsRow, standIns := [], harness := (true, "5f0375ad9219c8b12d5b520ade6918bb469b785e7fab66b5b216d9186da5c292"), looks := false }, kinds := [], alts := [], laidByText := true, laidKinds := [.data, .pinned], laidTests := true, laidLooks := .later }
def MaskTextsCardSaid : Prop := Claim7.holds Tryz.pinned (.plain (OpenSpec.ofChange maskTextsSpec)) maskTextsCard

/-- THE TIED CARD OF 'wireschemalaw19.MaskMinus'. -/
def maskMinusCard : Claim7 := { stood := { row := maskMinusRow, standIns := [], harness := (true, "5f0375ad9219c8b12d5b520ade6918bb469b785e7fab66b5b216d9186da5c292"), looks := false }, kinds := [], alts := [], laidByText := true, laidKinds := [.data, .pinned], laidTests := true, laidLooks := .later }
def MaskMinusCardSaid : Prop := Claim7.holds Tryz.pinned (.plain (OpenSpec.ofChange maskMinusSpec)) maskMinusCard

/-- THE TIED CARD OF 'wireschemalaw19.MaskAlgebra'. -/
def maskAlgebraCard : Claim7 := { stood := { row := maskAlgebraRow, standIns := [], harness := (true, "5f0375ad9219c8b12d5b520ade6918bb469b785e7fab66b5b216d9186da5c292"), looks := false }, kinds := [], alts := [], laidByText := true, laidKinds := [.data, .pinned], laidTests := true, laidLooks := .later }
def MaskAlgebraCardSaid : Prop := Claim7.holds Tryz.pinned (.plain (OpenSpec.ofChange maskAlgebraSpec)) maskAlgebraCard

/-- THE SECOND FORM's CARD OF 'wireschemalaw19.MaskChecks'. -/
def maskChecksUptoCard : Claim7 := { stood := { row := maskChecksUptoRow, standIns := [], harness := (true, "5f0375ad9219c8b12d5b520ade6918bb469b785e7fab66b5b216d9186da5c292"), looks := false }, kinds := [], alts := [], laidByText := true, laidKinds := [.data, .pinned], laidTests := true, laidLooks := .later }
def MaskChecksUptoCardSaid : Prop := Claim7.holds Tryz.pinned (.plain (OpenSpec.upto maskChecksSpec)) maskChecksUptoCard

/-- THE SECOND FORM's CARD OF 'wireschemalaw19.MaskParses'. -/
def maskParsesUptoCard : Claim7 := { stood := { row := maskParsesUptoRow, standIns := [], harness := (true, "5f0375ad9219c8b12d5b520ade6918bb469b785e7fab66b5b216d9186da5c292"), looks := false }, kinds := [], alts := [], laidByText := true, laidKinds := [.data, .pinned], laidTests := true, laidLooks := .later }
def MaskParsesUptoCardSaid : Prop := Claim7.holds Tryz.pinned (.plain (OpenSpec.upto maskParsesSpec)) maskParsesUptoCard

/-- THE SECOND FORM's CARD OF 'wireschemalaw19.MaskTexts'. -/
def maskTextsUptoCard : Claim7 := { stood := { row := maskTextsUptoRow, standIns := [], harness := (true, "5f0375ad9219c8b12d5b520ade6918bb469b785e7fab66b5b216d9186da5c292"), looks := false }, kinds := [], alts := [], laidByText := true, laidKinds := [.data, .pinned], laidTests := true, laidLooks := .later }
def MaskTextsUptoCardSaid : Prop := Claim7.holds Tryz.pinned (.plain (OpenSpec.upto maskTextsSpec)) maskTextsUptoCard

/-- THE SECOND FORM's CARD OF 'wireschemalaw19.MaskMinus'. -/
def maskMinusUptoCard : Claim7 := { stood := { row := maskMinusUptoRow, standIns := [], harness := (true, "5f0375ad9219c8b12d5b520ade6918bb469b785e7fab66b5b216d9186da5c292"), looks := false }, kinds := [], alts := [], laidByText := true, laidKinds := [.data, .pinned], laidTests := true, laidLooks := .later }
def MaskMinusUptoCardSaid : Prop := Claim7.holds Tryz.pinned (.plain (OpenSpec.upto maskMinusSpec)) maskMinusUptoCard

/-- THE SECOND FORM's CARD OF 'wireschemalaw19.MaskAlgebra'. -/
def maskAlgebraUptoCard : Claim7 := { stood := { row := maskAlgebraUptoRow, standIns := [], harness := (true, "5f0375ad9219c8b12d5b520ade6918bb469b785e7fab66b5b216d9186da5c292"), looks := false }, kinds := [], alts := [], laidByText := true, laidKinds := [.data, .pinned], laidTests := true, laidLooks := .later }
def MaskAlgebraUptoCardSaid : Prop := Claim7.holds Tryz.pinned (.plain (OpenSpec.upto maskAlgebraSpec)) maskAlgebraUptoCard
end Rows
end Go.Proofs.YtaaneecceiefoaaGreatDoor
