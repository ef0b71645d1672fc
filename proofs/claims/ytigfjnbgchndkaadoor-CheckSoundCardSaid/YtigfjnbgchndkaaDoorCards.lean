/-
  DERIVED. GIVEN WITH THE SEED: THE CARDS: each row of YtigfjnbgchndkaaDoorRows.lean that lists a variable, with what it lists TIED to the program's text (the seventh form; the later family's looks); each row that meets fmt, with fmt's text TOLD by the authors' own Lean function (tested against real Go, not proved from fmt's source: count such statements apart). THE CARD IS WHAT COUNTS. Prove the row's statement (the work); the ties are given (YtigfjnbgchndkaaDoorTie.lean); close each card by the builder's one call (the guide's Derived/Test/ToyasCard.lean, 'card_holds'). Laid BY PROGRAM, IN A SANDBOX (cutbox-door.mjs). By AI agents, Wed Nov 11 2026. No macro, syntax, notation, axiom, sorry.
-/
import Derived.Test.YtigfjnbgchndkaaDoorRows
import GoSem.ClaimSeven
namespace Go.Proofs.YtigfjnbgchndkaaDoor
namespace Rows

/-- THE TIED CARD OF 'wireschemalaw12.CheckReserved'. -/
def checkReservedCard : Claim7 := { stood := { row := checkReservedRow, standIns := [], harness := (true, "749aea9d8e49887fb8305dcb365ee3cd466705448349a156b795038bc73fe5a6"), looks := false }, kinds := [], alts := [], laidByText := true, laidKinds := [.data, .pinned], laidTests := true, laidLooks := .later }
def CheckReservedCardSaid : Prop := Claim7.holds Tryd.pinned (.plain (OpenSpec.ofChange checkReservedSpec)) checkReservedCard

/-- THE TIED CARD OF 'wireschemalaw12.CheckSound'. -/
def checkSoundCard : Claim7 := { stood := { row := checkSoundRow, standIns := [], harness := (true, "749aea9d8e49887fb8305dcb365ee3cd466705448349a156b795038bc73fe5a6"), looks := false }, kinds := [], alts := [], laidByText := true, laidKinds := [.data, .pinned], laidTests := true, laidLooks := .later }
def CheckSoundCardSaid : Prop := Claim7.holds Tryd.pinned (.plain (OpenSpec.ofChange checkSoundSpec)) checkSoundCard

/-- THE TIED CARD OF 'wireschemalaw12.CheckParts'. -/
def checkPartsCard : Claim7 := { stood := { row := checkPartsRow, standIns := [], harness := (true, "749aea9d8e49887fb8305dcb365ee3cd466705448349a156b795038bc73fe5a6"), looks := false }, kinds := [], alts := [], laidByText := true, laidKinds := [.data, .pinned], laidTests := true, laidLooks := .later }
def CheckPartsCardSaid : Prop := Claim7.holds Tryd.pinned (.plain (OpenSpec.ofChange checkPartsSpec)) checkPartsCard

/-- THE TIED CARD OF 'wireschemalaw12.CheckRemoves'. -/
def checkRemovesCard : Claim7 := { stood := { row := checkRemovesRow, standIns := [], harness := (true, "749aea9d8e49887fb8305dcb365ee3cd466705448349a156b795038bc73fe5a6"), looks := false }, kinds := [], alts := [], laidByText := true, laidKinds := [.data, .pinned], laidTests := true, laidLooks := .later }
def CheckRemovesCardSaid : Prop := Claim7.holds Tryd.pinned (.plain (OpenSpec.ofChange checkRemovesSpec)) checkRemovesCard

/-- THE SECOND FORM's CARD OF 'wireschemalaw12.CheckReserved'. -/
def checkReservedUptoCard : Claim7 := { stood := { row := checkReservedUptoRow, standIns := [], harness := (true, "749aea9d8e49887fb8305dcb365ee3cd466705448349a156b795038bc73fe5a6"), looks := false }, kinds := [], alts := [], laidByText := true, laidKinds := [.data, .pinned], laidTests := true, laidLooks := .later }
def CheckReservedUptoCardSaid : Prop := Claim7.holds Tryd.pinned (.plain (OpenSpec.upto checkReservedSpec)) checkReservedUptoCard

/-- THE SECOND FORM's CARD OF 'wireschemalaw12.CheckSound'. -/
def checkSoundUptoCard : Claim7 := { stood := { row := checkSoundUptoRow, standIns := [], harness := (true, "749aea9d8e49887fb8305dcb365ee3cd466705448349a156b795038bc73fe5a6"), looks := false }, kinds := [], alts := [], laidByText := true, laidKinds := [.data, .pinned], laidTests := true, laidLooks := .later }
def CheckSoundUptoCardSaid : Prop := Claim7.holds Tryd.pinned (.plain (OpenSpec.upto checkSoundSpec)) checkSoundUptoCard

/-- THE SECOND FORM's CARD OF 'wireschemalaw12.CheckParts'. -/
def checkPartsUptoCard : Claim7 := { stood := { row := checkPartsUptoRow, standIns := [], harness := (true, "749aea9d8e49887fb8305dcb365ee3cd466705448349a156b795038bc73fe5a6"), looks := false }, kinds := [], alts := [], laidByText := true, laidKinds := [.data, .pinned], laidTests := true, laidLooks := .later }
def CheckPartsUptoCardSaid : Prop := Claim7.holds Tryd.pinned (.plain (OpenSpec.upto checkPartsSpec)) checkPartsUptoCard

/-- THE SECOND FORM's CARD OF 'wireschemalaw12.CheckRemoves'. -/
def checkRemovesUptoCard : Claim7 := { stood := { row := checkRemovesUptoRow, standIns := [], harness := (true, "749aea9d8e49887fb8305dcb365ee3cd466705448349a156b795038bc73fe5a6"), looks := false }, kinds := [], alts := [], laidByText := true, laidKinds := [.data, .pinned], laidTests := true, laidLooks := .later }
def CheckRemovesUptoCardSaid : Prop := Claim7.holds Tryd.pinned (.plain (OpenSpec.upto checkRemovesSpec)) checkRemovesUptoCard
end Rows
end Go.Proofs.YtigfjnbgchndkaaDoor
