/-
  DERIVED. GIVEN WITH THE SEED: THE CARDS: each row of YtefnihgjacnjfaaDoorRows.lean that lists a variable, with what it lists TIED to the program's text (the seventh form; the later family's looks); each row that meets fmt, with fmt's text TOLD by the authors' own Lean function (tested against real Go, not proved from fmt's source: count such statements apart). THE CARD IS WHAT COUNTS. Prove the row's statement (the work); the ties are given (YtefnihgjacnjfaaDoorTie.lean); close each card by the builder's one call (the guide's Derived/Test/ToyasCard.lean, 'card_holds'). Laid BY PROGRAM, IN A SANDBOX (cutbox-door.mjs). By AI agents, Wed Nov 11 2026. No macro, syntax, notation, axiom, sorry.
-/
import Derived.Test.YtefnihgjacnjfaaDoorRows
import GoSem.ClaimSeven
namespace Go.Proofs.YtefnihgjacnjfaaDoor
namespace Rows

/-- THE TIED CARD OF 'wireschemalaw06.IdentNames'. -/
def identNamesCard : Claim7 := { stood := { row := identNamesRow, standIns := [], harness := (true, "e180585f61f8901e70e5f6fab094866efc6bff36b7d1ebde177f9a7696d7eb89"), looks := false }, kinds := [], alts := [], laidByText := true, laidKinds := [.data, .pinned, .pinned], laidTests := true, laidLooks := .later }
def IdentNamesCardSaid : Prop := Claim7.holds Tryd.pinned (.plain (OpenSpec.ofChange identNamesSpec)) identNamesCard

/-- THE TIED CARD OF 'wireschemalaw06.IdentJoins'. -/
def identJoinsCard : Claim7 := { stood := { row := identJoinsRow, standIns := [], harness := (true, "e180585f61f8901e70e5f6fab094866efc6bff36b7d1ebde177f9a7696d7eb89"), looks := false }, kinds := [], alts := [], laidByText := true, laidKinds := [.data, .pinned, .pinned], laidTests := true, laidLooks := .later }
def IdentJoinsCardSaid : Prop := Claim7.holds Tryd.pinned (.plain (OpenSpec.ofChange identJoinsSpec)) identJoinsCard

/-- THE TIED CARD OF 'wireschemalaw06.IdentMeans'. -/
def identMeansCard : Claim7 := { stood := { row := identMeansRow, standIns := [], harness := (true, "e180585f61f8901e70e5f6fab094866efc6bff36b7d1ebde177f9a7696d7eb89"), looks := false }, kinds := [], alts := [], laidByText := true, laidKinds := [.data, .pinned, .pinned], laidTests := true, laidLooks := .later }
def IdentMeansCardSaid : Prop := Claim7.holds Tryd.pinned (.plain (OpenSpec.ofChange identMeansSpec)) identMeansCard

/-- THE TIED CARD OF 'wireschemalaw06.IdentCases'. -/
def identCasesCard : Claim7 := { stood := { row := identCasesRow, standIns := [], harness := (true, "e180585f61f8901e70e5f6fab094866efc6bff36b7d1ebde177f9a7696d7eb89"), looks := false }, kinds := [], alts := [], laidByText := true, laidKinds := [.data, .pinned, .pinned], laidTests := true, laidLooks := .later }
def IdentCasesCardSaid : Prop := Claim7.holds Tryd.pinned (.plain (OpenSpec.ofChange identCasesSpec)) identCasesCard

/-- THE TIED CARD OF 'wireschemalaw06.IdentResolves'. -/
def identResolvesCard : Claim7 := { stood := { row := identResolvesRow, standIns := [], harness := (true, "e180585f61f8901e70e5f6fab094866efc6bff36b7d1ebde177f9a7696d7eb89"), looks := false }, kinds := [], alts := [], laidByText := true, laidKinds := [.data, .pinned, .pinned], laidTests := true, laidLooks := .later }
def IdentResolvesCardSaid : Prop := Claim7.holds Tryd.pinned (.plain (OpenSpec.ofChange identResolvesSpec)) identResolvesCard

/-- THE TIED CARD OF 'wireschemalaw06.IdentSplits'. -/
def identSplitsCard : Claim7 := { stood := { row := identSplitsRow, standIns := [], harness := (true, "e180585f61f8901e70e5f6fab094866efc6bff36b7d1ebde177f9a7696d7eb89"), looks := false }, kinds := [], alts := [], laidByText := true, laidKinds := [.data, .pinned, .pinned], laidTests := true, laidLooks := .later }
def IdentSplitsCardSaid : Prop := Claim7.holds Tryd.pinned (.plain (OpenSpec.ofChange identSplitsSpec)) identSplitsCard

/-- THE TIED CARD OF 'wireschemalaw06.IdentCamels'. -/
def identCamelsCard : Claim7 := { stood := { row := identCamelsRow, standIns := [], harness := (true, "e180585f61f8901e70e5f6fab094866efc6bff36b7d1ebde177f9a7696d7eb89"), looks := false }, kinds := [], alts := [], laidByText := true, laidKinds := [.data, .pinned, .pinned], laidTests := true, laidLooks := .later }
def IdentCamelsCardSaid : Prop := Claim7.holds Tryd.pinned (.plain (OpenSpec.ofChange identCamelsSpec)) identCamelsCard

/-- THE SECOND FORM's CARD OF 'wireschemalaw06.IdentNames'. -/
def identNamesUptoCard : Claim7 := { stood := { row := identNamesUptoRow, standIns := [], harness := (true, "e180585f61f8901e70e5f6fab094866efc6bff36b7d1ebde177f9a7696d7eb89"), looks := false }, kinds := [], alts := [], laidByText := true, laidKinds := [.data, .pinned, .pinned], laidTests := true, laidLooks := .later }
def IdentNamesUptoCardSaid : Prop := Claim7.holds Tryd.pinned (.plain (OpenSpec.upto identNamesSpec)) identNamesUptoCard

/-- THE SECOND FORM's CARD OF 'wireschemalaw06.IdentJoins'. -/
def identJoinsUptoCard : Claim7 := { stood := { row := identJoinsUptoRow, standIns := [], harness := (true, "e180585f61f8901e70e5f6fab094866efc6bff36b7d1ebde177f9a7696d7eb89"), looks := false }, kinds := [], alts := [], laidByText := true, laidKinds := [.data, .pinned, .pinned], laidTests := true, laidLooks := .later }
def IdentJoinsUptoCardSaid : Prop := Claim7.holds Tryd.pinned (.plain (OpenSpec.upto identJoinsSpec)) identJoinsUptoCard

/-- THE SECOND FORM's CARD OF 'wireschemalaw06.IdentMeans'. -/
def identMeansUptoCard : Claim7 := { stood := { row := identMeansUptoRow, standIns := [], harness := (true, "e180585f61f8901e70e5f6fab094866efc6bff36b7d1ebde177f9a7696d7eb89"), looks := false }, kinds := [], alts := [], laidByText := true, laidKinds := [.data, .pinned, .pinned], laidTests := true, laidLooks := .later }
def IdentMeansUptoCardSaid : Prop := Claim7.holds Tryd.pinned (.plain (OpenSpec.upto identMeansSpec)) identMeansUptoCard

/-- THE SECOND FORM's CARD OF 'wireschemalaw06.IdentCases'. -/
def identCasesUptoCard : Claim7 := { stood := { row := identCasesUptoRow, standIns := [], harness := (true, "e180585f61f8901e70e5f6fab094866efc6bff36b7d1ebde177f9a7696d7eb89"), looks := false }, kinds := [], alts := [], laidByText := true, laidKinds := [.data, .pinned, .pinned], laidTests := true, laidLooks := .later }
def IdentCasesUptoCardSaid : Prop := Claim7.holds Tryd.pinned (.plain (OpenSpec.upto identCasesSpec)) identCasesUptoCard

/-- THE SECOND FORM's CARD OF 'wireschemalaw06.IdentResolves'. -/
def identResolvesUptoCard : Claim7 := { stood := { row := identResolvesUptoRow, standIns := [], harness := (true, "e180585f61f8901e70e5f6fab094866efc6bff36b7d1ebde177f9a7696d7eb89"), looks := false }, kinds := [], alts := [], laidByText := true, laidKinds := [.data, .pinned, .pinned], laidTests := true, laidLooks := .later }
def IdentResolvesUptoCardSaid : Prop := Claim7.holds Tryd.pinned (.plain (OpenSpec.upto identResolvesSpec)) identResolvesUptoCard

/-- THE SECOND FORM's CARD OF 'wireschemalaw06.IdentSplits'. -/
def identSplitsUptoCard : Claim7 := { stood := { row := identSplitsUptoRow, standIns := [], harness := (true, "e180585f61f8901e70e5f6fab094866efc6bff36b7d1ebde177f9a7696d7eb89"), looks := false }, kinds := [], alts := [], laidByText := true, laidKinds := [.data, .pinned, .pinned], laidTests := true, laidLooks := .later }
def IdentSplitsUptoCardSaid : Prop := Claim7.holds Tryd.pinned (.plain (OpenSpec.upto identSplitsSpec)) identSplitsUptoCard

/-- THE SECOND FORM's CARD OF 'wireschemalaw06.IdentCamels'. -/
def identCamelsUptoCard : Claim7 := { stood := { row := identCamelsUptoRow, standIns := [], harness := (true, "e180585f61f8901e70e5f6fab094866efc6bff36b7d1ebde177f9a7696d7eb89"), looks := false }, kinds := [], alts := [], laidByText := true, laidKinds := [.data, .pinned, .pinned], laidTests := true, laidLooks := .later }
def IdentCamelsUptoCardSaid : Prop := Claim7.holds Tryd.pinned (.plain (OpenSpec.upto identCamelsSpec)) identCamelsUptoCard
end Rows
end Go.Proofs.YtefnihgjacnjfaaDoor
