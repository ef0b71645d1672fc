/-
  DERIVED. GIVEN WITH THE SEED: THE CARDS: each row of YtfoaaglbpmmhiaaGreatDoorRows.lean that lists a variable, with what it lists TIED to the program's text (the seventh form; the later family's looks); each row that meets fmt, with fmt's text TOLD by the authors' own Lean function (tested against real Go, not proved from fmt's source: count such statements apart). THE CARD IS WHAT COUNTS. Prove the row's statement (the work); the ties are given (YtfoaaglbpmmhiaaGreatDoorTie.lean); close each card by the builder's one call (the guide's Derived/Test/ToyasCard.lean, 'card_holds'). Laid BY PROGRAM, IN A SANDBOX (cutbox-door.mjs). By AI agents, Wed Nov 11 2026. No macro, syntax, notation, axiom, sorry.
-/
import Derived.Test.YtfoaaglbpmmhiaaGreatDoorRows
import GoSem.ClaimSeven
namespace Go.Proofs.YtfoaaglbpmmhiaaGreatDoor
namespace Rows

/-- THE TIED CARD OF 'wireschemalaw35.ModelMakes'. -/
def modelMakesCard : Claim7 := { stood := { row := modelMakesRow, standIns := [], harness := (true, "b94157d29c881e69653b2db8d7d41adc1f84e9fc8514790117bad274c1f09347"), looks := false }, kinds := [], alts := [], laidByText := true, laidKinds := [.data, .data, .data, .data, .pinned, .pinned], laidTests := true, laidLooks := .later }
def ModelMakesCardSaid : Prop := Claim7.holds Tryz.pinned (.plain (OpenSpec.ofChange modelMakesSpec)) modelMakesCard

/-- THE TIED CARD OF 'wireschemalaw35.ModelTexts'. -/
def modelTextsCard : Claim7 := { stood := { row := modelTextsRow, standIns := [], harness := (true, "b94157d29c881e69653b2db8d7d41adc1f84e9fc8514790117bad274c1f09347"), looks := false }, kinds := [], alts := [], laidByText := true, laidKinds := [.data, .data, .data, .data, .pinned, .pinned], laidTests := true, laidLooks := .later }
def ModelTextsCardSaid : Prop := Claim7.holds Tryz.pinned (.plain (OpenSpec.ofChange modelTextsSpec)) modelTextsCard

/-- THE TIED CARD OF 'wireschemalaw35.ModelUniques'. -/
def modelUniquesCard : Claim7 := { stood := { row := modelUniquesRow, standIns := [], harness := (true, "b94157d29c881e69653b2db8d7d41adc1f84e9fc8514790117bad274c1f09347"), looks := false }, kinds := [], alts := [], laidByText := true, laidKinds := [.data, .data, .data, .data, .pinned, .pinned], laidTests := true, laidLooks := .later }
def ModelUniquesCardSaid : Prop := Claim7.holds Tryz.pinned (.plain (OpenSpec.ofChange modelUniquesSpec)) modelUniquesCard

/-- THE TIED CARD OF 'wireschemalaw35.ModelMembers'. -/
def modelMembersCard : Claim7 := { stood := { row := modelMembersRow, standIns := [], harness := (true, "b94157d29c881e69653b2db8d7d41adc1f84e9fc8514790117bad274c1f09347"), looks := false }, kinds := [], alts := [], laidByText := true, laidKinds := [.data, .data, .data, .data, .pinned, .pinned], laidTests := true, laidLooks := .later }
def ModelMembersCardSaid : Prop := Claim7.holds Tryz.pinned (.plain (OpenSpec.ofChange modelMembersSpec)) modelMembersCard

/-- THE TIED CARD OF 'wireschemalaw35.ModelMethods'. -/
def modelMethodsCard : Claim7 := { stood := { row := modelMethodsRow, standIns := [], harness := (true, "b94157d29c881e69653b2db8d7d41adc1f84e9fc8514790117bad274c1f09347"), looks := false }, kinds := [], alts := [], laidByText := true, laidKinds := [.data, .data, .data, .data, .pinned, .pinned], laidTests := true, laidLooks := .later }
def ModelMethodsCardSaid : Prop := Claim7.holds Tryz.pinned (.plain (OpenSpec.ofChange modelMethodsSpec)) modelMethodsCard

/-- THE TIED CARD OF 'wireschemalaw35.ModelUnique'. -/
def modelUniqueCard : Claim7 := { stood := { row := modelUniqueRow, standIns := [], harness := (true, "b94157d29c881e69653b2db8d7d41adc1f84e9fc8514790117bad274c1f09347"), looks := false }, kinds := [], alts := [], laidByText := true, laidKinds := [.data, .data, .data, .data, .pinned, .pinned], laidTests := true, laidLooks := .later }
def ModelUniqueCardSaid : Prop := Claim7.holds Tryz.pinned (.plain (OpenSpec.ofChange modelUniqueSpec)) modelUniqueCard

/-- THE TIED CARD OF 'wireschemalaw35.ModelFinds'. -/
def modelFindsCard : Claim7 := { stood := { row := modelFindsRow, standIns := [], harness := (true, "b94157d29c881e69653b2db8d7d41adc1f84e9fc8514790117bad274c1f09347"), looks := false }, kinds := [], alts := [], laidByText := true, laidKinds := [.data, .data, .data, .data, .pinned, .pinned], laidTests := true, laidLooks := .later }
def ModelFindsCardSaid : Prop := Claim7.holds Tryz.pinned (.plain (OpenSpec.ofChange modelFindsSpec)) modelFindsCard

/-- THE SECOND FORM's CARD OF 'wireschemalaw35.ModelMakes'. -/
def modelMakesUptoCard : Claim7 := { stood := { row := modelMakesUptoRow, standIns := [], harness := (true, "b94157d29c881e69653b2db8d7d41adc1f84e9fc8514790117bad274c1f09347"), looks := false }, kinds := [], alts := [], laidByText := true, laidKinds := [.data, .data, .data, .data, .pinned, .pinned], laidTests := true, laidLooks := .later }
def ModelMakesUptoCardSaid : Prop := Claim7.holds Tryz.pinned (.plain (OpenSpec.upto modelMakesSpec)) modelMakesUptoCard

/-- THE SECOND FORM's CARD OF 'wireschemalaw35.ModelTexts'. -/
def modelTextsUptoCard : Claim7 := { stood := { row := modelTextsUptoRow, standIns := [], harness := (true, "b94157d29c881e69653b2db8d7d41adc1f84e9fc8514790117bad274c1f09347"), looks := false }, kinds := [], alts := [], laidByText := true, laidKinds := [.data, .data, .data, .data, .pinned, .pinned], laidTests := true, laidLooks := .later }
def ModelTextsUptoCardSaid : Prop := Claim7.holds Tryz.pinned (.plain (OpenSpec.upto modelTextsSpec)) modelTextsUptoCard

/-- THE SECOND FORM's CARD OF 'wireschemalaw35.ModelUniques'. -/
def modelUniquesUptoCard : Claim7 := { stood := { row := modelUniquesUptoRow, standIns := [], harness := (true, "b94157d29c881e69653b2db8d7d41adc1f84e9fc8514790117bad274c1f09347"), looks := false }, kinds := [], alts := [], laidByText := true, laidKinds := [.data, .data, .data, .data, .pinned, .pinned], laidTests := true, laidLooks := .later }
def ModelUniquesUptoCardSaid : Prop := Claim7.holds Tryz.pinned (.plain (OpenSpec.upto modelUniquesSpec)) modelUniquesUptoCard

/-- THE SECOND FORM's CARD OF 'wireschemalaw35.ModelMembers'. -/
def modelMembersUptoCard : Claim7 := { stood := { row := modelMembersUptoRow, standIns := [], harness := (true, "b94157d29c881e69653b2db8d7d41adc1f84e9fc8514790117bad274c1f09347"), looks := false }, kinds := [], alts := [], laidByText := true, laidKinds := [.data, .data, .data, .data, .pinned, .pinned], laidTests := true, laidLooks := .later }
def ModelMembersUptoCardSaid : Prop := Claim7.holds Tryz.pinned (.plain (OpenSpec.upto modelMembersSpec)) modelMembersUptoCard

/-- THE SECOND FORM's CARD OF 'wireschemalaw35.ModelMethods'. -/
def modelMethodsUptoCard : Claim7 := { stood := { row := modelMethodsUptoRow, standIns := [], harness := (true, "b94157d29c881e69653b2db8d7d41adc1f84e9fc8514790117bad274c1f09347"), looks := false }, kinds := [], alts := [], laidByText := true, laidKinds := [.data, .data, .data, .data, .pinned, .pinned], laidTests := true, laidLooks := .later }
def ModelMethodsUptoCardSaid : Prop := Claim7.holds Tryz.pinned (.plain (OpenSpec.upto modelMethodsSpec)) modelMethodsUptoCard

/-- THE SECOND FORM's CARD OF 'wireschemalaw35.ModelUnique'. -/
def modelUniqueUptoCard : Claim7 := { stood := { row := modelUniqueUptoRow, standIns := [], harness := (true, "b94157d29c881e69653b2db8d7d41adc1f84e9fc8514790117bad274c1f09347"), looks := false }, kinds := [], alts := [], laidByText := true, laidKinds := [.data, .data, .data, .data, .pinned, .pinned], laidTests := true, laidLooks := .later }
def ModelUniqueUptoCardSaid : Prop := Claim7.holds Tryz.pinned (.plain (OpenSpec.upto modelUniqueSpec)) modelUniqueUptoCard

/-- THE SECOND FORM's CARD OF 'wireschemalaw35.ModelFinds'. -/
def modelFindsUptoCard : Claim7 := { stood := { row := modelFindsUptoRow, standIns := [], harness := (true, "b94157d29c881e69653b2db8d7d41adc1f84e9fc8514790117bad274c1f09347"), looks := false }, kinds := [], alts := [], laidByText := true, laidKinds := [.data, .data, .data, .data, .pinned, .pinned], laidTests := true, laidLooks := .later }
def ModelFindsUptoCardSaid : Prop := Claim7.holds Tryz.pinned (.plain (OpenSpec.upto modelFindsSpec)) modelFindsUptoCard
end Rows
end Go.Proofs.YtfoaaglbpmmhiaaGreatDoor
