/-
  DERIVED. GIVEN WITH THE SEED: THE CARDS: each row of YtigfjnbgchndkaaGreatDoorRows.lean that lists a variable, with what it lists TIED to the program's text (the seventh form; the later family's looks); each row that meets fmt, with fmt's text TOLD by the authors' own Lean function (tested against real Go, not proved from fmt's source: count such statements apart). THE CARD IS WHAT COUNTS. Prove the row's statement (the work); the ties are given (YtigfjnbgchndkaaGreatDoorTie.lean); close each card by the builder's one call (the guide's Derived/Test/ToyasCard.lean, 'card_holds'). Laid BY PROGRAM, IN A SANDBOX (cutbox-door.mjs). By AI agents, Wed Nov 11 2026. No macro, syntax, notation, axiom, sorry.
-/
import Derived.Test.YtigfjnbgchndkaaGreatDoorRows
import GoSem.ClaimSeven
namespace Go.Proofs.YtigfjnbgchndkaaGreatDoor
namespace Rows

/-- THE TIED CARD OF 'wireschemalaw12.CheckAlls'. -/
def checkAllsCard : Claim7 := { stood := { row := checkAllsRow, standIns := [], harness := (true, "d81b0183d720ed4b2012467b503a495bf466369829e51f073f0aeaf58e0d6500"), looks := false }, kinds := [], alts := [], laidByText := true, laidKinds := [.data, .pinned], laidTests := true, laidLooks := .later }
def CheckAllsCardSaid : Prop := Claim7.holds Tryz.pinned (.plain (OpenSpec.ofChange checkAllsSpec)) checkAllsCard

/-- THE TIED CARD OF 'wireschemalaw12.CheckMessages'. -/
def checkMessagesCard : Claim7 := { stood := { row := checkMessagesRow, standIns := [], harness := (true, "d81b0183d720ed4b2012467b503a495bf466369829e51f073f0aeaf58e0d6500"), looks := false }, kinds := [], alts := [], laidByText := true, laidKinds := [.data, .pinned], laidTests := true, laidLooks := .later }
def CheckMessagesCardSaid : Prop := Claim7.holds Tryz.pinned (.plain (OpenSpec.ofChange checkMessagesSpec)) checkMessagesCard

/-- THE TIED CARD OF 'wireschemalaw12.CheckEnums'. -/
def checkEnumsCard : Claim7 := { stood := { row := checkEnumsRow, standIns := [], harness := (true, "d81b0183d720ed4b2012467b503a495bf466369829e51f073f0aeaf58e0d6500"), looks := false }, kinds := [], alts := [], laidByText := true, laidKinds := [.data, .pinned], laidTests := true, laidLooks := .later }
def CheckEnumsCardSaid : Prop := Claim7.holds Tryz.pinned (.plain (OpenSpec.ofChange checkEnumsSpec)) checkEnumsCard

/-- THE TIED CARD OF 'wireschemalaw12.CheckServices'. -/
def checkServicesCard : Claim7 := { stood := { row := checkServicesRow, standIns := [], harness := (true, "d81b0183d720ed4b2012467b503a495bf466369829e51f073f0aeaf58e0d6500"), looks := false }, kinds := [], alts := [], laidByText := true, laidKinds := [.data, .pinned], laidTests := true, laidLooks := .later }
def CheckServicesCardSaid : Prop := Claim7.holds Tryz.pinned (.plain (OpenSpec.ofChange checkServicesSpec)) checkServicesCard

/-- THE SECOND FORM's CARD OF 'wireschemalaw12.CheckAlls'. -/
def checkAllsUptoCard : Claim7 := { stood := { row := checkAllsUptoRow, standIns := [], harness := (true, "d81b0183d720ed4b2012467b503a495bf466369829e51f073f0aeaf58e0d6500"), looks := false }, kinds := [], alts := [], laidByText := true, laidKinds := [.data, .pinned], laidTests := true, laidLooks := .later }
def CheckAllsUptoCardSaid : Prop := Claim7.holds Tryz.pinned (.plain (OpenSpec.upto checkAllsSpec)) checkAllsUptoCard

/-- THE SECOND FORM's CARD OF 'wireschemalaw12.CheckMessages'. -/
def checkMessagesUptoCard : Claim7 := { stood := { row := checkMessagesUptoRow, standIns := [], harness := (true, "d81b0183d720ed4b2012467b503a495bf466369829e51f073f0aeaf58e0d6500"), looks := false }, kinds := [], alts := [], laidByText := true, laidKinds := [.data, .pinned], laidTests := true, laidLooks := .later }
def CheckMessagesUptoCardSaid : Prop := Claim7.holds Tryz.pinned (.plain (OpenSpec.upto checkMessagesSpec)) checkMessagesUptoCard

/-- THE SECOND FORM's CARD OF 'wireschemalaw12.CheckEnums'. -/
def checkEnumsUptoCard : Claim7 := { stood := { row := checkEnumsUptoRow, standIns := [], harness := (true, "d81b0183d720ed4b2012467b503a495bf466369829e51f073f0aeaf58e0d6500"), looks := false }, kinds := [], alts := [], laidByText := true, laidKinds := [.data, .pinned], laidTests := true, laidLooks := .later }
def CheckEnumsUptoCardSaid : Prop := Claim7.holds Tryz.pinned (.plain (OpenSpec.upto checkEnumsSpec)) checkEnumsUptoCard

/-- THE SECOND FORM's CARD OF 'wireschemalaw12.CheckServices'. -/
def checkServicesUptoCard : Claim7 := { stood := { row := checkServicesUptoRow, standIns := [], harness := (true, "d81b0183d720ed4b2012467b503a495bf466369829e51f073f0aeaf58e0d6500"), looks := false }, kinds := [], alts := [], laidByText := true, laidKinds := [.data, .pinned], laidTests := true, laidLooks := .later }
def CheckServicesUptoCardSaid : Prop := Claim7.holds Tryz.pinned (.plain (OpenSpec.upto checkServicesSpec)) checkServicesUptoCard
end Rows
end Go.Proofs.YtigfjnbgchndkaaGreatDoor
