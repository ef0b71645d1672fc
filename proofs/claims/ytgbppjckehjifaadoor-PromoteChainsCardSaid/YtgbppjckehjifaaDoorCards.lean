/-
  DERIVED. GIVEN WITH THE SEED: THE CARDS: each row of YtgbppjckehjifaaDoorRows.lean that lists a variable, with what it lists TIED to the program's text (the seventh form; the later family's looks); each row that meets fmt, with fmt's text TOLD by the authors' own Lean function (tested against real Go, not proved from fmt's source: count such statements apart). THE CARD IS WHAT COUNTS. Prove the row's statement (the work); the ties are given (YtgbppjckehjifaaDoorTie.lean); close each card by the builder's one call (the guide's Derived/Test/ToyasCard.lean, 'card_holds'). Laid BY PROGRAM, IN A SANDBOX (cutbox-door.mjs). By AI agents, Wed Nov 11 2026. No macro, syntax, notation, axiom, sorry.
-/
import Derived.Test.YtgbppjckehjifaaDoorRows
import GoSem.ClaimSeven
namespace Go.Proofs.YtgbppjckehjifaaDoor
namespace Rows

/-- THE TIED CARD OF 'wireschemalaw29.PromoteLevels'. -/
def promoteLevelsCard : Claim7 := { stood := { row := promoteLevelsRow, standIns := [], harness := (true, "5fe5c8c35c9d9ecc2a466bac475e81472333b12188b1fdab7668bdcd15914f54"), looks := false }, kinds := [], alts := [], laidByText := true, laidKinds := [.data, .data], laidTests := true, laidLooks := .later }
def PromoteLevelsCardSaid : Prop := Claim7.holds Tryd.pinned (.plain (OpenSpec.ofChange promoteLevelsSpec)) promoteLevelsCard

/-- THE TIED CARD OF 'wireschemalaw29.PromoteTurns'. -/
def promoteTurnsCard : Claim7 := { stood := { row := promoteTurnsRow, standIns := [], harness := (true, "5fe5c8c35c9d9ecc2a466bac475e81472333b12188b1fdab7668bdcd15914f54"), looks := false }, kinds := [], alts := [], laidByText := true, laidKinds := [.data, .data], laidTests := true, laidLooks := .later }
def PromoteTurnsCardSaid : Prop := Claim7.holds Tryd.pinned (.plain (OpenSpec.ofChange promoteTurnsSpec)) promoteTurnsCard

/-- THE TIED CARD OF 'wireschemalaw29.PromoteHonest'. -/
def promoteHonestCard : Claim7 := { stood := { row := promoteHonestRow, standIns := [], harness := (true, "5fe5c8c35c9d9ecc2a466bac475e81472333b12188b1fdab7668bdcd15914f54"), looks := false }, kinds := [], alts := [], laidByText := true, laidKinds := [.data, .data], laidTests := true, laidLooks := .later }
def PromoteHonestCardSaid : Prop := Claim7.holds Tryd.pinned (.plain (OpenSpec.ofChange promoteHonestSpec)) promoteHonestCard

/-- THE TIED CARD OF 'wireschemalaw29.PromoteBack'. -/
def promoteBackCard : Claim7 := { stood := { row := promoteBackRow, standIns := [], harness := (true, "5fe5c8c35c9d9ecc2a466bac475e81472333b12188b1fdab7668bdcd15914f54"), looks := false }, kinds := [], alts := [], laidByText := true, laidKinds := [.data, .data], laidTests := true, laidLooks := .later }
def PromoteBackCardSaid : Prop := Claim7.holds Tryd.pinned (.plain (OpenSpec.ofChange promoteBackSpec)) promoteBackCard

/-- THE TIED CARD OF 'wireschemalaw29.PromoteChains'. -/
def promoteChainsCard : Claim7 := { stood := { row := promoteChainsRow, standIns := [], harness := (true, "5fe5c8c35c9d9ecc2a466bac475e81472333b12188b1fdab7668bdcd15914f54"), looks := false }, kinds := [], alts := [], laidByText := true, laidKinds := [.data, .data], laidTests := true, laidLooks := .later }
def PromoteChainsCardSaid : Prop := Claim7.holds Tryd.pinned (.plain (OpenSpec.ofChange promoteChainsSpec)) promoteChainsCard

/-- THE SECOND FORM's CARD OF 'wireschemalaw29.PromoteLevels'. -/
def promoteLevelsUptoCard : Claim7 := { stood := { row := promoteLevelsUptoRow, standIns := [], harness := (true, "5fe5c8c35c9d9ecc2a466bac475e81472333b12188b1fdab7668bdcd15914f54"), looks := false }, kinds := [], alts := [], laidByText := true, laidKinds := [.data, .data], laidTests := true, laidLooks := .later }
def PromoteLevelsUptoCardSaid : Prop := Claim7.holds Tryd.pinned (.plain (OpenSpec.upto promoteLevelsSpec)) promoteLevelsUptoCard

/-- THE SECOND FORM's CARD OF 'wireschemalaw29.PromoteTurns'. -/
def promoteTurnsUptoCard : Claim7 := { stood := { row := promoteTurnsUptoRow, standIns := [], harness := (true, "5fe5c8c35c9d9ecc2a466bac475e81472333b12188b1fdab7668bdcd15914f54"), looks := false }, kinds := [], alts := [], laidByText := true, laidKinds := [.data, .data], laidTests := true, laidLooks := .later }
def PromoteTurnsUptoCardSaid : Prop := Claim7.holds Tryd.pinned (.plain (OpenSpec.upto promoteTurnsSpec)) promoteTurnsUptoCard

/-- THE SECOND FORM's CARD OF 'wireschemalaw29.PromoteHonest'. -/
def promoteHonestUptoCard : Claim7 := { stood := { row := promoteHonestUptoRow, standIns := [], harness := (true, "5fe5c8c35c9d9ecc2a466bac475e81472333b12188b1fdab7668bdcd15914f54"), looks := false }, kinds := [], alts := [], laidByText := true, laidKinds := [.data, .data], laidTests := true, laidLooks := .later }
def PromoteHonestUptoCardSaid : Prop := Claim7.holds Tryd.pinned (.plain (OpenSpec.upto promoteHonestSpec)) promoteHonestUptoCard

/-- THE SECOND FORM's CARD OF 'wireschemalaw29.PromoteBack'. -/
def promoteBackUptoCard : Claim7 := { stood := { row := promoteBackUptoRow, standIns := [], harness := (true, "5fe5c8c35c9d9ecc2a466bac475e81472333b12188b1fdab7668bdcd15914f54"), looks := false }, kinds := [], alts := [], laidByText := true, laidKinds := [.data, .data], laidTests := true, laidLooks := .later }
def PromoteBackUptoCardSaid : Prop := Claim7.holds Tryd.pinned (.plain (OpenSpec.upto promoteBackSpec)) promoteBackUptoCard

/-- THE SECOND FORM's CARD OF 'wireschemalaw29.PromoteChains'. -/
def promoteChainsUptoCard : Claim7 := { stood := { row := promoteChainsUptoRow, standIns := [], harness := (true, "5fe5c8c35c9d9ecc2a466bac475e81472333b12188b1fdab7668bdcd15914f54"), looks := false }, kinds := [], alts := [], laidByText := true, laidKinds := [.data, .data], laidTests := true, laidLooks := .later }
def PromoteChainsUptoCardSaid : Prop := Claim7.holds Tryd.pinned (.plain (OpenSpec.upto promoteChainsSpec)) promoteChainsUptoCard
end Rows
end Go.Proofs.YtgbppjckehjifaaDoor
