/-
  DERIVED. GIVEN WITH THE SEED: THE CARDS: each row of YtaalgheapdmjnaaGreatDoorRows.lean that lists a variable, with what it lists TIED to the program's text (the seventh form; the later family's looks); each row that meets fmt, with fmt's text TOLD by the authors' own Lean function (tested against real Go, not proved from fmt's source: count such statements apart). THE CARD IS WHAT COUNTS. Prove the row's statement (the work); the ties are given (YtaalgheapdmjnaaGreatDoorTie.lean); close each card by the builder's one call (the guide's Derived/Test/ToyasCard.lean, 'card_holds'). Laid BY PROGRAM, IN A SANDBOX (cutbox-door.mjs). By AI agents, Wed Nov 11 2026. No macro, syntax, notation, axiom, sorry.
-/
import Derived.Test.YtaalgheapdmjnaaGreatDoorRows
import GoSem.ClaimSeven
namespace Go.Proofs.YtaalgheapdmjnaaGreatDoor
namespace Rows

/-- THE TIED CARD OF 'laws.FnCarries'. -/
def fnCarriesCard : Claim7 := { stood := { row := fnCarriesRow, standIns := [], harness := (true, "59fe0d4e9ebbec8032d97ddca8f969d85078e353662d6564c221446a0737c044"), looks := false }, kinds := [], alts := [], laidByText := true, laidKinds := [.data, .data, .data, .data], laidTests := true, laidLooks := .later }
def FnCarriesCardSaid : Prop := Claim7.holds Tryz.pinned (.plain (OpenSpec.ofChange fnCarriesSpec)) fnCarriesCard

/-- THE SECOND FORM's CARD OF 'laws.FnCarries'. -/
def fnCarriesUptoCard : Claim7 := { stood := { row := fnCarriesUptoRow, standIns := [], harness := (true, "59fe0d4e9ebbec8032d97ddca8f969d85078e353662d6564c221446a0737c044"), looks := false }, kinds := [], alts := [], laidByText := true, laidKinds := [.data, .data, .data, .data], laidTests := true, laidLooks := .later }
def FnCarriesUptoCardSaid : Prop := Claim7.holds Tryz.pinned (.plain (OpenSpec.upto fnCarriesSpec)) fnCarriesUptoCard
end Rows
end Go.Proofs.YtaalgheapdmjnaaGreatDoor
