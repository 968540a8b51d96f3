/-
  DERIVED. GIVEN WITH THE SEED: THE CARDS: each row of YtkbbicgglblfiaaGreatDoorRows.lean that lists a variable, with what it lists TIED to the program's text (the seventh form; the later family's looks); each row that meets fmt, with fmt's text TOLD by the authors' own Lean function (tested against real Go, not proved from fmt's source: count such statements apart). THE CARD IS WHAT COUNTS. Prove the row's statement (the work); the ties are given (YtkbbicgglblfiaaGreatDoorTie.lean); close each card by the builder's one call (the guide's Derived/Test/ToyasCard.lean, 'card_holds'). Laid BY PROGRAM, IN A SANDBOX (cutbox-door.mjs). By AI agents, Wed Nov 11 2026. No macro, syntax, notation, axiom, sorry.
-/
import Derived.Test.YtkbbicgglblfiaaGreatDoorRows
import GoSem.ClaimSeven
namespace Go.Proofs.YtkbbicgglblfiaaGreatDoor
namespace Rows

/-- THE TIED CARD OF 'laws.FnLeaves'. -/
def fnLeavesCard : Claim7 := { stood := { row := fnLeavesRow, standIns := [], harness := (true, "dc70182bf5aad4225e8dcea61b7a3c6fd05356254158870bb5f5bbfa5e82bcca"), looks := false }, kinds := [], alts := [], laidByText := true, laidKinds := [.data, .data, .data, .data], laidTests := true, laidLooks := .later }
def FnLeavesCardSaid : Prop := Claim7.holds Tryz.pinned (.plain (OpenSpec.ofChange fnLeavesSpec)) fnLeavesCard

/-- THE TIED CARD OF 'laws.FnTop'. -/
def fnTopCard : Claim7 := { stood := { row := fnTopRow, standIns := [], harness := (true, "dc70182bf5aad4225e8dcea61b7a3c6fd05356254158870bb5f5bbfa5e82bcca"), looks := false }, kinds := [], alts := [], laidByText := true, laidKinds := [.data, .data, .data, .data], laidTests := true, laidLooks := .later }
def FnTopCardSaid : Prop := Claim7.holds Tryz.pinned (.plain (OpenSpec.ofChange fnTopSpec)) fnTopCard

/-- THE TIED CARD OF 'laws.FnKept'. -/
def fnKeptCard : Claim7 := { stood := { row := fnKeptRow, standIns := [], harness := (true, "dc70182bf5aad4225e8dcea61b7a3c6fd05356254158870bb5f5bbfa5e82bcca"), looks := false }, kinds := [], alts := [], laidByText := true, laidKinds := [.data, .data, .data, .data], laidTests := true, laidLooks := .later }
def FnKeptCardSaid : Prop := Claim7.holds Tryz.pinned (.plain (OpenSpec.ofChange fnKeptSpec)) fnKeptCard

/-- THE SECOND FORM's CARD OF 'laws.FnLeaves'. -/
def fnLeavesUptoCard : Claim7 := { stood := { row := fnLeavesUptoRow, standIns := [], harness := (true, "dc70182bf5aad4225e8dcea61b7a3c6fd05356254158870bb5f5bbfa5e82bcca"), looks := false }, kinds := [], alts := [], laidByText := true, laidKinds := [.data, .data, .data, .data], laidTests := true, laidLooks := .later }
def FnLeavesUptoCardSaid : Prop := Claim7.holds Tryz.pinned (.plain (OpenSpec.upto fnLeavesSpec)) fnLeavesUptoCard

/-- THE SECOND FORM's CARD OF 'laws.FnTop'. -/
def fnTopUptoCard : Claim7 := { stood := { row := fnTopUptoRow, standIns := [], harness := (true, "dc70182bf5aad4225e8dcea61b7a3c6fd05356254158870bb5f5bbfa5e82bcca"), looks := false }, kinds := [], alts := [], laidByText := true, laidKinds := [.data, .data, .data, .data], laidTests := true, laidLooks := .later }
def FnTopUptoCardSaid : Prop := Claim7.holds Tryz.pinned (.plain (OpenSpec.upto fnTopSpec)) fnTopUptoCard

/-- THE SECOND FORM's CARD OF 'laws.FnKept'. -/
def fnKeptUptoCard : Claim7 := { stood := { row := fnKeptUptoRow, standIns := [], harness := (true, "dc70182bf5aad4225e8dcea61b7a3c6fd05356254158870bb5f5bbfa5e82bcca"), looks := false }, kinds := [], alts := [], laidByText := true, laidKinds := [.data, .data, .data, .data], laidTests := true, laidLooks := .later }
def FnKeptUptoCardSaid : Prop := Claim7.holds Tryz.pinned (.plain (OpenSpec.upto fnKeptSpec)) fnKeptUptoCard
end Rows
end Go.Proofs.YtkbbicgglblfiaaGreatDoor
