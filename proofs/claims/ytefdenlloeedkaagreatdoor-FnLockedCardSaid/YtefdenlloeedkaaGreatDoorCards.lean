/-
  DERIVED. GIVEN WITH THE SEED: THE CARDS: each row of YtefdenlloeedkaaGreatDoorRows.lean that lists a variable, with what it lists TIED to the program's text (the seventh form; the later family's looks); each row that meets fmt, with fmt's text TOLD by the authors' own Lean function (tested against real Go, not proved from fmt's source: count such statements apart). THE CARD IS WHAT COUNTS. Prove the row's statement (the work); the ties are given (YtefdenlloeedkaaGreatDoorTie.lean); close each card by the builder's one call (the guide's Derived/Test/ToyasCard.lean, 'card_holds'). Laid BY PROGRAM, IN A SANDBOX (cutbox-door.mjs). By AI agents, Wed Nov 11 2026. No macro, syntax, notation, axiom, sorry.
-/
import Derived.Test.YtefdenlloeedkaaGreatDoorRows
import GoSem.ClaimSeven
namespace Go.Proofs.YtefdenlloeedkaaGreatDoor
namespace Rows

/-- THE TIED CARD OF 'laws.FnLocked'. -/
def fnLockedCard : Claim7 := { stood := { row := fnLockedRow, standIns := [], harness := (true, "c2e8bf9d7829745a882ef12f8b7347e0fd182902c8a2d0e12344fcea92f3343f"), looks := false }, kinds := [], alts := [], laidByText := true, laidKinds := [.data, .data, .data, .data], laidTests := true, laidLooks := .later }
def FnLockedCardSaid : Prop := Claim7.holds Tryz.pinned (.plain (OpenSpec.ofChange fnLockedSpec)) fnLockedCard

/-- THE TIED CARD OF 'laws.FnLocksOut'. -/
def fnLocksOutCard : Claim7 := { stood := { row := fnLocksOutRow, standIns := [], harness := (true, "c2e8bf9d7829745a882ef12f8b7347e0fd182902c8a2d0e12344fcea92f3343f"), looks := false }, kinds := [], alts := [], laidByText := true, laidKinds := [.data, .data, .data, .data], laidTests := true, laidLooks := .later }
def FnLocksOutCardSaid : Prop := Claim7.holds Tryz.pinned (.plain (OpenSpec.ofChange fnLocksOutSpec)) fnLocksOutCard

/-- THE SECOND FORM's CARD OF 'laws.FnLocked'. -/
def fnLockedUptoCard : Claim7 := { stood := { row := fnLockedUptoRow, standIns := [], harness := (true, "c2e8bf9d7829745a882ef12f8b7347e0fd182902c8a2d0e12344fcea92f3343f"), looks := false }, kinds := [], alts := [], laidByText := true, laidKinds := [.data, .data, .data, .data], laidTests := true, laidLooks := .later }
def FnLockedUptoCardSaid : Prop := Claim7.holds Tryz.pinned (.plain (OpenSpec.upto fnLockedSpec)) fnLockedUptoCard

/-- THE SECOND FORM's CARD OF 'laws.FnLocksOut'. -/
def fnLocksOutUptoCard : Claim7 := { stood := { row := fnLocksOutUptoRow, standIns := [], harness := (true, "c2e8bf9d7829745a882ef12f8b7347e0fd182902c8a2d0e12344fcea92f3343f"), looks := false }, kinds := [], alts := [], laidByText := true, laidKinds := [.data, .data, .data, .data], laidTests := true, laidLooks := .later }
def FnLocksOutUptoCardSaid : Prop := Claim7.holds Tryz.pinned (.plain (OpenSpec.upto fnLocksOutSpec)) fnLocksOutUptoCard
end Rows
end Go.Proofs.YtefdenlloeedkaaGreatDoor
