/-
  DERIVED. GIVEN WITH THE SEED: THE CARDS: each row of YtjfkbidckphneaaGreatDoorRows.lean that lists a variable, with what it lists TIED to the program's text (the seventh form; the later family's looks); each row that meets fmt, with fmt's text TOLD by the authors' own Lean function (tested against real Go, not proved from fmt's source: count such statements apart). THE CARD IS WHAT COUNTS. Prove the row's statement (the work); the ties are given (YtjfkbidckphneaaGreatDoorTie.lean); close each card by the builder's one call (the guide's Derived/Test/ToyasCard.lean, 'card_holds'). Laid BY PROGRAM, IN A SANDBOX (cutbox-door.mjs). By AI agents, Wed Nov 11 2026. No macro, syntax, notation, axiom, sorry.
-/
import Derived.Test.YtjfkbidckphneaaGreatDoorRows
import GoSem.ClaimSeven
namespace Go.Proofs.YtjfkbidckphneaaGreatDoor
namespace Rows

/-- THE TIED CARD OF 'laws.FnReads'. -/
def fnReadsCard : Claim7 := { stood := { row := fnReadsRow, standIns := [], harness := (true, "c01456049107be3a750972d5cff3294ef4d4805fbb1c9a3a7b883d6a7042210f"), looks := false }, kinds := [], alts := [], laidByText := true, laidKinds := [.data], laidTests := true, laidLooks := .later }
def FnReadsCardSaid : Prop := Claim7.holds Tryz.pinned (.plain (OpenSpec.ofChange fnReadsSpec)) fnReadsCard

/-- THE TIED CARD OF 'laws.FnMounts'. -/
def fnMountsCard : Claim7 := { stood := { row := fnMountsRow, standIns := [], harness := (true, "c01456049107be3a750972d5cff3294ef4d4805fbb1c9a3a7b883d6a7042210f"), looks := false }, kinds := [], alts := [], laidByText := true, laidKinds := [.data], laidTests := true, laidLooks := .later }
def FnMountsCardSaid : Prop := Claim7.holds Tryz.pinned (.plain (OpenSpec.ofChange fnMountsSpec)) fnMountsCard

/-- THE SECOND FORM's CARD OF 'laws.FnReads'. -/
def fnReadsUptoCard : Claim7 := { stood := { row := fnReadsUptoRow, standIns := [], harness := (true, "c01456049107be3a750972d5cff3294ef4d4805fbb1c9a3a7b883d6a7042210f"), looks := false }, kinds := [], alts := [], laidByText := true, laidKinds := [.data], laidTests := true, laidLooks := .later }
def FnReadsUptoCardSaid : Prop := Claim7.holds Tryz.pinned (.plain (OpenSpec.upto fnReadsSpec)) fnReadsUptoCard

/-- THE SECOND FORM's CARD OF 'laws.FnMounts'. -/
def fnMountsUptoCard : Claim7 := { stood := { row := fnMountsUptoRow, standIns := [], harness := (true, "c01456049107be3a750972d5cff3294ef4d4805fbb1c9a3a7b883d6a7042210f"), looks := false }, kinds := [], alts := [], laidByText := true, laidKinds := [.data], laidTests := true, laidLooks := .later }
def FnMountsUptoCardSaid : Prop := Claim7.holds Tryz.pinned (.plain (OpenSpec.upto fnMountsSpec)) fnMountsUptoCard
end Rows
end Go.Proofs.YtjfkbidckphneaaGreatDoor
