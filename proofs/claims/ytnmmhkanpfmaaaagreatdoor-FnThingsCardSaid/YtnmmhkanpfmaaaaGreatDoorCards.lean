/-
  DERIVED. GIVEN WITH THE SEED: THE CARDS: each row of YtnmmhkanpfmaaaaGreatDoorRows.lean that lists a variable, with what it lists TIED to the program's text (the seventh form; the later family's looks); each row that meets fmt, with fmt's text TOLD by the authors' own Lean function (tested against real Go, not proved from fmt's source: count such statements apart). THE CARD IS WHAT COUNTS. Prove the row's statement (the work); the ties are given (YtnmmhkanpfmaaaaGreatDoorTie.lean); close each card by the builder's one call (the guide's Derived/Test/ToyasCard.lean, 'card_holds'). Laid BY PROGRAM, IN A SANDBOX (cutbox-door.mjs). By AI agents, Wed Nov 11 2026. No macro, syntax, notation, axiom, sorry.
-/
import Derived.Test.YtnmmhkanpfmaaaaGreatDoorRows
import GoSem.ClaimSeven
namespace Go.Proofs.YtnmmhkanpfmaaaaGreatDoor
namespace Rows

/-- THE TIED CARD OF 'laws.FnExactPublicPart'. -/
def fnExactPublicPartCard : Claim7 := { stood := { row := fnExactPublicPartRow, standIns := [], harness := (true, "390ac9acc96799408125a12d2e8d128dd50330df0a0259d1b0f1a28bb529d939"), looks := false }, kinds := [], alts := [], laidByText := true, laidKinds := [.data], laidTests := true, laidLooks := .later }
def FnExactPublicPartCardSaid : Prop := Claim7.holds Tryz.pinned (.plain (OpenSpec.ofChange fnExactPublicPartSpec)) fnExactPublicPartCard

/-- THE TIED CARD OF 'laws.FnThings'. -/
def fnThingsCard : Claim7 := { stood := { row := fnThingsRow, standIns := [], harness := (true, "390ac9acc96799408125a12d2e8d128dd50330df0a0259d1b0f1a28bb529d939"), looks := false }, kinds := [], alts := [], laidByText := true, laidKinds := [.data], laidTests := true, laidLooks := .later }
def FnThingsCardSaid : Prop := Claim7.holds Tryz.pinned (.plain (OpenSpec.ofChange fnThingsSpec)) fnThingsCard

/-- THE TIED CARD OF 'laws.FnSkips'. -/
def fnSkipsCard : Claim7 := { stood := { row := fnSkipsRow, standIns := [], harness := (true, "390ac9acc96799408125a12d2e8d128dd50330df0a0259d1b0f1a28bb529d939"), looks := false }, kinds := [], alts := [], laidByText := true, laidKinds := [.data, .data, .data, .data], laidTests := true, laidLooks := .later }
def FnSkipsCardSaid : Prop := Claim7.holds Tryz.pinned (.plain (OpenSpec.ofChange fnSkipsSpec)) fnSkipsCard

/-- THE SECOND FORM's CARD OF 'laws.FnExactPublicPart'. -/
def fnExactPublicPartUptoCard : Claim7 := { stood := { row := fnExactPublicPartUptoRow, standIns := [], harness := (true, "390ac9acc96799408125a12d2e8d128dd50330df0a0259d1b0f1a28bb529d939"), looks := false }, kinds := [], alts := [], laidByText := true, laidKinds := [.data], laidTests := true, laidLooks := .later }
def FnExactPublicPartUptoCardSaid : Prop := Claim7.holds Tryz.pinned (.plain (OpenSpec.upto fnExactPublicPartSpec)) fnExactPublicPartUptoCard

/-- THE SECOND FORM's CARD OF 'laws.FnThings'. -/
def fnThingsUptoCard : Claim7 := { stood := { row := fnThingsUptoRow, standIns := [], harness := (true, "390ac9acc96799408125a12d2e8d128dd50330df0a0259d1b0f1a28bb529d939"), looks := false }, kinds := [], alts := [], laidByText := true, laidKinds := [.data], laidTests := true, laidLooks := .later }
def FnThingsUptoCardSaid : Prop := Claim7.holds Tryz.pinned (.plain (OpenSpec.upto fnThingsSpec)) fnThingsUptoCard

/-- THE SECOND FORM's CARD OF 'laws.FnSkips'. -/
def fnSkipsUptoCard : Claim7 := { stood := { row := fnSkipsUptoRow, standIns := [], harness := (true, "390ac9acc96799408125a12d2e8d128dd50330df0a0259d1b0f1a28bb529d939"), looks := false }, kinds := [], alts := [], laidByText := true, laidKinds := [.data, .data, .data, .data], laidTests := true, laidLooks := .later }
def FnSkipsUptoCardSaid : Prop := Claim7.holds Tryz.pinned (.plain (OpenSpec.upto fnSkipsSpec)) fnSkipsUptoCard
end Rows
end Go.Proofs.YtnmmhkanpfmaaaaGreatDoor
