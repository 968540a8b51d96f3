/-
  DERIVED. GIVEN WITH THE SEED: THE CARDS: each row of YthfpmhalgimbbaaGreatDoorRows.lean that lists a variable, with what it lists TIED to the program's text (the seventh form; the later family's looks); each row that meets fmt, with fmt's text TOLD by the authors' own Lean function (tested against real Go, not proved from fmt's source: count such statements apart). THE CARD IS WHAT COUNTS. Prove the row's statement (the work); the ties are given (YthfpmhalgimbbaaGreatDoorTie.lean); close each card by the builder's one call (the guide's Derived/Test/ToyasCard.lean, 'card_holds'). Laid BY PROGRAM, IN A SANDBOX (cutbox-door.mjs). By AI agents, Wed Nov 11 2026. No macro, syntax, notation, axiom, sorry.
-/
import Derived.Test.YthfpmhalgimbbaaGreatDoorRows
import GoSem.ClaimSeven
namespace Go.Proofs.YthfpmhalgimbbaaGreatDoor
namespace Rows

/-- THE TIED CARD OF 'laws.FnExactBoxNew'. -/
def fnExactBoxNewCard : Claim7 := { stood := { row := fnExactBoxNewRow, standIns := [], harness := (true, "621b324b2077ac255e064a7bf3e30b5bb436d7be45623a29ca2736f34b6bcca9"), looks := false }, kinds := [], alts := [], laidByText := true, laidKinds := [.data], laidTests := true, laidLooks := .later }
def FnExactBoxNewCardSaid : Prop := Claim7.holds Tryz.pinned (.plain (OpenSpec.ofChange fnExactBoxNewSpec)) fnExactBoxNewCard

/-- THE TIED CARD OF 'laws.FnExactBoxOk'. -/
def fnExactBoxOkCard : Claim7 := { stood := { row := fnExactBoxOkRow, standIns := [], harness := (true, "621b324b2077ac255e064a7bf3e30b5bb436d7be45623a29ca2736f34b6bcca9"), looks := false }, kinds := [], alts := [], laidByText := true, laidKinds := [.data], laidTests := true, laidLooks := .later }
def FnExactBoxOkCardSaid : Prop := Claim7.holds Tryz.pinned (.plain (OpenSpec.ofChange fnExactBoxOkSpec)) fnExactBoxOkCard

/-- THE TIED CARD OF 'laws.FnExactKept'. -/
def fnExactKeptCard : Claim7 := { stood := { row := fnExactKeptRow, standIns := [], harness := (true, "621b324b2077ac255e064a7bf3e30b5bb436d7be45623a29ca2736f34b6bcca9"), looks := false }, kinds := [], alts := [], laidByText := true, laidKinds := [.data], laidTests := true, laidLooks := .later }
def FnExactKeptCardSaid : Prop := Claim7.holds Tryz.pinned (.plain (OpenSpec.ofChange fnExactKeptSpec)) fnExactKeptCard

/-- THE TIED CARD OF 'laws.FnExactRise'. -/
def fnExactRiseCard : Claim7 := { stood := { row := fnExactRiseRow, standIns := [], harness := (true, "621b324b2077ac255e064a7bf3e30b5bb436d7be45623a29ca2736f34b6bcca9"), looks := false }, kinds := [], alts := [], laidByText := true, laidKinds := [.data], laidTests := true, laidLooks := .later }
def FnExactRiseCardSaid : Prop := Claim7.holds Tryz.pinned (.plain (OpenSpec.ofChange fnExactRiseSpec)) fnExactRiseCard

/-- THE TIED CARD OF 'laws.FnExactSoundLife'. -/
def fnExactSoundLifeCard : Claim7 := { stood := { row := fnExactSoundLifeRow, standIns := [], harness := (true, "621b324b2077ac255e064a7bf3e30b5bb436d7be45623a29ca2736f34b6bcca9"), looks := false }, kinds := [], alts := [], laidByText := true, laidKinds := [.data], laidTests := true, laidLooks := .later }
def FnExactSoundLifeCardSaid : Prop := Claim7.holds Tryz.pinned (.plain (OpenSpec.ofChange fnExactSoundLifeSpec)) fnExactSoundLifeCard

/-- THE SECOND FORM's CARD OF 'laws.FnExactBoxNew'. -/
def fnExactBoxNewUptoCard : Claim7 := { stood := { row := fnExactBoxNewUptoRow, standIns := [], harness := (true, "621b324b2077ac255e064a7bf3e30b5bb436d7be45623a29ca2736f34b6bcca9"), looks := false }, kinds := [], alts := [], laidByText := true, laidKinds := [.data], laidTests := true, laidLooks := .later }
def FnExactBoxNewUptoCardSaid : Prop := Claim7.holds Tryz.pinned (.plain (OpenSpec.upto fnExactBoxNewSpec)) fnExactBoxNewUptoCard

/-- THE SECOND FORM's CARD OF 'laws.FnExactBoxOk'. -/
def fnExactBoxOkUptoCard : Claim7 := { stood := { row := fnExactBoxOkUptoRow, standIns := [], harness := (true, "621b324b2077ac255e064a7bf3e30b5bb436d7be45623a29ca2736f34b6bcca9"), looks := false }, kinds := [], alts := [], laidByText := true, laidKinds := [.data], laidTests := true, laidLooks := .later }
def FnExactBoxOkUptoCardSaid : Prop := Claim7.holds Tryz.pinned (.plain (OpenSpec.upto fnExactBoxOkSpec)) fnExactBoxOkUptoCard

/-- THE SECOND FORM's CARD OF 'laws.FnExactKept'. -/
def fnExactKeptUptoCard : Claim7 := { stood := { row := fnExactKeptUptoRow, standIns := [], harness := (true, "621b324b2077ac255e064a7bf3e30b5bb436d7be45623a29ca2736f34b6bcca9"), looks := false }, kinds := [], alts := [], laidByText := true, laidKinds := [.data], laidTests := true, laidLooks := .later }
def FnExactKeptUptoCardSaid : Prop := Claim7.holds Tryz.pinned (.plain (OpenSpec.upto fnExactKeptSpec)) fnExactKeptUptoCard

/-- THE SECOND FORM's CARD OF 'laws.FnExactRise'. -/
def fnExactRiseUptoCard : Claim7 := { stood := { row := fnExactRiseUptoRow, standIns := [], harness := (true, "621b324b2077ac255e064a7bf3e30b5bb436d7be45623a29ca2736f34b6bcca9"), looks := false }, kinds := [], alts := [], laidByText := true, laidKinds := [.data], laidTests := true, laidLooks := .later }
def FnExactRiseUptoCardSaid : Prop := Claim7.holds Tryz.pinned (.plain (OpenSpec.upto fnExactRiseSpec)) fnExactRiseUptoCard

/-- THE SECOND FORM's CARD OF 'laws.FnExactSoundLife'. -/
def fnExactSoundLifeUptoCard : Claim7 := { stood := { row := fnExactSoundLifeUptoRow, standIns := [], harness := (true, "621b324b2077ac255e064a7bf3e30b5bb436d7be45623a29ca2736f34b6bcca9"), looks := false }, kinds := [], alts := [], laidByText := true, laidKinds := [.data], laidTests := true, laidLooks := .later }
def FnExactSoundLifeUptoCardSaid : Prop := Claim7.holds Tryz.pinned (.plain (OpenSpec.upto fnExactSoundLifeSpec)) fnExactSoundLifeUptoCard
end Rows
end Go.Proofs.YthfpmhalgimbbaaGreatDoor
