/-
  DERIVED. GIVEN WITH THE SEED: THE CARDS: each row of YtmhggcgkbenedaaDoorRows.lean that lists a variable, with what it lists TIED to the program's text (the seventh form; the later family's looks); each row that meets fmt, with fmt's text TOLD by the authors' own Lean function (tested against real Go, not proved from fmt's source: count such statements apart). THE CARD IS WHAT COUNTS. Prove the row's statement (the work); the ties are given (YtmhggcgkbenedaaDoorTie.lean); close each card by the builder's one call (the guide's Derived/Test/ToyasCard.lean, 'card_holds'). Laid BY PROGRAM, IN A SANDBOX (cutbox-door.mjs). By AI agents, Wed Nov 11 2026. No macro, syntax, notation, axiom, sorry.
-/
import Derived.Test.YtmhggcgkbenedaaDoorRows
import GoSem.ClaimSeven
namespace Go.Proofs.YtmhggcgkbenedaaDoor
namespace Rows

/-- THE TIED CARD OF 'laws.FnExactDefaults'. -/
def fnExactDefaultsCard : Claim7 := { stood := { row := fnExactDefaultsRow, standIns := [], harness := (true, "b81b63e9247b30d816022e71a721e8193ca3abd3efd5c82a76c8f050e1c7e5fe"), looks := false }, kinds := [], alts := [], laidByText := true, laidKinds := [.data], laidTests := true, laidLooks := .later }
def FnExactDefaultsCardSaid : Prop := Claim7.holds Tryd.pinned (.plain (OpenSpec.ofChange fnExactDefaultsSpec)) fnExactDefaultsCard

/-- THE TIED CARD OF 'laws.FnExactLockText'. -/
def fnExactLockTextCard : Claim7 := { stood := { row := fnExactLockTextRow, standIns := [], harness := (true, "b81b63e9247b30d816022e71a721e8193ca3abd3efd5c82a76c8f050e1c7e5fe"), looks := false }, kinds := [], alts := [], laidByText := true, laidKinds := [.data], laidTests := true, laidLooks := .later }
def FnExactLockTextCardSaid : Prop := Claim7.holds Tryd.pinned (.plain (OpenSpec.ofChange fnExactLockTextSpec)) fnExactLockTextCard

/-- THE TIED CARD OF 'laws.FnExactOpenText'. -/
def fnExactOpenTextCard : Claim7 := { stood := { row := fnExactOpenTextRow, standIns := [], harness := (true, "b81b63e9247b30d816022e71a721e8193ca3abd3efd5c82a76c8f050e1c7e5fe"), looks := false }, kinds := [], alts := [], laidByText := true, laidKinds := [.data], laidTests := true, laidLooks := .later }
def FnExactOpenTextCardSaid : Prop := Claim7.holds Tryd.pinned (.plain (OpenSpec.ofChange fnExactOpenTextSpec)) fnExactOpenTextCard

/-- THE TIED CARD OF 'laws.FnExactBookNew'. -/
def fnExactBookNewCard : Claim7 := { stood := { row := fnExactBookNewRow, standIns := [], harness := (true, "b81b63e9247b30d816022e71a721e8193ca3abd3efd5c82a76c8f050e1c7e5fe"), looks := false }, kinds := [], alts := [], laidByText := true, laidKinds := [.data], laidTests := true, laidLooks := .later }
def FnExactBookNewCardSaid : Prop := Claim7.holds Tryd.pinned (.plain (OpenSpec.ofChange fnExactBookNewSpec)) fnExactBookNewCard

/-- THE SECOND FORM's CARD OF 'laws.FnExactDefaults'. -/
def fnExactDefaultsUptoCard : Claim7 := { stood := { row := fnExactDefaultsUptoRow, standIns := [], harness := (true, "b81b63e9247b30d816022e71a721e8193ca3abd3efd5c82a76c8f050e1c7e5fe"), looks := false }, kinds := [], alts := [], laidByText := true, laidKinds := [.data], laidTests := true, laidLooks := .later }
def FnExactDefaultsUptoCardSaid : Prop := Claim7.holds Tryd.pinned (.plain (OpenSpec.upto fnExactDefaultsSpec)) fnExactDefaultsUptoCard

/-- THE SECOND FORM's CARD OF 'laws.FnExactLockText'. -/
def fnExactLockTextUptoCard : Claim7 := { stood := { row := fnExactLockTextUptoRow, standIns := [], harness := (true, "b81b63e9247b30d816022e71a721e8193ca3abd3efd5c82a76c8f050e1c7e5fe"), looks := false }, kinds := [], alts := [], laidByText := true, laidKinds := [.data], laidTests := true, laidLooks := .later }
def FnExactLockTextUptoCardSaid : Prop := Claim7.holds Tryd.pinned (.plain (OpenSpec.upto fnExactLockTextSpec)) fnExactLockTextUptoCard

/-- THE SECOND FORM's CARD OF 'laws.FnExactOpenText'. -/
def fnExactOpenTextUptoCard : Claim7 := { stood := { row := fnExactOpenTextUptoRow, standIns := [], harness := (true, "b81b63e9247b30d816022e71a721e8193ca3abd3efd5c82a76c8f050e1c7e5fe"), looks := false }, kinds := [], alts := [], laidByText := true, laidKinds := [.data], laidTests := true, laidLooks := .later }
def FnExactOpenTextUptoCardSaid : Prop := Claim7.holds Tryd.pinned (.plain (OpenSpec.upto fnExactOpenTextSpec)) fnExactOpenTextUptoCard

/-- THE SECOND FORM's CARD OF 'laws.FnExactBookNew'. -/
def fnExactBookNewUptoCard : Claim7 := { stood := { row := fnExactBookNewUptoRow, standIns := [], harness := (true, "b81b63e9247b30d816022e71a721e8193ca3abd3efd5c82a76c8f050e1c7e5fe"), looks := false }, kinds := [], alts := [], laidByText := true, laidKinds := [.data], laidTests := true, laidLooks := .later }
def FnExactBookNewUptoCardSaid : Prop := Claim7.holds Tryd.pinned (.plain (OpenSpec.upto fnExactBookNewSpec)) fnExactBookNewUptoCard
end Rows
end Go.Proofs.YtmhggcgkbenedaaDoor
