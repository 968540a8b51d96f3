/-
  DERIVED. GIVEN WITH THE SEED: THE CARDS: each row of YtldjkjjfoofccaaDoorRows.lean that lists a variable, with what it lists TIED to the program's text (the seventh form; the later family's looks); each row that meets fmt, with fmt's text TOLD by the authors' own Lean function (tested against real Go, not proved from fmt's source: count such statements apart). THE CARD IS WHAT COUNTS. Prove the row's statement (the work); the ties are given (YtldjkjjfoofccaaDoorTie.lean); close each card by the builder's one call (the guide's Derived/Test/ToyasCard.lean, 'card_holds'). Laid BY PROGRAM, IN A SANDBOX (cutbox-door.mjs). By AI agents, Wed Nov 11 2026. No macro, syntax, notation, axiom, sorry.
-/
import Derived.Test.YtldjkjjfoofccaaDoorRows
import GoSem.ClaimSeven
namespace Go.Proofs.YtldjkjjfoofccaaDoor
namespace Rows

/-- THE TIED CARD OF 'laws.FnExactWrapped'. -/
def fnExactWrappedCard : Claim7 := { stood := { row := fnExactWrappedRow, standIns := [], harness := (true, "c51b9b7c789fa074496ad0f8bccf4b21eea201c2b6413c4bfc010b7ee3286952"), looks := false }, kinds := [], alts := [], laidByText := true, laidKinds := [.data], laidTests := true, laidLooks := .later }
def FnExactWrappedCardSaid : Prop := Claim7.holds Tryd.pinned (.plain (OpenSpec.ofChange fnExactWrappedSpec)) fnExactWrappedCard

/-- THE TIED CARD OF 'laws.FnExactUnwrapped'. -/
def fnExactUnwrappedCard : Claim7 := { stood := { row := fnExactUnwrappedRow, standIns := [], harness := (true, "c51b9b7c789fa074496ad0f8bccf4b21eea201c2b6413c4bfc010b7ee3286952"), looks := false }, kinds := [], alts := [], laidByText := true, laidKinds := [.data], laidTests := true, laidLooks := .later }
def FnExactUnwrappedCardSaid : Prop := Claim7.holds Tryd.pinned (.plain (OpenSpec.ofChange fnExactUnwrappedSpec)) fnExactUnwrappedCard

/-- THE TIED CARD OF 'laws.FnExactBookActs'. -/
def fnExactBookActsCard : Claim7 := { stood := { row := fnExactBookActsRow, standIns := [], harness := (true, "c51b9b7c789fa074496ad0f8bccf4b21eea201c2b6413c4bfc010b7ee3286952"), looks := false }, kinds := [], alts := [], laidByText := true, laidKinds := [.data], laidTests := true, laidLooks := .later }
def FnExactBookActsCardSaid : Prop := Claim7.holds Tryd.pinned (.plain (OpenSpec.ofChange fnExactBookActsSpec)) fnExactBookActsCard

/-- THE TIED CARD OF 'laws.FnExactStays'. -/
def fnExactStaysCard : Claim7 := { stood := { row := fnExactStaysRow, standIns := [], harness := (true, "c51b9b7c789fa074496ad0f8bccf4b21eea201c2b6413c4bfc010b7ee3286952"), looks := false }, kinds := [], alts := [], laidByText := true, laidKinds := [.data], laidTests := true, laidLooks := .later }
def FnExactStaysCardSaid : Prop := Claim7.holds Tryd.pinned (.plain (OpenSpec.ofChange fnExactStaysSpec)) fnExactStaysCard

/-- THE TIED CARD OF 'laws.FnExactEnter'. -/
def fnExactEnterCard : Claim7 := { stood := { row := fnExactEnterRow, standIns := [], harness := (true, "c51b9b7c789fa074496ad0f8bccf4b21eea201c2b6413c4bfc010b7ee3286952"), looks := false }, kinds := [], alts := [], laidByText := true, laidKinds := [.data], laidTests := true, laidLooks := .later }
def FnExactEnterCardSaid : Prop := Claim7.holds Tryd.pinned (.plain (OpenSpec.ofChange fnExactEnterSpec)) fnExactEnterCard

/-- THE TIED CARD OF 'laws.FnExactChainOk'. -/
def fnExactChainOkCard : Claim7 := { stood := { row := fnExactChainOkRow, standIns := [], harness := (true, "c51b9b7c789fa074496ad0f8bccf4b21eea201c2b6413c4bfc010b7ee3286952"), looks := false }, kinds := [], alts := [], laidByText := true, laidKinds := [.data], laidTests := true, laidLooks := .later }
def FnExactChainOkCardSaid : Prop := Claim7.holds Tryd.pinned (.plain (OpenSpec.ofChange fnExactChainOkSpec)) fnExactChainOkCard

/-- THE TIED CARD OF 'laws.FnExactFallen'. -/
def fnExactFallenCard : Claim7 := { stood := { row := fnExactFallenRow, standIns := [], harness := (true, "c51b9b7c789fa074496ad0f8bccf4b21eea201c2b6413c4bfc010b7ee3286952"), looks := false }, kinds := [], alts := [], laidByText := true, laidKinds := [.data], laidTests := true, laidLooks := .later }
def FnExactFallenCardSaid : Prop := Claim7.holds Tryd.pinned (.plain (OpenSpec.ofChange fnExactFallenSpec)) fnExactFallenCard

/-- THE TIED CARD OF 'laws.FnExactEnterAll'. -/
def fnExactEnterAllCard : Claim7 := { stood := { row := fnExactEnterAllRow, standIns := [], harness := (true, "c51b9b7c789fa074496ad0f8bccf4b21eea201c2b6413c4bfc010b7ee3286952"), looks := false }, kinds := [], alts := [], laidByText := true, laidKinds := [.data], laidTests := true, laidLooks := .later }
def FnExactEnterAllCardSaid : Prop := Claim7.holds Tryd.pinned (.plain (OpenSpec.ofChange fnExactEnterAllSpec)) fnExactEnterAllCard

/-- THE TIED CARD OF 'laws.FnExactReadBook'. -/
def fnExactReadBookCard : Claim7 := { stood := { row := fnExactReadBookRow, standIns := [], harness := (true, "c51b9b7c789fa074496ad0f8bccf4b21eea201c2b6413c4bfc010b7ee3286952"), looks := false }, kinds := [], alts := [], laidByText := true, laidKinds := [.data], laidTests := true, laidLooks := .later }
def FnExactReadBookCardSaid : Prop := Claim7.holds Tryd.pinned (.plain (OpenSpec.ofChange fnExactReadBookSpec)) fnExactReadBookCard

/-- THE SECOND FORM's CARD OF 'laws.FnExactWrapped'. -/
def fnExactWrappedUptoCard : Claim7 := { stood := { row := fnExactWrappedUptoRow, standIns := [], harness := (true, "c51b9b7c789fa074496ad0f8bccf4b21eea201c2b6413c4bfc010b7ee3286952"), looks := false }, kinds := [], alts := [], laidByText := true, laidKinds := [.data], laidTests := true, laidLooks := .later }
def FnExactWrappedUptoCardSaid : Prop := Claim7.holds Tryd.pinned (.plain (OpenSpec.upto fnExactWrappedSpec)) fnExactWrappedUptoCard

/-- THE SECOND FORM's CARD OF 'laws.FnExactUnwrapped'. -/
def fnExactUnwrappedUptoCard : Claim7 := { stood := { row := fnExactUnwrappedUptoRow, standIns := [], harness := (true, "c51b9b7c789fa074496ad0f8bccf4b21eea201c2b6413c4bfc010b7ee3286952"), looks := false }, kinds := [], alts := [], laidByText := true, laidKinds := [.data], laidTests := true, laidLooks := .later }
def FnExactUnwrappedUptoCardSaid : Prop := Claim7.holds Tryd.pinned (.plain (OpenSpec.upto fnExactUnwrappedSpec)) fnExactUnwrappedUptoCard

/-- THE SECOND FORM's CARD OF 'laws.FnExactBookActs'. -/
def fnExactBookActsUptoCard : Claim7 := { stood := { row := fnExactBookActsUptoRow, standIns := [], harness := (true, "c51b9b7c789fa074496ad0f8bccf4b21eea201c2b6413c4bfc010b7ee3286952"), looks := false }, kinds := [], alts := [], laidByText := true, laidKinds := [.data], laidTests := true, laidLooks := .later }
def FnExactBookActsUptoCardSaid : Prop := Claim7.holds Tryd.pinned (.plain (OpenSpec.upto fnExactBookActsSpec)) fnExactBookActsUptoCard

/-- THE SECOND FORM's CARD OF 'laws.FnExactStays'. -/
def fnExactStaysUptoCard : Claim7 := { stood := { row := fnExactStaysUptoRow, standIns := [], harness := (true, "c51b9b7c789fa074496ad0f8bccf4b21eea201c2b6413c4bfc010b7ee3286952"), looks := false }, kinds := [], alts := [], laidByText := true, laidKinds := [.data], laidTests := true, laidLooks := .later }
def FnExactStaysUptoCardSaid : Prop := Claim7.holds Tryd.pinned (.plain (OpenSpec.upto fnExactStaysSpec)) fnExactStaysUptoCard

/-- THE SECOND FORM's CARD OF 'laws.FnExactEnter'. -/
def fnExactEnterUptoCard : Claim7 := { stood := { row := fnExactEnterUptoRow, standIns := [], harness := (true, "c51b9b7c789fa074496ad0f8bccf4b21eea201c2b6413c4bfc010b7ee3286952"), looks := false }, kinds := [], alts := [], laidByText := true, laidKinds := [.data], laidTests := true, laidLooks := .later }
def FnExactEnterUptoCardSaid : Prop := Claim7.holds Tryd.pinned (.plain (OpenSpec.upto fnExactEnterSpec)) fnExactEnterUptoCard

/-- THE SECOND FORM's CARD OF 'laws.FnExactChainOk'. -/
def fnExactChainOkUptoCard : Claim7 := { stood := { row := fnExactChainOkUptoRow, standIns := [], harness := (true, "c51b9b7c789fa074496ad0f8bccf4b21eea201c2b6413c4bfc010b7ee3286952"), looks := false }, kinds := [], alts := [], laidByText := true, laidKinds := [.data], laidTests := true, laidLooks := .later }
def FnExactChainOkUptoCardSaid : Prop := Claim7.holds Tryd.pinned (.plain (OpenSpec.upto fnExactChainOkSpec)) fnExactChainOkUptoCard

/-- THE SECOND FORM's CARD OF 'laws.FnExactFallen'. -/
def fnExactFallenUptoCard : Claim7 := { stood := { row := fnExactFallenUptoRow, standIns := [], harness := (true, "c51b9b7c789fa074496ad0f8bccf4b21eea201c2b6413c4bfc010b7ee3286952"), looks := false }, kinds := [], alts := [], laidByText := true, laidKinds := [.data], laidTests := true, laidLooks := .later }
def FnExactFallenUptoCardSaid : Prop := Claim7.holds Tryd.pinned (.plain (OpenSpec.upto fnExactFallenSpec)) fnExactFallenUptoCard

/-- THE SECOND FORM's CARD OF 'laws.FnExactEnterAll'. -/
def fnExactEnterAllUptoCard : Claim7 := { stood := { row := fnExactEnterAllUptoRow, standIns := [], harness := (true, "c51b9b7c789fa074496ad0f8bccf4b21eea201c2b6413c4bfc010b7ee3286952"), looks := false }, kinds := [], alts := [], laidByText := true, laidKinds := [.data], laidTests := true, laidLooks := .later }
def FnExactEnterAllUptoCardSaid : Prop := Claim7.holds Tryd.pinned (.plain (OpenSpec.upto fnExactEnterAllSpec)) fnExactEnterAllUptoCard

/-- THE SECOND FORM's CARD OF 'laws.FnExactReadBook'. -/
def fnExactReadBookUptoCard : Claim7 := { stood := { row := fnExactReadBookUptoRow, standIns := [], harness := (true, "c51b9b7c789fa074496ad0f8bccf4b21eea201c2b6413c4bfc010b7ee3286952"), looks := false }, kinds := [], alts := [], laidByText := true, laidKinds := [.data], laidTests := true, laidLooks := .later }
def FnExactReadBookUptoCardSaid : Prop := Claim7.holds Tryd.pinned (.plain (OpenSpec.upto fnExactReadBookSpec)) fnExactReadBookUptoCard
end Rows
end Go.Proofs.YtldjkjjfoofccaaDoor
