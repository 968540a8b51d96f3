/-
  DERIVED. GIVEN WITH THE SEED: THE CARDS: each row of YthfpmhalgimbbaaDoorRows.lean that lists a variable, with what it lists TIED to the program's text (the seventh form; the later family's looks); each row that meets fmt, with fmt's text TOLD by the authors' own Lean function (tested against real Go, not proved from fmt's source: count such statements apart). THE CARD IS WHAT COUNTS. Prove the row's statement (the work); the ties are given (YthfpmhalgimbbaaDoorTie.lean); close each card by the builder's one call (the guide's Derived/Test/ToyasCard.lean, 'card_holds'). Laid BY PROGRAM, IN A SANDBOX (cutbox-door.mjs). By AI agents, Wed Nov 11 2026. No macro, syntax, notation, axiom, sorry.
-/
import Derived.Test.YthfpmhalgimbbaaDoorRows
import GoSem.ClaimSeven
namespace Go.Proofs.YthfpmhalgimbbaaDoor
namespace Rows

/-- THE TIED CARD OF 'laws.FnExactReadBook'. -/
def fnExactReadBookCard : Claim7 := { stood := { row := fnExactReadBookRow, standIns := [], harness := (true, "3370ea0b6edf0b836a3bb8c39b3323d158b710b48212d872884c06972deecac1"), looks := false }, kinds := [], alts := [], laidByText := true, laidKinds := [.data], laidTests := true, laidLooks := .later }
def FnExactReadBookCardSaid : Prop := Claim7.holds Tryd.pinned (.plain (OpenSpec.ofChange fnExactReadBookSpec)) fnExactReadBookCard

/-- THE TIED CARD OF 'laws.FnExactChainOk'. -/
def fnExactChainOkCard : Claim7 := { stood := { row := fnExactChainOkRow, standIns := [], harness := (true, "3370ea0b6edf0b836a3bb8c39b3323d158b710b48212d872884c06972deecac1"), looks := false }, kinds := [], alts := [], laidByText := true, laidKinds := [.data], laidTests := true, laidLooks := .later }
def FnExactChainOkCardSaid : Prop := Claim7.holds Tryd.pinned (.plain (OpenSpec.ofChange fnExactChainOkSpec)) fnExactChainOkCard

/-- THE TIED CARD OF 'laws.FnExactFallen'. -/
def fnExactFallenCard : Claim7 := { stood := { row := fnExactFallenRow, standIns := [], harness := (true, "3370ea0b6edf0b836a3bb8c39b3323d158b710b48212d872884c06972deecac1"), looks := false }, kinds := [], alts := [], laidByText := true, laidKinds := [.data], laidTests := true, laidLooks := .later }
def FnExactFallenCardSaid : Prop := Claim7.holds Tryd.pinned (.plain (OpenSpec.ofChange fnExactFallenSpec)) fnExactFallenCard

/-- THE TIED CARD OF 'laws.FnExactEnterAll'. -/
def fnExactEnterAllCard : Claim7 := { stood := { row := fnExactEnterAllRow, standIns := [], harness := (true, "3370ea0b6edf0b836a3bb8c39b3323d158b710b48212d872884c06972deecac1"), looks := false }, kinds := [], alts := [], laidByText := true, laidKinds := [.data], laidTests := true, laidLooks := .later }
def FnExactEnterAllCardSaid : Prop := Claim7.holds Tryd.pinned (.plain (OpenSpec.ofChange fnExactEnterAllSpec)) fnExactEnterAllCard

/-- THE SECOND FORM's CARD OF 'laws.FnExactReadBook'. -/
def fnExactReadBookUptoCard : Claim7 := { stood := { row := fnExactReadBookUptoRow, standIns := [], harness := (true, "3370ea0b6edf0b836a3bb8c39b3323d158b710b48212d872884c06972deecac1"), looks := false }, kinds := [], alts := [], laidByText := true, laidKinds := [.data], laidTests := true, laidLooks := .later }
def FnExactReadBookUptoCardSaid : Prop := Claim7.holds Tryd.pinned (.plain (OpenSpec.upto fnExactReadBookSpec)) fnExactReadBookUptoCard

/-- THE SECOND FORM's CARD OF 'laws.FnExactChainOk'. -/
def fnExactChainOkUptoCard : Claim7 := { stood := { row := fnExactChainOkUptoRow, standIns := [], harness := (true, "3370ea0b6edf0b836a3bb8c39b3323d158b710b48212d872884c06972deecac1"), looks := false }, kinds := [], alts := [], laidByText := true, laidKinds := [.data], laidTests := true, laidLooks := .later }
def FnExactChainOkUptoCardSaid : Prop := Claim7.holds Tryd.pinned (.plain (OpenSpec.upto fnExactChainOkSpec)) fnExactChainOkUptoCard

/-- THE SECOND FORM's CARD OF 'laws.FnExactFallen'. -/
def fnExactFallenUptoCard : Claim7 := { stood := { row := fnExactFallenUptoRow, standIns := [], harness := (true, "3370ea0b6edf0b836a3bb8c39b3323d158b710b48212d872884c06972deecac1"), looks := false }, kinds := [], alts := [], laidByText := true, laidKinds := [.data], laidTests := true, laidLooks := .later }
def FnExactFallenUptoCardSaid : Prop := Claim7.holds Tryd.pinned (.plain (OpenSpec.upto fnExactFallenSpec)) fnExactFallenUptoCard

/-- THE SECOND FORM's CARD OF 'laws.FnExactEnterAll'. -/
def fnExactEnterAllUptoCard : Claim7 := { stood := { row := fnExactEnterAllUptoRow, standIns := [], harness := (true, "3370ea0b6edf0b836a3bb8c39b3323d158b710b48212d872884c06972deecac1"), looks := false }, kinds := [], alts := [], laidByText := true, laidKinds := [.data], laidTests := true, laidLooks := .later }
def FnExactEnterAllUptoCardSaid : Prop := Claim7.holds Tryd.pinned (.plain (OpenSpec.upto fnExactEnterAllSpec)) fnExactEnterAllUptoCard
end Rows
end Go.Proofs.YthfpmhalgimbbaaDoor
