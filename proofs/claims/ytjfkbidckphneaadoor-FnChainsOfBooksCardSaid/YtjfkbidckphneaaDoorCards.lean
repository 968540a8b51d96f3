/-
  DERIVED. GIVEN WITH THE SEED: THE CARDS: each row of YtjfkbidckphneaaDoorRows.lean that lists a variable, with what it lists TIED to the program's text (the seventh form; the later family's looks); each row that meets fmt, with fmt's text TOLD by the authors' own Lean function (tested against real Go, not proved from fmt's source: count such statements apart). THE CARD IS WHAT COUNTS. Prove the row's statement (the work); the ties are given (YtjfkbidckphneaaDoorTie.lean); close each card by the builder's one call (the guide's Derived/Test/ToyasCard.lean, 'card_holds'). Laid BY PROGRAM, IN A SANDBOX (cutbox-door.mjs). By AI agents, Wed Nov 11 2026. No macro, syntax, notation, axiom, sorry.
-/
import Derived.Test.YtjfkbidckphneaaDoorRows
import GoSem.ClaimSeven
namespace Go.Proofs.YtjfkbidckphneaaDoor
namespace Rows

/-- THE TIED CARD OF 'laws.FnDefaults'. -/
def fnDefaultsCard : Claim7 := { stood := { row := fnDefaultsRow, standIns := [], harness := (true, "73617fd42259f8f80d832e811dd5b6c76a163adb43d79194af0dbe4f4c64064c"), looks := true }, kinds := [], alts := [], laidByText := true, laidKinds := [.data], laidTests := true, laidLooks := .later }
def FnDefaultsCardSaid : Prop := Claim7.holds Tryd.pinned (.plain (OpenSpec.ofChange fnDefaultsSpec)) fnDefaultsCard

/-- THE TIED CARD OF 'laws.FnLocks'. -/
def fnLocksCard : Claim7 := { stood := { row := fnLocksRow, standIns := [], harness := (true, "73617fd42259f8f80d832e811dd5b6c76a163adb43d79194af0dbe4f4c64064c"), looks := true }, kinds := [], alts := [], laidByText := true, laidKinds := [.data], laidTests := true, laidLooks := .later }
def FnLocksCardSaid : Prop := Claim7.holds Tryd.pinned (.plain (OpenSpec.ofChange fnLocksSpec)) fnLocksCard

/-- THE TIED CARD OF 'laws.FnWraps'. -/
def fnWrapsCard : Claim7 := { stood := { row := fnWrapsRow, standIns := [], harness := (true, "73617fd42259f8f80d832e811dd5b6c76a163adb43d79194af0dbe4f4c64064c"), looks := true }, kinds := [], alts := [], laidByText := true, laidKinds := [.data], laidTests := true, laidLooks := .later }
def FnWrapsCardSaid : Prop := Claim7.holds Tryd.pinned (.plain (OpenSpec.ofChange fnWrapsSpec)) fnWrapsCard

/-- THE TIED CARD OF 'laws.FnEnters'. -/
def fnEntersCard : Claim7 := { stood := { row := fnEntersRow, standIns := [], harness := (true, "73617fd42259f8f80d832e811dd5b6c76a163adb43d79194af0dbe4f4c64064c"), looks := true }, kinds := [], alts := [], laidByText := true, laidKinds := [.data], laidTests := true, laidLooks := .later }
def FnEntersCardSaid : Prop := Claim7.holds Tryd.pinned (.plain (OpenSpec.ofChange fnEntersSpec)) fnEntersCard

/-- THE TIED CARD OF 'laws.FnChainsOfBooks'. -/
def fnChainsOfBooksCard : Claim7 := { stood := { row := fnChainsOfBooksRow, standIns := [], harness := (true, "73617fd42259f8f80d832e811dd5b6c76a163adb43d79194af0dbe4f4c64064c"), looks := true }, kinds := [], alts := [], laidByText := true, laidKinds := [.data], laidTests := true, laidLooks := .later }
def FnChainsOfBooksCardSaid : Prop := Claim7.holds Tryd.pinned (.plain (OpenSpec.ofChange fnChainsOfBooksSpec)) fnChainsOfBooksCard

/-- THE TIED CARD OF 'laws.FnExactReadScript'. -/
def fnExactReadScriptCard : Claim7 := { stood := { row := fnExactReadScriptRow, standIns := [], harness := (true, "73617fd42259f8f80d832e811dd5b6c76a163adb43d79194af0dbe4f4c64064c"), looks := true }, kinds := [], alts := [], laidByText := true, laidKinds := [.data, .data, .data, .data, .sentinel, .sentinel, .pinned], laidTests := true, laidLooks := .later }
def FnExactReadScriptCardSaid : Prop := Claim7.holds Tryd.pinned (.plain (OpenSpec.ofChange fnExactReadScriptSpec)) fnExactReadScriptCard

/-- THE SECOND FORM's CARD OF 'laws.FnDefaults'. -/
def fnDefaultsUptoCard : Claim7 := { stood := { row := fnDefaultsUptoRow, standIns := [], harness := (true, "73617fd42259f8f80d832e811dd5b6c76a163adb43d79194af0dbe4f4c64064c"), looks := true }, kinds := [], alts := [], laidByText := true, laidKinds := [.data], laidTests := true, laidLooks := .later }
def FnDefaultsUptoCardSaid : Prop := Claim7.holds Tryd.pinned (.plain (OpenSpec.upto fnDefaultsSpec)) fnDefaultsUptoCard

/-- THE SECOND FORM's CARD OF 'laws.FnLocks'. -/
def fnLocksUptoCard : Claim7 := { stood := { row := fnLocksUptoRow, standIns := [], harness := (true, "73617fd42259f8f80d832e811dd5b6c76a163adb43d79194af0dbe4f4c64064c"), looks := true }, kinds := [], alts := [], laidByText := true, laidKinds := [.data], laidTests := true, laidLooks := .later }
def FnLocksUptoCardSaid : Prop := Claim7.holds Tryd.pinned (.plain (OpenSpec.upto fnLocksSpec)) fnLocksUptoCard

/-- THE SECOND FORM's CARD OF 'laws.FnWraps'. -/
def fnWrapsUptoCard : Claim7 := { stood := { row := fnWrapsUptoRow, standIns := [], harness := (true, "73617fd42259f8f80d832e811dd5b6c76a163adb43d79194af0dbe4f4c64064c"), looks := true }, kinds := [], alts := [], laidByText := true, laidKinds := [.data], laidTests := true, laidLooks := .later }
def FnWrapsUptoCardSaid : Prop := Claim7.holds Tryd.pinned (.plain (OpenSpec.upto fnWrapsSpec)) fnWrapsUptoCard

/-- THE SECOND FORM's CARD OF 'laws.FnEnters'. -/
def fnEntersUptoCard : Claim7 := { stood := { row := fnEntersUptoRow, standIns := [], harness := (true, "73617fd42259f8f80d832e811dd5b6c76a163adb43d79194af0dbe4f4c64064c"), looks := true }, kinds := [], alts := [], laidByText := true, laidKinds := [.data], laidTests := true, laidLooks := .later }
def FnEntersUptoCardSaid : Prop := Claim7.holds Tryd.pinned (.plain (OpenSpec.upto fnEntersSpec)) fnEntersUptoCard

/-- THE SECOND FORM's CARD OF 'laws.FnChainsOfBooks'. -/
def fnChainsOfBooksUptoCard : Claim7 := { stood := { row := fnChainsOfBooksUptoRow, standIns := [], harness := (true, "73617fd42259f8f80d832e811dd5b6c76a163adb43d79194af0dbe4f4c64064c"), looks := true }, kinds := [], alts := [], laidByText := true, laidKinds := [.data], laidTests := true, laidLooks := .later }
def FnChainsOfBooksUptoCardSaid : Prop := Claim7.holds Tryd.pinned (.plain (OpenSpec.upto fnChainsOfBooksSpec)) fnChainsOfBooksUptoCard

/-- THE SECOND FORM's CARD OF 'laws.FnExactReadScript'. -/
def fnExactReadScriptUptoCard : Claim7 := { stood := { row := fnExactReadScriptUptoRow, standIns := [], harness := (true, "73617fd42259f8f80d832e811dd5b6c76a163adb43d79194af0dbe4f4c64064c"), looks := true }, kinds := [], alts := [], laidByText := true, laidKinds := [.data, .data, .data, .data, .sentinel, .sentinel, .pinned], laidTests := true, laidLooks := .later }
def FnExactReadScriptUptoCardSaid : Prop := Claim7.holds Tryd.pinned (.plain (OpenSpec.upto fnExactReadScriptSpec)) fnExactReadScriptUptoCard
end Rows
end Go.Proofs.YtjfkbidckphneaaDoor
