/-
  No cell of these rows narrows 'for every input' (looked for: loops, veiled, ifaces, maps, wideKeys, modest, calm, conditions, laid).
  DERIVED. THE GIVEN ROWS OF THIS SEAT. 8 by the template 'for every input the law returns true; each argument reads behind the call as it read before'; 0 by the template 'total and deterministic' (their statements: YtmhggcgkbenedaaTotals.lean).
  GIVEN WITH THE SEED: the statements are not yours to turn. If you find one false, say at which input.
  Laid BY PROGRAM, IN A SANDBOX (cutbox-rows.mjs): the forced cells as the released guide's own fill.sh prints them over the translation 2bfa611521b1b9be… (all of the seat's roots in one cut). By AI agents, Wed Nov 11 2026. No macro, syntax, notation, axiom, sorry.
-/
import Derived.Test.YtmhggcgkbenedaaChecked
import GoSem.Claim
import GoSem.ClaimJoined
import GoSem.ClaimMapViews
import Derived.JoinedTies
import Derived.KernelRfl
namespace Go.Proofs.Ytmhggcgkbenedaa
/- THE CELL 'sum', in the pinned program and in every row, IS THE sha256 OF THE DUMP (.gsa) THAT YtmhggcgkbenedaaProg.lean LOADS. Nothing in Lean hashes anything: it is a label: what it is worth is what the hold of that sum in a sandbox is worth. -/
noncomputable def Try.pinned : Pinned := { name := "ytmhggcgkbenedaa", sum := "2bfa611521b1b9bee583cdcaf84263c47c65c1f2e055fd591de799bb8d931dd9", checked := Try.checked }
namespace Rows
def none {H : Type} : Left H := { results := [], args := [] }

/-- 'laws.FnExactThingText': WHATEVER THE INPUT: true; the input reads as it did. -/
def fnExactThingTextSpec : ChangeSpec := { name := "fnExactThingText", fn := fun _ => fun
  | [d] => { results := [.lit (.bool true)], args := [d] }
  | _ => none }
def fnExactThingTextRow : OpenClaim := { program := "ytmhggcgkbenedaa", sum := "2bfa611521b1b9bee583cdcaf84263c47c65c1f2e055fd591de799bb8d931dd9", func := "loop.example/g00186/laws.FnExactThingText", spec := "fnExactThingText", apart := false }
def FnExactThingTextSaid : Prop := fnExactThingTextRow.holds Try.pinned (OpenSpec.ofChange fnExactThingTextSpec)

/-- ITS FALSE NEIGHBOUR: 'it returns false'. Refute it at one input. -/
def fnExactThingTextWrong : ChangeSpec := { name := "fnExactThingText", fn := fun _ => fun
  | [d] => { results := [.lit (.bool false)], args := [d] }
  | _ => none }
def FnExactThingTextWrongFalsely : Prop := fnExactThingTextRow.holds Try.pinned (OpenSpec.ofChange fnExactThingTextWrong)

/-- 'laws.FnExactLeafs': WHATEVER THE INPUT: true; the input reads as it did. -/
def fnExactLeafsSpec : ChangeSpec := { name := "fnExactLeafs", fn := fun _ => fun
  | [d1, d2] => { results := [.lit (.bool true)], args := [d1, d2] }
  | _ => none }
def fnExactLeafsRow : OpenClaim := { program := "ytmhggcgkbenedaa", sum := "2bfa611521b1b9bee583cdcaf84263c47c65c1f2e055fd591de799bb8d931dd9", func := "loop.example/g00186/laws.FnExactLeafs", spec := "fnExactLeafs", apart := false }
def FnExactLeafsSaid : Prop := fnExactLeafsRow.holds Try.pinned (OpenSpec.ofChange fnExactLeafsSpec)

/-- ITS FALSE NEIGHBOUR: 'it returns false'. Refute it at one input. -/
def fnExactLeafsWrong : ChangeSpec := { name := "fnExactLeafs", fn := fun _ => fun
  | [d1, d2] => { results := [.lit (.bool false)], args := [d1, d2] }
  | _ => none }
def FnExactLeafsWrongFalsely : Prop := fnExactLeafsRow.holds Try.pinned (OpenSpec.ofChange fnExactLeafsWrong)

/-- 'laws.FnExactEventOk': WHATEVER THE INPUT: true; the input reads as it did. -/
def fnExactEventOkSpec : ChangeSpec := { name := "fnExactEventOk", fn := fun _ => fun
  | [d] => { results := [.lit (.bool true)], args := [d] }
  | _ => none }
def fnExactEventOkRow : OpenClaim := { program := "ytmhggcgkbenedaa", sum := "2bfa611521b1b9bee583cdcaf84263c47c65c1f2e055fd591de799bb8d931dd9", func := "loop.example/g00186/laws.FnExactEventOk", spec := "fnExactEventOk", apart := false }
def FnExactEventOkSaid : Prop := fnExactEventOkRow.holds Try.pinned (OpenSpec.ofChange fnExactEventOkSpec)

/-- ITS FALSE NEIGHBOUR: 'it returns false'. Refute it at one input. -/
def fnExactEventOkWrong : ChangeSpec := { name := "fnExactEventOk", fn := fun _ => fun
  | [d] => { results := [.lit (.bool false)], args := [d] }
  | _ => none }
def FnExactEventOkWrongFalsely : Prop := fnExactEventOkRow.holds Try.pinned (OpenSpec.ofChange fnExactEventOkWrong)

/-- 'laws.FnExactThingOf': WHATEVER THE INPUT: true; the input reads as it did. -/
def fnExactThingOfSpec : ChangeSpec := { name := "fnExactThingOf", fn := fun _ => fun
  | [d1, d2] => { results := [.lit (.bool true)], args := [d1, d2] }
  | _ => none }
def fnExactThingOfRow : OpenClaim := { program := "ytmhggcgkbenedaa", sum := "2bfa611521b1b9bee583cdcaf84263c47c65c1f2e055fd591de799bb8d931dd9", func := "loop.example/g00186/laws.FnExactThingOf", spec := "fnExactThingOf", apart := false }
def FnExactThingOfSaid : Prop := fnExactThingOfRow.holds Try.pinned (OpenSpec.ofChange fnExactThingOfSpec)

/-- ITS FALSE NEIGHBOUR: 'it returns false'. Refute it at one input. -/
def fnExactThingOfWrong : ChangeSpec := { name := "fnExactThingOf", fn := fun _ => fun
  | [d1, d2] => { results := [.lit (.bool false)], args := [d1, d2] }
  | _ => none }
def FnExactThingOfWrongFalsely : Prop := fnExactThingOfRow.holds Try.pinned (OpenSpec.ofChange fnExactThingOfWrong)

/-- 'laws.FnExactRecText': WHATEVER THE INPUT: true; the input reads as it did. -/
def fnExactRecTextSpec : ChangeSpec := { name := "fnExactRecText", fn := fun _ => fun
  | [d] => { results := [.lit (.bool true)], args := [d] }
  | _ => none }
def fnExactRecTextRow : OpenClaim := { program := "ytmhggcgkbenedaa", sum := "2bfa611521b1b9bee583cdcaf84263c47c65c1f2e055fd591de799bb8d931dd9", func := "loop.example/g00186/laws.FnExactRecText", spec := "fnExactRecText", apart := false }
def FnExactRecTextSaid : Prop := fnExactRecTextRow.holds Try.pinned (OpenSpec.ofChange fnExactRecTextSpec)

/-- ITS FALSE NEIGHBOUR: 'it returns false'. Refute it at one input. -/
def fnExactRecTextWrong : ChangeSpec := { name := "fnExactRecText", fn := fun _ => fun
  | [d] => { results := [.lit (.bool false)], args := [d] }
  | _ => none }
def FnExactRecTextWrongFalsely : Prop := fnExactRecTextRow.holds Try.pinned (OpenSpec.ofChange fnExactRecTextWrong)

/-- 'laws.FnExactBookOk': WHATEVER THE INPUT: true; the input reads as it did. -/
def fnExactBookOkSpec : ChangeSpec := { name := "fnExactBookOk", fn := fun _ => fun
  | [d] => { results := [.lit (.bool true)], args := [d] }
  | _ => none }
def fnExactBookOkRow : OpenClaim := { program := "ytmhggcgkbenedaa", sum := "2bfa611521b1b9bee583cdcaf84263c47c65c1f2e055fd591de799bb8d931dd9", func := "loop.example/g00186/laws.FnExactBookOk", spec := "fnExactBookOk", apart := false }
def FnExactBookOkSaid : Prop := fnExactBookOkRow.holds Try.pinned (OpenSpec.ofChange fnExactBookOkSpec)

/-- ITS FALSE NEIGHBOUR: 'it returns false'. Refute it at one input. -/
def fnExactBookOkWrong : ChangeSpec := { name := "fnExactBookOk", fn := fun _ => fun
  | [d] => { results := [.lit (.bool false)], args := [d] }
  | _ => none }
def FnExactBookOkWrongFalsely : Prop := fnExactBookOkRow.holds Try.pinned (OpenSpec.ofChange fnExactBookOkWrong)

/-- 'laws.FnExactReadThing': WHATEVER THE INPUT: true; the input reads as it did. -/
def fnExactReadThingSpec : ChangeSpec := { name := "fnExactReadThing", fn := fun _ => fun
  | [d] => { results := [.lit (.bool true)], args := [d] }
  | _ => none }
def fnExactReadThingRow : OpenClaim := { program := "ytmhggcgkbenedaa", sum := "2bfa611521b1b9bee583cdcaf84263c47c65c1f2e055fd591de799bb8d931dd9", func := "loop.example/g00186/laws.FnExactReadThing", spec := "fnExactReadThing", apart := false }
def FnExactReadThingSaid : Prop := fnExactReadThingRow.holds Try.pinned (OpenSpec.ofChange fnExactReadThingSpec)

/-- ITS FALSE NEIGHBOUR: 'it returns false'. Refute it at one input. -/
def fnExactReadThingWrong : ChangeSpec := { name := "fnExactReadThing", fn := fun _ => fun
  | [d] => { results := [.lit (.bool false)], args := [d] }
  | _ => none }
def FnExactReadThingWrongFalsely : Prop := fnExactReadThingRow.holds Try.pinned (OpenSpec.ofChange fnExactReadThingWrong)

/-- 'laws.FnExactReadRec': WHATEVER THE INPUT: true; the input reads as it did. -/
def fnExactReadRecSpec : ChangeSpec := { name := "fnExactReadRec", fn := fun _ => fun
  | [d] => { results := [.lit (.bool true)], args := [d] }
  | _ => none }
def fnExactReadRecRow : OpenClaim := { program := "ytmhggcgkbenedaa", sum := "2bfa611521b1b9bee583cdcaf84263c47c65c1f2e055fd591de799bb8d931dd9", func := "loop.example/g00186/laws.FnExactReadRec", spec := "fnExactReadRec", apart := false }
def FnExactReadRecSaid : Prop := fnExactReadRecRow.holds Try.pinned (OpenSpec.ofChange fnExactReadRecSpec)

/-- ITS FALSE NEIGHBOUR: 'it returns false'. Refute it at one input. -/
def fnExactReadRecWrong : ChangeSpec := { name := "fnExactReadRec", fn := fun _ => fun
  | [d] => { results := [.lit (.bool false)], args := [d] }
  | _ => none }
def FnExactReadRecWrongFalsely : Prop := fnExactReadRecRow.holds Try.pinned (OpenSpec.ofChange fnExactReadRecWrong)

/- THE SECOND FORM. 'bulk': how many values and letters a reading holds, each counted each time it is reached (what is shared counts as often as it is met; a slice's spare places count too). A statement '..UptoSaid' is the law's where the arguments, and the package variables that the reading takes, are together of bulk at most 1048576: NARROWER than '..Said'. Prove '..Said' where nothing that the law and all that it calls make is longer than what came in: it says more and counts as full. Else prove '..UptoSaid'. A law counts once. -/
mutual
def uptoBulk {H : Type} : DataW H → Nat
  | .lit (.string bytes) => bytes.length + 1
  | .lit _ => 1
  | .nil => 1
  | .ptr d => uptoBulk d + 1
  | .slice elems spare => uptoBulkAll elems + uptoBulkAll spare + 1
  | .agg parts => uptoBulkAll parts + 1
  | .iface _ d => uptoBulk d + 1
  | .map entries => uptoBulkEntries entries + 1
  | .held _ => 1
def uptoBulkAll {H : Type} : List (DataW H) → Nat
  | [] => 0
  | d :: r => uptoBulk d + uptoBulkAll r
def uptoBulkEntries {H : Type} : List (Lit × DataW H) → Nat
  | [] => 0
  | x :: r => uptoBulkEntry x + uptoBulkEntries r
def uptoBulkEntry {H : Type} : Lit × DataW H → Nat
  | (.string bytes, d) => bytes.length + uptoBulk d + 1
  | (_, d) => uptoBulk d + 1
 end
def uptoSmall : (H : Type) → List (DataW H) → Bool := fun _ ds => decide (uptoBulkAll ds ≤ 1048576)
def OpenSpec.upto (s : _root_.Go.ChangeSpec) : _root_.Go.OpenSpec := { _root_.Go.OpenSpec.ofChange s with cond := some uptoSmall }

/-- 'laws.FnExactThingText', WHERE WHAT IT READS IS OF BULK AT MOST 1048576: true; the input reads as it did. -/
def fnExactThingTextUptoRow : OpenClaim := { program := "ytmhggcgkbenedaa", sum := "2bfa611521b1b9bee583cdcaf84263c47c65c1f2e055fd591de799bb8d931dd9", func := "loop.example/g00186/laws.FnExactThingText", spec := "fnExactThingText", apart := false, narrowed := true }
def FnExactThingTextUptoSaid : Prop := fnExactThingTextUptoRow.holds Try.pinned (OpenSpec.upto fnExactThingTextSpec)

/-- 'laws.FnExactLeafs', WHERE WHAT IT READS IS OF BULK AT MOST 1048576: true; the input reads as it did. -/
def fnExactLeafsUptoRow : OpenClaim := { program := "ytmhggcgkbenedaa", sum := "2bfa611521b1b9bee583cdcaf84263c47c65c1f2e055fd591de799bb8d931dd9", func := "loop.example/g00186/laws.FnExactLeafs", spec := "fnExactLeafs", apart := false, narrowed := true }
def FnExactLeafsUptoSaid : Prop := fnExactLeafsUptoRow.holds Try.pinned (OpenSpec.upto fnExactLeafsSpec)

/-- 'laws.FnExactEventOk', WHERE WHAT IT READS IS OF BULK AT MOST 1048576: true; the input reads as it did. -/
def fnExactEventOkUptoRow : OpenClaim := { program := "ytmhggcgkbenedaa", sum := "2bfa611521b1b9bee583cdcaf84263c47c65c1f2e055fd591de799bb8d931dd9", func := "loop.example/g00186/laws.FnExactEventOk", spec := "fnExactEventOk", apart := false, narrowed := true }
def FnExactEventOkUptoSaid : Prop := fnExactEventOkUptoRow.holds Try.pinned (OpenSpec.upto fnExactEventOkSpec)

/-- 'laws.FnExactThingOf', WHERE WHAT IT READS IS OF BULK AT MOST 1048576: true; the input reads as it did. -/
def fnExactThingOfUptoRow : OpenClaim := { program := "ytmhggcgkbenedaa", sum := "2bfa611521b1b9bee583cdcaf84263c47c65c1f2e055fd591de799bb8d931dd9", func := "loop.example/g00186/laws.FnExactThingOf", spec := "fnExactThingOf", apart := false, narrowed := true }
def FnExactThingOfUptoSaid : Prop := fnExactThingOfUptoRow.holds Try.pinned (OpenSpec.upto fnExactThingOfSpec)

/-- 'laws.FnExactRecText', WHERE WHAT IT READS IS OF BULK AT MOST 1048576: true; the input reads as it did. -/
def fnExactRecTextUptoRow : OpenClaim := { program := "ytmhggcgkbenedaa", sum := "2bfa611521b1b9bee583cdcaf84263c47c65c1f2e055fd591de799bb8d931dd9", func := "loop.example/g00186/laws.FnExactRecText", spec := "fnExactRecText", apart := false, narrowed := true }
def FnExactRecTextUptoSaid : Prop := fnExactRecTextUptoRow.holds Try.pinned (OpenSpec.upto fnExactRecTextSpec)

/-- 'laws.FnExactBookOk', WHERE WHAT IT READS IS OF BULK AT MOST 1048576: true; the input reads as it did. -/
def fnExactBookOkUptoRow : OpenClaim := { program := "ytmhggcgkbenedaa", sum := "2bfa611521b1b9bee583cdcaf84263c47c65c1f2e055fd591de799bb8d931dd9", func := "loop.example/g00186/laws.FnExactBookOk", spec := "fnExactBookOk", apart := false, narrowed := true }
def FnExactBookOkUptoSaid : Prop := fnExactBookOkUptoRow.holds Try.pinned (OpenSpec.upto fnExactBookOkSpec)

/-- 'laws.FnExactReadThing', WHERE WHAT IT READS IS OF BULK AT MOST 1048576: true; the input reads as it did. -/
def fnExactReadThingUptoRow : OpenClaim := { program := "ytmhggcgkbenedaa", sum := "2bfa611521b1b9bee583cdcaf84263c47c65c1f2e055fd591de799bb8d931dd9", func := "loop.example/g00186/laws.FnExactReadThing", spec := "fnExactReadThing", apart := false, narrowed := true }
def FnExactReadThingUptoSaid : Prop := fnExactReadThingUptoRow.holds Try.pinned (OpenSpec.upto fnExactReadThingSpec)

/-- 'laws.FnExactReadRec', WHERE WHAT IT READS IS OF BULK AT MOST 1048576: true; the input reads as it did. -/
def fnExactReadRecUptoRow : OpenClaim := { program := "ytmhggcgkbenedaa", sum := "2bfa611521b1b9bee583cdcaf84263c47c65c1f2e055fd591de799bb8d931dd9", func := "loop.example/g00186/laws.FnExactReadRec", spec := "fnExactReadRec", apart := false, narrowed := true }
def FnExactReadRecUptoSaid : Prop := fnExactReadRecUptoRow.holds Try.pinned (OpenSpec.upto fnExactReadRecSpec)

end Rows
end Go.Proofs.Ytmhggcgkbenedaa
