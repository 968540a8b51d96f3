/-
  No cell of these rows narrows 'for every input' (looked for: loops, veiled, ifaces, maps, wideKeys, modest, calm, conditions, laid).
  DERIVED. THE GIVEN ROWS OF THIS SEAT. 7 by the template 'for every input the law returns true; each argument reads behind the call as it read before'; 0 by the template 'total and deterministic' (their statements: YtnmnmmcpajpfgaaTotals.lean).
  GIVEN WITH THE SEED: the statements are not yours to turn. If you find one false, say at which input.
  Laid BY PROGRAM, IN A SANDBOX (cutbox-rows.mjs): the forced cells as the released guide's own fill.sh prints them over the translation 785fad2b9105875c… (all of the seat's roots in one cut). By AI agents, Wed Nov 11 2026. No macro, syntax, notation, axiom, sorry.
-/
import Derived.Test.YtnmnmmcpajpfgaaChecked
import GoSem.Claim
import GoSem.ClaimJoined
import GoSem.ClaimMapViews
import Derived.JoinedTies
import Derived.KernelRfl
namespace Go.Proofs.Ytnmnmmcpajpfgaa
/- THE CELL 'sum', in the pinned program and in every row, IS THE sha256 OF THE DUMP (.gsa) THAT YtnmnmmcpajpfgaaProg.lean LOADS. Nothing in Lean hashes anything: it is a label: what it is worth is what the hold of that sum in a sandbox is worth. -/
noncomputable def Try.pinned : Pinned := { name := "ytnmnmmcpajpfgaa", sum := "785fad2b9105875ca85440aefe361c1ad3e8de53bdd32923e88160d6388abeee", checked := Try.checked }
namespace Rows
def none {H : Type} : Left H := { results := [], args := [] }

/-- 'laws.FnExactCallOk': WHATEVER THE INPUT: true; the input reads as it did. -/
def fnExactCallOkSpec : ChangeSpec := { name := "fnExactCallOk", fn := fun _ => fun
  | [d] => { results := [.lit (.bool true)], args := [d] }
  | _ => none }
def fnExactCallOkRow : OpenClaim := { program := "ytnmnmmcpajpfgaa", sum := "785fad2b9105875ca85440aefe361c1ad3e8de53bdd32923e88160d6388abeee", func := "loop.example/g00186/laws.FnExactCallOk", spec := "fnExactCallOk", apart := false }
def FnExactCallOkSaid : Prop := fnExactCallOkRow.holds Try.pinned (OpenSpec.ofChange fnExactCallOkSpec)

/-- ITS FALSE NEIGHBOUR: 'it returns false'. Refute it at one input. -/
def fnExactCallOkWrong : ChangeSpec := { name := "fnExactCallOk", fn := fun _ => fun
  | [d] => { results := [.lit (.bool false)], args := [d] }
  | _ => none }
def FnExactCallOkWrongFalsely : Prop := fnExactCallOkRow.holds Try.pinned (OpenSpec.ofChange fnExactCallOkWrong)

/-- 'laws.FnExactThingOk': WHATEVER THE INPUT: true; the input reads as it did. -/
def fnExactThingOkSpec : ChangeSpec := { name := "fnExactThingOk", fn := fun _ => fun
  | [d] => { results := [.lit (.bool true)], args := [d] }
  | _ => none }
def fnExactThingOkRow : OpenClaim := { program := "ytnmnmmcpajpfgaa", sum := "785fad2b9105875ca85440aefe361c1ad3e8de53bdd32923e88160d6388abeee", func := "loop.example/g00186/laws.FnExactThingOk", spec := "fnExactThingOk", apart := false }
def FnExactThingOkSaid : Prop := fnExactThingOkRow.holds Try.pinned (OpenSpec.ofChange fnExactThingOkSpec)

/-- ITS FALSE NEIGHBOUR: 'it returns false'. Refute it at one input. -/
def fnExactThingOkWrong : ChangeSpec := { name := "fnExactThingOk", fn := fun _ => fun
  | [d] => { results := [.lit (.bool false)], args := [d] }
  | _ => none }
def FnExactThingOkWrongFalsely : Prop := fnExactThingOkRow.holds Try.pinned (OpenSpec.ofChange fnExactThingOkWrong)

/-- 'laws.FnExactRestored': WHATEVER THE INPUT: true; the input reads as it did. -/
def fnExactRestoredSpec : ChangeSpec := { name := "fnExactRestored", fn := fun _ => fun
  | [d] => { results := [.lit (.bool true)], args := [d] }
  | _ => none }
def fnExactRestoredRow : OpenClaim := { program := "ytnmnmmcpajpfgaa", sum := "785fad2b9105875ca85440aefe361c1ad3e8de53bdd32923e88160d6388abeee", func := "loop.example/g00186/laws.FnExactRestored", spec := "fnExactRestored", apart := false }
def FnExactRestoredSaid : Prop := fnExactRestoredRow.holds Try.pinned (OpenSpec.ofChange fnExactRestoredSpec)

/-- ITS FALSE NEIGHBOUR: 'it returns false'. Refute it at one input. -/
def fnExactRestoredWrong : ChangeSpec := { name := "fnExactRestored", fn := fun _ => fun
  | [d] => { results := [.lit (.bool false)], args := [d] }
  | _ => none }
def FnExactRestoredWrongFalsely : Prop := fnExactRestoredRow.holds Try.pinned (OpenSpec.ofChange fnExactRestoredWrong)

/-- 'laws.FnExactOnceOnly': WHATEVER THE INPUT: true; the input reads as it did. -/
def fnExactOnceOnlySpec : ChangeSpec := { name := "fnExactOnceOnly", fn := fun _ => fun
  | [d] => { results := [.lit (.bool true)], args := [d] }
  | _ => none }
def fnExactOnceOnlyRow : OpenClaim := { program := "ytnmnmmcpajpfgaa", sum := "785fad2b9105875ca85440aefe361c1ad3e8de53bdd32923e88160d6388abeee", func := "loop.example/g00186/laws.FnExactOnceOnly", spec := "fnExactOnceOnly", apart := false }
def FnExactOnceOnlySaid : Prop := fnExactOnceOnlyRow.holds Try.pinned (OpenSpec.ofChange fnExactOnceOnlySpec)

/-- ITS FALSE NEIGHBOUR: 'it returns false'. Refute it at one input. -/
def fnExactOnceOnlyWrong : ChangeSpec := { name := "fnExactOnceOnly", fn := fun _ => fun
  | [d] => { results := [.lit (.bool false)], args := [d] }
  | _ => none }
def FnExactOnceOnlyWrongFalsely : Prop := fnExactOnceOnlyRow.holds Try.pinned (OpenSpec.ofChange fnExactOnceOnlyWrong)

/-- 'laws.FnExactRising': WHATEVER THE INPUT: true; the input reads as it did. -/
def fnExactRisingSpec : ChangeSpec := { name := "fnExactRising", fn := fun _ => fun
  | [d] => { results := [.lit (.bool true)], args := [d] }
  | _ => none }
def fnExactRisingRow : OpenClaim := { program := "ytnmnmmcpajpfgaa", sum := "785fad2b9105875ca85440aefe361c1ad3e8de53bdd32923e88160d6388abeee", func := "loop.example/g00186/laws.FnExactRising", spec := "fnExactRising", apart := false }
def FnExactRisingSaid : Prop := fnExactRisingRow.holds Try.pinned (OpenSpec.ofChange fnExactRisingSpec)

/-- ITS FALSE NEIGHBOUR: 'it returns false'. Refute it at one input. -/
def fnExactRisingWrong : ChangeSpec := { name := "fnExactRising", fn := fun _ => fun
  | [d] => { results := [.lit (.bool false)], args := [d] }
  | _ => none }
def FnExactRisingWrongFalsely : Prop := fnExactRisingRow.holds Try.pinned (OpenSpec.ofChange fnExactRisingWrong)

/-- 'laws.FnExactMay': WHATEVER THE INPUT: true; the input reads as it did. -/
def fnExactMaySpec : ChangeSpec := { name := "fnExactMay", fn := fun _ => fun
  | [d1, d2] => { results := [.lit (.bool true)], args := [d1, d2] }
  | _ => none }
def fnExactMayRow : OpenClaim := { program := "ytnmnmmcpajpfgaa", sum := "785fad2b9105875ca85440aefe361c1ad3e8de53bdd32923e88160d6388abeee", func := "loop.example/g00186/laws.FnExactMay", spec := "fnExactMay", apart := false }
def FnExactMaySaid : Prop := fnExactMayRow.holds Try.pinned (OpenSpec.ofChange fnExactMaySpec)

/-- ITS FALSE NEIGHBOUR: 'it returns false'. Refute it at one input. -/
def fnExactMayWrong : ChangeSpec := { name := "fnExactMay", fn := fun _ => fun
  | [d1, d2] => { results := [.lit (.bool false)], args := [d1, d2] }
  | _ => none }
def FnExactMayWrongFalsely : Prop := fnExactMayRow.holds Try.pinned (OpenSpec.ofChange fnExactMayWrong)

/-- 'laws.FnExactChange': WHATEVER THE INPUT: true; the input reads as it did. -/
def fnExactChangeSpec : ChangeSpec := { name := "fnExactChange", fn := fun _ => fun
  | [d1, d2, d3] => { results := [.lit (.bool true)], args := [d1, d2, d3] }
  | _ => none }
def fnExactChangeRow : OpenClaim := { program := "ytnmnmmcpajpfgaa", sum := "785fad2b9105875ca85440aefe361c1ad3e8de53bdd32923e88160d6388abeee", func := "loop.example/g00186/laws.FnExactChange", spec := "fnExactChange", apart := false }
def FnExactChangeSaid : Prop := fnExactChangeRow.holds Try.pinned (OpenSpec.ofChange fnExactChangeSpec)

/-- ITS FALSE NEIGHBOUR: 'it returns false'. Refute it at one input. -/
def fnExactChangeWrong : ChangeSpec := { name := "fnExactChange", fn := fun _ => fun
  | [d1, d2, d3] => { results := [.lit (.bool false)], args := [d1, d2, d3] }
  | _ => none }
def FnExactChangeWrongFalsely : Prop := fnExactChangeRow.holds Try.pinned (OpenSpec.ofChange fnExactChangeWrong)

/- THE SECOND FORM. 'bulk': how many values and letters a reading holds, each counted each time it is reached (what is shared counts as often as it is met; a slice's spare places count too). A statement '..UptoSaid' is the law's where the arguments, and the package variables that the reading takes, are together of bulk at most 1048576: NARROWER than '..Said'. Prove '..Said' where nothing that the law and all that it calls make is longer than what came in: it says more and counts as full. Else prove '..UptoSaid'. A law counts once. -/
mutual
def uptoBulk {H : Type} : DataW H → Nat
  | .lit (.string bytes) => bytes.length + 1
  | .lit _ => 1
  | .nil => 1
  | .ptr d => uptoBulk d + 1
  | .slice elems spare => uptoBulkAll elems + uptoBulkAll spare + 1
  | .agg parts => uptoBulkAll parts + 1
  | .iface _ d => uptoBulk d + 1
  | .map entries => uptoBulkEntries entries + 1
  | .held _ => 1
def uptoBulkAll {H : Type} : List (DataW H) → Nat
  | [] => 0
  | d :: r => uptoBulk d + uptoBulkAll r
def uptoBulkEntries {H : Type} : List (Lit × DataW H) → Nat
  | [] => 0
  | x :: r => uptoBulkEntry x + uptoBulkEntries r
def uptoBulkEntry {H : Type} : Lit × DataW H → Nat
  | (.string bytes, d) => bytes.length + uptoBulk d + 1
  | (_, d) => uptoBulk d + 1
 end
def uptoSmall : (H : Type) → List (DataW H) → Bool := fun _ ds => decide (uptoBulkAll ds ≤ 1048576)
def OpenSpec.upto (s : _root_.Go.ChangeSpec) : _root_.Go.OpenSpec := { _root_.Go.OpenSpec.ofChange s with cond := some uptoSmall }

/-- 'laws.FnExactCallOk', WHERE WHAT IT READS IS OF BULK AT MOST 1048576: true; the input reads as it did. -/
def fnExactCallOkUptoRow : OpenClaim := { program := "ytnmnmmcpajpfgaa", sum := "785fad2b9105875ca85440aefe361c1ad3e8de53bdd32923e88160d6388abeee", func := "loop.example/g00186/laws.FnExactCallOk", spec := "fnExactCallOk", apart := false, narrowed := true }
def FnExactCallOkUptoSaid : Prop := fnExactCallOkUptoRow.holds Try.pinned (OpenSpec.upto fnExactCallOkSpec)

/-- 'laws.FnExactThingOk', WHERE WHAT IT READS IS OF BULK AT MOST 1048576: true; the input reads as it did. -/
def fnExactThingOkUptoRow : OpenClaim := { program := "ytnmnmmcpajpfgaa", sum := "785fad2b9105875ca85440aefe361c1ad3e8de53bdd32923e88160d6388abeee", func := "loop.example/g00186/laws.FnExactThingOk", spec := "fnExactThingOk", apart := false, narrowed := true }
def FnExactThingOkUptoSaid : Prop := fnExactThingOkUptoRow.holds Try.pinned (OpenSpec.upto fnExactThingOkSpec)

/-- 'laws.FnExactRestored', WHERE WHAT IT READS IS OF BULK AT MOST 1048576: true; the input reads as it did. -/
def fnExactRestoredUptoRow : OpenClaim := { program := "ytnmnmmcpajpfgaa", sum := "785fad2b9105875ca85440aefe361c1ad3e8de53bdd32923e88160d6388abeee", func := "loop.example/g00186/laws.FnExactRestored", spec := "fnExactRestored", apart := false, narrowed := true }
def FnExactRestoredUptoSaid : Prop := fnExactRestoredUptoRow.holds Try.pinned (OpenSpec.upto fnExactRestoredSpec)

/-- 'laws.FnExactOnceOnly', WHERE WHAT IT READS IS OF BULK AT MOST 1048576: true; the input reads as it did. -/
def fnExactOnceOnlyUptoRow : OpenClaim := { program := "ytnmnmmcpajpfgaa", sum := "785fad2b9105875ca85440aefe361c1ad3e8de53bdd32923e88160d6388abeee", func := "loop.example/g00186/laws.FnExactOnceOnly", spec := "fnExactOnceOnly", apart := false, narrowed := true }
def FnExactOnceOnlyUptoSaid : Prop := fnExactOnceOnlyUptoRow.holds Try.pinned (OpenSpec.upto fnExactOnceOnlySpec)

/-- 'laws.FnExactRising', WHERE WHAT IT READS IS OF BULK AT MOST 1048576: true; the input reads as it did. -/
def fnExactRisingUptoRow : OpenClaim := { program := "ytnmnmmcpajpfgaa", sum := "785fad2b9105875ca85440aefe361c1ad3e8de53bdd32923e88160d6388abeee", func := "loop.example/g00186/laws.FnExactRising", spec := "fnExactRising", apart := false, narrowed := true }
def FnExactRisingUptoSaid : Prop := fnExactRisingUptoRow.holds Try.pinned (OpenSpec.upto fnExactRisingSpec)

/-- 'laws.FnExactMay', WHERE WHAT IT READS IS OF BULK AT MOST 1048576: true; the input reads as it did. -/
def fnExactMayUptoRow : OpenClaim := { program := "ytnmnmmcpajpfgaa", sum := "785fad2b9105875ca85440aefe361c1ad3e8de53bdd32923e88160d6388abeee", func := "loop.example/g00186/laws.FnExactMay", spec := "fnExactMay", apart := false, narrowed := true }
def FnExactMayUptoSaid : Prop := fnExactMayUptoRow.holds Try.pinned (OpenSpec.upto fnExactMaySpec)

/-- 'laws.FnExactChange', WHERE WHAT IT READS IS OF BULK AT MOST 1048576: true; the input reads as it did. -/
def fnExactChangeUptoRow : OpenClaim := { program := "ytnmnmmcpajpfgaa", sum := "785fad2b9105875ca85440aefe361c1ad3e8de53bdd32923e88160d6388abeee", func := "loop.example/g00186/laws.FnExactChange", spec := "fnExactChange", apart := false, narrowed := true }
def FnExactChangeUptoSaid : Prop := fnExactChangeUptoRow.holds Try.pinned (OpenSpec.upto fnExactChangeSpec)

end Rows
end Go.Proofs.Ytnmnmmcpajpfgaa
