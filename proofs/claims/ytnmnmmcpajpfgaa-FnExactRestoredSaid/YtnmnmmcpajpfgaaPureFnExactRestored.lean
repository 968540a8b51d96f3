/- Restored of the program and of the reference answer alike for every thing. -/
import Derived.Test.YtnmnmmcpajpfgaaOpen
import Derived.Test.YtnmnmmcpajpfgaaPFnExactRestoredx0
import Derived.Test.YtnmnmmcpajpfgaaPFnExactRestoredx1
namespace Go.Proofs.Ytnmnmmcpajpfgaa.Pure
open Go.RowKit Go.Proofs.YtnmnmmcpajpfgaaW.PrintWords Go.Proofs.YtnmnmmcpajpfgaaW.PrintLast Go.Proofs.Ytnmnmmcpajpfgaa.Open Go.Proofs.Ytnmnmmcpajpfgaa.PFnExactRestored

set_option linter.unusedVariables false
set_option linter.unusedSimpArgs false

theorem FnExactRestored : ∀ (a0_0 : Int) (a0_1 : Int) (a0_2 : Bool) (a0_3 : Bool) (a0_4 : Bool) (a0_5 : Bool) (a0_6 : ByteArray) (a0_7 : Int), GInt .i64 a0_0 → GInt .i64 a0_1 → GStr a0_6 → GInt .i64 a0_7 → laws_FnExactRestored.f a0_0 a0_1 a0_2 a0_3 a0_4 a0_5 a0_6 a0_7 = some true := by
  intro a0 a1 a2 a3 a4 a5 a6 a7 _ _ _ _
  unfold laws_FnExactRestored.f laws_toThing.f laws_szThing.f spec_Restored.f impl_Restored.f laws_eqThing.f
  simp only [Option.bind_some]
  split <;> simp

end Go.Proofs.Ytnmnmmcpajpfgaa.Pure
