/- CallOk of the program and of the reference answer alike for every call. -/
import Derived.Test.YtnmnmmcpajpfgaaOpen
import Derived.Test.YtnmnmmcpajpfgaaPFnExactCallOkx0
import Derived.Test.YtnmnmmcpajpfgaaPFnExactCallOkx1
namespace Go.Proofs.Ytnmnmmcpajpfgaa.Pure
open Go.RowKit Go.Proofs.YtnmnmmcpajpfgaaW.PrintWords Go.Proofs.YtnmnmmcpajpfgaaW.PrintLast Go.Proofs.Ytnmnmmcpajpfgaa.Open Go.Proofs.Ytnmnmmcpajpfgaa.PFnExactCallOk

set_option linter.unusedVariables false
set_option linter.unusedSimpArgs false

theorem spec_callOk (a0 a1 a2 a3 : Int) (a4 : ByteArray) (a5 a6 : Bool) : spec_CallOk.f a0 a1 a2 a3 a4 a5 a6 = impl_CallOk.f a0 a1 a2 a3 a4 a5 a6 := rfl
theorem impl_in_some (a b c : Int) : ∃ r, impl_in.f a b c = some r := by unfold impl_in.f; split <;> exact ⟨_, rfl⟩
theorem impl_callOk_some (a0 a1 a2 a3 : Int) (a4 : ByteArray) (a5 a6 : Bool) : ∃ r, impl_CallOk.f a0 a1 a2 a3 a4 a5 a6 = some r := by
  unfold impl_CallOk.f
  obtain ⟨r0, h0⟩ := impl_in_some a0 1 13
  obtain ⟨r1, h1⟩ := impl_in_some a1 0 1000
  obtain ⟨r2, h2⟩ := impl_in_some a2 0 1000
  obtain ⟨r3, h3⟩ := impl_in_some a3 0 3
  rw [h0, h1, h2, h3]
  simp only [Option.bind_some]
  repeat' split
  all_goals exact ⟨_, rfl⟩
theorem FnExactCallOk : ∀ (a0_0 : Int) (a0_1 : Int) (a0_2 : Int) (a0_3 : Int) (a0_4 : ByteArray) (a0_5 : Bool) (a0_6 : Bool), GInt .i64 a0_0 → GInt .i64 a0_1 → GInt .i64 a0_2 → GInt .i64 a0_3 → GStr a0_4 → laws_FnExactCallOk.f a0_0 a0_1 a0_2 a0_3 a0_4 a0_5 a0_6 = some true := by
  intro a0 a1 a2 a3 a4 a5 a6 _ _ _ _ _
  obtain ⟨r, hr⟩ := impl_callOk_some a0 a1 a2 a3 a4 a5 a6
  unfold laws_FnExactCallOk.f laws_toCall.f laws_szCall.f
  simp only [Option.bind_some, spec_callOk, hr]
  split <;> simp

end Go.Proofs.Ytnmnmmcpajpfgaa.Pure
