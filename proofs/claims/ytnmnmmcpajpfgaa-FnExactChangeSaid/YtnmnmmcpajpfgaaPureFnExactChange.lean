/- Change of the program and of the reference answer alike for every thing. -/
import Derived.Test.YtnmnmmcpajpfgaaOpen
import Derived.Test.YtnmnmmcpajpfgaaPFnExactChangex0
import Derived.Test.YtnmnmmcpajpfgaaPFnExactChangex4
namespace Go.Proofs.Ytnmnmmcpajpfgaa.Pure
open Go.RowKit Go.Proofs.YtnmnmmcpajpfgaaW.PrintWords Go.Proofs.YtnmnmmcpajpfgaaW.PrintLast Go.Proofs.Ytnmnmmcpajpfgaa.Open Go.Proofs.Ytnmnmmcpajpfgaa.PFnExactChange

set_option linter.unusedVariables false
set_option linter.unusedSimpArgs false

def inB (a b c : Int) : Bool := decide (b ≤ a) && decide (a ≤ c)
theorem spec_in (a b c : Int) : spec_l01In.f a b c = some (inB a b c) := by
  unfold spec_l01In.f inB
  by_cases h : a ≥ b
  · rw [if_pos h]; simp [show b ≤ a from h]
  · rw [if_neg h]; simp [show ¬ b ≤ a from h]
theorem impl_in (a b c : Int) : impl_in.f a b c = some (inB a b c) := by
  unfold impl_in.f inB
  by_cases h : a ≥ b
  · rw [if_pos h]; simp [show b ≤ a from h]
  · rw [if_neg h]; simp [show ¬ b ≤ a from h]
def thingOk (id kind : Int) (signs wraps : Bool) (value : ByteArray) (next : Int) : Bool :=
  inB id 1 1000 && inB next 0 16 &&
  ((kind == 1 && !signs && next == 0 && ((value.size : Int) == 32)) || (kind == 2 && !wraps && ((value.size : Int) == 32)) || (kind == 3 && !signs && !wraps && next == 0 && decide ((value.size : Int) ≤ 100)))
theorem inB_kind {a : Int} (h1 : a ≠ 1) (h2 : a ≠ 2) (h3 : a ≠ 3) : inB a 1 3 = false := by
  unfold inB; simp; omega

theorem spec_thingOk (k : Nat) (a0 a1 : Int) (a2 a3 a4 a5 : Bool) (a6 : ByteArray) (a7 : Int) : spec_ThingOk.f (k + 2) a0 a1 a2 a3 a4 a5 a6 a7 = some (thingOk a0 a1 a4 a5 a6 a7) := by
  unfold spec_ThingOk.f thingOk
  simp only [spec_in, Option.bind_some, spec_ThingOk.j0, spec_ThingOk.j1]
  generalize inB a0 1 1000 = A
  generalize inB a7 0 16 = B
  by_cases k1 : a1 = 1
  · subst k1; cases A <;> cases B <;> cases a4 <;> cases a5 <;> by_cases z : a7 = 0 <;> simp [z, inB]
  by_cases k2 : a1 = 2
  · subst k2; cases A <;> cases B <;> cases a4 <;> cases a5 <;> simp [inB]
  by_cases k3 : a1 = 3
  · subst k3; cases A <;> cases B <;> cases a4 <;> cases a5 <;> by_cases z : a7 = 0 <;> simp [z, inB]
  · rw [inB_kind k1 k2 k3]; cases A <;> simp [k1, k2, k3]
theorem impl_thingOk (k : Nat) (a0 a1 : Int) (a2 a3 a4 a5 : Bool) (a6 : ByteArray) (a7 : Int) : impl_ThingOk.f (k + 2) a0 a1 a2 a3 a4 a5 a6 a7 = some (thingOk a0 a1 a4 a5 a6 a7) := by
  unfold impl_ThingOk.f thingOk
  simp only [impl_in, Option.bind_some, impl_ThingOk.j0, impl_ThingOk.j1]
  generalize inB a0 1 1000 = A
  generalize inB a7 0 16 = B
  by_cases k1 : a1 = 1
  · subst k1; cases A <;> cases B <;> cases a4 <;> cases a5 <;> by_cases z : a7 = 0 <;> simp [z]
  by_cases k2 : a1 = 2
  · subst k2; cases A <;> cases B <;> cases a4 <;> cases a5 <;> simp
  by_cases k3 : a1 = 3
  · subst k3; cases A <;> cases B <;> cases a4 <;> cases a5 <;> by_cases z : a7 = 0 <;> simp [z]
  · cases A <;> cases B <;> cases a4 <;> cases a5 <;> by_cases z : a7 = 0 <;> simp [k1, k2, k3, z]

theorem spec_change (k : Nat) (a0 a1 : Int) (a2 a3 a4 a5 : Bool) (a6 : ByteArray) (a7 : Int) (h f : Bool) : spec_Change.f (k + 2) a0 a1 a2 a3 a4 a5 a6 a7 h f = impl_Change.f (k + 2) a0 a1 a2 a3 a4 a5 a6 a7 h f := by
  unfold spec_Change.f impl_Change.f
  rw [spec_thingOk, impl_thingOk]
theorem impl_change_some (k : Nat) (a0 a1 : Int) (a2 a3 a4 a5 : Bool) (a6 : ByteArray) (a7 : Int) (h f : Bool) : ∃ r, impl_Change.f (k + 2) a0 a1 a2 a3 a4 a5 a6 a7 h f = some r := by
  unfold impl_Change.f
  rw [impl_thingOk]
  simp only [Option.bind_some]
  repeat' split
  all_goals exact ⟨_, rfl⟩
theorem FnExactChange : ∀ (a0_0 : Int) (a0_1 : Int) (a0_2 : Bool) (a0_3 : Bool) (a0_4 : Bool) (a0_5 : Bool) (a0_6 : ByteArray) (a0_7 : Int) (a1 : Bool) (a2 : Bool), GInt .i64 a0_0 → GInt .i64 a0_1 → GStr a0_6 → GInt .i64 a0_7 → ∃ k, laws_FnExactChange.f k a0_0 a0_1 a0_2 a0_3 a0_4 a0_5 a0_6 a0_7 a1 a2 = some true := by
  intro a0 a1 a2 a3 a4 a5 a6 a7 h f _ _ _ _
  obtain ⟨r, hr⟩ := impl_change_some 0 a0 a1 a2 a3 a4 a5 a6 a7 h f
  refine ⟨2, ?_⟩
  unfold laws_FnExactChange.f laws_toThing.f laws_szThing.f laws_eqThing.f
  simp only [Option.bind_some, spec_change 0, hr]
  split <;> simp

end Go.Proofs.Ytnmnmmcpajpfgaa.Pure
