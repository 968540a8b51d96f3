/- The row of the law FnExactMay, out of the printed walk and the pure statement (YtnmnmmcpajpfgaaPureFnExactMay): for every input that can be read. No condition of its own. -/
import Derived.Test.YtnmnmmcpajpfgaaRows
import Derived.Test.YtnmnmmcpajpfgaaOpen
import Derived.Test.YtnmnmmcpajpfgaaPFnExactMayx3
import Derived.Test.YtnmnmmcpajpfgaaPFnExactMayx0
import Derived.Test.YtnmnmmcpajpfgaaPureFnExactMay
import Derived.WalkKit
import Derived.ProofKit
import Derived.OpenShut
import Derived.ShutString
import Derived.ChangeOld
import Derived.Below
import Derived.SizedLaws
namespace Go.Proofs.Ytnmnmmcpajpfgaa.fnExactMay
open Go.ChangeShapes Go.WideShapes Go.ChangeAt Go.RowKit Go.Proofs.YtnmnmmcpajpfgaaW.PrintWords Go.Proofs.Ytnmnmmcpajpfgaa.Open Go.Proofs.Ytnmnmmcpajpfgaa.PFnExactMay
set_option linter.unusedVariables false
set_option linter.unusedSimpArgs false
theorem own : ownKnob Try.prog.godebug = none := by kernel_rfl
theorem laidOut : laidOutB Try.prog = true := by kernel_rfl
theorem o3f : Opens Try.prog 3 (Kd.int .i64) (GInt .i64) := opens_int Try.underlying3
theorem o4f : Opens Try.prog 4 Kd.bool GBool := opens_bool Try.underlying4
theorem o9f : Opens Try.prog 9 Kd.string GStr := opens_string Try.underlying9
theorem o30f : Opens Try.prog 30 (Kd.pair (Kd.int .i64) (Kd.pair (Kd.int .i64) (Kd.pair Kd.bool (Kd.pair Kd.bool (Kd.pair Kd.bool (Kd.pair Kd.bool (Kd.pair Kd.string (Kd.int .i64)))))))) (GPair (GInt .i64) (GPair (GInt .i64) (GPair GBool (GPair GBool (GPair GBool (GPair GBool (GPair GStr (GInt .i64)))))))) := opens_struct Try.underlying30 rfl (by kernel_rfl) (opensF_cons rfl (by kernel_rfl) o3f (opensF_cons rfl (by kernel_rfl) o3f (opensF_cons rfl (by kernel_rfl) o4f (opensF_cons rfl (by kernel_rfl) o4f (opensF_cons rfl (by kernel_rfl) o4f (opensF_cons rfl (by kernel_rfl) o4f (opensF_cons rfl (by kernel_rfl) o9f (opensF_one rfl (by kernel_rfl) o3f))))))))
set_option maxRecDepth 100000 in
theorem lifted (os : Os) (started : os.Started) (H : Type) (enc : TypeId × Value → H) :
    ReturnsInHanded {} Try.checked os 8 .any (Rows.fnExactMaySpec.pre6 enc Try.prog Try.f8 Rows.fnExactMayRow.domain false) (Rows.fnExactMaySpec.post enc Try.prog Try.f8 false true false false) := by
  refine returnsInHanded_of_change_sized (C := Try.checked) own started (by kernel_rfl) Try.func8
    (ChangeSpec.witness6 (enc := enc) (C := Try.checked) false ⟨#[], #[.agg #[.int .i64 0, .int .i64 0, .bool false, .bool false, .bool false, .bool false, .string ByteArray.empty, .int .i64 0], .int .i64 0], []⟩ 8 (by kernel_rfl) (by kernel_rfl) (by kernel_rfl) (by kernel_rfl)) ?_
  intro W base args ds gs before hval0 hW hcnd hsz0 _
  have hsz : (DataW.weightsEach Try.prog (Try.f8.params.toList ++ Rows.fnExactMaySpec.plain.varTypes Try.prog) (ds ++ gs)).all (· ≤ reachBytes) = true := hsz0
  have hval : ∀ (j : Nat) t v, Try.f8.params[j]? = some t → args[j]? = some v → Value.okWide Try.prog W .any base t v := hval0
  have hW' := hW
  obtain ⟨p, q, hA0, hV, rfl, hfz, hnd⟩ := hW
  have hA : DataW.TrodAll enc Try.prog W 0 (fun _ => true) true Try.f8.params.toList args.toList ds p := hA0
  rw [Try.params8] at hA hval hsz
  obtain ⟨v0, vs0, d0, ds0, p0, q0, hargs, rfl, rfl, h0, r0⟩ := trodAll_cons hA
  obtain ⟨v1, vs1, d1, ds1, p1, q1, rfl, rfl, rfl, h1, r1⟩ := trodAll_cons r0
  obtain ⟨rfl, rfl, rfl⟩ := trodAll_nil r1
  obtain rfl : args = #[v0, v1] := by cases args; simp_all
  obtain ⟨rfl, rfl⟩ := trodVars_none hV
  obtain ⟨x0, kk0, gg0⟩ := opens_param o30f hsz (j := 0) (t := 30) rfl rfl h0
  obtain ⟨cs0, rfl, _⟩ := okWide_struct Try.underlying30 (hval 0 30 v0 rfl rfl)
  obtain ⟨a0_0, a0_1, a0_2, a0_3, a0_4, a0_5, a0_6, a0_7⟩ := x0
  obtain ⟨g0_0, g0_1, _, _, _, _, g0_6, g0_7⟩ := gg0
  obtain ⟨_, _, e0, rfl, ⟨_, _, rfl, rfl, ⟨_, _, rfl, rfl, ⟨_, _, rfl, rfl, ⟨_, _, rfl, rfl, ⟨_, _, rfl, rfl, ⟨_, _, rfl, rfl, rfl⟩⟩⟩⟩⟩⟩⟩ := kk0
  obtain rfl : cs0 = #[.int .i64 a0_0, .int .i64 a0_1, .bool a0_2, .bool a0_3, .bool a0_4, .bool a0_5, .string a0_6, .int .i64 a0_7] := by cases cs0; simpa [Value.cells] using e0
  obtain ⟨a1, kk1, gg1⟩ := opens_param o3f hsz (j := 1) (t := 3) rfl rfl h1
  obtain ⟨n1, rfl⟩ := okWide_int Try.underlying3 (hval 1 3 v1 rfl rfl)
  have g1 := gg1
  obtain rfl : a1 = n1 := by have e1 := kk1; simp [Value.cells, Kd.int, Kd.scalar] at e1; exact e1.symm
  obtain ⟨k, hh⟩ := Pure.FnExactMay a0_0 a0_1 a0_2 a0_3 a0_4 a0_5 a0_6 a0_7 a1 g0_0 g0_1 g0_6 g0_7 g1
  refine (laws_FnExactMay.calls k a0_0 a0_1 a0_2 a0_3 a0_4 a0_5 a0_6 a0_7 a1 true W hh).mono fun e W' ⟨he, bel0⟩ => ?_
  have bel := bel0
  subst he
  exact ⟨_, rfl, _, _, _, [], _, [], hW', trodAll_mk1 (shut_bool Try.underlying4 _), (trodAll_cons_mk (Below.trod laidOut (by kernel_rfl) (of_decide_eq_true (by kernel_rfl)) h0 bel (trod_lt h0)) (trodAll_cons_mk (Below.trod laidOut (by kernel_rfl) (of_decide_eq_true (by kernel_rfl)) h1 bel (trod_lt h1)) trodAll_mk0)), rfl, bel.frame _, fun h => by cases h⟩
theorem over : Rows.fnExactMayRow.holds Try.pinned (OpenSpec.ofChange Rows.fnExactMaySpec) :=
  OpenClaim.holds_of_wide 8 Try.f8 rfl rfl rfl rfl rfl rfl rfl ⟨rfl, rfl, rfl, rfl, rfl⟩ rfl rfl rfl rfl rfl (by kernel_rfl) Try.func8 (by kernel_rfl)
    (of_decide_eq_true (by kernel_rfl)) (by unfold Func.isWrapper; first | (rw [if_pos (by decide +kernel)]; kernel_rfl) | (rw [if_neg (by decide +kernel)]; exact ⟨rfl, rfl⟩))
    (fun os started H enc _ => lifted os started H enc)
theorem proved : Rows.FnExactMaySaid := over
#print axioms proved
end Go.Proofs.Ytnmnmmcpajpfgaa.fnExactMay
namespace Go.Proofs.Ytnmnmmcpajpfgaa
/-- The row, under a short name, for the claim. -/
theorem fnExactMay_holds : Rows.FnExactMaySaid := fnExactMay.proved
end Go.Proofs.Ytnmnmmcpajpfgaa
