/- The row of the law FnExactRising, out of the printed walk and the pure statement (YtnmnmmcpajpfgaaPureFnExactRising): for every input that can be read. No condition of its own. -/
import Derived.Test.YtnmnmmcpajpfgaaRows
import Derived.Test.YtnmnmmcpajpfgaaOpen
import Derived.Test.YtnmnmmcpajpfgaaPFnExactRisingx2
import Derived.Test.YtnmnmmcpajpfgaaPFnExactRisingx0
import Derived.Test.YtnmnmmcpajpfgaaPureFnExactRising
import Derived.WalkKit
import Derived.ProofKit
import Derived.OpenShut
import Derived.ShutString
import Derived.ChangeOld
import Derived.Below
import Derived.SizedLaws
namespace Go.Proofs.Ytnmnmmcpajpfgaa.fnExactRising
open Go.ChangeShapes Go.WideShapes Go.ChangeAt Go.RowKit Go.Proofs.YtnmnmmcpajpfgaaW.PrintWords Go.Proofs.Ytnmnmmcpajpfgaa.Open Go.Proofs.Ytnmnmmcpajpfgaa.PFnExactRising
set_option linter.unusedVariables false
set_option linter.unusedSimpArgs false
theorem own : ownKnob Try.prog.godebug = none := by kernel_rfl
theorem laidOut : laidOutB Try.prog = true := by kernel_rfl
theorem o3 : Opens Try.prog 3 (Kd.int .i64) (GInt .i64) := opens_int Try.underlying3
theorem o54 : Opens Try.prog 54 k54 (GIso (GPair (GInt .i64) (GPair (GInt .i64) (GInt .i64))) (fun x : S54 => (x.f0, x.f1, x.f2))) := opens_iso (fun x : S54 => (x.f0, x.f1, x.f2)) (fun p => ⟨p.1, p.2.1, p.2.2⟩) (fun _ => rfl) (opens_struct Try.underlying54 rfl (by kernel_rfl) (opensF_cons rfl (by kernel_rfl) o3 (opensF_cons rfl (by kernel_rfl) o3 (opensF_one rfl (by kernel_rfl) o3))))
theorem o38f : Opens Try.prog 38 (Kd.slice 54 k54) (GList 24 (GIso (GPair (GInt .i64) (GPair (GInt .i64) (GInt .i64))) (fun x : S54 => (x.f0, x.f1, x.f2)))) := opens_slice (B := 24) Try.underlying38 (by kernel_rfl) (by kernel_rfl) o54
theorem o38 : Opens Try.prog 38 (Kd.slice 54 k54) (GList 24 (GIso (GPair (GInt .i64) (GPair (GInt .i64) (GInt .i64))) (fun x : S54 => (x.f0, x.f1, x.f2)))) := opens_slice (B := 24) Try.underlying38 (by kernel_rfl) (by kernel_rfl) o54
set_option maxRecDepth 100000 in
theorem lifted (os : Os) (started : os.Started) (H : Type) (enc : TypeId × Value → H) :
    ReturnsInHanded {} Try.checked os 7 .any (Rows.fnExactRisingSpec.pre6 enc Try.prog Try.f7 Rows.fnExactRisingRow.domain false) (Rows.fnExactRisingSpec.post enc Try.prog Try.f7 false true false false) := by
  refine returnsInHanded_of_change_sized (C := Try.checked) own started (by kernel_rfl) Try.func7
    (ChangeSpec.witness6 (enc := enc) (C := Try.checked) false ⟨#[], #[.slice none 0 0], []⟩ 8 (by kernel_rfl) (by kernel_rfl) (by kernel_rfl) (by kernel_rfl)) ?_
  intro W base args ds gs before hval0 hW hcnd hsz0 _
  have hsz : (DataW.weightsEach Try.prog (Try.f7.params.toList ++ Rows.fnExactRisingSpec.plain.varTypes Try.prog) (ds ++ gs)).all (· ≤ reachBytes) = true := hsz0
  have hval : ∀ (j : Nat) t v, Try.f7.params[j]? = some t → args[j]? = some v → Value.okWide Try.prog W .any base t v := hval0
  have hW' := hW
  obtain ⟨p, q, hA0, hV, rfl, hfz, hnd⟩ := hW
  have hA : DataW.TrodAll enc Try.prog W 0 (fun _ => true) true Try.f7.params.toList args.toList ds p := hA0
  rw [Try.params7] at hA hval hsz
  obtain ⟨v0, vs0, d0, ds0, p0, q0, hargs, rfl, rfl, h0, r0⟩ := trodAll_cons hA
  obtain ⟨rfl, rfl, rfl⟩ := trodAll_nil r0
  obtain rfl : args = #[v0] := by cases args; simp_all
  obtain ⟨rfl, rfl⟩ := trodVars_none hV
  obtain ⟨l0, kk0, gg0⟩ := opens_param o38f hsz (j := 0) (t := 38) rfl rfl h0
  obtain ⟨aa0, len0, cap0, rfl⟩ := okWide_slice Try.underlying38 (hval 0 38 v0 rfl rfl)
  have g0 := gg0
  obtain ⟨A0, c0, e0, hc0, hr0⟩ := kk0
  obtain ⟨rfl, rfl, rfl⟩ : A0 = aa0 ∧ l0.length = len0 ∧ c0 = cap0 := by have z := e0; simp [Value.cells] at z; exact ⟨z.1.symm, z.2.1.symm, z.2.2.symm⟩
  obtain ⟨k, hh⟩ := Pure.FnExactRising l0 g0
  refine (laws_FnExactRising.calls k A0 c0 l0 true W hr0 hc0 hh).mono fun e W' ⟨he, bel0⟩ => ?_
  have bel := bel0
  subst he
  exact ⟨_, rfl, _, _, _, [], _, [], hW', trodAll_mk1 (shut_bool Try.underlying4 _), (trodAll_cons_mk (Below.trod laidOut (by kernel_rfl) (of_decide_eq_true (by kernel_rfl)) h0 bel (trod_lt h0)) trodAll_mk0), rfl, bel.frame _, fun h => by cases h⟩
theorem over : Rows.fnExactRisingRow.holds Try.pinned (OpenSpec.ofChange Rows.fnExactRisingSpec) :=
  OpenClaim.holds_of_wide 7 Try.f7 rfl rfl rfl rfl rfl rfl rfl ⟨rfl, rfl, rfl, rfl, rfl⟩ rfl rfl rfl rfl rfl (by kernel_rfl) Try.func7 (by kernel_rfl)
    (of_decide_eq_true (by kernel_rfl)) (by unfold Func.isWrapper; first | (rw [if_pos (by decide +kernel)]; kernel_rfl) | (rw [if_neg (by decide +kernel)]; exact ⟨rfl, rfl⟩))
    (fun os started H enc _ => lifted os started H enc)
theorem proved : Rows.FnExactRisingSaid := over
#print axioms proved
end Go.Proofs.Ytnmnmmcpajpfgaa.fnExactRising
namespace Go.Proofs.Ytnmnmmcpajpfgaa
/-- The row, under a short name, for the claim. -/
theorem fnExactRising_holds : Rows.FnExactRisingSaid := fnExactRising.proved
end Go.Proofs.Ytnmnmmcpajpfgaa
