/- The row of the law FnExactReadRec: for every input that can be read the law answers true. No condition of its own. -/
import Derived.Test.YtmhggcgkbenedaaRows
import Derived.Test.YtmhggcgkbenedaaOpens
import Derived.Test.YtmhggcgkbenedaaPureFnExactReadRec
import Derived.WalkKit
import Derived.ProofKit
import Derived.OpenShut
import Derived.ShutString
import Derived.ChangeOld
import Derived.Below
import Derived.SizedLaws
namespace Go.Proofs.Ytmhggcgkbenedaa.fnExactReadRec
open Go.ChangeShapes Go.WideShapes Go.ChangeAt Go.RowKit Go.Ev Go.Proofs.Ytmhggcgkbenedaa.G
set_option linter.unusedVariables false
set_option linter.unusedSimpArgs false
theorem own : ownKnob Try.prog.godebug = none := by kernel_rfl
theorem laidOut : laidOutB Try.prog = true := by kernel_rfl
set_option maxRecDepth 100000 in
theorem lifted (os : Os) (started : os.Started) (H : Type) (enc : TypeId × Value → H) :
    ReturnsInHanded {} Try.checked os 10 .any (Rows.fnExactReadRecSpec.pre6 enc Try.prog Try.f10 Rows.fnExactReadRecRow.domain false) (Rows.fnExactReadRecSpec.post enc Try.prog Try.f10 false true false false) := by
  refine returnsInHanded_of_change_sized (C := Try.checked) own started (by kernel_rfl) Try.func10
    (ChangeSpec.witness6 (enc := enc) (C := Try.checked) false ⟨#[], #[.string ByteArray.empty], []⟩ 8 (by kernel_rfl) (by kernel_rfl) (by kernel_rfl) (by kernel_rfl)) ?_
  intro W base args ds gs before hval0 hW hcnd hsz0 _
  have hsz : (DataW.weightsEach Try.prog (Try.f10.params.toList ++ Rows.fnExactReadRecSpec.plain.varTypes Try.prog) (ds ++ gs)).all (· ≤ reachBytes) = true := hsz0
  have hval : ∀ (j : Nat) t v, Try.f10.params[j]? = some t → args[j]? = some v → Value.okWide Try.prog W .any base t v := hval0
  have hW' := hW
  obtain ⟨p, q, hA0, hV, rfl, hfz, hnd⟩ := hW
  have hA : DataW.TrodAll enc Try.prog W 0 (fun _ => true) true Try.f10.params.toList args.toList ds p := hA0
  rw [Try.params10] at hA hval hsz
  obtain ⟨v0, vs0, d0, ds0, p0, q0, hargs, rfl, rfl, h0, r0⟩ := trodAll_cons hA
  obtain ⟨rfl, rfl, rfl⟩ := trodAll_nil r0
  obtain rfl : args = #[v0] := by cases args; simp_all
  obtain ⟨rfl, rfl⟩ := trodVars_none hV
  obtain ⟨x0, kk0, gg0⟩ := opensE_param o9 hsz (j := 0) (t := 9) rfl rfl h0
  obtain ⟨_, rfl⟩ := okWide_string Try.underlying9 (hval 0 9 v0 rfl rfl)
  have hh := law_FnExactReadRec x0 gg0
  have hd : Does ctx PP 10 [.one (.str x0)] [.one (.bool true)] := ok_laws_FnExactReadRec (x0) true hh
  refine (law_calls ctxOk Try.func10 hd tab_none (by kernel_rfl) rfl rfl (tb := 4) rfl rfl (fun i u hu => ?_)).mono fun e W' ⟨he, bel0⟩ => ?_
  · match i, hu with
    | 0, hu => cases hu; exact repU_one rfl kk0
    | i + 1, hu => cases hu
  · have bel := bel0
    subst he
    exact ⟨_, rfl, _, _, _, [], _, [], hW', trodAll_mk1 (shut_bool Try.underlying4 _), (trodAll_cons_mk (Below.trod laidOut (by kernel_rfl) (of_decide_eq_true (by kernel_rfl)) h0 bel (trodE_lt h0)) trodAll_mk0), rfl, bel.frame _, fun h => by cases h⟩
theorem over : Rows.fnExactReadRecRow.holds Try.pinned (OpenSpec.ofChange Rows.fnExactReadRecSpec) :=
  OpenClaim.holds_of_wide 10 Try.f10 rfl rfl rfl rfl rfl rfl rfl ⟨rfl, rfl, rfl, rfl, rfl⟩ rfl rfl rfl rfl rfl (by kernel_rfl) Try.func10 (by kernel_rfl)
    (of_decide_eq_true (by kernel_rfl)) (by unfold Func.isWrapper; first | (rw [if_pos (by decide +kernel)]; kernel_rfl) | (rw [if_neg (by decide +kernel)]; exact ⟨rfl, rfl⟩))
    (fun os started H enc _ => lifted os started H enc)
theorem proved : Rows.FnExactReadRecSaid := over
#print axioms proved
end Go.Proofs.Ytmhggcgkbenedaa.fnExactReadRec
namespace Go.Proofs.Ytmhggcgkbenedaa
/-- The row, under a short name, for the claim. -/
theorem fnExactReadRec_holds : Rows.FnExactReadRecSaid := fnExactReadRec.proved
end Go.Proofs.Ytmhggcgkbenedaa
