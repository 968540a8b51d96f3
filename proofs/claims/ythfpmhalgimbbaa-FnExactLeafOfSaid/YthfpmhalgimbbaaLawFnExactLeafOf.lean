/- The row of the law FnExactLeafOf: for every input that can be read the law answers true. No condition of its own. -/
import Derived.Test.YthfpmhalgimbbaaRows
import Derived.Test.YthfpmhalgimbbaaOpens
import Derived.Test.YthfpmhalgimbbaaPureFnExactLeafOf
import Derived.WalkKit
import Derived.ProofKit
import Derived.OpenShut
import Derived.ShutString
import Derived.ChangeOld
import Derived.Below
import Derived.SizedLaws
namespace Go.Proofs.Ythfpmhalgimbbaa.fnExactLeafOf
open Go.ChangeShapes Go.WideShapes Go.ChangeAt Go.RowKit Go.Ev Go.Proofs.Ythfpmhalgimbbaa.G
set_option linter.unusedVariables false
set_option linter.unusedSimpArgs false
theorem own : ownKnob Try.prog.godebug = none := by kernel_rfl
theorem laidOut : laidOutB Try.prog = true := by kernel_rfl
set_option maxRecDepth 100000 in
theorem lifted (os : Os) (started : os.Started) (H : Type) (enc : TypeId × Value → H) :
    ReturnsInHanded {} Try.checked os 3 .any (Rows.fnExactLeafOfSpec.pre6 enc Try.prog Try.f3 Rows.fnExactLeafOfRow.domain false) (Rows.fnExactLeafOfSpec.post enc Try.prog Try.f3 false true false false) := by
  refine returnsInHanded_of_change_sized (C := Try.checked) own started (by kernel_rfl) Try.func3
    (ChangeSpec.witness6 (enc := enc) (C := Try.checked) false ⟨#[], #[(.agg #[.string ByteArray.empty, .bool false, .slice none 0 0, .string ByteArray.empty, .int .i64 0, .slice none 0 0, .int .i64 0, .string ByteArray.empty, .int .i64 0, .slice none 0 0, .slice none 0 0, .int .i64 0]), .int .i64 0], []⟩ 8 (by kernel_rfl) (by kernel_rfl) (by kernel_rfl) (by kernel_rfl)) ?_
  intro W base args ds gs before hval0 hW hcnd hsz0 _
  have hsz : (DataW.weightsEach Try.prog (Try.f3.params.toList ++ Rows.fnExactLeafOfSpec.plain.varTypes Try.prog) (ds ++ gs)).all (· ≤ reachBytes) = true := hsz0
  have hval : ∀ (j : Nat) t v, Try.f3.params[j]? = some t → args[j]? = some v → Value.okWide Try.prog W .any base t v := hval0
  have hW' := hW
  obtain ⟨p, q, hA0, hV, rfl, hfz, hnd⟩ := hW
  have hA : DataW.TrodAll enc Try.prog W 0 (fun _ => true) true Try.f3.params.toList args.toList ds p := hA0
  rw [Try.params3] at hA hval hsz
  obtain ⟨v0, vs0, d0, ds0, p0, q0, hargs, rfl, rfl, h0, r0⟩ := trodAll_cons hA
  obtain ⟨v1, vs1, d1, ds1, p1, q1, rfl, rfl, rfl, h1, r1⟩ := trodAll_cons r0
  obtain ⟨rfl, rfl, rfl⟩ := trodAll_nil r1
  obtain rfl : args = #[v0, v1] := by cases args; simp_all
  obtain ⟨rfl, rfl⟩ := trodVars_none hV
  obtain ⟨x0, kk0, gg0⟩ := opensE_param o31 hsz (j := 0) (t := 31) rfl rfl h0
  obtain ⟨cs0, rfl, _⟩ := okWide_struct Try.underlying31 (hval 0 31 v0 rfl rfl)
  obtain ⟨x1, kk1, gg1⟩ := opensE_param o3 hsz (j := 1) (t := 3) rfl rfl h1
  obtain ⟨_, rfl⟩ := okWide_int Try.underlying3 (hval 1 3 v1 rfl rfl)
  have hh := law_FnExactLeafOf x0 x1 gg0 gg1
  have hd : Does ctx PP 3 [.agg [.str x0.fKey, .bool x0.fUp, .rsl 101 x0.fDisk.fFiles, .str x0.fBook.fWord, .int .i64 x0.fBook.fTries, .rsl 103 x0.fBook.fThings, .int .i64 x0.fBook.fLast, .str x0.fBook.fChain, .int .i64 x0.fBook.fCount, .rsl 87 x0.fSessions, .rsl 89 x0.fLives, .int .i64 x0.fOpened], .one (.int .i64 x1)] [.one (.bool true)] := ok_laws_FnExactLeafOf (x0, x1) true hh
  refine (law_calls ctxOk Try.func3 hd tab_none (by kernel_rfl) rfl rfl (tb := 4) rfl rfl (fun i u hu => ?_)).mono fun e W' ⟨he, bel0⟩ => ?_
  · match i, hu with
    | 0, hu => cases hu; exact repU_agg kk0
    | 1, hu => cases hu; exact repU_one rfl kk1
    | i + 2, hu => cases hu
  · have bel := bel0
    subst he
    exact ⟨_, rfl, _, _, _, [], _, [], hW', trodAll_mk1 (shut_bool Try.underlying4 _), (trodAll_cons_mk (Below.trod laidOut (by kernel_rfl) (of_decide_eq_true (by kernel_rfl)) h0 bel (trodE_lt h0)) (trodAll_cons_mk (Below.trod laidOut (by kernel_rfl) (of_decide_eq_true (by kernel_rfl)) h1 bel (trodE_lt h1)) trodAll_mk0)), rfl, bel.frame _, fun h => by cases h⟩
theorem over : Rows.fnExactLeafOfRow.holds Try.pinned (OpenSpec.ofChange Rows.fnExactLeafOfSpec) :=
  OpenClaim.holds_of_wide 3 Try.f3 rfl rfl rfl rfl rfl rfl rfl ⟨rfl, rfl, rfl, rfl, rfl⟩ rfl rfl rfl rfl rfl (by kernel_rfl) Try.func3 (by kernel_rfl)
    (of_decide_eq_true (by kernel_rfl)) (by unfold Func.isWrapper; first | (rw [if_pos (by decide +kernel)]; kernel_rfl) | (rw [if_neg (by decide +kernel)]; exact ⟨rfl, rfl⟩))
    (fun os started H enc _ => lifted os started H enc)
theorem proved : Rows.FnExactLeafOfSaid := over
#print axioms proved
end Go.Proofs.Ythfpmhalgimbbaa.fnExactLeafOf
namespace Go.Proofs.Ythfpmhalgimbbaa
/-- The row, under a short name, for the claim. -/
theorem fnExactLeafOf_holds : Rows.FnExactLeafOfSaid := fnExactLeafOf.proved
end Go.Proofs.Ythfpmhalgimbbaa
