/- The row of the law FnRecs: for every input that can be read the law answers true. No condition of its own. -/
import Derived.Test.YtjfkbidckphneaaRows
import Derived.Test.YtjfkbidckphneaaOpens
import Derived.Test.YtjfkbidckphneaaPureFnRecs
import Derived.Test.YtjfkbidckphneaaTab
import Derived.WalkKit
import Derived.ProofKit
import Derived.OpenShut
import Derived.ShutString
import Derived.ChangeOld
import Derived.Below
import Derived.SizedLaws
namespace Go.Proofs.Ytjfkbidckphneaa.fnRecs
open Go.ChangeShapes Go.WideShapes Go.ChangeAt Go.RowKit Go.Ev Go.Proofs.Ytjfkbidckphneaa.G
set_option linter.unusedVariables false
set_option linter.unusedSimpArgs false
theorem own : ownKnob Try.prog.godebug = none := by kernel_rfl
theorem laidOut : laidOutB Try.prog = true := by kernel_rfl
set_option maxRecDepth 100000 in
theorem lifted (os : Os) (started : os.Started) (H : Type) (enc : TypeId × Value → H) :
    ReturnsInHanded {} Try.checked os 4 .any (Rows.fnRecsSpec.pre6 enc Try.prog Try.f4 Rows.fnRecsRow.domain false) (Rows.fnRecsSpec.post enc Try.prog Try.f4 false true false false) := by
  refine returnsInHanded_of_change_sized (C := Try.checked) own started (by kernel_rfl) Try.func4
    (ChangeSpec.witness6 (enc := enc) (C := Try.checked) false ⟨#[], #[.slice none 0 0], []⟩ 8 (by kernel_rfl) (by kernel_rfl) (by kernel_rfl) (by kernel_rfl)) ?_
  intro W base args ds gs before hval0 hW hcnd hsz0 _
  have hsz : (DataW.weightsEach Try.prog (Try.f4.params.toList ++ Rows.fnRecsSpec.plain.varTypes Try.prog) (ds ++ gs)).all (· ≤ reachBytes) = true := hsz0
  have hval : ∀ (j : Nat) t v, Try.f4.params[j]? = some t → args[j]? = some v → Value.okWide Try.prog W .any base t v := hval0
  have hW' := hW
  obtain ⟨p, q, hA0, hV, rfl, hfz, hnd⟩ := hW
  have hA : DataW.TrodAll enc Try.prog W 0 (fun _ => true) true Try.f4.params.toList args.toList ds p := hA0
  rw [Try.params4] at hA hval hsz
  obtain ⟨v0, vs0, d0, ds0, p0, q0, hargs, rfl, rfl, h0, r0⟩ := trodAll_cons hA
  obtain ⟨rfl, rfl, rfl⟩ := trodAll_nil r0
  obtain rfl : args = #[v0] := by cases args; simp_all
  obtain ⟨rfl, rfl⟩ := trodVars_none hV
  letI pc0 : PC := ⟨Perm.nil, Nat.zero_le _⟩
  obtain ⟨x0, kk0, gg0⟩ := opensE_param o22 hsz (j := 0) (t := 22) rfl rfl h0
  obtain ⟨A0, n0, c0, rfl⟩ := okWide_slice Try.underlying22 (hval 0 22 v0 rfl rfl)
  obtain ⟨pm, hv0, h8, hl0⟩ := perm_exists (C := ctx) (e := 5) rfl (fun _ => rfl) rfl (repU_one (hp := []) (at1 := fun _ => none) rfl kk0)
  letI pc1 : PC := ⟨pm, by rw [hl0]; exact Nat.le_trans (Nat.le_of_eq (Nat.mul_one _).symm) gg0.1⟩
  have hh := @law_FnRecs pc1 ()
  have hd : Does (@ctx pc1) PP 4 [.one .csl] [.one (.bool true)] := @ok_laws_FnRecs pc1 () true hh
  refine (law_calls (@ctxOk pc1) Try.func4 hd (tab_ok (tabs := []) (fun p hp => by cases hp) h8) (by kernel_rfl) rfl rfl (tb := 4) rfl rfl (fun i u hu => ?_)).mono fun e W' ⟨he, bel0⟩ => ?_
  · match i, hu with
    | 0, hu => cases hu; exact hv0
    | i + 1, hu => cases hu
  · have bel := bel0
    subst he
    exact ⟨_, rfl, _, _, _, [], _, [], hW', trodAll_mk1 (shut_bool Try.underlying4 _), (trodAll_cons_mk (Below.trod laidOut (by kernel_rfl) (of_decide_eq_true (by kernel_rfl)) h0 bel (trodE_lt h0)) trodAll_mk0), rfl, bel.frame _, fun h => by cases h⟩
theorem over : Rows.fnRecsRow.holds Try.pinned (OpenSpec.ofChange Rows.fnRecsSpec) :=
  OpenClaim.holds_of_wide 4 Try.f4 rfl rfl rfl rfl rfl rfl rfl ⟨rfl, rfl, rfl, rfl, rfl⟩ rfl rfl rfl rfl rfl (by kernel_rfl) Try.func4 (by kernel_rfl)
    (of_decide_eq_true (by kernel_rfl)) (by unfold Func.isWrapper; first | (rw [if_pos (by decide +kernel)]; kernel_rfl) | (rw [if_neg (by decide +kernel)]; exact ⟨rfl, rfl⟩))
    (fun os started H enc _ => lifted os started H enc)
theorem proved : Rows.FnRecsSaid := over
#print axioms proved
end Go.Proofs.Ytjfkbidckphneaa.fnRecs
namespace Go.Proofs.Ytjfkbidckphneaa
/-- The row, under a short name, for the claim. -/
theorem fnRecs_holds : Rows.FnRecsSaid := fnRecs.proved
end Go.Proofs.Ytjfkbidckphneaa
