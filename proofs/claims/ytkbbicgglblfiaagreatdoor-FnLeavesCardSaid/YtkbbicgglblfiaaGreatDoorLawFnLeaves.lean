/- The card of the law FnLeaves: for every input that can be read the law answers true; the table that the program keeps is tied to its text. No condition of its own. -/
import Derived.Test.YtkbbicgglblfiaaGreatDoorLawFnLeavesa
import Derived.Test.YtkbbicgglblfiaaGreatDoorRows
import Derived.Test.YtkbbicgglblfiaaGreatDoorTie
import Derived.Test.YtkbbicgglblfiaaGreatDoorCards
import Derived.Test.YtkbbicgglblfiaaGreatDoorOpens
import Derived.Test.YtkbbicgglblfiaaGreatDoorTab
import Derived.Test.YtkbbicgglblfiaaGreatDoorPureFnLeaves
import Derived.WalkKit
import Derived.ProofKit
import Derived.OpenShut
import Derived.ShutString
import Derived.ChangeOld
import Derived.Below
import Derived.SizedLaws
import Derived.LaidMore
import Derived.LaidLaws
import Derived.Handed
import Derived.SevenTiedAt
import Derived.Stop.Joined
namespace Go.Proofs.YtkbbicgglblfiaaGreatDoor.fnLeaves
open Go.ChangeShapes Go.WideShapes Go.ChangeAt Go.RowKit Go.Ev Go.Proofs.YtkbbicgglblfiaaGreatDoor.G
set_option linter.unusedVariables false
set_option linter.unusedSimpArgs false
theorem own : ownKnob Tryz.prog.godebug = none := by kernel_rfl
theorem laidOut : laidOutB Tryz.prog = true := f5
def laid : List (String × DataW Unit) := [("math/bits.deBruijn32tab", Rows.laid_math_bits_deBruijn32tab), ("math/bits.deBruijn64tab", Rows.laid_math_bits_deBruijn64tab), ("internal/strconv.uint64pow10", Rows.laid_internal_strconv_uint64pow10), ("loop.example/g00186/impl.roundKeys", Rows.laid_loop_example_g00186_impl_roundKeys)]
theorem gTab : Tryz.prog.globalNamed "loop.example/g00186/impl.roundKeys" = some 0 := by kernel_rfl
theorem ARo : (Tryz.prog.globals[0]?).map (·.type) = some 184 := by kernel_rfl
theorem AaW : Tryz.prog.readableRec 184 = true := by kernel_rfl
theorem AaX : 184 < Tryz.prog.types.size := of_decide_eq_true (by kernel_rfl)
def ARn : List Int := [1116352408, 1899447441, 3049323471, 3921009573, 961987163, 1508970993, 2453635748, 2870763221, 3624381080, 310598401, 607225278, 1426881987, 1925078388, 2162078206, 2614888103, 3248222580, 3835390401, 4022224774, 264347078, 604807628, 770255983, 1249150122, 1555081692, 1996064986, 2554220882, 2821834349, 2952996808, 3210313671, 3336571891, 3584528711, 113926993, 338241895, 666307205, 773529912, 1294757372, 1396182291, 1695183700, 1986661051, 2177026350, 2456956037, 2730485921, 2820302411, 3259730800, 3345764771, 3516065817, 3600352804, 4094571909, 275423344, 430227734, 506948616, 659060556, 883997877, 958139571, 1322822218, 1537002063, 1747873779, 1955562222, 2024104815, 2227730452, 2361852424, 2428436474, 2756734187, 3204031479, 3329325298]
theorem AaV [PC] {W : World} (h : laidMetH Tryz.prog laid W) (h8 : ∀ i, i < PC.pm.cl.length -> W.cell? ⟨PC.pm.cb, PC.pm.co + i, none⟩ = some (.int .u8 (PC.pm.cl.getD i 0))) : JX ctx W (IX ctx [] (fun _ => none)) := Adl (fun p hp i hi => by
  rw [show tabs = [(0, (184, ARn))] from rfl, List.mem_singleton] at hp;subst hp;exact AdV (laid := laid) (n := "loop.example/g00186/impl.roundKeys") (g := 0) (t := 184) (e := 108) (vals := ARn) (by kernel_rfl) (List.mem_cons.2 (Or.inr (List.mem_cons.2 (Or.inr (List.mem_cons.2 (Or.inr (List.mem_cons.2 (Or.inl (by kernel_rfl))))))))) gTab ARo (by kernel_rfl) (by kernel_rfl) (by kernel_rfl) h i hi) h8
set_option maxRecDepth 100000
theorem AaT (os : Os) (args : Array Value) : laidMetH Tryz.prog laid ((World.doorLaid Tryz.prog 400 os).forCall (fun _ _ => 0) ⟨#[], args, []⟩).memory :=
  laidMetH_of_parts3 (fuel := 80) (laidMet_of_run' 80 (by kernel_rfl) (by kernel_rfl)) (by kernel_rfl) (by kernel_rfl)
theorem lifted (os : Os) (started : os.Started) (H : Type) (enc : TypeId × Value -> H) :
    ReturnsInHanded {} Tryz.checked os 3 .any (fun w args => (Rows.fnLeavesSpec.pre enc Tryz.prog Tryz.f3 [] false w args /\ laidMetH Tryz.prog laid w) /\ sizedMet enc Tryz.prog Tryz.f3 (OpenSpec.ofChange Rows.fnLeavesSpec) false w args) (Rows.fnLeavesSpec.post enc Tryz.prog Tryz.f3 false true false false) := by
  refine returnsInHanded_of_change_and (C := Tryz.checked) (X := fun w _ => laidMetH Tryz.prog laid w) (fun _ _ _ hh h => h.of_heap hh) own started (by kernel_rfl) Tryz.func3
    (ChangeSpec.witness_shaped (enc := enc) (C := Tryz.checked) (os := os) (X := fun w _ => laidMetH Tryz.prog laid w) false (World.doorLaid Tryz.prog 400 os) #[.slice none 0 0] 80 rfl (World.shaped_of_RefB (by kernel_rfl) (by kernel_rfl)) (by kernel_rfl) (by kernel_rfl) (by kernel_rfl) (AaT os _)) ?_
  intro W base args ds gs before hval0 hW _ hsz0 hL _;have hsz : (DataW.weightsEach Tryz.prog (Tryz.f3.params.toList ++ Rows.fnLeavesSpec.plain.varTypes Tryz.prog) (ds ++ gs)).all (· <= reachBytes) = true := hsz0;have hval : ∀ (j : Nat) t v, Tryz.f3.params[j]? = some t -> args[j]? = some v -> Value.okWide Tryz.prog W .any base t v := hval0;have hW' := hW;obtain ⟨p, q, hA0, hV, rfl, hfz, hnd⟩ := hW
  have hA : DataW.TrodAll enc Tryz.prog W 0 (fun _ => true) true Tryz.f3.params.toList args.toList ds p := hA0;rw [Tryz.params3] at hA hval hsz;obtain ⟨v0, HM, d0, ds0, p0, q0, hargs, rfl, rfl, h0, r0⟩ := trodAll_cons hA
  obtain ⟨rfl, rfl, rfl⟩ := trodAll_nil r0
  obtain rfl : args = #[v0] := by cases args; simp_all
  letI HN : PC := ⟨Perm.nil, DJ _⟩
  obtain ⟨x0, Fy, F0⟩ := AdQ o22 hsz (j := 0) (t := 22) rfl rfl h0
  obtain ⟨A0, n0, c0, rfl⟩ := okWide_slice Tryz.underlying22 (hval 0 22 v0 rfl rfl)
  obtain ⟨pm, hv0, h8, hl0⟩ := AdS (C := ctx) (e := 5) rfl (fun _ => rfl) rfl (AdY (hp := []) (AB := fun _ => none) rfl Fy)
  letI pc1 : PC := ⟨pm, by rw [hl0]; exact Nat.le_trans (Nat.le_of_eq (Nat.mul_one _).symm) F0.1⟩
  have hh := @AaS pc1 ();have hd : Does (@ctx pc1) PP 3 [.one .J4] [.one (.bool true)] := @AaR pc1 () true hh;refine (AdX (@AUg pc1) Tryz.func3 hd (@AaV pc1 _ hL h8) (by kernel_rfl) rfl rfl (tb := 4) rfl rfl (fun i u hu => ?_)).mono fun e W' ⟨he, Ex⟩ => ?_
  · match i, hu with
    | 0, hu => cases hu; exact hv0
    | i + 1, hu => cases hu
  · have bel := Ex
    subst he;obtain ⟨d, ps', rfl, hv'⟩ := AdZ laidOut bel gTab ARo AaW AaX hV
    exact ⟨_, rfl, _, _, _, [], _, ps', hW', trodAll_mk1 (shut_bool Tryz.underlying4 _), (trodAll_cons_mk (Below.trod laidOut (by kernel_rfl) (of_decide_eq_true (by kernel_rfl)) h0 bel (Ada h0)) trodAll_mk0), hv', bel.frame _, fun h => by cases h⟩
theorem over : Rows.FnLeavesSaid :=
  OpenClaim.holds_of_wide 3 Tryz.f3 rfl rfl rfl rfl rfl rfl rfl ⟨rfl, rfl, rfl, rfl, rfl⟩ rfl rfl rfl rfl rfl (by kernel_rfl) Tryz.func3 AaU
    (of_decide_eq_true (by kernel_rfl)) (by unfold Func.isWrapper; first | (rw [if_pos (by decide +kernel)]; kernel_rfl) | (rw [if_neg (by decide +kernel)]; exact ⟨rfl, rfl⟩))
    (fun os started H enc _ => lifted os started H enc)
theorem carded : Rows.FnLeavesCardSaid :=
  Claim7.holds_tied_plain_at .later [] [.data, .data, .data, .data] true (true, "dc70182bf5aad4225e8dcea61b7a3c6fd05356254158870bb5f5bbfa5e82bcca") false
    over (fun _ h => by cases h) (by kernel_rfl) (fun _ h => by cases h) fnLeaves_row_tie rfl ⟨rfl, rfl⟩ (by kernel_rfl) rfl
    (fun f fn hf hfn => by
      obtain rfl : f = 3 := Option.some.inj ((show Tryz.prog.funcNamed "loop.example/g00186/laws.FnLeaves" = some 3 by kernel_rfl).symm.trans hf) |>.symm
      obtain rfl : fn = Tryz.f3 := (Option.some.inj (Tryz.func3.symm.trans hfn)).symm
      exact ⟨f6, fun j t ht => by
        rw [Tryz.params3] at ht;have hm : t ∈ ([22] : List Nat) := by simpa using Array.mem_of_getElem? ht
        have hall : (([22] : List Nat).all fun u => !Tryz.prog.wantsStandIn u) = true := by kernel_rfl
        exact (show Tryz.prog.wantsStandIn t = false by simpa using List.all_eq_true.1 hall t hm)⟩)
    f7
#print axioms carded
end Go.Proofs.YtkbbicgglblfiaaGreatDoor.fnLeaves
namespace Go.Proofs.YtkbbicgglblfiaaGreatDoor
/-- The card, under a short name, for the claim. -/
theorem fnLeaves_holds : Rows.FnLeavesCardSaid := fnLeaves.carded
end Go.Proofs.YtkbbicgglblfiaaGreatDoor
