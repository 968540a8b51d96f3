/- What arguments of laws read as, by type. -/
import Derived.Test.YtkbbicgglblfiaaGreatDoorCtx
import Derived.Test.YtkbbicgglblfiaaGreatDoorSnd39
namespace Go.Proofs.YtkbbicgglblfiaaGreatDoor.G
open Go Go.Ev
set_option linter.unusedSectionVars false
variable [PC]
theorem o5:QN ctx PP 5 (fun b:Int=>[.int .u8 b]) (jm .u8):=AdU Tryz.underlying5
theorem o22:QN ctx PP 22 (fun b:(List Int)=>[.BG 5 b]) (AUh 1 (jm .u8)):=by have h:QN ctx PP 5 (ctx.Aw 5).enc (jm .u8):=o5;exact AdR AUg Tryz.underlying22 (by kernel_rfl) (Nat.le_of_ble_eq_true (by kernel_rfl)) (by kernel_rfl) h
end Go.Proofs.YtkbbicgglblfiaaGreatDoor.G
