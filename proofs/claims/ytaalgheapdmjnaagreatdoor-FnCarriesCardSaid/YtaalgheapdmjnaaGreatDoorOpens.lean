/- What arguments of laws read as, by type. -/
import Derived.Test.YtaalgheapdmjnaaGreatDoorCtx
import Derived.Test.YtaalgheapdmjnaaGreatDoorSnd39
namespace Go.Proofs.YtaalgheapdmjnaaGreatDoor.G
open Go Go.Ev
set_option linter.unusedSectionVars false
variable [PC]
theorem o5:PE ctx PP 5 (fun b:Int=>[.int .u8 b]) (gI .u8):=AZ2 Tryz.underlying5
theorem o22:PE ctx PP 22 (fun b:(List Int)=>[.BH 5 b]) (ARh 1 (gI .u8)):=by have h:PE ctx PP 5 (ctx.Ak 5).enc (gI .u8):=o5;exact AZz ARg Tryz.underlying22 (by kernel_rfl) (Nat.le_of_ble_eq_true (by kernel_rfl)) (by kernel_rfl) h
end Go.Proofs.YtaalgheapdmjnaaGreatDoor.G
