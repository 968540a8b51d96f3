/- What arguments of laws read as, by type. -/
import Derived.Test.YtpjfloaghpgpdaaGreatDoorCtx
import Derived.Test.YtpjfloaghpgpdaaGreatDoorSnd39
namespace Go.Proofs.YtpjfloaghpgpdaaGreatDoor.G
open Go Go.Ev
set_option linter.unusedSectionVars false
variable [PC]
theorem o5:OpensE ctx PP 5 (fun b:Int=>[.int .u8 b]) (GInt .u8):=opensE_int Tryz.underlying5
theorem o22:OpensE ctx PP 22 (fun b:(List Int)=>[.rsl 5 b]) (GList 1 (GInt .u8)):=by
  have h:OpensE ctx PP 5 (ctx.cod 5).enc (GInt .u8):=o5
  exact opensE_slice ctxOk Tryz.underlying22 (by kernel_rfl) (Nat.le_of_ble_eq_true (by kernel_rfl)) (by kernel_rfl) h
end Go.Proofs.YtpjfloaghpgpdaaGreatDoor.G
