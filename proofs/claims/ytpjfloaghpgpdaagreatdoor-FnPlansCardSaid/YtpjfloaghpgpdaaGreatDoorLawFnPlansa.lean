/- Closed facts of the row of FnPlans, one by one: what its text says of itself is so. No condition. -/
import Derived.Test.YtpjfloaghpgpdaaGreatDoorRows
import Derived.Test.YtpjfloaghpgpdaaGreatDoorCards
import Derived.JoinedOf
import Derived.SevenTiedAt
import Derived.KernelRfl
namespace Go.Proofs.YtpjfloaghpgpdaaGreatDoor.fnPlans
open Go
theorem f1 : (Rows.fnPlansRow.inPlace == Tryz.prog.inPlace 3) = true := by kernel_rfl
theorem f2 : (Rows.fnPlansRow.unfollowed == Tryz.prog.unfollowed 3) = true := by kernel_rfl
theorem f3 : (Rows.fnPlansRow.recurses == Tryz.prog.recurses 3) = true := by kernel_rfl
theorem f4 : (Rows.fnPlansRow.named == Tryz.prog.varsNamed 3) = true := by kernel_rfl
theorem f5 : laidOutB Tryz.prog = true := by kernel_rfl
theorem f6 : false = Tryz.prog.looks [] := by kernel_rfl
theorem f7 : false = Rows.fnPlansRow.goesBy Tryz.prog := by kernel_rfl
theorem closedT : joinedFacts Tryz.prog 3 Tryz.f3 Rows.fnPlansSpec Rows.fnPlansRow = true := by
  unfold joinedFacts
  rw [f1, f2, f3, f4, f5]
  kernel_rfl
end Go.Proofs.YtpjfloaghpgpdaaGreatDoor.fnPlans
