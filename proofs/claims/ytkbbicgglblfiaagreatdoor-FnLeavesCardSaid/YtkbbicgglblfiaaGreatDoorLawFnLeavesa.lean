/- Closed facts of the row of FnLeaves, one by one: what its text says of itself is so. No condition. -/
import Derived.Test.YtkbbicgglblfiaaGreatDoorRows
import Derived.Test.YtkbbicgglblfiaaGreatDoorCards
import Derived.JoinedOf
import Derived.SevenTiedAt
import Derived.KernelRfl
namespace Go.Proofs.YtkbbicgglblfiaaGreatDoor.fnLeaves
open Go
theorem f1 : (Rows.fnLeavesRow.inPlace == Tryz.prog.inPlace 3) = true := by kernel_rfl
theorem f2 : (Rows.fnLeavesRow.unfollowed == Tryz.prog.unfollowed 3) = true := by kernel_rfl
theorem f3 : (Rows.fnLeavesRow.recurses == Tryz.prog.recurses 3) = true := by kernel_rfl
theorem f4 : (Rows.fnLeavesRow.named == Tryz.prog.varsNamed 3) = true := by kernel_rfl
theorem f5 : laidOutB Tryz.prog = true := by kernel_rfl
theorem f6 : false = Tryz.prog.looks [] := by kernel_rfl
theorem f7 : false = Rows.fnLeavesRow.goesBy Tryz.prog := by kernel_rfl
theorem AaU : joinedFacts Tryz.prog 3 Tryz.f3 Rows.fnLeavesSpec Rows.fnLeavesRow = true := by unfold joinedFacts;rw [f1, f2, f3, f4, f5];kernel_rfl
end Go.Proofs.YtkbbicgglblfiaaGreatDoor.fnLeaves
