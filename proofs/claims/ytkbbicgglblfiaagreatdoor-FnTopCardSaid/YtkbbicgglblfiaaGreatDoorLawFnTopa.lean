/- Closed facts of the row of FnTop, one by one: what its text says of itself is so. No condition. -/
import Derived.Test.YtkbbicgglblfiaaGreatDoorRows
import Derived.Test.YtkbbicgglblfiaaGreatDoorCards
import Derived.JoinedOf
import Derived.SevenTiedAt
import Derived.KernelRfl
namespace Go.Proofs.YtkbbicgglblfiaaGreatDoor.fnTop
open Go
theorem f1 : (Rows.fnTopRow.inPlace == Tryz.prog.inPlace 4) = true := by kernel_rfl
theorem f2 : (Rows.fnTopRow.unfollowed == Tryz.prog.unfollowed 4) = true := by kernel_rfl
theorem f3 : (Rows.fnTopRow.recurses == Tryz.prog.recurses 4) = true := by kernel_rfl
theorem f4 : (Rows.fnTopRow.named == Tryz.prog.varsNamed 4) = true := by kernel_rfl
theorem f5 : laidOutB Tryz.prog = true := by kernel_rfl
theorem f6 : false = Tryz.prog.looks [] := by kernel_rfl
theorem f7 : false = Rows.fnTopRow.goesBy Tryz.prog := by kernel_rfl
theorem Adg : joinedFacts Tryz.prog 4 Tryz.f4 Rows.fnTopSpec Rows.fnTopRow = true := by unfold joinedFacts;rw [f1, f2, f3, f4, f5];kernel_rfl
end Go.Proofs.YtkbbicgglblfiaaGreatDoor.fnTop
