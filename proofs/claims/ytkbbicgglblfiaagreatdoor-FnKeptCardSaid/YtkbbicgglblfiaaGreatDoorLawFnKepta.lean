/- Closed facts of the row of FnKept, one by one: what its text says of itself is so. No condition. -/
import Derived.Test.YtkbbicgglblfiaaGreatDoorRows
import Derived.Test.YtkbbicgglblfiaaGreatDoorCards
import Derived.JoinedOf
import Derived.SevenTiedAt
import Derived.KernelRfl
namespace Go.Proofs.YtkbbicgglblfiaaGreatDoor.fnKept
open Go
theorem f1 : (Rows.fnKeptRow.inPlace == Tryz.prog.inPlace 5) = true := by kernel_rfl
theorem f2 : (Rows.fnKeptRow.unfollowed == Tryz.prog.unfollowed 5) = true := by kernel_rfl
theorem f3 : (Rows.fnKeptRow.recurses == Tryz.prog.recurses 5) = true := by kernel_rfl
theorem f4 : (Rows.fnKeptRow.named == Tryz.prog.varsNamed 5) = true := by kernel_rfl
theorem f5 : laidOutB Tryz.prog = true := by kernel_rfl
theorem f6 : false = Tryz.prog.looks [] := by kernel_rfl
theorem f7 : false = Rows.fnKeptRow.goesBy Tryz.prog := by kernel_rfl
theorem Aas : joinedFacts Tryz.prog 5 Tryz.f5 Rows.fnKeptSpec Rows.fnKeptRow = true := by unfold joinedFacts;rw [f1, f2, f3, f4, f5];kernel_rfl
end Go.Proofs.YtkbbicgglblfiaaGreatDoor.fnKept
