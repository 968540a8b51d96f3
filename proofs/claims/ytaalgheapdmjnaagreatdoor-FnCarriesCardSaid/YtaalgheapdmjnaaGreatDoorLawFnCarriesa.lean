/- Closed facts of the row of FnCarries, one by one: what its text says of itself is so. No condition. -/
import Derived.Test.YtaalgheapdmjnaaGreatDoorRows
import Derived.Test.YtaalgheapdmjnaaGreatDoorCards
import Derived.JoinedOf
import Derived.SevenTiedAt
import Derived.KernelRfl
namespace Go.Proofs.YtaalgheapdmjnaaGreatDoor.fnCarries
open Go
theorem f1 : (Rows.fnCarriesRow.inPlace == Tryz.prog.inPlace 3) = true := by kernel_rfl
theorem f2 : (Rows.fnCarriesRow.unfollowed == Tryz.prog.unfollowed 3) = true := by kernel_rfl
theorem f3 : (Rows.fnCarriesRow.recurses == Tryz.prog.recurses 3) = true := by kernel_rfl
theorem f4 : (Rows.fnCarriesRow.named == Tryz.prog.varsNamed 3) = true := by kernel_rfl
theorem f5 : laidOutB Tryz.prog = true := by kernel_rfl
theorem f6 : false = Tryz.prog.looks [] := by kernel_rfl
theorem f7 : false = Rows.fnCarriesRow.goesBy Tryz.prog := by kernel_rfl
theorem AaC : joinedFacts Tryz.prog 3 Tryz.f3 Rows.fnCarriesSpec Rows.fnCarriesRow = true := by unfold joinedFacts;rw [f1, f2, f3, f4, f5];kernel_rfl
end Go.Proofs.YtaalgheapdmjnaaGreatDoor.fnCarries
