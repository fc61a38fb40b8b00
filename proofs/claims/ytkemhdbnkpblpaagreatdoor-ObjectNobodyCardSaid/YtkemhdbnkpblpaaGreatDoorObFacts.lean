/- Closed facts of the card of ObjectNobody. -/
import Derived.Test.YtkemhdbnkpblpaaGreatDoorCards
import Derived.Test.YtkemhdbnkpblpaaGreatDoorTie
import Derived.SevenTiedAt
import Derived.KernelRfl
namespace Go.Proofs.YtkemhdbnkpblpaaGreatDoor.ObFacts
open Go
set_option maxRecDepth 100000
theorem c1 : Rows.objectNobodyRow.wfByText (OpenSpec.ofChange Rows.objectNobodySpec) = true := by kernel_rfl
theorem c2 : Tryz.pinned.checked.prog.mainIs = some (true, "4e408a3a7a3a673ebb6b79e73a8b2ab2aede8b3885c37c93d0a73e7324ddb79a".toList) := by kernel_rfl
theorem c3 : false = Tryz.pinned.checked.prog.looks [] := by kernel_rfl
theorem c4 : false = Rows.objectNobodyRow.goesBy Tryz.pinned.checked.prog := by kernel_rfl
theorem c5 : Tryz.prog.funcNamed "shadowbox/shadowboxlaw39.ObjectNobody" = some 4 := by kernel_rfl
theorem c6 : ([9, 25, 3].all fun u => !Tryz.prog.wantsStandIn u) = true := by kernel_rfl
end Go.Proofs.YtkemhdbnkpblpaaGreatDoor.ObFacts
