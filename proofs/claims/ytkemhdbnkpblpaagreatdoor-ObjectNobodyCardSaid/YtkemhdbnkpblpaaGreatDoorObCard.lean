/- ObjectNobody: the row, tied to the program's text. Its condition: the listed variables read as the text lays them. -/
import Derived.Test.YtkemhdbnkpblpaaGreatDoorObRow
import Derived.Test.YtkemhdbnkpblpaaGreatDoorObFacts
namespace Go.Proofs.YtkemhdbnkpblpaaGreatDoor
open Go ObFacts
theorem objectNobody_holds : Rows.ObjectNobodyCardSaid :=
  Claim7.holds_tied_plain_at .later [] [.data, .pinned] true (true, "4e408a3a7a3a673ebb6b79e73a8b2ab2aede8b3885c37c93d0a73e7324ddb79a") false objectNobody.proved (fun _ h => by cases h) c1 (fun _ h => by cases h) objectNobody_row_tie rfl ⟨rfl, rfl⟩ c2 rfl
    (fun f fn hf hfn => by
      obtain rfl : f = 4 := Option.some.inj (c5.symm.trans hf) |>.symm
      obtain rfl : fn = Tryz.f4 := (Option.some.inj (Tryz.func4.symm.trans hfn)).symm
      exact ⟨c3, fun j t ht => by
        rw [Tryz.params4] at ht
        have hm : t ∈ [9, 25, 3] := by simpa using Array.mem_of_getElem? ht
        exact (show Tryz.prog.wantsStandIn t = false by simpa using List.all_eq_true.1 c6 t hm)⟩)
    c4
#print axioms objectNobody_holds
end Go.Proofs.YtkemhdbnkpblpaaGreatDoor
