/-
  DERIVED. GIVEN WITH THE SEED: THE CARDS: each row of YtkemhdbnkpblpaaGreatDoorRows.lean that lists a variable, with what it lists TIED to the program's text (the seventh form; the later family's looks); each row that meets fmt, with fmt's text TOLD by the authors' own Lean function (tested against real Go, not proved from fmt's source: count such statements apart). THE CARD IS WHAT COUNTS. Prove the row's statement (the work); the ties are given (YtkemhdbnkpblpaaGreatDoorTie.lean); close each card by the builder's one call (the guide's Derived/Test/ToyasCard.lean, 'card_holds'). Laid BY PROGRAM, IN A SANDBOX (cutbox-door.mjs). By AI agents, Wed Nov 11 2026. No macro, syntax, notation, axiom, sorry.
-/
import Derived.Test.YtkemhdbnkpblpaaGreatDoorRows
import GoSem.ClaimSeven
namespace Go.Proofs.YtkemhdbnkpblpaaGreatDoor
namespace Rows

/-- THE TIED CARD OF 'shadowboxlaw40.UploadNobody'. -/
def uploadNobodyCard : Claim7 := { stood := { row := uploadNobodyRow, standIns := [], harness := (true, "4e408a3a7a3a673ebb6b79e73a8b2ab2aede8b3885c37c93d0a73e7324ddb79a"), looks := false }, kinds := [], alts := [], laidByText := true, laidKinds := [.data, .pinned], laidTests := true, laidLooks := .later }
def UploadNobodyCardSaid : Prop := Claim7.holds Tryz.pinned (.plain (OpenSpec.ofChange uploadNobodySpec)) uploadNobodyCard

/-- THE TIED CARD OF 'shadowboxlaw39.ObjectNobody'. -/
def objectNobodyCard : Claim7 := { stood := { row := objectNobodyRow, standIns := [], harness := (true, "4e408a3a7a3a673ebb6b79e73a8b2ab2aede8b3885c37c93d0a73e7324ddb79a"), looks := false }, kinds := [], alts := [], laidByText := true, laidKinds := [.data, .pinned], laidTests := true, laidLooks := .later }
def ObjectNobodyCardSaid : Prop := Claim7.holds Tryz.pinned (.plain (OpenSpec.ofChange objectNobodySpec)) objectNobodyCard

/-- THE SECOND FORM's CARD OF 'shadowboxlaw40.UploadNobody'. -/
def uploadNobodyUptoCard : Claim7 := { stood := { row := uploadNobodyUptoRow, standIns := [], harness := (true, "4e408a3a7a3a673ebb6b79e73a8b2ab2aede8b3885c37c93d0a73e7324ddb79a"), looks := false }, kinds := [], alts := [], laidByText := true, laidKinds := [.data, .pinned], laidTests := true, laidLooks := .later }
def UploadNobodyUptoCardSaid : Prop := Claim7.holds Tryz.pinned (.plain (OpenSpec.upto uploadNobodySpec)) uploadNobodyUptoCard

/-- THE SECOND FORM's CARD OF 'shadowboxlaw39.ObjectNobody'. -/
def objectNobodyUptoCard : Claim7 := { stood := { row := objectNobodyUptoRow, standIns := [], harness := (true, "4e408a3a7a3a673ebb6b79e73a8b2ab2aede8b3885c37c93d0a73e7324ddb79a"), looks := false }, kinds := [], alts := [], laidByText := true, laidKinds := [.data, .pinned], laidTests := true, laidLooks := .later }
def ObjectNobodyUptoCardSaid : Prop := Claim7.holds Tryz.pinned (.plain (OpenSpec.upto objectNobodySpec)) objectNobodyUptoCard
end Rows
end Go.Proofs.YtkemhdbnkpblpaaGreatDoor
