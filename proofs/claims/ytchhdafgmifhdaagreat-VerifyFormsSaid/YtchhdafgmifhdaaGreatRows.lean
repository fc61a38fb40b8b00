/-
  No cell of these rows narrows 'for every input' (looked for: loops, veiled, ifaces, maps, wideKeys, modest, calm, conditions, laid).
  DERIVED. THE GIVEN ROWS OF THIS SEAT. 7 by the template 'for every input the law returns true; each argument reads behind the call as it read before'; 0 by the template 'total and deterministic' (their statements: YtchhdafgmifhdaaGreatTotals.lean).
  GIVEN WITH THE SEED: the statements are not yours to turn. If you find one false, say at which input.
  Laid BY PROGRAM, IN A SANDBOX (cutbox-rows.mjs): the forced cells as the released guide's own fill.sh prints them over the translation 1af3eb611cafdf72… (all of the seat's roots in one cut). By AI agents, Wed Nov 11 2026. No macro, syntax, notation, axiom, sorry.
-/
import Derived.Test.YtchhdafgmifhdaaGreatChecked
import GoSem.Claim
import GoSem.ClaimJoined
import GoSem.ClaimMapViews
import Derived.JoinedTies
import Derived.KernelRfl
namespace Go.Proofs.YtchhdafgmifhdaaGreat
/- THE CELL 'sum', in the pinned program and in every row, IS THE sha256 OF THE DUMP (.gsa) THAT YtchhdafgmifhdaaGreatProg.lean LOADS. Nothing in Lean hashes anything: it is a label: what it is worth is what the hold of that sum in a sandbox is worth. -/
noncomputable def Tryz.pinned : Pinned := { name := "ytchhdafgmifhdaagreat", sum := "1af3eb611cafdf72603abb661046efaab2e11d7910e3c059f85d6efa8e7666cd", checked := Tryz.checked }
namespace Rows
def none {H : Type} : Left H := { results := [], args := [] }

/-- 'shadowboxlaw20.VerifyForms': WHATEVER THE INPUT: true; the input reads as it did. -/
def verifyFormsSpec : ChangeSpec := { name := "verifyForms", fn := fun _ => fun
  | [d1, d2] => { results := [.lit (.bool true)], args := [d1, d2] }
  | _ => none }
def verifyFormsRow : OpenClaim := { program := "ytchhdafgmifhdaagreat", sum := "1af3eb611cafdf72603abb661046efaab2e11d7910e3c059f85d6efa8e7666cd", func := "shadowbox/shadowboxlaw20.VerifyForms", spec := "verifyForms", inPlace := ["internal/bytealg.Compare"], unfollowed := true, recurses := true, apart := false }
def VerifyFormsSaid : Prop := verifyFormsRow.holds Tryz.pinned (OpenSpec.ofChange verifyFormsSpec)

/-- ITS FALSE NEIGHBOUR: 'it returns false'. Refute it at one input. -/
def verifyFormsWrong : ChangeSpec := { name := "verifyForms", fn := fun _ => fun
  | [d1, d2] => { results := [.lit (.bool false)], args := [d1, d2] }
  | _ => none }
def VerifyFormsWrongFalsely : Prop := verifyFormsRow.holds Tryz.pinned (OpenSpec.ofChange verifyFormsWrong)

/-- 'shadowboxlaw18.CowElder': WHATEVER THE INPUT: true; the input reads as it did. -/
def cowElderSpec : ChangeSpec := { name := "cowElder", fn := fun _ => fun
  | [d] => { results := [.lit (.bool true)], args := [d] }
  | _ => none }
def cowElderRow : OpenClaim := { program := "ytchhdafgmifhdaagreat", sum := "1af3eb611cafdf72603abb661046efaab2e11d7910e3c059f85d6efa8e7666cd", func := "shadowbox/shadowboxlaw18.CowElder", spec := "cowElder", inPlace := ["internal/bytealg.Compare"], unfollowed := true, recurses := true, apart := false }
def CowElderSaid : Prop := cowElderRow.holds Tryz.pinned (OpenSpec.ofChange cowElderSpec)

/-- ITS FALSE NEIGHBOUR: 'it returns false'. Refute it at one input. -/
def cowElderWrong : ChangeSpec := { name := "cowElder", fn := fun _ => fun
  | [d] => { results := [.lit (.bool false)], args := [d] }
  | _ => none }
def CowElderWrongFalsely : Prop := cowElderRow.holds Tryz.pinned (OpenSpec.ofChange cowElderWrong)

/-- 'shadowboxlaw18.CowWrong': WHATEVER THE INPUT: true; the input reads as it did. -/
def cowWrongSpec : ChangeSpec := { name := "cowWrong", fn := fun _ => fun
  | [d1, d2, d3] => { results := [.lit (.bool true)], args := [d1, d2, d3] }
  | _ => none }
def cowWrongRow : OpenClaim := { program := "ytchhdafgmifhdaagreat", sum := "1af3eb611cafdf72603abb661046efaab2e11d7910e3c059f85d6efa8e7666cd", func := "shadowbox/shadowboxlaw18.CowWrong", spec := "cowWrong", inPlace := ["internal/bytealg.Compare"], unfollowed := true, recurses := true, apart := false }
def CowWrongSaid : Prop := cowWrongRow.holds Tryz.pinned (OpenSpec.ofChange cowWrongSpec)

/-- ITS FALSE NEIGHBOUR: 'it returns false'. Refute it at one input. -/
def cowWrongWrong : ChangeSpec := { name := "cowWrong", fn := fun _ => fun
  | [d1, d2, d3] => { results := [.lit (.bool false)], args := [d1, d2, d3] }
  | _ => none }
def CowWrongWrongFalsely : Prop := cowWrongRow.holds Tryz.pinned (OpenSpec.ofChange cowWrongWrong)

/-- 'shadowboxlaw20.VerifyWalks': WHATEVER THE INPUT: true; the input reads as it did. -/
def verifyWalksSpec : ChangeSpec := { name := "verifyWalks", fn := fun _ => fun
  | [d] => { results := [.lit (.bool true)], args := [d] }
  | _ => none }
def verifyWalksRow : OpenClaim := { program := "ytchhdafgmifhdaagreat", sum := "1af3eb611cafdf72603abb661046efaab2e11d7910e3c059f85d6efa8e7666cd", func := "shadowbox/shadowboxlaw20.VerifyWalks", spec := "verifyWalks", inPlace := ["internal/bytealg.Compare"], unfollowed := true, recurses := true, apart := false }
def VerifyWalksSaid : Prop := verifyWalksRow.holds Tryz.pinned (OpenSpec.ofChange verifyWalksSpec)

/-- ITS FALSE NEIGHBOUR: 'it returns false'. Refute it at one input. -/
def verifyWalksWrong : ChangeSpec := { name := "verifyWalks", fn := fun _ => fun
  | [d] => { results := [.lit (.bool false)], args := [d] }
  | _ => none }
def VerifyWalksWrongFalsely : Prop := verifyWalksRow.holds Tryz.pinned (OpenSpec.ofChange verifyWalksWrong)

/-- 'shadowboxlaw19.CursorWalks': WHATEVER THE INPUT: true; the input reads as it did. -/
def cursorWalksSpec : ChangeSpec := { name := "cursorWalks", fn := fun _ => fun
  | [d1, d2] => { results := [.lit (.bool true)], args := [d1, d2] }
  | _ => none }
def cursorWalksRow : OpenClaim := { program := "ytchhdafgmifhdaagreat", sum := "1af3eb611cafdf72603abb661046efaab2e11d7910e3c059f85d6efa8e7666cd", func := "shadowbox/shadowboxlaw19.CursorWalks", spec := "cursorWalks", inPlace := ["internal/bytealg.Compare"], unfollowed := true, recurses := true, apart := false }
def CursorWalksSaid : Prop := cursorWalksRow.holds Tryz.pinned (OpenSpec.ofChange cursorWalksSpec)

/-- ITS FALSE NEIGHBOUR: 'it returns false'. Refute it at one input. -/
def cursorWalksWrong : ChangeSpec := { name := "cursorWalks", fn := fun _ => fun
  | [d1, d2] => { results := [.lit (.bool false)], args := [d1, d2] }
  | _ => none }
def CursorWalksWrongFalsely : Prop := cursorWalksRow.holds Tryz.pinned (OpenSpec.ofChange cursorWalksWrong)

/-- 'shadowboxlaw19.CursorBack': WHATEVER THE INPUT: true; the input reads as it did. -/
def cursorBackSpec : ChangeSpec := { name := "cursorBack", fn := fun _ => fun
  | [d] => { results := [.lit (.bool true)], args := [d] }
  | _ => none }
def cursorBackRow : OpenClaim := { program := "ytchhdafgmifhdaagreat", sum := "1af3eb611cafdf72603abb661046efaab2e11d7910e3c059f85d6efa8e7666cd", func := "shadowbox/shadowboxlaw19.CursorBack", spec := "cursorBack", inPlace := ["internal/bytealg.Compare"], unfollowed := true, recurses := true, apart := false }
def CursorBackSaid : Prop := cursorBackRow.holds Tryz.pinned (OpenSpec.ofChange cursorBackSpec)

/-- ITS FALSE NEIGHBOUR: 'it returns false'. Refute it at one input. -/
def cursorBackWrong : ChangeSpec := { name := "cursorBack", fn := fun _ => fun
  | [d] => { results := [.lit (.bool false)], args := [d] }
  | _ => none }
def CursorBackWrongFalsely : Prop := cursorBackRow.holds Tryz.pinned (OpenSpec.ofChange cursorBackWrong)

/-- 'shadowboxlaw19.CursorRanges': WHATEVER THE INPUT: true; the input reads as it did. -/
def cursorRangesSpec : ChangeSpec := { name := "cursorRanges", fn := fun _ => fun
  | [d1, d2, d3] => { results := [.lit (.bool true)], args := [d1, d2, d3] }
  | _ => none }
def cursorRangesRow : OpenClaim := { program := "ytchhdafgmifhdaagreat", sum := "1af3eb611cafdf72603abb661046efaab2e11d7910e3c059f85d6efa8e7666cd", func := "shadowbox/shadowboxlaw19.CursorRanges", spec := "cursorRanges", inPlace := ["internal/bytealg.Compare"], unfollowed := true, recurses := true, apart := false }
def CursorRangesSaid : Prop := cursorRangesRow.holds Tryz.pinned (OpenSpec.ofChange cursorRangesSpec)

/-- ITS FALSE NEIGHBOUR: 'it returns false'. Refute it at one input. -/
def cursorRangesWrong : ChangeSpec := { name := "cursorRanges", fn := fun _ => fun
  | [d1, d2, d3] => { results := [.lit (.bool false)], args := [d1, d2, d3] }
  | _ => none }
def CursorRangesWrongFalsely : Prop := cursorRangesRow.holds Tryz.pinned (OpenSpec.ofChange cursorRangesWrong)

/- THE SECOND FORM. 'bulk': how many values and letters a reading holds, each counted each time it is reached (what is shared counts as often as it is met; a slice's spare places count too). A statement '..UptoSaid' is the law's where the arguments, and the package variables that the reading takes, are together of bulk at most 1048576: NARROWER than '..Said'. Prove '..Said' where nothing that the law and all that it calls make is longer than what came in: it says more and counts as full. Else prove '..UptoSaid'. A law counts once. -/
mutual
def uptoBulk {H : Type} : DataW H → Nat
  | .lit (.string bytes) => bytes.length + 1
  | .lit _ => 1
  | .nil => 1
  | .ptr d => uptoBulk d + 1
  | .slice elems spare => uptoBulkAll elems + uptoBulkAll spare + 1
  | .agg parts => uptoBulkAll parts + 1
  | .iface _ d => uptoBulk d + 1
  | .map entries => uptoBulkEntries entries + 1
  | .held _ => 1
def uptoBulkAll {H : Type} : List (DataW H) → Nat
  | [] => 0
  | d :: r => uptoBulk d + uptoBulkAll r
def uptoBulkEntries {H : Type} : List (Lit × DataW H) → Nat
  | [] => 0
  | x :: r => uptoBulkEntry x + uptoBulkEntries r
def uptoBulkEntry {H : Type} : Lit × DataW H → Nat
  | (.string bytes, d) => bytes.length + uptoBulk d + 1
  | (_, d) => uptoBulk d + 1
 end
def uptoSmall : (H : Type) → List (DataW H) → Bool := fun _ ds => decide (uptoBulkAll ds ≤ 1048576)
def OpenSpec.upto (s : _root_.Go.ChangeSpec) : _root_.Go.OpenSpec := { _root_.Go.OpenSpec.ofChange s with cond := some uptoSmall }

/-- 'shadowboxlaw20.VerifyForms', WHERE WHAT IT READS IS OF BULK AT MOST 1048576: true; the input reads as it did. -/
def verifyFormsUptoRow : OpenClaim := { program := "ytchhdafgmifhdaagreat", sum := "1af3eb611cafdf72603abb661046efaab2e11d7910e3c059f85d6efa8e7666cd", func := "shadowbox/shadowboxlaw20.VerifyForms", spec := "verifyForms", inPlace := ["internal/bytealg.Compare"], unfollowed := true, recurses := true, apart := false, narrowed := true }
def VerifyFormsUptoSaid : Prop := verifyFormsUptoRow.holds Tryz.pinned (OpenSpec.upto verifyFormsSpec)

/-- 'shadowboxlaw18.CowElder', WHERE WHAT IT READS IS OF BULK AT MOST 1048576: true; the input reads as it did. -/
def cowElderUptoRow : OpenClaim := { program := "ytchhdafgmifhdaagreat", sum := "1af3eb611cafdf72603abb661046efaab2e11d7910e3c059f85d6efa8e7666cd", func := "shadowbox/shadowboxlaw18.CowElder", spec := "cowElder", inPlace := ["internal/bytealg.Compare"], unfollowed := true, recurses := true, apart := false, narrowed := true }
def CowElderUptoSaid : Prop := cowElderUptoRow.holds Tryz.pinned (OpenSpec.upto cowElderSpec)

/-- 'shadowboxlaw18.CowWrong', WHERE WHAT IT READS IS OF BULK AT MOST 1048576: true; the input reads as it did. -/
def cowWrongUptoRow : OpenClaim := { program := "ytchhdafgmifhdaagreat", sum := "1af3eb611cafdf72603abb661046efaab2e11d7910e3c059f85d6efa8e7666cd", func := "shadowbox/shadowboxlaw18.CowWrong", spec := "cowWrong", inPlace := ["internal/bytealg.Compare"], unfollowed := true, recurses := true, apart := false, narrowed := true }
def CowWrongUptoSaid : Prop := cowWrongUptoRow.holds Tryz.pinned (OpenSpec.upto cowWrongSpec)

/-- 'shadowboxlaw20.VerifyWalks', WHERE WHAT IT READS IS OF BULK AT MOST 1048576: true; the input reads as it did. -/
def verifyWalksUptoRow : OpenClaim := { program := "ytchhdafgmifhdaagreat", sum := "1af3eb611cafdf72603abb661046efaab2e11d7910e3c059f85d6efa8e7666cd", func := "shadowbox/shadowboxlaw20.VerifyWalks", spec := "verifyWalks", inPlace := ["internal/bytealg.Compare"], unfollowed := true, recurses := true, apart := false, narrowed := true }
def VerifyWalksUptoSaid : Prop := verifyWalksUptoRow.holds Tryz.pinned (OpenSpec.upto verifyWalksSpec)

/-- 'shadowboxlaw19.CursorWalks', WHERE WHAT IT READS IS OF BULK AT MOST 1048576: true; the input reads as it did. -/
def cursorWalksUptoRow : OpenClaim := { program := "ytchhdafgmifhdaagreat", sum := "1af3eb611cafdf72603abb661046efaab2e11d7910e3c059f85d6efa8e7666cd", func := "shadowbox/shadowboxlaw19.CursorWalks", spec := "cursorWalks", inPlace := ["internal/bytealg.Compare"], unfollowed := true, recurses := true, apart := false, narrowed := true }
def CursorWalksUptoSaid : Prop := cursorWalksUptoRow.holds Tryz.pinned (OpenSpec.upto cursorWalksSpec)

/-- 'shadowboxlaw19.CursorBack', WHERE WHAT IT READS IS OF BULK AT MOST 1048576: true; the input reads as it did. -/
def cursorBackUptoRow : OpenClaim := { program := "ytchhdafgmifhdaagreat", sum := "1af3eb611cafdf72603abb661046efaab2e11d7910e3c059f85d6efa8e7666cd", func := "shadowbox/shadowboxlaw19.CursorBack", spec := "cursorBack", inPlace := ["internal/bytealg.Compare"], unfollowed := true, recurses := true, apart := false, narrowed := true }
def CursorBackUptoSaid : Prop := cursorBackUptoRow.holds Tryz.pinned (OpenSpec.upto cursorBackSpec)

/-- 'shadowboxlaw19.CursorRanges', WHERE WHAT IT READS IS OF BULK AT MOST 1048576: true; the input reads as it did. -/
def cursorRangesUptoRow : OpenClaim := { program := "ytchhdafgmifhdaagreat", sum := "1af3eb611cafdf72603abb661046efaab2e11d7910e3c059f85d6efa8e7666cd", func := "shadowbox/shadowboxlaw19.CursorRanges", spec := "cursorRanges", inPlace := ["internal/bytealg.Compare"], unfollowed := true, recurses := true, apart := false, narrowed := true }
def CursorRangesUptoSaid : Prop := cursorRangesUptoRow.holds Tryz.pinned (OpenSpec.upto cursorRangesSpec)

end Rows
end Go.Proofs.YtchhdafgmifhdaaGreat
