/-
  No cell of these rows narrows 'for every input' (looked for: loops, veiled, ifaces, maps, wideKeys, modest, calm, conditions, laid).
  DERIVED. THE GIVEN ROWS OF THIS SEAT. 11 by the template 'for every input the law returns true; each argument reads behind the call as it read before'; 0 by the template 'total and deterministic' (their statements: YtfefpbnhpncmlaaTotals.lean).
  GIVEN WITH THE SEED: the statements are not yours to turn. If you find one false, say at which input.
  Laid BY PROGRAM, IN A SANDBOX (cutbox-rows.mjs): the forced cells as the released guide's own fill.sh prints them over the translation bde60243a9335994… (all of the seat's roots in one cut). By AI agents, Wed Nov 11 2026. No macro, syntax, notation, axiom, sorry.
-/
import Derived.Test.YtfefpbnhpncmlaaChecked
import GoSem.Claim
import GoSem.ClaimJoined
import GoSem.ClaimMapViews
import Derived.JoinedTies
import Derived.KernelRfl
namespace Go.Proofs.Ytfefpbnhpncmlaa
/- THE CELL 'sum', in the pinned program and in every row, IS THE sha256 OF THE DUMP (.gsa) THAT YtfefpbnhpncmlaaProg.lean LOADS. Nothing in Lean hashes anything: it is a label: what it is worth is what the hold of that sum in a sandbox is worth. -/
noncomputable def Try.pinned : Pinned := { name := "ytfefpbnhpncmlaa", sum := "bde60243a93359944b918f19bf48db71620e9ddd33c4f54538877560db46e245", checked := Try.checked }
namespace Rows
def none {H : Type} : Left H := { results := [], args := [] }

/-- 'shadowboxlaw13.BaseSigns': WHATEVER THE INPUT: true; the input reads as it did. -/
def baseSignsSpec : ChangeSpec := { name := "baseSigns", fn := fun _ => fun
  | [d1, d2] => { results := [.lit (.bool true)], args := [d1, d2] }
  | _ => none }
def baseSignsRow : OpenClaim := { program := "ytfefpbnhpncmlaa", sum := "bde60243a93359944b918f19bf48db71620e9ddd33c4f54538877560db46e245", func := "shadowbox/shadowboxlaw13.BaseSigns", spec := "baseSigns", apart := false }
def BaseSignsSaid : Prop := baseSignsRow.holds Try.pinned (OpenSpec.ofChange baseSignsSpec)

/-- ITS FALSE NEIGHBOUR: 'it returns false'. Refute it at one input. -/
def baseSignsWrong : ChangeSpec := { name := "baseSigns", fn := fun _ => fun
  | [d1, d2] => { results := [.lit (.bool false)], args := [d1, d2] }
  | _ => none }
def BaseSignsWrongFalsely : Prop := baseSignsRow.holds Try.pinned (OpenSpec.ofChange baseSignsWrong)

/-- 'shadowboxlaw25.SpaceRuns': WHATEVER THE INPUT: true; the input reads as it did. -/
def spaceRunsSpec : ChangeSpec := { name := "spaceRuns", fn := fun _ => fun
  | [d1, d2] => { results := [.lit (.bool true)], args := [d1, d2] }
  | _ => none }
def spaceRunsRow : OpenClaim := { program := "ytfefpbnhpncmlaa", sum := "bde60243a93359944b918f19bf48db71620e9ddd33c4f54538877560db46e245", func := "shadowbox/shadowboxlaw25.SpaceRuns", spec := "spaceRuns", unfollowed := true, recurses := true, apart := false }
def SpaceRunsSaid : Prop := spaceRunsRow.holds Try.pinned (OpenSpec.ofChange spaceRunsSpec)

/-- ITS FALSE NEIGHBOUR: 'it returns false'. Refute it at one input. -/
def spaceRunsWrong : ChangeSpec := { name := "spaceRuns", fn := fun _ => fun
  | [d1, d2] => { results := [.lit (.bool false)], args := [d1, d2] }
  | _ => none }
def SpaceRunsWrongFalsely : Prop := spaceRunsRow.holds Try.pinned (OpenSpec.ofChange spaceRunsWrong)

/-- 'shadowboxlaw13.BaseTells': WHATEVER THE INPUT: true; the input reads as it did. -/
def baseTellsSpec : ChangeSpec := { name := "baseTells", fn := fun _ => fun
  | [d1, d2] => { results := [.lit (.bool true)], args := [d1, d2] }
  | _ => none }
def baseTellsRow : OpenClaim := { program := "ytfefpbnhpncmlaa", sum := "bde60243a93359944b918f19bf48db71620e9ddd33c4f54538877560db46e245", func := "shadowbox/shadowboxlaw13.BaseTells", spec := "baseTells", apart := false }
def BaseTellsSaid : Prop := baseTellsRow.holds Try.pinned (OpenSpec.ofChange baseTellsSpec)

/-- ITS FALSE NEIGHBOUR: 'it returns false'. Refute it at one input. -/
def baseTellsWrong : ChangeSpec := { name := "baseTells", fn := fun _ => fun
  | [d1, d2] => { results := [.lit (.bool false)], args := [d1, d2] }
  | _ => none }
def BaseTellsWrongFalsely : Prop := baseTellsRow.holds Try.pinned (OpenSpec.ofChange baseTellsWrong)

/-- 'shadowboxlaw13.BaseBack': WHATEVER THE INPUT: true; the input reads as it did. -/
def baseBackSpec : ChangeSpec := { name := "baseBack", fn := fun _ => fun
  | [d] => { results := [.lit (.bool true)], args := [d] }
  | _ => none }
def baseBackRow : OpenClaim := { program := "ytfefpbnhpncmlaa", sum := "bde60243a93359944b918f19bf48db71620e9ddd33c4f54538877560db46e245", func := "shadowbox/shadowboxlaw13.BaseBack", spec := "baseBack", apart := false }
def BaseBackSaid : Prop := baseBackRow.holds Try.pinned (OpenSpec.ofChange baseBackSpec)

/-- ITS FALSE NEIGHBOUR: 'it returns false'. Refute it at one input. -/
def baseBackWrong : ChangeSpec := { name := "baseBack", fn := fun _ => fun
  | [d] => { results := [.lit (.bool false)], args := [d] }
  | _ => none }
def BaseBackWrongFalsely : Prop := baseBackRow.holds Try.pinned (OpenSpec.ofChange baseBackWrong)

/-- 'shadowboxlaw13.BaseOne': WHATEVER THE INPUT: true; the input reads as it did. -/
def baseOneSpec : ChangeSpec := { name := "baseOne", fn := fun _ => fun
  | [d] => { results := [.lit (.bool true)], args := [d] }
  | _ => none }
def baseOneRow : OpenClaim := { program := "ytfefpbnhpncmlaa", sum := "bde60243a93359944b918f19bf48db71620e9ddd33c4f54538877560db46e245", func := "shadowbox/shadowboxlaw13.BaseOne", spec := "baseOne", apart := false }
def BaseOneSaid : Prop := baseOneRow.holds Try.pinned (OpenSpec.ofChange baseOneSpec)

/-- ITS FALSE NEIGHBOUR: 'it returns false'. Refute it at one input. -/
def baseOneWrong : ChangeSpec := { name := "baseOne", fn := fun _ => fun
  | [d] => { results := [.lit (.bool false)], args := [d] }
  | _ => none }
def BaseOneWrongFalsely : Prop := baseOneRow.holds Try.pinned (OpenSpec.ofChange baseOneWrong)

/-- 'shadowboxlaw22.CatalogValues': WHATEVER THE INPUT: true; the input reads as it did. -/
def catalogValuesSpec : ChangeSpec := { name := "catalogValues", fn := fun _ => fun
  | [d1, d2] => { results := [.lit (.bool true)], args := [d1, d2] }
  | _ => none }
def catalogValuesRow : OpenClaim := { program := "ytfefpbnhpncmlaa", sum := "bde60243a93359944b918f19bf48db71620e9ddd33c4f54538877560db46e245", func := "shadowbox/shadowboxlaw22.CatalogValues", spec := "catalogValues", unfollowed := true, recurses := true, apart := false }
def CatalogValuesSaid : Prop := catalogValuesRow.holds Try.pinned (OpenSpec.ofChange catalogValuesSpec)

/-- ITS FALSE NEIGHBOUR: 'it returns false'. Refute it at one input. -/
def catalogValuesWrong : ChangeSpec := { name := "catalogValues", fn := fun _ => fun
  | [d1, d2] => { results := [.lit (.bool false)], args := [d1, d2] }
  | _ => none }
def CatalogValuesWrongFalsely : Prop := catalogValuesRow.holds Try.pinned (OpenSpec.ofChange catalogValuesWrong)

/-- 'shadowboxlaw22.CatalogBytes': WHATEVER THE INPUT: true; the input reads as it did. -/
def catalogBytesSpec : ChangeSpec := { name := "catalogBytes", fn := fun _ => fun
  | [d1, d2] => { results := [.lit (.bool true)], args := [d1, d2] }
  | _ => none }
def catalogBytesRow : OpenClaim := { program := "ytfefpbnhpncmlaa", sum := "bde60243a93359944b918f19bf48db71620e9ddd33c4f54538877560db46e245", func := "shadowbox/shadowboxlaw22.CatalogBytes", spec := "catalogBytes", unfollowed := true, recurses := true, apart := false }
def CatalogBytesSaid : Prop := catalogBytesRow.holds Try.pinned (OpenSpec.ofChange catalogBytesSpec)

/-- ITS FALSE NEIGHBOUR: 'it returns false'. Refute it at one input. -/
def catalogBytesWrong : ChangeSpec := { name := "catalogBytes", fn := fun _ => fun
  | [d1, d2] => { results := [.lit (.bool false)], args := [d1, d2] }
  | _ => none }
def CatalogBytesWrongFalsely : Prop := catalogBytesRow.holds Try.pinned (OpenSpec.ofChange catalogBytesWrong)

/-- 'shadowboxlaw21.DeadLists': WHATEVER THE INPUT: true; the input reads as it did. -/
def deadListsSpec : ChangeSpec := { name := "deadLists", fn := fun _ => fun
  | [d1, d2] => { results := [.lit (.bool true)], args := [d1, d2] }
  | _ => none }
def deadListsRow : OpenClaim := { program := "ytfefpbnhpncmlaa", sum := "bde60243a93359944b918f19bf48db71620e9ddd33c4f54538877560db46e245", func := "shadowbox/shadowboxlaw21.DeadLists", spec := "deadLists", inPlace := ["internal/bytealg.Compare"], unfollowed := true, recurses := true, apart := false }
def DeadListsSaid : Prop := deadListsRow.holds Try.pinned (OpenSpec.ofChange deadListsSpec)

/-- ITS FALSE NEIGHBOUR: 'it returns false'. Refute it at one input. -/
def deadListsWrong : ChangeSpec := { name := "deadLists", fn := fun _ => fun
  | [d1, d2] => { results := [.lit (.bool false)], args := [d1, d2] }
  | _ => none }
def DeadListsWrongFalsely : Prop := deadListsRow.holds Try.pinned (OpenSpec.ofChange deadListsWrong)

/-- 'shadowboxlaw26.StreamBytes': WHATEVER THE INPUT: true; the input reads as it did. -/
def streamBytesSpec : ChangeSpec := { name := "streamBytes", fn := fun _ => fun
  | [d1, d2] => { results := [.lit (.bool true)], args := [d1, d2] }
  | _ => none }
def streamBytesRow : OpenClaim := { program := "ytfefpbnhpncmlaa", sum := "bde60243a93359944b918f19bf48db71620e9ddd33c4f54538877560db46e245", func := "shadowbox/shadowboxlaw26.StreamBytes", spec := "streamBytes", inPlace := ["internal/reflectlite.TypeOf"], unfollowed := true, recurses := true, apart := false }
def StreamBytesSaid : Prop := streamBytesRow.holds Try.pinned (OpenSpec.ofChange streamBytesSpec)

/-- ITS FALSE NEIGHBOUR: 'it returns false'. Refute it at one input. -/
def streamBytesWrong : ChangeSpec := { name := "streamBytes", fn := fun _ => fun
  | [d1, d2] => { results := [.lit (.bool false)], args := [d1, d2] }
  | _ => none }
def StreamBytesWrongFalsely : Prop := streamBytesRow.holds Try.pinned (OpenSpec.ofChange streamBytesWrong)

/-- 'shadowboxlaw26.StreamBack': WHATEVER THE INPUT: true; the input reads as it did. -/
def streamBackSpec : ChangeSpec := { name := "streamBack", fn := fun _ => fun
  | [d1, d2, d3] => { results := [.lit (.bool true)], args := [d1, d2, d3] }
  | _ => none }
def streamBackRow : OpenClaim := { program := "ytfefpbnhpncmlaa", sum := "bde60243a93359944b918f19bf48db71620e9ddd33c4f54538877560db46e245", func := "shadowbox/shadowboxlaw26.StreamBack", spec := "streamBack", inPlace := ["internal/reflectlite.TypeOf"], unfollowed := true, recurses := true, apart := false }
def StreamBackSaid : Prop := streamBackRow.holds Try.pinned (OpenSpec.ofChange streamBackSpec)

/-- ITS FALSE NEIGHBOUR: 'it returns false'. Refute it at one input. -/
def streamBackWrong : ChangeSpec := { name := "streamBack", fn := fun _ => fun
  | [d1, d2, d3] => { results := [.lit (.bool false)], args := [d1, d2, d3] }
  | _ => none }
def StreamBackWrongFalsely : Prop := streamBackRow.holds Try.pinned (OpenSpec.ofChange streamBackWrong)

/-- 'shadowboxlaw22.CatalogBack': WHATEVER THE INPUT: true; the input reads as it did. -/
def catalogBackSpec : ChangeSpec := { name := "catalogBack", fn := fun _ => fun
  | [d1, d2] => { results := [.lit (.bool true)], args := [d1, d2] }
  | _ => none }
def catalogBackRow : OpenClaim := { program := "ytfefpbnhpncmlaa", sum := "bde60243a93359944b918f19bf48db71620e9ddd33c4f54538877560db46e245", func := "shadowbox/shadowboxlaw22.CatalogBack", spec := "catalogBack", unfollowed := true, recurses := true, apart := false }
def CatalogBackSaid : Prop := catalogBackRow.holds Try.pinned (OpenSpec.ofChange catalogBackSpec)

/-- ITS FALSE NEIGHBOUR: 'it returns false'. Refute it at one input. -/
def catalogBackWrong : ChangeSpec := { name := "catalogBack", fn := fun _ => fun
  | [d1, d2] => { results := [.lit (.bool false)], args := [d1, d2] }
  | _ => none }
def CatalogBackWrongFalsely : Prop := catalogBackRow.holds Try.pinned (OpenSpec.ofChange catalogBackWrong)

/- THE SECOND FORM. 'bulk': how many values and letters a reading holds, each counted each time it is reached (what is shared counts as often as it is met; a slice's spare places count too). A statement '..UptoSaid' is the law's where the arguments, and the package variables that the reading takes, are together of bulk at most 1048576: NARROWER than '..Said'. Prove '..Said' where nothing that the law and all that it calls make is longer than what came in: it says more and counts as full. Else prove '..UptoSaid'. A law counts once. -/
mutual
def uptoBulk {H : Type} : DataW H → Nat
  | .lit (.string bytes) => bytes.length + 1
  | .lit _ => 1
  | .nil => 1
  | .ptr d => uptoBulk d + 1
  | .slice elems spare => uptoBulkAll elems + uptoBulkAll spare + 1
  | .agg parts => uptoBulkAll parts + 1
  | .iface _ d => uptoBulk d + 1
  | .map entries => uptoBulkEntries entries + 1
  | .held _ => 1
def uptoBulkAll {H : Type} : List (DataW H) → Nat
  | [] => 0
  | d :: r => uptoBulk d + uptoBulkAll r
def uptoBulkEntries {H : Type} : List (Lit × DataW H) → Nat
  | [] => 0
  | x :: r => uptoBulkEntry x + uptoBulkEntries r
def uptoBulkEntry {H : Type} : Lit × DataW H → Nat
  | (.string bytes, d) => bytes.length + uptoBulk d + 1
  | (_, d) => uptoBulk d + 1
 end
def uptoSmall : (H : Type) → List (DataW H) → Bool := fun _ ds => decide (uptoBulkAll ds ≤ 1048576)
def OpenSpec.upto (s : _root_.Go.ChangeSpec) : _root_.Go.OpenSpec := { _root_.Go.OpenSpec.ofChange s with cond := some uptoSmall }

/-- 'shadowboxlaw13.BaseSigns', WHERE WHAT IT READS IS OF BULK AT MOST 1048576: true; the input reads as it did. -/
def baseSignsUptoRow : OpenClaim := { program := "ytfefpbnhpncmlaa", sum := "bde60243a93359944b918f19bf48db71620e9ddd33c4f54538877560db46e245", func := "shadowbox/shadowboxlaw13.BaseSigns", spec := "baseSigns", apart := false, narrowed := true }
def BaseSignsUptoSaid : Prop := baseSignsUptoRow.holds Try.pinned (OpenSpec.upto baseSignsSpec)

/-- 'shadowboxlaw25.SpaceRuns', WHERE WHAT IT READS IS OF BULK AT MOST 1048576: true; the input reads as it did. -/
def spaceRunsUptoRow : OpenClaim := { program := "ytfefpbnhpncmlaa", sum := "bde60243a93359944b918f19bf48db71620e9ddd33c4f54538877560db46e245", func := "shadowbox/shadowboxlaw25.SpaceRuns", spec := "spaceRuns", unfollowed := true, recurses := true, apart := false, narrowed := true }
def SpaceRunsUptoSaid : Prop := spaceRunsUptoRow.holds Try.pinned (OpenSpec.upto spaceRunsSpec)

/-- 'shadowboxlaw13.BaseTells', WHERE WHAT IT READS IS OF BULK AT MOST 1048576: true; the input reads as it did. -/
def baseTellsUptoRow : OpenClaim := { program := "ytfefpbnhpncmlaa", sum := "bde60243a93359944b918f19bf48db71620e9ddd33c4f54538877560db46e245", func := "shadowbox/shadowboxlaw13.BaseTells", spec := "baseTells", apart := false, narrowed := true }
def BaseTellsUptoSaid : Prop := baseTellsUptoRow.holds Try.pinned (OpenSpec.upto baseTellsSpec)

/-- 'shadowboxlaw13.BaseBack', WHERE WHAT IT READS IS OF BULK AT MOST 1048576: true; the input reads as it did. -/
def baseBackUptoRow : OpenClaim := { program := "ytfefpbnhpncmlaa", sum := "bde60243a93359944b918f19bf48db71620e9ddd33c4f54538877560db46e245", func := "shadowbox/shadowboxlaw13.BaseBack", spec := "baseBack", apart := false, narrowed := true }
def BaseBackUptoSaid : Prop := baseBackUptoRow.holds Try.pinned (OpenSpec.upto baseBackSpec)

/-- 'shadowboxlaw13.BaseOne', WHERE WHAT IT READS IS OF BULK AT MOST 1048576: true; the input reads as it did. -/
def baseOneUptoRow : OpenClaim := { program := "ytfefpbnhpncmlaa", sum := "bde60243a93359944b918f19bf48db71620e9ddd33c4f54538877560db46e245", func := "shadowbox/shadowboxlaw13.BaseOne", spec := "baseOne", apart := false, narrowed := true }
def BaseOneUptoSaid : Prop := baseOneUptoRow.holds Try.pinned (OpenSpec.upto baseOneSpec)

/-- 'shadowboxlaw22.CatalogValues', WHERE WHAT IT READS IS OF BULK AT MOST 1048576: true; the input reads as it did. -/
def catalogValuesUptoRow : OpenClaim := { program := "ytfefpbnhpncmlaa", sum := "bde60243a93359944b918f19bf48db71620e9ddd33c4f54538877560db46e245", func := "shadowbox/shadowboxlaw22.CatalogValues", spec := "catalogValues", unfollowed := true, recurses := true, apart := false, narrowed := true }
def CatalogValuesUptoSaid : Prop := catalogValuesUptoRow.holds Try.pinned (OpenSpec.upto catalogValuesSpec)

/-- 'shadowboxlaw22.CatalogBytes', WHERE WHAT IT READS IS OF BULK AT MOST 1048576: true; the input reads as it did. -/
def catalogBytesUptoRow : OpenClaim := { program := "ytfefpbnhpncmlaa", sum := "bde60243a93359944b918f19bf48db71620e9ddd33c4f54538877560db46e245", func := "shadowbox/shadowboxlaw22.CatalogBytes", spec := "catalogBytes", unfollowed := true, recurses := true, apart := false, narrowed := true }
def CatalogBytesUptoSaid : Prop := catalogBytesUptoRow.holds Try.pinned (OpenSpec.upto catalogBytesSpec)

/-- 'shadowboxlaw21.DeadLists', WHERE WHAT IT READS IS OF BULK AT MOST 1048576: true; the input reads as it did. -/
def deadListsUptoRow : OpenClaim := { program := "ytfefpbnhpncmlaa", sum := "bde60243a93359944b918f19bf48db71620e9ddd33c4f54538877560db46e245", func := "shadowbox/shadowboxlaw21.DeadLists", spec := "deadLists", inPlace := ["internal/bytealg.Compare"], unfollowed := true, recurses := true, apart := false, narrowed := true }
def DeadListsUptoSaid : Prop := deadListsUptoRow.holds Try.pinned (OpenSpec.upto deadListsSpec)

/-- 'shadowboxlaw26.StreamBytes', WHERE WHAT IT READS IS OF BULK AT MOST 1048576: true; the input reads as it did. -/
def streamBytesUptoRow : OpenClaim := { program := "ytfefpbnhpncmlaa", sum := "bde60243a93359944b918f19bf48db71620e9ddd33c4f54538877560db46e245", func := "shadowbox/shadowboxlaw26.StreamBytes", spec := "streamBytes", inPlace := ["internal/reflectlite.TypeOf"], unfollowed := true, recurses := true, apart := false, narrowed := true }
def StreamBytesUptoSaid : Prop := streamBytesUptoRow.holds Try.pinned (OpenSpec.upto streamBytesSpec)

/-- 'shadowboxlaw26.StreamBack', WHERE WHAT IT READS IS OF BULK AT MOST 1048576: true; the input reads as it did. -/
def streamBackUptoRow : OpenClaim := { program := "ytfefpbnhpncmlaa", sum := "bde60243a93359944b918f19bf48db71620e9ddd33c4f54538877560db46e245", func := "shadowbox/shadowboxlaw26.StreamBack", spec := "streamBack", inPlace := ["internal/reflectlite.TypeOf"], unfollowed := true, recurses := true, apart := false, narrowed := true }
def StreamBackUptoSaid : Prop := streamBackUptoRow.holds Try.pinned (OpenSpec.upto streamBackSpec)

/-- 'shadowboxlaw22.CatalogBack', WHERE WHAT IT READS IS OF BULK AT MOST 1048576: true; the input reads as it did. -/
def catalogBackUptoRow : OpenClaim := { program := "ytfefpbnhpncmlaa", sum := "bde60243a93359944b918f19bf48db71620e9ddd33c4f54538877560db46e245", func := "shadowbox/shadowboxlaw22.CatalogBack", spec := "catalogBack", unfollowed := true, recurses := true, apart := false, narrowed := true }
def CatalogBackUptoSaid : Prop := catalogBackUptoRow.holds Try.pinned (OpenSpec.upto catalogBackSpec)

end Rows
end Go.Proofs.Ytfefpbnhpncmlaa
