/-
  No cell of these rows narrows 'for every input' (looked for: loops, veiled, ifaces, maps, wideKeys, modest, calm, conditions, laid).
  DERIVED. THE GIVEN ROWS OF THIS SEAT. 8 by the template 'for every input the law returns true; each argument reads behind the call as it read before'; 0 by the template 'total and deterministic' (their statements: YtcdmmkmonhmckaaGreatTotals.lean).
  GIVEN WITH THE SEED: the statements are not yours to turn. If you find one false, say at which input.
  Laid BY PROGRAM, IN A SANDBOX (cutbox-rows.mjs): the forced cells as the released guide's own fill.sh prints them over the translation b5972f821d3961c5… (all of the seat's roots in one cut). By AI agents, Wed Nov 11 2026. No macro, syntax, notation, axiom, sorry.
-/
import Derived.Test.YtcdmmkmonhmckaaGreatChecked
import GoSem.Claim
import GoSem.ClaimJoined
import GoSem.ClaimMapViews
import Derived.JoinedTies
import Derived.KernelRfl
namespace Go.Proofs.YtcdmmkmonhmckaaGreat
/- THE CELL 'sum', in the pinned program and in every row, IS THE sha256 OF THE DUMP (.gsa) THAT YtcdmmkmonhmckaaGreatProg.lean LOADS. Nothing in Lean hashes anything: it is a label: what it is worth is what the hold of that sum in a sandbox is worth. -/
noncomputable def Tryz.pinned : Pinned := { name := "ytcdmmkmonhmckaagreat", sum := "b5972f821d3961c5e62fa71603ba28105b55a89fd95bb5c822dc570d0b5a469e", checked := Tryz.checked }
namespace Rows
def none {H : Type} : Left H := { results := [], args := [] }

/-- 'shadowboxlaw19.CursorNobody': WHATEVER THE INPUT: true; the input reads as it did. -/
def cursorNobodySpec : ChangeSpec := { name := "cursorNobody", fn := fun _ => fun
  | [d1, d2] => { results := [.lit (.bool true)], args := [d1, d2] }
  | _ => none }
def cursorNobodyRow : OpenClaim := { program := "ytcdmmkmonhmckaagreat", sum := "b5972f821d3961c5e62fa71603ba28105b55a89fd95bb5c822dc570d0b5a469e", func := "shadowbox/shadowboxlaw19.CursorNobody", spec := "cursorNobody", inPlace := ["internal/bytealg.Compare"], unfollowed := true, recurses := true, plainKeys := false, apart := false }
def CursorNobodySaid : Prop := cursorNobodyRow.holds Tryz.pinned (OpenSpec.ofChange cursorNobodySpec)

/-- ITS FALSE NEIGHBOUR: 'it returns false'. Refute it at one input. -/
def cursorNobodyWrong : ChangeSpec := { name := "cursorNobody", fn := fun _ => fun
  | [d1, d2] => { results := [.lit (.bool false)], args := [d1, d2] }
  | _ => none }
def CursorNobodyWrongFalsely : Prop := cursorNobodyRow.holds Tryz.pinned (OpenSpec.ofChange cursorNobodyWrong)

/-- 'shadowboxlaw18.CowNobody': WHATEVER THE INPUT: true; the input reads as it did. -/
def cowNobodySpec : ChangeSpec := { name := "cowNobody", fn := fun _ => fun
  | [d1, d2] => { results := [.lit (.bool true)], args := [d1, d2] }
  | _ => none }
def cowNobodyRow : OpenClaim := { program := "ytcdmmkmonhmckaagreat", sum := "b5972f821d3961c5e62fa71603ba28105b55a89fd95bb5c822dc570d0b5a469e", func := "shadowbox/shadowboxlaw18.CowNobody", spec := "cowNobody", inPlace := ["internal/bytealg.Compare"], unfollowed := true, recurses := true, plainKeys := false, apart := false }
def CowNobodySaid : Prop := cowNobodyRow.holds Tryz.pinned (OpenSpec.ofChange cowNobodySpec)

/-- ITS FALSE NEIGHBOUR: 'it returns false'. Refute it at one input. -/
def cowNobodyWrong : ChangeSpec := { name := "cowNobody", fn := fun _ => fun
  | [d1, d2] => { results := [.lit (.bool false)], args := [d1, d2] }
  | _ => none }
def CowNobodyWrongFalsely : Prop := cowNobodyRow.holds Tryz.pinned (OpenSpec.ofChange cowNobodyWrong)

/-- 'shadowboxlaw25.SpaceNobody': WHATEVER THE INPUT: true; the input reads as it did. -/
def spaceNobodySpec : ChangeSpec := { name := "spaceNobody", fn := fun _ => fun
  | [d1, d2] => { results := [.lit (.bool true)], args := [d1, d2] }
  | _ => none }
def spaceNobodyRow : OpenClaim := { program := "ytcdmmkmonhmckaagreat", sum := "b5972f821d3961c5e62fa71603ba28105b55a89fd95bb5c822dc570d0b5a469e", func := "shadowbox/shadowboxlaw25.SpaceNobody", spec := "spaceNobody", inPlace := ["internal/bytealg.Compare"], unfollowed := true, recurses := true, plainKeys := false, apart := false }
def SpaceNobodySaid : Prop := spaceNobodyRow.holds Tryz.pinned (OpenSpec.ofChange spaceNobodySpec)

/-- ITS FALSE NEIGHBOUR: 'it returns false'. Refute it at one input. -/
def spaceNobodyWrong : ChangeSpec := { name := "spaceNobody", fn := fun _ => fun
  | [d1, d2] => { results := [.lit (.bool false)], args := [d1, d2] }
  | _ => none }
def SpaceNobodyWrongFalsely : Prop := spaceNobodyRow.holds Tryz.pinned (OpenSpec.ofChange spaceNobodyWrong)

/-- 'shadowboxlaw21.DeadNobody': WHATEVER THE INPUT: true; the input reads as it did. -/
def deadNobodySpec : ChangeSpec := { name := "deadNobody", fn := fun _ => fun
  | [d1, d2] => { results := [.lit (.bool true)], args := [d1, d2] }
  | _ => none }
def deadNobodyRow : OpenClaim := { program := "ytcdmmkmonhmckaagreat", sum := "b5972f821d3961c5e62fa71603ba28105b55a89fd95bb5c822dc570d0b5a469e", func := "shadowbox/shadowboxlaw21.DeadNobody", spec := "deadNobody", inPlace := ["internal/bytealg.Compare"], unfollowed := true, recurses := true, plainKeys := false, apart := false }
def DeadNobodySaid : Prop := deadNobodyRow.holds Tryz.pinned (OpenSpec.ofChange deadNobodySpec)

/-- ITS FALSE NEIGHBOUR: 'it returns false'. Refute it at one input. -/
def deadNobodyWrong : ChangeSpec := { name := "deadNobody", fn := fun _ => fun
  | [d1, d2] => { results := [.lit (.bool false)], args := [d1, d2] }
  | _ => none }
def DeadNobodyWrongFalsely : Prop := deadNobodyRow.holds Tryz.pinned (OpenSpec.ofChange deadNobodyWrong)

/-- 'shadowboxlaw22.CatalogNobody': WHATEVER THE INPUT: true; the input reads as it did. -/
def catalogNobodySpec : ChangeSpec := { name := "catalogNobody", fn := fun _ => fun
  | [d1, d2, d3] => { results := [.lit (.bool true)], args := [d1, d2, d3] }
  | _ => none }
def catalogNobodyRow : OpenClaim := { program := "ytcdmmkmonhmckaagreat", sum := "b5972f821d3961c5e62fa71603ba28105b55a89fd95bb5c822dc570d0b5a469e", func := "shadowbox/shadowboxlaw22.CatalogNobody", spec := "catalogNobody", inPlace := ["internal/bytealg.Compare"], unfollowed := true, recurses := true, plainKeys := false, apart := false }
def CatalogNobodySaid : Prop := catalogNobodyRow.holds Tryz.pinned (OpenSpec.ofChange catalogNobodySpec)

/-- ITS FALSE NEIGHBOUR: 'it returns false'. Refute it at one input. -/
def catalogNobodyWrong : ChangeSpec := { name := "catalogNobody", fn := fun _ => fun
  | [d1, d2, d3] => { results := [.lit (.bool false)], args := [d1, d2, d3] }
  | _ => none }
def CatalogNobodyWrongFalsely : Prop := catalogNobodyRow.holds Tryz.pinned (OpenSpec.ofChange catalogNobodyWrong)

/-- 'shadowboxlaw23.TxgNobody': WHATEVER THE INPUT: true; the input reads as it did. -/
def txgNobodySpec : ChangeSpec := { name := "txgNobody", fn := fun _ => fun
  | [d1, d2] => { results := [.lit (.bool true)], args := [d1, d2] }
  | _ => none }
def txgNobodyRow : OpenClaim := { program := "ytcdmmkmonhmckaagreat", sum := "b5972f821d3961c5e62fa71603ba28105b55a89fd95bb5c822dc570d0b5a469e", func := "shadowbox/shadowboxlaw23.TxgNobody", spec := "txgNobody", inPlace := ["internal/bytealg.Compare"], unfollowed := true, recurses := true, plainKeys := false, apart := false }
def TxgNobodySaid : Prop := txgNobodyRow.holds Tryz.pinned (OpenSpec.ofChange txgNobodySpec)

/-- ITS FALSE NEIGHBOUR: 'it returns false'. Refute it at one input. -/
def txgNobodyWrong : ChangeSpec := { name := "txgNobody", fn := fun _ => fun
  | [d1, d2] => { results := [.lit (.bool false)], args := [d1, d2] }
  | _ => none }
def TxgNobodyWrongFalsely : Prop := txgNobodyRow.holds Tryz.pinned (OpenSpec.ofChange txgNobodyWrong)

/-- 'shadowboxlaw24.DatasetNobody': WHATEVER THE INPUT: true; the input reads as it did. -/
def datasetNobodySpec : ChangeSpec := { name := "datasetNobody", fn := fun _ => fun
  | [d1, d2] => { results := [.lit (.bool true)], args := [d1, d2] }
  | _ => none }
def datasetNobodyRow : OpenClaim := { program := "ytcdmmkmonhmckaagreat", sum := "b5972f821d3961c5e62fa71603ba28105b55a89fd95bb5c822dc570d0b5a469e", func := "shadowbox/shadowboxlaw24.DatasetNobody", spec := "datasetNobody", inPlace := ["internal/bytealg.Compare"], unfollowed := true, recurses := true, plainKeys := false, apart := false }
def DatasetNobodySaid : Prop := datasetNobodyRow.holds Tryz.pinned (OpenSpec.ofChange datasetNobodySpec)

/-- ITS FALSE NEIGHBOUR: 'it returns false'. Refute it at one input. -/
def datasetNobodyWrong : ChangeSpec := { name := "datasetNobody", fn := fun _ => fun
  | [d1, d2] => { results := [.lit (.bool false)], args := [d1, d2] }
  | _ => none }
def DatasetNobodyWrongFalsely : Prop := datasetNobodyRow.holds Tryz.pinned (OpenSpec.ofChange datasetNobodyWrong)

/-- 'shadowboxlaw26.StreamNobody': WHATEVER THE INPUT: true; the input reads as it did. -/
def streamNobodySpec : ChangeSpec := { name := "streamNobody", fn := fun _ => fun
  | [d1, d2] => { results := [.lit (.bool true)], args := [d1, d2] }
  | _ => none }
def streamNobodyRow : OpenClaim := { program := "ytcdmmkmonhmckaagreat", sum := "b5972f821d3961c5e62fa71603ba28105b55a89fd95bb5c822dc570d0b5a469e", func := "shadowbox/shadowboxlaw26.StreamNobody", spec := "streamNobody", inPlace := ["internal/bytealg.Compare", "internal/reflectlite.TypeOf"], unfollowed := true, recurses := true, plainKeys := false, apart := false }
def StreamNobodySaid : Prop := streamNobodyRow.holds Tryz.pinned (OpenSpec.ofChange streamNobodySpec)

/-- ITS FALSE NEIGHBOUR: 'it returns false'. Refute it at one input. -/
def streamNobodyWrong : ChangeSpec := { name := "streamNobody", fn := fun _ => fun
  | [d1, d2] => { results := [.lit (.bool false)], args := [d1, d2] }
  | _ => none }
def StreamNobodyWrongFalsely : Prop := streamNobodyRow.holds Tryz.pinned (OpenSpec.ofChange streamNobodyWrong)

/- THE SECOND FORM. 'bulk': how many values and letters a reading holds, each counted each time it is reached (what is shared counts as often as it is met; a slice's spare places count too). A statement '..UptoSaid' is the law's where the arguments, and the package variables that the reading takes, are together of bulk at most 1048576: NARROWER than '..Said'. Prove '..Said' where nothing that the law and all that it calls make is longer than what came in: it says more and counts as full. Else prove '..UptoSaid'. A law counts once. -/
mutual
def uptoBulk {H : Type} : DataW H → Nat
  | .lit (.string bytes) => bytes.length + 1
  | .lit _ => 1
  | .nil => 1
  | .ptr d => uptoBulk d + 1
  | .slice elems spare => uptoBulkAll elems + uptoBulkAll spare + 1
  | .agg parts => uptoBulkAll parts + 1
  | .iface _ d => uptoBulk d + 1
  | .map entries => uptoBulkEntries entries + 1
  | .held _ => 1
def uptoBulkAll {H : Type} : List (DataW H) → Nat
  | [] => 0
  | d :: r => uptoBulk d + uptoBulkAll r
def uptoBulkEntries {H : Type} : List (Lit × DataW H) → Nat
  | [] => 0
  | x :: r => uptoBulkEntry x + uptoBulkEntries r
def uptoBulkEntry {H : Type} : Lit × DataW H → Nat
  | (.string bytes, d) => bytes.length + uptoBulk d + 1
  | (_, d) => uptoBulk d + 1
 end
def uptoSmall : (H : Type) → List (DataW H) → Bool := fun _ ds => decide (uptoBulkAll ds ≤ 1048576)
def OpenSpec.upto (s : _root_.Go.ChangeSpec) : _root_.Go.OpenSpec := { _root_.Go.OpenSpec.ofChange s with cond := some uptoSmall }

/-- 'shadowboxlaw19.CursorNobody', WHERE WHAT IT READS IS OF BULK AT MOST 1048576: true; the input reads as it did. -/
def cursorNobodyUptoRow : OpenClaim := { program := "ytcdmmkmonhmckaagreat", sum := "b5972f821d3961c5e62fa71603ba28105b55a89fd95bb5c822dc570d0b5a469e", func := "shadowbox/shadowboxlaw19.CursorNobody", spec := "cursorNobody", inPlace := ["internal/bytealg.Compare"], unfollowed := true, recurses := true, plainKeys := false, apart := false, narrowed := true }
def CursorNobodyUptoSaid : Prop := cursorNobodyUptoRow.holds Tryz.pinned (OpenSpec.upto cursorNobodySpec)

/-- 'shadowboxlaw18.CowNobody', WHERE WHAT IT READS IS OF BULK AT MOST 1048576: true; the input reads as it did. -/
def cowNobodyUptoRow : OpenClaim := { program := "ytcdmmkmonhmckaagreat", sum := "b5972f821d3961c5e62fa71603ba28105b55a89fd95bb5c822dc570d0b5a469e", func := "shadowbox/shadowboxlaw18.CowNobody", spec := "cowNobody", inPlace := ["internal/bytealg.Compare"], unfollowed := true, recurses := true, plainKeys := false, apart := false, narrowed := true }
def CowNobodyUptoSaid : Prop := cowNobodyUptoRow.holds Tryz.pinned (OpenSpec.upto cowNobodySpec)

/-- 'shadowboxlaw25.SpaceNobody', WHERE WHAT IT READS IS OF BULK AT MOST 1048576: true; the input reads as it did. -/
def spaceNobodyUptoRow : OpenClaim := { program := "ytcdmmkmonhmckaagreat", sum := "b5972f821d3961c5e62fa71603ba28105b55a89fd95bb5c822dc570d0b5a469e", func := "shadowbox/shadowboxlaw25.SpaceNobody", spec := "spaceNobody", inPlace := ["internal/bytealg.Compare"], unfollowed := true, recurses := true, plainKeys := false, apart := false, narrowed := true }
def SpaceNobodyUptoSaid : Prop := spaceNobodyUptoRow.holds Tryz.pinned (OpenSpec.upto spaceNobodySpec)

/-- 'shadowboxlaw21.DeadNobody', WHERE WHAT IT READS IS OF BULK AT MOST 1048576: true; the input reads as it did. -/
def deadNobodyUptoRow : OpenClaim := { program := "ytcdmmkmonhmckaagreat", sum := "b5972f821d3961c5e62fa71603ba28105b55a89fd95bb5c822dc570d0b5a469e", func := "shadowbox/shadowboxlaw21.DeadNobody", spec := "deadNobody", inPlace := ["internal/bytealg.Compare"], unfollowed := true, recurses := true, plainKeys := false, apart := false, narrowed := true }
def DeadNobodyUptoSaid : Prop := deadNobodyUptoRow.holds Tryz.pinned (OpenSpec.upto deadNobodySpec)

/-- 'shadowboxlaw22.CatalogNobody', WHERE WHAT IT READS IS OF BULK AT MOST 1048576: true; the input reads as it did. -/
def catalogNobodyUptoRow : OpenClaim := { program := "ytcdmmkmonhmckaagreat", sum := "b5972f821d3961c5e62fa71603ba28105b55a89fd95bb5c822dc570d0b5a469e", func := "shadowbox/shadowboxlaw22.CatalogNobody", spec := "catalogNobody", inPlace := ["internal/bytealg.Compare"], unfollowed := true, recurses := true, plainKeys := false, apart := false, narrowed := true }
def CatalogNobodyUptoSaid : Prop := catalogNobodyUptoRow.holds Tryz.pinned (OpenSpec.upto catalogNobodySpec)

/-- 'shadowboxlaw23.TxgNobody', WHERE WHAT IT READS IS OF BULK AT MOST 1048576: true; the input reads as it did. -/
def txgNobodyUptoRow : OpenClaim := { program := "ytcdmmkmonhmckaagreat", sum := "b5972f821d3961c5e62fa71603ba28105b55a89fd95bb5c822dc570d0b5a469e", func := "shadowbox/shadowboxlaw23.TxgNobody", spec := "txgNobody", inPlace := ["internal/bytealg.Compare"], unfollowed := true, recurses := true, plainKeys := false, apart := false, narrowed := true }
def TxgNobodyUptoSaid : Prop := txgNobodyUptoRow.holds Tryz.pinned (OpenSpec.upto txgNobodySpec)

/-- 'shadowboxlaw24.DatasetNobody', WHERE WHAT IT READS IS OF BULK AT MOST 1048576: true; the input reads as it did. -/
def datasetNobodyUptoRow : OpenClaim := { program := "ytcdmmkmonhmckaagreat", sum := "b5972f821d3961c5e62fa71603ba28105b55a89fd95bb5c822dc570d0b5a469e", func := "shadowbox/shadowboxlaw24.DatasetNobody", spec := "datasetNobody", inPlace := ["internal/bytealg.Compare"], unfollowed := true, recurses := true, plainKeys := false, apart := false, narrowed := true }
def DatasetNobodyUptoSaid : Prop := datasetNobodyUptoRow.holds Tryz.pinned (OpenSpec.upto datasetNobodySpec)

/-- 'shadowboxlaw26.StreamNobody', WHERE WHAT IT READS IS OF BULK AT MOST 1048576: true; the input reads as it did. -/
def streamNobodyUptoRow : OpenClaim := { program := "ytcdmmkmonhmckaagreat", sum := "b5972f821d3961c5e62fa71603ba28105b55a89fd95bb5c822dc570d0b5a469e", func := "shadowbox/shadowboxlaw26.StreamNobody", spec := "streamNobody", inPlace := ["internal/bytealg.Compare", "internal/reflectlite.TypeOf"], unfollowed := true, recurses := true, plainKeys := false, apart := false, narrowed := true }
def StreamNobodyUptoSaid : Prop := streamNobodyUptoRow.holds Tryz.pinned (OpenSpec.upto streamNobodySpec)

end Rows
end Go.Proofs.YtcdmmkmonhmckaaGreat
