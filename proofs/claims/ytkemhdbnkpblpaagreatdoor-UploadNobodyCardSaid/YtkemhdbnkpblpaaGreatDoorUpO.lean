/- Uploads of no sets are none: at any input. -/
import Derived.Test.YtkemhdbnkpblpaaGreatDoorUpN
namespace Go.Proofs.YtkemhdbnkpblpaaGreatDoor.UpO
open Go.RowKit
set_option linter.unusedVariables false
set_option linter.unusedSimpArgs false
set_option linter.constructorNameAsVariable false

theorem cell_slice {W : World} {r : Reach} {base : Nat} {v : Value} (h : Cell.okWide Tryz.prog W r base 22 v) : ∃ A n c, v = .slice A n c := by
  simp only [Cell.okWide, Tryz.underlying22] at h
  cases v <;> simp_all [Cell.ok, Tryz.underlying22]

set_option maxRecDepth 100000 in
/-- An input's first cell is a slice. -/
theorem input {W : World} {r : Reach} {base : Nat} {cs : Array Value} (h : Value.okWide Tryz.prog W r base 25 (.agg cs)) : ∃ A kn kc a1 a2 a3, cs = #[.slice A kn kc, a1, a2, a3] := by
  have ht : Tryz.prog.cellTypes Tryz.prog.depth 25 = some [22, 9, 9, 23] := by kernel_rfl
  have h3 : Tryz.prog.cellsOf 25 = 4 := by kernel_rfl
  simp only [Value.okWide, Tryz.underlying25] at h
  obtain ⟨cs', he, hs, ts, hts, hn, hr⟩ := h
  cases he
  rw [ht] at hts
  cases hts
  rw [h3] at hs
  rcases cs with ⟨l⟩
  rcases l with _ | ⟨a, l⟩; · simp at hs
  rcases l with _ | ⟨b, l⟩; · simp at hs
  rcases l with _ | ⟨c, l⟩; · simp at hs
  rcases l with _ | ⟨d, l⟩; · simp at hs
  rcases l with _ | ⟨e, l⟩
  · obtain ⟨u0, e0, k0⟩ := hr 0 a rfl
    cases e0
    obtain ⟨A, kn, kc, rfl⟩ := cell_slice k0
    exact ⟨A, kn, kc, _, _, _, rfl⟩
  · simp at hs

set_option maxRecDepth 100000 in
/-- The law at any input. -/
theorem law (s : ByteArray) (hm : s.size ≤ 140737488351232) (cs : Array Value) (id : Int) {W : World} {r : Reach} {base : Nat} (h : Value.okWide Tryz.prog W r base 25 (.agg cs)) (w : World) :
    Calls Tryz.prog 3 #[.string s, .agg cs, .int .i64 id] w fun e w' => e = .returned (.bool true) ∧ Below w.heap.size w w' := by
  obtain ⟨A, kn, kc, a1, a2, a3, rfl⟩ := input h
  by_cases hs : s.size ≤ 100
  · exact UpN.law_small s A kn kc a1 a2 a3 id hs w
  · exact UpN.law_great s A kn kc a1 a2 a3 id (by omega) hm w
end Go.Proofs.YtkemhdbnkpblpaaGreatDoor.UpO
