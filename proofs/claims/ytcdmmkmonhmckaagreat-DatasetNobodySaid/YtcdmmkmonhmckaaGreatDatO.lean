import Derived.Test.YtcdmmkmonhmckaaGreatDatN
import Derived.WideShapes
namespace Go.Proofs.YtcdmmkmonhmckaaGreat.DatO
open Go.RowKit
set_option linter.unusedVariables false
set_option linter.unusedSimpArgs false
set_option linter.constructorNameAsVariable false

theorem cell_slice {W : World} {r : Reach} {base : Nat} {v : Value} (h : Cell.okWide Tryz.prog W r base 22 v) : ∃ A n c, v = .slice A n c := by
  simp only [Cell.okWide, Tryz.underlying22] at h
  cases v <;> simp_all [Cell.ok, Tryz.underlying22]

set_option maxRecDepth 100000 in
/-- An item's cells are slices. -/
theorem item {W : World} {r : Reach} {base : Nat} {cs : Array Value} (h : Value.okWide Tryz.prog W r base 120 (.agg cs)) : ∃ A kn kc x1 x2, cs = #[.slice A kn kc, x1, x2] ∧ x1.oneCell' = true ∧ x2.oneCell' = true := by
  have ht : Tryz.prog.cellTypes Tryz.prog.depth 120 = some [22, 22, 22] := by kernel_rfl
  have h3 : Tryz.prog.cellsOf 120 = 3 := by kernel_rfl
  simp only [Value.okWide, Tryz.underlying120] at h
  obtain ⟨cs', he, hs, ts, hts, hn, hr⟩ := h
  cases he
  rw [ht] at hts
  cases hts
  rw [h3] at hs
  rcases cs with ⟨l⟩
  rcases l with _ | ⟨a, l⟩; · simp at hs
  rcases l with _ | ⟨b, l⟩; · simp at hs
  rcases l with _ | ⟨c, l⟩; · simp at hs
  rcases l with _ | ⟨d, l⟩
  · obtain ⟨u0, e0, k0⟩ := hr 0 a rfl
    obtain ⟨u1, e1, k1⟩ := hr 1 b rfl
    obtain ⟨u2, e2, k2⟩ := hr 2 c rfl
    cases e0; cases e1; cases e2
    obtain ⟨A, kn, kc, rfl⟩ := cell_slice k0
    obtain ⟨A1, n1, c1, rfl⟩ := cell_slice k1
    obtain ⟨A2, n2, c2, rfl⟩ := cell_slice k2
    exact ⟨A, kn, kc, _, _, rfl, rfl, rfl⟩
  · simp at hs

set_option maxRecDepth 100000 in
/-- The law at any item. -/
theorem law (n : ByteArray) (cs : Array Value) {W : World} {r : Reach} {base : Nat} (h : Value.okWide Tryz.prog W r base 120 (.agg cs)) (w : World) :
    Calls Tryz.prog 9 #[.string n, .agg cs] w fun e w' => e = .returned (.bool true) ∧ Below w.heap.size w w' := by
  obtain ⟨A, kn, kc, x1, x2, rfl, h1, h2⟩ := item h
  exact DatN.law n A kn kc x1 x2 h1 h2 w
end Go.Proofs.YtcdmmkmonhmckaaGreat.DatO
