/- An object's name is looked at: name.dots, name.Object: contracts that tell that the calls return. -/
import Derived.Test.YtkemhdbnkpblpaaGreatDoorObB
import Derived.Test.YtkemhdbnkpblpaaGreatDoorShelf
namespace Go.Proofs.YtkemhdbnkpblpaaGreatDoor.ObC
open Go.RowKit Go.Proofs.YtkemhdbnkpblpaaGreatDoor.Agg Go.Proofs.YtkemhdbnkpblpaaGreatDoor.ObA Go.Proofs.YtkemhdbnkpblpaaGreatDoor.ObB
set_option linter.unusedVariables false
set_option linter.unusedSimpArgs false

/-- The library's own number is one. -/
def Lib0 (w : World) : Prop := ∃ m, w.cell? ⟨0, 0, none⟩ = some (.int .i64 m)
theorem Lib0.below {w w1 : World} (h : Lib0 w) (hb : Below w.heap.size w w1) : Lib0 w1 := by
  obtain ⟨m, h⟩ := h
  exact ⟨m, (hb.cell (World.block_lt_of_cell? w _ h)).trans h⟩

set_option maxRecDepth 100000 in
theorem dots_calls (s : ByteArray) (hs : s.size ≤ 1000) (w : World) (h : Lib0 w) : Calls Tryz.prog 80 #[.string s] w (TruthB w) := by
  obtain ⟨m, hm⟩ := h
  have HC := Aside1.mk (fun W (h : W = w) => Tryz.strings_Split s { data := #[47] } m w (by omega) hm (by decide))
  clear hm
  go_enter Tryz.func80, Tryz.ntmps80
  go_wp2_with fail
  refine (HC.out _ rfl).mono ?_
  rintro e w1 ⟨rfl, rfl⟩
  clear HC
  have hN : Lib.countB s { data := #[47] } ≤ 1000 := Nat.le_trans (Lib.countB_le _ (by decide) _ s (Nat.le_refl _)) hs
  have hl := Lib.splitB_all { data := #[47] } (by decide) 0 _ s rfl
  have hB := Aside1.mk ((Below.refl w.heap.size w).alloc (Nat.le_refl _) (.cells ((Lib.splitB { data := #[47] } 0 (Lib.countB s { data := #[47] }) s).map Value.string).toArray 9))
  generalize Lib.splitB { data := #[47] } 0 (Lib.countB s { data := #[47] }) s = ps at *
  generalize Lib.countB s { data := #[47] } = N at *
  have hc : ∀ j, j < N + 1 → (w.alloc (.cells (ps.map Value.string).toArray 9)).cell? ⟨w.heap.size, j, none⟩ = some (.string (ps.getD j ByteArray.empty)) := by
    intro j hj
    rw [cell_of_row _ _ j _ 9 (0, 0) (heap_new _ _)]
    simp [hl, hj]
  have HC := Aside1.mk hc
  clear hc hl
  generalize w.alloc (.cells (ps.map Value.string).toArray 9) = W at *
  go_wp2
  go_loop [8] (fun v8 => ∃ j : Nat, v8 = .int .i64 (j : Int) ∧ j ≤ N + 1) (fun v => N + 1 - (intOf v).toNat)
  case atStart => exact ⟨0, rfl, Nat.zero_le _⟩
  case round =>
    obtain ⟨j, rfl, hj⟩ := hrel
    by_cases hlt : j < N + 1
    · have hcj := HC.out j hlt
      generalize ps.getD j ByteArray.empty = t at *
      go_wp2
      all_goals first
        | (go_ret; exact ⟨_, rfl, hB.out⟩)
        | (go_round; (case rel => exact ⟨j + 1, by go_num, by omega⟩); (case measure => simp [intOf]; omega))
    · obtain rfl : j = N + 1 := by omega
      go_wp2
      go_ret
      exact ⟨_, rfl, hB.out⟩

set_option maxRecDepth 100000 in
theorem object_calls (s : ByteArray) (hs : s.size ≤ 1000) (w : World) (h : Lib0 w) : Calls Tryz.prog 27 #[.string s] w (Number w) := by
  have HL := Aside1.mk h
  clear h
  by_cases h0 : s.size = 0
  · have he := none_ s h0
    go_enter Tryz.func27, Tryz.ntmps27
    go_wp2
    go_ret
    exact ⟨_, rfl, Below.refl _ _⟩
  · have he := full s (by omega)
    have hp : 0 < s.size := by omega
    by_cases h64 : 64 < s.size
    · go_enter Tryz.func27, Tryz.ntmps27
      go_wp2
      go_ret
      exact ⟨_, rfl, Below.refl _ _⟩
    · go_enter Tryz.func27, Tryz.ntmps27
      go_wp2_with fail
      refine (plain_calls s hs _).mono ?_
      rintro e w1 ⟨b, rfl, hb⟩
      have HB := Aside1.mk hb
      clear hb
      cases b with
      | false =>
        go_wp2
        go_ret
        exact ⟨_, rfl, HB.out⟩
      | true =>
        by_cases h47 : (s[0].toNat : Int) = 47
        · have hq : ((s[0].toNat : Int) == 47) = true := by simpa using h47
          go_wp2
          go_ret
          exact ⟨_, rfl, HB.out⟩
        · have hq : ((s[0].toNat : Int) == 47) = false := by simpa using h47
          go_wp2_with fail
          refine (dots_calls s hs _ (HL.out.below HB.out)).mono ?_
          rintro e w2 ⟨b, rfl, hb⟩
          have HB2 := Aside1.mk (HB.out.trans (hb.mono HB.out.size))
          clear hb
          cases b with
          | false =>
            go_wp2
            go_ret
            exact ⟨_, rfl, HB2.out⟩
          | true =>
            go_wp2
            go_ret
            exact ⟨_, rfl, HB2.out⟩
end Go.Proofs.YtkemhdbnkpblpaaGreatDoor.ObC
