import Derived.Test.YtcdmmkmonhmckaaGreatSpaN
namespace Go.Proofs.YtcdmmkmonhmckaaGreat.StrN
open Go.RowKit Go.Proofs.YtcdmmkmonhmckaaGreat.Agg Go.Proofs.YtcdmmkmonhmckaaGreat.CowA Go.Proofs.YtcdmmkmonhmckaaGreat.DeadA Go.Proofs.YtcdmmkmonhmckaaGreat.SpaA Go.Proofs.YtcdmmkmonhmckaaGreat.SpaN
set_option linter.unusedVariables false
set_option linter.unusedSimpArgs false

theorem ready171_calls (w : World) (s : Option Addr) (h : NoSets w s) : Calls Tryz.prog 171 #[.pointer s] w fun e w' => e = .returned (.int .i64 1) ∧ w = w' := by
  rcases h with rfl | ⟨g, t, rfl, hg, ht⟩
  · go_enter Tryz.func171, Tryz.ntmps171
    go_wp2
    go_ret
    exact ⟨rfl, rfl⟩
  · have x0 : w.cell? ⟨g, 0, none⟩ = some (.pointer t) := by rw [cell_of_row w g 0 _ 70 (0, 0) hg]; rfl
    clear hg
    have HH := Aside1.mk ht
    clear ht
    go_enter Tryz.func171, Tryz.ntmps171
    go_wp2_with fail
    refine (pool_calls _ t HH.out).mono ?_
    rintro e w1 ⟨rfl, rfl⟩
    go_wp2
    go_ret
    exact ⟨rfl, rfl⟩

theorem names_calls (w : World) (s : Option Addr) (h : NoSets w s) : Calls Tryz.prog 61 #[.pointer s] w fun e w' => e = .returned (.tuple #[.slice none 0 0, .int .i64 1]) ∧ w = w' := by
  go_enter Tryz.func61, Tryz.ntmps61
  go_wp2_with fail
  refine (ready171_calls _ s h).mono ?_
  rintro e w1 ⟨rfl, rfl⟩
  go_wp2
  go_ret2
  exact ⟨rfl, rfl⟩

theorem snaps_calls (w : World) (s : Option Addr) (n : Value) (h : NoSets w s) : Calls Tryz.prog 62 #[.pointer s, n] w fun e w' => e = .returned (.tuple #[.slice none 0 0, .int .i64 1]) ∧ w = w' := by
  go_enter Tryz.func62, Tryz.ntmps62
  go_wp2_with fail
  refine (ready171_calls _ s h).mono ?_
  rintro e w1 ⟨rfl, rfl⟩
  go_wp2
  go_ret2
  exact ⟨rfl, rfl⟩

theorem items_calls (w : World) (s : Option Addr) (h : NoSets w s) : Calls Tryz.prog 184 #[.pointer s, .agg #[.string ByteArray.empty, .string ByteArray.empty]] w fun e w' => e = .returned (.tuple #[.slice none 0 0, .int .i64 1]) ∧ Below w.heap.size w w' := by
  have hB := Aside1.mk ((Below.refl w.heap.size w).alloc (Nat.le_refl _) (.cells #[.string ByteArray.empty, .string ByteArray.empty] 82))
  have HH := Aside1.mk (h.below hB.out)
  clear h
  go_enter Tryz.func184, Tryz.ntmps184
  go_wp2_with fail
  refine (names_calls _ s HH.out).mono ?_
  rintro e w1 ⟨rfl, rfl⟩
  go_wp2
  go_ret2
  exact ⟨rfl, hB.out⟩

theorem diff_calls (w : World) (s : Option Addr) (n m : ByteArray) (h : NoSets w s) : Calls Tryz.prog 67 #[.pointer s, .agg #[.string ByteArray.empty, .string ByteArray.empty], .agg #[.string n, .string m]] w fun e w' => e = .returned (.tuple #[.slice none 0 0, .int .i64 1]) ∧ Below w.heap.size w w' := by
  have hB := Aside1.mk (((Below.refl w.heap.size w).alloc (Nat.le_refl _) (.cells #[.pointer s] 67)).alloc (by simp) (.cells #[.string ByteArray.empty, .string ByteArray.empty] 82) |>.alloc (by simp; omega) (.cells #[.string n, .string m] 82))
  have HH := Aside1.mk (h.below hB.out)
  clear h
  go_enter Tryz.func67, Tryz.ntmps67
  go_wp2_with fail
  refine (items_calls _ s HH.out).mono ?_
  rintro e w1 ⟨rfl, hb⟩
  have HB := Aside1.mk (hB.out.trans (hb.mono (by simp; omega)))
  clear hb
  go_wp2
  go_ret2
  exact ⟨rfl, HB.out⟩

theorem send_calls (w : World) (s : Option Addr) (n b m : Value) (h : NoSets w s) : Calls Tryz.prog 68 #[.pointer s, n, b, m] w fun e w' => e = .returned (.tuple #[.slice none 0 0, .int .i64 1]) ∧ w = w' := by
  go_enter Tryz.func68, Tryz.ntmps68
  go_wp2_with fail
  refine (snaps_calls _ s _ h).mono ?_
  rintro e w1 ⟨rfl, rfl⟩
  go_wp2
  go_ret2
  exact ⟨rfl, rfl⟩

theorem receive_calls (w : World) (s : Option Addr) (n b : Value) (h : NoSets w s) : Calls Tryz.prog 69 #[.pointer s, n, b] w fun e w' => e = .returned (.int .i64 1) ∧ w = w' := by
  go_enter Tryz.func69, Tryz.ntmps69
  go_wp2_with fail
  refine (names_calls _ s h).mono ?_
  rintro e w1 ⟨rfl, rfl⟩
  go_wp2
  go_ret
  exact ⟨rfl, rfl⟩

set_option maxRecDepth 100000 in
set_option maxHeartbeats 4000000 in
theorem law (n : ByteArray) (b : Value) (w : World) :
    Calls Tryz.prog 10 #[.string n, b] w fun e w' => e = .returned (.bool true) ∧ Below w.heap.size w w' := by
  go_enter Tryz.func10, Tryz.ntmps10
  go_wp2_with fail
  refine wp_loop_rounds 4 ?_
  rw [rounds_succ]
  go_wp2_with fail
  refine (diff_calls _ none n _ (.inl rfl)).mono ?_
  rintro e u1 ⟨rfl, b1⟩
  have HF1 := Aside1.mk ((F.start w _ rfl).step b1)
  clear b1
  go_wp2_with fail
  refine (send_calls _ none _ _ _ (.inl rfl)).mono ?_
  rintro e v1 ⟨rfl, rfl⟩
  go_wp2_with fail
  refine (receive_calls _ none _ _ (.inl rfl)).mono ?_
  rintro e v1 ⟨rfl, rfl⟩
  go_wp2_with fail
  rw [rounds_succ]
  have y1 : u1.cell? ⟨w.heap.size + 1 + 1 + 1, 1, none⟩ = some (.pointer (some ⟨w.heap.size, 0, none⟩)) := by rw [cell_of_row _ _ 1 _ 67 (0, 0) HF1.out.l]; rfl
  go_wp2_with fail
  refine (diff_calls _ (some ⟨w.heap.size, 0, none⟩) n _ HF1.out.none1).mono ?_
  rintro e u2 ⟨rfl, b2⟩
  have HF2 := Aside1.mk (HF1.out.step b2)
  clear b2 HF1 y1
  go_wp2_with fail
  refine (send_calls _ (some ⟨w.heap.size, 0, none⟩) _ _ _ HF2.out.none1).mono ?_
  rintro e v2 ⟨rfl, rfl⟩
  go_wp2_with fail
  refine (receive_calls _ (some ⟨w.heap.size, 0, none⟩) _ _ HF2.out.none1).mono ?_
  rintro e v2 ⟨rfl, rfl⟩
  go_wp2_with fail
  rw [rounds_succ]
  have y2 : u2.cell? ⟨w.heap.size + 1 + 1 + 1, 2, none⟩ = some (.pointer (some ⟨w.heap.size + 1 + 1, 0, none⟩)) := by rw [cell_of_row _ _ 2 _ 67 (0, 0) HF2.out.l]; rfl
  go_wp2_with fail
  refine (diff_calls _ (some ⟨w.heap.size + 1 + 1, 0, none⟩) n _ HF2.out.none2).mono ?_
  rintro e u3 ⟨rfl, b3⟩
  have HF3 := Aside1.mk (HF2.out.step b3)
  clear b3 HF2 y2
  go_wp2_with fail
  refine (send_calls _ (some ⟨w.heap.size + 1 + 1, 0, none⟩) _ _ _ HF3.out.none2).mono ?_
  rintro e v3 ⟨rfl, rfl⟩
  go_wp2_with fail
  refine (receive_calls _ (some ⟨w.heap.size + 1 + 1, 0, none⟩) _ _ HF3.out.none2).mono ?_
  rintro e v3 ⟨rfl, rfl⟩
  go_wp2_with fail
  rw [rounds_succ]
  go_wp2
  go_ret
  exact ⟨rfl, HF3.out.b⟩
end Go.Proofs.YtcdmmkmonhmckaaGreat.StrN
