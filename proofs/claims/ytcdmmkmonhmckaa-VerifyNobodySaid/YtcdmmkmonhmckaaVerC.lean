/- Without a pool there is no walk: the law walked. -/
import Derived.Test.YtcdmmkmonhmckaaVerB
namespace Go.Proofs.Ytcdmmkmonhmckaa.VerC
open Go.RowKit Go.Proofs.Ytcdmmkmonhmckaa.Agg Go.Proofs.Ytcdmmkmonhmckaa.VerA Go.Proofs.Ytcdmmkmonhmckaa.VerB
set_option linter.unusedVariables false
set_option linter.unusedSimpArgs false

/-- Something is told. -/
def Some1 (w : World) (e : Ending) (w' : World) : Prop := (∃ A n c, e = .returned (.slice A n c)) ∧ Below w.heap.size w w'

set_option maxRecDepth 100000 in
theorem add_calls (w : World) : Calls Try.prog 16 #[.slice none 0 0, .agg #[.int .i64 2, .int .i64 9]] w (Some1 w) := by
  go_enter Try.func16, Try.ntmps16
  go_wp2_with fail
  refine (valid_nil _).mono ?_
  rintro e w1 ⟨rfl, rfl⟩
  go_wp2_with fail
  refine (right_29 _).mono ?_
  rintro e w1 ⟨rfl, hb⟩
  have HB := Aside1.mk (((Below.refl w.heap.size w).alloc (Nat.le_refl _) (.cells #[.int .i64 2, .int .i64 9] 52)).trans (hb.mono (by simp)))
  have hg := keep hb (heap_new w (.cells #[.int .i64 2, .int .i64 9] 52)) (by simp)
  have x0 : w1.cell? ⟨w.heap.size, 0, none⟩ = some (.int .i64 2) := by rw [cell_of_row w1 _ 0 _ 52 (0, 0) hg]; rfl
  have x1 : w1.cell? ⟨w.heap.size, 1, none⟩ = some (.int .i64 9) := by rw [cell_of_row w1 _ 1 _ 52 (0, 0) hg]; rfl
  clear hb hg
  go_wp2_with fail
  refine (first_nil _ _).mono ?_
  rintro e w1 ⟨rfl, rfl⟩
  go_wp2_with fail
  refine wp_loop_rounds 1 ?_
  rw [rounds_succ]
  go_wp2_with fail
  go_quiet (fail)
  go_wp2_with fail
  refine (replace_nil _ _ (.int .i64 2) (.int .i64 9) (heap_new _ _) rfl rfl).mono ?_
  rintro e w3 ⟨⟨A, n, c, rfl⟩, hb3⟩
  have HB3 := Aside1.mk (((below_drewN HB.out _).alloc (by simpa using HB.out.size) _).trans (hb3.mono (by have := HB.out.size; simp; omega)))
  clear hb3 HB x0 x1
  go_wp2
  go_ret
  exact ⟨⟨A, n, c, rfl⟩, HB3.out⟩

set_option maxRecDepth 100000 in
theorem alloc_calls (w : World) : Calls Try.prog 18 #[.int .i64 2, .int .i64 9, .int .i64 0] w fun e w' => (∃ b, e = .returned (.tuple #[.pointer (some ⟨b, 0, none⟩), .int .i64 0])) ∧ Below w.heap.size w w' := by
  have hmm := @run_makeMap Try.prog
  go_enter Try.func18, Try.ntmps18
  go_wp2_with fail
  refine (add_calls _).mono ?_
  rintro e w1 ⟨⟨A, n, c, rfl⟩, hb⟩
  have HB := Aside1.mk (((Below.refl w.heap.size w).alloc (Nat.le_refl _) (.cells #[.int .i64 2, .int .i64 9] 52)).trans (hb.mono (by simp)))
  have hg := keep hb (heap_new w (.cells #[.int .i64 2, .int .i64 9] 52)) (by simp)
  have x0 : w1.cell? ⟨w.heap.size, 0, none⟩ = some (.int .i64 2) := by rw [cell_of_row w1 _ 0 _ 52 (0, 0) hg]; rfl
  have x1 : w1.cell? ⟨w.heap.size, 1, none⟩ = some (.int .i64 9) := by rw [cell_of_row w1 _ 1 _ 52 (0, 0) hg]; rfl
  clear hb hg
  go_wp2_with fail
  go_ret2
  exact ⟨⟨_, rfl⟩, ((HB.out.alloc HB.out.size _).alloc (by have := HB.out.size; simp; omega) _)⟩
theorem made_sectors : ∃ cs : Array Value, ∀ w : World, (Instr.makeSlice 75 (.int .i64 9) (.int .i64 9)).run Try.prog w = .ok (.slice (some ⟨w.heap.size, 0, none⟩) 9 9) (w.alloc (.cells cs 116)) := by
  have h1 : (Try.prog.info? 116).map (fun i => (i.zero.isSome, i.size, i.bytes)) = some (true, 512, 512) := by kernel_rfl
  cases hi : Try.prog.info? 116 with
  | none => rw [hi] at h1; cases h1
  | some i =>
    rw [hi] at h1
    simp only [Option.map_some, Option.some.injEq, Prod.mk.injEq] at h1
    obtain ⟨hz, hs, hb⟩ := h1
    obtain ⟨z, hz⟩ := Option.isSome_iff_exists.1 hz
    exact ⟨_, fun w => run_makeSlice w 75 116 i z Try.underlying75 hi hz .i64 .i64 9 9 (by omega) (by omega) (by rw [hs]; decide) (by rw [hb]; decide) (by omega)⟩

set_option maxRecDepth 100000 in
theorem disk_calls (w : World) : Calls Try.prog 17 #[.int .i64 9] w fun e w' => (∃ b, e = .returned (.tuple #[.pointer (some ⟨b, 0, none⟩), .int .i64 0])) ∧ Below w.heap.size w w' := by
  have hmm := @run_makeMap Try.prog
  obtain ⟨cs, hmk⟩ := made_sectors
  go_enter Try.func17, Try.ntmps17
  go_wp2
  go_ret2
  exact ⟨⟨_, rfl⟩, (((Below.refl _ _).alloc (Nat.le_refl _) _).alloc (by simp) _).alloc (by simp; omega) _⟩

theorem fresh_calls (w : World) : Calls Try.prog 7 #[.int .i64 9] w fun e w' => (∃ b, e = .returned (.pointer (some ⟨b, 0, none⟩))) ∧ Below w.heap.size w w' := by
  go_enter Try.func7, Try.ntmps7
  go_wp2_with fail
  refine (disk_calls _).mono ?_
  rintro e w1 ⟨⟨b, rfl⟩, hb⟩
  have HB := Aside1.mk hb
  clear hb
  go_wp2_with fail
  refine (alloc_calls _).mono ?_
  rintro e w2 ⟨⟨b2, rfl⟩, hb⟩
  have HB2 := Aside1.mk (HB.out.trans (hb.mono HB.out.size))
  clear hb HB
  go_wp2
  go_ret
  exact ⟨⟨_, rfl⟩, HB2.out.alloc HB2.out.size _⟩

set_option maxRecDepth 100000 in
theorem law (cs : Array Value) (hcs : (Try.prog.info? 25).map (·.size) = some cs.size) (n : Int) (w : World) :
    Calls Try.prog 3 #[.agg cs, .int .i64 n] w fun e w' => e = .returned (.bool true) ∧ Below w.heap.size w w' := by
  have h36 : cs.size = 36 := by have := hcs.symm.trans i25; simpa [Z25] using this
  have hB := Aside1.mk ((Below.refl w.heap.size w).alloc (Nat.le_refl _) (.cells cs 25))
  have G := Aside1.mk (heap_new w (.cells cs 25))
  go_enter Try.func3, Try.ntmps3
  go_wp2_with (refine wpList_load_row rfl 25 _ rfl _ rfl 25 cs (0, 0) _ G.out Try.underlying25 rfl hcs ?_)
  refine (Walk_calls _ none cs h36 (.inl rfl)).mono ?_
  rintro e w1 ⟨rfl, hb⟩
  have HB1 := Aside1.mk (((hB.out.trans (hb.mono (by simp))).alloc (by have := hb.size; simp at this; omega) (.cells Z28 28)).alloc (by have := hb.size; simp at this; simp; omega) (.cells Z38 38))
  have hlt : w.heap.size < w1.heap.size := by have := hb.size; simp at this; omega
  have G1 := Aside1.mk (onAlloc (onAlloc (keep hb G.out (by simp)) (.cells Z28 28)) (.cells Z38 38))
  have GR := Aside1.mk (onAlloc (heap_new w1 (.cells Z28 28)) (.cells Z38 38))
  have gp := heap_new (w1.alloc (.cells Z28 28)) (.cells Z38 38)
  rw [show (w1.alloc (.cells Z28 28)).heap.size = w1.heap.size + 1 by simp] at gp
  have GP := Aside1.mk gp
  clear gp
  clear hb hB G
  go_wp2_with (first | (refine wpList_store_same rfl 28 _ _ rfl _ Z28 rfl rfl 28 (heap_new _ _) i28 a28 ?_) | (refine wpList_load_row rfl 25 _ rfl _ rfl 25 cs (0, 0) _ G1.out Try.underlying25 rfl hcs ?_))
  refine (Fresh_calls _ (some ⟨w1.heap.size + 1, 0, none⟩) cs n h36 (.inr ⟨_, rfl, GP.out⟩)).mono ?_
  rintro e w2 ⟨rfl, hb⟩
  have HB2 := Aside1.mk (HB1.out.trans (hb.mono (by simp; omega)))
  have GR2 := keep hb GR.out (by simp; omega)
  have x0 : w2.cell? ⟨w1.heap.size, 0, none⟩ = some (.slice none 0 0) := by rw [cell_of_row w2 _ 0 _ 28 (0, 0) GR2]; rfl
  have x1 : w2.cell? ⟨w1.heap.size, 1, none⟩ = some (.int .i64 0) := by rw [cell_of_row w2 _ 1 _ 28 (0, 0) GR2]; rfl
  clear hb HB1 G1 GR GP GR2 hlt
  go_wp2_with fail
  refine (spans_nil _).mono ?_
  rintro e w3 ⟨rfl, rfl⟩
  go_wp2_with fail
  refine (fresh_calls _).mono ?_
  rintro e w4 ⟨⟨b, rfl⟩, hb⟩
  have HB4 := Aside1.mk (HB2.out.trans (hb.mono HB2.out.size))
  clear hb HB2 x0 x1
  go_wp2
  go_ret
  exact ⟨rfl, HB4.out⟩
end Go.Proofs.Ytcdmmkmonhmckaa.VerC
