/- Uploads of no sets: the calls; no condition but that there are no sets. -/
import Derived.Test.YtkemhdbnkpblpaaGreatDoorUpA
namespace Go.Proofs.YtkemhdbnkpblpaaGreatDoor.UpB
open Go.RowKit Go.Proofs.YtkemhdbnkpblpaaGreatDoor.Agg Go.Proofs.YtkemhdbnkpblpaaGreatDoor.UpA
set_option linter.unusedVariables false
set_option linter.unusedSimpArgs false

theorem blk_set {w : World} {g : Nat} {t : TypeId} {cs : Array Value} (h : w.heap[g]? = some (.cells cs t (0, 0))) (i : Nat) (u : Value) : (w.setCell ⟨g, i, none⟩ u).heap[g]? = some (.cells (cs.setIfInBounds i u) t (0, 0)) := by
  unfold World.setCell
  show (w.heap.modify g _)[g]? = _
  rw [Array.getElem?_modify, if_pos rfl, h]
  rfl

theorem cancel_calls (w : World) (p : Option Addr) (s t : ByteArray) (n : Int) (h : NoSets w p) : Calls Tryz.prog 10 #[.agg #[.pointer p], .string s, .string t, .int .i64 n] w fun e w' => e = .returned (.int .i64 1) ∧ Below w.heap.size w w' := by
  have hB := Aside1.mk (((((Below.refl w.heap.size w).alloc (Nat.le_refl _) (.cells #[.pointer p] 30)).alloc (by simp) (.cells #[.string s] 9)).alloc (by simp; omega) (.cells #[.string t] 9)).alloc (by simp; omega) (.cells #[.int .i64 n] 3))
  have HH := Aside1.mk (h.below hB.out)
  clear h
  go_enter Tryz.func10, Tryz.ntmps10
  go_wp2_with fail
  refine (change_calls _ p _ HH.out).mono ?_
  rintro e w1 ⟨rfl, hb⟩
  have HB := Aside1.mk (hB.out.trans (hb.mono (by simp; omega)))
  clear hb hB HH
  go_wp2
  go_ret
  exact ⟨rfl, HB.out⟩

theorem pieces_calls (w : World) (p : Option Addr) (s : ByteArray) (x y : Value) (h : NoSets w p) : Calls Tryz.prog 7 #[.agg #[.pointer p], .string s, x, y] w fun e w' => e = .returned (.tuple #[.slice none 0 0, .int .i64 1]) ∧ Below w.heap.size w w' := by
  have hB := Aside1.mk ((Below.refl w.heap.size w).alloc (Nat.le_refl _) (.cells #[.pointer p] 30))
  have HH := Aside1.mk (h.below hB.out)
  clear h
  go_enter Tryz.func7, Tryz.ntmps7
  go_wp2_with fail
  refine (find_calls _ p s _ _ HH.out).mono ?_
  rintro e w1 ⟨rfl, hb⟩
  have HB := Aside1.mk ((hB.out.trans (hb.mono (by simp))).alloc (by have := hb.size; simp at this; omega) (.cells Z47 47))
  have g9 := Aside1.mk (heap_new w1 (.cells Z47 47))
  clear hb hB HH
  go_wp2_with (refine wpList_store_same rfl 47 _ _ rfl _ Z47 rfl rfl 47 g9.out i47 a47 ?_)
  go_ret2
  exact ⟨rfl, HB.out⟩

theorem pending_calls (w : World) (p : Option Addr) (s : ByteArray) (h : NoSets w p) : Calls Tryz.prog 8 #[.agg #[.pointer p], .string s] w fun e w' => e = .returned (.tuple #[.slice none 0 0, .int .i64 1]) ∧ Below w.heap.size w w' := by
  have hB := Aside1.mk ((Below.refl w.heap.size w).alloc (Nat.le_refl _) (.cells #[.pointer p] 30))
  have HH := Aside1.mk (h.below hB.out)
  clear h
  go_enter Tryz.func8, Tryz.ntmps8
  go_wp2_with fail
  refine (there_calls _ p s HH.out).mono ?_
  rintro e w1 ⟨rfl, hb⟩
  have HB := Aside1.mk (hB.out.trans (hb.mono (by simp)))
  clear hb hB HH
  go_wp2
  go_ret2
  exact ⟨rfl, HB.out⟩

theorem part_calls (w : World) (p : Option Addr) (s t : ByteArray) (n m : Int) (A : Option Addr) (k c : Nat) (h : NoSets w p) : Calls Tryz.prog 6 #[.agg #[.pointer p], .string s, .string t, .int .i64 n, .int .i64 m, .slice A k c] w fun e w' => e = .returned (.tuple #[.string { data := #[] }, .int .i64 1]) ∧ Below w.heap.size w w' := by
  have hB := Aside1.mk ((((((((Below.refl w.heap.size w).alloc (Nat.le_refl _) (.cells #[.pointer p] 30)).alloc (by simp) (.cells #[.string s] 9)).alloc (by simp; omega) (.cells #[.string t] 9)).alloc (by simp; omega) (.cells #[.int .i64 n] 3)).alloc (by simp; omega) (.cells #[.int .i64 m] 3)).alloc (by simp; omega) (.cells #[.slice A k c] 22)).alloc (by simp; omega) (.cells #[.string { data := #[] }] 9))
  have HH := Aside1.mk (h.below hB.out)
  clear h
  go_enter Tryz.func6, Tryz.ntmps6
  go_wp2_with fail
  refine (change_calls _ p _ HH.out).mono ?_
  rintro e w1 ⟨rfl, hb⟩
  have HB := Aside1.mk (hB.out.trans (hb.mono (by simp; omega)))
  clear hb hB HH
  go_wp2
  go_ret2
  exact ⟨rfl, HB.out⟩

theorem start_calls (w : World) (p : Option Addr) (s t : ByteArray) (ds : Array Value) (n : Int) (h : NoSets w p) : Calls Tryz.prog 5 #[.agg #[.pointer p], .string s, .string t, .agg ds, .int .i64 n] w fun e w' => e = .returned (.tuple #[.int .i64 0, .int .i64 1]) ∧ Below w.heap.size w w' := by
  have hB := Aside1.mk (((((((Below.refl w.heap.size w).alloc (Nat.le_refl _) (.cells #[.pointer p] 30)).alloc (by simp) (.cells #[.string s] 9)).alloc (by simp; omega) (.cells #[.string t] 9)).alloc (by simp; omega) (.cells ds 25)).alloc (by simp; omega) (.cells #[.int .i64 n] 3)).alloc (by simp; omega) (.cells #[.int .i64 0] 3))
  have HH := Aside1.mk (h.below hB.out)
  have g := heap_new (((((w.alloc (.cells #[.pointer p] 30)).alloc (.cells #[.string s] 9)).alloc (.cells #[.string t] 9)).alloc (.cells ds 25)).alloc (.cells #[.int .i64 n] 3)) (.cells #[.int .i64 0] 3)
  rw [show (((((w.alloc (.cells #[.pointer p] 30)).alloc (.cells #[.string s] 9)).alloc (.cells #[.string t] 9)).alloc (.cells ds 25)).alloc (.cells #[.int .i64 n] 3)).heap.size = w.heap.size + 1 + 1 + 1 + 1 + 1 by simp] at g
  have G := Aside1.mk g
  clear h g
  go_enter Tryz.func5, Tryz.ntmps5
  go_wp2_with fail
  refine (change_calls _ p _ HH.out).mono ?_
  rintro e w1 ⟨rfl, hb⟩
  have hg := keep hb G.out (by simp)
  have x0 : w1.cell? ⟨w.heap.size + 1 + 1 + 1 + 1 + 1, 0, none⟩ = some (.int .i64 0) := by rw [cell_of_row w1 _ 0 _ 3 (0, 0) hg]; rfl
  have hlt := (Array.getElem?_eq_some_iff.1 hg).1
  have hfz : w1.frozen? ⟨w.heap.size + 1 + 1 + 1 + 1 + 1, 0, none⟩ = false := by simp [World.frozen?, hg]
  have HB := Aside1.mk (hB.out.trans (hb.mono (by simp; omega)))
  have hg2 := Aside1.mk hg
  clear hb hB HH G hg
  go_wp2
  refine bodyPost_ret (v := .tuple #[.int .i64 0, .int .i64 1]) ?_ rfl ⟨rfl, HB.out.setCell (by simp; omega) _⟩
  have hx : (w1.setCell ⟨w.heap.size + 1 + 1 + 1 + 1 + 1, 0, none⟩ (.int .i64 0)).cell? ⟨w.heap.size + 1 + 1 + 1 + 1 + 1, 0, none⟩ = some (.int .i64 0) := by
    have : (w1.setCell ⟨w.heap.size + 1 + 1 + 1 + 1 + 1, 0, none⟩ (.int .i64 0)).heap[w.heap.size + 1 + 1 + 1 + 1 + 1]? = some (.cells (#[.int .i64 0].setIfInBounds 0 (.int .i64 0)) 3 (0, 0)) := blk_set hg2.out 0 _
    rw [cell_of_row _ _ 0 _ 3 (0, 0) this]
    rfl
  simp [results, Tryz.results5, go_sem, hx]

set_option maxRecDepth 100000 in
theorem complete_calls (w : World) (p : Option Addr) (s t : ByteArray) (n m : Int) (h : NoSets w p) : Calls Tryz.prog 9 #[.agg #[.pointer p], .string s, .string t, .int .i64 n, .slice none 0 0, .int .i64 m] w fun e w' => e = .returned (.tuple #[.agg Z47, .int .i64 1]) ∧ Below w.heap.size w w' := by
  have hB := Aside1.mk ((((((((Below.refl w.heap.size w).alloc (Nat.le_refl _) (.cells #[.pointer p] 30)).alloc (by simp) (.cells #[.string s] 9)).alloc (by simp; omega) (.cells #[.string t] 9)).alloc (by simp; omega) (.cells #[.int .i64 n] 3)).alloc (by simp; omega) (.cells #[.slice none 0 0] 40)).alloc (by simp; omega) (.cells #[.int .i64 m] 3)).alloc (by simp; omega) (.cells Z47 47))
  have HH := Aside1.mk (h.below hB.out)
  have g := heap_new ((((((w.alloc (.cells #[.pointer p] 30)).alloc (.cells #[.string s] 9)).alloc (.cells #[.string t] 9)).alloc (.cells #[.int .i64 n] 3)).alloc (.cells #[.slice none 0 0] 40)).alloc (.cells #[.int .i64 m] 3)) (.cells Z47 47)
  rw [show ((((((w.alloc (.cells #[.pointer p] 30)).alloc (.cells #[.string s] 9)).alloc (.cells #[.string t] 9)).alloc (.cells #[.int .i64 n] 3)).alloc (.cells #[.slice none 0 0] 40)).alloc (.cells #[.int .i64 m] 3)).heap.size = w.heap.size + 1 + 1 + 1 + 1 + 1 + 1 by simp] at g
  have G := Aside1.mk g
  clear h g
  go_enter Tryz.func9, Tryz.ntmps9
  go_wp2_with fail
  refine (change_calls _ p _ HH.out).mono ?_
  rintro e w1 ⟨rfl, hb⟩
  have hg := keep hb G.out (by simp)
  have HB := Aside1.mk (hB.out.trans (hb.mono (by simp; omega)))
  clear hb hB HH G
  go_wp2_with (refine wpList_store_same rfl 47 _ _ rfl (w.heap.size + 1 + 1 + 1 + 1 + 1 + 1) Z47 rfl rfl 47 hg i47 a47 ?_)
  exact bodyPost_ret (UpA.res_ct (p := 12) (q := 13) _ rfl rfl hg Tryz.underlying47 rfl i47) rfl ⟨rfl, HB.out⟩
end Go.Proofs.YtkemhdbnkpblpaaGreatDoor.UpB
