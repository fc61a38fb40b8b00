/- A store of no sets: contracts of the callees; no condition but that there are no sets. -/
import Derived.Test.YtkemhdbnkpblpaaGreatDoorObC
import Derived.Test.YtkemhdbnkpblpaaGreatDoorUpC
namespace Go.Proofs.YtkemhdbnkpblpaaGreatDoor.ObD
open Go.RowKit Go.Proofs.YtkemhdbnkpblpaaGreatDoor.Agg
open Go.Proofs.YtkemhdbnkpblpaaGreatDoor.UpA (NoSets Z47 Z88 Z118 i47 i88 i118 a47 a88 a118 res_ctt)
open Go.Proofs.YtkemhdbnkpblpaaGreatDoor.ObC (Lib0 object_calls)
open Go.Proofs.YtkemhdbnkpblpaaGreatDoor.UpC (Row app1 appStr row_one Made)
set_option linter.unusedVariables false
set_option linter.unusedSimpArgs false

/-- No sets: nil, ones of no store, or ones of a store that no call made. -/
def NoSets3 (w : World) (p : Option Addr) : Prop := NoSets w p ∨ ∃ B z C y, p = some ⟨B, 0, none⟩ ∧ w.heap[B]? = some (.cells z 33 (0, 0)) ∧ z[0]? = some (.pointer (some ⟨C, 0, none⟩)) ∧ w.heap[C]? = some (.cells y 61 (0, 0)) ∧ y[0]? = some (.pointer none)
theorem NoSets3.below {w w1 : World} {p : Option Addr} (h : NoSets3 w p) (hb : Below w.heap.size w w1) : NoSets3 w1 p := by
  rcases h with h | ⟨B, z, C, y, h, hg, h0, hg2, h02⟩
  · exact .inl (h.below hb)
  · exact .inr ⟨B, z, C, y, h, keep hb hg (Array.getElem?_eq_some_iff.1 hg).1, h0, keep hb hg2 (Array.getElem?_eq_some_iff.1 hg2).1, h02⟩

theorem none_calls (w : World) (C : Nat) (x : w.cell? ⟨C, 0, none⟩ = some (.pointer none)) : Calls Tryz.prog 130 #[.pointer (some ⟨C, 0, none⟩)] w fun e w' => e = .returned (.bool true) ∧ w = w' := by
  go_enter Tryz.func130, Tryz.ntmps130
  go_wp2
  go_ret
  exact ⟨rfl, rfl⟩
theorem pool_calls (w : World) (C : Nat) (x : w.cell? ⟨C, 0, none⟩ = some (.pointer none)) : Calls Tryz.prog 76 #[.pointer (some ⟨C, 0, none⟩)] w fun e w' => e = .returned (.pointer none) ∧ w = w' := by
  have X := Aside1.mk x
  clear x
  go_enter Tryz.func76, Tryz.ntmps76
  go_wp2_with fail
  refine (none_calls _ C X.out).mono ?_
  rintro e w1 ⟨rfl, rfl⟩
  go_wp2
  go_ret
  exact ⟨rfl, rfl⟩
theorem ready_calls (w : World) (p : Option Addr) (h : NoSets3 w p) : Calls Tryz.prog 108 #[.agg #[.pointer p]] w fun e w' => e = .returned (.int .i64 1) ∧ Below w.heap.size w w' := by
  rcases h with h | ⟨B, z, C, y, rfl, hg, h0, hg2, h02⟩
  · exact UpA.ready_calls w p h
  · have hB := (Array.getElem?_eq_some_iff.1 hg).1
    have hC := (Array.getElem?_eq_some_iff.1 hg2).1
    have x0 : (w.alloc (.cells #[.pointer (some ⟨B, 0, none⟩)] 28)).cell? ⟨B, 0, none⟩ = some (.pointer (some ⟨C, 0, none⟩)) := by rw [cell_of_row _ B 0 z 33 (0, 0) (onAlloc hg _)]; exact h0
    have x1 : (w.alloc (.cells #[.pointer (some ⟨B, 0, none⟩)] 28)).cell? ⟨C, 0, none⟩ = some (.pointer none) := by rw [cell_of_row _ C 0 y 61 (0, 0) (onAlloc hg2 _)]; exact h02
    have X := Aside1.mk x1
    clear hg h0 hg2 h02 x1
    go_enter Tryz.func108, Tryz.ntmps108
    go_wp2_with fail
    refine (pool_calls _ C X.out).mono ?_
    rintro e w1 ⟨rfl, rfl⟩
    go_wp2
    go_ret
    exact ⟨rfl, (Below.refl _ _).alloc (Nat.le_refl _) _⟩

theorem change_calls (w : World) (p : Option Addr) (f : Value) (h : NoSets3 w p) : Calls Tryz.prog 52 #[.agg #[.pointer p], f] w fun e w' => e = .returned (.int .i64 1) ∧ Below w.heap.size w w' := by
  have hB := Aside1.mk ((Below.refl w.heap.size w).alloc (Nat.le_refl _) (.cells #[.pointer p] 28))
  have HH := Aside1.mk (h.below hB.out)
  clear h
  go_enter Tryz.func52, Tryz.ntmps52
  go_wp2_with fail
  refine (ready_calls _ p HH.out).mono ?_
  rintro e w1 ⟨rfl, hb⟩
  have HB := Aside1.mk (hB.out.trans (hb.mono (by simp)))
  clear hb hB HH
  go_wp2
  go_ret
  exact ⟨rfl, HB.out⟩

/-- Behind three boxes. -/
theorem get_calls (w : World) (p : Option Addr) (s t : ByteArray) (k : Value) (h : NoSets3 w p) : Calls Tryz.prog 58 #[.agg #[.pointer p], .agg #[.string s, .string t], k] w fun e w' => e = .returned (.tuple #[.agg Z88, .bool false, .int .i64 1]) ∧ Below w.heap.size w w' := by
  have hB := Aside1.mk ((((Below.refl w.heap.size w).alloc (Nat.le_refl _) (.cells #[.pointer p] 28)).alloc (by simp) (.cells #[.string s, .string t] 64)).alloc (by simp; omega) (.cells Z88 88))
  have HH := Aside1.mk (h.below hB.out)
  have g := heap_new ((w.alloc (.cells #[.pointer p] 28)).alloc (.cells #[.string s, .string t] 64)) (.cells Z88 88)
  rw [show ((w.alloc (.cells #[.pointer p] 28)).alloc (.cells #[.string s, .string t] 64)).heap.size = w.heap.size + 1 + 1 by simp] at g
  have G := Aside1.mk g
  clear h g
  go_enter Tryz.func58, Tryz.ntmps58
  go_wp2_with fail
  refine (ready_calls _ p HH.out).mono ?_
  rintro e w1 ⟨rfl, hb⟩
  have hg := keep hb G.out (by simp)
  have HB := Aside1.mk (hB.out.trans (hb.mono (by simp; omega)))
  clear hb hB HH G
  go_wp2_with (refine wpList_store_same rfl 88 _ _ rfl (w.heap.size + 1 + 1) Z88 rfl rfl 88 hg i88 a88 ?_)
  exact bodyPost_ret (res_ctt (p := 6) (q := 7) (r := 8) _ rfl rfl hg Tryz.underlying88 rfl i88) rfl ⟨rfl, HB.out⟩

theorem state_calls (w : World) (p : Option Addr) (s t : ByteArray) (h : NoSets3 w p) : Calls Tryz.prog 54 #[.agg #[.pointer p], .agg #[.string s, .string t]] w fun e w' => e = .returned (.tuple #[.agg Z118, .int .i64 1]) ∧ Below w.heap.size w w' := by
  have hB := Aside1.mk ((((Below.refl w.heap.size w).alloc (Nat.le_refl _) (.cells #[.pointer p] 28)).alloc (by simp) (.cells #[.string s, .string t] 64)).alloc (by simp; omega) (.cells Z118 118))
  have HH := Aside1.mk (h.below hB.out)
  have g := heap_new ((w.alloc (.cells #[.pointer p] 28)).alloc (.cells #[.string s, .string t] 64)) (.cells Z118 118)
  rw [show ((w.alloc (.cells #[.pointer p] 28)).alloc (.cells #[.string s, .string t] 64)).heap.size = w.heap.size + 1 + 1 by simp] at g
  have G := Aside1.mk g
  clear h g
  go_enter Tryz.func54, Tryz.ntmps54
  go_wp2_with fail
  refine (get_calls _ p s t _ HH.out).mono ?_
  rintro e w1 ⟨rfl, hb⟩
  have hg := keep hb G.out (by simp)
  have HB := Aside1.mk ((hB.out.trans (hb.mono (by simp; omega))).alloc (by have := hb.size; simp at this; omega) (.cells Z88 88))
  have hg2 := Aside1.mk (onAlloc hg (.cells Z88 88))
  have g9 := Aside1.mk (heap_new w1 (.cells Z88 88))
  clear hb hB HH G hg
  go_wp2_with (first | (refine wpList_store_same rfl 88 _ _ rfl _ Z88 rfl rfl 88 g9.out i88 a88 ?_) | (refine wpList_store_same rfl 118 _ _ rfl (w.heap.size + 1 + 1) Z118 rfl rfl 118 hg2.out i118 a118 ?_))
  exact bodyPost_ret (res_ct (p := 4) (q := 5) _ rfl rfl hg2.out Tryz.underlying118 rfl i118) rfl ⟨rfl, HB.out⟩

theorem made_calls (w : World) (p : Option Addr) (s : ByteArray) (h : NoSets3 w p) : Calls Tryz.prog 18 #[.agg #[.pointer p], .string s] w fun e w' => e = .returned (.tuple #[.int .i64 0, .int .i64 1]) ∧ Below w.heap.size w w' := by
  have hB := Aside1.mk ((Below.refl w.heap.size w).alloc (Nat.le_refl _) (.cells #[.pointer p] 28))
  have HH := Aside1.mk (h.below hB.out)
  clear h
  go_enter Tryz.func18, Tryz.ntmps18
  go_wp2_with fail
  refine (state_calls _ p s _ HH.out).mono ?_
  rintro e w1 ⟨rfl, hb⟩
  have HB := Aside1.mk ((hB.out.trans (hb.mono (by simp))).alloc (by have := hb.size; simp at this; omega) (.cells Z118 118))
  have g9 := Aside1.mk (heap_new w1 (.cells Z118 118))
  clear hb hB HH
  go_wp2_with (refine wpList_store_same rfl 118 _ _ rfl _ Z118 rfl rfl 118 g9.out i118 a118 ?_)
  go_ret2
  exact ⟨rfl, HB.out⟩


theorem versioning_calls (w : World) (p : Option Addr) (s t : ByteArray) (h : NoSets3 w p) : Calls Tryz.prog 17 #[.agg #[.pointer p], .agg #[.string s, .string t]] w fun e w' => e = .returned (.tuple #[.int .i64 0, .int .i64 1]) ∧ Below w.heap.size w w' := by
  have hB := Aside1.mk (((Below.refl w.heap.size w).alloc (Nat.le_refl _) (.cells #[.pointer p] 28)).alloc (by simp) (.cells #[.string s, .string t] 64))
  have HH := Aside1.mk (h.below hB.out)
  clear h
  go_enter Tryz.func17, Tryz.ntmps17
  go_wp2_with fail
  refine (state_calls _ p s t HH.out).mono ?_
  rintro e w1 ⟨rfl, hb⟩
  have HB := Aside1.mk ((hB.out.trans (hb.mono (by simp; omega))).alloc (by have := hb.size; simp at this; omega) (.cells Z118 118))
  have g9 := Aside1.mk (heap_new w1 (.cells Z118 118))
  clear hb hB HH
  go_wp2_with (refine wpList_store_same rfl 118 _ _ rfl _ Z118 rfl rfl 118 g9.out i118 a118 ?_)
  go_ret2
  exact ⟨rfl, HB.out⟩

theorem extra_calls (w : World) (p : Option Addr) (s t k : ByteArray) (h : NoSets3 w p) : Calls Tryz.prog 16 #[.agg #[.pointer p], .agg #[.string s, .string t], .string k] w fun e w' => e = .returned (.tuple #[.slice none 0 0, .int .i64 1]) ∧ Below w.heap.size w w' := by
  have hB := Aside1.mk (((Below.refl w.heap.size w).alloc (Nat.le_refl _) (.cells #[.pointer p] 28)).alloc (by simp) (.cells #[.string s, .string t] 64))
  have HH := Aside1.mk (h.below hB.out)
  clear h
  go_enter Tryz.func16, Tryz.ntmps16
  go_wp2_with fail
  refine (state_calls _ p s t HH.out).mono ?_
  rintro e w1 ⟨rfl, hb⟩
  have HB := Aside1.mk ((hB.out.trans (hb.mono (by simp; omega))).alloc (by have := hb.size; simp at this; omega) (.cells Z118 118))
  have g9 := Aside1.mk (heap_new w1 (.cells Z118 118))
  clear hb hB HH
  go_wp2_with (refine wpList_store_same rfl 118 _ _ rfl _ Z118 rfl rfl 118 g9.out i118 a118 ?_)
  go_ret2
  exact ⟨rfl, HB.out⟩

theorem make_calls (w : World) (p : Option Addr) (s : ByteArray) (n : Int) (h : NoSets3 w p) : Calls Tryz.prog 19 #[.agg #[.pointer p], .string s, .int .i64 n] w fun e w' => e = .returned (.int .i64 1) ∧ Below w.heap.size w w' := by
  have hB := Aside1.mk ((((Below.refl w.heap.size w).alloc (Nat.le_refl _) (.cells #[.pointer p] 28)).alloc (by simp; try omega) (.cells #[.string s] 9)).alloc (by simp; try omega) (.cells #[.int .i64 n] 3))
  have HH := Aside1.mk (h.below hB.out)
  clear h
  go_enter Tryz.func19, Tryz.ntmps19
  go_wp2_with fail
  refine (change_calls _ p _ HH.out).mono ?_
  rintro e w1 ⟨rfl, hb⟩
  have HB := Aside1.mk (hB.out.trans (hb.mono (by simp; try omega)))
  clear hb hB HH
  go_wp2
  go_ret
  exact ⟨rfl, HB.out⟩

theorem remove_calls (w : World) (p : Option Addr) (s : ByteArray) (h : NoSets3 w p) : Calls Tryz.prog 20 #[.agg #[.pointer p], .string s] w fun e w' => e = .returned (.int .i64 1) ∧ Below w.heap.size w w' := by
  have hB := Aside1.mk (((Below.refl w.heap.size w).alloc (Nat.le_refl _) (.cells #[.pointer p] 28)).alloc (by simp; try omega) (.cells #[.string s] 9))
  have HH := Aside1.mk (h.below hB.out)
  clear h
  go_enter Tryz.func20, Tryz.ntmps20
  go_wp2_with fail
  refine (change_calls _ p _ HH.out).mono ?_
  rintro e w1 ⟨rfl, hb⟩
  have HB := Aside1.mk (hB.out.trans (hb.mono (by simp; try omega)))
  clear hb hB HH
  go_wp2
  go_ret
  exact ⟨rfl, HB.out⟩

theorem setv_calls (w : World) (p : Option Addr) (s : ByteArray) (n : Int) (h : NoSets3 w p) : Calls Tryz.prog 21 #[.agg #[.pointer p], .string s, .int .i64 n] w fun e w' => e = .returned (.int .i64 1) ∧ Below w.heap.size w w' := by
  have hB := Aside1.mk ((((Below.refl w.heap.size w).alloc (Nat.le_refl _) (.cells #[.pointer p] 28)).alloc (by simp; try omega) (.cells #[.string s] 9)).alloc (by simp; try omega) (.cells #[.int .i64 n] 3))
  have HH := Aside1.mk (h.below hB.out)
  clear h
  go_enter Tryz.func21, Tryz.ntmps21
  go_wp2_with fail
  refine (change_calls _ p _ HH.out).mono ?_
  rintro e w1 ⟨rfl, hb⟩
  have HB := Aside1.mk (hB.out.trans (hb.mono (by simp; try omega)))
  clear hb hB HH
  go_wp2
  go_ret
  exact ⟨rfl, HB.out⟩

theorem setx_calls (w : World) (p : Option Addr) (s t : ByteArray) (h : NoSets3 w p) : Calls Tryz.prog 22 #[.agg #[.pointer p], .string s, .string t, .slice none 0 0] w fun e w' => e = .returned (.int .i64 1) ∧ Below w.heap.size w w' := by
  have hB := Aside1.mk (((((Below.refl w.heap.size w).alloc (Nat.le_refl _) (.cells #[.pointer p] 28)).alloc (by simp; try omega) (.cells #[.string s] 9)).alloc (by simp; try omega) (.cells #[.string t] 9)).alloc (by simp; try omega) (.cells #[.slice none 0 0] 22))
  have HH := Aside1.mk (h.below hB.out)
  clear h
  go_enter Tryz.func22, Tryz.ntmps22
  go_wp2_with fail
  refine (change_calls _ p _ HH.out).mono ?_
  rintro e w1 ⟨rfl, hb⟩
  have HB := Aside1.mk (hB.out.trans (hb.mono (by simp; try omega)))
  clear hb hB HH
  go_wp2
  go_ret
  exact ⟨rfl, HB.out⟩

theorem put_calls (w : World) (p : Option Addr) (s t : ByteArray) (ds : Array Value) (n : Int) (h : NoSets3 w p) : Calls Tryz.prog 12 #[.agg #[.pointer p], .string s, .string t, .agg ds, .int .i64 n] w fun e w' => e = .returned (.tuple #[.agg Z47, .int .i64 1]) ∧ Below w.heap.size w w' := by
  have hB := Aside1.mk (((((((Below.refl w.heap.size w).alloc (Nat.le_refl _) (.cells #[.pointer p] 28)).alloc (by simp; try omega) (.cells #[.string s] 9)).alloc (by simp; try omega) (.cells #[.string t] 9)).alloc (by simp; try omega) (.cells ds 25)).alloc (by simp; try omega) (.cells #[.int .i64 n] 3)).alloc (by simp; try omega) (.cells Z47 47))
  have HH := Aside1.mk (h.below hB.out)
  have g := heap_new (((((w.alloc (.cells #[.pointer p] 28)).alloc (.cells #[.string s] 9)).alloc (.cells #[.string t] 9)).alloc (.cells ds 25)).alloc (.cells #[.int .i64 n] 3)) (.cells Z47 47)
  rw [show (((((w.alloc (.cells #[.pointer p] 28)).alloc (.cells #[.string s] 9)).alloc (.cells #[.string t] 9)).alloc (.cells ds 25)).alloc (.cells #[.int .i64 n] 3)).heap.size = w.heap.size + 1 + 1 + 1 + 1 + 1 by simp] at g
  have G := Aside1.mk g
  clear h g
  go_enter Tryz.func12, Tryz.ntmps12
  go_wp2_with fail
  refine (change_calls _ p _ HH.out).mono ?_
  rintro e w1 ⟨rfl, hb⟩
  have hg := keep hb G.out (by simp)
  have HB := Aside1.mk (hB.out.trans (hb.mono (by simp; try omega)))
  clear hb hB HH G
  go_wp2_with (refine wpList_store_same rfl 47 _ _ rfl (w.heap.size + 1 + 1 + 1 + 1 + 1) Z47 rfl rfl 47 hg i47 a47 ?_)
  exact bodyPost_ret (UpA.res_ct (p := 10) (q := 11) _ rfl rfl hg Tryz.underlying47 rfl i47) rfl ⟨rfl, HB.out⟩

theorem delete_calls (w : World) (p : Option Addr) (s t : ByteArray) (n m : Int) (h : NoSets3 w p) : Calls Tryz.prog 14 #[.agg #[.pointer p], .string s, .string t, .int .i64 n, .int .i64 m] w fun e w' => e = .returned (.tuple #[.agg Z47, .int .i64 1]) ∧ Below w.heap.size w w' := by
  have hB := Aside1.mk (((((((Below.refl w.heap.size w).alloc (Nat.le_refl _) (.cells #[.pointer p] 28)).alloc (by simp; try omega) (.cells #[.string s] 9)).alloc (by simp; try omega) (.cells #[.string t] 9)).alloc (by simp; try omega) (.cells #[.int .i64 n] 3)).alloc (by simp; try omega) (.cells #[.int .i64 m] 3)).alloc (by simp; try omega) (.cells Z47 47))
  have HH := Aside1.mk (h.below hB.out)
  have g := heap_new (((((w.alloc (.cells #[.pointer p] 28)).alloc (.cells #[.string s] 9)).alloc (.cells #[.string t] 9)).alloc (.cells #[.int .i64 n] 3)).alloc (.cells #[.int .i64 m] 3)) (.cells Z47 47)
  rw [show (((((w.alloc (.cells #[.pointer p] 28)).alloc (.cells #[.string s] 9)).alloc (.cells #[.string t] 9)).alloc (.cells #[.int .i64 n] 3)).alloc (.cells #[.int .i64 m] 3)).heap.size = w.heap.size + 1 + 1 + 1 + 1 + 1 by simp] at g
  have G := Aside1.mk g
  clear h g
  go_enter Tryz.func14, Tryz.ntmps14
  go_wp2_with fail
  refine (change_calls _ p _ HH.out).mono ?_
  rintro e w1 ⟨rfl, hb⟩
  have hg := keep hb G.out (by simp)
  have HB := Aside1.mk (hB.out.trans (hb.mono (by simp; try omega)))
  clear hb hB HH G
  go_wp2_with (refine wpList_store_same rfl 47 _ _ rfl (w.heap.size + 1 + 1 + 1 + 1 + 1) Z47 rfl rfl 47 hg i47 a47 ?_)
  exact bodyPost_ret (UpA.res_ct (p := 10) (q := 11) _ rfl rfl hg Tryz.underlying47 rfl i47) rfl ⟨rfl, HB.out⟩

end Go.Proofs.YtkemhdbnkpblpaaGreatDoor.ObD
