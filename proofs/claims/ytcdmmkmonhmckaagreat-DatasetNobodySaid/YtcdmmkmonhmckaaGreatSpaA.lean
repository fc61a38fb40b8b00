import Derived.Test.YtcdmmkmonhmckaaGreatDeadA
namespace Go.Proofs.YtcdmmkmonhmckaaGreat.SpaA
open Go.RowKit Go.Proofs.YtcdmmkmonhmckaaGreat.Agg Go.Proofs.YtcdmmkmonhmckaaGreat.CowA Go.Proofs.YtcdmmkmonhmckaaGreat.DeadA
set_option linter.unusedVariables false
set_option linter.unusedSimpArgs false

/-- An entry of nothing. -/
def Z94 : Array Value := #[.int .i64 0, .int .i64 0, .int .i64 0, .string ByteArray.empty, .int .i64 0, .int .i64 0, .int .i64 0, .int .u32 0, .int .u8 0, .int .u8 0, .int .u8 0, .int .u8 0, .int .u8 0, .int .u8 0, .int .u8 0, .int .u8 0, .int .u8 0, .int .u8 0, .int .u8 0, .int .u8 0, .int .u8 0, .int .u8 0, .int .u8 0, .int .u8 0, .int .u8 0, .int .u8 0, .int .u8 0, .int .u8 0, .int .u8 0, .int .u8 0, .int .u8 0, .int .u8 0, .int .u8 0, .int .u8 0, .int .u8 0, .int .u8 0, .int .u8 0, .int .u8 0, .int .u8 0, .int .u8 0, .int .i64 0, .int .i64 0, .int .i64 0, .int .u32 0, .int .u8 0, .int .u8 0, .int .u8 0, .int .u8 0, .int .u8 0, .int .u8 0, .int .u8 0, .int .u8 0, .int .u8 0, .int .u8 0, .int .u8 0, .int .u8 0, .int .u8 0, .int .u8 0, .int .u8 0, .int .u8 0, .int .u8 0, .int .u8 0, .int .u8 0, .int .u8 0, .int .u8 0, .int .u8 0, .int .u8 0, .int .u8 0, .int .u8 0, .int .u8 0, .int .u8 0, .int .u8 0, .int .u8 0, .int .u8 0, .int .u8 0, .int .u8 0, .int .i64 0, .int .i64 0, .int .i64 0, .int .i64 0, .int .i64 0]
theorem i94 : (Tryz.prog.info? 94).map (·.size) = some Z94.size := by kernel_rfl
theorem a94 : Z94.all (·.oneCell') = true := by decide +kernel
/-- A report of nothing. -/
def Z77 : Array Value := #[.int .i64 0, .int .i64 0, .int .i64 0, .int .i64 0, .int .i64 0, .int .i64 0]
theorem i77 : (Tryz.prog.info? 77).map (·.size) = some Z77.size := by kernel_rfl
theorem a77 : Z77.all (·.oneCell') = true := by decide +kernel

/-- No store: nil, or one that no call made. -/
def NoStore (w : World) (t : Option Addr) : Prop := t = none ∨ ∃ h z, t = some ⟨h, 0, none⟩ ∧ w.heap[h]? = some (.cells z 74 (0, 0)) ∧ z[0]? = some (.pointer none)
theorem NoStore.below {w w1 : World} {t : Option Addr} (h : NoStore w t) (hb : Below w.heap.size w w1) : NoStore w1 t := by
  rcases h with h | ⟨g, z, h, hg, h0⟩
  · exact .inl h
  · exact .inr ⟨g, z, h, keep hb hg (Array.getElem?_eq_some_iff.1 hg).1, h0⟩
/-- No sets: nil, or some of no store. -/
def NoSets (w : World) (s : Option Addr) : Prop := s = none ∨ ∃ g t, s = some ⟨g, 0, none⟩ ∧ w.heap[g]? = some (.cells #[.pointer t] 70 (0, 0)) ∧ NoStore w t
theorem NoSets.below {w w1 : World} {s : Option Addr} (h : NoSets w s) (hb : Below w.heap.size w w1) : NoSets w1 s := by
  rcases h with h | ⟨g, t, h, hg, ht⟩
  · exact .inl h
  · exact .inr ⟨g, t, h, keep hb hg (Array.getElem?_eq_some_iff.1 hg).1, ht.below hb⟩

theorem none_calls (w : World) (t : Option Addr) (h : NoStore w t) : Calls Tryz.prog 144 #[.pointer t] w fun e w' => e = .returned (.bool true) ∧ w = w' := by
  rcases h with rfl | ⟨g, z, rfl, hg, h0⟩
  · go_enter Tryz.func144, Tryz.ntmps144
    go_wp2
    go_ret
    exact ⟨rfl, rfl⟩
  · have x0 : w.cell? ⟨g, 0, none⟩ = some (.pointer none) := by rw [cell_of_row w g 0 z 74 (0, 0) hg]; exact h0
    clear hg h0
    go_enter Tryz.func144, Tryz.ntmps144
    go_wp2
    go_ret
    exact ⟨rfl, rfl⟩

theorem pool_calls (w : World) (t : Option Addr) (h : NoStore w t) : Calls Tryz.prog 48 #[.pointer t] w fun e w' => e = .returned (.pointer none) ∧ w = w' := by
  go_enter Tryz.func48, Tryz.ntmps48
  go_wp2_with fail
  refine (none_calls _ t h).mono ?_
  rintro e w1 ⟨rfl, rfl⟩
  go_wp2
  go_ret
  exact ⟨rfl, rfl⟩

theorem ready_calls (w : World) (s : Option Addr) (h : NoSets w s) : Calls Tryz.prog 102 #[.pointer s] w fun e w' => e = .returned (.int .i64 1) ∧ w = w' := by
  rcases h with rfl | ⟨g, t, rfl, hg, ht⟩
  · go_enter Tryz.func102, Tryz.ntmps102
    go_wp2
    go_ret
    exact ⟨rfl, rfl⟩
  · have x0 : w.cell? ⟨g, 0, none⟩ = some (.pointer t) := by rw [cell_of_row w g 0 _ 70 (0, 0) hg]; rfl
    clear hg
    have HH := Aside1.mk ht
    clear ht
    go_enter Tryz.func102, Tryz.ntmps102
    go_wp2_with fail
    refine (pool_calls _ t HH.out).mono ?_
    rintro e w1 ⟨rfl, rfl⟩
    go_wp2
    go_ret
    exact ⟨rfl, rfl⟩

set_option maxRecDepth 100000 in
set_option maxHeartbeats 4000000 in
theorem find_calls (w : World) (s : Option Addr) (n m : ByteArray) (h : NoSets w s) : Calls Tryz.prog 110 #[.pointer s, .agg #[.string n, .string m]] w fun e w' => e = .returned (.tuple #[.agg Z94, .slice none 0 0, .int .i64 1]) ∧ Below w.heap.size w w' := by
  have hB := ((Below.refl w.heap.size w).alloc (Nat.le_refl _) (.cells #[.string n, .string m] 82)).alloc (by simp) (.cells Z94 94) |>.alloc (by simp; omega) (.cells Z94 94)
  have g0 := onAlloc (heap_new (w.alloc (.cells #[.string n, .string m] 82)) (.cells Z94 94)) (.cells Z94 94)
  have g1 := heap_new ((w.alloc (.cells #[.string n, .string m] 82)).alloc (.cells Z94 94)) (.cells Z94 94)
  have e1 : (w.alloc (.cells #[.string n, .string m] 82)).heap.size = w.heap.size + 1 := by simp
  have e2 : ((w.alloc (.cells #[.string n, .string m] 82)).alloc (.cells Z94 94)).heap.size = w.heap.size + 1 + 1 := by simp
  rw [e1] at g0
  rw [e2] at g1
  have HH := Aside1.mk (h.below (hB.mono (Nat.le_refl _)))
  replace hB := Aside1.mk hB
  replace g0 := Aside1.mk g0
  replace g1 := Aside1.mk g1
  clear h e1 e2
  go_enter Tryz.func110, Tryz.ntmps110
  go_wp2_with fail
  refine (ready_calls _ s HH.out).mono ?_
  rintro e w1 ⟨rfl, rfl⟩
  go_wp2_with (first | (refine wpList_load_row rfl 94 _ rfl _ rfl 94 Z94 (0, 0) _ g1.out Tryz.underlying94 rfl i94 ?_) | (refine wpList_store_same rfl 94 _ _ rfl (w.heap.size + 1) Z94 rfl rfl 94 g0.out i94 a94 ?_))
  exact bodyPost_ret (res_ctt (p := 4) (q := 5) (r := 6) _ rfl rfl g0.out Tryz.underlying94 rfl i94) rfl ⟨rfl, hB.out⟩

theorem check_calls (w : World) (s : Option Addr) (h : NoSets w s) : Calls Tryz.prog 26 #[.pointer s] w fun e w' => e = .returned (.tuple #[.agg Z77, .int .i64 1]) ∧ Below w.heap.size w w' := by
  have hB := (Below.refl w.heap.size w).alloc (Nat.le_refl _) (.cells Z77 77)
  have g0 := heap_new w (.cells Z77 77)
  have HH := Aside1.mk (h.below hB)
  clear h
  go_enter Tryz.func26, Tryz.ntmps26
  go_wp2_with fail
  refine (ready_calls _ s HH.out).mono ?_
  rintro e w1 ⟨rfl, rfl⟩
  go_wp2_with (refine wpList_store_same rfl 77 _ _ rfl w.heap.size Z77 rfl rfl 77 g0 i77 a77 ?_)
  exact bodyPost_ret (res_ct (p := 2) (q := 3) _ rfl rfl g0 Tryz.underlying77 rfl i77) rfl ⟨rfl, hB⟩

set_option maxRecDepth 100000 in
set_option maxHeartbeats 4000000 in
theorem refers_calls (w : World) (s : Option Addr) (n m : ByteArray) (h : NoSets w s) : Calls Tryz.prog 27 #[.pointer s, .agg #[.string n, .string m]] w fun e w' => e = .returned (.tuple #[.int .i64 0, .int .i64 1]) ∧ Below w.heap.size w w' := by
  have hB := Aside1.mk ((Below.refl w.heap.size w).alloc (Nat.le_refl _) (.cells #[.string n, .string m] 82))
  have HH := Aside1.mk (h.below hB.out)
  clear h
  go_enter Tryz.func27, Tryz.ntmps27
  go_wp2_with fail
  refine (find_calls _ s n m HH.out).mono ?_
  rintro e w1 ⟨rfl, hb⟩
  have HB := Aside1.mk ((hB.out.trans (hb.mono (by simp))).alloc (by have := hb.size; simp at this; omega) (.cells Z94 94))
  clear hb
  go_wp2_with (refine wpList_store_same rfl 94 _ _ rfl _ Z94 rfl rfl 94 (heap_new _ _) i94 a94 ?_)
  go_ret2
  exact ⟨rfl, HB.out⟩

set_option maxRecDepth 100000 in
set_option maxHeartbeats 4000000 in
theorem unique_calls (w : World) (s : Option Addr) (n m : ByteArray) (h : NoSets w s) : Calls Tryz.prog 28 #[.pointer s, .agg #[.string n, .string m]] w fun e w' => e = .returned (.tuple #[.int .i64 0, .int .i64 1]) ∧ Below w.heap.size w w' := by
  have hB := Aside1.mk ((Below.refl w.heap.size w).alloc (Nat.le_refl _) (.cells #[.string n, .string m] 82))
  have HH := Aside1.mk (h.below hB.out)
  clear h
  go_enter Tryz.func28, Tryz.ntmps28
  go_wp2_with fail
  refine (find_calls _ s n m HH.out).mono ?_
  rintro e w1 ⟨rfl, hb⟩
  have HB := Aside1.mk ((hB.out.trans (hb.mono (by simp))).alloc (by have := hb.size; simp at this; omega) (.cells Z94 94))
  clear hb
  go_wp2_with (refine wpList_store_same rfl 94 _ _ rfl _ Z94 rfl rfl 94 (heap_new _ _) i94 a94 ?_)
  go_ret2
  exact ⟨rfl, HB.out⟩

set_option maxRecDepth 100000 in
set_option maxHeartbeats 4000000 in
theorem takes_calls (w : World) (s : Option Addr) (n : ByteArray) (d : Value) (h : NoSets w s) : Calls Tryz.prog 29 #[.pointer s, .string n, d] w fun e w' => e = .returned (.tuple #[.int .i64 0, .int .i64 1]) ∧ Below w.heap.size w w' := by
  have HH := Aside1.mk h
  clear h
  go_enter Tryz.func29, Tryz.ntmps29
  go_wp2_with fail
  refine (find_calls _ s n _ HH.out).mono ?_
  rintro e w1 ⟨rfl, hb⟩
  have HB := Aside1.mk (hb.alloc hb.size (.cells Z94 94))
  clear hb
  go_wp2_with (refine wpList_store_same rfl 94 _ _ rfl _ Z94 rfl rfl 94 (heap_new _ _) i94 a94 ?_)
  go_ret2
  exact ⟨rfl, HB.out⟩
end Go.Proofs.YtcdmmkmonhmckaaGreat.SpaA
