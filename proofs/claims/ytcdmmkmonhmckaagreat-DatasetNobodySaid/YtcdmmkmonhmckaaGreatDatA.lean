import Derived.Test.YtcdmmkmonhmckaaGreatStrN
import Derived.Defers
namespace Go.Proofs.YtcdmmkmonhmckaaGreat.DatA
open Go.RowKit Go.Proofs.YtcdmmkmonhmckaaGreat.Agg Go.Proofs.YtcdmmkmonhmckaaGreat.CowA Go.Proofs.YtcdmmkmonhmckaaGreat.DeadA Go.Proofs.YtcdmmkmonhmckaaGreat.SpaA Go.Proofs.YtcdmmkmonhmckaaGreat.SpaN Go.Proofs.YtcdmmkmonhmckaaGreat.StrN
set_option linter.unusedVariables false
set_option linter.unusedSimpArgs false

theorem change_calls (w : World) (s : Option Addr) (f : Value) (h : NoSets w s) : Calls Tryz.prog 155 #[.pointer s, f] w fun e w' => e = .returned (.int .i64 1) ∧ Below w.heap.size w w' := by
  have hB := Aside1.mk (((Below.refl w.heap.size w).alloc (Nat.le_refl _) (.cells #[.pointer s] 67)).alloc (by simp) (.cells #[.int .i64 0] 34))
  have HH := Aside1.mk (h.below hB.out)
  clear h
  go_enter_defers Tryz.func155, Tryz.ntmps155
  go_wp2_with fail
  refine (ready171_calls _ s HH.out).mono ?_
  rintro e w1 ⟨rfl, rfl⟩
  go_wp2
  refine ⟨.int .i64 1, ?_, rfl, ((Below.refl w.heap.size w).alloc (Nat.le_refl _) _).alloc (by simp) _⟩
  have hr : Tryz.f155.results = #[.cell 4 34] := rfl
  have c0 : ((w.alloc (.cells #[.pointer s] 67)).alloc (.cells #[.int .i64 1] 34)).cell? ⟨w.heap.size + 1, 0, none⟩ = some (.int .i64 1) := by
    have g := heap_new (w.alloc (.cells #[.pointer s] 67)) (.cells #[.int .i64 1] 34)
    have e1 : (w.alloc (.cells #[.pointer s] 67)).heap.size = w.heap.size + 1 := by simp
    rw [e1] at g
    rw [cell_of_row _ _ 0 _ 34 (0, 0) g]
    rfl
  simp [results, hr, asAddr]
  go_simp

theorem told_calls (w : World) (n : Value) : Calls Tryz.prog 159 #[n, .int .i64 1] w fun e w' => e = .returned (.tuple #[.int .i64 0, .int .i64 1]) ∧ w = w' := by
  go_enter Tryz.func159, Tryz.ntmps159
  go_wp2
  go_ret2
  exact ⟨rfl, rfl⟩

theorem destroy_calls (w : World) (s : Option Addr) (n0 : ByteArray) (h : NoSets w s) : Calls Tryz.prog 63 #[.pointer s, .string n0] w fun e w' => e = .returned (.int .i64 1) ∧ Below w.heap.size w w' := by
  have hB := Aside1.mk (((Below.refl w.heap.size w).alloc (by first | exact Nat.le_refl _ | (simp; done) | (simp; omega)) (.cells #[.pointer s] 67)).alloc (by first | exact Nat.le_refl _ | (simp; done) | (simp; omega)) (.cells #[.string n0] 9))
  have HH := Aside1.mk (h.below hB.out)
  clear h
  go_enter Tryz.func63, Tryz.ntmps63
  go_wp2_with fail
  refine (change_calls _ s _ HH.out).mono ?_
  rintro e w1 ⟨rfl, hb⟩
  go_wp2
  go_ret
  exact ⟨rfl, hB.out.trans (hb.mono (by simp; try omega))⟩

theorem drop_calls (w : World) (s : Option Addr) (n0 : ByteArray) (n1 : ByteArray) (h : NoSets w s) : Calls Tryz.prog 64 #[.pointer s, .string n0, .string n1] w fun e w' => e = .returned (.int .i64 1) ∧ Below w.heap.size w w' := by
  have hB := Aside1.mk ((((Below.refl w.heap.size w).alloc (by first | exact Nat.le_refl _ | (simp; done) | (simp; omega)) (.cells #[.pointer s] 67)).alloc (by first | exact Nat.le_refl _ | (simp; done) | (simp; omega)) (.cells #[.string n0] 9)).alloc (by first | exact Nat.le_refl _ | (simp; done) | (simp; omega)) (.cells #[.string n1] 9))
  have HH := Aside1.mk (h.below hB.out)
  clear h
  go_enter Tryz.func64, Tryz.ntmps64
  go_wp2_with fail
  refine (change_calls _ s _ HH.out).mono ?_
  rintro e w1 ⟨rfl, hb⟩
  go_wp2
  go_ret
  exact ⟨rfl, hB.out.trans (hb.mono (by simp; try omega))⟩

theorem back_calls (w : World) (s : Option Addr) (n0 : ByteArray) (n1 : ByteArray) (h : NoSets w s) : Calls Tryz.prog 65 #[.pointer s, .string n0, .string n1] w fun e w' => e = .returned (.int .i64 1) ∧ Below w.heap.size w w' := by
  have hB := Aside1.mk ((((Below.refl w.heap.size w).alloc (by first | exact Nat.le_refl _ | (simp; done) | (simp; omega)) (.cells #[.pointer s] 67)).alloc (by first | exact Nat.le_refl _ | (simp; done) | (simp; omega)) (.cells #[.string n0] 9)).alloc (by first | exact Nat.le_refl _ | (simp; done) | (simp; omega)) (.cells #[.string n1] 9))
  have HH := Aside1.mk (h.below hB.out)
  clear h
  go_enter Tryz.func65, Tryz.ntmps65
  go_wp2_with fail
  refine (change_calls _ s _ HH.out).mono ?_
  rintro e w1 ⟨rfl, hb⟩
  go_wp2
  go_ret
  exact ⟨rfl, hB.out.trans (hb.mono (by simp; try omega))⟩

theorem put_calls (w : World) (s : Option Addr) (n0 : ByteArray) (xs : Array Value) (h : NoSets w s) : Calls Tryz.prog 66 #[.pointer s, .string n0, .agg xs] w fun e w' => e = .returned (.int .i64 1) ∧ Below w.heap.size w w' := by
  have hB := Aside1.mk ((((Below.refl w.heap.size w).alloc (by first | exact Nat.le_refl _ | (simp; done) | (simp; omega)) (.cells #[.pointer s] 67)).alloc (by first | exact Nat.le_refl _ | (simp; done) | (simp; omega)) (.cells #[.string n0] 9)).alloc (by first | exact Nat.le_refl _ | (simp; done) | (simp; omega)) (.cells xs 120))
  have HH := Aside1.mk (h.below hB.out)
  clear h
  go_enter Tryz.func66, Tryz.ntmps66
  go_wp2_with fail
  refine (change_calls _ s _ HH.out).mono ?_
  rintro e w1 ⟨rfl, hb⟩
  go_wp2
  go_ret
  exact ⟨rfl, hB.out.trans (hb.mono (by simp; try omega))⟩

set_option maxRecDepth 100000 in
theorem root169_calls (w : World) (s : Option Addr) (n m : ByteArray) (h : NoSets w s) : Calls Tryz.prog 169 #[.pointer s, .agg #[.string n, .string m]] w fun e w' => e = .returned (.tuple #[.agg Z28, .int .i64 1]) ∧ Below w.heap.size w w' := by
  have hB := Aside1.mk (((Below.refl w.heap.size w).alloc (Nat.le_refl _) (.cells #[.string n, .string m] 82)).alloc (by simp) (.cells Z28 28))
  have g0 := heap_new (w.alloc (.cells #[.string n, .string m] 82)) (.cells Z28 28)
  have e1 : (w.alloc (.cells #[.string n, .string m] 82)).heap.size = w.heap.size + 1 := by simp
  rw [e1] at g0
  have HH := Aside1.mk (h.below hB.out)
  clear h e1
  go_enter Tryz.func169, Tryz.ntmps169
  go_wp2_with fail
  refine (ready171_calls _ s HH.out).mono ?_
  rintro e w1 ⟨rfl, rfl⟩
  go_wp2_with (refine wpList_store_same rfl 28 _ _ rfl (w.heap.size + 1) Z28 rfl rfl 28 g0 i28 a28 ?_)
  exact bodyPost_ret (res_ct (p := 4) (q := 5) _ rfl rfl g0 Tryz.underlying28 rfl i28) rfl ⟨rfl, hB.out⟩

set_option maxRecDepth 100000 in
theorem range60_calls (w : World) (s : Option Addr) (n m : ByteArray) (ks : Array Value) (k b : Value) (h : NoSets w s) : Calls Tryz.prog 60 #[.pointer s, .agg #[.string n, .string m], .agg ks, k, b] w fun e w' => e = .returned (.tuple #[.slice none 0 0, .int .i64 1]) ∧ Below w.heap.size w w' := by
  have hB := Aside1.mk (((Below.refl w.heap.size w).alloc (Nat.le_refl _) (.cells #[.string n, .string m] 82)).alloc (by simp) (.cells ks 44))
  have HH := Aside1.mk (h.below hB.out)
  clear h
  go_enter Tryz.func60, Tryz.ntmps60
  go_wp2_with fail
  refine (root169_calls _ s n m HH.out).mono ?_
  rintro e w1 ⟨rfl, hb⟩
  have HB := Aside1.mk ((hB.out.trans (hb.mono (by simp; omega))).alloc (by have := hb.size; simp at this; omega) (.cells Z28 28))
  clear hb
  go_wp2_with (refine wpList_store_same rfl 28 _ _ rfl _ Z28 rfl rfl 28 (heap_new _ _) i28 a28 ?_)
  go_ret2
  exact ⟨rfl, HB.out⟩

theorem create_calls (w : World) (s : Option Addr) (n0 : ByteArray) (h : NoSets w s) : Calls Tryz.prog 55 #[.pointer s, .string n0] w fun e w' => e = .returned (.tuple #[.int .i64 0, .int .i64 1]) ∧ Below w.heap.size w w' := by
  have hB := Aside1.mk (((((Below.refl w.heap.size w).alloc (by first | exact Nat.le_refl _ | (simp; done) | (simp; omega)) (.cells #[.pointer s] 67)).alloc (by first | exact Nat.le_refl _ | (simp; done) | (simp; omega)) (.cells #[.string n0] 9)).alloc (by first | exact Nat.le_refl _ | (simp; done) | (simp; omega)) (.cells #[.int .i64 0] 3)).alloc (by first | exact Nat.le_refl _ | (simp; done) | (simp; omega)) (.cells #[.int .i64 0] 34))
  have HH := Aside1.mk (h.below hB.out)
  clear h
  have g0 := heap_new ((w.alloc (.cells #[.pointer s] 67)).alloc (.cells #[.string n0] 9)) (.cells #[.int .i64 0] 3)
  have e0 : ((w.alloc (.cells #[.pointer s] 67)).alloc (.cells #[.string n0] 9)).heap.size = w.heap.size + 1 + 1 := by simp
  rw [e0] at g0
  replace g0 := onAlloc g0 (.cells #[.int .i64 0] 34)
  have g1 := heap_new (((w.alloc (.cells #[.pointer s] 67)).alloc (.cells #[.string n0] 9)).alloc (.cells #[.int .i64 0] 3)) (.cells #[.int .i64 0] 34)
  have e1 : (((w.alloc (.cells #[.pointer s] 67)).alloc (.cells #[.string n0] 9)).alloc (.cells #[.int .i64 0] 3)).heap.size = w.heap.size + 1 + 1 + 1 := by simp
  rw [e1] at g1
  replace g1 := Aside1.mk g1
  clear e1
  replace g0 := Aside1.mk g0
  clear e0
  go_enter Tryz.func55, Tryz.ntmps55
  go_wp2_with fail
  refine (change_calls _ s _ HH.out).mono ?_
  rintro e w1 ⟨rfl, hb⟩
  have k0 := keep hb g0.out (by simp; try omega)
  have k1 := keep hb g1.out (by simp; try omega)
  have hZ : w.heap.size + 1 + 1 + 1 < w1.heap.size := (Array.getElem?_eq_some_iff.1 k1).1
  have c0 : w1.cell? ⟨w.heap.size + 1 + 1, 0, none⟩ = some (.int .i64 0) := by rw [cell_of_row _ _ 0 _ 3 (0, 0) k0]; rfl
  have f0 : w1.frozen? ⟨w.heap.size + 1 + 1, 0, none⟩ = false := frozen_of_row _ _ 0 _ _ k0
  have c1 : w1.cell? ⟨w.heap.size + 1 + 1 + 1, 0, none⟩ = some (.int .i64 0) := by rw [cell_of_row _ _ 0 _ 34 (0, 0) k1]; rfl
  have f1 : w1.frozen? ⟨w.heap.size + 1 + 1 + 1, 0, none⟩ = false := frozen_of_row _ _ 0 _ _ k1
  have HB := Aside1.mk (hB.out.trans (hb.mono (by simp; try omega)))
  clear hb k0 k1
  go_wp2_with fail
  refine (told_calls _ _).mono ?_
  rintro e w2 ⟨rfl, rfl⟩
  go_wp2
  have hr : Tryz.f55.results = #[.cell 4 3, .cell 5 34] := rfl
  refine bodyPost_ret (v := .tuple #[.int .i64 0, .int .i64 1]) ?hres rfl ⟨rfl, ?hb⟩
  case hres =>
    simp [results, hr, asAddr]
    try go_simp
  case hb =>
    repeat (refine Below.setCell ?_ (by first | (show _ ≤ _; omega) | (simp; omega)) _)
    exact HB.out

theorem snap_calls (w : World) (s : Option Addr) (n0 : ByteArray) (n1 : ByteArray) (h : NoSets w s) : Calls Tryz.prog 56 #[.pointer s, .string n0, .string n1] w fun e w' => e = .returned (.tuple #[.int .i64 0, .int .i64 1]) ∧ Below w.heap.size w w' := by
  have hB := Aside1.mk (((((Below.refl w.heap.size w).alloc (by first | exact Nat.le_refl _ | (simp; done) | (simp; omega)) (.cells #[.pointer s] 67)).alloc (by first | exact Nat.le_refl _ | (simp; done) | (simp; omega)) (.cells #[.string n0] 9)).alloc (by first | exact Nat.le_refl _ | (simp; done) | (simp; omega)) (.cells #[.string n1] 9)).alloc (by first | exact Nat.le_refl _ | (simp; done) | (simp; omega)) (.cells #[.int .i64 0] 3))
  have HH := Aside1.mk (h.below hB.out)
  clear h
  have g0 := heap_new (((w.alloc (.cells #[.pointer s] 67)).alloc (.cells #[.string n0] 9)).alloc (.cells #[.string n1] 9)) (.cells #[.int .i64 0] 3)
  have e0 : (((w.alloc (.cells #[.pointer s] 67)).alloc (.cells #[.string n0] 9)).alloc (.cells #[.string n1] 9)).heap.size = w.heap.size + 1 + 1 + 1 := by simp
  rw [e0] at g0
  replace g0 := Aside1.mk g0
  clear e0
  go_enter Tryz.func56, Tryz.ntmps56
  go_wp2_with fail
  refine (change_calls _ s _ HH.out).mono ?_
  rintro e w1 ⟨rfl, hb⟩
  have k0 := keep hb g0.out (by simp; try omega)
  have hZ : w.heap.size + 1 + 1 + 1 < w1.heap.size := (Array.getElem?_eq_some_iff.1 k0).1
  have c0 : w1.cell? ⟨w.heap.size + 1 + 1 + 1, 0, none⟩ = some (.int .i64 0) := by rw [cell_of_row _ _ 0 _ 3 (0, 0) k0]; rfl
  have f0 : w1.frozen? ⟨w.heap.size + 1 + 1 + 1, 0, none⟩ = false := frozen_of_row _ _ 0 _ _ k0
  have HB := Aside1.mk (hB.out.trans (hb.mono (by simp; try omega)))
  clear hb k0
  go_wp2_with fail
  refine (told_calls _ _).mono ?_
  rintro e w2 ⟨rfl, rfl⟩
  go_wp2
  have hr : Tryz.f56.results = #[.cell 6 3, .tmp 7] := rfl
  refine bodyPost_ret (v := .tuple #[.int .i64 0, .int .i64 1]) ?hres rfl ⟨rfl, ?hb⟩
  case hres =>
    simp [results, hr, asAddr]
    try go_simp
  case hb =>
    repeat (refine Below.setCell ?_ (by first | (show _ ≤ _; omega) | (simp; omega)) _)
    exact HB.out

theorem clone_calls (w : World) (s : Option Addr) (n0 : ByteArray) (n1 : ByteArray) (n2 : ByteArray) (h : NoSets w s) : Calls Tryz.prog 57 #[.pointer s, .string n0, .string n1, .string n2] w fun e w' => e = .returned (.tuple #[.int .i64 0, .int .i64 1]) ∧ Below w.heap.size w w' := by
  have hB := Aside1.mk ((((((Below.refl w.heap.size w).alloc (by first | exact Nat.le_refl _ | (simp; done) | (simp; omega)) (.cells #[.pointer s] 67)).alloc (by first | exact Nat.le_refl _ | (simp; done) | (simp; omega)) (.cells #[.string n0] 9)).alloc (by first | exact Nat.le_refl _ | (simp; done) | (simp; omega)) (.cells #[.string n1] 9)).alloc (by first | exact Nat.le_refl _ | (simp; done) | (simp; omega)) (.cells #[.string n2] 9)).alloc (by first | exact Nat.le_refl _ | (simp; done) | (simp; omega)) (.cells #[.int .i64 0] 3))
  have HH := Aside1.mk (h.below hB.out)
  clear h
  have g0 := heap_new ((((w.alloc (.cells #[.pointer s] 67)).alloc (.cells #[.string n0] 9)).alloc (.cells #[.string n1] 9)).alloc (.cells #[.string n2] 9)) (.cells #[.int .i64 0] 3)
  have e0 : ((((w.alloc (.cells #[.pointer s] 67)).alloc (.cells #[.string n0] 9)).alloc (.cells #[.string n1] 9)).alloc (.cells #[.string n2] 9)).heap.size = w.heap.size + 1 + 1 + 1 + 1 := by simp
  rw [e0] at g0
  replace g0 := Aside1.mk g0
  clear e0
  go_enter Tryz.func57, Tryz.ntmps57
  go_wp2_with fail
  refine (change_calls _ s _ HH.out).mono ?_
  rintro e w1 ⟨rfl, hb⟩
  have k0 := keep hb g0.out (by simp; try omega)
  have hZ : w.heap.size + 1 + 1 + 1 + 1 < w1.heap.size := (Array.getElem?_eq_some_iff.1 k0).1
  have c0 : w1.cell? ⟨w.heap.size + 1 + 1 + 1 + 1, 0, none⟩ = some (.int .i64 0) := by rw [cell_of_row _ _ 0 _ 3 (0, 0) k0]; rfl
  have f0 : w1.frozen? ⟨w.heap.size + 1 + 1 + 1 + 1, 0, none⟩ = false := frozen_of_row _ _ 0 _ _ k0
  have HB := Aside1.mk (hB.out.trans (hb.mono (by simp; try omega)))
  clear hb k0
  go_wp2_with fail
  refine (told_calls _ _).mono ?_
  rintro e w2 ⟨rfl, rfl⟩
  go_wp2
  have hr : Tryz.f57.results = #[.cell 8 3, .tmp 9] := rfl
  refine bodyPost_ret (v := .tuple #[.int .i64 0, .int .i64 1]) ?hres rfl ⟨rfl, ?hb⟩
  case hres =>
    simp [results, hr, asAddr]
    try go_simp
  case hb =>
    repeat (refine Below.setCell ?_ (by first | (show _ ≤ _; omega) | (simp; omega)) _)
    exact HB.out

theorem del_calls (w : World) (s : Option Addr) (n0 : ByteArray) (A : Option Addr) (kn kc : Nat) (h : NoSets w s) : Calls Tryz.prog 58 #[.pointer s, .string n0, .slice A kn kc] w fun e w' => e = .returned (.tuple #[.bool false, .int .i64 1]) ∧ Below w.heap.size w w' := by
  have hB := Aside1.mk (((((Below.refl w.heap.size w).alloc (by first | exact Nat.le_refl _ | (simp; done) | (simp; omega)) (.cells #[.pointer s] 67)).alloc (by first | exact Nat.le_refl _ | (simp; done) | (simp; omega)) (.cells #[.string n0] 9)).alloc (by first | exact Nat.le_refl _ | (simp; done) | (simp; omega)) (.cells #[.slice A kn kc] 22)).alloc (by first | exact Nat.le_refl _ | (simp; done) | (simp; omega)) (.cells #[.bool false] 4))
  have HH := Aside1.mk (h.below hB.out)
  clear h
  have g0 := heap_new (((w.alloc (.cells #[.pointer s] 67)).alloc (.cells #[.string n0] 9)).alloc (.cells #[.slice A kn kc] 22)) (.cells #[.bool false] 4)
  have e0 : (((w.alloc (.cells #[.pointer s] 67)).alloc (.cells #[.string n0] 9)).alloc (.cells #[.slice A kn kc] 22)).heap.size = w.heap.size + 1 + 1 + 1 := by simp
  rw [e0] at g0
  replace g0 := Aside1.mk g0
  clear e0
  go_enter Tryz.func58, Tryz.ntmps58
  go_wp2_with fail
  refine (change_calls _ s _ HH.out).mono ?_
  rintro e w1 ⟨rfl, hb⟩
  have k0 := keep hb g0.out (by simp; try omega)
  have hZ : w.heap.size + 1 + 1 + 1 < w1.heap.size := (Array.getElem?_eq_some_iff.1 k0).1
  have c0 : w1.cell? ⟨w.heap.size + 1 + 1 + 1, 0, none⟩ = some (.bool false) := by rw [cell_of_row _ _ 0 _ 4 (0, 0) k0]; rfl
  have f0 : w1.frozen? ⟨w.heap.size + 1 + 1 + 1, 0, none⟩ = false := frozen_of_row _ _ 0 _ _ k0
  have HB := Aside1.mk (hB.out.trans (hb.mono (by simp; try omega)))
  clear hb k0
  go_wp2
  have hr : Tryz.f58.results = #[.cell 6 4, .tmp 7] := rfl
  refine bodyPost_ret (v := .tuple #[.bool false, .int .i64 1]) ?hres rfl ⟨rfl, ?hb⟩
  case hres =>
    simp [results, hr, asAddr]
    try go_simp
  case hb =>
    repeat (refine Below.setCell ?_ (by first | (show _ ≤ _; omega) | (simp; omega)) _)
    exact HB.out

/-- An item of nothing. -/
def Z120 : Array Value := #[.slice none 0 0, .slice none 0 0, .slice none 0 0]
theorem i120 : (Tryz.prog.info? 120).map (·.size) = some Z120.size := by kernel_rfl
theorem a120 : Z120.all (·.oneCell') = true := by decide +kernel

set_option maxRecDepth 100000 in
theorem get59_calls (w : World) (s : Option Addr) (n m : ByteArray) (k : Value) (h : NoSets w s) : Calls Tryz.prog 59 #[.pointer s, .agg #[.string n, .string m], k] w fun e w' => e = .returned (.tuple #[.agg Z120, .bool false, .int .i64 1]) ∧ Below w.heap.size w w' := by
  have hB := Aside1.mk (((Below.refl w.heap.size w).alloc (Nat.le_refl _) (.cells #[.string n, .string m] 82)).alloc (by simp) (.cells Z120 120))
  have g0 := heap_new (w.alloc (.cells #[.string n, .string m] 82)) (.cells Z120 120)
  have e1 : (w.alloc (.cells #[.string n, .string m] 82)).heap.size = w.heap.size + 1 := by simp
  rw [e1] at g0
  have HH := Aside1.mk (h.below hB.out)
  replace g0 := Aside1.mk g0
  clear h e1
  go_enter Tryz.func59, Tryz.ntmps59
  go_wp2_with fail
  refine (root169_calls _ s n m HH.out).mono ?_
  rintro e w1 ⟨rfl, hb⟩
  have k0 := Aside1.mk (onAlloc (keep hb g0.out (by simp)) (.cells Z28 28))
  have HB := Aside1.mk ((hB.out.trans (hb.mono (by simp; omega))).alloc (by have := hb.size; simp at this; omega) (.cells Z28 28))
  clear hb
  go_wp2_with (first | (refine wpList_store_same rfl 28 _ _ rfl _ Z28 rfl rfl 28 (heap_new _ _) i28 a28 ?_) | (refine wpList_store_same rfl 120 _ _ rfl (w.heap.size + 1) Z120 rfl rfl 120 k0.out i120 a120 ?_))
  exact bodyPost_ret (res_ctt (p := 6) (q := 7) (r := 8) _ rfl rfl k0.out Tryz.underlying120 rfl i120) rfl ⟨rfl, HB.out⟩
end Go.Proofs.YtcdmmkmonhmckaaGreat.DatA
