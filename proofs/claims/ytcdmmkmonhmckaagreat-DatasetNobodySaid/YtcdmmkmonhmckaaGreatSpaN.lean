import Derived.Test.YtcdmmkmonhmckaaGreatSpaA
namespace Go.Proofs.YtcdmmkmonhmckaaGreat.SpaN
open Go.RowKit Go.Proofs.YtcdmmkmonhmckaaGreat.Agg Go.Proofs.YtcdmmkmonhmckaaGreat.CowA Go.Proofs.YtcdmmkmonhmckaaGreat.DeadA Go.Proofs.YtcdmmkmonhmckaaGreat.SpaA
set_option linter.unusedVariables false
set_option linter.unusedSimpArgs false

/-- What the law's own first blocks hold, on and on. -/
structure F (w W : World) : Prop where
  a : W.heap[w.heap.size]? = some (.cells #[.pointer none] 70 (0, 0))
  z : ∃ z, W.heap[w.heap.size + 1]? = some (.cells z 74 (0, 0)) ∧ z[0]? = some (.pointer none)
  c : W.heap[w.heap.size + 1 + 1]? = some (.cells #[.pointer (some ⟨w.heap.size + 1, 0, none⟩)] 70 (0, 0))
  l : W.heap[w.heap.size + 1 + 1 + 1]? = some (.cells #[.pointer none, .pointer (some ⟨w.heap.size, 0, none⟩), .pointer (some ⟨w.heap.size + 1 + 1, 0, none⟩)] 67 (0, 0))
  b : Below w.heap.size w W
  s : w.heap.size + 1 + 1 + 1 < W.heap.size
theorem F.step {w W W1 : World} (h : F w W) (hb : Below W.heap.size W W1) : F w W1 := by
  have hs := h.s
  obtain ⟨z, hz, h0⟩ := h.z
  exact ⟨keep hb h.a (by omega), ⟨z, keep hb hz (by omega), h0⟩, keep hb h.c (by omega), keep hb h.l hs, h.b.trans (hb.mono (by omega)), Nat.lt_of_lt_of_le hs hb.size⟩
theorem F.alloc {w W : World} (h : F w W) (o : Obj) : F w (W.alloc o) := h.step ((Below.refl _ _).alloc (Nat.le_refl _) _)
theorem F.start (w : World) (z : Array Value) (h0 : z[0]? = some (.pointer none)) : F w ((((w.alloc (.cells #[.pointer none] 70)).alloc (.cells z 74)).alloc (.cells #[.pointer (some ⟨w.heap.size + 1, 0, none⟩)] 70)).alloc (.cells #[.pointer none, .pointer (some ⟨w.heap.size, 0, none⟩), .pointer (some ⟨w.heap.size + 1 + 1, 0, none⟩)] 67)) := by
  have e1 : (w.alloc (.cells #[.pointer none] 70)).heap.size = w.heap.size + 1 := by simp
  have e2 : ((w.alloc (.cells #[.pointer none] 70)).alloc (.cells z 74)).heap.size = w.heap.size + 1 + 1 := by simp
  have e3 : (((w.alloc (.cells #[.pointer none] 70)).alloc (.cells z 74)).alloc (.cells #[.pointer (some ⟨w.heap.size + 1, 0, none⟩)] 70)).heap.size = w.heap.size + 1 + 1 + 1 := by simp
  have g2 := heap_new (w.alloc (.cells #[.pointer none] 70)) (.cells z 74)
  rw [e1] at g2
  have g3 := heap_new ((w.alloc (.cells #[.pointer none] 70)).alloc (.cells z 74)) (.cells #[.pointer (some ⟨w.heap.size + 1, 0, none⟩)] 70)
  rw [e2] at g3
  have g4 := heap_new (((w.alloc (.cells #[.pointer none] 70)).alloc (.cells z 74)).alloc (.cells #[.pointer (some ⟨w.heap.size + 1, 0, none⟩)] 70)) (.cells #[.pointer none, .pointer (some ⟨w.heap.size, 0, none⟩), .pointer (some ⟨w.heap.size + 1 + 1, 0, none⟩)] 67)
  rw [e3] at g4
  exact ⟨onAlloc (onAlloc (onAlloc (heap_new w _) _) _) _, ⟨z, onAlloc (onAlloc g2 _) _, h0⟩, onAlloc g3 _, g4, (((((Below.refl w.heap.size w).alloc (Nat.le_refl _) _).alloc (by simp) _).alloc (by simp; omega) _).alloc (by simp; omega) _), by simp⟩
theorem F.none1 {w W : World} (h : F w W) : NoSets W (some ⟨w.heap.size, 0, none⟩) := .inr ⟨_, none, rfl, h.a, .inl rfl⟩
theorem F.none2 {w W : World} (h : F w W) : NoSets W (some ⟨w.heap.size + 1 + 1, 0, none⟩) := by
  obtain ⟨z, hz, h0⟩ := h.z
  exact .inr ⟨_, _, rfl, h.c, .inr ⟨_, z, rfl, hz, h0⟩⟩

theorem neq_z (W : World) : (binOp .neq 77 (.agg Z77) (.agg Z77)).run Tryz.prog W = .ok (.bool false) W := by kernel_rfl
theorem neq_zl (W : World) : (binOp .neq 77 (.agg Z77) (.agg #[.int .i64 0, .int .i64 0, .int .i64 0, .int .i64 0, .int .i64 0, .int .i64 0])).run Tryz.prog W = .ok (.bool false) W := by kernel_rfl

set_option maxRecDepth 100000 in
set_option maxHeartbeats 4000000 in
theorem law (n : ByteArray) (d : Value) (w : World) :
    Calls Tryz.prog 5 #[.string n, d] w fun e w' => e = .returned (.bool true) ∧ Below w.heap.size w w' := by
  go_enter Tryz.func5, Tryz.ntmps5
  go_wp2_with fail
  refine wp_loop_rounds 4 ?_
  rw [rounds_succ]
  go_wp2_with fail
  refine (check_calls _ none (.inl rfl)).mono ?_
  rintro e u1 ⟨rfl, b1⟩
  have HFA := Aside1.mk (((F.start w _ rfl).step b1).alloc (.cells Z77 77))
  clear b1
  go_wp2_with (refine wpList_store_same rfl 77 _ _ rfl _ Z77 rfl rfl 77 (heap_new _ _) i77 a77 ?_)
  refine (refers_calls _ none n _ (.inl rfl)).mono ?_
  rintro e u2 ⟨rfl, b2⟩
  have HF2 := Aside1.mk (HFA.out.step b2)
  have H7 := Aside1.mk (newOn _ b2)
  clear b2 HFA
  go_wp2_with fail
  refine (unique_calls _ none n _ (.inl rfl)).mono ?_
  rintro e u3 ⟨rfl, b3⟩
  have HF3 := Aside1.mk (HF2.out.step b3)
  replace H7 := Aside1.mk (on H7.out b3)
  clear b3 HF2
  go_wp2_with fail
  refine (takes_calls _ none n d (.inl rfl)).mono ?_
  rintro e u4 ⟨rfl, b4⟩
  have HF4 := Aside1.mk (HF3.out.step b4)
  replace H7 := Aside1.mk (on H7.out b4)
  clear b4 HF3
  have n1 := neq_z
  have n2 := neq_zl
  go_wp2_with (refine wpList_load_row rfl 77 _ rfl _ rfl 77 Z77 (0, 0) _ H7.out Tryz.underlying77 rfl i77 ?_)
  clear H7 n1 n2
  rw [rounds_succ]
  have y1 : u4.cell? ⟨w.heap.size + 1 + 1 + 1, 1, none⟩ = some (.pointer (some ⟨w.heap.size, 0, none⟩)) := by rw [cell_of_row _ _ 1 _ 67 (0, 0) HF4.out.l]; rfl
  go_wp2_with fail
  refine (check_calls _ (some ⟨w.heap.size, 0, none⟩) HF4.out.none1).mono ?_
  rintro e u5 ⟨rfl, b5⟩
  have HFA := Aside1.mk ((HF4.out.step b5).alloc (.cells Z77 77))
  clear b5 HF4 y1
  go_wp2_with (refine wpList_store_same rfl 77 _ _ rfl _ Z77 rfl rfl 77 (heap_new _ _) i77 a77 ?_)
  refine (refers_calls _ (some ⟨w.heap.size, 0, none⟩) n _ HFA.out.none1).mono ?_
  rintro e u6 ⟨rfl, b6⟩
  have HF6 := Aside1.mk (HFA.out.step b6)
  have H7 := Aside1.mk (newOn _ b6)
  clear b6 HFA
  go_wp2_with fail
  refine (unique_calls _ (some ⟨w.heap.size, 0, none⟩) n _ HF6.out.none1).mono ?_
  rintro e u7 ⟨rfl, b7⟩
  have HF7 := Aside1.mk (HF6.out.step b7)
  replace H7 := Aside1.mk (on H7.out b7)
  clear b7 HF6
  go_wp2_with fail
  refine (takes_calls _ (some ⟨w.heap.size, 0, none⟩) n d HF7.out.none1).mono ?_
  rintro e u8 ⟨rfl, b8⟩
  have HF8 := Aside1.mk (HF7.out.step b8)
  replace H7 := Aside1.mk (on H7.out b8)
  clear b8 HF7
  have n1 := neq_z
  have n2 := neq_zl
  go_wp2_with (refine wpList_load_row rfl 77 _ rfl _ rfl 77 Z77 (0, 0) _ H7.out Tryz.underlying77 rfl i77 ?_)
  clear H7 n1 n2
  rw [rounds_succ]
  have y2 : u8.cell? ⟨w.heap.size + 1 + 1 + 1, 2, none⟩ = some (.pointer (some ⟨w.heap.size + 1 + 1, 0, none⟩)) := by rw [cell_of_row _ _ 2 _ 67 (0, 0) HF8.out.l]; rfl
  go_wp2_with fail
  refine (check_calls _ (some ⟨w.heap.size + 1 + 1, 0, none⟩) HF8.out.none2).mono ?_
  rintro e u9 ⟨rfl, b9⟩
  have HFA := Aside1.mk ((HF8.out.step b9).alloc (.cells Z77 77))
  clear b9 HF8 y2
  go_wp2_with (refine wpList_store_same rfl 77 _ _ rfl _ Z77 rfl rfl 77 (heap_new _ _) i77 a77 ?_)
  refine (refers_calls _ (some ⟨w.heap.size + 1 + 1, 0, none⟩) n _ HFA.out.none2).mono ?_
  rintro e u10 ⟨rfl, b10⟩
  have HF10 := Aside1.mk (HFA.out.step b10)
  have H7 := Aside1.mk (newOn _ b10)
  clear b10 HFA
  go_wp2_with fail
  refine (unique_calls _ (some ⟨w.heap.size + 1 + 1, 0, none⟩) n _ HF10.out.none2).mono ?_
  rintro e u11 ⟨rfl, b11⟩
  have HF11 := Aside1.mk (HF10.out.step b11)
  replace H7 := Aside1.mk (on H7.out b11)
  clear b11 HF10
  go_wp2_with fail
  refine (takes_calls _ (some ⟨w.heap.size + 1 + 1, 0, none⟩) n d HF11.out.none2).mono ?_
  rintro e u12 ⟨rfl, b12⟩
  have HF12 := Aside1.mk (HF11.out.step b12)
  replace H7 := Aside1.mk (on H7.out b12)
  clear b12 HF11
  have n1 := neq_z
  have n2 := neq_zl
  go_wp2_with (refine wpList_load_row rfl 77 _ rfl _ rfl 77 Z77 (0, 0) _ H7.out Tryz.underlying77 rfl i77 ?_)
  clear H7 n1 n2
  rw [rounds_succ]
  go_wp2
  go_ret
  exact ⟨rfl, HF12.out.b⟩
end Go.Proofs.YtcdmmkmonhmckaaGreat.SpaN
