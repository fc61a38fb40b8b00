/- Uploads of no sets are none: the law walked. -/
import Derived.Test.YtkemhdbnkpblpaaGreatDoorUpB
import Derived.Test.YtkemhdbnkpblpaaGreatDoorUpD
import Derived.WideShapes
namespace Go.Proofs.YtkemhdbnkpblpaaGreatDoor.UpN
open Go.RowKit Go.Proofs.YtkemhdbnkpblpaaGreatDoor.Agg Go.Proofs.YtkemhdbnkpblpaaGreatDoor.UpA Go.Proofs.YtkemhdbnkpblpaaGreatDoor.UpB
set_option linter.unusedVariables false
set_option linter.unusedSimpArgs false
set_option linter.constructorNameAsVariable false

/-- What the law's own first blocks hold, on and on. -/
structure F (w : World) (ds : Array Value) (W : World) : Prop where
  x : W.heap[w.heap.size]? = some (.cells ds 25 (0, 0))
  p : W.heap[w.heap.size + 1]? = some (.cells #[.pointer none] 33 (0, 0))
  l : W.heap[w.heap.size + 1 + 1]? = some (.cells #[.pointer none, .pointer (some ⟨w.heap.size + 1, 0, none⟩)] 30 (0, 0))
  b : Below w.heap.size w W
  s : w.heap.size + 1 + 1 < W.heap.size
theorem F.step {w W W1 : World} {ds : Array Value} (h : F w ds W) (hb : Below W.heap.size W W1) : F w ds W1 :=
  ⟨keep hb h.x (by have := h.s; omega), keep hb h.p (by have := h.s; omega), keep hb h.l h.s, h.b.trans (hb.mono (by have := h.s; omega)), Nat.lt_of_lt_of_le h.s hb.size⟩
theorem F.alloc {w W : World} {ds : Array Value} (h : F w ds W) (o : Obj) : F w ds (W.alloc o) := h.step ((Below.refl _ _).alloc (Nat.le_refl _) _)
theorem F.start (w : World) (ds : Array Value) : F w ds (((w.alloc (.cells ds 25)).alloc (.cells #[.pointer none] 33)).alloc (.cells #[.pointer none, .pointer (some ⟨w.heap.size + 1, 0, none⟩)] 30)) :=
  ⟨(heap_old _ _ _ (by simp; omega)).trans ((heap_old _ _ _ (by simp)).trans (heap_new w _)), (heap_old _ _ _ (by simp)).trans (by have := heap_new (w.alloc (.cells ds 25)) (.cells #[.pointer none] 33); simpa using this), by have := heap_new ((w.alloc (.cells ds 25)).alloc (.cells #[.pointer none] 33)) (.cells #[.pointer none, .pointer (some ⟨w.heap.size + 1, 0, none⟩)] 30); simpa using this,
   (((Below.refl _ _).alloc (Nat.le_refl _) _).alloc (by simp) _).alloc (by simp; omega) _, by simp⟩
theorem F.sets {w W : World} {ds : Array Value} (h : F w ds W) : NoSets W (some ⟨w.heap.size + 1, 0, none⟩) := .inr ⟨_, _, rfl, h.p, rfl⟩
theorem i30 : (Tryz.prog.info? 30).map (·.size) = some (#[Value.pointer none] : Array Value).size := by kernel_rfl
theorem i25 : (Tryz.prog.info? 25).map (·.size) = some 4 := by kernel_rfl


set_option maxRecDepth 100000 in
set_option maxHeartbeats 4000000 in
theorem law_small (s : ByteArray) (A : Option Addr) (kn kc : Nat) (a1 a2 a3 : Value) (id : Int) (hs : s.size ≤ 100) (w : World) :
    Calls Tryz.prog 3 #[.string s, .agg #[.slice A kn kc, a1, a2, a3], .int .i64 id] w fun e w' => e = .returned (.bool true) ∧ Below w.heap.size w w' := by
  obtain ⟨ds, hds⟩ : ∃ ds : Array Value, ds = #[.slice A kn kc, a1, a2, a3] := ⟨_, rfl⟩
  have HFs := Aside1.mk (F.start w #[.slice A kn kc, a1, a2, a3])
  subst hds
  go_enter Tryz.func3, Tryz.ntmps3
  go_wp2_with fail
  generalize (((w.alloc (.cells #[.slice A kn kc, a1, a2, a3] 25)).alloc (.cells #[.pointer none] 33)).alloc (.cells #[.pointer none, .pointer (some ⟨w.heap.size + 1, 0, none⟩)] 30)) = W0 at *
  have l0 : W0.cell? ⟨w.heap.size + 1 + 1, 0, none⟩ = some (.pointer none) := by rw [cell_of_row W0 _ 0 _ 30 (0, 0) HFs.out.l]; rfl
  refine wp_loop_rounds 3 ?_
  rw [rounds_succ]
  have HF0 := Aside1.mk (HFs.out.alloc (.cells #[.pointer none] 30))
  have H8 := Aside1.mk (heap_new W0 (.cells #[.pointer none] 30))
  go_wp2_with (first | ((try (refine gate_on (by rfl) ?_; dsimp only)); refine wpList_load_row rfl 30 _ rfl _ rfl 30 #[.pointer none] (0, 0) _ H8.out Tryz.underlying30 rfl i30 ?_) | (refine wpList_load_row rfl 25 _ rfl _ rfl 25 #[.slice A kn kc, a1, a2, a3] (0, 0) _ HF0.out.x Tryz.underlying25 rfl i25 ?_))
  refine (start_calls _ none _ _ #[.slice A kn kc, a1, a2, a3] id (.inl rfl)).mono ?_
  rintro e u1 ⟨rfl, b⟩
  have HF1 := Aside1.mk (HF0.out.step b)
  replace H8 := Aside1.mk (on H8.out b)
  clear b HF0
  have x0 : u1.cell? ⟨w.heap.size, 0, none⟩ = some (.slice A kn kc) := by rw [cell_of_row u1 _ 0 _ 25 (0, 0) HF1.out.x]; rfl
  go_wp2_with (first | ((try (refine gate_on (by rfl) ?_; dsimp only)); refine wpList_load_row rfl 30 _ rfl _ rfl 30 #[.pointer none] (0, 0) _ H8.out Tryz.underlying30 rfl i30 ?_) | (refine wpList_load_row rfl 25 _ rfl _ rfl 25 #[.slice A kn kc, a1, a2, a3] (0, 0) _ HF1.out.x Tryz.underlying25 rfl i25 ?_))
  refine (part_calls _ none _ _ id id A kn kc (.inl rfl)).mono ?_
  rintro e u2 ⟨rfl, b⟩
  have HF2 := Aside1.mk (HF1.out.step b)
  replace H8 := Aside1.mk (on H8.out b)
  clear b HF1
  clear x0
  go_wp2_with (first | ((try (refine gate_on (by rfl) ?_; dsimp only)); refine wpList_load_row rfl 30 _ rfl _ rfl 30 #[.pointer none] (0, 0) _ H8.out Tryz.underlying30 rfl i30 ?_) | (refine wpList_load_row rfl 25 _ rfl _ rfl 25 #[.slice A kn kc, a1, a2, a3] (0, 0) _ HF2.out.x Tryz.underlying25 rfl i25 ?_))
  refine (pieces_calls _ none _ _ _ (.inl rfl)).mono ?_
  rintro e u3 ⟨rfl, b⟩
  have HF3 := Aside1.mk (HF2.out.step b)
  replace H8 := Aside1.mk (on H8.out b)
  clear b HF2
  go_wp2_with (first | ((try (refine gate_on (by rfl) ?_; dsimp only)); refine wpList_load_row rfl 30 _ rfl _ rfl 30 #[.pointer none] (0, 0) _ H8.out Tryz.underlying30 rfl i30 ?_) | (refine wpList_load_row rfl 25 _ rfl _ rfl 25 #[.slice A kn kc, a1, a2, a3] (0, 0) _ HF3.out.x Tryz.underlying25 rfl i25 ?_))
  refine (pending_calls _ none _ (.inl rfl)).mono ?_
  rintro e u4 ⟨rfl, b⟩
  have HF4 := Aside1.mk (HF3.out.step b)
  replace H8 := Aside1.mk (on H8.out b)
  clear b HF3
  go_wp2_with (first | ((try (refine gate_on (by rfl) ?_; dsimp only)); refine wpList_load_row rfl 30 _ rfl _ rfl 30 #[.pointer none] (0, 0) _ H8.out Tryz.underlying30 rfl i30 ?_) | (refine wpList_load_row rfl 25 _ rfl _ rfl 25 #[.slice A kn kc, a1, a2, a3] (0, 0) _ HF4.out.x Tryz.underlying25 rfl i25 ?_))
  refine (complete_calls _ none _ _ id id (.inl rfl)).mono ?_
  rintro e u5 ⟨rfl, b⟩
  have HF5 := Aside1.mk (HF4.out.step b)
  replace H8 := Aside1.mk (on H8.out b)
  clear b HF4
  have g9 := heap_new u5 (.cells Z47 47)
  have HF6 := Aside1.mk (HF5.out.alloc (.cells Z47 47))
  replace H8 := Aside1.mk (onAlloc H8.out (.cells Z47 47))
  clear HF5
  have y0 : (u5.alloc (.cells Z47 47)).cell? ⟨u5.heap.size, 0, none⟩ = some (.int .i64 0) := by rw [cell_of_row _ _ 0 _ 47 (0, 0) g9]; rfl
  go_wp2_with (first | (refine wpList_store_same rfl 47 _ _ rfl _ Z47 rfl rfl 47 g9 i47 a47 ?_) | (first | ((try (refine gate_on (by rfl) ?_; dsimp only)); refine wpList_load_row rfl 30 _ rfl _ rfl 30 #[.pointer none] (0, 0) _ H8.out Tryz.underlying30 rfl i30 ?_) | (refine wpList_load_row rfl 25 _ rfl _ rfl 25 #[.slice A kn kc, a1, a2, a3] (0, 0) _ HF6.out.x Tryz.underlying25 rfl i25 ?_)))
  refine (cancel_calls _ none _ _ id (.inl rfl)).mono ?_
  rintro e u7 ⟨rfl, b⟩
  have HF7 := Aside1.mk (HF6.out.step b)
  clear b HF6 H8 g9 y0
  go_wp2_with fail
  rw [rounds_succ]
  have l0 : u7.cell? ⟨w.heap.size + 1 + 1, 1, none⟩ = some (.pointer (some ⟨w.heap.size + 1, 0, none⟩)) := by rw [cell_of_row u7 _ 1 _ 30 (0, 0) HF7.out.l]; rfl
  have HFp := HF7
  clear HF7
  have HF0 := Aside1.mk (HFp.out.alloc (.cells #[.pointer (some ⟨w.heap.size + 1, 0, none⟩)] 30))
  have H8 := Aside1.mk (heap_new u7 (.cells #[.pointer (some ⟨w.heap.size + 1, 0, none⟩)] 30))
  go_wp2_with (first | ((try (refine gate_on (by rfl) ?_; dsimp only)); refine wpList_load_row rfl 30 _ rfl _ rfl 30 #[.pointer (some ⟨w.heap.size + 1, 0, none⟩)] (0, 0) _ H8.out Tryz.underlying30 rfl i30 ?_) | (refine wpList_load_row rfl 25 _ rfl _ rfl 25 #[.slice A kn kc, a1, a2, a3] (0, 0) _ HF0.out.x Tryz.underlying25 rfl i25 ?_))
  refine (start_calls _ (some ⟨w.heap.size + 1, 0, none⟩) _ _ #[.slice A kn kc, a1, a2, a3] id HF0.out.sets).mono ?_
  rintro e u1 ⟨rfl, b⟩
  have HF1 := Aside1.mk (HF0.out.step b)
  replace H8 := Aside1.mk (on H8.out b)
  clear b HF0
  have x0 : u1.cell? ⟨w.heap.size, 0, none⟩ = some (.slice A kn kc) := by rw [cell_of_row u1 _ 0 _ 25 (0, 0) HF1.out.x]; rfl
  go_wp2_with (first | ((try (refine gate_on (by rfl) ?_; dsimp only)); refine wpList_load_row rfl 30 _ rfl _ rfl 30 #[.pointer (some ⟨w.heap.size + 1, 0, none⟩)] (0, 0) _ H8.out Tryz.underlying30 rfl i30 ?_) | (refine wpList_load_row rfl 25 _ rfl _ rfl 25 #[.slice A kn kc, a1, a2, a3] (0, 0) _ HF1.out.x Tryz.underlying25 rfl i25 ?_))
  refine (part_calls _ (some ⟨w.heap.size + 1, 0, none⟩) _ _ id id A kn kc HF1.out.sets).mono ?_
  rintro e u2 ⟨rfl, b⟩
  have HF2 := Aside1.mk (HF1.out.step b)
  replace H8 := Aside1.mk (on H8.out b)
  clear b HF1
  clear x0
  go_wp2_with (first | ((try (refine gate_on (by rfl) ?_; dsimp only)); refine wpList_load_row rfl 30 _ rfl _ rfl 30 #[.pointer (some ⟨w.heap.size + 1, 0, none⟩)] (0, 0) _ H8.out Tryz.underlying30 rfl i30 ?_) | (refine wpList_load_row rfl 25 _ rfl _ rfl 25 #[.slice A kn kc, a1, a2, a3] (0, 0) _ HF2.out.x Tryz.underlying25 rfl i25 ?_))
  refine (pieces_calls _ (some ⟨w.heap.size + 1, 0, none⟩) _ _ _ HF2.out.sets).mono ?_
  rintro e u3 ⟨rfl, b⟩
  have HF3 := Aside1.mk (HF2.out.step b)
  replace H8 := Aside1.mk (on H8.out b)
  clear b HF2
  go_wp2_with (first | ((try (refine gate_on (by rfl) ?_; dsimp only)); refine wpList_load_row rfl 30 _ rfl _ rfl 30 #[.pointer (some ⟨w.heap.size + 1, 0, none⟩)] (0, 0) _ H8.out Tryz.underlying30 rfl i30 ?_) | (refine wpList_load_row rfl 25 _ rfl _ rfl 25 #[.slice A kn kc, a1, a2, a3] (0, 0) _ HF3.out.x Tryz.underlying25 rfl i25 ?_))
  refine (pending_calls _ (some ⟨w.heap.size + 1, 0, none⟩) _ HF3.out.sets).mono ?_
  rintro e u4 ⟨rfl, b⟩
  have HF4 := Aside1.mk (HF3.out.step b)
  replace H8 := Aside1.mk (on H8.out b)
  clear b HF3
  go_wp2_with (first | ((try (refine gate_on (by rfl) ?_; dsimp only)); refine wpList_load_row rfl 30 _ rfl _ rfl 30 #[.pointer (some ⟨w.heap.size + 1, 0, none⟩)] (0, 0) _ H8.out Tryz.underlying30 rfl i30 ?_) | (refine wpList_load_row rfl 25 _ rfl _ rfl 25 #[.slice A kn kc, a1, a2, a3] (0, 0) _ HF4.out.x Tryz.underlying25 rfl i25 ?_))
  refine (complete_calls _ (some ⟨w.heap.size + 1, 0, none⟩) _ _ id id HF4.out.sets).mono ?_
  rintro e u5 ⟨rfl, b⟩
  have HF5 := Aside1.mk (HF4.out.step b)
  replace H8 := Aside1.mk (on H8.out b)
  clear b HF4
  have g9 := heap_new u5 (.cells Z47 47)
  have HF6 := Aside1.mk (HF5.out.alloc (.cells Z47 47))
  replace H8 := Aside1.mk (onAlloc H8.out (.cells Z47 47))
  clear HF5
  have y0 : (u5.alloc (.cells Z47 47)).cell? ⟨u5.heap.size, 0, none⟩ = some (.int .i64 0) := by rw [cell_of_row _ _ 0 _ 47 (0, 0) g9]; rfl
  go_wp2_with (first | (refine wpList_store_same rfl 47 _ _ rfl _ Z47 rfl rfl 47 g9 i47 a47 ?_) | (first | ((try (refine gate_on (by rfl) ?_; dsimp only)); refine wpList_load_row rfl 30 _ rfl _ rfl 30 #[.pointer (some ⟨w.heap.size + 1, 0, none⟩)] (0, 0) _ H8.out Tryz.underlying30 rfl i30 ?_) | (refine wpList_load_row rfl 25 _ rfl _ rfl 25 #[.slice A kn kc, a1, a2, a3] (0, 0) _ HF6.out.x Tryz.underlying25 rfl i25 ?_)))
  refine (cancel_calls _ (some ⟨w.heap.size + 1, 0, none⟩) _ _ id HF6.out.sets).mono ?_
  rintro e u7 ⟨rfl, b⟩
  have HF7 := Aside1.mk (HF6.out.step b)
  clear b HF6 H8 g9 y0
  go_wp2_with fail
  rw [rounds_succ]
  go_wp2_with fail
  refine (UpD.right_calls _).mono ?_
  rintro e u8 ⟨rfl, b⟩
  have HB := Aside1.mk (HF7.out.b.trans (b.mono HF7.out.b.size))
  clear b HF7
  go_wp2
  go_ret
  exact ⟨rfl, HB.out⟩

set_option maxRecDepth 100000 in
set_option maxHeartbeats 4000000 in
theorem law_great (s : ByteArray) (A : Option Addr) (kn kc : Nat) (a1 a2 a3 : Value) (id : Int) (hg : 100 < s.size) (hg2 : s.size ≤ 140737488351232) (w : World) :
    Calls Tryz.prog 3 #[.string s, .agg #[.slice A kn kc, a1, a2, a3], .int .i64 id] w fun e w' => e = .returned (.bool true) ∧ Below w.heap.size w w' := by
  obtain ⟨ds, hds⟩ : ∃ ds : Array Value, ds = #[.slice A kn kc, a1, a2, a3] := ⟨_, rfl⟩
  have HFs := Aside1.mk (F.start w #[.slice A kn kc, a1, a2, a3])
  subst hds
  go_enter Tryz.func3, Tryz.ntmps3
  go_wp2_with fail
  generalize (((w.alloc (.cells #[.slice A kn kc, a1, a2, a3] 25)).alloc (.cells #[.pointer none] 33)).alloc (.cells #[.pointer none, .pointer (some ⟨w.heap.size + 1, 0, none⟩)] 30)) = W0 at *
  have l0 : W0.cell? ⟨w.heap.size + 1 + 1, 0, none⟩ = some (.pointer none) := by rw [cell_of_row W0 _ 0 _ 30 (0, 0) HFs.out.l]; rfl
  refine wp_loop_rounds 3 ?_
  rw [rounds_succ]
  have HF0 := Aside1.mk (HFs.out.alloc (.cells #[.pointer none] 30))
  have H8 := Aside1.mk (heap_new W0 (.cells #[.pointer none] 30))
  go_wp2_with (first | ((try (refine gate_on (by rfl) ?_; dsimp only)); refine wpList_load_row rfl 30 _ rfl _ rfl 30 #[.pointer none] (0, 0) _ H8.out Tryz.underlying30 rfl i30 ?_) | (refine wpList_load_row rfl 25 _ rfl _ rfl 25 #[.slice A kn kc, a1, a2, a3] (0, 0) _ HF0.out.x Tryz.underlying25 rfl i25 ?_))
  refine (start_calls _ none _ _ #[.slice A kn kc, a1, a2, a3] id (.inl rfl)).mono ?_
  rintro e u1 ⟨rfl, b⟩
  have HF1 := Aside1.mk (HF0.out.step b)
  replace H8 := Aside1.mk (on H8.out b)
  clear b HF0
  have x0 : u1.cell? ⟨w.heap.size, 0, none⟩ = some (.slice A kn kc) := by rw [cell_of_row u1 _ 0 _ 25 (0, 0) HF1.out.x]; rfl
  go_wp2_with (first | ((try (refine gate_on (by rfl) ?_; dsimp only)); refine wpList_load_row rfl 30 _ rfl _ rfl 30 #[.pointer none] (0, 0) _ H8.out Tryz.underlying30 rfl i30 ?_) | (refine wpList_load_row rfl 25 _ rfl _ rfl 25 #[.slice A kn kc, a1, a2, a3] (0, 0) _ HF1.out.x Tryz.underlying25 rfl i25 ?_))
  refine (part_calls _ none _ _ id id A kn kc (.inl rfl)).mono ?_
  rintro e u2 ⟨rfl, b⟩
  have HF2 := Aside1.mk (HF1.out.step b)
  replace H8 := Aside1.mk (on H8.out b)
  clear b HF1
  clear x0
  go_wp2_with (first | ((try (refine gate_on (by rfl) ?_; dsimp only)); refine wpList_load_row rfl 30 _ rfl _ rfl 30 #[.pointer none] (0, 0) _ H8.out Tryz.underlying30 rfl i30 ?_) | (refine wpList_load_row rfl 25 _ rfl _ rfl 25 #[.slice A kn kc, a1, a2, a3] (0, 0) _ HF2.out.x Tryz.underlying25 rfl i25 ?_))
  refine (pieces_calls _ none _ _ _ (.inl rfl)).mono ?_
  rintro e u3 ⟨rfl, b⟩
  have HF3 := Aside1.mk (HF2.out.step b)
  replace H8 := Aside1.mk (on H8.out b)
  clear b HF2
  go_wp2_with (first | ((try (refine gate_on (by rfl) ?_; dsimp only)); refine wpList_load_row rfl 30 _ rfl _ rfl 30 #[.pointer none] (0, 0) _ H8.out Tryz.underlying30 rfl i30 ?_) | (refine wpList_load_row rfl 25 _ rfl _ rfl 25 #[.slice A kn kc, a1, a2, a3] (0, 0) _ HF3.out.x Tryz.underlying25 rfl i25 ?_))
  refine (pending_calls _ none _ (.inl rfl)).mono ?_
  rintro e u4 ⟨rfl, b⟩
  have HF4 := Aside1.mk (HF3.out.step b)
  replace H8 := Aside1.mk (on H8.out b)
  clear b HF3
  go_wp2_with (first | ((try (refine gate_on (by rfl) ?_; dsimp only)); refine wpList_load_row rfl 30 _ rfl _ rfl 30 #[.pointer none] (0, 0) _ H8.out Tryz.underlying30 rfl i30 ?_) | (refine wpList_load_row rfl 25 _ rfl _ rfl 25 #[.slice A kn kc, a1, a2, a3] (0, 0) _ HF4.out.x Tryz.underlying25 rfl i25 ?_))
  refine (complete_calls _ none _ _ id id (.inl rfl)).mono ?_
  rintro e u5 ⟨rfl, b⟩
  have HF5 := Aside1.mk (HF4.out.step b)
  replace H8 := Aside1.mk (on H8.out b)
  clear b HF4
  have g9 := heap_new u5 (.cells Z47 47)
  have HF6 := Aside1.mk (HF5.out.alloc (.cells Z47 47))
  replace H8 := Aside1.mk (onAlloc H8.out (.cells Z47 47))
  clear HF5
  have y0 : (u5.alloc (.cells Z47 47)).cell? ⟨u5.heap.size, 0, none⟩ = some (.int .i64 0) := by rw [cell_of_row _ _ 0 _ 47 (0, 0) g9]; rfl
  go_wp2_with (first | (refine wpList_store_same rfl 47 _ _ rfl _ Z47 rfl rfl 47 g9 i47 a47 ?_) | (first | ((try (refine gate_on (by rfl) ?_; dsimp only)); refine wpList_load_row rfl 30 _ rfl _ rfl 30 #[.pointer none] (0, 0) _ H8.out Tryz.underlying30 rfl i30 ?_) | (refine wpList_load_row rfl 25 _ rfl _ rfl 25 #[.slice A kn kc, a1, a2, a3] (0, 0) _ HF6.out.x Tryz.underlying25 rfl i25 ?_)))
  refine (cancel_calls _ none _ _ id (.inl rfl)).mono ?_
  rintro e u7 ⟨rfl, b⟩
  have HF7 := Aside1.mk (HF6.out.step b)
  clear b HF6 H8 g9 y0
  go_wp2_with fail
  rw [rounds_succ]
  have l0 : u7.cell? ⟨w.heap.size + 1 + 1, 1, none⟩ = some (.pointer (some ⟨w.heap.size + 1, 0, none⟩)) := by rw [cell_of_row u7 _ 1 _ 30 (0, 0) HF7.out.l]; rfl
  have HFp := HF7
  clear HF7
  have HF0 := Aside1.mk (HFp.out.alloc (.cells #[.pointer (some ⟨w.heap.size + 1, 0, none⟩)] 30))
  have H8 := Aside1.mk (heap_new u7 (.cells #[.pointer (some ⟨w.heap.size + 1, 0, none⟩)] 30))
  go_wp2_with (first | ((try (refine gate_on (by rfl) ?_; dsimp only)); refine wpList_load_row rfl 30 _ rfl _ rfl 30 #[.pointer (some ⟨w.heap.size + 1, 0, none⟩)] (0, 0) _ H8.out Tryz.underlying30 rfl i30 ?_) | (refine wpList_load_row rfl 25 _ rfl _ rfl 25 #[.slice A kn kc, a1, a2, a3] (0, 0) _ HF0.out.x Tryz.underlying25 rfl i25 ?_))
  refine (start_calls _ (some ⟨w.heap.size + 1, 0, none⟩) _ _ #[.slice A kn kc, a1, a2, a3] id HF0.out.sets).mono ?_
  rintro e u1 ⟨rfl, b⟩
  have HF1 := Aside1.mk (HF0.out.step b)
  replace H8 := Aside1.mk (on H8.out b)
  clear b HF0
  have x0 : u1.cell? ⟨w.heap.size, 0, none⟩ = some (.slice A kn kc) := by rw [cell_of_row u1 _ 0 _ 25 (0, 0) HF1.out.x]; rfl
  go_wp2_with (first | ((try (refine gate_on (by rfl) ?_; dsimp only)); refine wpList_load_row rfl 30 _ rfl _ rfl 30 #[.pointer (some ⟨w.heap.size + 1, 0, none⟩)] (0, 0) _ H8.out Tryz.underlying30 rfl i30 ?_) | (refine wpList_load_row rfl 25 _ rfl _ rfl 25 #[.slice A kn kc, a1, a2, a3] (0, 0) _ HF1.out.x Tryz.underlying25 rfl i25 ?_))
  refine (part_calls _ (some ⟨w.heap.size + 1, 0, none⟩) _ _ id id A kn kc HF1.out.sets).mono ?_
  rintro e u2 ⟨rfl, b⟩
  have HF2 := Aside1.mk (HF1.out.step b)
  replace H8 := Aside1.mk (on H8.out b)
  clear b HF1
  clear x0
  go_wp2_with (first | ((try (refine gate_on (by rfl) ?_; dsimp only)); refine wpList_load_row rfl 30 _ rfl _ rfl 30 #[.pointer (some ⟨w.heap.size + 1, 0, none⟩)] (0, 0) _ H8.out Tryz.underlying30 rfl i30 ?_) | (refine wpList_load_row rfl 25 _ rfl _ rfl 25 #[.slice A kn kc, a1, a2, a3] (0, 0) _ HF2.out.x Tryz.underlying25 rfl i25 ?_))
  refine (pieces_calls _ (some ⟨w.heap.size + 1, 0, none⟩) _ _ _ HF2.out.sets).mono ?_
  rintro e u3 ⟨rfl, b⟩
  have HF3 := Aside1.mk (HF2.out.step b)
  replace H8 := Aside1.mk (on H8.out b)
  clear b HF2
  go_wp2_with (first | ((try (refine gate_on (by rfl) ?_; dsimp only)); refine wpList_load_row rfl 30 _ rfl _ rfl 30 #[.pointer (some ⟨w.heap.size + 1, 0, none⟩)] (0, 0) _ H8.out Tryz.underlying30 rfl i30 ?_) | (refine wpList_load_row rfl 25 _ rfl _ rfl 25 #[.slice A kn kc, a1, a2, a3] (0, 0) _ HF3.out.x Tryz.underlying25 rfl i25 ?_))
  refine (pending_calls _ (some ⟨w.heap.size + 1, 0, none⟩) _ HF3.out.sets).mono ?_
  rintro e u4 ⟨rfl, b⟩
  have HF4 := Aside1.mk (HF3.out.step b)
  replace H8 := Aside1.mk (on H8.out b)
  clear b HF3
  go_wp2_with (first | ((try (refine gate_on (by rfl) ?_; dsimp only)); refine wpList_load_row rfl 30 _ rfl _ rfl 30 #[.pointer (some ⟨w.heap.size + 1, 0, none⟩)] (0, 0) _ H8.out Tryz.underlying30 rfl i30 ?_) | (refine wpList_load_row rfl 25 _ rfl _ rfl 25 #[.slice A kn kc, a1, a2, a3] (0, 0) _ HF4.out.x Tryz.underlying25 rfl i25 ?_))
  refine (complete_calls _ (some ⟨w.heap.size + 1, 0, none⟩) _ _ id id HF4.out.sets).mono ?_
  rintro e u5 ⟨rfl, b⟩
  have HF5 := Aside1.mk (HF4.out.step b)
  replace H8 := Aside1.mk (on H8.out b)
  clear b HF4
  have g9 := heap_new u5 (.cells Z47 47)
  have HF6 := Aside1.mk (HF5.out.alloc (.cells Z47 47))
  replace H8 := Aside1.mk (onAlloc H8.out (.cells Z47 47))
  clear HF5
  have y0 : (u5.alloc (.cells Z47 47)).cell? ⟨u5.heap.size, 0, none⟩ = some (.int .i64 0) := by rw [cell_of_row _ _ 0 _ 47 (0, 0) g9]; rfl
  go_wp2_with (first | (refine wpList_store_same rfl 47 _ _ rfl _ Z47 rfl rfl 47 g9 i47 a47 ?_) | (first | ((try (refine gate_on (by rfl) ?_; dsimp only)); refine wpList_load_row rfl 30 _ rfl _ rfl 30 #[.pointer (some ⟨w.heap.size + 1, 0, none⟩)] (0, 0) _ H8.out Tryz.underlying30 rfl i30 ?_) | (refine wpList_load_row rfl 25 _ rfl _ rfl 25 #[.slice A kn kc, a1, a2, a3] (0, 0) _ HF6.out.x Tryz.underlying25 rfl i25 ?_)))
  refine (cancel_calls _ (some ⟨w.heap.size + 1, 0, none⟩) _ _ id HF6.out.sets).mono ?_
  rintro e u7 ⟨rfl, b⟩
  have HF7 := Aside1.mk (HF6.out.step b)
  clear b HF6 H8 g9 y0
  go_wp2_with fail
  rw [rounds_succ]
  go_wp2_with fail
  refine (UpD.right_calls _).mono ?_
  rintro e u8 ⟨rfl, b⟩
  have HB := Aside1.mk (HF7.out.b.trans (b.mono HF7.out.b.size))
  clear b HF7
  go_wp2
  go_ret
  exact ⟨rfl, HB.out⟩
end Go.Proofs.YtkemhdbnkpblpaaGreatDoor.UpN
