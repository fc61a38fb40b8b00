import Derived.Test.YtcdmmkmonhmckaaGreatCowA
namespace Go.Proofs.YtcdmmkmonhmckaaGreat.CowN
open Go.RowKit Go.Proofs.YtcdmmkmonhmckaaGreat.Agg Go.Proofs.YtcdmmkmonhmckaaGreat.CowA
set_option linter.unusedVariables false

/-- What the law's own first blocks hold, on and on. -/
structure F (w : World) (cs : Array Value) (W : World) : Prop where
  x : W.heap[w.heap.size]? = some (.cells cs 28 (0, 0))
  p : W.heap[w.heap.size + 1]? = some (.cells Z52 52 (0, 0))
  l : W.heap[w.heap.size + 1 + 1]? = some (.cells #[.pointer none, .pointer (some ⟨w.heap.size + 1, 0, none⟩)] 24 (0, 0))
  b : Below w.heap.size w W
  s : w.heap.size + 1 + 1 < W.heap.size
theorem F.step {w W W1 : World} {cs : Array Value} (h : F w cs W) (hb : Below W.heap.size W W1) : F w cs W1 :=
  ⟨keep hb h.x (by have := h.s; omega), keep hb h.p (by have := h.s; omega), keep hb h.l h.s, h.b.trans (hb.mono (by have := h.s; omega)), Nat.lt_of_lt_of_le h.s hb.size⟩
theorem F.alloc {w W : World} {cs : Array Value} (h : F w cs W) (o : Obj) : F w cs (W.alloc o) := h.step ((Below.refl _ _).alloc (Nat.le_refl _) _)
theorem F.start (w : World) (cs : Array Value) : F w cs (((w.alloc (.cells cs 28)).alloc (.cells Z52 52)).alloc (.cells #[.pointer none, .pointer (some ⟨w.heap.size + 1, 0, none⟩)] 24)) :=
  ⟨(heap_old _ _ _ (by simp; omega)).trans ((heap_old _ _ _ (by simp)).trans (heap_new w _)), (heap_old _ _ _ (by simp)).trans (by have := heap_new (w.alloc (.cells cs 28)) (.cells Z52 52); simpa using this), by have := heap_new ((w.alloc (.cells cs 28)).alloc (.cells Z52 52)) (.cells #[.pointer none, .pointer (some ⟨w.heap.size + 1, 0, none⟩)] 24); simpa using this,
   (((Below.refl _ _).alloc (Nat.le_refl _) _).alloc (by simp) _).alloc (by simp; omega) _, by simp⟩

theorem neq_z (W : World) : (binOp .neq 28 (.agg Z28) (.agg Z28)).run Tryz.prog W = .ok (.bool false) W := by kernel_rfl
theorem neq_zl (W : World) : (binOp .neq 28 (.agg Z28) (.agg #[.int .i64 0, .int .i64 0, .int .i64 0, .int .u32 0, .int .u8 0, .int .u8 0, .int .u8 0, .int .u8 0, .int .u8 0, .int .u8 0, .int .u8 0, .int .u8 0, .int .u8 0, .int .u8 0, .int .u8 0, .int .u8 0, .int .u8 0, .int .u8 0, .int .u8 0, .int .u8 0, .int .u8 0, .int .u8 0, .int .u8 0, .int .u8 0, .int .u8 0, .int .u8 0, .int .u8 0, .int .u8 0, .int .u8 0, .int .u8 0, .int .u8 0, .int .u8 0, .int .u8 0, .int .u8 0, .int .u8 0, .int .u8 0])).run Tryz.prog W = .ok (.bool false) W := by kernel_rfl

set_option maxRecDepth 100000 in
set_option maxHeartbeats 4000000 in
theorem law (cs : Array Value) (hcs : (Tryz.prog.info? 28).map (·.size) = some cs.size) (A : Option Addr) (n c : Nat) (w : World) :
    Calls Tryz.prog 4 #[.agg cs, .slice A n c] w fun e w' => e = .returned (.bool true) ∧ Below w.heap.size w w' := by
  have HF0 := Aside1.mk (F.start w cs)
  go_enter Tryz.func4, Tryz.ntmps4
  go_wp2_with fail
  refine wp_loop_rounds 3 ?_
  rw [rounds_succ]
  go_wp2_with fail
  refine (lay_calls _ none _ (.inl rfl)).mono ?_
  rintro e w1 ⟨rfl, b1⟩
  have HF1 := Aside1.mk (HF0.out.step b1)
  clear b1
  go_wp2_with (first | (refine wpList_store_same rfl 28 _ _ rfl _ Z28 rfl rfl 28 (heap_new _ _) i28 a28 ?_) | (refine wpList_store_same rfl 58 _ _ rfl _ Z58 rfl rfl 58 (heap_new _ _) i58 a58 ?_) | (refine wpList_load_row rfl 28 _ rfl _ rfl 28 cs (0, 0) _ (HF1.out.alloc _).x Tryz.underlying28 rfl hcs ?_) | (refine wpList_load_row rfl 58 _ rfl _ rfl 58 Z58 (0, 0) _ (heap_new _ _) Tryz.underlying58 rfl i58 ?_))
  refine (load_calls _ none cs (.inl rfl)).mono ?_
  rintro e w2 ⟨rfl, b2⟩
  have HF2 := Aside1.mk ((HF1.out.alloc _).step b2)
  have H7 := Aside1.mk (newOn _ b2)
  clear b2 HF1
  go_wp2_with (first | (refine wpList_store_same rfl 28 _ _ rfl _ Z28 rfl rfl 28 (heap_new _ _) i28 a28 ?_) | (refine wpList_store_same rfl 58 _ _ rfl _ Z58 rfl rfl 58 (heap_new _ _) i58 a58 ?_) | (refine wpList_load_row rfl 28 _ rfl _ rfl 28 cs (0, 0) _ (HF2.out.alloc _).x Tryz.underlying28 rfl hcs ?_) | (refine wpList_load_row rfl 58 _ rfl _ rfl 58 Z58 (0, 0) _ (heap_new _ _) Tryz.underlying58 rfl i58 ?_))
  refine (store_calls _ none Z58 (.inl rfl)).mono ?_
  rintro e w3 ⟨rfl, b3⟩
  have HF3 := Aside1.mk ((HF2.out.alloc _).step b3)
  have H9 := Aside1.mk (newOn _ b3)
  replace H7 := Aside1.mk (on (onAlloc H7.out _) b3)
  clear b3 HF2
  go_wp2_with (first | (refine wpList_store_same rfl 28 _ _ rfl _ Z28 rfl rfl 28 (heap_new _ _) i28 a28 ?_) | (refine wpList_store_same rfl 58 _ _ rfl _ Z58 rfl rfl 58 (heap_new _ _) i58 a58 ?_) | (refine wpList_load_row rfl 28 _ rfl _ rfl 28 cs (0, 0) _ (HF3.out.alloc _).x Tryz.underlying28 rfl hcs ?_) | (refine wpList_load_row rfl 58 _ rfl _ rfl 58 Z58 (0, 0) _ (heap_new _ _) Tryz.underlying58 rfl i58 ?_))
  refine (apply_calls _ none _ cs (.inl rfl)).mono ?_
  rintro e w4 ⟨rfl, b4⟩
  have HF4 := Aside1.mk ((HF3.out.alloc _).step b4)
  have H11 := Aside1.mk (newOn _ b4)
  replace H7 := Aside1.mk (on (onAlloc H7.out _) b4)
  replace H9 := Aside1.mk (on (onAlloc H9.out _) b4)
  clear b4 HF3
  go_wp2_with (first | (refine wpList_store_same rfl 28 _ _ rfl _ Z28 rfl rfl 28 (heap_new _ _) i28 a28 ?_) | (refine wpList_store_same rfl 58 _ _ rfl _ Z58 rfl rfl 58 (heap_new _ _) i58 a58 ?_) | (refine wpList_load_row rfl 28 _ rfl _ rfl 28 cs (0, 0) _ (HF4.out.alloc _).x Tryz.underlying28 rfl hcs ?_) | (refine wpList_load_row rfl 58 _ rfl _ rfl 58 Z58 (0, 0) _ (heap_new _ _) Tryz.underlying58 rfl i58 ?_))
  refine (get_calls _ none _ cs (.inl rfl)).mono ?_
  rintro e w5 ⟨rfl, b5⟩
  have HF5 := Aside1.mk ((HF4.out.alloc _).step b5)
  have H13 := Aside1.mk (newOn _ b5)
  replace H7 := Aside1.mk (on (onAlloc H7.out _) b5)
  replace H9 := Aside1.mk (on (onAlloc H9.out _) b5)
  replace H11 := Aside1.mk (on (onAlloc H11.out _) b5)
  clear b5 HF4
  have n1 := neq_z
  have n2 := neq_zl
  have y9 : w5.cell? ⟨w2.heap.size, 1, none⟩ = some (.slice none 0 0) := by rw [cell_of_row w5 _ 1 _ 58 (0, 0) H9.out]; rfl
  go_wp2_with (first | ((try (refine gate_on (by rfl) ?_; dsimp only)); refine wpList_load_row rfl 28 _ rfl _ rfl 28 cs (0, 0) _ HF5.out.x Tryz.underlying28 rfl hcs ?_) | ((try (refine gate_on (by rfl) ?_; dsimp only)); refine wpList_load_row rfl 28 _ rfl _ rfl 28 Z28 (0, 0) _ H7.out Tryz.underlying28 rfl i28 ?_) | ((try (refine gate_on (by rfl) ?_; dsimp only)); refine wpList_load_row rfl 28 _ rfl _ rfl 28 Z28 (0, 0) _ H11.out Tryz.underlying28 rfl i28 ?_) | ((try (refine gate_on (by rfl) ?_; dsimp only)); refine wpList_load_row rfl 28 _ rfl _ rfl 28 Z28 (0, 0) _ H13.out Tryz.underlying28 rfl i28 ?_))
  refine (kill_calls _ none cs (.inl rfl)).mono ?_
  rintro e wk ⟨rfl, b6⟩
  have HFp := Aside1.mk (HF5.out.step b6)
  clear b6 HF5 y9 n1 n2
  go_wp2_with fail
  clear H7 H9 H11 H13
  rw [rounds_succ]
  have l0 : wk.cell? ⟨w.heap.size + 1 + 1, 1, none⟩ = some (.pointer (some ⟨w.heap.size + 1, 0, none⟩)) := by rw [cell_of_row wk _ 1 _ 24 (0, 0) HFp.out.l]; rfl
  go_wp2_with fail
  refine (lay_calls _ (some ⟨w.heap.size + 1, 0, none⟩) _ (.inr ⟨_, rfl, HFp.out.p⟩)).mono ?_
  rintro e w1 ⟨rfl, b1⟩
  have HF1 := Aside1.mk (HFp.out.step b1)
  clear b1
  go_wp2_with (first | (refine wpList_store_same rfl 28 _ _ rfl _ Z28 rfl rfl 28 (heap_new _ _) i28 a28 ?_) | (refine wpList_store_same rfl 58 _ _ rfl _ Z58 rfl rfl 58 (heap_new _ _) i58 a58 ?_) | (refine wpList_load_row rfl 28 _ rfl _ rfl 28 cs (0, 0) _ (HF1.out.alloc _).x Tryz.underlying28 rfl hcs ?_) | (refine wpList_load_row rfl 58 _ rfl _ rfl 58 Z58 (0, 0) _ (heap_new _ _) Tryz.underlying58 rfl i58 ?_))
  refine (load_calls _ (some ⟨w.heap.size + 1, 0, none⟩) cs (.inr ⟨_, rfl, (HF1.out.alloc _).p⟩)).mono ?_
  rintro e w2 ⟨rfl, b2⟩
  have HF2 := Aside1.mk ((HF1.out.alloc _).step b2)
  have H7 := Aside1.mk (newOn _ b2)
  clear b2 HF1
  go_wp2_with (first | (refine wpList_store_same rfl 28 _ _ rfl _ Z28 rfl rfl 28 (heap_new _ _) i28 a28 ?_) | (refine wpList_store_same rfl 58 _ _ rfl _ Z58 rfl rfl 58 (heap_new _ _) i58 a58 ?_) | (refine wpList_load_row rfl 28 _ rfl _ rfl 28 cs (0, 0) _ (HF2.out.alloc _).x Tryz.underlying28 rfl hcs ?_) | (refine wpList_load_row rfl 58 _ rfl _ rfl 58 Z58 (0, 0) _ (heap_new _ _) Tryz.underlying58 rfl i58 ?_))
  refine (store_calls _ (some ⟨w.heap.size + 1, 0, none⟩) Z58 (.inr ⟨_, rfl, (HF2.out.alloc _).p⟩)).mono ?_
  rintro e w3 ⟨rfl, b3⟩
  have HF3 := Aside1.mk ((HF2.out.alloc _).step b3)
  have H9 := Aside1.mk (newOn _ b3)
  replace H7 := Aside1.mk (on (onAlloc H7.out _) b3)
  clear b3 HF2
  go_wp2_with (first | (refine wpList_store_same rfl 28 _ _ rfl _ Z28 rfl rfl 28 (heap_new _ _) i28 a28 ?_) | (refine wpList_store_same rfl 58 _ _ rfl _ Z58 rfl rfl 58 (heap_new _ _) i58 a58 ?_) | (refine wpList_load_row rfl 28 _ rfl _ rfl 28 cs (0, 0) _ (HF3.out.alloc _).x Tryz.underlying28 rfl hcs ?_) | (refine wpList_load_row rfl 58 _ rfl _ rfl 58 Z58 (0, 0) _ (heap_new _ _) Tryz.underlying58 rfl i58 ?_))
  refine (apply_calls _ (some ⟨w.heap.size + 1, 0, none⟩) _ cs (.inr ⟨_, rfl, (HF3.out.alloc _).p⟩)).mono ?_
  rintro e w4 ⟨rfl, b4⟩
  have HF4 := Aside1.mk ((HF3.out.alloc _).step b4)
  have H11 := Aside1.mk (newOn _ b4)
  replace H7 := Aside1.mk (on (onAlloc H7.out _) b4)
  replace H9 := Aside1.mk (on (onAlloc H9.out _) b4)
  clear b4 HF3
  go_wp2_with (first | (refine wpList_store_same rfl 28 _ _ rfl _ Z28 rfl rfl 28 (heap_new _ _) i28 a28 ?_) | (refine wpList_store_same rfl 58 _ _ rfl _ Z58 rfl rfl 58 (heap_new _ _) i58 a58 ?_) | (refine wpList_load_row rfl 28 _ rfl _ rfl 28 cs (0, 0) _ (HF4.out.alloc _).x Tryz.underlying28 rfl hcs ?_) | (refine wpList_load_row rfl 58 _ rfl _ rfl 58 Z58 (0, 0) _ (heap_new _ _) Tryz.underlying58 rfl i58 ?_))
  refine (get_calls _ (some ⟨w.heap.size + 1, 0, none⟩) _ cs (.inr ⟨_, rfl, (HF4.out.alloc _).p⟩)).mono ?_
  rintro e w5 ⟨rfl, b5⟩
  have HF5 := Aside1.mk ((HF4.out.alloc _).step b5)
  have H13 := Aside1.mk (newOn _ b5)
  replace H7 := Aside1.mk (on (onAlloc H7.out _) b5)
  replace H9 := Aside1.mk (on (onAlloc H9.out _) b5)
  replace H11 := Aside1.mk (on (onAlloc H11.out _) b5)
  clear b5 HF4
  have n1 := neq_z
  have n2 := neq_zl
  have y9 : w5.cell? ⟨w2.heap.size, 1, none⟩ = some (.slice none 0 0) := by rw [cell_of_row w5 _ 1 _ 58 (0, 0) H9.out]; rfl
  go_wp2_with (first | ((try (refine gate_on (by rfl) ?_; dsimp only)); refine wpList_load_row rfl 28 _ rfl _ rfl 28 cs (0, 0) _ HF5.out.x Tryz.underlying28 rfl hcs ?_) | ((try (refine gate_on (by rfl) ?_; dsimp only)); refine wpList_load_row rfl 28 _ rfl _ rfl 28 Z28 (0, 0) _ H7.out Tryz.underlying28 rfl i28 ?_) | ((try (refine gate_on (by rfl) ?_; dsimp only)); refine wpList_load_row rfl 28 _ rfl _ rfl 28 Z28 (0, 0) _ H11.out Tryz.underlying28 rfl i28 ?_) | ((try (refine gate_on (by rfl) ?_; dsimp only)); refine wpList_load_row rfl 28 _ rfl _ rfl 28 Z28 (0, 0) _ H13.out Tryz.underlying28 rfl i28 ?_))
  refine (kill_calls _ (some ⟨w.heap.size + 1, 0, none⟩) cs (.inr ⟨_, rfl, HF5.out.p⟩)).mono ?_
  rintro e wk ⟨rfl, b6⟩
  have HFp := Aside1.mk (HF5.out.step b6)
  clear b6 HF5 y9 n1 n2
  go_wp2_with fail
  rw [rounds_succ]
  go_wp2
  go_ret
  exact ⟨rfl, HFp.out.b⟩
end Go.Proofs.YtcdmmkmonhmckaaGreat.CowN
