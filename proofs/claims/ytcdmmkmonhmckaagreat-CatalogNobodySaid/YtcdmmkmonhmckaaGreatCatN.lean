import Derived.Test.YtcdmmkmonhmckaaGreatCatB
import Derived.Test.YtcdmmkmonhmckaaGreatCowN
namespace Go.Proofs.YtcdmmkmonhmckaaGreat.CatN
open Go.RowKit Go.Proofs.YtcdmmkmonhmckaaGreat.Agg Go.Proofs.YtcdmmkmonhmckaaGreat.CowA Go.Proofs.YtcdmmkmonhmckaaGreat.CatB
open Go.Proofs.YtcdmmkmonhmckaaGreat.CowN (F neq_z neq_zl)
set_option linter.unusedVariables false
set_option linter.unusedSimpArgs false

theorem neq94 (W : World) : (binOp .neq 94 (.agg Tryz.zeroCells94) (.agg Tryz.zeroCells94)).run Tryz.prog W = .ok (.bool false) W := by kernel_rfl


set_option maxRecDepth 100000 in
set_option maxHeartbeats 4000000 in
theorem law_small (cs : Array Value) (hcs : (Tryz.prog.info? 28).map (·.size) = some cs.size) (id : Int) (s : ByteArray) (hs : s.size ≤ 200) (w : World) :
    Calls Tryz.prog 7 #[.agg cs, .int .i64 id, .string s] w fun e w' => e = .returned (.bool true) ∧ Below w.heap.size w w' := by
  have h36 : cs.size = 36 := by have := hcs.symm.trans i28; simpa [Z28] using this
  have HF0 := Aside1.mk (F.start w cs)
  go_enter Tryz.func7, Tryz.ntmps7
  go_wp2_with fail
  refine wp_loop_rounds 3 ?_
  rw [rounds_succ]
  go_wp2_with (refine wpList_load_row rfl 28 _ rfl _ rfl 28 cs (0, 0) _ HF0.out.x Tryz.underlying28 rfl hcs ?_)
  refine (load_calls _ none id cs h36 (.inl rfl)).mono ?_
  rintro e w1 ⟨rfl, b1⟩
  have HF1 := Aside1.mk (HF0.out.step b1)
  clear b1
  go_wp2_with (first | (refine wpList_store_same rfl 28 _ _ rfl _ Z28 rfl rfl 28 (heap_new _ _) i28 a28 ?_) | (refine wpList_store_same rfl 94 _ _ rfl _ Tryz.zeroCells94 rfl rfl 94 (heap_new _ _) i94 a94 ?_) | (refine wpList_load_row rfl 28 _ rfl _ rfl 28 cs (0, 0) _ (HF1.out.alloc _).x Tryz.underlying28 rfl hcs ?_))
  refine (find_calls _ none id s hs cs h36 (.inl rfl)).mono ?_
  rintro e w2 ⟨rfl, b2⟩
  have HF2 := Aside1.mk ((HF1.out.alloc _).step b2)
  have H9 := Aside1.mk (newOn _ b2)
  clear b2 HF1
  go_wp2_with (first | (refine wpList_store_same rfl 28 _ _ rfl _ Z28 rfl rfl 28 (heap_new _ _) i28 a28 ?_) | (refine wpList_store_same rfl 94 _ _ rfl _ Tryz.zeroCells94 rfl rfl 94 (heap_new _ _) i94 a94 ?_) | (refine wpList_load_row rfl 28 _ rfl _ rfl 28 cs (0, 0) _ HF2.out.x Tryz.underlying28 rfl hcs ?_))
  refine (save_calls _ none _ cs h36 (.inl rfl)).mono ?_
  rintro e w3 ⟨rfl, b3⟩
  have HF3 := Aside1.mk (HF2.out.step b3)
  replace H9 := Aside1.mk (on H9.out b3)
  clear b3 HF2
  have G9 := Aside1.mk (onAlloc H9.out (.cells Z28 28))
  go_wp2_with (first | (refine wpList_load_row rfl 94 _ rfl _ rfl 94 Tryz.zeroCells94 (0, 0) _ G9.out Tryz.underlying94 rfl i94 ?_) | (first | (refine wpList_store_same rfl 28 _ _ rfl _ Z28 rfl rfl 28 (heap_new _ _) i28 a28 ?_) | (refine wpList_store_same rfl 94 _ _ rfl _ Tryz.zeroCells94 rfl rfl 94 (heap_new _ _) i94 a94 ?_) | (refine wpList_load_row rfl 28 _ rfl _ rfl 28 cs (0, 0) _ (HF3.out.alloc _).x Tryz.underlying28 rfl hcs ?_)))
  refine (remove_calls _ none cs h36 (.inl rfl)).mono ?_
  rintro e w4 ⟨rfl, b4⟩
  have HF4 := Aside1.mk ((HF3.out.alloc _).step b4)
  have H13 := Aside1.mk (newOn _ b4)
  replace H9 := Aside1.mk (on G9.out b4)
  clear b4 HF3 G9
  go_wp2_with (first | (refine wpList_store_same rfl 28 _ _ rfl _ Z28 rfl rfl 28 (heap_new _ _) i28 a28 ?_) | (refine wpList_store_same rfl 94 _ _ rfl _ Tryz.zeroCells94 rfl rfl 94 (heap_new _ _) i94 a94 ?_) | (refine wpList_load_row rfl 28 _ rfl _ rfl 28 cs (0, 0) _ (HF4.out.alloc _).x Tryz.underlying28 rfl hcs ?_))
  refine (list_calls _ none cs h36 (.inl rfl)).mono ?_
  rintro e w5 ⟨rfl, b5⟩
  have HF5 := Aside1.mk ((HF4.out.alloc _).step b5)
  have H15 := Aside1.mk (newOn _ b5)
  replace H13 := Aside1.mk (on (onAlloc H13.out _) b5)
  replace H9 := Aside1.mk (on (onAlloc H9.out _) b5)
  clear b5 HF4
  have n1 := neq_z
  have n2 := neq_zl
  have n3 := neq94
  go_wp2_with (first | ((try (refine gate_on (by rfl) ?_; dsimp only)); refine wpList_load_row rfl 94 _ rfl _ rfl 94 Tryz.zeroCells94 (0, 0) _ H9.out Tryz.underlying94 rfl i94 ?_) | ((try (refine gate_on (by rfl) ?_; dsimp only)); refine wpList_load_row rfl 28 _ rfl _ rfl 28 Z28 (0, 0) _ H13.out Tryz.underlying28 rfl i28 ?_) | ((try (refine gate_on (by rfl) ?_; dsimp only)); refine wpList_load_row rfl 28 _ rfl _ rfl 28 Z28 (0, 0) _ H15.out Tryz.underlying28 rfl i28 ?_))
  clear H9 H13 H15 n1 n2 n3
  rw [rounds_succ]
  have l0 : w5.cell? ⟨w.heap.size + 1 + 1, 1, none⟩ = some (.pointer (some ⟨w.heap.size + 1, 0, none⟩)) := by rw [cell_of_row w5 _ 1 _ 24 (0, 0) HF5.out.l]; rfl
  have HFp := HF5
  clear HF5
  go_wp2_with (refine wpList_load_row rfl 28 _ rfl _ rfl 28 cs (0, 0) _ HFp.out.x Tryz.underlying28 rfl hcs ?_)
  refine (load_calls _ (some ⟨w.heap.size + 1, 0, none⟩) id cs h36 (.inr ⟨_, rfl, HFp.out.p⟩)).mono ?_
  rintro e w1 ⟨rfl, b1⟩
  have HF1 := Aside1.mk (HFp.out.step b1)
  clear b1
  go_wp2_with (first | (refine wpList_store_same rfl 28 _ _ rfl _ Z28 rfl rfl 28 (heap_new _ _) i28 a28 ?_) | (refine wpList_store_same rfl 94 _ _ rfl _ Tryz.zeroCells94 rfl rfl 94 (heap_new _ _) i94 a94 ?_) | (refine wpList_load_row rfl 28 _ rfl _ rfl 28 cs (0, 0) _ (HF1.out.alloc _).x Tryz.underlying28 rfl hcs ?_))
  refine (find_calls _ (some ⟨w.heap.size + 1, 0, none⟩) id s hs cs h36 (.inr ⟨_, rfl, (HF1.out.alloc _).p⟩)).mono ?_
  rintro e w2 ⟨rfl, b2⟩
  have HF2 := Aside1.mk ((HF1.out.alloc _).step b2)
  have H9 := Aside1.mk (newOn _ b2)
  clear b2 HF1
  go_wp2_with (first | (refine wpList_store_same rfl 28 _ _ rfl _ Z28 rfl rfl 28 (heap_new _ _) i28 a28 ?_) | (refine wpList_store_same rfl 94 _ _ rfl _ Tryz.zeroCells94 rfl rfl 94 (heap_new _ _) i94 a94 ?_) | (refine wpList_load_row rfl 28 _ rfl _ rfl 28 cs (0, 0) _ HF2.out.x Tryz.underlying28 rfl hcs ?_))
  refine (save_calls _ (some ⟨w.heap.size + 1, 0, none⟩) _ cs h36 (.inr ⟨_, rfl, HF2.out.p⟩)).mono ?_
  rintro e w3 ⟨rfl, b3⟩
  have HF3 := Aside1.mk (HF2.out.step b3)
  replace H9 := Aside1.mk (on H9.out b3)
  clear b3 HF2
  have G9 := Aside1.mk (onAlloc H9.out (.cells Z28 28))
  go_wp2_with (first | (refine wpList_load_row rfl 94 _ rfl _ rfl 94 Tryz.zeroCells94 (0, 0) _ G9.out Tryz.underlying94 rfl i94 ?_) | (first | (refine wpList_store_same rfl 28 _ _ rfl _ Z28 rfl rfl 28 (heap_new _ _) i28 a28 ?_) | (refine wpList_store_same rfl 94 _ _ rfl _ Tryz.zeroCells94 rfl rfl 94 (heap_new _ _) i94 a94 ?_) | (refine wpList_load_row rfl 28 _ rfl _ rfl 28 cs (0, 0) _ (HF3.out.alloc _).x Tryz.underlying28 rfl hcs ?_)))
  refine (remove_calls _ (some ⟨w.heap.size + 1, 0, none⟩) cs h36 (.inr ⟨_, rfl, (HF3.out.alloc _).p⟩)).mono ?_
  rintro e w4 ⟨rfl, b4⟩
  have HF4 := Aside1.mk ((HF3.out.alloc _).step b4)
  have H13 := Aside1.mk (newOn _ b4)
  replace H9 := Aside1.mk (on G9.out b4)
  clear b4 HF3 G9
  go_wp2_with (first | (refine wpList_store_same rfl 28 _ _ rfl _ Z28 rfl rfl 28 (heap_new _ _) i28 a28 ?_) | (refine wpList_store_same rfl 94 _ _ rfl _ Tryz.zeroCells94 rfl rfl 94 (heap_new _ _) i94 a94 ?_) | (refine wpList_load_row rfl 28 _ rfl _ rfl 28 cs (0, 0) _ (HF4.out.alloc _).x Tryz.underlying28 rfl hcs ?_))
  refine (list_calls _ (some ⟨w.heap.size + 1, 0, none⟩) cs h36 (.inr ⟨_, rfl, (HF4.out.alloc _).p⟩)).mono ?_
  rintro e w5 ⟨rfl, b5⟩
  have HF5 := Aside1.mk ((HF4.out.alloc _).step b5)
  have H15 := Aside1.mk (newOn _ b5)
  replace H13 := Aside1.mk (on (onAlloc H13.out _) b5)
  replace H9 := Aside1.mk (on (onAlloc H9.out _) b5)
  clear b5 HF4
  have n1 := neq_z
  have n2 := neq_zl
  have n3 := neq94
  go_wp2_with (first | ((try (refine gate_on (by rfl) ?_; dsimp only)); refine wpList_load_row rfl 94 _ rfl _ rfl 94 Tryz.zeroCells94 (0, 0) _ H9.out Tryz.underlying94 rfl i94 ?_) | ((try (refine gate_on (by rfl) ?_; dsimp only)); refine wpList_load_row rfl 28 _ rfl _ rfl 28 Z28 (0, 0) _ H13.out Tryz.underlying28 rfl i28 ?_) | ((try (refine gate_on (by rfl) ?_; dsimp only)); refine wpList_load_row rfl 28 _ rfl _ rfl 28 Z28 (0, 0) _ H15.out Tryz.underlying28 rfl i28 ?_))
  clear H9 H13 H15 n1 n2 n3
  rw [rounds_succ]
  go_wp2
  go_ret
  exact ⟨rfl, HF5.out.b⟩

set_option maxRecDepth 100000 in
set_option maxHeartbeats 4000000 in
theorem law_great (cs : Array Value) (hcs : (Tryz.prog.info? 28).map (·.size) = some cs.size) (id : Int) (s : ByteArray) (hg : 200 < s.size) (hg2 : s.size ≤ 140737488351232) (w : World) :
    Calls Tryz.prog 7 #[.agg cs, .int .i64 id, .string s] w fun e w' => e = .returned (.bool true) ∧ Below w.heap.size w w' := by
  have h36 : cs.size = 36 := by have := hcs.symm.trans i28; simpa [Z28] using this
  have HF0 := Aside1.mk (F.start w cs)
  have hs : (s.extract 0 200).size ≤ 200 := by simp; omega
  go_enter Tryz.func7, Tryz.ntmps7
  go_wp2_with fail
  refine wp_loop_rounds 3 ?_
  rw [rounds_succ]
  go_wp2_with (refine wpList_load_row rfl 28 _ rfl _ rfl 28 cs (0, 0) _ HF0.out.x Tryz.underlying28 rfl hcs ?_)
  refine (load_calls _ none id cs h36 (.inl rfl)).mono ?_
  rintro e w1 ⟨rfl, b1⟩
  have HF1 := Aside1.mk (HF0.out.step b1)
  clear b1
  go_wp2_with (first | (refine wpList_store_same rfl 28 _ _ rfl _ Z28 rfl rfl 28 (heap_new _ _) i28 a28 ?_) | (refine wpList_store_same rfl 94 _ _ rfl _ Tryz.zeroCells94 rfl rfl 94 (heap_new _ _) i94 a94 ?_) | (refine wpList_load_row rfl 28 _ rfl _ rfl 28 cs (0, 0) _ (HF1.out.alloc _).x Tryz.underlying28 rfl hcs ?_))
  refine (find_calls _ none id (s.extract 0 200) hs cs h36 (.inl rfl)).mono ?_
  rintro e w2 ⟨rfl, b2⟩
  have HF2 := Aside1.mk ((HF1.out.alloc _).step b2)
  have H9 := Aside1.mk (newOn _ b2)
  clear b2 HF1
  go_wp2_with (first | (refine wpList_store_same rfl 28 _ _ rfl _ Z28 rfl rfl 28 (heap_new _ _) i28 a28 ?_) | (refine wpList_store_same rfl 94 _ _ rfl _ Tryz.zeroCells94 rfl rfl 94 (heap_new _ _) i94 a94 ?_) | (refine wpList_load_row rfl 28 _ rfl _ rfl 28 cs (0, 0) _ HF2.out.x Tryz.underlying28 rfl hcs ?_))
  refine (save_calls _ none _ cs h36 (.inl rfl)).mono ?_
  rintro e w3 ⟨rfl, b3⟩
  have HF3 := Aside1.mk (HF2.out.step b3)
  replace H9 := Aside1.mk (on H9.out b3)
  clear b3 HF2
  have G9 := Aside1.mk (onAlloc H9.out (.cells Z28 28))
  go_wp2_with (first | (refine wpList_load_row rfl 94 _ rfl _ rfl 94 Tryz.zeroCells94 (0, 0) _ G9.out Tryz.underlying94 rfl i94 ?_) | (first | (refine wpList_store_same rfl 28 _ _ rfl _ Z28 rfl rfl 28 (heap_new _ _) i28 a28 ?_) | (refine wpList_store_same rfl 94 _ _ rfl _ Tryz.zeroCells94 rfl rfl 94 (heap_new _ _) i94 a94 ?_) | (refine wpList_load_row rfl 28 _ rfl _ rfl 28 cs (0, 0) _ (HF3.out.alloc _).x Tryz.underlying28 rfl hcs ?_)))
  refine (remove_calls _ none cs h36 (.inl rfl)).mono ?_
  rintro e w4 ⟨rfl, b4⟩
  have HF4 := Aside1.mk ((HF3.out.alloc _).step b4)
  have H13 := Aside1.mk (newOn _ b4)
  replace H9 := Aside1.mk (on G9.out b4)
  clear b4 HF3 G9
  go_wp2_with (first | (refine wpList_store_same rfl 28 _ _ rfl _ Z28 rfl rfl 28 (heap_new _ _) i28 a28 ?_) | (refine wpList_store_same rfl 94 _ _ rfl _ Tryz.zeroCells94 rfl rfl 94 (heap_new _ _) i94 a94 ?_) | (refine wpList_load_row rfl 28 _ rfl _ rfl 28 cs (0, 0) _ (HF4.out.alloc _).x Tryz.underlying28 rfl hcs ?_))
  refine (list_calls _ none cs h36 (.inl rfl)).mono ?_
  rintro e w5 ⟨rfl, b5⟩
  have HF5 := Aside1.mk ((HF4.out.alloc _).step b5)
  have H15 := Aside1.mk (newOn _ b5)
  replace H13 := Aside1.mk (on (onAlloc H13.out _) b5)
  replace H9 := Aside1.mk (on (onAlloc H9.out _) b5)
  clear b5 HF4
  have n1 := neq_z
  have n2 := neq_zl
  have n3 := neq94
  go_wp2_with (first | ((try (refine gate_on (by rfl) ?_; dsimp only)); refine wpList_load_row rfl 94 _ rfl _ rfl 94 Tryz.zeroCells94 (0, 0) _ H9.out Tryz.underlying94 rfl i94 ?_) | ((try (refine gate_on (by rfl) ?_; dsimp only)); refine wpList_load_row rfl 28 _ rfl _ rfl 28 Z28 (0, 0) _ H13.out Tryz.underlying28 rfl i28 ?_) | ((try (refine gate_on (by rfl) ?_; dsimp only)); refine wpList_load_row rfl 28 _ rfl _ rfl 28 Z28 (0, 0) _ H15.out Tryz.underlying28 rfl i28 ?_))
  clear H9 H13 H15 n1 n2 n3
  rw [rounds_succ]
  have l0 : w5.cell? ⟨w.heap.size + 1 + 1, 1, none⟩ = some (.pointer (some ⟨w.heap.size + 1, 0, none⟩)) := by rw [cell_of_row w5 _ 1 _ 24 (0, 0) HF5.out.l]; rfl
  have HFp := HF5
  clear HF5
  go_wp2_with (refine wpList_load_row rfl 28 _ rfl _ rfl 28 cs (0, 0) _ HFp.out.x Tryz.underlying28 rfl hcs ?_)
  refine (load_calls _ (some ⟨w.heap.size + 1, 0, none⟩) id cs h36 (.inr ⟨_, rfl, HFp.out.p⟩)).mono ?_
  rintro e w1 ⟨rfl, b1⟩
  have HF1 := Aside1.mk (HFp.out.step b1)
  clear b1
  go_wp2_with (first | (refine wpList_store_same rfl 28 _ _ rfl _ Z28 rfl rfl 28 (heap_new _ _) i28 a28 ?_) | (refine wpList_store_same rfl 94 _ _ rfl _ Tryz.zeroCells94 rfl rfl 94 (heap_new _ _) i94 a94 ?_) | (refine wpList_load_row rfl 28 _ rfl _ rfl 28 cs (0, 0) _ (HF1.out.alloc _).x Tryz.underlying28 rfl hcs ?_))
  refine (find_calls _ (some ⟨w.heap.size + 1, 0, none⟩) id (s.extract 0 200) hs cs h36 (.inr ⟨_, rfl, (HF1.out.alloc _).p⟩)).mono ?_
  rintro e w2 ⟨rfl, b2⟩
  have HF2 := Aside1.mk ((HF1.out.alloc _).step b2)
  have H9 := Aside1.mk (newOn _ b2)
  clear b2 HF1
  go_wp2_with (first | (refine wpList_store_same rfl 28 _ _ rfl _ Z28 rfl rfl 28 (heap_new _ _) i28 a28 ?_) | (refine wpList_store_same rfl 94 _ _ rfl _ Tryz.zeroCells94 rfl rfl 94 (heap_new _ _) i94 a94 ?_) | (refine wpList_load_row rfl 28 _ rfl _ rfl 28 cs (0, 0) _ HF2.out.x Tryz.underlying28 rfl hcs ?_))
  refine (save_calls _ (some ⟨w.heap.size + 1, 0, none⟩) _ cs h36 (.inr ⟨_, rfl, HF2.out.p⟩)).mono ?_
  rintro e w3 ⟨rfl, b3⟩
  have HF3 := Aside1.mk (HF2.out.step b3)
  replace H9 := Aside1.mk (on H9.out b3)
  clear b3 HF2
  have G9 := Aside1.mk (onAlloc H9.out (.cells Z28 28))
  go_wp2_with (first | (refine wpList_load_row rfl 94 _ rfl _ rfl 94 Tryz.zeroCells94 (0, 0) _ G9.out Tryz.underlying94 rfl i94 ?_) | (first | (refine wpList_store_same rfl 28 _ _ rfl _ Z28 rfl rfl 28 (heap_new _ _) i28 a28 ?_) | (refine wpList_store_same rfl 94 _ _ rfl _ Tryz.zeroCells94 rfl rfl 94 (heap_new _ _) i94 a94 ?_) | (refine wpList_load_row rfl 28 _ rfl _ rfl 28 cs (0, 0) _ (HF3.out.alloc _).x Tryz.underlying28 rfl hcs ?_)))
  refine (remove_calls _ (some ⟨w.heap.size + 1, 0, none⟩) cs h36 (.inr ⟨_, rfl, (HF3.out.alloc _).p⟩)).mono ?_
  rintro e w4 ⟨rfl, b4⟩
  have HF4 := Aside1.mk ((HF3.out.alloc _).step b4)
  have H13 := Aside1.mk (newOn _ b4)
  replace H9 := Aside1.mk (on G9.out b4)
  clear b4 HF3 G9
  go_wp2_with (first | (refine wpList_store_same rfl 28 _ _ rfl _ Z28 rfl rfl 28 (heap_new _ _) i28 a28 ?_) | (refine wpList_store_same rfl 94 _ _ rfl _ Tryz.zeroCells94 rfl rfl 94 (heap_new _ _) i94 a94 ?_) | (refine wpList_load_row rfl 28 _ rfl _ rfl 28 cs (0, 0) _ (HF4.out.alloc _).x Tryz.underlying28 rfl hcs ?_))
  refine (list_calls _ (some ⟨w.heap.size + 1, 0, none⟩) cs h36 (.inr ⟨_, rfl, (HF4.out.alloc _).p⟩)).mono ?_
  rintro e w5 ⟨rfl, b5⟩
  have HF5 := Aside1.mk ((HF4.out.alloc _).step b5)
  have H15 := Aside1.mk (newOn _ b5)
  replace H13 := Aside1.mk (on (onAlloc H13.out _) b5)
  replace H9 := Aside1.mk (on (onAlloc H9.out _) b5)
  clear b5 HF4
  have n1 := neq_z
  have n2 := neq_zl
  have n3 := neq94
  go_wp2_with (first | ((try (refine gate_on (by rfl) ?_; dsimp only)); refine wpList_load_row rfl 94 _ rfl _ rfl 94 Tryz.zeroCells94 (0, 0) _ H9.out Tryz.underlying94 rfl i94 ?_) | ((try (refine gate_on (by rfl) ?_; dsimp only)); refine wpList_load_row rfl 28 _ rfl _ rfl 28 Z28 (0, 0) _ H13.out Tryz.underlying28 rfl i28 ?_) | ((try (refine gate_on (by rfl) ?_; dsimp only)); refine wpList_load_row rfl 28 _ rfl _ rfl 28 Z28 (0, 0) _ H15.out Tryz.underlying28 rfl i28 ?_))
  clear H9 H13 H15 n1 n2 n3
  rw [rounds_succ]
  go_wp2
  go_ret
  exact ⟨rfl, HF5.out.b⟩

theorem law (cs : Array Value) (hcs : (Tryz.prog.info? 28).map (·.size) = some cs.size) (id : Int) (s : ByteArray) (hm : s.size ≤ 140737488351232) (w : World) :
    Calls Tryz.prog 7 #[.agg cs, .int .i64 id, .string s] w fun e w' => e = .returned (.bool true) ∧ Below w.heap.size w w' := by
  by_cases hs : s.size ≤ 200
  · exact law_small cs hcs id s hs w
  · exact law_great cs hcs id s (by omega) hm w
end Go.Proofs.YtcdmmkmonhmckaaGreat.CatN
