import Derived.Test.YtcdmmkmonhmckaaGreatCowN
import Derived.Test.YtcdmmkmonhmckaaGreatDeadA
namespace Go.Proofs.YtcdmmkmonhmckaaGreat.DeadN
open Go.RowKit Go.Proofs.YtcdmmkmonhmckaaGreat.Agg Go.Proofs.YtcdmmkmonhmckaaGreat.CowA Go.Proofs.YtcdmmkmonhmckaaGreat.CowN Go.Proofs.YtcdmmkmonhmckaaGreat.DeadA
set_option linter.unusedVariables false

set_option maxRecDepth 100000 in
set_option maxHeartbeats 4000000 in
theorem law (cs : Array Value) (hcs : (Tryz.prog.info? 28).map (·.size) = some cs.size) (m : Value) (w : World) :
    Calls Tryz.prog 6 #[.agg cs, m] w fun e w' => e = .returned (.bool true) ∧ Below w.heap.size w w' := by
  have h36 : cs.size = 36 := by have := hcs.symm.trans i28; simpa [Z28] using this
  have HF0 := Aside1.mk (F.start w cs)
  go_enter Tryz.func6, Tryz.ntmps6
  go_wp2_with fail
  refine wp_loop_rounds 3 ?_
  rw [rounds_succ]
  go_wp2_with (refine wpList_load_row rfl 28 _ rfl _ rfl 28 cs (0, 0) _ HF0.out.x Tryz.underlying28 rfl hcs ?_)
  refine (add_calls _ none cs _ (.inl rfl)).mono ?_
  rintro e w1 ⟨rfl, b1⟩
  have HF1 := Aside1.mk (HF0.out.step b1)
  clear b1
  go_wp2_with (first | (refine wpList_store_same rfl 28 _ _ rfl _ Z28 rfl rfl 28 (heap_new _ _) i28 a28 ?_) | (refine wpList_load_row rfl 28 _ rfl _ rfl 28 cs (0, 0) _ (HF1.out.alloc _).x Tryz.underlying28 rfl hcs ?_))
  refine (all_calls _ none cs h36 (.inl rfl)).mono ?_
  rintro e w2 ⟨rfl, b2⟩
  have HF2 := Aside1.mk ((HF1.out.alloc _).step b2)
  have H7 := Aside1.mk (newOn _ b2)
  clear b2 HF1
  go_wp2_with (refine wpList_load_row rfl 28 _ rfl _ rfl 28 cs (0, 0) _ HF2.out.x Tryz.underlying28 rfl hcs ?_)
  refine (take_calls _ none cs _ h36 (.inl rfl)).mono ?_
  rintro e w3 ⟨rfl, b3⟩
  have HF3 := Aside1.mk (HF2.out.step b3)
  replace H7 := Aside1.mk (on H7.out b3)
  clear b3 HF2
  go_wp2_with (first | (refine wpList_store_same rfl 28 _ _ rfl _ Z28 rfl rfl 28 (heap_new _ _) i28 a28 ?_) | (refine wpList_load_row rfl 28 _ rfl _ rfl 28 cs (0, 0) _ (HF3.out.alloc _).x Tryz.underlying28 rfl hcs ?_))
  refine (join_calls _ none cs h36 (.inl rfl)).mono ?_
  rintro e w4 ⟨rfl, b4⟩
  have HF4 := Aside1.mk ((HF3.out.alloc _).step b4)
  have H11 := Aside1.mk (newOn _ b4)
  replace H7 := Aside1.mk (on (onAlloc H7.out _) b4)
  clear b4 HF3
  have n1 := neq_z
  have n2 := neq_zl
  go_wp2_with (first | (refine wpList_store_same rfl 28 _ _ rfl _ Z28 rfl rfl 28 (heap_new _ _) i28 a28 ?_) | ((try (refine gate_on (by rfl) ?_; dsimp only)); refine wpList_load_row rfl 28 _ rfl _ rfl 28 cs (0, 0) _ (HF4.out.alloc _).x Tryz.underlying28 rfl hcs ?_) | ((try (refine gate_on (by rfl) ?_; dsimp only)); refine wpList_load_row rfl 28 _ rfl _ rfl 28 Z28 (0, 0) _ (onAlloc H7.out _) Tryz.underlying28 rfl i28 ?_) | ((try (refine gate_on (by rfl) ?_; dsimp only)); refine wpList_load_row rfl 28 _ rfl _ rfl 28 Z28 (0, 0) _ (onAlloc H11.out _) Tryz.underlying28 rfl i28 ?_) | ((try (refine gate_on (by rfl) ?_; dsimp only)); refine wpList_load_row rfl 28 _ rfl _ rfl 28 Z28 (0, 0) _ (heap_new _ _) Tryz.underlying28 rfl i28 ?_))
  refine (drop_calls _ none cs h36 (.inl rfl)).mono ?_
  rintro e wk ⟨rfl, b6⟩
  have HFp := Aside1.mk ((HF4.out.alloc _).step b6)
  clear b6 HF4 n1 n2
  go_wp2_with fail
  clear H7 H11
  rw [rounds_succ]
  have l0 : wk.cell? ⟨w.heap.size + 1 + 1, 1, none⟩ = some (.pointer (some ⟨w.heap.size + 1, 0, none⟩)) := by rw [cell_of_row wk _ 1 _ 24 (0, 0) HFp.out.l]; rfl
  go_wp2_with (refine wpList_load_row rfl 28 _ rfl _ rfl 28 cs (0, 0) _ HFp.out.x Tryz.underlying28 rfl hcs ?_)
  refine (add_calls _ (some ⟨w.heap.size + 1, 0, none⟩) cs _ (.inr ⟨_, rfl, HFp.out.p⟩)).mono ?_
  rintro e w1 ⟨rfl, b1⟩
  have HF1 := Aside1.mk (HFp.out.step b1)
  clear b1
  go_wp2_with (first | (refine wpList_store_same rfl 28 _ _ rfl _ Z28 rfl rfl 28 (heap_new _ _) i28 a28 ?_) | (refine wpList_load_row rfl 28 _ rfl _ rfl 28 cs (0, 0) _ (HF1.out.alloc _).x Tryz.underlying28 rfl hcs ?_))
  refine (all_calls _ (some ⟨w.heap.size + 1, 0, none⟩) cs h36 (.inr ⟨_, rfl, (HF1.out.alloc _).p⟩)).mono ?_
  rintro e w2 ⟨rfl, b2⟩
  have HF2 := Aside1.mk ((HF1.out.alloc _).step b2)
  have H7 := Aside1.mk (newOn _ b2)
  clear b2 HF1
  go_wp2_with (refine wpList_load_row rfl 28 _ rfl _ rfl 28 cs (0, 0) _ HF2.out.x Tryz.underlying28 rfl hcs ?_)
  refine (take_calls _ (some ⟨w.heap.size + 1, 0, none⟩) cs _ h36 (.inr ⟨_, rfl, HF2.out.p⟩)).mono ?_
  rintro e w3 ⟨rfl, b3⟩
  have HF3 := Aside1.mk (HF2.out.step b3)
  replace H7 := Aside1.mk (on H7.out b3)
  clear b3 HF2
  go_wp2_with (first | (refine wpList_store_same rfl 28 _ _ rfl _ Z28 rfl rfl 28 (heap_new _ _) i28 a28 ?_) | (refine wpList_load_row rfl 28 _ rfl _ rfl 28 cs (0, 0) _ (HF3.out.alloc _).x Tryz.underlying28 rfl hcs ?_))
  refine (join_calls _ (some ⟨w.heap.size + 1, 0, none⟩) cs h36 (.inr ⟨_, rfl, (HF3.out.alloc _).p⟩)).mono ?_
  rintro e w4 ⟨rfl, b4⟩
  have HF4 := Aside1.mk ((HF3.out.alloc _).step b4)
  have H11 := Aside1.mk (newOn _ b4)
  replace H7 := Aside1.mk (on (onAlloc H7.out _) b4)
  clear b4 HF3
  have n1 := neq_z
  have n2 := neq_zl
  go_wp2_with (first | (refine wpList_store_same rfl 28 _ _ rfl _ Z28 rfl rfl 28 (heap_new _ _) i28 a28 ?_) | ((try (refine gate_on (by rfl) ?_; dsimp only)); refine wpList_load_row rfl 28 _ rfl _ rfl 28 cs (0, 0) _ (HF4.out.alloc _).x Tryz.underlying28 rfl hcs ?_) | ((try (refine gate_on (by rfl) ?_; dsimp only)); refine wpList_load_row rfl 28 _ rfl _ rfl 28 Z28 (0, 0) _ (onAlloc H7.out _) Tryz.underlying28 rfl i28 ?_) | ((try (refine gate_on (by rfl) ?_; dsimp only)); refine wpList_load_row rfl 28 _ rfl _ rfl 28 Z28 (0, 0) _ (onAlloc H11.out _) Tryz.underlying28 rfl i28 ?_) | ((try (refine gate_on (by rfl) ?_; dsimp only)); refine wpList_load_row rfl 28 _ rfl _ rfl 28 Z28 (0, 0) _ (heap_new _ _) Tryz.underlying28 rfl i28 ?_))
  refine (drop_calls _ (some ⟨w.heap.size + 1, 0, none⟩) cs h36 (.inr ⟨_, rfl, (HF4.out.alloc _).p⟩)).mono ?_
  rintro e wk ⟨rfl, b6⟩
  have HFp := Aside1.mk ((HF4.out.alloc _).step b6)
  clear b6 HF4 n1 n2
  go_wp2_with fail
  rw [rounds_succ]
  go_wp2
  go_ret
  exact ⟨rfl, HFp.out.b⟩
end Go.Proofs.YtcdmmkmonhmckaaGreat.DeadN
