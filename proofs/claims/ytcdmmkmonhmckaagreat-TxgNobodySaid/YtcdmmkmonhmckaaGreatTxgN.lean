import Derived.Test.YtcdmmkmonhmckaaGreatTxgA
namespace Go.Proofs.YtcdmmkmonhmckaaGreat.TxgN
open Go.RowKit Go.Proofs.YtcdmmkmonhmckaaGreat.Agg Go.Proofs.YtcdmmkmonhmckaaGreat.CowA Go.Proofs.YtcdmmkmonhmckaaGreat.DeadA Go.Proofs.YtcdmmkmonhmckaaGreat.SpaA Go.Proofs.YtcdmmkmonhmckaaGreat.TxgA
set_option linter.unusedVariables false
set_option linter.unusedSimpArgs false

/-- What the law's own first blocks hold, on and on. -/
structure F (w : World) (cs : Array Value) (L : Nat) (W : World) : Prop where
  x : W.heap[w.heap.size]? = some (.cells cs 28 (0, 0))
  z : ∃ z, W.heap[L]? = some (.cells z 74 (0, 0)) ∧ z[0]? = some (.pointer none)
  l : W.heap[L + 1]? = some (.cells #[.pointer none, .pointer (some ⟨L, 0, none⟩)] 68 (0, 0))
  b : Below w.heap.size w W
  s : w.heap.size < L
  t : L + 1 < W.heap.size
theorem F.step {w W W1 : World} {cs : Array Value} {L : Nat} (h : F w cs L W) (hb : Below W.heap.size W W1) : F w cs L W1 := by
  have hs := h.s
  have ht := h.t
  obtain ⟨z, hz, h0⟩ := h.z
  exact ⟨keep hb h.x (by omega), ⟨z, keep hb hz (by omega), h0⟩, keep hb h.l ht, h.b.trans (hb.mono (by omega)), hs, Nat.lt_of_lt_of_le ht hb.size⟩
theorem F.start (w w1 : World) (cs z d : Array Value) (h0 : z[0]? = some (.pointer none)) (hb : Below ((w.alloc (.cells cs 28)).alloc (.cells d 108)).heap.size ((w.alloc (.cells cs 28)).alloc (.cells d 108)) w1) :
    F w cs w1.heap.size ((w1.alloc (.cells z 74)).alloc (.cells #[.pointer none, .pointer (some ⟨w1.heap.size, 0, none⟩)] 68)) := by
  have hs : w.heap.size < w1.heap.size := Nat.lt_of_lt_of_le (by simp; omega) hb.size
  have hx := keep hb (onAlloc (heap_new w (.cells cs 28)) (.cells d 108)) (by simp; omega)
  have e1 : (w1.alloc (.cells z 74)).heap.size = w1.heap.size + 1 := by simp
  have g1 := heap_new (w1.alloc (.cells z 74)) (.cells #[.pointer none, .pointer (some ⟨w1.heap.size, 0, none⟩)] 68)
  rw [e1] at g1
  have hw : Below w.heap.size w w1 := (((Below.refl w.heap.size w).alloc (Nat.le_refl _) _).alloc (by simp) _).trans (hb.mono (by simp; omega))
  exact ⟨onAlloc (onAlloc hx _) _, ⟨z, onAlloc (heap_new w1 _) _, h0⟩, g1, (hw.alloc (by omega) _).alloc (by simp; omega) _, hs, by simp⟩
theorem F.store {w W : World} {cs : Array Value} {L : Nat} (h : F w cs L W) : NoStore W (some ⟨L, 0, none⟩) := by
  obtain ⟨z, hz, h0⟩ := h.z
  exact .inr ⟨_, z, rfl, hz, h0⟩

theorem second (w : World) (a b : Obj) : ((w.alloc a).alloc b).heap[w.heap.size + 1]? = some b := by
  have g := heap_new (w.alloc a) b
  have e1 : (w.alloc a).heap.size = w.heap.size + 1 := by simp
  rw [e1] at g
  exact g

set_option maxRecDepth 100000 in
set_option maxHeartbeats 4000000 in
theorem law (cs : Array Value) (hcs : (Tryz.prog.info? 28).map (·.size) = some cs.size) (m : Value) (w : World) :
    Calls Tryz.prog 8 #[.agg cs, m] w fun e w' => e = .returned (.bool true) ∧ Below w.heap.size w w' := by
  have h36 : cs.size = 36 := by have := hcs.symm.trans i28; simpa [Z28] using this
  go_enter Tryz.func8, Tryz.ntmps8
  go_wp2_with fail
  refine (format_calls _ none (.inl rfl)).mono ?_
  rintro e v ⟨rfl, rfl⟩
  go_wp2_with fail
  have hD : ∀ z : Array Value, z[0]? = some (.slice none 0 0) → NoDisk ((w.alloc (.cells cs 28)).alloc (.cells z 108)) (some ⟨w.heap.size + 1, 0, none⟩) := fun z h => .inr ⟨_, z, rfl, second _ _ _, h⟩
  refine (format_calls _ _ (hD _ ?hz)).mono ?_
  case hz => rfl
  rintro e v ⟨rfl, rfl⟩
  go_wp2_with fail
  refine (open_calls _ _).mono ?_
  rintro e u0 ⟨rfl, b0⟩
  have HF0 := Aside1.mk (fun z h0 => F.start w u0 cs z _ h0 b0)
  clear b0
  go_wp2_with fail
  refine wp_loop_rounds 3 ?_
  rw [rounds_succ]
  go_wp2_with fail
  refine (id_calls _ none (.inl rfl)).mono ?_
  rintro e v ⟨rfl, rfl⟩
  go_wp2_with fail
  refine (reach_calls _ none (.inl rfl)).mono ?_
  rintro e v ⟨rfl, rfl⟩
  go_wp2_with fail
  refine (begin_calls _ none (.inl rfl)).mono ?_
  rintro e v ⟨rfl, rfl⟩
  go_wp2_with fail
  refine (commit_calls _ none (.inl rfl)).mono ?_
  rintro e v ⟨rfl, rfl⟩
  go_wp2_with fail
  refine (abort_calls _ none (.inl rfl)).mono ?_
  rintro e v ⟨rfl, rfl⟩
  go_wp2_with fail
  refine (opened_calls _ none (.inl rfl)).mono ?_
  rintro e v ⟨rfl, rfl⟩
  go_wp2_with fail
  refine (pool_calls _ none (.inl rfl)).mono ?_
  rintro e v ⟨rfl, rfl⟩
  go_wp2_with fail
  refine (root_calls _ none (.inl rfl)).mono ?_
  rintro e u1 ⟨rfl, b1⟩
  have HF1 := Aside1.mk ((HF0.out _ rfl).step b1)
  clear b1 HF0
  have n1 := CowN.neq_z
  have n2 := CowN.neq_zl
  go_wp2_with fail
  clear n1 n2
  refine (epoch_calls _ none (.inl rfl)).mono ?_
  rintro e v ⟨rfl, rfl⟩
  dsimp only
  rename_i K1 h1 K2 h2
  refine h2 _ _ ?_
  clear h2 K2
  simp only [List.append]
  go_wp2_with (first | (refine gate_on (by rfl) ?_; dsimp only; refine wpList_load_row rfl 28 _ rfl _ rfl 28 cs (0, 0) _ HF1.out.x Tryz.underlying28 rfl hcs ?_))
  refine (set_calls _ none cs (.inl rfl)).mono ?_
  rintro e u2 ⟨rfl, b2⟩
  have HF2 := Aside1.mk (HF1.out.step b2)
  clear b2 HF1
  go_wp2_with fail
  refine (turn_calls _ none (.inl rfl)).mono ?_
  rintro e v ⟨rfl, rfl⟩
  go_wp2_with fail
  refine (free_calls _ none _ (.inl rfl)).mono ?_
  rintro e v ⟨rfl, rfl⟩
  go_wp2_with fail
  refine (settle_calls _ none (.inl rfl)).mono ?_
  rintro e v ⟨rfl, rfl⟩
  go_wp2_with fail
  rw [rounds_succ]
  have y1 : u2.cell? ⟨u0.heap.size + 1, 1, none⟩ = some (.pointer (some ⟨u0.heap.size, 0, none⟩)) := by rw [cell_of_row _ _ 1 _ 68 (0, 0) HF2.out.l]; rfl
  go_wp2_with fail
  clear y1
  refine (id_calls _ (some ⟨u0.heap.size, 0, none⟩) HF2.out.store).mono ?_
  rintro e v ⟨rfl, rfl⟩
  go_wp2_with fail
  refine (reach_calls _ (some ⟨u0.heap.size, 0, none⟩) HF2.out.store).mono ?_
  rintro e v ⟨rfl, rfl⟩
  go_wp2_with fail
  refine (begin_calls _ (some ⟨u0.heap.size, 0, none⟩) HF2.out.store).mono ?_
  rintro e v ⟨rfl, rfl⟩
  go_wp2_with fail
  refine (commit_calls _ (some ⟨u0.heap.size, 0, none⟩) HF2.out.store).mono ?_
  rintro e v ⟨rfl, rfl⟩
  go_wp2_with fail
  refine (abort_calls _ (some ⟨u0.heap.size, 0, none⟩) HF2.out.store).mono ?_
  rintro e v ⟨rfl, rfl⟩
  go_wp2_with fail
  refine (opened_calls _ (some ⟨u0.heap.size, 0, none⟩) HF2.out.store).mono ?_
  rintro e v ⟨rfl, rfl⟩
  go_wp2_with fail
  refine (pool_calls _ (some ⟨u0.heap.size, 0, none⟩) HF2.out.store).mono ?_
  rintro e v ⟨rfl, rfl⟩
  go_wp2_with fail
  refine (root_calls _ (some ⟨u0.heap.size, 0, none⟩) HF2.out.store).mono ?_
  rintro e u3 ⟨rfl, b3⟩
  have HF3 := Aside1.mk (HF2.out.step b3)
  clear b3 HF2
  have n1 := CowN.neq_z
  have n2 := CowN.neq_zl
  go_wp2_with fail
  clear n1 n2
  refine (epoch_calls _ (some ⟨u0.heap.size, 0, none⟩) HF3.out.store).mono ?_
  rintro e v ⟨rfl, rfl⟩
  dsimp only
  rename_i K1 h1 K2 h2
  refine h2 _ _ ?_
  clear h2 K2
  simp only [List.append]
  go_wp2_with (first | (refine gate_on (by rfl) ?_; dsimp only; refine wpList_load_row rfl 28 _ rfl _ rfl 28 cs (0, 0) _ HF3.out.x Tryz.underlying28 rfl hcs ?_))
  refine (set_calls _ (some ⟨u0.heap.size, 0, none⟩) cs HF3.out.store).mono ?_
  rintro e u4 ⟨rfl, b4⟩
  have HF4 := Aside1.mk (HF3.out.step b4)
  clear b4 HF3
  go_wp2_with fail
  refine (turn_calls _ (some ⟨u0.heap.size, 0, none⟩) HF4.out.store).mono ?_
  rintro e v ⟨rfl, rfl⟩
  go_wp2_with fail
  refine (free_calls _ (some ⟨u0.heap.size, 0, none⟩) _ HF4.out.store).mono ?_
  rintro e v ⟨rfl, rfl⟩
  go_wp2_with fail
  refine (settle_calls _ (some ⟨u0.heap.size, 0, none⟩) HF4.out.store).mono ?_
  rintro e v ⟨rfl, rfl⟩
  go_wp2_with fail
  rw [rounds_succ]
  go_wp2
  go_ret
  exact ⟨rfl, HF4.out.b⟩
end Go.Proofs.YtcdmmkmonhmckaaGreat.TxgN
