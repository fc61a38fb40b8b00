/- A store of no sets has no buckets: the law walked. -/
import Derived.Test.YtkemhdbnkpblpaaGreatDoorObE
import Derived.WideShapes
namespace Go.Proofs.YtkemhdbnkpblpaaGreatDoor.ObN
open Go.RowKit Go.Proofs.YtkemhdbnkpblpaaGreatDoor.Agg
open Go.Proofs.YtkemhdbnkpblpaaGreatDoor.UpA (Z47 i47 a47)
open Go.Proofs.YtkemhdbnkpblpaaGreatDoor.ObC (Lib0)
open Go.Proofs.YtkemhdbnkpblpaaGreatDoor.ObD Go.Proofs.YtkemhdbnkpblpaaGreatDoor.ObE
set_option linter.unusedVariables false
set_option linter.unusedSimpArgs false
set_option linter.constructorNameAsVariable false

/-- What the law's own first blocks hold, on and on. -/
structure F (w : World) (ds : Array Value) (W : World) : Prop where
  x : W.heap[w.heap.size]? = some (.cells ds 25 (0, 0))
  p : W.heap[w.heap.size + 1]? = some (.cells #[.pointer none] 33 (0, 0))
  y : ∃ y, W.heap[w.heap.size + 1 + 1]? = some (.cells y 61 (0, 0)) ∧ y[0]? = some (.pointer none)
  q : W.heap[w.heap.size + 1 + 1 + 1]? = some (.cells #[.pointer (some ⟨w.heap.size + 1 + 1, 0, none⟩)] 33 (0, 0))
  l : W.heap[w.heap.size + 1 + 1 + 1 + 1]? = some (.cells #[.pointer none, .pointer (some ⟨w.heap.size + 1, 0, none⟩), .pointer (some ⟨w.heap.size + 1 + 1 + 1, 0, none⟩)] 28 (0, 0))
  b : Below w.heap.size w W
  s : w.heap.size + 1 + 1 + 1 + 1 < W.heap.size
  i : Lib0 W
theorem F.step {w W W1 : World} {ds : Array Value} (h : F w ds W) (hb : Below W.heap.size W W1) : F w ds W1 := by
  have hs := h.s
  obtain ⟨y, hy, h0⟩ := h.y
  exact ⟨keep hb h.x (by omega), keep hb h.p (by omega), ⟨y, keep hb hy (by omega), h0⟩, keep hb h.q (by omega), keep hb h.l h.s, h.b.trans (hb.mono (by omega)), Nat.lt_of_lt_of_le h.s hb.size, h.i.below hb⟩
theorem F.alloc {w W : World} {ds : Array Value} (h : F w ds W) (o : Obj) : F w ds (W.alloc o) := h.step ((Below.refl _ _).alloc (Nat.le_refl _) _)
theorem F.two {w W : World} {ds : Array Value} (h : F w ds W) : NoSets3 W (some ⟨w.heap.size + 1, 0, none⟩) := .inl (.inr ⟨_, _, rfl, h.p, rfl⟩)
theorem F.three {w W : World} {ds : Array Value} (h : F w ds W) : NoSets3 W (some ⟨w.heap.size + 1 + 1 + 1, 0, none⟩) := by
  obtain ⟨y, hy, h0⟩ := h.y
  exact .inr ⟨_, _, _, y, rfl, h.q, rfl, hy, h0⟩
/-- The law's start. -/
def W0 (w : World) (ds y : Array Value) : World :=
  ((((w.alloc (.cells ds 25)).alloc (.cells #[.pointer none] 33)).alloc (.cells y 61)).alloc (.cells #[.pointer (some ⟨w.heap.size + 1 + 1, 0, none⟩)] 33)).alloc (.cells #[.pointer none, .pointer (some ⟨w.heap.size + 1, 0, none⟩), .pointer (some ⟨w.heap.size + 1 + 1 + 1, 0, none⟩)] 28)
theorem F.start (w : World) (ds y : Array Value) (h0 : y[0]? = some (.pointer none)) (hl : Lib0 w) : F w ds (W0 w ds y) := by
  have e : ∀ (W : World) (o : Obj), (W.alloc o).heap.size = W.heap.size + 1 := fun W o => by simp
  have g1 := heap_new (w.alloc (.cells ds 25)) (.cells #[.pointer none] 33)
  have g2 := heap_new ((w.alloc (.cells ds 25)).alloc (.cells #[.pointer none] 33)) (.cells y 61)
  have g3 := heap_new (((w.alloc (.cells ds 25)).alloc (.cells #[.pointer none] 33)).alloc (.cells y 61)) (.cells #[.pointer (some ⟨w.heap.size + 1 + 1, 0, none⟩)] 33)
  have g4 := heap_new ((((w.alloc (.cells ds 25)).alloc (.cells #[.pointer none] 33)).alloc (.cells y 61)).alloc (.cells #[.pointer (some ⟨w.heap.size + 1 + 1, 0, none⟩)] 33)) (.cells #[.pointer none, .pointer (some ⟨w.heap.size + 1, 0, none⟩), .pointer (some ⟨w.heap.size + 1 + 1 + 1, 0, none⟩)] 28)
  simp only [e] at g1 g2 g3 g4
  have hb : Below w.heap.size w (W0 w ds y) := (((((Below.refl w.heap.size w).alloc (Nat.le_refl _) _).alloc (by simp) _).alloc (by simp; omega) _).alloc (by simp; omega) _).alloc (by simp; omega) _
  exact ⟨onAlloc (onAlloc (onAlloc (onAlloc (heap_new w _) _) _) _) _, onAlloc (onAlloc (onAlloc g1 _) _) _, ⟨y, onAlloc (onAlloc g2 _) _, h0⟩, onAlloc g3 _, g4, hb, by simp [W0], hl.below hb⟩
theorem i25 : (Tryz.prog.info? 25).map (·.size) = some 4 := by kernel_rfl
theorem j28 (x : Value) : (Tryz.prog.info? 28).map (·.size) = some (#[x] : Array Value).size := by show _ = some 1; kernel_rfl
theorem j64 (x y : Value) : (Tryz.prog.info? 64).map (·.size) = some (#[x, y] : Array Value).size := by show _ = some 2; kernel_rfl
/-- The letter. -/
abbrev LA : ByteArray := { data := #[97] }


set_option maxRecDepth 100000 in
set_option maxHeartbeats 8000000 in
theorem law_small (s : ByteArray) (A : Option Addr) (kn kc : Nat) (a1 a2 a3 : Value) (id : Int) (hs : s.size ≤ 100) (w : World) (hl : Lib0 w) :
    Calls Tryz.prog 4 #[.string s, .agg #[.slice A kn kc, a1, a2, a3], .int .i64 id] w fun e w' => e = .returned (.bool true) ∧ Below w.heap.size w w' := by
  have hs2 : s.size ≤ 200 := by omega
  have HFs := Aside1.mk (fun y h0 => F.start w #[.slice A kn kc, a1, a2, a3] y h0 hl)
  clear hl
  go_enter Tryz.func4, Tryz.ntmps4
  go_wp2_with fail
  have HF := Aside1.mk (HFs.out Tryz.zeroCells61 (by kernel_rfl))
  clear HFs
  unfold W0 at HF
  generalize (((((w.alloc (.cells #[.slice A kn kc, a1, a2, a3] 25)).alloc (.cells #[.pointer none] 33)).alloc (.cells Tryz.zeroCells61 61)).alloc (.cells #[.pointer (some ⟨w.heap.size + 1 + 1, 0, none⟩)] 33)).alloc (.cells #[.pointer none, .pointer (some ⟨w.heap.size + 1, 0, none⟩), .pointer (some ⟨w.heap.size + 1 + 1 + 1, 0, none⟩)] 28)) = W at *
  have l0 : W.cell? ⟨w.heap.size + 1 + 1 + 1 + 1, 0, none⟩ = some (.pointer none) := by rw [cell_of_row W _ 0 _ 28 (0, 0) HF.out.l]; rfl
  refine wp_loop_rounds 4 ?_
  rw [rounds_succ]
  have H8 := Aside1.mk (onAlloc (heap_new W (.cells #[.pointer none] 28)) (.cells #[.string s, .string { data := #[] }] 64))
  have h9 := heap_new (W.alloc (.cells #[.pointer none] 28)) (.cells #[.string s, .string { data := #[] }] 64)
  rw [show (W.alloc (.cells #[.pointer none] 28)).heap.size = W.heap.size + 1 by simp] at h9
  have H9 := Aside1.mk h9
  clear h9
  replace HF := Aside1.mk ((HF.out.alloc (.cells #[.pointer none] 28)).alloc (.cells #[.string s, .string { data := #[] }] 64))
  go_wp2_with (first | ((try (refine gate_on (by rfl) ?_; dsimp only)); refine wpList_load_row rfl 28 _ rfl _ rfl 28 #[.pointer none] (0, 0) _ H8.out Tryz.underlying28 rfl (j28 _) ?_) | (refine wpList_load_row rfl 64 _ rfl _ rfl 64 #[.string s, .string { data := #[] }] (0, 0) _ H9.out Tryz.underlying64 rfl (j64 _ _) ?_) | (refine wpList_load_row rfl 25 _ rfl _ rfl 25 #[.slice A kn kc, a1, a2, a3] (0, 0) _ HF.out.x Tryz.underlying25 rfl i25 ?_))
  refine (put_calls _ none _ _ #[.slice A kn kc, a1, a2, a3] id (.inl (.inl rfl))).mono ?_
  rintro e u0_0 ⟨rfl, b⟩
  replace HF := Aside1.mk ((HF.out.step b).alloc (.cells Z47 47))
  replace H8 := Aside1.mk (onAlloc (on H8.out b) (.cells Z47 47))
  replace H9 := Aside1.mk (onAlloc (on H9.out b) (.cells Z47 47))
  have G0 := Aside1.mk (heap_new u0_0 (.cells Z47 47))
  clear b
  go_wp2_with (first | (refine wpList_store_same rfl 47 _ _ rfl _ Z47 rfl rfl 47 G0.out i47 a47 ?_) | ((try (refine gate_on (by rfl) ?_; dsimp only)); refine wpList_load_row rfl 28 _ rfl _ rfl 28 #[.pointer none] (0, 0) _ H8.out Tryz.underlying28 rfl (j28 _) ?_) | (refine wpList_load_row rfl 64 _ rfl _ rfl 64 #[.string s, .string { data := #[] }] (0, 0) _ H9.out Tryz.underlying64 rfl (j64 _ _) ?_) | (refine wpList_load_row rfl 25 _ rfl _ rfl 25 #[.slice A kn kc, a1, a2, a3] (0, 0) _ HF.out.x Tryz.underlying25 rfl i25 ?_))
  refine (get_calls _ none _ _ _ hs2 id (.inl (.inl rfl)) HF.out.i).mono ?_
  rintro e u0_1 ⟨rfl, b⟩
  replace HF := Aside1.mk ((HF.out.step b).alloc (.cells Z47 47))
  replace H8 := Aside1.mk (onAlloc (on H8.out b) (.cells Z47 47))
  replace H9 := Aside1.mk (onAlloc (on H9.out b) (.cells Z47 47))
  replace G0 := Aside1.mk (onAlloc (on G0.out b) (.cells Z47 47))
  have G1 := Aside1.mk (heap_new u0_1 (.cells Z47 47))
  clear b
  go_wp2_with (first | (refine wpList_store_same rfl 47 _ _ rfl _ Z47 rfl rfl 47 G1.out i47 a47 ?_) | ((try (refine gate_on (by rfl) ?_; dsimp only)); refine wpList_load_row rfl 28 _ rfl _ rfl 28 #[.pointer none] (0, 0) _ H8.out Tryz.underlying28 rfl (j28 _) ?_) | (refine wpList_load_row rfl 64 _ rfl _ rfl 64 #[.string s, .string { data := #[] }] (0, 0) _ H9.out Tryz.underlying64 rfl (j64 _ _) ?_) | (refine wpList_load_row rfl 25 _ rfl _ rfl 25 #[.slice A kn kc, a1, a2, a3] (0, 0) _ HF.out.x Tryz.underlying25 rfl i25 ?_))
  refine (delete_calls _ none _ _ id id (.inl (.inl rfl))).mono ?_
  rintro e u0_2 ⟨rfl, b⟩
  replace HF := Aside1.mk ((HF.out.step b).alloc (.cells Z47 47))
  replace H8 := Aside1.mk (onAlloc (on H8.out b) (.cells Z47 47))
  replace H9 := Aside1.mk (onAlloc (on H9.out b) (.cells Z47 47))
  replace G0 := Aside1.mk (onAlloc (on G0.out b) (.cells Z47 47))
  replace G1 := Aside1.mk (onAlloc (on G1.out b) (.cells Z47 47))
  have G2 := Aside1.mk (heap_new u0_2 (.cells Z47 47))
  clear b
  go_wp2_with (first | (refine wpList_store_same rfl 47 _ _ rfl _ Z47 rfl rfl 47 G2.out i47 a47 ?_) | ((try (refine gate_on (by rfl) ?_; dsimp only)); refine wpList_load_row rfl 28 _ rfl _ rfl 28 #[.pointer none] (0, 0) _ H8.out Tryz.underlying28 rfl (j28 _) ?_) | (refine wpList_load_row rfl 64 _ rfl _ rfl 64 #[.string s, .string { data := #[] }] (0, 0) _ H9.out Tryz.underlying64 rfl (j64 _ _) ?_) | (refine wpList_load_row rfl 25 _ rfl _ rfl 25 #[.slice A kn kc, a1, a2, a3] (0, 0) _ HF.out.x Tryz.underlying25 rfl i25 ?_))
  refine (versions_calls _ none _ _ (.inl (.inl rfl))).mono ?_
  rintro e u0_3 ⟨rfl, b⟩
  replace HF := Aside1.mk (HF.out.step b)
  replace H8 := Aside1.mk (on H8.out b)
  replace H9 := Aside1.mk (on H9.out b)
  replace G0 := Aside1.mk (on G0.out b)
  replace G1 := Aside1.mk (on G1.out b)
  replace G2 := Aside1.mk (on G2.out b)
  clear b
  go_wp2_with (first | ((try (refine gate_on (by rfl) ?_; dsimp only)); refine wpList_load_row rfl 28 _ rfl _ rfl 28 #[.pointer none] (0, 0) _ H8.out Tryz.underlying28 rfl (j28 _) ?_) | (refine wpList_load_row rfl 64 _ rfl _ rfl 64 #[.string s, .string { data := #[] }] (0, 0) _ H9.out Tryz.underlying64 rfl (j64 _ _) ?_) | (refine wpList_load_row rfl 25 _ rfl _ rfl 25 #[.slice A kn kc, a1, a2, a3] (0, 0) _ HF.out.x Tryz.underlying25 rfl i25 ?_))
  refine (extra_calls _ none _ _ LA (.inl (.inl rfl))).mono ?_
  rintro e u0_4 ⟨rfl, b⟩
  replace HF := Aside1.mk (HF.out.step b)
  replace H8 := Aside1.mk (on H8.out b)
  replace H9 := Aside1.mk (on H9.out b)
  replace G0 := Aside1.mk (on G0.out b)
  replace G1 := Aside1.mk (on G1.out b)
  replace G2 := Aside1.mk (on G2.out b)
  clear b
  go_wp2_with (first | ((try (refine gate_on (by rfl) ?_; dsimp only)); refine wpList_load_row rfl 28 _ rfl _ rfl 28 #[.pointer none] (0, 0) _ H8.out Tryz.underlying28 rfl (j28 _) ?_) | (refine wpList_load_row rfl 64 _ rfl _ rfl 64 #[.string s, .string { data := #[] }] (0, 0) _ H9.out Tryz.underlying64 rfl (j64 _ _) ?_) | (refine wpList_load_row rfl 25 _ rfl _ rfl 25 #[.slice A kn kc, a1, a2, a3] (0, 0) _ HF.out.x Tryz.underlying25 rfl i25 ?_))
  refine (versioning_calls _ none _ _ (.inl (.inl rfl))).mono ?_
  rintro e u0_5 ⟨rfl, b⟩
  replace HF := Aside1.mk (HF.out.step b)
  replace H8 := Aside1.mk (on H8.out b)
  replace H9 := Aside1.mk (on H9.out b)
  replace G0 := Aside1.mk (on G0.out b)
  replace G1 := Aside1.mk (on G1.out b)
  replace G2 := Aside1.mk (on G2.out b)
  clear b
  go_wp2_with (first | ((try (refine gate_on (by rfl) ?_; dsimp only)); refine wpList_load_row rfl 28 _ rfl _ rfl 28 #[.pointer none] (0, 0) _ H8.out Tryz.underlying28 rfl (j28 _) ?_) | (refine wpList_load_row rfl 64 _ rfl _ rfl 64 #[.string s, .string { data := #[] }] (0, 0) _ H9.out Tryz.underlying64 rfl (j64 _ _) ?_) | (refine wpList_load_row rfl 25 _ rfl _ rfl 25 #[.slice A kn kc, a1, a2, a3] (0, 0) _ HF.out.x Tryz.underlying25 rfl i25 ?_))
  refine (made_calls _ none _ (.inl (.inl rfl))).mono ?_
  rintro e u0_6 ⟨rfl, b⟩
  replace HF := Aside1.mk (HF.out.step b)
  replace H8 := Aside1.mk (on H8.out b)
  replace H9 := Aside1.mk (on H9.out b)
  replace G0 := Aside1.mk (on G0.out b)
  replace G1 := Aside1.mk (on G1.out b)
  replace G2 := Aside1.mk (on G2.out b)
  clear b
  have x0 : u0_6.cell? ⟨u0_0.heap.size, 0, none⟩ = some (.int .i64 0) := by rw [cell_of_row _ _ 0 _ 47 (0, 0) G0.out]; rfl
  have x1 : u0_6.cell? ⟨u0_1.heap.size, 0, none⟩ = some (.int .i64 0) := by rw [cell_of_row _ _ 0 _ 47 (0, 0) G1.out]; rfl
  have x2 : u0_6.cell? ⟨u0_2.heap.size, 0, none⟩ = some (.int .i64 0) := by rw [cell_of_row _ _ 0 _ 47 (0, 0) G2.out]; rfl
  go_wp2_with (first | ((try (refine gate_on (by rfl) ?_; dsimp only)); refine wpList_load_row rfl 28 _ rfl _ rfl 28 #[.pointer none] (0, 0) _ H8.out Tryz.underlying28 rfl (j28 _) ?_) | (refine wpList_load_row rfl 64 _ rfl _ rfl 64 #[.string s, .string { data := #[] }] (0, 0) _ H9.out Tryz.underlying64 rfl (j64 _ _) ?_) | (refine wpList_load_row rfl 25 _ rfl _ rfl 25 #[.slice A kn kc, a1, a2, a3] (0, 0) _ HF.out.x Tryz.underlying25 rfl i25 ?_))
  clear x0 x1 x2 G0 G1 G2
  refine (make_calls _ none _ id (.inl (.inl rfl))).mono ?_
  rintro e v0_0 ⟨rfl, b⟩
  replace HF := Aside1.mk (HF.out.step b)
  replace H8 := Aside1.mk (on H8.out b)
  clear b
  clear H9
  go_wp2_with (first | ((try (refine gate_on (by rfl) ?_; dsimp only)); refine wpList_load_row rfl 28 _ rfl _ rfl 28 #[.pointer none] (0, 0) _ H8.out Tryz.underlying28 rfl (j28 _) ?_))
  refine (remove_calls _ none _ (.inl (.inl rfl))).mono ?_
  rintro e v0_1 ⟨rfl, b⟩
  replace HF := Aside1.mk (HF.out.step b)
  replace H8 := Aside1.mk (on H8.out b)
  clear b
  go_wp2_with (first | ((try (refine gate_on (by rfl) ?_; dsimp only)); refine wpList_load_row rfl 28 _ rfl _ rfl 28 #[.pointer none] (0, 0) _ H8.out Tryz.underlying28 rfl (j28 _) ?_))
  refine (setv_calls _ none _ 1 (.inl (.inl rfl))).mono ?_
  rintro e v0_2 ⟨rfl, b⟩
  replace HF := Aside1.mk (HF.out.step b)
  replace H8 := Aside1.mk (on H8.out b)
  clear b
  go_wp2_with (first | ((try (refine gate_on (by rfl) ?_; dsimp only)); refine wpList_load_row rfl 28 _ rfl _ rfl 28 #[.pointer none] (0, 0) _ H8.out Tryz.underlying28 rfl (j28 _) ?_))
  refine (setx_calls _ none _ LA (.inl (.inl rfl))).mono ?_
  rintro e v0_3 ⟨rfl, b⟩
  replace HF := Aside1.mk (HF.out.step b)
  replace H8 := Aside1.mk (on H8.out b)
  clear b
  clear H8
  go_wp2_with fail
  rw [rounds_succ]
  have l1 : v0_3.cell? ⟨w.heap.size + 1 + 1 + 1 + 1, 1, none⟩ = some (.pointer (some ⟨w.heap.size + 1, 0, none⟩)) := by rw [cell_of_row v0_3 _ 1 _ 28 (0, 0) HF.out.l]; rfl
  have H8 := Aside1.mk (onAlloc (heap_new v0_3 (.cells #[.pointer (some ⟨w.heap.size + 1, 0, none⟩)] 28)) (.cells #[.string s, .string { data := #[] }] 64))
  have h9 := heap_new (v0_3.alloc (.cells #[.pointer (some ⟨w.heap.size + 1, 0, none⟩)] 28)) (.cells #[.string s, .string { data := #[] }] 64)
  rw [show (v0_3.alloc (.cells #[.pointer (some ⟨w.heap.size + 1, 0, none⟩)] 28)).heap.size = v0_3.heap.size + 1 by simp] at h9
  have H9 := Aside1.mk h9
  clear h9
  replace HF := Aside1.mk ((HF.out.alloc (.cells #[.pointer (some ⟨w.heap.size + 1, 0, none⟩)] 28)).alloc (.cells #[.string s, .string { data := #[] }] 64))
  go_wp2_with (first | ((try (refine gate_on (by rfl) ?_; dsimp only)); refine wpList_load_row rfl 28 _ rfl _ rfl 28 #[.pointer (some ⟨w.heap.size + 1, 0, none⟩)] (0, 0) _ H8.out Tryz.underlying28 rfl (j28 _) ?_) | (refine wpList_load_row rfl 64 _ rfl _ rfl 64 #[.string s, .string { data := #[] }] (0, 0) _ H9.out Tryz.underlying64 rfl (j64 _ _) ?_) | (refine wpList_load_row rfl 25 _ rfl _ rfl 25 #[.slice A kn kc, a1, a2, a3] (0, 0) _ HF.out.x Tryz.underlying25 rfl i25 ?_))
  refine (put_calls _ (some ⟨w.heap.size + 1, 0, none⟩) _ _ #[.slice A kn kc, a1, a2, a3] id HF.out.two).mono ?_
  rintro e u1_0 ⟨rfl, b⟩
  replace HF := Aside1.mk ((HF.out.step b).alloc (.cells Z47 47))
  replace H8 := Aside1.mk (onAlloc (on H8.out b) (.cells Z47 47))
  replace H9 := Aside1.mk (onAlloc (on H9.out b) (.cells Z47 47))
  have G0 := Aside1.mk (heap_new u1_0 (.cells Z47 47))
  clear b
  go_wp2_with (first | (refine wpList_store_same rfl 47 _ _ rfl _ Z47 rfl rfl 47 G0.out i47 a47 ?_) | ((try (refine gate_on (by rfl) ?_; dsimp only)); refine wpList_load_row rfl 28 _ rfl _ rfl 28 #[.pointer (some ⟨w.heap.size + 1, 0, none⟩)] (0, 0) _ H8.out Tryz.underlying28 rfl (j28 _) ?_) | (refine wpList_load_row rfl 64 _ rfl _ rfl 64 #[.string s, .string { data := #[] }] (0, 0) _ H9.out Tryz.underlying64 rfl (j64 _ _) ?_) | (refine wpList_load_row rfl 25 _ rfl _ rfl 25 #[.slice A kn kc, a1, a2, a3] (0, 0) _ HF.out.x Tryz.underlying25 rfl i25 ?_))
  refine (get_calls _ (some ⟨w.heap.size + 1, 0, none⟩) _ _ _ hs2 id HF.out.two HF.out.i).mono ?_
  rintro e u1_1 ⟨rfl, b⟩
  replace HF := Aside1.mk ((HF.out.step b).alloc (.cells Z47 47))
  replace H8 := Aside1.mk (onAlloc (on H8.out b) (.cells Z47 47))
  replace H9 := Aside1.mk (onAlloc (on H9.out b) (.cells Z47 47))
  replace G0 := Aside1.mk (onAlloc (on G0.out b) (.cells Z47 47))
  have G1 := Aside1.mk (heap_new u1_1 (.cells Z47 47))
  clear b
  go_wp2_with (first | (refine wpList_store_same rfl 47 _ _ rfl _ Z47 rfl rfl 47 G1.out i47 a47 ?_) | ((try (refine gate_on (by rfl) ?_; dsimp only)); refine wpList_load_row rfl 28 _ rfl _ rfl 28 #[.pointer (some ⟨w.heap.size + 1, 0, none⟩)] (0, 0) _ H8.out Tryz.underlying28 rfl (j28 _) ?_) | (refine wpList_load_row rfl 64 _ rfl _ rfl 64 #[.string s, .string { data := #[] }] (0, 0) _ H9.out Tryz.underlying64 rfl (j64 _ _) ?_) | (refine wpList_load_row rfl 25 _ rfl _ rfl 25 #[.slice A kn kc, a1, a2, a3] (0, 0) _ HF.out.x Tryz.underlying25 rfl i25 ?_))
  refine (delete_calls _ (some ⟨w.heap.size + 1, 0, none⟩) _ _ id id HF.out.two).mono ?_
  rintro e u1_2 ⟨rfl, b⟩
  replace HF := Aside1.mk ((HF.out.step b).alloc (.cells Z47 47))
  replace H8 := Aside1.mk (onAlloc (on H8.out b) (.cells Z47 47))
  replace H9 := Aside1.mk (onAlloc (on H9.out b) (.cells Z47 47))
  replace G0 := Aside1.mk (onAlloc (on G0.out b) (.cells Z47 47))
  replace G1 := Aside1.mk (onAlloc (on G1.out b) (.cells Z47 47))
  have G2 := Aside1.mk (heap_new u1_2 (.cells Z47 47))
  clear b
  go_wp2_with (first | (refine wpList_store_same rfl 47 _ _ rfl _ Z47 rfl rfl 47 G2.out i47 a47 ?_) | ((try (refine gate_on (by rfl) ?_; dsimp only)); refine wpList_load_row rfl 28 _ rfl _ rfl 28 #[.pointer (some ⟨w.heap.size + 1, 0, none⟩)] (0, 0) _ H8.out Tryz.underlying28 rfl (j28 _) ?_) | (refine wpList_load_row rfl 64 _ rfl _ rfl 64 #[.string s, .string { data := #[] }] (0, 0) _ H9.out Tryz.underlying64 rfl (j64 _ _) ?_) | (refine wpList_load_row rfl 25 _ rfl _ rfl 25 #[.slice A kn kc, a1, a2, a3] (0, 0) _ HF.out.x Tryz.underlying25 rfl i25 ?_))
  refine (versions_calls _ (some ⟨w.heap.size + 1, 0, none⟩) _ _ HF.out.two).mono ?_
  rintro e u1_3 ⟨rfl, b⟩
  replace HF := Aside1.mk (HF.out.step b)
  replace H8 := Aside1.mk (on H8.out b)
  replace H9 := Aside1.mk (on H9.out b)
  replace G0 := Aside1.mk (on G0.out b)
  replace G1 := Aside1.mk (on G1.out b)
  replace G2 := Aside1.mk (on G2.out b)
  clear b
  go_wp2_with (first | ((try (refine gate_on (by rfl) ?_; dsimp only)); refine wpList_load_row rfl 28 _ rfl _ rfl 28 #[.pointer (some ⟨w.heap.size + 1, 0, none⟩)] (0, 0) _ H8.out Tryz.underlying28 rfl (j28 _) ?_) | (refine wpList_load_row rfl 64 _ rfl _ rfl 64 #[.string s, .string { data := #[] }] (0, 0) _ H9.out Tryz.underlying64 rfl (j64 _ _) ?_) | (refine wpList_load_row rfl 25 _ rfl _ rfl 25 #[.slice A kn kc, a1, a2, a3] (0, 0) _ HF.out.x Tryz.underlying25 rfl i25 ?_))
  refine (extra_calls _ (some ⟨w.heap.size + 1, 0, none⟩) _ _ LA HF.out.two).mono ?_
  rintro e u1_4 ⟨rfl, b⟩
  replace HF := Aside1.mk (HF.out.step b)
  replace H8 := Aside1.mk (on H8.out b)
  replace H9 := Aside1.mk (on H9.out b)
  replace G0 := Aside1.mk (on G0.out b)
  replace G1 := Aside1.mk (on G1.out b)
  replace G2 := Aside1.mk (on G2.out b)
  clear b
  go_wp2_with (first | ((try (refine gate_on (by rfl) ?_; dsimp only)); refine wpList_load_row rfl 28 _ rfl _ rfl 28 #[.pointer (some ⟨w.heap.size + 1, 0, none⟩)] (0, 0) _ H8.out Tryz.underlying28 rfl (j28 _) ?_) | (refine wpList_load_row rfl 64 _ rfl _ rfl 64 #[.string s, .string { data := #[] }] (0, 0) _ H9.out Tryz.underlying64 rfl (j64 _ _) ?_) | (refine wpList_load_row rfl 25 _ rfl _ rfl 25 #[.slice A kn kc, a1, a2, a3] (0, 0) _ HF.out.x Tryz.underlying25 rfl i25 ?_))
  refine (versioning_calls _ (some ⟨w.heap.size + 1, 0, none⟩) _ _ HF.out.two).mono ?_
  rintro e u1_5 ⟨rfl, b⟩
  replace HF := Aside1.mk (HF.out.step b)
  replace H8 := Aside1.mk (on H8.out b)
  replace H9 := Aside1.mk (on H9.out b)
  replace G0 := Aside1.mk (on G0.out b)
  replace G1 := Aside1.mk (on G1.out b)
  replace G2 := Aside1.mk (on G2.out b)
  clear b
  go_wp2_with (first | ((try (refine gate_on (by rfl) ?_; dsimp only)); refine wpList_load_row rfl 28 _ rfl _ rfl 28 #[.pointer (some ⟨w.heap.size + 1, 0, none⟩)] (0, 0) _ H8.out Tryz.underlying28 rfl (j28 _) ?_) | (refine wpList_load_row rfl 64 _ rfl _ rfl 64 #[.string s, .string { data := #[] }] (0, 0) _ H9.out Tryz.underlying64 rfl (j64 _ _) ?_) | (refine wpList_load_row rfl 25 _ rfl _ rfl 25 #[.slice A kn kc, a1, a2, a3] (0, 0) _ HF.out.x Tryz.underlying25 rfl i25 ?_))
  refine (made_calls _ (some ⟨w.heap.size + 1, 0, none⟩) _ HF.out.two).mono ?_
  rintro e u1_6 ⟨rfl, b⟩
  replace HF := Aside1.mk (HF.out.step b)
  replace H8 := Aside1.mk (on H8.out b)
  replace H9 := Aside1.mk (on H9.out b)
  replace G0 := Aside1.mk (on G0.out b)
  replace G1 := Aside1.mk (on G1.out b)
  replace G2 := Aside1.mk (on G2.out b)
  clear b
  have x0 : u1_6.cell? ⟨u1_0.heap.size, 0, none⟩ = some (.int .i64 0) := by rw [cell_of_row _ _ 0 _ 47 (0, 0) G0.out]; rfl
  have x1 : u1_6.cell? ⟨u1_1.heap.size, 0, none⟩ = some (.int .i64 0) := by rw [cell_of_row _ _ 0 _ 47 (0, 0) G1.out]; rfl
  have x2 : u1_6.cell? ⟨u1_2.heap.size, 0, none⟩ = some (.int .i64 0) := by rw [cell_of_row _ _ 0 _ 47 (0, 0) G2.out]; rfl
  go_wp2_with (first | ((try (refine gate_on (by rfl) ?_; dsimp only)); refine wpList_load_row rfl 28 _ rfl _ rfl 28 #[.pointer (some ⟨w.heap.size + 1, 0, none⟩)] (0, 0) _ H8.out Tryz.underlying28 rfl (j28 _) ?_) | (refine wpList_load_row rfl 64 _ rfl _ rfl 64 #[.string s, .string { data := #[] }] (0, 0) _ H9.out Tryz.underlying64 rfl (j64 _ _) ?_) | (refine wpList_load_row rfl 25 _ rfl _ rfl 25 #[.slice A kn kc, a1, a2, a3] (0, 0) _ HF.out.x Tryz.underlying25 rfl i25 ?_))
  clear x0 x1 x2 G0 G1 G2
  refine (make_calls _ (some ⟨w.heap.size + 1, 0, none⟩) _ id HF.out.two).mono ?_
  rintro e v1_0 ⟨rfl, b⟩
  replace HF := Aside1.mk (HF.out.step b)
  replace H8 := Aside1.mk (on H8.out b)
  clear b
  clear H9
  go_wp2_with (first | ((try (refine gate_on (by rfl) ?_; dsimp only)); refine wpList_load_row rfl 28 _ rfl _ rfl 28 #[.pointer (some ⟨w.heap.size + 1, 0, none⟩)] (0, 0) _ H8.out Tryz.underlying28 rfl (j28 _) ?_))
  refine (remove_calls _ (some ⟨w.heap.size + 1, 0, none⟩) _ HF.out.two).mono ?_
  rintro e v1_1 ⟨rfl, b⟩
  replace HF := Aside1.mk (HF.out.step b)
  replace H8 := Aside1.mk (on H8.out b)
  clear b
  go_wp2_with (first | ((try (refine gate_on (by rfl) ?_; dsimp only)); refine wpList_load_row rfl 28 _ rfl _ rfl 28 #[.pointer (some ⟨w.heap.size + 1, 0, none⟩)] (0, 0) _ H8.out Tryz.underlying28 rfl (j28 _) ?_))
  refine (setv_calls _ (some ⟨w.heap.size + 1, 0, none⟩) _ 1 HF.out.two).mono ?_
  rintro e v1_2 ⟨rfl, b⟩
  replace HF := Aside1.mk (HF.out.step b)
  replace H8 := Aside1.mk (on H8.out b)
  clear b
  go_wp2_with (first | ((try (refine gate_on (by rfl) ?_; dsimp only)); refine wpList_load_row rfl 28 _ rfl _ rfl 28 #[.pointer (some ⟨w.heap.size + 1, 0, none⟩)] (0, 0) _ H8.out Tryz.underlying28 rfl (j28 _) ?_))
  refine (setx_calls _ (some ⟨w.heap.size + 1, 0, none⟩) _ LA HF.out.two).mono ?_
  rintro e v1_3 ⟨rfl, b⟩
  replace HF := Aside1.mk (HF.out.step b)
  replace H8 := Aside1.mk (on H8.out b)
  clear b
  clear H8
  go_wp2_with fail
  rw [rounds_succ]
  have l2 : v1_3.cell? ⟨w.heap.size + 1 + 1 + 1 + 1, 2, none⟩ = some (.pointer (some ⟨w.heap.size + 1 + 1 + 1, 0, none⟩)) := by rw [cell_of_row v1_3 _ 2 _ 28 (0, 0) HF.out.l]; rfl
  have H8 := Aside1.mk (onAlloc (heap_new v1_3 (.cells #[.pointer (some ⟨w.heap.size + 1 + 1 + 1, 0, none⟩)] 28)) (.cells #[.string s, .string { data := #[] }] 64))
  have h9 := heap_new (v1_3.alloc (.cells #[.pointer (some ⟨w.heap.size + 1 + 1 + 1, 0, none⟩)] 28)) (.cells #[.string s, .string { data := #[] }] 64)
  rw [show (v1_3.alloc (.cells #[.pointer (some ⟨w.heap.size + 1 + 1 + 1, 0, none⟩)] 28)).heap.size = v1_3.heap.size + 1 by simp] at h9
  have H9 := Aside1.mk h9
  clear h9
  replace HF := Aside1.mk ((HF.out.alloc (.cells #[.pointer (some ⟨w.heap.size + 1 + 1 + 1, 0, none⟩)] 28)).alloc (.cells #[.string s, .string { data := #[] }] 64))
  go_wp2_with (first | ((try (refine gate_on (by rfl) ?_; dsimp only)); refine wpList_load_row rfl 28 _ rfl _ rfl 28 #[.pointer (some ⟨w.heap.size + 1 + 1 + 1, 0, none⟩)] (0, 0) _ H8.out Tryz.underlying28 rfl (j28 _) ?_) | (refine wpList_load_row rfl 64 _ rfl _ rfl 64 #[.string s, .string { data := #[] }] (0, 0) _ H9.out Tryz.underlying64 rfl (j64 _ _) ?_) | (refine wpList_load_row rfl 25 _ rfl _ rfl 25 #[.slice A kn kc, a1, a2, a3] (0, 0) _ HF.out.x Tryz.underlying25 rfl i25 ?_))
  refine (put_calls _ (some ⟨w.heap.size + 1 + 1 + 1, 0, none⟩) _ _ #[.slice A kn kc, a1, a2, a3] id HF.out.three).mono ?_
  rintro e u2_0 ⟨rfl, b⟩
  replace HF := Aside1.mk ((HF.out.step b).alloc (.cells Z47 47))
  replace H8 := Aside1.mk (onAlloc (on H8.out b) (.cells Z47 47))
  replace H9 := Aside1.mk (onAlloc (on H9.out b) (.cells Z47 47))
  have G0 := Aside1.mk (heap_new u2_0 (.cells Z47 47))
  clear b
  go_wp2_with (first | (refine wpList_store_same rfl 47 _ _ rfl _ Z47 rfl rfl 47 G0.out i47 a47 ?_) | ((try (refine gate_on (by rfl) ?_; dsimp only)); refine wpList_load_row rfl 28 _ rfl _ rfl 28 #[.pointer (some ⟨w.heap.size + 1 + 1 + 1, 0, none⟩)] (0, 0) _ H8.out Tryz.underlying28 rfl (j28 _) ?_) | (refine wpList_load_row rfl 64 _ rfl _ rfl 64 #[.string s, .string { data := #[] }] (0, 0) _ H9.out Tryz.underlying64 rfl (j64 _ _) ?_) | (refine wpList_load_row rfl 25 _ rfl _ rfl 25 #[.slice A kn kc, a1, a2, a3] (0, 0) _ HF.out.x Tryz.underlying25 rfl i25 ?_))
  refine (get_calls _ (some ⟨w.heap.size + 1 + 1 + 1, 0, none⟩) _ _ _ hs2 id HF.out.three HF.out.i).mono ?_
  rintro e u2_1 ⟨rfl, b⟩
  replace HF := Aside1.mk ((HF.out.step b).alloc (.cells Z47 47))
  replace H8 := Aside1.mk (onAlloc (on H8.out b) (.cells Z47 47))
  replace H9 := Aside1.mk (onAlloc (on H9.out b) (.cells Z47 47))
  replace G0 := Aside1.mk (onAlloc (on G0.out b) (.cells Z47 47))
  have G1 := Aside1.mk (heap_new u2_1 (.cells Z47 47))
  clear b
  go_wp2_with (first | (refine wpList_store_same rfl 47 _ _ rfl _ Z47 rfl rfl 47 G1.out i47 a47 ?_) | ((try (refine gate_on (by rfl) ?_; dsimp only)); refine wpList_load_row rfl 28 _ rfl _ rfl 28 #[.pointer (some ⟨w.heap.size + 1 + 1 + 1, 0, none⟩)] (0, 0) _ H8.out Tryz.underlying28 rfl (j28 _) ?_) | (refine wpList_load_row rfl 64 _ rfl _ rfl 64 #[.string s, .string { data := #[] }] (0, 0) _ H9.out Tryz.underlying64 rfl (j64 _ _) ?_) | (refine wpList_load_row rfl 25 _ rfl _ rfl 25 #[.slice A kn kc, a1, a2, a3] (0, 0) _ HF.out.x Tryz.underlying25 rfl i25 ?_))
  refine (delete_calls _ (some ⟨w.heap.size + 1 + 1 + 1, 0, none⟩) _ _ id id HF.out.three).mono ?_
  rintro e u2_2 ⟨rfl, b⟩
  replace HF := Aside1.mk ((HF.out.step b).alloc (.cells Z47 47))
  replace H8 := Aside1.mk (onAlloc (on H8.out b) (.cells Z47 47))
  replace H9 := Aside1.mk (onAlloc (on H9.out b) (.cells Z47 47))
  replace G0 := Aside1.mk (onAlloc (on G0.out b) (.cells Z47 47))
  replace G1 := Aside1.mk (onAlloc (on G1.out b) (.cells Z47 47))
  have G2 := Aside1.mk (heap_new u2_2 (.cells Z47 47))
  clear b
  go_wp2_with (first | (refine wpList_store_same rfl 47 _ _ rfl _ Z47 rfl rfl 47 G2.out i47 a47 ?_) | ((try (refine gate_on (by rfl) ?_; dsimp only)); refine wpList_load_row rfl 28 _ rfl _ rfl 28 #[.pointer (some ⟨w.heap.size + 1 + 1 + 1, 0, none⟩)] (0, 0) _ H8.out Tryz.underlying28 rfl (j28 _) ?_) | (refine wpList_load_row rfl 64 _ rfl _ rfl 64 #[.string s, .string { data := #[] }] (0, 0) _ H9.out Tryz.underlying64 rfl (j64 _ _) ?_) | (refine wpList_load_row rfl 25 _ rfl _ rfl 25 #[.slice A kn kc, a1, a2, a3] (0, 0) _ HF.out.x Tryz.underlying25 rfl i25 ?_))
  refine (versions_calls _ (some ⟨w.heap.size + 1 + 1 + 1, 0, none⟩) _ _ HF.out.three).mono ?_
  rintro e u2_3 ⟨rfl, b⟩
  replace HF := Aside1.mk (HF.out.step b)
  replace H8 := Aside1.mk (on H8.out b)
  replace H9 := Aside1.mk (on H9.out b)
  replace G0 := Aside1.mk (on G0.out b)
  replace G1 := Aside1.mk (on G1.out b)
  replace G2 := Aside1.mk (on G2.out b)
  clear b
  go_wp2_with (first | ((try (refine gate_on (by rfl) ?_; dsimp only)); refine wpList_load_row rfl 28 _ rfl _ rfl 28 #[.pointer (some ⟨w.heap.size + 1 + 1 + 1, 0, none⟩)] (0, 0) _ H8.out Tryz.underlying28 rfl (j28 _) ?_) | (refine wpList_load_row rfl 64 _ rfl _ rfl 64 #[.string s, .string { data := #[] }] (0, 0) _ H9.out Tryz.underlying64 rfl (j64 _ _) ?_) | (refine wpList_load_row rfl 25 _ rfl _ rfl 25 #[.slice A kn kc, a1, a2, a3] (0, 0) _ HF.out.x Tryz.underlying25 rfl i25 ?_))
  refine (extra_calls _ (some ⟨w.heap.size + 1 + 1 + 1, 0, none⟩) _ _ LA HF.out.three).mono ?_
  rintro e u2_4 ⟨rfl, b⟩
  replace HF := Aside1.mk (HF.out.step b)
  replace H8 := Aside1.mk (on H8.out b)
  replace H9 := Aside1.mk (on H9.out b)
  replace G0 := Aside1.mk (on G0.out b)
  replace G1 := Aside1.mk (on G1.out b)
  replace G2 := Aside1.mk (on G2.out b)
  clear b
  go_wp2_with (first | ((try (refine gate_on (by rfl) ?_; dsimp only)); refine wpList_load_row rfl 28 _ rfl _ rfl 28 #[.pointer (some ⟨w.heap.size + 1 + 1 + 1, 0, none⟩)] (0, 0) _ H8.out Tryz.underlying28 rfl (j28 _) ?_) | (refine wpList_load_row rfl 64 _ rfl _ rfl 64 #[.string s, .string { data := #[] }] (0, 0) _ H9.out Tryz.underlying64 rfl (j64 _ _) ?_) | (refine wpList_load_row rfl 25 _ rfl _ rfl 25 #[.slice A kn kc, a1, a2, a3] (0, 0) _ HF.out.x Tryz.underlying25 rfl i25 ?_))
  refine (versioning_calls _ (some ⟨w.heap.size + 1 + 1 + 1, 0, none⟩) _ _ HF.out.three).mono ?_
  rintro e u2_5 ⟨rfl, b⟩
  replace HF := Aside1.mk (HF.out.step b)
  replace H8 := Aside1.mk (on H8.out b)
  replace H9 := Aside1.mk (on H9.out b)
  replace G0 := Aside1.mk (on G0.out b)
  replace G1 := Aside1.mk (on G1.out b)
  replace G2 := Aside1.mk (on G2.out b)
  clear b
  go_wp2_with (first | ((try (refine gate_on (by rfl) ?_; dsimp only)); refine wpList_load_row rfl 28 _ rfl _ rfl 28 #[.pointer (some ⟨w.heap.size + 1 + 1 + 1, 0, none⟩)] (0, 0) _ H8.out Tryz.underlying28 rfl (j28 _) ?_) | (refine wpList_load_row rfl 64 _ rfl _ rfl 64 #[.string s, .string { data := #[] }] (0, 0) _ H9.out Tryz.underlying64 rfl (j64 _ _) ?_) | (refine wpList_load_row rfl 25 _ rfl _ rfl 25 #[.slice A kn kc, a1, a2, a3] (0, 0) _ HF.out.x Tryz.underlying25 rfl i25 ?_))
  refine (made_calls _ (some ⟨w.heap.size + 1 + 1 + 1, 0, none⟩) _ HF.out.three).mono ?_
  rintro e u2_6 ⟨rfl, b⟩
  replace HF := Aside1.mk (HF.out.step b)
  replace H8 := Aside1.mk (on H8.out b)
  replace H9 := Aside1.mk (on H9.out b)
  replace G0 := Aside1.mk (on G0.out b)
  replace G1 := Aside1.mk (on G1.out b)
  replace G2 := Aside1.mk (on G2.out b)
  clear b
  have x0 : u2_6.cell? ⟨u2_0.heap.size, 0, none⟩ = some (.int .i64 0) := by rw [cell_of_row _ _ 0 _ 47 (0, 0) G0.out]; rfl
  have x1 : u2_6.cell? ⟨u2_1.heap.size, 0, none⟩ = some (.int .i64 0) := by rw [cell_of_row _ _ 0 _ 47 (0, 0) G1.out]; rfl
  have x2 : u2_6.cell? ⟨u2_2.heap.size, 0, none⟩ = some (.int .i64 0) := by rw [cell_of_row _ _ 0 _ 47 (0, 0) G2.out]; rfl
  go_wp2_with (first | ((try (refine gate_on (by rfl) ?_; dsimp only)); refine wpList_load_row rfl 28 _ rfl _ rfl 28 #[.pointer (some ⟨w.heap.size + 1 + 1 + 1, 0, none⟩)] (0, 0) _ H8.out Tryz.underlying28 rfl (j28 _) ?_) | (refine wpList_load_row rfl 64 _ rfl _ rfl 64 #[.string s, .string { data := #[] }] (0, 0) _ H9.out Tryz.underlying64 rfl (j64 _ _) ?_) | (refine wpList_load_row rfl 25 _ rfl _ rfl 25 #[.slice A kn kc, a1, a2, a3] (0, 0) _ HF.out.x Tryz.underlying25 rfl i25 ?_))
  clear x0 x1 x2 G0 G1 G2
  refine (make_calls _ (some ⟨w.heap.size + 1 + 1 + 1, 0, none⟩) _ id HF.out.three).mono ?_
  rintro e v2_0 ⟨rfl, b⟩
  replace HF := Aside1.mk (HF.out.step b)
  replace H8 := Aside1.mk (on H8.out b)
  clear b
  clear H9
  go_wp2_with (first | ((try (refine gate_on (by rfl) ?_; dsimp only)); refine wpList_load_row rfl 28 _ rfl _ rfl 28 #[.pointer (some ⟨w.heap.size + 1 + 1 + 1, 0, none⟩)] (0, 0) _ H8.out Tryz.underlying28 rfl (j28 _) ?_))
  refine (remove_calls _ (some ⟨w.heap.size + 1 + 1 + 1, 0, none⟩) _ HF.out.three).mono ?_
  rintro e v2_1 ⟨rfl, b⟩
  replace HF := Aside1.mk (HF.out.step b)
  replace H8 := Aside1.mk (on H8.out b)
  clear b
  go_wp2_with (first | ((try (refine gate_on (by rfl) ?_; dsimp only)); refine wpList_load_row rfl 28 _ rfl _ rfl 28 #[.pointer (some ⟨w.heap.size + 1 + 1 + 1, 0, none⟩)] (0, 0) _ H8.out Tryz.underlying28 rfl (j28 _) ?_))
  refine (setv_calls _ (some ⟨w.heap.size + 1 + 1 + 1, 0, none⟩) _ 1 HF.out.three).mono ?_
  rintro e v2_2 ⟨rfl, b⟩
  replace HF := Aside1.mk (HF.out.step b)
  replace H8 := Aside1.mk (on H8.out b)
  clear b
  go_wp2_with (first | ((try (refine gate_on (by rfl) ?_; dsimp only)); refine wpList_load_row rfl 28 _ rfl _ rfl 28 #[.pointer (some ⟨w.heap.size + 1 + 1 + 1, 0, none⟩)] (0, 0) _ H8.out Tryz.underlying28 rfl (j28 _) ?_))
  refine (setx_calls _ (some ⟨w.heap.size + 1 + 1 + 1, 0, none⟩) _ LA HF.out.three).mono ?_
  rintro e v2_3 ⟨rfl, b⟩
  replace HF := Aside1.mk (HF.out.step b)
  replace H8 := Aside1.mk (on H8.out b)
  clear b
  clear H8
  go_wp2_with fail
  rw [rounds_succ]
  go_wp2
  go_ret
  exact ⟨rfl, HF.out.b⟩

set_option maxRecDepth 100000 in
set_option maxHeartbeats 8000000 in
theorem law_great (s : ByteArray) (A : Option Addr) (kn kc : Nat) (a1 a2 a3 : Value) (id : Int) (hg : 100 < s.size) (hg2 : s.size ≤ 140737488351232) (w : World) (hl : Lib0 w) :
    Calls Tryz.prog 4 #[.string s, .agg #[.slice A kn kc, a1, a2, a3], .int .i64 id] w fun e w' => e = .returned (.bool true) ∧ Below w.heap.size w w' := by
  have hs2 : (s.extract 0 100).size ≤ 200 := by simp; omega
  have HFs := Aside1.mk (fun y h0 => F.start w #[.slice A kn kc, a1, a2, a3] y h0 hl)
  clear hl
  go_enter Tryz.func4, Tryz.ntmps4
  go_wp2_with fail
  have HF := Aside1.mk (HFs.out Tryz.zeroCells61 (by kernel_rfl))
  clear HFs
  unfold W0 at HF
  generalize (((((w.alloc (.cells #[.slice A kn kc, a1, a2, a3] 25)).alloc (.cells #[.pointer none] 33)).alloc (.cells Tryz.zeroCells61 61)).alloc (.cells #[.pointer (some ⟨w.heap.size + 1 + 1, 0, none⟩)] 33)).alloc (.cells #[.pointer none, .pointer (some ⟨w.heap.size + 1, 0, none⟩), .pointer (some ⟨w.heap.size + 1 + 1 + 1, 0, none⟩)] 28)) = W at *
  have l0 : W.cell? ⟨w.heap.size + 1 + 1 + 1 + 1, 0, none⟩ = some (.pointer none) := by rw [cell_of_row W _ 0 _ 28 (0, 0) HF.out.l]; rfl
  refine wp_loop_rounds 4 ?_
  rw [rounds_succ]
  have H8 := Aside1.mk (onAlloc (heap_new W (.cells #[.pointer none] 28)) (.cells #[.string (s.extract 0 100), .string { data := #[] }] 64))
  have h9 := heap_new (W.alloc (.cells #[.pointer none] 28)) (.cells #[.string (s.extract 0 100), .string { data := #[] }] 64)
  rw [show (W.alloc (.cells #[.pointer none] 28)).heap.size = W.heap.size + 1 by simp] at h9
  have H9 := Aside1.mk h9
  clear h9
  replace HF := Aside1.mk ((HF.out.alloc (.cells #[.pointer none] 28)).alloc (.cells #[.string (s.extract 0 100), .string { data := #[] }] 64))
  go_wp2_with (first | ((try (refine gate_on (by rfl) ?_; dsimp only)); refine wpList_load_row rfl 28 _ rfl _ rfl 28 #[.pointer none] (0, 0) _ H8.out Tryz.underlying28 rfl (j28 _) ?_) | (refine wpList_load_row rfl 64 _ rfl _ rfl 64 #[.string (s.extract 0 100), .string { data := #[] }] (0, 0) _ H9.out Tryz.underlying64 rfl (j64 _ _) ?_) | (refine wpList_load_row rfl 25 _ rfl _ rfl 25 #[.slice A kn kc, a1, a2, a3] (0, 0) _ HF.out.x Tryz.underlying25 rfl i25 ?_))
  refine (put_calls _ none _ _ #[.slice A kn kc, a1, a2, a3] id (.inl (.inl rfl))).mono ?_
  rintro e u0_0 ⟨rfl, b⟩
  replace HF := Aside1.mk ((HF.out.step b).alloc (.cells Z47 47))
  replace H8 := Aside1.mk (onAlloc (on H8.out b) (.cells Z47 47))
  replace H9 := Aside1.mk (onAlloc (on H9.out b) (.cells Z47 47))
  have G0 := Aside1.mk (heap_new u0_0 (.cells Z47 47))
  clear b
  go_wp2_with (first | (refine wpList_store_same rfl 47 _ _ rfl _ Z47 rfl rfl 47 G0.out i47 a47 ?_) | ((try (refine gate_on (by rfl) ?_; dsimp only)); refine wpList_load_row rfl 28 _ rfl _ rfl 28 #[.pointer none] (0, 0) _ H8.out Tryz.underlying28 rfl (j28 _) ?_) | (refine wpList_load_row rfl 64 _ rfl _ rfl 64 #[.string (s.extract 0 100), .string { data := #[] }] (0, 0) _ H9.out Tryz.underlying64 rfl (j64 _ _) ?_) | (refine wpList_load_row rfl 25 _ rfl _ rfl 25 #[.slice A kn kc, a1, a2, a3] (0, 0) _ HF.out.x Tryz.underlying25 rfl i25 ?_))
  refine (get_calls _ none _ _ _ hs2 id (.inl (.inl rfl)) HF.out.i).mono ?_
  rintro e u0_1 ⟨rfl, b⟩
  replace HF := Aside1.mk ((HF.out.step b).alloc (.cells Z47 47))
  replace H8 := Aside1.mk (onAlloc (on H8.out b) (.cells Z47 47))
  replace H9 := Aside1.mk (onAlloc (on H9.out b) (.cells Z47 47))
  replace G0 := Aside1.mk (onAlloc (on G0.out b) (.cells Z47 47))
  have G1 := Aside1.mk (heap_new u0_1 (.cells Z47 47))
  clear b
  go_wp2_with (first | (refine wpList_store_same rfl 47 _ _ rfl _ Z47 rfl rfl 47 G1.out i47 a47 ?_) | ((try (refine gate_on (by rfl) ?_; dsimp only)); refine wpList_load_row rfl 28 _ rfl _ rfl 28 #[.pointer none] (0, 0) _ H8.out Tryz.underlying28 rfl (j28 _) ?_) | (refine wpList_load_row rfl 64 _ rfl _ rfl 64 #[.string (s.extract 0 100), .string { data := #[] }] (0, 0) _ H9.out Tryz.underlying64 rfl (j64 _ _) ?_) | (refine wpList_load_row rfl 25 _ rfl _ rfl 25 #[.slice A kn kc, a1, a2, a3] (0, 0) _ HF.out.x Tryz.underlying25 rfl i25 ?_))
  refine (delete_calls _ none _ _ id id (.inl (.inl rfl))).mono ?_
  rintro e u0_2 ⟨rfl, b⟩
  replace HF := Aside1.mk ((HF.out.step b).alloc (.cells Z47 47))
  replace H8 := Aside1.mk (onAlloc (on H8.out b) (.cells Z47 47))
  replace H9 := Aside1.mk (onAlloc (on H9.out b) (.cells Z47 47))
  replace G0 := Aside1.mk (onAlloc (on G0.out b) (.cells Z47 47))
  replace G1 := Aside1.mk (onAlloc (on G1.out b) (.cells Z47 47))
  have G2 := Aside1.mk (heap_new u0_2 (.cells Z47 47))
  clear b
  go_wp2_with (first | (refine wpList_store_same rfl 47 _ _ rfl _ Z47 rfl rfl 47 G2.out i47 a47 ?_) | ((try (refine gate_on (by rfl) ?_; dsimp only)); refine wpList_load_row rfl 28 _ rfl _ rfl 28 #[.pointer none] (0, 0) _ H8.out Tryz.underlying28 rfl (j28 _) ?_) | (refine wpList_load_row rfl 64 _ rfl _ rfl 64 #[.string (s.extract 0 100), .string { data := #[] }] (0, 0) _ H9.out Tryz.underlying64 rfl (j64 _ _) ?_) | (refine wpList_load_row rfl 25 _ rfl _ rfl 25 #[.slice A kn kc, a1, a2, a3] (0, 0) _ HF.out.x Tryz.underlying25 rfl i25 ?_))
  refine (versions_calls _ none _ _ (.inl (.inl rfl))).mono ?_
  rintro e u0_3 ⟨rfl, b⟩
  replace HF := Aside1.mk (HF.out.step b)
  replace H8 := Aside1.mk (on H8.out b)
  replace H9 := Aside1.mk (on H9.out b)
  replace G0 := Aside1.mk (on G0.out b)
  replace G1 := Aside1.mk (on G1.out b)
  replace G2 := Aside1.mk (on G2.out b)
  clear b
  go_wp2_with (first | ((try (refine gate_on (by rfl) ?_; dsimp only)); refine wpList_load_row rfl 28 _ rfl _ rfl 28 #[.pointer none] (0, 0) _ H8.out Tryz.underlying28 rfl (j28 _) ?_) | (refine wpList_load_row rfl 64 _ rfl _ rfl 64 #[.string (s.extract 0 100), .string { data := #[] }] (0, 0) _ H9.out Tryz.underlying64 rfl (j64 _ _) ?_) | (refine wpList_load_row rfl 25 _ rfl _ rfl 25 #[.slice A kn kc, a1, a2, a3] (0, 0) _ HF.out.x Tryz.underlying25 rfl i25 ?_))
  refine (extra_calls _ none _ _ LA (.inl (.inl rfl))).mono ?_
  rintro e u0_4 ⟨rfl, b⟩
  replace HF := Aside1.mk (HF.out.step b)
  replace H8 := Aside1.mk (on H8.out b)
  replace H9 := Aside1.mk (on H9.out b)
  replace G0 := Aside1.mk (on G0.out b)
  replace G1 := Aside1.mk (on G1.out b)
  replace G2 := Aside1.mk (on G2.out b)
  clear b
  go_wp2_with (first | ((try (refine gate_on (by rfl) ?_; dsimp only)); refine wpList_load_row rfl 28 _ rfl _ rfl 28 #[.pointer none] (0, 0) _ H8.out Tryz.underlying28 rfl (j28 _) ?_) | (refine wpList_load_row rfl 64 _ rfl _ rfl 64 #[.string (s.extract 0 100), .string { data := #[] }] (0, 0) _ H9.out Tryz.underlying64 rfl (j64 _ _) ?_) | (refine wpList_load_row rfl 25 _ rfl _ rfl 25 #[.slice A kn kc, a1, a2, a3] (0, 0) _ HF.out.x Tryz.underlying25 rfl i25 ?_))
  refine (versioning_calls _ none _ _ (.inl (.inl rfl))).mono ?_
  rintro e u0_5 ⟨rfl, b⟩
  replace HF := Aside1.mk (HF.out.step b)
  replace H8 := Aside1.mk (on H8.out b)
  replace H9 := Aside1.mk (on H9.out b)
  replace G0 := Aside1.mk (on G0.out b)
  replace G1 := Aside1.mk (on G1.out b)
  replace G2 := Aside1.mk (on G2.out b)
  clear b
  go_wp2_with (first | ((try (refine gate_on (by rfl) ?_; dsimp only)); refine wpList_load_row rfl 28 _ rfl _ rfl 28 #[.pointer none] (0, 0) _ H8.out Tryz.underlying28 rfl (j28 _) ?_) | (refine wpList_load_row rfl 64 _ rfl _ rfl 64 #[.string (s.extract 0 100), .string { data := #[] }] (0, 0) _ H9.out Tryz.underlying64 rfl (j64 _ _) ?_) | (refine wpList_load_row rfl 25 _ rfl _ rfl 25 #[.slice A kn kc, a1, a2, a3] (0, 0) _ HF.out.x Tryz.underlying25 rfl i25 ?_))
  refine (made_calls _ none _ (.inl (.inl rfl))).mono ?_
  rintro e u0_6 ⟨rfl, b⟩
  replace HF := Aside1.mk (HF.out.step b)
  replace H8 := Aside1.mk (on H8.out b)
  replace H9 := Aside1.mk (on H9.out b)
  replace G0 := Aside1.mk (on G0.out b)
  replace G1 := Aside1.mk (on G1.out b)
  replace G2 := Aside1.mk (on G2.out b)
  clear b
  have x0 : u0_6.cell? ⟨u0_0.heap.size, 0, none⟩ = some (.int .i64 0) := by rw [cell_of_row _ _ 0 _ 47 (0, 0) G0.out]; rfl
  have x1 : u0_6.cell? ⟨u0_1.heap.size, 0, none⟩ = some (.int .i64 0) := by rw [cell_of_row _ _ 0 _ 47 (0, 0) G1.out]; rfl
  have x2 : u0_6.cell? ⟨u0_2.heap.size, 0, none⟩ = some (.int .i64 0) := by rw [cell_of_row _ _ 0 _ 47 (0, 0) G2.out]; rfl
  go_wp2_with (first | ((try (refine gate_on (by rfl) ?_; dsimp only)); refine wpList_load_row rfl 28 _ rfl _ rfl 28 #[.pointer none] (0, 0) _ H8.out Tryz.underlying28 rfl (j28 _) ?_) | (refine wpList_load_row rfl 64 _ rfl _ rfl 64 #[.string (s.extract 0 100), .string { data := #[] }] (0, 0) _ H9.out Tryz.underlying64 rfl (j64 _ _) ?_) | (refine wpList_load_row rfl 25 _ rfl _ rfl 25 #[.slice A kn kc, a1, a2, a3] (0, 0) _ HF.out.x Tryz.underlying25 rfl i25 ?_))
  clear x0 x1 x2 G0 G1 G2
  refine (make_calls _ none _ id (.inl (.inl rfl))).mono ?_
  rintro e v0_0 ⟨rfl, b⟩
  replace HF := Aside1.mk (HF.out.step b)
  replace H8 := Aside1.mk (on H8.out b)
  clear b
  clear H9
  go_wp2_with (first | ((try (refine gate_on (by rfl) ?_; dsimp only)); refine wpList_load_row rfl 28 _ rfl _ rfl 28 #[.pointer none] (0, 0) _ H8.out Tryz.underlying28 rfl (j28 _) ?_))
  refine (remove_calls _ none _ (.inl (.inl rfl))).mono ?_
  rintro e v0_1 ⟨rfl, b⟩
  replace HF := Aside1.mk (HF.out.step b)
  replace H8 := Aside1.mk (on H8.out b)
  clear b
  go_wp2_with (first | ((try (refine gate_on (by rfl) ?_; dsimp only)); refine wpList_load_row rfl 28 _ rfl _ rfl 28 #[.pointer none] (0, 0) _ H8.out Tryz.underlying28 rfl (j28 _) ?_))
  refine (setv_calls _ none _ 1 (.inl (.inl rfl))).mono ?_
  rintro e v0_2 ⟨rfl, b⟩
  replace HF := Aside1.mk (HF.out.step b)
  replace H8 := Aside1.mk (on H8.out b)
  clear b
  go_wp2_with (first | ((try (refine gate_on (by rfl) ?_; dsimp only)); refine wpList_load_row rfl 28 _ rfl _ rfl 28 #[.pointer none] (0, 0) _ H8.out Tryz.underlying28 rfl (j28 _) ?_))
  refine (setx_calls _ none _ LA (.inl (.inl rfl))).mono ?_
  rintro e v0_3 ⟨rfl, b⟩
  replace HF := Aside1.mk (HF.out.step b)
  replace H8 := Aside1.mk (on H8.out b)
  clear b
  clear H8
  go_wp2_with fail
  rw [rounds_succ]
  have l1 : v0_3.cell? ⟨w.heap.size + 1 + 1 + 1 + 1, 1, none⟩ = some (.pointer (some ⟨w.heap.size + 1, 0, none⟩)) := by rw [cell_of_row v0_3 _ 1 _ 28 (0, 0) HF.out.l]; rfl
  have H8 := Aside1.mk (onAlloc (heap_new v0_3 (.cells #[.pointer (some ⟨w.heap.size + 1, 0, none⟩)] 28)) (.cells #[.string (s.extract 0 100), .string { data := #[] }] 64))
  have h9 := heap_new (v0_3.alloc (.cells #[.pointer (some ⟨w.heap.size + 1, 0, none⟩)] 28)) (.cells #[.string (s.extract 0 100), .string { data := #[] }] 64)
  rw [show (v0_3.alloc (.cells #[.pointer (some ⟨w.heap.size + 1, 0, none⟩)] 28)).heap.size = v0_3.heap.size + 1 by simp] at h9
  have H9 := Aside1.mk h9
  clear h9
  replace HF := Aside1.mk ((HF.out.alloc (.cells #[.pointer (some ⟨w.heap.size + 1, 0, none⟩)] 28)).alloc (.cells #[.string (s.extract 0 100), .string { data := #[] }] 64))
  go_wp2_with (first | ((try (refine gate_on (by rfl) ?_; dsimp only)); refine wpList_load_row rfl 28 _ rfl _ rfl 28 #[.pointer (some ⟨w.heap.size + 1, 0, none⟩)] (0, 0) _ H8.out Tryz.underlying28 rfl (j28 _) ?_) | (refine wpList_load_row rfl 64 _ rfl _ rfl 64 #[.string (s.extract 0 100), .string { data := #[] }] (0, 0) _ H9.out Tryz.underlying64 rfl (j64 _ _) ?_) | (refine wpList_load_row rfl 25 _ rfl _ rfl 25 #[.slice A kn kc, a1, a2, a3] (0, 0) _ HF.out.x Tryz.underlying25 rfl i25 ?_))
  refine (put_calls _ (some ⟨w.heap.size + 1, 0, none⟩) _ _ #[.slice A kn kc, a1, a2, a3] id HF.out.two).mono ?_
  rintro e u1_0 ⟨rfl, b⟩
  replace HF := Aside1.mk ((HF.out.step b).alloc (.cells Z47 47))
  replace H8 := Aside1.mk (onAlloc (on H8.out b) (.cells Z47 47))
  replace H9 := Aside1.mk (onAlloc (on H9.out b) (.cells Z47 47))
  have G0 := Aside1.mk (heap_new u1_0 (.cells Z47 47))
  clear b
  go_wp2_with (first | (refine wpList_store_same rfl 47 _ _ rfl _ Z47 rfl rfl 47 G0.out i47 a47 ?_) | ((try (refine gate_on (by rfl) ?_; dsimp only)); refine wpList_load_row rfl 28 _ rfl _ rfl 28 #[.pointer (some ⟨w.heap.size + 1, 0, none⟩)] (0, 0) _ H8.out Tryz.underlying28 rfl (j28 _) ?_) | (refine wpList_load_row rfl 64 _ rfl _ rfl 64 #[.string (s.extract 0 100), .string { data := #[] }] (0, 0) _ H9.out Tryz.underlying64 rfl (j64 _ _) ?_) | (refine wpList_load_row rfl 25 _ rfl _ rfl 25 #[.slice A kn kc, a1, a2, a3] (0, 0) _ HF.out.x Tryz.underlying25 rfl i25 ?_))
  refine (get_calls _ (some ⟨w.heap.size + 1, 0, none⟩) _ _ _ hs2 id HF.out.two HF.out.i).mono ?_
  rintro e u1_1 ⟨rfl, b⟩
  replace HF := Aside1.mk ((HF.out.step b).alloc (.cells Z47 47))
  replace H8 := Aside1.mk (onAlloc (on H8.out b) (.cells Z47 47))
  replace H9 := Aside1.mk (onAlloc (on H9.out b) (.cells Z47 47))
  replace G0 := Aside1.mk (onAlloc (on G0.out b) (.cells Z47 47))
  have G1 := Aside1.mk (heap_new u1_1 (.cells Z47 47))
  clear b
  go_wp2_with (first | (refine wpList_store_same rfl 47 _ _ rfl _ Z47 rfl rfl 47 G1.out i47 a47 ?_) | ((try (refine gate_on (by rfl) ?_; dsimp only)); refine wpList_load_row rfl 28 _ rfl _ rfl 28 #[.pointer (some ⟨w.heap.size + 1, 0, none⟩)] (0, 0) _ H8.out Tryz.underlying28 rfl (j28 _) ?_) | (refine wpList_load_row rfl 64 _ rfl _ rfl 64 #[.string (s.extract 0 100), .string { data := #[] }] (0, 0) _ H9.out Tryz.underlying64 rfl (j64 _ _) ?_) | (refine wpList_load_row rfl 25 _ rfl _ rfl 25 #[.slice A kn kc, a1, a2, a3] (0, 0) _ HF.out.x Tryz.underlying25 rfl i25 ?_))
  refine (delete_calls _ (some ⟨w.heap.size + 1, 0, none⟩) _ _ id id HF.out.two).mono ?_
  rintro e u1_2 ⟨rfl, b⟩
  replace HF := Aside1.mk ((HF.out.step b).alloc (.cells Z47 47))
  replace H8 := Aside1.mk (onAlloc (on H8.out b) (.cells Z47 47))
  replace H9 := Aside1.mk (onAlloc (on H9.out b) (.cells Z47 47))
  replace G0 := Aside1.mk (onAlloc (on G0.out b) (.cells Z47 47))
  replace G1 := Aside1.mk (onAlloc (on G1.out b) (.cells Z47 47))
  have G2 := Aside1.mk (heap_new u1_2 (.cells Z47 47))
  clear b
  go_wp2_with (first | (refine wpList_store_same rfl 47 _ _ rfl _ Z47 rfl rfl 47 G2.out i47 a47 ?_) | ((try (refine gate_on (by rfl) ?_; dsimp only)); refine wpList_load_row rfl 28 _ rfl _ rfl 28 #[.pointer (some ⟨w.heap.size + 1, 0, none⟩)] (0, 0) _ H8.out Tryz.underlying28 rfl (j28 _) ?_) | (refine wpList_load_row rfl 64 _ rfl _ rfl 64 #[.string (s.extract 0 100), .string { data := #[] }] (0, 0) _ H9.out Tryz.underlying64 rfl (j64 _ _) ?_) | (refine wpList_load_row rfl 25 _ rfl _ rfl 25 #[.slice A kn kc, a1, a2, a3] (0, 0) _ HF.out.x Tryz.underlying25 rfl i25 ?_))
  refine (versions_calls _ (some ⟨w.heap.size + 1, 0, none⟩) _ _ HF.out.two).mono ?_
  rintro e u1_3 ⟨rfl, b⟩
  replace HF := Aside1.mk (HF.out.step b)
  replace H8 := Aside1.mk (on H8.out b)
  replace H9 := Aside1.mk (on H9.out b)
  replace G0 := Aside1.mk (on G0.out b)
  replace G1 := Aside1.mk (on G1.out b)
  replace G2 := Aside1.mk (on G2.out b)
  clear b
  go_wp2_with (first | ((try (refine gate_on (by rfl) ?_; dsimp only)); refine wpList_load_row rfl 28 _ rfl _ rfl 28 #[.pointer (some ⟨w.heap.size + 1, 0, none⟩)] (0, 0) _ H8.out Tryz.underlying28 rfl (j28 _) ?_) | (refine wpList_load_row rfl 64 _ rfl _ rfl 64 #[.string (s.extract 0 100), .string { data := #[] }] (0, 0) _ H9.out Tryz.underlying64 rfl (j64 _ _) ?_) | (refine wpList_load_row rfl 25 _ rfl _ rfl 25 #[.slice A kn kc, a1, a2, a3] (0, 0) _ HF.out.x Tryz.underlying25 rfl i25 ?_))
  refine (extra_calls _ (some ⟨w.heap.size + 1, 0, none⟩) _ _ LA HF.out.two).mono ?_
  rintro e u1_4 ⟨rfl, b⟩
  replace HF := Aside1.mk (HF.out.step b)
  replace H8 := Aside1.mk (on H8.out b)
  replace H9 := Aside1.mk (on H9.out b)
  replace G0 := Aside1.mk (on G0.out b)
  replace G1 := Aside1.mk (on G1.out b)
  replace G2 := Aside1.mk (on G2.out b)
  clear b
  go_wp2_with (first | ((try (refine gate_on (by rfl) ?_; dsimp only)); refine wpList_load_row rfl 28 _ rfl _ rfl 28 #[.pointer (some ⟨w.heap.size + 1, 0, none⟩)] (0, 0) _ H8.out Tryz.underlying28 rfl (j28 _) ?_) | (refine wpList_load_row rfl 64 _ rfl _ rfl 64 #[.string (s.extract 0 100), .string { data := #[] }] (0, 0) _ H9.out Tryz.underlying64 rfl (j64 _ _) ?_) | (refine wpList_load_row rfl 25 _ rfl _ rfl 25 #[.slice A kn kc, a1, a2, a3] (0, 0) _ HF.out.x Tryz.underlying25 rfl i25 ?_))
  refine (versioning_calls _ (some ⟨w.heap.size + 1, 0, none⟩) _ _ HF.out.two).mono ?_
  rintro e u1_5 ⟨rfl, b⟩
  replace HF := Aside1.mk (HF.out.step b)
  replace H8 := Aside1.mk (on H8.out b)
  replace H9 := Aside1.mk (on H9.out b)
  replace G0 := Aside1.mk (on G0.out b)
  replace G1 := Aside1.mk (on G1.out b)
  replace G2 := Aside1.mk (on G2.out b)
  clear b
  go_wp2_with (first | ((try (refine gate_on (by rfl) ?_; dsimp only)); refine wpList_load_row rfl 28 _ rfl _ rfl 28 #[.pointer (some ⟨w.heap.size + 1, 0, none⟩)] (0, 0) _ H8.out Tryz.underlying28 rfl (j28 _) ?_) | (refine wpList_load_row rfl 64 _ rfl _ rfl 64 #[.string (s.extract 0 100), .string { data := #[] }] (0, 0) _ H9.out Tryz.underlying64 rfl (j64 _ _) ?_) | (refine wpList_load_row rfl 25 _ rfl _ rfl 25 #[.slice A kn kc, a1, a2, a3] (0, 0) _ HF.out.x Tryz.underlying25 rfl i25 ?_))
  refine (made_calls _ (some ⟨w.heap.size + 1, 0, none⟩) _ HF.out.two).mono ?_
  rintro e u1_6 ⟨rfl, b⟩
  replace HF := Aside1.mk (HF.out.step b)
  replace H8 := Aside1.mk (on H8.out b)
  replace H9 := Aside1.mk (on H9.out b)
  replace G0 := Aside1.mk (on G0.out b)
  replace G1 := Aside1.mk (on G1.out b)
  replace G2 := Aside1.mk (on G2.out b)
  clear b
  have x0 : u1_6.cell? ⟨u1_0.heap.size, 0, none⟩ = some (.int .i64 0) := by rw [cell_of_row _ _ 0 _ 47 (0, 0) G0.out]; rfl
  have x1 : u1_6.cell? ⟨u1_1.heap.size, 0, none⟩ = some (.int .i64 0) := by rw [cell_of_row _ _ 0 _ 47 (0, 0) G1.out]; rfl
  have x2 : u1_6.cell? ⟨u1_2.heap.size, 0, none⟩ = some (.int .i64 0) := by rw [cell_of_row _ _ 0 _ 47 (0, 0) G2.out]; rfl
  go_wp2_with (first | ((try (refine gate_on (by rfl) ?_; dsimp only)); refine wpList_load_row rfl 28 _ rfl _ rfl 28 #[.pointer (some ⟨w.heap.size + 1, 0, none⟩)] (0, 0) _ H8.out Tryz.underlying28 rfl (j28 _) ?_) | (refine wpList_load_row rfl 64 _ rfl _ rfl 64 #[.string (s.extract 0 100), .string { data := #[] }] (0, 0) _ H9.out Tryz.underlying64 rfl (j64 _ _) ?_) | (refine wpList_load_row rfl 25 _ rfl _ rfl 25 #[.slice A kn kc, a1, a2, a3] (0, 0) _ HF.out.x Tryz.underlying25 rfl i25 ?_))
  clear x0 x1 x2 G0 G1 G2
  refine (make_calls _ (some ⟨w.heap.size + 1, 0, none⟩) _ id HF.out.two).mono ?_
  rintro e v1_0 ⟨rfl, b⟩
  replace HF := Aside1.mk (HF.out.step b)
  replace H8 := Aside1.mk (on H8.out b)
  clear b
  clear H9
  go_wp2_with (first | ((try (refine gate_on (by rfl) ?_; dsimp only)); refine wpList_load_row rfl 28 _ rfl _ rfl 28 #[.pointer (some ⟨w.heap.size + 1, 0, none⟩)] (0, 0) _ H8.out Tryz.underlying28 rfl (j28 _) ?_))
  refine (remove_calls _ (some ⟨w.heap.size + 1, 0, none⟩) _ HF.out.two).mono ?_
  rintro e v1_1 ⟨rfl, b⟩
  replace HF := Aside1.mk (HF.out.step b)
  replace H8 := Aside1.mk (on H8.out b)
  clear b
  go_wp2_with (first | ((try (refine gate_on (by rfl) ?_; dsimp only)); refine wpList_load_row rfl 28 _ rfl _ rfl 28 #[.pointer (some ⟨w.heap.size + 1, 0, none⟩)] (0, 0) _ H8.out Tryz.underlying28 rfl (j28 _) ?_))
  refine (setv_calls _ (some ⟨w.heap.size + 1, 0, none⟩) _ 1 HF.out.two).mono ?_
  rintro e v1_2 ⟨rfl, b⟩
  replace HF := Aside1.mk (HF.out.step b)
  replace H8 := Aside1.mk (on H8.out b)
  clear b
  go_wp2_with (first | ((try (refine gate_on (by rfl) ?_; dsimp only)); refine wpList_load_row rfl 28 _ rfl _ rfl 28 #[.pointer (some ⟨w.heap.size + 1, 0, none⟩)] (0, 0) _ H8.out Tryz.underlying28 rfl (j28 _) ?_))
  refine (setx_calls _ (some ⟨w.heap.size + 1, 0, none⟩) _ LA HF.out.two).mono ?_
  rintro e v1_3 ⟨rfl, b⟩
  replace HF := Aside1.mk (HF.out.step b)
  replace H8 := Aside1.mk (on H8.out b)
  clear b
  clear H8
  go_wp2_with fail
  rw [rounds_succ]
  have l2 : v1_3.cell? ⟨w.heap.size + 1 + 1 + 1 + 1, 2, none⟩ = some (.pointer (some ⟨w.heap.size + 1 + 1 + 1, 0, none⟩)) := by rw [cell_of_row v1_3 _ 2 _ 28 (0, 0) HF.out.l]; rfl
  have H8 := Aside1.mk (onAlloc (heap_new v1_3 (.cells #[.pointer (some ⟨w.heap.size + 1 + 1 + 1, 0, none⟩)] 28)) (.cells #[.string (s.extract 0 100), .string { data := #[] }] 64))
  have h9 := heap_new (v1_3.alloc (.cells #[.pointer (some ⟨w.heap.size + 1 + 1 + 1, 0, none⟩)] 28)) (.cells #[.string (s.extract 0 100), .string { data := #[] }] 64)
  rw [show (v1_3.alloc (.cells #[.pointer (some ⟨w.heap.size + 1 + 1 + 1, 0, none⟩)] 28)).heap.size = v1_3.heap.size + 1 by simp] at h9
  have H9 := Aside1.mk h9
  clear h9
  replace HF := Aside1.mk ((HF.out.alloc (.cells #[.pointer (some ⟨w.heap.size + 1 + 1 + 1, 0, none⟩)] 28)).alloc (.cells #[.string (s.extract 0 100), .string { data := #[] }] 64))
  go_wp2_with (first | ((try (refine gate_on (by rfl) ?_; dsimp only)); refine wpList_load_row rfl 28 _ rfl _ rfl 28 #[.pointer (some ⟨w.heap.size + 1 + 1 + 1, 0, none⟩)] (0, 0) _ H8.out Tryz.underlying28 rfl (j28 _) ?_) | (refine wpList_load_row rfl 64 _ rfl _ rfl 64 #[.string (s.extract 0 100), .string { data := #[] }] (0, 0) _ H9.out Tryz.underlying64 rfl (j64 _ _) ?_) | (refine wpList_load_row rfl 25 _ rfl _ rfl 25 #[.slice A kn kc, a1, a2, a3] (0, 0) _ HF.out.x Tryz.underlying25 rfl i25 ?_))
  refine (put_calls _ (some ⟨w.heap.size + 1 + 1 + 1, 0, none⟩) _ _ #[.slice A kn kc, a1, a2, a3] id HF.out.three).mono ?_
  rintro e u2_0 ⟨rfl, b⟩
  replace HF := Aside1.mk ((HF.out.step b).alloc (.cells Z47 47))
  replace H8 := Aside1.mk (onAlloc (on H8.out b) (.cells Z47 47))
  replace H9 := Aside1.mk (onAlloc (on H9.out b) (.cells Z47 47))
  have G0 := Aside1.mk (heap_new u2_0 (.cells Z47 47))
  clear b
  go_wp2_with (first | (refine wpList_store_same rfl 47 _ _ rfl _ Z47 rfl rfl 47 G0.out i47 a47 ?_) | ((try (refine gate_on (by rfl) ?_; dsimp only)); refine wpList_load_row rfl 28 _ rfl _ rfl 28 #[.pointer (some ⟨w.heap.size + 1 + 1 + 1, 0, none⟩)] (0, 0) _ H8.out Tryz.underlying28 rfl (j28 _) ?_) | (refine wpList_load_row rfl 64 _ rfl _ rfl 64 #[.string (s.extract 0 100), .string { data := #[] }] (0, 0) _ H9.out Tryz.underlying64 rfl (j64 _ _) ?_) | (refine wpList_load_row rfl 25 _ rfl _ rfl 25 #[.slice A kn kc, a1, a2, a3] (0, 0) _ HF.out.x Tryz.underlying25 rfl i25 ?_))
  refine (get_calls _ (some ⟨w.heap.size + 1 + 1 + 1, 0, none⟩) _ _ _ hs2 id HF.out.three HF.out.i).mono ?_
  rintro e u2_1 ⟨rfl, b⟩
  replace HF := Aside1.mk ((HF.out.step b).alloc (.cells Z47 47))
  replace H8 := Aside1.mk (onAlloc (on H8.out b) (.cells Z47 47))
  replace H9 := Aside1.mk (onAlloc (on H9.out b) (.cells Z47 47))
  replace G0 := Aside1.mk (onAlloc (on G0.out b) (.cells Z47 47))
  have G1 := Aside1.mk (heap_new u2_1 (.cells Z47 47))
  clear b
  go_wp2_with (first | (refine wpList_store_same rfl 47 _ _ rfl _ Z47 rfl rfl 47 G1.out i47 a47 ?_) | ((try (refine gate_on (by rfl) ?_; dsimp only)); refine wpList_load_row rfl 28 _ rfl _ rfl 28 #[.pointer (some ⟨w.heap.size + 1 + 1 + 1, 0, none⟩)] (0, 0) _ H8.out Tryz.underlying28 rfl (j28 _) ?_) | (refine wpList_load_row rfl 64 _ rfl _ rfl 64 #[.string (s.extract 0 100), .string { data := #[] }] (0, 0) _ H9.out Tryz.underlying64 rfl (j64 _ _) ?_) | (refine wpList_load_row rfl 25 _ rfl _ rfl 25 #[.slice A kn kc, a1, a2, a3] (0, 0) _ HF.out.x Tryz.underlying25 rfl i25 ?_))
  refine (delete_calls _ (some ⟨w.heap.size + 1 + 1 + 1, 0, none⟩) _ _ id id HF.out.three).mono ?_
  rintro e u2_2 ⟨rfl, b⟩
  replace HF := Aside1.mk ((HF.out.step b).alloc (.cells Z47 47))
  replace H8 := Aside1.mk (onAlloc (on H8.out b) (.cells Z47 47))
  replace H9 := Aside1.mk (onAlloc (on H9.out b) (.cells Z47 47))
  replace G0 := Aside1.mk (onAlloc (on G0.out b) (.cells Z47 47))
  replace G1 := Aside1.mk (onAlloc (on G1.out b) (.cells Z47 47))
  have G2 := Aside1.mk (heap_new u2_2 (.cells Z47 47))
  clear b
  go_wp2_with (first | (refine wpList_store_same rfl 47 _ _ rfl _ Z47 rfl rfl 47 G2.out i47 a47 ?_) | ((try (refine gate_on (by rfl) ?_; dsimp only)); refine wpList_load_row rfl 28 _ rfl _ rfl 28 #[.pointer (some ⟨w.heap.size + 1 + 1 + 1, 0, none⟩)] (0, 0) _ H8.out Tryz.underlying28 rfl (j28 _) ?_) | (refine wpList_load_row rfl 64 _ rfl _ rfl 64 #[.string (s.extract 0 100), .string { data := #[] }] (0, 0) _ H9.out Tryz.underlying64 rfl (j64 _ _) ?_) | (refine wpList_load_row rfl 25 _ rfl _ rfl 25 #[.slice A kn kc, a1, a2, a3] (0, 0) _ HF.out.x Tryz.underlying25 rfl i25 ?_))
  refine (versions_calls _ (some ⟨w.heap.size + 1 + 1 + 1, 0, none⟩) _ _ HF.out.three).mono ?_
  rintro e u2_3 ⟨rfl, b⟩
  replace HF := Aside1.mk (HF.out.step b)
  replace H8 := Aside1.mk (on H8.out b)
  replace H9 := Aside1.mk (on H9.out b)
  replace G0 := Aside1.mk (on G0.out b)
  replace G1 := Aside1.mk (on G1.out b)
  replace G2 := Aside1.mk (on G2.out b)
  clear b
  go_wp2_with (first | ((try (refine gate_on (by rfl) ?_; dsimp only)); refine wpList_load_row rfl 28 _ rfl _ rfl 28 #[.pointer (some ⟨w.heap.size + 1 + 1 + 1, 0, none⟩)] (0, 0) _ H8.out Tryz.underlying28 rfl (j28 _) ?_) | (refine wpList_load_row rfl 64 _ rfl _ rfl 64 #[.string (s.extract 0 100), .string { data := #[] }] (0, 0) _ H9.out Tryz.underlying64 rfl (j64 _ _) ?_) | (refine wpList_load_row rfl 25 _ rfl _ rfl 25 #[.slice A kn kc, a1, a2, a3] (0, 0) _ HF.out.x Tryz.underlying25 rfl i25 ?_))
  refine (extra_calls _ (some ⟨w.heap.size + 1 + 1 + 1, 0, none⟩) _ _ LA HF.out.three).mono ?_
  rintro e u2_4 ⟨rfl, b⟩
  replace HF := Aside1.mk (HF.out.step b)
  replace H8 := Aside1.mk (on H8.out b)
  replace H9 := Aside1.mk (on H9.out b)
  replace G0 := Aside1.mk (on G0.out b)
  replace G1 := Aside1.mk (on G1.out b)
  replace G2 := Aside1.mk (on G2.out b)
  clear b
  go_wp2_with (first | ((try (refine gate_on (by rfl) ?_; dsimp only)); refine wpList_load_row rfl 28 _ rfl _ rfl 28 #[.pointer (some ⟨w.heap.size + 1 + 1 + 1, 0, none⟩)] (0, 0) _ H8.out Tryz.underlying28 rfl (j28 _) ?_) | (refine wpList_load_row rfl 64 _ rfl _ rfl 64 #[.string (s.extract 0 100), .string { data := #[] }] (0, 0) _ H9.out Tryz.underlying64 rfl (j64 _ _) ?_) | (refine wpList_load_row rfl 25 _ rfl _ rfl 25 #[.slice A kn kc, a1, a2, a3] (0, 0) _ HF.out.x Tryz.underlying25 rfl i25 ?_))
  refine (versioning_calls _ (some ⟨w.heap.size + 1 + 1 + 1, 0, none⟩) _ _ HF.out.three).mono ?_
  rintro e u2_5 ⟨rfl, b⟩
  replace HF := Aside1.mk (HF.out.step b)
  replace H8 := Aside1.mk (on H8.out b)
  replace H9 := Aside1.mk (on H9.out b)
  replace G0 := Aside1.mk (on G0.out b)
  replace G1 := Aside1.mk (on G1.out b)
  replace G2 := Aside1.mk (on G2.out b)
  clear b
  go_wp2_with (first | ((try (refine gate_on (by rfl) ?_; dsimp only)); refine wpList_load_row rfl 28 _ rfl _ rfl 28 #[.pointer (some ⟨w.heap.size + 1 + 1 + 1, 0, none⟩)] (0, 0) _ H8.out Tryz.underlying28 rfl (j28 _) ?_) | (refine wpList_load_row rfl 64 _ rfl _ rfl 64 #[.string (s.extract 0 100), .string { data := #[] }] (0, 0) _ H9.out Tryz.underlying64 rfl (j64 _ _) ?_) | (refine wpList_load_row rfl 25 _ rfl _ rfl 25 #[.slice A kn kc, a1, a2, a3] (0, 0) _ HF.out.x Tryz.underlying25 rfl i25 ?_))
  refine (made_calls _ (some ⟨w.heap.size + 1 + 1 + 1, 0, none⟩) _ HF.out.three).mono ?_
  rintro e u2_6 ⟨rfl, b⟩
  replace HF := Aside1.mk (HF.out.step b)
  replace H8 := Aside1.mk (on H8.out b)
  replace H9 := Aside1.mk (on H9.out b)
  replace G0 := Aside1.mk (on G0.out b)
  replace G1 := Aside1.mk (on G1.out b)
  replace G2 := Aside1.mk (on G2.out b)
  clear b
  have x0 : u2_6.cell? ⟨u2_0.heap.size, 0, none⟩ = some (.int .i64 0) := by rw [cell_of_row _ _ 0 _ 47 (0, 0) G0.out]; rfl
  have x1 : u2_6.cell? ⟨u2_1.heap.size, 0, none⟩ = some (.int .i64 0) := by rw [cell_of_row _ _ 0 _ 47 (0, 0) G1.out]; rfl
  have x2 : u2_6.cell? ⟨u2_2.heap.size, 0, none⟩ = some (.int .i64 0) := by rw [cell_of_row _ _ 0 _ 47 (0, 0) G2.out]; rfl
  go_wp2_with (first | ((try (refine gate_on (by rfl) ?_; dsimp only)); refine wpList_load_row rfl 28 _ rfl _ rfl 28 #[.pointer (some ⟨w.heap.size + 1 + 1 + 1, 0, none⟩)] (0, 0) _ H8.out Tryz.underlying28 rfl (j28 _) ?_) | (refine wpList_load_row rfl 64 _ rfl _ rfl 64 #[.string (s.extract 0 100), .string { data := #[] }] (0, 0) _ H9.out Tryz.underlying64 rfl (j64 _ _) ?_) | (refine wpList_load_row rfl 25 _ rfl _ rfl 25 #[.slice A kn kc, a1, a2, a3] (0, 0) _ HF.out.x Tryz.underlying25 rfl i25 ?_))
  clear x0 x1 x2 G0 G1 G2
  refine (make_calls _ (some ⟨w.heap.size + 1 + 1 + 1, 0, none⟩) _ id HF.out.three).mono ?_
  rintro e v2_0 ⟨rfl, b⟩
  replace HF := Aside1.mk (HF.out.step b)
  replace H8 := Aside1.mk (on H8.out b)
  clear b
  clear H9
  go_wp2_with (first | ((try (refine gate_on (by rfl) ?_; dsimp only)); refine wpList_load_row rfl 28 _ rfl _ rfl 28 #[.pointer (some ⟨w.heap.size + 1 + 1 + 1, 0, none⟩)] (0, 0) _ H8.out Tryz.underlying28 rfl (j28 _) ?_))
  refine (remove_calls _ (some ⟨w.heap.size + 1 + 1 + 1, 0, none⟩) _ HF.out.three).mono ?_
  rintro e v2_1 ⟨rfl, b⟩
  replace HF := Aside1.mk (HF.out.step b)
  replace H8 := Aside1.mk (on H8.out b)
  clear b
  go_wp2_with (first | ((try (refine gate_on (by rfl) ?_; dsimp only)); refine wpList_load_row rfl 28 _ rfl _ rfl 28 #[.pointer (some ⟨w.heap.size + 1 + 1 + 1, 0, none⟩)] (0, 0) _ H8.out Tryz.underlying28 rfl (j28 _) ?_))
  refine (setv_calls _ (some ⟨w.heap.size + 1 + 1 + 1, 0, none⟩) _ 1 HF.out.three).mono ?_
  rintro e v2_2 ⟨rfl, b⟩
  replace HF := Aside1.mk (HF.out.step b)
  replace H8 := Aside1.mk (on H8.out b)
  clear b
  go_wp2_with (first | ((try (refine gate_on (by rfl) ?_; dsimp only)); refine wpList_load_row rfl 28 _ rfl _ rfl 28 #[.pointer (some ⟨w.heap.size + 1 + 1 + 1, 0, none⟩)] (0, 0) _ H8.out Tryz.underlying28 rfl (j28 _) ?_))
  refine (setx_calls _ (some ⟨w.heap.size + 1 + 1 + 1, 0, none⟩) _ LA HF.out.three).mono ?_
  rintro e v2_3 ⟨rfl, b⟩
  replace HF := Aside1.mk (HF.out.step b)
  replace H8 := Aside1.mk (on H8.out b)
  clear b
  clear H8
  go_wp2_with fail
  rw [rounds_succ]
  go_wp2
  go_ret
  exact ⟨rfl, HF.out.b⟩
end Go.Proofs.YtkemhdbnkpblpaaGreatDoor.ObN
