import Derived.Test.YtcdmmkmonhmckaaGreatCurB
namespace Go.Proofs.YtcdmmkmonhmckaaGreat.CurN
open Go.RowKit Go.Proofs.YtcdmmkmonhmckaaGreat.Agg Go.Proofs.YtcdmmkmonhmckaaGreat.CowA Go.Proofs.YtcdmmkmonhmckaaGreat.DeadA Go.Proofs.YtcdmmkmonhmckaaGreat.CurA Go.Proofs.YtcdmmkmonhmckaaGreat.CurB
set_option linter.unusedVariables false
set_option linter.unusedSimpArgs false

/-- What the law's own first blocks hold, on and on. -/
structure F (w : World) (c3 : Option Addr) (L : Nat) (W : World) : Prop where
  x : W.heap[w.heap.size]? = some (.cells Z31 31 (0, 0))
  n : NoCurW W c3
  l : W.heap[L]? = some (.cells #[.pointer none, .pointer (some ⟨w.heap.size, 0, none⟩), .pointer c3] 23 (0, 0))
  b : Below w.heap.size w W
  s : w.heap.size < W.heap.size
  t : L < W.heap.size
theorem F.step {w W W1 : World} {c3 : Option Addr} {L : Nat} (h : F w c3 L W) (hb : Below W.heap.size W W1) : F w c3 L W1 :=
  ⟨keep hb h.x h.s, h.n.below hb, keep hb h.l h.t, h.b.trans (hb.mono (Nat.le_of_lt h.s)), Nat.lt_of_lt_of_le h.s hb.size, Nat.lt_of_lt_of_le h.t hb.size⟩
theorem F.alloc {w W : World} {c3 : Option Addr} {L : Nat} (h : F w c3 L W) (o : Obj) : F w c3 L (W.alloc o) := h.step ((Below.refl _ _).alloc (Nat.le_refl _) _)
theorem F.start (w w1 : World) (c3 : Option Addr) (hb : Below (w.alloc (.cells Z31 31)).heap.size (w.alloc (.cells Z31 31)) w1) (hN : NoCurW w1 c3) : F w c3 w1.heap.size (w1.alloc (.cells #[.pointer none, .pointer (some ⟨w.heap.size, 0, none⟩), .pointer c3] 23)) := by
  have h1 : w.heap.size < w1.heap.size := Nat.lt_of_lt_of_le (by simp) hb.size
  have ha := (Below.refl w1.heap.size w1).alloc (Nat.le_refl _) (.cells #[.pointer none, .pointer (some ⟨w.heap.size, 0, none⟩), .pointer c3] 23)
  exact ⟨onAlloc (newOn _ hb) _, hN.below ha, heap_new _ _, (((Below.refl _ _).alloc (Nat.le_refl _) _).trans (hb.mono (by simp))).trans (ha.mono (Nat.le_of_lt h1)), Nat.lt_of_lt_of_le h1 ha.size, by simp⟩
theorem F.none {w W : World} {c3 : Option Addr} {L : Nat} (h : F w c3 L W) : NoCurW W (some ⟨w.heap.size, 0, none⟩) := .inr ⟨_, Z31, Option.none, rfl, h.x, z31_0, z31_37, .inl rfl⟩

set_option maxRecDepth 100000 in
set_option maxHeartbeats 4000000 in
theorem law (A : Option Addr) (n c : Nat) (m : Int) (w : World) :
    Calls Tryz.prog 3 #[.slice A n c, .int .i64 m] w fun e w' => e = .returned (.bool true) ∧ Below w.heap.size w w' := by
  go_enter Tryz.func3, Tryz.ntmps3
  go_wp2_with fail
  refine (new_none _ none Z28 rfl (.inl rfl)).mono ?_
  rintro e w1 ⟨c3, rfl, hN, hb⟩
  have HF0 := Aside1.mk (F.start w w1 c3 hb hN)
  clear hN hb
  go_wp2_with fail
  refine wp_loop_rounds 4 ?_
  rw [rounds_succ]
  go_wp2_with fail
  refine (seek_calls _ none A n c (NoCurW.cur (.inl rfl))).mono ?_
  rintro e u1 ⟨rfl, b1⟩
  have HF1 := Aside1.mk (HF0.out.step b1)
  clear b1 HF0
  go_wp2_with fail
  refine (first_calls _ none (NoCurW.cur (.inl rfl))).mono ?_
  rintro e u2 ⟨rfl, b2⟩
  have HF2 := Aside1.mk (HF1.out.step b2)
  clear b2 HF1
  go_wp2_with fail
  refine (last_calls _ none (NoCurW.cur (.inl rfl))).mono ?_
  rintro e u3 ⟨rfl, b3⟩
  have HF3 := Aside1.mk (HF2.out.step b3)
  clear b3 HF2
  go_wp2_with fail
  refine (next_calls _ none (NoCurW.cur (.inl rfl))).mono ?_
  rintro e u4 ⟨rfl, b4⟩
  have HF4 := Aside1.mk (HF3.out.step b4)
  clear b4 HF3
  go_wp2_with fail
  refine (prev_calls _ none (NoCurW.cur (.inl rfl))).mono ?_
  rintro e u5 ⟨rfl, b5⟩
  have HF5 := Aside1.mk (HF4.out.step b5)
  clear b5 HF4
  go_wp2_with fail
  refine (at_calls _ none (.inl rfl)).mono ?_
  rintro e u6 ⟨rfl, b6⟩
  have HU := Aside1.mk (HF5.out.step b6)
  have HF6 := Aside1.mk (HU.out.alloc (.cells Z38 38))
  clear b6 HF5
  go_wp2_with (refine wpList_store_same rfl 38 _ _ rfl _ Z38 rfl rfl 38 (heap_new _ _) i38 a38 ?_)
  rw [rounds_succ]
  have y1 : u6.cell? ⟨w1.heap.size, 1, none⟩ = some (.pointer (some ⟨w.heap.size, 0, none⟩)) := by rw [cell_of_row _ _ 1 _ 23 (0, 0) HU.out.l]; rfl
  have t1 := HU.out.t
  clear HU
  go_wp2_with fail
  clear y1 t1
  refine (seek_calls _ (some ⟨w.heap.size, 0, none⟩) A n c (NoCurW.cur HF6.out.none)).mono ?_
  rintro e u7 ⟨rfl, b7⟩
  have HF7 := Aside1.mk (HF6.out.step b7)
  clear b7 HF6
  go_wp2_with fail
  refine (first_calls _ (some ⟨w.heap.size, 0, none⟩) (NoCurW.cur HF7.out.none)).mono ?_
  rintro e u8 ⟨rfl, b8⟩
  have HF8 := Aside1.mk (HF7.out.step b8)
  clear b8 HF7
  go_wp2_with fail
  refine (last_calls _ (some ⟨w.heap.size, 0, none⟩) (NoCurW.cur HF8.out.none)).mono ?_
  rintro e u9 ⟨rfl, b9⟩
  have HF9 := Aside1.mk (HF8.out.step b9)
  clear b9 HF8
  go_wp2_with fail
  refine (next_calls _ (some ⟨w.heap.size, 0, none⟩) (NoCurW.cur HF9.out.none)).mono ?_
  rintro e u10 ⟨rfl, b10⟩
  have HF10 := Aside1.mk (HF9.out.step b10)
  clear b10 HF9
  go_wp2_with fail
  refine (prev_calls _ (some ⟨w.heap.size, 0, none⟩) (NoCurW.cur HF10.out.none)).mono ?_
  rintro e u11 ⟨rfl, b11⟩
  have HF11 := Aside1.mk (HF10.out.step b11)
  clear b11 HF10
  go_wp2_with fail
  refine (at_calls _ (some ⟨w.heap.size, 0, none⟩) HF11.out.none).mono ?_
  rintro e u12 ⟨rfl, b12⟩
  have HU := Aside1.mk (HF11.out.step b12)
  have HF12 := Aside1.mk (HU.out.alloc (.cells Z38 38))
  clear b12 HF11
  go_wp2_with (refine wpList_store_same rfl 38 _ _ rfl _ Z38 rfl rfl 38 (heap_new _ _) i38 a38 ?_)
  rw [rounds_succ]
  have y2 : u12.cell? ⟨w1.heap.size, 2, none⟩ = some (.pointer c3) := by rw [cell_of_row _ _ 2 _ 23 (0, 0) HU.out.l]; rfl
  have t2 := HU.out.t
  clear HU
  go_wp2_with fail
  clear y2 t2
  refine (seek_calls _ c3 A n c (NoCurW.cur HF12.out.n)).mono ?_
  rintro e u13 ⟨rfl, b13⟩
  have HF13 := Aside1.mk (HF12.out.step b13)
  clear b13 HF12
  go_wp2_with fail
  refine (first_calls _ c3 (NoCurW.cur HF13.out.n)).mono ?_
  rintro e u14 ⟨rfl, b14⟩
  have HF14 := Aside1.mk (HF13.out.step b14)
  clear b14 HF13
  go_wp2_with fail
  refine (last_calls _ c3 (NoCurW.cur HF14.out.n)).mono ?_
  rintro e u15 ⟨rfl, b15⟩
  have HF15 := Aside1.mk (HF14.out.step b15)
  clear b15 HF14
  go_wp2_with fail
  refine (next_calls _ c3 (NoCurW.cur HF15.out.n)).mono ?_
  rintro e u16 ⟨rfl, b16⟩
  have HF16 := Aside1.mk (HF15.out.step b16)
  clear b16 HF15
  go_wp2_with fail
  refine (prev_calls _ c3 (NoCurW.cur HF16.out.n)).mono ?_
  rintro e u17 ⟨rfl, b17⟩
  have HF17 := Aside1.mk (HF16.out.step b17)
  clear b17 HF16
  go_wp2_with fail
  refine (at_calls _ c3 HF17.out.n).mono ?_
  rintro e u18 ⟨rfl, b18⟩
  have HU := Aside1.mk (HF17.out.step b18)
  have HF18 := Aside1.mk (HU.out.alloc (.cells Z38 38))
  clear b18 HF17
  go_wp2_with (refine wpList_store_same rfl 38 _ _ rfl _ Z38 rfl rfl 38 (heap_new _ _) i38 a38 ?_)
  rw [rounds_succ]
  go_wp2_with fail
  refine (range_calls _ none Z28 _ _ _ rfl (.inl rfl)).mono ?_
  rintro e v1 ⟨rfl, b1⟩
  have HG1 := Aside1.mk (HF18.out.step b1)
  clear b1 HF18
  go_wp2_with fail
  refine (count_calls _ A n c).mono ?_
  rintro e v2 ⟨rfl, b2⟩
  have HG2 := Aside1.mk (HG1.out.step b2)
  clear b2 HG1
  go_wp2
  go_ret
  exact ⟨rfl, HG2.out.b⟩
end Go.Proofs.YtcdmmkmonhmckaaGreat.CurN
