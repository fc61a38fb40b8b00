import Derived.Test.YtcdmmkmonhmckaaGreatDatA
import Derived.Deep.DeepCutAuto
namespace Go.Proofs.YtcdmmkmonhmckaaGreat.DatN
open Go.RowKit Go.Proofs.YtcdmmkmonhmckaaGreat.Agg Go.Proofs.YtcdmmkmonhmckaaGreat.CowA Go.Proofs.YtcdmmkmonhmckaaGreat.DeadA Go.Proofs.YtcdmmkmonhmckaaGreat.SpaA Go.Proofs.YtcdmmkmonhmckaaGreat.StrN Go.Proofs.YtcdmmkmonhmckaaGreat.DatA
set_option linter.unusedVariables false
set_option linter.unusedSimpArgs false

/-- What the law's own first blocks hold, on and on. -/
structure F (w : World) (xs : Array Value) (W : World) : Prop where
  x : W.heap[w.heap.size]? = some (.cells xs 120 (0, 0))
  a : W.heap[w.heap.size + 1]? = some (.cells #[.pointer none] 70 (0, 0))
  z : ∃ z, W.heap[w.heap.size + 1 + 1]? = some (.cells z 74 (0, 0)) ∧ z[0]? = some (.pointer none)
  c : W.heap[w.heap.size + 1 + 1 + 1]? = some (.cells #[.pointer (some ⟨w.heap.size + 1 + 1, 0, none⟩)] 70 (0, 0))
  l : W.heap[w.heap.size + 1 + 1 + 1 + 1]? = some (.cells #[.pointer none, .pointer (some ⟨w.heap.size + 1, 0, none⟩), .pointer (some ⟨w.heap.size + 1 + 1 + 1, 0, none⟩)] 67 (0, 0))
  b : Below w.heap.size w W
  s : w.heap.size + 1 + 1 + 1 + 1 < W.heap.size
theorem F.step {w W W1 : World} {xs : Array Value} (h : F w xs W) (hb : Below W.heap.size W W1) : F w xs W1 := by
  have hs := h.s
  obtain ⟨z, hz, h0⟩ := h.z
  exact ⟨keep hb h.x (by omega), keep hb h.a (by omega), ⟨z, keep hb hz (by omega), h0⟩, keep hb h.c (by omega), keep hb h.l hs, h.b.trans (hb.mono (by omega)), Nat.lt_of_lt_of_le hs hb.size⟩
theorem F.alloc {w W : World} {xs : Array Value} (h : F w xs W) (o : Obj) : F w xs (W.alloc o) := h.step ((Below.refl _ _).alloc (Nat.le_refl _) _)
theorem F.start (w : World) (xs z : Array Value) (h0 : z[0]? = some (.pointer none)) : F w xs (((((w.alloc (.cells xs 120)).alloc (.cells #[.pointer none] 70)).alloc (.cells z 74)).alloc (.cells #[.pointer (some ⟨w.heap.size + 1 + 1, 0, none⟩)] 70)).alloc (.cells #[.pointer none, .pointer (some ⟨w.heap.size + 1, 0, none⟩), .pointer (some ⟨w.heap.size + 1 + 1 + 1, 0, none⟩)] 67)) := by
  have q := SpaN.F.start (w.alloc (.cells xs 120)) z h0
  have e : (w.alloc (.cells xs 120)).heap.size = w.heap.size + 1 := by simp
  obtain ⟨qa, qz, qc, ql, qb, qs⟩ := q
  rw [e] at qa qz qc ql qb qs
  exact ⟨keep (B := w.heap.size + 1) qb (heap_new w _) (by omega), qa, qz, qc, ql, ((Below.refl _ _).alloc (Nat.le_refl _) _).trans (qb.mono (by omega)), qs⟩
theorem F.none1 {w W : World} {xs : Array Value} (h : F w xs W) : NoSets W (some ⟨w.heap.size + 1, 0, none⟩) := .inr ⟨_, none, rfl, h.a, .inl rfl⟩
theorem F.none2 {w W : World} {xs : Array Value} (h : F w xs W) : NoSets W (some ⟨w.heap.size + 1 + 1 + 1, 0, none⟩) := by
  obtain ⟨z, hz, h0⟩ := h.z
  exact .inr ⟨_, _, rfl, h.c, .inr ⟨_, z, rfl, hz, h0⟩⟩

set_option maxRecDepth 100000 in
set_option maxHeartbeats 8000000 in
theorem law (n : ByteArray) (A : Option Addr) (kn kc : Nat) (x1 x2 : Value) (hx1 : x1.oneCell' = true) (hx2 : x2.oneCell' = true) (w : World) :
    Calls Tryz.prog 9 #[.string n, .agg #[.slice A kn kc, x1, x2]] w fun e w' => e = .returned (.bool true) ∧ Below w.heap.size w w' := by
  have hl : (n.size : Int) < 100 ∨ (n.size : Int) = 100 ∨ (100 : Int) < (n.size : Int) := by omega
  go_enter Tryz.func9, Tryz.ntmps9
  go_upto_if 26 with (fail)
  go_cut [0] (fun v0 wc => (∃ m : ByteArray, v0 = .string m) ∧ wc = w.alloc (.cells #[.slice A kn kc, x1, x2] 120))
  case first =>
    by_cases h : (100 : Int) < (n.size : Int)
    · clear hl
      go_wp2
      go_meet
      case rel => exact ⟨⟨_, rfl⟩, rfl⟩
    · clear hl
      go_wp2
      go_meet
      case rel => exact ⟨⟨_, rfl⟩, rfl⟩
  case rest =>
    clear hl
    obtain ⟨⟨m, rfl⟩, rfl⟩ := hcut
    go_wp2_with fail
    refine wp_loop_rounds 4 ?_
    rw [rounds_succ]
    go_wp2_with fail
    refine (create_calls _ none m (.inl rfl)).mono ?_
    rintro e g1 ⟨rfl, b1⟩
    have HF1 := Aside1.mk ((F.start w _ _ rfl).step b1)
    clear b1
    go_wp2_with fail
    refine (snap_calls _ none m m (.inl rfl)).mono ?_
    rintro e g2 ⟨rfl, b2⟩
    have HF2 := Aside1.mk (HF1.out.step b2)
    clear b2 HF1
    go_wp2_with fail
    refine (clone_calls _ none m m m (.inl rfl)).mono ?_
    rintro e g3 ⟨rfl, b3⟩
    have HF3 := Aside1.mk (HF2.out.step b3)
    clear b3 HF2
    have xk : g3.cell? ⟨w.heap.size, 0, none⟩ = some (.slice A kn kc) := by rw [cell_of_row _ _ 0 _ 120 (0, 0) HF3.out.x]; rfl
    go_wp2_with fail
    clear xk
    refine (del_calls _ none m A kn kc (.inl rfl)).mono ?_
    rintro e g4 ⟨rfl, b4⟩
    have HF4 := Aside1.mk (HF3.out.step b4)
    clear b4 HF3
    have xk : g4.cell? ⟨w.heap.size, 0, none⟩ = some (.slice A kn kc) := by rw [cell_of_row _ _ 0 _ 120 (0, 0) HF4.out.x]; rfl
    go_wp2_with fail
    clear xk
    refine (get59_calls _ none m _ _ (.inl rfl)).mono ?_
    rintro e g5 ⟨rfl, b5⟩
    have HFA := Aside1.mk ((HF4.out.step b5).alloc (.cells Z120 120))
    clear b5 HF4
    go_wp2_with (refine wpList_store_same rfl 120 _ _ rfl _ Z120 rfl rfl 120 (heap_new _ _) i120 a120 ?_)
    refine (range60_calls _ none m _ _ _ _ (.inl rfl)).mono ?_
    rintro e g6 ⟨rfl, b6⟩
    have HF6 := Aside1.mk (HFA.out.step b6)
    have yz : g6.cell? ⟨g5.heap.size, 0, none⟩ = some (.slice none 0 0) := by rw [cell_of_row _ _ 0 _ 120 (0, 0) (newOn _ b6)]; rfl
    clear b6 HFA
    go_wp2_with fail
    refine (names_calls _ none (.inl rfl)).mono ?_
    rintro e v ⟨rfl, rfl⟩
    go_wp2_with fail
    refine (snaps_calls _ none _ (.inl rfl)).mono ?_
    rintro e v ⟨rfl, rfl⟩
    go_wp2_with fail
    clear yz
    refine (destroy_calls _ none m (.inl rfl)).mono ?_
    rintro e g7 ⟨rfl, b7⟩
    have HF7 := Aside1.mk (HF6.out.step b7)
    clear b7 HF6
    go_wp2_with fail
    refine (drop_calls _ none m m (.inl rfl)).mono ?_
    rintro e g8 ⟨rfl, b8⟩
    have HF8 := Aside1.mk (HF7.out.step b8)
    clear b8 HF7
    go_wp2_with fail
    refine (back_calls _ none m m (.inl rfl)).mono ?_
    rintro e g9 ⟨rfl, b9⟩
    have HF9 := Aside1.mk (HF8.out.step b9)
    clear b9 HF8
    go_wp2_with (first | ((try (refine gate_on (by rfl) ?_; dsimp only)); refine wpList_load_row rfl 120 _ rfl _ rfl 120 #[.slice A kn kc, x1, x2] (0, 0) _ HF9.out.x Tryz.underlying120 rfl (by kernel_rfl) ?_))
    refine (put_calls _ none m #[.slice A kn kc, x1, x2] (.inl rfl)).mono ?_
    rintro e g10 ⟨rfl, b10⟩
    have HF10 := Aside1.mk (HF9.out.step b10)
    clear b10 HF9
    go_wp2_with fail
    rw [rounds_succ]
    have y1 : g10.cell? ⟨w.heap.size + 1 + 1 + 1 + 1, 1, none⟩ = some (.pointer (some ⟨w.heap.size + 1, 0, none⟩)) := by rw [cell_of_row _ _ 1 _ 67 (0, 0) HF10.out.l]; rfl
    go_wp2_with fail
    clear y1
    refine (create_calls _ (some ⟨w.heap.size + 1, 0, none⟩) m HF10.out.none1).mono ?_
    rintro e g11 ⟨rfl, b11⟩
    have HF11 := Aside1.mk (HF10.out.step b11)
    clear b11 HF10
    go_wp2_with fail
    refine (snap_calls _ (some ⟨w.heap.size + 1, 0, none⟩) m m HF11.out.none1).mono ?_
    rintro e g12 ⟨rfl, b12⟩
    have HF12 := Aside1.mk (HF11.out.step b12)
    clear b12 HF11
    go_wp2_with fail
    refine (clone_calls _ (some ⟨w.heap.size + 1, 0, none⟩) m m m HF12.out.none1).mono ?_
    rintro e g13 ⟨rfl, b13⟩
    have HF13 := Aside1.mk (HF12.out.step b13)
    clear b13 HF12
    have xk : g13.cell? ⟨w.heap.size, 0, none⟩ = some (.slice A kn kc) := by rw [cell_of_row _ _ 0 _ 120 (0, 0) HF13.out.x]; rfl
    go_wp2_with fail
    clear xk
    refine (del_calls _ (some ⟨w.heap.size + 1, 0, none⟩) m A kn kc HF13.out.none1).mono ?_
    rintro e g14 ⟨rfl, b14⟩
    have HF14 := Aside1.mk (HF13.out.step b14)
    clear b14 HF13
    have xk : g14.cell? ⟨w.heap.size, 0, none⟩ = some (.slice A kn kc) := by rw [cell_of_row _ _ 0 _ 120 (0, 0) HF14.out.x]; rfl
    go_wp2_with fail
    clear xk
    refine (get59_calls _ (some ⟨w.heap.size + 1, 0, none⟩) m _ _ HF14.out.none1).mono ?_
    rintro e g15 ⟨rfl, b15⟩
    have HFA := Aside1.mk ((HF14.out.step b15).alloc (.cells Z120 120))
    clear b15 HF14
    go_wp2_with (refine wpList_store_same rfl 120 _ _ rfl _ Z120 rfl rfl 120 (heap_new _ _) i120 a120 ?_)
    refine (range60_calls _ (some ⟨w.heap.size + 1, 0, none⟩) m _ _ _ _ HFA.out.none1).mono ?_
    rintro e g16 ⟨rfl, b16⟩
    have HF16 := Aside1.mk (HFA.out.step b16)
    have yz : g16.cell? ⟨g15.heap.size, 0, none⟩ = some (.slice none 0 0) := by rw [cell_of_row _ _ 0 _ 120 (0, 0) (newOn _ b16)]; rfl
    clear b16 HFA
    go_wp2_with fail
    refine (names_calls _ (some ⟨w.heap.size + 1, 0, none⟩) HF16.out.none1).mono ?_
    rintro e v ⟨rfl, rfl⟩
    go_wp2_with fail
    refine (snaps_calls _ (some ⟨w.heap.size + 1, 0, none⟩) _ HF16.out.none1).mono ?_
    rintro e v ⟨rfl, rfl⟩
    go_wp2_with fail
    clear yz
    refine (destroy_calls _ (some ⟨w.heap.size + 1, 0, none⟩) m HF16.out.none1).mono ?_
    rintro e g17 ⟨rfl, b17⟩
    have HF17 := Aside1.mk (HF16.out.step b17)
    clear b17 HF16
    go_wp2_with fail
    refine (drop_calls _ (some ⟨w.heap.size + 1, 0, none⟩) m m HF17.out.none1).mono ?_
    rintro e g18 ⟨rfl, b18⟩
    have HF18 := Aside1.mk (HF17.out.step b18)
    clear b18 HF17
    go_wp2_with fail
    refine (back_calls _ (some ⟨w.heap.size + 1, 0, none⟩) m m HF18.out.none1).mono ?_
    rintro e g19 ⟨rfl, b19⟩
    have HF19 := Aside1.mk (HF18.out.step b19)
    clear b19 HF18
    go_wp2_with (first | ((try (refine gate_on (by rfl) ?_; dsimp only)); refine wpList_load_row rfl 120 _ rfl _ rfl 120 #[.slice A kn kc, x1, x2] (0, 0) _ HF19.out.x Tryz.underlying120 rfl (by kernel_rfl) ?_))
    refine (put_calls _ (some ⟨w.heap.size + 1, 0, none⟩) m #[.slice A kn kc, x1, x2] HF19.out.none1).mono ?_
    rintro e g20 ⟨rfl, b20⟩
    have HF20 := Aside1.mk (HF19.out.step b20)
    clear b20 HF19
    go_wp2_with fail
    rw [rounds_succ]
    have y2 : g20.cell? ⟨w.heap.size + 1 + 1 + 1 + 1, 2, none⟩ = some (.pointer (some ⟨w.heap.size + 1 + 1 + 1, 0, none⟩)) := by rw [cell_of_row _ _ 2 _ 67 (0, 0) HF20.out.l]; rfl
    go_wp2_with fail
    clear y2
    refine (create_calls _ (some ⟨w.heap.size + 1 + 1 + 1, 0, none⟩) m HF20.out.none2).mono ?_
    rintro e g21 ⟨rfl, b21⟩
    have HF21 := Aside1.mk (HF20.out.step b21)
    clear b21 HF20
    go_wp2_with fail
    refine (snap_calls _ (some ⟨w.heap.size + 1 + 1 + 1, 0, none⟩) m m HF21.out.none2).mono ?_
    rintro e g22 ⟨rfl, b22⟩
    have HF22 := Aside1.mk (HF21.out.step b22)
    clear b22 HF21
    go_wp2_with fail
    refine (clone_calls _ (some ⟨w.heap.size + 1 + 1 + 1, 0, none⟩) m m m HF22.out.none2).mono ?_
    rintro e g23 ⟨rfl, b23⟩
    have HF23 := Aside1.mk (HF22.out.step b23)
    clear b23 HF22
    have xk : g23.cell? ⟨w.heap.size, 0, none⟩ = some (.slice A kn kc) := by rw [cell_of_row _ _ 0 _ 120 (0, 0) HF23.out.x]; rfl
    go_wp2_with fail
    clear xk
    refine (del_calls _ (some ⟨w.heap.size + 1 + 1 + 1, 0, none⟩) m A kn kc HF23.out.none2).mono ?_
    rintro e g24 ⟨rfl, b24⟩
    have HF24 := Aside1.mk (HF23.out.step b24)
    clear b24 HF23
    have xk : g24.cell? ⟨w.heap.size, 0, none⟩ = some (.slice A kn kc) := by rw [cell_of_row _ _ 0 _ 120 (0, 0) HF24.out.x]; rfl
    go_wp2_with fail
    clear xk
    refine (get59_calls _ (some ⟨w.heap.size + 1 + 1 + 1, 0, none⟩) m _ _ HF24.out.none2).mono ?_
    rintro e g25 ⟨rfl, b25⟩
    have HFA := Aside1.mk ((HF24.out.step b25).alloc (.cells Z120 120))
    clear b25 HF24
    go_wp2_with (refine wpList_store_same rfl 120 _ _ rfl _ Z120 rfl rfl 120 (heap_new _ _) i120 a120 ?_)
    refine (range60_calls _ (some ⟨w.heap.size + 1 + 1 + 1, 0, none⟩) m _ _ _ _ HFA.out.none2).mono ?_
    rintro e g26 ⟨rfl, b26⟩
    have HF26 := Aside1.mk (HFA.out.step b26)
    have yz : g26.cell? ⟨g25.heap.size, 0, none⟩ = some (.slice none 0 0) := by rw [cell_of_row _ _ 0 _ 120 (0, 0) (newOn _ b26)]; rfl
    clear b26 HFA
    go_wp2_with fail
    refine (names_calls _ (some ⟨w.heap.size + 1 + 1 + 1, 0, none⟩) HF26.out.none2).mono ?_
    rintro e v ⟨rfl, rfl⟩
    go_wp2_with fail
    refine (snaps_calls _ (some ⟨w.heap.size + 1 + 1 + 1, 0, none⟩) _ HF26.out.none2).mono ?_
    rintro e v ⟨rfl, rfl⟩
    go_wp2_with fail
    clear yz
    refine (destroy_calls _ (some ⟨w.heap.size + 1 + 1 + 1, 0, none⟩) m HF26.out.none2).mono ?_
    rintro e g27 ⟨rfl, b27⟩
    have HF27 := Aside1.mk (HF26.out.step b27)
    clear b27 HF26
    go_wp2_with fail
    refine (drop_calls _ (some ⟨w.heap.size + 1 + 1 + 1, 0, none⟩) m m HF27.out.none2).mono ?_
    rintro e g28 ⟨rfl, b28⟩
    have HF28 := Aside1.mk (HF27.out.step b28)
    clear b28 HF27
    go_wp2_with fail
    refine (back_calls _ (some ⟨w.heap.size + 1 + 1 + 1, 0, none⟩) m m HF28.out.none2).mono ?_
    rintro e g29 ⟨rfl, b29⟩
    have HF29 := Aside1.mk (HF28.out.step b29)
    clear b29 HF28
    go_wp2_with (first | ((try (refine gate_on (by rfl) ?_; dsimp only)); refine wpList_load_row rfl 120 _ rfl _ rfl 120 #[.slice A kn kc, x1, x2] (0, 0) _ HF29.out.x Tryz.underlying120 rfl (by kernel_rfl) ?_))
    refine (put_calls _ (some ⟨w.heap.size + 1 + 1 + 1, 0, none⟩) m #[.slice A kn kc, x1, x2] HF29.out.none2).mono ?_
    rintro e g30 ⟨rfl, b30⟩
    have HF30 := Aside1.mk (HF29.out.step b30)
    clear b30 HF29
    go_wp2_with fail
    rw [rounds_succ]
    go_wp2
    go_ret
    exact ⟨rfl, HF30.out.b⟩
end Go.Proofs.YtcdmmkmonhmckaaGreat.DatN
