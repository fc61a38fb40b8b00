import Derived.Test.YtcdmmkmonhmckaaGreatDeadA
namespace Go.Proofs.YtcdmmkmonhmckaaGreat.CurA
open Go.RowKit Go.Proofs.YtcdmmkmonhmckaaGreat.Agg Go.Proofs.YtcdmmkmonhmckaaGreat.CowA Go.Proofs.YtcdmmkmonhmckaaGreat.DeadA
set_option linter.unusedVariables false
set_option linter.unusedSimpArgs false

/-- A cursor of nothing, as cells. -/
def Z31 : Array Value := #[.pointer none, .int .i64 0, .int .i64 0, .int .i64 0, .int .u32 0, .int .u8 0, .int .u8 0, .int .u8 0, .int .u8 0, .int .u8 0, .int .u8 0, .int .u8 0, .int .u8 0, .int .u8 0, .int .u8 0, .int .u8 0, .int .u8 0, .int .u8 0, .int .u8 0, .int .u8 0, .int .u8 0, .int .u8 0, .int .u8 0, .int .u8 0, .int .u8 0, .int .u8 0, .int .u8 0, .int .u8 0, .int .u8 0, .int .u8 0, .int .u8 0, .int .u8 0, .int .u8 0, .int .u8 0, .int .u8 0, .int .u8 0, .int .u8 0, .slice none 0 0]
theorem z31_0 : Z31[0]? = some (.pointer none) := rfl
theorem z31_37 : Z31[37]? = some (.slice none 0 0) := rfl

set_option maxRecDepth 100000 in
theorem built31' (p : Option Addr) (cs : Array Value) (hcs : cs.size = 36) : ∃ r, Tryz.prog.built 31 [(0, .pointer p), (1, .agg cs)] = some r ∧ r[0]? = some (.pointer p) ∧ r[37]? = some (.slice none 0 0) := by
  rcases cs with ⟨l⟩
  rcases l with _ | ⟨c0, l⟩; · simp at hcs
  rcases l with _ | ⟨c1, l⟩; · simp at hcs
  rcases l with _ | ⟨c2, l⟩; · simp at hcs
  rcases l with _ | ⟨c3, l⟩; · simp at hcs
  rcases l with _ | ⟨c4, l⟩; · simp at hcs
  rcases l with _ | ⟨c5, l⟩; · simp at hcs
  rcases l with _ | ⟨c6, l⟩; · simp at hcs
  rcases l with _ | ⟨c7, l⟩; · simp at hcs
  rcases l with _ | ⟨c8, l⟩; · simp at hcs
  rcases l with _ | ⟨c9, l⟩; · simp at hcs
  rcases l with _ | ⟨c10, l⟩; · simp at hcs
  rcases l with _ | ⟨c11, l⟩; · simp at hcs
  rcases l with _ | ⟨c12, l⟩; · simp at hcs
  rcases l with _ | ⟨c13, l⟩; · simp at hcs
  rcases l with _ | ⟨c14, l⟩; · simp at hcs
  rcases l with _ | ⟨c15, l⟩; · simp at hcs
  rcases l with _ | ⟨c16, l⟩; · simp at hcs
  rcases l with _ | ⟨c17, l⟩; · simp at hcs
  rcases l with _ | ⟨c18, l⟩; · simp at hcs
  rcases l with _ | ⟨c19, l⟩; · simp at hcs
  rcases l with _ | ⟨c20, l⟩; · simp at hcs
  rcases l with _ | ⟨c21, l⟩; · simp at hcs
  rcases l with _ | ⟨c22, l⟩; · simp at hcs
  rcases l with _ | ⟨c23, l⟩; · simp at hcs
  rcases l with _ | ⟨c24, l⟩; · simp at hcs
  rcases l with _ | ⟨c25, l⟩; · simp at hcs
  rcases l with _ | ⟨c26, l⟩; · simp at hcs
  rcases l with _ | ⟨c27, l⟩; · simp at hcs
  rcases l with _ | ⟨c28, l⟩; · simp at hcs
  rcases l with _ | ⟨c29, l⟩; · simp at hcs
  rcases l with _ | ⟨c30, l⟩; · simp at hcs
  rcases l with _ | ⟨c31, l⟩; · simp at hcs
  rcases l with _ | ⟨c32, l⟩; · simp at hcs
  rcases l with _ | ⟨c33, l⟩; · simp at hcs
  rcases l with _ | ⟨c34, l⟩; · simp at hcs
  rcases l with _ | ⟨c35, l⟩; · simp at hcs
  rcases l with _ | ⟨c, l⟩
  · exact ⟨#[.pointer p, c0, c1, c2, c3, c4, c5, c6, c7, c8, c9, c10, c11, c12, c13, c14, c15, c16, c17, c18, c19, c20, c21, c22, c23, c24, c25, c26, c27, c28, c29, c30, c31, c32, c33, c34, c35, .slice none 0 0], by kernel_rfl, rfl, rfl⟩
  · simp at hcs

theorem new_calls' (w : World) (p : Option Addr) (cs : Array Value) (hcs : cs.size = 36) : Calls Tryz.prog 11 #[.pointer p, .agg cs] w fun e w' => ∃ r, e = .returned (.pointer (some ⟨w.heap.size + 1, 0, none⟩)) ∧ w'.heap[w.heap.size + 1]? = some (.cells r 31 (0, 0)) ∧ r[0]? = some (.pointer p) ∧ r[37]? = some (.slice none 0 0) ∧ Below w.heap.size w w' ∧ w.heap.size + 1 < w'.heap.size := by
  obtain ⟨r, hr, h0, h37⟩ := built31' p cs hcs
  have hi : (Tryz.prog.info? 28).map (·.size) = some cs.size := by rw [hcs]; kernel_rfl
  have HH := Aside1.mk (And.intro hr (And.intro h0 (And.intro hi (And.intro hcs h37))))
  clear hr h0 hi hcs h37
  go_enter Tryz.func11, Tryz.ntmps11
  go_wp2_with (first | (refine wpList_load_row rfl 28 _ rfl _ rfl 28 cs (0, 0) _ (heap_new _ _) Tryz.underlying28 rfl HH.out.2.2.1 ?_) | (refine wpList_build_of rfl 31 #[(0, .tmp 5), (1, .tmp 6)] rfl r ?hb ?_; (case hb => simp [Act.eval]; exact HH.out.1)))
  go_ret
  exact ⟨r, rfl, by have := heap_new (w.alloc (.cells cs 28)) (.cells r 31); simpa using this, HH.out.2.1, HH.out.2.2.2.2, ((Below.refl _ _).alloc (Nat.le_refl _) _).alloc (by simp) _, by simp⟩

/-- No cursor, at no place: nil, or one of no pool with no way. -/
def NoCurW (w : World) (c : Option Addr) : Prop := c = none ∨ ∃ g r p, c = some ⟨g, 0, none⟩ ∧ w.heap[g]? = some (.cells r 31 (0, 0)) ∧ r[0]? = some (.pointer p) ∧ r[37]? = some (.slice none 0 0) ∧ NoPool w p
theorem NoCurW.below {w w1 : World} {c : Option Addr} (h : NoCurW w c) (hb : Below w.heap.size w w1) : NoCurW w1 c := by
  rcases h with h | ⟨g, r, p, h, hg, h0, h37, hp⟩
  · exact .inl h
  · exact .inr ⟨g, r, p, h, keep hb hg (Array.getElem?_eq_some_iff.1 hg).1, h0, h37, hp.below hb⟩
theorem NoCurW.cur {w : World} {c : Option Addr} (h : NoCurW w c) : NoCur w c := by
  rcases h with h | ⟨g, r, p, h, hg, h0, h37, hp⟩
  · exact .inl h
  · exact .inr ⟨g, r, p, h, hg, h0, hp⟩

theorem toward_calls (w : World) (A : Option Addr) (n c : Nat) : Calls Tryz.prog 71 #[.slice A n c] w fun e w' => e = .returned (.func (.func 196) #[] #[.pointer (some ⟨w.heap.size, 0, none⟩)]) ∧ Below w.heap.size w w' := by
  go_enter Tryz.func71, Tryz.ntmps71
  go_wp2
  go_ret
  exact ⟨rfl, (Below.refl _ _).alloc (Nat.le_refl _) _⟩

theorem begin_calls (w : World) (c : Option Addr) (f : Value) (h : NoCur w c) : Calls Tryz.prog 70 #[.pointer c, f] w fun e w' => e = .returned (.int .i64 1) ∧ Below w.heap.size w w' := by
  go_enter Tryz.func70, Tryz.ntmps70
  go_wp2_with fail
  refine (ready79_calls _ c h).mono ?_
  rintro e w1 ⟨rfl, hb⟩
  go_wp2
  go_ret
  exact ⟨rfl, hb⟩

theorem seek_calls (w : World) (p : Option Addr) (A : Option Addr) (n c : Nat) (h : NoCur w p) : Calls Tryz.prog 12 #[.pointer p, .slice A n c] w fun e w' => e = .returned (.int .i64 1) ∧ Below w.heap.size w w' := by
  have HH := Aside1.mk h
  clear h
  go_enter Tryz.func12, Tryz.ntmps12
  go_wp2_with fail
  refine (toward_calls w A n c).mono ?_
  rintro e w1 ⟨rfl, hb⟩
  go_wp2_with fail
  refine (begin_calls _ p _ (HH.out.below hb)).mono ?_
  rintro e w2 ⟨rfl, b2⟩
  go_wp2
  go_ret
  exact ⟨rfl, hb.trans (b2.mono hb.size)⟩

theorem first_calls (w : World) (p : Option Addr) (h : NoCur w p) : Calls Tryz.prog 13 #[.pointer p] w fun e w' => e = .returned (.int .i64 1) ∧ Below w.heap.size w w' := by
  go_enter Tryz.func13, Tryz.ntmps13
  go_wp2_with fail
  refine (begin_calls _ p _ h).mono ?_
  rintro e w2 ⟨rfl, b2⟩
  go_wp2
  go_ret
  exact ⟨rfl, b2⟩

theorem last_calls (w : World) (p : Option Addr) (h : NoCur w p) : Calls Tryz.prog 14 #[.pointer p] w fun e w' => e = .returned (.int .i64 1) ∧ Below w.heap.size w w' := by
  go_enter Tryz.func14, Tryz.ntmps14
  go_wp2_with fail
  refine (begin_calls _ p _ h).mono ?_
  rintro e w2 ⟨rfl, b2⟩
  go_wp2
  go_ret
  exact ⟨rfl, b2⟩

theorem move_calls (w : World) (c : Option Addr) (f g : Value) (h : NoCur w c) : Calls Tryz.prog 75 #[.pointer c, f, g] w fun e w' => e = .returned (.int .i64 1) ∧ Below w.heap.size w w' := by
  go_enter Tryz.func75, Tryz.ntmps75
  go_wp2_with fail
  refine (ready79_calls _ c h).mono ?_
  rintro e w1 ⟨rfl, hb⟩
  go_wp2
  go_ret
  exact ⟨rfl, hb⟩

theorem next_calls (w : World) (p : Option Addr) (h : NoCur w p) : Calls Tryz.prog 15 #[.pointer p] w fun e w' => e = .returned (.int .i64 1) ∧ Below w.heap.size w w' := by
  go_enter Tryz.func15, Tryz.ntmps15
  go_wp2_with fail
  refine (move_calls _ p _ _ h).mono ?_
  rintro e w2 ⟨rfl, b2⟩
  go_wp2
  go_ret
  exact ⟨rfl, b2⟩

theorem prev_calls (w : World) (p : Option Addr) (h : NoCur w p) : Calls Tryz.prog 16 #[.pointer p] w fun e w' => e = .returned (.int .i64 1) ∧ Below w.heap.size w w' := by
  go_enter Tryz.func16, Tryz.ntmps16
  go_wp2_with fail
  refine (move_calls _ p _ _ h).mono ?_
  rintro e w2 ⟨rfl, b2⟩
  go_wp2
  go_ret
  exact ⟨rfl, b2⟩

/-- A pair of nothing. -/
def Z38 : Array Value := #[.slice none 0 0, .slice none 0 0]
theorem i38 : (Tryz.prog.info? 38).map (·.size) = some Z38.size := by kernel_rfl
theorem a38 : Z38.all (·.oneCell') = true := by decide +kernel

theorem at_calls (w : World) (c : Option Addr) (h : NoCurW w c) : Calls Tryz.prog 17 #[.pointer c] w fun e w' => e = .returned (.tuple #[.agg Z38, .bool false]) ∧ Below w.heap.size w w' := by
  have hB := (Below.refl w.heap.size w).alloc (Nat.le_refl _) (.cells Z38 38)
  have hg := heap_new w (.cells Z38 38)
  rcases h with rfl | ⟨g, r, p, rfl, hr, h0, h37, hp⟩
  · go_enter Tryz.func17, Tryz.ntmps17
    go_wp2_with (refine wpList_store_same rfl 38 _ _ rfl w.heap.size Z38 rfl rfl 38 hg i38 a38 ?_)
    exact bodyPost_ret (res_ct (p := 2) (q := 3) _ rfl rfl hg Tryz.underlying38 rfl i38) rfl ⟨rfl, hB⟩
  · have x1 : w.cell? ⟨g, 37, none⟩ = some (.slice none 0 0) := by rw [cell_of_row _ g 37 r 31 (0, 0) hr]; exact h37
    have lt := (Array.getElem?_eq_some_iff.1 hr).1
    have x0 : (w.alloc (.cells #[.slice none 0 0, .slice none 0 0] 38)).cell? ⟨g, 37, none⟩ = some (.slice none 0 0) := by rw [cell_of_row _ g 37 r 31 (0, 0) (onAlloc hr _)]; exact h37
    clear hr h0 h37 hp
    go_enter Tryz.func17, Tryz.ntmps17
    go_wp2_with (refine wpList_store_same rfl 38 _ _ rfl w.heap.size Z38 rfl rfl 38 hg i38 a38 ?_)
    exact bodyPost_ret (res_ct (p := 2) (q := 3) _ rfl rfl hg Tryz.underlying38 rfl i38) rfl ⟨rfl, hB⟩
end Go.Proofs.YtcdmmkmonhmckaaGreat.CurA
