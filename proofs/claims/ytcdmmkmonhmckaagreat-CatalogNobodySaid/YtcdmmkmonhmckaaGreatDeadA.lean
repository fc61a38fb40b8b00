import Derived.Test.YtcdmmkmonhmckaaGreatCowA
namespace Go.Proofs.YtcdmmkmonhmckaaGreat.DeadA
open Go.RowKit Go.Proofs.YtcdmmkmonhmckaaGreat.Agg Go.Proofs.YtcdmmkmonhmckaaGreat.CowA
set_option linter.unusedVariables false

theorem res_ctt {P : Program} {fn : Func} {w : World} {g : Nat} {t ty p q r : Nat} {cs : Array Value} {fr : Nat × Nat} {d : TypeDesc} (tmps : Array Value) (h : fn.results = #[.cell p ty, .tmp q, .tmp r]) (hp : tmps.getD p undef = .pointer (some ⟨g, 0, none⟩)) (hg : w.heap[g]? = some (.cells cs t fr))
    (hu : P.underlying ty = some d) (hd : (match d with | .struct _ | .array _ _ => true | _ => false) = true) (hi : (P.info? ty).map (·.size) = some cs.size) :
    (results fn tmps).run P w = .ok (.tuple #[.agg cs, tmps.getD q undef, tmps.getD r undef]) w := by
  have hp' : tmps[p]?.getD undef = .pointer (some ⟨g, 0, none⟩) := by simpa using hp
  simp [results, h, hp', asAddr, run_loadVar_row w g t ty cs fr d hg hu hd hi]

theorem wpList_build_of {P : Program} {ops : Array Oper} {rest : List Oper} {o : Oper} {a : Act} {w : World} {Q : Exit → Act → World → Prop} (hg : o.guard = none) (t : TypeId) (parts : Array (Nat × Operand)) (ho : o.op = .build t parts)
    (cells : Array Value) (hc : P.built t (parts.map fun (i, x) => (i, a.eval x)).toList = some cells)
    (h : wpList P ops Q rest (a.put o.dst (.agg cells)) w) : wpList P ops Q (o :: rest) a w :=
  wpList_build hg t parts ho (by rw [hc]; rfl) (by rw [hc]; exact h)

set_option maxRecDepth 100000 in
theorem built31 (p : Option Addr) (cs : Array Value) (hcs : cs.size = 36) : ∃ r, Tryz.prog.built 31 [(0, .pointer p), (1, .agg cs)] = some r ∧ r[0]? = some (.pointer p) := by
  rcases cs with ⟨l⟩
  rcases l with _ | ⟨c0, l⟩; · simp at hcs
  rcases l with _ | ⟨c1, l⟩; · simp at hcs
  rcases l with _ | ⟨c2, l⟩; · simp at hcs
  rcases l with _ | ⟨c3, l⟩; · simp at hcs
  rcases l with _ | ⟨c4, l⟩; · simp at hcs
  rcases l with _ | ⟨c5, l⟩; · simp at hcs
  rcases l with _ | ⟨c6, l⟩; · simp at hcs
  rcases l with _ | ⟨c7, l⟩; · simp at hcs
  rcases l with _ | ⟨c8, l⟩; · simp at hcs
  rcases l with _ | ⟨c9, l⟩; · simp at hcs
  rcases l with _ | ⟨c10, l⟩; · simp at hcs
  rcases l with _ | ⟨c11, l⟩; · simp at hcs
  rcases l with _ | ⟨c12, l⟩; · simp at hcs
  rcases l with _ | ⟨c13, l⟩; · simp at hcs
  rcases l with _ | ⟨c14, l⟩; · simp at hcs
  rcases l with _ | ⟨c15, l⟩; · simp at hcs
  rcases l with _ | ⟨c16, l⟩; · simp at hcs
  rcases l with _ | ⟨c17, l⟩; · simp at hcs
  rcases l with _ | ⟨c18, l⟩; · simp at hcs
  rcases l with _ | ⟨c19, l⟩; · simp at hcs
  rcases l with _ | ⟨c20, l⟩; · simp at hcs
  rcases l with _ | ⟨c21, l⟩; · simp at hcs
  rcases l with _ | ⟨c22, l⟩; · simp at hcs
  rcases l with _ | ⟨c23, l⟩; · simp at hcs
  rcases l with _ | ⟨c24, l⟩; · simp at hcs
  rcases l with _ | ⟨c25, l⟩; · simp at hcs
  rcases l with _ | ⟨c26, l⟩; · simp at hcs
  rcases l with _ | ⟨c27, l⟩; · simp at hcs
  rcases l with _ | ⟨c28, l⟩; · simp at hcs
  rcases l with _ | ⟨c29, l⟩; · simp at hcs
  rcases l with _ | ⟨c30, l⟩; · simp at hcs
  rcases l with _ | ⟨c31, l⟩; · simp at hcs
  rcases l with _ | ⟨c32, l⟩; · simp at hcs
  rcases l with _ | ⟨c33, l⟩; · simp at hcs
  rcases l with _ | ⟨c34, l⟩; · simp at hcs
  rcases l with _ | ⟨c35, l⟩; · simp at hcs
  rcases l with _ | ⟨c, l⟩
  · exact ⟨#[.pointer p, c0, c1, c2, c3, c4, c5, c6, c7, c8, c9, c10, c11, c12, c13, c14, c15, c16, c17, c18, c19, c20, c21, c22, c23, c24, c25, c26, c27, c28, c29, c30, c31, c32, c33, c34, c35, .slice none 0 0], by kernel_rfl, rfl⟩
  · simp at hcs

theorem new_calls (w : World) (p : Option Addr) (cs : Array Value) (hcs : cs.size = 36) : Calls Tryz.prog 11 #[.pointer p, .agg cs] w fun e w' => ∃ r, e = .returned (.pointer (some ⟨w.heap.size + 1, 0, none⟩)) ∧ w'.heap[w.heap.size + 1]? = some (.cells r 31 (0, 0)) ∧ r[0]? = some (.pointer p) ∧ Below w.heap.size w w' ∧ w.heap.size + 1 < w'.heap.size := by
  obtain ⟨r, hr, h0⟩ := built31 p cs hcs
  have hi : (Tryz.prog.info? 28).map (·.size) = some cs.size := by rw [hcs]; kernel_rfl
  have HH := Aside1.mk (And.intro hr (And.intro h0 (And.intro hi hcs)))
  clear hr h0 hi hcs
  go_enter Tryz.func11, Tryz.ntmps11
  go_wp2_with (first | (refine wpList_load_row rfl 28 _ rfl _ rfl 28 cs (0, 0) _ (heap_new _ _) Tryz.underlying28 rfl HH.out.2.2.1 ?_) | (refine wpList_build_of rfl 31 #[(0, .tmp 5), (1, .tmp 6)] rfl r ?hb ?_; (case hb => simp [Act.eval]; exact HH.out.1)))
  go_ret
  exact ⟨r, rfl, by have := heap_new (w.alloc (.cells cs 28)) (.cells r 31); simpa using this, HH.out.2.1, ((Below.refl _ _).alloc (Nat.le_refl _) _).alloc (by simp) _, by simp⟩

/-- No cursor: nil, or one of no pool. -/
def NoCur (w : World) (c : Option Addr) : Prop := c = none ∨ ∃ g r p, c = some ⟨g, 0, none⟩ ∧ w.heap[g]? = some (.cells r 31 (0, 0)) ∧ r[0]? = some (.pointer p) ∧ NoPool w p
theorem NoCur.below {w w1 : World} {c : Option Addr} (h : NoCur w c) (hb : Below w.heap.size w w1) : NoCur w1 c := by
  rcases h with h | ⟨g, r, p, h, hg, h0, hp⟩
  · exact .inl h
  · exact .inr ⟨g, r, p, h, keep hb hg (Array.getElem?_eq_some_iff.1 hg).1, h0, hp.below hb⟩

theorem ready79_calls (w : World) (c : Option Addr) (h : NoCur w c) : Calls Tryz.prog 79 #[.pointer c] w fun e w' => e = .returned (.int .i64 1) ∧ Below w.heap.size w w' := by
  rcases h with rfl | ⟨g, r, p, rfl, hg, h0, hp⟩
  · go_enter Tryz.func79, Tryz.ntmps79
    go_wp2
    go_ret
    exact ⟨rfl, Below.refl _ _⟩
  · have x0 : w.cell? ⟨g, 0, none⟩ = some (.pointer p) := by rw [cell_of_row w g 0 r 31 (0, 0) hg]; exact h0
    have HH := Aside1.mk hp
    clear hg h0 hp
    go_enter Tryz.func79, Tryz.ntmps79
    go_wp2_with fail
    refine (get_calls _ p _ _ HH.out).mono ?_
    rintro e w1 ⟨rfl, hb⟩
    go_wp2
    go_ret
    exact ⟨rfl, hb⟩

theorem ready113_calls (w : World) (p : Option Addr) (h : NoPool w p) : Calls Tryz.prog 113 #[.pointer p] w fun e w' => e = .returned (.int .i64 1) ∧ Below w.heap.size w w' := by
  go_enter Tryz.func113, Tryz.ntmps113
  go_wp2_with fail
  refine (get_calls _ p _ _ h).mono ?_
  rintro e w1 ⟨rfl, hb⟩
  go_wp2
  go_ret
  exact ⟨rfl, hb⟩

theorem add_calls (w : World) (p : Option Addr) (cs : Array Value) (l : Value) (h : NoPool w p) : Calls Tryz.prog 30 #[.pointer p, .agg cs, l] w fun e w' => e = .returned (.tuple #[.agg Z28, .int .i64 1]) ∧ Below w.heap.size w w' := by
  have R := fun W (hb : Below w.heap.size w W) => ready113_calls W p (h.below hb)
  clear h
  go_enter Tryz.func30, Tryz.ntmps30
  go_wp2_with fail
  have hB := ((Below.refl w.heap.size w).alloc (Nat.le_refl _) (.cells cs 28)).alloc (by simp) (.cells Z28 28)
  refine (R _ hB).mono ?_
  rintro e w1 ⟨rfl, hb⟩
  have hg := keep hb (heap_new (w.alloc (.cells cs 28)) (.cells Z28 28)) (by simp)
  simp at hg
  go_wp2_with (refine wpList_store_same rfl 28 _ _ rfl (w.heap.size + 1) Z28 rfl rfl 28 hg i28 a28 ?_)
  exact bodyPost_ret (res_ct (p := 6) (q := 7) _ rfl rfl hg Tryz.underlying28 rfl i28) rfl ⟨rfl, hB.trans (hb.mono (by simp; omega))⟩

theorem range_calls (w : World) (p : Option Addr) (cs ks : Array Value) (n : Int) (v : Bool) (hcs : cs.size = 36) (h : NoPool w p) : Calls Tryz.prog 18 #[.pointer p, .agg cs, .agg ks, .int .i64 n, .bool v] w fun e w' => e = .returned (.tuple #[.slice none 0 0, .int .i64 1]) ∧ Below w.heap.size w w' := by
  have hi : (Tryz.prog.info? 28).map (·.size) = some cs.size := by rw [hcs]; kernel_rfl
  have HH := Aside1.mk (And.intro h (And.intro hi hcs))
  clear h hi hcs
  have x0 := Aside1.mk (onAlloc (onAlloc (onAlloc (heap_new w (.cells cs 28)) (.cells ks 44)) (.cells #[.int .i64 n] 3)) (.cells #[.slice none 0 0] 41))
  go_enter Tryz.func18, Tryz.ntmps18
  go_wp2_with (refine wpList_load_row rfl 28 _ rfl _ rfl 28 cs (0, 0) _ x0.out Tryz.underlying28 rfl HH.out.2.1 ?_)
  have hB := ((((Below.refl w.heap.size w).alloc (Nat.le_refl _) (.cells cs 28)).alloc (by simp) (.cells ks 44)).alloc (by simp; omega) (.cells #[.int .i64 n] 3)).alloc (by simp; omega) (.cells #[.slice none 0 0] 41)
  refine (new_calls _ p cs HH.out.2.2).mono ?_
  have e4 : ((((w.alloc (.cells cs 28)).alloc (.cells ks 44)).alloc (.cells #[.int .i64 n] 3)).alloc (.cells #[.slice none 0 0] 41)).heap.size = w.heap.size + 1 + 1 + 1 + 1 := by simp
  rw [e4]
  rintro e w1 ⟨r, rfl, hg, h0, hb, hs⟩
  have hW := hB.trans (hb.mono (by omega))
  have hN := Aside1.mk (ready79_calls w1 _ (.inr ⟨_, r, p, rfl, hg, h0, HH.out.1.below hW⟩))
  clear hg h0
  go_wp2_with fail
  refine hN.out.mono ?_
  rintro e w2 ⟨rfl, b2⟩
  go_wp2
  go_ret2
  exact ⟨rfl, hW.trans (b2.mono (by have := hW.size; omega))⟩

theorem all_calls (w : World) (p : Option Addr) (cs : Array Value) (hcs : cs.size = 36) (h : NoPool w p) : Calls Tryz.prog 31 #[.pointer p, .agg cs] w fun e w' => e = .returned (.tuple #[.slice none 0 0, .int .i64 1]) ∧ Below w.heap.size w w' := by
  have hi : (Tryz.prog.info? 28).map (·.size) = some cs.size := by rw [hcs]; kernel_rfl
  have HH := Aside1.mk (And.intro h (And.intro hi hcs))
  clear h hi hcs
  go_enter Tryz.func31, Tryz.ntmps31
  go_wp2_with (refine wpList_load_row rfl 28 _ rfl _ rfl 28 cs (0, 0) _ (heap_new w _) Tryz.underlying28 rfl HH.out.2.1 ?_)
  have hB := (Below.refl w.heap.size w).alloc (Nat.le_refl _) (.cells cs 28)
  refine (range_calls _ p cs _ _ _ HH.out.2.2 (HH.out.1.below hB)).mono ?_
  rintro e w1 ⟨rfl, hb⟩
  go_wp2
  go_ret2
  exact ⟨rfl, hB.trans (hb.mono (by simp))⟩

theorem take_calls (w : World) (p : Option Addr) (cs : Array Value) (n : Value) (hcs : cs.size = 36) (h : NoPool w p) : Calls Tryz.prog 32 #[.pointer p, .agg cs, n] w fun e w' => e = .returned (.tuple #[.agg Z28, .slice none 0 0, .int .i64 1]) ∧ Below w.heap.size w w' := by
  have hi : (Tryz.prog.info? 28).map (·.size) = some cs.size := by rw [hcs]; kernel_rfl
  have HH := Aside1.mk (And.intro h (And.intro hi hcs))
  clear h hi hcs
  go_enter Tryz.func32, Tryz.ntmps32
  go_wp2_with (refine wpList_load_row rfl 28 _ rfl _ rfl 28 cs (0, 0) _ (onAlloc (heap_new w _) _) Tryz.underlying28 rfl HH.out.2.1 ?_)
  have hB := ((Below.refl w.heap.size w).alloc (Nat.le_refl _) (.cells cs 28)).alloc (by simp) (.cells Z28 28)
  refine (all_calls _ p cs HH.out.2.2 (HH.out.1.below hB)).mono ?_
  rintro e w1 ⟨rfl, hb⟩
  have hg := keep hb (heap_new (w.alloc (.cells cs 28)) (.cells Z28 28)) (by simp)
  simp at hg
  go_wp2_with (refine wpList_store_same rfl 28 _ _ rfl (w.heap.size + 1) Z28 rfl rfl 28 hg i28 a28 ?_)
  exact bodyPost_ret (res_ctt (p := 6) (q := 7) (r := 8) _ rfl rfl hg Tryz.underlying28 rfl i28) rfl ⟨rfl, hB.trans (hb.mono (by simp; omega))⟩

theorem join_calls (w : World) (p : Option Addr) (cs : Array Value) (hcs : cs.size = 36) (h : NoPool w p) : Calls Tryz.prog 33 #[.pointer p, .agg cs, .agg cs] w fun e w' => e = .returned (.tuple #[.agg Z28, .int .i64 1]) ∧ Below w.heap.size w w' := by
  have hi : (Tryz.prog.info? 28).map (·.size) = some cs.size := by rw [hcs]; kernel_rfl
  have HH := Aside1.mk (And.intro h (And.intro hi hcs))
  clear h hi hcs
  have x0 := onAlloc (heap_new (w.alloc (.cells cs 28)) (.cells cs 28)) (.cells Z28 28)
  have e0 : (w.alloc (.cells cs 28)).heap.size = w.heap.size + 1 := by simp
  rw [e0] at x0
  replace x0 := Aside1.mk x0
  clear e0
  go_enter Tryz.func33, Tryz.ntmps33
  go_wp2_with (refine wpList_load_row rfl 28 _ rfl _ rfl 28 cs (0, 0) _ x0.out Tryz.underlying28 rfl HH.out.2.1 ?_)
  have hB := (((Below.refl w.heap.size w).alloc (Nat.le_refl _) (.cells cs 28)).alloc (by simp) (.cells cs 28)).alloc (by simp; omega) (.cells Z28 28)
  refine (all_calls _ p cs HH.out.2.2 (HH.out.1.below hB)).mono ?_
  rintro e w1 ⟨rfl, hb⟩
  have hg := keep hb (heap_new ((w.alloc (.cells cs 28)).alloc (.cells cs 28)) (.cells Z28 28)) (by simp)
  simp at hg
  go_wp2_with (refine wpList_store_same rfl 28 _ _ rfl (w.heap.size + 1 + 1) Z28 rfl rfl 28 hg i28 a28 ?_)
  exact bodyPost_ret (res_ct (p := 6) (q := 7) _ rfl rfl hg Tryz.underlying28 rfl i28) rfl ⟨rfl, hB.trans (hb.mono (by simp; omega))⟩

theorem walk_calls (w : World) (p : Option Addr) (cs : Array Value) (f g : Value) (h : NoPool w p) : Calls Tryz.prog 246 #[.pointer p, .agg cs, f, g] w fun e w' => e = .returned (.int .i64 1) ∧ Below w.heap.size w w' := by
  have HH := Aside1.mk h
  clear h
  go_enter Tryz.func246, Tryz.ntmps246
  go_wp2_with fail
  have hB := (Below.refl w.heap.size w).alloc (Nat.le_refl _) (.cells cs 28)
  refine (get_calls _ p _ _ (HH.out.below hB)).mono ?_
  rintro e w1 ⟨rfl, hb⟩
  go_wp2
  go_ret
  exact ⟨rfl, hB.trans (hb.mono (by simp))⟩

theorem i213 : (Tryz.prog.info? 213).map (·.size) = some (#[.slice none 0 0, .int .i64 0, .int .i64 0] : Array Value).size := by kernel_rfl
theorem a213 : (#[.slice none 0 0, .int .i64 0, .int .i64 0] : Array Value).all (·.oneCell') = true := by decide +kernel
theorem Walk_calls (w : World) (p : Option Addr) (cs : Array Value) (hcs : cs.size = 36) (h : NoPool w p) : Calls Tryz.prog 123 #[.pointer p, .agg cs] w fun e w' => e = .returned (.tuple #[.agg #[.slice none 0 0, .int .i64 0, .int .i64 0], .int .i64 1]) ∧ Below w.heap.size w w' := by
  have hi : (Tryz.prog.info? 28).map (·.size) = some cs.size := by rw [hcs]; kernel_rfl
  have HH := Aside1.mk (And.intro h (And.intro hi hcs))
  clear h hi hcs
  have x0 := Aside1.mk (onAlloc (onAlloc (heap_new w (.cells cs 28)) (.cells #[.slice none 0 0, .int .i64 0, .int .i64 0] 213)) (.cells #[.slice none 0 0, .int .i64 0, .int .i64 0] 213))
  go_enter Tryz.func123, Tryz.ntmps123
  go_wp2_with (refine wpList_load_row rfl 28 _ rfl _ rfl 28 cs (0, 0) _ x0.out Tryz.underlying28 rfl HH.out.2.1 ?_)
  have hB := ((Below.refl w.heap.size w).alloc (Nat.le_refl _) (.cells cs 28)).alloc (by simp) (.cells #[.slice none 0 0, .int .i64 0, .int .i64 0] 213) |>.alloc (by simp; omega) (.cells #[.slice none 0 0, .int .i64 0, .int .i64 0] 213)
  refine (walk_calls _ p cs _ _ (HH.out.1.below hB)).mono ?_
  rintro e w1 ⟨rfl, hb⟩
  have hg := keep hb (onAlloc (heap_new (w.alloc (.cells cs 28)) (.cells #[.slice none 0 0, .int .i64 0, .int .i64 0] 213)) (.cells #[.slice none 0 0, .int .i64 0, .int .i64 0] 213)) (by simp)
  have e0 : (w.alloc (.cells cs 28)).heap.size = w.heap.size + 1 := by simp
  rw [e0] at hg
  go_wp2_with (refine wpList_store_same rfl 213 _ _ rfl (w.heap.size + 1) #[.slice none 0 0, .int .i64 0, .int .i64 0] rfl rfl 213 hg i213 a213 ?_)
  exact bodyPost_ret (res_ct (p := 4) (q := 5) _ rfl rfl hg Tryz.underlying213 rfl i213) rfl ⟨rfl, hB.trans (hb.mono (by simp; omega))⟩

theorem drop_calls (w : World) (p : Option Addr) (cs : Array Value) (hcs : cs.size = 36) (h : NoPool w p) : Calls Tryz.prog 34 #[.pointer p, .agg cs] w fun e w' => e = .returned (.int .i64 1) ∧ Below w.heap.size w w' := by
  have hi : (Tryz.prog.info? 28).map (·.size) = some cs.size := by rw [hcs]; kernel_rfl
  have HH := Aside1.mk (And.intro h (And.intro hi hcs))
  clear h hi hcs
  go_enter Tryz.func34, Tryz.ntmps34
  go_wp2_with (refine wpList_load_row rfl 28 _ rfl _ rfl 28 cs (0, 0) _ (heap_new w _) Tryz.underlying28 rfl HH.out.2.1 ?_)
  have hB := (Below.refl w.heap.size w).alloc (Nat.le_refl _) (.cells cs 28)
  refine (Walk_calls _ p cs HH.out.2.2 (HH.out.1.below hB)).mono ?_
  rintro e w1 ⟨rfl, hb⟩
  go_wp2_with fail
  refine wp_loop_rounds 1 ?_
  rw [rounds_succ]
  go_wp2
  go_ret
  exact ⟨rfl, (hB.trans (hb.mono (by simp))).alloc (by have := hb.size; simp at this; omega) _⟩
end Go.Proofs.YtcdmmkmonhmckaaGreat.DeadA
