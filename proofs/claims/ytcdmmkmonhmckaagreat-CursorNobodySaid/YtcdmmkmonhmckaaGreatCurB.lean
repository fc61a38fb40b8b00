import Derived.Test.YtcdmmkmonhmckaaGreatCurA
import Derived.Deep.RegionHeld3
namespace Go.Proofs.YtcdmmkmonhmckaaGreat.CurB
open Go.RowKit Go.Proofs.YtcdmmkmonhmckaaGreat.Agg Go.Proofs.YtcdmmkmonhmckaaGreat.CowA Go.Proofs.YtcdmmkmonhmckaaGreat.DeadA Go.Proofs.YtcdmmkmonhmckaaGreat.CurA
set_option linter.unusedVariables false
set_option linter.unusedSimpArgs false

theorem begin2_calls (w : World) (p : Option Addr) (A : Option Addr) (n c : Nat) (h : NoCur w p) : Calls Tryz.prog 197 #[.agg #[.pointer p, .slice A n c, .slice none 0 0, .bool false]] w fun e w' => e = .returned (.int .i64 1) ∧ Below w.heap.size w w' := by
  have HH := Aside1.mk h
  clear h
  go_enter Tryz.func197, Tryz.ntmps197
  go_wp2_with fail
  have hB := (Below.refl w.heap.size w).alloc (Nat.le_refl _) (.cells #[.pointer p, .slice A n c, .slice none 0 0, .bool false] 158)
  refine (seek_calls _ p A n c (HH.out.below hB)).mono ?_
  rintro e w1 ⟨rfl, hb⟩
  go_wp2
  go_ret
  exact ⟨rfl, hB.trans (hb.mono (by simp))⟩

theorem each_calls (w : World) (p : Option Addr) (A : Option Addr) (n c : Nat) (f : Value) (h : NoCur w p) : Calls Tryz.prog 80 #[.agg #[.pointer p, .slice A n c, .slice none 0 0, .bool false], f] w fun e w' => e = .returned (.int .i64 1) ∧ Below w.heap.size w w' := by
  have HH := Aside1.mk h
  clear h
  go_enter Tryz.func80, Tryz.ntmps80
  go_wp2_with fail
  have hB := (Below.refl w.heap.size w).alloc (Nat.le_refl _) (.cells #[.pointer p, .slice A n c, .slice none 0 0, .bool false] 158)
  refine (begin2_calls _ p A n c (HH.out.below hB)).mono ?_
  rintro e w1 ⟨rfl, hb⟩
  go_wp2_with fail
  refine wp_loop_rounds 1 ?_
  rw [rounds_succ]
  go_wp2
  go_ret
  exact ⟨rfl, hB.trans (hb.mono (by simp))⟩

/-- What New leaves, for any pool that is none. -/
theorem new_none (w : World) (p : Option Addr) (cs : Array Value) (hcs : cs.size = 36) (h : NoPool w p) : Calls Tryz.prog 11 #[.pointer p, .agg cs] w fun e w' => ∃ c, e = .returned (.pointer c) ∧ NoCurW w' c ∧ Below w.heap.size w w' := by
  refine (new_calls' w p cs hcs).mono ?_
  rintro e w' ⟨r, rfl, hg, h0, h37, hb, hs⟩
  exact ⟨_, rfl, .inr ⟨_, r, p, rfl, hg, h0, h37, h.below hb⟩, hb⟩

/-- A whole row is loaded, in any world that keeps it. -/
theorem yieldsIf_load_row {P : Program} {ops : Array Oper} {S : World → Prop} {op : Oper} {a : Act} (hw : Region.wanted op (yielded ops a.tmps) = true) (ty : TypeId) (x : Operand) (ho : op.op = .load ty x)
    (g : Nat) (hx : a.eval x = .pointer (some ⟨g, 0, none⟩)) (t : TypeId) (cs : Array Value) (fr : Nat × Nat) (d : TypeDesc) (hg : ∀ w, S w → w.heap[g]? = some (.cells cs t fr))
    (hu : P.underlying ty = some d) (hd : (match d with | .struct _ | .array _ _ => true | _ => false) = true) (hi : (P.info? ty).map (·.size) = some cs.size) : YieldsIf P ops S op (.agg cs) a :=
  .inl ⟨hw, fun w hS => by
    unfold execOp
    simp only [ho, hx, Instr.loadAt, Instr.sureAddr, Sem.run_bind, Sem.run_pure, Result.andThen_ok, run_loadVar_row w g t ty cs fr d (hg w hS) hu hd hi]⟩

set_option maxHeartbeats 4000000 in
set_option maxRecDepth 100000 in
theorem count_calls (w : World) (A : Option Addr) (n c : Nat) : Calls Tryz.prog 19 #[.pointer none, .agg Z28, .agg #[.slice A n c, .slice none 0 0]] w fun e w' => e = .returned (.tuple #[.int .i64 0, .int .i64 1]) ∧ Below w.heap.size w w' := by
  go_enter Tryz.func19, Tryz.ntmps19
  go_wp2_with fail
  have g0 := onAlloc (onAlloc (heap_new w (.cells Z28 28)) (.cells #[.slice A n c, .slice none 0 0] 44)) (.cells #[.int .i64 0] 3)
  have g1 := onAlloc (heap_new (w.alloc (.cells Z28 28)) (.cells #[.slice A n c, .slice none 0 0] 44)) (.cells #[.int .i64 0] 3)
  have e1 : (w.alloc (.cells Z28 28)).heap.size = w.heap.size + 1 := by simp
  rw [e1] at g1
  have hB := ((Below.refl w.heap.size w).alloc (Nat.le_refl _) (.cells Z28 28)).alloc (by simp) (.cells #[.slice A n c, .slice none 0 0] 44) |>.alloc (by simp; omega) (.cells #[.int .i64 0] 3)
  have hS : w.heap.size + 1 < (((w.alloc (.cells Z28 28)).alloc (.cells #[.slice A n c, .slice none 0 0] 44)).alloc (.cells #[.int .i64 0] 3)).heap.size := by simp
  generalize (((w.alloc (.cells Z28 28)).alloc (.cells #[.slice A n c, .slice none 0 0] 44)).alloc (.cells #[.int .i64 0] 3)) = W at *
  refine wp_region_held_drew (S := fun w' => w'.heap[w.heap.size]? = some (.cells Z28 28 (0, 0)) ∧ w'.heap[w.heap.size + 1]? = some (.cells #[.slice A n c, .slice none 0 0] 44 (0, 0))) (by kernel_rfl) ⟨g0, g1⟩ (fun hW => ?_)
  refine wpAnyH_take (i := 1) rfl (by kernel_rfl) (by kernel_rfl) (by kernel_rfl) (fun _ _ _ h => h) (yieldsIf_load_row (by rfl) 28 _ rfl w.heap.size rfl 28 Z28 (0, 0) _ (fun _ h => h.1) Tryz.underlying28 rfl i28) hW ?_
  try simp only [Act.put, List.setIfInBounds_toArray, List.set_cons_zero, List.set_cons_succ]
  refine wpAnyH_take (i := 3) rfl (by kernel_rfl) (by kernel_rfl) (by kernel_rfl) (fun _ _ _ h => h) (yieldsIf_load_row (by rfl) 44 _ rfl (w.heap.size + 1) rfl 44 #[.slice A n c, .slice none 0 0] (0, 0) _ (fun _ h => h.2) Tryz.underlying44 rfl (by kernel_rfl)) hW ?_
  try simp only [Act.put, List.setIfInBounds_toArray, List.set_cons_zero, List.set_cons_succ]
  refine wpAnyH_take (i := 0) (v := .pointer none) rfl (by kernel_rfl) (by kernel_rfl) (by kernel_rfl) (fun _ _ _ h => h) (.inl ⟨by rfl, fun _ _ => by go_simp⟩) hW ?_
  try simp only [Act.put, List.setIfInBounds_toArray, List.set_cons_zero, List.set_cons_succ]
  refine wpAnyH_take (i := 5) (v := .func (.func 82) #[] #[.pointer (some ⟨w.heap.size + 1 + 1, 0, none⟩)]) rfl (by kernel_rfl) (by kernel_rfl) (by kernel_rfl) (fun _ _ _ h => h) (.inl ⟨by rfl, fun _ _ => by go_simp⟩) hW ?_
  try simp only [Act.put, List.setIfInBounds_toArray, List.set_cons_zero, List.set_cons_succ]
  refine wpAnyH_ready (rs := [2]) (by kernel_rfl) (by simp) (AllReadyH.cons rfl (fun K1 hK1 => ?_) AllReadyH.nil)
  go_simp
  refine (new_none _ none Z28 rfl (.inl rfl)).mono ?_
  rintro e w1 ⟨c1, rfl, hN, hb0⟩
  have hb : Below W.heap.size W w1 := Below.trans (Below.drew (Below.refl _ _)) hb0
  refine hK1.out _ _ ⟨keep hb g0 (by omega), keep hb g1 hS⟩ (fun hW1 => ?_)
  try simp only [Act.put, List.setIfInBounds_toArray, List.set_cons_zero, List.set_cons_succ]
  refine wpAnyH_take (i := 4) (v := .agg #[.pointer c1, .slice A n c, .slice none 0 0, .bool false]) rfl (by kernel_rfl) (by kernel_rfl) (by kernel_rfl) (fun _ _ _ h => h) (.inl ⟨by rfl, fun _ _ => by go_simp⟩) hW1 ?_
  try simp only [Act.put, List.setIfInBounds_toArray, List.set_cons_zero, List.set_cons_succ]
  refine wpAnyH_ready (rs := [6]) (by kernel_rfl) (by simp) (AllReadyH.cons rfl (fun K2 hK2 => ?_) AllReadyH.nil)
  go_simp
  refine (each_calls _ c1 A n c _ hN.cur).mono ?_
  rintro e w2 ⟨rfl, b2⟩
  refine hK2.out _ _ ⟨keep b2 hW1.1 (Nat.lt_of_lt_of_le (by omega) hb.size), keep b2 hW1.2 (Nat.lt_of_lt_of_le hS hb.size)⟩ (fun hW2 => ?_)
  try simp only [Act.put, List.setIfInBounds_toArray, List.set_cons_zero, List.set_cons_succ]
  refine wpAnyH_take (i := 7) (v := .int .i64 1) rfl (by kernel_rfl) (by kernel_rfl) (by kernel_rfl) (fun _ _ _ h => h) (.inl ⟨by rfl, fun _ _ => by go_simp⟩) hW2 ?_
  try simp only [Act.put, List.setIfInBounds_toArray, List.set_cons_zero, List.set_cons_succ]
  refine wpAnyH_done (by kernel_rfl) ?_ _
  have HB := Aside1.mk (hB.trans ((hb.trans (b2.mono hb.size)).mono (by omega)))
  clear hK1 hK2 K1 K2 hW hW1 hW2 hN hb hb0 b2 hB hS g0 g1 e1
  go_wp2
  go_ret2
  exact ⟨rfl, HB.out⟩
end Go.Proofs.YtcdmmkmonhmckaaGreat.CurB
