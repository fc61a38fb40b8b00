/- A pool of nine sectors is made: contracts of the callees. -/
import Derived.Test.YtcdmmkmonhmckaaVerA
import Derived.Deep.RegionHeld3
import Derived.Laws.AppendOwnNone
import Derived.Laws.OwnMore
namespace Go.Proofs.Ytcdmmkmonhmckaa.VerB
open Go.RowKit Go.Proofs.Ytcdmmkmonhmckaa.Agg Go.Proofs.Ytcdmmkmonhmckaa.VerA
set_option linter.unusedVariables false
set_option linter.unusedSimpArgs false

theorem right_29 (w : World) : Calls Try.prog 26 #[.agg #[.int .i64 2, .int .i64 9]] w fun e w' => e = .returned (.bool true) ∧ Below w.heap.size w w' := by
  go_enter Try.func26, Try.ntmps26
  go_wp2
  go_ret
  exact ⟨rfl, (Below.refl _ _).alloc (Nat.le_refl _) _⟩

theorem valid_nil (w : World) : Calls Try.prog 25 #[.slice none 0 0] w fun e w' => e = .returned (.bool true) ∧ w = w' := by
  go_enter Try.func25, Try.ntmps25
  go_wp2_with fail
  refine wp_loop_rounds 1 ?_
  rw [rounds_succ]
  go_wp2
  go_ret
  exact ⟨rfl, rfl⟩

theorem search_nil (w : World) (n f : Value) : Calls Try.prog 36 #[.slice none 0 0, n, f] w fun e w' => e = .returned (.tuple #[.int .i64 0, .bool false]) ∧ w = w' := by
  go_enter Try.func36, Try.ntmps36
  go_wp2_with fail
  refine wp_loop_rounds 1 ?_
  rw [rounds_succ]
  go_wp2
  go_ret2
  exact ⟨rfl, rfl⟩

theorem first_nil (w : World) (n : Value) : Calls Try.prog 27 #[.slice none 0 0, n] w fun e w' => e = .returned (.int .i64 0) ∧ w = w' := by
  go_enter Try.func27, Try.ntmps27
  go_wp2_with fail
  refine (search_nil _ _ _).mono ?_
  rintro e w1 ⟨rfl, rfl⟩
  go_wp2
  go_ret
  exact ⟨rfl, rfl⟩

theorem add_zero (b j : Nat) : (⟨b, 0, none⟩ : Addr).add j = ⟨b, j, none⟩ := by
  unfold Addr.add
  split
  · rename_i h; rw [h]
  · simp
theorem wp_append_none {P : Program} {o : Oper} {a : Act} {w : World} {K : Act → World → Prop} {Q : Exit → Act → World → Prop} (s x : Operand) (t : TypeId)
    (ho : o.op = .call { callee := .builtin .append, args := #[s, x], argTypes := #[t, t] })
    (base : Nat) (e : TypeId) (i : TypeInfo) (size : Nat) (ht : P.underlying t = some (.slice e)) (hi : P.info? e = some i)
    (v : Value) (n : Nat) (xs : List Value) (hs : a.eval s = v) (hown : w.ownsRow base e size v n xs) (hx : a.eval x = .slice none 0 0)
    (h : K (a.put o.dst v) w) : o.wp P a w K Q := by
  have hrun := run_append_owned_none (P := P) (w := w) base t o.type e i size ht hi v n xs hown
  unfold Oper.wp
  simp [execOp, ho, resolve, invoke, builtin, hs, hx, hrun, Result.andThen]
  exact h
theorem info52 : (Try.prog.info? 52).map (fun i => (i.zero, i.size, i.bytes)) = some (some (.agg #[.int .i64 0, .int .i64 0]), 2, 16) := by kernel_rfl
set_option maxRecDepth 100000 in
set_option maxHeartbeats 1000000 in
theorem replace_nil (w : World) (b : Nat) (x y : Value) (hb : w.heap[b]? = some (.cells #[x, y] 52 (0, 0))) (hx : x.oneCell' = true) (hy : y.oneCell' = true) :
    Calls Try.prog 29 #[.slice none 0 0, .int .i64 0, .int .i64 0, .slice (some ⟨b, 0, none⟩) 1 1] w fun e w' => (∃ A n c, e = .returned (.slice A n c)) ∧ Below w.heap.size w w' := by
  have hB := Aside1.mk (Below.drew ((Below.refl w.heap.size w).alloc (Nat.le_refl _) (.cells #[] 52)))
  have hO := Aside1.mk (World.ownsRow_lit (base := w.heap.size) (e := 52) (size := 2) w #[] 0 (Nat.le_refl _) (by simp [maxLen]) (by simp))
  have hg := Aside1.mk (onAlloc hb (.cells #[] 52))
  clear hb
  obtain ⟨i0, hi, hz0, hz1, hz2⟩ := info_parts info52
  go_enter Try.func29, Try.ntmps29
  go_wp2
  have hs : w.heap.size ≤ (w.alloc (.cells #[] 52)).heap.size := by simp
  generalize w.alloc (.cells #[] 52) = W at *
  refine wp_region_held_drew (S := fun w' => Below w.heap.size w w') (by kernel_rfl) hB.out (fun hW => ?_)
  refine wpAnyH_take (i := 0) (oi := ⟨some 15, _, _, _, _, _⟩) (v := .slice (some ⟨w.heap.size, 0, none⟩) 0 0) rfl (by kernel_rfl) (by kernel_rfl) (by kernel_rfl) (fun _ _ _ h => h) (.inl ⟨by rfl, fun _ _ => by go_simp⟩) hW ?_
  try simp only [Act.put, List.setIfInBounds_toArray, List.set_cons_zero, List.set_cons_succ]
  refine wpAnyH_take (i := 1) (oi := ⟨some 16, _, _, _, _, _⟩) (v := .slice (some ⟨b, 0, none⟩) 1 1) rfl (by kernel_rfl) (by kernel_rfl) (by kernel_rfl) (fun _ _ _ h => h) (.inl ⟨by rfl, fun _ _ => by go_simp⟩) hW ?_
  try simp only [Act.put, List.setIfInBounds_toArray, List.set_cons_zero, List.set_cons_succ]
  refine wpAnyH_take (i := 3) (oi := ⟨some 18, _, _, _, _, _⟩) (v := .slice none 0 0) rfl (by kernel_rfl) (by kernel_rfl) (by kernel_rfl) (fun _ _ _ h => h) (.inl ⟨by rfl, fun _ _ => by go_simp⟩) hW ?_
  try simp only [Act.put, List.setIfInBounds_toArray, List.set_cons_zero, List.set_cons_succ]
  refine wpAnyH_take (i := 4) (oi := ⟨some 19, _, _, _, _, _⟩) (v := .int .i64 0) rfl (by kernel_rfl) (by kernel_rfl) (by kernel_rfl) (fun _ _ _ h => h) (.inl ⟨by rfl, fun _ _ => by go_simp⟩) hW ?_
  try simp only [Act.put, List.setIfInBounds_toArray, List.set_cons_zero, List.set_cons_succ]
  refine wpAnyH_take (i := 5) (oi := ⟨some 20, _, _, _, _, _⟩) (v := .slice none 0 0) rfl (by kernel_rfl) (by kernel_rfl) (by kernel_rfl) (fun _ _ _ h => h) (.inl ⟨by rfl, fun _ _ => by go_simp⟩) hW ?_
  try simp only [Act.put, List.setIfInBounds_toArray, List.set_cons_zero, List.set_cons_succ]
  refine wpAnyH_ready (rs := [2]) (by kernel_rfl) (by simp) (AllReadyH.cons rfl (fun K1 hK1 => ?_) AllReadyH.nil)
  have hcell : ∀ j u, [x, y][j]? = some u → W.drew.cell? ((⟨b, 0, none⟩ : Addr).add j) = some u := by
    intro j u hj
    show W.cell? _ = some u
    rw [add_zero b j, cell_of_row W b j _ 52 (0, 0) hg.out]
    simpa using hj
  have hO2 : W.drew.ownsRow w.heap.size 52 2 (.slice (some ⟨w.heap.size, 0, none⟩) 0 0) 0 [] := hO.out
  refine wp_append_own (o := ⟨some 17, _, _, _, _, _⟩) _ (.tmp 15) (.tmp 16) 39 rfl w.heap.size 52 i0 _ 2 16 Try.underlying39 hi hz0 hz1 hz2 rfl (by decide) _ 0 [] rfl hO2 ⟨b, 0, none⟩ 1 1 [x, y] rfl rfl hcell ?c2 (by simp [maxLen]) (by omega) hs ?_
  case c2 => simp [hx, hy]
  intro v1 w1 hown hgrow _
  have hW1 : Below w.heap.size w w1 := hW.grown hgrow hs (fun k hk => (World.ownsRow.lt hO2 k hk).1)
  refine hK1.out _ _ hW1 (fun _ => ?_)
  try simp only [Act.put, List.setIfInBounds_toArray, List.set_cons_zero, List.set_cons_succ]
  refine wpAnyH_ready (rs := [6]) (by kernel_rfl) (by simp) (AllReadyH.cons rfl (fun K2 hK2 => ?_) AllReadyH.nil)
  refine wp_append_none (o := ⟨some 21, _, _, _, _, _⟩) (.tmp 17) (.tmp 20) 39 rfl w.heap.size 52 i0 2 Try.underlying39 hi v1 _ _ rfl hown rfl ?_
  refine hK2.out _ _ hW1 (fun _ => ?_)
  try simp only [Act.put, List.setIfInBounds_toArray, List.set_cons_zero, List.set_cons_succ]
  refine wpAnyH_take (i := 7) (oi := ⟨some 8, _, _, _, _, _⟩) (v := v1) rfl (by kernel_rfl) (by kernel_rfl) (by kernel_rfl) (fun _ _ _ h => h) (.inl ⟨by rfl, fun _ _ => by go_simp⟩) hW1 ?_
  try simp only [Act.put, List.setIfInBounds_toArray, List.set_cons_zero, List.set_cons_succ]
  refine wpAnyH_done (by kernel_rfl) ?_ _
  have HB := Aside1.mk hW1
  have HV : ∃ A n c, v1 = .slice A n c := by
    rcases hown.2 with ⟨h, _⟩ | ⟨g, cap, cur, h, _⟩
    · exact ⟨_, _, _, h⟩
    · exact ⟨_, _, _, h⟩
  clear hK1 hK2 K1 K2 hW hW1 hown hgrow hO hO2 hcell hs
  go_wp2
  go_ret
  obtain ⟨A, n, c, rfl⟩ := HV
  exact ⟨⟨A, n, c, rfl⟩, HB.out⟩
end Go.Proofs.Ytcdmmkmonhmckaa.VerB
