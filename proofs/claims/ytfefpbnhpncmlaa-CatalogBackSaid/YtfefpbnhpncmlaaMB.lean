/- Own texts, one behind the other: PtrC RefA RefB RefC RefD RefE CatS RefF RefG RefH RefI. -/
import Derived.Test.YtfefpbnhpncmlaaMA
import Derived.LoopN
import Derived.Laws.CopyOwn
/- The document's Right of a pointer: a contract; the cells are a pointer's. -/
namespace Go.Proofs.Ytfefpbnhpncmlaa.PtrC
open Go.RowKit Go.Proofs.Ytfefpbnhpncmlaa.B8 Go.Proofs.Ytfefpbnhpncmlaa.CodL Go.Proofs.Ytfefpbnhpncmlaa.CatL Go.Proofs.Ytfefpbnhpncmlaa.PtrA Go.Proofs.Ytfefpbnhpncmlaa.PtrB Go.Proofs.Ytfefpbnhpncmlaa.PBaseSigns Go.Proofs.YtfefpbnhpncmlaaW.PrintWords Go.Proofs.YtfefpbnhpncmlaaW.PrintLast Go.Proofs.YtfefpbnhpncmlaaW.PrintMore
set_option linter.unusedVariables false
set_option linter.unusedSimpArgs false


set_option maxHeartbeats 2000000 in
set_option maxRecDepth 100000 in
theorem right_0 (cs : Array Value) (p : Ptr) (hp : PC cs p)  (c0 : p.birth < 1) (w : World) : Calls Try.prog 67 #[.agg cs] w fun e w' => e = .returned (.bool false) ∧ Below w.heap.size w w' := by
  have hi : (Try.prog.info? 56).map (·.size) = some cs.size := by rw [hp.size]; kernel_rfl
  have G0 := Aside0.mk (blk_new w (.cells cs 56))
  have HB0 := Aside0.mk (below_alloc (Below.refl w.heap.size w) (.cells cs 56))
  have hs : w.heap.size < (w.alloc (.cells cs 56)).heap.size := by simp
  have HP := Aside0.mk hp
  have HS := Aside0.mk (fun W => rsectors_calls cs p hp W)
  have hsb := sect_bound p.len
  generalize sect p.len = sc at *
  go_enter Try.func67, Try.ntmps67
  go_wp2_with fail
  generalize (w.alloc (.cells cs 56)) = W at *
  refine wp_region_held_drew (S := fun w' => w'.heap[w.heap.size]? = some (.cells cs 56 (0, 0)) ∧ Below w.heap.size w w' ∧ w.heap.size < w'.heap.size) (by kernel_rfl) ⟨G0.out, below_drew HB0.out, hs⟩ (fun hW => ?_)
  refine wpAnyH_take (i := 0) (oi := ⟨some 3, _, _, _, _, _⟩) (v := .pointer (some ⟨w.heap.size, 1, none⟩)) rfl (by kernel_rfl) (by kernel_rfl) (by kernel_rfl) (fun _ _ _ h => h) (.inl ⟨by rfl, fun W1 h1 => by go_simp⟩) hW ?_
  try simp only [Act.put, List.setIfInBounds_toArray, List.set_cons_zero, List.set_cons_succ]
  refine wpAnyH_take (i := 1) (oi := ⟨some 4, _, _, _, _, _⟩) (v := .int .i64 p.birth) rfl (by kernel_rfl) (by kernel_rfl) (by kernel_rfl) (fun _ _ _ h => h) (.inl ⟨by rfl, fun W1 h1 => by (have x0 : W1.cell? ⟨w.heap.size, 1, none⟩ = some (.int .i64 p.birth) := (by rw [cell_of_row W1 _ 1 cs 56 (0, 0) h1.1]; exact HP.out.c1)); go_simp⟩) hW ?_
  try simp only [Act.put, List.setIfInBounds_toArray, List.set_cons_zero, List.set_cons_succ]
  refine wpAnyH_take (i := 2) (oi := ⟨some 5, _, _, _, _, _⟩) (v := .bool false) rfl (by kernel_rfl) (by kernel_rfl) (by kernel_rfl) (fun _ _ _ h => h) (.inl ⟨by rfl, fun W1 h1 => by go_simp⟩) hW ?_
  try simp only [Act.put, List.setIfInBounds_toArray, List.set_cons_zero, List.set_cons_succ]
  refine wpAnyH_take (i := 3) (oi := ⟨some 6, _, _, _, _, _⟩) (v := .bool false) rfl (by kernel_rfl) (by kernel_rfl) (by kernel_rfl) (fun _ _ _ h => h) (.inl ⟨by rfl, fun W1 h1 => by go_simp⟩) hW ?_
  try simp only [Act.put, List.setIfInBounds_toArray, List.set_cons_zero, List.set_cons_succ]
  refine wpAnyH_take (i := 4) (oi := ⟨some 7, _, _, _, _, _⟩) (v := undef) rfl (by kernel_rfl) (by kernel_rfl) (by kernel_rfl) (fun _ _ _ h => h) (.inr ⟨by rfl, rfl⟩) hW ?_
  try simp only [Act.put, List.setIfInBounds_toArray, List.set_cons_zero, List.set_cons_succ]
  refine wpAnyH_take (i := 5) (oi := ⟨some 8, _, _, _, _, _⟩) (v := undef) rfl (by kernel_rfl) (by kernel_rfl) (by kernel_rfl) (fun _ _ _ h => h) (.inr ⟨by rfl, rfl⟩) hW ?_
  try simp only [Act.put, List.setIfInBounds_toArray, List.set_cons_zero, List.set_cons_succ]
  refine wpAnyH_take (i := 6) (oi := ⟨some 9, _, _, _, _, _⟩) (v := undef) rfl (by kernel_rfl) (by kernel_rfl) (by kernel_rfl) (fun _ _ _ h => h) (.inr ⟨by rfl, rfl⟩) hW ?_
  try simp only [Act.put, List.setIfInBounds_toArray, List.set_cons_zero, List.set_cons_succ]
  refine wpAnyH_take (i := 7) (oi := ⟨some 10, _, _, _, _, _⟩) (v := .bool false) rfl (by kernel_rfl) (by kernel_rfl) (by kernel_rfl) (fun _ _ _ h => h) (.inl ⟨by rfl, fun W1 h1 => by go_simp⟩) hW ?_
  try simp only [Act.put, List.setIfInBounds_toArray, List.set_cons_zero, List.set_cons_succ]
  refine wpAnyH_take (i := 8) (oi := ⟨some 11, _, _, _, _, _⟩) (v := .bool false) rfl (by kernel_rfl) (by kernel_rfl) (by kernel_rfl) (fun _ _ _ h => h) (.inl ⟨by rfl, fun W1 h1 => by go_simp⟩) hW ?_
  try simp only [Act.put, List.setIfInBounds_toArray, List.set_cons_zero, List.set_cons_succ]
  refine wpAnyH_take (i := 9) (oi := ⟨some 12, _, _, _, _, _⟩) (v := undef) rfl (by kernel_rfl) (by kernel_rfl) (by kernel_rfl) (fun _ _ _ h => h) (.inr ⟨by rfl, rfl⟩) hW ?_
  try simp only [Act.put, List.setIfInBounds_toArray, List.set_cons_zero, List.set_cons_succ]
  refine wpAnyH_take (i := 10) (oi := ⟨some 13, _, _, _, _, _⟩) (v := undef) rfl (by kernel_rfl) (by kernel_rfl) (by kernel_rfl) (fun _ _ _ h => h) (.inr ⟨by rfl, rfl⟩) hW ?_
  try simp only [Act.put, List.setIfInBounds_toArray, List.set_cons_zero, List.set_cons_succ]
  refine wpAnyH_take (i := 11) (oi := ⟨some 14, _, _, _, _, _⟩) (v := undef) rfl (by kernel_rfl) (by kernel_rfl) (by kernel_rfl) (fun _ _ _ h => h) (.inr ⟨by rfl, rfl⟩) hW ?_
  try simp only [Act.put, List.setIfInBounds_toArray, List.set_cons_zero, List.set_cons_succ]
  refine wpAnyH_take (i := 12) (oi := ⟨some 15, _, _, _, _, _⟩) (v := .bool false) rfl (by kernel_rfl) (by kernel_rfl) (by kernel_rfl) (fun _ _ _ h => h) (.inl ⟨by rfl, fun W1 h1 => by go_simp⟩) hW ?_
  try simp only [Act.put, List.setIfInBounds_toArray, List.set_cons_zero, List.set_cons_succ]
  refine wpAnyH_take (i := 13) (oi := ⟨some 16, _, _, _, _, _⟩) (v := .bool false) rfl (by kernel_rfl) (by kernel_rfl) (by kernel_rfl) (fun _ _ _ h => h) (.inl ⟨by rfl, fun W1 h1 => by go_simp⟩) hW ?_
  try simp only [Act.put, List.setIfInBounds_toArray, List.set_cons_zero, List.set_cons_succ]
  refine wpAnyH_take (i := 14) (oi := ⟨some 17, _, _, _, _, _⟩) (v := undef) rfl (by kernel_rfl) (by kernel_rfl) (by kernel_rfl) (fun _ _ _ h => h) (.inr ⟨by rfl, rfl⟩) hW ?_
  try simp only [Act.put, List.setIfInBounds_toArray, List.set_cons_zero, List.set_cons_succ]
  refine wpAnyH_take (i := 15) (oi := ⟨some 18, _, _, _, _, _⟩) (v := undef) rfl (by kernel_rfl) (by kernel_rfl) (by kernel_rfl) (fun _ _ _ h => h) (.inr ⟨by rfl, rfl⟩) hW ?_
  try simp only [Act.put, List.setIfInBounds_toArray, List.set_cons_zero, List.set_cons_succ]
  refine wpAnyH_take (i := 16) (oi := ⟨some 19, _, _, _, _, _⟩) (v := undef) rfl (by kernel_rfl) (by kernel_rfl) (by kernel_rfl) (fun _ _ _ h => h) (.inr ⟨by rfl, rfl⟩) hW ?_
  try simp only [Act.put, List.setIfInBounds_toArray, List.set_cons_zero, List.set_cons_succ]
  refine wpAnyH_take (i := 17) (oi := ⟨some 20, _, _, _, _, _⟩) (v := .bool false) rfl (by kernel_rfl) (by kernel_rfl) (by kernel_rfl) (fun _ _ _ h => h) (.inl ⟨by rfl, fun W1 h1 => by go_simp⟩) hW ?_
  try simp only [Act.put, List.setIfInBounds_toArray, List.set_cons_zero, List.set_cons_succ]
  refine wpAnyH_take (i := 18) (oi := ⟨some 21, _, _, _, _, _⟩) (v := .bool false) rfl (by kernel_rfl) (by kernel_rfl) (by kernel_rfl) (fun _ _ _ h => h) (.inl ⟨by rfl, fun W1 h1 => by go_simp⟩) hW ?_
  try simp only [Act.put, List.setIfInBounds_toArray, List.set_cons_zero, List.set_cons_succ]
  refine wpAnyH_take (i := 19) (oi := ⟨some 22, _, _, _, _, _⟩) (v := undef) rfl (by kernel_rfl) (by kernel_rfl) (by kernel_rfl) (fun _ _ _ h => h) (.inr ⟨by rfl, rfl⟩) hW ?_
  try simp only [Act.put, List.setIfInBounds_toArray, List.set_cons_zero, List.set_cons_succ]
  refine wpAnyH_take (i := 20) (oi := ⟨some 23, _, _, _, _, _⟩) (v := undef) rfl (by kernel_rfl) (by kernel_rfl) (by kernel_rfl) (fun _ _ _ h => h) (.inr ⟨by rfl, rfl⟩) hW ?_
  try simp only [Act.put, List.setIfInBounds_toArray, List.set_cons_zero, List.set_cons_succ]
  refine wpAnyH_take (i := 21) (oi := ⟨some 24, _, _, _, _, _⟩) (v := undef) rfl (by kernel_rfl) (by kernel_rfl) (by kernel_rfl) (fun _ _ _ h => h) (.inr ⟨by rfl, rfl⟩) hW ?_
  try simp only [Act.put, List.setIfInBounds_toArray, List.set_cons_zero, List.set_cons_succ]
  refine wpAnyH_take (i := 22) (oi := ⟨some 25, _, _, _, _, _⟩) (v := .bool false) rfl (by kernel_rfl) (by kernel_rfl) (by kernel_rfl) (fun _ _ _ h => h) (.inl ⟨by rfl, fun W1 h1 => by go_simp⟩) hW ?_
  try simp only [Act.put, List.setIfInBounds_toArray, List.set_cons_zero, List.set_cons_succ]
  refine wpAnyH_take (i := 23) (oi := ⟨some 26, _, _, _, _, _⟩) (v := .bool false) rfl (by kernel_rfl) (by kernel_rfl) (by kernel_rfl) (fun _ _ _ h => h) (.inl ⟨by rfl, fun W1 h1 => by go_simp⟩) hW ?_
  try simp only [Act.put, List.setIfInBounds_toArray, List.set_cons_zero, List.set_cons_succ]
  refine wpAnyH_take (i := 24) (oi := ⟨some 27, _, _, _, _, _⟩) (v := undef) rfl (by kernel_rfl) (by kernel_rfl) (by kernel_rfl) (fun _ _ _ h => h) (.inr ⟨by rfl, rfl⟩) hW ?_
  try simp only [Act.put, List.setIfInBounds_toArray, List.set_cons_zero, List.set_cons_succ]
  refine wpAnyH_take (i := 25) (oi := ⟨some 28, _, _, _, _, _⟩) (v := undef) rfl (by kernel_rfl) (by kernel_rfl) (by kernel_rfl) (fun _ _ _ h => h) (.inr ⟨by rfl, rfl⟩) hW ?_
  try simp only [Act.put, List.setIfInBounds_toArray, List.set_cons_zero, List.set_cons_succ]
  refine wpAnyH_take (i := 26) (oi := ⟨some 29, _, _, _, _, _⟩) (v := undef) rfl (by kernel_rfl) (by kernel_rfl) (by kernel_rfl) (fun _ _ _ h => h) (.inr ⟨by rfl, rfl⟩) hW ?_
  try simp only [Act.put, List.setIfInBounds_toArray, List.set_cons_zero, List.set_cons_succ]
  refine wpAnyH_take (i := 27) (oi := ⟨some 30, _, _, _, _, _⟩) (v := .bool false) rfl (by kernel_rfl) (by kernel_rfl) (by kernel_rfl) (fun _ _ _ h => h) (.inl ⟨by rfl, fun W1 h1 => by go_simp⟩) hW ?_
  try simp only [Act.put, List.setIfInBounds_toArray, List.set_cons_zero, List.set_cons_succ]
  refine wpAnyH_take (i := 28) (oi := ⟨some 31, _, _, _, _, _⟩) (v := .bool false) rfl (by kernel_rfl) (by kernel_rfl) (by kernel_rfl) (fun _ _ _ h => h) (.inl ⟨by rfl, fun W1 h1 => by go_simp⟩) hW ?_
  try simp only [Act.put, List.setIfInBounds_toArray, List.set_cons_zero, List.set_cons_succ]
  refine wpAnyH_take (i := 29) (oi := ⟨some 32, _, _, _, _, _⟩) (v := undef) rfl (by kernel_rfl) (by kernel_rfl) (by kernel_rfl) (fun _ _ _ h => h) (.inr ⟨by rfl, rfl⟩) hW ?_
  try simp only [Act.put, List.setIfInBounds_toArray, List.set_cons_zero, List.set_cons_succ]
  refine wpAnyH_take (i := 30) (oi := ⟨some 33, _, _, _, _, _⟩) (v := undef) rfl (by kernel_rfl) (by kernel_rfl) (by kernel_rfl) (fun _ _ _ h => h) (.inr ⟨by rfl, rfl⟩) hW ?_
  try simp only [Act.put, List.setIfInBounds_toArray, List.set_cons_zero, List.set_cons_succ]
  refine wpAnyH_take (i := 31) (oi := ⟨some 34, _, _, _, _, _⟩) (v := undef) rfl (by kernel_rfl) (by kernel_rfl) (by kernel_rfl) (fun _ _ _ h => h) (.inr ⟨by rfl, rfl⟩) hW ?_
  try simp only [Act.put, List.setIfInBounds_toArray, List.set_cons_zero, List.set_cons_succ]
  refine wpAnyH_take (i := 32) (oi := ⟨some 35, _, _, _, _, _⟩) (v := undef) rfl (by kernel_rfl) (by kernel_rfl) (by kernel_rfl) (fun _ _ _ h => h) (.inr ⟨by rfl, rfl⟩) hW ?_
  try simp only [Act.put, List.setIfInBounds_toArray, List.set_cons_zero, List.set_cons_succ]
  refine wpAnyH_take (i := 33) (oi := ⟨some 36, _, _, _, _, _⟩) (v := undef) rfl (by kernel_rfl) (by kernel_rfl) (by kernel_rfl) (fun _ _ _ h => h) (.inr ⟨by rfl, rfl⟩) hW ?_
  try simp only [Act.put, List.setIfInBounds_toArray, List.set_cons_zero, List.set_cons_succ]
  refine wpAnyH_take (i := 34) (oi := ⟨some 37, _, _, _, _, _⟩) (v := undef) rfl (by kernel_rfl) (by kernel_rfl) (by kernel_rfl) (fun _ _ _ h => h) (.inr ⟨by rfl, rfl⟩) hW ?_
  try simp only [Act.put, List.setIfInBounds_toArray, List.set_cons_zero, List.set_cons_succ]
  refine wpAnyH_take (i := 35) (oi := ⟨some 38, _, _, _, _, _⟩) (v := .bool false) rfl (by kernel_rfl) (by kernel_rfl) (by kernel_rfl) (fun _ _ _ h => h) (.inl ⟨by rfl, fun W1 h1 => by go_simp⟩) hW ?_
  try simp only [Act.put, List.setIfInBounds_toArray, List.set_cons_zero, List.set_cons_succ]
  refine wpAnyH_take (i := 36) (oi := ⟨some 2, _, _, _, _, _⟩) (v := .bool false) rfl (by kernel_rfl) (by kernel_rfl) (by kernel_rfl) (fun _ _ _ h => h) (.inl ⟨by rfl, fun W1 h1 => by go_simp⟩) hW ?_
  try simp only [Act.put, List.setIfInBounds_toArray, List.set_cons_zero, List.set_cons_succ]
  refine wpAnyH_done (by kernel_rfl) ?_ _
  have HB := Aside0.mk hW.2.1
  clear HB0 G0 hs
  go_wp2
  go_ret
  exact ⟨rfl, HB.out⟩

set_option maxHeartbeats 2000000 in
set_option maxRecDepth 100000 in
theorem right_1 (cs : Array Value) (p : Ptr) (hp : PC cs p) (c0 : 1 ≤ p.birth) (c1 : 1152921504606846976 < p.birth) (w : World) : Calls Try.prog 67 #[.agg cs] w fun e w' => e = .returned (.bool false) ∧ Below w.heap.size w w' := by
  have hi : (Try.prog.info? 56).map (·.size) = some cs.size := by rw [hp.size]; kernel_rfl
  have G0 := Aside0.mk (blk_new w (.cells cs 56))
  have HB0 := Aside0.mk (below_alloc (Below.refl w.heap.size w) (.cells cs 56))
  have hs : w.heap.size < (w.alloc (.cells cs 56)).heap.size := by simp
  have HP := Aside0.mk hp
  have HS := Aside0.mk (fun W => rsectors_calls cs p hp W)
  have hsb := sect_bound p.len
  generalize sect p.len = sc at *
  go_enter Try.func67, Try.ntmps67
  go_wp2_with fail
  generalize (w.alloc (.cells cs 56)) = W at *
  refine wp_region_held_drew (S := fun w' => w'.heap[w.heap.size]? = some (.cells cs 56 (0, 0)) ∧ Below w.heap.size w w' ∧ w.heap.size < w'.heap.size) (by kernel_rfl) ⟨G0.out, below_drew HB0.out, hs⟩ (fun hW => ?_)
  refine wpAnyH_take (i := 0) (oi := ⟨some 3, _, _, _, _, _⟩) (v := .pointer (some ⟨w.heap.size, 1, none⟩)) rfl (by kernel_rfl) (by kernel_rfl) (by kernel_rfl) (fun _ _ _ h => h) (.inl ⟨by rfl, fun W1 h1 => by go_simp⟩) hW ?_
  try simp only [Act.put, List.setIfInBounds_toArray, List.set_cons_zero, List.set_cons_succ]
  refine wpAnyH_take (i := 1) (oi := ⟨some 4, _, _, _, _, _⟩) (v := .int .i64 p.birth) rfl (by kernel_rfl) (by kernel_rfl) (by kernel_rfl) (fun _ _ _ h => h) (.inl ⟨by rfl, fun W1 h1 => by (have x0 : W1.cell? ⟨w.heap.size, 1, none⟩ = some (.int .i64 p.birth) := (by rw [cell_of_row W1 _ 1 cs 56 (0, 0) h1.1]; exact HP.out.c1)); go_simp⟩) hW ?_
  try simp only [Act.put, List.setIfInBounds_toArray, List.set_cons_zero, List.set_cons_succ]
  refine wpAnyH_take (i := 2) (oi := ⟨some 5, _, _, _, _, _⟩) (v := .bool true) rfl (by kernel_rfl) (by kernel_rfl) (by kernel_rfl) (fun _ _ _ h => h) (.inl ⟨by rfl, fun W1 h1 => by go_simp⟩) hW ?_
  try simp only [Act.put, List.setIfInBounds_toArray, List.set_cons_zero, List.set_cons_succ]
  refine wpAnyH_take (i := 3) (oi := ⟨some 6, _, _, _, _, _⟩) (v := .bool true) rfl (by kernel_rfl) (by kernel_rfl) (by kernel_rfl) (fun _ _ _ h => h) (.inl ⟨by rfl, fun W1 h1 => by go_simp⟩) hW ?_
  try simp only [Act.put, List.setIfInBounds_toArray, List.set_cons_zero, List.set_cons_succ]
  refine wpAnyH_take (i := 4) (oi := ⟨some 7, _, _, _, _, _⟩) (v := .pointer (some ⟨w.heap.size, 1, none⟩)) rfl (by kernel_rfl) (by kernel_rfl) (by kernel_rfl) (fun _ _ _ h => h) (.inl ⟨by rfl, fun W1 h1 => by go_simp⟩) hW ?_
  try simp only [Act.put, List.setIfInBounds_toArray, List.set_cons_zero, List.set_cons_succ]
  refine wpAnyH_take (i := 5) (oi := ⟨some 8, _, _, _, _, _⟩) (v := .int .i64 p.birth) rfl (by kernel_rfl) (by kernel_rfl) (by kernel_rfl) (fun _ _ _ h => h) (.inl ⟨by rfl, fun W1 h1 => by (have x0 : W1.cell? ⟨w.heap.size, 1, none⟩ = some (.int .i64 p.birth) := (by rw [cell_of_row W1 _ 1 cs 56 (0, 0) h1.1]; exact HP.out.c1)); go_simp⟩) hW ?_
  try simp only [Act.put, List.setIfInBounds_toArray, List.set_cons_zero, List.set_cons_succ]
  refine wpAnyH_take (i := 6) (oi := ⟨some 9, _, _, _, _, _⟩) (v := .bool false) rfl (by kernel_rfl) (by kernel_rfl) (by kernel_rfl) (fun _ _ _ h => h) (.inl ⟨by rfl, fun W1 h1 => by go_simp⟩) hW ?_
  try simp only [Act.put, List.setIfInBounds_toArray, List.set_cons_zero, List.set_cons_succ]
  refine wpAnyH_take (i := 7) (oi := ⟨some 10, _, _, _, _, _⟩) (v := .bool false) rfl (by kernel_rfl) (by kernel_rfl) (by kernel_rfl) (fun _ _ _ h => h) (.inl ⟨by rfl, fun W1 h1 => by go_simp⟩) hW ?_
  try simp only [Act.put, List.setIfInBounds_toArray, List.set_cons_zero, List.set_cons_succ]
  refine wpAnyH_take (i := 8) (oi := ⟨some 11, _, _, _, _, _⟩) (v := .bool false) rfl (by kernel_rfl) (by kernel_rfl) (by kernel_rfl) (fun _ _ _ h => h) (.inl ⟨by rfl, fun W1 h1 => by go_simp⟩) hW ?_
  try simp only [Act.put, List.setIfInBounds_toArray, List.set_cons_zero, List.set_cons_succ]
  refine wpAnyH_take (i := 9) (oi := ⟨some 12, _, _, _, _, _⟩) (v := undef) rfl (by kernel_rfl) (by kernel_rfl) (by kernel_rfl) (fun _ _ _ h => h) (.inr ⟨by rfl, rfl⟩) hW ?_
  try simp only [Act.put, List.setIfInBounds_toArray, List.set_cons_zero, List.set_cons_succ]
  refine wpAnyH_take (i := 10) (oi := ⟨some 13, _, _, _, _, _⟩) (v := undef) rfl (by kernel_rfl) (by kernel_rfl) (by kernel_rfl) (fun _ _ _ h => h) (.inr ⟨by rfl, rfl⟩) hW ?_
  try simp only [Act.put, List.setIfInBounds_toArray, List.set_cons_zero, List.set_cons_succ]
  refine wpAnyH_take (i := 11) (oi := ⟨some 14, _, _, _, _, _⟩) (v := undef) rfl (by kernel_rfl) (by kernel_rfl) (by kernel_rfl) (fun _ _ _ h => h) (.inr ⟨by rfl, rfl⟩) hW ?_
  try simp only [Act.put, List.setIfInBounds_toArray, List.set_cons_zero, List.set_cons_succ]
  refine wpAnyH_take (i := 12) (oi := ⟨some 15, _, _, _, _, _⟩) (v := .bool false) rfl (by kernel_rfl) (by kernel_rfl) (by kernel_rfl) (fun _ _ _ h => h) (.inl ⟨by rfl, fun W1 h1 => by go_simp⟩) hW ?_
  try simp only [Act.put, List.setIfInBounds_toArray, List.set_cons_zero, List.set_cons_succ]
  refine wpAnyH_take (i := 13) (oi := ⟨some 16, _, _, _, _, _⟩) (v := .bool false) rfl (by kernel_rfl) (by kernel_rfl) (by kernel_rfl) (fun _ _ _ h => h) (.inl ⟨by rfl, fun W1 h1 => by go_simp⟩) hW ?_
  try simp only [Act.put, List.setIfInBounds_toArray, List.set_cons_zero, List.set_cons_succ]
  refine wpAnyH_take (i := 14) (oi := ⟨some 17, _, _, _, _, _⟩) (v := undef) rfl (by kernel_rfl) (by kernel_rfl) (by kernel_rfl) (fun _ _ _ h => h) (.inr ⟨by rfl, rfl⟩) hW ?_
  try simp only [Act.put, List.setIfInBounds_toArray, List.set_cons_zero, List.set_cons_succ]
  refine wpAnyH_take (i := 15) (oi := ⟨some 18, _, _, _, _, _⟩) (v := undef) rfl (by kernel_rfl) (by kernel_rfl) (by kernel_rfl) (fun _ _ _ h => h) (.inr ⟨by rfl, rfl⟩) hW ?_
  try simp only [Act.put, List.setIfInBounds_toArray, List.set_cons_zero, List.set_cons_succ]
  refine wpAnyH_take (i := 16) (oi := ⟨some 19, _, _, _, _, _⟩) (v := undef) rfl (by kernel_rfl) (by kernel_rfl) (by kernel_rfl) (fun _ _ _ h => h) (.inr ⟨by rfl, rfl⟩) hW ?_
  try simp only [Act.put, List.setIfInBounds_toArray, List.set_cons_zero, List.set_cons_succ]
  refine wpAnyH_take (i := 17) (oi := ⟨some 20, _, _, _, _, _⟩) (v := .bool false) rfl (by kernel_rfl) (by kernel_rfl) (by kernel_rfl) (fun _ _ _ h => h) (.inl ⟨by rfl, fun W1 h1 => by go_simp⟩) hW ?_
  try simp only [Act.put, List.setIfInBounds_toArray, List.set_cons_zero, List.set_cons_succ]
  refine wpAnyH_take (i := 18) (oi := ⟨some 21, _, _, _, _, _⟩) (v := .bool false) rfl (by kernel_rfl) (by kernel_rfl) (by kernel_rfl) (fun _ _ _ h => h) (.inl ⟨by rfl, fun W1 h1 => by go_simp⟩) hW ?_
  try simp only [Act.put, List.setIfInBounds_toArray, List.set_cons_zero, List.set_cons_succ]
  refine wpAnyH_take (i := 19) (oi := ⟨some 22, _, _, _, _, _⟩) (v := undef) rfl (by kernel_rfl) (by kernel_rfl) (by kernel_rfl) (fun _ _ _ h => h) (.inr ⟨by rfl, rfl⟩) hW ?_
  try simp only [Act.put, List.setIfInBounds_toArray, List.set_cons_zero, List.set_cons_succ]
  refine wpAnyH_take (i := 20) (oi := ⟨some 23, _, _, _, _, _⟩) (v := undef) rfl (by kernel_rfl) (by kernel_rfl) (by kernel_rfl) (fun _ _ _ h => h) (.inr ⟨by rfl, rfl⟩) hW ?_
  try simp only [Act.put, List.setIfInBounds_toArray, List.set_cons_zero, List.set_cons_succ]
  refine wpAnyH_take (i := 21) (oi := ⟨some 24, _, _, _, _, _⟩) (v := undef) rfl (by kernel_rfl) (by kernel_rfl) (by kernel_rfl) (fun _ _ _ h => h) (.inr ⟨by rfl, rfl⟩) hW ?_
  try simp only [Act.put, List.setIfInBounds_toArray, List.set_cons_zero, List.set_cons_succ]
  refine wpAnyH_take (i := 22) (oi := ⟨some 25, _, _, _, _, _⟩) (v := .bool false) rfl (by kernel_rfl) (by kernel_rfl) (by kernel_rfl) (fun _ _ _ h => h) (.inl ⟨by rfl, fun W1 h1 => by go_simp⟩) hW ?_
  try simp only [Act.put, List.setIfInBounds_toArray, List.set_cons_zero, List.set_cons_succ]
  refine wpAnyH_take (i := 23) (oi := ⟨some 26, _, _, _, _, _⟩) (v := .bool false) rfl (by kernel_rfl) (by kernel_rfl) (by kernel_rfl) (fun _ _ _ h => h) (.inl ⟨by rfl, fun W1 h1 => by go_simp⟩) hW ?_
  try simp only [Act.put, List.setIfInBounds_toArray, List.set_cons_zero, List.set_cons_succ]
  refine wpAnyH_take (i := 24) (oi := ⟨some 27, _, _, _, _, _⟩) (v := undef) rfl (by kernel_rfl) (by kernel_rfl) (by kernel_rfl) (fun _ _ _ h => h) (.inr ⟨by rfl, rfl⟩) hW ?_
  try simp only [Act.put, List.setIfInBounds_toArray, List.set_cons_zero, List.set_cons_succ]
  refine wpAnyH_take (i := 25) (oi := ⟨some 28, _, _, _, _, _⟩) (v := undef) rfl (by kernel_rfl) (by kernel_rfl) (by kernel_rfl) (fun _ _ _ h => h) (.inr ⟨by rfl, rfl⟩) hW ?_
  try simp only [Act.put, List.setIfInBounds_toArray, List.set_cons_zero, List.set_cons_succ]
  refine wpAnyH_take (i := 26) (oi := ⟨some 29, _, _, _, _, _⟩) (v := undef) rfl (by kernel_rfl) (by kernel_rfl) (by kernel_rfl) (fun _ _ _ h => h) (.inr ⟨by rfl, rfl⟩) hW ?_
  try simp only [Act.put, List.setIfInBounds_toArray, List.set_cons_zero, List.set_cons_succ]
  refine wpAnyH_take (i := 27) (oi := ⟨some 30, _, _, _, _, _⟩) (v := .bool false) rfl (by kernel_rfl) (by kernel_rfl) (by kernel_rfl) (fun _ _ _ h => h) (.inl ⟨by rfl, fun W1 h1 => by go_simp⟩) hW ?_
  try simp only [Act.put, List.setIfInBounds_toArray, List.set_cons_zero, List.set_cons_succ]
  refine wpAnyH_take (i := 28) (oi := ⟨some 31, _, _, _, _, _⟩) (v := .bool false) rfl (by kernel_rfl) (by kernel_rfl) (by kernel_rfl) (fun _ _ _ h => h) (.inl ⟨by rfl, fun W1 h1 => by go_simp⟩) hW ?_
  try simp only [Act.put, List.setIfInBounds_toArray, List.set_cons_zero, List.set_cons_succ]
  refine wpAnyH_take (i := 29) (oi := ⟨some 32, _, _, _, _, _⟩) (v := undef) rfl (by kernel_rfl) (by kernel_rfl) (by kernel_rfl) (fun _ _ _ h => h) (.inr ⟨by rfl, rfl⟩) hW ?_
  try simp only [Act.put, List.setIfInBounds_toArray, List.set_cons_zero, List.set_cons_succ]
  refine wpAnyH_take (i := 30) (oi := ⟨some 33, _, _, _, _, _⟩) (v := undef) rfl (by kernel_rfl) (by kernel_rfl) (by kernel_rfl) (fun _ _ _ h => h) (.inr ⟨by rfl, rfl⟩) hW ?_
  try simp only [Act.put, List.setIfInBounds_toArray, List.set_cons_zero, List.set_cons_succ]
  refine wpAnyH_take (i := 31) (oi := ⟨some 34, _, _, _, _, _⟩) (v := undef) rfl (by kernel_rfl) (by kernel_rfl) (by kernel_rfl) (fun _ _ _ h => h) (.inr ⟨by rfl, rfl⟩) hW ?_
  try simp only [Act.put, List.setIfInBounds_toArray, List.set_cons_zero, List.set_cons_succ]
  refine wpAnyH_take (i := 32) (oi := ⟨some 35, _, _, _, _, _⟩) (v := undef) rfl (by kernel_rfl) (by kernel_rfl) (by kernel_rfl) (fun _ _ _ h => h) (.inr ⟨by rfl, rfl⟩) hW ?_
  try simp only [Act.put, List.setIfInBounds_toArray, List.set_cons_zero, List.set_cons_succ]
  refine wpAnyH_take (i := 33) (oi := ⟨some 36, _, _, _, _, _⟩) (v := undef) rfl (by kernel_rfl) (by kernel_rfl) (by kernel_rfl) (fun _ _ _ h => h) (.inr ⟨by rfl, rfl⟩) hW ?_
  try simp only [Act.put, List.setIfInBounds_toArray, List.set_cons_zero, List.set_cons_succ]
  refine wpAnyH_take (i := 34) (oi := ⟨some 37, _, _, _, _, _⟩) (v := undef) rfl (by kernel_rfl) (by kernel_rfl) (by kernel_rfl) (fun _ _ _ h => h) (.inr ⟨by rfl, rfl⟩) hW ?_
  try simp only [Act.put, List.setIfInBounds_toArray, List.set_cons_zero, List.set_cons_succ]
  refine wpAnyH_take (i := 35) (oi := ⟨some 38, _, _, _, _, _⟩) (v := .bool false) rfl (by kernel_rfl) (by kernel_rfl) (by kernel_rfl) (fun _ _ _ h => h) (.inl ⟨by rfl, fun W1 h1 => by go_simp⟩) hW ?_
  try simp only [Act.put, List.setIfInBounds_toArray, List.set_cons_zero, List.set_cons_succ]
  refine wpAnyH_take (i := 36) (oi := ⟨some 2, _, _, _, _, _⟩) (v := .bool false) rfl (by kernel_rfl) (by kernel_rfl) (by kernel_rfl) (fun _ _ _ h => h) (.inl ⟨by rfl, fun W1 h1 => by go_simp⟩) hW ?_
  try simp only [Act.put, List.setIfInBounds_toArray, List.set_cons_zero, List.set_cons_succ]
  refine wpAnyH_done (by kernel_rfl) ?_ _
  have HB := Aside0.mk hW.2.1
  clear HB0 G0 hs
  go_wp2
  go_ret
  exact ⟨rfl, HB.out⟩

set_option maxHeartbeats 2000000 in
set_option maxRecDepth 100000 in
theorem right_2 (cs : Array Value) (p : Ptr) (hp : PC cs p) (c0 : 1 ≤ p.birth) (c1 : p.birth ≤ 1152921504606846976) (c2 : p.len < 1) (w : World) : Calls Try.prog 67 #[.agg cs] w fun e w' => e = .returned (.bool false) ∧ Below w.heap.size w w' := by
  have hi : (Try.prog.info? 56).map (·.size) = some cs.size := by rw [hp.size]; kernel_rfl
  have G0 := Aside0.mk (blk_new w (.cells cs 56))
  have HB0 := Aside0.mk (below_alloc (Below.refl w.heap.size w) (.cells cs 56))
  have hs : w.heap.size < (w.alloc (.cells cs 56)).heap.size := by simp
  have HP := Aside0.mk hp
  have HS := Aside0.mk (fun W => rsectors_calls cs p hp W)
  have hsb := sect_bound p.len
  generalize sect p.len = sc at *
  go_enter Try.func67, Try.ntmps67
  go_wp2_with fail
  generalize (w.alloc (.cells cs 56)) = W at *
  refine wp_region_held_drew (S := fun w' => w'.heap[w.heap.size]? = some (.cells cs 56 (0, 0)) ∧ Below w.heap.size w w' ∧ w.heap.size < w'.heap.size) (by kernel_rfl) ⟨G0.out, below_drew HB0.out, hs⟩ (fun hW => ?_)
  refine wpAnyH_take (i := 0) (oi := ⟨some 3, _, _, _, _, _⟩) (v := .pointer (some ⟨w.heap.size, 1, none⟩)) rfl (by kernel_rfl) (by kernel_rfl) (by kernel_rfl) (fun _ _ _ h => h) (.inl ⟨by rfl, fun W1 h1 => by go_simp⟩) hW ?_
  try simp only [Act.put, List.setIfInBounds_toArray, List.set_cons_zero, List.set_cons_succ]
  refine wpAnyH_take (i := 1) (oi := ⟨some 4, _, _, _, _, _⟩) (v := .int .i64 p.birth) rfl (by kernel_rfl) (by kernel_rfl) (by kernel_rfl) (fun _ _ _ h => h) (.inl ⟨by rfl, fun W1 h1 => by (have x0 : W1.cell? ⟨w.heap.size, 1, none⟩ = some (.int .i64 p.birth) := (by rw [cell_of_row W1 _ 1 cs 56 (0, 0) h1.1]; exact HP.out.c1)); go_simp⟩) hW ?_
  try simp only [Act.put, List.setIfInBounds_toArray, List.set_cons_zero, List.set_cons_succ]
  refine wpAnyH_take (i := 2) (oi := ⟨some 5, _, _, _, _, _⟩) (v := .bool true) rfl (by kernel_rfl) (by kernel_rfl) (by kernel_rfl) (fun _ _ _ h => h) (.inl ⟨by rfl, fun W1 h1 => by go_simp⟩) hW ?_
  try simp only [Act.put, List.setIfInBounds_toArray, List.set_cons_zero, List.set_cons_succ]
  refine wpAnyH_take (i := 3) (oi := ⟨some 6, _, _, _, _, _⟩) (v := .bool true) rfl (by kernel_rfl) (by kernel_rfl) (by kernel_rfl) (fun _ _ _ h => h) (.inl ⟨by rfl, fun W1 h1 => by go_simp⟩) hW ?_
  try simp only [Act.put, List.setIfInBounds_toArray, List.set_cons_zero, List.set_cons_succ]
  refine wpAnyH_take (i := 4) (oi := ⟨some 7, _, _, _, _, _⟩) (v := .pointer (some ⟨w.heap.size, 1, none⟩)) rfl (by kernel_rfl) (by kernel_rfl) (by kernel_rfl) (fun _ _ _ h => h) (.inl ⟨by rfl, fun W1 h1 => by go_simp⟩) hW ?_
  try simp only [Act.put, List.setIfInBounds_toArray, List.set_cons_zero, List.set_cons_succ]
  refine wpAnyH_take (i := 5) (oi := ⟨some 8, _, _, _, _, _⟩) (v := .int .i64 p.birth) rfl (by kernel_rfl) (by kernel_rfl) (by kernel_rfl) (fun _ _ _ h => h) (.inl ⟨by rfl, fun W1 h1 => by (have x0 : W1.cell? ⟨w.heap.size, 1, none⟩ = some (.int .i64 p.birth) := (by rw [cell_of_row W1 _ 1 cs 56 (0, 0) h1.1]; exact HP.out.c1)); go_simp⟩) hW ?_
  try simp only [Act.put, List.setIfInBounds_toArray, List.set_cons_zero, List.set_cons_succ]
  refine wpAnyH_take (i := 6) (oi := ⟨some 9, _, _, _, _, _⟩) (v := .bool true) rfl (by kernel_rfl) (by kernel_rfl) (by kernel_rfl) (fun _ _ _ h => h) (.inl ⟨by rfl, fun W1 h1 => by go_simp⟩) hW ?_
  try simp only [Act.put, List.setIfInBounds_toArray, List.set_cons_zero, List.set_cons_succ]
  refine wpAnyH_take (i := 7) (oi := ⟨some 10, _, _, _, _, _⟩) (v := .bool true) rfl (by kernel_rfl) (by kernel_rfl) (by kernel_rfl) (fun _ _ _ h => h) (.inl ⟨by rfl, fun W1 h1 => by go_simp⟩) hW ?_
  try simp only [Act.put, List.setIfInBounds_toArray, List.set_cons_zero, List.set_cons_succ]
  refine wpAnyH_take (i := 8) (oi := ⟨some 11, _, _, _, _, _⟩) (v := .bool true) rfl (by kernel_rfl) (by kernel_rfl) (by kernel_rfl) (fun _ _ _ h => h) (.inl ⟨by rfl, fun W1 h1 => by go_simp⟩) hW ?_
  try simp only [Act.put, List.setIfInBounds_toArray, List.set_cons_zero, List.set_cons_succ]
  refine wpAnyH_take (i := 9) (oi := ⟨some 12, _, _, _, _, _⟩) (v := .pointer (some ⟨w.heap.size, 2, none⟩)) rfl (by kernel_rfl) (by kernel_rfl) (by kernel_rfl) (fun _ _ _ h => h) (.inl ⟨by rfl, fun W1 h1 => by go_simp⟩) hW ?_
  try simp only [Act.put, List.setIfInBounds_toArray, List.set_cons_zero, List.set_cons_succ]
  refine wpAnyH_take (i := 10) (oi := ⟨some 13, _, _, _, _, _⟩) (v := .int .i64 p.len) rfl (by kernel_rfl) (by kernel_rfl) (by kernel_rfl) (fun _ _ _ h => h) (.inl ⟨by rfl, fun W1 h1 => by (have x0 : W1.cell? ⟨w.heap.size, 2, none⟩ = some (.int .i64 p.len) := (by rw [cell_of_row W1 _ 2 cs 56 (0, 0) h1.1]; exact HP.out.c2)); go_simp⟩) hW ?_
  try simp only [Act.put, List.setIfInBounds_toArray, List.set_cons_zero, List.set_cons_succ]
  refine wpAnyH_take (i := 11) (oi := ⟨some 14, _, _, _, _, _⟩) (v := .bool false) rfl (by kernel_rfl) (by kernel_rfl) (by kernel_rfl) (fun _ _ _ h => h) (.inl ⟨by rfl, fun W1 h1 => by go_simp⟩) hW ?_
  try simp only [Act.put, List.setIfInBounds_toArray, List.set_cons_zero, List.set_cons_succ]
  refine wpAnyH_take (i := 12) (oi := ⟨some 15, _, _, _, _, _⟩) (v := .bool false) rfl (by kernel_rfl) (by kernel_rfl) (by kernel_rfl) (fun _ _ _ h => h) (.inl ⟨by rfl, fun W1 h1 => by go_simp⟩) hW ?_
  try simp only [Act.put, List.setIfInBounds_toArray, List.set_cons_zero, List.set_cons_succ]
  refine wpAnyH_take (i := 13) (oi := ⟨some 16, _, _, _, _, _⟩) (v := .bool false) rfl (by kernel_rfl) (by kernel_rfl) (by kernel_rfl) (fun _ _ _ h => h) (.inl ⟨by rfl, fun W1 h1 => by go_simp⟩) hW ?_
  try simp only [Act.put, List.setIfInBounds_toArray, List.set_cons_zero, List.set_cons_succ]
  refine wpAnyH_take (i := 14) (oi := ⟨some 17, _, _, _, _, _⟩) (v := undef) rfl (by kernel_rfl) (by kernel_rfl) (by kernel_rfl) (fun _ _ _ h => h) (.inr ⟨by rfl, rfl⟩) hW ?_
  try simp only [Act.put, List.setIfInBounds_toArray, List.set_cons_zero, List.set_cons_succ]
  refine wpAnyH_take (i := 15) (oi := ⟨some 18, _, _, _, _, _⟩) (v := undef) rfl (by kernel_rfl) (by kernel_rfl) (by kernel_rfl) (fun _ _ _ h => h) (.inr ⟨by rfl, rfl⟩) hW ?_
  try simp only [Act.put, List.setIfInBounds_toArray, List.set_cons_zero, List.set_cons_succ]
  refine wpAnyH_take (i := 16) (oi := ⟨some 19, _, _, _, _, _⟩) (v := undef) rfl (by kernel_rfl) (by kernel_rfl) (by kernel_rfl) (fun _ _ _ h => h) (.inr ⟨by rfl, rfl⟩) hW ?_
  try simp only [Act.put, List.setIfInBounds_toArray, List.set_cons_zero, List.set_cons_succ]
  refine wpAnyH_take (i := 17) (oi := ⟨some 20, _, _, _, _, _⟩) (v := .bool false) rfl (by kernel_rfl) (by kernel_rfl) (by kernel_rfl) (fun _ _ _ h => h) (.inl ⟨by rfl, fun W1 h1 => by go_simp⟩) hW ?_
  try simp only [Act.put, List.setIfInBounds_toArray, List.set_cons_zero, List.set_cons_succ]
  refine wpAnyH_take (i := 18) (oi := ⟨some 21, _, _, _, _, _⟩) (v := .bool false) rfl (by kernel_rfl) (by kernel_rfl) (by kernel_rfl) (fun _ _ _ h => h) (.inl ⟨by rfl, fun W1 h1 => by go_simp⟩) hW ?_
  try simp only [Act.put, List.setIfInBounds_toArray, List.set_cons_zero, List.set_cons_succ]
  refine wpAnyH_take (i := 19) (oi := ⟨some 22, _, _, _, _, _⟩) (v := undef) rfl (by kernel_rfl) (by kernel_rfl) (by kernel_rfl) (fun _ _ _ h => h) (.inr ⟨by rfl, rfl⟩) hW ?_
  try simp only [Act.put, List.setIfInBounds_toArray, List.set_cons_zero, List.set_cons_succ]
  refine wpAnyH_take (i := 20) (oi := ⟨some 23, _, _, _, _, _⟩) (v := undef) rfl (by kernel_rfl) (by kernel_rfl) (by kernel_rfl) (fun _ _ _ h => h) (.inr ⟨by rfl, rfl⟩) hW ?_
  try simp only [Act.put, List.setIfInBounds_toArray, List.set_cons_zero, List.set_cons_succ]
  refine wpAnyH_take (i := 21) (oi := ⟨some 24, _, _, _, _, _⟩) (v := undef) rfl (by kernel_rfl) (by kernel_rfl) (by kernel_rfl) (fun _ _ _ h => h) (.inr ⟨by rfl, rfl⟩) hW ?_
  try simp only [Act.put, List.setIfInBounds_toArray, List.set_cons_zero, List.set_cons_succ]
  refine wpAnyH_take (i := 22) (oi := ⟨some 25, _, _, _, _, _⟩) (v := .bool false) rfl (by kernel_rfl) (by kernel_rfl) (by kernel_rfl) (fun _ _ _ h => h) (.inl ⟨by rfl, fun W1 h1 => by go_simp⟩) hW ?_
  try simp only [Act.put, List.setIfInBounds_toArray, List.set_cons_zero, List.set_cons_succ]
  refine wpAnyH_take (i := 23) (oi := ⟨some 26, _, _, _, _, _⟩) (v := .bool false) rfl (by kernel_rfl) (by kernel_rfl) (by kernel_rfl) (fun _ _ _ h => h) (.inl ⟨by rfl, fun W1 h1 => by go_simp⟩) hW ?_
  try simp only [Act.put, List.setIfInBounds_toArray, List.set_cons_zero, List.set_cons_succ]
  refine wpAnyH_take (i := 24) (oi := ⟨some 27, _, _, _, _, _⟩) (v := undef) rfl (by kernel_rfl) (by kernel_rfl) (by kernel_rfl) (fun _ _ _ h => h) (.inr ⟨by rfl, rfl⟩) hW ?_
  try simp only [Act.put, List.setIfInBounds_toArray, List.set_cons_zero, List.set_cons_succ]
  refine wpAnyH_take (i := 25) (oi := ⟨some 28, _, _, _, _, _⟩) (v := undef) rfl (by kernel_rfl) (by kernel_rfl) (by kernel_rfl) (fun _ _ _ h => h) (.inr ⟨by rfl, rfl⟩) hW ?_
  try simp only [Act.put, List.setIfInBounds_toArray, List.set_cons_zero, List.set_cons_succ]
  refine wpAnyH_take (i := 26) (oi := ⟨some 29, _, _, _, _, _⟩) (v := undef) rfl (by kernel_rfl) (by kernel_rfl) (by kernel_rfl) (fun _ _ _ h => h) (.inr ⟨by rfl, rfl⟩) hW ?_
  try simp only [Act.put, List.setIfInBounds_toArray, List.set_cons_zero, List.set_cons_succ]
  refine wpAnyH_take (i := 27) (oi := ⟨some 30, _, _, _, _, _⟩) (v := .bool false) rfl (by kernel_rfl) (by kernel_rfl) (by kernel_rfl) (fun _ _ _ h => h) (.inl ⟨by rfl, fun W1 h1 => by go_simp⟩) hW ?_
  try simp only [Act.put, List.setIfInBounds_toArray, List.set_cons_zero, List.set_cons_succ]
  refine wpAnyH_take (i := 28) (oi := ⟨some 31, _, _, _, _, _⟩) (v := .bool false) rfl (by kernel_rfl) (by kernel_rfl) (by kernel_rfl) (fun _ _ _ h => h) (.inl ⟨by rfl, fun W1 h1 => by go_simp⟩) hW ?_
  try simp only [Act.put, List.setIfInBounds_toArray, List.set_cons_zero, List.set_cons_succ]
  refine wpAnyH_take (i := 29) (oi := ⟨some 32, _, _, _, _, _⟩) (v := undef) rfl (by kernel_rfl) (by kernel_rfl) (by kernel_rfl) (fun _ _ _ h => h) (.inr ⟨by rfl, rfl⟩) hW ?_
  try simp only [Act.put, List.setIfInBounds_toArray, List.set_cons_zero, List.set_cons_succ]
  refine wpAnyH_take (i := 30) (oi := ⟨some 33, _, _, _, _, _⟩) (v := undef) rfl (by kernel_rfl) (by kernel_rfl) (by kernel_rfl) (fun _ _ _ h => h) (.inr ⟨by rfl, rfl⟩) hW ?_
  try simp only [Act.put, List.setIfInBounds_toArray, List.set_cons_zero, List.set_cons_succ]
  refine wpAnyH_take (i := 31) (oi := ⟨some 34, _, _, _, _, _⟩) (v := undef) rfl (by kernel_rfl) (by kernel_rfl) (by kernel_rfl) (fun _ _ _ h => h) (.inr ⟨by rfl, rfl⟩) hW ?_
  try simp only [Act.put, List.setIfInBounds_toArray, List.set_cons_zero, List.set_cons_succ]
  refine wpAnyH_take (i := 32) (oi := ⟨some 35, _, _, _, _, _⟩) (v := undef) rfl (by kernel_rfl) (by kernel_rfl) (by kernel_rfl) (fun _ _ _ h => h) (.inr ⟨by rfl, rfl⟩) hW ?_
  try simp only [Act.put, List.setIfInBounds_toArray, List.set_cons_zero, List.set_cons_succ]
  refine wpAnyH_take (i := 33) (oi := ⟨some 36, _, _, _, _, _⟩) (v := undef) rfl (by kernel_rfl) (by kernel_rfl) (by kernel_rfl) (fun _ _ _ h => h) (.inr ⟨by rfl, rfl⟩) hW ?_
  try simp only [Act.put, List.setIfInBounds_toArray, List.set_cons_zero, List.set_cons_succ]
  refine wpAnyH_take (i := 34) (oi := ⟨some 37, _, _, _, _, _⟩) (v := undef) rfl (by kernel_rfl) (by kernel_rfl) (by kernel_rfl) (fun _ _ _ h => h) (.inr ⟨by rfl, rfl⟩) hW ?_
  try simp only [Act.put, List.setIfInBounds_toArray, List.set_cons_zero, List.set_cons_succ]
  refine wpAnyH_take (i := 35) (oi := ⟨some 38, _, _, _, _, _⟩) (v := .bool false) rfl (by kernel_rfl) (by kernel_rfl) (by kernel_rfl) (fun _ _ _ h => h) (.inl ⟨by rfl, fun W1 h1 => by go_simp⟩) hW ?_
  try simp only [Act.put, List.setIfInBounds_toArray, List.set_cons_zero, List.set_cons_succ]
  refine wpAnyH_take (i := 36) (oi := ⟨some 2, _, _, _, _, _⟩) (v := .bool false) rfl (by kernel_rfl) (by kernel_rfl) (by kernel_rfl) (fun _ _ _ h => h) (.inl ⟨by rfl, fun W1 h1 => by go_simp⟩) hW ?_
  try simp only [Act.put, List.setIfInBounds_toArray, List.set_cons_zero, List.set_cons_succ]
  refine wpAnyH_done (by kernel_rfl) ?_ _
  have HB := Aside0.mk hW.2.1
  clear HB0 G0 hs
  go_wp2
  go_ret
  exact ⟨rfl, HB.out⟩

set_option maxHeartbeats 2000000 in
set_option maxRecDepth 100000 in
theorem right_3 (cs : Array Value) (p : Ptr) (hp : PC cs p) (c0 : 1 ≤ p.birth) (c1 : p.birth ≤ 1152921504606846976) (c2 : 1 ≤ p.len) (c3 : 65536 < p.len) (w : World) : Calls Try.prog 67 #[.agg cs] w fun e w' => e = .returned (.bool false) ∧ Below w.heap.size w w' := by
  have hi : (Try.prog.info? 56).map (·.size) = some cs.size := by rw [hp.size]; kernel_rfl
  have G0 := Aside0.mk (blk_new w (.cells cs 56))
  have HB0 := Aside0.mk (below_alloc (Below.refl w.heap.size w) (.cells cs 56))
  have hs : w.heap.size < (w.alloc (.cells cs 56)).heap.size := by simp
  have HP := Aside0.mk hp
  have HS := Aside0.mk (fun W => rsectors_calls cs p hp W)
  have hsb := sect_bound p.len
  generalize sect p.len = sc at *
  go_enter Try.func67, Try.ntmps67
  go_wp2_with fail
  generalize (w.alloc (.cells cs 56)) = W at *
  refine wp_region_held_drew (S := fun w' => w'.heap[w.heap.size]? = some (.cells cs 56 (0, 0)) ∧ Below w.heap.size w w' ∧ w.heap.size < w'.heap.size) (by kernel_rfl) ⟨G0.out, below_drew HB0.out, hs⟩ (fun hW => ?_)
  refine wpAnyH_take (i := 0) (oi := ⟨some 3, _, _, _, _, _⟩) (v := .pointer (some ⟨w.heap.size, 1, none⟩)) rfl (by kernel_rfl) (by kernel_rfl) (by kernel_rfl) (fun _ _ _ h => h) (.inl ⟨by rfl, fun W1 h1 => by go_simp⟩) hW ?_
  try simp only [Act.put, List.setIfInBounds_toArray, List.set_cons_zero, List.set_cons_succ]
  refine wpAnyH_take (i := 1) (oi := ⟨some 4, _, _, _, _, _⟩) (v := .int .i64 p.birth) rfl (by kernel_rfl) (by kernel_rfl) (by kernel_rfl) (fun _ _ _ h => h) (.inl ⟨by rfl, fun W1 h1 => by (have x0 : W1.cell? ⟨w.heap.size, 1, none⟩ = some (.int .i64 p.birth) := (by rw [cell_of_row W1 _ 1 cs 56 (0, 0) h1.1]; exact HP.out.c1)); go_simp⟩) hW ?_
  try simp only [Act.put, List.setIfInBounds_toArray, List.set_cons_zero, List.set_cons_succ]
  refine wpAnyH_take (i := 2) (oi := ⟨some 5, _, _, _, _, _⟩) (v := .bool true) rfl (by kernel_rfl) (by kernel_rfl) (by kernel_rfl) (fun _ _ _ h => h) (.inl ⟨by rfl, fun W1 h1 => by go_simp⟩) hW ?_
  try simp only [Act.put, List.setIfInBounds_toArray, List.set_cons_zero, List.set_cons_succ]
  refine wpAnyH_take (i := 3) (oi := ⟨some 6, _, _, _, _, _⟩) (v := .bool true) rfl (by kernel_rfl) (by kernel_rfl) (by kernel_rfl) (fun _ _ _ h => h) (.inl ⟨by rfl, fun W1 h1 => by go_simp⟩) hW ?_
  try simp only [Act.put, List.setIfInBounds_toArray, List.set_cons_zero, List.set_cons_succ]
  refine wpAnyH_take (i := 4) (oi := ⟨some 7, _, _, _, _, _⟩) (v := .pointer (some ⟨w.heap.size, 1, none⟩)) rfl (by kernel_rfl) (by kernel_rfl) (by kernel_rfl) (fun _ _ _ h => h) (.inl ⟨by rfl, fun W1 h1 => by go_simp⟩) hW ?_
  try simp only [Act.put, List.setIfInBounds_toArray, List.set_cons_zero, List.set_cons_succ]
  refine wpAnyH_take (i := 5) (oi := ⟨some 8, _, _, _, _, _⟩) (v := .int .i64 p.birth) rfl (by kernel_rfl) (by kernel_rfl) (by kernel_rfl) (fun _ _ _ h => h) (.inl ⟨by rfl, fun W1 h1 => by (have x0 : W1.cell? ⟨w.heap.size, 1, none⟩ = some (.int .i64 p.birth) := (by rw [cell_of_row W1 _ 1 cs 56 (0, 0) h1.1]; exact HP.out.c1)); go_simp⟩) hW ?_
  try simp only [Act.put, List.setIfInBounds_toArray, List.set_cons_zero, List.set_cons_succ]
  refine wpAnyH_take (i := 6) (oi := ⟨some 9, _, _, _, _, _⟩) (v := .bool true) rfl (by kernel_rfl) (by kernel_rfl) (by kernel_rfl) (fun _ _ _ h => h) (.inl ⟨by rfl, fun W1 h1 => by go_simp⟩) hW ?_
  try simp only [Act.put, List.setIfInBounds_toArray, List.set_cons_zero, List.set_cons_succ]
  refine wpAnyH_take (i := 7) (oi := ⟨some 10, _, _, _, _, _⟩) (v := .bool true) rfl (by kernel_rfl) (by kernel_rfl) (by kernel_rfl) (fun _ _ _ h => h) (.inl ⟨by rfl, fun W1 h1 => by go_simp⟩) hW ?_
  try simp only [Act.put, List.setIfInBounds_toArray, List.set_cons_zero, List.set_cons_succ]
  refine wpAnyH_take (i := 8) (oi := ⟨some 11, _, _, _, _, _⟩) (v := .bool true) rfl (by kernel_rfl) (by kernel_rfl) (by kernel_rfl) (fun _ _ _ h => h) (.inl ⟨by rfl, fun W1 h1 => by go_simp⟩) hW ?_
  try simp only [Act.put, List.setIfInBounds_toArray, List.set_cons_zero, List.set_cons_succ]
  refine wpAnyH_take (i := 9) (oi := ⟨some 12, _, _, _, _, _⟩) (v := .pointer (some ⟨w.heap.size, 2, none⟩)) rfl (by kernel_rfl) (by kernel_rfl) (by kernel_rfl) (fun _ _ _ h => h) (.inl ⟨by rfl, fun W1 h1 => by go_simp⟩) hW ?_
  try simp only [Act.put, List.setIfInBounds_toArray, List.set_cons_zero, List.set_cons_succ]
  refine wpAnyH_take (i := 10) (oi := ⟨some 13, _, _, _, _, _⟩) (v := .int .i64 p.len) rfl (by kernel_rfl) (by kernel_rfl) (by kernel_rfl) (fun _ _ _ h => h) (.inl ⟨by rfl, fun W1 h1 => by (have x0 : W1.cell? ⟨w.heap.size, 2, none⟩ = some (.int .i64 p.len) := (by rw [cell_of_row W1 _ 2 cs 56 (0, 0) h1.1]; exact HP.out.c2)); go_simp⟩) hW ?_
  try simp only [Act.put, List.setIfInBounds_toArray, List.set_cons_zero, List.set_cons_succ]
  refine wpAnyH_take (i := 11) (oi := ⟨some 14, _, _, _, _, _⟩) (v := .bool true) rfl (by kernel_rfl) (by kernel_rfl) (by kernel_rfl) (fun _ _ _ h => h) (.inl ⟨by rfl, fun W1 h1 => by go_simp⟩) hW ?_
  try simp only [Act.put, List.setIfInBounds_toArray, List.set_cons_zero, List.set_cons_succ]
  refine wpAnyH_take (i := 12) (oi := ⟨some 15, _, _, _, _, _⟩) (v := .bool true) rfl (by kernel_rfl) (by kernel_rfl) (by kernel_rfl) (fun _ _ _ h => h) (.inl ⟨by rfl, fun W1 h1 => by go_simp⟩) hW ?_
  try simp only [Act.put, List.setIfInBounds_toArray, List.set_cons_zero, List.set_cons_succ]
  refine wpAnyH_take (i := 13) (oi := ⟨some 16, _, _, _, _, _⟩) (v := .bool true) rfl (by kernel_rfl) (by kernel_rfl) (by kernel_rfl) (fun _ _ _ h => h) (.inl ⟨by rfl, fun W1 h1 => by go_simp⟩) hW ?_
  try simp only [Act.put, List.setIfInBounds_toArray, List.set_cons_zero, List.set_cons_succ]
  refine wpAnyH_take (i := 14) (oi := ⟨some 17, _, _, _, _, _⟩) (v := .pointer (some ⟨w.heap.size, 2, none⟩)) rfl (by kernel_rfl) (by kernel_rfl) (by kernel_rfl) (fun _ _ _ h => h) (.inl ⟨by rfl, fun W1 h1 => by go_simp⟩) hW ?_
  try simp only [Act.put, List.setIfInBounds_toArray, List.set_cons_zero, List.set_cons_succ]
  refine wpAnyH_take (i := 15) (oi := ⟨some 18, _, _, _, _, _⟩) (v := .int .i64 p.len) rfl (by kernel_rfl) (by kernel_rfl) (by kernel_rfl) (fun _ _ _ h => h) (.inl ⟨by rfl, fun W1 h1 => by (have x0 : W1.cell? ⟨w.heap.size, 2, none⟩ = some (.int .i64 p.len) := (by rw [cell_of_row W1 _ 2 cs 56 (0, 0) h1.1]; exact HP.out.c2)); go_simp⟩) hW ?_
  try simp only [Act.put, List.setIfInBounds_toArray, List.set_cons_zero, List.set_cons_succ]
  refine wpAnyH_take (i := 16) (oi := ⟨some 19, _, _, _, _, _⟩) (v := .bool false) rfl (by kernel_rfl) (by kernel_rfl) (by kernel_rfl) (fun _ _ _ h => h) (.inl ⟨by rfl, fun W1 h1 => by go_simp⟩) hW ?_
  try simp only [Act.put, List.setIfInBounds_toArray, List.set_cons_zero, List.set_cons_succ]
  refine wpAnyH_take (i := 17) (oi := ⟨some 20, _, _, _, _, _⟩) (v := .bool false) rfl (by kernel_rfl) (by kernel_rfl) (by kernel_rfl) (fun _ _ _ h => h) (.inl ⟨by rfl, fun W1 h1 => by go_simp⟩) hW ?_
  try simp only [Act.put, List.setIfInBounds_toArray, List.set_cons_zero, List.set_cons_succ]
  refine wpAnyH_take (i := 18) (oi := ⟨some 21, _, _, _, _, _⟩) (v := .bool false) rfl (by kernel_rfl) (by kernel_rfl) (by kernel_rfl) (fun _ _ _ h => h) (.inl ⟨by rfl, fun W1 h1 => by go_simp⟩) hW ?_
  try simp only [Act.put, List.setIfInBounds_toArray, List.set_cons_zero, List.set_cons_succ]
  refine wpAnyH_take (i := 19) (oi := ⟨some 22, _, _, _, _, _⟩) (v := undef) rfl (by kernel_rfl) (by kernel_rfl) (by kernel_rfl) (fun _ _ _ h => h) (.inr ⟨by rfl, rfl⟩) hW ?_
  try simp only [Act.put, List.setIfInBounds_toArray, List.set_cons_zero, List.set_cons_succ]
  refine wpAnyH_take (i := 20) (oi := ⟨some 23, _, _, _, _, _⟩) (v := undef) rfl (by kernel_rfl) (by kernel_rfl) (by kernel_rfl) (fun _ _ _ h => h) (.inr ⟨by rfl, rfl⟩) hW ?_
  try simp only [Act.put, List.setIfInBounds_toArray, List.set_cons_zero, List.set_cons_succ]
  refine wpAnyH_take (i := 21) (oi := ⟨some 24, _, _, _, _, _⟩) (v := undef) rfl (by kernel_rfl) (by kernel_rfl) (by kernel_rfl) (fun _ _ _ h => h) (.inr ⟨by rfl, rfl⟩) hW ?_
  try simp only [Act.put, List.setIfInBounds_toArray, List.set_cons_zero, List.set_cons_succ]
  refine wpAnyH_take (i := 22) (oi := ⟨some 25, _, _, _, _, _⟩) (v := .bool false) rfl (by kernel_rfl) (by kernel_rfl) (by kernel_rfl) (fun _ _ _ h => h) (.inl ⟨by rfl, fun W1 h1 => by go_simp⟩) hW ?_
  try simp only [Act.put, List.setIfInBounds_toArray, List.set_cons_zero, List.set_cons_succ]
  refine wpAnyH_take (i := 23) (oi := ⟨some 26, _, _, _, _, _⟩) (v := .bool false) rfl (by kernel_rfl) (by kernel_rfl) (by kernel_rfl) (fun _ _ _ h => h) (.inl ⟨by rfl, fun W1 h1 => by go_simp⟩) hW ?_
  try simp only [Act.put, List.setIfInBounds_toArray, List.set_cons_zero, List.set_cons_succ]
  refine wpAnyH_take (i := 24) (oi := ⟨some 27, _, _, _, _, _⟩) (v := undef) rfl (by kernel_rfl) (by kernel_rfl) (by kernel_rfl) (fun _ _ _ h => h) (.inr ⟨by rfl, rfl⟩) hW ?_
  try simp only [Act.put, List.setIfInBounds_toArray, List.set_cons_zero, List.set_cons_succ]
  refine wpAnyH_take (i := 25) (oi := ⟨some 28, _, _, _, _, _⟩) (v := undef) rfl (by kernel_rfl) (by kernel_rfl) (by kernel_rfl) (fun _ _ _ h => h) (.inr ⟨by rfl, rfl⟩) hW ?_
  try simp only [Act.put, List.setIfInBounds_toArray, List.set_cons_zero, List.set_cons_succ]
  refine wpAnyH_take (i := 26) (oi := ⟨some 29, _, _, _, _, _⟩) (v := undef) rfl (by kernel_rfl) (by kernel_rfl) (by kernel_rfl) (fun _ _ _ h => h) (.inr ⟨by rfl, rfl⟩) hW ?_
  try simp only [Act.put, List.setIfInBounds_toArray, List.set_cons_zero, List.set_cons_succ]
  refine wpAnyH_take (i := 27) (oi := ⟨some 30, _, _, _, _, _⟩) (v := .bool false) rfl (by kernel_rfl) (by kernel_rfl) (by kernel_rfl) (fun _ _ _ h => h) (.inl ⟨by rfl, fun W1 h1 => by go_simp⟩) hW ?_
  try simp only [Act.put, List.setIfInBounds_toArray, List.set_cons_zero, List.set_cons_succ]
  refine wpAnyH_take (i := 28) (oi := ⟨some 31, _, _, _, _, _⟩) (v := .bool false) rfl (by kernel_rfl) (by kernel_rfl) (by kernel_rfl) (fun _ _ _ h => h) (.inl ⟨by rfl, fun W1 h1 => by go_simp⟩) hW ?_
  try simp only [Act.put, List.setIfInBounds_toArray, List.set_cons_zero, List.set_cons_succ]
  refine wpAnyH_take (i := 29) (oi := ⟨some 32, _, _, _, _, _⟩) (v := undef) rfl (by kernel_rfl) (by kernel_rfl) (by kernel_rfl) (fun _ _ _ h => h) (.inr ⟨by rfl, rfl⟩) hW ?_
  try simp only [Act.put, List.setIfInBounds_toArray, List.set_cons_zero, List.set_cons_succ]
  refine wpAnyH_take (i := 30) (oi := ⟨some 33, _, _, _, _, _⟩) (v := undef) rfl (by kernel_rfl) (by kernel_rfl) (by kernel_rfl) (fun _ _ _ h => h) (.inr ⟨by rfl, rfl⟩) hW ?_
  try simp only [Act.put, List.setIfInBounds_toArray, List.set_cons_zero, List.set_cons_succ]
  refine wpAnyH_take (i := 31) (oi := ⟨some 34, _, _, _, _, _⟩) (v := undef) rfl (by kernel_rfl) (by kernel_rfl) (by kernel_rfl) (fun _ _ _ h => h) (.inr ⟨by rfl, rfl⟩) hW ?_
  try simp only [Act.put, List.setIfInBounds_toArray, List.set_cons_zero, List.set_cons_succ]
  refine wpAnyH_take (i := 32) (oi := ⟨some 35, _, _, _, _, _⟩) (v := undef) rfl (by kernel_rfl) (by kernel_rfl) (by kernel_rfl) (fun _ _ _ h => h) (.inr ⟨by rfl, rfl⟩) hW ?_
  try simp only [Act.put, List.setIfInBounds_toArray, List.set_cons_zero, List.set_cons_succ]
  refine wpAnyH_take (i := 33) (oi := ⟨some 36, _, _, _, _, _⟩) (v := undef) rfl (by kernel_rfl) (by kernel_rfl) (by kernel_rfl) (fun _ _ _ h => h) (.inr ⟨by rfl, rfl⟩) hW ?_
  try simp only [Act.put, List.setIfInBounds_toArray, List.set_cons_zero, List.set_cons_succ]
  refine wpAnyH_take (i := 34) (oi := ⟨some 37, _, _, _, _, _⟩) (v := undef) rfl (by kernel_rfl) (by kernel_rfl) (by kernel_rfl) (fun _ _ _ h => h) (.inr ⟨by rfl, rfl⟩) hW ?_
  try simp only [Act.put, List.setIfInBounds_toArray, List.set_cons_zero, List.set_cons_succ]
  refine wpAnyH_take (i := 35) (oi := ⟨some 38, _, _, _, _, _⟩) (v := .bool false) rfl (by kernel_rfl) (by kernel_rfl) (by kernel_rfl) (fun _ _ _ h => h) (.inl ⟨by rfl, fun W1 h1 => by go_simp⟩) hW ?_
  try simp only [Act.put, List.setIfInBounds_toArray, List.set_cons_zero, List.set_cons_succ]
  refine wpAnyH_take (i := 36) (oi := ⟨some 2, _, _, _, _, _⟩) (v := .bool false) rfl (by kernel_rfl) (by kernel_rfl) (by kernel_rfl) (fun _ _ _ h => h) (.inl ⟨by rfl, fun W1 h1 => by go_simp⟩) hW ?_
  try simp only [Act.put, List.setIfInBounds_toArray, List.set_cons_zero, List.set_cons_succ]
  refine wpAnyH_done (by kernel_rfl) ?_ _
  have HB := Aside0.mk hW.2.1
  clear HB0 G0 hs
  go_wp2
  go_ret
  exact ⟨rfl, HB.out⟩

set_option maxHeartbeats 2000000 in
set_option maxRecDepth 100000 in
theorem right_4 (cs : Array Value) (p : Ptr) (hp : PC cs p) (c0 : 1 ≤ p.birth) (c1 : p.birth ≤ 1152921504606846976) (c2 : 1 ≤ p.len) (c3 : p.len ≤ 65536) (c4 : p.at_ < 2) (w : World) : Calls Try.prog 67 #[.agg cs] w fun e w' => e = .returned (.bool false) ∧ Below w.heap.size w w' := by
  have hi : (Try.prog.info? 56).map (·.size) = some cs.size := by rw [hp.size]; kernel_rfl
  have G0 := Aside0.mk (blk_new w (.cells cs 56))
  have HB0 := Aside0.mk (below_alloc (Below.refl w.heap.size w) (.cells cs 56))
  have hs : w.heap.size < (w.alloc (.cells cs 56)).heap.size := by simp
  have HP := Aside0.mk hp
  have HS := Aside0.mk (fun W => rsectors_calls cs p hp W)
  have hsb := sect_bound p.len
  generalize sect p.len = sc at *
  go_enter Try.func67, Try.ntmps67
  go_wp2_with fail
  generalize (w.alloc (.cells cs 56)) = W at *
  refine wp_region_held_drew (S := fun w' => w'.heap[w.heap.size]? = some (.cells cs 56 (0, 0)) ∧ Below w.heap.size w w' ∧ w.heap.size < w'.heap.size) (by kernel_rfl) ⟨G0.out, below_drew HB0.out, hs⟩ (fun hW => ?_)
  refine wpAnyH_take (i := 0) (oi := ⟨some 3, _, _, _, _, _⟩) (v := .pointer (some ⟨w.heap.size, 1, none⟩)) rfl (by kernel_rfl) (by kernel_rfl) (by kernel_rfl) (fun _ _ _ h => h) (.inl ⟨by rfl, fun W1 h1 => by go_simp⟩) hW ?_
  try simp only [Act.put, List.setIfInBounds_toArray, List.set_cons_zero, List.set_cons_succ]
  refine wpAnyH_take (i := 1) (oi := ⟨some 4, _, _, _, _, _⟩) (v := .int .i64 p.birth) rfl (by kernel_rfl) (by kernel_rfl) (by kernel_rfl) (fun _ _ _ h => h) (.inl ⟨by rfl, fun W1 h1 => by (have x0 : W1.cell? ⟨w.heap.size, 1, none⟩ = some (.int .i64 p.birth) := (by rw [cell_of_row W1 _ 1 cs 56 (0, 0) h1.1]; exact HP.out.c1)); go_simp⟩) hW ?_
  try simp only [Act.put, List.setIfInBounds_toArray, List.set_cons_zero, List.set_cons_succ]
  refine wpAnyH_take (i := 2) (oi := ⟨some 5, _, _, _, _, _⟩) (v := .bool true) rfl (by kernel_rfl) (by kernel_rfl) (by kernel_rfl) (fun _ _ _ h => h) (.inl ⟨by rfl, fun W1 h1 => by go_simp⟩) hW ?_
  try simp only [Act.put, List.setIfInBounds_toArray, List.set_cons_zero, List.set_cons_succ]
  refine wpAnyH_take (i := 3) (oi := ⟨some 6, _, _, _, _, _⟩) (v := .bool true) rfl (by kernel_rfl) (by kernel_rfl) (by kernel_rfl) (fun _ _ _ h => h) (.inl ⟨by rfl, fun W1 h1 => by go_simp⟩) hW ?_
  try simp only [Act.put, List.setIfInBounds_toArray, List.set_cons_zero, List.set_cons_succ]
  refine wpAnyH_take (i := 4) (oi := ⟨some 7, _, _, _, _, _⟩) (v := .pointer (some ⟨w.heap.size, 1, none⟩)) rfl (by kernel_rfl) (by kernel_rfl) (by kernel_rfl) (fun _ _ _ h => h) (.inl ⟨by rfl, fun W1 h1 => by go_simp⟩) hW ?_
  try simp only [Act.put, List.setIfInBounds_toArray, List.set_cons_zero, List.set_cons_succ]
  refine wpAnyH_take (i := 5) (oi := ⟨some 8, _, _, _, _, _⟩) (v := .int .i64 p.birth) rfl (by kernel_rfl) (by kernel_rfl) (by kernel_rfl) (fun _ _ _ h => h) (.inl ⟨by rfl, fun W1 h1 => by (have x0 : W1.cell? ⟨w.heap.size, 1, none⟩ = some (.int .i64 p.birth) := (by rw [cell_of_row W1 _ 1 cs 56 (0, 0) h1.1]; exact HP.out.c1)); go_simp⟩) hW ?_
  try simp only [Act.put, List.setIfInBounds_toArray, List.set_cons_zero, List.set_cons_succ]
  refine wpAnyH_take (i := 6) (oi := ⟨some 9, _, _, _, _, _⟩) (v := .bool true) rfl (by kernel_rfl) (by kernel_rfl) (by kernel_rfl) (fun _ _ _ h => h) (.inl ⟨by rfl, fun W1 h1 => by go_simp⟩) hW ?_
  try simp only [Act.put, List.setIfInBounds_toArray, List.set_cons_zero, List.set_cons_succ]
  refine wpAnyH_take (i := 7) (oi := ⟨some 10, _, _, _, _, _⟩) (v := .bool true) rfl (by kernel_rfl) (by kernel_rfl) (by kernel_rfl) (fun _ _ _ h => h) (.inl ⟨by rfl, fun W1 h1 => by go_simp⟩) hW ?_
  try simp only [Act.put, List.setIfInBounds_toArray, List.set_cons_zero, List.set_cons_succ]
  refine wpAnyH_take (i := 8) (oi := ⟨some 11, _, _, _, _, _⟩) (v := .bool true) rfl (by kernel_rfl) (by kernel_rfl) (by kernel_rfl) (fun _ _ _ h => h) (.inl ⟨by rfl, fun W1 h1 => by go_simp⟩) hW ?_
  try simp only [Act.put, List.setIfInBounds_toArray, List.set_cons_zero, List.set_cons_succ]
  refine wpAnyH_take (i := 9) (oi := ⟨some 12, _, _, _, _, _⟩) (v := .pointer (some ⟨w.heap.size, 2, none⟩)) rfl (by kernel_rfl) (by kernel_rfl) (by kernel_rfl) (fun _ _ _ h => h) (.inl ⟨by rfl, fun W1 h1 => by go_simp⟩) hW ?_
  try simp only [Act.put, List.setIfInBounds_toArray, List.set_cons_zero, List.set_cons_succ]
  refine wpAnyH_take (i := 10) (oi := ⟨some 13, _, _, _, _, _⟩) (v := .int .i64 p.len) rfl (by kernel_rfl) (by kernel_rfl) (by kernel_rfl) (fun _ _ _ h => h) (.inl ⟨by rfl, fun W1 h1 => by (have x0 : W1.cell? ⟨w.heap.size, 2, none⟩ = some (.int .i64 p.len) := (by rw [cell_of_row W1 _ 2 cs 56 (0, 0) h1.1]; exact HP.out.c2)); go_simp⟩) hW ?_
  try simp only [Act.put, List.setIfInBounds_toArray, List.set_cons_zero, List.set_cons_succ]
  refine wpAnyH_take (i := 11) (oi := ⟨some 14, _, _, _, _, _⟩) (v := .bool true) rfl (by kernel_rfl) (by kernel_rfl) (by kernel_rfl) (fun _ _ _ h => h) (.inl ⟨by rfl, fun W1 h1 => by go_simp⟩) hW ?_
  try simp only [Act.put, List.setIfInBounds_toArray, List.set_cons_zero, List.set_cons_succ]
  refine wpAnyH_take (i := 12) (oi := ⟨some 15, _, _, _, _, _⟩) (v := .bool true) rfl (by kernel_rfl) (by kernel_rfl) (by kernel_rfl) (fun _ _ _ h => h) (.inl ⟨by rfl, fun W1 h1 => by go_simp⟩) hW ?_
  try simp only [Act.put, List.setIfInBounds_toArray, List.set_cons_zero, List.set_cons_succ]
  refine wpAnyH_take (i := 13) (oi := ⟨some 16, _, _, _, _, _⟩) (v := .bool true) rfl (by kernel_rfl) (by kernel_rfl) (by kernel_rfl) (fun _ _ _ h => h) (.inl ⟨by rfl, fun W1 h1 => by go_simp⟩) hW ?_
  try simp only [Act.put, List.setIfInBounds_toArray, List.set_cons_zero, List.set_cons_succ]
  refine wpAnyH_take (i := 14) (oi := ⟨some 17, _, _, _, _, _⟩) (v := .pointer (some ⟨w.heap.size, 2, none⟩)) rfl (by kernel_rfl) (by kernel_rfl) (by kernel_rfl) (fun _ _ _ h => h) (.inl ⟨by rfl, fun W1 h1 => by go_simp⟩) hW ?_
  try simp only [Act.put, List.setIfInBounds_toArray, List.set_cons_zero, List.set_cons_succ]
  refine wpAnyH_take (i := 15) (oi := ⟨some 18, _, _, _, _, _⟩) (v := .int .i64 p.len) rfl (by kernel_rfl) (by kernel_rfl) (by kernel_rfl) (fun _ _ _ h => h) (.inl ⟨by rfl, fun W1 h1 => by (have x0 : W1.cell? ⟨w.heap.size, 2, none⟩ = some (.int .i64 p.len) := (by rw [cell_of_row W1 _ 2 cs 56 (0, 0) h1.1]; exact HP.out.c2)); go_simp⟩) hW ?_
  try simp only [Act.put, List.setIfInBounds_toArray, List.set_cons_zero, List.set_cons_succ]
  refine wpAnyH_take (i := 16) (oi := ⟨some 19, _, _, _, _, _⟩) (v := .bool true) rfl (by kernel_rfl) (by kernel_rfl) (by kernel_rfl) (fun _ _ _ h => h) (.inl ⟨by rfl, fun W1 h1 => by go_simp⟩) hW ?_
  try simp only [Act.put, List.setIfInBounds_toArray, List.set_cons_zero, List.set_cons_succ]
  refine wpAnyH_take (i := 17) (oi := ⟨some 20, _, _, _, _, _⟩) (v := .bool true) rfl (by kernel_rfl) (by kernel_rfl) (by kernel_rfl) (fun _ _ _ h => h) (.inl ⟨by rfl, fun W1 h1 => by go_simp⟩) hW ?_
  try simp only [Act.put, List.setIfInBounds_toArray, List.set_cons_zero, List.set_cons_succ]
  refine wpAnyH_take (i := 18) (oi := ⟨some 21, _, _, _, _, _⟩) (v := .bool true) rfl (by kernel_rfl) (by kernel_rfl) (by kernel_rfl) (fun _ _ _ h => h) (.inl ⟨by rfl, fun W1 h1 => by go_simp⟩) hW ?_
  try simp only [Act.put, List.setIfInBounds_toArray, List.set_cons_zero, List.set_cons_succ]
  refine wpAnyH_take (i := 19) (oi := ⟨some 22, _, _, _, _, _⟩) (v := .pointer (some ⟨w.heap.size, 0, none⟩)) rfl (by kernel_rfl) (by kernel_rfl) (by kernel_rfl) (fun _ _ _ h => h) (.inl ⟨by rfl, fun W1 h1 => by go_simp⟩) hW ?_
  try simp only [Act.put, List.setIfInBounds_toArray, List.set_cons_zero, List.set_cons_succ]
  refine wpAnyH_take (i := 20) (oi := ⟨some 23, _, _, _, _, _⟩) (v := .int .i64 p.at_) rfl (by kernel_rfl) (by kernel_rfl) (by kernel_rfl) (fun _ _ _ h => h) (.inl ⟨by rfl, fun W1 h1 => by (have x0 : W1.cell? ⟨w.heap.size, 0, none⟩ = some (.int .i64 p.at_) := (by rw [cell_of_row W1 _ 0 cs 56 (0, 0) h1.1]; exact HP.out.c0)); go_simp⟩) hW ?_
  try simp only [Act.put, List.setIfInBounds_toArray, List.set_cons_zero, List.set_cons_succ]
  refine wpAnyH_take (i := 21) (oi := ⟨some 24, _, _, _, _, _⟩) (v := .bool false) rfl (by kernel_rfl) (by kernel_rfl) (by kernel_rfl) (fun _ _ _ h => h) (.inl ⟨by rfl, fun W1 h1 => by go_simp⟩) hW ?_
  try simp only [Act.put, List.setIfInBounds_toArray, List.set_cons_zero, List.set_cons_succ]
  refine wpAnyH_take (i := 22) (oi := ⟨some 25, _, _, _, _, _⟩) (v := .bool false) rfl (by kernel_rfl) (by kernel_rfl) (by kernel_rfl) (fun _ _ _ h => h) (.inl ⟨by rfl, fun W1 h1 => by go_simp⟩) hW ?_
  try simp only [Act.put, List.setIfInBounds_toArray, List.set_cons_zero, List.set_cons_succ]
  refine wpAnyH_take (i := 23) (oi := ⟨some 26, _, _, _, _, _⟩) (v := .bool false) rfl (by kernel_rfl) (by kernel_rfl) (by kernel_rfl) (fun _ _ _ h => h) (.inl ⟨by rfl, fun W1 h1 => by go_simp⟩) hW ?_
  try simp only [Act.put, List.setIfInBounds_toArray, List.set_cons_zero, List.set_cons_succ]
  refine wpAnyH_take (i := 24) (oi := ⟨some 27, _, _, _, _, _⟩) (v := undef) rfl (by kernel_rfl) (by kernel_rfl) (by kernel_rfl) (fun _ _ _ h => h) (.inr ⟨by rfl, rfl⟩) hW ?_
  try simp only [Act.put, List.setIfInBounds_toArray, List.set_cons_zero, List.set_cons_succ]
  refine wpAnyH_take (i := 25) (oi := ⟨some 28, _, _, _, _, _⟩) (v := undef) rfl (by kernel_rfl) (by kernel_rfl) (by kernel_rfl) (fun _ _ _ h => h) (.inr ⟨by rfl, rfl⟩) hW ?_
  try simp only [Act.put, List.setIfInBounds_toArray, List.set_cons_zero, List.set_cons_succ]
  refine wpAnyH_take (i := 26) (oi := ⟨some 29, _, _, _, _, _⟩) (v := undef) rfl (by kernel_rfl) (by kernel_rfl) (by kernel_rfl) (fun _ _ _ h => h) (.inr ⟨by rfl, rfl⟩) hW ?_
  try simp only [Act.put, List.setIfInBounds_toArray, List.set_cons_zero, List.set_cons_succ]
  refine wpAnyH_take (i := 27) (oi := ⟨some 30, _, _, _, _, _⟩) (v := .bool false) rfl (by kernel_rfl) (by kernel_rfl) (by kernel_rfl) (fun _ _ _ h => h) (.inl ⟨by rfl, fun W1 h1 => by go_simp⟩) hW ?_
  try simp only [Act.put, List.setIfInBounds_toArray, List.set_cons_zero, List.set_cons_succ]
  refine wpAnyH_take (i := 28) (oi := ⟨some 31, _, _, _, _, _⟩) (v := .bool false) rfl (by kernel_rfl) (by kernel_rfl) (by kernel_rfl) (fun _ _ _ h => h) (.inl ⟨by rfl, fun W1 h1 => by go_simp⟩) hW ?_
  try simp only [Act.put, List.setIfInBounds_toArray, List.set_cons_zero, List.set_cons_succ]
  refine wpAnyH_take (i := 29) (oi := ⟨some 32, _, _, _, _, _⟩) (v := undef) rfl (by kernel_rfl) (by kernel_rfl) (by kernel_rfl) (fun _ _ _ h => h) (.inr ⟨by rfl, rfl⟩) hW ?_
  try simp only [Act.put, List.setIfInBounds_toArray, List.set_cons_zero, List.set_cons_succ]
  refine wpAnyH_take (i := 30) (oi := ⟨some 33, _, _, _, _, _⟩) (v := undef) rfl (by kernel_rfl) (by kernel_rfl) (by kernel_rfl) (fun _ _ _ h => h) (.inr ⟨by rfl, rfl⟩) hW ?_
  try simp only [Act.put, List.setIfInBounds_toArray, List.set_cons_zero, List.set_cons_succ]
  refine wpAnyH_take (i := 31) (oi := ⟨some 34, _, _, _, _, _⟩) (v := undef) rfl (by kernel_rfl) (by kernel_rfl) (by kernel_rfl) (fun _ _ _ h => h) (.inr ⟨by rfl, rfl⟩) hW ?_
  try simp only [Act.put, List.setIfInBounds_toArray, List.set_cons_zero, List.set_cons_succ]
  refine wpAnyH_take (i := 32) (oi := ⟨some 35, _, _, _, _, _⟩) (v := undef) rfl (by kernel_rfl) (by kernel_rfl) (by kernel_rfl) (fun _ _ _ h => h) (.inr ⟨by rfl, rfl⟩) hW ?_
  try simp only [Act.put, List.setIfInBounds_toArray, List.set_cons_zero, List.set_cons_succ]
  refine wpAnyH_take (i := 33) (oi := ⟨some 36, _, _, _, _, _⟩) (v := undef) rfl (by kernel_rfl) (by kernel_rfl) (by kernel_rfl) (fun _ _ _ h => h) (.inr ⟨by rfl, rfl⟩) hW ?_
  try simp only [Act.put, List.setIfInBounds_toArray, List.set_cons_zero, List.set_cons_succ]
  refine wpAnyH_take (i := 34) (oi := ⟨some 37, _, _, _, _, _⟩) (v := undef) rfl (by kernel_rfl) (by kernel_rfl) (by kernel_rfl) (fun _ _ _ h => h) (.inr ⟨by rfl, rfl⟩) hW ?_
  try simp only [Act.put, List.setIfInBounds_toArray, List.set_cons_zero, List.set_cons_succ]
  refine wpAnyH_take (i := 35) (oi := ⟨some 38, _, _, _, _, _⟩) (v := .bool false) rfl (by kernel_rfl) (by kernel_rfl) (by kernel_rfl) (fun _ _ _ h => h) (.inl ⟨by rfl, fun W1 h1 => by go_simp⟩) hW ?_
  try simp only [Act.put, List.setIfInBounds_toArray, List.set_cons_zero, List.set_cons_succ]
  refine wpAnyH_take (i := 36) (oi := ⟨some 2, _, _, _, _, _⟩) (v := .bool false) rfl (by kernel_rfl) (by kernel_rfl) (by kernel_rfl) (fun _ _ _ h => h) (.inl ⟨by rfl, fun W1 h1 => by go_simp⟩) hW ?_
  try simp only [Act.put, List.setIfInBounds_toArray, List.set_cons_zero, List.set_cons_succ]
  refine wpAnyH_done (by kernel_rfl) ?_ _
  have HB := Aside0.mk hW.2.1
  clear HB0 G0 hs
  go_wp2
  go_ret
  exact ⟨rfl, HB.out⟩

set_option maxHeartbeats 2000000 in
set_option maxRecDepth 100000 in
theorem right_5 (cs : Array Value) (p : Ptr) (hp : PC cs p) (c0 : 1 ≤ p.birth) (c1 : p.birth ≤ 1152921504606846976) (c2 : 1 ≤ p.len) (c3 : p.len ≤ 65536) (c4 : 2 ≤ p.at_) (c5 : 8192 < p.at_) (w : World) : Calls Try.prog 67 #[.agg cs] w fun e w' => e = .returned (.bool false) ∧ Below w.heap.size w w' := by
  have hi : (Try.prog.info? 56).map (·.size) = some cs.size := by rw [hp.size]; kernel_rfl
  have G0 := Aside0.mk (blk_new w (.cells cs 56))
  have HB0 := Aside0.mk (below_alloc (Below.refl w.heap.size w) (.cells cs 56))
  have hs : w.heap.size < (w.alloc (.cells cs 56)).heap.size := by simp
  have HP := Aside0.mk hp
  have HS := Aside0.mk (fun W => rsectors_calls cs p hp W)
  have hsb := sect_bound p.len
  generalize sect p.len = sc at *
  go_enter Try.func67, Try.ntmps67
  go_wp2_with fail
  generalize (w.alloc (.cells cs 56)) = W at *
  refine wp_region_held_drew (S := fun w' => w'.heap[w.heap.size]? = some (.cells cs 56 (0, 0)) ∧ Below w.heap.size w w' ∧ w.heap.size < w'.heap.size) (by kernel_rfl) ⟨G0.out, below_drew HB0.out, hs⟩ (fun hW => ?_)
  refine wpAnyH_take (i := 0) (oi := ⟨some 3, _, _, _, _, _⟩) (v := .pointer (some ⟨w.heap.size, 1, none⟩)) rfl (by kernel_rfl) (by kernel_rfl) (by kernel_rfl) (fun _ _ _ h => h) (.inl ⟨by rfl, fun W1 h1 => by go_simp⟩) hW ?_
  try simp only [Act.put, List.setIfInBounds_toArray, List.set_cons_zero, List.set_cons_succ]
  refine wpAnyH_take (i := 1) (oi := ⟨some 4, _, _, _, _, _⟩) (v := .int .i64 p.birth) rfl (by kernel_rfl) (by kernel_rfl) (by kernel_rfl) (fun _ _ _ h => h) (.inl ⟨by rfl, fun W1 h1 => by (have x0 : W1.cell? ⟨w.heap.size, 1, none⟩ = some (.int .i64 p.birth) := (by rw [cell_of_row W1 _ 1 cs 56 (0, 0) h1.1]; exact HP.out.c1)); go_simp⟩) hW ?_
  try simp only [Act.put, List.setIfInBounds_toArray, List.set_cons_zero, List.set_cons_succ]
  refine wpAnyH_take (i := 2) (oi := ⟨some 5, _, _, _, _, _⟩) (v := .bool true) rfl (by kernel_rfl) (by kernel_rfl) (by kernel_rfl) (fun _ _ _ h => h) (.inl ⟨by rfl, fun W1 h1 => by go_simp⟩) hW ?_
  try simp only [Act.put, List.setIfInBounds_toArray, List.set_cons_zero, List.set_cons_succ]
  refine wpAnyH_take (i := 3) (oi := ⟨some 6, _, _, _, _, _⟩) (v := .bool true) rfl (by kernel_rfl) (by kernel_rfl) (by kernel_rfl) (fun _ _ _ h => h) (.inl ⟨by rfl, fun W1 h1 => by go_simp⟩) hW ?_
  try simp only [Act.put, List.setIfInBounds_toArray, List.set_cons_zero, List.set_cons_succ]
  refine wpAnyH_take (i := 4) (oi := ⟨some 7, _, _, _, _, _⟩) (v := .pointer (some ⟨w.heap.size, 1, none⟩)) rfl (by kernel_rfl) (by kernel_rfl) (by kernel_rfl) (fun _ _ _ h => h) (.inl ⟨by rfl, fun W1 h1 => by go_simp⟩) hW ?_
  try simp only [Act.put, List.setIfInBounds_toArray, List.set_cons_zero, List.set_cons_succ]
  refine wpAnyH_take (i := 5) (oi := ⟨some 8, _, _, _, _, _⟩) (v := .int .i64 p.birth) rfl (by kernel_rfl) (by kernel_rfl) (by kernel_rfl) (fun _ _ _ h => h) (.inl ⟨by rfl, fun W1 h1 => by (have x0 : W1.cell? ⟨w.heap.size, 1, none⟩ = some (.int .i64 p.birth) := (by rw [cell_of_row W1 _ 1 cs 56 (0, 0) h1.1]; exact HP.out.c1)); go_simp⟩) hW ?_
  try simp only [Act.put, List.setIfInBounds_toArray, List.set_cons_zero, List.set_cons_succ]
  refine wpAnyH_take (i := 6) (oi := ⟨some 9, _, _, _, _, _⟩) (v := .bool true) rfl (by kernel_rfl) (by kernel_rfl) (by kernel_rfl) (fun _ _ _ h => h) (.inl ⟨by rfl, fun W1 h1 => by go_simp⟩) hW ?_
  try simp only [Act.put, List.setIfInBounds_toArray, List.set_cons_zero, List.set_cons_succ]
  refine wpAnyH_take (i := 7) (oi := ⟨some 10, _, _, _, _, _⟩) (v := .bool true) rfl (by kernel_rfl) (by kernel_rfl) (by kernel_rfl) (fun _ _ _ h => h) (.inl ⟨by rfl, fun W1 h1 => by go_simp⟩) hW ?_
  try simp only [Act.put, List.setIfInBounds_toArray, List.set_cons_zero, List.set_cons_succ]
  refine wpAnyH_take (i := 8) (oi := ⟨some 11, _, _, _, _, _⟩) (v := .bool true) rfl (by kernel_rfl) (by kernel_rfl) (by kernel_rfl) (fun _ _ _ h => h) (.inl ⟨by rfl, fun W1 h1 => by go_simp⟩) hW ?_
  try simp only [Act.put, List.setIfInBounds_toArray, List.set_cons_zero, List.set_cons_succ]
  refine wpAnyH_take (i := 9) (oi := ⟨some 12, _, _, _, _, _⟩) (v := .pointer (some ⟨w.heap.size, 2, none⟩)) rfl (by kernel_rfl) (by kernel_rfl) (by kernel_rfl) (fun _ _ _ h => h) (.inl ⟨by rfl, fun W1 h1 => by go_simp⟩) hW ?_
  try simp only [Act.put, List.setIfInBounds_toArray, List.set_cons_zero, List.set_cons_succ]
  refine wpAnyH_take (i := 10) (oi := ⟨some 13, _, _, _, _, _⟩) (v := .int .i64 p.len) rfl (by kernel_rfl) (by kernel_rfl) (by kernel_rfl) (fun _ _ _ h => h) (.inl ⟨by rfl, fun W1 h1 => by (have x0 : W1.cell? ⟨w.heap.size, 2, none⟩ = some (.int .i64 p.len) := (by rw [cell_of_row W1 _ 2 cs 56 (0, 0) h1.1]; exact HP.out.c2)); go_simp⟩) hW ?_
  try simp only [Act.put, List.setIfInBounds_toArray, List.set_cons_zero, List.set_cons_succ]
  refine wpAnyH_take (i := 11) (oi := ⟨some 14, _, _, _, _, _⟩) (v := .bool true) rfl (by kernel_rfl) (by kernel_rfl) (by kernel_rfl) (fun _ _ _ h => h) (.inl ⟨by rfl, fun W1 h1 => by go_simp⟩) hW ?_
  try simp only [Act.put, List.setIfInBounds_toArray, List.set_cons_zero, List.set_cons_succ]
  refine wpAnyH_take (i := 12) (oi := ⟨some 15, _, _, _, _, _⟩) (v := .bool true) rfl (by kernel_rfl) (by kernel_rfl) (by kernel_rfl) (fun _ _ _ h => h) (.inl ⟨by rfl, fun W1 h1 => by go_simp⟩) hW ?_
  try simp only [Act.put, List.setIfInBounds_toArray, List.set_cons_zero, List.set_cons_succ]
  refine wpAnyH_take (i := 13) (oi := ⟨some 16, _, _, _, _, _⟩) (v := .bool true) rfl (by kernel_rfl) (by kernel_rfl) (by kernel_rfl) (fun _ _ _ h => h) (.inl ⟨by rfl, fun W1 h1 => by go_simp⟩) hW ?_
  try simp only [Act.put, List.setIfInBounds_toArray, List.set_cons_zero, List.set_cons_succ]
  refine wpAnyH_take (i := 14) (oi := ⟨some 17, _, _, _, _, _⟩) (v := .pointer (some ⟨w.heap.size, 2, none⟩)) rfl (by kernel_rfl) (by kernel_rfl) (by kernel_rfl) (fun _ _ _ h => h) (.inl ⟨by rfl, fun W1 h1 => by go_simp⟩) hW ?_
  try simp only [Act.put, List.setIfInBounds_toArray, List.set_cons_zero, List.set_cons_succ]
  refine wpAnyH_take (i := 15) (oi := ⟨some 18, _, _, _, _, _⟩) (v := .int .i64 p.len) rfl (by kernel_rfl) (by kernel_rfl) (by kernel_rfl) (fun _ _ _ h => h) (.inl ⟨by rfl, fun W1 h1 => by (have x0 : W1.cell? ⟨w.heap.size, 2, none⟩ = some (.int .i64 p.len) := (by rw [cell_of_row W1 _ 2 cs 56 (0, 0) h1.1]; exact HP.out.c2)); go_simp⟩) hW ?_
  try simp only [Act.put, List.setIfInBounds_toArray, List.set_cons_zero, List.set_cons_succ]
  refine wpAnyH_take (i := 16) (oi := ⟨some 19, _, _, _, _, _⟩) (v := .bool true) rfl (by kernel_rfl) (by kernel_rfl) (by kernel_rfl) (fun _ _ _ h => h) (.inl ⟨by rfl, fun W1 h1 => by go_simp⟩) hW ?_
  try simp only [Act.put, List.setIfInBounds_toArray, List.set_cons_zero, List.set_cons_succ]
  refine wpAnyH_take (i := 17) (oi := ⟨some 20, _, _, _, _, _⟩) (v := .bool true) rfl (by kernel_rfl) (by kernel_rfl) (by kernel_rfl) (fun _ _ _ h => h) (.inl ⟨by rfl, fun W1 h1 => by go_simp⟩) hW ?_
  try simp only [Act.put, List.setIfInBounds_toArray, List.set_cons_zero, List.set_cons_succ]
  refine wpAnyH_take (i := 18) (oi := ⟨some 21, _, _, _, _, _⟩) (v := .bool true) rfl (by kernel_rfl) (by kernel_rfl) (by kernel_rfl) (fun _ _ _ h => h) (.inl ⟨by rfl, fun W1 h1 => by go_simp⟩) hW ?_
  try simp only [Act.put, List.setIfInBounds_toArray, List.set_cons_zero, List.set_cons_succ]
  refine wpAnyH_take (i := 19) (oi := ⟨some 22, _, _, _, _, _⟩) (v := .pointer (some ⟨w.heap.size, 0, none⟩)) rfl (by kernel_rfl) (by kernel_rfl) (by kernel_rfl) (fun _ _ _ h => h) (.inl ⟨by rfl, fun W1 h1 => by go_simp⟩) hW ?_
  try simp only [Act.put, List.setIfInBounds_toArray, List.set_cons_zero, List.set_cons_succ]
  refine wpAnyH_take (i := 20) (oi := ⟨some 23, _, _, _, _, _⟩) (v := .int .i64 p.at_) rfl (by kernel_rfl) (by kernel_rfl) (by kernel_rfl) (fun _ _ _ h => h) (.inl ⟨by rfl, fun W1 h1 => by (have x0 : W1.cell? ⟨w.heap.size, 0, none⟩ = some (.int .i64 p.at_) := (by rw [cell_of_row W1 _ 0 cs 56 (0, 0) h1.1]; exact HP.out.c0)); go_simp⟩) hW ?_
  try simp only [Act.put, List.setIfInBounds_toArray, List.set_cons_zero, List.set_cons_succ]
  refine wpAnyH_take (i := 21) (oi := ⟨some 24, _, _, _, _, _⟩) (v := .bool true) rfl (by kernel_rfl) (by kernel_rfl) (by kernel_rfl) (fun _ _ _ h => h) (.inl ⟨by rfl, fun W1 h1 => by go_simp⟩) hW ?_
  try simp only [Act.put, List.setIfInBounds_toArray, List.set_cons_zero, List.set_cons_succ]
  refine wpAnyH_take (i := 22) (oi := ⟨some 25, _, _, _, _, _⟩) (v := .bool true) rfl (by kernel_rfl) (by kernel_rfl) (by kernel_rfl) (fun _ _ _ h => h) (.inl ⟨by rfl, fun W1 h1 => by go_simp⟩) hW ?_
  try simp only [Act.put, List.setIfInBounds_toArray, List.set_cons_zero, List.set_cons_succ]
  refine wpAnyH_take (i := 23) (oi := ⟨some 26, _, _, _, _, _⟩) (v := .bool true) rfl (by kernel_rfl) (by kernel_rfl) (by kernel_rfl) (fun _ _ _ h => h) (.inl ⟨by rfl, fun W1 h1 => by go_simp⟩) hW ?_
  try simp only [Act.put, List.setIfInBounds_toArray, List.set_cons_zero, List.set_cons_succ]
  refine wpAnyH_take (i := 24) (oi := ⟨some 27, _, _, _, _, _⟩) (v := .pointer (some ⟨w.heap.size, 0, none⟩)) rfl (by kernel_rfl) (by kernel_rfl) (by kernel_rfl) (fun _ _ _ h => h) (.inl ⟨by rfl, fun W1 h1 => by go_simp⟩) hW ?_
  try simp only [Act.put, List.setIfInBounds_toArray, List.set_cons_zero, List.set_cons_succ]
  refine wpAnyH_take (i := 25) (oi := ⟨some 28, _, _, _, _, _⟩) (v := .int .i64 p.at_) rfl (by kernel_rfl) (by kernel_rfl) (by kernel_rfl) (fun _ _ _ h => h) (.inl ⟨by rfl, fun W1 h1 => by (have x0 : W1.cell? ⟨w.heap.size, 0, none⟩ = some (.int .i64 p.at_) := (by rw [cell_of_row W1 _ 0 cs 56 (0, 0) h1.1]; exact HP.out.c0)); go_simp⟩) hW ?_
  try simp only [Act.put, List.setIfInBounds_toArray, List.set_cons_zero, List.set_cons_succ]
  refine wpAnyH_take (i := 26) (oi := ⟨some 29, _, _, _, _, _⟩) (v := .bool false) rfl (by kernel_rfl) (by kernel_rfl) (by kernel_rfl) (fun _ _ _ h => h) (.inl ⟨by rfl, fun W1 h1 => by go_simp⟩) hW ?_
  try simp only [Act.put, List.setIfInBounds_toArray, List.set_cons_zero, List.set_cons_succ]
  refine wpAnyH_take (i := 27) (oi := ⟨some 30, _, _, _, _, _⟩) (v := .bool false) rfl (by kernel_rfl) (by kernel_rfl) (by kernel_rfl) (fun _ _ _ h => h) (.inl ⟨by rfl, fun W1 h1 => by go_simp⟩) hW ?_
  try simp only [Act.put, List.setIfInBounds_toArray, List.set_cons_zero, List.set_cons_succ]
  refine wpAnyH_take (i := 28) (oi := ⟨some 31, _, _, _, _, _⟩) (v := .bool false) rfl (by kernel_rfl) (by kernel_rfl) (by kernel_rfl) (fun _ _ _ h => h) (.inl ⟨by rfl, fun W1 h1 => by go_simp⟩) hW ?_
  try simp only [Act.put, List.setIfInBounds_toArray, List.set_cons_zero, List.set_cons_succ]
  refine wpAnyH_take (i := 29) (oi := ⟨some 32, _, _, _, _, _⟩) (v := undef) rfl (by kernel_rfl) (by kernel_rfl) (by kernel_rfl) (fun _ _ _ h => h) (.inr ⟨by rfl, rfl⟩) hW ?_
  try simp only [Act.put, List.setIfInBounds_toArray, List.set_cons_zero, List.set_cons_succ]
  refine wpAnyH_take (i := 30) (oi := ⟨some 33, _, _, _, _, _⟩) (v := undef) rfl (by kernel_rfl) (by kernel_rfl) (by kernel_rfl) (fun _ _ _ h => h) (.inr ⟨by rfl, rfl⟩) hW ?_
  try simp only [Act.put, List.setIfInBounds_toArray, List.set_cons_zero, List.set_cons_succ]
  refine wpAnyH_take (i := 31) (oi := ⟨some 34, _, _, _, _, _⟩) (v := undef) rfl (by kernel_rfl) (by kernel_rfl) (by kernel_rfl) (fun _ _ _ h => h) (.inr ⟨by rfl, rfl⟩) hW ?_
  try simp only [Act.put, List.setIfInBounds_toArray, List.set_cons_zero, List.set_cons_succ]
  refine wpAnyH_take (i := 32) (oi := ⟨some 35, _, _, _, _, _⟩) (v := undef) rfl (by kernel_rfl) (by kernel_rfl) (by kernel_rfl) (fun _ _ _ h => h) (.inr ⟨by rfl, rfl⟩) hW ?_
  try simp only [Act.put, List.setIfInBounds_toArray, List.set_cons_zero, List.set_cons_succ]
  refine wpAnyH_take (i := 33) (oi := ⟨some 36, _, _, _, _, _⟩) (v := undef) rfl (by kernel_rfl) (by kernel_rfl) (by kernel_rfl) (fun _ _ _ h => h) (.inr ⟨by rfl, rfl⟩) hW ?_
  try simp only [Act.put, List.setIfInBounds_toArray, List.set_cons_zero, List.set_cons_succ]
  refine wpAnyH_take (i := 34) (oi := ⟨some 37, _, _, _, _, _⟩) (v := undef) rfl (by kernel_rfl) (by kernel_rfl) (by kernel_rfl) (fun _ _ _ h => h) (.inr ⟨by rfl, rfl⟩) hW ?_
  try simp only [Act.put, List.setIfInBounds_toArray, List.set_cons_zero, List.set_cons_succ]
  refine wpAnyH_take (i := 35) (oi := ⟨some 38, _, _, _, _, _⟩) (v := .bool false) rfl (by kernel_rfl) (by kernel_rfl) (by kernel_rfl) (fun _ _ _ h => h) (.inl ⟨by rfl, fun W1 h1 => by go_simp⟩) hW ?_
  try simp only [Act.put, List.setIfInBounds_toArray, List.set_cons_zero, List.set_cons_succ]
  refine wpAnyH_take (i := 36) (oi := ⟨some 2, _, _, _, _, _⟩) (v := .bool false) rfl (by kernel_rfl) (by kernel_rfl) (by kernel_rfl) (fun _ _ _ h => h) (.inl ⟨by rfl, fun W1 h1 => by go_simp⟩) hW ?_
  try simp only [Act.put, List.setIfInBounds_toArray, List.set_cons_zero, List.set_cons_succ]
  refine wpAnyH_done (by kernel_rfl) ?_ _
  have HB := Aside0.mk hW.2.1
  clear HB0 G0 hs
  go_wp2
  go_ret
  exact ⟨rfl, HB.out⟩

set_option maxHeartbeats 2000000 in
set_option maxRecDepth 100000 in
theorem right_6 (cs : Array Value) (p : Ptr) (hp : PC cs p) (c0 : 1 ≤ p.birth) (c1 : p.birth ≤ 1152921504606846976) (c2 : 1 ≤ p.len) (c3 : p.len ≤ 65536) (c4 : 2 ≤ p.at_) (c5 : p.at_ ≤ 8192) (c6 : 8192 < p.at_ + sect p.len) (w : World) : Calls Try.prog 67 #[.agg cs] w fun e w' => e = .returned (.bool false) ∧ Below w.heap.size w w' := by
  have hi : (Try.prog.info? 56).map (·.size) = some cs.size := by rw [hp.size]; kernel_rfl
  have G0 := Aside0.mk (blk_new w (.cells cs 56))
  have HB0 := Aside0.mk (below_alloc (Below.refl w.heap.size w) (.cells cs 56))
  have hs : w.heap.size < (w.alloc (.cells cs 56)).heap.size := by simp
  have HP := Aside0.mk hp
  have HS := Aside0.mk (fun W => rsectors_calls cs p hp W)
  have hsb := sect_bound p.len
  generalize sect p.len = sc at *
  go_enter Try.func67, Try.ntmps67
  go_wp2_with fail
  generalize (w.alloc (.cells cs 56)) = W at *
  refine wp_region_held_drew (S := fun w' => w'.heap[w.heap.size]? = some (.cells cs 56 (0, 0)) ∧ Below w.heap.size w w' ∧ w.heap.size < w'.heap.size) (by kernel_rfl) ⟨G0.out, below_drew HB0.out, hs⟩ (fun hW => ?_)
  refine wpAnyH_take (i := 0) (oi := ⟨some 3, _, _, _, _, _⟩) (v := .pointer (some ⟨w.heap.size, 1, none⟩)) rfl (by kernel_rfl) (by kernel_rfl) (by kernel_rfl) (fun _ _ _ h => h) (.inl ⟨by rfl, fun W1 h1 => by go_simp⟩) hW ?_
  try simp only [Act.put, List.setIfInBounds_toArray, List.set_cons_zero, List.set_cons_succ]
  refine wpAnyH_take (i := 1) (oi := ⟨some 4, _, _, _, _, _⟩) (v := .int .i64 p.birth) rfl (by kernel_rfl) (by kernel_rfl) (by kernel_rfl) (fun _ _ _ h => h) (.inl ⟨by rfl, fun W1 h1 => by (have x0 : W1.cell? ⟨w.heap.size, 1, none⟩ = some (.int .i64 p.birth) := (by rw [cell_of_row W1 _ 1 cs 56 (0, 0) h1.1]; exact HP.out.c1)); go_simp⟩) hW ?_
  try simp only [Act.put, List.setIfInBounds_toArray, List.set_cons_zero, List.set_cons_succ]
  refine wpAnyH_take (i := 2) (oi := ⟨some 5, _, _, _, _, _⟩) (v := .bool true) rfl (by kernel_rfl) (by kernel_rfl) (by kernel_rfl) (fun _ _ _ h => h) (.inl ⟨by rfl, fun W1 h1 => by go_simp⟩) hW ?_
  try simp only [Act.put, List.setIfInBounds_toArray, List.set_cons_zero, List.set_cons_succ]
  refine wpAnyH_take (i := 3) (oi := ⟨some 6, _, _, _, _, _⟩) (v := .bool true) rfl (by kernel_rfl) (by kernel_rfl) (by kernel_rfl) (fun _ _ _ h => h) (.inl ⟨by rfl, fun W1 h1 => by go_simp⟩) hW ?_
  try simp only [Act.put, List.setIfInBounds_toArray, List.set_cons_zero, List.set_cons_succ]
  refine wpAnyH_take (i := 4) (oi := ⟨some 7, _, _, _, _, _⟩) (v := .pointer (some ⟨w.heap.size, 1, none⟩)) rfl (by kernel_rfl) (by kernel_rfl) (by kernel_rfl) (fun _ _ _ h => h) (.inl ⟨by rfl, fun W1 h1 => by go_simp⟩) hW ?_
  try simp only [Act.put, List.setIfInBounds_toArray, List.set_cons_zero, List.set_cons_succ]
  refine wpAnyH_take (i := 5) (oi := ⟨some 8, _, _, _, _, _⟩) (v := .int .i64 p.birth) rfl (by kernel_rfl) (by kernel_rfl) (by kernel_rfl) (fun _ _ _ h => h) (.inl ⟨by rfl, fun W1 h1 => by (have x0 : W1.cell? ⟨w.heap.size, 1, none⟩ = some (.int .i64 p.birth) := (by rw [cell_of_row W1 _ 1 cs 56 (0, 0) h1.1]; exact HP.out.c1)); go_simp⟩) hW ?_
  try simp only [Act.put, List.setIfInBounds_toArray, List.set_cons_zero, List.set_cons_succ]
  refine wpAnyH_take (i := 6) (oi := ⟨some 9, _, _, _, _, _⟩) (v := .bool true) rfl (by kernel_rfl) (by kernel_rfl) (by kernel_rfl) (fun _ _ _ h => h) (.inl ⟨by rfl, fun W1 h1 => by go_simp⟩) hW ?_
  try simp only [Act.put, List.setIfInBounds_toArray, List.set_cons_zero, List.set_cons_succ]
  refine wpAnyH_take (i := 7) (oi := ⟨some 10, _, _, _, _, _⟩) (v := .bool true) rfl (by kernel_rfl) (by kernel_rfl) (by kernel_rfl) (fun _ _ _ h => h) (.inl ⟨by rfl, fun W1 h1 => by go_simp⟩) hW ?_
  try simp only [Act.put, List.setIfInBounds_toArray, List.set_cons_zero, List.set_cons_succ]
  refine wpAnyH_take (i := 8) (oi := ⟨some 11, _, _, _, _, _⟩) (v := .bool true) rfl (by kernel_rfl) (by kernel_rfl) (by kernel_rfl) (fun _ _ _ h => h) (.inl ⟨by rfl, fun W1 h1 => by go_simp⟩) hW ?_
  try simp only [Act.put, List.setIfInBounds_toArray, List.set_cons_zero, List.set_cons_succ]
  refine wpAnyH_take (i := 9) (oi := ⟨some 12, _, _, _, _, _⟩) (v := .pointer (some ⟨w.heap.size, 2, none⟩)) rfl (by kernel_rfl) (by kernel_rfl) (by kernel_rfl) (fun _ _ _ h => h) (.inl ⟨by rfl, fun W1 h1 => by go_simp⟩) hW ?_
  try simp only [Act.put, List.setIfInBounds_toArray, List.set_cons_zero, List.set_cons_succ]
  refine wpAnyH_take (i := 10) (oi := ⟨some 13, _, _, _, _, _⟩) (v := .int .i64 p.len) rfl (by kernel_rfl) (by kernel_rfl) (by kernel_rfl) (fun _ _ _ h => h) (.inl ⟨by rfl, fun W1 h1 => by (have x0 : W1.cell? ⟨w.heap.size, 2, none⟩ = some (.int .i64 p.len) := (by rw [cell_of_row W1 _ 2 cs 56 (0, 0) h1.1]; exact HP.out.c2)); go_simp⟩) hW ?_
  try simp only [Act.put, List.setIfInBounds_toArray, List.set_cons_zero, List.set_cons_succ]
  refine wpAnyH_take (i := 11) (oi := ⟨some 14, _, _, _, _, _⟩) (v := .bool true) rfl (by kernel_rfl) (by kernel_rfl) (by kernel_rfl) (fun _ _ _ h => h) (.inl ⟨by rfl, fun W1 h1 => by go_simp⟩) hW ?_
  try simp only [Act.put, List.setIfInBounds_toArray, List.set_cons_zero, List.set_cons_succ]
  refine wpAnyH_take (i := 12) (oi := ⟨some 15, _, _, _, _, _⟩) (v := .bool true) rfl (by kernel_rfl) (by kernel_rfl) (by kernel_rfl) (fun _ _ _ h => h) (.inl ⟨by rfl, fun W1 h1 => by go_simp⟩) hW ?_
  try simp only [Act.put, List.setIfInBounds_toArray, List.set_cons_zero, List.set_cons_succ]
  refine wpAnyH_take (i := 13) (oi := ⟨some 16, _, _, _, _, _⟩) (v := .bool true) rfl (by kernel_rfl) (by kernel_rfl) (by kernel_rfl) (fun _ _ _ h => h) (.inl ⟨by rfl, fun W1 h1 => by go_simp⟩) hW ?_
  try simp only [Act.put, List.setIfInBounds_toArray, List.set_cons_zero, List.set_cons_succ]
  refine wpAnyH_take (i := 14) (oi := ⟨some 17, _, _, _, _, _⟩) (v := .pointer (some ⟨w.heap.size, 2, none⟩)) rfl (by kernel_rfl) (by kernel_rfl) (by kernel_rfl) (fun _ _ _ h => h) (.inl ⟨by rfl, fun W1 h1 => by go_simp⟩) hW ?_
  try simp only [Act.put, List.setIfInBounds_toArray, List.set_cons_zero, List.set_cons_succ]
  refine wpAnyH_take (i := 15) (oi := ⟨some 18, _, _, _, _, _⟩) (v := .int .i64 p.len) rfl (by kernel_rfl) (by kernel_rfl) (by kernel_rfl) (fun _ _ _ h => h) (.inl ⟨by rfl, fun W1 h1 => by (have x0 : W1.cell? ⟨w.heap.size, 2, none⟩ = some (.int .i64 p.len) := (by rw [cell_of_row W1 _ 2 cs 56 (0, 0) h1.1]; exact HP.out.c2)); go_simp⟩) hW ?_
  try simp only [Act.put, List.setIfInBounds_toArray, List.set_cons_zero, List.set_cons_succ]
  refine wpAnyH_take (i := 16) (oi := ⟨some 19, _, _, _, _, _⟩) (v := .bool true) rfl (by kernel_rfl) (by kernel_rfl) (by kernel_rfl) (fun _ _ _ h => h) (.inl ⟨by rfl, fun W1 h1 => by go_simp⟩) hW ?_
  try simp only [Act.put, List.setIfInBounds_toArray, List.set_cons_zero, List.set_cons_succ]
  refine wpAnyH_take (i := 17) (oi := ⟨some 20, _, _, _, _, _⟩) (v := .bool true) rfl (by kernel_rfl) (by kernel_rfl) (by kernel_rfl) (fun _ _ _ h => h) (.inl ⟨by rfl, fun W1 h1 => by go_simp⟩) hW ?_
  try simp only [Act.put, List.setIfInBounds_toArray, List.set_cons_zero, List.set_cons_succ]
  refine wpAnyH_take (i := 18) (oi := ⟨some 21, _, _, _, _, _⟩) (v := .bool true) rfl (by kernel_rfl) (by kernel_rfl) (by kernel_rfl) (fun _ _ _ h => h) (.inl ⟨by rfl, fun W1 h1 => by go_simp⟩) hW ?_
  try simp only [Act.put, List.setIfInBounds_toArray, List.set_cons_zero, List.set_cons_succ]
  refine wpAnyH_take (i := 19) (oi := ⟨some 22, _, _, _, _, _⟩) (v := .pointer (some ⟨w.heap.size, 0, none⟩)) rfl (by kernel_rfl) (by kernel_rfl) (by kernel_rfl) (fun _ _ _ h => h) (.inl ⟨by rfl, fun W1 h1 => by go_simp⟩) hW ?_
  try simp only [Act.put, List.setIfInBounds_toArray, List.set_cons_zero, List.set_cons_succ]
  refine wpAnyH_take (i := 20) (oi := ⟨some 23, _, _, _, _, _⟩) (v := .int .i64 p.at_) rfl (by kernel_rfl) (by kernel_rfl) (by kernel_rfl) (fun _ _ _ h => h) (.inl ⟨by rfl, fun W1 h1 => by (have x0 : W1.cell? ⟨w.heap.size, 0, none⟩ = some (.int .i64 p.at_) := (by rw [cell_of_row W1 _ 0 cs 56 (0, 0) h1.1]; exact HP.out.c0)); go_simp⟩) hW ?_
  try simp only [Act.put, List.setIfInBounds_toArray, List.set_cons_zero, List.set_cons_succ]
  refine wpAnyH_take (i := 21) (oi := ⟨some 24, _, _, _, _, _⟩) (v := .bool true) rfl (by kernel_rfl) (by kernel_rfl) (by kernel_rfl) (fun _ _ _ h => h) (.inl ⟨by rfl, fun W1 h1 => by go_simp⟩) hW ?_
  try simp only [Act.put, List.setIfInBounds_toArray, List.set_cons_zero, List.set_cons_succ]
  refine wpAnyH_take (i := 22) (oi := ⟨some 25, _, _, _, _, _⟩) (v := .bool true) rfl (by kernel_rfl) (by kernel_rfl) (by kernel_rfl) (fun _ _ _ h => h) (.inl ⟨by rfl, fun W1 h1 => by go_simp⟩) hW ?_
  try simp only [Act.put, List.setIfInBounds_toArray, List.set_cons_zero, List.set_cons_succ]
  refine wpAnyH_take (i := 23) (oi := ⟨some 26, _, _, _, _, _⟩) (v := .bool true) rfl (by kernel_rfl) (by kernel_rfl) (by kernel_rfl) (fun _ _ _ h => h) (.inl ⟨by rfl, fun W1 h1 => by go_simp⟩) hW ?_
  try simp only [Act.put, List.setIfInBounds_toArray, List.set_cons_zero, List.set_cons_succ]
  refine wpAnyH_take (i := 24) (oi := ⟨some 27, _, _, _, _, _⟩) (v := .pointer (some ⟨w.heap.size, 0, none⟩)) rfl (by kernel_rfl) (by kernel_rfl) (by kernel_rfl) (fun _ _ _ h => h) (.inl ⟨by rfl, fun W1 h1 => by go_simp⟩) hW ?_
  try simp only [Act.put, List.setIfInBounds_toArray, List.set_cons_zero, List.set_cons_succ]
  refine wpAnyH_take (i := 25) (oi := ⟨some 28, _, _, _, _, _⟩) (v := .int .i64 p.at_) rfl (by kernel_rfl) (by kernel_rfl) (by kernel_rfl) (fun _ _ _ h => h) (.inl ⟨by rfl, fun W1 h1 => by (have x0 : W1.cell? ⟨w.heap.size, 0, none⟩ = some (.int .i64 p.at_) := (by rw [cell_of_row W1 _ 0 cs 56 (0, 0) h1.1]; exact HP.out.c0)); go_simp⟩) hW ?_
  try simp only [Act.put, List.setIfInBounds_toArray, List.set_cons_zero, List.set_cons_succ]
  refine wpAnyH_take (i := 26) (oi := ⟨some 29, _, _, _, _, _⟩) (v := .bool true) rfl (by kernel_rfl) (by kernel_rfl) (by kernel_rfl) (fun _ _ _ h => h) (.inl ⟨by rfl, fun W1 h1 => by go_simp⟩) hW ?_
  try simp only [Act.put, List.setIfInBounds_toArray, List.set_cons_zero, List.set_cons_succ]
  refine wpAnyH_take (i := 27) (oi := ⟨some 30, _, _, _, _, _⟩) (v := .bool true) rfl (by kernel_rfl) (by kernel_rfl) (by kernel_rfl) (fun _ _ _ h => h) (.inl ⟨by rfl, fun W1 h1 => by go_simp⟩) hW ?_
  try simp only [Act.put, List.setIfInBounds_toArray, List.set_cons_zero, List.set_cons_succ]
  refine wpAnyH_take (i := 28) (oi := ⟨some 31, _, _, _, _, _⟩) (v := .bool true) rfl (by kernel_rfl) (by kernel_rfl) (by kernel_rfl) (fun _ _ _ h => h) (.inl ⟨by rfl, fun W1 h1 => by go_simp⟩) hW ?_
  try simp only [Act.put, List.setIfInBounds_toArray, List.set_cons_zero, List.set_cons_succ]
  refine wpAnyH_take (i := 29) (oi := ⟨some 32, _, _, _, _, _⟩) (v := .pointer (some ⟨w.heap.size, 0, none⟩)) rfl (by kernel_rfl) (by kernel_rfl) (by kernel_rfl) (fun _ _ _ h => h) (.inl ⟨by rfl, fun W1 h1 => by go_simp⟩) hW ?_
  try simp only [Act.put, List.setIfInBounds_toArray, List.set_cons_zero, List.set_cons_succ]
  refine wpAnyH_take (i := 30) (oi := ⟨some 33, _, _, _, _, _⟩) (v := .int .i64 p.at_) rfl (by kernel_rfl) (by kernel_rfl) (by kernel_rfl) (fun _ _ _ h => h) (.inl ⟨by rfl, fun W1 h1 => by (have x0 : W1.cell? ⟨w.heap.size, 0, none⟩ = some (.int .i64 p.at_) := (by rw [cell_of_row W1 _ 0 cs 56 (0, 0) h1.1]; exact HP.out.c0)); go_simp⟩) hW ?_
  try simp only [Act.put, List.setIfInBounds_toArray, List.set_cons_zero, List.set_cons_succ]
  refine wpAnyH_take (i := 31) (oi := ⟨some 34, _, _, _, _, _⟩) rfl (by kernel_rfl) (by kernel_rfl) (by kernel_rfl) (fun _ _ _ h => h) (yieldsIf_load_row (by rfl) 56 _ rfl w.heap.size rfl 56 cs (0, 0) _ (fun _ h => h.1) Try.underlying56 rfl hi) hW ?_
  try simp only [Act.put, List.setIfInBounds_toArray, List.set_cons_zero, List.set_cons_succ]
  refine wpAnyH_ready (rs := [32]) (by kernel_rfl) (by simp) (AllReadyH.cons rfl (fun K1 hK1 => ?_) AllReadyH.nil)
  go_simp
  refine (HS.out _).mono ?_
  rintro e w1 ⟨rfl, b1⟩
  refine hK1.out _ _ (⟨blk_below hW.1 b1, hW.2.1.trans (b1.mono hW.2.1.size), Nat.lt_of_lt_of_le hW.2.2 b1.size⟩) (fun hW1 => ?_)
  try simp only [Act.put, List.setIfInBounds_toArray, List.set_cons_zero, List.set_cons_succ]
  refine wpAnyH_take (i := 33) (oi := ⟨some 36, _, _, _, _, _⟩) (v := .int .i64 (p.at_ + sc)) rfl (by kernel_rfl) (by kernel_rfl) (by kernel_rfl) (fun _ _ _ h => h) (.inl ⟨by rfl, fun W1 h1 => by (have hw : IntKind.i64.wrap (p.at_ + sc) = p.at_ + sc := (by rw [IntKind.wrap_i64]; omega)); go_simp⟩) hW1 ?_
  try simp only [Act.put, List.setIfInBounds_toArray, List.set_cons_zero, List.set_cons_succ]
  refine wpAnyH_take (i := 34) (oi := ⟨some 37, _, _, _, _, _⟩) (v := .bool false) rfl (by kernel_rfl) (by kernel_rfl) (by kernel_rfl) (fun _ _ _ h => h) (.inl ⟨by rfl, fun W1 h1 => by go_simp⟩) hW1 ?_
  try simp only [Act.put, List.setIfInBounds_toArray, List.set_cons_zero, List.set_cons_succ]
  refine wpAnyH_take (i := 35) (oi := ⟨some 38, _, _, _, _, _⟩) (v := .bool false) rfl (by kernel_rfl) (by kernel_rfl) (by kernel_rfl) (fun _ _ _ h => h) (.inl ⟨by rfl, fun W1 h1 => by go_simp⟩) hW1 ?_
  try simp only [Act.put, List.setIfInBounds_toArray, List.set_cons_zero, List.set_cons_succ]
  refine wpAnyH_take (i := 36) (oi := ⟨some 2, _, _, _, _, _⟩) (v := .bool false) rfl (by kernel_rfl) (by kernel_rfl) (by kernel_rfl) (fun _ _ _ h => h) (.inl ⟨by rfl, fun W1 h1 => by go_simp⟩) hW1 ?_
  try simp only [Act.put, List.setIfInBounds_toArray, List.set_cons_zero, List.set_cons_succ]
  refine wpAnyH_done (by kernel_rfl) ?_ _
  have HB := Aside0.mk hW1.2.1
  clear HB0 G0 hs
  go_wp2
  go_ret
  exact ⟨rfl, HB.out⟩

set_option maxHeartbeats 2000000 in
set_option maxRecDepth 100000 in
theorem right_7 (cs : Array Value) (p : Ptr) (hp : PC cs p) (c0 : 1 ≤ p.birth) (c1 : p.birth ≤ 1152921504606846976) (c2 : 1 ≤ p.len) (c3 : p.len ≤ 65536) (c4 : 2 ≤ p.at_) (c5 : p.at_ ≤ 8192) (c6 : p.at_ + sect p.len ≤ 8192) (w : World) : Calls Try.prog 67 #[.agg cs] w fun e w' => e = .returned (.bool true) ∧ Below w.heap.size w w' := by
  have hi : (Try.prog.info? 56).map (·.size) = some cs.size := by rw [hp.size]; kernel_rfl
  have G0 := Aside0.mk (blk_new w (.cells cs 56))
  have HB0 := Aside0.mk (below_alloc (Below.refl w.heap.size w) (.cells cs 56))
  have hs : w.heap.size < (w.alloc (.cells cs 56)).heap.size := by simp
  have HP := Aside0.mk hp
  have HS := Aside0.mk (fun W => rsectors_calls cs p hp W)
  have hsb := sect_bound p.len
  generalize sect p.len = sc at *
  go_enter Try.func67, Try.ntmps67
  go_wp2_with fail
  generalize (w.alloc (.cells cs 56)) = W at *
  refine wp_region_held_drew (S := fun w' => w'.heap[w.heap.size]? = some (.cells cs 56 (0, 0)) ∧ Below w.heap.size w w' ∧ w.heap.size < w'.heap.size) (by kernel_rfl) ⟨G0.out, below_drew HB0.out, hs⟩ (fun hW => ?_)
  refine wpAnyH_take (i := 0) (oi := ⟨some 3, _, _, _, _, _⟩) (v := .pointer (some ⟨w.heap.size, 1, none⟩)) rfl (by kernel_rfl) (by kernel_rfl) (by kernel_rfl) (fun _ _ _ h => h) (.inl ⟨by rfl, fun W1 h1 => by go_simp⟩) hW ?_
  try simp only [Act.put, List.setIfInBounds_toArray, List.set_cons_zero, List.set_cons_succ]
  refine wpAnyH_take (i := 1) (oi := ⟨some 4, _, _, _, _, _⟩) (v := .int .i64 p.birth) rfl (by kernel_rfl) (by kernel_rfl) (by kernel_rfl) (fun _ _ _ h => h) (.inl ⟨by rfl, fun W1 h1 => by (have x0 : W1.cell? ⟨w.heap.size, 1, none⟩ = some (.int .i64 p.birth) := (by rw [cell_of_row W1 _ 1 cs 56 (0, 0) h1.1]; exact HP.out.c1)); go_simp⟩) hW ?_
  try simp only [Act.put, List.setIfInBounds_toArray, List.set_cons_zero, List.set_cons_succ]
  refine wpAnyH_take (i := 2) (oi := ⟨some 5, _, _, _, _, _⟩) (v := .bool true) rfl (by kernel_rfl) (by kernel_rfl) (by kernel_rfl) (fun _ _ _ h => h) (.inl ⟨by rfl, fun W1 h1 => by go_simp⟩) hW ?_
  try simp only [Act.put, List.setIfInBounds_toArray, List.set_cons_zero, List.set_cons_succ]
  refine wpAnyH_take (i := 3) (oi := ⟨some 6, _, _, _, _, _⟩) (v := .bool true) rfl (by kernel_rfl) (by kernel_rfl) (by kernel_rfl) (fun _ _ _ h => h) (.inl ⟨by rfl, fun W1 h1 => by go_simp⟩) hW ?_
  try simp only [Act.put, List.setIfInBounds_toArray, List.set_cons_zero, List.set_cons_succ]
  refine wpAnyH_take (i := 4) (oi := ⟨some 7, _, _, _, _, _⟩) (v := .pointer (some ⟨w.heap.size, 1, none⟩)) rfl (by kernel_rfl) (by kernel_rfl) (by kernel_rfl) (fun _ _ _ h => h) (.inl ⟨by rfl, fun W1 h1 => by go_simp⟩) hW ?_
  try simp only [Act.put, List.setIfInBounds_toArray, List.set_cons_zero, List.set_cons_succ]
  refine wpAnyH_take (i := 5) (oi := ⟨some 8, _, _, _, _, _⟩) (v := .int .i64 p.birth) rfl (by kernel_rfl) (by kernel_rfl) (by kernel_rfl) (fun _ _ _ h => h) (.inl ⟨by rfl, fun W1 h1 => by (have x0 : W1.cell? ⟨w.heap.size, 1, none⟩ = some (.int .i64 p.birth) := (by rw [cell_of_row W1 _ 1 cs 56 (0, 0) h1.1]; exact HP.out.c1)); go_simp⟩) hW ?_
  try simp only [Act.put, List.setIfInBounds_toArray, List.set_cons_zero, List.set_cons_succ]
  refine wpAnyH_take (i := 6) (oi := ⟨some 9, _, _, _, _, _⟩) (v := .bool true) rfl (by kernel_rfl) (by kernel_rfl) (by kernel_rfl) (fun _ _ _ h => h) (.inl ⟨by rfl, fun W1 h1 => by go_simp⟩) hW ?_
  try simp only [Act.put, List.setIfInBounds_toArray, List.set_cons_zero, List.set_cons_succ]
  refine wpAnyH_take (i := 7) (oi := ⟨some 10, _, _, _, _, _⟩) (v := .bool true) rfl (by kernel_rfl) (by kernel_rfl) (by kernel_rfl) (fun _ _ _ h => h) (.inl ⟨by rfl, fun W1 h1 => by go_simp⟩) hW ?_
  try simp only [Act.put, List.setIfInBounds_toArray, List.set_cons_zero, List.set_cons_succ]
  refine wpAnyH_take (i := 8) (oi := ⟨some 11, _, _, _, _, _⟩) (v := .bool true) rfl (by kernel_rfl) (by kernel_rfl) (by kernel_rfl) (fun _ _ _ h => h) (.inl ⟨by rfl, fun W1 h1 => by go_simp⟩) hW ?_
  try simp only [Act.put, List.setIfInBounds_toArray, List.set_cons_zero, List.set_cons_succ]
  refine wpAnyH_take (i := 9) (oi := ⟨some 12, _, _, _, _, _⟩) (v := .pointer (some ⟨w.heap.size, 2, none⟩)) rfl (by kernel_rfl) (by kernel_rfl) (by kernel_rfl) (fun _ _ _ h => h) (.inl ⟨by rfl, fun W1 h1 => by go_simp⟩) hW ?_
  try simp only [Act.put, List.setIfInBounds_toArray, List.set_cons_zero, List.set_cons_succ]
  refine wpAnyH_take (i := 10) (oi := ⟨some 13, _, _, _, _, _⟩) (v := .int .i64 p.len) rfl (by kernel_rfl) (by kernel_rfl) (by kernel_rfl) (fun _ _ _ h => h) (.inl ⟨by rfl, fun W1 h1 => by (have x0 : W1.cell? ⟨w.heap.size, 2, none⟩ = some (.int .i64 p.len) := (by rw [cell_of_row W1 _ 2 cs 56 (0, 0) h1.1]; exact HP.out.c2)); go_simp⟩) hW ?_
  try simp only [Act.put, List.setIfInBounds_toArray, List.set_cons_zero, List.set_cons_succ]
  refine wpAnyH_take (i := 11) (oi := ⟨some 14, _, _, _, _, _⟩) (v := .bool true) rfl (by kernel_rfl) (by kernel_rfl) (by kernel_rfl) (fun _ _ _ h => h) (.inl ⟨by rfl, fun W1 h1 => by go_simp⟩) hW ?_
  try simp only [Act.put, List.setIfInBounds_toArray, List.set_cons_zero, List.set_cons_succ]
  refine wpAnyH_take (i := 12) (oi := ⟨some 15, _, _, _, _, _⟩) (v := .bool true) rfl (by kernel_rfl) (by kernel_rfl) (by kernel_rfl) (fun _ _ _ h => h) (.inl ⟨by rfl, fun W1 h1 => by go_simp⟩) hW ?_
  try simp only [Act.put, List.setIfInBounds_toArray, List.set_cons_zero, List.set_cons_succ]
  refine wpAnyH_take (i := 13) (oi := ⟨some 16, _, _, _, _, _⟩) (v := .bool true) rfl (by kernel_rfl) (by kernel_rfl) (by kernel_rfl) (fun _ _ _ h => h) (.inl ⟨by rfl, fun W1 h1 => by go_simp⟩) hW ?_
  try simp only [Act.put, List.setIfInBounds_toArray, List.set_cons_zero, List.set_cons_succ]
  refine wpAnyH_take (i := 14) (oi := ⟨some 17, _, _, _, _, _⟩) (v := .pointer (some ⟨w.heap.size, 2, none⟩)) rfl (by kernel_rfl) (by kernel_rfl) (by kernel_rfl) (fun _ _ _ h => h) (.inl ⟨by rfl, fun W1 h1 => by go_simp⟩) hW ?_
  try simp only [Act.put, List.setIfInBounds_toArray, List.set_cons_zero, List.set_cons_succ]
  refine wpAnyH_take (i := 15) (oi := ⟨some 18, _, _, _, _, _⟩) (v := .int .i64 p.len) rfl (by kernel_rfl) (by kernel_rfl) (by kernel_rfl) (fun _ _ _ h => h) (.inl ⟨by rfl, fun W1 h1 => by (have x0 : W1.cell? ⟨w.heap.size, 2, none⟩ = some (.int .i64 p.len) := (by rw [cell_of_row W1 _ 2 cs 56 (0, 0) h1.1]; exact HP.out.c2)); go_simp⟩) hW ?_
  try simp only [Act.put, List.setIfInBounds_toArray, List.set_cons_zero, List.set_cons_succ]
  refine wpAnyH_take (i := 16) (oi := ⟨some 19, _, _, _, _, _⟩) (v := .bool true) rfl (by kernel_rfl) (by kernel_rfl) (by kernel_rfl) (fun _ _ _ h => h) (.inl ⟨by rfl, fun W1 h1 => by go_simp⟩) hW ?_
  try simp only [Act.put, List.setIfInBounds_toArray, List.set_cons_zero, List.set_cons_succ]
  refine wpAnyH_take (i := 17) (oi := ⟨some 20, _, _, _, _, _⟩) (v := .bool true) rfl (by kernel_rfl) (by kernel_rfl) (by kernel_rfl) (fun _ _ _ h => h) (.inl ⟨by rfl, fun W1 h1 => by go_simp⟩) hW ?_
  try simp only [Act.put, List.setIfInBounds_toArray, List.set_cons_zero, List.set_cons_succ]
  refine wpAnyH_take (i := 18) (oi := ⟨some 21, _, _, _, _, _⟩) (v := .bool true) rfl (by kernel_rfl) (by kernel_rfl) (by kernel_rfl) (fun _ _ _ h => h) (.inl ⟨by rfl, fun W1 h1 => by go_simp⟩) hW ?_
  try simp only [Act.put, List.setIfInBounds_toArray, List.set_cons_zero, List.set_cons_succ]
  refine wpAnyH_take (i := 19) (oi := ⟨some 22, _, _, _, _, _⟩) (v := .pointer (some ⟨w.heap.size, 0, none⟩)) rfl (by kernel_rfl) (by kernel_rfl) (by kernel_rfl) (fun _ _ _ h => h) (.inl ⟨by rfl, fun W1 h1 => by go_simp⟩) hW ?_
  try simp only [Act.put, List.setIfInBounds_toArray, List.set_cons_zero, List.set_cons_succ]
  refine wpAnyH_take (i := 20) (oi := ⟨some 23, _, _, _, _, _⟩) (v := .int .i64 p.at_) rfl (by kernel_rfl) (by kernel_rfl) (by kernel_rfl) (fun _ _ _ h => h) (.inl ⟨by rfl, fun W1 h1 => by (have x0 : W1.cell? ⟨w.heap.size, 0, none⟩ = some (.int .i64 p.at_) := (by rw [cell_of_row W1 _ 0 cs 56 (0, 0) h1.1]; exact HP.out.c0)); go_simp⟩) hW ?_
  try simp only [Act.put, List.setIfInBounds_toArray, List.set_cons_zero, List.set_cons_succ]
  refine wpAnyH_take (i := 21) (oi := ⟨some 24, _, _, _, _, _⟩) (v := .bool true) rfl (by kernel_rfl) (by kernel_rfl) (by kernel_rfl) (fun _ _ _ h => h) (.inl ⟨by rfl, fun W1 h1 => by go_simp⟩) hW ?_
  try simp only [Act.put, List.setIfInBounds_toArray, List.set_cons_zero, List.set_cons_succ]
  refine wpAnyH_take (i := 22) (oi := ⟨some 25, _, _, _, _, _⟩) (v := .bool true) rfl (by kernel_rfl) (by kernel_rfl) (by kernel_rfl) (fun _ _ _ h => h) (.inl ⟨by rfl, fun W1 h1 => by go_simp⟩) hW ?_
  try simp only [Act.put, List.setIfInBounds_toArray, List.set_cons_zero, List.set_cons_succ]
  refine wpAnyH_take (i := 23) (oi := ⟨some 26, _, _, _, _, _⟩) (v := .bool true) rfl (by kernel_rfl) (by kernel_rfl) (by kernel_rfl) (fun _ _ _ h => h) (.inl ⟨by rfl, fun W1 h1 => by go_simp⟩) hW ?_
  try simp only [Act.put, List.setIfInBounds_toArray, List.set_cons_zero, List.set_cons_succ]
  refine wpAnyH_take (i := 24) (oi := ⟨some 27, _, _, _, _, _⟩) (v := .pointer (some ⟨w.heap.size, 0, none⟩)) rfl (by kernel_rfl) (by kernel_rfl) (by kernel_rfl) (fun _ _ _ h => h) (.inl ⟨by rfl, fun W1 h1 => by go_simp⟩) hW ?_
  try simp only [Act.put, List.setIfInBounds_toArray, List.set_cons_zero, List.set_cons_succ]
  refine wpAnyH_take (i := 25) (oi := ⟨some 28, _, _, _, _, _⟩) (v := .int .i64 p.at_) rfl (by kernel_rfl) (by kernel_rfl) (by kernel_rfl) (fun _ _ _ h => h) (.inl ⟨by rfl, fun W1 h1 => by (have x0 : W1.cell? ⟨w.heap.size, 0, none⟩ = some (.int .i64 p.at_) := (by rw [cell_of_row W1 _ 0 cs 56 (0, 0) h1.1]; exact HP.out.c0)); go_simp⟩) hW ?_
  try simp only [Act.put, List.setIfInBounds_toArray, List.set_cons_zero, List.set_cons_succ]
  refine wpAnyH_take (i := 26) (oi := ⟨some 29, _, _, _, _, _⟩) (v := .bool true) rfl (by kernel_rfl) (by kernel_rfl) (by kernel_rfl) (fun _ _ _ h => h) (.inl ⟨by rfl, fun W1 h1 => by go_simp⟩) hW ?_
  try simp only [Act.put, List.setIfInBounds_toArray, List.set_cons_zero, List.set_cons_succ]
  refine wpAnyH_take (i := 27) (oi := ⟨some 30, _, _, _, _, _⟩) (v := .bool true) rfl (by kernel_rfl) (by kernel_rfl) (by kernel_rfl) (fun _ _ _ h => h) (.inl ⟨by rfl, fun W1 h1 => by go_simp⟩) hW ?_
  try simp only [Act.put, List.setIfInBounds_toArray, List.set_cons_zero, List.set_cons_succ]
  refine wpAnyH_take (i := 28) (oi := ⟨some 31, _, _, _, _, _⟩) (v := .bool true) rfl (by kernel_rfl) (by kernel_rfl) (by kernel_rfl) (fun _ _ _ h => h) (.inl ⟨by rfl, fun W1 h1 => by go_simp⟩) hW ?_
  try simp only [Act.put, List.setIfInBounds_toArray, List.set_cons_zero, List.set_cons_succ]
  refine wpAnyH_take (i := 29) (oi := ⟨some 32, _, _, _, _, _⟩) (v := .pointer (some ⟨w.heap.size, 0, none⟩)) rfl (by kernel_rfl) (by kernel_rfl) (by kernel_rfl) (fun _ _ _ h => h) (.inl ⟨by rfl, fun W1 h1 => by go_simp⟩) hW ?_
  try simp only [Act.put, List.setIfInBounds_toArray, List.set_cons_zero, List.set_cons_succ]
  refine wpAnyH_take (i := 30) (oi := ⟨some 33, _, _, _, _, _⟩) (v := .int .i64 p.at_) rfl (by kernel_rfl) (by kernel_rfl) (by kernel_rfl) (fun _ _ _ h => h) (.inl ⟨by rfl, fun W1 h1 => by (have x0 : W1.cell? ⟨w.heap.size, 0, none⟩ = some (.int .i64 p.at_) := (by rw [cell_of_row W1 _ 0 cs 56 (0, 0) h1.1]; exact HP.out.c0)); go_simp⟩) hW ?_
  try simp only [Act.put, List.setIfInBounds_toArray, List.set_cons_zero, List.set_cons_succ]
  refine wpAnyH_take (i := 31) (oi := ⟨some 34, _, _, _, _, _⟩) rfl (by kernel_rfl) (by kernel_rfl) (by kernel_rfl) (fun _ _ _ h => h) (yieldsIf_load_row (by rfl) 56 _ rfl w.heap.size rfl 56 cs (0, 0) _ (fun _ h => h.1) Try.underlying56 rfl hi) hW ?_
  try simp only [Act.put, List.setIfInBounds_toArray, List.set_cons_zero, List.set_cons_succ]
  refine wpAnyH_ready (rs := [32]) (by kernel_rfl) (by simp) (AllReadyH.cons rfl (fun K1 hK1 => ?_) AllReadyH.nil)
  go_simp
  refine (HS.out _).mono ?_
  rintro e w1 ⟨rfl, b1⟩
  refine hK1.out _ _ (⟨blk_below hW.1 b1, hW.2.1.trans (b1.mono hW.2.1.size), Nat.lt_of_lt_of_le hW.2.2 b1.size⟩) (fun hW1 => ?_)
  try simp only [Act.put, List.setIfInBounds_toArray, List.set_cons_zero, List.set_cons_succ]
  refine wpAnyH_take (i := 33) (oi := ⟨some 36, _, _, _, _, _⟩) (v := .int .i64 (p.at_ + sc)) rfl (by kernel_rfl) (by kernel_rfl) (by kernel_rfl) (fun _ _ _ h => h) (.inl ⟨by rfl, fun W1 h1 => by (have hw : IntKind.i64.wrap (p.at_ + sc) = p.at_ + sc := (by rw [IntKind.wrap_i64]; omega)); go_simp⟩) hW1 ?_
  try simp only [Act.put, List.setIfInBounds_toArray, List.set_cons_zero, List.set_cons_succ]
  refine wpAnyH_take (i := 34) (oi := ⟨some 37, _, _, _, _, _⟩) (v := .bool true) rfl (by kernel_rfl) (by kernel_rfl) (by kernel_rfl) (fun _ _ _ h => h) (.inl ⟨by rfl, fun W1 h1 => by go_simp⟩) hW1 ?_
  try simp only [Act.put, List.setIfInBounds_toArray, List.set_cons_zero, List.set_cons_succ]
  refine wpAnyH_take (i := 35) (oi := ⟨some 38, _, _, _, _, _⟩) (v := .bool true) rfl (by kernel_rfl) (by kernel_rfl) (by kernel_rfl) (fun _ _ _ h => h) (.inl ⟨by rfl, fun W1 h1 => by go_simp⟩) hW1 ?_
  try simp only [Act.put, List.setIfInBounds_toArray, List.set_cons_zero, List.set_cons_succ]
  refine wpAnyH_take (i := 36) (oi := ⟨some 2, _, _, _, _, _⟩) (v := .bool true) rfl (by kernel_rfl) (by kernel_rfl) (by kernel_rfl) (fun _ _ _ h => h) (.inl ⟨by rfl, fun W1 h1 => by go_simp⟩) hW1 ?_
  try simp only [Act.put, List.setIfInBounds_toArray, List.set_cons_zero, List.set_cons_succ]
  refine wpAnyH_done (by kernel_rfl) ?_ _
  have HB := Aside0.mk hW1.2.1
  clear HB0 G0 hs
  go_wp2
  go_ret
  exact ⟨rfl, HB.out⟩

theorem rright_calls (cs : Array Value) (p : Ptr) (hp : PC cs p) (w : World) : Calls Try.prog 67 #[.agg cs] w fun e w' => e = .returned (.bool (rightB p)) ∧ Below w.heap.size w w' := by
  have hsb := sect_bound p.len
  have hsl : 0 < sect p.len ↔ 1 ≤ p.len ∧ p.len ≤ 65536 := by unfold sect; split <;> omega
  by_cases c0 : 1 ≤ p.birth
  · skip
    by_cases c1 : p.birth ≤ 1152921504606846976
    · skip
      by_cases c2 : 1 ≤ p.len
      · skip
        by_cases c3 : p.len ≤ 65536
        · skip
          by_cases c4 : 2 ≤ p.at_
          · skip
            by_cases c5 : p.at_ ≤ 8192
            · skip
              by_cases c6 : p.at_ + sect p.len ≤ 8192
              · skip
                rw [rightB_yes ⟨c0, c1, hsl.2 ⟨c2, c3⟩, c4, by omega⟩]
                exact right_7 cs p hp c0 c1 c2 c3 c4 c5 c6 w
              · rw [rightB_no (fun h => by have h3 := h.1; have h4 := h.2.1; have h5 := hsl.1 h.2.2.1; have h6 := h.2.2.2.1; have h7 := h.2.2.2.2; omega)]
                exact right_6 cs p hp c0 c1 c2 c3 c4 c5 (by omega) w
            · rw [rightB_no (fun h => by have h3 := h.1; have h4 := h.2.1; have h5 := hsl.1 h.2.2.1; have h6 := h.2.2.2.1; have h7 := h.2.2.2.2; omega)]
              exact right_5 cs p hp c0 c1 c2 c3 c4 (by omega) w
          · rw [rightB_no (fun h => by have h3 := h.1; have h4 := h.2.1; have h5 := hsl.1 h.2.2.1; have h6 := h.2.2.2.1; have h7 := h.2.2.2.2; omega)]
            exact right_4 cs p hp c0 c1 c2 c3 (by omega) w
        · rw [rightB_no (fun h => by have h3 := h.1; have h4 := h.2.1; have h5 := hsl.1 h.2.2.1; have h6 := h.2.2.2.1; have h7 := h.2.2.2.2; omega)]
          exact right_3 cs p hp c0 c1 c2 (by omega) w
      · rw [rightB_no (fun h => by have h3 := h.1; have h4 := h.2.1; have h5 := hsl.1 h.2.2.1; have h6 := h.2.2.2.1; have h7 := h.2.2.2.2; omega)]
        exact right_2 cs p hp c0 c1 (by omega) w
    · rw [rightB_no (fun h => by have h3 := h.1; have h4 := h.2.1; have h5 := hsl.1 h.2.2.1; have h6 := h.2.2.2.1; have h7 := h.2.2.2.2; omega)]
      exact right_1 cs p hp c0 (by omega) w
  · rw [rightB_no (fun h => by have h3 := h.1; have h4 := h.2.1; have h5 := hsl.1 h.2.2.1; have h6 := h.2.2.2.1; have h7 := h.2.2.2.2; omega)]
    exact right_0 cs p hp (by omega) w
end Go.Proofs.Ytfefpbnhpncmlaa.PtrC
/- The document's Fixed: a contract. -/
namespace Go.Proofs.Ytfefpbnhpncmlaa.RefA
open Go.RowKit Go.Proofs.Ytfefpbnhpncmlaa.B8 Go.Proofs.Ytfefpbnhpncmlaa.CodL Go.Proofs.Ytfefpbnhpncmlaa.CodA Go.Proofs.Ytfefpbnhpncmlaa.CodB Go.Proofs.Ytfefpbnhpncmlaa.PBaseSigns Go.Proofs.YtfefpbnhpncmlaaW.PrintWords Go.Proofs.YtfefpbnhpncmlaaW.PrintLast Go.Proofs.YtfefpbnhpncmlaaW.PrintMore
attribute [local go_sem] max2_int min2_int max_two min_two
set_option linter.unusedVariables false
set_option linter.unusedSimpArgs false

set_option maxRecDepth 100000 in
set_option maxHeartbeats 1000000 in
theorem rfixed_calls (A : Option Addr) (c : Nat) (l : List Int) (size : Nat) (x : Int) (w : World) (hr : C8 w A l.length l) (hm : l.length ≤ 1000000) (h1 : 1 ≤ size) (h8 : size ≤ 8) (hx0 : 0 ≤ x) (hx1 : x < 18446744073709551616) :
    Calls Try.prog 93 #[.slice A l.length c, .int .i64 (size : Int), .int .u64 x] w (Tells w (l ++ fixedL size x)) := by
  have HR := Aside0.mk (Kd.C_below hr (below_alloc (Below.refl w.heap.size w) (.cells #[] 5)))
  have HO := Aside0.mk (R8_new w w.heap.size (Nat.le_refl _) [] (by simp))
  have HB := Aside0.mk (below_alloc (Below.refl w.heap.size w) (.cells #[] 5))
  have hs : w.heap.size ≤ (w.alloc (.cells #[] 5)).heap.size := by simp
  clear hr
  go_enter Try.func93, Try.ntmps93
  go_wp2_with (at_builtin; refine appRow (w0 := w) w.heap.size rfl (.tmp 9) (.tmp 10) rfl _ [] l A l.length c rfl rfl HO.out HR.out HB.out hs (by simp; omega) ?_; intro v1 w1 ho hb hgr; have HO1 := Aside0.mk ho; have HB1 := Aside0.mk hb; clear ho hb hgr)
  clear HO HR HB hs
  go_loopw [2, 7, 8] (fun v2 v7 v8 wr => ∃ (j : Nat) (y : Int) (o2 : List Int), v2 = .int .u64 y ∧ y = x / 256 ^ j ∧ v8 = .int .i64 (j : Int) ∧ j ≤ size ∧ Aside0 (o2 = l ++ fixedL j x) ∧ Aside0 (R8 wr w.heap.size v7 o2) ∧ Aside0 (Below w.heap.size w wr)) (fun _ _ v _ => size - (intOf v).toNat)
  case atStart => exact ⟨0, x, l, rfl, by simp, rfl, Nat.zero_le _, ⟨by simp [fixedL]⟩, HO1, HB1⟩
  case round =>
    obtain ⟨j, y, o2, rfl, hy, rfl, hj, he2, HO2, HB2⟩ := hrel
    clear HO1 HB1
    have HY := Aside0.mk hy
    have hy0 : 0 ≤ y := by rw [hy]; exact Int.ediv_nonneg hx0 (Int.le_of_lt (Int.pow_pos (by decide)))
    have hy1 : y < 18446744073709551616 := by
      rw [hy]
      exact Int.lt_of_le_of_lt (Int.ediv_le_self _ hx0) hx1
    clear hy
    have hlen2 : o2.length ≤ 1000040 := by rw [he2.out, List.length_append, fixedL_len]; omega
    have hs := HB2.out.size
    have hj8 : ((j : Int) ≤ 8) = True := by simp; omega
    by_cases hjl : j < size
    · go_wp2_with (at_builtin; refine app1 (w0 := w) w.heap.size rfl (.tmp 21) (.tmp 25) rfl _ o2 _ rfl rfl HO2.out HB2.out hs (by omega) ?_; intro v2 w2 ho hb; have HO3 := Aside0.mk ho; have HB3 := Aside0.mk hb; clear ho hb)
      go_roundw
      case rel => exact ⟨j + 1, y / 256, _, rfl, by rw [HY.out, Int.ediv_ediv_of_nonneg (by exact Int.le_of_lt (Int.pow_pos (by decide))), Int.pow_succ], by go_num, by omega, ⟨by rw [he2.out, List.append_assoc, fixedL_succ, ← HY.out]⟩, HO3, HB3⟩
      case measure => simp [intOf]; omega
    · obtain rfl : j = size := by omega
      go_wp2
      go_ret
      exact ⟨_, rfl, by have := he2.out; rw [← this]; exact HO2.out, HB2.out⟩
end Go.Proofs.Ytfefpbnhpncmlaa.RefA
/- The document's Short: a contract. -/
namespace Go.Proofs.Ytfefpbnhpncmlaa.RefB
open Go.RowKit Go.Proofs.Ytfefpbnhpncmlaa.B8 Go.Proofs.Ytfefpbnhpncmlaa.CodL Go.Proofs.Ytfefpbnhpncmlaa.CodA Go.Proofs.Ytfefpbnhpncmlaa.CodB Go.Proofs.Ytfefpbnhpncmlaa.PBaseSigns Go.Proofs.YtfefpbnhpncmlaaW.PrintWords Go.Proofs.YtfefpbnhpncmlaaW.PrintLast Go.Proofs.YtfefpbnhpncmlaaW.PrintMore
attribute [local go_sem] max2_int min2_int max_two min_two
set_option linter.unusedVariables false
set_option linter.unusedSimpArgs false

set_option maxRecDepth 100000 in
set_option maxHeartbeats 1000000 in
theorem rshort_calls (A : Option Addr) (c : Nat) (l : List Int) (n : Nat) (w : World) (hr : C8 w A l.length l) (hm : l.length ≤ 1000000) (hn : n < 18446744073709551616) :
    Calls Try.prog 58 #[.slice A l.length c, .int .u64 (n : Int)] w (Tells w (l ++ shortL n)) := by
  have HR := Aside0.mk (Kd.C_below hr (below_alloc (Below.refl w.heap.size w) (.cells #[] 5)))
  have HO := Aside0.mk (R8_new w w.heap.size (Nat.le_refl _) [] (by simp))
  have HB := Aside0.mk (below_alloc (Below.refl w.heap.size w) (.cells #[] 5))
  have hs : w.heap.size ≤ (w.alloc (.cells #[] 5)).heap.size := by simp
  obtain ⟨L, hL⟩ : ∃ L, L = l ++ shortL n := ⟨_, rfl⟩
  have hLl : L.length ≤ 1000010 := by
    rw [hL, List.length_append]
    have := glen_ten hn
    unfold glen at this
    omega
  rw [← hL]
  have HL := Aside0.mk hL
  clear hr hL
  go_enter Try.func58, Try.ntmps58
  go_wp2_with (at_builtin; refine appRow (w0 := w) w.heap.size rfl (.tmp 6) (.tmp 7) rfl _ [] l A l.length c rfl rfl HO.out HR.out HB.out hs (by simp; omega) ?_; intro v1 w1 ho hb hgr; have HO1 := Aside0.mk ho; have HB1 := Aside0.mk hb; clear ho hb hgr)
  clear HO HR HB hs
  go_loopw [1, 5] (fun v1 v5 wr => ∃ (m : Nat) (o2 : List Int), v1 = .int .u64 (m : Int) ∧ m ≤ n ∧ Aside0 (o2 ++ shortL m = L) ∧ Aside0 (R8 wr w.heap.size v5 o2) ∧ Aside0 (Below w.heap.size w wr)) (fun v _ _ => (intOf v).toNat)
  case atStart => exact ⟨n, l, rfl, Nat.le_refl _, ⟨HL.out.symm⟩, HO1, HB1⟩
  case round =>
    obtain ⟨m, o2, rfl, hmn, he2, HO2, HB2⟩ := hrel
    clear HO1 HB1
    have hlen2 : o2.length ≤ 1000010 := by
      have := congrArg List.length he2.out
      rw [List.length_append] at this
      omega
    have hs := HB2.out.size
    by_cases hjl : m < 128
    · have hge : ((m : Int) ≥ 128) = False := by simp; omega
      go_wp2_with (at_builtin; refine app1 (w0 := w) w.heap.size rfl (.tmp 20) (.tmp 23) rfl _ o2 _ rfl rfl HO2.out HB2.out hs (by omega) ?_; intro v2 w2 ho hb; have HO3 := Aside0.mk ho; have HB3 := Aside0.mk hb; clear ho hb)
      go_ret
      exact ⟨_, rfl, by have := he2.out; rw [shortL_small hjl] at this; rw [← this]; exact HO3.out, HB3.out⟩
    · have hge : ((m : Int) ≥ 128) = True := by simp; omega
      go_wp2_with (at_builtin; refine app1 (w0 := w) w.heap.size rfl (.tmp 11) (.tmp 16) rfl _ o2 _ rfl rfl HO2.out HB2.out hs (by omega) ?_; intro v2 w2 ho hb; have HO3 := Aside0.mk ho; have HB3 := Aside0.mk hb; clear ho hb)
      go_roundw
      case rel => exact ⟨m / 128, o2 ++ [((m % 128 + 128 : Nat) : Int)], by go_num, by omega, ⟨by rw [List.append_assoc, List.singleton_append, ← shortL_more hjl]; exact he2.out⟩, HO3, HB3⟩
      case measure => simp [intOf]; omega
end Go.Proofs.Ytfefpbnhpncmlaa.RefB
/- The document's Take: a contract. -/
namespace Go.Proofs.Ytfefpbnhpncmlaa.RefC
open Go.RowKit Go.Proofs.Ytfefpbnhpncmlaa.B8 Go.Proofs.Ytfefpbnhpncmlaa.CodL Go.Proofs.Ytfefpbnhpncmlaa.CodA Go.Proofs.Ytfefpbnhpncmlaa.CodB Go.Proofs.Ytfefpbnhpncmlaa.PBaseSigns Go.Proofs.YtfefpbnhpncmlaaW.PrintWords Go.Proofs.YtfefpbnhpncmlaaW.PrintLast Go.Proofs.YtfefpbnhpncmlaaW.PrintMore
attribute [local go_sem] max2_int min2_int max_two min_two
set_option linter.unusedVariables false
set_option linter.unusedSimpArgs false

theorem drop_step {l : List Int} {j : Nat} (h : j < l.length) : leL (l.drop j) = l.getD j 0 + 256 * leL (l.drop (j + 1)) := by
  rw [List.drop_eq_getElem_cons h]
  simp [leL, List.getD, List.getElem?_eq_getElem h]
set_option maxRecDepth 100000 in
set_option maxHeartbeats 1000000 in
theorem rtake_calls (A : Option Addr) (c : Nat) (l : List Int) (size : Nat) (w : World) (hr : C8 w A l.length l) (hb : Byt l) (hc : l.length ≤ c) (hm : l.length ≤ 1000000) (h1 : 1 ≤ size) (h8 : size ≤ 8) (hs : size ≤ l.length) :
    Calls Try.prog 100 #[.slice A l.length c, .int .i64 (size : Int)] w (TellsTake w (leL (l.take size)) (l.drop size)) := by
  have HR := Aside0.mk hr
  have HBY := Aside0.mk hb
  have hcut2 := cut8_from A l.length c size hs
  have HD := Aside0.mk (C8_drop hr hc hs)
  generalize (if c = size then A else A.map (·.add size)) = A2 at hcut2 HD
  obtain ⟨bq, off, rfl, hbq, hx⟩ := C_at 0 hr (by omega)
  have HX := Aside0.mk hx
  have HT : Aside0 ((l.take size).length = size) := ⟨by rw [List.length_take]; omega⟩
  clear hr hb hx
  have k1 : ((size : Int) < 1) = False := by simp; omega
  have k2 : ((size : Int) > 8) = False := by simp; omega
  have k3 : ((l.length : Int) < (size : Int)) = False := by simp; omega
  go_enter Try.func100, Try.ntmps100
  go_wp2
  go_loop [7, 8] (fun v7 v8 => ∃ (j : Nat) (y : Int), v8 = .int .i64 ((j : Int) - 1) ∧ j ≤ size ∧ v7 = .int .u64 y ∧ Aside0 (y = leL ((l.take size).drop j))) (fun _ v => (intOf v + 1).toNat)
  case atStart => exact ⟨size, 0, by go_num, Nat.le_refl _, rfl, ⟨by rw [List.drop_eq_nil_of_le (by rw [HT.out]; exact Nat.le_refl _)]; rfl⟩⟩
  case round =>
    obtain ⟨j, y, rfl, hj, rfl, hy⟩ := hrel
    rcases j with _ | j
    · have hge : (((0 : Nat) : Int) - 1 ≥ 0) = False := by simp
      have HR2 := Aside0.mk (Kd.C_below HD.out (below_alloc (Below.refl w.heap.size w) (.cells #[] 5)))
      have HO := Aside0.mk (R8_new w w.heap.size (Nat.le_refl _) [] (by simp))
      have HB := Aside0.mk (below_alloc (Below.refl w.heap.size w) (.cells #[] 5))
      have hs2 : w.heap.size ≤ (w.alloc (.cells #[] 5)).heap.size := by simp
      go_wp2_with (at_builtin; refine appRow (w0 := w) w.heap.size rfl (.tmp 36) (.tmp 39) rfl _ [] (l.drop size) A2 (l.length - size) (c - size) rfl rfl HO.out HR2.out HB.out hs2 (by simp; omega) ?_; intro v1 w1 ho hb hgr; have HO1 := Aside0.mk ho; have HB1 := Aside0.mk hb; clear ho hb hgr)
      go_ret3
      have := hy.out
      rw [List.drop_zero] at this
      rw [← this]
      exact ⟨_, rfl, HO1.out, HB1.out⟩
    · have hx0 := HX.out j (by omega)
      have hge : (((j + 1 : Nat) : Int) - 1 ≥ 0) = True := by simp
      have ej : (((j + 1 : Nat) : Int) - 1) = (j : Int) := by omega
      have hbd := HBY.out.getD j
      have hyb := leL_bound ((HBY.out.take size).drop (j + 1))
      rw [List.length_drop, HT.out, ← hy.out] at hyb
      have hp : (256 : Int) ^ (size - (j + 1)) ≤ 72057594037927936 := (pow_le (by omega)).2
      have hstep := drop_step (l := l.take size) (j := j) (by rw [HT.out]; omega)
      rw [← hy.out] at hstep
      have hgd : (l.take size).getD j 0 = l.getD j 0 := by simp [List.getD, List.getElem?_take, show j < size by omega]
      rw [hgd] at hstep
      have HS := Aside0.mk hstep
      clear hstep hgd
      generalize hB : l.getD j 0 = b at *
      have HB := Aside0.mk hB
      clear hB
      have q1 := wraps_u64 (y * 256) (by omega) (by omega)
      have q2 := wraps_u64 (y * 256 + b) (by omega) (by omega)
      rw [ej]
      go_wp2
      go_round
      case rel => exact ⟨j, y * 256 + b, by go_num, by omega, by go_num, ⟨by rw [HS.out]; omega⟩⟩
      case measure => simp [intOf]
end Go.Proofs.Ytfefpbnhpncmlaa.RefC
/- The document's Put of a pointer: a contract. -/
namespace Go.Proofs.Ytfefpbnhpncmlaa.RefD
open Go.RowKit Go.Proofs.Ytfefpbnhpncmlaa.PtrG Go.Proofs.Ytfefpbnhpncmlaa.RefA Go.Proofs.Ytfefpbnhpncmlaa.B8 Go.Proofs.Ytfefpbnhpncmlaa.CodL Go.Proofs.Ytfefpbnhpncmlaa.CodA Go.Proofs.Ytfefpbnhpncmlaa.CodB Go.Proofs.Ytfefpbnhpncmlaa.CatL Go.Proofs.Ytfefpbnhpncmlaa.PtrA Go.Proofs.Ytfefpbnhpncmlaa.PtrB Go.Proofs.Ytfefpbnhpncmlaa.PtrE Go.Proofs.Ytfefpbnhpncmlaa.PtrF Go.Proofs.Ytfefpbnhpncmlaa.PBaseSigns Go.Proofs.YtfefpbnhpncmlaaW.PrintWords Go.Proofs.YtfefpbnhpncmlaaW.PrintLast Go.Proofs.YtfefpbnhpncmlaaW.PrintMore
set_option linter.unusedVariables false
set_option linter.unusedSimpArgs false

theorem rfixed_at (A : Option Addr) (c n : Nat) (l l1 : List Int) (hn : n = l.length) (size : Nat) (x : Int) (w : World) (hl : l1 = l ++ fixedL size x) (hr : C8 w A l.length l) (hm : l.length ≤ 1000000) (h1 : 1 ≤ size) (h8 : size ≤ 8) (hx0 : 0 ≤ x) (hx1 : x < 18446744073709551616) :
    Calls Try.prog 93 #[.slice A n c, .int .i64 (size : Int), .int .u64 x] w (Tells w l1) := by
  subst hn; subst hl
  exact rfixed_calls A c l size x w hr hm h1 h8 hx0 hx1
theorem rfixed_reads (A : Option Addr) (c n : Nat) (l l1 : List Int) (hn : n = l.length) (size : Nat) (x : Int) (w : World) (hl : l1 = l ++ fixedL size x) (hr : C8 w A l.length l) (hm : l.length ≤ 1000000) (h1 : 1 ≤ size) (h8 : size ≤ 8) (hx0 : 0 ≤ x) (hx1 : x < 18446744073709551616) :
    Calls Try.prog 93 #[.slice A n c, .int .i64 (size : Int), .int .u64 x] w (Reads w l1) :=
  (rfixed_at A c n l l1 hn size x w hl hr hm h1 h8 hx0 hx1).mono fun e w' h => Tells.reads h

set_option maxRecDepth 100000 in
set_option maxHeartbeats 1000000 in
theorem rput_calls (A : Option Addr) (c : Nat) (l : List Int) (p : Ptr) (hp : Lays p) (w : World) (hr : C8 w A l.length l) (hm : l.length ≤ 900000) :
    Calls Try.prog 59 #[.slice A l.length c, .agg (encP p)] w (Tells w (l ++ ptrL p)) := by
  have hb := hp.bounds
  have hk := hp.1
  have hc0 := hk.crc0
  have hc1 := hk.crc1
  have hq32 := hk.len
  have g := blk_new w (.cells (encP p) 56)
  have q := pc p hk.len
  have HB0 := Aside0.mk (below_alloc (Below.refl w.heap.size w) (.cells (encP p) 56))
  have HR := Aside0.mk (Kd.C_below hr HB0.out)
  have x0 : (w.alloc (.cells (encP p) 56)).cell? ⟨w.heap.size, 0, none⟩ = some (.int .i64 p.at_) := by rw [cell_of_row _ _ 0 _ 56 (0, 0) g]; exact q.c0
  have w0 := wrap64u p.at_ (by omega) (by omega)
  have w1 := wrap64u p.birth (by omega) (by omega)
  have w2 := wrap64u p.len (by omega) (by omega)
  have w3 := wrap64u p.crc (by omega) (by omega)
  have G := Aside0.mk g
  have Q := Aside0.mk q
  have H32 := Aside0.mk hq32
  have hsz : w.heap.size < (w.alloc (.cells (encP p) 56)).heap.size := by simp
  obtain ⟨L, hL⟩ : ∃ L, L = l ++ ptrL p := ⟨_, rfl⟩
  rw [← hL]
  have HLL := Aside0.mk hL
  clear hr g q hL hk hp hq32
  generalize encP p = cs at *
  obtain ⟨l1, hL1⟩ : ∃ l1, l1 = l ++ fixedL 4 p.at_ := ⟨_, rfl⟩
  obtain ⟨l2, hL2⟩ : ∃ l2, l2 = l1 ++ fixedL 4 p.len := ⟨_, rfl⟩
  obtain ⟨l3, hL3⟩ : ∃ l3, l3 = l2 ++ fixedL 8 p.birth := ⟨_, rfl⟩
  obtain ⟨l4, hL4⟩ : ∃ l4, l4 = l3 ++ fixedL 4 p.crc := ⟨_, rfl⟩
  have hl1 : l1.length = l.length + 4 := by rw [hL1]; simp [fixedL_len]
  have hl2 : l2.length = l.length + 8 := by rw [hL2]; simp [fixedL_len, hl1]
  have hl3 : l3.length = l.length + 16 := by rw [hL3]; simp [fixedL_len, hl2]
  have hl4 : l4.length = l.length + 20 := by rw [hL4]; simp [fixedL_len, hl3]
  have HL := Aside0.mk (And.intro hL1 (And.intro hL2 (And.intro hL3 hL4)))
  have HN := Aside0.mk (And.intro hl1 (And.intro hl2 (And.intro hl3 hl4)))
  clear hL1 hL2 hL3 hL4 hl1 hl2 hl3 hl4
  go_enter Try.func59, Try.ntmps59
  go_wp2_with fail
  refine (rfixed_reads A c l.length l l1 rfl 4 p.at_ (w.alloc (.cells cs 56)) HL.out.1 HR.out (by omega) (by omega) (by omega) (by omega) (by omega)).mono ?_
  rintro e u1 ⟨A1, c1, rfl, hle1, hC1, hb1⟩
  have HB1 := Aside0.mk (below_then HB0.out (by simp) hb1)
  have G1 := Aside0.mk (blk_below G.out hb1)
  have HC1 := Aside0.mk (And.intro hC1 hle1)
  clear hb1 hC1 hle1 HB0 x0 HR G
  have x1 : u1.cell? ⟨w.heap.size, 2, none⟩ = some (.int .i64 p.len) := by rw [cell_of_row _ _ 2 _ 56 (0, 0) G1.out]; exact Q.out.c2
  go_wp2_with fail
  refine (rfixed_reads A1 c1 l1.length l1 l2 rfl 4 p.len u1 HL.out.2.1 HC1.out.1 (by have := HN.out.1; omega) (by omega) (by omega) (by omega) (by omega)).mono ?_
  rintro e u2 ⟨A2, c2, rfl, hle2, hC2, hb2⟩
  have HB2 := Aside0.mk (below_then HB1.out HB1.out.size hb2)
  have G2 := Aside0.mk (blk_below G1.out hb2)
  have HC2 := Aside0.mk (And.intro hC2 hle2)
  clear hb2 hC2 hle2 HB1 x1 HC1 G1
  have x2 : u2.cell? ⟨w.heap.size, 1, none⟩ = some (.int .i64 p.birth) := by rw [cell_of_row _ _ 1 _ 56 (0, 0) G2.out]; exact Q.out.c1
  go_wp2_with fail
  refine (rfixed_reads A2 c2 l2.length l2 l3 rfl 8 p.birth u2 HL.out.2.2.1 HC2.out.1 (by have := HN.out.2.1; omega) (by omega) (by omega) (by omega) (by omega)).mono ?_
  rintro e u3 ⟨A3, c3, rfl, hle3, hC3, hb3⟩
  have HB3 := Aside0.mk (below_then HB2.out HB2.out.size hb3)
  have G3 := Aside0.mk (blk_below G2.out hb3)
  have HC3 := Aside0.mk (And.intro hC3 hle3)
  clear hb3 hC3 hle3 HB2 x2 HC2 G2
  have x3 : u3.cell? ⟨w.heap.size, 3, none⟩ = some (.int .u32 p.crc) := by rw [cell_of_row _ _ 3 _ 56 (0, 0) G3.out]; exact Q.out.c3
  go_wp2_with fail
  refine (rfixed_at A3 c3 l3.length l3 l4 rfl 4 p.crc u3 HL.out.2.2.2 HC3.out.1 (by have := HN.out.2.2.1; omega) (by omega) (by omega) (by omega) (by omega)).mono ?_
  rintro e u4 ⟨v4, rfl, hr4, hb4⟩
  have HB4 := Aside0.mk hb4
  have HO := Aside0.mk hr4
  have hszz := blk_lt G3.out
  clear hb4 hr4 x3 HC3
  go_wp2_with fail
  go_loopw [0, 5] (fun v0 v5 wr => ∃ (j : Nat) (o2 : List Int), v5 = .int .i64 (j : Int) ∧ j ≤ 32 ∧ Aside0 (o2 = l4 ++ p.sha.take j) ∧ Aside0 (R8 wr u3.heap.size v0 o2) ∧ Aside0 (Below u3.heap.size u3 wr)) (fun _ v _ => 32 - (intOf v).toNat)
  case atStart => exact ⟨0, l4, rfl, by decide, ⟨by simp⟩, HO, HB4⟩
  case round =>
    obtain ⟨j, o2, rfl, hj, he2, HO2, HB2⟩ := hrel
    clear HO HB4
    have hlen2 : o2.length ≤ 1000040 := by
      rw [he2.out, List.length_append, List.length_take]
      have := HN.out.2.2.2
      omega
    have hs := HB2.out.size
    by_cases hjl : j < 32
    · have hxj : wr.cell? ⟨w.heap.size, 4 + j, none⟩ = some (.int .u8 (p.sha.getD j 0)) := by
        rw [cell_of_row _ _ (4 + j) _ 56 (0, 0) (blk_below G3.out HB2.out)]
        exact Q.out.sha j hjl
      generalize hX : p.sha.getD j 0 = x at *
      have HX := Aside0.mk hX
      clear hX
      go_wp2_with (at_builtin; refine app1 (w0 := u3) u3.heap.size rfl (.tmp 30) (.tmp 35) rfl _ o2 _ rfl rfl HO2.out HB2.out hs (by omega) ?_; intro v2 w2 ho hb; have HO3 := Aside0.mk ho; have HB3' := Aside0.mk hb; clear ho hb)
      go_roundw
      case rel => exact ⟨j + 1, _, by go_num, by omega, ⟨by rw [he2.out, List.append_assoc, CodB.take_snoc' (by rw [H32.out]; exact hjl), HX.out]⟩, HO3, HB3'⟩
      case measure => simp [intOf]; omega
    · obtain rfl : j = 32 := by omega
      go_wp2
      go_ret
      refine ⟨_, rfl, ?_, below_then HB3.out HB3.out.size HB2.out⟩
      have h := he2.out
      rw [List.take_of_length_le (by rw [H32.out]; exact Nat.le_refl _), HL.out.2.2.2, HL.out.2.2.1, HL.out.2.1, HL.out.1] at h
      have h2 : o2 = L := by
        rw [h, HLL.out]
        simp [ptrL, List.append_assoc]
      rw [← h2]
      exact Kd.R_lower HO2.out HB3.out.size
end Go.Proofs.Ytfefpbnhpncmlaa.RefD
/- The document's None: a contract. -/
namespace Go.Proofs.Ytfefpbnhpncmlaa.RefE
open Go.RowKit Go.Proofs.Ytfefpbnhpncmlaa.B8 Go.Proofs.Ytfefpbnhpncmlaa.CodL Go.Proofs.Ytfefpbnhpncmlaa.CodA Go.Proofs.Ytfefpbnhpncmlaa.CodB Go.Proofs.Ytfefpbnhpncmlaa.CatL Go.Proofs.Ytfefpbnhpncmlaa.PtrA Go.Proofs.Ytfefpbnhpncmlaa.PtrB Go.Proofs.Ytfefpbnhpncmlaa.PtrE Go.Proofs.Ytfefpbnhpncmlaa.PtrF Go.Proofs.Ytfefpbnhpncmlaa.PBaseSigns Go.Proofs.YtfefpbnhpncmlaaW.PrintWords Go.Proofs.YtfefpbnhpncmlaaW.PrintLast Go.Proofs.YtfefpbnhpncmlaaW.PrintMore
set_option linter.unusedVariables false
set_option linter.unusedSimpArgs false

theorem all_zero {l : List Int} (h : l.length = 32) (hz : ∀ i, i < 32 → l.getD i 0 = 0) : l = List.replicate 32 0 := by
  refine List.eq_replicate_iff.2 ⟨h, fun b hb => ?_⟩
  obtain ⟨i, hi, rfl⟩ := List.getElem_of_mem hb
  have := hz i (by omega)
  rwa [List.getD, List.getElem?_eq_getElem hi, Option.getD_some] at this
theorem sha_zero {j : Nat} (h : j < 32) : zeroP.sha.getD j 0 = 0 := by
  have e : zeroP.sha = List.replicate 32 0 := rfl
  rw [e, List.getD, List.getElem?_replicate, if_pos h]
  rfl
theorem zero_of {p : Ptr} (h32 : p.sha.length = 32) (h0 : p.at_ = 0) (h1 : p.birth = 0) (h2 : p.len = 0) (h3 : p.crc = 0) (hz : ∀ i, i < 32 → p.sha.getD i 0 = 0) : p = zeroP := by
  obtain ⟨a, b, n, c, s⟩ := p
  simp only at h32 h0 h1 h2 h3 hz
  rw [h0, h1, h2, h3, all_zero h32 hz]
  rfl
set_option maxRecDepth 100000 in
set_option maxHeartbeats 1000000 in
theorem rnone_calls (p : Ptr) (hp : Ok p) (w : World) : Calls Try.prog 113 #[.agg (encP p)] w fun e w' => e = .returned (.bool (decide (p = zeroP))) ∧ Below w.heap.size w w' := by
  have g := blk_new w (.cells (encP p) 56)
  have q := pc p hp.len
  have x0 : (w.alloc (.cells (encP p) 56)).cell? ⟨w.heap.size, 0, none⟩ = some (.int .i64 p.at_) := by rw [cell_of_row _ _ 0 _ 56 (0, 0) g]; exact q.c0
  have x1 : (w.alloc (.cells (encP p) 56)).cell? ⟨w.heap.size, 1, none⟩ = some (.int .i64 p.birth) := by rw [cell_of_row _ _ 1 _ 56 (0, 0) g]; exact q.c1
  have x2 : (w.alloc (.cells (encP p) 56)).cell? ⟨w.heap.size, 2, none⟩ = some (.int .i64 p.len) := by rw [cell_of_row _ _ 2 _ 56 (0, 0) g]; exact q.c2
  have x3 : (w.alloc (.cells (encP p) 56)).cell? ⟨w.heap.size, 3, none⟩ = some (.int .u32 p.crc) := by rw [cell_of_row _ _ 3 _ 56 (0, 0) g]; exact q.c3
  have HB := Aside0.mk (below_alloc (Below.refl w.heap.size w) (.cells (encP p) 56))
  have G := Aside0.mk g
  have Q := Aside0.mk q
  have H32 := Aside0.mk hp.len
  obtain ⟨r, hr⟩ : ∃ r, r = decide (p = zeroP) := ⟨_, rfl⟩
  rw [← hr]
  have HR := Aside0.mk hr
  clear hr g q hp
  generalize encP p = cs at *
  by_cases h0 : p.at_ = 0
  case neg =>
    have hr : r = false := by rw [HR.out]; exact decide_eq_false (fun h => h0 (by rw [h]; rfl))
    rw [hr]
    go_enter Try.func113, Try.ntmps113
    go_wp2
    go_ret
    exact ⟨rfl, HB.out⟩
  by_cases h1 : p.birth = 0
  case neg =>
    have hr : r = false := by rw [HR.out]; exact decide_eq_false (fun h => h1 (by rw [h]; rfl))
    rw [hr]
    go_enter Try.func113, Try.ntmps113
    go_wp2
    go_ret
    exact ⟨rfl, HB.out⟩
  by_cases h2 : p.len = 0
  case neg =>
    have hr : r = false := by rw [HR.out]; exact decide_eq_false (fun h => h2 (by rw [h]; rfl))
    rw [hr]
    go_enter Try.func113, Try.ntmps113
    go_wp2
    go_ret
    exact ⟨rfl, HB.out⟩
  by_cases h3 : p.crc = 0
  case neg =>
    have hr : r = false := by rw [HR.out]; exact decide_eq_false (fun h => h3 (by rw [h]; rfl))
    rw [hr]
    go_enter Try.func113, Try.ntmps113
    go_wp2
    go_ret
    exact ⟨rfl, HB.out⟩
  go_enter Try.func113, Try.ntmps113
  go_wp2
  go_loop [3] (fun v3 => ∃ (j : Nat), v3 = .int .i64 (j : Int) ∧ j ≤ 32 ∧ Aside0 (∀ i, i < j → p.sha.getD i 0 = 0)) (fun v => 32 - (intOf v).toNat)
  case atStart => exact ⟨0, rfl, by decide, ⟨fun i h => absurd h (Nat.not_lt_zero _)⟩⟩
  case round =>
    obtain ⟨j, rfl, hj, hz⟩ := hrel
    by_cases hjl : j < 32
    · have hxj : (w.alloc (.cells cs 56)).cell? ⟨w.heap.size, 4 + j, none⟩ = some (.int .u8 (p.sha.getD j 0)) := by
        rw [cell_of_row _ _ (4 + j) _ 56 (0, 0) G.out]
        exact Q.out.sha j hjl
      by_cases hx : p.sha.getD j 0 = 0
      · rw [hx] at hxj
        have HX := Aside0.mk hx
        clear hx
        go_wp2
        go_round
        case rel => exact ⟨j + 1, by go_num, by omega, ⟨fun i h => by
          rcases Nat.lt_or_ge i j with h' | h'
          · exact hz.out i h'
          · obtain rfl : i = j := by omega
            exact HX.out⟩⟩
        case measure => simp [intOf]; omega
      · have hr : r = false := by
          rw [HR.out]
          refine decide_eq_false (fun h => hx ?_)
          rw [h]
          exact sha_zero hjl
        generalize p.sha.getD j 0 = x at *
        go_wp2
        go_ret
        exact ⟨rfl, HB.out⟩
    · obtain rfl : j = 32 := by omega
      have hr : r = true := by rw [HR.out]; exact decide_eq_true (zero_of H32.out h0 h1 h2 h3 hz.out)
      go_wp2
      go_ret
      exact ⟨rfl, HB.out⟩
end Go.Proofs.Ytfefpbnhpncmlaa.RefE
/- catalog.shorts at one number: a contract. -/
namespace Go.Proofs.Ytfefpbnhpncmlaa.CatS
open Go.RowKit Go.Proofs.Ytfefpbnhpncmlaa.B8 Go.Proofs.Ytfefpbnhpncmlaa.CodL Go.Proofs.Ytfefpbnhpncmlaa.CodA Go.Proofs.Ytfefpbnhpncmlaa.CodB Go.Proofs.Ytfefpbnhpncmlaa.PBaseSigns Go.Proofs.YtfefpbnhpncmlaaW.PrintWords Go.Proofs.YtfefpbnhpncmlaaW.PrintLast Go.Proofs.YtfefpbnhpncmlaaW.PrintMore
attribute [local go_sem] max2_int min2_int max_two min_two
set_option linter.unusedVariables false
set_option linter.unusedSimpArgs false

theorem short_at (A : Option Addr) (c m : Nat) (l L : List Int) (n : Nat) (x : Int) (w : World) (hml : m = l.length) (hL : L = l ++ shortL n) (hx : x = (n : Int)) (hr : C8 w A l.length l) (hm : l.length ≤ 1000000) (hn : n < 18446744073709551616) :
    Calls Try.prog 89 #[.slice A m c, .int .u64 x] w (Tells w L) := by
  subst hml; subst hL; subst hx
  first | exact short_calls A c l n w hr hm hn | exact short_calls A c l n w hr hn hm
set_option maxRecDepth 100000 in
set_option maxHeartbeats 1000000 in
theorem shorts_one (A : Option Addr) (c m : Nat) (l L : List Int) (k g : Nat) (w : World) (hml : m = l.length) (hL : L = l ++ shortL k) (hr : C8 w A l.length l) (hm : l.length ≤ 1000000) (hk : k ≤ 1000000) (hg : w.cell? ⟨g, 0, none⟩ = some (.int .i64 (k : Int))) :
    Calls Try.prog 103 #[.slice A m c, .slice (some ⟨g, 0, none⟩) 1 1] w (Tells w L) := by
  have HR := Aside0.mk (And.intro hr (And.intro hm (And.intro hml hL)))
  clear hr hm hml hL
  have hw : IntKind.u64.wrap (k : Int) = (k : Int) := wraps_u64 (k : Int) (by omega) (by omega)
  obtain ⟨x, hx⟩ : ∃ x : Int, x = (k : Int) := ⟨_, rfl⟩
  rw [← hx] at hg hw
  have HX := Aside0.mk hx
  clear hx
  go_enter Try.func103, Try.ntmps103
  go_wp2
  refine wp_loop_rounds 2 ?_
  rw [rounds_succ]
  go_wp2_with fail
  refine (short_at A c m l L k x w HR.out.2.2.1 HR.out.2.2.2 HX.out HR.out.1 HR.out.2.1 (by omega)).mono ?_
  rintro e w1 ⟨v, rfl, hv, hb⟩
  have HV := Aside0.mk (And.intro hv hb)
  clear hv hb
  go_wp2
  rw [rounds_succ]
  go_wp2
  go_ret
  exact ⟨_, rfl, HV.out.1, HV.out.2⟩
end Go.Proofs.Ytfefpbnhpncmlaa.CatS
/- The document's Read: its short way. -/
namespace Go.Proofs.Ytfefpbnhpncmlaa.RefF
open Go.RowKit Go.Proofs.Ytfefpbnhpncmlaa.Agg Go.Proofs.Ytfefpbnhpncmlaa.PtrH Go.Proofs.Ytfefpbnhpncmlaa.B8 Go.Proofs.Ytfefpbnhpncmlaa.CodL Go.Proofs.Ytfefpbnhpncmlaa.CodA Go.Proofs.Ytfefpbnhpncmlaa.CodB Go.Proofs.Ytfefpbnhpncmlaa.CatL Go.Proofs.Ytfefpbnhpncmlaa.PtrA Go.Proofs.Ytfefpbnhpncmlaa.PtrB Go.Proofs.Ytfefpbnhpncmlaa.PtrE Go.Proofs.Ytfefpbnhpncmlaa.PtrF Go.Proofs.Ytfefpbnhpncmlaa.PBaseSigns Go.Proofs.YtfefpbnhpncmlaaW.PrintWords Go.Proofs.YtfefpbnhpncmlaaW.PrintLast Go.Proofs.YtfefpbnhpncmlaaW.PrintMore
set_option linter.unusedVariables false
set_option linter.unusedSimpArgs false

set_option maxRecDepth 100000 in
set_option maxHeartbeats 400000 in
theorem rread_short (A : Option Addr) (c n : Nat) (w : World) (hs : n < 52) :
    Calls Try.prog 107 #[.slice A n c] w (fun e w' => e = .returned (.tuple #[.agg (encP zeroP), .int .i64 10]) ∧ Below w.heap.size w w') := by
  have hB := Aside0.mk ((Below.refl w.heap.size w).alloc (Nat.le_refl _) (.cells Z56 56))
  have g1 := blk_new w (.cells Z56 56)
  have hn : ((n : Int) < 52) = True := by simp; omega
  go_enter Try.func107, Try.ntmps107
  rw [enc_zero]
  go_wp2_with (refine wpList_store_same rfl 56 _ _ rfl w.heap.size Z56 rfl rfl 56 g1 i56 a56 ?_)
  exact bodyPost_ret (res_ct (p := 2) (q := 3) _ rfl rfl g1 Try.underlying56 rfl i56) rfl ⟨rfl, hB.out⟩
end Go.Proofs.Ytfefpbnhpncmlaa.RefF
/- A piece out of the middle of bytes. -/
namespace Go.Proofs.Ytfefpbnhpncmlaa.RefG
open Go.RowKit Go.Proofs.Ytfefpbnhpncmlaa.Agg Go.Proofs.Ytfefpbnhpncmlaa.PtrH Go.Proofs.Ytfefpbnhpncmlaa.B8 Go.Proofs.Ytfefpbnhpncmlaa.CodL Go.Proofs.Ytfefpbnhpncmlaa.CodA Go.Proofs.Ytfefpbnhpncmlaa.CodB Go.Proofs.Ytfefpbnhpncmlaa.CatL Go.Proofs.Ytfefpbnhpncmlaa.PtrA Go.Proofs.Ytfefpbnhpncmlaa.PtrB Go.Proofs.Ytfefpbnhpncmlaa.PtrE Go.Proofs.Ytfefpbnhpncmlaa.PtrF Go.Proofs.Ytfefpbnhpncmlaa.PBaseSigns Go.Proofs.YtfefpbnhpncmlaaW.PrintWords Go.Proofs.YtfefpbnhpncmlaaW.PrintLast Go.Proofs.YtfefpbnhpncmlaaW.PrintMore
set_option linter.unusedVariables false
set_option linter.unusedSimpArgs false

/-- b[lo:hi] of a row of bytes -/
theorem cut8_mid (A : Option Addr) (n c lo hi : Nat) (h1 : lo ≤ hi) (h2 : hi ≤ n) (hc : n ≤ c) (W : World) : (Instr.slice 31 (.slice A n c) (some (.int .i64 (lo : Int))) (some (.int .i64 (hi : Int))) none).run Try.prog W = .ok (.slice (if c = lo then A else A.map (·.add lo)) (hi - lo) (c - lo)) W := by
  obtain ⟨i0, hi0, _, hs, _⟩ := info_parts info5
  have := cut_mid (P := Try.prog) 31 5 .i64 .i64 Try.underlying31 hi0 1 hs A n c (lo : Int) (hi : Int) (by omega) (by omega) (by omega) hc W
  simpa using this
theorem C8_mid {w : World} {A : Option Addr} {n c lo hi : Nat} {xs : List Int} (h : C8 w A n xs) (hc : n ≤ c) (h1 : lo ≤ hi) (h2 : hi ≤ n) : C8 w (if c = lo then A else A.map (·.add lo)) (hi - lo) ((xs.take hi).drop lo) :=
  C8_drop (B8.C_take h h2) (by omega) h1
theorem rtake_all (A : Option Addr) (c n : Nat) (i v : Int) (l : List Int) (hn : n = l.length) (hi : i = (n : Int)) (hv : v = leL l) (w : World) (hr : C8 w A n l) (hb : Byt l) (hc : n ≤ c) (h1 : 1 ≤ n) (h8 : n ≤ 8) :
    Calls Try.prog 100 #[.slice A n c, .int .i64 i] w (TellsTake w v []) := by
  subst hn; subst hi; subst hv
  have h := Go.Proofs.Ytfefpbnhpncmlaa.RefC.rtake_calls A c l l.length w hr hb hc (by omega) h1 h8 (Nat.le_refl _)
  rwa [List.take_length, List.drop_length] at h
end Go.Proofs.Ytfefpbnhpncmlaa.RefG
/- The document's Read at 52 bytes or more. -/
namespace Go.Proofs.Ytfefpbnhpncmlaa.RefH
open Go.RowKit Go.Proofs.Ytfefpbnhpncmlaa.RefG Go.Proofs.Ytfefpbnhpncmlaa.Agg Go.Proofs.Ytfefpbnhpncmlaa.PtrH Go.Proofs.Ytfefpbnhpncmlaa.B8 Go.Proofs.Ytfefpbnhpncmlaa.CodL Go.Proofs.Ytfefpbnhpncmlaa.CodA Go.Proofs.Ytfefpbnhpncmlaa.CodB Go.Proofs.Ytfefpbnhpncmlaa.CatL Go.Proofs.Ytfefpbnhpncmlaa.PtrA Go.Proofs.Ytfefpbnhpncmlaa.PtrB Go.Proofs.Ytfefpbnhpncmlaa.PtrE Go.Proofs.Ytfefpbnhpncmlaa.PtrF Go.Proofs.Ytfefpbnhpncmlaa.PBaseSigns Go.Proofs.YtfefpbnhpncmlaaW.PrintWords Go.Proofs.YtfefpbnhpncmlaaW.PrintLast Go.Proofs.YtfefpbnhpncmlaaW.PrintMore
set_option linter.unusedVariables false
set_option linter.unusedSimpArgs false

theorem wpList_build_of {P : Program} {ops : Array Oper} {rest : List Oper} {o : Oper} {a : Act} {w : World} {Q : Exit → Act → World → Prop} (hg : o.guard = none) (t : TypeId) (parts : Array (Nat × Operand)) (ho : o.op = .build t parts)
    (cells : Array Value) (hc : P.built t (parts.map fun (i, x) => (i, a.eval x)).toList = some cells)
    (h : wpList P ops Q rest (a.put o.dst (.agg cells)) w) : wpList P ops Q (o :: rest) a w :=
  wpList_build hg t parts ho (by rw [hc]; rfl) (by rw [hc]; exact h)

set_option maxRecDepth 100000 in
/-- A pointer whose sum is not laid yet. -/
theorem built56 (a b c d : Int) : Try.prog.built 56 [(0, .int .i64 a), (2, .int .i64 c), (1, .int .i64 b), (3, .int .u32 d)] = some (encP ⟨a, b, c, d, List.replicate 32 0⟩) := by kernel_rfl

/-- One byte more of a pointer's sum. -/
theorem enc_step (a b c d : Int) (m : List Int) (hm : m.length = 32) (j : Nat) (hj : j < 32) :
    (encP ⟨a, b, c, d, m.take j ++ List.replicate (32 - j) 0⟩).setIfInBounds (4 + j) (.int .u8 (m.getD j 0)) = encP ⟨a, b, c, d, m.take (j + 1) ++ List.replicate (32 - (j + 1)) 0⟩ := by
  apply Array.toList_inj.1
  simp only [encP, Array.toList_setIfInBounds, Array.toList_append, List.map_append, List.map_replicate]
  have e : List.replicate (32 - j) (Value.int .u8 0) = Value.int .u8 0 :: List.replicate (32 - (j + 1)) (Value.int .u8 0) := by
    rw [show 32 - j = (32 - (j + 1)) + 1 by omega, List.replicate_succ]
  rw [e, show 4 + j = j + 4 by omega]
  simp only [List.set_cons_succ, List.cons_append, List.nil_append]
  rw [List.set_append_right _ _ (by simp; omega)]
  simp only [List.length_map, List.length_take, hm, Nat.min_eq_left (Nat.le_of_lt hj), Nat.sub_self, List.set_cons_zero]
  rw [CodB.take_snoc' (show j < m.length by omega)]
  simp
theorem rawP_at (l l1 l2 l3 l4 : List Int) (v1 v2 v3 v4 : Int) (hby : Byt l) (h : 52 ≤ l.length) (h1 : l1 = l.take 4) (h2 : l2 = (l.take 8).drop 4) (h3 : l3 = (l.take 16).drop 8) (h4 : l4 = (l.take 20).drop 16)
    (e1 : v1 = leL l1) (e2 : v2 = leL l2) (e3 : v3 = leL l3) (e4 : v4 = leL l4) :
    rawP l = ⟨wrap64 v1, wrap64 v3, wrap64 v2, v4 % 4294967296, (l.drop 20).take 32⟩ := by
  rw [List.drop_take] at h2 h3 h4
  simp only [Nat.reduceSub] at h2 h3 h4
  subst h1; subst h2; subst h3; subst h4
  have b1 := leL_bound (hby.take 4)
  have b2 := leL_bound ((hby.drop 4).take 4)
  have b3 := leL_bound ((hby.drop 8).take 8)
  have b4 := leL_bound ((hby.drop 16).take 4)
  have n1 : (l.take 4).length = 4 := by rw [List.length_take]; omega
  have n2 : ((l.drop 4).take 4).length = 4 := by rw [List.length_take, List.length_drop]; omega
  have n3 : ((l.drop 8).take 8).length = 8 := by rw [List.length_take, List.length_drop]; omega
  have n4 : ((l.drop 16).take 4).length = 4 := by rw [List.length_take, List.length_drop]; omega
  rw [n1] at b1; rw [n2] at b2; rw [n3] at b3; rw [n4] at b4
  simp only [rawP, Ptr.mk.injEq, and_true]
  rw [← e1, ← e2, ← e3, ← e4]
  rw [← e1] at b1; rw [← e2] at b2; rw [← e3] at b3; rw [← e4] at b4
  simp only [wrap64, s64]
  refine ⟨?_, ?_, ?_, ?_⟩
  · omega
  · split <;> omega
  · omega
  · omega

set_option maxRecDepth 100000 in
set_option maxHeartbeats 400000 in
theorem rread_long (A : Option Addr) (c n : Nat) (l : List Int) (hnl : n = l.length) (w : World) (hr : C8 w A n l) (hby : Byt l) (hc : n ≤ c) (hm : n ≤ 1000000) (hs : 52 ≤ n) :
    Calls Try.prog 107 #[.slice A n c] w (PtrL.TellsP w (readP l)) := by
  have c1 := cut8_to A n c 4 (by omega) hc
  have c2 := cut8_mid A n c 4 8 (by omega) (by omega) hc
  have c3 := cut8_mid A n c 8 16 (by omega) (by omega) hc
  have c4 := cut8_mid A n c 16 20 (by omega) (by omega) hc
  have R1 := Aside0.mk (B8.C_take hr (show 4 ≤ n by omega))
  have R2 := Aside0.mk (C8_mid hr hc (show 4 ≤ 8 by omega) (by omega))
  have R3 := Aside0.mk (C8_mid hr hc (show 8 ≤ 16 by omega) (by omega))
  have R4 := Aside0.mk (C8_mid hr hc (show 16 ≤ 20 by omega) (by omega))
  generalize (if c = 4 then A else A.map (·.add 4)) = A2 at c2 R2
  generalize (if c = 8 then A else A.map (·.add 8)) = A3 at c3 R3
  generalize (if c = 16 then A else A.map (·.add 16)) = A4 at c4 R4
  replace c2 : ∀ W : World, (Instr.slice 31 (.slice A n c) (some (.int .i64 4)) (some (.int .i64 8)) none).run Try.prog W = .ok (.slice A2 4 (c - 4)) W := c2
  replace c3 : ∀ W : World, (Instr.slice 31 (.slice A n c) (some (.int .i64 8)) (some (.int .i64 16)) none).run Try.prog W = .ok (.slice A3 8 (c - 8)) W := c3
  replace c4 : ∀ W : World, (Instr.slice 31 (.slice A n c) (some (.int .i64 16)) (some (.int .i64 20)) none).run Try.prog W = .ok (.slice A4 4 (c - 16)) W := c4
  have HX := Aside0.mk (And.intro hnl hby)
  have hn : ((n : Int) < 52) = False := by simp; omega
  obtain ⟨P, hP⟩ : ∃ P : Ending → World → Prop, P = PtrL.TellsP w (readP l) := ⟨_, rfl⟩
  rw [← hP]
  have HP := Aside0.mk hP
  obtain ⟨l1, hl1⟩ : ∃ x, x = l.take 4 := ⟨_, rfl⟩
  obtain ⟨l2, hl2⟩ : ∃ x, x = (l.take 8).drop 4 := ⟨_, rfl⟩
  obtain ⟨l3, hl3⟩ : ∃ x, x = (l.take 16).drop 8 := ⟨_, rfl⟩
  obtain ⟨l4, hl4⟩ : ∃ x, x = (l.take 20).drop 16 := ⟨_, rfl⟩
  rw [← hl1] at R1
  rw [← hl2] at R2
  rw [← hl3] at R3
  rw [← hl4] at R4
  obtain ⟨v1, hv1⟩ : ∃ x, x = leL l1 := ⟨_, rfl⟩
  obtain ⟨v2, hv2⟩ : ∃ x, x = leL l2 := ⟨_, rfl⟩
  obtain ⟨v3, hv3⟩ : ∃ x, x = leL l3 := ⟨_, rfl⟩
  obtain ⟨v4, hv4⟩ : ∃ x, x = leL l4 := ⟨_, rfl⟩
  have B1 : Aside0 (4 = l1.length ∧ Byt l1 ∧ v1 = leL l1) := ⟨by rw [hl1, List.length_take]; omega, by rw [hl1]; exact hby.take _, hv1⟩
  have B2 : Aside0 (8 - 4 = l2.length ∧ Byt l2 ∧ v2 = leL l2) := ⟨by rw [hl2, List.length_drop, List.length_take]; omega, by rw [hl2]; exact (hby.take _).drop _, hv2⟩
  have B3 : Aside0 (16 - 8 = l3.length ∧ Byt l3 ∧ v3 = leL l3) := ⟨by rw [hl3, List.length_drop, List.length_take]; omega, by rw [hl3]; exact (hby.take _).drop _, hv3⟩
  have B4 : Aside0 (20 - 16 = l4.length ∧ Byt l4 ∧ v4 = leL l4) := ⟨by rw [hl4, List.length_drop, List.length_take]; omega, by rw [hl4]; exact (hby.take _).drop _, hv4⟩
  have HL := Aside0.mk (And.intro hl1 (And.intro hl2 (And.intro hl3 hl4)))
  clear hl1 hl2 hl3 hl4 hv1 hv2 hv3 hv4
  have HB0 := Aside0.mk (below_alloc (Below.refl w.heap.size w) (.cells Z56 56))
  have HR0 := Aside0.mk hr
  clear hr hby hnl hP
  go_enter Try.func107, Try.ntmps107
  go_wp2_with fail
  refine (rtake_all A c 4 4 v1 l1 B1.out.1 rfl B1.out.2.2 _ (Kd.C_below R1.out HB0.out) B1.out.2.1 (by omega) (by decide) (by decide)).mono ?_
  rintro e u1 ⟨s1, rfl, _, hb1⟩
  have G1 := Aside0.mk (blk_below (blk_new w (.cells Z56 56)) hb1)
  have HB1 := Aside0.mk (below_then HB0.out HB0.out.size hb1)
  clear hb1 HB0 R1
  go_wp2_with fail
  refine (rtake_all A2 (c - 4) 4 4 v2 l2 B2.out.1 rfl B2.out.2.2 u1 (Kd.C_below R2.out HB1.out) B2.out.2.1 (by omega) (by decide) (by decide)).mono ?_
  rintro e u2 ⟨s2, rfl, _, hb2⟩
  have G2 := Aside0.mk (blk_below G1.out hb2)
  have HB2 := Aside0.mk (below_then HB1.out HB1.out.size hb2)
  clear hb2 HB1 R2 G1
  go_wp2_with fail
  refine (rtake_all A3 (c - 8) 8 8 v3 l3 B3.out.1 rfl B3.out.2.2 u2 (Kd.C_below R3.out HB2.out) B3.out.2.1 (by omega) (by decide) (by decide)).mono ?_
  rintro e u3 ⟨s3, rfl, _, hb3⟩
  have G3 := Aside0.mk (blk_below G2.out hb3)
  have HB3 := Aside0.mk (below_then HB2.out HB2.out.size hb3)
  clear hb3 HB2 R3 G2
  go_wp2_with fail
  refine (rtake_all A4 (c - 16) 4 4 v4 l4 B4.out.1 rfl B4.out.2.2 u3 (Kd.C_below R4.out HB3.out) B4.out.2.1 (by omega) (by decide) (by decide)).mono ?_
  rintro e u4 ⟨s4, rfl, _, hb4⟩
  have G4 := Aside0.mk (blk_below G3.out hb4)
  have HB4 := Aside0.mk (below_then HB3.out HB3.out.size hb4)
  clear hb4 HB3 R4 G3 c1 c2 c3 c4
  obtain ⟨m, hm0⟩ : ∃ m, m = (l.drop 20).take 32 := ⟨_, rfl⟩
  have hm32 : m.length = 32 := by rw [hm0, List.length_take, List.length_drop]; have := HX.out.1; omega
  obtain ⟨q, hq⟩ : ∃ q, q = rawP l := ⟨_, rfl⟩
  have hqp : q = ⟨wrap64 v1, wrap64 v3, wrap64 v2, v4 % 4294967296, m⟩ := by
    rw [hq, hm0]
    exact rawP_at l l1 l2 l3 l4 v1 v2 v3 v4 HX.out.2 (by have := HX.out.1; omega) HL.out.1 HL.out.2.1 HL.out.2.2.1 HL.out.2.2.2 B1.out.2.2 B2.out.2.2 B3.out.2.2 B4.out.2.2
  have hok : Ok q := by rw [hq]; exact rawP_ok HX.out.2 (by have := HX.out.1; omega)
  obtain ⟨E0, hE0⟩ : ∃ E0, E0 = encP ⟨wrap64 v1, wrap64 v3, wrap64 v2, v4 % 4294967296, List.replicate 32 0⟩ := ⟨_, rfl⟩
  have hbt : Try.prog.built 56 [(0, .int .i64 (wrap64 v1)), (2, .int .i64 (wrap64 v2)), (1, .int .i64 (wrap64 v3)), (3, .int .u32 (v4 % 4294967296))] = some E0 := by rw [hE0]; exact built56 _ _ _ _
  have hE36 : E0.size = 36 := by rw [hE0]; exact encP_size (by simp)
  have iE : (Try.prog.info? 56).map (·.size) = some E0.size := by rw [hE36]; kernel_rfl
  have oE : E0.all (·.oneCell') = true := by rw [hE0]; exact PtrJ.a_enc _
  have zE : Z56.size = E0.size := by rw [hE36]; rfl
  have HE := Aside0.mk (And.intro hbt (And.intro iE (And.intro oE zE)))
  have HQ := Aside0.mk (And.intro hq (And.intro hqp (And.intro hok (And.intro hm0 hm32))))
  have HE0 := Aside0.mk hE0
  clear hbt iE oE zE hq hqp hok hm0 hm32 hE36 hE0
  have gN := Aside0.mk (blk_new u4 (.cells Z56 56))
  go_wp2_with (first | (refine wpList_build_of rfl 56 #[(0, .tmp 51), (2, .tmp 53), (1, .tmp 55), (3, .tmp 57)] rfl E0 ?hb ?_; (case hb => simp [Act.eval]; exact HE.out.1)) | (refine wpList_store_row rfl 56 _ _ rfl u4.heap.size E0 rfl rfl 56 Z56 gN.out HE.out.2.1 HE.out.2.2.2 HE.out.2.2.1 ?_))
  rw [World.setRow_alloc_new]
  have G5 := Aside0.mk (blk_new u4 (.cells E0 56))
  have HB5 := Aside0.mk (below_alloc HB4.out (.cells E0 56))
  have hs4 := Aside0.mk HB4.out.size
  have hg0 := blk_lt G4.out
  have hsz5 : u4.heap.size < (u4.alloc (.cells E0 56)).heap.size := by simp
  have G05 := Aside0.mk (blk_alloc G4.out (.cells E0 56))
  clear HB4 gN HE G4
  generalize (u4.alloc (.cells E0 56)) = u5 at *
  go_loopw [17] (fun v17 wr => ∃ (j : Nat), v17 = .int .i64 (j : Int) ∧ j ≤ 32 ∧ Aside0 (wr.heap[u4.heap.size]? = some (.cells (encP ⟨wrap64 v1, wrap64 v3, wrap64 v2, v4 % 4294967296, m.take j ++ List.replicate (32 - j) 0⟩) 56 (0, 0)) ∧ wr.heap[w.heap.size]? = some (.cells Z56 56 (0, 0)) ∧ Below w.heap.size w wr)) (fun v _ => 32 - (intOf v).toNat)
  case atStart => exact ⟨0, rfl, by decide, ⟨by rw [List.take_zero, List.nil_append, Nat.sub_zero, ← HE0.out]; exact G5.out, G05.out, HB5.out⟩⟩
  case round =>
    obtain ⟨j, rfl, hj, H⟩ := hrel
    clear G5 HB5 G05
    by_cases hjl : j < 32
    · obtain ⟨bq, off, hA, hbq, hx⟩ := C_at 0 HR0.out (by omega)
      subst hA
      have hxj := hx (20 + j) (by omega)
      have hxj := (H.out.2.2.cell (p := ⟨bq, off + (20 + j), none⟩) hbq).trans hxj
      have hmj : Aside0 (l.getD (20 + j) 0 = m.getD j 0) := ⟨by
        rw [HQ.out.2.2.2.1]
        simp [List.getD, List.getElem?_take, hjl]⟩
      rw [hmj.out] at hxj
      clear hx
      have hy : wr.cell? ⟨u4.heap.size, 4 + j, none⟩ = some (.int .u8 0) := by
        rw [cell_of_row _ _ (4 + j) _ 56 (0, 0) H.out.1]
        have h := (pc ⟨wrap64 v1, wrap64 v3, wrap64 v2, v4 % 4294967296, m.take j ++ List.replicate (32 - j) 0⟩ (by simp [HQ.out.2.2.2.2]; omega)).sha j hjl
        rw [h]
        simp only [List.getD]
        rw [List.getElem?_append_right (by rw [List.length_take]; omega)]
        rw [List.length_take, HQ.out.2.2.2.2, Nat.min_eq_left (Nat.le_of_lt hjl), Nat.sub_self, List.getElem?_replicate, if_pos (by omega)]
        rfl
      have hf := frozen_of_row wr _ (4 + j) _ 56 H.out.1
      have hst := Aside0.mk (heap_setCell_same wr u4.heap.size (4 + j) _ 56 (.int .u8 (m.getD j 0)) H.out.1)
      rw [enc_step _ _ _ _ m HQ.out.2.2.2.2 j hjl] at hst
      have hst2 := Aside0.mk (blk_far H.out.2.1 (p := ⟨u4.heap.size, 4 + j, none⟩) (by simp; omega) (.int .u8 (m.getD j 0)))
      have hst3 := Aside0.mk (H.out.2.2.setCell (p := ⟨u4.heap.size, 4 + j, none⟩) hs4.out (.int .u8 (m.getD j 0)))
      generalize m.getD j 0 = x at *
      go_wp2
      go_roundw
      case rel => exact ⟨j + 1, by go_num, by omega, ⟨hst.out, hst2.out, hst3.out⟩⟩
      case measure => simp [intOf]; omega
    · obtain rfl : j = 32 := by omega
      have hq32 : q.sha.length = 32 := HQ.out.2.2.1.len
      have Gq : wr.heap[u4.heap.size]? = some (.cells (encP q) 56 (0, 0)) := by
        have h := H.out.1
        rw [Nat.sub_self, List.replicate_zero, List.append_nil, List.take_of_length_le (by rw [HQ.out.2.2.2.2]; exact Nat.le_refl _), ← HQ.out.2.1] at h
        exact h
      have Gq := Aside0.mk Gq
      have hsi := si hq32
      have hae := PtrJ.a_enc q
      have hes := encP_size hq32
      have hesz : Z56.size = (encP q).size := by rw [hes]; rfl
      have hpc := Aside0.mk (pc q hq32)
      have HB6 := Aside0.mk H.out.2.2
      have GZ := Aside0.mk H.out.2.1
      clear H hes hsz5
      go_wp2_with (refine wpList_load_row rfl 56 _ rfl _ rfl 56 (encP q) (0, 0) _ Gq.out Try.underlying56 rfl hsi ?_)
      refine (RefE.rnone_calls q HQ.out.2.2.1 _).mono ?_
      rintro e u6 ⟨rfl, hb6⟩
      have G6 := Aside0.mk (blk_below Gq.out hb6)
      have GZ6 := Aside0.mk (blk_below GZ.out hb6)
      have B6 := Aside0.mk (below_then HB6.out HB6.out.size hb6)
      clear hb6 HB6 Gq GZ
      by_cases hz : q = zeroP
      · rw [decide_eq_true hz]
        have HZ := Aside0.mk hz
        clear hz
        go_wp2_with (first | (refine wpList_load_row rfl 56 _ rfl _ rfl 56 (encP q) (0, 0) _ G6.out Try.underlying56 rfl hsi ?_) | (refine wpList_store_row rfl 56 _ _ rfl w.heap.size (encP q) rfl rfl 56 Z56 GZ6.out hsi hesz hae ?_))
        refine bodyPost_ret (res_ct (p := 2) (q := 3) _ rfl rfl (setRow_heap u6 w.heap.size Z56 (encP q) 56 _ GZ6.out) Try.underlying56 rfl hsi) rfl ?_
        rw [HP.out]
        refine ⟨?_, below_setRow B6.out (Nat.le_refl _) _⟩
        have h : readP l = (q, 0) := by
          unfold readP
          rw [if_neg (by have := HX.out.1; omega), ← HQ.out.1, if_neg (by simp [HZ.out])]
        rw [h]
        rfl
      · rw [decide_eq_false hz]
        go_wp2_with (refine gate_on (by rfl) ?_; dsimp only; refine wpList_load_row rfl 56 _ rfl _ rfl 56 (encP q) (0, 0) _ G6.out Try.underlying56 rfl hsi ?_)
        refine (Go.Proofs.Ytfefpbnhpncmlaa.PtrC.rright_calls (encP q) q hpc.out _).mono ?_
        rintro e u7 ⟨rfl, hb7⟩
        have G7 := Aside0.mk (blk_below G6.out hb7)
        have GZ7 := Aside0.mk (blk_below GZ6.out hb7)
        have B7 := Aside0.mk (below_then B6.out B6.out.size hb7)
        clear hb7 G6 GZ6 B6
        by_cases hrt : Right q
        · rw [rightB_yes hrt]
          go_wp2_with (first | (refine wpList_load_row rfl 56 _ rfl _ rfl 56 (encP q) (0, 0) _ G7.out Try.underlying56 rfl hsi ?_) | (refine wpList_store_row rfl 56 _ _ rfl w.heap.size (encP q) rfl rfl 56 Z56 GZ7.out hsi hesz hae ?_))
          refine bodyPost_ret (res_ct (p := 2) (q := 3) _ rfl rfl (setRow_heap u7 w.heap.size Z56 (encP q) 56 _ GZ7.out) Try.underlying56 rfl hsi) rfl ?_
          rw [HP.out]
          refine ⟨?_, below_setRow B7.out (Nat.le_refl _) _⟩
          have h : readP l = (q, 0) := by
            unfold readP
            rw [if_neg (by have := HX.out.1; omega), ← HQ.out.1, if_neg (by simp [hrt])]
          rw [h]
          rfl
        · rw [rightB_no hrt]
          go_wp2_with (refine wpList_store_same rfl 56 _ _ rfl w.heap.size Z56 rfl rfl 56 GZ7.out i56 a56 ?_)
          refine bodyPost_ret (res_ct (p := 2) (q := 3) _ rfl rfl GZ7.out Try.underlying56 rfl i56) rfl ?_
          rw [HP.out]
          refine ⟨?_, B7.out⟩
          have h : readP l = (zeroP, 11) := by
            unfold readP
            rw [if_neg (by have := HX.out.1; omega), ← HQ.out.1, if_pos ⟨hz, hrt⟩]
          rw [h]
          rw [← enc_zero]
          rfl
theorem rread_calls (A : Option Addr) (c n : Nat) (l : List Int) (hnl : n = l.length) (w : World) (hr : C8 w A n l) (hby : Byt l) (hc : n ≤ c) (hm : n ≤ 1000000) :
    Calls Try.prog 107 #[.slice A n c] w (PtrL.TellsP w (readP l)) := by
  by_cases hs : n < 52
  · refine (RefF.rread_short A c n w hs).mono ?_
    rintro e w1 ⟨rfl, hb⟩
    have h : readP l = (zeroP, 10) := by
      unfold readP
      rw [if_pos (by omega)]
    rw [h]
    exact ⟨rfl, hb⟩
  · exact rread_long A c n l hnl w hr hby hc hm (by omega)
end Go.Proofs.Ytfefpbnhpncmlaa.RefH
/- The document's ReadShort: a contract. -/
namespace Go.Proofs.Ytfefpbnhpncmlaa.RefI
open Go.RowKit Go.Proofs.Ytfefpbnhpncmlaa.B8 Go.Proofs.Ytfefpbnhpncmlaa.CodL Go.Proofs.Ytfefpbnhpncmlaa.CodA Go.Proofs.Ytfefpbnhpncmlaa.CodB Go.Proofs.Ytfefpbnhpncmlaa.CodC Go.Proofs.Ytfefpbnhpncmlaa.PBaseSigns Go.Proofs.YtfefpbnhpncmlaaW.PrintWords Go.Proofs.YtfefpbnhpncmlaaW.PrintLast Go.Proofs.YtfefpbnhpncmlaaW.PrintMore
attribute [local go_sem] max2_int min2_int max_two min_two
set_option linter.unusedVariables false
set_option linter.unusedSimpArgs false

theorem seven_drop {l : List Int} {j : Nat} (h : j < l.length) : sevenL (l.drop j) = l.getD j 0 % 128 + 128 * sevenL (l.drop (j + 1)) := by
  rw [List.drop_eq_getElem_cons h]
  simp [sevenL, List.getD, List.getElem?_eq_getElem h]
theorem seven_drop_le (l : List Int) (i : Nat) : sevenL (l.drop i) ≤ sevenL l := by
  induction l generalizing i with
  | nil => simp
  | cons a l ih =>
    cases i with
    | zero => simp
    | succ i =>
      have := ih i
      have hb := sevenL_bound (l.drop i)
      simp only [List.drop_succ_cons, sevenL]
      omega
theorem rem128 (c : Int) (h0 : 0 ≤ c) : Int.tmod c 128 = c % 128 := Int.tmod_eq_emod_of_nonneg h0

set_option maxRecDepth 100000 in
set_option maxHeartbeats 2000000 in
theorem rreadShort_calls (A : Option Addr) (c : Nat) (l : List Int) (w : World) (hr : C8 w A l.length l) (hb : Byt l) (hc : l.length ≤ c) (hm : l.length ≤ 1000000) :
    Calls Try.prog 102 #[.slice A l.length c] w fun e w' => e = .returned (.tuple #[.int .u64 (readShort l).1, .int .i64 ((readShort l).2.1 : Int), .int .i64 (readShort l).2.2]) ∧ w = w' := by
  have HR := Aside0.mk hr
  have HBY := Aside0.mk hb
  clear hr hb
  obtain ⟨r0, r1, r2, hr0, hr1, hr2⟩ : ∃ r0 r1 r2 : Int, r0 = (readShort l).1 ∧ r1 = ((readShort l).2.1 : Int) ∧ r2 = (readShort l).2.2 := ⟨_, _, _, rfl, rfl, rfl⟩
  rw [← hr0, ← hr1, ← hr2]
  have HRS := Aside0.mk (And.intro hr0 (And.intro hr1 hr2))
  clear hr0 hr1 hr2
  go_enter Try.func102, Try.ntmps102
  go_wp2
  go_loop [5] (fun v5 => ∃ (j : Nat), v5 = .int .i64 (j : Int) ∧ j ≤ l.length ∧ j ≤ 10 ∧ Aside0 (∀ i, i < j → 128 ≤ l.getD i 0)) (fun v => l.length - (intOf v).toNat)
  case atStart => exact ⟨0, rfl, Nat.zero_le _, by decide, ⟨fun i hi => by omega⟩⟩
  case round =>
    obtain ⟨j, rfl, hj, hj10, hlead⟩ := hrel
    have hjl := Aside0.mk (lead_ge (l := l) (by omega) hlead.out)
    by_cases hlt : j < l.length
    · obtain ⟨bq, off, rfl, hbq, hx⟩ := C_at 0 HR.out (by omega)
      have HX := Aside0.mk hx
      have hx0 := hx j (by omega)
      have hb := HBY.out.getD j
      clear hx
      by_cases h10 : j < 10
      · generalize hC : l.getD j 0 = cc at *
        have HC := Aside0.mk hC
        clear hC
        by_cases hcl : 128 ≤ cc
        · have hlead2 : Aside0 (∀ i, i < j + 1 → 128 ≤ l.getD i 0) := ⟨fun i hi => by
            by_cases h : i = j
            · rw [h, HC.out]; omega
            · exact hlead.out i (by omega)⟩
          go_wp2
          go_round
          case rel => exact ⟨j + 1, by go_num, by omega, by omega, hlead2⟩
          case measure => simp [intOf]; omega
        · have hld : Aside0 (lead l = j) := ⟨by
            have h1 := hjl.out
            rcases Nat.lt_or_ge j (lead l) with h2 | h2
            · have := lead_lt h2
              rw [HC.out] at this
              omega
            · omega⟩
          have hne10 : ((j : Int) == 10) = false := by simp; omega
          have hnel : ((j : Int) == (l.length : Int)) = false := by simp; omega
          have hform : Aside0 (((j = 9 ∧ 1 < cc) ∨ (0 < j ∧ cc = 0)) → readShort l = (0, 0, 11)) := ⟨fun h => by
            have hld1 := hld.out
            unfold readShort
            rw [if_neg (by omega), if_neg (by omega), if_pos]
            rcases h with ⟨h1, h2⟩ | ⟨h1, h2⟩
            · refine .inl ⟨by omega, ?_⟩
              rw [← h1, HC.out]; exact h2
            · refine .inr ⟨by omega, ?_⟩
              rw [hld1, HC.out]; exact h2⟩
          by_cases hA : j = 9 ∧ 1 < cc
          · obtain ⟨h9, h1⟩ := hA
            have hx9 := hx0
            rw [h9] at hx9
            have e9 : ((j : Int) == 9) = true := by simp; omega
            have hl9 : 9 < l.length := by omega
            have hrs := hform.out (.inl ⟨h9, h1⟩)
            have r0' := HRS.out.1
            have r1' := HRS.out.2.1
            have r2' := HRS.out.2.2
            rw [hrs] at r0' r1' r2'
            subst r0' r1' r2'
            have H9 := Aside0.mk h9
            clear hrs HRS h9
            go_wp2
            go_ret3
            exact ⟨rfl, rfl⟩
          · by_cases hB : 0 < j ∧ cc = 0
            · obtain ⟨h0, hz⟩ := hB
              have hrs := hform.out (.inr ⟨h0, hz⟩)
              have r0' := HRS.out.1
              have r1' := HRS.out.2.1
              have r2' := HRS.out.2.2
              rw [hrs] at r0' r1' r2'
              subst r0' r1' r2'
              subst hz
              clear hrs HRS hA hb hcl
              by_cases h9 : j = 9
              · have hx9 := hx0
                rw [h9] at hx9
                have e9 : ((j : Int) == 9) = true := by simp; omega
                have hl9 : 9 < l.length := by omega
                have H9 := Aside0.mk h9
                clear h9
                go_wp2
                go_ret3
                exact ⟨rfl, rfl⟩
              · have e9 : ((j : Int) == 9) = false := by simp; omega
                go_wp2
                go_ret3
                exact ⟨rfl, rfl⟩
            · have hrs : readShort l = (sevenL (l.take (j + 1)), j + 1, 0) := by
                have hld1 := hld.out
                unfold readShort
                rw [if_neg (by omega), if_neg (by omega), if_neg, hld1]
                rintro (⟨h1, h2⟩ | ⟨h1, h2⟩)
                · refine hA ⟨by omega, ?_⟩
                  have : l.getD 9 0 = cc := by rw [← HC.out]; congr 1; omega
                  omega
                · rw [hld1, HC.out] at h2
                  exact hB ⟨by omega, h2⟩
              have hbd : Aside0 (sevenL (l.take (j + 1)) < 18446744073709551616) := ⟨by
                have := (readShort_bound HBY.out).2
                rw [hrs] at this
                exact this⟩
              have r0' := HRS.out.1
              have r1' := HRS.out.2.1
              have r2' := HRS.out.2.2
              rw [hrs] at r0' r1' r2'
              have HR0 := Aside0.mk r0'
              have er1 : r1 = (j : Int) + 1 := by rw [r1']; push_cast; rfl
              subst er1 r2'
              clear hrs HRS r0' r1' hform
              have hT : Aside0 ((l.take (j + 1)).length = j + 1) := ⟨by rw [List.length_take]; omega⟩
              have hzB : 0 < j → (cc == 0) = false := fun h => by
                have : cc ≠ 0 := fun e => hB ⟨h, e⟩
                simpa using this
              have h9B : j = 9 → ¬ cc > 1 := fun h h' => hA ⟨h, h'⟩
              have HcB := Aside0.mk (And.intro hzB h9B)
              clear hA hB hzB h9B
              have key : ∀ (K : Prop), (j = 9 → 0 < j → K) → (j ≠ 9 → 0 < j → K) → (j = 0 → K) → K := fun K a b c => by
                by_cases h : j = 9
                · exact a h (by omega)
                · rcases Nat.eq_zero_or_pos j with h' | h'
                  · exact c h'
                  · exact b h h'
              refine key _ ?ka ?kb ?kc
              case' ka =>
                intro h9 hp
                have hx9 := hx0
                rw [h9] at hx9
                have e9 : ((j : Int) == 9) = true := by simp; omega
                have hl9 : 9 < l.length := by omega
                have ez := HcB.out.1 hp
                have eg := HcB.out.2 h9
                have H9 := Aside0.mk h9
                clear h9
                go_wp2
              case' kb =>
                intro h9 hp
                have e9 : ((j : Int) == 9) = false := by simp; omega
                have ez := HcB.out.1 hp
                have hp' : (j : Int) > 0 := by omega
                clear h9
                go_wp2
              case' kc =>
                intro hp
                have e9 : ((j : Int) == 9) = false := by simp; omega
                have hp' : ¬ (j : Int) > 0 := by omega
                have H0 := Aside0.mk hp
                clear hp
                go_wp2
              all_goals
                go_loop [6, 7] (fun v6 v7 => ∃ (i : Nat) (y : Int), v7 = .int .i64 ((i : Int) - 1) ∧ i ≤ j + 1 ∧ v6 = .int .u64 y ∧ Aside0 (y = sevenL ((l.take (j + 1)).drop i))) (fun _ v => (intOf v + 1).toNat)
                case atStart => exact ⟨j + 1, 0, by go_num, Nat.le_refl _, rfl, ⟨by rw [List.drop_eq_nil_of_le (by rw [hT.out]; exact Nat.le_refl _)]; rfl⟩⟩
                case round =>
                  obtain ⟨i, y, rfl, hi, rfl, hy⟩ := hrel
                  clear hx0
                  rcases i with _ | i
                  · have hge : (((0 : Nat) : Int) - 1 ≥ 0) = False := by simp
                    go_wp2
                    go_ret3
                    have h := hy.out
                    rw [List.drop_zero] at h
                    rw [HR0.out, ← h]
                    exact ⟨rfl, rfl⟩
                  · have hx1 := HX.out i (by omega)
                    have hge : (((i + 1 : Nat) : Int) - 1 ≥ 0) = True := by simp
                    have ei : (((i + 1 : Nat) : Int) - 1) = (i : Int) := by omega
                    have hbd1 := HBY.out.getD i
                    have hstep := seven_drop (l := l.take (j + 1)) (j := i) (by rw [hT.out]; omega)
                    rw [← hy.out] at hstep
                    have hgd : (l.take (j + 1)).getD i 0 = l.getD i 0 := by simp [List.getD, List.getElem?_take, show i < j + 1 by omega]
                    rw [hgd] at hstep
                    have hle := seven_drop_le (l.take (j + 1)) i
                    have hbb := hbd.out
                    have hy0 := sevenL_bound ((l.take (j + 1)).drop (i + 1))
                    rw [← hy.out] at hy0
                    have HS := Aside0.mk hstep
                    generalize l.getD i 0 = b at *
                    have hrem := rem128 b hbd1.1
                    have q0 : IntKind.u8.wrap (b % 128) = b % 128 := by rw [IntKind.wrap_u8]; omega
                    have q3 := wraps_u64 (b % 128) (by omega) (by omega)
                    have q1 := wraps_u64 (y * 128) (by omega) (by omega)
                    have q2 := wraps_u64 (y * 128 + b % 128) (by omega) (by omega)
                    rw [ei]
                    clear hstep hgd hle hbb hy0 ei
                    go_wp2
                    go_round
                    case rel => exact ⟨i, y * 128 + b % 128, by go_num, by omega, by go_num, ⟨by rw [HS.out]; omega⟩⟩
                    case measure => simp [intOf]
      · obtain rfl : j = 10 := by omega
        have hrs : readShort l = (0, 0, 11) := by
          unfold readShort
          rw [if_pos hjl.out]
        have h0 := HRS.out.1
        have h1 := HRS.out.2.1
        have h2 := HRS.out.2.2
        rw [hrs] at h0 h1 h2
        subst h0 h1 h2
        clear hrs HRS
        go_wp2
        go_ret3
        exact ⟨rfl, rfl⟩
    · obtain rfl : j = l.length := by omega
      by_cases h10 : l.length = 10
      · have hrs : readShort l = (0, 0, 11) := by
          unfold readShort
          rw [if_pos (by have := hjl.out; omega)]
        have h0 := HRS.out.1
        have h1 := HRS.out.2.1
        have h2 := HRS.out.2.2
        rw [hrs] at h0 h1 h2
        subst h0 h1 h2
        have HE := Aside0.mk h10
        have hen : ((l.length : Int) == 10) = true := by simp; omega
        clear hrs HRS h10
        go_wp2
        go_ret3
        exact ⟨rfl, rfl⟩
      · have hrs : readShort l = (0, 0, 10) := by
          have := hjl.out
          have := lead_le l
          unfold readShort
          rw [if_neg (by omega), if_pos (by omega)]
        have h0 := HRS.out.1
        have h1 := HRS.out.2.1
        have h2 := HRS.out.2.2
        rw [hrs] at h0 h1 h2
        subst h0 h1 h2
        have hen : ((l.length : Int) == 10) = false := by simp; omega
        clear hrs HRS
        go_wp2
        go_ret3
        exact ⟨rfl, rfl⟩
end Go.Proofs.Ytfefpbnhpncmlaa.RefI
