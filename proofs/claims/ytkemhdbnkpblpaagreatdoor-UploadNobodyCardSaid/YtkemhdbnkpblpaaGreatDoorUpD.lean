/- A marker is a version that is right. -/
import Derived.Test.YtkemhdbnkpblpaaGreatDoorUpC
namespace Go.Proofs.YtkemhdbnkpblpaaGreatDoor.UpD
open Go.RowKit Go.Proofs.YtkemhdbnkpblpaaGreatDoor.Agg Go.Proofs.YtkemhdbnkpblpaaGreatDoor.UpC
set_option linter.unusedVariables false
set_option linter.unusedSimpArgs false

/-- No text. -/
abbrev E : Value := .string { data := #[] }
set_option maxRecDepth 100000 in
theorem texts_calls (w : World) (B k b n : Nat) (v : Value) (hb : w.heap[b]? = some (.cells (List.replicate n E).toArray 9 (0, 0))) (hr : Row w B v k) (hk : k + n < 100) :
    Calls Tryz.prog 106 #[v, .slice (some ⟨b, 0, none⟩) n n] w (Bytes (k + n) w) := by
  have HR := Aside1.mk hr
  have HG := Aside1.mk hb
  have hlt := (Array.getElem?_eq_some_iff.1 hb).1
  clear hr hb
  go_enter Tryz.func106, Tryz.ntmps106
  go_wp2
  go_loopw [0, 9] (fun v0 v9 wr => ∃ (j : Nat), v9 = .int .i64 (j : Int) ∧ j ≤ n ∧ Aside1 (∃ B', Row wr B' v0 (k + j)) ∧ Aside1 (Below w.heap.size w wr)) (fun _ u _ => n - (intOf u).toNat)
  case atStart => exact ⟨0, rfl, Nat.zero_le _, ⟨B, HR.out⟩, ⟨Below.refl _ _⟩⟩
  case round =>
    obtain ⟨j, rfl, hj, HO, HB⟩ := hrel
    obtain ⟨wo, rfl⟩ : ∃ wo : World, wo = wr := ⟨_, rfl⟩
    by_cases hjl : j < n
    · have hc0 : wo.cell? ⟨b, j, none⟩ = some E := by
        rw [cell_of_row wo b j _ 9 (0, 0) (keep HB.out HG.out hlt)]
        simp [hjl]
      obtain ⟨B', hro⟩ := HO.out
      have HRO := Aside1.mk hro
      clear hro HO
      go_wp2_with fail
      refine (text_calls _ B' (k + j) _ HRO.out (by omega)).mono ?_
      rintro e w2 ⟨v2, rfl, hr2, hb2⟩
      have HB2 := Aside1.mk (HB.out.trans (hb2.mono HB.out.size))
      have HR2 : Aside1 (∃ B', Row w2 B' v2 (k + (j + 1))) := ⟨_, hr2⟩
      clear hr2 hb2 HB HRO hc0
      go_wp2
      go_roundw
      case rel => exact ⟨j + 1, by go_num, by omega, HR2, HB2⟩
      case measure => simp [intOf]; omega
    · obtain rfl : j = n := by omega
      go_wp2
      go_ret
      obtain ⟨B', hro⟩ := HO.out
      exact ⟨_, B', rfl, hro, HB.out⟩

theorem value_none (w : World) : Calls Tryz.prog 103 #[E] w fun e w' => e = .returned (.bool true) ∧ w = w' := by
  go_enter Tryz.func103, Tryz.ntmps103
  go_wp2_with fail
  refine wp_loop_rounds 1 ?_
  rw [rounds_succ]
  go_wp2
  go_ret
  exact ⟨rfl, rfl⟩
theorem text_none (w : World) : Calls Tryz.prog 48 #[E, .int .i64 60] w fun e w' => e = .returned (.bool true) ∧ w = w' := by
  go_enter Tryz.func48, Tryz.ntmps48
  go_wp2_with fail
  refine (value_none _).mono ?_
  rintro e w1 ⟨rfl, rfl⟩
  go_wp2
  go_ret
  exact ⟨rfl, rfl⟩
theorem words_none (w : World) : Calls Tryz.prog 49 #[.slice none 0 0] w fun e w' => e = .returned (.bool true) ∧ w = w' := by
  go_enter Tryz.func49, Tryz.ntmps49
  go_wp2_with fail
  refine wp_loop_rounds 1 ?_
  rw [rounds_succ]
  go_wp2
  go_ret
  exact ⟨rfl, rfl⟩

/-- A marker. -/
abbrev V : Array Value := #[.int .i64 1, .int .i64 2, .int .i64 0, .int .i64 0, E, E, .slice none 0 0]
theorem bare_calls (w : World) : Calls Tryz.prog 50 #[.agg V] w fun e w' => e = .returned (.bool true) ∧ Below w.heap.size w w' := by
  go_enter Tryz.func50, Tryz.ntmps50
  go_wp2
  go_ret
  exact ⟨rfl, (Below.refl _ _).alloc (Nat.le_refl _) _⟩

set_option maxHeartbeats 4000000 in
set_option maxRecDepth 100000 in
theorem bytes_calls (w : World) : Calls Tryz.prog 51 #[.agg V] w (Bytes 7 w) := by
  have hB0 := (Below.refl w.heap.size w).alloc (Nat.le_refl _) (.cells V 47)
  have g0 := heap_new w (.cells V 47)
  have hs : w.heap.size < (w.alloc (.cells V 47)).heap.size := by simp
  go_enter Tryz.func51, Tryz.ntmps51
  go_wp2_with fail
  generalize (w.alloc (.cells V 47)) = W at *
  refine wp_region_held_drew (S := fun w' => w'.heap[w.heap.size]? = some (.cells V 47 (0, 0)) ∧ Below w.heap.size w w' ∧ w.heap.size < w'.heap.size) (by kernel_rfl) ⟨g0, Below.drew hB0, hs⟩ (fun hW => ?_)
  refine wpAnyH_take (i := 0) (oi := ⟨some 6, _, _, _, _, _⟩) (v := .pointer (some ⟨w.heap.size, 0, none⟩)) rfl (by kernel_rfl) (by kernel_rfl) (by kernel_rfl) (fun _ _ _ h => h) (.inl ⟨by rfl, fun W1 h1 => by go_simp⟩) hW ?_
  try simp only [Act.put, List.setIfInBounds_toArray, List.set_cons_zero, List.set_cons_succ]
  refine wpAnyH_take (i := 1) (oi := ⟨some 7, _, _, _, _, _⟩) (v := .int .i64 1) rfl (by kernel_rfl) (by kernel_rfl) (by kernel_rfl) (fun _ _ _ h => h) (.inl ⟨by rfl, fun W1 h1 => by have x0 : W1.cell? ⟨w.heap.size, 0, none⟩ = some (.int .i64 1) := (by rw [cell_of_row W1 _ 0 _ 47 (0, 0) h1.1]; rfl); go_simp⟩) hW ?_
  try simp only [Act.put, List.setIfInBounds_toArray, List.set_cons_zero, List.set_cons_succ]
  refine wpAnyH_take (i := 2) (oi := ⟨some 8, _, _, _, _, _⟩) (v := .pointer (some ⟨w.heap.size, 1, none⟩)) rfl (by kernel_rfl) (by kernel_rfl) (by kernel_rfl) (fun _ _ _ h => h) (.inl ⟨by rfl, fun W1 h1 => by go_simp⟩) hW ?_
  try simp only [Act.put, List.setIfInBounds_toArray, List.set_cons_zero, List.set_cons_succ]
  refine wpAnyH_take (i := 3) (oi := ⟨some 9, _, _, _, _, _⟩) (v := .int .i64 2) rfl (by kernel_rfl) (by kernel_rfl) (by kernel_rfl) (fun _ _ _ h => h) (.inl ⟨by rfl, fun W1 h1 => by have x0 : W1.cell? ⟨w.heap.size, 1, none⟩ = some (.int .i64 2) := (by rw [cell_of_row W1 _ 1 _ 47 (0, 0) h1.1]; rfl); go_simp⟩) hW ?_
  try simp only [Act.put, List.setIfInBounds_toArray, List.set_cons_zero, List.set_cons_succ]
  refine wpAnyH_take (i := 4) (oi := ⟨some 10, _, _, _, _, _⟩) (v := .pointer (some ⟨w.heap.size, 2, none⟩)) rfl (by kernel_rfl) (by kernel_rfl) (by kernel_rfl) (fun _ _ _ h => h) (.inl ⟨by rfl, fun W1 h1 => by go_simp⟩) hW ?_
  try simp only [Act.put, List.setIfInBounds_toArray, List.set_cons_zero, List.set_cons_succ]
  refine wpAnyH_take (i := 5) (oi := ⟨some 11, _, _, _, _, _⟩) (v := .int .i64 0) rfl (by kernel_rfl) (by kernel_rfl) (by kernel_rfl) (fun _ _ _ h => h) (.inl ⟨by rfl, fun W1 h1 => by have x0 : W1.cell? ⟨w.heap.size, 2, none⟩ = some (.int .i64 0) := (by rw [cell_of_row W1 _ 2 _ 47 (0, 0) h1.1]; rfl); go_simp⟩) hW ?_
  try simp only [Act.put, List.setIfInBounds_toArray, List.set_cons_zero, List.set_cons_succ]
  refine wpAnyH_take (i := 6) (oi := ⟨some 12, _, _, _, _, _⟩) (v := .pointer (some ⟨w.heap.size, 3, none⟩)) rfl (by kernel_rfl) (by kernel_rfl) (by kernel_rfl) (fun _ _ _ h => h) (.inl ⟨by rfl, fun W1 h1 => by go_simp⟩) hW ?_
  try simp only [Act.put, List.setIfInBounds_toArray, List.set_cons_zero, List.set_cons_succ]
  refine wpAnyH_take (i := 7) (oi := ⟨some 13, _, _, _, _, _⟩) (v := .int .i64 0) rfl (by kernel_rfl) (by kernel_rfl) (by kernel_rfl) (fun _ _ _ h => h) (.inl ⟨by rfl, fun W1 h1 => by have x0 : W1.cell? ⟨w.heap.size, 3, none⟩ = some (.int .i64 0) := (by rw [cell_of_row W1 _ 3 _ 47 (0, 0) h1.1]; rfl); go_simp⟩) hW ?_
  try simp only [Act.put, List.setIfInBounds_toArray, List.set_cons_zero, List.set_cons_succ]
  refine wpAnyH_take (i := 10) (oi := ⟨some 16, _, _, _, _, _⟩) (v := .pointer (some ⟨w.heap.size, 4, none⟩)) rfl (by kernel_rfl) (by kernel_rfl) (by kernel_rfl) (fun _ _ _ h => h) (.inl ⟨by rfl, fun W1 h1 => by go_simp⟩) hW ?_
  try simp only [Act.put, List.setIfInBounds_toArray, List.set_cons_zero, List.set_cons_succ]
  refine wpAnyH_take (i := 11) (oi := ⟨some 17, _, _, _, _, _⟩) (v := E) rfl (by kernel_rfl) (by kernel_rfl) (by kernel_rfl) (fun _ _ _ h => h) (.inl ⟨by rfl, fun W1 h1 => by have x0 : W1.cell? ⟨w.heap.size, 4, none⟩ = some (E) := (by rw [cell_of_row W1 _ 4 _ 47 (0, 0) h1.1]; rfl); go_simp⟩) hW ?_
  try simp only [Act.put, List.setIfInBounds_toArray, List.set_cons_zero, List.set_cons_succ]
  refine wpAnyH_take (i := 12) (oi := ⟨some 18, _, _, _, _, _⟩) (v := .pointer (some ⟨w.heap.size, 5, none⟩)) rfl (by kernel_rfl) (by kernel_rfl) (by kernel_rfl) (fun _ _ _ h => h) (.inl ⟨by rfl, fun W1 h1 => by go_simp⟩) hW ?_
  try simp only [Act.put, List.setIfInBounds_toArray, List.set_cons_zero, List.set_cons_succ]
  refine wpAnyH_take (i := 13) (oi := ⟨some 19, _, _, _, _, _⟩) (v := E) rfl (by kernel_rfl) (by kernel_rfl) (by kernel_rfl) (fun _ _ _ h => h) (.inl ⟨by rfl, fun W1 h1 => by have x0 : W1.cell? ⟨w.heap.size, 5, none⟩ = some (E) := (by rw [cell_of_row W1 _ 5 _ 47 (0, 0) h1.1]; rfl); go_simp⟩) hW ?_
  try simp only [Act.put, List.setIfInBounds_toArray, List.set_cons_zero, List.set_cons_succ]
  refine wpAnyH_ready (rs := [8, 14]) (by kernel_rfl) (by simp) (AllReadyH.cons rfl (fun K1 hK1 => ?_) (AllReadyH.cons rfl (fun K2 hK2 => ?_) AllReadyH.nil))
  · skip
    go_simp
    have g1 : ((W).alloc (.cells #[.int .i64 1, .int .i64 2, .int .i64 0, .int .i64 0] 3)).drew.heap[(W).heap.size]? = some (.cells #[.int .i64 1, .int .i64 2, .int .i64 0, .int .i64 0] 3) := heap_new (W) (.cells #[.int .i64 1, .int .i64 2, .int .i64 0, .int .i64 0] 3)
    have b1 : Below (W.drew).heap.size (W.drew) ((W).alloc (.cells #[.int .i64 1, .int .i64 2, .int .i64 0, .int .i64 0] 3)).drew := (have h := (Below.refl (W).heap.size (W)).alloc (Nat.le_refl _) (.cells #[.int .i64 1, .int .i64 2, .int .i64 0, .int .i64 0] 3); ⟨h.os, h.tape, h.output, h.size, h.block⟩)
    refine hK1.out _ _ ⟨on hW.1 b1, hW.2.1.trans (b1.mono hW.2.1.size), by simp; have := hW.2.2; (try simp at this); omega⟩ (fun hW1 => ?_)
    try simp only [Act.put, List.setIfInBounds_toArray, List.set_cons_zero, List.set_cons_succ]
    generalize ((W).alloc (.cells #[.int .i64 1, .int .i64 2, .int .i64 0, .int .i64 0] 3)).drew = w1 at *
    refine wpAnyH_ready (rs := [9, 14]) (by kernel_rfl) (by simp) (AllReadyH.cons rfl (fun K3 hK3 => ?_) (AllReadyH.cons rfl (fun K4 hK4 => ?_) AllReadyH.nil))
    · skip
      go_simp
      refine (shorts_calls _ 0 0 _ _ [1, 2, 0, 0] (by simp) g1 (Row.nil _ _) (by simp)).mono ?_
      rintro e w3 ⟨v3, B3, rfl, r3, b3⟩
      have gg13 := on g1 b3
      refine hK3.out _ _ ⟨on hW1.1 b3, hW1.2.1.trans (b3.mono hW1.2.1.size), Nat.lt_of_lt_of_le hW1.2.2 b3.size⟩ (fun hW3 => ?_)
      try simp only [Act.put, List.setIfInBounds_toArray, List.set_cons_zero, List.set_cons_succ]
      refine wpAnyH_ready (rs := [14]) (by kernel_rfl) (by simp) (AllReadyH.cons rfl (fun K5 hK5 => ?_) AllReadyH.nil)
      go_simp
      have g5 : ((w3).alloc (.cells #[E, E] 9)).heap[(w3).heap.size]? = some (.cells #[E, E] 9) := heap_new (w3) (.cells #[E, E] 9)
      have b5 : Below (w3).heap.size (w3) ((w3).alloc (.cells #[E, E] 9)) := (have h := (Below.refl (w3).heap.size (w3)).alloc (Nat.le_refl _) (.cells #[E, E] 9); ⟨h.os, h.tape, h.output, h.size, h.block⟩)
      have gg15 := on gg13 b5
      have r5 := r3.below b5
      refine hK5.out _ _ ⟨on hW3.1 b5, hW3.2.1.trans (b5.mono hW3.2.1.size), by simp; have := hW3.2.2; (try simp at this); omega⟩ (fun hW5 => ?_)
      try simp only [Act.put, List.setIfInBounds_toArray, List.set_cons_zero, List.set_cons_succ]
      generalize ((w3).alloc (.cells #[E, E] 9)) = w5 at *
      refine wpAnyH_ready (rs := [15]) (by kernel_rfl) (by simp) (AllReadyH.cons rfl (fun K6 hK6 => ?_) AllReadyH.nil)
      go_simp
      refine (texts_calls _ _ 4 _ 2 _ g5 r5 (by omega)).mono ?_
      rintro e w6 ⟨v6, B6, rfl, r6, b6⟩
      have gg16 := on gg15 b6
      have gg26 := on g5 b6
      refine hK6.out _ _ ⟨on hW5.1 b6, hW5.2.1.trans (b6.mono hW5.2.1.size), Nat.lt_of_lt_of_le hW5.2.2 b6.size⟩ (fun hW6 => ?_)
      try simp only [Act.put, List.setIfInBounds_toArray, List.set_cons_zero, List.set_cons_succ]
      refine wpAnyH_take (i := 16) (oi := ⟨some 3, _, _, _, _, _⟩) (v := v6) rfl (by kernel_rfl) (by kernel_rfl) (by kernel_rfl) (fun _ _ _ h => h) (.inl ⟨by rfl, fun W1 h1 => by go_simp⟩) hW6 ?_
      try simp only [Act.put, List.setIfInBounds_toArray, List.set_cons_zero, List.set_cons_succ]
      refine wpAnyH_done (by kernel_rfl) ?_ _
      have x6 : w6.cell? ⟨w.heap.size, 6, none⟩ = some (.slice none 0 0) := by rw [cell_of_row _ _ 6 _ 47 (0, 0) hW6.1]; rfl
      have HF := Aside1.mk (And.intro hW6.2.1 r6)
      have hlt := hW6.2.2
      clear hB0 g0 hs hW
      go_wp2_with fail
      refine (shorts_calls _ _ 6 _ _ [0] (by simp) (heap_new _ _) (HF.out.2.below ((Below.refl _ _).alloc (Nat.le_refl _) _)) (by simp)).mono ?_
      rintro e wz ⟨vz, Bz, rfl, rz, bz⟩
      have y6 : wz.cell? ⟨w.heap.size, 6, none⟩ = some (.slice none 0 0) := (bz.cell (p := ⟨w.heap.size, 6, none⟩) (by simp; omega)).trans (by rw [World.cell?_alloc_lt _ _ _ hlt]; exact x6)
      have HZ := Aside1.mk (And.intro ((HF.out.1.alloc HF.out.1.size _).trans (bz.mono (by have := HF.out.1.size; simp; omega))) rz)
      clear rz bz HF
      go_wp2_with fail
      refine wp_loop_rounds 1 ?_
      rw [rounds_succ]
      go_wp2
      go_ret
      exact ⟨_, _, rfl, HZ.out.2, HZ.out.1⟩
    · skip
      go_simp
      have g4 : ((w1).alloc (.cells #[E, E] 9)).heap[(w1).heap.size]? = some (.cells #[E, E] 9) := heap_new (w1) (.cells #[E, E] 9)
      have b4 : Below (w1).heap.size (w1) ((w1).alloc (.cells #[E, E] 9)) := (have h := (Below.refl (w1).heap.size (w1)).alloc (Nat.le_refl _) (.cells #[E, E] 9); ⟨h.os, h.tape, h.output, h.size, h.block⟩)
      have gg14 := on g1 b4
      refine hK4.out _ _ ⟨on hW1.1 b4, hW1.2.1.trans (b4.mono hW1.2.1.size), by simp; have := hW1.2.2; (try simp at this); omega⟩ (fun hW4 => ?_)
      try simp only [Act.put, List.setIfInBounds_toArray, List.set_cons_zero, List.set_cons_succ]
      generalize ((w1).alloc (.cells #[E, E] 9)) = w4 at *
      refine wpAnyH_ready (rs := [9]) (by kernel_rfl) (by simp) (AllReadyH.cons rfl (fun K7 hK7 => ?_) AllReadyH.nil)
      go_simp
      refine (shorts_calls _ 0 0 _ _ [1, 2, 0, 0] (by simp) gg14 (Row.nil _ _) (by simp)).mono ?_
      rintro e w7 ⟨v7, B7, rfl, r7, b7⟩
      have gg17 := on gg14 b7
      have gg27 := on g4 b7
      refine hK7.out _ _ ⟨on hW4.1 b7, hW4.2.1.trans (b7.mono hW4.2.1.size), Nat.lt_of_lt_of_le hW4.2.2 b7.size⟩ (fun hW7 => ?_)
      try simp only [Act.put, List.setIfInBounds_toArray, List.set_cons_zero, List.set_cons_succ]
      refine wpAnyH_ready (rs := [15]) (by kernel_rfl) (by simp) (AllReadyH.cons rfl (fun K8 hK8 => ?_) AllReadyH.nil)
      go_simp
      refine (texts_calls _ _ 4 _ 2 _ gg27 r7 (by omega)).mono ?_
      rintro e w8 ⟨v8, B8, rfl, r8, b8⟩
      have gg18 := on gg17 b8
      have gg28 := on gg27 b8
      refine hK8.out _ _ ⟨on hW7.1 b8, hW7.2.1.trans (b8.mono hW7.2.1.size), Nat.lt_of_lt_of_le hW7.2.2 b8.size⟩ (fun hW8 => ?_)
      try simp only [Act.put, List.setIfInBounds_toArray, List.set_cons_zero, List.set_cons_succ]
      refine wpAnyH_take (i := 16) (oi := ⟨some 3, _, _, _, _, _⟩) (v := v8) rfl (by kernel_rfl) (by kernel_rfl) (by kernel_rfl) (fun _ _ _ h => h) (.inl ⟨by rfl, fun W1 h1 => by go_simp⟩) hW8 ?_
      try simp only [Act.put, List.setIfInBounds_toArray, List.set_cons_zero, List.set_cons_succ]
      refine wpAnyH_done (by kernel_rfl) ?_ _
      have x6 : w8.cell? ⟨w.heap.size, 6, none⟩ = some (.slice none 0 0) := by rw [cell_of_row _ _ 6 _ 47 (0, 0) hW8.1]; rfl
      have HF := Aside1.mk (And.intro hW8.2.1 r8)
      have hlt := hW8.2.2
      clear hB0 g0 hs hW
      go_wp2_with fail
      refine (shorts_calls _ _ 6 _ _ [0] (by simp) (heap_new _ _) (HF.out.2.below ((Below.refl _ _).alloc (Nat.le_refl _) _)) (by simp)).mono ?_
      rintro e wz ⟨vz, Bz, rfl, rz, bz⟩
      have y6 : wz.cell? ⟨w.heap.size, 6, none⟩ = some (.slice none 0 0) := (bz.cell (p := ⟨w.heap.size, 6, none⟩) (by simp; omega)).trans (by rw [World.cell?_alloc_lt _ _ _ hlt]; exact x6)
      have HZ := Aside1.mk (And.intro ((HF.out.1.alloc HF.out.1.size _).trans (bz.mono (by have := HF.out.1.size; simp; omega))) rz)
      clear rz bz HF
      go_wp2_with fail
      refine wp_loop_rounds 1 ?_
      rw [rounds_succ]
      go_wp2
      go_ret
      exact ⟨_, _, rfl, HZ.out.2, HZ.out.1⟩
  · skip
    go_simp
    have g2 : ((W).alloc (.cells #[E, E] 9)).drew.heap[(W).heap.size]? = some (.cells #[E, E] 9) := heap_new (W) (.cells #[E, E] 9)
    have b2 : Below (W.drew).heap.size (W.drew) ((W).alloc (.cells #[E, E] 9)).drew := (have h := (Below.refl (W).heap.size (W)).alloc (Nat.le_refl _) (.cells #[E, E] 9); ⟨h.os, h.tape, h.output, h.size, h.block⟩)
    refine hK2.out _ _ ⟨on hW.1 b2, hW.2.1.trans (b2.mono hW.2.1.size), by simp; have := hW.2.2; (try simp at this); omega⟩ (fun hW2 => ?_)
    try simp only [Act.put, List.setIfInBounds_toArray, List.set_cons_zero, List.set_cons_succ]
    generalize ((W).alloc (.cells #[E, E] 9)).drew = w2 at *
    refine wpAnyH_ready (rs := [8]) (by kernel_rfl) (by simp) (AllReadyH.cons rfl (fun K9 hK9 => ?_) AllReadyH.nil)
    go_simp
    have g9 : ((w2).alloc (.cells #[.int .i64 1, .int .i64 2, .int .i64 0, .int .i64 0] 3)).heap[(w2).heap.size]? = some (.cells #[.int .i64 1, .int .i64 2, .int .i64 0, .int .i64 0] 3) := heap_new (w2) (.cells #[.int .i64 1, .int .i64 2, .int .i64 0, .int .i64 0] 3)
    have b9 : Below (w2).heap.size (w2) ((w2).alloc (.cells #[.int .i64 1, .int .i64 2, .int .i64 0, .int .i64 0] 3)) := (have h := (Below.refl (w2).heap.size (w2)).alloc (Nat.le_refl _) (.cells #[.int .i64 1, .int .i64 2, .int .i64 0, .int .i64 0] 3); ⟨h.os, h.tape, h.output, h.size, h.block⟩)
    have gg29 := on g2 b9
    refine hK9.out _ _ ⟨on hW2.1 b9, hW2.2.1.trans (b9.mono hW2.2.1.size), by simp; have := hW2.2.2; (try simp at this); omega⟩ (fun hW9 => ?_)
    try simp only [Act.put, List.setIfInBounds_toArray, List.set_cons_zero, List.set_cons_succ]
    generalize ((w2).alloc (.cells #[.int .i64 1, .int .i64 2, .int .i64 0, .int .i64 0] 3)) = w9 at *
    refine wpAnyH_ready (rs := [9]) (by kernel_rfl) (by simp) (AllReadyH.cons rfl (fun K10 hK10 => ?_) AllReadyH.nil)
    go_simp
    refine (shorts_calls _ 0 0 _ _ [1, 2, 0, 0] (by simp) g9 (Row.nil _ _) (by simp)).mono ?_
    rintro e w10 ⟨v10, B10, rfl, r10, b10⟩
    have gg110 := on g9 b10
    have gg210 := on gg29 b10
    refine hK10.out _ _ ⟨on hW9.1 b10, hW9.2.1.trans (b10.mono hW9.2.1.size), Nat.lt_of_lt_of_le hW9.2.2 b10.size⟩ (fun hW10 => ?_)
    try simp only [Act.put, List.setIfInBounds_toArray, List.set_cons_zero, List.set_cons_succ]
    refine wpAnyH_ready (rs := [15]) (by kernel_rfl) (by simp) (AllReadyH.cons rfl (fun K11 hK11 => ?_) AllReadyH.nil)
    go_simp
    refine (texts_calls _ _ 4 _ 2 _ gg210 r10 (by omega)).mono ?_
    rintro e w11 ⟨v11, B11, rfl, r11, b11⟩
    have gg111 := on gg110 b11
    have gg211 := on gg210 b11
    refine hK11.out _ _ ⟨on hW10.1 b11, hW10.2.1.trans (b11.mono hW10.2.1.size), Nat.lt_of_lt_of_le hW10.2.2 b11.size⟩ (fun hW11 => ?_)
    try simp only [Act.put, List.setIfInBounds_toArray, List.set_cons_zero, List.set_cons_succ]
    refine wpAnyH_take (i := 16) (oi := ⟨some 3, _, _, _, _, _⟩) (v := v11) rfl (by kernel_rfl) (by kernel_rfl) (by kernel_rfl) (fun _ _ _ h => h) (.inl ⟨by rfl, fun W1 h1 => by go_simp⟩) hW11 ?_
    try simp only [Act.put, List.setIfInBounds_toArray, List.set_cons_zero, List.set_cons_succ]
    refine wpAnyH_done (by kernel_rfl) ?_ _
    have x6 : w11.cell? ⟨w.heap.size, 6, none⟩ = some (.slice none 0 0) := by rw [cell_of_row _ _ 6 _ 47 (0, 0) hW11.1]; rfl
    have HF := Aside1.mk (And.intro hW11.2.1 r11)
    have hlt := hW11.2.2
    clear hB0 g0 hs hW
    go_wp2_with fail
    refine (shorts_calls _ _ 6 _ _ [0] (by simp) (heap_new _ _) (HF.out.2.below ((Below.refl _ _).alloc (Nat.le_refl _) _)) (by simp)).mono ?_
    rintro e wz ⟨vz, Bz, rfl, rz, bz⟩
    have y6 : wz.cell? ⟨w.heap.size, 6, none⟩ = some (.slice none 0 0) := (bz.cell (p := ⟨w.heap.size, 6, none⟩) (by simp; omega)).trans (by rw [World.cell?_alloc_lt _ _ _ hlt]; exact x6)
    have HZ := Aside1.mk (And.intro ((HF.out.1.alloc HF.out.1.size _).trans (bz.mono (by have := HF.out.1.size; simp; omega))) rz)
    clear rz bz HF
    go_wp2_with fail
    refine wp_loop_rounds 1 ?_
    rw [rounds_succ]
    go_wp2
    go_ret
    exact ⟨_, _, rfl, HZ.out.2, HZ.out.1⟩

theorem within_calls (w : World) (a b c : Int) (h1 : b ≤ a) (h2 : a ≤ c) : Calls Tryz.prog 47 #[.int .i64 a, .int .i64 b, .int .i64 c] w fun e w' => e = .returned (.bool true) ∧ w = w' := by
  go_enter Tryz.func47, Tryz.ntmps47
  go_wp2
  go_ret
  exact ⟨by simp [h1, h2], rfl⟩
theorem i47 : (Tryz.prog.info? 47).map (·.size) = some V.size := by kernel_rfl
set_option maxHeartbeats 4000000 in
set_option maxRecDepth 100000 in
theorem right_calls (w : World) : Calls Tryz.prog 11 #[.agg V] w fun e w' => e = .returned (.bool true) ∧ Below w.heap.size w w' := by
  have g := heap_new w (.cells V 47)
  have hB := Aside1.mk ((Below.refl w.heap.size w).alloc (Nat.le_refl _) (.cells V 47))
  go_enter Tryz.func11, Tryz.ntmps11
  have x0 : (w.alloc (.cells V 47)).cell? ⟨w.heap.size, 0, none⟩ = some (.int .i64 1) := by rw [cell_of_row _ _ 0 _ 47 (0, 0) g]; rfl
  go_wp2_with fail
  refine (within_calls _ _ _ _ (by omega) (by omega)).mono ?_
  rintro e w1 ⟨rfl, rfl⟩
  go_wp2_with fail
  refine (within_calls _ _ _ _ (by omega) (by omega)).mono ?_
  rintro e w1 ⟨rfl, rfl⟩
  go_wp2_with fail
  refine (within_calls _ _ _ _ (by omega) (by omega)).mono ?_
  rintro e w1 ⟨rfl, rfl⟩
  go_wp2_with fail
  refine (within_calls _ _ _ _ (by omega) (by omega)).mono ?_
  rintro e w1 ⟨rfl, rfl⟩
  go_wp2_with fail
  refine (text_none _).mono ?_
  rintro e w1 ⟨rfl, rfl⟩
  go_wp2_with fail
  refine (text_none _).mono ?_
  rintro e w1 ⟨rfl, rfl⟩
  go_wp2_with fail
  refine (words_none _).mono ?_
  rintro e w1 ⟨rfl, rfl⟩
  go_wp2_with (first | ((try (refine gate_on (by rfl) ?_; dsimp only)); refine wpList_load_row rfl 47 _ rfl _ rfl 47 V (0, 0) _ g Tryz.underlying47 rfl i47 ?_))
  refine (bare_calls _).mono ?_
  rintro e w1 ⟨rfl, hb⟩
  have HB := Aside1.mk (hB.out.trans (hb.mono (by simp)))
  have g1 := keep hb g (by simp)
  clear hb
  go_wp2_with (first | ((try (refine gate_on (by rfl) ?_; dsimp only)); refine wpList_load_row rfl 47 _ rfl _ rfl 47 V (0, 0) _ g1 Tryz.underlying47 rfl i47 ?_))
  refine (bytes_calls _).mono ?_
  rintro e w2 ⟨v, B, rfl, hr, hb⟩
  have HB2 := Aside1.mk (HB.out.trans (hb.mono HB.out.size))
  obtain ⟨A, c, rfl⟩ : ∃ A c, v = .slice A 7 c := by
    obtain ⟨xs, ⟨_, h2⟩, _⟩ := hr
    rcases h2 with ⟨_, h⟩ | ⟨gg, cap, cur, h, _⟩
    · omega
    · exact ⟨_, _, h⟩
  clear hr hb g g1 HB hB
  go_wp2
  go_ret
  exact ⟨rfl, HB2.out⟩
end Go.Proofs.YtkemhdbnkpblpaaGreatDoor.UpD
