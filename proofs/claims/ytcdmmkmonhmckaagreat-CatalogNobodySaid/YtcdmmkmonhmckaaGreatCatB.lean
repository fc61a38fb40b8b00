/- The catalog's calls of no pool: contracts. -/
import Derived.Test.YtcdmmkmonhmckaaGreatCatA
import Derived.Deep.RegionHeld3
namespace Go.Proofs.YtcdmmkmonhmckaaGreat.CatB
open Go.RowKit Go.Proofs.YtcdmmkmonhmckaaGreat.Agg Go.Proofs.YtcdmmkmonhmckaaGreat.CowA Go.Proofs.YtcdmmkmonhmckaaGreat.DeadA Go.Proofs.YtcdmmkmonhmckaaGreat.CatA
set_option linter.unusedVariables false
set_option linter.unusedSimpArgs false

theorem i94 : (Tryz.prog.info? 94).map (·.size) = some Tryz.zeroCells94.size := by kernel_rfl
theorem a94 : Tryz.zeroCells94.all (·.oneCell') = true := by decide +kernel

/-- A whole row is loaded, in any world that keeps it. -/
theorem yieldsIf_load_row {P : Program} {ops : Array Oper} {S : World → Prop} {op : Oper} {a : Act} (hw : Region.wanted op (yielded ops a.tmps) = true) (ty : TypeId) (x : Operand) (ho : op.op = .load ty x)
    (g : Nat) (hx : a.eval x = .pointer (some ⟨g, 0, none⟩)) (t : TypeId) (cs : Array Value) (fr : Nat × Nat) (d : TypeDesc) (hg : ∀ w, S w → w.heap[g]? = some (.cells cs t fr))
    (hu : P.underlying ty = some d) (hd : (match d with | .struct _ | .array _ _ => true | _ => false) = true) (hi : (P.info? ty).map (·.size) = some cs.size) : YieldsIf P ops S op (.agg cs) a :=
  .inl ⟨hw, fun w hS => by
    unfold execOp
    simp only [ho, hx, Instr.loadAt, Instr.sureAddr, Sem.run_bind, Sem.run_pure, Result.andThen_ok, run_loadVar_row w g t ty cs fr d (hg w hS) hu hd hi]⟩

theorem get124_calls (w : World) (p : Option Addr) (k : Value) (cs : Array Value) (hcs : cs.size = 36) (h : NoPool w p) : Calls Tryz.prog 124 #[.pointer p, .agg cs, k] w fun e w' => e = .returned (.tuple #[.slice none 0 0, .int .i64 1]) ∧ Below w.heap.size w w' := by
  have hB := Aside1.mk ((Below.refl w.heap.size w).alloc (Nat.le_refl _) (.cells cs 28))
  have HH := Aside1.mk (h.below hB.out)
  have g0 := Aside1.mk (heap_new w (.cells cs 28))
  have hi : (Tryz.prog.info? 28).map (·.size) = some cs.size := by rw [hcs]; exact i28
  clear h
  go_enter Tryz.func124, Tryz.ntmps124
  go_wp2_with (refine wpList_load_row rfl 28 _ rfl _ rfl 28 cs (0, 0) _ g0.out Tryz.underlying28 rfl hi ?_)
  refine (get_calls _ p k cs HH.out).mono ?_
  rintro e w1 ⟨rfl, hb⟩
  have HB := Aside1.mk (hB.out.trans (hb.mono (by simp)))
  clear hb
  go_wp2
  go_ret2
  exact ⟨rfl, HB.out⟩

set_option maxHeartbeats 4000000 in
set_option maxRecDepth 100000 in
theorem load_calls (w : World) (p : Option Addr) (n : Int) (cs : Array Value) (hcs : cs.size = 36) (h : NoPool w p) : Calls Tryz.prog 35 #[.pointer p, .agg cs, .int .i64 n] w fun e w' => e = .returned (.tuple #[.agg Tryz.zeroCells94, .int .i64 1]) ∧ Below w.heap.size w w' := by
  have hB0 := ((Below.refl w.heap.size w).alloc (Nat.le_refl _) (.cells cs 28)).alloc (by simp) (.cells Tryz.zeroCells94 94)
  have HH := Aside1.mk (h.below hB0)
  have g0 := onAlloc (heap_new w (.cells cs 28)) (.cells Tryz.zeroCells94 94)
  have g1 := heap_new (w.alloc (.cells cs 28)) (.cells Tryz.zeroCells94 94)
  have e1 : (w.alloc (.cells cs 28)).heap.size = w.heap.size + 1 := by simp
  rw [e1] at g1
  have hi : (Tryz.prog.info? 28).map (·.size) = some cs.size := by rw [hcs]; exact i28
  have hS : w.heap.size + 1 < ((w.alloc (.cells cs 28)).alloc (.cells Tryz.zeroCells94 94)).heap.size := by simp
  have hB := Aside1.mk hB0
  have G0 := Aside1.mk g0
  have G1 := Aside1.mk g1
  clear h hB0 e1 g0 g1
  go_enter Tryz.func35, Tryz.ntmps35
  go_wp2_with fail
  generalize ((w.alloc (.cells cs 28)).alloc (.cells Tryz.zeroCells94 94)) = W at *
  refine wp_region_held_drew (S := fun w' => w'.heap[w.heap.size]? = some (.cells cs 28 (0, 0)) ∧ w'.heap[w.heap.size + 1]? = some (.cells Tryz.zeroCells94 94 (0, 0)) ∧ Below W.heap.size W w') (by kernel_rfl) ⟨G0.out, G1.out, Below.drew (Below.refl _ _)⟩ (fun hW => ?_)
  refine wpAnyH_take (i := 1) rfl (by kernel_rfl) (by kernel_rfl) (by kernel_rfl) (fun _ _ _ h => h) (yieldsIf_load_row (by rfl) 28 _ rfl w.heap.size rfl 28 cs (0, 0) _ (fun _ h => h.1) Tryz.underlying28 rfl hi) hW ?_
  try simp only [Act.put, List.setIfInBounds_toArray, List.set_cons_zero, List.set_cons_succ]
  refine wpAnyH_take (i := 0) (v := .pointer p) rfl (by kernel_rfl) (by kernel_rfl) (by kernel_rfl) (fun _ _ _ h => h) (.inl ⟨by rfl, fun _ _ => by go_simp⟩) hW ?_
  try simp only [Act.put, List.setIfInBounds_toArray, List.set_cons_zero, List.set_cons_succ]
  refine wpAnyH_take (i := 2) (v := .int .i64 n) rfl (by kernel_rfl) (by kernel_rfl) (by kernel_rfl) (fun _ _ _ h => h) (.inl ⟨by rfl, fun _ _ => by go_simp⟩) hW ?_
  try simp only [Act.put, List.setIfInBounds_toArray, List.set_cons_zero, List.set_cons_succ]
  refine wpAnyH_ready (rs := [3]) (by kernel_rfl) (by simp) (AllReadyH.cons rfl (fun K1 hK1 => ?_) AllReadyH.nil)
  go_simp
  refine (idKey_calls _ _).mono ?_
  rintro e w1 ⟨v, rfl, hr, hb⟩
  refine hK1.out _ _ ⟨keep hb hW.1 (Nat.lt_of_lt_of_le (by omega) hW.2.2.size), keep hb hW.2.1 (Nat.lt_of_lt_of_le hS hW.2.2.size), hW.2.2.trans (hb.mono hW.2.2.size)⟩ (fun hW1 => ?_)
  try simp only [Act.put, List.setIfInBounds_toArray, List.set_cons_zero, List.set_cons_succ]
  refine wpAnyH_ready (rs := [4]) (by kernel_rfl) (by simp) (AllReadyH.cons rfl (fun K2 hK2 => ?_) AllReadyH.nil)
  go_simp
  refine (get124_calls _ p _ cs hcs (HH.out.below hW1.2.2)).mono ?_
  rintro e w2 ⟨rfl, b2⟩
  refine hK2.out _ _ ⟨keep b2 hW1.1 (Nat.lt_of_lt_of_le (by omega) hW1.2.2.size), keep b2 hW1.2.1 (Nat.lt_of_lt_of_le hS hW1.2.2.size), hW1.2.2.trans (b2.mono hW1.2.2.size)⟩ (fun hW2 => ?_)
  try simp only [Act.put, List.setIfInBounds_toArray, List.set_cons_zero, List.set_cons_succ]
  refine wpAnyH_take (i := 5) (v := .tuple #[.slice none 0 0, .int .i64 1]) rfl (by kernel_rfl) (by kernel_rfl) (by kernel_rfl) (fun _ _ _ h => h) (.inl ⟨by rfl, fun _ _ => by go_simp⟩) hW2 ?_
  try simp only [Act.put, List.setIfInBounds_toArray, List.set_cons_zero, List.set_cons_succ]
  refine wpAnyH_take (i := 6) (v := .slice none 0 0) rfl (by kernel_rfl) (by kernel_rfl) (by kernel_rfl) (fun _ _ _ h => h) (.inl ⟨by rfl, fun _ _ => by go_simp⟩) hW2 ?_
  try simp only [Act.put, List.setIfInBounds_toArray, List.set_cons_zero, List.set_cons_succ]
  refine wpAnyH_take (i := 7) (v := .int .i64 1) rfl (by kernel_rfl) (by kernel_rfl) (by kernel_rfl) (fun _ _ _ h => h) (.inl ⟨by rfl, fun _ _ => by go_simp⟩) hW2 ?_
  try simp only [Act.put, List.setIfInBounds_toArray, List.set_cons_zero, List.set_cons_succ]
  refine wpAnyH_take (i := 8) (v := .slice none 0 0) rfl (by kernel_rfl) (by kernel_rfl) (by kernel_rfl) (fun _ _ _ h => h) (.inl ⟨by rfl, fun _ _ => by go_simp⟩) hW2 ?_
  try simp only [Act.put, List.setIfInBounds_toArray, List.set_cons_zero, List.set_cons_succ]
  refine wpAnyH_take (i := 9) (v := .int .i64 1) rfl (by kernel_rfl) (by kernel_rfl) (by kernel_rfl) (fun _ _ _ h => h) (.inl ⟨by rfl, fun _ _ => by go_simp⟩) hW2 ?_
  try simp only [Act.put, List.setIfInBounds_toArray, List.set_cons_zero, List.set_cons_succ]
  refine wpAnyH_done (by kernel_rfl) ?_ _
  have HB := Aside1.mk (hB.out.trans (hW2.2.2.mono (by omega)))
  have hg := hW2.2.1
  clear hK1 hK2 K1 K2 hW hW1 hb b2 hB hS G0 G1 hr
  go_wp2_with (refine wpList_store_same rfl 94 _ _ rfl (w.heap.size + 1) Tryz.zeroCells94 rfl rfl 94 hg i94 a94 ?_)
  exact bodyPost_ret (res_ct (p := 6) (q := 7) _ rfl rfl hg Tryz.underlying94 rfl i94) rfl ⟨rfl, HB.out⟩

set_option maxHeartbeats 4000000 in
set_option maxRecDepth 100000 in
theorem find_calls (w : World) (p : Option Addr) (n : Int) (s : ByteArray) (hs : s.size ≤ 200) (cs : Array Value) (hcs : cs.size = 36) (h : NoPool w p) : Calls Tryz.prog 36 #[.pointer p, .agg cs, .int .i64 n, .string s] w fun e w' => e = .returned (.tuple #[.int .i64 0, .int .i64 1]) ∧ Below w.heap.size w w' := by
  have hB := Aside1.mk ((Below.refl w.heap.size w).alloc (Nat.le_refl _) (.cells cs 28))
  have HH := Aside1.mk (h.below hB.out)
  have G0 := Aside1.mk (heap_new w (.cells cs 28))
  have hi : (Tryz.prog.info? 28).map (·.size) = some cs.size := by rw [hcs]; exact i28
  have hS : w.heap.size < (w.alloc (.cells cs 28)).heap.size := by simp
  clear h
  go_enter Tryz.func36, Tryz.ntmps36
  go_wp2_with fail
  generalize (w.alloc (.cells cs 28)) = W at *
  refine wp_region_held_drew (S := fun w' => w'.heap[w.heap.size]? = some (.cells cs 28 (0, 0)) ∧ Below W.heap.size W w') (by kernel_rfl) ⟨G0.out, Below.drew (Below.refl _ _)⟩ (fun hW => ?_)
  refine wpAnyH_take (i := 1) rfl (by kernel_rfl) (by kernel_rfl) (by kernel_rfl) (fun _ _ _ h => h) (yieldsIf_load_row (by rfl) 28 _ rfl w.heap.size rfl 28 cs (0, 0) _ (fun _ h => h.1) Tryz.underlying28 rfl hi) hW ?_
  try simp only [Act.put, List.setIfInBounds_toArray, List.set_cons_zero, List.set_cons_succ]
  refine wpAnyH_take (i := 0) (v := .pointer p) rfl (by kernel_rfl) (by kernel_rfl) (by kernel_rfl) (fun _ _ _ h => h) (.inl ⟨by rfl, fun _ _ => by go_simp⟩) hW ?_
  try simp only [Act.put, List.setIfInBounds_toArray, List.set_cons_zero, List.set_cons_succ]
  refine wpAnyH_take (i := 2) (v := .int .i64 n) rfl (by kernel_rfl) (by kernel_rfl) (by kernel_rfl) (fun _ _ _ h => h) (.inl ⟨by rfl, fun _ _ => by go_simp⟩) hW ?_
  try simp only [Act.put, List.setIfInBounds_toArray, List.set_cons_zero, List.set_cons_succ]
  refine wpAnyH_take (i := 3) (v := .string s) rfl (by kernel_rfl) (by kernel_rfl) (by kernel_rfl) (fun _ _ _ h => h) (.inl ⟨by rfl, fun _ _ => by go_simp⟩) hW ?_
  try simp only [Act.put, List.setIfInBounds_toArray, List.set_cons_zero, List.set_cons_succ]
  refine wpAnyH_ready (rs := [4]) (by kernel_rfl) (by simp) (AllReadyH.cons rfl (fun K1 hK1 => ?_) AllReadyH.nil)
  go_simp
  refine (nameKey_calls _ s hs _).mono ?_
  rintro e w1 ⟨v, rfl, hr, hb⟩
  refine hK1.out _ _ ⟨keep hb hW.1 (Nat.lt_of_lt_of_le hS hW.2.size), hW.2.trans (hb.mono hW.2.size)⟩ (fun hW1 => ?_)
  try simp only [Act.put, List.setIfInBounds_toArray, List.set_cons_zero, List.set_cons_succ]
  refine wpAnyH_ready (rs := [5]) (by kernel_rfl) (by simp) (AllReadyH.cons rfl (fun K2 hK2 => ?_) AllReadyH.nil)
  go_simp
  refine (get124_calls _ p _ cs hcs (HH.out.below hW1.2)).mono ?_
  rintro e w2 ⟨rfl, b2⟩
  refine hK2.out _ _ ⟨keep b2 hW1.1 (Nat.lt_of_lt_of_le hS hW1.2.size), hW1.2.trans (b2.mono hW1.2.size)⟩ (fun hW2 => ?_)
  try simp only [Act.put, List.setIfInBounds_toArray, List.set_cons_zero, List.set_cons_succ]
  refine wpAnyH_take (i := 6) (v := .tuple #[.slice none 0 0, .int .i64 1]) rfl (by kernel_rfl) (by kernel_rfl) (by kernel_rfl) (fun _ _ _ h => h) (.inl ⟨by rfl, fun _ _ => by go_simp⟩) hW2 ?_
  try simp only [Act.put, List.setIfInBounds_toArray, List.set_cons_zero, List.set_cons_succ]
  refine wpAnyH_take (i := 7) (v := .slice none 0 0) rfl (by kernel_rfl) (by kernel_rfl) (by kernel_rfl) (fun _ _ _ h => h) (.inl ⟨by rfl, fun _ _ => by go_simp⟩) hW2 ?_
  try simp only [Act.put, List.setIfInBounds_toArray, List.set_cons_zero, List.set_cons_succ]
  refine wpAnyH_take (i := 8) (v := .int .i64 1) rfl (by kernel_rfl) (by kernel_rfl) (by kernel_rfl) (fun _ _ _ h => h) (.inl ⟨by rfl, fun _ _ => by go_simp⟩) hW2 ?_
  try simp only [Act.put, List.setIfInBounds_toArray, List.set_cons_zero, List.set_cons_succ]
  refine wpAnyH_take (i := 9) (v := .slice none 0 0) rfl (by kernel_rfl) (by kernel_rfl) (by kernel_rfl) (fun _ _ _ h => h) (.inl ⟨by rfl, fun _ _ => by go_simp⟩) hW2 ?_
  try simp only [Act.put, List.setIfInBounds_toArray, List.set_cons_zero, List.set_cons_succ]
  refine wpAnyH_take (i := 10) (v := .int .i64 1) rfl (by kernel_rfl) (by kernel_rfl) (by kernel_rfl) (fun _ _ _ h => h) (.inl ⟨by rfl, fun _ _ => by go_simp⟩) hW2 ?_
  try simp only [Act.put, List.setIfInBounds_toArray, List.set_cons_zero, List.set_cons_succ]
  refine wpAnyH_done (by kernel_rfl) ?_ _
  have HB := Aside1.mk (hB.out.trans (hW2.2.mono (by omega)))
  clear hK1 hK2 K1 K2 hW hW1 hW2 hb b2 hB hS G0 hr
  go_wp2
  go_ret2
  exact ⟨rfl, HB.out⟩

theorem ready129_calls (w : World) (p : Option Addr) (h : NoPool w p) : Calls Tryz.prog 129 #[.pointer p] w fun e w' => e = .returned (.int .i64 1) ∧ Below w.heap.size w w' := by
  have HH := Aside1.mk h
  clear h
  go_enter Tryz.func129, Tryz.ntmps129
  go_wp2_with fail
  refine (get_calls _ p (.slice none 0 0) Z28 HH.out).mono ?_
  rintro e w1 ⟨rfl, hb⟩
  have HB := Aside1.mk hb
  clear hb
  go_wp2
  go_ret
  exact ⟨rfl, HB.out⟩

theorem save_calls (w : World) (p : Option Addr) (l : Value) (cs : Array Value) (hcs : cs.size = 36) (h : NoPool w p) : Calls Tryz.prog 37 #[.pointer p, .agg cs, l] w fun e w' => e = .returned (.tuple #[.agg Z28, .int .i64 1]) ∧ Below w.heap.size w w' := by
  have hB0 := ((Below.refl w.heap.size w).alloc (Nat.le_refl _) (.cells cs 28)).alloc (by simp) (.cells Z28 28)
  have HH := Aside1.mk (h.below hB0)
  have g1 := heap_new (w.alloc (.cells cs 28)) (.cells Z28 28)
  have e1 : (w.alloc (.cells cs 28)).heap.size = w.heap.size + 1 := by simp
  rw [e1] at g1
  have hB := Aside1.mk hB0
  have G1 := Aside1.mk g1
  clear h hB0 e1 g1
  go_enter Tryz.func37, Tryz.ntmps37
  go_wp2_with fail
  refine (ready129_calls _ p HH.out).mono ?_
  rintro e w1 ⟨rfl, hb⟩
  have hg := keep hb G1.out (by simp)
  have HB := Aside1.mk (hB.out.trans (hb.mono (by simp; omega)))
  clear hb G1 hB HH
  go_wp2_with (refine wpList_store_same rfl 28 _ _ rfl (w.heap.size + 1) Z28 rfl rfl 28 hg i28 a28 ?_)
  exact bodyPost_ret (res_ct (p := 6) (q := 7) _ rfl rfl hg Tryz.underlying28 rfl i28) rfl ⟨rfl, HB.out⟩

set_option maxHeartbeats 1000000 in
set_option maxRecDepth 100000 in
theorem remove_calls (w : World) (p : Option Addr) (cs : Array Value) (hcs : cs.size = 36) (h : NoPool w p) : Calls Tryz.prog 38 #[.pointer p, .agg cs, .agg Tryz.zeroCells94] w fun e w' => e = .returned (.tuple #[.agg Z28, .int .i64 1]) ∧ Below w.heap.size w w' := by
  have hB0 := (((Below.refl w.heap.size w).alloc (Nat.le_refl _) (.cells cs 28)).alloc (by simp) (.cells Tryz.zeroCells94 94)).alloc (by simp; omega) (.cells Z28 28)
  have HH := Aside1.mk (h.below hB0)
  have g0 := onAlloc (onAlloc (heap_new w (.cells cs 28)) (.cells Tryz.zeroCells94 94)) (.cells Z28 28)
  have e1 : (w.alloc (.cells cs 28)).heap.size = w.heap.size + 1 := by simp
  have e2 : ((w.alloc (.cells cs 28)).alloc (.cells Tryz.zeroCells94 94)).heap.size = w.heap.size + 1 + 1 := by simp
  have gd := heap_new (w.alloc (.cells cs 28)) (.cells Tryz.zeroCells94 94)
  rw [e1] at gd
  have g1 := onAlloc gd (.cells Z28 28)
  have g2 := heap_new ((w.alloc (.cells cs 28)).alloc (.cells Tryz.zeroCells94 94)) (.cells Z28 28)
  rw [e2] at g2
  have hi : (Tryz.prog.info? 28).map (·.size) = some cs.size := by rw [hcs]; exact i28
  have x0 : (((w.alloc (.cells cs 28)).alloc (.cells Tryz.zeroCells94 94)).alloc (.cells Z28 28)).cell? ⟨w.heap.size + 1, 0, none⟩ = some (.int .i64 0) := by rw [cell_of_row _ _ 0 _ 94 (0, 0) g1]; rfl
  have hS : w.heap.size + 1 + 1 < (((w.alloc (.cells cs 28)).alloc (.cells Tryz.zeroCells94 94)).alloc (.cells Z28 28)).heap.size := by simp
  have hB := Aside1.mk hB0
  have G0 := Aside1.mk g0
  have G2 := Aside1.mk g2
  have HS := Aside1.mk hS
  clear h hB0 e1 e2 g0 g1 g2 gd hS
  go_enter Tryz.func38, Tryz.ntmps38
  go_wp2_with (refine wpList_load_row rfl 28 _ rfl _ rfl 28 cs (0, 0) _ G0.out Tryz.underlying28 rfl hi ?_)
  refine (load_calls _ p 0 cs hcs HH.out).mono ?_
  rintro e w1 ⟨rfl, hb⟩
  have hg := keep hb G2.out HS.out
  have HB := Aside1.mk ((hB.out.trans (hb.mono (by simp; omega))).alloc (by have := hb.size; have := HS.out; omega) (.cells Tryz.zeroCells94 94))
  have hg2 := Aside1.mk (onAlloc hg (.cells Tryz.zeroCells94 94))
  have g9 := Aside1.mk (heap_new w1 (.cells Tryz.zeroCells94 94))
  clear hb hB HH x0 G0 G2 HS hg
  go_wp2_with (first | (refine wpList_store_same rfl 94 _ _ rfl _ Tryz.zeroCells94 rfl rfl 94 g9.out i94 a94 ?_) | (refine wpList_store_same rfl 28 _ _ rfl (w.heap.size + 1 + 1) Z28 rfl rfl 28 hg2.out i28 a28 ?_))
  exact bodyPost_ret (res_ct (p := 6) (q := 7) _ rfl rfl hg2.out Tryz.underlying28 rfl i28) rfl ⟨rfl, HB.out⟩

set_option maxHeartbeats 1000000 in
set_option maxRecDepth 100000 in
theorem list_calls (w : World) (p : Option Addr) (cs : Array Value) (hcs : cs.size = 36) (h : NoPool w p) : Calls Tryz.prog 39 #[.pointer p, .agg cs] w fun e w' => e = .returned (.tuple #[.slice none 0 0, .int .i64 1]) ∧ Below w.heap.size w w' := by
  have hB0 := (((Below.refl w.heap.size w).alloc (Nat.le_refl _) (.cells cs 28)).alloc (by simp) (.cells #[.int .u8 100] 5)).alloc (by simp; omega) (.cells #[.int .u8 101] 5)
  have HH := Aside1.mk (h.below hB0)
  have G0 := Aside1.mk (heap_new w (.cells cs 28))
  have hi : (Tryz.prog.info? 28).map (·.size) = some cs.size := by rw [hcs]; exact i28
  have hB := Aside1.mk hB0
  clear h hB0
  go_enter Tryz.func39, Tryz.ntmps39
  go_wp2_with (refine wpList_load_row rfl 28 _ rfl _ rfl 28 cs (0, 0) _ G0.out Tryz.underlying28 rfl hi ?_)
  refine (range_calls _ p cs _ _ _ hcs HH.out).mono ?_
  rintro e w1 ⟨rfl, hb⟩
  have HB := Aside1.mk (hB.out.trans (hb.mono (by simp; omega)))
  clear hb hB HH G0
  go_wp2
  go_ret2
  exact ⟨rfl, HB.out⟩
end Go.Proofs.YtcdmmkmonhmckaaGreat.CatB
