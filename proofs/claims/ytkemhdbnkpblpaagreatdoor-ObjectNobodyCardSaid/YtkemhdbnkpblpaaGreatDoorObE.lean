/- A store of no sets: versions, Versions, find, Get; no condition but that there are no sets, and names are short. -/
import Derived.Test.YtkemhdbnkpblpaaGreatDoorObD
import Derived.Deep.RegionHeld3
import Derived.Lib.SmallJoins
namespace Go.Proofs.YtkemhdbnkpblpaaGreatDoor.ObE
open Go.RowKit Go.Proofs.YtkemhdbnkpblpaaGreatDoor.Agg
open Go.Proofs.YtkemhdbnkpblpaaGreatDoor.UpA (Z47 Z88 Z118 i47 i88 i118 a47 a88 a118)
open Go.Proofs.YtkemhdbnkpblpaaGreatDoor.ObB (Number)
open Go.Proofs.YtkemhdbnkpblpaaGreatDoor.ObC (Lib0 object_calls)
open Go.Proofs.YtkemhdbnkpblpaaGreatDoor.ObD
open Go.Proofs.YtkemhdbnkpblpaaGreatDoor.UpC (Row app1 appStr row_one)
set_option linter.unusedVariables false
set_option linter.unusedSimpArgs false

/-- Some slice is told. -/
def Sl (w : World) (e : Ending) (w' : World) : Prop := ∃ A n c, e = .returned (.slice A n c) ∧ Below w.heap.size w w'
theorem Row.slice {w : World} {B : Nat} {v : Value} {n : Nat} (h : Row w B v n) : ∃ A m c, v = .slice A m c := by
  obtain ⟨xs, ⟨_, h2⟩, _⟩ := h
  rcases h2 with ⟨h, _⟩ | ⟨gg, cap, cur, h, _⟩
  · exact ⟨_, _, _, h⟩
  · exact ⟨_, _, _, h⟩

theorem prefix_calls (s : ByteArray) (hs : s.size ≤ 200) (w : World) : Calls Tryz.prog 110 #[.string s] w (Sl w) := by
  have HO := Aside1.mk (row_one w w.heap.size (Nat.le_refl _) (.int .u8 111) rfl)
  have HB := Aside1.mk ((Below.refl w.heap.size w).alloc (Nat.le_refl _) (.cells #[.int .u8 111] 5))
  have hsz : w.heap.size ≤ (w.alloc (.cells #[.int .u8 111] 5)).heap.size := by simp
  go_enter Tryz.func110, Tryz.ntmps110
  go_wp2_with (first | (at_builtin; refine appStr (w0 := w) w.heap.size rfl (.tmp 3) (.tmp 4) rfl _ 1 s rfl rfl HO.out HB.out hsz (by omega) ?_; intro v1 w1 ho hb; have HO1 := Aside1.mk ho; have HB1 := Aside1.mk hb; have hs1 := hb.size; clear ho hb) | (at_builtin; refine app1 (w0 := w) w.heap.size rfl (.tmp 5) (.tmp 6) rfl _ _ (1 + s.size) rfl rfl rfl HO1.out HB1.out hs1 (by omega) ?_; intro v2 w2 ho hb; have HO2 := Aside1.mk ho; have HB2 := Aside1.mk hb; clear ho hb))
  obtain ⟨A, n, c, rfl⟩ := Row.slice HO2.out
  go_ret
  exact ⟨A, n, c, rfl, HB2.out⟩

theorem after_calls (s : ByteArray) (hs : s.size ≤ 200) (w : World) : Calls Tryz.prog 111 #[.string s] w (Sl w) := by
  have HO := Aside1.mk (row_one w w.heap.size (Nat.le_refl _) (.int .u8 111) rfl)
  have HB := Aside1.mk ((Below.refl w.heap.size w).alloc (Nat.le_refl _) (.cells #[.int .u8 111] 5))
  have hsz : w.heap.size ≤ (w.alloc (.cells #[.int .u8 111] 5)).heap.size := by simp
  go_enter Tryz.func111, Tryz.ntmps111
  go_wp2_with (first | (at_builtin; refine appStr (w0 := w) w.heap.size rfl (.tmp 3) (.tmp 4) rfl _ 1 s rfl rfl HO.out HB.out hsz (by omega) ?_; intro v1 w1 ho hb; have HO1 := Aside1.mk ho; have HB1 := Aside1.mk hb; have hs1 := hb.size; clear ho hb) | (at_builtin; refine app1 (w0 := w) w.heap.size rfl (.tmp 5) (.tmp 6) rfl _ _ (1 + s.size) rfl rfl rfl HO1.out HB1.out hs1 (by omega) ?_; intro v2 w2 ho hb; have HO2 := Aside1.mk ho; have HB2 := Aside1.mk hb; clear ho hb))
  obtain ⟨A, n, c, rfl⟩ := Row.slice HO2.out
  go_ret
  exact ⟨A, n, c, rfl, HB2.out⟩

theorem vers_calls (w : World) (p : Option Addr) (s t : ByteArray) (A1 A2 : Option Addr) (n1 n2 c1 c2 : Nat) (m : Int) (h : NoSets3 w p) : Calls Tryz.prog 64 #[.agg #[.pointer p], .agg #[.string s, .string t], .agg #[.slice A1 n1 c1, .slice A2 n2 c2], .int .i64 m] w fun e w' => e = .returned (.tuple #[.slice none 0 0, .slice none 0 0, .int .i64 1]) ∧ Below w.heap.size w w' := by
  have hB := Aside1.mk ((((Below.refl w.heap.size w).alloc (Nat.le_refl _) (.cells #[.pointer p] 28)).alloc (by simp) (.cells #[.string s, .string t] 64)).alloc (by simp; omega) (.cells #[.slice A1 n1 c1, .slice A2 n2 c2] 100))
  have HH := Aside1.mk (h.below hB.out)
  clear h
  go_enter Tryz.func64, Tryz.ntmps64
  go_wp2_with fail
  refine (state_calls _ p s t HH.out).mono ?_
  rintro e w1 ⟨rfl, hb⟩
  have HB := Aside1.mk ((hB.out.trans (hb.mono (by simp; omega))).alloc (by have := hb.size; simp at this; omega) (.cells Z118 118))
  have g9 := Aside1.mk (heap_new w1 (.cells Z118 118))
  clear hb hB HH
  go_wp2_with (refine wpList_store_same rfl 118 _ _ rfl _ Z118 rfl rfl 118 g9.out i118 a118 ?_)
  go_ret3
  exact ⟨rfl, HB.out⟩

set_option maxRecDepth 100000 in
theorem versions_calls (w : World) (p : Option Addr) (s t : ByteArray) (h : NoSets3 w p) : Calls Tryz.prog 15 #[.agg #[.pointer p], .agg #[.string s, .string t]] w fun e w' => e = .returned (.tuple #[.slice none 0 0, .slice none 0 0, .int .i64 1]) ∧ Below w.heap.size w w' := by
  have hB := Aside1.mk (((((Below.refl w.heap.size w).alloc (Nat.le_refl _) (.cells #[.pointer p] 28)).alloc (by simp) (.cells #[.string s, .string t] 64)).alloc (by simp; omega) (.cells #[.int .u8 111] 5 (1, 2))).alloc (by simp; omega) (.cells #[.int .u8 112] 5 (1, 2)))
  have HH := Aside1.mk (h.below hB.out)
  clear h
  have k1 := Go.Joins.run_convert_bytes_const_at (P := Tryz.prog) ((w.alloc (.cells #[.pointer p] 28)).alloc (.cells #[.string s, .string t] 64)) 22 5 #[.int .u8 111] 1 1 (w.heap.size + 1 + 1) (by simp) Tryz.underlying22 Tryz.underlying5
  have k2 := Go.Joins.run_convert_bytes_const_at (P := Tryz.prog) (((w.alloc (.cells #[.pointer p] 28)).alloc (.cells #[.string s, .string t] 64)).alloc (.cells #[.int .u8 111] 5 (1, 2))) 22 5 #[.int .u8 112] 1 1 (w.heap.size + 1 + 1 + 1) (by simp) Tryz.underlying22 Tryz.underlying5
  go_enter Tryz.func15, Tryz.ntmps15
  go_wp2_with fail
  refine (vers_calls _ p s t _ _ _ _ _ _ _ HH.out).mono ?_
  rintro e w1 ⟨rfl, hb⟩
  have HB := Aside1.mk (hB.out.trans (hb.mono (by simp; omega)))
  clear hb hB HH
  go_wp2_with fail
  refine wp_loop_rounds 1 ?_
  rw [rounds_succ]
  go_wp2
  go_ret3
  exact ⟨rfl, HB.out⟩

/-- A whole row is loaded, in any world that keeps it. -/
theorem yieldsIf_load_row {P : Program} {ops : Array Oper} {S : World → Prop} {op : Oper} {a : Act} (hw : Region.wanted op (yielded ops a.tmps) = true) (ty : TypeId) (x : Operand) (ho : op.op = .load ty x)
    (g : Nat) (hx : a.eval x = .pointer (some ⟨g, 0, none⟩)) (t : TypeId) (cs : Array Value) (fr : Nat × Nat) (d : TypeDesc) (hg : ∀ w, S w → w.heap[g]? = some (.cells cs t fr))
    (hu : P.underlying ty = some d) (hd : (match d with | .struct _ | .array _ _ => true | _ => false) = true) (hi : (P.info? ty).map (·.size) = some cs.size) : YieldsIf P ops S op (.agg cs) a :=
  .inl ⟨hw, fun w hS => by
    unfold execOp
    simp only [ho, hx, Instr.loadAt, Instr.sureAddr, Sem.run_bind, Sem.run_pure, Result.andThen_ok, run_loadVar_row w g t ty cs fr d (hg w hS) hu hd hi]⟩
theorem i28 : (Tryz.prog.info? 28).map (·.size) = some 1 := by kernel_rfl
theorem i64 : (Tryz.prog.info? 64).map (·.size) = some 2 := by kernel_rfl


set_option maxHeartbeats 4000000 in
set_option maxRecDepth 100000 in
theorem find_zero (w : World) (p : Option Addr) (s t k : ByteArray) (hk : k.size ≤ 200) (id : Int)  (h : NoSets3 w p) : Calls Tryz.prog 57 #[.agg #[.pointer p], .agg #[.string s, .string t], .string k, .int .i64 0] w fun e w' => e = .returned (.tuple #[.agg Z47, .bool false, .int .i64 1]) ∧ Below w.heap.size w w' := by
  have hB := Aside1.mk ((((Below.refl w.heap.size w).alloc (Nat.le_refl _) (.cells #[.pointer p] 28)).alloc (by simp) (.cells #[.string s, .string t] 64)).alloc (by simp; omega) (.cells Z47 47))
  have HH := Aside1.mk (h.below hB.out)
  have g0 := onAlloc (onAlloc (heap_new w (.cells #[.pointer p] 28)) (.cells #[.string s, .string t] 64)) (.cells Z47 47)
  have g1 := onAlloc (heap_new (w.alloc (.cells #[.pointer p] 28)) (.cells #[.string s, .string t] 64)) (.cells Z47 47)
  rw [show (w.alloc (.cells #[.pointer p] 28)).heap.size = w.heap.size + 1 by simp] at g1
  have g2 := heap_new ((w.alloc (.cells #[.pointer p] 28)).alloc (.cells #[.string s, .string t] 64)) (.cells Z47 47)
  rw [show ((w.alloc (.cells #[.pointer p] 28)).alloc (.cells #[.string s, .string t] 64)).heap.size = w.heap.size + 1 + 1 by simp] at g2
  have G := Aside1.mk (And.intro g0 (And.intro g1 g2))
  have hS : w.heap.size + 1 + 1 < (((w.alloc (.cells #[.pointer p] 28)).alloc (.cells #[.string s, .string t] 64)).alloc (.cells Z47 47)).heap.size := by simp
  clear h g0 g1 g2
  go_enter Tryz.func57, Tryz.ntmps57
  go_wp2_with fail
  generalize (((w.alloc (.cells #[.pointer p] 28)).alloc (.cells #[.string s, .string t] 64)).alloc (.cells Z47 47)) = W at *
  refine wp_region_held_drew (S := fun w' => w'.heap[w.heap.size]? = some (.cells #[.pointer p] 28 (0, 0)) ∧ w'.heap[w.heap.size + 1]? = some (.cells #[.string s, .string t] 64 (0, 0)) ∧ w'.heap[w.heap.size + 1 + 1]? = some (.cells Z47 47 (0, 0)) ∧ Below w.heap.size w w' ∧ Below W.heap.size W w') (by kernel_rfl) ⟨G.out.1, G.out.2.1, G.out.2.2, Below.drew hB.out, Below.drew (Below.refl _ _)⟩ (fun hW => ?_)
  refine wpAnyH_take (i := 0) (oi := ⟨some 20, _, _, _, _, _⟩) rfl (by kernel_rfl) (by kernel_rfl) (by kernel_rfl) (fun _ _ _ h => h) (yieldsIf_load_row (by rfl) 28 _ rfl w.heap.size rfl 28 #[.pointer p] (0, 0) _ (fun _ h => h.1) Tryz.underlying28 rfl i28) hW ?_
  try simp only [Act.put, List.setIfInBounds_toArray, List.set_cons_zero, List.set_cons_succ]
  refine wpAnyH_take (i := 1) (oi := ⟨some 21, _, _, _, _, _⟩) rfl (by kernel_rfl) (by kernel_rfl) (by kernel_rfl) (fun _ _ _ h => h) (yieldsIf_load_row (by rfl) 64 _ rfl (w.heap.size + 1) rfl 64 #[.string s, .string t] (0, 0) _ (fun _ h => h.2.1) Tryz.underlying64 rfl i64) hW ?_
  try simp only [Act.put, List.setIfInBounds_toArray, List.set_cons_zero, List.set_cons_succ]
  refine wpAnyH_take (i := 2) (oi := ⟨some 22, _, _, _, _, _⟩) (v := .string k) rfl (by kernel_rfl) (by kernel_rfl) (by kernel_rfl) (fun _ _ _ h => h) (.inl ⟨by rfl, fun W1 h1 => by go_simp⟩) hW ?_
  try simp only [Act.put, List.setIfInBounds_toArray, List.set_cons_zero, List.set_cons_succ]
  refine wpAnyH_take (i := 4) (oi := ⟨some 24, _, _, _, _, _⟩) (v := .string k) rfl (by kernel_rfl) (by kernel_rfl) (by kernel_rfl) (fun _ _ _ h => h) (.inl ⟨by rfl, fun W1 h1 => by go_simp⟩) hW ?_
  try simp only [Act.put, List.setIfInBounds_toArray, List.set_cons_zero, List.set_cons_succ]
  refine wpAnyH_take (i := 7) (oi := ⟨some 27, _, _, _, _, _⟩) (v := .int .i64 1) rfl (by kernel_rfl) (by kernel_rfl) (by kernel_rfl) (fun _ _ _ h => h) (.inl ⟨by rfl, fun W1 h1 => by go_simp⟩) hW ?_
  try simp only [Act.put, List.setIfInBounds_toArray, List.set_cons_zero, List.set_cons_succ]
  refine wpAnyH_ready (rs := [3]) (by kernel_rfl) (by simp) (AllReadyH.cons rfl (fun K1 hK1 => ?_) AllReadyH.nil)
  go_simp
  refine (prefix_calls k hk _).mono ?_
  rintro e w1 ⟨A1, m1, c1, rfl, b1⟩
  refine hK1.out _ _ (⟨on hW.1 b1, on hW.2.1 b1, on hW.2.2.1 b1, hW.2.2.2.1.trans (b1.mono hW.2.2.2.1.size), hW.2.2.2.2.trans (b1.mono hW.2.2.2.2.size)⟩) (fun hW1 => ?_)
  try simp only [Act.put, List.setIfInBounds_toArray, List.set_cons_zero, List.set_cons_succ]
  refine wpAnyH_ready (rs := [5]) (by kernel_rfl) (by simp) (AllReadyH.cons rfl (fun K2 hK2 => ?_) AllReadyH.nil)
  go_simp
  refine (after_calls k hk _).mono ?_
  rintro e w2 ⟨A2, m2, c2, rfl, b2⟩
  refine hK2.out _ _ (⟨on hW1.1 b2, on hW1.2.1 b2, on hW1.2.2.1 b2, hW1.2.2.2.1.trans (b2.mono hW1.2.2.2.1.size), hW1.2.2.2.2.trans (b2.mono hW1.2.2.2.2.size)⟩) (fun hW2 => ?_)
  try simp only [Act.put, List.setIfInBounds_toArray, List.set_cons_zero, List.set_cons_succ]
  refine wpAnyH_take (i := 6) (oi := ⟨some 26, _, _, _, _, _⟩) (v := .agg #[.slice A1 m1 c1, .slice A2 m2 c2]) rfl (by kernel_rfl) (by kernel_rfl) (by kernel_rfl) (fun _ _ _ h => h) (.inl ⟨by rfl, fun W1 h1 => by go_simp⟩) hW2 ?_
  try simp only [Act.put, List.setIfInBounds_toArray, List.set_cons_zero, List.set_cons_succ]
  refine wpAnyH_ready (rs := [8]) (by kernel_rfl) (by simp) (AllReadyH.cons rfl (fun K3 hK3 => ?_) AllReadyH.nil)
  go_simp
  refine (vers_calls _ p s t _ _ _ _ _ _ _ (HH.out.below hW2.2.2.2.2)).mono ?_
  rintro e w3 ⟨rfl, b3⟩
  refine hK3.out _ _ (⟨on hW2.1 b3, on hW2.2.1 b3, on hW2.2.2.1 b3, hW2.2.2.2.1.trans (b3.mono hW2.2.2.2.1.size), hW2.2.2.2.2.trans (b3.mono hW2.2.2.2.2.size)⟩) (fun hW3 => ?_)
  try simp only [Act.put, List.setIfInBounds_toArray, List.set_cons_zero, List.set_cons_succ]
  refine wpAnyH_take (i := 9) (oi := ⟨some 19, _, _, _, _, _⟩) (v := .tuple #[.slice none 0 0, .slice none 0 0, .int .i64 1]) rfl (by kernel_rfl) (by kernel_rfl) (by kernel_rfl) (fun _ _ _ h => h) (.inl ⟨by rfl, fun W1 h1 => by go_simp⟩) hW3 ?_
  try simp only [Act.put, List.setIfInBounds_toArray, List.set_cons_zero, List.set_cons_succ]
  refine wpAnyH_take (i := 10) (oi := ⟨some 29, _, _, _, _, _⟩) (v := .slice none 0 0) rfl (by kernel_rfl) (by kernel_rfl) (by kernel_rfl) (fun _ _ _ h => h) (.inl ⟨by rfl, fun W1 h1 => by go_simp⟩) hW3 ?_
  try simp only [Act.put, List.setIfInBounds_toArray, List.set_cons_zero, List.set_cons_succ]
  refine wpAnyH_take (i := 11) (oi := ⟨some 30, _, _, _, _, _⟩) (v := .slice none 0 0) rfl (by kernel_rfl) (by kernel_rfl) (by kernel_rfl) (fun _ _ _ h => h) (.inl ⟨by rfl, fun W1 h1 => by go_simp⟩) hW3 ?_
  try simp only [Act.put, List.setIfInBounds_toArray, List.set_cons_zero, List.set_cons_succ]
  refine wpAnyH_take (i := 12) (oi := ⟨some 31, _, _, _, _, _⟩) (v := .int .i64 1) rfl (by kernel_rfl) (by kernel_rfl) (by kernel_rfl) (fun _ _ _ h => h) (.inl ⟨by rfl, fun W1 h1 => by go_simp⟩) hW3 ?_
  try simp only [Act.put, List.setIfInBounds_toArray, List.set_cons_zero, List.set_cons_succ]
  refine wpAnyH_take (i := 13) (oi := ⟨some 12, _, _, _, _, _⟩) (v := .slice none 0 0) rfl (by kernel_rfl) (by kernel_rfl) (by kernel_rfl) (fun _ _ _ h => h) (.inl ⟨by rfl, fun W1 h1 => by go_simp⟩) hW3 ?_
  try simp only [Act.put, List.setIfInBounds_toArray, List.set_cons_zero, List.set_cons_succ]
  refine wpAnyH_take (i := 14) (oi := ⟨some 13, _, _, _, _, _⟩) (v := .slice none 0 0) rfl (by kernel_rfl) (by kernel_rfl) (by kernel_rfl) (fun _ _ _ h => h) (.inl ⟨by rfl, fun W1 h1 => by go_simp⟩) hW3 ?_
  try simp only [Act.put, List.setIfInBounds_toArray, List.set_cons_zero, List.set_cons_succ]
  refine wpAnyH_take (i := 15) (oi := ⟨some 14, _, _, _, _, _⟩) (v := .int .i64 1) rfl (by kernel_rfl) (by kernel_rfl) (by kernel_rfl) (fun _ _ _ h => h) (.inl ⟨by rfl, fun W1 h1 => by go_simp⟩) hW3 ?_
  try simp only [Act.put, List.setIfInBounds_toArray, List.set_cons_zero, List.set_cons_succ]
  refine wpAnyH_done (by kernel_rfl) ?_ _
  have HB := Aside1.mk hW3.2.2.2.1
  have hg := hW3.2.2.1
  clear hB hS G HH
  go_wp2_with fail
  refine wp_loop_rounds 1 ?_
  rw [rounds_succ]
  go_wp2_with (refine wpList_store_same rfl 47 _ _ rfl (w.heap.size + 1 + 1) Z47 rfl rfl 47 hg i47 a47 ?_)
  exact bodyPost_ret (UpA.res_ctt (p := 8) (q := 9) (r := 10) _ rfl rfl hg Tryz.underlying47 rfl i47) rfl ⟨rfl, HB.out⟩

set_option maxHeartbeats 4000000 in
set_option maxRecDepth 100000 in
theorem find_other (w : World) (p : Option Addr) (s t k : ByteArray) (hk : k.size ≤ 200) (id : Int) (hid : (id == 0) = false) (h : NoSets3 w p) : Calls Tryz.prog 57 #[.agg #[.pointer p], .agg #[.string s, .string t], .string k, .int .i64 id] w fun e w' => e = .returned (.tuple #[.agg Z47, .bool false, .int .i64 1]) ∧ Below w.heap.size w w' := by
  have hB := Aside1.mk ((((Below.refl w.heap.size w).alloc (Nat.le_refl _) (.cells #[.pointer p] 28)).alloc (by simp) (.cells #[.string s, .string t] 64)).alloc (by simp; omega) (.cells Z47 47))
  have HH := Aside1.mk (h.below hB.out)
  have g0 := onAlloc (onAlloc (heap_new w (.cells #[.pointer p] 28)) (.cells #[.string s, .string t] 64)) (.cells Z47 47)
  have g1 := onAlloc (heap_new (w.alloc (.cells #[.pointer p] 28)) (.cells #[.string s, .string t] 64)) (.cells Z47 47)
  rw [show (w.alloc (.cells #[.pointer p] 28)).heap.size = w.heap.size + 1 by simp] at g1
  have g2 := heap_new ((w.alloc (.cells #[.pointer p] 28)).alloc (.cells #[.string s, .string t] 64)) (.cells Z47 47)
  rw [show ((w.alloc (.cells #[.pointer p] 28)).alloc (.cells #[.string s, .string t] 64)).heap.size = w.heap.size + 1 + 1 by simp] at g2
  have G := Aside1.mk (And.intro g0 (And.intro g1 g2))
  have hS : w.heap.size + 1 + 1 < (((w.alloc (.cells #[.pointer p] 28)).alloc (.cells #[.string s, .string t] 64)).alloc (.cells Z47 47)).heap.size := by simp
  clear h g0 g1 g2
  go_enter Tryz.func57, Tryz.ntmps57
  go_wp2_with fail
  generalize (((w.alloc (.cells #[.pointer p] 28)).alloc (.cells #[.string s, .string t] 64)).alloc (.cells Z47 47)) = W at *
  refine wp_region_held_drew (S := fun w' => w'.heap[w.heap.size]? = some (.cells #[.pointer p] 28 (0, 0)) ∧ w'.heap[w.heap.size + 1]? = some (.cells #[.string s, .string t] 64 (0, 0)) ∧ w'.heap[w.heap.size + 1 + 1]? = some (.cells Z47 47 (0, 0)) ∧ Below w.heap.size w w' ∧ Below W.heap.size W w') (by kernel_rfl) ⟨G.out.1, G.out.2.1, G.out.2.2, Below.drew hB.out, Below.drew (Below.refl _ _)⟩ (fun hW => ?_)
  refine wpAnyH_take (i := 0) (oi := ⟨some 20, _, _, _, _, _⟩) rfl (by kernel_rfl) (by kernel_rfl) (by kernel_rfl) (fun _ _ _ h => h) (yieldsIf_load_row (by rfl) 28 _ rfl w.heap.size rfl 28 #[.pointer p] (0, 0) _ (fun _ h => h.1) Tryz.underlying28 rfl i28) hW ?_
  try simp only [Act.put, List.setIfInBounds_toArray, List.set_cons_zero, List.set_cons_succ]
  refine wpAnyH_take (i := 1) (oi := ⟨some 21, _, _, _, _, _⟩) rfl (by kernel_rfl) (by kernel_rfl) (by kernel_rfl) (fun _ _ _ h => h) (yieldsIf_load_row (by rfl) 64 _ rfl (w.heap.size + 1) rfl 64 #[.string s, .string t] (0, 0) _ (fun _ h => h.2.1) Tryz.underlying64 rfl i64) hW ?_
  try simp only [Act.put, List.setIfInBounds_toArray, List.set_cons_zero, List.set_cons_succ]
  refine wpAnyH_take (i := 2) (oi := ⟨some 22, _, _, _, _, _⟩) (v := .string k) rfl (by kernel_rfl) (by kernel_rfl) (by kernel_rfl) (fun _ _ _ h => h) (.inl ⟨by rfl, fun W1 h1 => by go_simp⟩) hW ?_
  try simp only [Act.put, List.setIfInBounds_toArray, List.set_cons_zero, List.set_cons_succ]
  refine wpAnyH_take (i := 4) (oi := ⟨some 24, _, _, _, _, _⟩) (v := .string k) rfl (by kernel_rfl) (by kernel_rfl) (by kernel_rfl) (fun _ _ _ h => h) (.inl ⟨by rfl, fun W1 h1 => by go_simp⟩) hW ?_
  try simp only [Act.put, List.setIfInBounds_toArray, List.set_cons_zero, List.set_cons_succ]
  refine wpAnyH_take (i := 7) (oi := ⟨some 27, _, _, _, _, _⟩) (v := .int .i64 1073741824) rfl (by kernel_rfl) (by kernel_rfl) (by kernel_rfl) (fun _ _ _ h => h) (.inl ⟨by rfl, fun W1 h1 => by go_simp⟩) hW ?_
  try simp only [Act.put, List.setIfInBounds_toArray, List.set_cons_zero, List.set_cons_succ]
  refine wpAnyH_ready (rs := [3]) (by kernel_rfl) (by simp) (AllReadyH.cons rfl (fun K1 hK1 => ?_) AllReadyH.nil)
  go_simp
  refine (prefix_calls k hk _).mono ?_
  rintro e w1 ⟨A1, m1, c1, rfl, b1⟩
  refine hK1.out _ _ (⟨on hW.1 b1, on hW.2.1 b1, on hW.2.2.1 b1, hW.2.2.2.1.trans (b1.mono hW.2.2.2.1.size), hW.2.2.2.2.trans (b1.mono hW.2.2.2.2.size)⟩) (fun hW1 => ?_)
  try simp only [Act.put, List.setIfInBounds_toArray, List.set_cons_zero, List.set_cons_succ]
  refine wpAnyH_ready (rs := [5]) (by kernel_rfl) (by simp) (AllReadyH.cons rfl (fun K2 hK2 => ?_) AllReadyH.nil)
  go_simp
  refine (after_calls k hk _).mono ?_
  rintro e w2 ⟨A2, m2, c2, rfl, b2⟩
  refine hK2.out _ _ (⟨on hW1.1 b2, on hW1.2.1 b2, on hW1.2.2.1 b2, hW1.2.2.2.1.trans (b2.mono hW1.2.2.2.1.size), hW1.2.2.2.2.trans (b2.mono hW1.2.2.2.2.size)⟩) (fun hW2 => ?_)
  try simp only [Act.put, List.setIfInBounds_toArray, List.set_cons_zero, List.set_cons_succ]
  refine wpAnyH_take (i := 6) (oi := ⟨some 26, _, _, _, _, _⟩) (v := .agg #[.slice A1 m1 c1, .slice A2 m2 c2]) rfl (by kernel_rfl) (by kernel_rfl) (by kernel_rfl) (fun _ _ _ h => h) (.inl ⟨by rfl, fun W1 h1 => by go_simp⟩) hW2 ?_
  try simp only [Act.put, List.setIfInBounds_toArray, List.set_cons_zero, List.set_cons_succ]
  refine wpAnyH_ready (rs := [8]) (by kernel_rfl) (by simp) (AllReadyH.cons rfl (fun K3 hK3 => ?_) AllReadyH.nil)
  go_simp
  refine (vers_calls _ p s t _ _ _ _ _ _ _ (HH.out.below hW2.2.2.2.2)).mono ?_
  rintro e w3 ⟨rfl, b3⟩
  refine hK3.out _ _ (⟨on hW2.1 b3, on hW2.2.1 b3, on hW2.2.2.1 b3, hW2.2.2.2.1.trans (b3.mono hW2.2.2.2.1.size), hW2.2.2.2.2.trans (b3.mono hW2.2.2.2.2.size)⟩) (fun hW3 => ?_)
  try simp only [Act.put, List.setIfInBounds_toArray, List.set_cons_zero, List.set_cons_succ]
  refine wpAnyH_take (i := 9) (oi := ⟨some 19, _, _, _, _, _⟩) (v := .tuple #[.slice none 0 0, .slice none 0 0, .int .i64 1]) rfl (by kernel_rfl) (by kernel_rfl) (by kernel_rfl) (fun _ _ _ h => h) (.inl ⟨by rfl, fun W1 h1 => by go_simp⟩) hW3 ?_
  try simp only [Act.put, List.setIfInBounds_toArray, List.set_cons_zero, List.set_cons_succ]
  refine wpAnyH_take (i := 10) (oi := ⟨some 29, _, _, _, _, _⟩) (v := .slice none 0 0) rfl (by kernel_rfl) (by kernel_rfl) (by kernel_rfl) (fun _ _ _ h => h) (.inl ⟨by rfl, fun W1 h1 => by go_simp⟩) hW3 ?_
  try simp only [Act.put, List.setIfInBounds_toArray, List.set_cons_zero, List.set_cons_succ]
  refine wpAnyH_take (i := 11) (oi := ⟨some 30, _, _, _, _, _⟩) (v := .slice none 0 0) rfl (by kernel_rfl) (by kernel_rfl) (by kernel_rfl) (fun _ _ _ h => h) (.inl ⟨by rfl, fun W1 h1 => by go_simp⟩) hW3 ?_
  try simp only [Act.put, List.setIfInBounds_toArray, List.set_cons_zero, List.set_cons_succ]
  refine wpAnyH_take (i := 12) (oi := ⟨some 31, _, _, _, _, _⟩) (v := .int .i64 1) rfl (by kernel_rfl) (by kernel_rfl) (by kernel_rfl) (fun _ _ _ h => h) (.inl ⟨by rfl, fun W1 h1 => by go_simp⟩) hW3 ?_
  try simp only [Act.put, List.setIfInBounds_toArray, List.set_cons_zero, List.set_cons_succ]
  refine wpAnyH_take (i := 13) (oi := ⟨some 12, _, _, _, _, _⟩) (v := .slice none 0 0) rfl (by kernel_rfl) (by kernel_rfl) (by kernel_rfl) (fun _ _ _ h => h) (.inl ⟨by rfl, fun W1 h1 => by go_simp⟩) hW3 ?_
  try simp only [Act.put, List.setIfInBounds_toArray, List.set_cons_zero, List.set_cons_succ]
  refine wpAnyH_take (i := 14) (oi := ⟨some 13, _, _, _, _, _⟩) (v := .slice none 0 0) rfl (by kernel_rfl) (by kernel_rfl) (by kernel_rfl) (fun _ _ _ h => h) (.inl ⟨by rfl, fun W1 h1 => by go_simp⟩) hW3 ?_
  try simp only [Act.put, List.setIfInBounds_toArray, List.set_cons_zero, List.set_cons_succ]
  refine wpAnyH_take (i := 15) (oi := ⟨some 14, _, _, _, _, _⟩) (v := .int .i64 1) rfl (by kernel_rfl) (by kernel_rfl) (by kernel_rfl) (fun _ _ _ h => h) (.inl ⟨by rfl, fun W1 h1 => by go_simp⟩) hW3 ?_
  try simp only [Act.put, List.setIfInBounds_toArray, List.set_cons_zero, List.set_cons_succ]
  refine wpAnyH_done (by kernel_rfl) ?_ _
  have HB := Aside1.mk hW3.2.2.2.1
  have hg := hW3.2.2.1
  clear hB hS G HH
  go_wp2_with fail
  refine wp_loop_rounds 1 ?_
  rw [rounds_succ]
  go_wp2_with (refine wpList_store_same rfl 47 _ _ rfl (w.heap.size + 1 + 1) Z47 rfl rfl 47 hg i47 a47 ?_)
  exact bodyPost_ret (UpA.res_ctt (p := 8) (q := 9) (r := 10) _ rfl rfl hg Tryz.underlying47 rfl i47) rfl ⟨rfl, HB.out⟩

theorem find_calls (w : World) (p : Option Addr) (s t k : ByteArray) (hk : k.size ≤ 200) (id : Int) (h : NoSets3 w p) : Calls Tryz.prog 57 #[.agg #[.pointer p], .agg #[.string s, .string t], .string k, .int .i64 id] w fun e w' => e = .returned (.tuple #[.agg Z47, .bool false, .int .i64 1]) ∧ Below w.heap.size w w' := by
  by_cases h0 : id = 0
  · subst h0
    exact find_zero w p s t k hk 0 h
  · exact find_other w p s t k hk id (by simpa using h0) h

set_option maxHeartbeats 1000000 in
set_option maxRecDepth 100000 in
theorem get_calls (w : World) (p : Option Addr) (s t k : ByteArray) (hk : k.size ≤ 200) (id : Int) (h : NoSets3 w p) (hl : Lib0 w) : Calls Tryz.prog 13 #[.agg #[.pointer p], .agg #[.string s, .string t], .string k, .int .i64 id] w fun e w' => e = .returned (.tuple #[.agg Z47, .slice none 0 0, .int .i64 1]) ∧ Below w.heap.size w w' := by
  have hB := Aside1.mk ((((Below.refl w.heap.size w).alloc (Nat.le_refl _) (.cells #[.pointer p] 28)).alloc (by simp) (.cells #[.string s, .string t] 64)).alloc (by simp; omega) (.cells Z47 47))
  have HH := Aside1.mk (And.intro (h.below hB.out) (hl.below hB.out))
  have g0 := onAlloc (onAlloc (heap_new w (.cells #[.pointer p] 28)) (.cells #[.string s, .string t] 64)) (.cells Z47 47)
  have g1 := onAlloc (heap_new (w.alloc (.cells #[.pointer p] 28)) (.cells #[.string s, .string t] 64)) (.cells Z47 47)
  rw [show (w.alloc (.cells #[.pointer p] 28)).heap.size = w.heap.size + 1 by simp] at g1
  have g2 := heap_new ((w.alloc (.cells #[.pointer p] 28)).alloc (.cells #[.string s, .string t] 64)) (.cells Z47 47)
  rw [show ((w.alloc (.cells #[.pointer p] 28)).alloc (.cells #[.string s, .string t] 64)).heap.size = w.heap.size + 1 + 1 by simp] at g2
  have G := Aside1.mk (And.intro g0 (And.intro g1 g2))
  have hS : w.heap.size ≤ (((w.alloc (.cells #[.pointer p] 28)).alloc (.cells #[.string s, .string t] 64)).alloc (.cells Z47 47)).heap.size := by simp; omega
  clear h hl g0 g1 g2
  go_enter Tryz.func13, Tryz.ntmps13
  go_wp2_with fail
  generalize (((w.alloc (.cells #[.pointer p] 28)).alloc (.cells #[.string s, .string t] 64)).alloc (.cells Z47 47)) = W at *
  refine (object_calls k (by omega) _ HH.out.2).mono ?_
  rintro e w1 ⟨n, rfl, hb⟩
  have g0 := Aside1.mk (on G.out.1 hb)
  have g1 := Aside1.mk (on G.out.2.1 hb)
  have g2 := Aside1.mk (on G.out.2.2 hb)
  have HB := Aside1.mk (hB.out.trans (hb.mono hS))
  have HN := Aside1.mk (HH.out.1.below hb)
  clear hb hB HH G
  by_cases hn : n = 0
  · subst hn
    go_wp2_with (first | (refine wpList_load_row rfl 28 _ rfl _ rfl 28 #[.pointer p] (0, 0) _ g0.out Tryz.underlying28 rfl i28 ?_) | (refine wpList_load_row rfl 64 _ rfl _ rfl 64 #[.string s, .string t] (0, 0) _ g1.out Tryz.underlying64 rfl i64 ?_))
    refine (find_calls _ p s t k hk id HN.out).mono ?_
    rintro e w2 ⟨rfl, hb⟩
    have hg := Aside1.mk (onAlloc (on g2.out hb) (.cells Z47 47))
    have g9 := Aside1.mk (heap_new w2 (.cells Z47 47))
    have HB2 := Aside1.mk ((HB.out.trans (hb.mono HB.out.size)).alloc (Nat.le_trans HB.out.size hb.size) (.cells Z47 47))
    clear hb HB HN g0 g1 g2
    go_wp2_with (first | (refine wpList_store_same rfl 47 _ _ rfl _ Z47 rfl rfl 47 g9.out i47 a47 ?_) | (refine wpList_store_same rfl 47 _ _ rfl (w.heap.size + 1 + 1) Z47 rfl rfl 47 hg.out i47 a47 ?_))
    exact bodyPost_ret (UpA.res_ctt (p := 8) (q := 9) (r := 10) _ rfl rfl hg.out Tryz.underlying47 rfl i47) rfl ⟨rfl, HB2.out⟩
  · have hq : (n == 0) = false := by simpa using hn
    have hq2 : (n != 0) = true := by simpa using hn
    go_wp2_with (first | (refine wpList_load_row rfl 28 _ rfl _ rfl 28 #[.pointer p] (0, 0) _ g0.out Tryz.underlying28 rfl i28 ?_) | (refine wpList_load_row rfl 64 _ rfl _ rfl 64 #[.string s, .string t] (0, 0) _ g1.out Tryz.underlying64 rfl i64 ?_))
    refine (state_calls _ p s t HN.out).mono ?_
    rintro e w2 ⟨rfl, hb⟩
    have hg := Aside1.mk (onAlloc (on g2.out hb) (.cells Z118 118))
    have g9 := Aside1.mk (heap_new w2 (.cells Z118 118))
    have HB2 := Aside1.mk ((HB.out.trans (hb.mono HB.out.size)).alloc (Nat.le_trans HB.out.size hb.size) (.cells Z118 118))
    clear hb HB HN g0 g1 g2
    go_wp2_with (first | (refine wpList_store_same rfl 118 _ _ rfl _ Z118 rfl rfl 118 g9.out i118 a118 ?_) | (refine wpList_store_same rfl 47 _ _ rfl (w.heap.size + 1 + 1) Z47 rfl rfl 47 hg.out i47 a47 ?_))
    exact bodyPost_ret (UpA.res_ctt (p := 8) (q := 9) (r := 10) _ rfl rfl hg.out Tryz.underlying47 rfl i47) rfl ⟨rfl, HB2.out⟩
end Go.Proofs.YtkemhdbnkpblpaaGreatDoor.ObE
