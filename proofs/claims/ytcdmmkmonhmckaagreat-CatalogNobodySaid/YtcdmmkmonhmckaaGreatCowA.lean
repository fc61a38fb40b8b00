import Derived.Test.YtcdmmkmonhmckaaGreatProg
import Derived.Test.YtcdmmkmonhmckaaGreatAgg
import Derived.Deep.QuietTactic
import Derived.BigQuiet
import Derived.Deep.LoopGhost
import Derived.Deep.DeepCutAuto
namespace Go.Proofs.YtcdmmkmonhmckaaGreat.CowA
open Go.RowKit Go.Proofs.YtcdmmkmonhmckaaGreat.Agg
set_option linter.unusedVariables false

/-- The pointer of nothing, as cells. -/
def Z28 : Array Value := #[.int .i64 0, .int .i64 0, .int .i64 0, .int .u32 0, .int .u8 0, .int .u8 0, .int .u8 0, .int .u8 0, .int .u8 0, .int .u8 0, .int .u8 0, .int .u8 0, .int .u8 0, .int .u8 0, .int .u8 0, .int .u8 0, .int .u8 0, .int .u8 0, .int .u8 0, .int .u8 0, .int .u8 0, .int .u8 0, .int .u8 0, .int .u8 0, .int .u8 0, .int .u8 0, .int .u8 0, .int .u8 0, .int .u8 0, .int .u8 0, .int .u8 0, .int .u8 0, .int .u8 0, .int .u8 0, .int .u8 0, .int .u8 0]
/-- A pool that no call made, as cells. -/
def Z52 : Array Value := #[.pointer none, .pointer none, .int .i64 0, .bool false, .slice none 0 0]
/-- A node of nothing, as cells. -/
def Z58 : Array Value := #[.int .i64 0, .slice none 0 0, .slice none 0 0, .slice none 0 0]
theorem i28 : (Tryz.prog.info? 28).map (·.size) = some Z28.size := by kernel_rfl
theorem a28 : Z28.all (·.oneCell') = true := by decide +kernel
theorem a58 : Z58.all (·.oneCell') = true := by decide +kernel
theorem i58 : (Tryz.prog.info? 58).map (·.size) = some Z58.size := by kernel_rfl

/-- No pool: nil, or one that no call made. -/
def NoPool (w : World) (p : Option Addr) : Prop := p = none ∨ ∃ B, p = some ⟨B, 0, none⟩ ∧ w.heap[B]? = some (.cells Z52 52 (0, 0))
theorem NoPool.below {w w1 : World} {p : Option Addr} (h : NoPool w p) (hb : Below w.heap.size w w1) : NoPool w1 p := by
  rcases h with h | ⟨B, h, hg⟩
  · exact .inl h
  · exact .inr ⟨B, h, keep hb hg (Array.getElem?_eq_some_iff.1 hg).1⟩

theorem len_nil (w : World) : Calls Tryz.prog 135 #[.pointer none] w fun e w' => e = .returned (.int .i64 0) ∧ w = w' := by
  go_enter Tryz.func135, Tryz.ntmps135
  go_wp2
  go_ret
  exact ⟨rfl, rfl⟩

theorem ready_calls (w : World) (p : Option Addr) (h : NoPool w p) : Calls Tryz.prog 83 #[.pointer p] w fun e w' => e = .returned (.int .i64 1) ∧ Below w.heap.size w w' := by
  rcases h with rfl | ⟨B, rfl, hg⟩
  · go_enter Tryz.func83, Tryz.ntmps83
    go_wp2
    go_quiet (fail)
    go_wp2
    go_ret
    exact ⟨rfl, below_drewN (Below.refl _ _) _⟩
  · have x0 : w.cell? ⟨B, 0, none⟩ = some (.pointer none) := by rw [cell_of_row w B 0 Z52 52 (0, 0) hg]; rfl
    clear hg
    go_enter Tryz.func83, Tryz.ntmps83
    go_wp2
    go_quiet ((go_at_call 135; exact Calls.quiet_of_same ((len_nil _).mono fun e w' h => ⟨h.1, h.2.symm⟩)))
    go_wp2
    go_ret
    exact ⟨rfl, below_drewN (Below.refl _ _) _⟩

theorem lay_calls (w : World) (p : Option Addr) (b : Value) (h : NoPool w p) : Calls Tryz.prog 20 #[.pointer p, b] w fun e w' => e = .returned (.tuple #[.agg Z28, .int .i64 1]) ∧ Below w.heap.size w w' := by
  have R := fun W (hb : Below w.heap.size w W) => ready_calls W p (h.below hb)
  clear h
  go_enter Tryz.func20, Tryz.ntmps20
  go_wp2_with fail
  refine (R _ ((Below.refl _ _).alloc (Nat.le_refl _) _)).mono ?_
  rintro e w1 ⟨rfl, hb⟩
  have hg := keep hb (heap_new w (.cells Z28 28)) (by simp)
  go_wp2_with (refine wpList_store_same rfl 28 _ _ rfl w.heap.size Z28 rfl rfl 28 hg i28 a28 ?_)
  exact bodyPost_ret (res_ct (p := 4) (q := 5) _ rfl rfl hg Tryz.underlying28 rfl i28) rfl ⟨rfl, ((Below.refl _ _).alloc (Nat.le_refl _) _).trans (hb.mono (by simp))⟩

theorem load_calls (w : World) (p : Option Addr) (cs : Array Value) (h : NoPool w p) : Calls Tryz.prog 21 #[.pointer p, .agg cs] w fun e w' => e = .returned (.tuple #[.agg Z58, .int .i64 1]) ∧ Below w.heap.size w w' := by
  have R := fun W (hb : Below w.heap.size w W) => ready_calls W p (h.below hb)
  clear h
  go_enter Tryz.func21, Tryz.ntmps21
  go_wp2_with fail
  refine (R _ (((Below.refl _ _).alloc (Nat.le_refl _) _).alloc (by simp) _)).mono ?_
  rintro e w1 ⟨rfl, hb⟩
  have hg := keep hb (heap_new (w.alloc (.cells cs 28)) (.cells Z58 58)) (by simp)
  simp at hg
  go_wp2_with (refine wpList_store_same rfl 58 _ _ rfl (w.heap.size + 1) Z58 rfl rfl 58 hg i58 a58 ?_)
  exact bodyPost_ret (res_ct (p := 4) (q := 5) _ rfl rfl hg Tryz.underlying58 rfl i58) rfl ⟨rfl, (((Below.refl _ _).alloc (Nat.le_refl _) _).alloc (by simp) _).trans (hb.mono (by simp; omega))⟩

theorem store_calls (w : World) (p : Option Addr) (cs : Array Value) (h : NoPool w p) : Calls Tryz.prog 22 #[.pointer p, .agg cs] w fun e w' => e = .returned (.tuple #[.agg Z28, .int .i64 1]) ∧ Below w.heap.size w w' := by
  have R := fun W (hb : Below w.heap.size w W) => ready_calls W p (h.below hb)
  clear h
  go_enter Tryz.func22, Tryz.ntmps22
  go_wp2_with fail
  refine (R _ (((Below.refl _ _).alloc (Nat.le_refl _) _).alloc (by simp) _)).mono ?_
  rintro e w1 ⟨rfl, hb⟩
  have hg := keep hb (heap_new (w.alloc (.cells cs 58)) (.cells Z28 28)) (by simp)
  simp at hg
  go_wp2_with (refine wpList_store_same rfl 28 _ _ rfl (w.heap.size + 1) Z28 rfl rfl 28 hg i28 a28 ?_)
  exact bodyPost_ret (res_ct (p := 4) (q := 5) _ rfl rfl hg Tryz.underlying28 rfl i28) rfl ⟨rfl, (((Below.refl _ _).alloc (Nat.le_refl _) _).alloc (by simp) _).trans (hb.mono (by simp; omega))⟩

theorem kill_calls (w : World) (p : Option Addr) (cs : Array Value) (h : NoPool w p) : Calls Tryz.prog 25 #[.pointer p, .agg cs] w fun e w' => e = .returned (.int .i64 1) ∧ Below w.heap.size w w' := by
  have R := fun W (hb : Below w.heap.size w W) => ready_calls W p (h.below hb)
  clear h
  go_enter Tryz.func25, Tryz.ntmps25
  go_wp2_with fail
  refine (R _ ((Below.refl _ _).alloc (Nat.le_refl _) _)).mono ?_
  rintro e w1 ⟨rfl, hb⟩
  go_wp2
  go_ret
  exact ⟨rfl, ((Below.refl _ _).alloc (Nat.le_refl _) _).trans (hb.mono (by simp))⟩

theorem get_calls (w : World) (p : Option Addr) (k : Value) (cs : Array Value) (h : NoPool w p) : Calls Tryz.prog 24 #[.pointer p, .agg cs, k] w fun e w' => e = .returned (.tuple #[.slice none 0 0, .bool false, .int .i64 1]) ∧ Below w.heap.size w w' := by
  have R := fun W (hb : Below w.heap.size w W) => ready_calls W p (h.below hb)
  clear h
  go_enter Tryz.func24, Tryz.ntmps24
  go_wp2_with fail
  refine (R _ ((Below.refl _ _).alloc (Nat.le_refl _) _)).mono ?_
  rintro e w1 ⟨rfl, hb⟩
  go_wp2
  go_ret3
  exact ⟨rfl, ((Below.refl _ _).alloc (Nat.le_refl _) _).trans (hb.mono (by simp))⟩

theorem apply_calls (w : World) (p : Option Addr) (l : Value) (cs : Array Value) (h : NoPool w p) : Calls Tryz.prog 23 #[.pointer p, .agg cs, l] w fun e w' => e = .returned (.tuple #[.agg Z28, .int .i64 1]) ∧ Below w.heap.size w w' := by
  have R := fun W (hb : Below w.heap.size w W) => ready_calls W p (h.below hb)
  clear h
  go_enter Tryz.func23, Tryz.ntmps23
  go_wp2_with fail
  have hB := (((Below.refl w.heap.size w).alloc (Nat.le_refl _) (.cells cs 28)).alloc (by simp) (.cells Z28 28)).alloc (by simp; omega) (.cells #[.pointer p] 173)
  refine (R _ hB).mono ?_
  rintro e w1 ⟨rfl, hb⟩
  have hg := keep hb ((heap_old _ _ _ (by simp)).trans (heap_new (w.alloc (.cells cs 28)) (.cells Z28 28))) (by simp)
  simp at hg
  go_wp2_with (refine wpList_store_same rfl 28 _ _ rfl (w.heap.size + 1) Z28 rfl rfl 28 hg i28 a28 ?_)
  exact bodyPost_ret (res_ct (p := 6) (q := 7) _ rfl rfl hg Tryz.underlying28 rfl i28) rfl ⟨rfl, hB.trans (hb.mono (by simp; omega))⟩
end Go.Proofs.YtcdmmkmonhmckaaGreat.CowA
