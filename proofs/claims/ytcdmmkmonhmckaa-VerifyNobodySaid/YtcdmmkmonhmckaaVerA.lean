/- Without a pool there is no walk: contracts of the callees. -/
import Derived.Test.YtcdmmkmonhmckaaProg
import Derived.Test.YtcdmmkmonhmckaaAgg
import Derived.Deep.QuietTactic
import Derived.BigQuiet
import Derived.Deep.LoopGhost
import Derived.Deep.DeepCutAuto
import Derived.Outline
namespace Go.Proofs.Ytcdmmkmonhmckaa.VerA
open Go.RowKit Go.Proofs.Ytcdmmkmonhmckaa.Agg
set_option linter.unusedVariables false
set_option linter.unusedSimpArgs false

/-- The pointer of nothing, as cells. -/
def Z25 : Array Value := #[.int .i64 0, .int .i64 0, .int .i64 0, .int .u32 0, .int .u8 0, .int .u8 0, .int .u8 0, .int .u8 0, .int .u8 0, .int .u8 0, .int .u8 0, .int .u8 0, .int .u8 0, .int .u8 0, .int .u8 0, .int .u8 0, .int .u8 0, .int .u8 0, .int .u8 0, .int .u8 0, .int .u8 0, .int .u8 0, .int .u8 0, .int .u8 0, .int .u8 0, .int .u8 0, .int .u8 0, .int .u8 0, .int .u8 0, .int .u8 0, .int .u8 0, .int .u8 0, .int .u8 0, .int .u8 0, .int .u8 0, .int .u8 0]
/-- A pool that no call made, as cells. -/
def Z38 : Array Value := #[.pointer none, .pointer none, .int .i64 0, .bool false, .slice none 0 0]
theorem i25 : (Try.prog.info? 25).map (·.size) = some Z25.size := by kernel_rfl

/-- No pool: nil, or one that no call made. -/
def NoPool (w : World) (p : Option Addr) : Prop := p = none ∨ ∃ B, p = some ⟨B, 0, none⟩ ∧ w.heap[B]? = some (.cells Z38 38 (0, 0))
theorem NoPool.below {w w1 : World} {p : Option Addr} (h : NoPool w p) (hb : Below w.heap.size w w1) : NoPool w1 p := by
  rcases h with h | ⟨B, h, hg⟩
  · exact .inl h
  · exact .inr ⟨B, h, keep hb hg (Array.getElem?_eq_some_iff.1 hg).1⟩

theorem len_nil (w : World) : Calls Try.prog 38 #[.pointer none] w fun e w' => e = .returned (.int .i64 0) ∧ w = w' := by
  go_enter Try.func38, Try.ntmps38
  go_wp2
  go_ret
  exact ⟨rfl, rfl⟩

theorem ready_calls (w : World) (p : Option Addr) (h : NoPool w p) : Calls Try.prog 30 #[.pointer p] w fun e w' => e = .returned (.int .i64 1) ∧ Below w.heap.size w w' := by
  rcases h with rfl | ⟨B, rfl, hg⟩
  · go_enter Try.func30, Try.ntmps30
    go_wp2
    go_quiet (fail)
    go_wp2
    go_ret
    exact ⟨rfl, below_drewN (Below.refl _ _) _⟩
  · have x0 : w.cell? ⟨B, 0, none⟩ = some (.pointer none) := by rw [cell_of_row w B 0 Z38 38 (0, 0) hg]; rfl
    clear hg
    go_enter Try.func30, Try.ntmps30
    go_wp2
    go_quiet ((go_at_call 38; exact Calls.quiet_of_same ((len_nil _).mono fun e w' h => ⟨h.1, h.2.symm⟩)))
    go_wp2
    go_ret
    exact ⟨rfl, below_drewN (Below.refl _ _) _⟩

theorem get_calls (w : World) (p : Option Addr) (k : Value) (cs : Array Value) (h : NoPool w p) : Calls Try.prog 19 #[.pointer p, .agg cs, k] w fun e w' => e = .returned (.tuple #[.slice none 0 0, .bool false, .int .i64 1]) ∧ Below w.heap.size w w' := by
  have R := fun W (hb : Below w.heap.size w W) => ready_calls W p (h.below hb)
  clear h
  go_enter Try.func19, Try.ntmps19
  go_wp2_with fail
  refine (R _ ((Below.refl _ _).alloc (Nat.le_refl _) _)).mono ?_
  rintro e w1 ⟨rfl, hb⟩
  go_wp2
  go_ret3
  exact ⟨rfl, ((Below.refl _ _).alloc (Nat.le_refl _) _).trans (hb.mono (by simp))⟩

theorem walk_calls (w : World) (p : Option Addr) (cs : Array Value) (f g : Value) (h : NoPool w p) : Calls Try.prog 8 #[.pointer p, .agg cs, f, g] w fun e w' => e = .returned (.int .i64 1) ∧ Below w.heap.size w w' := by
  have HH := Aside1.mk h
  clear h
  go_enter Try.func8, Try.ntmps8
  go_wp2_with fail
  have hB := (Below.refl w.heap.size w).alloc (Nat.le_refl _) (.cells cs 25)
  refine (get_calls _ p _ _ (HH.out.below hB)).mono ?_
  rintro e w1 ⟨rfl, hb⟩
  go_wp2
  go_ret
  exact ⟨rfl, hB.trans (hb.mono (by simp))⟩

/-- A report of nothing, as cells. -/
abbrev Z28 : Array Value := #[.slice none 0 0, .int .i64 0, .int .i64 0]
theorem i28 : (Try.prog.info? 28).map (·.size) = some Z28.size := by kernel_rfl
theorem a28 : Z28.all (·.oneCell') = true := by decide +kernel
theorem res_ct {P : Program} {fn : Func} {w : World} {g : Nat} {t ty p q : Nat} {cs : Array Value} {fr : Nat × Nat} {d : TypeDesc} (tmps : Array Value) (h : fn.results = #[.cell p ty, .tmp q]) (hp : tmps.getD p undef = .pointer (some ⟨g, 0, none⟩)) (hg : w.heap[g]? = some (.cells cs t fr))
    (hu : P.underlying ty = some d) (hd : (match d with | .struct _ | .array _ _ => true | _ => false) = true) (hi : (P.info? ty).map (·.size) = some cs.size) :
    (results fn tmps).run P w = .ok (.tuple #[.agg cs, tmps.getD q undef]) w := by
  have hp' : tmps[p]?.getD undef = .pointer (some ⟨g, 0, none⟩) := by simpa using hp
  simp [results, h, hp', asAddr, run_loadVar_row w g t ty cs fr d hg hu hd hi]

theorem Walk_calls (w : World) (p : Option Addr) (cs : Array Value) (hcs : cs.size = 36) (h : NoPool w p) : Calls Try.prog 4 #[.pointer p, .agg cs] w fun e w' => e = .returned (.tuple #[.agg Z28, .int .i64 1]) ∧ Below w.heap.size w w' := by
  have hi : (Try.prog.info? 25).map (·.size) = some cs.size := by rw [hcs]; kernel_rfl
  have HH := Aside1.mk (And.intro h (And.intro hi hcs))
  clear h hi hcs
  have x0 := Aside1.mk (onAlloc (onAlloc (heap_new w (.cells cs 25)) (.cells Z28 28)) (.cells Z28 28))
  go_enter Try.func4, Try.ntmps4
  go_wp2_with (refine wpList_load_row rfl 25 _ rfl _ rfl 25 cs (0, 0) _ x0.out Try.underlying25 rfl HH.out.2.1 ?_)
  have hB := ((Below.refl w.heap.size w).alloc (Nat.le_refl _) (.cells cs 25)).alloc (by simp) (.cells Z28 28) |>.alloc (by simp; omega) (.cells Z28 28)
  refine (walk_calls _ p cs _ _ (HH.out.1.below hB)).mono ?_
  rintro e w1 ⟨rfl, hb⟩
  have hg := keep hb (onAlloc (heap_new (w.alloc (.cells cs 25)) (.cells Z28 28)) (.cells Z28 28)) (by simp)
  have e0 : (w.alloc (.cells cs 25)).heap.size = w.heap.size + 1 := by simp
  rw [e0] at hg
  go_wp2_with (refine wpList_store_same rfl 28 _ _ rfl (w.heap.size + 1) Z28 rfl rfl 28 hg i28 a28 ?_)
  exact bodyPost_ret (res_ct (p := 4) (q := 5) _ rfl rfl hg Try.underlying28 rfl i28) rfl ⟨rfl, hB.trans (hb.mono (by simp; omega))⟩

theorem Fresh_calls (w : World) (p : Option Addr) (cs : Array Value) (n : Int) (hcs : cs.size = 36) (h : NoPool w p) : Calls Try.prog 5 #[.pointer p, .agg cs, .int .i64 n] w fun e w' => e = .returned (.tuple #[.slice none 0 0, .int .i64 1]) ∧ Below w.heap.size w w' := by
  have hi : (Try.prog.info? 25).map (·.size) = some cs.size := by rw [hcs]; kernel_rfl
  have HH := Aside1.mk (And.intro h hi)
  clear h hi
  have x0 := Aside1.mk (onAlloc (onAlloc (heap_new w (.cells cs 25)) (.cells #[.int .i64 n] 3)) (.cells #[.slice none 0 0] 26))
  go_enter Try.func5, Try.ntmps5
  go_wp2_with (refine wpList_load_row rfl 25 _ rfl _ rfl 25 cs (0, 0) _ x0.out Try.underlying25 rfl HH.out.2 ?_)
  have hB := ((Below.refl w.heap.size w).alloc (Nat.le_refl _) (.cells cs 25)).alloc (by simp) (.cells #[.int .i64 n] 3) |>.alloc (by simp; omega) (.cells #[.slice none 0 0] 26)
  refine (walk_calls _ p cs _ _ (HH.out.1.below hB)).mono ?_
  rintro e w1 ⟨rfl, hb⟩
  have HB := Aside1.mk (hB.trans (hb.mono (by simp; omega)))
  clear hb hB HH x0
  go_wp2
  go_ret2
  exact ⟨rfl, HB.out⟩

theorem spans_nil (w : World) : Calls Try.prog 6 #[.slice none 0 0] w fun e w' => e = .returned (.tuple #[.slice none 0 0, .bool true]) ∧ w = w' := by
  go_enter Try.func6, Try.ntmps6
  go_wp2_with fail
  refine wp_loop_rounds 1 ?_
  rw [rounds_succ]
  go_wp2
  go_ret2
  exact ⟨rfl, rfl⟩
end Go.Proofs.Ytcdmmkmonhmckaa.VerA
