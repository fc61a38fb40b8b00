import Derived.Test.YtcdmmkmonhmckaaGreatSpaA
import Derived.Test.YtcdmmkmonhmckaaGreatCowN
namespace Go.Proofs.YtcdmmkmonhmckaaGreat.TxgA
open Go.RowKit Go.Proofs.YtcdmmkmonhmckaaGreat.Agg Go.Proofs.YtcdmmkmonhmckaaGreat.CowA Go.Proofs.YtcdmmkmonhmckaaGreat.DeadA Go.Proofs.YtcdmmkmonhmckaaGreat.SpaA
set_option linter.unusedVariables false
set_option linter.unusedSimpArgs false

/-- A root of nothing. -/
def Z72 : Array Value := #[.int .i64 0, .int .i64 0, .int .i64 0, .int .i64 0, .int .u32 0, .int .u8 0, .int .u8 0, .int .u8 0, .int .u8 0, .int .u8 0, .int .u8 0, .int .u8 0, .int .u8 0, .int .u8 0, .int .u8 0, .int .u8 0, .int .u8 0, .int .u8 0, .int .u8 0, .int .u8 0, .int .u8 0, .int .u8 0, .int .u8 0, .int .u8 0, .int .u8 0, .int .u8 0, .int .u8 0, .int .u8 0, .int .u8 0, .int .u8 0, .int .u8 0, .int .u8 0, .int .u8 0, .int .u8 0, .int .u8 0, .int .u8 0, .int .u8 0, .int .i64 0]
theorem i72 : (Tryz.prog.info? 72).map (·.size) = some Z72.size := by kernel_rfl
theorem a72 : Z72.all (·.oneCell') = true := by decide +kernel

/-- No disk: nil, or one that no call made. -/
def NoDisk (w : World) (d : Option Addr) : Prop := d = none ∨ ∃ g z, d = some ⟨g, 0, none⟩ ∧ w.heap[g]? = some (.cells z 108 (0, 0)) ∧ z[0]? = some (.slice none 0 0)

theorem eql105 (W : World) : (binOp .eql 105 (.slice none 0 0) (.slice none 0 0)).run Tryz.prog W = .ok (.bool true) W := by kernel_rfl

set_option maxRecDepth 100000 in
theorem dnone_calls (w : World) (d : Option Addr) (h : NoDisk w d) : Calls Tryz.prog 258 #[.pointer d] w fun e w' => e = .returned (.bool true) ∧ w = w' := by
  rcases h with rfl | ⟨g, z, rfl, hg, h0⟩
  · go_enter Tryz.func258, Tryz.ntmps258
    go_wp2
    go_ret
    exact ⟨rfl, rfl⟩
  · have x0 : w.cell? ⟨g, 0, none⟩ = some (.slice none 0 0) := by rw [cell_of_row w g 0 z 108 (0, 0) hg]; exact h0
    clear hg h0
    have n1 := eql105
    go_enter Tryz.func258, Tryz.ntmps258
    go_wp2
    go_ret
    exact ⟨rfl, rfl⟩

theorem dlen_calls (w : World) (d : Option Addr) (h : NoDisk w d) : Calls Tryz.prog 135 #[.pointer d] w fun e w' => e = .returned (.int .i64 0) ∧ w = w' := by
  go_enter Tryz.func135, Tryz.ntmps135
  go_wp2_with fail
  refine (dnone_calls _ d h).mono ?_
  rintro e w1 ⟨rfl, rfl⟩
  go_wp2
  go_ret
  exact ⟨rfl, rfl⟩

theorem format_calls (w : World) (d : Option Addr) (h : NoDisk w d) : Calls Tryz.prog 40 #[.pointer d] w fun e w' => e = .returned (.int .i64 1) ∧ w = w' := by
  go_enter Tryz.func40, Tryz.ntmps40
  go_wp2_with fail
  refine (dlen_calls _ d h).mono ?_
  rintro e w1 ⟨rfl, rfl⟩
  go_wp2
  go_ret
  exact ⟨rfl, rfl⟩

theorem dwrong_calls (w : World) (n : Int) : Calls Tryz.prog 261 #[.pointer none, .int .i64 n] w fun e w' => e = .returned (.int .i64 1) ∧ w = w' := by
  go_enter Tryz.func261, Tryz.ntmps261
  go_wp2_with fail
  refine (dnone_calls _ none (.inl rfl)).mono ?_
  rintro e w1 ⟨rfl, rfl⟩
  go_wp2
  go_ret
  exact ⟨rfl, rfl⟩

theorem dread_calls (w : World) (n : Int) : Calls Tryz.prog 208 #[.pointer none, .int .i64 n] w fun e w' => e = .returned (.tuple #[.slice none 0 0, .int .i64 1]) ∧ w = w' := by
  go_enter Tryz.func208, Tryz.ntmps208
  go_wp2_with fail
  refine (dwrong_calls _ n).mono ?_
  rintro e w1 ⟨rfl, rfl⟩
  go_wp2
  go_ret2
  exact ⟨rfl, rfl⟩

set_option maxRecDepth 100000 in
theorem newest_calls (w : World) : Calls Tryz.prog 139 #[.pointer none] w fun e w' => e = .returned (.tuple #[.agg Z72, .int .i64 1]) ∧ Below w.heap.size w w' := by
  have hB := Aside1.mk ((Below.refl w.heap.size w).alloc (Nat.le_refl _) (.cells Z72 72))
  have g0 := heap_new w (.cells Z72 72)
  go_enter Tryz.func139, Tryz.ntmps139
  go_wp2_with fail
  refine (dread_calls _ _).mono ?_
  rintro e w1 ⟨rfl, rfl⟩
  go_wp2_with (refine wpList_store_same rfl 72 _ _ rfl w.heap.size Z72 rfl rfl 72 g0 i72 a72 ?_)
  exact bodyPost_ret (res_ct (p := 2) (q := 3) _ rfl rfl g0 Tryz.underlying72 rfl i72) rfl ⟨rfl, hB.out⟩

set_option maxRecDepth 100000 in
theorem open_calls (w : World) (n : Value) : Calls Tryz.prog 41 #[.pointer none, n] w fun e w' => e = .returned (.tuple #[.pointer none, .int .i64 1]) ∧ Below w.heap.size w w' := by
  go_enter Tryz.func41, Tryz.ntmps41
  go_wp2_with fail
  refine (newest_calls _).mono ?_
  rintro e w1 ⟨rfl, hb⟩
  have HB := Aside1.mk (hb.alloc hb.size (.cells Z72 72))
  clear hb
  go_wp2_with (refine wpList_store_same rfl 72 _ _ rfl _ Z72 rfl rfl 72 (heap_new _ _) i72 a72 ?_)
  go_ret2
  exact ⟨rfl, HB.out⟩

theorem within_calls (w : World) (t : Option Addr) (h : NoStore w t) : Calls Tryz.prog 143 #[.pointer t] w fun e w' => e = .returned (.int .i64 1) ∧ w = w' := by
  go_enter Tryz.func143, Tryz.ntmps143
  go_wp2_with fail
  refine (none_calls _ t h).mono ?_
  rintro e w1 ⟨rfl, rfl⟩
  go_wp2
  go_ret
  exact ⟨rfl, rfl⟩

theorem id_calls (w : World) (t : Option Addr) (h : NoStore w t) : Calls Tryz.prog 42 #[.pointer t] w fun e w' => e = .returned (.tuple #[.int .i64 0, .int .i64 1]) ∧ w = w' := by
  go_enter Tryz.func42, Tryz.ntmps42
  go_wp2_with fail
  refine (within_calls _ t h).mono ?_
  rintro e w1 ⟨rfl, rfl⟩
  go_wp2
  go_ret2
  exact ⟨rfl, rfl⟩

theorem reach_calls (w : World) (t : Option Addr) (h : NoStore w t) : Calls Tryz.prog 43 #[.pointer t] w fun e w' => e = .returned (.tuple #[.slice none 0 0, .int .i64 1]) ∧ w = w' := by
  go_enter Tryz.func43, Tryz.ntmps43
  go_wp2_with fail
  refine (none_calls _ t h).mono ?_
  rintro e w1 ⟨rfl, rfl⟩
  go_wp2
  go_ret2
  exact ⟨rfl, rfl⟩

theorem begin_calls (w : World) (t : Option Addr) (h : NoStore w t) : Calls Tryz.prog 44 #[.pointer t] w fun e w' => e = .returned (.int .i64 1) ∧ w = w' := by
  go_enter Tryz.func44, Tryz.ntmps44
  go_wp2_with fail
  refine (none_calls _ t h).mono ?_
  rintro e w1 ⟨rfl, rfl⟩
  go_wp2
  go_ret
  exact ⟨rfl, rfl⟩

theorem commit_calls (w : World) (t : Option Addr) (h : NoStore w t) : Calls Tryz.prog 45 #[.pointer t] w fun e w' => e = .returned (.int .i64 1) ∧ w = w' := by
  go_enter Tryz.func45, Tryz.ntmps45
  go_wp2_with fail
  refine (within_calls _ t h).mono ?_
  rintro e w1 ⟨rfl, rfl⟩
  go_wp2
  go_ret
  exact ⟨rfl, rfl⟩

theorem abort_calls (w : World) (t : Option Addr) (h : NoStore w t) : Calls Tryz.prog 46 #[.pointer t] w fun e w' => e = .returned (.int .i64 1) ∧ w = w' := by
  go_enter Tryz.func46, Tryz.ntmps46
  go_wp2_with fail
  refine (within_calls _ t h).mono ?_
  rintro e w1 ⟨rfl, rfl⟩
  go_wp2
  go_ret
  exact ⟨rfl, rfl⟩

theorem opened_calls (w : World) (t : Option Addr) (h : NoStore w t) : Calls Tryz.prog 47 #[.pointer t] w fun e w' => e = .returned (.bool false) ∧ w = w' := by
  go_enter Tryz.func47, Tryz.ntmps47
  go_wp2_with fail
  refine (none_calls _ t h).mono ?_
  rintro e w1 ⟨rfl, rfl⟩
  go_wp2
  go_ret
  exact ⟨rfl, rfl⟩

theorem epoch_calls (w : World) (t : Option Addr) (h : NoStore w t) : Calls Tryz.prog 50 #[.pointer t] w fun e w' => e = .returned (.int .i64 0) ∧ w = w' := by
  go_enter Tryz.func50, Tryz.ntmps50
  go_wp2_with fail
  refine (none_calls _ t h).mono ?_
  rintro e w1 ⟨rfl, rfl⟩
  go_wp2
  go_ret
  exact ⟨rfl, rfl⟩

theorem turn_calls (w : World) (t : Option Addr) (h : NoStore w t) : Calls Tryz.prog 52 #[.pointer t] w fun e w' => e = .returned (.int .i64 1) ∧ w = w' := by
  go_enter Tryz.func52, Tryz.ntmps52
  go_wp2_with fail
  refine (within_calls _ t h).mono ?_
  rintro e w1 ⟨rfl, rfl⟩
  go_wp2
  go_ret
  exact ⟨rfl, rfl⟩

theorem free_calls (w : World) (t : Option Addr) (l : Value) (h : NoStore w t) : Calls Tryz.prog 53 #[.pointer t, l] w fun e w' => e = .returned (.int .i64 1) ∧ w = w' := by
  go_enter Tryz.func53, Tryz.ntmps53
  go_wp2_with fail
  refine (within_calls _ t h).mono ?_
  rintro e w1 ⟨rfl, rfl⟩
  go_wp2
  go_ret
  exact ⟨rfl, rfl⟩

theorem settle_calls (w : World) (t : Option Addr) (h : NoStore w t) : Calls Tryz.prog 54 #[.pointer t] w fun e w' => e = .returned (.int .i64 1) ∧ w = w' := by
  go_enter Tryz.func54, Tryz.ntmps54
  go_wp2_with fail
  refine (within_calls _ t h).mono ?_
  rintro e w1 ⟨rfl, rfl⟩
  go_wp2
  go_ret
  exact ⟨rfl, rfl⟩

theorem set_calls (w : World) (t : Option Addr) (cs : Array Value) (h : NoStore w t) : Calls Tryz.prog 51 #[.pointer t, .agg cs] w fun e w' => e = .returned (.int .i64 1) ∧ Below w.heap.size w w' := by
  have hB := Aside1.mk ((Below.refl w.heap.size w).alloc (Nat.le_refl _) (.cells cs 28))
  have HH := Aside1.mk (h.below hB.out)
  clear h
  go_enter Tryz.func51, Tryz.ntmps51
  go_wp2_with fail
  refine (within_calls _ t HH.out).mono ?_
  rintro e w1 ⟨rfl, rfl⟩
  go_wp2
  go_ret
  exact ⟨rfl, hB.out⟩

/-- One cell is the result. -/
theorem res_c {P : Program} {fn : Func} {w : World} {g : Nat} {t ty p : Nat} {cs : Array Value} {fr : Nat × Nat} {d : TypeDesc} (tmps : Array Value) (h : fn.results = #[.cell p ty]) (hp : tmps.getD p undef = .pointer (some ⟨g, 0, none⟩)) (hg : w.heap[g]? = some (.cells cs t fr))
    (hu : P.underlying ty = some d) (hd : (match d with | .struct _ | .array _ _ => true | _ => false) = true) (hi : (P.info? ty).map (·.size) = some cs.size) :
    (results fn tmps).run P w = .ok (.agg cs) w := by
  have hp' : tmps[p]?.getD undef = .pointer (some ⟨g, 0, none⟩) := by simpa using hp
  simp [results, h, hp', asAddr, run_loadVar_row w g t ty cs fr d hg hu hd hi]

set_option maxRecDepth 100000 in
theorem root_calls (w : World) (t : Option Addr) (h : NoStore w t) : Calls Tryz.prog 49 #[.pointer t] w fun e w' => e = .returned (.agg Z28) ∧ Below w.heap.size w w' := by
  have hB := Aside1.mk ((Below.refl w.heap.size w).alloc (Nat.le_refl _) (.cells Z28 28))
  have HH := Aside1.mk (h.below hB.out)
  have g0 := heap_new w (.cells Z28 28)
  clear h
  go_enter Tryz.func49, Tryz.ntmps49
  go_wp2_with fail
  refine (none_calls _ t HH.out).mono ?_
  rintro e w1 ⟨rfl, rfl⟩
  go_wp2_with (refine wpList_store_same rfl 28 _ _ rfl w.heap.size Z28 rfl rfl 28 g0 i28 a28 ?_)
  exact bodyPost_ret (res_c (p := 2) _ rfl rfl g0 Tryz.underlying28 rfl i28) rfl ⟨rfl, hB.out⟩
end Go.Proofs.YtcdmmkmonhmckaaGreat.TxgA
