/- Uploads of no sets: contracts of the callees; no condition but that there are no sets. -/
import Derived.Test.YtkemhdbnkpblpaaGreatDoorProg
import Derived.Test.YtkemhdbnkpblpaaGreatDoorAgg
import Derived.Deep.QuietTactic
import Derived.BigQuiet
import Derived.Deep.LoopGhost
import Derived.Deep.DeepCutAuto
import Derived.Outline
namespace Go.Proofs.YtkemhdbnkpblpaaGreatDoor.UpA
open Go.RowKit Go.Proofs.YtkemhdbnkpblpaaGreatDoor.Agg
set_option linter.unusedVariables false
set_option linter.unusedSimpArgs false

/-- No sets: nil, or ones of no store. -/
def NoSets (w : World) (p : Option Addr) : Prop := p = none ∨ ∃ B z, p = some ⟨B, 0, none⟩ ∧ w.heap[B]? = some (.cells z 33 (0, 0)) ∧ z[0]? = some (.pointer none)
theorem NoSets.below {w w1 : World} {p : Option Addr} (h : NoSets w p) (hb : Below w.heap.size w w1) : NoSets w1 p := by
  rcases h with h | ⟨B, z, h, hg, h0⟩
  · exact .inl h
  · exact .inr ⟨B, z, h, keep hb hg (Array.getElem?_eq_some_iff.1 hg).1, h0⟩
abbrev Z47 : Array Value := #[.int .i64 0, .int .i64 0, .int .i64 0, .int .i64 0, .string { data := #[] }, .string { data := #[] }, .slice none 0 0]
abbrev Z88 : Array Value := #[.slice none 0 0, .slice none 0 0, .slice none 0 0]
abbrev Z118 : Array Value := #[.int .i64 0, .int .i64 0]
theorem i47 : (Tryz.prog.info? 47).map (·.size) = some Z47.size := by kernel_rfl
theorem i88 : (Tryz.prog.info? 88).map (·.size) = some Z88.size := by kernel_rfl
theorem i118 : (Tryz.prog.info? 118).map (·.size) = some Z118.size := by kernel_rfl
theorem a47 : Z47.all (·.oneCell') = true := by decide +kernel
theorem a88 : Z88.all (·.oneCell') = true := by decide +kernel
theorem a118 : Z118.all (·.oneCell') = true := by decide +kernel
theorem res_ct {P : Program} {fn : Func} {w : World} {g : Nat} {t ty p q : Nat} {cs : Array Value} {fr : Nat × Nat} {d : TypeDesc} (tmps : Array Value) (h : fn.results = #[.cell p ty, .tmp q]) (hp : tmps.getD p undef = .pointer (some ⟨g, 0, none⟩)) (hg : w.heap[g]? = some (.cells cs t fr))
    (hu : P.underlying ty = some d) (hd : (match d with | .struct _ | .array _ _ => true | _ => false) = true) (hi : (P.info? ty).map (·.size) = some cs.size) :
    (results fn tmps).run P w = .ok (.tuple #[.agg cs, tmps.getD q undef]) w := by
  have hp' : tmps[p]?.getD undef = .pointer (some ⟨g, 0, none⟩) := by simpa using hp
  simp [results, h, hp', asAddr, run_loadVar_row w g t ty cs fr d hg hu hd hi]
theorem res_ctt {P : Program} {fn : Func} {w : World} {g : Nat} {t ty p q r : Nat} {cs : Array Value} {fr : Nat × Nat} {d : TypeDesc} (tmps : Array Value) (h : fn.results = #[.cell p ty, .tmp q, .tmp r]) (hp : tmps.getD p undef = .pointer (some ⟨g, 0, none⟩)) (hg : w.heap[g]? = some (.cells cs t fr))
    (hu : P.underlying ty = some d) (hd : (match d with | .struct _ | .array _ _ => true | _ => false) = true) (hi : (P.info? ty).map (·.size) = some cs.size) :
    (results fn tmps).run P w = .ok (.tuple #[.agg cs, tmps.getD q undef, tmps.getD r undef]) w := by
  have hp' : tmps[p]?.getD undef = .pointer (some ⟨g, 0, none⟩) := by simpa using hp
  simp [results, h, hp', asAddr, run_loadVar_row w g t ty cs fr d hg hu hd hi]

theorem ready_calls (w : World) (p : Option Addr) (h : NoSets w p) : Calls Tryz.prog 108 #[.agg #[.pointer p]] w fun e w' => e = .returned (.int .i64 1) ∧ Below w.heap.size w w' := by
  rcases h with rfl | ⟨B, z, rfl, hg, h0⟩
  · go_enter Tryz.func108, Tryz.ntmps108
    go_wp2
    go_ret
    exact ⟨rfl, (Below.refl _ _).alloc (Nat.le_refl _) _⟩
  · have hB := (Array.getElem?_eq_some_iff.1 hg).1
    have x0 : (w.alloc (.cells #[.pointer (some ⟨B, 0, none⟩)] 28)).cell? ⟨B, 0, none⟩ = some (.pointer none) := by rw [cell_of_row _ B 0 z 33 (0, 0) (onAlloc hg _)]; exact h0
    clear hg h0
    go_enter Tryz.func108, Tryz.ntmps108
    go_wp2
    go_ret
    exact ⟨rfl, (Below.refl _ _).alloc (Nat.le_refl _) _⟩

theorem change_calls (w : World) (p : Option Addr) (f : Value) (h : NoSets w p) : Calls Tryz.prog 23 #[.agg #[.pointer p], f] w fun e w' => e = .returned (.int .i64 1) ∧ Below w.heap.size w w' := by
  rcases h with rfl | ⟨B, z, rfl, hg, h0⟩
  · go_enter Tryz.func23, Tryz.ntmps23
    go_wp2
    go_ret
    exact ⟨rfl, (Below.refl _ _).alloc (Nat.le_refl _) _⟩
  · have hB := (Array.getElem?_eq_some_iff.1 hg).1
    have x0 : (w.alloc (.cells #[.pointer (some ⟨B, 0, none⟩)] 30)).cell? ⟨B, 0, none⟩ = some (.pointer none) := by rw [cell_of_row _ B 0 z 33 (0, 0) (onAlloc hg _)]; exact h0
    clear hg h0
    go_enter Tryz.func23, Tryz.ntmps23
    go_wp2
    go_ret
    exact ⟨rfl, (Below.refl _ _).alloc (Nat.le_refl _) _⟩

/-- Behind three boxes. -/
theorem get_calls (w : World) (p : Option Addr) (s t : ByteArray) (k : Value) (h : NoSets w p) : Calls Tryz.prog 58 #[.agg #[.pointer p], .agg #[.string s, .string t], k] w fun e w' => e = .returned (.tuple #[.agg Z88, .bool false, .int .i64 1]) ∧ Below w.heap.size w w' := by
  have hB := Aside1.mk ((((Below.refl w.heap.size w).alloc (Nat.le_refl _) (.cells #[.pointer p] 28)).alloc (by simp) (.cells #[.string s, .string t] 64)).alloc (by simp; omega) (.cells Z88 88))
  have HH := Aside1.mk (h.below hB.out)
  have g := heap_new ((w.alloc (.cells #[.pointer p] 28)).alloc (.cells #[.string s, .string t] 64)) (.cells Z88 88)
  rw [show ((w.alloc (.cells #[.pointer p] 28)).alloc (.cells #[.string s, .string t] 64)).heap.size = w.heap.size + 1 + 1 by simp] at g
  have G := Aside1.mk g
  clear h g
  go_enter Tryz.func58, Tryz.ntmps58
  go_wp2_with fail
  refine (ready_calls _ p HH.out).mono ?_
  rintro e w1 ⟨rfl, hb⟩
  have hg := keep hb G.out (by simp)
  have HB := Aside1.mk (hB.out.trans (hb.mono (by simp; omega)))
  clear hb hB HH G
  go_wp2_with (refine wpList_store_same rfl 88 _ _ rfl (w.heap.size + 1 + 1) Z88 rfl rfl 88 hg i88 a88 ?_)
  exact bodyPost_ret (res_ctt (p := 6) (q := 7) (r := 8) _ rfl rfl hg Tryz.underlying88 rfl i88) rfl ⟨rfl, HB.out⟩

theorem state_calls (w : World) (p : Option Addr) (s t : ByteArray) (h : NoSets w p) : Calls Tryz.prog 54 #[.agg #[.pointer p], .agg #[.string s, .string t]] w fun e w' => e = .returned (.tuple #[.agg Z118, .int .i64 1]) ∧ Below w.heap.size w w' := by
  have hB := Aside1.mk ((((Below.refl w.heap.size w).alloc (Nat.le_refl _) (.cells #[.pointer p] 28)).alloc (by simp) (.cells #[.string s, .string t] 64)).alloc (by simp; omega) (.cells Z118 118))
  have HH := Aside1.mk (h.below hB.out)
  have g := heap_new ((w.alloc (.cells #[.pointer p] 28)).alloc (.cells #[.string s, .string t] 64)) (.cells Z118 118)
  rw [show ((w.alloc (.cells #[.pointer p] 28)).alloc (.cells #[.string s, .string t] 64)).heap.size = w.heap.size + 1 + 1 by simp] at g
  have G := Aside1.mk g
  clear h g
  go_enter Tryz.func54, Tryz.ntmps54
  go_wp2_with fail
  refine (get_calls _ p s t _ HH.out).mono ?_
  rintro e w1 ⟨rfl, hb⟩
  have hg := keep hb G.out (by simp)
  have HB := Aside1.mk ((hB.out.trans (hb.mono (by simp; omega))).alloc (by have := hb.size; simp at this; omega) (.cells Z88 88))
  have hg2 := Aside1.mk (onAlloc hg (.cells Z88 88))
  have g9 := Aside1.mk (heap_new w1 (.cells Z88 88))
  clear hb hB HH G hg
  go_wp2_with (first | (refine wpList_store_same rfl 88 _ _ rfl _ Z88 rfl rfl 88 g9.out i88 a88 ?_) | (refine wpList_store_same rfl 118 _ _ rfl (w.heap.size + 1 + 1) Z118 rfl rfl 118 hg2.out i118 a118 ?_))
  exact bodyPost_ret (res_ct (p := 4) (q := 5) _ rfl rfl hg2.out Tryz.underlying118 rfl i118) rfl ⟨rfl, HB.out⟩

theorem made_calls (w : World) (p : Option Addr) (s : ByteArray) (h : NoSets w p) : Calls Tryz.prog 18 #[.agg #[.pointer p], .string s] w fun e w' => e = .returned (.tuple #[.int .i64 0, .int .i64 1]) ∧ Below w.heap.size w w' := by
  have hB := Aside1.mk ((Below.refl w.heap.size w).alloc (Nat.le_refl _) (.cells #[.pointer p] 28))
  have HH := Aside1.mk (h.below hB.out)
  clear h
  go_enter Tryz.func18, Tryz.ntmps18
  go_wp2_with fail
  refine (state_calls _ p s _ HH.out).mono ?_
  rintro e w1 ⟨rfl, hb⟩
  have HB := Aside1.mk ((hB.out.trans (hb.mono (by simp))).alloc (by have := hb.size; simp at this; omega) (.cells Z118 118))
  have g9 := Aside1.mk (heap_new w1 (.cells Z118 118))
  clear hb hB HH
  go_wp2_with (refine wpList_store_same rfl 118 _ _ rfl _ Z118 rfl rfl 118 g9.out i118 a118 ?_)
  go_ret2
  exact ⟨rfl, HB.out⟩

theorem there_calls (w : World) (p : Option Addr) (s : ByteArray) (h : NoSets w p) : Calls Tryz.prog 25 #[.agg #[.pointer p], .string s] w fun e w' => e = .returned (.int .i64 1) ∧ Below w.heap.size w w' := by
  have hB := Aside1.mk ((Below.refl w.heap.size w).alloc (Nat.le_refl _) (.cells #[.pointer p] 30))
  have HH := Aside1.mk (h.below hB.out)
  clear h
  go_enter Tryz.func25, Tryz.ntmps25
  go_wp2_with fail
  refine (made_calls _ p s HH.out).mono ?_
  rintro e w1 ⟨rfl, hb⟩
  have HB := Aside1.mk (hB.out.trans (hb.mono (by simp)))
  clear hb hB HH
  go_wp2
  go_ret
  exact ⟨rfl, HB.out⟩

theorem find_calls (w : World) (p : Option Addr) (s : ByteArray) (x y : Value) (h : NoSets w p) : Calls Tryz.prog 33 #[.agg #[.pointer p], .string s, x, y] w fun e w' => e = .returned (.tuple #[.agg Z47, .int .i64 1]) ∧ Below w.heap.size w w' := by
  have hB := Aside1.mk (((Below.refl w.heap.size w).alloc (Nat.le_refl _) (.cells #[.pointer p] 30)).alloc (by simp) (.cells Z47 47))
  have HH := Aside1.mk (h.below hB.out)
  have g := heap_new (w.alloc (.cells #[.pointer p] 30)) (.cells Z47 47)
  rw [show (w.alloc (.cells #[.pointer p] 30)).heap.size = w.heap.size + 1 by simp] at g
  have G := Aside1.mk g
  clear h g
  go_enter Tryz.func33, Tryz.ntmps33
  go_wp2_with fail
  refine (there_calls _ p s HH.out).mono ?_
  rintro e w1 ⟨rfl, hb⟩
  have hg := keep hb G.out (by simp)
  have HB := Aside1.mk (hB.out.trans (hb.mono (by simp; omega)))
  clear hb hB HH G
  go_wp2_with (refine wpList_store_same rfl 47 _ _ rfl (w.heap.size + 1) Z47 rfl rfl 47 hg i47 a47 ?_)
  exact bodyPost_ret (res_ct (p := 8) (q := 9) _ rfl rfl hg Tryz.underlying47 rfl i47) rfl ⟨rfl, HB.out⟩
end Go.Proofs.YtkemhdbnkpblpaaGreatDoor.UpA
