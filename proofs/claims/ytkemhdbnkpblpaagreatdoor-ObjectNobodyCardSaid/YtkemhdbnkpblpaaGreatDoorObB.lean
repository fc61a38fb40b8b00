/- An object's name is looked at: utf.Next, utf.Count, name.plain: contracts that tell that the calls return. -/
import Derived.Test.YtkemhdbnkpblpaaGreatDoorObA
namespace Go.Proofs.YtkemhdbnkpblpaaGreatDoor.ObB
open Go.RowKit Go.Proofs.YtkemhdbnkpblpaaGreatDoor.Agg Go.Proofs.YtkemhdbnkpblpaaGreatDoor.ObA
set_option linter.unusedVariables false
set_option linter.unusedSimpArgs false

theorem list_len (s : ByteArray) : s.toList.length = s.size := by rw [ByteArray.toList_eq, Array.length_toList]; rfl
theorem full (s : ByteArray) (h : 0 < s.size) : s.toList.isEmpty = false := by
  have := list_len s
  cases hs : s.toList with
  | nil => rw [hs] at this; simp at this; omega
  | cons => rfl
theorem none_ (s : ByteArray) (h : s.size = 0) : s.toList.isEmpty = true := by
  have := list_len s
  cases hs : s.toList with
  | nil => rfl
  | cons => rw [hs] at this; simp at this; omega
/-- A character is told, and how many bytes it has, which are no more than there are. -/
def Nxt (n : Nat) (w : World) (e : Ending) (w' : World) : Prop := ∃ (c : Int) (k : Nat), e = .returned (.tuple #[.int .i32 c, .int .i64 (k : Int)]) ∧ k ≤ n ∧ Below w.heap.size w w'

theorem lead_ex (k : Nat) (h1 : 1 ≤ k) (h4 : k ≤ 4) : ∃ c : Int, ∀ w, Calls Tryz.prog 311 #[.int .i64 (k : Int)] w fun e w' => e = .returned (.int .i32 c) ∧ w' = w := by
  obtain rfl | rfl | rfl | rfl : k = 1 ∨ k = 2 ∨ k = 3 ∨ k = 4 := by omega
  · refine ⟨0, fun w => ?_⟩
    go_enter Tryz.func311, Tryz.ntmps311
    go_wp2
    go_ret
    exact ⟨by kernel_rfl, rfl⟩
  · refine ⟨192, fun w => ?_⟩
    go_enter Tryz.func311, Tryz.ntmps311
    go_wp2
    go_ret
    exact ⟨by kernel_rfl, rfl⟩
  · refine ⟨224, fun w => ?_⟩
    go_enter Tryz.func311, Tryz.ntmps311
    go_wp2
    go_ret
    exact ⟨by kernel_rfl, rfl⟩
  · refine ⟨240, fun w => ?_⟩
    go_enter Tryz.func311, Tryz.ntmps311
    go_wp2
    go_ret
    exact ⟨by kernel_rfl, rfl⟩

set_option maxRecDepth 100000 in
set_option maxHeartbeats 2000000 in
theorem next_calls (s : ByteArray) (h0 : 0 < s.size) (hs : s.size ≤ 1000) (w : World) : Calls Tryz.prog 240 #[.string s] w (Nxt s.size w) := by
  have he := full s h0
  go_enter Tryz.func240, Tryz.ntmps240
  go_wp2_with fail
  refine (length_calls _ _).mono ?_
  rintro e w1 ⟨k, hk, rfl, rfl⟩
  by_cases hk0 : k = 0
  · subst hk0
    go_wp2
    go_ret2
    exact ⟨0, 0, rfl, by omega, Below.refl _ _⟩
  · by_cases hks : s.size < k
    · have hk1 : 0 < k := by omega
      go_wp2
      go_ret2
      exact ⟨0, 0, rfl, by omega, Below.refl _ _⟩
    · have hk1 : 0 < k := by omega
      have hk2 : ((k : Int) == 0) = false := by simp; omega
      obtain ⟨lc, hlc⟩ := lead_ex k hk1 hk
      have HL := Aside1.mk hlc
      clear hlc
      go_wp2
      go_quiet ((go_at_call 311; exact Calls.quiet_of_same (HL.out _)))
      go_wp2
      go_loop [6, 7] (fun v6 v7 => ∃ (c : Int) (j : Nat), v6 = .int .i32 c ∧ v7 = .int .i64 (j : Int) ∧ 1 ≤ j ∧ j ≤ k) (fun _ v => k - (intOf v).toNat)
      case atStart => exact ⟨_, 1, rfl, rfl, by omega, by omega⟩
      case round =>
        obtain ⟨c, j, rfl, rfl, hj1, hjk⟩ := hrel
        by_cases hlt : j < k
        · go_wp2_with fail
          refine (on_calls _ _).mono ?_
          rintro e w1 ⟨b, rfl, rfl⟩
          cases b with
          | false =>
            go_wp2
            go_ret2
            exact ⟨0, 0, rfl, by omega, below_drewN (Below.refl _ _) _⟩
          | true =>
            go_wp2
            go_round
            case rel => exact ⟨_, j + 1, rfl, by go_num, by omega, by omega⟩
            case measure => simp [intOf]; omega
        · obtain rfl : j = k := by omega
          go_wp2_with fail
          refine (right_calls _ _).mono ?_
          rintro e w1 ⟨b, rfl, rfl⟩
          cases b with
          | false =>
            go_wp2
            go_ret2
            exact ⟨0, 0, rfl, by omega, below_drewN (Below.refl _ _) _⟩
          | true =>
            go_wp2_with fail
            refine (size_calls _ _).mono ?_
            rintro e w1 ⟨m, hm, rfl, rfl⟩
            by_cases hmj : m = j
            · subst hmj
              go_wp2
              go_ret2
              exact ⟨_, m, rfl, by omega, below_drewN (Below.refl _ _) _⟩
            · go_wp2
              go_ret2
              exact ⟨0, 0, rfl, by omega, below_drewN (Below.refl _ _) _⟩

/-- Some number is told. -/
def Number (w : World) (e : Ending) (w' : World) : Prop := ∃ n : Int, e = .returned (.int .i64 n) ∧ Below w.heap.size w w'
set_option maxRecDepth 100000 in
theorem count_calls (s : ByteArray) (hs : s.size ≤ 1000) (w : World) : Calls Tryz.prog 186 #[.string s] w (Number w) := by
  go_enter Tryz.func186, Tryz.ntmps186
  go_wp2
  go_loopw [0, 3] (fun v0 v3 wr => ∃ (t : ByteArray) (n : Nat), v0 = .string t ∧ t.size + n ≤ s.size ∧ v3 = .int .i64 (n : Int) ∧ Aside1 (Below w.heap.size w wr)) (fun v0 v3 _ => s.size - (intOf v3).toNat)
  case atStart => exact ⟨s, 0, rfl, by omega, rfl, ⟨Below.refl _ _⟩⟩
  case round =>
    obtain ⟨t, n, rfl, ht, rfl, HB⟩ := hrel
    by_cases h0 : t.size = 0
    · have he := none_ t h0
      go_wp2
      go_ret
      exact ⟨_, rfl, HB.out⟩
    · have he := full t (by omega)
      go_wp2_with fail
      refine (next_calls t (by omega) (by omega) _).mono ?_
      rintro e w2 ⟨c, k, rfl, hk, hb⟩
      have HB2 := Aside1.mk (HB.out.trans (hb.mono HB.out.size))
      clear hb HB
      by_cases hk0 : k = 0
      · subst hk0
        go_wp2
        go_ret
        exact ⟨_, rfl, HB2.out⟩
      · have hk1 : 0 < k := by omega
        go_wp2
        go_roundw
        case rel => exact ⟨_, n + 1, rfl, by have : (t.extract k t.size).size ≤ t.size - k := by simp
                                             omega, by go_num, HB2⟩
        case measure => simp [intOf]; omega

/-- Some truth is told. -/
def TruthB (w : World) (e : Ending) (w' : World) : Prop := ∃ b : Bool, e = .returned (.bool b) ∧ Below w.heap.size w w'
theorem uright_calls (s : ByteArray) (hs : s.size ≤ 1000) (w : World) : Calls Tryz.prog 134 #[.string s] w (TruthB w) := by
  go_enter Tryz.func134, Tryz.ntmps134
  go_wp2_with fail
  refine (count_calls s hs _).mono ?_
  rintro e w1 ⟨n, rfl, hb⟩
  have HB := Aside1.mk hb
  clear hb
  go_wp2
  go_ret
  exact ⟨_, rfl, HB.out⟩

set_option maxRecDepth 100000 in
theorem plain_calls (s : ByteArray) (hs : s.size ≤ 1000) (w : World) : Calls Tryz.prog 79 #[.string s] w (TruthB w) := by
  go_enter Tryz.func79, Tryz.ntmps79
  go_wp2
  go_loop [6] (fun v6 => ∃ j : Nat, v6 = .int .i64 (j : Int) ∧ j ≤ s.size) (fun v => s.size - (intOf v).toNat)
  case atStart => exact ⟨0, rfl, Nat.zero_le _⟩
  case round =>
    obtain ⟨j, rfl, hj⟩ := hrel
    by_cases hlt : j < s.size
    · go_wp2
      all_goals first
        | (go_ret; exact ⟨_, rfl, Below.refl _ _⟩)
        | (go_round; (case rel => exact ⟨j + 1, by go_num, by omega⟩); (case measure => simp [intOf]; omega))
    · obtain rfl : j = s.size := by omega
      go_wp2_with fail
      refine (uright_calls s hs _).mono ?_
      rintro e w1 ⟨b, rfl, hb⟩
      have HB := Aside1.mk hb
      clear hb
      go_wp2
      go_ret
      exact ⟨_, rfl, HB.out⟩
end Go.Proofs.YtkemhdbnkpblpaaGreatDoor.ObB
