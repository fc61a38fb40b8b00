/- An object's name is looked at: contracts that tell that the calls return; the names are short. -/
import Derived.Test.YtkemhdbnkpblpaaGreatDoorUpA
namespace Go.Proofs.YtkemhdbnkpblpaaGreatDoor.ObA
open Go.RowKit Go.Proofs.YtkemhdbnkpblpaaGreatDoor.Agg
set_option linter.unusedVariables false
set_option linter.unusedSimpArgs false

/-- A number up to four is told. -/
def Small (w : World) (e : Ending) (w' : World) : Prop := ∃ k : Nat, k ≤ 4 ∧ e = .returned (.int .i64 (k : Int)) ∧ w = w'
theorem length_calls (c : Int) (w : World) : Calls Tryz.prog 309 #[.int .u8 c] w (Small w) := by
  go_enter Tryz.func309, Tryz.ntmps309
  go_wp2
  all_goals
    go_ret
    first
    | exact ⟨0, by omega, rfl, rfl⟩
    | exact ⟨1, by omega, rfl, rfl⟩
    | exact ⟨2, by omega, rfl, rfl⟩
    | exact ⟨3, by omega, rfl, rfl⟩
    | exact ⟨4, by omega, rfl, rfl⟩

/-- A truth is told. -/
def Truth (w : World) (e : Ending) (w' : World) : Prop := ∃ b : Bool, e = .returned (.bool b) ∧ w = w'
theorem on_calls (c : Int) (w : World) : Calls Tryz.prog 310 #[.int .u8 c] w (Truth w) := by
  go_enter Tryz.func310, Tryz.ntmps310
  go_wp2
  go_ret
  exact ⟨_, rfl, rfl⟩
/-- A character is told. -/
def Char (w : World) (e : Ending) (w' : World) : Prop := ∃ c : Int, e = .returned (.int .i32 c) ∧ w = w'
theorem lead_calls (k : Nat) (h1 : 1 ≤ k) (h4 : k ≤ 4) (w : World) : Calls Tryz.prog 311 #[.int .i64 (k : Int)] w (Char w) := by
  obtain rfl | rfl | rfl | rfl : k = 1 ∨ k = 2 ∨ k = 3 ∨ k = 4 := by omega
  all_goals
    go_enter Tryz.func311, Tryz.ntmps311
    go_wp2
    go_ret
    exact ⟨_, rfl, rfl⟩
theorem right_calls (c : Int) (w : World) : Calls Tryz.prog 312 #[.int .i32 c] w (Truth w) := by
  go_enter Tryz.func312, Tryz.ntmps312
  go_wp2
  all_goals
    go_ret
    exact ⟨_, rfl, rfl⟩
theorem size_calls (c : Int) (w : World) : Calls Tryz.prog 313 #[.int .i32 c] w (Small w) := by
  have i0 : ∀ w, (Instr.index 447 (.agg #[.int .i32 128, .int .i32 2048, .int .i32 65536]) (.int .i64 0)).run Tryz.prog w = .ok (.int .i32 128) w := fun _ => by kernel_rfl
  have i1 : ∀ w, (Instr.index 447 (.agg #[.int .i32 128, .int .i32 2048, .int .i32 65536]) (.int .i64 1)).run Tryz.prog w = .ok (.int .i32 2048) w := fun _ => by kernel_rfl
  have i2 : ∀ w, (Instr.index 447 (.agg #[.int .i32 128, .int .i32 2048, .int .i32 65536]) (.int .i64 2)).run Tryz.prog w = .ok (.int .i32 65536) w := fun _ => by kernel_rfl
  go_enter Tryz.func313, Tryz.ntmps313
  go_wp2
  go_loop [3, 7] (fun v3 v7 => ∃ (j k : Nat), v7 = .int .i64 (j : Int) ∧ j ≤ 3 ∧ v3 = .int .i64 (k : Int) ∧ k ≤ j + 1) (fun _ v => 3 - (intOf v).toNat)
  case atStart => exact ⟨0, 1, rfl, by omega, rfl, by omega⟩
  case round =>
    obtain ⟨j, k, rfl, hj, rfl, hk⟩ := hrel
    obtain rfl | rfl | rfl | rfl : j = 0 ∨ j = 1 ∨ j = 2 ∨ j = 3 := by omega
    · go_wp2
      all_goals
        go_round
        case rel => first | exact ⟨1, k + 1, rfl, by omega, by go_num, by omega⟩ | exact ⟨1, k, rfl, by omega, rfl, by omega⟩
        case measure => simp [intOf]
    · go_wp2
      all_goals
        go_round
        case rel => first | exact ⟨2, k + 1, rfl, by omega, by go_num, by omega⟩ | exact ⟨2, k, rfl, by omega, rfl, by omega⟩
        case measure => simp [intOf]
    · go_wp2
      all_goals
        go_round
        case rel => first | exact ⟨3, k + 1, rfl, by omega, by go_num, by omega⟩ | exact ⟨3, k, rfl, by omega, rfl, by omega⟩
        case measure => simp [intOf]
    · go_wp2
      go_ret
      exact ⟨k, by omega, rfl, rfl⟩
end Go.Proofs.YtkemhdbnkpblpaaGreatDoor.ObA
