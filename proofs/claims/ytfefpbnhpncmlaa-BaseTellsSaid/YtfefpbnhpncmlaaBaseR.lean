import Derived.Test.YtfefpbnhpncmlaaBaseBack
namespace Go.Proofs.Ytfefpbnhpncmlaa.BaseR
open Go.Proofs.Ytfefpbnhpncmlaa.B8 Go.Proofs.Ytfefpbnhpncmlaa.BaseQ Go.Proofs.Ytfefpbnhpncmlaa.BaseV Go.Proofs.Ytfefpbnhpncmlaa.BaseE Go.Proofs.Ytfefpbnhpncmlaa.BaseD Go.Proofs.Ytfefpbnhpncmlaa.BaseL Go.Proofs.Ytfefpbnhpncmlaa.BaseOneW Go.RowKit Go.Proofs.YtfefpbnhpncmlaaW.PrintWords Go.Proofs.YtfefpbnhpncmlaaW.PrintLast Go.Proofs.YtfefpbnhpncmlaaW.PrintMore
set_option linter.unusedVariables false

theorem rsign_calls (n : Int) (h0 : 0 ≤ n) (h1 : n ≤ 63) (w : World) : Calls Try.prog 15 #[.int .i64 n] w fun e w' => e = .returned (.int .u8 (sg n)) ∧ w = w' := by
  have c2b0 : decide (n < 0) = false := by simp; omega
  have c3b0 : decide (63 < n) = false := by simp; omega
  have p6 : 0 ≤ n := h0
  have q6 : n < (64 : Int) := by omega
  have hx6 := bt_at (⟨#[65, 66, 67, 68, 69, 70, 71, 72, 73, 74, 75, 76, 77, 78, 79, 80, 81, 82, 83, 84, 85, 86, 87, 88, 89, 90, 97, 98, 99, 100, 101, 102, 103, 104, 105, 106, 107, 108, 109, 110, 111, 112, 113, 114, 115, 116, 117, 118, 119, 120, 121, 122, 48, 49, 50, 51, 52, 53, 54, 55, 56, 57, 43, 47]⟩ : ByteArray) n
  replace p6 := eq_true p6
  replace q6 := eq_true q6
  go_enter Try.func15, Try.ntmps15
  go_wp2
  go_ret
  exact ⟨by unfold sg; rfl, rfl⟩

theorem valI_neg (c : Int) (h : valI c < 0) : valI c = -1 := by
  unfold valI at h ⊢
  repeat' split
  all_goals first | rfl | (exfalso; simp_all <;> omega)

theorem rvalue_calls (c : Int) (h0 : 0 ≤ c) (h1 : c < 256) (w : World) : Calls Try.prog 17 #[.int .u8 c] w fun e w' => e = .returned (.int .i64 (valI c)) ∧ w = w' := by
  go_enter Try.func17, Try.ntmps17
  go_wp2
  go_loopw [3] (fun v3 w' => ∃ k : Nat, k ≤ 64 ∧ v3 = .int .i64 k ∧ Aside0 (∀ j : Nat, j < k → sg j ≠ c) ∧ Aside0 (w = w')) (fun v _ => 64 - (intOf v).toNat)
  case atStart => exact ⟨0, by omega, rfl, ⟨fun j hj => by omega⟩, ⟨rfl⟩⟩
  case round =>
    obtain ⟨k, hk, rfl, hj, hw⟩ := hrel
    by_cases hlt : k < 64
    · have S := fun W => rsign_calls (k : Int) (by omega) (by omega) W
      by_cases he : sg k = c
      · have hv : valI c = k := by rw [← he]; exact val_sg k (by omega) (by omega)
        have HV := Aside0.mk hv
        have hb : (sg k == c) = true := by simpa using he
        clear hv he
        go_wp2_with fail
        refine (S _).mono ?_
        rintro e w2 ⟨rfl, rfl⟩
        go_wp2
        go_ret
        exact ⟨by rw [HV.out]; rfl, hw.out⟩
      · have hb : (sg k == c) = false := by simpa using he
        have HN : Aside0 (∀ j : Nat, j < k + 1 → sg j ≠ c) := ⟨fun j hj1 => by
          by_cases e : j = k
          · subst e; exact he
          · exact hj.out j (by omega)⟩
        clear he
        go_wp2_with fail
        refine (S _).mono ?_
        rintro e w2 ⟨rfl, rfl⟩
        go_wp2
        go_roundw
        case rel => exact ⟨k + 1, by omega, by go_num, HN, hw⟩
        case measure => simp [intOf]; omega
    · have hv : valI c = -1 := by
        apply valI_neg
        rcases Int.lt_or_le (valI c) 0 with h | h
        · exact h
        · exfalso
          have hl := valI_lt c h0 h1
          have e := sg_val c h0 h1 (by omega)
          refine hj.out (valI c).toNat (by omega) ?_
          rw [show (((valI c).toNat : Nat) : Int) = valI c from by omega, e]
      have HV := Aside0.mk hv
      clear hv
      go_wp2
      go_ret
      exact ⟨by rw [HV.out]; rfl, hw.out⟩
end Go.Proofs.Ytfefpbnhpncmlaa.BaseR
