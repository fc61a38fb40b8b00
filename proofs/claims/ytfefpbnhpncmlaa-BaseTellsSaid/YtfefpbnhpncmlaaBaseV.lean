import Derived.Test.YtfefpbnhpncmlaaBaseE
namespace Go.Proofs.Ytfefpbnhpncmlaa.BaseV
open Go.Proofs.Ytfefpbnhpncmlaa.B8 Go.Proofs.Ytfefpbnhpncmlaa.BaseQ Go.RowKit Go.Proofs.YtfefpbnhpncmlaaW.PrintWords Go.Proofs.YtfefpbnhpncmlaaW.PrintLast Go.Proofs.YtfefpbnhpncmlaaW.PrintMore
attribute [local go_sem] max2_int min2_int max_two min_two
set_option linter.unusedVariables false

/-- A sign's number; below 0: it is none. -/
def valI (c : Int) : Int := if 65 ≤ c ∧ c ≤ 90 then c - 65 else if 97 ≤ c ∧ c ≤ 122 then c - 71 else if 48 ≤ c ∧ c ≤ 57 then c + 4 else if c = 43 then 62 else if c = 47 then 63 else -1

theorem ret_i64 {a b : Int} (h : a = b) : Ending.returned (.int .i64 a) = .returned (.int .i64 b) := by rw [h]

theorem value_calls (c : Int) (h0 : 0 ≤ c) (h1 : c < 256) (w : World) : Calls Try.prog 16 #[.int .u8 c] w fun e w' => e = .returned (.int .i64 (valI c)) ∧ w = w' := by
  rcases (by omega : c ≤ 42 ∨ c = 43 ∨ (44 ≤ c ∧ c ≤ 46) ∨ c = 47 ∨ (48 ≤ c ∧ c ≤ 57) ∨ (58 ≤ c ∧ c ≤ 64) ∨ (65 ≤ c ∧ c ≤ 90) ∨ (91 ≤ c ∧ c ≤ 96) ∨ (97 ≤ c ∧ c ≤ 122) ∨ 123 ≤ c) with h | rfl | ⟨h, h'⟩ | rfl | ⟨h, h'⟩ | ⟨h, h'⟩ | ⟨h, h'⟩ | ⟨h, h'⟩ | ⟨h, h'⟩ | h
  all_goals
    go_enter Try.func16, Try.ntmps16
    go_wp2
    go_ret
    refine ⟨ret_i64 ?_, rfl⟩
    unfold valI
    first | rfl | (repeat first | rw [if_neg (by omega)] | rw [if_pos (by omega)]) <;> omega
end Go.Proofs.Ytfefpbnhpncmlaa.BaseV
