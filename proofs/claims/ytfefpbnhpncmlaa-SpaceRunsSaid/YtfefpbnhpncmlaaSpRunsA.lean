import Derived.Test.YtfefpbnhpncmlaaPSpaceRunsx1
namespace Go.Proofs.Ytfefpbnhpncmlaa.SpRuns
open Go.RowKit Go.Proofs.Ytfefpbnhpncmlaa.PSpaceRuns Go.Proofs.YtfefpbnhpncmlaaW.PrintWords Go.Proofs.YtfefpbnhpncmlaaW.PrintLast Go.Proofs.YtfefpbnhpncmlaaW.PrintMore
set_option linter.unusedVariables false

/-- One span's runs, as the machine reckons them. -/
def one (size : Int) (x : S28) : Int := wrap64 (Int.tdiv (wrap64 (x.f1 - x.f0)) size)

/-- space.Runs$1 -/
theorem runs1 (x : S28) (size : Int) (B : Nat) (w : World) (h1 : 1 ≤ size) (hB : B < w.heap.size) (hc : w.cell? ⟨B, 0, none⟩ = some (.int .i64 size)) :
    Calls Try.prog 54 #[.agg #[.int .i64 x.f0, .int .i64 x.f1], .pointer (some ⟨B, 0, none⟩)] w fun e w' => e = .returned (.int .i64 (one size x)) ∧ Below w.heap.size w w' := by
  have hne : (size == 0) = false := by simpa using (by omega : size ≠ 0)
  have hc' : (w.alloc (.cells #[.int .i64 x.f0, .int .i64 x.f1] 28)).cell? ⟨B, 0, none⟩ = some (.int .i64 size) := by
    rw [World.cell?_alloc_lt]; exact hc
    exact hB
  go_enter Try.func54, Try.ntmps54
  go_wp2
  go_ret
  exact ⟨rfl, below_alloc (Below.refl _ _) _⟩

def runsL (size : Int) : List S28 → Int → Int
  | [], n => n
  | x :: l, n => runsL size l (wrap64 (n + one size x))

/-- space.sum at the closure. -/
theorem sum_calls (A : Option Addr) (c : Nat) (l : List S28) (size : Int) (B : Nat) (w : World) (h1 : 1 ≤ size) (hB : B < w.heap.size) (hc : w.cell? ⟨B, 0, none⟩ = some (.int .i64 size)) (hr : Kd.C k28 w A l.length l) (hl : l.length ≤ c) (hm : l.length ≤ 500) :
    Calls Try.prog 53 #[.slice A l.length c, .func (.func 54) #[] #[.pointer (some ⟨B, 0, none⟩)]] w fun e w' => e = .returned (.int .i64 (runsL size l 0)) ∧ Below w.heap.size w w' := by
  have HR := Aside0.mk hr
  clear hr
  go_enter Try.func53, Try.ntmps53
  go_wp2
  go_loopw [5, 10] (fun v5 v10 w' => ∃ (n : Int) (k : Nat), k ≤ l.length ∧ v5 = .int .i64 n ∧ v10 = .int .i64 k ∧ Aside0 (runsL size (l.drop k) n = runsL size l 0) ∧ Aside0 (Below w.heap.size w w')) (fun _ v _ => l.length - (intOf v).toNat)
  case atStart => exact ⟨0, 0, Nat.zero_le _, rfl, rfl, ⟨rfl⟩, ⟨Below.refl _ _⟩⟩
  case round =>
    obtain ⟨n, k, hk, rfl, rfl, hf, hb⟩ := hrel
    by_cases hlt : k < l.length
    · obtain ⟨ad, e, x0, x1⟩ := at_T28 HR.out (k : Int) (by omega) (by omega)
      cases e
      simp only [Int.toNat_natCast] at x0 x1
      replace x0 := (hb.out.cell (World.block_lt_of_cell? w _ x0)).trans x0
      replace x1 := (hb.out.cell (World.block_lt_of_cell? w _ x1)).trans x1
      have hcw := (hb.out.cell (p := ⟨B, 0, none⟩) hB).trans hc
      have hBw : B < wr.heap.size := Nat.lt_of_lt_of_le hB hb.out.size
      have hd : l.drop k = rd_T28 l k :: l.drop (k + 1) := by
        rw [List.drop_eq_getElem_cons hlt]
        simp [rd_T28, List.getD, hlt]
      have HD := Aside0.mk hd
      clear hd
      go_wp2_with (go_at_call 54; refine (runs1 (rd_T28 l k) size B _ h1 (by simp; omega) (by go_simp)).mono ?_; rintro e w' ⟨rfl, hb2⟩)
      go_roundw
      case rel => exact ⟨_, k + 1, by omega, rfl, by go_num, ⟨by rw [← hf.out, HD.out]; rfl⟩, ⟨(below_alloc hb.out _).trans (hb2.mono (by simp; have := hb.out.size; omega))⟩⟩
      case measure => simp [intOf]; omega
    · obtain rfl : k = l.length := by omega
      go_wp2
      go_ret
      exact ⟨by rw [← hf.out]; simp [runsL], hb.out⟩

end Go.Proofs.Ytfefpbnhpncmlaa.SpRuns
