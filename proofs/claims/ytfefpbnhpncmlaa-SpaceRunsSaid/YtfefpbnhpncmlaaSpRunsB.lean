import Derived.Test.YtfefpbnhpncmlaaSpRunsA
namespace Go.Proofs.Ytfefpbnhpncmlaa.SpRuns
open Go.RowKit Go.Proofs.Ytfefpbnhpncmlaa.PSpaceRuns Go.Proofs.YtfefpbnhpncmlaaW.PrintWords Go.Proofs.YtfefpbnhpncmlaaW.PrintLast Go.Proofs.YtfefpbnhpncmlaaW.PrintMore
set_option linter.unusedVariables false

theorem right_some (a b : Int) : ∃ r, extent_Span_right.f a b = some r := by
  unfold extent_Span_right.f
  split
  · split <;> exact ⟨_, rfl⟩
  · exact ⟨_, rfl⟩

theorem valid_l0 (l : List S28) (hm : l.length ≤ 500) (d : Nat) : ∀ (k : Nat) (last : Int) (i : Int), 0 ≤ i → i ≤ l.length → (l.length : Int) - i = d → d < k → ∃ r, extent_Valid.l0 k last l l.length i = some r := by
  induction d with
  | zero =>
    intro k last i h0 h1 hd hk
    obtain ⟨k, rfl⟩ : ∃ m, k = m + 1 := ⟨k - 1, by omega⟩
    exact ⟨true, by simp only [extent_Valid.l0]; rw [if_neg (by omega)]⟩
  | succ d ih =>
    intro k last i h0 h1 hd hk
    obtain ⟨k, rfl⟩ : ∃ m, k = m + 1 := ⟨k - 1, by omega⟩
    obtain ⟨r, hr⟩ := right_some (rd_T28 l i).f0 (rd_T28 l i).f1
    have hw : wrap64 (i + 1) = i + 1 := by unfold wrap64; omega
    simp only [extent_Valid.l0]
    rw [if_pos (by omega), if_pos h0, if_pos (by omega), hr]
    simp only [Option.bind_some]
    cases r with
    | false => exact ⟨_, rfl⟩
    | true =>
      rw [if_pos rfl]
      by_cases hc : (rd_T28 l i).f0 ≤ last
      · exact ⟨_, if_pos hc⟩
      · rw [if_neg hc, hw]
        exact ih k _ (i + 1) (by omega) (by omega) (by omega) (by omega)

theorem valid_some (l : List S28) (hm : l.length ≤ 500) : ∃ r, extent_Valid.f 600 l = some r :=
  valid_l0 l hm l.length 600 (-1) 0 (by omega) (by omega) (by omega) (by omega)

/-- extent.Valid, as a function. -/
def okL (l : List S28) : Bool := (extent_Valid.f 600 l).getD false

theorem valid_calls (A : Option Addr) (c : Nat) (l : List S28) (w : World) (hr : Kd.C k28 w A l.length l) (hc : l.length ≤ c) (hm : l.length ≤ 500) :
    Calls Try.prog 18 #[.slice A l.length c] w fun e w' => e = .returned (.bool (okL l)) ∧ Below w.heap.size w w' := by
  obtain ⟨r, h⟩ := valid_some l hm
  have := extent_Valid.calls 600 A c l r w hr hc h
  rwa [show r = okL l from by unfold okL; rw [h]; rfl] at this

def runs (l : List S28) (size : Int) : Int := if 1 ≤ size ∧ okL l = true then runsL size l 0 else 0

theorem Runs_calls (A : Option Addr) (c : Nat) (l : List S28) (size : Int) (w : World) (hr : Kd.C k28 w A l.length l) (hc : l.length ≤ c) (hm : l.length ≤ 500) :
    Calls Try.prog 19 #[.slice A l.length c, .int .i64 size] w fun e w' => e = .returned (.int .i64 (runs l size)) ∧ Below w.heap.size w w' := by
  have HR := Aside0.mk hr
  clear hr
  by_cases h1 : 1 ≤ size
  · have h1b : decide (size < 1) = false := by simp; omega
    cases hv : okL l with
    | true =>
      have HV := Aside0.mk hv
      clear hv
      have V := fun W (hb : Below w.heap.size w W) => valid_calls A c l W (Kd.C_below HR.out hb) hc hm
      rw [HV.out] at V
      go_enter Try.func19, Try.ntmps19
      go_wp2_with (go_at_call 18; refine (V _ (below_alloc (Below.refl _ _) _)).mono ?_; rintro e w' ⟨rfl, hb⟩; have hcc := (hb.cell (p := ⟨w.heap.size, 0, none⟩) (by simp)); simp at hcc; have hsz := hb.size; simp at hsz)
      go_wp2_with (go_at_call 53; refine (sum_calls A c l size w.heap.size _ h1 (by omega) hcc (Kd.C_below HR.out ((below_alloc (Below.refl _ _) _).trans (hb.mono (by simp)))) hc hm).mono ?_; rintro e w2 ⟨rfl, hb2⟩)
      go_ret
      exact ⟨by simp [runs, h1, HV.out], ((below_alloc (Below.refl _ _) _).trans (hb.mono (by simp))).trans (hb2.mono (by omega))⟩
    | false =>
      have HV := Aside0.mk hv
      clear hv
      have V := fun W (hb : Below w.heap.size w W) => valid_calls A c l W (Kd.C_below HR.out hb) hc hm
      rw [HV.out] at V
      go_enter Try.func19, Try.ntmps19
      go_wp2_with (go_at_call 18; refine (V _ (below_alloc (Below.refl _ _) _)).mono ?_; rintro e w' ⟨rfl, hb⟩)
      go_ret
      exact ⟨by simp [runs, HV.out], ((below_alloc (Below.refl _ _) _).trans (hb.mono (by simp)))⟩
  · have h1b : decide (size < 1) = true := by simp; omega
    go_enter Try.func19, Try.ntmps19
    go_wp2
    go_ret
    exact ⟨by unfold runs; rw [if_neg (by omega)]; rfl, below_alloc (Below.refl _ _) _⟩

end Go.Proofs.Ytfefpbnhpncmlaa.SpRuns
