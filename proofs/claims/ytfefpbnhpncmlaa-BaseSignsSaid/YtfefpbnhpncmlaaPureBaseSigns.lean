/- BaseSigns: any number has the document's sign, and any byte its number: no condition. -/
import Derived.Test.YtfefpbnhpncmlaaPBaseSignsx1
namespace Go.Proofs.Ytfefpbnhpncmlaa.Pure
open Go.RowKit Go.Proofs.Ytfefpbnhpncmlaa.PBaseSigns Go.Proofs.YtfefpbnhpncmlaaW.PrintWords Go.Proofs.YtfefpbnhpncmlaaW.PrintLast

theorem sign_all (c : Int) (h0 : 0 ≤ c) (h1 : c ≤ 255) : base_Value.f 70 c = shadowboxref13_Value.f 70 c ∧ (base_Value.f 70 c).isSome = true := by
  have : ∀ n : Fin 256, base_Value.f 70 (n.val : Int) = shadowboxref13_Value.f 70 (n.val : Int) ∧ (base_Value.f 70 (n.val : Int)).isSome = true := by decide +kernel
  have h := this ⟨c.toNat, by omega⟩
  have e : ((c.toNat : Nat) : Int) = c := by omega
  simpa only [e] using h

theorem sign_same (n : Int) : base_Sign.f n = shadowboxref13_Sign.f n := rfl
theorem sign_some (n : Int) : ∃ r, base_Sign.f n = some r := by
  unfold base_Sign.f
  by_cases a : n < 0
  · exact ⟨_, if_pos a⟩
  · rw [if_neg a]
    by_cases b : n > 63
    · exact ⟨_, if_pos b⟩
    · rw [if_neg b, if_pos (by omega), if_pos (by omega)]
      exact ⟨_, rfl⟩

theorem BaseSigns : shadowboxlaw13_BaseSigns.Pure := by
  intro n c _ hc
  have hb : 0 ≤ c ∧ c ≤ 255 := by simpa [Lit.wf, IntKind.min, IntKind.max, IntKind.signed, IntKind.bits] using hc
  obtain ⟨s, hs⟩ := sign_some n
  obtain ⟨hv, hsome⟩ := sign_all c hb.1 hb.2
  obtain ⟨v, hv0⟩ := Option.isSome_iff_exists.1 hsome
  refine ⟨70, ?_⟩
  unfold shadowboxlaw13_BaseSigns.f
  rw [← sign_same, hs]
  simp only [Option.bind_some, if_true]
  rw [← hv, hv0]
  simp only [Option.bind_some, if_true]
  decide +kernel

end Go.Proofs.Ytfefpbnhpncmlaa.Pure
