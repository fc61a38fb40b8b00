import Derived.Test.YtfefpbnhpncmlaaBaseS
namespace Go.Proofs.Ytfefpbnhpncmlaa.BaseW
open Go.Proofs.Ytfefpbnhpncmlaa.B8 Go.Proofs.Ytfefpbnhpncmlaa.BaseQ Go.Proofs.Ytfefpbnhpncmlaa.BaseV Go.Proofs.Ytfefpbnhpncmlaa.BaseE Go.Proofs.Ytfefpbnhpncmlaa.BaseD Go.Proofs.Ytfefpbnhpncmlaa.BaseL Go.Proofs.Ytfefpbnhpncmlaa.BaseR Go.Proofs.Ytfefpbnhpncmlaa.BaseS Go.Proofs.Ytfefpbnhpncmlaa.BaseOneW Go.RowKit Go.Proofs.YtfefpbnhpncmlaaW.PrintWords Go.Proofs.YtfefpbnhpncmlaaW.PrintLast Go.Proofs.YtfefpbnhpncmlaaW.PrintMore
set_option linter.unusedVariables false

/-- The reference's number of a sign: none counts 0. -/
def vz (c : Int) : Int := if valI c < 0 then 0 else valI c
theorem vz_bd (c : Int) (h0 : 0 ≤ c) (h1 : c < 256) : 0 ≤ vz c ∧ vz c < 64 := by
  have := valI_lt c h0 h1
  unfold vz
  split <;> omega
/-- The reference's number of the first k signs. -/
def nk (l : List Int) : Nat → Int
  | 0 => 0
  | k + 1 => nk l k * 64 + vz (l.getD k 0)
theorem nk_bd (l : List Int) (hb : Bytes l) : ∀ k, k ≤ l.length → k ≤ 4 → 0 ≤ nk l k ∧ nk l k < 16777216 ∧ (k ≤ 3 → nk l k < 262144) := by
  have step : ∀ k, k < l.length → 0 ≤ vz (l.getD k 0) ∧ vz (l.getD k 0) < 64 := by
    intro k hk
    have := hb (l.getD k 0) (by simp [List.getD, hk])
    exact vz_bd _ this.1 this.2
  intro k hk h4
  match k, hk, h4 with
  | 0, _, _ => simp [nk]
  | 1, hk, _ =>
    have := step 0 (by omega)
    simp only [nk]; omega
  | 2, hk, _ =>
    have := step 0 (by omega)
    have := step 1 (by omega)
    simp only [nk]; omega
  | 3, hk, _ =>
    have := step 0 (by omega)
    have := step 1 (by omega)
    have := step 2 (by omega)
    simp only [nk]; omega
  | 4, hk, _ =>
    have := step 0 (by omega)
    have := step 1 (by omega)
    have := step 2 (by omega)
    have := step 3 (by omega)
    simp only [nk]; omega
/-- The reference's bytes of all groups, pads too. -/
def rawL : List Int → List Int
  | a :: b :: c :: d :: r => [nk [a, b, c, d] 4 / 65536, nk [a, b, c, d] 4 / 256 % 256, nk [a, b, c, d] 4 % 256] ++ rawL r
  | _ => []
def stripL (s out : List Int) : List Int :=
  if 0 < s.length ∧ 0 < out.length ∧ s.getD (s.length - 1) 0 = 61 then
    (if 1 < s.length ∧ 1 < out.length ∧ s.getD (s.length - 2) 0 = 61 then out.take (out.length - 2) else out.take (out.length - 1))
  else out
def refL (s : List Int) : Option (List Int) := if encL (stripL s (rawL s)) = s then some (stripL s (rawL s)) else none

theorem nk4 (l : List Int) (r : List Int) (a b c d : Int) (h : l = a :: b :: c :: d :: r) : nk l 4 = nk [a, b, c, d] 4 := by
  subst h
  rfl
theorem rawL_step (l : List Int) (h : 4 ≤ l.length) : rawL l = [nk l 4 / 65536, nk l 4 / 256 % 256, nk l 4 % 256] ++ rawL (l.drop 4) := by
  match l, h with
  | a :: b :: c :: d :: r, _ => rw [rawL, nk4 _ r a b c d rfl]; rfl
theorem rawL_short (l : List Int) (h : l.length < 4) : rawL l = [] := by
  match l, h with
  | [], _ => rfl
  | [_], _ => rfl
  | [_, _], _ => rfl
  | [_, _, _], _ => rfl
theorem rawL_len (l : List Int) : (rawL l).length ≤ l.length := by
  induction l using rawL.induct with
  | case1 a b c d r ih => rw [rawL]; simp; omega
  | case2 l h => rw [rawL_short l (by match l, h with | [], _ => simp | [_], _ => simp | [_, _], _ => simp | [_, _, _], _ => simp | a :: b :: c :: d :: r, h => exact absurd rfl (h a b c d r))]; simp
theorem rawL_bytes (l : List Int) : Bytes l → Bytes (rawL l) := by
  induction l using rawL.induct with
  | case1 a b c d r ih =>
    intro hb x hx
    have h4 := nk_bd [a, b, c, d] (fun y hy => hb y (by simp at hy ⊢; rcases hy with e | e | e | e <;> simp [e])) 4 (by simp) (by omega)
    rw [rawL] at hx
    rcases List.mem_append.1 hx with hx | hx
    · simp only [List.mem_cons, List.not_mem_nil, or_false] at hx
      omega
    · exact ih (fun y hy => hb y (by simp [hy])) x hx
  | case2 l h =>
    intro _ x hx
    rw [rawL_short l (by match l, h with | [], _ => simp | [_], _ => simp | [_, _], _ => simp | [_, _, _], _ => simp | a :: b :: c :: d :: r, h => exact absurd rfl (h a b c d r))] at hx
    simp at hx
theorem stripL_bytes (s out : List Int) (h : Bytes out) : Bytes (stripL s out) := by
  unfold stripL
  split
  · split
    · exact h.take _
    · exact h.take _
  · exact h
theorem stripL_len (s out : List Int) : (stripL s out).length ≤ out.length := by
  unfold stripL
  split
  · split <;> simp <;> omega
  · exact Nat.le_refl _

set_option maxRecDepth 100000 in
set_option maxHeartbeats 1000000 in
/-- The first two loops: the raw bytes. -/
theorem rdec_head (s : ByteArray) (hm : s.size ≤ 8000) (w : World) (R : Ending → World → Prop)
    (hrest : True) : True := trivial
end Go.Proofs.Ytfefpbnhpncmlaa.BaseW
