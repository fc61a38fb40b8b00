import Derived.Test.YtfefpbnhpncmlaaBaseX
namespace Go.Proofs.Ytfefpbnhpncmlaa.BaseY
open Go.Proofs.Ytfefpbnhpncmlaa.B8 Go.Proofs.Ytfefpbnhpncmlaa.BaseQ Go.Proofs.Ytfefpbnhpncmlaa.BaseV Go.Proofs.Ytfefpbnhpncmlaa.BaseE Go.Proofs.Ytfefpbnhpncmlaa.BaseD Go.Proofs.Ytfefpbnhpncmlaa.BaseL Go.Proofs.Ytfefpbnhpncmlaa.BaseW
set_option linter.unusedVariables false

/-- What a success says of the raw bytes and of the last two signs. -/
def Tail (s b : List Int) (p : Nat) : Prop :=
  rawL s = b ++ List.replicate p 0 ∧ 4 ≤ s.length ∧ 0 < b.length ∧
    ((p = 0 ∧ s.getD (s.length - 1) 0 ≠ 61) ∨ (p = 1 ∧ s.getD (s.length - 1) 0 = 61 ∧ s.getD (s.length - 2) 0 ≠ 61) ∨ (p = 2 ∧ s.getD (s.length - 1) 0 = 61 ∧ s.getD (s.length - 2) 0 = 61))

theorem vz_val (c : Int) (h : ¬ valI c < 0) : vz c = valI c := by unfold vz; rw [if_neg h]
theorem vz61 : vz 61 = 0 := by decide
theorem nk_four (a b c d : Int) : nk [a, b, c, d] 4 = ((vz a * 64 + vz b) * 64 + vz c) * 64 + vz d := by
  simp [nk]

theorem tail_one (a b c d : Int) (g : List Int) (h : trioL a b c d = some g) : ∃ p, Tail [a, b, c, d] g p ∧ g.length + p = 3 := by
  unfold trioL at h
  by_cases ga : valI a < 0
  · rw [if_pos ga] at h; cases h
  by_cases gb : valI b < 0
  · rw [if_neg ga, if_pos gb] at h; cases h
  rw [if_neg ga, if_neg gb] at h
  have hr : rawL [a, b, c, d] = [nk [a, b, c, d] 4 / 65536, nk [a, b, c, d] 4 / 256 % 256, nk [a, b, c, d] 4 % 256] := by simp [rawL]
  by_cases gd : d = 61
  · rw [if_pos gd] at h
    by_cases gc : c = 61
    · rw [if_pos gc] at h
      split at h
      · rename_i hz
        cases h
        refine ⟨2, ⟨?_, by simp, by simp, ?_⟩, by simp⟩
        · rw [hr, nk_four, gd, gc, vz61, vz_val a ga, vz_val b gb, Int.add_zero, Int.add_zero, hz.1, hz.2]
          rfl
        · right; right
          exact ⟨rfl, by simpa using gd, by simpa using gc⟩
      · cases h
    · rw [if_neg gc] at h
      by_cases gv : valI c < 0
      · rw [if_pos gv] at h; cases h
      rw [if_neg gv] at h
      split at h
      · rename_i hz
        cases h
        refine ⟨1, ⟨?_, by simp, by simp, ?_⟩, by simp⟩
        · rw [hr, nk_four, gd, vz61, vz_val a ga, vz_val b gb, vz_val c gv, Int.add_zero, hz]
          rfl
        · right; left
          exact ⟨rfl, by simpa using gd, by simpa using gc⟩
      · cases h
  · rw [if_neg gd] at h
    by_cases gv : valI c < 0
    · rw [if_pos gv] at h; cases h
    by_cases gw : valI d < 0
    · rw [if_neg gv, if_pos gw] at h; cases h
    rw [if_neg gv, if_neg gw] at h
    cases h
    refine ⟨0, ⟨?_, by simp, by simp, ?_⟩, by simp⟩
    · rw [hr, nk_four, vz_val a ga, vz_val b gb, vz_val c gv, vz_val d gw]
      rfl
    · left
      exact ⟨rfl, by simpa using gd⟩

theorem getD_app (x y : List Int) (k : Nat) (h : k < y.length) : (x ++ y).getD (x.length + k) 0 = y.getD k 0 := by
  simp [List.getD, List.getElem?_append_right]

theorem tail_all (s : List Int) : ∀ b, decL s = some b → (s = [] ∧ b = []) ∨ ∃ p, Tail s b p := by
  induction s using decL.induct with
  | case1 => intro b h; left; cases h; exact ⟨rfl, rfl⟩
  | case2 a b c d r ht => intro x h; rw [decL] at h; simp [ht] at h
  | case3 a b c d r g ht hg => intro x h; rw [decL] at h; simp only [ht] at h; rw [if_pos hg] at h; cases h
  | case4 a b c d r g ht hg ih =>
    intro x h
    right
    rw [decL] at h
    simp only [ht] at h
    rw [if_neg hg] at h
    obtain ⟨y, hy, rfl⟩ := Option.map_eq_some_iff.1 h
    obtain ⟨p, ⟨t1, t2, t3, t4⟩, hp⟩ := tail_one a b c d g ht
    rcases ih y hy with ⟨rfl, rfl⟩ | ⟨q, q1, q2, q3, q4⟩
    · exact ⟨p, by simpa using t1, t2, by simpa using t3, t4⟩
    · have hr : r ≠ [] := by rintro rfl; simp at q2
      have hg3 : g.length = 3 := by
        have := trioL_len ht
        rcases Nat.lt_or_ge g.length 3 with h3 | h3
        · exact absurd ⟨h3, hr⟩ hg
        · omega
      have hp0 : p = 0 := by omega
      subst hp0
      have hrw : rawL (a :: b :: c :: d :: r) = g ++ rawL r := by
        rw [rawL]
        have : rawL [a, b, c, d] = [nk [a, b, c, d] 4 / 65536, nk [a, b, c, d] 4 / 256 % 256, nk [a, b, c, d] 4 % 256] := by simp [rawL]
        rw [← this, t1]
        simp
      have e1 : (a :: b :: c :: d :: r).getD ((a :: b :: c :: d :: r).length - 1) 0 = r.getD (r.length - 1) 0 := by
        have := getD_app [a, b, c, d] r (r.length - 1) (by omega)
        rw [← this]
        congr 1
        simp
        omega
      have e2 : (a :: b :: c :: d :: r).getD ((a :: b :: c :: d :: r).length - 2) 0 = r.getD (r.length - 2) 0 := by
        have := getD_app [a, b, c, d] r (r.length - 2) (by omega)
        rw [← this]
        congr 1
        simp
        omega
      refine ⟨q, ?_, by simp, by simp; omega, ?_⟩
      · rw [hrw, q1, List.append_assoc]
      · rw [e1, e2]
        exact q4
  | case5 l h1 h2 =>
    intro x h
    match l, h1, h2, h with
    | [], h1, _, _ => exact absurd rfl h1
    | [_], _, _, h => simp [decL] at h
    | [_, _], _, _, h => simp [decL] at h
    | [_, _, _], _, _, h => simp [decL] at h
    | _ :: _ :: _ :: _ :: _, _, h2, _ => exact absurd rfl (h2 _ _ _ _ _)

theorem strip_of_tail (s b : List Int) (p : Nat) (h : Tail s b p) : stripL s (rawL s) = b := by
  obtain ⟨h1, h2, h3, h4⟩ := h
  rw [h1]
  unfold stripL
  rcases h4 with ⟨rfl, g⟩ | ⟨rfl, g1, g2⟩ | ⟨rfl, g1, g2⟩
  · rw [if_neg (fun h => g h.2.2)]
    simp
  · rw [if_pos ⟨by omega, by simp, g1⟩, if_neg (fun h => g2 h.2.2)]
    simp
  · rw [if_pos ⟨by omega, by simp, g1⟩, if_pos ⟨by omega, by simp, g2⟩]
    simp

theorem ref_dec (s : List Int) (hs : Bytes s) : refL s = decL s := by
  unfold refL
  cases hd : decL s with
  | none =>
    rw [if_neg]
    intro he
    have hb : Bytes (stripL s (rawL s)) := stripL_bytes _ _ (rawL_bytes s hs)
    have := dec_enc _ hb
    rw [he, hd] at this
    cases this
  | some b =>
    have hst : stripL s (rawL s) = b := by
      rcases tail_all s b hd with ⟨rfl, rfl⟩ | ⟨p, hp⟩
      · rfl
      · exact strip_of_tail s b p hp
    rw [hst, if_pos (enc_dec s hs b hd).1]
end Go.Proofs.Ytfefpbnhpncmlaa.BaseY
