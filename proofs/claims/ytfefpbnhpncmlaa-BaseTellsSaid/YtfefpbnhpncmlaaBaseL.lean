import Derived.Test.YtfefpbnhpncmlaaBaseD
namespace Go.Proofs.Ytfefpbnhpncmlaa.BaseL
open Go.Proofs.Ytfefpbnhpncmlaa.B8 Go.Proofs.Ytfefpbnhpncmlaa.BaseQ Go.Proofs.Ytfefpbnhpncmlaa.BaseV Go.Proofs.Ytfefpbnhpncmlaa.BaseE Go.Proofs.Ytfefpbnhpncmlaa.BaseD
set_option linter.unusedVariables false

theorem val_sg (n : Int) (h0 : 0 ≤ n) (h1 : n < 64) : valI (sg n) = n := by
  have : ∀ k : Fin 64, valI (sg (k.val : Int)) = (k.val : Int) := by decide +kernel
  have h := this ⟨n.toNat, by omega⟩
  have e : ((n.toNat : Nat) : Int) = n := by omega
  simpa only [e] using h
theorem sg_bd (n : Int) (h0 : 0 ≤ n) (h1 : n < 64) : sg n ≠ 61 ∧ 0 ≤ sg n ∧ sg n < 256 := by
  have : ∀ k : Fin 64, sg (k.val : Int) ≠ 61 ∧ 0 ≤ sg (k.val : Int) ∧ sg (k.val : Int) < 256 := by decide +kernel
  have h := this ⟨n.toNat, by omega⟩
  have e : ((n.toNat : Nat) : Int) = n := by omega
  simpa only [e] using h
theorem sg_val (c : Int) (h0 : 0 ≤ c) (h1 : c < 256) (hv : ¬ valI c < 0) : sg (valI c) = c := by
  have : ∀ k : Fin 256, ¬ valI (k.val : Int) < 0 → sg (valI (k.val : Int)) = (k.val : Int) := by decide +kernel
  have h := this ⟨c.toNat, by omega⟩
  have e : ((c.toNat : Nat) : Int) = c := by omega
  simp only [e] at h
  exact h hv

theorem trio_quad1 (a : Int) (h0 : 0 ≤ a) (h1 : a < 256) : trioL (sg (a * 65536 / 262144 % 64)) (sg (a * 65536 / 4096 % 64)) 61 61 = some [a] := by
  have m0 := val_sg (a * 65536 / 262144 % 64) (by omega) (by omega)
  have m1 := val_sg (a * 65536 / 4096 % 64) (by omega) (by omega)
  unfold trioL
  rw [m0, m1, if_neg (by omega), if_neg (by omega), if_pos rfl, if_pos rfl, if_pos (by omega)]
  congr 2
  omega
theorem trio_quad2 (a b : Int) (h0 : 0 ≤ a) (h1 : a < 256) (h2 : 0 ≤ b) (h3 : b < 256) : trioL (sg ((a * 65536 + b * 256) / 262144 % 64)) (sg ((a * 65536 + b * 256) / 4096 % 64)) (sg ((a * 65536 + b * 256) / 64 % 64)) 61 = some [a, b] := by
  have m0 := val_sg ((a * 65536 + b * 256) / 262144 % 64) (by omega) (by omega)
  have m1 := val_sg ((a * 65536 + b * 256) / 4096 % 64) (by omega) (by omega)
  have m2 := val_sg ((a * 65536 + b * 256) / 64 % 64) (by omega) (by omega)
  have n2 := (sg_bd ((a * 65536 + b * 256) / 64 % 64) (by omega) (by omega)).1
  unfold trioL
  rw [m0, m1, m2, if_neg (by omega), if_neg (by omega), if_pos rfl, if_neg n2, if_neg (by omega), if_pos (by omega)]
  congr 2
  · omega
  · congr 1
    omega
theorem trio_quad3 (a b c : Int) (h0 : 0 ≤ a) (h1 : a < 256) (h2 : 0 ≤ b) (h3 : b < 256) (h4 : 0 ≤ c) (h5 : c < 256) :
    trioL (sg ((a * 65536 + b * 256 + c) / 262144 % 64)) (sg ((a * 65536 + b * 256 + c) / 4096 % 64)) (sg ((a * 65536 + b * 256 + c) / 64 % 64)) (sg ((a * 65536 + b * 256 + c) % 64)) = some [a, b, c] := by
  have m0 := val_sg ((a * 65536 + b * 256 + c) / 262144 % 64) (by omega) (by omega)
  have m1 := val_sg ((a * 65536 + b * 256 + c) / 4096 % 64) (by omega) (by omega)
  have m2 := val_sg ((a * 65536 + b * 256 + c) / 64 % 64) (by omega) (by omega)
  have m3 := val_sg ((a * 65536 + b * 256 + c) % 64) (by omega) (by omega)
  have n3 := (sg_bd ((a * 65536 + b * 256 + c) % 64) (by omega) (by omega)).1
  unfold trioL
  rw [m0, m1, m2, m3, if_neg (by omega), if_neg (by omega), if_neg n3, if_neg (by omega), if_neg (by omega)]
  congr 2
  · omega
  · congr 1
    · omega
    · congr 1
      omega

theorem dec_enc (l : List Int) : Bytes l → decL (encL l) = some l := by
  induction l using encL.induct with
  | case1 a b c r ih =>
    intro h
    have ha := h a (by simp)
    have hb := h b (by simp)
    have hc := h c (by simp)
    have e : encL (a :: b :: c :: r) = sg ((a * 65536 + b * 256 + c) / 262144 % 64) :: sg ((a * 65536 + b * 256 + c) / 4096 % 64) :: sg ((a * 65536 + b * 256 + c) / 64 % 64) :: sg ((a * 65536 + b * 256 + c) % 64) :: encL r := by
      simp [encL, quadL, num]
    rw [e, decL, trio_quad3 a b c ha.1 ha.2 hb.1 hb.2 hc.1 hc.2]
    simp only
    rw [if_neg (by simp), ih (fun x hx => h x (by simp [hx]))]
    simp
  | case2 => intro _; simp [encL, decL]
  | case3 l h1 h2 =>
    intro h
    match l, h1, h2, h with
    | [], _, h2, _ => exact absurd rfl h2
    | [a], _, _, h =>
      have ha := h a (by simp)
      have e : encL [a] = [sg (a * 65536 / 262144 % 64), sg (a * 65536 / 4096 % 64), 61, 61] := by simp [encL, quadL, num]
      rw [e, decL, trio_quad1 a ha.1 ha.2]
      simp [decL]
    | [a, b], _, _, h =>
      have ha := h a (by simp)
      have hb := h b (by simp)
      have e : encL [a, b] = [sg ((a * 65536 + b * 256) / 262144 % 64), sg ((a * 65536 + b * 256) / 4096 % 64), sg ((a * 65536 + b * 256) / 64 % 64), 61] := by simp [encL, quadL, num]
      rw [e, decL, trio_quad2 a b ha.1 ha.2 hb.1 hb.2]
      simp [decL]
    | a :: b :: c :: d, h1, _, _ => exact absurd rfl (h1 a b c d)

theorem enc_len (l : List Int) : (encL l).length = (l.length + 2) / 3 * 4 := by
  induction l using encL.induct with
  | case1 a b c r ih => simp [encL, quadL_len, ih]; omega
  | case2 => simp [encL]
  | case3 l h1 h2 =>
    match l, h1, h2 with
    | [], _, h2 => exact absurd rfl h2
    | [a], _, _ => simp [encL, quadL_len]
    | [a, b], _, _ => simp [encL, quadL_len]
    | a :: b :: c :: d, h1, _ => exact absurd rfl (h1 a b c d)

theorem quad_trio (a b c d : Int) (g : List Int) (ha : 0 ≤ a ∧ a < 256) (hb : 0 ≤ b ∧ b < 256) (hc : 0 ≤ c ∧ c < 256) (hd : 0 ≤ d ∧ d < 256) (h : trioL a b c d = some g) : quadL g = [a, b, c, d] ∧ Bytes g := by
  have ba := valI_lt a ha.1 ha.2
  have bb := valI_lt b hb.1 hb.2
  have bc := valI_lt c hc.1 hc.2
  have bd := valI_lt d hd.1 hd.2
  unfold trioL at h
  by_cases ga : valI a < 0
  · rw [if_pos ga] at h; cases h
  by_cases gb : valI b < 0
  · rw [if_neg ga, if_pos gb] at h; cases h
  have ra := sg_val a ha.1 ha.2 ga
  have rb := sg_val b hb.1 hb.2 gb
  rw [if_neg ga, if_neg gb] at h
  by_cases gd : d = 61
  · rw [if_pos gd] at h
    by_cases gc : c = 61
    · rw [if_pos gc] at h
      split at h
      · rename_i hz
        cases h
        refine ⟨?_, fun x hx => by simp only [List.mem_singleton] at hx; omega⟩
        unfold quadL num
        rw [show (valI a * 64 + valI b) * 64 * 64 / 65536 * 65536 / 262144 % 64 = valI a from by omega, show (valI a * 64 + valI b) * 64 * 64 / 65536 * 65536 / 4096 % 64 = valI b from by omega, ra, rb, gc, gd]
        simp
      · cases h
    · rw [if_neg gc] at h
      by_cases gv : valI c < 0
      · rw [if_pos gv] at h; cases h
      have rc := sg_val c hc.1 hc.2 gv
      rw [if_neg gv] at h
      split at h
      · rename_i hz
        cases h
        refine ⟨?_, fun x hx => by simp only [List.mem_cons, List.not_mem_nil, or_false] at hx; omega⟩
        unfold quadL num
        simp only [List.length_cons, List.length_nil]
        rw [if_pos (by omega), if_neg (by omega)]
        generalize hN : ((valI a * 64 + valI b) * 64 + valI c) * 64 = N at *
        rw [show (N / 65536 * 65536 + N / 256 % 256 * 256) / 262144 % 64 = valI a from by omega, show (N / 65536 * 65536 + N / 256 % 256 * 256) / 4096 % 64 = valI b from by omega, show (N / 65536 * 65536 + N / 256 % 256 * 256) / 64 % 64 = valI c from by omega, ra, rb, rc, gd]
      · cases h
  · rw [if_neg gd] at h
    by_cases gv : valI c < 0
    · rw [if_pos gv] at h; cases h
    by_cases gw : valI d < 0
    · rw [if_neg gv, if_pos gw] at h; cases h
    have rc := sg_val c hc.1 hc.2 gv
    have rd := sg_val d hd.1 hd.2 gw
    rw [if_neg gv, if_neg gw] at h
    cases h
    refine ⟨?_, fun x hx => by simp only [List.mem_cons, List.not_mem_nil, or_false] at hx; omega⟩
    unfold quadL num
    simp only [List.length_cons, List.length_nil]
    rw [if_pos (by omega), if_pos (by omega)]
    generalize hN : ((valI a * 64 + valI b) * 64 + valI c) * 64 + valI d = N at *
    rw [show (N / 65536 * 65536 + N / 256 % 256 * 256 + N % 256) / 262144 % 64 = valI a from by omega, show (N / 65536 * 65536 + N / 256 % 256 * 256 + N % 256) / 4096 % 64 = valI b from by omega, show (N / 65536 * 65536 + N / 256 % 256 * 256 + N % 256) / 64 % 64 = valI c from by omega, show (N / 65536 * 65536 + N / 256 % 256 * 256 + N % 256) % 64 = valI d from by omega, ra, rb, rc, rd]

theorem encL_app (g r : List Int) (h : g.length = 3) : encL (g ++ r) = quadL g ++ encL r := by
  match g, h with
  | [a, b, c], _ => simp [encL]
theorem encL_short (g : List Int) (h0 : 1 ≤ g.length) (h : g.length ≤ 3) : encL g = quadL g := by
  match g, h0, h with
  | [a], _, _ => rfl
  | [a, b], _, _ => rfl
  | [a, b, c], _, _ => simp [encL]

theorem enc_dec (s : List Int) : Bytes s → ∀ b, decL s = some b → encL b = s ∧ Bytes b := by
  induction s using decL.induct with
  | case1 => intro _ b h; cases h; exact ⟨by simp [encL], fun x hx => by simp at hx⟩
  | case2 a b c d r ht => intro _ x h; rw [decL] at h; simp [ht] at h
  | case3 a b c d r g ht hg => intro _ x h; rw [decL] at h; simp only [ht] at h; rw [if_pos hg] at h; cases h
  | case4 a b c d r g ht hg ih =>
    intro hb x h
    rw [decL] at h
    simp only [ht] at h
    rw [if_neg hg] at h
    obtain ⟨y, hy, rfl⟩ := Option.map_eq_some_iff.1 h
    obtain ⟨e1, e2⟩ := ih (fun x hx => hb x (by simp [hx])) y hy
    obtain ⟨q1, q2⟩ := quad_trio a b c d g (hb a (by simp)) (hb b (by simp)) (hb c (by simp)) (hb d (by simp)) ht
    have hl := trioL_len ht
    refine ⟨?_, fun x hx => by exact (List.mem_append.1 hx).elim (q2 x) (e2 x)⟩
    by_cases h3 : g.length = 3
    · rw [encL_app g y h3, q1, e1]; rfl
    · have hr : r = [] := by
        cases r with
        | nil => rfl
        | cons u v => exact absurd ⟨by omega, by simp⟩ hg
      subst hr
      have hy0 : y = [] := by simpa [decL] using hy.symm
      subst hy0
      rw [List.append_nil, encL_short g hl.1 hl.2, q1]
  | case5 l h1 h2 =>
    intro _ x h
    match l, h1, h2, h with
    | [], h1, _, _ => exact absurd rfl h1
    | [_], _, _, h => simp [decL] at h
    | [_, _], _, _, h => simp [decL] at h
    | [_, _, _], _, _, h => simp [decL] at h
    | _ :: _ :: _ :: _ :: _, _, h2, _ => exact absurd rfl (h2 _ _ _ _ _)
end Go.Proofs.Ytfefpbnhpncmlaa.BaseL
