import Derived.Test.YtfefpbnhpncmlaaBaseQ
namespace Go.Proofs.Ytfefpbnhpncmlaa.BaseE
open Go.Proofs.Ytfefpbnhpncmlaa.B8 Go.Proofs.Ytfefpbnhpncmlaa.BaseQ Go.RowKit Go.Proofs.Ytfefpbnhpncmlaa.PBaseSigns Go.Proofs.YtfefpbnhpncmlaaW.PrintWords Go.Proofs.YtfefpbnhpncmlaaW.PrintLast Go.Proofs.YtfefpbnhpncmlaaW.PrintMore
attribute [local go_sem] max2_int min2_int max_two min_two
set_option linter.unusedVariables false

/-- The signs of bytes. -/
def encL : List Int → List Int
  | a :: b :: c :: r => quadL [a, b, c] ++ encL r
  | [] => []
  | l => quadL l
theorem encL_step (l : List Int) (h : 0 < l.length) : encL l = quadL (l.take 3) ++ encL (l.drop 3) := by
  match l, h with
  | [a], _ => simp [encL]
  | [a, b], _ => simp [encL]
  | a :: b :: c :: r, _ => simp [encL]
theorem quadL_len (l : List Int) : (quadL l).length = 4 := rfl
theorem encL_len (l : List Int) : (encL l).length ≤ 2 * l.length + 4 := by
  induction l using encL.induct with
  | case1 a b c r ih => simp [encL, quadL_len]; omega
  | case2 => simp [encL]
  | case3 l h1 h2 =>
    have : encL l = quadL l := by
      match l, h1, h2 with
      | [], _, h2 => exact absurd rfl h2
      | [a], _, _ => rfl
      | [a, b], _, _ => rfl
      | a :: b :: c :: r, h1, _ => exact absurd rfl (h1 a b c r)
    rw [this, quadL_len]
    omega

set_option maxRecDepth 100000 in
theorem enc_calls (A : Option Addr) (c : Nat) (l : List Int) (w : World) (hr : C8 w A l.length l) (hc : l.length ≤ c) (hb : Bytes l) (hm : l.length ≤ 10000) :
    Calls Try.prog 22 #[.slice A l.length c] w fun e w' => e = .returned (.string (strOfNums (encL l))) ∧ Below w.heap.size w w' := by
  have HR := Aside0.mk hr
  have HBY := Aside0.mk hb
  clear hr hb
  go_enter Try.func22, Try.ntmps22
  go_wp2
  go_loopg [0, 3] l.length (fun kq v0 v3 w' => ∃ (A' : Option Addr) (n c' : Nat) (xs out : List Int), v0 = .slice A' n c' ∧ n ≤ c' ∧ n ≤ kq ∧ out.length ≤ 20004 ∧ Aside0 (C8 w A' n xs) ∧ Aside0 (Bytes xs) ∧ Aside0 (out ++ encL xs = encL l) ∧ Aside0 (R8 w' w.heap.size v3 out) ∧ Aside0 (Below w.heap.size w w'))
  case atStart => exact ⟨A, l.length, c, l, [], rfl, hc, Nat.le_refl _, Nat.zero_le _, HR, HBY, ⟨rfl⟩, ⟨Kd.R_nil _ _ _ _ _⟩, ⟨Below.refl _ _⟩⟩
  case round =>
    obtain ⟨A', n, c', xs, out, rfl, hnc, hnk, hout, hrx, hbx, heq, HO, HB⟩ := hrel
    by_cases h0 : 0 < n
    · cases gk with
      | zero => omega
      | succ k1 =>
      obtain ⟨g, hg1, hg3, hgn, hmin, hge⟩ : ∃ g : Nat, 1 ≤ g ∧ g ≤ 3 ∧ g ≤ n ∧ (if (n : Int) < 3 then (n : Int) else 3) = (g : Int) ∧ (xs.take g = xs.take 3 ∧ xs.drop g = xs.drop 3) := by
        have hl := hrx.out.1
        by_cases h3 : n < 3
        · exact ⟨n, by omega, by omega, by omega, by rw [if_pos (by omega)], by rw [List.take_of_length_le (by omega), List.take_of_length_le (by omega)], by rw [List.drop_of_length_le (by omega), List.drop_of_length_le (by omega)]⟩
        · exact ⟨3, by omega, by omega, by omega, by rw [if_neg (by omega)]; rfl, rfl, rfl⟩
      have HGE := Aside0.mk hge
      clear hge
      have hq : Aside0 (C8 w A' g (xs.take 3)) := ⟨by rw [← HGE.out.1]; exact C_take hrx.out hgn⟩
      have hcut := cut8_to A' n c' g hgn hnc
      have hcut2 := cut8_from A' n c' g hgn
      have hdr : C8 w (if c' = g then A' else A'.map (·.add g)) (n - g) (xs.drop g) := C8_drop hrx.out hnc hgn
      generalize (if c' = g then A' else A'.map (·.add g)) = A2 at hcut2 hdr
      have HDR := Aside0.mk hdr
      clear hdr
      go_wp2_with fail
      refine (quad_calls A' c' g (xs.take 3) wr (Kd.C_below hq.out HB.out) hg1 hg3 (hbx.out.take 3)).mono ?_
      rintro e w2 ⟨rfl, hb2⟩
      have HB2 := Aside0.mk (HB.out.trans (hb2.mono HB.out.size))
      have HO2 := Aside0.mk (Kd.R_below HO.out hb2)
      clear HO HB hb2
      have hC : Aside0 (C8 (w2.alloc (.cells #[.int .u8 (qd (xs.take 3) 0), .int .u8 (qd (xs.take 3) 1), .int .u8 (qd (xs.take 3) 2), .int .u8 (qd (xs.take 3) 3)] 99)) (some ⟨w2.heap.size, 0, none⟩) 4 (quadL (xs.take 3))) := ⟨C8_new w2 (quadL (xs.take 3)) 99 (by simp [quadL_len])⟩
      have hbs : w.heap.size ≤ w2.heap.size := HB2.out.size
      go_wp2_with (at_builtin; refine appRow (w0 := w) w.heap.size rfl (.tmp 19) (.tmp 20) rfl u3 out (quadL (xs.take 3)) (some ⟨w2.heap.size, 0, none⟩) 4 4 rfl rfl ?ho hC.out ?hb ?hs ?hl ?_; (case ho => exact Kd.R_alloc HO2.out _); (case hb => exact below_alloc HB2.out _); (case hs => simp; omega); (case hl => omega); intro v1 w1 ho hb hg; have HO3 := Aside0.mk ho; have HB3 := Aside0.mk hb; clear ho hb hg)
      go_roundg k1
      case measure => omega
      case rel =>
        refine ⟨A2, n - g, c' - g, xs.drop g, out ++ quadL (xs.take 3), rfl, by omega, by omega, ?_, HDR, ⟨hbx.out.drop g⟩, ⟨?_⟩, HO3, HB3⟩
        · have h1 := congrArg List.length heq.out
          rw [encL_step xs (by rw [hrx.out.1]; exact h0)] at h1
          have h2 := encL_len l
          simp only [List.length_append] at h1 ⊢
          omega
        · rw [List.append_assoc, HGE.out.2, ← encL_step xs (by rw [hrx.out.1]; exact h0), heq.out]
    · have hxs : xs = [] := by
        have := hrx.out.1
        cases xs with
        | nil => rfl
        | cons => simp at this; omega
      have he : out = encL l := by rw [← heq.out, hxs]; simp [encL]
      have HE := Aside0.mk he
      clear hxs he heq
      have hcv := own_string (P := Try.prog) Try.underlying31 Try.underlying5 Try.underlying9 (Kd.own_of_R HO.out)
      go_wp2
      go_ret
      rw [← HE.out]
      exact ⟨rfl, HB.out⟩
end Go.Proofs.Ytfefpbnhpncmlaa.BaseE
