import Derived.Test.YtfefpbnhpncmlaaBaseR
namespace Go.Proofs.Ytfefpbnhpncmlaa.BaseS
open Go.Proofs.Ytfefpbnhpncmlaa.B8 Go.Proofs.Ytfefpbnhpncmlaa.BaseQ Go.Proofs.Ytfefpbnhpncmlaa.BaseV Go.Proofs.Ytfefpbnhpncmlaa.BaseE Go.Proofs.Ytfefpbnhpncmlaa.BaseD Go.Proofs.Ytfefpbnhpncmlaa.BaseL Go.Proofs.Ytfefpbnhpncmlaa.BaseR Go.Proofs.Ytfefpbnhpncmlaa.BaseOneW Go.RowKit Go.Proofs.YtfefpbnhpncmlaaW.PrintWords Go.Proofs.YtfefpbnhpncmlaaW.PrintLast Go.Proofs.YtfefpbnhpncmlaaW.PrintMore
set_option linter.unusedVariables false

theorem drop_cons (l : List Int) (i : Nat) (h : i < l.length) : l.drop i = l.getD i 0 :: l.drop (i + 1) := by
  rw [List.drop_eq_getElem_cons h]
  congr 1
  simp [List.getD, h]
theorem take3 (l : List Int) (i : Nat) (h : i + 2 < l.length) : (l.drop i).take 3 = [l.getD i 0, l.getD (i + 1) 0, l.getD (i + 2) 0] := by
  rw [drop_cons l i (by omega), drop_cons l (i + 1) (by omega), drop_cons l (i + 1 + 1) (by omega)]
  rfl
theorem take2 (l : List Int) (i : Nat) (h : i + 2 = l.length) : (l.drop i).take 3 = [l.getD i 0, l.getD (i + 1) 0] := by
  rw [drop_cons l i (by omega), drop_cons l (i + 1) (by omega), List.drop_eq_nil_of_le (by omega : l.length ≤ i + 1 + 1)]
  rfl
theorem take1 (l : List Int) (i : Nat) (h : i + 1 = l.length) : (l.drop i).take 3 = [l.getD i 0] := by
  rw [drop_cons l i (by omega), List.drop_eq_nil_of_le (by omega : l.length ≤ i + 1)]
  rfl

set_option maxRecDepth 100000 in
set_option maxHeartbeats 1000000 in
theorem renc_calls (A : Option Addr) (c : Nat) (l : List Int) (w : World) (hr : C8 w A l.length l) (hc : l.length ≤ c) (hb : Bytes l) (hm : l.length ≤ 10000) :
    Calls Try.prog 23 #[.slice A l.length c] w fun e w' => e = .returned (.string (strOfNums (encL l))) ∧ Below w.heap.size w w' := by
  have HR := Aside0.mk hr
  have HBY := Aside0.mk hb
  clear hr hb
  go_enter Try.func23, Try.ntmps23
  go_wp2
  go_loopg [3, 4] l.length (fun kq v3 v4 w' => ∃ (i : Nat) (out : List Int), v4 = .int .i64 i ∧ l.length ≤ i + kq ∧ i ≤ l.length + 2 ∧ out.length ≤ 20004 ∧ Aside0 (out ++ encL (l.drop i) = encL l) ∧ Aside0 (R8 w' w.heap.size v3 out) ∧ Aside0 (Below w.heap.size w w'))
  case atStart => exact ⟨0, [], rfl, by omega, by omega, by simp, ⟨rfl⟩, ⟨Kd.R_nil _ _ _ _ _⟩, ⟨Below.refl _ _⟩⟩
  case round =>
    obtain ⟨i, out, rfl, hik, hil, hout, heq, HO, HB⟩ := hrel
    by_cases hlt : i < l.length
    · obtain ⟨bk, off, rfl, hB, hx⟩ := C_at 0 HR.out (by omega)
      cases gk with
      | zero => omega
      | succ k1 =>
      have hlt' : (i : Int) < (l.length : Int) := by omega
      have hol : (out ++ quadL ((l.drop i).take 3)).length ≤ 20004 := by
        have h1 := congrArg List.length heq.out
        rw [encL_step (l.drop i) (by simp; omega)] at h1
        have h2 := encL_len l
        simp only [List.length_append] at h1 ⊢
        omega
      have hst : (out ++ quadL ((l.drop i).take 3)) ++ encL (l.drop (i + 3)) = encL l := by
        rw [List.append_assoc, ← List.drop_drop, ← encL_step (l.drop i) (by simp; omega), heq.out]
      have HOL := Aside0.mk hol
      have HST := Aside0.mk hst
      clear hol hst heq
      have x0 := (HB.out.cell (p := ⟨bk, off + i, none⟩) hB).trans (hx i hlt)
      have ha := HBY.out (l.getD i 0) (by simp [List.getD, hlt])
      generalize hga : l.getD i 0 = a at x0 ha
      by_cases h2 : i + 1 < l.length
      · have h2' : (i : Int) + 1 < (l.length : Int) := by omega
        have h2i : (0 : Int) ≤ (i : Int) + 1 := by omega
        have h2n : ¬ (l.length : Int) ≤ (i : Int) + 1 := by omega
        have x1 := (HB.out.cell (p := ⟨bk, off + (i + 1), none⟩) hB).trans (hx (i + 1) h2)
        have hb := HBY.out (l.getD (i + 1) 0) (by simp [List.getD, h2])
        generalize hgb : l.getD (i + 1) 0 = b at x1 hb
        by_cases h3 : i + 2 < l.length
        · have h3' : (i : Int) + 2 < (l.length : Int) := by omega
          have h3n : ¬ (l.length : Int) ≤ (i : Int) + 2 := by omega
          have x2 := (HB.out.cell (p := ⟨bk, off + (i + 2), none⟩) hB).trans (hx (i + 2) h3)
          have hc' := HBY.out (l.getD (i + 2) 0) (by simp [List.getD, h3])
          generalize hgc : l.getD (i + 2) 0 = c2 at x2 hc'
          have htk := take3 l i h3
          rw [hga, hgb, hgc] at htk
          rw [htk] at HOL HST
          clear hx htk hga hgb hgc
          have hn := num3 a b c2 ha.1 ha.2 hb.1 hb.2 hc'.1 hc'.2
          have hnum : a * 65536 + b * 256 + c2 = num [a, b, c2] := rfl
          have HN := Aside0.mk hnum
          clear hnum
          obtain ⟨ha1, ha2⟩ := ha
          obtain ⟨hb1, hb2⟩ := hb
          obtain ⟨hc1, hc2⟩ := hc'
          obtain ⟨hn1, hn2⟩ := hn
          have s0 := fun W => rsign_calls (num [a, b, c2] / 262144) (by omega) (by omega) W
          have s1 := fun W => rsign_calls (num [a, b, c2] / 4096 % 64) (by omega) (by omega) W
          have s2 := fun W => rsign_calls (num [a, b, c2] / 64 % 64) (by omega) (by omega) W
          have s3 := fun W => rsign_calls (num [a, b, c2] % 64) (by omega) (by omega) W
          have hqq : quadL [a, b, c2] = [sg (num [a, b, c2] / 262144), sg (num [a, b, c2] / 4096 % 64), sg (num [a, b, c2] / 64 % 64), sg (num [a, b, c2] % 64)] := by
            simp only [quadL, List.length_cons, List.length_nil]
            rw [show num [a, b, c2] / 262144 % 64 = num [a, b, c2] / 262144 from by omega]
            rfl
          rw [hqq] at HOL HST
          have hC : Aside0 (C8 (wr.alloc (.cells #[.int .u8 (sg (num [a, b, c2] / 262144)), .int .u8 (sg (num [a, b, c2] / 4096 % 64)), .int .u8 (sg (num [a, b, c2] / 64 % 64)), .int .u8 (sg (num [a, b, c2] % 64))] 5)) (some ⟨wr.heap.size, 0, none⟩) 4 [sg (num [a, b, c2] / 262144), sg (num [a, b, c2] / 4096 % 64), sg (num [a, b, c2] / 64 % 64), sg (num [a, b, c2] % 64)]) := ⟨C8_new wr [sg (num [a, b, c2] / 262144), sg (num [a, b, c2] / 4096 % 64), sg (num [a, b, c2] / 64 % 64), sg (num [a, b, c2] % 64)] 5 (by simp)⟩
          clear hqq
          have hbs : w.heap.size ≤ wr.heap.size := HB.out.size
          have hho := HOL.out
          simp only [List.length_append, List.length_cons, List.length_nil] at hho
          go_wp2_with fail
          rw [HN.out]
          refine (s0 _).mono ?_
          rintro e w2 ⟨rfl, rfl⟩
          go_wp2_with fail
          refine (s1 _).mono ?_
          rintro e w2 ⟨rfl, rfl⟩
          go_wp2_with fail
          refine (s2 _).mono ?_
          rintro e w2 ⟨rfl, rfl⟩
          go_wp2_with fail
          refine (s3 _).mono ?_
          rintro e w2 ⟨rfl, rfl⟩
          go_wp2_with (at_builtin; refine appRow (w0 := w) w.heap.size rfl (.tmp 75) (.tmp 76) rfl _ out [sg (num [a, b, c2] / 262144), sg (num [a, b, c2] / 4096 % 64), sg (num [a, b, c2] / 64 % 64), sg (num [a, b, c2] % 64)] (some ⟨wr.heap.size, 0, none⟩) 4 4 rfl rfl ?ho hC.out ?hb ?hs ?hl ?_; (case ho => exact Kd.R_alloc HO.out _); (case hb => exact below_alloc HB.out _); (case hs => simp; omega); (case hl => omega); intro v1 w1 ho hb hg; have HO3 := Aside0.mk ho; have HB3 := Aside0.mk hb; clear ho hb hg)
          go_roundg k1
          case measure => omega
          case rel => exact ⟨i + 3, out ++ [sg (num [a, b, c2] / 262144), sg (num [a, b, c2] / 4096 % 64), sg (num [a, b, c2] / 64 % 64), sg (num [a, b, c2] % 64)], by go_num, by omega, by omega, by rw [List.length_append]; simp; omega, HST, HO3, HB3⟩
        · have h3n : (l.length : Int) ≤ (i : Int) + 2 := by omega
          have h3' : ¬ (i : Int) + 2 < (l.length : Int) := by omega
          have htk := take2 l i (by omega)
          rw [hga, hgb] at htk
          rw [htk] at HOL HST
          clear hx htk hga hgb
          have hn := num2 a b ha.1 ha.2 hb.1 hb.2
          have hnum : a * 65536 + b * 256 = num [a, b] := rfl
          have HN := Aside0.mk hnum
          clear hnum
          obtain ⟨ha1, ha2⟩ := ha
          obtain ⟨hb1, hb2⟩ := hb
          obtain ⟨hn1, hn2⟩ := hn
          have s0 := fun W => rsign_calls (num [a, b] / 262144) (by omega) (by omega) W
          have s1 := fun W => rsign_calls (num [a, b] / 4096 % 64) (by omega) (by omega) W
          have s2 := fun W => rsign_calls (num [a, b] / 64 % 64) (by omega) (by omega) W
          have s3 := fun W => rsign_calls (num [a, b] % 64) (by omega) (by omega) W
          have hqq : quadL [a, b] = [sg (num [a, b] / 262144), sg (num [a, b] / 4096 % 64), sg (num [a, b] / 64 % 64), 61] := by
            simp only [quadL, List.length_cons, List.length_nil]
            rw [show num [a, b] / 262144 % 64 = num [a, b] / 262144 from by omega]
            rfl
          rw [hqq] at HOL HST
          have hC : Aside0 (C8 (wr.alloc (.cells #[.int .u8 (sg (num [a, b] / 262144)), .int .u8 (sg (num [a, b] / 4096 % 64)), .int .u8 (sg (num [a, b] / 64 % 64)), .int .u8 61] 5)) (some ⟨wr.heap.size, 0, none⟩) 4 [sg (num [a, b] / 262144), sg (num [a, b] / 4096 % 64), sg (num [a, b] / 64 % 64), 61]) := ⟨C8_new wr [sg (num [a, b] / 262144), sg (num [a, b] / 4096 % 64), sg (num [a, b] / 64 % 64), 61] 5 (by simp)⟩
          clear hqq
          have hbs : w.heap.size ≤ wr.heap.size := HB.out.size
          have hho := HOL.out
          simp only [List.length_append, List.length_cons, List.length_nil] at hho
          go_wp2_with fail
          rw [HN.out]
          refine (s0 _).mono ?_
          rintro e w2 ⟨rfl, rfl⟩
          go_wp2_with fail
          refine (s1 _).mono ?_
          rintro e w2 ⟨rfl, rfl⟩
          go_wp2_with fail
          refine (s2 _).mono ?_
          rintro e w2 ⟨rfl, rfl⟩
          go_wp2_with fail
          refine (s3 _).mono ?_
          rintro e w2 ⟨rfl, rfl⟩
          go_wp2_with (at_builtin; refine appRow (w0 := w) w.heap.size rfl (.tmp 75) (.tmp 76) rfl _ out [sg (num [a, b] / 262144), sg (num [a, b] / 4096 % 64), sg (num [a, b] / 64 % 64), 61] (some ⟨wr.heap.size, 0, none⟩) 4 4 rfl rfl ?ho hC.out ?hb ?hs ?hl ?_; (case ho => exact Kd.R_alloc HO.out _); (case hb => exact below_alloc HB.out _); (case hs => simp; omega); (case hl => omega); intro v1 w1 ho hb hg; have HO3 := Aside0.mk ho; have HB3 := Aside0.mk hb; clear ho hb hg)
          go_roundg k1
          case measure => omega
          case rel => exact ⟨i + 3, out ++ [sg (num [a, b] / 262144), sg (num [a, b] / 4096 % 64), sg (num [a, b] / 64 % 64), 61], by go_num, by omega, by omega, by rw [List.length_append]; simp; omega, HST, HO3, HB3⟩
      · have h2' : ¬ (i : Int) + 1 < (l.length : Int) := by omega
        have h2n : (l.length : Int) ≤ (i : Int) + 1 := by omega
        have h3n : (l.length : Int) ≤ (i : Int) + 2 := by omega
        have h3' : ¬ (i : Int) + 2 < (l.length : Int) := by omega
        have htk := take1 l i (by omega)
        rw [hga] at htk
        rw [htk] at HOL HST
        clear hx htk hga
        have hn := num1 a ha.1 ha.2
        have hnum : a * 65536 = num [a] := rfl
        have HN := Aside0.mk hnum
        clear hnum
        obtain ⟨ha1, ha2⟩ := ha
        obtain ⟨hn1, hn2⟩ := hn
        have s0 := fun W => rsign_calls (num [a] / 262144) (by omega) (by omega) W
        have s1 := fun W => rsign_calls (num [a] / 4096 % 64) (by omega) (by omega) W
        have s2 := fun W => rsign_calls (num [a] / 64 % 64) (by omega) (by omega) W
        have s3 := fun W => rsign_calls (num [a] % 64) (by omega) (by omega) W
        have hqq : quadL [a] = [sg (num [a] / 262144), sg (num [a] / 4096 % 64), 61, 61] := by
          simp only [quadL, List.length_cons, List.length_nil]
          rw [show num [a] / 262144 % 64 = num [a] / 262144 from by omega]
          rfl
        rw [hqq] at HOL HST
        have hC : Aside0 (C8 (wr.alloc (.cells #[.int .u8 (sg (num [a] / 262144)), .int .u8 (sg (num [a] / 4096 % 64)), .int .u8 61, .int .u8 61] 5)) (some ⟨wr.heap.size, 0, none⟩) 4 [sg (num [a] / 262144), sg (num [a] / 4096 % 64), 61, 61]) := ⟨C8_new wr [sg (num [a] / 262144), sg (num [a] / 4096 % 64), 61, 61] 5 (by simp)⟩
        clear hqq
        have hbs : w.heap.size ≤ wr.heap.size := HB.out.size
        have hho := HOL.out
        simp only [List.length_append, List.length_cons, List.length_nil] at hho
        go_wp2_with fail
        rw [HN.out]
        refine (s0 _).mono ?_
        rintro e w2 ⟨rfl, rfl⟩
        go_wp2_with fail
        refine (s1 _).mono ?_
        rintro e w2 ⟨rfl, rfl⟩
        go_wp2_with fail
        refine (s2 _).mono ?_
        rintro e w2 ⟨rfl, rfl⟩
        go_wp2_with fail
        refine (s3 _).mono ?_
        rintro e w2 ⟨rfl, rfl⟩
        go_wp2_with (at_builtin; refine appRow (w0 := w) w.heap.size rfl (.tmp 75) (.tmp 76) rfl _ out [sg (num [a] / 262144), sg (num [a] / 4096 % 64), 61, 61] (some ⟨wr.heap.size, 0, none⟩) 4 4 rfl rfl ?ho hC.out ?hb ?hs ?hl ?_; (case ho => exact Kd.R_alloc HO.out _); (case hb => exact below_alloc HB.out _); (case hs => simp; omega); (case hl => omega); intro v1 w1 ho hb hg; have HO3 := Aside0.mk ho; have HB3 := Aside0.mk hb; clear ho hb hg)
        go_roundg k1
        case measure => omega
        case rel => exact ⟨i + 3, out ++ [sg (num [a] / 262144), sg (num [a] / 4096 % 64), 61, 61], by go_num, by omega, by omega, by rw [List.length_append]; simp; omega, HST, HO3, HB3⟩
    · have hxs : l.drop i = [] := by rw [List.drop_eq_nil_iff]; omega
      have he : out = encL l := by rw [← heq.out, hxs]; simp [encL]
      have HE := Aside0.mk he
      clear hxs he heq
      have hcv := conv_own HO.out
      go_wp2
      go_ret
      rw [← HE.out]
      exact ⟨rfl, HB.out⟩
end Go.Proofs.Ytfefpbnhpncmlaa.BaseS
