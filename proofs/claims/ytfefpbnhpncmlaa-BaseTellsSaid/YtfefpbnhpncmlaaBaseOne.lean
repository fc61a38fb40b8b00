import Derived.Test.YtfefpbnhpncmlaaBaseL
namespace Go.Proofs.Ytfefpbnhpncmlaa.BaseOneW
open Go.Proofs.Ytfefpbnhpncmlaa.B8 Go.Proofs.Ytfefpbnhpncmlaa.BaseQ Go.Proofs.Ytfefpbnhpncmlaa.BaseV Go.Proofs.Ytfefpbnhpncmlaa.BaseE Go.Proofs.Ytfefpbnhpncmlaa.BaseD Go.Proofs.Ytfefpbnhpncmlaa.BaseL Go.RowKit Go.Proofs.YtfefpbnhpncmlaaW.PrintWords Go.Proofs.YtfefpbnhpncmlaaW.PrintLast Go.Proofs.YtfefpbnhpncmlaaW.PrintMore
set_option linter.unusedVariables false

theorem str_bytes (s : ByteArray) : strOfNums (bytesOf s) = s := by
  obtain ⟨⟨l⟩⟩ := s
  simp only [strOfNums, bytesOf]
  congr 2
  rw [List.map_map]
  conv => rhs; rw [← List.map_id l]
  exact List.map_congr_left fun b _ => by simp
theorem bytes_bytesOf (s : ByteArray) : Bytes (bytesOf s) := by
  intro x hx
  obtain ⟨b, _, rfl⟩ := List.mem_map.1 hx
  exact Go.Proofs.Ytfefpbnhpncmlaa.BaseT.byte_bd b

theorem conv_own {w : World} {base : Nat} {v : Value} {xs : List Int} (h : R8 w base v xs) : (convert 31 9 v).run Try.prog w = .ok (.string (strOfNums xs)) w :=
  own_string (P := Try.prog) Try.underlying31 Try.underlying5 Try.underlying9 (Kd.own_of_R h)

set_option maxRecDepth 100000 in
theorem law (s : ByteArray) (hs : s.size ≤ 140737488351232) (w : World) :
    Calls Try.prog 7 #[.string s] w fun e w' => e = .returned (.bool true) ∧ Below w.heap.size w w' := by
  by_cases hbig : 2000 < s.size
  · have hb : (2000 : Int) < (s.size : Int) := by omega
    go_enter Try.func7, Try.ntmps7
    go_wp2
    go_ret
    exact ⟨rfl, Below.refl _ _⟩
  · have hb : ¬ (2000 : Int) < (s.size : Int) := by omega
    have D := fun W => dec_calls s (by omega) W
    cases hd : decL (bytesOf s) with
    | none =>
      rw [hd] at D
      simp only [Option.getD_none, Option.isSome_none] at D
      clear hd
      have D2 := fun W => dec_calls ⟨#[84, 87, 69, 61]⟩ (by decide) W
      rw [show decL (bytesOf ⟨#[84, 87, 69, 61]⟩) = some [77, 97] from by decide +kernel] at D2
      simp only [Option.getD_some, Option.isSome_some] at D2
      go_enter Try.func7, Try.ntmps7
      go_wp2_with fail
      refine (D _).mono ?_
      rintro e w2 ⟨v, rfl, hr, hb2⟩
      obtain ⟨A, c, hv⟩ := Kd.R_slice hr
      subst hv
      clear hr
      go_wp2_with fail
      refine (D2 _).mono ?_
      rintro e w3 ⟨v, rfl, hr, hb3⟩
      have hcv := conv_own hr
      rw [show strOfNums [77, 97] = ⟨#[77, 97]⟩ from by decide +kernel] at hcv
      clear hr
      go_wp2
      go_ret
      exact ⟨rfl, hb2.trans (hb3.mono hb2.size)⟩
    | some b =>
      have he := enc_dec (bytesOf s) (bytes_bytesOf s) b hd
      have hl := decL_len (bytesOf s) b hd
      rw [bytesOf_length] at hl
      rw [hd] at D
      simp only [Option.getD_some, Option.isSome_some] at D
      clear hd
      have S63 := fun W => sign_calls 63 (by decide) (by decide) W
      rw [show sg 63 = 47 from by decide +kernel] at S63
      have HE := Aside0.mk he
      clear he
      go_enter Try.func7, Try.ntmps7
      go_wp2_with fail
      refine (D _).mono ?_
      rintro e w2 ⟨v, rfl, hr, hb2⟩
      obtain ⟨A, c, hv, hlc, hc⟩ := Kd.R_reads hr
      subst hv
      have E := enc_calls A c b w2 hc hlc HE.out.2 (by omega)
      rw [HE.out.1, str_bytes] at E
      clear hr hc
      go_wp2_with fail
      refine E.mono ?_
      rintro e w3 ⟨rfl, hb3⟩
      go_wp2_with fail
      refine (S63 _).mono ?_
      rintro e w4 ⟨rfl, rfl⟩
      go_wp2
      go_ret
      exact ⟨rfl, hb2.trans (hb3.mono hb2.size)⟩
end Go.Proofs.Ytfefpbnhpncmlaa.BaseOneW
