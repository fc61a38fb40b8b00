import Derived.Test.YtfefpbnhpncmlaaBaseOne
namespace Go.Proofs.Ytfefpbnhpncmlaa.BaseBackW
open Go.Proofs.Ytfefpbnhpncmlaa.B8 Go.Proofs.Ytfefpbnhpncmlaa.BaseQ Go.Proofs.Ytfefpbnhpncmlaa.BaseV Go.Proofs.Ytfefpbnhpncmlaa.BaseE Go.Proofs.Ytfefpbnhpncmlaa.BaseD Go.Proofs.Ytfefpbnhpncmlaa.BaseL Go.Proofs.Ytfefpbnhpncmlaa.BaseOneW Go.RowKit Go.Proofs.YtfefpbnhpncmlaaW.PrintWords Go.Proofs.YtfefpbnhpncmlaaW.PrintLast Go.Proofs.YtfefpbnhpncmlaaW.PrintMore
set_option linter.unusedVariables false

theorem num_bd (l : List Int) (h : Bytes l) : 0 ≤ num l ∧ num l < 16777216 := by
  unfold num
  split
  · rename_i a
    have := h a (by simp)
    omega
  · rename_i a b
    have := h a (by simp)
    have := h b (by simp)
    omega
  · rename_i a b c
    have := h a (by simp)
    have := h b (by simp)
    have := h c (by simp)
    omega
  · omega
theorem quadL_bytes (l : List Int) (h : Bytes l) : Bytes (quadL l) := by
  have hn := num_bd l h
  have h0 := (sg_bd (num l / 262144 % 64) (by omega) (by omega)).2
  have h1 := (sg_bd (num l / 4096 % 64) (by omega) (by omega)).2
  have h2 := (sg_bd (num l / 64 % 64) (by omega) (by omega)).2
  have h3 := (sg_bd (num l % 64) (by omega) (by omega)).2
  intro x hx
  simp only [quadL, List.mem_cons, List.not_mem_nil, or_false] at hx
  rcases hx with rfl | rfl | rfl | rfl
  · exact h0
  · exact h1
  · split
    · exact h2
    · omega
  · split
    · exact h3
    · omega
theorem encL_bytes (l : List Int) : Bytes l → Bytes (encL l) := by
  induction l using encL.induct with
  | case1 a b c r ih =>
    intro h x hx
    rw [encL] at hx
    exact (List.mem_append.1 hx).elim (quadL_bytes _ (fun y hy => h y (by simp at hy ⊢; rcases hy with e | e | e <;> simp [e])) x) (ih (fun y hy => h y (by simp [hy])) x)
  | case2 => intro _ x hx; simp [encL] at hx
  | case3 l h1 h2 =>
    intro h
    match l, h1, h2, h with
    | [], _, h2, _ => exact absurd rfl h2
    | [a], _, _, h => exact quadL_bytes _ h
    | [a, b], _, _, h => exact quadL_bytes _ h
    | a :: b :: c :: d, h1, _, _ => exact absurd rfl (h1 a b c d)
theorem bytes_str (l : List Int) (h : Bytes l) : bytesOf (strOfNums l) = l := by
  simp only [strOfNums, bytesOf]
  rw [List.map_map]
  conv => rhs; rw [← List.map_id l]
  refine List.map_congr_left fun b hb => ?_
  have := h b hb
  simp only [Function.comp]
  rw [UInt8.toNat_ofNat']
  show ((b.toNat % 256 : Nat) : Int) = b
  omega
theorem str_size (l : List Int) : (strOfNums l).size = l.length := by simp [strOfNums, ByteArray.size]

set_option maxRecDepth 100000 in
theorem law (A : Option Addr) (c : Nat) (l : List Int) (w : World) (hr : C8 w A l.length l) (hc : l.length ≤ c) (hb : Bytes l) :
    Calls Try.prog 6 #[.slice A l.length c] w fun e w' => e = .returned (.bool true) ∧ Below w.heap.size w w' := by
  obtain ⟨l', hl'⟩ : ∃ l', l' = if 2000 < l.length then l.take 2000 else l := ⟨_, rfl⟩
  have HL := Aside0.mk hl'
  have HM := Kd.C_max hr
  have hlen : l'.length ≤ 2000 := by rw [hl']; split; (· simp only [List.length_take]; omega); (· omega)
  have hlc : l'.length ≤ c := by rw [hl']; split; (· simp only [List.length_take]; omega); (· omega)
  have hb' : Bytes l' := by rw [hl']; split; (· exact hb.take _); (· exact hb)
  have hr' : C8 w A l'.length l' := by
    rw [hl']
    split
    · have := C_take hr (m := 2000) (by omega)
      rwa [show (l.take 2000).length = 2000 from by simp; omega]
    · exact hr
  have hk := fun (h : 2000 < l.length) => cut8_to A l.length c 2000 (by omega) hc
  have E := fun W (h : Below w.heap.size w W) => enc_calls A c l' W (Kd.C_below hr' h) hlc hb' (by omega)
  obtain ⟨S, hS⟩ : ∃ S, S = strOfNums (encL l') := ⟨_, rfl⟩
  rw [← hS] at E
  have hSs : S.size = (l'.length + 2) / 3 * 4 := by rw [hS, str_size, enc_len]
  have hSb : bytesOf S = encL l' := by rw [hS, bytes_str _ (encL_bytes l' hb')]
  have D1 := fun W => dec_calls S (by omega) W
  rw [hSb, dec_enc l' hb'] at D1
  simp only [Option.getD_some, Option.isSome_some] at D1
  have s1 : (S ++ ⟨#[65]⟩ : ByteArray).size = S.size + 1 := by rw [ByteArray.size_append]; rfl
  have D2 := fun W => dec_calls (S ++ ⟨#[65]⟩) (by omega) W
  rw [decL_mod (bytesOf (S ++ ⟨#[65]⟩)) (by rw [bytesOf_length]; omega)] at D2
  simp only [Option.getD_none, Option.isSome_none] at D2
  have s2 : (S.extract 0 (S.size - 1)).size = S.size - 1 := by simp [ByteArray.size_extract]
  have D3 := fun W => dec_calls (S.extract 0 (S.size - 1)) (by omega) W
  have hmod3 : 0 < S.size → decL (bytesOf (S.extract 0 (S.size - 1))) = none := fun h => decL_mod _ (by rw [bytesOf_length]; omega)
  have V66 := fun W => value_calls 66 (by decide) (by decide) W
  rw [show valI 66 = 1 from by decide] at V66
  have cv := fun W (h : Below w.heap.size w W) => Kd.C_string (P := Try.prog) (c := c) Try.underlying31 Try.underlying5 Try.underlying9 (Kd.C_below hr' h)
  have hlen2 : ((S.size : Int) == ((l'.length : Int) + 2) / 3 * 4) = true := by simp only [beq_iff_eq]; omega
  have hcat : S.size + 1 ≤ 9223372036854775807 := by omega
  have hcat2 : ((S.size : Int) + 1) ≤ 9223372036854775807 := by omega
  have HSS := Aside0.mk hSs
  have HM3 := Aside0.mk hmod3
  have HR := Aside0.mk hr
  clear hS hSs hSb s1 s2 hmod3 hr hr' hb hb' hl'
  go_enter Try.func6, Try.ntmps6
  go_upto_if 11 with (fail)
  go_cut [0] (fun v0 wc => v0 = .slice A l'.length c ∧ wc = w)
  case first =>
    clear hcat hcat2 hlen2 D1 D2 D3 E V66 cv HM3 HSS
    by_cases h : 2000 < l.length
    · have hk' : ∀ W : World, (Instr.slice 31 (.slice A l.length c) none (some (.int .i64 2000)) none).run Try.prog W = .ok (.slice A 2000 c) W := hk h
      clear hk
      have h' : (2000 : Int) < (l.length : Int) := by omega
      go_wp2
      go_meet
      case rel => exact ⟨by rw [HL.out, if_pos h]; simp; omega, rfl⟩
    · clear hk
      have h' : ¬ (2000 : Int) < (l.length : Int) := by omega
      go_wp2
      go_meet
      case rel => exact ⟨by rw [HL.out, if_neg h], rfl⟩
  case rest =>
    clear hk
    obtain ⟨rfl, rfl⟩ := hcut
    go_wp2_with fail
    refine (E _ (Below.refl _ _)).mono ?_
    rintro e w1 ⟨rfl, b1⟩
    go_wp2_with fail
    refine (D1 _).mono ?_
    rintro e w2 ⟨v, rfl, hr, b2⟩
    have B2 := b1.trans (b2.mono b1.size)
    have HV := Aside0.mk hr
    clear hr
    go_wp2_with fail
    refine (D2 _).mono ?_
    rintro e w3 ⟨v2, rfl, hr, b3⟩
    have B3 := B2.trans (b3.mono B2.size)
    have HV3 := Aside0.mk (Kd.R_below HV.out b3)
    clear hr HV b1 b2 b3
    by_cases h0 : 0 < S.size
    · have h0' : (0 : Int) < (S.size : Int) := by omega
      have D3' := fun W => D3 W
      rw [HM3.out h0] at D3'
      simp only [Option.getD_none, Option.isSome_none] at D3'
      clear D3
      go_wp2_with fail
      refine (D3' _).mono ?_
      rintro e w5 ⟨v5, rfl, hr, b5⟩
      have B5 := B3.trans (b5.mono B3.size)
      have HV5 := Aside0.mk (Kd.R_below HV3.out b5)
      clear hr HV3 b5 D3'
      have cv1 := conv_own HV5.out
      have cv2 := cv _ B5
      go_wp2_with fail
      refine (V66 _).mono ?_
      rintro e w6 ⟨rfl, rfl⟩
      go_wp2
      go_ret
      exact ⟨rfl, B5⟩
    · have h0' : ¬ (0 : Int) < (S.size : Int) := by omega
      have B5 := B3
      have HV5 := HV3
      have cv1 := conv_own HV5.out
      have cv2 := cv _ B5
      go_wp2_with fail
      refine (V66 _).mono ?_
      rintro e w6 ⟨rfl, rfl⟩
      go_wp2
      go_ret
      exact ⟨rfl, B5⟩
end Go.Proofs.Ytfefpbnhpncmlaa.BaseBackW
