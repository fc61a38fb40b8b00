import Derived.Test.YtfefpbnhpncmlaaBaseY
import Derived.Lib.SlBytesConst
namespace Go.Proofs.Ytfefpbnhpncmlaa.BaseTellsW
open Go.Proofs.Ytfefpbnhpncmlaa.B8 Go.Proofs.Ytfefpbnhpncmlaa.BaseQ Go.Proofs.Ytfefpbnhpncmlaa.BaseV Go.Proofs.Ytfefpbnhpncmlaa.BaseE Go.Proofs.Ytfefpbnhpncmlaa.BaseD Go.Proofs.Ytfefpbnhpncmlaa.BaseL Go.Proofs.Ytfefpbnhpncmlaa.BaseX Go.Proofs.Ytfefpbnhpncmlaa.BaseW Go.Proofs.Ytfefpbnhpncmlaa.BaseS Go.Proofs.Ytfefpbnhpncmlaa.BaseY Go.Proofs.Ytfefpbnhpncmlaa.BaseOneW Go.RowKit Go.Proofs.YtfefpbnhpncmlaaW.PrintWords Go.Proofs.YtfefpbnhpncmlaaW.PrintLast Go.Proofs.YtfefpbnhpncmlaaW.PrintMore
set_option linter.unusedVariables false

theorem C8_mark (w : World) (c : List Int) (t : TypeId) (fr : Nat × Nat) (hc : c.length ≤ 9223372036854775807) : C8 (w.alloc (.cells (c.map (Value.int .u8)).toArray t fr)) (some ⟨w.heap.size, 0, none⟩) c.length c := by
  refine ⟨rfl, hc, fun _ => ⟨_, rfl, fun j p hj => ⟨[.int .u8 p], rfl, rfl, fun i u hu => ?_⟩⟩⟩
  match i with
  | 0 =>
    simp only [show (Kd.int .u8).sz = 1 from rfl, Nat.mul_one, Nat.add_zero]
    rw [show (⟨w.heap.size, 0, none⟩ : Addr).add j = ⟨w.heap.size, j, none⟩ from by rw [add_at]; simp]
    rw [World.cell?_alloc_mark]
    simp only [List.getElem?_cons_zero, Option.some.injEq] at hu
    subst hu
    simp [hj]
  | i + 1 => simp at hu

theorem ma_calls (w : World) : Calls Try.prog 22 #[.slice (some ⟨w.heap.size, 0, none⟩) 2 2] (w.alloc (.cells #[.int .u8 77, .int .u8 97] 5 (2, 3))) fun e w' => e = .returned (.string ⟨#[84, 87, 69, 61]⟩) ∧ Below w.heap.size w w' := by
  refine (enc_calls _ 2 [77, 97] _ (C8_mark w [77, 97] 5 (2, 3) (by simp)) (by simp) (by intro x hx; simp at hx; omega) (by simp)).mono ?_
  rintro e w' ⟨rfl, hb⟩
  refine ⟨?_, (below_alloc (Below.refl _ _) _).trans (hb.mono (by simp))⟩
  rw [show strOfNums (encL [77, 97]) = ⟨#[84, 87, 69, 61]⟩ from by decide +kernel]

set_option maxRecDepth 100000 in
theorem law (A : Option Addr) (c : Nat) (l : List Int) (s : ByteArray) (w : World) (hr : C8 w A l.length l) (hc : l.length ≤ c) (hb : Bytes l) (hs : s.size ≤ 140737488351232) (hl : l.length ≤ 140737488351232) :
    Calls Try.prog 5 #[.slice A l.length c, .string s] w fun e w' => e = .returned (.bool true) ∧ Below w.heap.size w w' := by
  have hm := Kd.C_max hr
  by_cases hbig : 2000 < l.length + s.size
  · have h1 : (2000 : Int) < (l.length : Int) + (s.size : Int) := by omega
    clear hr
    go_enter Try.func5, Try.ntmps5
    go_wp2
    go_ret
    exact ⟨rfl, Below.refl _ _⟩
  · have h1 : ¬ (2000 : Int) < (l.length : Int) + (s.size : Int) := by omega
    have D := fun W => dec_calls s (by omega) W
    have D2 := fun W => rdec_calls s (by omega) W
    rw [ref_dec _ (bytes_bytesOf s)] at D2
    have E := fun W (h : Below w.heap.size w W) => enc_calls A c l W (Kd.C_below hr h) hc hb (by omega)
    have E2 := fun W (h : Below w.heap.size w W) => renc_calls A c l W (Kd.C_below hr h) hc hb (by omega)
    generalize strOfNums (encL l) = S at E E2
    generalize (decL (bytesOf s)).getD [] = X at D D2
    generalize (decL (bytesOf s)).isSome = ok at D D2
    clear hr
    go_enter Try.func5, Try.ntmps5
    go_wp2_with fail
    refine (D _).mono ?_
    rintro e w2 ⟨v, rfl, r1, b2⟩
    have HV := Aside0.mk r1
    clear r1
    go_wp2_with fail
    refine (D2 _).mono ?_
    rintro e w3 ⟨v2, rfl, r2, b3⟩
    have B3 := b2.trans (b3.mono b2.size)
    have HV1 := Aside0.mk (Kd.R_below HV.out b3)
    have HV2 := Aside0.mk r2
    clear r2 HV b2 b3
    go_wp2_with fail
    refine (E _ B3).mono ?_
    rintro e w4 ⟨rfl, b4⟩
    have B4 := B3.trans (b4.mono B3.size)
    have HV3 := Aside0.mk (Kd.R_below HV1.out b4)
    have HV4 := Aside0.mk (Kd.R_below HV2.out b4)
    clear HV1 HV2 b4
    go_wp2_with fail
    refine (E2 _ B4).mono ?_
    rintro e w5 ⟨rfl, b5⟩
    have B5 := B4.trans (b5.mono B4.size)
    have c1 := conv_own (Kd.R_below HV3.out b5)
    have c2 := conv_own (Kd.R_below HV4.out b5)
    clear HV3 HV4 b5
    have cv31 : (convert 31 31 (.slice (some ⟨w5.heap.size, 0, none⟩) 2 2)).run Try.prog (w5.alloc (.cells #[.int .u8 77, .int .u8 97] 5)) = .ok (.slice (some ⟨w5.heap.size, 0, none⟩) 2 2) (w5.alloc (.cells #[.int .u8 77, .int .u8 97] 5 (2, 3))) := Lib.run_convert_bytes_const w5 31 5 #[.int .u8 77, .int .u8 97] 2 2 Try.underlying31 Try.underlying5
    go_wp2_with fail
    refine (ma_calls w5).mono ?_
    rintro e w6 ⟨rfl, b6⟩
    go_wp2
    go_ret
    exact ⟨rfl, B5.trans (b6.mono B5.size)⟩
end Go.Proofs.Ytfefpbnhpncmlaa.BaseTellsW
