import Derived.Test.YtfefpbnhpncmlaaSpRunsB
namespace Go.Proofs.Ytfefpbnhpncmlaa.SpRuns
open Go.RowKit Go.Proofs.Ytfefpbnhpncmlaa.PSpaceRuns Go.Proofs.YtfefpbnhpncmlaaW.PrintWords Go.Proofs.YtfefpbnhpncmlaaW.PrintLast Go.Proofs.YtfefpbnhpncmlaaW.PrintMore
set_option linter.unusedVariables false

theorem C_take {α : Type} {d : Kd α} {w : World} {A : Option Addr} {n m : Nat} {xs : List α} (h : Kd.C d w A n xs) (hm : m ≤ n) : Kd.C d w A m (xs.take m) := by
  obtain ⟨h1, h2, h3⟩ := h
  refine ⟨by simp; omega, by omega, fun h0 => ?_⟩
  obtain ⟨ad, e, h4⟩ := h3 (by omega)
  refine ⟨ad, e, fun j p hj => h4 j p ?_⟩
  rw [List.getElem?_take] at hj
  split at hj
  · exact hj
  · cases hj

theorem info28 : (Try.prog.info? 28).map (fun i => (i.zero, i.size, i.bytes)) = some (some (.agg #[.int .i64 0, .int .i64 0]), 2, 16) := by kernel_rfl

/-- The law's own two spans: two runs. -/
theorem lit_calls (w : World) : Calls Try.prog 19 #[.slice (some ⟨w.heap.size, 0, none⟩) 2 2, .int .i64 16] (w.alloc (.cells #[.int .i64 0, .int .i64 40, .int .i64 50, .int .i64 60] 28)) fun e w' => e = .returned (.int .i64 2) ∧ Below w.heap.size w w' := by
  have hr : Kd.C k28 (w.alloc (.cells #[.int .i64 0, .int .i64 40, .int .i64 50, .int .i64 60] 28)) (some ⟨w.heap.size, 0, none⟩) 2 [⟨0, 40⟩, ⟨50, 60⟩] := by
    refine ⟨rfl, by decide, fun _ => ⟨_, rfl, fun j p hj => ?_⟩⟩
    match j with
    | 0 =>
      obtain rfl : (⟨0, 40⟩ : S28) = p := by simpa using hj
      refine ⟨_, rfl, k28_mk _ _, fun i u hu => ?_⟩
      match i with
      | 0 => simpa [Addr.add] using hu
      | 1 => simpa [Addr.add] using hu
      | i + 2 => simp at hu
    | 1 =>
      obtain rfl : (⟨50, 60⟩ : S28) = p := by simpa using hj
      refine ⟨_, rfl, k28_mk _ _, fun i u hu => ?_⟩
      match i with
      | 0 => simpa [Addr.add, show k28.sz = 2 from rfl] using hu
      | 1 => simpa [Addr.add, show k28.sz = 2 from rfl] using hu
      | i + 2 => simp at hu
    | j + 2 => simp at hj
  refine (Runs_calls _ 2 [⟨0, 40⟩, ⟨50, 60⟩] 16 _ hr (by decide) (by decide)).mono ?_
  rintro e w' ⟨rfl, hb⟩
  refine ⟨?_, (below_alloc (Below.refl _ _) _).trans (hb.mono (by simp))⟩
  have : runs [⟨0, 40⟩, ⟨50, 60⟩] 16 = 2 := by decide +kernel
  rw [this]

set_option maxRecDepth 100000 in
theorem law (A : Option Addr) (c : Nat) (l : List S28) (size : Int) (w : World) (hr : Kd.C k28 w A l.length l) (hc : l.length ≤ c) :
    Calls Try.prog 4 #[.slice A l.length c, .int .i64 size] w fun e w' => e = .returned (.bool true) ∧ Below w.heap.size w w' := by
  have HR := Aside0.mk hr
  have HM := Kd.C_max hr
  clear hr
  obtain ⟨i0, hi0, _, _, _⟩ := info_parts info28
  have hk : 500 < l.length → ∀ W : World, (Instr.slice 25 (.slice A l.length c) none (some (.int .i64 500)) none).run Try.prog W = .ok (.slice A 500 c) W := fun h => cut_to (P := Try.prog) 25 28 .i64 Try.underlying25 hi0 A l.length c 500 (by omega) (by omega) hc
  clear hi0
  obtain ⟨l', hl'⟩ : ∃ l', l' = if 500 < l.length then l.take 500 else l := ⟨_, rfl⟩
  have HL := Aside0.mk hl'
  clear hl'
  have hlen : l'.length ≤ 500 := by rw [HL.out]; split; (· simp only [List.length_take]; omega); (· omega)
  have hlc : l'.length ≤ c := by rw [HL.out]; split; (· simp only [List.length_take]; omega); (· omega)
  have HR' : Aside0 (Kd.C k28 w A l'.length l') := by
    constructor
    rw [HL.out]
    split
    · rename_i h
      have := C_take HR.out (m := 500) (by omega)
      rwa [show (l.take 500).length = 500 from by simp; omega]
    · exact HR.out
  have V := fun W (hb : Below w.heap.size w W) => valid_calls A c l' W (Kd.C_below HR'.out hb) hlc hlen
  have RR := fun W sz (hb : Below w.heap.size w W) => Runs_calls A c l' sz W (Kd.C_below HR'.out hb) hlc hlen
  go_enter Try.func4, Try.ntmps4
  go_upto_if 9 with (fail)
  go_cut [0] (fun v0 wc => v0 = .slice A l'.length c ∧ wc = w)
  case first =>
    by_cases h : 500 < l.length
    · have hk' := hk h
      clear hk
      go_wp2
      go_meet
      case rel => exact ⟨by rw [HL.out, if_pos h]; simp; omega, rfl⟩
    · clear hk
      go_wp2
      go_meet
      case rel => exact ⟨by rw [HL.out, if_neg h], rfl⟩
  case rest =>
    clear hk
    obtain ⟨rfl, rfl⟩ := hcut
    clear HM HL HR
    by_cases act : 1 ≤ size ∧ okL l' = true
    · obtain ⟨a1, a2⟩ := act
      have A2 := Aside0.mk a2
      rw [a2] at V
      clear a2
      have hsb : decide (1 ≤ size) = true := by simpa using a1
      go_wp2
      go_loopw [5, 6] (fun v5 v6 w' => ∃ (n : Int) (k : Nat), k ≤ l'.length ∧ v5 = .int .i64 n ∧ v6 = .int .i64 k ∧ Aside0 (runsL size (l'.drop k) n = runsL size l' 0) ∧ Aside0 (Below wc.heap.size wc w')) (fun _ v _ => l'.length - (intOf v).toNat)
      case atStart => exact ⟨0, 0, Nat.zero_le _, rfl, rfl, ⟨rfl⟩, ⟨Below.refl _ _⟩⟩
      case round =>
        obtain ⟨n, k, hk, rfl, rfl, hf, hb⟩ := hrel
        by_cases hlt : k < l'.length
        · obtain ⟨ad, e, x0, x1⟩ := at_T28 HR'.out (k : Int) (by omega) (by omega)
          cases e
          simp only [Int.toNat_natCast] at x0 x1
          have hd : l'.drop k = rd_T28 l' k :: l'.drop (k + 1) := by
            rw [List.drop_eq_getElem_cons hlt]
            simp [rd_T28, List.getD, hlt]
          have HD := Aside0.mk hd
          clear hd
          go_wp2_with (go_at_call 18; refine (V _ hb.out).mono ?_; rintro e w' ⟨rfl, hb2⟩)
          have hb3 := hb.out.trans (hb2.mono hb.out.size)
          replace x0 := (hb3.cell (World.block_lt_of_cell? wc _ x0)).trans x0
          replace x1 := (hb3.cell (World.block_lt_of_cell? wc _ x1)).trans x1
          have hne : (size == 0) = false := by simpa using (by omega : size ≠ 0)
          have k0 : (0 : Int) ≤ (k : Int) := by omega
          have k1 : (k : Int) < (l'.length : Int) := by omega
          go_quiet (fail)
          go_wp2
          go_roundw
          case rel => exact ⟨_, k + 1, by omega, rfl, by go_num, ⟨by rw [← hf.out, HD.out]; rfl⟩, ⟨by exact pw_below_drewN hb3 _⟩⟩
          case measure => simp [intOf]; omega
        · obtain rfl : k = l'.length := by omega
          have hn : runs l' size = n := by
            unfold runs
            rw [if_pos ⟨a1, A2.out⟩, ← hf.out]
            simp [runsL]
          have R1 := RR wr size hb.out
          rw [hn] at R1
          clear hf hn
          go_wp2_with fail
          refine R1.mono ?_
          rintro e w2 ⟨rfl, hb2⟩
          go_wp2_with fail
          refine (lit_calls w2).mono ?_
          rintro e w3 ⟨rfl, hb3⟩
          go_wp2
          go_ret
          exact ⟨rfl, (hb.out.trans (hb2.mono hb.out.size)).trans (hb3.mono (Nat.le_trans hb.out.size hb2.size))⟩
    · have hn : runs l' size = 0 := by
        unfold runs
        rw [if_neg act]
      have hstop : ∀ k : Nat, k = 0 → k < l'.length → decide (1 ≤ size) = false ∨ (decide (1 ≤ size) = true ∧ okL l' = false) := by
        intro k _ _
        by_cases h1 : 1 ≤ size
        · right
          exact ⟨by simpa using h1, by simpa [h1] using act⟩
        · left
          simpa using h1
      have R1 := fun W hb => RR W size hb
      rw [hn] at R1
      clear hn act
      go_wp2
      go_loopw [5, 6] (fun v5 v6 w' => v5 = .int .i64 0 ∧ v6 = .int .i64 0 ∧ Aside0 (Below wc.heap.size wc w')) (fun _ v _ => l'.length - (intOf v).toNat)
      case atStart => exact ⟨rfl, rfl, ⟨Below.refl _ _⟩⟩
      case round =>
        obtain ⟨rfl, rfl, hb⟩ := hrel
        have hend : ∀ W : World, Below wc.heap.size wc W → Below wc.heap.size wc W := fun _ h => h
        by_cases hlt : 0 < l'.length
        · rcases hstop 0 rfl hlt with h1 | ⟨h1, h2⟩
          · clear hstop
            go_wp2_with fail
            refine (R1 _ hb.out).mono ?_
            rintro e w2 ⟨rfl, hb2⟩
            go_wp2_with fail
            refine (lit_calls w2).mono ?_
            rintro e w3 ⟨rfl, hb3⟩
            go_wp2
            go_ret
            exact ⟨rfl, (hb.out.trans (hb2.mono hb.out.size)).trans (hb3.mono (Nat.le_trans hb.out.size hb2.size))⟩
          · clear hstop
            have V1 := V wr hb.out
            rw [h2] at V1
            clear h2
            go_wp2_with fail
            refine V1.mono ?_
            rintro e w1 ⟨rfl, hb1⟩
            have hB1 := hb.out.trans (hb1.mono hb.out.size)
            go_wp2_with fail
            refine (R1 _ hB1).mono ?_
            rintro e w2 ⟨rfl, hb2⟩
            go_wp2_with fail
            refine (lit_calls w2).mono ?_
            rintro e w3 ⟨rfl, hb3⟩
            go_wp2
            go_ret
            exact ⟨rfl, (hB1.trans (hb2.mono hB1.size)).trans (hb3.mono (Nat.le_trans hB1.size hb2.size))⟩
        · clear hstop
          go_wp2_with fail
          refine (R1 _ hb.out).mono ?_
          rintro e w2 ⟨rfl, hb2⟩
          go_wp2_with fail
          refine (lit_calls w2).mono ?_
          rintro e w3 ⟨rfl, hb3⟩
          go_wp2
          go_ret
          exact ⟨rfl, (hb.out.trans (hb2.mono hb.out.size)).trans (hb3.mono (Nat.le_trans hb.out.size hb2.size))⟩
end Go.Proofs.Ytfefpbnhpncmlaa.SpRuns
