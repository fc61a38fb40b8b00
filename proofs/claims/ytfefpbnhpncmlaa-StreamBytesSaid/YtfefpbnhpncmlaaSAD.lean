/- Own texts, one behind the other, each with what the claim uses of it: StmW Opens CatZ EntH EntI EntJ EntZ StmZ. -/
import Derived.Test.YtfefpbnhpncmlaaChecked
import GoSem.Claim
import GoSem.ClaimJoined
import GoSem.ClaimMapViews
import Derived.JoinedTies
import Derived.KernelRfl
import Derived.Test.YtfefpbnhpncmlaaProg
import Derived.Below
import Derived.Deep.Draws
import Derived.Deep.AppendLies
import Derived.Maps.AppendAt
import Derived.OwnWalk
import Derived.Laws.BytesArg
import Derived.Laws.MakeOwn
import Derived.Laws.OwnMore
import Derived.Deep.OwnRows
import Derived.Tactics
import Derived.Lib.ConvBytes
import Derived.Laws.Slices
import Derived.WalkKit
import Derived.RowKit3
import Derived.Deep.LoopGhost
import Derived.Deep.QuietTactic
import Derived.BigQuiet
import Derived.WideLaws
import Derived.Deep.DeepCutAuto
import Derived.Deep.CutBlock
import Derived.Deep.RegionHeld3
import Derived.Laws.Rows
import Derived.Lib.AppendStr
import Derived.ArgAppend
import Derived.Laws.IdiomCopy
import Derived.OrdersHeld
import Derived.Laws.BitsLemmas
import Derived.RowKit
import Derived.Laws.StructEq
import Derived.Deep.Slices
import Derived.Shelf.Strconv.Itoa0
import Derived.Outline
import Derived.Lib.EndianBits
import Derived.Deep.WholeRow
import Derived.WalkSpells
import Derived.WalkSmall
import Derived.Laws.Tables
import Derived.Deep.MidRow
import Derived.Laws.CopyOwn
import Derived.Laws.Cover3
import Derived.LoopN
import Derived.Lib.SlBytesConst
import Derived.Lib.SmallJoins
import Derived.OpenShut
import Derived.SizedLaws
import Derived.ChangeSlices
import Derived.ProofKit
import Derived.ShutString
import Derived.ChangeOld
import Derived.Test.YtfefpbnhpncmlaaWSized
import Derived.Test.YtfefpbnhpncmlaaWWords
import Derived.Test.YtfefpbnhpncmlaaSAA
import Derived.Test.YtfefpbnhpncmlaaSAB
import Derived.Test.YtfefpbnhpncmlaaSAC
namespace Go.Proofs.Ytfefpbnhpncmlaa.StmW
open Go.RowKit Go.Proofs.Ytfefpbnhpncmlaa.EntL Go.Proofs.Ytfefpbnhpncmlaa.EntB Go.Proofs.Ytfefpbnhpncmlaa.EntC Go.Proofs.Ytfefpbnhpncmlaa.EntD Go.Proofs.Ytfefpbnhpncmlaa.EntE Go.Proofs.Ytfefpbnhpncmlaa.EntF Go.Proofs.Ytfefpbnhpncmlaa.CatR Go.Proofs.Ytfefpbnhpncmlaa.CatT Go.Proofs.Ytfefpbnhpncmlaa.CatU Go.Proofs.Ytfefpbnhpncmlaa.CatK Go.Proofs.Ytfefpbnhpncmlaa.CatS Go.Proofs.Ytfefpbnhpncmlaa.CatY Go.Proofs.Ytfefpbnhpncmlaa.RefG Go.Proofs.Ytfefpbnhpncmlaa.PtrB Go.Proofs.Ytfefpbnhpncmlaa.PtrG Go.Proofs.Ytfefpbnhpncmlaa.Agg Go.Proofs.Ytfefpbnhpncmlaa.B8 Go.Proofs.Ytfefpbnhpncmlaa.CodL Go.Proofs.Ytfefpbnhpncmlaa.CodA Go.Proofs.Ytfefpbnhpncmlaa.CodB Go.Proofs.Ytfefpbnhpncmlaa.CatL Go.Proofs.Ytfefpbnhpncmlaa.PtrA Go.Proofs.Ytfefpbnhpncmlaa.PtrE Go.Proofs.Ytfefpbnhpncmlaa.PtrF Go.Proofs.Ytfefpbnhpncmlaa.PBaseSigns Go.Proofs.YtfefpbnhpncmlaaW.PrintWords Go.Proofs.YtfefpbnhpncmlaaW.PrintLast Go.Proofs.YtfefpbnhpncmlaaW.PrintMore Go.Proofs.Ytfefpbnhpncmlaa.EntG Go.Proofs.Ytfefpbnhpncmlaa.StmA Go.Proofs.Ytfefpbnhpncmlaa.StmB Go.Proofs.Ytfefpbnhpncmlaa.StmC Go.Proofs.Ytfefpbnhpncmlaa.CrcC Go.Proofs.Ytfefpbnhpncmlaa.StmD Go.Proofs.Ytfefpbnhpncmlaa.StmE Go.Proofs.Ytfefpbnhpncmlaa.CrcL Go.Proofs.Ytfefpbnhpncmlaa.StmL Go.Proofs.Ytfefpbnhpncmlaa.StmF Go.Proofs.Ytfefpbnhpncmlaa.StmG Go.Proofs.Ytfefpbnhpncmlaa.StmH Go.Proofs.Ytfefpbnhpncmlaa.StmI Go.Proofs.Ytfefpbnhpncmlaa.StmJ Go.Proofs.Ytfefpbnhpncmlaa.StmK Go.Proofs.Ytfefpbnhpncmlaa.StmM Go.Proofs.Ytfefpbnhpncmlaa.StmN Go.Proofs.Ytfefpbnhpncmlaa.StmO Go.Proofs.Ytfefpbnhpncmlaa.StmP Go.Proofs.Ytfefpbnhpncmlaa.StmR Go.Proofs.Ytfefpbnhpncmlaa.CrcM Go.Proofs.Ytfefpbnhpncmlaa.StmS Go.Proofs.Ytfefpbnhpncmlaa.StmT Go.Proofs.Ytfefpbnhpncmlaa.StmQ Go.Proofs.Ytfefpbnhpncmlaa.StmV Go.Proofs.Ytfefpbnhpncmlaa.StmU Go.Proofs.Ytfefpbnhpncmlaa.StmX
set_option linter.unusedVariables false
set_option linter.unusedSimpArgs false

set_option maxRecDepth 100000 in
set_option maxHeartbeats 8000000 in
theorem law (x : Stm) (A : Option Addr) (c n : Nat) (xs : List Sl) (B : Option Addr) (cb nb : Nat) (L : List Int) (w : World) (h : CR w A n xs x.l) (hnb : nb = L.length) (hr : C8 w B nb L) (hb : Byt L) (hc : nb ≤ cb) :
    Calls Try.prog 11 #[.agg #[.string x.base, .string x.snap, .slice A n c], .slice B nb cb] w fun r w' => r = .returned (.bool true) ∧ Below w.heap.size w w' := by
  obtain ⟨base, snap, l⟩ := x
  have HLEN := Aside0.mk h.len
  have H := Aside0.mk h
  have HC0 := Aside0.mk (And.intro hr (And.intro hb (And.intro hc hnb)))
  have B0 := Aside0.mk (below_alloc (Below.refl w.heap.size w) (.cells #[.string base, .string snap, .slice A n c] 79))
  have G0 := Aside0.mk (blk_new w (.cells #[.string base, .string snap, .slice A n c] 79))
  obtain ⟨P, hP⟩ : ∃ P : Ending → World → Prop, P = (fun r w' => r = .returned (.bool true) ∧ Below w.heap.size w w') := ⟨_, rfl⟩
  rw [← hP]
  have HP := Aside0.mk hP
  clear hr hb hP h hnb
  go_enter Try.func11, Try.ntmps11
  go_wp2_with (refine wpList_load_row rfl 79 (.tmp 2) rfl w.heap.size rfl 79 #[.string base, .string snap, .slice A n c] (0, 0) _ G0.out StmP.u79 rfl (i79 _ _ _) ?_)
  generalize hW0 : w.alloc (.cells #[.string base, .string snap, .slice A n c] 79) = W0 at *
  clear hW0
  refine (few_calls ⟨base, snap, l⟩ A c n xs W0 (H.out.below B0.out)).mono ?_
  rintro e w1 ⟨qf, rfl, hqf, hb1⟩
  have G1 := Aside0.mk (blk_below G0.out hb1)
  have B1 := Aside0.mk (below_then B0.out B0.out.size hb1)
  clear hb1 G0 B0
  cases qf with
  | false =>
    go_wp2
    rw [HP.out]
    exact ⟨rfl, B1.out⟩
  | true =>
    have hw9 : wtL l ≤ 9000 := hqf rfl
    have hn9 : n ≤ 4500 := by have := wtL_len l; have hl : l.length = n := HLEN.out; omega
    clear hqf
    by_cases h9 : 9000 < nb
    · have d9 : decide ((9000 : Int) < (nb : Int)) = true := decide_eq_true (by omega)
      go_wp2
      rw [HP.out]
      exact ⟨rfl, B1.out⟩
    · have d9 : decide ((9000 : Int) < (nb : Int)) = false := decide_eq_false (by omega)
      obtain ⟨X, hX⟩ : ∃ X : Stm, X = ⟨base, snap, l⟩ := ⟨_, rfl⟩
      go_wp2_with (refine wpList_load_row rfl 79 (.tmp 2) rfl w.heap.size rfl 79 #[.string base, .string snap, .slice A n c] (0, 0) _ G1.out StmP.u79 rfl (i79 _ _ _) ?_)
      refine (put_calls ⟨base, snap, l⟩ A c n xs w1 (H.out.below B1.out) (by omega) (fun _ => by show wtL l ≤ 10000; omega)).mono ?_
      rintro e w2 ⟨v5, rfl, hr2, hb2⟩
      have G2 := Aside0.mk (blk_below G1.out hb2)
      have B2 := Aside0.mk (below_then B1.out B1.out.size hb2)
      rw [← hX] at hr2 ⊢
      obtain ⟨A5, c5, rfl, hle5, hC5⟩ := Kd.R_reads hr2
      have M2 := Aside0.mk hC5
      have HXX := Aside0.mk hX
      clear hr2 hb2 hle5 hC5 G1 B1 hX
      obtain ⟨lo, hlo⟩ : ∃ lo, lo = (outS X).length := ⟨_, rfl⟩
      have HLO := Aside0.mk hlo
      rw [← hlo] at M2 ⊢
      obtain ⟨qc, hqc⟩ : ∃ qc, qc = codeS X := ⟨_, rfl⟩
      have HQC := Aside0.mk hqc
      rw [← hqc]
      clear hlo hqc
      obtain ⟨S5, hS5⟩ : ∃ S5, S5 = strOfNums (outS X) := ⟨_, rfl⟩
      have HS5 := Aside0.mk hS5
      clear hS5
      go_wp2
      have G2d := Aside0.mk (blk_below G2.out (below_drew (Below.refl w2.heap.size w2)))
      have B2d := Aside0.mk (below_then B2.out B2.out.size (below_drew (Below.refl w2.heap.size w2)))
      have M2d := Aside0.mk (Kd.C_below M2.out (below_drew (Below.refl w2.heap.size w2)))
      clear G2 B2 M2
      refine wp_region_held_drew (S := fun w' => Below w.heap.size w w' ∧ w'.heap[w.heap.size]? = some (.cells #[.string base, .string snap, .slice A n c] 79 (0, 0))) (by kernel_rfl) ⟨B2d.out, G2d.out⟩ (fun hW => ?_)
      generalize w2.drew = w3 at *
      refine wpAnyH_take (i := 0) (oi := ⟨some 29, _, _, _, _, _⟩) (v := .pointer (some ⟨w.heap.size, 0, none⟩)) rfl (by kernel_rfl) (by kernel_rfl) (by kernel_rfl) (fun _ _ _ h => h) (.inl ⟨by rfl, fun W1 h1 => by go_simp⟩) hW ?_
      try simp only [Act.put, List.setIfInBounds_toArray, List.set_cons_zero, List.set_cons_succ]
      refine wpAnyH_take (i := 1) (oi := ⟨some 30, _, _, _, _, _⟩) (v := .string base) rfl (by kernel_rfl) (by kernel_rfl) (by kernel_rfl) (fun _ _ _ h => h) (.inl ⟨by rfl, fun W1 h1 => by (have x1 : W1.cell? ⟨w.heap.size, 0, none⟩ = some (.string base) := (by rw [cell_of_row _ _ 0 _ 79 (0, 0) h1.2]; rfl)); go_simp⟩) hW ?_
      try simp only [Act.put, List.setIfInBounds_toArray, List.set_cons_zero, List.set_cons_succ]
      refine wpAnyH_take (i := 2) (oi := ⟨some 31, _, _, _, _, _⟩) (v := .pointer (some ⟨w.heap.size, 1, none⟩)) rfl (by kernel_rfl) (by kernel_rfl) (by kernel_rfl) (fun _ _ _ h => h) (.inl ⟨by rfl, fun W1 h1 => by go_simp⟩) hW ?_
      try simp only [Act.put, List.setIfInBounds_toArray, List.set_cons_zero, List.set_cons_succ]
      refine wpAnyH_take (i := 3) (oi := ⟨some 32, _, _, _, _, _⟩) (v := .string snap) rfl (by kernel_rfl) (by kernel_rfl) (by kernel_rfl) (fun _ _ _ h => h) (.inl ⟨by rfl, fun W1 h1 => by (have x1 : W1.cell? ⟨w.heap.size, 1, none⟩ = some (.string snap) := (by rw [cell_of_row _ _ 1 _ 79 (0, 0) h1.2]; rfl)); go_simp⟩) hW ?_
      try simp only [Act.put, List.setIfInBounds_toArray, List.set_cons_zero, List.set_cons_succ]
      refine wpAnyH_take (i := 4) (oi := ⟨some 33, _, _, _, _, _⟩) (v := .pointer (some ⟨w.heap.size, 2, none⟩)) rfl (by kernel_rfl) (by kernel_rfl) (by kernel_rfl) (fun _ _ _ h => h) (.inl ⟨by rfl, fun W1 h1 => by go_simp⟩) hW ?_
      try simp only [Act.put, List.setIfInBounds_toArray, List.set_cons_zero, List.set_cons_succ]
      refine wpAnyH_take (i := 5) (oi := ⟨some 34, _, _, _, _, _⟩) (v := .slice A n c) rfl (by kernel_rfl) (by kernel_rfl) (by kernel_rfl) (fun _ _ _ h => h) (.inl ⟨by rfl, fun W1 h1 => by (have x1 : W1.cell? ⟨w.heap.size, 2, none⟩ = some (.slice A n c) := (by rw [cell_of_row _ _ 2 _ 79 (0, 0) h1.2]; rfl)); go_simp⟩) hW ?_
      try simp only [Act.put, List.setIfInBounds_toArray, List.set_cons_zero, List.set_cons_succ]
      refine wpAnyH_ready (rs := [6]) (by kernel_rfl) (by simp) (AllReadyH.cons rfl (fun K1 hK1 => ?_) AllReadyH.nil)
      go_simp
      refine (own_calls A c n xs l w3 (H.out.below B2d.out) (by omega)).mono ?_
      rintro e w4 ⟨v35, rfl, hr4, hb4⟩
      have G4 := Aside0.mk (blk_below G2d.out hb4)
      have B4 := Aside0.mk (below_then B2d.out B2d.out.size hb4)
      have M4 := Aside0.mk (Kd.C_below M2d.out hb4)
      have hll : l.length = n := HLEN.out
      obtain ⟨A35, c35, hv35, hle35, hC35⟩ := Kd.R_reads hr4
      rw [hll] at hv35 hC35
      subst hv35
      have HC35 := Aside0.mk hC35
      clear hr4 hb4 hle35 hC35 G2d B2d M2d hll
      refine hK1.out _ _ ⟨B4.out, G4.out⟩ (fun hW => ?_)
      try simp only [Act.put, List.setIfInBounds_toArray, List.set_cons_zero, List.set_cons_succ]
      refine wpAnyH_take (i := 7) (oi := ⟨some 36, _, _, _, _, _⟩) (v := .agg #[.string base, .string snap, .slice A35 n c35]) rfl (by kernel_rfl) (by kernel_rfl) (by kernel_rfl) (fun _ _ _ h => h) (.inl ⟨by rfl, fun W1 h1 => by go_simp⟩) hW ?_
      try simp only [Act.put, List.setIfInBounds_toArray, List.set_cons_zero, List.set_cons_succ]
      refine wpAnyH_ready (rs := [8]) (by kernel_rfl) (by simp) (AllReadyH.cons rfl (fun K2 hK2 => ?_) AllReadyH.nil)
      go_simp
      refine (rput_calls ⟨base, snap, l⟩ A35 c35 n w4 HC35.out (by omega) (fun _ => by show wtL l ≤ 10000; omega)).mono ?_
      rintro e w5 ⟨v37, rfl, hr5, hb5⟩
      have B5 := Aside0.mk (below_then B4.out B4.out.size hb5)
      have G5 := Aside0.mk (blk_below G4.out hb5)
      have M5 := Aside0.mk (Kd.C_below M4.out hb5)
      rw [← HXX.out] at hr5 ⊢
      obtain ⟨A7, c7, rfl, hle7, hC7⟩ := Kd.R_reads hr5
      rw [← HLO.out] at hC7 ⊢
      rw [← HQC.out]
      have N5 := Aside0.mk hC7
      clear hr5 hb5 hle7 hC7 B4 G4 M4 HC35
      refine hK2.out _ _ ⟨B5.out, G5.out⟩ (fun hW => ?_)
      try simp only [Act.put, List.setIfInBounds_toArray, List.set_cons_zero, List.set_cons_succ]
      refine wpAnyH_take (i := 9) (oi := ⟨some 28, _, _, _, _, _⟩) (v := .tuple #[.slice A7 lo c7, .int .i64 qc]) rfl (by kernel_rfl) (by kernel_rfl) (by kernel_rfl) (fun _ _ _ h => h) (.inl ⟨by rfl, fun W1 h1 => by go_simp⟩) hW ?_
      try simp only [Act.put, List.setIfInBounds_toArray, List.set_cons_zero, List.set_cons_succ]
      refine wpAnyH_take (i := 10) (oi := ⟨some 38, _, _, _, _, _⟩) (v := .slice A7 lo c7) rfl (by kernel_rfl) (by kernel_rfl) (by kernel_rfl) (fun _ _ _ h => h) (.inl ⟨by rfl, fun W1 h1 => by go_simp⟩) hW ?_
      try simp only [Act.put, List.setIfInBounds_toArray, List.set_cons_zero, List.set_cons_succ]
      refine wpAnyH_take (i := 11) (oi := ⟨some 39, _, _, _, _, _⟩) (v := .int .i64 qc) rfl (by kernel_rfl) (by kernel_rfl) (by kernel_rfl) (fun _ _ _ h => h) (.inl ⟨by rfl, fun W1 h1 => by go_simp⟩) hW ?_
      try simp only [Act.put, List.setIfInBounds_toArray, List.set_cons_zero, List.set_cons_succ]
      refine wpAnyH_take (i := 12) (oi := ⟨some 7, _, _, _, _, _⟩) (v := .slice A7 lo c7) rfl (by kernel_rfl) (by kernel_rfl) (by kernel_rfl) (fun _ _ _ h => h) (.inl ⟨by rfl, fun W1 h1 => by go_simp⟩) hW ?_
      try simp only [Act.put, List.setIfInBounds_toArray, List.set_cons_zero, List.set_cons_succ]
      refine wpAnyH_take (i := 13) (oi := ⟨some 8, _, _, _, _, _⟩) (v := .int .i64 qc) rfl (by kernel_rfl) (by kernel_rfl) (by kernel_rfl) (fun _ _ _ h => h) (.inl ⟨by rfl, fun W1 h1 => by go_simp⟩) hW ?_
      try simp only [Act.put, List.setIfInBounds_toArray, List.set_cons_zero, List.set_cons_succ]
      refine wpAnyH_done (by kernel_rfl) ?_ _
      clear hW hK1 hK2 K1 K2
      go_wp2_with fail
      refine (readS_calls B cb nb L HC0.out.2.2.2 w5 (Kd.C_below HC0.out.1 B5.out) HC0.out.2.1 HC0.out.2.2.1 (by omega)).mono ?_
      intro e w6 ht
      obtain ⟨hb6, yb, ys, cs, code, vy, hres, rfl, hcell⟩ := norm_S ht
      obtain ⟨Ay, cy, sly, rfl, hcr⟩ := hcell
      have HRES := Aside0.mk hres
      have B6 := Aside0.mk (below_then B5.out B5.out.size hb6)
      have bal := below_alloc (Below.refl w6.heap.size w6) (.cells #[.string yb, .string ys, .slice Ay cs.length cy] 79)
      have B6b := Aside0.mk (below_then B6.out B6.out.size bal)
      have M6 := Aside0.mk (And.intro (Kd.C_below (Kd.C_below M5.out hb6) bal) (Kd.C_below (Kd.C_below N5.out hb6) bal))
      have GY := Aside0.mk (blk_new w6 (.cells #[.string yb, .string ys, .slice Ay cs.length cy] 79))
      have CY := Aside0.mk (hcr.below bal)
      clear ht hb6 hres hcr bal B6 B5 G5 M5 N5
      go_wp2_with fail
      generalize hW6 : (w6.alloc (.cells #[.string yb, .string ys, .slice Ay cs.length cy] 79)) = W6 at *
      generalize hgy : w6.heap.size = gy at *
      clear hW6 hgy
      refine (rreadS_calls B cb nb L HC0.out.2.2.2 W6 (Kd.C_below HC0.out.1 B6b.out) HC0.out.2.1 HC0.out.2.2.1 (by omega)).mono ?_
      intro e w7 ht
      obtain ⟨hb7, yb', ys', cs', code', vz, hres, rfl, hcell⟩ := norm_F ht
      obtain ⟨rfl, rfl, rfl, rfl⟩ := res_unique HRES.out hres
      obtain ⟨Az, cz, rfl, hlez, hCz⟩ := Kd.R_reads hcell
      have B7 := Aside0.mk (below_then B6b.out B6b.out.size hb7)
      have bal := below_alloc (Below.refl w7.heap.size w7) (.cells #[.string yb, .string ys, .slice Az cs.length cz] 86)
      have B7b := Aside0.mk (below_then B7.out B7.out.size bal)
      have M7 := Aside0.mk (And.intro (Kd.C_below (Kd.C_below M6.out.1 hb7) bal) (Kd.C_below (Kd.C_below M6.out.2 hb7) bal))
      have GY7 := Aside0.mk (blk_below (blk_below GY.out hb7) bal)
      have GZ := Aside0.mk (blk_new w7 (.cells #[.string yb, .string ys, .slice Az cs.length cz] 86))
      have CY7 := Aside0.mk ((CY.out.below hb7).below bal)
      have CZ := Aside0.mk (Kd.C_below hCz bal)
      clear ht hb7 hres hcell hlez hCz bal B7 B6b M6 GY CY
      go_wp2_with fail
      generalize hW7 : (w7.alloc (.cells #[.string yb, .string ys, .slice Az cs.length cz] 86)) = W7 at *
      generalize hgz : w7.heap.size = gz at *
      clear hW7 hgz
      refine (put_calls oneS none 0 0 [] W7 ⟨Kd.C_nil _ _, rfl, fun i hi => absurd hi (Nat.not_lt_zero _)⟩ (by omega) (fun _ => Nat.zero_le _)).mono ?_
      rintro e w8 ⟨v13, rfl, hr8, hb8⟩
      rw [one_out] at hr8
      rw [one_code]
      obtain ⟨A13, c13, rfl, hle13, hC13⟩ := Kd.R_reads hr8
      rw [one_len] at hC13 hle13 ⊢
      have B8 := Aside0.mk (below_then B7b.out B7b.out.size hb8)
      have M8 := Aside0.mk (And.intro (Kd.C_below M7.out.1 hb8) (Kd.C_below M7.out.2 hb8))
      have GY8 := Aside0.mk (blk_below GY7.out hb8)
      have GZ8 := Aside0.mk (blk_below GZ.out hb8)
      have CY8 := Aside0.mk (CY7.out.below hb8)
      have CZ8 := Aside0.mk (Kd.C_below CZ.out hb8)
      have C13 := Aside0.mk (show C8 w8 A13 8 [83, 66, 88, 83, 0, 1, 115, 0] by have := C_take hC13 (show 8 ≤ 12 by decide); rw [one_take] at this; exact this)
      have hcs := Aside0.mk (res_len HRES.out)
      clear hr8 hb8 hC13 B7b M7 GY7 GZ CY7 CZ
      go_wp2
      have cut13 : ∀ W, (Instr.slice 31 (.slice A13 12 c13) none (some (.int .i64 8)) none).run Try.prog W = .ok (.slice A13 8 c13) W := fun W => cut8_to A13 12 c13 8 (by omega) hle13 W
      clear hle13
      refine wp_region_held_drew (S := fun w' => Below w8.heap.size w8 w') (by kernel_rfl) (below_drew (Below.refl _ _)) (fun hW => ?_)
      refine wpAnyH_take (i := 0) (oi := ⟨some 55, _, _, _, _, _⟩) (v := .slice A5 lo c5) rfl (by kernel_rfl) (by kernel_rfl) (by kernel_rfl) (fun _ _ _ h => h) (.inl ⟨by rfl, fun W1 h1 => by go_simp⟩) hW ?_
      try simp only [Act.put, List.setIfInBounds_toArray, List.set_cons_zero, List.set_cons_succ]
      refine wpAnyH_take (i := 1) (oi := ⟨some 56, _, _, _, _, _⟩) (v := .string S5) rfl (by kernel_rfl) (by kernel_rfl) (by kernel_rfl) (fun _ _ _ h => h) (.inl ⟨by rfl, fun W1 h1 => by (have x1 := Kd.C_string (c := c5) (P := Try.prog) Try.underlying31 Try.underlying5 Try.underlying9 (Kd.C_below M8.out.1 h1)); rw [← HS5.out] at x1; go_simp⟩) hW ?_
      try simp only [Act.put, List.setIfInBounds_toArray, List.set_cons_zero, List.set_cons_succ]
      refine wpAnyH_take (i := 2) (oi := ⟨some 57, _, _, _, _, _⟩) (v := .slice A7 lo c7) rfl (by kernel_rfl) (by kernel_rfl) (by kernel_rfl) (fun _ _ _ h => h) (.inl ⟨by rfl, fun W1 h1 => by go_simp⟩) hW ?_
      try simp only [Act.put, List.setIfInBounds_toArray, List.set_cons_zero, List.set_cons_succ]
      refine wpAnyH_take (i := 3) (oi := ⟨some 58, _, _, _, _, _⟩) (v := .string S5) rfl (by kernel_rfl) (by kernel_rfl) (by kernel_rfl) (fun _ _ _ h => h) (.inl ⟨by rfl, fun W1 h1 => by (have x1 := Kd.C_string (c := c7) (P := Try.prog) Try.underlying31 Try.underlying5 Try.underlying9 (Kd.C_below M8.out.2 h1)); rw [← HS5.out] at x1; go_simp⟩) hW ?_
      try simp only [Act.put, List.setIfInBounds_toArray, List.set_cons_zero, List.set_cons_succ]
      refine wpAnyH_take (i := 4) (oi := ⟨some 59, _, _, _, _, _⟩) (v := .bool true) rfl (by kernel_rfl) (by kernel_rfl) (by kernel_rfl) (fun _ _ _ h => h) (.inl ⟨by rfl, fun W1 h1 => by go_simp⟩) hW ?_
      try simp only [Act.put, List.setIfInBounds_toArray, List.set_cons_zero, List.set_cons_succ]
      refine wpAnyH_take (i := 5) (oi := ⟨some 60, _, _, _, _, _⟩) (v := .bool true) rfl (by kernel_rfl) (by kernel_rfl) (by kernel_rfl) (fun _ _ _ h => h) (.inl ⟨by rfl, fun W1 h1 => by go_simp⟩) hW ?_
      try simp only [Act.put, List.setIfInBounds_toArray, List.set_cons_zero, List.set_cons_succ]
      refine wpAnyH_take (i := 6) (oi := ⟨some 61, _, _, _, _, _⟩) (v := .int .i64 qc) rfl (by kernel_rfl) (by kernel_rfl) (by kernel_rfl) (fun _ _ _ h => h) (.inl ⟨by rfl, fun W1 h1 => by go_simp⟩) hW ?_
      try simp only [Act.put, List.setIfInBounds_toArray, List.set_cons_zero, List.set_cons_succ]
      refine wpAnyH_take (i := 7) (oi := ⟨some 62, _, _, _, _, _⟩) (v := .int .i64 qc) rfl (by kernel_rfl) (by kernel_rfl) (by kernel_rfl) (fun _ _ _ h => h) (.inl ⟨by rfl, fun W1 h1 => by go_simp⟩) hW ?_
      try simp only [Act.put, List.setIfInBounds_toArray, List.set_cons_zero, List.set_cons_succ]
      refine wpAnyH_take (i := 8) (oi := ⟨some 63, _, _, _, _, _⟩) (v := .bool true) rfl (by kernel_rfl) (by kernel_rfl) (by kernel_rfl) (fun _ _ _ h => h) (.inl ⟨by rfl, fun W1 h1 => by go_simp⟩) hW ?_
      try simp only [Act.put, List.setIfInBounds_toArray, List.set_cons_zero, List.set_cons_succ]
      refine wpAnyH_take (i := 9) (oi := ⟨some 64, _, _, _, _, _⟩) (v := .bool true) rfl (by kernel_rfl) (by kernel_rfl) (by kernel_rfl) (fun _ _ _ h => h) (.inl ⟨by rfl, fun W1 h1 => by go_simp⟩) hW ?_
      try simp only [Act.put, List.setIfInBounds_toArray, List.set_cons_zero, List.set_cons_succ]
      refine wpAnyH_take (i := 10) (oi := ⟨some 65, _, _, _, _, _⟩) (v := .bool true) rfl (by kernel_rfl) (by kernel_rfl) (by kernel_rfl) (fun _ _ _ h => h) (.inl ⟨by rfl, fun W1 h1 => by go_simp⟩) hW ?_
      try simp only [Act.put, List.setIfInBounds_toArray, List.set_cons_zero, List.set_cons_succ]
      refine wpAnyH_take (i := 11) (oi := ⟨some 66, _, _, _, _, _⟩) (v := .int .i64 code) rfl (by kernel_rfl) (by kernel_rfl) (by kernel_rfl) (fun _ _ _ h => h) (.inl ⟨by rfl, fun W1 h1 => by go_simp⟩) hW ?_
      try simp only [Act.put, List.setIfInBounds_toArray, List.set_cons_zero, List.set_cons_succ]
      refine wpAnyH_take (i := 12) (oi := ⟨some 67, _, _, _, _, _⟩) (v := .int .i64 code) rfl (by kernel_rfl) (by kernel_rfl) (by kernel_rfl) (fun _ _ _ h => h) (.inl ⟨by rfl, fun W1 h1 => by go_simp⟩) hW ?_
      try simp only [Act.put, List.setIfInBounds_toArray, List.set_cons_zero, List.set_cons_succ]
      refine wpAnyH_take (i := 13) (oi := ⟨some 68, _, _, _, _, _⟩) (v := .bool true) rfl (by kernel_rfl) (by kernel_rfl) (by kernel_rfl) (fun _ _ _ h => h) (.inl ⟨by rfl, fun W1 h1 => by go_simp⟩) hW ?_
      try simp only [Act.put, List.setIfInBounds_toArray, List.set_cons_zero, List.set_cons_succ]
      refine wpAnyH_take (i := 14) (oi := ⟨some 69, _, _, _, _, _⟩) (v := .bool true) rfl (by kernel_rfl) (by kernel_rfl) (by kernel_rfl) (fun _ _ _ h => h) (.inl ⟨by rfl, fun W1 h1 => by go_simp⟩) hW ?_
      try simp only [Act.put, List.setIfInBounds_toArray, List.set_cons_zero, List.set_cons_succ]
      refine wpAnyH_take (i := 15) (oi := ⟨some 70, _, _, _, _, _⟩) (v := .bool true) rfl (by kernel_rfl) (by kernel_rfl) (by kernel_rfl) (fun _ _ _ h => h) (.inl ⟨by rfl, fun W1 h1 => by go_simp⟩) hW ?_
      try simp only [Act.put, List.setIfInBounds_toArray, List.set_cons_zero, List.set_cons_succ]
      refine wpAnyH_take (i := 16) (oi := ⟨some 71, _, _, _, _, _⟩) (v := .pointer (some ⟨gy, 0, none⟩)) rfl (by kernel_rfl) (by kernel_rfl) (by kernel_rfl) (fun _ _ _ h => h) (.inl ⟨by rfl, fun W1 h1 => by go_simp⟩) hW ?_
      try simp only [Act.put, List.setIfInBounds_toArray, List.set_cons_zero, List.set_cons_succ]
      refine wpAnyH_take (i := 17) (oi := ⟨some 72, _, _, _, _, _⟩) (v := .string yb) rfl (by kernel_rfl) (by kernel_rfl) (by kernel_rfl) (fun _ _ _ h => h) (.inl ⟨by rfl, fun W1 h1 => by (have x1 : W1.cell? ⟨gy, 0, none⟩ = some (.string yb) := (by rw [cell_of_row _ _ 0 _ 79 (0, 0) (blk_below GY8.out h1)]; rfl)); go_simp⟩) hW ?_
      try simp only [Act.put, List.setIfInBounds_toArray, List.set_cons_zero, List.set_cons_succ]
      refine wpAnyH_take (i := 18) (oi := ⟨some 73, _, _, _, _, _⟩) (v := .pointer (some ⟨gz, 0, none⟩)) rfl (by kernel_rfl) (by kernel_rfl) (by kernel_rfl) (fun _ _ _ h => h) (.inl ⟨by rfl, fun W1 h1 => by go_simp⟩) hW ?_
      try simp only [Act.put, List.setIfInBounds_toArray, List.set_cons_zero, List.set_cons_succ]
      refine wpAnyH_take (i := 19) (oi := ⟨some 74, _, _, _, _, _⟩) (v := .string yb) rfl (by kernel_rfl) (by kernel_rfl) (by kernel_rfl) (fun _ _ _ h => h) (.inl ⟨by rfl, fun W1 h1 => by (have x1 : W1.cell? ⟨gz, 0, none⟩ = some (.string yb) := (by rw [cell_of_row _ _ 0 _ 86 (0, 0) (blk_below GZ8.out h1)]; rfl)); go_simp⟩) hW ?_
      try simp only [Act.put, List.setIfInBounds_toArray, List.set_cons_zero, List.set_cons_succ]
      refine wpAnyH_take (i := 20) (oi := ⟨some 75, _, _, _, _, _⟩) (v := .bool true) rfl (by kernel_rfl) (by kernel_rfl) (by kernel_rfl) (fun _ _ _ h => h) (.inl ⟨by rfl, fun W1 h1 => by go_simp⟩) hW ?_
      try simp only [Act.put, List.setIfInBounds_toArray, List.set_cons_zero, List.set_cons_succ]
      refine wpAnyH_take (i := 21) (oi := ⟨some 76, _, _, _, _, _⟩) (v := .bool true) rfl (by kernel_rfl) (by kernel_rfl) (by kernel_rfl) (fun _ _ _ h => h) (.inl ⟨by rfl, fun W1 h1 => by go_simp⟩) hW ?_
      try simp only [Act.put, List.setIfInBounds_toArray, List.set_cons_zero, List.set_cons_succ]
      refine wpAnyH_take (i := 22) (oi := ⟨some 77, _, _, _, _, _⟩) (v := .bool true) rfl (by kernel_rfl) (by kernel_rfl) (by kernel_rfl) (fun _ _ _ h => h) (.inl ⟨by rfl, fun W1 h1 => by go_simp⟩) hW ?_
      try simp only [Act.put, List.setIfInBounds_toArray, List.set_cons_zero, List.set_cons_succ]
      refine wpAnyH_take (i := 23) (oi := ⟨some 78, _, _, _, _, _⟩) (v := .pointer (some ⟨gy, 1, none⟩)) rfl (by kernel_rfl) (by kernel_rfl) (by kernel_rfl) (fun _ _ _ h => h) (.inl ⟨by rfl, fun W1 h1 => by go_simp⟩) hW ?_
      try simp only [Act.put, List.setIfInBounds_toArray, List.set_cons_zero, List.set_cons_succ]
      refine wpAnyH_take (i := 24) (oi := ⟨some 79, _, _, _, _, _⟩) (v := .string ys) rfl (by kernel_rfl) (by kernel_rfl) (by kernel_rfl) (fun _ _ _ h => h) (.inl ⟨by rfl, fun W1 h1 => by (have x1 : W1.cell? ⟨gy, 1, none⟩ = some (.string ys) := (by rw [cell_of_row _ _ 1 _ 79 (0, 0) (blk_below GY8.out h1)]; rfl)); go_simp⟩) hW ?_
      try simp only [Act.put, List.setIfInBounds_toArray, List.set_cons_zero, List.set_cons_succ]
      refine wpAnyH_take (i := 25) (oi := ⟨some 80, _, _, _, _, _⟩) (v := .pointer (some ⟨gz, 1, none⟩)) rfl (by kernel_rfl) (by kernel_rfl) (by kernel_rfl) (fun _ _ _ h => h) (.inl ⟨by rfl, fun W1 h1 => by go_simp⟩) hW ?_
      try simp only [Act.put, List.setIfInBounds_toArray, List.set_cons_zero, List.set_cons_succ]
      refine wpAnyH_take (i := 26) (oi := ⟨some 81, _, _, _, _, _⟩) (v := .string ys) rfl (by kernel_rfl) (by kernel_rfl) (by kernel_rfl) (fun _ _ _ h => h) (.inl ⟨by rfl, fun W1 h1 => by (have x1 : W1.cell? ⟨gz, 1, none⟩ = some (.string ys) := (by rw [cell_of_row _ _ 1 _ 86 (0, 0) (blk_below GZ8.out h1)]; rfl)); go_simp⟩) hW ?_
      try simp only [Act.put, List.setIfInBounds_toArray, List.set_cons_zero, List.set_cons_succ]
      refine wpAnyH_take (i := 27) (oi := ⟨some 82, _, _, _, _, _⟩) (v := .bool true) rfl (by kernel_rfl) (by kernel_rfl) (by kernel_rfl) (fun _ _ _ h => h) (.inl ⟨by rfl, fun W1 h1 => by go_simp⟩) hW ?_
      try simp only [Act.put, List.setIfInBounds_toArray, List.set_cons_zero, List.set_cons_succ]
      refine wpAnyH_take (i := 28) (oi := ⟨some 83, _, _, _, _, _⟩) (v := .bool true) rfl (by kernel_rfl) (by kernel_rfl) (by kernel_rfl) (fun _ _ _ h => h) (.inl ⟨by rfl, fun W1 h1 => by go_simp⟩) hW ?_
      try simp only [Act.put, List.setIfInBounds_toArray, List.set_cons_zero, List.set_cons_succ]
      refine wpAnyH_take (i := 29) (oi := ⟨some 84, _, _, _, _, _⟩) (v := .bool true) rfl (by kernel_rfl) (by kernel_rfl) (by kernel_rfl) (fun _ _ _ h => h) (.inl ⟨by rfl, fun W1 h1 => by go_simp⟩) hW ?_
      try simp only [Act.put, List.setIfInBounds_toArray, List.set_cons_zero, List.set_cons_succ]
      refine wpAnyH_take (i := 30) (oi := ⟨some 85, _, _, _, _, _⟩) (v := .pointer (some ⟨gy, 2, none⟩)) rfl (by kernel_rfl) (by kernel_rfl) (by kernel_rfl) (fun _ _ _ h => h) (.inl ⟨by rfl, fun W1 h1 => by go_simp⟩) hW ?_
      try simp only [Act.put, List.setIfInBounds_toArray, List.set_cons_zero, List.set_cons_succ]
      refine wpAnyH_take (i := 31) (oi := ⟨some 86, _, _, _, _, _⟩) (v := .slice Ay cs.length cy) rfl (by kernel_rfl) (by kernel_rfl) (by kernel_rfl) (fun _ _ _ h => h) (.inl ⟨by rfl, fun W1 h1 => by (have x1 : W1.cell? ⟨gy, 2, none⟩ = some (.slice Ay cs.length cy) := (by rw [cell_of_row _ _ 2 _ 79 (0, 0) (blk_below GY8.out h1)]; rfl)); go_simp⟩) hW ?_
      try simp only [Act.put, List.setIfInBounds_toArray, List.set_cons_zero, List.set_cons_succ]
      refine wpAnyH_take (i := 33) (oi := ⟨some 88, _, _, _, _, _⟩) (v := .pointer (some ⟨gz, 2, none⟩)) rfl (by kernel_rfl) (by kernel_rfl) (by kernel_rfl) (fun _ _ _ h => h) (.inl ⟨by rfl, fun W1 h1 => by go_simp⟩) hW ?_
      try simp only [Act.put, List.setIfInBounds_toArray, List.set_cons_zero, List.set_cons_succ]
      refine wpAnyH_take (i := 34) (oi := ⟨some 89, _, _, _, _, _⟩) (v := .slice Az cs.length cz) rfl (by kernel_rfl) (by kernel_rfl) (by kernel_rfl) (fun _ _ _ h => h) (.inl ⟨by rfl, fun W1 h1 => by (have x1 : W1.cell? ⟨gz, 2, none⟩ = some (.slice Az cs.length cz) := (by rw [cell_of_row _ _ 2 _ 86 (0, 0) (blk_below GZ8.out h1)]; rfl)); go_simp⟩) hW ?_
      try simp only [Act.put, List.setIfInBounds_toArray, List.set_cons_zero, List.set_cons_succ]
      refine wpAnyH_ready (rs := [32]) (by kernel_rfl) (by simp) (AllReadyH.cons rfl (fun K3 hK3 => ?_) AllReadyH.nil)
      go_simp
      refine (own_calls Ay cy cs.length sly cs _ (CY8.out.below hW) hcs.out).mono ?_
      rintro e w9 ⟨v87, rfl, hr9, hb9⟩
      obtain ⟨A87, c87, rfl, hle87, hC87⟩ := Kd.R_reads hr9
      have HC87 := Aside0.mk hC87
      have hW9 := below_then hW hW.size hb9
      clear hr9 hle87 hC87
      refine hK3.out _ _ hW9 (fun hW => ?_)
      try simp only [Act.put, List.setIfInBounds_toArray, List.set_cons_zero, List.set_cons_succ]
      refine wpAnyH_ready (rs := [35]) (by kernel_rfl) (by simp) (AllReadyH.cons rfl (fun K4 hK4 => ?_) AllReadyH.nil)
      go_simp
      refine (same_calls A87 Az c87 cz cs.length cs w9 HC87.out (Kd.C_below CZ8.out hW) hcs.out).mono ?_
      rintro e w10 ⟨rfl, hb10⟩
      have hW10 := below_then hW hW.size hb10
      refine hK4.out _ _ hW10 (fun hW => ?_)
      try simp only [Act.put, List.setIfInBounds_toArray, List.set_cons_zero, List.set_cons_succ]
      refine wpAnyH_take (i := 36) (oi := ⟨some 91, _, _, _, _, _⟩) (v := .bool true) rfl (by kernel_rfl) (by kernel_rfl) (by kernel_rfl) (fun _ _ _ h => h) (.inl ⟨by rfl, fun W1 h1 => by go_simp⟩) hW ?_
      try simp only [Act.put, List.setIfInBounds_toArray, List.set_cons_zero, List.set_cons_succ]
      refine wpAnyH_take (i := 37) (oi := ⟨some 92, _, _, _, _, _⟩) (v := .bool true) rfl (by kernel_rfl) (by kernel_rfl) (by kernel_rfl) (fun _ _ _ h => h) (.inl ⟨by rfl, fun W1 h1 => by go_simp⟩) hW ?_
      try simp only [Act.put, List.setIfInBounds_toArray, List.set_cons_zero, List.set_cons_succ]
      refine wpAnyH_take (i := 38) (oi := ⟨some 93, _, _, _, _, _⟩) (v := .slice A13 12 c13) rfl (by kernel_rfl) (by kernel_rfl) (by kernel_rfl) (fun _ _ _ h => h) (.inl ⟨by rfl, fun W1 h1 => by go_simp⟩) hW ?_
      try simp only [Act.put, List.setIfInBounds_toArray, List.set_cons_zero, List.set_cons_succ]
      refine wpAnyH_take (i := 39) (oi := ⟨some 94, _, _, _, _, _⟩) (v := .int .i64 12) rfl (by kernel_rfl) (by kernel_rfl) (by kernel_rfl) (fun _ _ _ h => h) (.inl ⟨by rfl, fun W1 h1 => by go_simp⟩) hW ?_
      try simp only [Act.put, List.setIfInBounds_toArray, List.set_cons_zero, List.set_cons_succ]
      refine wpAnyH_take (i := 40) (oi := ⟨some 95, _, _, _, _, _⟩) (v := .bool true) rfl (by kernel_rfl) (by kernel_rfl) (by kernel_rfl) (fun _ _ _ h => h) (.inl ⟨by rfl, fun W1 h1 => by go_simp⟩) hW ?_
      try simp only [Act.put, List.setIfInBounds_toArray, List.set_cons_zero, List.set_cons_succ]
      refine wpAnyH_take (i := 41) (oi := ⟨some 96, _, _, _, _, _⟩) (v := .bool true) rfl (by kernel_rfl) (by kernel_rfl) (by kernel_rfl) (fun _ _ _ h => h) (.inl ⟨by rfl, fun W1 h1 => by go_simp⟩) hW ?_
      try simp only [Act.put, List.setIfInBounds_toArray, List.set_cons_zero, List.set_cons_succ]
      refine wpAnyH_take (i := 42) (oi := ⟨some 97, _, _, _, _, _⟩) (v := .bool true) rfl (by kernel_rfl) (by kernel_rfl) (by kernel_rfl) (fun _ _ _ h => h) (.inl ⟨by rfl, fun W1 h1 => by go_simp⟩) hW ?_
      try simp only [Act.put, List.setIfInBounds_toArray, List.set_cons_zero, List.set_cons_succ]
      refine wpAnyH_take (i := 43) (oi := ⟨some 98, _, _, _, _, _⟩) (v := .slice A13 12 c13) rfl (by kernel_rfl) (by kernel_rfl) (by kernel_rfl) (fun _ _ _ h => h) (.inl ⟨by rfl, fun W1 h1 => by go_simp⟩) hW ?_
      try simp only [Act.put, List.setIfInBounds_toArray, List.set_cons_zero, List.set_cons_succ]
      refine wpAnyH_take (i := 44) (oi := ⟨some 99, _, _, _, _, _⟩) (v := .slice A13 8 c13) rfl (by kernel_rfl) (by kernel_rfl) (by kernel_rfl) (fun _ _ _ h => h) (.inl ⟨by rfl, fun W1 h1 => by go_simp⟩) hW ?_
      try simp only [Act.put, List.setIfInBounds_toArray, List.set_cons_zero, List.set_cons_succ]
      refine wpAnyH_take (i := 45) (oi := ⟨some 100, _, _, _, _, _⟩) (v := .string ⟨#[83, 66, 88, 83, 0, 1, 115, 0]⟩) rfl (by kernel_rfl) (by kernel_rfl) (by kernel_rfl) (fun _ _ _ h => h) (.inl ⟨by rfl, fun W1 h1 => by (have x1 := Kd.C_string (c := c13) (P := Try.prog) Try.underlying31 Try.underlying5 Try.underlying9 (Kd.C_below C13.out h1)); rw [one_str] at x1; go_simp⟩) hW ?_
      try simp only [Act.put, List.setIfInBounds_toArray, List.set_cons_zero, List.set_cons_succ]
      refine wpAnyH_take (i := 46) (oi := ⟨some 101, _, _, _, _, _⟩) (v := .bool true) rfl (by kernel_rfl) (by kernel_rfl) (by kernel_rfl) (fun _ _ _ h => h) (.inl ⟨by rfl, fun W1 h1 => by go_simp⟩) hW ?_
      try simp only [Act.put, List.setIfInBounds_toArray, List.set_cons_zero, List.set_cons_succ]
      refine wpAnyH_take (i := 47) (oi := ⟨some 102, _, _, _, _, _⟩) (v := .bool true) rfl (by kernel_rfl) (by kernel_rfl) (by kernel_rfl) (fun _ _ _ h => h) (.inl ⟨by rfl, fun W1 h1 => by go_simp⟩) hW ?_
      try simp only [Act.put, List.setIfInBounds_toArray, List.set_cons_zero, List.set_cons_succ]
      refine wpAnyH_take (i := 48) (oi := ⟨some 4, _, _, _, _, _⟩) (v := .bool true) rfl (by kernel_rfl) (by kernel_rfl) (by kernel_rfl) (fun _ _ _ h => h) (.inl ⟨by rfl, fun W1 h1 => by go_simp⟩) hW ?_
      try simp only [Act.put, List.setIfInBounds_toArray, List.set_cons_zero, List.set_cons_succ]
      refine wpAnyH_done (by kernel_rfl) ?_ _
      have HF := Aside0.mk (below_then B8.out B8.out.size hW)
      clear hW hW9 hW10 hb9 hb10 hK3 hK4 K3 K4
      go_wp2
      rw [HP.out]
      exact ⟨rfl, HF.out⟩
end Go.Proofs.Ytfefpbnhpncmlaa.StmW
namespace Go.Proofs.YtfefpbnhpncmlaaW.Opens
open Go.RowKit Go.Proofs.YtfefpbnhpncmlaaW.PrintWords
set_option linter.unusedVariables false

/-- Whatever of type t can be read as data is of kind d, and G. -/
def Opens {α : Type} (P : Program) (t : TypeId) (d : Kd α) (G : α → Prop) : Prop :=
  ∀ (H : Type) (enc : TypeId × Value → H) (w : World) (base : Nat) (spare : Nat → Bool) (held : Bool) (n : Nat) (cs : List Value) (x : DataW H × List MemPlace),
    DataW.trod enc P w base spare held n t cs = some x → ∃ a, d.K w a cs ∧ G a

theorem opens_int {P : Program} {t : TypeId} {k : IntKind} (ht : P.underlying t = some (.int k)) : Opens P t (Kd.int k) (fun n => (Lit.int k n).wf = true) := by
  intro H enc w base spare held n cs x h
  obtain ⟨m, rfl, _, hw⟩ := DataW.trod_int ht h
  exact ⟨m, rfl, hw⟩

theorem opens_bool {P : Program} {t : TypeId} (ht : P.underlying t = some .bool) : Opens P t Kd.bool (fun _ => True) := by
  intro H enc w base spare held n cs x h
  obtain ⟨m, rfl, _⟩ := DataW.trod_bool ht h
  exact ⟨m, rfl, trivial⟩

theorem opens_string {P : Program} {t : TypeId} (ht : P.underlying t = some .string) : Opens P t Kd.string (fun s => s.size ≤ maxLen) := by
  intro H enc w base spare held n cs x h
  obtain ⟨s, rfl, _, hs⟩ := DataW.trod_string ht h
  exact ⟨s, rfl, hs⟩

theorem add_add (a : Addr) (i j : Nat) : (a.add i).add j = a.add (i + j) := Go.Deep.add_add a i j

theorem opens_slice {α : Type} {P : Program} {t e : TypeId} {d : Kd α} {G : α → Prop} (ht : P.underlying t = some (.slice e)) (hs : P.cellsOf e = d.sz) (he : Opens P e d G) :
    Opens P t (Kd.slice e d) (fun l => ∀ x ∈ l, G x) := by
  intro H enc w base spare held n cs x h
  rcases Go.Deep.open_slice ht h with ⟨rfl, rfl⟩ | ⟨a, len, cap, m, k, D, Pl, rfl, hb, hl, hm, hmm, rfl, hx⟩
  · exact ⟨[], ⟨none, 0, rfl, Nat.le_refl _, Kd.C_nil _ _⟩, by simp⟩
  · have hlm : len ≤ m := by rw [hmm]; split <;> omega
    have each : ∀ i, i < len → ∃ y : α, (∃ c, c.length = d.sz ∧ d.K w y c ∧ ∀ (j : Nat) (u : Value), c[j]? = some u → w.cell? (a.add (i * d.sz + j)) = some u) ∧ G y := by
      intro i hi
      obtain ⟨cs', h1, h2⟩ := hx i (by omega)
      rw [hs] at h1
      obtain ⟨_, hlen, hcell⟩ := World.cells?_some h1
      obtain ⟨y, hy, hg⟩ := he H enc w base spare held k cs' _ h2
      refine ⟨y, ⟨cs', hlen, hy, fun j u hu => ?_⟩, hg⟩
      have hj : j < d.sz := by
        have := (List.getElem?_eq_some_iff.1 hu).1
        omega
      have := hcell j hj
      rw [add_add] at this
      rw [this]
      exact hu
    by_cases h0 : len = 0
    · subst h0
      exact ⟨[], ⟨some a, cap, rfl, Nat.zero_le _, rfl, by simp, fun h => absurd h (Nat.lt_irrefl 0)⟩, by simp⟩
    · have : Nonempty α := ⟨(each 0 (by omega)).choose⟩
      have : Inhabited α := Classical.inhabited_of_nonempty this
      obtain ⟨f, hf⟩ := Go.Deep.choose_lt each
      refine ⟨(List.range len).map f, ⟨some a, cap, by simp, by simpa using hl, by simp, by unfold maxLen at hm; simp; omega, fun _ => ⟨a, rfl, ?_⟩⟩, ?_⟩
      · intro j p hj
        have hjl : j < len := by have := (List.getElem?_eq_some_iff.1 hj).1; simpa using this
        have : f j = p := by
          rw [List.getElem?_map, List.getElem?_range hjl] at hj
          simpa using hj
        subst this
        exact (hf j hjl).1
      · intro x hx
        obtain ⟨i, hi, rfl⟩ := List.mem_map.1 hx
        exact (hf i (List.mem_range.1 hi)).2

/-- A struct's fields from one on, that lie side by side. -/
def OpensF {α : Type} (P : Program) (fs : List Field) (off : Nat) (d : Kd α) (G : α → Prop) : Prop :=
  ∀ (H : Type) (enc : TypeId × Value → H) (w : World) (base : Nat) (spare : Nat → Bool) (held : Bool) (n : Nat) (cs : List Value) (xs : List (DataW H × List MemPlace)),
    xs.length = fs.length → cs.length = off + d.sz → (∀ (i : Nat) (f : Field), fs[i]? = some f → DataW.trod enc P w base spare held n f.type ((cs.drop f.offset).take (P.cellsOf f.type)) = xs[i]?) → ∃ a, d.K w a (cs.drop off) ∧ G a

theorem opensF_last {α : Type} {P : Program} {f : Field} {off : Nat} {d : Kd α} {G : α → Prop} (o : f.offset = off) (s : P.cellsOf f.type = d.sz) (h : Opens P f.type d G) : OpensF P [f] off d G := by
  intro H enc w base spare held n cs xs hxl hcl hf
  have g := hf 0 f rfl
  rw [List.getElem?_eq_getElem (by rw [hxl]; simp)] at g
  obtain ⟨y, k, q⟩ := h _ _ _ _ _ _ _ _ _ g
  refine ⟨y, ?_, q⟩
  have : (cs.drop off).take d.sz = cs.drop off := List.take_of_length_le (by simp; omega)
  rwa [o, s, this] at k

theorem opensF_cons {α β : Type} {P : Program} {f : Field} {fs : List Field} {off : Nat} {d0 : Kd α} {d1 : Kd β} {G0 : α → Prop} {G1 : β → Prop} (o : f.offset = off) (s : P.cellsOf f.type = d0.sz) (h0 : Opens P f.type d0 G0) (h1 : OpensF P fs (off + d0.sz) d1 G1) :
    OpensF P (f :: fs) off (Kd.pair d0 d1) (fun x => G0 x.1 ∧ G1 x.2) := by
  intro H enc w base spare held n cs xs hxl hcl hf
  have hcl' : cs.length = off + (d0.sz + d1.sz) := hcl
  have g := hf 0 f rfl
  rw [List.getElem?_eq_getElem (by rw [hxl]; simp)] at g
  obtain ⟨y, k, q⟩ := h0 _ _ _ _ _ _ _ _ _ g
  match xs, hxl with
  | x :: xs, hxl =>
    obtain ⟨z, k1, q1⟩ := h1 H enc w base spare held n cs xs (by simpa using hxl) (by omega) (fun i f hi => by simpa using hf (i + 1) f (by simpa using hi))
    refine ⟨(y, z), ⟨_, _, ?_, k, k1⟩, q, q1⟩
    rw [o, s, ← List.drop_drop, List.take_append_drop]

theorem opens_struct {α : Type} {P : Program} {t : TypeId} {fs : Array Field} {d : Kd α} {G : α → Prop} (ht : P.underlying t = some (.struct fs)) (hs : P.cellsOf t = d.sz) (h : OpensF P fs.toList 0 d G) : Opens P t d G := by
  intro H enc w base spare held n cs x hx
  obtain ⟨xs, k, _, _, hl, hxl, hf⟩ := DataW.trod_struct ht hx
  obtain ⟨a, hk, hg⟩ := h H enc w base spare held k cs xs (by simpa using hxl) (by omega) (fun i f hi => hf i f (by simpa using hi))
  exact ⟨a, by simpa using hk, hg⟩

theorem opens_mono {α : Type} {P : Program} {t : TypeId} {d : Kd α} {G G' : α → Prop} (h : Opens P t d G) (hg : ∀ a, G a → G' a) : Opens P t d G' := by
  intro H enc w base spare held n cs x hx
  obtain ⟨a, hk, h2⟩ := h H enc w base spare held n cs x hx
  exact ⟨a, hk, hg a h2⟩

end Go.Proofs.YtfefpbnhpncmlaaW.Opens
namespace Go.Proofs.Ytfefpbnhpncmlaa.CatZ
open Go.RowKit Go.Proofs.YtfefpbnhpncmlaaW.PrintWords Go.Proofs.YtfefpbnhpncmlaaW.Opens Go.Proofs.Ytfefpbnhpncmlaa.CatK Go.Proofs.Ytfefpbnhpncmlaa.CodL Go.Proofs.Ytfefpbnhpncmlaa.CatL Go.Proofs.Ytfefpbnhpncmlaa.PtrE Go.Proofs.Ytfefpbnhpncmlaa.B8
set_option linter.unusedVariables false

theorem byte_wf {x : Int} (h : (Lit.int .u8 x).wf = true) : 0 ≤ x ∧ x < 256 := by
  have : 0 ≤ x ∧ x ≤ 255 := by simpa [Lit.wf, IntKind.min, IntKind.max, IntKind.signed, IntKind.bits] using h
  omega
theorem cells5 : Try.prog.cellsOf 5 = 1 := by kernel_rfl
theorem cells31 : Try.prog.cellsOf 31 = 1 := by kernel_rfl
theorem opens31 : Opens Try.prog 31 (Kd.slice 5 (Kd.int .u8)) (fun l => Byt l) := opens_mono (opens_slice Try.underlying31 (by rw [cells5]; rfl) (opens_int Try.underlying5)) (fun l h x hx => byte_wf (h x hx))
end Go.Proofs.Ytfefpbnhpncmlaa.CatZ
namespace Go.Proofs.Ytfefpbnhpncmlaa.EntH
open Go.RowKit Go.Proofs.Ytfefpbnhpncmlaa.EntL Go.Proofs.Ytfefpbnhpncmlaa.EntB Go.Proofs.Ytfefpbnhpncmlaa.EntC Go.Proofs.Ytfefpbnhpncmlaa.EntD Go.Proofs.Ytfefpbnhpncmlaa.EntE Go.Proofs.Ytfefpbnhpncmlaa.EntF Go.Proofs.Ytfefpbnhpncmlaa.EntG Go.Proofs.Ytfefpbnhpncmlaa.CatR Go.Proofs.Ytfefpbnhpncmlaa.CatT Go.Proofs.Ytfefpbnhpncmlaa.CatU Go.Proofs.Ytfefpbnhpncmlaa.CatV Go.Proofs.Ytfefpbnhpncmlaa.CatK Go.Proofs.Ytfefpbnhpncmlaa.CatS Go.Proofs.Ytfefpbnhpncmlaa.CatY Go.Proofs.Ytfefpbnhpncmlaa.RefG Go.Proofs.Ytfefpbnhpncmlaa.PtrB Go.Proofs.Ytfefpbnhpncmlaa.PtrG Go.Proofs.Ytfefpbnhpncmlaa.Agg Go.Proofs.Ytfefpbnhpncmlaa.B8 Go.Proofs.Ytfefpbnhpncmlaa.CodL Go.Proofs.Ytfefpbnhpncmlaa.CodA Go.Proofs.Ytfefpbnhpncmlaa.CodB Go.Proofs.Ytfefpbnhpncmlaa.CatL Go.Proofs.Ytfefpbnhpncmlaa.PtrA Go.Proofs.Ytfefpbnhpncmlaa.PtrE Go.Proofs.Ytfefpbnhpncmlaa.PtrF Go.Proofs.Ytfefpbnhpncmlaa.PBaseSigns Go.Proofs.YtfefpbnhpncmlaaW.PrintWords Go.Proofs.YtfefpbnhpncmlaaW.PrintLast Go.Proofs.YtfefpbnhpncmlaaW.PrintMore
set_option linter.unusedVariables false
set_option linter.unusedSimpArgs false

end Go.Proofs.Ytfefpbnhpncmlaa.EntH
namespace Go.Proofs.Ytfefpbnhpncmlaa.EntI
open Go.RowKit Go.Proofs.Ytfefpbnhpncmlaa.EntL Go.Proofs.Ytfefpbnhpncmlaa.EntB Go.Proofs.Ytfefpbnhpncmlaa.EntC Go.Proofs.Ytfefpbnhpncmlaa.EntD Go.Proofs.Ytfefpbnhpncmlaa.EntE Go.Proofs.Ytfefpbnhpncmlaa.EntF Go.Proofs.Ytfefpbnhpncmlaa.EntH Go.Proofs.Ytfefpbnhpncmlaa.CatR Go.Proofs.Ytfefpbnhpncmlaa.CatT Go.Proofs.Ytfefpbnhpncmlaa.CatU Go.Proofs.Ytfefpbnhpncmlaa.CatV Go.Proofs.Ytfefpbnhpncmlaa.CatX Go.Proofs.Ytfefpbnhpncmlaa.CatK Go.Proofs.Ytfefpbnhpncmlaa.CatS Go.Proofs.Ytfefpbnhpncmlaa.CatY Go.Proofs.Ytfefpbnhpncmlaa.RefG Go.Proofs.Ytfefpbnhpncmlaa.PtrB Go.Proofs.Ytfefpbnhpncmlaa.PtrG Go.Proofs.Ytfefpbnhpncmlaa.Agg Go.Proofs.Ytfefpbnhpncmlaa.B8 Go.Proofs.Ytfefpbnhpncmlaa.CodL Go.Proofs.Ytfefpbnhpncmlaa.CodA Go.Proofs.Ytfefpbnhpncmlaa.CodB Go.Proofs.Ytfefpbnhpncmlaa.CatL Go.Proofs.Ytfefpbnhpncmlaa.PtrA Go.Proofs.Ytfefpbnhpncmlaa.PtrE Go.Proofs.Ytfefpbnhpncmlaa.PtrF Go.Proofs.Ytfefpbnhpncmlaa.PBaseSigns Go.Proofs.YtfefpbnhpncmlaaW.PrintWords Go.Proofs.YtfefpbnhpncmlaaW.PrintLast Go.Proofs.YtfefpbnhpncmlaaW.PrintMore
set_option linter.unusedVariables false
set_option linter.unusedSimpArgs false

end Go.Proofs.Ytfefpbnhpncmlaa.EntI
namespace Go.Proofs.Ytfefpbnhpncmlaa.EntJ
open Go.RowKit Go.Proofs.Ytfefpbnhpncmlaa.EntL Go.Proofs.Ytfefpbnhpncmlaa.EntB Go.Proofs.Ytfefpbnhpncmlaa.EntC Go.Proofs.Ytfefpbnhpncmlaa.EntD Go.Proofs.Ytfefpbnhpncmlaa.EntE Go.Proofs.Ytfefpbnhpncmlaa.EntF Go.Proofs.Ytfefpbnhpncmlaa.EntH Go.Proofs.Ytfefpbnhpncmlaa.EntI Go.Proofs.Ytfefpbnhpncmlaa.CatU Go.Proofs.Ytfefpbnhpncmlaa.CatK Go.Proofs.Ytfefpbnhpncmlaa.B8 Go.Proofs.Ytfefpbnhpncmlaa.CodL Go.Proofs.Ytfefpbnhpncmlaa.CatL Go.Proofs.Ytfefpbnhpncmlaa.PtrA Go.Proofs.Ytfefpbnhpncmlaa.PtrE Go.Proofs.Ytfefpbnhpncmlaa.PtrF
set_option linter.unusedVariables false
set_option linter.unusedSimpArgs false

theorem agg9 (w : World) : (isAgg 9).run Try.prog w = .ok false w := by kernel_rfl
end Go.Proofs.Ytfefpbnhpncmlaa.EntJ
namespace Go.Proofs.Ytfefpbnhpncmlaa.EntZ
open Go.RowKit Go.Proofs.YtfefpbnhpncmlaaW.PrintWords Go.Proofs.YtfefpbnhpncmlaaW.Opens Go.Proofs.Ytfefpbnhpncmlaa.CatK Go.Proofs.Ytfefpbnhpncmlaa.CatZ Go.Proofs.Ytfefpbnhpncmlaa.CodL Go.Proofs.Ytfefpbnhpncmlaa.CatL Go.Proofs.Ytfefpbnhpncmlaa.PtrE Go.Proofs.Ytfefpbnhpncmlaa.EntL Go.Proofs.Ytfefpbnhpncmlaa.EntJ Go.Proofs.Ytfefpbnhpncmlaa.EntE Go.Proofs.Ytfefpbnhpncmlaa.B8
set_option linter.unusedVariables false
theorem cells9 : Try.prog.cellsOf 9 = 1 := by kernel_rfl
theorem s_any : Opens Try.prog 9 Kd.string (fun _ => True) := opens_mono (opens_string Try.underlying9) (fun _ _ => trivial)
end Go.Proofs.Ytfefpbnhpncmlaa.EntZ
namespace Go.Proofs.Ytfefpbnhpncmlaa.StmZ
open Go.RowKit Go.Proofs.Ytfefpbnhpncmlaa.EntL Go.Proofs.Ytfefpbnhpncmlaa.EntB Go.Proofs.Ytfefpbnhpncmlaa.EntC Go.Proofs.Ytfefpbnhpncmlaa.EntD Go.Proofs.Ytfefpbnhpncmlaa.EntE Go.Proofs.Ytfefpbnhpncmlaa.EntF Go.Proofs.Ytfefpbnhpncmlaa.CatR Go.Proofs.Ytfefpbnhpncmlaa.CatT Go.Proofs.Ytfefpbnhpncmlaa.CatU Go.Proofs.Ytfefpbnhpncmlaa.CatK Go.Proofs.Ytfefpbnhpncmlaa.CatS Go.Proofs.Ytfefpbnhpncmlaa.CatY Go.Proofs.Ytfefpbnhpncmlaa.RefG Go.Proofs.Ytfefpbnhpncmlaa.PtrB Go.Proofs.Ytfefpbnhpncmlaa.PtrG Go.Proofs.Ytfefpbnhpncmlaa.Agg Go.Proofs.Ytfefpbnhpncmlaa.B8 Go.Proofs.Ytfefpbnhpncmlaa.CodL Go.Proofs.Ytfefpbnhpncmlaa.CodA Go.Proofs.Ytfefpbnhpncmlaa.CodB Go.Proofs.Ytfefpbnhpncmlaa.CatL Go.Proofs.Ytfefpbnhpncmlaa.PtrA Go.Proofs.Ytfefpbnhpncmlaa.PtrE Go.Proofs.Ytfefpbnhpncmlaa.PtrF Go.Proofs.Ytfefpbnhpncmlaa.PBaseSigns Go.Proofs.YtfefpbnhpncmlaaW.PrintWords Go.Proofs.YtfefpbnhpncmlaaW.PrintLast Go.Proofs.YtfefpbnhpncmlaaW.PrintMore Go.Proofs.Ytfefpbnhpncmlaa.EntG Go.Proofs.Ytfefpbnhpncmlaa.StmA Go.Proofs.Ytfefpbnhpncmlaa.StmB Go.Proofs.Ytfefpbnhpncmlaa.StmC Go.Proofs.Ytfefpbnhpncmlaa.CrcC Go.Proofs.Ytfefpbnhpncmlaa.StmD Go.Proofs.Ytfefpbnhpncmlaa.StmE Go.Proofs.Ytfefpbnhpncmlaa.CrcL Go.Proofs.Ytfefpbnhpncmlaa.StmL Go.Proofs.Ytfefpbnhpncmlaa.StmF Go.Proofs.Ytfefpbnhpncmlaa.StmG Go.Proofs.Ytfefpbnhpncmlaa.StmH Go.Proofs.Ytfefpbnhpncmlaa.StmI Go.Proofs.Ytfefpbnhpncmlaa.StmJ Go.Proofs.Ytfefpbnhpncmlaa.StmK Go.Proofs.Ytfefpbnhpncmlaa.StmM Go.Proofs.Ytfefpbnhpncmlaa.StmN Go.Proofs.Ytfefpbnhpncmlaa.StmO Go.Proofs.Ytfefpbnhpncmlaa.StmP Go.Proofs.Ytfefpbnhpncmlaa.StmR Go.Proofs.Ytfefpbnhpncmlaa.CrcM Go.Proofs.Ytfefpbnhpncmlaa.StmS Go.Proofs.Ytfefpbnhpncmlaa.StmT Go.Proofs.Ytfefpbnhpncmlaa.StmQ Go.Proofs.Ytfefpbnhpncmlaa.StmV Go.Proofs.Ytfefpbnhpncmlaa.StmU Go.Proofs.Ytfefpbnhpncmlaa.StmX Go.Proofs.YtfefpbnhpncmlaaW.Opens Go.Proofs.Ytfefpbnhpncmlaa.CatZ Go.Proofs.Ytfefpbnhpncmlaa.EntZ
set_option linter.unusedVariables false
set_option linter.unusedSimpArgs false

theorem cells131 : Try.prog.cellsOf 131 = 3 := by kernel_rfl
theorem cells133 : Try.prog.cellsOf 133 = 4 := by kernel_rfl
theorem cells77 : Try.prog.cellsOf 77 = 1 := by kernel_rfl
theorem cells79 : Try.prog.cellsOf 79 = 3 := by kernel_rfl
theorem cells4 : Try.prog.cellsOf 4 = 1 := by kernel_rfl
theorem fields131 : (Try.prog.fieldsOf 131).toList.map (fun f => (f.name, f.type, f.offset)) = [("Key", 31, 0), ("In", 31, 1), ("Data", 31, 2)] := by kernel_rfl
theorem fields133 : (Try.prog.fieldsOf 133).toList.map (fun f => (f.name, f.type, f.offset)) = [("Item", 131, 0), ("Gone", 4, 3)] := by kernel_rfl
theorem fields79 : (Try.prog.fieldsOf 79).toList.map (fun f => (f.name, f.type, f.offset)) = [("Base", 9, 0), ("Snap", 9, 1), ("L", 77, 2)] := by kernel_rfl
abbrev kB : Kd (List Int) := Kd.slice 5 (Kd.int .u8)
abbrev k131 : Kd (List Int × List Int × List Int) := Kd.pair kB (Kd.pair kB kB)
abbrev k133 : Kd ((List Int × List Int × List Int) × Bool) := Kd.pair k131 Kd.bool
abbrev k79 : Kd (ByteArray × ByteArray × List ((List Int × List Int × List Int) × Bool)) := Kd.pair Kd.string (Kd.pair Kd.string (Kd.slice 133 k133))
def G3 (x : List Int × List Int × List Int) : Prop := Byt x.1 ∧ Byt x.2.1 ∧ Byt x.2.2
theorem opens131 : Opens Try.prog 131 k131 G3 := by
  refine opens_struct StmG.u131 (by rw [cells131]; rfl) ?_
  have hf := fields131
  generalize (Try.prog.fieldsOf 131).toList = fs at hf
  rcases fs with _ | ⟨f0, fs⟩; · simp at hf
  rcases fs with _ | ⟨f1, fs⟩; · simp at hf
  rcases fs with _ | ⟨f2, fs⟩; · simp at hf
  rcases fs with _ | ⟨f3, fs⟩
  · simp only [List.map_cons, List.map_nil, List.cons.injEq, Prod.mk.injEq, and_true] at hf
    obtain ⟨⟨n0, t0, o0⟩, ⟨n1, t1, o1⟩, n2, t2, o2⟩ := hf
    refine opensF_cons (P := Try.prog) (d0 := kB) (d1 := Kd.pair kB kB) (G0 := Byt) (G1 := fun x : List Int × List Int => Byt x.1 ∧ Byt x.2) o0 (by rw [t0]; exact cells31) (by rw [t0]; exact opens31) ?_
    refine opensF_cons (P := Try.prog) (d0 := kB) (d1 := kB) (G0 := Byt) (G1 := Byt) o1 (by rw [t1]; exact cells31) (by rw [t1]; exact opens31) ?_
    exact opensF_last (P := Try.prog) (d := kB) o2 (by rw [t2]; exact cells31) (by rw [t2]; exact opens31)
  · simp at hf
theorem opens133 : Opens Try.prog 133 k133 (fun x => G3 x.1) := by
  refine opens_mono (G := fun x => G3 x.1 ∧ True) (opens_struct StmD.u133 (by rw [cells133]; rfl) ?_) (fun x h => h.1)
  have hf := fields133
  generalize (Try.prog.fieldsOf 133).toList = fs at hf
  rcases fs with _ | ⟨f0, fs⟩; · simp at hf
  rcases fs with _ | ⟨f1, fs⟩; · simp at hf
  rcases fs with _ | ⟨f2, fs⟩
  · simp only [List.map_cons, List.map_nil, List.cons.injEq, Prod.mk.injEq, and_true] at hf
    obtain ⟨⟨n0, t0, o0⟩, n1, t1, o1⟩ := hf
    refine opensF_cons (P := Try.prog) (d0 := k131) (d1 := Kd.bool) (G0 := G3) (G1 := fun _ => True) o0 (by rw [t0]; exact cells131) (by rw [t0]; exact opens131) ?_
    exact opensF_last (P := Try.prog) (d := Kd.bool) o1 (by rw [t1]; exact cells4) (by rw [t1]; exact opens_bool Try.underlying4)
  · simp at hf
theorem opens77 : Opens Try.prog 77 (Kd.slice 133 k133) (fun l => ∀ x ∈ l, G3 x.1) := opens_slice StmF.u77 (by rw [cells133]; rfl) opens133
theorem opens79' : Opens Try.prog 79 k79 (fun x => ∀ y ∈ x.2.2, G3 y.1) := by
  refine opens_mono (G := fun x => True ∧ True ∧ ∀ y ∈ x.2.2, G3 y.1) (opens_struct StmP.u79 (by rw [cells79]; rfl) ?_) (fun x h => h.2.2)
  have hf := fields79
  generalize (Try.prog.fieldsOf 79).toList = fs at hf
  rcases fs with _ | ⟨f0, fs⟩; · simp at hf
  rcases fs with _ | ⟨f1, fs⟩; · simp at hf
  rcases fs with _ | ⟨f2, fs⟩; · simp at hf
  rcases fs with _ | ⟨f3, fs⟩
  · simp only [List.map_cons, List.map_nil, List.cons.injEq, Prod.mk.injEq, and_true] at hf
    obtain ⟨⟨n0, t0, o0⟩, ⟨n1, t1, o1⟩, n2, t2, o2⟩ := hf
    refine opensF_cons (P := Try.prog) (d0 := Kd.string) (d1 := Kd.pair Kd.string (Kd.slice 133 k133)) (G0 := fun _ => True) (G1 := fun x : ByteArray × List ((List Int × List Int × List Int) × Bool) => True ∧ ∀ y ∈ x.2, G3 y.1) o0 (by rw [t0]; exact cells9) (by rw [t0]; exact s_any) ?_
    refine opensF_cons (P := Try.prog) (d0 := Kd.string) (d1 := Kd.slice 133 k133) (G0 := fun _ => True) (G1 := fun l => ∀ y ∈ l, G3 y.1) o1 (by rw [t1]; exact cells9) (by rw [t1]; exact s_any) ?_
    exact opensF_last (P := Try.prog) (d := Kd.slice 133 k133) o2 (by rw [t2]; exact cells77) (by rw [t2]; exact opens77)
  · simp at hf
/-- A change of its parts. -/
def toC (x : (List Int × List Int × List Int) × Bool) : Chg := ⟨strOfNums x.1.1, strOfNums x.1.2.1, strOfNums x.1.2.2, x.2⟩
theorem cr_open {w : World} {A : Option Addr} {n : Nat} {xs : List ((List Int × List Int × List Int) × Bool)} (h : k133.C w A n xs) (hb : ∀ x ∈ xs, G3 x.1) : ∃ sl, CR w A n sl (xs.map toC) := by
  have hlen : xs.length = n := h.1
  have each : ∀ i, i < n → ∃ p : Sl, (∃ ad, A = some ad ∧ ∀ j u, (encS p).toList[j]? = some u → w.cell? (ad.add (i * 4 + j)) = some u) ∧ p.ca w ((xs.map toC).getD i default) := by
    intro i hi
    obtain ⟨ad, e, hc⟩ := h.2.2 (by omega)
    obtain ⟨y, hx⟩ : ∃ y, xs[i]? = some y := ⟨_, List.getElem?_eq_getElem (by omega)⟩
    obtain ⟨c, _, hk, hcell⟩ := hc i _ hx
    obtain ⟨c0, c1, rfl, ⟨a0, a1, rfl, ⟨A1, d1, rfl, l1, k1⟩, b0, b1, rfl, ⟨A2, d2, rfl, l2, k2⟩, A3, d3, rfl, l3, k3⟩, hg⟩ := hk
    have hg' : c1 = [.bool y.2] := hg
    subst hg'
    obtain ⟨g1, g2, g3⟩ := hb y (List.mem_of_getElem? hx)
    refine ⟨⟨A1, y.1.1.length, d1, A2, y.1.2.1.length, d2, A3, y.1.2.2.length, d3, y.2⟩, ⟨ad, e, hcell⟩, ?_⟩
    have e2 : (xs.map toC).getD i default = toC y := by
      rw [List.getD_eq_getElem?_getD, List.getElem?_map, hx]; rfl
    rw [e2]
    refine ⟨⟨?_, ?_, ?_, l1, l2, l3⟩, rfl⟩
    · show C8 w A1 _ (bytesOf (strOfNums y.1.1)); rw [CatV.bytes_str _ g1]; exact k1
    · show C8 w A2 _ (bytesOf (strOfNums y.1.2.1)); rw [CatV.bytes_str _ g2]; exact k2
    · show C8 w A3 _ (bytesOf (strOfNums y.1.2.2)); rw [CatV.bytes_str _ g3]; exact k3
  obtain ⟨f, hf⟩ := Go.Deep.choose_lt each
  have hat : ∀ i, i < n → ((List.range n).map f)[i]? = some (f i) := fun i hi => by rw [List.getElem?_map, List.getElem?_range hi]; rfl
  refine ⟨(List.range n).map f, ⟨⟨by simp, h.2.1, fun hn => ?_⟩, by rw [List.length_map]; exact hlen, fun i hi => ?_⟩⟩
  · obtain ⟨ad, e, _⟩ := h.2.2 hn
    refine ⟨ad, e, fun j p hj => ?_⟩
    have hjn : j < n := by
      have := (List.getElem?_eq_some_iff.1 hj).1
      simpa using this
    rw [hat j hjn] at hj
    cases hj
    obtain ⟨⟨ad', e', hc⟩, _⟩ := hf j hjn
    rw [e] at e'
    cases e'
    exact ⟨(encS (f j)).toList, rfl, rfl, fun i u hu => hc i u hu⟩
  · rw [List.getD_eq_getElem?_getD, hat i hi]
    exact (hf i hi).2
/-- A stream's cells. -/
theorem opens79 {H : Type} {enc : TypeId × Value → H} {w : World} {base : Nat} {spare : Nat → Bool} {held : Bool} {n : Nat} {cs : List Value} {x : DataW H × List MemPlace} (h : DataW.trod enc Try.prog w base spare held n 79 cs = some x) :
    ∃ (s : Stm) (A : Option Addr) (c m : Nat) (sl : List Sl), cs = [.string s.base, .string s.snap, .slice A m c] ∧ CR w A m sl s.l := by
  obtain ⟨⟨a, b, l⟩, hk, hg⟩ := opens79' H enc w base spare held n cs x h
  obtain ⟨c0, r0, rfl, h0, c1, r1, rfl, h1, A, c, rfl, hl, hC⟩ := hk
  have e0 : c0 = [.string a] := h0
  have e1 : c1 = [.string b] := h1
  subst e0 e1
  obtain ⟨sl, hcr⟩ := cr_open hC hg
  exact ⟨⟨a, b, l.map toC⟩, A, c, l.length, sl, rfl, hcr⟩
end Go.Proofs.Ytfefpbnhpncmlaa.StmZ
