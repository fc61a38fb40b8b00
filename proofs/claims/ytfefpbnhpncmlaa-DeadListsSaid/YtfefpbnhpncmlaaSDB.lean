/- Own texts, one behind the other, each with what the claim uses of it: DeaV DeaW DeaX DeaY DebA DebB DebC DebD DebE Opens CatZ. -/
import Derived.Test.YtfefpbnhpncmlaaChecked
import GoSem.Claim
import GoSem.ClaimJoined
import GoSem.ClaimMapViews
import Derived.JoinedTies
import Derived.KernelRfl
import Derived.Test.YtfefpbnhpncmlaaProg
import Derived.Below
import Derived.Deep.Draws
import Derived.Deep.AppendLies
import Derived.Maps.AppendAt
import Derived.OwnWalk
import Derived.Laws.BytesArg
import Derived.Laws.MakeOwn
import Derived.Laws.OwnMore
import Derived.Deep.OwnRows
import Derived.Tactics
import Derived.Lib.ConvBytes
import Derived.Laws.Slices
import Derived.WalkKit
import Derived.RowKit3
import Derived.Deep.LoopGhost
import Derived.Deep.QuietTactic
import Derived.BigQuiet
import Derived.WideLaws
import Derived.Deep.DeepCutAuto
import Derived.Deep.CutBlock
import Derived.Deep.RegionHeld3
import Derived.Laws.Rows
import Derived.Lib.AppendStr
import Derived.ArgAppend
import Derived.Laws.IdiomCopy
import Derived.OrdersHeld
import Derived.Laws.BitsLemmas
import Derived.RowKit
import Derived.Laws.StructEq
import Derived.Deep.Slices
import Derived.Shelf.Strconv.Itoa0
import Derived.Outline
import Derived.Lib.EndianBits
import Derived.Deep.WholeRow
import Derived.WalkSpells
import Derived.WalkSmall
import Derived.Laws.Tables
import Derived.Deep.MidRow
import Derived.Laws.CopyOwn
import Derived.Laws.Cover3
import Derived.LoopN
import Derived.Lib.SlBytesConst
import Derived.Lib.SmallJoins
import Derived.Lib.BytesEntry
import Derived.Laws.Externs
import Derived.Deep.Cut
import Derived.Lib.SliceRun
import Derived.OpenShut
import Derived.SizedLaws
import Derived.ChangeSlices
import Derived.ProofKit
import Derived.ShutString
import Derived.ChangeOld
import Derived.Test.YtfefpbnhpncmlaaWSized
import Derived.Test.YtfefpbnhpncmlaaWWords
import Derived.Test.YtfefpbnhpncmlaaSDA
namespace Go.Proofs.Ytfefpbnhpncmlaa.DeaV
open Go.RowKit Go.Proofs.Ytfefpbnhpncmlaa.EntL Go.Proofs.Ytfefpbnhpncmlaa.EntB Go.Proofs.Ytfefpbnhpncmlaa.EntC Go.Proofs.Ytfefpbnhpncmlaa.EntD Go.Proofs.Ytfefpbnhpncmlaa.EntE Go.Proofs.Ytfefpbnhpncmlaa.EntF Go.Proofs.Ytfefpbnhpncmlaa.CatR Go.Proofs.Ytfefpbnhpncmlaa.CatT Go.Proofs.Ytfefpbnhpncmlaa.CatU Go.Proofs.Ytfefpbnhpncmlaa.CatK Go.Proofs.Ytfefpbnhpncmlaa.CatS Go.Proofs.Ytfefpbnhpncmlaa.CatY Go.Proofs.Ytfefpbnhpncmlaa.RefG Go.Proofs.Ytfefpbnhpncmlaa.PtrB Go.Proofs.Ytfefpbnhpncmlaa.PtrG Go.Proofs.Ytfefpbnhpncmlaa.Agg Go.Proofs.Ytfefpbnhpncmlaa.B8 Go.Proofs.Ytfefpbnhpncmlaa.CodL Go.Proofs.Ytfefpbnhpncmlaa.CodA Go.Proofs.Ytfefpbnhpncmlaa.CodB Go.Proofs.Ytfefpbnhpncmlaa.CatL Go.Proofs.Ytfefpbnhpncmlaa.PtrA Go.Proofs.Ytfefpbnhpncmlaa.PtrE Go.Proofs.Ytfefpbnhpncmlaa.PtrF Go.Proofs.Ytfefpbnhpncmlaa.PBaseSigns Go.Proofs.YtfefpbnhpncmlaaW.PrintWords Go.Proofs.YtfefpbnhpncmlaaW.PrintLast Go.Proofs.YtfefpbnhpncmlaaW.PrintMore Go.Proofs.Ytfefpbnhpncmlaa.EntG Go.Proofs.Ytfefpbnhpncmlaa.StmA Go.Proofs.Ytfefpbnhpncmlaa.StmB Go.Proofs.Ytfefpbnhpncmlaa.StmC Go.Proofs.Ytfefpbnhpncmlaa.CrcC Go.Proofs.Ytfefpbnhpncmlaa.StmD Go.Proofs.Ytfefpbnhpncmlaa.StmE Go.Proofs.Ytfefpbnhpncmlaa.CrcL Go.Proofs.Ytfefpbnhpncmlaa.StmL Go.Proofs.Ytfefpbnhpncmlaa.StmF Go.Proofs.Ytfefpbnhpncmlaa.StmG Go.Proofs.Ytfefpbnhpncmlaa.StmH Go.Proofs.Ytfefpbnhpncmlaa.StmI Go.Proofs.Ytfefpbnhpncmlaa.StmJ Go.Proofs.Ytfefpbnhpncmlaa.StmK Go.Proofs.Ytfefpbnhpncmlaa.StmM Go.Proofs.Ytfefpbnhpncmlaa.StmN Go.Proofs.Ytfefpbnhpncmlaa.StmO Go.Proofs.Ytfefpbnhpncmlaa.StmP Go.Proofs.Ytfefpbnhpncmlaa.StmP Go.Proofs.Ytfefpbnhpncmlaa.DeaA Go.Proofs.Ytfefpbnhpncmlaa.DeaB Go.Proofs.Ytfefpbnhpncmlaa.DeaN Go.Proofs.Ytfefpbnhpncmlaa.DeaC Go.Proofs.Ytfefpbnhpncmlaa.DeaR Go.Proofs.Ytfefpbnhpncmlaa.DeaL Go.Proofs.Ytfefpbnhpncmlaa.DeaS Go.Proofs.Ytfefpbnhpncmlaa.DeaT Go.Proofs.Ytfefpbnhpncmlaa.DeaU
set_option linter.unusedVariables false
set_option linter.unusedSimpArgs false

theorem split_facts {u v : List Ptr} (hsu : Srt keyN u) (hsv : Srt keyN v) (i q : Nat) (hi : i ≤ u.length) (hq : q ≤ v.length)
    (h1 : i = 0 ∨ q = v.length ∨ keyN (u.getD (i - 1) zeroP) ≤ keyN (v.getD q zeroP)) (h2 : i = u.length ∨ q = 0 ∨ keyN (v.getD (q - 1) zeroP) < keyN (u.getD i zeroP)) :
    mrg keyN u v = mrg keyN (u.take i) (v.take q) ++ mrg keyN (u.drop i) (v.drop q) := by
  have e := mrg_split (k := keyN) (u.take i) (u.drop i) (v.take q) (v.drop q) (fun y hy x hx => by
    obtain ⟨j, j1, j2, rfl⟩ := mem_take_at hy
    obtain ⟨l, l1, l2, rfl⟩ := mem_drop_at hx
    rcases h2 with h | h | h
    · omega
    · omega
    · have := srt_le hsv (i := j) (j := q - 1) (by omega) (by omega)
      have := srt_le hsu (i := i) (j := l) l1 l2
      omega) (fun x hx y hy => by
    obtain ⟨j, j1, j2, rfl⟩ := mem_take_at hx
    obtain ⟨l, l1, l2, rfl⟩ := mem_drop_at hy
    rcases h1 with h | h | h
    · omega
    · omega
    · have := srt_le hsu (i := j) (j := i - 1) (by omega) (by omega)
      have := srt_le hsv (i := q) (j := l) l1 l2
      omega)
  rwa [List.take_append_drop, List.take_append_drop] at e
theorem srt_take {u : List Ptr} (h : Srt keyN u) (i : Nat) : Srt keyN (u.take i) := by
  have h2 := h
  unfold Srt at h2
  rw [← List.take_append_drop i u] at h2
  exact (List.pairwise_append.1 h2).1
theorem srt_drop {u : List Ptr} (h : Srt keyN u) (i : Nat) : Srt keyN (u.drop i) := by
  have h2 := h
  unfold Srt at h2
  rw [← List.take_append_drop i u] at h2
  exact (List.pairwise_append.1 h2).2.1
theorem len_mrg (u v : List Ptr) : (mrg keyN u v).length = u.length + v.length := by
  induction u generalizing v with
  | nil => rw [mrg_nil_left]; simp
  | cons x u ihu =>
    induction v with
    | nil => rw [mrg_nil_right]; simp
    | cons y v ihv =>
      by_cases h : keyN y < keyN x
      · rw [mrg_lt h]; simp [ihv]; omega
      · rw [mrg_ge h]; simp [ihu]; omega
set_option maxRecDepth 100000 in
set_option maxHeartbeats 8000000 in
theorem sym_calls (B : World) (g nn cap : Nat) (hn : nn ≤ 1000) (N : Nat) : ∀ (pre u v post : List Ptr) (W : World) (a m b : Nat), u.length + v.length = N → 0 < u.length → 0 < v.length → Srt keyN u → Srt keyN v → a = pre.length → m = a + u.length → b = m + v.length → DR B g nn cap (pre ++ (u ++ (v ++ post))) W →
    Calls Try.prog 129 #[.slice (some ⟨g, 0, none⟩) nn cap, .int .i64 (a : Int), .int .i64 (m : Int), .int .i64 (b : Int), .func (.func 82) #[] #[]] W (TellsSym B g nn cap (pre ++ (mrg keyN u v ++ post))) := by
  induction N using Nat.strongRecOn with
  | _ N ih =>
  intro pre u v post W a m b hN hu0 hv0 hsu hsv ha hm hb H
  by_cases hu1 : u.length = 1
  · obtain ⟨x, rfl⟩ := List.length_eq_one_iff.1 hu1
    exact sym1_calls B g nn cap pre v post x W a m b ha hm hb hn hsv H
  by_cases hv1 : v.length = 1
  · obtain ⟨y, rfl⟩ := List.length_eq_one_iff.1 hv1
    exact sym2_calls B g nn cap pre u post y W a m b ha hm hb (by omega) hn hsu H
  have hlen : nn = pre.length + (u.length + (v.length + post.length)) := by have := H.len; simp only [List.length_append] at this; omega
  have hbn : a < m ∧ m < b ∧ b ≤ nn := by omega
  obtain ⟨d, hd⟩ : ∃ d, d = u.length := ⟨_, rfl⟩
  obtain ⟨d2, hd2⟩ : ∃ d, d = v.length := ⟨_, rfl⟩
  have hma : (m : Int) - (a : Int) = (d : Int) := by omega
  have hmb : (b : Int) - (m : Int) = (d2 : Int) := by omega
  have hd1 : ((d : Int) == 1) = false := by simp; omega
  have hdd : ((d2 : Int) == 1) = false := by simp; omega
  obtain ⟨mid, hmid⟩ : ∃ mid, mid = (a + b) / 2 := ⟨_, rfl⟩
  have hmidI : ((a : Int) + (b : Int)) / 2 = (mid : Int) := by omega
  obtain ⟨n, hnn⟩ : ∃ n, n = mid + m := ⟨_, rfl⟩
  have hnI : (mid : Int) + (m : Int) = (n : Int) := by omega
  obtain ⟨p, hp⟩ : ∃ p, n = p + 1 := ⟨n - 1, by omega⟩
  have hpI : (n : Int) - 1 = (p : Int) := by omega
  have hmids : mid ≤ nn ∧ n ≤ 2000 ∧ p ≤ 2000 := by omega
  have HE := Aside0.mk (And.intro ha (And.intro hm (And.intro hb hlen)))
  have HN := Aside0.mk (And.intro hmid (And.intro hnn hp))
  have HU2 := Aside0.mk (show 2 ≤ u.length ∧ 2 ≤ v.length by omega)
  have HSU := Aside0.mk hsu
  have HSV := Aside0.mk hsv
  have HIH := Aside0.mk ih
  have HNN := Aside0.mk hN
  have H0 := Aside0.mk H
  obtain ⟨P, hP⟩ : ∃ P : Ending → World → Prop, P = TellsSym B g nn cap (pre ++ (mrg keyN u v ++ post)) := ⟨_, rfl⟩
  rw [← hP]
  have HP := Aside0.mk hP
  clear hP H ha hm hb hlen hsu hsv ih hN hd hd2 hmid hnn hp hu0 hv0 hu1 hv1
  go_enter Try.func129, Try.ntmps129
  go_upto_if 140 with fail
  clear hma hmb hd1 hdd hmidI hnI
  go_cut [20, 21] from 141 (fun s20 s21 wx => ∃ S R : Nat, s20 = .int .i64 (S : Int) ∧ s21 = .int .i64 (R : Int) ∧ wx = W ∧ a ≤ S ∧ S ≤ R ∧ R ≤ m ∧ R ≤ mid ∧ Aside0 (mid ≤ v.length + S ∧ (S = a ∨ S + v.length = mid) ∧ (R = m ∨ R = mid)))
  case first =>
    by_cases hmm : mid < m
    · obtain ⟨S, hS⟩ : ∃ S, S = n - b := ⟨_, rfl⟩
      have hSI : (n : Int) - (b : Int) = (S : Int) := by have := HE.out; have := HN.out; have := HU2.out; omega
      have HS := Aside0.mk hS
      clear hS
      go_wp2
      go_meet
      case rel => exact ⟨S, mid, rfl, rfl, rfl, by have := HE.out; have := HN.out; have := HS.out; omega, by have := HE.out; have := HN.out; have := HS.out; omega, by omega, Nat.le_refl _, ⟨by have := HE.out; have := HN.out; have := HS.out; omega⟩⟩
    · go_wp2
      go_meet
      case rel => exact ⟨a, m, rfl, rfl, rfl, Nat.le_refl _, by omega, Nat.le_refl _, by omega, ⟨by have := HE.out; have := HN.out; omega⟩⟩
  case rest =>
  obtain ⟨S0, R0, rfl, rfl, rfl, haS, hSR, hRm, hRmid, HSR⟩ := hcut
  go_wp2
  go_loopw [20, 21] (fun v20 v21 wr => ∃ (S R : Nat), v20 = .int .i64 (S : Int) ∧ v21 = .int .i64 (R : Int) ∧ a ≤ S ∧ S ≤ R ∧ R ≤ m ∧ R ≤ mid ∧ Aside0 (mid ≤ v.length + S) ∧ Aside0 (S = S0 ∨ keyN (u.getD (S - 1 - a) zeroP) ≤ keyN (v.getD (mid - S) zeroP)) ∧ Aside0 (R = R0 ∨ keyN (v.getD (mid - 1 - R) zeroP) < keyN (u.getD (R - a) zeroP)) ∧ Aside0 (S0 ≤ S ∧ R ≤ R0) ∧ Aside0 (DR B g nn cap (pre ++ (u ++ (v ++ post))) wr)) (fun p q _ => (intOf q).toNat - (intOf p).toNat)
  case atStart => exact ⟨S0, R0, rfl, rfl, haS, hSR, hRm, hRmid, ⟨HSR.out.1⟩, ⟨.inl rfl⟩, ⟨.inl rfl⟩, ⟨Nat.le_refl _, Nat.le_refl _⟩, H0⟩
  case round =>
    obtain ⟨i, j, rfl, rfl, hai, hij, hjm, hjmid, HLOW, HL, HR, HO, H⟩ := hrel
    clear H0
    by_cases hlt : i < j
    · obtain ⟨c, hc⟩ : ∃ c, c = (i + j) / 2 := ⟨_, rfl⟩
      have hb3 : i ≤ c ∧ c < j := by omega
      have hcn : c < nn := by omega
      have hh2 : ((i : Int) + (j : Int)) / 2 = (c : Int) := by omega
      obtain ⟨q, hq⟩ : ∃ q, q = p - c := ⟨_, rfl⟩
      have hqI : (p : Int) - (c : Int) = (q : Int) := by have := HN.out; omega
      have hqn : q < nn := by have := HN.out; have := HE.out; have := HLOW.out; omega
      have HQ := Aside0.mk (show q = m + (mid - 1 - c) by have := HN.out; omega)
      have HQ2 := Aside0.mk (show mid - 1 - c < v.length ∧ c < mid ∧ c < m by have := HLOW.out; omega)
      have HD := Aside0.mk (H.out.on (below_drew (Below.refl _ _)))
      clear hc H hq
      obtain ⟨x, hx⟩ : ∃ x, x = u.getD (c - a) zeroP := ⟨_, rfl⟩
      obtain ⟨y, hy⟩ : ∃ y, y = v.getD (mid - 1 - c) zeroP := ⟨_, rfl⟩
      have HPq := Aside0.mk (show Ok x ∧ wr.drew.rangeAt g (c * 36) (encP x).toList by
        have h1 := HD.out.at_ c (by omega)
        have e := getD_seg pre u (v ++ post) c (by have := HE.out; omega) (by have := HE.out; omega)
        rw [e, show c - pre.length = c - a by have := HE.out; omega, ← hx] at h1
        exact h1)
      have HPp := Aside0.mk (show Ok y ∧ wr.drew.rangeAt g (q * 36) (encP y).toList by
        have h1 := HD.out.at_ q (by omega)
        have e := getD_seg (pre ++ u) v post q (by have := HE.out; have := HQ.out; rw [List.length_append]; omega) (by have := HE.out; have := HQ.out; have := HQ2.out; rw [List.length_append]; omega)
        rw [List.append_assoc] at e
        rw [e, show q - (pre ++ u).length = mid - 1 - c by have := HE.out; have := HQ.out; rw [List.length_append]; omega, ← hy] at h1
        exact h1)
      have HX := Aside0.mk hx
      have HY := Aside0.mk hy
      clear hx hy
      by_cases hk : keyN y < keyN x
      · have ht : decide (tri (keyN y) (keyN x) < 0) = true := by rw [tri_neg]; exact decide_eq_true hk
        have HR3 := Aside0.mk (show c = R0 ∨ keyN (v.getD (mid - 1 - c) zeroP) < keyN (u.getD (c - a) zeroP) from .inr (by rw [← HX.out, ← HY.out]; exact hk))
        clear hk
        go_wp2
        refine wp_region_held_drew (S := fun w' => Below wr.drew.heap.size wr.drew w') (by kernel_rfl) (Below.refl _ _) (fun hW => ?_)
        generalize hWd : wr.drew = Wd at *
        clear hWd
        refine wpAnyH_take (i := 0) (oi := ⟨some 158, _, _, _, _, _⟩) (v := .func (.func 82) #[] #[]) rfl (by kernel_rfl) (by kernel_rfl) (by kernel_rfl) (fun _ _ _ h => h) (.inl ⟨by rfl, fun W1 h1 => by go_simp⟩) hW ?_
        try simp only [Act.put, List.setIfInBounds_toArray, List.set_cons_zero, List.set_cons_succ]
        refine wpAnyH_take (i := 1) (oi := ⟨some 159, _, _, _, _, _⟩) (v := .slice (some ⟨g, 0, none⟩) nn cap) rfl (by kernel_rfl) (by kernel_rfl) (by kernel_rfl) (fun _ _ _ h => h) (.inl ⟨by rfl, fun W1 h1 => by go_simp⟩) hW ?_
        try simp only [Act.put, List.setIfInBounds_toArray, List.set_cons_zero, List.set_cons_succ]
        refine wpAnyH_take (i := 2) (oi := ⟨some 160, _, _, _, _, _⟩) (v := .int .i64 (p : Int)) rfl (by kernel_rfl) (by kernel_rfl) (by kernel_rfl) (fun _ _ _ h => h) (.inl ⟨by rfl, fun W1 h1 => by go_simp⟩) hW ?_
        try simp only [Act.put, List.setIfInBounds_toArray, List.set_cons_zero, List.set_cons_succ]
        refine wpAnyH_take (i := 3) (oi := ⟨some 161, _, _, _, _, _⟩) (v := .int .i64 (c : Int)) rfl (by kernel_rfl) (by kernel_rfl) (by kernel_rfl) (fun _ _ _ h => h) (.inl ⟨by rfl, fun W1 h1 => by go_simp⟩) hW ?_
        try simp only [Act.put, List.setIfInBounds_toArray, List.set_cons_zero, List.set_cons_succ]
        refine wpAnyH_take (i := 4) (oi := ⟨some 162, _, _, _, _, _⟩) (v := .int .i64 (q : Int)) rfl (by kernel_rfl) (by kernel_rfl) (by kernel_rfl) (fun _ _ _ h => h) (.inl ⟨by rfl, fun W1 h1 => by go_simp; rw [IntKind.wrap_i64]; omega⟩) hW ?_
        try simp only [Act.put, List.setIfInBounds_toArray, List.set_cons_zero, List.set_cons_succ]
        refine wpAnyH_take (i := 5) (oi := ⟨some 163, _, _, _, _, _⟩) (v := .pointer (some ⟨g, q * 36, none⟩)) rfl (by kernel_rfl) (by kernel_rfl) (by kernel_rfl) (fun _ _ _ h => h) (.inl ⟨by rfl, fun W1 h1 => by go_simp⟩) hW ?_
        try simp only [Act.put, List.setIfInBounds_toArray, List.set_cons_zero, List.set_cons_succ]
        refine wpAnyH_take (i := 6) (oi := ⟨some 164, _, _, _, _, _⟩) rfl (by kernel_rfl) (by kernel_rfl) (by kernel_rfl) (fun _ _ _ h => h) (yieldsIf_load_P (by rfl) _ rfl g (q * 36) y HPp.out.1 rfl (fun W1 h1 => rangeAt_below HPp.out.2 h1 (blk_g HD.out))) hW ?_
        try simp only [Act.put, List.setIfInBounds_toArray, List.set_cons_zero, List.set_cons_succ]
        refine wpAnyH_take (i := 7) (oi := ⟨some 165, _, _, _, _, _⟩) (v := .slice (some ⟨g, 0, none⟩) nn cap) rfl (by kernel_rfl) (by kernel_rfl) (by kernel_rfl) (fun _ _ _ h => h) (.inl ⟨by rfl, fun W1 h1 => by go_simp⟩) hW ?_
        try simp only [Act.put, List.setIfInBounds_toArray, List.set_cons_zero, List.set_cons_succ]
        refine wpAnyH_take (i := 8) (oi := ⟨some 166, _, _, _, _, _⟩) (v := .int .i64 (c : Int)) rfl (by kernel_rfl) (by kernel_rfl) (by kernel_rfl) (fun _ _ _ h => h) (.inl ⟨by rfl, fun W1 h1 => by go_simp⟩) hW ?_
        try simp only [Act.put, List.setIfInBounds_toArray, List.set_cons_zero, List.set_cons_succ]
        refine wpAnyH_take (i := 9) (oi := ⟨some 167, _, _, _, _, _⟩) (v := .pointer (some ⟨g, c * 36, none⟩)) rfl (by kernel_rfl) (by kernel_rfl) (by kernel_rfl) (fun _ _ _ h => h) (.inl ⟨by rfl, fun W1 h1 => by go_simp⟩) hW ?_
        try simp only [Act.put, List.setIfInBounds_toArray, List.set_cons_zero, List.set_cons_succ]
        refine wpAnyH_take (i := 10) (oi := ⟨some 168, _, _, _, _, _⟩) rfl (by kernel_rfl) (by kernel_rfl) (by kernel_rfl) (fun _ _ _ h => h) (yieldsIf_load_P (by rfl) _ rfl g (c * 36) x HPq.out.1 rfl (fun W1 h1 => rangeAt_below HPq.out.2 h1 (blk_g HD.out))) hW ?_
        try simp only [Act.put, List.setIfInBounds_toArray, List.set_cons_zero, List.set_cons_succ]
        refine wpAnyH_ready (rs := [11]) (by kernel_rfl) (by simp) (AllReadyH.cons rfl (fun K1 hK1 => ?_) AllReadyH.nil)
        go_simp
        refine (compare_calls y x HPp.out.1 HPq.out.1 Wd).mono ?_
        rintro e W1 ⟨rfl, hb1⟩
        have HV := Aside0.mk (HD.out.on hb1)
        refine hK1.out _ _ (below_then hW hW.size hb1) (fun hW => ?_)
        try simp only [Act.put, List.setIfInBounds_toArray, List.set_cons_zero, List.set_cons_succ]
        refine wpAnyH_take (i := 12) (oi := ⟨some 170, _, _, _, _, _⟩) (v := .bool true) rfl (by kernel_rfl) (by kernel_rfl) (by kernel_rfl) (fun _ _ _ h => h) (.inl ⟨by rfl, fun W1 h1 => by go_simp⟩) hW ?_
        try simp only [Act.put, List.setIfInBounds_toArray, List.set_cons_zero, List.set_cons_succ]
        refine wpAnyH_take (i := 13) (oi := ⟨some 171, _, _, _, _, _⟩) (v := .bool false) rfl (by kernel_rfl) (by kernel_rfl) (by kernel_rfl) (fun _ _ _ h => h) (.inl ⟨by rfl, fun W1 h1 => by go_simp⟩) hW ?_
        try simp only [Act.put, List.setIfInBounds_toArray, List.set_cons_zero, List.set_cons_succ]
        refine wpAnyH_done (by kernel_rfl) ?_ _
        clear hW hb1 hK1 K1 HD
        go_wp2
        go_roundw
        case rel => exact ⟨i, c, rfl, rfl, hai, by omega, by omega, by omega, HLOW, HL, HR3, ⟨by have := HO.out; omega⟩, HV⟩
        case measure => simp [intOf]; omega
      · have hf : decide (tri (keyN y) (keyN x) < 0) = false := by rw [tri_neg]; exact decide_eq_false hk
        have HL3 := Aside0.mk (show c + 1 = S0 ∨ keyN (u.getD (c + 1 - 1 - a) zeroP) ≤ keyN (v.getD (mid - (c + 1)) zeroP) from .inr (by
          rw [show c + 1 - 1 - a = c - a by omega, show mid - (c + 1) = mid - 1 - c by omega, ← HX.out, ← HY.out]; omega))
        clear hk
        go_wp2
        refine wp_region_held_drew (S := fun w' => Below wr.drew.heap.size wr.drew w') (by kernel_rfl) (Below.refl _ _) (fun hW => ?_)
        generalize hWd : wr.drew = Wd at *
        clear hWd
        refine wpAnyH_take (i := 0) (oi := ⟨some 158, _, _, _, _, _⟩) (v := .func (.func 82) #[] #[]) rfl (by kernel_rfl) (by kernel_rfl) (by kernel_rfl) (fun _ _ _ h => h) (.inl ⟨by rfl, fun W1 h1 => by go_simp⟩) hW ?_
        try simp only [Act.put, List.setIfInBounds_toArray, List.set_cons_zero, List.set_cons_succ]
        refine wpAnyH_take (i := 1) (oi := ⟨some 159, _, _, _, _, _⟩) (v := .slice (some ⟨g, 0, none⟩) nn cap) rfl (by kernel_rfl) (by kernel_rfl) (by kernel_rfl) (fun _ _ _ h => h) (.inl ⟨by rfl, fun W1 h1 => by go_simp⟩) hW ?_
        try simp only [Act.put, List.setIfInBounds_toArray, List.set_cons_zero, List.set_cons_succ]
        refine wpAnyH_take (i := 2) (oi := ⟨some 160, _, _, _, _, _⟩) (v := .int .i64 (p : Int)) rfl (by kernel_rfl) (by kernel_rfl) (by kernel_rfl) (fun _ _ _ h => h) (.inl ⟨by rfl, fun W1 h1 => by go_simp⟩) hW ?_
        try simp only [Act.put, List.setIfInBounds_toArray, List.set_cons_zero, List.set_cons_succ]
        refine wpAnyH_take (i := 3) (oi := ⟨some 161, _, _, _, _, _⟩) (v := .int .i64 (c : Int)) rfl (by kernel_rfl) (by kernel_rfl) (by kernel_rfl) (fun _ _ _ h => h) (.inl ⟨by rfl, fun W1 h1 => by go_simp⟩) hW ?_
        try simp only [Act.put, List.setIfInBounds_toArray, List.set_cons_zero, List.set_cons_succ]
        refine wpAnyH_take (i := 4) (oi := ⟨some 162, _, _, _, _, _⟩) (v := .int .i64 (q : Int)) rfl (by kernel_rfl) (by kernel_rfl) (by kernel_rfl) (fun _ _ _ h => h) (.inl ⟨by rfl, fun W1 h1 => by go_simp; rw [IntKind.wrap_i64]; omega⟩) hW ?_
        try simp only [Act.put, List.setIfInBounds_toArray, List.set_cons_zero, List.set_cons_succ]
        refine wpAnyH_take (i := 5) (oi := ⟨some 163, _, _, _, _, _⟩) (v := .pointer (some ⟨g, q * 36, none⟩)) rfl (by kernel_rfl) (by kernel_rfl) (by kernel_rfl) (fun _ _ _ h => h) (.inl ⟨by rfl, fun W1 h1 => by go_simp⟩) hW ?_
        try simp only [Act.put, List.setIfInBounds_toArray, List.set_cons_zero, List.set_cons_succ]
        refine wpAnyH_take (i := 6) (oi := ⟨some 164, _, _, _, _, _⟩) rfl (by kernel_rfl) (by kernel_rfl) (by kernel_rfl) (fun _ _ _ h => h) (yieldsIf_load_P (by rfl) _ rfl g (q * 36) y HPp.out.1 rfl (fun W1 h1 => rangeAt_below HPp.out.2 h1 (blk_g HD.out))) hW ?_
        try simp only [Act.put, List.setIfInBounds_toArray, List.set_cons_zero, List.set_cons_succ]
        refine wpAnyH_take (i := 7) (oi := ⟨some 165, _, _, _, _, _⟩) (v := .slice (some ⟨g, 0, none⟩) nn cap) rfl (by kernel_rfl) (by kernel_rfl) (by kernel_rfl) (fun _ _ _ h => h) (.inl ⟨by rfl, fun W1 h1 => by go_simp⟩) hW ?_
        try simp only [Act.put, List.setIfInBounds_toArray, List.set_cons_zero, List.set_cons_succ]
        refine wpAnyH_take (i := 8) (oi := ⟨some 166, _, _, _, _, _⟩) (v := .int .i64 (c : Int)) rfl (by kernel_rfl) (by kernel_rfl) (by kernel_rfl) (fun _ _ _ h => h) (.inl ⟨by rfl, fun W1 h1 => by go_simp⟩) hW ?_
        try simp only [Act.put, List.setIfInBounds_toArray, List.set_cons_zero, List.set_cons_succ]
        refine wpAnyH_take (i := 9) (oi := ⟨some 167, _, _, _, _, _⟩) (v := .pointer (some ⟨g, c * 36, none⟩)) rfl (by kernel_rfl) (by kernel_rfl) (by kernel_rfl) (fun _ _ _ h => h) (.inl ⟨by rfl, fun W1 h1 => by go_simp⟩) hW ?_
        try simp only [Act.put, List.setIfInBounds_toArray, List.set_cons_zero, List.set_cons_succ]
        refine wpAnyH_take (i := 10) (oi := ⟨some 168, _, _, _, _, _⟩) rfl (by kernel_rfl) (by kernel_rfl) (by kernel_rfl) (fun _ _ _ h => h) (yieldsIf_load_P (by rfl) _ rfl g (c * 36) x HPq.out.1 rfl (fun W1 h1 => rangeAt_below HPq.out.2 h1 (blk_g HD.out))) hW ?_
        try simp only [Act.put, List.setIfInBounds_toArray, List.set_cons_zero, List.set_cons_succ]
        refine wpAnyH_ready (rs := [11]) (by kernel_rfl) (by simp) (AllReadyH.cons rfl (fun K1 hK1 => ?_) AllReadyH.nil)
        go_simp
        refine (compare_calls y x HPp.out.1 HPq.out.1 Wd).mono ?_
        rintro e W1 ⟨rfl, hb1⟩
        have HV := Aside0.mk (HD.out.on hb1)
        refine hK1.out _ _ (below_then hW hW.size hb1) (fun hW => ?_)
        try simp only [Act.put, List.setIfInBounds_toArray, List.set_cons_zero, List.set_cons_succ]
        refine wpAnyH_take (i := 12) (oi := ⟨some 170, _, _, _, _, _⟩) (v := .bool false) rfl (by kernel_rfl) (by kernel_rfl) (by kernel_rfl) (fun _ _ _ h => h) (.inl ⟨by rfl, fun W1 h1 => by go_simp⟩) hW ?_
        try simp only [Act.put, List.setIfInBounds_toArray, List.set_cons_zero, List.set_cons_succ]
        refine wpAnyH_take (i := 13) (oi := ⟨some 171, _, _, _, _, _⟩) (v := .bool true) rfl (by kernel_rfl) (by kernel_rfl) (by kernel_rfl) (fun _ _ _ h => h) (.inl ⟨by rfl, fun W1 h1 => by go_simp⟩) hW ?_
        try simp only [Act.put, List.setIfInBounds_toArray, List.set_cons_zero, List.set_cons_succ]
        refine wpAnyH_done (by kernel_rfl) ?_ _
        clear hW hb1 hK1 K1 HD
        go_wp2
        go_roundw
        case rel => exact ⟨c + 1, j, by go_num, rfl, by omega, by omega, hjm, hjmid, ⟨by have := HLOW.out; omega⟩, HL3, HR, ⟨by have := HO.out; omega⟩, HV⟩
        case measure => simp [intOf]; omega
    · have hij' : i = j := by omega
      subst hij'
      obtain ⟨E, hE⟩ : ∃ E, E = n - i := ⟨_, rfl⟩
      have hEI : (n : Int) - (i : Int) = (E : Int) := by have := HN.out; omega
      have HEE := Aside0.mk (show E = m + (mid - i) by have := HN.out; omega)
      have HMG := Aside0.mk (split_facts HSU.out HSV.out (i - a) (mid - i) (by have := HE.out; omega) (by have := HLOW.out; omega)
        (by
          rcases HL.out with h | h
          · rcases HSR.out.2.1 with h2 | h2
            · exact .inl (by omega)
            · exact .inr (.inl (by omega))
          · exact .inr (.inr (by rw [show i - a - 1 = i - 1 - a by omega]; exact h)))
        (by
          rcases HR.out with h | h
          · rcases HSR.out.2.2 with h2 | h2
            · exact .inl (by have := HE.out; omega)
            · exact .inr (.inl (by omega))
          · exact .inr (.inr (by rw [show mid - i - 1 = mid - 1 - i by omega]; exact h))))
      obtain ⟨u1, hu1⟩ : ∃ u1, u1 = u.take (i - a) := ⟨_, rfl⟩
      obtain ⟨w2, hw2⟩ : ∃ w2, w2 = u.drop (i - a) := ⟨_, rfl⟩
      obtain ⟨v1, hv1⟩ : ∃ v1, v1 = v.take (mid - i) := ⟨_, rfl⟩
      obtain ⟨x2, hx2⟩ : ∃ x2, x2 = v.drop (mid - i) := ⟨_, rfl⟩
      have HS4 := Aside0.mk (show Srt keyN u1 ∧ Srt keyN w2 ∧ Srt keyN v1 ∧ Srt keyN x2 by rw [hu1, hw2, hv1, hx2]; exact ⟨srt_take HSU.out _, srt_drop HSU.out _, srt_take HSV.out _, srt_drop HSV.out _⟩)
      have HL4 := Aside0.mk (show i = a + u1.length ∧ m = i + w2.length ∧ mid = i + v1.length ∧ b = mid + w2.length + x2.length ∧ E = mid + w2.length by
        rw [hu1, hw2, hv1, hx2, List.length_take, List.length_drop, List.length_take, List.length_drop]
        have := HE.out; have := HEE.out; have := HLOW.out; omega)
      have HUV := Aside0.mk (show u = u1 ++ w2 ∧ v = v1 ++ x2 by rw [hu1, hw2, hv1, hx2, List.take_append_drop, List.take_append_drop]; exact ⟨rfl, rfl⟩)
      have HMG := Aside0.mk (show mrg keyN u v = mrg keyN u1 v1 ++ mrg keyN w2 x2 by rw [hu1, hw2, hv1, hx2]; exact HMG.out)
      have H1 := Aside0.mk (show DR B g nn cap (pre ++ (u1 ++ (w2 ++ (v1 ++ (x2 ++ post))))) wr by
        have := H.out
        rw [HUV.out.1, HUV.out.2] at this
        simpa using this)
      clear hE hu1 hw2 hv1 hx2 H HL HR
      have hEb : m ≤ E ∧ mid ≤ E ∧ E ≤ b := by have := HL4.out; have := HEE.out; omega
      go_upto_region 39 with fail
      go_cut [185] from 178 (fun s185 wx => s185 = .bool (decide (i < m ∧ m < E)) ∧ wx = wr)
      case first =>
        by_cases h1 : i < m
        · by_cases h2 : m < E
          · go_wp2
            go_meet
            case rel => exact ⟨by simp [h1, h2], rfl⟩
          · go_wp2
            go_meet
            case rel => exact ⟨by simp [h1, h2], rfl⟩
        · go_wp2
          go_meet
          case rel => exact ⟨by simp [h1], rfl⟩
      case rest =>
      obtain ⟨rfl, rfl⟩ := hcut
      go_upto_if 185 with fail
      go_cut [] from 185 (fun wx => Aside0 (DR B g nn cap (pre ++ (u1 ++ (v1 ++ (w2 ++ (x2 ++ post))))) wx))
      case first =>
        by_cases hro : i < m ∧ m < E
        · have hrb : decide (i < m ∧ m < E) = true := decide_eq_true hro
          have HRO := Aside0.mk hro
          clear hro
          rw [hrb]
          go_wp2_with fail
          refine (rotate_calls B g nn cap (pre ++ u1) w2 v1 (x2 ++ post) wc i m E (by have := HL4.out; have := HE.out; rw [List.length_append]; omega) (by have := HL4.out; omega) (by have := HL4.out; omega) (by have := HL4.out; have := HRO.out; omega) (by have := HL4.out; have := HRO.out; omega) hn _ (by rw [List.append_assoc]; exact H1.out)).mono ?_
          rintro e w2' ⟨rfl, h2⟩
          have H2 := Aside0.mk h2
          clear h2
          go_wp2
          go_meet
          case rel => exact ⟨by have := H2.out; rw [List.append_assoc] at this; exact this⟩
        · have hrb : decide (i < m ∧ m < E) = false := decide_eq_false hro
          have HRO := Aside0.mk hro
          clear hro
          rw [hrb]
          go_wp2
          go_meet
          case rel => exact ⟨by
            have h3 : w2 = [] ∨ v1 = [] := by
              by_cases h : w2 = []
              · exact .inl h
              · have := List.length_pos_iff.2 h
                exact .inr (List.length_eq_zero_iff.1 (by have := HL4.out; have := HRO.out; omega))
            have := H1.out
            rcases h3 with h | h
            · rw [h] at this ⊢; simpa using this
            · rw [h] at this ⊢; simpa using this⟩
      case rest =>
      have H1b := hcut
      clear H1 hcut
      go_upto_region 41 with fail
      go_cut [199] from 192 (fun s199 wx => s199 = .bool (decide (a < i ∧ i < mid)) ∧ Aside0 (DR B g nn cap (pre ++ (u1 ++ (v1 ++ (w2 ++ (x2 ++ post))))) wx))
      case first =>
        by_cases h1 : a < i
        · by_cases h2 : i < mid
          · go_wp2
            go_meet
            case rel => exact ⟨by simp [h1, h2], H1b⟩
          · go_wp2
            go_meet
            case rel => exact ⟨by simp [h1, h2], H1b⟩
        · go_wp2
          go_meet
          case rel => exact ⟨by simp [h1], H1b⟩
      case rest =>
      obtain ⟨rfl, H2⟩ := hcut
      clear H1b
      go_upto_if 199 with fail
      go_cut [] from 199 (fun wx => Aside0 (DR B g nn cap (pre ++ (mrg keyN u1 v1 ++ (w2 ++ (x2 ++ post)))) wx))
      case first =>
        by_cases hro : a < i ∧ i < mid
        · have hrb : decide (a < i ∧ i < mid) = true := decide_eq_true hro
          have HRO := Aside0.mk hro
          clear hro
          rw [hrb]
          go_wp2_with fail
          refine (HIH.out (u1.length + v1.length) (by have := HL4.out; have := HN.out; have := HE.out; have := HU2.out; have := HNN.out; have h1 := congrArg List.length HUV.out.1; have h2 := congrArg List.length HUV.out.2; rw [List.length_append] at h1 h2; omega) pre u1 v1 (w2 ++ (x2 ++ post)) _ a i mid rfl (by have := HL4.out; have := HRO.out; omega) (by have := HL4.out; have := HRO.out; omega) HS4.out.1 HS4.out.2.2.1 HE.out.1 (by have := HL4.out; omega) (by have := HL4.out; omega) H2.out).mono ?_
          rintro e w2' ⟨rfl, h2⟩
          have H3 := Aside0.mk h2
          clear h2
          go_wp2
          go_meet
          case rel => exact H3
        · have hrb : decide (a < i ∧ i < mid) = false := decide_eq_false hro
          have HRO := Aside0.mk hro
          clear hro
          rw [hrb]
          go_wp2
          go_meet
          case rel => exact ⟨by
            have h3 : u1 = [] ∨ v1 = [] := by
              by_cases h : u1 = []
              · exact .inl h
              · have := List.length_pos_iff.2 h
                exact .inr (List.length_eq_zero_iff.1 (by have := HL4.out; have := HRO.out; omega))
            have := H2.out
            rcases h3 with h | h
            · rw [h, mrg_nil_left]; rw [h] at this; simpa using this
            · rw [h, mrg_nil_right]; rw [h] at this; simpa using this⟩
      case rest =>
      have H3 := hcut
      clear hcut H2
      go_upto_region 43 with fail
      have H4 := Aside0.mk (show DR B g nn cap ((pre ++ mrg keyN u1 v1) ++ (w2 ++ (x2 ++ post))) wc by rw [List.append_assoc]; exact H3.out)
      clear H3
      by_cases hro : mid < E ∧ E < b
      · obtain ⟨h1, h2⟩ := hro
        go_wp2_with fail
        refine (HIH.out (w2.length + x2.length) (by have := HL4.out; have := HN.out; have := HE.out; have := HU2.out; have := HNN.out; have h1 := congrArg List.length HUV.out.1; have h2 := congrArg List.length HUV.out.2; rw [List.length_append] at h1 h2; omega) (pre ++ mrg keyN u1 v1) w2 x2 post _ mid E b rfl (by have := HL4.out; omega) (by have := HL4.out; omega) HS4.out.2.1 HS4.out.2.2.2 (by rw [List.length_append, len_mrg]; have := HL4.out; have := HE.out; omega) (by have := HL4.out; omega) (by have := HL4.out; omega) H4.out).mono ?_
        rintro e w2' ⟨rfl, h2⟩
        have H5 := Aside0.mk h2
        clear h2
        go_wp2
        go_end0
        rw [HP.out]
        exact ⟨rfl, by have := H5.out; rw [HMG.out]; simpa using this⟩
      · have HRO := Aside0.mk hro
        have H5 := Aside0.mk (show DR B g nn cap (pre ++ (mrg keyN u v ++ post)) wc by
          have h3 : w2 = [] ∨ x2 = [] := by
            by_cases h : w2 = []
            · exact .inl h
            · have := List.length_pos_iff.2 h
              exact .inr (List.length_eq_zero_iff.1 (by have := HL4.out; have := HRO.out; omega))
          have := H4.out
          rw [HMG.out]
          rcases h3 with h | h
          · rw [h, mrg_nil_left]; rw [h] at this; simpa using this
          · rw [h, mrg_nil_right]; rw [h] at this; simpa using this)
        by_cases h1 : mid < E
        · have h2 : ¬ E < b := by omega
          clear hro
          go_wp2
          go_end0
          rw [HP.out]
          exact ⟨rfl, H5.out⟩
        · clear hro
          go_wp2
          go_end0
          rw [HP.out]
          exact ⟨rfl, H5.out⟩
end Go.Proofs.Ytfefpbnhpncmlaa.DeaV
namespace Go.Proofs.Ytfefpbnhpncmlaa.DeaW
open Go.RowKit Go.Proofs.Ytfefpbnhpncmlaa.EntL Go.Proofs.Ytfefpbnhpncmlaa.EntB Go.Proofs.Ytfefpbnhpncmlaa.EntC Go.Proofs.Ytfefpbnhpncmlaa.EntD Go.Proofs.Ytfefpbnhpncmlaa.EntE Go.Proofs.Ytfefpbnhpncmlaa.EntF Go.Proofs.Ytfefpbnhpncmlaa.CatR Go.Proofs.Ytfefpbnhpncmlaa.CatT Go.Proofs.Ytfefpbnhpncmlaa.CatU Go.Proofs.Ytfefpbnhpncmlaa.CatK Go.Proofs.Ytfefpbnhpncmlaa.CatS Go.Proofs.Ytfefpbnhpncmlaa.CatY Go.Proofs.Ytfefpbnhpncmlaa.RefG Go.Proofs.Ytfefpbnhpncmlaa.PtrB Go.Proofs.Ytfefpbnhpncmlaa.PtrG Go.Proofs.Ytfefpbnhpncmlaa.Agg Go.Proofs.Ytfefpbnhpncmlaa.B8 Go.Proofs.Ytfefpbnhpncmlaa.CodL Go.Proofs.Ytfefpbnhpncmlaa.CodA Go.Proofs.Ytfefpbnhpncmlaa.CodB Go.Proofs.Ytfefpbnhpncmlaa.CatL Go.Proofs.Ytfefpbnhpncmlaa.PtrA Go.Proofs.Ytfefpbnhpncmlaa.PtrE Go.Proofs.Ytfefpbnhpncmlaa.PtrF Go.Proofs.Ytfefpbnhpncmlaa.PBaseSigns Go.Proofs.YtfefpbnhpncmlaaW.PrintWords Go.Proofs.YtfefpbnhpncmlaaW.PrintLast Go.Proofs.YtfefpbnhpncmlaaW.PrintMore Go.Proofs.Ytfefpbnhpncmlaa.EntG Go.Proofs.Ytfefpbnhpncmlaa.StmA Go.Proofs.Ytfefpbnhpncmlaa.StmB Go.Proofs.Ytfefpbnhpncmlaa.StmC Go.Proofs.Ytfefpbnhpncmlaa.CrcC Go.Proofs.Ytfefpbnhpncmlaa.StmD Go.Proofs.Ytfefpbnhpncmlaa.StmE Go.Proofs.Ytfefpbnhpncmlaa.CrcL Go.Proofs.Ytfefpbnhpncmlaa.StmL Go.Proofs.Ytfefpbnhpncmlaa.StmF Go.Proofs.Ytfefpbnhpncmlaa.StmG Go.Proofs.Ytfefpbnhpncmlaa.StmH Go.Proofs.Ytfefpbnhpncmlaa.StmI Go.Proofs.Ytfefpbnhpncmlaa.StmJ Go.Proofs.Ytfefpbnhpncmlaa.StmK Go.Proofs.Ytfefpbnhpncmlaa.StmM Go.Proofs.Ytfefpbnhpncmlaa.StmN Go.Proofs.Ytfefpbnhpncmlaa.StmO Go.Proofs.Ytfefpbnhpncmlaa.StmP Go.Proofs.Ytfefpbnhpncmlaa.StmP Go.Proofs.Ytfefpbnhpncmlaa.DeaA Go.Proofs.Ytfefpbnhpncmlaa.DeaB Go.Proofs.Ytfefpbnhpncmlaa.DeaN Go.Proofs.Ytfefpbnhpncmlaa.DeaC Go.Proofs.Ytfefpbnhpncmlaa.DeaR Go.Proofs.Ytfefpbnhpncmlaa.DeaL Go.Proofs.Ytfefpbnhpncmlaa.DeaS Go.Proofs.Ytfefpbnhpncmlaa.DeaT Go.Proofs.Ytfefpbnhpncmlaa.DeaU Go.Proofs.Ytfefpbnhpncmlaa.DeaV
set_option linter.unusedVariables false
set_option linter.unusedSimpArgs false

/-- Each part of so many in order. -/
def bst (bs : Nat) (l : List Ptr) : List Ptr := if h : bs = 0 ∨ l.length < bs then stab keyN l else stab keyN (l.take bs) ++ bst bs (l.drop bs)
termination_by l.length
decreasing_by rw [List.length_drop]; omega
theorem bst_lt {bs : Nat} {l : List Ptr} (h : l.length < bs) : bst bs l = stab keyN l := by rw [bst, dif_pos (.inr h)]
theorem bst_ge {bs : Nat} {l : List Ptr} (h0 : 0 < bs) (h : bs ≤ l.length) : bst bs l = stab keyN (l.take bs) ++ bst bs (l.drop bs) := by rw [bst, dif_neg (by omega)]
theorem bst_le {bs : Nat} {l : List Ptr} (h0 : 0 < bs) (h : l.length ≤ bs) : bst bs l = stab keyN l := by
  by_cases he : l.length < bs
  · exact bst_lt he
  · rw [bst_ge h0 (by omega), List.take_of_length_le (by omega), List.drop_of_length_le (by omega), bst_lt (by simpa using h0)]; simp [stab]
/-- Two parts behind each other, merged. -/
theorem bst_two {bs : Nat} {l : List Ptr} (h0 : 0 < bs) (h : 2 * bs ≤ l.length) :
    bst bs l = stab keyN (l.take bs) ++ (stab keyN ((l.drop bs).take bs) ++ bst bs (l.drop (2 * bs))) ∧ mrg keyN (stab keyN (l.take bs)) (stab keyN ((l.drop bs).take bs)) = stab keyN (l.take (2 * bs)) := by
  refine ⟨?_, ?_⟩
  · rw [bst_ge h0 (by omega), bst_ge h0 (by rw [List.length_drop]; omega), List.drop_drop, show bs + bs = 2 * bs by omega]
  · rw [mrg_stab]
    congr 1
    rw [show 2 * bs = bs + bs by omega, List.take_add]
theorem bst_rest {bs : Nat} {l : List Ptr} (h0 : 0 < bs) (h : bs ≤ l.length) (h2 : l.length < 2 * bs) :
    bst bs l = stab keyN (l.take bs) ++ stab keyN (l.drop bs) ∧ mrg keyN (stab keyN (l.take bs)) (stab keyN (l.drop bs)) = stab keyN l := by
  refine ⟨?_, ?_⟩
  · rw [bst_ge h0 h, bst_lt (by rw [List.length_drop]; omega)]
  · rw [mrg_stab, List.take_append_drop]
set_option maxRecDepth 100000 in
set_option maxHeartbeats 8000000 in
theorem stable_calls (B : World) (g nn cap : Nat) (hn : nn ≤ 1000) (l : List Ptr) (W : World) (H : DR B g nn cap l W) :
    Calls Try.prog 114 #[.slice (some ⟨g, 0, none⟩) nn cap, .int .i64 (nn : Int), .func (.func 82) #[] #[]] W (TellsSym B g nn cap (stab keyN l)) := by
  have hlen := H.len
  have HLEN := Aside0.mk hlen
  have H0 := Aside0.mk H
  obtain ⟨P, hP⟩ : ∃ P : Ending → World → Prop, P = TellsSym B g nn cap (stab keyN l) := ⟨_, rfl⟩
  rw [← hP]
  have HP := Aside0.mk hP
  clear hP H hlen
  go_enter Try.func114, Try.ntmps114
  go_wp2
  go_loopw [7, 8] (fun v7 v8 wr => ∃ (a b : Nat) (D R : List Ptr), v7 = .int .i64 (a : Int) ∧ v8 = .int .i64 (b : Int) ∧ a ≤ nn ∧ b ≤ a + 20 ∧ a + 20 ≤ b ∧ Aside0 (a = D.length ∧ nn = D.length + R.length) ∧ Aside0 (bst 20 l = D ++ bst 20 R) ∧ Aside0 (DR B g nn cap (D ++ R) wr)) (fun p _ _ => nn - (intOf p).toNat)
  case atStart => exact ⟨0, 20, [], l, rfl, rfl, Nat.zero_le _, Nat.le_refl _, Nat.le_refl _, ⟨rfl, by have := HLEN.out; simp; omega⟩, ⟨rfl⟩, H0⟩
  case round =>
    obtain ⟨a, b, D, R, rfl, rfl, han, hb1, hb2, HE, HB, H⟩ := hrel
    clear H0
    by_cases hle : b ≤ nn
    · have hrl : 20 ≤ R.length := by have := HE.out; omega
      have hHB := bst_ge (bs := 20) (by omega) hrl
      have H1 := Aside0.mk (show DR B g nn cap (D ++ (R.take 20 ++ R.drop 20)) wr by rw [List.take_append_drop]; exact H.out)
      have HB2 := Aside0.mk (show bst 20 l = (D ++ stab keyN (R.take 20)) ++ bst 20 (R.drop 20) by rw [HB.out, hHB, List.append_assoc])
      have HE2 := Aside0.mk (show b = (D ++ stab keyN (R.take 20)).length ∧ nn = (D ++ stab keyN (R.take 20)).length + (R.drop 20).length by
        rw [List.length_append, len_stab, List.length_take, List.length_drop]; have := HE.out; omega)
      have HRL := Aside0.mk hrl
      clear hHB H HB hrl
      go_wp2_with fail
      refine (insertion_calls B g nn cap D (R.take 20) (R.drop 20) wr a b HE.out.1 (by rw [List.length_take]; have := HRL.out; omega) hn H1.out).mono ?_
      rintro e w2 ⟨rfl, h2⟩
      have H2 := Aside0.mk (show DR B g nn cap ((D ++ stab keyN (R.take 20)) ++ R.drop 20) w2 by simpa using h2)
      clear h2 H1
      go_wp2
      go_roundw
      case rel => exact ⟨b, b + 20, D ++ stab keyN (R.take 20), R.drop 20, rfl, by go_num, hle, Nat.le_refl _, Nat.le_refl _, HE2, HB2, H2⟩
      case measure => simp [intOf]; omega
    · have H1 := Aside0.mk (show DR B g nn cap (D ++ (R ++ [])) wr by rw [List.append_nil]; exact H.out)
      have HB2 := Aside0.mk (show D ++ (stab keyN R ++ []) = bst 20 l by rw [HB.out, bst_lt (by have := HE.out; omega), List.append_nil])
      clear HB H
      go_wp2_with fail
      refine (insertion_calls B g nn cap D R [] wr a nn HE.out.1 (by have := HE.out; omega) hn H1.out).mono ?_
      rintro e w2 ⟨rfl, h2⟩
      have H2 := Aside0.mk (show DR B g nn cap (bst 20 l) w2 by rw [← HB2.out]; simpa using h2)
      clear h2 H1 HE HB2
      go_wp2
      go_loopw [6] (fun v6 wr => ∃ (bs : Nat), v6 = .int .i64 (bs : Int) ∧ 1 ≤ bs ∧ bs ≤ 2000 ∧ Aside0 (DR B g nn cap (bst bs l) wr)) (fun p _ => nn - (intOf p).toNat)
      case atStart => exact ⟨20, rfl, by omega, by omega, H2⟩
      case round =>
        clear H2
        obtain ⟨bs, rfl, hbs1, hbs2, H⟩ := hrel
        by_cases hlt : bs < nn
        · obtain ⟨b2, hb2'⟩ : ∃ b2, b2 = 2 * bs := ⟨_, rfl⟩
          have hb2I : (2 : Int) * (bs : Int) = (b2 : Int) := by omega
          have hb2J : (bs : Int) * 2 = (b2 : Int) := by omega
          have hb2b : 2 * bs ≤ b2 ∧ b2 ≤ 2 * bs := by omega
          have HBB := Aside0.mk hb2'
          clear hb2'
          go_wp2
          go_loopw [7, 8] (fun v7 v8 wr => ∃ (a b : Nat) (D R : List Ptr), v7 = .int .i64 (a : Int) ∧ v8 = .int .i64 (b : Int) ∧ a ≤ nn ∧ b ≤ a + b2 ∧ a + b2 ≤ b ∧ Aside0 (a = D.length ∧ nn = D.length + R.length) ∧ Aside0 (bst b2 l = D ++ bst b2 R) ∧ Aside0 (DR B g nn cap (D ++ bst bs R) wr)) (fun p _ _ => nn - (intOf p).toNat)
          case atStart => exact ⟨0, b2, [], l, rfl, rfl, Nat.zero_le _, by omega, by omega, ⟨rfl, by have := HLEN.out; simp; omega⟩, ⟨rfl⟩, H⟩
          case round =>
            clear H
            obtain ⟨a, b, D, R, rfl, rfl, han, hb1, hb3, HE, HB, H⟩ := hrel
            by_cases hle : b ≤ nn
            · have hrl : 2 * bs ≤ R.length := by have := HE.out; omega
              obtain ⟨t1, t2⟩ := bst_two (bs := bs) (by omega) hrl
              have h5 := bst_ge (bs := b2) (l := R) (by omega) (by omega)
              have H1 := Aside0.mk (show DR B g nn cap (D ++ (stab keyN (R.take bs) ++ (stab keyN ((R.drop bs).take bs) ++ bst bs (R.drop b2)))) wr by rw [HBB.out, ← t1]; exact H.out)
              have HM := Aside0.mk (show D ++ (mrg keyN (stab keyN (R.take bs)) (stab keyN ((R.drop bs).take bs)) ++ bst bs (R.drop b2)) = (D ++ stab keyN (R.take b2)) ++ bst bs (R.drop b2) by rw [t2, HBB.out, List.append_assoc])
              have HB2 := Aside0.mk (show bst b2 l = (D ++ stab keyN (R.take b2)) ++ bst b2 (R.drop b2) by rw [HB.out, h5, List.append_assoc])
              have HE2 := Aside0.mk (show b = (D ++ stab keyN (R.take b2)).length ∧ nn = (D ++ stab keyN (R.take b2)).length + (R.drop b2).length by
                rw [List.length_append, len_stab, List.length_take, List.length_drop]; have := HE.out; have := HBB.out; omega)
              have HRL := Aside0.mk hrl
              clear t1 t2 h5 H HB hrl
              go_wp2_with fail
              refine (sym_calls B g nn cap hn _ D (stab keyN (R.take bs)) (stab keyN ((R.drop bs).take bs)) (bst bs (R.drop b2)) wr a (a + bs) b rfl (by rw [len_stab, List.length_take]; have := HRL.out; omega) (by rw [len_stab, List.length_take, List.length_drop]; have := HRL.out; omega) (srt_stab _) (srt_stab _) HE.out.1 (by rw [len_stab, List.length_take]; have := HRL.out; omega) (by rw [len_stab, List.length_take, List.length_drop]; have := HRL.out; omega) H1.out).mono ?_
              rintro e w2 ⟨rfl, h2⟩
              have H2 := Aside0.mk (show DR B g nn cap ((D ++ stab keyN (R.take b2)) ++ bst bs (R.drop b2)) w2 by rw [← HM.out]; simpa using h2)
              clear h2 H1
              go_wp2
              go_roundw
              case rel => exact ⟨b, b + b2, D ++ stab keyN (R.take b2), R.drop b2, rfl, by go_num, hle, Nat.le_refl _, Nat.le_refl _, HE2, HB2, H2⟩
              case measure => simp [intOf]; omega
            · have hR : R.length < b2 := by have := HE.out; omega
              have HB2 := Aside0.mk (show bst b2 l = D ++ stab keyN R by rw [HB.out, bst_lt hR])
              clear HB
              by_cases hm : a + bs < nn
              · have hrl : bs ≤ R.length := by have := HE.out; omega
                obtain ⟨t1, t2⟩ := bst_rest (bs := bs) (by omega) hrl (by omega)
                have H1 := Aside0.mk (show DR B g nn cap (D ++ (stab keyN (R.take bs) ++ (stab keyN (R.drop bs) ++ []))) wr by rw [List.append_nil, ← t1]; exact H.out)
                have HM := Aside0.mk (show D ++ (mrg keyN (stab keyN (R.take bs)) (stab keyN (R.drop bs)) ++ []) = bst b2 l by rw [t2, HB2.out, List.append_nil])
                have HRL := Aside0.mk hrl
                clear t1 t2 H hrl hR
                go_wp2_with fail
                refine (sym_calls B g nn cap hn _ D (stab keyN (R.take bs)) (stab keyN (R.drop bs)) [] wr a (a + bs) nn rfl (by rw [len_stab, List.length_take]; have := HRL.out; omega) (by rw [len_stab, List.length_drop]; have := HE.out; omega) (srt_stab _) (srt_stab _) HE.out.1 (by rw [len_stab, List.length_take]; have := HRL.out; omega) (by rw [len_stab, List.length_drop]; have := HE.out; have := HRL.out; omega) H1.out).mono ?_
                rintro e w2 ⟨rfl, h2⟩
                have H2 := Aside0.mk (show DR B g nn cap (bst b2 l) w2 by rw [← HM.out]; exact h2)
                clear h2 H1
                go_wp2
                go_roundw
                case rel => exact ⟨b2, by go_num, by omega, by omega, H2⟩
                case measure => simp [intOf]; omega
              · have H2 := Aside0.mk (show DR B g nn cap (bst b2 l) wr by
                  rw [HB2.out, ← bst_le (bs := bs) (by omega) (by have := HE.out; omega)]; exact H.out)
                clear H hR
                go_wp2
                go_roundw
                case rel => exact ⟨b2, by go_num, by omega, by omega, H2⟩
                case measure => simp [intOf]; omega
        · have H3 := Aside0.mk (show DR B g nn cap (stab keyN l) wr by
            have := H.out
            rwa [bst_le (by omega) (by have := HLEN.out; omega)] at this)
          clear H
          go_wp2
          go_end0
          rw [HP.out]
          exact ⟨rfl, H3.out⟩
end Go.Proofs.Ytfefpbnhpncmlaa.DeaW
namespace Go.Proofs.Ytfefpbnhpncmlaa.DeaX
open Go.RowKit Go.Proofs.Ytfefpbnhpncmlaa.EntL Go.Proofs.Ytfefpbnhpncmlaa.EntB Go.Proofs.Ytfefpbnhpncmlaa.EntC Go.Proofs.Ytfefpbnhpncmlaa.EntD Go.Proofs.Ytfefpbnhpncmlaa.EntE Go.Proofs.Ytfefpbnhpncmlaa.EntF Go.Proofs.Ytfefpbnhpncmlaa.CatR Go.Proofs.Ytfefpbnhpncmlaa.CatT Go.Proofs.Ytfefpbnhpncmlaa.CatU Go.Proofs.Ytfefpbnhpncmlaa.CatK Go.Proofs.Ytfefpbnhpncmlaa.CatS Go.Proofs.Ytfefpbnhpncmlaa.CatY Go.Proofs.Ytfefpbnhpncmlaa.RefG Go.Proofs.Ytfefpbnhpncmlaa.PtrB Go.Proofs.Ytfefpbnhpncmlaa.PtrG Go.Proofs.Ytfefpbnhpncmlaa.Agg Go.Proofs.Ytfefpbnhpncmlaa.B8 Go.Proofs.Ytfefpbnhpncmlaa.CodL Go.Proofs.Ytfefpbnhpncmlaa.CodA Go.Proofs.Ytfefpbnhpncmlaa.CodB Go.Proofs.Ytfefpbnhpncmlaa.CatL Go.Proofs.Ytfefpbnhpncmlaa.PtrA Go.Proofs.Ytfefpbnhpncmlaa.PtrE Go.Proofs.Ytfefpbnhpncmlaa.PtrF Go.Proofs.Ytfefpbnhpncmlaa.PBaseSigns Go.Proofs.YtfefpbnhpncmlaaW.PrintWords Go.Proofs.YtfefpbnhpncmlaaW.PrintLast Go.Proofs.YtfefpbnhpncmlaaW.PrintMore Go.Proofs.Ytfefpbnhpncmlaa.EntG Go.Proofs.Ytfefpbnhpncmlaa.StmA Go.Proofs.Ytfefpbnhpncmlaa.StmB Go.Proofs.Ytfefpbnhpncmlaa.StmC Go.Proofs.Ytfefpbnhpncmlaa.CrcC Go.Proofs.Ytfefpbnhpncmlaa.StmD Go.Proofs.Ytfefpbnhpncmlaa.StmE Go.Proofs.Ytfefpbnhpncmlaa.CrcL Go.Proofs.Ytfefpbnhpncmlaa.StmL Go.Proofs.Ytfefpbnhpncmlaa.StmF Go.Proofs.Ytfefpbnhpncmlaa.StmG Go.Proofs.Ytfefpbnhpncmlaa.StmH Go.Proofs.Ytfefpbnhpncmlaa.StmI Go.Proofs.Ytfefpbnhpncmlaa.StmJ Go.Proofs.Ytfefpbnhpncmlaa.StmK Go.Proofs.Ytfefpbnhpncmlaa.StmM Go.Proofs.Ytfefpbnhpncmlaa.StmN Go.Proofs.Ytfefpbnhpncmlaa.StmO Go.Proofs.Ytfefpbnhpncmlaa.StmP Go.Proofs.Ytfefpbnhpncmlaa.StmP Go.Proofs.Ytfefpbnhpncmlaa.DeaA Go.Proofs.Ytfefpbnhpncmlaa.DeaB Go.Proofs.Ytfefpbnhpncmlaa.DeaN Go.Proofs.Ytfefpbnhpncmlaa.DeaC Go.Proofs.Ytfefpbnhpncmlaa.DeaR Go.Proofs.Ytfefpbnhpncmlaa.DeaL Go.Proofs.Ytfefpbnhpncmlaa.DeaS Go.Proofs.Ytfefpbnhpncmlaa.DeaT Go.Proofs.Ytfefpbnhpncmlaa.DeaU Go.Proofs.Ytfefpbnhpncmlaa.DeaV Go.Proofs.Ytfefpbnhpncmlaa.DeaW Go.Proofs.Ytfefpbnhpncmlaa.CatW Go.Proofs.Ytfefpbnhpncmlaa.CatV
set_option linter.unusedVariables false
set_option linter.unusedSimpArgs false

/-- A row of blocks is told. -/
def TellsP (w : World) (l : List Ptr) (e : Ending) (w' : World) : Prop := ∃ v, e = .returned v ∧ Kd.R kP 56 w' w.heap.size (fun _ => True) v l ∧ Below w.heap.size w w'
theorem R_mt (w : World) (base : Nat) (hb : base ≤ w.heap.size) : Kd.R kP 56 (w.alloc (.cells #[] 56)) base (fun _ => True) (.slice (some ⟨w.heap.size, 0, none⟩) 0 0) [] :=
  ⟨fun _ _ => trivial, [], ⟨rfl, .inr ⟨w.heap.size, 0, #[], rfl, hb, heap_new _ _, Nat.le_refl _, by decide, rfl, rfl⟩⟩, Reps.none _ _⟩
theorem eql38 (A : Option Addr) (n c : Nat) (w : World) : (binOp .eql 38 (.slice A n c) (.slice none 0 0)).run Try.prog w = .ok (.bool A.isNone) w := Lib.run_eql_slice_nil w 38 56 A n c 0 0 Try.underlying38
set_option maxRecDepth 100000 in
set_option maxHeartbeats 1000000 in
theorem clone_calls (A : Option Addr) (c n : Nat) (l : List Ptr) (w : World) (hr : Kd.C kP w A n l) (hnc : n ≤ c) (hm : n ≤ 1000) : Calls Try.prog 80 #[.slice A n c] w (TellsP w l) := by
  have HC := Aside0.mk hr
  have hl : l.length = n := hr.1
  have HL := Aside0.mk hl
  obtain ⟨P, hP⟩ : ∃ P : Ending → World → Prop, P = TellsP w l := ⟨_, rfl⟩
  rw [← hP]
  have HP := Aside0.mk hP
  clear hP hr hl
  rcases A with _ | ad
  · have he := eql38 none n c w
    have h0 : l = [] := by
      rcases Nat.eq_zero_or_pos n with h0 | h0
      · exact List.eq_nil_of_length_eq_zero (by rw [HL.out]; exact h0)
      · obtain ⟨_, h, _⟩ := HC.out.2.2 h0
        cases h
    have H0 := Aside0.mk h0
    clear h0
    simp only [Option.isNone_none] at he
    go_enter Try.func80, Try.ntmps80
    go_wp2
    rw [HP.out, H0.out]
    exact ⟨_, rfl, Kd.R_nil _ _ _ _ _, Below.refl _ _⟩
  · have he := eql38 (some ad) n c w
    simp only [Option.isNone_some] at he
    have HB := Aside0.mk ((Below.refl w.heap.size w).alloc (Nat.le_refl _) (.cells #[] 56))
    have HO := Aside0.mk (R_mt w w.heap.size (Nat.le_refl _))
    have HC1 := Aside0.mk (Kd.C_below HC.out (below_alloc (Below.refl _ _) (.cells #[] 56)))
    go_enter Try.func80, Try.ntmps80
    go_wp2_with (at_builtin; refine Kd.R_append_rows (P := Try.prog) kP (w0 := w) w.heap.size rfl (.tmp 5) (.tmp 6) 38 56 (.agg Z56) 64 rfl Try.underlying38 info56 rfl (by decide) (by decide) (.slice (some ⟨w.heap.size, 0, none⟩) 0 0) [] l (some ad) n c (fun _ => True) (fun _ => False) rfl rfl HO.out HC1.out (fun _ _ h => h) (fun _ h => h.elim) (fun _ _ => trivial) HB.out (by simp) (by simp; omega) ?_; intro v1 w1 h1 h2 h3 _; have H1 := Aside0.mk h1; have H2 := Aside0.mk h2; (obtain ⟨A1, c1, hv1⟩ := Kd.R_slice h1); rw [List.nil_append, HL.out] at hv1; clear h1 h2 h3; subst hv1)
    rw [HP.out]
    exact ⟨_, rfl, H1.out, H2.out⟩
end Go.Proofs.Ytfefpbnhpncmlaa.DeaX
namespace Go.Proofs.Ytfefpbnhpncmlaa.DeaY
open Go.RowKit Go.Proofs.Ytfefpbnhpncmlaa.EntL Go.Proofs.Ytfefpbnhpncmlaa.EntB Go.Proofs.Ytfefpbnhpncmlaa.EntC Go.Proofs.Ytfefpbnhpncmlaa.EntD Go.Proofs.Ytfefpbnhpncmlaa.EntE Go.Proofs.Ytfefpbnhpncmlaa.EntF Go.Proofs.Ytfefpbnhpncmlaa.CatR Go.Proofs.Ytfefpbnhpncmlaa.CatT Go.Proofs.Ytfefpbnhpncmlaa.CatU Go.Proofs.Ytfefpbnhpncmlaa.CatK Go.Proofs.Ytfefpbnhpncmlaa.CatS Go.Proofs.Ytfefpbnhpncmlaa.CatY Go.Proofs.Ytfefpbnhpncmlaa.RefG Go.Proofs.Ytfefpbnhpncmlaa.PtrB Go.Proofs.Ytfefpbnhpncmlaa.PtrG Go.Proofs.Ytfefpbnhpncmlaa.Agg Go.Proofs.Ytfefpbnhpncmlaa.B8 Go.Proofs.Ytfefpbnhpncmlaa.CodL Go.Proofs.Ytfefpbnhpncmlaa.CodA Go.Proofs.Ytfefpbnhpncmlaa.CodB Go.Proofs.Ytfefpbnhpncmlaa.CatL Go.Proofs.Ytfefpbnhpncmlaa.PtrA Go.Proofs.Ytfefpbnhpncmlaa.PtrE Go.Proofs.Ytfefpbnhpncmlaa.PtrF Go.Proofs.Ytfefpbnhpncmlaa.PBaseSigns Go.Proofs.YtfefpbnhpncmlaaW.PrintWords Go.Proofs.YtfefpbnhpncmlaaW.PrintLast Go.Proofs.YtfefpbnhpncmlaaW.PrintMore Go.Proofs.Ytfefpbnhpncmlaa.EntG Go.Proofs.Ytfefpbnhpncmlaa.StmA Go.Proofs.Ytfefpbnhpncmlaa.StmB Go.Proofs.Ytfefpbnhpncmlaa.StmC Go.Proofs.Ytfefpbnhpncmlaa.CrcC Go.Proofs.Ytfefpbnhpncmlaa.StmD Go.Proofs.Ytfefpbnhpncmlaa.StmE Go.Proofs.Ytfefpbnhpncmlaa.CrcL Go.Proofs.Ytfefpbnhpncmlaa.StmL Go.Proofs.Ytfefpbnhpncmlaa.StmF Go.Proofs.Ytfefpbnhpncmlaa.StmG Go.Proofs.Ytfefpbnhpncmlaa.StmH Go.Proofs.Ytfefpbnhpncmlaa.StmI Go.Proofs.Ytfefpbnhpncmlaa.StmJ Go.Proofs.Ytfefpbnhpncmlaa.StmK Go.Proofs.Ytfefpbnhpncmlaa.StmM Go.Proofs.Ytfefpbnhpncmlaa.StmN Go.Proofs.Ytfefpbnhpncmlaa.StmO Go.Proofs.Ytfefpbnhpncmlaa.StmP Go.Proofs.Ytfefpbnhpncmlaa.StmP Go.Proofs.Ytfefpbnhpncmlaa.DeaA Go.Proofs.Ytfefpbnhpncmlaa.DeaB Go.Proofs.Ytfefpbnhpncmlaa.DeaN Go.Proofs.Ytfefpbnhpncmlaa.DeaC Go.Proofs.Ytfefpbnhpncmlaa.DeaR Go.Proofs.Ytfefpbnhpncmlaa.DeaL Go.Proofs.Ytfefpbnhpncmlaa.DeaS Go.Proofs.Ytfefpbnhpncmlaa.DeaT Go.Proofs.Ytfefpbnhpncmlaa.DeaU Go.Proofs.Ytfefpbnhpncmlaa.DeaV Go.Proofs.Ytfefpbnhpncmlaa.DeaW Go.Proofs.Ytfefpbnhpncmlaa.DeaX Go.Proofs.Ytfefpbnhpncmlaa.CatW Go.Proofs.Ytfefpbnhpncmlaa.CatV
set_option linter.unusedVariables false
set_option linter.unusedSimpArgs false

section
variable {α : Type} {k : α → Nat}
theorem comp_one (x : α) : comp k [x] = [x] := by rw [comp]
theorem comp_snoc (u : List α) (x y : α) : comp k (u ++ [x, y]) = comp k (u ++ [x]) ++ (if k x = k y then [] else [y]) := by
  induction hn : u.length using Nat.strongRecOn generalizing u with
  | _ n ih =>
    match u, hn with
    | [], _ =>
      by_cases h : k x = k y
      · rw [if_pos h, List.nil_append, List.nil_append, comp_cons_eq h]; simp
      · rw [if_neg h, List.nil_append, List.nil_append, comp_cons_ne h, comp_one, comp_one]; rfl
    | [a], _ =>
      show comp k (a :: x :: [y]) = comp k (a :: x :: []) ++ _
      by_cases h : k a = k x
      · rw [comp_cons_eq h, comp_cons_eq h, comp_one]
        by_cases h2 : k x = k y
        · rw [if_pos h2, comp_cons_eq (by omega), comp_one]; rfl
        · rw [if_neg h2, comp_cons_ne (by omega), comp_one]; rfl
      · rw [comp_cons_ne h, comp_cons_ne h, comp_one]
        by_cases h2 : k x = k y
        · rw [if_pos h2, comp_cons_eq h2, comp_one]; rfl
        · rw [if_neg h2, comp_cons_ne h2, comp_one]; rfl
    | a :: b :: r, hn =>
      simp only [List.length_cons] at hn
      show comp k (a :: b :: (r ++ [x, y])) = comp k (a :: b :: (r ++ [x])) ++ _
      by_cases h : k a = k b
      · rw [comp_cons_eq h, comp_cons_eq h]
        exact ih (r.length + 1) (by omega) (a :: r) rfl
      · rw [comp_cons_ne h, comp_cons_ne h, List.cons_append]
        congr 1
        exact ih (r.length + 1) (by omega) (b :: r) rfl
end
theorem take_two (l : List Ptr) (i : Nat) (h : i + 1 < l.length) : l.take (i + 2) = l.take i ++ [l.getD i zeroP, l.getD (i + 1) zeroP] ∧ l.take (i + 1) = l.take i ++ [l.getD i zeroP] := by
  have e1 : l.take (i + 1) = l.take i ++ [l.getD i zeroP] := by
    rw [List.take_add_one, List.getElem?_eq_getElem (by omega), List.getD_eq_getElem?_getD, List.getElem?_eq_getElem (by omega)]; rfl
  refine ⟨?_, e1⟩
  rw [List.take_add_one, e1, List.getElem?_eq_getElem h, List.getD_eq_getElem?_getD (i := i + 1), List.getElem?_eq_getElem h]
  simp
/-- One more. -/
theorem comp_take (l : List Ptr) (i : Nat) (h : i + 1 < l.length) : comp keyN (l.take (i + 2)) = comp keyN (l.take (i + 1)) ++ (if keyN (l.getD i zeroP) = keyN (l.getD (i + 1) zeroP) then [] else [l.getD (i + 1) zeroP]) := by
  obtain ⟨h1, h2⟩ := take_two l i h
  rw [h1, h2]
  exact comp_snoc _ _ _
theorem take_set_snoc (l : List Ptr) (k : Nat) (x : Ptr) (h : k < l.length) : (l.set k x).take (k + 1) = l.take k ++ [x] := by
  rw [List.take_add_one, List.getElem?_set_self (by simpa using h), List.take_set_of_le (Nat.le_refl k)]; rfl
theorem getD_set_ne (l : List Ptr) (k i : Nat) (x : Ptr) (h : k ≠ i) : (l.set k x).getD i zeroP = l.getD i zeroP := by
  rw [List.getD_eq_getElem?_getD, List.getElem?_set_ne h, ← List.getD_eq_getElem?_getD]
theorem cut38_to (A : Option Addr) (n c j : Nat) (hm : j ≤ n) (hc : n ≤ c) (W : World) : (Instr.slice 38 (.slice A n c) none (some (.int .i64 (j : Int))) none).run Try.prog W = .ok (.slice A j c) W := by
  obtain ⟨i0, hi, _, _, _⟩ := info_parts info56
  have := cut_to (P := Try.prog) 38 56 .i64 Try.underlying38 hi A n c (j : Int) (by omega) (by omega) hc W
  simpa using this
theorem cut38_from (A : Option Addr) (n c j : Nat) (hm : j ≤ n) (W : World) : (Instr.slice 38 (.slice A n c) (some (.int .i64 (j : Int))) none none).run Try.prog W = .ok (.slice (if c = j then A else A.map (·.add (j * 36))) (n - j) (c - j)) W := by
  obtain ⟨i0, hi, _, hs, _⟩ := info_parts info56
  have := cut_from (P := Try.prog) 38 56 .i64 Try.underlying38 hi 36 hs A n c (j : Int) (by omega) (by omega) W
  simpa using this
/-- the cells of so many zeros -/
def zs (n : Nat) : List Value := (Builtin.zeroCells Z56 n).toList
theorem zs_len (n : Nat) : (zs n).length = n * 36 := by
  unfold zs Builtin.zeroCells
  rw [show Z56.size = 36 from rfl]
  simp
theorem z56_one : ∀ i : Nat, i < 36 → (Z56[i]!).oneCell' = true := by decide
theorem zs_one (n : Nat) : ∀ v ∈ zs n, v.oneCell' = true := by
  intro v hv
  unfold zs Builtin.zeroCells at hv
  simp only [Array.toList_map, List.mem_map] at hv
  obtain ⟨i, _, rfl⟩ := hv
  exact z56_one _ (Nat.mod_lt _ (by decide))
theorem zv56 (w : World) : (zeroValue 56).run Try.prog w = .ok (.agg Z56) w := by
  obtain ⟨i0, hi, hz, _, _⟩ := info_parts info56
  simp [zeroValue, typeInfo, hi, hz]
theorem run_clear38 (w : World) (ty : TypeId) (g o n c : Nat) (hn : 0 < n) (ht : w.there g o (n * 36)) :
    (Builtin.clear_ #[38] ty #[.slice (some ⟨g, o, none⟩) n c]).run Try.prog w = .ok (.tuple #[]) (w.setCells g o (zs n)) := by
  have hst := run_storeCells_cells (P := Try.prog) g o (zs n) 0 w (by rw [zs_len]; intro j hj; exact (ht j hj).1) (by rw [zs_len]; intro j hj; exact (ht j hj).2) (zs_one n)
  simp only [Nat.add_zero] at hst
  obtain ⟨m, rfl⟩ : ∃ m, n = m + 1 := ⟨n - 1, by omega⟩
  have hcl : (Value.agg Z56).cells = Z56 := rfl
  have hu := Try.underlying38
  simp only [Builtin.clear_, List.getElem?_toArray, List.getElem?_cons_zero, run_underlying hu, Sem.run_bind, Result.andThen_ok, zv56, hcl]
  have hst' : (storeCells ⟨g, o, none⟩ (Builtin.zeroCells Z56 (m + 1)).toList).run Try.prog w = .ok () (w.setCells g o (zs (m + 1))) := hst
  rw [hst']
  rfl
section
variable {ops : Array Oper} {o : Oper} {rest : List Oper} {a : Act} {w : World} {Q : Exit → Act → World → Prop}
theorem store_PW (hgd : o.guard = none) (x y : Operand) (ho : o.op = .store 56 x y) (b off : Nat) (p : Ptr) (hx : a.eval x = .pointer (some ⟨b, off, none⟩)) (hy : a.eval y = .agg (encP p)) (hk : Ok p) (ht : w.there b off 36)
    (h : wpList Try.prog ops Q rest (a.put o.dst undef) (w.setCells b off (encP p).toList)) : wpList Try.prog ops Q (o :: rest) a w :=
  wpList_store_mid hgd 56 x y ho b off (encP p) hx hy (by rw [encP_size hk.len]; exact ht) (si hk.len) (PtrJ.a_enc p) h
end
/-- What is cut off is cleared; what is kept stays. -/
theorem DR.cleared {B : World} {g n cap : Nat} {l : List Ptr} {W : World} (h : DR B g n cap l W) (k : Nat) (hk : k ≤ n) : DR B g k cap (l.take k) (W.setCells g (k * 36) (zs (n - k))) := by
  have hl := h.len
  obtain ⟨hok, inner, ho, hr⟩ := Kd.R_take h.row (m := k) (by omega)
  obtain ⟨ho1, ho2⟩ := ho
  have hlk : (l.take k).length = k := by rw [List.length_take]; omega
  rcases ho2 with ⟨hv, _⟩ | ⟨g', cap', cur, hv, hb, hh, hnc', hcm, hcs, ht⟩
  · cases hv
  injection hv with ha hn2 hc
  injection ha with ha
  injection ha with hg
  subst hg; subst hc
  have hcap : n ≤ cap := (Kd.R_reads' h.row).2.1
  have h36 : kP.sz = 36 := rfl
  rw [h36] at hcs ht ho1
  have hsz : cur.size = cap * 36 := hcs
  obtain ⟨cur', h3, h4, h5⟩ := setCells_row (zs (n - k)) (k * 36) W cur hh (by rw [zs_len, hsz, ← Nat.add_mul]; exact Nat.mul_le_mul_right _ (by omega))
  obtain ⟨s1, s2, s3, s4⟩ := setCells_same g (zs (n - k)) (k * 36) W
  refine ⟨⟨hok, inner, ⟨ho1, .inr ⟨g, cap, cur', by rw [hlk], hb, h3, hnc', hcm, by rw [h4, hcs, h36], ?_⟩⟩, hr⟩, h.below.trans ⟨s1, s2, s3, by rw [s4]; exact Nat.le_refl _, fun q hq => setCells_far _ _ q (fun he => ?_)⟩⟩
  · rw [hlk] at ht ⊢
    rw [h36, h5, List.append_assoc, List.take_append_of_le_length (by rw [List.length_take, Array.length_toList, hsz]; have := Nat.mul_le_mul_right 36 (show k ≤ cap by omega); omega), List.take_take, Nat.min_self, ht]
  · have := h.gle
    omega
theorem DR.there2 {B : World} {g n cap : Nat} {l : List Ptr} {W : World} (h : DR B g n cap l W) (k : Nat) (hk : k ≤ n) : W.there g (k * 36) ((n - k) * 36) := by
  intro j hj
  have hj36 : j / 36 < n - k := by rw [Nat.div_lt_iff_lt_mul (by decide)]; exact hj
  have h1 := h.there (k + j / 36) (by omega) (j % 36) (Nat.mod_lt _ (by decide))
  have e : (k + j / 36) * 36 + j % 36 = k * 36 + j := by omega
  rwa [e] at h1
def TellsC (B : World) (g cap : Nat) (l : List Ptr) (e : Ending) (w' : World) : Prop := ∃ m, e = .returned (.slice (some ⟨g, 0, none⟩) m cap) ∧ DR B g m cap l w'
set_option maxRecDepth 100000 in
set_option maxHeartbeats 8000000 in
theorem compact_calls (B : World) (g nn cap : Nat) (hn : nn ≤ 1000) (l : List Ptr) (W : World) (H : DR B g nn cap l W) :
    Calls Try.prog 83 #[.slice (some ⟨g, 0, none⟩) nn cap, .func (.func 84) #[] #[]] W (TellsC B g cap (comp keyN l)) := by
  have hlen := H.len
  have HLEN := Aside0.mk hlen
  have hcap : nn ≤ cap := (Kd.R_reads' H.row).2.1
  have H0 := Aside0.mk H
  obtain ⟨P, hP⟩ : ∃ P : Ending → World → Prop, P = TellsC B g cap (comp keyN l) := ⟨_, rfl⟩
  rw [← hP]
  have HP := Aside0.mk hP
  clear hP H hlen
  by_cases h2 : nn < 2
  · have hc : comp keyN l = l := by
      match l, HLEN.out with
      | [], _ => rw [comp]
      | [x], _ => rw [comp]
      | _ :: _ :: _, h => simp at h; omega
    have HC := Aside0.mk hc
    clear hc
    go_enter Try.func83, Try.ntmps83
    go_wp2
    rw [HP.out]
    exact ⟨nn, rfl, by rw [HC.out]; exact H0.out⟩
  · go_enter Try.func83, Try.ntmps83
    go_wp2
    go_loopw [5] (fun v5 wr => ∃ (k : Nat), v5 = .int .i64 (k : Int) ∧ 1 ≤ k ∧ k ≤ nn ∧ Aside0 (comp keyN (l.take k) = l.take k) ∧ Aside0 (DR B g nn cap l wr)) (fun v _ => nn - (intOf v).toNat)
    case atStart =>
      refine ⟨1, rfl, Nat.le_refl _, by omega, ⟨?_⟩, H0⟩
      cases l with
      | nil => rw [List.take_nil, comp]
      | cons x r => rw [List.take_succ_cons, List.take_zero, comp_one]
    case round =>
      obtain ⟨k, rfl, hk1, hkn, HC, H⟩ := hrel
      clear H0
      by_cases hlt : k < nn
      · have HD := Aside0.mk (H.out.on (below_drew (Below.refl _ _)))
        clear H
        obtain ⟨m, hm, hm2⟩ : ∃ m, k ≤ m + 1 ∧ m + 1 ≤ k := ⟨k - 1, by omega, by omega⟩
        have HM := Aside0.mk (show k = m + 1 by omega)
        obtain ⟨x, hx⟩ : ∃ x, x = l.getD k zeroP := ⟨_, rfl⟩
        obtain ⟨y, hy⟩ : ∃ y, y = l.getD m zeroP := ⟨_, rfl⟩
        have hx2 := HD.out.at_ k hlt
        have hy2 := HD.out.at_ m (by omega)
        rw [← hx] at hx2
        rw [← hy] at hy2
        have HX := Aside0.mk hx2
        have HY := Aside0.mk hy2
        have hct := comp_take l m (by have := HLEN.out; omega)
        rw [← HM.out, show m + 2 = k + 1 by omega, ← hx, ← hy, HC.out] at hct
        have HCT := Aside0.mk hct
        have HXL := Aside0.mk hx
        clear hx2 hy2 hct hx hy
        have hS0 : Below wr.drew.heap.size wr.drew wr.drew := Below.refl _ _
        by_cases hk : keyN x = keyN y
        · have hd : decide (keyN x = keyN y) = true := decide_eq_true hk
          have HK := Aside0.mk hk
          clear hk
          obtain ⟨n2, hn2⟩ : ∃ n2, n2 = nn - k := ⟨_, rfl⟩
          obtain ⟨c2, hc2⟩ : ∃ c2, c2 = cap - k := ⟨_, rfl⟩
          have hcut : ∀ W, (Instr.slice 38 (.slice (some ⟨g, 0, none⟩) nn cap) (some (.int .i64 (k : Int))) none none).run Try.prog W = .ok (.slice (some ⟨g, k * 36, none⟩) n2 c2) W := fun W => by
            have := cut38_from (some ⟨g, 0, none⟩) nn cap k hkn W
            rw [if_neg (by omega), ← hn2, ← hc2] at this
            rw [this, Option.map_some, add_at]; simp
          have hn2b : n2 + k ≤ nn ∧ nn ≤ n2 + k := by omega
          have HCUT := Aside0.mk hcut
          clear hn2 hc2 hcut
          go_wp2
          refine wp_region_held_drew (S := fun w' => Below wr.drew.heap.size wr.drew w') (by kernel_rfl) hS0 (fun hW => ?_)
          generalize hWd : wr.drew = Wd at *
          clear hWd
          refine wpAnyH_take (i := 0) (oi := ⟨some 18, _, _, _, _, _⟩) (v := .func (.func 84) #[] #[]) rfl (by kernel_rfl) (by kernel_rfl) (by kernel_rfl) (fun _ _ _ h => h) (.inl ⟨by rfl, fun W1 h1 => by go_simp⟩) hW ?_
          try simp only [Act.put, List.setIfInBounds_toArray, List.set_cons_zero, List.set_cons_succ]
          refine wpAnyH_take (i := 1) (oi := ⟨some 19, _, _, _, _, _⟩) (v := .slice (some ⟨g, 0, none⟩) nn cap) rfl (by kernel_rfl) (by kernel_rfl) (by kernel_rfl) (fun _ _ _ h => h) (.inl ⟨by rfl, fun W1 h1 => by go_simp⟩) hW ?_
          try simp only [Act.put, List.setIfInBounds_toArray, List.set_cons_zero, List.set_cons_succ]
          refine wpAnyH_take (i := 2) (oi := ⟨some 20, _, _, _, _, _⟩) (v := .int .i64 (k : Int)) rfl (by kernel_rfl) (by kernel_rfl) (by kernel_rfl) (fun _ _ _ h => h) (.inl ⟨by rfl, fun W1 h1 => by go_simp⟩) hW ?_
          try simp only [Act.put, List.setIfInBounds_toArray, List.set_cons_zero, List.set_cons_succ]
          refine wpAnyH_take (i := 3) (oi := ⟨some 21, _, _, _, _, _⟩) (v := .pointer (some ⟨g, k * 36, none⟩)) rfl (by kernel_rfl) (by kernel_rfl) (by kernel_rfl) (fun _ _ _ h => h) (.inl ⟨by rfl, fun W1 h1 => by go_simp⟩) hW ?_
          try simp only [Act.put, List.setIfInBounds_toArray, List.set_cons_zero, List.set_cons_succ]
          refine wpAnyH_take (i := 4) (oi := ⟨some 22, _, _, _, _, _⟩) rfl (by kernel_rfl) (by kernel_rfl) (by kernel_rfl) (fun _ _ _ h => h) (yieldsIf_load_P (by rfl) _ rfl g (k * 36) x HX.out.1 rfl (fun W1 h1 => rangeAt_below HX.out.2 h1 (blk_g HD.out))) hW ?_
          try simp only [Act.put, List.setIfInBounds_toArray, List.set_cons_zero, List.set_cons_succ]
          refine wpAnyH_take (i := 5) (oi := ⟨some 23, _, _, _, _, _⟩) (v := .slice (some ⟨g, 0, none⟩) nn cap) rfl (by kernel_rfl) (by kernel_rfl) (by kernel_rfl) (fun _ _ _ h => h) (.inl ⟨by rfl, fun W1 h1 => by go_simp⟩) hW ?_
          try simp only [Act.put, List.setIfInBounds_toArray, List.set_cons_zero, List.set_cons_succ]
          refine wpAnyH_take (i := 6) (oi := ⟨some 24, _, _, _, _, _⟩) (v := .int .i64 (k : Int)) rfl (by kernel_rfl) (by kernel_rfl) (by kernel_rfl) (fun _ _ _ h => h) (.inl ⟨by rfl, fun W1 h1 => by go_simp⟩) hW ?_
          try simp only [Act.put, List.setIfInBounds_toArray, List.set_cons_zero, List.set_cons_succ]
          refine wpAnyH_take (i := 7) (oi := ⟨some 25, _, _, _, _, _⟩) (v := .int .i64 ((k : Int) - 1)) rfl (by kernel_rfl) (by kernel_rfl) (by kernel_rfl) (fun _ _ _ h => h) (.inl ⟨by rfl, fun W1 h1 => by go_simp; rw [IntKind.wrap_i64]; omega⟩) hW ?_
          try simp only [Act.put, List.setIfInBounds_toArray, List.set_cons_zero, List.set_cons_succ]
          refine wpAnyH_take (i := 8) (oi := ⟨some 26, _, _, _, _, _⟩) (v := .pointer (some ⟨g, m * 36, none⟩)) rfl (by kernel_rfl) (by kernel_rfl) (by kernel_rfl) (fun _ _ _ h => h) (.inl ⟨by rfl, fun W1 h1 => by go_simp; rw [show k - 1 = m by omega, if_pos (by omega)]⟩) hW ?_
          try simp only [Act.put, List.setIfInBounds_toArray, List.set_cons_zero, List.set_cons_succ]
          refine wpAnyH_take (i := 9) (oi := ⟨some 27, _, _, _, _, _⟩) rfl (by kernel_rfl) (by kernel_rfl) (by kernel_rfl) (fun _ _ _ h => h) (yieldsIf_load_P (by rfl) _ rfl g (m * 36) y HY.out.1 rfl (fun W1 h1 => rangeAt_below HY.out.2 h1 (blk_g HD.out))) hW ?_
          try simp only [Act.put, List.setIfInBounds_toArray, List.set_cons_zero, List.set_cons_succ]
          refine wpAnyH_ready (rs := [10]) (by kernel_rfl) (by simp) (AllReadyH.cons rfl (fun K1 hK1 => ?_) AllReadyH.nil)
          go_simp
          refine (same_key_calls x y HX.out.1 HY.out.1 Wd).mono ?_
          rintro e W1 ⟨he, hb1⟩
          rw [hd] at he
          subst he
          have HV := Aside0.mk (HD.out.on hb1)
          have HX1 := Aside0.mk (rangeAt_below HX.out.2 hb1 (blk_g HD.out))
          refine hK1.out _ _ (below_then hW hW.size hb1) (fun hW => ?_)
          try simp only [Act.put, List.setIfInBounds_toArray, List.set_cons_zero, List.set_cons_succ]
          refine wpAnyH_done (by kernel_rfl) ?_ _
          clear hW hb1 hK1 K1
          have hcut := HCUT.out W1
          go_wp2
          clear hcut HCUT
          obtain ⟨k0, hk0⟩ : ∃ k0, k0 = k := ⟨_, rfl⟩
          subst hk0
          go_loopw [5, 7] (fun v5 v7 wr => ∃ (k1 j : Nat) (M : List Ptr), v5 = .int .i64 (k1 : Int) ∧ v7 = .int .i64 (j : Int) ∧ 1 ≤ j ∧ j ≤ n2 ∧ k1 + 1 ≤ k0 + j ∧ Aside0 (M.take k1 = comp keyN (l.take (k0 + j))) ∧ Aside0 (∀ i, k0 + j ≤ i + 1 → i < nn → M.getD i zeroP = l.getD i zeroP) ∧ Aside0 (DR B g nn cap M wr)) (fun _ v _ => n2 - (intOf v).toNat)
          case atStart => exact ⟨k0, 1, l, rfl, rfl, Nat.le_refl _, by omega, Nat.le_refl _, ⟨by rw [HCT.out, if_pos HK.out.symm, List.append_nil]⟩, ⟨fun _ _ _ => rfl⟩, HV⟩
          case round =>
            clear HX HY HCT HK HC HXL hd HD HV HX1 hS0
            obtain ⟨k1, j, M, rfl, rfl, hj1, hjn, hkj, HT, HG, H⟩ := hrel
            by_cases hlt2 : j < n2
            · have HD := Aside0.mk (H.out.on (below_drew (Below.refl _ _)))
              clear H
              clear hm hm2 HM
              obtain ⟨m, hm, hm2⟩ : ∃ m, j ≤ m + 1 ∧ m + 1 ≤ j := ⟨j - 1, by omega, by omega⟩
              obtain ⟨x, hx⟩ : ∃ x, x = l.getD (k0 + j) zeroP := ⟨_, rfl⟩
              obtain ⟨y, hy⟩ : ∃ y, y = l.getD (k0 + m) zeroP := ⟨_, rfl⟩
              have hx2 := HD.out.at_ (k0 + j) (by omega)
              have hy2 := HD.out.at_ (k0 + m) (by omega)
              rw [HG.out _ (by omega) (by omega), ← hx, Nat.add_mul] at hx2
              rw [HG.out _ (by omega) (by omega), ← hy, Nat.add_mul] at hy2
              have HX := Aside0.mk hx2
              have HY := Aside0.mk hy2
              have hct := comp_take l (k0 + m) (by have := HLEN.out; omega)
              rw [show k0 + m + 1 = k0 + j by omega, show k0 + m + 2 = k0 + (j + 1) by omega, ← hx, ← hy] at hct
              have HCT := Aside0.mk hct
              have HG2 := Aside0.mk (show ∀ i, k0 + (j + 1) ≤ i + 1 → i < nn → M.getD i zeroP = l.getD i zeroP from fun i h1 h2 => HG.out i (by omega) h2)
              clear hx2 hy2 hct hx hy
              have hS0 : Below wr.drew.heap.size wr.drew wr.drew := Below.refl _ _
              by_cases hk : keyN x = keyN y
              · have hd : decide (keyN x = keyN y) = true := decide_eq_true hk
                have HT2 := Aside0.mk (show M.take k1 = comp keyN (l.take (k0 + (j + 1))) by rw [HCT.out, if_pos hk.symm, List.append_nil, HT.out])
                clear hk HCT
                go_wp2
                refine wp_region_held_drew (S := fun w' => Below wr.drew.heap.size wr.drew w') (by kernel_rfl) hS0 (fun hW => ?_)
                generalize hWd : wr.drew = Wd at *
                clear hWd
                refine wpAnyH_take (i := 0) (oi := ⟨some 38, _, _, _, _, _⟩) (v := .func (.func 84) #[] #[]) rfl (by kernel_rfl) (by kernel_rfl) (by kernel_rfl) (fun _ _ _ h => h) (.inl ⟨by rfl, fun W1 h1 => by go_simp⟩) hW ?_
                try simp only [Act.put, List.setIfInBounds_toArray, List.set_cons_zero, List.set_cons_succ]
                refine wpAnyH_take (i := 1) (oi := ⟨some 39, _, _, _, _, _⟩) (v := .slice (some ⟨g, k0 * 36, none⟩) n2 c2) rfl (by kernel_rfl) (by kernel_rfl) (by kernel_rfl) (fun _ _ _ h => h) (.inl ⟨by rfl, fun W1 h1 => by go_simp⟩) hW ?_
                try simp only [Act.put, List.setIfInBounds_toArray, List.set_cons_zero, List.set_cons_succ]
                refine wpAnyH_take (i := 2) (oi := ⟨some 40, _, _, _, _, _⟩) (v := .int .i64 (j : Int)) rfl (by kernel_rfl) (by kernel_rfl) (by kernel_rfl) (fun _ _ _ h => h) (.inl ⟨by rfl, fun W1 h1 => by go_simp⟩) hW ?_
                try simp only [Act.put, List.setIfInBounds_toArray, List.set_cons_zero, List.set_cons_succ]
                refine wpAnyH_take (i := 3) (oi := ⟨some 41, _, _, _, _, _⟩) (v := .pointer (some ⟨g, k0 * 36 + j * 36, none⟩)) rfl (by kernel_rfl) (by kernel_rfl) (by kernel_rfl) (fun _ _ _ h => h) (.inl ⟨by rfl, fun W1 h1 => by go_simp⟩) hW ?_
                try simp only [Act.put, List.setIfInBounds_toArray, List.set_cons_zero, List.set_cons_succ]
                refine wpAnyH_take (i := 4) (oi := ⟨some 42, _, _, _, _, _⟩) rfl (by kernel_rfl) (by kernel_rfl) (by kernel_rfl) (fun _ _ _ h => h) (yieldsIf_load_P (by rfl) _ rfl g (k0 * 36 + j * 36) x HX.out.1 rfl (fun W1 h1 => rangeAt_below HX.out.2 h1 (blk_g HD.out))) hW ?_
                try simp only [Act.put, List.setIfInBounds_toArray, List.set_cons_zero, List.set_cons_succ]
                refine wpAnyH_take (i := 5) (oi := ⟨some 43, _, _, _, _, _⟩) (v := .slice (some ⟨g, k0 * 36, none⟩) n2 c2) rfl (by kernel_rfl) (by kernel_rfl) (by kernel_rfl) (fun _ _ _ h => h) (.inl ⟨by rfl, fun W1 h1 => by go_simp⟩) hW ?_
                try simp only [Act.put, List.setIfInBounds_toArray, List.set_cons_zero, List.set_cons_succ]
                refine wpAnyH_take (i := 6) (oi := ⟨some 44, _, _, _, _, _⟩) (v := .int .i64 (j : Int)) rfl (by kernel_rfl) (by kernel_rfl) (by kernel_rfl) (fun _ _ _ h => h) (.inl ⟨by rfl, fun W1 h1 => by go_simp⟩) hW ?_
                try simp only [Act.put, List.setIfInBounds_toArray, List.set_cons_zero, List.set_cons_succ]
                refine wpAnyH_take (i := 7) (oi := ⟨some 45, _, _, _, _, _⟩) (v := .int .i64 ((j : Int) - 1)) rfl (by kernel_rfl) (by kernel_rfl) (by kernel_rfl) (fun _ _ _ h => h) (.inl ⟨by rfl, fun W1 h1 => by go_simp; rw [IntKind.wrap_i64]; omega⟩) hW ?_
                try simp only [Act.put, List.setIfInBounds_toArray, List.set_cons_zero, List.set_cons_succ]
                refine wpAnyH_take (i := 8) (oi := ⟨some 46, _, _, _, _, _⟩) (v := .pointer (some ⟨g, k0 * 36 + m * 36, none⟩)) rfl (by kernel_rfl) (by kernel_rfl) (by kernel_rfl) (fun _ _ _ h => h) (.inl ⟨by rfl, fun W1 h1 => by go_simp; rw [show j - 1 = m by omega, if_pos (by omega)]⟩) hW ?_
                try simp only [Act.put, List.setIfInBounds_toArray, List.set_cons_zero, List.set_cons_succ]
                refine wpAnyH_take (i := 9) (oi := ⟨some 47, _, _, _, _, _⟩) rfl (by kernel_rfl) (by kernel_rfl) (by kernel_rfl) (fun _ _ _ h => h) (yieldsIf_load_P (by rfl) _ rfl g (k0 * 36 + m * 36) y HY.out.1 rfl (fun W1 h1 => rangeAt_below HY.out.2 h1 (blk_g HD.out))) hW ?_
                try simp only [Act.put, List.setIfInBounds_toArray, List.set_cons_zero, List.set_cons_succ]
                refine wpAnyH_ready (rs := [10]) (by kernel_rfl) (by simp) (AllReadyH.cons rfl (fun K1 hK1 => ?_) AllReadyH.nil)
                go_simp
                refine (same_key_calls x y HX.out.1 HY.out.1 Wd).mono ?_
                rintro e W1 ⟨he, hb1⟩
                rw [hd] at he
                subst he
                have HV := Aside0.mk (HD.out.on hb1)
                have HX1 := Aside0.mk (rangeAt_below HX.out.2 hb1 (blk_g HD.out))
                refine hK1.out _ _ (below_then hW hW.size hb1) (fun hW => ?_)
                try simp only [Act.put, List.setIfInBounds_toArray, List.set_cons_zero, List.set_cons_succ]
                refine wpAnyH_take (i := 11) (oi := ⟨some 49, _, _, _, _, _⟩) (v := .bool false) rfl (by kernel_rfl) (by kernel_rfl) (by kernel_rfl) (fun _ _ _ h => h) (.inl ⟨by rfl, fun W1 h1 => by go_simp⟩) hW ?_
                try simp only [Act.put, List.setIfInBounds_toArray, List.set_cons_zero, List.set_cons_succ]
                refine wpAnyH_done (by kernel_rfl) ?_ _
                clear hW hb1 hK1 K1
                go_wp2
                go_roundw
                case rel => exact ⟨k1, j + 1, M, rfl, by go_num, by omega, by omega, by omega, HT2, HG2, HV⟩
                case measure => simp [intOf]; omega
              · have hd : decide (keyN x = keyN y) = false := decide_eq_false hk
                have HT2 := Aside0.mk (show (M.set k1 x).take (k1 + 1) = comp keyN (l.take (k0 + (j + 1))) by
                  rw [HCT.out, if_neg (fun h => hk h.symm), take_set_snoc _ _ _ (by have := HD.out.len; omega), HT.out])
                have HG3 := Aside0.mk (show ∀ i, k0 + (j + 1) ≤ i + 1 → i < nn → (M.set k1 x).getD i zeroP = l.getD i zeroP from fun i h1 h2 => by
                  rw [getD_set_ne _ _ _ _ (by omega)]; exact HG2.out i h1 h2)
                clear hk HCT HG2
                go_wp2
                refine wp_region_held_drew (S := fun w' => Below wr.drew.heap.size wr.drew w') (by kernel_rfl) hS0 (fun hW => ?_)
                generalize hWd : wr.drew = Wd at *
                clear hWd
                refine wpAnyH_take (i := 0) (oi := ⟨some 38, _, _, _, _, _⟩) (v := .func (.func 84) #[] #[]) rfl (by kernel_rfl) (by kernel_rfl) (by kernel_rfl) (fun _ _ _ h => h) (.inl ⟨by rfl, fun W1 h1 => by go_simp⟩) hW ?_
                try simp only [Act.put, List.setIfInBounds_toArray, List.set_cons_zero, List.set_cons_succ]
                refine wpAnyH_take (i := 1) (oi := ⟨some 39, _, _, _, _, _⟩) (v := .slice (some ⟨g, k0 * 36, none⟩) n2 c2) rfl (by kernel_rfl) (by kernel_rfl) (by kernel_rfl) (fun _ _ _ h => h) (.inl ⟨by rfl, fun W1 h1 => by go_simp⟩) hW ?_
                try simp only [Act.put, List.setIfInBounds_toArray, List.set_cons_zero, List.set_cons_succ]
                refine wpAnyH_take (i := 2) (oi := ⟨some 40, _, _, _, _, _⟩) (v := .int .i64 (j : Int)) rfl (by kernel_rfl) (by kernel_rfl) (by kernel_rfl) (fun _ _ _ h => h) (.inl ⟨by rfl, fun W1 h1 => by go_simp⟩) hW ?_
                try simp only [Act.put, List.setIfInBounds_toArray, List.set_cons_zero, List.set_cons_succ]
                refine wpAnyH_take (i := 3) (oi := ⟨some 41, _, _, _, _, _⟩) (v := .pointer (some ⟨g, k0 * 36 + j * 36, none⟩)) rfl (by kernel_rfl) (by kernel_rfl) (by kernel_rfl) (fun _ _ _ h => h) (.inl ⟨by rfl, fun W1 h1 => by go_simp⟩) hW ?_
                try simp only [Act.put, List.setIfInBounds_toArray, List.set_cons_zero, List.set_cons_succ]
                refine wpAnyH_take (i := 4) (oi := ⟨some 42, _, _, _, _, _⟩) rfl (by kernel_rfl) (by kernel_rfl) (by kernel_rfl) (fun _ _ _ h => h) (yieldsIf_load_P (by rfl) _ rfl g (k0 * 36 + j * 36) x HX.out.1 rfl (fun W1 h1 => rangeAt_below HX.out.2 h1 (blk_g HD.out))) hW ?_
                try simp only [Act.put, List.setIfInBounds_toArray, List.set_cons_zero, List.set_cons_succ]
                refine wpAnyH_take (i := 5) (oi := ⟨some 43, _, _, _, _, _⟩) (v := .slice (some ⟨g, k0 * 36, none⟩) n2 c2) rfl (by kernel_rfl) (by kernel_rfl) (by kernel_rfl) (fun _ _ _ h => h) (.inl ⟨by rfl, fun W1 h1 => by go_simp⟩) hW ?_
                try simp only [Act.put, List.setIfInBounds_toArray, List.set_cons_zero, List.set_cons_succ]
                refine wpAnyH_take (i := 6) (oi := ⟨some 44, _, _, _, _, _⟩) (v := .int .i64 (j : Int)) rfl (by kernel_rfl) (by kernel_rfl) (by kernel_rfl) (fun _ _ _ h => h) (.inl ⟨by rfl, fun W1 h1 => by go_simp⟩) hW ?_
                try simp only [Act.put, List.setIfInBounds_toArray, List.set_cons_zero, List.set_cons_succ]
                refine wpAnyH_take (i := 7) (oi := ⟨some 45, _, _, _, _, _⟩) (v := .int .i64 ((j : Int) - 1)) rfl (by kernel_rfl) (by kernel_rfl) (by kernel_rfl) (fun _ _ _ h => h) (.inl ⟨by rfl, fun W1 h1 => by go_simp; rw [IntKind.wrap_i64]; omega⟩) hW ?_
                try simp only [Act.put, List.setIfInBounds_toArray, List.set_cons_zero, List.set_cons_succ]
                refine wpAnyH_take (i := 8) (oi := ⟨some 46, _, _, _, _, _⟩) (v := .pointer (some ⟨g, k0 * 36 + m * 36, none⟩)) rfl (by kernel_rfl) (by kernel_rfl) (by kernel_rfl) (fun _ _ _ h => h) (.inl ⟨by rfl, fun W1 h1 => by go_simp; rw [show j - 1 = m by omega, if_pos (by omega)]⟩) hW ?_
                try simp only [Act.put, List.setIfInBounds_toArray, List.set_cons_zero, List.set_cons_succ]
                refine wpAnyH_take (i := 9) (oi := ⟨some 47, _, _, _, _, _⟩) rfl (by kernel_rfl) (by kernel_rfl) (by kernel_rfl) (fun _ _ _ h => h) (yieldsIf_load_P (by rfl) _ rfl g (k0 * 36 + m * 36) y HY.out.1 rfl (fun W1 h1 => rangeAt_below HY.out.2 h1 (blk_g HD.out))) hW ?_
                try simp only [Act.put, List.setIfInBounds_toArray, List.set_cons_zero, List.set_cons_succ]
                refine wpAnyH_ready (rs := [10]) (by kernel_rfl) (by simp) (AllReadyH.cons rfl (fun K1 hK1 => ?_) AllReadyH.nil)
                go_simp
                refine (same_key_calls x y HX.out.1 HY.out.1 Wd).mono ?_
                rintro e W1 ⟨he, hb1⟩
                rw [hd] at he
                subst he
                have HV := Aside0.mk (HD.out.on hb1)
                have HX1 := Aside0.mk (rangeAt_below HX.out.2 hb1 (blk_g HD.out))
                refine hK1.out _ _ (below_then hW hW.size hb1) (fun hW => ?_)
                try simp only [Act.put, List.setIfInBounds_toArray, List.set_cons_zero, List.set_cons_succ]
                refine wpAnyH_take (i := 11) (oi := ⟨some 49, _, _, _, _, _⟩) (v := .bool true) rfl (by kernel_rfl) (by kernel_rfl) (by kernel_rfl) (fun _ _ _ h => h) (.inl ⟨by rfl, fun W1 h1 => by go_simp⟩) hW ?_
                try simp only [Act.put, List.setIfInBounds_toArray, List.set_cons_zero, List.set_cons_succ]
                refine wpAnyH_done (by kernel_rfl) ?_ _
                clear hW hb1 hK1 K1
                have HS := Aside0.mk (HV.out.store k1 (by omega) x HX.out.1)
                have HTH := Aside0.mk (HV.out.there k1 (by omega))
                go_wp2_with (first | (refine load_P rfl (.tmp 54) rfl g (k0 * 36 + j * 36) x rfl HX.out.1 HX1.out ?_) | (refine store_PW rfl (.tmp 56) (.tmp 55) rfl g (k1 * 36) x rfl rfl HX.out.1 HTH.out ?_))
                generalize hWs : W1.setCells g (k1 * 36) (encP x).toList = Ws at *
                clear hWs
                go_roundw
                case rel => exact ⟨k1 + 1, j + 1, M.set k1 x, by go_num, by go_num, by omega, by omega, by omega, HT2, HG3, HS⟩
                case measure => simp [intOf]; omega
            · have hcl := DR.cleared H.out k1 (by omega)
              have HT2 := Aside0.mk (show M.take k1 = comp keyN l by rw [HT.out, List.take_of_length_le (by have := HLEN.out; omega)])
              have HCL := Aside0.mk hcl
              obtain ⟨n3, hn3⟩ : ∃ n3, n3 = nn - k1 := ⟨_, rfl⟩
              obtain ⟨c3, hc3⟩ : ∃ c3, c3 = cap - k1 := ⟨_, rfl⟩
              have hcut : (Instr.slice 38 (.slice (some ⟨g, 0, none⟩) nn cap) (some (.int .i64 (k1 : Int))) none none).run Try.prog wr = .ok (.slice (some ⟨g, k1 * 36, none⟩) n3 c3) wr := by
                have := cut38_from (some ⟨g, 0, none⟩) nn cap k1 (by omega) wr
                rw [if_neg (by omega), ← hn3, ← hc3] at this
                rw [this, Option.map_some, add_at]; simp
              have hclr := fun ty => run_clear38 wr ty g (k1 * 36) n3 c3 (by omega) (by rw [hn3]; exact DR.there2 H.out k1 (by omega))
              obtain ⟨Wc, hWc⟩ : ∃ Wc, Wc = wr.setCells g (k1 * 36) (zs n3) := ⟨_, rfl⟩
              rw [← hn3, ← hWc] at hcl
              simp only [← hWc] at hclr
              have HCL := Aside0.mk hcl
              have hcut2 : (Instr.slice 38 (.slice (some ⟨g, 0, none⟩) nn cap) none (some (.int .i64 (k1 : Int))) none).run Try.prog Wc = .ok (.slice (some ⟨g, 0, none⟩) k1 cap) Wc := cut38_to _ _ _ _ (by omega) hcap _
              clear hn3 hc3 hcl hWc
              go_wp2
              rw [HP.out]
              exact ⟨k1, rfl, by rw [← HT2.out]; exact HCL.out⟩
        · have hd : decide (keyN x = keyN y) = false := decide_eq_false hk
          have HC2 := Aside0.mk (show comp keyN (l.take (k + 1)) = l.take (k + 1) by
            rw [HCT.out, if_neg (fun h => hk h.symm), List.take_add_one, List.getElem?_eq_getElem (by have := HLEN.out; omega), HXL.out, List.getD_eq_getElem?_getD, List.getElem?_eq_getElem (by have := HLEN.out; omega)]; rfl)
          clear hk HCT HC
          go_wp2
          refine wp_region_held_drew (S := fun w' => Below wr.drew.heap.size wr.drew w') (by kernel_rfl) hS0 (fun hW => ?_)
          generalize hWd : wr.drew = Wd at *
          clear hWd
          refine wpAnyH_take (i := 0) (oi := ⟨some 18, _, _, _, _, _⟩) (v := .func (.func 84) #[] #[]) rfl (by kernel_rfl) (by kernel_rfl) (by kernel_rfl) (fun _ _ _ h => h) (.inl ⟨by rfl, fun W1 h1 => by go_simp⟩) hW ?_
          try simp only [Act.put, List.setIfInBounds_toArray, List.set_cons_zero, List.set_cons_succ]
          refine wpAnyH_take (i := 1) (oi := ⟨some 19, _, _, _, _, _⟩) (v := .slice (some ⟨g, 0, none⟩) nn cap) rfl (by kernel_rfl) (by kernel_rfl) (by kernel_rfl) (fun _ _ _ h => h) (.inl ⟨by rfl, fun W1 h1 => by go_simp⟩) hW ?_
          try simp only [Act.put, List.setIfInBounds_toArray, List.set_cons_zero, List.set_cons_succ]
          refine wpAnyH_take (i := 2) (oi := ⟨some 20, _, _, _, _, _⟩) (v := .int .i64 (k : Int)) rfl (by kernel_rfl) (by kernel_rfl) (by kernel_rfl) (fun _ _ _ h => h) (.inl ⟨by rfl, fun W1 h1 => by go_simp⟩) hW ?_
          try simp only [Act.put, List.setIfInBounds_toArray, List.set_cons_zero, List.set_cons_succ]
          refine wpAnyH_take (i := 3) (oi := ⟨some 21, _, _, _, _, _⟩) (v := .pointer (some ⟨g, k * 36, none⟩)) rfl (by kernel_rfl) (by kernel_rfl) (by kernel_rfl) (fun _ _ _ h => h) (.inl ⟨by rfl, fun W1 h1 => by go_simp⟩) hW ?_
          try simp only [Act.put, List.setIfInBounds_toArray, List.set_cons_zero, List.set_cons_succ]
          refine wpAnyH_take (i := 4) (oi := ⟨some 22, _, _, _, _, _⟩) rfl (by kernel_rfl) (by kernel_rfl) (by kernel_rfl) (fun _ _ _ h => h) (yieldsIf_load_P (by rfl) _ rfl g (k * 36) x HX.out.1 rfl (fun W1 h1 => rangeAt_below HX.out.2 h1 (blk_g HD.out))) hW ?_
          try simp only [Act.put, List.setIfInBounds_toArray, List.set_cons_zero, List.set_cons_succ]
          refine wpAnyH_take (i := 5) (oi := ⟨some 23, _, _, _, _, _⟩) (v := .slice (some ⟨g, 0, none⟩) nn cap) rfl (by kernel_rfl) (by kernel_rfl) (by kernel_rfl) (fun _ _ _ h => h) (.inl ⟨by rfl, fun W1 h1 => by go_simp⟩) hW ?_
          try simp only [Act.put, List.setIfInBounds_toArray, List.set_cons_zero, List.set_cons_succ]
          refine wpAnyH_take (i := 6) (oi := ⟨some 24, _, _, _, _, _⟩) (v := .int .i64 (k : Int)) rfl (by kernel_rfl) (by kernel_rfl) (by kernel_rfl) (fun _ _ _ h => h) (.inl ⟨by rfl, fun W1 h1 => by go_simp⟩) hW ?_
          try simp only [Act.put, List.setIfInBounds_toArray, List.set_cons_zero, List.set_cons_succ]
          refine wpAnyH_take (i := 7) (oi := ⟨some 25, _, _, _, _, _⟩) (v := .int .i64 ((k : Int) - 1)) rfl (by kernel_rfl) (by kernel_rfl) (by kernel_rfl) (fun _ _ _ h => h) (.inl ⟨by rfl, fun W1 h1 => by go_simp; rw [IntKind.wrap_i64]; omega⟩) hW ?_
          try simp only [Act.put, List.setIfInBounds_toArray, List.set_cons_zero, List.set_cons_succ]
          refine wpAnyH_take (i := 8) (oi := ⟨some 26, _, _, _, _, _⟩) (v := .pointer (some ⟨g, m * 36, none⟩)) rfl (by kernel_rfl) (by kernel_rfl) (by kernel_rfl) (fun _ _ _ h => h) (.inl ⟨by rfl, fun W1 h1 => by go_simp; rw [show k - 1 = m by omega, if_pos (by omega)]⟩) hW ?_
          try simp only [Act.put, List.setIfInBounds_toArray, List.set_cons_zero, List.set_cons_succ]
          refine wpAnyH_take (i := 9) (oi := ⟨some 27, _, _, _, _, _⟩) rfl (by kernel_rfl) (by kernel_rfl) (by kernel_rfl) (fun _ _ _ h => h) (yieldsIf_load_P (by rfl) _ rfl g (m * 36) y HY.out.1 rfl (fun W1 h1 => rangeAt_below HY.out.2 h1 (blk_g HD.out))) hW ?_
          try simp only [Act.put, List.setIfInBounds_toArray, List.set_cons_zero, List.set_cons_succ]
          refine wpAnyH_ready (rs := [10]) (by kernel_rfl) (by simp) (AllReadyH.cons rfl (fun K1 hK1 => ?_) AllReadyH.nil)
          go_simp
          refine (same_key_calls x y HX.out.1 HY.out.1 Wd).mono ?_
          rintro e W1 ⟨he, hb1⟩
          rw [hd] at he
          subst he
          have HV := Aside0.mk (HD.out.on hb1)
          have HX1 := Aside0.mk (rangeAt_below HX.out.2 hb1 (blk_g HD.out))
          refine hK1.out _ _ (below_then hW hW.size hb1) (fun hW => ?_)
          try simp only [Act.put, List.setIfInBounds_toArray, List.set_cons_zero, List.set_cons_succ]
          refine wpAnyH_done (by kernel_rfl) ?_ _
          clear hW hb1 hK1 K1
          go_wp2
          go_roundw
          case rel => exact ⟨k + 1, by go_num, by omega, by omega, HC2, HV⟩
          case measure => simp [intOf]; omega
      · have HC2 := Aside0.mk (show comp keyN l = l by
          have := HC.out
          rwa [List.take_of_length_le (by have := HLEN.out; omega)] at this)
        clear HC
        go_wp2
        rw [HP.out]
        exact ⟨nn, rfl, by rw [HC2.out]; exact H.out⟩
end Go.Proofs.Ytfefpbnhpncmlaa.DeaY
namespace Go.Proofs.Ytfefpbnhpncmlaa.DebA
open Go.RowKit Go.Proofs.Ytfefpbnhpncmlaa.EntL Go.Proofs.Ytfefpbnhpncmlaa.EntB Go.Proofs.Ytfefpbnhpncmlaa.EntC Go.Proofs.Ytfefpbnhpncmlaa.EntD Go.Proofs.Ytfefpbnhpncmlaa.EntE Go.Proofs.Ytfefpbnhpncmlaa.EntF Go.Proofs.Ytfefpbnhpncmlaa.CatR Go.Proofs.Ytfefpbnhpncmlaa.CatT Go.Proofs.Ytfefpbnhpncmlaa.CatU Go.Proofs.Ytfefpbnhpncmlaa.CatK Go.Proofs.Ytfefpbnhpncmlaa.CatS Go.Proofs.Ytfefpbnhpncmlaa.CatY Go.Proofs.Ytfefpbnhpncmlaa.RefG Go.Proofs.Ytfefpbnhpncmlaa.PtrB Go.Proofs.Ytfefpbnhpncmlaa.PtrG Go.Proofs.Ytfefpbnhpncmlaa.Agg Go.Proofs.Ytfefpbnhpncmlaa.B8 Go.Proofs.Ytfefpbnhpncmlaa.CodL Go.Proofs.Ytfefpbnhpncmlaa.CodA Go.Proofs.Ytfefpbnhpncmlaa.CodB Go.Proofs.Ytfefpbnhpncmlaa.CatL Go.Proofs.Ytfefpbnhpncmlaa.PtrA Go.Proofs.Ytfefpbnhpncmlaa.PtrE Go.Proofs.Ytfefpbnhpncmlaa.PtrF Go.Proofs.Ytfefpbnhpncmlaa.PBaseSigns Go.Proofs.YtfefpbnhpncmlaaW.PrintWords Go.Proofs.YtfefpbnhpncmlaaW.PrintLast Go.Proofs.YtfefpbnhpncmlaaW.PrintMore Go.Proofs.Ytfefpbnhpncmlaa.EntG Go.Proofs.Ytfefpbnhpncmlaa.StmA Go.Proofs.Ytfefpbnhpncmlaa.StmB Go.Proofs.Ytfefpbnhpncmlaa.StmC Go.Proofs.Ytfefpbnhpncmlaa.CrcC Go.Proofs.Ytfefpbnhpncmlaa.StmD Go.Proofs.Ytfefpbnhpncmlaa.StmE Go.Proofs.Ytfefpbnhpncmlaa.CrcL Go.Proofs.Ytfefpbnhpncmlaa.StmL Go.Proofs.Ytfefpbnhpncmlaa.StmF Go.Proofs.Ytfefpbnhpncmlaa.StmG Go.Proofs.Ytfefpbnhpncmlaa.StmH Go.Proofs.Ytfefpbnhpncmlaa.StmI Go.Proofs.Ytfefpbnhpncmlaa.StmJ Go.Proofs.Ytfefpbnhpncmlaa.StmK Go.Proofs.Ytfefpbnhpncmlaa.StmM Go.Proofs.Ytfefpbnhpncmlaa.StmN Go.Proofs.Ytfefpbnhpncmlaa.StmO Go.Proofs.Ytfefpbnhpncmlaa.StmP Go.Proofs.Ytfefpbnhpncmlaa.StmP Go.Proofs.Ytfefpbnhpncmlaa.DeaA Go.Proofs.Ytfefpbnhpncmlaa.DeaB Go.Proofs.Ytfefpbnhpncmlaa.DeaN Go.Proofs.Ytfefpbnhpncmlaa.DeaC Go.Proofs.Ytfefpbnhpncmlaa.DeaR Go.Proofs.Ytfefpbnhpncmlaa.DeaL Go.Proofs.Ytfefpbnhpncmlaa.DeaS Go.Proofs.Ytfefpbnhpncmlaa.DeaT Go.Proofs.Ytfefpbnhpncmlaa.DeaU Go.Proofs.Ytfefpbnhpncmlaa.DeaV Go.Proofs.Ytfefpbnhpncmlaa.DeaW Go.Proofs.Ytfefpbnhpncmlaa.DeaX Go.Proofs.Ytfefpbnhpncmlaa.DeaY Go.Proofs.Ytfefpbnhpncmlaa.CatW Go.Proofs.Ytfefpbnhpncmlaa.CatV
set_option linter.unusedVariables false
set_option linter.unusedSimpArgs false

set_option maxRecDepth 100000 in
theorem insertion_nil (W : World) : Calls Try.prog 128 #[.slice none 0 0, .int .i64 0, .int .i64 0, .func (.func 82) #[] #[]] W fun e W' => e = .returned (.tuple #[]) ∧ W' = W := by
  obtain ⟨P, hP⟩ : ∃ P : Ending → World → Prop, P = (fun e W' => e = .returned (.tuple #[]) ∧ W' = W) := ⟨_, rfl⟩
  rw [← hP]
  have HP := Aside0.mk hP
  clear hP
  go_enter Try.func128, Try.ntmps128
  go_wp2
  go_loopw [8] (fun v8 wr => v8 = .int .i64 1 ∧ Aside0 (wr = W)) (fun _ _ => 0)
  case atStart => exact ⟨by go_num, ⟨rfl⟩⟩
  case round =>
    obtain ⟨rfl, HW⟩ := hrel
    go_wp2
    go_end0
    rw [HP.out]
    exact ⟨rfl, HW.out⟩
set_option maxRecDepth 100000 in
theorem stable_nil (W : World) : Calls Try.prog 114 #[.slice none 0 0, .int .i64 0, .func (.func 82) #[] #[]] W fun e W' => e = .returned (.tuple #[]) ∧ W' = W := by
  obtain ⟨P, hP⟩ : ∃ P : Ending → World → Prop, P = (fun e W' => e = .returned (.tuple #[]) ∧ W' = W) := ⟨_, rfl⟩
  rw [← hP]
  have HP := Aside0.mk hP
  clear hP
  go_enter Try.func114, Try.ntmps114
  go_wp2
  go_loopw [7, 8] (fun v7 v8 wr => v7 = .int .i64 0 ∧ v8 = .int .i64 20 ∧ Aside0 (wr = W)) (fun _ _ _ => 0)
  case atStart => exact ⟨by go_num, by go_num, ⟨rfl⟩⟩
  case round =>
    obtain ⟨rfl, rfl, HW⟩ := hrel
    go_wp2_with fail
    refine (insertion_nil wr).mono ?_
    rintro e w2 ⟨rfl, h2⟩
    have HW2 := Aside0.mk (h2.trans HW.out)
    clear h2
    go_wp2
    go_loopw [6] (fun v6 wr => v6 = .int .i64 20 ∧ Aside0 (wr = W)) (fun _ _ => 0)
    case atStart => exact ⟨by go_num, HW2⟩
    case round =>
      obtain ⟨rfl, HW3⟩ := hrel
      go_wp2
      go_end0
      rw [HP.out]
      exact ⟨rfl, HW3.out⟩
set_option maxRecDepth 100000 in
theorem sort81_nil (W : World) : Calls Try.prog 81 #[.slice none 0 0, .func (.func 82) #[] #[]] W fun e W' => e = .returned (.tuple #[]) ∧ W' = W := by
  obtain ⟨P, hP⟩ : ∃ P : Ending → World → Prop, P = (fun e W' => e = .returned (.tuple #[]) ∧ W' = W) := ⟨_, rfl⟩
  rw [← hP]
  have HP := Aside0.mk hP
  clear hP
  go_enter Try.func81, Try.ntmps81
  go_wp2_with fail
  refine (stable_nil W).mono ?_
  rintro e w2 ⟨rfl, h2⟩
  have HW2 := Aside0.mk h2
  clear h2
  go_wp2
  go_end0
  rw [HP.out]
  exact ⟨rfl, HW2.out⟩
set_option maxRecDepth 100000 in
theorem sort81_calls (B : World) (g nn cap : Nat) (hn : nn ≤ 1000) (l : List Ptr) (W : World) (H : DR B g nn cap l W) :
    Calls Try.prog 81 #[.slice (some ⟨g, 0, none⟩) nn cap, .func (.func 82) #[] #[]] W (TellsSym B g nn cap (stab keyN l)) := by
  obtain ⟨P, hP⟩ : ∃ P : Ending → World → Prop, P = TellsSym B g nn cap (stab keyN l) := ⟨_, rfl⟩
  rw [← hP]
  have HP := Aside0.mk hP
  have H0 := Aside0.mk H
  clear hP H
  go_enter Try.func81, Try.ntmps81
  go_wp2_with fail
  refine (stable_calls B g nn cap hn l W H0.out).mono ?_
  rintro e w2 ⟨rfl, h2⟩
  have HW2 := Aside0.mk h2
  clear h2
  go_wp2
  go_end0
  rw [HP.out]
  exact ⟨rfl, HW2.out⟩
set_option maxRecDepth 100000 in
theorem compact_nil (W : World) : Calls Try.prog 83 #[.slice none 0 0, .func (.func 84) #[] #[]] W fun e W' => e = .returned (.slice none 0 0) ∧ W' = W := by
  obtain ⟨P, hP⟩ : ∃ P : Ending → World → Prop, P = (fun e W' => e = .returned (.slice none 0 0) ∧ W' = W) := ⟨_, rfl⟩
  rw [← hP]
  have HP := Aside0.mk hP
  clear hP
  go_enter Try.func83, Try.ntmps83
  go_wp2
  rw [HP.out]
  exact ⟨rfl, rfl⟩
theorem R_or {W : World} {base : Nat} {v : Value} {l : List Ptr} (h : Kd.R kP 56 W base (fun _ => True) v l) : (v = .slice none 0 0 ∧ l = []) ∨ ∃ g cap, v = .slice (some ⟨g, 0, none⟩) l.length cap := by
  obtain ⟨_, inner, ho, hr⟩ := h
  rcases ho.2 with ⟨hv, hn⟩ | ⟨g, cap, cur, hv, _⟩
  · exact .inl ⟨hv, List.eq_nil_of_length_eq_zero hn⟩
  · exact .inr ⟨g, cap, hv⟩
set_option maxRecDepth 100000 in
theorem sort_calls (A : Option Addr) (c n : Nat) (l : List Ptr) (w : World) (hr : Kd.C kP w A n l) (hnc : n ≤ c) (hm : n ≤ 1000) : Calls Try.prog 41 #[.slice A n c] w (TellsP w (uniq keyN l)) := by
  have HR := Aside0.mk hr
  have hl : l.length = n := hr.1
  have HL := Aside0.mk hl
  obtain ⟨P, hP⟩ : ∃ P : Ending → World → Prop, P = TellsP w (uniq keyN l) := ⟨_, rfl⟩
  rw [← hP]
  have HP := Aside0.mk hP
  clear hP hr hl
  go_enter Try.func41, Try.ntmps41
  go_wp2_with fail
  refine (clone_calls A c n l w HR.out hnc hm).mono ?_
  rintro e w1 ⟨v, rfl, h1, hb1⟩
  have HB1 := Aside0.mk hb1
  rcases R_or h1 with ⟨rfl, h0⟩ | ⟨g, cap, hv⟩
  · have H0 := Aside0.mk h0
    clear h1 hb1 h0
    go_wp2_with fail
    refine (sort81_nil w1).mono ?_
    rintro e w2 ⟨rfl, rfl⟩
    go_wp2_with fail
    refine (compact_nil w2).mono ?_
    rintro e w3 ⟨rfl, rfl⟩
    go_wp2
    rw [HP.out, H0.out]
    exact ⟨_, rfl, Kd.R_nil _ _ _ _ _, HB1.out⟩
  · rw [HL.out] at hv
    subst hv
    have HD := Aside0.mk (⟨h1, hb1⟩ : DR w g n cap l w1)
    clear h1 hb1
    go_wp2_with fail
    refine (sort81_calls w g n cap hm l w1 HD.out).mono ?_
    rintro e w2 ⟨rfl, h2⟩
    have HD2 := Aside0.mk h2
    clear h2
    go_wp2_with fail
    refine (compact_calls w g n cap hm _ w2 HD2.out).mono ?_
    rintro e w3 ⟨m, rfl, h3⟩
    have HD3 := Aside0.mk h3
    clear h3
    go_wp2
    rw [HP.out, ← comp_stab]
    exact ⟨_, rfl, HD3.out.row, HD3.out.below⟩
end Go.Proofs.Ytfefpbnhpncmlaa.DebA
namespace Go.Proofs.Ytfefpbnhpncmlaa.DebB
open Go.RowKit Go.Proofs.Ytfefpbnhpncmlaa.EntL Go.Proofs.Ytfefpbnhpncmlaa.EntB Go.Proofs.Ytfefpbnhpncmlaa.EntC Go.Proofs.Ytfefpbnhpncmlaa.EntD Go.Proofs.Ytfefpbnhpncmlaa.EntE Go.Proofs.Ytfefpbnhpncmlaa.EntF Go.Proofs.Ytfefpbnhpncmlaa.CatR Go.Proofs.Ytfefpbnhpncmlaa.CatT Go.Proofs.Ytfefpbnhpncmlaa.CatU Go.Proofs.Ytfefpbnhpncmlaa.CatK Go.Proofs.Ytfefpbnhpncmlaa.CatS Go.Proofs.Ytfefpbnhpncmlaa.CatY Go.Proofs.Ytfefpbnhpncmlaa.RefG Go.Proofs.Ytfefpbnhpncmlaa.PtrB Go.Proofs.Ytfefpbnhpncmlaa.PtrG Go.Proofs.Ytfefpbnhpncmlaa.Agg Go.Proofs.Ytfefpbnhpncmlaa.B8 Go.Proofs.Ytfefpbnhpncmlaa.CodL Go.Proofs.Ytfefpbnhpncmlaa.CodA Go.Proofs.Ytfefpbnhpncmlaa.CodB Go.Proofs.Ytfefpbnhpncmlaa.CatL Go.Proofs.Ytfefpbnhpncmlaa.PtrA Go.Proofs.Ytfefpbnhpncmlaa.PtrE Go.Proofs.Ytfefpbnhpncmlaa.PtrF Go.Proofs.Ytfefpbnhpncmlaa.PBaseSigns Go.Proofs.YtfefpbnhpncmlaaW.PrintWords Go.Proofs.YtfefpbnhpncmlaaW.PrintLast Go.Proofs.YtfefpbnhpncmlaaW.PrintMore Go.Proofs.Ytfefpbnhpncmlaa.EntG Go.Proofs.Ytfefpbnhpncmlaa.StmA Go.Proofs.Ytfefpbnhpncmlaa.StmB Go.Proofs.Ytfefpbnhpncmlaa.StmC Go.Proofs.Ytfefpbnhpncmlaa.CrcC Go.Proofs.Ytfefpbnhpncmlaa.StmD Go.Proofs.Ytfefpbnhpncmlaa.StmE Go.Proofs.Ytfefpbnhpncmlaa.CrcL Go.Proofs.Ytfefpbnhpncmlaa.StmL Go.Proofs.Ytfefpbnhpncmlaa.StmF Go.Proofs.Ytfefpbnhpncmlaa.StmG Go.Proofs.Ytfefpbnhpncmlaa.StmH Go.Proofs.Ytfefpbnhpncmlaa.StmI Go.Proofs.Ytfefpbnhpncmlaa.StmJ Go.Proofs.Ytfefpbnhpncmlaa.StmK Go.Proofs.Ytfefpbnhpncmlaa.StmM Go.Proofs.Ytfefpbnhpncmlaa.StmN Go.Proofs.Ytfefpbnhpncmlaa.StmO Go.Proofs.Ytfefpbnhpncmlaa.StmP Go.Proofs.Ytfefpbnhpncmlaa.StmP Go.Proofs.Ytfefpbnhpncmlaa.DeaA Go.Proofs.Ytfefpbnhpncmlaa.DeaB Go.Proofs.Ytfefpbnhpncmlaa.DeaN Go.Proofs.Ytfefpbnhpncmlaa.DeaC Go.Proofs.Ytfefpbnhpncmlaa.DeaR Go.Proofs.Ytfefpbnhpncmlaa.DeaL Go.Proofs.Ytfefpbnhpncmlaa.DeaS Go.Proofs.Ytfefpbnhpncmlaa.DeaT Go.Proofs.Ytfefpbnhpncmlaa.DeaU Go.Proofs.Ytfefpbnhpncmlaa.DeaV Go.Proofs.Ytfefpbnhpncmlaa.DeaW Go.Proofs.Ytfefpbnhpncmlaa.DeaX Go.Proofs.Ytfefpbnhpncmlaa.DeaY Go.Proofs.Ytfefpbnhpncmlaa.DebA Go.Proofs.Ytfefpbnhpncmlaa.CatW Go.Proofs.Ytfefpbnhpncmlaa.CatV
set_option linter.unusedVariables false
set_option linter.unusedSimpArgs false

theorem wpAnyH_mono {P : Program} {md : Region.Mode} {ops : Array Oper} {Q : Exit → Act → World → Prop} {S S' : World → Prop} (hS : ∀ w, S' w → S w) :
    ∀ {fuel : Nat} {listed : Array Bool} {a : Act} {w : World}, wpAnyH P md ops Q S' fuel listed a w → wpAnyH P md ops Q S fuel listed a w
  | 0, _, _, _, h => h
  | fuel + 1, _, _, _, h => ⟨h.1, fun i hi => wpOp_mono (fun a' w' h' => ⟨hS _ h'.1, wpAnyH_mono hS h'.2⟩) (h.2 i hi)⟩
theorem less_big : ∀ (l m : List Int), Byt l → Byt m → l.length = m.length → Op.bytesLess (l.map fun n => UInt8.ofNat n.toNat) (m.map fun n => UInt8.ofNat n.toNat) = decide (bigN l < bigN m)
  | [], [], _, _, _ => rfl
  | a :: l, b :: m, hl, hm, he => by
    have ih := less_big l m (fun x hx => hl x (List.mem_cons_of_mem _ hx)) (fun x hx => hm x (List.mem_cons_of_mem _ hx)) (by simpa using he)
    have ha := hl a (List.mem_cons_self ..)
    have hb := hm b (List.mem_cons_self ..)
    have hl2 := bigN_lt (l := l) (fun x hx => hl x (List.mem_cons_of_mem _ hx))
    have hm2 := bigN_lt (l := m) (fun x hx => hm x (List.mem_cons_of_mem _ hx))
    have hlen : l.length = m.length := by simpa using he
    have e1 : (decide (UInt8.ofNat a.toNat < UInt8.ofNat b.toNat)) = decide (a < b) := by
      by_cases h : a < b
      · rw [decide_eq_true h]; exact decide_eq_true ((toU8_lt ha hb).2 h)
      · rw [decide_eq_false h]; exact decide_eq_false (fun h' => h ((toU8_lt ha hb).1 h'))
    have e2 : (UInt8.ofNat a.toNat == UInt8.ofNat b.toNat) = decide (a = b) := by
      by_cases h : a = b
      · subst h; simp
      · rw [decide_eq_false h, beq_eq_false_iff_ne]
        intro h'
        have := congrArg UInt8.toNat h'
        simp only [UInt8.toNat_ofNat'] at this
        omega
    have q1 : bigN (a :: l) = a.toNat * 256 ^ l.length + bigN l := rfl
    have q2 : bigN (b :: m) = b.toNat * 256 ^ m.length + bigN m := rfl
    simp only [List.map_cons, Op.bytesLess, e1, e2, ih]
    rw [Bool.eq_iff_iff]
    simp only [Bool.or_eq_true, Bool.and_eq_true, decide_eq_true_eq]
    rw [q1, q2]
    rw [hlen] at hl2 ⊢
    by_cases h1 : a < b
    · have := head_lt (x := bigN l) (y := bigN m) (show a.toNat < b.toNat by omega) hl2
      exact ⟨fun _ => this, fun _ => .inl h1⟩
    · by_cases h2 : b < a
      · have := head_lt (x := bigN m) (y := bigN l) (show b.toNat < a.toNat by omega) hm2
        exact ⟨fun h => by omega, fun h => by omega⟩
      · obtain rfl : a = b := by omega
        exact ⟨fun h => by rcases h with h | h <;> omega, fun h => .inr ⟨rfl, by omega⟩⟩
theorem toList_str (l : List Int) : (strOfNums l).toList = l.map fun n => UInt8.ofNat n.toNat := by
  rw [← strOfNums_data]
  exact ByteArray.toList_eq _
theorem less_key (p q : Ptr) : Op.bytesLess (strOfNums (keyL p)).toList (strOfNums (keyL q)).toList = decide (keyN p < keyN q) := by
  rw [toList_str, toList_str]
  exact less_big _ _ (keyL_byt p) (keyL_byt q) (by rw [keyL_len, keyL_len])
theorem same_key (p q : Ptr) : ((strOfNums (keyL p)).toList == (strOfNums (keyL q)).toList) = decide (keyN p = keyN q) := by
  rw [CatV.str_iff _ _ (keyL_byt p) (keyL_byt q)]
  exact decide_eq_decide.2 key_eq
section
variable {α : Type} {k : α → Nat}
theorem ins_pos {x : α} {S : List α} {i : Nat} (h1 : ∀ y ∈ S.take i, k y < k x) (h2 : ∀ y, S[i]? = some y → k x < k y) : ins k x S = (S.take i ++ [x]) ++ S.drop i := by
  induction S generalizing i with
  | nil => simp [ins]
  | cons y r ih =>
    cases i with
    | zero =>
      have := h2 y (by simp)
      rw [ins, if_neg (by omega), if_neg (by omega)]; rfl
    | succ i =>
      have := h1 y (by simp)
      rw [ins, if_pos this, ih (fun z hz => h1 z (by rw [List.take_succ_cons]; exact List.mem_cons_of_mem _ hz)) (fun z hz => h2 z (by simpa using hz))]
      rfl
theorem ins_same {x y : α} {S : List α} {i : Nat} (h1 : ∀ y ∈ S.take i, k y < k x) (h2 : S[i]? = some y) (h3 : k y = k x) : ins k x S = S := by
  induction S generalizing i with
  | nil => simp at h2
  | cons z r ih =>
    cases i with
    | zero =>
      obtain rfl : z = y := by simpa using h2
      rw [ins, if_neg (by omega), if_pos h3]
    | succ i =>
      have := h1 z (by simp)
      rw [ins, if_pos this, ih (fun z hz => h1 z (by rw [List.take_succ_cons]; exact List.mem_cons_of_mem _ hz)) (by simpa using h2)]
theorem len_ins_le (x : α) (S : List α) : (ins k x S).length ≤ S.length + 1 := by
  induction S with
  | nil => simp [ins]
  | cons y r ih =>
    rw [ins]
    split
    · simp only [List.length_cons]; omega
    · split
      · simp
      · simp
theorem len_uniq_le (l : List α) : (uniq k l).length ≤ l.length := by
  refine snoc_ind (P := fun l => (uniq k l).length ≤ l.length) (by simp [uniq]) (fun l x ih => ?_) l
  rw [uniq_snoc, List.length_append, List.length_singleton]
  have := len_ins_le (k := k) x (uniq k l)
  omega
end
theorem CP_grown {W W1 : World} {n : Nat} {l : List Ptr} {row : Option Nat} {g : Nat} (h : Kd.C kP W (some ⟨g, 0, none⟩) n l) (hg : W.grownBy W1 row) (hne : ∀ q, row = some q → q ≠ g) (hlt : g < W.heap.size) : Kd.C kP W1 (some ⟨g, 0, none⟩) n l :=
  ⟨h.1, h.2.1, fun hn => by
    obtain ⟨ad, e, hc⟩ := h.2.2 hn
    injection e with e
    subst e
    refine ⟨_, rfl, fun j p hj => ?_⟩
    obtain ⟨c, h1, h2, h3⟩ := hc j p hj
    refine ⟨c, h1, h2, fun i u hu => ?_⟩
    refine (World.cell?_of_block ?_).trans (h3 i u hu)
    have e0 : ((⟨g, 0, none⟩ : Addr).add (j * kP.sz + i)).block = g := by unfold Addr.add; split <;> rfl
    rw [e0]
    exact hg.block g hlt (fun he => hne g he.symm rfl)⟩
section
variable {ops : Array Oper} {o : Oper} {rest : List Oper} {a : Act} {Q : Exit → Act → World → Prop} {K : Act → World → Prop}
theorem run_mt38 (W : World) : (Instr.buildSlice 38 0 #[]).run Try.prog W = .ok (.slice (some ⟨W.heap.size, 0, none⟩) 0 0) (W.alloc (.cells #[] 56)) := by kernel_rfl
theorem wp_mt38 {Wd W : World} {N : Nat} (ho : o.op = .buildSlice 38 0 #[]) (HB : Below N Wd W) (hN : N ≤ W.heap.size)
    (h : ∀ v w1, Kd.R kP 56 w1 N (fun _ => True) v [] → (∀ q, v.ownBlock = some q → W.heap.size ≤ q) → (∃ A c, v = .slice A 0 c) → Below N Wd w1 → Below W.heap.size W w1 → K (a.put o.dst v) w1) : o.wp Try.prog a W K Q := by
  unfold Oper.wp execOp
  simp only [ho]
  have hm : (#[] : Array (Nat × Operand)).map (fun (i, x) => (i, a.eval x)) = #[] := by simp
  rw [hm]
  simp only [Sem.run_bind, Sem.run_pure, Result.andThen_ok, run_mt38]
  exact h _ _ (R_mt W N hN) (fun q hq => by simp [Value.ownBlock] at hq; omega) ⟨_, _, rfl⟩ (HB.alloc hN _) (below_alloc (Below.refl _ _) _)
theorem C_one (W : World) (x : Ptr) (hx : Ok x) : Kd.C kP (W.alloc (.cells (encP x) 56)) (some ⟨W.heap.size, 0, none⟩) 1 [x] :=
  ⟨rfl, by omega, fun _ => ⟨_, rfl, fun j p hj => by
    match j with
    | 0 =>
      obtain rfl : x = p := by simpa using hj
      refine ⟨(encP x).toList, enc_len hx, ⟨rfl, hx⟩, fun i u hu => ?_⟩
      rw [show (⟨W.heap.size, 0, none⟩ : Addr).add (0 * kP.sz + i) = ⟨W.heap.size, i, none⟩ from by rw [add_at]; simp, cell_of_row _ _ _ _ 56 (0, 0) (heap_new _ _), ← Array.getElem?_toList]
      exact hu
    | j + 1 => simp at hj⟩⟩
theorem wp_oneC {Wd W : World} {N : Nat} (x : Operand) (ho : o.op = .buildSlice 38 1 #[(0, x)]) (p : Ptr) (hk : Ok p) (hx : a.eval x = .agg (encP p)) (HB : Below N Wd W) (hN : N ≤ W.heap.size)
    (h : ∀ g w1, Kd.C kP w1 (some ⟨g, 0, none⟩) 1 [p] → W.heap.size ≤ g → g < w1.heap.size → Below N Wd w1 → Below W.heap.size W w1 → K (a.put o.dst (.slice (some ⟨g, 0, none⟩) 1 1)) w1) : o.wp Try.prog a W K Q :=
  wp_one_P x ho p hk hx (h _ _ (C_one W p hk) (Nat.le_refl _) (by simp) (HB.alloc hN _) (below_alloc (Below.refl _ _) _))
/-- append(v, ys...), of a region that draws its order -/
theorem wp_rowsC {w0 W : World} {base : Nat} (s x : Operand) (ho : o.op = .call { callee := .builtin .append, args := #[s, x], argTypes := #[38, 38] })
    (v : Value) (xs ys : List Ptr) (A : Option Addr) (m c : Nat) (hs : a.eval s = v) (hx : a.eval x = .slice A m c)
    (HO : Kd.R kP 56 W base (fun _ => True) v xs) (HR : Kd.C kP W A m ys) (HB : Below base w0 W) (hbase : base ≤ W.heap.size) (hl : xs.length + m ≤ 100000)
    (h : ∀ v1 w1, Kd.R kP 56 w1 base (fun _ => True) v1 (xs ++ ys) → Below base w0 w1 → W.grownBy w1 v.ownBlock → K (a.put o.dst v1) w1) : o.wp Try.prog a W K Q := by
  have hop : ({ o with guard := none } : Oper).op = .call { callee := .builtin .append, args := #[s, x], argTypes := #[38, 38] } := ho
  have := Kd.R_append_rows_step (P := Try.prog) (ops := #[]) (o := { o with guard := none }) (a := a) (Q := Q) (Kc := K) kP (w0 := w0) base rfl s x 38 56 (.agg Z56) 64 hop Try.underlying38 info56 rfl (by decide) (by decide) v xs ys A m c (fun _ => True) (fun _ => False) hs hx HO HR (fun _ _ h => h) (fun _ h => h.elim) (fun _ _ => trivial) HB hbase (by omega)
    (fun v1 w1 h1 h2 h3 _ => h v1 w1 h1 h2 h3)
  have hw : Region.wanted { o with guard := none } (yielded #[] a.tmps) = true := rfl
  rw [if_pos hw] at this
  exact this
end
set_option maxRecDepth 100000 in
set_option maxHeartbeats 16000000 in
theorem rsort_calls (A : Option Addr) (c n : Nat) (l : List Ptr) (w : World) (hr : Kd.C kP w A n l) (hnc : n ≤ c) (hm : n ≤ 1000) : Calls Try.prog 42 #[.slice A n c] w (TellsP w (uniq keyN l)) := by
  have HR := Aside0.mk hr
  have hl : l.length = n := hr.1
  have HL := Aside0.mk hl
  obtain ⟨P, hP⟩ : ∃ P : Ending → World → Prop, P = TellsP w (uniq keyN l) := ⟨_, rfl⟩
  rw [← hP]
  have HP := Aside0.mk hP
  clear hP hr hl
  go_enter Try.func42, Try.ntmps42
  go_wp2
  go_loopw [3, 4] (fun v3 v4 wr => ∃ (i n3 c3 : Nat) (A3 : Option Addr), v3 = .slice A3 n3 c3 ∧ v4 = .int .i64 (i : Int) ∧ i ≤ n ∧ Aside0 (n3 = (uniq keyN (l.take i)).length) ∧ Aside0 (Kd.R kP 56 wr w.heap.size (fun _ => True) (.slice A3 n3 c3) (uniq keyN (l.take i))) ∧ Aside0 (Below w.heap.size w wr)) (fun _ v _ => n - (intOf v).toNat)
  case atStart => exact ⟨0, 0, 0, none, rfl, rfl, Nat.zero_le _, ⟨rfl⟩, ⟨Kd.R_nil _ _ _ _ _⟩, ⟨Below.refl _ _⟩⟩
  case round =>
    obtain ⟨i, n3, c3, A3, rfl, rfl, hi, HN3, HO, HBw⟩ := hrel
    by_cases hlt : i < n
    · obtain ⟨b0, off0, rfl, hb0, hx0⟩ := CP_at HR.out (by omega)
      obtain ⟨hok, hrg⟩ := hx0 i hlt
      have hxw := rangeAt_below hrg HBw.out hb0
      obtain ⟨x, hx⟩ : ∃ x, x = l.getD i zeroP := ⟨_, rfl⟩
      rw [← hx] at hok hxw
      have HX := Aside0.mk (And.intro hok (And.intro hxw (Nat.lt_of_lt_of_le hb0 HBw.out.size)))
      obtain ⟨S, hS⟩ : ∃ S, S = uniq keyN (l.take i) := ⟨_, rfl⟩
      have HSN := Aside0.mk (show uniq keyN (l.take (i + 1)) = ins keyN x S by
        rw [List.take_add_one, List.getElem?_eq_getElem (by have := HL.out; omega), hx, hS, List.getD_eq_getElem?_getD, List.getElem?_eq_getElem (by have := HL.out; omega)]
        exact uniq_snoc _ _)
      have hSle : S.length ≤ 1000 := by
        have := len_uniq_le (k := keyN) (l.take i)
        rw [← hS, List.length_take] at this
        omega
      rw [← hS] at HN3 HO
      have hn3 : n3 ≤ 1000 := by have := HN3.out; omega
      have hnc3 : n3 ≤ c3 := (Kd.R_reads' HO.out).2.1
      have HC := Aside0.mk (show Kd.C kP wr A3 n3 S by
        obtain ⟨h1, _, h3⟩ := Kd.R_reads' HO.out
        rw [h1]; exact h3)
      obtain ⟨sx, hsx⟩ : ∃ s, s = strOfNums (keyL x) := ⟨_, rfl⟩
      have HSX := Aside0.mk hsx
      clear hok hrg hx0 hb0 hxw hx hS hsx hSle
      obtain ⟨wo, hwo⟩ : ∃ wo, wo = wr := ⟨wr, rfl⟩
      subst hwo
      go_wp2
      go_loopw [5] (fun v5 wr2 => ∃ (k : Nat), v5 = .int .i64 (k : Int) ∧ k ≤ n3 ∧ Aside0 (∀ y ∈ S.take k, keyN y < keyN x) ∧ Aside0 (Below wo.heap.size wo wr2)) (fun v _ => n3 - (intOf v).toNat)
      case atStart => exact ⟨0, rfl, Nat.zero_le _, ⟨fun y hy => by simp at hy⟩, ⟨Below.refl _ _⟩⟩
      case round =>
        obtain ⟨k, rfl, hkn, HT, HB2⟩ := hrel
        obtain ⟨A4, hA4⟩ : ∃ A4, A4 = if c3 = k then A3 else A3.map (·.add (k * 36)) := ⟨_, rfl⟩
        obtain ⟨n4, hn4⟩ : ∃ n4, n4 = n3 - k := ⟨_, rfl⟩
        obtain ⟨c4, hc4⟩ : ∃ c4, c4 = c3 - k := ⟨_, rfl⟩
        have HCUT := Aside0.mk (show ∀ W, (Instr.slice 38 (.slice A3 n3 c3) (some (.int .i64 (k : Int))) none none).run Try.prog W = .ok (.slice A4 n4 c4) W from fun W => by
          rw [cut38_from A3 n3 c3 k hkn W, ← hA4, ← hn4, ← hc4])
        have HC4 := Aside0.mk (show Kd.C kP wo A4 n4 (S.drop k) by
          have := C_drop HC.out hnc3 hkn
          rw [show kP.sz = 36 from rfl, ← hA4, ← hn4] at this
          exact this)
        have HC3 := Aside0.mk (C_take HC.out hkn)
        have hn4b : n4 ≤ 1000 := by omega
        clear hA4 hn4 hc4
        by_cases hk : k < n3
        · obtain ⟨b3, off3, rfl, hb3, hy3⟩ := CP_at HC.out (by omega)
          obtain ⟨y, hy⟩ : ∃ y, y = S.getD k zeroP := ⟨_, rfl⟩
          have hy4 := hy3 k hk
          rw [← hy] at hy4
          have HY := Aside0.mk (And.intro hy4.1 (And.intro hy4.2 hb3))
          have HYS := Aside0.mk (show S[k]? = some y by
            rw [hy, List.getD_eq_getElem?_getD, List.getElem?_eq_getElem (by have := HN3.out; omega)]; rfl)
          obtain ⟨sy, hsy⟩ : ∃ s, s = strOfNums (keyL y) := ⟨_, rfl⟩
          have HSY := Aside0.mk hsy
          have hls := less_key y x
          have heq := same_key y x
          rw [← hsy, ← HSX.out] at hls heq
          clear hy4 hy3 hy hb3 hsy
          by_cases h1 : keyN y < keyN x
          · rw [decide_eq_true h1] at hls
            have HT2 := Aside0.mk (show ∀ z ∈ S.take (k + 1), keyN z < keyN x by
              intro z hz
              rw [List.take_add_one, HYS.out] at hz
              rcases List.mem_append.1 hz with hz | hz
              · exact HT.out z hz
              · obtain rfl : z = y := by simpa using hz
                exact h1)
            clear h1 heq
            go_wp2
            refine wp_region_held_drew (S := fun w' => Below wr.drew.heap.size wr.drew w') (by kernel_rfl) (Below.refl _ _) (fun hW => ?_)
            have HBr := Aside0.mk (below_then HB2.out HB2.out.size (below_drew (Below.refl wr.heap.size wr)))
            generalize hWd : wr.drew = Wa at *
            clear hWd
            refine wpAnyH_take (i := 0) (oi := ⟨some 12, _, _, _, _, _⟩) (v := .int .i64 (k : Int)) rfl (by kernel_rfl) (by kernel_rfl) (by kernel_rfl) (fun _ _ _ h => h) (.inl ⟨by rfl, fun W1 h1 => by go_simp⟩) hW ?_
            try simp only [Act.put, List.setIfInBounds_toArray, List.set_cons_zero, List.set_cons_succ]
            refine wpAnyH_take (i := 1) (oi := ⟨some 13, _, _, _, _, _⟩) (v := .slice (some ⟨b3, off3, none⟩) n3 c3) rfl (by kernel_rfl) (by kernel_rfl) (by kernel_rfl) (fun _ _ _ h => h) (.inl ⟨by rfl, fun W1 h1 => by go_simp⟩) hW ?_
            try simp only [Act.put, List.setIfInBounds_toArray, List.set_cons_zero, List.set_cons_succ]
            refine wpAnyH_take (i := 2) (oi := ⟨some 14, _, _, _, _, _⟩) (v := .int .i64 (n3 : Int)) rfl (by kernel_rfl) (by kernel_rfl) (by kernel_rfl) (fun _ _ _ h => h) (.inl ⟨by rfl, fun W1 h1 => by go_simp⟩) hW ?_
            try simp only [Act.put, List.setIfInBounds_toArray, List.set_cons_zero, List.set_cons_succ]
            refine wpAnyH_take (i := 3) (oi := ⟨some 15, _, _, _, _, _⟩) (v := .bool true) rfl (by kernel_rfl) (by kernel_rfl) (by kernel_rfl) (fun _ _ _ h => h) (.inl ⟨by rfl, fun W1 h1 => by go_simp⟩) hW ?_
            try simp only [Act.put, List.setIfInBounds_toArray, List.set_cons_zero, List.set_cons_succ]
            refine wpAnyH_take (i := 4) (oi := ⟨some 16, _, _, _, _, _⟩) (v := .bool true) rfl (by kernel_rfl) (by kernel_rfl) (by kernel_rfl) (fun _ _ _ h => h) (.inl ⟨by rfl, fun W1 h1 => by go_simp⟩) hW ?_
            try simp only [Act.put, List.setIfInBounds_toArray, List.set_cons_zero, List.set_cons_succ]
            refine wpAnyH_take (i := 5) (oi := ⟨some 17, _, _, _, _, _⟩) (v := .slice (some ⟨b3, off3, none⟩) n3 c3) rfl (by kernel_rfl) (by kernel_rfl) (by kernel_rfl) (fun _ _ _ h => h) (.inl ⟨by rfl, fun W1 h1 => by go_simp⟩) hW ?_
            try simp only [Act.put, List.setIfInBounds_toArray, List.set_cons_zero, List.set_cons_succ]
            refine wpAnyH_take (i := 6) (oi := ⟨some 18, _, _, _, _, _⟩) (v := .int .i64 (k : Int)) rfl (by kernel_rfl) (by kernel_rfl) (by kernel_rfl) (fun _ _ _ h => h) (.inl ⟨by rfl, fun W1 h1 => by go_simp⟩) hW ?_
            try simp only [Act.put, List.setIfInBounds_toArray, List.set_cons_zero, List.set_cons_succ]
            refine wpAnyH_take (i := 7) (oi := ⟨some 19, _, _, _, _, _⟩) (v := .pointer (some ⟨b3, off3 + k * 36, none⟩)) rfl (by kernel_rfl) (by kernel_rfl) (by kernel_rfl) (fun _ _ _ h => h) (.inl ⟨by rfl, fun W1 h1 => by go_simp⟩) hW ?_
            try simp only [Act.put, List.setIfInBounds_toArray, List.set_cons_zero, List.set_cons_succ]
            refine wpAnyH_take (i := 8) (oi := ⟨some 20, _, _, _, _, _⟩) rfl (by kernel_rfl) (by kernel_rfl) (by kernel_rfl) (fun _ _ _ h => h) (yieldsIf_load_P (by rfl) _ rfl b3 (off3 + k * 36) y HY.out.1 rfl (fun W1 h1 => rangeAt_below HY.out.2.1 (below_then HBr.out HBr.out.size h1) HY.out.2.2)) hW ?_
            try simp only [Act.put, List.setIfInBounds_toArray, List.set_cons_zero, List.set_cons_succ]
            refine wpAnyH_take (i := 11) (oi := ⟨some 23, _, _, _, _, _⟩) (v := .slice (some ⟨b0, off0, none⟩) n c) rfl (by kernel_rfl) (by kernel_rfl) (by kernel_rfl) (fun _ _ _ h => h) (.inl ⟨by rfl, fun W1 h1 => by go_simp⟩) hW ?_
            try simp only [Act.put, List.setIfInBounds_toArray, List.set_cons_zero, List.set_cons_succ]
            refine wpAnyH_take (i := 12) (oi := ⟨some 24, _, _, _, _, _⟩) (v := .int .i64 (i : Int)) rfl (by kernel_rfl) (by kernel_rfl) (by kernel_rfl) (fun _ _ _ h => h) (.inl ⟨by rfl, fun W1 h1 => by go_simp⟩) hW ?_
            try simp only [Act.put, List.setIfInBounds_toArray, List.set_cons_zero, List.set_cons_succ]
            refine wpAnyH_take (i := 13) (oi := ⟨some 25, _, _, _, _, _⟩) (v := .pointer (some ⟨b0, off0 + i * 36, none⟩)) rfl (by kernel_rfl) (by kernel_rfl) (by kernel_rfl) (fun _ _ _ h => h) (.inl ⟨by rfl, fun W1 h1 => by go_simp⟩) hW ?_
            try simp only [Act.put, List.setIfInBounds_toArray, List.set_cons_zero, List.set_cons_succ]
            refine wpAnyH_take (i := 14) (oi := ⟨some 26, _, _, _, _, _⟩) rfl (by kernel_rfl) (by kernel_rfl) (by kernel_rfl) (fun _ _ _ h => h) (yieldsIf_load_P (by rfl) _ rfl b0 (off0 + i * 36) x HX.out.1 rfl (fun W1 h1 => rangeAt_below HX.out.2.1 (below_then HBr.out HBr.out.size h1) HX.out.2.2)) hW ?_
            try simp only [Act.put, List.setIfInBounds_toArray, List.set_cons_zero, List.set_cons_succ]
            refine wpAnyH_ready (rs := [9]) (by kernel_rfl) (by simp) (AllReadyH.cons rfl (fun K1 hK1 => ?_) AllReadyH.nil)
            go_simp
            refine (rkey_calls y HY.out.1 Wa).mono ?_
            rintro e W1a ⟨v1, rfl, hr1, hb1⟩
            have H1 := Aside0.mk hr1
            clear hr1
            refine hK1.out _ _ (below_then hW hW.size hb1) (fun hW => ?_)
            try simp only [Act.put, List.setIfInBounds_toArray, List.set_cons_zero, List.set_cons_succ]
            refine wpAnyH_mono (S' := fun w' => Below W1a.heap.size W1a w') (fun w' h => below_then hb1 hb1.size h) ?_
            clear hW
            have hW := Below.refl W1a.heap.size W1a
            refine wpAnyH_take (i := 10) (oi := ⟨some 22, _, _, _, _, _⟩) (v := .string sy) rfl (by kernel_rfl) (by kernel_rfl) (by kernel_rfl) (fun _ _ _ h => h) (.inl ⟨by rfl, fun W1 h1 => by (have x1 := conv_own (Kd.R_below H1.out h1); rw [← HSY.out] at x1); go_simp⟩) hW ?_
            try simp only [Act.put, List.setIfInBounds_toArray, List.set_cons_zero, List.set_cons_succ]
            refine wpAnyH_ready (rs := [15]) (by kernel_rfl) (by simp) (AllReadyH.cons rfl (fun K2 hK2 => ?_) AllReadyH.nil)
            go_simp
            refine (rkey_calls x HX.out.1 W1a).mono ?_
            rintro e W2a ⟨v2, rfl, hr2, hb2⟩
            have H2 := Aside0.mk hr2
            clear hr2
            refine hK2.out _ _ (below_then hW hW.size hb2) (fun hW => ?_)
            try simp only [Act.put, List.setIfInBounds_toArray, List.set_cons_zero, List.set_cons_succ]
            refine wpAnyH_mono (S' := fun w' => Below W2a.heap.size W2a w') (fun w' h => below_then hb2 hb2.size h) ?_
            have HBa := Aside0.mk (below_then HBr.out HBr.out.size (below_then hb1 hb1.size hb2))
            clear hW
            have hW := Below.refl W2a.heap.size W2a
            refine wpAnyH_take (i := 16) (oi := ⟨some 28, _, _, _, _, _⟩) (v := .string sx) rfl (by kernel_rfl) (by kernel_rfl) (by kernel_rfl) (fun _ _ _ h => h) (.inl ⟨by rfl, fun W1 h1 => by (have x1 := conv_own (Kd.R_below H2.out h1); rw [← HSX.out] at x1); go_simp⟩) hW ?_
            try simp only [Act.put, List.setIfInBounds_toArray, List.set_cons_zero, List.set_cons_succ]
            refine wpAnyH_take (i := 17) (oi := ⟨some 29, _, _, _, _, _⟩) (v := .bool true) rfl (by kernel_rfl) (by kernel_rfl) (by kernel_rfl) (fun _ _ _ h => h) (.inl ⟨by rfl, fun W1 h1 => by go_simp⟩) hW ?_
            try simp only [Act.put, List.setIfInBounds_toArray, List.set_cons_zero, List.set_cons_succ]
            refine wpAnyH_take (i := 18) (oi := ⟨some 30, _, _, _, _, _⟩) (v := .bool true) rfl (by kernel_rfl) (by kernel_rfl) (by kernel_rfl) (fun _ _ _ h => h) (.inl ⟨by rfl, fun W1 h1 => by go_simp⟩) hW ?_
            try simp only [Act.put, List.setIfInBounds_toArray, List.set_cons_zero, List.set_cons_succ]
            refine wpAnyH_done (by kernel_rfl) ?_ _
            clear hW hb1 hb2 hK1 hK2 K1 K2 H1 H2 HBr
            go_wp2
            go_roundw
            case rel => exact ⟨k + 1, by go_num, by omega, HT2, HBa⟩
            case measure => simp [intOf]; omega
          · rw [decide_eq_false h1] at hls
            by_cases h2 : keyN y = keyN x
            · rw [decide_eq_true h2] at heq
              have HNX := Aside0.mk (show S = uniq keyN (l.take (i + 1)) by rw [HSN.out, ins_same HT.out HYS.out h2])
              clear h1 h2
              go_wp2
              refine wp_region_held_drew (S := fun w' => Below wr.drew.heap.size wr.drew w') (by kernel_rfl) (Below.refl _ _) (fun hW => ?_)
              have HBr := Aside0.mk (below_then HB2.out HB2.out.size (below_drew (Below.refl wr.heap.size wr)))
              generalize hWd : wr.drew = Wa at *
              clear hWd
              refine wpAnyH_take (i := 0) (oi := ⟨some 12, _, _, _, _, _⟩) (v := .int .i64 (k : Int)) rfl (by kernel_rfl) (by kernel_rfl) (by kernel_rfl) (fun _ _ _ h => h) (.inl ⟨by rfl, fun W1 h1 => by go_simp⟩) hW ?_
              try simp only [Act.put, List.setIfInBounds_toArray, List.set_cons_zero, List.set_cons_succ]
              refine wpAnyH_take (i := 1) (oi := ⟨some 13, _, _, _, _, _⟩) (v := .slice (some ⟨b3, off3, none⟩) n3 c3) rfl (by kernel_rfl) (by kernel_rfl) (by kernel_rfl) (fun _ _ _ h => h) (.inl ⟨by rfl, fun W1 h1 => by go_simp⟩) hW ?_
              try simp only [Act.put, List.setIfInBounds_toArray, List.set_cons_zero, List.set_cons_succ]
              refine wpAnyH_take (i := 2) (oi := ⟨some 14, _, _, _, _, _⟩) (v := .int .i64 (n3 : Int)) rfl (by kernel_rfl) (by kernel_rfl) (by kernel_rfl) (fun _ _ _ h => h) (.inl ⟨by rfl, fun W1 h1 => by go_simp⟩) hW ?_
              try simp only [Act.put, List.setIfInBounds_toArray, List.set_cons_zero, List.set_cons_succ]
              refine wpAnyH_take (i := 3) (oi := ⟨some 15, _, _, _, _, _⟩) (v := .bool true) rfl (by kernel_rfl) (by kernel_rfl) (by kernel_rfl) (fun _ _ _ h => h) (.inl ⟨by rfl, fun W1 h1 => by go_simp⟩) hW ?_
              try simp only [Act.put, List.setIfInBounds_toArray, List.set_cons_zero, List.set_cons_succ]
              refine wpAnyH_take (i := 4) (oi := ⟨some 16, _, _, _, _, _⟩) (v := .bool true) rfl (by kernel_rfl) (by kernel_rfl) (by kernel_rfl) (fun _ _ _ h => h) (.inl ⟨by rfl, fun W1 h1 => by go_simp⟩) hW ?_
              try simp only [Act.put, List.setIfInBounds_toArray, List.set_cons_zero, List.set_cons_succ]
              refine wpAnyH_take (i := 5) (oi := ⟨some 17, _, _, _, _, _⟩) (v := .slice (some ⟨b3, off3, none⟩) n3 c3) rfl (by kernel_rfl) (by kernel_rfl) (by kernel_rfl) (fun _ _ _ h => h) (.inl ⟨by rfl, fun W1 h1 => by go_simp⟩) hW ?_
              try simp only [Act.put, List.setIfInBounds_toArray, List.set_cons_zero, List.set_cons_succ]
              refine wpAnyH_take (i := 6) (oi := ⟨some 18, _, _, _, _, _⟩) (v := .int .i64 (k : Int)) rfl (by kernel_rfl) (by kernel_rfl) (by kernel_rfl) (fun _ _ _ h => h) (.inl ⟨by rfl, fun W1 h1 => by go_simp⟩) hW ?_
              try simp only [Act.put, List.setIfInBounds_toArray, List.set_cons_zero, List.set_cons_succ]
              refine wpAnyH_take (i := 7) (oi := ⟨some 19, _, _, _, _, _⟩) (v := .pointer (some ⟨b3, off3 + k * 36, none⟩)) rfl (by kernel_rfl) (by kernel_rfl) (by kernel_rfl) (fun _ _ _ h => h) (.inl ⟨by rfl, fun W1 h1 => by go_simp⟩) hW ?_
              try simp only [Act.put, List.setIfInBounds_toArray, List.set_cons_zero, List.set_cons_succ]
              refine wpAnyH_take (i := 8) (oi := ⟨some 20, _, _, _, _, _⟩) rfl (by kernel_rfl) (by kernel_rfl) (by kernel_rfl) (fun _ _ _ h => h) (yieldsIf_load_P (by rfl) _ rfl b3 (off3 + k * 36) y HY.out.1 rfl (fun W1 h1 => rangeAt_below HY.out.2.1 (below_then HBr.out HBr.out.size h1) HY.out.2.2)) hW ?_
              try simp only [Act.put, List.setIfInBounds_toArray, List.set_cons_zero, List.set_cons_succ]
              refine wpAnyH_take (i := 11) (oi := ⟨some 23, _, _, _, _, _⟩) (v := .slice (some ⟨b0, off0, none⟩) n c) rfl (by kernel_rfl) (by kernel_rfl) (by kernel_rfl) (fun _ _ _ h => h) (.inl ⟨by rfl, fun W1 h1 => by go_simp⟩) hW ?_
              try simp only [Act.put, List.setIfInBounds_toArray, List.set_cons_zero, List.set_cons_succ]
              refine wpAnyH_take (i := 12) (oi := ⟨some 24, _, _, _, _, _⟩) (v := .int .i64 (i : Int)) rfl (by kernel_rfl) (by kernel_rfl) (by kernel_rfl) (fun _ _ _ h => h) (.inl ⟨by rfl, fun W1 h1 => by go_simp⟩) hW ?_
              try simp only [Act.put, List.setIfInBounds_toArray, List.set_cons_zero, List.set_cons_succ]
              refine wpAnyH_take (i := 13) (oi := ⟨some 25, _, _, _, _, _⟩) (v := .pointer (some ⟨b0, off0 + i * 36, none⟩)) rfl (by kernel_rfl) (by kernel_rfl) (by kernel_rfl) (fun _ _ _ h => h) (.inl ⟨by rfl, fun W1 h1 => by go_simp⟩) hW ?_
              try simp only [Act.put, List.setIfInBounds_toArray, List.set_cons_zero, List.set_cons_succ]
              refine wpAnyH_take (i := 14) (oi := ⟨some 26, _, _, _, _, _⟩) rfl (by kernel_rfl) (by kernel_rfl) (by kernel_rfl) (fun _ _ _ h => h) (yieldsIf_load_P (by rfl) _ rfl b0 (off0 + i * 36) x HX.out.1 rfl (fun W1 h1 => rangeAt_below HX.out.2.1 (below_then HBr.out HBr.out.size h1) HX.out.2.2)) hW ?_
              try simp only [Act.put, List.setIfInBounds_toArray, List.set_cons_zero, List.set_cons_succ]
              refine wpAnyH_ready (rs := [9]) (by kernel_rfl) (by simp) (AllReadyH.cons rfl (fun K1 hK1 => ?_) AllReadyH.nil)
              go_simp
              refine (rkey_calls y HY.out.1 Wa).mono ?_
              rintro e W1a ⟨v1, rfl, hr1, hb1⟩
              have H1 := Aside0.mk hr1
              clear hr1
              refine hK1.out _ _ (below_then hW hW.size hb1) (fun hW => ?_)
              try simp only [Act.put, List.setIfInBounds_toArray, List.set_cons_zero, List.set_cons_succ]
              refine wpAnyH_mono (S' := fun w' => Below W1a.heap.size W1a w') (fun w' h => below_then hb1 hb1.size h) ?_
              clear hW
              have hW := Below.refl W1a.heap.size W1a
              refine wpAnyH_take (i := 10) (oi := ⟨some 22, _, _, _, _, _⟩) (v := .string sy) rfl (by kernel_rfl) (by kernel_rfl) (by kernel_rfl) (fun _ _ _ h => h) (.inl ⟨by rfl, fun W1 h1 => by (have x1 := conv_own (Kd.R_below H1.out h1); rw [← HSY.out] at x1); go_simp⟩) hW ?_
              try simp only [Act.put, List.setIfInBounds_toArray, List.set_cons_zero, List.set_cons_succ]
              refine wpAnyH_ready (rs := [15]) (by kernel_rfl) (by simp) (AllReadyH.cons rfl (fun K2 hK2 => ?_) AllReadyH.nil)
              go_simp
              refine (rkey_calls x HX.out.1 W1a).mono ?_
              rintro e W2a ⟨v2, rfl, hr2, hb2⟩
              have H2 := Aside0.mk hr2
              clear hr2
              refine hK2.out _ _ (below_then hW hW.size hb2) (fun hW => ?_)
              try simp only [Act.put, List.setIfInBounds_toArray, List.set_cons_zero, List.set_cons_succ]
              refine wpAnyH_mono (S' := fun w' => Below W2a.heap.size W2a w') (fun w' h => below_then hb2 hb2.size h) ?_
              have HBa := Aside0.mk (below_then HBr.out HBr.out.size (below_then hb1 hb1.size hb2))
              clear hW
              have hW := Below.refl W2a.heap.size W2a
              refine wpAnyH_take (i := 16) (oi := ⟨some 28, _, _, _, _, _⟩) (v := .string sx) rfl (by kernel_rfl) (by kernel_rfl) (by kernel_rfl) (fun _ _ _ h => h) (.inl ⟨by rfl, fun W1 h1 => by (have x1 := conv_own (Kd.R_below H2.out h1); rw [← HSX.out] at x1); go_simp⟩) hW ?_
              try simp only [Act.put, List.setIfInBounds_toArray, List.set_cons_zero, List.set_cons_succ]
              refine wpAnyH_take (i := 17) (oi := ⟨some 29, _, _, _, _, _⟩) (v := .bool false) rfl (by kernel_rfl) (by kernel_rfl) (by kernel_rfl) (fun _ _ _ h => h) (.inl ⟨by rfl, fun W1 h1 => by go_simp⟩) hW ?_
              try simp only [Act.put, List.setIfInBounds_toArray, List.set_cons_zero, List.set_cons_succ]
              refine wpAnyH_take (i := 18) (oi := ⟨some 30, _, _, _, _, _⟩) (v := .bool false) rfl (by kernel_rfl) (by kernel_rfl) (by kernel_rfl) (fun _ _ _ h => h) (.inl ⟨by rfl, fun W1 h1 => by go_simp⟩) hW ?_
              try simp only [Act.put, List.setIfInBounds_toArray, List.set_cons_zero, List.set_cons_succ]
              refine wpAnyH_done (by kernel_rfl) ?_ _
              clear hW hb1 hb2 hK1 hK2 K1 K2 H1 H2 HBr
              go_wp2
              refine wp_region_held_drew (S := fun w' => Below W2a.drew.heap.size W2a.drew w') (by kernel_rfl) (Below.refl _ _) (fun hW => ?_)
              have HBr := Aside0.mk (below_then HBa.out HBa.out.size (below_drew (Below.refl W2a.heap.size W2a)))
              generalize hWd : W2a.drew = Wb at *
              clear hWd
              refine wpAnyH_take (i := 0) (oi := ⟨some 33, _, _, _, _, _⟩) (v := .int .i64 (k : Int)) rfl (by kernel_rfl) (by kernel_rfl) (by kernel_rfl) (fun _ _ _ h => h) (.inl ⟨by rfl, fun W1 h1 => by go_simp⟩) hW ?_
              try simp only [Act.put, List.setIfInBounds_toArray, List.set_cons_zero, List.set_cons_succ]
              refine wpAnyH_take (i := 1) (oi := ⟨some 34, _, _, _, _, _⟩) (v := .slice (some ⟨b3, off3, none⟩) n3 c3) rfl (by kernel_rfl) (by kernel_rfl) (by kernel_rfl) (fun _ _ _ h => h) (.inl ⟨by rfl, fun W1 h1 => by go_simp⟩) hW ?_
              try simp only [Act.put, List.setIfInBounds_toArray, List.set_cons_zero, List.set_cons_succ]
              refine wpAnyH_take (i := 2) (oi := ⟨some 35, _, _, _, _, _⟩) (v := .int .i64 (n3 : Int)) rfl (by kernel_rfl) (by kernel_rfl) (by kernel_rfl) (fun _ _ _ h => h) (.inl ⟨by rfl, fun W1 h1 => by go_simp⟩) hW ?_
              try simp only [Act.put, List.setIfInBounds_toArray, List.set_cons_zero, List.set_cons_succ]
              refine wpAnyH_take (i := 3) (oi := ⟨some 36, _, _, _, _, _⟩) (v := .bool true) rfl (by kernel_rfl) (by kernel_rfl) (by kernel_rfl) (fun _ _ _ h => h) (.inl ⟨by rfl, fun W1 h1 => by go_simp⟩) hW ?_
              try simp only [Act.put, List.setIfInBounds_toArray, List.set_cons_zero, List.set_cons_succ]
              refine wpAnyH_take (i := 4) (oi := ⟨some 37, _, _, _, _, _⟩) (v := .bool true) rfl (by kernel_rfl) (by kernel_rfl) (by kernel_rfl) (fun _ _ _ h => h) (.inl ⟨by rfl, fun W1 h1 => by go_simp⟩) hW ?_
              try simp only [Act.put, List.setIfInBounds_toArray, List.set_cons_zero, List.set_cons_succ]
              refine wpAnyH_take (i := 5) (oi := ⟨some 38, _, _, _, _, _⟩) (v := .slice (some ⟨b3, off3, none⟩) n3 c3) rfl (by kernel_rfl) (by kernel_rfl) (by kernel_rfl) (fun _ _ _ h => h) (.inl ⟨by rfl, fun W1 h1 => by go_simp⟩) hW ?_
              try simp only [Act.put, List.setIfInBounds_toArray, List.set_cons_zero, List.set_cons_succ]
              refine wpAnyH_take (i := 6) (oi := ⟨some 39, _, _, _, _, _⟩) (v := .int .i64 (k : Int)) rfl (by kernel_rfl) (by kernel_rfl) (by kernel_rfl) (fun _ _ _ h => h) (.inl ⟨by rfl, fun W1 h1 => by go_simp⟩) hW ?_
              try simp only [Act.put, List.setIfInBounds_toArray, List.set_cons_zero, List.set_cons_succ]
              refine wpAnyH_take (i := 7) (oi := ⟨some 40, _, _, _, _, _⟩) (v := .pointer (some ⟨b3, off3 + k * 36, none⟩)) rfl (by kernel_rfl) (by kernel_rfl) (by kernel_rfl) (fun _ _ _ h => h) (.inl ⟨by rfl, fun W1 h1 => by go_simp⟩) hW ?_
              try simp only [Act.put, List.setIfInBounds_toArray, List.set_cons_zero, List.set_cons_succ]
              refine wpAnyH_take (i := 8) (oi := ⟨some 41, _, _, _, _, _⟩) rfl (by kernel_rfl) (by kernel_rfl) (by kernel_rfl) (fun _ _ _ h => h) (yieldsIf_load_P (by rfl) _ rfl b3 (off3 + k * 36) y HY.out.1 rfl (fun W1 h1 => rangeAt_below HY.out.2.1 (below_then HBr.out HBr.out.size h1) HY.out.2.2)) hW ?_
              try simp only [Act.put, List.setIfInBounds_toArray, List.set_cons_zero, List.set_cons_succ]
              refine wpAnyH_take (i := 11) (oi := ⟨some 44, _, _, _, _, _⟩) (v := .slice (some ⟨b0, off0, none⟩) n c) rfl (by kernel_rfl) (by kernel_rfl) (by kernel_rfl) (fun _ _ _ h => h) (.inl ⟨by rfl, fun W1 h1 => by go_simp⟩) hW ?_
              try simp only [Act.put, List.setIfInBounds_toArray, List.set_cons_zero, List.set_cons_succ]
              refine wpAnyH_take (i := 12) (oi := ⟨some 45, _, _, _, _, _⟩) (v := .int .i64 (i : Int)) rfl (by kernel_rfl) (by kernel_rfl) (by kernel_rfl) (fun _ _ _ h => h) (.inl ⟨by rfl, fun W1 h1 => by go_simp⟩) hW ?_
              try simp only [Act.put, List.setIfInBounds_toArray, List.set_cons_zero, List.set_cons_succ]
              refine wpAnyH_take (i := 13) (oi := ⟨some 46, _, _, _, _, _⟩) (v := .pointer (some ⟨b0, off0 + i * 36, none⟩)) rfl (by kernel_rfl) (by kernel_rfl) (by kernel_rfl) (fun _ _ _ h => h) (.inl ⟨by rfl, fun W1 h1 => by go_simp⟩) hW ?_
              try simp only [Act.put, List.setIfInBounds_toArray, List.set_cons_zero, List.set_cons_succ]
              refine wpAnyH_take (i := 14) (oi := ⟨some 47, _, _, _, _, _⟩) rfl (by kernel_rfl) (by kernel_rfl) (by kernel_rfl) (fun _ _ _ h => h) (yieldsIf_load_P (by rfl) _ rfl b0 (off0 + i * 36) x HX.out.1 rfl (fun W1 h1 => rangeAt_below HX.out.2.1 (below_then HBr.out HBr.out.size h1) HX.out.2.2)) hW ?_
              try simp only [Act.put, List.setIfInBounds_toArray, List.set_cons_zero, List.set_cons_succ]
              refine wpAnyH_ready (rs := [9]) (by kernel_rfl) (by simp) (AllReadyH.cons rfl (fun K1 hK1 => ?_) AllReadyH.nil)
              go_simp
              refine (rkey_calls y HY.out.1 Wb).mono ?_
              rintro e W1b ⟨v1, rfl, hr1, hb1⟩
              have H1 := Aside0.mk hr1
              clear hr1
              refine hK1.out _ _ (below_then hW hW.size hb1) (fun hW => ?_)
              try simp only [Act.put, List.setIfInBounds_toArray, List.set_cons_zero, List.set_cons_succ]
              refine wpAnyH_mono (S' := fun w' => Below W1b.heap.size W1b w') (fun w' h => below_then hb1 hb1.size h) ?_
              clear hW
              have hW := Below.refl W1b.heap.size W1b
              refine wpAnyH_take (i := 10) (oi := ⟨some 43, _, _, _, _, _⟩) (v := .string sy) rfl (by kernel_rfl) (by kernel_rfl) (by kernel_rfl) (fun _ _ _ h => h) (.inl ⟨by rfl, fun W1 h1 => by (have x1 := conv_own (Kd.R_below H1.out h1); rw [← HSY.out] at x1); go_simp⟩) hW ?_
              try simp only [Act.put, List.setIfInBounds_toArray, List.set_cons_zero, List.set_cons_succ]
              refine wpAnyH_ready (rs := [15]) (by kernel_rfl) (by simp) (AllReadyH.cons rfl (fun K2 hK2 => ?_) AllReadyH.nil)
              go_simp
              refine (rkey_calls x HX.out.1 W1b).mono ?_
              rintro e W2b ⟨v2, rfl, hr2, hb2⟩
              have H2 := Aside0.mk hr2
              clear hr2
              refine hK2.out _ _ (below_then hW hW.size hb2) (fun hW => ?_)
              try simp only [Act.put, List.setIfInBounds_toArray, List.set_cons_zero, List.set_cons_succ]
              refine wpAnyH_mono (S' := fun w' => Below W2b.heap.size W2b w') (fun w' h => below_then hb2 hb2.size h) ?_
              have HBb := Aside0.mk (below_then HBr.out HBr.out.size (below_then hb1 hb1.size hb2))
              clear hW
              have hW := Below.refl W2b.heap.size W2b
              refine wpAnyH_take (i := 16) (oi := ⟨some 49, _, _, _, _, _⟩) (v := .string sx) rfl (by kernel_rfl) (by kernel_rfl) (by kernel_rfl) (fun _ _ _ h => h) (.inl ⟨by rfl, fun W1 h1 => by (have x1 := conv_own (Kd.R_below H2.out h1); rw [← HSX.out] at x1); go_simp⟩) hW ?_
              try simp only [Act.put, List.setIfInBounds_toArray, List.set_cons_zero, List.set_cons_succ]
              refine wpAnyH_take (i := 17) (oi := ⟨some 50, _, _, _, _, _⟩) (v := .bool true) rfl (by kernel_rfl) (by kernel_rfl) (by kernel_rfl) (fun _ _ _ h => h) (.inl ⟨by rfl, fun W1 h1 => by go_simp⟩) hW ?_
              try simp only [Act.put, List.setIfInBounds_toArray, List.set_cons_zero, List.set_cons_succ]
              refine wpAnyH_take (i := 18) (oi := ⟨some 51, _, _, _, _, _⟩) (v := .bool true) rfl (by kernel_rfl) (by kernel_rfl) (by kernel_rfl) (fun _ _ _ h => h) (.inl ⟨by rfl, fun W1 h1 => by go_simp⟩) hW ?_
              try simp only [Act.put, List.setIfInBounds_toArray, List.set_cons_zero, List.set_cons_succ]
              refine wpAnyH_done (by kernel_rfl) ?_ _
              clear hW hb1 hb2 hK1 hK2 K1 K2 H1 H2 HBr
              go_wp2
              go_roundw
              case rel => exact ⟨i + 1, n3, c3, some ⟨b3, off3, none⟩, rfl, by go_num, by omega, ⟨by rw [← HNX.out]; exact HN3.out⟩, ⟨by rw [← HNX.out]; exact Kd.R_below HO.out HBb.out⟩, ⟨below_then HBw.out HBw.out.size HBb.out⟩⟩
              case measure => simp [intOf]; omega
            · rw [decide_eq_false h2] at heq
              have HNX := Aside0.mk (show S.take k ++ [x] ++ S.drop k = uniq keyN (l.take (i + 1)) by
                rw [HSN.out, ins_pos HT.out (fun z hz => by
                  rw [HYS.out] at hz
                  obtain rfl : y = z := by simpa using hz
                  omega)])
              clear h1 h2
              go_wp2
              refine wp_region_held_drew (S := fun w' => Below wr.drew.heap.size wr.drew w') (by kernel_rfl) (Below.refl _ _) (fun hW => ?_)
              have HBr := Aside0.mk (below_then HB2.out HB2.out.size (below_drew (Below.refl wr.heap.size wr)))
              generalize hWd : wr.drew = Wa at *
              clear hWd
              refine wpAnyH_take (i := 0) (oi := ⟨some 12, _, _, _, _, _⟩) (v := .int .i64 (k : Int)) rfl (by kernel_rfl) (by kernel_rfl) (by kernel_rfl) (fun _ _ _ h => h) (.inl ⟨by rfl, fun W1 h1 => by go_simp⟩) hW ?_
              try simp only [Act.put, List.setIfInBounds_toArray, List.set_cons_zero, List.set_cons_succ]
              refine wpAnyH_take (i := 1) (oi := ⟨some 13, _, _, _, _, _⟩) (v := .slice (some ⟨b3, off3, none⟩) n3 c3) rfl (by kernel_rfl) (by kernel_rfl) (by kernel_rfl) (fun _ _ _ h => h) (.inl ⟨by rfl, fun W1 h1 => by go_simp⟩) hW ?_
              try simp only [Act.put, List.setIfInBounds_toArray, List.set_cons_zero, List.set_cons_succ]
              refine wpAnyH_take (i := 2) (oi := ⟨some 14, _, _, _, _, _⟩) (v := .int .i64 (n3 : Int)) rfl (by kernel_rfl) (by kernel_rfl) (by kernel_rfl) (fun _ _ _ h => h) (.inl ⟨by rfl, fun W1 h1 => by go_simp⟩) hW ?_
              try simp only [Act.put, List.setIfInBounds_toArray, List.set_cons_zero, List.set_cons_succ]
              refine wpAnyH_take (i := 3) (oi := ⟨some 15, _, _, _, _, _⟩) (v := .bool true) rfl (by kernel_rfl) (by kernel_rfl) (by kernel_rfl) (fun _ _ _ h => h) (.inl ⟨by rfl, fun W1 h1 => by go_simp⟩) hW ?_
              try simp only [Act.put, List.setIfInBounds_toArray, List.set_cons_zero, List.set_cons_succ]
              refine wpAnyH_take (i := 4) (oi := ⟨some 16, _, _, _, _, _⟩) (v := .bool true) rfl (by kernel_rfl) (by kernel_rfl) (by kernel_rfl) (fun _ _ _ h => h) (.inl ⟨by rfl, fun W1 h1 => by go_simp⟩) hW ?_
              try simp only [Act.put, List.setIfInBounds_toArray, List.set_cons_zero, List.set_cons_succ]
              refine wpAnyH_take (i := 5) (oi := ⟨some 17, _, _, _, _, _⟩) (v := .slice (some ⟨b3, off3, none⟩) n3 c3) rfl (by kernel_rfl) (by kernel_rfl) (by kernel_rfl) (fun _ _ _ h => h) (.inl ⟨by rfl, fun W1 h1 => by go_simp⟩) hW ?_
              try simp only [Act.put, List.setIfInBounds_toArray, List.set_cons_zero, List.set_cons_succ]
              refine wpAnyH_take (i := 6) (oi := ⟨some 18, _, _, _, _, _⟩) (v := .int .i64 (k : Int)) rfl (by kernel_rfl) (by kernel_rfl) (by kernel_rfl) (fun _ _ _ h => h) (.inl ⟨by rfl, fun W1 h1 => by go_simp⟩) hW ?_
              try simp only [Act.put, List.setIfInBounds_toArray, List.set_cons_zero, List.set_cons_succ]
              refine wpAnyH_take (i := 7) (oi := ⟨some 19, _, _, _, _, _⟩) (v := .pointer (some ⟨b3, off3 + k * 36, none⟩)) rfl (by kernel_rfl) (by kernel_rfl) (by kernel_rfl) (fun _ _ _ h => h) (.inl ⟨by rfl, fun W1 h1 => by go_simp⟩) hW ?_
              try simp only [Act.put, List.setIfInBounds_toArray, List.set_cons_zero, List.set_cons_succ]
              refine wpAnyH_take (i := 8) (oi := ⟨some 20, _, _, _, _, _⟩) rfl (by kernel_rfl) (by kernel_rfl) (by kernel_rfl) (fun _ _ _ h => h) (yieldsIf_load_P (by rfl) _ rfl b3 (off3 + k * 36) y HY.out.1 rfl (fun W1 h1 => rangeAt_below HY.out.2.1 (below_then HBr.out HBr.out.size h1) HY.out.2.2)) hW ?_
              try simp only [Act.put, List.setIfInBounds_toArray, List.set_cons_zero, List.set_cons_succ]
              refine wpAnyH_take (i := 11) (oi := ⟨some 23, _, _, _, _, _⟩) (v := .slice (some ⟨b0, off0, none⟩) n c) rfl (by kernel_rfl) (by kernel_rfl) (by kernel_rfl) (fun _ _ _ h => h) (.inl ⟨by rfl, fun W1 h1 => by go_simp⟩) hW ?_
              try simp only [Act.put, List.setIfInBounds_toArray, List.set_cons_zero, List.set_cons_succ]
              refine wpAnyH_take (i := 12) (oi := ⟨some 24, _, _, _, _, _⟩) (v := .int .i64 (i : Int)) rfl (by kernel_rfl) (by kernel_rfl) (by kernel_rfl) (fun _ _ _ h => h) (.inl ⟨by rfl, fun W1 h1 => by go_simp⟩) hW ?_
              try simp only [Act.put, List.setIfInBounds_toArray, List.set_cons_zero, List.set_cons_succ]
              refine wpAnyH_take (i := 13) (oi := ⟨some 25, _, _, _, _, _⟩) (v := .pointer (some ⟨b0, off0 + i * 36, none⟩)) rfl (by kernel_rfl) (by kernel_rfl) (by kernel_rfl) (fun _ _ _ h => h) (.inl ⟨by rfl, fun W1 h1 => by go_simp⟩) hW ?_
              try simp only [Act.put, List.setIfInBounds_toArray, List.set_cons_zero, List.set_cons_succ]
              refine wpAnyH_take (i := 14) (oi := ⟨some 26, _, _, _, _, _⟩) rfl (by kernel_rfl) (by kernel_rfl) (by kernel_rfl) (fun _ _ _ h => h) (yieldsIf_load_P (by rfl) _ rfl b0 (off0 + i * 36) x HX.out.1 rfl (fun W1 h1 => rangeAt_below HX.out.2.1 (below_then HBr.out HBr.out.size h1) HX.out.2.2)) hW ?_
              try simp only [Act.put, List.setIfInBounds_toArray, List.set_cons_zero, List.set_cons_succ]
              refine wpAnyH_ready (rs := [9]) (by kernel_rfl) (by simp) (AllReadyH.cons rfl (fun K1 hK1 => ?_) AllReadyH.nil)
              go_simp
              refine (rkey_calls y HY.out.1 Wa).mono ?_
              rintro e W1a ⟨v1, rfl, hr1, hb1⟩
              have H1 := Aside0.mk hr1
              clear hr1
              refine hK1.out _ _ (below_then hW hW.size hb1) (fun hW => ?_)
              try simp only [Act.put, List.setIfInBounds_toArray, List.set_cons_zero, List.set_cons_succ]
              refine wpAnyH_mono (S' := fun w' => Below W1a.heap.size W1a w') (fun w' h => below_then hb1 hb1.size h) ?_
              clear hW
              have hW := Below.refl W1a.heap.size W1a
              refine wpAnyH_take (i := 10) (oi := ⟨some 22, _, _, _, _, _⟩) (v := .string sy) rfl (by kernel_rfl) (by kernel_rfl) (by kernel_rfl) (fun _ _ _ h => h) (.inl ⟨by rfl, fun W1 h1 => by (have x1 := conv_own (Kd.R_below H1.out h1); rw [← HSY.out] at x1); go_simp⟩) hW ?_
              try simp only [Act.put, List.setIfInBounds_toArray, List.set_cons_zero, List.set_cons_succ]
              refine wpAnyH_ready (rs := [15]) (by kernel_rfl) (by simp) (AllReadyH.cons rfl (fun K2 hK2 => ?_) AllReadyH.nil)
              go_simp
              refine (rkey_calls x HX.out.1 W1a).mono ?_
              rintro e W2a ⟨v2, rfl, hr2, hb2⟩
              have H2 := Aside0.mk hr2
              clear hr2
              refine hK2.out _ _ (below_then hW hW.size hb2) (fun hW => ?_)
              try simp only [Act.put, List.setIfInBounds_toArray, List.set_cons_zero, List.set_cons_succ]
              refine wpAnyH_mono (S' := fun w' => Below W2a.heap.size W2a w') (fun w' h => below_then hb2 hb2.size h) ?_
              have HBa := Aside0.mk (below_then HBr.out HBr.out.size (below_then hb1 hb1.size hb2))
              clear hW
              have hW := Below.refl W2a.heap.size W2a
              refine wpAnyH_take (i := 16) (oi := ⟨some 28, _, _, _, _, _⟩) (v := .string sx) rfl (by kernel_rfl) (by kernel_rfl) (by kernel_rfl) (fun _ _ _ h => h) (.inl ⟨by rfl, fun W1 h1 => by (have x1 := conv_own (Kd.R_below H2.out h1); rw [← HSX.out] at x1); go_simp⟩) hW ?_
              try simp only [Act.put, List.setIfInBounds_toArray, List.set_cons_zero, List.set_cons_succ]
              refine wpAnyH_take (i := 17) (oi := ⟨some 29, _, _, _, _, _⟩) (v := .bool false) rfl (by kernel_rfl) (by kernel_rfl) (by kernel_rfl) (fun _ _ _ h => h) (.inl ⟨by rfl, fun W1 h1 => by go_simp⟩) hW ?_
              try simp only [Act.put, List.setIfInBounds_toArray, List.set_cons_zero, List.set_cons_succ]
              refine wpAnyH_take (i := 18) (oi := ⟨some 30, _, _, _, _, _⟩) (v := .bool false) rfl (by kernel_rfl) (by kernel_rfl) (by kernel_rfl) (fun _ _ _ h => h) (.inl ⟨by rfl, fun W1 h1 => by go_simp⟩) hW ?_
              try simp only [Act.put, List.setIfInBounds_toArray, List.set_cons_zero, List.set_cons_succ]
              refine wpAnyH_done (by kernel_rfl) ?_ _
              clear hW hb1 hb2 hK1 hK2 K1 K2 H1 H2 HBr
              go_wp2
              refine wp_region_held_drew (S := fun w' => Below W2a.drew.heap.size W2a.drew w') (by kernel_rfl) (Below.refl _ _) (fun hW => ?_)
              have HBr := Aside0.mk (below_then HBa.out HBa.out.size (below_drew (Below.refl W2a.heap.size W2a)))
              generalize hWd : W2a.drew = Wb at *
              clear hWd
              refine wpAnyH_take (i := 0) (oi := ⟨some 33, _, _, _, _, _⟩) (v := .int .i64 (k : Int)) rfl (by kernel_rfl) (by kernel_rfl) (by kernel_rfl) (fun _ _ _ h => h) (.inl ⟨by rfl, fun W1 h1 => by go_simp⟩) hW ?_
              try simp only [Act.put, List.setIfInBounds_toArray, List.set_cons_zero, List.set_cons_succ]
              refine wpAnyH_take (i := 1) (oi := ⟨some 34, _, _, _, _, _⟩) (v := .slice (some ⟨b3, off3, none⟩) n3 c3) rfl (by kernel_rfl) (by kernel_rfl) (by kernel_rfl) (fun _ _ _ h => h) (.inl ⟨by rfl, fun W1 h1 => by go_simp⟩) hW ?_
              try simp only [Act.put, List.setIfInBounds_toArray, List.set_cons_zero, List.set_cons_succ]
              refine wpAnyH_take (i := 2) (oi := ⟨some 35, _, _, _, _, _⟩) (v := .int .i64 (n3 : Int)) rfl (by kernel_rfl) (by kernel_rfl) (by kernel_rfl) (fun _ _ _ h => h) (.inl ⟨by rfl, fun W1 h1 => by go_simp⟩) hW ?_
              try simp only [Act.put, List.setIfInBounds_toArray, List.set_cons_zero, List.set_cons_succ]
              refine wpAnyH_take (i := 3) (oi := ⟨some 36, _, _, _, _, _⟩) (v := .bool true) rfl (by kernel_rfl) (by kernel_rfl) (by kernel_rfl) (fun _ _ _ h => h) (.inl ⟨by rfl, fun W1 h1 => by go_simp⟩) hW ?_
              try simp only [Act.put, List.setIfInBounds_toArray, List.set_cons_zero, List.set_cons_succ]
              refine wpAnyH_take (i := 4) (oi := ⟨some 37, _, _, _, _, _⟩) (v := .bool true) rfl (by kernel_rfl) (by kernel_rfl) (by kernel_rfl) (fun _ _ _ h => h) (.inl ⟨by rfl, fun W1 h1 => by go_simp⟩) hW ?_
              try simp only [Act.put, List.setIfInBounds_toArray, List.set_cons_zero, List.set_cons_succ]
              refine wpAnyH_take (i := 5) (oi := ⟨some 38, _, _, _, _, _⟩) (v := .slice (some ⟨b3, off3, none⟩) n3 c3) rfl (by kernel_rfl) (by kernel_rfl) (by kernel_rfl) (fun _ _ _ h => h) (.inl ⟨by rfl, fun W1 h1 => by go_simp⟩) hW ?_
              try simp only [Act.put, List.setIfInBounds_toArray, List.set_cons_zero, List.set_cons_succ]
              refine wpAnyH_take (i := 6) (oi := ⟨some 39, _, _, _, _, _⟩) (v := .int .i64 (k : Int)) rfl (by kernel_rfl) (by kernel_rfl) (by kernel_rfl) (fun _ _ _ h => h) (.inl ⟨by rfl, fun W1 h1 => by go_simp⟩) hW ?_
              try simp only [Act.put, List.setIfInBounds_toArray, List.set_cons_zero, List.set_cons_succ]
              refine wpAnyH_take (i := 7) (oi := ⟨some 40, _, _, _, _, _⟩) (v := .pointer (some ⟨b3, off3 + k * 36, none⟩)) rfl (by kernel_rfl) (by kernel_rfl) (by kernel_rfl) (fun _ _ _ h => h) (.inl ⟨by rfl, fun W1 h1 => by go_simp⟩) hW ?_
              try simp only [Act.put, List.setIfInBounds_toArray, List.set_cons_zero, List.set_cons_succ]
              refine wpAnyH_take (i := 8) (oi := ⟨some 41, _, _, _, _, _⟩) rfl (by kernel_rfl) (by kernel_rfl) (by kernel_rfl) (fun _ _ _ h => h) (yieldsIf_load_P (by rfl) _ rfl b3 (off3 + k * 36) y HY.out.1 rfl (fun W1 h1 => rangeAt_below HY.out.2.1 (below_then HBr.out HBr.out.size h1) HY.out.2.2)) hW ?_
              try simp only [Act.put, List.setIfInBounds_toArray, List.set_cons_zero, List.set_cons_succ]
              refine wpAnyH_take (i := 11) (oi := ⟨some 44, _, _, _, _, _⟩) (v := .slice (some ⟨b0, off0, none⟩) n c) rfl (by kernel_rfl) (by kernel_rfl) (by kernel_rfl) (fun _ _ _ h => h) (.inl ⟨by rfl, fun W1 h1 => by go_simp⟩) hW ?_
              try simp only [Act.put, List.setIfInBounds_toArray, List.set_cons_zero, List.set_cons_succ]
              refine wpAnyH_take (i := 12) (oi := ⟨some 45, _, _, _, _, _⟩) (v := .int .i64 (i : Int)) rfl (by kernel_rfl) (by kernel_rfl) (by kernel_rfl) (fun _ _ _ h => h) (.inl ⟨by rfl, fun W1 h1 => by go_simp⟩) hW ?_
              try simp only [Act.put, List.setIfInBounds_toArray, List.set_cons_zero, List.set_cons_succ]
              refine wpAnyH_take (i := 13) (oi := ⟨some 46, _, _, _, _, _⟩) (v := .pointer (some ⟨b0, off0 + i * 36, none⟩)) rfl (by kernel_rfl) (by kernel_rfl) (by kernel_rfl) (fun _ _ _ h => h) (.inl ⟨by rfl, fun W1 h1 => by go_simp⟩) hW ?_
              try simp only [Act.put, List.setIfInBounds_toArray, List.set_cons_zero, List.set_cons_succ]
              refine wpAnyH_take (i := 14) (oi := ⟨some 47, _, _, _, _, _⟩) rfl (by kernel_rfl) (by kernel_rfl) (by kernel_rfl) (fun _ _ _ h => h) (yieldsIf_load_P (by rfl) _ rfl b0 (off0 + i * 36) x HX.out.1 rfl (fun W1 h1 => rangeAt_below HX.out.2.1 (below_then HBr.out HBr.out.size h1) HX.out.2.2)) hW ?_
              try simp only [Act.put, List.setIfInBounds_toArray, List.set_cons_zero, List.set_cons_succ]
              refine wpAnyH_ready (rs := [9]) (by kernel_rfl) (by simp) (AllReadyH.cons rfl (fun K1 hK1 => ?_) AllReadyH.nil)
              go_simp
              refine (rkey_calls y HY.out.1 Wb).mono ?_
              rintro e W1b ⟨v1, rfl, hr1, hb1⟩
              have H1 := Aside0.mk hr1
              clear hr1
              refine hK1.out _ _ (below_then hW hW.size hb1) (fun hW => ?_)
              try simp only [Act.put, List.setIfInBounds_toArray, List.set_cons_zero, List.set_cons_succ]
              refine wpAnyH_mono (S' := fun w' => Below W1b.heap.size W1b w') (fun w' h => below_then hb1 hb1.size h) ?_
              clear hW
              have hW := Below.refl W1b.heap.size W1b
              refine wpAnyH_take (i := 10) (oi := ⟨some 43, _, _, _, _, _⟩) (v := .string sy) rfl (by kernel_rfl) (by kernel_rfl) (by kernel_rfl) (fun _ _ _ h => h) (.inl ⟨by rfl, fun W1 h1 => by (have x1 := conv_own (Kd.R_below H1.out h1); rw [← HSY.out] at x1); go_simp⟩) hW ?_
              try simp only [Act.put, List.setIfInBounds_toArray, List.set_cons_zero, List.set_cons_succ]
              refine wpAnyH_ready (rs := [15]) (by kernel_rfl) (by simp) (AllReadyH.cons rfl (fun K2 hK2 => ?_) AllReadyH.nil)
              go_simp
              refine (rkey_calls x HX.out.1 W1b).mono ?_
              rintro e W2b ⟨v2, rfl, hr2, hb2⟩
              have H2 := Aside0.mk hr2
              clear hr2
              refine hK2.out _ _ (below_then hW hW.size hb2) (fun hW => ?_)
              try simp only [Act.put, List.setIfInBounds_toArray, List.set_cons_zero, List.set_cons_succ]
              refine wpAnyH_mono (S' := fun w' => Below W2b.heap.size W2b w') (fun w' h => below_then hb2 hb2.size h) ?_
              have HBb := Aside0.mk (below_then HBr.out HBr.out.size (below_then hb1 hb1.size hb2))
              clear hW
              have hW := Below.refl W2b.heap.size W2b
              refine wpAnyH_take (i := 16) (oi := ⟨some 49, _, _, _, _, _⟩) (v := .string sx) rfl (by kernel_rfl) (by kernel_rfl) (by kernel_rfl) (fun _ _ _ h => h) (.inl ⟨by rfl, fun W1 h1 => by (have x1 := conv_own (Kd.R_below H2.out h1); rw [← HSX.out] at x1); go_simp⟩) hW ?_
              try simp only [Act.put, List.setIfInBounds_toArray, List.set_cons_zero, List.set_cons_succ]
              refine wpAnyH_take (i := 17) (oi := ⟨some 50, _, _, _, _, _⟩) (v := .bool false) rfl (by kernel_rfl) (by kernel_rfl) (by kernel_rfl) (fun _ _ _ h => h) (.inl ⟨by rfl, fun W1 h1 => by go_simp⟩) hW ?_
              try simp only [Act.put, List.setIfInBounds_toArray, List.set_cons_zero, List.set_cons_succ]
              refine wpAnyH_take (i := 18) (oi := ⟨some 51, _, _, _, _, _⟩) (v := .bool false) rfl (by kernel_rfl) (by kernel_rfl) (by kernel_rfl) (fun _ _ _ h => h) (.inl ⟨by rfl, fun W1 h1 => by go_simp⟩) hW ?_
              try simp only [Act.put, List.setIfInBounds_toArray, List.set_cons_zero, List.set_cons_succ]
              refine wpAnyH_done (by kernel_rfl) ?_ _
              clear hW hb1 hb2 hK1 hK2 K1 K2 H1 H2 HBr
              go_wp2
              refine wp_region_held_drew (S := fun w' => Below W2b.drew.heap.size W2b.drew w') (by kernel_rfl) (Below.refl _ _) (fun hW => ?_)
              have HBr := Aside0.mk (below_then HBb.out HBb.out.size (below_drew (Below.refl W2b.heap.size W2b)))
              generalize hWd : W2b.drew = Wd at *
              clear hWd
              refine wpAnyH_take (i := 1) (oi := ⟨some 53, _, _, _, _, _⟩) (v := .slice (some ⟨b3, off3, none⟩) n3 c3) rfl (by kernel_rfl) (by kernel_rfl) (by kernel_rfl) (fun _ _ _ h => h) (.inl ⟨by rfl, fun W1 h1 => by go_simp⟩) hW ?_
              try simp only [Act.put, List.setIfInBounds_toArray, List.set_cons_zero, List.set_cons_succ]
              refine wpAnyH_take (i := 2) (oi := ⟨some 54, _, _, _, _, _⟩) (v := .int .i64 (k : Int)) rfl (by kernel_rfl) (by kernel_rfl) (by kernel_rfl) (fun _ _ _ h => h) (.inl ⟨by rfl, fun W1 h1 => by go_simp⟩) hW ?_
              try simp only [Act.put, List.setIfInBounds_toArray, List.set_cons_zero, List.set_cons_succ]
              refine wpAnyH_take (i := 3) (oi := ⟨some 55, _, _, _, _, _⟩) (v := .slice (some ⟨b3, off3, none⟩) k c3) rfl (by kernel_rfl) (by kernel_rfl) (by kernel_rfl) (fun _ _ _ h => h) (.inl ⟨by rfl, fun W1 h1 => by (have x1 := cut38_to (some ⟨b3, off3, none⟩) n3 c3 k hkn hnc3 W1); go_simp⟩) hW ?_
              try simp only [Act.put, List.setIfInBounds_toArray, List.set_cons_zero, List.set_cons_succ]
              refine wpAnyH_take (i := 5) (oi := ⟨some 57, _, _, _, _, _⟩) (v := .slice (some ⟨b0, off0, none⟩) n c) rfl (by kernel_rfl) (by kernel_rfl) (by kernel_rfl) (fun _ _ _ h => h) (.inl ⟨by rfl, fun W1 h1 => by go_simp⟩) hW ?_
              try simp only [Act.put, List.setIfInBounds_toArray, List.set_cons_zero, List.set_cons_succ]
              refine wpAnyH_take (i := 6) (oi := ⟨some 58, _, _, _, _, _⟩) (v := .int .i64 (i : Int)) rfl (by kernel_rfl) (by kernel_rfl) (by kernel_rfl) (fun _ _ _ h => h) (.inl ⟨by rfl, fun W1 h1 => by go_simp⟩) hW ?_
              try simp only [Act.put, List.setIfInBounds_toArray, List.set_cons_zero, List.set_cons_succ]
              refine wpAnyH_take (i := 7) (oi := ⟨some 59, _, _, _, _, _⟩) (v := .pointer (some ⟨b0, off0 + i * 36, none⟩)) rfl (by kernel_rfl) (by kernel_rfl) (by kernel_rfl) (fun _ _ _ h => h) (.inl ⟨by rfl, fun W1 h1 => by go_simp⟩) hW ?_
              try simp only [Act.put, List.setIfInBounds_toArray, List.set_cons_zero, List.set_cons_succ]
              refine wpAnyH_take (i := 8) (oi := ⟨some 60, _, _, _, _, _⟩) rfl (by kernel_rfl) (by kernel_rfl) (by kernel_rfl) (fun _ _ _ h => h) (yieldsIf_load_P (by rfl) _ rfl b0 (off0 + i * 36) x HX.out.1 rfl (fun W1 h1 => rangeAt_below HX.out.2.1 (below_then HBr.out HBr.out.size h1) HX.out.2.2)) hW ?_
              try simp only [Act.put, List.setIfInBounds_toArray, List.set_cons_zero, List.set_cons_succ]
              refine wpAnyH_take (i := 11) (oi := ⟨some 63, _, _, _, _, _⟩) (v := .slice (some ⟨b3, off3, none⟩) n3 c3) rfl (by kernel_rfl) (by kernel_rfl) (by kernel_rfl) (fun _ _ _ h => h) (.inl ⟨by rfl, fun W1 h1 => by go_simp⟩) hW ?_
              try simp only [Act.put, List.setIfInBounds_toArray, List.set_cons_zero, List.set_cons_succ]
              refine wpAnyH_take (i := 12) (oi := ⟨some 64, _, _, _, _, _⟩) (v := .int .i64 (k : Int)) rfl (by kernel_rfl) (by kernel_rfl) (by kernel_rfl) (fun _ _ _ h => h) (.inl ⟨by rfl, fun W1 h1 => by go_simp⟩) hW ?_
              try simp only [Act.put, List.setIfInBounds_toArray, List.set_cons_zero, List.set_cons_succ]
              refine wpAnyH_take (i := 13) (oi := ⟨some 65, _, _, _, _, _⟩) (v := .slice A4 n4 c4) rfl (by kernel_rfl) (by kernel_rfl) (by kernel_rfl) (fun _ _ _ h => h) (.inl ⟨by rfl, fun W1 h1 => by (have x1 := HCUT.out W1); go_simp⟩) hW ?_
              try simp only [Act.put, List.setIfInBounds_toArray, List.set_cons_zero, List.set_cons_succ]
              have HB0 := Aside0.mk hW
              clear hW
              refine wpAnyH_ready (rs := [0, 9]) (by kernel_rfl) (by simp) (AllReadyH.cons rfl (fun J1 hJ1 => ?_) (AllReadyH.cons rfl (fun J2 hJ2 => ?_) AllReadyH.nil))
              · refine wp_mt38 (o := ⟨some 52, _, _, _, _, _⟩) rfl HB0.out HB0.out.size ?_
                rintro vm Wm hvm hom ⟨Am, cm, em⟩ hBm hbm
                subst em
                have HVM := Aside0.mk (And.intro hvm hom)
                have HBm := Aside0.mk hBm
                have Hbm := Aside0.mk hbm
                refine hJ1.out _ _ hBm (fun hW => ?_)
                try simp only [Act.put, List.setIfInBounds_toArray, List.set_cons_zero, List.set_cons_succ]
                clear hvm hom hBm hbm hW
                refine wpAnyH_ready (rs := [4, 9]) (by kernel_rfl) (by simp) (AllReadyH.cons rfl (fun J3 hJ3 => ?_) (AllReadyH.cons rfl (fun J4 hJ4 => ?_) AllReadyH.nil))
                · refine wp_rowsC (o := ⟨some 56, _, _, _, _, _⟩) (.tmp 52) (.tmp 55) rfl _ [] (S.take k) (some ⟨b3, off3, none⟩) k c3 rfl rfl HVM.out.1 (Kd.C_below HC3.out (below_then HBr.out HBr.out.size HBm.out)) HBm.out HBm.out.size ((by simp only [List.length_nil]; omega)) ?_
                  intro v5 W4 hv5 hB5 hg5
                  have HV5 := Aside0.mk hv5
                  have HB5 := Aside0.mk hB5
                  have HG5 := Aside0.mk hg5
                  obtain ⟨A5, c5, e5⟩ := Kd.R_slice hv5
                  generalize hn5 : ([] ++ (S.take k)).length = n5 at e5
                  have HN5 := Aside0.mk hn5
                  clear hn5
                  subst e5
                  refine hJ3.out _ _ hB5 (fun hW => ?_)
                  try simp only [Act.put, List.setIfInBounds_toArray, List.set_cons_zero, List.set_cons_succ]
                  clear hv5 hB5 hg5 hW
                  rw [List.nil_append] at HV5
                  refine wpAnyH_ready (rs := [9]) (by kernel_rfl) (by simp) (AllReadyH.cons rfl (fun J5 hJ5 => ?_) AllReadyH.nil)
                  refine wp_oneC (o := ⟨some 61, _, _, _, _, _⟩) (.tmp 60) rfl x HX.out.1 rfl HB5.out HB5.out.size ?_
                  intro g9 W9 hc9 hg9 hg9' hB9 hb9
                  have HC9 := Aside0.mk (And.intro hc9 (And.intro hg9 hg9'))
                  have HB9 := Aside0.mk hB9
                  have Hb9 := Aside0.mk hb9
                  refine hJ5.out _ _ hB9 (fun hW => ?_)
                  try simp only [Act.put, List.setIfInBounds_toArray, List.set_cons_zero, List.set_cons_succ]
                  clear hc9 hg9 hg9' hB9 hb9 hW
                  refine wpAnyH_ready (rs := [10]) (by kernel_rfl) (by simp) (AllReadyH.cons rfl (fun L1 hL1 => ?_) AllReadyH.nil)
                  refine wp_rowsC (o := ⟨some 62, _, _, _, _, _⟩) (.tmp 56) (.tmp 61) rfl _ (S.take k) [x] (some ⟨g9, 0, none⟩) 1 1 rfl rfl (Kd.R_below HV5.out Hb9.out) HC9.out.1 HB9.out HB9.out.size (by rw [List.length_take]; omega) ?_
                  intro v10 W10 hv10 hB10 hg10
                  have HV10 := Aside0.mk hv10
                  have HB10 := Aside0.mk hB10
                  have HG10 := Aside0.mk hg10
                  obtain ⟨A10, c10, e10⟩ := Kd.R_slice hv10
                  generalize hn10 : ((S.take k) ++ [x]).length = n10 at e10
                  have HN10 := Aside0.mk hn10
                  clear hn10
                  subst e10
                  refine hL1.out _ _ hB10 (fun hW => ?_)
                  try simp only [Act.put, List.setIfInBounds_toArray, List.set_cons_zero, List.set_cons_succ]
                  clear hv10 hB10 hg10 hW
                  refine wpAnyH_ready (rs := [14]) (by kernel_rfl) (by simp) (AllReadyH.cons rfl (fun L2 hL2 => ?_) AllReadyH.nil)
                  refine wp_rowsC (o := ⟨some 66, _, _, _, _, _⟩) (.tmp 62) (.tmp 65) rfl _ (S.take k ++ [x]) (S.drop k) A4 n4 c4 rfl rfl HV10.out (Kd.C_below HC4.out (below_then HBr.out HBr.out.size HB10.out)) HB10.out HB10.out.size (by rw [List.length_append, List.length_take, List.length_singleton]; omega) ?_
                  intro v14 W14 hv14 hB14 hg14
                  have HV14 := Aside0.mk hv14
                  have HB14 := Aside0.mk hB14
                  have HG14 := Aside0.mk hg14
                  obtain ⟨A14, c14, e14⟩ := Kd.R_slice hv14
                  generalize hn14 : ((S.take k ++ [x]) ++ (S.drop k)).length = n14 at e14
                  have HN14 := Aside0.mk hn14
                  clear hn14
                  subst e14
                  refine hL2.out _ _ hB14 (fun hW => ?_)
                  try simp only [Act.put, List.setIfInBounds_toArray, List.set_cons_zero, List.set_cons_succ]
                  clear hv14 hB14 hg14 hW
                  refine wpAnyH_take (i := 15) (oi := ⟨some 3, _, _, _, _, _⟩) (v := .slice A14 n14 c14) rfl (by kernel_rfl) (by kernel_rfl) (by kernel_rfl) (fun _ _ _ h => h) (.inl ⟨by rfl, fun W1 h1 => by go_simp⟩) HB14.out ?_
                  try simp only [Act.put, List.setIfInBounds_toArray, List.set_cons_zero, List.set_cons_succ]
                  refine wpAnyH_done (by kernel_rfl) ?_ _
                  have HR9 := Aside0.mk (Kd.R_lower HV14.out (Nat.le_trans HBw.out.size HBr.out.size))
                  have HBF := Aside0.mk (below_then HBw.out HBw.out.size (below_then HBr.out HBr.out.size HB14.out))
                  clear HVM HBm Hbm HC9 HB9 Hb9 HV5 HB5 HG5 HV10 HB10 HG10 HV14 HB14 HG14 HB0
                  go_wp2
                  go_roundw
                  case rel => exact ⟨i + 1, n14, c14, A14, rfl, by go_num, by omega, ⟨by rw [← HNX.out]; exact HN14.out.symm⟩, ⟨by rw [← HNX.out]; exact HR9.out⟩, HBF⟩
                  case measure => simp [intOf]; omega
                · refine wp_oneC (o := ⟨some 61, _, _, _, _, _⟩) (.tmp 60) rfl x HX.out.1 rfl HBm.out HBm.out.size ?_
                  intro g9 W9 hc9 hg9 hg9' hB9 hb9
                  have HC9 := Aside0.mk (And.intro hc9 (And.intro hg9 hg9'))
                  have HB9 := Aside0.mk hB9
                  have Hb9 := Aside0.mk hb9
                  refine hJ4.out _ _ hB9 (fun hW => ?_)
                  try simp only [Act.put, List.setIfInBounds_toArray, List.set_cons_zero, List.set_cons_succ]
                  clear hc9 hg9 hg9' hB9 hb9 hW
                  refine wpAnyH_ready (rs := [4]) (by kernel_rfl) (by simp) (AllReadyH.cons rfl (fun J6 hJ6 => ?_) AllReadyH.nil)
                  refine wp_rowsC (o := ⟨some 56, _, _, _, _, _⟩) (.tmp 52) (.tmp 55) rfl _ [] (S.take k) (some ⟨b3, off3, none⟩) k c3 rfl rfl (Kd.R_below HVM.out.1 Hb9.out) (Kd.C_below HC3.out (below_then HBr.out HBr.out.size HB9.out)) HB9.out HB9.out.size ((by simp only [List.length_nil]; omega)) ?_
                  intro v5 W4 hv5 hB5 hg5
                  have HV5 := Aside0.mk hv5
                  have HB5 := Aside0.mk hB5
                  have HG5 := Aside0.mk hg5
                  obtain ⟨A5, c5, e5⟩ := Kd.R_slice hv5
                  generalize hn5 : ([] ++ (S.take k)).length = n5 at e5
                  have HN5 := Aside0.mk hn5
                  clear hn5
                  subst e5
                  refine hJ6.out _ _ hB5 (fun hW => ?_)
                  try simp only [Act.put, List.setIfInBounds_toArray, List.set_cons_zero, List.set_cons_succ]
                  clear hv5 hB5 hg5 hW
                  rw [List.nil_append] at HV5
                  refine wpAnyH_ready (rs := [10]) (by kernel_rfl) (by simp) (AllReadyH.cons rfl (fun L1 hL1 => ?_) AllReadyH.nil)
                  refine wp_rowsC (o := ⟨some 62, _, _, _, _, _⟩) (.tmp 56) (.tmp 61) rfl _ (S.take k) [x] (some ⟨g9, 0, none⟩) 1 1 rfl rfl HV5.out (CP_grown HC9.out.1 HG5.out (fun q hq => by have := Kd.R_lt HVM.out.1 q hq; have := HC9.out.2.1; omega) HC9.out.2.2) HB5.out HB5.out.size (by rw [List.length_take]; omega) ?_
                  intro v10 W10 hv10 hB10 hg10
                  have HV10 := Aside0.mk hv10
                  have HB10 := Aside0.mk hB10
                  have HG10 := Aside0.mk hg10
                  obtain ⟨A10, c10, e10⟩ := Kd.R_slice hv10
                  generalize hn10 : ((S.take k) ++ [x]).length = n10 at e10
                  have HN10 := Aside0.mk hn10
                  clear hn10
                  subst e10
                  refine hL1.out _ _ hB10 (fun hW => ?_)
                  try simp only [Act.put, List.setIfInBounds_toArray, List.set_cons_zero, List.set_cons_succ]
                  clear hv10 hB10 hg10 hW
                  refine wpAnyH_ready (rs := [14]) (by kernel_rfl) (by simp) (AllReadyH.cons rfl (fun L2 hL2 => ?_) AllReadyH.nil)
                  refine wp_rowsC (o := ⟨some 66, _, _, _, _, _⟩) (.tmp 62) (.tmp 65) rfl _ (S.take k ++ [x]) (S.drop k) A4 n4 c4 rfl rfl HV10.out (Kd.C_below HC4.out (below_then HBr.out HBr.out.size HB10.out)) HB10.out HB10.out.size (by rw [List.length_append, List.length_take, List.length_singleton]; omega) ?_
                  intro v14 W14 hv14 hB14 hg14
                  have HV14 := Aside0.mk hv14
                  have HB14 := Aside0.mk hB14
                  have HG14 := Aside0.mk hg14
                  obtain ⟨A14, c14, e14⟩ := Kd.R_slice hv14
                  generalize hn14 : ((S.take k ++ [x]) ++ (S.drop k)).length = n14 at e14
                  have HN14 := Aside0.mk hn14
                  clear hn14
                  subst e14
                  refine hL2.out _ _ hB14 (fun hW => ?_)
                  try simp only [Act.put, List.setIfInBounds_toArray, List.set_cons_zero, List.set_cons_succ]
                  clear hv14 hB14 hg14 hW
                  refine wpAnyH_take (i := 15) (oi := ⟨some 3, _, _, _, _, _⟩) (v := .slice A14 n14 c14) rfl (by kernel_rfl) (by kernel_rfl) (by kernel_rfl) (fun _ _ _ h => h) (.inl ⟨by rfl, fun W1 h1 => by go_simp⟩) HB14.out ?_
                  try simp only [Act.put, List.setIfInBounds_toArray, List.set_cons_zero, List.set_cons_succ]
                  refine wpAnyH_done (by kernel_rfl) ?_ _
                  have HR9 := Aside0.mk (Kd.R_lower HV14.out (Nat.le_trans HBw.out.size HBr.out.size))
                  have HBF := Aside0.mk (below_then HBw.out HBw.out.size (below_then HBr.out HBr.out.size HB14.out))
                  clear HVM HBm Hbm HC9 HB9 Hb9 HV5 HB5 HG5 HV10 HB10 HG10 HV14 HB14 HG14 HB0
                  go_wp2
                  go_roundw
                  case rel => exact ⟨i + 1, n14, c14, A14, rfl, by go_num, by omega, ⟨by rw [← HNX.out]; exact HN14.out.symm⟩, ⟨by rw [← HNX.out]; exact HR9.out⟩, HBF⟩
                  case measure => simp [intOf]; omega
              · refine wp_oneC (o := ⟨some 61, _, _, _, _, _⟩) (.tmp 60) rfl x HX.out.1 rfl HB0.out HB0.out.size ?_
                intro g9 W9 hc9 hg9 hg9' hB9 hb9
                have HC9 := Aside0.mk (And.intro hc9 (And.intro hg9 hg9'))
                have HB9 := Aside0.mk hB9
                have Hb9 := Aside0.mk hb9
                refine hJ2.out _ _ hB9 (fun hW => ?_)
                try simp only [Act.put, List.setIfInBounds_toArray, List.set_cons_zero, List.set_cons_succ]
                clear hc9 hg9 hg9' hB9 hb9 hW
                refine wpAnyH_ready (rs := [0]) (by kernel_rfl) (by simp) (AllReadyH.cons rfl (fun J7 hJ7 => ?_) AllReadyH.nil)
                refine wp_mt38 (o := ⟨some 52, _, _, _, _, _⟩) rfl HB9.out HB9.out.size ?_
                rintro vm Wm hvm hom ⟨Am, cm, em⟩ hBm hbm
                subst em
                have HVM := Aside0.mk (And.intro hvm hom)
                have HBm := Aside0.mk hBm
                have Hbm := Aside0.mk hbm
                refine hJ7.out _ _ hBm (fun hW => ?_)
                try simp only [Act.put, List.setIfInBounds_toArray, List.set_cons_zero, List.set_cons_succ]
                clear hvm hom hBm hbm hW
                refine wpAnyH_ready (rs := [4]) (by kernel_rfl) (by simp) (AllReadyH.cons rfl (fun J8 hJ8 => ?_) AllReadyH.nil)
                refine wp_rowsC (o := ⟨some 56, _, _, _, _, _⟩) (.tmp 52) (.tmp 55) rfl _ [] (S.take k) (some ⟨b3, off3, none⟩) k c3 rfl rfl HVM.out.1 (Kd.C_below HC3.out (below_then HBr.out HBr.out.size HBm.out)) HBm.out HBm.out.size ((by simp only [List.length_nil]; omega)) ?_
                intro v5 W4 hv5 hB5 hg5
                have HV5 := Aside0.mk hv5
                have HB5 := Aside0.mk hB5
                have HG5 := Aside0.mk hg5
                obtain ⟨A5, c5, e5⟩ := Kd.R_slice hv5
                generalize hn5 : ([] ++ (S.take k)).length = n5 at e5
                have HN5 := Aside0.mk hn5
                clear hn5
                subst e5
                refine hJ8.out _ _ hB5 (fun hW => ?_)
                try simp only [Act.put, List.setIfInBounds_toArray, List.set_cons_zero, List.set_cons_succ]
                clear hv5 hB5 hg5 hW
                rw [List.nil_append] at HV5
                refine wpAnyH_ready (rs := [10]) (by kernel_rfl) (by simp) (AllReadyH.cons rfl (fun L1 hL1 => ?_) AllReadyH.nil)
                refine wp_rowsC (o := ⟨some 62, _, _, _, _, _⟩) (.tmp 56) (.tmp 61) rfl _ (S.take k) [x] (some ⟨g9, 0, none⟩) 1 1 rfl rfl HV5.out (CP_grown (Kd.C_below HC9.out.1 Hbm.out) HG5.out (fun q hq => by have := HVM.out.2 q hq; have := HC9.out.2.2; omega) (Nat.lt_of_lt_of_le HC9.out.2.2 Hbm.out.size)) HB5.out HB5.out.size (by rw [List.length_take]; omega) ?_
                intro v10 W10 hv10 hB10 hg10
                have HV10 := Aside0.mk hv10
                have HB10 := Aside0.mk hB10
                have HG10 := Aside0.mk hg10
                obtain ⟨A10, c10, e10⟩ := Kd.R_slice hv10
                generalize hn10 : ((S.take k) ++ [x]).length = n10 at e10
                have HN10 := Aside0.mk hn10
                clear hn10
                subst e10
                refine hL1.out _ _ hB10 (fun hW => ?_)
                try simp only [Act.put, List.setIfInBounds_toArray, List.set_cons_zero, List.set_cons_succ]
                clear hv10 hB10 hg10 hW
                refine wpAnyH_ready (rs := [14]) (by kernel_rfl) (by simp) (AllReadyH.cons rfl (fun L2 hL2 => ?_) AllReadyH.nil)
                refine wp_rowsC (o := ⟨some 66, _, _, _, _, _⟩) (.tmp 62) (.tmp 65) rfl _ (S.take k ++ [x]) (S.drop k) A4 n4 c4 rfl rfl HV10.out (Kd.C_below HC4.out (below_then HBr.out HBr.out.size HB10.out)) HB10.out HB10.out.size (by rw [List.length_append, List.length_take, List.length_singleton]; omega) ?_
                intro v14 W14 hv14 hB14 hg14
                have HV14 := Aside0.mk hv14
                have HB14 := Aside0.mk hB14
                have HG14 := Aside0.mk hg14
                obtain ⟨A14, c14, e14⟩ := Kd.R_slice hv14
                generalize hn14 : ((S.take k ++ [x]) ++ (S.drop k)).length = n14 at e14
                have HN14 := Aside0.mk hn14
                clear hn14
                subst e14
                refine hL2.out _ _ hB14 (fun hW => ?_)
                try simp only [Act.put, List.setIfInBounds_toArray, List.set_cons_zero, List.set_cons_succ]
                clear hv14 hB14 hg14 hW
                refine wpAnyH_take (i := 15) (oi := ⟨some 3, _, _, _, _, _⟩) (v := .slice A14 n14 c14) rfl (by kernel_rfl) (by kernel_rfl) (by kernel_rfl) (fun _ _ _ h => h) (.inl ⟨by rfl, fun W1 h1 => by go_simp⟩) HB14.out ?_
                try simp only [Act.put, List.setIfInBounds_toArray, List.set_cons_zero, List.set_cons_succ]
                refine wpAnyH_done (by kernel_rfl) ?_ _
                have HR9 := Aside0.mk (Kd.R_lower HV14.out (Nat.le_trans HBw.out.size HBr.out.size))
                have HBF := Aside0.mk (below_then HBw.out HBw.out.size (below_then HBr.out HBr.out.size HB14.out))
                clear HVM HBm Hbm HC9 HB9 Hb9 HV5 HB5 HG5 HV10 HB10 HG10 HV14 HB14 HG14 HB0
                go_wp2
                go_roundw
                case rel => exact ⟨i + 1, n14, c14, A14, rfl, by go_num, by omega, ⟨by rw [← HNX.out]; exact HN14.out.symm⟩, ⟨by rw [← HNX.out]; exact HR9.out⟩, HBF⟩
                case measure => simp [intOf]; omega
        · have hk2 : n3 ≤ k := by omega
          have HNX := Aside0.mk (show S.take k ++ [x] ++ S.drop k = uniq keyN (l.take (i + 1)) by
            rw [HSN.out, ins_pos HT.out (fun z hz => by
              rw [List.getElem?_eq_none (by have := HN3.out; omega)] at hz
              cases hz)])
          go_wp2
          refine wp_region_held_drew (S := fun w' => Below wr.drew.heap.size wr.drew w') (by kernel_rfl) (Below.refl _ _) (fun hW => ?_)
          have HBr := Aside0.mk (below_then HB2.out HB2.out.size (below_drew (Below.refl wr.heap.size wr)))
          generalize hWd : wr.drew = Wa at *
          clear hWd
          refine wpAnyH_take (i := 0) (oi := ⟨some 12, _, _, _, _, _⟩) (v := .int .i64 (k : Int)) rfl (by kernel_rfl) (by kernel_rfl) (by kernel_rfl) (fun _ _ _ h => h) (.inl ⟨by rfl, fun W1 h1 => by go_simp⟩) hW ?_
          try simp only [Act.put, List.setIfInBounds_toArray, List.set_cons_zero, List.set_cons_succ]
          refine wpAnyH_take (i := 1) (oi := ⟨some 13, _, _, _, _, _⟩) (v := .slice A3 n3 c3) rfl (by kernel_rfl) (by kernel_rfl) (by kernel_rfl) (fun _ _ _ h => h) (.inl ⟨by rfl, fun W1 h1 => by go_simp⟩) hW ?_
          try simp only [Act.put, List.setIfInBounds_toArray, List.set_cons_zero, List.set_cons_succ]
          refine wpAnyH_take (i := 2) (oi := ⟨some 14, _, _, _, _, _⟩) (v := .int .i64 (n3 : Int)) rfl (by kernel_rfl) (by kernel_rfl) (by kernel_rfl) (fun _ _ _ h => h) (.inl ⟨by rfl, fun W1 h1 => by go_simp⟩) hW ?_
          try simp only [Act.put, List.setIfInBounds_toArray, List.set_cons_zero, List.set_cons_succ]
          refine wpAnyH_take (i := 3) (oi := ⟨some 15, _, _, _, _, _⟩) (v := .bool false) rfl (by kernel_rfl) (by kernel_rfl) (by kernel_rfl) (fun _ _ _ h => h) (.inl ⟨by rfl, fun W1 h1 => by go_simp⟩) hW ?_
          try simp only [Act.put, List.setIfInBounds_toArray, List.set_cons_zero, List.set_cons_succ]
          refine wpAnyH_take (i := 4) (oi := ⟨some 16, _, _, _, _, _⟩) (v := .bool false) rfl (by kernel_rfl) (by kernel_rfl) (by kernel_rfl) (fun _ _ _ h => h) (.inl ⟨by rfl, fun W1 h1 => by go_simp⟩) hW ?_
          try simp only [Act.put, List.setIfInBounds_toArray, List.set_cons_zero, List.set_cons_succ]
          refine wpAnyH_take (i := 5) (oi := ⟨some 17, _, _, _, _, _⟩) (v := undef) rfl (by kernel_rfl) (by kernel_rfl) (by kernel_rfl) (fun _ _ _ h => h) (.inr ⟨by rfl, rfl⟩) hW ?_
          try simp only [Act.put, List.setIfInBounds_toArray, List.set_cons_zero, List.set_cons_succ]
          refine wpAnyH_take (i := 6) (oi := ⟨some 18, _, _, _, _, _⟩) (v := undef) rfl (by kernel_rfl) (by kernel_rfl) (by kernel_rfl) (fun _ _ _ h => h) (.inr ⟨by rfl, rfl⟩) hW ?_
          try simp only [Act.put, List.setIfInBounds_toArray, List.set_cons_zero, List.set_cons_succ]
          refine wpAnyH_take (i := 7) (oi := ⟨some 19, _, _, _, _, _⟩) (v := undef) rfl (by kernel_rfl) (by kernel_rfl) (by kernel_rfl) (fun _ _ _ h => h) (.inr ⟨by rfl, rfl⟩) hW ?_
          try simp only [Act.put, List.setIfInBounds_toArray, List.set_cons_zero, List.set_cons_succ]
          refine wpAnyH_take (i := 8) (oi := ⟨some 20, _, _, _, _, _⟩) (v := undef) rfl (by kernel_rfl) (by kernel_rfl) (by kernel_rfl) (fun _ _ _ h => h) (.inr ⟨by rfl, rfl⟩) hW ?_
          try simp only [Act.put, List.setIfInBounds_toArray, List.set_cons_zero, List.set_cons_succ]
          refine wpAnyH_take (i := 9) (oi := ⟨some 21, _, _, _, _, _⟩) (v := undef) rfl (by kernel_rfl) (by kernel_rfl) (by kernel_rfl) (fun _ _ _ h => h) (.inr ⟨by rfl, rfl⟩) hW ?_
          try simp only [Act.put, List.setIfInBounds_toArray, List.set_cons_zero, List.set_cons_succ]
          refine wpAnyH_take (i := 10) (oi := ⟨some 22, _, _, _, _, _⟩) (v := undef) rfl (by kernel_rfl) (by kernel_rfl) (by kernel_rfl) (fun _ _ _ h => h) (.inr ⟨by rfl, rfl⟩) hW ?_
          try simp only [Act.put, List.setIfInBounds_toArray, List.set_cons_zero, List.set_cons_succ]
          refine wpAnyH_take (i := 11) (oi := ⟨some 23, _, _, _, _, _⟩) (v := undef) rfl (by kernel_rfl) (by kernel_rfl) (by kernel_rfl) (fun _ _ _ h => h) (.inr ⟨by rfl, rfl⟩) hW ?_
          try simp only [Act.put, List.setIfInBounds_toArray, List.set_cons_zero, List.set_cons_succ]
          refine wpAnyH_take (i := 12) (oi := ⟨some 24, _, _, _, _, _⟩) (v := undef) rfl (by kernel_rfl) (by kernel_rfl) (by kernel_rfl) (fun _ _ _ h => h) (.inr ⟨by rfl, rfl⟩) hW ?_
          try simp only [Act.put, List.setIfInBounds_toArray, List.set_cons_zero, List.set_cons_succ]
          refine wpAnyH_take (i := 13) (oi := ⟨some 25, _, _, _, _, _⟩) (v := undef) rfl (by kernel_rfl) (by kernel_rfl) (by kernel_rfl) (fun _ _ _ h => h) (.inr ⟨by rfl, rfl⟩) hW ?_
          try simp only [Act.put, List.setIfInBounds_toArray, List.set_cons_zero, List.set_cons_succ]
          refine wpAnyH_take (i := 14) (oi := ⟨some 26, _, _, _, _, _⟩) (v := undef) rfl (by kernel_rfl) (by kernel_rfl) (by kernel_rfl) (fun _ _ _ h => h) (.inr ⟨by rfl, rfl⟩) hW ?_
          try simp only [Act.put, List.setIfInBounds_toArray, List.set_cons_zero, List.set_cons_succ]
          refine wpAnyH_take (i := 15) (oi := ⟨some 27, _, _, _, _, _⟩) (v := undef) rfl (by kernel_rfl) (by kernel_rfl) (by kernel_rfl) (fun _ _ _ h => h) (.inr ⟨by rfl, rfl⟩) hW ?_
          try simp only [Act.put, List.setIfInBounds_toArray, List.set_cons_zero, List.set_cons_succ]
          refine wpAnyH_take (i := 16) (oi := ⟨some 28, _, _, _, _, _⟩) (v := undef) rfl (by kernel_rfl) (by kernel_rfl) (by kernel_rfl) (fun _ _ _ h => h) (.inr ⟨by rfl, rfl⟩) hW ?_
          try simp only [Act.put, List.setIfInBounds_toArray, List.set_cons_zero, List.set_cons_succ]
          refine wpAnyH_take (i := 17) (oi := ⟨some 29, _, _, _, _, _⟩) (v := undef) rfl (by kernel_rfl) (by kernel_rfl) (by kernel_rfl) (fun _ _ _ h => h) (.inr ⟨by rfl, rfl⟩) hW ?_
          try simp only [Act.put, List.setIfInBounds_toArray, List.set_cons_zero, List.set_cons_succ]
          refine wpAnyH_take (i := 18) (oi := ⟨some 30, _, _, _, _, _⟩) (v := .bool false) rfl (by kernel_rfl) (by kernel_rfl) (by kernel_rfl) (fun _ _ _ h => h) (.inl ⟨by rfl, fun W1 h1 => by go_simp⟩) hW ?_
          try simp only [Act.put, List.setIfInBounds_toArray, List.set_cons_zero, List.set_cons_succ]
          refine wpAnyH_done (by kernel_rfl) ?_ _
          have HBa := HBr
          clear hW HBr
          go_wp2
          refine wp_region_held_drew (S := fun w' => Below Wa.drew.heap.size Wa.drew w') (by kernel_rfl) (Below.refl _ _) (fun hW => ?_)
          have HBr := Aside0.mk (below_then HBa.out HBa.out.size (below_drew (Below.refl Wa.heap.size Wa)))
          generalize hWd : Wa.drew = Wb at *
          clear hWd
          refine wpAnyH_take (i := 0) (oi := ⟨some 33, _, _, _, _, _⟩) (v := .int .i64 (k : Int)) rfl (by kernel_rfl) (by kernel_rfl) (by kernel_rfl) (fun _ _ _ h => h) (.inl ⟨by rfl, fun W1 h1 => by go_simp⟩) hW ?_
          try simp only [Act.put, List.setIfInBounds_toArray, List.set_cons_zero, List.set_cons_succ]
          refine wpAnyH_take (i := 1) (oi := ⟨some 34, _, _, _, _, _⟩) (v := .slice A3 n3 c3) rfl (by kernel_rfl) (by kernel_rfl) (by kernel_rfl) (fun _ _ _ h => h) (.inl ⟨by rfl, fun W1 h1 => by go_simp⟩) hW ?_
          try simp only [Act.put, List.setIfInBounds_toArray, List.set_cons_zero, List.set_cons_succ]
          refine wpAnyH_take (i := 2) (oi := ⟨some 35, _, _, _, _, _⟩) (v := .int .i64 (n3 : Int)) rfl (by kernel_rfl) (by kernel_rfl) (by kernel_rfl) (fun _ _ _ h => h) (.inl ⟨by rfl, fun W1 h1 => by go_simp⟩) hW ?_
          try simp only [Act.put, List.setIfInBounds_toArray, List.set_cons_zero, List.set_cons_succ]
          refine wpAnyH_take (i := 3) (oi := ⟨some 36, _, _, _, _, _⟩) (v := .bool false) rfl (by kernel_rfl) (by kernel_rfl) (by kernel_rfl) (fun _ _ _ h => h) (.inl ⟨by rfl, fun W1 h1 => by go_simp⟩) hW ?_
          try simp only [Act.put, List.setIfInBounds_toArray, List.set_cons_zero, List.set_cons_succ]
          refine wpAnyH_take (i := 4) (oi := ⟨some 37, _, _, _, _, _⟩) (v := .bool false) rfl (by kernel_rfl) (by kernel_rfl) (by kernel_rfl) (fun _ _ _ h => h) (.inl ⟨by rfl, fun W1 h1 => by go_simp⟩) hW ?_
          try simp only [Act.put, List.setIfInBounds_toArray, List.set_cons_zero, List.set_cons_succ]
          refine wpAnyH_take (i := 5) (oi := ⟨some 38, _, _, _, _, _⟩) (v := undef) rfl (by kernel_rfl) (by kernel_rfl) (by kernel_rfl) (fun _ _ _ h => h) (.inr ⟨by rfl, rfl⟩) hW ?_
          try simp only [Act.put, List.setIfInBounds_toArray, List.set_cons_zero, List.set_cons_succ]
          refine wpAnyH_take (i := 6) (oi := ⟨some 39, _, _, _, _, _⟩) (v := undef) rfl (by kernel_rfl) (by kernel_rfl) (by kernel_rfl) (fun _ _ _ h => h) (.inr ⟨by rfl, rfl⟩) hW ?_
          try simp only [Act.put, List.setIfInBounds_toArray, List.set_cons_zero, List.set_cons_succ]
          refine wpAnyH_take (i := 7) (oi := ⟨some 40, _, _, _, _, _⟩) (v := undef) rfl (by kernel_rfl) (by kernel_rfl) (by kernel_rfl) (fun _ _ _ h => h) (.inr ⟨by rfl, rfl⟩) hW ?_
          try simp only [Act.put, List.setIfInBounds_toArray, List.set_cons_zero, List.set_cons_succ]
          refine wpAnyH_take (i := 8) (oi := ⟨some 41, _, _, _, _, _⟩) (v := undef) rfl (by kernel_rfl) (by kernel_rfl) (by kernel_rfl) (fun _ _ _ h => h) (.inr ⟨by rfl, rfl⟩) hW ?_
          try simp only [Act.put, List.setIfInBounds_toArray, List.set_cons_zero, List.set_cons_succ]
          refine wpAnyH_take (i := 9) (oi := ⟨some 42, _, _, _, _, _⟩) (v := undef) rfl (by kernel_rfl) (by kernel_rfl) (by kernel_rfl) (fun _ _ _ h => h) (.inr ⟨by rfl, rfl⟩) hW ?_
          try simp only [Act.put, List.setIfInBounds_toArray, List.set_cons_zero, List.set_cons_succ]
          refine wpAnyH_take (i := 10) (oi := ⟨some 43, _, _, _, _, _⟩) (v := undef) rfl (by kernel_rfl) (by kernel_rfl) (by kernel_rfl) (fun _ _ _ h => h) (.inr ⟨by rfl, rfl⟩) hW ?_
          try simp only [Act.put, List.setIfInBounds_toArray, List.set_cons_zero, List.set_cons_succ]
          refine wpAnyH_take (i := 11) (oi := ⟨some 44, _, _, _, _, _⟩) (v := undef) rfl (by kernel_rfl) (by kernel_rfl) (by kernel_rfl) (fun _ _ _ h => h) (.inr ⟨by rfl, rfl⟩) hW ?_
          try simp only [Act.put, List.setIfInBounds_toArray, List.set_cons_zero, List.set_cons_succ]
          refine wpAnyH_take (i := 12) (oi := ⟨some 45, _, _, _, _, _⟩) (v := undef) rfl (by kernel_rfl) (by kernel_rfl) (by kernel_rfl) (fun _ _ _ h => h) (.inr ⟨by rfl, rfl⟩) hW ?_
          try simp only [Act.put, List.setIfInBounds_toArray, List.set_cons_zero, List.set_cons_succ]
          refine wpAnyH_take (i := 13) (oi := ⟨some 46, _, _, _, _, _⟩) (v := undef) rfl (by kernel_rfl) (by kernel_rfl) (by kernel_rfl) (fun _ _ _ h => h) (.inr ⟨by rfl, rfl⟩) hW ?_
          try simp only [Act.put, List.setIfInBounds_toArray, List.set_cons_zero, List.set_cons_succ]
          refine wpAnyH_take (i := 14) (oi := ⟨some 47, _, _, _, _, _⟩) (v := undef) rfl (by kernel_rfl) (by kernel_rfl) (by kernel_rfl) (fun _ _ _ h => h) (.inr ⟨by rfl, rfl⟩) hW ?_
          try simp only [Act.put, List.setIfInBounds_toArray, List.set_cons_zero, List.set_cons_succ]
          refine wpAnyH_take (i := 15) (oi := ⟨some 48, _, _, _, _, _⟩) (v := undef) rfl (by kernel_rfl) (by kernel_rfl) (by kernel_rfl) (fun _ _ _ h => h) (.inr ⟨by rfl, rfl⟩) hW ?_
          try simp only [Act.put, List.setIfInBounds_toArray, List.set_cons_zero, List.set_cons_succ]
          refine wpAnyH_take (i := 16) (oi := ⟨some 49, _, _, _, _, _⟩) (v := undef) rfl (by kernel_rfl) (by kernel_rfl) (by kernel_rfl) (fun _ _ _ h => h) (.inr ⟨by rfl, rfl⟩) hW ?_
          try simp only [Act.put, List.setIfInBounds_toArray, List.set_cons_zero, List.set_cons_succ]
          refine wpAnyH_take (i := 17) (oi := ⟨some 50, _, _, _, _, _⟩) (v := undef) rfl (by kernel_rfl) (by kernel_rfl) (by kernel_rfl) (fun _ _ _ h => h) (.inr ⟨by rfl, rfl⟩) hW ?_
          try simp only [Act.put, List.setIfInBounds_toArray, List.set_cons_zero, List.set_cons_succ]
          refine wpAnyH_take (i := 18) (oi := ⟨some 51, _, _, _, _, _⟩) (v := .bool false) rfl (by kernel_rfl) (by kernel_rfl) (by kernel_rfl) (fun _ _ _ h => h) (.inl ⟨by rfl, fun W1 h1 => by go_simp⟩) hW ?_
          try simp only [Act.put, List.setIfInBounds_toArray, List.set_cons_zero, List.set_cons_succ]
          refine wpAnyH_done (by kernel_rfl) ?_ _
          have HBb := HBr
          clear hW HBr
          go_wp2
          refine wp_region_held_drew (S := fun w' => Below Wb.drew.heap.size Wb.drew w') (by kernel_rfl) (Below.refl _ _) (fun hW => ?_)
          have HBr := Aside0.mk (below_then HBb.out HBb.out.size (below_drew (Below.refl Wb.heap.size Wb)))
          generalize hWd : Wb.drew = Wd at *
          clear hWd
          refine wpAnyH_take (i := 1) (oi := ⟨some 53, _, _, _, _, _⟩) (v := .slice A3 n3 c3) rfl (by kernel_rfl) (by kernel_rfl) (by kernel_rfl) (fun _ _ _ h => h) (.inl ⟨by rfl, fun W1 h1 => by go_simp⟩) hW ?_
          try simp only [Act.put, List.setIfInBounds_toArray, List.set_cons_zero, List.set_cons_succ]
          refine wpAnyH_take (i := 2) (oi := ⟨some 54, _, _, _, _, _⟩) (v := .int .i64 (k : Int)) rfl (by kernel_rfl) (by kernel_rfl) (by kernel_rfl) (fun _ _ _ h => h) (.inl ⟨by rfl, fun W1 h1 => by go_simp⟩) hW ?_
          try simp only [Act.put, List.setIfInBounds_toArray, List.set_cons_zero, List.set_cons_succ]
          refine wpAnyH_take (i := 3) (oi := ⟨some 55, _, _, _, _, _⟩) (v := .slice A3 k c3) rfl (by kernel_rfl) (by kernel_rfl) (by kernel_rfl) (fun _ _ _ h => h) (.inl ⟨by rfl, fun W1 h1 => by (have x1 := cut38_to A3 n3 c3 k hkn hnc3 W1); go_simp⟩) hW ?_
          try simp only [Act.put, List.setIfInBounds_toArray, List.set_cons_zero, List.set_cons_succ]
          refine wpAnyH_take (i := 5) (oi := ⟨some 57, _, _, _, _, _⟩) (v := .slice (some ⟨b0, off0, none⟩) n c) rfl (by kernel_rfl) (by kernel_rfl) (by kernel_rfl) (fun _ _ _ h => h) (.inl ⟨by rfl, fun W1 h1 => by go_simp⟩) hW ?_
          try simp only [Act.put, List.setIfInBounds_toArray, List.set_cons_zero, List.set_cons_succ]
          refine wpAnyH_take (i := 6) (oi := ⟨some 58, _, _, _, _, _⟩) (v := .int .i64 (i : Int)) rfl (by kernel_rfl) (by kernel_rfl) (by kernel_rfl) (fun _ _ _ h => h) (.inl ⟨by rfl, fun W1 h1 => by go_simp⟩) hW ?_
          try simp only [Act.put, List.setIfInBounds_toArray, List.set_cons_zero, List.set_cons_succ]
          refine wpAnyH_take (i := 7) (oi := ⟨some 59, _, _, _, _, _⟩) (v := .pointer (some ⟨b0, off0 + i * 36, none⟩)) rfl (by kernel_rfl) (by kernel_rfl) (by kernel_rfl) (fun _ _ _ h => h) (.inl ⟨by rfl, fun W1 h1 => by go_simp⟩) hW ?_
          try simp only [Act.put, List.setIfInBounds_toArray, List.set_cons_zero, List.set_cons_succ]
          refine wpAnyH_take (i := 8) (oi := ⟨some 60, _, _, _, _, _⟩) rfl (by kernel_rfl) (by kernel_rfl) (by kernel_rfl) (fun _ _ _ h => h) (yieldsIf_load_P (by rfl) _ rfl b0 (off0 + i * 36) x HX.out.1 rfl (fun W1 h1 => rangeAt_below HX.out.2.1 (below_then HBr.out HBr.out.size h1) HX.out.2.2)) hW ?_
          try simp only [Act.put, List.setIfInBounds_toArray, List.set_cons_zero, List.set_cons_succ]
          refine wpAnyH_take (i := 11) (oi := ⟨some 63, _, _, _, _, _⟩) (v := .slice A3 n3 c3) rfl (by kernel_rfl) (by kernel_rfl) (by kernel_rfl) (fun _ _ _ h => h) (.inl ⟨by rfl, fun W1 h1 => by go_simp⟩) hW ?_
          try simp only [Act.put, List.setIfInBounds_toArray, List.set_cons_zero, List.set_cons_succ]
          refine wpAnyH_take (i := 12) (oi := ⟨some 64, _, _, _, _, _⟩) (v := .int .i64 (k : Int)) rfl (by kernel_rfl) (by kernel_rfl) (by kernel_rfl) (fun _ _ _ h => h) (.inl ⟨by rfl, fun W1 h1 => by go_simp⟩) hW ?_
          try simp only [Act.put, List.setIfInBounds_toArray, List.set_cons_zero, List.set_cons_succ]
          refine wpAnyH_take (i := 13) (oi := ⟨some 65, _, _, _, _, _⟩) (v := .slice A4 n4 c4) rfl (by kernel_rfl) (by kernel_rfl) (by kernel_rfl) (fun _ _ _ h => h) (.inl ⟨by rfl, fun W1 h1 => by (have x1 := HCUT.out W1); go_simp⟩) hW ?_
          try simp only [Act.put, List.setIfInBounds_toArray, List.set_cons_zero, List.set_cons_succ]
          have HB0 := Aside0.mk hW
          clear hW
          refine wpAnyH_ready (rs := [0, 9]) (by kernel_rfl) (by simp) (AllReadyH.cons rfl (fun J1 hJ1 => ?_) (AllReadyH.cons rfl (fun J2 hJ2 => ?_) AllReadyH.nil))
          · refine wp_mt38 (o := ⟨some 52, _, _, _, _, _⟩) rfl HB0.out HB0.out.size ?_
            rintro vm Wm hvm hom ⟨Am, cm, em⟩ hBm hbm
            subst em
            have HVM := Aside0.mk (And.intro hvm hom)
            have HBm := Aside0.mk hBm
            have Hbm := Aside0.mk hbm
            refine hJ1.out _ _ hBm (fun hW => ?_)
            try simp only [Act.put, List.setIfInBounds_toArray, List.set_cons_zero, List.set_cons_succ]
            clear hvm hom hBm hbm hW
            refine wpAnyH_ready (rs := [4, 9]) (by kernel_rfl) (by simp) (AllReadyH.cons rfl (fun J3 hJ3 => ?_) (AllReadyH.cons rfl (fun J4 hJ4 => ?_) AllReadyH.nil))
            · refine wp_rowsC (o := ⟨some 56, _, _, _, _, _⟩) (.tmp 52) (.tmp 55) rfl _ [] (S.take k) A3 k c3 rfl rfl HVM.out.1 (Kd.C_below HC3.out (below_then HBr.out HBr.out.size HBm.out)) HBm.out HBm.out.size ((by simp only [List.length_nil]; omega)) ?_
              intro v5 W4 hv5 hB5 hg5
              have HV5 := Aside0.mk hv5
              have HB5 := Aside0.mk hB5
              have HG5 := Aside0.mk hg5
              obtain ⟨A5, c5, e5⟩ := Kd.R_slice hv5
              generalize hn5 : ([] ++ (S.take k)).length = n5 at e5
              have HN5 := Aside0.mk hn5
              clear hn5
              subst e5
              refine hJ3.out _ _ hB5 (fun hW => ?_)
              try simp only [Act.put, List.setIfInBounds_toArray, List.set_cons_zero, List.set_cons_succ]
              clear hv5 hB5 hg5 hW
              rw [List.nil_append] at HV5
              refine wpAnyH_ready (rs := [9]) (by kernel_rfl) (by simp) (AllReadyH.cons rfl (fun J5 hJ5 => ?_) AllReadyH.nil)
              refine wp_oneC (o := ⟨some 61, _, _, _, _, _⟩) (.tmp 60) rfl x HX.out.1 rfl HB5.out HB5.out.size ?_
              intro g9 W9 hc9 hg9 hg9' hB9 hb9
              have HC9 := Aside0.mk (And.intro hc9 (And.intro hg9 hg9'))
              have HB9 := Aside0.mk hB9
              have Hb9 := Aside0.mk hb9
              refine hJ5.out _ _ hB9 (fun hW => ?_)
              try simp only [Act.put, List.setIfInBounds_toArray, List.set_cons_zero, List.set_cons_succ]
              clear hc9 hg9 hg9' hB9 hb9 hW
              refine wpAnyH_ready (rs := [10]) (by kernel_rfl) (by simp) (AllReadyH.cons rfl (fun L1 hL1 => ?_) AllReadyH.nil)
              refine wp_rowsC (o := ⟨some 62, _, _, _, _, _⟩) (.tmp 56) (.tmp 61) rfl _ (S.take k) [x] (some ⟨g9, 0, none⟩) 1 1 rfl rfl (Kd.R_below HV5.out Hb9.out) HC9.out.1 HB9.out HB9.out.size (by rw [List.length_take]; omega) ?_
              intro v10 W10 hv10 hB10 hg10
              have HV10 := Aside0.mk hv10
              have HB10 := Aside0.mk hB10
              have HG10 := Aside0.mk hg10
              obtain ⟨A10, c10, e10⟩ := Kd.R_slice hv10
              generalize hn10 : ((S.take k) ++ [x]).length = n10 at e10
              have HN10 := Aside0.mk hn10
              clear hn10
              subst e10
              refine hL1.out _ _ hB10 (fun hW => ?_)
              try simp only [Act.put, List.setIfInBounds_toArray, List.set_cons_zero, List.set_cons_succ]
              clear hv10 hB10 hg10 hW
              refine wpAnyH_ready (rs := [14]) (by kernel_rfl) (by simp) (AllReadyH.cons rfl (fun L2 hL2 => ?_) AllReadyH.nil)
              refine wp_rowsC (o := ⟨some 66, _, _, _, _, _⟩) (.tmp 62) (.tmp 65) rfl _ (S.take k ++ [x]) (S.drop k) A4 n4 c4 rfl rfl HV10.out (Kd.C_below HC4.out (below_then HBr.out HBr.out.size HB10.out)) HB10.out HB10.out.size (by rw [List.length_append, List.length_take, List.length_singleton]; omega) ?_
              intro v14 W14 hv14 hB14 hg14
              have HV14 := Aside0.mk hv14
              have HB14 := Aside0.mk hB14
              have HG14 := Aside0.mk hg14
              obtain ⟨A14, c14, e14⟩ := Kd.R_slice hv14
              generalize hn14 : ((S.take k ++ [x]) ++ (S.drop k)).length = n14 at e14
              have HN14 := Aside0.mk hn14
              clear hn14
              subst e14
              refine hL2.out _ _ hB14 (fun hW => ?_)
              try simp only [Act.put, List.setIfInBounds_toArray, List.set_cons_zero, List.set_cons_succ]
              clear hv14 hB14 hg14 hW
              refine wpAnyH_take (i := 15) (oi := ⟨some 3, _, _, _, _, _⟩) (v := .slice A14 n14 c14) rfl (by kernel_rfl) (by kernel_rfl) (by kernel_rfl) (fun _ _ _ h => h) (.inl ⟨by rfl, fun W1 h1 => by go_simp⟩) HB14.out ?_
              try simp only [Act.put, List.setIfInBounds_toArray, List.set_cons_zero, List.set_cons_succ]
              refine wpAnyH_done (by kernel_rfl) ?_ _
              have HR9 := Aside0.mk (Kd.R_lower HV14.out (Nat.le_trans HBw.out.size HBr.out.size))
              have HBF := Aside0.mk (below_then HBw.out HBw.out.size (below_then HBr.out HBr.out.size HB14.out))
              clear HVM HBm Hbm HC9 HB9 Hb9 HV5 HB5 HG5 HV10 HB10 HG10 HV14 HB14 HG14 HB0
              go_wp2
              go_roundw
              case rel => exact ⟨i + 1, n14, c14, A14, rfl, by go_num, by omega, ⟨by rw [← HNX.out]; exact HN14.out.symm⟩, ⟨by rw [← HNX.out]; exact HR9.out⟩, HBF⟩
              case measure => simp [intOf]; omega
            · refine wp_oneC (o := ⟨some 61, _, _, _, _, _⟩) (.tmp 60) rfl x HX.out.1 rfl HBm.out HBm.out.size ?_
              intro g9 W9 hc9 hg9 hg9' hB9 hb9
              have HC9 := Aside0.mk (And.intro hc9 (And.intro hg9 hg9'))
              have HB9 := Aside0.mk hB9
              have Hb9 := Aside0.mk hb9
              refine hJ4.out _ _ hB9 (fun hW => ?_)
              try simp only [Act.put, List.setIfInBounds_toArray, List.set_cons_zero, List.set_cons_succ]
              clear hc9 hg9 hg9' hB9 hb9 hW
              refine wpAnyH_ready (rs := [4]) (by kernel_rfl) (by simp) (AllReadyH.cons rfl (fun J6 hJ6 => ?_) AllReadyH.nil)
              refine wp_rowsC (o := ⟨some 56, _, _, _, _, _⟩) (.tmp 52) (.tmp 55) rfl _ [] (S.take k) A3 k c3 rfl rfl (Kd.R_below HVM.out.1 Hb9.out) (Kd.C_below HC3.out (below_then HBr.out HBr.out.size HB9.out)) HB9.out HB9.out.size ((by simp only [List.length_nil]; omega)) ?_
              intro v5 W4 hv5 hB5 hg5
              have HV5 := Aside0.mk hv5
              have HB5 := Aside0.mk hB5
              have HG5 := Aside0.mk hg5
              obtain ⟨A5, c5, e5⟩ := Kd.R_slice hv5
              generalize hn5 : ([] ++ (S.take k)).length = n5 at e5
              have HN5 := Aside0.mk hn5
              clear hn5
              subst e5
              refine hJ6.out _ _ hB5 (fun hW => ?_)
              try simp only [Act.put, List.setIfInBounds_toArray, List.set_cons_zero, List.set_cons_succ]
              clear hv5 hB5 hg5 hW
              rw [List.nil_append] at HV5
              refine wpAnyH_ready (rs := [10]) (by kernel_rfl) (by simp) (AllReadyH.cons rfl (fun L1 hL1 => ?_) AllReadyH.nil)
              refine wp_rowsC (o := ⟨some 62, _, _, _, _, _⟩) (.tmp 56) (.tmp 61) rfl _ (S.take k) [x] (some ⟨g9, 0, none⟩) 1 1 rfl rfl HV5.out (CP_grown HC9.out.1 HG5.out (fun q hq => by have := Kd.R_lt HVM.out.1 q hq; have := HC9.out.2.1; omega) HC9.out.2.2) HB5.out HB5.out.size (by rw [List.length_take]; omega) ?_
              intro v10 W10 hv10 hB10 hg10
              have HV10 := Aside0.mk hv10
              have HB10 := Aside0.mk hB10
              have HG10 := Aside0.mk hg10
              obtain ⟨A10, c10, e10⟩ := Kd.R_slice hv10
              generalize hn10 : ((S.take k) ++ [x]).length = n10 at e10
              have HN10 := Aside0.mk hn10
              clear hn10
              subst e10
              refine hL1.out _ _ hB10 (fun hW => ?_)
              try simp only [Act.put, List.setIfInBounds_toArray, List.set_cons_zero, List.set_cons_succ]
              clear hv10 hB10 hg10 hW
              refine wpAnyH_ready (rs := [14]) (by kernel_rfl) (by simp) (AllReadyH.cons rfl (fun L2 hL2 => ?_) AllReadyH.nil)
              refine wp_rowsC (o := ⟨some 66, _, _, _, _, _⟩) (.tmp 62) (.tmp 65) rfl _ (S.take k ++ [x]) (S.drop k) A4 n4 c4 rfl rfl HV10.out (Kd.C_below HC4.out (below_then HBr.out HBr.out.size HB10.out)) HB10.out HB10.out.size (by rw [List.length_append, List.length_take, List.length_singleton]; omega) ?_
              intro v14 W14 hv14 hB14 hg14
              have HV14 := Aside0.mk hv14
              have HB14 := Aside0.mk hB14
              have HG14 := Aside0.mk hg14
              obtain ⟨A14, c14, e14⟩ := Kd.R_slice hv14
              generalize hn14 : ((S.take k ++ [x]) ++ (S.drop k)).length = n14 at e14
              have HN14 := Aside0.mk hn14
              clear hn14
              subst e14
              refine hL2.out _ _ hB14 (fun hW => ?_)
              try simp only [Act.put, List.setIfInBounds_toArray, List.set_cons_zero, List.set_cons_succ]
              clear hv14 hB14 hg14 hW
              refine wpAnyH_take (i := 15) (oi := ⟨some 3, _, _, _, _, _⟩) (v := .slice A14 n14 c14) rfl (by kernel_rfl) (by kernel_rfl) (by kernel_rfl) (fun _ _ _ h => h) (.inl ⟨by rfl, fun W1 h1 => by go_simp⟩) HB14.out ?_
              try simp only [Act.put, List.setIfInBounds_toArray, List.set_cons_zero, List.set_cons_succ]
              refine wpAnyH_done (by kernel_rfl) ?_ _
              have HR9 := Aside0.mk (Kd.R_lower HV14.out (Nat.le_trans HBw.out.size HBr.out.size))
              have HBF := Aside0.mk (below_then HBw.out HBw.out.size (below_then HBr.out HBr.out.size HB14.out))
              clear HVM HBm Hbm HC9 HB9 Hb9 HV5 HB5 HG5 HV10 HB10 HG10 HV14 HB14 HG14 HB0
              go_wp2
              go_roundw
              case rel => exact ⟨i + 1, n14, c14, A14, rfl, by go_num, by omega, ⟨by rw [← HNX.out]; exact HN14.out.symm⟩, ⟨by rw [← HNX.out]; exact HR9.out⟩, HBF⟩
              case measure => simp [intOf]; omega
          · refine wp_oneC (o := ⟨some 61, _, _, _, _, _⟩) (.tmp 60) rfl x HX.out.1 rfl HB0.out HB0.out.size ?_
            intro g9 W9 hc9 hg9 hg9' hB9 hb9
            have HC9 := Aside0.mk (And.intro hc9 (And.intro hg9 hg9'))
            have HB9 := Aside0.mk hB9
            have Hb9 := Aside0.mk hb9
            refine hJ2.out _ _ hB9 (fun hW => ?_)
            try simp only [Act.put, List.setIfInBounds_toArray, List.set_cons_zero, List.set_cons_succ]
            clear hc9 hg9 hg9' hB9 hb9 hW
            refine wpAnyH_ready (rs := [0]) (by kernel_rfl) (by simp) (AllReadyH.cons rfl (fun J7 hJ7 => ?_) AllReadyH.nil)
            refine wp_mt38 (o := ⟨some 52, _, _, _, _, _⟩) rfl HB9.out HB9.out.size ?_
            rintro vm Wm hvm hom ⟨Am, cm, em⟩ hBm hbm
            subst em
            have HVM := Aside0.mk (And.intro hvm hom)
            have HBm := Aside0.mk hBm
            have Hbm := Aside0.mk hbm
            refine hJ7.out _ _ hBm (fun hW => ?_)
            try simp only [Act.put, List.setIfInBounds_toArray, List.set_cons_zero, List.set_cons_succ]
            clear hvm hom hBm hbm hW
            refine wpAnyH_ready (rs := [4]) (by kernel_rfl) (by simp) (AllReadyH.cons rfl (fun J8 hJ8 => ?_) AllReadyH.nil)
            refine wp_rowsC (o := ⟨some 56, _, _, _, _, _⟩) (.tmp 52) (.tmp 55) rfl _ [] (S.take k) A3 k c3 rfl rfl HVM.out.1 (Kd.C_below HC3.out (below_then HBr.out HBr.out.size HBm.out)) HBm.out HBm.out.size ((by simp only [List.length_nil]; omega)) ?_
            intro v5 W4 hv5 hB5 hg5
            have HV5 := Aside0.mk hv5
            have HB5 := Aside0.mk hB5
            have HG5 := Aside0.mk hg5
            obtain ⟨A5, c5, e5⟩ := Kd.R_slice hv5
            generalize hn5 : ([] ++ (S.take k)).length = n5 at e5
            have HN5 := Aside0.mk hn5
            clear hn5
            subst e5
            refine hJ8.out _ _ hB5 (fun hW => ?_)
            try simp only [Act.put, List.setIfInBounds_toArray, List.set_cons_zero, List.set_cons_succ]
            clear hv5 hB5 hg5 hW
            rw [List.nil_append] at HV5
            refine wpAnyH_ready (rs := [10]) (by kernel_rfl) (by simp) (AllReadyH.cons rfl (fun L1 hL1 => ?_) AllReadyH.nil)
            refine wp_rowsC (o := ⟨some 62, _, _, _, _, _⟩) (.tmp 56) (.tmp 61) rfl _ (S.take k) [x] (some ⟨g9, 0, none⟩) 1 1 rfl rfl HV5.out (CP_grown (Kd.C_below HC9.out.1 Hbm.out) HG5.out (fun q hq => by have := HVM.out.2 q hq; have := HC9.out.2.2; omega) (Nat.lt_of_lt_of_le HC9.out.2.2 Hbm.out.size)) HB5.out HB5.out.size (by rw [List.length_take]; omega) ?_
            intro v10 W10 hv10 hB10 hg10
            have HV10 := Aside0.mk hv10
            have HB10 := Aside0.mk hB10
            have HG10 := Aside0.mk hg10
            obtain ⟨A10, c10, e10⟩ := Kd.R_slice hv10
            generalize hn10 : ((S.take k) ++ [x]).length = n10 at e10
            have HN10 := Aside0.mk hn10
            clear hn10
            subst e10
            refine hL1.out _ _ hB10 (fun hW => ?_)
            try simp only [Act.put, List.setIfInBounds_toArray, List.set_cons_zero, List.set_cons_succ]
            clear hv10 hB10 hg10 hW
            refine wpAnyH_ready (rs := [14]) (by kernel_rfl) (by simp) (AllReadyH.cons rfl (fun L2 hL2 => ?_) AllReadyH.nil)
            refine wp_rowsC (o := ⟨some 66, _, _, _, _, _⟩) (.tmp 62) (.tmp 65) rfl _ (S.take k ++ [x]) (S.drop k) A4 n4 c4 rfl rfl HV10.out (Kd.C_below HC4.out (below_then HBr.out HBr.out.size HB10.out)) HB10.out HB10.out.size (by rw [List.length_append, List.length_take, List.length_singleton]; omega) ?_
            intro v14 W14 hv14 hB14 hg14
            have HV14 := Aside0.mk hv14
            have HB14 := Aside0.mk hB14
            have HG14 := Aside0.mk hg14
            obtain ⟨A14, c14, e14⟩ := Kd.R_slice hv14
            generalize hn14 : ((S.take k ++ [x]) ++ (S.drop k)).length = n14 at e14
            have HN14 := Aside0.mk hn14
            clear hn14
            subst e14
            refine hL2.out _ _ hB14 (fun hW => ?_)
            try simp only [Act.put, List.setIfInBounds_toArray, List.set_cons_zero, List.set_cons_succ]
            clear hv14 hB14 hg14 hW
            refine wpAnyH_take (i := 15) (oi := ⟨some 3, _, _, _, _, _⟩) (v := .slice A14 n14 c14) rfl (by kernel_rfl) (by kernel_rfl) (by kernel_rfl) (fun _ _ _ h => h) (.inl ⟨by rfl, fun W1 h1 => by go_simp⟩) HB14.out ?_
            try simp only [Act.put, List.setIfInBounds_toArray, List.set_cons_zero, List.set_cons_succ]
            refine wpAnyH_done (by kernel_rfl) ?_ _
            have HR9 := Aside0.mk (Kd.R_lower HV14.out (Nat.le_trans HBw.out.size HBr.out.size))
            have HBF := Aside0.mk (below_then HBw.out HBw.out.size (below_then HBr.out HBr.out.size HB14.out))
            clear HVM HBm Hbm HC9 HB9 Hb9 HV5 HB5 HG5 HV10 HB10 HG10 HV14 HB14 HG14 HB0
            go_wp2
            go_roundw
            case rel => exact ⟨i + 1, n14, c14, A14, rfl, by go_num, by omega, ⟨by rw [← HNX.out]; exact HN14.out.symm⟩, ⟨by rw [← HNX.out]; exact HR9.out⟩, HBF⟩
            case measure => simp [intOf]; omega
    · have HF := Aside0.mk (show uniq keyN (l.take i) = uniq keyN l by rw [List.take_of_length_le (by have := HL.out; omega)])
      go_wp2
      rw [HP.out]
      exact ⟨_, rfl, by rw [← HF.out]; exact HO.out, HBw.out⟩
end Go.Proofs.Ytfefpbnhpncmlaa.DebB
namespace Go.Proofs.Ytfefpbnhpncmlaa.DebC
open Go.RowKit Go.Proofs.Ytfefpbnhpncmlaa.EntL Go.Proofs.Ytfefpbnhpncmlaa.EntB Go.Proofs.Ytfefpbnhpncmlaa.EntC Go.Proofs.Ytfefpbnhpncmlaa.EntD Go.Proofs.Ytfefpbnhpncmlaa.EntE Go.Proofs.Ytfefpbnhpncmlaa.EntF Go.Proofs.Ytfefpbnhpncmlaa.CatR Go.Proofs.Ytfefpbnhpncmlaa.CatT Go.Proofs.Ytfefpbnhpncmlaa.CatU Go.Proofs.Ytfefpbnhpncmlaa.CatK Go.Proofs.Ytfefpbnhpncmlaa.CatS Go.Proofs.Ytfefpbnhpncmlaa.CatY Go.Proofs.Ytfefpbnhpncmlaa.RefG Go.Proofs.Ytfefpbnhpncmlaa.PtrB Go.Proofs.Ytfefpbnhpncmlaa.PtrG Go.Proofs.Ytfefpbnhpncmlaa.Agg Go.Proofs.Ytfefpbnhpncmlaa.B8 Go.Proofs.Ytfefpbnhpncmlaa.CodL Go.Proofs.Ytfefpbnhpncmlaa.CodA Go.Proofs.Ytfefpbnhpncmlaa.CodB Go.Proofs.Ytfefpbnhpncmlaa.CatL Go.Proofs.Ytfefpbnhpncmlaa.PtrA Go.Proofs.Ytfefpbnhpncmlaa.PtrE Go.Proofs.Ytfefpbnhpncmlaa.PtrF Go.Proofs.Ytfefpbnhpncmlaa.PBaseSigns Go.Proofs.YtfefpbnhpncmlaaW.PrintWords Go.Proofs.YtfefpbnhpncmlaaW.PrintLast Go.Proofs.YtfefpbnhpncmlaaW.PrintMore Go.Proofs.Ytfefpbnhpncmlaa.EntG Go.Proofs.Ytfefpbnhpncmlaa.StmA Go.Proofs.Ytfefpbnhpncmlaa.StmB Go.Proofs.Ytfefpbnhpncmlaa.StmC Go.Proofs.Ytfefpbnhpncmlaa.CrcC Go.Proofs.Ytfefpbnhpncmlaa.StmD Go.Proofs.Ytfefpbnhpncmlaa.StmE Go.Proofs.Ytfefpbnhpncmlaa.CrcL Go.Proofs.Ytfefpbnhpncmlaa.StmL Go.Proofs.Ytfefpbnhpncmlaa.StmF Go.Proofs.Ytfefpbnhpncmlaa.StmG Go.Proofs.Ytfefpbnhpncmlaa.StmH Go.Proofs.Ytfefpbnhpncmlaa.StmI Go.Proofs.Ytfefpbnhpncmlaa.StmJ Go.Proofs.Ytfefpbnhpncmlaa.StmK Go.Proofs.Ytfefpbnhpncmlaa.StmM Go.Proofs.Ytfefpbnhpncmlaa.StmN Go.Proofs.Ytfefpbnhpncmlaa.StmO Go.Proofs.Ytfefpbnhpncmlaa.StmP Go.Proofs.Ytfefpbnhpncmlaa.StmP Go.Proofs.Ytfefpbnhpncmlaa.DeaA Go.Proofs.Ytfefpbnhpncmlaa.DeaB Go.Proofs.Ytfefpbnhpncmlaa.DeaN Go.Proofs.Ytfefpbnhpncmlaa.DeaC Go.Proofs.Ytfefpbnhpncmlaa.DeaR Go.Proofs.Ytfefpbnhpncmlaa.DeaL Go.Proofs.Ytfefpbnhpncmlaa.DeaS Go.Proofs.Ytfefpbnhpncmlaa.DeaT Go.Proofs.Ytfefpbnhpncmlaa.DeaU Go.Proofs.Ytfefpbnhpncmlaa.DeaV Go.Proofs.Ytfefpbnhpncmlaa.DeaW Go.Proofs.Ytfefpbnhpncmlaa.DeaX Go.Proofs.Ytfefpbnhpncmlaa.DeaY Go.Proofs.Ytfefpbnhpncmlaa.DebA Go.Proofs.Ytfefpbnhpncmlaa.CatW Go.Proofs.Ytfefpbnhpncmlaa.CatV
set_option linter.unusedVariables false
set_option linter.unusedSimpArgs false

def eld (e : Int) (l : List Ptr) : List Ptr := l.filter fun p => decide (p.birth ≤ e)
def yng (e : Int) (l : List Ptr) : List Ptr := l.filter fun p => !decide (p.birth ≤ e)
theorem eld_take (e : Int) (l : List Ptr) (i : Nat) (p : Ptr) (h : l[i]? = some p) : eld e (l.take (i + 1)) = eld e (l.take i) ++ (if p.birth ≤ e then [p] else []) := by
  unfold eld
  rw [List.take_add_one, h, List.filter_append]
  by_cases hp : p.birth ≤ e <;> simp [hp]
theorem yng_take (e : Int) (l : List Ptr) (i : Nat) (p : Ptr) (h : l[i]? = some p) : yng e (l.take (i + 1)) = yng e (l.take i) ++ (if p.birth ≤ e then [] else [p]) := by
  unfold yng
  rw [List.take_add_one, h, List.filter_append]
  by_cases hp : p.birth ≤ e <;> simp [hp]
theorem eld_len (e : Int) (l : List Ptr) : (eld e l).length ≤ l.length := List.length_filter_le _ _
theorem yng_len (e : Int) (l : List Ptr) : (yng e l).length ≤ l.length := List.length_filter_le _ _
/-- Two rows of blocks are told. -/
def TellsPP (w : World) (l m : List Ptr) (e : Ending) (w' : World) : Prop := ∃ v u, e = .returned (.tuple #[v, u]) ∧ Kd.R kP 56 w' w.heap.size (fun _ => True) v l ∧ Kd.R kP 56 w' w.heap.size (fun _ => True) u m ∧ Below w.heap.size w w'
/-- Where two rows stand, apart from each other. -/
structure TR (w : World) (v u : Value) (l m : List Ptr) (W : World) : Prop where
  rv : Kd.R kP 56 W w.heap.size (fun k => some k ≠ u.ownBlock) v l
  ru : Kd.R kP 56 W w.heap.size (fun k => some k ≠ v.ownBlock) u m
  below : Below w.heap.size w W
theorem TR.on {w W W1 : World} {v u : Value} {l m : List Ptr} (h : TR w v u l m W) (hb : Below W.heap.size W W1) : TR w v u l m W1 :=
  ⟨Kd.R_below h.rv hb, Kd.R_below h.ru hb, below_then h.below h.below.size hb⟩
theorem TR.swap {w W : World} {v u : Value} {l m : List Ptr} (h : TR w v u l m W) : TR w u v m l W := ⟨h.ru, h.rv, h.below⟩
section
variable {ops : Array Oper} {o : Oper} {rest : List Oper} {a : Act} {Q : Exit → Act → World → Prop}
theorem append_T {w W W' : World} (hgd : o.guard = none) (s x : Operand) (ho : o.op = .call { callee := .builtin .append, args := #[s, x], argTypes := #[38, 38] })
    (v u : Value) (xs m : List Ptr) (p : Ptr) (hk : Ok p) (hs : a.eval s = v) (hW : W' = W.alloc (.cells (encP p) 56)) (hx : a.eval x = .slice (some ⟨W.heap.size, 0, none⟩) 1 1)
    (H : TR w v u xs m W) (hl : xs.length ≤ 100000)
    (h : ∀ A1 n1 c1 w1, TR w (.slice A1 n1 c1) u (xs ++ [p]) m w1 → wpList Try.prog ops Q rest (a.put o.dst (.slice A1 n1 c1)) w1) :
    wpList Try.prog ops Q (o :: rest) a W' := by
  subst hW
  have hlt := Kd.R_lt H.ru
  have := Kd.R_append (P := Try.prog) (Q := Q) (rest := rest) (ops := ops) (a := a) (o := o) kP (w0 := w) w.heap.size hgd s x 38 56 (.agg Z56) 64 ho Try.underlying38 info56 rfl (by decide) (by decide) v xs p (encP p).toList (fun k => some k ≠ u.ownBlock) (fun _ => False) hs hx ⟨rfl, hk⟩ (fun _ h => h.elim)
    (fun k hk he => by have := hlt k he.symm; omega) H.rv H.below H.below.size (by omega) (fun v1 w1 h1 h2 h3 h4 => by
      obtain ⟨A1, c1, e1⟩ := Kd.R_slice h1
      generalize (xs ++ [p]).length = n1 at e1
      subst e1
      have hu : Kd.R kP 56 w1 w.heap.size (fun k => some k ≠ v.ownBlock) u m := Kd.R_grown H.ru h3 (fun k hk => hk)
      exact h A1 n1 c1 w1 ⟨h1, Kd.R_reok rfl hu (fun k hk he => h1.1 k he.symm hk.symm), h2⟩)
  simp only [Array.toArray_toList] at this
  exact this
end
set_option maxRecDepth 100000 in
theorem is_calls (p : Ptr) (hp : Ok p) (e : Int) (ge : Nat) (W : World) (hge : W.heap[ge]? = some (.cells #[.int .i64 e] 3 (0, 0))) :
    Calls Try.prog 78 #[.agg (encP p), .pointer (some ⟨ge, 0, none⟩)] W fun e' W' => e' = .returned (.bool (decide (p.birth ≤ e))) ∧ Below W.heap.size W W' := by
  have HB := Aside0.mk (below_alloc (Below.refl W.heap.size W) (.cells (encP p) 56))
  have e1 : (encP p)[1]? = some (.int .i64 p.birth) := by simp [encP]
  have x1 : (W.alloc (.cells (encP p) 56)).cell? ⟨W.heap.size, 1, none⟩ = some (.int .i64 p.birth) := by rw [cell_of_row _ _ 1 _ 56 (0, 0) (blk_new W (.cells (encP p) 56))]; exact e1
  have x0 : (W.alloc (.cells (encP p) 56)).cell? ⟨ge, 0, none⟩ = some (.int .i64 e) := by rw [cell_of_row _ _ 0 _ 3 (0, 0) (blk_alloc hge _)]; rfl
  obtain ⟨P, hP⟩ : ∃ P : Ending → World → Prop, P = (fun e' W' => e' = .returned (.bool (decide (p.birth ≤ e))) ∧ Below W.heap.size W W') := ⟨_, rfl⟩
  rw [← hP]
  have HP := Aside0.mk hP
  clear hP e1 hge
  go_enter Try.func78, Try.ntmps78
  go_wp2
  rw [HP.out]
  exact ⟨rfl, HB.out⟩
theorem blk_on {W W1 : World} {g : Nat} {o : Obj} (h : W.heap[g]? = some o) (hb : Below W.heap.size W W1) : W1.heap[g]? = some o := by rw [hb.block g (Array.getElem?_eq_some_iff.1 h).1]; exact h
set_option maxRecDepth 100000 in
set_option maxHeartbeats 2000000 in
theorem kept_calls (A : Option Addr) (c n : Nat) (l : List Ptr) (e : Int) (ge : Nat) (W : World) (hr : Kd.C kP W A n l) (hnc : n ≤ c) (hm : n ≤ 1000) (hge : W.heap[ge]? = some (.cells #[.int .i64 e] 3 (0, 0))) :
    Calls Try.prog 77 #[.slice A n c, .func (.func 78) #[] #[.pointer (some ⟨ge, 0, none⟩)]] W (TellsPP W (eld e l) (yng e l)) := by
  have HR := Aside0.mk hr
  have HL := Aside0.mk hr.1
  have HGE := Aside0.mk hge
  obtain ⟨P, hP⟩ : ∃ P : Ending → World → Prop, P = TellsPP W (eld e l) (yng e l) := ⟨_, rfl⟩
  rw [← hP]
  have HP := Aside0.mk hP
  clear hP hr hge
  obtain ⟨wo, hwo⟩ : ∃ wo, wo = W := ⟨W, rfl⟩
  subst hwo
  go_enter Try.func77, Try.ntmps77
  go_wp2
  go_loopw [4, 5, 10] (fun v4 v5 v10 wr => ∃ (i n4 c4 n5 c5 : Nat) (A4 A5 : Option Addr), v4 = .slice A4 n4 c4 ∧ v5 = .slice A5 n5 c5 ∧ v10 = .int .i64 (i : Int) ∧ i ≤ n ∧ Aside0 (TR wo (.slice A4 n4 c4) (.slice A5 n5 c5) (eld e (l.take i)) (yng e (l.take i)) wr)) (fun _ _ v _ => n - (intOf v).toNat)
  case atStart => exact ⟨0, 0, 0, 0, 0, none, none, rfl, rfl, rfl, Nat.zero_le _, ⟨Kd.R_nil _ _ _ _ _, Kd.R_nil _ _ _ _ _, Below.refl _ _⟩⟩
  case round =>
    obtain ⟨i, n4, c4, n5, c5, A4, A5, rfl, rfl, rfl, hi, HT⟩ := hrel
    by_cases hlt : i < n
    · obtain ⟨b0, off0, rfl, hb0, hx0⟩ := CP_at HR.out (by omega)
      obtain ⟨hok, hrg⟩ := hx0 i hlt
      have hxw := rangeAt_below hrg HT.out.below hb0
      have hxi : l[i]? = some (l.getD i zeroP) := by rw [List.getD_eq_getElem?_getD, List.getElem?_eq_getElem (by have := HL.out; omega)]; rfl
      obtain ⟨x, hx⟩ : ∃ x, x = l.getD i zeroP := ⟨_, rfl⟩
      rw [← hx] at hok hxw hxi
      have HX := Aside0.mk (And.intro hok hxw)
      have HE := Aside0.mk (eld_take e l i x hxi)
      have HY := Aside0.mk (yng_take e l i x hxi)
      have HEL := Aside0.mk (Nat.le_trans (eld_len e (l.take i)) (List.length_take_le _ _))
      have HYL := Aside0.mk (Nat.le_trans (yng_len e (l.take i)) (List.length_take_le _ _))
      have HT1 := Aside0.mk (HT.out.on (below_alloc (Below.refl _ _) (.cells (encP x) 56)))
      have G1 := Aside0.mk (blk_new wr (.cells (encP x) 56))
      have HG := Aside0.mk (blk_alloc (blk_on HGE.out HT.out.below) (.cells (encP x) 56))
      clear hok hrg hx0 hb0 hxw hxi hx
      go_wp2_with (first | (refine load_P rfl (.tmp 12) rfl b0 (off0 + i * 36) x rfl HX.out.1 HX.out.2 ?_) | (refine store_P rfl (.tmp 7) (.tmp 13) rfl x rfl rfl HX.out.1 ?_) | (refine load_P1 rfl (.tmp 7) rfl wr.heap.size x rfl HX.out.1 G1.out ?_))
      generalize hW1 : wr.alloc (.cells (encP x) 56) = W1 at *
      clear hW1
      refine (is_calls x HX.out.1 e ge W1 HG.out).mono ?_
      rintro e' W2 ⟨he', hb2⟩
      have HT2 := Aside0.mk (HT1.out.on hb2)
      have G2 := Aside0.mk (blk_on G1.out hb2)
      clear hb2
      by_cases hbe : x.birth ≤ e
      · rw [decide_eq_true hbe] at he'
        subst he'
        have HE2 := Aside0.mk (show eld e (l.take (i + 1)) = eld e (l.take i) ++ [x] by rw [HE.out, if_pos hbe])
        have HY2 := Aside0.mk (show yng e (l.take (i + 1)) = yng e (l.take i) by rw [HY.out, if_pos hbe, List.append_nil])
        clear hbe HE HY
        go_wp2_with (first | (refine load_P1 rfl (.tmp 7) rfl wr.heap.size x rfl HX.out.1 G2.out ?_) | (refine one_P rfl (.tmp 18) rfl x HX.out.1 rfl ?_) | (at_builtin; refine append_T rfl (.tmp 17) (.tmp 19) rfl (.slice A4 n4 c4) (.slice A5 n5 c5) (eld e (l.take i)) (yng e (l.take i)) x HX.out.1 rfl rfl rfl HT2.out (by have := HEL.out; omega) ?_; intro A7 n7 c7 w7 h7; have H7 := Aside0.mk h7; clear h7))
        go_roundw
        case rel => exact ⟨i + 1, n7, c7, n5, c5, A7, A5, rfl, rfl, by go_num, by omega, ⟨by rw [HE2.out, HY2.out]; exact H7.out⟩⟩
        case measure => simp [intOf]; omega
      · rw [decide_eq_false hbe] at he'
        subst he'
        have HE2 := Aside0.mk (show eld e (l.take (i + 1)) = eld e (l.take i) by rw [HE.out, if_neg hbe, List.append_nil])
        have HY2 := Aside0.mk (show yng e (l.take (i + 1)) = yng e (l.take i) ++ [x] by rw [HY.out, if_neg hbe])
        clear hbe HE HY
        go_wp2_with (first | (refine load_P1 rfl (.tmp 7) rfl wr.heap.size x rfl HX.out.1 G2.out ?_) | (refine one_P rfl (.tmp 22) rfl x HX.out.1 rfl ?_) | (at_builtin; refine append_T rfl (.tmp 21) (.tmp 23) rfl (.slice A5 n5 c5) (.slice A4 n4 c4) (yng e (l.take i)) (eld e (l.take i)) x HX.out.1 rfl rfl rfl HT2.out.swap (by have := HYL.out; omega) ?_; intro A7 n7 c7 w7 h7; have H7 := Aside0.mk h7; clear h7))
        go_roundw
        case rel => exact ⟨i + 1, n4, c4, n7, c7, A4, A7, rfl, rfl, by go_num, by omega, ⟨by rw [HE2.out, HY2.out]; exact H7.out.swap⟩⟩
        case measure => simp [intOf]; omega
    · have HF := Aside0.mk (show l.take i = l by rw [List.take_of_length_le (by have := HL.out; omega)])
      go_wp2
      rw [HP.out]
      have h := HT.out
      rw [HF.out] at h
      exact ⟨_, _, rfl, Kd.R_mono h.rv (fun _ _ => trivial), Kd.R_mono h.ru (fun _ _ => trivial), h.below⟩
set_option maxRecDepth 100000 in
theorem split_calls (A : Option Addr) (c n : Nat) (l : List Ptr) (e : Int) (w : World) (hr : Kd.C kP w A n l) (hnc : n ≤ c) (hm : n ≤ 1000) : Calls Try.prog 36 #[.slice A n c, .int .i64 e] w (TellsPP w (eld e l) (yng e l)) := by
  have HB := Aside0.mk (below_alloc (Below.refl w.heap.size w) (.cells #[.int .i64 e] 3))
  have HR := Aside0.mk (Kd.C_below hr HB.out)
  have HG := Aside0.mk (blk_new w (.cells #[.int .i64 e] 3))
  obtain ⟨P, hP⟩ : ∃ P : Ending → World → Prop, P = TellsPP w (eld e l) (yng e l) := ⟨_, rfl⟩
  rw [← hP]
  have HP := Aside0.mk hP
  clear hP hr
  go_enter Try.func36, Try.ntmps36
  go_wp2_with fail
  generalize hW1 : w.alloc (.cells #[.int .i64 e] 3) = W1 at *
  clear hW1
  refine (kept_calls A c n l e w.heap.size W1 HR.out hnc hm HG.out).mono ?_
  rintro e' W2 ⟨v, u, rfl, h1, h2, hb⟩
  obtain ⟨A1, c1, e1⟩ := Kd.R_slice h1
  obtain ⟨A2, c2, e2⟩ := Kd.R_slice h2
  generalize (eld e l).length = n1 at e1
  generalize (yng e l).length = n2 at e2
  subst e1 e2
  have H := Aside0.mk (show Kd.R kP 56 W2 w.heap.size (fun _ => True) (.slice A1 n1 c1) (eld e l) ∧ Kd.R kP 56 W2 w.heap.size (fun _ => True) (.slice A2 n2 c2) (yng e l) ∧ Below w.heap.size w W2 from ⟨Kd.R_lower h1 HB.out.size, Kd.R_lower h2 HB.out.size, below_then HB.out HB.out.size hb⟩)
  clear h1 h2 hb
  go_wp2
  rw [HP.out]
  exact ⟨_, _, rfl, H.out⟩
end Go.Proofs.Ytfefpbnhpncmlaa.DebC
namespace Go.Proofs.Ytfefpbnhpncmlaa.DebD
open Go.RowKit Go.Proofs.Ytfefpbnhpncmlaa.EntL Go.Proofs.Ytfefpbnhpncmlaa.EntB Go.Proofs.Ytfefpbnhpncmlaa.EntC Go.Proofs.Ytfefpbnhpncmlaa.EntD Go.Proofs.Ytfefpbnhpncmlaa.EntE Go.Proofs.Ytfefpbnhpncmlaa.EntF Go.Proofs.Ytfefpbnhpncmlaa.CatR Go.Proofs.Ytfefpbnhpncmlaa.CatT Go.Proofs.Ytfefpbnhpncmlaa.CatU Go.Proofs.Ytfefpbnhpncmlaa.CatK Go.Proofs.Ytfefpbnhpncmlaa.CatS Go.Proofs.Ytfefpbnhpncmlaa.CatY Go.Proofs.Ytfefpbnhpncmlaa.RefG Go.Proofs.Ytfefpbnhpncmlaa.PtrB Go.Proofs.Ytfefpbnhpncmlaa.PtrG Go.Proofs.Ytfefpbnhpncmlaa.Agg Go.Proofs.Ytfefpbnhpncmlaa.B8 Go.Proofs.Ytfefpbnhpncmlaa.CodL Go.Proofs.Ytfefpbnhpncmlaa.CodA Go.Proofs.Ytfefpbnhpncmlaa.CodB Go.Proofs.Ytfefpbnhpncmlaa.CatL Go.Proofs.Ytfefpbnhpncmlaa.PtrA Go.Proofs.Ytfefpbnhpncmlaa.PtrE Go.Proofs.Ytfefpbnhpncmlaa.PtrF Go.Proofs.Ytfefpbnhpncmlaa.PBaseSigns Go.Proofs.YtfefpbnhpncmlaaW.PrintWords Go.Proofs.YtfefpbnhpncmlaaW.PrintLast Go.Proofs.YtfefpbnhpncmlaaW.PrintMore Go.Proofs.Ytfefpbnhpncmlaa.EntG Go.Proofs.Ytfefpbnhpncmlaa.StmA Go.Proofs.Ytfefpbnhpncmlaa.StmB Go.Proofs.Ytfefpbnhpncmlaa.StmC Go.Proofs.Ytfefpbnhpncmlaa.CrcC Go.Proofs.Ytfefpbnhpncmlaa.StmD Go.Proofs.Ytfefpbnhpncmlaa.StmE Go.Proofs.Ytfefpbnhpncmlaa.CrcL Go.Proofs.Ytfefpbnhpncmlaa.StmL Go.Proofs.Ytfefpbnhpncmlaa.StmF Go.Proofs.Ytfefpbnhpncmlaa.StmG Go.Proofs.Ytfefpbnhpncmlaa.StmH Go.Proofs.Ytfefpbnhpncmlaa.StmI Go.Proofs.Ytfefpbnhpncmlaa.StmJ Go.Proofs.Ytfefpbnhpncmlaa.StmK Go.Proofs.Ytfefpbnhpncmlaa.StmM Go.Proofs.Ytfefpbnhpncmlaa.StmN Go.Proofs.Ytfefpbnhpncmlaa.StmO Go.Proofs.Ytfefpbnhpncmlaa.StmP Go.Proofs.Ytfefpbnhpncmlaa.StmP Go.Proofs.Ytfefpbnhpncmlaa.DeaA Go.Proofs.Ytfefpbnhpncmlaa.DeaB Go.Proofs.Ytfefpbnhpncmlaa.DeaN Go.Proofs.Ytfefpbnhpncmlaa.DeaC Go.Proofs.Ytfefpbnhpncmlaa.DeaR Go.Proofs.Ytfefpbnhpncmlaa.DeaL Go.Proofs.Ytfefpbnhpncmlaa.DeaS Go.Proofs.Ytfefpbnhpncmlaa.DeaT Go.Proofs.Ytfefpbnhpncmlaa.DeaU Go.Proofs.Ytfefpbnhpncmlaa.DeaV Go.Proofs.Ytfefpbnhpncmlaa.DeaW Go.Proofs.Ytfefpbnhpncmlaa.DeaX Go.Proofs.Ytfefpbnhpncmlaa.DeaY Go.Proofs.Ytfefpbnhpncmlaa.DebA Go.Proofs.Ytfefpbnhpncmlaa.CatW Go.Proofs.Ytfefpbnhpncmlaa.CatV Go.Proofs.Ytfefpbnhpncmlaa.DebC
set_option linter.unusedVariables false
set_option linter.unusedSimpArgs false

theorem birth_at {W : World} {b off : Nat} {p : Ptr} (h : W.rangeAt b off (encP p).toList) : W.cell? ⟨b, off + 1, none⟩ = some (.int .i64 p.birth) := h 1 _ (by rw [Array.getElem?_toList]; simp [encP])
set_option maxRecDepth 100000 in
set_option maxHeartbeats 2000000 in
theorem rsplit_calls (A : Option Addr) (c n : Nat) (l : List Ptr) (e : Int) (wo : World) (hr : Kd.C kP wo A n l) (hnc : n ≤ c) (hm : n ≤ 1000) :
    Calls Try.prog 37 #[.slice A n c, .int .i64 e] wo (TellsPP wo (eld e l) (yng e l)) := by
  have HR := Aside0.mk hr
  have HL := Aside0.mk hr.1
  obtain ⟨P, hP⟩ : ∃ P : Ending → World → Prop, P = TellsPP wo (eld e l) (yng e l) := ⟨_, rfl⟩
  rw [← hP]
  have HP := Aside0.mk hP
  clear hP hr
  go_enter Try.func37, Try.ntmps37
  go_wp2
  go_loopw [6, 7, 8] (fun v4 v5 v10 wr => ∃ (i n4 c4 n5 c5 : Nat) (A4 A5 : Option Addr), v4 = .slice A4 n4 c4 ∧ v5 = .slice A5 n5 c5 ∧ v10 = .int .i64 (i : Int) ∧ i ≤ n ∧ Aside0 (TR wo (.slice A4 n4 c4) (.slice A5 n5 c5) (eld e (l.take i)) (yng e (l.take i)) wr)) (fun _ _ v _ => n - (intOf v).toNat)
  case atStart => exact ⟨0, 0, 0, 0, 0, none, none, rfl, rfl, rfl, Nat.zero_le _, ⟨Kd.R_nil _ _ _ _ _, Kd.R_nil _ _ _ _ _, Below.refl _ _⟩⟩
  case round =>
    obtain ⟨i, n4, c4, n5, c5, A4, A5, rfl, rfl, rfl, hi, HT⟩ := hrel
    by_cases hlt : i < n
    · obtain ⟨b0, off0, rfl, hb0, hx0⟩ := CP_at HR.out (by omega)
      obtain ⟨hok, hrg⟩ := hx0 i hlt
      have hxw := rangeAt_below hrg HT.out.below hb0
      have hxi : l[i]? = some (l.getD i zeroP) := by rw [List.getD_eq_getElem?_getD, List.getElem?_eq_getElem (by have := HL.out; omega)]; rfl
      obtain ⟨x, hx⟩ : ∃ x, x = l.getD i zeroP := ⟨_, rfl⟩
      rw [← hx] at hok hxw hxi
      have HX := Aside0.mk (And.intro hok hxw)
      have HE := Aside0.mk (eld_take e l i x hxi)
      have HY := Aside0.mk (yng_take e l i x hxi)
      have HEL := Aside0.mk (Nat.le_trans (eld_len e (l.take i)) (List.length_take_le _ _))
      have HYL := Aside0.mk (Nat.le_trans (yng_len e (l.take i)) (List.length_take_le _ _))
      have x1 := birth_at hxw
      clear hok hrg hx0 hb0 hxw hxi hx
      by_cases hbe : x.birth ≤ e
      · have hd : decide (x.birth ≤ e) = true := decide_eq_true hbe
        have HE2 := Aside0.mk (show eld e (l.take (i + 1)) = eld e (l.take i) ++ [x] by rw [HE.out, if_pos hbe])
        have HY2 := Aside0.mk (show yng e (l.take (i + 1)) = yng e (l.take i) by rw [HY.out, if_pos hbe, List.append_nil])
        clear HE HY
        go_wp2_with (first | (refine load_P rfl (.tmp 25) rfl b0 (off0 + i * 36) x rfl HX.out.1 HX.out.2 ?_) | (refine one_P rfl (.tmp 26) rfl x HX.out.1 rfl ?_) | (at_builtin; refine append_T rfl (.tmp 22) (.tmp 27) rfl (.slice A4 n4 c4) (.slice A5 n5 c5) (eld e (l.take i)) (yng e (l.take i)) x HX.out.1 rfl rfl rfl HT.out (by have := HEL.out; omega) ?_; intro A7 n7 c7 w7 h7; have H7 := Aside0.mk h7; clear h7))
        go_roundw
        case rel => exact ⟨i + 1, n7, c7, n5, c5, A7, A5, rfl, rfl, by go_num, by omega, ⟨by rw [HE2.out, HY2.out]; exact H7.out⟩⟩
        case measure => simp [intOf]; omega
      · have hd : decide (x.birth ≤ e) = false := decide_eq_false hbe
        have HE2 := Aside0.mk (show eld e (l.take (i + 1)) = eld e (l.take i) by rw [HE.out, if_neg hbe, List.append_nil])
        have HY2 := Aside0.mk (show yng e (l.take (i + 1)) = yng e (l.take i) ++ [x] by rw [HY.out, if_neg hbe])
        clear HE HY
        go_wp2_with (first | (refine load_P rfl (.tmp 32) rfl b0 (off0 + i * 36) x rfl HX.out.1 HX.out.2 ?_) | (refine one_P rfl (.tmp 33) rfl x HX.out.1 rfl ?_) | (at_builtin; refine append_T rfl (.tmp 29) (.tmp 34) rfl (.slice A5 n5 c5) (.slice A4 n4 c4) (yng e (l.take i)) (eld e (l.take i)) x HX.out.1 rfl rfl rfl HT.out.swap (by have := HYL.out; omega) ?_; intro A7 n7 c7 w7 h7; have H7 := Aside0.mk h7; clear h7))
        go_roundw
        case rel => exact ⟨i + 1, n4, c4, n7, c7, A4, A7, rfl, rfl, by go_num, by omega, ⟨by rw [HE2.out, HY2.out]; exact H7.out.swap⟩⟩
        case measure => simp [intOf]; omega
    · have HF := Aside0.mk (show l.take i = l by rw [List.take_of_length_le (by have := HL.out; omega)])
      go_wp2
      rw [HP.out]
      have h := HT.out
      rw [HF.out] at h
      exact ⟨_, _, rfl, Kd.R_mono h.rv (fun _ _ => trivial), Kd.R_mono h.ru (fun _ _ => trivial), h.below⟩
/-- How many sectors they take. -/
def sumS (l : List Ptr) : Int := (l.map fun p => sect p.len).sum
theorem sumS_take (l : List Ptr) (i : Nat) (p : Ptr) (h : l[i]? = some p) : sumS (l.take (i + 1)) = sumS (l.take i) + sect p.len := by
  unfold sumS
  rw [List.take_add_one, h, List.map_append, List.sum_append]
  simp
theorem i64_sum {s q : Int} (h1 : 0 ≤ s) (h2 : s ≤ 128000) (h3 : 0 ≤ q) (h4 : q ≤ 128) : IntKind.i64.wrap (s + q) = s + q := by rw [IntKind.wrap_i64]; omega
set_option maxRecDepth 100000 in
set_option maxHeartbeats 2000000 in
theorem sectors43_calls (A : Option Addr) (c n : Nat) (l : List Ptr) (wo : World) (hr : Kd.C kP wo A n l) (hnc : n ≤ c) (hm : n ≤ 1000) :
    Calls Try.prog 43 #[.slice A n c] wo fun e' w' => e' = .returned (.int .i64 (sumS l)) ∧ Below wo.heap.size wo w' := by
  have HR := Aside0.mk hr
  have HL := Aside0.mk hr.1
  obtain ⟨P, hP⟩ : ∃ P : Ending → World → Prop, P = (fun e' w' => e' = .returned (.int .i64 (sumS l)) ∧ Below wo.heap.size wo w') := ⟨_, rfl⟩
  rw [← hP]
  have HP := Aside0.mk hP
  clear hP hr
  go_enter Try.func43, Try.ntmps43
  go_wp2
  go_loopw [3, 8] (fun v3 v8 wr => ∃ (i : Nat) (s : Int), v3 = .int .i64 s ∧ v8 = .int .i64 (i : Int) ∧ i ≤ n ∧ 0 ≤ s ∧ s ≤ 128 * (i : Int) ∧ Aside0 (s = sumS (l.take i)) ∧ Aside0 (Below wo.heap.size wo wr)) (fun _ v _ => n - (intOf v).toNat)
  case atStart => exact ⟨0, 0, rfl, rfl, Nat.zero_le _, Int.le_refl _, by omega, ⟨rfl⟩, ⟨Below.refl _ _⟩⟩
  case round =>
    obtain ⟨i, s, rfl, rfl, hi, hs0, hs1, HS, HB⟩ := hrel
    by_cases hlt : i < n
    · obtain ⟨b0, off0, rfl, hb0, hx0⟩ := CP_at HR.out (by omega)
      obtain ⟨hok, hrg⟩ := hx0 i hlt
      have hxw := rangeAt_below hrg HB.out hb0
      have hxi : l[i]? = some (l.getD i zeroP) := by rw [List.getD_eq_getElem?_getD, List.getElem?_eq_getElem (by have := HL.out; omega)]; rfl
      obtain ⟨x, hx⟩ : ∃ x, x = l.getD i zeroP := ⟨_, rfl⟩
      rw [← hx] at hok hxw hxi
      have HX := Aside0.mk (And.intro hok hxw)
      have HST := Aside0.mk (sumS_take l i x hxi)
      have hq := sect_bound x.len
      have G1 := Aside0.mk (blk_new wr (.cells (encP x) 56))
      have HB1 := Aside0.mk (below_then HB.out HB.out.size (below_alloc (Below.refl _ _) (.cells (encP x) 56)))
      clear hok hrg hx0 hb0 hxw hxi hx
      go_wp2_with (first | (refine load_P rfl (.tmp 10) rfl b0 (off0 + i * 36) x rfl HX.out.1 HX.out.2 ?_) | (refine store_P rfl (.tmp 5) (.tmp 11) rfl x rfl rfl HX.out.1 ?_) | (refine load_P1 rfl (.tmp 5) rfl wr.heap.size x rfl HX.out.1 G1.out ?_))
      refine (sectors_calls (encP x) x (pc x HX.out.1.len) _).mono ?_
      rintro e' w2 ⟨rfl, hb2⟩
      have HB2 := Aside0.mk (below_then HB1.out HB1.out.size hb2)
      clear hb2
      obtain ⟨q, hqq⟩ : ∃ q, q = sect x.len := ⟨_, rfl⟩
      have HQ := Aside0.mk hqq
      rw [← hqq] at hq ⊢
      clear hqq
      have hw := i64_sum hs0 (by omega) hq.1 hq.2
      go_wp2
      go_roundw
      case rel => exact ⟨i + 1, s + q, rfl, by go_num, by omega, by omega, by omega, ⟨by rw [HST.out, HS.out, HQ.out]⟩, HB2⟩
      case measure => simp [intOf]; omega
    · have HF := Aside0.mk (show s = sumS l by rw [HS.out, List.take_of_length_le (by have := HL.out; omega)])
      go_wp2
      rw [HP.out]
      exact ⟨by rw [HF.out]; rfl, HB.out⟩
set_option maxRecDepth 100000 in
set_option maxHeartbeats 2000000 in
theorem rsectors44_calls (A : Option Addr) (c n : Nat) (l : List Ptr) (wo : World) (hr : Kd.C kP wo A n l) (hnc : n ≤ c) (hm : n ≤ 1000) :
    Calls Try.prog 44 #[.slice A n c] wo fun e' w' => e' = .returned (.int .i64 (sumS l)) ∧ Below wo.heap.size wo w' := by
  have HR := Aside0.mk hr
  have HL := Aside0.mk hr.1
  obtain ⟨P, hP⟩ : ∃ P : Ending → World → Prop, P = (fun e' w' => e' = .returned (.int .i64 (sumS l)) ∧ Below wo.heap.size wo w') := ⟨_, rfl⟩
  rw [← hP]
  have HP := Aside0.mk hP
  clear hP hr
  go_enter Try.func44, Try.ntmps44
  go_wp2
  go_loopw [3, 4] (fun v3 v8 wr => ∃ (i : Nat) (s : Int), v3 = .int .i64 s ∧ v8 = .int .i64 (i : Int) ∧ i ≤ n ∧ 0 ≤ s ∧ s ≤ 128 * (i : Int) ∧ Aside0 (s = sumS (l.take i)) ∧ Aside0 (Below wo.heap.size wo wr)) (fun _ v _ => n - (intOf v).toNat)
  case atStart => exact ⟨0, 0, rfl, rfl, Nat.zero_le _, Int.le_refl _, by omega, ⟨rfl⟩, ⟨Below.refl _ _⟩⟩
  case round =>
    obtain ⟨i, s, rfl, rfl, hi, hs0, hs1, HS, HB⟩ := hrel
    by_cases hlt : i < n
    · obtain ⟨b0, off0, rfl, hb0, hx0⟩ := CP_at HR.out (by omega)
      obtain ⟨hok, hrg⟩ := hx0 i hlt
      have hxw := rangeAt_below hrg HB.out hb0
      have hxi : l[i]? = some (l.getD i zeroP) := by rw [List.getD_eq_getElem?_getD, List.getElem?_eq_getElem (by have := HL.out; omega)]; rfl
      obtain ⟨x, hx⟩ : ∃ x, x = l.getD i zeroP := ⟨_, rfl⟩
      rw [← hx] at hok hxw hxi
      have HX := Aside0.mk (And.intro hok hxw)
      have HST := Aside0.mk (sumS_take l i x hxi)
      have hq := sect_bound x.len
      clear hok hrg hx0 hb0 hxw hxi hx
      go_wp2_with (refine load_P rfl (.tmp 14) rfl b0 (off0 + i * 36) x rfl HX.out.1 HX.out.2 ?_)
      refine (rsectors_calls (encP x) x (pc x HX.out.1.len) _).mono ?_
      rintro e' w2 ⟨rfl, hb2⟩
      have HB2 := Aside0.mk (below_then HB.out HB.out.size hb2)
      clear hb2
      obtain ⟨q, hqq⟩ : ∃ q, q = sect x.len := ⟨_, rfl⟩
      have HQ := Aside0.mk hqq
      rw [← hqq] at hq ⊢
      clear hqq
      have hw := i64_sum hs0 (by omega) hq.1 hq.2
      go_wp2
      go_roundw
      case rel => exact ⟨i + 1, s + q, rfl, by go_num, by omega, by omega, by omega, ⟨by rw [HST.out, HS.out, HQ.out]⟩, HB2⟩
      case measure => simp [intOf]; omega
    · have HF := Aside0.mk (show s = sumS l by rw [HS.out, List.take_of_length_le (by have := HL.out; omega)])
      go_wp2
      rw [HP.out]
      exact ⟨by rw [HF.out]; rfl, HB.out⟩
set_option maxRecDepth 100000 in
set_option maxHeartbeats 2000000 in
theorem same_calls (A B : Option Addr) (c d n : Nat) (l : List Ptr) (wo : World) (hr : Kd.C kP wo A n l) (hr2 : Kd.C kP wo B n l) (hnc : n ≤ c) (hnd : n ≤ d) (hm : n ≤ 1000) :
    Calls Try.prog 40 #[.slice A n c, .slice B n d] wo fun e' w' => e' = .returned (.bool true) ∧ Below wo.heap.size wo w' := by
  have HR := Aside0.mk hr
  have HR2 := Aside0.mk hr2
  have HL := Aside0.mk hr.1
  obtain ⟨P, hP⟩ : ∃ P : Ending → World → Prop, P = (fun e' w' => e' = .returned (.bool true) ∧ Below wo.heap.size wo w') := ⟨_, rfl⟩
  rw [← hP]
  have HP := Aside0.mk hP
  clear hP hr hr2
  go_enter Try.func40, Try.ntmps40
  go_wp2
  go_loopw [5] (fun v5 wr => ∃ (i : Nat), v5 = .int .i64 (i : Int) ∧ i ≤ n ∧ Aside0 (Below wo.heap.size wo wr)) (fun v _ => n - (intOf v).toNat)
  case atStart => exact ⟨0, rfl, Nat.zero_le _, ⟨Below.refl _ _⟩⟩
  case round =>
    obtain ⟨i, rfl, hi, HB⟩ := hrel
    by_cases hlt : i < n
    · obtain ⟨b0, off0, rfl, hb0, hx0⟩ := CP_at HR.out (by omega)
      obtain ⟨b1, off1, rfl, hb1, hy0⟩ := CP_at HR2.out (by omega)
      obtain ⟨hok, hrg⟩ := hx0 i hlt
      obtain ⟨_, hrg2⟩ := hy0 i hlt
      obtain ⟨x, hx⟩ : ∃ x, x = l.getD i zeroP := ⟨_, rfl⟩
      rw [← hx] at hok hrg hrg2
      have HX := Aside0.mk (And.intro hok (And.intro hrg hb0))
      have HY := Aside0.mk (And.intro hok (And.intro hrg2 hb1))
      clear hok hrg hrg2 hx0 hy0 hb0 hb1 hx
      have hq : ∀ W : World, (binOp .neq 56 (.agg (encP x)) (.agg (encP x))).run Try.prog W = .ok (.bool false) W := fun W => by rw [neq56 x x HX.out.1.len HX.out.1.len W, decide_eq_true rfl]; rfl
      go_wp2
      refine wp_region_held_drew (S := fun w' => Below wr.drew.heap.size wr.drew w') (by kernel_rfl) (Below.refl _ _) (fun hW => ?_)
      have HBr := Aside0.mk (below_then HB.out HB.out.size (below_drew (Below.refl wr.heap.size wr)))
      generalize hWd : wr.drew = Wd at *
      clear hWd
      refine wpAnyH_take (i := 0) (oi := ⟨some 17, _, _, _, _, _⟩) (v := .slice (some ⟨b0, off0, none⟩) n c) rfl (by kernel_rfl) (by kernel_rfl) (by kernel_rfl) (fun _ _ _ h => h) (.inl ⟨by rfl, fun W1 h1 => by go_simp⟩) hW ?_
      try simp only [Act.put, List.setIfInBounds_toArray, List.set_cons_zero, List.set_cons_succ]
      refine wpAnyH_take (i := 1) (oi := ⟨some 18, _, _, _, _, _⟩) (v := .int .i64 (i : Int)) rfl (by kernel_rfl) (by kernel_rfl) (by kernel_rfl) (fun _ _ _ h => h) (.inl ⟨by rfl, fun W1 h1 => by go_simp⟩) hW ?_
      try simp only [Act.put, List.setIfInBounds_toArray, List.set_cons_zero, List.set_cons_succ]
      refine wpAnyH_take (i := 2) (oi := ⟨some 19, _, _, _, _, _⟩) (v := .pointer (some ⟨b0, off0 + i * 36, none⟩)) rfl (by kernel_rfl) (by kernel_rfl) (by kernel_rfl) (fun _ _ _ h => h) (.inl ⟨by rfl, fun W1 h1 => by go_simp⟩) hW ?_
      try simp only [Act.put, List.setIfInBounds_toArray, List.set_cons_zero, List.set_cons_succ]
      refine wpAnyH_take (i := 3) (oi := ⟨some 20, _, _, _, _, _⟩) rfl (by kernel_rfl) (by kernel_rfl) (by kernel_rfl) (fun _ _ _ h => h) (yieldsIf_load_P (by rfl) _ rfl b0 (off0 + i * 36) x HX.out.1 rfl (fun W1 h1 => rangeAt_below HX.out.2.1 (below_then HBr.out HBr.out.size h1) HX.out.2.2)) hW ?_
      try simp only [Act.put, List.setIfInBounds_toArray, List.set_cons_zero, List.set_cons_succ]
      refine wpAnyH_take (i := 4) (oi := ⟨some 21, _, _, _, _, _⟩) (v := .slice (some ⟨b1, off1, none⟩) n d) rfl (by kernel_rfl) (by kernel_rfl) (by kernel_rfl) (fun _ _ _ h => h) (.inl ⟨by rfl, fun W1 h1 => by go_simp⟩) hW ?_
      try simp only [Act.put, List.setIfInBounds_toArray, List.set_cons_zero, List.set_cons_succ]
      refine wpAnyH_take (i := 5) (oi := ⟨some 22, _, _, _, _, _⟩) (v := .int .i64 (i : Int)) rfl (by kernel_rfl) (by kernel_rfl) (by kernel_rfl) (fun _ _ _ h => h) (.inl ⟨by rfl, fun W1 h1 => by go_simp⟩) hW ?_
      try simp only [Act.put, List.setIfInBounds_toArray, List.set_cons_zero, List.set_cons_succ]
      refine wpAnyH_take (i := 6) (oi := ⟨some 23, _, _, _, _, _⟩) (v := .pointer (some ⟨b1, off1 + i * 36, none⟩)) rfl (by kernel_rfl) (by kernel_rfl) (by kernel_rfl) (fun _ _ _ h => h) (.inl ⟨by rfl, fun W1 h1 => by go_simp⟩) hW ?_
      try simp only [Act.put, List.setIfInBounds_toArray, List.set_cons_zero, List.set_cons_succ]
      refine wpAnyH_take (i := 7) (oi := ⟨some 24, _, _, _, _, _⟩) rfl (by kernel_rfl) (by kernel_rfl) (by kernel_rfl) (fun _ _ _ h => h) (yieldsIf_load_P (by rfl) _ rfl b1 (off1 + i * 36) x HY.out.1 rfl (fun W1 h1 => rangeAt_below HY.out.2.1 (below_then HBr.out HBr.out.size h1) HY.out.2.2)) hW ?_
      try simp only [Act.put, List.setIfInBounds_toArray, List.set_cons_zero, List.set_cons_succ]
      refine wpAnyH_take (i := 8) (oi := ⟨some 25, _, _, _, _, _⟩) (v := .bool false) rfl (by kernel_rfl) (by kernel_rfl) (by kernel_rfl) (fun _ _ _ h => h) (.inl ⟨by rfl, fun W1 h1 => by go_simp⟩) hW ?_
      try simp only [Act.put, List.setIfInBounds_toArray, List.set_cons_zero, List.set_cons_succ]
      refine wpAnyH_done (by kernel_rfl) ?_ _
      clear hW
      go_wp2
      go_roundw
      case rel => exact ⟨i + 1, by go_num, by omega, HBr⟩
      case measure => simp [intOf]; omega
    · go_wp2
      rw [HP.out]
      exact ⟨rfl, HB.out⟩
end Go.Proofs.Ytfefpbnhpncmlaa.DebD
namespace Go.Proofs.Ytfefpbnhpncmlaa.DebE
open Go.RowKit Go.Proofs.Ytfefpbnhpncmlaa.EntL Go.Proofs.Ytfefpbnhpncmlaa.EntB Go.Proofs.Ytfefpbnhpncmlaa.EntC Go.Proofs.Ytfefpbnhpncmlaa.EntD Go.Proofs.Ytfefpbnhpncmlaa.EntE Go.Proofs.Ytfefpbnhpncmlaa.EntF Go.Proofs.Ytfefpbnhpncmlaa.CatR Go.Proofs.Ytfefpbnhpncmlaa.CatT Go.Proofs.Ytfefpbnhpncmlaa.CatU Go.Proofs.Ytfefpbnhpncmlaa.CatK Go.Proofs.Ytfefpbnhpncmlaa.CatS Go.Proofs.Ytfefpbnhpncmlaa.CatY Go.Proofs.Ytfefpbnhpncmlaa.RefG Go.Proofs.Ytfefpbnhpncmlaa.PtrB Go.Proofs.Ytfefpbnhpncmlaa.PtrG Go.Proofs.Ytfefpbnhpncmlaa.Agg Go.Proofs.Ytfefpbnhpncmlaa.B8 Go.Proofs.Ytfefpbnhpncmlaa.CodL Go.Proofs.Ytfefpbnhpncmlaa.CodA Go.Proofs.Ytfefpbnhpncmlaa.CodB Go.Proofs.Ytfefpbnhpncmlaa.CatL Go.Proofs.Ytfefpbnhpncmlaa.PtrA Go.Proofs.Ytfefpbnhpncmlaa.PtrE Go.Proofs.Ytfefpbnhpncmlaa.PtrF Go.Proofs.Ytfefpbnhpncmlaa.PBaseSigns Go.Proofs.YtfefpbnhpncmlaaW.PrintWords Go.Proofs.YtfefpbnhpncmlaaW.PrintLast Go.Proofs.YtfefpbnhpncmlaaW.PrintMore Go.Proofs.Ytfefpbnhpncmlaa.EntG Go.Proofs.Ytfefpbnhpncmlaa.StmA Go.Proofs.Ytfefpbnhpncmlaa.StmB Go.Proofs.Ytfefpbnhpncmlaa.StmC Go.Proofs.Ytfefpbnhpncmlaa.CrcC Go.Proofs.Ytfefpbnhpncmlaa.StmD Go.Proofs.Ytfefpbnhpncmlaa.StmE Go.Proofs.Ytfefpbnhpncmlaa.CrcL Go.Proofs.Ytfefpbnhpncmlaa.StmL Go.Proofs.Ytfefpbnhpncmlaa.StmF Go.Proofs.Ytfefpbnhpncmlaa.StmG Go.Proofs.Ytfefpbnhpncmlaa.StmH Go.Proofs.Ytfefpbnhpncmlaa.StmI Go.Proofs.Ytfefpbnhpncmlaa.StmJ Go.Proofs.Ytfefpbnhpncmlaa.StmK Go.Proofs.Ytfefpbnhpncmlaa.StmM Go.Proofs.Ytfefpbnhpncmlaa.StmN Go.Proofs.Ytfefpbnhpncmlaa.StmO Go.Proofs.Ytfefpbnhpncmlaa.StmP Go.Proofs.Ytfefpbnhpncmlaa.StmP Go.Proofs.Ytfefpbnhpncmlaa.DeaA Go.Proofs.Ytfefpbnhpncmlaa.DeaB Go.Proofs.Ytfefpbnhpncmlaa.DeaN Go.Proofs.Ytfefpbnhpncmlaa.DeaC Go.Proofs.Ytfefpbnhpncmlaa.DeaR Go.Proofs.Ytfefpbnhpncmlaa.DeaL Go.Proofs.Ytfefpbnhpncmlaa.DeaS Go.Proofs.Ytfefpbnhpncmlaa.DeaT Go.Proofs.Ytfefpbnhpncmlaa.DeaU Go.Proofs.Ytfefpbnhpncmlaa.DeaV Go.Proofs.Ytfefpbnhpncmlaa.DeaW Go.Proofs.Ytfefpbnhpncmlaa.DeaX Go.Proofs.Ytfefpbnhpncmlaa.DeaY Go.Proofs.Ytfefpbnhpncmlaa.DebA Go.Proofs.Ytfefpbnhpncmlaa.CatW Go.Proofs.Ytfefpbnhpncmlaa.CatV Go.Proofs.Ytfefpbnhpncmlaa.DebB Go.Proofs.Ytfefpbnhpncmlaa.DebC Go.Proofs.Ytfefpbnhpncmlaa.DebD
set_option linter.unusedVariables false
set_option linter.unusedSimpArgs false

theorem okZ : Ok zeroP := by constructor <;> first | decide | (simp [zeroP, Byt])
set_option maxRecDepth 100000 in
set_option maxHeartbeats 8000000 in
theorem law (A : Option Addr) (c n : Nat) (l : List Ptr) (e : Int) (w : World) (hr : Kd.C kP w A n l) (hnc : n ≤ c) :
    Calls Try.prog 10 #[.slice A n c, .int .i64 e] w fun e' w' => e' = .returned (.bool true) ∧ Below w.heap.size w w' := by
  have HR := Aside0.mk hr
  have hmax := hr.2.1
  obtain ⟨P, hP⟩ : ∃ P : Ending → World → Prop, P = (fun e' w' => e' = .returned (.bool true) ∧ Below w.heap.size w w') := ⟨_, rfl⟩
  rw [← hP]
  have HP := Aside0.mk hP
  clear hP hr
  by_cases h200 : 200 < n
  · have hd : decide ((200 : Int) < (n : Int)) = true := decide_eq_true (by omega)
    obtain ⟨n2, hn2⟩ : ∃ n2, n2 = 200 := ⟨_, rfl⟩
    have hcut : (Instr.slice 38 (.slice A n c) none (some (.int .i64 200)) none).run Try.prog w = .ok (.slice A n2 c) w := by rw [hn2]; exact cut38_to A n c 200 (by omega) hnc w
    obtain ⟨l2, hl2⟩ : ∃ l2, l2 = l.take n2 := ⟨_, rfl⟩
    have HR2 := Aside0.mk (show Kd.C kP w A n2 l2 by rw [hl2]; exact C_take HR.out (by omega))
    have hn2b : n2 ≤ 200 := by omega
    have hnc2 : n2 ≤ c := by omega
    clear hn2 hl2
    go_enter Try.func10, Try.ntmps10
    go_wp2_with fail
    refine (split_calls A c n2 l2 e w HR2.out hnc2 (by omega)).mono ?_
    rintro e' W1 ⟨va, vb, rfl, h1, h2, hb⟩
    obtain ⟨A5, c5, e5⟩ := Kd.R_slice h1
    obtain ⟨A6, c6, e6⟩ := Kd.R_slice h2
    obtain ⟨ne, hne⟩ : ∃ ne, ne = (eld e l2).length := ⟨_, rfl⟩
    obtain ⟨ny, hny⟩ : ∃ ny, ny = (yng e l2).length := ⟨_, rfl⟩
    rw [← hne] at e5
    rw [← hny] at e6
    subst e5 e6
    have q5 := Kd.R_reads' h1
    have q6 := Kd.R_reads' h2
    have hne2 : ne ≤ 1000 := by have := eld_len e l2; have := HR2.out.1; omega
    have hny2 : ny ≤ 1000 := by have := yng_len e l2; have := HR2.out.1; omega
    have hc5 : ne ≤ c5 := q5.2.1
    have hc6 : ny ≤ c6 := q6.2.1
    have HC5 := Aside0.mk q5.2.2
    have HC6 := Aside0.mk q6.2.2
    have HB1 := Aside0.mk hb
    have HNE := Aside0.mk (And.intro hne hny)
    clear h1 h2 hb q5 q6 hne hny
    go_wp2_with fail
    refine (rsplit_calls A c n2 l2 e W1 (Kd.C_below HR2.out HB1.out) hnc2 (by omega)).mono ?_
    rintro e' W2 ⟨va, vb, rfl, h1, h2, hb⟩
    obtain ⟨A7, c7, e7⟩ := Kd.R_slice h1
    obtain ⟨A8, c8, e8⟩ := Kd.R_slice h2
    rw [← HNE.out.1] at e7
    rw [← HNE.out.2] at e8
    subst e7 e8
    have q7 := Kd.R_reads' h1
    have q8 := Kd.R_reads' h2
    have hc7 : ne ≤ c7 := q7.2.1
    have hc8 : ny ≤ c8 := q8.2.1
    have HC57 := Aside0.mk (show Kd.C kP W2 A5 ne (eld e l2) ∧ Kd.C kP W2 A7 ne (eld e l2) by rw [HNE.out.1]; exact ⟨Kd.C_below HC5.out hb, q7.2.2⟩)
    have HC68 := Aside0.mk (show Kd.C kP W2 A6 ny (yng e l2) ∧ Kd.C kP W2 A8 ny (yng e l2) by rw [HNE.out.2]; exact ⟨Kd.C_below HC6.out hb, q8.2.2⟩)
    have HB2 := Aside0.mk (below_then HB1.out HB1.out.size hb)
    clear h1 h2 hb q7 q8 HC5 HC6 HNE HB1
    go_wp2
    obtain ⟨wo, hwo⟩ : ∃ wo, wo = W2 := ⟨W2, rfl⟩
    subst hwo
    go_loopw [9] (fun v9 wr => ∃ (i : Nat), v9 = .int .i64 (i : Int) ∧ i ≤ n2 ∧ Aside0 (Below wo.heap.size wo wr)) (fun v _ => n2 - (intOf v).toNat)
    case atStart => exact ⟨0, rfl, Nat.zero_le _, ⟨Below.refl _ _⟩⟩
    case round =>
      obtain ⟨i, rfl, hi, HB⟩ := hrel
      by_cases hlt : i < n2
      · obtain ⟨b0, off0, rfl, hb0, hx0⟩ := CP_at HR2.out (by omega)
        obtain ⟨hok, hrg⟩ := hx0 i hlt
        have hxw := rangeAt_below hrg HB2.out hb0
        obtain ⟨x, hx⟩ : ∃ x, x = l2.getD i zeroP := ⟨_, rfl⟩
        rw [← hx] at hok hxw
        have HX := Aside0.mk (And.intro hok (And.intro hxw (Nat.lt_of_lt_of_le hb0 HB2.out.size)))
        obtain ⟨sx, hsx⟩ : ∃ s, s = strOfNums (keyL x) := ⟨_, rfl⟩
        have HSX := Aside0.mk hsx
        clear hok hrg hx0 hb0 hxw hx hsx
        go_wp2
        refine wp_region_held_drew (S := fun w' => Below wr.drew.heap.size wr.drew w') (by kernel_rfl) (Below.refl _ _) (fun hW => ?_)
        have HBr := Aside0.mk (below_then HB.out HB.out.size (below_drew (Below.refl wr.heap.size wr)))
        generalize hWd : wr.drew = Wd at *
        clear hWd
        refine wpAnyH_take (i := 0) (oi := ⟨some 33, _, _, _, _, _⟩) (v := .slice (some ⟨b0, off0, none⟩) n2 c) rfl (by kernel_rfl) (by kernel_rfl) (by kernel_rfl) (fun _ _ _ h => h) (.inl ⟨by rfl, fun W1 h1 => by go_simp⟩) hW ?_
        try simp only [Act.put, List.setIfInBounds_toArray, List.set_cons_zero, List.set_cons_succ]
        refine wpAnyH_take (i := 1) (oi := ⟨some 34, _, _, _, _, _⟩) (v := .int .i64 (i : Int)) rfl (by kernel_rfl) (by kernel_rfl) (by kernel_rfl) (fun _ _ _ h => h) (.inl ⟨by rfl, fun W1 h1 => by go_simp⟩) hW ?_
        try simp only [Act.put, List.setIfInBounds_toArray, List.set_cons_zero, List.set_cons_succ]
        refine wpAnyH_take (i := 2) (oi := ⟨some 35, _, _, _, _, _⟩) (v := .pointer (some ⟨b0, off0 + i * 36, none⟩)) rfl (by kernel_rfl) (by kernel_rfl) (by kernel_rfl) (fun _ _ _ h => h) (.inl ⟨by rfl, fun W1 h1 => by go_simp⟩) hW ?_
        try simp only [Act.put, List.setIfInBounds_toArray, List.set_cons_zero, List.set_cons_succ]
        refine wpAnyH_take (i := 3) (oi := ⟨some 36, _, _, _, _, _⟩) rfl (by kernel_rfl) (by kernel_rfl) (by kernel_rfl) (fun _ _ _ h => h) (yieldsIf_load_P (by rfl) _ rfl b0 (off0 + i * 36) x HX.out.1 rfl (fun W1 h1 => rangeAt_below HX.out.2.1 (below_then HBr.out HBr.out.size h1) HX.out.2.2)) hW ?_
        try simp only [Act.put, List.setIfInBounds_toArray, List.set_cons_zero, List.set_cons_succ]
        refine wpAnyH_take (i := 6) (oi := ⟨some 39, _, _, _, _, _⟩) (v := .slice (some ⟨b0, off0, none⟩) n2 c) rfl (by kernel_rfl) (by kernel_rfl) (by kernel_rfl) (fun _ _ _ h => h) (.inl ⟨by rfl, fun W1 h1 => by go_simp⟩) hW ?_
        try simp only [Act.put, List.setIfInBounds_toArray, List.set_cons_zero, List.set_cons_succ]
        refine wpAnyH_take (i := 7) (oi := ⟨some 40, _, _, _, _, _⟩) (v := .int .i64 (i : Int)) rfl (by kernel_rfl) (by kernel_rfl) (by kernel_rfl) (fun _ _ _ h => h) (.inl ⟨by rfl, fun W1 h1 => by go_simp⟩) hW ?_
        try simp only [Act.put, List.setIfInBounds_toArray, List.set_cons_zero, List.set_cons_succ]
        refine wpAnyH_take (i := 8) (oi := ⟨some 41, _, _, _, _, _⟩) (v := .pointer (some ⟨b0, off0 + i * 36, none⟩)) rfl (by kernel_rfl) (by kernel_rfl) (by kernel_rfl) (fun _ _ _ h => h) (.inl ⟨by rfl, fun W1 h1 => by go_simp⟩) hW ?_
        try simp only [Act.put, List.setIfInBounds_toArray, List.set_cons_zero, List.set_cons_succ]
        refine wpAnyH_take (i := 9) (oi := ⟨some 42, _, _, _, _, _⟩) rfl (by kernel_rfl) (by kernel_rfl) (by kernel_rfl) (fun _ _ _ h => h) (yieldsIf_load_P (by rfl) _ rfl b0 (off0 + i * 36) x HX.out.1 rfl (fun W1 h1 => rangeAt_below HX.out.2.1 (below_then HBr.out HBr.out.size h1) HX.out.2.2)) hW ?_
        try simp only [Act.put, List.setIfInBounds_toArray, List.set_cons_zero, List.set_cons_succ]
        refine wpAnyH_ready (rs := [4]) (by kernel_rfl) (by simp) (AllReadyH.cons rfl (fun K1 hK1 => ?_) AllReadyH.nil)
        go_simp
        refine (key_calls x HX.out.1 Wd).mono ?_
        rintro e' W1 ⟨v1, rfl, hr1, hb1⟩
        have H1 := Aside0.mk hr1
        clear hr1
        refine hK1.out _ _ (below_then hW hW.size hb1) (fun hW => ?_)
        try simp only [Act.put, List.setIfInBounds_toArray, List.set_cons_zero, List.set_cons_succ]
        refine wpAnyH_mono (S' := fun w' => Below W1.heap.size W1 w') (fun w' h => below_then hb1 hb1.size h) ?_
        clear hW
        have hW := Below.refl W1.heap.size W1
        refine wpAnyH_take (i := 5) (oi := ⟨some 38, _, _, _, _, _⟩) (v := .string sx) rfl (by kernel_rfl) (by kernel_rfl) (by kernel_rfl) (fun _ _ _ h => h) (.inl ⟨by rfl, fun W1 h1 => by (have x1 := conv_own (Kd.R_below H1.out h1); rw [← HSX.out] at x1); go_simp⟩) hW ?_
        try simp only [Act.put, List.setIfInBounds_toArray, List.set_cons_zero, List.set_cons_succ]
        refine wpAnyH_ready (rs := [10]) (by kernel_rfl) (by simp) (AllReadyH.cons rfl (fun K2 hK2 => ?_) AllReadyH.nil)
        go_simp
        refine (rkey_calls x HX.out.1 W1).mono ?_
        rintro e' W2 ⟨v2, rfl, hr2, hb2⟩
        have H2 := Aside0.mk hr2
        clear hr2
        refine hK2.out _ _ (below_then hW hW.size hb2) (fun hW => ?_)
        try simp only [Act.put, List.setIfInBounds_toArray, List.set_cons_zero, List.set_cons_succ]
        refine wpAnyH_mono (S' := fun w' => Below W2.heap.size W2 w') (fun w' h => below_then hb2 hb2.size h) ?_
        have HBo := Aside0.mk (below_then HBr.out HBr.out.size (below_then hb1 hb1.size hb2))
        clear hW
        have hW := Below.refl W2.heap.size W2
        refine wpAnyH_take (i := 11) (oi := ⟨some 44, _, _, _, _, _⟩) (v := .string sx) rfl (by kernel_rfl) (by kernel_rfl) (by kernel_rfl) (fun _ _ _ h => h) (.inl ⟨by rfl, fun W1 h1 => by (have x1 := conv_own (Kd.R_below H2.out h1); rw [← HSX.out] at x1); go_simp⟩) hW ?_
        try simp only [Act.put, List.setIfInBounds_toArray, List.set_cons_zero, List.set_cons_succ]
        refine wpAnyH_take (i := 12) (oi := ⟨some 45, _, _, _, _, _⟩) (v := .bool false) rfl (by kernel_rfl) (by kernel_rfl) (by kernel_rfl) (fun _ _ _ h => h) (.inl ⟨by rfl, fun W1 h1 => by go_simp⟩) hW ?_
        try simp only [Act.put, List.setIfInBounds_toArray, List.set_cons_zero, List.set_cons_succ]
        refine wpAnyH_done (by kernel_rfl) ?_ _
        clear hW hb1 hb2 hK1 hK2 K1 K2 H1 H2 HBr
        go_wp2
        go_roundw
        case rel => exact ⟨i + 1, by go_num, by omega, HBo⟩
        case measure => simp [intOf]; omega
      · go_wp2_with fail
        refine (sort_calls A c n2 l2 wr (Kd.C_below HR2.out (below_then HB2.out HB2.out.size HB.out)) hnc2 (by omega)).mono ?_
        rintro e' w1 ⟨v1, rfl, h1, hb1⟩
        obtain ⟨A9, c9, e9⟩ := Kd.R_slice h1
        obtain ⟨nu, hnu⟩ : ∃ nu, nu = (uniq keyN l2).length := ⟨_, rfl⟩
        rw [← hnu] at e9
        subst e9
        have q1 := Kd.R_reads' h1
        have hnu2 : nu ≤ 1000 := by have := len_uniq_le (k := keyN) l2; have := HR2.out.1; omega
        have hc9 : nu ≤ c9 := q1.2.1
        have HNU := Aside0.mk hnu
        have HC9 := Aside0.mk q1.2.2
        have HBa := Aside0.mk (below_then HB.out HB.out.size hb1)
        clear h1 hb1 q1 hnu
        go_wp2_with fail
        refine (rsort_calls A c n2 l2 w1 (Kd.C_below HR2.out (below_then HB2.out HB2.out.size HBa.out)) hnc2 (by omega)).mono ?_
        rintro e' w2 ⟨v2, rfl, h2, hb2⟩
        obtain ⟨A10, c10, e10⟩ := Kd.R_slice h2
        rw [← HNU.out] at e10
        subst e10
        have q2 := Kd.R_reads' h2
        have hc10 : nu ≤ c10 := q2.2.1
        have HC910 := Aside0.mk (show Kd.C kP w2 A9 nu (uniq keyN l2) ∧ Kd.C kP w2 A10 nu (uniq keyN l2) by rw [HNU.out]; exact ⟨Kd.C_below HC9.out hb2, q2.2.2⟩)
        have HBb := Aside0.mk (below_then HBa.out HBa.out.size hb2)
        clear h2 hb2 q2 HC9
        go_wp2_with fail
        refine (same_calls A9 A10 c9 c10 nu _ w2 HC910.out.1 HC910.out.2 hc9 hc10 hnu2).mono ?_
        rintro e' w3 ⟨rfl, hb3⟩
        have HBc := Aside0.mk (below_then HBb.out HBb.out.size hb3)
        clear hb3
        go_wp2_with fail
        refine (same_calls A5 A7 c5 c7 ne _ w3 (Kd.C_below HC57.out.1 HBc.out) (Kd.C_below HC57.out.2 HBc.out) hc5 hc7 hne2).mono ?_
        rintro e' w4 ⟨rfl, hb4⟩
        have HBd := Aside0.mk (below_then HBc.out HBc.out.size hb4)
        clear hb4
        go_wp2_with fail
        refine (same_calls A6 A8 c6 c8 ny _ w4 (Kd.C_below HC68.out.1 HBd.out) (Kd.C_below HC68.out.2 HBd.out) hc6 hc8 hny2).mono ?_
        rintro e' w5 ⟨rfl, hb5⟩
        have HBe := Aside0.mk (below_then HBd.out HBd.out.size hb5)
        clear hb5
        obtain ⟨sm, hsm⟩ : ∃ sm, sm = sumS l2 := ⟨_, rfl⟩
        have HSM := Aside0.mk hsm
        clear hsm
        go_wp2_with fail
        refine (sectors43_calls A c n2 l2 w5 (Kd.C_below HR2.out (below_then HB2.out HB2.out.size HBe.out)) hnc2 (by omega)).mono ?_
        rintro e' w6 ⟨he6, hb6⟩
        rw [← HSM.out] at he6
        subst he6
        have HBf := Aside0.mk (below_then HBe.out HBe.out.size hb6)
        clear hb6
        go_wp2_with fail
        refine (rsectors44_calls A c n2 l2 w6 (Kd.C_below HR2.out (below_then HB2.out HB2.out.size HBf.out)) hnc2 (by omega)).mono ?_
        rintro e' w7 ⟨he7, hb7⟩
        rw [← HSM.out] at he7
        subst he7
        have HBg := Aside0.mk (below_then HBf.out HBf.out.size hb7)
        clear hb7
        go_wp2_with fail
        have hz := (key_calls zeroP okZ w7)
        rw [enc_zero] at hz
        refine hz.mono ?_
        rintro e' w8 ⟨v8, rfl, h8, hb8⟩
        obtain ⟨A11, c11, e11⟩ := Kd.R_slice h8
        rw [keyL_len] at e11
        subst e11
        have HBh := Aside0.mk (below_then HB2.out HB2.out.size (below_then HBg.out HBg.out.size hb8))
        clear h8 hb8
        go_wp2
        rw [HP.out]
        exact ⟨rfl, HBh.out⟩
  · have hd : decide ((200 : Int) < (n : Int)) = false := decide_eq_false (by omega)
    obtain ⟨n2, hn2⟩ : ∃ n2, n2 = n := ⟨_, rfl⟩
    subst hn2
    obtain ⟨l2, hl2⟩ : ∃ l2, l2 = l := ⟨_, rfl⟩
    subst hl2
    have HR2 := HR
    have hn2b : n2 ≤ 200 := by omega
    have hnc2 : n2 ≤ c := hnc
    go_enter Try.func10, Try.ntmps10
    go_wp2_with fail
    refine (split_calls A c n2 l2 e w HR2.out hnc2 (by omega)).mono ?_
    rintro e' W1 ⟨va, vb, rfl, h1, h2, hb⟩
    obtain ⟨A5, c5, e5⟩ := Kd.R_slice h1
    obtain ⟨A6, c6, e6⟩ := Kd.R_slice h2
    obtain ⟨ne, hne⟩ : ∃ ne, ne = (eld e l2).length := ⟨_, rfl⟩
    obtain ⟨ny, hny⟩ : ∃ ny, ny = (yng e l2).length := ⟨_, rfl⟩
    rw [← hne] at e5
    rw [← hny] at e6
    subst e5 e6
    have q5 := Kd.R_reads' h1
    have q6 := Kd.R_reads' h2
    have hne2 : ne ≤ 1000 := by have := eld_len e l2; have := HR2.out.1; omega
    have hny2 : ny ≤ 1000 := by have := yng_len e l2; have := HR2.out.1; omega
    have hc5 : ne ≤ c5 := q5.2.1
    have hc6 : ny ≤ c6 := q6.2.1
    have HC5 := Aside0.mk q5.2.2
    have HC6 := Aside0.mk q6.2.2
    have HB1 := Aside0.mk hb
    have HNE := Aside0.mk (And.intro hne hny)
    clear h1 h2 hb q5 q6 hne hny
    go_wp2_with fail
    refine (rsplit_calls A c n2 l2 e W1 (Kd.C_below HR2.out HB1.out) hnc2 (by omega)).mono ?_
    rintro e' W2 ⟨va, vb, rfl, h1, h2, hb⟩
    obtain ⟨A7, c7, e7⟩ := Kd.R_slice h1
    obtain ⟨A8, c8, e8⟩ := Kd.R_slice h2
    rw [← HNE.out.1] at e7
    rw [← HNE.out.2] at e8
    subst e7 e8
    have q7 := Kd.R_reads' h1
    have q8 := Kd.R_reads' h2
    have hc7 : ne ≤ c7 := q7.2.1
    have hc8 : ny ≤ c8 := q8.2.1
    have HC57 := Aside0.mk (show Kd.C kP W2 A5 ne (eld e l2) ∧ Kd.C kP W2 A7 ne (eld e l2) by rw [HNE.out.1]; exact ⟨Kd.C_below HC5.out hb, q7.2.2⟩)
    have HC68 := Aside0.mk (show Kd.C kP W2 A6 ny (yng e l2) ∧ Kd.C kP W2 A8 ny (yng e l2) by rw [HNE.out.2]; exact ⟨Kd.C_below HC6.out hb, q8.2.2⟩)
    have HB2 := Aside0.mk (below_then HB1.out HB1.out.size hb)
    clear h1 h2 hb q7 q8 HC5 HC6 HNE HB1
    go_wp2
    obtain ⟨wo, hwo⟩ : ∃ wo, wo = W2 := ⟨W2, rfl⟩
    subst hwo
    go_loopw [9] (fun v9 wr => ∃ (i : Nat), v9 = .int .i64 (i : Int) ∧ i ≤ n2 ∧ Aside0 (Below wo.heap.size wo wr)) (fun v _ => n2 - (intOf v).toNat)
    case atStart => exact ⟨0, rfl, Nat.zero_le _, ⟨Below.refl _ _⟩⟩
    case round =>
      obtain ⟨i, rfl, hi, HB⟩ := hrel
      by_cases hlt : i < n2
      · obtain ⟨b0, off0, rfl, hb0, hx0⟩ := CP_at HR2.out (by omega)
        obtain ⟨hok, hrg⟩ := hx0 i hlt
        have hxw := rangeAt_below hrg HB2.out hb0
        obtain ⟨x, hx⟩ : ∃ x, x = l2.getD i zeroP := ⟨_, rfl⟩
        rw [← hx] at hok hxw
        have HX := Aside0.mk (And.intro hok (And.intro hxw (Nat.lt_of_lt_of_le hb0 HB2.out.size)))
        obtain ⟨sx, hsx⟩ : ∃ s, s = strOfNums (keyL x) := ⟨_, rfl⟩
        have HSX := Aside0.mk hsx
        clear hok hrg hx0 hb0 hxw hx hsx
        go_wp2
        refine wp_region_held_drew (S := fun w' => Below wr.drew.heap.size wr.drew w') (by kernel_rfl) (Below.refl _ _) (fun hW => ?_)
        have HBr := Aside0.mk (below_then HB.out HB.out.size (below_drew (Below.refl wr.heap.size wr)))
        generalize hWd : wr.drew = Wd at *
        clear hWd
        refine wpAnyH_take (i := 0) (oi := ⟨some 33, _, _, _, _, _⟩) (v := .slice (some ⟨b0, off0, none⟩) n2 c) rfl (by kernel_rfl) (by kernel_rfl) (by kernel_rfl) (fun _ _ _ h => h) (.inl ⟨by rfl, fun W1 h1 => by go_simp⟩) hW ?_
        try simp only [Act.put, List.setIfInBounds_toArray, List.set_cons_zero, List.set_cons_succ]
        refine wpAnyH_take (i := 1) (oi := ⟨some 34, _, _, _, _, _⟩) (v := .int .i64 (i : Int)) rfl (by kernel_rfl) (by kernel_rfl) (by kernel_rfl) (fun _ _ _ h => h) (.inl ⟨by rfl, fun W1 h1 => by go_simp⟩) hW ?_
        try simp only [Act.put, List.setIfInBounds_toArray, List.set_cons_zero, List.set_cons_succ]
        refine wpAnyH_take (i := 2) (oi := ⟨some 35, _, _, _, _, _⟩) (v := .pointer (some ⟨b0, off0 + i * 36, none⟩)) rfl (by kernel_rfl) (by kernel_rfl) (by kernel_rfl) (fun _ _ _ h => h) (.inl ⟨by rfl, fun W1 h1 => by go_simp⟩) hW ?_
        try simp only [Act.put, List.setIfInBounds_toArray, List.set_cons_zero, List.set_cons_succ]
        refine wpAnyH_take (i := 3) (oi := ⟨some 36, _, _, _, _, _⟩) rfl (by kernel_rfl) (by kernel_rfl) (by kernel_rfl) (fun _ _ _ h => h) (yieldsIf_load_P (by rfl) _ rfl b0 (off0 + i * 36) x HX.out.1 rfl (fun W1 h1 => rangeAt_below HX.out.2.1 (below_then HBr.out HBr.out.size h1) HX.out.2.2)) hW ?_
        try simp only [Act.put, List.setIfInBounds_toArray, List.set_cons_zero, List.set_cons_succ]
        refine wpAnyH_take (i := 6) (oi := ⟨some 39, _, _, _, _, _⟩) (v := .slice (some ⟨b0, off0, none⟩) n2 c) rfl (by kernel_rfl) (by kernel_rfl) (by kernel_rfl) (fun _ _ _ h => h) (.inl ⟨by rfl, fun W1 h1 => by go_simp⟩) hW ?_
        try simp only [Act.put, List.setIfInBounds_toArray, List.set_cons_zero, List.set_cons_succ]
        refine wpAnyH_take (i := 7) (oi := ⟨some 40, _, _, _, _, _⟩) (v := .int .i64 (i : Int)) rfl (by kernel_rfl) (by kernel_rfl) (by kernel_rfl) (fun _ _ _ h => h) (.inl ⟨by rfl, fun W1 h1 => by go_simp⟩) hW ?_
        try simp only [Act.put, List.setIfInBounds_toArray, List.set_cons_zero, List.set_cons_succ]
        refine wpAnyH_take (i := 8) (oi := ⟨some 41, _, _, _, _, _⟩) (v := .pointer (some ⟨b0, off0 + i * 36, none⟩)) rfl (by kernel_rfl) (by kernel_rfl) (by kernel_rfl) (fun _ _ _ h => h) (.inl ⟨by rfl, fun W1 h1 => by go_simp⟩) hW ?_
        try simp only [Act.put, List.setIfInBounds_toArray, List.set_cons_zero, List.set_cons_succ]
        refine wpAnyH_take (i := 9) (oi := ⟨some 42, _, _, _, _, _⟩) rfl (by kernel_rfl) (by kernel_rfl) (by kernel_rfl) (fun _ _ _ h => h) (yieldsIf_load_P (by rfl) _ rfl b0 (off0 + i * 36) x HX.out.1 rfl (fun W1 h1 => rangeAt_below HX.out.2.1 (below_then HBr.out HBr.out.size h1) HX.out.2.2)) hW ?_
        try simp only [Act.put, List.setIfInBounds_toArray, List.set_cons_zero, List.set_cons_succ]
        refine wpAnyH_ready (rs := [4]) (by kernel_rfl) (by simp) (AllReadyH.cons rfl (fun K1 hK1 => ?_) AllReadyH.nil)
        go_simp
        refine (key_calls x HX.out.1 Wd).mono ?_
        rintro e' W1 ⟨v1, rfl, hr1, hb1⟩
        have H1 := Aside0.mk hr1
        clear hr1
        refine hK1.out _ _ (below_then hW hW.size hb1) (fun hW => ?_)
        try simp only [Act.put, List.setIfInBounds_toArray, List.set_cons_zero, List.set_cons_succ]
        refine wpAnyH_mono (S' := fun w' => Below W1.heap.size W1 w') (fun w' h => below_then hb1 hb1.size h) ?_
        clear hW
        have hW := Below.refl W1.heap.size W1
        refine wpAnyH_take (i := 5) (oi := ⟨some 38, _, _, _, _, _⟩) (v := .string sx) rfl (by kernel_rfl) (by kernel_rfl) (by kernel_rfl) (fun _ _ _ h => h) (.inl ⟨by rfl, fun W1 h1 => by (have x1 := conv_own (Kd.R_below H1.out h1); rw [← HSX.out] at x1); go_simp⟩) hW ?_
        try simp only [Act.put, List.setIfInBounds_toArray, List.set_cons_zero, List.set_cons_succ]
        refine wpAnyH_ready (rs := [10]) (by kernel_rfl) (by simp) (AllReadyH.cons rfl (fun K2 hK2 => ?_) AllReadyH.nil)
        go_simp
        refine (rkey_calls x HX.out.1 W1).mono ?_
        rintro e' W2 ⟨v2, rfl, hr2, hb2⟩
        have H2 := Aside0.mk hr2
        clear hr2
        refine hK2.out _ _ (below_then hW hW.size hb2) (fun hW => ?_)
        try simp only [Act.put, List.setIfInBounds_toArray, List.set_cons_zero, List.set_cons_succ]
        refine wpAnyH_mono (S' := fun w' => Below W2.heap.size W2 w') (fun w' h => below_then hb2 hb2.size h) ?_
        have HBo := Aside0.mk (below_then HBr.out HBr.out.size (below_then hb1 hb1.size hb2))
        clear hW
        have hW := Below.refl W2.heap.size W2
        refine wpAnyH_take (i := 11) (oi := ⟨some 44, _, _, _, _, _⟩) (v := .string sx) rfl (by kernel_rfl) (by kernel_rfl) (by kernel_rfl) (fun _ _ _ h => h) (.inl ⟨by rfl, fun W1 h1 => by (have x1 := conv_own (Kd.R_below H2.out h1); rw [← HSX.out] at x1); go_simp⟩) hW ?_
        try simp only [Act.put, List.setIfInBounds_toArray, List.set_cons_zero, List.set_cons_succ]
        refine wpAnyH_take (i := 12) (oi := ⟨some 45, _, _, _, _, _⟩) (v := .bool false) rfl (by kernel_rfl) (by kernel_rfl) (by kernel_rfl) (fun _ _ _ h => h) (.inl ⟨by rfl, fun W1 h1 => by go_simp⟩) hW ?_
        try simp only [Act.put, List.setIfInBounds_toArray, List.set_cons_zero, List.set_cons_succ]
        refine wpAnyH_done (by kernel_rfl) ?_ _
        clear hW hb1 hb2 hK1 hK2 K1 K2 H1 H2 HBr
        go_wp2
        go_roundw
        case rel => exact ⟨i + 1, by go_num, by omega, HBo⟩
        case measure => simp [intOf]; omega
      · go_wp2_with fail
        refine (sort_calls A c n2 l2 wr (Kd.C_below HR2.out (below_then HB2.out HB2.out.size HB.out)) hnc2 (by omega)).mono ?_
        rintro e' w1 ⟨v1, rfl, h1, hb1⟩
        obtain ⟨A9, c9, e9⟩ := Kd.R_slice h1
        obtain ⟨nu, hnu⟩ : ∃ nu, nu = (uniq keyN l2).length := ⟨_, rfl⟩
        rw [← hnu] at e9
        subst e9
        have q1 := Kd.R_reads' h1
        have hnu2 : nu ≤ 1000 := by have := len_uniq_le (k := keyN) l2; have := HR2.out.1; omega
        have hc9 : nu ≤ c9 := q1.2.1
        have HNU := Aside0.mk hnu
        have HC9 := Aside0.mk q1.2.2
        have HBa := Aside0.mk (below_then HB.out HB.out.size hb1)
        clear h1 hb1 q1 hnu
        go_wp2_with fail
        refine (rsort_calls A c n2 l2 w1 (Kd.C_below HR2.out (below_then HB2.out HB2.out.size HBa.out)) hnc2 (by omega)).mono ?_
        rintro e' w2 ⟨v2, rfl, h2, hb2⟩
        obtain ⟨A10, c10, e10⟩ := Kd.R_slice h2
        rw [← HNU.out] at e10
        subst e10
        have q2 := Kd.R_reads' h2
        have hc10 : nu ≤ c10 := q2.2.1
        have HC910 := Aside0.mk (show Kd.C kP w2 A9 nu (uniq keyN l2) ∧ Kd.C kP w2 A10 nu (uniq keyN l2) by rw [HNU.out]; exact ⟨Kd.C_below HC9.out hb2, q2.2.2⟩)
        have HBb := Aside0.mk (below_then HBa.out HBa.out.size hb2)
        clear h2 hb2 q2 HC9
        go_wp2_with fail
        refine (same_calls A9 A10 c9 c10 nu _ w2 HC910.out.1 HC910.out.2 hc9 hc10 hnu2).mono ?_
        rintro e' w3 ⟨rfl, hb3⟩
        have HBc := Aside0.mk (below_then HBb.out HBb.out.size hb3)
        clear hb3
        go_wp2_with fail
        refine (same_calls A5 A7 c5 c7 ne _ w3 (Kd.C_below HC57.out.1 HBc.out) (Kd.C_below HC57.out.2 HBc.out) hc5 hc7 hne2).mono ?_
        rintro e' w4 ⟨rfl, hb4⟩
        have HBd := Aside0.mk (below_then HBc.out HBc.out.size hb4)
        clear hb4
        go_wp2_with fail
        refine (same_calls A6 A8 c6 c8 ny _ w4 (Kd.C_below HC68.out.1 HBd.out) (Kd.C_below HC68.out.2 HBd.out) hc6 hc8 hny2).mono ?_
        rintro e' w5 ⟨rfl, hb5⟩
        have HBe := Aside0.mk (below_then HBd.out HBd.out.size hb5)
        clear hb5
        obtain ⟨sm, hsm⟩ : ∃ sm, sm = sumS l2 := ⟨_, rfl⟩
        have HSM := Aside0.mk hsm
        clear hsm
        go_wp2_with fail
        refine (sectors43_calls A c n2 l2 w5 (Kd.C_below HR2.out (below_then HB2.out HB2.out.size HBe.out)) hnc2 (by omega)).mono ?_
        rintro e' w6 ⟨he6, hb6⟩
        rw [← HSM.out] at he6
        subst he6
        have HBf := Aside0.mk (below_then HBe.out HBe.out.size hb6)
        clear hb6
        go_wp2_with fail
        refine (rsectors44_calls A c n2 l2 w6 (Kd.C_below HR2.out (below_then HB2.out HB2.out.size HBf.out)) hnc2 (by omega)).mono ?_
        rintro e' w7 ⟨he7, hb7⟩
        rw [← HSM.out] at he7
        subst he7
        have HBg := Aside0.mk (below_then HBf.out HBf.out.size hb7)
        clear hb7
        go_wp2_with fail
        have hz := (key_calls zeroP okZ w7)
        rw [enc_zero] at hz
        refine hz.mono ?_
        rintro e' w8 ⟨v8, rfl, h8, hb8⟩
        obtain ⟨A11, c11, e11⟩ := Kd.R_slice h8
        rw [keyL_len] at e11
        subst e11
        have HBh := Aside0.mk (below_then HB2.out HB2.out.size (below_then HBg.out HBg.out.size hb8))
        clear h8 hb8
        go_wp2
        rw [HP.out]
        exact ⟨rfl, HBh.out⟩
end Go.Proofs.Ytfefpbnhpncmlaa.DebE
namespace Go.Proofs.YtfefpbnhpncmlaaW.Opens
open Go.RowKit Go.Proofs.YtfefpbnhpncmlaaW.PrintWords
set_option linter.unusedVariables false

/-- Whatever of type t can be read as data is of kind d, and G. -/
def Opens {α : Type} (P : Program) (t : TypeId) (d : Kd α) (G : α → Prop) : Prop :=
  ∀ (H : Type) (enc : TypeId × Value → H) (w : World) (base : Nat) (spare : Nat → Bool) (held : Bool) (n : Nat) (cs : List Value) (x : DataW H × List MemPlace),
    DataW.trod enc P w base spare held n t cs = some x → ∃ a, d.K w a cs ∧ G a

theorem opens_int {P : Program} {t : TypeId} {k : IntKind} (ht : P.underlying t = some (.int k)) : Opens P t (Kd.int k) (fun n => (Lit.int k n).wf = true) := by
  intro H enc w base spare held n cs x h
  obtain ⟨m, rfl, _, hw⟩ := DataW.trod_int ht h
  exact ⟨m, rfl, hw⟩

theorem add_add (a : Addr) (i j : Nat) : (a.add i).add j = a.add (i + j) := Go.Deep.add_add a i j

theorem opens_slice {α : Type} {P : Program} {t e : TypeId} {d : Kd α} {G : α → Prop} (ht : P.underlying t = some (.slice e)) (hs : P.cellsOf e = d.sz) (he : Opens P e d G) :
    Opens P t (Kd.slice e d) (fun l => ∀ x ∈ l, G x) := by
  intro H enc w base spare held n cs x h
  rcases Go.Deep.open_slice ht h with ⟨rfl, rfl⟩ | ⟨a, len, cap, m, k, D, Pl, rfl, hb, hl, hm, hmm, rfl, hx⟩
  · exact ⟨[], ⟨none, 0, rfl, Nat.le_refl _, Kd.C_nil _ _⟩, by simp⟩
  · have hlm : len ≤ m := by rw [hmm]; split <;> omega
    have each : ∀ i, i < len → ∃ y : α, (∃ c, c.length = d.sz ∧ d.K w y c ∧ ∀ (j : Nat) (u : Value), c[j]? = some u → w.cell? (a.add (i * d.sz + j)) = some u) ∧ G y := by
      intro i hi
      obtain ⟨cs', h1, h2⟩ := hx i (by omega)
      rw [hs] at h1
      obtain ⟨_, hlen, hcell⟩ := World.cells?_some h1
      obtain ⟨y, hy, hg⟩ := he H enc w base spare held k cs' _ h2
      refine ⟨y, ⟨cs', hlen, hy, fun j u hu => ?_⟩, hg⟩
      have hj : j < d.sz := by
        have := (List.getElem?_eq_some_iff.1 hu).1
        omega
      have := hcell j hj
      rw [add_add] at this
      rw [this]
      exact hu
    by_cases h0 : len = 0
    · subst h0
      exact ⟨[], ⟨some a, cap, rfl, Nat.zero_le _, rfl, by simp, fun h => absurd h (Nat.lt_irrefl 0)⟩, by simp⟩
    · have : Nonempty α := ⟨(each 0 (by omega)).choose⟩
      have : Inhabited α := Classical.inhabited_of_nonempty this
      obtain ⟨f, hf⟩ := Go.Deep.choose_lt each
      refine ⟨(List.range len).map f, ⟨some a, cap, by simp, by simpa using hl, by simp, by unfold maxLen at hm; simp; omega, fun _ => ⟨a, rfl, ?_⟩⟩, ?_⟩
      · intro j p hj
        have hjl : j < len := by have := (List.getElem?_eq_some_iff.1 hj).1; simpa using this
        have : f j = p := by
          rw [List.getElem?_map, List.getElem?_range hjl] at hj
          simpa using hj
        subst this
        exact (hf j hjl).1
      · intro x hx
        obtain ⟨i, hi, rfl⟩ := List.mem_map.1 hx
        exact (hf i (List.mem_range.1 hi)).2

/-- A struct's fields from one on, that lie side by side. -/
def OpensF {α : Type} (P : Program) (fs : List Field) (off : Nat) (d : Kd α) (G : α → Prop) : Prop :=
  ∀ (H : Type) (enc : TypeId × Value → H) (w : World) (base : Nat) (spare : Nat → Bool) (held : Bool) (n : Nat) (cs : List Value) (xs : List (DataW H × List MemPlace)),
    xs.length = fs.length → cs.length = off + d.sz → (∀ (i : Nat) (f : Field), fs[i]? = some f → DataW.trod enc P w base spare held n f.type ((cs.drop f.offset).take (P.cellsOf f.type)) = xs[i]?) → ∃ a, d.K w a (cs.drop off) ∧ G a

theorem opensF_last {α : Type} {P : Program} {f : Field} {off : Nat} {d : Kd α} {G : α → Prop} (o : f.offset = off) (s : P.cellsOf f.type = d.sz) (h : Opens P f.type d G) : OpensF P [f] off d G := by
  intro H enc w base spare held n cs xs hxl hcl hf
  have g := hf 0 f rfl
  rw [List.getElem?_eq_getElem (by rw [hxl]; simp)] at g
  obtain ⟨y, k, q⟩ := h _ _ _ _ _ _ _ _ _ g
  refine ⟨y, ?_, q⟩
  have : (cs.drop off).take d.sz = cs.drop off := List.take_of_length_le (by simp; omega)
  rwa [o, s, this] at k

theorem opensF_cons {α β : Type} {P : Program} {f : Field} {fs : List Field} {off : Nat} {d0 : Kd α} {d1 : Kd β} {G0 : α → Prop} {G1 : β → Prop} (o : f.offset = off) (s : P.cellsOf f.type = d0.sz) (h0 : Opens P f.type d0 G0) (h1 : OpensF P fs (off + d0.sz) d1 G1) :
    OpensF P (f :: fs) off (Kd.pair d0 d1) (fun x => G0 x.1 ∧ G1 x.2) := by
  intro H enc w base spare held n cs xs hxl hcl hf
  have hcl' : cs.length = off + (d0.sz + d1.sz) := hcl
  have g := hf 0 f rfl
  rw [List.getElem?_eq_getElem (by rw [hxl]; simp)] at g
  obtain ⟨y, k, q⟩ := h0 _ _ _ _ _ _ _ _ _ g
  match xs, hxl with
  | x :: xs, hxl =>
    obtain ⟨z, k1, q1⟩ := h1 H enc w base spare held n cs xs (by simpa using hxl) (by omega) (fun i f hi => by simpa using hf (i + 1) f (by simpa using hi))
    refine ⟨(y, z), ⟨_, _, ?_, k, k1⟩, q, q1⟩
    rw [o, s, ← List.drop_drop, List.take_append_drop]

theorem opens_struct {α : Type} {P : Program} {t : TypeId} {fs : Array Field} {d : Kd α} {G : α → Prop} (ht : P.underlying t = some (.struct fs)) (hs : P.cellsOf t = d.sz) (h : OpensF P fs.toList 0 d G) : Opens P t d G := by
  intro H enc w base spare held n cs x hx
  obtain ⟨xs, k, _, _, hl, hxl, hf⟩ := DataW.trod_struct ht hx
  obtain ⟨a, hk, hg⟩ := h H enc w base spare held k cs xs (by simpa using hxl) (by omega) (fun i f hi => hf i f (by simpa using hi))
  exact ⟨a, by simpa using hk, hg⟩

theorem opens_mono {α : Type} {P : Program} {t : TypeId} {d : Kd α} {G G' : α → Prop} (h : Opens P t d G) (hg : ∀ a, G a → G' a) : Opens P t d G' := by
  intro H enc w base spare held n cs x hx
  obtain ⟨a, hk, h2⟩ := h H enc w base spare held n cs x hx
  exact ⟨a, hk, hg a h2⟩

end Go.Proofs.YtfefpbnhpncmlaaW.Opens
namespace Go.Proofs.Ytfefpbnhpncmlaa.CatZ
open Go.RowKit Go.Proofs.YtfefpbnhpncmlaaW.PrintWords Go.Proofs.YtfefpbnhpncmlaaW.Opens Go.Proofs.Ytfefpbnhpncmlaa.CatK Go.Proofs.Ytfefpbnhpncmlaa.CodL Go.Proofs.Ytfefpbnhpncmlaa.CatL Go.Proofs.Ytfefpbnhpncmlaa.PtrE Go.Proofs.Ytfefpbnhpncmlaa.B8
set_option linter.unusedVariables false

theorem byte_wf {x : Int} (h : (Lit.int .u8 x).wf = true) : 0 ≤ x ∧ x < 256 := by
  have : 0 ≤ x ∧ x ≤ 255 := by simpa [Lit.wf, IntKind.min, IntKind.max, IntKind.signed, IntKind.bits] using h
  omega
theorem u32_wf {x : Int} (h : (Lit.int .u32 x).wf = true) : 0 ≤ x ∧ x < 4294967296 := by
  have : 0 ≤ x ∧ x ≤ 4294967295 := by simpa [Lit.wf, IntKind.min, IntKind.max, IntKind.signed, IntKind.bits] using h
  omega
/-- 32 bytes, side by side. -/
def k32 : Kd (List Int) where
  sz := 32
  E := []
  K := fun _ l cs => cs = l.map (Value.int .u8) ∧ l.length = 32
  M := fun _ _ _ l cs => cs = l.map (Value.int .u8) ∧ l.length = 32
  K_len := fun h => by rw [h.1, List.length_map, h.2]
  K_one := fun h u hu => by
    rw [h.1] at hu
    obtain ⟨x, _, rfl⟩ := List.mem_map.1 hu
    rfl
  K_below := fun _ h => h
  K_of_M := fun h => h
  M_mono := fun _ h => h
  M_bound := fun h => h
  M_move := fun _ h => h
  M_lower := fun _ h => h
theorem cells54 : Try.prog.cellsOf 54 = 32 := by kernel_rfl
theorem cells5 : Try.prog.cellsOf 5 = 1 := by kernel_rfl
theorem under54 : Try.prog.underlying 54 = some (.array 32 5) := by kernel_rfl
theorem opens54 : Opens Try.prog 54 k32 (fun l => Byt l) := by
  intro H enc w base spare held n cs x h
  obtain ⟨xs, m, _, _, hl, hxl, hf⟩ := DataW.trod_array under54 h
  rw [cells54] at hl
  rw [cells5] at hf
  have each : ∀ i, i < 32 → ∃ y : Int, cs[i]? = some (.int .u8 y) ∧ 0 ≤ y ∧ y < 256 := by
    intro i hi
    have h1 := hf i hi
    rw [List.getElem?_eq_getElem (by omega)] at h1
    have e : (cs.drop (i * 1)).take 1 = [cs[i]'(by omega)] := by
      rw [Nat.mul_one, List.drop_eq_getElem_cons (by omega)]
      rfl
    rw [e] at h1
    obtain ⟨y, hy, _, hw⟩ := DataW.trod_int Try.underlying5 h1
    have : cs[i]'(by omega) = .int .u8 y := by simpa using hy
    exact ⟨y, by rw [List.getElem?_eq_getElem (by omega), this], byte_wf hw⟩
  obtain ⟨f, hff⟩ := Go.Deep.choose_lt each
  refine ⟨(List.range 32).map f, ⟨?_, by simp⟩, ?_⟩
  · apply List.ext_getElem?
    intro i
    by_cases hi : i < 32
    · rw [(hff i hi).1]
      simp [hi]
    · rw [List.getElem?_eq_none (by omega), List.getElem?_eq_none (by simp; omega)]
  · intro y hy
    obtain ⟨i, hi, rfl⟩ := List.mem_map.1 hy
    exact (hff i (List.mem_range.1 hi)).2
theorem cells56 : Try.prog.cellsOf 56 = 36 := by kernel_rfl
theorem cells3 : Try.prog.cellsOf 3 = 1 := by kernel_rfl
theorem cells53 : Try.prog.cellsOf 53 = 1 := by kernel_rfl
abbrev k5 : Kd (Int × Int × Int × Int × List Int) := Kd.pair (Kd.int .i64) (Kd.pair (Kd.int .i64) (Kd.pair (Kd.int .i64) (Kd.pair (Kd.int .u32) k32)))
theorem opens56' : Opens Try.prog 56 k5 (fun x => (Lit.int .i64 x.1).wf = true ∧ (Lit.int .i64 x.2.1).wf = true ∧ (Lit.int .i64 x.2.2.1).wf = true ∧ (Lit.int .u32 x.2.2.2.1).wf = true ∧ Byt x.2.2.2.2) := by
  refine opens_struct underl56 (by rw [cells56]; rfl) ?_
  have hf := fields56
  generalize (Try.prog.fieldsOf 56).toList = fs at hf
  rcases fs with _ | ⟨f0, fs⟩; · simp at hf
  rcases fs with _ | ⟨f1, fs⟩; · simp at hf
  rcases fs with _ | ⟨f2, fs⟩; · simp at hf
  rcases fs with _ | ⟨f3, fs⟩; · simp at hf
  rcases fs with _ | ⟨f4, fs⟩; · simp at hf
  rcases fs with _ | ⟨f5, fs⟩
  · simp only [List.map_cons, List.map_nil, List.cons.injEq, Prod.mk.injEq, and_true] at hf
    obtain ⟨⟨n0, t0, o0⟩, ⟨n1, t1, o1⟩, ⟨n2, t2, o2⟩, ⟨n3, t3, o3⟩, n4, t4, o4⟩ := hf
    refine opensF_cons (P := Try.prog) (d0 := Kd.int .i64) (d1 := (Kd.pair (Kd.int .i64) (Kd.pair (Kd.int .i64) (Kd.pair (Kd.int .u32) k32)))) (G0 := fun x => (Lit.int .i64 x).wf = true) (G1 := fun x : Int × Int × Int × List Int => (Lit.int .i64 x.1).wf = true ∧ (Lit.int .i64 x.2.1).wf = true ∧ (Lit.int .u32 x.2.2.1).wf = true ∧ Byt x.2.2.2) o0 (by rw [t0]; exact cells3) (by rw [t0]; exact opens_int Try.underlying3) ?_
    refine opensF_cons (P := Try.prog) (d0 := Kd.int .i64) (d1 := (Kd.pair (Kd.int .i64) (Kd.pair (Kd.int .u32) k32))) (G0 := fun x => (Lit.int .i64 x).wf = true) (G1 := fun x : Int × Int × List Int => (Lit.int .i64 x.1).wf = true ∧ (Lit.int .u32 x.2.1).wf = true ∧ Byt x.2.2) o1 (by rw [t1]; exact cells3) (by rw [t1]; exact opens_int Try.underlying3) ?_
    refine opensF_cons (P := Try.prog) (d0 := Kd.int .i64) (d1 := (Kd.pair (Kd.int .u32) k32)) (G0 := fun x => (Lit.int .i64 x).wf = true) (G1 := fun x : Int × List Int => (Lit.int .u32 x.1).wf = true ∧ Byt x.2) o2 (by rw [t2]; exact cells3) (by rw [t2]; exact opens_int Try.underlying3) ?_
    refine opensF_cons (P := Try.prog) (d0 := Kd.int .u32) (d1 := k32) (G0 := fun x => (Lit.int .u32 x).wf = true) (G1 := fun x : List Int => Byt x) o3 (by rw [t3]; exact cells53) (by rw [t3]; exact opens_int Try.underlying53) ?_
    exact opensF_last (P := Try.prog) (d := k32) o4 (by rw [t4]; exact cells54) (by rw [t4]; exact opens54)
  · simp at hf
theorem opens56 : Opens Try.prog 56 kP (fun _ => True) := by
  intro H enc w base spare held n cs x h
  obtain ⟨⟨a, b, c, d, l⟩, hk, _, _, _, h4, h5⟩ := opens56' H enc w base spare held n cs x h
  obtain ⟨c0, r0, rfl, hk0, c1, r1, rfl, hk1, c2, r2, rfl, hk2, c3, c4, rfl, hk3, hk4⟩ := hk
  have e0 : c0 = [.int .i64 a] := hk0
  have e1 : c1 = [.int .i64 b] := hk1
  have e2 : c2 = [.int .i64 c] := hk2
  have e3 : c3 = [.int .u32 d] := hk3
  obtain ⟨e4, h32⟩ := hk4
  subst e0 e1 e2 e3 e4
  have hu := u32_wf h4
  refine ⟨⟨a, b, c, d, l⟩, ⟨?_, ⟨hu.1, hu.2, h32, h5⟩⟩, trivial⟩
  simp [encP]
theorem opens38 : Opens Try.prog 38 (Kd.slice 56 kP) (fun _ => True) := opens_mono (opens_slice Try.underlying38 (by rw [cells56]; rfl) opens56) (fun _ _ => trivial)
end Go.Proofs.Ytfefpbnhpncmlaa.CatZ
