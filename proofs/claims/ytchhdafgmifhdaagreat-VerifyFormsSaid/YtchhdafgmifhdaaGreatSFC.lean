/- Own texts, one behind the other, each with what the claim uses of it: CodA CodB CodC TxtK CmpK KpA LeaA LeaB KpB LeaC PtrF PtrG LeaD LeaE LeaF LeaG LeaH PtrH PtrI PtrK PtrJ PtrL LeaI LeaJ LeaK LeaL RegK LeaN LeaO. -/
import Derived.Test.YtchhdafgmifhdaaGreatChecked
import GoSem.Claim
import GoSem.ClaimJoined
import GoSem.ClaimMapViews
import Derived.JoinedTies
import Derived.KernelRfl
import Derived.Test.YtchhdafgmifhdaaGreatProg
import Derived.Below
import Derived.Deep.Draws
import Derived.Deep.AppendLies
import Derived.Maps.AppendAt
import Derived.OwnWalk
import Derived.Laws.BytesArg
import Derived.Laws.MakeOwn
import Derived.Laws.OwnMore
import Derived.Deep.OwnRows
import Derived.Tactics
import Derived.Lib.ConvBytes
import Derived.Laws.Slices
import Derived.WalkKit
import Derived.RowKit3
import Derived.Deep.LoopGhost
import Derived.Deep.QuietTactic
import Derived.BigQuiet
import Derived.WideLaws
import Derived.Deep.DeepCutAuto
import Derived.Deep.CutBlock
import Derived.Deep.RegionHeld3
import Derived.Laws.Rows
import Derived.Lib.AppendStr
import Derived.ArgAppend
import Derived.Laws.IdiomCopy
import Derived.OrdersHeld
import Derived.Laws.BitsLemmas
import Derived.RowKit
import Derived.Laws.StructEq
import Derived.Deep.Slices
import Derived.WalkSpells
import Derived.WalkSmall
import Derived.Laws.Tables
import Derived.Deep.WholeRow
import Derived.StillTailTactics
import Derived.MapKept
import Derived.Laws.CopyOwn
import Derived.Maps.RangeRun
import Derived.Deep.MidRow
import Derived.Laws.Cover3
import Derived.Shelf.Strconv.Itoa0
import Derived.Shelf.Slices.Turned
import Derived.Shelf.Bytes.SlSearch0
import Derived.Shelf.Bytes.SlEqualAll
import Derived.Shelf.Bytes.Small
import Derived.Outline
import Derived.Lib.EndianBits
import Derived.ShutString
import Derived.Lib.BytesEntry
import Derived.Lib.Bytealg
import Derived.Laws.Externs
import Derived.Lib.SmallJoins
import Derived.Deep.RegionHeld
import Derived.OpenShut
import Derived.ProofKit
import Derived.ChangeOld
import Derived.SizedLaws
import Derived.Test.YtchhdafgmifhdaaGreatWWords
import Derived.Test.YtchhdafgmifhdaaGreatSFA
import Derived.Test.YtchhdafgmifhdaaGreatSFB
namespace Go.Proofs.YtchhdafgmifhdaaGreat.CodA
open Go.RowKit Go.Proofs.YtchhdafgmifhdaaGreat.B8 Go.Proofs.YtchhdafgmifhdaaGreat.CodL Go.Proofs.YtchhdafgmifhdaaGreat.PVerifyForms Go.Proofs.YtchhdafgmifhdaaGreatW.PrintWords Go.Proofs.YtchhdafgmifhdaaGreatW.PrintLast Go.Proofs.YtchhdafgmifhdaaGreatW.PrintMore
attribute [local go_sem] max2_int min2_int max_two min_two
set_option linter.unusedVariables false
set_option linter.unusedSimpArgs false

theorem blen_half {n : Nat} (h : n ≠ 0) : blen n = 1 + blen (n / 2) := by
  unfold blen
  rw [if_neg h]
  by_cases h1 : n / 2 = 0
  · rw [if_pos h1]
    have : n = 1 := by omega
    subst this
    decide
  · rw [if_neg h1]
    have h2 : 2 ≤ n := by omega
    rw [show Nat.log2 n = Nat.log2 (n / 2) + 1 by rw [Nat.log2_def n, if_pos h2]]
    omega
theorem bitLen_blen (f n : Nat) (h : n < 2 ^ f) : Lib.bitLenAux f n = blen n := by
  induction f generalizing n with
  | zero =>
    have : n = 0 := by simpa using h
    subst this
    rfl
  | succ f ih =>
    unfold Lib.bitLenAux
    by_cases h0 : n = 0
    · subst h0; rfl
    · rw [if_neg h0, ih (n / 2) (by rw [Nat.pow_succ] at h; omega), blen_half h0]
theorem bitLen_eq (n : Nat) (h : n < 18446744073709551616) : Lib.bitLen n = blen n := bitLen_blen 64 n (by omega)
theorem blen_le (n : Nat) (h : n < 18446744073709551616) : blen n ≤ 64 := by
  unfold blen
  split
  · omega
  · rename_i h0
    have := (Nat.log2_lt (k := 64) h0).2 (by omega)
    omega

theorem len_calls (n : Nat) (h : n < 18446744073709551616) (w : World) : Calls Tryz.prog 157 #[.int .u64 (n : Int)] w fun e w' => e = .returned (.int .i64 (blen n : Int)) ∧ w = w' := by
  refine (Tryz.bits_Len64 (n : Int) w (by omega) (by omega)).mono ?_
  rintro e w' ⟨rfl, rfl⟩
  refine ⟨?_, rfl⟩
  rw [Int.toNat_natCast, bitLen_eq n h]

theorem groups_calls (n : Nat) (h : n < 18446744073709551616) (w : World) : Calls Tryz.prog 145 #[.int .u64 (n : Int)] w fun e w' => e = .returned (.int .i64 (glen n : Int)) ∧ w = w' := by
  have hb := blen_le n h
  have hg := Aside0.mk (glen_blen n)
  have hl := Aside0.mk (len_calls n h)
  clear h
  go_enter Tryz.func145, Tryz.ntmps145
  go_wp2_with fail
  refine (hl.out _).mono ?_
  rintro e w' ⟨rfl, rfl⟩
  generalize blen n = b at *
  go_wp2
  all_goals
    go_ret
    refine ⟨?_, rfl⟩
    rw [hg.out]
    exact ret_int (by omega)

/-- A row of bytes is told that the call itself made. -/
def Tells (w : World) (l : List Int) (e : Ending) (w' : World) : Prop := ∃ v, e = .returned v ∧ R8 w' w.heap.size v l ∧ Below w.heap.size w w'

theorem wraps_u8 (n : Int) (h₀ : 0 ≤ n) (h₁ : n < 2 ^ 8) : IntKind.u8.wrap n = n := by rw [IntKind.wrap_u8]; omega
theorem or_fin : ∀ a : Fin 256, (a.val ||| 128) = a.val % 128 + 128 := by decide +kernel
theorem or128 (m : Nat) : bits .or .u8 ((m : Int) % 256) 128 = (m : Int) % 128 + 128 := by
  have h := (bits_nat .u8 8 (by decide) wraps_u8 (m % 256) 128 (by omega) (by decide)).2
  have h2 := or_fin ⟨m % 256, by omega⟩
  simp only at h2
  rw [show ((m : Int) % 256) = ((m % 256 : Nat) : Int) by omega, show (128 : Int) = ((128 : Nat) : Int) from rfl, h, h2]
  omega

set_option maxRecDepth 100000 in
set_option maxHeartbeats 1000000 in
theorem short_calls (A : Option Addr) (c : Nat) (l : List Int) (n : Nat) (w : World) (hr : C8 w A l.length l) (hm : l.length ≤ 1000000) (hn : n < 18446744073709551616) :
    Calls Tryz.prog 118 #[.slice A l.length c, .int .u64 (n : Int)] w (Tells w (l ++ shortL n)) := by
  have HR := Aside0.mk (Kd.C_below hr (below_alloc (Below.refl w.heap.size w) (.cells #[] 5)))
  have HO := Aside0.mk (R8_new w w.heap.size (Nat.le_refl _) [] (by simp))
  have HB := Aside0.mk (below_alloc (Below.refl w.heap.size w) (.cells #[] 5))
  have hs : w.heap.size ≤ (w.alloc (.cells #[] 5)).heap.size := by simp
  have hg := Aside0.mk (groups_calls n hn)
  clear hr
  go_enter Tryz.func118, Tryz.ntmps118
  go_wp2_with (at_builtin; refine appRow (w0 := w) w.heap.size rfl (.tmp 7) (.tmp 8) rfl _ [] l A l.length c rfl rfl HO.out HR.out HB.out hs (by simp; omega) ?_; intro v1 w1 ho hb hgr; have HO1 := Aside0.mk ho; have HB1 := Aside0.mk hb; clear ho hb hgr)
  refine (hg.out _).mono ?_
  rintro e w2 ⟨rfl, rfl⟩
  clear HO HR HB hs hg
  have hp1 := glen_pos n
  have hp2 := glen_ten hn
  go_wp2
  go_loopw [1, 5, 6] (fun v1 v5 v6 wr => ∃ (m : Nat) (out : List Int), v1 = .int .u64 (m : Int) ∧ v6 = .int .i64 ((glen m : Int) - 1) ∧ m ≤ n ∧ Aside0 (out ++ shortL m = l ++ shortL n) ∧ Aside0 (R8 wr w.heap.size v5 out) ∧ Aside0 (Below w.heap.size w wr)) (fun _ _ v _ => (intOf v).toNat)
  case atStart => exact ⟨n, l, rfl, rfl, Nat.le_refl _, ⟨rfl⟩, HO1, HB1⟩
  case round =>
    obtain ⟨m, out, rfl, rfl, hmn, he, HO, HB⟩ := hrel
    have hlen : out.length ≤ 1000010 := by
      have h1 := congrArg List.length he.out
      simp only [List.length_append] at h1
      have h2 : (shortL n).length = glen n := rfl
      omega
    have hq1 := glen_pos m
    have hq2 := glen_ten (n := m) (by omega)
    clear HO1 HB1
    have hs := HB.out.size
    by_cases hlt : m < 128
    · have hg1 := glen_small hlt
      have HS := Aside0.mk (shortL_small hlt)
      rw [hg1]
      go_wp2_with (at_builtin; refine app1 (w0 := w) w.heap.size rfl (.tmp 25) (.tmp 28) rfl _ out _ rfl rfl HO.out HB.out hs (by omega) ?_; intro v2 w2 ho hb; have HO2 := Aside0.mk ho; have HB2 := Aside0.mk hb; clear ho hb)
      go_ret
      refine ⟨_, rfl, ?_, HB2.out⟩
      have h3 := he.out
      rw [HS.out] at h3
      rw [← h3]
      exact HO2.out
    · have hgm := glen_more hlt
      have hg3 := glen_pos (m / 128)
      have HS := Aside0.mk (shortL_more hlt)
      have hgt : (0 : Int) < (glen m : Int) - 1 := by omega
      go_wp2_with (at_builtin; refine app1 (w0 := w) w.heap.size rfl (.tmp 17) (.tmp 21) rfl _ out _ rfl rfl HO.out HB.out hs (by omega) ?_; intro v2 w2 ho hb; have HO2 := Aside0.mk ho; have HB2 := Aside0.mk hb; clear ho hb)
      go_roundw
      case rel => exact ⟨m / 128, _, by go_num, rfl, by omega, ⟨by rw [List.append_assoc, ← he.out, HS.out, or128]; simp⟩, HO2, HB2⟩
      case measure => simp [intOf]; omega
end Go.Proofs.YtchhdafgmifhdaaGreat.CodA
namespace Go.Proofs.YtchhdafgmifhdaaGreat.CodB
open Go.RowKit Go.Proofs.YtchhdafgmifhdaaGreat.B8 Go.Proofs.YtchhdafgmifhdaaGreat.CodL Go.Proofs.YtchhdafgmifhdaaGreat.CodA Go.Proofs.YtchhdafgmifhdaaGreat.PVerifyForms Go.Proofs.YtchhdafgmifhdaaGreatW.PrintWords Go.Proofs.YtchhdafgmifhdaaGreatW.PrintLast Go.Proofs.YtchhdafgmifhdaaGreatW.PrintMore
attribute [local go_sem] max2_int min2_int max_two min_two
set_option linter.unusedVariables false
set_option linter.unusedSimpArgs false

theorem pow256 (j : Nat) : (2 : Int) ^ (8 * j) = 256 ^ j := by rw [Int.pow_mul]; rfl

theorem flat_fixed_len (size : Nat) (l : List Int) : (l.flatMap (fixedL size)).length = l.length * size := by
  induction l with
  | nil => simp
  | cons a l ih => rw [List.flatMap_cons, List.length_append, fixedL_len, ih, List.length_cons, Nat.add_mul]; omega

set_option maxRecDepth 100000 in
set_option maxHeartbeats 2000000 in
theorem fixed_calls (A : Option Addr) (c : Nat) (l : List Int) (size : Nat) (B : Option Addr) (d : Nat) (ns : List Int) (w : World) (hr : C8 w A l.length l) (hm : l.length ≤ 1000000) (h1 : 1 ≤ size) (h8 : size ≤ 8)
    (hq : Kd.C (Kd.int .u64) w B ns.length ns) (hk : ns.length ≤ 4) (hn : ∀ x ∈ ns, 0 ≤ x ∧ x < 18446744073709551616) :
    Calls Tryz.prog 146 #[.slice A l.length c, .int .i64 (size : Int), .slice B ns.length d] w (Tells w (l ++ ns.flatMap (fixedL size))) := by
  have HR := Aside0.mk (Kd.C_below hr (below_alloc (Below.refl w.heap.size w) (.cells #[] 5)))
  have HO := Aside0.mk (R8_new w w.heap.size (Nat.le_refl _) [] (by simp))
  have HB := Aside0.mk (below_alloc (Below.refl w.heap.size w) (.cells #[] 5))
  have hs : w.heap.size ≤ (w.alloc (.cells #[] 5)).heap.size := by simp
  have HQ := Aside0.mk hq
  have HN := Aside0.mk hn
  clear hr hq hn
  go_enter Tryz.func146, Tryz.ntmps146
  go_wp2_with (at_builtin; refine appRow (w0 := w) w.heap.size rfl (.tmp 11) (.tmp 12) rfl _ [] l A l.length c rfl rfl HO.out HR.out HB.out hs (by simp; omega) ?_; intro v1 w1 ho hb hgr; have HO1 := Aside0.mk ho; have HB1 := Aside0.mk hb; clear ho hb hgr)
  clear HO HR HB hs
  go_loopw [7, 23] (fun v7 v23 wr => ∃ (k : Nat) (out : List Int), v23 = .int .i64 (k : Int) ∧ k ≤ ns.length ∧ Aside0 (out = l ++ (ns.take k).flatMap (fixedL size)) ∧ Aside0 (R8 wr w.heap.size v7 out) ∧ Aside0 (Below w.heap.size w wr)) (fun _ v _ => ns.length - (intOf v).toNat)
  case atStart => exact ⟨0, l, rfl, Nat.zero_le _, ⟨by simp⟩, HO1, HB1⟩
  case round =>
    obtain ⟨k, out, rfl, hkn, he, HO, HB⟩ := hrel
    clear HO1 HB1
    obtain ⟨wo, rfl⟩ : ∃ wo : World, wo = wr := ⟨_, rfl⟩
    by_cases hlt : k < ns.length
    · obtain ⟨bq, off, hB, hbq, hx⟩ := C_at 0 HQ.out (by omega)
      subst hB
      have hx0 := hx k hlt
      have hc0 := (HB.out.cell (p := ⟨bq, off + k, none⟩) hbq).trans hx0
      clear hx hx0
      have hxn := HN.out (ns.getD k 0) (by simp [hlt])
      generalize hX : ns.getD k 0 = x at *
      obtain ⟨hx0, hx1⟩ := hxn
      have HX := Aside0.mk hX
      clear hX
      go_wp2
      go_loopw [7, 28] (fun v7 v28 wr => ∃ (j : Nat) (o2 : List Int), v28 = .int .i64 (j : Int) ∧ j ≤ size ∧ Aside0 (o2 = out ++ fixedL j x) ∧ Aside0 (R8 wr w.heap.size v7 o2) ∧ Aside0 (Below w.heap.size w wr)) (fun _ v _ => size - (intOf v).toNat)
      case atStart => exact ⟨0, out, rfl, Nat.zero_le _, ⟨by simp [fixedL]⟩, HO, HB⟩
      case round =>
        obtain ⟨j, o2, rfl, hj, he2, HO2, HB2⟩ := hrel
        have hlen : out.length ≤ 1000032 := by
          rw [he.out, List.length_append]
          rw [flat_fixed_len, List.length_take]
          have : min k ns.length * size ≤ 4 * 8 := Nat.mul_le_mul (by omega) h8
          omega
        have hlen2 : o2.length ≤ 1000040 := by rw [he2.out, List.length_append, fixedL_len]; omega
        clear hc0
        have hs := HB2.out.size
        by_cases hjl : j < size
        · go_wp2_with (at_builtin; refine app1 (w0 := w) w.heap.size rfl (.tmp 31) (.tmp 37) rfl _ o2 _ rfl rfl HO2.out HB2.out hs (by omega) ?_; intro v2 w2 ho hb; have HO3 := Aside0.mk ho; have HB3 := Aside0.mk hb; clear ho hb)
          go_roundw
          case rel => exact ⟨j + 1, _, by go_num, by omega, ⟨by rw [he2.out, List.append_assoc, fixedL_succ, pow256]⟩, HO3, HB3⟩
          case measure => simp [intOf]; omega
        · obtain rfl : j = size := by omega
          go_wp2
          go_roundw
          case rel => exact ⟨k + 1, o2, by go_num, by omega, ⟨by rw [he2.out, he.out, List.take_add_one, List.flatMap_append]; simp [hlt, ← HX.out]⟩, HO2, HB2⟩
          case measure => simp [intOf]; omega
    · obtain rfl : k = ns.length := by omega
      go_wp2
      go_ret
      exact ⟨_, rfl, by have := he.out; rw [List.take_length] at this; rw [← this]; exact HO.out, HB.out⟩

theorem wraps_u64 (n : Int) (h₀ : 0 ≤ n) (h₁ : n < 2 ^ 64) : IntKind.u64.wrap n = n := by rw [IntKind.wrap_u64]; omega
theorem take_snoc' {l : List Int} {j : Nat} (h : j < l.length) : l.take (j + 1) = l.take j ++ [l.getD j 0] := by
  rw [List.take_add_one]
  simp [h]
theorem pow_le {j : Nat} (h : j < 8) : (1 : Int) ≤ 256 ^ j ∧ (256 : Int) ^ j ≤ 72057594037927936 := by
  obtain rfl | rfl | rfl | rfl | rfl | rfl | rfl | rfl : j = 0 ∨ j = 1 ∨ j = 2 ∨ j = 3 ∨ j = 4 ∨ j = 5 ∨ j = 6 ∨ j = 7 := by omega
  all_goals simp
theorem or_step {l : List Int} (hb : Byt l) {j : Nat} (hj : j < l.length) (h8 : j < 8) :
    bits .or .u64 (leL (l.take j)) (IntKind.u64.wrap (IntKind.u64.wrap (l[j]?.getD 0) * 2 ^ (8 * j))) = leL (l.take (j + 1)) := by
  have h1 := hb.getD j
  have h2 : l[j]?.getD 0 = l.getD j 0 := by simp
  have h3 := leL_bound (hb.take j)
  have hl : (l.take j).length = j := by rw [List.length_take]; omega
  rw [hl] at h3
  have h4 := pow_le h8
  rw [take_snoc' hj, leL_snoc, hl, h2, pow256]
  generalize l.getD j 0 = b at *
  have h5 : 0 ≤ b * 256 ^ j := Int.mul_nonneg h1.1 (by omega)
  have h6 : b * 256 ^ j ≤ 255 * 72057594037927936 := Int.mul_le_mul (by omega) h4.2 (by omega) (by omega)
  rw [wraps_u64 b (by omega) (by omega), wraps_u64 _ h5 (by omega), Int.mul_comm (256 ^ j) b]
  refine Go.bits_join_low .u64 64 (by decide) wraps_u64 (8 * j) _ _ h3.1 (by rw [pow256]; exact h3.2) (by omega) h5 ?_ (by omega)
  rw [pow256]
  exact Int.mul_emod_left _ _

/-- What a number, and bytes, and that all is right, are told. -/
def TellsTake (w : World) (n : Int) (l : List Int) (e : Ending) (w' : World) : Prop := ∃ v, e = .returned (.tuple #[.int .u64 n, v, .bool true]) ∧ R8 w' w.heap.size v l ∧ Below w.heap.size w w'
set_option maxRecDepth 100000 in
set_option maxHeartbeats 2000000 in
theorem take_calls (A : Option Addr) (c : Nat) (l : List Int) (size : Nat) (w : World) (hr : C8 w A l.length l) (hb : Byt l) (hc : l.length ≤ c) (hm : l.length ≤ 1000000) (h1 : 1 ≤ size) (h8 : size ≤ 8) (hs : size ≤ l.length) :
    Calls Tryz.prog 165 #[.slice A l.length c, .int .i64 (size : Int)] w (TellsTake w (leL (l.take size)) (l.drop size)) := by
  have HR := Aside0.mk hr
  have HBY := Aside0.mk hb
  have hcut := cut8_to A l.length c size hs hc
  have hcut2 := cut8_from A l.length c size hs
  have HD := Aside0.mk (C8_drop hr hc hs)
  generalize (if c = size then A else A.map (·.add size)) = A2 at hcut2 HD
  obtain ⟨bq, off, rfl, hbq, hx⟩ := C_at 0 hr (by omega)
  have HX := Aside0.mk hx
  clear hr hb hx
  go_enter Tryz.func165, Tryz.ntmps165
  go_wp2
  go_loop [4, 25] (fun v4 v25 => ∃ (j : Nat), v25 = .int .i64 (j : Int) ∧ j ≤ size ∧ v4 = .int .u64 (leL (l.take j))) (fun _ v => size - (intOf v).toNat)
  case atStart => exact ⟨0, rfl, Nat.zero_le _, by simp [leL]⟩
  case round =>
    obtain ⟨j, rfl, hj, rfl⟩ := hrel
    by_cases hjl : j < size
    · have hx0 := HX.out j (by omega)
      go_wp2
      go_round
      case rel => exact ⟨j + 1, by go_num, by omega, by rw [or_step HBY.out (by omega) (by omega)]⟩
      case measure => simp [intOf]; omega
    · obtain rfl : j = size := by omega
      have HR2 := Aside0.mk (Kd.C_below HD.out (below_alloc (Below.refl w.heap.size w) (.cells #[] 5)))
      have HO := Aside0.mk (R8_new w w.heap.size (Nat.le_refl _) [] (by simp))
      have HB := Aside0.mk (below_alloc (Below.refl w.heap.size w) (.cells #[] 5))
      have hs2 : w.heap.size ≤ (w.alloc (.cells #[] 5)).heap.size := by simp
      go_wp2_with (at_builtin; refine appRow (w0 := w) w.heap.size rfl (.tmp 39) (.tmp 42) rfl _ [] (l.drop j) A2 (l.length - j) (c - j) rfl rfl HO.out HR2.out HB.out hs2 (by simp; omega) ?_; intro v1 w1 ho hb hgr; have HO1 := Aside0.mk ho; have HB1 := Aside0.mk hb; clear ho hb hgr)
      go_ret3
      exact ⟨_, rfl, HO1.out, HB1.out⟩
end Go.Proofs.YtchhdafgmifhdaaGreat.CodB
namespace Go.Proofs.YtchhdafgmifhdaaGreat.CodC
open Go.RowKit Go.Proofs.YtchhdafgmifhdaaGreat.B8 Go.Proofs.YtchhdafgmifhdaaGreat.CodL Go.Proofs.YtchhdafgmifhdaaGreat.CodA Go.Proofs.YtchhdafgmifhdaaGreat.CodB Go.Proofs.YtchhdafgmifhdaaGreat.PVerifyForms Go.Proofs.YtchhdafgmifhdaaGreatW.PrintWords Go.Proofs.YtchhdafgmifhdaaGreatW.PrintLast Go.Proofs.YtchhdafgmifhdaaGreatW.PrintMore
attribute [local go_sem] max2_int min2_int max_two min_two
set_option linter.unusedVariables false
set_option linter.unusedSimpArgs false

theorem fail_calls (n : Int) (w : World) : Calls Tryz.prog 163 #[.int .i64 n] w fun e w' => e = .returned (.tuple #[.int .u64 0, .int .i64 0, .int .i64 n]) ∧ w = w' := by
  go_enter Tryz.func163, Tryz.ntmps163
  go_wp2
  go_ret3
  exact ⟨rfl, rfl⟩

theorem glen_up (n : Nat) : n < 128 ^ glen n := by
  induction n using shortL.induct with
  | case1 n h => rw [glen_small h]; omega
  | case2 n h ih =>
    rw [glen_more h, Nat.pow_succ]
    omega
theorem glen_of {m k : Nat} (h1 : m < 128 ^ (k + 1)) (h2 : 128 ^ k ≤ m ∨ k = 0) : glen m = k + 1 := by
  have h3 := glen_le (n := m) (k := k + 1) (by omega) h1
  have h4 := glen_up m
  have h5 := glen_pos m
  rcases h2 with h2 | h2
  · rcases Nat.lt_or_ge (glen m) (k + 1) with h6 | h6
    · have : 128 ^ glen m ≤ 128 ^ k := Nat.pow_le_pow_right (by decide) (by omega)
      omega
    · omega
  · omega
theorem glen_not {m k : Nat} (hk : 0 < k) (h1 : m < 128 ^ k) : glen m ≠ k + 1 := by
  have := glen_le hk h1
  omega

theorem andnot_fin : ∀ a : Fin 256, bits .andNot .u8 ((a.val : Nat) : Int) 128 = ((a.val % 128 : Nat) : Int) := by decide +kernel
theorem andnot128 (c : Int) (h0 : 0 ≤ c) (h1 : c < 256) : bits .andNot .u8 c 128 = c % 128 := by
  have := andnot_fin ⟨c.toNat, by omega⟩
  simp only [Int.toNat_of_nonneg h0] at this
  rw [this]
  omega
theorem sevenL_take {l : List Int} {j : Nat} (h : j < l.length) : sevenL (l.take (j + 1)) = sevenL (l.take j) + 128 ^ j * (l.getD j 0 % 128) := by
  rw [take_snoc' h, sevenL_snoc, List.length_take, Nat.min_eq_left (by omega)]
theorem pow128 (j : Nat) : (2 : Int) ^ (7 * j) = 128 ^ j := by rw [Int.pow_mul]; rfl
theorem pow_le' {j : Nat} (h : j ≤ 9) : (1 : Int) ≤ 128 ^ j ∧ (128 : Int) ^ j ≤ 9223372036854775808 := by
  obtain rfl | rfl | rfl | rfl | rfl | rfl | rfl | rfl | rfl | rfl : j = 0 ∨ j = 1 ∨ j = 2 ∨ j = 3 ∨ j = 4 ∨ j = 5 ∨ j = 6 ∨ j = 7 ∨ j = 8 ∨ j = 9 := by omega
  all_goals simp
theorem pow_le8 {j : Nat} (h : j ≤ 8) : (128 : Int) ^ j ≤ 72057594037927936 := by
  obtain rfl | rfl | rfl | rfl | rfl | rfl | rfl | rfl | rfl : j = 0 ∨ j = 1 ∨ j = 2 ∨ j = 3 ∨ j = 4 ∨ j = 5 ∨ j = 6 ∨ j = 7 ∨ j = 8 := by omega
  all_goals simp
/-- One group more. -/
theorem or_seven {l : List Int} (hb : Byt l) {j : Nat} (hj : j < l.length) (h9 : j ≤ 9) (hc : j = 9 → l.getD j 0 % 128 ≤ 1) :
    bits .or .u64 (sevenL (l.take j)) (IntKind.u64.wrap (l.getD j 0 % 128 * 2 ^ (7 * j))) = sevenL (l.take (j + 1)) ∧ sevenL (l.take (j + 1)) < 18446744073709551616 := by
  have h1 := hb.getD j
  have h3 := sevenL_bound (l.take j)
  have hl : (l.take j).length = j := by rw [List.length_take]; omega
  rw [hl] at h3
  have h4 := pow_le' h9
  rw [sevenL_take hj, pow128]
  generalize l.getD j 0 = b at *
  have h5 : 0 ≤ b % 128 * 128 ^ j := Int.mul_nonneg (by omega) (by omega)
  have h6 : b % 128 * 128 ^ j ≤ 9223372036854775808 := by
    by_cases h : j = 9
    · have := hc h
      subst h
      have : b % 128 = 0 ∨ b % 128 = 1 := by omega
      rcases this with h | h <;> rw [h] <;> simp
    · have h7 := pow_le8 (j := j) (by omega)
      have := Int.mul_le_mul (a := b % 128) (c := 127) (by omega) h7 (by omega) (by omega)
      omega
  rw [wraps_u64 _ h5 (by omega), Int.mul_comm (128 ^ j) (b % 128)]
  refine ⟨bits_join_low .u64 64 (by decide) wraps_u64 (7 * j) _ _ h3.1 (by rw [pow128]; exact h3.2) (by omega) h5 ?_ (by omega), by omega⟩
  rw [pow128]
  exact Int.mul_emod_left _ _
theorem blen_part (p : Nat) (h : p < 128) : blen p ≤ 7 ∧ (p ≤ 1 → blen p ≤ 1) ∧ (2 ≤ p → 2 ≤ blen p) := by
  refine ⟨?_, ?_, ?_⟩
  · unfold blen
    split
    · omega
    · have := log2_small h; omega
  · intro h1
    have : p = 0 ∨ p = 1 := by omega
    rcases this with rfl | rfl <;> decide
  · intro h2
    unfold blen
    rw [if_neg (by omega)]
    have := (Nat.le_log2 (n := p) (k := 1) (by omega)).2 (by omega)
    omega

set_option maxRecDepth 100000 in
set_option maxHeartbeats 2000000 in
theorem readShort_calls (A : Option Addr) (c : Nat) (l : List Int) (w : World) (hr : C8 w A l.length l) (hb : Byt l) (hc : l.length ≤ c) (hm : l.length ≤ 1000000) :
    Calls Tryz.prog 154 #[.slice A l.length c] w fun e w' => e = .returned (.tuple #[.int .u64 (readShort l).1, .int .i64 ((readShort l).2.1 : Int), .int .i64 (readShort l).2.2]) ∧ w = w' := by
  have HR := Aside0.mk hr
  have HBY := Aside0.mk hb
  clear hr hb
  obtain ⟨N, hN, hNl, hN10, hNe⟩ : ∃ N : Nat, (if (10 : Int) < (l.length : Int) then (10 : Int) else (l.length : Int)) = (N : Int) ∧ N ≤ l.length ∧ N ≤ 10 ∧ (N = 10 ∨ N = l.length) := by
    by_cases h : l.length ≤ 10
    · exact ⟨l.length, by rw [if_neg (by omega)], Nat.le_refl _, h, .inr rfl⟩
    · exact ⟨10, by rw [if_pos (by omega)]; rfl, by omega, Nat.le_refl _, .inl rfl⟩
  have hcut := cut8_to A l.length c N hNl hc
  go_enter Tryz.func154, Tryz.ntmps154
  go_wp2
  go_loop [2, 15] (fun v2 v15 => ∃ (j : Nat), v15 = .int .i64 (j : Int) ∧ j ≤ N ∧ v2 = .int .u64 (sevenL (l.take j)) ∧ Aside0 (∀ i, i < j → 128 ≤ l.getD i 0)) (fun _ v => N - (intOf v).toNat)
  case atStart => exact ⟨0, rfl, Nat.zero_le _, by simp [sevenL], ⟨fun i hi => by omega⟩⟩
  case round =>
    obtain ⟨j, rfl, hj, rfl, hlead⟩ := hrel
    have hjl := Aside0.mk (lead_ge (l := l) (by omega) hlead.out)
    by_cases hlt : j < N
    · obtain ⟨bq, off, rfl, hbq, hx⟩ := C_at 0 HR.out (by omega)
      have hx0 := hx j (by omega)
      have hb := HBY.out.getD j
      have HOS := Aside0.mk (or_seven HBY.out (j := j) (by omega) (by omega))
      have hsb := sevenL_bound (l.take (j + 1))
      have HSPEC := Aside0.mk (fun (h : l.getD j 0 < 128) => (by
        have h1 := lead_ge (l := l) (i := j) (by omega) hlead.out
        rcases Nat.lt_or_ge j (lead l) with h2 | h2
        · have := lead_lt h2; omega
        · omega : lead l = j))
      clear hx
      generalize hC : l.getD j 0 = cc at *
      have HC := Aside0.mk hC
      clear hC
      have hand := andnot128 cc hb.1 hb.2
      obtain ⟨p, hp⟩ : ∃ p : Nat, cc % 128 = (p : Int) := ⟨(cc % 128).toNat, by omega⟩
      have hp128 : p < 128 := by omega
      have hbl := blen_part p hp128
      have HL := Aside0.mk (len_calls p (by omega))
      rw [hp] at hand
      by_cases hA : j = 9 ∧ 2 ≤ p
      · have h4 := hbl.1
        have h3 := hbl.2.2 hA.2
        have h5 : 9 ≤ j := by omega
        have h6 : j ≤ 9 := by omega
        have h2 : (64 : Int) < (blen p : Int) + 7 * (j : Int) := by omega
        have hrs : readShort l = (0, 0, 11) := by
          have h7 := hjl.out
          unfold readShort
          by_cases h8 : 10 ≤ lead l
          · rw [if_pos h8]
          · have h9 : lead l = 9 := by omega
            have h10 : l.getD 9 0 = cc := by rw [← HC.out]; congr 1; omega
            have h11 := lead_le l
            have h12 := lead_at (l := l) (by omega)
            rw [if_neg h8, if_neg (by omega), if_pos (.inl ⟨h9, by omega⟩)]
        have HRS := Aside0.mk hrs
        have hw : IntKind.u64.wrap (p : Int) = (p : Int) := wraps_u64 _ (by omega) (by omega)
        clear hA hbl hp128 hrs
        have HP := Aside0.mk hp
        clear hp
        generalize blen p = bp at *
        go_wp2_with fail
        refine (HL.out _).mono ?_
        rintro e w1 ⟨rfl, rfl⟩
        go_wp2_with fail
        refine (fail_calls _ _).mono ?_
        rintro e w1 ⟨rfl, rfl⟩
        go_wp2
        go_ret3
        rw [HRS.out]
        exact ⟨rfl, rfl⟩
      · have h4 := hbl.1
        have h2 : (blen p : Int) + 7 * (j : Int) ≤ 64 := by
          by_cases h9 : j = 9
          · have := hbl.2.1 (by omega)
            omega
          · omega
        have hw : IntKind.u64.wrap (p : Int) = (p : Int) := wraps_u64 _ (by omega) (by omega)
        obtain ⟨hos, hosb⟩ := HOS.out (by omega)
        obtain ⟨m, hm'⟩ : ∃ m : Nat, sevenL (l.take (j + 1)) = (m : Int) := ⟨(sevenL (l.take (j + 1))).toNat, by omega⟩
        have HM := Aside0.mk hm'
        rw [hm', hp] at hos
        have hmb : m < 18446744073709551616 := by omega
        have HG := Aside0.mk (groups_calls m hmb)
        have hlen1 : (l.take (j + 1)).length = j + 1 := by rw [List.length_take]; omega
        have hm128 : m < 128 ^ (j + 1) := by
          have := hsb.2
          rw [hlen1, hm'] at this
          exact_mod_cast this
        have hms : (m : Int) = sevenL (l.take j) + 128 ^ j * (p : Int) := by
          rw [← hm', sevenL_take (by omega), HC.out, hp]
        have hsj := sevenL_bound (l.take j)
        have hlen0 : (l.take j).length = j := by rw [List.length_take]; omega
        rw [hlen0] at hsj
        by_cases hcl : cc < 128
        · have hld := HSPEC.out hcl
          have hcp : cc = (p : Int) := by omega
          by_cases hz : 0 < j ∧ p = 0
          · have hg : glen m ≠ j + 1 := by
              refine glen_not hz.1 ?_
              rw [hz.2] at hms
              have : (m : Int) < 128 ^ j := by simp at hms; omega
              exact_mod_cast this
            have hrs : readShort l = (0, 0, 11) := by
              unfold readShort
              rw [if_neg (by omega), if_neg (by omega), if_pos (.inr ⟨by omega, by rw [hld, HC.out]; omega⟩)]
            have HRS := Aside0.mk hrs
            have hne : ((glen m : Int) == (j : Int) + 1) = false := by simp; omega
            clear hrs hz hg hms hsj hlen0 hm128 hlen1 hm' hsb HOS hld hcp hp128 hA hbl HC
            have HP := Aside0.mk hp
            clear hp
            generalize blen p = bp at *
            generalize glen m = g at *
            go_wp2_with fail
            refine (HL.out _).mono ?_
            rintro e w1 ⟨rfl, rfl⟩
            go_wp2_with fail
            refine (HG.out _).mono ?_
            rintro e w1 ⟨rfl, rfl⟩
            go_wp2_with fail
            refine (fail_calls _ _).mono ?_
            rintro e w1 ⟨rfl, rfl⟩
            go_wp2
            go_ret3
            rw [HRS.out]
            exact ⟨rfl, rfl⟩
          · have hg : glen m = j + 1 := by
              refine glen_of hm128 ?_
              by_cases hj0 : j = 0
              · exact .inr hj0
              · left
                have h1p : (1 : Int) ≤ (p : Int) := by omega
                have := Int.mul_le_mul_of_nonneg_left h1p (show (0 : Int) ≤ 128 ^ j by have := (pow_le' (j := j) (by omega)).1; omega)
                have : (128 : Int) ^ j ≤ (m : Int) := by omega
                exact_mod_cast this
            have hrs : readShort l = ((m : Int), j + 1, 0) := by
              unfold readShort
              rw [if_neg (by omega), if_neg (by omega), if_neg ?_, hld, HM.out]
              rintro (⟨h1, h3⟩ | ⟨h1, h3⟩)
              · have : l.getD 9 0 = cc := by rw [← HC.out]; congr 1; omega
                omega
              · rw [hld, HC.out] at h3
                omega
            have HRS := Aside0.mk hrs
            rw [hg] at HG
            clear hrs hz hg hms hsj hlen0 hm128 hlen1 hm' hsb HOS hld hcp hp128 hA hbl HC
            have HP := Aside0.mk hp
            clear hp
            generalize blen p = bp at *
            go_wp2_with fail
            refine (HL.out _).mono ?_
            rintro e w1 ⟨rfl, rfl⟩
            go_wp2_with fail
            refine (HG.out _).mono ?_
            rintro e w1 ⟨rfl, rfl⟩
            go_wp2
            go_ret3
            rw [HRS.out]
            exact ⟨by simp, rfl⟩
        · have hc128 : 128 ≤ cc := by omega
          have hlead2 : Aside0 (∀ i, i < j + 1 → 128 ≤ l.getD i 0) := ⟨fun i hi => by
            by_cases h : i = j
            · rw [h, HC.out]; omega
            · exact hlead.out i (by omega)⟩
          clear hms hsj hlen0 hm128 hlen1 hm' hsb HOS hp128 hA hbl HC HSPEC
          have HP := Aside0.mk hp
          clear hp
          generalize blen p = bp at *
          go_wp2_with fail
          refine (HL.out _).mono ?_
          rintro e w1 ⟨rfl, rfl⟩
          go_wp2
          go_round
          case rel => exact ⟨j + 1, by go_num, by omega, by rw [HM.out], hlead2⟩
          case measure => simp [intOf]; omega
    · obtain rfl : j = N := by omega
      by_cases h10 : 10 ≤ l.length
      · have hrs : readShort l = (0, 0, 11) := by
          unfold readShort
          rw [if_pos (by have := hjl.out; omega)]
        have HRS := Aside0.mk hrs
        clear hrs hNe hN
        go_wp2_with fail
        refine (fail_calls _ _).mono ?_
        rintro e w1 ⟨rfl, rfl⟩
        go_wp2
        go_ret3
        rw [HRS.out]
        exact ⟨rfl, rfl⟩
      · have hrs : readShort l = (0, 0, 10) := by
          have := hjl.out
          have := lead_le l
          unfold readShort
          rw [if_neg (by omega), if_pos (by omega)]
        have HRS := Aside0.mk hrs
        clear hrs hNe hN
        go_wp2_with fail
        refine (fail_calls _ _).mono ?_
        rintro e w1 ⟨rfl, rfl⟩
        go_wp2
        go_ret3
        rw [HRS.out]
        exact ⟨rfl, rfl⟩
end Go.Proofs.YtchhdafgmifhdaaGreat.CodC
namespace Go.Proofs.YtchhdafgmifhdaaGreat.TxtK
open Go.RowKit Go.Proofs.YtchhdafgmifhdaaGreat.B8 Go.Proofs.YtchhdafgmifhdaaGreat.Agg Go.Proofs.YtchhdafgmifhdaaGreat.CodL Go.Proofs.YtchhdafgmifhdaaGreat.CodA Go.Proofs.YtchhdafgmifhdaaGreat.CodB Go.Proofs.YtchhdafgmifhdaaGreat.CrcL Go.Proofs.YtchhdafgmifhdaaGreat.CrcA Go.Proofs.YtchhdafgmifhdaaGreat.CrcB Go.Proofs.YtchhdafgmifhdaaGreat.PVerifyForms Go.Proofs.YtchhdafgmifhdaaGreatW.PrintWords Go.Proofs.YtchhdafgmifhdaaGreatW.PrintLast Go.Proofs.YtchhdafgmifhdaaGreatW.PrintMore Go.Proofs.YtchhdafgmifhdaaGreat.CodC Go.Proofs.YtchhdafgmifhdaaGreat.PtrB
set_option linter.unusedVariables false
set_option linter.unusedSimpArgs false
theorem short_at (A : Option Addr) (c m : Nat) (l L : List Int) (n : Nat) (x : Int) (w : World) (hml : m = l.length) (hL : L = l ++ shortL n) (hx : x = (n : Int)) (hr : C8 w A l.length l) (hm : l.length ≤ 1000000) (hn : n < 18446744073709551616) :
    Calls Tryz.prog 118 #[.slice A m c, .int .u64 x] w (Tells w L) := by
  subst hml; subst hL; subst hx
  first | exact short_calls A c l n w hr hm hn | exact short_calls A c l n w hr hn hm
theorem cut8_mid (A : Option Addr) (n c lo hi : Nat) (h1 : lo ≤ hi) (h2 : hi ≤ n) (hc : n ≤ c) (W : World) : (Instr.slice 36 (.slice A n c) (some (.int .i64 (lo : Int))) (some (.int .i64 (hi : Int))) none).run Tryz.prog W = .ok (.slice (if c = lo then A else A.map (·.add lo)) (hi - lo) (c - lo)) W := by
  obtain ⟨i0, hi0, _, hs, _⟩ := info_parts B8.info5
  have := cut_mid (P := Tryz.prog) 36 5 .i64 .i64 Tryz.underlying36 hi0 1 hs A n c (lo : Int) (hi : Int) (by omega) (by omega) (by omega) hc W
  simpa using this
theorem C8_midT {w : World} {A : Option Addr} {n c lo hi : Nat} {xs : List Int} (h : C8 w A n xs) (hc : n ≤ c) (h1 : lo ≤ hi) (h2 : hi ≤ n) : C8 w (if c = lo then A else A.map (·.add lo)) (hi - lo) ((xs.take hi).drop lo) :=
  C8_drop (B8.C_take h h2) (by omega) h1
def textL (s : ByteArray) : List Int := shortL s.size ++ bytesOf s
theorem R8_of_nums {w : World} {base : Nat} {v : Value} {n : Nat} {xs : List Int} (hn : n = xs.length) (h : w.ownsRow base 5 1 v n (nums .u8 xs)) : R8 w base v xs := by
  subst hn
  exact Kd.R_of_own h (fun _ _ => trivial)
theorem nums_of_R8 {w : World} {base : Nat} {v : Value} {xs : List Int} (h : R8 w base v xs) : w.ownsRow base 5 1 v xs.length (nums .u8 xs) := Kd.own_of_R h
theorem bytesOf_len (s : ByteArray) : (bytesOf s).length = s.size := bytesOf_length s
theorem str_bytes (s : ByteArray) : strOfNums (bytesOf s) = s := by
  obtain ⟨⟨l⟩⟩ := s
  simp only [strOfNums, bytesOf]
  congr 2
  rw [List.map_map]
  conv => rhs; rw [← List.map_id l]
  exact List.map_congr_left fun b _ => by simp

set_option maxRecDepth 100000 in
set_option maxHeartbeats 400000 in
theorem text_calls (A : Option Addr) (c n : Nat) (l : List Int) (hn : n = l.length) (s : ByteArray) (w : World) (hr : C8 w A n l) (hm : n ≤ 900000) (hs : s.size ≤ 10000) :
    Calls Tryz.prog 120 #[.slice A n c, .string s] w (Tells w (l ++ textL s)) := by
  subst hn
  have HR := Aside0.mk hr
  clear hr
  have hw : IntKind.u64.wrap (s.size : Int) = (s.size : Int) := wraps_u64 _ (by omega) (by omega)
  have hg := glen_ten (n := s.size) (by omega)
  obtain ⟨L1, hL1⟩ : ∃ L, L = l ++ shortL s.size := ⟨_, rfl⟩
  have HL1 := Aside0.mk hL1
  have hlen : L1.length ≤ 900010 := by rw [hL1, List.length_append]; unfold glen at hg; omega
  clear hL1 hg
  go_enter Tryz.func120, Tryz.ntmps120
  go_wp2_with fail
  refine (short_at A c l.length l L1 s.size _ w rfl HL1.out rfl HR.out (by omega) (by omega)).mono ?_
  rintro e w1 ⟨v1, rfl, hr1, hb1⟩
  have H1 := Aside0.mk (And.intro (nums_of_R8 hr1) hb1)
  clear hr1 hb1
  have hs1 : w.heap.size ≤ w1.heap.size := H1.out.2.size
  go_wp2_with (at_builtin; refine print_append_str (w0 := w) w.heap.size rfl (.tmp 9) (.tmp 10) 36 9 5 rfl Tryz.underlying36 Tryz.underlying9 B8.info5 v1 L1 s rfl rfl H1.out.1 H1.out.2 hs1 (by omega) ?_; intro v2 w2 ho hb hgr; have H2 := Aside0.mk (And.intro ho hb); clear ho hb hgr)
  go_ret
  refine ⟨_, rfl, ?_, H2.out.2⟩
  have h := R8_of_nums rfl H2.out.1
  rw [HL1.out, List.append_assoc] at h
  exact h
/-- Reading a text: the text, how many bytes it has with its length, and the error's number. -/
def readText (l : List Int) (most : Nat) : ByteArray × Nat × Int :=
  if (readShort l).2.2 ≠ 0 then (⟨#[]⟩, 0, (readShort l).2.2)
  else if (most : Int) < (readShort l).1 then (⟨#[]⟩, 0, 3)
  else if ((l.length - (readShort l).2.1 : Nat) : Int) < (readShort l).1 then (⟨#[]⟩, 0, 10)
  else (strOfNums ((l.drop (readShort l).2.1).take (readShort l).1.toNat), (readShort l).2.1 + (readShort l).1.toNat, 0)
theorem readText_textL (s : ByteArray) (most : Nat) (hs : s.size ≤ most) (hm : most ≤ 1000000) (r : List Int) : readText (textL s ++ r) most = (s, (textL s).length, 0) := by
  have e : textL s ++ r = shortL s.size ++ (bytesOf s ++ r) := by simp [textL]
  have h := readShort_shortL s.size (by omega) (bytesOf s ++ r)
  rw [← e] at h
  have hl : (textL s).length = glen s.size + s.size := by rw [textL, List.length_append, bytesOf_len]; rfl
  have hd : (textL s ++ r).drop (glen s.size) = bytesOf s ++ r := by rw [e]; exact List.drop_left' rfl
  unfold readText
  rw [h]
  simp only [ne_eq, not_true_eq_false, if_false, Int.toNat_natCast]
  rw [if_neg (by omega), if_neg (by rw [List.length_append, hl]; omega), hd, List.take_append_of_le_length (by rw [bytesOf_len]; exact Nat.le_refl _), List.take_of_length_le (by rw [bytesOf_len]; exact Nat.le_refl _)]
  rw [str_bytes s, hl]

set_option maxRecDepth 100000 in
set_option maxHeartbeats 1000000 in
theorem readText_160 (A : Option Addr) (c n : Nat) (l : List Int) (hn : n = l.length) (w : World) (hr : C8 w A n l) (hb : Byt l) (hc : n ≤ c) (hm : n ≤ 1000000) :
    Calls Tryz.prog 155 #[.slice A n c, .int .i64 160] w fun e w' => e = .returned (.tuple #[.string (readText l 160).1, .int .i64 ((readText l 160).2.1 : Int), .int .i64 (readText l 160).2.2]) ∧ w = w' := by
  subst hn
  have HC := Aside0.mk (And.intro hr (And.intro hb hc))
  have hb1 := readShort_bound hb
  have hu := readShort_used l
  obtain ⟨m, hmx⟩ : ∃ m : Nat, (readShort l).1 = (m : Int) := ⟨(readShort l).1.toNat, by omega⟩
  obtain ⟨u, hu1⟩ : ∃ u, u = (readShort l).2.1 := ⟨_, rfl⟩
  obtain ⟨er, her⟩ : ∃ er, er = (readShort l).2.2 := ⟨_, rfl⟩
  obtain ⟨P, hP⟩ : ∃ P : Ending → World → Prop, P = (fun e w' => e = .returned (.tuple #[.string (readText l 160).1, .int .i64 ((readText l 160).2.1 : Int), .int .i64 (readText l 160).2.2]) ∧ w = w') := ⟨_, rfl⟩
  rw [← hP]
  have HP := Aside0.mk hP
  have HX := Aside0.mk (And.intro hmx (And.intro hu1 her))
  rw [hmx] at hb1
  rw [← hu1] at hu
  have H1 : Aside0 (er ≠ 0 → readText l 160 = (⟨#[]⟩, 0, er)) := ⟨fun h => by unfold readText; rw [← her, if_pos h]⟩
  have H2 : Aside0 (er = 0 → 160 < m → readText l 160 = (⟨#[]⟩, 0, 3)) := ⟨fun h h2 => by unfold readText; rw [← her, if_neg (by simp [h]), hmx, if_pos (by omega)]⟩
  have H3 : Aside0 (er = 0 → ¬ 160 < m → l.length - u < m → readText l 160 = (⟨#[]⟩, 0, 10)) := ⟨fun h h2 h3 => by unfold readText; rw [← her, if_neg (by simp [h]), hmx, if_neg (by omega), ← hu1, if_pos (by omega)]⟩
  have H4 : Aside0 (er = 0 → ¬ 160 < m → ¬ l.length - u < m → readText l 160 = (strOfNums ((l.drop u).take m), u + m, 0)) := ⟨fun h h2 h3 => by unfold readText; rw [← her, if_neg (by simp [h]), hmx, if_neg (by omega), ← hu1, if_neg (by omega), Int.toNat_natCast]⟩
  clear hr hb hc hP hmx hu1 her
  go_enter Tryz.func155, Tryz.ntmps155
  go_wp2_with fail
  refine (CodC.readShort_calls A c l w HC.out.1 HC.out.2.1 HC.out.2.2 hm).mono ?_
  rintro e w1 ⟨rfl, rfl⟩
  rw [HX.out.1, ← HX.out.2.1, ← HX.out.2.2]
  by_cases he : er = 0
  case neg =>
    have HF := Aside0.mk (H1.out he)
    have hbe : (er == 0) = false := by simp [he]
    have hbe2 : (er != 0) = true := by simp [he]
    clear he
    go_wp2
    go_ret3
    rw [HP.out]
    exact ⟨by rw [HF.out]; rfl, rfl⟩
  by_cases h63 : 160 < m
  · have HF := Aside0.mk (H2.out he h63)
    have hd : (m : Int) > 160 := by omega
    subst he
    go_wp2
    go_ret3
    rw [HP.out]
    exact ⟨by rw [HF.out]; rfl, rfl⟩
  by_cases hlt : l.length - u < m
  · have HF := Aside0.mk (H3.out he h63 hlt)
    have hd : ¬ (m : Int) > 160 := by omega
    have hd3 : decide ((160 : Int) < (m : Int)) = false := decide_eq_false (by omega)
    have hd2 : (m : Int) > (l.length : Int) - (u : Int) := by omega
    have hw : IntKind.u64.wrap ((l.length : Int) - (u : Int)) = (l.length : Int) - (u : Int) := wraps_u64 _ (by omega) (by omega)
    have hw2 : IntKind.i64.wrap ((l.length : Int) - (u : Int)) = (l.length : Int) - (u : Int) := by rw [IntKind.wrap_i64]; omega
    subst he
    go_wp2
    go_ret3
    rw [HP.out]
    exact ⟨by rw [HF.out]; rfl, rfl⟩
  · have HF := Aside0.mk (H4.out he h63 hlt)
    have hd : ¬ (m : Int) > 160 := by omega
    have hd3 : decide ((160 : Int) < (m : Int)) = false := decide_eq_false (by omega)
    have hd2 : ¬ (m : Int) > (l.length : Int) - (u : Int) := by omega
    have hw : IntKind.u64.wrap ((l.length : Int) - (u : Int)) = (l.length : Int) - (u : Int) := wraps_u64 _ (by omega) (by omega)
    have hw2 : IntKind.i64.wrap ((l.length : Int) - (u : Int)) = (l.length : Int) - (u : Int) := by rw [IntKind.wrap_i64]; omega
    have hw3 : wrap64 (m : Int) = (m : Int) := by unfold wrap64; omega
    have hw4 : IntKind.i64.wrap ((u : Int) + (m : Int)) = (u : Int) + (m : Int) := by rw [IntKind.wrap_i64]; omega
    have hlu : u + m ≤ l.length := by omega
    have hcut0 := cut8_mid A l.length c u (u + m) (by omega) hlu HC.out.2.2
    have HD := C8_midT HC.out.1 HC.out.2.2 (show u ≤ u + m by omega) hlu
    generalize (if c = u then A else A.map (·.add u)) = A2 at hcut0 HD
    rw [show u + m - u = m by omega] at hcut0 HD
    have hcut : ∀ W : World, (Instr.slice 36 (.slice A l.length c) (some (.int .i64 (u : Int))) (some (.int .i64 ((u : Int) + (m : Int)))) none).run Tryz.prog W = .ok (.slice A2 m (c - u)) W := fun W => by
      have := hcut0 W
      rwa [Int.natCast_add] at this
    have hcv : (convert 36 9 (.slice A2 m (c - u))).run Tryz.prog w = .ok (.string (strOfNums ((l.drop u).take m))) w := by
      have := Kd.C_string (P := Tryz.prog) (c := c - u) Tryz.underlying36 Tryz.underlying5 Tryz.underlying9 HD
      rw [List.drop_take, show u + m - u = m by omega] at this
      exact this
    generalize strOfNums ((l.drop u).take m) = S at *
    clear hcut0 HD
    subst he
    go_wp2
    go_ret3
    rw [HP.out]
    exact ⟨by rw [HF.out]; simp, rfl⟩


set_option maxRecDepth 100000 in
set_option maxHeartbeats 1000000 in
theorem readText_1024 (A : Option Addr) (c n : Nat) (l : List Int) (hn : n = l.length) (w : World) (hr : C8 w A n l) (hb : Byt l) (hc : n ≤ c) (hm : n ≤ 1000000) :
    Calls Tryz.prog 155 #[.slice A n c, .int .i64 1024] w fun e w' => e = .returned (.tuple #[.string (readText l 1024).1, .int .i64 ((readText l 1024).2.1 : Int), .int .i64 (readText l 1024).2.2]) ∧ w = w' := by
  subst hn
  have HC := Aside0.mk (And.intro hr (And.intro hb hc))
  have hb1 := readShort_bound hb
  have hu := readShort_used l
  obtain ⟨m, hmx⟩ : ∃ m : Nat, (readShort l).1 = (m : Int) := ⟨(readShort l).1.toNat, by omega⟩
  obtain ⟨u, hu1⟩ : ∃ u, u = (readShort l).2.1 := ⟨_, rfl⟩
  obtain ⟨er, her⟩ : ∃ er, er = (readShort l).2.2 := ⟨_, rfl⟩
  obtain ⟨P, hP⟩ : ∃ P : Ending → World → Prop, P = (fun e w' => e = .returned (.tuple #[.string (readText l 1024).1, .int .i64 ((readText l 1024).2.1 : Int), .int .i64 (readText l 1024).2.2]) ∧ w = w') := ⟨_, rfl⟩
  rw [← hP]
  have HP := Aside0.mk hP
  have HX := Aside0.mk (And.intro hmx (And.intro hu1 her))
  rw [hmx] at hb1
  rw [← hu1] at hu
  have H1 : Aside0 (er ≠ 0 → readText l 1024 = (⟨#[]⟩, 0, er)) := ⟨fun h => by unfold readText; rw [← her, if_pos h]⟩
  have H2 : Aside0 (er = 0 → 1024 < m → readText l 1024 = (⟨#[]⟩, 0, 3)) := ⟨fun h h2 => by unfold readText; rw [← her, if_neg (by simp [h]), hmx, if_pos (by omega)]⟩
  have H3 : Aside0 (er = 0 → ¬ 1024 < m → l.length - u < m → readText l 1024 = (⟨#[]⟩, 0, 10)) := ⟨fun h h2 h3 => by unfold readText; rw [← her, if_neg (by simp [h]), hmx, if_neg (by omega), ← hu1, if_pos (by omega)]⟩
  have H4 : Aside0 (er = 0 → ¬ 1024 < m → ¬ l.length - u < m → readText l 1024 = (strOfNums ((l.drop u).take m), u + m, 0)) := ⟨fun h h2 h3 => by unfold readText; rw [← her, if_neg (by simp [h]), hmx, if_neg (by omega), ← hu1, if_neg (by omega), Int.toNat_natCast]⟩
  clear hr hb hc hP hmx hu1 her
  go_enter Tryz.func155, Tryz.ntmps155
  go_wp2_with fail
  refine (CodC.readShort_calls A c l w HC.out.1 HC.out.2.1 HC.out.2.2 hm).mono ?_
  rintro e w1 ⟨rfl, rfl⟩
  rw [HX.out.1, ← HX.out.2.1, ← HX.out.2.2]
  by_cases he : er = 0
  case neg =>
    have HF := Aside0.mk (H1.out he)
    have hbe : (er == 0) = false := by simp [he]
    have hbe2 : (er != 0) = true := by simp [he]
    clear he
    go_wp2
    go_ret3
    rw [HP.out]
    exact ⟨by rw [HF.out]; rfl, rfl⟩
  by_cases h63 : 1024 < m
  · have HF := Aside0.mk (H2.out he h63)
    have hd : (m : Int) > 1024 := by omega
    subst he
    go_wp2
    go_ret3
    rw [HP.out]
    exact ⟨by rw [HF.out]; rfl, rfl⟩
  by_cases hlt : l.length - u < m
  · have HF := Aside0.mk (H3.out he h63 hlt)
    have hd : ¬ (m : Int) > 1024 := by omega
    have hd3 : decide ((1024 : Int) < (m : Int)) = false := decide_eq_false (by omega)
    have hd2 : (m : Int) > (l.length : Int) - (u : Int) := by omega
    have hw : IntKind.u64.wrap ((l.length : Int) - (u : Int)) = (l.length : Int) - (u : Int) := wraps_u64 _ (by omega) (by omega)
    have hw2 : IntKind.i64.wrap ((l.length : Int) - (u : Int)) = (l.length : Int) - (u : Int) := by rw [IntKind.wrap_i64]; omega
    subst he
    go_wp2
    go_ret3
    rw [HP.out]
    exact ⟨by rw [HF.out]; rfl, rfl⟩
  · have HF := Aside0.mk (H4.out he h63 hlt)
    have hd : ¬ (m : Int) > 1024 := by omega
    have hd3 : decide ((1024 : Int) < (m : Int)) = false := decide_eq_false (by omega)
    have hd2 : ¬ (m : Int) > (l.length : Int) - (u : Int) := by omega
    have hw : IntKind.u64.wrap ((l.length : Int) - (u : Int)) = (l.length : Int) - (u : Int) := wraps_u64 _ (by omega) (by omega)
    have hw2 : IntKind.i64.wrap ((l.length : Int) - (u : Int)) = (l.length : Int) - (u : Int) := by rw [IntKind.wrap_i64]; omega
    have hw3 : wrap64 (m : Int) = (m : Int) := by unfold wrap64; omega
    have hw4 : IntKind.i64.wrap ((u : Int) + (m : Int)) = (u : Int) + (m : Int) := by rw [IntKind.wrap_i64]; omega
    have hlu : u + m ≤ l.length := by omega
    have hcut0 := cut8_mid A l.length c u (u + m) (by omega) hlu HC.out.2.2
    have HD := C8_midT HC.out.1 HC.out.2.2 (show u ≤ u + m by omega) hlu
    generalize (if c = u then A else A.map (·.add u)) = A2 at hcut0 HD
    rw [show u + m - u = m by omega] at hcut0 HD
    have hcut : ∀ W : World, (Instr.slice 36 (.slice A l.length c) (some (.int .i64 (u : Int))) (some (.int .i64 ((u : Int) + (m : Int)))) none).run Tryz.prog W = .ok (.slice A2 m (c - u)) W := fun W => by
      have := hcut0 W
      rwa [Int.natCast_add] at this
    have hcv : (convert 36 9 (.slice A2 m (c - u))).run Tryz.prog w = .ok (.string (strOfNums ((l.drop u).take m))) w := by
      have := Kd.C_string (P := Tryz.prog) (c := c - u) Tryz.underlying36 Tryz.underlying5 Tryz.underlying9 HD
      rw [List.drop_take, show u + m - u = m by omega] at this
      exact this
    generalize strOfNums ((l.drop u).take m) = S at *
    clear hcut0 HD
    subst he
    go_wp2
    go_ret3
    rw [HP.out]
    exact ⟨by rw [HF.out]; simp, rfl⟩


end Go.Proofs.YtchhdafgmifhdaaGreat.TxtK
namespace Go.Proofs.YtchhdafgmifhdaaGreat.CmpK
open Go.RowKit Go.Proofs.YtchhdafgmifhdaaGreat.B8 Go.Proofs.YtchhdafgmifhdaaGreat.Agg Go.Proofs.YtchhdafgmifhdaaGreat.CodL Go.Proofs.YtchhdafgmifhdaaGreat.CodA Go.Proofs.YtchhdafgmifhdaaGreat.CodB Go.Proofs.YtchhdafgmifhdaaGreat.CrcL Go.Proofs.YtchhdafgmifhdaaGreat.CrcA Go.Proofs.YtchhdafgmifhdaaGreat.CrcB Go.Proofs.YtchhdafgmifhdaaGreat.PVerifyForms Go.Proofs.YtchhdafgmifhdaaGreatW.PrintWords Go.Proofs.YtchhdafgmifhdaaGreatW.PrintLast Go.Proofs.YtchhdafgmifhdaaGreatW.PrintMore Go.Proofs.YtchhdafgmifhdaaGreat.ShaD
set_option linter.unusedVariables false
set_option linter.unusedSimpArgs false
/-- Bytes compared. -/
def cmpL : List Int → List Int → Int
  | [], [] => 0
  | [], _ :: _ => -1
  | _ :: _, [] => 1
  | a :: l, b :: m => if a < b then -1 else if b < a then 1 else cmpL l m
theorem cmpL_bytes : ∀ (l m : List Int), Byt l → Byt m → Lib.compareBytes (Lib.bytesOf l) (Lib.bytesOf m) = cmpL l m
  | [], [], _, _ => rfl
  | [], _ :: _, _, _ => rfl
  | _ :: _, [], _, _ => rfl
  | a :: l, b :: m, hl, hm => by
    have ih := cmpL_bytes l m (fun x hx => hl x (List.mem_cons_of_mem _ hx)) (fun x hx => hm x (List.mem_cons_of_mem _ hx))
    have ha := hl a (List.mem_cons_self ..)
    have hb := hm b (List.mem_cons_self ..)
    have e1 : ∀ x y : Int, 0 ≤ x ∧ x < 256 → 0 ≤ y ∧ y < 256 → ((UInt8.ofNat x.toNat < UInt8.ofNat y.toNat) ↔ x < y) := fun x y hx hy => by
      rw [UInt8.lt_iff_toNat_lt]
      simp only [UInt8.toNat_ofNat']
      omega
    show (if UInt8.ofNat a.toNat < UInt8.ofNat b.toNat then -1 else if UInt8.ofNat b.toNat < UInt8.ofNat a.toNat then 1 else Lib.compareBytes (Lib.bytesOf l) (Lib.bytesOf m)) = cmpL (a :: l) (b :: m)
    rw [ih]
    show _ = (if a < b then -1 else if b < a then 1 else cmpL l m)
    simp only [e1 a b ha hb, e1 b a hb ha]
theorem load8 {w : World} {A : Option Addr} {n c : Nat} {L : List Int} (h : C8 w A n L) : (Extern.Bytes.bytesOf (.slice A n c)).run Tryz.prog w = .ok ⟨(Lib.bytesOf L).toArray⟩ w := by
  have hl : L.length = n := h.1
  cases A with
  | none =>
    have h0 : n = 0 := by
      rcases Nat.eq_zero_or_pos n with h0 | h0
      · exact h0
      · obtain ⟨ad, e, _⟩ := C8_cells h h0
        cases e
    subst h0
    obtain rfl : L = [] := List.eq_nil_of_length_eq_zero hl
    rfl
  | some ad =>
    have hc : ∀ j x, L[j]? = some x → w.cell? (ad.add j) = some (.int .u8 x) := fun j x hx => by
      have hj : j < n := by have := (List.getElem?_eq_some_iff.1 hx).1; omega
      obtain ⟨ad2, e, hc⟩ := C8_cells h (by omega)
      injection e with e
      subst e
      exact hc j _ (by rw [List.getElem?_map, hx]; rfl)
    have := Lib.run_loadBytesX (P := Tryz.prog) w L ad .empty hc
    rw [hl] at this
    show (Extern.Bytes.loadBytes ad n .empty).run Tryz.prog w = _
    rw [this]
    congr 1
    apply ByteArray.ext
    simp
theorem run_compare {w : World} {A B : Option Addr} {n c m d : Nat} {L M : List Int} (hl : C8 w A n L) (hm : C8 w B m M) (bl : Byt L) (bm : Byt M) :
    (Extern.BytealgCompare.compare #[.slice A n c, .slice B m d]).run Tryz.prog w = .ok (.int .i64 (cmpL L M)) w := by
  change Sem.run Tryz.prog (do pure (goInt (Extern.BytealgCompare.cmp (← Extern.Bytes.bytesOf (.slice A n c)) (← Extern.Bytes.bytesOf (.slice B m d))))) w = _
  simp only [Sem.run_bind, Sem.run_pure, load8 hl, load8 hm, Result.andThen_ok, Lib.cmp_eq]
  rw [cmpL_bytes L M bl bm]
  rfl
set_option maxRecDepth 100000 in
set_option maxHeartbeats 2000000 in
theorem compare101 (A B : Option Addr) (n c m d : Nat) (L M : List Int) (w : World) (hl : C8 w A n L) (hm : C8 w B m M) (bl : Byt L) (bm : Byt M) :
    Calls Tryz.prog 101 #[.slice A n c, .slice B m d] w fun e w' => e = .returned (.int .i64 (cmpL L M)) ∧ Below w.heap.size w w' := by
  obtain ⟨P, hP⟩ : ∃ P : Ending → World → Prop, P = fun e w' => e = .returned (.int .i64 (cmpL L M)) ∧ Below w.heap.size w w' := ⟨_, rfl⟩
  rw [← hP]
  have HP := Aside0.mk hP
  have hrun := run_compare (c := c) (d := d) hl hm bl bm
  clear hP hl hm bl bm
  go_enter Tryz.func101, Tryz.ntmps101
  go_wp2
  rw [run_callFunc_extern Tryz.func141 (by kernel_rfl) (by kernel_rfl) (by kernel_rfl) (e := Extern.BytealgCompare.compare) (by kernel_rfl), hrun]
  simp only [Result.andThen]
  rw [Oper.upon_value]
  go_wp2
  rw [HP.out]
  exact ⟨rfl, Below.refl _ _⟩
end Go.Proofs.YtchhdafgmifhdaaGreat.CmpK
namespace Go.Proofs.YtchhdafgmifhdaaGreat.KpA
open Go.RowKit Go.Proofs.YtchhdafgmifhdaaGreat.B8 Go.Proofs.YtchhdafgmifhdaaGreat.Agg Go.Proofs.YtchhdafgmifhdaaGreat.CodL Go.Proofs.YtchhdafgmifhdaaGreat.CodA Go.Proofs.YtchhdafgmifhdaaGreat.CodB Go.Proofs.YtchhdafgmifhdaaGreat.CrcL Go.Proofs.YtchhdafgmifhdaaGreat.CrcA Go.Proofs.YtchhdafgmifhdaaGreat.CrcB Go.Proofs.YtchhdafgmifhdaaGreat.PVerifyForms Go.Proofs.YtchhdafgmifhdaaGreatW.PrintWords Go.Proofs.YtchhdafgmifhdaaGreatW.PrintLast Go.Proofs.YtchhdafgmifhdaaGreatW.PrintMore Go.Proofs.YtchhdafgmifhdaaGreat.CatL Go.Proofs.YtchhdafgmifhdaaGreat.PtrA Go.Proofs.YtchhdafgmifhdaaGreat.PtrB Go.Proofs.YtchhdafgmifhdaaGreat.PtrE Go.Proofs.YtchhdafgmifhdaaGreat.OfA Go.Proofs.YtchhdafgmifhdaaGreat.ExtA
set_option linter.unusedVariables false
set_option linter.unusedSimpArgs false
theorem enc_len {p : Ptr} (h : Ok p) : (encP p).toList.length = 36 := by rw [Array.length_toList, encP_size h.len]
theorem enc_one (p : Ptr) : ∀ u ∈ (encP p).toList, u.oneCell' = true := fun u hu => (Array.all_eq_true_iff_forall_mem.1 (encP_one p)) u (by simpa using hu)
/-- A pointer, as a kind. -/
def kP : Kd Ptr where
  sz := 36
  E := []
  K := fun _ p cs => cs = (encP p).toList ∧ Ok p
  M := fun _ _ _ p cs => cs = (encP p).toList ∧ Ok p
  K_len := fun h => by rw [h.1]; exact enc_len h.2
  K_one := fun h u hu => by rw [h.1] at hu; exact enc_one _ u hu
  K_below := fun _ h => h
  K_of_M := fun h => h
  M_mono := fun _ h => h
  M_bound := fun h => h
  M_move := fun _ h => h
  M_lower := fun _ h => h

/-- Where a row of pointers lies. -/
theorem CP_at {w : World} {A : Option Addr} {n : Nat} {l : List Ptr} (h : Kd.C kP w A n l) (h0 : 0 < n) :
    ∃ b off, A = some ⟨b, off, none⟩ ∧ b < w.heap.size ∧ ∀ i, i < n → Ok (l.getD i zeroP) ∧ w.rangeAt b (off + i * 36) (encP (l.getD i zeroP)).toList := by
  have each : ∀ i, i < n → ∃ ad, A = some ad ∧ Ok (l.getD i zeroP) ∧ ∀ j u, (encP (l.getD i zeroP)).toList[j]? = some u → w.cell? (ad.add (i * 36 + j)) = some u := by
    intro i hi
    obtain ⟨ad, c, e, _, hk, hj⟩ := Kd.C_get h zeroP (i : Int) (by omega) (by omega)
    rw [Int.toNat_natCast] at hk hj
    obtain ⟨rfl, ho⟩ := hk
    exact ⟨ad, e, ho, fun j u hu => hj j u hu⟩
  obtain ⟨ad, e, ho, hc⟩ := each 0 h0
  have g0 := hc 0 _ (by simp [encP]; rfl)
  have hs : ad.spot = none := by
    have := World.cell?_spot g0
    rwa [show ad.add (0 * 36 + 0) = ad from rfl] at this
  obtain ⟨b, off, s⟩ := ad
  simp only at hs
  subst hs
  refine ⟨b, off, e, World.block_lt_of_cell? w _ g0, fun i hi => ?_⟩
  obtain ⟨ad', e', ho', hc'⟩ := each i hi
  rw [e] at e'
  injection e' with e'
  subst e'
  refine ⟨ho', fun j u hu => ?_⟩
  have := hc' j u hu
  rwa [show (⟨b, off, none⟩ : Addr).add (i * 36 + j) = ⟨b, off + i * 36 + j, none⟩ from by rw [add_at]; simp [Nat.add_assoc]] at this

theorem rangeAt_below {w w1 : World} {b o B : Nat} {cs : List Value} (h : w.rangeAt b o cs) (hb : Below B w w1) (hB : b < B) : w1.rangeAt b o cs := fun j v hv => (hb.cell (p := ⟨b, o + j, none⟩) hB).trans (h j v hv)

theorem info33 : (Tryz.prog.info? 32).map (fun i => (i.zero, i.size, i.bytes)) = some (some (.agg Z33), 36, 64) := by kernel_rfl
set_option maxRecDepth 100000 in
theorem run_one36 (cs : Array Value) (h : cs.size = 36) (W : World) : (Instr.buildSlice 26 1 #[(0, .agg cs)]).run Tryz.prog W = .ok (.slice (some ⟨W.heap.size, 0, none⟩) 1 1) (W.alloc (.cells cs 32)) := by
  rcases cs with ⟨l⟩
  rcases l with _ | ⟨c0, l⟩; · simp at h
  rcases l with _ | ⟨c1, l⟩; · simp at h
  rcases l with _ | ⟨c2, l⟩; · simp at h
  rcases l with _ | ⟨c3, l⟩; · simp at h
  rcases l with _ | ⟨c4, l⟩; · simp at h
  rcases l with _ | ⟨c5, l⟩; · simp at h
  rcases l with _ | ⟨c6, l⟩; · simp at h
  rcases l with _ | ⟨c7, l⟩; · simp at h
  rcases l with _ | ⟨c8, l⟩; · simp at h
  rcases l with _ | ⟨c9, l⟩; · simp at h
  rcases l with _ | ⟨c10, l⟩; · simp at h
  rcases l with _ | ⟨c11, l⟩; · simp at h
  rcases l with _ | ⟨c12, l⟩; · simp at h
  rcases l with _ | ⟨c13, l⟩; · simp at h
  rcases l with _ | ⟨c14, l⟩; · simp at h
  rcases l with _ | ⟨c15, l⟩; · simp at h
  rcases l with _ | ⟨c16, l⟩; · simp at h
  rcases l with _ | ⟨c17, l⟩; · simp at h
  rcases l with _ | ⟨c18, l⟩; · simp at h
  rcases l with _ | ⟨c19, l⟩; · simp at h
  rcases l with _ | ⟨c20, l⟩; · simp at h
  rcases l with _ | ⟨c21, l⟩; · simp at h
  rcases l with _ | ⟨c22, l⟩; · simp at h
  rcases l with _ | ⟨c23, l⟩; · simp at h
  rcases l with _ | ⟨c24, l⟩; · simp at h
  rcases l with _ | ⟨c25, l⟩; · simp at h
  rcases l with _ | ⟨c26, l⟩; · simp at h
  rcases l with _ | ⟨c27, l⟩; · simp at h
  rcases l with _ | ⟨c28, l⟩; · simp at h
  rcases l with _ | ⟨c29, l⟩; · simp at h
  rcases l with _ | ⟨c30, l⟩; · simp at h
  rcases l with _ | ⟨c31, l⟩; · simp at h
  rcases l with _ | ⟨c32, l⟩; · simp at h
  rcases l with _ | ⟨c33, l⟩; · simp at h
  rcases l with _ | ⟨c34, l⟩; · simp at h
  rcases l with _ | ⟨c35, l⟩; · simp at h
  rcases l with _ | ⟨c36, l⟩
  · kernel_rfl
  · simp at h
theorem run_oneP (p : Ptr) (h : Ok p) (W : World) : (Instr.buildSlice 26 1 #[(0, .agg (encP p))]).run Tryz.prog W = .ok (.slice (some ⟨W.heap.size, 0, none⟩) 1 1) (W.alloc (.cells (encP p) 32)) := run_one36 _ (encP_size h.len) W

section
variable {ops : Array Oper} {o : Oper} {rest : List Oper} {a : Act} {Q : Exit → Act → World → Prop} {K : Act → World → Prop}
/-- The box of append's one argument, of a region that draws its order -/
theorem wp_one_P {w : World} (x : Operand) (ho : o.op = .buildSlice 26 1 #[(0, x)]) (p : Ptr) (hk : Ok p) (hx : a.eval x = .agg (encP p))
    (h : K (a.put o.dst (.slice (some ⟨w.heap.size, 0, none⟩) 1 1)) (w.alloc (.cells (encP p) 32))) : o.wp Tryz.prog a w K Q := by
  unfold Oper.wp execOp
  have hm : (#[(0, x)] : Array (Nat × Operand)).map (fun (i, x) => (i, a.eval x)) = #[(0, .agg (encP p))] := by simp [hx]
  simp only [ho]
  rw [hm]
  simp only [Sem.run_bind, Sem.run_pure, Result.andThen_ok, run_oneP p hk w]
  exact h
end
section
variable {ops : Array Oper} {o : Oper} {rest : List Oper} {a : Act} {Q : Exit → Act → World → Prop} {K : Act → World → Prop}
end
end Go.Proofs.YtchhdafgmifhdaaGreat.KpA
namespace Go.Proofs.YtchhdafgmifhdaaGreat.LeaA
open Go.RowKit Go.Proofs.YtchhdafgmifhdaaGreat.B8 Go.Proofs.YtchhdafgmifhdaaGreat.Agg Go.Proofs.YtchhdafgmifhdaaGreat.CodL Go.Proofs.YtchhdafgmifhdaaGreat.CodA Go.Proofs.YtchhdafgmifhdaaGreat.CodB Go.Proofs.YtchhdafgmifhdaaGreat.CrcL Go.Proofs.YtchhdafgmifhdaaGreat.CrcA Go.Proofs.YtchhdafgmifhdaaGreat.CrcB Go.Proofs.YtchhdafgmifhdaaGreat.PVerifyForms Go.Proofs.YtchhdafgmifhdaaGreatW.PrintWords Go.Proofs.YtchhdafgmifhdaaGreatW.PrintLast Go.Proofs.YtchhdafgmifhdaaGreatW.PrintMore Go.Proofs.YtchhdafgmifhdaaGreat.CatL Go.Proofs.YtchhdafgmifhdaaGreat.PtrA Go.Proofs.YtchhdafgmifhdaaGreat.PtrB Go.Proofs.YtchhdafgmifhdaaGreat.PtrE Go.Proofs.YtchhdafgmifhdaaGreat.OfA Go.Proofs.YtchhdafgmifhdaaGreat.ExtA Go.Proofs.YtchhdafgmifhdaaGreat.KpA Go.Proofs.YtchhdafgmifhdaaGreat.TxtK Go.Proofs.YtchhdafgmifhdaaGreat.CmpK Go.Proofs.YtchhdafgmifhdaaGreat.ShaD
set_option linter.unusedVariables false
set_option linter.unusedSimpArgs false
/-- A node: its level, its keys, their values, its children. -/
structure Nd where
  lvl : Nat
  keys : List (List Int)
  vals : List (List Int)
  kids : List Ptr
/-- Bytes, as a kind. -/
abbrev kB : Kd (List Int) := Kd.slice 5 (Kd.int .u8)
/-- Where a node's lists lie. -/
structure Ns where
  A1 : Option Addr
  c1 : Nat
  A2 : Option Addr
  c2 : Nat
  A3 : Option Addr
  c3 : Nat
abbrev encN (x : Nd) (s : Ns) : Array Value := #[.int .i64 (x.lvl : Int), .slice s.A1 x.keys.length s.c1, .slice s.A2 x.vals.length s.c2, .slice s.A3 x.kids.length s.c3]
structure NV (w : World) (x : Nd) (s : Ns) : Prop where
  keys : Kd.C kB w s.A1 x.keys.length x.keys
  vals : Kd.C kB w s.A2 x.vals.length x.vals
  kids : Kd.C kP w s.A3 x.kids.length x.kids
  h1 : x.keys.length ≤ s.c1
  h2 : x.vals.length ≤ s.c2
  h3 : x.kids.length ≤ s.c3
theorem NV.below {w w1 : World} {x : Nd} {s : Ns} (h : NV w x s) (hb : Below w.heap.size w w1) : NV w1 x s :=
  ⟨Kd.C_below h.keys hb, Kd.C_below h.vals hb, Kd.C_below h.kids hb, h.h1, h.h2, h.h3⟩
/-- A node has the lists that its level asks for. -/
def Lists (x : Nd) : Prop := if x.lvl = 0 then x.vals.length = x.keys.length ∧ x.kids.length = 0 else x.kids.length = x.keys.length ∧ x.vals.length = 0
set_option maxRecDepth 100000 in
set_option maxHeartbeats 2000000 in
theorem lists115 (x : Nd) (s : Ns) (w : World) (hl : Lists x) (hb : x.keys.length ≤ 100000) : Calls Tryz.prog 115 #[.agg (encN x s)] w fun e w' => e = .returned (.bool true) ∧ Below w.heap.size w w' := by
  obtain ⟨P, hP⟩ : ∃ P : Ending → World → Prop, P = fun e w' => e = .returned (.bool true) ∧ Below w.heap.size w w' := ⟨_, rfl⟩
  rw [← hP]
  have HP := Aside0.mk hP
  obtain ⟨A1, c1, A2, c2, A3, c3⟩ := s
  obtain ⟨lvl, keys, vals, kids⟩ := x
  unfold Lists at hl
  simp only at hl hb
  obtain ⟨n1, hn1⟩ : ∃ n, n = keys.length := ⟨_, rfl⟩
  obtain ⟨n2, hn2⟩ : ∃ n, n = vals.length := ⟨_, rfl⟩
  obtain ⟨n3, hn3⟩ : ∃ n, n = kids.length := ⟨_, rfl⟩
  simp only [encN]
  rw [← hn1] at hl hb
  rw [← hn2, ← hn3] at hl
  rw [← hn1, ← hn2, ← hn3]
  have hB := Aside0.mk (below_alloc (Below.refl w.heap.size w) (.cells #[.int .i64 (lvl : Int), .slice A1 n1 c1, .slice A2 n2 c2, .slice A3 n3 c3] 39))
  by_cases h0 : lvl = 0
  · rw [if_pos h0] at hl
    obtain ⟨h1, h2⟩ := hl
    subst h0
    subst h1
    subst h2
    clear hP hn1 hn2 hn3
    go_enter Tryz.func115, Tryz.ntmps115
    go_wp2
    rw [HP.out]
    exact ⟨rfl, hB.out⟩
  · rw [if_neg h0] at hl
    obtain ⟨h1, h2⟩ := hl
    have hl0 : ((lvl : Int) == 0) = false := by rw [beq_eq_false_iff_ne]; omega
    subst h1
    subst h2
    clear hP hn1 hn2 hn3
    go_enter Tryz.func115, Tryz.ntmps115
    go_wp2
    rw [HP.out]
    exact ⟨rfl, hB.out⟩
/-- How many bytes two keys begin with alike. -/
def sharedL : List Int → List Int → Nat
  | a :: l, b :: m => if a = b then sharedL l m + 1 else 0
  | _, _ => 0
end Go.Proofs.YtchhdafgmifhdaaGreat.LeaA
namespace Go.Proofs.YtchhdafgmifhdaaGreat.LeaB
open Go.RowKit Go.Proofs.YtchhdafgmifhdaaGreat.B8 Go.Proofs.YtchhdafgmifhdaaGreat.Agg Go.Proofs.YtchhdafgmifhdaaGreat.CodL Go.Proofs.YtchhdafgmifhdaaGreat.CodA Go.Proofs.YtchhdafgmifhdaaGreat.CodB Go.Proofs.YtchhdafgmifhdaaGreat.CrcL Go.Proofs.YtchhdafgmifhdaaGreat.CrcA Go.Proofs.YtchhdafgmifhdaaGreat.CrcB Go.Proofs.YtchhdafgmifhdaaGreat.PVerifyForms Go.Proofs.YtchhdafgmifhdaaGreatW.PrintWords Go.Proofs.YtchhdafgmifhdaaGreatW.PrintLast Go.Proofs.YtchhdafgmifhdaaGreatW.PrintMore Go.Proofs.YtchhdafgmifhdaaGreat.CatL Go.Proofs.YtchhdafgmifhdaaGreat.ExtA Go.Proofs.YtchhdafgmifhdaaGreat.LeaA
set_option linter.unusedVariables false
set_option linter.unusedSimpArgs false
theorem sharedL_nil (l m : List Int) (h : l = [] ∨ m = []) : sharedL l m = 0 := by
  rcases h with rfl | rfl
  · cases m <;> rfl
  · cases l <;> rfl
theorem sharedL_drop : ∀ (k : Nat) (l m : List Int), (∀ j, j < k → j < l.length ∧ j < m.length ∧ l.getD j 0 = m.getD j 0) → sharedL l m = k + sharedL (l.drop k) (m.drop k)
  | 0, l, m, _ => by simp
  | k + 1, l, m, h => by
    obtain ⟨h1, h2, h3⟩ := h 0 (by omega)
    match l, m with
    | a :: l, b :: m =>
      have hab : a = b := h3
      show (if a = b then sharedL l m + 1 else 0) = _
      rw [if_pos hab]
      have := sharedL_drop k l m (fun j hj => by
        obtain ⟨q1, q2, q3⟩ := h (j + 1) (by omega)
        exact ⟨by simpa using q1, by simpa using q2, by simpa using q3⟩)
      rw [this]
      simp only [List.drop_succ_cons]
      omega
    | [], _ => simp at h1
    | _ :: _, [] => simp at h2
theorem sharedL_le (l m : List Int) : sharedL l m ≤ l.length ∧ sharedL l m ≤ m.length := by
  induction l generalizing m with
  | nil => rw [sharedL_nil _ _ (.inl rfl)]; omega
  | cons a l ih =>
    cases m with
    | nil => rw [sharedL_nil _ _ (.inr rfl)]; omega
    | cons b m =>
      show (if a = b then sharedL l m + 1 else 0) ≤ _ ∧ (if a = b then sharedL l m + 1 else 0) ≤ _
      have := ih m
      split <;> simp only [List.length_cons] <;> omega
theorem sharedL_take : ∀ (l m : List Int), l.take (sharedL l m) = m.take (sharedL l m)
  | [], m => by rw [sharedL_nil _ _ (.inl rfl)]; simp
  | _ :: _, [] => by rw [sharedL_nil _ _ (.inr rfl)]; simp
  | a :: l, b :: m => by
    show (a :: l).take (if a = b then sharedL l m + 1 else 0) = (b :: m).take (if a = b then sharedL l m + 1 else 0)
    split
    · rename_i h
      subst h
      simp only [List.take_succ_cons, sharedL_take l m]
    · rfl
set_option maxRecDepth 100000 in
set_option maxHeartbeats 8000000 in
theorem shared119 (A B : Option Addr) (n c m d : Nat) (l q : List Int) (w : World) (hl : C8 w A n l) (hm : C8 w B m q) (hn : n ≤ 1000000) (hmm : m ≤ 1000000) :
    Calls Tryz.prog 119 #[.slice A n c, .slice B m d] w fun e w' => e = .returned (.int .i64 (sharedL l q : Int)) ∧ Below w.heap.size w w' := by
  obtain ⟨P, hP⟩ : ∃ P : Ending → World → Prop, P = fun e w' => e = .returned (.int .i64 (sharedL l q : Int)) ∧ Below w.heap.size w w' := ⟨_, rfl⟩
  rw [← hP]
  have HP := Aside0.mk hP
  have HL := Aside0.mk (And.intro hl (And.intro hm (And.intro hl.1 hm.1)))
  clear hP hl hm
  go_enter Tryz.func119, Tryz.ntmps119
  go_wp2_with fail
  go_loopw [5] (fun v5 wr => ∃ k : Nat, v5 = .int .i64 (k : Int) ∧ k ≤ n ∧ Aside0 (∀ j, j < k → j < l.length ∧ j < q.length ∧ l.getD j 0 = q.getD j 0) ∧ Aside0 (Below w.heap.size w wr)) (fun v _ => n - (intOf v).toNat)
  case atStart => exact ⟨0, rfl, Nat.zero_le _, ⟨fun j hj => by omega⟩, ⟨Below.refl _ _⟩⟩
  case round =>
    obtain ⟨k, rfl, hkn, HE, HB⟩ := hrel
    by_cases h1 : k < n
    · have d1 : decide ((k : Int) < (n : Int)) = true := decide_eq_true (by omega)
      by_cases h2 : k < m
      · have d2 : decide ((k : Int) < (m : Int)) = true := decide_eq_true (by omega)
        obtain ⟨b0, o0, rfl, hb0, hx0⟩ := B8.C_at 0 HL.out.1 (by omega)
        obtain ⟨b1, o1, rfl, hb1, hx1⟩ := B8.C_at 0 HL.out.2.1 (by omega)
        obtain ⟨x, hx⟩ : ∃ x, x = l.getD k 0 := ⟨_, rfl⟩
        obtain ⟨y, hy⟩ : ∃ y, y = q.getD k 0 := ⟨_, rfl⟩
        have F0 := Aside0.mk (show wr.cell? ⟨b0, o0 + k, none⟩ = some (.int .u8 x) from (HB.out.cell (p := ⟨b0, o0 + k, none⟩) hb0).trans (by rw [hx]; exact hx0 k h1))
        have F1 := Aside0.mk (show wr.cell? ⟨b1, o1 + k, none⟩ = some (.int .u8 y) from (HB.out.cell (p := ⟨b1, o1 + k, none⟩) hb1).trans (by rw [hy]; exact hx1 k h2))
        have hlt0 : b0 < wr.heap.size := Nat.lt_of_lt_of_le hb0 HB.out.size
        have hlt1 : b1 < wr.heap.size := Nat.lt_of_lt_of_le hb1 HB.out.size
        have HXY := Aside0.mk (And.intro hx hy)
        have i0 : (0 : Int) ≤ (k : Int) := by omega
        have i1 : (k : Int) < (n : Int) := by omega
        have i2 : (k : Int) < (m : Int) := by omega
        clear hx0 hx1 hb0 hb1 hx hy
        by_cases hxy : x = y
        · have HQ := Aside0.mk hxy
          have d3 : (x == y) = true := by rw [hxy]; simp
          clear hxy
          go_wp2_with fail
          refine wp_region_held_drew (S := fun w' => Below wr.heap.size wr w') (by kernel_rfl) (below_drew (Below.refl _ _)) (fun hW => ?_)
          have WDB := Aside0.mk (show Below wr.heap.size wr wr.drew from below_drew (Below.refl _ _))
          generalize hWd : wr.drew = Wd at *
          clear hWd
          refine wpAnyH_take (i := 0) (oi := ⟨some 6, _, _, _, _, _⟩) (v := .int .i64 (k : Int)) rfl (by kernel_rfl) (by kernel_rfl) (by kernel_rfl) (fun _ _ _ h => h) (.inl ⟨by rfl, fun W1 h1 => by go_simp⟩) hW ?_
          try simp only [Act.put, List.setIfInBounds_toArray, List.set_cons_zero, List.set_cons_succ]
          refine wpAnyH_take (i := 1) (oi := ⟨some 7, _, _, _, _, _⟩) (v := .slice (some ⟨b0, o0, none⟩) n c) rfl (by kernel_rfl) (by kernel_rfl) (by kernel_rfl) (fun _ _ _ h => h) (.inl ⟨by rfl, fun W1 h1 => by go_simp⟩) hW ?_
          try simp only [Act.put, List.setIfInBounds_toArray, List.set_cons_zero, List.set_cons_succ]
          refine wpAnyH_take (i := 2) (oi := ⟨some 8, _, _, _, _, _⟩) (v := .int .i64 (n : Int)) rfl (by kernel_rfl) (by kernel_rfl) (by kernel_rfl) (fun _ _ _ h => h) (.inl ⟨by rfl, fun W1 h1 => by go_simp⟩) hW ?_
          try simp only [Act.put, List.setIfInBounds_toArray, List.set_cons_zero, List.set_cons_succ]
          refine wpAnyH_take (i := 3) (oi := ⟨some 9, _, _, _, _, _⟩) (v := .bool true) rfl (by kernel_rfl) (by kernel_rfl) (by kernel_rfl) (fun _ _ _ h => h) (.inl ⟨by rfl, fun W1 h1 => by go_simp⟩) hW ?_
          try simp only [Act.put, List.setIfInBounds_toArray, List.set_cons_zero, List.set_cons_succ]
          refine wpAnyH_take (i := 4) (oi := ⟨some 10, _, _, _, _, _⟩) (v := .bool true) rfl (by kernel_rfl) (by kernel_rfl) (by kernel_rfl) (fun _ _ _ h => h) (.inl ⟨by rfl, fun W1 h1 => by go_simp⟩) hW ?_
          try simp only [Act.put, List.setIfInBounds_toArray, List.set_cons_zero, List.set_cons_succ]
          refine wpAnyH_take (i := 5) (oi := ⟨some 11, _, _, _, _, _⟩) (v := .int .i64 (k : Int)) rfl (by kernel_rfl) (by kernel_rfl) (by kernel_rfl) (fun _ _ _ h => h) (.inl ⟨by rfl, fun W1 h1 => by go_simp⟩) hW ?_
          try simp only [Act.put, List.setIfInBounds_toArray, List.set_cons_zero, List.set_cons_succ]
          refine wpAnyH_take (i := 6) (oi := ⟨some 12, _, _, _, _, _⟩) (v := .slice (some ⟨b1, o1, none⟩) m d) rfl (by kernel_rfl) (by kernel_rfl) (by kernel_rfl) (fun _ _ _ h => h) (.inl ⟨by rfl, fun W1 h1 => by go_simp⟩) hW ?_
          try simp only [Act.put, List.setIfInBounds_toArray, List.set_cons_zero, List.set_cons_succ]
          refine wpAnyH_take (i := 7) (oi := ⟨some 13, _, _, _, _, _⟩) (v := .int .i64 (m : Int)) rfl (by kernel_rfl) (by kernel_rfl) (by kernel_rfl) (fun _ _ _ h => h) (.inl ⟨by rfl, fun W1 h1 => by go_simp⟩) hW ?_
          try simp only [Act.put, List.setIfInBounds_toArray, List.set_cons_zero, List.set_cons_succ]
          refine wpAnyH_take (i := 8) (oi := ⟨some 14, _, _, _, _, _⟩) (v := .bool true) rfl (by kernel_rfl) (by kernel_rfl) (by kernel_rfl) (fun _ _ _ h => h) (.inl ⟨by rfl, fun W1 h1 => by go_simp⟩) hW ?_
          try simp only [Act.put, List.setIfInBounds_toArray, List.set_cons_zero, List.set_cons_succ]
          refine wpAnyH_take (i := 9) (oi := ⟨some 15, _, _, _, _, _⟩) (v := .bool true) rfl (by kernel_rfl) (by kernel_rfl) (by kernel_rfl) (fun _ _ _ h => h) (.inl ⟨by rfl, fun W1 h1 => by go_simp⟩) hW ?_
          try simp only [Act.put, List.setIfInBounds_toArray, List.set_cons_zero, List.set_cons_succ]
          refine wpAnyH_take (i := 10) (oi := ⟨some 16, _, _, _, _, _⟩) (v := .bool true) rfl (by kernel_rfl) (by kernel_rfl) (by kernel_rfl) (fun _ _ _ h => h) (.inl ⟨by rfl, fun W1 h1 => by go_simp⟩) hW ?_
          try simp only [Act.put, List.setIfInBounds_toArray, List.set_cons_zero, List.set_cons_succ]
          refine wpAnyH_take (i := 11) (oi := ⟨some 17, _, _, _, _, _⟩) (v := .slice (some ⟨b0, o0, none⟩) n c) rfl (by kernel_rfl) (by kernel_rfl) (by kernel_rfl) (fun _ _ _ h => h) (.inl ⟨by rfl, fun W1 h1 => by go_simp⟩) hW ?_
          try simp only [Act.put, List.setIfInBounds_toArray, List.set_cons_zero, List.set_cons_succ]
          refine wpAnyH_take (i := 12) (oi := ⟨some 18, _, _, _, _, _⟩) (v := .int .i64 (k : Int)) rfl (by kernel_rfl) (by kernel_rfl) (by kernel_rfl) (fun _ _ _ h => h) (.inl ⟨by rfl, fun W1 h1 => by go_simp⟩) hW ?_
          try simp only [Act.put, List.setIfInBounds_toArray, List.set_cons_zero, List.set_cons_succ]
          refine wpAnyH_take (i := 13) (oi := ⟨some 19, _, _, _, _, _⟩) (v := .pointer (some ⟨b0, o0 + k, none⟩)) rfl (by kernel_rfl) (by kernel_rfl) (by kernel_rfl) (fun _ _ _ h => h) (.inl ⟨by rfl, fun W1 h1 => by go_simp⟩) hW ?_
          try simp only [Act.put, List.setIfInBounds_toArray, List.set_cons_zero, List.set_cons_succ]
          refine wpAnyH_take (i := 14) (oi := ⟨some 20, _, _, _, _, _⟩) (v := .int .u8 x) rfl (by kernel_rfl) (by kernel_rfl) (by kernel_rfl) (fun _ _ _ h => h) (.inl ⟨by rfl, fun W1 h1 => by have h2 := (Below.cell (p := ⟨b0, o0 + k, none⟩) h1 hlt0).trans F0.out; clear h1; go_simp⟩) hW ?_
          try simp only [Act.put, List.setIfInBounds_toArray, List.set_cons_zero, List.set_cons_succ]
          refine wpAnyH_take (i := 15) (oi := ⟨some 21, _, _, _, _, _⟩) (v := .slice (some ⟨b1, o1, none⟩) m d) rfl (by kernel_rfl) (by kernel_rfl) (by kernel_rfl) (fun _ _ _ h => h) (.inl ⟨by rfl, fun W1 h1 => by go_simp⟩) hW ?_
          try simp only [Act.put, List.setIfInBounds_toArray, List.set_cons_zero, List.set_cons_succ]
          refine wpAnyH_take (i := 16) (oi := ⟨some 22, _, _, _, _, _⟩) (v := .int .i64 (k : Int)) rfl (by kernel_rfl) (by kernel_rfl) (by kernel_rfl) (fun _ _ _ h => h) (.inl ⟨by rfl, fun W1 h1 => by go_simp⟩) hW ?_
          try simp only [Act.put, List.setIfInBounds_toArray, List.set_cons_zero, List.set_cons_succ]
          refine wpAnyH_take (i := 17) (oi := ⟨some 23, _, _, _, _, _⟩) (v := .pointer (some ⟨b1, o1 + k, none⟩)) rfl (by kernel_rfl) (by kernel_rfl) (by kernel_rfl) (fun _ _ _ h => h) (.inl ⟨by rfl, fun W1 h1 => by go_simp⟩) hW ?_
          try simp only [Act.put, List.setIfInBounds_toArray, List.set_cons_zero, List.set_cons_succ]
          refine wpAnyH_take (i := 18) (oi := ⟨some 24, _, _, _, _, _⟩) (v := .int .u8 y) rfl (by kernel_rfl) (by kernel_rfl) (by kernel_rfl) (fun _ _ _ h => h) (.inl ⟨by rfl, fun W1 h1 => by have h2 := (Below.cell (p := ⟨b1, o1 + k, none⟩) h1 hlt1).trans F1.out; clear h1; go_simp⟩) hW ?_
          try simp only [Act.put, List.setIfInBounds_toArray, List.set_cons_zero, List.set_cons_succ]
          refine wpAnyH_take (i := 19) (oi := ⟨some 25, _, _, _, _, _⟩) (v := .bool true) rfl (by kernel_rfl) (by kernel_rfl) (by kernel_rfl) (fun _ _ _ h => h) (.inl ⟨by rfl, fun W1 h1 => by go_simp⟩) hW ?_
          try simp only [Act.put, List.setIfInBounds_toArray, List.set_cons_zero, List.set_cons_succ]
          refine wpAnyH_take (i := 20) (oi := ⟨some 26, _, _, _, _, _⟩) (v := .bool true) rfl (by kernel_rfl) (by kernel_rfl) (by kernel_rfl) (fun _ _ _ h => h) (.inl ⟨by rfl, fun W1 h1 => by go_simp⟩) hW ?_
          try simp only [Act.put, List.setIfInBounds_toArray, List.set_cons_zero, List.set_cons_succ]
          refine wpAnyH_done (by kernel_rfl) ?_ _
          have HB2 := Aside0.mk (HB.out.trans (hW.mono HB.out.size))
          have HE2 := Aside0.mk (show ∀ j, j < k + 1 → j < l.length ∧ j < q.length ∧ l.getD j 0 = q.getD j 0 from fun j hj => by
            by_cases hjk : j < k
            · exact HE.out j hjk
            · obtain rfl : j = k := by omega
              have h3 := HL.out.2.2
              have h4 := HXY.out
              exact ⟨by omega, by omega, by rw [← h4.1, ← h4.2]; exact HQ.out⟩)
          have hw1 : IntKind.i64.wrap ((k : Int) + 1) = ((k + 1 : Nat) : Int) := by rw [i64_small (by omega) (by omega)]; omega
          clear hW d1 d2 d3
          go_wp2_with fail
          go_roundw
          case rel => exact ⟨k + 1, by go_num, by omega, HE2, HB2⟩
          case measure => simp [intOf]; omega
        · have HS := Aside0.mk (show sharedL l q = k by
            rw [sharedL_drop k l q HE.out]
            have h3 := HL.out.2.2
            have h4 := HXY.out
            rw [List.drop_eq_getElem_cons (show k < l.length by omega), List.drop_eq_getElem_cons (show k < q.length by omega)]
            have e1 : l[k]'(by omega) = x := by rw [h4.1, List.getD_eq_getElem?_getD, List.getElem?_eq_getElem (by omega)]; rfl
            have e2 : q[k]'(by omega) = y := by rw [h4.2, List.getD_eq_getElem?_getD, List.getElem?_eq_getElem (by omega)]; rfl
            show k + (if _ = _ then _ else 0) = k
            rw [if_neg (by rw [e1, e2]; exact hxy)]
            rfl)
          have d3 : (x == y) = false := by rw [beq_eq_false_iff_ne]; exact hxy
          clear hxy
          go_wp2_with fail
          refine wp_region_held_drew (S := fun w' => Below wr.heap.size wr w') (by kernel_rfl) (below_drew (Below.refl _ _)) (fun hW => ?_)
          have WDB := Aside0.mk (show Below wr.heap.size wr wr.drew from below_drew (Below.refl _ _))
          generalize hWd : wr.drew = Wd at *
          clear hWd
          refine wpAnyH_take (i := 0) (oi := ⟨some 6, _, _, _, _, _⟩) (v := .int .i64 (k : Int)) rfl (by kernel_rfl) (by kernel_rfl) (by kernel_rfl) (fun _ _ _ h => h) (.inl ⟨by rfl, fun W1 h1 => by go_simp⟩) hW ?_
          try simp only [Act.put, List.setIfInBounds_toArray, List.set_cons_zero, List.set_cons_succ]
          refine wpAnyH_take (i := 1) (oi := ⟨some 7, _, _, _, _, _⟩) (v := .slice (some ⟨b0, o0, none⟩) n c) rfl (by kernel_rfl) (by kernel_rfl) (by kernel_rfl) (fun _ _ _ h => h) (.inl ⟨by rfl, fun W1 h1 => by go_simp⟩) hW ?_
          try simp only [Act.put, List.setIfInBounds_toArray, List.set_cons_zero, List.set_cons_succ]
          refine wpAnyH_take (i := 2) (oi := ⟨some 8, _, _, _, _, _⟩) (v := .int .i64 (n : Int)) rfl (by kernel_rfl) (by kernel_rfl) (by kernel_rfl) (fun _ _ _ h => h) (.inl ⟨by rfl, fun W1 h1 => by go_simp⟩) hW ?_
          try simp only [Act.put, List.setIfInBounds_toArray, List.set_cons_zero, List.set_cons_succ]
          refine wpAnyH_take (i := 3) (oi := ⟨some 9, _, _, _, _, _⟩) (v := .bool true) rfl (by kernel_rfl) (by kernel_rfl) (by kernel_rfl) (fun _ _ _ h => h) (.inl ⟨by rfl, fun W1 h1 => by go_simp⟩) hW ?_
          try simp only [Act.put, List.setIfInBounds_toArray, List.set_cons_zero, List.set_cons_succ]
          refine wpAnyH_take (i := 4) (oi := ⟨some 10, _, _, _, _, _⟩) (v := .bool true) rfl (by kernel_rfl) (by kernel_rfl) (by kernel_rfl) (fun _ _ _ h => h) (.inl ⟨by rfl, fun W1 h1 => by go_simp⟩) hW ?_
          try simp only [Act.put, List.setIfInBounds_toArray, List.set_cons_zero, List.set_cons_succ]
          refine wpAnyH_take (i := 5) (oi := ⟨some 11, _, _, _, _, _⟩) (v := .int .i64 (k : Int)) rfl (by kernel_rfl) (by kernel_rfl) (by kernel_rfl) (fun _ _ _ h => h) (.inl ⟨by rfl, fun W1 h1 => by go_simp⟩) hW ?_
          try simp only [Act.put, List.setIfInBounds_toArray, List.set_cons_zero, List.set_cons_succ]
          refine wpAnyH_take (i := 6) (oi := ⟨some 12, _, _, _, _, _⟩) (v := .slice (some ⟨b1, o1, none⟩) m d) rfl (by kernel_rfl) (by kernel_rfl) (by kernel_rfl) (fun _ _ _ h => h) (.inl ⟨by rfl, fun W1 h1 => by go_simp⟩) hW ?_
          try simp only [Act.put, List.setIfInBounds_toArray, List.set_cons_zero, List.set_cons_succ]
          refine wpAnyH_take (i := 7) (oi := ⟨some 13, _, _, _, _, _⟩) (v := .int .i64 (m : Int)) rfl (by kernel_rfl) (by kernel_rfl) (by kernel_rfl) (fun _ _ _ h => h) (.inl ⟨by rfl, fun W1 h1 => by go_simp⟩) hW ?_
          try simp only [Act.put, List.setIfInBounds_toArray, List.set_cons_zero, List.set_cons_succ]
          refine wpAnyH_take (i := 8) (oi := ⟨some 14, _, _, _, _, _⟩) (v := .bool true) rfl (by kernel_rfl) (by kernel_rfl) (by kernel_rfl) (fun _ _ _ h => h) (.inl ⟨by rfl, fun W1 h1 => by go_simp⟩) hW ?_
          try simp only [Act.put, List.setIfInBounds_toArray, List.set_cons_zero, List.set_cons_succ]
          refine wpAnyH_take (i := 9) (oi := ⟨some 15, _, _, _, _, _⟩) (v := .bool true) rfl (by kernel_rfl) (by kernel_rfl) (by kernel_rfl) (fun _ _ _ h => h) (.inl ⟨by rfl, fun W1 h1 => by go_simp⟩) hW ?_
          try simp only [Act.put, List.setIfInBounds_toArray, List.set_cons_zero, List.set_cons_succ]
          refine wpAnyH_take (i := 10) (oi := ⟨some 16, _, _, _, _, _⟩) (v := .bool true) rfl (by kernel_rfl) (by kernel_rfl) (by kernel_rfl) (fun _ _ _ h => h) (.inl ⟨by rfl, fun W1 h1 => by go_simp⟩) hW ?_
          try simp only [Act.put, List.setIfInBounds_toArray, List.set_cons_zero, List.set_cons_succ]
          refine wpAnyH_take (i := 11) (oi := ⟨some 17, _, _, _, _, _⟩) (v := .slice (some ⟨b0, o0, none⟩) n c) rfl (by kernel_rfl) (by kernel_rfl) (by kernel_rfl) (fun _ _ _ h => h) (.inl ⟨by rfl, fun W1 h1 => by go_simp⟩) hW ?_
          try simp only [Act.put, List.setIfInBounds_toArray, List.set_cons_zero, List.set_cons_succ]
          refine wpAnyH_take (i := 12) (oi := ⟨some 18, _, _, _, _, _⟩) (v := .int .i64 (k : Int)) rfl (by kernel_rfl) (by kernel_rfl) (by kernel_rfl) (fun _ _ _ h => h) (.inl ⟨by rfl, fun W1 h1 => by go_simp⟩) hW ?_
          try simp only [Act.put, List.setIfInBounds_toArray, List.set_cons_zero, List.set_cons_succ]
          refine wpAnyH_take (i := 13) (oi := ⟨some 19, _, _, _, _, _⟩) (v := .pointer (some ⟨b0, o0 + k, none⟩)) rfl (by kernel_rfl) (by kernel_rfl) (by kernel_rfl) (fun _ _ _ h => h) (.inl ⟨by rfl, fun W1 h1 => by go_simp⟩) hW ?_
          try simp only [Act.put, List.setIfInBounds_toArray, List.set_cons_zero, List.set_cons_succ]
          refine wpAnyH_take (i := 14) (oi := ⟨some 20, _, _, _, _, _⟩) (v := .int .u8 x) rfl (by kernel_rfl) (by kernel_rfl) (by kernel_rfl) (fun _ _ _ h => h) (.inl ⟨by rfl, fun W1 h1 => by have h2 := (Below.cell (p := ⟨b0, o0 + k, none⟩) h1 hlt0).trans F0.out; clear h1; go_simp⟩) hW ?_
          try simp only [Act.put, List.setIfInBounds_toArray, List.set_cons_zero, List.set_cons_succ]
          refine wpAnyH_take (i := 15) (oi := ⟨some 21, _, _, _, _, _⟩) (v := .slice (some ⟨b1, o1, none⟩) m d) rfl (by kernel_rfl) (by kernel_rfl) (by kernel_rfl) (fun _ _ _ h => h) (.inl ⟨by rfl, fun W1 h1 => by go_simp⟩) hW ?_
          try simp only [Act.put, List.setIfInBounds_toArray, List.set_cons_zero, List.set_cons_succ]
          refine wpAnyH_take (i := 16) (oi := ⟨some 22, _, _, _, _, _⟩) (v := .int .i64 (k : Int)) rfl (by kernel_rfl) (by kernel_rfl) (by kernel_rfl) (fun _ _ _ h => h) (.inl ⟨by rfl, fun W1 h1 => by go_simp⟩) hW ?_
          try simp only [Act.put, List.setIfInBounds_toArray, List.set_cons_zero, List.set_cons_succ]
          refine wpAnyH_take (i := 17) (oi := ⟨some 23, _, _, _, _, _⟩) (v := .pointer (some ⟨b1, o1 + k, none⟩)) rfl (by kernel_rfl) (by kernel_rfl) (by kernel_rfl) (fun _ _ _ h => h) (.inl ⟨by rfl, fun W1 h1 => by go_simp⟩) hW ?_
          try simp only [Act.put, List.setIfInBounds_toArray, List.set_cons_zero, List.set_cons_succ]
          refine wpAnyH_take (i := 18) (oi := ⟨some 24, _, _, _, _, _⟩) (v := .int .u8 y) rfl (by kernel_rfl) (by kernel_rfl) (by kernel_rfl) (fun _ _ _ h => h) (.inl ⟨by rfl, fun W1 h1 => by have h2 := (Below.cell (p := ⟨b1, o1 + k, none⟩) h1 hlt1).trans F1.out; clear h1; go_simp⟩) hW ?_
          try simp only [Act.put, List.setIfInBounds_toArray, List.set_cons_zero, List.set_cons_succ]
          refine wpAnyH_take (i := 19) (oi := ⟨some 25, _, _, _, _, _⟩) (v := .bool false) rfl (by kernel_rfl) (by kernel_rfl) (by kernel_rfl) (fun _ _ _ h => h) (.inl ⟨by rfl, fun W1 h1 => by go_simp⟩) hW ?_
          try simp only [Act.put, List.setIfInBounds_toArray, List.set_cons_zero, List.set_cons_succ]
          refine wpAnyH_take (i := 20) (oi := ⟨some 26, _, _, _, _, _⟩) (v := .bool false) rfl (by kernel_rfl) (by kernel_rfl) (by kernel_rfl) (fun _ _ _ h => h) (.inl ⟨by rfl, fun W1 h1 => by go_simp⟩) hW ?_
          try simp only [Act.put, List.setIfInBounds_toArray, List.set_cons_zero, List.set_cons_succ]
          refine wpAnyH_done (by kernel_rfl) ?_ _
          have HB2 := Aside0.mk (HB.out.trans (hW.mono HB.out.size))
          clear hW
          go_wp2
          rw [HP.out]
          exact ⟨by rw [HS.out]; rfl, HB2.out⟩
      · have d2 : decide ((k : Int) < (m : Int)) = false := decide_eq_false (by omega)
        have HS := Aside0.mk (show sharedL l q = k by
          rw [sharedL_drop k l q HE.out, sharedL_nil _ _ (.inr (List.drop_of_length_le (by have := HL.out.2.2; omega)))]
          rfl)
        go_wp2_with fail
        refine wp_region_held_drew (S := fun w' => Below wr.heap.size wr w') (by kernel_rfl) (below_drew (Below.refl _ _)) (fun hW => ?_)
        have WDB := Aside0.mk (show Below wr.heap.size wr wr.drew from below_drew (Below.refl _ _))
        generalize hWd : wr.drew = Wd at *
        clear hWd
        refine wpAnyH_take (i := 0) (oi := ⟨some 6, _, _, _, _, _⟩) (v := .int .i64 (k : Int)) rfl (by kernel_rfl) (by kernel_rfl) (by kernel_rfl) (fun _ _ _ h => h) (.inl ⟨by rfl, fun W1 h1 => by go_simp⟩) hW ?_
        try simp only [Act.put, List.setIfInBounds_toArray, List.set_cons_zero, List.set_cons_succ]
        refine wpAnyH_take (i := 1) (oi := ⟨some 7, _, _, _, _, _⟩) (v := .slice A n c) rfl (by kernel_rfl) (by kernel_rfl) (by kernel_rfl) (fun _ _ _ h => h) (.inl ⟨by rfl, fun W1 h1 => by go_simp⟩) hW ?_
        try simp only [Act.put, List.setIfInBounds_toArray, List.set_cons_zero, List.set_cons_succ]
        refine wpAnyH_take (i := 2) (oi := ⟨some 8, _, _, _, _, _⟩) (v := .int .i64 (n : Int)) rfl (by kernel_rfl) (by kernel_rfl) (by kernel_rfl) (fun _ _ _ h => h) (.inl ⟨by rfl, fun W1 h1 => by go_simp⟩) hW ?_
        try simp only [Act.put, List.setIfInBounds_toArray, List.set_cons_zero, List.set_cons_succ]
        refine wpAnyH_take (i := 3) (oi := ⟨some 9, _, _, _, _, _⟩) (v := .bool true) rfl (by kernel_rfl) (by kernel_rfl) (by kernel_rfl) (fun _ _ _ h => h) (.inl ⟨by rfl, fun W1 h1 => by go_simp⟩) hW ?_
        try simp only [Act.put, List.setIfInBounds_toArray, List.set_cons_zero, List.set_cons_succ]
        refine wpAnyH_take (i := 4) (oi := ⟨some 10, _, _, _, _, _⟩) (v := .bool true) rfl (by kernel_rfl) (by kernel_rfl) (by kernel_rfl) (fun _ _ _ h => h) (.inl ⟨by rfl, fun W1 h1 => by go_simp⟩) hW ?_
        try simp only [Act.put, List.setIfInBounds_toArray, List.set_cons_zero, List.set_cons_succ]
        refine wpAnyH_take (i := 5) (oi := ⟨some 11, _, _, _, _, _⟩) (v := .int .i64 (k : Int)) rfl (by kernel_rfl) (by kernel_rfl) (by kernel_rfl) (fun _ _ _ h => h) (.inl ⟨by rfl, fun W1 h1 => by go_simp⟩) hW ?_
        try simp only [Act.put, List.setIfInBounds_toArray, List.set_cons_zero, List.set_cons_succ]
        refine wpAnyH_take (i := 6) (oi := ⟨some 12, _, _, _, _, _⟩) (v := .slice B m d) rfl (by kernel_rfl) (by kernel_rfl) (by kernel_rfl) (fun _ _ _ h => h) (.inl ⟨by rfl, fun W1 h1 => by go_simp⟩) hW ?_
        try simp only [Act.put, List.setIfInBounds_toArray, List.set_cons_zero, List.set_cons_succ]
        refine wpAnyH_take (i := 7) (oi := ⟨some 13, _, _, _, _, _⟩) (v := .int .i64 (m : Int)) rfl (by kernel_rfl) (by kernel_rfl) (by kernel_rfl) (fun _ _ _ h => h) (.inl ⟨by rfl, fun W1 h1 => by go_simp⟩) hW ?_
        try simp only [Act.put, List.setIfInBounds_toArray, List.set_cons_zero, List.set_cons_succ]
        refine wpAnyH_take (i := 8) (oi := ⟨some 14, _, _, _, _, _⟩) (v := .bool false) rfl (by kernel_rfl) (by kernel_rfl) (by kernel_rfl) (fun _ _ _ h => h) (.inl ⟨by rfl, fun W1 h1 => by go_simp⟩) hW ?_
        try simp only [Act.put, List.setIfInBounds_toArray, List.set_cons_zero, List.set_cons_succ]
        refine wpAnyH_take (i := 9) (oi := ⟨some 15, _, _, _, _, _⟩) (v := .bool false) rfl (by kernel_rfl) (by kernel_rfl) (by kernel_rfl) (fun _ _ _ h => h) (.inl ⟨by rfl, fun W1 h1 => by go_simp⟩) hW ?_
        try simp only [Act.put, List.setIfInBounds_toArray, List.set_cons_zero, List.set_cons_succ]
        refine wpAnyH_take (i := 10) (oi := ⟨some 16, _, _, _, _, _⟩) (v := .bool false) rfl (by kernel_rfl) (by kernel_rfl) (by kernel_rfl) (fun _ _ _ h => h) (.inl ⟨by rfl, fun W1 h1 => by go_simp⟩) hW ?_
        try simp only [Act.put, List.setIfInBounds_toArray, List.set_cons_zero, List.set_cons_succ]
        refine wpAnyH_take (i := 11) (oi := ⟨some 17, _, _, _, _, _⟩) (v := undef) rfl (by kernel_rfl) (by kernel_rfl) (by kernel_rfl) (fun _ _ _ h => h) (.inr ⟨by rfl, rfl⟩) hW ?_
        try simp only [Act.put, List.setIfInBounds_toArray, List.set_cons_zero, List.set_cons_succ]
        refine wpAnyH_take (i := 12) (oi := ⟨some 18, _, _, _, _, _⟩) (v := undef) rfl (by kernel_rfl) (by kernel_rfl) (by kernel_rfl) (fun _ _ _ h => h) (.inr ⟨by rfl, rfl⟩) hW ?_
        try simp only [Act.put, List.setIfInBounds_toArray, List.set_cons_zero, List.set_cons_succ]
        refine wpAnyH_take (i := 13) (oi := ⟨some 19, _, _, _, _, _⟩) (v := undef) rfl (by kernel_rfl) (by kernel_rfl) (by kernel_rfl) (fun _ _ _ h => h) (.inr ⟨by rfl, rfl⟩) hW ?_
        try simp only [Act.put, List.setIfInBounds_toArray, List.set_cons_zero, List.set_cons_succ]
        refine wpAnyH_take (i := 14) (oi := ⟨some 20, _, _, _, _, _⟩) (v := undef) rfl (by kernel_rfl) (by kernel_rfl) (by kernel_rfl) (fun _ _ _ h => h) (.inr ⟨by rfl, rfl⟩) hW ?_
        try simp only [Act.put, List.setIfInBounds_toArray, List.set_cons_zero, List.set_cons_succ]
        refine wpAnyH_take (i := 15) (oi := ⟨some 21, _, _, _, _, _⟩) (v := undef) rfl (by kernel_rfl) (by kernel_rfl) (by kernel_rfl) (fun _ _ _ h => h) (.inr ⟨by rfl, rfl⟩) hW ?_
        try simp only [Act.put, List.setIfInBounds_toArray, List.set_cons_zero, List.set_cons_succ]
        refine wpAnyH_take (i := 16) (oi := ⟨some 22, _, _, _, _, _⟩) (v := undef) rfl (by kernel_rfl) (by kernel_rfl) (by kernel_rfl) (fun _ _ _ h => h) (.inr ⟨by rfl, rfl⟩) hW ?_
        try simp only [Act.put, List.setIfInBounds_toArray, List.set_cons_zero, List.set_cons_succ]
        refine wpAnyH_take (i := 17) (oi := ⟨some 23, _, _, _, _, _⟩) (v := undef) rfl (by kernel_rfl) (by kernel_rfl) (by kernel_rfl) (fun _ _ _ h => h) (.inr ⟨by rfl, rfl⟩) hW ?_
        try simp only [Act.put, List.setIfInBounds_toArray, List.set_cons_zero, List.set_cons_succ]
        refine wpAnyH_take (i := 18) (oi := ⟨some 24, _, _, _, _, _⟩) (v := undef) rfl (by kernel_rfl) (by kernel_rfl) (by kernel_rfl) (fun _ _ _ h => h) (.inr ⟨by rfl, rfl⟩) hW ?_
        try simp only [Act.put, List.setIfInBounds_toArray, List.set_cons_zero, List.set_cons_succ]
        refine wpAnyH_take (i := 19) (oi := ⟨some 25, _, _, _, _, _⟩) (v := undef) rfl (by kernel_rfl) (by kernel_rfl) (by kernel_rfl) (fun _ _ _ h => h) (.inr ⟨by rfl, rfl⟩) hW ?_
        try simp only [Act.put, List.setIfInBounds_toArray, List.set_cons_zero, List.set_cons_succ]
        refine wpAnyH_take (i := 20) (oi := ⟨some 26, _, _, _, _, _⟩) (v := .bool false) rfl (by kernel_rfl) (by kernel_rfl) (by kernel_rfl) (fun _ _ _ h => h) (.inl ⟨by rfl, fun W1 h1 => by go_simp⟩) hW ?_
        try simp only [Act.put, List.setIfInBounds_toArray, List.set_cons_zero, List.set_cons_succ]
        refine wpAnyH_done (by kernel_rfl) ?_ _
        have HB2 := Aside0.mk (HB.out.trans (hW.mono HB.out.size))
        clear hW
        go_wp2
        rw [HP.out]
        exact ⟨by rw [HS.out]; rfl, HB2.out⟩
    · have d1 : decide ((k : Int) < (n : Int)) = false := decide_eq_false (by omega)
      have HS := Aside0.mk (show sharedL l q = k by
        rw [sharedL_drop k l q HE.out, sharedL_nil _ _ (.inl (List.drop_of_length_le (by have := HL.out.2.2; omega)))]
        rfl)
      go_wp2_with fail
      refine wp_region_held_drew (S := fun w' => Below wr.heap.size wr w') (by kernel_rfl) (below_drew (Below.refl _ _)) (fun hW => ?_)
      have WDB := Aside0.mk (show Below wr.heap.size wr wr.drew from below_drew (Below.refl _ _))
      generalize hWd : wr.drew = Wd at *
      clear hWd
      refine wpAnyH_take (i := 0) (oi := ⟨some 6, _, _, _, _, _⟩) (v := .int .i64 (k : Int)) rfl (by kernel_rfl) (by kernel_rfl) (by kernel_rfl) (fun _ _ _ h => h) (.inl ⟨by rfl, fun W1 h1 => by go_simp⟩) hW ?_
      try simp only [Act.put, List.setIfInBounds_toArray, List.set_cons_zero, List.set_cons_succ]
      refine wpAnyH_take (i := 1) (oi := ⟨some 7, _, _, _, _, _⟩) (v := .slice A n c) rfl (by kernel_rfl) (by kernel_rfl) (by kernel_rfl) (fun _ _ _ h => h) (.inl ⟨by rfl, fun W1 h1 => by go_simp⟩) hW ?_
      try simp only [Act.put, List.setIfInBounds_toArray, List.set_cons_zero, List.set_cons_succ]
      refine wpAnyH_take (i := 2) (oi := ⟨some 8, _, _, _, _, _⟩) (v := .int .i64 (n : Int)) rfl (by kernel_rfl) (by kernel_rfl) (by kernel_rfl) (fun _ _ _ h => h) (.inl ⟨by rfl, fun W1 h1 => by go_simp⟩) hW ?_
      try simp only [Act.put, List.setIfInBounds_toArray, List.set_cons_zero, List.set_cons_succ]
      refine wpAnyH_take (i := 3) (oi := ⟨some 9, _, _, _, _, _⟩) (v := .bool false) rfl (by kernel_rfl) (by kernel_rfl) (by kernel_rfl) (fun _ _ _ h => h) (.inl ⟨by rfl, fun W1 h1 => by go_simp⟩) hW ?_
      try simp only [Act.put, List.setIfInBounds_toArray, List.set_cons_zero, List.set_cons_succ]
      refine wpAnyH_take (i := 4) (oi := ⟨some 10, _, _, _, _, _⟩) (v := .bool false) rfl (by kernel_rfl) (by kernel_rfl) (by kernel_rfl) (fun _ _ _ h => h) (.inl ⟨by rfl, fun W1 h1 => by go_simp⟩) hW ?_
      try simp only [Act.put, List.setIfInBounds_toArray, List.set_cons_zero, List.set_cons_succ]
      refine wpAnyH_take (i := 5) (oi := ⟨some 11, _, _, _, _, _⟩) (v := undef) rfl (by kernel_rfl) (by kernel_rfl) (by kernel_rfl) (fun _ _ _ h => h) (.inr ⟨by rfl, rfl⟩) hW ?_
      try simp only [Act.put, List.setIfInBounds_toArray, List.set_cons_zero, List.set_cons_succ]
      refine wpAnyH_take (i := 6) (oi := ⟨some 12, _, _, _, _, _⟩) (v := undef) rfl (by kernel_rfl) (by kernel_rfl) (by kernel_rfl) (fun _ _ _ h => h) (.inr ⟨by rfl, rfl⟩) hW ?_
      try simp only [Act.put, List.setIfInBounds_toArray, List.set_cons_zero, List.set_cons_succ]
      refine wpAnyH_take (i := 7) (oi := ⟨some 13, _, _, _, _, _⟩) (v := undef) rfl (by kernel_rfl) (by kernel_rfl) (by kernel_rfl) (fun _ _ _ h => h) (.inr ⟨by rfl, rfl⟩) hW ?_
      try simp only [Act.put, List.setIfInBounds_toArray, List.set_cons_zero, List.set_cons_succ]
      refine wpAnyH_take (i := 8) (oi := ⟨some 14, _, _, _, _, _⟩) (v := undef) rfl (by kernel_rfl) (by kernel_rfl) (by kernel_rfl) (fun _ _ _ h => h) (.inr ⟨by rfl, rfl⟩) hW ?_
      try simp only [Act.put, List.setIfInBounds_toArray, List.set_cons_zero, List.set_cons_succ]
      refine wpAnyH_take (i := 9) (oi := ⟨some 15, _, _, _, _, _⟩) (v := .bool false) rfl (by kernel_rfl) (by kernel_rfl) (by kernel_rfl) (fun _ _ _ h => h) (.inl ⟨by rfl, fun W1 h1 => by go_simp⟩) hW ?_
      try simp only [Act.put, List.setIfInBounds_toArray, List.set_cons_zero, List.set_cons_succ]
      refine wpAnyH_take (i := 10) (oi := ⟨some 16, _, _, _, _, _⟩) (v := .bool false) rfl (by kernel_rfl) (by kernel_rfl) (by kernel_rfl) (fun _ _ _ h => h) (.inl ⟨by rfl, fun W1 h1 => by go_simp⟩) hW ?_
      try simp only [Act.put, List.setIfInBounds_toArray, List.set_cons_zero, List.set_cons_succ]
      refine wpAnyH_take (i := 11) (oi := ⟨some 17, _, _, _, _, _⟩) (v := undef) rfl (by kernel_rfl) (by kernel_rfl) (by kernel_rfl) (fun _ _ _ h => h) (.inr ⟨by rfl, rfl⟩) hW ?_
      try simp only [Act.put, List.setIfInBounds_toArray, List.set_cons_zero, List.set_cons_succ]
      refine wpAnyH_take (i := 12) (oi := ⟨some 18, _, _, _, _, _⟩) (v := undef) rfl (by kernel_rfl) (by kernel_rfl) (by kernel_rfl) (fun _ _ _ h => h) (.inr ⟨by rfl, rfl⟩) hW ?_
      try simp only [Act.put, List.setIfInBounds_toArray, List.set_cons_zero, List.set_cons_succ]
      refine wpAnyH_take (i := 13) (oi := ⟨some 19, _, _, _, _, _⟩) (v := undef) rfl (by kernel_rfl) (by kernel_rfl) (by kernel_rfl) (fun _ _ _ h => h) (.inr ⟨by rfl, rfl⟩) hW ?_
      try simp only [Act.put, List.setIfInBounds_toArray, List.set_cons_zero, List.set_cons_succ]
      refine wpAnyH_take (i := 14) (oi := ⟨some 20, _, _, _, _, _⟩) (v := undef) rfl (by kernel_rfl) (by kernel_rfl) (by kernel_rfl) (fun _ _ _ h => h) (.inr ⟨by rfl, rfl⟩) hW ?_
      try simp only [Act.put, List.setIfInBounds_toArray, List.set_cons_zero, List.set_cons_succ]
      refine wpAnyH_take (i := 15) (oi := ⟨some 21, _, _, _, _, _⟩) (v := undef) rfl (by kernel_rfl) (by kernel_rfl) (by kernel_rfl) (fun _ _ _ h => h) (.inr ⟨by rfl, rfl⟩) hW ?_
      try simp only [Act.put, List.setIfInBounds_toArray, List.set_cons_zero, List.set_cons_succ]
      refine wpAnyH_take (i := 16) (oi := ⟨some 22, _, _, _, _, _⟩) (v := undef) rfl (by kernel_rfl) (by kernel_rfl) (by kernel_rfl) (fun _ _ _ h => h) (.inr ⟨by rfl, rfl⟩) hW ?_
      try simp only [Act.put, List.setIfInBounds_toArray, List.set_cons_zero, List.set_cons_succ]
      refine wpAnyH_take (i := 17) (oi := ⟨some 23, _, _, _, _, _⟩) (v := undef) rfl (by kernel_rfl) (by kernel_rfl) (by kernel_rfl) (fun _ _ _ h => h) (.inr ⟨by rfl, rfl⟩) hW ?_
      try simp only [Act.put, List.setIfInBounds_toArray, List.set_cons_zero, List.set_cons_succ]
      refine wpAnyH_take (i := 18) (oi := ⟨some 24, _, _, _, _, _⟩) (v := undef) rfl (by kernel_rfl) (by kernel_rfl) (by kernel_rfl) (fun _ _ _ h => h) (.inr ⟨by rfl, rfl⟩) hW ?_
      try simp only [Act.put, List.setIfInBounds_toArray, List.set_cons_zero, List.set_cons_succ]
      refine wpAnyH_take (i := 19) (oi := ⟨some 25, _, _, _, _, _⟩) (v := undef) rfl (by kernel_rfl) (by kernel_rfl) (by kernel_rfl) (fun _ _ _ h => h) (.inr ⟨by rfl, rfl⟩) hW ?_
      try simp only [Act.put, List.setIfInBounds_toArray, List.set_cons_zero, List.set_cons_succ]
      refine wpAnyH_take (i := 20) (oi := ⟨some 26, _, _, _, _, _⟩) (v := .bool false) rfl (by kernel_rfl) (by kernel_rfl) (by kernel_rfl) (fun _ _ _ h => h) (.inl ⟨by rfl, fun W1 h1 => by go_simp⟩) hW ?_
      try simp only [Act.put, List.setIfInBounds_toArray, List.set_cons_zero, List.set_cons_succ]
      refine wpAnyH_done (by kernel_rfl) ?_ _
      have HB2 := Aside0.mk (HB.out.trans (hW.mono HB.out.size))
      clear hW
      go_wp2
      rw [HP.out]
      exact ⟨by rw [HS.out]; rfl, HB2.out⟩
end Go.Proofs.YtchhdafgmifhdaaGreat.LeaB
namespace Go.Proofs.YtchhdafgmifhdaaGreat.KpB
open Go.RowKit Go.Proofs.YtchhdafgmifhdaaGreat.B8 Go.Proofs.YtchhdafgmifhdaaGreat.Agg Go.Proofs.YtchhdafgmifhdaaGreat.CodL Go.Proofs.YtchhdafgmifhdaaGreat.CodA Go.Proofs.YtchhdafgmifhdaaGreat.CodB Go.Proofs.YtchhdafgmifhdaaGreat.CrcL Go.Proofs.YtchhdafgmifhdaaGreat.CrcA Go.Proofs.YtchhdafgmifhdaaGreat.CrcB Go.Proofs.YtchhdafgmifhdaaGreat.PVerifyForms Go.Proofs.YtchhdafgmifhdaaGreatW.PrintWords Go.Proofs.YtchhdafgmifhdaaGreatW.PrintLast Go.Proofs.YtchhdafgmifhdaaGreatW.PrintMore Go.Proofs.YtchhdafgmifhdaaGreat.CatL Go.Proofs.YtchhdafgmifhdaaGreat.PtrA Go.Proofs.YtchhdafgmifhdaaGreat.PtrB Go.Proofs.YtchhdafgmifhdaaGreat.PtrE Go.Proofs.YtchhdafgmifhdaaGreat.OfA Go.Proofs.YtchhdafgmifhdaaGreat.ExtA Go.Proofs.YtchhdafgmifhdaaGreat.KpA
set_option linter.unusedVariables false
set_option linter.unusedSimpArgs false
section
variable {ops : Array Oper} {o : Oper} {rest : List Oper} {a : Act} {w : World} {Q : Exit → Act → World → Prop}
/-- A pointer is loaded out of a row. -/
theorem load_P (hgd : o.guard = none) (x : Operand) (ho : o.op = .load 32 x) (b off : Nat) (p : Ptr) (hx : a.eval x = .pointer (some ⟨b, off, none⟩)) (hk : Ok p) (hc : w.rangeAt b off (encP p).toList)
    (h : wpList Tryz.prog ops Q rest (a.put o.dst (.agg (encP p))) w) : wpList Tryz.prog ops Q (o :: rest) a w := by
  refine wpList_load_mid hgd 32 x ho b off hx (encP p).toList _ hc Tryz.underlying32 rfl (by rw [enc_len hk]; kernel_rfl) ?_
  simpa using h
end

theorem not_right (p : Ptr) (h : Ok p) (w : World) : Calls Tryz.prog 117 #[.agg (encP p)] w fun e w' => e = .returned (.bool (!rightB p)) ∧ Below w.heap.size w w' := by
  have g := Aside0.mk (blk_new w (.cells (encP p) 32))
  have HB := Aside0.mk (below_alloc (Below.refl w.heap.size w) (.cells (encP p) 32))
  have hpc := Aside0.mk (pc p h.len)
  have HK := Aside0.mk h
  clear h
  go_enter Tryz.func117, Tryz.ntmps117
  go_wp2_with (refine wpList_load_row rfl 32 (.tmp 1) rfl w.heap.size rfl 32 (encP p) (0, 0) _ g.out Tryz.underlying32 rfl (by rw [encP_size HK.out.len]; kernel_rfl) ?_)
  refine (right_calls (encP p) p hpc.out _).mono ?_
  rintro e w1 ⟨rfl, hb⟩
  have HB1 := Aside0.mk (below_then HB.out HB.out.size hb)
  clear hb
  go_wp2
  go_ret
  exact ⟨rfl, HB1.out⟩

/-- Where the first one is that is not right, or -1. -/
def TellsAt (w : World) (l : List Ptr) (e : Ending) (w' : World) : Prop := ∃ r : Int, e = .returned (.int .i64 r) ∧ (0 ≤ r ↔ ¬ ∀ p ∈ l, Right p) ∧ Below w.heap.size w w'
theorem rightB_iff (p : Ptr) : rightB p = true ↔ Right p := by simp [rightB]
set_option maxRecDepth 100000 in
set_option maxHeartbeats 1000000 in
theorem index_calls (A : Option Addr) (c n : Nat) (l : List Ptr) (hnl : n = l.length) (w : World) (hr : Kd.C kP w A n l) (hn : n ≤ c) (hm : n ≤ 1000) :
    Calls Tryz.prog 144 #[.slice A n c, .func (.func 117) #[] #[]] w (TellsAt w l) := by
  have HR := Aside0.mk hr
  have HN := Aside0.mk hnl
  clear hr hnl
  go_enter Tryz.func144, Tryz.ntmps144
  go_wp2
  go_loopw [8] (fun v8 wr => ∃ (j : Nat), v8 = .int .i64 (j : Int) ∧ j ≤ n ∧ Aside0 (∀ i, i < j → Right (l.getD i zeroP)) ∧ Aside0 (Below w.heap.size w wr)) (fun v _ => n - (intOf v).toNat)
  case atStart => exact ⟨0, rfl, Nat.zero_le _, ⟨fun i h => absurd h (Nat.not_lt_zero _)⟩, ⟨Below.refl _ _⟩⟩
  case round =>
    obtain ⟨j, rfl, hj, hall, HB⟩ := hrel
    by_cases hlt : j < n
    · obtain ⟨b, off, rfl, hb, hx⟩ := CP_at HR.out (by omega)
      obtain ⟨hok, hrg⟩ := hx j hlt
      have HK := Aside0.mk hok
      have hrg := Aside0.mk (rangeAt_below hrg HB.out hb)
      clear hx hok
      generalize hP : l.getD j zeroP = p at *
      have HP := Aside0.mk hP
      clear hP
      go_wp2_with (refine load_P rfl _ rfl b (off + j * 36) p rfl HK.out hrg.out ?_)
      refine (not_right p HK.out _).mono ?_
      rintro e w1 ⟨rfl, hb1⟩
      have HB1 := Aside0.mk (below_then HB.out HB.out.size hb1)
      clear hb1
      by_cases hrt : Right p
      · have hrb : rightB p = true := (rightB_iff p).2 hrt
        rw [hrb]
        have HRT := Aside0.mk hrt
        clear hrt hrb
        go_wp2
        go_roundw
        case rel => exact ⟨j + 1, by go_num, by omega, ⟨fun i h => by
          rcases Nat.lt_or_ge i j with h' | h'
          · exact hall.out i h'
          · obtain rfl : i = j := by omega
            rw [HP.out]
            exact HRT.out⟩, HB1⟩
        case measure => simp [intOf]; omega
      · have hrb : rightB p = false := by simp [rightB, hrt]
        rw [hrb]
        have HRT := Aside0.mk hrt
        clear hrt hrb
        go_wp2
        go_ret
        refine ⟨_, rfl, ⟨fun _ h => ?_, fun _ => by omega⟩, HB1.out⟩
        refine HRT.out ?_
        rw [← HP.out, List.getD, List.getElem?_eq_getElem (by rw [← HN.out]; exact hlt)]
        exact h _ (List.getElem_mem _)
    · obtain rfl : j = n := by omega
      go_wp2
      go_ret
      refine ⟨_, rfl, ⟨fun h => absurd h (by decide), fun h => absurd ?_ h⟩, HB.out⟩
      intro p hp
      obtain ⟨i, hi, rfl⟩ := List.getElem_of_mem hp
      have := hall.out i (by rw [HN.out]; exact hi)
      rwa [List.getD, List.getElem?_eq_getElem hi] at this
theorem contains_calls (A : Option Addr) (c n : Nat) (l : List Ptr) (hnl : n = l.length) (w : World) (hr : Kd.C kP w A n l) (hn : n ≤ c) (hm : n ≤ 1000) :
    Calls Tryz.prog 116 #[.slice A n c, .func (.func 117) #[] #[]] w (fun e w' => e = .returned (.bool (!decide (∀ p ∈ l, Right p))) ∧ Below w.heap.size w w') := by
  have HR := Aside0.mk hr
  have HN := Aside0.mk hnl
  obtain ⟨q, hq⟩ : ∃ q : Bool, q = !decide (∀ p ∈ l, Right p) := ⟨_, rfl⟩
  rw [← hq]
  have HQ := Aside0.mk hq
  clear hr hnl hq
  go_enter Tryz.func116, Tryz.ntmps116
  go_wp2_with fail
  refine (index_calls A c n l HN.out w HR.out hn hm).mono ?_
  rintro e w1 ⟨r, rfl, hi, hb⟩
  have HI := Aside0.mk hi
  have HB := Aside0.mk hb
  clear hi hb
  by_cases h0 : r ≥ 0
  · go_wp2
    go_ret
    refine ⟨?_, HB.out⟩
    rw [HQ.out, decide_eq_false (HI.out.1 h0)]
    rfl
  · have hd : decide (0 ≤ r) = false := decide_eq_false (by omega)
    go_wp2
    go_ret
    refine ⟨?_, HB.out⟩
    have : ∀ p ∈ l, Right p := Classical.byContradiction fun h => by have := HI.out.2 h; omega
    rw [HQ.out, decide_eq_true this]
    rfl

end Go.Proofs.YtchhdafgmifhdaaGreat.KpB
namespace Go.Proofs.YtchhdafgmifhdaaGreat.LeaC
open Go.RowKit Go.Proofs.YtchhdafgmifhdaaGreat.B8 Go.Proofs.YtchhdafgmifhdaaGreat.Agg Go.Proofs.YtchhdafgmifhdaaGreat.CodL Go.Proofs.YtchhdafgmifhdaaGreat.CodA Go.Proofs.YtchhdafgmifhdaaGreat.CodB Go.Proofs.YtchhdafgmifhdaaGreat.CrcL Go.Proofs.YtchhdafgmifhdaaGreat.CrcA Go.Proofs.YtchhdafgmifhdaaGreat.CrcB Go.Proofs.YtchhdafgmifhdaaGreat.PVerifyForms Go.Proofs.YtchhdafgmifhdaaGreatW.PrintWords Go.Proofs.YtchhdafgmifhdaaGreatW.PrintLast Go.Proofs.YtchhdafgmifhdaaGreatW.PrintMore Go.Proofs.YtchhdafgmifhdaaGreat.CatL Go.Proofs.YtchhdafgmifhdaaGreat.PtrA Go.Proofs.YtchhdafgmifhdaaGreat.PtrB Go.Proofs.YtchhdafgmifhdaaGreat.PtrE Go.Proofs.YtchhdafgmifhdaaGreat.OfA Go.Proofs.YtchhdafgmifhdaaGreat.ExtA Go.Proofs.YtchhdafgmifhdaaGreat.KpA Go.Proofs.YtchhdafgmifhdaaGreat.KpB Go.Proofs.YtchhdafgmifhdaaGreat.TxtK Go.Proofs.YtchhdafgmifhdaaGreat.CmpK Go.Proofs.YtchhdafgmifhdaaGreat.LeaA Go.Proofs.YtchhdafgmifhdaaGreat.LeaB
set_option linter.unusedVariables false
set_option linter.unusedSimpArgs false
/-- A node is right, but for how many bytes it has. -/
structure Shape (x : Nd) : Prop where
  lvl : x.lvl ≤ 12
  some_ : 0 < x.keys.length
  most : x.keys.length ≤ 1000
  lists : Lists x
  key : ∀ k ∈ x.keys, k.length ≤ 160 ∧ Byt k
  rise : ∀ i, i + 1 < x.keys.length → cmpL (x.keys.getD i []) (x.keys.getD (i + 1) []) < 0
  val : ∀ v ∈ x.vals, v.length ≤ 1024 ∧ Byt v
  kid : ∀ p ∈ x.kids, Ok p ∧ Right p
/-- Where a row of byte slices lies. -/
theorem CB_at {w : World} {A : Option Addr} {n : Nat} {l : List (List Int)} (h : Kd.C kB w A n l) (h0 : 0 < n) :
    ∃ b off, A = some ⟨b, off, none⟩ ∧ b < w.heap.size ∧ ∀ i, i < n → ∃ A2 c2, w.cell? ⟨b, off + i, none⟩ = some (.slice A2 (l.getD i []).length c2) ∧ (l.getD i []).length ≤ c2 ∧ C8 w A2 (l.getD i []).length (l.getD i []) := by
  have each : ∀ i, i < n → ∃ ad A2 c2, A = some ad ∧ w.cell? (ad.add i) = some (.slice A2 (l.getD i []).length c2) ∧ (l.getD i []).length ≤ c2 ∧ C8 w A2 (l.getD i []).length (l.getD i []) := by
    intro i hi
    obtain ⟨ad, c, e, _, hk, hj⟩ := Kd.C_get h ([] : List Int) (i : Int) (by omega) (by omega)
    rw [Int.toNat_natCast] at hk hj
    obtain ⟨A2, c2, rfl, hl, hc⟩ := hk
    have := hj 0 _ rfl
    rw [show i * kB.sz + 0 = i from by show i * 1 + 0 = i; omega] at this
    exact ⟨ad, A2, c2, e, this, hl, hc⟩
  obtain ⟨ad, A2, c2, e, g0, _⟩ := each 0 h0
  have hs : ad.spot = none := by
    have := World.cell?_spot g0
    rwa [show ad.add 0 = ad from rfl] at this
  obtain ⟨b, off, s⟩ := ad
  simp only at hs
  subst hs
  refine ⟨b, off, e, World.block_lt_of_cell? w _ g0, fun i hi => ?_⟩
  obtain ⟨ad', A3, c3, e', q0, q1, q2⟩ := each i hi
  rw [e] at e'
  injection e' with e'
  subst e'
  rw [add_at] at q0
  exact ⟨A3, c3, q0, q1, q2⟩
set_option maxRecDepth 100000 in
set_option maxHeartbeats 8000000 in
theorem shape80 (x : Nd) (s : Ns) (w : World) (hv : NV w x s) (hx : Shape x) : Calls Tryz.prog 80 #[.agg (encN x s)] w fun e w' => e = .returned (.bool true) ∧ Below w.heap.size w w' := by
  obtain ⟨P, hP⟩ : ∃ P : Ending → World → Prop, P = fun e w' => e = .returned (.bool true) ∧ Below w.heap.size w w' := ⟨_, rfl⟩
  rw [← hP]
  have HP := Aside0.mk hP
  clear hP
  have HX := Aside0.mk hx
  have HV := Aside0.mk hv
  obtain ⟨n1, hn1⟩ : ∃ n, n = x.keys.length := ⟨_, rfl⟩
  obtain ⟨n2, hn2⟩ : ∃ n, n = x.vals.length := ⟨_, rfl⟩
  obtain ⟨n3, hn3⟩ : ∃ n, n = x.kids.length := ⟨_, rfl⟩
  obtain ⟨lv, hlv⟩ : ∃ n, n = x.lvl := ⟨_, rfl⟩
  obtain ⟨A1, c1, A2, c2, A3, c3⟩ := s
  have HN := Aside0.mk (And.intro hn1 (And.intro hn2 (And.intro hn3 hlv)))
  have henc : encN x ⟨A1, c1, A2, c2, A3, c3⟩ = #[.int .i64 (lv : Int), .slice A1 n1 c1, .slice A2 n2 c2, .slice A3 n3 c3] := by rw [hn1, hn2, hn3, hlv]
  obtain ⟨cs, hcs⟩ : ∃ cs, cs = encN x ⟨A1, c1, A2, c2, A3, c3⟩ := ⟨_, rfl⟩
  have HCS := Aside0.mk (And.intro hcs (show cs.size = 4 by rw [hcs]; rfl))
  have hb1 : 0 < n1 := by rw [hn1]; exact hx.some_
  have hb2 : n1 ≤ 1000 := by rw [hn1]; exact hx.most
  have hb3 : lv ≤ 12 := by rw [hlv]; exact hx.lvl
  have HB := Aside0.mk (below_alloc (Below.refl w.heap.size w) (.cells cs 39))
  have hg := blk_new w (.cells cs 39)
  have HG := Aside0.mk hg
  have q0 : (w.alloc (.cells cs 39)).cell? ⟨w.heap.size, 0, none⟩ = some (.int .i64 (lv : Int)) := by rw [cell_of_row _ _ 0 _ 39 (0, 0) hg, hcs, henc]; rfl
  have q1 : (w.alloc (.cells cs 39)).cell? ⟨w.heap.size, 1, none⟩ = some (.slice A1 n1 c1) := by rw [cell_of_row _ _ 1 _ 39 (0, 0) hg, hcs, henc]; rfl
  have q2 : (w.alloc (.cells cs 39)).cell? ⟨w.heap.size, 2, none⟩ = some (.slice A2 n2 c2) := by rw [cell_of_row _ _ 2 _ 39 (0, 0) hg, hcs, henc]; rfl
  have q3 : (w.alloc (.cells cs 39)).cell? ⟨w.heap.size, 3, none⟩ = some (.slice A3 n3 c3) := by rw [cell_of_row _ _ 3 _ 39 (0, 0) hg, hcs, henc]; rfl
  have d0 : decide ((lv : Int) < 0) = false := decide_eq_false (by omega)
  have d1 : decide (12 < (lv : Int)) = false := decide_eq_false (by omega)
  have d2 : ((n1 : Int) == 0) = false := by rw [beq_eq_false_iff_ne]; omega
  have d3 : decide (4096 < (n1 : Int)) = false := decide_eq_false (by omega)
  rw [← hcs]
  clear hx hv hn1 hn2 hn3 hlv hcs henc hg
  go_enter Tryz.func80, Tryz.ntmps80
  go_wp2_with (first | (refine gate_on (by rfl) ?_; dsimp only; refine wpList_load_row rfl 39 (.tmp 1) rfl w.heap.size rfl 39 cs (0, 0) _ HG.out Tryz.underlying39 rfl (by rw [HCS.out.2]; kernel_rfl) ?_))
  have L1 := lists115 x ⟨A1, c1, A2, c2, A3, c3⟩ (w.alloc (.cells cs 39)) HX.out.lists (by rw [← HN.out.1]; omega)
  rw [← HCS.out.1] at L1
  refine L1.mono ?_
  clear L1
  rintro e w1 ⟨rfl, hb⟩
  have HB1 := Aside0.mk (below_then HB.out HB.out.size hb)
  have hsz : w.heap.size < w1.heap.size := Nat.lt_of_lt_of_le (by simp) hb.size
  have r1 : w1.cell? ⟨w.heap.size, 1, none⟩ = some (.slice A1 n1 c1) := (hb.cell (p := ⟨w.heap.size, 1, none⟩) (by simp)).trans q1
  have R2 := Aside0.mk (show w1.cell? ⟨w.heap.size, 2, none⟩ = some (.slice A2 n2 c2) from (hb.cell (p := ⟨w.heap.size, 2, none⟩) (by simp)).trans q2)
  have R3 := Aside0.mk (show w1.cell? ⟨w.heap.size, 3, none⟩ = some (.slice A3 n3 c3) from (hb.cell (p := ⟨w.heap.size, 3, none⟩) (by simp)).trans q3)
  have HV1 := Aside0.mk (HV.out.below HB1.out)
  have HSZ := Aside0.mk hsz
  clear q0 q1 q2 q3 HG d0 d1 d2 d3 HB HV hb
  generalize hg0 : w.heap.size = g0 at *
  have HG0 := Aside0.mk hg0
  clear hg0 hsz
  go_wp2
  go_loopw [35] (fun v35 wr => ∃ j : Nat, v35 = .int .i64 (j : Int) ∧ j ≤ n1 ∧ Aside0 (Below w1.heap.size w1 wr)) (fun v _ => n1 - (intOf v).toNat)
  case atStart => exact ⟨0, rfl, Nat.zero_le _, ⟨Below.refl _ _⟩⟩
  case round =>
    obtain ⟨j, rfl, hj, HB2⟩ := hrel
    by_cases hlt : j < n1
    · have hc1 : Kd.C kB w1 A1 n1 x.keys := by rw [HN.out.1]; exact HV1.out.keys
      obtain ⟨b, off, rfl, hb, hx⟩ := CB_at hc1 hb1
      obtain ⟨Aj, cj, fj, lej, Cj⟩ := hx j hlt
      obtain ⟨k, hk⟩ : ∃ k, k = x.keys.getD j [] := ⟨_, rfl⟩
      rw [← hk] at fj lej Cj
      have hkm : k ∈ x.keys := by rw [hk, List.getD, List.getElem?_eq_getElem (by rw [← HN.out.1]; exact hlt)]; exact List.getElem_mem _
      obtain ⟨hkl, hkb⟩ := HX.out.key k hkm
      obtain ⟨m, hm⟩ : ∃ m, m = k.length := ⟨_, rfl⟩
      rw [← hm] at fj lej Cj hkl
      have F := (HB2.out.cell (p := ⟨b, off + j, none⟩) hb).trans fj
      have rr : wr.cell? ⟨g0, 1, none⟩ = some (.slice (some ⟨b, off, none⟩) n1 c1) := (HB2.out.cell (p := ⟨g0, 1, none⟩) HSZ.out).trans r1
      have dl : decide (160 < (m : Int)) = false := decide_eq_false (by omega)
      have KK := Aside0.mk (And.intro hkb (And.intro (Kd.C_below Cj HB2.out) (And.intro hk hm)))
      have HBB := Aside0.mk hb
      have HC1 := Aside0.mk (And.intro hc1 hx)
      clear Cj hkb hkm hk hm fj hx hc1 hb lej
      have hmm : m ≤ 160 := hkl
      rcases j with _ | j
      · rw [Nat.add_zero] at F
        go_wp2
        go_roundw
        case rel => exact ⟨1, by go_num, by omega, HB2⟩
        case measure => simp [intOf]; omega
      · obtain ⟨Ai, ci, fi, lei, Ci⟩ := HC1.out.2 j (by omega)
        obtain ⟨k0, hk0⟩ : ∃ k, k = x.keys.getD j [] := ⟨_, rfl⟩
        rw [← hk0] at fi lei Ci
        obtain ⟨m0, hm0⟩ : ∃ m, m = k0.length := ⟨_, rfl⟩
        rw [← hm0] at fi lei Ci
        have F0 := (HB2.out.cell (p := ⟨b, off + j, none⟩) HBB.out).trans fi
        have hkm : k0 ∈ x.keys := by rw [hk0, List.getD, List.getElem?_eq_getElem (by rw [← HN.out.1]; omega)]; exact List.getElem_mem _
        have K0 := Aside0.mk (And.intro (HX.out.key k0 hkm).2 (And.intro (Kd.C_below Ci HB2.out) (And.intro hk0 hm0)))
        clear fi Ci hkm hk0 hm0 lei
        go_wp2_with (refine (compare101 Ai Aj m0 ci m cj k0 k _ K0.out.2.1 KK.out.2.1 K0.out.1 KK.out.1).mono ?_)
        rintro e w2 ⟨rfl, hb2⟩
        have HB3 := Aside0.mk (HB2.out.trans (hb2.mono HB2.out.size))
        clear hb2
        obtain ⟨r, hr⟩ : ∃ r, r = cmpL k0 k := ⟨_, rfl⟩
        have hr0 : r < 0 := by
          rw [hr, K0.out.2.2.1, KK.out.2.2.1]
          exact HX.out.rise j (by rw [← HN.out.1]; omega)
        rw [← hr]
        have dr : decide (0 ≤ r) = false := decide_eq_false (by omega)
        clear hr
        go_wp2
        go_roundw
        case rel => exact ⟨j + 1 + 1, by go_num, by omega, HB3⟩
        case measure => simp [intOf]; omega
    · obtain rfl : j = n1 := by omega
      have r2 : wr.cell? ⟨g0, 2, none⟩ = some (.slice A2 n2 c2) := (HB2.out.cell (p := ⟨g0, 2, none⟩) HSZ.out).trans R2.out
      have hn2 : n2 ≤ 1000 := by
        have := HX.out.lists
        unfold Lists at this
        rw [HN.out.2.1]
        have := HN.out.1
        split at * <;> omega
      go_wp2
      go_loopw [62] (fun v62 wr => ∃ j : Nat, v62 = .int .i64 (j : Int) ∧ j ≤ n2 ∧ Aside0 (Below w1.heap.size w1 wr)) (fun v _ => n2 - (intOf v).toNat)
      case atStart => exact ⟨0, rfl, Nat.zero_le _, HB2⟩
      case round =>
        obtain ⟨i, rfl, hi, HB4⟩ := hrel
        by_cases hlt : i < n2
        · have hc1 : Kd.C kB w1 A2 n2 x.vals := by rw [HN.out.2.1]; exact HV1.out.vals
          obtain ⟨b, off, rfl, hb, hx⟩ := CB_at hc1 (by omega)
          obtain ⟨Aj, cj, fj, lej, Cj⟩ := hx i hlt
          obtain ⟨k, hk⟩ : ∃ k, k = x.vals.getD i [] := ⟨_, rfl⟩
          rw [← hk] at fj lej Cj
          have hkm : k ∈ x.vals := by rw [hk, List.getD, List.getElem?_eq_getElem (by rw [← HN.out.2.1]; exact hlt)]; exact List.getElem_mem _
          obtain ⟨hkl, hkb⟩ := HX.out.val k hkm
          obtain ⟨m, hm⟩ : ∃ m, m = k.length := ⟨_, rfl⟩
          rw [← hm] at fj lej Cj hkl
          have F := (HB4.out.cell (p := ⟨b, off + i, none⟩) hb).trans fj
          have dl : decide (1024 < (m : Int)) = false := decide_eq_false (by omega)
          clear Cj hkb hkm hk hm fj hx hc1 hb lej
          go_wp2
          go_roundw
          case rel => exact ⟨i + 1, by go_num, by omega, HB4⟩
          case measure => simp [intOf]; omega
        · obtain rfl : i = n2 := by omega
          have r3 : wr.cell? ⟨g0, 3, none⟩ = some (.slice A3 n3 c3) := (HB4.out.cell (p := ⟨g0, 3, none⟩) HSZ.out).trans R3.out
          have hn3 : n3 ≤ 1000 := by
            have := HX.out.lists
            unfold Lists at this
            rw [HN.out.2.2.1]
            have := HN.out.1
            split at * <;> omega
          have HC3 := Aside0.mk (show Kd.C kP wr A3 n3 x.kids by rw [HN.out.2.2.1]; exact Kd.C_below HV1.out.kids HB4.out)
          have HL3 := Aside0.mk (show n3 ≤ c3 by rw [HN.out.2.2.1]; exact HV1.out.h3)
          go_wp2_with (refine (contains_calls A3 c3 n3 x.kids HN.out.2.2.1 _ HC3.out HL3.out hn3).mono ?_)
          rintro e w5 ⟨rfl, hb5⟩
          have HB5 := Aside0.mk (below_then HB1.out (Nat.le_of_lt HSZ.out) (HB4.out.trans (hb5.mono HB4.out.size)))
          clear hb5
          have hkk : ∀ p ∈ x.kids, Right p := fun p hp => (HX.out.kid p hp).2
          rw [decide_eq_true hkk]
          clear hkk
          go_wp2
          rw [HP.out]
          exact ⟨rfl, HB5.out⟩
end Go.Proofs.YtchhdafgmifhdaaGreat.LeaC
namespace Go.Proofs.YtchhdafgmifhdaaGreat.PtrF
open Go.RowKit Go.Proofs.YtchhdafgmifhdaaGreat.B8 Go.Proofs.YtchhdafgmifhdaaGreat.CodL Go.Proofs.YtchhdafgmifhdaaGreat.CatL Go.Proofs.YtchhdafgmifhdaaGreat.PtrA Go.Proofs.YtchhdafgmifhdaaGreat.PtrB Go.Proofs.YtchhdafgmifhdaaGreat.PtrE Go.Proofs.YtchhdafgmifhdaaGreat.PVerifyForms Go.Proofs.YtchhdafgmifhdaaGreatW.PrintWords Go.Proofs.YtchhdafgmifhdaaGreatW.PrintLast Go.Proofs.YtchhdafgmifhdaaGreatW.PrintMore
set_option linter.unusedVariables false
set_option linter.unusedSimpArgs false

/-- The pointer of nothing, as cells. -/
abbrev Z56 : Array Value := #[.int .i64 0, .int .i64 0, .int .i64 0, .int .u32 0, .int .u8 0, .int .u8 0, .int .u8 0, .int .u8 0, .int .u8 0, .int .u8 0, .int .u8 0, .int .u8 0, .int .u8 0, .int .u8 0, .int .u8 0, .int .u8 0, .int .u8 0, .int .u8 0, .int .u8 0, .int .u8 0, .int .u8 0, .int .u8 0, .int .u8 0, .int .u8 0, .int .u8 0, .int .u8 0, .int .u8 0, .int .u8 0, .int .u8 0, .int .u8 0, .int .u8 0, .int .u8 0, .int .u8 0, .int .u8 0, .int .u8 0, .int .u8 0]
theorem enc_zero : encP zeroP = Z56 := by kernel_rfl
theorem i56 : (Tryz.prog.info? 32).map (·.size) = some Z56.size := by kernel_rfl
theorem a56 : Z56.all (·.oneCell') = true := by decide +kernel
theorem si {p : Ptr} (h : p.sha.length = 32) : (Tryz.prog.info? 32).map (·.size) = some (encP p).size := by rw [encP_size h]; kernel_rfl

theorem none_calls (p : Ptr) (h : p.sha.length = 32) (w : World) : Calls Tryz.prog 20 #[.agg (encP p)] w fun e w' => e = .returned (.bool (decide (p = zeroP))) ∧ Below w.heap.size w w' := by
  have hq : ∀ W : World, (binOp .eql 32 (.agg (encP p)) (.agg Z56)).run Tryz.prog W = .ok (.bool (decide (p = zeroP))) W := fun W => by rw [← enc_zero]; exact eql56 p zeroP h rfl W
  have g := blk_new w (.cells (encP p) 32)
  have hi := si h
  generalize encP p = cs at *
  go_enter Tryz.func20, Tryz.ntmps20
  go_wp2_with (refine wpList_load_row rfl 32 _ rfl _ rfl 32 cs (0, 0) _ g Tryz.underlying32 rfl hi ?_)
  go_ret
  exact ⟨rfl, below_alloc (Below.refl _ _) _⟩
end Go.Proofs.YtchhdafgmifhdaaGreat.PtrF
namespace Go.Proofs.YtchhdafgmifhdaaGreat.PtrG
open Go.RowKit Go.Proofs.YtchhdafgmifhdaaGreat.B8 Go.Proofs.YtchhdafgmifhdaaGreat.CodL Go.Proofs.YtchhdafgmifhdaaGreat.CodA Go.Proofs.YtchhdafgmifhdaaGreat.CodB Go.Proofs.YtchhdafgmifhdaaGreat.CatL Go.Proofs.YtchhdafgmifhdaaGreat.PtrA Go.Proofs.YtchhdafgmifhdaaGreat.PtrB Go.Proofs.YtchhdafgmifhdaaGreat.PtrE Go.Proofs.YtchhdafgmifhdaaGreat.PtrF Go.Proofs.YtchhdafgmifhdaaGreat.PVerifyForms Go.Proofs.YtchhdafgmifhdaaGreatW.PrintWords Go.Proofs.YtchhdafgmifhdaaGreatW.PrintLast Go.Proofs.YtchhdafgmifhdaaGreatW.PrintMore
set_option linter.unusedVariables false
set_option linter.unusedSimpArgs false

/-- A new block of numbers, read. -/
theorem C64_new (w : World) (c : List Int) (t : TypeId) (hc : c.length ≤ 9223372036854775807) : Kd.C (Kd.int .u64) (w.alloc (.cells (c.map (Value.int .u64)).toArray t)) (some ⟨w.heap.size, 0, none⟩) c.length c := by
  refine ⟨rfl, hc, fun _ => ⟨_, rfl, fun j p hj => ⟨[.int .u64 p], rfl, rfl, fun i u hu => ?_⟩⟩⟩
  match i with
  | 0 =>
    simp only [show (Kd.int .u64).sz = 1 from rfl, Nat.mul_one, Nat.add_zero]
    rw [show (⟨w.heap.size, 0, none⟩ : Addr).add j = ⟨w.heap.size, j, none⟩ from by rw [add_at]; simp]
    simp only [World.cell?_alloc_new]
    simp only [List.getElem?_cons_zero, Option.some.injEq] at hu
    subst hu
    simp [hj]
  | i + 1 => simp at hu
theorem C64_at (w : World) (c : List Int) (t : TypeId) (n : Nat) (hn : n = w.heap.size) (hc : c.length ≤ 9223372036854775807) : Kd.C (Kd.int .u64) (w.alloc (.cells (c.map (Value.int .u64)).toArray t)) (some ⟨n, 0, none⟩) c.length c := by subst hn; exact C64_new w c t hc
/-- A row of bytes is told, to be read. -/
def Reads (w : World) (l : List Int) (e : Ending) (w' : World) : Prop := ∃ A c, e = .returned (.slice A l.length c) ∧ l.length ≤ c ∧ C8 w' A l.length l ∧ Below w.heap.size w w'
theorem Tells.reads {w w' : World} {l : List Int} {e : Ending} (h : Tells w l e w') : Reads w l e w' := by
  obtain ⟨v, rfl, hr, hb⟩ := h
  obtain ⟨A, c, rfl, hle, hC⟩ := Kd.R_reads hr
  exact ⟨A, c, rfl, hle, hC, hb⟩
theorem fixed_reads (A : Option Addr) (c n : Nat) (l l1 : List Int) (hn : n = l.length) (size : Nat) (B : Option Addr) (d m : Nat) (ns : List Int) (hmn : m = ns.length) (w : World) (hl : l1 = l ++ ns.flatMap (fixedL size)) (hr : C8 w A l.length l) (hm : l.length ≤ 1000000) (h1 : 1 ≤ size) (h8 : size ≤ 8)
    (hq : Kd.C (Kd.int .u64) w B ns.length ns) (hk : ns.length ≤ 4) (hx : ∀ x ∈ ns, 0 ≤ x ∧ x < 18446744073709551616) :
    Calls Tryz.prog 146 #[.slice A n c, .int .i64 (size : Int), .slice B m d] w (Reads w l1) := by
  subst hn; subst hl; subst hmn
  exact (fixed_calls A c l size B d ns w hr hm h1 h8 hq hk hx).mono fun e w' h => Tells.reads h
theorem wrap64u (x : Int) (h0 : 0 ≤ x) (h1 : x < 18446744073709551616) : IntKind.u64.wrap x = x := wraps_u64 x h0 (by omega)

set_option maxRecDepth 100000 in
set_option maxHeartbeats 2000000 in
theorem put_calls (A : Option Addr) (c : Nat) (l : List Int) (p : Ptr) (hp : Lays p) (w : World) (hr : C8 w A l.length l) (hm : l.length ≤ 900000) :
    Calls Tryz.prog 121 #[.slice A l.length c, .agg (encP p)] w (Tells w (l ++ ptrL p)) := by
  have hb := hp.bounds
  have hk := hp.1
  have hc0 := hk.crc0
  have hc1 := hk.crc1
  have g := blk_new w (.cells (encP p) 32)
  have q := pc p hk.len
  have HB0 := Aside0.mk (below_alloc (Below.refl w.heap.size w) (.cells (encP p) 32))
  have HR := Aside0.mk (Kd.C_below hr HB0.out)
  have x0 : (w.alloc (.cells (encP p) 32)).cell? ⟨w.heap.size, 0, none⟩ = some (.int .i64 p.at_) := by rw [cell_of_row _ _ 0 _ 32 (0, 0) g]; exact q.c0
  have x2 : (w.alloc (.cells (encP p) 32)).cell? ⟨w.heap.size, 2, none⟩ = some (.int .i64 p.len) := by rw [cell_of_row _ _ 2 _ 32 (0, 0) g]; exact q.c2
  have w0 := wrap64u p.at_ (by omega) (by omega)
  have w1 := wrap64u p.birth (by omega) (by omega)
  have w2 := wrap64u p.len (by omega) (by omega)
  have w3 := wrap64u p.crc (by omega) (by omega)
  have G := Aside0.mk g
  have Q := Aside0.mk q
  have HP := Aside0.mk hp
  have hsz : w.heap.size < (w.alloc (.cells (encP p) 32)).heap.size := by simp
  clear hr g q
  generalize encP p = cs at *
  obtain ⟨l1, hL1⟩ : ∃ l1, l1 = l ++ [p.at_, p.len].flatMap (fixedL 4) := ⟨_, rfl⟩
  obtain ⟨l2, hL2⟩ : ∃ l2, l2 = l1 ++ [p.birth].flatMap (fixedL 8) := ⟨_, rfl⟩
  obtain ⟨l3, hL3⟩ : ∃ l3, l3 = l2 ++ [p.crc].flatMap (fixedL 4) := ⟨_, rfl⟩
  have hl1 : l1.length = l.length + 8 := by rw [hL1]; simp [fixedL_len]
  have hl2 : l2.length = l.length + 16 := by rw [hL2]; simp [fixedL_len, hl1]
  have hl3 : l3.length = l.length + 20 := by rw [hL3]; simp [fixedL_len, hl2]
  have HL := Aside0.mk (And.intro hL1 (And.intro hL2 hL3))
  have HN := Aside0.mk (And.intro hl1 (And.intro hl2 hl3))
  clear hL1 hL2 hL3 hl1 hl2 hl3
  go_enter Tryz.func121, Tryz.ntmps121
  go_wp2_with fail
  refine (fixed_reads A c l.length l l1 rfl 4 (some ⟨w.heap.size + 1, 0, none⟩) 2 2 [p.at_, p.len] rfl ((w.alloc (.cells cs 32)).alloc (.cells #[.int .u64 p.at_, .int .u64 p.len] 197)) HL.out.1 (Kd.C_below HR.out (below_alloc (Below.refl _ _) _)) (by omega) (by omega) (by omega) (C64_at (w.alloc (.cells cs 32)) [p.at_, p.len] 197 _ (by simp) (by simp)) (by simp) (by intro x hx; simp at hx; omega)).mono ?_
  rintro e u1 ⟨A1, c1, rfl, hle1, hC1, hb1⟩
  have HB1 := Aside0.mk (below_then (below_alloc HB0.out _) (by simp; omega) hb1)
  have G1 := Aside0.mk (blk_below (blk_alloc G.out _) hb1)
  have HC1 := Aside0.mk (And.intro hC1 hle1)
  clear hb1 hC1 hle1 HB0 x0 x2
  have x1 : u1.cell? ⟨w.heap.size, 1, none⟩ = some (.int .i64 p.birth) := by rw [cell_of_row _ _ 1 _ 32 (0, 0) G1.out]; exact Q.out.c1
  go_wp2_with fail
  refine (fixed_reads A1 c1 l1.length l1 l2 rfl 8 (some ⟨u1.heap.size, 0, none⟩) 1 1 [p.birth] rfl (u1.alloc (.cells #[.int .u64 p.birth] 197)) HL.out.2.1 (Kd.C_below HC1.out.1 (below_alloc (Below.refl _ _) _)) (by have := HN.out.1; omega) (by omega) (by omega) (C64_at u1 [p.birth] 197 _ rfl (by simp)) (by simp) (by intro x hx; simp at hx; omega)).mono ?_
  rintro e u2 ⟨A2, c2, rfl, hle2, hC2, hb2⟩
  have HB2 := Aside0.mk (below_then (below_alloc HB1.out _) (by have := HB1.out.size; simp; omega) hb2)
  have G2 := Aside0.mk (blk_below (blk_alloc G1.out _) hb2)
  have HC2 := Aside0.mk (And.intro hC2 hle2)
  clear hb2 hC2 hle2 HB1 x1 HC1 G1
  go_wp2_with fail
  have hsz2 : w.heap.size < u2.heap.size := blk_lt G2.out
  clear hsz G w0 w1 w2
  refine wp_region_held_drew (S := fun w' => w'.heap[w.heap.size]? = some (.cells cs 32 (0, 0)) ∧ C8 w' A2 l2.length l2 ∧ Below w.heap.size w w' ∧ Below u2.heap.size u2 w') (by kernel_rfl) ⟨G2.out, Kd.C_below HC2.out.1 (below_drew (Below.refl _ _)), below_drew HB2.out, below_drew (Below.refl _ _)⟩ (fun hW => ?_)
  refine wpAnyH_take (i := 0) (oi := ⟨some 20, _, _, _, _, _⟩) (v := .slice A2 l2.length c2) rfl (by kernel_rfl) (by kernel_rfl) (by kernel_rfl) (fun _ _ _ h => h) (.inl ⟨by rfl, fun W1 h1 => by go_simp⟩) hW ?_
  try simp only [Act.put, List.setIfInBounds_toArray, List.set_cons_zero, List.set_cons_succ]
  refine wpAnyH_take (i := 1) (oi := ⟨some 21, _, _, _, _, _⟩) (v := .pointer (some ⟨w.heap.size, 3, none⟩)) rfl (by kernel_rfl) (by kernel_rfl) (by kernel_rfl) (fun _ _ _ h => h) (.inl ⟨by rfl, fun W1 h1 => by go_simp⟩) hW ?_
  try simp only [Act.put, List.setIfInBounds_toArray, List.set_cons_zero, List.set_cons_succ]
  refine wpAnyH_take (i := 2) (oi := ⟨some 22, _, _, _, _, _⟩) (v := .int .u32 p.crc) rfl (by kernel_rfl) (by kernel_rfl) (by kernel_rfl) (fun _ _ _ h => h) (.inl ⟨by rfl, fun W1 h1 => by (have x3 : W1.cell? ⟨w.heap.size, 3, none⟩ = some (.int .u32 p.crc) := (by rw [cell_of_row W1 _ 3 cs 32 (0, 0) h1.1]; exact Q.out.c3)); go_simp⟩) hW ?_
  try simp only [Act.put, List.setIfInBounds_toArray, List.set_cons_zero, List.set_cons_succ]
  refine wpAnyH_take (i := 3) (oi := ⟨some 23, _, _, _, _, _⟩) (v := .int .u64 p.crc) rfl (by kernel_rfl) (by kernel_rfl) (by kernel_rfl) (fun _ _ _ h => h) (.inl ⟨by rfl, fun W1 h1 => by go_simp⟩) hW ?_
  try simp only [Act.put, List.setIfInBounds_toArray, List.set_cons_zero, List.set_cons_succ]
  refine wpAnyH_take (i := 6) (oi := ⟨some 26, _, _, _, _, _⟩) (v := .pointer (some ⟨w.heap.size, 4, none⟩)) rfl (by kernel_rfl) (by kernel_rfl) (by kernel_rfl) (fun _ _ _ h => h) (.inl ⟨by rfl, fun W1 h1 => by go_simp⟩) hW ?_
  try simp only [Act.put, List.setIfInBounds_toArray, List.set_cons_zero, List.set_cons_succ]
  refine wpAnyH_take (i := 7) (oi := ⟨some 27, _, _, _, _, _⟩) (v := .slice (some ⟨w.heap.size, 4, none⟩) 32 32) rfl (by kernel_rfl) (by kernel_rfl) (by kernel_rfl) (fun _ _ _ h => h) (.inl ⟨by rfl, fun W1 h1 => by go_simp⟩) hW ?_
  try simp only [Act.put, List.setIfInBounds_toArray, List.set_cons_zero, List.set_cons_succ]
  refine wpAnyH_ready (rs := [4]) (by kernel_rfl) (by simp) (AllReadyH.cons rfl (fun K1 hK1 => ?_) AllReadyH.nil)
  go_simp
  have g4 := blk_new u2 (.cells #[.int .u64 p.crc] 197)
  have b4 : Below (u2.drew).heap.size u2.drew ((u2.alloc (.cells #[.int .u64 p.crc] 197)).drew) := (have h := (Below.refl u2.heap.size u2).alloc (Nat.le_refl _) (.cells #[.int .u64 p.crc] 197); ⟨h.os, h.tape, h.output, h.size, h.block⟩)
  have q4 : Kd.C (Kd.int .u64) ((u2.alloc (.cells #[.int .u64 p.crc] 197)).drew) (some ⟨u2.heap.size, 0, none⟩) 1 [p.crc] := Kd.C_below (C64_at u2 [p.crc] 197 _ rfl (by simp)) (below_drew (Below.refl _ _))
  refine hK1.out _ _ ⟨blk_below hW.1 b4, Kd.C_below hW.2.1 b4, hW.2.2.1.trans (b4.mono hW.2.2.1.size), hW.2.2.2.trans (b4.mono hW.2.2.2.size)⟩ (fun hW1 => ?_)
  try simp only [Act.put, List.setIfInBounds_toArray, List.set_cons_zero, List.set_cons_succ]
  generalize (u2.alloc (.cells #[.int .u64 p.crc] 197)).drew = u4 at *
  refine wpAnyH_ready (rs := [5]) (by kernel_rfl) (by simp) (AllReadyH.cons rfl (fun K2 hK2 => ?_) AllReadyH.nil)
  go_simp
  refine (fixed_calls A2 c2 l2 4 (some ⟨u2.heap.size, 0, none⟩) 1 [p.crc] u4 hW1.2.1 (by have := HN.out.2.1; omega) (by omega) (by omega) q4 (by simp) (by intro x hx; simp at hx; omega)).mono ?_
  rintro e u5 ⟨v5, rfl, hr5, hb5⟩
  refine hK2.out _ _ ⟨blk_below hW1.1 hb5, Kd.C_below hW1.2.1 hb5, hW1.2.2.1.trans (hb5.mono hW1.2.2.1.size), hW1.2.2.2.trans (hb5.mono hW1.2.2.2.size)⟩ (fun hW2 => ?_)
  try simp only [Act.put, List.setIfInBounds_toArray, List.set_cons_zero, List.set_cons_succ]
  refine wpAnyH_ready (rs := [8]) (by kernel_rfl) (by simp) (AllReadyH.cons rfl (fun K3 hK3 => ?_) AllReadyH.nil)
  obtain ⟨i0, hi0, hz0, hz1, hz2⟩ := info_parts B8.info5
  rw [← HL.out.2.2] at hr5
  have hcell : ∀ j u, (p.sha.map (Value.int .u8))[j]? = some u → u5.cell? ((⟨w.heap.size, 4, none⟩ : Addr).add j) = some u := by
    intro j u hj
    rw [List.getElem?_map] at hj
    have hj32 : j < 32 := by
      rcases Nat.lt_or_ge j 32 with h | h
      · exact h
      · rw [List.getElem?_eq_none (by have := HP.out.1.len; omega)] at hj
        simp at hj
    rw [show (⟨w.heap.size, 4, none⟩ : Addr).add j = ⟨w.heap.size, 4 + j, none⟩ from by rw [add_at], cell_of_row u5 _ (4 + j) cs 32 (0, 0) hW2.1, Q.out.sha j hj32]
    have := HP.out.1.len
    rw [List.getElem?_eq_getElem (by omega)] at hj
    simp only [Option.map_some, Option.some.injEq] at hj
    rw [← hj]
    simp [List.getD, List.getElem?_eq_getElem (show j < p.sha.length by omega)]
  have hbase : u4.heap.size ≤ u5.heap.size := hb5.size
  refine wp_append_own (o := ⟨some 28, _, _, _, _, _⟩) _ (.tmp 25) (.tmp 27) 36 rfl u4.heap.size 5 i0 (.int .u8 0) 1 1 Tryz.underlying36 hi0 hz0 hz1 hz2 rfl (by decide) v5 l3.length (encs (Value.int .u8) l3) rfl (Kd.own_of_R hr5) ⟨w.heap.size, 4, none⟩ 32 32 (p.sha.map (Value.int .u8)) rfl ?c1 hcell ?c2 ?c3 ?c4 hbase ?_
  case c1 => simp [HP.out.1.len]
  case c2 => intro u hu; simp only [List.mem_map] at hu; obtain ⟨x, _, rfl⟩ := hu; rfl
  case c3 => have := HN.out.2.2; simp only [maxLen]; omega
  case c4 => have := HN.out.2.2; omega
  intro v6 u6 hown hgrow _
  have hb6 : Below u4.heap.size u4 u6 := hb5.grown hgrow hbase (fun k hk => (World.ownsRow.lt (Kd.own_of_R hr5) k hk).1)
  refine hK3.out _ _ ⟨blk_below hW1.1 hb6, Kd.C_below hW1.2.1 hb6, hW1.2.2.1.trans (hb6.mono hW1.2.2.1.size), hW1.2.2.2.trans (hb6.mono hW1.2.2.2.size)⟩ (fun hW3 => ?_)
  try simp only [Act.put, List.setIfInBounds_toArray, List.set_cons_zero, List.set_cons_succ]
  refine wpAnyH_take (i := 9) (oi := ⟨some 4, _, _, _, _, _⟩) (v := v6) rfl (by kernel_rfl) (by kernel_rfl) (by kernel_rfl) (fun _ _ _ h => h) (.inl ⟨by rfl, fun _ _ => by go_simp⟩) hW3 ?_
  try simp only [Act.put, List.setIfInBounds_toArray, List.set_cons_zero, List.set_cons_succ]
  refine wpAnyH_done (by kernel_rfl) ?_ _
  have HB := Aside0.mk hW3.2.2.1
  have HV : R8 u6 w.heap.size v6 (l3 ++ p.sha) := by
    refine Kd.R_of_own ?_ (fun _ _ => trivial)
    have := own_weaken hown hW1.2.2.1.size
    simpa [encs, HP.out.1.len] using this
  have HV := Aside0.mk HV
  clear hK1 hK2 hK3 K1 K2 K3 hW hW1 hW2 hW3 hown hgrow hb6 hb5 hr5 hcell hbase
  go_wp2
  go_ret
  refine ⟨v6, rfl, ?_, HB.out⟩
  have h := HV.out
  rw [HL.out.2.2, HL.out.2.1, HL.out.1] at h
  simpa [ptrL, List.append_assoc] using h
end Go.Proofs.YtchhdafgmifhdaaGreat.PtrG
namespace Go.Proofs.YtchhdafgmifhdaaGreat.LeaD
open Go.RowKit Go.Proofs.YtchhdafgmifhdaaGreat.B8 Go.Proofs.YtchhdafgmifhdaaGreat.Agg Go.Proofs.YtchhdafgmifhdaaGreat.CodL Go.Proofs.YtchhdafgmifhdaaGreat.CodA Go.Proofs.YtchhdafgmifhdaaGreat.CodB Go.Proofs.YtchhdafgmifhdaaGreat.CrcL Go.Proofs.YtchhdafgmifhdaaGreat.CrcA Go.Proofs.YtchhdafgmifhdaaGreat.CrcB Go.Proofs.YtchhdafgmifhdaaGreat.PVerifyForms Go.Proofs.YtchhdafgmifhdaaGreatW.PrintWords Go.Proofs.YtchhdafgmifhdaaGreatW.PrintLast Go.Proofs.YtchhdafgmifhdaaGreatW.PrintMore Go.Proofs.YtchhdafgmifhdaaGreat.CatL Go.Proofs.YtchhdafgmifhdaaGreat.PtrA Go.Proofs.YtchhdafgmifhdaaGreat.PtrB Go.Proofs.YtchhdafgmifhdaaGreat.PtrE Go.Proofs.YtchhdafgmifhdaaGreat.OfA Go.Proofs.YtchhdafgmifhdaaGreat.ExtA Go.Proofs.YtchhdafgmifhdaaGreat.KpA Go.Proofs.YtchhdafgmifhdaaGreat.KpB Go.Proofs.YtchhdafgmifhdaaGreat.TxtK Go.Proofs.YtchhdafgmifhdaaGreat.CmpK Go.Proofs.YtchhdafgmifhdaaGreat.LeaA Go.Proofs.YtchhdafgmifhdaaGreat.LeaB Go.Proofs.YtchhdafgmifhdaaGreat.LeaC
set_option linter.unusedVariables false
set_option linter.unusedSimpArgs false
/-- Bytes behind their length. -/
def shB (l : List Int) : List Int := shortL l.length ++ l
theorem bytesOf_str {l : List Int} (h : Byt l) : bytesOf (strOfNums l) = l := by
  unfold bytesOf
  rw [strOfNums_data, List.map_map]
  conv => rhs; rw [← List.map_id l]
  refine List.map_congr_left fun x hx => ?_
  have := h x hx
  simp only [Function.comp, id, UInt8.toNat_ofNat']
  omega
theorem textL_str {l : List Int} (h : Byt l) : textL (strOfNums l) = shB l := by
  rw [textL, shB, bytesOf_str h, strOfNums_size]
def prevK (x : Nd) : Nat → List Int
  | 0 => []
  | j + 1 => x.keys.getD j []
def itemL (x : Nd) (j : Nat) : List Int :=
  shortL (sharedL (prevK x j) (x.keys.getD j [])) ++ shB ((x.keys.getD j []).drop (sharedL (prevK x j) (x.keys.getD j []))) ++ (if x.lvl = 0 then shB (x.vals.getD j []) else ptrL (x.kids.getD j zeroP))
def itemsL (x : Nd) : Nat → List Int
  | 0 => []
  | j + 1 => itemsL x j ++ itemL x j
/-- A node's bytes. -/
def nodeL (x : Nd) : List Int := shortL x.lvl ++ shortL x.keys.length ++ itemsL x x.keys.length
theorem shortL_le {n : Nat} (h : n < 18446744073709551616) : (shortL n).length ≤ 10 := by
  have := glen_ten (n := n) h
  unfold glen at this
  omega
theorem itemL_le {x : Nd} (hx : Shape x) {j : Nat} (hj : j < x.keys.length) : (itemL x j).length ≤ 2000 := by
  have hk := hx.key (x.keys.getD j []) (by rw [List.getD, List.getElem?_eq_getElem hj]; exact List.getElem_mem _)
  have hs := sharedL_le (prevK x j) (x.keys.getD j [])
  have h1 := shortL_le (n := sharedL (prevK x j) (x.keys.getD j [])) (by omega)
  have h2 := shortL_le (n := ((x.keys.getD j []).drop (sharedL (prevK x j) (x.keys.getD j []))).length) (by rw [List.length_drop]; omega)
  have h3 : (if x.lvl = 0 then shB (x.vals.getD j []) else ptrL (x.kids.getD j zeroP)).length ≤ 1034 := by
    have hL := hx.lists
    unfold Lists at hL
    split
    · rename_i h
      rw [if_pos h] at hL
      have hv := hx.val (x.vals.getD j []) (by rw [List.getD, List.getElem?_eq_getElem (by omega)]; exact List.getElem_mem _)
      have := shortL_le (n := (x.vals.getD j []).length) (by omega)
      rw [shB, List.length_append]
      omega
    · rename_i h
      rw [if_neg h] at hL
      have hv := hx.kid (x.kids.getD j zeroP) (by rw [List.getD, List.getElem?_eq_getElem (by omega)]; exact List.getElem_mem _)
      rw [ptrL_len hv.1]
      omega
  obtain ⟨a, ha⟩ : ∃ a, a = shortL (sharedL (prevK x j) (x.keys.getD j [])) := ⟨_, rfl⟩
  obtain ⟨c, hc⟩ : ∃ c, c = (if x.lvl = 0 then shB (x.vals.getD j []) else ptrL (x.kids.getD j zeroP)) := ⟨_, rfl⟩
  rw [← ha] at h1
  rw [← hc] at h3
  rw [itemL, ← ha, ← hc, List.length_append, List.length_append, shB, List.length_append]
  have := List.length_drop (i := sharedL (prevK x j) (x.keys.getD j [])) (l := x.keys.getD j [])
  omega
theorem itemsL_le {x : Nd} (hx : Shape x) : ∀ {j : Nat}, j ≤ x.keys.length → (itemsL x j).length ≤ 2000 * j
  | 0, _ => by simp [itemsL]
  | j + 1, h => by
    have := itemsL_le hx (j := j) (by omega)
    have := itemL_le hx (j := j) (by omega)
    rw [itemsL, List.length_append]
    omega
end Go.Proofs.YtchhdafgmifhdaaGreat.LeaD
namespace Go.Proofs.YtchhdafgmifhdaaGreat.LeaE
open Go.RowKit Go.Proofs.YtchhdafgmifhdaaGreat.B8 Go.Proofs.YtchhdafgmifhdaaGreat.Agg Go.Proofs.YtchhdafgmifhdaaGreat.CodL Go.Proofs.YtchhdafgmifhdaaGreat.CodA Go.Proofs.YtchhdafgmifhdaaGreat.CodB Go.Proofs.YtchhdafgmifhdaaGreat.CrcL Go.Proofs.YtchhdafgmifhdaaGreat.CrcA Go.Proofs.YtchhdafgmifhdaaGreat.CrcB Go.Proofs.YtchhdafgmifhdaaGreat.PVerifyForms Go.Proofs.YtchhdafgmifhdaaGreatW.PrintWords Go.Proofs.YtchhdafgmifhdaaGreatW.PrintLast Go.Proofs.YtchhdafgmifhdaaGreatW.PrintMore Go.Proofs.YtchhdafgmifhdaaGreat.CatL Go.Proofs.YtchhdafgmifhdaaGreat.PtrA Go.Proofs.YtchhdafgmifhdaaGreat.PtrB Go.Proofs.YtchhdafgmifhdaaGreat.PtrE Go.Proofs.YtchhdafgmifhdaaGreat.OfA Go.Proofs.YtchhdafgmifhdaaGreat.ExtA Go.Proofs.YtchhdafgmifhdaaGreat.KpA Go.Proofs.YtchhdafgmifhdaaGreat.KpB Go.Proofs.YtchhdafgmifhdaaGreat.TxtK Go.Proofs.YtchhdafgmifhdaaGreat.CmpK Go.Proofs.YtchhdafgmifhdaaGreat.LeaA Go.Proofs.YtchhdafgmifhdaaGreat.LeaB Go.Proofs.YtchhdafgmifhdaaGreat.LeaC Go.Proofs.YtchhdafgmifhdaaGreat.LeaD Go.Proofs.YtchhdafgmifhdaaGreat.PtrG
set_option linter.unusedVariables false
set_option linter.unusedSimpArgs false
set_option maxRecDepth 100000 in
set_option maxHeartbeats 8000000 in
theorem bytes81 (x : Nd) (s : Ns) (w : World) (hv : NV w x s) (hx : Shape x) : Calls Tryz.prog 81 #[.agg (encN x s)] w (Tells w (nodeL x)) := by
  obtain ⟨P, hP⟩ : ∃ P : Ending → World → Prop, P = Tells w (nodeL x) := ⟨_, rfl⟩
  rw [← hP]
  have HP := Aside0.mk hP
  clear hP
  have HX := Aside0.mk hx
  obtain ⟨n1, hn1⟩ : ∃ n, n = x.keys.length := ⟨_, rfl⟩
  obtain ⟨n2, hn2⟩ : ∃ n, n = x.vals.length := ⟨_, rfl⟩
  obtain ⟨n3, hn3⟩ : ∃ n, n = x.kids.length := ⟨_, rfl⟩
  obtain ⟨lv, hlv⟩ : ∃ n, n = x.lvl := ⟨_, rfl⟩
  obtain ⟨A1, c1, A2, c2, A3, c3⟩ := s
  have HN := Aside0.mk (And.intro hn1 (And.intro hn2 (And.intro hn3 hlv)))
  have henc : encN x ⟨A1, c1, A2, c2, A3, c3⟩ = #[.int .i64 (lv : Int), .slice A1 n1 c1, .slice A2 n2 c2, .slice A3 n3 c3] := by rw [hn1, hn2, hn3, hlv]
  obtain ⟨cs, hcs⟩ : ∃ cs, cs = encN x ⟨A1, c1, A2, c2, A3, c3⟩ := ⟨_, rfl⟩
  have hb1 : 0 < n1 := by rw [hn1]; exact hx.some_
  have hb2 : n1 ≤ 1000 := by rw [hn1]; exact hx.most
  have hb3 : lv ≤ 12 := by rw [hlv]; exact hx.lvl
  have HB := Aside0.mk (below_alloc (Below.refl w.heap.size w) (.cells cs 39))
  have HV := Aside0.mk (hv.below HB.out)
  have hg := blk_new w (.cells cs 39)
  have X0 := Aside0.mk (show (w.alloc (.cells cs 39)).cell? ⟨w.heap.size, 0, none⟩ = some (.int .i64 (lv : Int)) by rw [cell_of_row _ _ 0 _ 39 (0, 0) hg, hcs, henc]; rfl)
  have X1 := Aside0.mk (show (w.alloc (.cells cs 39)).cell? ⟨w.heap.size, 1, none⟩ = some (.slice A1 n1 c1) by rw [cell_of_row _ _ 1 _ 39 (0, 0) hg, hcs, henc]; rfl)
  have X2 := Aside0.mk (show (w.alloc (.cells cs 39)).cell? ⟨w.heap.size, 2, none⟩ = some (.slice A2 n2 c2) by rw [cell_of_row _ _ 2 _ 39 (0, 0) hg, hcs, henc]; rfl)
  have X3 := Aside0.mk (show (w.alloc (.cells cs 39)).cell? ⟨w.heap.size, 3, none⟩ = some (.slice A3 n3 c3) by rw [cell_of_row _ _ 3 _ 39 (0, 0) hg, hcs, henc]; rfl)
  have hw0 := wrap64u (lv : Int) (by omega) (by omega)
  have hw1 := wrap64u (n1 : Int) (by omega) (by omega)
  have hgz : (w.alloc (.cells cs 39)).heap.size = w.heap.size + 1 := by simp
  rw [← hcs]
  clear hx hv hn1 hn2 hn3 hlv hcs henc hg
  go_enter Tryz.func81, Tryz.ntmps81
  go_wp2_with fail
  generalize hg0 : w.heap.size = g0 at *
  have HG0 := Aside0.mk hg0
  clear hg0
  generalize hW1 : w.alloc (.cells cs 39) = W1 at *
  clear hW1
  have hg01 : g0 < W1.heap.size := by omega
  obtain ⟨g1, hg1⟩ : ∃ g1, g1 = W1.heap.size := ⟨_, rfl⟩
  have HG1 := Aside0.mk hg1
  have HGZ := Aside0.mk hgz
  clear hg1 hgz
  obtain ⟨l0, hl0⟩ : ∃ l, l = shortL lv := ⟨_, rfl⟩
  obtain ⟨L0, hL0⟩ : ∃ l, l = l0 ++ shortL n1 := ⟨_, rfl⟩
  have HL0 := Aside0.mk (And.intro hl0 hL0)
  have hl0s : l0.length ≤ 10 := by rw [hl0]; exact shortL_le (by omega)
  have hL0s : L0.length ≤ 20 := by rw [hL0, List.length_append]; have := shortL_le (n := n1) (by omega); omega
  clear hl0 hL0
  refine wp_region_held_drew (S := fun w' => Below W1.heap.size W1 w') (by kernel_rfl) (below_drew (Below.refl _ _)) (fun hW => ?_)
  have WDB := Aside0.mk (show Below W1.heap.size W1 W1.drew from below_drew (Below.refl _ _))
  generalize hWd : W1.drew = Wd at *
  clear hWd
  refine wpAnyH_take (i := 0) (oi := ⟨some 8, _, _, _, _, _⟩) (v := .pointer (some ⟨g0, 0, none⟩)) rfl (by kernel_rfl) (by kernel_rfl) (by kernel_rfl) (fun _ _ _ h => h) (.inl ⟨by rfl, fun W1 h1 => by go_simp⟩) hW ?_
  try simp only [Act.put, List.setIfInBounds_toArray, List.set_cons_zero, List.set_cons_succ]
  refine wpAnyH_take (i := 1) (oi := ⟨some 9, _, _, _, _, _⟩) (v := .int .i64 (lv : Int)) rfl (by kernel_rfl) (by kernel_rfl) (by kernel_rfl) (fun _ _ _ h => h) (.inl ⟨by rfl, fun W1 h1 => by have h2 := (Below.cell (p := ⟨g0, 0, none⟩) h1 hg01).trans X0.out; clear h1; go_simp⟩) hW ?_
  try simp only [Act.put, List.setIfInBounds_toArray, List.set_cons_zero, List.set_cons_succ]
  refine wpAnyH_take (i := 2) (oi := ⟨some 10, _, _, _, _, _⟩) (v := .int .u64 (lv : Int)) rfl (by kernel_rfl) (by kernel_rfl) (by kernel_rfl) (fun _ _ _ h => h) (.inl ⟨by rfl, fun W1 h1 => by go_simp⟩) hW ?_
  try simp only [Act.put, List.setIfInBounds_toArray, List.set_cons_zero, List.set_cons_succ]
  refine wpAnyH_take (i := 4) (oi := ⟨some 12, _, _, _, _, _⟩) (v := .pointer (some ⟨g0, 1, none⟩)) rfl (by kernel_rfl) (by kernel_rfl) (by kernel_rfl) (fun _ _ _ h => h) (.inl ⟨by rfl, fun W1 h1 => by go_simp⟩) hW ?_
  try simp only [Act.put, List.setIfInBounds_toArray, List.set_cons_zero, List.set_cons_succ]
  refine wpAnyH_take (i := 5) (oi := ⟨some 13, _, _, _, _, _⟩) (v := .slice A1 n1 c1) rfl (by kernel_rfl) (by kernel_rfl) (by kernel_rfl) (fun _ _ _ h => h) (.inl ⟨by rfl, fun W1 h1 => by have h2 := (Below.cell (p := ⟨g0, 1, none⟩) h1 hg01).trans X1.out; clear h1; go_simp⟩) hW ?_
  try simp only [Act.put, List.setIfInBounds_toArray, List.set_cons_zero, List.set_cons_succ]
  refine wpAnyH_take (i := 6) (oi := ⟨some 14, _, _, _, _, _⟩) (v := .int .i64 (n1 : Int)) rfl (by kernel_rfl) (by kernel_rfl) (by kernel_rfl) (fun _ _ _ h => h) (.inl ⟨by rfl, fun W1 h1 => by go_simp⟩) hW ?_
  try simp only [Act.put, List.setIfInBounds_toArray, List.set_cons_zero, List.set_cons_succ]
  refine wpAnyH_take (i := 7) (oi := ⟨some 15, _, _, _, _, _⟩) (v := .int .u64 (n1 : Int)) rfl (by kernel_rfl) (by kernel_rfl) (by kernel_rfl) (fun _ _ _ h => h) (.inl ⟨by rfl, fun W1 h1 => by go_simp⟩) hW ?_
  try simp only [Act.put, List.setIfInBounds_toArray, List.set_cons_zero, List.set_cons_succ]
  refine wpAnyH_ready (rs := [3]) (by kernel_rfl) (by simp) (AllReadyH.cons rfl (fun K1 hK1 => ?_) AllReadyH.nil)
  go_simp
  refine (short_at none 0 0 [] l0 lv _ _ rfl (by rw [HL0.out.1, List.nil_append]) rfl (Kd.C_nil _ _) (by simp) (by omega)).mono ?_
  rintro e WT ⟨v9, rfl, hr9, hb9⟩
  obtain ⟨A9, c9, rfl, hle9, hC9⟩ := Kd.R_reads hr9
  have HC9 := Aside0.mk hC9
  refine hK1.out _ _ (hW.trans (hb9.mono hW.size)) (fun hW => ?_)
  try simp only [Act.put, List.setIfInBounds_toArray, List.set_cons_zero, List.set_cons_succ]
  clear hb9 hr9 hC9
  refine wpAnyH_ready (rs := [8]) (by kernel_rfl) (by simp) (AllReadyH.cons rfl (fun K2 hK2 => ?_) AllReadyH.nil)
  go_simp
  refine (short_at A9 c9 l0.length l0 L0 n1 _ _ rfl HL0.out.2 rfl HC9.out (by omega) (by omega)).mono ?_
  rintro e WT ⟨v16, rfl, hr16, hb16⟩
  have HR16 := Aside0.mk (And.intro (Kd.R_lower (base' := g1) hr16 (by rw [HG1.out]; exact hW.size)) (below_then (B := g1) (by rw [HG1.out]; exact hW) (by rw [HG1.out]; exact hW.size) hb16))
  refine hK2.out _ _ (hW.trans (hb16.mono hW.size)) (fun hW => ?_)
  try simp only [Act.put, List.setIfInBounds_toArray, List.set_cons_zero, List.set_cons_succ]
  clear hb16 hr16
  refine wpAnyH_take (i := 9) (oi := ⟨some 3, _, _, _, _, _⟩) (v := v16) rfl (by kernel_rfl) (by kernel_rfl) (by kernel_rfl) (fun _ _ _ h => h) (.inl ⟨by rfl, fun W1 h1 => by go_simp⟩) hW ?_
  try simp only [Act.put, List.setIfInBounds_toArray, List.set_cons_zero, List.set_cons_succ]
  refine wpAnyH_done (by kernel_rfl) ?_ _
  clear hK1 hK2 K1 K2
  clear hW WDB
  have x1 : WT.cell? ⟨g0, 1, none⟩ = some (.slice A1 n1 c1) := (HR16.out.2.cell (p := ⟨g0, 1, none⟩) (by rw [HG1.out]; exact hg01)).trans X1.out
  go_wp2
  go_loopw [3, 4, 20] (fun v3 v4 v20 wr => ∃ (j np cp : Nat) (Ap : Option Addr) (L : List Int), v20 = .int .i64 (j : Int) ∧ v4 = .slice Ap np cp ∧ j ≤ n1 ∧ Aside0 (L = L0 ++ itemsL x j) ∧ Aside0 (C8 W1 Ap np (prevK x j) ∧ np ≤ 160) ∧ Aside0 (R8 wr g1 v3 L ∧ Below g1 W1 wr)) (fun _ _ v _ => n1 - (intOf v).toNat)
  case atStart => exact ⟨0, 0, 0, none, L0, rfl, rfl, Nat.zero_le _, ⟨by simp [itemsL]⟩, ⟨Kd.C_nil _ _, by omega⟩, HR16⟩
  case round =>
    obtain ⟨j, np, cp, Ap, L, rfl, rfl, hj, HL, HA, H⟩ := hrel
    clear x1 HR16 HC9
    have hWL : L.length ≤ 3000000 := by
      have := itemsL_le HX.out (j := j) (by rw [← HN.out.1]; exact hj)
      rw [HL.out, List.length_append]
      omega
    by_cases hlt : j < n1
    · have hc1 : Kd.C kB W1 A1 n1 x.keys := by rw [HN.out.1]; exact HV.out.keys
      obtain ⟨b, off, rfl, hb, hx⟩ := CB_at hc1 hb1
      obtain ⟨Aj, cj, fj, lej, Cj⟩ := hx j hlt
      obtain ⟨k, hk⟩ : ∃ k, k = x.keys.getD j [] := ⟨_, rfl⟩
      rw [← hk] at fj lej Cj
      have hkm : k ∈ x.keys := by rw [hk, List.getD, List.getElem?_eq_getElem (by rw [← HN.out.1]; exact hlt)]; exact List.getElem_mem _
      obtain ⟨hkl, hkb⟩ := HX.out.key k hkm
      obtain ⟨m, hm⟩ : ∃ m, m = k.length := ⟨_, rfl⟩
      rw [← hm] at fj lej Cj hkl
      have F := (H.out.2.cell (p := ⟨b, off + j, none⟩) (by rw [HG1.out]; exact hb)).trans fj
      have KK := Aside0.mk (And.intro hkb (And.intro Cj (And.intro hk (And.intro hm lej))))
      have HCp := Aside0.mk (Kd.C_below HA.out.1 (by rw [← HG1.out]; exact H.out.2))
      have HCj := Aside0.mk (Kd.C_below Cj (by rw [← HG1.out]; exact H.out.2))
      clear Cj hkb hkm hk hm fj hx hc1 hb lej
      have hmm : m ≤ 160 := hkl
      clear hkl
      have hnp : np ≤ 1000000 := by have := HA.out.2; omega
      have hmp : m ≤ 1000000 := by omega
      go_wp2_with (refine (shared119 Ap Aj np cp m cj (prevK x j) k _ HCp.out HCj.out hnp hmp).mono ?_)
      rintro e w2 ⟨rfl, hb2⟩
      obtain ⟨sh, hsh⟩ : ∃ n, n = sharedL (prevK x j) k := ⟨_, rfl⟩
      rw [← hsh]
      have hsm : sh ≤ m := by rw [hsh, KK.out.2.2.2.1]; exact (sharedL_le _ _).2
      have HSH := Aside0.mk hsh
      clear hsh
      have H2 := Aside0.mk (And.intro (Kd.R_below H.out.1 hb2) (below_then (B := g1) H.out.2 (by rw [HG1.out]; exact H.out.2.size) hb2))
      clear hb2
      have hws := wrap64u (sh : Int) (by omega) (by omega)
      obtain ⟨ls, hls⟩ : ∃ l, l = shortL sh := ⟨_, rfl⟩
      have HLS := Aside0.mk (And.intro hls (show ls.length ≤ 10 by rw [hls]; exact shortL_le (by omega)))
      clear hls
      have hs10 : ([] : List Int).length ≤ 1000000 := by simp
      have hsh1 : sh < 18446744073709551616 := by omega
      have HN1 := Aside0.mk (show ls = [] ++ shortL sh by rw [HLS.out.1, List.nil_append])
      go_wp2_with (refine (short_at none 0 0 [] ls sh _ _ rfl HN1.out rfl (Kd.C_nil _ _) hs10 hsh1).mono ?_)
      rintro e w3 ⟨v3, rfl, hr3, hb3⟩
      obtain ⟨B3, d3, rfl, hle3, hC3⟩ := Kd.R_reads hr3
      have H3 := Aside0.mk (And.intro (Kd.R_below H2.out.1 hb3) (below_then (B := g1) H2.out.2 (by rw [HG1.out]; exact H2.out.2.size) hb3))
      have HC3 := Aside0.mk hC3
      clear hb3 hr3 hC3 hle3
      have hz3 : g1 ≤ w3.heap.size := by rw [HG1.out]; exact H3.out.2.size
      have hlen3 : L.length + ls.length ≤ 140737488355328 := by have := HLS.out.2; omega
      obtain ⟨A4, hA4⟩ : ∃ A4, A4 = (if cj = sh then Aj else Aj.map (·.add sh)) := ⟨_, rfl⟩
      have hcut := fun W : World => B8.cut8_from Aj m cj sh hsm W
      rw [← hA4] at hcut
      have HD4 := Aside0.mk (show C8 W1 A4 (m - sh) (k.drop sh) by rw [hA4]; exact C8_drop KK.out.2.1 KK.out.2.2.2.2 hsm)
      obtain ⟨S, hS⟩ : ∃ S, S = strOfNums (k.drop sh) := ⟨_, rfl⟩
      have HS := Aside0.mk hS
      clear hS hA4
      go_wp2_with (at_builtin; refine appRow (w0 := W1) g1 rfl (.tmp 28) (.tmp 31) rfl _ L ls B3 ls.length d3 rfl rfl H3.out.1 HC3.out H3.out.2 hz3 hlen3 ?_; intro v4 w4 ho hb hgr; have H4 := Aside0.mk (And.intro ho hb); clear ho hb hgr; have hcv : (convert 36 9 (.slice A4 (m - sh) (cj - sh))).run Tryz.prog w4 = .ok (.string S) w4 := (by rw [HS.out]; exact Kd.C_string (P := Tryz.prog) (c := cj - sh) Tryz.underlying36 Tryz.underlying5 Tryz.underlying9 (Kd.C_below HD4.out (by rw [← HG1.out]; exact H4.out.2))))
      obtain ⟨l8, hl8⟩ : ∃ l, l = textL S := ⟨_, rfl⟩
      have hl8b : l8 = shB (k.drop sh) := by rw [hl8, HS.out, textL_str (fun x hx => KK.out.1 x (List.mem_of_mem_drop hx))]
      have hdl : (k.drop sh).length ≤ 160 := by have := KK.out.2.2.2.1; rw [List.length_drop]; omega
      have hl8s : l8.length ≤ 170 := by
        rw [hl8b, shB, List.length_append]
        have := shortL_le (n := (k.drop sh).length) (by omega)
        omega
      have HL8 := Aside0.mk (And.intro hl8 hl8b)
      clear hl8 hl8b
      have T5 := text_calls none 0 0 [] rfl S w4 (Kd.C_nil _ _) (by omega) (by rw [HS.out, strOfNums_size]; omega)
      rw [List.nil_append, ← HL8.out.1] at T5
      refine T5.mono ?_
      clear T5 hcv
      rintro e w5 ⟨v5, rfl, hr5, hb5⟩
      obtain ⟨B5, d5, rfl, hle5, hC5⟩ := Kd.R_reads hr5
      have H5 := Aside0.mk (And.intro (Kd.R_below H4.out.1 hb5) (below_then (B := g1) H4.out.2 (by rw [HG1.out]; exact H4.out.2.size) hb5))
      have HC5 := Aside0.mk hC5
      clear hb5 hr5 hC5 hle5
      have hz5 : g1 ≤ w5.heap.size := by rw [HG1.out]; exact H5.out.2.size
      have hlen5 : (L ++ ls).length + l8.length ≤ 140737488355328 := by rw [List.length_append]; have := HLS.out.2; omega
      have hLen6 : (L ++ ls ++ l8).length ≤ 3001000 := by rw [List.length_append, List.length_append]; have := HLS.out.2; omega
      have hg0g1 : g0 < g1 := by rw [HG1.out]; exact hg01
      have HI := Aside0.mk (show itemsL x (j + 1) = itemsL x j ++ itemL x j from rfl)
      clear hcut
      by_cases h0 : lv = 0
      · have d0 : ((lv : Int) == 0) = true := by rw [h0]; rfl
        have hLi := HX.out.lists
        unfold Lists at hLi
        rw [if_pos (by rw [← HN.out.2.2.2]; exact h0), ← HN.out.1, ← HN.out.2.1] at hLi
        have hc2 : Kd.C kB W1 A2 n2 x.vals := by rw [HN.out.2.1]; exact HV.out.vals
        obtain ⟨b', off', rfl, hbv, hxv⟩ := CB_at hc2 (by omega)
        obtain ⟨Av, cv, fv, lev, Cv⟩ := hxv j (by omega)
        obtain ⟨q, hq⟩ : ∃ k, k = x.vals.getD j [] := ⟨_, rfl⟩
        rw [← hq] at fv lev Cv
        have hqm : q ∈ x.vals := by rw [hq, List.getD, List.getElem?_eq_getElem (by rw [← HN.out.2.1]; omega)]; exact List.getElem_mem _
        obtain ⟨hql, hqb⟩ := HX.out.val q hqm
        obtain ⟨mq, hmq⟩ : ∃ m, m = q.length := ⟨_, rfl⟩
        rw [← hmq] at fv lev Cv hql
        have HQ := Aside0.mk (And.intro fv (And.intro hqb (And.intro hq (And.intro hmq Cv))))
        obtain ⟨S', hS'⟩ : ∃ S, S = strOfNums q := ⟨_, rfl⟩
        have HS' := Aside0.mk hS'
        have hbv1 := Aside0.mk (show b' < g1 by rw [HG1.out]; exact hbv)
        have hn2j : j < n2 := by omega
        have HLI := Aside0.mk hLi
        have H0 := Aside0.mk h0
        clear h0
        clear fv hqb hq hmq Cv hqm hbv hxv hc2 hLi hS' lev
        go_wp2_with (at_builtin; refine appRow (w0 := W1) g1 rfl (.tmp 33) (.tmp 38) rfl _ (L ++ ls) l8 B5 l8.length d5 rfl rfl H5.out.1 HC5.out H5.out.2 hz5 hlen5 ?_; intro v6 w6 ho hb hgr; have H6 := Aside0.mk (And.intro ho hb); clear ho hb hgr; have x0 : w6.cell? ⟨g0, 0, none⟩ = some (.int .i64 (lv : Int)) := (H6.out.2.cell (p := ⟨g0, 0, none⟩) hg0g1).trans X0.out; have x2 : w6.cell? ⟨g0, 2, none⟩ = some (.slice (some ⟨b', off', none⟩) n2 c2) := (H6.out.2.cell (p := ⟨g0, 2, none⟩) hg0g1).trans X2.out; have fv : w6.cell? ⟨b', off' + j, none⟩ = some (.slice Av mq cv) := (H6.out.2.cell (p := ⟨b', off' + j, none⟩) hbv1.out).trans HQ.out.1; have hcv : (convert 36 9 (.slice Av mq cv)).run Tryz.prog w6 = .ok (.string S') w6 := (by rw [HS'.out]; exact Kd.C_string (P := Tryz.prog) (c := cv) Tryz.underlying36 Tryz.underlying5 Tryz.underlying9 (Kd.C_below HQ.out.2.2.2.2 (by rw [← HG1.out]; exact H6.out.2))))
        obtain ⟨lq, hlq⟩ : ∃ l, l = textL S' := ⟨_, rfl⟩
        have hlqb : lq = shB q := by rw [hlq, HS'.out, textL_str HQ.out.2.1]
        have HLQ := Aside0.mk (And.intro hlq (And.intro hlqb (show lq.length ≤ 1040 by
          rw [hlqb, shB, List.length_append, ← HQ.out.2.2.2.1]
          have := shortL_le (n := mq) (by omega)
          omega)))
        clear hlq hlqb
        have T7 := text_calls none 0 0 [] rfl S' w6 (Kd.C_nil _ _) (by omega) (by rw [HS'.out, strOfNums_size, ← HQ.out.2.2.2.1]; omega)
        rw [List.nil_append, ← HLQ.out.1] at T7
        refine T7.mono ?_
        clear T7 hcv
        rintro e w7 ⟨v7, rfl, hr7, hb7⟩
        obtain ⟨B7, d7, rfl, hle7, hC7⟩ := Kd.R_reads hr7
        have H7 := Aside0.mk (And.intro (Kd.R_below H6.out.1 hb7) (below_then (B := g1) H6.out.2 (by rw [HG1.out]; exact H6.out.2.size) hb7))
        have HC7 := Aside0.mk hC7
        clear hb7 hr7 hC7 hle7
        have hz7 : g1 ≤ w7.heap.size := by rw [HG1.out]; exact H7.out.2.size
        have hlen7 : (L ++ ls ++ l8).length + lq.length ≤ 140737488355328 := by have := HLQ.out.2.2; omega
        go_wp2_with (at_builtin; refine appRow (w0 := W1) g1 rfl (.tmp 43) (.tmp 50) rfl _ (L ++ ls ++ l8) lq B7 lq.length d7 rfl rfl H7.out.1 HC7.out H7.out.2 hz7 hlen7 ?_; intro v8 w8 ho hb hgr; have H8 := Aside0.mk (And.intro ho hb); clear ho hb hgr)
        go_roundw
        case rel =>
          refine ⟨j + 1, m, cj, Aj, L ++ ls ++ l8 ++ lq, by go_num, rfl, by omega, ⟨?_⟩, ⟨by rw [show prevK x (j + 1) = x.keys.getD j [] from rfl, ← KK.out.2.2.1]; exact KK.out.2.1, by omega⟩, H8⟩
          rw [HI.out, itemL, ← KK.out.2.2.1, ← HSH.out, ← HLS.out.1, ← HL8.out.2, if_pos (by rw [← HN.out.2.2.2]; exact H0.out), ← HQ.out.2.2.1, ← HLQ.out.2.1, HL.out]
          simp only [List.append_assoc]
        case measure => simp [intOf]; omega
      · have d0 : ((lv : Int) == 0) = false := by rw [beq_eq_false_iff_ne]; omega
        have hLi := HX.out.lists
        unfold Lists at hLi
        rw [if_neg (by rw [← HN.out.2.2.2]; exact h0), ← HN.out.1, ← HN.out.2.2.1] at hLi
        have hc3 : Kd.C kP W1 A3 n3 x.kids := by rw [HN.out.2.2.1]; exact HV.out.kids
        obtain ⟨b', off', rfl, hbv, hxv⟩ := CP_at hc3 (by omega)
        obtain ⟨hok, hrg⟩ := hxv j (by omega)
        obtain ⟨q, hq⟩ : ∃ k, k = x.kids.getD j zeroP := ⟨_, rfl⟩
        rw [← hq] at hok hrg
        have hqm : q ∈ x.kids := by rw [hq, List.getD, List.getElem?_eq_getElem (by rw [← HN.out.2.2.1]; omega)]; exact List.getElem_mem _
        have hbv1 : b' < g1 := by rw [HG1.out]; exact hbv
        have HQ := Aside0.mk (And.intro hq (And.intro hok (And.intro (HX.out.kid q hqm).2 (And.intro hrg hbv1))))
        have hn3j : j < n3 := by omega
        obtain ⟨lq, hlq⟩ : ∃ l, l = ptrL q := ⟨_, rfl⟩
        have HLQ := Aside0.mk (And.intro hlq (show lq.length = 52 by rw [hlq, ptrL_len hok]))
        have HLI := Aside0.mk hLi
        have H0 := Aside0.mk h0
        clear h0
        clear hq hok hrg hqm hbv hxv hc3 hLi hbv1 hlq
        go_wp2_with (first | (at_builtin; refine appRow (w0 := W1) g1 rfl (.tmp 33) (.tmp 38) rfl _ (L ++ ls) l8 B5 l8.length d5 rfl rfl H5.out.1 HC5.out H5.out.2 hz5 hlen5 ?_; intro v6 w6 ho hb hgr; have H6 := Aside0.mk (And.intro ho hb); clear ho hb hgr; have x0 : w6.cell? ⟨g0, 0, none⟩ = some (.int .i64 (lv : Int)) := (H6.out.2.cell (p := ⟨g0, 0, none⟩) hg0g1).trans X0.out; have x3 : w6.cell? ⟨g0, 3, none⟩ = some (.slice (some ⟨b', off', none⟩) n3 c3) := (H6.out.2.cell (p := ⟨g0, 3, none⟩) hg0g1).trans X3.out; have HRG := Aside0.mk (rangeAt_below HQ.out.2.2.2.1 H6.out.2 HQ.out.2.2.2.2)) | (refine load_P rfl _ rfl b' (off' + j * 36) q rfl HQ.out.2.1 HRG.out ?_))
        have T7 := put_calls none 0 [] q ⟨HQ.out.2.1, .inl HQ.out.2.2.1⟩ w6 (Kd.C_nil _ _) (by simp)
        rw [List.nil_append, ← HLQ.out.1] at T7
        refine T7.mono ?_
        clear T7
        rintro e w7 ⟨v7, rfl, hr7, hb7⟩
        obtain ⟨B7, d7, rfl, hle7, hC7⟩ := Kd.R_reads hr7
        have H7 := Aside0.mk (And.intro (Kd.R_below H6.out.1 hb7) (below_then (B := g1) H6.out.2 (by rw [HG1.out]; exact H6.out.2.size) hb7))
        have HC7 := Aside0.mk hC7
        clear hb7 hr7 hC7 hle7
        have hz7 : g1 ≤ w7.heap.size := by rw [HG1.out]; exact H7.out.2.size
        have hlen7 : (L ++ ls ++ l8).length + lq.length ≤ 140737488355328 := by have := HLQ.out.2; omega
        go_wp2_with (at_builtin; refine appRow (w0 := W1) g1 rfl (.tmp 52) (.tmp 58) rfl _ (L ++ ls ++ l8) lq B7 lq.length d7 rfl rfl H7.out.1 HC7.out H7.out.2 hz7 hlen7 ?_; intro v8 w8 ho hb hgr; have H8 := Aside0.mk (And.intro ho hb); clear ho hb hgr)
        go_roundw
        case rel =>
          refine ⟨j + 1, m, cj, Aj, L ++ ls ++ l8 ++ lq, by go_num, rfl, by omega, ⟨?_⟩, ⟨by rw [show prevK x (j + 1) = x.keys.getD j [] from rfl, ← KK.out.2.2.1]; exact KK.out.2.1, by omega⟩, H8⟩
          rw [HI.out, itemL, ← KK.out.2.2.1, ← HSH.out, ← HLS.out.1, ← HL8.out.2, if_neg (by rw [← HN.out.2.2.2]; exact H0.out), ← HQ.out.1, ← HLQ.out.1, HL.out]
          simp only [List.append_assoc]
        case measure => simp [intOf]; omega
    · obtain rfl : j = n1 := by omega
      go_wp2
      rw [HP.out]
      refine ⟨_, rfl, ?_, ?_⟩
      · rw [nodeL, ← HN.out.1, ← HN.out.2.2.2, ← HL0.out.1, ← HL0.out.2, ← HL.out]
        exact Kd.R_lower H.out.1 (by have := HG0.out; have := HG1.out; have := HGZ.out; omega)
      · rw [HG0.out]; exact HB.out.trans (H.out.2.mono (by have := HG1.out; have := HGZ.out; omega))
end Go.Proofs.YtchhdafgmifhdaaGreat.LeaE
namespace Go.Proofs.YtchhdafgmifhdaaGreat.LeaF
open Go.RowKit Go.Proofs.YtchhdafgmifhdaaGreat.B8 Go.Proofs.YtchhdafgmifhdaaGreat.Agg Go.Proofs.YtchhdafgmifhdaaGreat.CodL Go.Proofs.YtchhdafgmifhdaaGreat.CodA Go.Proofs.YtchhdafgmifhdaaGreat.CodB Go.Proofs.YtchhdafgmifhdaaGreat.CrcL Go.Proofs.YtchhdafgmifhdaaGreat.CrcA Go.Proofs.YtchhdafgmifhdaaGreat.CrcB Go.Proofs.YtchhdafgmifhdaaGreat.PVerifyForms Go.Proofs.YtchhdafgmifhdaaGreatW.PrintWords Go.Proofs.YtchhdafgmifhdaaGreatW.PrintLast Go.Proofs.YtchhdafgmifhdaaGreatW.PrintMore Go.Proofs.YtchhdafgmifhdaaGreat.CatL Go.Proofs.YtchhdafgmifhdaaGreat.PtrA Go.Proofs.YtchhdafgmifhdaaGreat.PtrB Go.Proofs.YtchhdafgmifhdaaGreat.PtrE Go.Proofs.YtchhdafgmifhdaaGreat.OfA Go.Proofs.YtchhdafgmifhdaaGreat.ExtA Go.Proofs.YtchhdafgmifhdaaGreat.KpA Go.Proofs.YtchhdafgmifhdaaGreat.KpB Go.Proofs.YtchhdafgmifhdaaGreat.TxtK Go.Proofs.YtchhdafgmifhdaaGreat.CmpK Go.Proofs.YtchhdafgmifhdaaGreat.LeaA Go.Proofs.YtchhdafgmifhdaaGreat.LeaB Go.Proofs.YtchhdafgmifhdaaGreat.LeaC Go.Proofs.YtchhdafgmifhdaaGreat.LeaD Go.Proofs.YtchhdafgmifhdaaGreat.LeaE
set_option linter.unusedVariables false
set_option linter.unusedSimpArgs false
/-- A node is right. -/
structure RightN (x : Nd) : Prop where
  shape : Shape x
  small : (nodeL x).length ≤ 4096
set_option maxRecDepth 100000 in
set_option maxHeartbeats 8000000 in
theorem right98 (x : Nd) (s : Ns) (w : World) (hv : NV w x s) (hx : RightN x) : Calls Tryz.prog 98 #[.agg (encN x s)] w fun e w' => e = .returned (.bool true) ∧ Below w.heap.size w w' := by
  obtain ⟨P, hP⟩ : ∃ P : Ending → World → Prop, P = fun e w' => e = .returned (.bool true) ∧ Below w.heap.size w w' := ⟨_, rfl⟩
  rw [← hP]
  have HP := Aside0.mk hP
  clear hP
  obtain ⟨cs, hcs⟩ : ∃ cs, cs = encN x s := ⟨_, rfl⟩
  have HCS := Aside0.mk (And.intro hcs (show cs.size = 4 by rw [hcs]; rfl))
  have HB := Aside0.mk (below_alloc (Below.refl w.heap.size w) (.cells cs 39))
  have HG := Aside0.mk (blk_new w (.cells cs 39))
  have HV := Aside0.mk (hv.below HB.out)
  have HX := Aside0.mk hx
  rw [← hcs]
  clear hcs hv hx
  go_enter Tryz.func98, Tryz.ntmps98
  go_wp2_with (refine wpList_load_row rfl 39 (.tmp 1) rfl w.heap.size rfl 39 cs (0, 0) _ HG.out Tryz.underlying39 rfl (by rw [HCS.out.2]; kernel_rfl) ?_)
  have T1 := shape80 x s (w.alloc (.cells cs 39)) HV.out HX.out.shape
  rw [← HCS.out.1] at T1
  refine T1.mono ?_
  clear T1
  rintro e w1 ⟨rfl, hb1⟩
  have HB1 := Aside0.mk (And.intro (below_then HB.out HB.out.size hb1) hb1)
  have HG1 := Aside0.mk (blk_below HG.out hb1)
  clear hb1
  go_wp2_with (first | (refine gate_on (by rfl) ?_; dsimp only; refine wpList_load_row rfl 39 (.tmp 1) rfl w.heap.size rfl 39 cs (0, 0) _ HG1.out Tryz.underlying39 rfl (by rw [HCS.out.2]; kernel_rfl) ?_))
  have T2 := bytes81 x s w1 (HV.out.below HB1.out.2) HX.out.shape
  rw [← HCS.out.1] at T2
  refine T2.mono ?_
  clear T2
  rintro e w2 ⟨v2, rfl, hr2, hb2⟩
  obtain ⟨A2, c2, rfl, hle2, hC2⟩ := Kd.R_reads hr2
  have HB2 := Aside0.mk (below_then HB1.out.1 HB1.out.1.size hb2)
  obtain ⟨n, hn⟩ : ∃ n, n = (nodeL x).length := ⟨_, rfl⟩
  have hn2 : decide ((n : Int) ≤ 4096) = true := by have := HX.out.small; exact decide_eq_true (by omega)
  rw [← hn]
  clear hb2 hr2 hC2 hle2 hn
  go_wp2
  rw [HP.out]
  exact ⟨rfl, HB2.out⟩
set_option maxRecDepth 100000 in
set_option maxHeartbeats 8000000 in
theorem put41 (x : Nd) (s : Ns) (w : World) (hv : NV w x s) (hx : RightN x) : Calls Tryz.prog 41 #[.agg (encN x s)] w fun e w' => ∃ v, e = .returned (.tuple #[v, .int .i64 0]) ∧ R8 w' w.heap.size v (nodeL x) ∧ Below w.heap.size w w' := by
  obtain ⟨P, hP⟩ : ∃ P : Ending → World → Prop, P = fun e w' => ∃ v, e = .returned (.tuple #[v, .int .i64 0]) ∧ R8 w' w.heap.size v (nodeL x) ∧ Below w.heap.size w w' := ⟨_, rfl⟩
  rw [← hP]
  have HP := Aside0.mk hP
  clear hP
  obtain ⟨cs, hcs⟩ : ∃ cs, cs = encN x s := ⟨_, rfl⟩
  have HCS := Aside0.mk (And.intro hcs (show cs.size = 4 by rw [hcs]; rfl))
  have HB := Aside0.mk (below_alloc (Below.refl w.heap.size w) (.cells cs 39))
  have HG := Aside0.mk (blk_new w (.cells cs 39))
  have HV := Aside0.mk (hv.below HB.out)
  have HX := Aside0.mk hx
  rw [← hcs]
  clear hcs hv hx
  go_enter Tryz.func41, Tryz.ntmps41
  go_wp2_with (refine wpList_load_row rfl 39 (.tmp 1) rfl w.heap.size rfl 39 cs (0, 0) _ HG.out Tryz.underlying39 rfl (by rw [HCS.out.2]; kernel_rfl) ?_)
  have T1 := shape80 x s (w.alloc (.cells cs 39)) HV.out HX.out.shape
  rw [← HCS.out.1] at T1
  refine T1.mono ?_
  clear T1
  rintro e w1 ⟨rfl, hb1⟩
  have HB1 := Aside0.mk (And.intro (below_then HB.out HB.out.size hb1) hb1)
  have HG1 := Aside0.mk (blk_below HG.out hb1)
  clear hb1
  go_wp2_with (refine wpList_load_row rfl 39 (.tmp 1) rfl w.heap.size rfl 39 cs (0, 0) _ HG1.out Tryz.underlying39 rfl (by rw [HCS.out.2]; kernel_rfl) ?_)
  have T2 := bytes81 x s w1 (HV.out.below HB1.out.2) HX.out.shape
  rw [← HCS.out.1] at T2
  refine T2.mono ?_
  clear T2
  rintro e w2 ⟨v2, rfl, hr2, hb2⟩
  have HR2 := Aside0.mk (Kd.R_lower (base' := w.heap.size) hr2 HB1.out.1.size)
  obtain ⟨A2, c2, rfl, hle2, hC2⟩ := Kd.R_reads hr2
  have HB2 := Aside0.mk (below_then HB1.out.1 HB1.out.1.size hb2)
  obtain ⟨n, hn⟩ : ∃ n, n = (nodeL x).length := ⟨_, rfl⟩
  have hn2 : decide (4096 < (n : Int)) = false := by have := HX.out.small; exact decide_eq_false (by omega)
  rw [← hn] at HR2 ⊢
  clear hb2 hr2 hC2 hle2 hn
  go_wp2
  rw [HP.out]
  exact ⟨_, rfl, HR2.out, HB2.out⟩
end Go.Proofs.YtchhdafgmifhdaaGreat.LeaF
namespace Go.Proofs.YtchhdafgmifhdaaGreat.LeaG
open Go.RowKit Go.Proofs.YtchhdafgmifhdaaGreat.B8 Go.Proofs.YtchhdafgmifhdaaGreat.Agg Go.Proofs.YtchhdafgmifhdaaGreat.CodL Go.Proofs.YtchhdafgmifhdaaGreat.CodA Go.Proofs.YtchhdafgmifhdaaGreat.CodB Go.Proofs.YtchhdafgmifhdaaGreat.CrcL Go.Proofs.YtchhdafgmifhdaaGreat.CrcA Go.Proofs.YtchhdafgmifhdaaGreat.CrcB Go.Proofs.YtchhdafgmifhdaaGreat.PVerifyForms Go.Proofs.YtchhdafgmifhdaaGreatW.PrintWords Go.Proofs.YtchhdafgmifhdaaGreatW.PrintLast Go.Proofs.YtchhdafgmifhdaaGreatW.PrintMore Go.Proofs.YtchhdafgmifhdaaGreat.CatL Go.Proofs.YtchhdafgmifhdaaGreat.PtrA Go.Proofs.YtchhdafgmifhdaaGreat.PtrB Go.Proofs.YtchhdafgmifhdaaGreat.PtrE Go.Proofs.YtchhdafgmifhdaaGreat.OfA Go.Proofs.YtchhdafgmifhdaaGreat.ExtA Go.Proofs.YtchhdafgmifhdaaGreat.KpA Go.Proofs.YtchhdafgmifhdaaGreat.KpB Go.Proofs.YtchhdafgmifhdaaGreat.TxtK Go.Proofs.YtchhdafgmifhdaaGreat.CmpK Go.Proofs.YtchhdafgmifhdaaGreat.LeaA Go.Proofs.YtchhdafgmifhdaaGreat.LeaB Go.Proofs.YtchhdafgmifhdaaGreat.LeaC Go.Proofs.YtchhdafgmifhdaaGreat.LeaD Go.Proofs.YtchhdafgmifhdaaGreat.LeaE Go.Proofs.YtchhdafgmifhdaaGreat.LeaF Go.Proofs.YtchhdafgmifhdaaGreat.DskC Go.Proofs.YtchhdafgmifhdaaGreat.AlcD Go.Proofs.YtchhdafgmifhdaaGreat.PtrG Go.Proofs.YtchhdafgmifhdaaGreat.CodC
set_option linter.unusedVariables false
set_option linter.unusedSimpArgs false
/-- A reader that stands in front of l, and has seen nothing wrong. -/
structure RD (B : World) (g : Nat) (l : List Int) (W : World) : Prop where
  below : Below B.heap.size B W
  blk : ∃ A c, C8 B A l.length l ∧ l.length ≤ c ∧ W.heap[g]? = some (.cells #[.slice A l.length c, .bool false] 210 (0, 0))
  g : B.heap.size ≤ g
  byt : Byt l
  len : l.length ≤ 100000
theorem RD.keep {B : World} {g : Nat} {l : List Int} {W W1 : World} (h : RD B g l W) (hb : Below W.heap.size W W1) : RD B g l W1 := by
  obtain ⟨A, c, h1, h2, h3⟩ := h.blk
  exact ⟨below_then h.below h.below.size hb, ⟨A, c, h1, h2, blk_below h3 hb⟩, h.g, h.byt, h.len⟩
/-- Where it lies, bytes lie. -/
def B5 (w : World) (A : Option Addr) : Prop := ∀ ad, A = some ad → ∃ cs fz, w.heap[ad.block]? = some (.cells cs 5 fz)
theorem conv_str (s : ByteArray) (hs : s.size ≤ 9223372036854775807) (w : World) : ∃ A c W', (convert 9 36 (.string s)).run Tryz.prog w = .ok (.slice A s.size c) W' ∧ A = some ⟨w.heap.size, 0, none⟩ ∧ w.heap.size < W'.heap.size ∧ s.size ≤ c ∧ C8 W' A s.size (bytesOf s) ∧ Below w.heap.size w W' ∧ B5 W' A :=
  ⟨_, _, _, Lib.run_convert_string_bytes w 9 36 5 s Tryz.underlying9 Tryz.underlying36 Tryz.underlying5, rfl, by rw [Lib.bytesWorld_size]; omega, grownCap_ge _ _ _ _, Kd.C_of_reads (d := 0) (bytes_reads w 5 s hs), Go.Joins.below_bytesWorld w.heap.size w 5 s (Nat.le_refl _), fun ad had => by
    injection had with had
    subst had
    exact ⟨_, _, Lib.bytesWorld_at_new w 5 s⟩⟩
set_option maxRecDepth 100000 in
set_option maxHeartbeats 2000000 in
theorem number134 (B : World) (g : Nat) (k most : Nat) (l r : List Int) (hl : l = shortL k ++ r) (hk : k ≤ most) (hm : most ≤ 100000) (w : World) (h : RD B g l w) :
    Calls Tryz.prog 134 #[.pointer (some ⟨g, 0, none⟩), .int .i64 (most : Int)] w fun e w' => e = .returned (.int .i64 (k : Int)) ∧ RD B g r w' ∧ KB w w' (fun b => b = g) ∧ w'.heap.size = w.heap.size := by
  have H := Aside0.mk h
  obtain ⟨A, c, hC, hlc, hgk⟩ := h.blk
  have HC := Aside0.mk (And.intro hC hlc)
  have HGK := Aside0.mk hgk
  have hc0 : w.cell? ⟨g, 0, none⟩ = some (.slice A l.length c) := by rw [cell_of_row _ _ 0 _ 210 (0, 0) hgk]; rfl
  have hf0 := frozen_of_row w g 0 _ 210 hgk
  obtain ⟨P, hP⟩ : ∃ P : Ending → World → Prop, P = fun e w' => e = .returned (.int .i64 (k : Int)) ∧ RD B g r w' ∧ KB w w' (fun b => b = g) ∧ w'.heap.size = w.heap.size := ⟨_, rfl⟩
  rw [← hP]
  have HP := Aside0.mk hP
  obtain ⟨u, hu1⟩ : ∃ u, u = glen k := ⟨_, rfl⟩
  have hrs : readShort l = ((k : Int), u, 0) := by rw [hl, hu1]; exact readShort_shortL k (by omega) r
  have hu : u ≤ l.length := by rw [hl, List.length_append, hu1]; unfold glen; omega
  have hr : l.drop u = r := by rw [hl, hu1]; unfold glen; simp
  have hcut := cut8_from A l.length c u hu
  have HD := Aside0.mk (C8_drop hC hlc hu)
  generalize (if c = u then A else A.map (·.add u)) = A2 at hcut HD
  have hw1 := wrap64u (most : Int) (by omega) (by omega)
  have hw2 : IntKind.i64.wrap (k : Int) = (k : Int) := by rw [IntKind.wrap_i64]; omega
  have hd : decide ((most : Int) < (k : Int)) = false := decide_eq_false (by omega)
  have HE := Aside0.mk (show P (.returned (.int .i64 (k : Int))) (w.setCell ⟨g, 0, none⟩ (.slice A2 (l.length - u) (c - u))) by
    rw [hP]
    have hlr : r.length = l.length - u := by rw [← hr, List.length_drop]
    refine ⟨rfl, ⟨h.below.setCell h.g _, ⟨A2, c - u, ?_, ?_, ?_⟩, h.g, ?_, ?_⟩, KB.setCell w _ _, by simp⟩
    · rw [hlr, ← hr]; exact HD.out
    · omega
    · rw [heap_setCell_same _ _ _ _ _ _ hgk, hlr]; simp
    · rw [← hr]; exact h.byt.drop _
    · have := h.len; omega)
  have HRS := Aside0.mk hrs
  clear h hC hlc hgk hP hu1 hrs hr hl HD
  go_enter Tryz.func134, Tryz.ntmps134
  go_wp2_with fail
  refine (readShort_calls A c l w (Kd.C_below HC.out.1 H.out.below) H.out.byt HC.out.2 (by have := H.out.len; omega)).mono ?_
  rintro e w1 ⟨rfl, rfl⟩
  rw [HRS.out]
  dsimp only
  go_wp2
  exact HE.out
theorem shB_byt {t : List Int} (h : Byt t) : Byt (shB t) := (shortL_byt _).append h
theorem readText_shB (t : List Int) (ht : Byt t) (most : Nat) (hs : t.length ≤ most) (hm : most ≤ 1000000) (r : List Int) : readText (shB t ++ r) most = (strOfNums t, (shB t).length, 0) := by
  have := readText_textL (strOfNums t) most (by rw [strOfNums_size]; exact hs) hm r
  rwa [textL_str ht] at this
set_option maxRecDepth 100000 in
set_option maxHeartbeats 2000000 in
theorem text136 (M : Nat) (hM5 : M ≤ 65536) (hM : ∀ (A : Option Addr) (c n : Nat) (l : List Int) (hn : n = l.length) (w : World) (hr : C8 w A n l) (hb : Byt l) (hc : n ≤ c) (hm : n ≤ 1000000), Calls Tryz.prog 155 #[.slice A n c, .int .i64 (M : Int)] w fun e w' => e = .returned (.tuple #[.string (readText l M).1, .int .i64 ((readText l M).2.1 : Int), .int .i64 (readText l M).2.2]) ∧ w = w')
    (B : World) (g : Nat) (t l r : List Int) (ht : Byt t) (hl : l = shB t ++ r) (hk : t.length ≤ M) (w : World) (h : RD B g l w) :
    Calls Tryz.prog 136 #[.pointer (some ⟨g, 0, none⟩), .int .i64 (M : Int)] w fun e w' => ∃ A c, e = .returned (.slice A t.length c) ∧ C8 w' A t.length t ∧ t.length ≤ c ∧ (∀ ad, A = some ad → w.heap.size ≤ ad.block) ∧ B5 w' A ∧ RD B g r w' ∧ KB w w' (fun b => b = g) := by
  have H := Aside0.mk h
  have HM := Aside0.mk hM
  obtain ⟨A, c, hC, hlc, hgk⟩ := h.blk
  have HC := Aside0.mk (And.intro hC hlc)
  have HGK := Aside0.mk hgk
  have hc0 : w.cell? ⟨g, 0, none⟩ = some (.slice A l.length c) := by rw [cell_of_row _ _ 0 _ 210 (0, 0) hgk]; rfl
  have hf0 := frozen_of_row w g 0 _ 210 hgk
  obtain ⟨P, hP⟩ : ∃ P : Ending → World → Prop, P = fun e w' => ∃ A c, e = .returned (.slice A t.length c) ∧ C8 w' A t.length t ∧ t.length ≤ c ∧ (∀ ad, A = some ad → w.heap.size ≤ ad.block) ∧ B5 w' A ∧ RD B g r w' ∧ KB w w' (fun b => b = g) := ⟨_, rfl⟩
  rw [← hP]
  have HP := Aside0.mk hP
  obtain ⟨u, hu1⟩ : ∃ u, u = (shB t).length := ⟨_, rfl⟩
  obtain ⟨s, hs⟩ : ∃ s, s = strOfNums t := ⟨_, rfl⟩
  have hrs : readText l M = (s, u, 0) := by rw [hl, hu1, hs]; exact readText_shB t ht M hk (by omega) r
  have hss : s.size = t.length := by rw [hs, strOfNums_size]
  have hsb : bytesOf s = t := by rw [hs, bytesOf_str ht]
  have hu : u ≤ l.length := by rw [hl, List.length_append, hu1]; omega
  have hr : l.drop u = r := by rw [hl, hu1]; simp
  have hcut := cut8_from A l.length c u hu
  have HD := Aside0.mk (C8_drop hC hlc hu)
  generalize (if c = u then A else A.map (·.add u)) = A2 at hcut HD
  obtain ⟨A', c', W', hcv, ha1, szB, hc1, hC1, hb1, h5⟩ := conv_str s (by omega) (w.setCell ⟨g, 0, none⟩ (.slice A2 (l.length - u) (c - u)))
  have HE := Aside0.mk (show P (.returned (.slice A' s.size c')) W' by
    rw [hP]
    have hlr : r.length = l.length - u := by rw [← hr, List.length_drop]
    have hD1 : RD B g r (w.setCell ⟨g, 0, none⟩ (.slice A2 (l.length - u) (c - u))) := by
      refine ⟨h.below.setCell h.g _, ⟨A2, c - u, ?_, ?_, ?_⟩, h.g, ?_, ?_⟩
      · rw [hlr, ← hr]; exact HD.out
      · omega
      · rw [heap_setCell_same _ _ _ _ _ _ hgk, hlr]; simp
      · rw [← hr]; exact h.byt.drop _
      · have := h.len; omega
    rw [hss, hsb] at hC1
    refine ⟨A', c', by rw [hss], hC1, by omega, fun ad had => ?_, h5, hD1.keep hb1, (KB.setCell w _ _).below hb1⟩
    rw [ha1] at had
    injection had with had
    subst had
    simp)
  have HRS := Aside0.mk hrs
  have HCV := Aside0.mk (And.intro ha1 (And.intro szB (And.intro hc1 (And.intro hC1 hb1))))
  clear h hC hlc hgk hP hu1 hrs hr hl HD hs hss hsb ha1 szB hc1 hC1 hb1 hM
  go_enter Tryz.func136, Tryz.ntmps136
  go_wp2_with fail
  refine (HM.out A c l.length l rfl w (Kd.C_below HC.out.1 H.out.below) H.out.byt HC.out.2 (by have := H.out.len; omega)).mono ?_
  rintro e w1 ⟨rfl, rfl⟩
  rw [HRS.out]
  dsimp only
  go_wp2
  exact HE.out
theorem text160 (B : World) (g : Nat) (t l r : List Int) (ht : Byt t) (hl : l = shB t ++ r) (hk : t.length ≤ 160) (w : World) (h : RD B g l w) :
    Calls Tryz.prog 136 #[.pointer (some ⟨g, 0, none⟩), .int .i64 160] w fun e w' => ∃ A c, e = .returned (.slice A t.length c) ∧ C8 w' A t.length t ∧ t.length ≤ c ∧ (∀ ad, A = some ad → w.heap.size ≤ ad.block) ∧ B5 w' A ∧ RD B g r w' ∧ KB w w' (fun b => b = g) :=
  text136 160 (by decide) readText_160 B g t l r ht hl hk w h
theorem text1024 (B : World) (g : Nat) (t l r : List Int) (ht : Byt t) (hl : l = shB t ++ r) (hk : t.length ≤ 1024) (w : World) (h : RD B g l w) :
    Calls Tryz.prog 136 #[.pointer (some ⟨g, 0, none⟩), .int .i64 1024] w fun e w' => ∃ A c, e = .returned (.slice A t.length c) ∧ C8 w' A t.length t ∧ t.length ≤ c ∧ (∀ ad, A = some ad → w.heap.size ≤ ad.block) ∧ B5 w' A ∧ RD B g r w' ∧ KB w w' (fun b => b = g) :=
  text136 1024 (by decide) readText_1024 B g t l r ht hl hk w h
end Go.Proofs.YtchhdafgmifhdaaGreat.LeaG
namespace Go.Proofs.YtchhdafgmifhdaaGreat.LeaH
open Go.RowKit Go.Proofs.YtchhdafgmifhdaaGreat.B8 Go.Proofs.YtchhdafgmifhdaaGreat.Agg Go.Proofs.YtchhdafgmifhdaaGreat.CodL Go.Proofs.YtchhdafgmifhdaaGreat.CodA Go.Proofs.YtchhdafgmifhdaaGreat.CodB Go.Proofs.YtchhdafgmifhdaaGreat.CrcL Go.Proofs.YtchhdafgmifhdaaGreat.CrcA Go.Proofs.YtchhdafgmifhdaaGreat.CrcB Go.Proofs.YtchhdafgmifhdaaGreat.PVerifyForms Go.Proofs.YtchhdafgmifhdaaGreatW.PrintWords Go.Proofs.YtchhdafgmifhdaaGreatW.PrintLast Go.Proofs.YtchhdafgmifhdaaGreatW.PrintMore Go.Proofs.YtchhdafgmifhdaaGreat.CatL Go.Proofs.YtchhdafgmifhdaaGreat.PtrA Go.Proofs.YtchhdafgmifhdaaGreat.PtrB Go.Proofs.YtchhdafgmifhdaaGreat.PtrE Go.Proofs.YtchhdafgmifhdaaGreat.OfA Go.Proofs.YtchhdafgmifhdaaGreat.ExtA Go.Proofs.YtchhdafgmifhdaaGreat.KpA Go.Proofs.YtchhdafgmifhdaaGreat.KpB Go.Proofs.YtchhdafgmifhdaaGreat.TxtK Go.Proofs.YtchhdafgmifhdaaGreat.CmpK Go.Proofs.YtchhdafgmifhdaaGreat.LeaA Go.Proofs.YtchhdafgmifhdaaGreat.LeaB Go.Proofs.YtchhdafgmifhdaaGreat.LeaC Go.Proofs.YtchhdafgmifhdaaGreat.LeaD Go.Proofs.YtchhdafgmifhdaaGreat.LeaE Go.Proofs.YtchhdafgmifhdaaGreat.LeaF Go.Proofs.YtchhdafgmifhdaaGreat.DskC Go.Proofs.YtchhdafgmifhdaaGreat.AlcD Go.Proofs.YtchhdafgmifhdaaGreat.PtrG Go.Proofs.YtchhdafgmifhdaaGreat.CodC Go.Proofs.YtchhdafgmifhdaaGreat.LeaG Go.Proofs.YtchhdafgmifhdaaGreat.ShaB Go.Proofs.YtchhdafgmifhdaaGreat.ShaD Go.Proofs.YtchhdafgmifhdaaGreat.BrdK
set_option linter.unusedVariables false
set_option linter.unusedSimpArgs false
theorem cut8_max (A : Option Addr) (n c j : Nat) (hj : j ≤ c) (W : World) : (Instr.slice 36 (.slice A n c) none (some (.int .i64 (j : Int))) (some (.int .i64 (j : Int)))).run Tryz.prog W = .ok (.slice A j j) W := by
  obtain ⟨i0, hi, _, _, _⟩ := info_parts B8.info5
  have hel : Tryz.prog.elem 36 = 5 := by simp [Program.elem, Tryz.underlying36]
  have hu : Tryz.prog.underlying 36 = some (.slice (Tryz.prog.elem 36)) := by rw [hel]; exact Tryz.underlying36
  have ha : (A.map fun x => x.add 0) = A := by cases A <;> simp [Addr.add]
  rw [run_slice_hm W 36 A n c hu .i64 .i64 (j : Int) (j : Int) (by omega) (by omega) (by omega), hel]
  simp [sizeOf, typeInfo, hi, sliced, Result.andThen, ha]
theorem make8 (n c : Nat) (h : n ≤ c) (hc : c ≤ 1000000) (W : World) : (Instr.makeSlice 36 (.int .i64 (n : Int)) (.int .i64 (c : Int))).run Tryz.prog W = .ok (.slice (some ⟨W.heap.size, 0, none⟩) n c) (W.alloc (.cells (arr .u8 (List.replicate c 0)) 5)) := by
  obtain ⟨i, hi, hz, hs, hb⟩ := info_parts B8.info5
  have := run_make (P := Tryz.prog) W 36 5 i (.int .u8 0) Tryz.underlying36 hi hz .i64 .i64 (n : Int) (c : Int) (by omega) (by omega) (by rw [hb]; omega) (by omega)
  rw [this, hs]
  simp only [Int.toNat_natCast, Nat.mul_one]
  rw [show (Value.int .u8 0).cells = #[.int .u8 0] from rfl, made8]
theorem C8_kept {w w1 : World} {A : Option Addr} {n : Nat} {xs : List Int} {S : Nat → Prop} (h : C8 w A n xs) (hk : Kept w w1 S) (hA : ∀ ad, A = some ad → ¬ S ad.block) : C8 w1 A n xs := by
  obtain ⟨h1, h2, h3⟩ := h
  refine ⟨h1, h2, fun hn => ?_⟩
  obtain ⟨ad, e, hc⟩ := h3 hn
  refine ⟨ad, e, fun j p hj => ?_⟩
  obtain ⟨c, hs, hr, hcell⟩ := hc j p hj
  exact ⟨c, hs, hr, fun i u hu => cell_kept (hcell i u hu) hk (by have h := hA ad e; simp only [Addr.add]; split <;> exact h)⟩
theorem B5.kept {w w1 : World} {A : Option Addr} {S : Nat → Prop} (h : B5 w A) (hk : Kept w w1 S) (hA : ∀ ad, A = some ad → ¬ S ad.block) : B5 w1 A := fun ad had => by
  obtain ⟨cs, fz, hh⟩ := h ad had
  exact ⟨cs, fz, blk_kept hh hk (hA ad had)⟩
theorem B5.ne {w : World} {A : Option Addr} {g : Nat} {cs : Array Value} {t : TypeId} {fz : Nat × Nat} (h : B5 w A) (hg : w.heap[g]? = some (.cells cs t fz)) (ht : t ≠ 5) : ∀ ad, A = some ad → ¬ ad.block = g := fun ad had e => by
  obtain ⟨cs', fz', hh⟩ := h ad had
  rw [e, hg] at hh
  injection hh with hh
  injection hh with _ ht' _
  exact ht ht'
set_option maxRecDepth 100000 in
set_option maxHeartbeats 2000000 in
theorem key135 (B : World) (g : Nat) (Ap : Option Addr) (np cp : Nat) (prev k l r : List Int) (hkb : Byt k) (hkl : k.length ≤ 160) (hnp : np ≤ 160) (hnc : np ≤ cp) (hl : l = shortL (sharedL prev k) ++ (shB (k.drop (sharedL prev k)) ++ r)) (w : World) (h : RD B g l w) (hp : C8 w Ap np prev) (h5 : B5 w Ap) :
    Calls Tryz.prog 135 #[.pointer (some ⟨g, 0, none⟩), .slice Ap np cp] w fun e w' => ∃ A c, e = .returned (.slice A k.length c) ∧ C8 w' A k.length k ∧ k.length ≤ c ∧ B5 w' A ∧ RD B g r w' ∧ KB w w' (fun b => b = g) := by
  obtain ⟨P, hP⟩ : ∃ P : Ending → World → Prop, P = fun e w' => ∃ A c, e = .returned (.slice A k.length c) ∧ C8 w' A k.length k ∧ k.length ≤ c ∧ B5 w' A ∧ RD B g r w' ∧ KB w w' (fun b => b = g) := ⟨_, rfl⟩
  rw [← hP]
  have HP := Aside0.mk hP
  have H := Aside0.mk h
  obtain ⟨sh, hsh⟩ : ∃ n, n = sharedL prev k := ⟨_, rfl⟩
  rw [← hsh] at hl
  have hsp := (sharedL_le prev k).1
  have hsk := (sharedL_le prev k).2
  have htk := sharedL_take prev k
  rw [← hsh] at hsp hsk htk
  have hpl : prev.length = np := hp.1
  rw [hpl] at hsp
  have HL := Aside0.mk (And.intro hl (And.intro htk (And.intro hkb hkl)))
  have HPV := Aside0.mk (And.intro hp h5)
  obtain ⟨Ag, cg, hCg, hlg, hgk⟩ := h.blk
  have HNG := Aside0.mk (B5.ne h5 hgk (by decide))
  clear h hP hl hsh htk hkb hp h5 hpl hCg hlg hgk
  go_enter Tryz.func135, Tryz.ntmps135
  have T1 := number134 B g sh np l (shB (k.drop sh) ++ r) HL.out.1 hsp (by omega) w H.out
  go_wp2_with fail
  refine T1.mono ?_
  clear T1
  rintro e w1 ⟨rfl, hr1, hk1, hz1⟩
  have H1 := Aside0.mk (And.intro hr1 hk1)
  clear hr1 hk1
  have hdl : (k.drop sh).length ≤ 160 := by rw [List.length_drop]; omega
  go_wp2_with fail
  refine (text160 B g (k.drop sh) _ r (fun x hx => HL.out.2.2.1 x (List.mem_of_mem_drop hx)) rfl hdl w1 H1.out.1).mono ?_
  rintro e w2 ⟨A6, c6, rfl, hC6, hl6, hf6, h56, hr2, hk2⟩
  obtain ⟨m, hm⟩ : ∃ m, m = (k.drop sh).length := ⟨_, rfl⟩
  have hmk : m + sh = k.length := by rw [hm, List.length_drop]; omega
  have H2 := Aside0.mk (And.intro hr2 (And.intro (H1.out.2.then_ hk2 (fun _ h => .inl h)) (And.intro hC6 (And.intro h56 hm))))
  rw [← hm] at hdl ⊢
  have HPV2 := Aside0.mk (And.intro (C8_kept HPV.out.1 H2.out.2.1.kept HNG.out) (B5.kept HPV.out.2 H2.out.2.1.kept HNG.out))
  clear hC6 hl6 hf6 h56 hr2 hk2 hm
  have hwm : IntKind.i64.wrap ((sh : Int) + (m : Int)) = (sh : Int) + (m : Int) := by rw [IntKind.wrap_i64]; omega
  have hmk8 := make8 sh (sh + m) (by omega) (by omega) w2
  rw [Int.natCast_add] at hmk8
  have hcut := cut8_max Ap np cp sh (by omega)
  obtain ⟨w3, hw3⟩ : ∃ W, W = w2.alloc (.cells (arr .u8 (List.replicate (sh + m) 0)) 5) := ⟨_, rfl⟩
  rw [← hw3] at hmk8
  obtain ⟨G, hG⟩ : ∃ G, G = w2.heap.size := ⟨_, rfl⟩
  have HG := Aside0.mk hG
  have HO3 := Aside0.mk (show w3.heap[G]? = some (.cells ((List.replicate (sh + m) 0).map (Value.int .u8)).toArray 5 (0, 0)) by rw [hw3, hG]; exact blk_new w2 _)
  have HB3 := Aside0.mk (show Below w2.heap.size w2 w3 by rw [hw3]; exact below_alloc (Below.refl _ _) _)
  have HC3 := Aside0.mk (show C8 w3 Ap sh (k.take sh) by rw [← HL.out.2.1]; exact B8.C_take (Kd.C_below HPV2.out.1 HB3.out) hsp)
  have hlk : (k.take sh).length = sh := by rw [List.length_take]; omega
  obtain ⟨cz, hcz⟩ : ∃ l, l = (List.replicate (sh + m) (0 : Int)).map (Value.int .u8) := ⟨_, rfl⟩
  obtain ⟨ck, hck⟩ : ∃ l, l = (k.take sh).map (Value.int .u8) := ⟨_, rfl⟩
  rw [← hcz] at HO3
  have HZ := Aside0.mk (show cz.length = sh + m by rw [hcz, List.length_map, List.length_replicate])
  have HK := Aside0.mk (And.intro hck (show ck.length = sh by rw [hck, List.length_map, hlk]))
  have HLK := Aside0.mk hlk
  clear hcz hck hlk
  rw [← hG] at hmk8
  clear hw3 hG
  go_wp2_with (refine wpList_copy_splice (o := ⟨some 25, _, _, _, _, _⟩) rfl (.tmp 20) (.tmp 24) 36 36 rfl 5 Tryz.underlying36 i5 (some ⟨G, 0, none⟩) Ap sh (sh + m) sh sh rfl rfl G 0 cz 5 HO3.out ck ?_ ?_ ?_ ?_ G w3 (Below.refl _ _) (Nat.le_refl _) ?_)
  case refine_1 =>
    rw [HK.out.2]
    show _ = min sh sh
    omega
  case refine_2 =>
    intro h0
    rw [HK.out.2] at h0
    rw [HK.out.1]
    exact C8_cells HC3.out h0
  case refine_3 =>
    rw [HK.out.2, HZ.out]
    omega
  case refine_4 => intro v hv; rw [HK.out.1] at hv; obtain ⟨y, _, rfl⟩ := List.mem_map.1 hv; rfl
  intro w4 hsp4 hb4
  have H4 := Aside0.mk (show R8 w4 G (.slice (some ⟨G, 0, none⟩) sh (sh + m)) (k.take sh) ∧ Below G w2 w4 by
    refine ⟨Kd.R_of_own ?_ (fun _ _ => trivial), ?_⟩
    · have h1 := hsp4.out
      have e1 : encs (Value.int .u8) (k.take sh) = ck := HK.out.1.symm
      rw [e1, HLK.out]
      refine ⟨by rw [HK.out.2, Nat.mul_one], .inr ⟨G, sh + m, _, rfl, Nat.le_refl _, h1, by omega, by unfold maxLen; omega, ?_, ?_⟩⟩
      · rw [List.size_toArray, length_splice _ _ _ (by rw [HK.out.2, HZ.out]; omega), HZ.out, Nat.mul_one]
      · show (splice cz 0 ck).take (sh * 1) = ck
        unfold splice
        rw [List.take_zero, List.nil_append, Nat.mul_one]
        exact List.take_left' HK.out.2
    · rw [HG.out] at hb4 ⊢
      exact HB3.out.trans hb4)
  clear hsp4 hb4
  have HC6 := Aside0.mk (show C8 w4 A6 m (k.drop sh) by
    have := H2.out.2.2.1
    rw [← H2.out.2.2.2.2] at this
    exact Kd.C_below this (by rw [← HG.out]; exact H4.out.2))
  have hz4 : G ≤ w4.heap.size := by rw [HG.out]; exact H4.out.2.size
  have hlen4 : (k.take sh).length + m ≤ 140737488355328 := by rw [HLK.out]; omega
  go_wp2_with (at_builtin; refine appRow (w0 := w2) G rfl (.tmp 26) (.tmp 27) rfl _ (k.take sh) (k.drop sh) A6 m c6 rfl rfl H4.out.1 HC6.out H4.out.2 hz4 hlen4 ?_; intro v5 w5 ho hb hgr; have H5 := Aside0.mk (And.intro ho hb); clear ho hb hgr)
  rw [HP.out]
  have hR := H5.out.1
  rw [List.take_append_drop] at hR
  have hbnd := (Kd.R_bound hR).1
  obtain ⟨A, c, rfl, hle, hC⟩ := Kd.R_reads hR
  refine ⟨A, c, rfl, hC, hle, fun ad had => ?_, H2.out.1.keep (by rw [← HG.out]; exact H5.out.2), H2.out.2.1.below (by rw [← HG.out]; exact H5.out.2)⟩
  obtain ⟨_, _, _, q, hq, cells, hh⟩ := hbnd ad.block (by rw [had]; rfl)
  have : q = 5 := by simpa [show (Kd.int .u8).E = [] from rfl] using hq
  exact ⟨cells, _, by rw [← this]; exact hh⟩
end Go.Proofs.YtchhdafgmifhdaaGreat.LeaH
namespace Go.Proofs.YtchhdafgmifhdaaGreat.PtrH
open Go.RowKit Go.Proofs.YtchhdafgmifhdaaGreat.B8 Go.Proofs.YtchhdafgmifhdaaGreat.CodL Go.Proofs.YtchhdafgmifhdaaGreat.CodA Go.Proofs.YtchhdafgmifhdaaGreat.CodB Go.Proofs.YtchhdafgmifhdaaGreat.CatL Go.Proofs.YtchhdafgmifhdaaGreat.PtrA Go.Proofs.YtchhdafgmifhdaaGreat.PtrB Go.Proofs.YtchhdafgmifhdaaGreat.PtrE Go.Proofs.YtchhdafgmifhdaaGreat.PtrF Go.Proofs.YtchhdafgmifhdaaGreat.PVerifyForms Go.Proofs.YtchhdafgmifhdaaGreatW.PrintWords Go.Proofs.YtchhdafgmifhdaaGreatW.PrintLast Go.Proofs.YtchhdafgmifhdaaGreatW.PrintMore
set_option linter.unusedVariables false
set_option linter.unusedSimpArgs false

theorem take_all (A : Option Addr) (c n : Nat) (l : List Int) (hn : n = l.length) (w : World) (hr : C8 w A n l) (hb : Byt l) (hc : n ≤ c) (h1 : 1 ≤ n) (h8 : n ≤ 8) :
    Calls Tryz.prog 165 #[.slice A n c, .int .i64 (n : Int)] w (TellsTake w (leL l) []) := by
  subst hn
  have h := take_calls A c l l.length w hr hb hc (by omega) h1 h8 (Nat.le_refl _)
  rwa [List.take_length, List.drop_length] at h

/-- What a number is told, and that the bytes' variable has gone on. -/
def TellsNext (B : World) (g size c : Nat) (l : List Int) (w : World) (e : Ending) (w' : World) : Prop :=
  e = .returned (.int .u64 (leL (l.take size))) ∧ Below B.heap.size B w' ∧ KeepBut w w' g none ∧
  ∃ A2, C8 B A2 (l.length - size) (l.drop size) ∧ w'.heap[g]? = some (.cells #[.slice A2 (l.length - size) (c - size)] 36 (0, 0))

set_option maxRecDepth 100000 in
set_option maxHeartbeats 200000 in
theorem next_calls (B : World) (g : Nat) (A : Option Addr) (c n : Nat) (l : List Int) (hn : n = l.length) (size : Nat) (w : World) (hB : Below B.heap.size B w) (hBg : B.heap.size ≤ g)
    (hg : w.heap[g]? = some (.cells #[.slice A n c] 36 (0, 0))) (hr : C8 B A n l) (hb : Byt l) (hc : n ≤ c) (hm : n ≤ 1000000) (h1 : 1 ≤ size) (h8 : size ≤ 8) (hs : size ≤ n) :
    Calls Tryz.prog 164 #[.int .i64 (size : Int), .pointer (some ⟨g, 0, none⟩)] w (TellsNext B g size c l w) := by
  have hcut := cut8_to A n c size hs hc
  have hcut2 := cut8_from A n c size hs
  have HD := Aside0.mk (C8_drop hr hc hs)
  have HT := Aside0.mk (B8.C_take (Kd.C_below hr hB) hs)
  generalize (if c = size then A else A.map (·.add size)) = A2 at hcut2 HD
  have x0 : w.cell? ⟨g, 0, none⟩ = some (.slice A n c) := by rw [cell_of_row w g 0 _ 36 (0, 0) hg]; rfl
  have HG := Aside0.mk hg
  have HBB := Aside0.mk hB
  have hgl := blk_lt hg
  have HN := Aside0.mk hn
  have HBY := Aside0.mk hb
  obtain ⟨l0, hl0⟩ : ∃ l0, l0 = l.take size := ⟨_, rfl⟩
  have hl0n : Aside0 (size = l0.length) := Aside0.mk <| by rw [hl0, List.length_take]; omega
  have HL0 := Aside0.mk hl0
  rw [← hl0] at HT
  clear hr hb hn hg hB hl0
  go_enter Tryz.func164, Tryz.ntmps164
  go_wp2_with fail
  refine (take_all A c size l0 hl0n.out w HT.out (by rw [HL0.out]; exact HBY.out.take _) (by omega) h1 h8).mono ?_
  rintro e w1 ⟨v, rfl, _, hb1⟩
  have HB1 := Aside0.mk hb1
  have x1 : w1.cell? ⟨g, 0, none⟩ = some (.slice A n c) := by rw [hb1.cell hgl]; exact x0
  have hg1 := blk_below HG.out hb1
  have hf1 : w1.frozen? ⟨g, 0, none⟩ = false := frozen_of_row w1 g 0 _ 36 hg1
  clear hb1 x0
  go_wp2_with fail
  go_ret
  rw [HL0.out]
  refine ⟨rfl, ?_, ?_, A2, by rw [← HN.out]; exact HD.out, by rw [← HN.out]; exact one_setCell hg1⟩
  · exact (below_then HBB.out HBB.out.size HB1.out).setCell hBg _
  · exact (KeepBut.of_below HB1.out g none).set_ 0 _
end Go.Proofs.YtchhdafgmifhdaaGreat.PtrH
namespace Go.Proofs.YtchhdafgmifhdaaGreat.PtrI
open Go.RowKit Go.Proofs.YtchhdafgmifhdaaGreat.Agg Go.Proofs.YtchhdafgmifhdaaGreat.PtrH Go.Proofs.YtchhdafgmifhdaaGreat.B8 Go.Proofs.YtchhdafgmifhdaaGreat.CodL Go.Proofs.YtchhdafgmifhdaaGreat.CodA Go.Proofs.YtchhdafgmifhdaaGreat.CodB Go.Proofs.YtchhdafgmifhdaaGreat.CatL Go.Proofs.YtchhdafgmifhdaaGreat.PtrA Go.Proofs.YtchhdafgmifhdaaGreat.PtrB Go.Proofs.YtchhdafgmifhdaaGreat.PtrE Go.Proofs.YtchhdafgmifhdaaGreat.PtrF Go.Proofs.YtchhdafgmifhdaaGreat.PVerifyForms Go.Proofs.YtchhdafgmifhdaaGreatW.PrintWords Go.Proofs.YtchhdafgmifhdaaGreatW.PrintLast Go.Proofs.YtchhdafgmifhdaaGreatW.PrintMore
set_option linter.unusedVariables false
set_option linter.unusedSimpArgs false

set_option maxRecDepth 100000 in
set_option maxHeartbeats 400000 in
theorem read_short (A : Option Addr) (c n : Nat) (w : World) (hs : n < 52) :
    Calls Tryz.prog 156 #[.slice A n c] w (fun e w' => e = .returned (.tuple #[.agg (encP zeroP), .int .i64 10]) ∧ Below w.heap.size w w') := by
  have hB := Aside0.mk (((Below.refl w.heap.size w).alloc (Nat.le_refl _) (.cells #[.slice A n c] 36)).alloc (by simp) (.cells Z56 32))
  have g1 := blk_new (w.alloc (.cells #[.slice A n c] 36)) (.cells Z56 32)
  have e0 : (w.alloc (.cells #[.slice A n c] 36)).heap.size = w.heap.size + 1 := by simp
  rw [e0] at g1
  have hn : ((n : Int) < 52) = True := by simp; omega
  go_enter Tryz.func156, Tryz.ntmps156
  rw [enc_zero]
  go_wp2_with (refine wpList_store_same rfl 32 _ _ rfl (w.heap.size + 1) Z56 rfl rfl 32 g1 i56 a56 ?_)
  exact bodyPost_ret (res_ct (p := 2) (q := 3) _ rfl rfl g1 Tryz.underlying32 rfl i56) rfl ⟨rfl, hB.out⟩
end Go.Proofs.YtchhdafgmifhdaaGreat.PtrI
namespace Go.Proofs.YtchhdafgmifhdaaGreat.PtrK
open Go.RowKit Go.Proofs.YtchhdafgmifhdaaGreat.CodL Go.Proofs.YtchhdafgmifhdaaGreat.CatL Go.Proofs.YtchhdafgmifhdaaGreat.PtrE Go.Proofs.YtchhdafgmifhdaaGreat.PtrF

theorem rawP_parts (l m0 m1 m2 m3 m4 : List Int) (v1 v2 v3 v4 : Int) (hby : Byt l) (h : 52 ≤ l.length) (h0 : m0 = l.take 52) (h1 : m1 = m0.drop 4) (h2 : m2 = m1.drop 4) (h3 : m3 = m2.drop 8) (h4 : m4 = m3.drop 4)
    (e1 : v1 = leL (m0.take 4)) (e2 : v2 = leL (m1.take 4)) (e3 : v3 = leL (m2.take 8)) (e4 : v4 = leL (m3.take 4)) :
    rawP l = ⟨wrap64 v1, wrap64 v3, wrap64 v2, v4 % 4294967296, m4⟩ := by
  subst h0; subst h1; subst h2; subst h3; subst h4
  have b1 := leL_bound (hby.take 4)
  have b2 := leL_bound ((hby.drop 4).take 4)
  have b3 := leL_bound ((hby.drop 8).take 8)
  have b4 := leL_bound ((hby.drop 16).take 4)
  have n1 : (l.take 4).length = 4 := by rw [List.length_take]; omega
  have n2 : ((l.drop 4).take 4).length = 4 := by rw [List.length_take, List.length_drop]; omega
  have n3 : ((l.drop 8).take 8).length = 8 := by rw [List.length_take, List.length_drop]; omega
  have n4 : ((l.drop 16).take 4).length = 4 := by rw [List.length_take, List.length_drop]; omega
  rw [n1] at b1; rw [n2] at b2; rw [n3] at b3; rw [n4] at b4
  simp only [List.drop_take, List.take_take, List.drop_drop] at e1 e2 e3 e4
  simp at e1 e2 e3 e4
  simp only [List.drop_take, List.drop_drop]
  simp
  simp only [rawP, Ptr.mk.injEq, and_true]
  rw [← e1, ← e2, ← e3, ← e4]
  rw [← e1] at b1; rw [← e2] at b2; rw [← e3] at b3; rw [← e4] at b4
  simp only [wrap64, s64]
  refine ⟨?_, ?_, ?_, ?_⟩
  · omega
  · split <;> omega
  · omega
  · omega

/-- The pointer's cells behind the four stores and the copy. -/
theorem cells_laid (w : World) (g : Nat) (x1 x2 x3 : Value) (x4 : Value) (L : List Value) (hL : L.length = 32)
    (h : w.heap[g]? = some (.cells ((((Z56.setIfInBounds 0 x1).setIfInBounds 2 x2).setIfInBounds 1 x3).setIfInBounds 3 x4) 32 (0, 0))) :
    (w.setCells g 4 L).heap[g]? = some (.cells (#[x1, x3, x2, x4] ++ L.toArray) 32 (0, 0)) := by
  obtain ⟨cur, h1, h2, h3⟩ := Go.Proofs.YtchhdafgmifhdaaGreatW.PrintWords.setCells_row L 4 w _ h (by rw [hL]; simp)
  rw [h1]
  have : cur = #[x1, x3, x2, x4] ++ L.toArray := by
    apply Array.toList_inj.1
    rw [h3, hL]
    simp
  rw [this]
end Go.Proofs.YtchhdafgmifhdaaGreat.PtrK
namespace Go.Proofs.YtchhdafgmifhdaaGreat.PtrJ
open Go.RowKit Go.Proofs.YtchhdafgmifhdaaGreat.PtrK Go.Proofs.YtchhdafgmifhdaaGreat.PtrI Go.Proofs.YtchhdafgmifhdaaGreat.Agg Go.Proofs.YtchhdafgmifhdaaGreat.PtrH Go.Proofs.YtchhdafgmifhdaaGreat.B8 Go.Proofs.YtchhdafgmifhdaaGreat.CodL Go.Proofs.YtchhdafgmifhdaaGreat.CodA Go.Proofs.YtchhdafgmifhdaaGreat.CodB Go.Proofs.YtchhdafgmifhdaaGreat.CatL Go.Proofs.YtchhdafgmifhdaaGreat.PtrA Go.Proofs.YtchhdafgmifhdaaGreat.PtrB Go.Proofs.YtchhdafgmifhdaaGreat.PtrE Go.Proofs.YtchhdafgmifhdaaGreat.PtrF Go.Proofs.YtchhdafgmifhdaaGreat.PVerifyForms Go.Proofs.YtchhdafgmifhdaaGreatW.PrintWords Go.Proofs.YtchhdafgmifhdaaGreatW.PrintLast Go.Proofs.YtchhdafgmifhdaaGreatW.PrintMore
set_option linter.unusedVariables false
set_option linter.unusedSimpArgs false

/-- Where the walk of Read stands: the variable of the bytes, and the pointer's cells. -/
structure RS (B : World) (n c : Nat) (l : List Int) (cs : Array Value) (W : World) : Prop where
  below : Below B.heap.size B W
  var : ∃ A, C8 B A n l ∧ W.heap[B.heap.size]? = some (.cells #[.slice A n c] 36 (0, 0))
  ptr : W.heap[B.heap.size + 1]? = some (.cells cs 32 (0, 0))
  len : n = l.length
  le : n ≤ c
  byt : Byt l
theorem RS.set {B : World} {n c : Nat} {l : List Int} {cs : Array Value} {W : World} (h : RS B n c l cs W) (i : Nat) (v : Value) : RS B n c l (cs.setIfInBounds i v) (W.setCell ⟨B.heap.size + 1, i, none⟩ v) :=
  ⟨h.below.setCell (Nat.le_succ _) _, by obtain ⟨A, h1, h2⟩ := h.var; exact ⟨A, h1, blk_far h2 (by simp) _⟩, heap_setCell_same _ _ _ _ _ _ h.ptr, h.len, h.le, h.byt⟩
theorem RS.step {B : World} {n c : Nat} {l : List Int} {cs : Array Value} {W : World} (h : RS B n c l cs W) (size n1 c1 g : Nat) (i1 v1 : Int) (l1 : List Int) (hg : g = B.heap.size) (hn1 : n1 = n - size) (hc1 : c1 = c - size) (hi : i1 = (size : Int)) (hv : v1 = leL (l.take size)) (hl : l1 = l.drop size) (h1 : 1 ≤ size) (h8 : size ≤ 8) (hs : size ≤ n) (hm : n ≤ 1000000) :
    Calls Tryz.prog 164 #[.int .i64 i1, .pointer (some ⟨g, 0, none⟩)] W (fun e W' => e = .returned (.int .u64 v1) ∧ RS B n1 c1 l1 cs W') := by
  subst hg; subst hn1; subst hc1; subst hi; subst hv; subst hl
  obtain ⟨A, hr, hg⟩ := h.var
  refine (next_calls B B.heap.size A c n l h.len size W h.below (Nat.le_refl _) hg hr h.byt h.le hm h1 h8 hs).mono ?_
  rintro e W1 ⟨rfl, hb, hk, A2, hr2, hg2⟩
  rw [← h.len] at hr2 hg2
  exact ⟨rfl, hb, ⟨A2, hr2, hg2⟩, hk.blk h.ptr (by omega) (by simp), by rw [List.length_drop, h.len], by have := h.le; omega, h.byt.drop _⟩

theorem a_enc (q : Ptr) : (encP q).all (·.oneCell') = true := by
  rw [Array.all_eq_true]
  intro i hi
  simp only [encP] at hi ⊢
  rw [Array.getElem_append]
  split
  · rename_i h
    simp at h
    have : i = 0 ∨ i = 1 ∨ i = 2 ∨ i = 3 := by omega
    rcases this with rfl | rfl | rfl | rfl <;> rfl
  · simp [Value.oneCell']

set_option maxRecDepth 100000 in
set_option maxHeartbeats 400000 in
theorem read_long (A : Option Addr) (c n : Nat) (l : List Int) (hnl : n = l.length) (w : World) (hr : C8 w A n l) (hby : Byt l) (hc : n ≤ c) (hm : n ≤ 1000000) (hs : 52 ≤ n) :
    Calls Tryz.prog 156 #[.slice A n c] w (fun e w' => e = .returned (.tuple #[.agg (encP (readP l).1), .int .i64 (readP l).2]) ∧ Below w.heap.size w w') := by
  have HB0 := Aside0.mk (((Below.refl w.heap.size w).alloc (Nat.le_refl _) (.cells #[.slice A 52 c] 36)).alloc (by simp) (.cells Z56 32))
  have hcut := cut8_to A n c 52 hs hc
  have HR := Aside0.mk (B8.C_take hr hs)
  have HX := Aside0.mk (And.intro hnl hby)
  have hn : ((n : Int) < 52) = False := by simp; omega
  have hl52 : (l.take 52).length = 52 := by rw [List.length_take]; omega
  obtain ⟨m0, hm0⟩ : ∃ m0, m0 = l.take 52 := ⟨_, rfl⟩
  obtain ⟨m1, hm1⟩ : ∃ m1, m1 = m0.drop 4 := ⟨_, rfl⟩
  obtain ⟨m2, hm2⟩ : ∃ m2, m2 = m1.drop 4 := ⟨_, rfl⟩
  obtain ⟨m3, hm3⟩ : ∃ m3, m3 = m2.drop 8 := ⟨_, rfl⟩
  obtain ⟨m4, hm4⟩ : ∃ m4, m4 = m3.drop 4 := ⟨_, rfl⟩
  obtain ⟨v1, hv1⟩ : ∃ v, v = leL (m0.take 4) := ⟨_, rfl⟩
  obtain ⟨v2, hv2⟩ : ∃ v, v = leL (m1.take 4) := ⟨_, rfl⟩
  obtain ⟨v3, hv3⟩ : ∃ v, v = leL (m2.take 8) := ⟨_, rfl⟩
  obtain ⟨v4, hv4⟩ : ∃ v, v = leL (m3.take 4) := ⟨_, rfl⟩
  have S0 : RS w 52 c m0 Z56 ((w.alloc (.cells #[.slice A 52 c] 36)).alloc (.cells Z56 32)) := ⟨HB0.out, ⟨A, by rw [hm0]; exact HR.out, blk_alloc (blk_new w _) _⟩, by simpa using blk_new (w.alloc (.cells #[.slice A 52 c] 36)) (.cells Z56 32), by rw [hm0, hl52], by omega, by rw [hm0]; exact HX.out.2.take _⟩
  have S0 := Aside0.mk S0
  have M1 := Aside0.mk (And.intro hm1 hv1)
  have M2 := Aside0.mk (And.intro hm2 hv2)
  have M3 := Aside0.mk (And.intro hm3 hv3)
  have M4 := Aside0.mk (And.intro hm4 hv4)
  have M0 := Aside0.mk hm0
  clear hm0 hm1 hm2 hm3 hm4 hv1 hv2 hv3 hv4 hl52
  have hq : ∃ P : Ending → World → Prop, P = (fun e w' => e = .returned (.tuple #[.agg (encP (readP l).1), .int .i64 (readP l).2]) ∧ Below w.heap.size w w') := ⟨_, rfl⟩
  obtain ⟨P, hP⟩ := hq
  rw [← hP]
  have HP := Aside0.mk hP
  clear hr hby hnl hP
  go_enter Tryz.func156, Tryz.ntmps156
  go_wp2_with fail
  refine (S0.out.step 4 48 (c - 4) w.heap.size 4 v1 m1 rfl rfl rfl rfl M1.out.2 M1.out.1 (by decide) (by decide) (by decide) (by decide)).mono ?_
  rintro e u1 ⟨rfl, S1⟩
  have S1 := Aside0.mk S1
  go_wp2_with fail
  refine (S1.out.step 4 44 (c - 4 - 4) w.heap.size 4 v2 m2 rfl rfl rfl rfl M2.out.2 M2.out.1 (by decide) (by decide) (by decide) (by decide)).mono ?_
  rintro e u2 ⟨rfl, S2⟩
  have g2 := S2.ptr
  have y0 : u2.cell? ⟨w.heap.size + 1, 0, none⟩ = some (.int .i64 0) := by rw [cell_of_row u2 _ 0 _ 32 (0, 0) g2]; rfl
  have y2 : u2.cell? ⟨w.heap.size + 1, 2, none⟩ = some (.int .i64 0) := by rw [cell_of_row u2 _ 2 _ 32 (0, 0) g2]; rfl
  have f0 := frozen_of_row u2 _ 0 _ 32 g2
  have f2 := frozen_of_row u2 _ 2 _ 32 g2
  have S2 := Aside0.mk S2
  clear g2
  go_wp2_with fail
  have S2 := Aside0.mk ((S2.out.set 0 (.int .i64 (wrap64 v1))).set 2 (.int .i64 (wrap64 v2)))
  refine (S2.out.step 8 36 (c - 4 - 4 - 8) w.heap.size 8 v3 m3 rfl rfl rfl rfl M3.out.2 M3.out.1 (by decide) (by decide) (by decide) (by decide)).mono ?_
  rintro e u3 ⟨rfl, S3⟩
  have g3 := S3.ptr
  have z1 : u3.cell? ⟨w.heap.size + 1, 1, none⟩ = some (.int .i64 0) := by rw [cell_of_row u3 _ 1 _ 32 (0, 0) g3]; rfl
  have f3 := frozen_of_row u3 _ 1 _ 32 g3
  have S3 := Aside0.mk S3
  clear g3 y0 y2 f0 f2
  go_wp2_with fail
  have S3 := Aside0.mk (S3.out.set 1 (.int .i64 (wrap64 v3)))
  refine (S3.out.step 4 32 (c - 4 - 4 - 8 - 4) w.heap.size 4 v4 m4 rfl rfl rfl rfl M4.out.2 M4.out.1 (by decide) (by decide) (by decide) (by decide)).mono ?_
  rintro e u4 ⟨rfl, S4⟩
  have g4 := S4.ptr
  have q1 : u4.cell? ⟨w.heap.size + 1, 3, none⟩ = some (.int .u32 0) := by rw [cell_of_row u4 _ 3 _ 32 (0, 0) g4]; rfl
  have f4 := frozen_of_row u4 _ 3 _ 32 g4
  obtain ⟨A4, HA4, k4⟩ := S4.var
  have q5 : u4.cell? ⟨w.heap.size, 0, none⟩ = some (.slice A4 32 (c - 4 - 4 - 8 - 4)) := by rw [cell_of_row u4 _ 0 _ 36 (0, 0) k4]; rfl
  obtain ⟨bq, off, rfl, hbq, hx⟩ := C_at 0 (Kd.C_below HA4 S4.below) (by decide)
  have harr : ∀ W : World, (Instr.arrayAt 30 (.slice (some ⟨bq, off, none⟩) 32 (c - 4 - 4 - 8 - 4))).run Tryz.prog W = .ok (.pointer (some ⟨bq, off, none⟩)) W := fun W => run_arrayAt (P := Tryz.prog) W 30 5 32 _ 32 _ (by kernel_rfl) (Nat.le_refl _)
  obtain ⟨_, _, e9, hbq2, _⟩ := C_at 0 HA4 (by decide)
  simp only [Option.some.injEq, Addr.mk.injEq] at e9
  obtain ⟨rfl, rfl, _⟩ := e9
  have hml := S4.len
  have hR : u4.rangeAt bq off (m4.map (Value.int .u8)) := by
    intro j v hj
    rw [List.getElem?_map] at hj
    obtain ⟨x, hx1, rfl⟩ := Option.map_eq_some_iff.1 hj
    have hj2 := (List.getElem?_eq_some_iff.1 hx1).1
    have := hx j (by omega)
    rw [this]
    simp [List.getD, hx1]
  have S5 := S4.set 3 (.int .u32 (v4 % 4294967296))
  have hR5 : (u4.setCell ⟨w.heap.size + 1, 3, none⟩ (.int .u32 (v4 % 4294967296))).rangeAt bq off (m4.map (Value.int .u8)) := by
    intro j v hj
    rw [World.cell?_setCell_other _ _ _ _ (by intro h; simp only [Addr.mk.injEq] at h; omega)]
    exact hR j v hj
  have hT5 : (u4.setCell ⟨w.heap.size + 1, 3, none⟩ (.int .u32 (v4 % 4294967296))).there (w.heap.size + 1) 4 (m4.map (Value.int .u8)).toArray.size := by
    intro j hj
    have hj : j < 32 := by simpa [← hml] using hj
    refine ⟨?_, frozen_of_row _ _ _ _ 32 S5.ptr⟩
    rw [cell_of_row _ _ (4 + j) _ 32 (0, 0) S5.ptr]
    simp
    omega
  have i54 : (Tryz.prog.info? 30).map (·.size) = some (m4.map (Value.int .u8)).length := by rw [List.length_map, ← hml]; kernel_rfl
  have i54' : (Tryz.prog.info? 30).map (·.size) = some (m4.map (Value.int .u8)).toArray.size := by rw [List.size_toArray]; exact i54
  have a54 : (m4.map (Value.int .u8)).toArray.all (·.oneCell') = true := all_oneCell_toArray (by intro v hv; obtain ⟨x, _, rfl⟩ := List.mem_map.1 hv; rfl)
  have u54 : Tryz.prog.underlying 30 = some (.array 32 5) := by kernel_rfl
  obtain ⟨q, hq0⟩ : ∃ q, q = rawP l := ⟨_, rfl⟩
  have hqp : q = ⟨wrap64 v1, wrap64 v3, wrap64 v2, v4 % 4294967296, m4⟩ := by
    rw [hq0]
    exact rawP_parts l m0 m1 m2 m3 m4 v1 v2 v3 v4 HX.out.2 (by have := HX.out.1; omega) M0.out M1.out.1 M2.out.1 M3.out.1 M4.out.1 M1.out.2 M2.out.2 M3.out.2 M4.out.2
  have hq32 : q.sha.length = 32 := by rw [hqp]; exact hml.symm
  have hqe : encP q = #[.int .i64 (wrap64 v1), .int .i64 (wrap64 v3), .int .i64 (wrap64 v2), .int .u32 (v4 % 4294967296)] ++ (m4.map (Value.int .u8)).toArray := by rw [hqp]; rfl
  have G5 := cells_laid _ _ _ _ _ _ (m4.map (Value.int .u8)) (by rw [List.length_map, ← hml]) S5.ptr
  rw [← hqe] at G5
  have HQ := Aside0.mk (And.intro hq0 hq32)
  have hsi := si hq32
  clear hqp hqe hq0 hq32
  have BU : Below w.heap.size w ((u4.setCell ⟨w.heap.size + 1, 3, none⟩ (.int .u32 (v4 % 4294967296))).setCells (w.heap.size + 1) 4 (m4.map (Value.int .u8))) := by
    obtain ⟨s1, s2, s3, s4⟩ := setCells_same (w.heap.size + 1) (m4.map (Value.int .u8)) 4 (u4.setCell ⟨w.heap.size + 1, 3, none⟩ (.int .u32 (v4 % 4294967296)))
    exact ⟨s1.trans S5.below.os, s2.trans S5.below.tape, s3.trans S5.below.output, by rw [s4]; exact S5.below.size, fun k hk => (setCells_far _ 4 k (by omega)).trans (S5.below.block k hk)⟩
  have HS5 := Aside0.mk (And.intro S5 (And.intro hR5 hT5))
  have HI := Aside0.mk (And.intro i54 (And.intro i54' a54))
  clear S5 hR hR5 hT5 i54 i54' a54 hx hbq hbq2 HA4 hml
  have S4 := Aside0.mk S4
  clear g4 z1 f3 k4 S1 S2 S3
  obtain ⟨L4, hL4⟩ : ∃ L, L = m4.map (Value.int .u8) := ⟨_, rfl⟩
  rw [← hL4] at HS5 HI G5 BU
  have BU := Aside0.mk BU
  have G5 := Aside0.mk G5
  have HL4 := Aside0.mk hL4
  clear hL4
  go_wp2_with (first | (refine wpList_load_mid rfl 30 _ rfl bq off rfl L4 _ HS5.out.2.1 u54 rfl HI.out.1 ?_) | (refine wpList_store_mid rfl 30 _ _ rfl (w.heap.size + 1) 4 L4.toArray rfl rfl HS5.out.2.2 HI.out.2.1 HI.out.2.2 ?_) | (refine wpList_load_row rfl 32 _ rfl _ rfl 32 (encP q) (0, 0) _ G5.out Tryz.underlying32 rfl hsi ?_))
  refine (none_calls q HQ.out.2 _).mono ?_
  rintro e u6 ⟨rfl, hb6⟩
  have G6 := Aside0.mk (blk_below G5.out hb6)
  have B6 := Aside0.mk (below_then BU.out BU.out.size hb6)
  clear hb6 BU G5 HS5 q1 f4 q5 harr
  have hpc := Aside0.mk (pc q HQ.out.2)
  have hae := a_enc q
  by_cases hz : q = zeroP
  · rw [decide_eq_true hz]
    go_wp2_with (first | (refine wpList_load_row rfl 32 _ rfl _ rfl 32 (encP q) (0, 0) _ G6.out Tryz.underlying32 rfl hsi ?_) | (refine wpList_store_same rfl 32 _ _ rfl (w.heap.size + 1) (encP q) rfl rfl 32 G6.out hsi hae ?_))
    refine bodyPost_ret (res_ct (p := 2) (q := 3) _ rfl rfl G6.out Tryz.underlying32 rfl hsi) rfl ?_
    rw [HP.out]
    refine ⟨?_, B6.out⟩
    have h : readP l = (q, 0) := by
      unfold readP
      rw [if_neg (by have := HX.out.1; omega), ← HQ.out.1, if_neg (by simp [hz])]
    rw [h]
    rfl
  · rw [decide_eq_false hz]
    go_wp2_with (refine gate_on (by rfl) ?_; dsimp only; refine wpList_load_row rfl 32 _ rfl _ rfl 32 (encP q) (0, 0) _ G6.out Tryz.underlying32 rfl hsi ?_)
    refine (right_calls (encP q) q hpc.out _).mono ?_
    rintro e u7 ⟨rfl, hb7⟩
    have G7 := Aside0.mk (blk_below G6.out hb7)
    have B7 := Aside0.mk (below_then B6.out B6.out.size hb7)
    clear hb7 G6 B6
    by_cases hrt : Right q
    · rw [rightB_yes hrt]
      go_wp2_with (first | (refine wpList_load_row rfl 32 _ rfl _ rfl 32 (encP q) (0, 0) _ G7.out Tryz.underlying32 rfl hsi ?_) | (refine wpList_store_same rfl 32 _ _ rfl (w.heap.size + 1) (encP q) rfl rfl 32 G7.out hsi hae ?_))
      refine bodyPost_ret (res_ct (p := 2) (q := 3) _ rfl rfl G7.out Tryz.underlying32 rfl hsi) rfl ?_
      rw [HP.out]
      refine ⟨?_, B7.out⟩
      have h : readP l = (q, 0) := by
        unfold readP
        rw [if_neg (by have := HX.out.1; omega), ← HQ.out.1, if_neg (by simp [hrt])]
      rw [h]
      rfl
    · rw [rightB_no hrt]
      have hesz : (encP q).size = Z56.size := by rw [encP_size HQ.out.2]; rfl
      go_wp2_with (refine wpList_store_row rfl 32 _ _ rfl (w.heap.size + 1) Z56 rfl rfl 32 (encP q) G7.out i56 hesz a56 ?_)
      have G8 := setRow_heap u7 (w.heap.size + 1) (encP q) Z56 32 _ G7.out
      refine bodyPost_ret (res_ct (p := 2) (q := 3) _ rfl rfl G8 Tryz.underlying32 rfl i56) rfl ?_
      rw [HP.out]
      refine ⟨?_, below_setRow B7.out (Nat.le_succ _) _⟩
      have h : readP l = (zeroP, 11) := by
        unfold readP
        rw [if_neg (by have := HX.out.1; omega), ← HQ.out.1, if_pos ⟨hz, hrt⟩]
      rw [h]
      rw [← enc_zero]
      rfl
end Go.Proofs.YtchhdafgmifhdaaGreat.PtrJ
namespace Go.Proofs.YtchhdafgmifhdaaGreat.PtrL
open Go.RowKit Go.Proofs.YtchhdafgmifhdaaGreat.PtrI Go.Proofs.YtchhdafgmifhdaaGreat.PtrJ Go.Proofs.YtchhdafgmifhdaaGreat.Agg Go.Proofs.YtchhdafgmifhdaaGreat.PtrH Go.Proofs.YtchhdafgmifhdaaGreat.B8 Go.Proofs.YtchhdafgmifhdaaGreat.CodL Go.Proofs.YtchhdafgmifhdaaGreat.CodA Go.Proofs.YtchhdafgmifhdaaGreat.CodB Go.Proofs.YtchhdafgmifhdaaGreat.CatL Go.Proofs.YtchhdafgmifhdaaGreat.PtrA Go.Proofs.YtchhdafgmifhdaaGreat.PtrB Go.Proofs.YtchhdafgmifhdaaGreat.PtrE Go.Proofs.YtchhdafgmifhdaaGreat.PtrF Go.Proofs.YtchhdafgmifhdaaGreat.PVerifyForms Go.Proofs.YtchhdafgmifhdaaGreatW.PrintWords Go.Proofs.YtchhdafgmifhdaaGreatW.PrintLast Go.Proofs.YtchhdafgmifhdaaGreatW.PrintMore
set_option linter.unusedVariables false
set_option linter.unusedSimpArgs false

/-- What a pointer, and a fault's number, are told. -/
def TellsP (w : World) (q : Ptr × Int) (e : Ending) (w' : World) : Prop := e = .returned (.tuple #[.agg (encP q.1), .int .i64 q.2]) ∧ Below w.heap.size w w'
theorem read_calls (A : Option Addr) (c n : Nat) (l : List Int) (hnl : n = l.length) (w : World) (hr : C8 w A n l) (hby : Byt l) (hc : n ≤ c) (hm : n ≤ 1000000) :
    Calls Tryz.prog 156 #[.slice A n c] w (TellsP w (readP l)) := by
  by_cases hs : n < 52
  · refine (read_short A c n w hs).mono ?_
    rintro e w1 ⟨rfl, hb⟩
    have h : readP l = (zeroP, 10) := by
      unfold readP
      rw [if_pos (by omega)]
    rw [h]
    exact ⟨rfl, hb⟩
  · exact read_long A c n l hnl w hr hby hc hm (by omega)
end Go.Proofs.YtchhdafgmifhdaaGreat.PtrL
namespace Go.Proofs.YtchhdafgmifhdaaGreat.LeaI
open Go.RowKit Go.Proofs.YtchhdafgmifhdaaGreat.B8 Go.Proofs.YtchhdafgmifhdaaGreat.Agg Go.Proofs.YtchhdafgmifhdaaGreat.CodL Go.Proofs.YtchhdafgmifhdaaGreat.CodA Go.Proofs.YtchhdafgmifhdaaGreat.CodB Go.Proofs.YtchhdafgmifhdaaGreat.CrcL Go.Proofs.YtchhdafgmifhdaaGreat.CrcA Go.Proofs.YtchhdafgmifhdaaGreat.CrcB Go.Proofs.YtchhdafgmifhdaaGreat.PVerifyForms Go.Proofs.YtchhdafgmifhdaaGreatW.PrintWords Go.Proofs.YtchhdafgmifhdaaGreatW.PrintLast Go.Proofs.YtchhdafgmifhdaaGreatW.PrintMore Go.Proofs.YtchhdafgmifhdaaGreat.CatL Go.Proofs.YtchhdafgmifhdaaGreat.PtrA Go.Proofs.YtchhdafgmifhdaaGreat.PtrB Go.Proofs.YtchhdafgmifhdaaGreat.PtrE Go.Proofs.YtchhdafgmifhdaaGreat.OfA Go.Proofs.YtchhdafgmifhdaaGreat.ExtA Go.Proofs.YtchhdafgmifhdaaGreat.KpA Go.Proofs.YtchhdafgmifhdaaGreat.KpB Go.Proofs.YtchhdafgmifhdaaGreat.TxtK Go.Proofs.YtchhdafgmifhdaaGreat.CmpK Go.Proofs.YtchhdafgmifhdaaGreat.LeaA Go.Proofs.YtchhdafgmifhdaaGreat.LeaB Go.Proofs.YtchhdafgmifhdaaGreat.LeaC Go.Proofs.YtchhdafgmifhdaaGreat.LeaD Go.Proofs.YtchhdafgmifhdaaGreat.LeaE Go.Proofs.YtchhdafgmifhdaaGreat.LeaF Go.Proofs.YtchhdafgmifhdaaGreat.DskC Go.Proofs.YtchhdafgmifhdaaGreat.AlcD Go.Proofs.YtchhdafgmifhdaaGreat.PtrG Go.Proofs.YtchhdafgmifhdaaGreat.CodC Go.Proofs.YtchhdafgmifhdaaGreat.LeaG Go.Proofs.YtchhdafgmifhdaaGreat.ShaB Go.Proofs.YtchhdafgmifhdaaGreat.ShaD Go.Proofs.YtchhdafgmifhdaaGreat.BrdK Go.Proofs.YtchhdafgmifhdaaGreat.BlkB Go.Proofs.YtchhdafgmifhdaaGreat.PoolB
set_option linter.unusedVariables false
set_option linter.unusedSimpArgs false
set_option maxRecDepth 100000 in
set_option maxHeartbeats 2000000 in
theorem kid137 (B : World) (g : Nat) (p : Ptr) (l r : List Int) (hp : Ok p ∧ Right p) (hl : l = ptrL p ++ r) (w : World) (h : RD B g l w) :
    Calls Tryz.prog 137 #[.pointer (some ⟨g, 0, none⟩)] w fun e w' => e = .returned (.agg (encP p)) ∧ RD B g r w' ∧ KB w w' (fun b => b = g) := by
  obtain ⟨P, hP⟩ : ∃ P : Ending → World → Prop, P = fun e w' => e = .returned (.agg (encP p)) ∧ RD B g r w' ∧ KB w w' (fun b => b = g) := ⟨_, rfl⟩
  rw [← hP]
  have HP := Aside0.mk hP
  have H := Aside0.mk h
  obtain ⟨A, c, hC, hlc, hgk⟩ := h.blk
  obtain ⟨n, hn⟩ : ∃ n, n = l.length := ⟨_, rfl⟩
  rw [← hn] at hC hlc hgk
  have hgs := Aside0.mk (blk_lt hgk)
  have h52 : (ptrL p).length = 52 := ptrL_len hp.1
  have hn52 : 52 ≤ n := by rw [hn, hl, List.length_append]; omega
  have hr : l.drop 52 = r := by rw [hl, ← h52]; simp
  have hrl : r.length = n - 52 := by rw [← hr, List.length_drop, hn]
  have hrd : readP l = (p, 0) := by rw [hl]; exact CatL.readP_ptrL ⟨hp.1, .inl hp.2⟩ r
  have hcut := cut8_from A n c 52 hn52
  have HD := Aside0.mk (C8_drop hC hlc hn52)
  generalize (if c = 52 then A else A.map (·.add 52)) = A2 at hcut HD
  replace hcut : ∀ W : World, (Instr.slice 36 (.slice A n c) (some (.int .i64 52)) none none).run Tryz.prog W = .ok (.slice A2 (n - 52) (c - 52)) W := hcut
  rw [hr] at HD
  obtain ⟨z, hz, hz1, hal⟩ := zero33
  have HZ := Aside0.mk (And.intro hz hz1)
  obtain ⟨rr, hrr⟩ : ∃ q, q = encP p := ⟨_, rfl⟩
  have HRR := Aside0.mk (And.intro hrr (And.intro (show rr.size = 36 by rw [hrr]; exact encP_size hp.1.len) (show rr.all (·.oneCell') = true by rw [hrr]; exact encP_one _)))
  have HX := Aside0.mk (And.intro hrd (And.intro hn (And.intro hrl (And.intro hC hlc))))
  have HN := Aside0.mk hn52
  have HRB := Aside0.mk (show Byt r by rw [← hr]; exact h.byt.drop _)
  clear h hP hC hn hz hz1 hrr h52 hr hrd hrl hp hl hlc
  have HZ2 := Aside0.mk (blk_new w (.cells z 32))
  have HB1 := Aside0.mk (below_alloc (Below.refl w.heap.size w) (.cells z 32))
  have HGK1 := Aside0.mk (blk_below hgk HB1.out)
  have hc1 : (w.alloc (.cells z 32)).cell? ⟨g, 0, none⟩ = some (.slice A n c) := by rw [cell_of_row _ _ 0 _ 210 (0, 0) HGK1.out]; rfl
  clear hgk
  go_enter Tryz.func137, Tryz.ntmps137
  go_wp2_with fail
  obtain ⟨w1, hw1⟩ : ∃ W, W = w.alloc (.cells z 32) := ⟨_, rfl⟩
  rw [← hw1] at HZ2 HB1 HGK1 hc1 ⊢
  obtain ⟨g2, hg2⟩ : ∃ G, G = w.heap.size := ⟨_, rfl⟩
  rw [← hg2] at HZ2 HB1 ⊢
  have HG2 := Aside0.mk (show w1.heap.size = g2 + 1 by rw [hw1, hg2]; simp)
  have HGW := Aside0.mk hg2
  clear hw1 hg2
  refine (PtrL.read_calls A c n l HX.out.2.1 w1 (Kd.C_below HX.out.2.2.2.1 (below_then H.out.below H.out.below.size (by rw [← HGW.out]; exact HB1.out))) H.out.byt HX.out.2.2.2.2 (by have := H.out.len; have := HX.out.2.1; omega)).mono ?_
  rintro e w2 ⟨rfl, hb2⟩
  rw [HX.out.1, ← HRR.out.1]
  dsimp only
  have HGN := Aside0.mk (show g < g2 ∧ g2 < w2.heap.size ∧ w.heap.size = g2 by
    have h1 := hgs.out; have h2 := HG2.out; have h3 := HGW.out; have h4 := hb2.size
    omega)
  have HB2 := Aside0.mk (show Below w.heap.size w w2 by
    have h1 := HB1.out
    rw [HGW.out] at h1
    exact below_then h1 h1.size hb2)
  have HZ3 := Aside0.mk (blk_new w2 (.cells z 32))
  obtain ⟨W4, hW4⟩ : ∃ W, W = (w2.alloc (.cells z 32)).setRow w2.heap.size rr := ⟨_, rfl⟩
  have H4g := Aside0.mk (show W4.heap[g]? = some (.cells #[.slice A n c, .bool false] 210 (0, 0)) by
    rw [hW4]
    exact (setRow_other _ _ _ _ (by have := HGN.out; omega)).trans (blk_alloc (blk_below HGK1.out hb2) _))
  have H4b := Aside0.mk (show W4.heap[g2]? = some (.cells z 32 (0, 0)) by
    rw [hW4]
    exact (setRow_other _ _ _ _ (by have := HGN.out; omega)).trans (blk_alloc (blk_below HZ2.out hb2) _))
  have H4a := Aside0.mk (show W4.heap[w2.heap.size]? = some (.cells rr 32 (0, 0)) by
    rw [hW4]
    exact setRow_heap _ w2.heap.size z rr 32 _ HZ3.out)
  have HK4 := Aside0.mk (show KB w W4 (fun b => b = g) by
    rw [hW4]
    exact KB_setRow ((KB.of_below HB2.out _).below (below_alloc (Below.refl _ _) _)) (by have := HGN.out; omega) rr)
  have hc4 : W4.cell? ⟨g, 0, none⟩ = some (.slice A n c) := by rw [cell_of_row _ _ 0 _ 210 (0, 0) H4g.out]; rfl
  have hf4 := frozen_of_row W4 g 0 _ 210 H4g.out
  obtain ⟨v5, hv5⟩ : ∃ v, v = Value.slice A2 (n - 52) (c - 52) := ⟨_, rfl⟩
  obtain ⟨W5, hW5⟩ : ∃ W, W = W4.setCell ⟨g, 0, none⟩ v5 := ⟨_, rfl⟩
  have H5b := Aside0.mk (show W5.heap[g2]? = some (.cells z 32 (0, 0)) by
    rw [hW5]
    exact blk_kept H4b.out (KB.setCell W4 ⟨g, 0, none⟩ v5).kept (by have := HGN.out; simp only; omega))
  have H5a := Aside0.mk (show W5.heap[w2.heap.size]? = some (.cells rr 32 (0, 0)) by
    rw [hW5]
    exact blk_kept H4a.out (KB.setCell W4 ⟨g, 0, none⟩ v5).kept (by have := HGN.out; simp only; omega))
  have H5g := Aside0.mk (show W5.heap[g]? = some (.cells #[v5, .bool false] 210 (0, 0)) by
    rw [hW5, heap_setCell_same _ _ _ _ _ _ H4g.out]; simp)
  have HK5 := Aside0.mk (show KB w W5 (fun b => b = g) by
    rw [hW5]
    exact HK4.out.then_ (KB.setCell W4 ⟨g, 0, none⟩ v5) (fun _ h => .inl h))
  have H6 := Aside0.mk (show RD B g r (W5.setRow g2 rr) ∧ KB w (W5.setRow g2 rr) (fun b => b = g) by
    have hk : KB w (W5.setRow g2 rr) (fun b => b = g) := KB_setRow HK5.out (by have := HGN.out; omega) rr
    refine ⟨⟨H.out.below.trans (hk.to_below (fun k hk => by rw [hk]; exact H.out.g) H.out.below.size), ⟨A2, c - 52, ?_, ?_, ?_⟩, H.out.g, ?_, ?_⟩, hk⟩
    · rw [HX.out.2.2.1]; exact HD.out
    · have := HX.out.2.2; omega
    · rw [HX.out.2.2.1, ← hv5]
      exact (setRow_other _ _ _ _ (by have := HGN.out; omega)).trans H5g.out
    · exact HRB.out
    · have := HX.out.2; have := H.out.len; omega)
  have HW4 := Aside0.mk hW4
  have HW5 := Aside0.mk (show W5 = W4.setCell ⟨g, 0, none⟩ (Value.slice A2 (n - 52) (c - 52)) by rw [hW5, hv5])
  clear hb2 hW4 hW5 hv5 hc1
  go_wp2_with (first | (refine wpList_store_row rfl 32 (.tmp 3) (.tmp 11) rfl w2.heap.size rr rfl rfl 32 z HZ3.out (by rw [i33, HRR.out.2.1]) (by rw [HRR.out.2.1, HZ.out.1]) HRR.out.2.2 ?_; rw [← HW4.out]) | (rw [← HW5.out]; refine wpList_load_row rfl 32 (.tmp 3) rfl w2.heap.size rfl 32 rr (0, 0) _ H5a.out underl56 rfl (by rw [i33, HRR.out.2.1]) ?_) | (refine wpList_store_row rfl 32 (.tmp 2) (.tmp 27) rfl g2 rr rfl rfl 32 z H5b.out (by rw [i33, HRR.out.2.1]) (by rw [HRR.out.2.1, HZ.out.1]) HRR.out.2.2 ?_))
  refine bodyPost_ret (CrcC.res_c (p := 2) _ rfl rfl (setRow_heap _ g2 z rr 32 _ H5b.out) Tryz.underlying32 rfl (by rw [i33, HRR.out.2.1])) rfl ?_
  rw [HP.out]
  exact ⟨by rw [HRR.out.1], H6.out.1, H6.out.2⟩
end Go.Proofs.YtchhdafgmifhdaaGreat.LeaI
namespace Go.Proofs.YtchhdafgmifhdaaGreat.LeaJ
open Go.RowKit Go.Proofs.YtchhdafgmifhdaaGreat.B8 Go.Proofs.YtchhdafgmifhdaaGreat.Agg Go.Proofs.YtchhdafgmifhdaaGreat.CodL Go.Proofs.YtchhdafgmifhdaaGreat.CodA Go.Proofs.YtchhdafgmifhdaaGreat.CodB Go.Proofs.YtchhdafgmifhdaaGreat.CrcL Go.Proofs.YtchhdafgmifhdaaGreat.CrcA Go.Proofs.YtchhdafgmifhdaaGreat.CrcB Go.Proofs.YtchhdafgmifhdaaGreat.PVerifyForms Go.Proofs.YtchhdafgmifhdaaGreatW.PrintWords Go.Proofs.YtchhdafgmifhdaaGreatW.PrintLast Go.Proofs.YtchhdafgmifhdaaGreatW.PrintMore Go.Proofs.YtchhdafgmifhdaaGreat.CatL Go.Proofs.YtchhdafgmifhdaaGreat.ExtA Go.Proofs.YtchhdafgmifhdaaGreat.LeaA Go.Proofs.YtchhdafgmifhdaaGreat.LeaG Go.Proofs.YtchhdafgmifhdaaGreat.LeaH
set_option linter.unusedVariables false
set_option linter.unusedSimpArgs false
structure Tri where
  A : Option Addr
  n : Nat
  c : Nat
abbrev Tri.zero : Tri := ⟨none, 0, 0⟩
def encT (t : Tri) : Value := .slice t.A t.n t.c
theorem encT_one (t : Tri) : (encT t).oneCell' = true := rfl
abbrev kT : Kd Tri := Kd.scalar encT encT_one
/-- What lies behind one slice. -/
structure El1 (w : World) (t : Tri) (k : List Int) : Prop where
  bytes : C8 w t.A k.length k
  len : t.n = k.length
  room : k.length ≤ t.c
  five : B5 w t.A
def El (w : World) (ts : List Tri) (ks : List (List Int)) : Prop := ts.length = ks.length ∧ ∀ i, i < ks.length → El1 w (ts.getD i Tri.zero) (ks.getD i [])
/-- All blocks of bytes are kept. -/
def K5 (w w1 : World) : Prop := Kept w w1 (fun k => ∀ cs fz, w.heap[k]? ≠ some (.cells cs 5 fz))
theorem El1.kept {w w1 : World} {t : Tri} {k : List Int} (h : El1 w t k) (hk : K5 w w1) : El1 w1 t k := by
  have hA : ∀ ad, t.A = some ad → ¬ (∀ cs fz, w.heap[ad.block]? ≠ some (.cells cs 5 fz)) := fun ad had hn => by
    obtain ⟨cs, fz, hh⟩ := h.five ad had
    exact hn cs fz hh
  exact ⟨C8_kept h.bytes hk hA, h.len, h.room, LeaH.B5.kept h.five hk hA⟩
theorem El.kept {w w1 : World} {ts : List Tri} {ks : List (List Int)} (h : El w ts ks) (hk : K5 w w1) : El w1 ts ks := ⟨h.1, fun i hi => (h.2 i hi).kept hk⟩
theorem El.nil (w : World) : El w [] [] := ⟨rfl, fun i hi => absurd hi (Nat.not_lt_zero _)⟩
theorem El.snoc {w : World} {ts : List Tri} {ks : List (List Int)} {t : Tri} {k : List Int} (h : El w ts ks) (h1 : El1 w t k) : El w (ts ++ [t]) (ks ++ [k]) := by
  refine ⟨by simp [h.1], fun i hi => ?_⟩
  have hl := h.1
  rw [List.length_append, List.length_singleton] at hi
  by_cases hlt : i < ks.length
  · have := h.2 i hlt
    rwa [List.getD, List.getD, List.getElem?_append_left (by omega), List.getElem?_append_left hlt]
  · obtain rfl : i = ks.length := by omega
    rw [List.getD, List.getD, List.getElem?_append_right (by omega), List.getElem?_append_right (by omega), hl, Nat.sub_self]
    exact h1
theorem C_of_El {w : World} {A : Option Addr} {n : Nat} {ts : List Tri} {ks : List (List Int)} (h : Kd.C kT w A n ts) (he : El w ts ks) : Kd.C kB w A n ks := by
  obtain ⟨h1, h2, h3⟩ := h
  refine ⟨by rw [← he.1]; exact h1, h2, fun hn => ?_⟩
  obtain ⟨ad, e, hc⟩ := h3 hn
  refine ⟨ad, e, fun j k hj => ?_⟩
  obtain ⟨hlt, hk⟩ := List.getElem?_eq_some_iff.1 hj
  have hE := he.2 j hlt
  rw [List.getD, List.getD, hj] at hE
  obtain ⟨t, ht⟩ : ∃ t, ts[j]? = some t := ⟨_, List.getElem?_eq_getElem (by rw [he.1]; exact hlt)⟩
  rw [ht] at hE
  obtain ⟨c, hs, hr, hcell⟩ := hc j t ht
  refine ⟨c, hs, ?_, hcell⟩
  have hr' : c = [encT t] := hr
  refine ⟨t.A, t.c, ?_, hE.room, hE.bytes⟩
  have hl : t.n = k.length := hE.len
  rw [hr', encT, hl]
theorem K5.of_below {w w1 : World} (h : Below w.heap.size w w1) : K5 w w1 := Kept.of_below h _
theorem K5.then_ {w w1 w2 : World} (h : K5 w w1) (k : K5 w1 w2) : K5 w w2 := ⟨Nat.le_trans h.1 k.1, fun i hi hn => by
  have e1 := h.2 i hi hn
  rw [k.2 i (Nat.lt_of_lt_of_le hi h.1) (fun hq => hn (fun cs fz => by rw [← e1]; exact hq cs fz)), e1]⟩
/-- A block that holds no bytes may change. -/
theorem K5.of_kept {w w1 : World} {S : Nat → Prop} (h : Kept w w1 S) (hS : ∀ k, S k → ∀ cs fz, w.heap[k]? ≠ some (.cells cs 5 fz)) : K5 w w1 := h.mono hS
theorem K5.of_one {w w1 : World} {g : Nat} {cs : Array Value} {t : TypeId} {fz : Nat × Nat} (h : Kept w w1 (fun k => k = g)) (hg : w.heap[g]? = some (.cells cs t fz)) (ht : t ≠ 5) : K5 w w1 :=
  K5.of_kept h (fun k hk cs' fz' e => by
    rw [hk, hg] at e
    injection e with e
    injection e with _ e _
    exact ht e)
end Go.Proofs.YtchhdafgmifhdaaGreat.LeaJ
namespace Go.Proofs.YtchhdafgmifhdaaGreat.LeaK
open Go.RowKit Go.Proofs.YtchhdafgmifhdaaGreat.B8 Go.Proofs.YtchhdafgmifhdaaGreat.Agg Go.Proofs.YtchhdafgmifhdaaGreat.CodL Go.Proofs.YtchhdafgmifhdaaGreat.CodA Go.Proofs.YtchhdafgmifhdaaGreat.CodB Go.Proofs.YtchhdafgmifhdaaGreat.CrcL Go.Proofs.YtchhdafgmifhdaaGreat.CrcA Go.Proofs.YtchhdafgmifhdaaGreat.CrcB Go.Proofs.YtchhdafgmifhdaaGreat.PVerifyForms Go.Proofs.YtchhdafgmifhdaaGreatW.PrintWords Go.Proofs.YtchhdafgmifhdaaGreatW.PrintLast Go.Proofs.YtchhdafgmifhdaaGreatW.PrintMore Go.Proofs.YtchhdafgmifhdaaGreat.CatL Go.Proofs.YtchhdafgmifhdaaGreat.ExtA Go.Proofs.YtchhdafgmifhdaaGreat.PtrB Go.Proofs.YtchhdafgmifhdaaGreat.LeaA Go.Proofs.YtchhdafgmifhdaaGreat.LeaB Go.Proofs.YtchhdafgmifhdaaGreat.LeaC Go.Proofs.YtchhdafgmifhdaaGreat.LeaD Go.Proofs.YtchhdafgmifhdaaGreat.LeaF Go.Proofs.YtchhdafgmifhdaaGreat.LeaG Go.Proofs.YtchhdafgmifhdaaGreat.LeaH
set_option linter.unusedVariables false
set_option linter.unusedSimpArgs false
/-- The bytes of k entries from entry j on. -/
def fromL (x : Nd) (j : Nat) : Nat → List Int
  | 0 => []
  | k + 1 => itemL x j ++ fromL x (j + 1) k
def restL (x : Nd) (j : Nat) : List Int := fromL x j (x.keys.length - j)
theorem itemsL_from (x : Nd) : ∀ (k j : Nat), itemsL x (j + k) = itemsL x j ++ fromL x j k
  | 0, j => by simp [fromL]
  | k + 1, j => by
    rw [show j + (k + 1) = (j + 1) + k from by omega, itemsL_from x k (j + 1), fromL, ← List.append_assoc]
    rfl
theorem restL_next {x : Nd} {j : Nat} (h : j < x.keys.length) : restL x j = itemL x j ++ restL x (j + 1) := by
  unfold restL
  rw [show x.keys.length - j = (x.keys.length - (j + 1)) + 1 from by omega, fromL]
theorem restL_end (x : Nd) : restL x x.keys.length = [] := by
  unfold restL
  rw [Nat.sub_self, fromL]
theorem nodeL_rest (x : Nd) : nodeL x = shortL x.lvl ++ (shortL x.keys.length ++ restL x 0) := by
  rw [nodeL, List.append_assoc]
  have := itemsL_from x x.keys.length 0
  rw [Nat.zero_add] at this
  rw [this]
  rfl
theorem itemL_byt {x : Nd} (hx : Shape x) {j : Nat} (hj : j < x.keys.length) : Byt (itemL x j) := by
  have hk := (hx.key (x.keys.getD j []) (by rw [List.getD, List.getElem?_eq_getElem hj]; exact List.getElem_mem _)).2
  have hL := hx.lists
  unfold Lists at hL
  unfold itemL
  refine ((shortL_byt _).append (shB_byt (fun y hy => hk y (List.mem_of_mem_drop hy)))).append ?_
  split
  · rename_i h
    rw [if_pos h] at hL
    exact shB_byt (hx.val _ (by rw [List.getD, List.getElem?_eq_getElem (by omega)]; exact List.getElem_mem _)).2
  · rename_i h
    rw [if_neg h] at hL
    exact ptrL_byt (hx.kid _ (by rw [List.getD, List.getElem?_eq_getElem (by omega)]; exact List.getElem_mem _)).1
theorem itemsL_byt {x : Nd} (hx : Shape x) : ∀ {j : Nat}, j ≤ x.keys.length → Byt (itemsL x j)
  | 0, _ => fun y hy => by cases hy
  | j + 1, h => (itemsL_byt hx (by omega)).append (itemL_byt hx (by omega))
theorem nodeL_byt {x : Nd} (hx : Shape x) : Byt (nodeL x) := ((shortL_byt _).append (shortL_byt _)).append (itemsL_byt hx (Nat.le_refl _))
end Go.Proofs.YtchhdafgmifhdaaGreat.LeaK
namespace Go.Proofs.YtchhdafgmifhdaaGreat.LeaL
open Go.RowKit Go.Proofs.YtchhdafgmifhdaaGreat.B8 Go.Proofs.YtchhdafgmifhdaaGreat.Agg Go.Proofs.YtchhdafgmifhdaaGreat.CodL Go.Proofs.YtchhdafgmifhdaaGreat.CodA Go.Proofs.YtchhdafgmifhdaaGreat.CodB Go.Proofs.YtchhdafgmifhdaaGreat.CrcL Go.Proofs.YtchhdafgmifhdaaGreat.CrcA Go.Proofs.YtchhdafgmifhdaaGreat.CrcB Go.Proofs.YtchhdafgmifhdaaGreat.PVerifyForms Go.Proofs.YtchhdafgmifhdaaGreatW.PrintWords Go.Proofs.YtchhdafgmifhdaaGreatW.PrintLast Go.Proofs.YtchhdafgmifhdaaGreatW.PrintMore Go.Proofs.YtchhdafgmifhdaaGreat.CatL Go.Proofs.YtchhdafgmifhdaaGreat.ExtA Go.Proofs.YtchhdafgmifhdaaGreat.LeaA Go.Proofs.YtchhdafgmifhdaaGreat.LeaG Go.Proofs.YtchhdafgmifhdaaGreat.LeaH Go.Proofs.YtchhdafgmifhdaaGreat.LeaJ
set_option linter.unusedVariables false
set_option linter.unusedSimpArgs false
section
variable {α β : Type} {d1 : Kd α} {e1 : Nat} {d2 : Kd β} {e2 : Nat} {w w1 : World} {base : Nat} {v1 v2 : Value} {xs : List α} {ys : List β}
end
/-- A row that grew holds no bytes: bytes are kept. -/
theorem K5.grown {α : Type} {d : Kd α} {e : Nat} {w w1 : World} {base : Nat} {ok : Nat → Prop} {v : Value} {xs : List α} (h : d.R e w base ok v xs) (hg : w.grownBy w1 v.ownBlock) (hE : 5 ∉ e :: d.E) : K5 w w1 :=
  ⟨hg.size, fun i hi hn => hg.block i hi (fun ho => by
    obtain ⟨_, _, _, q, hq, cells, hh⟩ := (Kd.R_bound h).1 i ho.symm
    refine hn (fun cs fz e => ?_)
    rw [hh] at e
    injection e with e
    injection e with _ e _
    exact hE (e ▸ hq))⟩
end Go.Proofs.YtchhdafgmifhdaaGreat.LeaL
namespace Go.Proofs.YtchhdafgmifhdaaGreat.RegK
open Go
section
variable {P : Program} {ops : Array Oper} {Q : Exit → Act → World → Prop} {md : Region.Mode} {S : World → Prop} {k : Nat}
def wpAnyK (P : Program) (md : Region.Mode) (ops : Array Oper) (Q : Exit → Act → World → Prop) (S : World → Prop) (k : Nat) : Nat → Array Bool → Act → World → Prop
  | 0, listed, a, w => Region.ready md ops listed = [] ∧ Q .normal a w
  | fuel + 1, listed, a, w =>
    (Region.ready md ops listed = [] → Q .normal a w) ∧
    ∀ i ∈ Region.ready md ops listed, wpOp P ops Q i (fun a' w' => ((listed.setIfInBounds i true).getD k true = false → S w') ∧ wpAnyK P md ops Q S k fuel (listed.setIfInBounds i true) a' w') a w
theorem wpAny_of_K : ∀ (fuel : Nat) (listed : Array Bool) (a : Act) (w : World), wpAnyK P md ops Q S k fuel listed a w → wpAny P md ops Q fuel listed a w
  | 0, _, _, _, h => h
  | fuel + 1, _, _, _, h => ⟨h.1, fun i hi => wpOp_mono (fun a' w' h' => wpAny_of_K fuel _ a' w' h'.2) (h.2 i hi)⟩
/-- The common part of both takes. G: the worlds that are met as long as operation i has not come up. -/
theorem wpAnyK_first {G : World → Prop} {i : Nat} {oi : Oper} {v : Value} (hi : ops[i]? = some oi) (hsel : ∀ (j : Nat) (o : Oper) cs b, ops[j]? = some o → o.op ≠ .select cs b)
    (hQ : ∀ c a w, Q (.panic c) (a.put oi.dst v) w → Q (.panic c) a w) (hik : i ≠ k)
    (hG : (∀ w, G w) ∨ ((∀ w, S w → G w) ∧ ∃ ok, ops[k]? = some ok ∧ ∃ e ∈ ok.after, Region.binds md e = true ∧ e.on = i)) :
    ∀ (fuel : Nat) (listed : Array Bool) (a : Act) (w : World),
      (∀ j oj, ops[j]? = some oj → j ≠ i → listed.getD j true = false → (∀ e ∈ oj.after, Region.binds md e = true → e.on ≠ i) → oi.apart ops oj = true) →
      i ∈ Region.ready md ops listed → YieldsIf P ops G oi v a → (listed.getD k true = false → S w) → ((∀ w, G w) ∨ listed.getD k true = false) →
      wpAnyK P md ops Q S k fuel (listed.setIfInBounds i true) (a.put oi.dst v) w → wpAnyK P md ops Q S k (fuel + 1) listed a w := by
  intro fuel
  have gw : ∀ {listed : Array Bool} {w : World}, (listed.getD k true = false → S w) → ((∀ w, G w) ∨ listed.getD k true = false) → G w := by
    intro listed w hS hlk
    rcases hG with hG | hG
    · exact hG w
    · rcases hlk with h | h
      · exact h w
      · exact hG.1 w (hS h)
  have same : ∀ {listed : Array Bool} {w : World}, (listed.getD k true = false → S w) → ((listed.setIfInBounds i true).getD k true = false → S w) := by
    intro listed w hS h
    rw [getD_set_ne true hik] at h
    exact hS h
  induction fuel with
  | zero =>
    intro listed a w _ hr hy hS hlk H
    refine ⟨fun h => (by rw [h] at hr; cases hr), fun j hj => ?_⟩
    by_cases hji : j = i
    · subst hji; exact hy.wpOp hi (gw hS hlk) ⟨same hS, H⟩
    · have := ready_mono hj hji
      rw [H.1] at this
      cases this
  | succ fuel ih =>
    intro listed a w hfree hr hy hS hlk H
    refine ⟨fun h => (by rw [h] at hr; cases hr), fun j hj => ?_⟩
    by_cases hji : j = i
    · subst hji; exact hy.wpOp hi (gw hS hlk) ⟨same hS, H⟩
    · have h1 := H.2 j (ready_mono hj hji)
      obtain ⟨hjun, oj, hoj, hall⟩ := mem_ready.1 hj
      have hnot : ∀ e ∈ oj.after, Region.binds md e = true → e.on ≠ i := fun e he hb heq => by
        have h1 := hall e he hb
        have h0 := (mem_ready.1 hr).1
        rw [heq] at h1
        rcases Nat.lt_or_ge i listed.size with h' | h'
        · simp [h'] at h0 h1; rw [h0] at h1; cases h1
        · simp [Array.getElem?_eq_none h'] at h1
      have h2 := wpOp_putIf hoj (hfree j oj hoj hji hjun hnot) (fun cs b => hsel i oi cs b hi) (fun cs b => hsel j oj cs b hoj) hQ hy h1
      have hfree' : ∀ k ok, ops[k]? = some ok → k ≠ i → (listed.setIfInBounds j true).getD k true = false →
          (∀ e ∈ ok.after, Region.binds md e = true → e.on ≠ i) → oi.apart ops ok = true := fun k ok hk hki hun hno => by
        refine hfree k ok hk hki ?_ hno
        by_cases hjk : j = k
        · subst hjk; exact hjun
        · rw [getD_set_ne true hjk] at hun; exact hun
      have hlk' : (∀ w, G w) ∨ (listed.setIfInBounds j true).getD k true = false := by
        rcases hG with hG | ⟨_, ok, hok, e, he, hb, hei⟩
        · exact .inl hG
        · rcases hlk with h | h
          · exact .inl h
          · refine .inr ?_
            have hjk : j ≠ k := by
              rintro rfl
              rw [hok] at hoj
              injection hoj with hoj
              subst hoj
              exact hnot e he hb hei
            rw [getD_set_ne true hjk]
            exact h
      refine wpOp_mono (fun a' w' h3 => ⟨fun h => ?_, ih (listed.setIfInBounds j true) a' w' hfree' (ready_mono hr (Ne.symm hji)) h3.1 (fun h => ?_) hlk' ?_⟩) h2
      · refine h3.2.1 ?_
        rw [Array.setIfInBounds_comm _ _ (Ne.symm hji), getD_set_ne true hik]
        exact h
      · refine h3.2.1 ?_
        rw [Array.setIfInBounds_comm _ _ (Ne.symm hji), getD_set_ne true hik]
        exact h
      · rw [Array.setIfInBounds_comm _ _ hji]
        exact h3.2.2
/-- The gate waits for operation i. -/
def gated (md : Region.Mode) (ops : Array Oper) (i k : Nat) : Bool := i != k && match ops[k]? with
  | some ok => ok.after.any (fun e => Region.binds md e && e.on == i)
  | none => false
/-- Take number i first, under S: the gate has not come up, and waits for it. -/
theorem wpAnyK_take {i : Nat} {oi : Oper} {v : Value} {fuel : Nat} {listed : Array Bool} {a : Act} {w : World} (hi : ops[i]? = some oi)
    (hs : Region.noSelect ops = true) (hf : Region.free md ops listed i = true) (hr : (Region.ready md ops listed).contains i = true) (hg : gated md ops i k = true) (hl : listed.getD k true = false)
    (hQ : ∀ c a w, Q (.panic c) (a.put oi.dst v) w → Q (.panic c) a w) (hy : YieldsIf P ops S oi v a) (hS : S w)
    (h : wpAnyK P md ops Q S k fuel (listed.setIfInBounds i true) (a.put oi.dst v) w) : wpAnyK P md ops Q S k (fuel + 1) listed a w := by
  unfold gated at hg
  rw [Bool.and_eq_true] at hg
  obtain ⟨h1, h2⟩ := hg
  have hik : i ≠ k := by simpa using h1
  cases hk : ops[k]? with
  | none => rw [hk] at h2; cases h2
  | some ok =>
    rw [hk] at h2
    simp only [Array.any_eq_true] at h2
    obtain ⟨m, hm, he⟩ := h2
    rw [Bool.and_eq_true] at he
    exact wpAnyK_first (G := S) hi (Region.noSelect_spec hs) hQ hik (.inr ⟨fun _ h => h, ok, hk, ok.after[m], Array.getElem_mem hm, he.1, by simpa using he.2⟩) fuel listed a w (Region.free_spec hi hf) (by simpa using hr) hy (fun _ => hS) (.inr hl) h
def AllReadyK (P : Program) (md : Region.Mode) (ops : Array Oper) (Q : Exit → Act → World → Prop) (S : World → Prop) (k : Nat) (fuel : Nat) (listed : Array Bool) (a : Act) (w : World) (rs : List Nat) : Prop :=
  ∀ i ∈ rs, wpOp P ops Q i (fun a' w' => ((listed.setIfInBounds i true).getD k true = false → S w') ∧ wpAnyK P md ops Q S k fuel (listed.setIfInBounds i true) a' w') a w
theorem AllReadyK.nil {fuel : Nat} {listed : Array Bool} {a : Act} {w : World} : AllReadyK P md ops Q S k fuel listed a w [] := fun _ h => by cases h
/-- A step ahead of the gate: S is shown of the world behind it. -/
theorem AllReadyK.early {fuel : Nat} {listed : Array Bool} {a : Act} {w : World} {i : Nat} {o : Oper} {rs : List Nat} (ho : ops[i]? = some o)
    (h : ∀ K' : Act → World → Prop, Shut (∀ a w, S w → (S w → wpAnyK P md ops Q S k fuel (listed.setIfInBounds i true) a w) → K' a w) → if Region.wanted o (yielded ops a.tmps) = true then Oper.wp P o a w K' Q else K' (a.put o.dst undef) w)
    (hs : AllReadyK P md ops Q S k fuel listed a w rs) : AllReadyK P md ops Q S k fuel listed a w (i :: rs) := fun j hj => by
  rcases List.mem_cons.1 hj with rfl | hj
  · exact wpOp_step ho (fun K' hK => h K' (fun a w hS hW => hK a w ⟨fun _ => hS, hW hS⟩))
  · exact hs j hj
/-- The gate, or a step behind it. -/
theorem AllReadyK.late {fuel : Nat} {listed : Array Bool} {a : Act} {w : World} {i : Nat} {o : Oper} {rs : List Nat} (ho : ops[i]? = some o) (hl : (listed.setIfInBounds i true).getD k true = true)
    (h : ∀ K' : Act → World → Prop, Shut (∀ a w, wpAnyK P md ops Q S k fuel (listed.setIfInBounds i true) a w → K' a w) → if Region.wanted o (yielded ops a.tmps) = true then Oper.wp P o a w K' Q else K' (a.put o.dst undef) w)
    (hs : AllReadyK P md ops Q S k fuel listed a w rs) : AllReadyK P md ops Q S k fuel listed a w (i :: rs) := fun j hj => by
  rcases List.mem_cons.1 hj with rfl | hj
  · exact wpOp_step ho (fun K' hK => h K' (fun a w hW => hK a w ⟨(fun h => by rw [hl] at h; cases h), hW⟩))
  · exact hs j hj
theorem wpAnyK_ready {rs : List Nat} {fuel : Nat} {listed : Array Bool} {a : Act} {w : World} (hr : Region.ready md ops listed = rs) (hne : rs ≠ [])
    (h : AllReadyK P md ops Q S k fuel listed a w rs) : wpAnyK P md ops Q S k (fuel + 1) listed a w := ⟨fun h0 => absurd (hr ▸ h0) hne, hr ▸ h⟩
theorem wpAnyK_done {listed : Array Bool} {a : Act} {w : World} (hr : Region.ready md ops listed = []) (h : Q .normal a w) :
    ∀ fuel, wpAnyK P md ops Q S k fuel listed a w
  | 0 => ⟨hr, h⟩
  | _ + 1 => ⟨fun _ => h, by rw [hr]; simp⟩
theorem wp_region_K {id : Nat} {a : Act} {w : World} (hm : P.follows .mixedOrders = true) (hS : S w.drew)
    (h : S w.drew → wpAnyK P .any ops Q S k ops.size (Array.replicate ops.size false) a w.drew) : (Code.region id ops true).wp P Q a w :=
  wp_region_any hm (wpAny_of_K _ _ _ _ (h hS))
end
end Go.Proofs.YtchhdafgmifhdaaGreat.RegK
namespace Go.Proofs.YtchhdafgmifhdaaGreat.LeaN
open Go.RowKit Go.Proofs.YtchhdafgmifhdaaGreat.B8 Go.Proofs.YtchhdafgmifhdaaGreat.Agg Go.Proofs.YtchhdafgmifhdaaGreat.CodL Go.Proofs.YtchhdafgmifhdaaGreat.CodA Go.Proofs.YtchhdafgmifhdaaGreat.CodB Go.Proofs.YtchhdafgmifhdaaGreat.CrcL Go.Proofs.YtchhdafgmifhdaaGreat.CrcA Go.Proofs.YtchhdafgmifhdaaGreat.CrcB Go.Proofs.YtchhdafgmifhdaaGreat.PVerifyForms Go.Proofs.YtchhdafgmifhdaaGreatW.PrintWords Go.Proofs.YtchhdafgmifhdaaGreatW.PrintLast Go.Proofs.YtchhdafgmifhdaaGreatW.PrintMore Go.Proofs.YtchhdafgmifhdaaGreat.CatL Go.Proofs.YtchhdafgmifhdaaGreat.ExtA Go.Proofs.YtchhdafgmifhdaaGreat.LeaA Go.Proofs.YtchhdafgmifhdaaGreat.LeaG Go.Proofs.YtchhdafgmifhdaaGreat.LeaH Go.Proofs.YtchhdafgmifhdaaGreat.LeaJ Go.Proofs.YtchhdafgmifhdaaGreat.LeaL Go.Proofs.YtchhdafgmifhdaaGreat.PtrB Go.Proofs.YtchhdafgmifhdaaGreat.PtrE Go.Proofs.YtchhdafgmifhdaaGreat.KpA Go.Proofs.YtchhdafgmifhdaaGreat.OfA
set_option linter.unusedVariables false
set_option linter.unusedSimpArgs false
theorem info36 : (Tryz.prog.info? 36).map (fun i => (i.zero, i.size, i.bytes)) = some (some (.slice none 0 0), 1, 24) := by kernel_rfl
section
variable {ops : Array Oper} {o : Oper} {rest : List Oper} {a : Act} {Q : Exit → Act → World → Prop}
/-- append(keys, key) -/
theorem appT {w0 W : World} (base : Nat) (hgd : o.guard = none) (s x : Operand)
    (ho : o.op = .call { callee := .builtin .append, args := #[s, x], argTypes := #[37, 37] })
    (v v2 : Value) (ts : List Tri) (t : Tri) (hs : a.eval s = v) (hx : a.eval x = .slice (some ⟨W.heap.size, 0, none⟩) 1 1)
    (HO : kT.R 36 W base (fun k => some k ≠ v2.ownBlock) v ts) (hv2 : ∀ k, v2.ownBlock = some k → k < W.heap.size) (HB : Below base w0 W) (hbase : base ≤ W.heap.size) (hl : ts.length ≤ 100000)
    (h : ∀ v1 w1, kT.R 36 w1 base (fun k => some k ≠ v2.ownBlock) v1 (ts ++ [t]) → Below base w0 w1 → W.grownBy w1 v.ownBlock → (v1.ownBlock = v.ownBlock ∨ ∃ b, v1.ownBlock = some b ∧ W.heap.size ≤ b) → wpList Tryz.prog ops Q rest (a.put o.dst v1) w1) :
    wpList Tryz.prog ops Q (o :: rest) a (W.alloc (.cells #[.slice t.A t.n t.c] 36)) :=
  Kd.R_append kT (w0 := w0) base hgd s x 37 36 (.slice none 0 0) 24 ho Tryz.underlying37 info36 rfl (by decide) (by omega) v ts t [encT t] (fun k => some k ≠ v2.ownBlock) (fun _ => False) hs hx rfl (fun _ hk => hk.elim)
    (fun k hk e => by have := hv2 k e.symm; omega) HO HB hbase (by omega) h
variable {K : Act → World → Prop}
/-- append(keys, key), of a region that draws its order -/
theorem wp_appT {w0 W W' : World} (base : Nat) (ok : Nat → Prop) (s x : Operand)
    (ho : o.op = .call { callee := .builtin .append, args := #[s, x], argTypes := #[37, 37] })
    (v : Value) (ts : List Tri) (t : Tri) (hs : a.eval s = v) (hx : a.eval x = .slice (some ⟨W.heap.size, 0, none⟩) 1 1) (hW : W' = W.alloc (.cells #[.slice t.A t.n t.c] 36))
    (HO : kT.R 36 W base ok v ts) (hfr : ∀ k, W.heap.size ≤ k → ok k) (HB : Below base w0 W) (hbase : base ≤ W.heap.size) (hl : ts.length ≤ 100000)
    (h : ∀ v1 w1, kT.R 36 w1 base ok v1 (ts ++ [t]) → Below base w0 w1 → W.grownBy w1 v.ownBlock → (v1.ownBlock = v.ownBlock ∨ ∃ b, v1.ownBlock = some b ∧ W.heap.size ≤ b) → K (a.put o.dst v1) w1) :
    o.wp Tryz.prog a W' K Q := by
  subst hW
  have hop : ({ o with guard := none } : Oper).op = .call { callee := .builtin .append, args := #[s, x], argTypes := #[37, 37] } := ho
  have := Kd.R_append_step (P := Tryz.prog) (ops := #[]) (o := { o with guard := none }) (a := a) (Q := Q) (Kc := K) kT (w0 := w0) base rfl s x 37 36 (.slice none 0 0) 24 hop Tryz.underlying37 info36 rfl (by decide) (by decide) v ts t [encT t] ok (fun _ => False) hs hx rfl (fun _ hk => hk.elim) hfr HO HB hbase (by omega) h
  have hw : Region.wanted { o with guard := none } (yielded #[] a.tmps) = true := rfl
  rw [if_pos hw] at this
  exact this
/-- append(kids, p), of a region that draws its order -/
theorem wp_appP {w0 W W' : World} (base : Nat) (ok : Nat → Prop) (s x : Operand) (ho : o.op = .call { callee := .builtin .append, args := #[s, x], argTypes := #[26, 26] })
    (v : Value) (xs : List Ptr) (p : Ptr) (hk : Ok p) (hs : a.eval s = v) (hx : a.eval x = .slice (some ⟨W.heap.size, 0, none⟩) 1 1) (hW : W' = W.alloc (.cells (encP p) 32))
    (HO : Kd.R kP 32 W base ok v xs) (hfr : ∀ k, W.heap.size ≤ k → ok k) (HB : Below base w0 W) (hbase : base ≤ W.heap.size) (hl : xs.length ≤ 100000)
    (h : ∀ v1 w1, Kd.R kP 32 w1 base ok v1 (xs ++ [p]) → Below base w0 w1 → W.grownBy w1 v.ownBlock → (v1.ownBlock = v.ownBlock ∨ ∃ b, v1.ownBlock = some b ∧ W.heap.size ≤ b) → K (a.put o.dst v1) w1) :
    o.wp Tryz.prog a W' K Q := by
  subst hW
  have hop : ({ o with guard := none } : Oper).op = .call { callee := .builtin .append, args := #[s, x], argTypes := #[26, 26] } := ho
  have := Kd.R_append_step (P := Tryz.prog) (ops := #[]) (o := { o with guard := none }) (a := a) (Q := Q) (Kc := K) kP (w0 := w0) base rfl s x 26 32 (.agg Z33) 64 hop Tryz.underlying26 info33 rfl (by decide) (by decide) v xs p (encP p).toList ok (fun _ => False) hs hx ⟨rfl, hk⟩ (fun _ h => h.elim) hfr HO HB hbase (by omega) h
  have hw : Region.wanted { o with guard := none } (yielded #[] a.tmps) = true := rfl
  rw [if_pos hw] at this
  simp only [Array.toArray_toList] at this
  exact this
end
end Go.Proofs.YtchhdafgmifhdaaGreat.LeaN
namespace Go.Proofs.YtchhdafgmifhdaaGreat.LeaO
open Go.RowKit Go.Proofs.YtchhdafgmifhdaaGreat.B8 Go.Proofs.YtchhdafgmifhdaaGreat.Agg Go.Proofs.YtchhdafgmifhdaaGreat.CodL Go.Proofs.YtchhdafgmifhdaaGreat.CodA Go.Proofs.YtchhdafgmifhdaaGreat.CodB Go.Proofs.YtchhdafgmifhdaaGreat.CrcL Go.Proofs.YtchhdafgmifhdaaGreat.CrcA Go.Proofs.YtchhdafgmifhdaaGreat.CrcB Go.Proofs.YtchhdafgmifhdaaGreat.PVerifyForms Go.Proofs.YtchhdafgmifhdaaGreatW.PrintWords Go.Proofs.YtchhdafgmifhdaaGreatW.PrintLast Go.Proofs.YtchhdafgmifhdaaGreatW.PrintMore Go.Proofs.YtchhdafgmifhdaaGreat.CatL Go.Proofs.YtchhdafgmifhdaaGreat.ExtA Go.Proofs.YtchhdafgmifhdaaGreat.LeaA Go.Proofs.YtchhdafgmifhdaaGreat.LeaG Go.Proofs.YtchhdafgmifhdaaGreat.LeaH Go.Proofs.YtchhdafgmifhdaaGreat.LeaJ Go.Proofs.YtchhdafgmifhdaaGreat.LeaL Go.Proofs.YtchhdafgmifhdaaGreat.DskC Go.Proofs.YtchhdafgmifhdaaGreat.AlcD
set_option linter.unusedVariables false
set_option linter.unusedSimpArgs false
structure Three {α β γ : Type} (d1 : Kd α) (e1 : Nat) (d2 : Kd β) (e2 : Nat) (d3 : Kd γ) (e3 : Nat) (w : World) (base : Nat) (v1 v2 v3 : Value) (xs : List α) (ys : List β) (zs : List γ) : Prop where
  r1 : d1.R e1 w base (fun k => some k ≠ v2.ownBlock ∧ some k ≠ v3.ownBlock) v1 xs
  r2 : d2.R e2 w base (fun k => some k ≠ v3.ownBlock ∧ some k ≠ v1.ownBlock) v2 ys
  r3 : d3.R e3 w base (fun k => some k ≠ v1.ownBlock ∧ some k ≠ v2.ownBlock) v3 zs
section
variable {α β γ : Type} {d1 : Kd α} {e1 : Nat} {d2 : Kd β} {e2 : Nat} {d3 : Kd γ} {e3 : Nat} {w w1 : World} {base : Nat} {v1 v2 v3 : Value} {xs : List α} {ys : List β} {zs : List γ}
theorem Three.turn (h : Three d1 e1 d2 e2 d3 e3 w base v1 v2 v3 xs ys zs) : Three d2 e2 d3 e3 d1 e1 w base v2 v3 v1 ys zs xs := ⟨h.r2, h.r3, h.r1⟩
theorem Three.below (h : Three d1 e1 d2 e2 d3 e3 w base v1 v2 v3 xs ys zs) (hb : Below w.heap.size w w1) : Three d1 e1 d2 e2 d3 e3 w1 base v1 v2 v3 xs ys zs := ⟨Kd.R_below h.r1 hb, Kd.R_below h.r2 hb, Kd.R_below h.r3 hb⟩
theorem Three.kept {S : Nat → Prop} (h : Three d1 e1 d2 e2 d3 e3 w base v1 v2 v3 xs ys zs) (hk : Kept w w1 S) (hS : ∀ k, S k → k < base) : Three d1 e1 d2 e2 d3 e3 w1 base v1 v2 v3 xs ys zs :=
  ⟨Kd.R_mono (Kd.R_kept (Kd.R_bound h.r1) hk (fun k hk hs => by have := hS k hs; have := hk.2.1; omega)) (fun k hk => hk.1),
   Kd.R_mono (Kd.R_kept (Kd.R_bound h.r2) hk (fun k hk hs => by have := hS k hs; have := hk.2.1; omega)) (fun k hk => hk.1),
   Kd.R_mono (Kd.R_kept (Kd.R_bound h.r3) hk (fun k hk hs => by have := hS k hs; have := hk.2.1; omega)) (fun k hk => hk.1)⟩
/-- The first row grew. -/
theorem Three.grown {v1' : Value} {xs' : List α} (h : Three d1 e1 d2 e2 d3 e3 w base v1 v2 v3 xs ys zs) (hr : d1.R e1 w1 base (fun k => some k ≠ v2.ownBlock ∧ some k ≠ v3.ownBlock) v1' xs') (hg : w.grownBy w1 v1.ownBlock)
    (ho : v1'.ownBlock = v1.ownBlock ∨ ∃ b, v1'.ownBlock = some b ∧ w.heap.size ≤ b) : Three d1 e1 d2 e2 d3 e3 w1 base v1' v2 v3 xs' ys zs := by
  have own : ∀ k, some k ≠ v1.ownBlock → k < w.heap.size → some k ≠ v1'.ownBlock := fun k hk hl => by
    rcases ho with ho | ⟨b, ho, hlb⟩
    · rw [ho]; exact hk
    · rw [ho]
      intro e
      injection e with e
      omega
  have h2 := Kd.R_step (Kd.R_bound h.r2) (w1 := w1) (fun k hk hlt => hg.block k hlt (fun e => hk.1.2 e))
  have h3 := Kd.R_step (Kd.R_bound h.r3) (w1 := w1) (fun k hk hlt => hg.block k hlt (fun e => hk.1.1 e))
  exact ⟨hr, Kd.R_mono h2 (fun k hk => ⟨hk.1.1, own k hk.1.2 hk.2.2.1⟩), Kd.R_mono h3 (fun k hk => ⟨own k hk.1.1 hk.2.2.1, hk.1.2⟩)⟩
theorem Three.nil : Three d1 e1 d2 e2 d3 e3 w base (.slice none 0 0) (.slice none 0 0) (.slice none 0 0) [] [] [] := ⟨Kd.R_nil _ _ _ _ _, Kd.R_nil _ _ _ _ _, Kd.R_nil _ _ _ _ _⟩
theorem Three.fresh (h : Three d1 e1 d2 e2 d3 e3 w base v1 v2 v3 xs ys zs) : ∀ k, w.heap.size ≤ k → some k ≠ v2.ownBlock ∧ some k ≠ v3.ownBlock := fun k hk =>
  ⟨fun e => by have := ((Kd.R_bound h.r2).1 k e.symm).2.2.1; omega, fun e => by have := ((Kd.R_bound h.r3).1 k e.symm).2.2.1; omega⟩
end
theorem RD.step {B W W1 : World} {g N : Nat} {l : List Int} (h : RD B g l W) (hb : Below N W W1) (hN : B.heap.size ≤ N) (hg : W1.heap[g]? = W.heap[g]?) : RD B g l W1 := by
  obtain ⟨A, c, h1, h2, h3⟩ := h.blk
  exact ⟨h.below.trans (hb.mono hN), ⟨A, c, h1, h2, hg.trans h3⟩, h.g, h.byt, h.len⟩
/-- The reader, the node, the result. -/
structure LS (w : World) (gr gn : Nat) (l : List Int) (cs : Array Value) (W : World) : Prop where
  rd : RD w gr l W
  nd : W.heap[gn]? = some (.cells cs 39 (0, 0))
  rs : W.heap[w.heap.size]? = some (.cells #[.int .i64 0, .slice none 0 0, .slice none 0 0, .slice none 0 0] 39 (0, 0))
  sz : gn + 1 ≤ W.heap.size
/-- The reader read on. -/
theorem LS.read {w W W1 : World} {gr gn : Nat} {l l1 : List Int} {cs : Array Value} (h : LS w gr gn l cs W) (hg : gn = gr + 1) (hw : gr = w.heap.size + 1) (hr : RD w gr l1 W1) (hk : KB W W1 (fun b => b = gr)) : LS w gr gn l1 cs W1 :=
  ⟨hr, blk_kept h.nd hk.kept (by omega), blk_kept h.rs hk.kept (by omega), Nat.le_trans h.sz hk.kept.1⟩
theorem LS.below {w W W1 : World} {gr gn : Nat} {l : List Int} {cs : Array Value} (h : LS w gr gn l cs W) (hb : Below W.heap.size W W1) : LS w gr gn l cs W1 :=
  ⟨h.rd.keep hb, blk_below h.nd hb, blk_below h.rs hb, Nat.le_trans h.sz hb.size⟩
theorem C8_K5 {w w1 : World} {A : Option Addr} {n : Nat} {l : List Int} (h : C8 w A n l) (h5 : B5 w A) (hk : K5 w w1) : C8 w1 A n l :=
  C8_kept h hk (fun ad had hn => by obtain ⟨cs, fz, hh⟩ := h5 ad had; exact hn cs fz hh)
theorem B5_K5 {w w1 : World} {A : Option Addr} (h5 : B5 w A) (hk : K5 w w1) : B5 w1 A :=
  LeaH.B5.kept h5 hk (fun ad had hn => by obtain ⟨cs, fz, hh⟩ := h5 ad had; exact hn cs fz hh)
theorem take_succ_getD {α : Type} {d : α} {l : List α} {j : Nat} (h : j < l.length) : l.take (j + 1) = l.take j ++ [l.getD j d] := by
  rw [List.take_succ_eq_append_getElem h]
  simp [List.getD, h]
section
variable {α β γ : Type} {d1 : Kd α} {e1 : Nat} {d2 : Kd β} {e2 : Nat} {d3 : Kd γ} {e3 : Nat} {w W W1 : World} {v1 v2 v3 v1' : Value} {xs xs' : List α} {ys : List β} {zs : List γ} {gr gn : Nat} {l : List Int} {cs : Array Value}
/-- The first row grew, and is stored into the node. -/
theorem LS.grown (h : LS w gr gn l cs W) (hgn : gn = gr + 1) (hgr : gr = w.heap.size + 1) (ht : Three d1 e1 d2 e2 d3 e3 W (gn + 1) v1 v2 v3 xs ys zs) (hE : 5 ∉ e1 :: d1.E)
    (hr : d1.R e1 W1 (gn + 1) (fun k => some k ≠ v2.ownBlock ∧ some k ≠ v3.ownBlock) v1' xs') (hb : Below (gn + 1) W W1) (hg : W.grownBy W1 v1.ownBlock) (ho : v1'.ownBlock = v1.ownBlock ∨ ∃ b, v1'.ownBlock = some b ∧ W.heap.size ≤ b) (f : Nat) :
    LS w gr gn l (cs.setIfInBounds f v1') (W1.setCell ⟨gn, f, none⟩ v1') ∧ Three d1 e1 d2 e2 d3 e3 (W1.setCell ⟨gn, f, none⟩ v1') (gn + 1) v1' v2 v3 xs' ys zs ∧ K5 W (W1.setCell ⟨gn, f, none⟩ v1') := by
  have nd1 : W1.heap[gn]? = some (.cells cs 39 (0, 0)) := (hb.block gn (Nat.lt_succ_self _)).trans h.nd
  have rs1 := (hb.block w.heap.size (by omega)).trans h.rs
  have hk := (KB.setCell W1 ⟨gn, f, none⟩ v1').kept
  have rd1 := RD.step h.rd hb (by omega) (hb.block gr (by omega))
  refine ⟨⟨?_, ?_, ?_, ?_⟩, (ht.grown hr hg ho).kept hk (fun k hk => by have : k = gn := hk; omega), ?_⟩
  · exact RD.step rd1 (Below.setCell (Below.refl w.heap.size W1) (by show w.heap.size ≤ gn; omega) v1') (Nat.le_refl _) (Below.heap_setCell W1 ⟨gn, f, none⟩ v1' gr (by show gr ≠ gn; omega))
  · exact heap_setCell_same _ _ _ _ _ _ nd1
  · exact (Below.heap_setCell W1 ⟨gn, f, none⟩ v1' w.heap.size (by show w.heap.size ≠ gn; omega)).trans rs1
  · exact Nat.le_trans h.sz (Nat.le_trans hg.size hk.1)
  · exact (K5.grown ht.r1 hg hE).then_ (K5.of_one hk nd1 (by decide))
end
/-- What lasts: blocks ahead of B that hold no bytes may change. -/
def Lasts (w : World) (B : Nat) (Q : World → Prop) : Prop := ∀ W', Kept w W' (fun k => k < B ∧ ∀ cs fz, w.heap[k]? ≠ some (.cells cs 5 fz)) → Q W'
section
variable {w W : World} {B B' : Nat} {Q Q2 : World → Prop}
theorem Lasts.now (h : Lasts w B Q) : Q w := h w (Kept.refl _ _)
theorem Lasts.kept {S : Nat → Prop} (h : Lasts w B Q) (hk : Kept w W S) (hS : ∀ k, k < w.heap.size → S k → k < B ∧ ∀ cs fz, w.heap[k]? ≠ some (.cells cs 5 fz)) : Lasts W B Q := fun W' hK => by
  refine h W' ⟨Nat.le_trans hk.1 hK.1, fun i hi hn => ?_⟩
  have hs : ¬ S i := fun hs => hn (hS i hi hs)
  rw [hK.2 i (Nat.lt_of_lt_of_le hi hk.1) (fun h2 => hn ⟨h2.1, fun cs fz e => h2.2 cs fz ((hk.2 i hi hs).trans e)⟩)]
  exact hk.2 i hi hs
theorem Lasts.below (h : Lasts w B Q) (hb : Below w.heap.size w W) : Lasts W B Q := h.kept (Kept.of_below hb (fun _ => False)) (fun _ _ hs => hs.elim)
theorem Lasts.lower (h : Lasts w B Q) (hb : B' ≤ B) : Lasts w B' Q := fun W' hK => h W' (hK.mono (fun k hk => ⟨by omega, hk.2⟩))
/-- A block of another type is stored into. -/
theorem Lasts.row (h : Lasts w B Q) {g : Nat} (hg : g < B) {c0 : Array Value} {t : TypeId} {fz : Nat × Nat} (hh : w.heap[g]? = some (.cells c0 t fz)) (ht : t ≠ 5) (cs : Array Value) : Lasts (w.setRow g cs) B Q :=
  h.kept (S := fun k => k = g) ⟨by simp, fun i hi hn => setRow_other _ _ _ _ hn⟩ (fun k _ hk => ⟨by omega, fun cs' fz' e => by
    rw [hk, hh] at e
    injection e with e
    injection e with _ e _
    exact ht e⟩)
end
/-- A node, and where its keys lie. -/
structure NT (w : World) (x : Nd) (s : Ns) (ts : List Tri) : Prop where
  nv : NV w x s
  kt : Kd.C kT w s.A1 x.keys.length ts
  el : El w ts x.keys
/-- A node that was read. -/
abbrev NF (w : World) (B : Nat) (x : Nd) (s : Ns) (ts : List Tri) : Prop := Lasts w B (fun W => NT W x s ts)
end Go.Proofs.YtchhdafgmifhdaaGreat.LeaO
