/- Own texts, one behind the other, each with what the claim uses of it: FrmC. -/
import Derived.Test.YtchhdafgmifhdaaGreatChecked
import GoSem.Claim
import GoSem.ClaimJoined
import GoSem.ClaimMapViews
import Derived.JoinedTies
import Derived.KernelRfl
import Derived.Test.YtchhdafgmifhdaaGreatProg
import Derived.Below
import Derived.Deep.Draws
import Derived.Deep.AppendLies
import Derived.Maps.AppendAt
import Derived.OwnWalk
import Derived.Laws.BytesArg
import Derived.Laws.MakeOwn
import Derived.Laws.OwnMore
import Derived.Deep.OwnRows
import Derived.Tactics
import Derived.Lib.ConvBytes
import Derived.Laws.Slices
import Derived.WalkKit
import Derived.RowKit3
import Derived.Deep.LoopGhost
import Derived.Deep.QuietTactic
import Derived.BigQuiet
import Derived.WideLaws
import Derived.Deep.DeepCutAuto
import Derived.Deep.CutBlock
import Derived.Deep.RegionHeld3
import Derived.Laws.Rows
import Derived.Lib.AppendStr
import Derived.ArgAppend
import Derived.Laws.IdiomCopy
import Derived.OrdersHeld
import Derived.Laws.BitsLemmas
import Derived.RowKit
import Derived.Laws.StructEq
import Derived.Deep.Slices
import Derived.WalkSpells
import Derived.WalkSmall
import Derived.Laws.Tables
import Derived.Deep.WholeRow
import Derived.StillTailTactics
import Derived.MapKept
import Derived.Laws.CopyOwn
import Derived.Maps.RangeRun
import Derived.Deep.MidRow
import Derived.Laws.Cover3
import Derived.Shelf.Strconv.Itoa0
import Derived.Shelf.Slices.Turned
import Derived.Shelf.Bytes.SlSearch0
import Derived.Shelf.Bytes.SlEqualAll
import Derived.Shelf.Bytes.Small
import Derived.Outline
import Derived.Lib.EndianBits
import Derived.ShutString
import Derived.Lib.BytesEntry
import Derived.Lib.Bytealg
import Derived.Laws.Externs
import Derived.Lib.SmallJoins
import Derived.Deep.RegionHeld
import Derived.OpenShut
import Derived.ProofKit
import Derived.ChangeOld
import Derived.SizedLaws
import Derived.Test.YtchhdafgmifhdaaGreatWWords
import Derived.Test.YtchhdafgmifhdaaGreatSFA
import Derived.Test.YtchhdafgmifhdaaGreatSFB
import Derived.Test.YtchhdafgmifhdaaGreatSFC
import Derived.Test.YtchhdafgmifhdaaGreatSFD
namespace Go.Proofs.YtchhdafgmifhdaaGreat.FrmC
open Go.RowKit Go.Proofs.YtchhdafgmifhdaaGreat.B8 Go.Proofs.YtchhdafgmifhdaaGreat.Agg Go.Proofs.YtchhdafgmifhdaaGreat.CodL Go.Proofs.YtchhdafgmifhdaaGreat.CodA Go.Proofs.YtchhdafgmifhdaaGreat.CodB Go.Proofs.YtchhdafgmifhdaaGreat.CrcL Go.Proofs.YtchhdafgmifhdaaGreat.CrcA Go.Proofs.YtchhdafgmifhdaaGreat.CrcB Go.Proofs.YtchhdafgmifhdaaGreat.PVerifyForms Go.Proofs.YtchhdafgmifhdaaGreatW.PrintWords Go.Proofs.YtchhdafgmifhdaaGreatW.PrintLast Go.Proofs.YtchhdafgmifhdaaGreatW.PrintMore Go.Proofs.YtchhdafgmifhdaaGreat.CatL Go.Proofs.YtchhdafgmifhdaaGreat.PtrA Go.Proofs.YtchhdafgmifhdaaGreat.PtrB Go.Proofs.YtchhdafgmifhdaaGreat.PtrE Go.Proofs.YtchhdafgmifhdaaGreat.PtrF Go.Proofs.YtchhdafgmifhdaaGreat.OfA Go.Proofs.YtchhdafgmifhdaaGreat.ExtL Go.Proofs.YtchhdafgmifhdaaGreat.ExtA Go.Proofs.YtchhdafgmifhdaaGreat.ExtF Go.Proofs.YtchhdafgmifhdaaGreat.ExtG Go.Proofs.YtchhdafgmifhdaaGreat.DskA Go.Proofs.YtchhdafgmifhdaaGreat.DskB Go.Proofs.YtchhdafgmifhdaaGreat.DskC Go.Proofs.YtchhdafgmifhdaaGreat.AlcA Go.Proofs.YtchhdafgmifhdaaGreat.AlcD Go.Proofs.YtchhdafgmifhdaaGreat.KpA Go.Proofs.YtchhdafgmifhdaaGreat.LeaA Go.Proofs.YtchhdafgmifhdaaGreat.LeaC Go.Proofs.YtchhdafgmifhdaaGreat.LeaD Go.Proofs.YtchhdafgmifhdaaGreat.LeaF Go.Proofs.YtchhdafgmifhdaaGreat.LeaG Go.Proofs.YtchhdafgmifhdaaGreat.LeaJ Go.Proofs.YtchhdafgmifhdaaGreat.LeaO Go.Proofs.YtchhdafgmifhdaaGreat.PoolA Go.Proofs.YtchhdafgmifhdaaGreat.PoolB Go.Proofs.YtchhdafgmifhdaaGreat.PoolC Go.Proofs.YtchhdafgmifhdaaGreat.DskK Go.Proofs.YtchhdafgmifhdaaGreat.BlkK Go.Proofs.YtchhdafgmifhdaaGreat.BrdK Go.Proofs.YtchhdafgmifhdaaGreat.PolK Go.Proofs.YtchhdafgmifhdaaGreat.LodK Go.Proofs.YtchhdafgmifhdaaGreat.FrmA Go.Proofs.YtchhdafgmifhdaaGreat.FrmB Go.Proofs.YtchhdafgmifhdaaGreat.RunK Go.Proofs.YtchhdafgmifhdaaGreat.WlkK Go.Proofs.YtchhdafgmifhdaaGreat.ShaK Go.Proofs.YtchhdafgmifhdaaGreat.BlkB
set_option linter.unusedVariables false
set_option linter.unusedSimpArgs false
theorem findF (f : Int) (h : f + 1 ≤ 60) : findI [(f, 60)] 1 = f := by
  unfold findI findS
  rw [if_pos (by show (1 : Int) ≤ 60 - f; omega)]
  rfl
theorem remF (f : Int) (h : f + 1 < 60) : remS [(f, 60)] (f, f + 1) = [(f + 1, 60)] := by
  unfold remS
  rw [if_neg (by show ¬ (60 : Int) ≤ f; omega), if_neg (by show ¬ f + 1 ≤ f; omega)]
  unfold piecesS
  rw [if_neg (by show ¬ f < f; omega), if_pos (by show f + 1 < 60; omega)]
  rfl
theorem store_F (p d m lb a mw : Nat) (f ep : Int) (kv : Value) (rd : Int → List Int) (x : Nd) (s : Ns) (w : World) (h : PV w p d m lb a mw 60 2 60 0 [(f, 60)] ep kv rd) (hf : 2 ≤ f ∧ f ≤ 50)
    (hv : NV w x s) (hx : RightN x) (he : 1 ≤ ep ∧ ep ≤ 10) (hl : 1 ≤ (nodeL x).length ∧ (nodeL x).length ≤ 512) :
    Calls Tryz.prog 11 #[.pointer (some ⟨p, 0, none⟩), .agg (encN x s)] w (fun e w' => e = .returned (.tuple #[.agg (encP (ofP f ep (nodeL x))), .int .i64 0]) ∧ KB w w' (fun k => k = m ∨ k = a) ∧ PV w' p d m lb a mw 60 2 60 0 [(f + 1, 60)] ep kv (putB rd f (nodeL x))) := by
  have hs : sect ((nodeL x).length : Int) = 1 := by unfold sect; rw [if_neg (by omega)]; omega
  have ht : total [(f + 1, (60 : Int))] = 59 - f := by simp [total]; omega
  have ht0 : total [(f, (60 : Int))] = 60 - f := by simp [total]
  have := store11 p d m lb a mw 60 2 60 0 [(f, 60)] ep kv rd x s w h (by decide) (by decide) hv hx he.1 (by omega) 1 (by rw [hs]; rfl) f (findF f (by omega)) hf.1 (by omega) (by decide) (by rw [ht0]; omega)
    (by rw [show f + ((1 : Nat) : Int) = f + 1 from rfl, remF f (by omega)]; exact ⟨by simp only; omega, by simp only; omega, by simp only; omega, trivial⟩)
    (by rw [show f + ((1 : Nat) : Int) = f + 1 from rfl, remF f (by omega)]; show 1 ≤ 10000; decide)
    (by rw [show f + ((1 : Nat) : Int) = f + 1 from rfl, remF f (by omega), ht]; omega)
  rw [show f + ((1 : Nat) : Int) = f + 1 from rfl, remF f (by omega)] at this
  exact this
section
variable {ops : Array Oper} {o : Oper} {rest : List Oper} {a : Act} {Q : Exit → Act → World → Prop}
/-- []byte of one constant byte. -/
theorem conv_L {w W : World} (hgd : o.guard = none) (x : Operand) (ho : o.op = .convert 36 36 x) (g : Nat) (c : Int) (hx : a.eval x = .slice (some ⟨g, 0, none⟩) 1 1) (hW : W = w.alloc (.cells #[.int .u8 c] 5)) (hg : g = w.heap.size)
    (h : wpList Tryz.prog ops Q rest (a.put o.dst (.slice (some ⟨g, 0, none⟩) 1 1)) (w.alloc (.cells #[.int .u8 c] 5 (1, 2)))) : wpList Tryz.prog ops Q (o :: rest) a W :=
  wpList_plain hgd fun _ hK => by
    subst hW
    have := Go.Joins.run_convert_bytes_const_at (P := Tryz.prog) w 36 5 #[.int .u8 c] 1 1 g hg Tryz.underlying36 Tryz.underlying5
    unfold Oper.wp execOp
    simp only [ho, hx, Sem.run_bind, Sem.run_pure, Result.andThen_ok, this]
    exact hK _ _ h
end
theorem bits_three (x : Int) : ∃ q : Nat, q ≤ 3 ∧ bits .and .i64 x 3 = (q : Int) := by
  have e : bits .and .i64 x 3 = IntKind.i64.wrap ((BitVec.ofInt 64 x &&& BitVec.ofInt 64 3).toNat : Int) := rfl
  have h1 : (BitVec.ofInt 64 3).toNat = 3 := by decide
  have h2 : (BitVec.ofInt 64 x).toNat &&& 3 ≤ 3 := Nat.and_le_right
  rw [e, BitVec.toNat_and, h1]
  refine ⟨(BitVec.ofInt 64 x).toNat &&& 3, h2, ?_⟩
  rw [IntKind.wrap_i64]
  omega
theorem bits_one (x : Int) : bits .and .i64 x 1 = 0 ∨ bits .and .i64 x 1 = 1 := by
  have e : bits .and .i64 x 1 = IntKind.i64.wrap ((BitVec.ofInt 64 x &&& BitVec.ofInt 64 1).toNat : Int) := rfl
  have h1 : (BitVec.ofInt 64 1).toNat = 1 := by decide
  rw [e, BitVec.toNat_and, h1, Nat.and_one_is_mod]
  have : (BitVec.ofInt 64 x).toNat % 2 = 0 ∨ (BitVec.ofInt 64 x).toNat % 2 = 1 := by omega
  rcases this with h | h <;> rw [h]
  · left; rfl
  · right; rfl
set_option maxRecDepth 100000 in
theorem run_two36 (cs ds : Array Value) (h : cs.size = 36) (h2 : ds.size = 36) (W : World) : (Instr.buildSlice 26 2 #[(0, .agg cs), (1, .agg ds)]).run Tryz.prog W = .ok (.slice (some ⟨W.heap.size, 0, none⟩) 2 2) (W.alloc (.cells (cs ++ ds) 32)) := by
  rcases cs with ⟨lc⟩
  rcases lc with _ | ⟨c0, lc⟩; · simp at h
  rcases lc with _ | ⟨c1, lc⟩; · simp at h
  rcases lc with _ | ⟨c2, lc⟩; · simp at h
  rcases lc with _ | ⟨c3, lc⟩; · simp at h
  rcases lc with _ | ⟨c4, lc⟩; · simp at h
  rcases lc with _ | ⟨c5, lc⟩; · simp at h
  rcases lc with _ | ⟨c6, lc⟩; · simp at h
  rcases lc with _ | ⟨c7, lc⟩; · simp at h
  rcases lc with _ | ⟨c8, lc⟩; · simp at h
  rcases lc with _ | ⟨c9, lc⟩; · simp at h
  rcases lc with _ | ⟨c10, lc⟩; · simp at h
  rcases lc with _ | ⟨c11, lc⟩; · simp at h
  rcases lc with _ | ⟨c12, lc⟩; · simp at h
  rcases lc with _ | ⟨c13, lc⟩; · simp at h
  rcases lc with _ | ⟨c14, lc⟩; · simp at h
  rcases lc with _ | ⟨c15, lc⟩; · simp at h
  rcases lc with _ | ⟨c16, lc⟩; · simp at h
  rcases lc with _ | ⟨c17, lc⟩; · simp at h
  rcases lc with _ | ⟨c18, lc⟩; · simp at h
  rcases lc with _ | ⟨c19, lc⟩; · simp at h
  rcases lc with _ | ⟨c20, lc⟩; · simp at h
  rcases lc with _ | ⟨c21, lc⟩; · simp at h
  rcases lc with _ | ⟨c22, lc⟩; · simp at h
  rcases lc with _ | ⟨c23, lc⟩; · simp at h
  rcases lc with _ | ⟨c24, lc⟩; · simp at h
  rcases lc with _ | ⟨c25, lc⟩; · simp at h
  rcases lc with _ | ⟨c26, lc⟩; · simp at h
  rcases lc with _ | ⟨c27, lc⟩; · simp at h
  rcases lc with _ | ⟨c28, lc⟩; · simp at h
  rcases lc with _ | ⟨c29, lc⟩; · simp at h
  rcases lc with _ | ⟨c30, lc⟩; · simp at h
  rcases lc with _ | ⟨c31, lc⟩; · simp at h
  rcases lc with _ | ⟨c32, lc⟩; · simp at h
  rcases lc with _ | ⟨c33, lc⟩; · simp at h
  rcases lc with _ | ⟨c34, lc⟩; · simp at h
  rcases lc with _ | ⟨c35, lc⟩; · simp at h
  rcases lc with _ | ⟨c36, lc⟩
  case cons => simp at h
  rcases ds with ⟨ld⟩
  rcases ld with _ | ⟨d0, ld⟩; · simp at h2
  rcases ld with _ | ⟨d1, ld⟩; · simp at h2
  rcases ld with _ | ⟨d2, ld⟩; · simp at h2
  rcases ld with _ | ⟨d3, ld⟩; · simp at h2
  rcases ld with _ | ⟨d4, ld⟩; · simp at h2
  rcases ld with _ | ⟨d5, ld⟩; · simp at h2
  rcases ld with _ | ⟨d6, ld⟩; · simp at h2
  rcases ld with _ | ⟨d7, ld⟩; · simp at h2
  rcases ld with _ | ⟨d8, ld⟩; · simp at h2
  rcases ld with _ | ⟨d9, ld⟩; · simp at h2
  rcases ld with _ | ⟨d10, ld⟩; · simp at h2
  rcases ld with _ | ⟨d11, ld⟩; · simp at h2
  rcases ld with _ | ⟨d12, ld⟩; · simp at h2
  rcases ld with _ | ⟨d13, ld⟩; · simp at h2
  rcases ld with _ | ⟨d14, ld⟩; · simp at h2
  rcases ld with _ | ⟨d15, ld⟩; · simp at h2
  rcases ld with _ | ⟨d16, ld⟩; · simp at h2
  rcases ld with _ | ⟨d17, ld⟩; · simp at h2
  rcases ld with _ | ⟨d18, ld⟩; · simp at h2
  rcases ld with _ | ⟨d19, ld⟩; · simp at h2
  rcases ld with _ | ⟨d20, ld⟩; · simp at h2
  rcases ld with _ | ⟨d21, ld⟩; · simp at h2
  rcases ld with _ | ⟨d22, ld⟩; · simp at h2
  rcases ld with _ | ⟨d23, ld⟩; · simp at h2
  rcases ld with _ | ⟨d24, ld⟩; · simp at h2
  rcases ld with _ | ⟨d25, ld⟩; · simp at h2
  rcases ld with _ | ⟨d26, ld⟩; · simp at h2
  rcases ld with _ | ⟨d27, ld⟩; · simp at h2
  rcases ld with _ | ⟨d28, ld⟩; · simp at h2
  rcases ld with _ | ⟨d29, ld⟩; · simp at h2
  rcases ld with _ | ⟨d30, ld⟩; · simp at h2
  rcases ld with _ | ⟨d31, ld⟩; · simp at h2
  rcases ld with _ | ⟨d32, ld⟩; · simp at h2
  rcases ld with _ | ⟨d33, ld⟩; · simp at h2
  rcases ld with _ | ⟨d34, ld⟩; · simp at h2
  rcases ld with _ | ⟨d35, ld⟩; · simp at h2
  rcases ld with _ | ⟨d36, ld⟩
  case cons => simp at h2
  kernel_rfl
section
variable {ops : Array Oper} {o : Oper} {rest : List Oper} {a : Act} {Q : Exit → Act → World → Prop}
theorem two_P {w : World} (hgd : o.guard = none) (x y : Operand) (ho : o.op = .buildSlice 26 2 #[(0, x), (1, y)]) (cs ds : Array Value) (hk : cs.size = 36) (hk2 : ds.size = 36) (hx : a.eval x = .agg cs) (hy : a.eval y = .agg ds)
    (h : wpList Tryz.prog ops Q rest (a.put o.dst (.slice (some ⟨w.heap.size, 0, none⟩) 2 2)) (w.alloc (.cells (cs ++ ds) 32))) : wpList Tryz.prog ops Q (o :: rest) a w :=
  wpList_plain hgd fun _ hK => by
    unfold Oper.wp execOp
    have hm : (#[(0, x), (1, y)] : Array (Nat × Operand)).map (fun (i, x) => (i, a.eval x)) = #[(0, .agg cs), (1, .agg ds)] := by simp [hx, hy]
    simp only [ho]
    rw [hm]
    simp only [Sem.run_bind, Sem.run_pure, Result.andThen_ok, run_two36 cs ds hk hk2 w]
    exact hK _ _ h
end
set_option maxRecDepth 100000 in
set_option maxHeartbeats 32000000 in
theorem law3 (x b : Int) (w : World) : Calls Tryz.prog 3 #[.int .i64 x, .int .i64 b] w (fun e w' => e = .returned (.bool true) ∧ Below w.heap.size w w') := by
  obtain ⟨P, hP⟩ : ∃ P : Ending → World → Prop, P = fun e w' => e = .returned (.bool true) ∧ Below w.heap.size w w' := ⟨_, rfl⟩
  rw [← hP]
  have HP := Aside0.mk hP
  clear hP
  obtain ⟨z, hz, hz1, hal⟩ := zero33
  have HZS := Aside0.mk (And.intro hz hz1)
  have HAL := Aside0.mk hal
  clear hz hz1 hal
  go_enter Tryz.func3, Tryz.ntmps3
  go_wp2_with fail
  refine (fresh10 60 (by decide) (by decide) w).mono ?_
  rintro e W1 ⟨p, d, m, lb, a, mw, rfl, hlo, hpv, hb1⟩
  have HLO := Aside0.mk hlo
  have HB1 := Aside0.mk hb1
  have HV1 := Aside0.mk hpv
  clear hlo hb1 hpv
  go_upto_region 4 with (fail)
  have c2 : W1.cell? ⟨p, 2, none⟩ = some (.int .i64 1) := by rw [cell_of_row _ _ 2 _ 28 (0, 0) HV1.out.po.blk]; rfl
  have f2 := frozen_of_row W1 p 2 _ 28 HV1.out.po.blk
  go_upto_region 5 with (fail)
  obtain ⟨W2, hW2⟩ : ∃ W, W = W1.setCell ⟨p, 2, none⟩ (.int .i64 5) := ⟨_, rfl⟩
  have HV2 := Aside0.mk (show PV W2 p d m lb a mw 60 2 60 0 [(2, 60)] 5 (.slice none 0 0) (fun _ => Z512) by rw [hW2]; exact PV_ep HV1.out 5)
  have HB2 := Aside0.mk (show Below w.heap.size w W2 by rw [hW2]; exact HB1.out.setCell HLO.out.1 _)
  rw [← hW2]
  clear hW2 c2 f2
  go_wp2_with (refine conv_L rfl _ rfl _ _ rfl rfl (by simp) ?_)
  obtain ⟨W8, hW8⟩ : ∃ W, W = ((((((W2.alloc (.cells #[.int .u8 98] 5 (1, 2))).alloc (.cells #[.int .u8 100] 5 (1, 2))).alloc (.cells #[sl W2.heap.size, sl (W2.heap.size + 1)] 36)).alloc (.cells #[.int .u8 49] 5 (1, 2))).alloc (.cells #[.int .u8 50] 5 (1, 2))).alloc (.cells #[sl (W2.heap.size + 1 + 1 + 1), sl (W2.heap.size + 1 + 1 + 1 + 1)] 36)) := ⟨_, rfl⟩
  obtain ⟨hb8, hn8⟩ := made_two W2 _ _ _ _ _ W8 _ 98 100 49 50 rfl rfl rfl rfl rfl rfl hW8
  have T1 := store_F p d m lb a mw 2 5 (.slice none 0 0) (fun _ => Z512) Lw ⟨some ⟨W2.heap.size + 1 + 1, 0, none⟩, 2, some ⟨W2.heap.size + 1 + 1 + 1 + 1 + 1, 0, none⟩, 2, none, 0⟩ W8 (HV2.out.below hb8) (by decide) hn8 rightLw (by decide) (by rw [len_lw]; decide)
  have HB8 := Aside0.mk (below_then HB2.out HB2.out.size hb8)
  rw [← hW8]
  clear hW8 hb8 hn8
  obtain ⟨low, hlow⟩ : ∃ q, q = ofP 2 5 (nodeL Lw) := ⟨_, rfl⟩
  obtain ⟨cl, hcl⟩ : ∃ c, c = encP low := ⟨_, rfl⟩
  rw [← hlow, ← hcl] at T1
  have HOL := Aside0.mk (show Ok low by rw [hlow]; exact (putB_holds (fun _ => Z512) 2 5 (nodeL Lw)).ok)
  have HCL := Aside0.mk (And.intro hlow (And.intro hcl (And.intro (show cl.size = 36 by rw [hcl]; exact encP_size HOL.out.len) (show cl.all (·.oneCell') = true by rw [hcl]; exact encP_one _))))
  clear hlow hcl
  refine T1.mono ?_
  clear T1
  rintro e W9 ⟨rfl, hk9, hv9⟩
  have HB9 := Aside0.mk (show Below w.heap.size w W9 from HB8.out.trans (hk9.to_below (fun q hq => by have := HLO.out; omega) HB8.out.size))
  have HV9 := Aside0.mk hv9
  have hal9 := HAL.out W9
  obtain ⟨g6, hg6⟩ : ∃ g, g = W9.heap.size := ⟨_, rfl⟩
  have HG6 := Aside0.mk (show (W9.alloc (.cells z 32)).heap[g6]? = some (.cells z 32 (0, 0)) by rw [hg6]; exact blk_new W9 _)
  clear hk9 hv9
  go_upto_region 6 with (refine wpList_store_row rfl 32 (.tmp 6) (.tmp 33) rfl g6 cl (by show Value.pointer _ = _; rw [hg6]) rfl 32 z HG6.out (by rw [i33, HCL.out.2.2.1]) (by rw [HCL.out.2.2.1, HZS.out.1]) HCL.out.2.2.2 ?_)
  rw [← hg6]
  obtain ⟨W10, hW10⟩ : ∃ W, W = (W9.alloc (.cells z 32)).setRow g6 cl := ⟨_, rfl⟩
  have hb910 : Below W9.heap.size W9 W10 := by
    rw [hW10]
    exact (KB_setRow (KB.of_below (below_alloc (Below.refl W9.heap.size W9) (.cells z 32)) (fun _ => False)) (by rw [hg6]; exact Nat.le_refl _) cl).to_below (fun k h => h.elim) (Nat.le_refl _)
  have HC6 := Aside0.mk (show W10.heap[g6]? = some (.cells cl 32 (0, 0)) by rw [hW10]; exact setRow_heap _ g6 z cl 32 _ HG6.out)
  have HB10 := Aside0.mk (below_then HB9.out HB9.out.size hb910)
  have HV10 := Aside0.mk (HV9.out.below hb910)
  have HWG6 := Aside0.mk (show w.heap.size ≤ g6 ∧ m ≠ g6 ∧ a ≠ g6 by
    have h1 := SV_lts HV9.out.sv (by decide)
    have h2 : a < W9.heap.size := by obtain ⟨A, n, c, was, ha, _⟩ := HV9.out.po.alc.blk; exact blk_lt ha
    have h3 := HB9.out.size
    omega)
  rw [← hW10]
  clear hW10 hb910 hg6 HG6 hal9 HB8 HB2 HV2
  go_wp2_with (refine conv_L rfl _ rfl _ _ rfl rfl (by simp) ?_)
  obtain ⟨W11, hW11⟩ : ∃ W, W = ((((W10.alloc (.cells #[.int .u8 102] 5 (1, 2))).alloc (.cells #[sl W10.heap.size] 36)).alloc (.cells #[.int .u8 51] 5 (1, 2))).alloc (.cells #[sl (W10.heap.size + 1 + 1)] 36)) := ⟨_, rfl⟩
  obtain ⟨hb11, hn11⟩ := made_one W10 _ _ _ W11 _ 102 51 rfl rfl rfl rfl hW11
  have T2 := store_F p d m lb a mw 3 5 (.slice none 0 0) _ Hg ⟨some ⟨W10.heap.size + 1, 0, none⟩, 1, some ⟨W10.heap.size + 1 + 1 + 1, 0, none⟩, 1, none, 0⟩ W11 (HV10.out.below hb11) (by decide) hn11 rightHg (by decide) (by rw [len_hg]; decide)
  have HB11 := Aside0.mk (below_then HB10.out HB10.out.size hb11)
  have HC11 := Aside0.mk (blk_below HC6.out hb11)
  rw [← hW11]
  clear hW11 hb11 hn11
  obtain ⟨high, hhigh⟩ : ∃ q, q = ofP 3 5 (nodeL Hg) := ⟨_, rfl⟩
  obtain ⟨ch, hch⟩ : ∃ c, c = encP high := ⟨_, rfl⟩
  rw [← hhigh, ← hch] at T2
  have HOH := Aside0.mk (show Ok high by rw [hhigh]; exact (putB_holds (fun _ => Z512) 3 5 (nodeL Hg)).ok)
  have HCH := Aside0.mk (And.intro hhigh (And.intro hch (And.intro (show ch.size = 36 by rw [hch]; exact encP_size HOH.out.len) (show ch.all (·.oneCell') = true by rw [hch]; exact encP_one _))))
  clear hhigh hch
  refine T2.mono ?_
  clear T2
  rintro e W12 ⟨rfl, hk12, hv12⟩
  have HB12 := Aside0.mk (show Below w.heap.size w W12 from HB11.out.trans (hk12.to_below (fun q hq => by have := HLO.out; omega) HB11.out.size))
  have HV12 := Aside0.mk hv12
  have HC12 := Aside0.mk (blk_kept HC11.out hk12.kept (by have := HWG6.out; omega))
  have hal12 := HAL.out W12
  obtain ⟨g8, hg8⟩ : ∃ g, g = W12.heap.size := ⟨_, rfl⟩
  have HG8 := Aside0.mk (show (W12.alloc (.cells z 32)).heap[g8]? = some (.cells z 32 (0, 0)) by rw [hg8]; exact blk_new W12 _)
  clear hk12 hv12
  go_upto_region 7 with (refine wpList_store_row rfl 32 (.tmp 8) (.tmp 45) rfl g8 ch (by show Value.pointer _ = _; rw [hg8]) rfl 32 z HG8.out (by rw [i33, HCH.out.2.2.1]) (by rw [HCH.out.2.2.1, HZS.out.1]) HCH.out.2.2.2 ?_)
  rw [← hg8]
  obtain ⟨W13, hW13⟩ : ∃ W, W = (W12.alloc (.cells z 32)).setRow g8 ch := ⟨_, rfl⟩
  have hb1213 : Below W12.heap.size W12 W13 := by
    rw [hW13]
    exact (KB_setRow (KB.of_below (below_alloc (Below.refl W12.heap.size W12) (.cells z 32)) (fun _ => False)) (by rw [hg8]; exact Nat.le_refl _) ch).to_below (fun k h => h.elim) (Nat.le_refl _)
  have HC8 := Aside0.mk (show W13.heap[g8]? = some (.cells ch 32 (0, 0)) by rw [hW13]; exact setRow_heap _ g8 z ch 32 _ HG8.out)
  have HC613 := Aside0.mk (blk_below HC12.out hb1213)
  have HB13 := Aside0.mk (below_then HB12.out HB12.out.size hb1213)
  have HV13 := Aside0.mk (HV12.out.below hb1213)
  rw [← hW13]
  clear hW13 hb1213 hg8 HG8 hal12
  go_upto_region 9 with (fail)
  obtain ⟨g, hg⟩ : ∃ g, g = W13.heap.size := ⟨_, rfl⟩
  have HG13 := Aside0.mk (show d < g ∧ m < g ∧ lb < g ∧ a < g ∧ p < g ∧ mw < g by
    rw [hg]; have := PV_lts HV13.out (by decide); omega)
  obtain ⟨Wa, hWa⟩ : ∃ W, W = W13.alloc (.cells #[.int .u8 98] 5 (1, 2)) := ⟨_, rfl⟩
  obtain ⟨Wb, hWb⟩ : ∃ W, W = Wa.alloc (.cells #[.int .u8 102] 5 (1, 2)) := ⟨_, rfl⟩
  obtain ⟨Wc, hWc⟩ : ∃ W, W = Wb.alloc (.cells #[sl g, sl (g + 1)] 36) := ⟨_, rfl⟩
  have HC6c := Aside0.mk (old_alloc (old_alloc (old_alloc HC613.out hWa) hWb) hWc)
  have HC8c := Aside0.mk (old_alloc (old_alloc (old_alloc HC8.out hWa) hWb) hWc)
  rw [hWb, hWa] at hWc
  go_upto_region 10 with (first | (refine two_P rfl (.tmp 58) (.tmp 59) rfl cl ch HCL.out.2.2.1 HCH.out.2.2.1 rfl rfl ?_) | (refine conv_L rfl _ rfl _ _ rfl rfl (by simp) ?_) | (refine load_cs rfl 32 (.tmp 6) rfl g6 0 cl _ rfl (range_pre (by simpa [hWc, hg] using HC6c.out) (fun _ _ => rfl)) underl56 rfl (by rw [HCL.out.2.2.1]; kernel_rfl) ?_) | (refine load_cs rfl 32 (.tmp 8) rfl g8 0 ch _ rfl (range_pre (by simpa [hWc, hg] using HC8c.out) (fun _ _ => rfl)) underl56 rfl (by rw [HCH.out.2.2.1]; kernel_rfl) ?_))
  obtain ⟨W15, hW15⟩ : ∃ W, W = (((((W13.alloc (.cells #[.int .u8 98] 5 (1, 2))).alloc (.cells #[.int .u8 102] 5 (1, 2))).alloc (.cells #[sl W13.heap.size, sl (W13.heap.size + 1)] 36)).alloc (.cells (cl ++ ch) 32)).alloc (.cells #[.int .i64 1, sl2 (W13.heap.size + 1 + 1), .slice none 0 0, sl2 (W13.heap.size + 1 + 1 + 1)] 39)) := ⟨_, rfl⟩
  obtain ⟨hb15, e98, e102, ek, ed, e10⟩ := made_root W13 _ _ _ _ W15 g cl ch hg rfl rfl (by rw [hg]) rfl (by rw [hW15, hg])
  have HBLK := Aside0.mk (And.intro e98 (And.intro e102 (And.intro ek (And.intro ed e10))))
  have HB15 := Aside0.mk (below_then HB13.out HB13.out.size hb15)
  have HV15 := Aside0.mk (HV13.out.below hb15)
  have hpg : p < g := by rw [hg]; exact HV13.out.po.lt
  have HGW := Aside0.mk (show w.heap.size ≤ g by rw [hg]; exact HB13.out.size)
  rw [← hW15, ← hg]
  clear hW15 hb15 e98 e102 ek ed e10 hWa hWb hWc hg HC6c HC8c
  have HQ0 := bits_three x
  rcases bits_one b with hb | hb
  · obtain ⟨q, hq, hx⟩ := HQ0
    have hc : q = 0 ∨ q = 1 ∨ q = 2 ∨ q = 3 := by omega
    rcases hc with rfl | rfl | rfl | rfl
    · have hx : bits .and .i64 x 3 = 0 := hx
      go_upto_region 18 with (fail)
      obtain ⟨W18, hW18⟩ : ∃ W, W = W15 := ⟨_, rfl⟩
      have HS := Aside0.mk (show Below w.heap.size w W18 ∧ PV W18 p d m lb a mw 60 2 60 0 [(4, 60)] 5 (.slice none 0 0) _ ∧ W18.heap[g + 1 + 1 + 1 + 1]? = some (.cells #[.int .i64 1, sl2 (g + 1 + 1), .slice none 0 0, sl2 (g + 1 + 1 + 1)] 39 (0, 0)) ∧ ∀ W', Kept W18 W' (fun k => k = p) → NV W' (Rt 0 low high) ⟨some ⟨g + 1 + 1, 0, none⟩, 2, none, 0, some ⟨g + 1 + 1 + 1, 0, none⟩, 2⟩ by
        rw [hW18]
        obtain ⟨e98, e102, ek, ed, e10⟩ := HBLK.out
        rw [HCL.out.2.1, HCH.out.2.1] at ed
        exact ⟨HB15.out, HV15.out, e10, fun W' hk => root_nv (blk_kept e98 hk (by omega)) (blk_kept e102 hk (by omega)) (blk_kept ek hk (by omega)) (blk_kept ed hk (by omega)) HOL.out HOH.out⟩)
      rw [← hW18]
      clear hW18
      have c2 : W18.cell? ⟨p, 2, none⟩ = some (.int .i64 5) := by rw [cell_of_row _ _ 2 _ 28 (0, 0) HS.out.2.1.po.blk]; rfl
      have f2 := frozen_of_row W18 p 2 _ 28 HS.out.2.1.po.blk
      go_upto_region 21 with (fail)
      obtain ⟨W20, hW20⟩ : ∃ W, W = (W18.setCell ⟨p, 2, none⟩ (.int .i64 5)).setCell ⟨p, 2, none⟩ (.int .i64 5) := ⟨_, rfl⟩
      have hk20 : Kept W18 W20 (fun k => k = p) := by rw [hW20]; exact ((KB.setCell W18 ⟨p, 2, none⟩ _).then_ (KB.setCell _ ⟨p, 2, none⟩ _) (fun k h => .inl h)).kept
      have HV20 := Aside0.mk (show PV W20 p d m lb a mw 60 2 60 0 [(4, 60)] 5 (.slice none 0 0) _ by rw [hW20]; exact PV_ep (PV_ep HS.out.2.1 _) _)
      have HB20 := Aside0.mk (show Below w.heap.size w W20 by rw [hW20]; exact (HS.out.1.setCell HLO.out.1 _).setCell HLO.out.1 _)
      obtain ⟨sR, hsR⟩ : ∃ s : Ns, s = ⟨some ⟨g + 1 + 1, 0, none⟩, 2, none, 0, some ⟨g + 1 + 1 + 1, 0, none⟩, 2⟩ := ⟨_, rfl⟩
      obtain ⟨rt, hrt⟩ : ∃ x, x = Rt 0 low high := ⟨_, rfl⟩
      obtain ⟨cn, hcn⟩ : ∃ c, c = encN rt sR := ⟨_, rfl⟩
      have HN20 := Aside0.mk (show NV W20 rt sR by rw [hrt, hsR]; exact HS.out.2.2.2 W20 hk20)
      have HE20 := Aside0.mk (show W20.heap[g + 1 + 1 + 1 + 1]? = some (.cells cn 39 (0, 0)) by rw [hcn, hrt, hsR]; exact blk_kept HS.out.2.2.1 hk20 (by omega))
      have HCN := Aside0.mk (show cn.size = 4 by rw [hcn]; rfl)
      have HRL := Aside0.mk (show Right low ∧ Right high from ⟨by rw [HCL.out.1]; exact right_of (by decide) (by decide) (by rw [len_lw]; decide), by rw [HCH.out.1]; exact right_of (by decide) (by decide) (by rw [len_hg]; decide)⟩)
      have HRR := Aside0.mk (show RightN rt ∧ (nodeL rt).length = 112 by rw [hrt]; exact ⟨rightRt (by decide) ⟨HOL.out, HRL.out.1⟩ ⟨HOH.out, HRL.out.2⟩, len_rt HOL.out HOH.out⟩)
      have T3 := store_F p d m lb a mw 4 5 (.slice none 0 0) _ rt sR W20 HV20.out (by decide) HN20.out HRR.out.1 (by decide) (by rw [HRR.out.2]; decide)
      obtain ⟨root, hroot⟩ : ∃ r, r = ofP 4 5 (nodeL rt) := ⟨_, rfl⟩
      obtain ⟨cr, hcr⟩ : ∃ c, c = encP root := ⟨_, rfl⟩
      rw [← hcn, ← hroot, ← hcr] at T3
      have HOR := Aside0.mk (show Ok root by rw [hroot]; exact (putB_holds (fun _ => Z512) 4 5 (nodeL rt)).ok)
      have HCR := Aside0.mk (And.intro hroot (And.intro hcr (And.intro (show cr.size = 36 by rw [hcr]; exact encP_size HOR.out.len) (show cr.all (·.oneCell') = true by rw [hcr]; exact encP_one _))))
      have HRT := Aside0.mk hrt
      rw [← hW20]
      clear hW20 hk20 c2 f2 hsR hrt hcn hroot hcr
      go_wp2_with (refine load_cs rfl 39 (.tmp 10) rfl (g + 1 + 1 + 1 + 1) 0 cn _ rfl (range_pre HE20.out (fun _ _ => rfl)) Tryz.underlying39 rfl (by rw [HCN.out]; kernel_rfl) ?_)
      refine T3.mono ?_
      clear T3
      rintro e W21 ⟨rfl, hk21, hv21⟩
      have HB21 := Aside0.mk (show Below w.heap.size w W21 from HB20.out.trans (hk21.to_below (fun q hq => by have := HLO.out; omega) HB20.out.size))
      have HV21 := Aside0.mk hv21
      have hal21 := HAL.out W21
      obtain ⟨g11, hg11⟩ : ∃ g, g = W21.heap.size := ⟨_, rfl⟩
      have HG11 := Aside0.mk (show (W21.alloc (.cells z 32)).heap[g11]? = some (.cells z 32 (0, 0)) by rw [hg11]; exact blk_new W21 _)
      clear hk21 hv21
      go_upto_region 22 with (refine wpList_store_row rfl 32 (.tmp 11) (.tmp 100) rfl g11 cr (by show Value.pointer _ = _; rw [hg11]) rfl 32 z HG11.out (by rw [i33, HCR.out.2.2.1]) (by rw [HCR.out.2.2.1, HZS.out.1]) HCR.out.2.2.2 ?_)
      rw [← hg11]
      obtain ⟨W22, hW22⟩ : ∃ W, W = (W21.alloc (.cells z 32)).setRow g11 cr := ⟨_, rfl⟩
      have hb2122 : Below W21.heap.size W21 W22 := by
        rw [hW22]
        exact (KB_setRow (KB.of_below (below_alloc (Below.refl W21.heap.size W21) (.cells z 32)) (fun _ => False)) (by rw [hg11]; exact Nat.le_refl _) cr).to_below (fun k h => h.elim) (Nat.le_refl _)
      have HC22 := Aside0.mk (show W22.heap[g11]? = some (.cells cr 32 (0, 0)) by rw [hW22]; exact setRow_heap _ g11 z cr 32 _ HG11.out)
      have HB22 := Aside0.mk (below_then HB21.out HB21.out.size hb2122)
      have HV22 := Aside0.mk (HV21.out.below hb2122)
      rw [← hW22]
      clear hW22 hb2122 hg11 HG11 hal21
      obtain ⟨rd4, hrd4⟩ : ∃ rd, rd = putB (putB (putB (fun _ => Z512) 2 (nodeL Lw)) 3 (nodeL Hg)) 4 (nodeL rt) := ⟨_, rfl⟩
      have HNA := Aside0.mk (show Nod rd4 60 low Lw ∧ Nod rd4 60 high Hg ∧ Nod rd4 60 root (Rt 0 low high) from by
        rw [hrd4]
        refine ⟨?_, ?_, ?_⟩
        · rw [HCL.out.1]; exact nod_of (FrmA.Holds.put (FrmA.Holds.put (putB_holds (fun _ => Z512) 2 5 (nodeL Lw)) (.inl (by rw [len_lw]; decide))) (.inl (by rw [len_lw]; decide))) rightLw (by decide) (by decide) (by rw [len_lw]; decide) (by decide)
        · rw [HCH.out.1]; exact nod_of (FrmA.Holds.put (putB_holds _ 3 5 (nodeL Hg)) (.inl (by rw [len_hg]; decide))) rightHg (by decide) (by decide) (by rw [len_hg]; decide) (by decide)
        · rw [← HRT.out, HCR.out.1]; exact nod_of (putB_holds _ 4 5 (nodeL rt)) HRR.out.1 (by decide) (by decide) (by rw [HRR.out.2]; decide) (by decide))
      have hnz : root ≠ zeroP := by rw [HCR.out.1]; intro e; have := congrArg Ptr.at_ e; simp [ofP, zeroP] at this
      have hbi : low.birth = 5 ∧ high.birth = 5 ∧ root.birth = 5 := ⟨by rw [HCL.out.1]; rfl, by rw [HCH.out.1]; rfl, by rw [HCR.out.1]; rfl⟩
      obtain ⟨kR, hkR, hrunR⟩ := run_good HNA.out.1 HNA.out.2.1 HNA.out.2.2 (by omega) (by omega)
      have hv22 : PV W22 p d m lb a mw 60 2 60 0 [(4 + 1, 60)] 5 (.slice none 0 0) rd4 := by rw [hrd4]; exact HV22.out
      have T4 := walk12 p d m lb a mw 60 2 60 0 [(4 + 1, 60)] 5 (.slice none 0 0) rd4 root kR _ W22 hv22 (by decide) (by decide) HOR.out hnz (by omega) hrunR
      rw [← HCR.out.2.1] at T4
      clear hnz hbi hkR hrunR hv22 hrd4
      go_upto_region 24 with (fail)
      go_wp2_with (refine load_cs rfl 32 (.tmp 11) rfl g11 0 cr _ rfl (range_pre HC22.out (fun _ _ => rfl)) underl56 rfl (by rw [HCR.out.2.2.1]; kernel_rfl) ?_)
      refine T4.mono ?_
      clear T4
      rintro e W23 ⟨hb23, hr⟩
      have HB23 := Aside0.mk (below_then HB22.out HB22.out.size hb23)
      clear hb23
      obtain ⟨A, c, he⟩ : ∃ A c, e = .returned (.tuple #[.agg #[.slice A 3 c, .int .i64 3, .int .i64 2], .int .i64 0]) := hr
      subst he
      obtain ⟨cf, hcf⟩ : ∃ cs : Array Value, cs = #[.slice A 3 c, .int .i64 3, .int .i64 2] := ⟨_, rfl⟩
      rw [← hcf]
      have HCF := Aside0.mk (And.intro hcf (And.intro (show cf.size = 3 by rw [hcf]; rfl) (show cf.all (·.oneCell') = true by rw [hcf, ← Array.all_toList]; rfl)))
      obtain ⟨g12, hg12⟩ : ∃ g, g = W23.heap.size := ⟨_, rfl⟩
      have HG12 := Aside0.mk (show (W23.alloc (.cells #[.slice none 0 0, .int .i64 0, .int .i64 0] 41)).heap[g12]? = some (.cells #[.slice none 0 0, .int .i64 0, .int .i64 0] 41 (0, 0)) by rw [hg12]; exact blk_new W23 _)
      clear hcf
      go_upto_region 25 with (refine wpList_store_row rfl 41 (.tmp 12) (.tmp 108) rfl g12 cf (by show Value.pointer _ = _; rw [hg12]) rfl 41 _ HG12.out (by rw [HCF.out.2.1]; kernel_rfl) (by rw [HCF.out.2.1]; rfl) HCF.out.2.2 ?_)
      rw [← hg12]
      obtain ⟨W24, hW24⟩ : ∃ W, W = (W23.alloc (.cells #[.slice none 0 0, .int .i64 0, .int .i64 0] 41)).setRow g12 cf := ⟨_, rfl⟩
      have HB24 := Aside0.mk (show Below w.heap.size w W24 by
        rw [hW24]
        exact (KB_setRow (KB.of_below (below_alloc HB23.out (.cells #[.slice none 0 0, .int .i64 0, .int .i64 0] 41)) (fun _ => False)) (by rw [hg12]; exact HB23.out.size) cf).to_below (fun k h => h.elim) (Nat.le_refl _))
      have hc24 : W24.heap[g12]? = some (.cells cf 41 (0, 0)) := by rw [hW24]; exact setRow_heap _ g12 _ cf 41 _ HG12.out
      rw [HCF.out.1] at hc24
      have r0 := cell_of_row W24 g12 0 _ 41 (0, 0) hc24
      have r1 := cell_of_row W24 g12 1 _ 41 (0, 0) hc24
      have r2 := cell_of_row W24 g12 2 _ 41 (0, 0) hc24
      simp only [List.getElem?_toArray, List.getElem?_cons_zero, List.getElem?_cons_succ] at r0 r1 r2
      rw [← hW24]
      clear hW24 hg12 hc24
      go_wp2
      rw [HP.out]
      exact ⟨rfl, HB24.out⟩
    · have hx : bits .and .i64 x 3 = 1 := hx
      have c10 : W15.cell? ⟨g + 1 + 1 + 1 + 1, 0, none⟩ = some (.int .i64 1) := by rw [cell_of_row _ _ 0 _ 39 (0, 0) HBLK.out.2.2.2.2]; rfl
      have f10 := frozen_of_row W15 (g + 1 + 1 + 1 + 1) 0 _ 39 HBLK.out.2.2.2.2
      go_upto_region 18 with (fail)
      obtain ⟨W18, hW18⟩ : ∃ W, W = W15.setCell ⟨g + 1 + 1 + 1 + 1, 0, none⟩ (.int .i64 2) := ⟨_, rfl⟩
      have HS := Aside0.mk (show Below w.heap.size w W18 ∧ PV W18 p d m lb a mw 60 2 60 0 [(4, 60)] 5 (.slice none 0 0) _ ∧ W18.heap[g + 1 + 1 + 1 + 1]? = some (.cells #[.int .i64 2, sl2 (g + 1 + 1), .slice none 0 0, sl2 (g + 1 + 1 + 1)] 39 (0, 0)) ∧ ∀ W', Kept W18 W' (fun k => k = p) → NV W' (Rt 1 low high) ⟨some ⟨g + 1 + 1, 0, none⟩, 2, none, 0, some ⟨g + 1 + 1 + 1, 0, none⟩, 2⟩ by
        obtain ⟨e98, e102, ek, ed, e10⟩ := HBLK.out
        rw [HCL.out.2.1, HCH.out.2.1] at ed
        have hg := HGW.out
        have hk18 : Kept W15 W18 (fun k => k = g + 1 + 1 + 1 + 1) := by rw [hW18]; exact (KB.setCell W15 ⟨g + 1 + 1 + 1 + 1, 0, none⟩ _).kept
        exact ⟨by rw [hW18]; exact HB15.out.setCell (by show w.heap.size ≤ g + 1 + 1 + 1 + 1; omega) _, PV_new HV15.out hk18 (fun k hk => by have h13 := HG13.out; subst hk; exact ⟨by omega, by omega, by omega, by omega, by omega, by omega, fun cs e => by rw [e10] at e; simp at e⟩), by rw [hW18]; exact heap_setCell_same _ _ _ _ _ _ e10, fun W' hk => root_nv (blk_kept (blk_kept e98 hk18 (by omega)) hk (by omega)) (blk_kept (blk_kept e102 hk18 (by omega)) hk (by omega)) (blk_kept (blk_kept ek hk18 (by omega)) hk (by omega)) (blk_kept (blk_kept ed hk18 (by omega)) hk (by omega)) HOL.out HOH.out⟩)
      rw [← hW18]
      clear hW18 c10 f10
      have c2 : W18.cell? ⟨p, 2, none⟩ = some (.int .i64 5) := by rw [cell_of_row _ _ 2 _ 28 (0, 0) HS.out.2.1.po.blk]; rfl
      have f2 := frozen_of_row W18 p 2 _ 28 HS.out.2.1.po.blk
      go_upto_region 21 with (fail)
      obtain ⟨W20, hW20⟩ : ∃ W, W = W18.setCell ⟨p, 2, none⟩ (.int .i64 5) := ⟨_, rfl⟩
      have hk20 : Kept W18 W20 (fun k => k = p) := by rw [hW20]; exact (KB.setCell W18 ⟨p, 2, none⟩ _).kept
      have HV20 := Aside0.mk (show PV W20 p d m lb a mw 60 2 60 0 [(4, 60)] 5 (.slice none 0 0) _ by rw [hW20]; exact PV_ep HS.out.2.1 _)
      have HB20 := Aside0.mk (show Below w.heap.size w W20 by rw [hW20]; exact HS.out.1.setCell HLO.out.1 _)
      obtain ⟨sR, hsR⟩ : ∃ s : Ns, s = ⟨some ⟨g + 1 + 1, 0, none⟩, 2, none, 0, some ⟨g + 1 + 1 + 1, 0, none⟩, 2⟩ := ⟨_, rfl⟩
      obtain ⟨rt, hrt⟩ : ∃ x, x = Rt 1 low high := ⟨_, rfl⟩
      obtain ⟨cn, hcn⟩ : ∃ c, c = encN rt sR := ⟨_, rfl⟩
      have HN20 := Aside0.mk (show NV W20 rt sR by rw [hrt, hsR]; exact HS.out.2.2.2 W20 hk20)
      have HE20 := Aside0.mk (show W20.heap[g + 1 + 1 + 1 + 1]? = some (.cells cn 39 (0, 0)) by rw [hcn, hrt, hsR]; exact blk_kept HS.out.2.2.1 hk20 (by omega))
      have HCN := Aside0.mk (show cn.size = 4 by rw [hcn]; rfl)
      have HRL := Aside0.mk (show Right low ∧ Right high from ⟨by rw [HCL.out.1]; exact right_of (by decide) (by decide) (by rw [len_lw]; decide), by rw [HCH.out.1]; exact right_of (by decide) (by decide) (by rw [len_hg]; decide)⟩)
      have HRR := Aside0.mk (show RightN rt ∧ (nodeL rt).length = 112 by rw [hrt]; exact ⟨rightRt (by decide) ⟨HOL.out, HRL.out.1⟩ ⟨HOH.out, HRL.out.2⟩, len_rt HOL.out HOH.out⟩)
      have T3 := store_F p d m lb a mw 4 5 (.slice none 0 0) _ rt sR W20 HV20.out (by decide) HN20.out HRR.out.1 (by decide) (by rw [HRR.out.2]; decide)
      obtain ⟨root, hroot⟩ : ∃ r, r = ofP 4 5 (nodeL rt) := ⟨_, rfl⟩
      obtain ⟨cr, hcr⟩ : ∃ c, c = encP root := ⟨_, rfl⟩
      rw [← hcn, ← hroot, ← hcr] at T3
      have HOR := Aside0.mk (show Ok root by rw [hroot]; exact (putB_holds (fun _ => Z512) 4 5 (nodeL rt)).ok)
      have HCR := Aside0.mk (And.intro hroot (And.intro hcr (And.intro (show cr.size = 36 by rw [hcr]; exact encP_size HOR.out.len) (show cr.all (·.oneCell') = true by rw [hcr]; exact encP_one _))))
      have HRT := Aside0.mk hrt
      rw [← hW20]
      clear hW20 hk20 c2 f2 hsR hrt hcn hroot hcr
      go_wp2_with (refine load_cs rfl 39 (.tmp 10) rfl (g + 1 + 1 + 1 + 1) 0 cn _ rfl (range_pre HE20.out (fun _ _ => rfl)) Tryz.underlying39 rfl (by rw [HCN.out]; kernel_rfl) ?_)
      refine T3.mono ?_
      clear T3
      rintro e W21 ⟨rfl, hk21, hv21⟩
      have HB21 := Aside0.mk (show Below w.heap.size w W21 from HB20.out.trans (hk21.to_below (fun q hq => by have := HLO.out; omega) HB20.out.size))
      have HV21 := Aside0.mk hv21
      have hal21 := HAL.out W21
      obtain ⟨g11, hg11⟩ : ∃ g, g = W21.heap.size := ⟨_, rfl⟩
      have HG11 := Aside0.mk (show (W21.alloc (.cells z 32)).heap[g11]? = some (.cells z 32 (0, 0)) by rw [hg11]; exact blk_new W21 _)
      clear hk21 hv21
      go_upto_region 22 with (refine wpList_store_row rfl 32 (.tmp 11) (.tmp 100) rfl g11 cr (by show Value.pointer _ = _; rw [hg11]) rfl 32 z HG11.out (by rw [i33, HCR.out.2.2.1]) (by rw [HCR.out.2.2.1, HZS.out.1]) HCR.out.2.2.2 ?_)
      rw [← hg11]
      obtain ⟨W22, hW22⟩ : ∃ W, W = (W21.alloc (.cells z 32)).setRow g11 cr := ⟨_, rfl⟩
      have hb2122 : Below W21.heap.size W21 W22 := by
        rw [hW22]
        exact (KB_setRow (KB.of_below (below_alloc (Below.refl W21.heap.size W21) (.cells z 32)) (fun _ => False)) (by rw [hg11]; exact Nat.le_refl _) cr).to_below (fun k h => h.elim) (Nat.le_refl _)
      have HC22 := Aside0.mk (show W22.heap[g11]? = some (.cells cr 32 (0, 0)) by rw [hW22]; exact setRow_heap _ g11 z cr 32 _ HG11.out)
      have HB22 := Aside0.mk (below_then HB21.out HB21.out.size hb2122)
      have HV22 := Aside0.mk (HV21.out.below hb2122)
      rw [← hW22]
      clear hW22 hb2122 hg11 HG11 hal21
      obtain ⟨rd4, hrd4⟩ : ∃ rd, rd = putB (putB (putB (fun _ => Z512) 2 (nodeL Lw)) 3 (nodeL Hg)) 4 (nodeL rt) := ⟨_, rfl⟩
      have HNA := Aside0.mk (show Nod rd4 60 low Lw ∧ Nod rd4 60 high Hg ∧ Nod rd4 60 root (Rt 1 low high) from by
        rw [hrd4]
        refine ⟨?_, ?_, ?_⟩
        · rw [HCL.out.1]; exact nod_of (FrmA.Holds.put (FrmA.Holds.put (putB_holds (fun _ => Z512) 2 5 (nodeL Lw)) (.inl (by rw [len_lw]; decide))) (.inl (by rw [len_lw]; decide))) rightLw (by decide) (by decide) (by rw [len_lw]; decide) (by decide)
        · rw [HCH.out.1]; exact nod_of (FrmA.Holds.put (putB_holds _ 3 5 (nodeL Hg)) (.inl (by rw [len_hg]; decide))) rightHg (by decide) (by decide) (by rw [len_hg]; decide) (by decide)
        · rw [← HRT.out, HCR.out.1]; exact nod_of (putB_holds _ 4 5 (nodeL rt)) HRR.out.1 (by decide) (by decide) (by rw [HRR.out.2]; decide) (by decide))
      have hnz : root ≠ zeroP := by rw [HCR.out.1]; intro e; have := congrArg Ptr.at_ e; simp [ofP, zeroP] at this
      have hbi : low.birth = 5 ∧ high.birth = 5 ∧ root.birth = 5 := ⟨by rw [HCL.out.1]; rfl, by rw [HCH.out.1]; rfl, by rw [HCR.out.1]; rfl⟩
      obtain ⟨kR, hkR, hrunR⟩ := run_of HNA.out.1 HNA.out.2.1 HNA.out.2.2 (by decide) (.inl (by decide))
      have hv22 : PV W22 p d m lb a mw 60 2 60 0 [(4 + 1, 60)] 5 (.slice none 0 0) rd4 := by rw [hrd4]; exact HV22.out
      have T4 := walk12 p d m lb a mw 60 2 60 0 [(4 + 1, 60)] 5 (.slice none 0 0) rd4 root kR _ W22 hv22 (by decide) (by decide) HOR.out hnz (by omega) hrunR
      rw [← HCR.out.2.1] at T4
      clear hnz hbi hkR hrunR hv22 hrd4
      go_upto_region 24 with (fail)
      go_wp2_with (refine load_cs rfl 32 (.tmp 11) rfl g11 0 cr _ rfl (range_pre HC22.out (fun _ _ => rfl)) underl56 rfl (by rw [HCR.out.2.2.1]; kernel_rfl) ?_)
      refine T4.mono ?_
      clear T4
      rintro e W23 ⟨hb23, hr⟩
      have HB23 := Aside0.mk (below_then HB22.out HB22.out.size hb23)
      clear hb23
      have he : e = .returned (.tuple #[.agg #[.slice none 0 0, .int .i64 0, .int .i64 0], .int .i64 11]) := hr
      clear hr
      subst he
      obtain ⟨cf, hcf⟩ : ∃ cs : Array Value, cs = #[.slice none 0 0, .int .i64 0, .int .i64 0] := ⟨_, rfl⟩
      rw [← hcf]
      have HCF := Aside0.mk (And.intro hcf (And.intro (show cf.size = 3 by rw [hcf]; rfl) (show cf.all (·.oneCell') = true by rw [hcf, ← Array.all_toList]; rfl)))
      obtain ⟨g12, hg12⟩ : ∃ g, g = W23.heap.size := ⟨_, rfl⟩
      have HG12 := Aside0.mk (show (W23.alloc (.cells #[.slice none 0 0, .int .i64 0, .int .i64 0] 41)).heap[g12]? = some (.cells #[.slice none 0 0, .int .i64 0, .int .i64 0] 41 (0, 0)) by rw [hg12]; exact blk_new W23 _)
      clear hcf
      go_upto_region 25 with (refine wpList_store_row rfl 41 (.tmp 12) (.tmp 108) rfl g12 cf (by show Value.pointer _ = _; rw [hg12]) rfl 41 _ HG12.out (by rw [HCF.out.2.1]; kernel_rfl) (by rw [HCF.out.2.1]; rfl) HCF.out.2.2 ?_)
      rw [← hg12]
      obtain ⟨W24, hW24⟩ : ∃ W, W = (W23.alloc (.cells #[.slice none 0 0, .int .i64 0, .int .i64 0] 41)).setRow g12 cf := ⟨_, rfl⟩
      have HB24 := Aside0.mk (show Below w.heap.size w W24 by
        rw [hW24]
        exact (KB_setRow (KB.of_below (below_alloc HB23.out (.cells #[.slice none 0 0, .int .i64 0, .int .i64 0] 41)) (fun _ => False)) (by rw [hg12]; exact HB23.out.size) cf).to_below (fun k h => h.elim) (Nat.le_refl _))
      have hc24 : W24.heap[g12]? = some (.cells cf 41 (0, 0)) := by rw [hW24]; exact setRow_heap _ g12 _ cf 41 _ HG12.out
      rw [HCF.out.1] at hc24
      have r0 := cell_of_row W24 g12 0 _ 41 (0, 0) hc24
      have r1 := cell_of_row W24 g12 1 _ 41 (0, 0) hc24
      have r2 := cell_of_row W24 g12 2 _ 41 (0, 0) hc24
      simp only [List.getElem?_toArray, List.getElem?_cons_zero, List.getElem?_cons_succ] at r0 r1 r2
      rw [← hW24]
      clear hW24 hg12 hc24
      go_wp2
      rw [HP.out]
      exact ⟨rfl, HB24.out⟩
    · have hx : bits .and .i64 x 3 = 2 := hx
      have c10 : W15.cell? ⟨g + 1 + 1 + 1 + 1, 1, none⟩ = some (sl2 (g + 1 + 1)) := by rw [cell_of_row _ _ 1 _ 39 (0, 0) HBLK.out.2.2.2.2]; rfl
      have HEK := Aside0.mk (show (W15.alloc (.cells #[.int .u8 97] 5 (1, 2))).heap[g + 1 + 1]? = some (.cells #[sl g, sl (g + 1)] 36 (0, 0)) from old_alloc HBLK.out.2.2.1 rfl)
      have cK : (W15.alloc (.cells #[.int .u8 97] 5 (1, 2))).cell? ⟨g + 1 + 1, 0, none⟩ = some (sl g) := by rw [cell_of_row _ _ 0 _ 36 (0, 0) HEK.out]; rfl
      have fK := frozen_of_row (W15.alloc (.cells #[.int .u8 97] 5 (1, 2))) (g + 1 + 1) 0 _ 36 HEK.out
      go_upto_region 18 with (refine conv_L rfl _ rfl _ _ rfl rfl (by simp) ?_)
      obtain ⟨W18, hW18⟩ : ∃ W, W = (W15.alloc (.cells #[.int .u8 97] 5 (1, 2))).setCell ⟨g + 1 + 1, 0, none⟩ (sl W15.heap.size) := ⟨_, rfl⟩
      have HS := Aside0.mk (show Below w.heap.size w W18 ∧ PV W18 p d m lb a mw 60 2 60 0 [(4, 60)] 5 (.slice none 0 0) _ ∧ W18.heap[g + 1 + 1 + 1 + 1]? = some (.cells #[.int .i64 1, sl2 (g + 1 + 1), .slice none 0 0, sl2 (g + 1 + 1 + 1)] 39 (0, 0)) ∧ ∀ W', Kept W18 W' (fun k => k = p) → NV W' (Rt 2 low high) ⟨some ⟨g + 1 + 1, 0, none⟩, 2, none, 0, some ⟨g + 1 + 1 + 1, 0, none⟩, 2⟩ by
        obtain ⟨e98, e102, ek, ed, e10⟩ := HBLK.out
        rw [HCL.out.2.1, HCH.out.2.1] at ed
        have hg := HGW.out
        have hl10 := blk_lt e10
        have hk18 : Kept (W15.alloc (.cells #[.int .u8 97] 5 (1, 2))) W18 (fun k => k = g + 1 + 1) := by rw [hW18]; exact (KB.setCell (W15.alloc (.cells #[.int .u8 97] 5 (1, 2))) ⟨g + 1 + 1, 0, none⟩ _).kept
        have hnew : W18.heap[W15.heap.size]? = some (.cells #[.int .u8 97] 5 (1, 2)) := blk_kept (blk_new W15 _) hk18 (by omega)
        have hek : W18.heap[g + 1 + 1]? = some (.cells #[sl W15.heap.size, sl (g + 1)] 36 (0, 0)) := by rw [hW18]; exact heap_setCell_same _ _ _ _ _ _ HEK.out
        exact ⟨by rw [hW18]; exact (below_alloc HB15.out _).setCell (by show w.heap.size ≤ g + 1 + 1; omega) _, PV_new (HV15.out.below (below_alloc (Below.refl _ _) _)) hk18 (fun k hk => by have h13 := HG13.out; subst hk; exact ⟨by omega, by omega, by omega, by omega, by omega, by omega, fun cs e => by rw [HEK.out] at e; simp at e⟩), blk_kept (old_alloc e10 rfl) hk18 (by omega), fun W' hk => root_nv (blk_kept (hnew) hk (by omega)) (blk_kept (blk_kept (old_alloc e102 rfl) hk18 (by omega)) hk (by omega)) (blk_kept hek hk (by omega)) (blk_kept (blk_kept (old_alloc ed rfl) hk18 (by omega)) hk (by omega)) HOL.out HOH.out⟩)
      rw [← hW18]
      clear hW18 c10 cK fK
      have c2 : W18.cell? ⟨p, 2, none⟩ = some (.int .i64 5) := by rw [cell_of_row _ _ 2 _ 28 (0, 0) HS.out.2.1.po.blk]; rfl
      have f2 := frozen_of_row W18 p 2 _ 28 HS.out.2.1.po.blk
      go_upto_region 21 with (fail)
      obtain ⟨W20, hW20⟩ : ∃ W, W = W18.setCell ⟨p, 2, none⟩ (.int .i64 5) := ⟨_, rfl⟩
      have hk20 : Kept W18 W20 (fun k => k = p) := by rw [hW20]; exact (KB.setCell W18 ⟨p, 2, none⟩ _).kept
      have HV20 := Aside0.mk (show PV W20 p d m lb a mw 60 2 60 0 [(4, 60)] 5 (.slice none 0 0) _ by rw [hW20]; exact PV_ep HS.out.2.1 _)
      have HB20 := Aside0.mk (show Below w.heap.size w W20 by rw [hW20]; exact HS.out.1.setCell HLO.out.1 _)
      obtain ⟨sR, hsR⟩ : ∃ s : Ns, s = ⟨some ⟨g + 1 + 1, 0, none⟩, 2, none, 0, some ⟨g + 1 + 1 + 1, 0, none⟩, 2⟩ := ⟨_, rfl⟩
      obtain ⟨rt, hrt⟩ : ∃ x, x = Rt 2 low high := ⟨_, rfl⟩
      obtain ⟨cn, hcn⟩ : ∃ c, c = encN rt sR := ⟨_, rfl⟩
      have HN20 := Aside0.mk (show NV W20 rt sR by rw [hrt, hsR]; exact HS.out.2.2.2 W20 hk20)
      have HE20 := Aside0.mk (show W20.heap[g + 1 + 1 + 1 + 1]? = some (.cells cn 39 (0, 0)) by rw [hcn, hrt, hsR]; exact blk_kept HS.out.2.2.1 hk20 (by omega))
      have HCN := Aside0.mk (show cn.size = 4 by rw [hcn]; rfl)
      have HRL := Aside0.mk (show Right low ∧ Right high from ⟨by rw [HCL.out.1]; exact right_of (by decide) (by decide) (by rw [len_lw]; decide), by rw [HCH.out.1]; exact right_of (by decide) (by decide) (by rw [len_hg]; decide)⟩)
      have HRR := Aside0.mk (show RightN rt ∧ (nodeL rt).length = 112 by rw [hrt]; exact ⟨rightRt (by decide) ⟨HOL.out, HRL.out.1⟩ ⟨HOH.out, HRL.out.2⟩, len_rt HOL.out HOH.out⟩)
      have T3 := store_F p d m lb a mw 4 5 (.slice none 0 0) _ rt sR W20 HV20.out (by decide) HN20.out HRR.out.1 (by decide) (by rw [HRR.out.2]; decide)
      obtain ⟨root, hroot⟩ : ∃ r, r = ofP 4 5 (nodeL rt) := ⟨_, rfl⟩
      obtain ⟨cr, hcr⟩ : ∃ c, c = encP root := ⟨_, rfl⟩
      rw [← hcn, ← hroot, ← hcr] at T3
      have HOR := Aside0.mk (show Ok root by rw [hroot]; exact (putB_holds (fun _ => Z512) 4 5 (nodeL rt)).ok)
      have HCR := Aside0.mk (And.intro hroot (And.intro hcr (And.intro (show cr.size = 36 by rw [hcr]; exact encP_size HOR.out.len) (show cr.all (·.oneCell') = true by rw [hcr]; exact encP_one _))))
      have HRT := Aside0.mk hrt
      rw [← hW20]
      clear hW20 hk20 c2 f2 hsR hrt hcn hroot hcr
      go_wp2_with (refine load_cs rfl 39 (.tmp 10) rfl (g + 1 + 1 + 1 + 1) 0 cn _ rfl (range_pre HE20.out (fun _ _ => rfl)) Tryz.underlying39 rfl (by rw [HCN.out]; kernel_rfl) ?_)
      refine T3.mono ?_
      clear T3
      rintro e W21 ⟨rfl, hk21, hv21⟩
      have HB21 := Aside0.mk (show Below w.heap.size w W21 from HB20.out.trans (hk21.to_below (fun q hq => by have := HLO.out; omega) HB20.out.size))
      have HV21 := Aside0.mk hv21
      have hal21 := HAL.out W21
      obtain ⟨g11, hg11⟩ : ∃ g, g = W21.heap.size := ⟨_, rfl⟩
      have HG11 := Aside0.mk (show (W21.alloc (.cells z 32)).heap[g11]? = some (.cells z 32 (0, 0)) by rw [hg11]; exact blk_new W21 _)
      clear hk21 hv21
      go_upto_region 22 with (refine wpList_store_row rfl 32 (.tmp 11) (.tmp 100) rfl g11 cr (by show Value.pointer _ = _; rw [hg11]) rfl 32 z HG11.out (by rw [i33, HCR.out.2.2.1]) (by rw [HCR.out.2.2.1, HZS.out.1]) HCR.out.2.2.2 ?_)
      rw [← hg11]
      obtain ⟨W22, hW22⟩ : ∃ W, W = (W21.alloc (.cells z 32)).setRow g11 cr := ⟨_, rfl⟩
      have hb2122 : Below W21.heap.size W21 W22 := by
        rw [hW22]
        exact (KB_setRow (KB.of_below (below_alloc (Below.refl W21.heap.size W21) (.cells z 32)) (fun _ => False)) (by rw [hg11]; exact Nat.le_refl _) cr).to_below (fun k h => h.elim) (Nat.le_refl _)
      have HC22 := Aside0.mk (show W22.heap[g11]? = some (.cells cr 32 (0, 0)) by rw [hW22]; exact setRow_heap _ g11 z cr 32 _ HG11.out)
      have HB22 := Aside0.mk (below_then HB21.out HB21.out.size hb2122)
      have HV22 := Aside0.mk (HV21.out.below hb2122)
      rw [← hW22]
      clear hW22 hb2122 hg11 HG11 hal21
      obtain ⟨rd4, hrd4⟩ : ∃ rd, rd = putB (putB (putB (fun _ => Z512) 2 (nodeL Lw)) 3 (nodeL Hg)) 4 (nodeL rt) := ⟨_, rfl⟩
      have HNA := Aside0.mk (show Nod rd4 60 low Lw ∧ Nod rd4 60 high Hg ∧ Nod rd4 60 root (Rt 2 low high) from by
        rw [hrd4]
        refine ⟨?_, ?_, ?_⟩
        · rw [HCL.out.1]; exact nod_of (FrmA.Holds.put (FrmA.Holds.put (putB_holds (fun _ => Z512) 2 5 (nodeL Lw)) (.inl (by rw [len_lw]; decide))) (.inl (by rw [len_lw]; decide))) rightLw (by decide) (by decide) (by rw [len_lw]; decide) (by decide)
        · rw [HCH.out.1]; exact nod_of (FrmA.Holds.put (putB_holds _ 3 5 (nodeL Hg)) (.inl (by rw [len_hg]; decide))) rightHg (by decide) (by decide) (by rw [len_hg]; decide) (by decide)
        · rw [← HRT.out, HCR.out.1]; exact nod_of (putB_holds _ 4 5 (nodeL rt)) HRR.out.1 (by decide) (by decide) (by rw [HRR.out.2]; decide) (by decide))
      have hnz : root ≠ zeroP := by rw [HCR.out.1]; intro e; have := congrArg Ptr.at_ e; simp [ofP, zeroP] at this
      have hbi : low.birth = 5 ∧ high.birth = 5 ∧ root.birth = 5 := ⟨by rw [HCL.out.1]; rfl, by rw [HCH.out.1]; rfl, by rw [HCR.out.1]; rfl⟩
      obtain ⟨kR, hkR, hrunR⟩ := run_of HNA.out.1 HNA.out.2.1 HNA.out.2.2 (by decide) (.inl (by decide))
      have hv22 : PV W22 p d m lb a mw 60 2 60 0 [(4 + 1, 60)] 5 (.slice none 0 0) rd4 := by rw [hrd4]; exact HV22.out
      have T4 := walk12 p d m lb a mw 60 2 60 0 [(4 + 1, 60)] 5 (.slice none 0 0) rd4 root kR _ W22 hv22 (by decide) (by decide) HOR.out hnz (by omega) hrunR
      rw [← HCR.out.2.1] at T4
      clear hnz hbi hkR hrunR hv22 hrd4
      go_upto_region 24 with (fail)
      go_wp2_with (refine load_cs rfl 32 (.tmp 11) rfl g11 0 cr _ rfl (range_pre HC22.out (fun _ _ => rfl)) underl56 rfl (by rw [HCR.out.2.2.1]; kernel_rfl) ?_)
      refine T4.mono ?_
      clear T4
      rintro e W23 ⟨hb23, hr⟩
      have HB23 := Aside0.mk (below_then HB22.out HB22.out.size hb23)
      clear hb23
      have he : e = .returned (.tuple #[.agg #[.slice none 0 0, .int .i64 0, .int .i64 0], .int .i64 11]) := hr
      clear hr
      subst he
      obtain ⟨cf, hcf⟩ : ∃ cs : Array Value, cs = #[.slice none 0 0, .int .i64 0, .int .i64 0] := ⟨_, rfl⟩
      rw [← hcf]
      have HCF := Aside0.mk (And.intro hcf (And.intro (show cf.size = 3 by rw [hcf]; rfl) (show cf.all (·.oneCell') = true by rw [hcf, ← Array.all_toList]; rfl)))
      obtain ⟨g12, hg12⟩ : ∃ g, g = W23.heap.size := ⟨_, rfl⟩
      have HG12 := Aside0.mk (show (W23.alloc (.cells #[.slice none 0 0, .int .i64 0, .int .i64 0] 41)).heap[g12]? = some (.cells #[.slice none 0 0, .int .i64 0, .int .i64 0] 41 (0, 0)) by rw [hg12]; exact blk_new W23 _)
      clear hcf
      go_upto_region 25 with (refine wpList_store_row rfl 41 (.tmp 12) (.tmp 108) rfl g12 cf (by show Value.pointer _ = _; rw [hg12]) rfl 41 _ HG12.out (by rw [HCF.out.2.1]; kernel_rfl) (by rw [HCF.out.2.1]; rfl) HCF.out.2.2 ?_)
      rw [← hg12]
      obtain ⟨W24, hW24⟩ : ∃ W, W = (W23.alloc (.cells #[.slice none 0 0, .int .i64 0, .int .i64 0] 41)).setRow g12 cf := ⟨_, rfl⟩
      have HB24 := Aside0.mk (show Below w.heap.size w W24 by
        rw [hW24]
        exact (KB_setRow (KB.of_below (below_alloc HB23.out (.cells #[.slice none 0 0, .int .i64 0, .int .i64 0] 41)) (fun _ => False)) (by rw [hg12]; exact HB23.out.size) cf).to_below (fun k h => h.elim) (Nat.le_refl _))
      have hc24 : W24.heap[g12]? = some (.cells cf 41 (0, 0)) := by rw [hW24]; exact setRow_heap _ g12 _ cf 41 _ HG12.out
      rw [HCF.out.1] at hc24
      have r0 := cell_of_row W24 g12 0 _ 41 (0, 0) hc24
      have r1 := cell_of_row W24 g12 1 _ 41 (0, 0) hc24
      have r2 := cell_of_row W24 g12 2 _ 41 (0, 0) hc24
      simp only [List.getElem?_toArray, List.getElem?_cons_zero, List.getElem?_cons_succ] at r0 r1 r2
      rw [← hW24]
      clear hW24 hg12 hc24
      go_wp2
      rw [HP.out]
      exact ⟨rfl, HB24.out⟩
    · have hx : bits .and .i64 x 3 = 3 := hx
      have c10 : W15.cell? ⟨g + 1 + 1 + 1 + 1, 1, none⟩ = some (sl2 (g + 1 + 1)) := by rw [cell_of_row _ _ 1 _ 39 (0, 0) HBLK.out.2.2.2.2]; rfl
      have HEK := Aside0.mk (show (W15.alloc (.cells #[.int .u8 99] 5 (1, 2))).heap[g + 1 + 1]? = some (.cells #[sl g, sl (g + 1)] 36 (0, 0)) from old_alloc HBLK.out.2.2.1 rfl)
      have cK : (W15.alloc (.cells #[.int .u8 99] 5 (1, 2))).cell? ⟨g + 1 + 1, 1, none⟩ = some (sl (g + 1)) := by rw [cell_of_row _ _ 1 _ 36 (0, 0) HEK.out]; rfl
      have fK := frozen_of_row (W15.alloc (.cells #[.int .u8 99] 5 (1, 2))) (g + 1 + 1) 1 _ 36 HEK.out
      go_upto_region 18 with (refine conv_L rfl _ rfl _ _ rfl rfl (by simp) ?_)
      obtain ⟨W18, hW18⟩ : ∃ W, W = (W15.alloc (.cells #[.int .u8 99] 5 (1, 2))).setCell ⟨g + 1 + 1, 1, none⟩ (sl W15.heap.size) := ⟨_, rfl⟩
      have HS := Aside0.mk (show Below w.heap.size w W18 ∧ PV W18 p d m lb a mw 60 2 60 0 [(4, 60)] 5 (.slice none 0 0) _ ∧ W18.heap[g + 1 + 1 + 1 + 1]? = some (.cells #[.int .i64 1, sl2 (g + 1 + 1), .slice none 0 0, sl2 (g + 1 + 1 + 1)] 39 (0, 0)) ∧ ∀ W', Kept W18 W' (fun k => k = p) → NV W' (Rt 3 low high) ⟨some ⟨g + 1 + 1, 0, none⟩, 2, none, 0, some ⟨g + 1 + 1 + 1, 0, none⟩, 2⟩ by
        obtain ⟨e98, e102, ek, ed, e10⟩ := HBLK.out
        rw [HCL.out.2.1, HCH.out.2.1] at ed
        have hg := HGW.out
        have hl10 := blk_lt e10
        have hk18 : Kept (W15.alloc (.cells #[.int .u8 99] 5 (1, 2))) W18 (fun k => k = g + 1 + 1) := by rw [hW18]; exact (KB.setCell (W15.alloc (.cells #[.int .u8 99] 5 (1, 2))) ⟨g + 1 + 1, 1, none⟩ _).kept
        have hnew : W18.heap[W15.heap.size]? = some (.cells #[.int .u8 99] 5 (1, 2)) := blk_kept (blk_new W15 _) hk18 (by omega)
        have hek : W18.heap[g + 1 + 1]? = some (.cells #[sl g, sl W15.heap.size] 36 (0, 0)) := by rw [hW18]; exact heap_setCell_same _ _ _ _ _ _ HEK.out
        exact ⟨by rw [hW18]; exact (below_alloc HB15.out _).setCell (by show w.heap.size ≤ g + 1 + 1; omega) _, PV_new (HV15.out.below (below_alloc (Below.refl _ _) _)) hk18 (fun k hk => by have h13 := HG13.out; subst hk; exact ⟨by omega, by omega, by omega, by omega, by omega, by omega, fun cs e => by rw [HEK.out] at e; simp at e⟩), blk_kept (old_alloc e10 rfl) hk18 (by omega), fun W' hk => root_nv (blk_kept (blk_kept (old_alloc e98 rfl) hk18 (by omega)) hk (by omega)) (blk_kept (hnew) hk (by omega)) (blk_kept hek hk (by omega)) (blk_kept (blk_kept (old_alloc ed rfl) hk18 (by omega)) hk (by omega)) HOL.out HOH.out⟩)
      rw [← hW18]
      clear hW18 c10 cK fK
      have c2 : W18.cell? ⟨p, 2, none⟩ = some (.int .i64 5) := by rw [cell_of_row _ _ 2 _ 28 (0, 0) HS.out.2.1.po.blk]; rfl
      have f2 := frozen_of_row W18 p 2 _ 28 HS.out.2.1.po.blk
      go_upto_region 21 with (fail)
      obtain ⟨W20, hW20⟩ : ∃ W, W = W18.setCell ⟨p, 2, none⟩ (.int .i64 5) := ⟨_, rfl⟩
      have hk20 : Kept W18 W20 (fun k => k = p) := by rw [hW20]; exact (KB.setCell W18 ⟨p, 2, none⟩ _).kept
      have HV20 := Aside0.mk (show PV W20 p d m lb a mw 60 2 60 0 [(4, 60)] 5 (.slice none 0 0) _ by rw [hW20]; exact PV_ep HS.out.2.1 _)
      have HB20 := Aside0.mk (show Below w.heap.size w W20 by rw [hW20]; exact HS.out.1.setCell HLO.out.1 _)
      obtain ⟨sR, hsR⟩ : ∃ s : Ns, s = ⟨some ⟨g + 1 + 1, 0, none⟩, 2, none, 0, some ⟨g + 1 + 1 + 1, 0, none⟩, 2⟩ := ⟨_, rfl⟩
      obtain ⟨rt, hrt⟩ : ∃ x, x = Rt 3 low high := ⟨_, rfl⟩
      obtain ⟨cn, hcn⟩ : ∃ c, c = encN rt sR := ⟨_, rfl⟩
      have HN20 := Aside0.mk (show NV W20 rt sR by rw [hrt, hsR]; exact HS.out.2.2.2 W20 hk20)
      have HE20 := Aside0.mk (show W20.heap[g + 1 + 1 + 1 + 1]? = some (.cells cn 39 (0, 0)) by rw [hcn, hrt, hsR]; exact blk_kept HS.out.2.2.1 hk20 (by omega))
      have HCN := Aside0.mk (show cn.size = 4 by rw [hcn]; rfl)
      have HRL := Aside0.mk (show Right low ∧ Right high from ⟨by rw [HCL.out.1]; exact right_of (by decide) (by decide) (by rw [len_lw]; decide), by rw [HCH.out.1]; exact right_of (by decide) (by decide) (by rw [len_hg]; decide)⟩)
      have HRR := Aside0.mk (show RightN rt ∧ (nodeL rt).length = 112 by rw [hrt]; exact ⟨rightRt (by decide) ⟨HOL.out, HRL.out.1⟩ ⟨HOH.out, HRL.out.2⟩, len_rt HOL.out HOH.out⟩)
      have T3 := store_F p d m lb a mw 4 5 (.slice none 0 0) _ rt sR W20 HV20.out (by decide) HN20.out HRR.out.1 (by decide) (by rw [HRR.out.2]; decide)
      obtain ⟨root, hroot⟩ : ∃ r, r = ofP 4 5 (nodeL rt) := ⟨_, rfl⟩
      obtain ⟨cr, hcr⟩ : ∃ c, c = encP root := ⟨_, rfl⟩
      rw [← hcn, ← hroot, ← hcr] at T3
      have HOR := Aside0.mk (show Ok root by rw [hroot]; exact (putB_holds (fun _ => Z512) 4 5 (nodeL rt)).ok)
      have HCR := Aside0.mk (And.intro hroot (And.intro hcr (And.intro (show cr.size = 36 by rw [hcr]; exact encP_size HOR.out.len) (show cr.all (·.oneCell') = true by rw [hcr]; exact encP_one _))))
      have HRT := Aside0.mk hrt
      rw [← hW20]
      clear hW20 hk20 c2 f2 hsR hrt hcn hroot hcr
      go_wp2_with (refine load_cs rfl 39 (.tmp 10) rfl (g + 1 + 1 + 1 + 1) 0 cn _ rfl (range_pre HE20.out (fun _ _ => rfl)) Tryz.underlying39 rfl (by rw [HCN.out]; kernel_rfl) ?_)
      refine T3.mono ?_
      clear T3
      rintro e W21 ⟨rfl, hk21, hv21⟩
      have HB21 := Aside0.mk (show Below w.heap.size w W21 from HB20.out.trans (hk21.to_below (fun q hq => by have := HLO.out; omega) HB20.out.size))
      have HV21 := Aside0.mk hv21
      have hal21 := HAL.out W21
      obtain ⟨g11, hg11⟩ : ∃ g, g = W21.heap.size := ⟨_, rfl⟩
      have HG11 := Aside0.mk (show (W21.alloc (.cells z 32)).heap[g11]? = some (.cells z 32 (0, 0)) by rw [hg11]; exact blk_new W21 _)
      clear hk21 hv21
      go_upto_region 22 with (refine wpList_store_row rfl 32 (.tmp 11) (.tmp 100) rfl g11 cr (by show Value.pointer _ = _; rw [hg11]) rfl 32 z HG11.out (by rw [i33, HCR.out.2.2.1]) (by rw [HCR.out.2.2.1, HZS.out.1]) HCR.out.2.2.2 ?_)
      rw [← hg11]
      obtain ⟨W22, hW22⟩ : ∃ W, W = (W21.alloc (.cells z 32)).setRow g11 cr := ⟨_, rfl⟩
      have hb2122 : Below W21.heap.size W21 W22 := by
        rw [hW22]
        exact (KB_setRow (KB.of_below (below_alloc (Below.refl W21.heap.size W21) (.cells z 32)) (fun _ => False)) (by rw [hg11]; exact Nat.le_refl _) cr).to_below (fun k h => h.elim) (Nat.le_refl _)
      have HC22 := Aside0.mk (show W22.heap[g11]? = some (.cells cr 32 (0, 0)) by rw [hW22]; exact setRow_heap _ g11 z cr 32 _ HG11.out)
      have HB22 := Aside0.mk (below_then HB21.out HB21.out.size hb2122)
      have HV22 := Aside0.mk (HV21.out.below hb2122)
      rw [← hW22]
      clear hW22 hb2122 hg11 HG11 hal21
      obtain ⟨rd4, hrd4⟩ : ∃ rd, rd = putB (putB (putB (fun _ => Z512) 2 (nodeL Lw)) 3 (nodeL Hg)) 4 (nodeL rt) := ⟨_, rfl⟩
      have HNA := Aside0.mk (show Nod rd4 60 low Lw ∧ Nod rd4 60 high Hg ∧ Nod rd4 60 root (Rt 3 low high) from by
        rw [hrd4]
        refine ⟨?_, ?_, ?_⟩
        · rw [HCL.out.1]; exact nod_of (FrmA.Holds.put (FrmA.Holds.put (putB_holds (fun _ => Z512) 2 5 (nodeL Lw)) (.inl (by rw [len_lw]; decide))) (.inl (by rw [len_lw]; decide))) rightLw (by decide) (by decide) (by rw [len_lw]; decide) (by decide)
        · rw [HCH.out.1]; exact nod_of (FrmA.Holds.put (putB_holds _ 3 5 (nodeL Hg)) (.inl (by rw [len_hg]; decide))) rightHg (by decide) (by decide) (by rw [len_hg]; decide) (by decide)
        · rw [← HRT.out, HCR.out.1]; exact nod_of (putB_holds _ 4 5 (nodeL rt)) HRR.out.1 (by decide) (by decide) (by rw [HRR.out.2]; decide) (by decide))
      have hnz : root ≠ zeroP := by rw [HCR.out.1]; intro e; have := congrArg Ptr.at_ e; simp [ofP, zeroP] at this
      have hbi : low.birth = 5 ∧ high.birth = 5 ∧ root.birth = 5 := ⟨by rw [HCL.out.1]; rfl, by rw [HCH.out.1]; rfl, by rw [HCR.out.1]; rfl⟩
      obtain ⟨kR, hkR, hrunR⟩ := run_of HNA.out.1 HNA.out.2.1 HNA.out.2.2 (by decide) (.inl (by decide))
      have hv22 : PV W22 p d m lb a mw 60 2 60 0 [(4 + 1, 60)] 5 (.slice none 0 0) rd4 := by rw [hrd4]; exact HV22.out
      have T4 := walk12 p d m lb a mw 60 2 60 0 [(4 + 1, 60)] 5 (.slice none 0 0) rd4 root kR _ W22 hv22 (by decide) (by decide) HOR.out hnz (by omega) hrunR
      rw [← HCR.out.2.1] at T4
      clear hnz hbi hkR hrunR hv22 hrd4
      go_upto_region 24 with (fail)
      go_wp2_with (refine load_cs rfl 32 (.tmp 11) rfl g11 0 cr _ rfl (range_pre HC22.out (fun _ _ => rfl)) underl56 rfl (by rw [HCR.out.2.2.1]; kernel_rfl) ?_)
      refine T4.mono ?_
      clear T4
      rintro e W23 ⟨hb23, hr⟩
      have HB23 := Aside0.mk (below_then HB22.out HB22.out.size hb23)
      clear hb23
      have he : e = .returned (.tuple #[.agg #[.slice none 0 0, .int .i64 0, .int .i64 0], .int .i64 11]) := hr
      clear hr
      subst he
      obtain ⟨cf, hcf⟩ : ∃ cs : Array Value, cs = #[.slice none 0 0, .int .i64 0, .int .i64 0] := ⟨_, rfl⟩
      rw [← hcf]
      have HCF := Aside0.mk (And.intro hcf (And.intro (show cf.size = 3 by rw [hcf]; rfl) (show cf.all (·.oneCell') = true by rw [hcf, ← Array.all_toList]; rfl)))
      obtain ⟨g12, hg12⟩ : ∃ g, g = W23.heap.size := ⟨_, rfl⟩
      have HG12 := Aside0.mk (show (W23.alloc (.cells #[.slice none 0 0, .int .i64 0, .int .i64 0] 41)).heap[g12]? = some (.cells #[.slice none 0 0, .int .i64 0, .int .i64 0] 41 (0, 0)) by rw [hg12]; exact blk_new W23 _)
      clear hcf
      go_upto_region 25 with (refine wpList_store_row rfl 41 (.tmp 12) (.tmp 108) rfl g12 cf (by show Value.pointer _ = _; rw [hg12]) rfl 41 _ HG12.out (by rw [HCF.out.2.1]; kernel_rfl) (by rw [HCF.out.2.1]; rfl) HCF.out.2.2 ?_)
      rw [← hg12]
      obtain ⟨W24, hW24⟩ : ∃ W, W = (W23.alloc (.cells #[.slice none 0 0, .int .i64 0, .int .i64 0] 41)).setRow g12 cf := ⟨_, rfl⟩
      have HB24 := Aside0.mk (show Below w.heap.size w W24 by
        rw [hW24]
        exact (KB_setRow (KB.of_below (below_alloc HB23.out (.cells #[.slice none 0 0, .int .i64 0, .int .i64 0] 41)) (fun _ => False)) (by rw [hg12]; exact HB23.out.size) cf).to_below (fun k h => h.elim) (Nat.le_refl _))
      have hc24 : W24.heap[g12]? = some (.cells cf 41 (0, 0)) := by rw [hW24]; exact setRow_heap _ g12 _ cf 41 _ HG12.out
      rw [HCF.out.1] at hc24
      have r0 := cell_of_row W24 g12 0 _ 41 (0, 0) hc24
      have r1 := cell_of_row W24 g12 1 _ 41 (0, 0) hc24
      have r2 := cell_of_row W24 g12 2 _ 41 (0, 0) hc24
      simp only [List.getElem?_toArray, List.getElem?_cons_zero, List.getElem?_cons_succ] at r0 r1 r2
      rw [← hW24]
      clear hW24 hg12 hc24
      go_wp2
      rw [HP.out]
      exact ⟨rfl, HB24.out⟩
  · obtain ⟨q, hq, hx⟩ := HQ0
    have hc : q = 0 ∨ q = 1 ∨ q = 2 ∨ q = 3 := by omega
    rcases hc with rfl | rfl | rfl | rfl
    · have hx : bits .and .i64 x 3 = 0 := hx
      go_upto_region 18 with (fail)
      obtain ⟨W18, hW18⟩ : ∃ W, W = W15 := ⟨_, rfl⟩
      have HS := Aside0.mk (show Below w.heap.size w W18 ∧ PV W18 p d m lb a mw 60 2 60 0 [(4, 60)] 5 (.slice none 0 0) _ ∧ W18.heap[g + 1 + 1 + 1 + 1]? = some (.cells #[.int .i64 1, sl2 (g + 1 + 1), .slice none 0 0, sl2 (g + 1 + 1 + 1)] 39 (0, 0)) ∧ ∀ W', Kept W18 W' (fun k => k = p) → NV W' (Rt 0 low high) ⟨some ⟨g + 1 + 1, 0, none⟩, 2, none, 0, some ⟨g + 1 + 1 + 1, 0, none⟩, 2⟩ by
        rw [hW18]
        obtain ⟨e98, e102, ek, ed, e10⟩ := HBLK.out
        rw [HCL.out.2.1, HCH.out.2.1] at ed
        exact ⟨HB15.out, HV15.out, e10, fun W' hk => root_nv (blk_kept e98 hk (by omega)) (blk_kept e102 hk (by omega)) (blk_kept ek hk (by omega)) (blk_kept ed hk (by omega)) HOL.out HOH.out⟩)
      rw [← hW18]
      clear hW18
      have c2 : W18.cell? ⟨p, 2, none⟩ = some (.int .i64 5) := by rw [cell_of_row _ _ 2 _ 28 (0, 0) HS.out.2.1.po.blk]; rfl
      have f2 := frozen_of_row W18 p 2 _ 28 HS.out.2.1.po.blk
      go_upto_region 21 with (fail)
      obtain ⟨W20, hW20⟩ : ∃ W, W = (W18.setCell ⟨p, 2, none⟩ (.int .i64 6)).setCell ⟨p, 2, none⟩ (.int .i64 4) := ⟨_, rfl⟩
      have hk20 : Kept W18 W20 (fun k => k = p) := by rw [hW20]; exact ((KB.setCell W18 ⟨p, 2, none⟩ _).then_ (KB.setCell _ ⟨p, 2, none⟩ _) (fun k h => .inl h)).kept
      have HV20 := Aside0.mk (show PV W20 p d m lb a mw 60 2 60 0 [(4, 60)] 4 (.slice none 0 0) _ by rw [hW20]; exact PV_ep (PV_ep HS.out.2.1 _) _)
      have HB20 := Aside0.mk (show Below w.heap.size w W20 by rw [hW20]; exact (HS.out.1.setCell HLO.out.1 _).setCell HLO.out.1 _)
      obtain ⟨sR, hsR⟩ : ∃ s : Ns, s = ⟨some ⟨g + 1 + 1, 0, none⟩, 2, none, 0, some ⟨g + 1 + 1 + 1, 0, none⟩, 2⟩ := ⟨_, rfl⟩
      obtain ⟨rt, hrt⟩ : ∃ x, x = Rt 0 low high := ⟨_, rfl⟩
      obtain ⟨cn, hcn⟩ : ∃ c, c = encN rt sR := ⟨_, rfl⟩
      have HN20 := Aside0.mk (show NV W20 rt sR by rw [hrt, hsR]; exact HS.out.2.2.2 W20 hk20)
      have HE20 := Aside0.mk (show W20.heap[g + 1 + 1 + 1 + 1]? = some (.cells cn 39 (0, 0)) by rw [hcn, hrt, hsR]; exact blk_kept HS.out.2.2.1 hk20 (by omega))
      have HCN := Aside0.mk (show cn.size = 4 by rw [hcn]; rfl)
      have HRL := Aside0.mk (show Right low ∧ Right high from ⟨by rw [HCL.out.1]; exact right_of (by decide) (by decide) (by rw [len_lw]; decide), by rw [HCH.out.1]; exact right_of (by decide) (by decide) (by rw [len_hg]; decide)⟩)
      have HRR := Aside0.mk (show RightN rt ∧ (nodeL rt).length = 112 by rw [hrt]; exact ⟨rightRt (by decide) ⟨HOL.out, HRL.out.1⟩ ⟨HOH.out, HRL.out.2⟩, len_rt HOL.out HOH.out⟩)
      have T3 := store_F p d m lb a mw 4 4 (.slice none 0 0) _ rt sR W20 HV20.out (by decide) HN20.out HRR.out.1 (by decide) (by rw [HRR.out.2]; decide)
      obtain ⟨root, hroot⟩ : ∃ r, r = ofP 4 4 (nodeL rt) := ⟨_, rfl⟩
      obtain ⟨cr, hcr⟩ : ∃ c, c = encP root := ⟨_, rfl⟩
      rw [← hcn, ← hroot, ← hcr] at T3
      have HOR := Aside0.mk (show Ok root by rw [hroot]; exact (putB_holds (fun _ => Z512) 4 4 (nodeL rt)).ok)
      have HCR := Aside0.mk (And.intro hroot (And.intro hcr (And.intro (show cr.size = 36 by rw [hcr]; exact encP_size HOR.out.len) (show cr.all (·.oneCell') = true by rw [hcr]; exact encP_one _))))
      have HRT := Aside0.mk hrt
      rw [← hW20]
      clear hW20 hk20 c2 f2 hsR hrt hcn hroot hcr
      go_wp2_with (refine load_cs rfl 39 (.tmp 10) rfl (g + 1 + 1 + 1 + 1) 0 cn _ rfl (range_pre HE20.out (fun _ _ => rfl)) Tryz.underlying39 rfl (by rw [HCN.out]; kernel_rfl) ?_)
      refine T3.mono ?_
      clear T3
      rintro e W21 ⟨rfl, hk21, hv21⟩
      have HB21 := Aside0.mk (show Below w.heap.size w W21 from HB20.out.trans (hk21.to_below (fun q hq => by have := HLO.out; omega) HB20.out.size))
      have HV21 := Aside0.mk hv21
      have hal21 := HAL.out W21
      obtain ⟨g11, hg11⟩ : ∃ g, g = W21.heap.size := ⟨_, rfl⟩
      have HG11 := Aside0.mk (show (W21.alloc (.cells z 32)).heap[g11]? = some (.cells z 32 (0, 0)) by rw [hg11]; exact blk_new W21 _)
      clear hk21 hv21
      go_upto_region 22 with (refine wpList_store_row rfl 32 (.tmp 11) (.tmp 100) rfl g11 cr (by show Value.pointer _ = _; rw [hg11]) rfl 32 z HG11.out (by rw [i33, HCR.out.2.2.1]) (by rw [HCR.out.2.2.1, HZS.out.1]) HCR.out.2.2.2 ?_)
      rw [← hg11]
      obtain ⟨W22, hW22⟩ : ∃ W, W = (W21.alloc (.cells z 32)).setRow g11 cr := ⟨_, rfl⟩
      have hb2122 : Below W21.heap.size W21 W22 := by
        rw [hW22]
        exact (KB_setRow (KB.of_below (below_alloc (Below.refl W21.heap.size W21) (.cells z 32)) (fun _ => False)) (by rw [hg11]; exact Nat.le_refl _) cr).to_below (fun k h => h.elim) (Nat.le_refl _)
      have HC22 := Aside0.mk (show W22.heap[g11]? = some (.cells cr 32 (0, 0)) by rw [hW22]; exact setRow_heap _ g11 z cr 32 _ HG11.out)
      have HB22 := Aside0.mk (below_then HB21.out HB21.out.size hb2122)
      have HV22 := Aside0.mk (HV21.out.below hb2122)
      rw [← hW22]
      clear hW22 hb2122 hg11 HG11 hal21
      obtain ⟨rd4, hrd4⟩ : ∃ rd, rd = putB (putB (putB (fun _ => Z512) 2 (nodeL Lw)) 3 (nodeL Hg)) 4 (nodeL rt) := ⟨_, rfl⟩
      have HNA := Aside0.mk (show Nod rd4 60 low Lw ∧ Nod rd4 60 high Hg ∧ Nod rd4 60 root (Rt 0 low high) from by
        rw [hrd4]
        refine ⟨?_, ?_, ?_⟩
        · rw [HCL.out.1]; exact nod_of (FrmA.Holds.put (FrmA.Holds.put (putB_holds (fun _ => Z512) 2 5 (nodeL Lw)) (.inl (by rw [len_lw]; decide))) (.inl (by rw [len_lw]; decide))) rightLw (by decide) (by decide) (by rw [len_lw]; decide) (by decide)
        · rw [HCH.out.1]; exact nod_of (FrmA.Holds.put (putB_holds _ 3 5 (nodeL Hg)) (.inl (by rw [len_hg]; decide))) rightHg (by decide) (by decide) (by rw [len_hg]; decide) (by decide)
        · rw [← HRT.out, HCR.out.1]; exact nod_of (putB_holds _ 4 4 (nodeL rt)) HRR.out.1 (by decide) (by decide) (by rw [HRR.out.2]; decide) (by decide))
      have hnz : root ≠ zeroP := by rw [HCR.out.1]; intro e; have := congrArg Ptr.at_ e; simp [ofP, zeroP] at this
      have hbi : low.birth = 5 ∧ high.birth = 5 ∧ root.birth = 4 := ⟨by rw [HCL.out.1]; rfl, by rw [HCH.out.1]; rfl, by rw [HCR.out.1]; rfl⟩
      obtain ⟨kR, hkR, hrunR⟩ := run_of HNA.out.1 HNA.out.2.1 HNA.out.2.2 (by decide) (.inr (by omega))
      have hv22 : PV W22 p d m lb a mw 60 2 60 0 [(4 + 1, 60)] 4 (.slice none 0 0) rd4 := by rw [hrd4]; exact HV22.out
      have T4 := walk12 p d m lb a mw 60 2 60 0 [(4 + 1, 60)] 4 (.slice none 0 0) rd4 root kR _ W22 hv22 (by decide) (by decide) HOR.out hnz (by omega) hrunR
      rw [← HCR.out.2.1] at T4
      clear hnz hbi hkR hrunR hv22 hrd4
      go_upto_region 24 with (fail)
      go_wp2_with (refine load_cs rfl 32 (.tmp 11) rfl g11 0 cr _ rfl (range_pre HC22.out (fun _ _ => rfl)) underl56 rfl (by rw [HCR.out.2.2.1]; kernel_rfl) ?_)
      refine T4.mono ?_
      clear T4
      rintro e W23 ⟨hb23, hr⟩
      have HB23 := Aside0.mk (below_then HB22.out HB22.out.size hb23)
      clear hb23
      have he : e = .returned (.tuple #[.agg #[.slice none 0 0, .int .i64 0, .int .i64 0], .int .i64 11]) := hr
      clear hr
      subst he
      obtain ⟨cf, hcf⟩ : ∃ cs : Array Value, cs = #[.slice none 0 0, .int .i64 0, .int .i64 0] := ⟨_, rfl⟩
      rw [← hcf]
      have HCF := Aside0.mk (And.intro hcf (And.intro (show cf.size = 3 by rw [hcf]; rfl) (show cf.all (·.oneCell') = true by rw [hcf, ← Array.all_toList]; rfl)))
      obtain ⟨g12, hg12⟩ : ∃ g, g = W23.heap.size := ⟨_, rfl⟩
      have HG12 := Aside0.mk (show (W23.alloc (.cells #[.slice none 0 0, .int .i64 0, .int .i64 0] 41)).heap[g12]? = some (.cells #[.slice none 0 0, .int .i64 0, .int .i64 0] 41 (0, 0)) by rw [hg12]; exact blk_new W23 _)
      clear hcf
      go_upto_region 25 with (refine wpList_store_row rfl 41 (.tmp 12) (.tmp 108) rfl g12 cf (by show Value.pointer _ = _; rw [hg12]) rfl 41 _ HG12.out (by rw [HCF.out.2.1]; kernel_rfl) (by rw [HCF.out.2.1]; rfl) HCF.out.2.2 ?_)
      rw [← hg12]
      obtain ⟨W24, hW24⟩ : ∃ W, W = (W23.alloc (.cells #[.slice none 0 0, .int .i64 0, .int .i64 0] 41)).setRow g12 cf := ⟨_, rfl⟩
      have HB24 := Aside0.mk (show Below w.heap.size w W24 by
        rw [hW24]
        exact (KB_setRow (KB.of_below (below_alloc HB23.out (.cells #[.slice none 0 0, .int .i64 0, .int .i64 0] 41)) (fun _ => False)) (by rw [hg12]; exact HB23.out.size) cf).to_below (fun k h => h.elim) (Nat.le_refl _))
      have hc24 : W24.heap[g12]? = some (.cells cf 41 (0, 0)) := by rw [hW24]; exact setRow_heap _ g12 _ cf 41 _ HG12.out
      rw [HCF.out.1] at hc24
      have r0 := cell_of_row W24 g12 0 _ 41 (0, 0) hc24
      have r1 := cell_of_row W24 g12 1 _ 41 (0, 0) hc24
      have r2 := cell_of_row W24 g12 2 _ 41 (0, 0) hc24
      simp only [List.getElem?_toArray, List.getElem?_cons_zero, List.getElem?_cons_succ] at r0 r1 r2
      rw [← hW24]
      clear hW24 hg12 hc24
      go_wp2
      rw [HP.out]
      exact ⟨rfl, HB24.out⟩
    · have hx : bits .and .i64 x 3 = 1 := hx
      have c10 : W15.cell? ⟨g + 1 + 1 + 1 + 1, 0, none⟩ = some (.int .i64 1) := by rw [cell_of_row _ _ 0 _ 39 (0, 0) HBLK.out.2.2.2.2]; rfl
      have f10 := frozen_of_row W15 (g + 1 + 1 + 1 + 1) 0 _ 39 HBLK.out.2.2.2.2
      go_upto_region 18 with (fail)
      obtain ⟨W18, hW18⟩ : ∃ W, W = W15.setCell ⟨g + 1 + 1 + 1 + 1, 0, none⟩ (.int .i64 2) := ⟨_, rfl⟩
      have HS := Aside0.mk (show Below w.heap.size w W18 ∧ PV W18 p d m lb a mw 60 2 60 0 [(4, 60)] 5 (.slice none 0 0) _ ∧ W18.heap[g + 1 + 1 + 1 + 1]? = some (.cells #[.int .i64 2, sl2 (g + 1 + 1), .slice none 0 0, sl2 (g + 1 + 1 + 1)] 39 (0, 0)) ∧ ∀ W', Kept W18 W' (fun k => k = p) → NV W' (Rt 1 low high) ⟨some ⟨g + 1 + 1, 0, none⟩, 2, none, 0, some ⟨g + 1 + 1 + 1, 0, none⟩, 2⟩ by
        obtain ⟨e98, e102, ek, ed, e10⟩ := HBLK.out
        rw [HCL.out.2.1, HCH.out.2.1] at ed
        have hg := HGW.out
        have hk18 : Kept W15 W18 (fun k => k = g + 1 + 1 + 1 + 1) := by rw [hW18]; exact (KB.setCell W15 ⟨g + 1 + 1 + 1 + 1, 0, none⟩ _).kept
        exact ⟨by rw [hW18]; exact HB15.out.setCell (by show w.heap.size ≤ g + 1 + 1 + 1 + 1; omega) _, PV_new HV15.out hk18 (fun k hk => by have h13 := HG13.out; subst hk; exact ⟨by omega, by omega, by omega, by omega, by omega, by omega, fun cs e => by rw [e10] at e; simp at e⟩), by rw [hW18]; exact heap_setCell_same _ _ _ _ _ _ e10, fun W' hk => root_nv (blk_kept (blk_kept e98 hk18 (by omega)) hk (by omega)) (blk_kept (blk_kept e102 hk18 (by omega)) hk (by omega)) (blk_kept (blk_kept ek hk18 (by omega)) hk (by omega)) (blk_kept (blk_kept ed hk18 (by omega)) hk (by omega)) HOL.out HOH.out⟩)
      rw [← hW18]
      clear hW18 c10 f10
      have c2 : W18.cell? ⟨p, 2, none⟩ = some (.int .i64 5) := by rw [cell_of_row _ _ 2 _ 28 (0, 0) HS.out.2.1.po.blk]; rfl
      have f2 := frozen_of_row W18 p 2 _ 28 HS.out.2.1.po.blk
      go_upto_region 21 with (fail)
      obtain ⟨W20, hW20⟩ : ∃ W, W = W18.setCell ⟨p, 2, none⟩ (.int .i64 6) := ⟨_, rfl⟩
      have hk20 : Kept W18 W20 (fun k => k = p) := by rw [hW20]; exact (KB.setCell W18 ⟨p, 2, none⟩ _).kept
      have HV20 := Aside0.mk (show PV W20 p d m lb a mw 60 2 60 0 [(4, 60)] 6 (.slice none 0 0) _ by rw [hW20]; exact PV_ep HS.out.2.1 _)
      have HB20 := Aside0.mk (show Below w.heap.size w W20 by rw [hW20]; exact HS.out.1.setCell HLO.out.1 _)
      obtain ⟨sR, hsR⟩ : ∃ s : Ns, s = ⟨some ⟨g + 1 + 1, 0, none⟩, 2, none, 0, some ⟨g + 1 + 1 + 1, 0, none⟩, 2⟩ := ⟨_, rfl⟩
      obtain ⟨rt, hrt⟩ : ∃ x, x = Rt 1 low high := ⟨_, rfl⟩
      obtain ⟨cn, hcn⟩ : ∃ c, c = encN rt sR := ⟨_, rfl⟩
      have HN20 := Aside0.mk (show NV W20 rt sR by rw [hrt, hsR]; exact HS.out.2.2.2 W20 hk20)
      have HE20 := Aside0.mk (show W20.heap[g + 1 + 1 + 1 + 1]? = some (.cells cn 39 (0, 0)) by rw [hcn, hrt, hsR]; exact blk_kept HS.out.2.2.1 hk20 (by omega))
      have HCN := Aside0.mk (show cn.size = 4 by rw [hcn]; rfl)
      have HRL := Aside0.mk (show Right low ∧ Right high from ⟨by rw [HCL.out.1]; exact right_of (by decide) (by decide) (by rw [len_lw]; decide), by rw [HCH.out.1]; exact right_of (by decide) (by decide) (by rw [len_hg]; decide)⟩)
      have HRR := Aside0.mk (show RightN rt ∧ (nodeL rt).length = 112 by rw [hrt]; exact ⟨rightRt (by decide) ⟨HOL.out, HRL.out.1⟩ ⟨HOH.out, HRL.out.2⟩, len_rt HOL.out HOH.out⟩)
      have T3 := store_F p d m lb a mw 4 6 (.slice none 0 0) _ rt sR W20 HV20.out (by decide) HN20.out HRR.out.1 (by decide) (by rw [HRR.out.2]; decide)
      obtain ⟨root, hroot⟩ : ∃ r, r = ofP 4 6 (nodeL rt) := ⟨_, rfl⟩
      obtain ⟨cr, hcr⟩ : ∃ c, c = encP root := ⟨_, rfl⟩
      rw [← hcn, ← hroot, ← hcr] at T3
      have HOR := Aside0.mk (show Ok root by rw [hroot]; exact (putB_holds (fun _ => Z512) 4 6 (nodeL rt)).ok)
      have HCR := Aside0.mk (And.intro hroot (And.intro hcr (And.intro (show cr.size = 36 by rw [hcr]; exact encP_size HOR.out.len) (show cr.all (·.oneCell') = true by rw [hcr]; exact encP_one _))))
      have HRT := Aside0.mk hrt
      rw [← hW20]
      clear hW20 hk20 c2 f2 hsR hrt hcn hroot hcr
      go_wp2_with (refine load_cs rfl 39 (.tmp 10) rfl (g + 1 + 1 + 1 + 1) 0 cn _ rfl (range_pre HE20.out (fun _ _ => rfl)) Tryz.underlying39 rfl (by rw [HCN.out]; kernel_rfl) ?_)
      refine T3.mono ?_
      clear T3
      rintro e W21 ⟨rfl, hk21, hv21⟩
      have HB21 := Aside0.mk (show Below w.heap.size w W21 from HB20.out.trans (hk21.to_below (fun q hq => by have := HLO.out; omega) HB20.out.size))
      have HV21 := Aside0.mk hv21
      have hal21 := HAL.out W21
      obtain ⟨g11, hg11⟩ : ∃ g, g = W21.heap.size := ⟨_, rfl⟩
      have HG11 := Aside0.mk (show (W21.alloc (.cells z 32)).heap[g11]? = some (.cells z 32 (0, 0)) by rw [hg11]; exact blk_new W21 _)
      clear hk21 hv21
      go_upto_region 22 with (refine wpList_store_row rfl 32 (.tmp 11) (.tmp 100) rfl g11 cr (by show Value.pointer _ = _; rw [hg11]) rfl 32 z HG11.out (by rw [i33, HCR.out.2.2.1]) (by rw [HCR.out.2.2.1, HZS.out.1]) HCR.out.2.2.2 ?_)
      rw [← hg11]
      obtain ⟨W22, hW22⟩ : ∃ W, W = (W21.alloc (.cells z 32)).setRow g11 cr := ⟨_, rfl⟩
      have hb2122 : Below W21.heap.size W21 W22 := by
        rw [hW22]
        exact (KB_setRow (KB.of_below (below_alloc (Below.refl W21.heap.size W21) (.cells z 32)) (fun _ => False)) (by rw [hg11]; exact Nat.le_refl _) cr).to_below (fun k h => h.elim) (Nat.le_refl _)
      have HC22 := Aside0.mk (show W22.heap[g11]? = some (.cells cr 32 (0, 0)) by rw [hW22]; exact setRow_heap _ g11 z cr 32 _ HG11.out)
      have HB22 := Aside0.mk (below_then HB21.out HB21.out.size hb2122)
      have HV22 := Aside0.mk (HV21.out.below hb2122)
      rw [← hW22]
      clear hW22 hb2122 hg11 HG11 hal21
      obtain ⟨rd4, hrd4⟩ : ∃ rd, rd = putB (putB (putB (fun _ => Z512) 2 (nodeL Lw)) 3 (nodeL Hg)) 4 (nodeL rt) := ⟨_, rfl⟩
      have HNA := Aside0.mk (show Nod rd4 60 low Lw ∧ Nod rd4 60 high Hg ∧ Nod rd4 60 root (Rt 1 low high) from by
        rw [hrd4]
        refine ⟨?_, ?_, ?_⟩
        · rw [HCL.out.1]; exact nod_of (FrmA.Holds.put (FrmA.Holds.put (putB_holds (fun _ => Z512) 2 5 (nodeL Lw)) (.inl (by rw [len_lw]; decide))) (.inl (by rw [len_lw]; decide))) rightLw (by decide) (by decide) (by rw [len_lw]; decide) (by decide)
        · rw [HCH.out.1]; exact nod_of (FrmA.Holds.put (putB_holds _ 3 5 (nodeL Hg)) (.inl (by rw [len_hg]; decide))) rightHg (by decide) (by decide) (by rw [len_hg]; decide) (by decide)
        · rw [← HRT.out, HCR.out.1]; exact nod_of (putB_holds _ 4 6 (nodeL rt)) HRR.out.1 (by decide) (by decide) (by rw [HRR.out.2]; decide) (by decide))
      have hnz : root ≠ zeroP := by rw [HCR.out.1]; intro e; have := congrArg Ptr.at_ e; simp [ofP, zeroP] at this
      have hbi : low.birth = 5 ∧ high.birth = 5 ∧ root.birth = 6 := ⟨by rw [HCL.out.1]; rfl, by rw [HCH.out.1]; rfl, by rw [HCR.out.1]; rfl⟩
      obtain ⟨kR, hkR, hrunR⟩ := run_of HNA.out.1 HNA.out.2.1 HNA.out.2.2 (by decide) (.inl (by decide))
      have hv22 : PV W22 p d m lb a mw 60 2 60 0 [(4 + 1, 60)] 6 (.slice none 0 0) rd4 := by rw [hrd4]; exact HV22.out
      have T4 := walk12 p d m lb a mw 60 2 60 0 [(4 + 1, 60)] 6 (.slice none 0 0) rd4 root kR _ W22 hv22 (by decide) (by decide) HOR.out hnz (by omega) hrunR
      rw [← HCR.out.2.1] at T4
      clear hnz hbi hkR hrunR hv22 hrd4
      go_upto_region 24 with (fail)
      go_wp2_with (refine load_cs rfl 32 (.tmp 11) rfl g11 0 cr _ rfl (range_pre HC22.out (fun _ _ => rfl)) underl56 rfl (by rw [HCR.out.2.2.1]; kernel_rfl) ?_)
      refine T4.mono ?_
      clear T4
      rintro e W23 ⟨hb23, hr⟩
      have HB23 := Aside0.mk (below_then HB22.out HB22.out.size hb23)
      clear hb23
      have he : e = .returned (.tuple #[.agg #[.slice none 0 0, .int .i64 0, .int .i64 0], .int .i64 11]) := hr
      clear hr
      subst he
      obtain ⟨cf, hcf⟩ : ∃ cs : Array Value, cs = #[.slice none 0 0, .int .i64 0, .int .i64 0] := ⟨_, rfl⟩
      rw [← hcf]
      have HCF := Aside0.mk (And.intro hcf (And.intro (show cf.size = 3 by rw [hcf]; rfl) (show cf.all (·.oneCell') = true by rw [hcf, ← Array.all_toList]; rfl)))
      obtain ⟨g12, hg12⟩ : ∃ g, g = W23.heap.size := ⟨_, rfl⟩
      have HG12 := Aside0.mk (show (W23.alloc (.cells #[.slice none 0 0, .int .i64 0, .int .i64 0] 41)).heap[g12]? = some (.cells #[.slice none 0 0, .int .i64 0, .int .i64 0] 41 (0, 0)) by rw [hg12]; exact blk_new W23 _)
      clear hcf
      go_upto_region 25 with (refine wpList_store_row rfl 41 (.tmp 12) (.tmp 108) rfl g12 cf (by show Value.pointer _ = _; rw [hg12]) rfl 41 _ HG12.out (by rw [HCF.out.2.1]; kernel_rfl) (by rw [HCF.out.2.1]; rfl) HCF.out.2.2 ?_)
      rw [← hg12]
      obtain ⟨W24, hW24⟩ : ∃ W, W = (W23.alloc (.cells #[.slice none 0 0, .int .i64 0, .int .i64 0] 41)).setRow g12 cf := ⟨_, rfl⟩
      have HB24 := Aside0.mk (show Below w.heap.size w W24 by
        rw [hW24]
        exact (KB_setRow (KB.of_below (below_alloc HB23.out (.cells #[.slice none 0 0, .int .i64 0, .int .i64 0] 41)) (fun _ => False)) (by rw [hg12]; exact HB23.out.size) cf).to_below (fun k h => h.elim) (Nat.le_refl _))
      have hc24 : W24.heap[g12]? = some (.cells cf 41 (0, 0)) := by rw [hW24]; exact setRow_heap _ g12 _ cf 41 _ HG12.out
      rw [HCF.out.1] at hc24
      have r0 := cell_of_row W24 g12 0 _ 41 (0, 0) hc24
      have r1 := cell_of_row W24 g12 1 _ 41 (0, 0) hc24
      have r2 := cell_of_row W24 g12 2 _ 41 (0, 0) hc24
      simp only [List.getElem?_toArray, List.getElem?_cons_zero, List.getElem?_cons_succ] at r0 r1 r2
      rw [← hW24]
      clear hW24 hg12 hc24
      go_wp2
      rw [HP.out]
      exact ⟨rfl, HB24.out⟩
    · have hx : bits .and .i64 x 3 = 2 := hx
      have c10 : W15.cell? ⟨g + 1 + 1 + 1 + 1, 1, none⟩ = some (sl2 (g + 1 + 1)) := by rw [cell_of_row _ _ 1 _ 39 (0, 0) HBLK.out.2.2.2.2]; rfl
      have HEK := Aside0.mk (show (W15.alloc (.cells #[.int .u8 97] 5 (1, 2))).heap[g + 1 + 1]? = some (.cells #[sl g, sl (g + 1)] 36 (0, 0)) from old_alloc HBLK.out.2.2.1 rfl)
      have cK : (W15.alloc (.cells #[.int .u8 97] 5 (1, 2))).cell? ⟨g + 1 + 1, 0, none⟩ = some (sl g) := by rw [cell_of_row _ _ 0 _ 36 (0, 0) HEK.out]; rfl
      have fK := frozen_of_row (W15.alloc (.cells #[.int .u8 97] 5 (1, 2))) (g + 1 + 1) 0 _ 36 HEK.out
      go_upto_region 18 with (refine conv_L rfl _ rfl _ _ rfl rfl (by simp) ?_)
      obtain ⟨W18, hW18⟩ : ∃ W, W = (W15.alloc (.cells #[.int .u8 97] 5 (1, 2))).setCell ⟨g + 1 + 1, 0, none⟩ (sl W15.heap.size) := ⟨_, rfl⟩
      have HS := Aside0.mk (show Below w.heap.size w W18 ∧ PV W18 p d m lb a mw 60 2 60 0 [(4, 60)] 5 (.slice none 0 0) _ ∧ W18.heap[g + 1 + 1 + 1 + 1]? = some (.cells #[.int .i64 1, sl2 (g + 1 + 1), .slice none 0 0, sl2 (g + 1 + 1 + 1)] 39 (0, 0)) ∧ ∀ W', Kept W18 W' (fun k => k = p) → NV W' (Rt 2 low high) ⟨some ⟨g + 1 + 1, 0, none⟩, 2, none, 0, some ⟨g + 1 + 1 + 1, 0, none⟩, 2⟩ by
        obtain ⟨e98, e102, ek, ed, e10⟩ := HBLK.out
        rw [HCL.out.2.1, HCH.out.2.1] at ed
        have hg := HGW.out
        have hl10 := blk_lt e10
        have hk18 : Kept (W15.alloc (.cells #[.int .u8 97] 5 (1, 2))) W18 (fun k => k = g + 1 + 1) := by rw [hW18]; exact (KB.setCell (W15.alloc (.cells #[.int .u8 97] 5 (1, 2))) ⟨g + 1 + 1, 0, none⟩ _).kept
        have hnew : W18.heap[W15.heap.size]? = some (.cells #[.int .u8 97] 5 (1, 2)) := blk_kept (blk_new W15 _) hk18 (by omega)
        have hek : W18.heap[g + 1 + 1]? = some (.cells #[sl W15.heap.size, sl (g + 1)] 36 (0, 0)) := by rw [hW18]; exact heap_setCell_same _ _ _ _ _ _ HEK.out
        exact ⟨by rw [hW18]; exact (below_alloc HB15.out _).setCell (by show w.heap.size ≤ g + 1 + 1; omega) _, PV_new (HV15.out.below (below_alloc (Below.refl _ _) _)) hk18 (fun k hk => by have h13 := HG13.out; subst hk; exact ⟨by omega, by omega, by omega, by omega, by omega, by omega, fun cs e => by rw [HEK.out] at e; simp at e⟩), blk_kept (old_alloc e10 rfl) hk18 (by omega), fun W' hk => root_nv (blk_kept (hnew) hk (by omega)) (blk_kept (blk_kept (old_alloc e102 rfl) hk18 (by omega)) hk (by omega)) (blk_kept hek hk (by omega)) (blk_kept (blk_kept (old_alloc ed rfl) hk18 (by omega)) hk (by omega)) HOL.out HOH.out⟩)
      rw [← hW18]
      clear hW18 c10 cK fK
      have c2 : W18.cell? ⟨p, 2, none⟩ = some (.int .i64 5) := by rw [cell_of_row _ _ 2 _ 28 (0, 0) HS.out.2.1.po.blk]; rfl
      have f2 := frozen_of_row W18 p 2 _ 28 HS.out.2.1.po.blk
      go_upto_region 21 with (fail)
      obtain ⟨W20, hW20⟩ : ∃ W, W = W18.setCell ⟨p, 2, none⟩ (.int .i64 6) := ⟨_, rfl⟩
      have hk20 : Kept W18 W20 (fun k => k = p) := by rw [hW20]; exact (KB.setCell W18 ⟨p, 2, none⟩ _).kept
      have HV20 := Aside0.mk (show PV W20 p d m lb a mw 60 2 60 0 [(4, 60)] 6 (.slice none 0 0) _ by rw [hW20]; exact PV_ep HS.out.2.1 _)
      have HB20 := Aside0.mk (show Below w.heap.size w W20 by rw [hW20]; exact HS.out.1.setCell HLO.out.1 _)
      obtain ⟨sR, hsR⟩ : ∃ s : Ns, s = ⟨some ⟨g + 1 + 1, 0, none⟩, 2, none, 0, some ⟨g + 1 + 1 + 1, 0, none⟩, 2⟩ := ⟨_, rfl⟩
      obtain ⟨rt, hrt⟩ : ∃ x, x = Rt 2 low high := ⟨_, rfl⟩
      obtain ⟨cn, hcn⟩ : ∃ c, c = encN rt sR := ⟨_, rfl⟩
      have HN20 := Aside0.mk (show NV W20 rt sR by rw [hrt, hsR]; exact HS.out.2.2.2 W20 hk20)
      have HE20 := Aside0.mk (show W20.heap[g + 1 + 1 + 1 + 1]? = some (.cells cn 39 (0, 0)) by rw [hcn, hrt, hsR]; exact blk_kept HS.out.2.2.1 hk20 (by omega))
      have HCN := Aside0.mk (show cn.size = 4 by rw [hcn]; rfl)
      have HRL := Aside0.mk (show Right low ∧ Right high from ⟨by rw [HCL.out.1]; exact right_of (by decide) (by decide) (by rw [len_lw]; decide), by rw [HCH.out.1]; exact right_of (by decide) (by decide) (by rw [len_hg]; decide)⟩)
      have HRR := Aside0.mk (show RightN rt ∧ (nodeL rt).length = 112 by rw [hrt]; exact ⟨rightRt (by decide) ⟨HOL.out, HRL.out.1⟩ ⟨HOH.out, HRL.out.2⟩, len_rt HOL.out HOH.out⟩)
      have T3 := store_F p d m lb a mw 4 6 (.slice none 0 0) _ rt sR W20 HV20.out (by decide) HN20.out HRR.out.1 (by decide) (by rw [HRR.out.2]; decide)
      obtain ⟨root, hroot⟩ : ∃ r, r = ofP 4 6 (nodeL rt) := ⟨_, rfl⟩
      obtain ⟨cr, hcr⟩ : ∃ c, c = encP root := ⟨_, rfl⟩
      rw [← hcn, ← hroot, ← hcr] at T3
      have HOR := Aside0.mk (show Ok root by rw [hroot]; exact (putB_holds (fun _ => Z512) 4 6 (nodeL rt)).ok)
      have HCR := Aside0.mk (And.intro hroot (And.intro hcr (And.intro (show cr.size = 36 by rw [hcr]; exact encP_size HOR.out.len) (show cr.all (·.oneCell') = true by rw [hcr]; exact encP_one _))))
      have HRT := Aside0.mk hrt
      rw [← hW20]
      clear hW20 hk20 c2 f2 hsR hrt hcn hroot hcr
      go_wp2_with (refine load_cs rfl 39 (.tmp 10) rfl (g + 1 + 1 + 1 + 1) 0 cn _ rfl (range_pre HE20.out (fun _ _ => rfl)) Tryz.underlying39 rfl (by rw [HCN.out]; kernel_rfl) ?_)
      refine T3.mono ?_
      clear T3
      rintro e W21 ⟨rfl, hk21, hv21⟩
      have HB21 := Aside0.mk (show Below w.heap.size w W21 from HB20.out.trans (hk21.to_below (fun q hq => by have := HLO.out; omega) HB20.out.size))
      have HV21 := Aside0.mk hv21
      have hal21 := HAL.out W21
      obtain ⟨g11, hg11⟩ : ∃ g, g = W21.heap.size := ⟨_, rfl⟩
      have HG11 := Aside0.mk (show (W21.alloc (.cells z 32)).heap[g11]? = some (.cells z 32 (0, 0)) by rw [hg11]; exact blk_new W21 _)
      clear hk21 hv21
      go_upto_region 22 with (refine wpList_store_row rfl 32 (.tmp 11) (.tmp 100) rfl g11 cr (by show Value.pointer _ = _; rw [hg11]) rfl 32 z HG11.out (by rw [i33, HCR.out.2.2.1]) (by rw [HCR.out.2.2.1, HZS.out.1]) HCR.out.2.2.2 ?_)
      rw [← hg11]
      obtain ⟨W22, hW22⟩ : ∃ W, W = (W21.alloc (.cells z 32)).setRow g11 cr := ⟨_, rfl⟩
      have hb2122 : Below W21.heap.size W21 W22 := by
        rw [hW22]
        exact (KB_setRow (KB.of_below (below_alloc (Below.refl W21.heap.size W21) (.cells z 32)) (fun _ => False)) (by rw [hg11]; exact Nat.le_refl _) cr).to_below (fun k h => h.elim) (Nat.le_refl _)
      have HC22 := Aside0.mk (show W22.heap[g11]? = some (.cells cr 32 (0, 0)) by rw [hW22]; exact setRow_heap _ g11 z cr 32 _ HG11.out)
      have HB22 := Aside0.mk (below_then HB21.out HB21.out.size hb2122)
      have HV22 := Aside0.mk (HV21.out.below hb2122)
      rw [← hW22]
      clear hW22 hb2122 hg11 HG11 hal21
      obtain ⟨rd4, hrd4⟩ : ∃ rd, rd = putB (putB (putB (fun _ => Z512) 2 (nodeL Lw)) 3 (nodeL Hg)) 4 (nodeL rt) := ⟨_, rfl⟩
      have HNA := Aside0.mk (show Nod rd4 60 low Lw ∧ Nod rd4 60 high Hg ∧ Nod rd4 60 root (Rt 2 low high) from by
        rw [hrd4]
        refine ⟨?_, ?_, ?_⟩
        · rw [HCL.out.1]; exact nod_of (FrmA.Holds.put (FrmA.Holds.put (putB_holds (fun _ => Z512) 2 5 (nodeL Lw)) (.inl (by rw [len_lw]; decide))) (.inl (by rw [len_lw]; decide))) rightLw (by decide) (by decide) (by rw [len_lw]; decide) (by decide)
        · rw [HCH.out.1]; exact nod_of (FrmA.Holds.put (putB_holds _ 3 5 (nodeL Hg)) (.inl (by rw [len_hg]; decide))) rightHg (by decide) (by decide) (by rw [len_hg]; decide) (by decide)
        · rw [← HRT.out, HCR.out.1]; exact nod_of (putB_holds _ 4 6 (nodeL rt)) HRR.out.1 (by decide) (by decide) (by rw [HRR.out.2]; decide) (by decide))
      have hnz : root ≠ zeroP := by rw [HCR.out.1]; intro e; have := congrArg Ptr.at_ e; simp [ofP, zeroP] at this
      have hbi : low.birth = 5 ∧ high.birth = 5 ∧ root.birth = 6 := ⟨by rw [HCL.out.1]; rfl, by rw [HCH.out.1]; rfl, by rw [HCR.out.1]; rfl⟩
      obtain ⟨kR, hkR, hrunR⟩ := run_of HNA.out.1 HNA.out.2.1 HNA.out.2.2 (by decide) (.inl (by decide))
      have hv22 : PV W22 p d m lb a mw 60 2 60 0 [(4 + 1, 60)] 6 (.slice none 0 0) rd4 := by rw [hrd4]; exact HV22.out
      have T4 := walk12 p d m lb a mw 60 2 60 0 [(4 + 1, 60)] 6 (.slice none 0 0) rd4 root kR _ W22 hv22 (by decide) (by decide) HOR.out hnz (by omega) hrunR
      rw [← HCR.out.2.1] at T4
      clear hnz hbi hkR hrunR hv22 hrd4
      go_upto_region 24 with (fail)
      go_wp2_with (refine load_cs rfl 32 (.tmp 11) rfl g11 0 cr _ rfl (range_pre HC22.out (fun _ _ => rfl)) underl56 rfl (by rw [HCR.out.2.2.1]; kernel_rfl) ?_)
      refine T4.mono ?_
      clear T4
      rintro e W23 ⟨hb23, hr⟩
      have HB23 := Aside0.mk (below_then HB22.out HB22.out.size hb23)
      clear hb23
      have he : e = .returned (.tuple #[.agg #[.slice none 0 0, .int .i64 0, .int .i64 0], .int .i64 11]) := hr
      clear hr
      subst he
      obtain ⟨cf, hcf⟩ : ∃ cs : Array Value, cs = #[.slice none 0 0, .int .i64 0, .int .i64 0] := ⟨_, rfl⟩
      rw [← hcf]
      have HCF := Aside0.mk (And.intro hcf (And.intro (show cf.size = 3 by rw [hcf]; rfl) (show cf.all (·.oneCell') = true by rw [hcf, ← Array.all_toList]; rfl)))
      obtain ⟨g12, hg12⟩ : ∃ g, g = W23.heap.size := ⟨_, rfl⟩
      have HG12 := Aside0.mk (show (W23.alloc (.cells #[.slice none 0 0, .int .i64 0, .int .i64 0] 41)).heap[g12]? = some (.cells #[.slice none 0 0, .int .i64 0, .int .i64 0] 41 (0, 0)) by rw [hg12]; exact blk_new W23 _)
      clear hcf
      go_upto_region 25 with (refine wpList_store_row rfl 41 (.tmp 12) (.tmp 108) rfl g12 cf (by show Value.pointer _ = _; rw [hg12]) rfl 41 _ HG12.out (by rw [HCF.out.2.1]; kernel_rfl) (by rw [HCF.out.2.1]; rfl) HCF.out.2.2 ?_)
      rw [← hg12]
      obtain ⟨W24, hW24⟩ : ∃ W, W = (W23.alloc (.cells #[.slice none 0 0, .int .i64 0, .int .i64 0] 41)).setRow g12 cf := ⟨_, rfl⟩
      have HB24 := Aside0.mk (show Below w.heap.size w W24 by
        rw [hW24]
        exact (KB_setRow (KB.of_below (below_alloc HB23.out (.cells #[.slice none 0 0, .int .i64 0, .int .i64 0] 41)) (fun _ => False)) (by rw [hg12]; exact HB23.out.size) cf).to_below (fun k h => h.elim) (Nat.le_refl _))
      have hc24 : W24.heap[g12]? = some (.cells cf 41 (0, 0)) := by rw [hW24]; exact setRow_heap _ g12 _ cf 41 _ HG12.out
      rw [HCF.out.1] at hc24
      have r0 := cell_of_row W24 g12 0 _ 41 (0, 0) hc24
      have r1 := cell_of_row W24 g12 1 _ 41 (0, 0) hc24
      have r2 := cell_of_row W24 g12 2 _ 41 (0, 0) hc24
      simp only [List.getElem?_toArray, List.getElem?_cons_zero, List.getElem?_cons_succ] at r0 r1 r2
      rw [← hW24]
      clear hW24 hg12 hc24
      go_wp2
      rw [HP.out]
      exact ⟨rfl, HB24.out⟩
    · have hx : bits .and .i64 x 3 = 3 := hx
      have c10 : W15.cell? ⟨g + 1 + 1 + 1 + 1, 1, none⟩ = some (sl2 (g + 1 + 1)) := by rw [cell_of_row _ _ 1 _ 39 (0, 0) HBLK.out.2.2.2.2]; rfl
      have HEK := Aside0.mk (show (W15.alloc (.cells #[.int .u8 99] 5 (1, 2))).heap[g + 1 + 1]? = some (.cells #[sl g, sl (g + 1)] 36 (0, 0)) from old_alloc HBLK.out.2.2.1 rfl)
      have cK : (W15.alloc (.cells #[.int .u8 99] 5 (1, 2))).cell? ⟨g + 1 + 1, 1, none⟩ = some (sl (g + 1)) := by rw [cell_of_row _ _ 1 _ 36 (0, 0) HEK.out]; rfl
      have fK := frozen_of_row (W15.alloc (.cells #[.int .u8 99] 5 (1, 2))) (g + 1 + 1) 1 _ 36 HEK.out
      go_upto_region 18 with (refine conv_L rfl _ rfl _ _ rfl rfl (by simp) ?_)
      obtain ⟨W18, hW18⟩ : ∃ W, W = (W15.alloc (.cells #[.int .u8 99] 5 (1, 2))).setCell ⟨g + 1 + 1, 1, none⟩ (sl W15.heap.size) := ⟨_, rfl⟩
      have HS := Aside0.mk (show Below w.heap.size w W18 ∧ PV W18 p d m lb a mw 60 2 60 0 [(4, 60)] 5 (.slice none 0 0) _ ∧ W18.heap[g + 1 + 1 + 1 + 1]? = some (.cells #[.int .i64 1, sl2 (g + 1 + 1), .slice none 0 0, sl2 (g + 1 + 1 + 1)] 39 (0, 0)) ∧ ∀ W', Kept W18 W' (fun k => k = p) → NV W' (Rt 3 low high) ⟨some ⟨g + 1 + 1, 0, none⟩, 2, none, 0, some ⟨g + 1 + 1 + 1, 0, none⟩, 2⟩ by
        obtain ⟨e98, e102, ek, ed, e10⟩ := HBLK.out
        rw [HCL.out.2.1, HCH.out.2.1] at ed
        have hg := HGW.out
        have hl10 := blk_lt e10
        have hk18 : Kept (W15.alloc (.cells #[.int .u8 99] 5 (1, 2))) W18 (fun k => k = g + 1 + 1) := by rw [hW18]; exact (KB.setCell (W15.alloc (.cells #[.int .u8 99] 5 (1, 2))) ⟨g + 1 + 1, 1, none⟩ _).kept
        have hnew : W18.heap[W15.heap.size]? = some (.cells #[.int .u8 99] 5 (1, 2)) := blk_kept (blk_new W15 _) hk18 (by omega)
        have hek : W18.heap[g + 1 + 1]? = some (.cells #[sl g, sl W15.heap.size] 36 (0, 0)) := by rw [hW18]; exact heap_setCell_same _ _ _ _ _ _ HEK.out
        exact ⟨by rw [hW18]; exact (below_alloc HB15.out _).setCell (by show w.heap.size ≤ g + 1 + 1; omega) _, PV_new (HV15.out.below (below_alloc (Below.refl _ _) _)) hk18 (fun k hk => by have h13 := HG13.out; subst hk; exact ⟨by omega, by omega, by omega, by omega, by omega, by omega, fun cs e => by rw [HEK.out] at e; simp at e⟩), blk_kept (old_alloc e10 rfl) hk18 (by omega), fun W' hk => root_nv (blk_kept (blk_kept (old_alloc e98 rfl) hk18 (by omega)) hk (by omega)) (blk_kept (hnew) hk (by omega)) (blk_kept hek hk (by omega)) (blk_kept (blk_kept (old_alloc ed rfl) hk18 (by omega)) hk (by omega)) HOL.out HOH.out⟩)
      rw [← hW18]
      clear hW18 c10 cK fK
      have c2 : W18.cell? ⟨p, 2, none⟩ = some (.int .i64 5) := by rw [cell_of_row _ _ 2 _ 28 (0, 0) HS.out.2.1.po.blk]; rfl
      have f2 := frozen_of_row W18 p 2 _ 28 HS.out.2.1.po.blk
      go_upto_region 21 with (fail)
      obtain ⟨W20, hW20⟩ : ∃ W, W = W18.setCell ⟨p, 2, none⟩ (.int .i64 6) := ⟨_, rfl⟩
      have hk20 : Kept W18 W20 (fun k => k = p) := by rw [hW20]; exact (KB.setCell W18 ⟨p, 2, none⟩ _).kept
      have HV20 := Aside0.mk (show PV W20 p d m lb a mw 60 2 60 0 [(4, 60)] 6 (.slice none 0 0) _ by rw [hW20]; exact PV_ep HS.out.2.1 _)
      have HB20 := Aside0.mk (show Below w.heap.size w W20 by rw [hW20]; exact HS.out.1.setCell HLO.out.1 _)
      obtain ⟨sR, hsR⟩ : ∃ s : Ns, s = ⟨some ⟨g + 1 + 1, 0, none⟩, 2, none, 0, some ⟨g + 1 + 1 + 1, 0, none⟩, 2⟩ := ⟨_, rfl⟩
      obtain ⟨rt, hrt⟩ : ∃ x, x = Rt 3 low high := ⟨_, rfl⟩
      obtain ⟨cn, hcn⟩ : ∃ c, c = encN rt sR := ⟨_, rfl⟩
      have HN20 := Aside0.mk (show NV W20 rt sR by rw [hrt, hsR]; exact HS.out.2.2.2 W20 hk20)
      have HE20 := Aside0.mk (show W20.heap[g + 1 + 1 + 1 + 1]? = some (.cells cn 39 (0, 0)) by rw [hcn, hrt, hsR]; exact blk_kept HS.out.2.2.1 hk20 (by omega))
      have HCN := Aside0.mk (show cn.size = 4 by rw [hcn]; rfl)
      have HRL := Aside0.mk (show Right low ∧ Right high from ⟨by rw [HCL.out.1]; exact right_of (by decide) (by decide) (by rw [len_lw]; decide), by rw [HCH.out.1]; exact right_of (by decide) (by decide) (by rw [len_hg]; decide)⟩)
      have HRR := Aside0.mk (show RightN rt ∧ (nodeL rt).length = 112 by rw [hrt]; exact ⟨rightRt (by decide) ⟨HOL.out, HRL.out.1⟩ ⟨HOH.out, HRL.out.2⟩, len_rt HOL.out HOH.out⟩)
      have T3 := store_F p d m lb a mw 4 6 (.slice none 0 0) _ rt sR W20 HV20.out (by decide) HN20.out HRR.out.1 (by decide) (by rw [HRR.out.2]; decide)
      obtain ⟨root, hroot⟩ : ∃ r, r = ofP 4 6 (nodeL rt) := ⟨_, rfl⟩
      obtain ⟨cr, hcr⟩ : ∃ c, c = encP root := ⟨_, rfl⟩
      rw [← hcn, ← hroot, ← hcr] at T3
      have HOR := Aside0.mk (show Ok root by rw [hroot]; exact (putB_holds (fun _ => Z512) 4 6 (nodeL rt)).ok)
      have HCR := Aside0.mk (And.intro hroot (And.intro hcr (And.intro (show cr.size = 36 by rw [hcr]; exact encP_size HOR.out.len) (show cr.all (·.oneCell') = true by rw [hcr]; exact encP_one _))))
      have HRT := Aside0.mk hrt
      rw [← hW20]
      clear hW20 hk20 c2 f2 hsR hrt hcn hroot hcr
      go_wp2_with (refine load_cs rfl 39 (.tmp 10) rfl (g + 1 + 1 + 1 + 1) 0 cn _ rfl (range_pre HE20.out (fun _ _ => rfl)) Tryz.underlying39 rfl (by rw [HCN.out]; kernel_rfl) ?_)
      refine T3.mono ?_
      clear T3
      rintro e W21 ⟨rfl, hk21, hv21⟩
      have HB21 := Aside0.mk (show Below w.heap.size w W21 from HB20.out.trans (hk21.to_below (fun q hq => by have := HLO.out; omega) HB20.out.size))
      have HV21 := Aside0.mk hv21
      have hal21 := HAL.out W21
      obtain ⟨g11, hg11⟩ : ∃ g, g = W21.heap.size := ⟨_, rfl⟩
      have HG11 := Aside0.mk (show (W21.alloc (.cells z 32)).heap[g11]? = some (.cells z 32 (0, 0)) by rw [hg11]; exact blk_new W21 _)
      clear hk21 hv21
      go_upto_region 22 with (refine wpList_store_row rfl 32 (.tmp 11) (.tmp 100) rfl g11 cr (by show Value.pointer _ = _; rw [hg11]) rfl 32 z HG11.out (by rw [i33, HCR.out.2.2.1]) (by rw [HCR.out.2.2.1, HZS.out.1]) HCR.out.2.2.2 ?_)
      rw [← hg11]
      obtain ⟨W22, hW22⟩ : ∃ W, W = (W21.alloc (.cells z 32)).setRow g11 cr := ⟨_, rfl⟩
      have hb2122 : Below W21.heap.size W21 W22 := by
        rw [hW22]
        exact (KB_setRow (KB.of_below (below_alloc (Below.refl W21.heap.size W21) (.cells z 32)) (fun _ => False)) (by rw [hg11]; exact Nat.le_refl _) cr).to_below (fun k h => h.elim) (Nat.le_refl _)
      have HC22 := Aside0.mk (show W22.heap[g11]? = some (.cells cr 32 (0, 0)) by rw [hW22]; exact setRow_heap _ g11 z cr 32 _ HG11.out)
      have HB22 := Aside0.mk (below_then HB21.out HB21.out.size hb2122)
      have HV22 := Aside0.mk (HV21.out.below hb2122)
      rw [← hW22]
      clear hW22 hb2122 hg11 HG11 hal21
      obtain ⟨rd4, hrd4⟩ : ∃ rd, rd = putB (putB (putB (fun _ => Z512) 2 (nodeL Lw)) 3 (nodeL Hg)) 4 (nodeL rt) := ⟨_, rfl⟩
      have HNA := Aside0.mk (show Nod rd4 60 low Lw ∧ Nod rd4 60 high Hg ∧ Nod rd4 60 root (Rt 3 low high) from by
        rw [hrd4]
        refine ⟨?_, ?_, ?_⟩
        · rw [HCL.out.1]; exact nod_of (FrmA.Holds.put (FrmA.Holds.put (putB_holds (fun _ => Z512) 2 5 (nodeL Lw)) (.inl (by rw [len_lw]; decide))) (.inl (by rw [len_lw]; decide))) rightLw (by decide) (by decide) (by rw [len_lw]; decide) (by decide)
        · rw [HCH.out.1]; exact nod_of (FrmA.Holds.put (putB_holds _ 3 5 (nodeL Hg)) (.inl (by rw [len_hg]; decide))) rightHg (by decide) (by decide) (by rw [len_hg]; decide) (by decide)
        · rw [← HRT.out, HCR.out.1]; exact nod_of (putB_holds _ 4 6 (nodeL rt)) HRR.out.1 (by decide) (by decide) (by rw [HRR.out.2]; decide) (by decide))
      have hnz : root ≠ zeroP := by rw [HCR.out.1]; intro e; have := congrArg Ptr.at_ e; simp [ofP, zeroP] at this
      have hbi : low.birth = 5 ∧ high.birth = 5 ∧ root.birth = 6 := ⟨by rw [HCL.out.1]; rfl, by rw [HCH.out.1]; rfl, by rw [HCR.out.1]; rfl⟩
      obtain ⟨kR, hkR, hrunR⟩ := run_of HNA.out.1 HNA.out.2.1 HNA.out.2.2 (by decide) (.inl (by decide))
      have hv22 : PV W22 p d m lb a mw 60 2 60 0 [(4 + 1, 60)] 6 (.slice none 0 0) rd4 := by rw [hrd4]; exact HV22.out
      have T4 := walk12 p d m lb a mw 60 2 60 0 [(4 + 1, 60)] 6 (.slice none 0 0) rd4 root kR _ W22 hv22 (by decide) (by decide) HOR.out hnz (by omega) hrunR
      rw [← HCR.out.2.1] at T4
      clear hnz hbi hkR hrunR hv22 hrd4
      go_upto_region 24 with (fail)
      go_wp2_with (refine load_cs rfl 32 (.tmp 11) rfl g11 0 cr _ rfl (range_pre HC22.out (fun _ _ => rfl)) underl56 rfl (by rw [HCR.out.2.2.1]; kernel_rfl) ?_)
      refine T4.mono ?_
      clear T4
      rintro e W23 ⟨hb23, hr⟩
      have HB23 := Aside0.mk (below_then HB22.out HB22.out.size hb23)
      clear hb23
      have he : e = .returned (.tuple #[.agg #[.slice none 0 0, .int .i64 0, .int .i64 0], .int .i64 11]) := hr
      clear hr
      subst he
      obtain ⟨cf, hcf⟩ : ∃ cs : Array Value, cs = #[.slice none 0 0, .int .i64 0, .int .i64 0] := ⟨_, rfl⟩
      rw [← hcf]
      have HCF := Aside0.mk (And.intro hcf (And.intro (show cf.size = 3 by rw [hcf]; rfl) (show cf.all (·.oneCell') = true by rw [hcf, ← Array.all_toList]; rfl)))
      obtain ⟨g12, hg12⟩ : ∃ g, g = W23.heap.size := ⟨_, rfl⟩
      have HG12 := Aside0.mk (show (W23.alloc (.cells #[.slice none 0 0, .int .i64 0, .int .i64 0] 41)).heap[g12]? = some (.cells #[.slice none 0 0, .int .i64 0, .int .i64 0] 41 (0, 0)) by rw [hg12]; exact blk_new W23 _)
      clear hcf
      go_upto_region 25 with (refine wpList_store_row rfl 41 (.tmp 12) (.tmp 108) rfl g12 cf (by show Value.pointer _ = _; rw [hg12]) rfl 41 _ HG12.out (by rw [HCF.out.2.1]; kernel_rfl) (by rw [HCF.out.2.1]; rfl) HCF.out.2.2 ?_)
      rw [← hg12]
      obtain ⟨W24, hW24⟩ : ∃ W, W = (W23.alloc (.cells #[.slice none 0 0, .int .i64 0, .int .i64 0] 41)).setRow g12 cf := ⟨_, rfl⟩
      have HB24 := Aside0.mk (show Below w.heap.size w W24 by
        rw [hW24]
        exact (KB_setRow (KB.of_below (below_alloc HB23.out (.cells #[.slice none 0 0, .int .i64 0, .int .i64 0] 41)) (fun _ => False)) (by rw [hg12]; exact HB23.out.size) cf).to_below (fun k h => h.elim) (Nat.le_refl _))
      have hc24 : W24.heap[g12]? = some (.cells cf 41 (0, 0)) := by rw [hW24]; exact setRow_heap _ g12 _ cf 41 _ HG12.out
      rw [HCF.out.1] at hc24
      have r0 := cell_of_row W24 g12 0 _ 41 (0, 0) hc24
      have r1 := cell_of_row W24 g12 1 _ 41 (0, 0) hc24
      have r2 := cell_of_row W24 g12 2 _ 41 (0, 0) hc24
      simp only [List.getElem?_toArray, List.getElem?_cons_zero, List.getElem?_cons_succ] at r0 r1 r2
      rw [← hW24]
      clear hW24 hg12 hc24
      go_wp2
      rw [HP.out]
      exact ⟨rfl, HB24.out⟩
end Go.Proofs.YtchhdafgmifhdaaGreat.FrmC
