/- Own texts, one behind the other, each with what the claim uses of it: AlcG AlcH KpA PoolC LawA LawB LawC LawD LawE LawF Opens LawG. -/
import Derived.Test.YtchhdafgmifhdaaChecked
import GoSem.Claim
import GoSem.ClaimJoined
import GoSem.ClaimMapViews
import Derived.JoinedTies
import Derived.KernelRfl
import Derived.Test.YtchhdafgmifhdaaProg
import Derived.Below
import Derived.Deep.Draws
import Derived.Deep.AppendLies
import Derived.Maps.AppendAt
import Derived.OwnWalk
import Derived.Laws.BytesArg
import Derived.Laws.MakeOwn
import Derived.Laws.OwnMore
import Derived.Deep.OwnRows
import Derived.Tactics
import Derived.Lib.ConvBytes
import Derived.Laws.Slices
import Derived.WalkKit
import Derived.RowKit3
import Derived.Deep.LoopGhost
import Derived.Deep.QuietTactic
import Derived.BigQuiet
import Derived.WideLaws
import Derived.Deep.DeepCutAuto
import Derived.Deep.CutBlock
import Derived.Deep.RegionHeld3
import Derived.Laws.Rows
import Derived.Lib.AppendStr
import Derived.ArgAppend
import Derived.Laws.IdiomCopy
import Derived.OrdersHeld
import Derived.Laws.BitsLemmas
import Derived.RowKit
import Derived.Laws.StructEq
import Derived.Deep.Slices
import Derived.WalkSpells
import Derived.WalkSmall
import Derived.Laws.Tables
import Derived.Deep.WholeRow
import Derived.StillTailTactics
import Derived.MapKept
import Derived.Laws.CopyOwn
import Derived.Maps.RangeRun
import Derived.Deep.MidRow
import Derived.Laws.Cover3
import Derived.Lib.SlBytesConst
import Derived.OpenShut
import Derived.SizedLaws
import Derived.ChangeSlices
import Derived.ProofKit
import Derived.ShutString
import Derived.ChangeOld
import Derived.Test.YtchhdafgmifhdaaWSized
import Derived.Test.YtchhdafgmifhdaaWWords
import Derived.Test.YtchhdafgmifhdaaSCA
import Derived.Test.YtchhdafgmifhdaaSCB
namespace Go.Proofs.Ytchhdafgmifhdaa.AlcG
open Go.RowKit Go.Proofs.Ytchhdafgmifhdaa.B8 Go.Proofs.Ytchhdafgmifhdaa.Agg Go.Proofs.Ytchhdafgmifhdaa.CodL Go.Proofs.Ytchhdafgmifhdaa.CodA Go.Proofs.Ytchhdafgmifhdaa.CodB Go.Proofs.Ytchhdafgmifhdaa.CrcL Go.Proofs.Ytchhdafgmifhdaa.CrcA Go.Proofs.Ytchhdafgmifhdaa.CrcB Go.Proofs.Ytchhdafgmifhdaa.PCowLays Go.Proofs.YtchhdafgmifhdaaW.PrintWords Go.Proofs.YtchhdafgmifhdaaW.PrintLast Go.Proofs.YtchhdafgmifhdaaW.PrintMore Go.Proofs.Ytchhdafgmifhdaa.ExtL Go.Proofs.Ytchhdafgmifhdaa.ExtA Go.Proofs.Ytchhdafgmifhdaa.ExtB Go.Proofs.Ytchhdafgmifhdaa.ExtC Go.Proofs.Ytchhdafgmifhdaa.ExtD Go.Proofs.Ytchhdafgmifhdaa.ExtE Go.Proofs.Ytchhdafgmifhdaa.ExtF Go.Proofs.Ytchhdafgmifhdaa.ExtG Go.Proofs.Ytchhdafgmifhdaa.DskA Go.Proofs.Ytchhdafgmifhdaa.DskB Go.Proofs.Ytchhdafgmifhdaa.DskC Go.Proofs.Ytchhdafgmifhdaa.AlcA Go.Proofs.Ytchhdafgmifhdaa.PoolB
open Go.ChangeMaps (setBlock)
set_option linter.unusedVariables false
set_option linter.unusedSimpArgs false
/-- An allocator but for what waits. -/
structure AC (W : World) (a mw : Nat) (fr tu rs : Int) (l : List Sp) : Prop where
  blk : ∃ (A : Option Addr) (n c : Nat) (was : Value), W.heap[a]? = some (.cells #[.int .i64 fr, .int .i64 tu, .bool true, .int .i64 rs, .slice A n c, .map (some mw), was] 57 (0, 0)) ∧ Kd.C kS W A n l ∧ n ≤ c ∧ n ≤ 10000
  vs : VS (-1) l
  num : 0 ≤ fr ∧ fr ≤ tu ∧ tu ≤ 8192 ∧ 0 ≤ rs ∧ rs ≤ 8192 ∧ 0 ≤ total l ∧ total l ≤ 8192
theorem AC.below {W W2 : World} {a mw : Nat} {fr tu rs : Int} {l : List Sp} (h : AC W a mw fr tu rs l) (hb : Below W.heap.size W W2) : AC W2 a mw fr tu rs l := by
  obtain ⟨⟨A, n, c, was, h1, h2, h3, h4⟩, h5, h7⟩ := h
  exact ⟨⟨A, n, c, was, blk_below h1 hb, Kd.C_below h2 hb, h3, h4⟩, h5, h7⟩
/-- What waits: one group. -/
def WT (W : World) (mw : Nat) (lw : List Sp) : Prop := ∃ (A : Option Addr) (n c b cl : Nat), W.heap[mw]? = some (.map #[{ key := .int .i64 1, val := .slice A n c, born := b }] cl) ∧ b < cl ∧ Kd.C kS W A n lw ∧ n ≤ c ∧ n ≤ 10000
theorem WT.below {W W2 : World} {mw : Nat} {lw : List Sp} (h : WT W mw lw) (hb : Below W.heap.size W W2) : WT W2 mw lw := by
  obtain ⟨A, n, c, b, cl, h1, h2, h3, h4, h5⟩ := h
  exact ⟨A, n, c, b, cl, blk_below h1 hb, h2, Kd.C_below h3 hb, h4, h5⟩
/-- All of them joined. -/
def joinS (lw : List Sp) : List Sp := lw.foldl addS []
/-- They can be joined, one by one. -/
def OkW (lw : List Sp) : Prop := (∀ s ∈ lw, okS s) ∧ ∀ i, VS (-1) (joinS (lw.take i)) ∧ (joinS (lw.take i)).length ≤ 10000
set_option maxRecDepth 100000 in
set_option maxHeartbeats 2000000 in
theorem none17c (a mw : Nat) (fr tu rs : Int) (l : List Sp) (w : World) (hd : AC w a mw fr tu rs l) : Calls Try.prog 17 #[.pointer (some ⟨a, 0, none⟩)] w (fun e w' => e = .returned (.bool false) ∧ Below w.heap.size w w') := by
  obtain ⟨A, n, c, was, h1, h2, h3, h4⟩ := hd.blk
  have q2 : w.cell? ⟨a, 2, none⟩ = some (.bool true) := by rw [cell_of_row _ _ 2 _ 57 (0, 0) h1]; rfl
  obtain ⟨P, hP⟩ : ∃ P : Ending → World → Prop, P = fun e w' => e = .returned (.bool false) ∧ Below w.heap.size w w' := ⟨_, rfl⟩
  rw [← hP]
  have HP := Aside0.mk hP
  clear hP h1 h2 h3 h4 hd
  go_enter Try.func17, Try.ntmps17
  go_wp2
  rw [HP.out]
  exact ⟨rfl, Below.refl _ _⟩
set_option maxRecDepth 100000 in
set_option maxHeartbeats 2000000 in
theorem free18c (a mw : Nat) (fr tu rs : Int) (l : List Sp) (w : World) (hd : AC w a mw fr tu rs l) : Calls Try.prog 18 #[.pointer (some ⟨a, 0, none⟩)] w (fun e w' => e = .returned (.int .i64 (total l)) ∧ Below w.heap.size w w') := by
  have HD := Aside0.mk hd
  obtain ⟨P, hP⟩ : ∃ P : Ending → World → Prop, P = fun e w' => e = .returned (.int .i64 (total l)) ∧ Below w.heap.size w w' := ⟨_, rfl⟩
  rw [← hP]
  have HP := Aside0.mk hP
  clear hP hd
  go_enter Try.func18, Try.ntmps18
  go_wp2_with fail
  refine (none17c a mw fr tu rs l w HD.out).mono ?_
  rintro e W2 ⟨rfl, hb⟩
  have HB := Aside0.mk hb
  obtain ⟨A, n, c, was, h1, h2, h3, h4⟩ := (HD.out.below hb).blk
  have HC := Aside0.mk (And.intro h2 (And.intro h3 h4))
  have q4 : W2.cell? ⟨a, 4, none⟩ = some (.slice A n c) := by rw [cell_of_row _ _ 4 _ 57 (0, 0) h1]; rfl
  clear h1 h2 h3 h4 hb
  go_wp2_with fail
  refine (total_calls A c n l W2 HC.out.1 HC.out.2.1 (by have := HC.out.2.2; omega) HD.out.vs).mono ?_
  rintro e W3 ⟨rfl, hb3⟩
  have HB3 := Aside0.mk (HB.out.trans (hb3.mono HB.out.size))
  clear hb3
  go_wp2
  rw [HP.out]
  exact ⟨rfl, HB3.out⟩
set_option maxRecDepth 100000 in
set_option maxHeartbeats 4000000 in
theorem waiting31c (a mw : Nat) (fr tu rs : Int) (l lw : List Sp) (w : World) (hd : AC w a mw fr tu rs l) (hw : WT w mw lw) (hok : OkW lw) : Calls Try.prog 31 #[.pointer (some ⟨a, 0, none⟩)] w (TellsS w (joinS lw)) := by
  obtain ⟨A, n, c, was, h1, h2, h3, h4⟩ := hd.blk
  obtain ⟨A2, n2, c2, b, cl, hmw, hbc, hC2, hnc2, hn2⟩ := hw
  have q5 : w.cell? ⟨a, 5, none⟩ = some (.map (some mw)) := by rw [cell_of_row _ _ 5 _ 57 (0, 0) h1]; rfl
  obtain ⟨P, hP⟩ : ∃ P : Ending → World → Prop, P = TellsS w (joinS lw) := ⟨_, rfl⟩
  rw [← hP]
  have HP := Aside0.mk hP
  obtain ⟨es, hes⟩ : ∃ es : Array MapEntry, es = #[{ key := .int .i64 1, val := .slice A2 n2 c2, born := b }] := ⟨_, rfl⟩
  rw [← hes] at hmw
  have hrg := run_range_map (P := Try.prog) w 55 3 54 mw es cl under55 hmw
  obtain ⟨W1, hW1⟩ : ∃ W1, W1 = w.alloc (.mapIter (some mw) cl #[] cl) := ⟨_, rfl⟩
  rw [← hW1] at hrg
  have hB1 : Below w.heap.size w W1 := by rw [hW1]; exact below_alloc (Below.refl w.heap.size w) _
  have hr1 : W1.heap[w.heap.size]? = some (.mapIter (some mw) cl #[] cl) := by rw [hW1]; exact blk_new w _
  have hm1 : W1.heap[mw]? = some (.map es cl) := blk_below hmw hB1
  have hold : ∀ x ∈ es.toList, x.born < cl := by intro x hx; rw [hes] at hx; simp at hx; rw [hx]; exact hbc
  have h0 : (leftOf es #[]).toList = [{ key := .int .i64 1, val := .slice A2 n2 c2, born := b }] := by rw [hes]; simp [leftOf]
  obtain ⟨W2, hn1, hB2, hr2, hm2⟩ : ∃ W2, (Instr.next (.pointer (some ⟨w.heap.size, 0, none⟩)) false 0).run Try.prog W1 = .ok (.tuple #[.bool true, .int .i64 1, .slice A2 n2 c2]) W2 ∧ Below w.heap.size w W2 ∧ W2.heap[w.heap.size]? = some (.mapIter (some mw) cl (#[].push b) cl) ∧ W2.heap[mw]? = some (.map es cl) := by
    have hmwlt : mw < w.heap.size := blk_lt hmw
    have hlt1 : w.heap.size < W1.heap.size := blk_lt hr1
    rcases run_next_at (P := Try.prog) W1 0 w.heap.size mw cl cl #[] es cl hr1 hm1 hold (Nat.le_refl _) with ⟨hz, _⟩ | ⟨e, he, w1, hw1, hrun⟩
    · rw [← Array.length_toList, h0] at hz; simp at hz
    · rw [h0] at he
      obtain rfl : e = _ := by simpa using he
      have hb1 : Below w.heap.size w w1 := by rcases hw1 with rfl | rfl; exact hB1; exact hB1.trans (below_drew (Below.refl _ _))
      have hm1' : w1.heap[mw]? = some (.map es cl) := by rcases hw1 with rfl | rfl <;> exact hm1
      have hsz : w.heap.size < w1.heap.size := by rcases hw1 with rfl | rfl <;> exact hlt1
      refine ⟨_, hrun, hb1.trans ⟨rfl, rfl, rfl, by simp [setBlock], fun i hi => by simp [setBlock, Array.getElem?_setIfInBounds]; omega⟩, ?_, ?_⟩
      · simp [setBlock, hsz]
      · simp only [setBlock, Array.getElem?_setIfInBounds]
        rw [if_neg (by omega)]
        exact hm1'
  have hen := run_entry_at (P := Try.prog) W2 w.heap.size mw cl #[] es cl { key := .int .i64 1, val := .slice A2 n2 c2, born := b } hr2 hm2 (by rw [hes]; simp) (by rw [hes]; simp)
  have HB2 := Aside0.mk hB2
  have HC2 := Aside0.mk (And.intro hC2 (And.intro hnc2 hn2))
  have HL := Aside0.mk hC2.1
  have HIT := Aside0.mk (And.intro hr2 (And.intro hm2 (And.intro hold hes)))
  have HOK := Aside0.mk hok
  have hn2' := hn2
  clear hP h1 h2 h3 h4 hd hmw hW1 hB1 hr1 hm1 hold hes hB2 hr2 hm2 hC2 hnc2 hok h0 hbc
  go_enter Try.func31, Try.ntmps31
  go_wp2
  refine wp_loop_rounds 2 ?_
  rw [rounds_succ]
  go_wp2
  go_loopw [3, 19] (fun v3 v19 wr => ∃ k : Nat, v19 = .int .i64 (k : Int) ∧ k ≤ n2 ∧ Aside0 (Kd.R kS 42 wr w.heap.size (fun _ => True) v3 (joinS (lw.take k))) ∧ Aside0 (Below W2.heap.size W2 wr)) (fun _ v _ => n2 - (intOf v).toNat)
  case atStart => exact ⟨0, rfl, Nat.zero_le _, ⟨by simpa [joinS] using Kd.R_nil kS 42 W2 w.heap.size (fun _ => True)⟩, ⟨Below.refl _ _⟩⟩
  case round =>
    obtain ⟨k, rfl, hk, HR, HB⟩ := hrel
    by_cases hlt : k < n2
    · obtain ⟨b0, off0, rfl, hb0, hx0⟩ := CS_at (Kd.C_below HC2.out.1 HB2.out) (by omega)
      obtain ⟨x0, x1⟩ := hx0 k hlt
      obtain ⟨sp, hsp⟩ : ∃ s, s = lw.getD k (0, 0) := ⟨_, rfl⟩
      rw [← hsp] at x0 x1
      have hgk : lw[k]? = some sp := by rw [hsp, List.getD_eq_getElem?_getD, List.getElem?_eq_getElem (by have := HL.out; omega)]; rfl
      have hjn : joinS (lw.take (k + 1)) = addS (joinS (lw.take k)) sp := by
        rw [List.take_add_one, hgk]
        simp [joinS, List.foldl_append]
      replace x0 := (HB.out.cell (p := ⟨b0, off0 + k * 2, none⟩) hb0).trans x0
      replace x1 := (HB.out.cell (p := ⟨b0, off0 + k * 2 + 1, none⟩) hb0).trans x1
      have HOKS := Aside0.mk (HOK.out.1 sp (List.mem_of_getElem? hgk))
      obtain ⟨x, y⟩ := sp
      obtain ⟨A3, c3, e3, hl3, hc3⟩ := Kd.R_reads HR.out
      subst e3
      have HC3 := Aside0.mk (And.intro hl3 hc3)
      have HJ := Aside0.mk hjn
      have hg := blk_new wr (.cells #[.int .i64 x, .int .i64 y] 42)
      have q0 : (wr.alloc (.cells #[.int .i64 x, .int .i64 y] 42)).cell? ⟨wr.heap.size, 0, none⟩ = some (.int .i64 x) := by rw [cell_of_row _ _ 0 _ 42 (0, 0) hg]; rfl
      have q1 : (wr.alloc (.cells #[.int .i64 x, .int .i64 y] 42)).cell? ⟨wr.heap.size, 1, none⟩ = some (.int .i64 y) := by rw [cell_of_row _ _ 1 _ 42 (0, 0) hg]; rfl
      have HB3 := Aside0.mk (below_then HB.out HB.out.size (below_alloc (Below.refl _ _) (.cells #[.int .i64 x, .int .i64 y] 42)))
      clear hsp hgk hjn hx0 hb0 hg hl3 hc3
      go_wp2_with fail
      refine (add_calls A3 c3 _ (joinS (lw.take k)) x y _ (Kd.C_below HC3.out.2 (below_alloc (Below.refl _ _) _)) HC3.out.1 (by have := (HOK.out.2 k).2; omega) (HOK.out.2 k).1 HOKS.out).mono ?_
      rintro e w6 ⟨v, rfl, hR6, hb6⟩
      have HB6 := Aside0.mk (below_then HB3.out HB3.out.size hb6)
      have HR6 := Aside0.mk (show Kd.R kS 42 w6 w.heap.size (fun _ => True) v (joinS (lw.take (k + 1))) by
        rw [HJ.out]
        exact Kd.R_lower hR6 (by have := HB2.out.size; have := HB3.out.size; omega))
      clear hb6 hR6 q0 q1
      go_wp2_with fail
      go_roundw
      case rel => exact ⟨k + 1, by go_num, by omega, HR6, HB6⟩
      case measure => simp [intOf]; omega
    · have hn : lw.take k = lw := List.take_of_length_le (by have := HL.out; omega)
      obtain ⟨hr2, hm2, hold, hes⟩ := HIT.out
      have hr3 := blk_below hr2 HB.out
      have hm3 := blk_below hm2 HB.out
      have hnx : (Instr.next (.pointer (some ⟨w.heap.size, 0, none⟩)) false 0).run Try.prog wr = .ok (.tuple #[.bool false]) wr := by
        rcases run_next_at (P := Try.prog) wr 0 w.heap.size mw cl cl _ es cl hr3 hm3 hold (Nat.le_refl _) with ⟨_, h⟩ | ⟨e, he, _⟩
        · exact h
        · rw [hes] at he
          simp [leftOf] at he
      have HF := Aside0.mk (show TellsS w (joinS lw) (.returned u3) wr from ⟨u3, rfl, by have := HR.out; rwa [hn] at this, HB2.out.trans (HB.out.mono HB2.out.size)⟩)
      clear hr2 hm2 hold hes hr3 hm3 hn HIT
      go_wp2
      rw [rounds_succ]
      go_wp2
      rw [HP.out]
      exact HF.out
set_option maxRecDepth 100000 in
set_option maxHeartbeats 2000000 in
theorem waiting19c (a mw : Nat) (fr tu rs : Int) (l lw : List Sp) (w : World) (hd : AC w a mw fr tu rs l) (hw : WT w mw lw) (hok : OkW lw) : Calls Try.prog 19 #[.pointer (some ⟨a, 0, none⟩)] w (fun e w' => e = .returned (.int .i64 (total (joinS lw))) ∧ Below w.heap.size w w') := by
  have HD := Aside0.mk (And.intro hd (And.intro hw hok))
  obtain ⟨P, hP⟩ : ∃ P : Ending → World → Prop, P = fun e w' => e = .returned (.int .i64 (total (joinS lw))) ∧ Below w.heap.size w w' := ⟨_, rfl⟩
  rw [← hP]
  have HP := Aside0.mk hP
  clear hP hd hw hok
  go_enter Try.func19, Try.ntmps19
  go_wp2_with fail
  refine (none17c a mw fr tu rs l w HD.out.1).mono ?_
  rintro e W2 ⟨rfl, hb⟩
  have HB := Aside0.mk hb
  clear hb
  go_wp2_with fail
  refine (waiting31c a mw fr tu rs l lw W2 (HD.out.1.below HB.out) (HD.out.2.1.below HB.out) HD.out.2.2).mono ?_
  rintro e W3 ⟨v, rfl, hR, hb3⟩
  have HB3 := Aside0.mk (HB.out.trans (hb3.mono HB.out.size))
  obtain ⟨A, c, e, hl, hc⟩ := Kd.R_reads hR
  subst e
  have HC := Aside0.mk (And.intro hl hc)
  have hv := HD.out.2.2.2 lw.length
  rw [List.take_length] at hv
  have HV := Aside0.mk hv
  clear hb3 hl hc hR hv
  go_wp2_with fail
  refine (total_calls A c _ (joinS lw) W3 HC.out.2 HC.out.1 (by have := HV.out.2; omega) HV.out.1).mono ?_
  rintro e W4 ⟨rfl, hb4⟩
  have HB4 := Aside0.mk (HB3.out.trans (hb4.mono HB3.out.size))
  clear hb4
  go_wp2
  rw [HP.out]
  exact ⟨rfl, HB4.out⟩
set_option maxRecDepth 100000 in
set_option maxHeartbeats 2000000 in
theorem used6c (a mw : Nat) (fr tu rs : Int) (l lw : List Sp) (w : World) (hd : AC w a mw fr tu rs l) (hw : WT w mw lw) (hok : OkW lw) (ht : 0 ≤ total (joinS lw) ∧ total (joinS lw) ≤ 8192) : Calls Try.prog 6 #[.pointer (some ⟨a, 0, none⟩)] w (fun e w' => e = .returned (.int .i64 (tu - fr - total l - total (joinS lw))) ∧ Below w.heap.size w w') := by
  have HD := Aside0.mk (And.intro hd (And.intro hw hok))
  obtain ⟨t2, ht2⟩ : ∃ t, t = total (joinS lw) := ⟨_, rfl⟩
  obtain ⟨t1, ht1⟩ : ∃ t, t = total l := ⟨_, rfl⟩
  rw [← ht2] at ht ⊢
  rw [← ht1]
  obtain ⟨P, hP⟩ : ∃ P : Ending → World → Prop, P = fun e w' => e = .returned (.int .i64 (tu - fr - t1 - t2)) ∧ Below w.heap.size w w' := ⟨_, rfl⟩
  rw [← hP]
  have HP := Aside0.mk hP
  obtain ⟨n1, n2, n3, n4, n5, n6, n7⟩ := hd.num
  rw [← ht1] at n6 n7
  have HT := Aside0.mk (And.intro ht1 ht2)
  clear hP hd hw hok ht1 ht2
  have hw1 : IntKind.i64.wrap (tu - fr) = tu - fr := i64_small (by omega) (by omega)
  have hw2 : IntKind.i64.wrap (tu - fr - t1) = tu - fr - t1 := i64_small (by omega) (by omega)
  have hw3 : IntKind.i64.wrap (tu - fr - t1 - t2) = tu - fr - t1 - t2 := i64_small (by omega) (by omega)
  go_enter Try.func6, Try.ntmps6
  go_wp2_with fail
  refine (none17c a mw fr tu rs l w HD.out.1).mono ?_
  rintro e W2 ⟨rfl, hb⟩
  have HB := Aside0.mk hb
  have HC := Aside0.mk (HD.out.1.below hb)
  clear hb
  obtain ⟨A, n, c, was, h1, h2, h3, h4⟩ := HC.out.blk
  have hal : a < W2.heap.size := blk_lt h1
  have Q0 := Aside0.mk (show W2.cell? ⟨a, 0, none⟩ = some (.int .i64 fr) by rw [cell_of_row _ _ 0 _ 57 (0, 0) h1]; rfl)
  have Q1 := Aside0.mk (show W2.cell? ⟨a, 1, none⟩ = some (.int .i64 tu) by rw [cell_of_row _ _ 1 _ 57 (0, 0) h1]; rfl)
  clear h1 h2 h3 h4
  go_wp2_with fail
  refine wp_region_held_drew (S := fun w' => Below W2.heap.size W2 w') (by kernel_rfl) (below_drew (Below.refl _ _)) (fun hW => ?_)
  have WDB := Aside0.mk (show Below W2.heap.size W2 W2.drew from below_drew (Below.refl _ _))
  generalize hWd : W2.drew = Wd at *
  clear hWd
  refine wpAnyH_take (i := 0) (oi := ⟨some 5, _, _, _, _, _⟩) (v := .pointer (some ⟨a, 0, none⟩)) rfl (by kernel_rfl) (by kernel_rfl) (by kernel_rfl) (fun _ _ _ h => h) (.inl ⟨by rfl, fun W1 h1 => by go_simp⟩) hW ?_
  try simp only [Act.put, List.setIfInBounds_toArray, List.set_cons_zero, List.set_cons_succ]
  refine wpAnyH_take (i := 1) (oi := ⟨some 6, _, _, _, _, _⟩) (v := .pointer (some ⟨a, 0, none⟩)) rfl (by kernel_rfl) (by kernel_rfl) (by kernel_rfl) (fun _ _ _ h => h) (.inl ⟨by rfl, fun W1 h1 => by go_simp⟩) hW ?_
  try simp only [Act.put, List.setIfInBounds_toArray, List.set_cons_zero, List.set_cons_succ]
  refine wpAnyH_take (i := 2) (oi := ⟨some 7, _, _, _, _, _⟩) (v := .pointer (some ⟨a, 0, none⟩)) rfl (by kernel_rfl) (by kernel_rfl) (by kernel_rfl) (fun _ _ _ h => h) (.inl ⟨by rfl, fun W1 h1 => by go_simp⟩) hW ?_
  try simp only [Act.put, List.setIfInBounds_toArray, List.set_cons_zero, List.set_cons_succ]
  refine wpAnyH_take (i := 3) (oi := ⟨some 8, _, _, _, _, _⟩) (v := .pointer (some ⟨a, 1, none⟩)) rfl (by kernel_rfl) (by kernel_rfl) (by kernel_rfl) (fun _ _ _ h => h) (.inl ⟨by rfl, fun W1 h1 => by go_simp⟩) hW ?_
  try simp only [Act.put, List.setIfInBounds_toArray, List.set_cons_zero, List.set_cons_succ]
  refine wpAnyH_take (i := 4) (oi := ⟨some 9, _, _, _, _, _⟩) (v := .int .i64 tu) rfl (by kernel_rfl) (by kernel_rfl) (by kernel_rfl) (fun _ _ _ h => h) (.inl ⟨by rfl, fun W1 h1 => by have h2 := (Below.cell (p := ⟨a, 1, none⟩) h1 hal).trans Q1.out; clear h1; go_simp⟩) hW ?_
  try simp only [Act.put, List.setIfInBounds_toArray, List.set_cons_zero, List.set_cons_succ]
  refine wpAnyH_take (i := 5) (oi := ⟨some 10, _, _, _, _, _⟩) (v := .pointer (some ⟨a, 0, none⟩)) rfl (by kernel_rfl) (by kernel_rfl) (by kernel_rfl) (fun _ _ _ h => h) (.inl ⟨by rfl, fun W1 h1 => by go_simp⟩) hW ?_
  try simp only [Act.put, List.setIfInBounds_toArray, List.set_cons_zero, List.set_cons_succ]
  refine wpAnyH_take (i := 6) (oi := ⟨some 11, _, _, _, _, _⟩) (v := .pointer (some ⟨a, 0, none⟩)) rfl (by kernel_rfl) (by kernel_rfl) (by kernel_rfl) (fun _ _ _ h => h) (.inl ⟨by rfl, fun W1 h1 => by go_simp⟩) hW ?_
  try simp only [Act.put, List.setIfInBounds_toArray, List.set_cons_zero, List.set_cons_succ]
  refine wpAnyH_take (i := 7) (oi := ⟨some 12, _, _, _, _, _⟩) (v := .pointer (some ⟨a, 0, none⟩)) rfl (by kernel_rfl) (by kernel_rfl) (by kernel_rfl) (fun _ _ _ h => h) (.inl ⟨by rfl, fun W1 h1 => by go_simp⟩) hW ?_
  try simp only [Act.put, List.setIfInBounds_toArray, List.set_cons_zero, List.set_cons_succ]
  refine wpAnyH_take (i := 8) (oi := ⟨some 13, _, _, _, _, _⟩) (v := .pointer (some ⟨a, 0, none⟩)) rfl (by kernel_rfl) (by kernel_rfl) (by kernel_rfl) (fun _ _ _ h => h) (.inl ⟨by rfl, fun W1 h1 => by go_simp⟩) hW ?_
  try simp only [Act.put, List.setIfInBounds_toArray, List.set_cons_zero, List.set_cons_succ]
  refine wpAnyH_take (i := 9) (oi := ⟨some 14, _, _, _, _, _⟩) (v := .int .i64 fr) rfl (by kernel_rfl) (by kernel_rfl) (by kernel_rfl) (fun _ _ _ h => h) (.inl ⟨by rfl, fun W1 h1 => by have h2 := (Below.cell (p := ⟨a, 0, none⟩) h1 hal).trans Q0.out; clear h1; go_simp⟩) hW ?_
  try simp only [Act.put, List.setIfInBounds_toArray, List.set_cons_zero, List.set_cons_succ]
  refine wpAnyH_take (i := 10) (oi := ⟨some 15, _, _, _, _, _⟩) (v := .int .i64 (tu - fr)) rfl (by kernel_rfl) (by kernel_rfl) (by kernel_rfl) (fun _ _ _ h => h) (.inl ⟨by rfl, fun W1 h1 => by go_simp⟩) hW ?_
  try simp only [Act.put, List.setIfInBounds_toArray, List.set_cons_zero, List.set_cons_succ]
  refine wpAnyH_take (i := 11) (oi := ⟨some 16, _, _, _, _, _⟩) (v := .pointer (some ⟨a, 0, none⟩)) rfl (by kernel_rfl) (by kernel_rfl) (by kernel_rfl) (fun _ _ _ h => h) (.inl ⟨by rfl, fun W1 h1 => by go_simp⟩) hW ?_
  try simp only [Act.put, List.setIfInBounds_toArray, List.set_cons_zero, List.set_cons_succ]
  refine wpAnyH_take (i := 14) (oi := ⟨some 19, _, _, _, _, _⟩) (v := .pointer (some ⟨a, 0, none⟩)) rfl (by kernel_rfl) (by kernel_rfl) (by kernel_rfl) (fun _ _ _ h => h) (.inl ⟨by rfl, fun W1 h1 => by go_simp⟩) hW ?_
  try simp only [Act.put, List.setIfInBounds_toArray, List.set_cons_zero, List.set_cons_succ]
  refine wpAnyH_ready (rs := [12]) (by kernel_rfl) (by simp) (AllReadyH.cons rfl (fun K1 hK1 => ?_) AllReadyH.nil)
  go_simp
  refine (free18c a mw fr tu rs l _ (HC.out.below hW)).mono ?_
  rintro e WT ⟨he, hb⟩
  rw [← HT.out.1] at he
  subst he
  refine hK1.out _ _ (hW.trans (hb.mono hW.size)) (fun hW => ?_)
  try simp only [Act.put, List.setIfInBounds_toArray, List.set_cons_zero, List.set_cons_succ]
  clear hb
  refine wpAnyH_take (i := 13) (oi := ⟨some 18, _, _, _, _, _⟩) (v := .int .i64 (tu - fr - t1)) rfl (by kernel_rfl) (by kernel_rfl) (by kernel_rfl) (fun _ _ _ h => h) (.inl ⟨by rfl, fun W1 h1 => by go_simp⟩) hW ?_
  try simp only [Act.put, List.setIfInBounds_toArray, List.set_cons_zero, List.set_cons_succ]
  refine wpAnyH_ready (rs := [15]) (by kernel_rfl) (by simp) (AllReadyH.cons rfl (fun K2 hK2 => ?_) AllReadyH.nil)
  go_simp
  refine (waiting19c a mw fr tu rs l lw _ (HC.out.below hW) ((HD.out.2.1.below HB.out).below hW) HD.out.2.2).mono ?_
  rintro e WT ⟨he, hb⟩
  rw [← HT.out.2] at he
  subst he
  refine hK2.out _ _ (hW.trans (hb.mono hW.size)) (fun hW => ?_)
  try simp only [Act.put, List.setIfInBounds_toArray, List.set_cons_zero, List.set_cons_succ]
  clear hb
  refine wpAnyH_take (i := 16) (oi := ⟨some 21, _, _, _, _, _⟩) (v := .int .i64 (tu - fr - t1 - t2)) rfl (by kernel_rfl) (by kernel_rfl) (by kernel_rfl) (fun _ _ _ h => h) (.inl ⟨by rfl, fun W1 h1 => by go_simp⟩) hW ?_
  try simp only [Act.put, List.setIfInBounds_toArray, List.set_cons_zero, List.set_cons_succ]
  refine wpAnyH_take (i := 17) (oi := ⟨some 2, _, _, _, _, _⟩) (v := .int .i64 (tu - fr - t1 - t2)) rfl (by kernel_rfl) (by kernel_rfl) (by kernel_rfl) (fun _ _ _ h => h) (.inl ⟨by rfl, fun W1 h1 => by go_simp⟩) hW ?_
  try simp only [Act.put, List.setIfInBounds_toArray, List.set_cons_zero, List.set_cons_succ]
  refine wpAnyH_done (by kernel_rfl) ?_ _
  clear hK1 hK2 K1 K2
  have HBF := Aside0.mk (HB.out.trans (hW.mono HB.out.size))
  clear hW
  go_wp2
  rw [HP.out]
  exact ⟨rfl, HBF.out⟩
/-- A pool where something waits. -/
structure PW (W : World) (p d m a mw N : Nat) (fr tu rs : Int) (l lw : List Sp) (ep : Int) (kv : Value) : Prop where
  blk : W.heap[p]? = some (.cells #[.pointer (some ⟨d, 0, none⟩), .pointer (some ⟨a, 0, none⟩), .int .i64 ep, .bool false, kv] 29 (0, 0))
  disk : DB W d N m
  alc : AC W a mw fr tu rs l
  wt : WT W mw lw
theorem PW.below {W W2 : World} {p d m a mw N : Nat} {fr tu rs : Int} {l lw : List Sp} {ep : Int} {kv : Value} (h : PW W p d m a mw N fr tu rs l lw ep kv) (hb : Below W.heap.size W W2) : PW W2 p d m a mw N fr tu rs l lw ep kv :=
  ⟨blk_below h.blk hb, h.disk.below hb, h.alc.below hb, h.wt.below hb⟩
set_option maxRecDepth 100000 in
set_option maxHeartbeats 4000000 in
theorem ready12w (p d m a mw N : Nat) (fr tu rs : Int) (l lw : List Sp) (ep : Int) (kv : Value) (w : World) (h : PW w p d m a mw N fr tu rs l lw ep kv) (hN : 0 < N) (htu : fr < tu) (hok : OkW lw) (htt : 0 ≤ total (joinS lw) ∧ total (joinS lw) ≤ 8192) :
    Calls Try.prog 12 #[.pointer (some ⟨p, 0, none⟩)] w (fun e w' => e = .returned (.int .i64 0) ∧ Below w.heap.size w w') := by
  obtain ⟨P, hP⟩ : ∃ P : Ending → World → Prop, P = fun e w' => e = .returned (.int .i64 0) ∧ Below w.heap.size w w' := ⟨_, rfl⟩
  rw [← hP]
  have HP := Aside0.mk hP
  clear hP
  have H := Aside0.mk h
  have hp : p < w.heap.size := blk_lt h.blk
  have C0 := Aside0.mk (show w.cell? ⟨p, 0, none⟩ = some (.pointer (some ⟨d, 0, none⟩)) by rw [cell_of_row _ _ 0 _ 29 (0, 0) h.blk]; rfl)
  have C1 := Aside0.mk (show w.cell? ⟨p, 1, none⟩ = some (.pointer (some ⟨a, 0, none⟩)) by rw [cell_of_row _ _ 1 _ 29 (0, 0) h.blk]; rfl)
  have hN0 : ((N : Int) == 0) = false := by rw [beq_eq_false_iff_ne]; omega
  obtain ⟨n1, n2, n3, n4, n5, n6, n7⟩ := h.alc.num
  have HW := Aside0.mk (And.intro hok htt)
  obtain ⟨t, ht⟩ : ∃ t, t = total l := ⟨_, rfl⟩
  obtain ⟨t2, ht2⟩ : ∃ t, t = total (joinS lw) := ⟨_, rfl⟩
  have HT := Aside0.mk ht
  have HT2 := Aside0.mk ht2
  rw [← ht] at n6 n7
  rw [← ht2] at htt
  obtain ⟨m1, m2⟩ := htt
  have w1 : IntKind.i64.wrap (t + (tu - fr - t - t2)) = tu - fr - t2 := by rw [i64_small (by omega) (by omega)]; omega
  have w2 : IntKind.i64.wrap (tu - fr - t2 + t2) = tu - fr := by rw [i64_small (by omega) (by omega)]; omega
  have w3 : IntKind.i64.wrap (tu - fr) = tu - fr := i64_small (by omega) (by omega)
  have hE : ((tu - fr) == 0) = false := by rw [beq_eq_false_iff_ne]; omega
  clear h ht ht2 hN hok
  go_enter Try.func12, Try.ntmps12
  go_wp2_with fail
  refine wp_region_held_drew (S := fun w' => Below w.heap.size w w') (by kernel_rfl) (below_drew (Below.refl _ _)) (fun hW => ?_)
  have WDB := Aside0.mk (show Below w.heap.size w w.drew from below_drew (Below.refl _ _))
  generalize hWd : w.drew = Wd at *
  clear hWd
  refine wpAnyH_take (i := 0) (oi := ⟨some 3, _, _, _, _, _⟩) (v := .pointer (some ⟨p, 0, none⟩)) rfl (by kernel_rfl) (by kernel_rfl) (by kernel_rfl) (fun _ _ _ h => h) (.inl ⟨by rfl, fun W1 h1 => by go_simp⟩) hW ?_
  try simp only [Act.put, List.setIfInBounds_toArray, List.set_cons_zero, List.set_cons_succ]
  refine wpAnyH_take (i := 1) (oi := ⟨some 4, _, _, _, _, _⟩) (v := .bool false) rfl (by kernel_rfl) (by kernel_rfl) (by kernel_rfl) (fun _ _ _ h => h) (.inl ⟨by rfl, fun W1 h1 => by go_simp⟩) hW ?_
  try simp only [Act.put, List.setIfInBounds_toArray, List.set_cons_zero, List.set_cons_succ]
  refine wpAnyH_take (i := 2) (oi := ⟨some 5, _, _, _, _, _⟩) (v := .bool false) rfl (by kernel_rfl) (by kernel_rfl) (by kernel_rfl) (fun _ _ _ h => h) (.inl ⟨by rfl, fun W1 h1 => by go_simp⟩) hW ?_
  try simp only [Act.put, List.setIfInBounds_toArray, List.set_cons_zero, List.set_cons_succ]
  refine wpAnyH_take (i := 3) (oi := ⟨some 6, _, _, _, _, _⟩) (v := .pointer (some ⟨p, 0, none⟩)) rfl (by kernel_rfl) (by kernel_rfl) (by kernel_rfl) (fun _ _ _ h => h) (.inl ⟨by rfl, fun W1 h1 => by go_simp⟩) hW ?_
  try simp only [Act.put, List.setIfInBounds_toArray, List.set_cons_zero, List.set_cons_succ]
  refine wpAnyH_take (i := 4) (oi := ⟨some 7, _, _, _, _, _⟩) (v := .pointer (some ⟨p, 0, none⟩)) rfl (by kernel_rfl) (by kernel_rfl) (by kernel_rfl) (fun _ _ _ h => h) (.inl ⟨by rfl, fun W1 h1 => by go_simp⟩) hW ?_
  try simp only [Act.put, List.setIfInBounds_toArray, List.set_cons_zero, List.set_cons_succ]
  refine wpAnyH_take (i := 5) (oi := ⟨some 8, _, _, _, _, _⟩) (v := .pointer (some ⟨p, 0, none⟩)) rfl (by kernel_rfl) (by kernel_rfl) (by kernel_rfl) (fun _ _ _ h => h) (.inl ⟨by rfl, fun W1 h1 => by go_simp⟩) hW ?_
  try simp only [Act.put, List.setIfInBounds_toArray, List.set_cons_zero, List.set_cons_succ]
  refine wpAnyH_take (i := 6) (oi := ⟨some 9, _, _, _, _, _⟩) (v := .pointer (some ⟨d, 0, none⟩)) rfl (by kernel_rfl) (by kernel_rfl) (by kernel_rfl) (fun _ _ _ h => h) (.inl ⟨by rfl, fun W1 h1 => by have h2 := (Below.cell (p := ⟨p, 0, none⟩) h1 hp).trans C0.out; clear h1; go_simp⟩) hW ?_
  try simp only [Act.put, List.setIfInBounds_toArray, List.set_cons_zero, List.set_cons_succ]
  refine wpAnyH_ready (rs := [7]) (by kernel_rfl) (by simp) (AllReadyH.cons rfl (fun K1 hK1 => ?_) AllReadyH.nil)
  go_simp
  refine (len23 d N m _ (H.out.disk.below hW)).mono ?_
  rintro e WT ⟨rfl, hb⟩
  refine hK1.out _ _ (hW.trans (hb.mono hW.size)) (fun hW => ?_)
  try simp only [Act.put, List.setIfInBounds_toArray, List.set_cons_zero, List.set_cons_succ]
  clear hb
  refine wpAnyH_take (i := 8) (oi := ⟨some 11, _, _, _, _, _⟩) (v := .bool false) rfl (by kernel_rfl) (by kernel_rfl) (by kernel_rfl) (fun _ _ _ h => h) (.inl ⟨by rfl, fun W1 h1 => by go_simp⟩) hW ?_
  try simp only [Act.put, List.setIfInBounds_toArray, List.set_cons_zero, List.set_cons_succ]
  refine wpAnyH_take (i := 9) (oi := ⟨some 12, _, _, _, _, _⟩) (v := .bool false) rfl (by kernel_rfl) (by kernel_rfl) (by kernel_rfl) (fun _ _ _ h => h) (.inl ⟨by rfl, fun W1 h1 => by go_simp⟩) hW ?_
  try simp only [Act.put, List.setIfInBounds_toArray, List.set_cons_zero, List.set_cons_succ]
  refine wpAnyH_take (i := 10) (oi := ⟨some 13, _, _, _, _, _⟩) (v := .bool false) rfl (by kernel_rfl) (by kernel_rfl) (by kernel_rfl) (fun _ _ _ h => h) (.inl ⟨by rfl, fun W1 h1 => by go_simp⟩) hW ?_
  try simp only [Act.put, List.setIfInBounds_toArray, List.set_cons_zero, List.set_cons_succ]
  refine wpAnyH_take (i := 11) (oi := ⟨some 14, _, _, _, _, _⟩) (v := .pointer (some ⟨p, 0, none⟩)) rfl (by kernel_rfl) (by kernel_rfl) (by kernel_rfl) (fun _ _ _ h => h) (.inl ⟨by rfl, fun W1 h1 => by go_simp⟩) hW ?_
  try simp only [Act.put, List.setIfInBounds_toArray, List.set_cons_zero, List.set_cons_succ]
  refine wpAnyH_take (i := 12) (oi := ⟨some 15, _, _, _, _, _⟩) (v := .pointer (some ⟨p, 0, none⟩)) rfl (by kernel_rfl) (by kernel_rfl) (by kernel_rfl) (fun _ _ _ h => h) (.inl ⟨by rfl, fun W1 h1 => by go_simp⟩) hW ?_
  try simp only [Act.put, List.setIfInBounds_toArray, List.set_cons_zero, List.set_cons_succ]
  refine wpAnyH_take (i := 13) (oi := ⟨some 16, _, _, _, _, _⟩) (v := .pointer (some ⟨p, 1, none⟩)) rfl (by kernel_rfl) (by kernel_rfl) (by kernel_rfl) (fun _ _ _ h => h) (.inl ⟨by rfl, fun W1 h1 => by go_simp⟩) hW ?_
  try simp only [Act.put, List.setIfInBounds_toArray, List.set_cons_zero, List.set_cons_succ]
  refine wpAnyH_take (i := 14) (oi := ⟨some 17, _, _, _, _, _⟩) (v := .pointer (some ⟨a, 0, none⟩)) rfl (by kernel_rfl) (by kernel_rfl) (by kernel_rfl) (fun _ _ _ h => h) (.inl ⟨by rfl, fun W1 h1 => by have h2 := (Below.cell (p := ⟨p, 1, none⟩) h1 hp).trans C1.out; clear h1; go_simp⟩) hW ?_
  try simp only [Act.put, List.setIfInBounds_toArray, List.set_cons_zero, List.set_cons_succ]
  refine wpAnyH_take (i := 16) (oi := ⟨some 19, _, _, _, _, _⟩) (v := .pointer (some ⟨p, 0, none⟩)) rfl (by kernel_rfl) (by kernel_rfl) (by kernel_rfl) (fun _ _ _ h => h) (.inl ⟨by rfl, fun W1 h1 => by go_simp⟩) hW ?_
  try simp only [Act.put, List.setIfInBounds_toArray, List.set_cons_zero, List.set_cons_succ]
  refine wpAnyH_take (i := 17) (oi := ⟨some 20, _, _, _, _, _⟩) (v := .pointer (some ⟨p, 0, none⟩)) rfl (by kernel_rfl) (by kernel_rfl) (by kernel_rfl) (fun _ _ _ h => h) (.inl ⟨by rfl, fun W1 h1 => by go_simp⟩) hW ?_
  try simp only [Act.put, List.setIfInBounds_toArray, List.set_cons_zero, List.set_cons_succ]
  refine wpAnyH_take (i := 18) (oi := ⟨some 21, _, _, _, _, _⟩) (v := .pointer (some ⟨p, 1, none⟩)) rfl (by kernel_rfl) (by kernel_rfl) (by kernel_rfl) (fun _ _ _ h => h) (.inl ⟨by rfl, fun W1 h1 => by go_simp⟩) hW ?_
  try simp only [Act.put, List.setIfInBounds_toArray, List.set_cons_zero, List.set_cons_succ]
  refine wpAnyH_take (i := 19) (oi := ⟨some 22, _, _, _, _, _⟩) (v := .pointer (some ⟨a, 0, none⟩)) rfl (by kernel_rfl) (by kernel_rfl) (by kernel_rfl) (fun _ _ _ h => h) (.inl ⟨by rfl, fun W1 h1 => by have h2 := (Below.cell (p := ⟨p, 1, none⟩) h1 hp).trans C1.out; clear h1; go_simp⟩) hW ?_
  try simp only [Act.put, List.setIfInBounds_toArray, List.set_cons_zero, List.set_cons_succ]
  refine wpAnyH_take (i := 22) (oi := ⟨some 25, _, _, _, _, _⟩) (v := .pointer (some ⟨p, 0, none⟩)) rfl (by kernel_rfl) (by kernel_rfl) (by kernel_rfl) (fun _ _ _ h => h) (.inl ⟨by rfl, fun W1 h1 => by go_simp⟩) hW ?_
  try simp only [Act.put, List.setIfInBounds_toArray, List.set_cons_zero, List.set_cons_succ]
  refine wpAnyH_take (i := 23) (oi := ⟨some 26, _, _, _, _, _⟩) (v := .pointer (some ⟨p, 0, none⟩)) rfl (by kernel_rfl) (by kernel_rfl) (by kernel_rfl) (fun _ _ _ h => h) (.inl ⟨by rfl, fun W1 h1 => by go_simp⟩) hW ?_
  try simp only [Act.put, List.setIfInBounds_toArray, List.set_cons_zero, List.set_cons_succ]
  refine wpAnyH_take (i := 24) (oi := ⟨some 27, _, _, _, _, _⟩) (v := .pointer (some ⟨p, 1, none⟩)) rfl (by kernel_rfl) (by kernel_rfl) (by kernel_rfl) (fun _ _ _ h => h) (.inl ⟨by rfl, fun W1 h1 => by go_simp⟩) hW ?_
  try simp only [Act.put, List.setIfInBounds_toArray, List.set_cons_zero, List.set_cons_succ]
  refine wpAnyH_take (i := 25) (oi := ⟨some 28, _, _, _, _, _⟩) (v := .pointer (some ⟨a, 0, none⟩)) rfl (by kernel_rfl) (by kernel_rfl) (by kernel_rfl) (fun _ _ _ h => h) (.inl ⟨by rfl, fun W1 h1 => by have h2 := (Below.cell (p := ⟨p, 1, none⟩) h1 hp).trans C1.out; clear h1; go_simp⟩) hW ?_
  try simp only [Act.put, List.setIfInBounds_toArray, List.set_cons_zero, List.set_cons_succ]
  refine wpAnyH_ready (rs := [15]) (by kernel_rfl) (by simp) (AllReadyH.cons rfl (fun K2 hK2 => ?_) AllReadyH.nil)
  go_simp
  refine (free18c a mw fr tu rs l _ (H.out.alc.below hW)).mono ?_
  rintro e WT ⟨he, hb⟩
  rw [← HT.out] at he
  subst he
  refine hK2.out _ _ (hW.trans (hb.mono hW.size)) (fun hW => ?_)
  try simp only [Act.put, List.setIfInBounds_toArray, List.set_cons_zero, List.set_cons_succ]
  clear hb
  refine wpAnyH_ready (rs := [20]) (by kernel_rfl) (by simp) (AllReadyH.cons rfl (fun K3 hK3 => ?_) AllReadyH.nil)
  go_simp
  refine (used6c a mw fr tu rs l lw _ (H.out.alc.below hW) (H.out.wt.below hW) HW.out.1 HW.out.2).mono ?_
  rintro e WT ⟨he, hb⟩
  rw [← HT.out, ← HT2.out] at he
  subst he
  refine hK3.out _ _ (hW.trans (hb.mono hW.size)) (fun hW => ?_)
  try simp only [Act.put, List.setIfInBounds_toArray, List.set_cons_zero, List.set_cons_succ]
  clear hb
  refine wpAnyH_take (i := 21) (oi := ⟨some 24, _, _, _, _, _⟩) (v := .int .i64 (tu - fr - t2)) rfl (by kernel_rfl) (by kernel_rfl) (by kernel_rfl) (fun _ _ _ h => h) (.inl ⟨by rfl, fun W1 h1 => by go_simp⟩) hW ?_
  try simp only [Act.put, List.setIfInBounds_toArray, List.set_cons_zero, List.set_cons_succ]
  refine wpAnyH_ready (rs := [26]) (by kernel_rfl) (by simp) (AllReadyH.cons rfl (fun K4 hK4 => ?_) AllReadyH.nil)
  go_simp
  refine (waiting19c a mw fr tu rs l lw _ (H.out.alc.below hW) (H.out.wt.below hW) HW.out.1).mono ?_
  rintro e WT ⟨he, hb⟩
  rw [← HT2.out] at he
  subst he
  refine hK4.out _ _ (hW.trans (hb.mono hW.size)) (fun hW => ?_)
  try simp only [Act.put, List.setIfInBounds_toArray, List.set_cons_zero, List.set_cons_succ]
  clear hb
  refine wpAnyH_take (i := 27) (oi := ⟨some 30, _, _, _, _, _⟩) (v := .int .i64 (tu - fr)) rfl (by kernel_rfl) (by kernel_rfl) (by kernel_rfl) (fun _ _ _ h => h) (.inl ⟨by rfl, fun W1 h1 => by go_simp⟩) hW ?_
  try simp only [Act.put, List.setIfInBounds_toArray, List.set_cons_zero, List.set_cons_succ]
  refine wpAnyH_take (i := 28) (oi := ⟨some 31, _, _, _, _, _⟩) (v := .bool false) rfl (by kernel_rfl) (by kernel_rfl) (by kernel_rfl) (fun _ _ _ h => h) (.inl ⟨by rfl, fun W1 h1 => by go_simp⟩) hW ?_
  try simp only [Act.put, List.setIfInBounds_toArray, List.set_cons_zero, List.set_cons_succ]
  refine wpAnyH_take (i := 29) (oi := ⟨some 32, _, _, _, _, _⟩) (v := .bool false) rfl (by kernel_rfl) (by kernel_rfl) (by kernel_rfl) (fun _ _ _ h => h) (.inl ⟨by rfl, fun W1 h1 => by go_simp⟩) hW ?_
  try simp only [Act.put, List.setIfInBounds_toArray, List.set_cons_zero, List.set_cons_succ]
  refine wpAnyH_done (by kernel_rfl) ?_ _
  clear hK1 hK2 hK3 hK4 K1 K2 K3 K4
  have HB := Aside0.mk hW
  clear hW
  go_wp2
  rw [HP.out]
  exact ⟨rfl, HB.out⟩
end Go.Proofs.Ytchhdafgmifhdaa.AlcG
namespace Go.Proofs.Ytchhdafgmifhdaa.AlcH
open Go.RowKit Go.Proofs.Ytchhdafgmifhdaa.B8 Go.Proofs.Ytchhdafgmifhdaa.Agg Go.Proofs.Ytchhdafgmifhdaa.CodL Go.Proofs.Ytchhdafgmifhdaa.CodA Go.Proofs.Ytchhdafgmifhdaa.CodB Go.Proofs.Ytchhdafgmifhdaa.CrcL Go.Proofs.Ytchhdafgmifhdaa.CrcA Go.Proofs.Ytchhdafgmifhdaa.CrcB Go.Proofs.Ytchhdafgmifhdaa.PCowLays Go.Proofs.YtchhdafgmifhdaaW.PrintWords Go.Proofs.YtchhdafgmifhdaaW.PrintLast Go.Proofs.YtchhdafgmifhdaaW.PrintMore Go.Proofs.Ytchhdafgmifhdaa.ExtL Go.Proofs.Ytchhdafgmifhdaa.ExtA Go.Proofs.Ytchhdafgmifhdaa.ExtB Go.Proofs.Ytchhdafgmifhdaa.ExtC Go.Proofs.Ytchhdafgmifhdaa.ExtD Go.Proofs.Ytchhdafgmifhdaa.ExtE Go.Proofs.Ytchhdafgmifhdaa.ExtF Go.Proofs.Ytchhdafgmifhdaa.ExtG Go.Proofs.Ytchhdafgmifhdaa.DskA Go.Proofs.Ytchhdafgmifhdaa.DskB Go.Proofs.Ytchhdafgmifhdaa.DskC Go.Proofs.Ytchhdafgmifhdaa.AlcA Go.Proofs.Ytchhdafgmifhdaa.AlcC Go.Proofs.Ytchhdafgmifhdaa.PoolB Go.Proofs.Ytchhdafgmifhdaa.AlcG
set_option linter.unusedVariables false
set_option linter.unusedSimpArgs false
theorem lookup55_none (W : World) (mw cl : Nat) (h : W.heap[mw]? = some (.map #[] cl)) : (Instr.lookup 55 (.map (some mw)) (.int .i64 1) false).run Try.prog W = .ok (.slice none 0 0) W := by
  have hk : MapKept.IsKey (.int .i64) (.int .i64 1) := rfl
  have h1 : Instr.findNow (.int .i64) (.int .i64 1) [] 0 = some none := by rfl
  have hz : (zeroValue 54).run Try.prog W = .ok (.slice none 0 0) W := by kernel_rfl
  simp [Instr.lookup, run_underlying under55, MapKept.run_getObj_map h, MapKept.run_checkKey under3 hk, MapKept.run_findKey under3 h1, Result.andThen, hz]
theorem update55_first (W : World) (mw cl : Nat) (v : Value) (h : W.heap[mw]? = some (.map #[] cl)) : (Instr.mapUpdate 55 (.map (some mw)) (.int .i64 1) v).run Try.prog W = .ok () { W with heap := W.heap.setIfInBounds mw (.map #[{ key := .int .i64 1, val := v, born := cl }] (cl + 1)) } := by
  have hk : MapKept.IsKey (.int .i64) (.int .i64 1) := rfl
  have h1 : Instr.findNow (.int .i64) (.int .i64 1) [] 0 = some none := by rfl
  simp [Instr.mapUpdate, run_underlying under55, MapKept.run_getObj_map h, MapKept.run_checkKey under3 hk, MapKept.run_findKey under3 h1, MapKept.run_setObj_map _ h, Result.andThen]
theorem wp_mapUpdate55 {o : Oper} {a : Act} {w w1 : World} {K : Act → World → Prop} {Q : Exit → Act → World → Prop} (x y z : Operand) (ho : o.op = .mapUpdate 55 x y z) (u v s : Value) (hx : a.eval x = u) (hy : a.eval y = v) (hz : a.eval z = s)
    (hrun : (Instr.mapUpdate 55 u v s).run Try.prog w = .ok () w1) (h : K (a.put o.dst undef) w1) : o.wp Try.prog a w K Q := by
  unfold Oper.wp
  simp [execOp, ho, hx, hy, hz, hrun, Result.andThen]
  exact h
theorem C_two (W : World) (x y : Int) : Kd.C kS (W.alloc (.cells #[.int .i64 x, .int .i64 y] 42)) (some ⟨W.heap.size, 0, none⟩) 1 [(x, y)] :=
  ⟨rfl, by omega, fun _ => ⟨_, rfl, fun j p hj => by
    match j with
    | 0 =>
      obtain rfl : (x, y) = p := by simpa using hj
      refine ⟨[.int .i64 x, .int .i64 y], rfl, rfl, fun i u hu => ?_⟩
      rw [show (⟨W.heap.size, 0, none⟩ : Addr).add (0 * kS.sz + i) = ⟨W.heap.size, i, none⟩ from by rw [add_at]; simp, cell_of_row _ _ _ _ 42 (0, 0) (blk_new _ _)]
      simpa using hu
    | j + 1 => simp at hj⟩⟩
set_option maxRecDepth 100000 in
set_option maxHeartbeats 4000000 in
theorem later9 (a mw : Nat) (fr tu rs x y : Int) (l : List Sp) (w : World) (hd : AB w a mw fr tu rs l) (hx : fr ≤ x) (hxy : x < y) (hy : y ≤ tu) (hm : meetsS l (x, y) = false) :
    Calls Try.prog 9 #[.pointer (some ⟨a, 0, none⟩), .agg #[.int .i64 x, .int .i64 y]] w (fun e w' => e = .returned (.int .i64 0) ∧ KB w w' (fun k => k = mw) ∧ AC w' a mw fr tu rs l ∧ WT w' mw [(x, y)]) := by
  have hb1 : Below w.heap.size w (w.alloc (.cells #[.int .i64 x, .int .i64 y] 42)) := below_alloc (Below.refl w.heap.size w) _
  have HD := Aside0.mk (hd.below hb1)
  have HB := Aside0.mk hb1
  have HG := Aside0.mk (blk_new w (.cells #[.int .i64 x, .int .i64 y] 42))
  obtain ⟨P, hP⟩ : ∃ P : Ending → World → Prop, P = fun e w' => e = .returned (.int .i64 0) ∧ KB w w' (fun k => k = mw) ∧ AC w' a mw fr tu rs l ∧ WT w' mw [(x, y)] := ⟨_, rfl⟩
  rw [← hP]
  have HP := Aside0.mk hP
  have hE : usedE l (x, y) = 0 := by unfold usedE; rw [hm]; rfl
  have HC := Aside0.mk (And.intro hx (And.intro hxy hy))
  clear hP hd hb1 hm hx hxy hy
  go_enter Try.func9, Try.ntmps9
  go_wp2_with fail
  generalize hW1 : w.alloc (.cells #[.int .i64 x, .int .i64 y] 42) = W1 at *
  clear hW1
  refine (used21 a mw fr tu rs x y l W1 HD.out HC.out.1 HC.out.2.1 HC.out.2.2).mono ?_
  rintro e W2 ⟨rfl, hb⟩
  rw [hE]
  have HD2 := Aside0.mk (HD.out.below hb)
  have HB2 := Aside0.mk (show Below w.heap.size w W2 from HB.out.trans (hb.mono HB.out.size))
  have HG2 := Aside0.mk (blk_below HG.out hb)
  clear hb HB HD HG hE
  go_wp2_with fail
  obtain ⟨A, n, c, was, h1, h2, h3, h4⟩ := HD2.out.blk
  obtain ⟨cl, hmw⟩ := HD2.out.wait
  have HMW := Aside0.mk hmw
  have HAM := Aside0.mk (show ¬ a = mw by rintro rfl; rw [h1] at hmw; cases hmw)
  have HGM := Aside0.mk (show ¬ w.heap.size = mw by intro e; have := HG2.out; rw [e, hmw] at this; cases this)
  have Q5 := Aside0.mk (show W2.cell? ⟨a, 5, none⟩ = some (.map (some mw)) by rw [cell_of_row _ _ 5 _ 57 (0, 0) h1]; rfl)
  have X0 := Aside0.mk (show W2.cell? ⟨w.heap.size, 0, none⟩ = some (.int .i64 x) by rw [cell_of_row _ _ 0 _ 42 (0, 0) HG2.out]; rfl)
  have X1 := Aside0.mk (show W2.cell? ⟨w.heap.size, 1, none⟩ = some (.int .i64 y) by rw [cell_of_row _ _ 1 _ 42 (0, 0) HG2.out]; rfl)
  clear h1 h2 h3 h4 hmw
  refine wp_region_held_drew (S := fun w' => KB W2 w' (fun k => k = mw)) (by kernel_rfl) (KB.of_below (below_drew (Below.refl _ _)) _) (fun hW => ?_)
  have WDB := Aside0.mk (show Below W2.heap.size W2 W2.drew from below_drew (Below.refl _ _))
  generalize hWd : W2.drew = Wd at *
  clear hWd
  refine wpAnyH_take (i := 0) (oi := ⟨some 11, _, _, _, _, _⟩) (v := .pointer (some ⟨a, 0, none⟩)) rfl (by kernel_rfl) (by kernel_rfl) (by kernel_rfl) (fun _ _ _ h => h) (.inl ⟨by rfl, fun W1 h1 => by go_simp⟩) hW ?_
  try simp only [Act.put, List.setIfInBounds_toArray, List.set_cons_zero, List.set_cons_succ]
  refine wpAnyH_take (i := 1) (oi := ⟨some 12, _, _, _, _, _⟩) (v := .pointer (some ⟨a, 0, none⟩)) rfl (by kernel_rfl) (by kernel_rfl) (by kernel_rfl) (fun _ _ _ h => h) (.inl ⟨by rfl, fun W1 h1 => by go_simp⟩) hW ?_
  try simp only [Act.put, List.setIfInBounds_toArray, List.set_cons_zero, List.set_cons_succ]
  refine wpAnyH_take (i := 2) (oi := ⟨some 13, _, _, _, _, _⟩) (v := .pointer (some ⟨a, 5, none⟩)) rfl (by kernel_rfl) (by kernel_rfl) (by kernel_rfl) (fun _ _ _ h => h) (.inl ⟨by rfl, fun W1 h1 => by go_simp⟩) hW ?_
  try simp only [Act.put, List.setIfInBounds_toArray, List.set_cons_zero, List.set_cons_succ]
  refine wpAnyH_take (i := 3) (oi := ⟨some 14, _, _, _, _, _⟩) (v := .map (some mw)) rfl (by kernel_rfl) (by kernel_rfl) (by kernel_rfl) (fun _ _ _ h => h) (.inl ⟨by rfl, fun W1 h1 => by have h2 := cell_kept Q5.out h1.kept HAM.out; clear h1; go_simp⟩) hW ?_
  try simp only [Act.put, List.setIfInBounds_toArray, List.set_cons_zero, List.set_cons_succ]
  refine wpAnyH_take (i := 4) (oi := ⟨some 15, _, _, _, _, _⟩) (v := .pointer (some ⟨a, 0, none⟩)) rfl (by kernel_rfl) (by kernel_rfl) (by kernel_rfl) (fun _ _ _ h => h) (.inl ⟨by rfl, fun W1 h1 => by go_simp⟩) hW ?_
  try simp only [Act.put, List.setIfInBounds_toArray, List.set_cons_zero, List.set_cons_succ]
  refine wpAnyH_take (i := 5) (oi := ⟨some 16, _, _, _, _, _⟩) (v := .pointer (some ⟨a, 0, none⟩)) rfl (by kernel_rfl) (by kernel_rfl) (by kernel_rfl) (fun _ _ _ h => h) (.inl ⟨by rfl, fun W1 h1 => by go_simp⟩) hW ?_
  try simp only [Act.put, List.setIfInBounds_toArray, List.set_cons_zero, List.set_cons_succ]
  refine wpAnyH_take (i := 6) (oi := ⟨some 17, _, _, _, _, _⟩) (v := .pointer (some ⟨a, 5, none⟩)) rfl (by kernel_rfl) (by kernel_rfl) (by kernel_rfl) (fun _ _ _ h => h) (.inl ⟨by rfl, fun W1 h1 => by go_simp⟩) hW ?_
  try simp only [Act.put, List.setIfInBounds_toArray, List.set_cons_zero, List.set_cons_succ]
  refine wpAnyH_take (i := 7) (oi := ⟨some 18, _, _, _, _, _⟩) (v := .map (some mw)) rfl (by kernel_rfl) (by kernel_rfl) (by kernel_rfl) (fun _ _ _ h => h) (.inl ⟨by rfl, fun W1 h1 => by have h2 := cell_kept Q5.out h1.kept HAM.out; clear h1; go_simp⟩) hW ?_
  try simp only [Act.put, List.setIfInBounds_toArray, List.set_cons_zero, List.set_cons_succ]
  refine wpAnyH_take (i := 9) (oi := ⟨some 20, _, _, _, _, _⟩) (v := .agg #[.int .i64 x, .int .i64 y]) rfl (by kernel_rfl) (by kernel_rfl) (by kernel_rfl) (fun _ _ _ h => h) (.inl ⟨by rfl, fun W1 h1 => by have h2 := cell_kept X0.out h1.kept HGM.out; have h3 := cell_kept X1.out h1.kept HGM.out; clear h1; go_simp⟩) hW ?_
  try simp only [Act.put, List.setIfInBounds_toArray, List.set_cons_zero, List.set_cons_succ]
  refine wpAnyH_ready (rs := [8, 10]) (by kernel_rfl) (by simp) (AllReadyH.cons rfl (fun K1 hK1 => ?_) (AllReadyH.cons rfl (fun K2 hK2 => ?_) AllReadyH.nil))
  · have hlk := lookup55_none Wd mw cl (blk_below HMW.out WDB.out)
    go_simp
    clear hlk
    refine hK1.out _ _ (hW) (fun hW => ?_)
    try simp only [Act.put, List.setIfInBounds_toArray, List.set_cons_zero, List.set_cons_succ]
    refine wpAnyH_ready (rs := [10]) (by kernel_rfl) (by simp) (AllReadyH.cons rfl (fun K3 hK3 => ?_) AllReadyH.nil)
    go_simp
    refine hK3.out _ _ (hW.below (below_alloc (Below.refl _ _) _)) (fun hW => ?_)
    try simp only [Act.put, List.setIfInBounds_toArray, List.set_cons_zero, List.set_cons_succ]
    refine wpAnyH_ready (rs := [11]) (by kernel_rfl) (by simp) (AllReadyH.cons rfl (fun K4 hK4 => ?_) AllReadyH.nil)
    refine wp_rowsS (o := ⟨some 22, _, _, _, _, _⟩) (base := Wd.heap.size) (w0 := Wd) (.tmp 19) (.tmp 21) rfl (.slice none 0 0) [] [(x, y)] (some ⟨Wd.heap.size, 0, none⟩) 1 1 rfl rfl (Kd.R_nil _ _ _ _ _) (C_two Wd x y) (below_alloc (Below.refl _ _) _) (by simp) (by simp) ?_
    intro A1 n1 c1 w5 hn1 hR5 hb5
    have hR5 : Kd.R kS 42 w5 Wd.heap.size (fun _ => True) (.slice A1 n1 c1) [(x, y)] := hR5
    have HB5 := Aside0.mk (WDB.out.trans (hb5.mono WDB.out.size))
    have HC5 := Aside0.mk (Kd.R_reads' hR5)
    refine hK4.out _ _ (KB.of_below HB5.out _) (fun hW => ?_)
    try simp only [Act.put, List.setIfInBounds_toArray, List.set_cons_zero, List.set_cons_succ]
    clear hn1 hR5 hb5
    refine wpAnyH_ready (rs := [12]) (by kernel_rfl) (by simp) (AllReadyH.cons rfl (fun K5 hK5 => ?_) AllReadyH.nil)
    obtain ⟨W6, hW6⟩ : ∃ W6 : World, W6 = { w5 with heap := w5.heap.setIfInBounds mw (.map #[{ key := .int .i64 1, val := .slice A1 n1 c1, born := cl }] (cl + 1)) } := ⟨_, rfl⟩
    have hmw5 := blk_below HMW.out HB5.out
    have hrun := update55_first w5 mw cl (.slice A1 n1 c1) hmw5
    rw [← hW6] at hrun
    have hset := MapKept.heap_set (o' := .map #[{ key := .int .i64 1, val := .slice A1 n1 c1, born := cl }] (cl + 1)) hmw5
    have HK6 := Aside0.mk (show KB w5 W6 (fun k => k = mw) by
      rw [hW6]
      exact ⟨rfl, rfl, rfl, ⟨by simp, fun i hi hn => hset.2 i hn⟩⟩)
    have HM6 := Aside0.mk (show W6.heap[mw]? = some (.map #[{ key := .int .i64 1, val := .slice A1 n1 c1, born := cl }] (cl + 1)) by rw [hW6]; exact hset.1)
    have HM5 := Aside0.mk hmw5
    refine wp_mapUpdate55 (o := ⟨none, _, _, _, _, _⟩) (.tmp 14) (.const (.int .i64 1)) (.tmp 22) rfl (.map (some mw)) (.int .i64 1) (.slice A1 n1 c1) rfl rfl rfl hrun ?_
    clear hmw5 hrun hset hW6
    refine hK5.out _ _ (hW.then_ HK6.out (fun k hk => .inl hk)) (fun hW => ?_)
    try simp only [Act.put, List.setIfInBounds_toArray, List.set_cons_zero, List.set_cons_succ]
    refine wpAnyH_done (by kernel_rfl) ?_ _
    clear hK1 hK3 hK4 hK5 K1 K3 K4 K5
    have HFIN := Aside0.mk (show KB w W6 (fun k => k = mw) ∧ AC W6 a mw fr tu rs l ∧ WT W6 mw [(x, y)] by
      refine ⟨(KB.of_below HB2.out _).then_ hW (fun k hk => .inl hk), ?_, ?_⟩
      · obtain ⟨⟨A, n, c, was, h1, h2, h3, h4⟩, h5, _, h7⟩ := HD2.out
        exact ⟨⟨A, n, c, was, blk_kept h1 hW.kept HAM.out, Kcells h2 (fun _ _ h => h) (fun ad q v _ _ hc => cell_kept hc hW.kept (by
          intro e
          simp only [World.cell?, e, HMW.out] at hc
          cases hc)), h3, h4⟩, h5, h7⟩
      · have hc := HC5.out
        have hn1 : n1 = 1 := hc.1
        subst hn1
        refine ⟨A1, 1, c1, cl, cl + 1, HM6.out, Nat.lt_succ_self _, Kcells hc.2.2 (fun _ _ h => h) (fun ad q v _ _ hc => cell_kept hc HK6.out.kept (by
          intro e
          simp only [World.cell?, e, HM5.out] at hc
          cases hc)), hc.2.1, by omega⟩)
    clear hW
    go_wp2
    rw [HP.out]
    exact ⟨rfl, HFIN.out⟩
  · go_simp
    refine hK2.out _ _ (hW.below (below_alloc (Below.refl _ _) _)) (fun hW => ?_)
    try simp only [Act.put, List.setIfInBounds_toArray, List.set_cons_zero, List.set_cons_succ]
    refine wpAnyH_ready (rs := [8]) (by kernel_rfl) (by simp) (AllReadyH.cons rfl (fun K3 hK3 => ?_) AllReadyH.nil)
    have hlk := lookup55_none (Wd.alloc (.cells #[.int .i64 x, .int .i64 y] 42)) mw cl (blk_alloc (blk_below HMW.out WDB.out) _)
    go_simp
    clear hlk
    refine hK3.out _ _ (hW) (fun hW => ?_)
    try simp only [Act.put, List.setIfInBounds_toArray, List.set_cons_zero, List.set_cons_succ]
    refine wpAnyH_ready (rs := [11]) (by kernel_rfl) (by simp) (AllReadyH.cons rfl (fun K4 hK4 => ?_) AllReadyH.nil)
    refine wp_rowsS (o := ⟨some 22, _, _, _, _, _⟩) (base := Wd.heap.size) (w0 := Wd) (.tmp 19) (.tmp 21) rfl (.slice none 0 0) [] [(x, y)] (some ⟨Wd.heap.size, 0, none⟩) 1 1 rfl rfl (Kd.R_nil _ _ _ _ _) (C_two Wd x y) (below_alloc (Below.refl _ _) _) (by simp) (by simp) ?_
    intro A1 n1 c1 w5 hn1 hR5 hb5
    have hR5 : Kd.R kS 42 w5 Wd.heap.size (fun _ => True) (.slice A1 n1 c1) [(x, y)] := hR5
    have HB5 := Aside0.mk (WDB.out.trans (hb5.mono WDB.out.size))
    have HC5 := Aside0.mk (Kd.R_reads' hR5)
    refine hK4.out _ _ (KB.of_below HB5.out _) (fun hW => ?_)
    try simp only [Act.put, List.setIfInBounds_toArray, List.set_cons_zero, List.set_cons_succ]
    clear hn1 hR5 hb5
    refine wpAnyH_ready (rs := [12]) (by kernel_rfl) (by simp) (AllReadyH.cons rfl (fun K5 hK5 => ?_) AllReadyH.nil)
    obtain ⟨W6, hW6⟩ : ∃ W6 : World, W6 = { w5 with heap := w5.heap.setIfInBounds mw (.map #[{ key := .int .i64 1, val := .slice A1 n1 c1, born := cl }] (cl + 1)) } := ⟨_, rfl⟩
    have hmw5 := blk_below HMW.out HB5.out
    have hrun := update55_first w5 mw cl (.slice A1 n1 c1) hmw5
    rw [← hW6] at hrun
    have hset := MapKept.heap_set (o' := .map #[{ key := .int .i64 1, val := .slice A1 n1 c1, born := cl }] (cl + 1)) hmw5
    have HK6 := Aside0.mk (show KB w5 W6 (fun k => k = mw) by
      rw [hW6]
      exact ⟨rfl, rfl, rfl, ⟨by simp, fun i hi hn => hset.2 i hn⟩⟩)
    have HM6 := Aside0.mk (show W6.heap[mw]? = some (.map #[{ key := .int .i64 1, val := .slice A1 n1 c1, born := cl }] (cl + 1)) by rw [hW6]; exact hset.1)
    have HM5 := Aside0.mk hmw5
    refine wp_mapUpdate55 (o := ⟨none, _, _, _, _, _⟩) (.tmp 14) (.const (.int .i64 1)) (.tmp 22) rfl (.map (some mw)) (.int .i64 1) (.slice A1 n1 c1) rfl rfl rfl hrun ?_
    clear hmw5 hrun hset hW6
    refine hK5.out _ _ (hW.then_ HK6.out (fun k hk => .inl hk)) (fun hW => ?_)
    try simp only [Act.put, List.setIfInBounds_toArray, List.set_cons_zero, List.set_cons_succ]
    refine wpAnyH_done (by kernel_rfl) ?_ _
    clear hK2 hK3 hK4 hK5 K2 K3 K4 K5
    have HFIN := Aside0.mk (show KB w W6 (fun k => k = mw) ∧ AC W6 a mw fr tu rs l ∧ WT W6 mw [(x, y)] by
      refine ⟨(KB.of_below HB2.out _).then_ hW (fun k hk => .inl hk), ?_, ?_⟩
      · obtain ⟨⟨A, n, c, was, h1, h2, h3, h4⟩, h5, _, h7⟩ := HD2.out
        exact ⟨⟨A, n, c, was, blk_kept h1 hW.kept HAM.out, Kcells h2 (fun _ _ h => h) (fun ad q v _ _ hc => cell_kept hc hW.kept (by
          intro e
          simp only [World.cell?, e, HMW.out] at hc
          cases hc)), h3, h4⟩, h5, h7⟩
      · have hc := HC5.out
        have hn1 : n1 = 1 := hc.1
        subst hn1
        refine ⟨A1, 1, c1, cl, cl + 1, HM6.out, Nat.lt_succ_self _, Kcells hc.2.2 (fun _ _ h => h) (fun ad q v _ _ hc => cell_kept hc HK6.out.kept (by
          intro e
          simp only [World.cell?, e, HM5.out] at hc
          cases hc)), hc.2.1, by omega⟩)
    clear hW
    go_wp2
    rw [HP.out]
    exact ⟨rfl, HFIN.out⟩
end Go.Proofs.Ytchhdafgmifhdaa.AlcH
namespace Go.Proofs.Ytchhdafgmifhdaa.KpA
open Go.RowKit Go.Proofs.Ytchhdafgmifhdaa.B8 Go.Proofs.Ytchhdafgmifhdaa.Agg Go.Proofs.Ytchhdafgmifhdaa.CodL Go.Proofs.Ytchhdafgmifhdaa.CodA Go.Proofs.Ytchhdafgmifhdaa.CodB Go.Proofs.Ytchhdafgmifhdaa.CrcL Go.Proofs.Ytchhdafgmifhdaa.CrcA Go.Proofs.Ytchhdafgmifhdaa.CrcB Go.Proofs.Ytchhdafgmifhdaa.PCowLays Go.Proofs.YtchhdafgmifhdaaW.PrintWords Go.Proofs.YtchhdafgmifhdaaW.PrintLast Go.Proofs.YtchhdafgmifhdaaW.PrintMore Go.Proofs.Ytchhdafgmifhdaa.CatL Go.Proofs.Ytchhdafgmifhdaa.PtrA Go.Proofs.Ytchhdafgmifhdaa.PtrB Go.Proofs.Ytchhdafgmifhdaa.PtrE Go.Proofs.Ytchhdafgmifhdaa.OfA Go.Proofs.Ytchhdafgmifhdaa.ExtA
set_option linter.unusedVariables false
set_option linter.unusedSimpArgs false
theorem enc_len {p : Ptr} (h : Ok p) : (encP p).toList.length = 36 := by rw [Array.length_toList, encP_size h.len]
theorem enc_one (p : Ptr) : ∀ u ∈ (encP p).toList, u.oneCell' = true := fun u hu => (Array.all_eq_true_iff_forall_mem.1 (encP_one p)) u (by simpa using hu)
/-- A pointer, as a kind. -/
def kP : Kd Ptr where
  sz := 36
  E := []
  K := fun _ p cs => cs = (encP p).toList ∧ Ok p
  M := fun _ _ _ p cs => cs = (encP p).toList ∧ Ok p
  K_len := fun h => by rw [h.1]; exact enc_len h.2
  K_one := fun h u hu => by rw [h.1] at hu; exact enc_one _ u hu
  K_below := fun _ h => h
  K_of_M := fun h => h
  M_mono := fun _ h => h
  M_bound := fun h => h
  M_move := fun _ h => h
  M_lower := fun _ h => h

/-- Where a row of pointers lies. -/
theorem CP_at {w : World} {A : Option Addr} {n : Nat} {l : List Ptr} (h : Kd.C kP w A n l) (h0 : 0 < n) :
    ∃ b off, A = some ⟨b, off, none⟩ ∧ b < w.heap.size ∧ ∀ i, i < n → Ok (l.getD i zeroP) ∧ w.rangeAt b (off + i * 36) (encP (l.getD i zeroP)).toList := by
  have each : ∀ i, i < n → ∃ ad, A = some ad ∧ Ok (l.getD i zeroP) ∧ ∀ j u, (encP (l.getD i zeroP)).toList[j]? = some u → w.cell? (ad.add (i * 36 + j)) = some u := by
    intro i hi
    obtain ⟨ad, c, e, _, hk, hj⟩ := Kd.C_get h zeroP (i : Int) (by omega) (by omega)
    rw [Int.toNat_natCast] at hk hj
    obtain ⟨rfl, ho⟩ := hk
    exact ⟨ad, e, ho, fun j u hu => hj j u hu⟩
  obtain ⟨ad, e, ho, hc⟩ := each 0 h0
  have g0 := hc 0 _ (by simp [encP]; rfl)
  have hs : ad.spot = none := by
    have := World.cell?_spot g0
    rwa [show ad.add (0 * 36 + 0) = ad from rfl] at this
  obtain ⟨b, off, s⟩ := ad
  simp only at hs
  subst hs
  refine ⟨b, off, e, World.block_lt_of_cell? w _ g0, fun i hi => ?_⟩
  obtain ⟨ad', e', ho', hc'⟩ := each i hi
  rw [e] at e'
  injection e' with e'
  subst e'
  refine ⟨ho', fun j u hu => ?_⟩
  have := hc' j u hu
  rwa [show (⟨b, off, none⟩ : Addr).add (i * 36 + j) = ⟨b, off + i * 36 + j, none⟩ from by rw [add_at]; simp [Nat.add_assoc]] at this

theorem info33 : (Try.prog.info? 33).map (fun i => (i.zero, i.size, i.bytes)) = some (some (.agg Z33), 36, 64) := by kernel_rfl
set_option maxRecDepth 100000 in
theorem run_one36 (cs : Array Value) (h : cs.size = 36) (W : World) : (Instr.buildSlice 27 1 #[(0, .agg cs)]).run Try.prog W = .ok (.slice (some ⟨W.heap.size, 0, none⟩) 1 1) (W.alloc (.cells cs 33)) := by
  rcases cs with ⟨l⟩
  rcases l with _ | ⟨c0, l⟩; · simp at h
  rcases l with _ | ⟨c1, l⟩; · simp at h
  rcases l with _ | ⟨c2, l⟩; · simp at h
  rcases l with _ | ⟨c3, l⟩; · simp at h
  rcases l with _ | ⟨c4, l⟩; · simp at h
  rcases l with _ | ⟨c5, l⟩; · simp at h
  rcases l with _ | ⟨c6, l⟩; · simp at h
  rcases l with _ | ⟨c7, l⟩; · simp at h
  rcases l with _ | ⟨c8, l⟩; · simp at h
  rcases l with _ | ⟨c9, l⟩; · simp at h
  rcases l with _ | ⟨c10, l⟩; · simp at h
  rcases l with _ | ⟨c11, l⟩; · simp at h
  rcases l with _ | ⟨c12, l⟩; · simp at h
  rcases l with _ | ⟨c13, l⟩; · simp at h
  rcases l with _ | ⟨c14, l⟩; · simp at h
  rcases l with _ | ⟨c15, l⟩; · simp at h
  rcases l with _ | ⟨c16, l⟩; · simp at h
  rcases l with _ | ⟨c17, l⟩; · simp at h
  rcases l with _ | ⟨c18, l⟩; · simp at h
  rcases l with _ | ⟨c19, l⟩; · simp at h
  rcases l with _ | ⟨c20, l⟩; · simp at h
  rcases l with _ | ⟨c21, l⟩; · simp at h
  rcases l with _ | ⟨c22, l⟩; · simp at h
  rcases l with _ | ⟨c23, l⟩; · simp at h
  rcases l with _ | ⟨c24, l⟩; · simp at h
  rcases l with _ | ⟨c25, l⟩; · simp at h
  rcases l with _ | ⟨c26, l⟩; · simp at h
  rcases l with _ | ⟨c27, l⟩; · simp at h
  rcases l with _ | ⟨c28, l⟩; · simp at h
  rcases l with _ | ⟨c29, l⟩; · simp at h
  rcases l with _ | ⟨c30, l⟩; · simp at h
  rcases l with _ | ⟨c31, l⟩; · simp at h
  rcases l with _ | ⟨c32, l⟩; · simp at h
  rcases l with _ | ⟨c33, l⟩; · simp at h
  rcases l with _ | ⟨c34, l⟩; · simp at h
  rcases l with _ | ⟨c35, l⟩; · simp at h
  rcases l with _ | ⟨c36, l⟩
  · kernel_rfl
  · simp at h
theorem run_oneP (p : Ptr) (h : Ok p) (W : World) : (Instr.buildSlice 27 1 #[(0, .agg (encP p))]).run Try.prog W = .ok (.slice (some ⟨W.heap.size, 0, none⟩) 1 1) (W.alloc (.cells (encP p) 33)) := run_one36 _ (encP_size h.len) W

section
variable {ops : Array Oper} {o : Oper} {rest : List Oper} {a : Act} {Q : Exit → Act → World → Prop} {K : Act → World → Prop}
/-- The box of append's one argument, of a region that draws its order -/
theorem wp_one_P {w : World} (x : Operand) (ho : o.op = .buildSlice 27 1 #[(0, x)]) (p : Ptr) (hk : Ok p) (hx : a.eval x = .agg (encP p))
    (h : K (a.put o.dst (.slice (some ⟨w.heap.size, 0, none⟩) 1 1)) (w.alloc (.cells (encP p) 33))) : o.wp Try.prog a w K Q := by
  unfold Oper.wp execOp
  have hm : (#[(0, x)] : Array (Nat × Operand)).map (fun (i, x) => (i, a.eval x)) = #[(0, .agg (encP p))] := by simp [hx]
  simp only [ho]
  rw [hm]
  simp only [Sem.run_bind, Sem.run_pure, Result.andThen_ok, run_oneP p hk w]
  exact h
/-- append(out, p), of a region that draws its order -/
theorem wp_append_P {w0 W : World} (base : Nat) (s x : Operand) (ho : o.op = .call { callee := .builtin .append, args := #[s, x], argTypes := #[27, 27] })
    (v : Value) (xs : List Ptr) (p : Ptr) (hk : Ok p) (hs : a.eval s = v) (hx : a.eval x = .slice (some ⟨W.heap.size, 0, none⟩) 1 1)
    (HO : Kd.R kP 33 W base (fun _ => True) v xs) (HB : Below base w0 W) (hbase : base ≤ W.heap.size) (hl : xs.length ≤ 100000)
    (h : ∀ v1 w1, Kd.R kP 33 w1 base (fun _ => True) v1 (xs ++ [p]) → Below base w0 w1 → W.grownBy w1 v.ownBlock → K (a.put o.dst v1) w1) :
    o.wp Try.prog a (W.alloc (.cells (encP p) 33)) K Q := by
  have hop : ({ o with guard := none } : Oper).op = .call { callee := .builtin .append, args := #[s, x], argTypes := #[27, 27] } := ho
  have := Kd.R_append_step (P := Try.prog) (ops := #[]) (o := { o with guard := none }) (a := a) (Q := Q) (Kc := K) kP (w0 := w0) base rfl s x 27 33 (.agg Z33) 64 hop Try.underlying27 info33 rfl (by decide) (by decide) v xs p (encP p).toList (fun _ => True) (fun _ => False) hs hx ⟨rfl, hk⟩ (fun _ h => h.elim) (fun _ _ => trivial) HO HB hbase (by omega)
    (fun v1 w1 h1 h2 h3 _ => h v1 w1 h1 h2 h3)
  have hw : Region.wanted { o with guard := none } (yielded #[] a.tmps) = true := rfl
  rw [if_pos hw] at this
  simp only [Array.toArray_toList] at this
  exact this
end
section
variable {ops : Array Oper} {o : Oper} {rest : List Oper} {a : Act} {Q : Exit → Act → World → Prop} {K : Act → World → Prop}
end
end Go.Proofs.Ytchhdafgmifhdaa.KpA
namespace Go.Proofs.Ytchhdafgmifhdaa.PoolC
open Go.RowKit Go.Proofs.Ytchhdafgmifhdaa.B8 Go.Proofs.Ytchhdafgmifhdaa.Agg Go.Proofs.Ytchhdafgmifhdaa.CodL Go.Proofs.Ytchhdafgmifhdaa.CodA Go.Proofs.Ytchhdafgmifhdaa.CodB Go.Proofs.Ytchhdafgmifhdaa.CrcL Go.Proofs.Ytchhdafgmifhdaa.CrcA Go.Proofs.Ytchhdafgmifhdaa.CrcB Go.Proofs.Ytchhdafgmifhdaa.PCowLays Go.Proofs.YtchhdafgmifhdaaW.PrintWords Go.Proofs.YtchhdafgmifhdaaW.PrintLast Go.Proofs.YtchhdafgmifhdaaW.PrintMore Go.Proofs.Ytchhdafgmifhdaa.CatL Go.Proofs.Ytchhdafgmifhdaa.PtrA Go.Proofs.Ytchhdafgmifhdaa.PtrB Go.Proofs.Ytchhdafgmifhdaa.PtrE Go.Proofs.Ytchhdafgmifhdaa.OfA Go.Proofs.Ytchhdafgmifhdaa.ExtL Go.Proofs.Ytchhdafgmifhdaa.ExtA Go.Proofs.Ytchhdafgmifhdaa.DskA Go.Proofs.Ytchhdafgmifhdaa.DskB Go.Proofs.Ytchhdafgmifhdaa.DskC Go.Proofs.Ytchhdafgmifhdaa.AlcA Go.Proofs.Ytchhdafgmifhdaa.AlcB Go.Proofs.Ytchhdafgmifhdaa.AlcC Go.Proofs.Ytchhdafgmifhdaa.AlcD Go.Proofs.Ytchhdafgmifhdaa.AlcE Go.Proofs.Ytchhdafgmifhdaa.AlcF Go.Proofs.Ytchhdafgmifhdaa.SpnA Go.Proofs.Ytchhdafgmifhdaa.BlkA Go.Proofs.Ytchhdafgmifhdaa.BlkB Go.Proofs.Ytchhdafgmifhdaa.PoolA Go.Proofs.Ytchhdafgmifhdaa.PoolB Go.Proofs.Ytchhdafgmifhdaa.ShaK Go.Proofs.Ytchhdafgmifhdaa.ExtF Go.Proofs.Ytchhdafgmifhdaa.ExtG Go.Proofs.Ytchhdafgmifhdaa.ExtE Go.Proofs.Ytchhdafgmifhdaa.ExtD Go.Proofs.Ytchhdafgmifhdaa.AlcG Go.Proofs.Ytchhdafgmifhdaa.AlcH Go.Proofs.Ytchhdafgmifhdaa.KpA
set_option linter.unusedVariables false
set_option linter.unusedSimpArgs false
set_option maxRecDepth 100000 in
set_option maxHeartbeats 4000000 in
theorem kill8_arg (p d m a mw N : Nat) (fr tu rs : Int) (l lw : List Sp) (ep : Int) (kv : Value) (cs : Array Value) (q : Ptr) (hp : PC cs q) (hq : ¬ Right q) (w : World) (h : PW w p d m a mw N fr tu rs l lw ep kv) (hN : 0 < N) (htu : fr < tu) (hok : OkW lw) (htt : 0 ≤ total (joinS lw) ∧ total (joinS lw) ≤ 8192) :
    Calls Try.prog 8 #[.pointer (some ⟨p, 0, none⟩), .agg cs] w (fun e w' => e = .returned (.int .i64 2) ∧ Below w.heap.size w w') := by
  obtain ⟨P, hP⟩ : ∃ P : Ending → World → Prop, P = fun e w' => e = .returned (.int .i64 2) ∧ Below w.heap.size w w' := ⟨_, rfl⟩
  rw [← hP]
  have HP := Aside0.mk hP
  clear hP
  have b1 := below_alloc (Below.refl w.heap.size w) (.cells cs 33)
  have HB := Aside0.mk b1
  have H := Aside0.mk (h.below b1)
  have HG := Aside0.mk (blk_new w (.cells cs 33))
  have HPC := Aside0.mk (And.intro hp (rightB_no hq))
  have HN := Aside0.mk (And.intro hN (And.intro htu (And.intro hok htt)))
  clear h b1 hp hq hN htu hok htt
  go_enter Try.func8, Try.ntmps8
  go_wp2_with fail
  generalize hW1 : w.alloc (.cells cs 33) = W1 at *
  clear hW1
  refine (ready12w p d m a mw N fr tu rs l lw ep kv W1 H.out HN.out.1 HN.out.2.1 HN.out.2.2.1 HN.out.2.2.2).mono ?_
  rintro e W2 ⟨rfl, hb⟩
  have HB2 := Aside0.mk (HB.out.trans (hb.mono HB.out.size))
  have HG2 := Aside0.mk (blk_below HG.out hb)
  clear hb
  go_wp2_with (refine wpList_load_row rfl 33 (.tmp 3) rfl w.heap.size rfl 33 cs (0, 0) _ HG2.out underl56 rfl (by rw [i33, HPC.out.1.size]) ?_)
  refine (right_calls cs q HPC.out.1 W2).mono ?_
  rintro e W3 ⟨he, hb⟩
  rw [HPC.out.2] at he
  subst he
  have HB3 := Aside0.mk (HB2.out.trans (hb.mono HB2.out.size))
  clear hb
  go_wp2
  rw [HP.out]
  exact ⟨rfl, HB3.out⟩
set_option maxRecDepth 100000 in
set_option maxHeartbeats 4000000 in
theorem kill8_give (p d m a mw N : Nat) (fr tu rs : Int) (l : List Sp) (ep : Int) (kv : Value) (cs : Array Value) (q : Ptr) (x s : Int) (hp : PC cs q) (hq : Right q) (hx : x = q.at_) (hs : s = sect q.len) (hbirth : q.birth = ep) (w : World) (h : PO w p d m a mw N fr tu rs l ep kv) (hN : 0 < N) (htu : fr < tu)
    (hfx : fr ≤ x) (hxt : x + s ≤ tu) (hm : meetsS l (x, x + s) = false) (hl2 : VS (-1) (addS l (x, x + s)) ∧ (addS l (x, x + s)).length ≤ 10000 ∧ 0 ≤ total (addS l (x, x + s)) ∧ total (addS l (x, x + s)) ≤ 8192) :
    Calls Try.prog 8 #[.pointer (some ⟨p, 0, none⟩), .agg cs] w (fun e w' => e = .returned (.int .i64 0) ∧ KB w w' (fun k => k = a) ∧ PO w' p d m a mw N fr tu rs (addS l (x, x + s)) ep kv) := by
  obtain ⟨P, hP⟩ : ∃ P : Ending → World → Prop, P = fun e w' => e = .returned (.int .i64 0) ∧ KB w w' (fun k => k = a) ∧ PO w' p d m a mw N fr tu rs (addS l (x, x + s)) ep kv := ⟨_, rfl⟩
  rw [← hP]
  have HP := Aside0.mk hP
  clear hP
  have hsb := sect_bound q.len
  have hs0 : 0 < s := by rw [hs]; exact hq.2.2.1
  have hbd := hq.bounds
  have b1 := below_alloc (Below.refl w.heap.size w) (.cells cs 33)
  have HB := Aside0.mk b1
  have H := Aside0.mk (h.below b1)
  have HG := Aside0.mk (blk_new w (.cells cs 33))
  have HPC := Aside0.mk (And.intro hp (rightB_yes hq))
  have HN := Aside0.mk (And.intro hN (And.intro htu (And.intro hfx (And.intro hxt (And.intro hm (And.intro hl2 hs0))))))
  have HXS := Aside0.mk (And.intro hx (And.intro hs (And.intro hbirth (show 0 ≤ q.at_ ∧ q.at_ ≤ 1000000 ∧ 0 ≤ sect q.len ∧ sect q.len ≤ 1000 by omega))))
  clear h b1 hp hq hN htu hm hl2 hs hx hbirth hs0 hsb hbd hfx hxt
  go_enter Try.func8, Try.ntmps8
  go_wp2_with fail
  generalize hW1 : w.alloc (.cells cs 33) = W1 at *
  clear hW1
  refine (ready12 p d m a mw N fr tu rs l ep kv W1 H.out HN.out.1 HN.out.2.1).mono ?_
  rintro e W2 ⟨rfl, hb⟩
  have HB2 := Aside0.mk (HB.out.trans (hb.mono HB.out.size))
  have H2 := Aside0.mk (H.out.below hb)
  have HG2 := Aside0.mk (blk_below HG.out hb)
  clear hb HB H HG
  go_wp2_with (refine wpList_load_row rfl 33 (.tmp 3) rfl w.heap.size rfl 33 cs (0, 0) _ HG2.out underl56 rfl (by rw [i33, HPC.out.1.size]) ?_)
  refine (right_calls cs q HPC.out.1 W2).mono ?_
  rintro e W3 ⟨he, hb⟩
  rw [HPC.out.2] at he
  subst he
  have HB3 := Aside0.mk (HB2.out.trans (hb.mono HB2.out.size))
  have H3 := Aside0.mk (H2.out.below hb)
  have HG3 := Aside0.mk (blk_below HG2.out hb)
  clear hb HB2 H2 HG2
  go_wp2_with fail
  have hp3 : p < W3.heap.size := H3.out.lt
  have hg3 : w.heap.size < W3.heap.size := blk_lt HG3.out
  have P1 := Aside0.mk (show W3.cell? ⟨p, 1, none⟩ = some (.pointer (some ⟨a, 0, none⟩)) by rw [cell_of_row _ _ 1 _ 29 (0, 0) H3.out.blk]; rfl)
  have P2 := Aside0.mk (show W3.cell? ⟨p, 2, none⟩ = some (.int .i64 ep) by rw [cell_of_row _ _ 2 _ 29 (0, 0) H3.out.blk]; rfl)
  have X1 := Aside0.mk (show W3.cell? ⟨w.heap.size, 1, none⟩ = some (.int .i64 ep) by rw [cell_of_row _ _ 1 cs 33 (0, 0) HG3.out, ← HXS.out.2.2.1]; exact HPC.out.1.c1)
  refine wp_region_held_drew (S := fun w' => Below W3.heap.size W3 w') (by kernel_rfl) (below_drew (Below.refl _ _)) (fun hW => ?_)
  have WDB := Aside0.mk (show Below W3.heap.size W3 W3.drew from below_drew (Below.refl _ _))
  generalize hWd : W3.drew = W4 at *
  clear hWd
  refine wpAnyH_take (i := 0) (oi := ⟨some 17, _, _, _, _, _⟩) (v := .pointer (some ⟨w.heap.size, 1, none⟩)) rfl (by kernel_rfl) (by kernel_rfl) (by kernel_rfl) (fun _ _ _ h => h) (.inl ⟨by rfl, fun W1 h1 => by go_simp⟩) hW ?_
  try simp only [Act.put, List.setIfInBounds_toArray, List.set_cons_zero, List.set_cons_succ]
  refine wpAnyH_take (i := 1) (oi := ⟨some 18, _, _, _, _, _⟩) (v := .int .i64 ep) rfl (by kernel_rfl) (by kernel_rfl) (by kernel_rfl) (fun _ _ _ h => h) (.inl ⟨by rfl, fun W1 h1 => by have h2 := (Below.cell (p := ⟨w.heap.size, 1, none⟩) h1 hg3).trans X1.out; clear h1; go_simp⟩) hW ?_
  try simp only [Act.put, List.setIfInBounds_toArray, List.set_cons_zero, List.set_cons_succ]
  refine wpAnyH_take (i := 2) (oi := ⟨some 19, _, _, _, _, _⟩) (v := .pointer (some ⟨p, 0, none⟩)) rfl (by kernel_rfl) (by kernel_rfl) (by kernel_rfl) (fun _ _ _ h => h) (.inl ⟨by rfl, fun W1 h1 => by go_simp⟩) hW ?_
  try simp only [Act.put, List.setIfInBounds_toArray, List.set_cons_zero, List.set_cons_succ]
  refine wpAnyH_take (i := 3) (oi := ⟨some 20, _, _, _, _, _⟩) (v := .pointer (some ⟨p, 0, none⟩)) rfl (by kernel_rfl) (by kernel_rfl) (by kernel_rfl) (fun _ _ _ h => h) (.inl ⟨by rfl, fun W1 h1 => by go_simp⟩) hW ?_
  try simp only [Act.put, List.setIfInBounds_toArray, List.set_cons_zero, List.set_cons_succ]
  refine wpAnyH_take (i := 4) (oi := ⟨some 21, _, _, _, _, _⟩) (v := .pointer (some ⟨p, 2, none⟩)) rfl (by kernel_rfl) (by kernel_rfl) (by kernel_rfl) (fun _ _ _ h => h) (.inl ⟨by rfl, fun W1 h1 => by go_simp⟩) hW ?_
  try simp only [Act.put, List.setIfInBounds_toArray, List.set_cons_zero, List.set_cons_succ]
  refine wpAnyH_take (i := 5) (oi := ⟨some 22, _, _, _, _, _⟩) (v := .int .i64 ep) rfl (by kernel_rfl) (by kernel_rfl) (by kernel_rfl) (fun _ _ _ h => h) (.inl ⟨by rfl, fun W1 h1 => by have h2 := (Below.cell (p := ⟨p, 2, none⟩) h1 hp3).trans P2.out; clear h1; go_simp⟩) hW ?_
  try simp only [Act.put, List.setIfInBounds_toArray, List.set_cons_zero, List.set_cons_succ]
  refine wpAnyH_take (i := 6) (oi := ⟨some 23, _, _, _, _, _⟩) (v := .bool true) rfl (by kernel_rfl) (by kernel_rfl) (by kernel_rfl) (fun _ _ _ h => h) (.inl ⟨by rfl, fun W1 h1 => by go_simp⟩) hW ?_
  try simp only [Act.put, List.setIfInBounds_toArray, List.set_cons_zero, List.set_cons_succ]
  refine wpAnyH_take (i := 7) (oi := ⟨some 16, _, _, _, _, _⟩) (v := .bool true) rfl (by kernel_rfl) (by kernel_rfl) (by kernel_rfl) (fun _ _ _ h => h) (.inl ⟨by rfl, fun W1 h1 => by go_simp⟩) hW ?_
  try simp only [Act.put, List.setIfInBounds_toArray, List.set_cons_zero, List.set_cons_succ]
  refine wpAnyH_done (by kernel_rfl) ?_ _
  have HB4 := Aside0.mk (HB3.out.trans (hW.mono HB3.out.size))
  have H4 := Aside0.mk (H3.out.below hW)
  have HG4 := Aside0.mk (blk_below HG3.out hW)
  have Q1 := Aside0.mk ((Below.cell (p := ⟨p, 1, none⟩) hW hp3).trans P1.out)
  clear hW P1 P2 X1 HB3 H3 HG3 hp3 hg3 WDB
  go_wp2_with fail
  have hp4 : p < W4.heap.size := H4.out.lt
  refine wp_region_held_drew (S := fun w' => KB W4 w' (fun k => k = a)) (by kernel_rfl) (KB.of_below (below_drew (Below.refl _ _)) _) (fun hW => ?_)
  have WDB := Aside0.mk (show Below W4.heap.size W4 W4.drew from below_drew (Below.refl _ _))
  generalize hWd : W4.drew = Wd at *
  clear hWd
  refine wpAnyH_take (i := 0) (oi := ⟨some 24, _, _, _, _, _⟩) (v := .pointer (some ⟨p, 0, none⟩)) rfl (by kernel_rfl) (by kernel_rfl) (by kernel_rfl) (fun _ _ _ h => h) (.inl ⟨by rfl, fun W1 h1 => by go_simp⟩) hW ?_
  try simp only [Act.put, List.setIfInBounds_toArray, List.set_cons_zero, List.set_cons_succ]
  refine wpAnyH_take (i := 1) (oi := ⟨some 25, _, _, _, _, _⟩) (v := .pointer (some ⟨p, 0, none⟩)) rfl (by kernel_rfl) (by kernel_rfl) (by kernel_rfl) (fun _ _ _ h => h) (.inl ⟨by rfl, fun W1 h1 => by go_simp⟩) hW ?_
  try simp only [Act.put, List.setIfInBounds_toArray, List.set_cons_zero, List.set_cons_succ]
  refine wpAnyH_take (i := 2) (oi := ⟨some 26, _, _, _, _, _⟩) (v := .pointer (some ⟨p, 1, none⟩)) rfl (by kernel_rfl) (by kernel_rfl) (by kernel_rfl) (fun _ _ _ h => h) (.inl ⟨by rfl, fun W1 h1 => by go_simp⟩) hW ?_
  try simp only [Act.put, List.setIfInBounds_toArray, List.set_cons_zero, List.set_cons_succ]
  refine wpAnyH_take (i := 3) (oi := ⟨some 27, _, _, _, _, _⟩) (v := .pointer (some ⟨a, 0, none⟩)) rfl (by kernel_rfl) (by kernel_rfl) (by kernel_rfl) (fun _ _ _ h => h) (.inl ⟨by rfl, fun W1 h1 => by have h2 := cell_kept Q1.out h1.kept (PO_pa H4.out); clear h1; go_simp⟩) hW ?_
  try simp only [Act.put, List.setIfInBounds_toArray, List.set_cons_zero, List.set_cons_succ]
  refine wpAnyH_ready (rs := [4]) (by kernel_rfl) (by simp) (AllReadyH.cons rfl (fun K1 hK1 => ?_) AllReadyH.nil)
  refine wp_load_row (o := ⟨some 28, _, _, _, _, _⟩) 33 (.tmp 3) rfl w.heap.size rfl 33 cs (0, 0) _ (blk_below HG4.out WDB.out) underl56 rfl (by rw [i33, HPC.out.1.size]) ?_
  refine hK1.out _ _ (hW) (fun hW => ?_)
  try simp only [Act.put, List.setIfInBounds_toArray, List.set_cons_zero, List.set_cons_succ]
  refine wpAnyH_ready (rs := [5]) (by kernel_rfl) (by simp) (AllReadyH.cons rfl (fun K2 hK2 => ?_) AllReadyH.nil)
  go_simp
  refine (span20 cs q HPC.out.1 HXS.out.2.2.2.1 HXS.out.2.2.2.2.1 HXS.out.2.2.2.2.2.1 HXS.out.2.2.2.2.2.2 Wd).mono ?_
  rintro e W5 ⟨he, hb5⟩
  rw [← HXS.out.1, ← HXS.out.2.1] at he
  subst he
  have WDB5 := Aside0.mk (WDB.out.trans (hb5.mono WDB.out.size))
  refine hK2.out _ _ (hW.below hb5) (fun hW => ?_)
  try simp only [Act.put, List.setIfInBounds_toArray, List.set_cons_zero, List.set_cons_succ]
  clear hb5
  refine wpAnyH_ready (rs := [6]) (by kernel_rfl) (by simp) (AllReadyH.cons rfl (fun K3 hK3 => ?_) AllReadyH.nil)
  go_simp
  refine (give16 a mw fr tu rs x (x + s) l W5 (H4.out.alc.below WDB5.out) HN.out.2.2.1 (by have := HN.out; omega) HN.out.2.2.2.1 HN.out.2.2.2.2.1 HN.out.2.2.2.2.2.1.1 HN.out.2.2.2.2.2.1.2.1 HN.out.2.2.2.2.2.1.2.2).mono ?_
  rintro e W6 ⟨rfl, hkb, hab⟩
  refine hK3.out _ _ (hW.then_ hkb (fun k hk => .inl hk)) (fun hW => ?_)
  try simp only [Act.put, List.setIfInBounds_toArray, List.set_cons_zero, List.set_cons_succ]
  have HAB := Aside0.mk hab
  clear hkb hab
  refine wpAnyH_take (i := 7) (oi := ⟨some 4, _, _, _, _, _⟩) (v := .int .i64 0) rfl (by kernel_rfl) (by kernel_rfl) (by kernel_rfl) (fun _ _ _ h => h) (.inl ⟨by rfl, fun W1 h1 => by go_simp⟩) hW ?_
  try simp only [Act.put, List.setIfInBounds_toArray, List.set_cons_zero, List.set_cons_succ]
  refine wpAnyH_done (by kernel_rfl) ?_ _
  clear hK1 hK2 hK3 K1 K2 K3
  have HFIN := Aside0.mk (And.intro ((KB.of_below HB4.out (fun k => k = a)).then_ hW (fun k hk => .inl hk)) (PO_alloc H4.out hW.kept HAB.out))
  clear hW
  go_wp2
  rw [HP.out]
  exact ⟨rfl, HFIN.out⟩
set_option maxRecDepth 100000 in
set_option maxHeartbeats 4000000 in
theorem kill8_none (p d m a mw N : Nat) (fr tu rs : Int) (l : List Sp) (ep : Int) (kv : Value) (cs : Array Value) (q : Ptr) (x s : Int) (hp : PC cs q) (hq : Right q) (hx : x = q.at_) (hs : s = sect q.len) (hbirth : q.birth = ep) (w : World) (h : PO w p d m a mw N fr tu rs l ep kv) (hN : 0 < N) (htu : fr < tu)
    (hfx : fr ≤ x) (hxt : x + s ≤ tu) (hm : meetsS l (x, x + s) = true) :
    Calls Try.prog 8 #[.pointer (some ⟨p, 0, none⟩), .agg cs] w (fun e w' => e = .returned (.int .i64 13) ∧ Below w.heap.size w w') := by
  obtain ⟨P, hP⟩ : ∃ P : Ending → World → Prop, P = fun e w' => e = .returned (.int .i64 13) ∧ Below w.heap.size w w' := ⟨_, rfl⟩
  rw [← hP]
  have HP := Aside0.mk hP
  clear hP
  have hsb := sect_bound q.len
  have hs0 : 0 < s := by rw [hs]; exact hq.2.2.1
  have hbd := hq.bounds
  have b1 := below_alloc (Below.refl w.heap.size w) (.cells cs 33)
  have HB := Aside0.mk b1
  have H := Aside0.mk (h.below b1)
  have HG := Aside0.mk (blk_new w (.cells cs 33))
  have HPC := Aside0.mk (And.intro hp (rightB_yes hq))
  have HN := Aside0.mk (And.intro hN (And.intro htu (And.intro hfx (And.intro hxt (And.intro hm hs0)))))
  have HXS := Aside0.mk (And.intro hx (And.intro hs (And.intro hbirth (show 0 ≤ q.at_ ∧ q.at_ ≤ 1000000 ∧ 0 ≤ sect q.len ∧ sect q.len ≤ 1000 by omega))))
  clear h b1 hp hq hN htu hm hs hx hbirth hs0 hsb hbd hfx hxt
  go_enter Try.func8, Try.ntmps8
  go_wp2_with fail
  generalize hW1 : w.alloc (.cells cs 33) = W1 at *
  clear hW1
  refine (ready12 p d m a mw N fr tu rs l ep kv W1 H.out HN.out.1 HN.out.2.1).mono ?_
  rintro e W2 ⟨rfl, hb⟩
  have HB2 := Aside0.mk (HB.out.trans (hb.mono HB.out.size))
  have H2 := Aside0.mk (H.out.below hb)
  have HG2 := Aside0.mk (blk_below HG.out hb)
  clear hb HB H HG
  go_wp2_with (refine wpList_load_row rfl 33 (.tmp 3) rfl w.heap.size rfl 33 cs (0, 0) _ HG2.out underl56 rfl (by rw [i33, HPC.out.1.size]) ?_)
  refine (right_calls cs q HPC.out.1 W2).mono ?_
  rintro e W3 ⟨he, hb⟩
  rw [HPC.out.2] at he
  subst he
  have HB3 := Aside0.mk (HB2.out.trans (hb.mono HB2.out.size))
  have H3 := Aside0.mk (H2.out.below hb)
  have HG3 := Aside0.mk (blk_below HG2.out hb)
  clear hb HB2 H2 HG2
  go_wp2_with fail
  have hp3 : p < W3.heap.size := H3.out.lt
  have hg3 : w.heap.size < W3.heap.size := blk_lt HG3.out
  have P1 := Aside0.mk (show W3.cell? ⟨p, 1, none⟩ = some (.pointer (some ⟨a, 0, none⟩)) by rw [cell_of_row _ _ 1 _ 29 (0, 0) H3.out.blk]; rfl)
  have P2 := Aside0.mk (show W3.cell? ⟨p, 2, none⟩ = some (.int .i64 ep) by rw [cell_of_row _ _ 2 _ 29 (0, 0) H3.out.blk]; rfl)
  have X1 := Aside0.mk (show W3.cell? ⟨w.heap.size, 1, none⟩ = some (.int .i64 ep) by rw [cell_of_row _ _ 1 cs 33 (0, 0) HG3.out, ← HXS.out.2.2.1]; exact HPC.out.1.c1)
  refine wp_region_held_drew (S := fun w' => Below W3.heap.size W3 w') (by kernel_rfl) (below_drew (Below.refl _ _)) (fun hW => ?_)
  have WDB := Aside0.mk (show Below W3.heap.size W3 W3.drew from below_drew (Below.refl _ _))
  generalize hWd : W3.drew = W4 at *
  clear hWd
  refine wpAnyH_take (i := 0) (oi := ⟨some 17, _, _, _, _, _⟩) (v := .pointer (some ⟨w.heap.size, 1, none⟩)) rfl (by kernel_rfl) (by kernel_rfl) (by kernel_rfl) (fun _ _ _ h => h) (.inl ⟨by rfl, fun W1 h1 => by go_simp⟩) hW ?_
  try simp only [Act.put, List.setIfInBounds_toArray, List.set_cons_zero, List.set_cons_succ]
  refine wpAnyH_take (i := 1) (oi := ⟨some 18, _, _, _, _, _⟩) (v := .int .i64 ep) rfl (by kernel_rfl) (by kernel_rfl) (by kernel_rfl) (fun _ _ _ h => h) (.inl ⟨by rfl, fun W1 h1 => by have h2 := (Below.cell (p := ⟨w.heap.size, 1, none⟩) h1 hg3).trans X1.out; clear h1; go_simp⟩) hW ?_
  try simp only [Act.put, List.setIfInBounds_toArray, List.set_cons_zero, List.set_cons_succ]
  refine wpAnyH_take (i := 2) (oi := ⟨some 19, _, _, _, _, _⟩) (v := .pointer (some ⟨p, 0, none⟩)) rfl (by kernel_rfl) (by kernel_rfl) (by kernel_rfl) (fun _ _ _ h => h) (.inl ⟨by rfl, fun W1 h1 => by go_simp⟩) hW ?_
  try simp only [Act.put, List.setIfInBounds_toArray, List.set_cons_zero, List.set_cons_succ]
  refine wpAnyH_take (i := 3) (oi := ⟨some 20, _, _, _, _, _⟩) (v := .pointer (some ⟨p, 0, none⟩)) rfl (by kernel_rfl) (by kernel_rfl) (by kernel_rfl) (fun _ _ _ h => h) (.inl ⟨by rfl, fun W1 h1 => by go_simp⟩) hW ?_
  try simp only [Act.put, List.setIfInBounds_toArray, List.set_cons_zero, List.set_cons_succ]
  refine wpAnyH_take (i := 4) (oi := ⟨some 21, _, _, _, _, _⟩) (v := .pointer (some ⟨p, 2, none⟩)) rfl (by kernel_rfl) (by kernel_rfl) (by kernel_rfl) (fun _ _ _ h => h) (.inl ⟨by rfl, fun W1 h1 => by go_simp⟩) hW ?_
  try simp only [Act.put, List.setIfInBounds_toArray, List.set_cons_zero, List.set_cons_succ]
  refine wpAnyH_take (i := 5) (oi := ⟨some 22, _, _, _, _, _⟩) (v := .int .i64 ep) rfl (by kernel_rfl) (by kernel_rfl) (by kernel_rfl) (fun _ _ _ h => h) (.inl ⟨by rfl, fun W1 h1 => by have h2 := (Below.cell (p := ⟨p, 2, none⟩) h1 hp3).trans P2.out; clear h1; go_simp⟩) hW ?_
  try simp only [Act.put, List.setIfInBounds_toArray, List.set_cons_zero, List.set_cons_succ]
  refine wpAnyH_take (i := 6) (oi := ⟨some 23, _, _, _, _, _⟩) (v := .bool true) rfl (by kernel_rfl) (by kernel_rfl) (by kernel_rfl) (fun _ _ _ h => h) (.inl ⟨by rfl, fun W1 h1 => by go_simp⟩) hW ?_
  try simp only [Act.put, List.setIfInBounds_toArray, List.set_cons_zero, List.set_cons_succ]
  refine wpAnyH_take (i := 7) (oi := ⟨some 16, _, _, _, _, _⟩) (v := .bool true) rfl (by kernel_rfl) (by kernel_rfl) (by kernel_rfl) (fun _ _ _ h => h) (.inl ⟨by rfl, fun W1 h1 => by go_simp⟩) hW ?_
  try simp only [Act.put, List.setIfInBounds_toArray, List.set_cons_zero, List.set_cons_succ]
  refine wpAnyH_done (by kernel_rfl) ?_ _
  have HB4 := Aside0.mk (HB3.out.trans (hW.mono HB3.out.size))
  have H4 := Aside0.mk (H3.out.below hW)
  have HG4 := Aside0.mk (blk_below HG3.out hW)
  have Q1 := Aside0.mk ((Below.cell (p := ⟨p, 1, none⟩) hW hp3).trans P1.out)
  clear hW P1 P2 X1 HB3 H3 HG3 hp3 hg3 WDB
  go_wp2_with fail
  have hp4 : p < W4.heap.size := H4.out.lt
  refine wp_region_held_drew (S := fun w' => KB W4 w' (fun k => k = a)) (by kernel_rfl) (KB.of_below (below_drew (Below.refl _ _)) _) (fun hW => ?_)
  have WDB := Aside0.mk (show Below W4.heap.size W4 W4.drew from below_drew (Below.refl _ _))
  generalize hWd : W4.drew = Wd at *
  clear hWd
  refine wpAnyH_take (i := 0) (oi := ⟨some 24, _, _, _, _, _⟩) (v := .pointer (some ⟨p, 0, none⟩)) rfl (by kernel_rfl) (by kernel_rfl) (by kernel_rfl) (fun _ _ _ h => h) (.inl ⟨by rfl, fun W1 h1 => by go_simp⟩) hW ?_
  try simp only [Act.put, List.setIfInBounds_toArray, List.set_cons_zero, List.set_cons_succ]
  refine wpAnyH_take (i := 1) (oi := ⟨some 25, _, _, _, _, _⟩) (v := .pointer (some ⟨p, 0, none⟩)) rfl (by kernel_rfl) (by kernel_rfl) (by kernel_rfl) (fun _ _ _ h => h) (.inl ⟨by rfl, fun W1 h1 => by go_simp⟩) hW ?_
  try simp only [Act.put, List.setIfInBounds_toArray, List.set_cons_zero, List.set_cons_succ]
  refine wpAnyH_take (i := 2) (oi := ⟨some 26, _, _, _, _, _⟩) (v := .pointer (some ⟨p, 1, none⟩)) rfl (by kernel_rfl) (by kernel_rfl) (by kernel_rfl) (fun _ _ _ h => h) (.inl ⟨by rfl, fun W1 h1 => by go_simp⟩) hW ?_
  try simp only [Act.put, List.setIfInBounds_toArray, List.set_cons_zero, List.set_cons_succ]
  refine wpAnyH_take (i := 3) (oi := ⟨some 27, _, _, _, _, _⟩) (v := .pointer (some ⟨a, 0, none⟩)) rfl (by kernel_rfl) (by kernel_rfl) (by kernel_rfl) (fun _ _ _ h => h) (.inl ⟨by rfl, fun W1 h1 => by have h2 := cell_kept Q1.out h1.kept (PO_pa H4.out); clear h1; go_simp⟩) hW ?_
  try simp only [Act.put, List.setIfInBounds_toArray, List.set_cons_zero, List.set_cons_succ]
  refine wpAnyH_ready (rs := [4]) (by kernel_rfl) (by simp) (AllReadyH.cons rfl (fun K1 hK1 => ?_) AllReadyH.nil)
  refine wp_load_row (o := ⟨some 28, _, _, _, _, _⟩) 33 (.tmp 3) rfl w.heap.size rfl 33 cs (0, 0) _ (blk_below HG4.out WDB.out) underl56 rfl (by rw [i33, HPC.out.1.size]) ?_
  refine hK1.out _ _ (hW) (fun hW => ?_)
  try simp only [Act.put, List.setIfInBounds_toArray, List.set_cons_zero, List.set_cons_succ]
  refine wpAnyH_ready (rs := [5]) (by kernel_rfl) (by simp) (AllReadyH.cons rfl (fun K2 hK2 => ?_) AllReadyH.nil)
  go_simp
  refine (span20 cs q HPC.out.1 HXS.out.2.2.2.1 HXS.out.2.2.2.2.1 HXS.out.2.2.2.2.2.1 HXS.out.2.2.2.2.2.2 Wd).mono ?_
  rintro e W5 ⟨he, hb5⟩
  rw [← HXS.out.1, ← HXS.out.2.1] at he
  subst he
  have WDB5 := Aside0.mk (WDB.out.trans (hb5.mono WDB.out.size))
  refine hK2.out _ _ (hW.below hb5) (fun hW => ?_)
  try simp only [Act.put, List.setIfInBounds_toArray, List.set_cons_zero, List.set_cons_succ]
  clear hb5
  refine wpAnyH_ready (rs := [6]) (by kernel_rfl) (by simp) (AllReadyH.cons rfl (fun K3 hK3 => ?_) AllReadyH.nil)
  go_simp
  refine (give16_no a mw fr tu rs x (x + s) l W5 (H4.out.alc.below WDB5.out) HN.out.2.2.1 (by have := HN.out; omega) HN.out.2.2.2.1 HN.out.2.2.2.2.1).mono ?_
  rintro e W6 ⟨rfl, hb6⟩
  have HB6 := Aside0.mk (HB4.out.trans ((WDB5.out.trans (hb6.mono WDB5.out.size)).mono HB4.out.size))
  refine hK3.out _ _ (hW.below hb6) (fun hW => ?_)
  try simp only [Act.put, List.setIfInBounds_toArray, List.set_cons_zero, List.set_cons_succ]
  clear hb6
  refine wpAnyH_take (i := 7) (oi := ⟨some 4, _, _, _, _, _⟩) (v := .int .i64 13) rfl (by kernel_rfl) (by kernel_rfl) (by kernel_rfl) (fun _ _ _ h => h) (.inl ⟨by rfl, fun W1 h1 => by go_simp⟩) hW ?_
  try simp only [Act.put, List.setIfInBounds_toArray, List.set_cons_zero, List.set_cons_succ]
  refine wpAnyH_done (by kernel_rfl) ?_ _
  clear hK1 hK2 hK3 K1 K2 K3
  clear hW
  go_wp2
  rw [HP.out]
  exact ⟨rfl, HB6.out⟩
theorem yields_row {P : Program} {ops : Array Oper} {S : World → Prop} {op : Oper} {a : Act} (hw : Region.wanted op (yielded ops a.tmps) = true) (ty : TypeId) (x : Operand) (ho : op.op = .load ty x)
    (g : Nat) (hx : a.eval x = .pointer (some ⟨g, 0, none⟩)) (t : TypeId) (cs : Array Value) (fr : Nat × Nat) (d : TypeDesc) (hg : ∀ w, S w → w.heap[g]? = some (.cells cs t fr))
    (hu : P.underlying ty = some d) (hd : (match d with | .struct _ | .array _ _ => true | _ => false) = true) (hi : (P.info? ty).map (·.size) = some cs.size) : YieldsIf P ops S op (.agg cs) a :=
  .inl ⟨hw, fun w hS => by
    unfold execOp
    simp only [ho, hx, Instr.loadAt, Instr.sureAddr, Sem.run_bind, Sem.run_pure, Result.andThen_ok, run_loadVar_row w g t ty cs fr d (hg w hS) hu hd hi]⟩
theorem PO_kv {W : World} {p d m a mw N : Nat} {fr tu rs : Int} {l : List Sp} {ep : Int} {kv : Value} (h : PO W p d m a mw N fr tu rs l ep kv) (v : Value) : PO (W.setCell ⟨p, 4, none⟩ v) p d m a mw N fr tu rs l ep v := by
  have hk : Kept W (W.setCell ⟨p, 4, none⟩ v) (fun k => k = p) := ⟨by simp [World.setCell], fun i _ hn => Below.heap_setCell W ⟨p, 4, none⟩ v i hn⟩
  obtain ⟨es, cl, hm, _⟩ := h.map
  have hb := h.blk
  refine ⟨by rw [blk_set h.blk 4 v]; rfl, DB_kept h.disk hk (fun A c hd e => by subst e; rw [hd] at hb; simp at hb), MI_kept h.map hk (by rintro rfl; rw [hm] at hb; cases hb), ?_, h.ne⟩
  refine AB_kept h.alc hk (by rintro rfl; obtain ⟨A, n, c, was, ha, _⟩ := h.alc.blk; rw [ha] at hb; simp at hb) (by rintro rfl; obtain ⟨cl, hw⟩ := h.alc.wait; rw [hw] at hb; cases hb) (fun k cs e => ?_)
  subst e
  rw [hb]
  simp
theorem PO_ep {W : World} {p d m a mw N : Nat} {fr tu rs : Int} {l : List Sp} {ep : Int} {kv : Value} (h : PO W p d m a mw N fr tu rs l ep kv) (e2 : Int) : PO (W.setCell ⟨p, 2, none⟩ (.int .i64 e2)) p d m a mw N fr tu rs l e2 kv := by
  have hk : Kept W (W.setCell ⟨p, 2, none⟩ (.int .i64 e2)) (fun k => k = p) := ⟨by simp [World.setCell], fun i _ hn => Below.heap_setCell W ⟨p, 2, none⟩ _ i hn⟩
  obtain ⟨es, cl, hm, _⟩ := h.map
  have hb := h.blk
  refine ⟨by rw [blk_set h.blk 2 _]; rfl, DB_kept h.disk hk (fun A c hd e => by subst e; rw [hd] at hb; simp at hb), MI_kept h.map hk (by rintro rfl; rw [hm] at hb; cases hb), ?_, h.ne⟩
  refine AB_kept h.alc hk (by rintro rfl; obtain ⟨A, n, c, was, ha, _⟩ := h.alc.blk; rw [ha] at hb; simp at hb) (by rintro rfl; obtain ⟨cl, hw⟩ := h.alc.wait; rw [hw] at hb; cases hb) (fun k cs e => ?_)
  subst e
  rw [hb]
  simp
set_option maxRecDepth 100000 in
set_option maxHeartbeats 4000000 in
theorem kill8_later (p d m a mw N : Nat) (fr tu rs : Int) (l : List Sp) (ep : Int) (q : Ptr) (hq : Right q) (hok : Ok q) (hne : q.birth ≠ ep) (w : World) (h : PO w p d m a mw N fr tu rs l ep (.slice none 0 0)) (hN : 0 < N) (htu : fr < tu) :
    Calls Try.prog 8 #[.pointer (some ⟨p, 0, none⟩), .agg (encP q)] w (fun e w' => e = .returned (.int .i64 0) ∧ KB w w' (fun k => k = p) ∧ ∃ kv, PO w' p d m a mw N fr tu rs l ep kv ∧ Kd.R kP 33 w' w.heap.size (fun _ => True) kv [q]) := by
  obtain ⟨P, hP⟩ : ∃ P : Ending → World → Prop, P = fun e w' => e = .returned (.int .i64 0) ∧ KB w w' (fun k => k = p) ∧ ∃ kv, PO w' p d m a mw N fr tu rs l ep kv ∧ Kd.R kP 33 w' w.heap.size (fun _ => True) kv [q] := ⟨_, rfl⟩
  rw [← hP]
  have HP := Aside0.mk hP
  clear hP
  obtain ⟨cs, hcs⟩ : ∃ cs, cs = encP q := ⟨_, rfl⟩
  have hp : PC cs q := by rw [hcs]; exact pc _ hok.len
  rw [← hcs]
  obtain ⟨bq, hbq⟩ : ∃ b, b = q.birth := ⟨_, rfl⟩
  have hbe : (bq == ep) = false := by rw [beq_eq_false_iff_ne, hbq]; exact hne
  have b1 := below_alloc (Below.refl w.heap.size w) (.cells cs 33)
  have HB := Aside0.mk b1
  have H := Aside0.mk (h.below b1)
  have hpw := h.lt
  have HG := Aside0.mk (blk_new w (.cells cs 33))
  have HPC := Aside0.mk (And.intro hp (rightB_yes hq))
  have HN := Aside0.mk (And.intro hN (And.intro htu (And.intro hbq (And.intro hcs hok))))
  clear h b1 hp hq hN htu hbq hcs hok hne
  go_enter Try.func8, Try.ntmps8
  go_wp2_with fail
  generalize hW1 : w.alloc (.cells cs 33) = W1 at *
  clear hW1
  refine (ready12 p d m a mw N fr tu rs l ep _ W1 H.out HN.out.1 HN.out.2.1).mono ?_
  rintro e W2 ⟨rfl, hb⟩
  have HB2 := Aside0.mk (HB.out.trans (hb.mono HB.out.size))
  have H2 := Aside0.mk (H.out.below hb)
  have HG2 := Aside0.mk (blk_below HG.out hb)
  clear hb HB H HG
  go_wp2_with (refine wpList_load_row rfl 33 (.tmp 3) rfl w.heap.size rfl 33 cs (0, 0) _ HG2.out underl56 rfl (by rw [i33, HPC.out.1.size]) ?_)
  refine (right_calls cs q HPC.out.1 W2).mono ?_
  rintro e W3 ⟨he, hb⟩
  rw [HPC.out.2] at he
  subst he
  have HB3 := Aside0.mk (HB2.out.trans (hb.mono HB2.out.size))
  have H3 := Aside0.mk (H2.out.below hb)
  have HG3 := Aside0.mk (blk_below HG2.out hb)
  clear hb HB2 H2 HG2
  go_wp2_with fail
  have hp3 : p < W3.heap.size := H3.out.lt
  have hg3 : w.heap.size < W3.heap.size := blk_lt HG3.out
  have P2 := Aside0.mk (show W3.cell? ⟨p, 2, none⟩ = some (.int .i64 ep) by rw [cell_of_row _ _ 2 _ 29 (0, 0) H3.out.blk]; rfl)
  have X1 := Aside0.mk (show W3.cell? ⟨w.heap.size, 1, none⟩ = some (.int .i64 bq) by rw [cell_of_row _ _ 1 cs 33 (0, 0) HG3.out, HN.out.2.2.1]; exact HPC.out.1.c1)
  refine wp_region_held_drew (S := fun w' => Below W3.heap.size W3 w') (by kernel_rfl) (below_drew (Below.refl _ _)) (fun hW => ?_)
  have WDB := Aside0.mk (show Below W3.heap.size W3 W3.drew from below_drew (Below.refl _ _))
  generalize hWd : W3.drew = W4 at *
  clear hWd
  refine wpAnyH_take (i := 0) (oi := ⟨some 17, _, _, _, _, _⟩) (v := .pointer (some ⟨w.heap.size, 1, none⟩)) rfl (by kernel_rfl) (by kernel_rfl) (by kernel_rfl) (fun _ _ _ h => h) (.inl ⟨by rfl, fun W1 h1 => by go_simp⟩) hW ?_
  try simp only [Act.put, List.setIfInBounds_toArray, List.set_cons_zero, List.set_cons_succ]
  refine wpAnyH_take (i := 1) (oi := ⟨some 18, _, _, _, _, _⟩) (v := .int .i64 bq) rfl (by kernel_rfl) (by kernel_rfl) (by kernel_rfl) (fun _ _ _ h => h) (.inl ⟨by rfl, fun W1 h1 => by have h2 := (Below.cell (p := ⟨w.heap.size, 1, none⟩) h1 hg3).trans X1.out; clear h1; go_simp⟩) hW ?_
  try simp only [Act.put, List.setIfInBounds_toArray, List.set_cons_zero, List.set_cons_succ]
  refine wpAnyH_take (i := 2) (oi := ⟨some 19, _, _, _, _, _⟩) (v := .pointer (some ⟨p, 0, none⟩)) rfl (by kernel_rfl) (by kernel_rfl) (by kernel_rfl) (fun _ _ _ h => h) (.inl ⟨by rfl, fun W1 h1 => by go_simp⟩) hW ?_
  try simp only [Act.put, List.setIfInBounds_toArray, List.set_cons_zero, List.set_cons_succ]
  refine wpAnyH_take (i := 3) (oi := ⟨some 20, _, _, _, _, _⟩) (v := .pointer (some ⟨p, 0, none⟩)) rfl (by kernel_rfl) (by kernel_rfl) (by kernel_rfl) (fun _ _ _ h => h) (.inl ⟨by rfl, fun W1 h1 => by go_simp⟩) hW ?_
  try simp only [Act.put, List.setIfInBounds_toArray, List.set_cons_zero, List.set_cons_succ]
  refine wpAnyH_take (i := 4) (oi := ⟨some 21, _, _, _, _, _⟩) (v := .pointer (some ⟨p, 2, none⟩)) rfl (by kernel_rfl) (by kernel_rfl) (by kernel_rfl) (fun _ _ _ h => h) (.inl ⟨by rfl, fun W1 h1 => by go_simp⟩) hW ?_
  try simp only [Act.put, List.setIfInBounds_toArray, List.set_cons_zero, List.set_cons_succ]
  refine wpAnyH_take (i := 5) (oi := ⟨some 22, _, _, _, _, _⟩) (v := .int .i64 ep) rfl (by kernel_rfl) (by kernel_rfl) (by kernel_rfl) (fun _ _ _ h => h) (.inl ⟨by rfl, fun W1 h1 => by have h2 := (Below.cell (p := ⟨p, 2, none⟩) h1 hp3).trans P2.out; clear h1; go_simp⟩) hW ?_
  try simp only [Act.put, List.setIfInBounds_toArray, List.set_cons_zero, List.set_cons_succ]
  refine wpAnyH_take (i := 6) (oi := ⟨some 23, _, _, _, _, _⟩) (v := .bool false) rfl (by kernel_rfl) (by kernel_rfl) (by kernel_rfl) (fun _ _ _ h => h) (.inl ⟨by rfl, fun W1 h1 => by go_simp⟩) hW ?_
  try simp only [Act.put, List.setIfInBounds_toArray, List.set_cons_zero, List.set_cons_succ]
  refine wpAnyH_take (i := 7) (oi := ⟨some 16, _, _, _, _, _⟩) (v := .bool false) rfl (by kernel_rfl) (by kernel_rfl) (by kernel_rfl) (fun _ _ _ h => h) (.inl ⟨by rfl, fun W1 h1 => by go_simp⟩) hW ?_
  try simp only [Act.put, List.setIfInBounds_toArray, List.set_cons_zero, List.set_cons_succ]
  refine wpAnyH_done (by kernel_rfl) ?_ _
  have HB4 := Aside0.mk (HB3.out.trans (hW.mono HB3.out.size))
  have H4 := Aside0.mk (H3.out.below hW)
  have HG4 := Aside0.mk (blk_below HG3.out hW)
  clear hW P2 X1 HB3 H3 HG3 hp3 hg3 WDB
  go_wp2_with fail
  have Q4 := Aside0.mk (show W4.cell? ⟨p, 4, none⟩ = some (.slice none 0 0) by rw [cell_of_row _ _ 4 _ 29 (0, 0) H4.out.blk]; rfl)
  have HPZ := Aside0.mk (show ¬ w.heap.size = p by omega)
  have hp4 : p < W4.heap.size := H4.out.lt
  refine wp_region_held_drew (S := fun w' => KB W4 w' (fun k => k = p)) (by kernel_rfl) (KB.of_below (below_drew (Below.refl _ _)) _) (fun hW => ?_)
  have WDB := Aside0.mk (show Below W4.heap.size W4 W4.drew from below_drew (Below.refl _ _))
  generalize hWd : W4.drew = Wd at *
  clear hWd
  refine wpAnyH_take (i := 0) (oi := ⟨some 31, _, _, _, _, _⟩) (v := .pointer (some ⟨p, 0, none⟩)) rfl (by kernel_rfl) (by kernel_rfl) (by kernel_rfl) (fun _ _ _ h => h) (.inl ⟨by rfl, fun W1 h1 => by go_simp⟩) hW ?_
  try simp only [Act.put, List.setIfInBounds_toArray, List.set_cons_zero, List.set_cons_succ]
  refine wpAnyH_take (i := 1) (oi := ⟨some 32, _, _, _, _, _⟩) (v := .pointer (some ⟨p, 0, none⟩)) rfl (by kernel_rfl) (by kernel_rfl) (by kernel_rfl) (fun _ _ _ h => h) (.inl ⟨by rfl, fun W1 h1 => by go_simp⟩) hW ?_
  try simp only [Act.put, List.setIfInBounds_toArray, List.set_cons_zero, List.set_cons_succ]
  refine wpAnyH_take (i := 2) (oi := ⟨some 33, _, _, _, _, _⟩) (v := .pointer (some ⟨p, 0, none⟩)) rfl (by kernel_rfl) (by kernel_rfl) (by kernel_rfl) (fun _ _ _ h => h) (.inl ⟨by rfl, fun W1 h1 => by go_simp⟩) hW ?_
  try simp only [Act.put, List.setIfInBounds_toArray, List.set_cons_zero, List.set_cons_succ]
  refine wpAnyH_take (i := 3) (oi := ⟨some 34, _, _, _, _, _⟩) (v := .pointer (some ⟨p, 4, none⟩)) rfl (by kernel_rfl) (by kernel_rfl) (by kernel_rfl) (fun _ _ _ h => h) (.inl ⟨by rfl, fun W1 h1 => by go_simp⟩) hW ?_
  try simp only [Act.put, List.setIfInBounds_toArray, List.set_cons_zero, List.set_cons_succ]
  refine wpAnyH_take (i := 5) (oi := ⟨some 36, _, _, _, _, _⟩) (v := .agg cs) rfl (by kernel_rfl) (by kernel_rfl) (by kernel_rfl) (fun _ _ _ h => h) (yields_row (by rfl) 33 _ rfl (w.heap.size) rfl 33 cs (0, 0) _ (fun w1 h1 => blk_kept HG4.out h1.kept HPZ.out) underl56 rfl (by rw [i33, HPC.out.1.size])) hW ?_
  try simp only [Act.put, List.setIfInBounds_toArray, List.set_cons_zero, List.set_cons_succ]
  refine wpAnyH_ready (rs := [4, 6]) (by kernel_rfl) (by simp) (AllReadyH.cons rfl (fun K1 hK1 => ?_) (AllReadyH.cons rfl (fun K2 hK2 => ?_) AllReadyH.nil))
  · have q4 : Wd.cell? ⟨p, 4, none⟩ = some (.slice none 0 0) := (Below.cell (p := ⟨p, 4, none⟩) WDB.out hp4).trans Q4.out
    go_simp
    clear q4
    refine hK1.out _ _ (hW) (fun hW => ?_)
    try simp only [Act.put, List.setIfInBounds_toArray, List.set_cons_zero, List.set_cons_succ]
    refine wpAnyH_ready (rs := [6]) (by kernel_rfl) (by simp) (AllReadyH.cons rfl (fun K3 hK3 => ?_) AllReadyH.nil)
    refine wp_one_P (o := ⟨some 37, _, _, _, _, _⟩) (.tmp 36) rfl q HN.out.2.2.2.2 (by show Value.agg cs = _; rw [HN.out.2.2.2.1]) ?_
    refine hK3.out _ _ (hW.below (below_alloc (Below.refl _ _) _)) (fun hW => ?_)
    try simp only [Act.put, List.setIfInBounds_toArray, List.set_cons_zero, List.set_cons_succ]
    refine wpAnyH_ready (rs := [7]) (by kernel_rfl) (by simp) (AllReadyH.cons rfl (fun K4 hK4 => ?_) AllReadyH.nil)
    refine wp_append_P (o := ⟨some 38, _, _, _, _, _⟩) (w0 := Wd) Wd.heap.size (.tmp 35) (.tmp 37) rfl (.slice none 0 0) [] q HN.out.2.2.2.2 rfl rfl (Kd.R_nil _ _ _ _ _) (Below.refl _ _) (Nat.le_refl _) (by simp) ?_
    intro v1 w5 hR5 hb5 _
    have hR5 : Kd.R kP 33 w5 Wd.heap.size (fun _ => True) v1 [q] := hR5
    obtain ⟨A1, c1, hv1⟩ := Kd.R_slice hR5
    subst hv1
    have HB5 := Aside0.mk (WDB.out.trans (hb5.mono WDB.out.size))
    have HR5 := Aside0.mk hR5
    have H5 := Aside0.mk (H4.out.below HB5.out)
    refine hK4.out _ _ (KB.of_below HB5.out _) (fun hW => ?_)
    try simp only [Act.put, List.setIfInBounds_toArray, List.set_cons_zero, List.set_cons_succ]
    clear hR5 hb5
    refine wpAnyH_take (i := 8) (oi := ⟨some 39, _, _, _, _, _⟩) (v := .pointer (some ⟨p, 0, none⟩)) rfl (by kernel_rfl) (by kernel_rfl) (by kernel_rfl) (fun _ _ _ h => h) (.inl ⟨by rfl, fun W1 h1 => by go_simp⟩) hW ?_
    try simp only [Act.put, List.setIfInBounds_toArray, List.set_cons_zero, List.set_cons_succ]
    refine wpAnyH_take (i := 9) (oi := ⟨some 40, _, _, _, _, _⟩) (v := .pointer (some ⟨p, 4, none⟩)) rfl (by kernel_rfl) (by kernel_rfl) (by kernel_rfl) (fun _ _ _ h => h) (.inl ⟨by rfl, fun W1 h1 => by go_simp⟩) hW ?_
    try simp only [Act.put, List.setIfInBounds_toArray, List.set_cons_zero, List.set_cons_succ]
    refine wpAnyH_ready (rs := [10]) (by kernel_rfl) (by simp) (AllReadyH.cons rfl (fun K5 hK5 => ?_) AllReadyH.nil)
    have q4 : w5.cell? ⟨p, 4, none⟩ = some (.slice none 0 0) := (Below.cell (p := ⟨p, 4, none⟩) HB5.out hp4).trans Q4.out
    have f4 : w5.frozen? ⟨p, 4, none⟩ = false := frozen_of_row _ _ 4 _ 29 H5.out.blk
    go_simp
    clear q4 f4
    refine hK5.out _ _ (hW.then_ (KB.setCell w5 ⟨p, 4, none⟩ _) (fun k hk => .inl hk)) (fun hW => ?_)
    try simp only [Act.put, List.setIfInBounds_toArray, List.set_cons_zero, List.set_cons_succ]
    refine wpAnyH_done (by kernel_rfl) ?_ _
    clear hK1 hK3 hK4 hK5 K1 K3 K4 K5
    have HFIN := Aside0.mk (show KB w (w5.setCell ⟨p, 4, none⟩ (.slice A1 [q].length c1)) (fun k => k = p) ∧ ∃ kv, PO (w5.setCell ⟨p, 4, none⟩ (.slice A1 [q].length c1)) p d m a mw N fr tu rs l ep kv ∧ Kd.R kP 33 (w5.setCell ⟨p, 4, none⟩ (.slice A1 [q].length c1)) w.heap.size (fun _ => True) kv [q] by
      refine ⟨(KB.of_below HB4.out _).then_ hW (fun k hk => .inl hk), _, PO_kv H5.out _, ?_⟩
      have h1 := Kd.R_mono (Kd.R_bound HR5.out) (ok' := fun k => k ≠ p) (fun k hk => by have := hk.2.1; have := WDB.out.size; omega)
      have h2 := Kd.R_far (p := ⟨p, 4, none⟩) h1 (fun k hk => hk) (.slice A1 [q].length c1)
      exact Kd.R_mono (Kd.R_lower h2 (by have := HB4.out.size; have := WDB.out.size; omega)) (fun _ _ => trivial))
    clear hW
    generalize hW6 : w5.setCell ⟨p, 4, none⟩ (.slice A1 [q].length c1) = W6 at *
    clear hW6
    go_wp2
    rw [HP.out]
    exact ⟨rfl, HFIN.out⟩
  · refine wp_one_P (o := ⟨some 37, _, _, _, _, _⟩) (.tmp 36) rfl q HN.out.2.2.2.2 (by show Value.agg cs = _; rw [HN.out.2.2.2.1]) ?_
    refine hK2.out _ _ (hW.below (below_alloc (Below.refl _ _) _)) (fun hW => ?_)
    try simp only [Act.put, List.setIfInBounds_toArray, List.set_cons_zero, List.set_cons_succ]
    refine wpAnyH_ready (rs := [4]) (by kernel_rfl) (by simp) (AllReadyH.cons rfl (fun K3 hK3 => ?_) AllReadyH.nil)
    have q4 : (Wd.alloc (.cells (encP q) 33)).cell? ⟨p, 4, none⟩ = some (.slice none 0 0) := (Below.cell (p := ⟨p, 4, none⟩) (below_alloc WDB.out (.cells (encP q) 33)) hp4).trans Q4.out
    go_simp
    clear q4
    refine hK3.out _ _ (hW) (fun hW => ?_)
    try simp only [Act.put, List.setIfInBounds_toArray, List.set_cons_zero, List.set_cons_succ]
    refine wpAnyH_ready (rs := [7]) (by kernel_rfl) (by simp) (AllReadyH.cons rfl (fun K4 hK4 => ?_) AllReadyH.nil)
    refine wp_append_P (o := ⟨some 38, _, _, _, _, _⟩) (w0 := Wd) Wd.heap.size (.tmp 35) (.tmp 37) rfl (.slice none 0 0) [] q HN.out.2.2.2.2 rfl rfl (Kd.R_nil _ _ _ _ _) (Below.refl _ _) (Nat.le_refl _) (by simp) ?_
    intro v1 w5 hR5 hb5 _
    have hR5 : Kd.R kP 33 w5 Wd.heap.size (fun _ => True) v1 [q] := hR5
    obtain ⟨A1, c1, hv1⟩ := Kd.R_slice hR5
    subst hv1
    have HB5 := Aside0.mk (WDB.out.trans (hb5.mono WDB.out.size))
    have HR5 := Aside0.mk hR5
    have H5 := Aside0.mk (H4.out.below HB5.out)
    refine hK4.out _ _ (KB.of_below HB5.out _) (fun hW => ?_)
    try simp only [Act.put, List.setIfInBounds_toArray, List.set_cons_zero, List.set_cons_succ]
    clear hR5 hb5
    refine wpAnyH_take (i := 8) (oi := ⟨some 39, _, _, _, _, _⟩) (v := .pointer (some ⟨p, 0, none⟩)) rfl (by kernel_rfl) (by kernel_rfl) (by kernel_rfl) (fun _ _ _ h => h) (.inl ⟨by rfl, fun W1 h1 => by go_simp⟩) hW ?_
    try simp only [Act.put, List.setIfInBounds_toArray, List.set_cons_zero, List.set_cons_succ]
    refine wpAnyH_take (i := 9) (oi := ⟨some 40, _, _, _, _, _⟩) (v := .pointer (some ⟨p, 4, none⟩)) rfl (by kernel_rfl) (by kernel_rfl) (by kernel_rfl) (fun _ _ _ h => h) (.inl ⟨by rfl, fun W1 h1 => by go_simp⟩) hW ?_
    try simp only [Act.put, List.setIfInBounds_toArray, List.set_cons_zero, List.set_cons_succ]
    refine wpAnyH_ready (rs := [10]) (by kernel_rfl) (by simp) (AllReadyH.cons rfl (fun K5 hK5 => ?_) AllReadyH.nil)
    have q4 : w5.cell? ⟨p, 4, none⟩ = some (.slice none 0 0) := (Below.cell (p := ⟨p, 4, none⟩) HB5.out hp4).trans Q4.out
    have f4 : w5.frozen? ⟨p, 4, none⟩ = false := frozen_of_row _ _ 4 _ 29 H5.out.blk
    go_simp
    clear q4 f4
    refine hK5.out _ _ (hW.then_ (KB.setCell w5 ⟨p, 4, none⟩ _) (fun k hk => .inl hk)) (fun hW => ?_)
    try simp only [Act.put, List.setIfInBounds_toArray, List.set_cons_zero, List.set_cons_succ]
    refine wpAnyH_done (by kernel_rfl) ?_ _
    clear hK2 hK3 hK4 hK5 K2 K3 K4 K5
    have HFIN := Aside0.mk (show KB w (w5.setCell ⟨p, 4, none⟩ (.slice A1 [q].length c1)) (fun k => k = p) ∧ ∃ kv, PO (w5.setCell ⟨p, 4, none⟩ (.slice A1 [q].length c1)) p d m a mw N fr tu rs l ep kv ∧ Kd.R kP 33 (w5.setCell ⟨p, 4, none⟩ (.slice A1 [q].length c1)) w.heap.size (fun _ => True) kv [q] by
      refine ⟨(KB.of_below HB4.out _).then_ hW (fun k hk => .inl hk), _, PO_kv H5.out _, ?_⟩
      have h1 := Kd.R_mono (Kd.R_bound HR5.out) (ok' := fun k => k ≠ p) (fun k hk => by have := hk.2.1; have := WDB.out.size; omega)
      have h2 := Kd.R_far (p := ⟨p, 4, none⟩) h1 (fun k hk => hk) (.slice A1 [q].length c1)
      exact Kd.R_mono (Kd.R_lower h2 (by have := HB4.out.size; have := WDB.out.size; omega)) (fun _ _ => trivial))
    clear hW
    generalize hW6 : w5.setCell ⟨p, 4, none⟩ (.slice A1 [q].length c1) = W6 at *
    clear hW6
    go_wp2
    rw [HP.out]
    exact ⟨rfl, HFIN.out⟩
def FreshOut (w : World) (N : Nat) (e : Ending) (w' : World) : Prop :=
  ∃ p d m a mw, e = .returned (.pointer (some ⟨p, 0, none⟩)) ∧ w.heap.size ≤ p ∧ w.heap.size ≤ m ∧ w.heap.size ≤ a ∧ w.heap.size ≤ mw ∧ PO w' p d m a mw N 2 (N : Int) 0 [(2, (N : Int))] 1 (.slice none 0 0) ∧ Below w.heap.size w w'
set_option maxRecDepth 100000 in
set_option maxHeartbeats 4000000 in
theorem fresh4 (N : Nat) (h1 : 3 ≤ N) (h2 : N ≤ 8192) (w : World) : Calls Try.prog 4 #[.int .i64 (N : Int)] w (FreshOut w N) := by
  obtain ⟨P, hP⟩ : ∃ P : Ending → World → Prop, P = FreshOut w N := ⟨_, rfl⟩
  rw [← hP]
  have HP := Aside0.mk hP
  have HN := Aside0.mk (And.intro h1 h2)
  clear hP h1 h2
  go_enter Try.func4, Try.ntmps4
  go_wp2_with fail
  refine (new10 N (by have := HN.out; omega) HN.out.2 w).mono ?_
  rintro e W1 ⟨d, m, rfl, hd, hm, hdb, hmi, hb⟩
  have H1 := Aside0.mk (And.intro hd (And.intro hm (And.intro hdb (And.intro hmi hb))))
  clear hd hm hdb hmi hb
  go_wp2_with fail
  refine (new11 2 (N : Int) 0 W1 (by omega) (by have := HN.out; omega) (by have := HN.out; omega) (by omega) (by have := HN.out; omega)).mono ?_
  rintro e W2 ⟨a, mw, rfl, ha, hmw, hab, hb⟩
  have H2 := Aside0.mk (And.intro ha (And.intro hmw (And.intro hab hb)))
  clear ha hmw hab hb
  obtain ⟨o, ho⟩ : ∃ o : Obj, o = .cells #[.pointer (some ⟨d, 0, none⟩), .pointer (some ⟨a, 0, none⟩), .int .i64 1, .bool false, .slice none 0 0] 29 := ⟨_, rfl⟩
  have HF := Aside0.mk (show FreshOut w N (.returned (.pointer (some ⟨W2.heap.size, 0, none⟩))) (W2.alloc o) by
    obtain ⟨hd, hm, hdb, hmi, hb⟩ := H1.out
    obtain ⟨ha, hmw, hab, hb2⟩ := H2.out
    have hb3 : Below W2.heap.size W2 (W2.alloc o) := below_alloc (Below.refl _ _) o
    have hmi2 := hmi
    obtain ⟨es, cl, h2, _⟩ := hmi2
    have hmlt : m < W1.heap.size := blk_lt h2
    have h1 := hb.size
    have h2 := hb2.size
    refine ⟨W2.heap.size, d, m, a, mw, rfl, by omega, hm, by omega, by omega, ⟨by rw [ho]; exact blk_new W2 _, (hdb.below hb2).below hb3, (hmi.below hb2).below hb3, hab.below hb3, by omega⟩, hb.trans ((hb2.mono h1).trans (hb3.mono (by omega)))⟩)
  rw [ho] at HF
  clear ho
  go_wp2
  rw [HP.out]
  exact HF.out
end Go.Proofs.Ytchhdafgmifhdaa.PoolC
namespace Go.Proofs.Ytchhdafgmifhdaa.LawA
open Go.RowKit Go.Proofs.Ytchhdafgmifhdaa.B8 Go.Proofs.Ytchhdafgmifhdaa.Agg Go.Proofs.Ytchhdafgmifhdaa.CodL Go.Proofs.Ytchhdafgmifhdaa.CodA Go.Proofs.Ytchhdafgmifhdaa.CodB Go.Proofs.Ytchhdafgmifhdaa.CrcL Go.Proofs.Ytchhdafgmifhdaa.CrcA Go.Proofs.Ytchhdafgmifhdaa.CrcB Go.Proofs.Ytchhdafgmifhdaa.PCowLays Go.Proofs.YtchhdafgmifhdaaW.PrintWords Go.Proofs.YtchhdafgmifhdaaW.PrintLast Go.Proofs.YtchhdafgmifhdaaW.PrintMore Go.Proofs.Ytchhdafgmifhdaa.CatL Go.Proofs.Ytchhdafgmifhdaa.PtrA Go.Proofs.Ytchhdafgmifhdaa.PtrB Go.Proofs.Ytchhdafgmifhdaa.PtrE Go.Proofs.Ytchhdafgmifhdaa.OfA Go.Proofs.Ytchhdafgmifhdaa.ExtL Go.Proofs.Ytchhdafgmifhdaa.ExtA Go.Proofs.Ytchhdafgmifhdaa.DskA Go.Proofs.Ytchhdafgmifhdaa.DskB Go.Proofs.Ytchhdafgmifhdaa.DskC Go.Proofs.Ytchhdafgmifhdaa.AlcA Go.Proofs.Ytchhdafgmifhdaa.AlcB Go.Proofs.Ytchhdafgmifhdaa.AlcC Go.Proofs.Ytchhdafgmifhdaa.AlcD Go.Proofs.Ytchhdafgmifhdaa.AlcE Go.Proofs.Ytchhdafgmifhdaa.AlcF Go.Proofs.Ytchhdafgmifhdaa.SpnA Go.Proofs.Ytchhdafgmifhdaa.BlkA Go.Proofs.Ytchhdafgmifhdaa.BlkB Go.Proofs.Ytchhdafgmifhdaa.PoolA Go.Proofs.Ytchhdafgmifhdaa.PoolB Go.Proofs.Ytchhdafgmifhdaa.ShaK Go.Proofs.Ytchhdafgmifhdaa.ExtF Go.Proofs.Ytchhdafgmifhdaa.ExtG Go.Proofs.Ytchhdafgmifhdaa.ExtE Go.Proofs.Ytchhdafgmifhdaa.ExtD Go.Proofs.Ytchhdafgmifhdaa.AlcG Go.Proofs.Ytchhdafgmifhdaa.AlcH Go.Proofs.Ytchhdafgmifhdaa.KpA Go.Proofs.Ytchhdafgmifhdaa.PoolC
set_option linter.unusedVariables false
set_option linter.unusedSimpArgs false
theorem ofP_ok (x b : Int) (L : List Int) : Ok (ofP x b L) := ⟨by simp only [ofP]; omega, by have := CrcL.sumN_lt L; simp only [ofP]; omega, ShaE.shaL_len L, ShaE.shaL_byt L⟩
/-- What the law asks of the sectors. -/
structure Lays10 (k : Nat) : Prop where
  find : findI [(2, 40)] (k : Int) = 2
  rem : remS [(2, 40)] (2, 2 + (k : Int)) = [(2 + (k : Int), 40)]
  add : addS [(2 + (k : Int), 40)] (2, 2 + (k : Int)) = [(2, 40)]
  m1 : meetsS [(2 + (k : Int), 40)] (2, 2 + (k : Int)) = false
  m2 : meetsS [(2, 40)] (2, 2 + (k : Int)) = true
  m3 : meetsS [(2 + (k : Int), 40)] (2, 3) = false
theorem lays10 (k : Nat) (h1 : 1 ≤ k) (h2 : k ≤ 10) : Lays10 k := by
  have : k = 1 ∨ k = 2 ∨ k = 3 ∨ k = 4 ∨ k = 5 ∨ k = 6 ∨ k = 7 ∨ k = 8 ∨ k = 9 ∨ k = 10 := by omega
  rcases this with rfl | rfl | rfl | rfl | rfl | rfl | rfl | rfl | rfl | rfl <;> exact ⟨by decide, by decide, by decide, by decide, by decide, by decide⟩
theorem vs40 (x : Int) (h1 : 2 ≤ x) (h2 : x < 40) : VS (-1) [(x, 40)] := ⟨by simp only; omega, by simp only; omega, by simp only; omega, trivial⟩
theorem tot40 (x : Int) : total [(x, 40)] = 40 - x := by simp [total]
theorem bits_one (x : Int) : bits .and .i64 x 1 = 0 ∨ bits .and .i64 x 1 = 1 := by
  have e : bits .and .i64 x 1 = IntKind.i64.wrap ((BitVec.ofInt 64 x &&& BitVec.ofInt 64 1).toNat : Int) := rfl
  have h1 : (BitVec.ofInt 64 1).toNat = 1 := by decide
  rw [e, BitVec.toNat_and, h1, Nat.and_one_is_mod]
  have : (BitVec.ofInt 64 x).toNat % 2 = 0 ∨ (BitVec.ofInt 64 x).toNat % 2 = 1 := by omega
  rcases this with h | h <;> rw [h]
  · left; rfl
  · right; rfl
theorem wp_build_of {P : Program} {o : Oper} {a : Act} {w : World} {K : Act → World → Prop} {Q : Exit → Act → World → Prop} (t : TypeId) (parts : Array (Nat × Operand)) (ho : o.op = .build t parts) (cs : Array Value)
    (hc : P.built t (parts.map fun (i, x) => (i, a.eval x)).toList = some cs) (h : K (a.put o.dst (.agg cs)) w) : o.wp P a w K Q :=
  wp_build t parts ho (by rw [hc]; rfl) (by rw [hc]; exact h)
theorem guard33 : Try.prog.eqGuardType Try.prog.depth 33 = false := by kernel_rfl
theorem yields_eql33 {ops : Array Oper} {S : World → Prop} {op : Oper} {a : Act} (hw : Region.wanted op (yielded ops a.tmps) = true) (x y : Operand) (ty2 : TypeId) (ho : op.op = .binOp .eql 33 x y ty2)
    (p q : Ptr) (hp : p.sha.length = 32) (hq : q.sha.length = 32) (hx : a.eval x = .agg (encP p)) (hy : a.eval y = .agg (encP q)) : YieldsIf Try.prog ops S op (.bool (decide (p = q))) a :=
  .inl ⟨hw, fun w hS => by
    unfold execOp
    simp only [ho, hx, hy, Sem.run_bind, Sem.run_pure, Result.andThen_ok, run_eqGuard_agg _ .eql 33 x y _ _ guard33, eql56 p q hp hq]⟩
theorem C8_mark (W : World) : C8 (W.alloc (.cells #[.int .u8 120] 5 (1, 2))) (some ⟨W.heap.size, 0, none⟩) 1 [120] :=
  ⟨rfl, by omega, fun _ => ⟨_, rfl, fun j p hj => by
    match j with
    | 0 =>
      obtain rfl : (120 : Int) = p := by simpa using hj
      refine ⟨[.int .u8 120], rfl, rfl, fun i u hu => ?_⟩
      rw [add_at]
      simp only [Nat.zero_mul, Nat.zero_add]
      rw [World.cell?_alloc_mark]
      simpa using hu
    | j + 1 => simp at hj⟩⟩
theorem okW23 : OkW [(2, 3)] := by
  refine ⟨fun s hs => ?_, fun i => ?_⟩
  · obtain rfl : s = (2, 3) := by simpa using hs
    decide
  · match i with
    | 0 => exact ⟨trivial, by simp [joinS]⟩
    | i + 1 => simp only [List.take_succ_cons, List.take_nil, joinS, List.foldl_cons, List.foldl_nil, addS]; exact ⟨by decide, by simp⟩
theorem tot23 : total (joinS [(2, 3)]) = 1 := by decide
set_option maxRecDepth 100000 in
set_option maxHeartbeats 8000000 in
theorem lay5_none (p d m a mw N : Nat) (fr tu rs : Int) (l : List Sp) (ep : Int) (kv : Value) (A : Option Addr) (c : Nat) (w : World) (h : PO w p d m a mw N fr tu rs l ep kv) (hN : 0 < N) (htu : fr < tu) :
    Calls Try.prog 5 #[.pointer (some ⟨p, 0, none⟩), .slice A 0 c] w (fun e w' => e = .returned (.tuple #[.agg (encP zeroP), .int .i64 2]) ∧ Below w.heap.size w w') := by
  obtain ⟨P, hP⟩ : ∃ P : Ending → World → Prop, P = fun e w' => e = .returned (.tuple #[.agg (encP zeroP), .int .i64 2]) ∧ Below w.heap.size w w' := ⟨_, rfl⟩
  rw [← hP]
  have HP := Aside0.mk hP
  clear hP
  obtain ⟨z, hz, hz1, hal⟩ := zero33
  have HZS := Aside0.mk (And.intro hz hz1)
  have halw := hal w
  have b1 := below_alloc (Below.refl w.heap.size w) (.cells z 33)
  have HB := Aside0.mk b1
  have H := Aside0.mk (h.below b1)
  have HZ := Aside0.mk (blk_new w (.cells z 33))
  have HNN := Aside0.mk (And.intro hN htu)
  obtain ⟨r0, hr0⟩ : ∃ r, r = encP zeroP := ⟨_, rfl⟩
  have HB0 := Aside0.mk (show Try.prog.built 33 [(2, .int .i64 0)] = some r0 by rw [hr0]; exact built33c 0)
  have HBE := Aside0.mk (show Try.prog.built 33 [] = some r0 by rw [hr0]; kernel_rfl)
  have HR0 := Aside0.mk (show PC r0 zeroP ∧ r0.size = 36 ∧ r0.all (·.oneCell') = true ∧ r0 = encP zeroP by rw [hr0]; exact ⟨pc _ (by simp [zeroP]), encP_size (by simp [zeroP]), encP_one _, rfl⟩)
  clear hal hz hz1 h hN htu b1 hr0
  go_enter Try.func5, Try.ntmps5
  go_wp2_with fail
  generalize hW0 : w.alloc (.cells z 33) = W0 at *
  clear hW0
  refine (ready12 p d m a mw N fr tu rs l ep kv W0 H.out HNN.out.1 HNN.out.2).mono ?_
  rintro e W1 ⟨rfl, hb1⟩
  have HB1 := Aside0.mk (HB.out.trans (hb1.mono HB.out.size))
  have H1 := Aside0.mk (H.out.below hb1)
  have HZ1 := Aside0.mk (blk_below HZ.out hb1)
  clear hb1 HB H HZ halw
  go_wp2_with (refine wpList_build_of rfl 33 #[(2, .tmp 18)] rfl r0 ?hb ?_; (case hb => simp [Act.eval]; exact HB0.out))
  refine (sectors_calls r0 _ HR0.out.1 W1).mono ?_
  rintro e W2 ⟨he, hb2⟩
  have hs0 : sect (Ptr.len zeroP) = 0 := by decide
  rw [hs0] at he
  subst he
  have HB2 := Aside0.mk (HB1.out.trans (hb2.mono HB1.out.size))
  have HZ2 := Aside0.mk (blk_below HZ1.out hb2)
  clear hb2 HB1 H1 HZ1
  go_wp2_with (first | (refine wpList_build_of rfl 33 #[] rfl r0 ?hb2 ?_; (case hb2 => simp [Act.eval]; exact HBE.out)) | (refine wpList_store_row rfl 33 (.tmp 4) (.tmp 34) rfl w.heap.size r0 rfl rfl 33 z HZ2.out (by rw [i33, HR0.out.2.1]) (by rw [HR0.out.2.1, HZS.out.1]) HR0.out.2.2.1 ?_))
  refine bodyPost_ret (res_ct (p := 4) (q := 5) _ rfl rfl (setRow_heap _ w.heap.size z r0 33 _ HZ2.out) Try.underlying33 rfl (by rw [i33, HR0.out.2.1])) rfl ?_
  rw [HP.out]
  exact ⟨by rw [HR0.out.2.2.2]; rfl, below_setRow HB2.out (Nat.le_refl _) _⟩
end Go.Proofs.Ytchhdafgmifhdaa.LawA
namespace Go.Proofs.Ytchhdafgmifhdaa.LawB
open Go.RowKit Go.Proofs.Ytchhdafgmifhdaa.B8 Go.Proofs.Ytchhdafgmifhdaa.Agg Go.Proofs.Ytchhdafgmifhdaa.CodL Go.Proofs.Ytchhdafgmifhdaa.CodA Go.Proofs.Ytchhdafgmifhdaa.CodB Go.Proofs.Ytchhdafgmifhdaa.CrcL Go.Proofs.Ytchhdafgmifhdaa.CrcA Go.Proofs.Ytchhdafgmifhdaa.CrcB Go.Proofs.Ytchhdafgmifhdaa.PCowLays Go.Proofs.YtchhdafgmifhdaaW.PrintWords Go.Proofs.YtchhdafgmifhdaaW.PrintLast Go.Proofs.YtchhdafgmifhdaaW.PrintMore Go.Proofs.Ytchhdafgmifhdaa.CatL Go.Proofs.Ytchhdafgmifhdaa.PtrA Go.Proofs.Ytchhdafgmifhdaa.PtrB Go.Proofs.Ytchhdafgmifhdaa.PtrE Go.Proofs.Ytchhdafgmifhdaa.OfA Go.Proofs.Ytchhdafgmifhdaa.ExtL Go.Proofs.Ytchhdafgmifhdaa.ExtA Go.Proofs.Ytchhdafgmifhdaa.DskA Go.Proofs.Ytchhdafgmifhdaa.DskB Go.Proofs.Ytchhdafgmifhdaa.DskC Go.Proofs.Ytchhdafgmifhdaa.AlcA Go.Proofs.Ytchhdafgmifhdaa.AlcB Go.Proofs.Ytchhdafgmifhdaa.AlcC Go.Proofs.Ytchhdafgmifhdaa.AlcD Go.Proofs.Ytchhdafgmifhdaa.AlcE Go.Proofs.Ytchhdafgmifhdaa.AlcF Go.Proofs.Ytchhdafgmifhdaa.SpnA Go.Proofs.Ytchhdafgmifhdaa.BlkA Go.Proofs.Ytchhdafgmifhdaa.BlkB Go.Proofs.Ytchhdafgmifhdaa.PoolA Go.Proofs.Ytchhdafgmifhdaa.PoolB Go.Proofs.Ytchhdafgmifhdaa.ShaK Go.Proofs.Ytchhdafgmifhdaa.ExtF Go.Proofs.Ytchhdafgmifhdaa.ExtG Go.Proofs.Ytchhdafgmifhdaa.ExtE Go.Proofs.Ytchhdafgmifhdaa.ExtD Go.Proofs.Ytchhdafgmifhdaa.AlcG Go.Proofs.Ytchhdafgmifhdaa.AlcH Go.Proofs.Ytchhdafgmifhdaa.KpA Go.Proofs.Ytchhdafgmifhdaa.PoolC Go.Proofs.Ytchhdafgmifhdaa.LawA
set_option linter.unusedVariables false
set_option linter.unusedSimpArgs false
set_option maxRecDepth 100000 in
set_option maxHeartbeats 8000000 in
theorem law_even (A : Option Addr) (c n : Nat) (L : List Int) (x : Int) (w : World) (hr : C8 w A n L) (hb : Byt L) (hnc : n ≤ c) (h1 : 1 ≤ n) (h2 : n ≤ 5000) (hx : bits .and .i64 x 1 = 0) :
    Calls Try.prog 3 #[.slice A n c, .int .i64 x] w (fun e w' => e = .returned (.bool true) ∧ Below w.heap.size w w') := by
  obtain ⟨P, hP⟩ : ∃ P : Ending → World → Prop, P = fun e w' => e = .returned (.bool true) ∧ Below w.heap.size w w' := ⟨_, rfl⟩
  rw [← hP]
  have HP := Aside0.mk hP
  clear hP
  have d0 : decide ((n : Int) > 5000) = false := decide_eq_false (by omega)
  have d0' : decide (5000 < (n : Int)) = false := decide_eq_false (by omega)
  obtain ⟨L2, hL2⟩ : ∃ L2, L2 = L := ⟨_, rfl⟩
  obtain ⟨n2, hn2⟩ : ∃ n2, n2 = n := ⟨_, rfl⟩
  have HR := Aside0.mk (show C8 w A n2 L2 ∧ Byt L2 ∧ n2 ≤ c by rw [hn2, hL2]; exact ⟨hr, hb, hnc⟩)
  have HN2 := Aside0.mk (show 1 ≤ n2 ∧ n2 ≤ 5000 by omega)
  have HNE := Aside0.mk hn2
  obtain ⟨k, hk⟩ : ∃ k : Nat, (k : Int) = sect (n2 : Int) := ⟨(sect (n2 : Int)).toNat, by have := sect_bound (n2 : Int); omega⟩
  have hk10 : 1 ≤ k ∧ k ≤ 10 := by
    unfold sect at hk
    rw [if_neg (by omega)] at hk
    omega
  have HK := Aside0.mk (And.intro hk hk10)
  have HL := Aside0.mk (lays10 k hk10.1 hk10.2)
  clear hr hb hL2 hk hk10 
  go_enter Try.func3, Try.ntmps3
  go_wp2_with fail
  refine (fresh4 40 (by omega) (by omega) w).mono ?_
  rintro e W1 ⟨p, d, m, a, mw, rfl, hp, hm, ha, hmw, hpo, hb1⟩
  have HB1 := Aside0.mk hb1
  have H1 := Aside0.mk (PO_ep hpo 5)
  have HNW := Aside0.mk (And.intro hp (And.intro hm ha))
  have HMW0 := Aside0.mk hmw
  have p2 : W1.cell? ⟨p, 2, none⟩ = some (.int .i64 1) := by rw [cell_of_row _ _ 2 _ 29 (0, 0) hpo.blk]; rfl
  have f2 : W1.frozen? ⟨p, 2, none⟩ = false := frozen_of_row _ _ 2 _ 29 hpo.blk
  have HB2 := Aside0.mk (show Below w.heap.size w (W1.setCell ⟨p, 2, none⟩ (.int .i64 5)) from hb1.setCell hp _)
  clear hb1 hp hm ha hmw hpo
  go_wp2_with fail
  clear p2 f2
  generalize hW2 : W1.setCell ⟨p, 2, none⟩ (.int .i64 5) = W2 at *
  clear hW2
  clear hnc h1 h2
  subst hn2
  refine (lay5 p d m a mw 40 2 40 0 [(2, 40)] 5 _ A n2 c L2 W2 H1.out (by omega) (by omega) (fun W' hk' => ?_) HR.out.2.1 HR.out.2.2 HN2.out.1 (by have := HN2.out; omega) (by omega) (by omega) k HK.out.1 2 HL.out.find (by omega) (by have := HK.out; omega) (by omega) (by rw [tot40]; have := HK.out; omega) (by rw [HL.out.rem]; exact vs40 _ (by omega) (by have := HK.out; omega)) (by rw [HL.out.rem]; simp) (by rw [HL.out.rem, tot40]; have := HK.out; omega)).mono ?_
  · refine Kcells HR.out.1 (fun _ _ h => h) (fun ad q v _ _ hc => ?_)
    have hlt := World.block_lt_of_cell? w q hc
    have h3 := HNW.out
    exact cell_kept ((HB2.out.cell hlt).trans hc) hk' (by omega)
  rintro e W3 ⟨he, hkb3, hpo3⟩
  obtain ⟨r, hrr⟩ : ∃ r, r = encP (ofP 2 5 L2) := ⟨_, rfl⟩
  rw [← hrr] at he
  subst he
  have HRR := Aside0.mk (show PC r (ofP 2 5 L2) ∧ r.size = 36 ∧ r.all (·.oneCell') = true ∧ r = encP (ofP 2 5 L2) by rw [hrr]; exact ⟨pc _ (ShaE.shaL_len L2), encP_size (ShaE.shaL_len L2), encP_one _, rfl⟩)
  have HB3 := Aside0.mk (show Below w.heap.size w W3 from (KB.of_below (S := fun k => k = m ∨ k = a) (w := W2) (w' := W2) (Below.refl _ _) |>.then_ hkb3 (fun k hk => .inl hk)) |> fun h => HB2.out.trans (KB.to_below h (fun k hk => by have := HNW.out; omega) HB2.out.size))
  rw [HL.out.rem] at hpo3
  have H3 := Aside0.mk hpo3
  obtain ⟨z, hz, hz1, hal⟩ := zero33
  have hal3 := hal W3
  have HZS := Aside0.mk (And.intro hz hz1)
  have HAL := Aside0.mk hal
  have HZ3 := Aside0.mk (blk_new W3 (.cells z 33))
  have hn0 : ((n2 : Int) == 0) = false := by rw [beq_eq_false_iff_ne]; have := HN2.out; omega
  clear hrr hkb3 hpo3 hz hz1 hal
  go_wp2_with (refine wpList_store_row rfl 33 (.tmp 6) (.tmp 25) rfl W3.heap.size r rfl rfl 33 z HZ3.out (by rw [i33, HRR.out.2.1]) (by rw [HRR.out.2.1, HZS.out.1]) HRR.out.2.2.1 ?_)
  have HG4 := Aside0.mk (setRow_heap (W3.alloc (.cells z 33)) W3.heap.size z r 33 _ HZ3.out)
  have H4 := Aside0.mk (PO_row (H3.out.below (below_alloc (Below.refl _ _) (.cells z 33))) HZ3.out r)
  have HB4 := Aside0.mk (show Below w.heap.size w ((W3.alloc (.cells z 33)).setRow W3.heap.size r) from below_setRow (HB3.out.trans ((below_alloc (Below.refl W3.heap.size W3) _).mono HB3.out.size)) HB3.out.size _)
  obtain ⟨g, hg⟩ : ∃ g, g = W3.heap.size := ⟨_, rfl⟩
  have HGE := Aside0.mk (show w.heap.size ≤ g ∧ p < g by rw [hg]; exact ⟨HB3.out.size, H3.out.lt⟩)
  generalize hW4 : (W3.alloc (.cells z 33)).setRow W3.heap.size r = W4 at *
  clear hW4
  rw [← hg] at *
  clear hg hal3 HZ3 HB3 H3
  have hp4 : p < W4.heap.size := H4.out.lt
  have hg4 : g < W4.heap.size := blk_lt HG4.out
  have P1 := Aside0.mk (show W4.cell? ⟨p, 1, none⟩ = some (.pointer (some ⟨a, 0, none⟩)) by rw [cell_of_row _ _ 1 _ 29 (0, 0) H4.out.blk]; rfl)
  have X1 := Aside0.mk (show W4.cell? ⟨g, 1, none⟩ = some (.int .i64 5) by rw [cell_of_row _ _ 1 _ 33 (0, 0) HG4.out]; exact HRR.out.1.c1)
  have X2 := Aside0.mk (show W4.cell? ⟨g, 2, none⟩ = some (.int .i64 (n2 : Int)) by rw [cell_of_row _ _ 2 _ 33 (0, 0) HG4.out]; exact HRR.out.1.c2.trans (by rw [show (ofP 2 5 L2).len = (n2 : Int) from by show (L2.length : Int) = _; rw [HR.out.1.1]]))
  refine wp_region_held_drew (S := fun w' => Below W4.heap.size W4 w') (by kernel_rfl) (below_drew (Below.refl _ _)) (fun hW => ?_)
  have WDB := Aside0.mk (show Below W4.heap.size W4 W4.drew from below_drew (Below.refl _ _))
  generalize hWd : W4.drew = W5 at *
  clear hWd
  refine wpAnyH_take (i := 0) (oi := ⟨some 48, _, _, _, _, _⟩) (v := .int .i64 0) rfl (by kernel_rfl) (by kernel_rfl) (by kernel_rfl) (fun _ _ _ h => h) (.inl ⟨by rfl, fun W1 h1 => by go_simp⟩) hW ?_
  try simp only [Act.put, List.setIfInBounds_toArray, List.set_cons_zero, List.set_cons_succ]
  refine wpAnyH_take (i := 1) (oi := ⟨some 49, _, _, _, _, _⟩) (v := .bool false) rfl (by kernel_rfl) (by kernel_rfl) (by kernel_rfl) (fun _ _ _ h => h) (.inl ⟨by rfl, fun W1 h1 => by go_simp⟩) hW ?_
  try simp only [Act.put, List.setIfInBounds_toArray, List.set_cons_zero, List.set_cons_succ]
  refine wpAnyH_take (i := 2) (oi := ⟨some 50, _, _, _, _, _⟩) (v := .bool false) rfl (by kernel_rfl) (by kernel_rfl) (by kernel_rfl) (fun _ _ _ h => h) (.inl ⟨by rfl, fun W1 h1 => by go_simp⟩) hW ?_
  try simp only [Act.put, List.setIfInBounds_toArray, List.set_cons_zero, List.set_cons_succ]
  refine wpAnyH_take (i := 3) (oi := ⟨some 51, _, _, _, _, _⟩) (v := .pointer (some ⟨g, 1, none⟩)) rfl (by kernel_rfl) (by kernel_rfl) (by kernel_rfl) (fun _ _ _ h => h) (.inl ⟨by rfl, fun W1 h1 => by go_simp⟩) hW ?_
  try simp only [Act.put, List.setIfInBounds_toArray, List.set_cons_zero, List.set_cons_succ]
  refine wpAnyH_take (i := 4) (oi := ⟨some 52, _, _, _, _, _⟩) (v := .int .i64 5) rfl (by kernel_rfl) (by kernel_rfl) (by kernel_rfl) (fun _ _ _ h => h) (.inl ⟨by rfl, fun W1 h1 => by have h2 := (Below.cell (p := ⟨g, 1, none⟩) h1 hg4).trans X1.out; clear h1; go_simp⟩) hW ?_
  try simp only [Act.put, List.setIfInBounds_toArray, List.set_cons_zero, List.set_cons_succ]
  refine wpAnyH_take (i := 5) (oi := ⟨some 53, _, _, _, _, _⟩) (v := .bool false) rfl (by kernel_rfl) (by kernel_rfl) (by kernel_rfl) (fun _ _ _ h => h) (.inl ⟨by rfl, fun W1 h1 => by go_simp⟩) hW ?_
  try simp only [Act.put, List.setIfInBounds_toArray, List.set_cons_zero, List.set_cons_succ]
  refine wpAnyH_take (i := 6) (oi := ⟨some 54, _, _, _, _, _⟩) (v := .bool false) rfl (by kernel_rfl) (by kernel_rfl) (by kernel_rfl) (fun _ _ _ h => h) (.inl ⟨by rfl, fun W1 h1 => by go_simp⟩) hW ?_
  try simp only [Act.put, List.setIfInBounds_toArray, List.set_cons_zero, List.set_cons_succ]
  refine wpAnyH_take (i := 7) (oi := ⟨some 55, _, _, _, _, _⟩) (v := .bool false) rfl (by kernel_rfl) (by kernel_rfl) (by kernel_rfl) (fun _ _ _ h => h) (.inl ⟨by rfl, fun W1 h1 => by go_simp⟩) hW ?_
  try simp only [Act.put, List.setIfInBounds_toArray, List.set_cons_zero, List.set_cons_succ]
  refine wpAnyH_take (i := 8) (oi := ⟨some 56, _, _, _, _, _⟩) (v := .pointer (some ⟨g, 2, none⟩)) rfl (by kernel_rfl) (by kernel_rfl) (by kernel_rfl) (fun _ _ _ h => h) (.inl ⟨by rfl, fun W1 h1 => by go_simp⟩) hW ?_
  try simp only [Act.put, List.setIfInBounds_toArray, List.set_cons_zero, List.set_cons_succ]
  refine wpAnyH_take (i := 9) (oi := ⟨some 57, _, _, _, _, _⟩) (v := .int .i64 (n2 : Int)) rfl (by kernel_rfl) (by kernel_rfl) (by kernel_rfl) (fun _ _ _ h => h) (.inl ⟨by rfl, fun W1 h1 => by have h2 := (Below.cell (p := ⟨g, 2, none⟩) h1 hg4).trans X2.out; clear h1; go_simp⟩) hW ?_
  try simp only [Act.put, List.setIfInBounds_toArray, List.set_cons_zero, List.set_cons_succ]
  refine wpAnyH_take (i := 10) (oi := ⟨some 58, _, _, _, _, _⟩) (v := .slice A n2 c) rfl (by kernel_rfl) (by kernel_rfl) (by kernel_rfl) (fun _ _ _ h => h) (.inl ⟨by rfl, fun W1 h1 => by go_simp⟩) hW ?_
  try simp only [Act.put, List.setIfInBounds_toArray, List.set_cons_zero, List.set_cons_succ]
  refine wpAnyH_take (i := 11) (oi := ⟨some 59, _, _, _, _, _⟩) (v := .int .i64 (n2 : Int)) rfl (by kernel_rfl) (by kernel_rfl) (by kernel_rfl) (fun _ _ _ h => h) (.inl ⟨by rfl, fun W1 h1 => by go_simp⟩) hW ?_
  try simp only [Act.put, List.setIfInBounds_toArray, List.set_cons_zero, List.set_cons_succ]
  refine wpAnyH_take (i := 12) (oi := ⟨some 60, _, _, _, _, _⟩) (v := .bool false) rfl (by kernel_rfl) (by kernel_rfl) (by kernel_rfl) (fun _ _ _ h => h) (.inl ⟨by rfl, fun W1 h1 => by go_simp⟩) hW ?_
  try simp only [Act.put, List.setIfInBounds_toArray, List.set_cons_zero, List.set_cons_succ]
  refine wpAnyH_take (i := 13) (oi := ⟨some 61, _, _, _, _, _⟩) (v := .bool false) rfl (by kernel_rfl) (by kernel_rfl) (by kernel_rfl) (fun _ _ _ h => h) (.inl ⟨by rfl, fun W1 h1 => by go_simp⟩) hW ?_
  try simp only [Act.put, List.setIfInBounds_toArray, List.set_cons_zero, List.set_cons_succ]
  refine wpAnyH_take (i := 14) (oi := ⟨some 62, _, _, _, _, _⟩) (v := .bool false) rfl (by kernel_rfl) (by kernel_rfl) (by kernel_rfl) (fun _ _ _ h => h) (.inl ⟨by rfl, fun W1 h1 => by go_simp⟩) hW ?_
  try simp only [Act.put, List.setIfInBounds_toArray, List.set_cons_zero, List.set_cons_succ]
  refine wpAnyH_take (i := 15) (oi := ⟨some 63, _, _, _, _, _⟩) (v := .pointer (some ⟨p, 0, none⟩)) rfl (by kernel_rfl) (by kernel_rfl) (by kernel_rfl) (fun _ _ _ h => h) (.inl ⟨by rfl, fun W1 h1 => by go_simp⟩) hW ?_
  try simp only [Act.put, List.setIfInBounds_toArray, List.set_cons_zero, List.set_cons_succ]
  refine wpAnyH_take (i := 16) (oi := ⟨some 64, _, _, _, _, _⟩) (v := .pointer (some ⟨p, 0, none⟩)) rfl (by kernel_rfl) (by kernel_rfl) (by kernel_rfl) (fun _ _ _ h => h) (.inl ⟨by rfl, fun W1 h1 => by go_simp⟩) hW ?_
  try simp only [Act.put, List.setIfInBounds_toArray, List.set_cons_zero, List.set_cons_succ]
  refine wpAnyH_take (i := 17) (oi := ⟨some 65, _, _, _, _, _⟩) (v := .pointer (some ⟨p, 1, none⟩)) rfl (by kernel_rfl) (by kernel_rfl) (by kernel_rfl) (fun _ _ _ h => h) (.inl ⟨by rfl, fun W1 h1 => by go_simp⟩) hW ?_
  try simp only [Act.put, List.setIfInBounds_toArray, List.set_cons_zero, List.set_cons_succ]
  refine wpAnyH_take (i := 18) (oi := ⟨some 66, _, _, _, _, _⟩) (v := .pointer (some ⟨a, 0, none⟩)) rfl (by kernel_rfl) (by kernel_rfl) (by kernel_rfl) (fun _ _ _ h => h) (.inl ⟨by rfl, fun W1 h1 => by have h2 := (Below.cell (p := ⟨p, 1, none⟩) h1 hp4).trans P1.out; clear h1; go_simp⟩) hW ?_
  try simp only [Act.put, List.setIfInBounds_toArray, List.set_cons_zero, List.set_cons_succ]
  refine wpAnyH_take (i := 20) (oi := ⟨some 68, _, _, _, _, _⟩) (v := .agg r) rfl (by kernel_rfl) (by kernel_rfl) (by kernel_rfl) (fun _ _ _ h => h) (yields_row (by rfl) 33 _ rfl (g) rfl 33 r (0, 0) _ (fun w1 h1 => blk_below HG4.out h1) underl56 rfl (by rw [i33, HRR.out.2.1])) hW ?_
  try simp only [Act.put, List.setIfInBounds_toArray, List.set_cons_zero, List.set_cons_succ]
  refine wpAnyH_ready (rs := [19]) (by kernel_rfl) (by simp) (AllReadyH.cons rfl (fun K1 hK1 => ?_) AllReadyH.nil)
  go_simp
  refine (used6 a mw 2 40 0 _ _ (H4.out.alc.below hW)).mono ?_
  rintro e WT ⟨he, hb⟩
  rw [tot40, show (40 : Int) - 2 - (40 - (2 + (k : Int))) = k by omega] at he
  subst he
  refine hK1.out _ _ (hW.trans (hb.mono hW.size)) (fun hW => ?_)
  try simp only [Act.put, List.setIfInBounds_toArray, List.set_cons_zero, List.set_cons_succ]
  clear hb
  refine wpAnyH_ready (rs := [21]) (by kernel_rfl) (by simp) (AllReadyH.cons rfl (fun K2 hK2 => ?_) AllReadyH.nil)
  go_simp
  refine (sectors_calls r _ HRR.out.1 _).mono ?_
  rintro e WT2 ⟨he, hb⟩
  rw [show sect (Ptr.len (ofP 2 5 L2)) = (k : Int) from by rw [show (ofP 2 5 L2).len = (n2 : Int) from by show (L2.length : Int) = _; rw [HR.out.1.1], HK.out.1]] at he
  subst he
  refine hK2.out _ _ (hW.trans (hb.mono hW.size)) (fun hW => ?_)
  try simp only [Act.put, List.setIfInBounds_toArray, List.set_cons_zero, List.set_cons_succ]
  clear hb
  refine wpAnyH_take (i := 22) (oi := ⟨some 70, _, _, _, _, _⟩) (v := .bool false) rfl (by kernel_rfl) (by kernel_rfl) (by kernel_rfl) (fun _ _ _ h => h) (.inl ⟨by rfl, fun W1 h1 => by go_simp⟩) hW ?_
  try simp only [Act.put, List.setIfInBounds_toArray, List.set_cons_zero, List.set_cons_succ]
  refine wpAnyH_take (i := 23) (oi := ⟨some 71, _, _, _, _, _⟩) (v := .bool false) rfl (by kernel_rfl) (by kernel_rfl) (by kernel_rfl) (fun _ _ _ h => h) (.inl ⟨by rfl, fun W1 h1 => by go_simp⟩) hW ?_
  try simp only [Act.put, List.setIfInBounds_toArray, List.set_cons_zero, List.set_cons_succ]
  refine wpAnyH_done (by kernel_rfl) ?_ _
  clear hK1 hK2 K1 K2
  have HB6 := Aside0.mk (HB4.out.trans (hW.mono HB4.out.size))
  have H6 := Aside0.mk (H4.out.below hW)
  have HG6 := Aside0.mk (blk_below HG4.out hW)
  clear hW P1 X1 X2 HB4 H4 HG4 hp4 hg4 WDB
  generalize hW6 : WT2 = W6 at *
  clear hW6
  have HRT := Aside0.mk (show Right (ofP 2 5 L2) ∧ (k : Int) = sect (ofP 2 5 L2).len from by
    have hl : (ofP 2 5 L2).len = (n2 : Int) := by show (L2.length : Int) = _; rw [HR.out.1.1]
    have h1 := HK.out
    refine ⟨⟨?_, ?_, ?_, ?_, ?_⟩, by rw [hl]; exact h1.1⟩
    · show (1 : Int) ≤ 5; omega
    · show (5 : Int) ≤ _; omega
    · rw [hl, ← h1.1]; omega
    · show (2 : Int) ≤ 2; omega
    · rw [hl, ← h1.1]; show (2 : Int) ≤ _; omega)
  have HGA := Aside0.mk (show ¬ g = a by
    rintro rfl
    obtain ⟨A0, n0, c0, was, h1, _⟩ := H6.out.alc.blk
    have := HG6.out
    rw [h1] at this
    simp at this)
  go_wp2_with (refine wpList_load_row rfl 33 (.tmp 6) rfl g rfl 33 r (0, 0) _ HG6.out underl56 rfl (by rw [i33, HRR.out.2.1]) ?_)
  refine (kill8_give p d m a mw 40 2 40 0 [(2 + (k : Int), 40)] 5 _ r (ofP 2 5 L2) 2 k HRR.out.1 HRT.out.1 rfl HRT.out.2 rfl W6 H6.out (by omega) (by omega) (by omega) (by have := HK.out; omega) HL.out.m1 (by rw [HL.out.add]; exact ⟨vs40 2 (by omega) (by omega), by simp, by rw [tot40]; omega⟩)).mono ?_
  rintro e W7 ⟨rfl, hkb, hpo⟩
  rw [HL.out.add] at hpo
  have H7 := Aside0.mk hpo
  have HG7 := Aside0.mk (blk_kept HG6.out hkb.kept HGA.out)
  have HB7 := Aside0.mk (HB6.out.trans (hkb.to_below (fun k hk => by have := HNW.out; omega) HB6.out.size))
  have p1 : W7.cell? ⟨p, 1, none⟩ = some (.pointer (some ⟨a, 0, none⟩)) := by rw [cell_of_row _ _ 1 _ 29 (0, 0) hpo.blk]; rfl
  clear hkb hpo H6 HG6 HB6
  go_wp2_with fail
  refine (used6 a mw 2 40 0 [(2, 40)] W7 H7.out.alc).mono ?_
  rintro e W8 ⟨he, hb⟩
  rw [tot40, show (40 : Int) - 2 - (40 - 2) = 0 by omega] at he
  subst he
  have H8 := Aside0.mk (H7.out.below hb)
  have HG8 := Aside0.mk (blk_below HG7.out hb)
  have HB8 := Aside0.mk (HB7.out.trans (hb.mono HB7.out.size))
  have p4 : W8.cell? ⟨p, 4, none⟩ = some (.slice none 0 0) := by rw [cell_of_row _ _ 4 _ 29 (0, 0) H8.out.blk]; rfl
  clear hb p1 H7 HG7 HB7
  go_wp2_with (refine gate_on (o := ⟨some 97, _, _, _, _, _⟩) (by rfl) ?_; dsimp only; refine wpList_load_row rfl 33 (.tmp 6) rfl g rfl 33 r (0, 0) _ HG8.out underl56 rfl (by rw [i33, HRR.out.2.1]) ?_)
  refine (kill8_none p d m a mw 40 2 40 0 [(2, 40)] 5 _ r (ofP 2 5 L2) 2 k HRR.out.1 HRT.out.1 rfl HRT.out.2 rfl W8 H8.out (by omega) (by omega) (by omega) (by have := HK.out; omega) HL.out.m2).mono ?_
  rintro e W9 ⟨rfl, hb⟩
  have HB9 := Aside0.mk (HB8.out.trans (hb.mono HB8.out.size))
  clear hb p4
  go_wp2
  rw [HP.out]
  exact ⟨rfl, HB9.out⟩
end Go.Proofs.Ytchhdafgmifhdaa.LawB
namespace Go.Proofs.Ytchhdafgmifhdaa.LawC
open Go.RowKit Go.Proofs.Ytchhdafgmifhdaa.B8 Go.Proofs.Ytchhdafgmifhdaa.Agg Go.Proofs.Ytchhdafgmifhdaa.CodL Go.Proofs.Ytchhdafgmifhdaa.CodA Go.Proofs.Ytchhdafgmifhdaa.CodB Go.Proofs.Ytchhdafgmifhdaa.CrcL Go.Proofs.Ytchhdafgmifhdaa.CrcA Go.Proofs.Ytchhdafgmifhdaa.CrcB Go.Proofs.Ytchhdafgmifhdaa.PCowLays Go.Proofs.YtchhdafgmifhdaaW.PrintWords Go.Proofs.YtchhdafgmifhdaaW.PrintLast Go.Proofs.YtchhdafgmifhdaaW.PrintMore Go.Proofs.Ytchhdafgmifhdaa.CatL Go.Proofs.Ytchhdafgmifhdaa.PtrA Go.Proofs.Ytchhdafgmifhdaa.PtrB Go.Proofs.Ytchhdafgmifhdaa.PtrE Go.Proofs.Ytchhdafgmifhdaa.OfA Go.Proofs.Ytchhdafgmifhdaa.ExtL Go.Proofs.Ytchhdafgmifhdaa.ExtA Go.Proofs.Ytchhdafgmifhdaa.DskA Go.Proofs.Ytchhdafgmifhdaa.DskB Go.Proofs.Ytchhdafgmifhdaa.DskC Go.Proofs.Ytchhdafgmifhdaa.AlcA Go.Proofs.Ytchhdafgmifhdaa.AlcB Go.Proofs.Ytchhdafgmifhdaa.AlcC Go.Proofs.Ytchhdafgmifhdaa.AlcD Go.Proofs.Ytchhdafgmifhdaa.AlcE Go.Proofs.Ytchhdafgmifhdaa.AlcF Go.Proofs.Ytchhdafgmifhdaa.SpnA Go.Proofs.Ytchhdafgmifhdaa.BlkA Go.Proofs.Ytchhdafgmifhdaa.BlkB Go.Proofs.Ytchhdafgmifhdaa.PoolA Go.Proofs.Ytchhdafgmifhdaa.PoolB Go.Proofs.Ytchhdafgmifhdaa.ShaK Go.Proofs.Ytchhdafgmifhdaa.ExtF Go.Proofs.Ytchhdafgmifhdaa.ExtG Go.Proofs.Ytchhdafgmifhdaa.ExtE Go.Proofs.Ytchhdafgmifhdaa.ExtD Go.Proofs.Ytchhdafgmifhdaa.AlcG Go.Proofs.Ytchhdafgmifhdaa.AlcH Go.Proofs.Ytchhdafgmifhdaa.KpA Go.Proofs.Ytchhdafgmifhdaa.PoolC Go.Proofs.Ytchhdafgmifhdaa.LawA
set_option linter.unusedVariables false
set_option linter.unusedSimpArgs false
set_option maxRecDepth 100000 in
set_option maxHeartbeats 8000000 in
theorem law_even2 (A : Option Addr) (c n : Nat) (L : List Int) (x : Int) (w : World) (hr : C8 w A n L) (hb : Byt L) (hnc : n ≤ c) (h1 : 5000 < n) (hx : bits .and .i64 x 1 = 0) :
    Calls Try.prog 3 #[.slice A n c, .int .i64 x] w (fun e w' => e = .returned (.bool true) ∧ Below w.heap.size w w') := by
  obtain ⟨P, hP⟩ : ∃ P : Ending → World → Prop, P = fun e w' => e = .returned (.bool true) ∧ Below w.heap.size w w' := ⟨_, rfl⟩
  rw [← hP]
  have HP := Aside0.mk hP
  clear hP
  have d0 : decide ((n : Int) > 5000) = true := decide_eq_true (by omega)
  have d0' : decide (5000 < (n : Int)) = true := decide_eq_true (by omega)
  obtain ⟨L2, hL2⟩ : ∃ L2, L2 = L.take 5000 := ⟨_, rfl⟩
  obtain ⟨n2, hn2⟩ : ∃ n2, n2 = 5000 := ⟨_, rfl⟩
  have HR := Aside0.mk (show C8 w A n2 L2 ∧ Byt L2 ∧ n2 ≤ c by rw [hn2, hL2]; exact ⟨C_take hr (by omega), hb.take _, by omega⟩)
  have HN2 := Aside0.mk (show 1 ≤ n2 ∧ n2 ≤ 5000 by omega)
  obtain ⟨k, hk⟩ : ∃ k : Nat, (k : Int) = sect (n2 : Int) := ⟨(sect (n2 : Int)).toNat, by have := sect_bound (n2 : Int); omega⟩
  have hk10 : 1 ≤ k ∧ k ≤ 10 := by
    unfold sect at hk
    rw [if_neg (by omega)] at hk
    omega
  have HK := Aside0.mk (And.intro hk hk10)
  have HL := Aside0.mk (lays10 k hk10.1 hk10.2)
  clear hr hb hL2 hk hk10 
  go_enter Try.func3, Try.ntmps3
  go_wp2_with fail
  rw [show (Value.slice A 5000 c) = Value.slice A n2 c by rw [hn2]]
  have HNE := Aside0.mk hn2
  clear hn2
  refine (fresh4 40 (by omega) (by omega) w).mono ?_
  rintro e W1 ⟨p, d, m, a, mw, rfl, hp, hm, ha, hmw, hpo, hb1⟩
  have HB1 := Aside0.mk hb1
  have H1 := Aside0.mk (PO_ep hpo 5)
  have HNW := Aside0.mk (And.intro hp (And.intro hm ha))
  have HMW0 := Aside0.mk hmw
  have p2 : W1.cell? ⟨p, 2, none⟩ = some (.int .i64 1) := by rw [cell_of_row _ _ 2 _ 29 (0, 0) hpo.blk]; rfl
  have f2 : W1.frozen? ⟨p, 2, none⟩ = false := frozen_of_row _ _ 2 _ 29 hpo.blk
  have HB2 := Aside0.mk (show Below w.heap.size w (W1.setCell ⟨p, 2, none⟩ (.int .i64 5)) from hb1.setCell hp _)
  clear hb1 hp hm ha hmw hpo
  go_wp2_with fail
  clear p2 f2
  generalize hW2 : W1.setCell ⟨p, 2, none⟩ (.int .i64 5) = W2 at *
  clear hW2
  clear hnc h1
  clear HNE
  refine (lay5 p d m a mw 40 2 40 0 [(2, 40)] 5 _ A n2 c L2 W2 H1.out (by omega) (by omega) (fun W' hk' => ?_) HR.out.2.1 HR.out.2.2 HN2.out.1 (by have := HN2.out; omega) (by omega) (by omega) k HK.out.1 2 HL.out.find (by omega) (by have := HK.out; omega) (by omega) (by rw [tot40]; have := HK.out; omega) (by rw [HL.out.rem]; exact vs40 _ (by omega) (by have := HK.out; omega)) (by rw [HL.out.rem]; simp) (by rw [HL.out.rem, tot40]; have := HK.out; omega)).mono ?_
  · refine Kcells HR.out.1 (fun _ _ h => h) (fun ad q v _ _ hc => ?_)
    have hlt := World.block_lt_of_cell? w q hc
    have h3 := HNW.out
    exact cell_kept ((HB2.out.cell hlt).trans hc) hk' (by omega)
  rintro e W3 ⟨he, hkb3, hpo3⟩
  obtain ⟨r, hrr⟩ : ∃ r, r = encP (ofP 2 5 L2) := ⟨_, rfl⟩
  rw [← hrr] at he
  subst he
  have HRR := Aside0.mk (show PC r (ofP 2 5 L2) ∧ r.size = 36 ∧ r.all (·.oneCell') = true ∧ r = encP (ofP 2 5 L2) by rw [hrr]; exact ⟨pc _ (ShaE.shaL_len L2), encP_size (ShaE.shaL_len L2), encP_one _, rfl⟩)
  have HB3 := Aside0.mk (show Below w.heap.size w W3 from (KB.of_below (S := fun k => k = m ∨ k = a) (w := W2) (w' := W2) (Below.refl _ _) |>.then_ hkb3 (fun k hk => .inl hk)) |> fun h => HB2.out.trans (KB.to_below h (fun k hk => by have := HNW.out; omega) HB2.out.size))
  rw [HL.out.rem] at hpo3
  have H3 := Aside0.mk hpo3
  obtain ⟨z, hz, hz1, hal⟩ := zero33
  have hal3 := hal W3
  have HZS := Aside0.mk (And.intro hz hz1)
  have HAL := Aside0.mk hal
  have HZ3 := Aside0.mk (blk_new W3 (.cells z 33))
  have hn0 : ((n2 : Int) == 0) = false := by rw [beq_eq_false_iff_ne]; have := HN2.out; omega
  clear hrr hkb3 hpo3 hz hz1 hal
  go_wp2_with (refine wpList_store_row rfl 33 (.tmp 6) (.tmp 25) rfl W3.heap.size r rfl rfl 33 z HZ3.out (by rw [i33, HRR.out.2.1]) (by rw [HRR.out.2.1, HZS.out.1]) HRR.out.2.2.1 ?_)
  have HG4 := Aside0.mk (setRow_heap (W3.alloc (.cells z 33)) W3.heap.size z r 33 _ HZ3.out)
  have H4 := Aside0.mk (PO_row (H3.out.below (below_alloc (Below.refl _ _) (.cells z 33))) HZ3.out r)
  have HB4 := Aside0.mk (show Below w.heap.size w ((W3.alloc (.cells z 33)).setRow W3.heap.size r) from below_setRow (HB3.out.trans ((below_alloc (Below.refl W3.heap.size W3) _).mono HB3.out.size)) HB3.out.size _)
  obtain ⟨g, hg⟩ : ∃ g, g = W3.heap.size := ⟨_, rfl⟩
  have HGE := Aside0.mk (show w.heap.size ≤ g ∧ p < g by rw [hg]; exact ⟨HB3.out.size, H3.out.lt⟩)
  generalize hW4 : (W3.alloc (.cells z 33)).setRow W3.heap.size r = W4 at *
  clear hW4
  rw [← hg] at *
  clear hg hal3 HZ3 HB3 H3
  have hp4 : p < W4.heap.size := H4.out.lt
  have hg4 : g < W4.heap.size := blk_lt HG4.out
  have P1 := Aside0.mk (show W4.cell? ⟨p, 1, none⟩ = some (.pointer (some ⟨a, 0, none⟩)) by rw [cell_of_row _ _ 1 _ 29 (0, 0) H4.out.blk]; rfl)
  have X1 := Aside0.mk (show W4.cell? ⟨g, 1, none⟩ = some (.int .i64 5) by rw [cell_of_row _ _ 1 _ 33 (0, 0) HG4.out]; exact HRR.out.1.c1)
  have X2 := Aside0.mk (show W4.cell? ⟨g, 2, none⟩ = some (.int .i64 (n2 : Int)) by rw [cell_of_row _ _ 2 _ 33 (0, 0) HG4.out]; exact HRR.out.1.c2.trans (by rw [show (ofP 2 5 L2).len = (n2 : Int) from by show (L2.length : Int) = _; rw [HR.out.1.1]]))
  refine wp_region_held_drew (S := fun w' => Below W4.heap.size W4 w') (by kernel_rfl) (below_drew (Below.refl _ _)) (fun hW => ?_)
  have WDB := Aside0.mk (show Below W4.heap.size W4 W4.drew from below_drew (Below.refl _ _))
  generalize hWd : W4.drew = W5 at *
  clear hWd
  refine wpAnyH_take (i := 0) (oi := ⟨some 48, _, _, _, _, _⟩) (v := .int .i64 0) rfl (by kernel_rfl) (by kernel_rfl) (by kernel_rfl) (fun _ _ _ h => h) (.inl ⟨by rfl, fun W1 h1 => by go_simp⟩) hW ?_
  try simp only [Act.put, List.setIfInBounds_toArray, List.set_cons_zero, List.set_cons_succ]
  refine wpAnyH_take (i := 1) (oi := ⟨some 49, _, _, _, _, _⟩) (v := .bool false) rfl (by kernel_rfl) (by kernel_rfl) (by kernel_rfl) (fun _ _ _ h => h) (.inl ⟨by rfl, fun W1 h1 => by go_simp⟩) hW ?_
  try simp only [Act.put, List.setIfInBounds_toArray, List.set_cons_zero, List.set_cons_succ]
  refine wpAnyH_take (i := 2) (oi := ⟨some 50, _, _, _, _, _⟩) (v := .bool false) rfl (by kernel_rfl) (by kernel_rfl) (by kernel_rfl) (fun _ _ _ h => h) (.inl ⟨by rfl, fun W1 h1 => by go_simp⟩) hW ?_
  try simp only [Act.put, List.setIfInBounds_toArray, List.set_cons_zero, List.set_cons_succ]
  refine wpAnyH_take (i := 3) (oi := ⟨some 51, _, _, _, _, _⟩) (v := .pointer (some ⟨g, 1, none⟩)) rfl (by kernel_rfl) (by kernel_rfl) (by kernel_rfl) (fun _ _ _ h => h) (.inl ⟨by rfl, fun W1 h1 => by go_simp⟩) hW ?_
  try simp only [Act.put, List.setIfInBounds_toArray, List.set_cons_zero, List.set_cons_succ]
  refine wpAnyH_take (i := 4) (oi := ⟨some 52, _, _, _, _, _⟩) (v := .int .i64 5) rfl (by kernel_rfl) (by kernel_rfl) (by kernel_rfl) (fun _ _ _ h => h) (.inl ⟨by rfl, fun W1 h1 => by have h2 := (Below.cell (p := ⟨g, 1, none⟩) h1 hg4).trans X1.out; clear h1; go_simp⟩) hW ?_
  try simp only [Act.put, List.setIfInBounds_toArray, List.set_cons_zero, List.set_cons_succ]
  refine wpAnyH_take (i := 5) (oi := ⟨some 53, _, _, _, _, _⟩) (v := .bool false) rfl (by kernel_rfl) (by kernel_rfl) (by kernel_rfl) (fun _ _ _ h => h) (.inl ⟨by rfl, fun W1 h1 => by go_simp⟩) hW ?_
  try simp only [Act.put, List.setIfInBounds_toArray, List.set_cons_zero, List.set_cons_succ]
  refine wpAnyH_take (i := 6) (oi := ⟨some 54, _, _, _, _, _⟩) (v := .bool false) rfl (by kernel_rfl) (by kernel_rfl) (by kernel_rfl) (fun _ _ _ h => h) (.inl ⟨by rfl, fun W1 h1 => by go_simp⟩) hW ?_
  try simp only [Act.put, List.setIfInBounds_toArray, List.set_cons_zero, List.set_cons_succ]
  refine wpAnyH_take (i := 7) (oi := ⟨some 55, _, _, _, _, _⟩) (v := .bool false) rfl (by kernel_rfl) (by kernel_rfl) (by kernel_rfl) (fun _ _ _ h => h) (.inl ⟨by rfl, fun W1 h1 => by go_simp⟩) hW ?_
  try simp only [Act.put, List.setIfInBounds_toArray, List.set_cons_zero, List.set_cons_succ]
  refine wpAnyH_take (i := 8) (oi := ⟨some 56, _, _, _, _, _⟩) (v := .pointer (some ⟨g, 2, none⟩)) rfl (by kernel_rfl) (by kernel_rfl) (by kernel_rfl) (fun _ _ _ h => h) (.inl ⟨by rfl, fun W1 h1 => by go_simp⟩) hW ?_
  try simp only [Act.put, List.setIfInBounds_toArray, List.set_cons_zero, List.set_cons_succ]
  refine wpAnyH_take (i := 9) (oi := ⟨some 57, _, _, _, _, _⟩) (v := .int .i64 (n2 : Int)) rfl (by kernel_rfl) (by kernel_rfl) (by kernel_rfl) (fun _ _ _ h => h) (.inl ⟨by rfl, fun W1 h1 => by have h2 := (Below.cell (p := ⟨g, 2, none⟩) h1 hg4).trans X2.out; clear h1; go_simp⟩) hW ?_
  try simp only [Act.put, List.setIfInBounds_toArray, List.set_cons_zero, List.set_cons_succ]
  refine wpAnyH_take (i := 10) (oi := ⟨some 58, _, _, _, _, _⟩) (v := .slice A n2 c) rfl (by kernel_rfl) (by kernel_rfl) (by kernel_rfl) (fun _ _ _ h => h) (.inl ⟨by rfl, fun W1 h1 => by go_simp⟩) hW ?_
  try simp only [Act.put, List.setIfInBounds_toArray, List.set_cons_zero, List.set_cons_succ]
  refine wpAnyH_take (i := 11) (oi := ⟨some 59, _, _, _, _, _⟩) (v := .int .i64 (n2 : Int)) rfl (by kernel_rfl) (by kernel_rfl) (by kernel_rfl) (fun _ _ _ h => h) (.inl ⟨by rfl, fun W1 h1 => by go_simp⟩) hW ?_
  try simp only [Act.put, List.setIfInBounds_toArray, List.set_cons_zero, List.set_cons_succ]
  refine wpAnyH_take (i := 12) (oi := ⟨some 60, _, _, _, _, _⟩) (v := .bool false) rfl (by kernel_rfl) (by kernel_rfl) (by kernel_rfl) (fun _ _ _ h => h) (.inl ⟨by rfl, fun W1 h1 => by go_simp⟩) hW ?_
  try simp only [Act.put, List.setIfInBounds_toArray, List.set_cons_zero, List.set_cons_succ]
  refine wpAnyH_take (i := 13) (oi := ⟨some 61, _, _, _, _, _⟩) (v := .bool false) rfl (by kernel_rfl) (by kernel_rfl) (by kernel_rfl) (fun _ _ _ h => h) (.inl ⟨by rfl, fun W1 h1 => by go_simp⟩) hW ?_
  try simp only [Act.put, List.setIfInBounds_toArray, List.set_cons_zero, List.set_cons_succ]
  refine wpAnyH_take (i := 14) (oi := ⟨some 62, _, _, _, _, _⟩) (v := .bool false) rfl (by kernel_rfl) (by kernel_rfl) (by kernel_rfl) (fun _ _ _ h => h) (.inl ⟨by rfl, fun W1 h1 => by go_simp⟩) hW ?_
  try simp only [Act.put, List.setIfInBounds_toArray, List.set_cons_zero, List.set_cons_succ]
  refine wpAnyH_take (i := 15) (oi := ⟨some 63, _, _, _, _, _⟩) (v := .pointer (some ⟨p, 0, none⟩)) rfl (by kernel_rfl) (by kernel_rfl) (by kernel_rfl) (fun _ _ _ h => h) (.inl ⟨by rfl, fun W1 h1 => by go_simp⟩) hW ?_
  try simp only [Act.put, List.setIfInBounds_toArray, List.set_cons_zero, List.set_cons_succ]
  refine wpAnyH_take (i := 16) (oi := ⟨some 64, _, _, _, _, _⟩) (v := .pointer (some ⟨p, 0, none⟩)) rfl (by kernel_rfl) (by kernel_rfl) (by kernel_rfl) (fun _ _ _ h => h) (.inl ⟨by rfl, fun W1 h1 => by go_simp⟩) hW ?_
  try simp only [Act.put, List.setIfInBounds_toArray, List.set_cons_zero, List.set_cons_succ]
  refine wpAnyH_take (i := 17) (oi := ⟨some 65, _, _, _, _, _⟩) (v := .pointer (some ⟨p, 1, none⟩)) rfl (by kernel_rfl) (by kernel_rfl) (by kernel_rfl) (fun _ _ _ h => h) (.inl ⟨by rfl, fun W1 h1 => by go_simp⟩) hW ?_
  try simp only [Act.put, List.setIfInBounds_toArray, List.set_cons_zero, List.set_cons_succ]
  refine wpAnyH_take (i := 18) (oi := ⟨some 66, _, _, _, _, _⟩) (v := .pointer (some ⟨a, 0, none⟩)) rfl (by kernel_rfl) (by kernel_rfl) (by kernel_rfl) (fun _ _ _ h => h) (.inl ⟨by rfl, fun W1 h1 => by have h2 := (Below.cell (p := ⟨p, 1, none⟩) h1 hp4).trans P1.out; clear h1; go_simp⟩) hW ?_
  try simp only [Act.put, List.setIfInBounds_toArray, List.set_cons_zero, List.set_cons_succ]
  refine wpAnyH_take (i := 20) (oi := ⟨some 68, _, _, _, _, _⟩) (v := .agg r) rfl (by kernel_rfl) (by kernel_rfl) (by kernel_rfl) (fun _ _ _ h => h) (yields_row (by rfl) 33 _ rfl (g) rfl 33 r (0, 0) _ (fun w1 h1 => blk_below HG4.out h1) underl56 rfl (by rw [i33, HRR.out.2.1])) hW ?_
  try simp only [Act.put, List.setIfInBounds_toArray, List.set_cons_zero, List.set_cons_succ]
  refine wpAnyH_ready (rs := [19]) (by kernel_rfl) (by simp) (AllReadyH.cons rfl (fun K1 hK1 => ?_) AllReadyH.nil)
  go_simp
  refine (used6 a mw 2 40 0 _ _ (H4.out.alc.below hW)).mono ?_
  rintro e WT ⟨he, hb⟩
  rw [tot40, show (40 : Int) - 2 - (40 - (2 + (k : Int))) = k by omega] at he
  subst he
  refine hK1.out _ _ (hW.trans (hb.mono hW.size)) (fun hW => ?_)
  try simp only [Act.put, List.setIfInBounds_toArray, List.set_cons_zero, List.set_cons_succ]
  clear hb
  refine wpAnyH_ready (rs := [21]) (by kernel_rfl) (by simp) (AllReadyH.cons rfl (fun K2 hK2 => ?_) AllReadyH.nil)
  go_simp
  refine (sectors_calls r _ HRR.out.1 _).mono ?_
  rintro e WT2 ⟨he, hb⟩
  rw [show sect (Ptr.len (ofP 2 5 L2)) = (k : Int) from by rw [show (ofP 2 5 L2).len = (n2 : Int) from by show (L2.length : Int) = _; rw [HR.out.1.1], HK.out.1]] at he
  subst he
  refine hK2.out _ _ (hW.trans (hb.mono hW.size)) (fun hW => ?_)
  try simp only [Act.put, List.setIfInBounds_toArray, List.set_cons_zero, List.set_cons_succ]
  clear hb
  refine wpAnyH_take (i := 22) (oi := ⟨some 70, _, _, _, _, _⟩) (v := .bool false) rfl (by kernel_rfl) (by kernel_rfl) (by kernel_rfl) (fun _ _ _ h => h) (.inl ⟨by rfl, fun W1 h1 => by go_simp⟩) hW ?_
  try simp only [Act.put, List.setIfInBounds_toArray, List.set_cons_zero, List.set_cons_succ]
  refine wpAnyH_take (i := 23) (oi := ⟨some 71, _, _, _, _, _⟩) (v := .bool false) rfl (by kernel_rfl) (by kernel_rfl) (by kernel_rfl) (fun _ _ _ h => h) (.inl ⟨by rfl, fun W1 h1 => by go_simp⟩) hW ?_
  try simp only [Act.put, List.setIfInBounds_toArray, List.set_cons_zero, List.set_cons_succ]
  refine wpAnyH_done (by kernel_rfl) ?_ _
  clear hK1 hK2 K1 K2
  have HB6 := Aside0.mk (HB4.out.trans (hW.mono HB4.out.size))
  have H6 := Aside0.mk (H4.out.below hW)
  have HG6 := Aside0.mk (blk_below HG4.out hW)
  clear hW P1 X1 X2 HB4 H4 HG4 hp4 hg4 WDB
  generalize hW6 : WT2 = W6 at *
  clear hW6
  have HRT := Aside0.mk (show Right (ofP 2 5 L2) ∧ (k : Int) = sect (ofP 2 5 L2).len from by
    have hl : (ofP 2 5 L2).len = (n2 : Int) := by show (L2.length : Int) = _; rw [HR.out.1.1]
    have h1 := HK.out
    refine ⟨⟨?_, ?_, ?_, ?_, ?_⟩, by rw [hl]; exact h1.1⟩
    · show (1 : Int) ≤ 5; omega
    · show (5 : Int) ≤ _; omega
    · rw [hl, ← h1.1]; omega
    · show (2 : Int) ≤ 2; omega
    · rw [hl, ← h1.1]; show (2 : Int) ≤ _; omega)
  have HGA := Aside0.mk (show ¬ g = a by
    rintro rfl
    obtain ⟨A0, n0, c0, was, h1, _⟩ := H6.out.alc.blk
    have := HG6.out
    rw [h1] at this
    simp at this)
  go_wp2_with (refine wpList_load_row rfl 33 (.tmp 6) rfl g rfl 33 r (0, 0) _ HG6.out underl56 rfl (by rw [i33, HRR.out.2.1]) ?_)
  refine (kill8_give p d m a mw 40 2 40 0 [(2 + (k : Int), 40)] 5 _ r (ofP 2 5 L2) 2 k HRR.out.1 HRT.out.1 rfl HRT.out.2 rfl W6 H6.out (by omega) (by omega) (by omega) (by have := HK.out; omega) HL.out.m1 (by rw [HL.out.add]; exact ⟨vs40 2 (by omega) (by omega), by simp, by rw [tot40]; omega⟩)).mono ?_
  rintro e W7 ⟨rfl, hkb, hpo⟩
  rw [HL.out.add] at hpo
  have H7 := Aside0.mk hpo
  have HG7 := Aside0.mk (blk_kept HG6.out hkb.kept HGA.out)
  have HB7 := Aside0.mk (HB6.out.trans (hkb.to_below (fun k hk => by have := HNW.out; omega) HB6.out.size))
  have p1 : W7.cell? ⟨p, 1, none⟩ = some (.pointer (some ⟨a, 0, none⟩)) := by rw [cell_of_row _ _ 1 _ 29 (0, 0) hpo.blk]; rfl
  clear hkb hpo H6 HG6 HB6
  go_wp2_with fail
  refine (used6 a mw 2 40 0 [(2, 40)] W7 H7.out.alc).mono ?_
  rintro e W8 ⟨he, hb⟩
  rw [tot40, show (40 : Int) - 2 - (40 - 2) = 0 by omega] at he
  subst he
  have H8 := Aside0.mk (H7.out.below hb)
  have HG8 := Aside0.mk (blk_below HG7.out hb)
  have HB8 := Aside0.mk (HB7.out.trans (hb.mono HB7.out.size))
  have p4 : W8.cell? ⟨p, 4, none⟩ = some (.slice none 0 0) := by rw [cell_of_row _ _ 4 _ 29 (0, 0) H8.out.blk]; rfl
  clear hb p1 H7 HG7 HB7
  go_wp2_with (refine gate_on (o := ⟨some 97, _, _, _, _, _⟩) (by rfl) ?_; dsimp only; refine wpList_load_row rfl 33 (.tmp 6) rfl g rfl 33 r (0, 0) _ HG8.out underl56 rfl (by rw [i33, HRR.out.2.1]) ?_)
  refine (kill8_none p d m a mw 40 2 40 0 [(2, 40)] 5 _ r (ofP 2 5 L2) 2 k HRR.out.1 HRT.out.1 rfl HRT.out.2 rfl W8 H8.out (by omega) (by omega) (by omega) (by have := HK.out; omega) HL.out.m2).mono ?_
  rintro e W9 ⟨rfl, hb⟩
  have HB9 := Aside0.mk (HB8.out.trans (hb.mono HB8.out.size))
  clear hb p4
  go_wp2
  rw [HP.out]
  exact ⟨rfl, HB9.out⟩
end Go.Proofs.Ytchhdafgmifhdaa.LawC
namespace Go.Proofs.Ytchhdafgmifhdaa.LawD
open Go.RowKit Go.Proofs.Ytchhdafgmifhdaa.B8 Go.Proofs.Ytchhdafgmifhdaa.Agg Go.Proofs.Ytchhdafgmifhdaa.CodL Go.Proofs.Ytchhdafgmifhdaa.CodA Go.Proofs.Ytchhdafgmifhdaa.CodB Go.Proofs.Ytchhdafgmifhdaa.CrcL Go.Proofs.Ytchhdafgmifhdaa.CrcA Go.Proofs.Ytchhdafgmifhdaa.CrcB Go.Proofs.Ytchhdafgmifhdaa.PCowLays Go.Proofs.YtchhdafgmifhdaaW.PrintWords Go.Proofs.YtchhdafgmifhdaaW.PrintLast Go.Proofs.YtchhdafgmifhdaaW.PrintMore Go.Proofs.Ytchhdafgmifhdaa.CatL Go.Proofs.Ytchhdafgmifhdaa.PtrA Go.Proofs.Ytchhdafgmifhdaa.PtrB Go.Proofs.Ytchhdafgmifhdaa.PtrE Go.Proofs.Ytchhdafgmifhdaa.OfA Go.Proofs.Ytchhdafgmifhdaa.ExtL Go.Proofs.Ytchhdafgmifhdaa.ExtA Go.Proofs.Ytchhdafgmifhdaa.DskA Go.Proofs.Ytchhdafgmifhdaa.DskB Go.Proofs.Ytchhdafgmifhdaa.DskC Go.Proofs.Ytchhdafgmifhdaa.AlcA Go.Proofs.Ytchhdafgmifhdaa.AlcB Go.Proofs.Ytchhdafgmifhdaa.AlcC Go.Proofs.Ytchhdafgmifhdaa.AlcD Go.Proofs.Ytchhdafgmifhdaa.AlcE Go.Proofs.Ytchhdafgmifhdaa.AlcF Go.Proofs.Ytchhdafgmifhdaa.SpnA Go.Proofs.Ytchhdafgmifhdaa.BlkA Go.Proofs.Ytchhdafgmifhdaa.BlkB Go.Proofs.Ytchhdafgmifhdaa.PoolA Go.Proofs.Ytchhdafgmifhdaa.PoolB Go.Proofs.Ytchhdafgmifhdaa.ShaK Go.Proofs.Ytchhdafgmifhdaa.ExtF Go.Proofs.Ytchhdafgmifhdaa.ExtG Go.Proofs.Ytchhdafgmifhdaa.ExtE Go.Proofs.Ytchhdafgmifhdaa.ExtD Go.Proofs.Ytchhdafgmifhdaa.AlcG Go.Proofs.Ytchhdafgmifhdaa.AlcH Go.Proofs.Ytchhdafgmifhdaa.KpA Go.Proofs.Ytchhdafgmifhdaa.PoolC Go.Proofs.Ytchhdafgmifhdaa.LawA
set_option linter.unusedVariables false
set_option linter.unusedSimpArgs false
set_option maxRecDepth 100000 in
set_option maxHeartbeats 8000000 in
theorem law_odd (A : Option Addr) (c n : Nat) (L : List Int) (x : Int) (w : World) (hr : C8 w A n L) (hb : Byt L) (hnc : n ≤ c) (h1 : 1 ≤ n) (h2 : n ≤ 5000) (hx : bits .and .i64 x 1 = 1) :
    Calls Try.prog 3 #[.slice A n c, .int .i64 x] w (fun e w' => e = .returned (.bool true) ∧ Below w.heap.size w w') := by
  obtain ⟨P, hP⟩ : ∃ P : Ending → World → Prop, P = fun e w' => e = .returned (.bool true) ∧ Below w.heap.size w w' := ⟨_, rfl⟩
  rw [← hP]
  have HP := Aside0.mk hP
  clear hP
  have d0 : decide ((n : Int) > 5000) = false := decide_eq_false (by omega)
  have d0' : decide (5000 < (n : Int)) = false := decide_eq_false (by omega)
  obtain ⟨L2, hL2⟩ : ∃ L2, L2 = L := ⟨_, rfl⟩
  obtain ⟨n2, hn2⟩ : ∃ n2, n2 = n := ⟨_, rfl⟩
  have HR := Aside0.mk (show C8 w A n2 L2 ∧ Byt L2 ∧ n2 ≤ c by rw [hn2, hL2]; exact ⟨hr, hb, hnc⟩)
  have HN2 := Aside0.mk (show 1 ≤ n2 ∧ n2 ≤ 5000 by omega)
  have HNE := Aside0.mk hn2
  obtain ⟨k, hk⟩ : ∃ k : Nat, (k : Int) = sect (n2 : Int) := ⟨(sect (n2 : Int)).toNat, by have := sect_bound (n2 : Int); omega⟩
  have hk10 : 1 ≤ k ∧ k ≤ 10 := by
    unfold sect at hk
    rw [if_neg (by omega)] at hk
    omega
  have HK := Aside0.mk (And.intro hk hk10)
  have HL := Aside0.mk (lays10 k hk10.1 hk10.2)
  clear hr hb hL2 hk hk10 
  go_enter Try.func3, Try.ntmps3
  go_wp2_with fail
  refine (fresh4 40 (by omega) (by omega) w).mono ?_
  rintro e W1 ⟨p, d, m, a, mw, rfl, hp, hm, ha, hmw, hpo, hb1⟩
  have HB1 := Aside0.mk hb1
  have H1 := Aside0.mk (PO_ep hpo 5)
  have HNW := Aside0.mk (And.intro hp (And.intro hm ha))
  have HMW0 := Aside0.mk hmw
  have p2 : W1.cell? ⟨p, 2, none⟩ = some (.int .i64 1) := by rw [cell_of_row _ _ 2 _ 29 (0, 0) hpo.blk]; rfl
  have f2 : W1.frozen? ⟨p, 2, none⟩ = false := frozen_of_row _ _ 2 _ 29 hpo.blk
  have HB2 := Aside0.mk (show Below w.heap.size w (W1.setCell ⟨p, 2, none⟩ (.int .i64 5)) from hb1.setCell hp _)
  clear hb1 hp hm ha hmw hpo
  go_wp2_with fail
  clear p2 f2
  generalize hW2 : W1.setCell ⟨p, 2, none⟩ (.int .i64 5) = W2 at *
  clear hW2
  clear hnc h1 h2
  subst hn2
  refine (lay5 p d m a mw 40 2 40 0 [(2, 40)] 5 _ A n2 c L2 W2 H1.out (by omega) (by omega) (fun W' hk' => ?_) HR.out.2.1 HR.out.2.2 HN2.out.1 (by have := HN2.out; omega) (by omega) (by omega) k HK.out.1 2 HL.out.find (by omega) (by have := HK.out; omega) (by omega) (by rw [tot40]; have := HK.out; omega) (by rw [HL.out.rem]; exact vs40 _ (by omega) (by have := HK.out; omega)) (by rw [HL.out.rem]; simp) (by rw [HL.out.rem, tot40]; have := HK.out; omega)).mono ?_
  · refine Kcells HR.out.1 (fun _ _ h => h) (fun ad q v _ _ hc => ?_)
    have hlt := World.block_lt_of_cell? w q hc
    have h3 := HNW.out
    exact cell_kept ((HB2.out.cell hlt).trans hc) hk' (by omega)
  rintro e W3 ⟨he, hkb3, hpo3⟩
  obtain ⟨r, hrr⟩ : ∃ r, r = encP (ofP 2 5 L2) := ⟨_, rfl⟩
  rw [← hrr] at he
  subst he
  have HRR := Aside0.mk (show PC r (ofP 2 5 L2) ∧ r.size = 36 ∧ r.all (·.oneCell') = true ∧ r = encP (ofP 2 5 L2) by rw [hrr]; exact ⟨pc _ (ShaE.shaL_len L2), encP_size (ShaE.shaL_len L2), encP_one _, rfl⟩)
  have HB3 := Aside0.mk (show Below w.heap.size w W3 from (KB.of_below (S := fun k => k = m ∨ k = a) (w := W2) (w' := W2) (Below.refl _ _) |>.then_ hkb3 (fun k hk => .inl hk)) |> fun h => HB2.out.trans (KB.to_below h (fun k hk => by have := HNW.out; omega) HB2.out.size))
  rw [HL.out.rem] at hpo3
  have H3 := Aside0.mk hpo3
  obtain ⟨z, hz, hz1, hal⟩ := zero33
  have hal3 := hal W3
  have HZS := Aside0.mk (And.intro hz hz1)
  have HAL := Aside0.mk hal
  have HZ3 := Aside0.mk (blk_new W3 (.cells z 33))
  have hn0 : ((n2 : Int) == 0) = false := by rw [beq_eq_false_iff_ne]; have := HN2.out; omega
  clear hrr hkb3 hpo3 hz hz1 hal
  go_wp2_with (refine wpList_store_row rfl 33 (.tmp 6) (.tmp 25) rfl W3.heap.size r rfl rfl 33 z HZ3.out (by rw [i33, HRR.out.2.1]) (by rw [HRR.out.2.1, HZS.out.1]) HRR.out.2.2.1 ?_)
  have HG4 := Aside0.mk (setRow_heap (W3.alloc (.cells z 33)) W3.heap.size z r 33 _ HZ3.out)
  have H4 := Aside0.mk (PO_row (H3.out.below (below_alloc (Below.refl _ _) (.cells z 33))) HZ3.out r)
  have HB4 := Aside0.mk (show Below w.heap.size w ((W3.alloc (.cells z 33)).setRow W3.heap.size r) from below_setRow (HB3.out.trans ((below_alloc (Below.refl W3.heap.size W3) _).mono HB3.out.size)) HB3.out.size _)
  obtain ⟨g, hg⟩ : ∃ g, g = W3.heap.size := ⟨_, rfl⟩
  have HGE := Aside0.mk (show w.heap.size ≤ g ∧ p < g by rw [hg]; exact ⟨HB3.out.size, H3.out.lt⟩)
  generalize hW4 : (W3.alloc (.cells z 33)).setRow W3.heap.size r = W4 at *
  clear hW4
  rw [← hg] at *
  clear hg hal3 HZ3 HB3 H3
  have hp4 : p < W4.heap.size := H4.out.lt
  have hg4 : g < W4.heap.size := blk_lt HG4.out
  have P1 := Aside0.mk (show W4.cell? ⟨p, 1, none⟩ = some (.pointer (some ⟨a, 0, none⟩)) by rw [cell_of_row _ _ 1 _ 29 (0, 0) H4.out.blk]; rfl)
  have X1 := Aside0.mk (show W4.cell? ⟨g, 1, none⟩ = some (.int .i64 5) by rw [cell_of_row _ _ 1 _ 33 (0, 0) HG4.out]; exact HRR.out.1.c1)
  have X2 := Aside0.mk (show W4.cell? ⟨g, 2, none⟩ = some (.int .i64 (n2 : Int)) by rw [cell_of_row _ _ 2 _ 33 (0, 0) HG4.out]; exact HRR.out.1.c2.trans (by rw [show (ofP 2 5 L2).len = (n2 : Int) from by show (L2.length : Int) = _; rw [HR.out.1.1]]))
  refine wp_region_held_drew (S := fun w' => Below W4.heap.size W4 w') (by kernel_rfl) (below_drew (Below.refl _ _)) (fun hW => ?_)
  have WDB := Aside0.mk (show Below W4.heap.size W4 W4.drew from below_drew (Below.refl _ _))
  generalize hWd : W4.drew = W5 at *
  clear hWd
  refine wpAnyH_take (i := 0) (oi := ⟨some 48, _, _, _, _, _⟩) (v := .int .i64 0) rfl (by kernel_rfl) (by kernel_rfl) (by kernel_rfl) (fun _ _ _ h => h) (.inl ⟨by rfl, fun W1 h1 => by go_simp⟩) hW ?_
  try simp only [Act.put, List.setIfInBounds_toArray, List.set_cons_zero, List.set_cons_succ]
  refine wpAnyH_take (i := 1) (oi := ⟨some 49, _, _, _, _, _⟩) (v := .bool false) rfl (by kernel_rfl) (by kernel_rfl) (by kernel_rfl) (fun _ _ _ h => h) (.inl ⟨by rfl, fun W1 h1 => by go_simp⟩) hW ?_
  try simp only [Act.put, List.setIfInBounds_toArray, List.set_cons_zero, List.set_cons_succ]
  refine wpAnyH_take (i := 2) (oi := ⟨some 50, _, _, _, _, _⟩) (v := .bool false) rfl (by kernel_rfl) (by kernel_rfl) (by kernel_rfl) (fun _ _ _ h => h) (.inl ⟨by rfl, fun W1 h1 => by go_simp⟩) hW ?_
  try simp only [Act.put, List.setIfInBounds_toArray, List.set_cons_zero, List.set_cons_succ]
  refine wpAnyH_take (i := 3) (oi := ⟨some 51, _, _, _, _, _⟩) (v := .pointer (some ⟨g, 1, none⟩)) rfl (by kernel_rfl) (by kernel_rfl) (by kernel_rfl) (fun _ _ _ h => h) (.inl ⟨by rfl, fun W1 h1 => by go_simp⟩) hW ?_
  try simp only [Act.put, List.setIfInBounds_toArray, List.set_cons_zero, List.set_cons_succ]
  refine wpAnyH_take (i := 4) (oi := ⟨some 52, _, _, _, _, _⟩) (v := .int .i64 5) rfl (by kernel_rfl) (by kernel_rfl) (by kernel_rfl) (fun _ _ _ h => h) (.inl ⟨by rfl, fun W1 h1 => by have h2 := (Below.cell (p := ⟨g, 1, none⟩) h1 hg4).trans X1.out; clear h1; go_simp⟩) hW ?_
  try simp only [Act.put, List.setIfInBounds_toArray, List.set_cons_zero, List.set_cons_succ]
  refine wpAnyH_take (i := 5) (oi := ⟨some 53, _, _, _, _, _⟩) (v := .bool false) rfl (by kernel_rfl) (by kernel_rfl) (by kernel_rfl) (fun _ _ _ h => h) (.inl ⟨by rfl, fun W1 h1 => by go_simp⟩) hW ?_
  try simp only [Act.put, List.setIfInBounds_toArray, List.set_cons_zero, List.set_cons_succ]
  refine wpAnyH_take (i := 6) (oi := ⟨some 54, _, _, _, _, _⟩) (v := .bool false) rfl (by kernel_rfl) (by kernel_rfl) (by kernel_rfl) (fun _ _ _ h => h) (.inl ⟨by rfl, fun W1 h1 => by go_simp⟩) hW ?_
  try simp only [Act.put, List.setIfInBounds_toArray, List.set_cons_zero, List.set_cons_succ]
  refine wpAnyH_take (i := 7) (oi := ⟨some 55, _, _, _, _, _⟩) (v := .bool false) rfl (by kernel_rfl) (by kernel_rfl) (by kernel_rfl) (fun _ _ _ h => h) (.inl ⟨by rfl, fun W1 h1 => by go_simp⟩) hW ?_
  try simp only [Act.put, List.setIfInBounds_toArray, List.set_cons_zero, List.set_cons_succ]
  refine wpAnyH_take (i := 8) (oi := ⟨some 56, _, _, _, _, _⟩) (v := .pointer (some ⟨g, 2, none⟩)) rfl (by kernel_rfl) (by kernel_rfl) (by kernel_rfl) (fun _ _ _ h => h) (.inl ⟨by rfl, fun W1 h1 => by go_simp⟩) hW ?_
  try simp only [Act.put, List.setIfInBounds_toArray, List.set_cons_zero, List.set_cons_succ]
  refine wpAnyH_take (i := 9) (oi := ⟨some 57, _, _, _, _, _⟩) (v := .int .i64 (n2 : Int)) rfl (by kernel_rfl) (by kernel_rfl) (by kernel_rfl) (fun _ _ _ h => h) (.inl ⟨by rfl, fun W1 h1 => by have h2 := (Below.cell (p := ⟨g, 2, none⟩) h1 hg4).trans X2.out; clear h1; go_simp⟩) hW ?_
  try simp only [Act.put, List.setIfInBounds_toArray, List.set_cons_zero, List.set_cons_succ]
  refine wpAnyH_take (i := 10) (oi := ⟨some 58, _, _, _, _, _⟩) (v := .slice A n2 c) rfl (by kernel_rfl) (by kernel_rfl) (by kernel_rfl) (fun _ _ _ h => h) (.inl ⟨by rfl, fun W1 h1 => by go_simp⟩) hW ?_
  try simp only [Act.put, List.setIfInBounds_toArray, List.set_cons_zero, List.set_cons_succ]
  refine wpAnyH_take (i := 11) (oi := ⟨some 59, _, _, _, _, _⟩) (v := .int .i64 (n2 : Int)) rfl (by kernel_rfl) (by kernel_rfl) (by kernel_rfl) (fun _ _ _ h => h) (.inl ⟨by rfl, fun W1 h1 => by go_simp⟩) hW ?_
  try simp only [Act.put, List.setIfInBounds_toArray, List.set_cons_zero, List.set_cons_succ]
  refine wpAnyH_take (i := 12) (oi := ⟨some 60, _, _, _, _, _⟩) (v := .bool false) rfl (by kernel_rfl) (by kernel_rfl) (by kernel_rfl) (fun _ _ _ h => h) (.inl ⟨by rfl, fun W1 h1 => by go_simp⟩) hW ?_
  try simp only [Act.put, List.setIfInBounds_toArray, List.set_cons_zero, List.set_cons_succ]
  refine wpAnyH_take (i := 13) (oi := ⟨some 61, _, _, _, _, _⟩) (v := .bool false) rfl (by kernel_rfl) (by kernel_rfl) (by kernel_rfl) (fun _ _ _ h => h) (.inl ⟨by rfl, fun W1 h1 => by go_simp⟩) hW ?_
  try simp only [Act.put, List.setIfInBounds_toArray, List.set_cons_zero, List.set_cons_succ]
  refine wpAnyH_take (i := 14) (oi := ⟨some 62, _, _, _, _, _⟩) (v := .bool false) rfl (by kernel_rfl) (by kernel_rfl) (by kernel_rfl) (fun _ _ _ h => h) (.inl ⟨by rfl, fun W1 h1 => by go_simp⟩) hW ?_
  try simp only [Act.put, List.setIfInBounds_toArray, List.set_cons_zero, List.set_cons_succ]
  refine wpAnyH_take (i := 15) (oi := ⟨some 63, _, _, _, _, _⟩) (v := .pointer (some ⟨p, 0, none⟩)) rfl (by kernel_rfl) (by kernel_rfl) (by kernel_rfl) (fun _ _ _ h => h) (.inl ⟨by rfl, fun W1 h1 => by go_simp⟩) hW ?_
  try simp only [Act.put, List.setIfInBounds_toArray, List.set_cons_zero, List.set_cons_succ]
  refine wpAnyH_take (i := 16) (oi := ⟨some 64, _, _, _, _, _⟩) (v := .pointer (some ⟨p, 0, none⟩)) rfl (by kernel_rfl) (by kernel_rfl) (by kernel_rfl) (fun _ _ _ h => h) (.inl ⟨by rfl, fun W1 h1 => by go_simp⟩) hW ?_
  try simp only [Act.put, List.setIfInBounds_toArray, List.set_cons_zero, List.set_cons_succ]
  refine wpAnyH_take (i := 17) (oi := ⟨some 65, _, _, _, _, _⟩) (v := .pointer (some ⟨p, 1, none⟩)) rfl (by kernel_rfl) (by kernel_rfl) (by kernel_rfl) (fun _ _ _ h => h) (.inl ⟨by rfl, fun W1 h1 => by go_simp⟩) hW ?_
  try simp only [Act.put, List.setIfInBounds_toArray, List.set_cons_zero, List.set_cons_succ]
  refine wpAnyH_take (i := 18) (oi := ⟨some 66, _, _, _, _, _⟩) (v := .pointer (some ⟨a, 0, none⟩)) rfl (by kernel_rfl) (by kernel_rfl) (by kernel_rfl) (fun _ _ _ h => h) (.inl ⟨by rfl, fun W1 h1 => by have h2 := (Below.cell (p := ⟨p, 1, none⟩) h1 hp4).trans P1.out; clear h1; go_simp⟩) hW ?_
  try simp only [Act.put, List.setIfInBounds_toArray, List.set_cons_zero, List.set_cons_succ]
  refine wpAnyH_take (i := 20) (oi := ⟨some 68, _, _, _, _, _⟩) (v := .agg r) rfl (by kernel_rfl) (by kernel_rfl) (by kernel_rfl) (fun _ _ _ h => h) (yields_row (by rfl) 33 _ rfl (g) rfl 33 r (0, 0) _ (fun w1 h1 => blk_below HG4.out h1) underl56 rfl (by rw [i33, HRR.out.2.1])) hW ?_
  try simp only [Act.put, List.setIfInBounds_toArray, List.set_cons_zero, List.set_cons_succ]
  refine wpAnyH_ready (rs := [19]) (by kernel_rfl) (by simp) (AllReadyH.cons rfl (fun K1 hK1 => ?_) AllReadyH.nil)
  go_simp
  refine (used6 a mw 2 40 0 _ _ (H4.out.alc.below hW)).mono ?_
  rintro e WT ⟨he, hb⟩
  rw [tot40, show (40 : Int) - 2 - (40 - (2 + (k : Int))) = k by omega] at he
  subst he
  refine hK1.out _ _ (hW.trans (hb.mono hW.size)) (fun hW => ?_)
  try simp only [Act.put, List.setIfInBounds_toArray, List.set_cons_zero, List.set_cons_succ]
  clear hb
  refine wpAnyH_ready (rs := [21]) (by kernel_rfl) (by simp) (AllReadyH.cons rfl (fun K2 hK2 => ?_) AllReadyH.nil)
  go_simp
  refine (sectors_calls r _ HRR.out.1 _).mono ?_
  rintro e WT2 ⟨he, hb⟩
  rw [show sect (Ptr.len (ofP 2 5 L2)) = (k : Int) from by rw [show (ofP 2 5 L2).len = (n2 : Int) from by show (L2.length : Int) = _; rw [HR.out.1.1], HK.out.1]] at he
  subst he
  refine hK2.out _ _ (hW.trans (hb.mono hW.size)) (fun hW => ?_)
  try simp only [Act.put, List.setIfInBounds_toArray, List.set_cons_zero, List.set_cons_succ]
  clear hb
  refine wpAnyH_take (i := 22) (oi := ⟨some 70, _, _, _, _, _⟩) (v := .bool false) rfl (by kernel_rfl) (by kernel_rfl) (by kernel_rfl) (fun _ _ _ h => h) (.inl ⟨by rfl, fun W1 h1 => by go_simp⟩) hW ?_
  try simp only [Act.put, List.setIfInBounds_toArray, List.set_cons_zero, List.set_cons_succ]
  refine wpAnyH_take (i := 23) (oi := ⟨some 71, _, _, _, _, _⟩) (v := .bool false) rfl (by kernel_rfl) (by kernel_rfl) (by kernel_rfl) (fun _ _ _ h => h) (.inl ⟨by rfl, fun W1 h1 => by go_simp⟩) hW ?_
  try simp only [Act.put, List.setIfInBounds_toArray, List.set_cons_zero, List.set_cons_succ]
  refine wpAnyH_done (by kernel_rfl) ?_ _
  clear hK1 hK2 K1 K2
  have HB6 := Aside0.mk (HB4.out.trans (hW.mono HB4.out.size))
  have H6 := Aside0.mk (H4.out.below hW)
  have HG6 := Aside0.mk (blk_below HG4.out hW)
  clear hW P1 X1 X2 HB4 H4 HG4 hp4 hg4 WDB
  generalize hW6 : WT2 = W6 at *
  clear hW6
  have HRT := Aside0.mk (show Right (ofP 2 5 L2) ∧ (k : Int) = sect (ofP 2 5 L2).len from by
    have hl : (ofP 2 5 L2).len = (n2 : Int) := by show (L2.length : Int) = _; rw [HR.out.1.1]
    have h1 := HK.out
    refine ⟨⟨?_, ?_, ?_, ?_, ?_⟩, by rw [hl]; exact h1.1⟩
    · show (1 : Int) ≤ 5; omega
    · show (5 : Int) ≤ _; omega
    · rw [hl, ← h1.1]; omega
    · show (2 : Int) ≤ 2; omega
    · rw [hl, ← h1.1]; show (2 : Int) ≤ _; omega)
  have p2 : W6.cell? ⟨p, 2, none⟩ = some (.int .i64 5) := by rw [cell_of_row _ _ 2 _ 29 (0, 0) H6.out.blk]; rfl
  have f2 : W6.frozen? ⟨p, 2, none⟩ = false := frozen_of_row _ _ 2 _ 29 H6.out.blk
  have H7 := Aside0.mk (PO_ep H6.out 6)
  have HB7 := Aside0.mk (show Below w.heap.size w (W6.setCell ⟨p, 2, none⟩ (.int .i64 6)) from HB6.out.setCell HNW.out.1 _)
  have HG7 := Aside0.mk (show (W6.setCell ⟨p, 2, none⟩ (.int .i64 6)).heap[g]? = some (.cells r 33 (0, 0)) from (Below.heap_setCell W6 ⟨p, 2, none⟩ _ g (by show g ≠ p; have := HGE.out; omega)).trans HG6.out)
  go_wp2_with fail
  generalize hW7 : W6.setCell ⟨p, 2, none⟩ (.int .i64 6) = W7 at *
  clear hW7 p2 f2 H6 HB6 HG6
  have P1 := Aside0.mk (show W7.cell? ⟨p, 1, none⟩ = some (.pointer (some ⟨a, 0, none⟩)) by rw [cell_of_row _ _ 1 _ 29 (0, 0) H7.out.blk]; rfl)
  have HGP := Aside0.mk (show ¬ (g = p ∨ g = mw) by
    rintro (rfl | rfl)
    · have := HGE.out; omega
    · obtain ⟨cl, h1⟩ := H7.out.alc.wait
      have := HG7.out
      rw [h1] at this
      cases this)
  have HPMW := Aside0.mk (show ¬ p = mw by
    rintro rfl
    obtain ⟨cl, h1⟩ := H7.out.alc.wait
    have := H7.out.blk
    rw [h1] at this
    cases this)
  have HMWW := Aside0.mk (show w.heap.size ≤ mw from HMW0.out)
  have HP7 := Aside0.mk (H7.out.lt)
  have X0 := Aside0.mk (show W7.cell? ⟨g, 0, none⟩ = some (.int .i64 2) by rw [cell_of_row _ _ 0 _ 33 (0, 0) HG7.out]; exact HRR.out.1.c0)
  have HYE := Aside0.mk (show ∀ (ops : Array Oper) (op : Oper) (a0 : Act), Region.wanted op (yielded ops a0.tmps) = true → op.op = .binOp .eql 33 (.tmp 122) (.tmp 123) 33 → a0.eval (.tmp 122) = .agg r → a0.eval (.tmp 123) = .agg r → YieldsIf Try.prog ops (fun w' => KB W7 w' (fun k => k = p ∨ k = mw) ∧ w'.cell? ⟨p, 1, none⟩ = some (.pointer (some ⟨a, 0, none⟩))) op (.bool true) a0 from fun ops op a0 hw ho hx hy => by
    have := yields_eql33 (ops := ops) (S := fun w' => KB W7 w' (fun k => k = p ∨ k = mw) ∧ w'.cell? ⟨p, 1, none⟩ = some (.pointer (some ⟨a, 0, none⟩))) hw (.tmp 122) (.tmp 123) 33 ho (ofP 2 5 L2) (ofP 2 5 L2) (ShaE.shaL_len L2) (ShaE.shaL_len L2) (by rw [hx, HRR.out.2.2.2]) (by rw [hy, HRR.out.2.2.2])
    simpa using this)
  obtain ⟨r0, hr0⟩ : ∃ r, r = encP zeroP := ⟨_, rfl⟩
  have HBE := Aside0.mk (show Try.prog.built 33 [] = some r0 by rw [hr0]; kernel_rfl)
  have HR0 := Aside0.mk (show PC r0 zeroP by rw [hr0]; exact pc _ (by simp [zeroP]))
  clear hr0
  refine wp_region_held_drew (S := fun w' => KB W7 w' (fun k => k = p ∨ k = mw) ∧ w'.cell? ⟨p, 1, none⟩ = some (.pointer (some ⟨a, 0, none⟩))) (by kernel_rfl) (⟨KB.of_below (below_drew (Below.refl _ _)) _, P1.out⟩) (fun hW => ?_)
  have WDB := Aside0.mk (show Below W7.heap.size W7 W7.drew from below_drew (Below.refl _ _))
  generalize hWd : W7.drew = Wd at *
  clear hWd
  refine wpAnyH_take (i := 0) (oi := ⟨some 104, _, _, _, _, _⟩) (v := .pointer (some ⟨p, 0, none⟩)) rfl (by kernel_rfl) (by kernel_rfl) (by kernel_rfl) (fun _ _ _ h => h) (.inl ⟨by rfl, fun W1 h1 => by go_simp⟩) hW ?_
  try simp only [Act.put, List.setIfInBounds_toArray, List.set_cons_zero, List.set_cons_succ]
  refine wpAnyH_take (i := 1) (oi := ⟨some 105, _, _, _, _, _⟩) (v := .agg r) rfl (by kernel_rfl) (by kernel_rfl) (by kernel_rfl) (fun _ _ _ h => h) (yields_row (by rfl) 33 _ rfl (g) rfl 33 r (0, 0) _ (fun w1 h1 => blk_kept HG7.out h1.1.kept HGP.out) underl56 rfl (by rw [i33, HRR.out.2.1])) hW ?_
  try simp only [Act.put, List.setIfInBounds_toArray, List.set_cons_zero, List.set_cons_succ]
  refine wpAnyH_ready (rs := [2]) (by kernel_rfl) (by simp) (AllReadyH.cons rfl (fun K1 hK1 => ?_) AllReadyH.nil)
  go_simp
  have hk8 := kill8_later p d m a mw 40 2 40 0 [(2 + (k : Int), 40)] 6 (ofP 2 5 L2) HRT.out.1 (ofP_ok 2 5 L2) (by show (5 : Int) ≠ 6; omega) Wd (H7.out.below WDB.out) (by omega) (by omega)
  rw [← HRR.out.2.2.2] at hk8
  refine hk8.mono ?_
  rintro e W8 ⟨rfl, hkb, kv, hpo, hkv⟩
  obtain ⟨A8, kc, hv, hlc, hc8⟩ := Kd.R_reads hkv
  subst hv
  obtain ⟨kb, ko, hA8, hkb8, hrg⟩ := CP_at hc8 (by simp)
  subst hA8
  have HRG := Aside0.mk (show W8.rangeAt kb ko r.toList by
    have h0 := (hrg 0 (by simp)).2
    rw [HRR.out.2.2.2]
    simpa using h0)
  have H8 := Aside0.mk hpo
  have HK8 := Aside0.mk (KB.of_below WDB.out (fun k => k = p) |>.then_ hkb (fun k hk => .inl hk))
  have HLC := Aside0.mk (show 1 ≤ kc from hlc)
  refine hK1.out _ _ (⟨hW.1.then_ hkb (fun k hk => .inl (.inl hk)), by rw [cell_of_row _ _ 1 _ 29 (0, 0) hpo.blk]; rfl⟩) (fun hW => ?_)
  try simp only [Act.put, List.setIfInBounds_toArray, List.set_cons_zero, List.set_cons_succ]
  clear hk8 hkb hkv hlc hc8 hkb8 hrg hpo
  refine wpAnyH_take (i := 3) (oi := ⟨some 107, _, _, _, _, _⟩) (v := .bool true) rfl (by kernel_rfl) (by kernel_rfl) (by kernel_rfl) (fun _ _ _ h => h) (.inl ⟨by rfl, fun W1 h1 => by go_simp⟩) hW ?_
  try simp only [Act.put, List.setIfInBounds_toArray, List.set_cons_zero, List.set_cons_succ]
  refine wpAnyH_take (i := 4) (oi := ⟨some 108, _, _, _, _, _⟩) (v := .bool true) rfl (by kernel_rfl) (by kernel_rfl) (by kernel_rfl) (fun _ _ _ h => h) (.inl ⟨by rfl, fun W1 h1 => by go_simp⟩) hW ?_
  try simp only [Act.put, List.setIfInBounds_toArray, List.set_cons_zero, List.set_cons_succ]
  refine wpAnyH_take (i := 5) (oi := ⟨some 109, _, _, _, _, _⟩) (v := .pointer (some ⟨p, 0, none⟩)) rfl (by kernel_rfl) (by kernel_rfl) (by kernel_rfl) (fun _ _ _ h => h) (.inl ⟨by rfl, fun W1 h1 => by go_simp⟩) hW ?_
  try simp only [Act.put, List.setIfInBounds_toArray, List.set_cons_zero, List.set_cons_succ]
  refine wpAnyH_take (i := 6) (oi := ⟨some 110, _, _, _, _, _⟩) (v := .pointer (some ⟨p, 0, none⟩)) rfl (by kernel_rfl) (by kernel_rfl) (by kernel_rfl) (fun _ _ _ h => h) (.inl ⟨by rfl, fun W1 h1 => by go_simp⟩) hW ?_
  try simp only [Act.put, List.setIfInBounds_toArray, List.set_cons_zero, List.set_cons_succ]
  refine wpAnyH_take (i := 7) (oi := ⟨some 111, _, _, _, _, _⟩) (v := .pointer (some ⟨p, 4, none⟩)) rfl (by kernel_rfl) (by kernel_rfl) (by kernel_rfl) (fun _ _ _ h => h) (.inl ⟨by rfl, fun W1 h1 => by go_simp⟩) hW ?_
  try simp only [Act.put, List.setIfInBounds_toArray, List.set_cons_zero, List.set_cons_succ]
  refine wpAnyH_ready (rs := [8]) (by kernel_rfl) (by simp) (AllReadyH.cons rfl (fun K2 hK2 => ?_) AllReadyH.nil)
  have q4 : W8.cell? ⟨p, 4, none⟩ = some (.slice (some ⟨kb, ko, none⟩) 1 kc) := by rw [cell_of_row _ _ 4 _ 29 (0, 0) H8.out.blk]; rfl
  go_simp
  clear q4
  refine hK2.out _ _ (hW) (fun hW => ?_)
  try simp only [Act.put, List.setIfInBounds_toArray, List.set_cons_zero, List.set_cons_succ]
  refine wpAnyH_take (i := 9) (oi := ⟨some 113, _, _, _, _, _⟩) (v := .int .i64 1) rfl (by kernel_rfl) (by kernel_rfl) (by kernel_rfl) (fun _ _ _ h => h) (.inl ⟨by rfl, fun W1 h1 => by go_simp⟩) hW ?_
  try simp only [Act.put, List.setIfInBounds_toArray, List.set_cons_zero, List.set_cons_succ]
  refine wpAnyH_take (i := 10) (oi := ⟨some 114, _, _, _, _, _⟩) (v := .bool true) rfl (by kernel_rfl) (by kernel_rfl) (by kernel_rfl) (fun _ _ _ h => h) (.inl ⟨by rfl, fun W1 h1 => by go_simp⟩) hW ?_
  try simp only [Act.put, List.setIfInBounds_toArray, List.set_cons_zero, List.set_cons_succ]
  refine wpAnyH_take (i := 11) (oi := ⟨some 115, _, _, _, _, _⟩) (v := .bool true) rfl (by kernel_rfl) (by kernel_rfl) (by kernel_rfl) (fun _ _ _ h => h) (.inl ⟨by rfl, fun W1 h1 => by go_simp⟩) hW ?_
  try simp only [Act.put, List.setIfInBounds_toArray, List.set_cons_zero, List.set_cons_succ]
  refine wpAnyH_take (i := 12) (oi := ⟨some 116, _, _, _, _, _⟩) (v := .bool true) rfl (by kernel_rfl) (by kernel_rfl) (by kernel_rfl) (fun _ _ _ h => h) (.inl ⟨by rfl, fun W1 h1 => by go_simp⟩) hW ?_
  try simp only [Act.put, List.setIfInBounds_toArray, List.set_cons_zero, List.set_cons_succ]
  refine wpAnyH_take (i := 13) (oi := ⟨some 117, _, _, _, _, _⟩) (v := .pointer (some ⟨p, 0, none⟩)) rfl (by kernel_rfl) (by kernel_rfl) (by kernel_rfl) (fun _ _ _ h => h) (.inl ⟨by rfl, fun W1 h1 => by go_simp⟩) hW ?_
  try simp only [Act.put, List.setIfInBounds_toArray, List.set_cons_zero, List.set_cons_succ]
  refine wpAnyH_take (i := 14) (oi := ⟨some 118, _, _, _, _, _⟩) (v := .pointer (some ⟨p, 0, none⟩)) rfl (by kernel_rfl) (by kernel_rfl) (by kernel_rfl) (fun _ _ _ h => h) (.inl ⟨by rfl, fun W1 h1 => by go_simp⟩) hW ?_
  try simp only [Act.put, List.setIfInBounds_toArray, List.set_cons_zero, List.set_cons_succ]
  refine wpAnyH_take (i := 15) (oi := ⟨some 119, _, _, _, _, _⟩) (v := .pointer (some ⟨p, 4, none⟩)) rfl (by kernel_rfl) (by kernel_rfl) (by kernel_rfl) (fun _ _ _ h => h) (.inl ⟨by rfl, fun W1 h1 => by go_simp⟩) hW ?_
  try simp only [Act.put, List.setIfInBounds_toArray, List.set_cons_zero, List.set_cons_succ]
  refine wpAnyH_take (i := 19) (oi := ⟨some 123, _, _, _, _, _⟩) (v := .agg r) rfl (by kernel_rfl) (by kernel_rfl) (by kernel_rfl) (fun _ _ _ h => h) (yields_row (by rfl) 33 _ rfl (g) rfl 33 r (0, 0) _ (fun w1 h1 => blk_kept HG7.out h1.1.kept HGP.out) underl56 rfl (by rw [i33, HRR.out.2.1])) hW ?_
  try simp only [Act.put, List.setIfInBounds_toArray, List.set_cons_zero, List.set_cons_succ]
  refine wpAnyH_ready (rs := [16]) (by kernel_rfl) (by simp) (AllReadyH.cons rfl (fun K3 hK3 => ?_) AllReadyH.nil)
  have q4 : W8.cell? ⟨p, 4, none⟩ = some (.slice (some ⟨kb, ko, none⟩) 1 kc) := by rw [cell_of_row _ _ 4 _ 29 (0, 0) H8.out.blk]; rfl
  go_simp
  clear q4
  refine hK3.out _ _ (hW) (fun hW => ?_)
  try simp only [Act.put, List.setIfInBounds_toArray, List.set_cons_zero, List.set_cons_succ]
  refine wpAnyH_take (i := 17) (oi := ⟨some 121, _, _, _, _, _⟩) (v := .pointer (some ⟨kb, ko, none⟩)) rfl (by kernel_rfl) (by kernel_rfl) (by kernel_rfl) (fun _ _ _ h => h) (.inl ⟨by rfl, fun W1 h1 => by go_simp⟩) hW ?_
  try simp only [Act.put, List.setIfInBounds_toArray, List.set_cons_zero, List.set_cons_succ]
  refine wpAnyH_ready (rs := [18]) (by kernel_rfl) (by simp) (AllReadyH.cons rfl (fun K4 hK4 => ?_) AllReadyH.nil)
  refine wp_load_mid (op := ⟨some 122, _, _, _, _, _⟩) 33 (.tmp 121) rfl kb ko rfl r.toList _ HRG.out underl56 rfl (by rw [i33, Array.length_toList, HRR.out.2.1]) ?_
  rw [Array.toArray_toList]
  refine hK4.out _ _ (hW) (fun hW => ?_)
  try simp only [Act.put, List.setIfInBounds_toArray, List.set_cons_zero, List.set_cons_succ]
  refine wpAnyH_take (i := 20) (oi := ⟨some 124, _, _, _, _, _⟩) (v := .bool true) rfl (by kernel_rfl) (by kernel_rfl) (by kernel_rfl) (fun _ _ _ h => h) (HYE.out _ _ _ (by rfl) rfl rfl rfl) hW ?_
  try simp only [Act.put, List.setIfInBounds_toArray, List.set_cons_zero, List.set_cons_succ]
  refine wpAnyH_take (i := 21) (oi := ⟨some 125, _, _, _, _, _⟩) (v := .bool true) rfl (by kernel_rfl) (by kernel_rfl) (by kernel_rfl) (fun _ _ _ h => h) (.inl ⟨by rfl, fun W1 h1 => by go_simp⟩) hW ?_
  try simp only [Act.put, List.setIfInBounds_toArray, List.set_cons_zero, List.set_cons_succ]
  refine wpAnyH_take (i := 22) (oi := ⟨some 126, _, _, _, _, _⟩) (v := .bool true) rfl (by kernel_rfl) (by kernel_rfl) (by kernel_rfl) (fun _ _ _ h => h) (.inl ⟨by rfl, fun W1 h1 => by go_simp⟩) hW ?_
  try simp only [Act.put, List.setIfInBounds_toArray, List.set_cons_zero, List.set_cons_succ]
  refine wpAnyH_take (i := 23) (oi := ⟨some 127, _, _, _, _, _⟩) (v := .pointer (some ⟨p, 0, none⟩)) rfl (by kernel_rfl) (by kernel_rfl) (by kernel_rfl) (fun _ _ _ h => h) (.inl ⟨by rfl, fun W1 h1 => by go_simp⟩) hW ?_
  try simp only [Act.put, List.setIfInBounds_toArray, List.set_cons_zero, List.set_cons_succ]
  refine wpAnyH_take (i := 24) (oi := ⟨some 128, _, _, _, _, _⟩) (v := .pointer (some ⟨p, 0, none⟩)) rfl (by kernel_rfl) (by kernel_rfl) (by kernel_rfl) (fun _ _ _ h => h) (.inl ⟨by rfl, fun W1 h1 => by go_simp⟩) hW ?_
  try simp only [Act.put, List.setIfInBounds_toArray, List.set_cons_zero, List.set_cons_succ]
  refine wpAnyH_take (i := 25) (oi := ⟨some 129, _, _, _, _, _⟩) (v := .pointer (some ⟨p, 1, none⟩)) rfl (by kernel_rfl) (by kernel_rfl) (by kernel_rfl) (fun _ _ _ h => h) (.inl ⟨by rfl, fun W1 h1 => by go_simp⟩) hW ?_
  try simp only [Act.put, List.setIfInBounds_toArray, List.set_cons_zero, List.set_cons_succ]
  refine wpAnyH_take (i := 26) (oi := ⟨some 130, _, _, _, _, _⟩) (v := .pointer (some ⟨a, 0, none⟩)) rfl (by kernel_rfl) (by kernel_rfl) (by kernel_rfl) (fun _ _ _ h => h) (.inl ⟨by rfl, fun W1 h1 => by have h2 := h1.2; clear h1; go_simp⟩) hW ?_
  try simp only [Act.put, List.setIfInBounds_toArray, List.set_cons_zero, List.set_cons_succ]
  refine wpAnyH_take (i := 28) (oi := ⟨some 132, _, _, _, _, _⟩) (v := .agg r) rfl (by kernel_rfl) (by kernel_rfl) (by kernel_rfl) (fun _ _ _ h => h) (yields_row (by rfl) 33 _ rfl (g) rfl 33 r (0, 0) _ (fun w1 h1 => blk_kept HG7.out h1.1.kept HGP.out) underl56 rfl (by rw [i33, HRR.out.2.1])) hW ?_
  try simp only [Act.put, List.setIfInBounds_toArray, List.set_cons_zero, List.set_cons_succ]
  refine wpAnyH_ready (rs := [27]) (by kernel_rfl) (by simp) (AllReadyH.cons rfl (fun K5 hK5 => ?_) AllReadyH.nil)
  go_simp
  refine (used6 a mw 2 40 0 _ W8 H8.out.alc).mono ?_
  rintro e W9 ⟨he, hb⟩
  rw [tot40, show (40 : Int) - 2 - (40 - (2 + (k : Int))) = k by omega] at he
  subst he
  have HB9 := Aside0.mk hb
  refine hK5.out _ _ (⟨hW.1.below hb, (Below.cell (p := ⟨p, 1, none⟩) hb H8.out.lt).trans hW.2⟩) (fun hW => ?_)
  try simp only [Act.put, List.setIfInBounds_toArray, List.set_cons_zero, List.set_cons_succ]
  clear hb
  refine wpAnyH_ready (rs := [29]) (by kernel_rfl) (by simp) (AllReadyH.cons rfl (fun K6 hK6 => ?_) AllReadyH.nil)
  go_simp
  refine (sectors_calls r _ HRR.out.1 _).mono ?_
  rintro e W10 ⟨he, hb⟩
  rw [← HRT.out.2] at he
  subst he
  have HB10 := Aside0.mk (HB9.out.trans (hb.mono HB9.out.size))
  refine hK6.out _ _ (⟨hW.1.below hb, (Below.cell (p := ⟨p, 1, none⟩) hb (Nat.lt_of_lt_of_le H8.out.lt HB9.out.size)).trans hW.2⟩) (fun hW => ?_)
  try simp only [Act.put, List.setIfInBounds_toArray, List.set_cons_zero, List.set_cons_succ]
  clear hb
  refine wpAnyH_take (i := 30) (oi := ⟨some 134, _, _, _, _, _⟩) (v := .bool true) rfl (by kernel_rfl) (by kernel_rfl) (by kernel_rfl) (fun _ _ _ h => h) (.inl ⟨by rfl, fun W1 h1 => by go_simp⟩) hW ?_
  try simp only [Act.put, List.setIfInBounds_toArray, List.set_cons_zero, List.set_cons_succ]
  refine wpAnyH_take (i := 31) (oi := ⟨some 135, _, _, _, _, _⟩) (v := .bool true) rfl (by kernel_rfl) (by kernel_rfl) (by kernel_rfl) (fun _ _ _ h => h) (.inl ⟨by rfl, fun W1 h1 => by go_simp⟩) hW ?_
  try simp only [Act.put, List.setIfInBounds_toArray, List.set_cons_zero, List.set_cons_succ]
  refine wpAnyH_take (i := 32) (oi := ⟨some 136, _, _, _, _, _⟩) (v := .bool true) rfl (by kernel_rfl) (by kernel_rfl) (by kernel_rfl) (fun _ _ _ h => h) (.inl ⟨by rfl, fun W1 h1 => by go_simp⟩) hW ?_
  try simp only [Act.put, List.setIfInBounds_toArray, List.set_cons_zero, List.set_cons_succ]
  refine wpAnyH_take (i := 33) (oi := ⟨some 137, _, _, _, _, _⟩) (v := .pointer (some ⟨p, 0, none⟩)) rfl (by kernel_rfl) (by kernel_rfl) (by kernel_rfl) (fun _ _ _ h => h) (.inl ⟨by rfl, fun W1 h1 => by go_simp⟩) hW ?_
  try simp only [Act.put, List.setIfInBounds_toArray, List.set_cons_zero, List.set_cons_succ]
  refine wpAnyH_take (i := 34) (oi := ⟨some 138, _, _, _, _, _⟩) (v := .pointer (some ⟨p, 0, none⟩)) rfl (by kernel_rfl) (by kernel_rfl) (by kernel_rfl) (fun _ _ _ h => h) (.inl ⟨by rfl, fun W1 h1 => by go_simp⟩) hW ?_
  try simp only [Act.put, List.setIfInBounds_toArray, List.set_cons_zero, List.set_cons_succ]
  refine wpAnyH_take (i := 35) (oi := ⟨some 139, _, _, _, _, _⟩) (v := .pointer (some ⟨p, 1, none⟩)) rfl (by kernel_rfl) (by kernel_rfl) (by kernel_rfl) (fun _ _ _ h => h) (.inl ⟨by rfl, fun W1 h1 => by go_simp⟩) hW ?_
  try simp only [Act.put, List.setIfInBounds_toArray, List.set_cons_zero, List.set_cons_succ]
  refine wpAnyH_take (i := 36) (oi := ⟨some 140, _, _, _, _, _⟩) (v := .pointer (some ⟨a, 0, none⟩)) rfl (by kernel_rfl) (by kernel_rfl) (by kernel_rfl) (fun _ _ _ h => h) (.inl ⟨by rfl, fun W1 h1 => by have h2 := h1.2; clear h1; go_simp⟩) hW ?_
  try simp only [Act.put, List.setIfInBounds_toArray, List.set_cons_zero, List.set_cons_succ]
  refine wpAnyH_take (i := 37) (oi := ⟨some 141, _, _, _, _, _⟩) (v := .pointer (some ⟨g, 0, none⟩)) rfl (by kernel_rfl) (by kernel_rfl) (by kernel_rfl) (fun _ _ _ h => h) (.inl ⟨by rfl, fun W1 h1 => by go_simp⟩) hW ?_
  try simp only [Act.put, List.setIfInBounds_toArray, List.set_cons_zero, List.set_cons_succ]
  refine wpAnyH_take (i := 38) (oi := ⟨some 142, _, _, _, _, _⟩) (v := .int .i64 2) rfl (by kernel_rfl) (by kernel_rfl) (by kernel_rfl) (fun _ _ _ h => h) (.inl ⟨by rfl, fun W1 h1 => by have h2 := cell_kept X0.out h1.1.kept HGP.out; clear h1; go_simp⟩) hW ?_
  try simp only [Act.put, List.setIfInBounds_toArray, List.set_cons_zero, List.set_cons_succ]
  refine wpAnyH_take (i := 39) (oi := ⟨some 143, _, _, _, _, _⟩) (v := .pointer (some ⟨g, 0, none⟩)) rfl (by kernel_rfl) (by kernel_rfl) (by kernel_rfl) (fun _ _ _ h => h) (.inl ⟨by rfl, fun W1 h1 => by go_simp⟩) hW ?_
  try simp only [Act.put, List.setIfInBounds_toArray, List.set_cons_zero, List.set_cons_succ]
  refine wpAnyH_take (i := 40) (oi := ⟨some 144, _, _, _, _, _⟩) (v := .int .i64 2) rfl (by kernel_rfl) (by kernel_rfl) (by kernel_rfl) (fun _ _ _ h => h) (.inl ⟨by rfl, fun W1 h1 => by have h2 := cell_kept X0.out h1.1.kept HGP.out; clear h1; go_simp⟩) hW ?_
  try simp only [Act.put, List.setIfInBounds_toArray, List.set_cons_zero, List.set_cons_succ]
  refine wpAnyH_take (i := 41) (oi := ⟨some 145, _, _, _, _, _⟩) (v := .int .i64 3) rfl (by kernel_rfl) (by kernel_rfl) (by kernel_rfl) (fun _ _ _ h => h) (.inl ⟨by rfl, fun W1 h1 => by have h3 : IntKind.i64.wrap 3 = 3 := (by decide); have h4 : IntKind.i64.wrap (2 + 1) = 3 := (by decide); go_simp⟩) hW ?_
  try simp only [Act.put, List.setIfInBounds_toArray, List.set_cons_zero, List.set_cons_succ]
  refine wpAnyH_take (i := 42) (oi := ⟨some 146, _, _, _, _, _⟩) (v := .agg #[.int .i64 2, .int .i64 3]) rfl (by kernel_rfl) (by kernel_rfl) (by kernel_rfl) (fun _ _ _ h => h) (.inl ⟨by rfl, fun W1 h1 => by go_simp⟩) hW ?_
  try simp only [Act.put, List.setIfInBounds_toArray, List.set_cons_zero, List.set_cons_succ]
  refine wpAnyH_ready (rs := [43]) (by kernel_rfl) (by simp) (AllReadyH.cons rfl (fun K7 hK7 => ?_) AllReadyH.nil)
  go_simp
  have H10 := Aside0.mk (H8.out.below HB10.out)
  refine (later9 a mw 2 40 0 2 3 _ W10 H10.out.alc (by omega) (by omega) (by omega) HL.out.m3).mono ?_
  rintro e W11 ⟨rfl, hkb, hac, hwt⟩
  have HM11 := Aside0.mk (show ∀ A c, W10.heap[d]? = some (.cells #[.slice (some A) 40 c, .map (some m), .bool false, .int .i64 0, .bool false] 62 (0, 0)) → ¬ d = mw from fun A c hd e => by
    subst e
    obtain ⟨cl, h1⟩ := H10.out.alc.wait
    rw [h1] at hd
    cases hd)
  have H11 := Aside0.mk (show PW W11 p d m a mw 40 2 40 0 [(2 + (k : Int), 40)] [(2, 3)] 6 (.slice (some ⟨kb, ko, none⟩) 1 kc) from ⟨blk_kept H10.out.blk hkb.kept HPMW.out, DB_kept H10.out.disk hkb.kept HM11.out, hac, hwt⟩)
  refine hK7.out _ _ (⟨hW.1.then_ hkb (fun k hk => .inl (.inr hk)), cell_kept hW.2 hkb.kept HPMW.out⟩) (fun hW => ?_)
  try simp only [Act.put, List.setIfInBounds_toArray, List.set_cons_zero, List.set_cons_succ]
  clear hkb hac hwt
  refine wpAnyH_take (i := 44) (oi := ⟨some 148, _, _, _, _, _⟩) (v := .bool true) rfl (by kernel_rfl) (by kernel_rfl) (by kernel_rfl) (fun _ _ _ h => h) (.inl ⟨by rfl, fun W1 h1 => by go_simp⟩) hW ?_
  try simp only [Act.put, List.setIfInBounds_toArray, List.set_cons_zero, List.set_cons_succ]
  refine wpAnyH_take (i := 45) (oi := ⟨some 149, _, _, _, _, _⟩) (v := .bool true) rfl (by kernel_rfl) (by kernel_rfl) (by kernel_rfl) (fun _ _ _ h => h) (.inl ⟨by rfl, fun W1 h1 => by go_simp⟩) hW ?_
  try simp only [Act.put, List.setIfInBounds_toArray, List.set_cons_zero, List.set_cons_succ]
  refine wpAnyH_take (i := 46) (oi := ⟨some 150, _, _, _, _, _⟩) (v := .bool true) rfl (by kernel_rfl) (by kernel_rfl) (by kernel_rfl) (fun _ _ _ h => h) (.inl ⟨by rfl, fun W1 h1 => by go_simp⟩) hW ?_
  try simp only [Act.put, List.setIfInBounds_toArray, List.set_cons_zero, List.set_cons_succ]
  refine wpAnyH_take (i := 47) (oi := ⟨some 151, _, _, _, _, _⟩) (v := .pointer (some ⟨p, 0, none⟩)) rfl (by kernel_rfl) (by kernel_rfl) (by kernel_rfl) (fun _ _ _ h => h) (.inl ⟨by rfl, fun W1 h1 => by go_simp⟩) hW ?_
  try simp only [Act.put, List.setIfInBounds_toArray, List.set_cons_zero, List.set_cons_succ]
  refine wpAnyH_ready (rs := [48]) (by kernel_rfl) (by simp) (AllReadyH.cons rfl (fun K8 hK8 => ?_) AllReadyH.nil)
  refine wp_build_of (o := ⟨some 152, _, _, _, _, _⟩) 33 #[] rfl r0 (by simpa using HBE.out) ?_
  refine hK8.out _ _ (hW) (fun hW => ?_)
  try simp only [Act.put, List.setIfInBounds_toArray, List.set_cons_zero, List.set_cons_succ]
  refine wpAnyH_ready (rs := [49]) (by kernel_rfl) (by simp) (AllReadyH.cons rfl (fun K9 hK9 => ?_) AllReadyH.nil)
  go_simp
  refine (kill8_arg p d m a mw 40 2 40 0 _ _ 6 _ r0 zeroP HR0.out (by intro h; have := h.1; simp [zeroP] at this) W11 H11.out (by omega) (by omega) okW23 (by rw [tot23]; omega)).mono ?_
  rintro e W12 ⟨rfl, hb⟩
  have HP11 : p < W11.heap.size := blk_lt H11.out.blk
  refine hK9.out _ _ (⟨hW.1.below hb, (Below.cell (p := ⟨p, 1, none⟩) hb HP11).trans hW.2⟩) (fun hW => ?_)
  try simp only [Act.put, List.setIfInBounds_toArray, List.set_cons_zero, List.set_cons_succ]
  clear hb
  refine wpAnyH_take (i := 50) (oi := ⟨some 154, _, _, _, _, _⟩) (v := .bool true) rfl (by kernel_rfl) (by kernel_rfl) (by kernel_rfl) (fun _ _ _ h => h) (.inl ⟨by rfl, fun W1 h1 => by go_simp⟩) hW ?_
  try simp only [Act.put, List.setIfInBounds_toArray, List.set_cons_zero, List.set_cons_succ]
  refine wpAnyH_take (i := 51) (oi := ⟨some 155, _, _, _, _, _⟩) (v := .bool true) rfl (by kernel_rfl) (by kernel_rfl) (by kernel_rfl) (fun _ _ _ h => h) (.inl ⟨by rfl, fun W1 h1 => by go_simp⟩) hW ?_
  try simp only [Act.put, List.setIfInBounds_toArray, List.set_cons_zero, List.set_cons_succ]
  refine wpAnyH_take (i := 52) (oi := ⟨some 4, _, _, _, _, _⟩) (v := .bool true) rfl (by kernel_rfl) (by kernel_rfl) (by kernel_rfl) (fun _ _ _ h => h) (.inl ⟨by rfl, fun W1 h1 => by go_simp⟩) hW ?_
  try simp only [Act.put, List.setIfInBounds_toArray, List.set_cons_zero, List.set_cons_succ]
  refine wpAnyH_done (by kernel_rfl) ?_ _
  clear hK1 hK2 hK3 hK4 hK5 hK6 hK7 hK8 hK9 K1 K2 K3 K4 K5 K6 K7 K8 K9
  have HFIN := Aside0.mk (HB7.out.trans (hW.1.to_below (fun k hk => by have h1 := HNW.out; have h2 := HMWW.out; rcases hk with rfl | rfl <;> omega) HB7.out.size))
  clear hW
  go_wp2
  rw [HP.out]
  exact ⟨rfl, HFIN.out⟩
end Go.Proofs.Ytchhdafgmifhdaa.LawD
namespace Go.Proofs.Ytchhdafgmifhdaa.LawE
open Go.RowKit Go.Proofs.Ytchhdafgmifhdaa.B8 Go.Proofs.Ytchhdafgmifhdaa.Agg Go.Proofs.Ytchhdafgmifhdaa.CodL Go.Proofs.Ytchhdafgmifhdaa.CodA Go.Proofs.Ytchhdafgmifhdaa.CodB Go.Proofs.Ytchhdafgmifhdaa.CrcL Go.Proofs.Ytchhdafgmifhdaa.CrcA Go.Proofs.Ytchhdafgmifhdaa.CrcB Go.Proofs.Ytchhdafgmifhdaa.PCowLays Go.Proofs.YtchhdafgmifhdaaW.PrintWords Go.Proofs.YtchhdafgmifhdaaW.PrintLast Go.Proofs.YtchhdafgmifhdaaW.PrintMore Go.Proofs.Ytchhdafgmifhdaa.CatL Go.Proofs.Ytchhdafgmifhdaa.PtrA Go.Proofs.Ytchhdafgmifhdaa.PtrB Go.Proofs.Ytchhdafgmifhdaa.PtrE Go.Proofs.Ytchhdafgmifhdaa.OfA Go.Proofs.Ytchhdafgmifhdaa.ExtL Go.Proofs.Ytchhdafgmifhdaa.ExtA Go.Proofs.Ytchhdafgmifhdaa.DskA Go.Proofs.Ytchhdafgmifhdaa.DskB Go.Proofs.Ytchhdafgmifhdaa.DskC Go.Proofs.Ytchhdafgmifhdaa.AlcA Go.Proofs.Ytchhdafgmifhdaa.AlcB Go.Proofs.Ytchhdafgmifhdaa.AlcC Go.Proofs.Ytchhdafgmifhdaa.AlcD Go.Proofs.Ytchhdafgmifhdaa.AlcE Go.Proofs.Ytchhdafgmifhdaa.AlcF Go.Proofs.Ytchhdafgmifhdaa.SpnA Go.Proofs.Ytchhdafgmifhdaa.BlkA Go.Proofs.Ytchhdafgmifhdaa.BlkB Go.Proofs.Ytchhdafgmifhdaa.PoolA Go.Proofs.Ytchhdafgmifhdaa.PoolB Go.Proofs.Ytchhdafgmifhdaa.ShaK Go.Proofs.Ytchhdafgmifhdaa.ExtF Go.Proofs.Ytchhdafgmifhdaa.ExtG Go.Proofs.Ytchhdafgmifhdaa.ExtE Go.Proofs.Ytchhdafgmifhdaa.ExtD Go.Proofs.Ytchhdafgmifhdaa.AlcG Go.Proofs.Ytchhdafgmifhdaa.AlcH Go.Proofs.Ytchhdafgmifhdaa.KpA Go.Proofs.Ytchhdafgmifhdaa.PoolC Go.Proofs.Ytchhdafgmifhdaa.LawA
set_option linter.unusedVariables false
set_option linter.unusedSimpArgs false
set_option maxRecDepth 100000 in
set_option maxHeartbeats 8000000 in
theorem law_odd2 (A : Option Addr) (c n : Nat) (L : List Int) (x : Int) (w : World) (hr : C8 w A n L) (hb : Byt L) (hnc : n ≤ c) (h1 : 5000 < n) (hx : bits .and .i64 x 1 = 1) :
    Calls Try.prog 3 #[.slice A n c, .int .i64 x] w (fun e w' => e = .returned (.bool true) ∧ Below w.heap.size w w') := by
  obtain ⟨P, hP⟩ : ∃ P : Ending → World → Prop, P = fun e w' => e = .returned (.bool true) ∧ Below w.heap.size w w' := ⟨_, rfl⟩
  rw [← hP]
  have HP := Aside0.mk hP
  clear hP
  have d0 : decide ((n : Int) > 5000) = true := decide_eq_true (by omega)
  have d0' : decide (5000 < (n : Int)) = true := decide_eq_true (by omega)
  obtain ⟨L2, hL2⟩ : ∃ L2, L2 = L.take 5000 := ⟨_, rfl⟩
  obtain ⟨n2, hn2⟩ : ∃ n2, n2 = 5000 := ⟨_, rfl⟩
  have HR := Aside0.mk (show C8 w A n2 L2 ∧ Byt L2 ∧ n2 ≤ c by rw [hn2, hL2]; exact ⟨C_take hr (by omega), hb.take _, by omega⟩)
  have HN2 := Aside0.mk (show 1 ≤ n2 ∧ n2 ≤ 5000 by omega)
  obtain ⟨k, hk⟩ : ∃ k : Nat, (k : Int) = sect (n2 : Int) := ⟨(sect (n2 : Int)).toNat, by have := sect_bound (n2 : Int); omega⟩
  have hk10 : 1 ≤ k ∧ k ≤ 10 := by
    unfold sect at hk
    rw [if_neg (by omega)] at hk
    omega
  have HK := Aside0.mk (And.intro hk hk10)
  have HL := Aside0.mk (lays10 k hk10.1 hk10.2)
  clear hr hb hL2 hk hk10 
  go_enter Try.func3, Try.ntmps3
  go_wp2_with fail
  rw [show (Value.slice A 5000 c) = Value.slice A n2 c by rw [hn2]]
  have HNE := Aside0.mk hn2
  clear hn2
  refine (fresh4 40 (by omega) (by omega) w).mono ?_
  rintro e W1 ⟨p, d, m, a, mw, rfl, hp, hm, ha, hmw, hpo, hb1⟩
  have HB1 := Aside0.mk hb1
  have H1 := Aside0.mk (PO_ep hpo 5)
  have HNW := Aside0.mk (And.intro hp (And.intro hm ha))
  have HMW0 := Aside0.mk hmw
  have p2 : W1.cell? ⟨p, 2, none⟩ = some (.int .i64 1) := by rw [cell_of_row _ _ 2 _ 29 (0, 0) hpo.blk]; rfl
  have f2 : W1.frozen? ⟨p, 2, none⟩ = false := frozen_of_row _ _ 2 _ 29 hpo.blk
  have HB2 := Aside0.mk (show Below w.heap.size w (W1.setCell ⟨p, 2, none⟩ (.int .i64 5)) from hb1.setCell hp _)
  clear hb1 hp hm ha hmw hpo
  go_wp2_with fail
  clear p2 f2
  generalize hW2 : W1.setCell ⟨p, 2, none⟩ (.int .i64 5) = W2 at *
  clear hW2
  clear hnc h1
  clear HNE
  refine (lay5 p d m a mw 40 2 40 0 [(2, 40)] 5 _ A n2 c L2 W2 H1.out (by omega) (by omega) (fun W' hk' => ?_) HR.out.2.1 HR.out.2.2 HN2.out.1 (by have := HN2.out; omega) (by omega) (by omega) k HK.out.1 2 HL.out.find (by omega) (by have := HK.out; omega) (by omega) (by rw [tot40]; have := HK.out; omega) (by rw [HL.out.rem]; exact vs40 _ (by omega) (by have := HK.out; omega)) (by rw [HL.out.rem]; simp) (by rw [HL.out.rem, tot40]; have := HK.out; omega)).mono ?_
  · refine Kcells HR.out.1 (fun _ _ h => h) (fun ad q v _ _ hc => ?_)
    have hlt := World.block_lt_of_cell? w q hc
    have h3 := HNW.out
    exact cell_kept ((HB2.out.cell hlt).trans hc) hk' (by omega)
  rintro e W3 ⟨he, hkb3, hpo3⟩
  obtain ⟨r, hrr⟩ : ∃ r, r = encP (ofP 2 5 L2) := ⟨_, rfl⟩
  rw [← hrr] at he
  subst he
  have HRR := Aside0.mk (show PC r (ofP 2 5 L2) ∧ r.size = 36 ∧ r.all (·.oneCell') = true ∧ r = encP (ofP 2 5 L2) by rw [hrr]; exact ⟨pc _ (ShaE.shaL_len L2), encP_size (ShaE.shaL_len L2), encP_one _, rfl⟩)
  have HB3 := Aside0.mk (show Below w.heap.size w W3 from (KB.of_below (S := fun k => k = m ∨ k = a) (w := W2) (w' := W2) (Below.refl _ _) |>.then_ hkb3 (fun k hk => .inl hk)) |> fun h => HB2.out.trans (KB.to_below h (fun k hk => by have := HNW.out; omega) HB2.out.size))
  rw [HL.out.rem] at hpo3
  have H3 := Aside0.mk hpo3
  obtain ⟨z, hz, hz1, hal⟩ := zero33
  have hal3 := hal W3
  have HZS := Aside0.mk (And.intro hz hz1)
  have HAL := Aside0.mk hal
  have HZ3 := Aside0.mk (blk_new W3 (.cells z 33))
  have hn0 : ((n2 : Int) == 0) = false := by rw [beq_eq_false_iff_ne]; have := HN2.out; omega
  clear hrr hkb3 hpo3 hz hz1 hal
  go_wp2_with (refine wpList_store_row rfl 33 (.tmp 6) (.tmp 25) rfl W3.heap.size r rfl rfl 33 z HZ3.out (by rw [i33, HRR.out.2.1]) (by rw [HRR.out.2.1, HZS.out.1]) HRR.out.2.2.1 ?_)
  have HG4 := Aside0.mk (setRow_heap (W3.alloc (.cells z 33)) W3.heap.size z r 33 _ HZ3.out)
  have H4 := Aside0.mk (PO_row (H3.out.below (below_alloc (Below.refl _ _) (.cells z 33))) HZ3.out r)
  have HB4 := Aside0.mk (show Below w.heap.size w ((W3.alloc (.cells z 33)).setRow W3.heap.size r) from below_setRow (HB3.out.trans ((below_alloc (Below.refl W3.heap.size W3) _).mono HB3.out.size)) HB3.out.size _)
  obtain ⟨g, hg⟩ : ∃ g, g = W3.heap.size := ⟨_, rfl⟩
  have HGE := Aside0.mk (show w.heap.size ≤ g ∧ p < g by rw [hg]; exact ⟨HB3.out.size, H3.out.lt⟩)
  generalize hW4 : (W3.alloc (.cells z 33)).setRow W3.heap.size r = W4 at *
  clear hW4
  rw [← hg] at *
  clear hg hal3 HZ3 HB3 H3
  have hp4 : p < W4.heap.size := H4.out.lt
  have hg4 : g < W4.heap.size := blk_lt HG4.out
  have P1 := Aside0.mk (show W4.cell? ⟨p, 1, none⟩ = some (.pointer (some ⟨a, 0, none⟩)) by rw [cell_of_row _ _ 1 _ 29 (0, 0) H4.out.blk]; rfl)
  have X1 := Aside0.mk (show W4.cell? ⟨g, 1, none⟩ = some (.int .i64 5) by rw [cell_of_row _ _ 1 _ 33 (0, 0) HG4.out]; exact HRR.out.1.c1)
  have X2 := Aside0.mk (show W4.cell? ⟨g, 2, none⟩ = some (.int .i64 (n2 : Int)) by rw [cell_of_row _ _ 2 _ 33 (0, 0) HG4.out]; exact HRR.out.1.c2.trans (by rw [show (ofP 2 5 L2).len = (n2 : Int) from by show (L2.length : Int) = _; rw [HR.out.1.1]]))
  refine wp_region_held_drew (S := fun w' => Below W4.heap.size W4 w') (by kernel_rfl) (below_drew (Below.refl _ _)) (fun hW => ?_)
  have WDB := Aside0.mk (show Below W4.heap.size W4 W4.drew from below_drew (Below.refl _ _))
  generalize hWd : W4.drew = W5 at *
  clear hWd
  refine wpAnyH_take (i := 0) (oi := ⟨some 48, _, _, _, _, _⟩) (v := .int .i64 0) rfl (by kernel_rfl) (by kernel_rfl) (by kernel_rfl) (fun _ _ _ h => h) (.inl ⟨by rfl, fun W1 h1 => by go_simp⟩) hW ?_
  try simp only [Act.put, List.setIfInBounds_toArray, List.set_cons_zero, List.set_cons_succ]
  refine wpAnyH_take (i := 1) (oi := ⟨some 49, _, _, _, _, _⟩) (v := .bool false) rfl (by kernel_rfl) (by kernel_rfl) (by kernel_rfl) (fun _ _ _ h => h) (.inl ⟨by rfl, fun W1 h1 => by go_simp⟩) hW ?_
  try simp only [Act.put, List.setIfInBounds_toArray, List.set_cons_zero, List.set_cons_succ]
  refine wpAnyH_take (i := 2) (oi := ⟨some 50, _, _, _, _, _⟩) (v := .bool false) rfl (by kernel_rfl) (by kernel_rfl) (by kernel_rfl) (fun _ _ _ h => h) (.inl ⟨by rfl, fun W1 h1 => by go_simp⟩) hW ?_
  try simp only [Act.put, List.setIfInBounds_toArray, List.set_cons_zero, List.set_cons_succ]
  refine wpAnyH_take (i := 3) (oi := ⟨some 51, _, _, _, _, _⟩) (v := .pointer (some ⟨g, 1, none⟩)) rfl (by kernel_rfl) (by kernel_rfl) (by kernel_rfl) (fun _ _ _ h => h) (.inl ⟨by rfl, fun W1 h1 => by go_simp⟩) hW ?_
  try simp only [Act.put, List.setIfInBounds_toArray, List.set_cons_zero, List.set_cons_succ]
  refine wpAnyH_take (i := 4) (oi := ⟨some 52, _, _, _, _, _⟩) (v := .int .i64 5) rfl (by kernel_rfl) (by kernel_rfl) (by kernel_rfl) (fun _ _ _ h => h) (.inl ⟨by rfl, fun W1 h1 => by have h2 := (Below.cell (p := ⟨g, 1, none⟩) h1 hg4).trans X1.out; clear h1; go_simp⟩) hW ?_
  try simp only [Act.put, List.setIfInBounds_toArray, List.set_cons_zero, List.set_cons_succ]
  refine wpAnyH_take (i := 5) (oi := ⟨some 53, _, _, _, _, _⟩) (v := .bool false) rfl (by kernel_rfl) (by kernel_rfl) (by kernel_rfl) (fun _ _ _ h => h) (.inl ⟨by rfl, fun W1 h1 => by go_simp⟩) hW ?_
  try simp only [Act.put, List.setIfInBounds_toArray, List.set_cons_zero, List.set_cons_succ]
  refine wpAnyH_take (i := 6) (oi := ⟨some 54, _, _, _, _, _⟩) (v := .bool false) rfl (by kernel_rfl) (by kernel_rfl) (by kernel_rfl) (fun _ _ _ h => h) (.inl ⟨by rfl, fun W1 h1 => by go_simp⟩) hW ?_
  try simp only [Act.put, List.setIfInBounds_toArray, List.set_cons_zero, List.set_cons_succ]
  refine wpAnyH_take (i := 7) (oi := ⟨some 55, _, _, _, _, _⟩) (v := .bool false) rfl (by kernel_rfl) (by kernel_rfl) (by kernel_rfl) (fun _ _ _ h => h) (.inl ⟨by rfl, fun W1 h1 => by go_simp⟩) hW ?_
  try simp only [Act.put, List.setIfInBounds_toArray, List.set_cons_zero, List.set_cons_succ]
  refine wpAnyH_take (i := 8) (oi := ⟨some 56, _, _, _, _, _⟩) (v := .pointer (some ⟨g, 2, none⟩)) rfl (by kernel_rfl) (by kernel_rfl) (by kernel_rfl) (fun _ _ _ h => h) (.inl ⟨by rfl, fun W1 h1 => by go_simp⟩) hW ?_
  try simp only [Act.put, List.setIfInBounds_toArray, List.set_cons_zero, List.set_cons_succ]
  refine wpAnyH_take (i := 9) (oi := ⟨some 57, _, _, _, _, _⟩) (v := .int .i64 (n2 : Int)) rfl (by kernel_rfl) (by kernel_rfl) (by kernel_rfl) (fun _ _ _ h => h) (.inl ⟨by rfl, fun W1 h1 => by have h2 := (Below.cell (p := ⟨g, 2, none⟩) h1 hg4).trans X2.out; clear h1; go_simp⟩) hW ?_
  try simp only [Act.put, List.setIfInBounds_toArray, List.set_cons_zero, List.set_cons_succ]
  refine wpAnyH_take (i := 10) (oi := ⟨some 58, _, _, _, _, _⟩) (v := .slice A n2 c) rfl (by kernel_rfl) (by kernel_rfl) (by kernel_rfl) (fun _ _ _ h => h) (.inl ⟨by rfl, fun W1 h1 => by go_simp⟩) hW ?_
  try simp only [Act.put, List.setIfInBounds_toArray, List.set_cons_zero, List.set_cons_succ]
  refine wpAnyH_take (i := 11) (oi := ⟨some 59, _, _, _, _, _⟩) (v := .int .i64 (n2 : Int)) rfl (by kernel_rfl) (by kernel_rfl) (by kernel_rfl) (fun _ _ _ h => h) (.inl ⟨by rfl, fun W1 h1 => by go_simp⟩) hW ?_
  try simp only [Act.put, List.setIfInBounds_toArray, List.set_cons_zero, List.set_cons_succ]
  refine wpAnyH_take (i := 12) (oi := ⟨some 60, _, _, _, _, _⟩) (v := .bool false) rfl (by kernel_rfl) (by kernel_rfl) (by kernel_rfl) (fun _ _ _ h => h) (.inl ⟨by rfl, fun W1 h1 => by go_simp⟩) hW ?_
  try simp only [Act.put, List.setIfInBounds_toArray, List.set_cons_zero, List.set_cons_succ]
  refine wpAnyH_take (i := 13) (oi := ⟨some 61, _, _, _, _, _⟩) (v := .bool false) rfl (by kernel_rfl) (by kernel_rfl) (by kernel_rfl) (fun _ _ _ h => h) (.inl ⟨by rfl, fun W1 h1 => by go_simp⟩) hW ?_
  try simp only [Act.put, List.setIfInBounds_toArray, List.set_cons_zero, List.set_cons_succ]
  refine wpAnyH_take (i := 14) (oi := ⟨some 62, _, _, _, _, _⟩) (v := .bool false) rfl (by kernel_rfl) (by kernel_rfl) (by kernel_rfl) (fun _ _ _ h => h) (.inl ⟨by rfl, fun W1 h1 => by go_simp⟩) hW ?_
  try simp only [Act.put, List.setIfInBounds_toArray, List.set_cons_zero, List.set_cons_succ]
  refine wpAnyH_take (i := 15) (oi := ⟨some 63, _, _, _, _, _⟩) (v := .pointer (some ⟨p, 0, none⟩)) rfl (by kernel_rfl) (by kernel_rfl) (by kernel_rfl) (fun _ _ _ h => h) (.inl ⟨by rfl, fun W1 h1 => by go_simp⟩) hW ?_
  try simp only [Act.put, List.setIfInBounds_toArray, List.set_cons_zero, List.set_cons_succ]
  refine wpAnyH_take (i := 16) (oi := ⟨some 64, _, _, _, _, _⟩) (v := .pointer (some ⟨p, 0, none⟩)) rfl (by kernel_rfl) (by kernel_rfl) (by kernel_rfl) (fun _ _ _ h => h) (.inl ⟨by rfl, fun W1 h1 => by go_simp⟩) hW ?_
  try simp only [Act.put, List.setIfInBounds_toArray, List.set_cons_zero, List.set_cons_succ]
  refine wpAnyH_take (i := 17) (oi := ⟨some 65, _, _, _, _, _⟩) (v := .pointer (some ⟨p, 1, none⟩)) rfl (by kernel_rfl) (by kernel_rfl) (by kernel_rfl) (fun _ _ _ h => h) (.inl ⟨by rfl, fun W1 h1 => by go_simp⟩) hW ?_
  try simp only [Act.put, List.setIfInBounds_toArray, List.set_cons_zero, List.set_cons_succ]
  refine wpAnyH_take (i := 18) (oi := ⟨some 66, _, _, _, _, _⟩) (v := .pointer (some ⟨a, 0, none⟩)) rfl (by kernel_rfl) (by kernel_rfl) (by kernel_rfl) (fun _ _ _ h => h) (.inl ⟨by rfl, fun W1 h1 => by have h2 := (Below.cell (p := ⟨p, 1, none⟩) h1 hp4).trans P1.out; clear h1; go_simp⟩) hW ?_
  try simp only [Act.put, List.setIfInBounds_toArray, List.set_cons_zero, List.set_cons_succ]
  refine wpAnyH_take (i := 20) (oi := ⟨some 68, _, _, _, _, _⟩) (v := .agg r) rfl (by kernel_rfl) (by kernel_rfl) (by kernel_rfl) (fun _ _ _ h => h) (yields_row (by rfl) 33 _ rfl (g) rfl 33 r (0, 0) _ (fun w1 h1 => blk_below HG4.out h1) underl56 rfl (by rw [i33, HRR.out.2.1])) hW ?_
  try simp only [Act.put, List.setIfInBounds_toArray, List.set_cons_zero, List.set_cons_succ]
  refine wpAnyH_ready (rs := [19]) (by kernel_rfl) (by simp) (AllReadyH.cons rfl (fun K1 hK1 => ?_) AllReadyH.nil)
  go_simp
  refine (used6 a mw 2 40 0 _ _ (H4.out.alc.below hW)).mono ?_
  rintro e WT ⟨he, hb⟩
  rw [tot40, show (40 : Int) - 2 - (40 - (2 + (k : Int))) = k by omega] at he
  subst he
  refine hK1.out _ _ (hW.trans (hb.mono hW.size)) (fun hW => ?_)
  try simp only [Act.put, List.setIfInBounds_toArray, List.set_cons_zero, List.set_cons_succ]
  clear hb
  refine wpAnyH_ready (rs := [21]) (by kernel_rfl) (by simp) (AllReadyH.cons rfl (fun K2 hK2 => ?_) AllReadyH.nil)
  go_simp
  refine (sectors_calls r _ HRR.out.1 _).mono ?_
  rintro e WT2 ⟨he, hb⟩
  rw [show sect (Ptr.len (ofP 2 5 L2)) = (k : Int) from by rw [show (ofP 2 5 L2).len = (n2 : Int) from by show (L2.length : Int) = _; rw [HR.out.1.1], HK.out.1]] at he
  subst he
  refine hK2.out _ _ (hW.trans (hb.mono hW.size)) (fun hW => ?_)
  try simp only [Act.put, List.setIfInBounds_toArray, List.set_cons_zero, List.set_cons_succ]
  clear hb
  refine wpAnyH_take (i := 22) (oi := ⟨some 70, _, _, _, _, _⟩) (v := .bool false) rfl (by kernel_rfl) (by kernel_rfl) (by kernel_rfl) (fun _ _ _ h => h) (.inl ⟨by rfl, fun W1 h1 => by go_simp⟩) hW ?_
  try simp only [Act.put, List.setIfInBounds_toArray, List.set_cons_zero, List.set_cons_succ]
  refine wpAnyH_take (i := 23) (oi := ⟨some 71, _, _, _, _, _⟩) (v := .bool false) rfl (by kernel_rfl) (by kernel_rfl) (by kernel_rfl) (fun _ _ _ h => h) (.inl ⟨by rfl, fun W1 h1 => by go_simp⟩) hW ?_
  try simp only [Act.put, List.setIfInBounds_toArray, List.set_cons_zero, List.set_cons_succ]
  refine wpAnyH_done (by kernel_rfl) ?_ _
  clear hK1 hK2 K1 K2
  have HB6 := Aside0.mk (HB4.out.trans (hW.mono HB4.out.size))
  have H6 := Aside0.mk (H4.out.below hW)
  have HG6 := Aside0.mk (blk_below HG4.out hW)
  clear hW P1 X1 X2 HB4 H4 HG4 hp4 hg4 WDB
  generalize hW6 : WT2 = W6 at *
  clear hW6
  have HRT := Aside0.mk (show Right (ofP 2 5 L2) ∧ (k : Int) = sect (ofP 2 5 L2).len from by
    have hl : (ofP 2 5 L2).len = (n2 : Int) := by show (L2.length : Int) = _; rw [HR.out.1.1]
    have h1 := HK.out
    refine ⟨⟨?_, ?_, ?_, ?_, ?_⟩, by rw [hl]; exact h1.1⟩
    · show (1 : Int) ≤ 5; omega
    · show (5 : Int) ≤ _; omega
    · rw [hl, ← h1.1]; omega
    · show (2 : Int) ≤ 2; omega
    · rw [hl, ← h1.1]; show (2 : Int) ≤ _; omega)
  have p2 : W6.cell? ⟨p, 2, none⟩ = some (.int .i64 5) := by rw [cell_of_row _ _ 2 _ 29 (0, 0) H6.out.blk]; rfl
  have f2 : W6.frozen? ⟨p, 2, none⟩ = false := frozen_of_row _ _ 2 _ 29 H6.out.blk
  have H7 := Aside0.mk (PO_ep H6.out 6)
  have HB7 := Aside0.mk (show Below w.heap.size w (W6.setCell ⟨p, 2, none⟩ (.int .i64 6)) from HB6.out.setCell HNW.out.1 _)
  have HG7 := Aside0.mk (show (W6.setCell ⟨p, 2, none⟩ (.int .i64 6)).heap[g]? = some (.cells r 33 (0, 0)) from (Below.heap_setCell W6 ⟨p, 2, none⟩ _ g (by show g ≠ p; have := HGE.out; omega)).trans HG6.out)
  go_wp2_with fail
  generalize hW7 : W6.setCell ⟨p, 2, none⟩ (.int .i64 6) = W7 at *
  clear hW7 p2 f2 H6 HB6 HG6
  have P1 := Aside0.mk (show W7.cell? ⟨p, 1, none⟩ = some (.pointer (some ⟨a, 0, none⟩)) by rw [cell_of_row _ _ 1 _ 29 (0, 0) H7.out.blk]; rfl)
  have HGP := Aside0.mk (show ¬ (g = p ∨ g = mw) by
    rintro (rfl | rfl)
    · have := HGE.out; omega
    · obtain ⟨cl, h1⟩ := H7.out.alc.wait
      have := HG7.out
      rw [h1] at this
      cases this)
  have HPMW := Aside0.mk (show ¬ p = mw by
    rintro rfl
    obtain ⟨cl, h1⟩ := H7.out.alc.wait
    have := H7.out.blk
    rw [h1] at this
    cases this)
  have HMWW := Aside0.mk (show w.heap.size ≤ mw from HMW0.out)
  have HP7 := Aside0.mk (H7.out.lt)
  have X0 := Aside0.mk (show W7.cell? ⟨g, 0, none⟩ = some (.int .i64 2) by rw [cell_of_row _ _ 0 _ 33 (0, 0) HG7.out]; exact HRR.out.1.c0)
  have HYE := Aside0.mk (show ∀ (ops : Array Oper) (op : Oper) (a0 : Act), Region.wanted op (yielded ops a0.tmps) = true → op.op = .binOp .eql 33 (.tmp 122) (.tmp 123) 33 → a0.eval (.tmp 122) = .agg r → a0.eval (.tmp 123) = .agg r → YieldsIf Try.prog ops (fun w' => KB W7 w' (fun k => k = p ∨ k = mw) ∧ w'.cell? ⟨p, 1, none⟩ = some (.pointer (some ⟨a, 0, none⟩))) op (.bool true) a0 from fun ops op a0 hw ho hx hy => by
    have := yields_eql33 (ops := ops) (S := fun w' => KB W7 w' (fun k => k = p ∨ k = mw) ∧ w'.cell? ⟨p, 1, none⟩ = some (.pointer (some ⟨a, 0, none⟩))) hw (.tmp 122) (.tmp 123) 33 ho (ofP 2 5 L2) (ofP 2 5 L2) (ShaE.shaL_len L2) (ShaE.shaL_len L2) (by rw [hx, HRR.out.2.2.2]) (by rw [hy, HRR.out.2.2.2])
    simpa using this)
  obtain ⟨r0, hr0⟩ : ∃ r, r = encP zeroP := ⟨_, rfl⟩
  have HBE := Aside0.mk (show Try.prog.built 33 [] = some r0 by rw [hr0]; kernel_rfl)
  have HR0 := Aside0.mk (show PC r0 zeroP by rw [hr0]; exact pc _ (by simp [zeroP]))
  clear hr0
  refine wp_region_held_drew (S := fun w' => KB W7 w' (fun k => k = p ∨ k = mw) ∧ w'.cell? ⟨p, 1, none⟩ = some (.pointer (some ⟨a, 0, none⟩))) (by kernel_rfl) (⟨KB.of_below (below_drew (Below.refl _ _)) _, P1.out⟩) (fun hW => ?_)
  have WDB := Aside0.mk (show Below W7.heap.size W7 W7.drew from below_drew (Below.refl _ _))
  generalize hWd : W7.drew = Wd at *
  clear hWd
  refine wpAnyH_take (i := 0) (oi := ⟨some 104, _, _, _, _, _⟩) (v := .pointer (some ⟨p, 0, none⟩)) rfl (by kernel_rfl) (by kernel_rfl) (by kernel_rfl) (fun _ _ _ h => h) (.inl ⟨by rfl, fun W1 h1 => by go_simp⟩) hW ?_
  try simp only [Act.put, List.setIfInBounds_toArray, List.set_cons_zero, List.set_cons_succ]
  refine wpAnyH_take (i := 1) (oi := ⟨some 105, _, _, _, _, _⟩) (v := .agg r) rfl (by kernel_rfl) (by kernel_rfl) (by kernel_rfl) (fun _ _ _ h => h) (yields_row (by rfl) 33 _ rfl (g) rfl 33 r (0, 0) _ (fun w1 h1 => blk_kept HG7.out h1.1.kept HGP.out) underl56 rfl (by rw [i33, HRR.out.2.1])) hW ?_
  try simp only [Act.put, List.setIfInBounds_toArray, List.set_cons_zero, List.set_cons_succ]
  refine wpAnyH_ready (rs := [2]) (by kernel_rfl) (by simp) (AllReadyH.cons rfl (fun K1 hK1 => ?_) AllReadyH.nil)
  go_simp
  have hk8 := kill8_later p d m a mw 40 2 40 0 [(2 + (k : Int), 40)] 6 (ofP 2 5 L2) HRT.out.1 (ofP_ok 2 5 L2) (by show (5 : Int) ≠ 6; omega) Wd (H7.out.below WDB.out) (by omega) (by omega)
  rw [← HRR.out.2.2.2] at hk8
  refine hk8.mono ?_
  rintro e W8 ⟨rfl, hkb, kv, hpo, hkv⟩
  obtain ⟨A8, kc, hv, hlc, hc8⟩ := Kd.R_reads hkv
  subst hv
  obtain ⟨kb, ko, hA8, hkb8, hrg⟩ := CP_at hc8 (by simp)
  subst hA8
  have HRG := Aside0.mk (show W8.rangeAt kb ko r.toList by
    have h0 := (hrg 0 (by simp)).2
    rw [HRR.out.2.2.2]
    simpa using h0)
  have H8 := Aside0.mk hpo
  have HK8 := Aside0.mk (KB.of_below WDB.out (fun k => k = p) |>.then_ hkb (fun k hk => .inl hk))
  have HLC := Aside0.mk (show 1 ≤ kc from hlc)
  refine hK1.out _ _ (⟨hW.1.then_ hkb (fun k hk => .inl (.inl hk)), by rw [cell_of_row _ _ 1 _ 29 (0, 0) hpo.blk]; rfl⟩) (fun hW => ?_)
  try simp only [Act.put, List.setIfInBounds_toArray, List.set_cons_zero, List.set_cons_succ]
  clear hk8 hkb hkv hlc hc8 hkb8 hrg hpo
  refine wpAnyH_take (i := 3) (oi := ⟨some 107, _, _, _, _, _⟩) (v := .bool true) rfl (by kernel_rfl) (by kernel_rfl) (by kernel_rfl) (fun _ _ _ h => h) (.inl ⟨by rfl, fun W1 h1 => by go_simp⟩) hW ?_
  try simp only [Act.put, List.setIfInBounds_toArray, List.set_cons_zero, List.set_cons_succ]
  refine wpAnyH_take (i := 4) (oi := ⟨some 108, _, _, _, _, _⟩) (v := .bool true) rfl (by kernel_rfl) (by kernel_rfl) (by kernel_rfl) (fun _ _ _ h => h) (.inl ⟨by rfl, fun W1 h1 => by go_simp⟩) hW ?_
  try simp only [Act.put, List.setIfInBounds_toArray, List.set_cons_zero, List.set_cons_succ]
  refine wpAnyH_take (i := 5) (oi := ⟨some 109, _, _, _, _, _⟩) (v := .pointer (some ⟨p, 0, none⟩)) rfl (by kernel_rfl) (by kernel_rfl) (by kernel_rfl) (fun _ _ _ h => h) (.inl ⟨by rfl, fun W1 h1 => by go_simp⟩) hW ?_
  try simp only [Act.put, List.setIfInBounds_toArray, List.set_cons_zero, List.set_cons_succ]
  refine wpAnyH_take (i := 6) (oi := ⟨some 110, _, _, _, _, _⟩) (v := .pointer (some ⟨p, 0, none⟩)) rfl (by kernel_rfl) (by kernel_rfl) (by kernel_rfl) (fun _ _ _ h => h) (.inl ⟨by rfl, fun W1 h1 => by go_simp⟩) hW ?_
  try simp only [Act.put, List.setIfInBounds_toArray, List.set_cons_zero, List.set_cons_succ]
  refine wpAnyH_take (i := 7) (oi := ⟨some 111, _, _, _, _, _⟩) (v := .pointer (some ⟨p, 4, none⟩)) rfl (by kernel_rfl) (by kernel_rfl) (by kernel_rfl) (fun _ _ _ h => h) (.inl ⟨by rfl, fun W1 h1 => by go_simp⟩) hW ?_
  try simp only [Act.put, List.setIfInBounds_toArray, List.set_cons_zero, List.set_cons_succ]
  refine wpAnyH_ready (rs := [8]) (by kernel_rfl) (by simp) (AllReadyH.cons rfl (fun K2 hK2 => ?_) AllReadyH.nil)
  have q4 : W8.cell? ⟨p, 4, none⟩ = some (.slice (some ⟨kb, ko, none⟩) 1 kc) := by rw [cell_of_row _ _ 4 _ 29 (0, 0) H8.out.blk]; rfl
  go_simp
  clear q4
  refine hK2.out _ _ (hW) (fun hW => ?_)
  try simp only [Act.put, List.setIfInBounds_toArray, List.set_cons_zero, List.set_cons_succ]
  refine wpAnyH_take (i := 9) (oi := ⟨some 113, _, _, _, _, _⟩) (v := .int .i64 1) rfl (by kernel_rfl) (by kernel_rfl) (by kernel_rfl) (fun _ _ _ h => h) (.inl ⟨by rfl, fun W1 h1 => by go_simp⟩) hW ?_
  try simp only [Act.put, List.setIfInBounds_toArray, List.set_cons_zero, List.set_cons_succ]
  refine wpAnyH_take (i := 10) (oi := ⟨some 114, _, _, _, _, _⟩) (v := .bool true) rfl (by kernel_rfl) (by kernel_rfl) (by kernel_rfl) (fun _ _ _ h => h) (.inl ⟨by rfl, fun W1 h1 => by go_simp⟩) hW ?_
  try simp only [Act.put, List.setIfInBounds_toArray, List.set_cons_zero, List.set_cons_succ]
  refine wpAnyH_take (i := 11) (oi := ⟨some 115, _, _, _, _, _⟩) (v := .bool true) rfl (by kernel_rfl) (by kernel_rfl) (by kernel_rfl) (fun _ _ _ h => h) (.inl ⟨by rfl, fun W1 h1 => by go_simp⟩) hW ?_
  try simp only [Act.put, List.setIfInBounds_toArray, List.set_cons_zero, List.set_cons_succ]
  refine wpAnyH_take (i := 12) (oi := ⟨some 116, _, _, _, _, _⟩) (v := .bool true) rfl (by kernel_rfl) (by kernel_rfl) (by kernel_rfl) (fun _ _ _ h => h) (.inl ⟨by rfl, fun W1 h1 => by go_simp⟩) hW ?_
  try simp only [Act.put, List.setIfInBounds_toArray, List.set_cons_zero, List.set_cons_succ]
  refine wpAnyH_take (i := 13) (oi := ⟨some 117, _, _, _, _, _⟩) (v := .pointer (some ⟨p, 0, none⟩)) rfl (by kernel_rfl) (by kernel_rfl) (by kernel_rfl) (fun _ _ _ h => h) (.inl ⟨by rfl, fun W1 h1 => by go_simp⟩) hW ?_
  try simp only [Act.put, List.setIfInBounds_toArray, List.set_cons_zero, List.set_cons_succ]
  refine wpAnyH_take (i := 14) (oi := ⟨some 118, _, _, _, _, _⟩) (v := .pointer (some ⟨p, 0, none⟩)) rfl (by kernel_rfl) (by kernel_rfl) (by kernel_rfl) (fun _ _ _ h => h) (.inl ⟨by rfl, fun W1 h1 => by go_simp⟩) hW ?_
  try simp only [Act.put, List.setIfInBounds_toArray, List.set_cons_zero, List.set_cons_succ]
  refine wpAnyH_take (i := 15) (oi := ⟨some 119, _, _, _, _, _⟩) (v := .pointer (some ⟨p, 4, none⟩)) rfl (by kernel_rfl) (by kernel_rfl) (by kernel_rfl) (fun _ _ _ h => h) (.inl ⟨by rfl, fun W1 h1 => by go_simp⟩) hW ?_
  try simp only [Act.put, List.setIfInBounds_toArray, List.set_cons_zero, List.set_cons_succ]
  refine wpAnyH_take (i := 19) (oi := ⟨some 123, _, _, _, _, _⟩) (v := .agg r) rfl (by kernel_rfl) (by kernel_rfl) (by kernel_rfl) (fun _ _ _ h => h) (yields_row (by rfl) 33 _ rfl (g) rfl 33 r (0, 0) _ (fun w1 h1 => blk_kept HG7.out h1.1.kept HGP.out) underl56 rfl (by rw [i33, HRR.out.2.1])) hW ?_
  try simp only [Act.put, List.setIfInBounds_toArray, List.set_cons_zero, List.set_cons_succ]
  refine wpAnyH_ready (rs := [16]) (by kernel_rfl) (by simp) (AllReadyH.cons rfl (fun K3 hK3 => ?_) AllReadyH.nil)
  have q4 : W8.cell? ⟨p, 4, none⟩ = some (.slice (some ⟨kb, ko, none⟩) 1 kc) := by rw [cell_of_row _ _ 4 _ 29 (0, 0) H8.out.blk]; rfl
  go_simp
  clear q4
  refine hK3.out _ _ (hW) (fun hW => ?_)
  try simp only [Act.put, List.setIfInBounds_toArray, List.set_cons_zero, List.set_cons_succ]
  refine wpAnyH_take (i := 17) (oi := ⟨some 121, _, _, _, _, _⟩) (v := .pointer (some ⟨kb, ko, none⟩)) rfl (by kernel_rfl) (by kernel_rfl) (by kernel_rfl) (fun _ _ _ h => h) (.inl ⟨by rfl, fun W1 h1 => by go_simp⟩) hW ?_
  try simp only [Act.put, List.setIfInBounds_toArray, List.set_cons_zero, List.set_cons_succ]
  refine wpAnyH_ready (rs := [18]) (by kernel_rfl) (by simp) (AllReadyH.cons rfl (fun K4 hK4 => ?_) AllReadyH.nil)
  refine wp_load_mid (op := ⟨some 122, _, _, _, _, _⟩) 33 (.tmp 121) rfl kb ko rfl r.toList _ HRG.out underl56 rfl (by rw [i33, Array.length_toList, HRR.out.2.1]) ?_
  rw [Array.toArray_toList]
  refine hK4.out _ _ (hW) (fun hW => ?_)
  try simp only [Act.put, List.setIfInBounds_toArray, List.set_cons_zero, List.set_cons_succ]
  refine wpAnyH_take (i := 20) (oi := ⟨some 124, _, _, _, _, _⟩) (v := .bool true) rfl (by kernel_rfl) (by kernel_rfl) (by kernel_rfl) (fun _ _ _ h => h) (HYE.out _ _ _ (by rfl) rfl rfl rfl) hW ?_
  try simp only [Act.put, List.setIfInBounds_toArray, List.set_cons_zero, List.set_cons_succ]
  refine wpAnyH_take (i := 21) (oi := ⟨some 125, _, _, _, _, _⟩) (v := .bool true) rfl (by kernel_rfl) (by kernel_rfl) (by kernel_rfl) (fun _ _ _ h => h) (.inl ⟨by rfl, fun W1 h1 => by go_simp⟩) hW ?_
  try simp only [Act.put, List.setIfInBounds_toArray, List.set_cons_zero, List.set_cons_succ]
  refine wpAnyH_take (i := 22) (oi := ⟨some 126, _, _, _, _, _⟩) (v := .bool true) rfl (by kernel_rfl) (by kernel_rfl) (by kernel_rfl) (fun _ _ _ h => h) (.inl ⟨by rfl, fun W1 h1 => by go_simp⟩) hW ?_
  try simp only [Act.put, List.setIfInBounds_toArray, List.set_cons_zero, List.set_cons_succ]
  refine wpAnyH_take (i := 23) (oi := ⟨some 127, _, _, _, _, _⟩) (v := .pointer (some ⟨p, 0, none⟩)) rfl (by kernel_rfl) (by kernel_rfl) (by kernel_rfl) (fun _ _ _ h => h) (.inl ⟨by rfl, fun W1 h1 => by go_simp⟩) hW ?_
  try simp only [Act.put, List.setIfInBounds_toArray, List.set_cons_zero, List.set_cons_succ]
  refine wpAnyH_take (i := 24) (oi := ⟨some 128, _, _, _, _, _⟩) (v := .pointer (some ⟨p, 0, none⟩)) rfl (by kernel_rfl) (by kernel_rfl) (by kernel_rfl) (fun _ _ _ h => h) (.inl ⟨by rfl, fun W1 h1 => by go_simp⟩) hW ?_
  try simp only [Act.put, List.setIfInBounds_toArray, List.set_cons_zero, List.set_cons_succ]
  refine wpAnyH_take (i := 25) (oi := ⟨some 129, _, _, _, _, _⟩) (v := .pointer (some ⟨p, 1, none⟩)) rfl (by kernel_rfl) (by kernel_rfl) (by kernel_rfl) (fun _ _ _ h => h) (.inl ⟨by rfl, fun W1 h1 => by go_simp⟩) hW ?_
  try simp only [Act.put, List.setIfInBounds_toArray, List.set_cons_zero, List.set_cons_succ]
  refine wpAnyH_take (i := 26) (oi := ⟨some 130, _, _, _, _, _⟩) (v := .pointer (some ⟨a, 0, none⟩)) rfl (by kernel_rfl) (by kernel_rfl) (by kernel_rfl) (fun _ _ _ h => h) (.inl ⟨by rfl, fun W1 h1 => by have h2 := h1.2; clear h1; go_simp⟩) hW ?_
  try simp only [Act.put, List.setIfInBounds_toArray, List.set_cons_zero, List.set_cons_succ]
  refine wpAnyH_take (i := 28) (oi := ⟨some 132, _, _, _, _, _⟩) (v := .agg r) rfl (by kernel_rfl) (by kernel_rfl) (by kernel_rfl) (fun _ _ _ h => h) (yields_row (by rfl) 33 _ rfl (g) rfl 33 r (0, 0) _ (fun w1 h1 => blk_kept HG7.out h1.1.kept HGP.out) underl56 rfl (by rw [i33, HRR.out.2.1])) hW ?_
  try simp only [Act.put, List.setIfInBounds_toArray, List.set_cons_zero, List.set_cons_succ]
  refine wpAnyH_ready (rs := [27]) (by kernel_rfl) (by simp) (AllReadyH.cons rfl (fun K5 hK5 => ?_) AllReadyH.nil)
  go_simp
  refine (used6 a mw 2 40 0 _ W8 H8.out.alc).mono ?_
  rintro e W9 ⟨he, hb⟩
  rw [tot40, show (40 : Int) - 2 - (40 - (2 + (k : Int))) = k by omega] at he
  subst he
  have HB9 := Aside0.mk hb
  refine hK5.out _ _ (⟨hW.1.below hb, (Below.cell (p := ⟨p, 1, none⟩) hb H8.out.lt).trans hW.2⟩) (fun hW => ?_)
  try simp only [Act.put, List.setIfInBounds_toArray, List.set_cons_zero, List.set_cons_succ]
  clear hb
  refine wpAnyH_ready (rs := [29]) (by kernel_rfl) (by simp) (AllReadyH.cons rfl (fun K6 hK6 => ?_) AllReadyH.nil)
  go_simp
  refine (sectors_calls r _ HRR.out.1 _).mono ?_
  rintro e W10 ⟨he, hb⟩
  rw [← HRT.out.2] at he
  subst he
  have HB10 := Aside0.mk (HB9.out.trans (hb.mono HB9.out.size))
  refine hK6.out _ _ (⟨hW.1.below hb, (Below.cell (p := ⟨p, 1, none⟩) hb (Nat.lt_of_lt_of_le H8.out.lt HB9.out.size)).trans hW.2⟩) (fun hW => ?_)
  try simp only [Act.put, List.setIfInBounds_toArray, List.set_cons_zero, List.set_cons_succ]
  clear hb
  refine wpAnyH_take (i := 30) (oi := ⟨some 134, _, _, _, _, _⟩) (v := .bool true) rfl (by kernel_rfl) (by kernel_rfl) (by kernel_rfl) (fun _ _ _ h => h) (.inl ⟨by rfl, fun W1 h1 => by go_simp⟩) hW ?_
  try simp only [Act.put, List.setIfInBounds_toArray, List.set_cons_zero, List.set_cons_succ]
  refine wpAnyH_take (i := 31) (oi := ⟨some 135, _, _, _, _, _⟩) (v := .bool true) rfl (by kernel_rfl) (by kernel_rfl) (by kernel_rfl) (fun _ _ _ h => h) (.inl ⟨by rfl, fun W1 h1 => by go_simp⟩) hW ?_
  try simp only [Act.put, List.setIfInBounds_toArray, List.set_cons_zero, List.set_cons_succ]
  refine wpAnyH_take (i := 32) (oi := ⟨some 136, _, _, _, _, _⟩) (v := .bool true) rfl (by kernel_rfl) (by kernel_rfl) (by kernel_rfl) (fun _ _ _ h => h) (.inl ⟨by rfl, fun W1 h1 => by go_simp⟩) hW ?_
  try simp only [Act.put, List.setIfInBounds_toArray, List.set_cons_zero, List.set_cons_succ]
  refine wpAnyH_take (i := 33) (oi := ⟨some 137, _, _, _, _, _⟩) (v := .pointer (some ⟨p, 0, none⟩)) rfl (by kernel_rfl) (by kernel_rfl) (by kernel_rfl) (fun _ _ _ h => h) (.inl ⟨by rfl, fun W1 h1 => by go_simp⟩) hW ?_
  try simp only [Act.put, List.setIfInBounds_toArray, List.set_cons_zero, List.set_cons_succ]
  refine wpAnyH_take (i := 34) (oi := ⟨some 138, _, _, _, _, _⟩) (v := .pointer (some ⟨p, 0, none⟩)) rfl (by kernel_rfl) (by kernel_rfl) (by kernel_rfl) (fun _ _ _ h => h) (.inl ⟨by rfl, fun W1 h1 => by go_simp⟩) hW ?_
  try simp only [Act.put, List.setIfInBounds_toArray, List.set_cons_zero, List.set_cons_succ]
  refine wpAnyH_take (i := 35) (oi := ⟨some 139, _, _, _, _, _⟩) (v := .pointer (some ⟨p, 1, none⟩)) rfl (by kernel_rfl) (by kernel_rfl) (by kernel_rfl) (fun _ _ _ h => h) (.inl ⟨by rfl, fun W1 h1 => by go_simp⟩) hW ?_
  try simp only [Act.put, List.setIfInBounds_toArray, List.set_cons_zero, List.set_cons_succ]
  refine wpAnyH_take (i := 36) (oi := ⟨some 140, _, _, _, _, _⟩) (v := .pointer (some ⟨a, 0, none⟩)) rfl (by kernel_rfl) (by kernel_rfl) (by kernel_rfl) (fun _ _ _ h => h) (.inl ⟨by rfl, fun W1 h1 => by have h2 := h1.2; clear h1; go_simp⟩) hW ?_
  try simp only [Act.put, List.setIfInBounds_toArray, List.set_cons_zero, List.set_cons_succ]
  refine wpAnyH_take (i := 37) (oi := ⟨some 141, _, _, _, _, _⟩) (v := .pointer (some ⟨g, 0, none⟩)) rfl (by kernel_rfl) (by kernel_rfl) (by kernel_rfl) (fun _ _ _ h => h) (.inl ⟨by rfl, fun W1 h1 => by go_simp⟩) hW ?_
  try simp only [Act.put, List.setIfInBounds_toArray, List.set_cons_zero, List.set_cons_succ]
  refine wpAnyH_take (i := 38) (oi := ⟨some 142, _, _, _, _, _⟩) (v := .int .i64 2) rfl (by kernel_rfl) (by kernel_rfl) (by kernel_rfl) (fun _ _ _ h => h) (.inl ⟨by rfl, fun W1 h1 => by have h2 := cell_kept X0.out h1.1.kept HGP.out; clear h1; go_simp⟩) hW ?_
  try simp only [Act.put, List.setIfInBounds_toArray, List.set_cons_zero, List.set_cons_succ]
  refine wpAnyH_take (i := 39) (oi := ⟨some 143, _, _, _, _, _⟩) (v := .pointer (some ⟨g, 0, none⟩)) rfl (by kernel_rfl) (by kernel_rfl) (by kernel_rfl) (fun _ _ _ h => h) (.inl ⟨by rfl, fun W1 h1 => by go_simp⟩) hW ?_
  try simp only [Act.put, List.setIfInBounds_toArray, List.set_cons_zero, List.set_cons_succ]
  refine wpAnyH_take (i := 40) (oi := ⟨some 144, _, _, _, _, _⟩) (v := .int .i64 2) rfl (by kernel_rfl) (by kernel_rfl) (by kernel_rfl) (fun _ _ _ h => h) (.inl ⟨by rfl, fun W1 h1 => by have h2 := cell_kept X0.out h1.1.kept HGP.out; clear h1; go_simp⟩) hW ?_
  try simp only [Act.put, List.setIfInBounds_toArray, List.set_cons_zero, List.set_cons_succ]
  refine wpAnyH_take (i := 41) (oi := ⟨some 145, _, _, _, _, _⟩) (v := .int .i64 3) rfl (by kernel_rfl) (by kernel_rfl) (by kernel_rfl) (fun _ _ _ h => h) (.inl ⟨by rfl, fun W1 h1 => by have h3 : IntKind.i64.wrap 3 = 3 := (by decide); have h4 : IntKind.i64.wrap (2 + 1) = 3 := (by decide); go_simp⟩) hW ?_
  try simp only [Act.put, List.setIfInBounds_toArray, List.set_cons_zero, List.set_cons_succ]
  refine wpAnyH_take (i := 42) (oi := ⟨some 146, _, _, _, _, _⟩) (v := .agg #[.int .i64 2, .int .i64 3]) rfl (by kernel_rfl) (by kernel_rfl) (by kernel_rfl) (fun _ _ _ h => h) (.inl ⟨by rfl, fun W1 h1 => by go_simp⟩) hW ?_
  try simp only [Act.put, List.setIfInBounds_toArray, List.set_cons_zero, List.set_cons_succ]
  refine wpAnyH_ready (rs := [43]) (by kernel_rfl) (by simp) (AllReadyH.cons rfl (fun K7 hK7 => ?_) AllReadyH.nil)
  go_simp
  have H10 := Aside0.mk (H8.out.below HB10.out)
  refine (later9 a mw 2 40 0 2 3 _ W10 H10.out.alc (by omega) (by omega) (by omega) HL.out.m3).mono ?_
  rintro e W11 ⟨rfl, hkb, hac, hwt⟩
  have HM11 := Aside0.mk (show ∀ A c, W10.heap[d]? = some (.cells #[.slice (some A) 40 c, .map (some m), .bool false, .int .i64 0, .bool false] 62 (0, 0)) → ¬ d = mw from fun A c hd e => by
    subst e
    obtain ⟨cl, h1⟩ := H10.out.alc.wait
    rw [h1] at hd
    cases hd)
  have H11 := Aside0.mk (show PW W11 p d m a mw 40 2 40 0 [(2 + (k : Int), 40)] [(2, 3)] 6 (.slice (some ⟨kb, ko, none⟩) 1 kc) from ⟨blk_kept H10.out.blk hkb.kept HPMW.out, DB_kept H10.out.disk hkb.kept HM11.out, hac, hwt⟩)
  refine hK7.out _ _ (⟨hW.1.then_ hkb (fun k hk => .inl (.inr hk)), cell_kept hW.2 hkb.kept HPMW.out⟩) (fun hW => ?_)
  try simp only [Act.put, List.setIfInBounds_toArray, List.set_cons_zero, List.set_cons_succ]
  clear hkb hac hwt
  refine wpAnyH_take (i := 44) (oi := ⟨some 148, _, _, _, _, _⟩) (v := .bool true) rfl (by kernel_rfl) (by kernel_rfl) (by kernel_rfl) (fun _ _ _ h => h) (.inl ⟨by rfl, fun W1 h1 => by go_simp⟩) hW ?_
  try simp only [Act.put, List.setIfInBounds_toArray, List.set_cons_zero, List.set_cons_succ]
  refine wpAnyH_take (i := 45) (oi := ⟨some 149, _, _, _, _, _⟩) (v := .bool true) rfl (by kernel_rfl) (by kernel_rfl) (by kernel_rfl) (fun _ _ _ h => h) (.inl ⟨by rfl, fun W1 h1 => by go_simp⟩) hW ?_
  try simp only [Act.put, List.setIfInBounds_toArray, List.set_cons_zero, List.set_cons_succ]
  refine wpAnyH_take (i := 46) (oi := ⟨some 150, _, _, _, _, _⟩) (v := .bool true) rfl (by kernel_rfl) (by kernel_rfl) (by kernel_rfl) (fun _ _ _ h => h) (.inl ⟨by rfl, fun W1 h1 => by go_simp⟩) hW ?_
  try simp only [Act.put, List.setIfInBounds_toArray, List.set_cons_zero, List.set_cons_succ]
  refine wpAnyH_take (i := 47) (oi := ⟨some 151, _, _, _, _, _⟩) (v := .pointer (some ⟨p, 0, none⟩)) rfl (by kernel_rfl) (by kernel_rfl) (by kernel_rfl) (fun _ _ _ h => h) (.inl ⟨by rfl, fun W1 h1 => by go_simp⟩) hW ?_
  try simp only [Act.put, List.setIfInBounds_toArray, List.set_cons_zero, List.set_cons_succ]
  refine wpAnyH_ready (rs := [48]) (by kernel_rfl) (by simp) (AllReadyH.cons rfl (fun K8 hK8 => ?_) AllReadyH.nil)
  refine wp_build_of (o := ⟨some 152, _, _, _, _, _⟩) 33 #[] rfl r0 (by simpa using HBE.out) ?_
  refine hK8.out _ _ (hW) (fun hW => ?_)
  try simp only [Act.put, List.setIfInBounds_toArray, List.set_cons_zero, List.set_cons_succ]
  refine wpAnyH_ready (rs := [49]) (by kernel_rfl) (by simp) (AllReadyH.cons rfl (fun K9 hK9 => ?_) AllReadyH.nil)
  go_simp
  refine (kill8_arg p d m a mw 40 2 40 0 _ _ 6 _ r0 zeroP HR0.out (by intro h; have := h.1; simp [zeroP] at this) W11 H11.out (by omega) (by omega) okW23 (by rw [tot23]; omega)).mono ?_
  rintro e W12 ⟨rfl, hb⟩
  have HP11 : p < W11.heap.size := blk_lt H11.out.blk
  refine hK9.out _ _ (⟨hW.1.below hb, (Below.cell (p := ⟨p, 1, none⟩) hb HP11).trans hW.2⟩) (fun hW => ?_)
  try simp only [Act.put, List.setIfInBounds_toArray, List.set_cons_zero, List.set_cons_succ]
  clear hb
  refine wpAnyH_take (i := 50) (oi := ⟨some 154, _, _, _, _, _⟩) (v := .bool true) rfl (by kernel_rfl) (by kernel_rfl) (by kernel_rfl) (fun _ _ _ h => h) (.inl ⟨by rfl, fun W1 h1 => by go_simp⟩) hW ?_
  try simp only [Act.put, List.setIfInBounds_toArray, List.set_cons_zero, List.set_cons_succ]
  refine wpAnyH_take (i := 51) (oi := ⟨some 155, _, _, _, _, _⟩) (v := .bool true) rfl (by kernel_rfl) (by kernel_rfl) (by kernel_rfl) (fun _ _ _ h => h) (.inl ⟨by rfl, fun W1 h1 => by go_simp⟩) hW ?_
  try simp only [Act.put, List.setIfInBounds_toArray, List.set_cons_zero, List.set_cons_succ]
  refine wpAnyH_take (i := 52) (oi := ⟨some 4, _, _, _, _, _⟩) (v := .bool true) rfl (by kernel_rfl) (by kernel_rfl) (by kernel_rfl) (fun _ _ _ h => h) (.inl ⟨by rfl, fun W1 h1 => by go_simp⟩) hW ?_
  try simp only [Act.put, List.setIfInBounds_toArray, List.set_cons_zero, List.set_cons_succ]
  refine wpAnyH_done (by kernel_rfl) ?_ _
  clear hK1 hK2 hK3 hK4 hK5 hK6 hK7 hK8 hK9 K1 K2 K3 K4 K5 K6 K7 K8 K9
  have HFIN := Aside0.mk (HB7.out.trans (hW.1.to_below (fun k hk => by have h1 := HNW.out; have h2 := HMWW.out; rcases hk with rfl | rfl <;> omega) HB7.out.size))
  clear hW
  go_wp2
  rw [HP.out]
  exact ⟨rfl, HFIN.out⟩
end Go.Proofs.Ytchhdafgmifhdaa.LawE
namespace Go.Proofs.Ytchhdafgmifhdaa.LawF
open Go.RowKit Go.Proofs.Ytchhdafgmifhdaa.B8 Go.Proofs.Ytchhdafgmifhdaa.Agg Go.Proofs.Ytchhdafgmifhdaa.CodL Go.Proofs.Ytchhdafgmifhdaa.CodA Go.Proofs.Ytchhdafgmifhdaa.CodB Go.Proofs.Ytchhdafgmifhdaa.CrcL Go.Proofs.Ytchhdafgmifhdaa.CrcA Go.Proofs.Ytchhdafgmifhdaa.CrcB Go.Proofs.Ytchhdafgmifhdaa.PCowLays Go.Proofs.YtchhdafgmifhdaaW.PrintWords Go.Proofs.YtchhdafgmifhdaaW.PrintLast Go.Proofs.YtchhdafgmifhdaaW.PrintMore Go.Proofs.Ytchhdafgmifhdaa.CatL Go.Proofs.Ytchhdafgmifhdaa.PtrA Go.Proofs.Ytchhdafgmifhdaa.PtrB Go.Proofs.Ytchhdafgmifhdaa.PtrE Go.Proofs.Ytchhdafgmifhdaa.OfA Go.Proofs.Ytchhdafgmifhdaa.ExtL Go.Proofs.Ytchhdafgmifhdaa.ExtA Go.Proofs.Ytchhdafgmifhdaa.DskA Go.Proofs.Ytchhdafgmifhdaa.DskB Go.Proofs.Ytchhdafgmifhdaa.DskC Go.Proofs.Ytchhdafgmifhdaa.AlcA Go.Proofs.Ytchhdafgmifhdaa.AlcB Go.Proofs.Ytchhdafgmifhdaa.AlcC Go.Proofs.Ytchhdafgmifhdaa.AlcD Go.Proofs.Ytchhdafgmifhdaa.AlcE Go.Proofs.Ytchhdafgmifhdaa.AlcF Go.Proofs.Ytchhdafgmifhdaa.SpnA Go.Proofs.Ytchhdafgmifhdaa.BlkA Go.Proofs.Ytchhdafgmifhdaa.BlkB Go.Proofs.Ytchhdafgmifhdaa.PoolA Go.Proofs.Ytchhdafgmifhdaa.PoolB Go.Proofs.Ytchhdafgmifhdaa.ShaK Go.Proofs.Ytchhdafgmifhdaa.ExtF Go.Proofs.Ytchhdafgmifhdaa.ExtG Go.Proofs.Ytchhdafgmifhdaa.ExtE Go.Proofs.Ytchhdafgmifhdaa.ExtD Go.Proofs.Ytchhdafgmifhdaa.AlcG Go.Proofs.Ytchhdafgmifhdaa.AlcH Go.Proofs.Ytchhdafgmifhdaa.KpA Go.Proofs.Ytchhdafgmifhdaa.PoolC Go.Proofs.Ytchhdafgmifhdaa.LawA
set_option linter.unusedVariables false
set_option linter.unusedSimpArgs false
set_option maxRecDepth 100000 in
set_option maxHeartbeats 8000000 in
theorem law_zero (A : Option Addr) (c n : Nat) (L : List Int) (x : Int) (w : World) (hr : C8 w A n L) (hb : Byt L) (hnc : n ≤ c) (h0 : n = 0) :
    Calls Try.prog 3 #[.slice A n c, .int .i64 x] w (fun e w' => e = .returned (.bool true) ∧ Below w.heap.size w w') := by
  obtain ⟨P, hP⟩ : ∃ P : Ending → World → Prop, P = fun e w' => e = .returned (.bool true) ∧ Below w.heap.size w w' := ⟨_, rfl⟩
  rw [← hP]
  have HP := Aside0.mk hP
  clear hP
  subst h0
  have HC := Aside0.mk hnc
  clear hr hb hnc
  go_enter Try.func3, Try.ntmps3
  go_wp2_with fail
  refine (fresh4 40 (by omega) (by omega) w).mono ?_
  rintro e W1 ⟨p, d, m, a, mw, rfl, hp, hm, ha, hmw, hpo, hb1⟩
  have H1 := Aside0.mk (PO_ep hpo 5)
  have HNW := Aside0.mk (And.intro hp (And.intro hm ha))
  have p2 : W1.cell? ⟨p, 2, none⟩ = some (.int .i64 1) := by rw [cell_of_row _ _ 2 _ 29 (0, 0) hpo.blk]; rfl
  have f2 : W1.frozen? ⟨p, 2, none⟩ = false := frozen_of_row _ _ 2 _ 29 hpo.blk
  have HB2 := Aside0.mk (show Below w.heap.size w (W1.setCell ⟨p, 2, none⟩ (.int .i64 5)) from hb1.setCell hp _)
  clear hb1 hp hm ha hmw hpo
  go_wp2_with fail
  clear p2 f2
  generalize hW2 : W1.setCell ⟨p, 2, none⟩ (.int .i64 5) = W2 at *
  clear hW2
  refine (lay5_none p d m a mw 40 2 40 0 [(2, 40)] 5 _ A c W2 H1.out (by omega) (by omega)).mono ?_
  rintro e W3 ⟨he, hb3⟩
  obtain ⟨r0, hr0⟩ : ∃ r, r = encP zeroP := ⟨_, rfl⟩
  rw [← hr0] at he
  subst he
  have HR0 := Aside0.mk (show r0.size = 36 ∧ r0.all (·.oneCell') = true by rw [hr0]; exact ⟨encP_size (by simp [zeroP]), encP_one _⟩)
  have HB3 := Aside0.mk (HB2.out.trans (hb3.mono HB2.out.size))
  have H3 := Aside0.mk (H1.out.below hb3)
  obtain ⟨z, hz, hz1, hal⟩ := zero33
  have hal3 := hal W3
  have HZS := Aside0.mk (And.intro hz hz1)
  have HAL := Aside0.mk hal
  have HZ3 := Aside0.mk (blk_new W3 (.cells z 33))
  clear hr0 hb3 hz hz1 hal
  go_wp2_with (refine wpList_store_row rfl 33 (.tmp 6) (.tmp 25) rfl W3.heap.size r0 rfl rfl 33 z HZ3.out (by rw [i33, HR0.out.1]) (by rw [HR0.out.1, HZS.out.1]) HR0.out.2 ?_; revert HP)
  intro HP
  have H4 := Aside0.mk (PO_row (H3.out.below (below_alloc (Below.refl _ _) (.cells z 33))) HZ3.out r0)
  have HB4 := Aside0.mk (show Below w.heap.size w ((W3.alloc (.cells z 33)).setRow W3.heap.size r0) from below_setRow (HB3.out.trans ((below_alloc (Below.refl W3.heap.size W3) _).mono HB3.out.size)) HB3.out.size _)
  obtain ⟨g, hg⟩ : ∃ g, g = W3.heap.size := ⟨_, rfl⟩
  generalize hW4 : (W3.alloc (.cells z 33)).setRow W3.heap.size r0 = W4 at *
  clear hW4
  rw [← hg] at *
  clear hg hal3 HZ3 HB3 H3
  have hcv := Lib.run_convert_bytes_const (P := Try.prog) W4 22 5 #[.int .u8 120] 1 1 Try.underlying22 Try.underlying5
  have H5 := Aside0.mk (H4.out.below (below_alloc (Below.refl _ _) (.cells #[.int .u8 120] 5 (1, 2))))
  have HB5 := Aside0.mk (show Below w.heap.size w (W4.alloc (.cells #[.int .u8 120] 5 (1, 2))) from HB4.out.trans ((below_alloc (Below.refl W4.heap.size W4) _).mono HB4.out.size))
  have HD5 := Aside0.mk (C8_mark W4)
  have hg4 : W4.heap.size < (W4.alloc (.cells #[.int .u8 120] 5 (1, 2))).heap.size := by simp
  have HL := Aside0.mk (lays10 1 (by omega) (by omega))
  go_wp2_with fail
  generalize hW5 : W4.alloc (.cells #[.int .u8 120] 5 (1, 2)) = W5 at *
  clear hW5 hcv
  refine (lay5 p d m a mw 40 2 40 0 [(2, 40)] 5 _ (some ⟨W4.heap.size, 0, none⟩) 1 1 [120] W5 H5.out (by omega) (by omega) (fun W' hk' => ?_) (by intro y hy; have : y = 120 := (by simpa using hy); omega) (by omega) (by omega) (by omega) (by omega) (by omega) 1 (by decide) 2 HL.out.find (by omega) (by decide) (by omega) (by rw [tot40]; decide) (by rw [HL.out.rem]; exact vs40 _ (by decide) (by decide)) (by rw [HL.out.rem]; simp) (by rw [HL.out.rem, tot40]; decide)).mono ?_
  · refine Kcells HD5.out (fun _ _ h => h) (fun ad q v e hq hc => ?_)
    injection e with e
    subst e
    refine cell_kept hc hk' ?_
    rw [hq]
    simp only
    have hm1 := H4.out.map
    obtain ⟨es, cl, hm2, _⟩ := hm1
    obtain ⟨A0, n0, c0, was, ha2, _⟩ := H4.out.alc.blk
    have h1 := blk_lt hm2
    have h2 := blk_lt ha2
    omega
  rintro e W6 ⟨he, hkb, hpo⟩
  obtain ⟨r, hrr⟩ : ∃ r, r = encP (ofP 2 5 [120]) := ⟨_, rfl⟩
  rw [← hrr] at he
  subst he
  have HRR := Aside0.mk (show PC r (ofP 2 5 [120]) ∧ r.size = 36 ∧ r.all (·.oneCell') = true by rw [hrr]; exact ⟨pc _ (ShaE.shaL_len _), encP_size (ShaE.shaL_len _), encP_one _⟩)
  have HB6 := Aside0.mk (show Below w.heap.size w W6 from HB5.out.trans (KB.to_below hkb (fun k hk => by have := HNW.out; omega) HB5.out.size))
  have hal6 := HAL.out W6
  have HZ6 := Aside0.mk (blk_new W6 (.cells z 33))
  have HG7 := Aside0.mk (setRow_heap (W6.alloc (.cells z 33)) W6.heap.size z r 33 _ HZ6.out)
  have HB7 := Aside0.mk (show Below w.heap.size w ((W6.alloc (.cells z 33)).setRow W6.heap.size r) from below_setRow (HB6.out.trans ((below_alloc (Below.refl W6.heap.size W6) _).mono HB6.out.size)) HB6.out.size _)
  have x1 : ((W6.alloc (.cells z 33)).setRow W6.heap.size r).cell? ⟨W6.heap.size, 1, none⟩ = some (.int .i64 5) := by
    rw [cell_of_row _ _ 1 _ 33 (0, 0) HG7.out]; exact HRR.out.1.c1
  clear hrr hkb hpo HB5 H5 HD5 hg4
  go_wp2_with (refine wpList_store_row rfl 33 (.tmp 8) (.tmp 35) rfl W6.heap.size r rfl rfl 33 z HZ6.out (by rw [i33, HRR.out.2.1]) (by rw [HRR.out.2.1, HZS.out.1]) HRR.out.2.2 ?_)
  rw [HP.out]
  exact ⟨rfl, HB7.out⟩
end Go.Proofs.Ytchhdafgmifhdaa.LawF
namespace Go.Proofs.YtchhdafgmifhdaaW.Opens
open Go.RowKit Go.Proofs.YtchhdafgmifhdaaW.PrintWords
set_option linter.unusedVariables false

/-- Whatever of type t can be read as data is of kind d, and G. -/
def Opens {α : Type} (P : Program) (t : TypeId) (d : Kd α) (G : α → Prop) : Prop :=
  ∀ (H : Type) (enc : TypeId × Value → H) (w : World) (base : Nat) (spare : Nat → Bool) (held : Bool) (n : Nat) (cs : List Value) (x : DataW H × List MemPlace),
    DataW.trod enc P w base spare held n t cs = some x → ∃ a, d.K w a cs ∧ G a

theorem opens_int {P : Program} {t : TypeId} {k : IntKind} (ht : P.underlying t = some (.int k)) : Opens P t (Kd.int k) (fun n => (Lit.int k n).wf = true) := by
  intro H enc w base spare held n cs x h
  obtain ⟨m, rfl, _, hw⟩ := DataW.trod_int ht h
  exact ⟨m, rfl, hw⟩

theorem add_add (a : Addr) (i j : Nat) : (a.add i).add j = a.add (i + j) := Go.Deep.add_add a i j

theorem opens_slice {α : Type} {P : Program} {t e : TypeId} {d : Kd α} {G : α → Prop} (ht : P.underlying t = some (.slice e)) (hs : P.cellsOf e = d.sz) (he : Opens P e d G) :
    Opens P t (Kd.slice e d) (fun l => ∀ x ∈ l, G x) := by
  intro H enc w base spare held n cs x h
  rcases Go.Deep.open_slice ht h with ⟨rfl, rfl⟩ | ⟨a, len, cap, m, k, D, Pl, rfl, hb, hl, hm, hmm, rfl, hx⟩
  · exact ⟨[], ⟨none, 0, rfl, Nat.le_refl _, Kd.C_nil _ _⟩, by simp⟩
  · have hlm : len ≤ m := by rw [hmm]; split <;> omega
    have each : ∀ i, i < len → ∃ y : α, (∃ c, c.length = d.sz ∧ d.K w y c ∧ ∀ (j : Nat) (u : Value), c[j]? = some u → w.cell? (a.add (i * d.sz + j)) = some u) ∧ G y := by
      intro i hi
      obtain ⟨cs', h1, h2⟩ := hx i (by omega)
      rw [hs] at h1
      obtain ⟨_, hlen, hcell⟩ := World.cells?_some h1
      obtain ⟨y, hy, hg⟩ := he H enc w base spare held k cs' _ h2
      refine ⟨y, ⟨cs', hlen, hy, fun j u hu => ?_⟩, hg⟩
      have hj : j < d.sz := by
        have := (List.getElem?_eq_some_iff.1 hu).1
        omega
      have := hcell j hj
      rw [add_add] at this
      rw [this]
      exact hu
    by_cases h0 : len = 0
    · subst h0
      exact ⟨[], ⟨some a, cap, rfl, Nat.zero_le _, rfl, by simp, fun h => absurd h (Nat.lt_irrefl 0)⟩, by simp⟩
    · have : Nonempty α := ⟨(each 0 (by omega)).choose⟩
      have : Inhabited α := Classical.inhabited_of_nonempty this
      obtain ⟨f, hf⟩ := Go.Deep.choose_lt each
      refine ⟨(List.range len).map f, ⟨some a, cap, by simp, by simpa using hl, by simp, by unfold maxLen at hm; simp; omega, fun _ => ⟨a, rfl, ?_⟩⟩, ?_⟩
      · intro j p hj
        have hjl : j < len := by have := (List.getElem?_eq_some_iff.1 hj).1; simpa using this
        have : f j = p := by
          rw [List.getElem?_map, List.getElem?_range hjl] at hj
          simpa using hj
        subst this
        exact (hf j hjl).1
      · intro x hx
        obtain ⟨i, hi, rfl⟩ := List.mem_map.1 hx
        exact (hf i (List.mem_range.1 hi)).2

theorem opens_mono {α : Type} {P : Program} {t : TypeId} {d : Kd α} {G G' : α → Prop} (h : Opens P t d G) (hg : ∀ a, G a → G' a) : Opens P t d G' := by
  intro H enc w base spare held n cs x hx
  obtain ⟨a, hk, h2⟩ := h H enc w base spare held n cs x hx
  exact ⟨a, hk, hg a h2⟩

end Go.Proofs.YtchhdafgmifhdaaW.Opens
namespace Go.Proofs.Ytchhdafgmifhdaa.LawG
open Go.RowKit Go.Proofs.Ytchhdafgmifhdaa.B8 Go.Proofs.Ytchhdafgmifhdaa.Agg Go.Proofs.Ytchhdafgmifhdaa.CodL Go.Proofs.Ytchhdafgmifhdaa.CodA Go.Proofs.Ytchhdafgmifhdaa.CodB Go.Proofs.Ytchhdafgmifhdaa.CrcL Go.Proofs.Ytchhdafgmifhdaa.CrcA Go.Proofs.Ytchhdafgmifhdaa.CrcB Go.Proofs.Ytchhdafgmifhdaa.PCowLays Go.Proofs.YtchhdafgmifhdaaW.PrintWords Go.Proofs.YtchhdafgmifhdaaW.PrintLast Go.Proofs.YtchhdafgmifhdaaW.PrintMore Go.Proofs.YtchhdafgmifhdaaW.Opens
set_option linter.unusedVariables false
theorem law (A : Option Addr) (c n : Nat) (L : List Int) (x : Int) (w : World) (hr : C8 w A n L) (hb : Byt L) (hnc : n ≤ c) :
    Calls Try.prog 3 #[.slice A n c, .int .i64 x] w (fun e w' => e = .returned (.bool true) ∧ Below w.heap.size w w') := by
  rcases Nat.eq_zero_or_pos n with h0 | h0
  · exact LawF.law_zero A c n L x w hr hb hnc h0
  · rcases LawA.bits_one x with hx | hx
    · by_cases h : n ≤ 5000
      · exact LawB.law_even A c n L x w hr hb hnc h0 h hx
      · exact LawC.law_even2 A c n L x w hr hb hnc (by omega) hx
    · by_cases h : n ≤ 5000
      · exact LawD.law_odd A c n L x w hr hb hnc h0 h hx
      · exact LawE.law_odd2 A c n L x w hr hb hnc (by omega) hx
theorem byte_wf {x : Int} (h : (Lit.int .u8 x).wf = true) : 0 ≤ x ∧ x < 256 := by
  have : 0 ≤ x ∧ x ≤ 255 := by simpa [Lit.wf, IntKind.min, IntKind.max, IntKind.signed, IntKind.bits] using h
  omega
theorem cells5 : Try.prog.cellsOf 5 = 1 := by kernel_rfl
theorem opens22 : Opens Try.prog 22 (Kd.slice 5 (Kd.int .u8)) (fun l => Byt l) := opens_mono (opens_slice Try.underlying22 (by rw [cells5]; rfl) (opens_int Try.underlying5)) (fun l h x hx => byte_wf (h x hx))
end Go.Proofs.Ytchhdafgmifhdaa.LawG
