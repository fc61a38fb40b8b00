/- Own texts, one behind the other, each with what the claim uses of it: ShaD DskC AlcA AlcB AlcC AlcD AlcE AlcF ShaE PtrA PtrE OfA PtrB SpnA BlkA PoolA BlkB PoolB. -/
import Derived.Test.YtchhdafgmifhdaaChecked
import GoSem.Claim
import GoSem.ClaimJoined
import GoSem.ClaimMapViews
import Derived.JoinedTies
import Derived.KernelRfl
import Derived.Test.YtchhdafgmifhdaaProg
import Derived.Below
import Derived.Deep.Draws
import Derived.Deep.AppendLies
import Derived.Maps.AppendAt
import Derived.OwnWalk
import Derived.Laws.BytesArg
import Derived.Laws.MakeOwn
import Derived.Laws.OwnMore
import Derived.Deep.OwnRows
import Derived.Tactics
import Derived.Lib.ConvBytes
import Derived.Laws.Slices
import Derived.WalkKit
import Derived.RowKit3
import Derived.Deep.LoopGhost
import Derived.Deep.QuietTactic
import Derived.BigQuiet
import Derived.WideLaws
import Derived.Deep.DeepCutAuto
import Derived.Deep.CutBlock
import Derived.Deep.RegionHeld3
import Derived.Laws.Rows
import Derived.Lib.AppendStr
import Derived.ArgAppend
import Derived.Laws.IdiomCopy
import Derived.OrdersHeld
import Derived.Laws.BitsLemmas
import Derived.RowKit
import Derived.Laws.StructEq
import Derived.Deep.Slices
import Derived.WalkSpells
import Derived.WalkSmall
import Derived.Laws.Tables
import Derived.Deep.WholeRow
import Derived.StillTailTactics
import Derived.MapKept
import Derived.Laws.CopyOwn
import Derived.Maps.RangeRun
import Derived.Deep.MidRow
import Derived.Laws.Cover3
import Derived.Lib.SlBytesConst
import Derived.OpenShut
import Derived.SizedLaws
import Derived.ChangeSlices
import Derived.ProofKit
import Derived.ShutString
import Derived.ChangeOld
import Derived.Test.YtchhdafgmifhdaaWSized
import Derived.Test.YtchhdafgmifhdaaWWords
import Derived.Test.YtchhdafgmifhdaaSCA
namespace Go.Proofs.Ytchhdafgmifhdaa.ShaD
open Go.RowKit Go.Proofs.Ytchhdafgmifhdaa.B8 Go.Proofs.Ytchhdafgmifhdaa.Agg Go.Proofs.Ytchhdafgmifhdaa.CodL Go.Proofs.Ytchhdafgmifhdaa.CodA Go.Proofs.Ytchhdafgmifhdaa.CodB Go.Proofs.Ytchhdafgmifhdaa.CrcL Go.Proofs.Ytchhdafgmifhdaa.CrcA Go.Proofs.Ytchhdafgmifhdaa.CrcB Go.Proofs.Ytchhdafgmifhdaa.PCowLays Go.Proofs.YtchhdafgmifhdaaW.PrintWords Go.Proofs.YtchhdafgmifhdaaW.PrintLast Go.Proofs.YtchhdafgmifhdaaW.PrintMore Go.Proofs.Ytchhdafgmifhdaa.ShaA Go.Proofs.Ytchhdafgmifhdaa.ShaB Go.Proofs.Ytchhdafgmifhdaa.ShaK Go.Proofs.Ytchhdafgmifhdaa.ShaC Go.Proofs.Ytchhdafgmifhdaa.CrcC
set_option linter.unusedVariables false
set_option linter.unusedSimpArgs false
attribute [local go_sem] xr_eq an_eq or_eq ad_eq ad_eq2
attribute [local go_sem] max2_int min2_int max_two min_two
def beginH : List Int := [1779033703, 3144134277, 1013904242, 2773480762, 1359893119, 2600822924, 528734635, 1541459225]
abbrev B90 : Array Value := #[.int .u32 1779033703, .int .u32 3144134277, .int .u32 1013904242, .int .u32 2773480762, .int .u32 1359893119, .int .u32 2600822924, .int .u32 528734635, .int .u32 1541459225, .int .u64 0]
theorem b90 : B90 = stA beginH 0 := by
  unfold stA arr beginH
  rfl
set_option maxRecDepth 100000 in
theorem begin_calls (w : World) : Calls Try.prog 49 #[] w fun e w' => e = .returned (.agg (stA beginH 0)) ∧ Below w.heap.size w w' := by
  rw [← b90]
  obtain ⟨P, hP⟩ : ∃ P : Ending → World → Prop, P = (fun e w' => e = .returned (.agg B90) ∧ Below w.heap.size w w') := ⟨_, rfl⟩
  rw [← hP]
  have HP := Aside0.mk hP
  clear hP
  go_enter Try.func49, Try.ntmps49
  go_wp2
  refine bodyPost_ret (res_c (p := 0) _ rfl rfl (heap_new _ _) Try.underlying90 rfl i90) rfl ?_
  rw [HP.out]
  exact ⟨rfl, below_alloc (Below.refl _ _) _⟩
abbrev Z93 : Array Value := #[.int .u8 0, .int .u8 0, .int .u8 0, .int .u8 0, .int .u8 0, .int .u8 0, .int .u8 0, .int .u8 0, .int .u8 0, .int .u8 0, .int .u8 0, .int .u8 0, .int .u8 0, .int .u8 0, .int .u8 0, .int .u8 0, .int .u8 0, .int .u8 0, .int .u8 0, .int .u8 0, .int .u8 0, .int .u8 0, .int .u8 0, .int .u8 0, .int .u8 0, .int .u8 0, .int .u8 0, .int .u8 0, .int .u8 0, .int .u8 0, .int .u8 0, .int .u8 0, .int .u8 0, .int .u8 0, .int .u8 0, .int .u8 0, .int .u8 0, .int .u8 0, .int .u8 0, .int .u8 0, .int .u8 0, .int .u8 0, .int .u8 0, .int .u8 0, .int .u8 0, .int .u8 0, .int .u8 0, .int .u8 0, .int .u8 0, .int .u8 0, .int .u8 0, .int .u8 0, .int .u8 0, .int .u8 0, .int .u8 0, .int .u8 0, .int .u8 0, .int .u8 0, .int .u8 0, .int .u8 0, .int .u8 0, .int .u8 0, .int .u8 0, .int .u8 0]
abbrev Z31 : Array Value := #[.int .u8 0, .int .u8 0, .int .u8 0, .int .u8 0, .int .u8 0, .int .u8 0, .int .u8 0, .int .u8 0, .int .u8 0, .int .u8 0, .int .u8 0, .int .u8 0, .int .u8 0, .int .u8 0, .int .u8 0, .int .u8 0, .int .u8 0, .int .u8 0, .int .u8 0, .int .u8 0, .int .u8 0, .int .u8 0, .int .u8 0, .int .u8 0, .int .u8 0, .int .u8 0, .int .u8 0, .int .u8 0, .int .u8 0, .int .u8 0, .int .u8 0, .int .u8 0]
theorem z93 : Z93 = arr .u8 (List.replicate 64 0) := rfl
theorem z31 : Z31 = arr .u8 (List.replicate 32 0) := rfl
theorem i5 : (Try.prog.info? 5).map (·.size) = some 1 := by kernel_rfl
theorem und31 : Try.prog.underlying 31 = some (.array 32 5) := by kernel_rfl
theorem i31 : (Try.prog.info? 31).map (·.size) = some 32 := by kernel_rfl
/-- The rest, marked, and zeros. -/
def padR (R : List Int) : List Int := (R ++ List.replicate (64 - R.length) 0).set R.length 128
/-- The length is laid. -/
def putN (L : List Int) (n : Int) : Nat → List Int
  | 0 => L
  | i + 1 => (putN L n i).set (63 - i) (n / 2 ^ (8 * i) % 256)
def outB (H : List Int) (i : Nat) : Int := H.getD (i / 4) 0 / 2 ^ (8 * (3 - i % 4)) % 256
def outL (H : List Int) : Nat → List Int
  | 0 => List.replicate 32 0
  | i + 1 => (outL H i).set i (outB H i)
def lenN (n : Int) (m : Nat) : Int := IntKind.u64.wrap (8 * IntKind.u64.wrap (n + (m : Int)))
def endL (H : List Int) (n : Int) (R : List Int) : List Int :=
  if 56 ≤ R.length then outL (blockH (blockH H (padR R)) (putN (List.replicate 64 0) (lenN n R.length) 8)) 32
  else outL (blockH H (putN (padR R) (lenN n R.length) 8)) 32
theorem padR_len {R : List Int} (h : R.length < 64) : (padR R).length = 64 := by rw [padR, List.length_set, List.length_append, List.length_replicate]; omega
theorem putN_len (L : List Int) (n : Int) (i : Nat) : (putN L n i).length = L.length := by
  induction i with
  | zero => rfl
  | succ i ih => rw [putN, List.length_set, ih]
theorem outL_len (H : List Int) (i : Nat) : (outL H i).length = 32 := by
  induction i with
  | zero => rfl
  | succ i ih => rw [outL, List.length_set, ih]
/-- The bytes of a row, one by one. -/
theorem C8_cells {w : World} {A : Option Addr} {n : Nat} {l : List Int} (h : C8 w A n l) (h0 : 0 < n) : ∃ ad, A = some ad ∧ ∀ j v, (l.map (Value.int .u8))[j]? = some v → w.cell? (ad.add j) = some v := by
  obtain ⟨b, off, rfl, _, hc⟩ := C_at 0 h h0
  refine ⟨_, rfl, fun j v hj => ?_⟩
  have hjl : j < l.length := by
    have := (List.getElem?_eq_some_iff.1 hj).1
    simpa using this
  have := hc j (by have := h.1; omega)
  rw [add_at, this]
  rw [List.getElem?_map, List.getElem?_eq_getElem hjl] at hj
  rw [List.getD_eq_getElem?_getD, List.getElem?_eq_getElem hjl]
  simpa using hj
/-- Where End stands. -/
structure EN (w : World) (st : Array Value) (L : List Int) (W : World) : Prop where
  s : W.heap[w.heap.size]? = some (.cells st 90 (0, 0))
  r : W.heap[w.heap.size + 1]? = some (.cells Z31 31 (0, 0))
  b : W.heap[w.heap.size + 1 + 1]? = some (.cells (arr .u8 L) 93 (0, 0))
  below : Below w.heap.size w W
theorem EN.on {w : World} {st : Array Value} {L : List Int} {W W1 : World} (h : EN w st L W) (hb : Below W.heap.size W W1) : EN w st L W1 :=
  ⟨blk_below h.s hb, blk_below h.r hb, blk_below h.b hb, below_then h.below h.below.size hb⟩
theorem EN.set {w : World} {st : Array Value} {L : List Int} {W : World} (h : EN w st L W) (i : Nat) (x : Int) : EN w st (L.set i x) (W.setCell ⟨w.heap.size + 1 + 1, i, none⟩ (.int .u8 x)) :=
  ⟨(Below.heap_setCell W ⟨w.heap.size + 1 + 1, i, none⟩ _ _ (by show _ ≠ w.heap.size + 1 + 1; omega)).trans h.s, (Below.heap_setCell W ⟨w.heap.size + 1 + 1, i, none⟩ _ _ (by show _ ≠ w.heap.size + 1 + 1; omega)).trans h.r, set_arr h.b i x, h.below.setCell (by show _ ≤ w.heap.size + 1 + 1; omega) _⟩
theorem EN.setB {w : World} {st : Array Value} {L L' : List Int} {W : World} (h : EN w st L W) : EN w st L' (W.setRow (w.heap.size + 1 + 1) (arr .u8 L')) :=
  ⟨(setRow_other _ _ _ _ (by omega)).trans h.s, (setRow_other _ _ _ _ (by omega)).trans h.r, setRow_heap _ _ _ _ _ _ h.b, below_setRow h.below (by omega) _⟩
theorem EN.setS {w : World} {st st' : Array Value} {L : List Int} {W : World} (h : EN w st L W) : EN w st' L (W.setRow w.heap.size st') :=
  ⟨setRow_heap _ _ _ _ _ _ h.s, (setRow_other _ _ _ _ (by omega)).trans h.r, (setRow_other _ _ _ _ (by omega)).trans h.b, below_setRow h.below (Nat.le_refl _) _⟩
structure EO (w : World) (st : Array Value) (g : Nat) (L : List Int) (W : World) : Prop where
  s : W.heap[w.heap.size]? = some (.cells st 90 (0, 0))
  r : W.heap[w.heap.size + 1]? = some (.cells Z31 31 (0, 0))
  o : W.heap[g]? = some (.cells (arr .u8 L) 31 (0, 0))
  below : Below w.heap.size w W
theorem EO.set {w : World} {st : Array Value} {g : Nat} {L : List Int} {W : World} (h : EO w st g L W) (h0 : g ≠ w.heap.size) (h1 : g ≠ w.heap.size + 1) (hg : w.heap.size ≤ g) (i : Nat) (x : Int) : EO w st g (L.set i x) (W.setCell ⟨g, i, none⟩ (.int .u8 x)) :=
  ⟨(Below.heap_setCell W ⟨g, i, none⟩ _ _ (Ne.symm h0)).trans h.s, (Below.heap_setCell W ⟨g, i, none⟩ _ _ (Ne.symm h1)).trans h.r, set_arr h.o i x, h.below.setCell hg _⟩
set_option maxRecDepth 100000 in
set_option maxHeartbeats 8000000 in
theorem end_calls (H : List Int) (n : Int) (A : Option Addr) (c m : Nat) (R : List Int) (hH : H.length = 8) (w : World) (hr : C8 w A m R) (hmc : m ≤ c) (hm : m < 64) :
    Calls Try.prog 51 #[.agg (stA H n), .slice A m c] w fun e w' => e = .returned (.agg (arr .u8 (endL H n R))) ∧ Below w.heap.size w w' := by
  obtain ⟨P, hP⟩ : ∃ P : Ending → World → Prop, P = (fun e w' => e = .returned (.agg (arr .u8 (endL H n R))) ∧ Below w.heap.size w w') := ⟨_, rfl⟩
  rw [← hP]
  have HP := Aside0.mk hP
  have hRm : R.length = m := hr.1
  obtain ⟨st, hst⟩ : ∃ st, st = stA H n := ⟨_, rfl⟩
  rw [← hst]
  have HST := Aside0.mk (And.intro hst (And.intro hH (show st.size = 9 by rw [hst, stA_size hH])))
  have hcut : ∀ W, (Instr.slice 22 (.slice A m c) none (some (.int .i64 (m : Int))) none).run Try.prog W = .ok (.slice A m c) W := cut8_to A m c m (Nat.le_refl _) hmc
  have b0 := below_alloc (below_alloc (Below.refl w.heap.size w) (.cells st 90)) (.cells Z31 31)
  have hs1 : (w.alloc (.cells st 90)).heap.size = w.heap.size + 1 := by simp
  have g0 := blk_alloc (blk_new w (.cells st 90)) (.cells Z31 31)
  have g1 := blk_new (w.alloc (.cells st 90)) (.cells Z31 31)
  rw [hs1] at g1
  have hs2 : ((w.alloc (.cells st 90)).alloc (.cells Z31 31)).heap.size = w.heap.size + 1 + 1 := by simp
  have g2 := blk_new ((w.alloc (.cells st 90)).alloc (.cells Z31 31)) (.cells Z93 93)
  rw [hs2] at g2
  have HE := Aside0.mk (⟨blk_alloc g0 _, blk_alloc g1 _, by rw [← z93]; exact g2, below_alloc b0 _⟩ : EN w st (List.replicate 64 0) (((w.alloc (.cells st 90)).alloc (.cells Z31 31)).alloc (.cells Z93 93)))
  have q8 : ((w.alloc (.cells st 90)).alloc (.cells Z31 31)).cell? ⟨w.heap.size, 8, none⟩ = some (.int .u64 n) := by rw [cell_of_row _ _ 8 _ 90 (0, 0) g0, hst, stA_n hH]
  have HR := Aside0.mk (And.intro hr hRm)
  have HM := Aside0.mk hmc
  clear hP hst hH g0 g1 g2 b0 hs1 hs2 hr hRm hmc
  have hcs : 0 < (R.map (Value.int .u8)).length → (some (⟨w.heap.size + 1 + 1, 0, none⟩ : Addr)) = some ⟨w.heap.size + 1 + 1, 0, none⟩ ∧ ∃ ad, A = some ad ∧ ∀ j v, (R.map (Value.int .u8))[j]? = some v → (((w.alloc (.cells st 90)).alloc (.cells Z31 31)).alloc (.cells Z93 93)).cell? (ad.add j) = some v := fun h0 => by
    have hrd : C8 (((w.alloc (.cells st 90)).alloc (.cells Z31 31)).alloc (.cells Z93 93)) A m R := Kd.C_below HR.out.1 HE.out.below
    obtain ⟨ad, e, hc⟩ := C8_cells hrd (by rw [List.length_map] at h0; have := HR.out.2; omega)
    exact ⟨rfl, ad, e, hc⟩
  have HCS := Aside0.mk hcs
  clear hcs
  go_enter Try.func51, Try.ntmps51
  go_wp2_with (refine wpList_copy_splice (o := ⟨some 24, _, _, _, _, _⟩) rfl (.tmp 22) (.tmp 23) 22 22 rfl 5 Try.underlying22 i5 (some ⟨w.heap.size + 1 + 1, 0, none⟩) A 64 64 m c rfl rfl (w.heap.size + 1 + 1) 0 ((List.replicate 64 0).map (Value.int .u8)) 93 HE.out.b (R.map (Value.int .u8)) (by rw [List.length_map, HR.out.2]; exact (Nat.min_eq_left (by omega)).symm) HCS.out (by rw [List.length_map, List.length_map, List.length_replicate]; have := HR.out.2; omega) (fun v hv => by obtain ⟨x, _, rfl⟩ := List.mem_map.1 hv; rfl) (w.heap.size + 1 + 1) _ (Below.refl _ _) (Nat.le_refl _) ?_)
  intro w3 hsp hb3
  have hE3 : EN w st (R ++ List.replicate (64 - R.length) 0) w3 := by
    refine ⟨(hb3.block _ (by omega)).trans HE.out.s, (hb3.block _ (by omega)).trans HE.out.r, ?_, HE.out.below.trans (hb3.mono (by omega))⟩
    refine (show w3.heap[w.heap.size + 1 + 1]? = some (.cells (splice ((List.replicate 64 0).map (Value.int .u8)) 0 (R.map (Value.int .u8))).toArray 93 (0, 0)) from hsp.out).trans ?_
    unfold splice arr
    simp only [List.take_zero, List.nil_append, List.map_append, List.map_replicate, List.drop_replicate, List.length_map, Nat.zero_add]
  have HE3 := Aside0.mk hE3
  have q1 : w3.frozen? ⟨w.heap.size + 1 + 1, m, none⟩ = false := frozen_of_row _ _ m _ 93 hE3.b
  have q0 : w3.cell? ⟨w.heap.size + 1 + 1, m, none⟩ = some (.int .u8 ((R ++ List.replicate (64 - R.length) 0).getD m 0)) := by
    rw [cell_of_row _ _ m _ 93 (0, 0) hE3.b, arr_at (by rw [List.length_append, List.length_replicate]; have := HR.out.2; omega)]
  have HL := Aside0.mk (show (R.map (Value.int .u8)).length = m by rw [List.length_map]; exact HR.out.2)
  first | rw [HL.out] | rw [HR.out.2]
  have HE4 := Aside0.mk (hE3.set m 128)
  rw [← HR.out.2] at HE4
  clear hE3 hsp hb3 HE HCS q8
  obtain ⟨nn, hnn⟩ : ∃ nn, nn = lenN n m := ⟨_, rfl⟩
  have HNN := Aside0.mk hnn
  rw [show IntKind.u64.wrap (8 * IntKind.u64.wrap (n + (m : Int))) = nn from hnn.symm]
  clear hnn
  by_cases h56 : 56 ≤ m
  · have hd : decide ((56 : Int) ≤ (m : Int)) = true := decide_eq_true (by omega)
    have HE6 : Aside0 (EN w st (padR R) (w3.setCell ⟨w.heap.size + 1 + 1, m, none⟩ (.int .u8 128))) := ⟨by have := HE4.out; rw [HR.out.2] at this; rw [padR, HR.out.2]; exact this⟩
    have hpl := padR_len (R := R) (by have := HR.out.2; omega)
    obtain ⟨cb, hcb⟩ : ∃ cb, cb = arr .u8 (padR R) := ⟨_, rfl⟩
    have HCB := Aside0.mk (And.intro hcb (And.intro (show cb.size = 64 by rw [hcb, arr_size, hpl]) hpl))
    have hsb := Aside0.mk HE6.out.b
    rw [← hcb] at hsb
    clear hcb HE4 hpl
    go_wp2_with (first | (refine wpList_load_row rfl 90 (.tmp 2) rfl w.heap.size rfl 90 st (0, 0) _ HE6.out.s Try.underlying90 rfl (by rw [i90, HST.out.2.2]) ?_) | (refine wpList_load_row rfl 93 (.tmp 6) rfl (w.heap.size + 1 + 1) rfl 93 cb (0, 0) _ hsb.out u93 rfl (by rw [i93, HCB.out.2.1]) ?_))
    generalize hw6 : w3.setCell ⟨w.heap.size + 1 + 1, m, none⟩ (.int .u8 128) = w6 at *
    clear hw6
    have hbc := block_calls H n (padR R) HST.out.2.1 HCB.out.2.2 w6
    rw [← HST.out.1, ← HCB.out.1] at hbc
    refine hbc.mono ?_
    rintro e w7 ⟨he, hb7⟩
    obtain ⟨st1, hst1⟩ : ∃ x, x = stA (blockH H (padR R)) (IntKind.u64.wrap (n + 64)) := ⟨_, rfl⟩
    rw [← hst1] at he
    subst he
    have HS1 := Aside0.mk (And.intro hst1 (And.intro (show (blockH H (padR R)).length = 8 by rw [blockH_len HST.out.2.1]) (show st1.size = 9 by rw [hst1, stA_size (blockH_len HST.out.2.1 _)])))
    have hone := Aside0.mk (show st1.all (·.oneCell') = true by rw [hst1]; exact stA_one _ _)
    have HE7 := Aside0.mk (HE6.out.on hb7)
    have hsb7 := Aside0.mk (show (w7.setRow w.heap.size st1).heap[w.heap.size + 1 + 1]? = some (.cells cb 93 (0, 0)) by rw [setRow_other _ _ _ _ (by omega), HE7.out.b, HCB.out.1])
    have HL1 := Aside0.mk (show (List.replicate 64 (0 : Int)).length = 64 by rw [List.length_replicate])
    have HE5 : Aside0 (EN w st1 (putN (List.replicate 64 0) nn 0) ((w7.setRow w.heap.size st1).setRow (w.heap.size + 1 + 1) Z93)) := ⟨by rw [putN]; exact (HE7.out.setS (st' := st1)).setB (L' := List.replicate 64 0)⟩
    clear hbc hst1 hb7 HE6 hsb
    go_wp2_with (first | (refine wpList_store_row rfl 90 (.tmp 2) (.tmp 31) rfl w.heap.size st1 rfl rfl 90 st HE7.out.s (by rw [i90, HS1.out.2.2]) (by rw [HS1.out.2.2, HST.out.2.2]) hone.out ?_) | (refine wpList_build_of rfl 93 #[] rfl Z93 (by kernel_rfl) ?_) | (refine wpList_store_row rfl 93 (.tmp 6) (.tmp 32) rfl (w.heap.size + 1 + 1) Z93 rfl rfl 93 cb hsb7.out (by rw [i93]; rfl) (by rw [HCB.out.2.1]; rfl) (by rw [z93]; exact arr_one _ _) ?_))
    go_loopw [33] (fun v33 wr => ∃ (i : Nat), v33 = .int .i64 (i : Int) ∧ i ≤ 8 ∧ Aside0 (EN w st1 (putN (List.replicate 64 0) nn i) wr)) (fun v _ => 8 - (intOf v).toNat)
    case atStart => exact ⟨0, rfl, by omega, HE5⟩
    case round =>
      clear HE5
      obtain ⟨i, rfl, hi, HE⟩ := hrel
      by_cases hlt : i < 8
      · have hd : decide ((i : Int) < 8) = true := decide_eq_true (by omega)
        obtain ⟨j, hj1, hj2⟩ : ∃ j, j + i ≤ 63 ∧ 63 ≤ j + i := ⟨63 - i, by omega, by omega⟩
        have hji : (63 : Int) - (i : Int) = (j : Int) := by omega
        have h8i : (8 * (i : Int)).toNat = 8 * i := by omega
        have q1 : wr.frozen? ⟨w.heap.size + 1 + 1, j, none⟩ = false := frozen_of_row _ _ j _ 93 HE.out.b
        have q0 : wr.cell? ⟨w.heap.size + 1 + 1, j, none⟩ = some (.int .u8 ((putN (List.replicate 64 0) nn i).getD j 0)) := by
          rw [cell_of_row _ _ j _ 93 (0, 0) HE.out.b, arr_at (by rw [putN_len, HL1.out]; omega)]
        have HE2 := Aside0.mk (HE.out.set j (nn / 2 ^ (8 * i) % 256))
        have HN := Aside0.mk (show (putN (List.replicate 64 0) nn i).set j (nn / 2 ^ (8 * i) % 256) = putN (List.replicate 64 0) nn (i + 1) by rw [putN, show 63 - i = j by omega])
        rw [HN.out] at HE2
        go_wp2
        go_roundw
        case rel => exact ⟨i + 1, by go_num, by omega, HE2⟩
        case measure => simp [intOf]; omega
      · obtain rfl : i = 8 := by omega
        rw [show ((8 : Nat) : Int) = 8 from rfl]
        have hd : decide ((8 : Int) < 8) = false := by decide
        obtain ⟨cb, hcb⟩ : ∃ cb, cb = arr .u8 (putN (List.replicate 64 0) nn 8) := ⟨_, rfl⟩
        have HCB := Aside0.mk (And.intro hcb (show cb.size = 64 by rw [hcb, arr_size, putN_len, HL1.out]))
        have hsb := Aside0.mk HE.out.b
        rw [← hcb] at hsb
        clear hcb
        go_wp2_with (first | (refine wpList_load_row rfl 90 (.tmp 2) rfl w.heap.size rfl 90 st1 (0, 0) _ HE.out.s Try.underlying90 rfl (by rw [i90, HS1.out.2.2]) ?_) | (refine wpList_load_row rfl 93 (.tmp 6) rfl (w.heap.size + 1 + 1) rfl 93 cb (0, 0) _ hsb.out u93 rfl (by rw [i93, HCB.out.2]) ?_))
        have hbc := block_calls (blockH H (padR R)) (IntKind.u64.wrap (n + 64)) (putN (List.replicate 64 0) nn 8) HS1.out.2.1 (by rw [putN_len, HL1.out]) wr
        rw [← HS1.out.1, ← HCB.out.1] at hbc
        refine hbc.mono ?_
        rintro e w4 ⟨he, hb4⟩
        obtain ⟨st2, hst2⟩ : ∃ x, x = stA (blockH (blockH H (padR R)) (putN (List.replicate 64 0) nn 8)) (IntKind.u64.wrap ((IntKind.u64.wrap (n + 64)) + 64)) := ⟨_, rfl⟩
        rw [← hst2] at he
        subst he
        obtain ⟨H2, hH2⟩ : ∃ x, x = blockH (blockH H (padR R)) (putN (List.replicate 64 0) nn 8) := ⟨_, rfl⟩
        have HS2 := Aside0.mk (And.intro (show st2 = stA H2 (IntKind.u64.wrap ((IntKind.u64.wrap (n + 64)) + 64)) by rw [hst2, hH2]) (And.intro (show H2.length = 8 by rw [hH2, blockH_len HS1.out.2.1]) (And.intro (show st2.size = 9 by rw [hst2, stA_size (blockH_len HS1.out.2.1 _)]) (show st2.all (·.oneCell') = true by rw [hst2]; exact stA_one _ _))))
        have HF := Aside0.mk (show outL H2 32 = endL H n R by rw [endL, if_pos (by rw [HR.out.2]; omega), HR.out.2, ← HNN.out, ← hH2])
        have he4 := (HE.out.on hb4)
        have HE4s := Aside0.mk he4
        have he6 := he4.setS (st' := st2)
        obtain ⟨w5, hw5⟩ : ∃ w5, w5 = w4.setRow w.heap.size st2 := ⟨_, rfl⟩
        rw [← hw5] at he6
        have hlt5 : w.heap.size + 1 + 1 < w5.heap.size := blk_lt he6.b
        have HO := Aside0.mk (⟨blk_alloc he6.s _, blk_alloc he6.r _, by rw [← z31]; exact blk_new w5 (.cells Z31 31), below_alloc he6.below _⟩ : EO w st2 w5.heap.size (List.replicate 32 0) (w5.alloc (.cells Z31 31)))
        obtain ⟨g8, hg8⟩ : ∃ g8, g8 = w5.heap.size := ⟨_, rfl⟩
        have HG8 := Aside0.mk hg8
        have hg8w : g8 = w4.heap.size := by rw [hg8, hw5, size_setRow]
        rw [← hg8] at HO hlt5
        have HW5 := Aside0.mk hw5
        clear hbc hst2 hH2 hb4 he4 he6 hg8 HE hsb
        have hsz : (w4.setRow w.heap.size st2).heap.size = g8 := by rw [size_setRow, ← hg8w]
        clear hg8w
        go_wp2_with (refine wpList_store_row rfl 90 (.tmp 2) (.tmp 47) rfl w.heap.size st2 rfl rfl 90 st1 HE4s.out.s (by rw [i90, HS2.out.2.2.1]) (by rw [HS2.out.2.2.1, HS1.out.2.2]) HS2.out.2.2.2 ?_)
        go_loopw [48] (fun v48 wr => ∃ (i : Nat), v48 = .int .i64 (i : Int) ∧ i ≤ 32 ∧ Aside0 (EO w st2 g8 (outL H2 i) wr)) (fun v _ => 32 - (intOf v).toNat)
        case atStart => exact ⟨0, rfl, by omega, ⟨by rw [← HW5.out]; exact HO.out⟩⟩
        case round =>
          clear HO
          obtain ⟨i, rfl, hi, HO⟩ := hrel
          by_cases hlt : i < 32
          · have hd : decide ((i : Int) < 32) = true := decide_eq_true (by omega)
            obtain ⟨q, hq⟩ : ∃ q, q = i / 4 := ⟨_, rfl⟩
            have hqi : (i : Int) / 4 = (q : Int) := by omega
            obtain ⟨r, hr⟩ : ∃ r, r = i % 4 := ⟨_, rfl⟩
            have hri : (i : Int) % 4 = (r : Int) := by omega
            have hr4 : r ≤ 3 := by omega
            obtain ⟨s, hs⟩ : ∃ s, s = 8 * (3 - r) := ⟨_, rfl⟩
            have hsi : (8 : Int) * (3 - (r : Int)) = (s : Int) := by omega
            have hq8 : q < 8 := by omega
            have hs24 : s ≤ 24 := by omega
            obtain ⟨x, hx⟩ : ∃ x, x = H2.getD q 0 := ⟨_, rfl⟩
            have q0 : wr.cell? ⟨w.heap.size, q, none⟩ = some (.int .u32 x) := by rw [cell_of_row _ _ q _ 90 (0, 0) HO.out.s, HS2.out.1, stA_at HS2.out.2.1 _ hq8, hx]
            have q1 : wr.frozen? ⟨g8, i, none⟩ = false := frozen_of_row _ _ i _ 31 HO.out.o
            have q2 : wr.cell? ⟨g8, i, none⟩ = some (.int .u8 ((outL H2 i).getD i 0)) := by
              rw [cell_of_row _ _ i _ 31 (0, 0) HO.out.o, arr_at (by rw [outL_len]; exact hlt)]
            have HN := Aside0.mk (show (outL H2 i).set i (x / 2 ^ s % 256) = outL H2 (i + 1) by rw [outL, outB, hx, hs, hq, hr])
            have HO2 := Aside0.mk (HO.out.set (by omega) (by omega) (by omega) i (x / 2 ^ s % 256))
            rw [HN.out] at HO2
            clear hq hr hs hx
            go_wp2
            go_roundw
            case rel => exact ⟨i + 1, by go_num, by omega, HO2⟩
            case measure => simp [intOf]; omega
          · obtain rfl : i = 32 := by omega
            rw [show ((32 : Nat) : Int) = 32 from rfl]
            have hd : decide ((32 : Int) < 32) = false := by decide
            obtain ⟨co, hco⟩ : ∃ x, x = arr .u8 (outL H2 32) := ⟨_, rfl⟩
            have HCO := Aside0.mk (And.intro hco (And.intro (show co.size = 32 by rw [hco, arr_size, outL_len]) (show co.all (·.oneCell') = true by rw [hco]; exact arr_one _ _)))
            have HOO := Aside0.mk HO.out.o
            rw [← hco] at HOO
            clear hco
            go_wp2_with (first | (refine wpList_load_row rfl 31 (.tmp 8) rfl g8 rfl 31 co (0, 0) _ HOO.out und31 rfl (by rw [i31, HCO.out.2.1]) ?_) | (refine wpList_store_row rfl 31 (.tmp 4) (.tmp 65) rfl (w.heap.size + 1) co rfl rfl 31 Z31 HO.out.r (by rw [i31, HCO.out.2.1]) (by rw [HCO.out.2.1]; rfl) HCO.out.2.2 ?_))
            refine bodyPost_ret (res_c (p := 4) _ rfl rfl (setRow_heap _ (w.heap.size + 1) Z31 co 31 _ HO.out.r) und31 rfl (by rw [i31, HCO.out.2.1])) rfl ?_
            rw [HP.out]
            exact ⟨by rw [HCO.out.1, HF.out], below_setRow HO.out.below (by omega) _⟩
  · have hd : decide ((56 : Int) ≤ (m : Int)) = false := decide_eq_false (by omega)
    have HL1 := Aside0.mk (show (padR R).length = 64 by rw [padR_len (by have := HR.out.2; omega)])
    have HS1 := HST
    have HE5 : Aside0 (EN w st (putN (padR R) nn 0) (w3.setCell ⟨w.heap.size + 1 + 1, m, none⟩ (.int .u8 128))) := ⟨by have := HE4.out; rw [HR.out.2] at this; rw [putN, padR, HR.out.2]; exact this⟩
    clear HE4
    go_wp2
    go_loopw [33] (fun v33 wr => ∃ (i : Nat), v33 = .int .i64 (i : Int) ∧ i ≤ 8 ∧ Aside0 (EN w st (putN (padR R) nn i) wr)) (fun v _ => 8 - (intOf v).toNat)
    case atStart => exact ⟨0, rfl, by omega, HE5⟩
    case round =>
      clear HE5
      obtain ⟨i, rfl, hi, HE⟩ := hrel
      by_cases hlt : i < 8
      · have hd : decide ((i : Int) < 8) = true := decide_eq_true (by omega)
        obtain ⟨j, hj1, hj2⟩ : ∃ j, j + i ≤ 63 ∧ 63 ≤ j + i := ⟨63 - i, by omega, by omega⟩
        have hji : (63 : Int) - (i : Int) = (j : Int) := by omega
        have h8i : (8 * (i : Int)).toNat = 8 * i := by omega
        have q1 : wr.frozen? ⟨w.heap.size + 1 + 1, j, none⟩ = false := frozen_of_row _ _ j _ 93 HE.out.b
        have q0 : wr.cell? ⟨w.heap.size + 1 + 1, j, none⟩ = some (.int .u8 ((putN (padR R) nn i).getD j 0)) := by
          rw [cell_of_row _ _ j _ 93 (0, 0) HE.out.b, arr_at (by rw [putN_len, HL1.out]; omega)]
        have HE2 := Aside0.mk (HE.out.set j (nn / 2 ^ (8 * i) % 256))
        have HN := Aside0.mk (show (putN (padR R) nn i).set j (nn / 2 ^ (8 * i) % 256) = putN (padR R) nn (i + 1) by rw [putN, show 63 - i = j by omega])
        rw [HN.out] at HE2
        go_wp2
        go_roundw
        case rel => exact ⟨i + 1, by go_num, by omega, HE2⟩
        case measure => simp [intOf]; omega
      · obtain rfl : i = 8 := by omega
        rw [show ((8 : Nat) : Int) = 8 from rfl]
        have hd : decide ((8 : Int) < 8) = false := by decide
        obtain ⟨cb, hcb⟩ : ∃ cb, cb = arr .u8 (putN (padR R) nn 8) := ⟨_, rfl⟩
        have HCB := Aside0.mk (And.intro hcb (show cb.size = 64 by rw [hcb, arr_size, putN_len, HL1.out]))
        have hsb := Aside0.mk HE.out.b
        rw [← hcb] at hsb
        clear hcb
        go_wp2_with (first | (refine wpList_load_row rfl 90 (.tmp 2) rfl w.heap.size rfl 90 st (0, 0) _ HE.out.s Try.underlying90 rfl (by rw [i90, HS1.out.2.2]) ?_) | (refine wpList_load_row rfl 93 (.tmp 6) rfl (w.heap.size + 1 + 1) rfl 93 cb (0, 0) _ hsb.out u93 rfl (by rw [i93, HCB.out.2]) ?_))
        have hbc := block_calls H n (putN (padR R) nn 8) HS1.out.2.1 (by rw [putN_len, HL1.out]) wr
        rw [← HS1.out.1, ← HCB.out.1] at hbc
        refine hbc.mono ?_
        rintro e w4 ⟨he, hb4⟩
        obtain ⟨st2, hst2⟩ : ∃ x, x = stA (blockH H (putN (padR R) nn 8)) (IntKind.u64.wrap (n + 64)) := ⟨_, rfl⟩
        rw [← hst2] at he
        subst he
        obtain ⟨H2, hH2⟩ : ∃ x, x = blockH H (putN (padR R) nn 8) := ⟨_, rfl⟩
        have HS2 := Aside0.mk (And.intro (show st2 = stA H2 (IntKind.u64.wrap (n + 64)) by rw [hst2, hH2]) (And.intro (show H2.length = 8 by rw [hH2, blockH_len HS1.out.2.1]) (And.intro (show st2.size = 9 by rw [hst2, stA_size (blockH_len HS1.out.2.1 _)]) (show st2.all (·.oneCell') = true by rw [hst2]; exact stA_one _ _))))
        have HF := Aside0.mk (show outL H2 32 = endL H n R by rw [endL, if_neg (by rw [HR.out.2]; omega), HR.out.2, ← HNN.out, ← hH2])
        have he4 := (HE.out.on hb4)
        have HE4s := Aside0.mk he4
        have he6 := he4.setS (st' := st2)
        obtain ⟨w5, hw5⟩ : ∃ w5, w5 = w4.setRow w.heap.size st2 := ⟨_, rfl⟩
        rw [← hw5] at he6
        have hlt5 : w.heap.size + 1 + 1 < w5.heap.size := blk_lt he6.b
        have HO := Aside0.mk (⟨blk_alloc he6.s _, blk_alloc he6.r _, by rw [← z31]; exact blk_new w5 (.cells Z31 31), below_alloc he6.below _⟩ : EO w st2 w5.heap.size (List.replicate 32 0) (w5.alloc (.cells Z31 31)))
        obtain ⟨g8, hg8⟩ : ∃ g8, g8 = w5.heap.size := ⟨_, rfl⟩
        have HG8 := Aside0.mk hg8
        have hg8w : g8 = w4.heap.size := by rw [hg8, hw5, size_setRow]
        rw [← hg8] at HO hlt5
        have HW5 := Aside0.mk hw5
        clear hbc hst2 hH2 hb4 he4 he6 hg8 HE hsb
        have hsz : (w4.setRow w.heap.size st2).heap.size = g8 := by rw [size_setRow, ← hg8w]
        clear hg8w
        go_wp2_with (refine wpList_store_row rfl 90 (.tmp 2) (.tmp 47) rfl w.heap.size st2 rfl rfl 90 st HE4s.out.s (by rw [i90, HS2.out.2.2.1]) (by rw [HS2.out.2.2.1, HS1.out.2.2]) HS2.out.2.2.2 ?_)
        go_loopw [48] (fun v48 wr => ∃ (i : Nat), v48 = .int .i64 (i : Int) ∧ i ≤ 32 ∧ Aside0 (EO w st2 g8 (outL H2 i) wr)) (fun v _ => 32 - (intOf v).toNat)
        case atStart => exact ⟨0, rfl, by omega, ⟨by rw [← HW5.out]; exact HO.out⟩⟩
        case round =>
          clear HO
          obtain ⟨i, rfl, hi, HO⟩ := hrel
          by_cases hlt : i < 32
          · have hd : decide ((i : Int) < 32) = true := decide_eq_true (by omega)
            obtain ⟨q, hq⟩ : ∃ q, q = i / 4 := ⟨_, rfl⟩
            have hqi : (i : Int) / 4 = (q : Int) := by omega
            obtain ⟨r, hr⟩ : ∃ r, r = i % 4 := ⟨_, rfl⟩
            have hri : (i : Int) % 4 = (r : Int) := by omega
            have hr4 : r ≤ 3 := by omega
            obtain ⟨s, hs⟩ : ∃ s, s = 8 * (3 - r) := ⟨_, rfl⟩
            have hsi : (8 : Int) * (3 - (r : Int)) = (s : Int) := by omega
            have hq8 : q < 8 := by omega
            have hs24 : s ≤ 24 := by omega
            obtain ⟨x, hx⟩ : ∃ x, x = H2.getD q 0 := ⟨_, rfl⟩
            have q0 : wr.cell? ⟨w.heap.size, q, none⟩ = some (.int .u32 x) := by rw [cell_of_row _ _ q _ 90 (0, 0) HO.out.s, HS2.out.1, stA_at HS2.out.2.1 _ hq8, hx]
            have q1 : wr.frozen? ⟨g8, i, none⟩ = false := frozen_of_row _ _ i _ 31 HO.out.o
            have q2 : wr.cell? ⟨g8, i, none⟩ = some (.int .u8 ((outL H2 i).getD i 0)) := by
              rw [cell_of_row _ _ i _ 31 (0, 0) HO.out.o, arr_at (by rw [outL_len]; exact hlt)]
            have HN := Aside0.mk (show (outL H2 i).set i (x / 2 ^ s % 256) = outL H2 (i + 1) by rw [outL, outB, hx, hs, hq, hr])
            have HO2 := Aside0.mk (HO.out.set (by omega) (by omega) (by omega) i (x / 2 ^ s % 256))
            rw [HN.out] at HO2
            clear hq hr hs hx
            go_wp2
            go_roundw
            case rel => exact ⟨i + 1, by go_num, by omega, HO2⟩
            case measure => simp [intOf]; omega
          · obtain rfl : i = 32 := by omega
            rw [show ((32 : Nat) : Int) = 32 from rfl]
            have hd : decide ((32 : Int) < 32) = false := by decide
            obtain ⟨co, hco⟩ : ∃ x, x = arr .u8 (outL H2 32) := ⟨_, rfl⟩
            have HCO := Aside0.mk (And.intro hco (And.intro (show co.size = 32 by rw [hco, arr_size, outL_len]) (show co.all (·.oneCell') = true by rw [hco]; exact arr_one _ _)))
            have HOO := Aside0.mk HO.out.o
            rw [← hco] at HOO
            clear hco
            go_wp2_with (first | (refine wpList_load_row rfl 31 (.tmp 8) rfl g8 rfl 31 co (0, 0) _ HOO.out und31 rfl (by rw [i31, HCO.out.2.1]) ?_) | (refine wpList_store_row rfl 31 (.tmp 4) (.tmp 65) rfl (w.heap.size + 1) co rfl rfl 31 Z31 HO.out.r (by rw [i31, HCO.out.2.1]) (by rw [HCO.out.2.1]; rfl) HCO.out.2.2 ?_))
            refine bodyPost_ret (res_c (p := 4) _ rfl rfl (setRow_heap _ (w.heap.size + 1) Z31 co 31 _ HO.out.r) und31 rfl (by rw [i31, HCO.out.2.1])) rfl ?_
            rw [HP.out]
            exact ⟨by rw [HCO.out.1, HF.out], below_setRow HO.out.below (by omega) _⟩
end Go.Proofs.Ytchhdafgmifhdaa.ShaD
namespace Go.Proofs.Ytchhdafgmifhdaa.DskC
open Go.RowKit Go.Proofs.Ytchhdafgmifhdaa.B8 Go.Proofs.Ytchhdafgmifhdaa.Agg Go.Proofs.Ytchhdafgmifhdaa.CodL Go.Proofs.Ytchhdafgmifhdaa.CodA Go.Proofs.Ytchhdafgmifhdaa.CodB Go.Proofs.Ytchhdafgmifhdaa.CrcL Go.Proofs.Ytchhdafgmifhdaa.CrcA Go.Proofs.Ytchhdafgmifhdaa.CrcB Go.Proofs.Ytchhdafgmifhdaa.PCowLays Go.Proofs.YtchhdafgmifhdaaW.PrintWords Go.Proofs.YtchhdafgmifhdaaW.PrintLast Go.Proofs.YtchhdafgmifhdaaW.PrintMore Go.Proofs.Ytchhdafgmifhdaa.ShaA Go.Proofs.Ytchhdafgmifhdaa.ShaC Go.Proofs.Ytchhdafgmifhdaa.ShaD Go.Proofs.Ytchhdafgmifhdaa.DskA Go.Proofs.Ytchhdafgmifhdaa.DskB
set_option linter.unusedVariables false
set_option linter.unusedSimpArgs false
/-- All but the blocks of S is kept, and the world outside. -/
structure KB (w w' : World) (S : Nat → Prop) : Prop where
  os : w'.os = w.os
  tape : w'.tape = w.tape
  output : w'.output = w.output
  kept : Kept w w' S
theorem KB.of_below {w w' : World} (h : Below w.heap.size w w') (S : Nat → Prop) : KB w w' S := ⟨h.os, h.tape, h.output, Kept.of_below h S⟩
theorem KB.then_ {w w1 w2 : World} {S S2 : Nat → Prop} (h : KB w w1 S) (k : KB w1 w2 S2) (hs : ∀ k, S2 k → S k ∨ w.heap.size ≤ k) : KB w w2 S := ⟨k.os.trans h.os, k.tape.trans h.tape, k.output.trans h.output, h.kept.then_ k.kept hs⟩
theorem KB.below {w w1 w2 : World} {S : Nat → Prop} (h : KB w w1 S) (k : Below w1.heap.size w1 w2) : KB w w2 S := h.then_ (KB.of_below k (fun _ => False)) (fun _ hk => hk.elim)
theorem KB.to_below {w w1 : World} {S : Nat → Prop} {B : Nat} (h : KB w w1 S) (hS : ∀ k, S k → B ≤ k) (hB : B ≤ w.heap.size) : Below B w w1 := ⟨h.os, h.tape, h.output, h.kept.1, fun k hk => h.kept.2 k (by omega) (fun hs => by have := hS k hs; omega)⟩
theorem inf80b : ((Try.prog.info? 80).bind (·.zero)).bind (fun z => match z with | .agg cs => some (cs.size, cs.all (·.oneCell')) | _ => none) = some (512, true) := by kernel_rfl
theorem size80 : (Try.prog.info? 80).map (·.size) = some 512 := by kernel_rfl
theorem under80 : Try.prog.underlying 80 = some (.array 512 5) := by kernel_rfl
theorem zero80 : ∃ z : Array Value, z.size = 512 ∧ z.all (·.oneCell') = true ∧ ∀ W, (zeroValue 80).run Try.prog W = .ok (.agg z) W := by
  have h := inf80b
  obtain ⟨z, hz, h2⟩ := Option.bind_eq_some_iff.1 h
  obtain ⟨i, hi, hz0⟩ := Option.bind_eq_some_iff.1 hz
  cases z with
  | agg cs =>
    simp only [Option.some.injEq, Prod.mk.injEq] at h2
    exact ⟨cs, h2.1, h2.2, fun W => by simp [zeroValue, typeInfo, hi, hz0, Result.andThen]⟩
  | _ => simp at h2
theorem wp_mapUpdate60 {o : Oper} {a : Act} {w w1 : World} {K : Act → World → Prop} {Q : Exit → Act → World → Prop} (x y z : Operand) (ho : o.op = .mapUpdate 60 x y z) (u v s : Value) (hx : a.eval x = u) (hy : a.eval y = v) (hz : a.eval z = s)
    (hrun : (Instr.mapUpdate 60 u v s).run Try.prog w = .ok () w1) (h : K (a.put o.dst undef) w1) : o.wp Try.prog a w K Q := by
  unfold Oper.wp
  simp [execOp, ho, hx, hy, hz, hrun, Result.andThen]
  exact h
set_option maxRecDepth 100000 in
set_option maxHeartbeats 4000000 in
theorem write29 (d N m : Nat) (i : Int) (A : Option Addr) (c n : Nat) (R : List Int) (w : World) (hd : DB w d N m) (hm : MI w m) (hr : C8 w A n R) (hnc : n ≤ c) (hn : n ≤ 512) (h0 : 0 ≤ i) (h1 : i < N) :
    Calls Try.prog 29 #[.pointer (some ⟨d, 0, none⟩), .int .i64 i, .slice A n c] w (fun e w' => e = .returned (.int .i64 0) ∧ KB w w' (fun k => k = m) ∧ MI w' m) := by
  have HD := Aside0.mk hd
  have HM := Aside0.mk hm
  have HR := Aside0.mk (And.intro hr hr.1)
  obtain ⟨P, hP⟩ : ∃ P : Ending → World → Prop, P = fun e w' => e = .returned (.int .i64 0) ∧ KB w w' (fun k => k = m) ∧ MI w' m := ⟨_, rfl⟩
  rw [← hP]
  have HP := Aside0.mk hP
  have hE : dskE N i = 0 := if_neg (by omega)
  clear hP hd hm hr
  go_enter Try.func29, Try.ntmps29
  go_wp2_with fail
  refine (check42 d N m i w HD.out).mono ?_
  rintro e W2 ⟨rfl, hb⟩
  rw [hE]
  have HB := Aside0.mk hb
  have d0 : decide ((n : Int) > 512) = false := decide_eq_false (by omega)
  have d0' : decide (512 < (n : Int)) = false := decide_eq_false (by omega)
  clear hb hE
  go_wp2_with fail
  refine (spend43 d N m W2 (HD.out.below HB.out)).mono ?_
  rintro e W3 ⟨rfl, hb⟩
  have HB3 := Aside0.mk (HB.out.trans (hb.mono HB.out.size))
  obtain ⟨z, hz, hz1, hal⟩ := zero80
  have HZ := Aside0.mk (And.intro hz hz1)
  have hal := hal W3
  clear hb HB hz hz1
  have HK := Aside0.mk (KB.of_below (HB3.out.trans (below_alloc (Below.refl _ _) (.cells z 80) |>.mono HB3.out.size)) (fun k => k = m))
  have hg8 : w.heap.size ≤ W3.heap.size := HB3.out.size
  have HG8 := Aside0.mk (show (W3.alloc (.cells z 80)).heap[W3.heap.size]? = some (.cells z.toList.toArray 80 (0, 0)) from blk_new W3 (.cells z 80))
  have HR4 := Aside0.mk (show C8 (W3.alloc (.cells z 80)) A n R from Kd.C_below HR.out.1 (HB3.out.trans (below_alloc (Below.refl _ _) (.cells z 80) |>.mono HB3.out.size)))
  have HB4 := Aside0.mk (show Below w.heap.size w (W3.alloc (.cells z 80)) from HB3.out.trans (below_alloc (Below.refl _ _) (.cells z 80) |>.mono HB3.out.size))
  have HCS := Aside0.mk (show 0 < (R.map (Value.int .u8)).length → (some (⟨W3.heap.size, 0, none⟩ : Addr)) = some ⟨W3.heap.size, 0, none⟩ ∧ ∃ ad, A = some ad ∧ ∀ j v, (R.map (Value.int .u8))[j]? = some v → (W3.alloc (.cells z 80)).cell? (ad.add j) = some v from fun h0 => by
    obtain ⟨ad, e, hc⟩ := C8_cells HR4.out (by rw [List.length_map] at h0; have := HR.out.2; omega)
    exact ⟨rfl, ad, e, hc⟩)
  go_wp2_with (refine wpList_copy_splice (o := ⟨some 28, _, _, _, _, _⟩) rfl (.tmp 26) (.tmp 27) 22 22 rfl 5 Try.underlying22 i5 (some ⟨W3.heap.size, 0, none⟩) A 512 512 n c rfl rfl W3.heap.size 0 z.toList 80 ?_ (R.map (Value.int .u8)) ?_ ?_ ?_ ?_ W3.heap.size (W3.alloc (.cells z 80)) ?_ ?_ ?_)
  case refine_2 => rw [List.length_map, HR.out.2]; exact (Nat.min_eq_left (by omega)).symm
  case refine_3 =>
    intro h0
    obtain ⟨ad, e, hc⟩ := C8_cells HR4.out (by have := HR.out.2; omega)
    exact ⟨ad, e, fun j a ha => hc j _ (by rw [List.getElem?_map, ha]; rfl)⟩
  case refine_4 => rw [List.length_map, show z.toList.length = 512 from HZ.out.1]; have := HR.out.2; omega
  case refine_1 => first | exact HG8.out | simpa using HG8.out
  case refine_5 => intro v hv; obtain ⟨x, _, rfl⟩ := List.mem_map.1 hv; rfl
  case refine_6 => exact Below.refl _ _
  case refine_7 => exact Nat.le_refl _
  intro w5 hsp hb5
  obtain ⟨cs, hcs⟩ : ∃ cs, cs = (splice z.toList 0 (R.map (Value.int .u8))).toArray := ⟨_, rfl⟩
  have hsp2 : w5.heap[W3.heap.size]? = some (.cells (splice z.toList 0 (R.map (Value.int .u8))).toArray 80 (0, 0)) := hsp.out
  rw [← hcs] at hsp2
  have HC5 := Aside0.mk (And.intro hsp2 (show cs.size = 512 by
    rw [hcs]
    have := HR.out.2
    have := HZ.out.1
    simp [splice]
    omega))
  have HB5 := Aside0.mk (show Below w.heap.size w w5 from HB4.out.trans (hb5.mono hg8))
  obtain ⟨g8, hg8e⟩ : ∃ g8, g8 = W3.heap.size := ⟨_, rfl⟩
  rw [← hg8e] at HC5 ⊢
  clear hsp hsp2 hcs hb5 HR4 HG8 HK HCS HB4 hal hg8e HB3
  go_wp2_with fail
  refine wp_region_held_drew (S := fun w' => w'.cell? ⟨d, 1, none⟩ = some (.map (some m))) (by kernel_rfl) (by
    obtain ⟨A0, c0, hh⟩ := HD.out.below HB5.out
    show w5.cell? ⟨d, 1, none⟩ = _
    rw [cell_of_row _ _ 1 _ 62 (0, 0) hh]; rfl) (fun hW => ?_)
  have HC6 := Aside0.mk (And.intro (show w5.drew.heap[g8]? = some (.cells cs 80 (0, 0)) from HC5.out.1) HC5.out.2)
  have HB6 := Aside0.mk (show Below w.heap.size w w5.drew from HB5.out.trans (below_drew (Below.refl _ _)))
  clear HC5 HB5
  generalize hWd : w5.drew = Wd at *
  clear hWd
  refine wpAnyH_take (i := 0) (oi := ⟨some 29, _, _, _, _, _⟩) (v := .pointer (some ⟨d, 0, none⟩)) rfl (by kernel_rfl) (by kernel_rfl) (by kernel_rfl) (fun _ _ _ h => h) (.inl ⟨by rfl, fun W1 h1 => by go_simp⟩) hW ?_
  try simp only [Act.put, List.setIfInBounds_toArray, List.set_cons_zero, List.set_cons_succ]
  refine wpAnyH_take (i := 1) (oi := ⟨some 30, _, _, _, _, _⟩) (v := .pointer (some ⟨d, 0, none⟩)) rfl (by kernel_rfl) (by kernel_rfl) (by kernel_rfl) (fun _ _ _ h => h) (.inl ⟨by rfl, fun W1 h1 => by go_simp⟩) hW ?_
  try simp only [Act.put, List.setIfInBounds_toArray, List.set_cons_zero, List.set_cons_succ]
  refine wpAnyH_take (i := 2) (oi := ⟨some 31, _, _, _, _, _⟩) (v := .pointer (some ⟨d, 1, none⟩)) rfl (by kernel_rfl) (by kernel_rfl) (by kernel_rfl) (fun _ _ _ h => h) (.inl ⟨by rfl, fun W1 h1 => by go_simp⟩) hW ?_
  try simp only [Act.put, List.setIfInBounds_toArray, List.set_cons_zero, List.set_cons_succ]
  refine wpAnyH_take (i := 3) (oi := ⟨some 32, _, _, _, _, _⟩) (v := .map (some m)) rfl (by kernel_rfl) (by kernel_rfl) (by kernel_rfl) (fun _ _ _ h => h) (.inl ⟨by rfl, fun W1 h1 => by have h2 : W1.cell? ⟨d, 1, none⟩ = some (.map (some m)) := h1; go_simp⟩) hW ?_
  try simp only [Act.put, List.setIfInBounds_toArray, List.set_cons_zero, List.set_cons_succ]
  refine wpAnyH_take (i := 4) (oi := ⟨some 33, _, _, _, _, _⟩) (v := .int .i64 i) rfl (by kernel_rfl) (by kernel_rfl) (by kernel_rfl) (fun _ _ _ h => h) (.inl ⟨by rfl, fun W1 h1 => by go_simp⟩) hW ?_
  try simp only [Act.put, List.setIfInBounds_toArray, List.set_cons_zero, List.set_cons_succ]
  refine wpAnyH_ready (rs := [5]) (by kernel_rfl) (by simp) (AllReadyH.cons rfl (fun K1 hK1 => ?_) AllReadyH.nil)
  refine wp_load_row (o := ⟨some 34, _, _, _, _, _⟩) 80 (.tmp 8) rfl g8 rfl 80 cs (0, 0) _ HC6.out.1 under80 rfl (by rw [size80, HC6.out.2]) ?_
  refine hK1.out _ _ hW (fun hW => ?_)
  try simp only [Act.put, List.setIfInBounds_toArray, List.set_cons_zero, List.set_cons_succ]
  refine wpAnyH_ready (rs := [6]) (by kernel_rfl) (by simp) (AllReadyH.cons rfl (fun K2 hK2 => ?_) AllReadyH.nil)
  obtain ⟨W6, hrun, hmi, ho, ht, hu, hsz, hk6⟩ := update60 (HM.out.below HB6.out) i (.agg cs)
  have hdm : d ≠ m := by
    rintro rfl
    obtain ⟨A0, c0, hh⟩ := HD.out
    obtain ⟨es, cl, h2, _⟩ := HM.out
    rw [hh] at h2
    simp at h2
  refine wp_mapUpdate60 (o := ⟨none, _, _, _, _, _⟩) (.tmp 32) (.tmp 33) (.tmp 34) rfl (.map (some m)) (.int .i64 i) (.agg cs) rfl rfl rfl hrun ?_
  refine hK2.out _ _ (by
    show W6.cell? ⟨d, 1, none⟩ = _
    rw [← (show Wd.cell? ⟨d, 1, none⟩ = some (.map (some m)) from hW)]
    simp only [World.cell?]
    rw [hk6 d hdm]) (fun hW => ?_)
  try simp only [Act.put, List.setIfInBounds_toArray, List.set_cons_zero, List.set_cons_succ]
  refine wpAnyH_done (by kernel_rfl) ?_ _
  clear hK1 hK2 K1 K2 hrun
  have HFIN := Aside0.mk (And.intro (show KB w W6 (fun k => k = m) from (KB.of_below HB6.out _).then_ (S2 := fun k => k = m) ⟨ho, ht, hu, by omega, fun k _ hk => hk6 k hk⟩ (fun k hk => .inl hk)) hmi)
  clear ho ht hu hsz hk6 hmi
  go_wp2
  rw [HP.out]
  exact ⟨rfl, HFIN.out⟩
end Go.Proofs.Ytchhdafgmifhdaa.DskC
namespace Go.Proofs.Ytchhdafgmifhdaa.AlcA
open Go.RowKit Go.Proofs.Ytchhdafgmifhdaa.B8 Go.Proofs.Ytchhdafgmifhdaa.Agg Go.Proofs.Ytchhdafgmifhdaa.CodL Go.Proofs.Ytchhdafgmifhdaa.CodA Go.Proofs.Ytchhdafgmifhdaa.CodB Go.Proofs.Ytchhdafgmifhdaa.CrcL Go.Proofs.Ytchhdafgmifhdaa.CrcA Go.Proofs.Ytchhdafgmifhdaa.CrcB Go.Proofs.Ytchhdafgmifhdaa.PCowLays Go.Proofs.YtchhdafgmifhdaaW.PrintWords Go.Proofs.YtchhdafgmifhdaaW.PrintLast Go.Proofs.YtchhdafgmifhdaaW.PrintMore Go.Proofs.Ytchhdafgmifhdaa.ExtL Go.Proofs.Ytchhdafgmifhdaa.ExtA Go.Proofs.Ytchhdafgmifhdaa.ExtB Go.Proofs.Ytchhdafgmifhdaa.ExtC Go.Proofs.Ytchhdafgmifhdaa.ExtD Go.Proofs.Ytchhdafgmifhdaa.ExtE Go.Proofs.Ytchhdafgmifhdaa.ExtF Go.Proofs.Ytchhdafgmifhdaa.ExtG Go.Proofs.Ytchhdafgmifhdaa.DskA Go.Proofs.Ytchhdafgmifhdaa.DskB Go.Proofs.Ytchhdafgmifhdaa.DskC
set_option linter.unusedVariables false
set_option linter.unusedSimpArgs false
/-- The block of an allocator whose free list is l, and for whom nothing waits. -/
structure AB (W : World) (a mw : Nat) (fr tu rs : Int) (l : List Sp) : Prop where
  blk : ∃ (A : Option Addr) (n c : Nat) (was : Value), W.heap[a]? = some (.cells #[.int .i64 fr, .int .i64 tu, .bool true, .int .i64 rs, .slice A n c, .map (some mw), was] 57 (0, 0)) ∧ Kd.C kS W A n l ∧ n ≤ c ∧ n ≤ 10000
  vs : VS (-1) l
  wait : ∃ cl, W.heap[mw]? = some (.map #[] cl)
  num : 0 ≤ fr ∧ fr ≤ tu ∧ tu ≤ 8192 ∧ 0 ≤ rs ∧ rs ≤ 8192 ∧ 0 ≤ total l ∧ total l ≤ 8192
  typ : ∀ ad n c was, W.heap[a]? = some (.cells #[.int .i64 fr, .int .i64 tu, .bool true, .int .i64 rs, .slice (some ad) n c, .map (some mw), was] 57 (0, 0)) → ∃ cs, W.heap[ad.block]? = some (.cells cs 42 (0, 0))
theorem AB.below {W W2 : World} {a mw : Nat} {fr tu rs : Int} {l : List Sp} (h : AB W a mw fr tu rs l) (hb : Below W.heap.size W W2) : AB W2 a mw fr tu rs l := by
  obtain ⟨⟨A, n, c, was, h1, h2, h3, h4⟩, h5, ⟨cl, h6⟩, h7, h8⟩ := h
  refine ⟨⟨A, n, c, was, blk_below h1 hb, Kd.C_below h2 hb, h3, h4⟩, h5, ⟨cl, blk_below h6 hb⟩, h7, fun ad n' c' was' hh => ?_⟩
  obtain ⟨cs, h9⟩ := h8 ad n' c' was' ((hb.block a (blk_lt h1)).symm.trans hh)
  exact ⟨cs, blk_below h9 hb⟩
set_option maxRecDepth 100000 in
set_option maxHeartbeats 2000000 in
theorem none17 (a mw : Nat) (fr tu rs : Int) (l : List Sp) (w : World) (hd : AB w a mw fr tu rs l) : Calls Try.prog 17 #[.pointer (some ⟨a, 0, none⟩)] w (fun e w' => e = .returned (.bool false) ∧ Below w.heap.size w w') := by
  obtain ⟨A, n, c, was, h1, h2, h3, h4⟩ := hd.blk
  have q2 : w.cell? ⟨a, 2, none⟩ = some (.bool true) := by rw [cell_of_row _ _ 2 _ 57 (0, 0) h1]; rfl
  obtain ⟨P, hP⟩ : ∃ P : Ending → World → Prop, P = fun e w' => e = .returned (.bool false) ∧ Below w.heap.size w w' := ⟨_, rfl⟩
  rw [← hP]
  have HP := Aside0.mk hP
  clear hP h1 h2 h3 h4 hd
  go_enter Try.func17, Try.ntmps17
  go_wp2
  rw [HP.out]
  exact ⟨rfl, Below.refl _ _⟩
set_option maxRecDepth 100000 in
set_option maxHeartbeats 2000000 in
theorem free18 (a mw : Nat) (fr tu rs : Int) (l : List Sp) (w : World) (hd : AB w a mw fr tu rs l) : Calls Try.prog 18 #[.pointer (some ⟨a, 0, none⟩)] w (fun e w' => e = .returned (.int .i64 (total l)) ∧ Below w.heap.size w w') := by
  have HD := Aside0.mk hd
  obtain ⟨P, hP⟩ : ∃ P : Ending → World → Prop, P = fun e w' => e = .returned (.int .i64 (total l)) ∧ Below w.heap.size w w' := ⟨_, rfl⟩
  rw [← hP]
  have HP := Aside0.mk hP
  clear hP hd
  go_enter Try.func18, Try.ntmps18
  go_wp2_with fail
  refine (none17 a mw fr tu rs l w HD.out).mono ?_
  rintro e W2 ⟨rfl, hb⟩
  have HB := Aside0.mk hb
  obtain ⟨A, n, c, was, h1, h2, h3, h4⟩ := (HD.out.below hb).blk
  have HC := Aside0.mk (And.intro h2 (And.intro h3 h4))
  have q4 : W2.cell? ⟨a, 4, none⟩ = some (.slice A n c) := by rw [cell_of_row _ _ 4 _ 57 (0, 0) h1]; rfl
  clear h1 h2 h3 h4 hb
  go_wp2_with fail
  refine (total_calls A c n l W2 HC.out.1 HC.out.2.1 (by have := HC.out.2.2; omega) HD.out.vs).mono ?_
  rintro e W3 ⟨rfl, hb3⟩
  have HB3 := Aside0.mk (HB.out.trans (hb3.mono HB.out.size))
  clear hb3
  go_wp2
  rw [HP.out]
  exact ⟨rfl, HB3.out⟩
theorem under55 : Try.prog.underlying 55 = some (.map 3 54) := by kernel_rfl
theorem next_none (W : World) (r mw cl : Nat) (ty : TypeId) (hr : W.heap[r]? = some (.mapIter (some mw) cl #[] cl)) (hb : W.heap[mw]? = some (.map #[] cl)) :
    (Instr.next (.pointer (some ⟨r, 0, none⟩)) false ty).run Try.prog W = .ok (.tuple #[.bool false]) W := by
  rcases run_next_at (P := Try.prog) W ty r mw cl cl #[] #[] cl hr hb (by simp) (Nat.le_refl _) with ⟨_, h⟩ | ⟨e, he, _⟩
  · exact h
  · simp [leftOf] at he
set_option maxRecDepth 100000 in
set_option maxHeartbeats 2000000 in
theorem waiting31 (a mw : Nat) (fr tu rs : Int) (l : List Sp) (w : World) (hd : AB w a mw fr tu rs l) : Calls Try.prog 31 #[.pointer (some ⟨a, 0, none⟩)] w (fun e w' => e = .returned (.slice none 0 0) ∧ Below w.heap.size w w') := by
  obtain ⟨A, n, c, was, h1, h2, h3, h4⟩ := hd.blk
  obtain ⟨cl, hmw⟩ := hd.wait
  have q5 : w.cell? ⟨a, 5, none⟩ = some (.map (some mw)) := by rw [cell_of_row _ _ 5 _ 57 (0, 0) h1]; rfl
  obtain ⟨P, hP⟩ : ∃ P : Ending → World → Prop, P = fun e w' => e = .returned (.slice none 0 0) ∧ Below w.heap.size w w' := ⟨_, rfl⟩
  rw [← hP]
  have HP := Aside0.mk hP
  have hrg := run_range_map (P := Try.prog) w 55 3 54 mw #[] cl under55 hmw
  have hnx := fun ty => next_none (w.alloc (.mapIter (some mw) cl #[] cl)) w.heap.size mw cl ty (blk_new w _) (blk_alloc hmw _)
  have HB := Aside0.mk (below_alloc (Below.refl w.heap.size w) (.mapIter (some mw) cl #[] cl))
  clear hP h1 h2 h3 h4 hd hmw
  go_enter Try.func31, Try.ntmps31
  go_wp2
  trace_state
  refine wp_loop_rounds 1 ?_
  rw [rounds_succ]
  go_wp2
  rw [HP.out]
  exact ⟨rfl, HB.out⟩
end Go.Proofs.Ytchhdafgmifhdaa.AlcA
namespace Go.Proofs.Ytchhdafgmifhdaa.AlcB
open Go.RowKit Go.Proofs.Ytchhdafgmifhdaa.B8 Go.Proofs.Ytchhdafgmifhdaa.Agg Go.Proofs.Ytchhdafgmifhdaa.CodL Go.Proofs.Ytchhdafgmifhdaa.CodA Go.Proofs.Ytchhdafgmifhdaa.CodB Go.Proofs.Ytchhdafgmifhdaa.CrcL Go.Proofs.Ytchhdafgmifhdaa.CrcA Go.Proofs.Ytchhdafgmifhdaa.CrcB Go.Proofs.Ytchhdafgmifhdaa.PCowLays Go.Proofs.YtchhdafgmifhdaaW.PrintWords Go.Proofs.YtchhdafgmifhdaaW.PrintLast Go.Proofs.YtchhdafgmifhdaaW.PrintMore Go.Proofs.Ytchhdafgmifhdaa.ExtL Go.Proofs.Ytchhdafgmifhdaa.ExtA Go.Proofs.Ytchhdafgmifhdaa.ExtB Go.Proofs.Ytchhdafgmifhdaa.ExtC Go.Proofs.Ytchhdafgmifhdaa.ExtD Go.Proofs.Ytchhdafgmifhdaa.ExtE Go.Proofs.Ytchhdafgmifhdaa.ExtF Go.Proofs.Ytchhdafgmifhdaa.ExtG Go.Proofs.Ytchhdafgmifhdaa.DskA Go.Proofs.Ytchhdafgmifhdaa.DskB Go.Proofs.Ytchhdafgmifhdaa.DskC Go.Proofs.Ytchhdafgmifhdaa.AlcA
set_option linter.unusedVariables false
set_option linter.unusedSimpArgs false
set_option maxRecDepth 100000 in
set_option maxHeartbeats 2000000 in
theorem waiting19 (a mw : Nat) (fr tu rs : Int) (l : List Sp) (w : World) (hd : AB w a mw fr tu rs l) : Calls Try.prog 19 #[.pointer (some ⟨a, 0, none⟩)] w (fun e w' => e = .returned (.int .i64 0) ∧ Below w.heap.size w w') := by
  have HD := Aside0.mk hd
  obtain ⟨P, hP⟩ : ∃ P : Ending → World → Prop, P = fun e w' => e = .returned (.int .i64 0) ∧ Below w.heap.size w w' := ⟨_, rfl⟩
  rw [← hP]
  have HP := Aside0.mk hP
  clear hP hd
  go_enter Try.func19, Try.ntmps19
  go_wp2_with fail
  refine (none17 a mw fr tu rs l w HD.out).mono ?_
  rintro e W2 ⟨rfl, hb⟩
  have HB := Aside0.mk hb
  clear hb
  go_wp2_with fail
  refine (waiting31 a mw fr tu rs l W2 (HD.out.below HB.out)).mono ?_
  rintro e W3 ⟨rfl, hb3⟩
  have HB3 := Aside0.mk (HB.out.trans (hb3.mono HB.out.size))
  clear hb3
  go_wp2_with fail
  refine (total_calls none 0 0 [] W3 (Kd.C_nil kS W3) (Nat.le_refl _) (by omega) trivial).mono ?_
  rintro e W4 ⟨rfl, hb4⟩
  have HB4 := Aside0.mk (HB3.out.trans (hb4.mono HB3.out.size))
  have h0 : total [] = 0 := rfl
  rw [h0]
  clear hb4 h0
  go_wp2
  rw [HP.out]
  exact ⟨rfl, HB4.out⟩
set_option maxRecDepth 100000 in
set_option maxHeartbeats 2000000 in
theorem used6 (a mw : Nat) (fr tu rs : Int) (l : List Sp) (w : World) (hd : AB w a mw fr tu rs l) : Calls Try.prog 6 #[.pointer (some ⟨a, 0, none⟩)] w (fun e w' => e = .returned (.int .i64 (tu - fr - total l)) ∧ Below w.heap.size w w') := by
  have HD := Aside0.mk hd
  obtain ⟨P, hP⟩ : ∃ P : Ending → World → Prop, P = fun e w' => e = .returned (.int .i64 (tu - fr - total l)) ∧ Below w.heap.size w w' := ⟨_, rfl⟩
  rw [← hP]
  have HP := Aside0.mk hP
  clear hP hd
  go_enter Try.func6, Try.ntmps6
  go_wp2_with fail
  refine (none17 a mw fr tu rs l w HD.out).mono ?_
  rintro e W2 ⟨rfl, hb⟩
  have HB := Aside0.mk hb
  clear hb
  go_wp2_with fail
  have hAB := HD.out.below HB.out
  obtain ⟨A, n, c, was, h1, h2, h3, h4⟩ := hAB.blk
  have hal : a < W2.heap.size := blk_lt h1
  have Q0 := Aside0.mk (show W2.cell? ⟨a, 0, none⟩ = some (.int .i64 fr) by rw [cell_of_row _ _ 0 _ 57 (0, 0) h1]; rfl)
  have Q1 := Aside0.mk (show W2.cell? ⟨a, 1, none⟩ = some (.int .i64 tu) by rw [cell_of_row _ _ 1 _ 57 (0, 0) h1]; rfl)
  have HAB := Aside0.mk hAB
  obtain ⟨n1, n2, n3, n4, n5, n6, n7⟩ := hAB.num
  have hw1 : IntKind.i64.wrap (tu - fr) = tu - fr := i64_small (by omega) (by omega)
  have hw2 : IntKind.i64.wrap (tu - fr - total l) = tu - fr - total l := i64_small (by omega) (by omega)
  clear h1 h2 h3 h4 hAB
  refine wp_region_held_drew (S := fun w' => Below W2.heap.size W2 w') (by kernel_rfl) (below_drew (Below.refl _ _)) (fun hW => ?_)
  have hWx : Below W2.heap.size W2 W2.drew := below_drew (Below.refl _ _)
  generalize hWd : W2.drew = Wd at *
  clear hWd
  refine wpAnyH_take (i := 0) (oi := ⟨some 5, _, _, _, _, _⟩) (v := .pointer (some ⟨a, 0, none⟩)) rfl (by kernel_rfl) (by kernel_rfl) (by kernel_rfl) (fun _ _ _ h => h) (.inl ⟨by rfl, fun W1 h1 => by go_simp⟩) hW ?_
  try simp only [Act.put, List.setIfInBounds_toArray, List.set_cons_zero, List.set_cons_succ]
  refine wpAnyH_take (i := 1) (oi := ⟨some 6, _, _, _, _, _⟩) (v := .pointer (some ⟨a, 0, none⟩)) rfl (by kernel_rfl) (by kernel_rfl) (by kernel_rfl) (fun _ _ _ h => h) (.inl ⟨by rfl, fun W1 h1 => by go_simp⟩) hW ?_
  try simp only [Act.put, List.setIfInBounds_toArray, List.set_cons_zero, List.set_cons_succ]
  refine wpAnyH_take (i := 2) (oi := ⟨some 7, _, _, _, _, _⟩) (v := .pointer (some ⟨a, 0, none⟩)) rfl (by kernel_rfl) (by kernel_rfl) (by kernel_rfl) (fun _ _ _ h => h) (.inl ⟨by rfl, fun W1 h1 => by go_simp⟩) hW ?_
  try simp only [Act.put, List.setIfInBounds_toArray, List.set_cons_zero, List.set_cons_succ]
  refine wpAnyH_take (i := 3) (oi := ⟨some 8, _, _, _, _, _⟩) (v := .pointer (some ⟨a, 1, none⟩)) rfl (by kernel_rfl) (by kernel_rfl) (by kernel_rfl) (fun _ _ _ h => h) (.inl ⟨by rfl, fun W1 h1 => by go_simp⟩) hW ?_
  try simp only [Act.put, List.setIfInBounds_toArray, List.set_cons_zero, List.set_cons_succ]
  refine wpAnyH_take (i := 4) (oi := ⟨some 9, _, _, _, _, _⟩) (v := .int .i64 tu) rfl (by kernel_rfl) (by kernel_rfl) (by kernel_rfl) (fun _ _ _ h => h) (.inl ⟨by rfl, fun W1 h1 => by have h2 := (Below.cell (p := ⟨a, 1, none⟩) h1 hal).trans Q1.out; clear h1; go_simp⟩) hW ?_
  try simp only [Act.put, List.setIfInBounds_toArray, List.set_cons_zero, List.set_cons_succ]
  refine wpAnyH_take (i := 5) (oi := ⟨some 10, _, _, _, _, _⟩) (v := .pointer (some ⟨a, 0, none⟩)) rfl (by kernel_rfl) (by kernel_rfl) (by kernel_rfl) (fun _ _ _ h => h) (.inl ⟨by rfl, fun W1 h1 => by go_simp⟩) hW ?_
  try simp only [Act.put, List.setIfInBounds_toArray, List.set_cons_zero, List.set_cons_succ]
  refine wpAnyH_take (i := 6) (oi := ⟨some 11, _, _, _, _, _⟩) (v := .pointer (some ⟨a, 0, none⟩)) rfl (by kernel_rfl) (by kernel_rfl) (by kernel_rfl) (fun _ _ _ h => h) (.inl ⟨by rfl, fun W1 h1 => by go_simp⟩) hW ?_
  try simp only [Act.put, List.setIfInBounds_toArray, List.set_cons_zero, List.set_cons_succ]
  refine wpAnyH_take (i := 7) (oi := ⟨some 12, _, _, _, _, _⟩) (v := .pointer (some ⟨a, 0, none⟩)) rfl (by kernel_rfl) (by kernel_rfl) (by kernel_rfl) (fun _ _ _ h => h) (.inl ⟨by rfl, fun W1 h1 => by go_simp⟩) hW ?_
  try simp only [Act.put, List.setIfInBounds_toArray, List.set_cons_zero, List.set_cons_succ]
  refine wpAnyH_take (i := 8) (oi := ⟨some 13, _, _, _, _, _⟩) (v := .pointer (some ⟨a, 0, none⟩)) rfl (by kernel_rfl) (by kernel_rfl) (by kernel_rfl) (fun _ _ _ h => h) (.inl ⟨by rfl, fun W1 h1 => by go_simp⟩) hW ?_
  try simp only [Act.put, List.setIfInBounds_toArray, List.set_cons_zero, List.set_cons_succ]
  refine wpAnyH_take (i := 9) (oi := ⟨some 14, _, _, _, _, _⟩) (v := .int .i64 fr) rfl (by kernel_rfl) (by kernel_rfl) (by kernel_rfl) (fun _ _ _ h => h) (.inl ⟨by rfl, fun W1 h1 => by have h2 := (Below.cell (p := ⟨a, 0, none⟩) h1 hal).trans Q0.out; clear h1; go_simp⟩) hW ?_
  try simp only [Act.put, List.setIfInBounds_toArray, List.set_cons_zero, List.set_cons_succ]
  refine wpAnyH_take (i := 10) (oi := ⟨some 15, _, _, _, _, _⟩) (v := .int .i64 (tu - fr)) rfl (by kernel_rfl) (by kernel_rfl) (by kernel_rfl) (fun _ _ _ h => h) (.inl ⟨by rfl, fun W1 h1 => by go_simp⟩) hW ?_
  try simp only [Act.put, List.setIfInBounds_toArray, List.set_cons_zero, List.set_cons_succ]
  refine wpAnyH_take (i := 11) (oi := ⟨some 16, _, _, _, _, _⟩) (v := .pointer (some ⟨a, 0, none⟩)) rfl (by kernel_rfl) (by kernel_rfl) (by kernel_rfl) (fun _ _ _ h => h) (.inl ⟨by rfl, fun W1 h1 => by go_simp⟩) hW ?_
  try simp only [Act.put, List.setIfInBounds_toArray, List.set_cons_zero, List.set_cons_succ]
  refine wpAnyH_take (i := 14) (oi := ⟨some 19, _, _, _, _, _⟩) (v := .pointer (some ⟨a, 0, none⟩)) rfl (by kernel_rfl) (by kernel_rfl) (by kernel_rfl) (fun _ _ _ h => h) (.inl ⟨by rfl, fun W1 h1 => by go_simp⟩) hW ?_
  try simp only [Act.put, List.setIfInBounds_toArray, List.set_cons_zero, List.set_cons_succ]
  refine wpAnyH_ready (rs := [12]) (by kernel_rfl) (by simp) (AllReadyH.cons rfl (fun K1 hK1 => ?_) AllReadyH.nil)
  go_simp
  refine (free18 a mw fr tu rs l _ (HAB.out.below hW)).mono ?_
  rintro e w1 ⟨rfl, hb1⟩
  refine hK1.out _ _ (hW.trans (hb1.mono hW.size)) (fun hW => ?_)
  clear hb1
  try simp only [Act.put, List.setIfInBounds_toArray, List.set_cons_zero, List.set_cons_succ]
  refine wpAnyH_take (i := 13) (oi := ⟨some 18, _, _, _, _, _⟩) (v := .int .i64 (tu - fr - total l)) rfl (by kernel_rfl) (by kernel_rfl) (by kernel_rfl) (fun _ _ _ h => h) (.inl ⟨by rfl, fun W1 h1 => by go_simp⟩) hW ?_
  try simp only [Act.put, List.setIfInBounds_toArray, List.set_cons_zero, List.set_cons_succ]
  refine wpAnyH_ready (rs := [15]) (by kernel_rfl) (by simp) (AllReadyH.cons rfl (fun K2 hK2 => ?_) AllReadyH.nil)
  go_simp
  refine (waiting19 a mw fr tu rs l _ (HAB.out.below hW)).mono ?_
  rintro e w2 ⟨rfl, hb2⟩
  refine hK2.out _ _ (hW.trans (hb2.mono hW.size)) (fun hW => ?_)
  clear hb2
  try simp only [Act.put, List.setIfInBounds_toArray, List.set_cons_zero, List.set_cons_succ]
  refine wpAnyH_take (i := 16) (oi := ⟨some 21, _, _, _, _, _⟩) (v := .int .i64 (tu - fr - total l)) rfl (by kernel_rfl) (by kernel_rfl) (by kernel_rfl) (fun _ _ _ h => h) (.inl ⟨by rfl, fun W1 h1 => by go_simp⟩) hW ?_
  try simp only [Act.put, List.setIfInBounds_toArray, List.set_cons_zero, List.set_cons_succ]
  refine wpAnyH_take (i := 17) (oi := ⟨some 2, _, _, _, _, _⟩) (v := .int .i64 (tu - fr - total l)) rfl (by kernel_rfl) (by kernel_rfl) (by kernel_rfl) (fun _ _ _ h => h) (.inl ⟨by rfl, fun W1 h1 => by go_simp⟩) hW ?_
  try simp only [Act.put, List.setIfInBounds_toArray, List.set_cons_zero, List.set_cons_succ]
  refine wpAnyH_done (by kernel_rfl) ?_ _
  clear hK1 hK2 K1 K2
  have HB5 := Aside0.mk (HB.out.trans (hW.mono HB.out.size))
  clear hW hWx
  go_wp2
  rw [HP.out]
  exact ⟨rfl, HB5.out⟩
end Go.Proofs.Ytchhdafgmifhdaa.AlcB
namespace Go.Proofs.Ytchhdafgmifhdaa.AlcC
open Go.RowKit Go.Proofs.Ytchhdafgmifhdaa.B8 Go.Proofs.Ytchhdafgmifhdaa.Agg Go.Proofs.Ytchhdafgmifhdaa.CodL Go.Proofs.Ytchhdafgmifhdaa.CodA Go.Proofs.Ytchhdafgmifhdaa.CodB Go.Proofs.Ytchhdafgmifhdaa.CrcL Go.Proofs.Ytchhdafgmifhdaa.CrcA Go.Proofs.Ytchhdafgmifhdaa.CrcB Go.Proofs.Ytchhdafgmifhdaa.PCowLays Go.Proofs.YtchhdafgmifhdaaW.PrintWords Go.Proofs.YtchhdafgmifhdaaW.PrintLast Go.Proofs.YtchhdafgmifhdaaW.PrintMore Go.Proofs.Ytchhdafgmifhdaa.ExtL Go.Proofs.Ytchhdafgmifhdaa.ExtA Go.Proofs.Ytchhdafgmifhdaa.ExtB Go.Proofs.Ytchhdafgmifhdaa.ExtC Go.Proofs.Ytchhdafgmifhdaa.ExtD Go.Proofs.Ytchhdafgmifhdaa.ExtE Go.Proofs.Ytchhdafgmifhdaa.ExtF Go.Proofs.Ytchhdafgmifhdaa.ExtG Go.Proofs.Ytchhdafgmifhdaa.DskA Go.Proofs.Ytchhdafgmifhdaa.DskB Go.Proofs.Ytchhdafgmifhdaa.DskC Go.Proofs.Ytchhdafgmifhdaa.AlcA
set_option linter.unusedVariables false
set_option linter.unusedSimpArgs false
set_option maxRecDepth 100000 in
set_option maxHeartbeats 4000000 in
theorem check32 (a mw : Nat) (fr tu rs x y : Int) (l : List Sp) (w : World) (hd : AB w a mw fr tu rs l) (hx : fr ≤ x) (hxy : x < y) (hy : y ≤ tu) : Calls Try.prog 32 #[.pointer (some ⟨a, 0, none⟩), .agg #[.int .i64 x, .int .i64 y]] w (fun e w' => e = .returned (.int .i64 0) ∧ Below w.heap.size w w') := by
  have hb1 : Below w.heap.size w (w.alloc (.cells #[.int .i64 x, .int .i64 y] 42)) := below_alloc (Below.refl w.heap.size w) _
  have HD := Aside0.mk (hd.below hb1)
  have HB := Aside0.mk hb1
  have HG := Aside0.mk (blk_new w (.cells #[.int .i64 x, .int .i64 y] 42))
  obtain ⟨P, hP⟩ : ∃ P : Ending → World → Prop, P = fun e w' => e = .returned (.int .i64 0) ∧ Below w.heap.size w w' := ⟨_, rfl⟩
  rw [← hP]
  have HP := Aside0.mk hP
  clear hP hd hb1
  go_enter Try.func32, Try.ntmps32
  go_wp2_with fail
  generalize hW1 : w.alloc (.cells #[.int .i64 x, .int .i64 y] 42) = W1 at *
  clear hW1
  refine (none17 a mw fr tu rs l W1 HD.out).mono ?_
  rintro e W2 ⟨rfl, hb⟩
  obtain ⟨A, n, c, was, h1, h2, h3, h4⟩ := (HD.out.below hb).blk
  have hg2 := blk_below HG.out hb
  have q0 : W2.drew.cell? ⟨a, 0, none⟩ = some (.int .i64 fr) := by show W2.cell? _ = _; rw [cell_of_row _ _ 0 _ 57 (0, 0) h1]; rfl
  have q1 : W2.drew.cell? ⟨a, 1, none⟩ = some (.int .i64 tu) := by show W2.cell? _ = _; rw [cell_of_row _ _ 1 _ 57 (0, 0) h1]; rfl
  have r0 : W2.drew.cell? ⟨w.heap.size, 0, none⟩ = some (.int .i64 x) := by show W2.cell? _ = _; rw [cell_of_row _ _ 0 _ 42 (0, 0) hg2]; rfl
  have r1 : W2.drew.cell? ⟨w.heap.size, 1, none⟩ = some (.int .i64 y) := by show W2.cell? _ = _; rw [cell_of_row _ _ 1 _ 42 (0, 0) hg2]; rfl
  have HB2 := Aside0.mk (show Below w.heap.size w W2.drew from (HB.out.trans (hb.mono HB.out.size)).trans (below_drew (Below.refl _ _)))
  have d1 : decide (x < fr) = false := decide_eq_false (by omega)
  have d2 : decide (x ≥ y) = false := decide_eq_false (by omega)
  have d2' : decide (y ≤ x) = false := decide_eq_false (by omega)
  have d3 : decide (y > tu) = false := decide_eq_false (by omega)
  have d3' : decide (tu < y) = false := decide_eq_false (by omega)
  clear h1 h2 h3 h4 hg2 hb
  go_wp2_with fail
  refine wp_region_held_drew (S := fun w' => w' = W2.drew) (by kernel_rfl) rfl (fun hW => ?_)
  generalize hWd : W2.drew = Wd at *
  clear hWd
  refine wpAnyH_take (i := 0) (oi := ⟨some 9, _, _, _, _, _⟩) (v := .pointer (some ⟨w.heap.size, 0, none⟩)) rfl (by kernel_rfl) (by kernel_rfl) (by kernel_rfl) (fun _ _ _ h => h) (.inl ⟨by rfl, fun W1 h1 => by subst h1; go_simp⟩) hW ?_
  try simp only [Act.put, List.setIfInBounds_toArray, List.set_cons_zero, List.set_cons_succ]
  refine wpAnyH_take (i := 1) (oi := ⟨some 10, _, _, _, _, _⟩) (v := .int .i64 x) rfl (by kernel_rfl) (by kernel_rfl) (by kernel_rfl) (fun _ _ _ h => h) (.inl ⟨by rfl, fun W1 h1 => by subst h1; go_simp⟩) hW ?_
  try simp only [Act.put, List.setIfInBounds_toArray, List.set_cons_zero, List.set_cons_succ]
  refine wpAnyH_take (i := 2) (oi := ⟨some 11, _, _, _, _, _⟩) (v := .pointer (some ⟨a, 0, none⟩)) rfl (by kernel_rfl) (by kernel_rfl) (by kernel_rfl) (fun _ _ _ h => h) (.inl ⟨by rfl, fun W1 h1 => by subst h1; go_simp⟩) hW ?_
  try simp only [Act.put, List.setIfInBounds_toArray, List.set_cons_zero, List.set_cons_succ]
  refine wpAnyH_take (i := 3) (oi := ⟨some 12, _, _, _, _, _⟩) (v := .pointer (some ⟨a, 0, none⟩)) rfl (by kernel_rfl) (by kernel_rfl) (by kernel_rfl) (fun _ _ _ h => h) (.inl ⟨by rfl, fun W1 h1 => by subst h1; go_simp⟩) hW ?_
  try simp only [Act.put, List.setIfInBounds_toArray, List.set_cons_zero, List.set_cons_succ]
  refine wpAnyH_take (i := 4) (oi := ⟨some 13, _, _, _, _, _⟩) (v := .pointer (some ⟨a, 0, none⟩)) rfl (by kernel_rfl) (by kernel_rfl) (by kernel_rfl) (fun _ _ _ h => h) (.inl ⟨by rfl, fun W1 h1 => by subst h1; go_simp⟩) hW ?_
  try simp only [Act.put, List.setIfInBounds_toArray, List.set_cons_zero, List.set_cons_succ]
  refine wpAnyH_take (i := 5) (oi := ⟨some 14, _, _, _, _, _⟩) (v := .pointer (some ⟨a, 0, none⟩)) rfl (by kernel_rfl) (by kernel_rfl) (by kernel_rfl) (fun _ _ _ h => h) (.inl ⟨by rfl, fun W1 h1 => by subst h1; go_simp⟩) hW ?_
  try simp only [Act.put, List.setIfInBounds_toArray, List.set_cons_zero, List.set_cons_succ]
  refine wpAnyH_take (i := 6) (oi := ⟨some 15, _, _, _, _, _⟩) (v := .int .i64 fr) rfl (by kernel_rfl) (by kernel_rfl) (by kernel_rfl) (fun _ _ _ h => h) (.inl ⟨by rfl, fun W1 h1 => by subst h1; go_simp⟩) hW ?_
  try simp only [Act.put, List.setIfInBounds_toArray, List.set_cons_zero, List.set_cons_succ]
  refine wpAnyH_take (i := 7) (oi := ⟨some 16, _, _, _, _, _⟩) (v := .bool false) rfl (by kernel_rfl) (by kernel_rfl) (by kernel_rfl) (fun _ _ _ h => h) (.inl ⟨by rfl, fun W1 h1 => by subst h1; go_simp⟩) hW ?_
  try simp only [Act.put, List.setIfInBounds_toArray, List.set_cons_zero, List.set_cons_succ]
  refine wpAnyH_take (i := 8) (oi := ⟨some 17, _, _, _, _, _⟩) (v := .bool false) rfl (by kernel_rfl) (by kernel_rfl) (by kernel_rfl) (fun _ _ _ h => h) (.inl ⟨by rfl, fun W1 h1 => by subst h1; go_simp⟩) hW ?_
  try simp only [Act.put, List.setIfInBounds_toArray, List.set_cons_zero, List.set_cons_succ]
  refine wpAnyH_take (i := 9) (oi := ⟨some 18, _, _, _, _, _⟩) (v := .pointer (some ⟨w.heap.size, 0, none⟩)) rfl (by kernel_rfl) (by kernel_rfl) (by kernel_rfl) (fun _ _ _ h => h) (.inl ⟨by rfl, fun W1 h1 => by subst h1; go_simp⟩) hW ?_
  try simp only [Act.put, List.setIfInBounds_toArray, List.set_cons_zero, List.set_cons_succ]
  refine wpAnyH_take (i := 10) (oi := ⟨some 19, _, _, _, _, _⟩) (v := .int .i64 x) rfl (by kernel_rfl) (by kernel_rfl) (by kernel_rfl) (fun _ _ _ h => h) (.inl ⟨by rfl, fun W1 h1 => by subst h1; go_simp⟩) hW ?_
  try simp only [Act.put, List.setIfInBounds_toArray, List.set_cons_zero, List.set_cons_succ]
  refine wpAnyH_take (i := 11) (oi := ⟨some 20, _, _, _, _, _⟩) (v := .pointer (some ⟨w.heap.size, 1, none⟩)) rfl (by kernel_rfl) (by kernel_rfl) (by kernel_rfl) (fun _ _ _ h => h) (.inl ⟨by rfl, fun W1 h1 => by subst h1; go_simp⟩) hW ?_
  try simp only [Act.put, List.setIfInBounds_toArray, List.set_cons_zero, List.set_cons_succ]
  refine wpAnyH_take (i := 12) (oi := ⟨some 21, _, _, _, _, _⟩) (v := .int .i64 y) rfl (by kernel_rfl) (by kernel_rfl) (by kernel_rfl) (fun _ _ _ h => h) (.inl ⟨by rfl, fun W1 h1 => by subst h1; go_simp⟩) hW ?_
  try simp only [Act.put, List.setIfInBounds_toArray, List.set_cons_zero, List.set_cons_succ]
  refine wpAnyH_take (i := 13) (oi := ⟨some 22, _, _, _, _, _⟩) (v := .bool false) rfl (by kernel_rfl) (by kernel_rfl) (by kernel_rfl) (fun _ _ _ h => h) (.inl ⟨by rfl, fun W1 h1 => by subst h1; go_simp⟩) hW ?_
  try simp only [Act.put, List.setIfInBounds_toArray, List.set_cons_zero, List.set_cons_succ]
  refine wpAnyH_take (i := 14) (oi := ⟨some 23, _, _, _, _, _⟩) (v := .bool false) rfl (by kernel_rfl) (by kernel_rfl) (by kernel_rfl) (fun _ _ _ h => h) (.inl ⟨by rfl, fun W1 h1 => by subst h1; go_simp⟩) hW ?_
  try simp only [Act.put, List.setIfInBounds_toArray, List.set_cons_zero, List.set_cons_succ]
  refine wpAnyH_take (i := 15) (oi := ⟨some 24, _, _, _, _, _⟩) (v := .bool false) rfl (by kernel_rfl) (by kernel_rfl) (by kernel_rfl) (fun _ _ _ h => h) (.inl ⟨by rfl, fun W1 h1 => by subst h1; go_simp⟩) hW ?_
  try simp only [Act.put, List.setIfInBounds_toArray, List.set_cons_zero, List.set_cons_succ]
  refine wpAnyH_take (i := 16) (oi := ⟨some 25, _, _, _, _, _⟩) (v := .pointer (some ⟨w.heap.size, 1, none⟩)) rfl (by kernel_rfl) (by kernel_rfl) (by kernel_rfl) (fun _ _ _ h => h) (.inl ⟨by rfl, fun W1 h1 => by subst h1; go_simp⟩) hW ?_
  try simp only [Act.put, List.setIfInBounds_toArray, List.set_cons_zero, List.set_cons_succ]
  refine wpAnyH_take (i := 17) (oi := ⟨some 26, _, _, _, _, _⟩) (v := .int .i64 y) rfl (by kernel_rfl) (by kernel_rfl) (by kernel_rfl) (fun _ _ _ h => h) (.inl ⟨by rfl, fun W1 h1 => by subst h1; go_simp⟩) hW ?_
  try simp only [Act.put, List.setIfInBounds_toArray, List.set_cons_zero, List.set_cons_succ]
  refine wpAnyH_take (i := 18) (oi := ⟨some 27, _, _, _, _, _⟩) (v := .pointer (some ⟨a, 0, none⟩)) rfl (by kernel_rfl) (by kernel_rfl) (by kernel_rfl) (fun _ _ _ h => h) (.inl ⟨by rfl, fun W1 h1 => by subst h1; go_simp⟩) hW ?_
  try simp only [Act.put, List.setIfInBounds_toArray, List.set_cons_zero, List.set_cons_succ]
  refine wpAnyH_take (i := 19) (oi := ⟨some 28, _, _, _, _, _⟩) (v := .pointer (some ⟨a, 0, none⟩)) rfl (by kernel_rfl) (by kernel_rfl) (by kernel_rfl) (fun _ _ _ h => h) (.inl ⟨by rfl, fun W1 h1 => by subst h1; go_simp⟩) hW ?_
  try simp only [Act.put, List.setIfInBounds_toArray, List.set_cons_zero, List.set_cons_succ]
  refine wpAnyH_take (i := 20) (oi := ⟨some 29, _, _, _, _, _⟩) (v := .pointer (some ⟨a, 0, none⟩)) rfl (by kernel_rfl) (by kernel_rfl) (by kernel_rfl) (fun _ _ _ h => h) (.inl ⟨by rfl, fun W1 h1 => by subst h1; go_simp⟩) hW ?_
  try simp only [Act.put, List.setIfInBounds_toArray, List.set_cons_zero, List.set_cons_succ]
  refine wpAnyH_take (i := 21) (oi := ⟨some 30, _, _, _, _, _⟩) (v := .pointer (some ⟨a, 1, none⟩)) rfl (by kernel_rfl) (by kernel_rfl) (by kernel_rfl) (fun _ _ _ h => h) (.inl ⟨by rfl, fun W1 h1 => by subst h1; go_simp⟩) hW ?_
  try simp only [Act.put, List.setIfInBounds_toArray, List.set_cons_zero, List.set_cons_succ]
  refine wpAnyH_take (i := 22) (oi := ⟨some 31, _, _, _, _, _⟩) (v := .int .i64 tu) rfl (by kernel_rfl) (by kernel_rfl) (by kernel_rfl) (fun _ _ _ h => h) (.inl ⟨by rfl, fun W1 h1 => by subst h1; go_simp⟩) hW ?_
  try simp only [Act.put, List.setIfInBounds_toArray, List.set_cons_zero, List.set_cons_succ]
  refine wpAnyH_take (i := 23) (oi := ⟨some 32, _, _, _, _, _⟩) (v := .bool false) rfl (by kernel_rfl) (by kernel_rfl) (by kernel_rfl) (fun _ _ _ h => h) (.inl ⟨by rfl, fun W1 h1 => by subst h1; go_simp⟩) hW ?_
  try simp only [Act.put, List.setIfInBounds_toArray, List.set_cons_zero, List.set_cons_succ]
  refine wpAnyH_take (i := 24) (oi := ⟨some 33, _, _, _, _, _⟩) (v := .bool false) rfl (by kernel_rfl) (by kernel_rfl) (by kernel_rfl) (fun _ _ _ h => h) (.inl ⟨by rfl, fun W1 h1 => by subst h1; go_simp⟩) hW ?_
  try simp only [Act.put, List.setIfInBounds_toArray, List.set_cons_zero, List.set_cons_succ]
  refine wpAnyH_take (i := 25) (oi := ⟨some 8, _, _, _, _, _⟩) (v := .bool false) rfl (by kernel_rfl) (by kernel_rfl) (by kernel_rfl) (fun _ _ _ h => h) (.inl ⟨by rfl, fun W1 h1 => by subst h1; go_simp⟩) hW ?_
  try simp only [Act.put, List.setIfInBounds_toArray, List.set_cons_zero, List.set_cons_succ]
  refine wpAnyH_done (by kernel_rfl) ?_ _
  clear q0 q1 r0 r1
  go_wp2
  rw [HP.out]
  exact ⟨rfl, HB2.out⟩
def usedE (l : List Sp) (s : Sp) : Int := if meetsS l s then 13 else 0
set_option maxRecDepth 100000 in
set_option maxHeartbeats 4000000 in
theorem used21 (a mw : Nat) (fr tu rs x y : Int) (l : List Sp) (w : World) (hd : AB w a mw fr tu rs l) (hx : fr ≤ x) (hxy : x < y) (hy : y ≤ tu) : Calls Try.prog 21 #[.pointer (some ⟨a, 0, none⟩), .agg #[.int .i64 x, .int .i64 y]] w (fun e w' => e = .returned (.int .i64 (usedE l (x, y))) ∧ Below w.heap.size w w') := by
  have hb1 : Below w.heap.size w (w.alloc (.cells #[.int .i64 x, .int .i64 y] 42)) := below_alloc (Below.refl w.heap.size w) _
  have HD := Aside0.mk (hd.below hb1)
  have HB := Aside0.mk hb1
  have HG := Aside0.mk (blk_new w (.cells #[.int .i64 x, .int .i64 y] 42))
  obtain ⟨P, hP⟩ : ∃ P : Ending → World → Prop, P = fun e w' => e = .returned (.int .i64 (usedE l (x, y))) ∧ Below w.heap.size w w' := ⟨_, rfl⟩
  rw [← hP]
  have HP := Aside0.mk hP
  have HN := Aside0.mk hd.num
  have HOK := Aside0.mk (show okS (x, y) from ⟨by have := hd.num; simp only; omega, hxy, by have := hd.num; simp only; omega⟩)
  clear hP hd hb1
  go_enter Try.func21, Try.ntmps21
  go_wp2_with fail
  generalize hW1 : w.alloc (.cells #[.int .i64 x, .int .i64 y] 42) = W1 at *
  clear hW1
  refine (check32 a mw fr tu rs x y l W1 HD.out hx hxy hy).mono ?_
  rintro e W2 ⟨rfl, hb⟩
  have HD2 := Aside0.mk (HD.out.below hb)
  obtain ⟨A, n, c, was, h1, h2, h3, h4⟩ := HD2.out.blk
  have hg2 := blk_below HG.out hb
  have hal : a < W2.heap.size := blk_lt h1
  have hgl : w.heap.size < W2.heap.size := blk_lt hg2
  have Q4 := Aside0.mk (show W2.cell? ⟨a, 4, none⟩ = some (.slice A n c) by rw [cell_of_row _ _ 4 _ 57 (0, 0) h1]; rfl)
  have R0 := Aside0.mk (show W2.cell? ⟨w.heap.size, 0, none⟩ = some (.int .i64 x) by rw [cell_of_row _ _ 0 _ 42 (0, 0) hg2]; rfl)
  have R1 := Aside0.mk (show W2.cell? ⟨w.heap.size, 1, none⟩ = some (.int .i64 y) by rw [cell_of_row _ _ 1 _ 42 (0, 0) hg2]; rfl)
  have HB2 := Aside0.mk (show Below w.heap.size w W2 from HB.out.trans (hb.mono HB.out.size))
  have HC := Aside0.mk (And.intro h2 (And.intro h3 h4))
  clear h1 h2 h3 h4 hg2 hb
  go_wp2_with fail
  refine wp_region_held_drew (S := fun w' => Below W2.heap.size W2 w') (by kernel_rfl) (below_drew (Below.refl _ _)) (fun hW => ?_)
  generalize hWd : W2.drew = Wd at *
  clear hWd
  refine wpAnyH_take (i := 0) (oi := ⟨some 9, _, _, _, _, _⟩) (v := .int .i64 0) rfl (by kernel_rfl) (by kernel_rfl) (by kernel_rfl) (fun _ _ _ h => h) (.inl ⟨by rfl, fun W1 h1 => by go_simp⟩) hW ?_
  try simp only [Act.put, List.setIfInBounds_toArray, List.set_cons_zero, List.set_cons_succ]
  refine wpAnyH_take (i := 1) (oi := ⟨some 10, _, _, _, _, _⟩) (v := .bool true) rfl (by kernel_rfl) (by kernel_rfl) (by kernel_rfl) (fun _ _ _ h => h) (.inl ⟨by rfl, fun W1 h1 => by go_simp⟩) hW ?_
  try simp only [Act.put, List.setIfInBounds_toArray, List.set_cons_zero, List.set_cons_succ]
  refine wpAnyH_take (i := 2) (oi := ⟨some 11, _, _, _, _, _⟩) (v := .bool true) rfl (by kernel_rfl) (by kernel_rfl) (by kernel_rfl) (fun _ _ _ h => h) (.inl ⟨by rfl, fun W1 h1 => by go_simp⟩) hW ?_
  try simp only [Act.put, List.setIfInBounds_toArray, List.set_cons_zero, List.set_cons_succ]
  refine wpAnyH_take (i := 3) (oi := ⟨some 12, _, _, _, _, _⟩) (v := .pointer (some ⟨a, 0, none⟩)) rfl (by kernel_rfl) (by kernel_rfl) (by kernel_rfl) (fun _ _ _ h => h) (.inl ⟨by rfl, fun W1 h1 => by go_simp⟩) hW ?_
  try simp only [Act.put, List.setIfInBounds_toArray, List.set_cons_zero, List.set_cons_succ]
  refine wpAnyH_take (i := 4) (oi := ⟨some 13, _, _, _, _, _⟩) (v := .pointer (some ⟨a, 0, none⟩)) rfl (by kernel_rfl) (by kernel_rfl) (by kernel_rfl) (fun _ _ _ h => h) (.inl ⟨by rfl, fun W1 h1 => by go_simp⟩) hW ?_
  try simp only [Act.put, List.setIfInBounds_toArray, List.set_cons_zero, List.set_cons_succ]
  refine wpAnyH_take (i := 5) (oi := ⟨some 14, _, _, _, _, _⟩) (v := .pointer (some ⟨a, 4, none⟩)) rfl (by kernel_rfl) (by kernel_rfl) (by kernel_rfl) (fun _ _ _ h => h) (.inl ⟨by rfl, fun W1 h1 => by go_simp⟩) hW ?_
  try simp only [Act.put, List.setIfInBounds_toArray, List.set_cons_zero, List.set_cons_succ]
  refine wpAnyH_take (i := 6) (oi := ⟨some 15, _, _, _, _, _⟩) (v := .slice A n c) rfl (by kernel_rfl) (by kernel_rfl) (by kernel_rfl) (fun _ _ _ h => h) (.inl ⟨by rfl, fun W1 h1 => by have h2 := (Below.cell (p := ⟨a, 4, none⟩) h1 hal).trans Q4.out; clear h1; go_simp⟩) hW ?_
  try simp only [Act.put, List.setIfInBounds_toArray, List.set_cons_zero, List.set_cons_succ]
  refine wpAnyH_take (i := 7) (oi := ⟨some 16, _, _, _, _, _⟩) (v := .agg #[.int .i64 x, .int .i64 y]) rfl (by kernel_rfl) (by kernel_rfl) (by kernel_rfl) (fun _ _ _ h => h) (.inl ⟨by rfl, fun W1 h1 => by have h2 := (Below.cell (p := ⟨w.heap.size, 0, none⟩) h1 hgl).trans R0.out; have h3 := (Below.cell (p := ⟨w.heap.size, 1, none⟩) h1 hgl).trans R1.out; clear h1; go_simp⟩) hW ?_
  try simp only [Act.put, List.setIfInBounds_toArray, List.set_cons_zero, List.set_cons_succ]
  cases hm : meetsS l (x, y) with
  | true =>
    have hE : usedE l (x, y) = 13 := by unfold usedE; rw [hm]; rfl
    refine wpAnyH_ready (rs := [8]) (by kernel_rfl) (by simp) (AllReadyH.cons rfl (fun K1 hK1 => ?_) AllReadyH.nil)
    go_simp
    refine (meets_calls A c n l x y _ (Kd.C_below HC.out.1 hW) HC.out.2.1 (by have := HC.out.2.2; omega) HD2.out.vs HOK.out).mono ?_
    rintro e w1 ⟨rfl, hb1⟩
    rw [hm]
    refine hK1.out _ _ (hW.trans (hb1.mono hW.size)) (fun hW => ?_)
    clear hb1
    try simp only [Act.put, List.setIfInBounds_toArray, List.set_cons_zero, List.set_cons_succ]
    refine wpAnyH_take (i := 9) (oi := ⟨some 18, _, _, _, _, _⟩) (v := .bool true) rfl (by kernel_rfl) (by kernel_rfl) (by kernel_rfl) (fun _ _ _ h => h) (.inl ⟨by rfl, fun W1 h1 => by go_simp⟩) hW ?_
    try simp only [Act.put, List.setIfInBounds_toArray, List.set_cons_zero, List.set_cons_succ]
    refine wpAnyH_take (i := 10) (oi := ⟨some 19, _, _, _, _, _⟩) (v := undef) rfl (by kernel_rfl) (by kernel_rfl) (by kernel_rfl) (fun _ _ _ h => h) (.inr ⟨by rfl, rfl⟩) hW ?_
    try simp only [Act.put, List.setIfInBounds_toArray, List.set_cons_zero, List.set_cons_succ]
    refine wpAnyH_take (i := 11) (oi := ⟨some 20, _, _, _, _, _⟩) (v := undef) rfl (by kernel_rfl) (by kernel_rfl) (by kernel_rfl) (fun _ _ _ h => h) (.inr ⟨by rfl, rfl⟩) hW ?_
    try simp only [Act.put, List.setIfInBounds_toArray, List.set_cons_zero, List.set_cons_succ]
    refine wpAnyH_take (i := 12) (oi := ⟨some 21, _, _, _, _, _⟩) (v := undef) rfl (by kernel_rfl) (by kernel_rfl) (by kernel_rfl) (fun _ _ _ h => h) (.inr ⟨by rfl, rfl⟩) hW ?_
    try simp only [Act.put, List.setIfInBounds_toArray, List.set_cons_zero, List.set_cons_succ]
    refine wpAnyH_take (i := 13) (oi := ⟨some 22, _, _, _, _, _⟩) (v := undef) rfl (by kernel_rfl) (by kernel_rfl) (by kernel_rfl) (fun _ _ _ h => h) (.inr ⟨by rfl, rfl⟩) hW ?_
    try simp only [Act.put, List.setIfInBounds_toArray, List.set_cons_zero, List.set_cons_succ]
    refine wpAnyH_take (i := 14) (oi := ⟨some 23, _, _, _, _, _⟩) (v := .bool true) rfl (by kernel_rfl) (by kernel_rfl) (by kernel_rfl) (fun _ _ _ h => h) (.inl ⟨by rfl, fun W1 h1 => by go_simp⟩) hW ?_
    try simp only [Act.put, List.setIfInBounds_toArray, List.set_cons_zero, List.set_cons_succ]
    refine wpAnyH_take (i := 15) (oi := ⟨some 24, _, _, _, _, _⟩) (v := .bool true) rfl (by kernel_rfl) (by kernel_rfl) (by kernel_rfl) (fun _ _ _ h => h) (.inl ⟨by rfl, fun W1 h1 => by go_simp⟩) hW ?_
    try simp only [Act.put, List.setIfInBounds_toArray, List.set_cons_zero, List.set_cons_succ]
    refine wpAnyH_done (by kernel_rfl) ?_ _
    have HB5 := Aside0.mk (HB2.out.trans (hW.mono HB2.out.size))
    clear hW hK1 K1
    go_wp2
    rw [HP.out, hE]
    exact ⟨rfl, HB5.out⟩
  | false =>
    have hE : usedE l (x, y) = 0 := by unfold usedE; rw [hm]; rfl
    refine wpAnyH_ready (rs := [8]) (by kernel_rfl) (by simp) (AllReadyH.cons rfl (fun K1 hK1 => ?_) AllReadyH.nil)
    go_simp
    refine (meets_calls A c n l x y _ (Kd.C_below HC.out.1 hW) HC.out.2.1 (by have := HC.out.2.2; omega) HD2.out.vs HOK.out).mono ?_
    rintro e w1 ⟨rfl, hb1⟩
    rw [hm]
    refine hK1.out _ _ (hW.trans (hb1.mono hW.size)) (fun hW => ?_)
    clear hb1
    try simp only [Act.put, List.setIfInBounds_toArray, List.set_cons_zero, List.set_cons_succ]
    refine wpAnyH_take (i := 9) (oi := ⟨some 18, _, _, _, _, _⟩) (v := .bool false) rfl (by kernel_rfl) (by kernel_rfl) (by kernel_rfl) (fun _ _ _ h => h) (.inl ⟨by rfl, fun W1 h1 => by go_simp⟩) hW ?_
    try simp only [Act.put, List.setIfInBounds_toArray, List.set_cons_zero, List.set_cons_succ]
    refine wpAnyH_take (i := 10) (oi := ⟨some 19, _, _, _, _, _⟩) (v := .pointer (some ⟨a, 0, none⟩)) rfl (by kernel_rfl) (by kernel_rfl) (by kernel_rfl) (fun _ _ _ h => h) (.inl ⟨by rfl, fun W1 h1 => by go_simp⟩) hW ?_
    try simp only [Act.put, List.setIfInBounds_toArray, List.set_cons_zero, List.set_cons_succ]
    refine wpAnyH_take (i := 12) (oi := ⟨some 21, _, _, _, _, _⟩) (v := .agg #[.int .i64 x, .int .i64 y]) rfl (by kernel_rfl) (by kernel_rfl) (by kernel_rfl) (fun _ _ _ h => h) (.inl ⟨by rfl, fun W1 h1 => by have h2 := (Below.cell (p := ⟨w.heap.size, 0, none⟩) h1 hgl).trans R0.out; have h3 := (Below.cell (p := ⟨w.heap.size, 1, none⟩) h1 hgl).trans R1.out; clear h1; go_simp⟩) hW ?_
    try simp only [Act.put, List.setIfInBounds_toArray, List.set_cons_zero, List.set_cons_succ]
    refine wpAnyH_ready (rs := [11]) (by kernel_rfl) (by simp) (AllReadyH.cons rfl (fun K2 hK2 => ?_) AllReadyH.nil)
    go_simp
    refine (waiting31 a mw fr tu rs l _ (HD2.out.below hW)).mono ?_
    rintro e w2 ⟨rfl, hb2⟩
    refine hK2.out _ _ (hW.trans (hb2.mono hW.size)) (fun hW => ?_)
    clear hb2
    try simp only [Act.put, List.setIfInBounds_toArray, List.set_cons_zero, List.set_cons_succ]
    refine wpAnyH_ready (rs := [13]) (by kernel_rfl) (by simp) (AllReadyH.cons rfl (fun K3 hK3 => ?_) AllReadyH.nil)
    go_simp
    refine (meets_calls none 0 0 [] x y _ (Kd.C_nil kS _) (Nat.le_refl _) (by omega) trivial HOK.out).mono ?_
    rintro e w3 ⟨rfl, hb3⟩
    rw [show meetsS [] (x, y) = false from rfl]
    refine hK3.out _ _ (hW.trans (hb3.mono hW.size)) (fun hW => ?_)
    clear hb3
    try simp only [Act.put, List.setIfInBounds_toArray, List.set_cons_zero, List.set_cons_succ]
    refine wpAnyH_take (i := 14) (oi := ⟨some 23, _, _, _, _, _⟩) (v := .bool false) rfl (by kernel_rfl) (by kernel_rfl) (by kernel_rfl) (fun _ _ _ h => h) (.inl ⟨by rfl, fun W1 h1 => by go_simp⟩) hW ?_
    try simp only [Act.put, List.setIfInBounds_toArray, List.set_cons_zero, List.set_cons_succ]
    refine wpAnyH_take (i := 15) (oi := ⟨some 24, _, _, _, _, _⟩) (v := .bool false) rfl (by kernel_rfl) (by kernel_rfl) (by kernel_rfl) (fun _ _ _ h => h) (.inl ⟨by rfl, fun W1 h1 => by go_simp⟩) hW ?_
    try simp only [Act.put, List.setIfInBounds_toArray, List.set_cons_zero, List.set_cons_succ]
    refine wpAnyH_done (by kernel_rfl) ?_ _
    have HB5 := Aside0.mk (HB2.out.trans (hW.mono HB2.out.size))
    clear hW hK1 K1 hK2 K2 hK3 K3
    go_wp2
    rw [HP.out, hE]
    exact ⟨rfl, HB5.out⟩
end Go.Proofs.Ytchhdafgmifhdaa.AlcC
namespace Go.Proofs.Ytchhdafgmifhdaa.AlcD
open Go.RowKit Go.Proofs.Ytchhdafgmifhdaa.B8 Go.Proofs.Ytchhdafgmifhdaa.Agg Go.Proofs.Ytchhdafgmifhdaa.CodL Go.Proofs.Ytchhdafgmifhdaa.CodA Go.Proofs.Ytchhdafgmifhdaa.CodB Go.Proofs.Ytchhdafgmifhdaa.CrcL Go.Proofs.Ytchhdafgmifhdaa.CrcA Go.Proofs.Ytchhdafgmifhdaa.CrcB Go.Proofs.Ytchhdafgmifhdaa.PCowLays Go.Proofs.YtchhdafgmifhdaaW.PrintWords Go.Proofs.YtchhdafgmifhdaaW.PrintLast Go.Proofs.YtchhdafgmifhdaaW.PrintMore Go.Proofs.Ytchhdafgmifhdaa.ExtL Go.Proofs.Ytchhdafgmifhdaa.ExtA Go.Proofs.Ytchhdafgmifhdaa.ExtB Go.Proofs.Ytchhdafgmifhdaa.ExtC Go.Proofs.Ytchhdafgmifhdaa.ExtD Go.Proofs.Ytchhdafgmifhdaa.ExtE Go.Proofs.Ytchhdafgmifhdaa.ExtF Go.Proofs.Ytchhdafgmifhdaa.ExtG Go.Proofs.Ytchhdafgmifhdaa.DskA Go.Proofs.Ytchhdafgmifhdaa.DskB Go.Proofs.Ytchhdafgmifhdaa.DskC Go.Proofs.Ytchhdafgmifhdaa.AlcA Go.Proofs.Ytchhdafgmifhdaa.AlcC
set_option linter.unusedVariables false
set_option linter.unusedSimpArgs false
theorem KB.setCell (w : World) (p : Addr) (u : Value) : KB w (w.setCell p u) (fun k => k = p.block) :=
  ⟨rfl, rfl, rfl, by simp [World.setCell], fun i _ hn => Below.heap_setCell w p u i hn⟩
theorem AB_store {W : World} {a mw base : Nat} {fr tu rs : Int} {l l' : List Sp} {v : Value} (h : AB W a mw fr tu rs l) (hR : Kd.R kS 42 W base (fun _ => True) v l') (hab : a < base) (hv : VS (-1) l') (hn : l'.length ≤ 10000) (ht : 0 ≤ total l' ∧ total l' ≤ 8192) :
    AB (W.setCell ⟨a, 4, none⟩ v) a mw fr tu rs l' := by
  obtain ⟨A, n, c, was, h1, h2, h3, h4⟩ := h.blk
  obtain ⟨cl, h6⟩ := h.wait
  obtain ⟨n1, n2, n3, n4, n5, n6, n7⟩ := h.num
  have hma : mw ≠ a := by
    rintro rfl
    rw [h6] at h1
    simp at h1
  have hR2 := Kd.R_far (p := ⟨a, 4, none⟩) (Kd.R_mono (Kd.R_bound hR) (ok' := fun k => k ≠ a) (fun k hk => by have := hk.2.1; omega)) (fun k hk => hk) v
  obtain ⟨A', c', e, hl, hc⟩ := Kd.R_reads hR2
  refine ⟨⟨A', l'.length, c', was, ?_, hc, hl, hn⟩, hv, ⟨cl, (Below.heap_setCell W ⟨a, 4, none⟩ v mw hma).trans h6⟩, ⟨n1, n2, n3, n4, n5, ht.1, ht.2⟩, fun ad n' c'' was' hh => ?_⟩
  · rw [blk_set h1 4 v, e]
    rfl
  · rw [blk_set h1 4 v, e] at hh
    have hA : A' = some ad := by simp at hh; exact hh.1.1
    subst hA
    subst e
    obtain ⟨inner, ho⟩ := Kd.R_own hR
    have hk := own_base ho ad.block (by simp [Value.ownBlock])
    obtain ⟨cells, hcl⟩ := own_typed ho ad.block (by simp [Value.ownBlock])
    exact ⟨cells, (Below.heap_setCell W ⟨a, 4, none⟩ _ ad.block (by show ad.block ≠ a; omega)).trans hcl⟩
theorem cell_far {W : World} {p q : Addr} {v u : Value} (h : W.cell? p = some v) (hne : p.block ≠ q.block) : (W.setCell q u).cell? p = some v := by
  rw [← h]
  simp only [World.cell?]
  rw [Below.heap_setCell W q u p.block hne]
set_option maxRecDepth 100000 in
set_option maxHeartbeats 4000000 in
theorem give16_no (a mw : Nat) (fr tu rs x y : Int) (l : List Sp) (w : World) (hd : AB w a mw fr tu rs l) (hx : fr ≤ x) (hxy : x < y) (hy : y ≤ tu) (hm : meetsS l (x, y) = true) : Calls Try.prog 16 #[.pointer (some ⟨a, 0, none⟩), .agg #[.int .i64 x, .int .i64 y]] w (fun e w' => e = .returned (.int .i64 13) ∧ Below w.heap.size w w') := by
  have hb1 : Below w.heap.size w (w.alloc (.cells #[.int .i64 x, .int .i64 y] 42)) := below_alloc (Below.refl w.heap.size w) _
  have HD := Aside0.mk (hd.below hb1)
  have HB := Aside0.mk hb1
  obtain ⟨P, hP⟩ : ∃ P : Ending → World → Prop, P = fun e w' => e = .returned (.int .i64 13) ∧ Below w.heap.size w w' := ⟨_, rfl⟩
  rw [← hP]
  have HP := Aside0.mk hP
  have hE : usedE l (x, y) = 13 := by unfold usedE; rw [hm]; rfl
  clear hP hd hb1
  go_enter Try.func16, Try.ntmps16
  go_wp2_with fail
  generalize hW1 : w.alloc (.cells #[.int .i64 x, .int .i64 y] 42) = W1 at *
  clear hW1
  refine (used21 a mw fr tu rs x y l W1 HD.out hx hxy hy).mono ?_
  rintro e W2 ⟨rfl, hb⟩
  rw [hE]
  have HB2 := Aside0.mk (show Below w.heap.size w W2 from HB.out.trans (hb.mono HB.out.size))
  clear hb
  go_wp2
  rw [HP.out]
  exact ⟨rfl, HB2.out⟩
set_option maxRecDepth 100000 in
set_option maxHeartbeats 4000000 in
theorem give16 (a mw : Nat) (fr tu rs x y : Int) (l : List Sp) (w : World) (hd : AB w a mw fr tu rs l) (hx : fr ≤ x) (hxy : x < y) (hy : y ≤ tu) (hm : meetsS l (x, y) = false)
    (hv : VS (-1) (addS l (x, y))) (hn : (addS l (x, y)).length ≤ 10000) (ht : 0 ≤ total (addS l (x, y)) ∧ total (addS l (x, y)) ≤ 8192) :
    Calls Try.prog 16 #[.pointer (some ⟨a, 0, none⟩), .agg #[.int .i64 x, .int .i64 y]] w (fun e w' => e = .returned (.int .i64 0) ∧ KB w w' (fun k => k = a) ∧ AB w' a mw fr tu rs (addS l (x, y))) := by
  have hb1 : Below w.heap.size w (w.alloc (.cells #[.int .i64 x, .int .i64 y] 42)) := below_alloc (Below.refl w.heap.size w) _
  have HD := Aside0.mk (hd.below hb1)
  have HB := Aside0.mk hb1
  have HG := Aside0.mk (blk_new w (.cells #[.int .i64 x, .int .i64 y] 42))
  have HV := Aside0.mk (And.intro hv (And.intro hn ht))
  obtain ⟨P, hP⟩ : ∃ P : Ending → World → Prop, P = fun e w' => e = .returned (.int .i64 0) ∧ KB w w' (fun k => k = a) ∧ AB w' a mw fr tu rs (addS l (x, y)) := ⟨_, rfl⟩
  rw [← hP]
  have HP := Aside0.mk hP
  have HOK := Aside0.mk (show okS (x, y) from ⟨by have := hd.num; simp only; omega, hxy, by have := hd.num; simp only; omega⟩)
  have hE : usedE l (x, y) = 0 := by unfold usedE; rw [hm]; rfl
  have haw : a < w.heap.size := by obtain ⟨A, n, c, was, h1, _⟩ := hd.blk; exact blk_lt h1
  clear hP hd hb1 hv hn ht
  go_enter Try.func16, Try.ntmps16
  go_wp2_with fail
  generalize hW1 : w.alloc (.cells #[.int .i64 x, .int .i64 y] 42) = W1 at *
  clear hW1
  refine (used21 a mw fr tu rs x y l W1 HD.out hx hxy hy).mono ?_
  rintro e W2 ⟨rfl, hb⟩
  rw [hE]
  have HD2 := Aside0.mk (HD.out.below (hb.trans (below_drew (Below.refl _ _) : Below W1.heap.size W2 W2.drew)))
  have HB2 := Aside0.mk (show Below w.heap.size w W2.drew from (HB.out.trans (hb.mono HB.out.size)).trans (below_drew (Below.refl _ _)))
  have hg2 : W2.drew.heap[w.heap.size]? = some (.cells #[.int .i64 x, .int .i64 y] 42 (0, 0)) := (blk_below HG.out hb : W2.heap[w.heap.size]? = _)
  have R0 : W2.drew.cell? ⟨w.heap.size, 0, none⟩ = some (.int .i64 x) := by rw [cell_of_row _ _ 0 _ 42 (0, 0) hg2]; rfl
  have R1 : W2.drew.cell? ⟨w.heap.size, 1, none⟩ = some (.int .i64 y) := by rw [cell_of_row _ _ 1 _ 42 (0, 0) hg2]; rfl
  have HR := Aside0.mk (And.intro R0 R1)
  clear hb hg2 hE
  go_wp2_with fail
  refine wp_region_held_drew (S := fun w' => w'.cell? ⟨w.heap.size, 0, none⟩ = some (.int .i64 x) ∧ w'.cell? ⟨w.heap.size, 1, none⟩ = some (.int .i64 y)) (by kernel_rfl) ⟨R0, R1⟩ (fun hW => ?_)
  clear R0 R1
  generalize hWd : W2.drew = Wd at *
  clear hWd
  obtain ⟨A, n, c, was, h1, h2, h3, h4⟩ := HD2.out.blk
  have HC := Aside0.mk (And.intro h2 (And.intro h3 h4))
  have q4 : Wd.cell? ⟨a, 4, none⟩ = some (.slice A n c) := by rw [cell_of_row _ _ 4 _ 57 (0, 0) h1]; rfl
  clear h1 h2 h3 h4
  refine wpAnyH_take (i := 0) (oi := ⟨some 11, _, _, _, _, _⟩) (v := .pointer (some ⟨a, 0, none⟩)) rfl (by kernel_rfl) (by kernel_rfl) (by kernel_rfl) (fun _ _ _ h => h) (.inl ⟨by rfl, fun W1 h1 => by go_simp⟩) hW ?_
  try simp only [Act.put, List.setIfInBounds_toArray, List.set_cons_zero, List.set_cons_succ]
  refine wpAnyH_take (i := 1) (oi := ⟨some 12, _, _, _, _, _⟩) (v := .pointer (some ⟨a, 0, none⟩)) rfl (by kernel_rfl) (by kernel_rfl) (by kernel_rfl) (fun _ _ _ h => h) (.inl ⟨by rfl, fun W1 h1 => by go_simp⟩) hW ?_
  try simp only [Act.put, List.setIfInBounds_toArray, List.set_cons_zero, List.set_cons_succ]
  refine wpAnyH_take (i := 2) (oi := ⟨some 13, _, _, _, _, _⟩) (v := .pointer (some ⟨a, 0, none⟩)) rfl (by kernel_rfl) (by kernel_rfl) (by kernel_rfl) (fun _ _ _ h => h) (.inl ⟨by rfl, fun W1 h1 => by go_simp⟩) hW ?_
  try simp only [Act.put, List.setIfInBounds_toArray, List.set_cons_zero, List.set_cons_succ]
  refine wpAnyH_take (i := 3) (oi := ⟨some 14, _, _, _, _, _⟩) (v := .pointer (some ⟨a, 4, none⟩)) rfl (by kernel_rfl) (by kernel_rfl) (by kernel_rfl) (fun _ _ _ h => h) (.inl ⟨by rfl, fun W1 h1 => by go_simp⟩) hW ?_
  try simp only [Act.put, List.setIfInBounds_toArray, List.set_cons_zero, List.set_cons_succ]
  refine wpAnyH_take (i := 5) (oi := ⟨some 16, _, _, _, _, _⟩) (v := .agg #[.int .i64 x, .int .i64 y]) rfl (by kernel_rfl) (by kernel_rfl) (by kernel_rfl) (fun _ _ _ h => h) (.inl ⟨by rfl, fun W1 h1 => by have h2 := h1.1; have h3 := h1.2; clear h1; go_simp⟩) hW ?_
  try simp only [Act.put, List.setIfInBounds_toArray, List.set_cons_zero, List.set_cons_succ]
  refine wpAnyH_ready (rs := [4]) (by kernel_rfl) (by simp) (AllReadyH.cons rfl (fun K1 hK1 => ?_) AllReadyH.nil)
  go_simp
  refine hK1.out _ _ hW (fun hW => ?_)
  try simp only [Act.put, List.setIfInBounds_toArray, List.set_cons_zero, List.set_cons_succ]
  clear q4
  refine wpAnyH_ready (rs := [6]) (by kernel_rfl) (by simp) (AllReadyH.cons rfl (fun K2 hK2 => ?_) AllReadyH.nil)
  go_simp
  refine (add_calls A c n l x y Wd HC.out.1 HC.out.2.1 (by have := HC.out.2.2; omega) HD2.out.vs HOK.out).mono ?_
  rintro e W3 ⟨v, rfl, hR, hb3⟩
  have HD3 := Aside0.mk (HD2.out.below hb3)
  have HB3 := Aside0.mk (HB2.out.trans (hb3.mono HB2.out.size))
  have HRV := Aside0.mk hR
  have hls : w.heap.size ≤ Wd.heap.size := HB2.out.size
  obtain ⟨g0, g1⟩ : W3.cell? ⟨w.heap.size, 0, none⟩ = some (.int .i64 x) ∧ W3.cell? ⟨w.heap.size, 1, none⟩ = some (.int .i64 y) := by
    have hlt : w.heap.size < Wd.heap.size := World.block_lt_of_cell? Wd ⟨w.heap.size, 0, none⟩ hW.1
    exact ⟨(Below.cell (p := ⟨w.heap.size, 0, none⟩) hb3 hlt).trans hW.1, (Below.cell (p := ⟨w.heap.size, 1, none⟩) hb3 hlt).trans hW.2⟩
  refine hK2.out _ _ ⟨g0, g1⟩ (fun hW => ?_)
  try simp only [Act.put, List.setIfInBounds_toArray, List.set_cons_zero, List.set_cons_succ]
  clear hR hb3
  refine wpAnyH_take (i := 7) (oi := ⟨some 18, _, _, _, _, _⟩) (v := .pointer (some ⟨a, 0, none⟩)) rfl (by kernel_rfl) (by kernel_rfl) (by kernel_rfl) (fun _ _ _ h => h) (.inl ⟨by rfl, fun W1 h1 => by go_simp⟩) hW ?_
  try simp only [Act.put, List.setIfInBounds_toArray, List.set_cons_zero, List.set_cons_succ]
  refine wpAnyH_take (i := 8) (oi := ⟨some 19, _, _, _, _, _⟩) (v := .pointer (some ⟨a, 4, none⟩)) rfl (by kernel_rfl) (by kernel_rfl) (by kernel_rfl) (fun _ _ _ h => h) (.inl ⟨by rfl, fun W1 h1 => by go_simp⟩) hW ?_
  try simp only [Act.put, List.setIfInBounds_toArray, List.set_cons_zero, List.set_cons_succ]
  obtain ⟨A3, n3, c3, was3, h1, h2, h3, h4⟩ := HD3.out.blk
  have q4 : W3.cell? ⟨a, 4, none⟩ = some (.slice A3 n3 c3) := by rw [cell_of_row _ _ 4 _ 57 (0, 0) h1]; rfl
  have f4 : W3.frozen? ⟨a, 4, none⟩ = false := frozen_of_row _ _ 4 _ 57 h1
  have HFIN := Aside0.mk (AB_store HD3.out HRV.out (by omega) HV.out.1 HV.out.2.1 HV.out.2.2)
  have HKB := Aside0.mk ((KB.of_below HB3.out (fun k => k = a)).then_ (KB.setCell W3 ⟨a, 4, none⟩ v) (fun k hk => .inl hk))
  have c0 : (W3.setCell ⟨a, 4, none⟩ v).cell? ⟨w.heap.size, 0, none⟩ = some (.int .i64 x) := cell_far g0 (by show w.heap.size ≠ a; omega)
  have c1 : (W3.setCell ⟨a, 4, none⟩ v).cell? ⟨w.heap.size, 1, none⟩ = some (.int .i64 y) := cell_far g1 (by show w.heap.size ≠ a; omega)
  clear h1 h2 h3 h4
  obtain ⟨A4, c4, hv4⟩ := Kd.R_slice HRV.out
  subst hv4
  refine wpAnyH_ready (rs := [9]) (by kernel_rfl) (by simp) (AllReadyH.cons rfl (fun K3 hK3 => ?_) AllReadyH.nil)
  go_simp
  refine hK3.out _ _ ⟨c0, c1⟩ (fun hW => ?_)
  try simp only [Act.put, List.setIfInBounds_toArray, List.set_cons_zero, List.set_cons_succ]
  refine wpAnyH_done (by kernel_rfl) ?_ _
  clear hK1 K1 hK2 K2 hK3 K3 q4 f4 c0 c1 g0 g1
  generalize hW4 : W3.setCell ⟨a, 4, none⟩ (.slice A4 (addS l (x, y)).length c4) = W4 at *
  clear hW4
  go_wp2
  rw [HP.out]
  exact ⟨rfl, HKB.out, HFIN.out⟩
end Go.Proofs.Ytchhdafgmifhdaa.AlcD
namespace Go.Proofs.Ytchhdafgmifhdaa.AlcE
open Go.RowKit Go.Proofs.Ytchhdafgmifhdaa.B8 Go.Proofs.Ytchhdafgmifhdaa.Agg Go.Proofs.Ytchhdafgmifhdaa.CodL Go.Proofs.Ytchhdafgmifhdaa.CodA Go.Proofs.Ytchhdafgmifhdaa.CodB Go.Proofs.Ytchhdafgmifhdaa.CrcL Go.Proofs.Ytchhdafgmifhdaa.CrcA Go.Proofs.Ytchhdafgmifhdaa.CrcB Go.Proofs.Ytchhdafgmifhdaa.PCowLays Go.Proofs.YtchhdafgmifhdaaW.PrintWords Go.Proofs.YtchhdafgmifhdaaW.PrintLast Go.Proofs.YtchhdafgmifhdaaW.PrintMore Go.Proofs.Ytchhdafgmifhdaa.ExtL Go.Proofs.Ytchhdafgmifhdaa.ExtA Go.Proofs.Ytchhdafgmifhdaa.ExtB Go.Proofs.Ytchhdafgmifhdaa.ExtC Go.Proofs.Ytchhdafgmifhdaa.ExtD Go.Proofs.Ytchhdafgmifhdaa.ExtE Go.Proofs.Ytchhdafgmifhdaa.ExtF Go.Proofs.Ytchhdafgmifhdaa.ExtG Go.Proofs.Ytchhdafgmifhdaa.DskA Go.Proofs.Ytchhdafgmifhdaa.DskB Go.Proofs.Ytchhdafgmifhdaa.DskC Go.Proofs.Ytchhdafgmifhdaa.AlcA Go.Proofs.Ytchhdafgmifhdaa.AlcC Go.Proofs.Ytchhdafgmifhdaa.AlcD
set_option linter.unusedVariables false
set_option linter.unusedSimpArgs false
set_option maxRecDepth 100000 in
set_option maxHeartbeats 4000000 in
theorem take14 (a mw : Nat) (fr tu rs m f : Int) (l : List Sp) (w : World) (hd : AB w a mw fr tu rs l) (hm1 : 1 ≤ m) (hm2 : m ≤ 8192) (hf : findI l m = f) (hf0 : 0 ≤ f) (hf2 : f ≤ 8192) (hrs : rs ≤ total l - m)
    (hv : VS (-1) (remS l (f, f + m))) (hn : (remS l (f, f + m)).length ≤ 10000) (ht : 0 ≤ total (remS l (f, f + m)) ∧ total (remS l (f, f + m)) ≤ 8192) :
    Calls Try.prog 14 #[.pointer (some ⟨a, 0, none⟩), .int .i64 m, .bool false] w (fun e w' => e = .returned (.tuple #[.int .i64 f, .int .i64 0]) ∧ KB w w' (fun k => k = a) ∧ AB w' a mw fr tu rs (remS l (f, f + m))) := by
  have HD := Aside0.mk hd
  have HV := Aside0.mk (And.intro hv (And.intro hn ht))
  obtain ⟨P, hP⟩ : ∃ P : Ending → World → Prop, P = fun e w' => e = .returned (.tuple #[.int .i64 f, .int .i64 0]) ∧ KB w w' (fun k => k = a) ∧ AB w' a mw fr tu rs (remS l (f, f + m)) := ⟨_, rfl⟩
  rw [← hP]
  have HP := Aside0.mk hP
  have haw : a < w.heap.size := by obtain ⟨A, n, c, was, h1, _⟩ := hd.blk; exact blk_lt h1
  obtain ⟨n1, n2, n3, n4, n5, n6, n7⟩ := hd.num
  have HOK := Aside0.mk (show okS (f, f + m) from ⟨hf0, by simp only; omega, by simp only; omega⟩)
  clear hP hd hv hn ht
  have d0 : decide (m < 1) = false := decide_eq_false (by omega)
  have d1 : decide (f < 0) = false := decide_eq_false (by omega)
  have d2 : decide (total l - m < rs) = false := decide_eq_false (by omega)
  have hw1 : IntKind.i64.wrap (total l - m) = total l - m := i64_small (by omega) (by omega)
  have hw2 : IntKind.i64.wrap (f + m) = f + m := i64_small (by omega) (by omega)
  go_enter Try.func14, Try.ntmps14
  go_wp2_with fail
  refine (none17 a mw fr tu rs l w HD.out).mono ?_
  rintro e W1 ⟨rfl, hb1⟩
  have HB1 := Aside0.mk hb1
  have HD1 := Aside0.mk (HD.out.below hb1)
  clear hb1
  obtain ⟨A, n, c, was, h1, h2, h3, h4⟩ := HD1.out.blk
  have HC := Aside0.mk (And.intro h2 (And.intro h3 h4))
  have q4 : W1.cell? ⟨a, 4, none⟩ = some (.slice A n c) := by rw [cell_of_row _ _ 4 _ 57 (0, 0) h1]; rfl
  clear h1 h2 h3 h4
  go_wp2_with fail
  refine (find_calls A c n l m W1 HC.out.1 HC.out.2.1 (by have := HC.out.2.2; omega) HD1.out.vs hm1).mono ?_
  rintro e W2 ⟨rfl, hb2⟩
  rw [hf]
  have HB2 := Aside0.mk (HB1.out.trans (hb2.mono HB1.out.size))
  have HD2 := Aside0.mk (HD1.out.below hb2)
  clear hb2 q4 HC
  obtain ⟨A, n, c, was, h1, h2, h3, h4⟩ := HD2.out.blk
  have HC := Aside0.mk (And.intro h2 (And.intro h3 h4))
  have hal : a < W2.heap.size := blk_lt h1
  have Q4 := Aside0.mk (show W2.cell? ⟨a, 4, none⟩ = some (.slice A n c) by rw [cell_of_row _ _ 4 _ 57 (0, 0) h1]; rfl)
  have Q3 := Aside0.mk (show W2.cell? ⟨a, 3, none⟩ = some (.int .i64 rs) by rw [cell_of_row _ _ 3 _ 57 (0, 0) h1]; rfl)
  clear h1 h2 h3 h4
  go_wp2_with fail
  refine wp_region_held_drew (S := fun w' => Below W2.heap.size W2 w') (by kernel_rfl) (below_drew (Below.refl _ _)) (fun hW => ?_)
  generalize hWd : W2.drew = Wd at *
  clear hWd
  refine wpAnyH_take (i := 0) (oi := ⟨some 21, _, _, _, _, _⟩) (v := .int .i64 f) rfl (by kernel_rfl) (by kernel_rfl) (by kernel_rfl) (fun _ _ _ h => h) (.inl ⟨by rfl, fun W1 h1 => by go_simp⟩) hW ?_
  try simp only [Act.put, List.setIfInBounds_toArray, List.set_cons_zero, List.set_cons_succ]
  refine wpAnyH_take (i := 1) (oi := ⟨some 22, _, _, _, _, _⟩) (v := .bool false) rfl (by kernel_rfl) (by kernel_rfl) (by kernel_rfl) (fun _ _ _ h => h) (.inl ⟨by rfl, fun W1 h1 => by go_simp⟩) hW ?_
  try simp only [Act.put, List.setIfInBounds_toArray, List.set_cons_zero, List.set_cons_succ]
  refine wpAnyH_take (i := 2) (oi := ⟨some 23, _, _, _, _, _⟩) (v := .bool false) rfl (by kernel_rfl) (by kernel_rfl) (by kernel_rfl) (fun _ _ _ h => h) (.inl ⟨by rfl, fun W1 h1 => by go_simp⟩) hW ?_
  try simp only [Act.put, List.setIfInBounds_toArray, List.set_cons_zero, List.set_cons_succ]
  refine wpAnyH_take (i := 3) (oi := ⟨some 24, _, _, _, _, _⟩) (v := .bool false) rfl (by kernel_rfl) (by kernel_rfl) (by kernel_rfl) (fun _ _ _ h => h) (.inl ⟨by rfl, fun W1 h1 => by go_simp⟩) hW ?_
  try simp only [Act.put, List.setIfInBounds_toArray, List.set_cons_zero, List.set_cons_succ]
  refine wpAnyH_take (i := 4) (oi := ⟨some 25, _, _, _, _, _⟩) (v := .bool true) rfl (by kernel_rfl) (by kernel_rfl) (by kernel_rfl) (fun _ _ _ h => h) (.inl ⟨by rfl, fun W1 h1 => by go_simp⟩) hW ?_
  try simp only [Act.put, List.setIfInBounds_toArray, List.set_cons_zero, List.set_cons_succ]
  refine wpAnyH_take (i := 5) (oi := ⟨some 26, _, _, _, _, _⟩) (v := .bool true) rfl (by kernel_rfl) (by kernel_rfl) (by kernel_rfl) (fun _ _ _ h => h) (.inl ⟨by rfl, fun W1 h1 => by go_simp⟩) hW ?_
  try simp only [Act.put, List.setIfInBounds_toArray, List.set_cons_zero, List.set_cons_succ]
  refine wpAnyH_take (i := 6) (oi := ⟨some 27, _, _, _, _, _⟩) (v := .pointer (some ⟨a, 0, none⟩)) rfl (by kernel_rfl) (by kernel_rfl) (by kernel_rfl) (fun _ _ _ h => h) (.inl ⟨by rfl, fun W1 h1 => by go_simp⟩) hW ?_
  try simp only [Act.put, List.setIfInBounds_toArray, List.set_cons_zero, List.set_cons_succ]
  refine wpAnyH_take (i := 7) (oi := ⟨some 28, _, _, _, _, _⟩) (v := .pointer (some ⟨a, 0, none⟩)) rfl (by kernel_rfl) (by kernel_rfl) (by kernel_rfl) (fun _ _ _ h => h) (.inl ⟨by rfl, fun W1 h1 => by go_simp⟩) hW ?_
  try simp only [Act.put, List.setIfInBounds_toArray, List.set_cons_zero, List.set_cons_succ]
  refine wpAnyH_take (i := 8) (oi := ⟨some 29, _, _, _, _, _⟩) (v := .pointer (some ⟨a, 4, none⟩)) rfl (by kernel_rfl) (by kernel_rfl) (by kernel_rfl) (fun _ _ _ h => h) (.inl ⟨by rfl, fun W1 h1 => by go_simp⟩) hW ?_
  try simp only [Act.put, List.setIfInBounds_toArray, List.set_cons_zero, List.set_cons_succ]
  refine wpAnyH_take (i := 9) (oi := ⟨some 30, _, _, _, _, _⟩) (v := .slice A n c) rfl (by kernel_rfl) (by kernel_rfl) (by kernel_rfl) (fun _ _ _ h => h) (.inl ⟨by rfl, fun W1 h1 => by have h2 := (Below.cell (p := ⟨a, 4, none⟩) h1 hal).trans Q4.out; clear h1; go_simp⟩) hW ?_
  try simp only [Act.put, List.setIfInBounds_toArray, List.set_cons_zero, List.set_cons_succ]
  refine wpAnyH_take (i := 11) (oi := ⟨some 32, _, _, _, _, _⟩) (v := .int .i64 m) rfl (by kernel_rfl) (by kernel_rfl) (by kernel_rfl) (fun _ _ _ h => h) (.inl ⟨by rfl, fun W1 h1 => by go_simp⟩) hW ?_
  try simp only [Act.put, List.setIfInBounds_toArray, List.set_cons_zero, List.set_cons_succ]
  refine wpAnyH_take (i := 13) (oi := ⟨some 34, _, _, _, _, _⟩) (v := .pointer (some ⟨a, 0, none⟩)) rfl (by kernel_rfl) (by kernel_rfl) (by kernel_rfl) (fun _ _ _ h => h) (.inl ⟨by rfl, fun W1 h1 => by go_simp⟩) hW ?_
  try simp only [Act.put, List.setIfInBounds_toArray, List.set_cons_zero, List.set_cons_succ]
  refine wpAnyH_take (i := 14) (oi := ⟨some 35, _, _, _, _, _⟩) (v := .pointer (some ⟨a, 0, none⟩)) rfl (by kernel_rfl) (by kernel_rfl) (by kernel_rfl) (fun _ _ _ h => h) (.inl ⟨by rfl, fun W1 h1 => by go_simp⟩) hW ?_
  try simp only [Act.put, List.setIfInBounds_toArray, List.set_cons_zero, List.set_cons_succ]
  refine wpAnyH_take (i := 15) (oi := ⟨some 36, _, _, _, _, _⟩) (v := .pointer (some ⟨a, 3, none⟩)) rfl (by kernel_rfl) (by kernel_rfl) (by kernel_rfl) (fun _ _ _ h => h) (.inl ⟨by rfl, fun W1 h1 => by go_simp⟩) hW ?_
  try simp only [Act.put, List.setIfInBounds_toArray, List.set_cons_zero, List.set_cons_succ]
  refine wpAnyH_take (i := 16) (oi := ⟨some 37, _, _, _, _, _⟩) (v := .int .i64 rs) rfl (by kernel_rfl) (by kernel_rfl) (by kernel_rfl) (fun _ _ _ h => h) (.inl ⟨by rfl, fun W1 h1 => by have h2 := (Below.cell (p := ⟨a, 3, none⟩) h1 hal).trans Q3.out; clear h1; go_simp⟩) hW ?_
  try simp only [Act.put, List.setIfInBounds_toArray, List.set_cons_zero, List.set_cons_succ]
  refine wpAnyH_ready (rs := [10]) (by kernel_rfl) (by simp) (AllReadyH.cons rfl (fun K1 hK1 => ?_) AllReadyH.nil)
  go_simp
  refine (total_calls A c n l _ (Kd.C_below HC.out.1 hW) HC.out.2.1 (by have := HC.out.2.2; omega) HD2.out.vs).mono ?_
  rintro e WT ⟨rfl, hb⟩
  refine hK1.out _ _ (hW.trans (hb.mono hW.size)) (fun hW => ?_)
  clear hb
  try simp only [Act.put, List.setIfInBounds_toArray, List.set_cons_zero, List.set_cons_succ]
  refine wpAnyH_take (i := 12) (oi := ⟨some 33, _, _, _, _, _⟩) (v := .int .i64 (total l - m)) rfl (by kernel_rfl) (by kernel_rfl) (by kernel_rfl) (fun _ _ _ h => h) (.inl ⟨by rfl, fun W1 h1 => by go_simp⟩) hW ?_
  try simp only [Act.put, List.setIfInBounds_toArray, List.set_cons_zero, List.set_cons_succ]
  refine wpAnyH_take (i := 17) (oi := ⟨some 38, _, _, _, _, _⟩) (v := .bool false) rfl (by kernel_rfl) (by kernel_rfl) (by kernel_rfl) (fun _ _ _ h => h) (.inl ⟨by rfl, fun W1 h1 => by go_simp⟩) hW ?_
  try simp only [Act.put, List.setIfInBounds_toArray, List.set_cons_zero, List.set_cons_succ]
  refine wpAnyH_take (i := 18) (oi := ⟨some 39, _, _, _, _, _⟩) (v := .bool false) rfl (by kernel_rfl) (by kernel_rfl) (by kernel_rfl) (fun _ _ _ h => h) (.inl ⟨by rfl, fun W1 h1 => by go_simp⟩) hW ?_
  try simp only [Act.put, List.setIfInBounds_toArray, List.set_cons_zero, List.set_cons_succ]
  refine wpAnyH_take (i := 19) (oi := ⟨some 40, _, _, _, _, _⟩) (v := .bool false) rfl (by kernel_rfl) (by kernel_rfl) (by kernel_rfl) (fun _ _ _ h => h) (.inl ⟨by rfl, fun W1 h1 => by go_simp⟩) hW ?_
  try simp only [Act.put, List.setIfInBounds_toArray, List.set_cons_zero, List.set_cons_succ]
  refine wpAnyH_done (by kernel_rfl) ?_ _
  clear hK1 K1
  have HB3 := Aside0.mk (HB2.out.trans (hW.mono HB2.out.size))
  have HD3 := Aside0.mk (HD2.out.below hW)
  clear hW Q4 Q3 HC
  obtain ⟨A, n, c, was, h1, h2, h3, h4⟩ := HD3.out.blk
  have HC := Aside0.mk (And.intro h2 (And.intro h3 h4))
  have q4 : WT.cell? ⟨a, 4, none⟩ = some (.slice A n c) := by rw [cell_of_row _ _ 4 _ 57 (0, 0) h1]; rfl
  clear h1 h2 h3 h4
  go_wp2_with fail
  refine (remove_calls A c n l f (f + m) WT HC.out.1 HC.out.2.1 HC.out.2.2 HD3.out.vs HOK.out).mono ?_
  rintro e W4 ⟨v, rfl, hR, hb4⟩
  have HD4 := Aside0.mk (HD3.out.below hb4)
  have HB4 := Aside0.mk (HB3.out.trans (hb4.mono HB3.out.size))
  have hlt : a < WT.heap.size := by obtain ⟨A, n, c, was, h1, _⟩ := HD3.out.blk; exact blk_lt h1
  have HFIN := Aside0.mk (AB_store HD4.out hR hlt HV.out.1 HV.out.2.1 HV.out.2.2)
  have HKB := Aside0.mk ((KB.of_below HB4.out (fun k => k = a)).then_ (KB.setCell W4 ⟨a, 4, none⟩ v) (fun k hk => .inl hk))
  obtain ⟨A4, c4, hv4⟩ := Kd.R_slice hR
  subst hv4
  obtain ⟨A5, n5', c5, was5, h1, h2, h3, h4⟩ := HD4.out.blk
  have q4' : W4.cell? ⟨a, 4, none⟩ = some (.slice A5 n5' c5) := by rw [cell_of_row _ _ 4 _ 57 (0, 0) h1]; rfl
  have f4 : W4.frozen? ⟨a, 4, none⟩ = false := frozen_of_row _ _ 4 _ 57 h1
  clear h1 h2 h3 h4 hR hb4 q4
  go_wp2
  rw [HP.out]
  exact ⟨rfl, HKB.out, HFIN.out⟩
theorem mkmap55 (W : World) : (Instr.makeMap 55 none).run Try.prog W = .ok (.map (some W.heap.size)) (W.alloc (.map #[] 0)) := by
  simp [Instr.makeMap, Result.andThen]
end Go.Proofs.Ytchhdafgmifhdaa.AlcE
namespace Go.Proofs.Ytchhdafgmifhdaa.AlcF
open Go.RowKit Go.Proofs.Ytchhdafgmifhdaa.B8 Go.Proofs.Ytchhdafgmifhdaa.Agg Go.Proofs.Ytchhdafgmifhdaa.CodL Go.Proofs.Ytchhdafgmifhdaa.CodA Go.Proofs.Ytchhdafgmifhdaa.CodB Go.Proofs.Ytchhdafgmifhdaa.CrcL Go.Proofs.Ytchhdafgmifhdaa.CrcA Go.Proofs.Ytchhdafgmifhdaa.CrcB Go.Proofs.Ytchhdafgmifhdaa.PCowLays Go.Proofs.YtchhdafgmifhdaaW.PrintWords Go.Proofs.YtchhdafgmifhdaaW.PrintLast Go.Proofs.YtchhdafgmifhdaaW.PrintMore Go.Proofs.Ytchhdafgmifhdaa.ExtL Go.Proofs.Ytchhdafgmifhdaa.ExtA Go.Proofs.Ytchhdafgmifhdaa.ExtB Go.Proofs.Ytchhdafgmifhdaa.ExtC Go.Proofs.Ytchhdafgmifhdaa.ExtD Go.Proofs.Ytchhdafgmifhdaa.ExtE Go.Proofs.Ytchhdafgmifhdaa.ExtF Go.Proofs.Ytchhdafgmifhdaa.ExtG Go.Proofs.Ytchhdafgmifhdaa.DskA Go.Proofs.Ytchhdafgmifhdaa.DskB Go.Proofs.Ytchhdafgmifhdaa.DskC Go.Proofs.Ytchhdafgmifhdaa.AlcA Go.Proofs.Ytchhdafgmifhdaa.AlcC Go.Proofs.Ytchhdafgmifhdaa.AlcD Go.Proofs.Ytchhdafgmifhdaa.AlcE
set_option linter.unusedVariables false
set_option linter.unusedSimpArgs false
def AlcOut (w : World) (fr tu rs : Int) (e : Ending) (w' : World) : Prop :=
  ∃ a mw, e = .returned (.tuple #[.pointer (some ⟨a, 0, none⟩), .int .i64 0]) ∧ w.heap.size ≤ a ∧ w.heap.size ≤ mw ∧ AB w' a mw fr tu rs [(fr, tu)] ∧ Below w.heap.size w w'
set_option maxRecDepth 100000 in
set_option maxHeartbeats 4000000 in
theorem new11 (fr tu rs : Int) (w : World) (h0 : 0 ≤ fr) (h1 : fr < tu) (h2 : tu ≤ 8192) (h3 : 0 ≤ rs) (h4 : rs ≤ tu - fr) :
    Calls Try.prog 11 #[.int .i64 fr, .int .i64 tu, .int .i64 rs] w (AlcOut w fr tu rs) := by
  obtain ⟨P, hP⟩ : ∃ P : Ending → World → Prop, P = AlcOut w fr tu rs := ⟨_, rfl⟩
  rw [← hP]
  have HP := Aside0.mk hP
  clear hP
  have d0 : decide (fr < 0) = false := decide_eq_false (by omega)
  have d1 : decide (tu < fr) = false := decide_eq_false (by omega)
  have d2 : decide (tu > 8192) = false := decide_eq_false (by omega)
  have d2' : decide (8192 < tu) = false := decide_eq_false (by omega)
  have d3 : decide (rs < 0) = false := decide_eq_false (by omega)
  have d4 : decide (rs > tu - fr) = false := decide_eq_false (by omega)
  have d4' : decide (tu - fr < rs) = false := decide_eq_false (by omega)
  have hw1 : IntKind.i64.wrap (tu - fr) = tu - fr := i64_small (by omega) (by omega)
  have HB := Aside0.mk (below_alloc (Below.refl w.heap.size w) (.cells #[.int .i64 fr, .int .i64 tu] 42))
  have HG := Aside0.mk (blk_new w (.cells #[.int .i64 fr, .int .i64 tu] 42))
  go_enter Try.func11, Try.ntmps11
  go_wp2_with fail
  generalize hW1 : w.alloc (.cells #[.int .i64 fr, .int .i64 tu] 42) = W1 at *
  clear hW1
  refine (add_calls none 0 0 [] fr tu W1 (Kd.C_nil kS W1) (Nat.le_refl _) (by omega) trivial ⟨h0, h1, by simp only; omega⟩).mono ?_
  rintro e W2 ⟨v, rfl, hR, hb2⟩
  have hadd : addS [] (fr, tu) = [(fr, tu)] := rfl
  rw [hadd] at hR
  obtain ⟨A, c, e, hl, hc⟩ := Kd.R_reads hR
  subst e
  have HTY := Aside0.mk (show ∀ ad, A = some ad → ∃ cs, W2.heap[ad.block]? = some (.cells cs 42 (0, 0)) from fun ad e => by
    subst e
    obtain ⟨inner, ho⟩ := Kd.R_own hR
    exact own_typed ho ad.block (by simp [Value.ownBlock]))
  have HC := Aside0.mk (And.intro hl hc)
  have HB2 := Aside0.mk (HB.out.trans (hb2.mono HB.out.size))
  have hg2 := blk_below HG.out hb2
  have r0 : W2.cell? ⟨w.heap.size, 0, none⟩ = some (.int .i64 fr) := by rw [cell_of_row _ _ 0 _ 42 (0, 0) hg2]; rfl
  have r1 : W2.cell? ⟨w.heap.size, 1, none⟩ = some (.int .i64 tu) := by rw [cell_of_row _ _ 1 _ 42 (0, 0) hg2]; rfl
  have hmm := mkmap55 W2
  clear hg2 hb2 hR hl hc hadd
  have HBF := Aside0.mk (HB2.out.trans ((below_alloc (below_alloc (Below.refl W2.heap.size W2) (.map #[] 0)) (.cells #[.int .i64 fr, .int .i64 tu, .bool true, .int .i64 rs, .slice A [(fr, tu)].length c, .map (some W2.heap.size), .slice A [(fr, tu)].length c] 57)).mono HB2.out.size))
  have HM := Aside0.mk (blk_alloc (blk_new W2 (.map #[] 0)) (.cells #[.int .i64 fr, .int .i64 tu, .bool true, .int .i64 rs, .slice A [(fr, tu)].length c, .map (some W2.heap.size), .slice A [(fr, tu)].length c] 57))
  have HA := Aside0.mk (blk_new (W2.alloc (.map #[] 0)) (.cells #[.int .i64 fr, .int .i64 tu, .bool true, .int .i64 rs, .slice A [(fr, tu)].length c, .map (some W2.heap.size), .slice A [(fr, tu)].length c] 57))
  have HCF := Aside0.mk (Kd.C_below HC.out.2 (below_alloc (below_alloc (Below.refl W2.heap.size W2) (.map #[] 0)) (.cells #[.int .i64 fr, .int .i64 tu, .bool true, .int .i64 rs, .slice A [(fr, tu)].length c, .map (some W2.heap.size), .slice A [(fr, tu)].length c] 57)))
  go_wp2
  rw [HP.out]
  have hsz : (W2.alloc (.map #[] 0)).heap.size = W2.heap.size + 1 := by simp
  have hle := HB2.out.size
  refine ⟨W2.heap.size + 1, W2.heap.size, rfl, by omega, hle, ⟨⟨A, 1, c, .slice A 1 c, ?_, HCF.out, HC.out.1, by omega⟩, ?_, ⟨0, ?_⟩, ⟨h0, by omega, h2, h3, by omega, ?_, ?_⟩, ?_⟩, HBF.out⟩
  · have := HA.out
    rw [hsz] at this
    exact this
  · exact ⟨by simp only; omega, h1, by simp only; omega, trivial⟩
  · exact HM.out
  · show 0 ≤ total [(fr, tu)]
    simp [total]; omega
  · show total [(fr, tu)] ≤ 8192
    simp [total]; omega
  · intro ad n' c' was' hh
    have := HA.out
    rw [hsz] at this
    have hh := this.symm.trans hh
    have hA : A = some ad := by simp at hh; exact hh.1.1
    obtain ⟨cs, h9⟩ := HTY.out ad hA
    exact ⟨cs, blk_below h9 (below_alloc (below_alloc (Below.refl W2.heap.size W2) (.map #[] 0)) _)⟩
end Go.Proofs.Ytchhdafgmifhdaa.AlcF
namespace Go.Proofs.Ytchhdafgmifhdaa.ShaE
open Go.RowKit Go.Proofs.Ytchhdafgmifhdaa.B8 Go.Proofs.Ytchhdafgmifhdaa.Agg Go.Proofs.Ytchhdafgmifhdaa.CodL Go.Proofs.Ytchhdafgmifhdaa.CodA Go.Proofs.Ytchhdafgmifhdaa.CodB Go.Proofs.Ytchhdafgmifhdaa.CrcL Go.Proofs.Ytchhdafgmifhdaa.CrcA Go.Proofs.Ytchhdafgmifhdaa.CrcB Go.Proofs.Ytchhdafgmifhdaa.PCowLays Go.Proofs.YtchhdafgmifhdaaW.PrintWords Go.Proofs.YtchhdafgmifhdaaW.PrintLast Go.Proofs.YtchhdafgmifhdaaW.PrintMore Go.Proofs.Ytchhdafgmifhdaa.ShaA Go.Proofs.Ytchhdafgmifhdaa.ShaB Go.Proofs.Ytchhdafgmifhdaa.ShaK Go.Proofs.Ytchhdafgmifhdaa.ShaC Go.Proofs.Ytchhdafgmifhdaa.ShaD Go.Proofs.Ytchhdafgmifhdaa.CrcC
set_option linter.unusedVariables false
set_option linter.unusedSimpArgs false
/-- The sum of bytes, from a state on. -/
def goS (H : List Int) (n : Int) (L : List Int) : List Int := if h : 64 ≤ L.length then goS (blockH H (L.take 64)) (IntKind.u64.wrap (n + 64)) (L.drop 64) else endL H n L
termination_by L.length
decreasing_by rw [List.length_drop]; omega
theorem goS_ge {H : List Int} {n : Int} {L : List Int} (h : 64 ≤ L.length) : goS H n L = goS (blockH H (L.take 64)) (IntKind.u64.wrap (n + 64)) (L.drop 64) := by rw [goS, dif_pos h]
theorem goS_lt {H : List Int} {n : Int} {L : List Int} (h : L.length < 64) : goS H n L = endL H n L := by rw [goS, dif_neg (by omega)]
/-- The sum of bytes. -/
def shaL (L : List Int) : List Int := goS beginH 0 L
theorem endL_len (H : List Int) (n : Int) (R : List Int) : (endL H n R).length = 32 := by
  unfold endL
  split <;> exact outL_len _ _
theorem goS_len (H : List Int) (n : Int) (L : List Int) : (goS H n L).length = 32 := by
  induction hk : L.length using Nat.strongRecOn generalizing H n L with
  | _ k ih =>
    by_cases h : 64 ≤ L.length
    · rw [goS_ge h]
      exact ih _ (by rw [List.length_drop]; omega) _ _ _ rfl
    · rw [goS_lt (by omega), endL_len]
theorem shaL_len (L : List Int) : (shaL L).length = 32 := goS_len _ _ _
theorem outL_byt (H : List Int) : ∀ i, Byt (outL H i)
  | 0 => fun x hx => by rw [outL] at hx; have := List.eq_of_mem_replicate hx; omega
  | i + 1 => fun x hx => by
    rw [outL] at hx
    rcases List.mem_or_eq_of_mem_set hx with hx | hx
    · exact outL_byt H i x hx
    · rw [hx, outB]; omega
theorem goS_byt (H : List Int) (n : Int) (L : List Int) : Byt (goS H n L) := by
  induction hk : L.length using Nat.strongRecOn generalizing H n L with
  | _ k ih =>
    by_cases h : 64 ≤ L.length
    · rw [goS_ge h]
      exact ih _ (by rw [List.length_drop]; omega) _ _ _ rfl
    · rw [goS_lt (by omega)]
      unfold endL
      split <;> exact outL_byt _ _
theorem shaL_byt (L : List Int) : Byt (shaL L) := goS_byt _ _ _
def natOf0 : Value → Nat
  | .slice _ n _ => n
  | _ => 0
set_option maxRecDepth 100000 in
set_option maxHeartbeats 4000000 in
theorem sum_calls (A : Option Addr) (c m : Nat) (L : List Int) (w : World) (hr : C8 w A m L) (hmc : m ≤ c) :
    Calls Try.prog 45 #[.slice A m c] w fun e w' => e = .returned (.agg (arr .u8 (shaL L))) ∧ Below w.heap.size w w' := by
  obtain ⟨P, hP⟩ : ∃ P : Ending → World → Prop, P = (fun e w' => e = .returned (.agg (arr .u8 (shaL L))) ∧ Below w.heap.size w w') := ⟨_, rfl⟩
  rw [← hP]
  have HP := Aside0.mk hP
  have HR := Aside0.mk hr
  have h31 := blk_new w (.cells Z31 31)
  have hb0 := below_alloc (Below.refl w.heap.size w) (.cells Z31 31)
  have HA := Aside0.mk (And.intro h31 hb0)
  clear hP hr h31 hb0
  go_enter Try.func45, Try.ntmps45
  go_wp2_with fail
  refine (begin_calls _).mono ?_
  rintro e w1 ⟨he, hb1⟩
  obtain ⟨st0, hst0⟩ : ∃ x, x = stA beginH 0 := ⟨_, rfl⟩
  rw [← hst0] at he
  subst he
  have HS0 := Aside0.mk (And.intro hst0 (And.intro (show beginH.length = 8 from rfl) (show st0.size = 9 by rw [hst0]; rfl)))
  have hone0 := Aside0.mk (show st0.all (·.oneCell') = true by rw [hst0]; exact stA_one _ _)
  have hr1 := blk_below HA.out.1 hb1
  have hlt1 := blk_lt hr1
  obtain ⟨g3, hg3⟩ : ∃ g3, g3 = w1.heap.size := ⟨_, rfl⟩
  have hg3a : g3 ≠ w.heap.size := by omega
  have hg3b : w.heap.size ≤ g3 := by omega
  have HN := Aside0.mk (heap_new w1 (.cells Z90 90))
  have hW : (w1.alloc (.cells Z90 90)).setRow w1.heap.size st0 = w1.alloc (.cells st0 90) := World.setRow_alloc_new _ _ _ _
  have hbw := below_then HA.out.2 HA.out.2.size hb1
  have HX := Aside0.mk (And.intro hW (And.intro (blk_new w1 (.cells st0 90)) (And.intro (blk_alloc hr1 (.cells st0 90)) (below_alloc hbw (.cells st0 90)))))
  clear hb1 hr1 hW hlt1 hbw hst0
  go_wp2_with (refine wpList_store_row rfl 90 (.tmp 3) (.tmp 4) rfl w1.heap.size st0 rfl rfl 90 Z90 HN.out (by rw [i90, HS0.out.2.2]) (by rw [HS0.out.2.2]; rfl) hone0.out ?_)
  rw [HX.out.1]
  have HX1 := Aside0.mk HX.out.2.1
  have HX2 := Aside0.mk HX.out.2.2.1
  have HX3 := Aside0.mk HX.out.2.2.2
  generalize w1.alloc (.cells st0 90) = w2 at *
  rw [← hg3] at HX1 ⊢
  clear HX HN hg3 HA
  dsimp only [Act.put]
  go_loopw [0] (fun v0 wr => ∃ (A' : Option Addr) (m' c' : Nat) (R : List Int) (st : Array Value) (H : List Int) (n : Int), v0 = .slice A' m' c' ∧ m' ≤ m ∧ m' ≤ c' ∧ Aside0 (st = stA H n ∧ H.length = 8 ∧ st.size = 9) ∧ Aside0 (goS H n R = shaL L) ∧ Aside0 (C8 w A' m' R) ∧ Aside0 (wr.heap[g3]? = some (.cells st 90 (0, 0))) ∧ Aside0 (wr.heap[w.heap.size]? = some (.cells Z31 31 (0, 0))) ∧ Aside0 (Below w.heap.size w wr)) (fun v _ => natOf0 v)
  case atStart => exact ⟨A, m, c, L, st0, beginH, 0, rfl, Nat.le_refl _, hmc, HS0, ⟨rfl⟩, HR, HX1, HX2, HX3⟩
  case round =>
    clear HX1 HX2 HX3 HS0 hone0
    obtain ⟨A', m', c', R, st, H, n, rfl, hmm, hmc', HS1, HGO0, HR', H3, HZ, HB⟩ := hrel
    by_cases h64 : 64 ≤ m'
    · have hd : decide ((64 : Int) ≤ (m' : Int)) = true := decide_eq_true (by omega)
      obtain ⟨b0, off0, hA', hb0, hc0⟩ := C_at 0 HR'.out (by omega)
      subst hA'
      have hRl : R.length = m' := HR'.out.1
      obtain ⟨A4, hA4⟩ : ∃ x, x = if c' = 64 then some (⟨b0, off0, none⟩ : Addr) else (some (⟨b0, off0, none⟩ : Addr)).map (·.add 64) := ⟨_, rfl⟩
      obtain ⟨m4, hm4⟩ : ∃ x, x = m' - 64 := ⟨_, rfl⟩
      obtain ⟨c4, hc4⟩ : ∃ x, x = c' - 64 := ⟨_, rfl⟩
      have hcut : ∀ W, (Instr.slice 22 (.slice (some ⟨b0, off0, none⟩) m' c') (some (.int .i64 64)) none none).run Try.prog W = .ok (.slice A4 m4 c4) W := fun W => by
        have := cut8_from (some ⟨b0, off0, none⟩) m' c' 64 h64 W
        rw [hA4, hm4, hc4]; exact this
      have HR4 := Aside0.mk (show C8 w A4 m4 (R.drop 64) by
        have := C8_drop HR'.out hmc' h64
        rw [hA4, hm4]; exact this)
      have harr : ∀ W, (Instr.arrayAt 93 (.slice (some ⟨b0, off0, none⟩) m' c')).run Try.prog W = .ok (.pointer (some ⟨b0, off0, none⟩)) W := fun W => run_arrayAt (P := Try.prog) W 93 5 64 _ m' _ u93 h64
      have hm4b : m4 + 64 ≤ m' := by omega
      have hmc4 : m4 ≤ c4 := by omega
      have HGO := Aside0.mk (show goS (blockH H (R.take 64)) (IntKind.u64.wrap (n + 64)) (R.drop 64) = shaL L by rw [← HGO0.out]; exact (goS_ge (by omega)).symm)
      obtain ⟨cb, hcb⟩ : ∃ cb, cb = arr .u8 (R.take 64) := ⟨_, rfl⟩
      have htl : (R.take 64).length = 64 := by rw [List.length_take]; omega
      have HCB := Aside0.mk (And.intro hcb (And.intro (show cb.size = 64 by rw [hcb, arr_size, htl]) htl))
      have HSD := Aside0.mk (And.intro (blk_below H3.out (below_drew (Below.refl wr.heap.size wr))) (And.intro (blk_below HZ.out (below_drew (Below.refl wr.heap.size wr))) (below_then HB.out HB.out.size (below_drew (Below.refl wr.heap.size wr)))))
      have HRG := Aside0.mk (show wr.drew.rangeAt b0 off0 cb.toList by
        intro j v hj
        rw [hcb] at hj
        unfold arr at hj
        rw [List.getElem?_map] at hj
        have hj64 : j < 64 := by
          rcases Nat.lt_or_ge j 64 with h | h
          · exact h
          · rw [List.getElem?_eq_none (by omega)] at hj; cases hj
        rw [List.getElem?_eq_getElem (by omega), List.getElem_take] at hj
        rw [HSD.out.2.2.cell (p := ⟨b0, off0 + j, none⟩) hb0, hc0 j (by omega), List.getD_eq_getElem?_getD, List.getElem?_eq_getElem (by omega)]
        simpa using hj)
      have hbc := fun W => block_calls H n (R.take 64) HS1.out.2.1 htl W
      simp only [← HS1.out.1, ← HCB.out.1] at hbc
      have HBC := Aside0.mk hbc
      clear hA4 hm4 hc4 hc0 hb0 hcb htl hRl hbc
      go_wp2_with fail
      have hbc := HBC.out wr.drew
      refine wp_region_held_drew (S := fun _ => True) (by kernel_rfl) trivial (fun _ => ?_)
      generalize hWd : wr.drew = Wd at *
      clear hWd
      refine wpAnyH_take (i := 1) (oi := ⟨some 11, _, _, _, _, _⟩) (v := .slice (some ⟨b0, off0, none⟩) m' c') rfl (by kernel_rfl) (by kernel_rfl) (by kernel_rfl) (fun _ _ _ h => h) (.inl ⟨by rfl, fun W1 h1 => by go_simp⟩) trivial ?_
      try simp only [Act.put, List.setIfInBounds_toArray, List.set_cons_zero, List.set_cons_succ]
      refine wpAnyH_take (i := 2) (oi := ⟨some 12, _, _, _, _, _⟩) (v := .pointer (some ⟨b0, off0, none⟩)) rfl (by kernel_rfl) (by kernel_rfl) (by kernel_rfl) (fun _ _ _ h => h) (.inl ⟨by rfl, fun W1 h1 => by go_simp⟩) trivial ?_
      try simp only [Act.put, List.setIfInBounds_toArray, List.set_cons_zero, List.set_cons_succ]
      refine wpAnyH_ready (rs := [0, 3]) (by kernel_rfl) (by simp) (AllReadyH.cons rfl (fun K1 hK1 => ?_) (AllReadyH.cons rfl (fun K2 hK2 => ?_) AllReadyH.nil))
      · refine wp_load_row (o := ⟨some 10, _, _, _, _, _⟩) 90 (.tmp 3) rfl g3 rfl 90 st (0, 0) _ HSD.out.1 Try.underlying90 rfl (by rw [i90, HS1.out.2.2]) ?_
        refine hK1.out _ _ trivial (fun _ => ?_)
        try simp only [Act.put, List.setIfInBounds_toArray, List.set_cons_zero, List.set_cons_succ]
        refine wpAnyH_ready (rs := [3]) (by kernel_rfl) (by simp) (AllReadyH.cons rfl (fun K5 hK5 => ?_) AllReadyH.nil)
        refine wp_load_mid (op := ⟨some 13, _, _, _, _, _⟩) 93 (.tmp 12) rfl b0 off0 rfl (cb.toList) _ HRG.out u93 rfl (by rw [i93, Array.length_toList, HCB.out.2.1]) ?_
        rw [show cb.toList.toArray = cb by simp]
        refine hK5.out _ _ trivial (fun _ => ?_)
        try simp only [Act.put, List.setIfInBounds_toArray, List.set_cons_zero, List.set_cons_succ]
        refine wpAnyH_ready (rs := [4]) (by kernel_rfl) (by simp) (AllReadyH.cons rfl (fun K3 hK3 => ?_) AllReadyH.nil)
        go_simp
        refine hbc.mono ?_
        rintro e w2 ⟨he, hb2⟩
        obtain ⟨st2, hst2⟩ : ∃ x, x = stA (blockH H (R.take 64)) (IntKind.u64.wrap (n + 64)) := ⟨_, rfl⟩
        rw [← hst2] at he
        subst he
        have HS2 := Aside0.mk (And.intro hst2 (And.intro (show (blockH H (R.take 64)).length = 8 by rw [blockH_len HS1.out.2.1]) (show st2.size = 9 by rw [hst2, stA_size (blockH_len HS1.out.2.1 _)])))
        have hone := Aside0.mk (show st2.all (·.oneCell') = true by rw [hst2]; exact stA_one _ _)
        have H2s := Aside0.mk (blk_below HSD.out.1 hb2)
        have H2r := Aside0.mk (blk_below HSD.out.2.1 hb2)
        have H2b := Aside0.mk (below_then HSD.out.2.2 HSD.out.2.2.size hb2)
        clear hst2 hb2
        refine hK3.out _ _ trivial (fun _ => ?_)
        try simp only [Act.put, List.setIfInBounds_toArray, List.set_cons_zero, List.set_cons_succ]
        refine wpAnyH_ready (rs := [5]) (by kernel_rfl) (by simp) (AllReadyH.cons rfl (fun K4 hK4 => ?_) AllReadyH.nil)
        refine wp_store_row (o := ⟨none, _, _, _, _, _⟩) 90 (.tmp 3) (.tmp 14) rfl g3 st2 rfl rfl 90 st H2s.out (by rw [i90, HS2.out.2.2]) (by rw [HS2.out.2.2, HS1.out.2.2]) hone.out ?_
        refine hK4.out _ _ trivial (fun _ => ?_)
        try simp only [Act.put, List.setIfInBounds_toArray, List.set_cons_zero, List.set_cons_succ]
        refine wpAnyH_done (by kernel_rfl) ?_ _
        have HF2 := Aside0.mk (show (w2.setRow g3 st2).heap[g3]? = some (.cells st2 90 (0, 0)) from setRow_heap _ _ _ _ _ _ H2s.out)
        have HF3 := Aside0.mk (show (w2.setRow g3 st2).heap[w.heap.size]? = some (.cells Z31 31 (0, 0)) from (setRow_other _ _ _ _ (Ne.symm hg3a)).trans H2r.out)
        have HF4 := Aside0.mk (below_setRow H2b.out hg3b st2)
        generalize w2.setRow g3 st2 = w3 at *
        clear hbc
        go_wp2
        go_roundw
        case rel => exact ⟨A4, m4, c4, R.drop 64, st2, blockH H (R.take 64), IntKind.u64.wrap (n + 64), rfl, by omega, by omega, HS2, HGO, HR4, HF2, HF3, HF4⟩
        case measure => simp [natOf0]; omega
      · refine wp_load_mid (op := ⟨some 13, _, _, _, _, _⟩) 93 (.tmp 12) rfl b0 off0 rfl (cb.toList) _ HRG.out u93 rfl (by rw [i93, Array.length_toList, HCB.out.2.1]) ?_
        rw [show cb.toList.toArray = cb by simp]
        refine hK2.out _ _ trivial (fun _ => ?_)
        try simp only [Act.put, List.setIfInBounds_toArray, List.set_cons_zero, List.set_cons_succ]
        refine wpAnyH_ready (rs := [0]) (by kernel_rfl) (by simp) (AllReadyH.cons rfl (fun K5 hK5 => ?_) AllReadyH.nil)
        refine wp_load_row (o := ⟨some 10, _, _, _, _, _⟩) 90 (.tmp 3) rfl g3 rfl 90 st (0, 0) _ HSD.out.1 Try.underlying90 rfl (by rw [i90, HS1.out.2.2]) ?_
        refine hK5.out _ _ trivial (fun _ => ?_)
        try simp only [Act.put, List.setIfInBounds_toArray, List.set_cons_zero, List.set_cons_succ]
        refine wpAnyH_ready (rs := [4]) (by kernel_rfl) (by simp) (AllReadyH.cons rfl (fun K3 hK3 => ?_) AllReadyH.nil)
        go_simp
        refine hbc.mono ?_
        rintro e w2 ⟨he, hb2⟩
        obtain ⟨st2, hst2⟩ : ∃ x, x = stA (blockH H (R.take 64)) (IntKind.u64.wrap (n + 64)) := ⟨_, rfl⟩
        rw [← hst2] at he
        subst he
        have HS2 := Aside0.mk (And.intro hst2 (And.intro (show (blockH H (R.take 64)).length = 8 by rw [blockH_len HS1.out.2.1]) (show st2.size = 9 by rw [hst2, stA_size (blockH_len HS1.out.2.1 _)])))
        have hone := Aside0.mk (show st2.all (·.oneCell') = true by rw [hst2]; exact stA_one _ _)
        have H2s := Aside0.mk (blk_below HSD.out.1 hb2)
        have H2r := Aside0.mk (blk_below HSD.out.2.1 hb2)
        have H2b := Aside0.mk (below_then HSD.out.2.2 HSD.out.2.2.size hb2)
        clear hst2 hb2
        refine hK3.out _ _ trivial (fun _ => ?_)
        try simp only [Act.put, List.setIfInBounds_toArray, List.set_cons_zero, List.set_cons_succ]
        refine wpAnyH_ready (rs := [5]) (by kernel_rfl) (by simp) (AllReadyH.cons rfl (fun K4 hK4 => ?_) AllReadyH.nil)
        refine wp_store_row (o := ⟨none, _, _, _, _, _⟩) 90 (.tmp 3) (.tmp 14) rfl g3 st2 rfl rfl 90 st H2s.out (by rw [i90, HS2.out.2.2]) (by rw [HS2.out.2.2, HS1.out.2.2]) hone.out ?_
        refine hK4.out _ _ trivial (fun _ => ?_)
        try simp only [Act.put, List.setIfInBounds_toArray, List.set_cons_zero, List.set_cons_succ]
        refine wpAnyH_done (by kernel_rfl) ?_ _
        have HF2 := Aside0.mk (show (w2.setRow g3 st2).heap[g3]? = some (.cells st2 90 (0, 0)) from setRow_heap _ _ _ _ _ _ H2s.out)
        have HF3 := Aside0.mk (show (w2.setRow g3 st2).heap[w.heap.size]? = some (.cells Z31 31 (0, 0)) from (setRow_other _ _ _ _ (Ne.symm hg3a)).trans H2r.out)
        have HF4 := Aside0.mk (below_setRow H2b.out hg3b st2)
        generalize w2.setRow g3 st2 = w3 at *
        clear hbc
        go_wp2
        go_roundw
        case rel => exact ⟨A4, m4, c4, R.drop 64, st2, blockH H (R.take 64), IntKind.u64.wrap (n + 64), rfl, by omega, by omega, HS2, HGO, HR4, HF2, HF3, HF4⟩
        case measure => simp [natOf0]; omega
    · have hd : decide ((64 : Int) ≤ (m' : Int)) = false := decide_eq_false (by omega)
      have hend := fun W (hb : Below w.heap.size w W) => end_calls H n A' c' m' R HS1.out.2.1 W (Kd.C_below HR'.out hb) hmc' (by omega)
      simp only [← HS1.out.1] at hend
      have HEND := Aside0.mk (hend wr HB.out)
      have HG2 := Aside0.mk (show endL H n R = shaL L by rw [← HGO0.out, goS_lt (by have := HR'.out.1; omega)])
      clear hend
      go_wp2_with (refine wpList_load_row rfl 90 (.tmp 3) rfl g3 rfl 90 st (0, 0) _ H3.out Try.underlying90 rfl (by rw [i90, HS1.out.2.2]) ?_)
      refine HEND.out.mono ?_
      rintro e w5 ⟨he, hb5⟩
      rw [HG2.out] at he
      obtain ⟨co, hco⟩ : ∃ x, x = arr .u8 (shaL L) := ⟨_, rfl⟩
      rw [← hco] at he
      subst he
      have HCO := Aside0.mk (And.intro hco (And.intro (show co.size = 32 by rw [hco, arr_size, shaL_len]) (show co.all (·.oneCell') = true by rw [hco]; exact arr_one _ _)))
      have HZ5 := Aside0.mk (blk_below HZ.out hb5)
      have HB5 := Aside0.mk (below_then HB.out HB.out.size hb5)
      clear hco hb5
      go_wp2_with (refine wpList_store_row rfl 31 (.tmp 2) (.tmp 17) rfl w.heap.size co rfl rfl 31 Z31 HZ5.out (by rw [i31, HCO.out.2.1]) (by rw [HCO.out.2.1]; rfl) HCO.out.2.2 ?_)
      refine bodyPost_ret (res_c (p := 2) _ rfl rfl (setRow_heap _ w.heap.size Z31 co 31 _ HZ5.out) und31 rfl (by rw [i31, HCO.out.2.1])) rfl ?_
      rw [HP.out]
      exact ⟨by rw [HCO.out.1], below_setRow HB5.out (Nat.le_refl _) _⟩
end Go.Proofs.Ytchhdafgmifhdaa.ShaE
namespace Go.Proofs.Ytchhdafgmifhdaa.PtrA
open Go.RowKit Go.Proofs.Ytchhdafgmifhdaa.B8 Go.Proofs.Ytchhdafgmifhdaa.CodL Go.Proofs.Ytchhdafgmifhdaa.CatL Go.Proofs.Ytchhdafgmifhdaa.PCowLays Go.Proofs.YtchhdafgmifhdaaW.PrintWords Go.Proofs.YtchhdafgmifhdaaW.PrintLast Go.Proofs.YtchhdafgmifhdaaW.PrintMore
set_option linter.unusedVariables false
set_option linter.unusedSimpArgs false

/-- The cells of a pointer. -/
structure PC (cs : Array Value) (p : Ptr) : Prop where
  size : cs.size = 36
  c0 : cs[0]? = some (.int .i64 p.at_)
  c1 : cs[1]? = some (.int .i64 p.birth)
  c2 : cs[2]? = some (.int .i64 p.len)
  c3 : cs[3]? = some (.int .u32 p.crc)
  sha : ∀ i, i < 32 → cs[4 + i]? = some (.int .u8 (p.sha.getD i 0))

theorem sectors_calls (cs : Array Value) (p : Ptr) (hp : PC cs p) (w : World) : Calls Try.prog 7 #[.agg cs] w fun e w' => e = .returned (.int .i64 (sect p.len)) ∧ Below w.heap.size w w' := by
  have x2 : (w.alloc (.cells cs 33)).cell? ⟨w.heap.size, 2, none⟩ = some (.int .i64 p.len) := by rw [cell_of_row _ _ 2 cs 33 (0, 0) (blk_new _ _)]; exact hp.c2
  generalize p.len = n at *
  by_cases h1 : n < 1
  · go_enter Try.func7, Try.ntmps7
    go_wp2
    go_ret
    exact ⟨by unfold sect; rw [if_pos (.inl h1)]; rfl, below_alloc (Below.refl _ _) _⟩
  · by_cases h2 : 65536 < n
    · go_enter Try.func7, Try.ntmps7
      go_wp2
      go_ret
      exact ⟨by unfold sect; rw [if_pos (.inr h2)]; rfl, below_alloc (Below.refl _ _) _⟩
    · go_enter Try.func7, Try.ntmps7
      go_wp2
      go_ret
      exact ⟨by unfold sect; rw [if_neg (by omega)]; exact CodA.ret_int (by omega), below_alloc (Below.refl _ _) _⟩

theorem in_calls (n a b : Int) (w : World) : Calls Try.prog 24 #[.int .i64 n, .int .i64 a, .int .i64 b] w fun e w' => e = .returned (.bool (decide (a ≤ n) && decide (n ≤ b))) ∧ w = w' := by
  by_cases h1 : a ≤ n
  · go_enter Try.func24, Try.ntmps24
    go_wp2
    go_ret
    exact ⟨by simp [h1], rfl⟩
  · go_enter Try.func24, Try.ntmps24
    go_wp2
    go_ret
    exact ⟨by have h2 : ¬ a ≤ n := by omega
              simp [h2], rfl⟩
end Go.Proofs.Ytchhdafgmifhdaa.PtrA
namespace Go.Proofs.Ytchhdafgmifhdaa.PtrE
open Go.RowKit Go.Proofs.Ytchhdafgmifhdaa.B8 Go.Proofs.Ytchhdafgmifhdaa.CodL Go.Proofs.Ytchhdafgmifhdaa.CatL Go.Proofs.Ytchhdafgmifhdaa.PtrA
set_option linter.unusedVariables false
set_option linter.unusedSimpArgs false

/-- A pointer's cells. -/
def encP (p : Ptr) : Array Value := #[.int .i64 p.at_, .int .i64 p.birth, .int .i64 p.len, .int .u32 p.crc] ++ (p.sha.map (Value.int .u8)).toArray
theorem encP_size {p : Ptr} (h : p.sha.length = 32) : (encP p).size = 36 := by simp [encP, h]
theorem pc (p : Ptr) (h : p.sha.length = 32) : PC (encP p) p := by
  refine ⟨encP_size h, by simp [encP], by simp [encP], by simp [encP], by simp [encP], fun i hi => ?_⟩
  simp only [encP]
  rw [Array.getElem?_append_right (by simp)]
  simp [h, hi]

theorem all_range_eq : ∀ (xs ys : List Int), xs.length = ys.length → ((List.range xs.length).all fun i => xs.getD i 0 == ys.getD i 0) = (xs == ys)
  | [], [], _ => rfl
  | x :: xs, y :: ys, h => by
    have ih := all_range_eq xs ys (by simpa using h)
    rw [List.length_cons, List.range_succ_eq_map, List.all_cons, List.all_map]
    simp only [List.getD_cons_zero, Function.comp_def, List.getD_cons_succ, ih]
    simp [List.cons_beq_cons]
  | [], _ :: _, h => by simp at h
  | _ :: _, [], h => by simp at h

theorem run_equalIn_bytes {P : Program} (w : World) (d : Nat) (t e : TypeId) (n : Nat) (ht : P.underlying t = some (.array n e)) (he : P.underlying e = some (.int .u8)) (hsz : ∀ w, (sizeOf e).run P w = .ok 1 w)
    (xs ys : List Int) (hx : xs.length = n) (hy : ys.length = n) :
    (Op.equalIn (d + 2) t (.agg (xs.map (Value.int .u8)).toArray) (.agg (ys.map (Value.int .u8)).toArray)).run P w = .ok (xs == ys) w := by
  rw [← all_range_eq xs ys (hx.trans hy.symm), hx, List.range_eq_range', Op.equalIn]
  simp only [Sem.run_bind, run_underlying ht, Result.andThen_ok, hsz, Std.Legacy.Range.forIn_eq_forIn_range', Std.Legacy.Range.size, Nat.sub_zero, Nat.add_sub_cancel, Nat.div_one]
  have hl : ∀ i ∈ List.range' 0 n 1, i < n := fun i hi => by simpa using (List.mem_range'_1.1 hi).2
  generalize List.range' 0 n 1 = l at hl ⊢
  induction l with
  | nil => simp
  | cons i l ih =>
    have hi : i < n := hl i (by simp)
    have px : (part e (xs.map (Value.int .u8)).toArray (i * 1)).run P w = .ok (.int .u8 (xs.getD i 0)) w := by
      simp [part, isAgg, run_underlying he, List.getD, List.getElem?_eq_getElem (show i < xs.length by omega)]
    have py : (part e (ys.map (Value.int .u8)).toArray (i * 1)).run P w = .ok (.int .u8 (ys.getD i 0)) w := by
      simp [part, isAgg, run_underlying he, List.getD, List.getElem?_eq_getElem (show i < ys.length by omega)]
    have pe := run_equalIn_int (P := P) w d e .u8 .u8 (xs.getD i 0) (ys.getD i 0) he
    simp only [List.forIn_cons, Sem.run_bind, px, py, pe, Result.andThen_ok, List.all_cons]
    cases hq : xs.getD i 0 == ys.getD i 0 with
    | false => simp
    | true =>
      simp only [Bool.not_true, Bool.false_eq_true, if_false, Sem.run_pure, Result.andThen_ok, Bool.true_and]
      exact ih (fun i hi => hl i (by simp [hi]))

theorem fields56 : (Try.prog.fieldsOf 33).toList.map (fun f => (f.name, f.type, f.offset)) = [("At", 3, 0), ("Birth", 3, 1), ("Length", 3, 2), ("Crc", 30, 3), ("Sha", 31, 4)] := by kernel_rfl
theorem sz5 (w : World) : (sizeOf 5).run Try.prog w = .ok 1 w := by kernel_rfl
theorem sz54 (w : World) : (sizeOf 31).run Try.prog w = .ok 32 w := by kernel_rfl
theorem underl56 : Try.prog.underlying 33 = some (.struct (Try.prog.fieldsOf 33)) := by kernel_rfl
theorem stood56 : Try.prog.stoodInHeld 56 = false := by kernel_rfl
theorem agg3 (w : World) : (isAgg 3).run Try.prog w = .ok false w := by kernel_rfl
theorem agg53 (w : World) : (isAgg 30).run Try.prog w = .ok false w := by kernel_rfl
theorem agg54 (w : World) : (isAgg 31).run Try.prog w = .ok true w := by kernel_rfl
theorem part_sha {p : Ptr} (h : p.sha.length = 32) (w : World) : (part 31 (encP p) 4).run Try.prog w = .ok (.agg (p.sha.map (Value.int .u8)).toArray) w := by
  unfold part
  simp only [Sem.run_bind, agg54, sz54, Result.andThen_ok, if_true, Sem.run_pure]
  congr 2
  apply Array.ext'
  simp [encP, h, List.take_of_length_le]
/-- Two pointers are equal, or not. -/
theorem eq56 (p q : Ptr) (hp : p.sha.length = 32) (hq : q.sha.length = 32) (w : World) : (Op.equalIn 10000 33 (.agg (encP p)) (.agg (encP q))).run Try.prog w = .ok (decide (p = q)) w := by
  have hf := fields56
  rw [show (10000 : Nat) = 9999 + 1 from rfl, run_equalIn_struct w 9999 33 _ _ underl56 stood56]
  generalize (Try.prog.fieldsOf 33).toList = fs at hf
  rcases fs with _ | ⟨f0, fs⟩; · simp at hf
  rcases fs with _ | ⟨f1, fs⟩; · simp at hf
  rcases fs with _ | ⟨f2, fs⟩; · simp at hf
  rcases fs with _ | ⟨f3, fs⟩; · simp at hf
  rcases fs with _ | ⟨f4, fs⟩; · simp at hf
  rcases fs with _ | ⟨f5, fs⟩
  · simp only [List.map_cons, List.map_nil, List.cons.injEq, Prod.mk.injEq, and_true] at hf
    obtain ⟨⟨n0, t0, o0⟩, ⟨n1, t1, o1⟩, ⟨n2, t2, o2⟩, ⟨n3, t3, o3⟩, n4, t4, o4⟩ := hf
    have a0 : ∀ (p : Ptr) (w : World), (part 3 (encP p) 0).run Try.prog w = .ok (.int .i64 p.at_) w := fun p w => by simp [part, agg3, encP]
    have a1 : ∀ (p : Ptr) (w : World), (part 3 (encP p) 1).run Try.prog w = .ok (.int .i64 p.birth) w := fun p w => by simp [part, agg3, encP]
    have a2 : ∀ (p : Ptr) (w : World), (part 3 (encP p) 2).run Try.prog w = .ok (.int .i64 p.len) w := fun p w => by simp [part, agg3, encP]
    have a3 : ∀ (p : Ptr) (w : World), (part 30 (encP p) 3).run Try.prog w = .ok (.int .u32 p.crc) w := fun p w => by simp [part, agg53, encP]
    have e0 : ("At" = "_") = False := by decide
    have e1 : ("Birth" = "_") = False := by decide
    have e2 : ("Length" = "_") = False := by decide
    have e3 : ("Crc" = "_") = False := by decide
    have e4 : ("Sha" = "_") = False := by decide
    have q3 : ∀ (x y : Int) (w : World), (Op.equalIn 9999 3 (.int .i64 x) (.int .i64 y)).run Try.prog w = .ok (x == y) w := fun x y w => run_equalIn_int (P := Try.prog) w 9998 3 .i64 .i64 x y Try.underlying3
    have q53 : ∀ (x y : Int) (w : World), (Op.equalIn 9999 30 (.int .u32 x) (.int .u32 y)).run Try.prog w = .ok (x == y) w := fun x y w => run_equalIn_int (P := Try.prog) w 9998 30 .u32 .u32 x y Try.underlying30
    have qs : ∀ w : World, (Op.equalIn 9999 31 (.agg (p.sha.map (Value.int .u8)).toArray) (.agg (q.sha.map (Value.int .u8)).toArray)).run Try.prog w = .ok (p.sha == q.sha) w := fun w => run_equalIn_bytes (P := Try.prog) w 9997 31 5 32 Try.underlying31 Try.underlying5 sz5 _ _ hp hq
    have s1 := fun w => part_sha hp w
    have s2 := fun w => part_sha hq w
    have hd : decide (p = q) = (p.at_ == q.at_ && (p.birth == q.birth && (p.len == q.len && (p.crc == q.crc && p.sha == q.sha)))) := by
      obtain ⟨pa, pb, pl, pc', ps⟩ := p
      obtain ⟨qa, qb, ql, qc, qs⟩ := q
      simp only [Ptr.mk.injEq]
      rw [Bool.eq_iff_iff]
      simp
    rw [hd]
    cases h0 : p.at_ == q.at_ <;> cases h1 : p.birth == q.birth <;> cases h2 : p.len == q.len <;> cases h3 : p.crc == q.crc <;> cases h4 : p.sha == q.sha <;>
      simp [Op.eqFields, n0, n1, n2, n3, n4, t0, t1, t2, t3, t4, o0, o1, o2, o3, o4, a0, a1, a2, a3, q3, q53, qs, s1, s2, h0, h1, h2, h3, h4, Result.andThen]
  · simp at hf
theorem eql56 (p q : Ptr) (hp : p.sha.length = 32) (hq : q.sha.length = 32) (w : World) : (binOp .eql 33 (.agg (encP p)) (.agg (encP q))).run Try.prog w = .ok (.bool (decide (p = q))) w := by
  rw [run_eql_struct, eq56 p q hp hq]
  rfl
end Go.Proofs.Ytchhdafgmifhdaa.PtrE
namespace Go.Proofs.Ytchhdafgmifhdaa.OfA
open Go.RowKit Go.Proofs.Ytchhdafgmifhdaa.B8 Go.Proofs.Ytchhdafgmifhdaa.Agg Go.Proofs.Ytchhdafgmifhdaa.CodL Go.Proofs.Ytchhdafgmifhdaa.CodA Go.Proofs.Ytchhdafgmifhdaa.CodB Go.Proofs.Ytchhdafgmifhdaa.CrcL Go.Proofs.Ytchhdafgmifhdaa.CrcA Go.Proofs.Ytchhdafgmifhdaa.CrcB Go.Proofs.Ytchhdafgmifhdaa.PCowLays Go.Proofs.YtchhdafgmifhdaaW.PrintWords Go.Proofs.YtchhdafgmifhdaaW.PrintLast Go.Proofs.YtchhdafgmifhdaaW.PrintMore Go.Proofs.Ytchhdafgmifhdaa.ShaA Go.Proofs.Ytchhdafgmifhdaa.ShaB Go.Proofs.Ytchhdafgmifhdaa.ShaK Go.Proofs.Ytchhdafgmifhdaa.ShaC Go.Proofs.Ytchhdafgmifhdaa.ShaD Go.Proofs.Ytchhdafgmifhdaa.ShaE Go.Proofs.Ytchhdafgmifhdaa.CatL Go.Proofs.Ytchhdafgmifhdaa.PtrA Go.Proofs.Ytchhdafgmifhdaa.PtrE
set_option linter.unusedVariables false
set_option linter.unusedSimpArgs false
set_option maxRecDepth 100000 in
theorem built33 (a b c d : Int) (s : List Int) (h : s.length = 32) : Try.prog.built 33 [(0, .int .i64 a), (1, .int .i64 b), (2, .int .i64 c), (3, .int .u32 d), (4, .agg (arr .u8 s))] = some (encP ⟨a, b, c, d, s⟩) := by
  rcases s with _ | ⟨x0, s⟩; · simp at h
  rcases s with _ | ⟨x1, s⟩; · simp at h
  rcases s with _ | ⟨x2, s⟩; · simp at h
  rcases s with _ | ⟨x3, s⟩; · simp at h
  rcases s with _ | ⟨x4, s⟩; · simp at h
  rcases s with _ | ⟨x5, s⟩; · simp at h
  rcases s with _ | ⟨x6, s⟩; · simp at h
  rcases s with _ | ⟨x7, s⟩; · simp at h
  rcases s with _ | ⟨x8, s⟩; · simp at h
  rcases s with _ | ⟨x9, s⟩; · simp at h
  rcases s with _ | ⟨x10, s⟩; · simp at h
  rcases s with _ | ⟨x11, s⟩; · simp at h
  rcases s with _ | ⟨x12, s⟩; · simp at h
  rcases s with _ | ⟨x13, s⟩; · simp at h
  rcases s with _ | ⟨x14, s⟩; · simp at h
  rcases s with _ | ⟨x15, s⟩; · simp at h
  rcases s with _ | ⟨x16, s⟩; · simp at h
  rcases s with _ | ⟨x17, s⟩; · simp at h
  rcases s with _ | ⟨x18, s⟩; · simp at h
  rcases s with _ | ⟨x19, s⟩; · simp at h
  rcases s with _ | ⟨x20, s⟩; · simp at h
  rcases s with _ | ⟨x21, s⟩; · simp at h
  rcases s with _ | ⟨x22, s⟩; · simp at h
  rcases s with _ | ⟨x23, s⟩; · simp at h
  rcases s with _ | ⟨x24, s⟩; · simp at h
  rcases s with _ | ⟨x25, s⟩; · simp at h
  rcases s with _ | ⟨x26, s⟩; · simp at h
  rcases s with _ | ⟨x27, s⟩; · simp at h
  rcases s with _ | ⟨x28, s⟩; · simp at h
  rcases s with _ | ⟨x29, s⟩; · simp at h
  rcases s with _ | ⟨x30, s⟩; · simp at h
  rcases s with _ | ⟨x31, s⟩; · simp at h
  rcases s with _ | ⟨y, s⟩
  · kernel_rfl
  · simp at h
/-- The pointer of bytes. -/
def ofP (a b : Int) (L : List Int) : Ptr := ⟨a, b, (L.length : Int), (CrcL.sumN L : Int), shaL L⟩
theorem i33 : (Try.prog.info? 33).map (·.size) = some 36 := by kernel_rfl
abbrev Z33 : Array Value := #[.int .i64 0, .int .i64 0, .int .i64 0, .int .u32 0, .int .u8 0, .int .u8 0, .int .u8 0, .int .u8 0, .int .u8 0, .int .u8 0, .int .u8 0, .int .u8 0, .int .u8 0, .int .u8 0, .int .u8 0, .int .u8 0, .int .u8 0, .int .u8 0, .int .u8 0, .int .u8 0, .int .u8 0, .int .u8 0, .int .u8 0, .int .u8 0, .int .u8 0, .int .u8 0, .int .u8 0, .int .u8 0, .int .u8 0, .int .u8 0, .int .u8 0, .int .u8 0, .int .u8 0, .int .u8 0, .int .u8 0, .int .u8 0]
theorem encP_one (p : Ptr) : (encP p).all (·.oneCell') = true := by
  rw [Array.all_eq_true_iff_forall_mem]
  intro v hv
  simp [encP] at hv
  rcases hv with rfl | rfl | rfl | rfl | ⟨x, _, rfl⟩ <;> rfl
theorem of_calls (a b : Int) (A : Option Addr) (c n : Nat) (L : List Int) (w : World) (hr : C8 w A n L) (hb : Byt L) (hnc : n ≤ c) :
    Calls Try.prog 30 #[.int .i64 a, .int .i64 b, .slice A n c] w fun e w' => e = .returned (.agg (encP (ofP a b L))) ∧ Below w.heap.size w w' := by
  have hn : n = L.length := hr.1.symm
  obtain ⟨P, hP⟩ : ∃ P : Ending → World → Prop, P = (fun e w' => e = .returned (.agg (encP (ofP a b L))) ∧ Below w.heap.size w w') := ⟨_, rfl⟩
  rw [← hP]
  have HP := Aside0.mk hP
  have HR := Aside0.mk (And.intro hr (And.intro hn hb))
  have HZ := Aside0.mk (blk_new w (.cells Z33 33))
  have HB := Aside0.mk (below_alloc (Below.refl w.heap.size w) (.cells Z33 33))
  clear hP hr hn hb
  go_enter Try.func30, Try.ntmps30
  go_wp2_with fail
  refine (CrcC.sum_calls A c n L HR.out.2.1 _ (Kd.C_below HR.out.1 HB.out) HR.out.2.2).mono ?_
  rintro e w1 ⟨he, hb1⟩
  obtain ⟨s, hs⟩ : ∃ s : Int, s = (CrcL.sumN L : Int) := ⟨_, rfl⟩
  rw [← hs] at he
  subst he
  have HB1 := Aside0.mk (below_then HB.out HB.out.size hb1)
  have HZ1 := Aside0.mk (blk_below HZ.out hb1)
  have HS := Aside0.mk hs
  clear hb1 hs
  go_wp2_with fail
  refine (sum_calls A c n L w1 (Kd.C_below HR.out.1 HB1.out) hnc).mono ?_
  rintro e w2 ⟨he, hb2⟩
  obtain ⟨cs, hcs⟩ : ∃ cs, cs = arr .u8 (shaL L) := ⟨_, rfl⟩
  rw [← hcs] at he
  subst he
  have HB2 := Aside0.mk (below_then HB1.out HB1.out.size hb2)
  have HZ2 := Aside0.mk (blk_below HZ1.out hb2)
  obtain ⟨r, hrr⟩ : ∃ r, r = encP (ofP a b L) := ⟨_, rfl⟩
  have hbu : Try.prog.built 33 [(0, .int .i64 a), (1, .int .i64 b), (2, .int .i64 (n : Int)), (3, .int .u32 s), (4, .agg cs)] = some r := by
    rw [hcs, built33 _ _ _ _ _ (shaL_len L), hrr, HS.out, HR.out.2.1]
    rfl
  have HBU := Aside0.mk hbu
  have HRR := Aside0.mk (And.intro hrr (And.intro (show r.size = 36 by rw [hrr]; exact encP_size (shaL_len L)) (show r.all (·.oneCell') = true by rw [hrr]; exact encP_one _)))
  clear hb2 hcs hrr hbu
  go_wp2_with (first | (refine wpList_build_of rfl 33 #[(0, .tmp 7), (1, .tmp 8), (2, .tmp 10), (3, .tmp 12), (4, .tmp 14)] rfl r ?hb ?_; (case hb => simp [Act.eval]; exact HBU.out)) | (refine wpList_store_row rfl 33 (.tmp 6) (.tmp 15) rfl w.heap.size r rfl rfl 33 Z33 HZ2.out (by rw [i33, HRR.out.2.1]) (by rw [HRR.out.2.1]; rfl) HRR.out.2.2 ?_))
  refine bodyPost_ret (CrcC.res_c (p := 6) _ rfl rfl (setRow_heap _ w.heap.size Z33 r 33 _ HZ2.out) Try.underlying33 rfl (by rw [i33, HRR.out.2.1])) rfl ?_
  rw [HP.out]
  exact ⟨by rw [HRR.out.1], below_setRow HB2.out (Nat.le_refl _) _⟩
end Go.Proofs.Ytchhdafgmifhdaa.OfA
namespace Go.Proofs.Ytchhdafgmifhdaa.PtrB
open Go.RowKit Go.Proofs.Ytchhdafgmifhdaa.B8 Go.Proofs.Ytchhdafgmifhdaa.CodL Go.Proofs.Ytchhdafgmifhdaa.CatL Go.Proofs.Ytchhdafgmifhdaa.PtrA Go.Proofs.Ytchhdafgmifhdaa.PCowLays Go.Proofs.YtchhdafgmifhdaaW.PrintWords Go.Proofs.YtchhdafgmifhdaaW.PrintLast Go.Proofs.YtchhdafgmifhdaaW.PrintMore
set_option linter.unusedVariables false
set_option linter.unusedSimpArgs false

/-- A whole row is loaded, in any world that keeps it. -/
theorem yieldsIf_load_row {P : Program} {ops : Array Oper} {S : World → Prop} {op : Oper} {a : Act} (hw : Region.wanted op (yielded ops a.tmps) = true) (ty : TypeId) (x : Operand) (ho : op.op = .load ty x)
    (g : Nat) (hx : a.eval x = .pointer (some ⟨g, 0, none⟩)) (t : TypeId) (cs : Array Value) (fr : Nat × Nat) (d : TypeDesc) (hg : ∀ w, S w → w.heap[g]? = some (.cells cs t fr))
    (hu : P.underlying ty = some d) (hd : (match d with | .struct _ | .array _ _ => true | _ => false) = true) (hi : (P.info? ty).map (·.size) = some cs.size) : YieldsIf P ops S op (.agg cs) a :=
  .inl ⟨hw, fun w hS => by
    unfold execOp
    simp only [ho, hx, Instr.loadAt, Instr.sureAddr, Sem.run_bind, Sem.run_pure, Result.andThen_ok, run_loadVar_row w g t ty cs fr d (hg w hS) hu hd hi]⟩

/-- It is one, as a bool. -/
def rightB (p : Ptr) : Bool := decide (Right p)
theorem in_yes (n a b : Int) (h1 : a ≤ n) (h2 : n ≤ b) (w : World) : Calls Try.prog 24 #[.int .i64 n, .int .i64 a, .int .i64 b] w fun e w' => e = .returned (.bool true) ∧ w = w' :=
  (in_calls n a b w).mono fun e w' ⟨h, hw⟩ => ⟨by rw [h]; simp [h1, h2], hw⟩
theorem in_no (n a b : Int) (h : ¬ (a ≤ n ∧ n ≤ b)) (w : World) : Calls Try.prog 24 #[.int .i64 n, .int .i64 a, .int .i64 b] w fun e w' => e = .returned (.bool false) ∧ w = w' :=
  (in_calls n a b w).mono fun e w' ⟨h1, hw⟩ => ⟨by rw [h1]; congr 2; simpa using h, hw⟩


set_option maxHeartbeats 2000000 in
set_option maxRecDepth 100000 in
theorem right_a (cs : Array Value) (p : Ptr) (hp : PC cs p) (hb : ¬ (1 ≤ p.birth ∧ p.birth ≤ 1152921504606846976)) (w : World) : Calls Try.prog 13 #[.agg cs] w fun e w' => e = .returned (.bool false) ∧ Below w.heap.size w w' := by
  have hi : (Try.prog.info? 33).map (·.size) = some cs.size := by rw [hp.size]; kernel_rfl
  have G0 := Aside0.mk (blk_new w (.cells cs 33))
  have HB0 := Aside0.mk (below_alloc (Below.refl w.heap.size w) (.cells cs 33))
  have hs : w.heap.size < (w.alloc (.cells cs 33)).heap.size := by simp
  have HP := Aside0.mk hp
  go_enter Try.func13, Try.ntmps13
  go_wp2_with fail
  generalize (w.alloc (.cells cs 33)) = W at *
  refine wp_region_held_drew (S := fun w' => w'.heap[w.heap.size]? = some (.cells cs 33 (0, 0)) ∧ Below w.heap.size w w' ∧ w.heap.size < w'.heap.size) (by kernel_rfl) ⟨G0.out, below_drew HB0.out, hs⟩ (fun hW => ?_)
  refine wpAnyH_take (i := 0) (oi := ⟨some 4, _, _, _, _, _⟩) (v := .func (.func 24) #[] #[]) rfl (by kernel_rfl) (by kernel_rfl) (by kernel_rfl) (fun _ _ _ h => h) (.inl ⟨by rfl, fun W1 h1 => by go_simp⟩) hW ?_
  try simp only [Act.put, List.setIfInBounds_toArray, List.set_cons_zero, List.set_cons_succ]
  refine wpAnyH_take (i := 1) (oi := ⟨some 5, _, _, _, _, _⟩) (v := .pointer (some ⟨w.heap.size, 1, none⟩)) rfl (by kernel_rfl) (by kernel_rfl) (by kernel_rfl) (fun _ _ _ h => h) (.inl ⟨by rfl, fun W1 h1 => by go_simp⟩) hW ?_
  try simp only [Act.put, List.setIfInBounds_toArray, List.set_cons_zero, List.set_cons_succ]
  refine wpAnyH_take (i := 2) (oi := ⟨some 6, _, _, _, _, _⟩) (v := .int .i64 p.birth) rfl (by kernel_rfl) (by kernel_rfl) (by kernel_rfl) (fun _ _ _ h => h) (.inl ⟨by rfl, fun W1 h1 => by (have x0 : W1.cell? ⟨w.heap.size, 1, none⟩ = some (.int .i64 p.birth) := (by rw [cell_of_row W1 _ 1 cs 33 (0, 0) h1.1]; exact HP.out.c1)); go_simp⟩) hW ?_
  try simp only [Act.put, List.setIfInBounds_toArray, List.set_cons_zero, List.set_cons_succ]
  refine wpAnyH_ready (rs := [3]) (by kernel_rfl) (by simp) (AllReadyH.cons rfl (fun K1 hK1 => ?_) AllReadyH.nil)
  go_simp
  refine (in_no _ _ _ hb _).mono ?_
  rintro e w1 ⟨rfl, rfl⟩
  refine hK1.out _ _ (hW) (fun hW1 => ?_)
  try simp only [Act.put, List.setIfInBounds_toArray, List.set_cons_zero, List.set_cons_succ]
  refine wpAnyH_take (i := 4) (oi := ⟨some 8, _, _, _, _, _⟩) (v := .bool false) rfl (by kernel_rfl) (by kernel_rfl) (by kernel_rfl) (fun _ _ _ h => h) (.inl ⟨by rfl, fun W1 h1 => by go_simp⟩) hW1 ?_
  try simp only [Act.put, List.setIfInBounds_toArray, List.set_cons_zero, List.set_cons_succ]
  refine wpAnyH_take (i := 5) (oi := ⟨some 9, _, _, _, _, _⟩) (v := undef) rfl (by kernel_rfl) (by kernel_rfl) (by kernel_rfl) (fun _ _ _ h => h) (.inr ⟨by rfl, rfl⟩) hW1 ?_
  try simp only [Act.put, List.setIfInBounds_toArray, List.set_cons_zero, List.set_cons_succ]
  refine wpAnyH_take (i := 6) (oi := ⟨some 10, _, _, _, _, _⟩) (v := undef) rfl (by kernel_rfl) (by kernel_rfl) (by kernel_rfl) (fun _ _ _ h => h) (.inr ⟨by rfl, rfl⟩) hW1 ?_
  try simp only [Act.put, List.setIfInBounds_toArray, List.set_cons_zero, List.set_cons_succ]
  refine wpAnyH_take (i := 7) (oi := ⟨some 11, _, _, _, _, _⟩) (v := undef) rfl (by kernel_rfl) (by kernel_rfl) (by kernel_rfl) (fun _ _ _ h => h) (.inr ⟨by rfl, rfl⟩) hW1 ?_
  try simp only [Act.put, List.setIfInBounds_toArray, List.set_cons_zero, List.set_cons_succ]
  refine wpAnyH_take (i := 8) (oi := ⟨some 12, _, _, _, _, _⟩) (v := .bool false) rfl (by kernel_rfl) (by kernel_rfl) (by kernel_rfl) (fun _ _ _ h => h) (.inl ⟨by rfl, fun W1 h1 => by go_simp⟩) hW1 ?_
  try simp only [Act.put, List.setIfInBounds_toArray, List.set_cons_zero, List.set_cons_succ]
  refine wpAnyH_take (i := 9) (oi := ⟨some 13, _, _, _, _, _⟩) (v := .bool false) rfl (by kernel_rfl) (by kernel_rfl) (by kernel_rfl) (fun _ _ _ h => h) (.inl ⟨by rfl, fun W1 h1 => by go_simp⟩) hW1 ?_
  try simp only [Act.put, List.setIfInBounds_toArray, List.set_cons_zero, List.set_cons_succ]
  refine wpAnyH_take (i := 10) (oi := ⟨some 14, _, _, _, _, _⟩) (v := undef) rfl (by kernel_rfl) (by kernel_rfl) (by kernel_rfl) (fun _ _ _ h => h) (.inr ⟨by rfl, rfl⟩) hW1 ?_
  try simp only [Act.put, List.setIfInBounds_toArray, List.set_cons_zero, List.set_cons_succ]
  refine wpAnyH_take (i := 11) (oi := ⟨some 15, _, _, _, _, _⟩) (v := undef) rfl (by kernel_rfl) (by kernel_rfl) (by kernel_rfl) (fun _ _ _ h => h) (.inr ⟨by rfl, rfl⟩) hW1 ?_
  try simp only [Act.put, List.setIfInBounds_toArray, List.set_cons_zero, List.set_cons_succ]
  refine wpAnyH_take (i := 12) (oi := ⟨some 16, _, _, _, _, _⟩) (v := undef) rfl (by kernel_rfl) (by kernel_rfl) (by kernel_rfl) (fun _ _ _ h => h) (.inr ⟨by rfl, rfl⟩) hW1 ?_
  try simp only [Act.put, List.setIfInBounds_toArray, List.set_cons_zero, List.set_cons_succ]
  refine wpAnyH_take (i := 13) (oi := ⟨some 17, _, _, _, _, _⟩) (v := undef) rfl (by kernel_rfl) (by kernel_rfl) (by kernel_rfl) (fun _ _ _ h => h) (.inr ⟨by rfl, rfl⟩) hW1 ?_
  try simp only [Act.put, List.setIfInBounds_toArray, List.set_cons_zero, List.set_cons_succ]
  refine wpAnyH_take (i := 14) (oi := ⟨some 18, _, _, _, _, _⟩) (v := undef) rfl (by kernel_rfl) (by kernel_rfl) (by kernel_rfl) (fun _ _ _ h => h) (.inr ⟨by rfl, rfl⟩) hW1 ?_
  try simp only [Act.put, List.setIfInBounds_toArray, List.set_cons_zero, List.set_cons_succ]
  refine wpAnyH_take (i := 15) (oi := ⟨some 19, _, _, _, _, _⟩) (v := undef) rfl (by kernel_rfl) (by kernel_rfl) (by kernel_rfl) (fun _ _ _ h => h) (.inr ⟨by rfl, rfl⟩) hW1 ?_
  try simp only [Act.put, List.setIfInBounds_toArray, List.set_cons_zero, List.set_cons_succ]
  refine wpAnyH_take (i := 16) (oi := ⟨some 20, _, _, _, _, _⟩) (v := undef) rfl (by kernel_rfl) (by kernel_rfl) (by kernel_rfl) (fun _ _ _ h => h) (.inr ⟨by rfl, rfl⟩) hW1 ?_
  try simp only [Act.put, List.setIfInBounds_toArray, List.set_cons_zero, List.set_cons_succ]
  refine wpAnyH_take (i := 17) (oi := ⟨some 21, _, _, _, _, _⟩) (v := .bool false) rfl (by kernel_rfl) (by kernel_rfl) (by kernel_rfl) (fun _ _ _ h => h) (.inl ⟨by rfl, fun W1 h1 => by go_simp⟩) hW1 ?_
  try simp only [Act.put, List.setIfInBounds_toArray, List.set_cons_zero, List.set_cons_succ]
  refine wpAnyH_take (i := 18) (oi := ⟨some 2, _, _, _, _, _⟩) (v := .bool false) rfl (by kernel_rfl) (by kernel_rfl) (by kernel_rfl) (fun _ _ _ h => h) (.inl ⟨by rfl, fun W1 h1 => by go_simp⟩) hW1 ?_
  try simp only [Act.put, List.setIfInBounds_toArray, List.set_cons_zero, List.set_cons_succ]
  refine wpAnyH_done (by kernel_rfl) ?_ _
  have HB := Aside0.mk hW1.2.1
  clear HB0 G0 hs
  go_wp2
  go_ret
  exact ⟨rfl, HB.out⟩

set_option maxHeartbeats 2000000 in
set_option maxRecDepth 100000 in
theorem right_b (cs : Array Value) (p : Ptr) (hp : PC cs p) (hb1 : 1 ≤ p.birth) (hb2 : p.birth ≤ 1152921504606846976) (hq : sect p.len = 0) (w : World) : Calls Try.prog 13 #[.agg cs] w fun e w' => e = .returned (.bool false) ∧ Below w.heap.size w w' := by
  have hi : (Try.prog.info? 33).map (·.size) = some cs.size := by rw [hp.size]; kernel_rfl
  have G0 := Aside0.mk (blk_new w (.cells cs 33))
  have HB0 := Aside0.mk (below_alloc (Below.refl w.heap.size w) (.cells cs 33))
  have hs : w.heap.size < (w.alloc (.cells cs 33)).heap.size := by simp
  have HP := Aside0.mk hp
  go_enter Try.func13, Try.ntmps13
  go_wp2_with fail
  generalize (w.alloc (.cells cs 33)) = W at *
  have HS := Aside0.mk (fun W => sectors_calls cs p hp W)
  rw [hq] at HS
  refine wp_region_held_drew (S := fun w' => w'.heap[w.heap.size]? = some (.cells cs 33 (0, 0)) ∧ Below w.heap.size w w' ∧ w.heap.size < w'.heap.size) (by kernel_rfl) ⟨G0.out, below_drew HB0.out, hs⟩ (fun hW => ?_)
  refine wpAnyH_take (i := 0) (oi := ⟨some 4, _, _, _, _, _⟩) (v := .func (.func 24) #[] #[]) rfl (by kernel_rfl) (by kernel_rfl) (by kernel_rfl) (fun _ _ _ h => h) (.inl ⟨by rfl, fun W1 h1 => by go_simp⟩) hW ?_
  try simp only [Act.put, List.setIfInBounds_toArray, List.set_cons_zero, List.set_cons_succ]
  refine wpAnyH_take (i := 1) (oi := ⟨some 5, _, _, _, _, _⟩) (v := .pointer (some ⟨w.heap.size, 1, none⟩)) rfl (by kernel_rfl) (by kernel_rfl) (by kernel_rfl) (fun _ _ _ h => h) (.inl ⟨by rfl, fun W1 h1 => by go_simp⟩) hW ?_
  try simp only [Act.put, List.setIfInBounds_toArray, List.set_cons_zero, List.set_cons_succ]
  refine wpAnyH_take (i := 2) (oi := ⟨some 6, _, _, _, _, _⟩) (v := .int .i64 p.birth) rfl (by kernel_rfl) (by kernel_rfl) (by kernel_rfl) (fun _ _ _ h => h) (.inl ⟨by rfl, fun W1 h1 => by (have x0 : W1.cell? ⟨w.heap.size, 1, none⟩ = some (.int .i64 p.birth) := (by rw [cell_of_row W1 _ 1 cs 33 (0, 0) h1.1]; exact HP.out.c1)); go_simp⟩) hW ?_
  try simp only [Act.put, List.setIfInBounds_toArray, List.set_cons_zero, List.set_cons_succ]
  refine wpAnyH_ready (rs := [3]) (by kernel_rfl) (by simp) (AllReadyH.cons rfl (fun K1 hK1 => ?_) AllReadyH.nil)
  go_simp
  refine (in_yes _ _ _ hb1 hb2 _).mono ?_
  rintro e w1 ⟨rfl, rfl⟩
  refine hK1.out _ _ (hW) (fun hW1 => ?_)
  try simp only [Act.put, List.setIfInBounds_toArray, List.set_cons_zero, List.set_cons_succ]
  refine wpAnyH_take (i := 4) (oi := ⟨some 8, _, _, _, _, _⟩) (v := .bool true) rfl (by kernel_rfl) (by kernel_rfl) (by kernel_rfl) (fun _ _ _ h => h) (.inl ⟨by rfl, fun W1 h1 => by go_simp⟩) hW1 ?_
  try simp only [Act.put, List.setIfInBounds_toArray, List.set_cons_zero, List.set_cons_succ]
  refine wpAnyH_take (i := 5) (oi := ⟨some 9, _, _, _, _, _⟩) rfl (by kernel_rfl) (by kernel_rfl) (by kernel_rfl) (fun _ _ _ h => h) (yieldsIf_load_row (by rfl) 33 _ rfl w.heap.size rfl 33 cs (0, 0) _ (fun _ h => h.1) Try.underlying33 rfl hi) hW1 ?_
  try simp only [Act.put, List.setIfInBounds_toArray, List.set_cons_zero, List.set_cons_succ]
  refine wpAnyH_ready (rs := [6]) (by kernel_rfl) (by simp) (AllReadyH.cons rfl (fun K2 hK2 => ?_) AllReadyH.nil)
  go_simp
  refine (HS.out _).mono ?_
  rintro e w2 ⟨rfl, b2⟩
  refine hK2.out _ _ (⟨blk_below hW1.1 b2, hW1.2.1.trans (b2.mono hW1.2.1.size), Nat.lt_of_lt_of_le hW1.2.2 b2.size⟩) (fun hW2 => ?_)
  try simp only [Act.put, List.setIfInBounds_toArray, List.set_cons_zero, List.set_cons_succ]
  refine wpAnyH_take (i := 7) (oi := ⟨some 11, _, _, _, _, _⟩) (v := .bool false) rfl (by kernel_rfl) (by kernel_rfl) (by kernel_rfl) (fun _ _ _ h => h) (.inl ⟨by rfl, fun W1 h1 => by go_simp⟩) hW2 ?_
  try simp only [Act.put, List.setIfInBounds_toArray, List.set_cons_zero, List.set_cons_succ]
  refine wpAnyH_take (i := 8) (oi := ⟨some 12, _, _, _, _, _⟩) (v := .bool false) rfl (by kernel_rfl) (by kernel_rfl) (by kernel_rfl) (fun _ _ _ h => h) (.inl ⟨by rfl, fun W1 h1 => by go_simp⟩) hW2 ?_
  try simp only [Act.put, List.setIfInBounds_toArray, List.set_cons_zero, List.set_cons_succ]
  refine wpAnyH_take (i := 9) (oi := ⟨some 13, _, _, _, _, _⟩) (v := .bool false) rfl (by kernel_rfl) (by kernel_rfl) (by kernel_rfl) (fun _ _ _ h => h) (.inl ⟨by rfl, fun W1 h1 => by go_simp⟩) hW2 ?_
  try simp only [Act.put, List.setIfInBounds_toArray, List.set_cons_zero, List.set_cons_succ]
  refine wpAnyH_take (i := 10) (oi := ⟨some 14, _, _, _, _, _⟩) (v := undef) rfl (by kernel_rfl) (by kernel_rfl) (by kernel_rfl) (fun _ _ _ h => h) (.inr ⟨by rfl, rfl⟩) hW2 ?_
  try simp only [Act.put, List.setIfInBounds_toArray, List.set_cons_zero, List.set_cons_succ]
  refine wpAnyH_take (i := 11) (oi := ⟨some 15, _, _, _, _, _⟩) (v := undef) rfl (by kernel_rfl) (by kernel_rfl) (by kernel_rfl) (fun _ _ _ h => h) (.inr ⟨by rfl, rfl⟩) hW2 ?_
  try simp only [Act.put, List.setIfInBounds_toArray, List.set_cons_zero, List.set_cons_succ]
  refine wpAnyH_take (i := 12) (oi := ⟨some 16, _, _, _, _, _⟩) (v := undef) rfl (by kernel_rfl) (by kernel_rfl) (by kernel_rfl) (fun _ _ _ h => h) (.inr ⟨by rfl, rfl⟩) hW2 ?_
  try simp only [Act.put, List.setIfInBounds_toArray, List.set_cons_zero, List.set_cons_succ]
  refine wpAnyH_take (i := 13) (oi := ⟨some 17, _, _, _, _, _⟩) (v := undef) rfl (by kernel_rfl) (by kernel_rfl) (by kernel_rfl) (fun _ _ _ h => h) (.inr ⟨by rfl, rfl⟩) hW2 ?_
  try simp only [Act.put, List.setIfInBounds_toArray, List.set_cons_zero, List.set_cons_succ]
  refine wpAnyH_take (i := 14) (oi := ⟨some 18, _, _, _, _, _⟩) (v := undef) rfl (by kernel_rfl) (by kernel_rfl) (by kernel_rfl) (fun _ _ _ h => h) (.inr ⟨by rfl, rfl⟩) hW2 ?_
  try simp only [Act.put, List.setIfInBounds_toArray, List.set_cons_zero, List.set_cons_succ]
  refine wpAnyH_take (i := 15) (oi := ⟨some 19, _, _, _, _, _⟩) (v := undef) rfl (by kernel_rfl) (by kernel_rfl) (by kernel_rfl) (fun _ _ _ h => h) (.inr ⟨by rfl, rfl⟩) hW2 ?_
  try simp only [Act.put, List.setIfInBounds_toArray, List.set_cons_zero, List.set_cons_succ]
  refine wpAnyH_take (i := 16) (oi := ⟨some 20, _, _, _, _, _⟩) (v := undef) rfl (by kernel_rfl) (by kernel_rfl) (by kernel_rfl) (fun _ _ _ h => h) (.inr ⟨by rfl, rfl⟩) hW2 ?_
  try simp only [Act.put, List.setIfInBounds_toArray, List.set_cons_zero, List.set_cons_succ]
  refine wpAnyH_take (i := 17) (oi := ⟨some 21, _, _, _, _, _⟩) (v := .bool false) rfl (by kernel_rfl) (by kernel_rfl) (by kernel_rfl) (fun _ _ _ h => h) (.inl ⟨by rfl, fun W1 h1 => by go_simp⟩) hW2 ?_
  try simp only [Act.put, List.setIfInBounds_toArray, List.set_cons_zero, List.set_cons_succ]
  refine wpAnyH_take (i := 18) (oi := ⟨some 2, _, _, _, _, _⟩) (v := .bool false) rfl (by kernel_rfl) (by kernel_rfl) (by kernel_rfl) (fun _ _ _ h => h) (.inl ⟨by rfl, fun W1 h1 => by go_simp⟩) hW2 ?_
  try simp only [Act.put, List.setIfInBounds_toArray, List.set_cons_zero, List.set_cons_succ]
  refine wpAnyH_done (by kernel_rfl) ?_ _
  have HB := Aside0.mk hW2.2.1
  clear HB0 G0 hs
  go_wp2
  go_ret
  exact ⟨rfl, HB.out⟩

set_option maxHeartbeats 2000000 in
set_option maxRecDepth 100000 in
theorem right_c (cs : Array Value) (p : Ptr) (hp : PC cs p) (hb1 : 1 ≤ p.birth) (hb2 : p.birth ≤ 1152921504606846976) (hq : 0 < sect p.len) (hl1 : 2 ≤ p.at_) (hl2 : p.at_ ≤ 8192 - sect p.len) (w : World) : Calls Try.prog 13 #[.agg cs] w fun e w' => e = .returned (.bool true) ∧ Below w.heap.size w w' := by
  have hi : (Try.prog.info? 33).map (·.size) = some cs.size := by rw [hp.size]; kernel_rfl
  have G0 := Aside0.mk (blk_new w (.cells cs 33))
  have HB0 := Aside0.mk (below_alloc (Below.refl w.heap.size w) (.cells cs 33))
  have hs : w.heap.size < (w.alloc (.cells cs 33)).heap.size := by simp
  have HP := Aside0.mk hp
  go_enter Try.func13, Try.ntmps13
  go_wp2_with fail
  generalize (w.alloc (.cells cs 33)) = W at *
  have HS := Aside0.mk (fun W => sectors_calls cs p hp W)
  have hsb := sect_bound p.len
  generalize sect p.len = sc at *
  refine wp_region_held_drew (S := fun w' => w'.heap[w.heap.size]? = some (.cells cs 33 (0, 0)) ∧ Below w.heap.size w w' ∧ w.heap.size < w'.heap.size) (by kernel_rfl) ⟨G0.out, below_drew HB0.out, hs⟩ (fun hW => ?_)
  refine wpAnyH_take (i := 0) (oi := ⟨some 4, _, _, _, _, _⟩) (v := .func (.func 24) #[] #[]) rfl (by kernel_rfl) (by kernel_rfl) (by kernel_rfl) (fun _ _ _ h => h) (.inl ⟨by rfl, fun W1 h1 => by go_simp⟩) hW ?_
  try simp only [Act.put, List.setIfInBounds_toArray, List.set_cons_zero, List.set_cons_succ]
  refine wpAnyH_take (i := 1) (oi := ⟨some 5, _, _, _, _, _⟩) (v := .pointer (some ⟨w.heap.size, 1, none⟩)) rfl (by kernel_rfl) (by kernel_rfl) (by kernel_rfl) (fun _ _ _ h => h) (.inl ⟨by rfl, fun W1 h1 => by go_simp⟩) hW ?_
  try simp only [Act.put, List.setIfInBounds_toArray, List.set_cons_zero, List.set_cons_succ]
  refine wpAnyH_take (i := 2) (oi := ⟨some 6, _, _, _, _, _⟩) (v := .int .i64 p.birth) rfl (by kernel_rfl) (by kernel_rfl) (by kernel_rfl) (fun _ _ _ h => h) (.inl ⟨by rfl, fun W1 h1 => by (have x0 : W1.cell? ⟨w.heap.size, 1, none⟩ = some (.int .i64 p.birth) := (by rw [cell_of_row W1 _ 1 cs 33 (0, 0) h1.1]; exact HP.out.c1)); go_simp⟩) hW ?_
  try simp only [Act.put, List.setIfInBounds_toArray, List.set_cons_zero, List.set_cons_succ]
  refine wpAnyH_ready (rs := [3]) (by kernel_rfl) (by simp) (AllReadyH.cons rfl (fun K1 hK1 => ?_) AllReadyH.nil)
  go_simp
  refine (in_yes _ _ _ hb1 hb2 _).mono ?_
  rintro e w1 ⟨rfl, rfl⟩
  refine hK1.out _ _ (hW) (fun hW1 => ?_)
  try simp only [Act.put, List.setIfInBounds_toArray, List.set_cons_zero, List.set_cons_succ]
  refine wpAnyH_take (i := 4) (oi := ⟨some 8, _, _, _, _, _⟩) (v := .bool true) rfl (by kernel_rfl) (by kernel_rfl) (by kernel_rfl) (fun _ _ _ h => h) (.inl ⟨by rfl, fun W1 h1 => by go_simp⟩) hW1 ?_
  try simp only [Act.put, List.setIfInBounds_toArray, List.set_cons_zero, List.set_cons_succ]
  refine wpAnyH_take (i := 5) (oi := ⟨some 9, _, _, _, _, _⟩) rfl (by kernel_rfl) (by kernel_rfl) (by kernel_rfl) (fun _ _ _ h => h) (yieldsIf_load_row (by rfl) 33 _ rfl w.heap.size rfl 33 cs (0, 0) _ (fun _ h => h.1) Try.underlying33 rfl hi) hW1 ?_
  try simp only [Act.put, List.setIfInBounds_toArray, List.set_cons_zero, List.set_cons_succ]
  refine wpAnyH_ready (rs := [6]) (by kernel_rfl) (by simp) (AllReadyH.cons rfl (fun K2 hK2 => ?_) AllReadyH.nil)
  go_simp
  refine (HS.out _).mono ?_
  rintro e w2 ⟨rfl, b2⟩
  refine hK2.out _ _ (⟨blk_below hW1.1 b2, hW1.2.1.trans (b2.mono hW1.2.1.size), Nat.lt_of_lt_of_le hW1.2.2 b2.size⟩) (fun hW2 => ?_)
  try simp only [Act.put, List.setIfInBounds_toArray, List.set_cons_zero, List.set_cons_succ]
  refine wpAnyH_take (i := 7) (oi := ⟨some 11, _, _, _, _, _⟩) (v := .bool true) rfl (by kernel_rfl) (by kernel_rfl) (by kernel_rfl) (fun _ _ _ h => h) (.inl ⟨by rfl, fun W1 h1 => by go_simp⟩) hW2 ?_
  try simp only [Act.put, List.setIfInBounds_toArray, List.set_cons_zero, List.set_cons_succ]
  refine wpAnyH_take (i := 8) (oi := ⟨some 12, _, _, _, _, _⟩) (v := .bool true) rfl (by kernel_rfl) (by kernel_rfl) (by kernel_rfl) (fun _ _ _ h => h) (.inl ⟨by rfl, fun W1 h1 => by go_simp⟩) hW2 ?_
  try simp only [Act.put, List.setIfInBounds_toArray, List.set_cons_zero, List.set_cons_succ]
  refine wpAnyH_take (i := 9) (oi := ⟨some 13, _, _, _, _, _⟩) (v := .bool true) rfl (by kernel_rfl) (by kernel_rfl) (by kernel_rfl) (fun _ _ _ h => h) (.inl ⟨by rfl, fun W1 h1 => by go_simp⟩) hW2 ?_
  try simp only [Act.put, List.setIfInBounds_toArray, List.set_cons_zero, List.set_cons_succ]
  refine wpAnyH_take (i := 10) (oi := ⟨some 14, _, _, _, _, _⟩) (v := .func (.func 24) #[] #[]) rfl (by kernel_rfl) (by kernel_rfl) (by kernel_rfl) (fun _ _ _ h => h) (.inl ⟨by rfl, fun W1 h1 => by go_simp⟩) hW2 ?_
  try simp only [Act.put, List.setIfInBounds_toArray, List.set_cons_zero, List.set_cons_succ]
  refine wpAnyH_take (i := 11) (oi := ⟨some 15, _, _, _, _, _⟩) (v := .pointer (some ⟨w.heap.size, 0, none⟩)) rfl (by kernel_rfl) (by kernel_rfl) (by kernel_rfl) (fun _ _ _ h => h) (.inl ⟨by rfl, fun W1 h1 => by go_simp⟩) hW2 ?_
  try simp only [Act.put, List.setIfInBounds_toArray, List.set_cons_zero, List.set_cons_succ]
  refine wpAnyH_take (i := 12) (oi := ⟨some 16, _, _, _, _, _⟩) (v := .int .i64 p.at_) rfl (by kernel_rfl) (by kernel_rfl) (by kernel_rfl) (fun _ _ _ h => h) (.inl ⟨by rfl, fun W1 h1 => by (have x0 : W1.cell? ⟨w.heap.size, 0, none⟩ = some (.int .i64 p.at_) := (by rw [cell_of_row W1 _ 0 cs 33 (0, 0) h1.1]; exact HP.out.c0)); go_simp⟩) hW2 ?_
  try simp only [Act.put, List.setIfInBounds_toArray, List.set_cons_zero, List.set_cons_succ]
  refine wpAnyH_take (i := 13) (oi := ⟨some 17, _, _, _, _, _⟩) rfl (by kernel_rfl) (by kernel_rfl) (by kernel_rfl) (fun _ _ _ h => h) (yieldsIf_load_row (by rfl) 33 _ rfl w.heap.size rfl 33 cs (0, 0) _ (fun _ h => h.1) Try.underlying33 rfl hi) hW2 ?_
  try simp only [Act.put, List.setIfInBounds_toArray, List.set_cons_zero, List.set_cons_succ]
  refine wpAnyH_ready (rs := [14]) (by kernel_rfl) (by simp) (AllReadyH.cons rfl (fun K3 hK3 => ?_) AllReadyH.nil)
  go_simp
  refine (HS.out _).mono ?_
  rintro e w3 ⟨rfl, b3⟩
  refine hK3.out _ _ (⟨blk_below hW2.1 b3, hW2.2.1.trans (b3.mono hW2.2.1.size), Nat.lt_of_lt_of_le hW2.2.2 b3.size⟩) (fun hW3 => ?_)
  try simp only [Act.put, List.setIfInBounds_toArray, List.set_cons_zero, List.set_cons_succ]
  refine wpAnyH_take (i := 15) (oi := ⟨some 19, _, _, _, _, _⟩) (v := .int .i64 (8192 - sc)) rfl (by kernel_rfl) (by kernel_rfl) (by kernel_rfl) (fun _ _ _ h => h) (.inl ⟨by rfl, fun W1 h1 => by (have hw : IntKind.i64.wrap (8192 - sc) = 8192 - sc := (by rw [IntKind.wrap_i64]; omega)); go_simp⟩) hW3 ?_
  try simp only [Act.put, List.setIfInBounds_toArray, List.set_cons_zero, List.set_cons_succ]
  refine wpAnyH_ready (rs := [16]) (by kernel_rfl) (by simp) (AllReadyH.cons rfl (fun K4 hK4 => ?_) AllReadyH.nil)
  go_simp
  refine (in_yes _ _ _ hl1 hl2 _).mono ?_
  rintro e w4 ⟨rfl, rfl⟩
  refine hK4.out _ _ (hW3) (fun hW4 => ?_)
  try simp only [Act.put, List.setIfInBounds_toArray, List.set_cons_zero, List.set_cons_succ]
  refine wpAnyH_take (i := 17) (oi := ⟨some 21, _, _, _, _, _⟩) (v := .bool true) rfl (by kernel_rfl) (by kernel_rfl) (by kernel_rfl) (fun _ _ _ h => h) (.inl ⟨by rfl, fun W1 h1 => by go_simp⟩) hW4 ?_
  try simp only [Act.put, List.setIfInBounds_toArray, List.set_cons_zero, List.set_cons_succ]
  refine wpAnyH_take (i := 18) (oi := ⟨some 2, _, _, _, _, _⟩) (v := .bool true) rfl (by kernel_rfl) (by kernel_rfl) (by kernel_rfl) (fun _ _ _ h => h) (.inl ⟨by rfl, fun W1 h1 => by go_simp⟩) hW4 ?_
  try simp only [Act.put, List.setIfInBounds_toArray, List.set_cons_zero, List.set_cons_succ]
  refine wpAnyH_done (by kernel_rfl) ?_ _
  have HB := Aside0.mk hW4.2.1
  clear HB0 G0 hs
  go_wp2
  go_ret
  exact ⟨rfl, HB.out⟩

set_option maxHeartbeats 2000000 in
set_option maxRecDepth 100000 in
theorem right_d (cs : Array Value) (p : Ptr) (hp : PC cs p) (hb1 : 1 ≤ p.birth) (hb2 : p.birth ≤ 1152921504606846976) (hq : 0 < sect p.len) (hl : ¬ (2 ≤ p.at_ ∧ p.at_ ≤ 8192 - sect p.len)) (w : World) : Calls Try.prog 13 #[.agg cs] w fun e w' => e = .returned (.bool false) ∧ Below w.heap.size w w' := by
  have hi : (Try.prog.info? 33).map (·.size) = some cs.size := by rw [hp.size]; kernel_rfl
  have G0 := Aside0.mk (blk_new w (.cells cs 33))
  have HB0 := Aside0.mk (below_alloc (Below.refl w.heap.size w) (.cells cs 33))
  have hs : w.heap.size < (w.alloc (.cells cs 33)).heap.size := by simp
  have HP := Aside0.mk hp
  go_enter Try.func13, Try.ntmps13
  go_wp2_with fail
  generalize (w.alloc (.cells cs 33)) = W at *
  have HS := Aside0.mk (fun W => sectors_calls cs p hp W)
  have hsb := sect_bound p.len
  generalize sect p.len = sc at *
  refine wp_region_held_drew (S := fun w' => w'.heap[w.heap.size]? = some (.cells cs 33 (0, 0)) ∧ Below w.heap.size w w' ∧ w.heap.size < w'.heap.size) (by kernel_rfl) ⟨G0.out, below_drew HB0.out, hs⟩ (fun hW => ?_)
  refine wpAnyH_take (i := 0) (oi := ⟨some 4, _, _, _, _, _⟩) (v := .func (.func 24) #[] #[]) rfl (by kernel_rfl) (by kernel_rfl) (by kernel_rfl) (fun _ _ _ h => h) (.inl ⟨by rfl, fun W1 h1 => by go_simp⟩) hW ?_
  try simp only [Act.put, List.setIfInBounds_toArray, List.set_cons_zero, List.set_cons_succ]
  refine wpAnyH_take (i := 1) (oi := ⟨some 5, _, _, _, _, _⟩) (v := .pointer (some ⟨w.heap.size, 1, none⟩)) rfl (by kernel_rfl) (by kernel_rfl) (by kernel_rfl) (fun _ _ _ h => h) (.inl ⟨by rfl, fun W1 h1 => by go_simp⟩) hW ?_
  try simp only [Act.put, List.setIfInBounds_toArray, List.set_cons_zero, List.set_cons_succ]
  refine wpAnyH_take (i := 2) (oi := ⟨some 6, _, _, _, _, _⟩) (v := .int .i64 p.birth) rfl (by kernel_rfl) (by kernel_rfl) (by kernel_rfl) (fun _ _ _ h => h) (.inl ⟨by rfl, fun W1 h1 => by (have x0 : W1.cell? ⟨w.heap.size, 1, none⟩ = some (.int .i64 p.birth) := (by rw [cell_of_row W1 _ 1 cs 33 (0, 0) h1.1]; exact HP.out.c1)); go_simp⟩) hW ?_
  try simp only [Act.put, List.setIfInBounds_toArray, List.set_cons_zero, List.set_cons_succ]
  refine wpAnyH_ready (rs := [3]) (by kernel_rfl) (by simp) (AllReadyH.cons rfl (fun K1 hK1 => ?_) AllReadyH.nil)
  go_simp
  refine (in_yes _ _ _ hb1 hb2 _).mono ?_
  rintro e w1 ⟨rfl, rfl⟩
  refine hK1.out _ _ (hW) (fun hW1 => ?_)
  try simp only [Act.put, List.setIfInBounds_toArray, List.set_cons_zero, List.set_cons_succ]
  refine wpAnyH_take (i := 4) (oi := ⟨some 8, _, _, _, _, _⟩) (v := .bool true) rfl (by kernel_rfl) (by kernel_rfl) (by kernel_rfl) (fun _ _ _ h => h) (.inl ⟨by rfl, fun W1 h1 => by go_simp⟩) hW1 ?_
  try simp only [Act.put, List.setIfInBounds_toArray, List.set_cons_zero, List.set_cons_succ]
  refine wpAnyH_take (i := 5) (oi := ⟨some 9, _, _, _, _, _⟩) rfl (by kernel_rfl) (by kernel_rfl) (by kernel_rfl) (fun _ _ _ h => h) (yieldsIf_load_row (by rfl) 33 _ rfl w.heap.size rfl 33 cs (0, 0) _ (fun _ h => h.1) Try.underlying33 rfl hi) hW1 ?_
  try simp only [Act.put, List.setIfInBounds_toArray, List.set_cons_zero, List.set_cons_succ]
  refine wpAnyH_ready (rs := [6]) (by kernel_rfl) (by simp) (AllReadyH.cons rfl (fun K2 hK2 => ?_) AllReadyH.nil)
  go_simp
  refine (HS.out _).mono ?_
  rintro e w2 ⟨rfl, b2⟩
  refine hK2.out _ _ (⟨blk_below hW1.1 b2, hW1.2.1.trans (b2.mono hW1.2.1.size), Nat.lt_of_lt_of_le hW1.2.2 b2.size⟩) (fun hW2 => ?_)
  try simp only [Act.put, List.setIfInBounds_toArray, List.set_cons_zero, List.set_cons_succ]
  refine wpAnyH_take (i := 7) (oi := ⟨some 11, _, _, _, _, _⟩) (v := .bool true) rfl (by kernel_rfl) (by kernel_rfl) (by kernel_rfl) (fun _ _ _ h => h) (.inl ⟨by rfl, fun W1 h1 => by go_simp⟩) hW2 ?_
  try simp only [Act.put, List.setIfInBounds_toArray, List.set_cons_zero, List.set_cons_succ]
  refine wpAnyH_take (i := 8) (oi := ⟨some 12, _, _, _, _, _⟩) (v := .bool true) rfl (by kernel_rfl) (by kernel_rfl) (by kernel_rfl) (fun _ _ _ h => h) (.inl ⟨by rfl, fun W1 h1 => by go_simp⟩) hW2 ?_
  try simp only [Act.put, List.setIfInBounds_toArray, List.set_cons_zero, List.set_cons_succ]
  refine wpAnyH_take (i := 9) (oi := ⟨some 13, _, _, _, _, _⟩) (v := .bool true) rfl (by kernel_rfl) (by kernel_rfl) (by kernel_rfl) (fun _ _ _ h => h) (.inl ⟨by rfl, fun W1 h1 => by go_simp⟩) hW2 ?_
  try simp only [Act.put, List.setIfInBounds_toArray, List.set_cons_zero, List.set_cons_succ]
  refine wpAnyH_take (i := 10) (oi := ⟨some 14, _, _, _, _, _⟩) (v := .func (.func 24) #[] #[]) rfl (by kernel_rfl) (by kernel_rfl) (by kernel_rfl) (fun _ _ _ h => h) (.inl ⟨by rfl, fun W1 h1 => by go_simp⟩) hW2 ?_
  try simp only [Act.put, List.setIfInBounds_toArray, List.set_cons_zero, List.set_cons_succ]
  refine wpAnyH_take (i := 11) (oi := ⟨some 15, _, _, _, _, _⟩) (v := .pointer (some ⟨w.heap.size, 0, none⟩)) rfl (by kernel_rfl) (by kernel_rfl) (by kernel_rfl) (fun _ _ _ h => h) (.inl ⟨by rfl, fun W1 h1 => by go_simp⟩) hW2 ?_
  try simp only [Act.put, List.setIfInBounds_toArray, List.set_cons_zero, List.set_cons_succ]
  refine wpAnyH_take (i := 12) (oi := ⟨some 16, _, _, _, _, _⟩) (v := .int .i64 p.at_) rfl (by kernel_rfl) (by kernel_rfl) (by kernel_rfl) (fun _ _ _ h => h) (.inl ⟨by rfl, fun W1 h1 => by (have x0 : W1.cell? ⟨w.heap.size, 0, none⟩ = some (.int .i64 p.at_) := (by rw [cell_of_row W1 _ 0 cs 33 (0, 0) h1.1]; exact HP.out.c0)); go_simp⟩) hW2 ?_
  try simp only [Act.put, List.setIfInBounds_toArray, List.set_cons_zero, List.set_cons_succ]
  refine wpAnyH_take (i := 13) (oi := ⟨some 17, _, _, _, _, _⟩) rfl (by kernel_rfl) (by kernel_rfl) (by kernel_rfl) (fun _ _ _ h => h) (yieldsIf_load_row (by rfl) 33 _ rfl w.heap.size rfl 33 cs (0, 0) _ (fun _ h => h.1) Try.underlying33 rfl hi) hW2 ?_
  try simp only [Act.put, List.setIfInBounds_toArray, List.set_cons_zero, List.set_cons_succ]
  refine wpAnyH_ready (rs := [14]) (by kernel_rfl) (by simp) (AllReadyH.cons rfl (fun K3 hK3 => ?_) AllReadyH.nil)
  go_simp
  refine (HS.out _).mono ?_
  rintro e w3 ⟨rfl, b3⟩
  refine hK3.out _ _ (⟨blk_below hW2.1 b3, hW2.2.1.trans (b3.mono hW2.2.1.size), Nat.lt_of_lt_of_le hW2.2.2 b3.size⟩) (fun hW3 => ?_)
  try simp only [Act.put, List.setIfInBounds_toArray, List.set_cons_zero, List.set_cons_succ]
  refine wpAnyH_take (i := 15) (oi := ⟨some 19, _, _, _, _, _⟩) (v := .int .i64 (8192 - sc)) rfl (by kernel_rfl) (by kernel_rfl) (by kernel_rfl) (fun _ _ _ h => h) (.inl ⟨by rfl, fun W1 h1 => by (have hw : IntKind.i64.wrap (8192 - sc) = 8192 - sc := (by rw [IntKind.wrap_i64]; omega)); go_simp⟩) hW3 ?_
  try simp only [Act.put, List.setIfInBounds_toArray, List.set_cons_zero, List.set_cons_succ]
  refine wpAnyH_ready (rs := [16]) (by kernel_rfl) (by simp) (AllReadyH.cons rfl (fun K4 hK4 => ?_) AllReadyH.nil)
  go_simp
  refine (in_no _ _ _ hl _).mono ?_
  rintro e w4 ⟨rfl, rfl⟩
  refine hK4.out _ _ (hW3) (fun hW4 => ?_)
  try simp only [Act.put, List.setIfInBounds_toArray, List.set_cons_zero, List.set_cons_succ]
  refine wpAnyH_take (i := 17) (oi := ⟨some 21, _, _, _, _, _⟩) (v := .bool false) rfl (by kernel_rfl) (by kernel_rfl) (by kernel_rfl) (fun _ _ _ h => h) (.inl ⟨by rfl, fun W1 h1 => by go_simp⟩) hW4 ?_
  try simp only [Act.put, List.setIfInBounds_toArray, List.set_cons_zero, List.set_cons_succ]
  refine wpAnyH_take (i := 18) (oi := ⟨some 2, _, _, _, _, _⟩) (v := .bool false) rfl (by kernel_rfl) (by kernel_rfl) (by kernel_rfl) (fun _ _ _ h => h) (.inl ⟨by rfl, fun W1 h1 => by go_simp⟩) hW4 ?_
  try simp only [Act.put, List.setIfInBounds_toArray, List.set_cons_zero, List.set_cons_succ]
  refine wpAnyH_done (by kernel_rfl) ?_ _
  have HB := Aside0.mk hW4.2.1
  clear HB0 G0 hs
  go_wp2
  go_ret
  exact ⟨rfl, HB.out⟩

theorem rightB_yes {p : Ptr} (h : Right p) : rightB p = true := decide_eq_true h
theorem rightB_no {p : Ptr} (h : ¬ Right p) : rightB p = false := decide_eq_false h
theorem right_calls (cs : Array Value) (p : Ptr) (hp : PC cs p) (w : World) : Calls Try.prog 13 #[.agg cs] w fun e w' => e = .returned (.bool (rightB p)) ∧ Below w.heap.size w w' := by
  have hsb := sect_bound p.len
  by_cases hb : 1 ≤ p.birth ∧ p.birth ≤ 1152921504606846976
  · by_cases hq : 0 < sect p.len
    · by_cases hl : 2 ≤ p.at_ ∧ p.at_ ≤ 8192 - sect p.len
      · rw [rightB_yes ⟨hb.1, hb.2, hq, hl.1, hl.2⟩]
        exact right_c cs p hp hb.1 hb.2 hq hl.1 hl.2 w
      · rw [rightB_no (fun h => hl ⟨h.2.2.2.1, h.2.2.2.2⟩)]
        exact right_d cs p hp hb.1 hb.2 hq hl w
    · rw [rightB_no (fun h => hq h.2.2.1)]
      exact right_b cs p hp hb.1 hb.2 (by omega) w
  · rw [rightB_no (fun h => hb ⟨h.1, h.2.1⟩)]
    exact right_a cs p hp hb w
end Go.Proofs.Ytchhdafgmifhdaa.PtrB
namespace Go.Proofs.Ytchhdafgmifhdaa.SpnA
open Go.RowKit Go.Proofs.Ytchhdafgmifhdaa.B8 Go.Proofs.Ytchhdafgmifhdaa.Agg Go.Proofs.Ytchhdafgmifhdaa.CodL Go.Proofs.Ytchhdafgmifhdaa.CodA Go.Proofs.Ytchhdafgmifhdaa.CodB Go.Proofs.Ytchhdafgmifhdaa.CrcL Go.Proofs.Ytchhdafgmifhdaa.CrcA Go.Proofs.Ytchhdafgmifhdaa.CrcB Go.Proofs.Ytchhdafgmifhdaa.PCowLays Go.Proofs.YtchhdafgmifhdaaW.PrintWords Go.Proofs.YtchhdafgmifhdaaW.PrintLast Go.Proofs.YtchhdafgmifhdaaW.PrintMore Go.Proofs.Ytchhdafgmifhdaa.CatL Go.Proofs.Ytchhdafgmifhdaa.PtrA Go.Proofs.Ytchhdafgmifhdaa.PtrB Go.Proofs.Ytchhdafgmifhdaa.PtrE Go.Proofs.Ytchhdafgmifhdaa.OfA Go.Proofs.Ytchhdafgmifhdaa.ExtA Go.Proofs.Ytchhdafgmifhdaa.DskA Go.Proofs.Ytchhdafgmifhdaa.DskB Go.Proofs.Ytchhdafgmifhdaa.DskC
set_option linter.unusedVariables false
set_option linter.unusedSimpArgs false
theorem inf42 : (Try.prog.info? 42).map (·.size) = some 2 := by kernel_rfl
set_option maxRecDepth 100000 in
set_option maxHeartbeats 4000000 in
theorem span20 (cs : Array Value) (p : Ptr) (hp : PC cs p) (h0 : 0 ≤ p.at_) (h2 : p.at_ ≤ 1000000) (hs0 : 0 ≤ sect p.len) (hs2 : sect p.len ≤ 1000) (w : World) : Calls Try.prog 20 #[.agg cs] w fun e w' => e = .returned (.agg #[.int .i64 p.at_, .int .i64 (p.at_ + sect p.len)]) ∧ Below w.heap.size w w' := by
  obtain ⟨P, hP⟩ : ∃ P : Ending → World → Prop, P = fun e w' => e = .returned (.agg #[.int .i64 p.at_, .int .i64 (p.at_ + sect p.len)]) ∧ Below w.heap.size w w' := ⟨_, rfl⟩
  rw [← hP]
  have HP := Aside0.mk hP
  clear hP
  have b1 := below_alloc (Below.refl w.heap.size w) (.cells cs 33)
  have g1 := blk_alloc (blk_new w (.cells cs 33)) (.cells #[.int .i64 0, .int .i64 0] 42)
  have g2 := blk_new (w.alloc (.cells cs 33)) (.cells #[.int .i64 0, .int .i64 0] 42)
  rw [show (w.alloc (.cells cs 33)).heap.size = w.heap.size + 1 by simp] at g2
  have HB := Aside0.mk (show Below w.heap.size w ((w.alloc (.cells cs 33)).alloc (.cells #[.int .i64 0, .int .i64 0] 42)) from below_alloc b1 _)
  have HG1 := Aside0.mk g1
  have HG2 := Aside0.mk g2
  have HPC := Aside0.mk hp
  have hw1 : IntKind.i64.wrap (p.at_ + sect p.len) = p.at_ + sect p.len := i64_small (by omega) (by omega)
  obtain ⟨x, hx⟩ : ∃ x, x = p.at_ := ⟨_, rfl⟩
  obtain ⟨s, hs⟩ : ∃ s, s = sect p.len := ⟨_, rfl⟩
  have x0 : ((w.alloc (.cells cs 33)).alloc (.cells #[.int .i64 0, .int .i64 0] 42)).drew.cell? ⟨w.heap.size, 0, none⟩ = some (.int .i64 x) := by
    show ((w.alloc (.cells cs 33)).alloc (.cells #[.int .i64 0, .int .i64 0] 42)).cell? ⟨w.heap.size, 0, none⟩ = _
    rw [cell_of_row _ _ 0 cs 33 (0, 0) g1, hx]; exact hp.c0
  have HS := Aside0.mk hs
  rw [← hx, ← hs] at hw1 HP
  clear g1 g2 b1 hp hs hx
  go_enter Try.func20, Try.ntmps20
  go_wp2_with fail
  refine wp_region_held_drew (S := fun w' => w'.cell? ⟨w.heap.size, 0, none⟩ = some (.int .i64 x)) (by kernel_rfl) x0 (fun hW => ?_)
  have HB2 := Aside0.mk (show Below w.heap.size w ((w.alloc (.cells cs 33)).alloc (.cells #[.int .i64 0, .int .i64 0] 42)).drew from HB.out.trans (below_drew (Below.refl _ _)))
  have HG3 := Aside0.mk (show ((w.alloc (.cells cs 33)).alloc (.cells #[.int .i64 0, .int .i64 0] 42)).drew.heap[w.heap.size]? = some (.cells cs 33 (0, 0)) from HG1.out)
  have HG4 := Aside0.mk (show ((w.alloc (.cells cs 33)).alloc (.cells #[.int .i64 0, .int .i64 0] 42)).drew.heap[w.heap.size + 1]? = some (.cells #[.int .i64 0, .int .i64 0] 42 (0, 0)) from HG2.out)
  clear HB HG1 HG2 x0
  generalize hWd : ((w.alloc (.cells cs 33)).alloc (.cells #[.int .i64 0, .int .i64 0] 42)).drew = Wd at *
  clear hWd
  refine wpAnyH_take (i := 0) (oi := ⟨some 3, _, _, _, _, _⟩) (v := .pointer (some ⟨w.heap.size, 0, none⟩)) rfl (by kernel_rfl) (by kernel_rfl) (by kernel_rfl) (fun _ _ _ h => h) (.inl ⟨by rfl, fun W1 h1 => by go_simp⟩) hW ?_
  try simp only [Act.put, List.setIfInBounds_toArray, List.set_cons_zero, List.set_cons_succ]
  refine wpAnyH_take (i := 1) (oi := ⟨some 4, _, _, _, _, _⟩) (v := .int .i64 x) rfl (by kernel_rfl) (by kernel_rfl) (by kernel_rfl) (fun _ _ _ h => h) (.inl ⟨by rfl, fun W1 h1 => by have h2 : W1.cell? ⟨w.heap.size, 0, none⟩ = some (.int .i64 x) := h1; clear h1; go_simp⟩) hW ?_
  try simp only [Act.put, List.setIfInBounds_toArray, List.set_cons_zero, List.set_cons_succ]
  refine wpAnyH_take (i := 2) (oi := ⟨some 5, _, _, _, _, _⟩) (v := .pointer (some ⟨w.heap.size, 0, none⟩)) rfl (by kernel_rfl) (by kernel_rfl) (by kernel_rfl) (fun _ _ _ h => h) (.inl ⟨by rfl, fun W1 h1 => by go_simp⟩) hW ?_
  try simp only [Act.put, List.setIfInBounds_toArray, List.set_cons_zero, List.set_cons_succ]
  refine wpAnyH_take (i := 3) (oi := ⟨some 6, _, _, _, _, _⟩) (v := .int .i64 x) rfl (by kernel_rfl) (by kernel_rfl) (by kernel_rfl) (fun _ _ _ h => h) (.inl ⟨by rfl, fun W1 h1 => by have h2 : W1.cell? ⟨w.heap.size, 0, none⟩ = some (.int .i64 x) := h1; clear h1; go_simp⟩) hW ?_
  try simp only [Act.put, List.setIfInBounds_toArray, List.set_cons_zero, List.set_cons_succ]
  refine wpAnyH_ready (rs := [4]) (by kernel_rfl) (by simp) (AllReadyH.cons rfl (fun K1 hK1 => ?_) AllReadyH.nil)
  refine wp_load_row (o := ⟨some 7, _, _, _, _, _⟩) 33 (.tmp 1) rfl w.heap.size rfl 33 cs (0, 0) _ HG3.out underl56 rfl (by rw [i33, HPC.out.size]) ?_
  refine hK1.out _ _ hW (fun hW => ?_)
  try simp only [Act.put, List.setIfInBounds_toArray, List.set_cons_zero, List.set_cons_succ]
  refine wpAnyH_ready (rs := [5]) (by kernel_rfl) (by simp) (AllReadyH.cons rfl (fun K2 hK2 => ?_) AllReadyH.nil)
  go_simp
  refine (sectors_calls cs p HPC.out Wd).mono ?_
  rintro e W3 ⟨he, hb3⟩
  rw [← HS.out] at he
  subst he
  have HB3 := Aside0.mk (HB2.out.trans (hb3.mono HB2.out.size))
  have HG5 := Aside0.mk (blk_below HG4.out hb3)
  have hlt : w.heap.size < Wd.heap.size := blk_lt HG3.out
  have g0 : W3.cell? ⟨w.heap.size, 0, none⟩ = some (.int .i64 x) := (Below.cell (p := ⟨w.heap.size, 0, none⟩) hb3 hlt).trans hW
  refine hK2.out _ _ g0 (fun hW => ?_)
  try simp only [Act.put, List.setIfInBounds_toArray, List.set_cons_zero, List.set_cons_succ]
  clear hb3
  refine wpAnyH_take (i := 6) (oi := ⟨some 9, _, _, _, _, _⟩) (v := .int .i64 (x + s)) rfl (by kernel_rfl) (by kernel_rfl) (by kernel_rfl) (fun _ _ _ h => h) (.inl ⟨by rfl, fun W1 h1 => by go_simp⟩) hW ?_
  try simp only [Act.put, List.setIfInBounds_toArray, List.set_cons_zero, List.set_cons_succ]
  refine wpAnyH_take (i := 7) (oi := ⟨some 10, _, _, _, _, _⟩) (v := .agg #[.int .i64 x, .int .i64 (x + s)]) rfl (by kernel_rfl) (by kernel_rfl) (by kernel_rfl) (fun _ _ _ h => h) (.inl ⟨by rfl, fun W1 h1 => by go_simp⟩) hW ?_
  try simp only [Act.put, List.setIfInBounds_toArray, List.set_cons_zero, List.set_cons_succ]
  have hc : (W3.setRow (w.heap.size + 1) #[.int .i64 x, .int .i64 (x + s)]).cell? ⟨w.heap.size, 0, none⟩ = some (.int .i64 x) := by
    rw [← g0]
    simp only [World.cell?]
    rw [setRow_other _ _ _ _ (by omega)]
  refine wpAnyH_ready (rs := [8]) (by kernel_rfl) (by simp) (AllReadyH.cons rfl (fun K3 hK3 => ?_) AllReadyH.nil)
  refine wp_store_row (o := ⟨none, _, _, _, _, _⟩) 42 (.tmp 2) (.tmp 10) rfl (w.heap.size + 1) #[.int .i64 x, .int .i64 (x + s)] rfl rfl 42 #[.int .i64 0, .int .i64 0] HG5.out inf42 rfl (by first | rfl | simp [Value.oneCell'] | kernel_rfl) ?_
  refine hK3.out _ _ hc (fun hW => ?_)
  try simp only [Act.put, List.setIfInBounds_toArray, List.set_cons_zero, List.set_cons_succ]
  refine wpAnyH_done (by kernel_rfl) ?_ _
  clear hK1 K1 hK2 K2 hK3 K3
  go_wp2_with fail
  refine bodyPost_ret (CrcC.res_c (p := 2) _ rfl rfl (setRow_heap _ (w.heap.size + 1) #[.int .i64 0, .int .i64 0] #[.int .i64 x, .int .i64 (x + s)] 42 _ HG5.out) Try.underlying42 rfl inf42) rfl ?_
  rw [HP.out]
  exact ⟨rfl, below_setRow HB3.out (by omega) _⟩
end Go.Proofs.Ytchhdafgmifhdaa.SpnA
namespace Go.Proofs.Ytchhdafgmifhdaa.BlkA
open Go.RowKit Go.Proofs.Ytchhdafgmifhdaa.B8 Go.Proofs.Ytchhdafgmifhdaa.Agg Go.Proofs.Ytchhdafgmifhdaa.CodL Go.Proofs.Ytchhdafgmifhdaa.CodA Go.Proofs.Ytchhdafgmifhdaa.CodB Go.Proofs.Ytchhdafgmifhdaa.CrcL Go.Proofs.Ytchhdafgmifhdaa.CrcA Go.Proofs.Ytchhdafgmifhdaa.CrcB Go.Proofs.Ytchhdafgmifhdaa.PCowLays Go.Proofs.YtchhdafgmifhdaaW.PrintWords Go.Proofs.YtchhdafgmifhdaaW.PrintLast Go.Proofs.YtchhdafgmifhdaaW.PrintMore Go.Proofs.Ytchhdafgmifhdaa.CatL Go.Proofs.Ytchhdafgmifhdaa.PtrA Go.Proofs.Ytchhdafgmifhdaa.PtrB Go.Proofs.Ytchhdafgmifhdaa.PtrE Go.Proofs.Ytchhdafgmifhdaa.OfA Go.Proofs.Ytchhdafgmifhdaa.ExtA Go.Proofs.Ytchhdafgmifhdaa.DskA Go.Proofs.Ytchhdafgmifhdaa.DskB Go.Proofs.Ytchhdafgmifhdaa.DskC
set_option linter.unusedVariables false
set_option linter.unusedSimpArgs false
set_option maxRecDepth 100000 in
set_option maxHeartbeats 4000000 in
theorem check28 (d N m : Nat) (cs : Array Value) (p : Ptr) (hp : PC cs p) (hR : Right p) (hN : p.at_ + sect p.len ≤ N) (w : World) (hd : DB w d N m) :
    Calls Try.prog 28 #[.pointer (some ⟨d, 0, none⟩), .agg cs] w fun e w' => e = .returned (.int .i64 0) ∧ Below w.heap.size w w' := by
  obtain ⟨P, hP⟩ : ∃ P : Ending → World → Prop, P = fun e w' => e = .returned (.int .i64 0) ∧ Below w.heap.size w w' := ⟨_, rfl⟩
  rw [← hP]
  have HP := Aside0.mk hP
  clear hP
  have hb := hR.bounds
  have hsb := sect_bound p.len
  have b1 := below_alloc (Below.refl w.heap.size w) (.cells cs 33)
  have HB := Aside0.mk b1
  have HD := Aside0.mk (hd.below b1)
  have HG := Aside0.mk (blk_new w (.cells cs 33))
  have HPC := Aside0.mk hp
  have HRT := Aside0.mk (rightB_yes hR)
  have hN0 : ((N : Int) == 0) = false := by rw [beq_eq_false_iff_ne]; have := hR.2.2.1; have := hR.2.2.2.1; omega
  obtain ⟨x, hx⟩ : ∃ x, x = p.at_ := ⟨_, rfl⟩
  obtain ⟨s, hs⟩ : ∃ s, s = sect p.len := ⟨_, rfl⟩
  have HX := Aside0.mk hx
  have HS := Aside0.mk hs
  have hw1 : IntKind.i64.wrap (x + s) = x + s := i64_small (by omega) (by omega)
  have d1 : decide (x + s > (N : Int)) = false := decide_eq_false (by omega)
  have d1' : decide ((N : Int) < x + s) = false := decide_eq_false (by omega)
  clear hp hR hx hs b1 hd hb hsb hN
  go_enter Try.func28, Try.ntmps28
  go_wp2_with fail
  generalize hW1 : w.alloc (.cells cs 33) = W1 at *
  clear hW1
  refine (len23 d N m W1 HD.out).mono ?_
  rintro e W2 ⟨rfl, hb2⟩
  have HB2 := Aside0.mk (HB.out.trans (hb2.mono HB.out.size))
  have HD2 := Aside0.mk (HD.out.below hb2)
  have hg2 := blk_below HG.out hb2
  have hgl : w.heap.size < W2.heap.size := blk_lt hg2
  have HG2 := Aside0.mk hg2
  have X0 := Aside0.mk (show W2.cell? ⟨w.heap.size, 0, none⟩ = some (.int .i64 x) by rw [cell_of_row _ _ 0 cs 33 (0, 0) hg2, HX.out]; exact HPC.out.c0)
  clear hb2 hg2
  go_wp2_with fail
  refine wp_region_held_drew (S := fun w' => Below W2.heap.size W2 w') (by kernel_rfl) (below_drew (Below.refl _ _)) (fun hW => ?_)
  generalize hWd : W2.drew = Wd at *
  clear hWd
  refine wpAnyH_ready (rs := [0]) (by kernel_rfl) (by simp) (AllReadyH.cons rfl (fun K1 hK1 => ?_) AllReadyH.nil)
  refine wp_load_row (o := ⟨some 10, _, _, _, _, _⟩) 33 (.tmp 3) rfl w.heap.size rfl 33 cs (0, 0) _ (blk_below HG2.out hW) underl56 rfl (by rw [i33, HPC.out.size]) ?_
  refine hK1.out _ _ hW (fun hW => ?_)
  try simp only [Act.put, List.setIfInBounds_toArray, List.set_cons_zero, List.set_cons_succ]
  refine wpAnyH_ready (rs := [1]) (by kernel_rfl) (by simp) (AllReadyH.cons rfl (fun K2 hK2 => ?_) AllReadyH.nil)
  go_simp
  refine (right_calls cs p HPC.out _).mono ?_
  rintro e w2 ⟨he, hb2⟩
  rw [HRT.out] at he
  subst he
  refine hK2.out _ _ (hW.trans (hb2.mono hW.size)) (fun hW => ?_)
  clear hb2
  try simp only [Act.put, List.setIfInBounds_toArray, List.set_cons_zero, List.set_cons_succ]
  refine wpAnyH_take (i := 2) (oi := ⟨some 12, _, _, _, _, _⟩) (v := .bool false) rfl (by kernel_rfl) (by kernel_rfl) (by kernel_rfl) (fun _ _ _ h => h) (.inl ⟨by rfl, fun W1 h1 => by go_simp⟩) hW ?_
  try simp only [Act.put, List.setIfInBounds_toArray, List.set_cons_zero, List.set_cons_succ]
  refine wpAnyH_take (i := 3) (oi := ⟨some 13, _, _, _, _, _⟩) (v := .bool false) rfl (by kernel_rfl) (by kernel_rfl) (by kernel_rfl) (fun _ _ _ h => h) (.inl ⟨by rfl, fun W1 h1 => by go_simp⟩) hW ?_
  try simp only [Act.put, List.setIfInBounds_toArray, List.set_cons_zero, List.set_cons_succ]
  refine wpAnyH_take (i := 4) (oi := ⟨some 14, _, _, _, _, _⟩) (v := .pointer (some ⟨w.heap.size, 0, none⟩)) rfl (by kernel_rfl) (by kernel_rfl) (by kernel_rfl) (fun _ _ _ h => h) (.inl ⟨by rfl, fun W1 h1 => by go_simp⟩) hW ?_
  try simp only [Act.put, List.setIfInBounds_toArray, List.set_cons_zero, List.set_cons_succ]
  refine wpAnyH_take (i := 5) (oi := ⟨some 15, _, _, _, _, _⟩) (v := .int .i64 x) rfl (by kernel_rfl) (by kernel_rfl) (by kernel_rfl) (fun _ _ _ h => h) (.inl ⟨by rfl, fun W1 h1 => by have h2 := (Below.cell (p := ⟨w.heap.size, 0, none⟩) h1 hgl).trans X0.out; clear h1; go_simp⟩) hW ?_
  try simp only [Act.put, List.setIfInBounds_toArray, List.set_cons_zero, List.set_cons_succ]
  refine wpAnyH_take (i := 9) (oi := ⟨some 19, _, _, _, _, _⟩) (v := .pointer (some ⟨d, 0, none⟩)) rfl (by kernel_rfl) (by kernel_rfl) (by kernel_rfl) (fun _ _ _ h => h) (.inl ⟨by rfl, fun W1 h1 => by go_simp⟩) hW ?_
  try simp only [Act.put, List.setIfInBounds_toArray, List.set_cons_zero, List.set_cons_succ]
  refine wpAnyH_ready (rs := [6]) (by kernel_rfl) (by simp) (AllReadyH.cons rfl (fun K3 hK3 => ?_) AllReadyH.nil)
  refine wp_load_row (o := ⟨some 16, _, _, _, _, _⟩) 33 (.tmp 3) rfl w.heap.size rfl 33 cs (0, 0) _ (blk_below HG2.out hW) underl56 rfl (by rw [i33, HPC.out.size]) ?_
  refine hK3.out _ _ hW (fun hW => ?_)
  try simp only [Act.put, List.setIfInBounds_toArray, List.set_cons_zero, List.set_cons_succ]
  refine wpAnyH_ready (rs := [7]) (by kernel_rfl) (by simp) (AllReadyH.cons rfl (fun K4 hK4 => ?_) AllReadyH.nil)
  go_simp
  refine (sectors_calls cs p HPC.out _).mono ?_
  rintro e w4 ⟨he, hb4⟩
  rw [← HS.out] at he
  subst he
  refine hK4.out _ _ (hW.trans (hb4.mono hW.size)) (fun hW => ?_)
  clear hb4
  try simp only [Act.put, List.setIfInBounds_toArray, List.set_cons_zero, List.set_cons_succ]
  refine wpAnyH_take (i := 8) (oi := ⟨some 18, _, _, _, _, _⟩) (v := .int .i64 (x + s)) rfl (by kernel_rfl) (by kernel_rfl) (by kernel_rfl) (fun _ _ _ h => h) (.inl ⟨by rfl, fun W1 h1 => by go_simp⟩) hW ?_
  try simp only [Act.put, List.setIfInBounds_toArray, List.set_cons_zero, List.set_cons_succ]
  refine wpAnyH_ready (rs := [10]) (by kernel_rfl) (by simp) (AllReadyH.cons rfl (fun K5 hK5 => ?_) AllReadyH.nil)
  go_simp
  refine (len23 d N m _ (HD2.out.below hW)).mono ?_
  rintro e w5 ⟨he, hb5⟩
  subst he
  refine hK5.out _ _ (hW.trans (hb5.mono hW.size)) (fun hW => ?_)
  clear hb5
  try simp only [Act.put, List.setIfInBounds_toArray, List.set_cons_zero, List.set_cons_succ]
  refine wpAnyH_take (i := 11) (oi := ⟨some 21, _, _, _, _, _⟩) (v := .bool false) rfl (by kernel_rfl) (by kernel_rfl) (by kernel_rfl) (fun _ _ _ h => h) (.inl ⟨by rfl, fun W1 h1 => by go_simp⟩) hW ?_
  try simp only [Act.put, List.setIfInBounds_toArray, List.set_cons_zero, List.set_cons_succ]
  refine wpAnyH_take (i := 12) (oi := ⟨some 22, _, _, _, _, _⟩) (v := .bool false) rfl (by kernel_rfl) (by kernel_rfl) (by kernel_rfl) (fun _ _ _ h => h) (.inl ⟨by rfl, fun W1 h1 => by go_simp⟩) hW ?_
  try simp only [Act.put, List.setIfInBounds_toArray, List.set_cons_zero, List.set_cons_succ]
  refine wpAnyH_take (i := 13) (oi := ⟨some 9, _, _, _, _, _⟩) (v := .bool false) rfl (by kernel_rfl) (by kernel_rfl) (by kernel_rfl) (fun _ _ _ h => h) (.inl ⟨by rfl, fun W1 h1 => by go_simp⟩) hW ?_
  try simp only [Act.put, List.setIfInBounds_toArray, List.set_cons_zero, List.set_cons_succ]
  refine wpAnyH_done (by kernel_rfl) ?_ _
  clear hK1 K1 hK2 K2 hK3 K3 hK4 K4 hK5 K5
  have HB5 := Aside0.mk (HB2.out.trans (hW.mono HB2.out.size))
  clear hW
  go_wp2
  rw [HP.out]
  exact ⟨rfl, HB5.out⟩
end Go.Proofs.Ytchhdafgmifhdaa.BlkA
namespace Go.Proofs.Ytchhdafgmifhdaa.PoolA
open Go.RowKit Go.Proofs.Ytchhdafgmifhdaa.B8 Go.Proofs.Ytchhdafgmifhdaa.Agg Go.Proofs.Ytchhdafgmifhdaa.CodL Go.Proofs.Ytchhdafgmifhdaa.CodA Go.Proofs.Ytchhdafgmifhdaa.CodB Go.Proofs.Ytchhdafgmifhdaa.CrcL Go.Proofs.Ytchhdafgmifhdaa.CrcA Go.Proofs.Ytchhdafgmifhdaa.CrcB Go.Proofs.Ytchhdafgmifhdaa.PCowLays Go.Proofs.YtchhdafgmifhdaaW.PrintWords Go.Proofs.YtchhdafgmifhdaaW.PrintLast Go.Proofs.YtchhdafgmifhdaaW.PrintMore Go.Proofs.Ytchhdafgmifhdaa.CatL Go.Proofs.Ytchhdafgmifhdaa.PtrA Go.Proofs.Ytchhdafgmifhdaa.PtrB Go.Proofs.Ytchhdafgmifhdaa.PtrE Go.Proofs.Ytchhdafgmifhdaa.OfA Go.Proofs.Ytchhdafgmifhdaa.ExtL Go.Proofs.Ytchhdafgmifhdaa.ExtA Go.Proofs.Ytchhdafgmifhdaa.DskA Go.Proofs.Ytchhdafgmifhdaa.DskB Go.Proofs.Ytchhdafgmifhdaa.DskC Go.Proofs.Ytchhdafgmifhdaa.AlcA Go.Proofs.Ytchhdafgmifhdaa.AlcB Go.Proofs.Ytchhdafgmifhdaa.AlcC Go.Proofs.Ytchhdafgmifhdaa.AlcD Go.Proofs.Ytchhdafgmifhdaa.AlcE Go.Proofs.Ytchhdafgmifhdaa.AlcF Go.Proofs.Ytchhdafgmifhdaa.SpnA Go.Proofs.Ytchhdafgmifhdaa.BlkA
set_option linter.unusedVariables false
set_option linter.unusedSimpArgs false
/-- A pool: its block, its disk, its allocator. -/
structure PO (W : World) (p d m a mw N : Nat) (fr tu rs : Int) (l : List Sp) (ep : Int) (kv : Value) : Prop where
  blk : W.heap[p]? = some (.cells #[.pointer (some ⟨d, 0, none⟩), .pointer (some ⟨a, 0, none⟩), .int .i64 ep, .bool false, kv] 29 (0, 0))
  disk : DB W d N m
  map : MI W m
  alc : AB W a mw fr tu rs l
  ne : m ≠ mw
theorem PO.below {W W2 : World} {p d m a mw N : Nat} {fr tu rs : Int} {l : List Sp} {ep : Int} {kv : Value} (h : PO W p d m a mw N fr tu rs l ep kv) (hb : Below W.heap.size W W2) : PO W2 p d m a mw N fr tu rs l ep kv :=
  ⟨blk_below h.blk hb, h.disk.below hb, h.map.below hb, h.alc.below hb, h.ne⟩
theorem PO.lt {W : World} {p d m a mw N : Nat} {fr tu rs : Int} {l : List Sp} {ep : Int} {kv : Value} (h : PO W p d m a mw N fr tu rs l ep kv) : p < W.heap.size := blk_lt h.blk
set_option maxRecDepth 100000 in
set_option maxHeartbeats 4000000 in
theorem ready12 (p d m a mw N : Nat) (fr tu rs : Int) (l : List Sp) (ep : Int) (kv : Value) (w : World) (h : PO w p d m a mw N fr tu rs l ep kv) (hN : 0 < N) (htu : fr < tu) :
    Calls Try.prog 12 #[.pointer (some ⟨p, 0, none⟩)] w (fun e w' => e = .returned (.int .i64 0) ∧ Below w.heap.size w w') := by
  obtain ⟨P, hP⟩ : ∃ P : Ending → World → Prop, P = fun e w' => e = .returned (.int .i64 0) ∧ Below w.heap.size w w' := ⟨_, rfl⟩
  rw [← hP]
  have HP := Aside0.mk hP
  clear hP
  have H := Aside0.mk h
  have hp := h.lt
  have C0 := Aside0.mk (show w.cell? ⟨p, 0, none⟩ = some (.pointer (some ⟨d, 0, none⟩)) by rw [cell_of_row _ _ 0 _ 29 (0, 0) h.blk]; rfl)
  have C1 := Aside0.mk (show w.cell? ⟨p, 1, none⟩ = some (.pointer (some ⟨a, 0, none⟩)) by rw [cell_of_row _ _ 1 _ 29 (0, 0) h.blk]; rfl)
  have hN0 : ((N : Int) == 0) = false := by rw [beq_eq_false_iff_ne]; omega
  obtain ⟨n1, n2, n3, n4, n5, n6, n7⟩ := h.alc.num
  obtain ⟨t, ht⟩ : ∃ t, t = total l := ⟨_, rfl⟩
  have HT := Aside0.mk ht
  rw [← ht] at n6 n7
  have w1 : IntKind.i64.wrap (t + (tu - fr - t)) = tu - fr := by rw [i64_small (by omega) (by omega)]; omega
  have w2 : IntKind.i64.wrap (tu - fr + 0) = tu - fr := by rw [i64_small (by omega) (by omega)]; omega
  have w3 : IntKind.i64.wrap (tu - fr) = tu - fr := by rw [i64_small (by omega) (by omega)]
  have hE : ((tu - fr) == 0) = false := by rw [beq_eq_false_iff_ne]; omega
  clear h ht hN
  go_enter Try.func12, Try.ntmps12
  go_wp2_with fail
  refine wp_region_held_drew (S := fun w' => Below w.heap.size w w') (by kernel_rfl) (below_drew (Below.refl _ _)) (fun hW => ?_)
  generalize hWd : w.drew = Wd at *
  clear hWd
  refine wpAnyH_take (i := 0) (oi := ⟨some 3, _, _, _, _, _⟩) (v := .pointer (some ⟨p, 0, none⟩)) rfl (by kernel_rfl) (by kernel_rfl) (by kernel_rfl) (fun _ _ _ h => h) (.inl ⟨by rfl, fun W1 h1 => by go_simp⟩) hW ?_
  try simp only [Act.put, List.setIfInBounds_toArray, List.set_cons_zero, List.set_cons_succ]
  refine wpAnyH_take (i := 1) (oi := ⟨some 4, _, _, _, _, _⟩) (v := .bool false) rfl (by kernel_rfl) (by kernel_rfl) (by kernel_rfl) (fun _ _ _ h => h) (.inl ⟨by rfl, fun W1 h1 => by go_simp⟩) hW ?_
  try simp only [Act.put, List.setIfInBounds_toArray, List.set_cons_zero, List.set_cons_succ]
  refine wpAnyH_take (i := 2) (oi := ⟨some 5, _, _, _, _, _⟩) (v := .bool false) rfl (by kernel_rfl) (by kernel_rfl) (by kernel_rfl) (fun _ _ _ h => h) (.inl ⟨by rfl, fun W1 h1 => by go_simp⟩) hW ?_
  try simp only [Act.put, List.setIfInBounds_toArray, List.set_cons_zero, List.set_cons_succ]
  refine wpAnyH_take (i := 3) (oi := ⟨some 6, _, _, _, _, _⟩) (v := .pointer (some ⟨p, 0, none⟩)) rfl (by kernel_rfl) (by kernel_rfl) (by kernel_rfl) (fun _ _ _ h => h) (.inl ⟨by rfl, fun W1 h1 => by go_simp⟩) hW ?_
  try simp only [Act.put, List.setIfInBounds_toArray, List.set_cons_zero, List.set_cons_succ]
  refine wpAnyH_take (i := 4) (oi := ⟨some 7, _, _, _, _, _⟩) (v := .pointer (some ⟨p, 0, none⟩)) rfl (by kernel_rfl) (by kernel_rfl) (by kernel_rfl) (fun _ _ _ h => h) (.inl ⟨by rfl, fun W1 h1 => by go_simp⟩) hW ?_
  try simp only [Act.put, List.setIfInBounds_toArray, List.set_cons_zero, List.set_cons_succ]
  refine wpAnyH_take (i := 5) (oi := ⟨some 8, _, _, _, _, _⟩) (v := .pointer (some ⟨p, 0, none⟩)) rfl (by kernel_rfl) (by kernel_rfl) (by kernel_rfl) (fun _ _ _ h => h) (.inl ⟨by rfl, fun W1 h1 => by go_simp⟩) hW ?_
  try simp only [Act.put, List.setIfInBounds_toArray, List.set_cons_zero, List.set_cons_succ]
  refine wpAnyH_take (i := 6) (oi := ⟨some 9, _, _, _, _, _⟩) (v := .pointer (some ⟨d, 0, none⟩)) rfl (by kernel_rfl) (by kernel_rfl) (by kernel_rfl) (fun _ _ _ h => h) (.inl ⟨by rfl, fun W1 h1 => by have h2 := (Below.cell (p := ⟨p, 0, none⟩) h1 hp).trans C0.out; clear h1; go_simp⟩) hW ?_
  try simp only [Act.put, List.setIfInBounds_toArray, List.set_cons_zero, List.set_cons_succ]
  refine wpAnyH_ready (rs := [7]) (by kernel_rfl) (by simp) (AllReadyH.cons rfl (fun K1 hK1 => ?_) AllReadyH.nil)
  go_simp
  refine (len23 d N m _ (H.out.disk.below hW)).mono ?_
  rintro e WT ⟨rfl, hb⟩
  refine hK1.out _ _ (hW.trans (hb.mono hW.size)) (fun hW => ?_)
  try simp only [Act.put, List.setIfInBounds_toArray, List.set_cons_zero, List.set_cons_succ]
  clear hb
  refine wpAnyH_take (i := 8) (oi := ⟨some 11, _, _, _, _, _⟩) (v := .bool false) rfl (by kernel_rfl) (by kernel_rfl) (by kernel_rfl) (fun _ _ _ h => h) (.inl ⟨by rfl, fun W1 h1 => by go_simp⟩) hW ?_
  try simp only [Act.put, List.setIfInBounds_toArray, List.set_cons_zero, List.set_cons_succ]
  refine wpAnyH_take (i := 9) (oi := ⟨some 12, _, _, _, _, _⟩) (v := .bool false) rfl (by kernel_rfl) (by kernel_rfl) (by kernel_rfl) (fun _ _ _ h => h) (.inl ⟨by rfl, fun W1 h1 => by go_simp⟩) hW ?_
  try simp only [Act.put, List.setIfInBounds_toArray, List.set_cons_zero, List.set_cons_succ]
  refine wpAnyH_take (i := 10) (oi := ⟨some 13, _, _, _, _, _⟩) (v := .bool false) rfl (by kernel_rfl) (by kernel_rfl) (by kernel_rfl) (fun _ _ _ h => h) (.inl ⟨by rfl, fun W1 h1 => by go_simp⟩) hW ?_
  try simp only [Act.put, List.setIfInBounds_toArray, List.set_cons_zero, List.set_cons_succ]
  refine wpAnyH_take (i := 11) (oi := ⟨some 14, _, _, _, _, _⟩) (v := .pointer (some ⟨p, 0, none⟩)) rfl (by kernel_rfl) (by kernel_rfl) (by kernel_rfl) (fun _ _ _ h => h) (.inl ⟨by rfl, fun W1 h1 => by go_simp⟩) hW ?_
  try simp only [Act.put, List.setIfInBounds_toArray, List.set_cons_zero, List.set_cons_succ]
  refine wpAnyH_take (i := 12) (oi := ⟨some 15, _, _, _, _, _⟩) (v := .pointer (some ⟨p, 0, none⟩)) rfl (by kernel_rfl) (by kernel_rfl) (by kernel_rfl) (fun _ _ _ h => h) (.inl ⟨by rfl, fun W1 h1 => by go_simp⟩) hW ?_
  try simp only [Act.put, List.setIfInBounds_toArray, List.set_cons_zero, List.set_cons_succ]
  refine wpAnyH_take (i := 13) (oi := ⟨some 16, _, _, _, _, _⟩) (v := .pointer (some ⟨p, 1, none⟩)) rfl (by kernel_rfl) (by kernel_rfl) (by kernel_rfl) (fun _ _ _ h => h) (.inl ⟨by rfl, fun W1 h1 => by go_simp⟩) hW ?_
  try simp only [Act.put, List.setIfInBounds_toArray, List.set_cons_zero, List.set_cons_succ]
  refine wpAnyH_take (i := 14) (oi := ⟨some 17, _, _, _, _, _⟩) (v := .pointer (some ⟨a, 0, none⟩)) rfl (by kernel_rfl) (by kernel_rfl) (by kernel_rfl) (fun _ _ _ h => h) (.inl ⟨by rfl, fun W1 h1 => by have h2 := (Below.cell (p := ⟨p, 1, none⟩) h1 hp).trans C1.out; clear h1; go_simp⟩) hW ?_
  try simp only [Act.put, List.setIfInBounds_toArray, List.set_cons_zero, List.set_cons_succ]
  refine wpAnyH_take (i := 16) (oi := ⟨some 19, _, _, _, _, _⟩) (v := .pointer (some ⟨p, 0, none⟩)) rfl (by kernel_rfl) (by kernel_rfl) (by kernel_rfl) (fun _ _ _ h => h) (.inl ⟨by rfl, fun W1 h1 => by go_simp⟩) hW ?_
  try simp only [Act.put, List.setIfInBounds_toArray, List.set_cons_zero, List.set_cons_succ]
  refine wpAnyH_take (i := 17) (oi := ⟨some 20, _, _, _, _, _⟩) (v := .pointer (some ⟨p, 0, none⟩)) rfl (by kernel_rfl) (by kernel_rfl) (by kernel_rfl) (fun _ _ _ h => h) (.inl ⟨by rfl, fun W1 h1 => by go_simp⟩) hW ?_
  try simp only [Act.put, List.setIfInBounds_toArray, List.set_cons_zero, List.set_cons_succ]
  refine wpAnyH_take (i := 18) (oi := ⟨some 21, _, _, _, _, _⟩) (v := .pointer (some ⟨p, 1, none⟩)) rfl (by kernel_rfl) (by kernel_rfl) (by kernel_rfl) (fun _ _ _ h => h) (.inl ⟨by rfl, fun W1 h1 => by go_simp⟩) hW ?_
  try simp only [Act.put, List.setIfInBounds_toArray, List.set_cons_zero, List.set_cons_succ]
  refine wpAnyH_take (i := 19) (oi := ⟨some 22, _, _, _, _, _⟩) (v := .pointer (some ⟨a, 0, none⟩)) rfl (by kernel_rfl) (by kernel_rfl) (by kernel_rfl) (fun _ _ _ h => h) (.inl ⟨by rfl, fun W1 h1 => by have h2 := (Below.cell (p := ⟨p, 1, none⟩) h1 hp).trans C1.out; clear h1; go_simp⟩) hW ?_
  try simp only [Act.put, List.setIfInBounds_toArray, List.set_cons_zero, List.set_cons_succ]
  refine wpAnyH_take (i := 22) (oi := ⟨some 25, _, _, _, _, _⟩) (v := .pointer (some ⟨p, 0, none⟩)) rfl (by kernel_rfl) (by kernel_rfl) (by kernel_rfl) (fun _ _ _ h => h) (.inl ⟨by rfl, fun W1 h1 => by go_simp⟩) hW ?_
  try simp only [Act.put, List.setIfInBounds_toArray, List.set_cons_zero, List.set_cons_succ]
  refine wpAnyH_take (i := 23) (oi := ⟨some 26, _, _, _, _, _⟩) (v := .pointer (some ⟨p, 0, none⟩)) rfl (by kernel_rfl) (by kernel_rfl) (by kernel_rfl) (fun _ _ _ h => h) (.inl ⟨by rfl, fun W1 h1 => by go_simp⟩) hW ?_
  try simp only [Act.put, List.setIfInBounds_toArray, List.set_cons_zero, List.set_cons_succ]
  refine wpAnyH_take (i := 24) (oi := ⟨some 27, _, _, _, _, _⟩) (v := .pointer (some ⟨p, 1, none⟩)) rfl (by kernel_rfl) (by kernel_rfl) (by kernel_rfl) (fun _ _ _ h => h) (.inl ⟨by rfl, fun W1 h1 => by go_simp⟩) hW ?_
  try simp only [Act.put, List.setIfInBounds_toArray, List.set_cons_zero, List.set_cons_succ]
  refine wpAnyH_take (i := 25) (oi := ⟨some 28, _, _, _, _, _⟩) (v := .pointer (some ⟨a, 0, none⟩)) rfl (by kernel_rfl) (by kernel_rfl) (by kernel_rfl) (fun _ _ _ h => h) (.inl ⟨by rfl, fun W1 h1 => by have h2 := (Below.cell (p := ⟨p, 1, none⟩) h1 hp).trans C1.out; clear h1; go_simp⟩) hW ?_
  try simp only [Act.put, List.setIfInBounds_toArray, List.set_cons_zero, List.set_cons_succ]
  refine wpAnyH_ready (rs := [15]) (by kernel_rfl) (by simp) (AllReadyH.cons rfl (fun K2 hK2 => ?_) AllReadyH.nil)
  go_simp
  refine (free18 a mw fr tu rs l _ (H.out.alc.below hW)).mono ?_
  rintro e WT ⟨he, hb⟩
  rw [← HT.out] at he
  subst he
  refine hK2.out _ _ (hW.trans (hb.mono hW.size)) (fun hW => ?_)
  try simp only [Act.put, List.setIfInBounds_toArray, List.set_cons_zero, List.set_cons_succ]
  clear hb
  refine wpAnyH_ready (rs := [20]) (by kernel_rfl) (by simp) (AllReadyH.cons rfl (fun K3 hK3 => ?_) AllReadyH.nil)
  go_simp
  refine (used6 a mw fr tu rs l _ (H.out.alc.below hW)).mono ?_
  rintro e WT ⟨he, hb⟩
  rw [← HT.out] at he
  subst he
  refine hK3.out _ _ (hW.trans (hb.mono hW.size)) (fun hW => ?_)
  try simp only [Act.put, List.setIfInBounds_toArray, List.set_cons_zero, List.set_cons_succ]
  clear hb
  refine wpAnyH_take (i := 21) (oi := ⟨some 24, _, _, _, _, _⟩) (v := .int .i64 (tu - fr)) rfl (by kernel_rfl) (by kernel_rfl) (by kernel_rfl) (fun _ _ _ h => h) (.inl ⟨by rfl, fun W1 h1 => by go_simp⟩) hW ?_
  try simp only [Act.put, List.setIfInBounds_toArray, List.set_cons_zero, List.set_cons_succ]
  refine wpAnyH_ready (rs := [26]) (by kernel_rfl) (by simp) (AllReadyH.cons rfl (fun K4 hK4 => ?_) AllReadyH.nil)
  go_simp
  refine (waiting19 a mw fr tu rs l _ (H.out.alc.below hW)).mono ?_
  rintro e WT ⟨rfl, hb⟩
  refine hK4.out _ _ (hW.trans (hb.mono hW.size)) (fun hW => ?_)
  try simp only [Act.put, List.setIfInBounds_toArray, List.set_cons_zero, List.set_cons_succ]
  clear hb
  refine wpAnyH_take (i := 27) (oi := ⟨some 30, _, _, _, _, _⟩) (v := .int .i64 (tu - fr)) rfl (by kernel_rfl) (by kernel_rfl) (by kernel_rfl) (fun _ _ _ h => h) (.inl ⟨by rfl, fun W1 h1 => by go_simp⟩) hW ?_
  try simp only [Act.put, List.setIfInBounds_toArray, List.set_cons_zero, List.set_cons_succ]
  refine wpAnyH_take (i := 28) (oi := ⟨some 31, _, _, _, _, _⟩) (v := .bool false) rfl (by kernel_rfl) (by kernel_rfl) (by kernel_rfl) (fun _ _ _ h => h) (.inl ⟨by rfl, fun W1 h1 => by go_simp⟩) hW ?_
  try simp only [Act.put, List.setIfInBounds_toArray, List.set_cons_zero, List.set_cons_succ]
  refine wpAnyH_take (i := 29) (oi := ⟨some 32, _, _, _, _, _⟩) (v := .bool false) rfl (by kernel_rfl) (by kernel_rfl) (by kernel_rfl) (fun _ _ _ h => h) (.inl ⟨by rfl, fun W1 h1 => by go_simp⟩) hW ?_
  try simp only [Act.put, List.setIfInBounds_toArray, List.set_cons_zero, List.set_cons_succ]
  refine wpAnyH_done (by kernel_rfl) ?_ _
  clear hK1 hK2 hK3 hK4 K1 K2 K3 K4
  have HB := Aside0.mk hW
  clear hW
  go_wp2
  rw [HP.out]
  exact ⟨rfl, HB.out⟩
end Go.Proofs.Ytchhdafgmifhdaa.PoolA
namespace Go.Proofs.Ytchhdafgmifhdaa.BlkB
open Go.RowKit Go.Proofs.Ytchhdafgmifhdaa.B8 Go.Proofs.Ytchhdafgmifhdaa.Agg Go.Proofs.Ytchhdafgmifhdaa.CodL Go.Proofs.Ytchhdafgmifhdaa.CodA Go.Proofs.Ytchhdafgmifhdaa.CodB Go.Proofs.Ytchhdafgmifhdaa.CrcL Go.Proofs.Ytchhdafgmifhdaa.CrcA Go.Proofs.Ytchhdafgmifhdaa.CrcB Go.Proofs.Ytchhdafgmifhdaa.PCowLays Go.Proofs.YtchhdafgmifhdaaW.PrintWords Go.Proofs.YtchhdafgmifhdaaW.PrintLast Go.Proofs.YtchhdafgmifhdaaW.PrintMore Go.Proofs.Ytchhdafgmifhdaa.CatL Go.Proofs.Ytchhdafgmifhdaa.PtrA Go.Proofs.Ytchhdafgmifhdaa.PtrB Go.Proofs.Ytchhdafgmifhdaa.PtrE Go.Proofs.Ytchhdafgmifhdaa.OfA Go.Proofs.Ytchhdafgmifhdaa.ExtA Go.Proofs.Ytchhdafgmifhdaa.DskA Go.Proofs.Ytchhdafgmifhdaa.DskB Go.Proofs.Ytchhdafgmifhdaa.DskC Go.Proofs.Ytchhdafgmifhdaa.BlkA Go.Proofs.Ytchhdafgmifhdaa.ShaK
set_option linter.unusedVariables false
set_option linter.unusedSimpArgs false
attribute [local go_sem] max2_int min2_int max_two min_two
theorem cut8_mid3 (A : Option Addr) (n c : Nat) (lo hi : Nat) (h1 : lo < hi) (h2 : hi ≤ c) (W : World) : (Instr.slice 22 (.slice A n c) (some (.int .i64 (lo : Int))) (some (.int .i64 (hi : Int))) (some (.int .i64 (hi : Int)))).run Try.prog W = .ok (.slice (A.map (·.add lo)) (hi - lo) (hi - lo)) W := by
  obtain ⟨i0, hi', _, hs, _⟩ := info_parts info5
  have hel : Try.prog.elem 22 = 5 := by simp [Program.elem, Try.underlying22]
  have hu : Try.prog.underlying 22 = some (.slice (Try.prog.elem 22)) := by rw [hel]; exact Try.underlying22
  rw [run_slice_lhm W 22 A n c hu .i64 .i64 .i64 (lo : Int) (hi : Int) (hi : Int) (by omega) (by omega) (by omega) (by omega), hel]
  have hne : ¬ hi = lo := by omega
  simp [sizeOf, typeInfo, hi', hs, sliced, Result.andThen, hne]
theorem C8_mid {w : World} {A : Option Addr} {n c lo hi : Nat} {L : List Int} (h : C8 w A n L) (hnc : n ≤ c) (h1 : lo < hi) (h2 : hi ≤ n) : C8 w (A.map (·.add lo)) (hi - lo) ((L.drop lo).take (hi - lo)) := by
  have := C8_drop (j := lo) h hnc (by omega)
  rw [if_neg (by omega)] at this
  exact C_take this (by omega)
theorem built33b (a b c : Int) : Try.prog.built 33 [(0, .int .i64 a), (1, .int .i64 b), (2, .int .i64 c)] = some (encP ⟨a, b, c, 0, List.replicate 32 0⟩) := by kernel_rfl
theorem inf33b : ((Try.prog.info? 33).bind (·.zero)).bind (fun z => match z with | .agg cs => some (cs.size, cs.all (·.oneCell')) | _ => none) = some (36, true) := by kernel_rfl
theorem zero33 : ∃ z : Array Value, z.size = 36 ∧ z.all (·.oneCell') = true ∧ ∀ W, (zeroValue 33).run Try.prog W = .ok (.agg z) W := by
  have h := inf33b
  obtain ⟨z, hz, h2⟩ := Option.bind_eq_some_iff.1 h
  obtain ⟨i, hi, hz0⟩ := Option.bind_eq_some_iff.1 hz
  cases z with
  | agg cs =>
    simp only [Option.some.injEq, Prod.mk.injEq] at h2
    exact ⟨cs, h2.1, h2.2, fun W => by simp [zeroValue, typeInfo, hi, hz0, Result.andThen]⟩
  | _ => simp at h2
theorem kb_c8 {w W wr : World} {A : Option Addr} {n m : Nat} {L : List Int} (hr : ∀ W', Kept w W' (fun k => k = m) → C8 W' A n L) (hb : Below w.heap.size w W) (hk : KB W wr (fun k => k = m)) : C8 wr A n L :=
  hr wr ((Kept.of_below hb _).then_ hk.kept (fun k h => .inl h))
set_option maxRecDepth 100000 in
set_option maxHeartbeats 8000000 in
theorem write15 (d N m : Nat) (x b : Int) (A : Option Addr) (c n : Nat) (L : List Int) (w : World) (hd : DB w d N m) (hm : MI w m) (hr : ∀ W', Kept w W' (fun k => k = m) → C8 W' A n L) (hb : Byt L) (hnc : n ≤ c)
    (hR : Right ⟨x, b, (n : Int), 0, List.replicate 32 0⟩) (hN : x + sect (n : Int) ≤ N) :
    Calls Try.prog 15 #[.pointer (some ⟨d, 0, none⟩), .int .i64 x, .int .i64 b, .slice A n c] w (fun e w' => e = .returned (.tuple #[.agg (encP (ofP x b L)), .int .i64 0]) ∧ KB w w' (fun k => k = m) ∧ MI w' m) := by
  obtain ⟨P, hP⟩ : ∃ P : Ending → World → Prop, P = fun e w' => e = .returned (.tuple #[.agg (encP (ofP x b L)), .int .i64 0]) ∧ KB w w' (fun k => k = m) ∧ MI w' m := ⟨_, rfl⟩
  rw [← hP]
  have HP := Aside0.mk hP
  clear hP
  have hbd := hR.bounds
  have hsb := sect_bound (n : Int)
  have hs1 : 0 < sect (n : Int) := hR.2.2.1
  have hN0 : ((N : Int) == 0) = false := by rw [beq_eq_false_iff_ne]; have := hR.2.2.2.1; simp only at this; omega
  obtain ⟨z, hz, hz1, hal⟩ := zero33
  have HZS := Aside0.mk (And.intro hz hz1)
  have HAL := Aside0.mk hal
  have halw := hal w
  clear hal hz hz1
  have b1 := below_alloc (Below.refl w.heap.size w) (.cells z 33)
  have HB := Aside0.mk b1
  have HD := Aside0.mk (hd.below b1)
  have HM := Aside0.mk (hm.below b1)
  have HZ := Aside0.mk (blk_new w (.cells z 33))
  have hr0 := hr w (Kept.refl _ _)
  have HR := Aside0.mk (And.intro hr (And.intro hr0.1 hb))
  have HRT := Aside0.mk hR
  have HN := Aside0.mk hN
  obtain ⟨r, hrr⟩ : ∃ r, r = encP ⟨x, b, (n : Int), 0, List.replicate 32 0⟩ := ⟨_, rfl⟩
  have HBU := Aside0.mk (show Try.prog.built 33 [(0, .int .i64 x), (1, .int .i64 b), (2, .int .i64 (n : Int))] = some r by rw [built33b, hrr])
  have HRR := Aside0.mk (show PC r ⟨x, b, (n : Int), 0, List.replicate 32 0⟩ ∧ r.size = 36 ∧ r.all (·.oneCell') = true by rw [hrr]; exact ⟨pc _ (by simp), encP_size (by simp), encP_one _⟩)
  obtain ⟨s, hs⟩ : ∃ s : Nat, (s : Int) = sect (n : Int) := ⟨(sect (n : Int)).toNat, by omega⟩
  have HS := Aside0.mk hs
  have hsn : s = (n + 511) / 512 := by
    have : sect (n : Int) = ((n : Int) + 511) / 512 := by unfold sect; rw [if_neg (by simp only at hbd; omega)]
    omega
  have HSN := Aside0.mk (And.intro hsn (show 1 ≤ n ∧ n ≤ 65536 ∧ 0 ≤ x ∧ x < 8192 ∧ x + (s : Int) ≤ N by simp only at hbd; omega))
  clear hr hb hR hN hbd hsb hs1 hrr hd hm b1 hs hsn hr0
  go_enter Try.func15, Try.ntmps15
  go_wp2_with fail
  generalize hW0 : w.alloc (.cells z 33) = W0 at *
  clear hW0
  refine (len23 d N m W0 HD.out).mono ?_
  rintro e W1 ⟨rfl, hb2⟩
  have HB1 := Aside0.mk (HB.out.trans (hb2.mono HB.out.size))
  have HD1 := Aside0.mk (HD.out.below hb2)
  have HM1 := Aside0.mk (HM.out.below hb2)
  have HZ1 := Aside0.mk (blk_below HZ.out hb2)
  have HZ10 := Aside0.mk (blk_new W1 (.cells z 33))
  have hal1 := HAL.out W1
  have HG10 := Aside0.mk (setRow_heap (W1.alloc (.cells z 33)) W1.heap.size z r 33 _ HZ10.out)
  have hba := below_alloc (Below.refl W1.heap.size W1) (.cells z 33)
  have hbb : Below W1.heap.size W1 ((W1.alloc (.cells z 33)).setRow W1.heap.size r) := below_setRow hba (Nat.le_refl _) _
  have HB2 := Aside0.mk (HB1.out.trans (hbb.mono HB1.out.size))
  have HD2 := Aside0.mk (HD1.out.below hbb)
  have HM2 := Aside0.mk (HM1.out.below hbb)
  have HZ2 := Aside0.mk (blk_below HZ1.out hbb)
  clear hba hbb hb2 HB HD HM HZ halw
  go_wp2_with (first | (refine wpList_build_of rfl 33 #[(0, .tmp 20), (1, .tmp 21), (2, .tmp 23)] rfl r ?hb ?_; (case hb => simp [Act.eval]; exact HBU.out)) | (refine wpList_store_row rfl 33 (.tmp 10) (.tmp 24) rfl W1.heap.size r rfl rfl 33 z HZ10.out (by rw [i33, HRR.out.2.1]) (by rw [HRR.out.2.1, HZS.out.1]) HRR.out.2.2 ?_) | (refine wpList_load_row rfl 33 (.tmp 10) rfl W1.heap.size rfl 33 r (0, 0) _ HG10.out underl56 rfl (by rw [i33, HRR.out.2.1]) ?_))
  generalize hW2 : (W1.alloc (.cells z 33)).setRow W1.heap.size r = W2 at *
  clear hW2
  refine (check28 d N m r _ HRR.out.1 HRT.out HN.out W2 HD2.out).mono ?_
  rintro e W3 ⟨rfl, hb3⟩
  have HB3 := Aside0.mk (HB2.out.trans (hb3.mono HB2.out.size))
  have HD3 := Aside0.mk (HD2.out.below hb3)
  have HM3 := Aside0.mk (HM2.out.below hb3)
  have HZ3 := Aside0.mk (blk_below HZ2.out hb3)
  have HG3 := Aside0.mk (blk_below HG10.out hb3)
  obtain ⟨g10, hg10⟩ : ∃ g10, g10 = W1.heap.size := ⟨_, rfl⟩
  rw [← hg10] at HG3 ⊢
  clear hg10 hb3 HG10 HZ10 HB1 HD1 HM1 HZ1 HB2 HD2 HM2 HZ2 hal1
  go_wp2_with (refine wpList_load_row rfl 33 (.tmp 10) rfl g10 rfl 33 r (0, 0) _ HG3.out underl56 rfl (by rw [i33, HRR.out.2.1]) ?_)
  refine (sectors_calls r _ HRR.out.1 W3).mono ?_
  rintro e W4 ⟨he, hb4⟩
  rw [show sect (Ptr.len ⟨x, b, (n : Int), 0, List.replicate 32 0⟩) = (s : Int) from HS.out.symm] at he
  subst he
  have HB4 := Aside0.mk (HB3.out.trans (hb4.mono HB3.out.size))
  have HD4 := Aside0.mk (HD3.out.below hb4)
  have HM4 := Aside0.mk (HM3.out.below hb4)
  have HZ4 := Aside0.mk (blk_below HZ3.out hb4)
  clear hb4 HB3 HD3 HM3 HZ3 HG3
  go_wp2_with fail
  go_loopw [34] (fun v34 wr => ∃ k : Nat, v34 = .int .i64 (k : Int) ∧ k ≤ s ∧ Aside0 (KB W4 wr (fun k => k = m) ∧ MI wr m)) (fun v _ => s - (intOf v).toNat)
  case atStart => exact ⟨0, rfl, by omega, ⟨KB.of_below (Below.refl _ _) _, HM4.out⟩⟩
  case round =>
    obtain ⟨k, rfl, hks, HK⟩ := hrel
    have hdm : d ≠ m := by
      rintro rfl
      obtain ⟨A0, c0, hh⟩ := HD4.out
      obtain ⟨es, cl, h2, _⟩ := HM4.out
      rw [hh] at h2
      simp at h2
    have hgm : w.heap.size ≠ m := by
      rintro rfl
      obtain ⟨es, cl, h2, _⟩ := HM4.out
      rw [HZ4.out] at h2
      simp at h2
    have HDR := Aside0.mk (show DB wr d N m by
      obtain ⟨A0, c0, hh⟩ := HD4.out
      exact ⟨A0, c0, blk_kept hh HK.out.1.kept hdm⟩)
    have HZR := Aside0.mk (blk_kept HZ4.out HK.out.1.kept hgm)
    have HRD := Aside0.mk (kb_c8 HR.out.1 HB4.out HK.out.1)
    have HNE := Aside0.mk (And.intro hdm hgm)
    obtain ⟨t1, t2, t3, t4, t5, t6⟩ := HSN.out
    clear hdm hgm
    by_cases hk : k < s
    · have dk : decide ((k : Int) < (s : Int)) = true := decide_eq_true (by omega)
      obtain ⟨lo, hlo⟩ : ∃ lo : Nat, lo = k * 512 := ⟨_, rfl⟩
      obtain ⟨q, hq⟩ : ∃ q : Nat, q = k + 1 := ⟨_, rfl⟩
      obtain ⟨k1, hk1⟩ : ∃ k1 : Nat, k1 = q * 512 := ⟨_, rfl⟩
      obtain ⟨hi, hhi⟩ : ∃ hi : Nat, hi = min k1 n := ⟨_, rfl⟩
      have hw1 : IntKind.i64.wrap ((k : Int) * 512) = (lo : Int) := by rw [i64_small (by omega) (by omega)]; omega
      have hw2 : IntKind.i64.wrap ((k : Int) + 1) = (q : Int) := by rw [i64_small (by omega) (by omega)]; omega
      have hw3 : IntKind.i64.wrap ((q : Int) * 512) = (k1 : Int) := by rw [i64_small (by omega) (by omega)]; omega
      have hw4 : IntKind.i64.wrap (x + (k : Int)) = x + (k : Int) := i64_small (by omega) (by omega)
      have hmin2 : (if n < k1 then (n : Int) else (k1 : Int)) = (hi : Int) := by split <;> omega
      have hcut := cut8_mid3 A n c lo hi (by omega) (by omega)
      have HHI := Aside0.mk (And.intro hhi (And.intro hlo (And.intro hk1 (And.intro hq (show lo < hi ∧ hi ≤ n ∧ hi - lo ≤ 512 by omega)))))
      clear hhi hlo hk1 hq t1 t2 t3
      go_wp2_with fail
      refine (write29 d N m (x + k) _ (hi - lo) (hi - lo) _ wr HDR.out HK.out.2 (C8_mid HRD.out hnc HHI.out.2.2.2.2.1 HHI.out.2.2.2.2.2.1) (Nat.le_refl _) HHI.out.2.2.2.2.2.2 (by omega) (by omega)).mono ?_
      rintro e w6 ⟨rfl, hkb, hmi⟩
      have HFIN := Aside0.mk (And.intro (HK.out.1.then_ hkb (fun k hk => .inl hk)) hmi)
      clear hkb hmi
      go_wp2_with fail
      go_roundw
      case rel => exact ⟨q, rfl, by have := HHI.out; omega, HFIN⟩
      case measure => simp [intOf]; have := HHI.out; omega
    · have dk : decide ((k : Int) < (s : Int)) = false := decide_eq_false (by omega)
      go_wp2_with fail
      refine (of_calls x b A c n L wr HRD.out HR.out.2.2 hnc).mono ?_
      rintro e w6 ⟨he, hb6⟩
      obtain ⟨r2, hr2⟩ : ∃ r2, r2 = encP (ofP x b L) := ⟨_, rfl⟩
      rw [← hr2] at he
      subst he
      have HR2 := Aside0.mk (And.intro hr2 (And.intro (show r2.size = 36 by rw [hr2]; exact encP_size (ShaE.shaL_len L)) (show r2.all (·.oneCell') = true by rw [hr2]; exact encP_one _)))
      have HZ6 := Aside0.mk (blk_below HZR.out hb6)
      have hkb : KB w w6 (fun k => k = m) := ((KB.of_below HB4.out _).then_ HK.out.1 (fun k hk => .inl hk)).below hb6
      have hk7 : KB w (w6.setRow w.heap.size r2) (fun k => k = m) := ⟨hkb.os, hkb.tape, hkb.output, ⟨by have := hkb.kept.1; simpa using this, fun i hi hn => (setRow_other _ _ _ _ (by omega)).trans (hkb.kept.2 i hi hn)⟩⟩
      have hm7 : MI (w6.setRow w.heap.size r2) m := by
        obtain ⟨es, cl, h2, h3⟩ := HK.out.2
        exact ⟨es, cl, (setRow_other _ _ _ _ HNE.out.2.symm).trans (blk_below h2 hb6), h3⟩
      have HFIN := Aside0.mk (And.intro hk7 hm7)
      clear hk7 hm7 hkb hb6 hr2
      go_wp2_with (refine wpList_store_row rfl 33 (.tmp 8) (.tmp 63) rfl w.heap.size r2 rfl rfl 33 z HZ6.out (by rw [i33, HR2.out.2.1]) (by rw [HR2.out.2.1, HZS.out.1]) HR2.out.2.2 ?_)
      refine bodyPost_ret (res_ct (p := 8) (q := 9) _ rfl rfl (setRow_heap _ w.heap.size z r2 33 _ HZ6.out) Try.underlying33 rfl (by rw [i33, HR2.out.2.1])) rfl ?_
      rw [HP.out]
      exact ⟨by rw [HR2.out.1]; rfl, HFIN.out.1, HFIN.out.2⟩
end Go.Proofs.Ytchhdafgmifhdaa.BlkB
namespace Go.Proofs.Ytchhdafgmifhdaa.PoolB
open Go.RowKit Go.Proofs.Ytchhdafgmifhdaa.B8 Go.Proofs.Ytchhdafgmifhdaa.Agg Go.Proofs.Ytchhdafgmifhdaa.CodL Go.Proofs.Ytchhdafgmifhdaa.CodA Go.Proofs.Ytchhdafgmifhdaa.CodB Go.Proofs.Ytchhdafgmifhdaa.CrcL Go.Proofs.Ytchhdafgmifhdaa.CrcA Go.Proofs.Ytchhdafgmifhdaa.CrcB Go.Proofs.Ytchhdafgmifhdaa.PCowLays Go.Proofs.YtchhdafgmifhdaaW.PrintWords Go.Proofs.YtchhdafgmifhdaaW.PrintLast Go.Proofs.YtchhdafgmifhdaaW.PrintMore Go.Proofs.Ytchhdafgmifhdaa.CatL Go.Proofs.Ytchhdafgmifhdaa.PtrA Go.Proofs.Ytchhdafgmifhdaa.PtrB Go.Proofs.Ytchhdafgmifhdaa.PtrE Go.Proofs.Ytchhdafgmifhdaa.OfA Go.Proofs.Ytchhdafgmifhdaa.ExtL Go.Proofs.Ytchhdafgmifhdaa.ExtA Go.Proofs.Ytchhdafgmifhdaa.DskA Go.Proofs.Ytchhdafgmifhdaa.DskB Go.Proofs.Ytchhdafgmifhdaa.DskC Go.Proofs.Ytchhdafgmifhdaa.AlcA Go.Proofs.Ytchhdafgmifhdaa.AlcB Go.Proofs.Ytchhdafgmifhdaa.AlcC Go.Proofs.Ytchhdafgmifhdaa.AlcD Go.Proofs.Ytchhdafgmifhdaa.AlcE Go.Proofs.Ytchhdafgmifhdaa.AlcF Go.Proofs.Ytchhdafgmifhdaa.SpnA Go.Proofs.Ytchhdafgmifhdaa.BlkA Go.Proofs.Ytchhdafgmifhdaa.BlkB Go.Proofs.Ytchhdafgmifhdaa.PoolA Go.Proofs.Ytchhdafgmifhdaa.ShaK Go.Proofs.Ytchhdafgmifhdaa.ExtF Go.Proofs.Ytchhdafgmifhdaa.ExtG Go.Proofs.Ytchhdafgmifhdaa.ExtE Go.Proofs.Ytchhdafgmifhdaa.ExtD
set_option linter.unusedVariables false
set_option linter.unusedSimpArgs false
theorem built33c (n : Int) : Try.prog.built 33 [(2, .int .i64 n)] = some (encP ⟨0, 0, n, 0, List.replicate 32 0⟩) := by kernel_rfl
theorem add_block (ad : Addr) (k : Nat) : (ad.add k).block = ad.block := by unfold Addr.add; split <;> rfl
theorem Kcells {α : Type} {d : Kd α} {W W2 : World} {A : Option Addr} {n : Nat} {l : List α} (h : Kd.C d W A n l) (hk : ∀ x cs, d.K W x cs → d.K W2 x cs) (hc : ∀ ad q v, A = some ad → q.block = ad.block → W.cell? q = some v → W2.cell? q = some v) : Kd.C d W2 A n l :=
  ⟨h.1, h.2.1, fun hn => by
    obtain ⟨ad, e, h3⟩ := h.2.2 hn
    refine ⟨ad, e, fun j p hj => ?_⟩
    obtain ⟨c, hs, hr, hcell⟩ := h3 j p hj
    exact ⟨c, hs, hk _ _ hr, fun i u hu => hc ad _ _ e (add_block _ _) (hcell i u hu)⟩⟩
theorem AB_kept {W W2 : World} {a mw : Nat} {fr tu rs : Int} {l : List Sp} {S : Nat → Prop} (h : AB W a mw fr tu rs l) (hk : Kept W W2 S) (ha : ¬ S a) (hmw : ¬ S mw) (hS : ∀ k cs, S k → W.heap[k]? ≠ some (.cells cs 42 (0, 0))) : AB W2 a mw fr tu rs l := by
  obtain ⟨⟨A, n, c, was, h1, h2, h3, h4⟩, h5, ⟨cl, h6⟩, h7, h8⟩ := h
  have hA : ∀ ad, A = some ad → ¬ S ad.block := fun ad e hs => by
    obtain ⟨cs, h9⟩ := h8 ad n c was (by rw [← e]; exact h1)
    exact hS _ _ hs h9
  refine ⟨⟨A, n, c, was, blk_kept h1 hk ha, Kcells h2 (fun _ _ h => h) (fun ad q v e hq hc => cell_kept hc hk (by rw [hq]; exact hA ad e)), h3, h4⟩, h5, ⟨cl, blk_kept h6 hk hmw⟩, h7, fun ad n' c' was' hh => ?_⟩
  have hh2 : W.heap[a]? = some (.cells #[.int .i64 fr, .int .i64 tu, .bool true, .int .i64 rs, .slice (some ad) n' c', .map (some mw), was'] 57 (0, 0)) := (hk.2 a (blk_lt h1) ha).symm.trans hh
  obtain ⟨cs, h9⟩ := h8 ad n' c' was' hh2
  refine ⟨cs, blk_kept h9 hk ?_⟩
  intro hs
  exact hS _ _ hs h9
theorem DB_kept {W W2 : World} {d N m : Nat} {S : Nat → Prop} (h : DB W d N m) (hk : Kept W W2 S) (hS : ∀ A c, W.heap[d]? = some (.cells #[.slice (some A) N c, .map (some m), .bool false, .int .i64 0, .bool false] 62 (0, 0)) → ¬ S d) : DB W2 d N m := by
  obtain ⟨A, c, h⟩ := h
  exact ⟨A, c, blk_kept h hk (hS A c h)⟩
theorem MI_kept {W W2 : World} {m : Nat} {S : Nat → Prop} (h : MI W m) (hk : Kept W W2 S) (hS : ¬ S m) : MI W2 m := by
  obtain ⟨es, c, h, hx⟩ := h
  exact ⟨es, c, blk_kept h hk hS, hx⟩
/-- Behind what changes the allocator alone. -/
theorem PO_alloc {W W2 : World} {p d m a mw N : Nat} {fr tu rs : Int} {l l2 : List Sp} {ep : Int} {kv : Value} (h : PO W p d m a mw N fr tu rs l ep kv) (hk : Kept W W2 (fun k => k = a)) (h2 : AB W2 a mw fr tu rs l2) : PO W2 p d m a mw N fr tu rs l2 ep kv := by
  obtain ⟨A, n, c, was, ha, _⟩ := h.alc.blk
  obtain ⟨es, cl, hm, _⟩ := h.map
  exact ⟨blk_kept h.blk hk (by rintro rfl; rw [h.blk] at ha; simp at ha), DB_kept h.disk hk (fun A c hd e => by subst e; rw [hd] at ha; simp at ha), MI_kept h.map hk (by rintro rfl; rw [ha] at hm; cases hm), h2, h.ne⟩
/-- Behind what changes the disk's map alone. -/
theorem PO_disk {W W2 : World} {p d m a mw N : Nat} {fr tu rs : Int} {l : List Sp} {ep : Int} {kv : Value} (h : PO W p d m a mw N fr tu rs l ep kv) (hk : Kept W W2 (fun k => k = m)) (h2 : MI W2 m) : PO W2 p d m a mw N fr tu rs l ep kv := by
  obtain ⟨es, cl, hm, _⟩ := h.map
  exact ⟨blk_kept h.blk hk (by rintro rfl; rw [h.blk] at hm; cases hm), DB_kept h.disk hk (fun A c hd e => by subst e; rw [hd] at hm; cases hm), h2, AB_kept h.alc hk (by rintro rfl; obtain ⟨A, n, c, was, ha, _⟩ := h.alc.blk; rw [ha] at hm; cases hm) (fun e => h.ne e.symm) (fun k cs e => by subst e; rw [hm]; intro e2; cases e2), h.ne⟩
/-- Behind a store into a block of a pointer's. -/
theorem PO_row {W : World} {p d m a mw N : Nat} {fr tu rs : Int} {l : List Sp} {ep : Int} {kv : Value} (h : PO W p d m a mw N fr tu rs l ep kv) {g : Nat} {c0 : Array Value} (hg : W.heap[g]? = some (.cells c0 33 (0, 0))) (cs : Array Value) : PO (W.setRow g cs) p d m a mw N fr tu rs l ep kv := by
  have hk : Kept W (W.setRow g cs) (fun k => k = g) := ⟨by simp, fun i hi hn => setRow_other _ _ _ _ hn⟩
  obtain ⟨es, cl, hm, _⟩ := h.map
  refine ⟨blk_kept h.blk hk (by rintro rfl; rw [h.blk] at hg; simp at hg), DB_kept h.disk hk (fun A c hd e => by subst e; rw [hd] at hg; simp at hg), MI_kept h.map hk (by rintro rfl; rw [hm] at hg; cases hg), ?_, h.ne⟩
  refine AB_kept h.alc hk (by rintro rfl; obtain ⟨A, n, c, was, ha, _⟩ := h.alc.blk; rw [ha] at hg; simp at hg) (by rintro rfl; obtain ⟨cl, hw⟩ := h.alc.wait; rw [hw] at hg; cases hg) (fun k cs e => ?_)
  subst e
  rw [hg]
  simp
theorem PO_pm {W : World} {p d m a mw N : Nat} {fr tu rs : Int} {l : List Sp} {ep : Int} {kv : Value} (h : PO W p d m a mw N fr tu rs l ep kv) : ¬ p = m := by
  obtain ⟨es, cl, h2, _⟩ := h.map
  rintro rfl; rw [h.blk] at h2; cases h2
theorem KB_setRow {w W : World} {S : Nat → Prop} (h : KB w W S) {g : Nat} (hg : w.heap.size ≤ g) (cs : Array Value) : KB w (W.setRow g cs) S :=
  ⟨h.os, h.tape, h.output, ⟨by have := h.kept.1; simpa using this, fun i hi hn => (setRow_other _ _ _ _ (by omega)).trans (h.kept.2 i hi hn)⟩⟩
theorem MI_setRow {W : World} {m g : Nat} (h : MI W m) (hg : m ≠ g) (cs : Array Value) : MI (W.setRow g cs) m := by
  obtain ⟨es, cl, h2, h3⟩ := h
  exact ⟨es, cl, (setRow_other _ _ _ _ hg).trans h2, h3⟩
theorem PO_pa {W : World} {p d m a mw N : Nat} {fr tu rs : Int} {l : List Sp} {ep : Int} {kv : Value} (h : PO W p d m a mw N fr tu rs l ep kv) : ¬ p = a := by
  obtain ⟨A, n, c, was, ha, _⟩ := h.alc.blk
  rintro rfl; rw [h.blk] at ha; simp at ha
set_option maxRecDepth 100000 in
set_option maxHeartbeats 8000000 in
theorem lay5 (p d m a mw N : Nat) (fr tu rs : Int) (l : List Sp) (ep : Int) (kv : Value) (A : Option Addr) (n c : Nat) (L : List Int) (w : World) (h : PO w p d m a mw N fr tu rs l ep kv) (hN : 0 < N) (htu : fr < tu)
    (hr : ∀ W', Kept w W' (fun k => k = m ∨ k = a) → C8 W' A n L) (hb : Byt L) (hnc : n ≤ c) (hn1 : 1 ≤ n) (hn2 : n ≤ 65536) (he1 : 1 ≤ ep) (he2 : ep ≤ 1152921504606846976)
    (k : Nat) (hk : (k : Int) = sect (n : Int)) (f : Int) (hf : findI l (k : Int) = f) (hf2 : 2 ≤ f) (hf3 : f + k ≤ N) (hN8 : N ≤ 8192) (hrs : rs ≤ total l - k)
    (hv : VS (-1) (remS l (f, f + k))) (hln : (remS l (f, f + k)).length ≤ 10000) (ht : 0 ≤ total (remS l (f, f + k)) ∧ total (remS l (f, f + k)) ≤ 8192) :
    Calls Try.prog 5 #[.pointer (some ⟨p, 0, none⟩), .slice A n c] w (fun e w' => e = .returned (.tuple #[.agg (encP (ofP f ep L)), .int .i64 0]) ∧ KB w w' (fun k => k = m ∨ k = a) ∧ PO w' p d m a mw N fr tu rs (remS l (f, f + k)) ep kv) := by
  obtain ⟨P, hP⟩ : ∃ P : Ending → World → Prop, P = fun e w' => e = .returned (.tuple #[.agg (encP (ofP f ep L)), .int .i64 0]) ∧ KB w w' (fun k => k = m ∨ k = a) ∧ PO w' p d m a mw N fr tu rs (remS l (f, f + k)) ep kv := ⟨_, rfl⟩
  rw [← hP]
  have HP := Aside0.mk hP
  clear hP
  obtain ⟨z, hz, hz1, hal⟩ := zero33
  have HZS := Aside0.mk (And.intro hz hz1)
  have HAL := Aside0.mk hal
  have halw := hal w
  have hsb := sect_bound (n : Int)
  have hk1 : (1 : Int) ≤ k := by
    rw [hk]; unfold sect; rw [if_neg (by omega)]; omega
  have hkk : (k : Int) ≤ 128 := by
    rw [hk]; unfold sect; rw [if_neg (by omega)]; omega
  have hk0 : ((k : Int) == 0) = false := by rw [beq_eq_false_iff_ne]; omega
  have b1 := below_alloc (Below.refl w.heap.size w) (.cells z 33)
  have HB := Aside0.mk b1
  have H := Aside0.mk (h.below b1)
  have HZ := Aside0.mk (blk_new w (.cells z 33))
  have HD := Aside0.mk (And.intro hr (And.intro hb (And.intro hnc (And.intro he1 he2))))
  have HK := Aside0.mk hk
  have HF := Aside0.mk (And.intro hf (And.intro hf2 (And.intro hf3 (And.intro hN8 (And.intro hrs (And.intro hk1 hkk))))))
  have HV := Aside0.mk (And.intro hv (And.intro hln ht))
  have HNN := Aside0.mk (And.intro hN htu)
  obtain ⟨r0, hr0⟩ : ∃ r, r = encP ⟨0, 0, (n : Int), 0, List.replicate 32 0⟩ := ⟨_, rfl⟩
  have HB0 := Aside0.mk (show Try.prog.built 33 [(2, .int .i64 (n : Int))] = some r0 by rw [built33c, hr0])
  have HR0 := Aside0.mk (show PC r0 ⟨0, 0, (n : Int), 0, List.replicate 32 0⟩ by rw [hr0]; exact pc _ (by simp))
  obtain ⟨r1, hr1⟩ : ∃ r, r = encP ⟨2, ep, (n : Int), 0, List.replicate 32 0⟩ := ⟨_, rfl⟩
  have HBV1 := Aside0.mk (show Try.prog.built 33 [(0, .int .i64 2), (1, .int .i64 ep), (2, .int .i64 (n : Int))] = some r1 by rw [built33b, hr1])
  have HR1 := Aside0.mk (show PC r1 ⟨2, ep, (n : Int), 0, List.replicate 32 0⟩ by rw [hr1]; exact pc _ (by simp))
  have HRR := Aside0.mk (show Right ⟨2, ep, (n : Int), 0, List.replicate 32 0⟩ by
    refine ⟨?_, ?_, ?_, ?_, ?_⟩ <;> simp only <;> omega)
  have HRT := Aside0.mk (rightB_yes HRR.out)
  have hfk : IntKind.i64.wrap (f + (k : Int)) = f + k := i64_small (by omega) (by omega)
  clear hal hz hz1 h hr hb hnc hk hf hf2 hf3 hv hln ht hN htu b1 hr0 hr1 hsb hrs hN8 he1 he2 hk1 hkk
  go_enter Try.func5, Try.ntmps5
  go_wp2_with fail
  generalize hW0 : w.alloc (.cells z 33) = W0 at *
  clear hW0
  refine (ready12 p d m a mw N fr tu rs l ep kv W0 H.out HNN.out.1 HNN.out.2).mono ?_
  rintro e W1 ⟨rfl, hb1⟩
  have HB1 := Aside0.mk (HB.out.trans (hb1.mono HB.out.size))
  have H1 := Aside0.mk (H.out.below hb1)
  have HZ1 := Aside0.mk (blk_below HZ.out hb1)
  clear hb1 HB H HZ halw
  go_wp2_with (refine wpList_build_of rfl 33 #[(2, .tmp 18)] rfl r0 ?hb ?_; (case hb => simp [Act.eval]; exact HB0.out))
  refine (sectors_calls r0 _ HR0.out W1).mono ?_
  rintro e W2 ⟨he, hb2⟩
  rw [show sect (Ptr.len ⟨0, 0, (n : Int), 0, List.replicate 32 0⟩) = (k : Int) from HK.out.symm] at he
  subst he
  have HB2 := Aside0.mk (HB1.out.trans (hb2.mono HB1.out.size))
  have H2 := Aside0.mk (H1.out.below hb2)
  have HZ2 := Aside0.mk (blk_below HZ1.out hb2)
  have q2 : W2.cell? ⟨p, 2, none⟩ = some (.int .i64 ep) := by rw [cell_of_row _ _ 2 _ 29 (0, 0) H2.out.blk]; rfl
  clear hb2 HB1 H1 HZ1
  go_wp2_with (refine gate_on (o := ⟨some 30, _, _, _, _, _⟩) (by rfl) ?_; dsimp only; refine wpList_build_of rfl 33 #[(0, .const (.int .i64 2)), (1, .tmp 27), (2, .tmp 29)] rfl r1 ?hb ?_; (case hb => simp [Act.eval]; exact HBV1.out))
  refine (right_calls r1 _ HR1.out W2).mono ?_
  rintro e W3 ⟨he, hb3⟩
  rw [HRT.out] at he
  subst he
  have HB3 := Aside0.mk (HB2.out.trans (hb3.mono HB2.out.size))
  have H3 := Aside0.mk (H2.out.below hb3)
  have HZ3 := Aside0.mk (blk_below HZ2.out hb3)
  clear hb3 HB2 H2 HZ2 q2
  go_wp2_with fail
  have C1 := Aside0.mk (show W3.cell? ⟨p, 1, none⟩ = some (.pointer (some ⟨a, 0, none⟩)) by rw [cell_of_row _ _ 1 _ 29 (0, 0) H3.out.blk]; rfl)
  have C3 := Aside0.mk (show W3.cell? ⟨p, 3, none⟩ = some (.bool false) by rw [cell_of_row _ _ 3 _ 29 (0, 0) H3.out.blk]; rfl)
  have HPA := Aside0.mk (show ¬ p = a from PO_pa H3.out)
  refine wp_region_held_drew (S := fun w' => KB W3 w' (fun k => k = a)) (by kernel_rfl) (KB.of_below (below_drew (Below.refl _ _)) _) (fun hW => ?_)
  have WDB := Aside0.mk (show Below W3.heap.size W3 W3.drew from below_drew (Below.refl _ _))
  generalize hWd : W3.drew = Wd at *
  clear hWd
  refine wpAnyH_take (i := 0) (oi := ⟨some 36, _, _, _, _, _⟩) (v := .pointer (some ⟨p, 0, none⟩)) rfl (by kernel_rfl) (by kernel_rfl) (by kernel_rfl) (fun _ _ _ h => h) (.inl ⟨by rfl, fun W1 h1 => by go_simp⟩) hW ?_
  try simp only [Act.put, List.setIfInBounds_toArray, List.set_cons_zero, List.set_cons_succ]
  refine wpAnyH_take (i := 1) (oi := ⟨some 37, _, _, _, _, _⟩) (v := .pointer (some ⟨p, 0, none⟩)) rfl (by kernel_rfl) (by kernel_rfl) (by kernel_rfl) (fun _ _ _ h => h) (.inl ⟨by rfl, fun W1 h1 => by go_simp⟩) hW ?_
  try simp only [Act.put, List.setIfInBounds_toArray, List.set_cons_zero, List.set_cons_succ]
  refine wpAnyH_take (i := 2) (oi := ⟨some 38, _, _, _, _, _⟩) (v := .pointer (some ⟨p, 1, none⟩)) rfl (by kernel_rfl) (by kernel_rfl) (by kernel_rfl) (fun _ _ _ h => h) (.inl ⟨by rfl, fun W1 h1 => by go_simp⟩) hW ?_
  try simp only [Act.put, List.setIfInBounds_toArray, List.set_cons_zero, List.set_cons_succ]
  refine wpAnyH_take (i := 3) (oi := ⟨some 39, _, _, _, _, _⟩) (v := .pointer (some ⟨a, 0, none⟩)) rfl (by kernel_rfl) (by kernel_rfl) (by kernel_rfl) (fun _ _ _ h => h) (.inl ⟨by rfl, fun W1 h1 => by have h2 := cell_kept C1.out h1.kept HPA.out; clear h1; go_simp⟩) hW ?_
  try simp only [Act.put, List.setIfInBounds_toArray, List.set_cons_zero, List.set_cons_succ]
  refine wpAnyH_take (i := 4) (oi := ⟨some 40, _, _, _, _, _⟩) (v := .int .i64 (k : Int)) rfl (by kernel_rfl) (by kernel_rfl) (by kernel_rfl) (fun _ _ _ h => h) (.inl ⟨by rfl, fun W1 h1 => by go_simp⟩) hW ?_
  try simp only [Act.put, List.setIfInBounds_toArray, List.set_cons_zero, List.set_cons_succ]
  refine wpAnyH_take (i := 5) (oi := ⟨some 41, _, _, _, _, _⟩) (v := .pointer (some ⟨p, 0, none⟩)) rfl (by kernel_rfl) (by kernel_rfl) (by kernel_rfl) (fun _ _ _ h => h) (.inl ⟨by rfl, fun W1 h1 => by go_simp⟩) hW ?_
  try simp only [Act.put, List.setIfInBounds_toArray, List.set_cons_zero, List.set_cons_succ]
  refine wpAnyH_take (i := 6) (oi := ⟨some 42, _, _, _, _, _⟩) (v := .pointer (some ⟨p, 0, none⟩)) rfl (by kernel_rfl) (by kernel_rfl) (by kernel_rfl) (fun _ _ _ h => h) (.inl ⟨by rfl, fun W1 h1 => by go_simp⟩) hW ?_
  try simp only [Act.put, List.setIfInBounds_toArray, List.set_cons_zero, List.set_cons_succ]
  refine wpAnyH_take (i := 7) (oi := ⟨some 43, _, _, _, _, _⟩) (v := .pointer (some ⟨p, 3, none⟩)) rfl (by kernel_rfl) (by kernel_rfl) (by kernel_rfl) (fun _ _ _ h => h) (.inl ⟨by rfl, fun W1 h1 => by go_simp⟩) hW ?_
  try simp only [Act.put, List.setIfInBounds_toArray, List.set_cons_zero, List.set_cons_succ]
  refine wpAnyH_take (i := 8) (oi := ⟨some 44, _, _, _, _, _⟩) (v := .bool false) rfl (by kernel_rfl) (by kernel_rfl) (by kernel_rfl) (fun _ _ _ h => h) (.inl ⟨by rfl, fun W1 h1 => by have h2 := cell_kept C3.out h1.kept HPA.out; clear h1; go_simp⟩) hW ?_
  try simp only [Act.put, List.setIfInBounds_toArray, List.set_cons_zero, List.set_cons_succ]
  refine wpAnyH_ready (rs := [9]) (by kernel_rfl) (by simp) (AllReadyH.cons rfl (fun K1 hK1 => ?_) AllReadyH.nil)
  go_simp
  have HAW := Aside0.mk (show AB Wd a mw fr tu rs l from H3.out.alc.below WDB.out)
  refine (take14 a mw fr tu rs k f l Wd HAW.out HF.out.2.2.2.2.2.1 (by have := HF.out.2.2.2.2.2.2; omega) HF.out.1 (by have := HF.out.2.1; omega) (by have := HF.out; omega) HF.out.2.2.2.2.1 HV.out.1 HV.out.2.1 HV.out.2.2).mono ?_
  rintro e W4 ⟨rfl, hkb4, hab4⟩
  refine hK1.out _ _ (hW.then_ hkb4 (fun k hk => .inl hk)) (fun hW => ?_)
  try simp only [Act.put, List.setIfInBounds_toArray, List.set_cons_zero, List.set_cons_succ]
  have HK4 := Aside0.mk (KB.of_below WDB.out (fun k => k = a) |>.then_ hkb4 (fun k hk => .inl hk))
  have HA4 := Aside0.mk hab4
  clear hkb4 hab4 HAW
  refine wpAnyH_take (i := 10) (oi := ⟨some 35, _, _, _, _, _⟩) (v := .tuple #[.int .i64 f, .int .i64 0]) rfl (by kernel_rfl) (by kernel_rfl) (by kernel_rfl) (fun _ _ _ h => h) (.inl ⟨by rfl, fun W1 h1 => by go_simp⟩) hW ?_
  try simp only [Act.put, List.setIfInBounds_toArray, List.set_cons_zero, List.set_cons_succ]
  refine wpAnyH_take (i := 11) (oi := ⟨some 46, _, _, _, _, _⟩) (v := .int .i64 f) rfl (by kernel_rfl) (by kernel_rfl) (by kernel_rfl) (fun _ _ _ h => h) (.inl ⟨by rfl, fun W1 h1 => by go_simp⟩) hW ?_
  try simp only [Act.put, List.setIfInBounds_toArray, List.set_cons_zero, List.set_cons_succ]
  refine wpAnyH_take (i := 12) (oi := ⟨some 47, _, _, _, _, _⟩) (v := .int .i64 0) rfl (by kernel_rfl) (by kernel_rfl) (by kernel_rfl) (fun _ _ _ h => h) (.inl ⟨by rfl, fun W1 h1 => by go_simp⟩) hW ?_
  try simp only [Act.put, List.setIfInBounds_toArray, List.set_cons_zero, List.set_cons_succ]
  refine wpAnyH_take (i := 13) (oi := ⟨some 8, _, _, _, _, _⟩) (v := .int .i64 f) rfl (by kernel_rfl) (by kernel_rfl) (by kernel_rfl) (fun _ _ _ h => h) (.inl ⟨by rfl, fun W1 h1 => by go_simp⟩) hW ?_
  try simp only [Act.put, List.setIfInBounds_toArray, List.set_cons_zero, List.set_cons_succ]
  refine wpAnyH_take (i := 14) (oi := ⟨some 9, _, _, _, _, _⟩) (v := .int .i64 0) rfl (by kernel_rfl) (by kernel_rfl) (by kernel_rfl) (fun _ _ _ h => h) (.inl ⟨by rfl, fun W1 h1 => by go_simp⟩) hW ?_
  try simp only [Act.put, List.setIfInBounds_toArray, List.set_cons_zero, List.set_cons_succ]
  refine wpAnyH_done (by kernel_rfl) ?_ _
  clear hK1 K1
  have hKB4 := HK4.out
  have H4 := Aside0.mk (PO_alloc H3.out hKB4.kept HA4.out)
  have HZ4 := Aside0.mk (show W4.heap[w.heap.size]? = some (.cells z 33 (0, 0)) from blk_kept HZ3.out hKB4.kept (by
    intro e
    obtain ⟨A0, n0, c0, was, ha, _⟩ := H3.out.alc.blk
    have e2 := HZ3.out
    rw [e, ha] at e2
    simp at e2))
  have HKW := Aside0.mk (show KB w W4 (fun k => k = m ∨ k = a) from (KB.of_below HB3.out _).then_ hKB4 (fun k hk => .inl (.inr hk)))
  clear hKB4 HK4 HA4 H3 HZ3 HB3 hW C1 C3
  go_wp2_with fail
  have C0 := Aside0.mk (show W4.cell? ⟨p, 0, none⟩ = some (.pointer (some ⟨d, 0, none⟩)) by rw [cell_of_row _ _ 0 _ 29 (0, 0) H4.out.blk]; rfl)
  have C2 := Aside0.mk (show W4.cell? ⟨p, 2, none⟩ = some (.int .i64 ep) by rw [cell_of_row _ _ 2 _ 29 (0, 0) H4.out.blk]; rfl)
  have HPM := Aside0.mk (PO_pm H4.out)
  have HZM := Aside0.mk (show ¬ w.heap.size = m by
    intro e
    obtain ⟨es, cl, h2, _⟩ := H4.out.map
    have e2 := HZ4.out
    rw [e, h2] at e2
    cases e2)
  have HDAT := Aside0.mk (show ∀ W', Kept W4 W' (fun k => k = m) → C8 W' A n L from Kd.C_kept_call HD.out.1 HKW.out.kept (fun k hk => .inl (.inl hk)))
  obtain ⟨r3, hr3⟩ : ∃ r, r = encP (ofP f ep L) := ⟨_, rfl⟩
  have HR3 := Aside0.mk (And.intro hr3 (And.intro (show r3.size = 36 by rw [hr3]; exact encP_size (ShaE.shaL_len L)) (show r3.all (·.oneCell') = true by rw [hr3]; exact encP_one _)))
  have HRW := Aside0.mk (show Right ⟨f, ep, (n : Int), 0, List.replicate 32 0⟩ by
    obtain ⟨a1, a2, a3, a4, a5⟩ := HRR.out
    have := HF.out
    have hk := HK.out
    refine ⟨a1, a2, a3, ?_, ?_⟩ <;> simp only at a3 a4 a5 ⊢ <;> omega)
  clear hr3
  refine wp_region_held_drew (S := fun w' => KB W4 w' (fun k => k = m) ∧ MI w' m) (by kernel_rfl) (⟨KB.of_below (below_drew (Below.refl _ _)) _, H4.out.map.below (below_drew (Below.refl _ _))⟩) (fun hW => ?_)
  have WDB := Aside0.mk (show Below W4.heap.size W4 W4.drew from below_drew (Below.refl _ _))
  generalize hWd : W4.drew = Wd at *
  clear hWd
  refine wpAnyH_take (i := 0) (oi := ⟨some 53, _, _, _, _, _⟩) (v := .pointer (some ⟨p, 0, none⟩)) rfl (by kernel_rfl) (by kernel_rfl) (by kernel_rfl) (fun _ _ _ h => h) (.inl ⟨by rfl, fun W1 h1 => by go_simp⟩) hW ?_
  try simp only [Act.put, List.setIfInBounds_toArray, List.set_cons_zero, List.set_cons_succ]
  refine wpAnyH_take (i := 1) (oi := ⟨some 54, _, _, _, _, _⟩) (v := .pointer (some ⟨p, 0, none⟩)) rfl (by kernel_rfl) (by kernel_rfl) (by kernel_rfl) (fun _ _ _ h => h) (.inl ⟨by rfl, fun W1 h1 => by go_simp⟩) hW ?_
  try simp only [Act.put, List.setIfInBounds_toArray, List.set_cons_zero, List.set_cons_succ]
  refine wpAnyH_take (i := 2) (oi := ⟨some 55, _, _, _, _, _⟩) (v := .pointer (some ⟨p, 0, none⟩)) rfl (by kernel_rfl) (by kernel_rfl) (by kernel_rfl) (fun _ _ _ h => h) (.inl ⟨by rfl, fun W1 h1 => by go_simp⟩) hW ?_
  try simp only [Act.put, List.setIfInBounds_toArray, List.set_cons_zero, List.set_cons_succ]
  refine wpAnyH_take (i := 3) (oi := ⟨some 56, _, _, _, _, _⟩) (v := .pointer (some ⟨d, 0, none⟩)) rfl (by kernel_rfl) (by kernel_rfl) (by kernel_rfl) (fun _ _ _ h => h) (.inl ⟨by rfl, fun W1 h1 => by have h2 := cell_kept C0.out h1.1.kept HPM.out; clear h1; go_simp⟩) hW ?_
  try simp only [Act.put, List.setIfInBounds_toArray, List.set_cons_zero, List.set_cons_succ]
  refine wpAnyH_take (i := 4) (oi := ⟨some 57, _, _, _, _, _⟩) (v := .int .i64 f) rfl (by kernel_rfl) (by kernel_rfl) (by kernel_rfl) (fun _ _ _ h => h) (.inl ⟨by rfl, fun W1 h1 => by go_simp⟩) hW ?_
  try simp only [Act.put, List.setIfInBounds_toArray, List.set_cons_zero, List.set_cons_succ]
  refine wpAnyH_take (i := 5) (oi := ⟨some 58, _, _, _, _, _⟩) (v := .pointer (some ⟨p, 0, none⟩)) rfl (by kernel_rfl) (by kernel_rfl) (by kernel_rfl) (fun _ _ _ h => h) (.inl ⟨by rfl, fun W1 h1 => by go_simp⟩) hW ?_
  try simp only [Act.put, List.setIfInBounds_toArray, List.set_cons_zero, List.set_cons_succ]
  refine wpAnyH_take (i := 6) (oi := ⟨some 59, _, _, _, _, _⟩) (v := .pointer (some ⟨p, 0, none⟩)) rfl (by kernel_rfl) (by kernel_rfl) (by kernel_rfl) (fun _ _ _ h => h) (.inl ⟨by rfl, fun W1 h1 => by go_simp⟩) hW ?_
  try simp only [Act.put, List.setIfInBounds_toArray, List.set_cons_zero, List.set_cons_succ]
  refine wpAnyH_take (i := 7) (oi := ⟨some 60, _, _, _, _, _⟩) (v := .pointer (some ⟨p, 2, none⟩)) rfl (by kernel_rfl) (by kernel_rfl) (by kernel_rfl) (fun _ _ _ h => h) (.inl ⟨by rfl, fun W1 h1 => by go_simp⟩) hW ?_
  try simp only [Act.put, List.setIfInBounds_toArray, List.set_cons_zero, List.set_cons_succ]
  refine wpAnyH_take (i := 8) (oi := ⟨some 61, _, _, _, _, _⟩) (v := .int .i64 ep) rfl (by kernel_rfl) (by kernel_rfl) (by kernel_rfl) (fun _ _ _ h => h) (.inl ⟨by rfl, fun W1 h1 => by have h2 := cell_kept C2.out h1.1.kept HPM.out; clear h1; go_simp⟩) hW ?_
  try simp only [Act.put, List.setIfInBounds_toArray, List.set_cons_zero, List.set_cons_succ]
  refine wpAnyH_take (i := 9) (oi := ⟨some 62, _, _, _, _, _⟩) (v := .slice A n c) rfl (by kernel_rfl) (by kernel_rfl) (by kernel_rfl) (fun _ _ _ h => h) (.inl ⟨by rfl, fun W1 h1 => by go_simp⟩) hW ?_
  try simp only [Act.put, List.setIfInBounds_toArray, List.set_cons_zero, List.set_cons_succ]
  refine wpAnyH_ready (rs := [10, 14]) (by kernel_rfl) (by simp) (AllReadyH.cons rfl (fun K1 hK1 => ?_) (AllReadyH.cons rfl (fun K2 hK2 => ?_) AllReadyH.nil))
  · go_simp
    refine (write15 d N m f ep A c n L Wd (H4.out.disk.below WDB.out) (H4.out.map.below WDB.out) (Kd.C_kept_step HDAT.out (Kept.of_below WDB.out _)) HD.out.2.1 HD.out.2.2.1 HRW.out (by rw [← HK.out]; exact HF.out.2.2.1)).mono ?_
    rintro e W6 ⟨he, hkb6, hm6⟩
    rw [← HR3.out.1] at he
    subst he
    have hal6 := HAL.out W6
    refine hK1.out _ _ (⟨hW.1.then_ hkb6 (fun k hk => .inl hk), hm6⟩) (fun hW => ?_)
    try simp only [Act.put, List.setIfInBounds_toArray, List.set_cons_zero, List.set_cons_succ]
    refine wpAnyH_take (i := 11) (oi := ⟨some 52, _, _, _, _, _⟩) (v := .tuple #[.agg r3, .int .i64 0]) rfl (by kernel_rfl) (by kernel_rfl) (by kernel_rfl) (fun _ _ _ h => h) (.inl ⟨by rfl, fun W1 h1 => by go_simp⟩) hW ?_
    try simp only [Act.put, List.setIfInBounds_toArray, List.set_cons_zero, List.set_cons_succ]
    refine wpAnyH_take (i := 12) (oi := ⟨some 64, _, _, _, _, _⟩) (v := .agg r3) rfl (by kernel_rfl) (by kernel_rfl) (by kernel_rfl) (fun _ _ _ h => h) (.inl ⟨by rfl, fun W1 h1 => by go_simp⟩) hW ?_
    try simp only [Act.put, List.setIfInBounds_toArray, List.set_cons_zero, List.set_cons_succ]
    refine wpAnyH_take (i := 13) (oi := ⟨some 65, _, _, _, _, _⟩) (v := .int .i64 0) rfl (by kernel_rfl) (by kernel_rfl) (by kernel_rfl) (fun _ _ _ h => h) (.inl ⟨by rfl, fun W1 h1 => by go_simp⟩) hW ?_
    try simp only [Act.put, List.setIfInBounds_toArray, List.set_cons_zero, List.set_cons_succ]
    refine wpAnyH_ready (rs := [14]) (by kernel_rfl) (by simp) (AllReadyH.cons rfl (fun K3 hK3 => ?_) AllReadyH.nil)
    go_simp
    have HGZ := Aside0.mk (blk_new W6 (.cells z 33))
    refine hK3.out _ _ (⟨hW.1.below (below_alloc (Below.refl _ _) _), hW.2.below (below_alloc (Below.refl _ _) _)⟩) (fun hW => ?_)
    try simp only [Act.put, List.setIfInBounds_toArray, List.set_cons_zero, List.set_cons_succ]
    obtain ⟨W7, hW7⟩ : ∃ W7, W7 = W6.alloc (.cells z 33) := ⟨_, rfl⟩
    rw [← hW7] at HGZ hW ⊢
    clear hW7
    obtain ⟨g, hg⟩ : ∃ g, g = W6.heap.size := ⟨_, rfl⟩
    have HGW := Aside0.mk (show W4.heap.size ≤ g by rw [hg]; exact Nat.le_trans WDB.out.size hkb6.kept.1)
    rw [← hg] at HGZ ⊢
    clear hg hkb6 hm6 hal6
    refine wpAnyH_ready (rs := [15]) (by kernel_rfl) (by simp) (AllReadyH.cons rfl (fun K4 hK4 => ?_) AllReadyH.nil)
    refine wp_store_row (o := ⟨none, _, _, _, _, _⟩) 33 (.tmp 10) (.tmp 64) rfl g r3 rfl rfl 33 z HGZ.out (by rw [i33, HR3.out.2.1]) (by rw [HR3.out.2.1, HZS.out.1]) HR3.out.2.2 ?_
    refine hK4.out _ _ (⟨KB_setRow hW.1 HGW.out r3, MI_setRow hW.2 (by have h1 := HGW.out; obtain ⟨es, cl, h2, _⟩ := H4.out.map; have := blk_lt h2; omega) r3⟩) (fun hW => ?_)
    try simp only [Act.put, List.setIfInBounds_toArray, List.set_cons_zero, List.set_cons_succ]
    have HGR := Aside0.mk (setRow_heap _ g z r3 33 _ HGZ.out)
    obtain ⟨W8, hW8⟩ : ∃ W8, W8 = W7.setRow g r3 := ⟨_, rfl⟩
    rw [← hW8] at HGR hW ⊢
    clear hW8
    refine wpAnyH_take (i := 16) (oi := ⟨some 9, _, _, _, _, _⟩) (v := .int .i64 0) rfl (by kernel_rfl) (by kernel_rfl) (by kernel_rfl) (fun _ _ _ h => h) (.inl ⟨by rfl, fun W1 h1 => by go_simp⟩) hW ?_
    try simp only [Act.put, List.setIfInBounds_toArray, List.set_cons_zero, List.set_cons_succ]
    refine wpAnyH_done (by kernel_rfl) ?_ _
    clear hK1 hK3 hK4 K1 K3 K4
    have H8 := Aside0.mk (PO_disk H4.out hW.1.kept hW.2)
    have HZ8 := Aside0.mk (show W8.heap[w.heap.size]? = some (.cells z 33 (0, 0)) from blk_kept HZ4.out hW.1.kept HZM.out)
    have HK8 := Aside0.mk (show KB w W8 (fun k => k = m ∨ k = a) from HKW.out.then_ hW.1 (fun k hk => .inl (.inl hk)))
    clear hW
    go_wp2_with (first | (refine wpList_load_row rfl 33 (.tmp 10) rfl g rfl 33 r3 (0, 0) _ HGR.out underl56 rfl (by rw [i33, HR3.out.2.1]) ?_) | (refine wpList_store_row rfl 33 (.tmp 4) (.tmp 78) rfl w.heap.size r3 rfl rfl 33 z HZ8.out (by rw [i33, HR3.out.2.1]) (by rw [HR3.out.2.1, HZS.out.1]) HR3.out.2.2 ?_))
    refine bodyPost_ret (res_ct (p := 4) (q := 5) _ rfl rfl (setRow_heap _ w.heap.size z r3 33 _ HZ8.out) Try.underlying33 rfl (by rw [i33, HR3.out.2.1])) rfl ?_
    rw [HP.out]
    exact ⟨by rw [HR3.out.1]; rfl, KB_setRow HK8.out (Nat.le_refl _) _, PO_row H8.out HZ8.out _⟩
  · have halD := HAL.out Wd
    go_simp
    have HGZ0 := Aside0.mk (blk_new Wd (.cells z 33))
    refine hK2.out _ _ (⟨hW.1.below (below_alloc (Below.refl _ _) _), hW.2.below (below_alloc (Below.refl _ _) _)⟩) (fun hW => ?_)
    try simp only [Act.put, List.setIfInBounds_toArray, List.set_cons_zero, List.set_cons_succ]
    have WDB2 := Aside0.mk (show Below W4.heap.size W4 (Wd.alloc (.cells z 33)) from below_alloc WDB.out _)
    obtain ⟨Wa, hWa⟩ : ∃ Wa, Wa = Wd.alloc (.cells z 33) := ⟨_, rfl⟩
    rw [← hWa] at HGZ0 hW WDB2 ⊢
    clear hWa halD
    obtain ⟨g, hg⟩ : ∃ g, g = Wd.heap.size := ⟨_, rfl⟩
    have HGW := Aside0.mk (show W4.heap.size ≤ g by rw [hg]; exact WDB.out.size)
    rw [← hg] at HGZ0 ⊢
    clear hg
    refine wpAnyH_ready (rs := [10]) (by kernel_rfl) (by simp) (AllReadyH.cons rfl (fun K3 hK3 => ?_) AllReadyH.nil)
    go_simp
    refine (write15 d N m f ep A c n L Wa (H4.out.disk.below WDB2.out) (H4.out.map.below WDB2.out) (Kd.C_kept_step HDAT.out (Kept.of_below WDB2.out _)) HD.out.2.1 HD.out.2.2.1 HRW.out (by rw [← HK.out]; exact HF.out.2.2.1)).mono ?_
    rintro e W7 ⟨he, hkb6, hm6⟩
    rw [← HR3.out.1] at he
    subst he
    have hmg : ¬ g = m := by
      have h1 := HGW.out
      obtain ⟨es, cl, h2, _⟩ := H4.out.map
      have := blk_lt h2
      omega
    have HGZ := Aside0.mk (blk_kept HGZ0.out hkb6.kept hmg)
    refine hK3.out _ _ (⟨hW.1.then_ hkb6 (fun k hk => .inl hk), hm6⟩) (fun hW => ?_)
    try simp only [Act.put, List.setIfInBounds_toArray, List.set_cons_zero, List.set_cons_succ]
    clear hkb6 hm6 hmg HGZ0 WDB2
    refine wpAnyH_take (i := 11) (oi := ⟨some 52, _, _, _, _, _⟩) (v := .tuple #[.agg r3, .int .i64 0]) rfl (by kernel_rfl) (by kernel_rfl) (by kernel_rfl) (fun _ _ _ h => h) (.inl ⟨by rfl, fun W1 h1 => by go_simp⟩) hW ?_
    try simp only [Act.put, List.setIfInBounds_toArray, List.set_cons_zero, List.set_cons_succ]
    refine wpAnyH_take (i := 12) (oi := ⟨some 64, _, _, _, _, _⟩) (v := .agg r3) rfl (by kernel_rfl) (by kernel_rfl) (by kernel_rfl) (fun _ _ _ h => h) (.inl ⟨by rfl, fun W1 h1 => by go_simp⟩) hW ?_
    try simp only [Act.put, List.setIfInBounds_toArray, List.set_cons_zero, List.set_cons_succ]
    refine wpAnyH_take (i := 13) (oi := ⟨some 65, _, _, _, _, _⟩) (v := .int .i64 0) rfl (by kernel_rfl) (by kernel_rfl) (by kernel_rfl) (fun _ _ _ h => h) (.inl ⟨by rfl, fun W1 h1 => by go_simp⟩) hW ?_
    try simp only [Act.put, List.setIfInBounds_toArray, List.set_cons_zero, List.set_cons_succ]
    refine wpAnyH_ready (rs := [15]) (by kernel_rfl) (by simp) (AllReadyH.cons rfl (fun K4 hK4 => ?_) AllReadyH.nil)
    refine wp_store_row (o := ⟨none, _, _, _, _, _⟩) 33 (.tmp 10) (.tmp 64) rfl g r3 rfl rfl 33 z HGZ.out (by rw [i33, HR3.out.2.1]) (by rw [HR3.out.2.1, HZS.out.1]) HR3.out.2.2 ?_
    refine hK4.out _ _ (⟨KB_setRow hW.1 HGW.out r3, MI_setRow hW.2 (by have h1 := HGW.out; obtain ⟨es, cl, h2, _⟩ := H4.out.map; have := blk_lt h2; omega) r3⟩) (fun hW => ?_)
    try simp only [Act.put, List.setIfInBounds_toArray, List.set_cons_zero, List.set_cons_succ]
    have HGR := Aside0.mk (setRow_heap _ g z r3 33 _ HGZ.out)
    obtain ⟨W8, hW8⟩ : ∃ W8, W8 = W7.setRow g r3 := ⟨_, rfl⟩
    rw [← hW8] at HGR hW ⊢
    clear hW8
    refine wpAnyH_take (i := 16) (oi := ⟨some 9, _, _, _, _, _⟩) (v := .int .i64 0) rfl (by kernel_rfl) (by kernel_rfl) (by kernel_rfl) (fun _ _ _ h => h) (.inl ⟨by rfl, fun W1 h1 => by go_simp⟩) hW ?_
    try simp only [Act.put, List.setIfInBounds_toArray, List.set_cons_zero, List.set_cons_succ]
    refine wpAnyH_done (by kernel_rfl) ?_ _
    clear hK2 hK3 hK4 K2 K3 K4
    have H8 := Aside0.mk (PO_disk H4.out hW.1.kept hW.2)
    have HZ8 := Aside0.mk (show W8.heap[w.heap.size]? = some (.cells z 33 (0, 0)) from blk_kept HZ4.out hW.1.kept HZM.out)
    have HK8 := Aside0.mk (show KB w W8 (fun k => k = m ∨ k = a) from HKW.out.then_ hW.1 (fun k hk => .inl (.inl hk)))
    clear hW
    go_wp2_with (first | (refine wpList_load_row rfl 33 (.tmp 10) rfl g rfl 33 r3 (0, 0) _ HGR.out underl56 rfl (by rw [i33, HR3.out.2.1]) ?_) | (refine wpList_store_row rfl 33 (.tmp 4) (.tmp 78) rfl w.heap.size r3 rfl rfl 33 z HZ8.out (by rw [i33, HR3.out.2.1]) (by rw [HR3.out.2.1, HZS.out.1]) HR3.out.2.2 ?_))
    refine bodyPost_ret (res_ct (p := 4) (q := 5) _ rfl rfl (setRow_heap _ w.heap.size z r3 33 _ HZ8.out) Try.underlying33 rfl (by rw [i33, HR3.out.2.1])) rfl ?_
    rw [HP.out]
    exact ⟨by rw [HR3.out.1]; rfl, KB_setRow HK8.out (Nat.le_refl _) _, PO_row H8.out HZ8.out _⟩
end Go.Proofs.Ytchhdafgmifhdaa.PoolB
