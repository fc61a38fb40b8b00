/- Own texts, one behind the other, each with what the claim uses of it: ShaD DskC AlcA AlcB AlcC AlcD AlcE AlcF ShaE PtrA PtrE OfA PtrB SpnA BlkA PoolA BlkB PoolB DskK BlkK ChkK BrdK PolK Shelf. -/
import Derived.Test.YtchhdafgmifhdaaGreatChecked
import GoSem.Claim
import GoSem.ClaimJoined
import GoSem.ClaimMapViews
import Derived.JoinedTies
import Derived.KernelRfl
import Derived.Test.YtchhdafgmifhdaaGreatProg
import Derived.Below
import Derived.Deep.Draws
import Derived.Deep.AppendLies
import Derived.Maps.AppendAt
import Derived.OwnWalk
import Derived.Laws.BytesArg
import Derived.Laws.MakeOwn
import Derived.Laws.OwnMore
import Derived.Deep.OwnRows
import Derived.Tactics
import Derived.Lib.ConvBytes
import Derived.Laws.Slices
import Derived.WalkKit
import Derived.RowKit3
import Derived.Deep.LoopGhost
import Derived.Deep.QuietTactic
import Derived.BigQuiet
import Derived.WideLaws
import Derived.Deep.DeepCutAuto
import Derived.Deep.CutBlock
import Derived.Deep.RegionHeld3
import Derived.Laws.Rows
import Derived.Lib.AppendStr
import Derived.ArgAppend
import Derived.Laws.IdiomCopy
import Derived.OrdersHeld
import Derived.Laws.BitsLemmas
import Derived.RowKit
import Derived.Laws.StructEq
import Derived.Deep.Slices
import Derived.WalkSpells
import Derived.WalkSmall
import Derived.Laws.Tables
import Derived.Deep.WholeRow
import Derived.StillTailTactics
import Derived.MapKept
import Derived.Laws.CopyOwn
import Derived.Maps.RangeRun
import Derived.Deep.MidRow
import Derived.Laws.Cover3
import Derived.Shelf.Strconv.Itoa0
import Derived.Shelf.Slices.Turned
import Derived.Shelf.Bytes.SlSearch0
import Derived.Shelf.Bytes.SlEqualAll
import Derived.Shelf.Bytes.Small
import Derived.Outline
import Derived.Lib.EndianBits
import Derived.ShutString
import Derived.Lib.BytesEntry
import Derived.Lib.Bytealg
import Derived.Laws.Externs
import Derived.Lib.SmallJoins
import Derived.Deep.RegionHeld
import Derived.OpenShut
import Derived.ProofKit
import Derived.ChangeOld
import Derived.SizedLaws
import Derived.Test.YtchhdafgmifhdaaGreatWWords
import Derived.Test.YtchhdafgmifhdaaGreatSFA
namespace Go.Proofs.YtchhdafgmifhdaaGreat.ShaD
open Go.RowKit Go.Proofs.YtchhdafgmifhdaaGreat.B8 Go.Proofs.YtchhdafgmifhdaaGreat.Agg Go.Proofs.YtchhdafgmifhdaaGreat.CodL Go.Proofs.YtchhdafgmifhdaaGreat.CodA Go.Proofs.YtchhdafgmifhdaaGreat.CodB Go.Proofs.YtchhdafgmifhdaaGreat.CrcL Go.Proofs.YtchhdafgmifhdaaGreat.CrcA Go.Proofs.YtchhdafgmifhdaaGreat.CrcB Go.Proofs.YtchhdafgmifhdaaGreat.PVerifyForms Go.Proofs.YtchhdafgmifhdaaGreatW.PrintWords Go.Proofs.YtchhdafgmifhdaaGreatW.PrintLast Go.Proofs.YtchhdafgmifhdaaGreatW.PrintMore Go.Proofs.YtchhdafgmifhdaaGreat.ShaA Go.Proofs.YtchhdafgmifhdaaGreat.ShaB Go.Proofs.YtchhdafgmifhdaaGreat.ShaK Go.Proofs.YtchhdafgmifhdaaGreat.ShaC Go.Proofs.YtchhdafgmifhdaaGreat.CrcC
set_option linter.unusedVariables false
set_option linter.unusedSimpArgs false
attribute [local go_sem] xr_eq an_eq or_eq ad_eq ad_eq2
attribute [local go_sem] max2_int min2_int max_two min_two
def beginH : List Int := [1779033703, 3144134277, 1013904242, 2773480762, 1359893119, 2600822924, 528734635, 1541459225]
abbrev B90 : Array Value := #[.int .u32 1779033703, .int .u32 3144134277, .int .u32 1013904242, .int .u32 2773480762, .int .u32 1359893119, .int .u32 2600822924, .int .u32 528734635, .int .u32 1541459225, .int .u64 0]
theorem b90 : B90 = stA beginH 0 := by
  unfold stA arr beginH
  rfl
set_option maxRecDepth 100000 in
theorem begin_calls (w : World) : Calls Tryz.prog 159 #[] w fun e w' => e = .returned (.agg (stA beginH 0)) ∧ Below w.heap.size w w' := by
  rw [← b90]
  obtain ⟨P, hP⟩ : ∃ P : Ending → World → Prop, P = (fun e w' => e = .returned (.agg B90) ∧ Below w.heap.size w w') := ⟨_, rfl⟩
  rw [← hP]
  have HP := Aside0.mk hP
  clear hP
  go_enter Tryz.func159, Tryz.ntmps159
  go_wp2
  refine bodyPost_ret (res_c (p := 0) _ rfl rfl (heap_new _ _) Tryz.underlying237 rfl i90) rfl ?_
  rw [HP.out]
  exact ⟨rfl, below_alloc (Below.refl _ _) _⟩
abbrev Z93 : Array Value := #[.int .u8 0, .int .u8 0, .int .u8 0, .int .u8 0, .int .u8 0, .int .u8 0, .int .u8 0, .int .u8 0, .int .u8 0, .int .u8 0, .int .u8 0, .int .u8 0, .int .u8 0, .int .u8 0, .int .u8 0, .int .u8 0, .int .u8 0, .int .u8 0, .int .u8 0, .int .u8 0, .int .u8 0, .int .u8 0, .int .u8 0, .int .u8 0, .int .u8 0, .int .u8 0, .int .u8 0, .int .u8 0, .int .u8 0, .int .u8 0, .int .u8 0, .int .u8 0, .int .u8 0, .int .u8 0, .int .u8 0, .int .u8 0, .int .u8 0, .int .u8 0, .int .u8 0, .int .u8 0, .int .u8 0, .int .u8 0, .int .u8 0, .int .u8 0, .int .u8 0, .int .u8 0, .int .u8 0, .int .u8 0, .int .u8 0, .int .u8 0, .int .u8 0, .int .u8 0, .int .u8 0, .int .u8 0, .int .u8 0, .int .u8 0, .int .u8 0, .int .u8 0, .int .u8 0, .int .u8 0, .int .u8 0, .int .u8 0, .int .u8 0, .int .u8 0]
abbrev Z31 : Array Value := #[.int .u8 0, .int .u8 0, .int .u8 0, .int .u8 0, .int .u8 0, .int .u8 0, .int .u8 0, .int .u8 0, .int .u8 0, .int .u8 0, .int .u8 0, .int .u8 0, .int .u8 0, .int .u8 0, .int .u8 0, .int .u8 0, .int .u8 0, .int .u8 0, .int .u8 0, .int .u8 0, .int .u8 0, .int .u8 0, .int .u8 0, .int .u8 0, .int .u8 0, .int .u8 0, .int .u8 0, .int .u8 0, .int .u8 0, .int .u8 0, .int .u8 0, .int .u8 0]
theorem z93 : Z93 = arr .u8 (List.replicate 64 0) := rfl
theorem z31 : Z31 = arr .u8 (List.replicate 32 0) := rfl
theorem i5 : (Tryz.prog.info? 5).map (·.size) = some 1 := by kernel_rfl
theorem und31 : Tryz.prog.underlying 30 = some (.array 32 5) := by kernel_rfl
theorem i31 : (Tryz.prog.info? 30).map (·.size) = some 32 := by kernel_rfl
/-- The rest, marked, and zeros. -/
def padR (R : List Int) : List Int := (R ++ List.replicate (64 - R.length) 0).set R.length 128
/-- The length is laid. -/
def putN (L : List Int) (n : Int) : Nat → List Int
  | 0 => L
  | i + 1 => (putN L n i).set (63 - i) (n / 2 ^ (8 * i) % 256)
def outB (H : List Int) (i : Nat) : Int := H.getD (i / 4) 0 / 2 ^ (8 * (3 - i % 4)) % 256
def outL (H : List Int) : Nat → List Int
  | 0 => List.replicate 32 0
  | i + 1 => (outL H i).set i (outB H i)
def lenN (n : Int) (m : Nat) : Int := IntKind.u64.wrap (8 * IntKind.u64.wrap (n + (m : Int)))
def endL (H : List Int) (n : Int) (R : List Int) : List Int :=
  if 56 ≤ R.length then outL (blockH (blockH H (padR R)) (putN (List.replicate 64 0) (lenN n R.length) 8)) 32
  else outL (blockH H (putN (padR R) (lenN n R.length) 8)) 32
theorem padR_len {R : List Int} (h : R.length < 64) : (padR R).length = 64 := by rw [padR, List.length_set, List.length_append, List.length_replicate]; omega
theorem putN_len (L : List Int) (n : Int) (i : Nat) : (putN L n i).length = L.length := by
  induction i with
  | zero => rfl
  | succ i ih => rw [putN, List.length_set, ih]
theorem outL_len (H : List Int) (i : Nat) : (outL H i).length = 32 := by
  induction i with
  | zero => rfl
  | succ i ih => rw [outL, List.length_set, ih]
/-- The bytes of a row, one by one. -/
theorem C8_cells {w : World} {A : Option Addr} {n : Nat} {l : List Int} (h : C8 w A n l) (h0 : 0 < n) : ∃ ad, A = some ad ∧ ∀ j v, (l.map (Value.int .u8))[j]? = some v → w.cell? (ad.add j) = some v := by
  obtain ⟨b, off, rfl, _, hc⟩ := C_at 0 h h0
  refine ⟨_, rfl, fun j v hj => ?_⟩
  have hjl : j < l.length := by
    have := (List.getElem?_eq_some_iff.1 hj).1
    simpa using this
  have := hc j (by have := h.1; omega)
  rw [add_at, this]
  rw [List.getElem?_map, List.getElem?_eq_getElem hjl] at hj
  rw [List.getD_eq_getElem?_getD, List.getElem?_eq_getElem hjl]
  simpa using hj
/-- Where End stands. -/
structure EN (w : World) (st : Array Value) (L : List Int) (W : World) : Prop where
  s : W.heap[w.heap.size]? = some (.cells st 237 (0, 0))
  r : W.heap[w.heap.size + 1]? = some (.cells Z31 30 (0, 0))
  b : W.heap[w.heap.size + 1 + 1]? = some (.cells (arr .u8 L) 240 (0, 0))
  below : Below w.heap.size w W
theorem EN.on {w : World} {st : Array Value} {L : List Int} {W W1 : World} (h : EN w st L W) (hb : Below W.heap.size W W1) : EN w st L W1 :=
  ⟨blk_below h.s hb, blk_below h.r hb, blk_below h.b hb, below_then h.below h.below.size hb⟩
theorem EN.set {w : World} {st : Array Value} {L : List Int} {W : World} (h : EN w st L W) (i : Nat) (x : Int) : EN w st (L.set i x) (W.setCell ⟨w.heap.size + 1 + 1, i, none⟩ (.int .u8 x)) :=
  ⟨(Below.heap_setCell W ⟨w.heap.size + 1 + 1, i, none⟩ _ _ (by show _ ≠ w.heap.size + 1 + 1; omega)).trans h.s, (Below.heap_setCell W ⟨w.heap.size + 1 + 1, i, none⟩ _ _ (by show _ ≠ w.heap.size + 1 + 1; omega)).trans h.r, set_arr h.b i x, h.below.setCell (by show _ ≤ w.heap.size + 1 + 1; omega) _⟩
theorem EN.setB {w : World} {st : Array Value} {L L' : List Int} {W : World} (h : EN w st L W) : EN w st L' (W.setRow (w.heap.size + 1 + 1) (arr .u8 L')) :=
  ⟨(setRow_other _ _ _ _ (by omega)).trans h.s, (setRow_other _ _ _ _ (by omega)).trans h.r, setRow_heap _ _ _ _ _ _ h.b, below_setRow h.below (by omega) _⟩
theorem EN.setS {w : World} {st st' : Array Value} {L : List Int} {W : World} (h : EN w st L W) : EN w st' L (W.setRow w.heap.size st') :=
  ⟨setRow_heap _ _ _ _ _ _ h.s, (setRow_other _ _ _ _ (by omega)).trans h.r, (setRow_other _ _ _ _ (by omega)).trans h.b, below_setRow h.below (Nat.le_refl _) _⟩
structure EO (w : World) (st : Array Value) (g : Nat) (L : List Int) (W : World) : Prop where
  s : W.heap[w.heap.size]? = some (.cells st 237 (0, 0))
  r : W.heap[w.heap.size + 1]? = some (.cells Z31 30 (0, 0))
  o : W.heap[g]? = some (.cells (arr .u8 L) 30 (0, 0))
  below : Below w.heap.size w W
theorem EO.set {w : World} {st : Array Value} {g : Nat} {L : List Int} {W : World} (h : EO w st g L W) (h0 : g ≠ w.heap.size) (h1 : g ≠ w.heap.size + 1) (hg : w.heap.size ≤ g) (i : Nat) (x : Int) : EO w st g (L.set i x) (W.setCell ⟨g, i, none⟩ (.int .u8 x)) :=
  ⟨(Below.heap_setCell W ⟨g, i, none⟩ _ _ (Ne.symm h0)).trans h.s, (Below.heap_setCell W ⟨g, i, none⟩ _ _ (Ne.symm h1)).trans h.r, set_arr h.o i x, h.below.setCell hg _⟩
set_option maxRecDepth 100000 in
set_option maxHeartbeats 8000000 in
theorem end_calls (H : List Int) (n : Int) (A : Option Addr) (c m : Nat) (R : List Int) (hH : H.length = 8) (w : World) (hr : C8 w A m R) (hmc : m ≤ c) (hm : m < 64) :
    Calls Tryz.prog 161 #[.agg (stA H n), .slice A m c] w fun e w' => e = .returned (.agg (arr .u8 (endL H n R))) ∧ Below w.heap.size w w' := by
  obtain ⟨P, hP⟩ : ∃ P : Ending → World → Prop, P = (fun e w' => e = .returned (.agg (arr .u8 (endL H n R))) ∧ Below w.heap.size w w') := ⟨_, rfl⟩
  rw [← hP]
  have HP := Aside0.mk hP
  have hRm : R.length = m := hr.1
  obtain ⟨st, hst⟩ : ∃ st, st = stA H n := ⟨_, rfl⟩
  rw [← hst]
  have HST := Aside0.mk (And.intro hst (And.intro hH (show st.size = 9 by rw [hst, stA_size hH])))
  have hcut : ∀ W, (Instr.slice 36 (.slice A m c) none (some (.int .i64 (m : Int))) none).run Tryz.prog W = .ok (.slice A m c) W := cut8_to A m c m (Nat.le_refl _) hmc
  have b0 := below_alloc (below_alloc (Below.refl w.heap.size w) (.cells st 237)) (.cells Z31 30)
  have hs1 : (w.alloc (.cells st 237)).heap.size = w.heap.size + 1 := by simp
  have g0 := blk_alloc (blk_new w (.cells st 237)) (.cells Z31 30)
  have g1 := blk_new (w.alloc (.cells st 237)) (.cells Z31 30)
  rw [hs1] at g1
  have hs2 : ((w.alloc (.cells st 237)).alloc (.cells Z31 30)).heap.size = w.heap.size + 1 + 1 := by simp
  have g2 := blk_new ((w.alloc (.cells st 237)).alloc (.cells Z31 30)) (.cells Z93 240)
  rw [hs2] at g2
  have HE := Aside0.mk (⟨blk_alloc g0 _, blk_alloc g1 _, by rw [← z93]; exact g2, below_alloc b0 _⟩ : EN w st (List.replicate 64 0) (((w.alloc (.cells st 237)).alloc (.cells Z31 30)).alloc (.cells Z93 240)))
  have q8 : ((w.alloc (.cells st 237)).alloc (.cells Z31 30)).cell? ⟨w.heap.size, 8, none⟩ = some (.int .u64 n) := by rw [cell_of_row _ _ 8 _ 237 (0, 0) g0, hst, stA_n hH]
  have HR := Aside0.mk (And.intro hr hRm)
  have HM := Aside0.mk hmc
  clear hP hst hH g0 g1 g2 b0 hs1 hs2 hr hRm hmc
  have hcs : 0 < (R.map (Value.int .u8)).length → (some (⟨w.heap.size + 1 + 1, 0, none⟩ : Addr)) = some ⟨w.heap.size + 1 + 1, 0, none⟩ ∧ ∃ ad, A = some ad ∧ ∀ j v, (R.map (Value.int .u8))[j]? = some v → (((w.alloc (.cells st 237)).alloc (.cells Z31 30)).alloc (.cells Z93 240)).cell? (ad.add j) = some v := fun h0 => by
    have hrd : C8 (((w.alloc (.cells st 237)).alloc (.cells Z31 30)).alloc (.cells Z93 240)) A m R := Kd.C_below HR.out.1 HE.out.below
    obtain ⟨ad, e, hc⟩ := C8_cells hrd (by rw [List.length_map] at h0; have := HR.out.2; omega)
    exact ⟨rfl, ad, e, hc⟩
  have HCS := Aside0.mk hcs
  clear hcs
  go_enter Tryz.func161, Tryz.ntmps161
  go_wp2_with (refine wpList_copy_splice (o := ⟨some 24, _, _, _, _, _⟩) rfl (.tmp 22) (.tmp 23) 36 36 rfl 5 Tryz.underlying36 i5 (some ⟨w.heap.size + 1 + 1, 0, none⟩) A 64 64 m c rfl rfl (w.heap.size + 1 + 1) 0 ((List.replicate 64 0).map (Value.int .u8)) 240 HE.out.b (R.map (Value.int .u8)) (by rw [List.length_map, HR.out.2]; exact (Nat.min_eq_left (by omega)).symm) HCS.out (by rw [List.length_map, List.length_map, List.length_replicate]; have := HR.out.2; omega) (fun v hv => by obtain ⟨x, _, rfl⟩ := List.mem_map.1 hv; rfl) (w.heap.size + 1 + 1) _ (Below.refl _ _) (Nat.le_refl _) ?_)
  intro w3 hsp hb3
  have hE3 : EN w st (R ++ List.replicate (64 - R.length) 0) w3 := by
    refine ⟨(hb3.block _ (by omega)).trans HE.out.s, (hb3.block _ (by omega)).trans HE.out.r, ?_, HE.out.below.trans (hb3.mono (by omega))⟩
    refine (show w3.heap[w.heap.size + 1 + 1]? = some (.cells (splice ((List.replicate 64 0).map (Value.int .u8)) 0 (R.map (Value.int .u8))).toArray 240 (0, 0)) from hsp.out).trans ?_
    unfold splice arr
    simp only [List.take_zero, List.nil_append, List.map_append, List.map_replicate, List.drop_replicate, List.length_map, Nat.zero_add]
  have HE3 := Aside0.mk hE3
  have q1 : w3.frozen? ⟨w.heap.size + 1 + 1, m, none⟩ = false := frozen_of_row _ _ m _ 240 hE3.b
  have q0 : w3.cell? ⟨w.heap.size + 1 + 1, m, none⟩ = some (.int .u8 ((R ++ List.replicate (64 - R.length) 0).getD m 0)) := by
    rw [cell_of_row _ _ m _ 240 (0, 0) hE3.b, arr_at (by rw [List.length_append, List.length_replicate]; have := HR.out.2; omega)]
  have HL := Aside0.mk (show (R.map (Value.int .u8)).length = m by rw [List.length_map]; exact HR.out.2)
  first | rw [HL.out] | rw [HR.out.2]
  have HE4 := Aside0.mk (hE3.set m 128)
  rw [← HR.out.2] at HE4
  clear hE3 hsp hb3 HE HCS q8
  obtain ⟨nn, hnn⟩ : ∃ nn, nn = lenN n m := ⟨_, rfl⟩
  have HNN := Aside0.mk hnn
  rw [show IntKind.u64.wrap (8 * IntKind.u64.wrap (n + (m : Int))) = nn from hnn.symm]
  clear hnn
  by_cases h56 : 56 ≤ m
  · have hd : decide ((56 : Int) ≤ (m : Int)) = true := decide_eq_true (by omega)
    have HE6 : Aside0 (EN w st (padR R) (w3.setCell ⟨w.heap.size + 1 + 1, m, none⟩ (.int .u8 128))) := ⟨by have := HE4.out; rw [HR.out.2] at this; rw [padR, HR.out.2]; exact this⟩
    have hpl := padR_len (R := R) (by have := HR.out.2; omega)
    obtain ⟨cb, hcb⟩ : ∃ cb, cb = arr .u8 (padR R) := ⟨_, rfl⟩
    have HCB := Aside0.mk (And.intro hcb (And.intro (show cb.size = 64 by rw [hcb, arr_size, hpl]) hpl))
    have hsb := Aside0.mk HE6.out.b
    rw [← hcb] at hsb
    clear hcb HE4 hpl
    go_wp2_with (first | (refine wpList_load_row rfl 237 (.tmp 2) rfl w.heap.size rfl 237 st (0, 0) _ HE6.out.s Tryz.underlying237 rfl (by rw [i90, HST.out.2.2]) ?_) | (refine wpList_load_row rfl 240 (.tmp 6) rfl (w.heap.size + 1 + 1) rfl 240 cb (0, 0) _ hsb.out u93 rfl (by rw [i93, HCB.out.2.1]) ?_))
    generalize hw6 : w3.setCell ⟨w.heap.size + 1 + 1, m, none⟩ (.int .u8 128) = w6 at *
    clear hw6
    have hbc := block_calls H n (padR R) HST.out.2.1 HCB.out.2.2 w6
    rw [← HST.out.1, ← HCB.out.1] at hbc
    refine hbc.mono ?_
    rintro e w7 ⟨he, hb7⟩
    obtain ⟨st1, hst1⟩ : ∃ x, x = stA (blockH H (padR R)) (IntKind.u64.wrap (n + 64)) := ⟨_, rfl⟩
    rw [← hst1] at he
    subst he
    have HS1 := Aside0.mk (And.intro hst1 (And.intro (show (blockH H (padR R)).length = 8 by rw [blockH_len HST.out.2.1]) (show st1.size = 9 by rw [hst1, stA_size (blockH_len HST.out.2.1 _)])))
    have hone := Aside0.mk (show st1.all (·.oneCell') = true by rw [hst1]; exact stA_one _ _)
    have HE7 := Aside0.mk (HE6.out.on hb7)
    have hsb7 := Aside0.mk (show (w7.setRow w.heap.size st1).heap[w.heap.size + 1 + 1]? = some (.cells cb 240 (0, 0)) by rw [setRow_other _ _ _ _ (by omega), HE7.out.b, HCB.out.1])
    have HL1 := Aside0.mk (show (List.replicate 64 (0 : Int)).length = 64 by rw [List.length_replicate])
    have HE5 : Aside0 (EN w st1 (putN (List.replicate 64 0) nn 0) ((w7.setRow w.heap.size st1).setRow (w.heap.size + 1 + 1) Z93)) := ⟨by rw [putN]; exact (HE7.out.setS (st' := st1)).setB (L' := List.replicate 64 0)⟩
    clear hbc hst1 hb7 HE6 hsb
    go_wp2_with (first | (refine wpList_store_row rfl 237 (.tmp 2) (.tmp 31) rfl w.heap.size st1 rfl rfl 237 st HE7.out.s (by rw [i90, HS1.out.2.2]) (by rw [HS1.out.2.2, HST.out.2.2]) hone.out ?_) | (refine wpList_build_of rfl 240 #[] rfl Z93 (by kernel_rfl) ?_) | (refine wpList_store_row rfl 240 (.tmp 6) (.tmp 32) rfl (w.heap.size + 1 + 1) Z93 rfl rfl 240 cb hsb7.out (by rw [i93]; rfl) (by rw [HCB.out.2.1]; rfl) (by rw [z93]; exact arr_one _ _) ?_))
    go_loopw [33] (fun v33 wr => ∃ (i : Nat), v33 = .int .i64 (i : Int) ∧ i ≤ 8 ∧ Aside0 (EN w st1 (putN (List.replicate 64 0) nn i) wr)) (fun v _ => 8 - (intOf v).toNat)
    case atStart => exact ⟨0, rfl, by omega, HE5⟩
    case round =>
      clear HE5
      obtain ⟨i, rfl, hi, HE⟩ := hrel
      by_cases hlt : i < 8
      · have hd : decide ((i : Int) < 8) = true := decide_eq_true (by omega)
        obtain ⟨j, hj1, hj2⟩ : ∃ j, j + i ≤ 63 ∧ 63 ≤ j + i := ⟨63 - i, by omega, by omega⟩
        have hji : (63 : Int) - (i : Int) = (j : Int) := by omega
        have h8i : (8 * (i : Int)).toNat = 8 * i := by omega
        have q1 : wr.frozen? ⟨w.heap.size + 1 + 1, j, none⟩ = false := frozen_of_row _ _ j _ 240 HE.out.b
        have q0 : wr.cell? ⟨w.heap.size + 1 + 1, j, none⟩ = some (.int .u8 ((putN (List.replicate 64 0) nn i).getD j 0)) := by
          rw [cell_of_row _ _ j _ 240 (0, 0) HE.out.b, arr_at (by rw [putN_len, HL1.out]; omega)]
        have HE2 := Aside0.mk (HE.out.set j (nn / 2 ^ (8 * i) % 256))
        have HN := Aside0.mk (show (putN (List.replicate 64 0) nn i).set j (nn / 2 ^ (8 * i) % 256) = putN (List.replicate 64 0) nn (i + 1) by rw [putN, show 63 - i = j by omega])
        rw [HN.out] at HE2
        go_wp2
        go_roundw
        case rel => exact ⟨i + 1, by go_num, by omega, HE2⟩
        case measure => simp [intOf]; omega
      · obtain rfl : i = 8 := by omega
        rw [show ((8 : Nat) : Int) = 8 from rfl]
        have hd : decide ((8 : Int) < 8) = false := by decide
        obtain ⟨cb, hcb⟩ : ∃ cb, cb = arr .u8 (putN (List.replicate 64 0) nn 8) := ⟨_, rfl⟩
        have HCB := Aside0.mk (And.intro hcb (show cb.size = 64 by rw [hcb, arr_size, putN_len, HL1.out]))
        have hsb := Aside0.mk HE.out.b
        rw [← hcb] at hsb
        clear hcb
        go_wp2_with (first | (refine wpList_load_row rfl 237 (.tmp 2) rfl w.heap.size rfl 237 st1 (0, 0) _ HE.out.s Tryz.underlying237 rfl (by rw [i90, HS1.out.2.2]) ?_) | (refine wpList_load_row rfl 240 (.tmp 6) rfl (w.heap.size + 1 + 1) rfl 240 cb (0, 0) _ hsb.out u93 rfl (by rw [i93, HCB.out.2]) ?_))
        have hbc := block_calls (blockH H (padR R)) (IntKind.u64.wrap (n + 64)) (putN (List.replicate 64 0) nn 8) HS1.out.2.1 (by rw [putN_len, HL1.out]) wr
        rw [← HS1.out.1, ← HCB.out.1] at hbc
        refine hbc.mono ?_
        rintro e w4 ⟨he, hb4⟩
        obtain ⟨st2, hst2⟩ : ∃ x, x = stA (blockH (blockH H (padR R)) (putN (List.replicate 64 0) nn 8)) (IntKind.u64.wrap ((IntKind.u64.wrap (n + 64)) + 64)) := ⟨_, rfl⟩
        rw [← hst2] at he
        subst he
        obtain ⟨H2, hH2⟩ : ∃ x, x = blockH (blockH H (padR R)) (putN (List.replicate 64 0) nn 8) := ⟨_, rfl⟩
        have HS2 := Aside0.mk (And.intro (show st2 = stA H2 (IntKind.u64.wrap ((IntKind.u64.wrap (n + 64)) + 64)) by rw [hst2, hH2]) (And.intro (show H2.length = 8 by rw [hH2, blockH_len HS1.out.2.1]) (And.intro (show st2.size = 9 by rw [hst2, stA_size (blockH_len HS1.out.2.1 _)]) (show st2.all (·.oneCell') = true by rw [hst2]; exact stA_one _ _))))
        have HF := Aside0.mk (show outL H2 32 = endL H n R by rw [endL, if_pos (by rw [HR.out.2]; omega), HR.out.2, ← HNN.out, ← hH2])
        have he4 := (HE.out.on hb4)
        have HE4s := Aside0.mk he4
        have he6 := he4.setS (st' := st2)
        obtain ⟨w5, hw5⟩ : ∃ w5, w5 = w4.setRow w.heap.size st2 := ⟨_, rfl⟩
        rw [← hw5] at he6
        have hlt5 : w.heap.size + 1 + 1 < w5.heap.size := blk_lt he6.b
        have HO := Aside0.mk (⟨blk_alloc he6.s _, blk_alloc he6.r _, by rw [← z31]; exact blk_new w5 (.cells Z31 30), below_alloc he6.below _⟩ : EO w st2 w5.heap.size (List.replicate 32 0) (w5.alloc (.cells Z31 30)))
        obtain ⟨g8, hg8⟩ : ∃ g8, g8 = w5.heap.size := ⟨_, rfl⟩
        have HG8 := Aside0.mk hg8
        have hg8w : g8 = w4.heap.size := by rw [hg8, hw5, size_setRow]
        rw [← hg8] at HO hlt5
        have HW5 := Aside0.mk hw5
        clear hbc hst2 hH2 hb4 he4 he6 hg8 HE hsb
        have hsz : (w4.setRow w.heap.size st2).heap.size = g8 := by rw [size_setRow, ← hg8w]
        clear hg8w
        go_wp2_with (refine wpList_store_row rfl 237 (.tmp 2) (.tmp 47) rfl w.heap.size st2 rfl rfl 237 st1 HE4s.out.s (by rw [i90, HS2.out.2.2.1]) (by rw [HS2.out.2.2.1, HS1.out.2.2]) HS2.out.2.2.2 ?_)
        go_loopw [48] (fun v48 wr => ∃ (i : Nat), v48 = .int .i64 (i : Int) ∧ i ≤ 32 ∧ Aside0 (EO w st2 g8 (outL H2 i) wr)) (fun v _ => 32 - (intOf v).toNat)
        case atStart => exact ⟨0, rfl, by omega, ⟨by rw [← HW5.out]; exact HO.out⟩⟩
        case round =>
          clear HO
          obtain ⟨i, rfl, hi, HO⟩ := hrel
          by_cases hlt : i < 32
          · have hd : decide ((i : Int) < 32) = true := decide_eq_true (by omega)
            obtain ⟨q, hq⟩ : ∃ q, q = i / 4 := ⟨_, rfl⟩
            have hqi : (i : Int) / 4 = (q : Int) := by omega
            obtain ⟨r, hr⟩ : ∃ r, r = i % 4 := ⟨_, rfl⟩
            have hri : (i : Int) % 4 = (r : Int) := by omega
            have hr4 : r ≤ 3 := by omega
            obtain ⟨s, hs⟩ : ∃ s, s = 8 * (3 - r) := ⟨_, rfl⟩
            have hsi : (8 : Int) * (3 - (r : Int)) = (s : Int) := by omega
            have hq8 : q < 8 := by omega
            have hs24 : s ≤ 24 := by omega
            obtain ⟨x, hx⟩ : ∃ x, x = H2.getD q 0 := ⟨_, rfl⟩
            have q0 : wr.cell? ⟨w.heap.size, q, none⟩ = some (.int .u32 x) := by rw [cell_of_row _ _ q _ 237 (0, 0) HO.out.s, HS2.out.1, stA_at HS2.out.2.1 _ hq8, hx]
            have q1 : wr.frozen? ⟨g8, i, none⟩ = false := frozen_of_row _ _ i _ 30 HO.out.o
            have q2 : wr.cell? ⟨g8, i, none⟩ = some (.int .u8 ((outL H2 i).getD i 0)) := by
              rw [cell_of_row _ _ i _ 30 (0, 0) HO.out.o, arr_at (by rw [outL_len]; exact hlt)]
            have HN := Aside0.mk (show (outL H2 i).set i (x / 2 ^ s % 256) = outL H2 (i + 1) by rw [outL, outB, hx, hs, hq, hr])
            have HO2 := Aside0.mk (HO.out.set (by omega) (by omega) (by omega) i (x / 2 ^ s % 256))
            rw [HN.out] at HO2
            clear hq hr hs hx
            go_wp2
            go_roundw
            case rel => exact ⟨i + 1, by go_num, by omega, HO2⟩
            case measure => simp [intOf]; omega
          · obtain rfl : i = 32 := by omega
            rw [show ((32 : Nat) : Int) = 32 from rfl]
            have hd : decide ((32 : Int) < 32) = false := by decide
            obtain ⟨co, hco⟩ : ∃ x, x = arr .u8 (outL H2 32) := ⟨_, rfl⟩
            have HCO := Aside0.mk (And.intro hco (And.intro (show co.size = 32 by rw [hco, arr_size, outL_len]) (show co.all (·.oneCell') = true by rw [hco]; exact arr_one _ _)))
            have HOO := Aside0.mk HO.out.o
            rw [← hco] at HOO
            clear hco
            go_wp2_with (first | (refine wpList_load_row rfl 30 (.tmp 8) rfl g8 rfl 30 co (0, 0) _ HOO.out und31 rfl (by rw [i31, HCO.out.2.1]) ?_) | (refine wpList_store_row rfl 30 (.tmp 4) (.tmp 65) rfl (w.heap.size + 1) co rfl rfl 30 Z31 HO.out.r (by rw [i31, HCO.out.2.1]) (by rw [HCO.out.2.1]; rfl) HCO.out.2.2 ?_))
            refine bodyPost_ret (res_c (p := 4) _ rfl rfl (setRow_heap _ (w.heap.size + 1) Z31 co 30 _ HO.out.r) und31 rfl (by rw [i31, HCO.out.2.1])) rfl ?_
            rw [HP.out]
            exact ⟨by rw [HCO.out.1, HF.out], below_setRow HO.out.below (by omega) _⟩
  · have hd : decide ((56 : Int) ≤ (m : Int)) = false := decide_eq_false (by omega)
    have HL1 := Aside0.mk (show (padR R).length = 64 by rw [padR_len (by have := HR.out.2; omega)])
    have HS1 := HST
    have HE5 : Aside0 (EN w st (putN (padR R) nn 0) (w3.setCell ⟨w.heap.size + 1 + 1, m, none⟩ (.int .u8 128))) := ⟨by have := HE4.out; rw [HR.out.2] at this; rw [putN, padR, HR.out.2]; exact this⟩
    clear HE4
    go_wp2
    go_loopw [33] (fun v33 wr => ∃ (i : Nat), v33 = .int .i64 (i : Int) ∧ i ≤ 8 ∧ Aside0 (EN w st (putN (padR R) nn i) wr)) (fun v _ => 8 - (intOf v).toNat)
    case atStart => exact ⟨0, rfl, by omega, HE5⟩
    case round =>
      clear HE5
      obtain ⟨i, rfl, hi, HE⟩ := hrel
      by_cases hlt : i < 8
      · have hd : decide ((i : Int) < 8) = true := decide_eq_true (by omega)
        obtain ⟨j, hj1, hj2⟩ : ∃ j, j + i ≤ 63 ∧ 63 ≤ j + i := ⟨63 - i, by omega, by omega⟩
        have hji : (63 : Int) - (i : Int) = (j : Int) := by omega
        have h8i : (8 * (i : Int)).toNat = 8 * i := by omega
        have q1 : wr.frozen? ⟨w.heap.size + 1 + 1, j, none⟩ = false := frozen_of_row _ _ j _ 240 HE.out.b
        have q0 : wr.cell? ⟨w.heap.size + 1 + 1, j, none⟩ = some (.int .u8 ((putN (padR R) nn i).getD j 0)) := by
          rw [cell_of_row _ _ j _ 240 (0, 0) HE.out.b, arr_at (by rw [putN_len, HL1.out]; omega)]
        have HE2 := Aside0.mk (HE.out.set j (nn / 2 ^ (8 * i) % 256))
        have HN := Aside0.mk (show (putN (padR R) nn i).set j (nn / 2 ^ (8 * i) % 256) = putN (padR R) nn (i + 1) by rw [putN, show 63 - i = j by omega])
        rw [HN.out] at HE2
        go_wp2
        go_roundw
        case rel => exact ⟨i + 1, by go_num, by omega, HE2⟩
        case measure => simp [intOf]; omega
      · obtain rfl : i = 8 := by omega
        rw [show ((8 : Nat) : Int) = 8 from rfl]
        have hd : decide ((8 : Int) < 8) = false := by decide
        obtain ⟨cb, hcb⟩ : ∃ cb, cb = arr .u8 (putN (padR R) nn 8) := ⟨_, rfl⟩
        have HCB := Aside0.mk (And.intro hcb (show cb.size = 64 by rw [hcb, arr_size, putN_len, HL1.out]))
        have hsb := Aside0.mk HE.out.b
        rw [← hcb] at hsb
        clear hcb
        go_wp2_with (first | (refine wpList_load_row rfl 237 (.tmp 2) rfl w.heap.size rfl 237 st (0, 0) _ HE.out.s Tryz.underlying237 rfl (by rw [i90, HS1.out.2.2]) ?_) | (refine wpList_load_row rfl 240 (.tmp 6) rfl (w.heap.size + 1 + 1) rfl 240 cb (0, 0) _ hsb.out u93 rfl (by rw [i93, HCB.out.2]) ?_))
        have hbc := block_calls H n (putN (padR R) nn 8) HS1.out.2.1 (by rw [putN_len, HL1.out]) wr
        rw [← HS1.out.1, ← HCB.out.1] at hbc
        refine hbc.mono ?_
        rintro e w4 ⟨he, hb4⟩
        obtain ⟨st2, hst2⟩ : ∃ x, x = stA (blockH H (putN (padR R) nn 8)) (IntKind.u64.wrap (n + 64)) := ⟨_, rfl⟩
        rw [← hst2] at he
        subst he
        obtain ⟨H2, hH2⟩ : ∃ x, x = blockH H (putN (padR R) nn 8) := ⟨_, rfl⟩
        have HS2 := Aside0.mk (And.intro (show st2 = stA H2 (IntKind.u64.wrap (n + 64)) by rw [hst2, hH2]) (And.intro (show H2.length = 8 by rw [hH2, blockH_len HS1.out.2.1]) (And.intro (show st2.size = 9 by rw [hst2, stA_size (blockH_len HS1.out.2.1 _)]) (show st2.all (·.oneCell') = true by rw [hst2]; exact stA_one _ _))))
        have HF := Aside0.mk (show outL H2 32 = endL H n R by rw [endL, if_neg (by rw [HR.out.2]; omega), HR.out.2, ← HNN.out, ← hH2])
        have he4 := (HE.out.on hb4)
        have HE4s := Aside0.mk he4
        have he6 := he4.setS (st' := st2)
        obtain ⟨w5, hw5⟩ : ∃ w5, w5 = w4.setRow w.heap.size st2 := ⟨_, rfl⟩
        rw [← hw5] at he6
        have hlt5 : w.heap.size + 1 + 1 < w5.heap.size := blk_lt he6.b
        have HO := Aside0.mk (⟨blk_alloc he6.s _, blk_alloc he6.r _, by rw [← z31]; exact blk_new w5 (.cells Z31 30), below_alloc he6.below _⟩ : EO w st2 w5.heap.size (List.replicate 32 0) (w5.alloc (.cells Z31 30)))
        obtain ⟨g8, hg8⟩ : ∃ g8, g8 = w5.heap.size := ⟨_, rfl⟩
        have HG8 := Aside0.mk hg8
        have hg8w : g8 = w4.heap.size := by rw [hg8, hw5, size_setRow]
        rw [← hg8] at HO hlt5
        have HW5 := Aside0.mk hw5
        clear hbc hst2 hH2 hb4 he4 he6 hg8 HE hsb
        have hsz : (w4.setRow w.heap.size st2).heap.size = g8 := by rw [size_setRow, ← hg8w]
        clear hg8w
        go_wp2_with (refine wpList_store_row rfl 237 (.tmp 2) (.tmp 47) rfl w.heap.size st2 rfl rfl 237 st HE4s.out.s (by rw [i90, HS2.out.2.2.1]) (by rw [HS2.out.2.2.1, HS1.out.2.2]) HS2.out.2.2.2 ?_)
        go_loopw [48] (fun v48 wr => ∃ (i : Nat), v48 = .int .i64 (i : Int) ∧ i ≤ 32 ∧ Aside0 (EO w st2 g8 (outL H2 i) wr)) (fun v _ => 32 - (intOf v).toNat)
        case atStart => exact ⟨0, rfl, by omega, ⟨by rw [← HW5.out]; exact HO.out⟩⟩
        case round =>
          clear HO
          obtain ⟨i, rfl, hi, HO⟩ := hrel
          by_cases hlt : i < 32
          · have hd : decide ((i : Int) < 32) = true := decide_eq_true (by omega)
            obtain ⟨q, hq⟩ : ∃ q, q = i / 4 := ⟨_, rfl⟩
            have hqi : (i : Int) / 4 = (q : Int) := by omega
            obtain ⟨r, hr⟩ : ∃ r, r = i % 4 := ⟨_, rfl⟩
            have hri : (i : Int) % 4 = (r : Int) := by omega
            have hr4 : r ≤ 3 := by omega
            obtain ⟨s, hs⟩ : ∃ s, s = 8 * (3 - r) := ⟨_, rfl⟩
            have hsi : (8 : Int) * (3 - (r : Int)) = (s : Int) := by omega
            have hq8 : q < 8 := by omega
            have hs24 : s ≤ 24 := by omega
            obtain ⟨x, hx⟩ : ∃ x, x = H2.getD q 0 := ⟨_, rfl⟩
            have q0 : wr.cell? ⟨w.heap.size, q, none⟩ = some (.int .u32 x) := by rw [cell_of_row _ _ q _ 237 (0, 0) HO.out.s, HS2.out.1, stA_at HS2.out.2.1 _ hq8, hx]
            have q1 : wr.frozen? ⟨g8, i, none⟩ = false := frozen_of_row _ _ i _ 30 HO.out.o
            have q2 : wr.cell? ⟨g8, i, none⟩ = some (.int .u8 ((outL H2 i).getD i 0)) := by
              rw [cell_of_row _ _ i _ 30 (0, 0) HO.out.o, arr_at (by rw [outL_len]; exact hlt)]
            have HN := Aside0.mk (show (outL H2 i).set i (x / 2 ^ s % 256) = outL H2 (i + 1) by rw [outL, outB, hx, hs, hq, hr])
            have HO2 := Aside0.mk (HO.out.set (by omega) (by omega) (by omega) i (x / 2 ^ s % 256))
            rw [HN.out] at HO2
            clear hq hr hs hx
            go_wp2
            go_roundw
            case rel => exact ⟨i + 1, by go_num, by omega, HO2⟩
            case measure => simp [intOf]; omega
          · obtain rfl : i = 32 := by omega
            rw [show ((32 : Nat) : Int) = 32 from rfl]
            have hd : decide ((32 : Int) < 32) = false := by decide
            obtain ⟨co, hco⟩ : ∃ x, x = arr .u8 (outL H2 32) := ⟨_, rfl⟩
            have HCO := Aside0.mk (And.intro hco (And.intro (show co.size = 32 by rw [hco, arr_size, outL_len]) (show co.all (·.oneCell') = true by rw [hco]; exact arr_one _ _)))
            have HOO := Aside0.mk HO.out.o
            rw [← hco] at HOO
            clear hco
            go_wp2_with (first | (refine wpList_load_row rfl 30 (.tmp 8) rfl g8 rfl 30 co (0, 0) _ HOO.out und31 rfl (by rw [i31, HCO.out.2.1]) ?_) | (refine wpList_store_row rfl 30 (.tmp 4) (.tmp 65) rfl (w.heap.size + 1) co rfl rfl 30 Z31 HO.out.r (by rw [i31, HCO.out.2.1]) (by rw [HCO.out.2.1]; rfl) HCO.out.2.2 ?_))
            refine bodyPost_ret (res_c (p := 4) _ rfl rfl (setRow_heap _ (w.heap.size + 1) Z31 co 30 _ HO.out.r) und31 rfl (by rw [i31, HCO.out.2.1])) rfl ?_
            rw [HP.out]
            exact ⟨by rw [HCO.out.1, HF.out], below_setRow HO.out.below (by omega) _⟩
end Go.Proofs.YtchhdafgmifhdaaGreat.ShaD
namespace Go.Proofs.YtchhdafgmifhdaaGreat.DskC
open Go.RowKit Go.Proofs.YtchhdafgmifhdaaGreat.B8 Go.Proofs.YtchhdafgmifhdaaGreat.Agg Go.Proofs.YtchhdafgmifhdaaGreat.CodL Go.Proofs.YtchhdafgmifhdaaGreat.CodA Go.Proofs.YtchhdafgmifhdaaGreat.CodB Go.Proofs.YtchhdafgmifhdaaGreat.CrcL Go.Proofs.YtchhdafgmifhdaaGreat.CrcA Go.Proofs.YtchhdafgmifhdaaGreat.CrcB Go.Proofs.YtchhdafgmifhdaaGreat.PVerifyForms Go.Proofs.YtchhdafgmifhdaaGreatW.PrintWords Go.Proofs.YtchhdafgmifhdaaGreatW.PrintLast Go.Proofs.YtchhdafgmifhdaaGreatW.PrintMore Go.Proofs.YtchhdafgmifhdaaGreat.ShaA Go.Proofs.YtchhdafgmifhdaaGreat.ShaC Go.Proofs.YtchhdafgmifhdaaGreat.ShaD Go.Proofs.YtchhdafgmifhdaaGreat.DskA Go.Proofs.YtchhdafgmifhdaaGreat.DskB
set_option linter.unusedVariables false
set_option linter.unusedSimpArgs false
/-- All but the blocks of S is kept, and the world outside. -/
structure KB (w w' : World) (S : Nat → Prop) : Prop where
  os : w'.os = w.os
  tape : w'.tape = w.tape
  output : w'.output = w.output
  kept : Kept w w' S
theorem KB.of_below {w w' : World} (h : Below w.heap.size w w') (S : Nat → Prop) : KB w w' S := ⟨h.os, h.tape, h.output, Kept.of_below h S⟩
theorem KB.then_ {w w1 w2 : World} {S S2 : Nat → Prop} (h : KB w w1 S) (k : KB w1 w2 S2) (hs : ∀ k, S2 k → S k ∨ w.heap.size ≤ k) : KB w w2 S := ⟨k.os.trans h.os, k.tape.trans h.tape, k.output.trans h.output, h.kept.then_ k.kept hs⟩
theorem KB.below {w w1 w2 : World} {S : Nat → Prop} (h : KB w w1 S) (k : Below w1.heap.size w1 w2) : KB w w2 S := h.then_ (KB.of_below k (fun _ => False)) (fun _ hk => hk.elim)
theorem KB.to_below {w w1 : World} {S : Nat → Prop} {B : Nat} (h : KB w w1 S) (hS : ∀ k, S k → B ≤ k) (hB : B ≤ w.heap.size) : Below B w w1 := ⟨h.os, h.tape, h.output, h.kept.1, fun k hk => h.kept.2 k (by omega) (fun hs => by have := hS k hs; omega)⟩
theorem size80 : (Tryz.prog.info? 125).map (·.size) = some 512 := by kernel_rfl
theorem under80 : Tryz.prog.underlying 125 = some (.array 512 5) := by kernel_rfl
theorem wp_mapUpdate60 {o : Oper} {a : Act} {w w1 : World} {K : Act → World → Prop} {Q : Exit → Act → World → Prop} (x y z : Operand) (ho : o.op = .mapUpdate 128 x y z) (u v s : Value) (hx : a.eval x = u) (hy : a.eval y = v) (hz : a.eval z = s)
    (hrun : (Instr.mapUpdate 128 u v s).run Tryz.prog w = .ok () w1) (h : K (a.put o.dst undef) w1) : o.wp Tryz.prog a w K Q := by
  unfold Oper.wp
  simp [execOp, ho, hx, hy, hz, hrun, Result.andThen]
  exact h
end Go.Proofs.YtchhdafgmifhdaaGreat.DskC
namespace Go.Proofs.YtchhdafgmifhdaaGreat.AlcA
open Go.RowKit Go.Proofs.YtchhdafgmifhdaaGreat.B8 Go.Proofs.YtchhdafgmifhdaaGreat.Agg Go.Proofs.YtchhdafgmifhdaaGreat.CodL Go.Proofs.YtchhdafgmifhdaaGreat.CodA Go.Proofs.YtchhdafgmifhdaaGreat.CodB Go.Proofs.YtchhdafgmifhdaaGreat.CrcL Go.Proofs.YtchhdafgmifhdaaGreat.CrcA Go.Proofs.YtchhdafgmifhdaaGreat.CrcB Go.Proofs.YtchhdafgmifhdaaGreat.PVerifyForms Go.Proofs.YtchhdafgmifhdaaGreatW.PrintWords Go.Proofs.YtchhdafgmifhdaaGreatW.PrintLast Go.Proofs.YtchhdafgmifhdaaGreatW.PrintMore Go.Proofs.YtchhdafgmifhdaaGreat.ExtL Go.Proofs.YtchhdafgmifhdaaGreat.ExtA Go.Proofs.YtchhdafgmifhdaaGreat.ExtB Go.Proofs.YtchhdafgmifhdaaGreat.ExtC Go.Proofs.YtchhdafgmifhdaaGreat.ExtD Go.Proofs.YtchhdafgmifhdaaGreat.ExtE Go.Proofs.YtchhdafgmifhdaaGreat.ExtF Go.Proofs.YtchhdafgmifhdaaGreat.ExtG Go.Proofs.YtchhdafgmifhdaaGreat.DskA Go.Proofs.YtchhdafgmifhdaaGreat.DskB Go.Proofs.YtchhdafgmifhdaaGreat.DskC
set_option linter.unusedVariables false
set_option linter.unusedSimpArgs false
/-- The block of an allocator whose free list is l, and for whom nothing waits. -/
structure AB (W : World) (a mw : Nat) (fr tu rs : Int) (l : List Sp) : Prop where
  blk : ∃ (A : Option Addr) (n c : Nat) (was : Value), W.heap[a]? = some (.cells #[.int .i64 fr, .int .i64 tu, .bool true, .int .i64 rs, .slice A n c, .map (some mw), was] 143 (0, 0)) ∧ Kd.C kS W A n l ∧ n ≤ c ∧ n ≤ 10000
  vs : VS (-1) l
  wait : ∃ cl, W.heap[mw]? = some (.map #[] cl)
  num : 0 ≤ fr ∧ fr ≤ tu ∧ tu ≤ 8192 ∧ 0 ≤ rs ∧ rs ≤ 8192 ∧ 0 ≤ total l ∧ total l ≤ 8192
  typ : ∀ ad n c was, W.heap[a]? = some (.cells #[.int .i64 fr, .int .i64 tu, .bool true, .int .i64 rs, .slice (some ad) n c, .map (some mw), was] 143 (0, 0)) → ∃ cs, W.heap[ad.block]? = some (.cells cs 136 (0, 0))
theorem AB.below {W W2 : World} {a mw : Nat} {fr tu rs : Int} {l : List Sp} (h : AB W a mw fr tu rs l) (hb : Below W.heap.size W W2) : AB W2 a mw fr tu rs l := by
  obtain ⟨⟨A, n, c, was, h1, h2, h3, h4⟩, h5, ⟨cl, h6⟩, h7, h8⟩ := h
  refine ⟨⟨A, n, c, was, blk_below h1 hb, Kd.C_below h2 hb, h3, h4⟩, h5, ⟨cl, blk_below h6 hb⟩, h7, fun ad n' c' was' hh => ?_⟩
  obtain ⟨cs, h9⟩ := h8 ad n' c' was' ((hb.block a (blk_lt h1)).symm.trans hh)
  exact ⟨cs, blk_below h9 hb⟩
set_option maxRecDepth 100000 in
set_option maxHeartbeats 2000000 in
theorem none17 (a mw : Nat) (fr tu rs : Int) (l : List Sp) (w : World) (hd : AB w a mw fr tu rs l) : Calls Tryz.prog 63 #[.pointer (some ⟨a, 0, none⟩)] w (fun e w' => e = .returned (.bool false) ∧ Below w.heap.size w w') := by
  obtain ⟨A, n, c, was, h1, h2, h3, h4⟩ := hd.blk
  have q2 : w.cell? ⟨a, 2, none⟩ = some (.bool true) := by rw [cell_of_row _ _ 2 _ 143 (0, 0) h1]; rfl
  obtain ⟨P, hP⟩ : ∃ P : Ending → World → Prop, P = fun e w' => e = .returned (.bool false) ∧ Below w.heap.size w w' := ⟨_, rfl⟩
  rw [← hP]
  have HP := Aside0.mk hP
  clear hP h1 h2 h3 h4 hd
  go_enter Tryz.func63, Tryz.ntmps63
  go_wp2
  rw [HP.out]
  exact ⟨rfl, Below.refl _ _⟩
set_option maxRecDepth 100000 in
set_option maxHeartbeats 2000000 in
theorem free18 (a mw : Nat) (fr tu rs : Int) (l : List Sp) (w : World) (hd : AB w a mw fr tu rs l) : Calls Tryz.prog 64 #[.pointer (some ⟨a, 0, none⟩)] w (fun e w' => e = .returned (.int .i64 (total l)) ∧ Below w.heap.size w w') := by
  have HD := Aside0.mk hd
  obtain ⟨P, hP⟩ : ∃ P : Ending → World → Prop, P = fun e w' => e = .returned (.int .i64 (total l)) ∧ Below w.heap.size w w' := ⟨_, rfl⟩
  rw [← hP]
  have HP := Aside0.mk hP
  clear hP hd
  go_enter Tryz.func64, Tryz.ntmps64
  go_wp2_with fail
  refine (none17 a mw fr tu rs l w HD.out).mono ?_
  rintro e W2 ⟨rfl, hb⟩
  have HB := Aside0.mk hb
  obtain ⟨A, n, c, was, h1, h2, h3, h4⟩ := (HD.out.below hb).blk
  have HC := Aside0.mk (And.intro h2 (And.intro h3 h4))
  have q4 : W2.cell? ⟨a, 4, none⟩ = some (.slice A n c) := by rw [cell_of_row _ _ 4 _ 143 (0, 0) h1]; rfl
  clear h1 h2 h3 h4 hb
  go_wp2_with fail
  refine (total_calls A c n l W2 HC.out.1 HC.out.2.1 (by have := HC.out.2.2; omega) HD.out.vs).mono ?_
  rintro e W3 ⟨rfl, hb3⟩
  have HB3 := Aside0.mk (HB.out.trans (hb3.mono HB.out.size))
  clear hb3
  go_wp2
  rw [HP.out]
  exact ⟨rfl, HB3.out⟩
theorem under55 : Tryz.prog.underlying 141 = some (.map 3 74) := by kernel_rfl
theorem next_none (W : World) (r mw cl : Nat) (ty : TypeId) (hr : W.heap[r]? = some (.mapIter (some mw) cl #[] cl)) (hb : W.heap[mw]? = some (.map #[] cl)) :
    (Instr.next (.pointer (some ⟨r, 0, none⟩)) false ty).run Tryz.prog W = .ok (.tuple #[.bool false]) W := by
  rcases run_next_at (P := Tryz.prog) W ty r mw cl cl #[] #[] cl hr hb (by simp) (Nat.le_refl _) with ⟨_, h⟩ | ⟨e, he, _⟩
  · exact h
  · simp [leftOf] at he
set_option maxRecDepth 100000 in
set_option maxHeartbeats 2000000 in
theorem waiting31 (a mw : Nat) (fr tu rs : Int) (l : List Sp) (w : World) (hd : AB w a mw fr tu rs l) : Calls Tryz.prog 108 #[.pointer (some ⟨a, 0, none⟩)] w (fun e w' => e = .returned (.slice none 0 0) ∧ Below w.heap.size w w') := by
  obtain ⟨A, n, c, was, h1, h2, h3, h4⟩ := hd.blk
  obtain ⟨cl, hmw⟩ := hd.wait
  have q5 : w.cell? ⟨a, 5, none⟩ = some (.map (some mw)) := by rw [cell_of_row _ _ 5 _ 143 (0, 0) h1]; rfl
  obtain ⟨P, hP⟩ : ∃ P : Ending → World → Prop, P = fun e w' => e = .returned (.slice none 0 0) ∧ Below w.heap.size w w' := ⟨_, rfl⟩
  rw [← hP]
  have HP := Aside0.mk hP
  have hrg := run_range_map (P := Tryz.prog) w 141 3 74 mw #[] cl under55 hmw
  have hnx := fun ty => next_none (w.alloc (.mapIter (some mw) cl #[] cl)) w.heap.size mw cl ty (blk_new w _) (blk_alloc hmw _)
  have HB := Aside0.mk (below_alloc (Below.refl w.heap.size w) (.mapIter (some mw) cl #[] cl))
  clear hP h1 h2 h3 h4 hd hmw
  go_enter Tryz.func108, Tryz.ntmps108
  go_wp2
  trace_state
  refine wp_loop_rounds 1 ?_
  rw [rounds_succ]
  go_wp2
  rw [HP.out]
  exact ⟨rfl, HB.out⟩
end Go.Proofs.YtchhdafgmifhdaaGreat.AlcA
namespace Go.Proofs.YtchhdafgmifhdaaGreat.AlcB
open Go.RowKit Go.Proofs.YtchhdafgmifhdaaGreat.B8 Go.Proofs.YtchhdafgmifhdaaGreat.Agg Go.Proofs.YtchhdafgmifhdaaGreat.CodL Go.Proofs.YtchhdafgmifhdaaGreat.CodA Go.Proofs.YtchhdafgmifhdaaGreat.CodB Go.Proofs.YtchhdafgmifhdaaGreat.CrcL Go.Proofs.YtchhdafgmifhdaaGreat.CrcA Go.Proofs.YtchhdafgmifhdaaGreat.CrcB Go.Proofs.YtchhdafgmifhdaaGreat.PVerifyForms Go.Proofs.YtchhdafgmifhdaaGreatW.PrintWords Go.Proofs.YtchhdafgmifhdaaGreatW.PrintLast Go.Proofs.YtchhdafgmifhdaaGreatW.PrintMore Go.Proofs.YtchhdafgmifhdaaGreat.ExtL Go.Proofs.YtchhdafgmifhdaaGreat.ExtA Go.Proofs.YtchhdafgmifhdaaGreat.ExtB Go.Proofs.YtchhdafgmifhdaaGreat.ExtC Go.Proofs.YtchhdafgmifhdaaGreat.ExtD Go.Proofs.YtchhdafgmifhdaaGreat.ExtE Go.Proofs.YtchhdafgmifhdaaGreat.ExtF Go.Proofs.YtchhdafgmifhdaaGreat.ExtG Go.Proofs.YtchhdafgmifhdaaGreat.DskA Go.Proofs.YtchhdafgmifhdaaGreat.DskB Go.Proofs.YtchhdafgmifhdaaGreat.DskC Go.Proofs.YtchhdafgmifhdaaGreat.AlcA
set_option linter.unusedVariables false
set_option linter.unusedSimpArgs false
set_option maxRecDepth 100000 in
set_option maxHeartbeats 2000000 in
theorem waiting19 (a mw : Nat) (fr tu rs : Int) (l : List Sp) (w : World) (hd : AB w a mw fr tu rs l) : Calls Tryz.prog 65 #[.pointer (some ⟨a, 0, none⟩)] w (fun e w' => e = .returned (.int .i64 0) ∧ Below w.heap.size w w') := by
  have HD := Aside0.mk hd
  obtain ⟨P, hP⟩ : ∃ P : Ending → World → Prop, P = fun e w' => e = .returned (.int .i64 0) ∧ Below w.heap.size w w' := ⟨_, rfl⟩
  rw [← hP]
  have HP := Aside0.mk hP
  clear hP hd
  go_enter Tryz.func65, Tryz.ntmps65
  go_wp2_with fail
  refine (none17 a mw fr tu rs l w HD.out).mono ?_
  rintro e W2 ⟨rfl, hb⟩
  have HB := Aside0.mk hb
  clear hb
  go_wp2_with fail
  refine (waiting31 a mw fr tu rs l W2 (HD.out.below HB.out)).mono ?_
  rintro e W3 ⟨rfl, hb3⟩
  have HB3 := Aside0.mk (HB.out.trans (hb3.mono HB.out.size))
  clear hb3
  go_wp2_with fail
  refine (total_calls none 0 0 [] W3 (Kd.C_nil kS W3) (Nat.le_refl _) (by omega) trivial).mono ?_
  rintro e W4 ⟨rfl, hb4⟩
  have HB4 := Aside0.mk (HB3.out.trans (hb4.mono HB3.out.size))
  have h0 : total [] = 0 := rfl
  rw [h0]
  clear hb4 h0
  go_wp2
  rw [HP.out]
  exact ⟨rfl, HB4.out⟩
set_option maxRecDepth 100000 in
set_option maxHeartbeats 2000000 in
theorem used6 (a mw : Nat) (fr tu rs : Int) (l : List Sp) (w : World) (hd : AB w a mw fr tu rs l) : Calls Tryz.prog 28 #[.pointer (some ⟨a, 0, none⟩)] w (fun e w' => e = .returned (.int .i64 (tu - fr - total l)) ∧ Below w.heap.size w w') := by
  have HD := Aside0.mk hd
  obtain ⟨P, hP⟩ : ∃ P : Ending → World → Prop, P = fun e w' => e = .returned (.int .i64 (tu - fr - total l)) ∧ Below w.heap.size w w' := ⟨_, rfl⟩
  rw [← hP]
  have HP := Aside0.mk hP
  clear hP hd
  go_enter Tryz.func28, Tryz.ntmps28
  go_wp2_with fail
  refine (none17 a mw fr tu rs l w HD.out).mono ?_
  rintro e W2 ⟨rfl, hb⟩
  have HB := Aside0.mk hb
  clear hb
  go_wp2_with fail
  have hAB := HD.out.below HB.out
  obtain ⟨A, n, c, was, h1, h2, h3, h4⟩ := hAB.blk
  have hal : a < W2.heap.size := blk_lt h1
  have Q0 := Aside0.mk (show W2.cell? ⟨a, 0, none⟩ = some (.int .i64 fr) by rw [cell_of_row _ _ 0 _ 143 (0, 0) h1]; rfl)
  have Q1 := Aside0.mk (show W2.cell? ⟨a, 1, none⟩ = some (.int .i64 tu) by rw [cell_of_row _ _ 1 _ 143 (0, 0) h1]; rfl)
  have HAB := Aside0.mk hAB
  obtain ⟨n1, n2, n3, n4, n5, n6, n7⟩ := hAB.num
  have hw1 : IntKind.i64.wrap (tu - fr) = tu - fr := i64_small (by omega) (by omega)
  have hw2 : IntKind.i64.wrap (tu - fr - total l) = tu - fr - total l := i64_small (by omega) (by omega)
  clear h1 h2 h3 h4 hAB
  refine wp_region_held_drew (S := fun w' => Below W2.heap.size W2 w') (by kernel_rfl) (below_drew (Below.refl _ _)) (fun hW => ?_)
  have hWx : Below W2.heap.size W2 W2.drew := below_drew (Below.refl _ _)
  generalize hWd : W2.drew = Wd at *
  clear hWd
  refine wpAnyH_take (i := 0) (oi := ⟨some 5, _, _, _, _, _⟩) (v := .pointer (some ⟨a, 0, none⟩)) rfl (by kernel_rfl) (by kernel_rfl) (by kernel_rfl) (fun _ _ _ h => h) (.inl ⟨by rfl, fun W1 h1 => by go_simp⟩) hW ?_
  try simp only [Act.put, List.setIfInBounds_toArray, List.set_cons_zero, List.set_cons_succ]
  refine wpAnyH_take (i := 1) (oi := ⟨some 6, _, _, _, _, _⟩) (v := .pointer (some ⟨a, 0, none⟩)) rfl (by kernel_rfl) (by kernel_rfl) (by kernel_rfl) (fun _ _ _ h => h) (.inl ⟨by rfl, fun W1 h1 => by go_simp⟩) hW ?_
  try simp only [Act.put, List.setIfInBounds_toArray, List.set_cons_zero, List.set_cons_succ]
  refine wpAnyH_take (i := 2) (oi := ⟨some 7, _, _, _, _, _⟩) (v := .pointer (some ⟨a, 0, none⟩)) rfl (by kernel_rfl) (by kernel_rfl) (by kernel_rfl) (fun _ _ _ h => h) (.inl ⟨by rfl, fun W1 h1 => by go_simp⟩) hW ?_
  try simp only [Act.put, List.setIfInBounds_toArray, List.set_cons_zero, List.set_cons_succ]
  refine wpAnyH_take (i := 3) (oi := ⟨some 8, _, _, _, _, _⟩) (v := .pointer (some ⟨a, 1, none⟩)) rfl (by kernel_rfl) (by kernel_rfl) (by kernel_rfl) (fun _ _ _ h => h) (.inl ⟨by rfl, fun W1 h1 => by go_simp⟩) hW ?_
  try simp only [Act.put, List.setIfInBounds_toArray, List.set_cons_zero, List.set_cons_succ]
  refine wpAnyH_take (i := 4) (oi := ⟨some 9, _, _, _, _, _⟩) (v := .int .i64 tu) rfl (by kernel_rfl) (by kernel_rfl) (by kernel_rfl) (fun _ _ _ h => h) (.inl ⟨by rfl, fun W1 h1 => by have h2 := (Below.cell (p := ⟨a, 1, none⟩) h1 hal).trans Q1.out; clear h1; go_simp⟩) hW ?_
  try simp only [Act.put, List.setIfInBounds_toArray, List.set_cons_zero, List.set_cons_succ]
  refine wpAnyH_take (i := 5) (oi := ⟨some 10, _, _, _, _, _⟩) (v := .pointer (some ⟨a, 0, none⟩)) rfl (by kernel_rfl) (by kernel_rfl) (by kernel_rfl) (fun _ _ _ h => h) (.inl ⟨by rfl, fun W1 h1 => by go_simp⟩) hW ?_
  try simp only [Act.put, List.setIfInBounds_toArray, List.set_cons_zero, List.set_cons_succ]
  refine wpAnyH_take (i := 6) (oi := ⟨some 11, _, _, _, _, _⟩) (v := .pointer (some ⟨a, 0, none⟩)) rfl (by kernel_rfl) (by kernel_rfl) (by kernel_rfl) (fun _ _ _ h => h) (.inl ⟨by rfl, fun W1 h1 => by go_simp⟩) hW ?_
  try simp only [Act.put, List.setIfInBounds_toArray, List.set_cons_zero, List.set_cons_succ]
  refine wpAnyH_take (i := 7) (oi := ⟨some 12, _, _, _, _, _⟩) (v := .pointer (some ⟨a, 0, none⟩)) rfl (by kernel_rfl) (by kernel_rfl) (by kernel_rfl) (fun _ _ _ h => h) (.inl ⟨by rfl, fun W1 h1 => by go_simp⟩) hW ?_
  try simp only [Act.put, List.setIfInBounds_toArray, List.set_cons_zero, List.set_cons_succ]
  refine wpAnyH_take (i := 8) (oi := ⟨some 13, _, _, _, _, _⟩) (v := .pointer (some ⟨a, 0, none⟩)) rfl (by kernel_rfl) (by kernel_rfl) (by kernel_rfl) (fun _ _ _ h => h) (.inl ⟨by rfl, fun W1 h1 => by go_simp⟩) hW ?_
  try simp only [Act.put, List.setIfInBounds_toArray, List.set_cons_zero, List.set_cons_succ]
  refine wpAnyH_take (i := 9) (oi := ⟨some 14, _, _, _, _, _⟩) (v := .int .i64 fr) rfl (by kernel_rfl) (by kernel_rfl) (by kernel_rfl) (fun _ _ _ h => h) (.inl ⟨by rfl, fun W1 h1 => by have h2 := (Below.cell (p := ⟨a, 0, none⟩) h1 hal).trans Q0.out; clear h1; go_simp⟩) hW ?_
  try simp only [Act.put, List.setIfInBounds_toArray, List.set_cons_zero, List.set_cons_succ]
  refine wpAnyH_take (i := 10) (oi := ⟨some 15, _, _, _, _, _⟩) (v := .int .i64 (tu - fr)) rfl (by kernel_rfl) (by kernel_rfl) (by kernel_rfl) (fun _ _ _ h => h) (.inl ⟨by rfl, fun W1 h1 => by go_simp⟩) hW ?_
  try simp only [Act.put, List.setIfInBounds_toArray, List.set_cons_zero, List.set_cons_succ]
  refine wpAnyH_take (i := 11) (oi := ⟨some 16, _, _, _, _, _⟩) (v := .pointer (some ⟨a, 0, none⟩)) rfl (by kernel_rfl) (by kernel_rfl) (by kernel_rfl) (fun _ _ _ h => h) (.inl ⟨by rfl, fun W1 h1 => by go_simp⟩) hW ?_
  try simp only [Act.put, List.setIfInBounds_toArray, List.set_cons_zero, List.set_cons_succ]
  refine wpAnyH_take (i := 14) (oi := ⟨some 19, _, _, _, _, _⟩) (v := .pointer (some ⟨a, 0, none⟩)) rfl (by kernel_rfl) (by kernel_rfl) (by kernel_rfl) (fun _ _ _ h => h) (.inl ⟨by rfl, fun W1 h1 => by go_simp⟩) hW ?_
  try simp only [Act.put, List.setIfInBounds_toArray, List.set_cons_zero, List.set_cons_succ]
  refine wpAnyH_ready (rs := [12]) (by kernel_rfl) (by simp) (AllReadyH.cons rfl (fun K1 hK1 => ?_) AllReadyH.nil)
  go_simp
  refine (free18 a mw fr tu rs l _ (HAB.out.below hW)).mono ?_
  rintro e w1 ⟨rfl, hb1⟩
  refine hK1.out _ _ (hW.trans (hb1.mono hW.size)) (fun hW => ?_)
  clear hb1
  try simp only [Act.put, List.setIfInBounds_toArray, List.set_cons_zero, List.set_cons_succ]
  refine wpAnyH_take (i := 13) (oi := ⟨some 18, _, _, _, _, _⟩) (v := .int .i64 (tu - fr - total l)) rfl (by kernel_rfl) (by kernel_rfl) (by kernel_rfl) (fun _ _ _ h => h) (.inl ⟨by rfl, fun W1 h1 => by go_simp⟩) hW ?_
  try simp only [Act.put, List.setIfInBounds_toArray, List.set_cons_zero, List.set_cons_succ]
  refine wpAnyH_ready (rs := [15]) (by kernel_rfl) (by simp) (AllReadyH.cons rfl (fun K2 hK2 => ?_) AllReadyH.nil)
  go_simp
  refine (waiting19 a mw fr tu rs l _ (HAB.out.below hW)).mono ?_
  rintro e w2 ⟨rfl, hb2⟩
  refine hK2.out _ _ (hW.trans (hb2.mono hW.size)) (fun hW => ?_)
  clear hb2
  try simp only [Act.put, List.setIfInBounds_toArray, List.set_cons_zero, List.set_cons_succ]
  refine wpAnyH_take (i := 16) (oi := ⟨some 21, _, _, _, _, _⟩) (v := .int .i64 (tu - fr - total l)) rfl (by kernel_rfl) (by kernel_rfl) (by kernel_rfl) (fun _ _ _ h => h) (.inl ⟨by rfl, fun W1 h1 => by go_simp⟩) hW ?_
  try simp only [Act.put, List.setIfInBounds_toArray, List.set_cons_zero, List.set_cons_succ]
  refine wpAnyH_take (i := 17) (oi := ⟨some 2, _, _, _, _, _⟩) (v := .int .i64 (tu - fr - total l)) rfl (by kernel_rfl) (by kernel_rfl) (by kernel_rfl) (fun _ _ _ h => h) (.inl ⟨by rfl, fun W1 h1 => by go_simp⟩) hW ?_
  try simp only [Act.put, List.setIfInBounds_toArray, List.set_cons_zero, List.set_cons_succ]
  refine wpAnyH_done (by kernel_rfl) ?_ _
  clear hK1 hK2 K1 K2
  have HB5 := Aside0.mk (HB.out.trans (hW.mono HB.out.size))
  clear hW hWx
  go_wp2
  rw [HP.out]
  exact ⟨rfl, HB5.out⟩
end Go.Proofs.YtchhdafgmifhdaaGreat.AlcB
namespace Go.Proofs.YtchhdafgmifhdaaGreat.AlcC
open Go.RowKit Go.Proofs.YtchhdafgmifhdaaGreat.B8 Go.Proofs.YtchhdafgmifhdaaGreat.Agg Go.Proofs.YtchhdafgmifhdaaGreat.CodL Go.Proofs.YtchhdafgmifhdaaGreat.CodA Go.Proofs.YtchhdafgmifhdaaGreat.CodB Go.Proofs.YtchhdafgmifhdaaGreat.CrcL Go.Proofs.YtchhdafgmifhdaaGreat.CrcA Go.Proofs.YtchhdafgmifhdaaGreat.CrcB Go.Proofs.YtchhdafgmifhdaaGreat.PVerifyForms Go.Proofs.YtchhdafgmifhdaaGreatW.PrintWords Go.Proofs.YtchhdafgmifhdaaGreatW.PrintLast Go.Proofs.YtchhdafgmifhdaaGreatW.PrintMore Go.Proofs.YtchhdafgmifhdaaGreat.ExtL Go.Proofs.YtchhdafgmifhdaaGreat.ExtA Go.Proofs.YtchhdafgmifhdaaGreat.ExtB Go.Proofs.YtchhdafgmifhdaaGreat.ExtC Go.Proofs.YtchhdafgmifhdaaGreat.ExtD Go.Proofs.YtchhdafgmifhdaaGreat.ExtE Go.Proofs.YtchhdafgmifhdaaGreat.ExtF Go.Proofs.YtchhdafgmifhdaaGreat.ExtG Go.Proofs.YtchhdafgmifhdaaGreat.DskA Go.Proofs.YtchhdafgmifhdaaGreat.DskB Go.Proofs.YtchhdafgmifhdaaGreat.DskC Go.Proofs.YtchhdafgmifhdaaGreat.AlcA
set_option linter.unusedVariables false
set_option linter.unusedSimpArgs false
end Go.Proofs.YtchhdafgmifhdaaGreat.AlcC
namespace Go.Proofs.YtchhdafgmifhdaaGreat.AlcD
open Go.RowKit Go.Proofs.YtchhdafgmifhdaaGreat.B8 Go.Proofs.YtchhdafgmifhdaaGreat.Agg Go.Proofs.YtchhdafgmifhdaaGreat.CodL Go.Proofs.YtchhdafgmifhdaaGreat.CodA Go.Proofs.YtchhdafgmifhdaaGreat.CodB Go.Proofs.YtchhdafgmifhdaaGreat.CrcL Go.Proofs.YtchhdafgmifhdaaGreat.CrcA Go.Proofs.YtchhdafgmifhdaaGreat.CrcB Go.Proofs.YtchhdafgmifhdaaGreat.PVerifyForms Go.Proofs.YtchhdafgmifhdaaGreatW.PrintWords Go.Proofs.YtchhdafgmifhdaaGreatW.PrintLast Go.Proofs.YtchhdafgmifhdaaGreatW.PrintMore Go.Proofs.YtchhdafgmifhdaaGreat.ExtL Go.Proofs.YtchhdafgmifhdaaGreat.ExtA Go.Proofs.YtchhdafgmifhdaaGreat.ExtB Go.Proofs.YtchhdafgmifhdaaGreat.ExtC Go.Proofs.YtchhdafgmifhdaaGreat.ExtD Go.Proofs.YtchhdafgmifhdaaGreat.ExtE Go.Proofs.YtchhdafgmifhdaaGreat.ExtF Go.Proofs.YtchhdafgmifhdaaGreat.ExtG Go.Proofs.YtchhdafgmifhdaaGreat.DskA Go.Proofs.YtchhdafgmifhdaaGreat.DskB Go.Proofs.YtchhdafgmifhdaaGreat.DskC Go.Proofs.YtchhdafgmifhdaaGreat.AlcA Go.Proofs.YtchhdafgmifhdaaGreat.AlcC
set_option linter.unusedVariables false
set_option linter.unusedSimpArgs false
theorem KB.setCell (w : World) (p : Addr) (u : Value) : KB w (w.setCell p u) (fun k => k = p.block) :=
  ⟨rfl, rfl, rfl, by simp [World.setCell], fun i _ hn => Below.heap_setCell w p u i hn⟩
theorem AB_store {W : World} {a mw base : Nat} {fr tu rs : Int} {l l' : List Sp} {v : Value} (h : AB W a mw fr tu rs l) (hR : Kd.R kS 136 W base (fun _ => True) v l') (hab : a < base) (hv : VS (-1) l') (hn : l'.length ≤ 10000) (ht : 0 ≤ total l' ∧ total l' ≤ 8192) :
    AB (W.setCell ⟨a, 4, none⟩ v) a mw fr tu rs l' := by
  obtain ⟨A, n, c, was, h1, h2, h3, h4⟩ := h.blk
  obtain ⟨cl, h6⟩ := h.wait
  obtain ⟨n1, n2, n3, n4, n5, n6, n7⟩ := h.num
  have hma : mw ≠ a := by
    rintro rfl
    rw [h6] at h1
    simp at h1
  have hR2 := Kd.R_far (p := ⟨a, 4, none⟩) (Kd.R_mono (Kd.R_bound hR) (ok' := fun k => k ≠ a) (fun k hk => by have := hk.2.1; omega)) (fun k hk => hk) v
  obtain ⟨A', c', e, hl, hc⟩ := Kd.R_reads hR2
  refine ⟨⟨A', l'.length, c', was, ?_, hc, hl, hn⟩, hv, ⟨cl, (Below.heap_setCell W ⟨a, 4, none⟩ v mw hma).trans h6⟩, ⟨n1, n2, n3, n4, n5, ht.1, ht.2⟩, fun ad n' c'' was' hh => ?_⟩
  · rw [blk_set h1 4 v, e]
    rfl
  · rw [blk_set h1 4 v, e] at hh
    have hA : A' = some ad := by simp at hh; exact hh.1.1
    subst hA
    subst e
    obtain ⟨inner, ho⟩ := Kd.R_own hR
    have hk := own_base ho ad.block (by simp [Value.ownBlock])
    obtain ⟨cells, hcl⟩ := own_typed ho ad.block (by simp [Value.ownBlock])
    exact ⟨cells, (Below.heap_setCell W ⟨a, 4, none⟩ _ ad.block (by show ad.block ≠ a; omega)).trans hcl⟩
end Go.Proofs.YtchhdafgmifhdaaGreat.AlcD
namespace Go.Proofs.YtchhdafgmifhdaaGreat.AlcE
open Go.RowKit Go.Proofs.YtchhdafgmifhdaaGreat.B8 Go.Proofs.YtchhdafgmifhdaaGreat.Agg Go.Proofs.YtchhdafgmifhdaaGreat.CodL Go.Proofs.YtchhdafgmifhdaaGreat.CodA Go.Proofs.YtchhdafgmifhdaaGreat.CodB Go.Proofs.YtchhdafgmifhdaaGreat.CrcL Go.Proofs.YtchhdafgmifhdaaGreat.CrcA Go.Proofs.YtchhdafgmifhdaaGreat.CrcB Go.Proofs.YtchhdafgmifhdaaGreat.PVerifyForms Go.Proofs.YtchhdafgmifhdaaGreatW.PrintWords Go.Proofs.YtchhdafgmifhdaaGreatW.PrintLast Go.Proofs.YtchhdafgmifhdaaGreatW.PrintMore Go.Proofs.YtchhdafgmifhdaaGreat.ExtL Go.Proofs.YtchhdafgmifhdaaGreat.ExtA Go.Proofs.YtchhdafgmifhdaaGreat.ExtB Go.Proofs.YtchhdafgmifhdaaGreat.ExtC Go.Proofs.YtchhdafgmifhdaaGreat.ExtD Go.Proofs.YtchhdafgmifhdaaGreat.ExtE Go.Proofs.YtchhdafgmifhdaaGreat.ExtF Go.Proofs.YtchhdafgmifhdaaGreat.ExtG Go.Proofs.YtchhdafgmifhdaaGreat.DskA Go.Proofs.YtchhdafgmifhdaaGreat.DskB Go.Proofs.YtchhdafgmifhdaaGreat.DskC Go.Proofs.YtchhdafgmifhdaaGreat.AlcA Go.Proofs.YtchhdafgmifhdaaGreat.AlcC Go.Proofs.YtchhdafgmifhdaaGreat.AlcD
set_option linter.unusedVariables false
set_option linter.unusedSimpArgs false
set_option maxRecDepth 100000 in
set_option maxHeartbeats 4000000 in
theorem take14 (a mw : Nat) (fr tu rs m f : Int) (l : List Sp) (w : World) (hd : AB w a mw fr tu rs l) (hm1 : 1 ≤ m) (hm2 : m ≤ 8192) (hf : findI l m = f) (hf0 : 0 ≤ f) (hf2 : f ≤ 8192) (hrs : rs ≤ total l - m)
    (hv : VS (-1) (remS l (f, f + m))) (hn : (remS l (f, f + m)).length ≤ 10000) (ht : 0 ≤ total (remS l (f, f + m)) ∧ total (remS l (f, f + m)) ≤ 8192) :
    Calls Tryz.prog 82 #[.pointer (some ⟨a, 0, none⟩), .int .i64 m, .bool false] w (fun e w' => e = .returned (.tuple #[.int .i64 f, .int .i64 0]) ∧ KB w w' (fun k => k = a) ∧ AB w' a mw fr tu rs (remS l (f, f + m))) := by
  have HD := Aside0.mk hd
  have HV := Aside0.mk (And.intro hv (And.intro hn ht))
  obtain ⟨P, hP⟩ : ∃ P : Ending → World → Prop, P = fun e w' => e = .returned (.tuple #[.int .i64 f, .int .i64 0]) ∧ KB w w' (fun k => k = a) ∧ AB w' a mw fr tu rs (remS l (f, f + m)) := ⟨_, rfl⟩
  rw [← hP]
  have HP := Aside0.mk hP
  have haw : a < w.heap.size := by obtain ⟨A, n, c, was, h1, _⟩ := hd.blk; exact blk_lt h1
  obtain ⟨n1, n2, n3, n4, n5, n6, n7⟩ := hd.num
  have HOK := Aside0.mk (show okS (f, f + m) from ⟨hf0, by simp only; omega, by simp only; omega⟩)
  clear hP hd hv hn ht
  have d0 : decide (m < 1) = false := decide_eq_false (by omega)
  have d1 : decide (f < 0) = false := decide_eq_false (by omega)
  have d2 : decide (total l - m < rs) = false := decide_eq_false (by omega)
  have hw1 : IntKind.i64.wrap (total l - m) = total l - m := i64_small (by omega) (by omega)
  have hw2 : IntKind.i64.wrap (f + m) = f + m := i64_small (by omega) (by omega)
  go_enter Tryz.func82, Tryz.ntmps82
  go_wp2_with fail
  refine (none17 a mw fr tu rs l w HD.out).mono ?_
  rintro e W1 ⟨rfl, hb1⟩
  have HB1 := Aside0.mk hb1
  have HD1 := Aside0.mk (HD.out.below hb1)
  clear hb1
  obtain ⟨A, n, c, was, h1, h2, h3, h4⟩ := HD1.out.blk
  have HC := Aside0.mk (And.intro h2 (And.intro h3 h4))
  have q4 : W1.cell? ⟨a, 4, none⟩ = some (.slice A n c) := by rw [cell_of_row _ _ 4 _ 143 (0, 0) h1]; rfl
  clear h1 h2 h3 h4
  go_wp2_with fail
  refine (find_calls A c n l m W1 HC.out.1 HC.out.2.1 (by have := HC.out.2.2; omega) HD1.out.vs hm1).mono ?_
  rintro e W2 ⟨rfl, hb2⟩
  rw [hf]
  have HB2 := Aside0.mk (HB1.out.trans (hb2.mono HB1.out.size))
  have HD2 := Aside0.mk (HD1.out.below hb2)
  clear hb2 q4 HC
  obtain ⟨A, n, c, was, h1, h2, h3, h4⟩ := HD2.out.blk
  have HC := Aside0.mk (And.intro h2 (And.intro h3 h4))
  have hal : a < W2.heap.size := blk_lt h1
  have Q4 := Aside0.mk (show W2.cell? ⟨a, 4, none⟩ = some (.slice A n c) by rw [cell_of_row _ _ 4 _ 143 (0, 0) h1]; rfl)
  have Q3 := Aside0.mk (show W2.cell? ⟨a, 3, none⟩ = some (.int .i64 rs) by rw [cell_of_row _ _ 3 _ 143 (0, 0) h1]; rfl)
  clear h1 h2 h3 h4
  go_wp2_with fail
  refine wp_region_held_drew (S := fun w' => Below W2.heap.size W2 w') (by kernel_rfl) (below_drew (Below.refl _ _)) (fun hW => ?_)
  generalize hWd : W2.drew = Wd at *
  clear hWd
  refine wpAnyH_take (i := 0) (oi := ⟨some 21, _, _, _, _, _⟩) (v := .int .i64 f) rfl (by kernel_rfl) (by kernel_rfl) (by kernel_rfl) (fun _ _ _ h => h) (.inl ⟨by rfl, fun W1 h1 => by go_simp⟩) hW ?_
  try simp only [Act.put, List.setIfInBounds_toArray, List.set_cons_zero, List.set_cons_succ]
  refine wpAnyH_take (i := 1) (oi := ⟨some 22, _, _, _, _, _⟩) (v := .bool false) rfl (by kernel_rfl) (by kernel_rfl) (by kernel_rfl) (fun _ _ _ h => h) (.inl ⟨by rfl, fun W1 h1 => by go_simp⟩) hW ?_
  try simp only [Act.put, List.setIfInBounds_toArray, List.set_cons_zero, List.set_cons_succ]
  refine wpAnyH_take (i := 2) (oi := ⟨some 23, _, _, _, _, _⟩) (v := .bool false) rfl (by kernel_rfl) (by kernel_rfl) (by kernel_rfl) (fun _ _ _ h => h) (.inl ⟨by rfl, fun W1 h1 => by go_simp⟩) hW ?_
  try simp only [Act.put, List.setIfInBounds_toArray, List.set_cons_zero, List.set_cons_succ]
  refine wpAnyH_take (i := 3) (oi := ⟨some 24, _, _, _, _, _⟩) (v := .bool false) rfl (by kernel_rfl) (by kernel_rfl) (by kernel_rfl) (fun _ _ _ h => h) (.inl ⟨by rfl, fun W1 h1 => by go_simp⟩) hW ?_
  try simp only [Act.put, List.setIfInBounds_toArray, List.set_cons_zero, List.set_cons_succ]
  refine wpAnyH_take (i := 4) (oi := ⟨some 25, _, _, _, _, _⟩) (v := .bool true) rfl (by kernel_rfl) (by kernel_rfl) (by kernel_rfl) (fun _ _ _ h => h) (.inl ⟨by rfl, fun W1 h1 => by go_simp⟩) hW ?_
  try simp only [Act.put, List.setIfInBounds_toArray, List.set_cons_zero, List.set_cons_succ]
  refine wpAnyH_take (i := 5) (oi := ⟨some 26, _, _, _, _, _⟩) (v := .bool true) rfl (by kernel_rfl) (by kernel_rfl) (by kernel_rfl) (fun _ _ _ h => h) (.inl ⟨by rfl, fun W1 h1 => by go_simp⟩) hW ?_
  try simp only [Act.put, List.setIfInBounds_toArray, List.set_cons_zero, List.set_cons_succ]
  refine wpAnyH_take (i := 6) (oi := ⟨some 27, _, _, _, _, _⟩) (v := .pointer (some ⟨a, 0, none⟩)) rfl (by kernel_rfl) (by kernel_rfl) (by kernel_rfl) (fun _ _ _ h => h) (.inl ⟨by rfl, fun W1 h1 => by go_simp⟩) hW ?_
  try simp only [Act.put, List.setIfInBounds_toArray, List.set_cons_zero, List.set_cons_succ]
  refine wpAnyH_take (i := 7) (oi := ⟨some 28, _, _, _, _, _⟩) (v := .pointer (some ⟨a, 0, none⟩)) rfl (by kernel_rfl) (by kernel_rfl) (by kernel_rfl) (fun _ _ _ h => h) (.inl ⟨by rfl, fun W1 h1 => by go_simp⟩) hW ?_
  try simp only [Act.put, List.setIfInBounds_toArray, List.set_cons_zero, List.set_cons_succ]
  refine wpAnyH_take (i := 8) (oi := ⟨some 29, _, _, _, _, _⟩) (v := .pointer (some ⟨a, 4, none⟩)) rfl (by kernel_rfl) (by kernel_rfl) (by kernel_rfl) (fun _ _ _ h => h) (.inl ⟨by rfl, fun W1 h1 => by go_simp⟩) hW ?_
  try simp only [Act.put, List.setIfInBounds_toArray, List.set_cons_zero, List.set_cons_succ]
  refine wpAnyH_take (i := 9) (oi := ⟨some 30, _, _, _, _, _⟩) (v := .slice A n c) rfl (by kernel_rfl) (by kernel_rfl) (by kernel_rfl) (fun _ _ _ h => h) (.inl ⟨by rfl, fun W1 h1 => by have h2 := (Below.cell (p := ⟨a, 4, none⟩) h1 hal).trans Q4.out; clear h1; go_simp⟩) hW ?_
  try simp only [Act.put, List.setIfInBounds_toArray, List.set_cons_zero, List.set_cons_succ]
  refine wpAnyH_take (i := 11) (oi := ⟨some 32, _, _, _, _, _⟩) (v := .int .i64 m) rfl (by kernel_rfl) (by kernel_rfl) (by kernel_rfl) (fun _ _ _ h => h) (.inl ⟨by rfl, fun W1 h1 => by go_simp⟩) hW ?_
  try simp only [Act.put, List.setIfInBounds_toArray, List.set_cons_zero, List.set_cons_succ]
  refine wpAnyH_take (i := 13) (oi := ⟨some 34, _, _, _, _, _⟩) (v := .pointer (some ⟨a, 0, none⟩)) rfl (by kernel_rfl) (by kernel_rfl) (by kernel_rfl) (fun _ _ _ h => h) (.inl ⟨by rfl, fun W1 h1 => by go_simp⟩) hW ?_
  try simp only [Act.put, List.setIfInBounds_toArray, List.set_cons_zero, List.set_cons_succ]
  refine wpAnyH_take (i := 14) (oi := ⟨some 35, _, _, _, _, _⟩) (v := .pointer (some ⟨a, 0, none⟩)) rfl (by kernel_rfl) (by kernel_rfl) (by kernel_rfl) (fun _ _ _ h => h) (.inl ⟨by rfl, fun W1 h1 => by go_simp⟩) hW ?_
  try simp only [Act.put, List.setIfInBounds_toArray, List.set_cons_zero, List.set_cons_succ]
  refine wpAnyH_take (i := 15) (oi := ⟨some 36, _, _, _, _, _⟩) (v := .pointer (some ⟨a, 3, none⟩)) rfl (by kernel_rfl) (by kernel_rfl) (by kernel_rfl) (fun _ _ _ h => h) (.inl ⟨by rfl, fun W1 h1 => by go_simp⟩) hW ?_
  try simp only [Act.put, List.setIfInBounds_toArray, List.set_cons_zero, List.set_cons_succ]
  refine wpAnyH_take (i := 16) (oi := ⟨some 37, _, _, _, _, _⟩) (v := .int .i64 rs) rfl (by kernel_rfl) (by kernel_rfl) (by kernel_rfl) (fun _ _ _ h => h) (.inl ⟨by rfl, fun W1 h1 => by have h2 := (Below.cell (p := ⟨a, 3, none⟩) h1 hal).trans Q3.out; clear h1; go_simp⟩) hW ?_
  try simp only [Act.put, List.setIfInBounds_toArray, List.set_cons_zero, List.set_cons_succ]
  refine wpAnyH_ready (rs := [10]) (by kernel_rfl) (by simp) (AllReadyH.cons rfl (fun K1 hK1 => ?_) AllReadyH.nil)
  go_simp
  refine (total_calls A c n l _ (Kd.C_below HC.out.1 hW) HC.out.2.1 (by have := HC.out.2.2; omega) HD2.out.vs).mono ?_
  rintro e WT ⟨rfl, hb⟩
  refine hK1.out _ _ (hW.trans (hb.mono hW.size)) (fun hW => ?_)
  clear hb
  try simp only [Act.put, List.setIfInBounds_toArray, List.set_cons_zero, List.set_cons_succ]
  refine wpAnyH_take (i := 12) (oi := ⟨some 33, _, _, _, _, _⟩) (v := .int .i64 (total l - m)) rfl (by kernel_rfl) (by kernel_rfl) (by kernel_rfl) (fun _ _ _ h => h) (.inl ⟨by rfl, fun W1 h1 => by go_simp⟩) hW ?_
  try simp only [Act.put, List.setIfInBounds_toArray, List.set_cons_zero, List.set_cons_succ]
  refine wpAnyH_take (i := 17) (oi := ⟨some 38, _, _, _, _, _⟩) (v := .bool false) rfl (by kernel_rfl) (by kernel_rfl) (by kernel_rfl) (fun _ _ _ h => h) (.inl ⟨by rfl, fun W1 h1 => by go_simp⟩) hW ?_
  try simp only [Act.put, List.setIfInBounds_toArray, List.set_cons_zero, List.set_cons_succ]
  refine wpAnyH_take (i := 18) (oi := ⟨some 39, _, _, _, _, _⟩) (v := .bool false) rfl (by kernel_rfl) (by kernel_rfl) (by kernel_rfl) (fun _ _ _ h => h) (.inl ⟨by rfl, fun W1 h1 => by go_simp⟩) hW ?_
  try simp only [Act.put, List.setIfInBounds_toArray, List.set_cons_zero, List.set_cons_succ]
  refine wpAnyH_take (i := 19) (oi := ⟨some 40, _, _, _, _, _⟩) (v := .bool false) rfl (by kernel_rfl) (by kernel_rfl) (by kernel_rfl) (fun _ _ _ h => h) (.inl ⟨by rfl, fun W1 h1 => by go_simp⟩) hW ?_
  try simp only [Act.put, List.setIfInBounds_toArray, List.set_cons_zero, List.set_cons_succ]
  refine wpAnyH_done (by kernel_rfl) ?_ _
  clear hK1 K1
  have HB3 := Aside0.mk (HB2.out.trans (hW.mono HB2.out.size))
  have HD3 := Aside0.mk (HD2.out.below hW)
  clear hW Q4 Q3 HC
  obtain ⟨A, n, c, was, h1, h2, h3, h4⟩ := HD3.out.blk
  have HC := Aside0.mk (And.intro h2 (And.intro h3 h4))
  have q4 : WT.cell? ⟨a, 4, none⟩ = some (.slice A n c) := by rw [cell_of_row _ _ 4 _ 143 (0, 0) h1]; rfl
  clear h1 h2 h3 h4
  go_wp2_with fail
  refine (remove_calls A c n l f (f + m) WT HC.out.1 HC.out.2.1 HC.out.2.2 HD3.out.vs HOK.out).mono ?_
  rintro e W4 ⟨v, rfl, hR, hb4⟩
  have HD4 := Aside0.mk (HD3.out.below hb4)
  have HB4 := Aside0.mk (HB3.out.trans (hb4.mono HB3.out.size))
  have hlt : a < WT.heap.size := by obtain ⟨A, n, c, was, h1, _⟩ := HD3.out.blk; exact blk_lt h1
  have HFIN := Aside0.mk (AB_store HD4.out hR hlt HV.out.1 HV.out.2.1 HV.out.2.2)
  have HKB := Aside0.mk ((KB.of_below HB4.out (fun k => k = a)).then_ (KB.setCell W4 ⟨a, 4, none⟩ v) (fun k hk => .inl hk))
  obtain ⟨A4, c4, hv4⟩ := Kd.R_slice hR
  subst hv4
  obtain ⟨A5, n5', c5, was5, h1, h2, h3, h4⟩ := HD4.out.blk
  have q4' : W4.cell? ⟨a, 4, none⟩ = some (.slice A5 n5' c5) := by rw [cell_of_row _ _ 4 _ 143 (0, 0) h1]; rfl
  have f4 : W4.frozen? ⟨a, 4, none⟩ = false := frozen_of_row _ _ 4 _ 143 h1
  clear h1 h2 h3 h4 hR hb4 q4
  go_wp2
  rw [HP.out]
  exact ⟨rfl, HKB.out, HFIN.out⟩
theorem mkmap55 (W : World) : (Instr.makeMap 141 none).run Tryz.prog W = .ok (.map (some W.heap.size)) (W.alloc (.map #[] 0)) := by
  simp [Instr.makeMap, Result.andThen]
end Go.Proofs.YtchhdafgmifhdaaGreat.AlcE
namespace Go.Proofs.YtchhdafgmifhdaaGreat.AlcF
open Go.RowKit Go.Proofs.YtchhdafgmifhdaaGreat.B8 Go.Proofs.YtchhdafgmifhdaaGreat.Agg Go.Proofs.YtchhdafgmifhdaaGreat.CodL Go.Proofs.YtchhdafgmifhdaaGreat.CodA Go.Proofs.YtchhdafgmifhdaaGreat.CodB Go.Proofs.YtchhdafgmifhdaaGreat.CrcL Go.Proofs.YtchhdafgmifhdaaGreat.CrcA Go.Proofs.YtchhdafgmifhdaaGreat.CrcB Go.Proofs.YtchhdafgmifhdaaGreat.PVerifyForms Go.Proofs.YtchhdafgmifhdaaGreatW.PrintWords Go.Proofs.YtchhdafgmifhdaaGreatW.PrintLast Go.Proofs.YtchhdafgmifhdaaGreatW.PrintMore Go.Proofs.YtchhdafgmifhdaaGreat.ExtL Go.Proofs.YtchhdafgmifhdaaGreat.ExtA Go.Proofs.YtchhdafgmifhdaaGreat.ExtB Go.Proofs.YtchhdafgmifhdaaGreat.ExtC Go.Proofs.YtchhdafgmifhdaaGreat.ExtD Go.Proofs.YtchhdafgmifhdaaGreat.ExtE Go.Proofs.YtchhdafgmifhdaaGreat.ExtF Go.Proofs.YtchhdafgmifhdaaGreat.ExtG Go.Proofs.YtchhdafgmifhdaaGreat.DskA Go.Proofs.YtchhdafgmifhdaaGreat.DskB Go.Proofs.YtchhdafgmifhdaaGreat.DskC Go.Proofs.YtchhdafgmifhdaaGreat.AlcA Go.Proofs.YtchhdafgmifhdaaGreat.AlcC Go.Proofs.YtchhdafgmifhdaaGreat.AlcD Go.Proofs.YtchhdafgmifhdaaGreat.AlcE
set_option linter.unusedVariables false
set_option linter.unusedSimpArgs false
def AlcOut (w : World) (fr tu rs : Int) (e : Ending) (w' : World) : Prop :=
  ∃ a mw, e = .returned (.tuple #[.pointer (some ⟨a, 0, none⟩), .int .i64 0]) ∧ w.heap.size ≤ a ∧ w.heap.size ≤ mw ∧ AB w' a mw fr tu rs [(fr, tu)] ∧ Below w.heap.size w w'
set_option maxRecDepth 100000 in
set_option maxHeartbeats 4000000 in
theorem new11 (fr tu rs : Int) (w : World) (h0 : 0 ≤ fr) (h1 : fr < tu) (h2 : tu ≤ 8192) (h3 : 0 ≤ rs) (h4 : rs ≤ tu - fr) :
    Calls Tryz.prog 39 #[.int .i64 fr, .int .i64 tu, .int .i64 rs] w (AlcOut w fr tu rs) := by
  obtain ⟨P, hP⟩ : ∃ P : Ending → World → Prop, P = AlcOut w fr tu rs := ⟨_, rfl⟩
  rw [← hP]
  have HP := Aside0.mk hP
  clear hP
  have d0 : decide (fr < 0) = false := decide_eq_false (by omega)
  have d1 : decide (tu < fr) = false := decide_eq_false (by omega)
  have d2 : decide (tu > 8192) = false := decide_eq_false (by omega)
  have d2' : decide (8192 < tu) = false := decide_eq_false (by omega)
  have d3 : decide (rs < 0) = false := decide_eq_false (by omega)
  have d4 : decide (rs > tu - fr) = false := decide_eq_false (by omega)
  have d4' : decide (tu - fr < rs) = false := decide_eq_false (by omega)
  have hw1 : IntKind.i64.wrap (tu - fr) = tu - fr := i64_small (by omega) (by omega)
  have HB := Aside0.mk (below_alloc (Below.refl w.heap.size w) (.cells #[.int .i64 fr, .int .i64 tu] 136))
  have HG := Aside0.mk (blk_new w (.cells #[.int .i64 fr, .int .i64 tu] 136))
  go_enter Tryz.func39, Tryz.ntmps39
  go_wp2_with fail
  generalize hW1 : w.alloc (.cells #[.int .i64 fr, .int .i64 tu] 136) = W1 at *
  clear hW1
  refine (add_calls none 0 0 [] fr tu W1 (Kd.C_nil kS W1) (Nat.le_refl _) (by omega) trivial ⟨h0, h1, by simp only; omega⟩).mono ?_
  rintro e W2 ⟨v, rfl, hR, hb2⟩
  have hadd : addS [] (fr, tu) = [(fr, tu)] := rfl
  rw [hadd] at hR
  obtain ⟨A, c, e, hl, hc⟩ := Kd.R_reads hR
  subst e
  have HTY := Aside0.mk (show ∀ ad, A = some ad → ∃ cs, W2.heap[ad.block]? = some (.cells cs 136 (0, 0)) from fun ad e => by
    subst e
    obtain ⟨inner, ho⟩ := Kd.R_own hR
    exact own_typed ho ad.block (by simp [Value.ownBlock]))
  have HC := Aside0.mk (And.intro hl hc)
  have HB2 := Aside0.mk (HB.out.trans (hb2.mono HB.out.size))
  have hg2 := blk_below HG.out hb2
  have r0 : W2.cell? ⟨w.heap.size, 0, none⟩ = some (.int .i64 fr) := by rw [cell_of_row _ _ 0 _ 136 (0, 0) hg2]; rfl
  have r1 : W2.cell? ⟨w.heap.size, 1, none⟩ = some (.int .i64 tu) := by rw [cell_of_row _ _ 1 _ 136 (0, 0) hg2]; rfl
  have hmm := mkmap55 W2
  clear hg2 hb2 hR hl hc hadd
  have HBF := Aside0.mk (HB2.out.trans ((below_alloc (below_alloc (Below.refl W2.heap.size W2) (.map #[] 0)) (.cells #[.int .i64 fr, .int .i64 tu, .bool true, .int .i64 rs, .slice A [(fr, tu)].length c, .map (some W2.heap.size), .slice A [(fr, tu)].length c] 143)).mono HB2.out.size))
  have HM := Aside0.mk (blk_alloc (blk_new W2 (.map #[] 0)) (.cells #[.int .i64 fr, .int .i64 tu, .bool true, .int .i64 rs, .slice A [(fr, tu)].length c, .map (some W2.heap.size), .slice A [(fr, tu)].length c] 143))
  have HA := Aside0.mk (blk_new (W2.alloc (.map #[] 0)) (.cells #[.int .i64 fr, .int .i64 tu, .bool true, .int .i64 rs, .slice A [(fr, tu)].length c, .map (some W2.heap.size), .slice A [(fr, tu)].length c] 143))
  have HCF := Aside0.mk (Kd.C_below HC.out.2 (below_alloc (below_alloc (Below.refl W2.heap.size W2) (.map #[] 0)) (.cells #[.int .i64 fr, .int .i64 tu, .bool true, .int .i64 rs, .slice A [(fr, tu)].length c, .map (some W2.heap.size), .slice A [(fr, tu)].length c] 143)))
  go_wp2
  rw [HP.out]
  have hsz : (W2.alloc (.map #[] 0)).heap.size = W2.heap.size + 1 := by simp
  have hle := HB2.out.size
  refine ⟨W2.heap.size + 1, W2.heap.size, rfl, by omega, hle, ⟨⟨A, 1, c, .slice A 1 c, ?_, HCF.out, HC.out.1, by omega⟩, ?_, ⟨0, ?_⟩, ⟨h0, by omega, h2, h3, by omega, ?_, ?_⟩, ?_⟩, HBF.out⟩
  · have := HA.out
    rw [hsz] at this
    exact this
  · exact ⟨by simp only; omega, h1, by simp only; omega, trivial⟩
  · exact HM.out
  · show 0 ≤ total [(fr, tu)]
    simp [total]; omega
  · show total [(fr, tu)] ≤ 8192
    simp [total]; omega
  · intro ad n' c' was' hh
    have := HA.out
    rw [hsz] at this
    have hh := this.symm.trans hh
    have hA : A = some ad := by simp at hh; exact hh.1.1
    obtain ⟨cs, h9⟩ := HTY.out ad hA
    exact ⟨cs, blk_below h9 (below_alloc (below_alloc (Below.refl W2.heap.size W2) (.map #[] 0)) _)⟩
end Go.Proofs.YtchhdafgmifhdaaGreat.AlcF
namespace Go.Proofs.YtchhdafgmifhdaaGreat.ShaE
open Go.RowKit Go.Proofs.YtchhdafgmifhdaaGreat.B8 Go.Proofs.YtchhdafgmifhdaaGreat.Agg Go.Proofs.YtchhdafgmifhdaaGreat.CodL Go.Proofs.YtchhdafgmifhdaaGreat.CodA Go.Proofs.YtchhdafgmifhdaaGreat.CodB Go.Proofs.YtchhdafgmifhdaaGreat.CrcL Go.Proofs.YtchhdafgmifhdaaGreat.CrcA Go.Proofs.YtchhdafgmifhdaaGreat.CrcB Go.Proofs.YtchhdafgmifhdaaGreat.PVerifyForms Go.Proofs.YtchhdafgmifhdaaGreatW.PrintWords Go.Proofs.YtchhdafgmifhdaaGreatW.PrintLast Go.Proofs.YtchhdafgmifhdaaGreatW.PrintMore Go.Proofs.YtchhdafgmifhdaaGreat.ShaA Go.Proofs.YtchhdafgmifhdaaGreat.ShaB Go.Proofs.YtchhdafgmifhdaaGreat.ShaK Go.Proofs.YtchhdafgmifhdaaGreat.ShaC Go.Proofs.YtchhdafgmifhdaaGreat.ShaD Go.Proofs.YtchhdafgmifhdaaGreat.CrcC
set_option linter.unusedVariables false
set_option linter.unusedSimpArgs false
/-- The sum of bytes, from a state on. -/
def goS (H : List Int) (n : Int) (L : List Int) : List Int := if h : 64 ≤ L.length then goS (blockH H (L.take 64)) (IntKind.u64.wrap (n + 64)) (L.drop 64) else endL H n L
termination_by L.length
decreasing_by rw [List.length_drop]; omega
theorem goS_ge {H : List Int} {n : Int} {L : List Int} (h : 64 ≤ L.length) : goS H n L = goS (blockH H (L.take 64)) (IntKind.u64.wrap (n + 64)) (L.drop 64) := by rw [goS, dif_pos h]
theorem goS_lt {H : List Int} {n : Int} {L : List Int} (h : L.length < 64) : goS H n L = endL H n L := by rw [goS, dif_neg (by omega)]
/-- The sum of bytes. -/
def shaL (L : List Int) : List Int := goS beginH 0 L
theorem endL_len (H : List Int) (n : Int) (R : List Int) : (endL H n R).length = 32 := by
  unfold endL
  split <;> exact outL_len _ _
theorem goS_len (H : List Int) (n : Int) (L : List Int) : (goS H n L).length = 32 := by
  induction hk : L.length using Nat.strongRecOn generalizing H n L with
  | _ k ih =>
    by_cases h : 64 ≤ L.length
    · rw [goS_ge h]
      exact ih _ (by rw [List.length_drop]; omega) _ _ _ rfl
    · rw [goS_lt (by omega), endL_len]
theorem shaL_len (L : List Int) : (shaL L).length = 32 := goS_len _ _ _
theorem outL_byt (H : List Int) : ∀ i, Byt (outL H i)
  | 0 => fun x hx => by rw [outL] at hx; have := List.eq_of_mem_replicate hx; omega
  | i + 1 => fun x hx => by
    rw [outL] at hx
    rcases List.mem_or_eq_of_mem_set hx with hx | hx
    · exact outL_byt H i x hx
    · rw [hx, outB]; omega
theorem goS_byt (H : List Int) (n : Int) (L : List Int) : Byt (goS H n L) := by
  induction hk : L.length using Nat.strongRecOn generalizing H n L with
  | _ k ih =>
    by_cases h : 64 ≤ L.length
    · rw [goS_ge h]
      exact ih _ (by rw [List.length_drop]; omega) _ _ _ rfl
    · rw [goS_lt (by omega)]
      unfold endL
      split <;> exact outL_byt _ _
theorem shaL_byt (L : List Int) : Byt (shaL L) := goS_byt _ _ _
def natOf0 : Value → Nat
  | .slice _ n _ => n
  | _ => 0
set_option maxRecDepth 100000 in
set_option maxHeartbeats 4000000 in
theorem sum_calls (A : Option Addr) (c m : Nat) (L : List Int) (w : World) (hr : C8 w A m L) (hmc : m ≤ c) :
    Calls Tryz.prog 150 #[.slice A m c] w fun e w' => e = .returned (.agg (arr .u8 (shaL L))) ∧ Below w.heap.size w w' := by
  obtain ⟨P, hP⟩ : ∃ P : Ending → World → Prop, P = (fun e w' => e = .returned (.agg (arr .u8 (shaL L))) ∧ Below w.heap.size w w') := ⟨_, rfl⟩
  rw [← hP]
  have HP := Aside0.mk hP
  have HR := Aside0.mk hr
  have h31 := blk_new w (.cells Z31 30)
  have hb0 := below_alloc (Below.refl w.heap.size w) (.cells Z31 30)
  have HA := Aside0.mk (And.intro h31 hb0)
  clear hP hr h31 hb0
  go_enter Tryz.func150, Tryz.ntmps150
  go_wp2_with fail
  refine (begin_calls _).mono ?_
  rintro e w1 ⟨he, hb1⟩
  obtain ⟨st0, hst0⟩ : ∃ x, x = stA beginH 0 := ⟨_, rfl⟩
  rw [← hst0] at he
  subst he
  have HS0 := Aside0.mk (And.intro hst0 (And.intro (show beginH.length = 8 from rfl) (show st0.size = 9 by rw [hst0]; rfl)))
  have hone0 := Aside0.mk (show st0.all (·.oneCell') = true by rw [hst0]; exact stA_one _ _)
  have hr1 := blk_below HA.out.1 hb1
  have hlt1 := blk_lt hr1
  obtain ⟨g3, hg3⟩ : ∃ g3, g3 = w1.heap.size := ⟨_, rfl⟩
  have hg3a : g3 ≠ w.heap.size := by omega
  have hg3b : w.heap.size ≤ g3 := by omega
  have HN := Aside0.mk (heap_new w1 (.cells Z90 237))
  have hW : (w1.alloc (.cells Z90 237)).setRow w1.heap.size st0 = w1.alloc (.cells st0 237) := World.setRow_alloc_new _ _ _ _
  have hbw := below_then HA.out.2 HA.out.2.size hb1
  have HX := Aside0.mk (And.intro hW (And.intro (blk_new w1 (.cells st0 237)) (And.intro (blk_alloc hr1 (.cells st0 237)) (below_alloc hbw (.cells st0 237)))))
  clear hb1 hr1 hW hlt1 hbw hst0
  go_wp2_with (refine wpList_store_row rfl 237 (.tmp 3) (.tmp 4) rfl w1.heap.size st0 rfl rfl 237 Z90 HN.out (by rw [i90, HS0.out.2.2]) (by rw [HS0.out.2.2]; rfl) hone0.out ?_)
  rw [HX.out.1]
  have HX1 := Aside0.mk HX.out.2.1
  have HX2 := Aside0.mk HX.out.2.2.1
  have HX3 := Aside0.mk HX.out.2.2.2
  generalize w1.alloc (.cells st0 237) = w2 at *
  rw [← hg3] at HX1 ⊢
  clear HX HN hg3 HA
  dsimp only [Act.put]
  go_loopw [0] (fun v0 wr => ∃ (A' : Option Addr) (m' c' : Nat) (R : List Int) (st : Array Value) (H : List Int) (n : Int), v0 = .slice A' m' c' ∧ m' ≤ m ∧ m' ≤ c' ∧ Aside0 (st = stA H n ∧ H.length = 8 ∧ st.size = 9) ∧ Aside0 (goS H n R = shaL L) ∧ Aside0 (C8 w A' m' R) ∧ Aside0 (wr.heap[g3]? = some (.cells st 237 (0, 0))) ∧ Aside0 (wr.heap[w.heap.size]? = some (.cells Z31 30 (0, 0))) ∧ Aside0 (Below w.heap.size w wr)) (fun v _ => natOf0 v)
  case atStart => exact ⟨A, m, c, L, st0, beginH, 0, rfl, Nat.le_refl _, hmc, HS0, ⟨rfl⟩, HR, HX1, HX2, HX3⟩
  case round =>
    clear HX1 HX2 HX3 HS0 hone0
    obtain ⟨A', m', c', R, st, H, n, rfl, hmm, hmc', HS1, HGO0, HR', H3, HZ, HB⟩ := hrel
    by_cases h64 : 64 ≤ m'
    · have hd : decide ((64 : Int) ≤ (m' : Int)) = true := decide_eq_true (by omega)
      obtain ⟨b0, off0, hA', hb0, hc0⟩ := C_at 0 HR'.out (by omega)
      subst hA'
      have hRl : R.length = m' := HR'.out.1
      obtain ⟨A4, hA4⟩ : ∃ x, x = if c' = 64 then some (⟨b0, off0, none⟩ : Addr) else (some (⟨b0, off0, none⟩ : Addr)).map (·.add 64) := ⟨_, rfl⟩
      obtain ⟨m4, hm4⟩ : ∃ x, x = m' - 64 := ⟨_, rfl⟩
      obtain ⟨c4, hc4⟩ : ∃ x, x = c' - 64 := ⟨_, rfl⟩
      have hcut : ∀ W, (Instr.slice 36 (.slice (some ⟨b0, off0, none⟩) m' c') (some (.int .i64 64)) none none).run Tryz.prog W = .ok (.slice A4 m4 c4) W := fun W => by
        have := cut8_from (some ⟨b0, off0, none⟩) m' c' 64 h64 W
        rw [hA4, hm4, hc4]; exact this
      have HR4 := Aside0.mk (show C8 w A4 m4 (R.drop 64) by
        have := C8_drop HR'.out hmc' h64
        rw [hA4, hm4]; exact this)
      have harr : ∀ W, (Instr.arrayAt 240 (.slice (some ⟨b0, off0, none⟩) m' c')).run Tryz.prog W = .ok (.pointer (some ⟨b0, off0, none⟩)) W := fun W => run_arrayAt (P := Tryz.prog) W 240 5 64 _ m' _ u93 h64
      have hm4b : m4 + 64 ≤ m' := by omega
      have hmc4 : m4 ≤ c4 := by omega
      have HGO := Aside0.mk (show goS (blockH H (R.take 64)) (IntKind.u64.wrap (n + 64)) (R.drop 64) = shaL L by rw [← HGO0.out]; exact (goS_ge (by omega)).symm)
      obtain ⟨cb, hcb⟩ : ∃ cb, cb = arr .u8 (R.take 64) := ⟨_, rfl⟩
      have htl : (R.take 64).length = 64 := by rw [List.length_take]; omega
      have HCB := Aside0.mk (And.intro hcb (And.intro (show cb.size = 64 by rw [hcb, arr_size, htl]) htl))
      have HSD := Aside0.mk (And.intro (blk_below H3.out (below_drew (Below.refl wr.heap.size wr))) (And.intro (blk_below HZ.out (below_drew (Below.refl wr.heap.size wr))) (below_then HB.out HB.out.size (below_drew (Below.refl wr.heap.size wr)))))
      have HRG := Aside0.mk (show wr.drew.rangeAt b0 off0 cb.toList by
        intro j v hj
        rw [hcb] at hj
        unfold arr at hj
        rw [List.getElem?_map] at hj
        have hj64 : j < 64 := by
          rcases Nat.lt_or_ge j 64 with h | h
          · exact h
          · rw [List.getElem?_eq_none (by omega)] at hj; cases hj
        rw [List.getElem?_eq_getElem (by omega), List.getElem_take] at hj
        rw [HSD.out.2.2.cell (p := ⟨b0, off0 + j, none⟩) hb0, hc0 j (by omega), List.getD_eq_getElem?_getD, List.getElem?_eq_getElem (by omega)]
        simpa using hj)
      have hbc := fun W => block_calls H n (R.take 64) HS1.out.2.1 htl W
      simp only [← HS1.out.1, ← HCB.out.1] at hbc
      have HBC := Aside0.mk hbc
      clear hA4 hm4 hc4 hc0 hb0 hcb htl hRl hbc
      go_wp2_with fail
      have hbc := HBC.out wr.drew
      refine wp_region_held_drew (S := fun _ => True) (by kernel_rfl) trivial (fun _ => ?_)
      generalize hWd : wr.drew = Wd at *
      clear hWd
      refine wpAnyH_take (i := 1) (oi := ⟨some 11, _, _, _, _, _⟩) (v := .slice (some ⟨b0, off0, none⟩) m' c') rfl (by kernel_rfl) (by kernel_rfl) (by kernel_rfl) (fun _ _ _ h => h) (.inl ⟨by rfl, fun W1 h1 => by go_simp⟩) trivial ?_
      try simp only [Act.put, List.setIfInBounds_toArray, List.set_cons_zero, List.set_cons_succ]
      refine wpAnyH_take (i := 2) (oi := ⟨some 12, _, _, _, _, _⟩) (v := .pointer (some ⟨b0, off0, none⟩)) rfl (by kernel_rfl) (by kernel_rfl) (by kernel_rfl) (fun _ _ _ h => h) (.inl ⟨by rfl, fun W1 h1 => by go_simp⟩) trivial ?_
      try simp only [Act.put, List.setIfInBounds_toArray, List.set_cons_zero, List.set_cons_succ]
      refine wpAnyH_ready (rs := [0, 3]) (by kernel_rfl) (by simp) (AllReadyH.cons rfl (fun K1 hK1 => ?_) (AllReadyH.cons rfl (fun K2 hK2 => ?_) AllReadyH.nil))
      · refine wp_load_row (o := ⟨some 10, _, _, _, _, _⟩) 237 (.tmp 3) rfl g3 rfl 237 st (0, 0) _ HSD.out.1 Tryz.underlying237 rfl (by rw [i90, HS1.out.2.2]) ?_
        refine hK1.out _ _ trivial (fun _ => ?_)
        try simp only [Act.put, List.setIfInBounds_toArray, List.set_cons_zero, List.set_cons_succ]
        refine wpAnyH_ready (rs := [3]) (by kernel_rfl) (by simp) (AllReadyH.cons rfl (fun K5 hK5 => ?_) AllReadyH.nil)
        refine wp_load_mid (op := ⟨some 13, _, _, _, _, _⟩) 240 (.tmp 12) rfl b0 off0 rfl (cb.toList) _ HRG.out u93 rfl (by rw [i93, Array.length_toList, HCB.out.2.1]) ?_
        rw [show cb.toList.toArray = cb by simp]
        refine hK5.out _ _ trivial (fun _ => ?_)
        try simp only [Act.put, List.setIfInBounds_toArray, List.set_cons_zero, List.set_cons_succ]
        refine wpAnyH_ready (rs := [4]) (by kernel_rfl) (by simp) (AllReadyH.cons rfl (fun K3 hK3 => ?_) AllReadyH.nil)
        go_simp
        refine hbc.mono ?_
        rintro e w2 ⟨he, hb2⟩
        obtain ⟨st2, hst2⟩ : ∃ x, x = stA (blockH H (R.take 64)) (IntKind.u64.wrap (n + 64)) := ⟨_, rfl⟩
        rw [← hst2] at he
        subst he
        have HS2 := Aside0.mk (And.intro hst2 (And.intro (show (blockH H (R.take 64)).length = 8 by rw [blockH_len HS1.out.2.1]) (show st2.size = 9 by rw [hst2, stA_size (blockH_len HS1.out.2.1 _)])))
        have hone := Aside0.mk (show st2.all (·.oneCell') = true by rw [hst2]; exact stA_one _ _)
        have H2s := Aside0.mk (blk_below HSD.out.1 hb2)
        have H2r := Aside0.mk (blk_below HSD.out.2.1 hb2)
        have H2b := Aside0.mk (below_then HSD.out.2.2 HSD.out.2.2.size hb2)
        clear hst2 hb2
        refine hK3.out _ _ trivial (fun _ => ?_)
        try simp only [Act.put, List.setIfInBounds_toArray, List.set_cons_zero, List.set_cons_succ]
        refine wpAnyH_ready (rs := [5]) (by kernel_rfl) (by simp) (AllReadyH.cons rfl (fun K4 hK4 => ?_) AllReadyH.nil)
        refine wp_store_row (o := ⟨none, _, _, _, _, _⟩) 237 (.tmp 3) (.tmp 14) rfl g3 st2 rfl rfl 237 st H2s.out (by rw [i90, HS2.out.2.2]) (by rw [HS2.out.2.2, HS1.out.2.2]) hone.out ?_
        refine hK4.out _ _ trivial (fun _ => ?_)
        try simp only [Act.put, List.setIfInBounds_toArray, List.set_cons_zero, List.set_cons_succ]
        refine wpAnyH_done (by kernel_rfl) ?_ _
        have HF2 := Aside0.mk (show (w2.setRow g3 st2).heap[g3]? = some (.cells st2 237 (0, 0)) from setRow_heap _ _ _ _ _ _ H2s.out)
        have HF3 := Aside0.mk (show (w2.setRow g3 st2).heap[w.heap.size]? = some (.cells Z31 30 (0, 0)) from (setRow_other _ _ _ _ (Ne.symm hg3a)).trans H2r.out)
        have HF4 := Aside0.mk (below_setRow H2b.out hg3b st2)
        generalize w2.setRow g3 st2 = w3 at *
        clear hbc
        go_wp2
        go_roundw
        case rel => exact ⟨A4, m4, c4, R.drop 64, st2, blockH H (R.take 64), IntKind.u64.wrap (n + 64), rfl, by omega, by omega, HS2, HGO, HR4, HF2, HF3, HF4⟩
        case measure => simp [natOf0]; omega
      · refine wp_load_mid (op := ⟨some 13, _, _, _, _, _⟩) 240 (.tmp 12) rfl b0 off0 rfl (cb.toList) _ HRG.out u93 rfl (by rw [i93, Array.length_toList, HCB.out.2.1]) ?_
        rw [show cb.toList.toArray = cb by simp]
        refine hK2.out _ _ trivial (fun _ => ?_)
        try simp only [Act.put, List.setIfInBounds_toArray, List.set_cons_zero, List.set_cons_succ]
        refine wpAnyH_ready (rs := [0]) (by kernel_rfl) (by simp) (AllReadyH.cons rfl (fun K5 hK5 => ?_) AllReadyH.nil)
        refine wp_load_row (o := ⟨some 10, _, _, _, _, _⟩) 237 (.tmp 3) rfl g3 rfl 237 st (0, 0) _ HSD.out.1 Tryz.underlying237 rfl (by rw [i90, HS1.out.2.2]) ?_
        refine hK5.out _ _ trivial (fun _ => ?_)
        try simp only [Act.put, List.setIfInBounds_toArray, List.set_cons_zero, List.set_cons_succ]
        refine wpAnyH_ready (rs := [4]) (by kernel_rfl) (by simp) (AllReadyH.cons rfl (fun K3 hK3 => ?_) AllReadyH.nil)
        go_simp
        refine hbc.mono ?_
        rintro e w2 ⟨he, hb2⟩
        obtain ⟨st2, hst2⟩ : ∃ x, x = stA (blockH H (R.take 64)) (IntKind.u64.wrap (n + 64)) := ⟨_, rfl⟩
        rw [← hst2] at he
        subst he
        have HS2 := Aside0.mk (And.intro hst2 (And.intro (show (blockH H (R.take 64)).length = 8 by rw [blockH_len HS1.out.2.1]) (show st2.size = 9 by rw [hst2, stA_size (blockH_len HS1.out.2.1 _)])))
        have hone := Aside0.mk (show st2.all (·.oneCell') = true by rw [hst2]; exact stA_one _ _)
        have H2s := Aside0.mk (blk_below HSD.out.1 hb2)
        have H2r := Aside0.mk (blk_below HSD.out.2.1 hb2)
        have H2b := Aside0.mk (below_then HSD.out.2.2 HSD.out.2.2.size hb2)
        clear hst2 hb2
        refine hK3.out _ _ trivial (fun _ => ?_)
        try simp only [Act.put, List.setIfInBounds_toArray, List.set_cons_zero, List.set_cons_succ]
        refine wpAnyH_ready (rs := [5]) (by kernel_rfl) (by simp) (AllReadyH.cons rfl (fun K4 hK4 => ?_) AllReadyH.nil)
        refine wp_store_row (o := ⟨none, _, _, _, _, _⟩) 237 (.tmp 3) (.tmp 14) rfl g3 st2 rfl rfl 237 st H2s.out (by rw [i90, HS2.out.2.2]) (by rw [HS2.out.2.2, HS1.out.2.2]) hone.out ?_
        refine hK4.out _ _ trivial (fun _ => ?_)
        try simp only [Act.put, List.setIfInBounds_toArray, List.set_cons_zero, List.set_cons_succ]
        refine wpAnyH_done (by kernel_rfl) ?_ _
        have HF2 := Aside0.mk (show (w2.setRow g3 st2).heap[g3]? = some (.cells st2 237 (0, 0)) from setRow_heap _ _ _ _ _ _ H2s.out)
        have HF3 := Aside0.mk (show (w2.setRow g3 st2).heap[w.heap.size]? = some (.cells Z31 30 (0, 0)) from (setRow_other _ _ _ _ (Ne.symm hg3a)).trans H2r.out)
        have HF4 := Aside0.mk (below_setRow H2b.out hg3b st2)
        generalize w2.setRow g3 st2 = w3 at *
        clear hbc
        go_wp2
        go_roundw
        case rel => exact ⟨A4, m4, c4, R.drop 64, st2, blockH H (R.take 64), IntKind.u64.wrap (n + 64), rfl, by omega, by omega, HS2, HGO, HR4, HF2, HF3, HF4⟩
        case measure => simp [natOf0]; omega
    · have hd : decide ((64 : Int) ≤ (m' : Int)) = false := decide_eq_false (by omega)
      have hend := fun W (hb : Below w.heap.size w W) => end_calls H n A' c' m' R HS1.out.2.1 W (Kd.C_below HR'.out hb) hmc' (by omega)
      simp only [← HS1.out.1] at hend
      have HEND := Aside0.mk (hend wr HB.out)
      have HG2 := Aside0.mk (show endL H n R = shaL L by rw [← HGO0.out, goS_lt (by have := HR'.out.1; omega)])
      clear hend
      go_wp2_with (refine wpList_load_row rfl 237 (.tmp 3) rfl g3 rfl 237 st (0, 0) _ H3.out Tryz.underlying237 rfl (by rw [i90, HS1.out.2.2]) ?_)
      refine HEND.out.mono ?_
      rintro e w5 ⟨he, hb5⟩
      rw [HG2.out] at he
      obtain ⟨co, hco⟩ : ∃ x, x = arr .u8 (shaL L) := ⟨_, rfl⟩
      rw [← hco] at he
      subst he
      have HCO := Aside0.mk (And.intro hco (And.intro (show co.size = 32 by rw [hco, arr_size, shaL_len]) (show co.all (·.oneCell') = true by rw [hco]; exact arr_one _ _)))
      have HZ5 := Aside0.mk (blk_below HZ.out hb5)
      have HB5 := Aside0.mk (below_then HB.out HB.out.size hb5)
      clear hco hb5
      go_wp2_with (refine wpList_store_row rfl 30 (.tmp 2) (.tmp 17) rfl w.heap.size co rfl rfl 30 Z31 HZ5.out (by rw [i31, HCO.out.2.1]) (by rw [HCO.out.2.1]; rfl) HCO.out.2.2 ?_)
      refine bodyPost_ret (res_c (p := 2) _ rfl rfl (setRow_heap _ w.heap.size Z31 co 30 _ HZ5.out) und31 rfl (by rw [i31, HCO.out.2.1])) rfl ?_
      rw [HP.out]
      exact ⟨by rw [HCO.out.1], below_setRow HB5.out (Nat.le_refl _) _⟩
end Go.Proofs.YtchhdafgmifhdaaGreat.ShaE
namespace Go.Proofs.YtchhdafgmifhdaaGreat.PtrA
open Go.RowKit Go.Proofs.YtchhdafgmifhdaaGreat.B8 Go.Proofs.YtchhdafgmifhdaaGreat.CodL Go.Proofs.YtchhdafgmifhdaaGreat.CatL Go.Proofs.YtchhdafgmifhdaaGreat.PVerifyForms Go.Proofs.YtchhdafgmifhdaaGreatW.PrintWords Go.Proofs.YtchhdafgmifhdaaGreatW.PrintLast Go.Proofs.YtchhdafgmifhdaaGreatW.PrintMore
set_option linter.unusedVariables false
set_option linter.unusedSimpArgs false

/-- The cells of a pointer. -/
structure PC (cs : Array Value) (p : Ptr) : Prop where
  size : cs.size = 36
  c0 : cs[0]? = some (.int .i64 p.at_)
  c1 : cs[1]? = some (.int .i64 p.birth)
  c2 : cs[2]? = some (.int .i64 p.len)
  c3 : cs[3]? = some (.int .u32 p.crc)
  sha : ∀ i, i < 32 → cs[4 + i]? = some (.int .u8 (p.sha.getD i 0))

theorem sectors_calls (cs : Array Value) (p : Ptr) (hp : PC cs p) (w : World) : Calls Tryz.prog 59 #[.agg cs] w fun e w' => e = .returned (.int .i64 (sect p.len)) ∧ Below w.heap.size w w' := by
  have x2 : (w.alloc (.cells cs 32)).cell? ⟨w.heap.size, 2, none⟩ = some (.int .i64 p.len) := by rw [cell_of_row _ _ 2 cs 32 (0, 0) (blk_new _ _)]; exact hp.c2
  generalize p.len = n at *
  by_cases h1 : n < 1
  · go_enter Tryz.func59, Tryz.ntmps59
    go_wp2
    go_ret
    exact ⟨by unfold sect; rw [if_pos (.inl h1)]; rfl, below_alloc (Below.refl _ _) _⟩
  · by_cases h2 : 65536 < n
    · go_enter Tryz.func59, Tryz.ntmps59
      go_wp2
      go_ret
      exact ⟨by unfold sect; rw [if_pos (.inr h2)]; rfl, below_alloc (Below.refl _ _) _⟩
    · go_enter Tryz.func59, Tryz.ntmps59
      go_wp2
      go_ret
      exact ⟨by unfold sect; rw [if_neg (by omega)]; exact CodA.ret_int (by omega), below_alloc (Below.refl _ _) _⟩

theorem in_calls (n a b : Int) (w : World) : Calls Tryz.prog 103 #[.int .i64 n, .int .i64 a, .int .i64 b] w fun e w' => e = .returned (.bool (decide (a ≤ n) && decide (n ≤ b))) ∧ w = w' := by
  by_cases h1 : a ≤ n
  · go_enter Tryz.func103, Tryz.ntmps103
    go_wp2
    go_ret
    exact ⟨by simp [h1], rfl⟩
  · go_enter Tryz.func103, Tryz.ntmps103
    go_wp2
    go_ret
    exact ⟨by have h2 : ¬ a ≤ n := by omega
              simp [h2], rfl⟩
end Go.Proofs.YtchhdafgmifhdaaGreat.PtrA
namespace Go.Proofs.YtchhdafgmifhdaaGreat.PtrE
open Go.RowKit Go.Proofs.YtchhdafgmifhdaaGreat.B8 Go.Proofs.YtchhdafgmifhdaaGreat.CodL Go.Proofs.YtchhdafgmifhdaaGreat.CatL Go.Proofs.YtchhdafgmifhdaaGreat.PtrA
set_option linter.unusedVariables false
set_option linter.unusedSimpArgs false

/-- A pointer's cells. -/
def encP (p : Ptr) : Array Value := #[.int .i64 p.at_, .int .i64 p.birth, .int .i64 p.len, .int .u32 p.crc] ++ (p.sha.map (Value.int .u8)).toArray
theorem encP_size {p : Ptr} (h : p.sha.length = 32) : (encP p).size = 36 := by simp [encP, h]
theorem pc (p : Ptr) (h : p.sha.length = 32) : PC (encP p) p := by
  refine ⟨encP_size h, by simp [encP], by simp [encP], by simp [encP], by simp [encP], fun i hi => ?_⟩
  simp only [encP]
  rw [Array.getElem?_append_right (by simp)]
  simp [h, hi]

theorem all_range_eq : ∀ (xs ys : List Int), xs.length = ys.length → ((List.range xs.length).all fun i => xs.getD i 0 == ys.getD i 0) = (xs == ys)
  | [], [], _ => rfl
  | x :: xs, y :: ys, h => by
    have ih := all_range_eq xs ys (by simpa using h)
    rw [List.length_cons, List.range_succ_eq_map, List.all_cons, List.all_map]
    simp only [List.getD_cons_zero, Function.comp_def, List.getD_cons_succ, ih]
    simp [List.cons_beq_cons]
  | [], _ :: _, h => by simp at h
  | _ :: _, [], h => by simp at h

theorem run_equalIn_bytes {P : Program} (w : World) (d : Nat) (t e : TypeId) (n : Nat) (ht : P.underlying t = some (.array n e)) (he : P.underlying e = some (.int .u8)) (hsz : ∀ w, (sizeOf e).run P w = .ok 1 w)
    (xs ys : List Int) (hx : xs.length = n) (hy : ys.length = n) :
    (Op.equalIn (d + 2) t (.agg (xs.map (Value.int .u8)).toArray) (.agg (ys.map (Value.int .u8)).toArray)).run P w = .ok (xs == ys) w := by
  rw [← all_range_eq xs ys (hx.trans hy.symm), hx, List.range_eq_range', Op.equalIn]
  simp only [Sem.run_bind, run_underlying ht, Result.andThen_ok, hsz, Std.Legacy.Range.forIn_eq_forIn_range', Std.Legacy.Range.size, Nat.sub_zero, Nat.add_sub_cancel, Nat.div_one]
  have hl : ∀ i ∈ List.range' 0 n 1, i < n := fun i hi => by simpa using (List.mem_range'_1.1 hi).2
  generalize List.range' 0 n 1 = l at hl ⊢
  induction l with
  | nil => simp
  | cons i l ih =>
    have hi : i < n := hl i (by simp)
    have px : (part e (xs.map (Value.int .u8)).toArray (i * 1)).run P w = .ok (.int .u8 (xs.getD i 0)) w := by
      simp [part, isAgg, run_underlying he, List.getD, List.getElem?_eq_getElem (show i < xs.length by omega)]
    have py : (part e (ys.map (Value.int .u8)).toArray (i * 1)).run P w = .ok (.int .u8 (ys.getD i 0)) w := by
      simp [part, isAgg, run_underlying he, List.getD, List.getElem?_eq_getElem (show i < ys.length by omega)]
    have pe := run_equalIn_int (P := P) w d e .u8 .u8 (xs.getD i 0) (ys.getD i 0) he
    simp only [List.forIn_cons, Sem.run_bind, px, py, pe, Result.andThen_ok, List.all_cons]
    cases hq : xs.getD i 0 == ys.getD i 0 with
    | false => simp
    | true =>
      simp only [Bool.not_true, Bool.false_eq_true, if_false, Sem.run_pure, Result.andThen_ok, Bool.true_and]
      exact ih (fun i hi => hl i (by simp [hi]))

theorem fields56 : (Tryz.prog.fieldsOf 32).toList.map (fun f => (f.name, f.type, f.offset)) = [("At", 3, 0), ("Birth", 3, 1), ("Length", 3, 2), ("Crc", 29, 3), ("Sha", 30, 4)] := by kernel_rfl
theorem sz5 (w : World) : (sizeOf 5).run Tryz.prog w = .ok 1 w := by kernel_rfl
theorem sz54 (w : World) : (sizeOf 30).run Tryz.prog w = .ok 32 w := by kernel_rfl
theorem underl56 : Tryz.prog.underlying 32 = some (.struct (Tryz.prog.fieldsOf 32)) := by kernel_rfl
theorem stood56 : Tryz.prog.stoodInHeld 32 = false := by kernel_rfl
theorem agg3 (w : World) : (isAgg 3).run Tryz.prog w = .ok false w := by kernel_rfl
theorem agg53 (w : World) : (isAgg 29).run Tryz.prog w = .ok false w := by kernel_rfl
theorem agg54 (w : World) : (isAgg 30).run Tryz.prog w = .ok true w := by kernel_rfl
theorem part_sha {p : Ptr} (h : p.sha.length = 32) (w : World) : (part 30 (encP p) 4).run Tryz.prog w = .ok (.agg (p.sha.map (Value.int .u8)).toArray) w := by
  unfold part
  simp only [Sem.run_bind, agg54, sz54, Result.andThen_ok, if_true, Sem.run_pure]
  congr 2
  apply Array.ext'
  simp [encP, h, List.take_of_length_le]
/-- Two pointers are equal, or not. -/
theorem eq56 (p q : Ptr) (hp : p.sha.length = 32) (hq : q.sha.length = 32) (w : World) : (Op.equalIn 10000 32 (.agg (encP p)) (.agg (encP q))).run Tryz.prog w = .ok (decide (p = q)) w := by
  have hf := fields56
  rw [show (10000 : Nat) = 9999 + 1 from rfl, run_equalIn_struct w 9999 32 _ _ underl56 stood56]
  generalize (Tryz.prog.fieldsOf 32).toList = fs at hf
  rcases fs with _ | ⟨f0, fs⟩; · simp at hf
  rcases fs with _ | ⟨f1, fs⟩; · simp at hf
  rcases fs with _ | ⟨f2, fs⟩; · simp at hf
  rcases fs with _ | ⟨f3, fs⟩; · simp at hf
  rcases fs with _ | ⟨f4, fs⟩; · simp at hf
  rcases fs with _ | ⟨f5, fs⟩
  · simp only [List.map_cons, List.map_nil, List.cons.injEq, Prod.mk.injEq, and_true] at hf
    obtain ⟨⟨n0, t0, o0⟩, ⟨n1, t1, o1⟩, ⟨n2, t2, o2⟩, ⟨n3, t3, o3⟩, n4, t4, o4⟩ := hf
    have a0 : ∀ (p : Ptr) (w : World), (part 3 (encP p) 0).run Tryz.prog w = .ok (.int .i64 p.at_) w := fun p w => by simp [part, agg3, encP]
    have a1 : ∀ (p : Ptr) (w : World), (part 3 (encP p) 1).run Tryz.prog w = .ok (.int .i64 p.birth) w := fun p w => by simp [part, agg3, encP]
    have a2 : ∀ (p : Ptr) (w : World), (part 3 (encP p) 2).run Tryz.prog w = .ok (.int .i64 p.len) w := fun p w => by simp [part, agg3, encP]
    have a3 : ∀ (p : Ptr) (w : World), (part 29 (encP p) 3).run Tryz.prog w = .ok (.int .u32 p.crc) w := fun p w => by simp [part, agg53, encP]
    have e0 : ("At" = "_") = False := by decide
    have e1 : ("Birth" = "_") = False := by decide
    have e2 : ("Length" = "_") = False := by decide
    have e3 : ("Crc" = "_") = False := by decide
    have e4 : ("Sha" = "_") = False := by decide
    have q3 : ∀ (x y : Int) (w : World), (Op.equalIn 9999 3 (.int .i64 x) (.int .i64 y)).run Tryz.prog w = .ok (x == y) w := fun x y w => run_equalIn_int (P := Tryz.prog) w 9998 3 .i64 .i64 x y Tryz.underlying3
    have q53 : ∀ (x y : Int) (w : World), (Op.equalIn 9999 29 (.int .u32 x) (.int .u32 y)).run Tryz.prog w = .ok (x == y) w := fun x y w => run_equalIn_int (P := Tryz.prog) w 9998 29 .u32 .u32 x y Tryz.underlying29
    have qs : ∀ w : World, (Op.equalIn 9999 30 (.agg (p.sha.map (Value.int .u8)).toArray) (.agg (q.sha.map (Value.int .u8)).toArray)).run Tryz.prog w = .ok (p.sha == q.sha) w := fun w => run_equalIn_bytes (P := Tryz.prog) w 9997 30 5 32 Tryz.underlying30 Tryz.underlying5 sz5 _ _ hp hq
    have s1 := fun w => part_sha hp w
    have s2 := fun w => part_sha hq w
    have hd : decide (p = q) = (p.at_ == q.at_ && (p.birth == q.birth && (p.len == q.len && (p.crc == q.crc && p.sha == q.sha)))) := by
      obtain ⟨pa, pb, pl, pc', ps⟩ := p
      obtain ⟨qa, qb, ql, qc, qs⟩ := q
      simp only [Ptr.mk.injEq]
      rw [Bool.eq_iff_iff]
      simp
    rw [hd]
    cases h0 : p.at_ == q.at_ <;> cases h1 : p.birth == q.birth <;> cases h2 : p.len == q.len <;> cases h3 : p.crc == q.crc <;> cases h4 : p.sha == q.sha <;>
      simp [Op.eqFields, n0, n1, n2, n3, n4, t0, t1, t2, t3, t4, o0, o1, o2, o3, o4, a0, a1, a2, a3, q3, q53, qs, s1, s2, h0, h1, h2, h3, h4, Result.andThen]
  · simp at hf
theorem eql56 (p q : Ptr) (hp : p.sha.length = 32) (hq : q.sha.length = 32) (w : World) : (binOp .eql 32 (.agg (encP p)) (.agg (encP q))).run Tryz.prog w = .ok (.bool (decide (p = q))) w := by
  rw [run_eql_struct, eq56 p q hp hq]
  rfl
theorem neq56 (p q : Ptr) (hp : p.sha.length = 32) (hq : q.sha.length = 32) (w : World) : (binOp .neq 32 (.agg (encP p)) (.agg (encP q))).run Tryz.prog w = .ok (.bool (!decide (p = q))) w := by
  rw [run_neq_struct, eq56 p q hp hq]
  rfl
end Go.Proofs.YtchhdafgmifhdaaGreat.PtrE
namespace Go.Proofs.YtchhdafgmifhdaaGreat.OfA
open Go.RowKit Go.Proofs.YtchhdafgmifhdaaGreat.B8 Go.Proofs.YtchhdafgmifhdaaGreat.Agg Go.Proofs.YtchhdafgmifhdaaGreat.CodL Go.Proofs.YtchhdafgmifhdaaGreat.CodA Go.Proofs.YtchhdafgmifhdaaGreat.CodB Go.Proofs.YtchhdafgmifhdaaGreat.CrcL Go.Proofs.YtchhdafgmifhdaaGreat.CrcA Go.Proofs.YtchhdafgmifhdaaGreat.CrcB Go.Proofs.YtchhdafgmifhdaaGreat.PVerifyForms Go.Proofs.YtchhdafgmifhdaaGreatW.PrintWords Go.Proofs.YtchhdafgmifhdaaGreatW.PrintLast Go.Proofs.YtchhdafgmifhdaaGreatW.PrintMore Go.Proofs.YtchhdafgmifhdaaGreat.ShaA Go.Proofs.YtchhdafgmifhdaaGreat.ShaB Go.Proofs.YtchhdafgmifhdaaGreat.ShaK Go.Proofs.YtchhdafgmifhdaaGreat.ShaC Go.Proofs.YtchhdafgmifhdaaGreat.ShaD Go.Proofs.YtchhdafgmifhdaaGreat.ShaE Go.Proofs.YtchhdafgmifhdaaGreat.CatL Go.Proofs.YtchhdafgmifhdaaGreat.PtrA Go.Proofs.YtchhdafgmifhdaaGreat.PtrE
set_option linter.unusedVariables false
set_option linter.unusedSimpArgs false
set_option maxRecDepth 100000 in
theorem built33 (a b c d : Int) (s : List Int) (h : s.length = 32) : Tryz.prog.built 32 [(0, .int .i64 a), (1, .int .i64 b), (2, .int .i64 c), (3, .int .u32 d), (4, .agg (arr .u8 s))] = some (encP ⟨a, b, c, d, s⟩) := by
  rcases s with _ | ⟨x0, s⟩; · simp at h
  rcases s with _ | ⟨x1, s⟩; · simp at h
  rcases s with _ | ⟨x2, s⟩; · simp at h
  rcases s with _ | ⟨x3, s⟩; · simp at h
  rcases s with _ | ⟨x4, s⟩; · simp at h
  rcases s with _ | ⟨x5, s⟩; · simp at h
  rcases s with _ | ⟨x6, s⟩; · simp at h
  rcases s with _ | ⟨x7, s⟩; · simp at h
  rcases s with _ | ⟨x8, s⟩; · simp at h
  rcases s with _ | ⟨x9, s⟩; · simp at h
  rcases s with _ | ⟨x10, s⟩; · simp at h
  rcases s with _ | ⟨x11, s⟩; · simp at h
  rcases s with _ | ⟨x12, s⟩; · simp at h
  rcases s with _ | ⟨x13, s⟩; · simp at h
  rcases s with _ | ⟨x14, s⟩; · simp at h
  rcases s with _ | ⟨x15, s⟩; · simp at h
  rcases s with _ | ⟨x16, s⟩; · simp at h
  rcases s with _ | ⟨x17, s⟩; · simp at h
  rcases s with _ | ⟨x18, s⟩; · simp at h
  rcases s with _ | ⟨x19, s⟩; · simp at h
  rcases s with _ | ⟨x20, s⟩; · simp at h
  rcases s with _ | ⟨x21, s⟩; · simp at h
  rcases s with _ | ⟨x22, s⟩; · simp at h
  rcases s with _ | ⟨x23, s⟩; · simp at h
  rcases s with _ | ⟨x24, s⟩; · simp at h
  rcases s with _ | ⟨x25, s⟩; · simp at h
  rcases s with _ | ⟨x26, s⟩; · simp at h
  rcases s with _ | ⟨x27, s⟩; · simp at h
  rcases s with _ | ⟨x28, s⟩; · simp at h
  rcases s with _ | ⟨x29, s⟩; · simp at h
  rcases s with _ | ⟨x30, s⟩; · simp at h
  rcases s with _ | ⟨x31, s⟩; · simp at h
  rcases s with _ | ⟨y, s⟩
  · kernel_rfl
  · simp at h
/-- The pointer of bytes. -/
def ofP (a b : Int) (L : List Int) : Ptr := ⟨a, b, (L.length : Int), (CrcL.sumN L : Int), shaL L⟩
theorem i33 : (Tryz.prog.info? 32).map (·.size) = some 36 := by kernel_rfl
abbrev Z33 : Array Value := #[.int .i64 0, .int .i64 0, .int .i64 0, .int .u32 0, .int .u8 0, .int .u8 0, .int .u8 0, .int .u8 0, .int .u8 0, .int .u8 0, .int .u8 0, .int .u8 0, .int .u8 0, .int .u8 0, .int .u8 0, .int .u8 0, .int .u8 0, .int .u8 0, .int .u8 0, .int .u8 0, .int .u8 0, .int .u8 0, .int .u8 0, .int .u8 0, .int .u8 0, .int .u8 0, .int .u8 0, .int .u8 0, .int .u8 0, .int .u8 0, .int .u8 0, .int .u8 0, .int .u8 0, .int .u8 0, .int .u8 0, .int .u8 0]
theorem encP_one (p : Ptr) : (encP p).all (·.oneCell') = true := by
  rw [Array.all_eq_true_iff_forall_mem]
  intro v hv
  simp [encP] at hv
  rcases hv with rfl | rfl | rfl | rfl | ⟨x, _, rfl⟩ <;> rfl
theorem of_calls (a b : Int) (A : Option Addr) (c n : Nat) (L : List Int) (w : World) (hr : C8 w A n L) (hb : Byt L) (hnc : n ≤ c) :
    Calls Tryz.prog 125 #[.int .i64 a, .int .i64 b, .slice A n c] w fun e w' => e = .returned (.agg (encP (ofP a b L))) ∧ Below w.heap.size w w' := by
  have hn : n = L.length := hr.1.symm
  obtain ⟨P, hP⟩ : ∃ P : Ending → World → Prop, P = (fun e w' => e = .returned (.agg (encP (ofP a b L))) ∧ Below w.heap.size w w') := ⟨_, rfl⟩
  rw [← hP]
  have HP := Aside0.mk hP
  have HR := Aside0.mk (And.intro hr (And.intro hn hb))
  have HZ := Aside0.mk (blk_new w (.cells Z33 32))
  have HB := Aside0.mk (below_alloc (Below.refl w.heap.size w) (.cells Z33 32))
  clear hP hr hn hb
  go_enter Tryz.func125, Tryz.ntmps125
  go_wp2_with fail
  refine (CrcC.sum_calls A c n L HR.out.2.1 _ (Kd.C_below HR.out.1 HB.out) HR.out.2.2).mono ?_
  rintro e w1 ⟨he, hb1⟩
  obtain ⟨s, hs⟩ : ∃ s : Int, s = (CrcL.sumN L : Int) := ⟨_, rfl⟩
  rw [← hs] at he
  subst he
  have HB1 := Aside0.mk (below_then HB.out HB.out.size hb1)
  have HZ1 := Aside0.mk (blk_below HZ.out hb1)
  have HS := Aside0.mk hs
  clear hb1 hs
  go_wp2_with fail
  refine (sum_calls A c n L w1 (Kd.C_below HR.out.1 HB1.out) hnc).mono ?_
  rintro e w2 ⟨he, hb2⟩
  obtain ⟨cs, hcs⟩ : ∃ cs, cs = arr .u8 (shaL L) := ⟨_, rfl⟩
  rw [← hcs] at he
  subst he
  have HB2 := Aside0.mk (below_then HB1.out HB1.out.size hb2)
  have HZ2 := Aside0.mk (blk_below HZ1.out hb2)
  obtain ⟨r, hrr⟩ : ∃ r, r = encP (ofP a b L) := ⟨_, rfl⟩
  have hbu : Tryz.prog.built 32 [(0, .int .i64 a), (1, .int .i64 b), (2, .int .i64 (n : Int)), (3, .int .u32 s), (4, .agg cs)] = some r := by
    rw [hcs, built33 _ _ _ _ _ (shaL_len L), hrr, HS.out, HR.out.2.1]
    rfl
  have HBU := Aside0.mk hbu
  have HRR := Aside0.mk (And.intro hrr (And.intro (show r.size = 36 by rw [hrr]; exact encP_size (shaL_len L)) (show r.all (·.oneCell') = true by rw [hrr]; exact encP_one _)))
  clear hb2 hcs hrr hbu
  go_wp2_with (first | (refine wpList_build_of rfl 32 #[(0, .tmp 7), (1, .tmp 8), (2, .tmp 10), (3, .tmp 12), (4, .tmp 14)] rfl r ?hb ?_; (case hb => simp [Act.eval]; exact HBU.out)) | (refine wpList_store_row rfl 32 (.tmp 6) (.tmp 15) rfl w.heap.size r rfl rfl 32 Z33 HZ2.out (by rw [i33, HRR.out.2.1]) (by rw [HRR.out.2.1]; rfl) HRR.out.2.2 ?_))
  refine bodyPost_ret (CrcC.res_c (p := 6) _ rfl rfl (setRow_heap _ w.heap.size Z33 r 32 _ HZ2.out) Tryz.underlying32 rfl (by rw [i33, HRR.out.2.1])) rfl ?_
  rw [HP.out]
  exact ⟨by rw [HRR.out.1], below_setRow HB2.out (Nat.le_refl _) _⟩
end Go.Proofs.YtchhdafgmifhdaaGreat.OfA
namespace Go.Proofs.YtchhdafgmifhdaaGreat.PtrB
open Go.RowKit Go.Proofs.YtchhdafgmifhdaaGreat.B8 Go.Proofs.YtchhdafgmifhdaaGreat.CodL Go.Proofs.YtchhdafgmifhdaaGreat.CatL Go.Proofs.YtchhdafgmifhdaaGreat.PtrA Go.Proofs.YtchhdafgmifhdaaGreat.PVerifyForms Go.Proofs.YtchhdafgmifhdaaGreatW.PrintWords Go.Proofs.YtchhdafgmifhdaaGreatW.PrintLast Go.Proofs.YtchhdafgmifhdaaGreatW.PrintMore
set_option linter.unusedVariables false
set_option linter.unusedSimpArgs false

/-- A whole row is loaded, in any world that keeps it. -/
theorem yieldsIf_load_row {P : Program} {ops : Array Oper} {S : World → Prop} {op : Oper} {a : Act} (hw : Region.wanted op (yielded ops a.tmps) = true) (ty : TypeId) (x : Operand) (ho : op.op = .load ty x)
    (g : Nat) (hx : a.eval x = .pointer (some ⟨g, 0, none⟩)) (t : TypeId) (cs : Array Value) (fr : Nat × Nat) (d : TypeDesc) (hg : ∀ w, S w → w.heap[g]? = some (.cells cs t fr))
    (hu : P.underlying ty = some d) (hd : (match d with | .struct _ | .array _ _ => true | _ => false) = true) (hi : (P.info? ty).map (·.size) = some cs.size) : YieldsIf P ops S op (.agg cs) a :=
  .inl ⟨hw, fun w hS => by
    unfold execOp
    simp only [ho, hx, Instr.loadAt, Instr.sureAddr, Sem.run_bind, Sem.run_pure, Result.andThen_ok, run_loadVar_row w g t ty cs fr d (hg w hS) hu hd hi]⟩

/-- It is one, as a bool. -/
def rightB (p : Ptr) : Bool := decide (Right p)
theorem in_yes (n a b : Int) (h1 : a ≤ n) (h2 : n ≤ b) (w : World) : Calls Tryz.prog 103 #[.int .i64 n, .int .i64 a, .int .i64 b] w fun e w' => e = .returned (.bool true) ∧ w = w' :=
  (in_calls n a b w).mono fun e w' ⟨h, hw⟩ => ⟨by rw [h]; simp [h1, h2], hw⟩
theorem in_no (n a b : Int) (h : ¬ (a ≤ n ∧ n ≤ b)) (w : World) : Calls Tryz.prog 103 #[.int .i64 n, .int .i64 a, .int .i64 b] w fun e w' => e = .returned (.bool false) ∧ w = w' :=
  (in_calls n a b w).mono fun e w' ⟨h1, hw⟩ => ⟨by rw [h1]; congr 2; simpa using h, hw⟩


set_option maxHeartbeats 2000000 in
set_option maxRecDepth 100000 in
theorem right_a (cs : Array Value) (p : Ptr) (hp : PC cs p) (hb : ¬ (1 ≤ p.birth ∧ p.birth ≤ 1152921504606846976)) (w : World) : Calls Tryz.prog 58 #[.agg cs] w fun e w' => e = .returned (.bool false) ∧ Below w.heap.size w w' := by
  have hi : (Tryz.prog.info? 32).map (·.size) = some cs.size := by rw [hp.size]; kernel_rfl
  have G0 := Aside0.mk (blk_new w (.cells cs 32))
  have HB0 := Aside0.mk (below_alloc (Below.refl w.heap.size w) (.cells cs 32))
  have hs : w.heap.size < (w.alloc (.cells cs 32)).heap.size := by simp
  have HP := Aside0.mk hp
  go_enter Tryz.func58, Tryz.ntmps58
  go_wp2_with fail
  generalize (w.alloc (.cells cs 32)) = W at *
  refine wp_region_held_drew (S := fun w' => w'.heap[w.heap.size]? = some (.cells cs 32 (0, 0)) ∧ Below w.heap.size w w' ∧ w.heap.size < w'.heap.size) (by kernel_rfl) ⟨G0.out, below_drew HB0.out, hs⟩ (fun hW => ?_)
  refine wpAnyH_take (i := 0) (oi := ⟨some 4, _, _, _, _, _⟩) (v := .func (.func 103) #[] #[]) rfl (by kernel_rfl) (by kernel_rfl) (by kernel_rfl) (fun _ _ _ h => h) (.inl ⟨by rfl, fun W1 h1 => by go_simp⟩) hW ?_
  try simp only [Act.put, List.setIfInBounds_toArray, List.set_cons_zero, List.set_cons_succ]
  refine wpAnyH_take (i := 1) (oi := ⟨some 5, _, _, _, _, _⟩) (v := .pointer (some ⟨w.heap.size, 1, none⟩)) rfl (by kernel_rfl) (by kernel_rfl) (by kernel_rfl) (fun _ _ _ h => h) (.inl ⟨by rfl, fun W1 h1 => by go_simp⟩) hW ?_
  try simp only [Act.put, List.setIfInBounds_toArray, List.set_cons_zero, List.set_cons_succ]
  refine wpAnyH_take (i := 2) (oi := ⟨some 6, _, _, _, _, _⟩) (v := .int .i64 p.birth) rfl (by kernel_rfl) (by kernel_rfl) (by kernel_rfl) (fun _ _ _ h => h) (.inl ⟨by rfl, fun W1 h1 => by (have x0 : W1.cell? ⟨w.heap.size, 1, none⟩ = some (.int .i64 p.birth) := (by rw [cell_of_row W1 _ 1 cs 32 (0, 0) h1.1]; exact HP.out.c1)); go_simp⟩) hW ?_
  try simp only [Act.put, List.setIfInBounds_toArray, List.set_cons_zero, List.set_cons_succ]
  refine wpAnyH_ready (rs := [3]) (by kernel_rfl) (by simp) (AllReadyH.cons rfl (fun K1 hK1 => ?_) AllReadyH.nil)
  go_simp
  refine (in_no _ _ _ hb _).mono ?_
  rintro e w1 ⟨rfl, rfl⟩
  refine hK1.out _ _ (hW) (fun hW1 => ?_)
  try simp only [Act.put, List.setIfInBounds_toArray, List.set_cons_zero, List.set_cons_succ]
  refine wpAnyH_take (i := 4) (oi := ⟨some 8, _, _, _, _, _⟩) (v := .bool false) rfl (by kernel_rfl) (by kernel_rfl) (by kernel_rfl) (fun _ _ _ h => h) (.inl ⟨by rfl, fun W1 h1 => by go_simp⟩) hW1 ?_
  try simp only [Act.put, List.setIfInBounds_toArray, List.set_cons_zero, List.set_cons_succ]
  refine wpAnyH_take (i := 5) (oi := ⟨some 9, _, _, _, _, _⟩) (v := undef) rfl (by kernel_rfl) (by kernel_rfl) (by kernel_rfl) (fun _ _ _ h => h) (.inr ⟨by rfl, rfl⟩) hW1 ?_
  try simp only [Act.put, List.setIfInBounds_toArray, List.set_cons_zero, List.set_cons_succ]
  refine wpAnyH_take (i := 6) (oi := ⟨some 10, _, _, _, _, _⟩) (v := undef) rfl (by kernel_rfl) (by kernel_rfl) (by kernel_rfl) (fun _ _ _ h => h) (.inr ⟨by rfl, rfl⟩) hW1 ?_
  try simp only [Act.put, List.setIfInBounds_toArray, List.set_cons_zero, List.set_cons_succ]
  refine wpAnyH_take (i := 7) (oi := ⟨some 11, _, _, _, _, _⟩) (v := undef) rfl (by kernel_rfl) (by kernel_rfl) (by kernel_rfl) (fun _ _ _ h => h) (.inr ⟨by rfl, rfl⟩) hW1 ?_
  try simp only [Act.put, List.setIfInBounds_toArray, List.set_cons_zero, List.set_cons_succ]
  refine wpAnyH_take (i := 8) (oi := ⟨some 12, _, _, _, _, _⟩) (v := .bool false) rfl (by kernel_rfl) (by kernel_rfl) (by kernel_rfl) (fun _ _ _ h => h) (.inl ⟨by rfl, fun W1 h1 => by go_simp⟩) hW1 ?_
  try simp only [Act.put, List.setIfInBounds_toArray, List.set_cons_zero, List.set_cons_succ]
  refine wpAnyH_take (i := 9) (oi := ⟨some 13, _, _, _, _, _⟩) (v := .bool false) rfl (by kernel_rfl) (by kernel_rfl) (by kernel_rfl) (fun _ _ _ h => h) (.inl ⟨by rfl, fun W1 h1 => by go_simp⟩) hW1 ?_
  try simp only [Act.put, List.setIfInBounds_toArray, List.set_cons_zero, List.set_cons_succ]
  refine wpAnyH_take (i := 10) (oi := ⟨some 14, _, _, _, _, _⟩) (v := undef) rfl (by kernel_rfl) (by kernel_rfl) (by kernel_rfl) (fun _ _ _ h => h) (.inr ⟨by rfl, rfl⟩) hW1 ?_
  try simp only [Act.put, List.setIfInBounds_toArray, List.set_cons_zero, List.set_cons_succ]
  refine wpAnyH_take (i := 11) (oi := ⟨some 15, _, _, _, _, _⟩) (v := undef) rfl (by kernel_rfl) (by kernel_rfl) (by kernel_rfl) (fun _ _ _ h => h) (.inr ⟨by rfl, rfl⟩) hW1 ?_
  try simp only [Act.put, List.setIfInBounds_toArray, List.set_cons_zero, List.set_cons_succ]
  refine wpAnyH_take (i := 12) (oi := ⟨some 16, _, _, _, _, _⟩) (v := undef) rfl (by kernel_rfl) (by kernel_rfl) (by kernel_rfl) (fun _ _ _ h => h) (.inr ⟨by rfl, rfl⟩) hW1 ?_
  try simp only [Act.put, List.setIfInBounds_toArray, List.set_cons_zero, List.set_cons_succ]
  refine wpAnyH_take (i := 13) (oi := ⟨some 17, _, _, _, _, _⟩) (v := undef) rfl (by kernel_rfl) (by kernel_rfl) (by kernel_rfl) (fun _ _ _ h => h) (.inr ⟨by rfl, rfl⟩) hW1 ?_
  try simp only [Act.put, List.setIfInBounds_toArray, List.set_cons_zero, List.set_cons_succ]
  refine wpAnyH_take (i := 14) (oi := ⟨some 18, _, _, _, _, _⟩) (v := undef) rfl (by kernel_rfl) (by kernel_rfl) (by kernel_rfl) (fun _ _ _ h => h) (.inr ⟨by rfl, rfl⟩) hW1 ?_
  try simp only [Act.put, List.setIfInBounds_toArray, List.set_cons_zero, List.set_cons_succ]
  refine wpAnyH_take (i := 15) (oi := ⟨some 19, _, _, _, _, _⟩) (v := undef) rfl (by kernel_rfl) (by kernel_rfl) (by kernel_rfl) (fun _ _ _ h => h) (.inr ⟨by rfl, rfl⟩) hW1 ?_
  try simp only [Act.put, List.setIfInBounds_toArray, List.set_cons_zero, List.set_cons_succ]
  refine wpAnyH_take (i := 16) (oi := ⟨some 20, _, _, _, _, _⟩) (v := undef) rfl (by kernel_rfl) (by kernel_rfl) (by kernel_rfl) (fun _ _ _ h => h) (.inr ⟨by rfl, rfl⟩) hW1 ?_
  try simp only [Act.put, List.setIfInBounds_toArray, List.set_cons_zero, List.set_cons_succ]
  refine wpAnyH_take (i := 17) (oi := ⟨some 21, _, _, _, _, _⟩) (v := .bool false) rfl (by kernel_rfl) (by kernel_rfl) (by kernel_rfl) (fun _ _ _ h => h) (.inl ⟨by rfl, fun W1 h1 => by go_simp⟩) hW1 ?_
  try simp only [Act.put, List.setIfInBounds_toArray, List.set_cons_zero, List.set_cons_succ]
  refine wpAnyH_take (i := 18) (oi := ⟨some 2, _, _, _, _, _⟩) (v := .bool false) rfl (by kernel_rfl) (by kernel_rfl) (by kernel_rfl) (fun _ _ _ h => h) (.inl ⟨by rfl, fun W1 h1 => by go_simp⟩) hW1 ?_
  try simp only [Act.put, List.setIfInBounds_toArray, List.set_cons_zero, List.set_cons_succ]
  refine wpAnyH_done (by kernel_rfl) ?_ _
  have HB := Aside0.mk hW1.2.1
  clear HB0 G0 hs
  go_wp2
  go_ret
  exact ⟨rfl, HB.out⟩

set_option maxHeartbeats 2000000 in
set_option maxRecDepth 100000 in
theorem right_b (cs : Array Value) (p : Ptr) (hp : PC cs p) (hb1 : 1 ≤ p.birth) (hb2 : p.birth ≤ 1152921504606846976) (hq : sect p.len = 0) (w : World) : Calls Tryz.prog 58 #[.agg cs] w fun e w' => e = .returned (.bool false) ∧ Below w.heap.size w w' := by
  have hi : (Tryz.prog.info? 32).map (·.size) = some cs.size := by rw [hp.size]; kernel_rfl
  have G0 := Aside0.mk (blk_new w (.cells cs 32))
  have HB0 := Aside0.mk (below_alloc (Below.refl w.heap.size w) (.cells cs 32))
  have hs : w.heap.size < (w.alloc (.cells cs 32)).heap.size := by simp
  have HP := Aside0.mk hp
  go_enter Tryz.func58, Tryz.ntmps58
  go_wp2_with fail
  generalize (w.alloc (.cells cs 32)) = W at *
  have HS := Aside0.mk (fun W => sectors_calls cs p hp W)
  rw [hq] at HS
  refine wp_region_held_drew (S := fun w' => w'.heap[w.heap.size]? = some (.cells cs 32 (0, 0)) ∧ Below w.heap.size w w' ∧ w.heap.size < w'.heap.size) (by kernel_rfl) ⟨G0.out, below_drew HB0.out, hs⟩ (fun hW => ?_)
  refine wpAnyH_take (i := 0) (oi := ⟨some 4, _, _, _, _, _⟩) (v := .func (.func 103) #[] #[]) rfl (by kernel_rfl) (by kernel_rfl) (by kernel_rfl) (fun _ _ _ h => h) (.inl ⟨by rfl, fun W1 h1 => by go_simp⟩) hW ?_
  try simp only [Act.put, List.setIfInBounds_toArray, List.set_cons_zero, List.set_cons_succ]
  refine wpAnyH_take (i := 1) (oi := ⟨some 5, _, _, _, _, _⟩) (v := .pointer (some ⟨w.heap.size, 1, none⟩)) rfl (by kernel_rfl) (by kernel_rfl) (by kernel_rfl) (fun _ _ _ h => h) (.inl ⟨by rfl, fun W1 h1 => by go_simp⟩) hW ?_
  try simp only [Act.put, List.setIfInBounds_toArray, List.set_cons_zero, List.set_cons_succ]
  refine wpAnyH_take (i := 2) (oi := ⟨some 6, _, _, _, _, _⟩) (v := .int .i64 p.birth) rfl (by kernel_rfl) (by kernel_rfl) (by kernel_rfl) (fun _ _ _ h => h) (.inl ⟨by rfl, fun W1 h1 => by (have x0 : W1.cell? ⟨w.heap.size, 1, none⟩ = some (.int .i64 p.birth) := (by rw [cell_of_row W1 _ 1 cs 32 (0, 0) h1.1]; exact HP.out.c1)); go_simp⟩) hW ?_
  try simp only [Act.put, List.setIfInBounds_toArray, List.set_cons_zero, List.set_cons_succ]
  refine wpAnyH_ready (rs := [3]) (by kernel_rfl) (by simp) (AllReadyH.cons rfl (fun K1 hK1 => ?_) AllReadyH.nil)
  go_simp
  refine (in_yes _ _ _ hb1 hb2 _).mono ?_
  rintro e w1 ⟨rfl, rfl⟩
  refine hK1.out _ _ (hW) (fun hW1 => ?_)
  try simp only [Act.put, List.setIfInBounds_toArray, List.set_cons_zero, List.set_cons_succ]
  refine wpAnyH_take (i := 4) (oi := ⟨some 8, _, _, _, _, _⟩) (v := .bool true) rfl (by kernel_rfl) (by kernel_rfl) (by kernel_rfl) (fun _ _ _ h => h) (.inl ⟨by rfl, fun W1 h1 => by go_simp⟩) hW1 ?_
  try simp only [Act.put, List.setIfInBounds_toArray, List.set_cons_zero, List.set_cons_succ]
  refine wpAnyH_take (i := 5) (oi := ⟨some 9, _, _, _, _, _⟩) rfl (by kernel_rfl) (by kernel_rfl) (by kernel_rfl) (fun _ _ _ h => h) (yieldsIf_load_row (by rfl) 32 _ rfl w.heap.size rfl 32 cs (0, 0) _ (fun _ h => h.1) Tryz.underlying32 rfl hi) hW1 ?_
  try simp only [Act.put, List.setIfInBounds_toArray, List.set_cons_zero, List.set_cons_succ]
  refine wpAnyH_ready (rs := [6]) (by kernel_rfl) (by simp) (AllReadyH.cons rfl (fun K2 hK2 => ?_) AllReadyH.nil)
  go_simp
  refine (HS.out _).mono ?_
  rintro e w2 ⟨rfl, b2⟩
  refine hK2.out _ _ (⟨blk_below hW1.1 b2, hW1.2.1.trans (b2.mono hW1.2.1.size), Nat.lt_of_lt_of_le hW1.2.2 b2.size⟩) (fun hW2 => ?_)
  try simp only [Act.put, List.setIfInBounds_toArray, List.set_cons_zero, List.set_cons_succ]
  refine wpAnyH_take (i := 7) (oi := ⟨some 11, _, _, _, _, _⟩) (v := .bool false) rfl (by kernel_rfl) (by kernel_rfl) (by kernel_rfl) (fun _ _ _ h => h) (.inl ⟨by rfl, fun W1 h1 => by go_simp⟩) hW2 ?_
  try simp only [Act.put, List.setIfInBounds_toArray, List.set_cons_zero, List.set_cons_succ]
  refine wpAnyH_take (i := 8) (oi := ⟨some 12, _, _, _, _, _⟩) (v := .bool false) rfl (by kernel_rfl) (by kernel_rfl) (by kernel_rfl) (fun _ _ _ h => h) (.inl ⟨by rfl, fun W1 h1 => by go_simp⟩) hW2 ?_
  try simp only [Act.put, List.setIfInBounds_toArray, List.set_cons_zero, List.set_cons_succ]
  refine wpAnyH_take (i := 9) (oi := ⟨some 13, _, _, _, _, _⟩) (v := .bool false) rfl (by kernel_rfl) (by kernel_rfl) (by kernel_rfl) (fun _ _ _ h => h) (.inl ⟨by rfl, fun W1 h1 => by go_simp⟩) hW2 ?_
  try simp only [Act.put, List.setIfInBounds_toArray, List.set_cons_zero, List.set_cons_succ]
  refine wpAnyH_take (i := 10) (oi := ⟨some 14, _, _, _, _, _⟩) (v := undef) rfl (by kernel_rfl) (by kernel_rfl) (by kernel_rfl) (fun _ _ _ h => h) (.inr ⟨by rfl, rfl⟩) hW2 ?_
  try simp only [Act.put, List.setIfInBounds_toArray, List.set_cons_zero, List.set_cons_succ]
  refine wpAnyH_take (i := 11) (oi := ⟨some 15, _, _, _, _, _⟩) (v := undef) rfl (by kernel_rfl) (by kernel_rfl) (by kernel_rfl) (fun _ _ _ h => h) (.inr ⟨by rfl, rfl⟩) hW2 ?_
  try simp only [Act.put, List.setIfInBounds_toArray, List.set_cons_zero, List.set_cons_succ]
  refine wpAnyH_take (i := 12) (oi := ⟨some 16, _, _, _, _, _⟩) (v := undef) rfl (by kernel_rfl) (by kernel_rfl) (by kernel_rfl) (fun _ _ _ h => h) (.inr ⟨by rfl, rfl⟩) hW2 ?_
  try simp only [Act.put, List.setIfInBounds_toArray, List.set_cons_zero, List.set_cons_succ]
  refine wpAnyH_take (i := 13) (oi := ⟨some 17, _, _, _, _, _⟩) (v := undef) rfl (by kernel_rfl) (by kernel_rfl) (by kernel_rfl) (fun _ _ _ h => h) (.inr ⟨by rfl, rfl⟩) hW2 ?_
  try simp only [Act.put, List.setIfInBounds_toArray, List.set_cons_zero, List.set_cons_succ]
  refine wpAnyH_take (i := 14) (oi := ⟨some 18, _, _, _, _, _⟩) (v := undef) rfl (by kernel_rfl) (by kernel_rfl) (by kernel_rfl) (fun _ _ _ h => h) (.inr ⟨by rfl, rfl⟩) hW2 ?_
  try simp only [Act.put, List.setIfInBounds_toArray, List.set_cons_zero, List.set_cons_succ]
  refine wpAnyH_take (i := 15) (oi := ⟨some 19, _, _, _, _, _⟩) (v := undef) rfl (by kernel_rfl) (by kernel_rfl) (by kernel_rfl) (fun _ _ _ h => h) (.inr ⟨by rfl, rfl⟩) hW2 ?_
  try simp only [Act.put, List.setIfInBounds_toArray, List.set_cons_zero, List.set_cons_succ]
  refine wpAnyH_take (i := 16) (oi := ⟨some 20, _, _, _, _, _⟩) (v := undef) rfl (by kernel_rfl) (by kernel_rfl) (by kernel_rfl) (fun _ _ _ h => h) (.inr ⟨by rfl, rfl⟩) hW2 ?_
  try simp only [Act.put, List.setIfInBounds_toArray, List.set_cons_zero, List.set_cons_succ]
  refine wpAnyH_take (i := 17) (oi := ⟨some 21, _, _, _, _, _⟩) (v := .bool false) rfl (by kernel_rfl) (by kernel_rfl) (by kernel_rfl) (fun _ _ _ h => h) (.inl ⟨by rfl, fun W1 h1 => by go_simp⟩) hW2 ?_
  try simp only [Act.put, List.setIfInBounds_toArray, List.set_cons_zero, List.set_cons_succ]
  refine wpAnyH_take (i := 18) (oi := ⟨some 2, _, _, _, _, _⟩) (v := .bool false) rfl (by kernel_rfl) (by kernel_rfl) (by kernel_rfl) (fun _ _ _ h => h) (.inl ⟨by rfl, fun W1 h1 => by go_simp⟩) hW2 ?_
  try simp only [Act.put, List.setIfInBounds_toArray, List.set_cons_zero, List.set_cons_succ]
  refine wpAnyH_done (by kernel_rfl) ?_ _
  have HB := Aside0.mk hW2.2.1
  clear HB0 G0 hs
  go_wp2
  go_ret
  exact ⟨rfl, HB.out⟩

set_option maxHeartbeats 2000000 in
set_option maxRecDepth 100000 in
theorem right_c (cs : Array Value) (p : Ptr) (hp : PC cs p) (hb1 : 1 ≤ p.birth) (hb2 : p.birth ≤ 1152921504606846976) (hq : 0 < sect p.len) (hl1 : 2 ≤ p.at_) (hl2 : p.at_ ≤ 8192 - sect p.len) (w : World) : Calls Tryz.prog 58 #[.agg cs] w fun e w' => e = .returned (.bool true) ∧ Below w.heap.size w w' := by
  have hi : (Tryz.prog.info? 32).map (·.size) = some cs.size := by rw [hp.size]; kernel_rfl
  have G0 := Aside0.mk (blk_new w (.cells cs 32))
  have HB0 := Aside0.mk (below_alloc (Below.refl w.heap.size w) (.cells cs 32))
  have hs : w.heap.size < (w.alloc (.cells cs 32)).heap.size := by simp
  have HP := Aside0.mk hp
  go_enter Tryz.func58, Tryz.ntmps58
  go_wp2_with fail
  generalize (w.alloc (.cells cs 32)) = W at *
  have HS := Aside0.mk (fun W => sectors_calls cs p hp W)
  have hsb := sect_bound p.len
  generalize sect p.len = sc at *
  refine wp_region_held_drew (S := fun w' => w'.heap[w.heap.size]? = some (.cells cs 32 (0, 0)) ∧ Below w.heap.size w w' ∧ w.heap.size < w'.heap.size) (by kernel_rfl) ⟨G0.out, below_drew HB0.out, hs⟩ (fun hW => ?_)
  refine wpAnyH_take (i := 0) (oi := ⟨some 4, _, _, _, _, _⟩) (v := .func (.func 103) #[] #[]) rfl (by kernel_rfl) (by kernel_rfl) (by kernel_rfl) (fun _ _ _ h => h) (.inl ⟨by rfl, fun W1 h1 => by go_simp⟩) hW ?_
  try simp only [Act.put, List.setIfInBounds_toArray, List.set_cons_zero, List.set_cons_succ]
  refine wpAnyH_take (i := 1) (oi := ⟨some 5, _, _, _, _, _⟩) (v := .pointer (some ⟨w.heap.size, 1, none⟩)) rfl (by kernel_rfl) (by kernel_rfl) (by kernel_rfl) (fun _ _ _ h => h) (.inl ⟨by rfl, fun W1 h1 => by go_simp⟩) hW ?_
  try simp only [Act.put, List.setIfInBounds_toArray, List.set_cons_zero, List.set_cons_succ]
  refine wpAnyH_take (i := 2) (oi := ⟨some 6, _, _, _, _, _⟩) (v := .int .i64 p.birth) rfl (by kernel_rfl) (by kernel_rfl) (by kernel_rfl) (fun _ _ _ h => h) (.inl ⟨by rfl, fun W1 h1 => by (have x0 : W1.cell? ⟨w.heap.size, 1, none⟩ = some (.int .i64 p.birth) := (by rw [cell_of_row W1 _ 1 cs 32 (0, 0) h1.1]; exact HP.out.c1)); go_simp⟩) hW ?_
  try simp only [Act.put, List.setIfInBounds_toArray, List.set_cons_zero, List.set_cons_succ]
  refine wpAnyH_ready (rs := [3]) (by kernel_rfl) (by simp) (AllReadyH.cons rfl (fun K1 hK1 => ?_) AllReadyH.nil)
  go_simp
  refine (in_yes _ _ _ hb1 hb2 _).mono ?_
  rintro e w1 ⟨rfl, rfl⟩
  refine hK1.out _ _ (hW) (fun hW1 => ?_)
  try simp only [Act.put, List.setIfInBounds_toArray, List.set_cons_zero, List.set_cons_succ]
  refine wpAnyH_take (i := 4) (oi := ⟨some 8, _, _, _, _, _⟩) (v := .bool true) rfl (by kernel_rfl) (by kernel_rfl) (by kernel_rfl) (fun _ _ _ h => h) (.inl ⟨by rfl, fun W1 h1 => by go_simp⟩) hW1 ?_
  try simp only [Act.put, List.setIfInBounds_toArray, List.set_cons_zero, List.set_cons_succ]
  refine wpAnyH_take (i := 5) (oi := ⟨some 9, _, _, _, _, _⟩) rfl (by kernel_rfl) (by kernel_rfl) (by kernel_rfl) (fun _ _ _ h => h) (yieldsIf_load_row (by rfl) 32 _ rfl w.heap.size rfl 32 cs (0, 0) _ (fun _ h => h.1) Tryz.underlying32 rfl hi) hW1 ?_
  try simp only [Act.put, List.setIfInBounds_toArray, List.set_cons_zero, List.set_cons_succ]
  refine wpAnyH_ready (rs := [6]) (by kernel_rfl) (by simp) (AllReadyH.cons rfl (fun K2 hK2 => ?_) AllReadyH.nil)
  go_simp
  refine (HS.out _).mono ?_
  rintro e w2 ⟨rfl, b2⟩
  refine hK2.out _ _ (⟨blk_below hW1.1 b2, hW1.2.1.trans (b2.mono hW1.2.1.size), Nat.lt_of_lt_of_le hW1.2.2 b2.size⟩) (fun hW2 => ?_)
  try simp only [Act.put, List.setIfInBounds_toArray, List.set_cons_zero, List.set_cons_succ]
  refine wpAnyH_take (i := 7) (oi := ⟨some 11, _, _, _, _, _⟩) (v := .bool true) rfl (by kernel_rfl) (by kernel_rfl) (by kernel_rfl) (fun _ _ _ h => h) (.inl ⟨by rfl, fun W1 h1 => by go_simp⟩) hW2 ?_
  try simp only [Act.put, List.setIfInBounds_toArray, List.set_cons_zero, List.set_cons_succ]
  refine wpAnyH_take (i := 8) (oi := ⟨some 12, _, _, _, _, _⟩) (v := .bool true) rfl (by kernel_rfl) (by kernel_rfl) (by kernel_rfl) (fun _ _ _ h => h) (.inl ⟨by rfl, fun W1 h1 => by go_simp⟩) hW2 ?_
  try simp only [Act.put, List.setIfInBounds_toArray, List.set_cons_zero, List.set_cons_succ]
  refine wpAnyH_take (i := 9) (oi := ⟨some 13, _, _, _, _, _⟩) (v := .bool true) rfl (by kernel_rfl) (by kernel_rfl) (by kernel_rfl) (fun _ _ _ h => h) (.inl ⟨by rfl, fun W1 h1 => by go_simp⟩) hW2 ?_
  try simp only [Act.put, List.setIfInBounds_toArray, List.set_cons_zero, List.set_cons_succ]
  refine wpAnyH_take (i := 10) (oi := ⟨some 14, _, _, _, _, _⟩) (v := .func (.func 103) #[] #[]) rfl (by kernel_rfl) (by kernel_rfl) (by kernel_rfl) (fun _ _ _ h => h) (.inl ⟨by rfl, fun W1 h1 => by go_simp⟩) hW2 ?_
  try simp only [Act.put, List.setIfInBounds_toArray, List.set_cons_zero, List.set_cons_succ]
  refine wpAnyH_take (i := 11) (oi := ⟨some 15, _, _, _, _, _⟩) (v := .pointer (some ⟨w.heap.size, 0, none⟩)) rfl (by kernel_rfl) (by kernel_rfl) (by kernel_rfl) (fun _ _ _ h => h) (.inl ⟨by rfl, fun W1 h1 => by go_simp⟩) hW2 ?_
  try simp only [Act.put, List.setIfInBounds_toArray, List.set_cons_zero, List.set_cons_succ]
  refine wpAnyH_take (i := 12) (oi := ⟨some 16, _, _, _, _, _⟩) (v := .int .i64 p.at_) rfl (by kernel_rfl) (by kernel_rfl) (by kernel_rfl) (fun _ _ _ h => h) (.inl ⟨by rfl, fun W1 h1 => by (have x0 : W1.cell? ⟨w.heap.size, 0, none⟩ = some (.int .i64 p.at_) := (by rw [cell_of_row W1 _ 0 cs 32 (0, 0) h1.1]; exact HP.out.c0)); go_simp⟩) hW2 ?_
  try simp only [Act.put, List.setIfInBounds_toArray, List.set_cons_zero, List.set_cons_succ]
  refine wpAnyH_take (i := 13) (oi := ⟨some 17, _, _, _, _, _⟩) rfl (by kernel_rfl) (by kernel_rfl) (by kernel_rfl) (fun _ _ _ h => h) (yieldsIf_load_row (by rfl) 32 _ rfl w.heap.size rfl 32 cs (0, 0) _ (fun _ h => h.1) Tryz.underlying32 rfl hi) hW2 ?_
  try simp only [Act.put, List.setIfInBounds_toArray, List.set_cons_zero, List.set_cons_succ]
  refine wpAnyH_ready (rs := [14]) (by kernel_rfl) (by simp) (AllReadyH.cons rfl (fun K3 hK3 => ?_) AllReadyH.nil)
  go_simp
  refine (HS.out _).mono ?_
  rintro e w3 ⟨rfl, b3⟩
  refine hK3.out _ _ (⟨blk_below hW2.1 b3, hW2.2.1.trans (b3.mono hW2.2.1.size), Nat.lt_of_lt_of_le hW2.2.2 b3.size⟩) (fun hW3 => ?_)
  try simp only [Act.put, List.setIfInBounds_toArray, List.set_cons_zero, List.set_cons_succ]
  refine wpAnyH_take (i := 15) (oi := ⟨some 19, _, _, _, _, _⟩) (v := .int .i64 (8192 - sc)) rfl (by kernel_rfl) (by kernel_rfl) (by kernel_rfl) (fun _ _ _ h => h) (.inl ⟨by rfl, fun W1 h1 => by (have hw : IntKind.i64.wrap (8192 - sc) = 8192 - sc := (by rw [IntKind.wrap_i64]; omega)); go_simp⟩) hW3 ?_
  try simp only [Act.put, List.setIfInBounds_toArray, List.set_cons_zero, List.set_cons_succ]
  refine wpAnyH_ready (rs := [16]) (by kernel_rfl) (by simp) (AllReadyH.cons rfl (fun K4 hK4 => ?_) AllReadyH.nil)
  go_simp
  refine (in_yes _ _ _ hl1 hl2 _).mono ?_
  rintro e w4 ⟨rfl, rfl⟩
  refine hK4.out _ _ (hW3) (fun hW4 => ?_)
  try simp only [Act.put, List.setIfInBounds_toArray, List.set_cons_zero, List.set_cons_succ]
  refine wpAnyH_take (i := 17) (oi := ⟨some 21, _, _, _, _, _⟩) (v := .bool true) rfl (by kernel_rfl) (by kernel_rfl) (by kernel_rfl) (fun _ _ _ h => h) (.inl ⟨by rfl, fun W1 h1 => by go_simp⟩) hW4 ?_
  try simp only [Act.put, List.setIfInBounds_toArray, List.set_cons_zero, List.set_cons_succ]
  refine wpAnyH_take (i := 18) (oi := ⟨some 2, _, _, _, _, _⟩) (v := .bool true) rfl (by kernel_rfl) (by kernel_rfl) (by kernel_rfl) (fun _ _ _ h => h) (.inl ⟨by rfl, fun W1 h1 => by go_simp⟩) hW4 ?_
  try simp only [Act.put, List.setIfInBounds_toArray, List.set_cons_zero, List.set_cons_succ]
  refine wpAnyH_done (by kernel_rfl) ?_ _
  have HB := Aside0.mk hW4.2.1
  clear HB0 G0 hs
  go_wp2
  go_ret
  exact ⟨rfl, HB.out⟩

set_option maxHeartbeats 2000000 in
set_option maxRecDepth 100000 in
theorem right_d (cs : Array Value) (p : Ptr) (hp : PC cs p) (hb1 : 1 ≤ p.birth) (hb2 : p.birth ≤ 1152921504606846976) (hq : 0 < sect p.len) (hl : ¬ (2 ≤ p.at_ ∧ p.at_ ≤ 8192 - sect p.len)) (w : World) : Calls Tryz.prog 58 #[.agg cs] w fun e w' => e = .returned (.bool false) ∧ Below w.heap.size w w' := by
  have hi : (Tryz.prog.info? 32).map (·.size) = some cs.size := by rw [hp.size]; kernel_rfl
  have G0 := Aside0.mk (blk_new w (.cells cs 32))
  have HB0 := Aside0.mk (below_alloc (Below.refl w.heap.size w) (.cells cs 32))
  have hs : w.heap.size < (w.alloc (.cells cs 32)).heap.size := by simp
  have HP := Aside0.mk hp
  go_enter Tryz.func58, Tryz.ntmps58
  go_wp2_with fail
  generalize (w.alloc (.cells cs 32)) = W at *
  have HS := Aside0.mk (fun W => sectors_calls cs p hp W)
  have hsb := sect_bound p.len
  generalize sect p.len = sc at *
  refine wp_region_held_drew (S := fun w' => w'.heap[w.heap.size]? = some (.cells cs 32 (0, 0)) ∧ Below w.heap.size w w' ∧ w.heap.size < w'.heap.size) (by kernel_rfl) ⟨G0.out, below_drew HB0.out, hs⟩ (fun hW => ?_)
  refine wpAnyH_take (i := 0) (oi := ⟨some 4, _, _, _, _, _⟩) (v := .func (.func 103) #[] #[]) rfl (by kernel_rfl) (by kernel_rfl) (by kernel_rfl) (fun _ _ _ h => h) (.inl ⟨by rfl, fun W1 h1 => by go_simp⟩) hW ?_
  try simp only [Act.put, List.setIfInBounds_toArray, List.set_cons_zero, List.set_cons_succ]
  refine wpAnyH_take (i := 1) (oi := ⟨some 5, _, _, _, _, _⟩) (v := .pointer (some ⟨w.heap.size, 1, none⟩)) rfl (by kernel_rfl) (by kernel_rfl) (by kernel_rfl) (fun _ _ _ h => h) (.inl ⟨by rfl, fun W1 h1 => by go_simp⟩) hW ?_
  try simp only [Act.put, List.setIfInBounds_toArray, List.set_cons_zero, List.set_cons_succ]
  refine wpAnyH_take (i := 2) (oi := ⟨some 6, _, _, _, _, _⟩) (v := .int .i64 p.birth) rfl (by kernel_rfl) (by kernel_rfl) (by kernel_rfl) (fun _ _ _ h => h) (.inl ⟨by rfl, fun W1 h1 => by (have x0 : W1.cell? ⟨w.heap.size, 1, none⟩ = some (.int .i64 p.birth) := (by rw [cell_of_row W1 _ 1 cs 32 (0, 0) h1.1]; exact HP.out.c1)); go_simp⟩) hW ?_
  try simp only [Act.put, List.setIfInBounds_toArray, List.set_cons_zero, List.set_cons_succ]
  refine wpAnyH_ready (rs := [3]) (by kernel_rfl) (by simp) (AllReadyH.cons rfl (fun K1 hK1 => ?_) AllReadyH.nil)
  go_simp
  refine (in_yes _ _ _ hb1 hb2 _).mono ?_
  rintro e w1 ⟨rfl, rfl⟩
  refine hK1.out _ _ (hW) (fun hW1 => ?_)
  try simp only [Act.put, List.setIfInBounds_toArray, List.set_cons_zero, List.set_cons_succ]
  refine wpAnyH_take (i := 4) (oi := ⟨some 8, _, _, _, _, _⟩) (v := .bool true) rfl (by kernel_rfl) (by kernel_rfl) (by kernel_rfl) (fun _ _ _ h => h) (.inl ⟨by rfl, fun W1 h1 => by go_simp⟩) hW1 ?_
  try simp only [Act.put, List.setIfInBounds_toArray, List.set_cons_zero, List.set_cons_succ]
  refine wpAnyH_take (i := 5) (oi := ⟨some 9, _, _, _, _, _⟩) rfl (by kernel_rfl) (by kernel_rfl) (by kernel_rfl) (fun _ _ _ h => h) (yieldsIf_load_row (by rfl) 32 _ rfl w.heap.size rfl 32 cs (0, 0) _ (fun _ h => h.1) Tryz.underlying32 rfl hi) hW1 ?_
  try simp only [Act.put, List.setIfInBounds_toArray, List.set_cons_zero, List.set_cons_succ]
  refine wpAnyH_ready (rs := [6]) (by kernel_rfl) (by simp) (AllReadyH.cons rfl (fun K2 hK2 => ?_) AllReadyH.nil)
  go_simp
  refine (HS.out _).mono ?_
  rintro e w2 ⟨rfl, b2⟩
  refine hK2.out _ _ (⟨blk_below hW1.1 b2, hW1.2.1.trans (b2.mono hW1.2.1.size), Nat.lt_of_lt_of_le hW1.2.2 b2.size⟩) (fun hW2 => ?_)
  try simp only [Act.put, List.setIfInBounds_toArray, List.set_cons_zero, List.set_cons_succ]
  refine wpAnyH_take (i := 7) (oi := ⟨some 11, _, _, _, _, _⟩) (v := .bool true) rfl (by kernel_rfl) (by kernel_rfl) (by kernel_rfl) (fun _ _ _ h => h) (.inl ⟨by rfl, fun W1 h1 => by go_simp⟩) hW2 ?_
  try simp only [Act.put, List.setIfInBounds_toArray, List.set_cons_zero, List.set_cons_succ]
  refine wpAnyH_take (i := 8) (oi := ⟨some 12, _, _, _, _, _⟩) (v := .bool true) rfl (by kernel_rfl) (by kernel_rfl) (by kernel_rfl) (fun _ _ _ h => h) (.inl ⟨by rfl, fun W1 h1 => by go_simp⟩) hW2 ?_
  try simp only [Act.put, List.setIfInBounds_toArray, List.set_cons_zero, List.set_cons_succ]
  refine wpAnyH_take (i := 9) (oi := ⟨some 13, _, _, _, _, _⟩) (v := .bool true) rfl (by kernel_rfl) (by kernel_rfl) (by kernel_rfl) (fun _ _ _ h => h) (.inl ⟨by rfl, fun W1 h1 => by go_simp⟩) hW2 ?_
  try simp only [Act.put, List.setIfInBounds_toArray, List.set_cons_zero, List.set_cons_succ]
  refine wpAnyH_take (i := 10) (oi := ⟨some 14, _, _, _, _, _⟩) (v := .func (.func 103) #[] #[]) rfl (by kernel_rfl) (by kernel_rfl) (by kernel_rfl) (fun _ _ _ h => h) (.inl ⟨by rfl, fun W1 h1 => by go_simp⟩) hW2 ?_
  try simp only [Act.put, List.setIfInBounds_toArray, List.set_cons_zero, List.set_cons_succ]
  refine wpAnyH_take (i := 11) (oi := ⟨some 15, _, _, _, _, _⟩) (v := .pointer (some ⟨w.heap.size, 0, none⟩)) rfl (by kernel_rfl) (by kernel_rfl) (by kernel_rfl) (fun _ _ _ h => h) (.inl ⟨by rfl, fun W1 h1 => by go_simp⟩) hW2 ?_
  try simp only [Act.put, List.setIfInBounds_toArray, List.set_cons_zero, List.set_cons_succ]
  refine wpAnyH_take (i := 12) (oi := ⟨some 16, _, _, _, _, _⟩) (v := .int .i64 p.at_) rfl (by kernel_rfl) (by kernel_rfl) (by kernel_rfl) (fun _ _ _ h => h) (.inl ⟨by rfl, fun W1 h1 => by (have x0 : W1.cell? ⟨w.heap.size, 0, none⟩ = some (.int .i64 p.at_) := (by rw [cell_of_row W1 _ 0 cs 32 (0, 0) h1.1]; exact HP.out.c0)); go_simp⟩) hW2 ?_
  try simp only [Act.put, List.setIfInBounds_toArray, List.set_cons_zero, List.set_cons_succ]
  refine wpAnyH_take (i := 13) (oi := ⟨some 17, _, _, _, _, _⟩) rfl (by kernel_rfl) (by kernel_rfl) (by kernel_rfl) (fun _ _ _ h => h) (yieldsIf_load_row (by rfl) 32 _ rfl w.heap.size rfl 32 cs (0, 0) _ (fun _ h => h.1) Tryz.underlying32 rfl hi) hW2 ?_
  try simp only [Act.put, List.setIfInBounds_toArray, List.set_cons_zero, List.set_cons_succ]
  refine wpAnyH_ready (rs := [14]) (by kernel_rfl) (by simp) (AllReadyH.cons rfl (fun K3 hK3 => ?_) AllReadyH.nil)
  go_simp
  refine (HS.out _).mono ?_
  rintro e w3 ⟨rfl, b3⟩
  refine hK3.out _ _ (⟨blk_below hW2.1 b3, hW2.2.1.trans (b3.mono hW2.2.1.size), Nat.lt_of_lt_of_le hW2.2.2 b3.size⟩) (fun hW3 => ?_)
  try simp only [Act.put, List.setIfInBounds_toArray, List.set_cons_zero, List.set_cons_succ]
  refine wpAnyH_take (i := 15) (oi := ⟨some 19, _, _, _, _, _⟩) (v := .int .i64 (8192 - sc)) rfl (by kernel_rfl) (by kernel_rfl) (by kernel_rfl) (fun _ _ _ h => h) (.inl ⟨by rfl, fun W1 h1 => by (have hw : IntKind.i64.wrap (8192 - sc) = 8192 - sc := (by rw [IntKind.wrap_i64]; omega)); go_simp⟩) hW3 ?_
  try simp only [Act.put, List.setIfInBounds_toArray, List.set_cons_zero, List.set_cons_succ]
  refine wpAnyH_ready (rs := [16]) (by kernel_rfl) (by simp) (AllReadyH.cons rfl (fun K4 hK4 => ?_) AllReadyH.nil)
  go_simp
  refine (in_no _ _ _ hl _).mono ?_
  rintro e w4 ⟨rfl, rfl⟩
  refine hK4.out _ _ (hW3) (fun hW4 => ?_)
  try simp only [Act.put, List.setIfInBounds_toArray, List.set_cons_zero, List.set_cons_succ]
  refine wpAnyH_take (i := 17) (oi := ⟨some 21, _, _, _, _, _⟩) (v := .bool false) rfl (by kernel_rfl) (by kernel_rfl) (by kernel_rfl) (fun _ _ _ h => h) (.inl ⟨by rfl, fun W1 h1 => by go_simp⟩) hW4 ?_
  try simp only [Act.put, List.setIfInBounds_toArray, List.set_cons_zero, List.set_cons_succ]
  refine wpAnyH_take (i := 18) (oi := ⟨some 2, _, _, _, _, _⟩) (v := .bool false) rfl (by kernel_rfl) (by kernel_rfl) (by kernel_rfl) (fun _ _ _ h => h) (.inl ⟨by rfl, fun W1 h1 => by go_simp⟩) hW4 ?_
  try simp only [Act.put, List.setIfInBounds_toArray, List.set_cons_zero, List.set_cons_succ]
  refine wpAnyH_done (by kernel_rfl) ?_ _
  have HB := Aside0.mk hW4.2.1
  clear HB0 G0 hs
  go_wp2
  go_ret
  exact ⟨rfl, HB.out⟩

theorem rightB_yes {p : Ptr} (h : Right p) : rightB p = true := decide_eq_true h
theorem rightB_no {p : Ptr} (h : ¬ Right p) : rightB p = false := decide_eq_false h
theorem right_calls (cs : Array Value) (p : Ptr) (hp : PC cs p) (w : World) : Calls Tryz.prog 58 #[.agg cs] w fun e w' => e = .returned (.bool (rightB p)) ∧ Below w.heap.size w w' := by
  have hsb := sect_bound p.len
  by_cases hb : 1 ≤ p.birth ∧ p.birth ≤ 1152921504606846976
  · by_cases hq : 0 < sect p.len
    · by_cases hl : 2 ≤ p.at_ ∧ p.at_ ≤ 8192 - sect p.len
      · rw [rightB_yes ⟨hb.1, hb.2, hq, hl.1, hl.2⟩]
        exact right_c cs p hp hb.1 hb.2 hq hl.1 hl.2 w
      · rw [rightB_no (fun h => hl ⟨h.2.2.2.1, h.2.2.2.2⟩)]
        exact right_d cs p hp hb.1 hb.2 hq hl w
    · rw [rightB_no (fun h => hq h.2.2.1)]
      exact right_b cs p hp hb.1 hb.2 (by omega) w
  · rw [rightB_no (fun h => hb ⟨h.1, h.2.1⟩)]
    exact right_a cs p hp hb w
end Go.Proofs.YtchhdafgmifhdaaGreat.PtrB
namespace Go.Proofs.YtchhdafgmifhdaaGreat.SpnA
open Go.RowKit Go.Proofs.YtchhdafgmifhdaaGreat.B8 Go.Proofs.YtchhdafgmifhdaaGreat.Agg Go.Proofs.YtchhdafgmifhdaaGreat.CodL Go.Proofs.YtchhdafgmifhdaaGreat.CodA Go.Proofs.YtchhdafgmifhdaaGreat.CodB Go.Proofs.YtchhdafgmifhdaaGreat.CrcL Go.Proofs.YtchhdafgmifhdaaGreat.CrcA Go.Proofs.YtchhdafgmifhdaaGreat.CrcB Go.Proofs.YtchhdafgmifhdaaGreat.PVerifyForms Go.Proofs.YtchhdafgmifhdaaGreatW.PrintWords Go.Proofs.YtchhdafgmifhdaaGreatW.PrintLast Go.Proofs.YtchhdafgmifhdaaGreatW.PrintMore Go.Proofs.YtchhdafgmifhdaaGreat.CatL Go.Proofs.YtchhdafgmifhdaaGreat.PtrA Go.Proofs.YtchhdafgmifhdaaGreat.PtrB Go.Proofs.YtchhdafgmifhdaaGreat.PtrE Go.Proofs.YtchhdafgmifhdaaGreat.OfA Go.Proofs.YtchhdafgmifhdaaGreat.ExtA Go.Proofs.YtchhdafgmifhdaaGreat.DskA Go.Proofs.YtchhdafgmifhdaaGreat.DskB Go.Proofs.YtchhdafgmifhdaaGreat.DskC
set_option linter.unusedVariables false
set_option linter.unusedSimpArgs false
end Go.Proofs.YtchhdafgmifhdaaGreat.SpnA
namespace Go.Proofs.YtchhdafgmifhdaaGreat.BlkA
open Go.RowKit Go.Proofs.YtchhdafgmifhdaaGreat.B8 Go.Proofs.YtchhdafgmifhdaaGreat.Agg Go.Proofs.YtchhdafgmifhdaaGreat.CodL Go.Proofs.YtchhdafgmifhdaaGreat.CodA Go.Proofs.YtchhdafgmifhdaaGreat.CodB Go.Proofs.YtchhdafgmifhdaaGreat.CrcL Go.Proofs.YtchhdafgmifhdaaGreat.CrcA Go.Proofs.YtchhdafgmifhdaaGreat.CrcB Go.Proofs.YtchhdafgmifhdaaGreat.PVerifyForms Go.Proofs.YtchhdafgmifhdaaGreatW.PrintWords Go.Proofs.YtchhdafgmifhdaaGreatW.PrintLast Go.Proofs.YtchhdafgmifhdaaGreatW.PrintMore Go.Proofs.YtchhdafgmifhdaaGreat.CatL Go.Proofs.YtchhdafgmifhdaaGreat.PtrA Go.Proofs.YtchhdafgmifhdaaGreat.PtrB Go.Proofs.YtchhdafgmifhdaaGreat.PtrE Go.Proofs.YtchhdafgmifhdaaGreat.OfA Go.Proofs.YtchhdafgmifhdaaGreat.ExtA Go.Proofs.YtchhdafgmifhdaaGreat.DskA Go.Proofs.YtchhdafgmifhdaaGreat.DskB Go.Proofs.YtchhdafgmifhdaaGreat.DskC
set_option linter.unusedVariables false
set_option linter.unusedSimpArgs false
set_option maxRecDepth 100000 in
set_option maxHeartbeats 4000000 in
theorem check28 (d N m : Nat) (cs : Array Value) (p : Ptr) (hp : PC cs p) (hR : Right p) (hN : p.at_ + sect p.len ≤ N) (w : World) (hd : DB w d N m) :
    Calls Tryz.prog 124 #[.pointer (some ⟨d, 0, none⟩), .agg cs] w fun e w' => e = .returned (.int .i64 0) ∧ Below w.heap.size w w' := by
  obtain ⟨P, hP⟩ : ∃ P : Ending → World → Prop, P = fun e w' => e = .returned (.int .i64 0) ∧ Below w.heap.size w w' := ⟨_, rfl⟩
  rw [← hP]
  have HP := Aside0.mk hP
  clear hP
  have hb := hR.bounds
  have hsb := sect_bound p.len
  have b1 := below_alloc (Below.refl w.heap.size w) (.cells cs 32)
  have HB := Aside0.mk b1
  have HD := Aside0.mk (hd.below b1)
  have HG := Aside0.mk (blk_new w (.cells cs 32))
  have HPC := Aside0.mk hp
  have HRT := Aside0.mk (rightB_yes hR)
  have hN0 : ((N : Int) == 0) = false := by rw [beq_eq_false_iff_ne]; have := hR.2.2.1; have := hR.2.2.2.1; omega
  obtain ⟨x, hx⟩ : ∃ x, x = p.at_ := ⟨_, rfl⟩
  obtain ⟨s, hs⟩ : ∃ s, s = sect p.len := ⟨_, rfl⟩
  have HX := Aside0.mk hx
  have HS := Aside0.mk hs
  have hw1 : IntKind.i64.wrap (x + s) = x + s := i64_small (by omega) (by omega)
  have d1 : decide (x + s > (N : Int)) = false := decide_eq_false (by omega)
  have d1' : decide ((N : Int) < x + s) = false := decide_eq_false (by omega)
  clear hp hR hx hs b1 hd hb hsb hN
  go_enter Tryz.func124, Tryz.ntmps124
  go_wp2_with fail
  generalize hW1 : w.alloc (.cells cs 32) = W1 at *
  clear hW1
  refine (len23 d N m W1 HD.out).mono ?_
  rintro e W2 ⟨rfl, hb2⟩
  have HB2 := Aside0.mk (HB.out.trans (hb2.mono HB.out.size))
  have HD2 := Aside0.mk (HD.out.below hb2)
  have hg2 := blk_below HG.out hb2
  have hgl : w.heap.size < W2.heap.size := blk_lt hg2
  have HG2 := Aside0.mk hg2
  have X0 := Aside0.mk (show W2.cell? ⟨w.heap.size, 0, none⟩ = some (.int .i64 x) by rw [cell_of_row _ _ 0 cs 32 (0, 0) hg2, HX.out]; exact HPC.out.c0)
  clear hb2 hg2
  go_wp2_with fail
  refine wp_region_held_drew (S := fun w' => Below W2.heap.size W2 w') (by kernel_rfl) (below_drew (Below.refl _ _)) (fun hW => ?_)
  generalize hWd : W2.drew = Wd at *
  clear hWd
  refine wpAnyH_ready (rs := [0]) (by kernel_rfl) (by simp) (AllReadyH.cons rfl (fun K1 hK1 => ?_) AllReadyH.nil)
  refine wp_load_row (o := ⟨some 10, _, _, _, _, _⟩) 32 (.tmp 3) rfl w.heap.size rfl 32 cs (0, 0) _ (blk_below HG2.out hW) underl56 rfl (by rw [i33, HPC.out.size]) ?_
  refine hK1.out _ _ hW (fun hW => ?_)
  try simp only [Act.put, List.setIfInBounds_toArray, List.set_cons_zero, List.set_cons_succ]
  refine wpAnyH_ready (rs := [1]) (by kernel_rfl) (by simp) (AllReadyH.cons rfl (fun K2 hK2 => ?_) AllReadyH.nil)
  go_simp
  refine (right_calls cs p HPC.out _).mono ?_
  rintro e w2 ⟨he, hb2⟩
  rw [HRT.out] at he
  subst he
  refine hK2.out _ _ (hW.trans (hb2.mono hW.size)) (fun hW => ?_)
  clear hb2
  try simp only [Act.put, List.setIfInBounds_toArray, List.set_cons_zero, List.set_cons_succ]
  refine wpAnyH_take (i := 2) (oi := ⟨some 12, _, _, _, _, _⟩) (v := .bool false) rfl (by kernel_rfl) (by kernel_rfl) (by kernel_rfl) (fun _ _ _ h => h) (.inl ⟨by rfl, fun W1 h1 => by go_simp⟩) hW ?_
  try simp only [Act.put, List.setIfInBounds_toArray, List.set_cons_zero, List.set_cons_succ]
  refine wpAnyH_take (i := 3) (oi := ⟨some 13, _, _, _, _, _⟩) (v := .bool false) rfl (by kernel_rfl) (by kernel_rfl) (by kernel_rfl) (fun _ _ _ h => h) (.inl ⟨by rfl, fun W1 h1 => by go_simp⟩) hW ?_
  try simp only [Act.put, List.setIfInBounds_toArray, List.set_cons_zero, List.set_cons_succ]
  refine wpAnyH_take (i := 4) (oi := ⟨some 14, _, _, _, _, _⟩) (v := .pointer (some ⟨w.heap.size, 0, none⟩)) rfl (by kernel_rfl) (by kernel_rfl) (by kernel_rfl) (fun _ _ _ h => h) (.inl ⟨by rfl, fun W1 h1 => by go_simp⟩) hW ?_
  try simp only [Act.put, List.setIfInBounds_toArray, List.set_cons_zero, List.set_cons_succ]
  refine wpAnyH_take (i := 5) (oi := ⟨some 15, _, _, _, _, _⟩) (v := .int .i64 x) rfl (by kernel_rfl) (by kernel_rfl) (by kernel_rfl) (fun _ _ _ h => h) (.inl ⟨by rfl, fun W1 h1 => by have h2 := (Below.cell (p := ⟨w.heap.size, 0, none⟩) h1 hgl).trans X0.out; clear h1; go_simp⟩) hW ?_
  try simp only [Act.put, List.setIfInBounds_toArray, List.set_cons_zero, List.set_cons_succ]
  refine wpAnyH_take (i := 9) (oi := ⟨some 19, _, _, _, _, _⟩) (v := .pointer (some ⟨d, 0, none⟩)) rfl (by kernel_rfl) (by kernel_rfl) (by kernel_rfl) (fun _ _ _ h => h) (.inl ⟨by rfl, fun W1 h1 => by go_simp⟩) hW ?_
  try simp only [Act.put, List.setIfInBounds_toArray, List.set_cons_zero, List.set_cons_succ]
  refine wpAnyH_ready (rs := [6]) (by kernel_rfl) (by simp) (AllReadyH.cons rfl (fun K3 hK3 => ?_) AllReadyH.nil)
  refine wp_load_row (o := ⟨some 16, _, _, _, _, _⟩) 32 (.tmp 3) rfl w.heap.size rfl 32 cs (0, 0) _ (blk_below HG2.out hW) underl56 rfl (by rw [i33, HPC.out.size]) ?_
  refine hK3.out _ _ hW (fun hW => ?_)
  try simp only [Act.put, List.setIfInBounds_toArray, List.set_cons_zero, List.set_cons_succ]
  refine wpAnyH_ready (rs := [7]) (by kernel_rfl) (by simp) (AllReadyH.cons rfl (fun K4 hK4 => ?_) AllReadyH.nil)
  go_simp
  refine (sectors_calls cs p HPC.out _).mono ?_
  rintro e w4 ⟨he, hb4⟩
  rw [← HS.out] at he
  subst he
  refine hK4.out _ _ (hW.trans (hb4.mono hW.size)) (fun hW => ?_)
  clear hb4
  try simp only [Act.put, List.setIfInBounds_toArray, List.set_cons_zero, List.set_cons_succ]
  refine wpAnyH_take (i := 8) (oi := ⟨some 18, _, _, _, _, _⟩) (v := .int .i64 (x + s)) rfl (by kernel_rfl) (by kernel_rfl) (by kernel_rfl) (fun _ _ _ h => h) (.inl ⟨by rfl, fun W1 h1 => by go_simp⟩) hW ?_
  try simp only [Act.put, List.setIfInBounds_toArray, List.set_cons_zero, List.set_cons_succ]
  refine wpAnyH_ready (rs := [10]) (by kernel_rfl) (by simp) (AllReadyH.cons rfl (fun K5 hK5 => ?_) AllReadyH.nil)
  go_simp
  refine (len23 d N m _ (HD2.out.below hW)).mono ?_
  rintro e w5 ⟨he, hb5⟩
  subst he
  refine hK5.out _ _ (hW.trans (hb5.mono hW.size)) (fun hW => ?_)
  clear hb5
  try simp only [Act.put, List.setIfInBounds_toArray, List.set_cons_zero, List.set_cons_succ]
  refine wpAnyH_take (i := 11) (oi := ⟨some 21, _, _, _, _, _⟩) (v := .bool false) rfl (by kernel_rfl) (by kernel_rfl) (by kernel_rfl) (fun _ _ _ h => h) (.inl ⟨by rfl, fun W1 h1 => by go_simp⟩) hW ?_
  try simp only [Act.put, List.setIfInBounds_toArray, List.set_cons_zero, List.set_cons_succ]
  refine wpAnyH_take (i := 12) (oi := ⟨some 22, _, _, _, _, _⟩) (v := .bool false) rfl (by kernel_rfl) (by kernel_rfl) (by kernel_rfl) (fun _ _ _ h => h) (.inl ⟨by rfl, fun W1 h1 => by go_simp⟩) hW ?_
  try simp only [Act.put, List.setIfInBounds_toArray, List.set_cons_zero, List.set_cons_succ]
  refine wpAnyH_take (i := 13) (oi := ⟨some 9, _, _, _, _, _⟩) (v := .bool false) rfl (by kernel_rfl) (by kernel_rfl) (by kernel_rfl) (fun _ _ _ h => h) (.inl ⟨by rfl, fun W1 h1 => by go_simp⟩) hW ?_
  try simp only [Act.put, List.setIfInBounds_toArray, List.set_cons_zero, List.set_cons_succ]
  refine wpAnyH_done (by kernel_rfl) ?_ _
  clear hK1 K1 hK2 K2 hK3 K3 hK4 K4 hK5 K5
  have HB5 := Aside0.mk (HB2.out.trans (hW.mono HB2.out.size))
  clear hW
  go_wp2
  rw [HP.out]
  exact ⟨rfl, HB5.out⟩
end Go.Proofs.YtchhdafgmifhdaaGreat.BlkA
namespace Go.Proofs.YtchhdafgmifhdaaGreat.PoolA
open Go.RowKit Go.Proofs.YtchhdafgmifhdaaGreat.B8 Go.Proofs.YtchhdafgmifhdaaGreat.Agg Go.Proofs.YtchhdafgmifhdaaGreat.CodL Go.Proofs.YtchhdafgmifhdaaGreat.CodA Go.Proofs.YtchhdafgmifhdaaGreat.CodB Go.Proofs.YtchhdafgmifhdaaGreat.CrcL Go.Proofs.YtchhdafgmifhdaaGreat.CrcA Go.Proofs.YtchhdafgmifhdaaGreat.CrcB Go.Proofs.YtchhdafgmifhdaaGreat.PVerifyForms Go.Proofs.YtchhdafgmifhdaaGreatW.PrintWords Go.Proofs.YtchhdafgmifhdaaGreatW.PrintLast Go.Proofs.YtchhdafgmifhdaaGreatW.PrintMore Go.Proofs.YtchhdafgmifhdaaGreat.CatL Go.Proofs.YtchhdafgmifhdaaGreat.PtrA Go.Proofs.YtchhdafgmifhdaaGreat.PtrB Go.Proofs.YtchhdafgmifhdaaGreat.PtrE Go.Proofs.YtchhdafgmifhdaaGreat.OfA Go.Proofs.YtchhdafgmifhdaaGreat.ExtL Go.Proofs.YtchhdafgmifhdaaGreat.ExtA Go.Proofs.YtchhdafgmifhdaaGreat.DskA Go.Proofs.YtchhdafgmifhdaaGreat.DskB Go.Proofs.YtchhdafgmifhdaaGreat.DskC Go.Proofs.YtchhdafgmifhdaaGreat.AlcA Go.Proofs.YtchhdafgmifhdaaGreat.AlcB Go.Proofs.YtchhdafgmifhdaaGreat.AlcC Go.Proofs.YtchhdafgmifhdaaGreat.AlcD Go.Proofs.YtchhdafgmifhdaaGreat.AlcE Go.Proofs.YtchhdafgmifhdaaGreat.AlcF Go.Proofs.YtchhdafgmifhdaaGreat.SpnA Go.Proofs.YtchhdafgmifhdaaGreat.BlkA
set_option linter.unusedVariables false
set_option linter.unusedSimpArgs false
/-- A pool: its block, its disk, its allocator. -/
structure PO (W : World) (p d m a mw N : Nat) (fr tu rs : Int) (l : List Sp) (ep : Int) (kv : Value) : Prop where
  blk : W.heap[p]? = some (.cells #[.pointer (some ⟨d, 0, none⟩), .pointer (some ⟨a, 0, none⟩), .int .i64 ep, .bool false, kv] 28 (0, 0))
  disk : DB W d N m
  map : MI W m
  alc : AB W a mw fr tu rs l
  ne : m ≠ mw
theorem PO.below {W W2 : World} {p d m a mw N : Nat} {fr tu rs : Int} {l : List Sp} {ep : Int} {kv : Value} (h : PO W p d m a mw N fr tu rs l ep kv) (hb : Below W.heap.size W W2) : PO W2 p d m a mw N fr tu rs l ep kv :=
  ⟨blk_below h.blk hb, h.disk.below hb, h.map.below hb, h.alc.below hb, h.ne⟩
theorem PO.lt {W : World} {p d m a mw N : Nat} {fr tu rs : Int} {l : List Sp} {ep : Int} {kv : Value} (h : PO W p d m a mw N fr tu rs l ep kv) : p < W.heap.size := blk_lt h.blk
set_option maxRecDepth 100000 in
set_option maxHeartbeats 4000000 in
theorem ready12 (p d m a mw N : Nat) (fr tu rs : Int) (l : List Sp) (ep : Int) (kv : Value) (w : World) (h : PO w p d m a mw N fr tu rs l ep kv) (hN : 0 < N) (htu : fr < tu) :
    Calls Tryz.prog 40 #[.pointer (some ⟨p, 0, none⟩)] w (fun e w' => e = .returned (.int .i64 0) ∧ Below w.heap.size w w') := by
  obtain ⟨P, hP⟩ : ∃ P : Ending → World → Prop, P = fun e w' => e = .returned (.int .i64 0) ∧ Below w.heap.size w w' := ⟨_, rfl⟩
  rw [← hP]
  have HP := Aside0.mk hP
  clear hP
  have H := Aside0.mk h
  have hp := h.lt
  have C0 := Aside0.mk (show w.cell? ⟨p, 0, none⟩ = some (.pointer (some ⟨d, 0, none⟩)) by rw [cell_of_row _ _ 0 _ 28 (0, 0) h.blk]; rfl)
  have C1 := Aside0.mk (show w.cell? ⟨p, 1, none⟩ = some (.pointer (some ⟨a, 0, none⟩)) by rw [cell_of_row _ _ 1 _ 28 (0, 0) h.blk]; rfl)
  have hN0 : ((N : Int) == 0) = false := by rw [beq_eq_false_iff_ne]; omega
  obtain ⟨n1, n2, n3, n4, n5, n6, n7⟩ := h.alc.num
  obtain ⟨t, ht⟩ : ∃ t, t = total l := ⟨_, rfl⟩
  have HT := Aside0.mk ht
  rw [← ht] at n6 n7
  have w1 : IntKind.i64.wrap (t + (tu - fr - t)) = tu - fr := by rw [i64_small (by omega) (by omega)]; omega
  have w2 : IntKind.i64.wrap (tu - fr + 0) = tu - fr := by rw [i64_small (by omega) (by omega)]; omega
  have w3 : IntKind.i64.wrap (tu - fr) = tu - fr := by rw [i64_small (by omega) (by omega)]
  have hE : ((tu - fr) == 0) = false := by rw [beq_eq_false_iff_ne]; omega
  clear h ht hN
  go_enter Tryz.func40, Tryz.ntmps40
  go_wp2_with fail
  refine wp_region_held_drew (S := fun w' => Below w.heap.size w w') (by kernel_rfl) (below_drew (Below.refl _ _)) (fun hW => ?_)
  generalize hWd : w.drew = Wd at *
  clear hWd
  refine wpAnyH_take (i := 0) (oi := ⟨some 3, _, _, _, _, _⟩) (v := .pointer (some ⟨p, 0, none⟩)) rfl (by kernel_rfl) (by kernel_rfl) (by kernel_rfl) (fun _ _ _ h => h) (.inl ⟨by rfl, fun W1 h1 => by go_simp⟩) hW ?_
  try simp only [Act.put, List.setIfInBounds_toArray, List.set_cons_zero, List.set_cons_succ]
  refine wpAnyH_take (i := 1) (oi := ⟨some 4, _, _, _, _, _⟩) (v := .bool false) rfl (by kernel_rfl) (by kernel_rfl) (by kernel_rfl) (fun _ _ _ h => h) (.inl ⟨by rfl, fun W1 h1 => by go_simp⟩) hW ?_
  try simp only [Act.put, List.setIfInBounds_toArray, List.set_cons_zero, List.set_cons_succ]
  refine wpAnyH_take (i := 2) (oi := ⟨some 5, _, _, _, _, _⟩) (v := .bool false) rfl (by kernel_rfl) (by kernel_rfl) (by kernel_rfl) (fun _ _ _ h => h) (.inl ⟨by rfl, fun W1 h1 => by go_simp⟩) hW ?_
  try simp only [Act.put, List.setIfInBounds_toArray, List.set_cons_zero, List.set_cons_succ]
  refine wpAnyH_take (i := 3) (oi := ⟨some 6, _, _, _, _, _⟩) (v := .pointer (some ⟨p, 0, none⟩)) rfl (by kernel_rfl) (by kernel_rfl) (by kernel_rfl) (fun _ _ _ h => h) (.inl ⟨by rfl, fun W1 h1 => by go_simp⟩) hW ?_
  try simp only [Act.put, List.setIfInBounds_toArray, List.set_cons_zero, List.set_cons_succ]
  refine wpAnyH_take (i := 4) (oi := ⟨some 7, _, _, _, _, _⟩) (v := .pointer (some ⟨p, 0, none⟩)) rfl (by kernel_rfl) (by kernel_rfl) (by kernel_rfl) (fun _ _ _ h => h) (.inl ⟨by rfl, fun W1 h1 => by go_simp⟩) hW ?_
  try simp only [Act.put, List.setIfInBounds_toArray, List.set_cons_zero, List.set_cons_succ]
  refine wpAnyH_take (i := 5) (oi := ⟨some 8, _, _, _, _, _⟩) (v := .pointer (some ⟨p, 0, none⟩)) rfl (by kernel_rfl) (by kernel_rfl) (by kernel_rfl) (fun _ _ _ h => h) (.inl ⟨by rfl, fun W1 h1 => by go_simp⟩) hW ?_
  try simp only [Act.put, List.setIfInBounds_toArray, List.set_cons_zero, List.set_cons_succ]
  refine wpAnyH_take (i := 6) (oi := ⟨some 9, _, _, _, _, _⟩) (v := .pointer (some ⟨d, 0, none⟩)) rfl (by kernel_rfl) (by kernel_rfl) (by kernel_rfl) (fun _ _ _ h => h) (.inl ⟨by rfl, fun W1 h1 => by have h2 := (Below.cell (p := ⟨p, 0, none⟩) h1 hp).trans C0.out; clear h1; go_simp⟩) hW ?_
  try simp only [Act.put, List.setIfInBounds_toArray, List.set_cons_zero, List.set_cons_succ]
  refine wpAnyH_ready (rs := [7]) (by kernel_rfl) (by simp) (AllReadyH.cons rfl (fun K1 hK1 => ?_) AllReadyH.nil)
  go_simp
  refine (len23 d N m _ (H.out.disk.below hW)).mono ?_
  rintro e WT ⟨rfl, hb⟩
  refine hK1.out _ _ (hW.trans (hb.mono hW.size)) (fun hW => ?_)
  try simp only [Act.put, List.setIfInBounds_toArray, List.set_cons_zero, List.set_cons_succ]
  clear hb
  refine wpAnyH_take (i := 8) (oi := ⟨some 11, _, _, _, _, _⟩) (v := .bool false) rfl (by kernel_rfl) (by kernel_rfl) (by kernel_rfl) (fun _ _ _ h => h) (.inl ⟨by rfl, fun W1 h1 => by go_simp⟩) hW ?_
  try simp only [Act.put, List.setIfInBounds_toArray, List.set_cons_zero, List.set_cons_succ]
  refine wpAnyH_take (i := 9) (oi := ⟨some 12, _, _, _, _, _⟩) (v := .bool false) rfl (by kernel_rfl) (by kernel_rfl) (by kernel_rfl) (fun _ _ _ h => h) (.inl ⟨by rfl, fun W1 h1 => by go_simp⟩) hW ?_
  try simp only [Act.put, List.setIfInBounds_toArray, List.set_cons_zero, List.set_cons_succ]
  refine wpAnyH_take (i := 10) (oi := ⟨some 13, _, _, _, _, _⟩) (v := .bool false) rfl (by kernel_rfl) (by kernel_rfl) (by kernel_rfl) (fun _ _ _ h => h) (.inl ⟨by rfl, fun W1 h1 => by go_simp⟩) hW ?_
  try simp only [Act.put, List.setIfInBounds_toArray, List.set_cons_zero, List.set_cons_succ]
  refine wpAnyH_take (i := 11) (oi := ⟨some 14, _, _, _, _, _⟩) (v := .pointer (some ⟨p, 0, none⟩)) rfl (by kernel_rfl) (by kernel_rfl) (by kernel_rfl) (fun _ _ _ h => h) (.inl ⟨by rfl, fun W1 h1 => by go_simp⟩) hW ?_
  try simp only [Act.put, List.setIfInBounds_toArray, List.set_cons_zero, List.set_cons_succ]
  refine wpAnyH_take (i := 12) (oi := ⟨some 15, _, _, _, _, _⟩) (v := .pointer (some ⟨p, 0, none⟩)) rfl (by kernel_rfl) (by kernel_rfl) (by kernel_rfl) (fun _ _ _ h => h) (.inl ⟨by rfl, fun W1 h1 => by go_simp⟩) hW ?_
  try simp only [Act.put, List.setIfInBounds_toArray, List.set_cons_zero, List.set_cons_succ]
  refine wpAnyH_take (i := 13) (oi := ⟨some 16, _, _, _, _, _⟩) (v := .pointer (some ⟨p, 1, none⟩)) rfl (by kernel_rfl) (by kernel_rfl) (by kernel_rfl) (fun _ _ _ h => h) (.inl ⟨by rfl, fun W1 h1 => by go_simp⟩) hW ?_
  try simp only [Act.put, List.setIfInBounds_toArray, List.set_cons_zero, List.set_cons_succ]
  refine wpAnyH_take (i := 14) (oi := ⟨some 17, _, _, _, _, _⟩) (v := .pointer (some ⟨a, 0, none⟩)) rfl (by kernel_rfl) (by kernel_rfl) (by kernel_rfl) (fun _ _ _ h => h) (.inl ⟨by rfl, fun W1 h1 => by have h2 := (Below.cell (p := ⟨p, 1, none⟩) h1 hp).trans C1.out; clear h1; go_simp⟩) hW ?_
  try simp only [Act.put, List.setIfInBounds_toArray, List.set_cons_zero, List.set_cons_succ]
  refine wpAnyH_take (i := 16) (oi := ⟨some 19, _, _, _, _, _⟩) (v := .pointer (some ⟨p, 0, none⟩)) rfl (by kernel_rfl) (by kernel_rfl) (by kernel_rfl) (fun _ _ _ h => h) (.inl ⟨by rfl, fun W1 h1 => by go_simp⟩) hW ?_
  try simp only [Act.put, List.setIfInBounds_toArray, List.set_cons_zero, List.set_cons_succ]
  refine wpAnyH_take (i := 17) (oi := ⟨some 20, _, _, _, _, _⟩) (v := .pointer (some ⟨p, 0, none⟩)) rfl (by kernel_rfl) (by kernel_rfl) (by kernel_rfl) (fun _ _ _ h => h) (.inl ⟨by rfl, fun W1 h1 => by go_simp⟩) hW ?_
  try simp only [Act.put, List.setIfInBounds_toArray, List.set_cons_zero, List.set_cons_succ]
  refine wpAnyH_take (i := 18) (oi := ⟨some 21, _, _, _, _, _⟩) (v := .pointer (some ⟨p, 1, none⟩)) rfl (by kernel_rfl) (by kernel_rfl) (by kernel_rfl) (fun _ _ _ h => h) (.inl ⟨by rfl, fun W1 h1 => by go_simp⟩) hW ?_
  try simp only [Act.put, List.setIfInBounds_toArray, List.set_cons_zero, List.set_cons_succ]
  refine wpAnyH_take (i := 19) (oi := ⟨some 22, _, _, _, _, _⟩) (v := .pointer (some ⟨a, 0, none⟩)) rfl (by kernel_rfl) (by kernel_rfl) (by kernel_rfl) (fun _ _ _ h => h) (.inl ⟨by rfl, fun W1 h1 => by have h2 := (Below.cell (p := ⟨p, 1, none⟩) h1 hp).trans C1.out; clear h1; go_simp⟩) hW ?_
  try simp only [Act.put, List.setIfInBounds_toArray, List.set_cons_zero, List.set_cons_succ]
  refine wpAnyH_take (i := 22) (oi := ⟨some 25, _, _, _, _, _⟩) (v := .pointer (some ⟨p, 0, none⟩)) rfl (by kernel_rfl) (by kernel_rfl) (by kernel_rfl) (fun _ _ _ h => h) (.inl ⟨by rfl, fun W1 h1 => by go_simp⟩) hW ?_
  try simp only [Act.put, List.setIfInBounds_toArray, List.set_cons_zero, List.set_cons_succ]
  refine wpAnyH_take (i := 23) (oi := ⟨some 26, _, _, _, _, _⟩) (v := .pointer (some ⟨p, 0, none⟩)) rfl (by kernel_rfl) (by kernel_rfl) (by kernel_rfl) (fun _ _ _ h => h) (.inl ⟨by rfl, fun W1 h1 => by go_simp⟩) hW ?_
  try simp only [Act.put, List.setIfInBounds_toArray, List.set_cons_zero, List.set_cons_succ]
  refine wpAnyH_take (i := 24) (oi := ⟨some 27, _, _, _, _, _⟩) (v := .pointer (some ⟨p, 1, none⟩)) rfl (by kernel_rfl) (by kernel_rfl) (by kernel_rfl) (fun _ _ _ h => h) (.inl ⟨by rfl, fun W1 h1 => by go_simp⟩) hW ?_
  try simp only [Act.put, List.setIfInBounds_toArray, List.set_cons_zero, List.set_cons_succ]
  refine wpAnyH_take (i := 25) (oi := ⟨some 28, _, _, _, _, _⟩) (v := .pointer (some ⟨a, 0, none⟩)) rfl (by kernel_rfl) (by kernel_rfl) (by kernel_rfl) (fun _ _ _ h => h) (.inl ⟨by rfl, fun W1 h1 => by have h2 := (Below.cell (p := ⟨p, 1, none⟩) h1 hp).trans C1.out; clear h1; go_simp⟩) hW ?_
  try simp only [Act.put, List.setIfInBounds_toArray, List.set_cons_zero, List.set_cons_succ]
  refine wpAnyH_ready (rs := [15]) (by kernel_rfl) (by simp) (AllReadyH.cons rfl (fun K2 hK2 => ?_) AllReadyH.nil)
  go_simp
  refine (free18 a mw fr tu rs l _ (H.out.alc.below hW)).mono ?_
  rintro e WT ⟨he, hb⟩
  rw [← HT.out] at he
  subst he
  refine hK2.out _ _ (hW.trans (hb.mono hW.size)) (fun hW => ?_)
  try simp only [Act.put, List.setIfInBounds_toArray, List.set_cons_zero, List.set_cons_succ]
  clear hb
  refine wpAnyH_ready (rs := [20]) (by kernel_rfl) (by simp) (AllReadyH.cons rfl (fun K3 hK3 => ?_) AllReadyH.nil)
  go_simp
  refine (used6 a mw fr tu rs l _ (H.out.alc.below hW)).mono ?_
  rintro e WT ⟨he, hb⟩
  rw [← HT.out] at he
  subst he
  refine hK3.out _ _ (hW.trans (hb.mono hW.size)) (fun hW => ?_)
  try simp only [Act.put, List.setIfInBounds_toArray, List.set_cons_zero, List.set_cons_succ]
  clear hb
  refine wpAnyH_take (i := 21) (oi := ⟨some 24, _, _, _, _, _⟩) (v := .int .i64 (tu - fr)) rfl (by kernel_rfl) (by kernel_rfl) (by kernel_rfl) (fun _ _ _ h => h) (.inl ⟨by rfl, fun W1 h1 => by go_simp⟩) hW ?_
  try simp only [Act.put, List.setIfInBounds_toArray, List.set_cons_zero, List.set_cons_succ]
  refine wpAnyH_ready (rs := [26]) (by kernel_rfl) (by simp) (AllReadyH.cons rfl (fun K4 hK4 => ?_) AllReadyH.nil)
  go_simp
  refine (waiting19 a mw fr tu rs l _ (H.out.alc.below hW)).mono ?_
  rintro e WT ⟨rfl, hb⟩
  refine hK4.out _ _ (hW.trans (hb.mono hW.size)) (fun hW => ?_)
  try simp only [Act.put, List.setIfInBounds_toArray, List.set_cons_zero, List.set_cons_succ]
  clear hb
  refine wpAnyH_take (i := 27) (oi := ⟨some 30, _, _, _, _, _⟩) (v := .int .i64 (tu - fr)) rfl (by kernel_rfl) (by kernel_rfl) (by kernel_rfl) (fun _ _ _ h => h) (.inl ⟨by rfl, fun W1 h1 => by go_simp⟩) hW ?_
  try simp only [Act.put, List.setIfInBounds_toArray, List.set_cons_zero, List.set_cons_succ]
  refine wpAnyH_take (i := 28) (oi := ⟨some 31, _, _, _, _, _⟩) (v := .bool false) rfl (by kernel_rfl) (by kernel_rfl) (by kernel_rfl) (fun _ _ _ h => h) (.inl ⟨by rfl, fun W1 h1 => by go_simp⟩) hW ?_
  try simp only [Act.put, List.setIfInBounds_toArray, List.set_cons_zero, List.set_cons_succ]
  refine wpAnyH_take (i := 29) (oi := ⟨some 32, _, _, _, _, _⟩) (v := .bool false) rfl (by kernel_rfl) (by kernel_rfl) (by kernel_rfl) (fun _ _ _ h => h) (.inl ⟨by rfl, fun W1 h1 => by go_simp⟩) hW ?_
  try simp only [Act.put, List.setIfInBounds_toArray, List.set_cons_zero, List.set_cons_succ]
  refine wpAnyH_done (by kernel_rfl) ?_ _
  clear hK1 hK2 hK3 hK4 K1 K2 K3 K4
  have HB := Aside0.mk hW
  clear hW
  go_wp2
  rw [HP.out]
  exact ⟨rfl, HB.out⟩
end Go.Proofs.YtchhdafgmifhdaaGreat.PoolA
namespace Go.Proofs.YtchhdafgmifhdaaGreat.BlkB
open Go.RowKit Go.Proofs.YtchhdafgmifhdaaGreat.B8 Go.Proofs.YtchhdafgmifhdaaGreat.Agg Go.Proofs.YtchhdafgmifhdaaGreat.CodL Go.Proofs.YtchhdafgmifhdaaGreat.CodA Go.Proofs.YtchhdafgmifhdaaGreat.CodB Go.Proofs.YtchhdafgmifhdaaGreat.CrcL Go.Proofs.YtchhdafgmifhdaaGreat.CrcA Go.Proofs.YtchhdafgmifhdaaGreat.CrcB Go.Proofs.YtchhdafgmifhdaaGreat.PVerifyForms Go.Proofs.YtchhdafgmifhdaaGreatW.PrintWords Go.Proofs.YtchhdafgmifhdaaGreatW.PrintLast Go.Proofs.YtchhdafgmifhdaaGreatW.PrintMore Go.Proofs.YtchhdafgmifhdaaGreat.CatL Go.Proofs.YtchhdafgmifhdaaGreat.PtrA Go.Proofs.YtchhdafgmifhdaaGreat.PtrB Go.Proofs.YtchhdafgmifhdaaGreat.PtrE Go.Proofs.YtchhdafgmifhdaaGreat.OfA Go.Proofs.YtchhdafgmifhdaaGreat.ExtA Go.Proofs.YtchhdafgmifhdaaGreat.DskA Go.Proofs.YtchhdafgmifhdaaGreat.DskB Go.Proofs.YtchhdafgmifhdaaGreat.DskC Go.Proofs.YtchhdafgmifhdaaGreat.BlkA Go.Proofs.YtchhdafgmifhdaaGreat.ShaK
set_option linter.unusedVariables false
set_option linter.unusedSimpArgs false
attribute [local go_sem] max2_int min2_int max_two min_two
theorem cut8_mid3 (A : Option Addr) (n c : Nat) (lo hi : Nat) (h1 : lo < hi) (h2 : hi ≤ c) (W : World) : (Instr.slice 36 (.slice A n c) (some (.int .i64 (lo : Int))) (some (.int .i64 (hi : Int))) (some (.int .i64 (hi : Int)))).run Tryz.prog W = .ok (.slice (A.map (·.add lo)) (hi - lo) (hi - lo)) W := by
  obtain ⟨i0, hi', _, hs, _⟩ := info_parts B8.info5
  have hel : Tryz.prog.elem 36 = 5 := by simp [Program.elem, Tryz.underlying36]
  have hu : Tryz.prog.underlying 36 = some (.slice (Tryz.prog.elem 36)) := by rw [hel]; exact Tryz.underlying36
  rw [run_slice_lhm W 36 A n c hu .i64 .i64 .i64 (lo : Int) (hi : Int) (hi : Int) (by omega) (by omega) (by omega) (by omega), hel]
  have hne : ¬ hi = lo := by omega
  simp [sizeOf, typeInfo, hi', hs, sliced, Result.andThen, hne]
theorem C8_mid {w : World} {A : Option Addr} {n c lo hi : Nat} {L : List Int} (h : C8 w A n L) (hnc : n ≤ c) (h1 : lo < hi) (h2 : hi ≤ n) : C8 w (A.map (·.add lo)) (hi - lo) ((L.drop lo).take (hi - lo)) := by
  have := C8_drop (j := lo) h hnc (by omega)
  rw [if_neg (by omega)] at this
  exact C_take this (by omega)
theorem built33b (a b c : Int) : Tryz.prog.built 32 [(0, .int .i64 a), (1, .int .i64 b), (2, .int .i64 c)] = some (encP ⟨a, b, c, 0, List.replicate 32 0⟩) := by kernel_rfl
theorem inf33b : ((Tryz.prog.info? 32).bind (·.zero)).bind (fun z => match z with | .agg cs => some (cs.size, cs.all (·.oneCell')) | _ => none) = some (36, true) := by kernel_rfl
theorem zero33 : ∃ z : Array Value, z.size = 36 ∧ z.all (·.oneCell') = true ∧ ∀ W, (zeroValue 32).run Tryz.prog W = .ok (.agg z) W := by
  have h := inf33b
  obtain ⟨z, hz, h2⟩ := Option.bind_eq_some_iff.1 h
  obtain ⟨i, hi, hz0⟩ := Option.bind_eq_some_iff.1 hz
  cases z with
  | agg cs =>
    simp only [Option.some.injEq, Prod.mk.injEq] at h2
    exact ⟨cs, h2.1, h2.2, fun W => by simp [zeroValue, typeInfo, hi, hz0, Result.andThen]⟩
  | _ => simp at h2
theorem kb_c8 {w W wr : World} {A : Option Addr} {n m : Nat} {L : List Int} (hr : ∀ W', Kept w W' (fun k => k = m) → C8 W' A n L) (hb : Below w.heap.size w W) (hk : KB W wr (fun k => k = m)) : C8 wr A n L :=
  hr wr ((Kept.of_below hb _).then_ hk.kept (fun k h => .inl h))
end Go.Proofs.YtchhdafgmifhdaaGreat.BlkB
namespace Go.Proofs.YtchhdafgmifhdaaGreat.PoolB
open Go.RowKit Go.Proofs.YtchhdafgmifhdaaGreat.B8 Go.Proofs.YtchhdafgmifhdaaGreat.Agg Go.Proofs.YtchhdafgmifhdaaGreat.CodL Go.Proofs.YtchhdafgmifhdaaGreat.CodA Go.Proofs.YtchhdafgmifhdaaGreat.CodB Go.Proofs.YtchhdafgmifhdaaGreat.CrcL Go.Proofs.YtchhdafgmifhdaaGreat.CrcA Go.Proofs.YtchhdafgmifhdaaGreat.CrcB Go.Proofs.YtchhdafgmifhdaaGreat.PVerifyForms Go.Proofs.YtchhdafgmifhdaaGreatW.PrintWords Go.Proofs.YtchhdafgmifhdaaGreatW.PrintLast Go.Proofs.YtchhdafgmifhdaaGreatW.PrintMore Go.Proofs.YtchhdafgmifhdaaGreat.CatL Go.Proofs.YtchhdafgmifhdaaGreat.PtrA Go.Proofs.YtchhdafgmifhdaaGreat.PtrB Go.Proofs.YtchhdafgmifhdaaGreat.PtrE Go.Proofs.YtchhdafgmifhdaaGreat.OfA Go.Proofs.YtchhdafgmifhdaaGreat.ExtL Go.Proofs.YtchhdafgmifhdaaGreat.ExtA Go.Proofs.YtchhdafgmifhdaaGreat.DskA Go.Proofs.YtchhdafgmifhdaaGreat.DskB Go.Proofs.YtchhdafgmifhdaaGreat.DskC Go.Proofs.YtchhdafgmifhdaaGreat.AlcA Go.Proofs.YtchhdafgmifhdaaGreat.AlcB Go.Proofs.YtchhdafgmifhdaaGreat.AlcC Go.Proofs.YtchhdafgmifhdaaGreat.AlcD Go.Proofs.YtchhdafgmifhdaaGreat.AlcE Go.Proofs.YtchhdafgmifhdaaGreat.AlcF Go.Proofs.YtchhdafgmifhdaaGreat.SpnA Go.Proofs.YtchhdafgmifhdaaGreat.BlkA Go.Proofs.YtchhdafgmifhdaaGreat.BlkB Go.Proofs.YtchhdafgmifhdaaGreat.PoolA Go.Proofs.YtchhdafgmifhdaaGreat.ShaK Go.Proofs.YtchhdafgmifhdaaGreat.ExtF Go.Proofs.YtchhdafgmifhdaaGreat.ExtG Go.Proofs.YtchhdafgmifhdaaGreat.ExtE Go.Proofs.YtchhdafgmifhdaaGreat.ExtD
set_option linter.unusedVariables false
set_option linter.unusedSimpArgs false
theorem built33c (n : Int) : Tryz.prog.built 32 [(2, .int .i64 n)] = some (encP ⟨0, 0, n, 0, List.replicate 32 0⟩) := by kernel_rfl
theorem add_block (ad : Addr) (k : Nat) : (ad.add k).block = ad.block := by unfold Addr.add; split <;> rfl
theorem Kcells {α : Type} {d : Kd α} {W W2 : World} {A : Option Addr} {n : Nat} {l : List α} (h : Kd.C d W A n l) (hk : ∀ x cs, d.K W x cs → d.K W2 x cs) (hc : ∀ ad q v, A = some ad → q.block = ad.block → W.cell? q = some v → W2.cell? q = some v) : Kd.C d W2 A n l :=
  ⟨h.1, h.2.1, fun hn => by
    obtain ⟨ad, e, h3⟩ := h.2.2 hn
    refine ⟨ad, e, fun j p hj => ?_⟩
    obtain ⟨c, hs, hr, hcell⟩ := h3 j p hj
    exact ⟨c, hs, hk _ _ hr, fun i u hu => hc ad _ _ e (add_block _ _) (hcell i u hu)⟩⟩
theorem AB_kept {W W2 : World} {a mw : Nat} {fr tu rs : Int} {l : List Sp} {S : Nat → Prop} (h : AB W a mw fr tu rs l) (hk : Kept W W2 S) (ha : ¬ S a) (hmw : ¬ S mw) (hS : ∀ k cs, S k → W.heap[k]? ≠ some (.cells cs 136 (0, 0))) : AB W2 a mw fr tu rs l := by
  obtain ⟨⟨A, n, c, was, h1, h2, h3, h4⟩, h5, ⟨cl, h6⟩, h7, h8⟩ := h
  have hA : ∀ ad, A = some ad → ¬ S ad.block := fun ad e hs => by
    obtain ⟨cs, h9⟩ := h8 ad n c was (by rw [← e]; exact h1)
    exact hS _ _ hs h9
  refine ⟨⟨A, n, c, was, blk_kept h1 hk ha, Kcells h2 (fun _ _ h => h) (fun ad q v e hq hc => cell_kept hc hk (by rw [hq]; exact hA ad e)), h3, h4⟩, h5, ⟨cl, blk_kept h6 hk hmw⟩, h7, fun ad n' c' was' hh => ?_⟩
  have hh2 : W.heap[a]? = some (.cells #[.int .i64 fr, .int .i64 tu, .bool true, .int .i64 rs, .slice (some ad) n' c', .map (some mw), was'] 143 (0, 0)) := (hk.2 a (blk_lt h1) ha).symm.trans hh
  obtain ⟨cs, h9⟩ := h8 ad n' c' was' hh2
  refine ⟨cs, blk_kept h9 hk ?_⟩
  intro hs
  exact hS _ _ hs h9
theorem DB_kept {W W2 : World} {d N m : Nat} {S : Nat → Prop} (h : DB W d N m) (hk : Kept W W2 S) (hS : ∀ A c, W.heap[d]? = some (.cells #[.slice (some A) N c, .map (some m), .bool false, .int .i64 0, .bool false] 130 (0, 0)) → ¬ S d) : DB W2 d N m := by
  obtain ⟨A, c, h⟩ := h
  exact ⟨A, c, blk_kept h hk (hS A c h)⟩
theorem MI_kept {W W2 : World} {m : Nat} {S : Nat → Prop} (h : MI W m) (hk : Kept W W2 S) (hS : ¬ S m) : MI W2 m := by
  obtain ⟨es, c, h, hx⟩ := h
  exact ⟨es, c, blk_kept h hk hS, hx⟩
/-- Behind what changes the allocator alone. -/
theorem PO_alloc {W W2 : World} {p d m a mw N : Nat} {fr tu rs : Int} {l l2 : List Sp} {ep : Int} {kv : Value} (h : PO W p d m a mw N fr tu rs l ep kv) (hk : Kept W W2 (fun k => k = a)) (h2 : AB W2 a mw fr tu rs l2) : PO W2 p d m a mw N fr tu rs l2 ep kv := by
  obtain ⟨A, n, c, was, ha, _⟩ := h.alc.blk
  obtain ⟨es, cl, hm, _⟩ := h.map
  exact ⟨blk_kept h.blk hk (by rintro rfl; rw [h.blk] at ha; simp at ha), DB_kept h.disk hk (fun A c hd e => by subst e; rw [hd] at ha; simp at ha), MI_kept h.map hk (by rintro rfl; rw [ha] at hm; cases hm), h2, h.ne⟩
/-- Behind what changes the disk's map alone. -/
theorem PO_disk {W W2 : World} {p d m a mw N : Nat} {fr tu rs : Int} {l : List Sp} {ep : Int} {kv : Value} (h : PO W p d m a mw N fr tu rs l ep kv) (hk : Kept W W2 (fun k => k = m)) (h2 : MI W2 m) : PO W2 p d m a mw N fr tu rs l ep kv := by
  obtain ⟨es, cl, hm, _⟩ := h.map
  exact ⟨blk_kept h.blk hk (by rintro rfl; rw [h.blk] at hm; cases hm), DB_kept h.disk hk (fun A c hd e => by subst e; rw [hd] at hm; cases hm), h2, AB_kept h.alc hk (by rintro rfl; obtain ⟨A, n, c, was, ha, _⟩ := h.alc.blk; rw [ha] at hm; cases hm) (fun e => h.ne e.symm) (fun k cs e => by subst e; rw [hm]; intro e2; cases e2), h.ne⟩
/-- Behind a store into a block of a pointer's. -/
theorem PO_row {W : World} {p d m a mw N : Nat} {fr tu rs : Int} {l : List Sp} {ep : Int} {kv : Value} (h : PO W p d m a mw N fr tu rs l ep kv) {g : Nat} {c0 : Array Value} (hg : W.heap[g]? = some (.cells c0 32 (0, 0))) (cs : Array Value) : PO (W.setRow g cs) p d m a mw N fr tu rs l ep kv := by
  have hk : Kept W (W.setRow g cs) (fun k => k = g) := ⟨by simp, fun i hi hn => setRow_other _ _ _ _ hn⟩
  obtain ⟨es, cl, hm, _⟩ := h.map
  refine ⟨blk_kept h.blk hk (by rintro rfl; rw [h.blk] at hg; simp at hg), DB_kept h.disk hk (fun A c hd e => by subst e; rw [hd] at hg; simp at hg), MI_kept h.map hk (by rintro rfl; rw [hm] at hg; cases hg), ?_, h.ne⟩
  refine AB_kept h.alc hk (by rintro rfl; obtain ⟨A, n, c, was, ha, _⟩ := h.alc.blk; rw [ha] at hg; simp at hg) (by rintro rfl; obtain ⟨cl, hw⟩ := h.alc.wait; rw [hw] at hg; cases hg) (fun k cs e => ?_)
  subst e
  rw [hg]
  simp
theorem PO_pm {W : World} {p d m a mw N : Nat} {fr tu rs : Int} {l : List Sp} {ep : Int} {kv : Value} (h : PO W p d m a mw N fr tu rs l ep kv) : ¬ p = m := by
  obtain ⟨es, cl, h2, _⟩ := h.map
  rintro rfl; rw [h.blk] at h2; cases h2
theorem KB_setRow {w W : World} {S : Nat → Prop} (h : KB w W S) {g : Nat} (hg : w.heap.size ≤ g) (cs : Array Value) : KB w (W.setRow g cs) S :=
  ⟨h.os, h.tape, h.output, ⟨by have := h.kept.1; simpa using this, fun i hi hn => (setRow_other _ _ _ _ (by omega)).trans (h.kept.2 i hi hn)⟩⟩
theorem MI_setRow {W : World} {m g : Nat} (h : MI W m) (hg : m ≠ g) (cs : Array Value) : MI (W.setRow g cs) m := by
  obtain ⟨es, cl, h2, h3⟩ := h
  exact ⟨es, cl, (setRow_other _ _ _ _ hg).trans h2, h3⟩
theorem PO_pa {W : World} {p d m a mw N : Nat} {fr tu rs : Int} {l : List Sp} {ep : Int} {kv : Value} (h : PO W p d m a mw N fr tu rs l ep kv) : ¬ p = a := by
  obtain ⟨A, n, c, was, ha, _⟩ := h.alc.blk
  rintro rfl; rw [h.blk] at ha; simp at ha
end Go.Proofs.YtchhdafgmifhdaaGreat.PoolB
namespace Go.Proofs.YtchhdafgmifhdaaGreat.DskK
open Go.RowKit Go.Proofs.YtchhdafgmifhdaaGreat.B8 Go.Proofs.YtchhdafgmifhdaaGreat.Agg Go.Proofs.YtchhdafgmifhdaaGreat.CodL Go.Proofs.YtchhdafgmifhdaaGreat.CodA Go.Proofs.YtchhdafgmifhdaaGreat.CodB Go.Proofs.YtchhdafgmifhdaaGreat.CrcL Go.Proofs.YtchhdafgmifhdaaGreat.CrcA Go.Proofs.YtchhdafgmifhdaaGreat.CrcB Go.Proofs.YtchhdafgmifhdaaGreat.PVerifyForms Go.Proofs.YtchhdafgmifhdaaGreatW.PrintWords Go.Proofs.YtchhdafgmifhdaaGreatW.PrintLast Go.Proofs.YtchhdafgmifhdaaGreatW.PrintMore Go.Proofs.YtchhdafgmifhdaaGreat.ShaA Go.Proofs.YtchhdafgmifhdaaGreat.ShaB Go.Proofs.YtchhdafgmifhdaaGreat.ShaC Go.Proofs.YtchhdafgmifhdaaGreat.ShaD Go.Proofs.YtchhdafgmifhdaaGreat.DskA Go.Proofs.YtchhdafgmifhdaaGreat.DskB Go.Proofs.YtchhdafgmifhdaaGreat.DskC
set_option linter.unusedVariables false
set_option linter.unusedSimpArgs false
/-- A sector of zeros. -/
def Z512 : List Int := List.replicate 512 0
theorem Z512_len : Z512.length = 512 := by unfold Z512; exact List.length_replicate
theorem Z512_mem {x : Int} (h : x ∈ Z512) : x = 0 := by unfold Z512 at h; exact List.eq_of_mem_replicate h
theorem Z512_byt : Byt Z512 := fun x hx => by have := Z512_mem hx; omega
theorem arr_len (L : List Int) : (arr .u8 L).size = L.length := by simp [arr]
/-- Bytes, and zeros behind them. -/
def pad (M : List Int) : List Int := M ++ List.replicate (512 - M.length) 0
theorem pad_len {M : List Int} (h : M.length ≤ 512) : (pad M).length = 512 := by simp [pad]; omega
theorem pad_byt {M : List Int} (h : Byt M) : Byt (pad M) := h.append (fun x hx => by have := List.eq_of_mem_replicate hx; omega)
/-- What a map of sectors holds. -/
structure MV (es : List MapEntry) (g : Int → Option (List Int)) : Prop where
  key : ∀ x ∈ es, MapKept.IsKey (.int .i64) x.key
  nod : es.Pairwise (fun x y => x.key ≠ y.key)
  has : ∀ x ∈ es, ∀ i, x.key = .int .i64 i → ∃ L, g i = some L ∧ x.val = .agg (arr .u8 L)
  non : ∀ i, (∀ x ∈ es, x.key ≠ .int .i64 i) → g i = none
/-- The sectors of a disk: rd i is what the i-th one holds. -/
structure SV (W : World) (d m N lb : Nat) (rd : Int → List Int) : Prop where
  blk : ∃ c, W.heap[d]? = some (.cells #[.slice (some ⟨lb, 0, none⟩) N c, .map (some m), .bool false, .int .i64 0, .bool false] 130 (0, 0)) ∧ N ≤ c
  map : ∃ (es : Array MapEntry) (cl : Nat) (g : Int → Option (List Int)) (la : Int → List Int), W.heap[m]? = some (.map es cl) ∧ MV es.toList g ∧ (∀ i : Nat, i < N → W.rangeAt lb (i * 512) ((la (i : Int)).map (Value.int .u8))) ∧ (∀ i : Nat, i < N → rd (i : Int) = (g (i : Int)).getD (la (i : Int))) ∧ (∀ i : Nat, i < N → (la (i : Int)).length = 512)
  len : ∀ i : Nat, i < N → (rd (i : Int)).length = 512 ∧ Byt (rd (i : Int))
theorem SV.db {W : World} {d m N lb : Nat} {rd : Int → List Int} (h : SV W d m N lb rd) : DB W d N m := by
  obtain ⟨c, h1, _⟩ := h.blk
  exact ⟨_, c, h1⟩
theorem SV.mi {W : World} {d m N lb : Nat} {rd : Int → List Int} (h : SV W d m N lb rd) : MI W m := by
  obtain ⟨es, cl, g, la, h1, h2, _⟩ := h.map
  exact ⟨es, cl, h1, h2.key⟩
theorem SV.kept {W W2 : World} {d m N lb : Nat} {rd : Int → List Int} {S : Nat → Prop} (h : SV W d m N lb rd) (hk : Kept W W2 S) (hd : ¬ S d) (hm : ¬ S m) (hl : ¬ S lb) : SV W2 d m N lb rd := by
  obtain ⟨c, h1, h2⟩ := h.blk
  obtain ⟨es, cl, g, la, h3, h4, h5, h6, h7⟩ := h.map
  exact ⟨⟨c, blk_kept h1 hk hd, h2⟩, ⟨es, cl, g, la, blk_kept h3 hk hm, h4, fun i hi j v hv => cell_kept (h5 i hi j v hv) hk hl, h6, h7⟩, h.len⟩
theorem SV.below {W W2 : World} {d m N lb : Nat} {rd : Int → List Int} (h : SV W d m N lb rd) (hb : Below W.heap.size W W2) : SV W2 d m N lb rd :=
  h.kept (Kept.of_below hb (fun _ => False)) (fun x => x) (fun x => x) (fun x => x)
theorem SV.dm {W : World} {d m N lb : Nat} {rd : Int → List Int} (h : SV W d m N lb rd) : d ≠ m := by
  obtain ⟨c, h1, _⟩ := h.blk
  obtain ⟨es, cl, g, la, h2, _⟩ := h.map
  rintro rfl
  rw [h1] at h2
  cases h2
theorem SV.lm {W : World} {d m N lb : Nat} {rd : Int → List Int} (h : SV W d m N lb rd) (h0 : 0 < N) : lb ≠ m := by
  obtain ⟨es, cl, g, la, h2, _, h3, _, h5⟩ := h.map
  rintro rfl
  have hl := h5 0 h0
  obtain ⟨x, hx⟩ : ∃ x, (la ((0 : Nat) : Int))[0]? = some x := ⟨_, List.getElem?_eq_getElem (by omega)⟩
  have := h3 0 h0 0 (.int .u8 x) (by rw [List.getElem?_map, hx]; rfl)
  simp only [World.cell?, h2] at this
  cases this
theorem under60b : Tryz.prog.underlying 128 = some (.map 3 125) := by kernel_rfl
theorem zero125 : (Tryz.prog.info? 125).bind (·.zero) = some (.agg (arr .u8 (Z512))) := by kernel_rfl
theorem zeroV125 (W : World) : (zeroValue 125).run Tryz.prog W = .ok (.agg (arr .u8 (Z512))) W := by
  obtain ⟨i, hi, hz0⟩ := Option.bind_eq_some_iff.1 zero125
  simp [zeroValue, typeInfo, hi, hz0, Result.andThen]
def upd (g : Int → Option (List Int)) (i : Int) (L : List Int) : Int → Option (List Int) := fun j => if j = i then some L else g j
theorem updateK {W : World} {m : Nat} {es : Array MapEntry} {cl : Nat} {g : Int → Option (List Int)} (hb : W.heap[m]? = some (.map es cl)) (h : MV es.toList g) (i : Int) (L : List Int) :
    ∃ W2 es2 cl2, (Instr.mapUpdate 128 (.map (some m)) (.int .i64 i) (.agg (arr .u8 L))).run Tryz.prog W = .ok () W2 ∧ W2.heap[m]? = some (.map es2 cl2) ∧ MV es2.toList (upd g i L) ∧ W2.os = W.os ∧ W2.tape = W.tape ∧ W2.output = W.output ∧ W2.heap.size = W.heap.size ∧ ∀ k, k ≠ m → W2.heap[k]? = W.heap[k]? := by
  have hk : MapKept.IsKey (.int .i64) (.int .i64 i) := rfl
  rcases MapKept.findNow_spec hk es.toList 0 h.key with ⟨h1, h2⟩ | ⟨j, e, h1, h2, h3⟩
  · refine ⟨{ W with heap := W.heap.setIfInBounds m (.map (es.push { key := .int .i64 i, val := .agg (arr .u8 L), born := cl }) (cl + 1)) }, _, _, ?_, (MapKept.heap_set hb).1, ⟨?_, ?_, ?_, ?_⟩, rfl, rfl, rfl, by simp, fun k hk => (MapKept.heap_set hb).2 k hk⟩
    · simp [Instr.mapUpdate, run_underlying under60b, MapKept.run_getObj_map hb, MapKept.run_checkKey under3 hk, MapKept.run_findKey under3 h1, MapKept.run_setObj_map _ hb, Result.andThen]
    · intro x hx
      simp only [Array.toList_push, List.mem_append, List.mem_singleton] at hx
      rcases hx with hx | rfl
      · exact h.key x hx
      · exact hk
    · rw [Array.toList_push, List.pairwise_append]
      exact ⟨h.nod, List.pairwise_singleton _ _, fun x hx y hy => by rw [List.mem_singleton] at hy; subst hy; exact h2 x hx⟩
    · intro x hx j hj
      simp only [Array.toList_push, List.mem_append, List.mem_singleton] at hx
      unfold upd
      rcases hx with hx | rfl
      · have hne : j ≠ i := by rintro rfl; exact h2 x hx hj
        rw [if_neg hne]
        exact h.has x hx j hj
      · have hij : j = i := by simpa using hj.symm
        rw [if_pos hij]
        exact ⟨L, rfl, rfl⟩
    · intro j hj
      unfold upd
      have hne : j ≠ i := by rintro rfl; exact hj { key := .int .i64 j, val := .agg (arr .u8 L), born := cl } (by simp) rfl
      rw [if_neg hne]
      exact h.non j (fun x hx => hj x (by simp only [Array.toList_push, List.mem_append]; exact .inl hx))
  · have hj : es[j]? = some e := by simpa using h2
    refine ⟨{ W with heap := W.heap.setIfInBounds m (.map (es.modify j fun e => { e with key := .int .i64 i, val := .agg (arr .u8 L) }) cl) }, _, _, ?_, (MapKept.heap_set hb).1, ⟨?_, ?_, ?_, ?_⟩, rfl, rfl, rfl, by simp, fun k hk => (MapKept.heap_set hb).2 k hk⟩
    · simp [Instr.mapUpdate, run_underlying under60b, MapKept.run_getObj_map hb, MapKept.run_checkKey under3 hk, MapKept.run_findKey under3 h1, hj, h3, MapKept.run_keyThatStays hk, MapKept.run_setObj_map _ hb, Result.andThen]
    · exact MapKept.isKey_modify h.key _ _ (fun e' he' => by rw [hj] at he'; cases he'; exact h3.symm)
    · have hm := MapKept.modify_keys (es := es) j (fun e => { e with key := .int .i64 i, val := .agg (arr .u8 L) }) (fun e' he' => by rw [hj] at he'; cases he'; exact h3.symm)
      have h4 : (es.toList.map (·.key)).Pairwise (· ≠ ·) := List.pairwise_map.2 h.nod
      rw [← hm] at h4
      exact List.pairwise_map.1 h4
    · intro x hx q hq
      obtain ⟨n, hn⟩ := List.getElem?_of_mem hx
      rw [Array.getElem?_toList, Array.getElem?_modify] at hn
      unfold upd
      by_cases hjn : j = n
      · subst hjn
        rw [if_pos rfl, hj] at hn
        have hx2 : x = { e with key := .int .i64 i, val := .agg (arr .u8 L) } := by simpa using hn.symm
        subst hx2
        have hij : q = i := by simpa using hq.symm
        rw [if_pos hij]
        exact ⟨L, rfl, rfl⟩
      · rw [if_neg hjn] at hn
        have hxm : x ∈ es.toList := List.mem_of_getElem? (by rw [Array.getElem?_toList]; exact hn)
        have hne : q ≠ i := by
          rintro rfl
          have hp := List.pairwise_iff_getElem.1 h.nod
          have hn1 : n < es.toList.length := by have := (Array.getElem?_eq_some_iff.1 hn).1; simpa using this
          have hj1 : j < es.toList.length := by have := (Array.getElem?_eq_some_iff.1 hj).1; simpa using this
          have en : es.toList[n] = x := by have := (Array.getElem?_eq_some_iff.1 hn).2; simpa using this
          have ej : es.toList[j] = e := by have := (Array.getElem?_eq_some_iff.1 hj).2; simpa using this
          rcases Nat.lt_or_gt_of_ne hjn with hlt | hlt
          · exact hp j n hj1 hn1 hlt (by rw [ej, en, h3, hq])
          · exact hp n j hn1 hj1 hlt (by rw [ej, en, h3, hq])
        rw [if_neg hne]
        exact h.has x hxm q hq
    · intro q hq
      unfold upd
      have hne : q ≠ i := by
        rintro rfl
        refine hq { e with key := .int .i64 q, val := .agg (arr .u8 L) } ?_ rfl
        refine List.mem_of_getElem? (i := j) ?_
        rw [Array.getElem?_toList, Array.getElem?_modify, if_pos rfl, hj]
        rfl
      rw [if_neg hne]
      refine h.non q (fun x hx hkx => ?_)
      obtain ⟨n, hn⟩ := List.getElem?_of_mem hx
      by_cases hjn : j = n
      · subst hjn
        rw [Array.getElem?_toList, hj] at hn
        have hxe : e = x := by simpa using hn
        rw [← hxe, h3] at hkx
        exact hne (by simpa using hkx.symm)
      · exact hq x (List.mem_of_getElem? (i := n) (by rw [Array.getElem?_toList, Array.getElem?_modify, if_neg hjn, ← Array.getElem?_toList]; exact hn)) hkx
theorem lookupK {W : World} {m : Nat} {es : Array MapEntry} {cl : Nat} {g : Int → Option (List Int)} (hb : W.heap[m]? = some (.map es cl)) (h : MV es.toList g) (i : Int) :
    (Instr.lookup 128 (.map (some m)) (.int .i64 i) true).run Tryz.prog W = .ok (.tuple #[.agg (arr .u8 ((g i).getD (Z512))), .bool (g i).isSome]) W := by
  have hk : MapKept.IsKey (.int .i64) (.int .i64 i) := rfl
  have hz := zeroV125 W
  rcases MapKept.findNow_spec hk es.toList 0 h.key with ⟨h1, h2⟩ | ⟨j, e, h1, h2, h3⟩
  · rw [h.non i h2]
    simp [Instr.lookup, run_underlying under60b, MapKept.run_getObj_map hb, MapKept.run_checkKey under3 hk, MapKept.run_findKey under3 h1, Result.andThen, hz]
  · obtain ⟨L, hg, hv⟩ := h.has e (List.mem_of_getElem? h2) i h3
    rw [hg]
    simp [Instr.lookup, run_underlying under60b, MapKept.run_getObj_map hb, MapKept.run_checkKey under3 hk, MapKept.run_findKey under3 h1, Result.andThen, hv]
set_option maxRecDepth 100000 in
set_option maxHeartbeats 4000000 in
theorem write29K (d N m lb : Nat) (rd : Int → List Int) (i : Nat) (A : Option Addr) (c n : Nat) (R : List Int) (w : World) (hs : SV w d m N lb rd) (hbR : Byt R) (hr : C8 w A n R) (hnc : n ≤ c) (hn : n ≤ 512) (h1 : i < N) :
    Calls Tryz.prog 22 #[.pointer (some ⟨d, 0, none⟩), .int .i64 (i : Int), .slice A n c] w (fun e w' => e = .returned (.int .i64 0) ∧ KB w w' (fun k => k = m) ∧ SV w' d m N lb (fun j => if j = (i : Int) then pad R else rd j)) := by
  have HS := Aside0.mk hs
  have HD := Aside0.mk hs.db
  have HBR := Aside0.mk hbR
  have HR := Aside0.mk (And.intro hr hr.1)
  obtain ⟨P, hP⟩ : ∃ P : Ending → World → Prop, P = fun e w' => e = .returned (.int .i64 0) ∧ KB w w' (fun k => k = m) ∧ SV w' d m N lb (fun j => if j = (i : Int) then pad R else rd j) := ⟨_, rfl⟩
  rw [← hP]
  have HP := Aside0.mk hP
  have hE : dskE N i = 0 := if_neg (by omega)
  clear hP hs hr hbR
  go_enter Tryz.func22, Tryz.ntmps22
  go_wp2_with fail
  refine (check42 d N m i w HD.out).mono ?_
  rintro e W2 ⟨rfl, hb⟩
  rw [hE]
  have HB := Aside0.mk hb
  have d0 : decide ((n : Int) > 512) = false := decide_eq_false (by omega)
  have d0' : decide (512 < (n : Int)) = false := decide_eq_false (by omega)
  clear hb hE
  go_wp2_with fail
  refine (spend43 d N m W2 (HD.out.below HB.out)).mono ?_
  rintro e W3 ⟨rfl, hb⟩
  have HB3 := Aside0.mk (HB.out.trans (hb.mono HB.out.size))
  obtain ⟨z, hzz⟩ : ∃ z, z = arr .u8 (Z512) := ⟨_, rfl⟩
  have HZ := Aside0.mk (show z.size = 512 ∧ z.all (·.oneCell') = true ∧ z = arr .u8 (Z512) by rw [hzz]; exact ⟨by rw [arr_len, Z512_len], arr_one _ _, rfl⟩)
  have hal : (zeroValue 125).run Tryz.prog W3 = .ok (.agg z) W3 := by rw [hzz]; exact zeroV125 W3
  clear hb HB hzz
  have HK := Aside0.mk (KB.of_below (HB3.out.trans (below_alloc (Below.refl _ _) (.cells z 125) |>.mono HB3.out.size)) (fun k => k = m))
  have hg8 : w.heap.size ≤ W3.heap.size := HB3.out.size
  have HG8 := Aside0.mk (show (W3.alloc (.cells z 125)).heap[W3.heap.size]? = some (.cells z.toList.toArray 125 (0, 0)) from blk_new W3 (.cells z 125))
  have HR4 := Aside0.mk (show C8 (W3.alloc (.cells z 125)) A n R from Kd.C_below HR.out.1 (HB3.out.trans (below_alloc (Below.refl _ _) (.cells z 125) |>.mono HB3.out.size)))
  have HB4 := Aside0.mk (show Below w.heap.size w (W3.alloc (.cells z 125)) from HB3.out.trans (below_alloc (Below.refl _ _) (.cells z 125) |>.mono HB3.out.size))
  have HCS := Aside0.mk (show 0 < (R.map (Value.int .u8)).length → (some (⟨W3.heap.size, 0, none⟩ : Addr)) = some ⟨W3.heap.size, 0, none⟩ ∧ ∃ ad, A = some ad ∧ ∀ j v, (R.map (Value.int .u8))[j]? = some v → (W3.alloc (.cells z 125)).cell? (ad.add j) = some v from fun h0 => by
    obtain ⟨ad, e, hc⟩ := C8_cells HR4.out (by rw [List.length_map] at h0; have := HR.out.2; omega)
    exact ⟨rfl, ad, e, hc⟩)
  go_wp2_with (refine wpList_copy_splice (o := ⟨some 28, _, _, _, _, _⟩) rfl (.tmp 26) (.tmp 27) 36 36 rfl 5 Tryz.underlying36 i5 (some ⟨W3.heap.size, 0, none⟩) A 512 512 n c rfl rfl W3.heap.size 0 z.toList 125 ?_ (R.map (Value.int .u8)) ?_ ?_ ?_ ?_ W3.heap.size (W3.alloc (.cells z 125)) ?_ ?_ ?_)
  case refine_2 => rw [List.length_map, HR.out.2]; exact (Nat.min_eq_left (by omega)).symm
  case refine_3 =>
    intro h0
    obtain ⟨ad, e, hc⟩ := C8_cells HR4.out (by have := HR.out.2; omega)
    exact ⟨ad, e, fun j a ha => hc j _ (by rw [List.getElem?_map, ha]; rfl)⟩
  case refine_4 => rw [List.length_map, show z.toList.length = 512 from HZ.out.1]; have := HR.out.2; omega
  case refine_1 => first | exact HG8.out | simpa using HG8.out
  case refine_5 => intro v hv; obtain ⟨x, _, rfl⟩ := List.mem_map.1 hv; rfl
  case refine_6 => exact Below.refl _ _
  case refine_7 => exact Nat.le_refl _
  intro w5 hsp hb5
  obtain ⟨cs, hcs⟩ : ∃ cs, cs = (splice z.toList 0 (R.map (Value.int .u8))).toArray := ⟨_, rfl⟩
  have hsp2 : w5.heap[W3.heap.size]? = some (.cells (splice z.toList 0 (R.map (Value.int .u8))).toArray 125 (0, 0)) := hsp.out
  rw [← hcs] at hsp2
  have hcp : cs = arr .u8 (pad R) := by
    have hn := HR.out.2
    rw [hcs, HZ.out.2.2]
    apply Array.toList_inj.1
    simp only [arr, splice, List.take_zero, List.nil_append, Nat.zero_add, List.length_map, List.map_append, pad, List.map_replicate]
    rw [Z512, List.map_replicate, List.drop_replicate]
  have HC5 := Aside0.mk (And.intro hsp2 (show cs.size = 512 ∧ cs = arr .u8 (pad R) by
    refine ⟨?_, hcp⟩
    rw [hcp]
    have := pad_len (M := R) (by have := HR.out.2; omega)
    simpa [arr] using this))
  have HB5 := Aside0.mk (show Below w.heap.size w w5 from HB4.out.trans (hb5.mono hg8))
  obtain ⟨g8, hg8e⟩ : ∃ g8, g8 = W3.heap.size := ⟨_, rfl⟩
  rw [← hg8e] at HC5 ⊢
  clear hsp hsp2 hcs hcp hb5 HR4 HG8 HK HCS HB4 hal hg8e HB3
  go_wp2_with fail
  refine wp_region_held_drew (S := fun w' => w'.cell? ⟨d, 1, none⟩ = some (.map (some m))) (by kernel_rfl) (by
    obtain ⟨A0, c0, hh⟩ := HD.out.below HB5.out
    show w5.cell? ⟨d, 1, none⟩ = _
    rw [cell_of_row _ _ 1 _ 130 (0, 0) hh]; rfl) (fun hW => ?_)
  have HC6 := Aside0.mk (And.intro (show w5.drew.heap[g8]? = some (.cells cs 125 (0, 0)) from HC5.out.1) HC5.out.2)
  have HB6 := Aside0.mk (show Below w.heap.size w w5.drew from HB5.out.trans (below_drew (Below.refl _ _)))
  clear HC5 HB5
  generalize hWd : w5.drew = Wd at *
  clear hWd
  refine wpAnyH_take (i := 0) (oi := ⟨some 29, _, _, _, _, _⟩) (v := .pointer (some ⟨d, 0, none⟩)) rfl (by kernel_rfl) (by kernel_rfl) (by kernel_rfl) (fun _ _ _ h => h) (.inl ⟨by rfl, fun W1 h1 => by go_simp⟩) hW ?_
  try simp only [Act.put, List.setIfInBounds_toArray, List.set_cons_zero, List.set_cons_succ]
  refine wpAnyH_take (i := 1) (oi := ⟨some 30, _, _, _, _, _⟩) (v := .pointer (some ⟨d, 0, none⟩)) rfl (by kernel_rfl) (by kernel_rfl) (by kernel_rfl) (fun _ _ _ h => h) (.inl ⟨by rfl, fun W1 h1 => by go_simp⟩) hW ?_
  try simp only [Act.put, List.setIfInBounds_toArray, List.set_cons_zero, List.set_cons_succ]
  refine wpAnyH_take (i := 2) (oi := ⟨some 31, _, _, _, _, _⟩) (v := .pointer (some ⟨d, 1, none⟩)) rfl (by kernel_rfl) (by kernel_rfl) (by kernel_rfl) (fun _ _ _ h => h) (.inl ⟨by rfl, fun W1 h1 => by go_simp⟩) hW ?_
  try simp only [Act.put, List.setIfInBounds_toArray, List.set_cons_zero, List.set_cons_succ]
  refine wpAnyH_take (i := 3) (oi := ⟨some 32, _, _, _, _, _⟩) (v := .map (some m)) rfl (by kernel_rfl) (by kernel_rfl) (by kernel_rfl) (fun _ _ _ h => h) (.inl ⟨by rfl, fun W1 h1 => by have h2 : W1.cell? ⟨d, 1, none⟩ = some (.map (some m)) := h1; go_simp⟩) hW ?_
  try simp only [Act.put, List.setIfInBounds_toArray, List.set_cons_zero, List.set_cons_succ]
  refine wpAnyH_take (i := 4) (oi := ⟨some 33, _, _, _, _, _⟩) (v := .int .i64 (i : Int)) rfl (by kernel_rfl) (by kernel_rfl) (by kernel_rfl) (fun _ _ _ h => h) (.inl ⟨by rfl, fun W1 h1 => by go_simp⟩) hW ?_
  try simp only [Act.put, List.setIfInBounds_toArray, List.set_cons_zero, List.set_cons_succ]
  refine wpAnyH_ready (rs := [5]) (by kernel_rfl) (by simp) (AllReadyH.cons rfl (fun K1 hK1 => ?_) AllReadyH.nil)
  refine wp_load_row (o := ⟨some 34, _, _, _, _, _⟩) 125 (.tmp 8) rfl g8 rfl 125 cs (0, 0) _ HC6.out.1 under80 rfl (by rw [size80, HC6.out.2.1]) ?_
  refine hK1.out _ _ hW (fun hW => ?_)
  try simp only [Act.put, List.setIfInBounds_toArray, List.set_cons_zero, List.set_cons_succ]
  refine wpAnyH_ready (rs := [6]) (by kernel_rfl) (by simp) (AllReadyH.cons rfl (fun K2 hK2 => ?_) AllReadyH.nil)
  obtain ⟨es, cl, gg, la, hmm, hmv, hla, hrd, hll⟩ := (HS.out.below HB6.out).map
  obtain ⟨W6, es2, cl2, hrun, hm2, hmv2, ho, ht, hu, hsz, hk6⟩ := updateK hmm hmv (i : Int) (pad R)
  rw [← HC6.out.2.2] at hrun
  have hdm : d ≠ m := HS.out.dm
  refine wp_mapUpdate60 (o := ⟨none, _, _, _, _, _⟩) (.tmp 32) (.tmp 33) (.tmp 34) rfl (.map (some m)) (.int .i64 (i : Int)) (.agg cs) rfl rfl rfl hrun ?_
  refine hK2.out _ _ (by
    show W6.cell? ⟨d, 1, none⟩ = _
    rw [← (show Wd.cell? ⟨d, 1, none⟩ = some (.map (some m)) from hW)]
    simp only [World.cell?]
    rw [hk6 d hdm]) (fun hW => ?_)
  try simp only [Act.put, List.setIfInBounds_toArray, List.set_cons_zero, List.set_cons_succ]
  refine wpAnyH_done (by kernel_rfl) ?_ _
  clear hK1 hK2 K1 K2 hrun
  have HFIN := Aside0.mk (And.intro (show KB w W6 (fun k => k = m) from (KB.of_below HB6.out _).then_ (S2 := fun k => k = m) ⟨ho, ht, hu, by omega, fun k _ hk => hk6 k hk⟩ (fun k hk => .inl hk)) (show SV W6 d m N lb (fun j => if j = (i : Int) then pad R else rd j) by
    have hsv := HS.out.below HB6.out
    have hlm := hsv.lm (by omega)
    obtain ⟨c0, hb0, hb1⟩ := hsv.blk
    refine ⟨⟨c0, (hk6 d hdm).trans hb0, hb1⟩, ⟨es2, cl2, _, la, hm2, hmv2, fun q hq j v hv => ?_, fun q hq => ?_, hll⟩, fun q hq => ?_⟩
    · have := hla q hq j v hv
      simp only [World.cell?] at this ⊢
      rw [hk6 lb hlm]
      exact this
    · simp only [upd]
      by_cases e : (q : Int) = (i : Int)
      · rw [if_pos e, if_pos e]; rfl
      · rw [if_neg e, if_neg e]; exact hrd q hq
    · split
      · exact ⟨pad_len (by have := HR.out.2; omega), pad_byt HBR.out⟩
      · exact hsv.len q hq))
  clear ho ht hu hsz hk6 hm2 hmv2 hmm hmv hla hrd hll
  go_wp2
  rw [HP.out]
  exact ⟨rfl, HFIN.out⟩
theorem made_at (n j : Nat) (h : j < n) : (madeCells (arr .u8 Z512) n)[j]? = some (.int .u8 0) := by
  unfold madeCells
  rw [Array.getElem?_map, Array.getElem?_range, if_pos h]
  simp only [Option.map_some, Option.some.injEq]
  have hsz : (arr .u8 Z512).size = 512 := by rw [arr_len, Z512_len]
  have hlt : j % (arr .u8 Z512).size < (arr .u8 Z512).size := by rw [hsz]; exact Nat.mod_lt _ (by omega)
  rw [getElem!_pos (arr .u8 Z512) (j % (arr .u8 Z512).size) hlt]
  have h2 : (arr .u8 Z512)[j % (arr .u8 Z512).size]? = some (.int .u8 (Z512.getD (j % (arr .u8 Z512).size) 0)) := arr_at (by rw [Z512_len, hsz]; exact Nat.mod_lt _ (by omega))
  rw [Array.getElem?_eq_getElem hlt] at h2
  have h3 : Z512.getD (j % (arr .u8 Z512).size) 0 = 0 := by
    rw [List.getD_eq_getElem?_getD, List.getElem?_eq_getElem (by rw [Z512_len, hsz]; exact Nat.mod_lt _ (by omega))]
    exact Z512_mem (List.getElem_mem _)
  rw [h3] at h2
  simpa using h2
theorem make59K (n : Nat) (h : n ≤ 8192) (W : World) : (Instr.makeSlice 127 (.int .i64 (n : Int)) (.int .i64 (n : Int))).run Tryz.prog W = .ok (.slice (some ⟨W.heap.size, 0, none⟩) n n) (W.alloc (.cells (madeCells (arr .u8 (Z512)) (n * 512)) 125)) := by
  obtain ⟨i, hi, hz⟩ := Option.bind_eq_some_iff.1 zero125
  have hsz : i.size = 512 := by have := size80; rw [hi] at this; simpa using this
  have hby : i.bytes = 512 := by have := inf80; rw [hi] at this; simp at this; exact this.2
  have := run_make (P := Tryz.prog) W 127 125 i _ under59 hi hz .i64 .i64 (n : Int) (n : Int) (by omega) (by omega) (by rw [hby]; omega) (by omega)
  rw [hsz] at this
  exact this
def DskOutK (w : World) (n : Nat) (e : Ending) (w' : World) : Prop :=
  ∃ d m lb, e = .returned (.tuple #[.pointer (some ⟨d, 0, none⟩), .int .i64 0]) ∧ w.heap.size ≤ d ∧ w.heap.size ≤ m ∧ w.heap.size ≤ lb ∧ SV w' d m n lb (fun _ => Z512) ∧ Below w.heap.size w w'
set_option maxRecDepth 100000 in
set_option maxHeartbeats 2000000 in
theorem newK (n : Nat) (h1 : 1 ≤ n) (hn : n ≤ 8192) (w : World) : Calls Tryz.prog 38 #[.int .i64 (n : Int)] w (DskOutK w n) := by
  obtain ⟨P, hP⟩ : ∃ P : Ending → World → Prop, P = DskOutK w n := ⟨_, rfl⟩
  rw [← hP]
  have HP := Aside0.mk hP
  clear hP
  have d0 : decide ((n : Int) < 1) = false := decide_eq_false (by omega)
  have d1 : decide ((n : Int) > 8192) = false := decide_eq_false (by omega)
  have d1' : decide (8192 < (n : Int)) = false := decide_eq_false (by omega)
  have hmk := make59K n hn w
  obtain ⟨cells, hcl⟩ : ∃ cells, cells = madeCells (arr .u8 (Z512)) (n * 512) := ⟨_, rfl⟩
  rw [← hcl] at hmk
  have HCL := Aside0.mk hcl
  have hmm := mkmap60 (w.alloc (.cells cells 125))
  have HB := Aside0.mk (below_alloc (below_alloc (below_alloc (Below.refl w.heap.size w) (.cells cells 125)) (.map #[] 0)) (.cells #[.slice (some ⟨w.heap.size, 0, none⟩) n n, .map (some (w.heap.size + 1)), .bool false, .int .i64 0, .bool false] 130))
  have HL := Aside0.mk (blk_alloc (blk_alloc (blk_new w (.cells cells 125)) (.map #[] 0)) (.cells #[.slice (some ⟨w.heap.size, 0, none⟩) n n, .map (some (w.heap.size + 1)), .bool false, .int .i64 0, .bool false] 130))
  have HM := Aside0.mk (blk_alloc (blk_new (w.alloc (.cells cells 125)) (.map #[] 0)) (.cells #[.slice (some ⟨w.heap.size, 0, none⟩) n n, .map (some (w.heap.size + 1)), .bool false, .int .i64 0, .bool false] 130))
  have HD := Aside0.mk (blk_new ((w.alloc (.cells cells 125)).alloc (.map #[] 0)) (.cells #[.slice (some ⟨w.heap.size, 0, none⟩) n n, .map (some (w.heap.size + 1)), .bool false, .int .i64 0, .bool false] 130))
  clear hcl
  go_enter Tryz.func38, Tryz.ntmps38
  go_wp2
  rw [HP.out]
  refine ⟨w.heap.size + 2, w.heap.size + 1, w.heap.size, rfl, by omega, by omega, Nat.le_refl _, ⟨⟨n, ?_, Nat.le_refl _⟩, ⟨#[], 0, fun _ => none, fun _ => Z512, ?_, ⟨by simp, by simp, by simp, fun _ _ => rfl⟩, fun i hi j v hv => ?_, fun _ _ => rfl, fun _ _ => Z512_len⟩, fun i hi => ⟨Z512_len, Z512_byt⟩⟩, HB.out⟩
  · simpa using HD.out
  · simpa using HM.out
  · have hj : j < 512 := by
      have := (List.getElem?_eq_some_iff.1 hv).1
      simpa [Z512_len] using this
    have hv0 : v = .int .u8 0 := by
      obtain ⟨x, hx, rfl⟩ := List.mem_map.1 (List.mem_of_getElem? hv)
      rw [Z512_mem hx]
    rw [hv0, cell_of_row _ _ _ cells 125 (0, 0) HL.out, HCL.out]
    exact made_at _ _ (by omega)
def RdOut (w : World) (L : List Int) (e : Ending) (w' : World) : Prop :=
  ∃ g, e = .returned (.tuple #[.slice (some ⟨g, 0, none⟩) 512 512, .int .i64 0]) ∧ w.heap.size ≤ g ∧ C8 w' (some ⟨g, 0, none⟩) 512 L ∧ Below w.heap.size w w'
theorem C8_arr (w : World) (g : Nat) (L : List Int) (t : TypeId) (h : w.heap[g]? = some (.cells (arr .u8 L) t (0, 0))) (hL : L.length ≤ 100000) : C8 w (some ⟨g, 0, none⟩) L.length L :=
  ⟨rfl, by omega, fun _ => ⟨_, rfl, fun j p hj => by
    refine ⟨[.int .u8 p], rfl, rfl, fun i u hu => ?_⟩
    match i with
    | 0 =>
      have hu : u = .int .u8 p := by simpa using hu.symm
      rw [hu, add_at]
      rw [cell_of_row _ _ _ (arr .u8 L) t (0, 0) h]
      have h1 : (Kd.int .u8).sz = 1 := rfl
      rw [h1, Nat.mul_one, Nat.add_zero, Nat.zero_add]
      unfold arr
      simp [hj]
    | i + 1 => simp at hu⟩⟩
set_option maxRecDepth 100000 in
set_option maxHeartbeats 4000000 in
theorem read21K (d m N lb : Nat) (rd : Int → List Int) (i : Nat) (w : World) (hs : SV w d m N lb rd) (h1 : i < N) :
    Calls Tryz.prog 21 #[.pointer (some ⟨d, 0, none⟩), .int .i64 (i : Int)] w (RdOut w (rd (i : Int))) := by
  obtain ⟨P, hP⟩ : ∃ P : Ending → World → Prop, P = RdOut w (rd (i : Int)) := ⟨_, rfl⟩
  rw [← hP]
  have HP := Aside0.mk hP
  have HS := Aside0.mk hs
  have hE : dskE N (i : Int) = 0 := if_neg (by omega)
  clear hP hs
  go_enter Tryz.func21, Tryz.ntmps21
  go_wp2_with fail
  refine (check42 d N m (i : Int) w HS.out.db).mono ?_
  rintro e W2 ⟨rfl, hb⟩
  rw [hE]
  have HS2 := Aside0.mk (HS.out.below hb)
  have HB := Aside0.mk hb
  clear hb hE
  obtain ⟨c, hblk, hNc⟩ := HS2.out.blk
  obtain ⟨es, cl, gg, la, hmm, hmv, hla, hrd, hll⟩ := HS2.out.map
  have q0 : W2.cell? ⟨d, 0, none⟩ = some (.slice (some ⟨lb, 0, none⟩) N c) := by rw [cell_of_row _ _ 0 _ 130 (0, 0) hblk]; rfl
  have q1 : W2.cell? ⟨d, 1, none⟩ = some (.map (some m)) := by rw [cell_of_row _ _ 1 _ 130 (0, 0) hblk]; rfl
  have hlk := lookupK hmm hmv (i : Int)
  obtain ⟨cs, hcs⟩ : ∃ cs, cs = arr .u8 ((gg (i : Int)).getD (Z512)) := ⟨_, rfl⟩
  rw [← hcs] at hlk
  obtain ⟨z, hzz⟩ : ∃ z, z = arr .u8 (Z512) := ⟨_, rfl⟩
  have hal : (zeroValue 125).run Tryz.prog W2 = .ok (.agg z) W2 := by rw [hzz]; exact zeroV125 W2
  have HZ := Aside0.mk (show z.size = 512 by rw [hzz, arr_len, Z512_len])
  have hrl := HS2.out.len i h1
  have HCS := Aside0.mk (show cs.size = 512 ∧ cs.all (·.oneCell') = true ∧ cs = arr .u8 ((gg (i : Int)).getD (Z512)) from ⟨by
    rw [hcs]
    rw [arr_len]
    cases hg : gg (i : Int) with
    | none => exact Z512_len
    | some L =>
      have h2 := hrd i h1
      rw [hg] at h2
      simp only [Option.getD_some] at h2
      rw [Option.getD_some, ← h2]
      exact hrl.1, by rw [hcs]; exact arr_one _ _, hcs⟩)
  have HG := Aside0.mk (blk_new W2 (.cells z 125))
  have HBK := Aside0.mk hblk
  have HLA := Aside0.mk (And.intro (hla i h1) (And.intro (hrd i h1) (And.intro (hll i h1) hrl)))
  have hg1 : W2.heap.size < (W2.alloc (.cells z 125)).heap.size := by simp
  clear hcs hzz hblk hmm hmv hla hrd hll hrl
  have HGS := Aside0.mk (setRow_heap (W2.alloc (.cells z 125)) W2.heap.size z cs 125 _ HG.out)
  have q0' : ((W2.alloc (.cells z 125)).setRow W2.heap.size cs).cell? ⟨d, 0, none⟩ = some (.slice (some ⟨lb, 0, none⟩) N c) := (Below.cell (p := ⟨d, 0, none⟩) (below_setRow (below_alloc (Below.refl W2.heap.size W2) (.cells z 125)) (Nat.le_refl _) cs) (blk_lt HBK.out)).trans q0
  have HB3 := Aside0.mk (show Below w.heap.size w ((W2.alloc (.cells z 125)).setRow W2.heap.size cs) from HB.out.trans ((below_setRow (below_alloc (Below.refl W2.heap.size W2) (.cells z 125)) (Nat.le_refl _) cs).mono HB.out.size))
  have HLB := Aside0.mk (show ((W2.alloc (.cells z 125)).setRow W2.heap.size cs).rangeAt lb (i * 512) ((la (i : Int)).map (Value.int .u8)) from fun j v hv => by
    have h2 := HLA.out.1 j v hv
    exact (Below.cell (p := ⟨lb, i * 512 + j, none⟩) (below_setRow (below_alloc (Below.refl W2.heap.size W2) (.cells z 125)) (Nat.le_refl _) cs) (World.block_lt_of_cell? W2 _ h2)).trans h2)
  have HSZ := Aside0.mk HB.out.size
  obtain ⟨g7, hg7⟩ : ∃ g7, g7 = W2.heap.size := ⟨_, rfl⟩
  have HG7 := Aside0.mk hg7
  cases hg : gg (i : Int) with
  | some L =>
    rw [hg] at hlk
    simp only [Option.isSome_some] at hlk
    go_wp2_with (refine wpList_store_row rfl 125 (.tmp 7) (.tmp 22) rfl W2.heap.size cs rfl rfl 125 z HG.out (by rw [size80, HCS.out.1]) (by rw [HCS.out.1, HZ.out]) HCS.out.2.1 ?_; revert HP)
    intro HP
    generalize hW3 : (W2.alloc (.cells z 125)).setRow W2.heap.size cs = W3 at *
    clear hW3
    clear q0 q1 q0' hal hlk
    have HF := Aside0.mk (show RdOut w (rd (i : Int)) (.returned (.tuple #[.slice (some ⟨W2.heap.size, 0, none⟩) 512 512, .int .i64 0])) W3 by
      have h2 := HLA.out.2.1
      have h3 := HLA.out.2.2.2.1
      rw [hg, Option.getD_some] at h2
      refine ⟨W2.heap.size, rfl, HSZ.out, ?_, HB3.out⟩
      have h4 := HGS.out
      rw [HCS.out.2.2, hg, Option.getD_some] at h4
      have := C8_arr W3 W2.heap.size L 125 h4 (by rw [← h2]; omega)
      rw [← h2, h3] at this
      rw [h2] at this ⊢
      exact this)
    go_wp2
    rw [HP.out]
    exact HF.out
  | none =>
    rw [hg] at hlk
    simp only [Option.isSome_none] at hlk
    go_wp2_with (refine wpList_store_row rfl 125 (.tmp 7) (.tmp 22) rfl W2.heap.size cs rfl rfl 125 z HG.out (by rw [size80, HCS.out.1]) (by rw [HCS.out.1, HZ.out]) HCS.out.2.1 ?_; revert HP)
    intro HP
    generalize hW3 : (W2.alloc (.cells z 125)).setRow W2.heap.size cs = W3 at *
    clear hW3
    clear q0 q1 hal hlk
    have hrdl : rd (i : Int) = la (i : Int) := by
      have h2 := HLA.out.2.1
      rw [hg, Option.getD_none] at h2
      exact h2
    obtain ⟨c2, hc2⟩ : ∃ c2, c2 = ((la (i : Int)).map (Value.int .u8)).toArray := ⟨_, rfl⟩
    have HC2 := Aside0.mk (show c2.size = 512 ∧ c2.all (·.oneCell') = true ∧ c2 = arr .u8 (rd (i : Int)) by
      rw [hc2, hrdl]
      exact ⟨by have := HLA.out.2.2.1; simpa using this, arr_one _ _, rfl⟩)
    have HLI := Aside0.mk hc2
    have HGT := Aside0.mk (setRow_heap W3 W2.heap.size cs c2 125 _ HGS.out)
    have HB4 := Aside0.mk (show Below w.heap.size w (W3.setRow W2.heap.size c2) from below_setRow HB3.out HSZ.out _)
    have HF := Aside0.mk (show RdOut w (rd (i : Int)) (.returned (.tuple #[.slice (some ⟨W2.heap.size, 0, none⟩) 512 512, .int .i64 0])) (W3.setRow W2.heap.size c2) by
      refine ⟨W2.heap.size, rfl, HSZ.out, ?_, HB4.out⟩
      have h4 := HGT.out
      rw [HC2.out.2.2] at h4
      have h3 := HLA.out.2.2.2.1
      have := C8_arr (W3.setRow W2.heap.size c2) W2.heap.size (rd (i : Int)) 125 (by rw [HC2.out.2.2]; exact h4) (by omega)
      rw [h3] at this
      exact this)
    clear hc2 hrdl
    go_wp2_with (first | (refine wpList_load_mid rfl 125 (.tmp 31) rfl lb (i * 512) rfl ((la (i : Int)).map (Value.int .u8)) _ HLB.out under80 rfl (by rw [size80, List.length_map, HLA.out.2.2.1]) ?_; rw [← HLI.out]) | (refine wpList_store_row rfl 125 (.tmp 7) (.tmp 32) rfl W2.heap.size c2 rfl rfl 125 cs HGS.out (by rw [size80, HC2.out.1]) (by rw [HC2.out.1, HCS.out.1]) HC2.out.2.1 ?_))
    rw [HP.out]
    exact HF.out
end Go.Proofs.YtchhdafgmifhdaaGreat.DskK
namespace Go.Proofs.YtchhdafgmifhdaaGreat.BlkK
open Go.RowKit Go.Proofs.YtchhdafgmifhdaaGreat.B8 Go.Proofs.YtchhdafgmifhdaaGreat.Agg Go.Proofs.YtchhdafgmifhdaaGreat.CodL Go.Proofs.YtchhdafgmifhdaaGreat.CodA Go.Proofs.YtchhdafgmifhdaaGreat.CodB Go.Proofs.YtchhdafgmifhdaaGreat.CrcL Go.Proofs.YtchhdafgmifhdaaGreat.CrcA Go.Proofs.YtchhdafgmifhdaaGreat.CrcB Go.Proofs.YtchhdafgmifhdaaGreat.PVerifyForms Go.Proofs.YtchhdafgmifhdaaGreatW.PrintWords Go.Proofs.YtchhdafgmifhdaaGreatW.PrintLast Go.Proofs.YtchhdafgmifhdaaGreatW.PrintMore Go.Proofs.YtchhdafgmifhdaaGreat.CatL Go.Proofs.YtchhdafgmifhdaaGreat.PtrA Go.Proofs.YtchhdafgmifhdaaGreat.PtrB Go.Proofs.YtchhdafgmifhdaaGreat.PtrE Go.Proofs.YtchhdafgmifhdaaGreat.OfA Go.Proofs.YtchhdafgmifhdaaGreat.ExtA Go.Proofs.YtchhdafgmifhdaaGreat.DskA Go.Proofs.YtchhdafgmifhdaaGreat.DskB Go.Proofs.YtchhdafgmifhdaaGreat.DskC Go.Proofs.YtchhdafgmifhdaaGreat.BlkA Go.Proofs.YtchhdafgmifhdaaGreat.ShaK Go.Proofs.YtchhdafgmifhdaaGreat.BlkB Go.Proofs.YtchhdafgmifhdaaGreat.DskK
set_option linter.unusedVariables false
set_option linter.unusedSimpArgs false
attribute [local go_sem] max2_int min2_int max_two min_two
/-- The q-th sector's bytes of a block. -/
def chunk (L : List Int) (q : Nat) : List Int := pad ((L.drop (q * 512)).take 512)
def putK (rd : Int → List Int) (x : Int) (L : List Int) (k : Nat) : Int → List Int := fun j => if x ≤ j ∧ j < x + k then chunk L (j - x).toNat else rd j
/-- The sectors behind a block that is written. -/
def putB (rd : Int → List Int) (x : Int) (L : List Int) : Int → List Int := putK rd x L ((L.length + 511) / 512)
theorem putB_eq (rd : Int → List Int) (x : Int) (L : List Int) : putB rd x L = putK rd x L ((L.length + 511) / 512) := rfl
theorem putK_zero (rd : Int → List Int) (x : Int) (L : List Int) : putK rd x L 0 = rd := by
  funext j
  unfold putK
  rw [if_neg (by omega)]
theorem putK_succ (rd : Int → List Int) (x : Int) (L : List Int) (k : Nat) : (fun j => if j = x + (k : Int) then pad ((L.drop (k * 512)).take 512) else putK rd x L k j) = putK rd x L (k + 1) := by
  funext j
  unfold putK chunk
  by_cases h : j = x + (k : Int)
  · rw [if_pos h, if_pos (by omega), show (j - x).toNat = k by omega]
  · rw [if_neg h]
    by_cases h2 : x ≤ j ∧ j < x + (k : Int)
    · rw [if_pos h2, if_pos (by omega)]
    · rw [if_neg h2, if_neg (by omega)]
theorem SV_lts {W : World} {d m N lb : Nat} {rd : Int → List Int} (h : SV W d m N lb rd) (h0 : 0 < N) : d < W.heap.size ∧ m < W.heap.size ∧ lb < W.heap.size := by
  obtain ⟨c, h1, _⟩ := h.blk
  obtain ⟨es, cl, g, la, h2, _, h3, _, h5⟩ := h.map
  refine ⟨blk_lt h1, blk_lt h2, ?_⟩
  have hl := h5 0 h0
  obtain ⟨x, hx⟩ : ∃ x, (la ((0 : Nat) : Int))[0]? = some x := ⟨_, List.getElem?_eq_getElem (by omega)⟩
  exact World.block_lt_of_cell? W ⟨lb, 0 * 512 + 0, none⟩ (h3 0 h0 0 (.int .u8 x) (by rw [List.getElem?_map, hx]; rfl))
theorem write29I (d m N lb : Nat) (rd : Int → List Int) (i : Int) (A : Option Addr) (c n : Nat) (R : List Int) (w : World) (hs : SV w d m N lb rd) (hbR : Byt R) (hr : C8 w A n R) (hnc : n ≤ c) (hn : n ≤ 512) (h0 : 0 ≤ i) (h1 : i < N) :
    Calls Tryz.prog 22 #[.pointer (some ⟨d, 0, none⟩), .int .i64 i, .slice A n c] w (fun e w' => e = .returned (.int .i64 0) ∧ KB w w' (fun k => k = m) ∧ SV w' d m N lb (fun j => if j = i then pad R else rd j)) := by
  obtain ⟨q, rfl⟩ := Int.eq_ofNat_of_zero_le h0
  exact write29K d N m lb rd q A c n R w hs hbR hr hnc hn (by omega)
set_option maxRecDepth 100000 in
set_option maxHeartbeats 8000000 in
theorem write83K (d N m lb : Nat) (rd : Int → List Int) (x b : Int) (A : Option Addr) (c n : Nat) (L : List Int) (w : World) (hm : SV w d m N lb rd) (hr : ∀ W', Kept w W' (fun k => k = m) → C8 W' A n L) (hb : Byt L) (hnc : n ≤ c)
    (hR : Right ⟨x, b, (n : Int), 0, List.replicate 32 0⟩) (hN : x + sect (n : Int) ≤ N) :
    Calls Tryz.prog 83 #[.pointer (some ⟨d, 0, none⟩), .int .i64 x, .int .i64 b, .slice A n c] w (fun e w' => e = .returned (.tuple #[.agg (encP (ofP x b L)), .int .i64 0]) ∧ KB w w' (fun k => k = m) ∧ SV w' d m N lb (putB rd x L)) := by
  obtain ⟨P, hP⟩ : ∃ P : Ending → World → Prop, P = fun e w' => e = .returned (.tuple #[.agg (encP (ofP x b L)), .int .i64 0]) ∧ KB w w' (fun k => k = m) ∧ SV w' d m N lb (putB rd x L) := ⟨_, rfl⟩
  rw [← hP]
  have HP := Aside0.mk hP
  clear hP
  have hbd := hR.bounds
  have hsb := sect_bound (n : Int)
  have hs1 : 0 < sect (n : Int) := hR.2.2.1
  have hN0 : ((N : Int) == 0) = false := by rw [beq_eq_false_iff_ne]; have := hR.2.2.2.1; simp only at this; omega
  obtain ⟨z, hz, hz1, hal⟩ := zero33
  have HZS := Aside0.mk (And.intro hz hz1)
  have HAL := Aside0.mk hal
  have halw := hal w
  clear hal hz hz1
  have b1 := below_alloc (Below.refl w.heap.size w) (.cells z 32)
  have HB := Aside0.mk b1
  have HD := Aside0.mk (hm.db.below b1)
  have HLT := Aside0.mk (SV_lts hm (by have := hR.2.2.2.1; simp only at this; omega))
  have HM := Aside0.mk (hm.below b1)
  have HZ := Aside0.mk (blk_new w (.cells z 32))
  have hr0 := hr w (Kept.refl _ _)
  have HR := Aside0.mk (And.intro hr (And.intro hr0.1 hb))
  have HRT := Aside0.mk hR
  have HN := Aside0.mk hN
  obtain ⟨r, hrr⟩ : ∃ r, r = encP ⟨x, b, (n : Int), 0, List.replicate 32 0⟩ := ⟨_, rfl⟩
  have HBU := Aside0.mk (show Tryz.prog.built 32 [(0, .int .i64 x), (1, .int .i64 b), (2, .int .i64 (n : Int))] = some r by rw [built33b, hrr])
  have HRR := Aside0.mk (show PC r ⟨x, b, (n : Int), 0, List.replicate 32 0⟩ ∧ r.size = 36 ∧ r.all (·.oneCell') = true by rw [hrr]; exact ⟨pc _ (by simp), encP_size (by simp), encP_one _⟩)
  obtain ⟨s, hs⟩ : ∃ s : Nat, (s : Int) = sect (n : Int) := ⟨(sect (n : Int)).toNat, by omega⟩
  have HS := Aside0.mk hs
  have hsn : s = (n + 511) / 512 := by
    have : sect (n : Int) = ((n : Int) + 511) / 512 := by unfold sect; rw [if_neg (by simp only at hbd; omega)]
    omega
  have HSN := Aside0.mk (And.intro hsn (show 1 ≤ n ∧ n ≤ 65536 ∧ 0 ≤ x ∧ x < 8192 ∧ x + (s : Int) ≤ N by simp only at hbd; omega))
  clear hr hb hR hN hbd hsb hs1 hrr hm b1 hs hsn hr0
  go_enter Tryz.func83, Tryz.ntmps83
  go_wp2_with fail
  generalize hW0 : w.alloc (.cells z 32) = W0 at *
  clear hW0
  refine (len23 d N m W0 HD.out).mono ?_
  rintro e W1 ⟨rfl, hb2⟩
  have HB1 := Aside0.mk (HB.out.trans (hb2.mono HB.out.size))
  have HD1 := Aside0.mk (HD.out.below hb2)
  have HM1 := Aside0.mk (HM.out.below hb2)
  have HZ1 := Aside0.mk (blk_below HZ.out hb2)
  have HZ10 := Aside0.mk (blk_new W1 (.cells z 32))
  have hal1 := HAL.out W1
  have HG10 := Aside0.mk (setRow_heap (W1.alloc (.cells z 32)) W1.heap.size z r 32 _ HZ10.out)
  have hba := below_alloc (Below.refl W1.heap.size W1) (.cells z 32)
  have hbb : Below W1.heap.size W1 ((W1.alloc (.cells z 32)).setRow W1.heap.size r) := below_setRow hba (Nat.le_refl _) _
  have HB2 := Aside0.mk (HB1.out.trans (hbb.mono HB1.out.size))
  have HD2 := Aside0.mk (HD1.out.below hbb)
  have HM2 := Aside0.mk (HM1.out.below hbb)
  have HZ2 := Aside0.mk (blk_below HZ1.out hbb)
  clear hba hbb hb2 HB HD HM HZ halw
  go_wp2_with (first | (refine wpList_build_of rfl 32 #[(0, .tmp 20), (1, .tmp 21), (2, .tmp 23)] rfl r ?hb ?_; (case hb => simp [Act.eval]; exact HBU.out)) | (refine wpList_store_row rfl 32 (.tmp 10) (.tmp 24) rfl W1.heap.size r rfl rfl 32 z HZ10.out (by rw [i33, HRR.out.2.1]) (by rw [HRR.out.2.1, HZS.out.1]) HRR.out.2.2 ?_) | (refine wpList_load_row rfl 32 (.tmp 10) rfl W1.heap.size rfl 32 r (0, 0) _ HG10.out underl56 rfl (by rw [i33, HRR.out.2.1]) ?_))
  generalize hW2 : (W1.alloc (.cells z 32)).setRow W1.heap.size r = W2 at *
  clear hW2
  refine (check28 d N m r _ HRR.out.1 HRT.out HN.out W2 HD2.out).mono ?_
  rintro e W3 ⟨rfl, hb3⟩
  have HB3 := Aside0.mk (HB2.out.trans (hb3.mono HB2.out.size))
  have HD3 := Aside0.mk (HD2.out.below hb3)
  have HM3 := Aside0.mk (HM2.out.below hb3)
  have HZ3 := Aside0.mk (blk_below HZ2.out hb3)
  have HG3 := Aside0.mk (blk_below HG10.out hb3)
  obtain ⟨g10, hg10⟩ : ∃ g10, g10 = W1.heap.size := ⟨_, rfl⟩
  rw [← hg10] at HG3 ⊢
  clear hg10 hb3 HG10 HZ10 HB1 HD1 HM1 HZ1 HB2 HD2 HM2 HZ2 hal1
  go_wp2_with (refine wpList_load_row rfl 32 (.tmp 10) rfl g10 rfl 32 r (0, 0) _ HG3.out underl56 rfl (by rw [i33, HRR.out.2.1]) ?_)
  refine (sectors_calls r _ HRR.out.1 W3).mono ?_
  rintro e W4 ⟨he, hb4⟩
  rw [show sect (Ptr.len ⟨x, b, (n : Int), 0, List.replicate 32 0⟩) = (s : Int) from HS.out.symm] at he
  subst he
  have HB4 := Aside0.mk (HB3.out.trans (hb4.mono HB3.out.size))
  have HD4 := Aside0.mk (HD3.out.below hb4)
  have HM4 := Aside0.mk (HM3.out.below hb4)
  have HZ4 := Aside0.mk (blk_below HZ3.out hb4)
  clear hb4 HB3 HD3 HM3 HZ3 HG3
  go_wp2_with fail
  go_loopw [34] (fun v34 wr => ∃ k : Nat, v34 = .int .i64 (k : Int) ∧ k ≤ s ∧ Aside0 (KB W4 wr (fun k => k = m) ∧ SV wr d m N lb (putK rd x L k))) (fun v _ => s - (intOf v).toNat)
  case atStart => exact ⟨0, rfl, by omega, ⟨KB.of_below (Below.refl _ _) _, by rw [putK_zero]; exact HM4.out⟩⟩
  case round =>
    obtain ⟨k, rfl, hks, HK⟩ := hrel
    have hdm : d ≠ m := by
      rintro rfl
      obtain ⟨A0, c0, hh⟩ := HD4.out
      obtain ⟨es, cl, h2, _⟩ := HM4.out.mi
      rw [hh] at h2
      simp at h2
    have hgm : w.heap.size ≠ m := by
      rintro rfl
      obtain ⟨es, cl, h2, _⟩ := HM4.out.mi
      rw [HZ4.out] at h2
      simp at h2
    have HDR := Aside0.mk (show DB wr d N m by
      obtain ⟨A0, c0, hh⟩ := HD4.out
      exact ⟨A0, c0, blk_kept hh HK.out.1.kept hdm⟩)
    have HZR := Aside0.mk (blk_kept HZ4.out HK.out.1.kept hgm)
    have HRD := Aside0.mk (kb_c8 HR.out.1 HB4.out HK.out.1)
    have HNE := Aside0.mk (And.intro hdm hgm)
    obtain ⟨t1, t2, t3, t4, t5, t6⟩ := HSN.out
    clear hdm hgm
    by_cases hk : k < s
    · have dk : decide ((k : Int) < (s : Int)) = true := decide_eq_true (by omega)
      obtain ⟨lo, hlo⟩ : ∃ lo : Nat, lo = k * 512 := ⟨_, rfl⟩
      obtain ⟨q, hq⟩ : ∃ q : Nat, q = k + 1 := ⟨_, rfl⟩
      obtain ⟨k1, hk1⟩ : ∃ k1 : Nat, k1 = q * 512 := ⟨_, rfl⟩
      obtain ⟨hi, hhi⟩ : ∃ hi : Nat, hi = min k1 n := ⟨_, rfl⟩
      have hw1 : IntKind.i64.wrap ((k : Int) * 512) = (lo : Int) := by rw [i64_small (by omega) (by omega)]; omega
      have hw2 : IntKind.i64.wrap ((k : Int) + 1) = (q : Int) := by rw [i64_small (by omega) (by omega)]; omega
      have hw3 : IntKind.i64.wrap ((q : Int) * 512) = (k1 : Int) := by rw [i64_small (by omega) (by omega)]; omega
      have hw4 : IntKind.i64.wrap (x + (k : Int)) = x + (k : Int) := i64_small (by omega) (by omega)
      have hmin2 : (if n < k1 then (n : Int) else (k1 : Int)) = (hi : Int) := by split <;> omega
      have hcut := cut8_mid3 A n c lo hi (by omega) (by omega)
      have HHI := Aside0.mk (And.intro hhi (And.intro hlo (And.intro hk1 (And.intro hq (show lo < hi ∧ hi ≤ n ∧ hi - lo ≤ 512 by omega)))))
      clear hhi hlo hk1 hq t1 t2 t3
      go_wp2_with fail
      refine (write29I d m N lb (putK rd x L k) (x + k) _ (hi - lo) (hi - lo) _ wr HK.out.2 ((HR.out.2.2.drop _).take _) (C8_mid HRD.out hnc HHI.out.2.2.2.2.1 HHI.out.2.2.2.2.2.1) (Nat.le_refl _) HHI.out.2.2.2.2.2.2 (by omega) (by omega)).mono ?_
      rintro e w6 ⟨rfl, hkb, hmi⟩
      have hRL : (L.drop lo).take (hi - lo) = (L.drop (k * 512)).take 512 := by
        have h1 := HHI.out
        have h2 := HR.out.2.1
        rw [h1.2.1]
        by_cases hc : (k + 1) * 512 ≤ n
        · rw [show hi - k * 512 = 512 by omega]
        · rw [List.take_of_length_le (by rw [List.length_drop]; omega), List.take_of_length_le (by rw [List.length_drop]; omega)]
      rw [hRL, putK_succ, ← HHI.out.2.2.2.1] at hmi
      have HFIN := Aside0.mk (And.intro (HK.out.1.then_ hkb (fun k hk => .inl hk)) hmi)
      clear hkb hmi hRL
      go_wp2_with fail
      go_roundw
      case rel => exact ⟨q, rfl, by have := HHI.out; omega, HFIN⟩
      case measure => simp [intOf]; have := HHI.out; omega
    · have dk : decide ((k : Int) < (s : Int)) = false := decide_eq_false (by omega)
      go_wp2_with fail
      refine (of_calls x b A c n L wr HRD.out HR.out.2.2 hnc).mono ?_
      rintro e w6 ⟨he, hb6⟩
      obtain ⟨r2, hr2⟩ : ∃ r2, r2 = encP (ofP x b L) := ⟨_, rfl⟩
      rw [← hr2] at he
      subst he
      have HR2 := Aside0.mk (And.intro hr2 (And.intro (show r2.size = 36 by rw [hr2]; exact encP_size (ShaE.shaL_len L)) (show r2.all (·.oneCell') = true by rw [hr2]; exact encP_one _)))
      have HZ6 := Aside0.mk (blk_below HZR.out hb6)
      have hkb : KB w w6 (fun k => k = m) := ((KB.of_below HB4.out _).then_ HK.out.1 (fun k hk => .inl hk)).below hb6
      have hk7 : KB w (w6.setRow w.heap.size r2) (fun k => k = m) := ⟨hkb.os, hkb.tape, hkb.output, ⟨by have := hkb.kept.1; simpa using this, fun i hi hn => (setRow_other _ _ _ _ (by omega)).trans (hkb.kept.2 i hi hn)⟩⟩
      have hks2 : k = s := by omega
      have hm7 : SV (w6.setRow w.heap.size r2) d m N lb (putB rd x L) := by
        have h1 := HK.out.2
        rw [hks2, HSN.out.1, show n = L.length from HR.out.2.1.symm, ← putB_eq] at h1
        exact (h1.below hb6).kept (S := fun k => k = w.heap.size) ⟨by simp, fun i hi hn => setRow_other _ _ _ _ hn⟩ (by have := HLT.out; omega) (by have := HLT.out; omega) (by have := HLT.out; omega)
      have HFIN := Aside0.mk (And.intro hk7 hm7)
      clear hk7 hm7 hkb hb6 hr2 hks2
      go_wp2_with (refine wpList_store_row rfl 32 (.tmp 8) (.tmp 63) rfl w.heap.size r2 rfl rfl 32 z HZ6.out (by rw [i33, HR2.out.2.1]) (by rw [HR2.out.2.1, HZS.out.1]) HR2.out.2.2 ?_)
      refine bodyPost_ret (res_ct (p := 8) (q := 9) _ rfl rfl (setRow_heap _ w.heap.size z r2 32 _ HZ6.out) Tryz.underlying32 rfl (by rw [i33, HR2.out.2.1])) rfl ?_
      rw [HP.out]
      exact ⟨by rw [HR2.out.1]; rfl, HFIN.out.1, HFIN.out.2⟩
end Go.Proofs.YtchhdafgmifhdaaGreat.BlkK
namespace Go.Proofs.YtchhdafgmifhdaaGreat.ChkK
open Go.RowKit Go.Proofs.YtchhdafgmifhdaaGreat.B8 Go.Proofs.YtchhdafgmifhdaaGreat.Agg Go.Proofs.YtchhdafgmifhdaaGreat.CodL Go.Proofs.YtchhdafgmifhdaaGreat.CodA Go.Proofs.YtchhdafgmifhdaaGreat.CodB Go.Proofs.YtchhdafgmifhdaaGreat.CrcL Go.Proofs.YtchhdafgmifhdaaGreat.CrcA Go.Proofs.YtchhdafgmifhdaaGreat.CrcB Go.Proofs.YtchhdafgmifhdaaGreat.PVerifyForms Go.Proofs.YtchhdafgmifhdaaGreatW.PrintWords Go.Proofs.YtchhdafgmifhdaaGreatW.PrintLast Go.Proofs.YtchhdafgmifhdaaGreatW.PrintMore Go.Proofs.YtchhdafgmifhdaaGreat.CatL Go.Proofs.YtchhdafgmifhdaaGreat.PtrA Go.Proofs.YtchhdafgmifhdaaGreat.PtrB Go.Proofs.YtchhdafgmifhdaaGreat.PtrE Go.Proofs.YtchhdafgmifhdaaGreat.OfA Go.Proofs.YtchhdafgmifhdaaGreat.ExtA Go.Proofs.YtchhdafgmifhdaaGreat.DskA Go.Proofs.YtchhdafgmifhdaaGreat.DskB Go.Proofs.YtchhdafgmifhdaaGreat.DskC Go.Proofs.YtchhdafgmifhdaaGreat.BlkA Go.Proofs.YtchhdafgmifhdaaGreat.ShaK Go.Proofs.YtchhdafgmifhdaaGreat.BlkB Go.Proofs.YtchhdafgmifhdaaGreat.DskK Go.Proofs.YtchhdafgmifhdaaGreat.BlkK
set_option linter.unusedVariables false
set_option linter.unusedSimpArgs false
theorem yields_row {P : Program} {ops : Array Oper} {S : World → Prop} {op : Oper} {a : Act} (hw : Region.wanted op (yielded ops a.tmps) = true) (ty : TypeId) (x : Operand) (ho : op.op = .load ty x)
    (g : Nat) (hx : a.eval x = .pointer (some ⟨g, 0, none⟩)) (t : TypeId) (cs : Array Value) (fr : Nat × Nat) (d : TypeDesc) (hg : ∀ w, S w → w.heap[g]? = some (.cells cs t fr))
    (hu : P.underlying ty = some d) (hd : (match d with | .struct _ | .array _ _ => true | _ => false) = true) (hi : (P.info? ty).map (·.size) = some cs.size) : YieldsIf P ops S op (.agg cs) a :=
  .inl ⟨hw, fun w hS => by
    unfold execOp
    simp only [ho, hx, Instr.loadAt, Instr.sureAddr, Sem.run_bind, Sem.run_pure, Result.andThen_ok, run_loadVar_row w g t ty cs fr d (hg w hS) hu hd hi]⟩
theorem guard32 : Tryz.prog.eqGuardType Tryz.prog.depth 32 = false := by kernel_rfl
theorem yields_neq32 {ops : Array Oper} {S : World → Prop} {op : Oper} {a : Act} (hw : Region.wanted op (yielded ops a.tmps) = true) (x y : Operand) (ty2 : TypeId) (ho : op.op = .binOp .neq 32 x y ty2)
    (p q : Ptr) (hp : p.sha.length = 32) (hq : q.sha.length = 32) (cs ds : Array Value) (hcs : cs = encP p) (hds : ds = encP q) (hx : a.eval x = .agg cs) (hy : a.eval y = .agg ds) (b : Bool) (hb : b = !decide (p = q)) : YieldsIf Tryz.prog ops S op (.bool b) a :=
  .inl ⟨hw, fun w hS => by
    unfold execOp
    simp only [ho, hx, hy, hcs, hds, hb, Sem.run_bind, Sem.run_pure, Result.andThen_ok, run_eqGuard_agg _ .neq 32 x y _ _ guard32, neq56 p q hp hq]⟩
set_option maxRecDepth 100000 in
set_option maxHeartbeats 4000000 in
theorem check133 (p : Ptr) (A : Option Addr) (c n : Nat) (L : List Int) (w : World) (hok : Ok p) (hR : Right p) (hl : p.len = (n : Int)) (hL : ofP p.at_ p.birth L = p) (hr : C8 w A n L) (hb : Byt L) (hnc : n ≤ c) :
    Calls Tryz.prog 133 #[.agg (encP p), .slice A n c] w fun e w' => e = .returned (.int .i64 0) ∧ Below w.heap.size w w' := by
  obtain ⟨P, hP⟩ : ∃ P : Ending → World → Prop, P = fun e w' => e = .returned (.int .i64 0) ∧ Below w.heap.size w w' := ⟨_, rfl⟩
  rw [← hP]
  have HP := Aside0.mk hP
  clear hP
  obtain ⟨cs, hcs⟩ : ∃ cs, cs = encP p := ⟨_, rfl⟩
  have hp : PC cs p := by rw [hcs]; exact pc _ hok.len
  rw [← hcs]
  obtain ⟨x, hx⟩ : ∃ x, x = p.at_ := ⟨_, rfl⟩
  obtain ⟨bq, hbq⟩ : ∃ x, x = p.birth := ⟨_, rfl⟩
  have b1 := below_alloc (Below.refl w.heap.size w) (.cells cs 32)
  have HB := Aside0.mk b1
  have HG := Aside0.mk (blk_new w (.cells cs 32))
  have HPC := Aside0.mk (And.intro hp (And.intro (rightB_yes hR) (And.intro hcs hok)))
  have HX := Aside0.mk (And.intro hx (And.intro hbq (And.intro hl hL)))
  have HR := Aside0.mk (And.intro hr (And.intro hb hnc))
  clear b1 hp hR hcs hok hx hbq hl hL hr hb hnc
  go_enter Tryz.func133, Tryz.ntmps133
  go_wp2_with (refine wpList_load_row rfl 32 (.tmp 2) rfl w.heap.size rfl 32 cs (0, 0) _ HG.out underl56 rfl (by rw [i33, HPC.out.1.size]) ?_)
  generalize hW1 : w.alloc (.cells cs 32) = W1 at *
  clear hW1
  refine (right_calls cs p HPC.out.1 W1).mono ?_
  rintro e W2 ⟨he, hb⟩
  rw [HPC.out.2.1] at he
  subst he
  have HB2 := Aside0.mk (HB.out.trans (hb.mono HB.out.size))
  have HG2 := Aside0.mk (blk_below HG.out hb)
  clear hb HB HG
  go_wp2_with fail
  have hg2 : w.heap.size < W2.heap.size := blk_lt HG2.out
  have X0 := Aside0.mk (show W2.cell? ⟨w.heap.size, 0, none⟩ = some (.int .i64 x) by rw [cell_of_row _ _ 0 cs 32 (0, 0) HG2.out, HX.out.1]; exact HPC.out.1.c0)
  have X1 := Aside0.mk (show W2.cell? ⟨w.heap.size, 1, none⟩ = some (.int .i64 bq) by rw [cell_of_row _ _ 1 cs 32 (0, 0) HG2.out, HX.out.2.1]; exact HPC.out.1.c1)
  have X2 := Aside0.mk (show W2.cell? ⟨w.heap.size, 2, none⟩ = some (.int .i64 (n : Int)) by rw [cell_of_row _ _ 2 cs 32 (0, 0) HG2.out, ← HX.out.2.2.1]; exact HPC.out.1.c2)
  refine wp_region_held_drew (S := fun w' => Below W2.heap.size W2 w') (by kernel_rfl) (below_drew (Below.refl _ _)) (fun hW => ?_)
  have WDB := Aside0.mk (show Below W2.heap.size W2 W2.drew from below_drew (Below.refl _ _))
  generalize hWd : W2.drew = Wd at *
  clear hWd
  refine wpAnyH_take (i := 0) (oi := ⟨some 10, _, _, _, _, _⟩) (v := .slice A n c) rfl (by kernel_rfl) (by kernel_rfl) (by kernel_rfl) (fun _ _ _ h => h) (.inl ⟨by rfl, fun W1 h1 => by go_simp⟩) hW ?_
  try simp only [Act.put, List.setIfInBounds_toArray, List.set_cons_zero, List.set_cons_succ]
  refine wpAnyH_take (i := 1) (oi := ⟨some 11, _, _, _, _, _⟩) (v := .int .i64 (n : Int)) rfl (by kernel_rfl) (by kernel_rfl) (by kernel_rfl) (fun _ _ _ h => h) (.inl ⟨by rfl, fun W1 h1 => by go_simp⟩) hW ?_
  try simp only [Act.put, List.setIfInBounds_toArray, List.set_cons_zero, List.set_cons_succ]
  refine wpAnyH_take (i := 2) (oi := ⟨some 12, _, _, _, _, _⟩) (v := .pointer (some ⟨w.heap.size, 2, none⟩)) rfl (by kernel_rfl) (by kernel_rfl) (by kernel_rfl) (fun _ _ _ h => h) (.inl ⟨by rfl, fun W1 h1 => by go_simp⟩) hW ?_
  try simp only [Act.put, List.setIfInBounds_toArray, List.set_cons_zero, List.set_cons_succ]
  refine wpAnyH_take (i := 3) (oi := ⟨some 13, _, _, _, _, _⟩) (v := .int .i64 (n : Int)) rfl (by kernel_rfl) (by kernel_rfl) (by kernel_rfl) (fun _ _ _ h => h) (.inl ⟨by rfl, fun W1 h1 => by have h2 := (Below.cell (p := ⟨w.heap.size, 2, none⟩) h1 hg2).trans X2.out; clear h1; go_simp⟩) hW ?_
  try simp only [Act.put, List.setIfInBounds_toArray, List.set_cons_zero, List.set_cons_succ]
  refine wpAnyH_take (i := 4) (oi := ⟨some 14, _, _, _, _, _⟩) (v := .bool false) rfl (by kernel_rfl) (by kernel_rfl) (by kernel_rfl) (fun _ _ _ h => h) (.inl ⟨by rfl, fun W1 h1 => by go_simp⟩) hW ?_
  try simp only [Act.put, List.setIfInBounds_toArray, List.set_cons_zero, List.set_cons_succ]
  refine wpAnyH_take (i := 5) (oi := ⟨some 15, _, _, _, _, _⟩) (v := .bool false) rfl (by kernel_rfl) (by kernel_rfl) (by kernel_rfl) (fun _ _ _ h => h) (.inl ⟨by rfl, fun W1 h1 => by go_simp⟩) hW ?_
  try simp only [Act.put, List.setIfInBounds_toArray, List.set_cons_zero, List.set_cons_succ]
  refine wpAnyH_take (i := 6) (oi := ⟨some 16, _, _, _, _, _⟩) (v := .agg cs) rfl (by kernel_rfl) (by kernel_rfl) (by kernel_rfl) (fun _ _ _ h => h) (yields_row (by rfl) 32 _ rfl (w.heap.size) rfl 32 cs (0, 0) _ (fun w1 h1 => blk_below HG2.out h1) underl56 rfl (by rw [i33, HPC.out.1.size])) hW ?_
  try simp only [Act.put, List.setIfInBounds_toArray, List.set_cons_zero, List.set_cons_succ]
  refine wpAnyH_take (i := 7) (oi := ⟨some 17, _, _, _, _, _⟩) (v := .pointer (some ⟨w.heap.size, 0, none⟩)) rfl (by kernel_rfl) (by kernel_rfl) (by kernel_rfl) (fun _ _ _ h => h) (.inl ⟨by rfl, fun W1 h1 => by go_simp⟩) hW ?_
  try simp only [Act.put, List.setIfInBounds_toArray, List.set_cons_zero, List.set_cons_succ]
  refine wpAnyH_take (i := 8) (oi := ⟨some 18, _, _, _, _, _⟩) (v := .int .i64 x) rfl (by kernel_rfl) (by kernel_rfl) (by kernel_rfl) (fun _ _ _ h => h) (.inl ⟨by rfl, fun W1 h1 => by have h2 := (Below.cell (p := ⟨w.heap.size, 0, none⟩) h1 hg2).trans X0.out; clear h1; go_simp⟩) hW ?_
  try simp only [Act.put, List.setIfInBounds_toArray, List.set_cons_zero, List.set_cons_succ]
  refine wpAnyH_take (i := 9) (oi := ⟨some 19, _, _, _, _, _⟩) (v := .pointer (some ⟨w.heap.size, 1, none⟩)) rfl (by kernel_rfl) (by kernel_rfl) (by kernel_rfl) (fun _ _ _ h => h) (.inl ⟨by rfl, fun W1 h1 => by go_simp⟩) hW ?_
  try simp only [Act.put, List.setIfInBounds_toArray, List.set_cons_zero, List.set_cons_succ]
  refine wpAnyH_take (i := 10) (oi := ⟨some 20, _, _, _, _, _⟩) (v := .int .i64 bq) rfl (by kernel_rfl) (by kernel_rfl) (by kernel_rfl) (fun _ _ _ h => h) (.inl ⟨by rfl, fun W1 h1 => by have h2 := (Below.cell (p := ⟨w.heap.size, 1, none⟩) h1 hg2).trans X1.out; clear h1; go_simp⟩) hW ?_
  try simp only [Act.put, List.setIfInBounds_toArray, List.set_cons_zero, List.set_cons_succ]
  refine wpAnyH_take (i := 11) (oi := ⟨some 21, _, _, _, _, _⟩) (v := .slice A n c) rfl (by kernel_rfl) (by kernel_rfl) (by kernel_rfl) (fun _ _ _ h => h) (.inl ⟨by rfl, fun W1 h1 => by go_simp⟩) hW ?_
  try simp only [Act.put, List.setIfInBounds_toArray, List.set_cons_zero, List.set_cons_succ]
  refine wpAnyH_ready (rs := [12]) (by kernel_rfl) (by simp) (AllReadyH.cons rfl (fun K1 hK1 => ?_) AllReadyH.nil)
  go_simp
  refine (of_calls x bq A c n L _ (Kd.C_below (Kd.C_below HR.out.1 HB2.out) hW) HR.out.2.1 HR.out.2.2).mono ?_
  rintro e W4 ⟨he, hb⟩
  rw [HX.out.1, HX.out.2.1, HX.out.2.2.2, ← HPC.out.2.2.1] at he
  subst he
  refine hK1.out _ _ (hW.trans (hb.mono hW.size)) (fun hW => ?_)
  try simp only [Act.put, List.setIfInBounds_toArray, List.set_cons_zero, List.set_cons_succ]
  clear hb
  refine wpAnyH_take (i := 13) (oi := ⟨some 23, _, _, _, _, _⟩) (v := .bool false) rfl (by kernel_rfl) (by kernel_rfl) (by kernel_rfl) (fun _ _ _ h => h) (yields_neq32 (by rfl) (.tmp 16) (.tmp 22) 32 rfl p p HPC.out.2.2.2.len HPC.out.2.2.2.len cs cs HPC.out.2.2.1 HPC.out.2.2.1 rfl rfl false (by simp)) hW ?_
  try simp only [Act.put, List.setIfInBounds_toArray, List.set_cons_zero, List.set_cons_succ]
  refine wpAnyH_take (i := 14) (oi := ⟨some 24, _, _, _, _, _⟩) (v := .bool false) rfl (by kernel_rfl) (by kernel_rfl) (by kernel_rfl) (fun _ _ _ h => h) (.inl ⟨by rfl, fun W1 h1 => by go_simp⟩) hW ?_
  try simp only [Act.put, List.setIfInBounds_toArray, List.set_cons_zero, List.set_cons_succ]
  refine wpAnyH_take (i := 15) (oi := ⟨some 9, _, _, _, _, _⟩) (v := .bool false) rfl (by kernel_rfl) (by kernel_rfl) (by kernel_rfl) (fun _ _ _ h => h) (.inl ⟨by rfl, fun W1 h1 => by go_simp⟩) hW ?_
  try simp only [Act.put, List.setIfInBounds_toArray, List.set_cons_zero, List.set_cons_succ]
  refine wpAnyH_done (by kernel_rfl) ?_ _
  clear hK1 K1
  have HB5 := Aside0.mk (HB2.out.trans (hW.mono HB2.out.size))
  clear hW
  go_wp2
  rw [HP.out]
  exact ⟨rfl, HB5.out⟩
end Go.Proofs.YtchhdafgmifhdaaGreat.ChkK
namespace Go.Proofs.YtchhdafgmifhdaaGreat.BrdK
open Go.RowKit Go.Proofs.YtchhdafgmifhdaaGreat.B8 Go.Proofs.YtchhdafgmifhdaaGreat.Agg Go.Proofs.YtchhdafgmifhdaaGreat.CodL Go.Proofs.YtchhdafgmifhdaaGreat.CodA Go.Proofs.YtchhdafgmifhdaaGreat.CodB Go.Proofs.YtchhdafgmifhdaaGreat.CrcL Go.Proofs.YtchhdafgmifhdaaGreat.CrcA Go.Proofs.YtchhdafgmifhdaaGreat.CrcB Go.Proofs.YtchhdafgmifhdaaGreat.PVerifyForms Go.Proofs.YtchhdafgmifhdaaGreatW.PrintWords Go.Proofs.YtchhdafgmifhdaaGreatW.PrintLast Go.Proofs.YtchhdafgmifhdaaGreatW.PrintMore Go.Proofs.YtchhdafgmifhdaaGreat.CatL Go.Proofs.YtchhdafgmifhdaaGreat.PtrA Go.Proofs.YtchhdafgmifhdaaGreat.PtrB Go.Proofs.YtchhdafgmifhdaaGreat.PtrE Go.Proofs.YtchhdafgmifhdaaGreat.OfA Go.Proofs.YtchhdafgmifhdaaGreat.ExtA Go.Proofs.YtchhdafgmifhdaaGreat.DskA Go.Proofs.YtchhdafgmifhdaaGreat.DskB Go.Proofs.YtchhdafgmifhdaaGreat.DskC Go.Proofs.YtchhdafgmifhdaaGreat.BlkA Go.Proofs.YtchhdafgmifhdaaGreat.ShaK Go.Proofs.YtchhdafgmifhdaaGreat.ShaB Go.Proofs.YtchhdafgmifhdaaGreat.ShaD Go.Proofs.YtchhdafgmifhdaaGreat.BlkB Go.Proofs.YtchhdafgmifhdaaGreat.DskK Go.Proofs.YtchhdafgmifhdaaGreat.BlkK Go.Proofs.YtchhdafgmifhdaaGreat.ChkK
set_option linter.unusedVariables false
set_option linter.unusedSimpArgs false
/-- The sectors hold a block's bytes, and they are the pointer's. -/
structure Holds (rd : Int → List Int) (p : Ptr) (L : List Int) : Prop where
  of : ofP p.at_ p.birth L = p
  at_ : ∀ q : Nat, q < (L.length + 511) / 512 → rd (p.at_ + (q : Int)) = chunk L q
theorem Holds.len {rd : Int → List Int} {p : Ptr} {L : List Int} (h : Holds rd p L) : p.len = (L.length : Int) := by
  have := congrArg Ptr.len h.of
  exact this.symm
theorem Holds.ok {rd : Int → List Int} {p : Ptr} {L : List Int} (h : Holds rd p L) : Ok p := by
  rw [← h.of]
  exact ⟨by simp only [ofP]; omega, by have := CrcL.sumN_lt L; simp only [ofP]; omega, ShaE.shaL_len L, ShaE.shaL_byt L⟩
theorem putB_holds (rd : Int → List Int) (x b : Int) (L : List Int) : Holds (putB rd x L) (ofP x b L) L :=
  ⟨rfl, fun q hq => by
    show putK rd x L ((L.length + 511) / 512) (x + (q : Int)) = _
    unfold putK
    rw [if_pos (by omega), show (x + (q : Int) - x).toNat = q by omega]⟩
def outK (L : List Int) (k : Nat) : List Int := L.take (k * 512) ++ List.replicate (L.length - k * 512) 0
theorem outK_len (L : List Int) (k : Nat) : (outK L k).length = L.length := by simp [outK]; omega
theorem outK_zero (L : List Int) : outK L 0 = List.replicate L.length 0 := by simp [outK]
theorem outK_end (L : List Int) (k : Nat) (h : L.length ≤ k * 512) : outK L k = L := by
  unfold outK
  rw [List.take_of_length_le h, show L.length - k * 512 = 0 by omega]
  simp
theorem outK_step (L : List Int) (k : Nat) (h : k * 512 < L.length) (f : Int → Value) : splice ((outK L k).map f) (k * 512) (((L.drop (k * 512)).take 512).map f) = (outK L (k + 1)).map f := by
  have h1 : (L.take (k * 512)).length = k * 512 := by rw [List.length_take]; omega
  obtain ⟨M, hM⟩ : ∃ M, M = (L.drop (k * 512)).take 512 := ⟨_, rfl⟩
  have h2 : M.length = min 512 (L.length - k * 512) := by rw [hM, List.length_take, List.length_drop]
  have h3 : L.take ((k + 1) * 512) = L.take (k * 512) ++ M := by
    rw [show (k + 1) * 512 = k * 512 + 512 by omega, List.take_add, hM]
  rw [← hM]
  obtain ⟨T, hT⟩ : ∃ T, T = L.take (k * 512) := ⟨_, rfl⟩
  unfold splice outK
  rw [h3]
  rw [← hT] at h1 ⊢
  rw [← List.map_take, ← List.map_drop, List.length_map, ← List.map_append, ← List.map_append]
  congr 1
  rw [List.take_append_of_le_length (by omega), List.take_of_length_le (by omega), List.drop_append, h1, List.drop_of_length_le (by omega), List.nil_append, List.drop_replicate, List.append_assoc]
  congr 3
  omega
theorem made8 (n : Nat) : madeCells #[.int .u8 0] n = arr .u8 (List.replicate n 0) := by
  apply Array.toList_inj.1
  apply List.ext_getElem
  · simp [madeCells, arr]
  · intro i h1 h2
    simp [madeCells, arr, Nat.mod_one]
theorem chunk_news (L : List Int) (k : Nat) : (chunk L k).take (Nat.min 512 (L.length - k * 512)) = (L.drop (k * 512)).take 512 := by
  have h2 : ((L.drop (k * 512)).take 512).length = min 512 (L.length - k * 512) := by rw [List.length_take, List.length_drop]
  unfold chunk pad
  rw [List.take_append_of_le_length (by rw [h2]; exact Nat.le_refl _), List.take_of_length_le (by rw [h2]; exact Nat.le_refl _)]
theorem read21I (d m N lb : Nat) (rd : Int → List Int) (i : Int) (w : World) (hs : SV w d m N lb rd) (h0 : 0 ≤ i) (h1 : i < N) :
    Calls Tryz.prog 21 #[.pointer (some ⟨d, 0, none⟩), .int .i64 i] w (RdOut w (rd i)) := by
  obtain ⟨q, rfl⟩ := Int.eq_ofNat_of_zero_le h0
  exact read21K d m N lb rd q w hs (by omega)
def BRd (w : World) (L : List Int) (e : Ending) (w' : World) : Prop :=
  ∃ g, e = .returned (.tuple #[.slice (some ⟨g, 0, none⟩) L.length L.length, .int .i64 0]) ∧ w.heap.size ≤ g ∧ C8 w' (some ⟨g, 0, none⟩) L.length L ∧ Below w.heap.size w w'
set_option maxRecDepth 100000 in
set_option maxHeartbeats 8000000 in
theorem read91 (d m N lb : Nat) (rd : Int → List Int) (p : Ptr) (L : List Int) (w : World) (hs : SV w d m N lb rd) (hh : Holds rd p L) (hb : Byt L) (hR : Right p) (hN : p.at_ + sect p.len ≤ N) :
    Calls Tryz.prog 91 #[.pointer (some ⟨d, 0, none⟩), .agg (encP p)] w (BRd w L) := by
  obtain ⟨P, hP⟩ : ∃ P : Ending → World → Prop, P = BRd w L := ⟨_, rfl⟩
  rw [← hP]
  have HP := Aside0.mk hP
  clear hP
  have hbd := hR.bounds
  have hsb := sect_bound p.len
  obtain ⟨n, hn⟩ : ∃ n, n = L.length := ⟨_, rfl⟩
  have hln : p.len = (n : Int) := by rw [hh.len, hn]
  obtain ⟨s, hs0⟩ : ∃ s : Nat, (s : Int) = sect p.len := ⟨(sect p.len).toNat, by omega⟩
  have hsn : s = (n + 511) / 512 := by
    have : sect p.len = (p.len + 511) / 512 := by unfold sect; rw [if_neg (by omega)]
    omega
  obtain ⟨x, hx⟩ : ∃ x, x = p.at_ := ⟨_, rfl⟩
  have HX := Aside0.mk (And.intro hx (And.intro hn (And.intro hsn (And.intro hs0 (And.intro hln (show 0 ≤ x ∧ x + (s : Int) ≤ N ∧ x < 8192 ∧ 1 ≤ n ∧ n ≤ 65536 ∧ s ≤ 128 by rw [hs0, hx]; refine ⟨by omega, hN, by omega, by omega, by omega, by omega⟩))))))
  obtain ⟨cs, hcs⟩ : ∃ cs, cs = encP p := ⟨_, rfl⟩
  have hpc : PC cs p := by rw [hcs]; exact pc _ hh.ok.len
  have HPC := Aside0.mk (And.intro hpc (And.intro hcs (And.intro hR (And.intro (rightB_yes hR) hN))))
  have HH := Aside0.mk (And.intro hh hb)
  rw [← hcs]
  have b1 := below_alloc (Below.refl w.heap.size w) (.cells cs 32)
  have HB := Aside0.mk b1
  have HS := Aside0.mk hs
  have HG := Aside0.mk (blk_new w (.cells cs 32))
  have hlen : cs.size = 36 := hpc.size
  clear hs hh hb hR hN hbd hsb hn hln hs0 hsn hx hcs hpc b1
  go_enter Tryz.func91, Tryz.ntmps91
  go_wp2_with (refine wpList_load_row rfl 32 (.tmp 3) rfl w.heap.size rfl 32 cs (0, 0) _ HG.out underl56 rfl (by rw [i33, HPC.out.1.size]) ?_)
  generalize hW1 : w.alloc (.cells cs 32) = W1 at *
  clear hW1
  refine (check28 d N m cs p HPC.out.1 HPC.out.2.2.1 HPC.out.2.2.2.2 W1 (HS.out.below HB.out).db).mono ?_
  rintro e W2 ⟨rfl, hb2⟩
  have HB2 := Aside0.mk (HB.out.trans (hb2.mono HB.out.size))
  have HG2 := Aside0.mk (blk_below HG.out hb2)
  have x2 : W2.cell? ⟨w.heap.size, 2, none⟩ = some (.int .i64 (n : Int)) := by rw [cell_of_row _ _ 2 cs 32 (0, 0) HG2.out, ← HX.out.2.2.2.2.1]; exact HPC.out.1.c2
  have hmk := print_make (P := Tryz.prog) 36 5 .u8 1 Tryz.underlying36 B8.info5 (by decide) n (by have := HX.out; omega) W2
  rw [made8] at hmk
  have HO := Aside0.mk (blk_new W2 (.cells (arr .u8 (List.replicate n 0)) 5))
  have HG3 := Aside0.mk (blk_alloc HG2.out (.cells (arr .u8 (List.replicate n 0)) 5))
  have HB3 := Aside0.mk (show Below w.heap.size w (W2.alloc (.cells (arr .u8 (List.replicate n 0)) 5)) from HB2.out.trans ((below_alloc (Below.refl W2.heap.size W2) _).mono HB2.out.size))
  obtain ⟨g7, hg7⟩ : ∃ g7, g7 = W2.heap.size := ⟨_, rfl⟩
  have HGE := Aside0.mk (show w.heap.size ≤ g7 ∧ w.heap.size < g7 by rw [hg7]; exact ⟨HB2.out.size, blk_lt HG2.out⟩)
  obtain ⟨W3, hW3⟩ : ∃ W3, W3 = W2.alloc (.cells (arr .u8 (List.replicate n 0)) 5) := ⟨_, rfl⟩
  rw [← hW3, ← hg7] at hmk HO
  rw [← hW3] at HG3 HB3
  clear hb2 HB HG hW3 hg7
  go_wp2_with (refine wpList_load_row rfl 32 (.tmp 3) rfl w.heap.size rfl 32 cs (0, 0) _ HG3.out underl56 rfl (by rw [i33, HPC.out.1.size]) ?_)
  refine (sectors_calls cs p HPC.out.1 W3).mono ?_
  rintro e W4 ⟨he, hb4⟩
  rw [← HX.out.2.2.2.1] at he
  subst he
  have HB4 := Aside0.mk (HB3.out.trans (hb4.mono HB3.out.size))
  have HG4 := Aside0.mk (blk_below HG3.out hb4)
  have HO4 := Aside0.mk (show W4.heap[g7]? = some (.cells ((outK L 0).map (Value.int .u8)).toArray 5 (0, 0)) by
    rw [outK_zero, ← HX.out.2.1]
    exact blk_below HO.out hb4)
  clear hb4 HB3 HG3 HO x2 hmk HB2 HG2
  go_wp2_with fail
  go_loopw [22] (fun v22 wr => ∃ k : Nat, v22 = .int .i64 (k : Int) ∧ k ≤ s ∧ Aside0 (wr.heap[g7]? = some (.cells ((outK L k).map (Value.int .u8)).toArray 5 (0, 0)) ∧ wr.heap[w.heap.size]? = some (.cells cs 32 (0, 0)) ∧ Below w.heap.size w wr)) (fun v _ => s - (intOf v).toNat)
  case atStart => exact ⟨0, rfl, Nat.zero_le _, ⟨HO4.out, HG4.out, HB4.out⟩⟩
  case round =>
    obtain ⟨k, rfl, hks, HK⟩ := hrel
    clear HO4 HG4 HB4
    have hwk := HX.out
    obtain ⟨q1, q2, q3, q4, q5, q6, q7, q8, q9, q10, q11⟩ := hwk
    by_cases hk : k < s
    · have dk : decide ((k : Int) < (s : Int)) = true := decide_eq_true (by omega)
      have x0 : wr.cell? ⟨w.heap.size, 0, none⟩ = some (.int .i64 x) := by rw [cell_of_row _ _ 0 cs 32 (0, 0) HK.out.2.1, q1]; exact HPC.out.1.c0
      have hw4 : IntKind.i64.wrap (x + (k : Int)) = x + (k : Int) := i64_small (by omega) (by omega)
      have HKS := Aside0.mk hk
      clear q1 q2 q3 q4 q5
      go_wp2_with fail
      refine (read21I d m N lb rd (x + (k : Int)) wr (HS.out.below HK.out.2.2) (by omega) (by omega)).mono ?_
      rintro e W5 ⟨gb, rfl, hgb, hC, hb5⟩
      have hrd : rd (x + (k : Int)) = chunk L k := by rw [HX.out.1]; exact HH.out.1.at_ k (by have := HX.out.2.2.1; have := HX.out.2.1; omega)
      rw [hrd] at hC
      have HC := Aside0.mk hC
      have HO5 := Aside0.mk (blk_below HK.out.1 hb5)
      have HG5 := Aside0.mk (blk_below HK.out.2.1 hb5)
      have HB5 := Aside0.mk (HK.out.2.2.trans (hb5.mono HK.out.2.2.size))
      obtain ⟨lo, hlo⟩ : ∃ lo : Nat, lo = k * 512 := ⟨_, rfl⟩
      have hw1 : IntKind.i64.wrap ((k : Int) * 512) = (lo : Int) := by rw [i64_small (by omega) (by omega)]; omega
      have hlon : lo < n := by have := HX.out.2.2.1; omega
      have hcut : (Instr.slice 36 (.slice (some ⟨g7, 0, none⟩) n n) (some (.int .i64 (lo : Int))) none none).run Tryz.prog W5 = .ok (.slice (some ⟨g7, lo, none⟩) (n - lo) (n - lo)) W5 := by
        have := cut8_from (some ⟨g7, 0, none⟩) n n lo (by omega) W5
        rw [if_neg (by omega)] at this
        rw [this]
        simp only [Option.map_some]
        rw [add_at, Nat.zero_add]
      have HLO := Aside0.mk (And.intro hlo hlon)
      clear hrd hC hb5 hlo x0
      go_wp2_with (refine wpList_copy_splice (o := ⟨some 42, _, _, _, _, _⟩) rfl (.tmp 40) (.tmp 41) 36 36 rfl 5 Tryz.underlying36 i5 (some ⟨g7, lo, none⟩) (some ⟨gb, 0, none⟩) (n - lo) (n - lo) 512 512 rfl rfl g7 lo ((outK L k).map (Value.int .u8)) 5 HO5.out (((L.drop (k * 512)).take 512).map (Value.int .u8)) ?_ ?_ ?_ ?_ g7 W5 (Below.refl _ _) (Nat.le_refl _) ?_)
      case refine_1 =>
        rw [List.length_map, List.length_take, List.length_drop]
        have h1 := HLO.out
        have h2 := HX.out.2.1
        show _ = min 512 (n - lo)
        rw [h1.1, h2]
      case refine_2 =>
        intro h0 j v hv
        obtain ⟨ad, e, hc⟩ := C8_cells HC.out (by omega)
        injection e with e
        subst e
        rw [← List.map_drop, ← List.map_take, List.getElem?_map] at hv
        obtain ⟨y, hy, rfl⟩ := Option.map_eq_some_iff.1 hv
        rw [← chunk_news, List.getElem?_take] at hy
        split at hy
        · have := hc j (.int .u8 y) (by rw [List.getElem?_map, hy]; rfl)
          rwa [add_at, Nat.zero_add] at this
        · cases hy
      case refine_3 =>
        rw [List.length_map, List.length_map, outK_len, List.length_take, List.length_drop]
        have h1 := HLO.out
        have h2 := HX.out.2.1
        omega
      case refine_4 => intro v hv; obtain ⟨y, _, rfl⟩ := List.mem_map.1 hv; rfl
      intro w6 hsp hb6
      have HFIN := Aside0.mk (show w6.heap[g7]? = some (.cells ((outK L (k + 1)).map (Value.int .u8)).toArray 5 (0, 0)) ∧ w6.heap[w.heap.size]? = some (.cells cs 32 (0, 0)) ∧ Below w.heap.size w w6 by
        refine ⟨?_, (hb6.block _ HGE.out.2).trans HG5.out, HB5.out.trans (hb6.mono HGE.out.1)⟩
        have h1 := hsp.out
        have h2 := HLO.out
        have h3 := outK_step L k (by have := HX.out.2.1; omega) (Value.int .u8)
        rw [List.map_take, List.map_drop] at h3
        rw [h2.1, h3] at h1
        exact h1)
      clear hsp hb6
      go_wp2_with fail
      go_roundw
      case rel => exact ⟨k + 1, by go_num, by omega, HFIN⟩
      case measure => simp [intOf]; omega
    · have dk : decide ((k : Int) < (s : Int)) = false := decide_eq_false (by omega)
      have hks2 : k = s := by omega
      have HOL := Aside0.mk (show wr.heap[g7]? = some (.cells (arr .u8 L) 5 (0, 0)) by
        have h1 := HK.out.1
        rw [outK_end L k (by omega)] at h1
        exact h1)
      clear q1 q2 q3 q4 q5 hks2
      go_wp2_with (refine wpList_load_row rfl 32 (.tmp 3) rfl w.heap.size rfl 32 cs (0, 0) _ HK.out.2.1 underl56 rfl (by rw [i33, HPC.out.1.size]) ?_)
      have HCL := Aside0.mk (show C8 wr (some ⟨g7, 0, none⟩) n L by
        have h1 := C8_arr wr g7 L 5 HOL.out (by have := HX.out.2.1; omega)
        rw [← HX.out.2.1] at h1
        exact h1)
      rw [show (Value.agg cs) = Value.agg (encP p) by rw [HPC.out.2.1]]
      refine (check133 p (some ⟨g7, 0, none⟩) n n L wr HH.out.1.ok HPC.out.2.2.1 HX.out.2.2.2.2.1 HH.out.1.of HCL.out HH.out.2 (Nat.le_refl _)).mono ?_
      rintro e W8 ⟨rfl, hb8⟩
      have HF := Aside0.mk (show BRd w L (.returned (.tuple #[.slice (some ⟨g7, 0, none⟩) n n, .int .i64 0])) W8 from ⟨g7, by rw [← HX.out.2.1], HGE.out.1, by have := Kd.C_below HCL.out hb8; rw [HX.out.2.1] at this; exact this, HK.out.2.2.trans (hb8.mono HK.out.2.2.size)⟩)
      clear hb8
      go_wp2
      rw [HP.out]
      exact HF.out
end Go.Proofs.YtchhdafgmifhdaaGreat.BrdK
namespace Go.Proofs.YtchhdafgmifhdaaGreat.PolK
open Go.RowKit Go.Proofs.YtchhdafgmifhdaaGreat.B8 Go.Proofs.YtchhdafgmifhdaaGreat.Agg Go.Proofs.YtchhdafgmifhdaaGreat.CodL Go.Proofs.YtchhdafgmifhdaaGreat.CodA Go.Proofs.YtchhdafgmifhdaaGreat.CodB Go.Proofs.YtchhdafgmifhdaaGreat.CrcL Go.Proofs.YtchhdafgmifhdaaGreat.CrcA Go.Proofs.YtchhdafgmifhdaaGreat.CrcB Go.Proofs.YtchhdafgmifhdaaGreat.PVerifyForms Go.Proofs.YtchhdafgmifhdaaGreatW.PrintWords Go.Proofs.YtchhdafgmifhdaaGreatW.PrintLast Go.Proofs.YtchhdafgmifhdaaGreatW.PrintMore Go.Proofs.YtchhdafgmifhdaaGreat.CatL Go.Proofs.YtchhdafgmifhdaaGreat.PtrA Go.Proofs.YtchhdafgmifhdaaGreat.PtrB Go.Proofs.YtchhdafgmifhdaaGreat.PtrE Go.Proofs.YtchhdafgmifhdaaGreat.OfA Go.Proofs.YtchhdafgmifhdaaGreat.ExtL Go.Proofs.YtchhdafgmifhdaaGreat.ExtA Go.Proofs.YtchhdafgmifhdaaGreat.DskA Go.Proofs.YtchhdafgmifhdaaGreat.DskB Go.Proofs.YtchhdafgmifhdaaGreat.DskC Go.Proofs.YtchhdafgmifhdaaGreat.AlcA Go.Proofs.YtchhdafgmifhdaaGreat.AlcB Go.Proofs.YtchhdafgmifhdaaGreat.AlcC Go.Proofs.YtchhdafgmifhdaaGreat.AlcD Go.Proofs.YtchhdafgmifhdaaGreat.AlcE Go.Proofs.YtchhdafgmifhdaaGreat.AlcF Go.Proofs.YtchhdafgmifhdaaGreat.SpnA Go.Proofs.YtchhdafgmifhdaaGreat.BlkA Go.Proofs.YtchhdafgmifhdaaGreat.BlkB Go.Proofs.YtchhdafgmifhdaaGreat.PoolA Go.Proofs.YtchhdafgmifhdaaGreat.ShaK Go.Proofs.YtchhdafgmifhdaaGreat.ExtF Go.Proofs.YtchhdafgmifhdaaGreat.ExtG Go.Proofs.YtchhdafgmifhdaaGreat.ExtE Go.Proofs.YtchhdafgmifhdaaGreat.ExtD Go.Proofs.YtchhdafgmifhdaaGreat.PoolB Go.Proofs.YtchhdafgmifhdaaGreat.DskK Go.Proofs.YtchhdafgmifhdaaGreat.BlkK
set_option linter.unusedVariables false
set_option linter.unusedSimpArgs false
/-- A pool, and what its disk holds. -/
structure PV (W : World) (p d m lb a mw N : Nat) (fr tu rs : Int) (l : List Sp) (ep : Int) (kv : Value) (rd : Int → List Int) : Prop where
  po : PO W p d m a mw N fr tu rs l ep kv
  sv : SV W d m N lb rd
  lba : lb ≠ a
  lbp : lb ≠ p
section
variable {W W2 : World} {p d m lb a mw N : Nat} {fr tu rs : Int} {l l2 : List Sp} {ep : Int} {kv : Value} {rd rd2 : Int → List Int}
theorem PV.below (h : PV W p d m lb a mw N fr tu rs l ep kv rd) (hb : Below W.heap.size W W2) : PV W2 p d m lb a mw N fr tu rs l ep kv rd :=
  ⟨h.po.below hb, h.sv.below hb, h.lba, h.lbp⟩
theorem PV.da (h : PV W p d m lb a mw N fr tu rs l ep kv rd) : d ≠ a ∧ m ≠ a := by
  obtain ⟨A, n, c, was, ha, _⟩ := h.po.alc.blk
  obtain ⟨c2, hd, _⟩ := h.sv.blk
  obtain ⟨es, cl, hm, _⟩ := h.po.map
  exact ⟨by rintro rfl; rw [hd] at ha; simp at ha, by rintro rfl; rw [hm] at ha; cases ha⟩
theorem PV_alloc (h : PV W p d m lb a mw N fr tu rs l ep kv rd) (hk : Kept W W2 (fun k => k = a)) (h2 : AB W2 a mw fr tu rs l2) : PV W2 p d m lb a mw N fr tu rs l2 ep kv rd :=
  ⟨PO_alloc h.po hk h2, h.sv.kept hk h.da.1 h.da.2 h.lba, h.lba, h.lbp⟩
theorem PV_disk (h : PV W p d m lb a mw N fr tu rs l ep kv rd) (hk : Kept W W2 (fun k => k = m)) (h2 : SV W2 d m N lb rd2) : PV W2 p d m lb a mw N fr tu rs l ep kv rd2 :=
  ⟨PO_disk h.po hk h2.mi, h2, h.lba, h.lbp⟩
theorem PV_row (h : PV W p d m lb a mw N fr tu rs l ep kv rd) {g : Nat} {c0 : Array Value} (hg : W.heap[g]? = some (.cells c0 32 (0, 0))) (hl : ¬ lb = g) (cs : Array Value) : PV (W.setRow g cs) p d m lb a mw N fr tu rs l ep kv rd := by
  have hk : Kept W (W.setRow g cs) (fun k => k = g) := ⟨by simp, fun i hi hn => setRow_other _ _ _ _ hn⟩
  obtain ⟨c2, hd, _⟩ := h.sv.blk
  obtain ⟨es, cl, hm, _⟩ := h.po.map
  exact ⟨PO_row h.po hg cs, h.sv.kept hk (by rintro rfl; rw [hd] at hg; simp at hg) (by rintro rfl; rw [hm] at hg; cases hg) hl, h.lba, h.lbp⟩
theorem SV_row {W4 : World} {rd4 : Int → List Int} (h : SV W d m N lb rd) (h4 : SV W4 d m N lb rd4) (h0 : 0 < N) {g : Nat} (hg : W4.heap.size ≤ g) (cs : Array Value) : SV (W.setRow g cs) d m N lb rd := by
  have hk : Kept W (W.setRow g cs) (fun k => k = g) := ⟨by simp, fun i hi hn => setRow_other _ _ _ _ hn⟩
  have := SV_lts h4 h0
  exact h.kept hk (by omega) (by omega) (by omega)
end
set_option maxRecDepth 100000 in
set_option maxHeartbeats 8000000 in
theorem lay42K (p d m lb a mw N : Nat) (fr tu rs : Int) (l : List Sp) (ep : Int) (kv : Value) (A : Option Addr) (n c : Nat) (L : List Int) (rd : Int → List Int) (w : World) (h : PV w p d m lb a mw N fr tu rs l ep kv rd) (hN : 0 < N) (htu : fr < tu)
    (hr : ∀ W', Kept w W' (fun k => k = m ∨ k = a) → C8 W' A n L) (hb : Byt L) (hnc : n ≤ c) (hn1 : 1 ≤ n) (hn2 : n ≤ 65536) (he1 : 1 ≤ ep) (he2 : ep ≤ 1152921504606846976)
    (k : Nat) (hk : (k : Int) = sect (n : Int)) (f : Int) (hf : findI l (k : Int) = f) (hf2 : 2 ≤ f) (hf3 : f + k ≤ N) (hN8 : N ≤ 8192) (hrs : rs ≤ total l - k)
    (hv : VS (-1) (remS l (f, f + k))) (hln : (remS l (f, f + k)).length ≤ 10000) (ht : 0 ≤ total (remS l (f, f + k)) ∧ total (remS l (f, f + k)) ≤ 8192) :
    Calls Tryz.prog 42 #[.pointer (some ⟨p, 0, none⟩), .slice A n c] w (fun e w' => e = .returned (.tuple #[.agg (encP (ofP f ep L)), .int .i64 0]) ∧ KB w w' (fun k => k = m ∨ k = a) ∧ PV w' p d m lb a mw N fr tu rs (remS l (f, f + k)) ep kv (putB rd f L)) := by
  obtain ⟨P, hP⟩ : ∃ P : Ending → World → Prop, P = fun e w' => e = .returned (.tuple #[.agg (encP (ofP f ep L)), .int .i64 0]) ∧ KB w w' (fun k => k = m ∨ k = a) ∧ PV w' p d m lb a mw N fr tu rs (remS l (f, f + k)) ep kv (putB rd f L) := ⟨_, rfl⟩
  rw [← hP]
  have HP := Aside0.mk hP
  clear hP
  obtain ⟨z, hz, hz1, hal⟩ := zero33
  have HZS := Aside0.mk (And.intro hz hz1)
  have HAL := Aside0.mk hal
  have halw := hal w
  have hsb := sect_bound (n : Int)
  have hk1 : (1 : Int) ≤ k := by
    rw [hk]; unfold sect; rw [if_neg (by omega)]; omega
  have hkk : (k : Int) ≤ 128 := by
    rw [hk]; unfold sect; rw [if_neg (by omega)]; omega
  have hk0 : ((k : Int) == 0) = false := by rw [beq_eq_false_iff_ne]; omega
  have b1 := below_alloc (Below.refl w.heap.size w) (.cells z 32)
  have HB := Aside0.mk b1
  have H := Aside0.mk (h.below b1)
  have HZ := Aside0.mk (blk_new w (.cells z 32))
  have HD := Aside0.mk (And.intro hr (And.intro hb (And.intro hnc (And.intro he1 he2))))
  have HK := Aside0.mk hk
  have HF := Aside0.mk (And.intro hf (And.intro hf2 (And.intro hf3 (And.intro hN8 (And.intro hrs (And.intro hk1 hkk))))))
  have HV := Aside0.mk (And.intro hv (And.intro hln ht))
  have HNN := Aside0.mk (And.intro hN htu)
  have HLT := Aside0.mk (SV_lts h.sv hN)
  obtain ⟨r0, hr0⟩ : ∃ r, r = encP ⟨0, 0, (n : Int), 0, List.replicate 32 0⟩ := ⟨_, rfl⟩
  have HB0 := Aside0.mk (show Tryz.prog.built 32 [(2, .int .i64 (n : Int))] = some r0 by rw [built33c, hr0])
  have HR0 := Aside0.mk (show PC r0 ⟨0, 0, (n : Int), 0, List.replicate 32 0⟩ by rw [hr0]; exact pc _ (by simp))
  obtain ⟨r1, hr1⟩ : ∃ r, r = encP ⟨2, ep, (n : Int), 0, List.replicate 32 0⟩ := ⟨_, rfl⟩
  have HBV1 := Aside0.mk (show Tryz.prog.built 32 [(0, .int .i64 2), (1, .int .i64 ep), (2, .int .i64 (n : Int))] = some r1 by rw [built33b, hr1])
  have HR1 := Aside0.mk (show PC r1 ⟨2, ep, (n : Int), 0, List.replicate 32 0⟩ by rw [hr1]; exact pc _ (by simp))
  have HRR := Aside0.mk (show Right ⟨2, ep, (n : Int), 0, List.replicate 32 0⟩ by
    refine ⟨?_, ?_, ?_, ?_, ?_⟩ <;> simp only <;> omega)
  have HRT := Aside0.mk (rightB_yes HRR.out)
  have hfk : IntKind.i64.wrap (f + (k : Int)) = f + k := i64_small (by omega) (by omega)
  clear hal hz hz1 h hr hb hnc hk hf hf2 hf3 hv hln ht hN htu b1 hr0 hr1 hsb hrs hN8 he1 he2 hk1 hkk
  go_enter Tryz.func42, Tryz.ntmps42
  go_wp2_with fail
  generalize hW0 : w.alloc (.cells z 32) = W0 at *
  clear hW0
  refine (ready12 p d m a mw N fr tu rs l ep kv W0 H.out.po HNN.out.1 HNN.out.2).mono ?_
  rintro e W1 ⟨rfl, hb1⟩
  have HB1 := Aside0.mk (HB.out.trans (hb1.mono HB.out.size))
  have H1 := Aside0.mk (H.out.below hb1)
  have HZ1 := Aside0.mk (blk_below HZ.out hb1)
  clear hb1 HB H HZ halw
  go_wp2_with (refine wpList_build_of rfl 32 #[(2, .tmp 18)] rfl r0 ?hb ?_; (case hb => simp [Act.eval]; exact HB0.out))
  refine (sectors_calls r0 _ HR0.out W1).mono ?_
  rintro e W2 ⟨he, hb2⟩
  rw [show sect (Ptr.len ⟨0, 0, (n : Int), 0, List.replicate 32 0⟩) = (k : Int) from HK.out.symm] at he
  subst he
  have HB2 := Aside0.mk (HB1.out.trans (hb2.mono HB1.out.size))
  have H2 := Aside0.mk (H1.out.below hb2)
  have HZ2 := Aside0.mk (blk_below HZ1.out hb2)
  have q2 : W2.cell? ⟨p, 2, none⟩ = some (.int .i64 ep) := by rw [cell_of_row _ _ 2 _ 28 (0, 0) H2.out.po.blk]; rfl
  clear hb2 HB1 H1 HZ1
  go_wp2_with (refine gate_on (o := ⟨some 30, _, _, _, _, _⟩) (by rfl) ?_; dsimp only; refine wpList_build_of rfl 32 #[(0, .const (.int .i64 2)), (1, .tmp 27), (2, .tmp 29)] rfl r1 ?hb ?_; (case hb => simp [Act.eval]; exact HBV1.out))
  refine (right_calls r1 _ HR1.out W2).mono ?_
  rintro e W3 ⟨he, hb3⟩
  rw [HRT.out] at he
  subst he
  have HB3 := Aside0.mk (HB2.out.trans (hb3.mono HB2.out.size))
  have H3 := Aside0.mk (H2.out.below hb3)
  have HZ3 := Aside0.mk (blk_below HZ2.out hb3)
  clear hb3 HB2 H2 HZ2 q2
  go_wp2_with fail
  have C1 := Aside0.mk (show W3.cell? ⟨p, 1, none⟩ = some (.pointer (some ⟨a, 0, none⟩)) by rw [cell_of_row _ _ 1 _ 28 (0, 0) H3.out.po.blk]; rfl)
  have C3 := Aside0.mk (show W3.cell? ⟨p, 3, none⟩ = some (.bool false) by rw [cell_of_row _ _ 3 _ 28 (0, 0) H3.out.po.blk]; rfl)
  have HPA := Aside0.mk (show ¬ p = a from PO_pa H3.out.po)
  refine wp_region_held_drew (S := fun w' => KB W3 w' (fun k => k = a)) (by kernel_rfl) (KB.of_below (below_drew (Below.refl _ _)) _) (fun hW => ?_)
  have WDB := Aside0.mk (show Below W3.heap.size W3 W3.drew from below_drew (Below.refl _ _))
  generalize hWd : W3.drew = Wd at *
  clear hWd
  refine wpAnyH_take (i := 0) (oi := ⟨some 36, _, _, _, _, _⟩) (v := .pointer (some ⟨p, 0, none⟩)) rfl (by kernel_rfl) (by kernel_rfl) (by kernel_rfl) (fun _ _ _ h => h) (.inl ⟨by rfl, fun W1 h1 => by go_simp⟩) hW ?_
  try simp only [Act.put, List.setIfInBounds_toArray, List.set_cons_zero, List.set_cons_succ]
  refine wpAnyH_take (i := 1) (oi := ⟨some 37, _, _, _, _, _⟩) (v := .pointer (some ⟨p, 0, none⟩)) rfl (by kernel_rfl) (by kernel_rfl) (by kernel_rfl) (fun _ _ _ h => h) (.inl ⟨by rfl, fun W1 h1 => by go_simp⟩) hW ?_
  try simp only [Act.put, List.setIfInBounds_toArray, List.set_cons_zero, List.set_cons_succ]
  refine wpAnyH_take (i := 2) (oi := ⟨some 38, _, _, _, _, _⟩) (v := .pointer (some ⟨p, 1, none⟩)) rfl (by kernel_rfl) (by kernel_rfl) (by kernel_rfl) (fun _ _ _ h => h) (.inl ⟨by rfl, fun W1 h1 => by go_simp⟩) hW ?_
  try simp only [Act.put, List.setIfInBounds_toArray, List.set_cons_zero, List.set_cons_succ]
  refine wpAnyH_take (i := 3) (oi := ⟨some 39, _, _, _, _, _⟩) (v := .pointer (some ⟨a, 0, none⟩)) rfl (by kernel_rfl) (by kernel_rfl) (by kernel_rfl) (fun _ _ _ h => h) (.inl ⟨by rfl, fun W1 h1 => by have h2 := cell_kept C1.out h1.kept HPA.out; clear h1; go_simp⟩) hW ?_
  try simp only [Act.put, List.setIfInBounds_toArray, List.set_cons_zero, List.set_cons_succ]
  refine wpAnyH_take (i := 4) (oi := ⟨some 40, _, _, _, _, _⟩) (v := .int .i64 (k : Int)) rfl (by kernel_rfl) (by kernel_rfl) (by kernel_rfl) (fun _ _ _ h => h) (.inl ⟨by rfl, fun W1 h1 => by go_simp⟩) hW ?_
  try simp only [Act.put, List.setIfInBounds_toArray, List.set_cons_zero, List.set_cons_succ]
  refine wpAnyH_take (i := 5) (oi := ⟨some 41, _, _, _, _, _⟩) (v := .pointer (some ⟨p, 0, none⟩)) rfl (by kernel_rfl) (by kernel_rfl) (by kernel_rfl) (fun _ _ _ h => h) (.inl ⟨by rfl, fun W1 h1 => by go_simp⟩) hW ?_
  try simp only [Act.put, List.setIfInBounds_toArray, List.set_cons_zero, List.set_cons_succ]
  refine wpAnyH_take (i := 6) (oi := ⟨some 42, _, _, _, _, _⟩) (v := .pointer (some ⟨p, 0, none⟩)) rfl (by kernel_rfl) (by kernel_rfl) (by kernel_rfl) (fun _ _ _ h => h) (.inl ⟨by rfl, fun W1 h1 => by go_simp⟩) hW ?_
  try simp only [Act.put, List.setIfInBounds_toArray, List.set_cons_zero, List.set_cons_succ]
  refine wpAnyH_take (i := 7) (oi := ⟨some 43, _, _, _, _, _⟩) (v := .pointer (some ⟨p, 3, none⟩)) rfl (by kernel_rfl) (by kernel_rfl) (by kernel_rfl) (fun _ _ _ h => h) (.inl ⟨by rfl, fun W1 h1 => by go_simp⟩) hW ?_
  try simp only [Act.put, List.setIfInBounds_toArray, List.set_cons_zero, List.set_cons_succ]
  refine wpAnyH_take (i := 8) (oi := ⟨some 44, _, _, _, _, _⟩) (v := .bool false) rfl (by kernel_rfl) (by kernel_rfl) (by kernel_rfl) (fun _ _ _ h => h) (.inl ⟨by rfl, fun W1 h1 => by have h2 := cell_kept C3.out h1.kept HPA.out; clear h1; go_simp⟩) hW ?_
  try simp only [Act.put, List.setIfInBounds_toArray, List.set_cons_zero, List.set_cons_succ]
  refine wpAnyH_ready (rs := [9]) (by kernel_rfl) (by simp) (AllReadyH.cons rfl (fun K1 hK1 => ?_) AllReadyH.nil)
  go_simp
  have HAW := Aside0.mk (show AB Wd a mw fr tu rs l from H3.out.po.alc.below WDB.out)
  refine (take14 a mw fr tu rs k f l Wd HAW.out HF.out.2.2.2.2.2.1 (by have := HF.out.2.2.2.2.2.2; omega) HF.out.1 (by have := HF.out.2.1; omega) (by have := HF.out; omega) HF.out.2.2.2.2.1 HV.out.1 HV.out.2.1 HV.out.2.2).mono ?_
  rintro e W4 ⟨rfl, hkb4, hab4⟩
  refine hK1.out _ _ (hW.then_ hkb4 (fun k hk => .inl hk)) (fun hW => ?_)
  try simp only [Act.put, List.setIfInBounds_toArray, List.set_cons_zero, List.set_cons_succ]
  have HK4 := Aside0.mk (KB.of_below WDB.out (fun k => k = a) |>.then_ hkb4 (fun k hk => .inl hk))
  have HA4 := Aside0.mk hab4
  clear hkb4 hab4 HAW
  refine wpAnyH_take (i := 10) (oi := ⟨some 35, _, _, _, _, _⟩) (v := .tuple #[.int .i64 f, .int .i64 0]) rfl (by kernel_rfl) (by kernel_rfl) (by kernel_rfl) (fun _ _ _ h => h) (.inl ⟨by rfl, fun W1 h1 => by go_simp⟩) hW ?_
  try simp only [Act.put, List.setIfInBounds_toArray, List.set_cons_zero, List.set_cons_succ]
  refine wpAnyH_take (i := 11) (oi := ⟨some 46, _, _, _, _, _⟩) (v := .int .i64 f) rfl (by kernel_rfl) (by kernel_rfl) (by kernel_rfl) (fun _ _ _ h => h) (.inl ⟨by rfl, fun W1 h1 => by go_simp⟩) hW ?_
  try simp only [Act.put, List.setIfInBounds_toArray, List.set_cons_zero, List.set_cons_succ]
  refine wpAnyH_take (i := 12) (oi := ⟨some 47, _, _, _, _, _⟩) (v := .int .i64 0) rfl (by kernel_rfl) (by kernel_rfl) (by kernel_rfl) (fun _ _ _ h => h) (.inl ⟨by rfl, fun W1 h1 => by go_simp⟩) hW ?_
  try simp only [Act.put, List.setIfInBounds_toArray, List.set_cons_zero, List.set_cons_succ]
  refine wpAnyH_take (i := 13) (oi := ⟨some 8, _, _, _, _, _⟩) (v := .int .i64 f) rfl (by kernel_rfl) (by kernel_rfl) (by kernel_rfl) (fun _ _ _ h => h) (.inl ⟨by rfl, fun W1 h1 => by go_simp⟩) hW ?_
  try simp only [Act.put, List.setIfInBounds_toArray, List.set_cons_zero, List.set_cons_succ]
  refine wpAnyH_take (i := 14) (oi := ⟨some 9, _, _, _, _, _⟩) (v := .int .i64 0) rfl (by kernel_rfl) (by kernel_rfl) (by kernel_rfl) (fun _ _ _ h => h) (.inl ⟨by rfl, fun W1 h1 => by go_simp⟩) hW ?_
  try simp only [Act.put, List.setIfInBounds_toArray, List.set_cons_zero, List.set_cons_succ]
  refine wpAnyH_done (by kernel_rfl) ?_ _
  clear hK1 K1
  have hKB4 := HK4.out
  have H4 := Aside0.mk (PV_alloc H3.out hKB4.kept HA4.out)
  have HZ4 := Aside0.mk (show W4.heap[w.heap.size]? = some (.cells z 32 (0, 0)) from blk_kept HZ3.out hKB4.kept (by
    intro e
    obtain ⟨A0, n0, c0, was, ha, _⟩ := H3.out.po.alc.blk
    have e2 := HZ3.out
    rw [e, ha] at e2
    simp at e2))
  have HKW := Aside0.mk (show KB w W4 (fun k => k = m ∨ k = a) from (KB.of_below HB3.out _).then_ hKB4 (fun k hk => .inl (.inr hk)))
  clear hKB4 HK4 HA4 H3 HZ3 HB3 hW C1 C3
  go_wp2_with fail
  have C0 := Aside0.mk (show W4.cell? ⟨p, 0, none⟩ = some (.pointer (some ⟨d, 0, none⟩)) by rw [cell_of_row _ _ 0 _ 28 (0, 0) H4.out.po.blk]; rfl)
  have C2 := Aside0.mk (show W4.cell? ⟨p, 2, none⟩ = some (.int .i64 ep) by rw [cell_of_row _ _ 2 _ 28 (0, 0) H4.out.po.blk]; rfl)
  have HPM := Aside0.mk (PO_pm H4.out.po)
  have HZM := Aside0.mk (show ¬ w.heap.size = m by
    intro e
    obtain ⟨es, cl, h2, _⟩ := H4.out.po.map
    have e2 := HZ4.out
    rw [e, h2] at e2
    cases e2)
  have HDAT := Aside0.mk (show ∀ W', Kept W4 W' (fun k => k = m) → C8 W' A n L from Kd.C_kept_call HD.out.1 HKW.out.kept (fun k hk => .inl (.inl hk)))
  obtain ⟨r3, hr3⟩ : ∃ r, r = encP (ofP f ep L) := ⟨_, rfl⟩
  have HR3 := Aside0.mk (And.intro hr3 (And.intro (show r3.size = 36 by rw [hr3]; exact encP_size (ShaE.shaL_len L)) (show r3.all (·.oneCell') = true by rw [hr3]; exact encP_one _)))
  have HRW := Aside0.mk (show Right ⟨f, ep, (n : Int), 0, List.replicate 32 0⟩ by
    obtain ⟨a1, a2, a3, a4, a5⟩ := HRR.out
    have := HF.out
    have hk := HK.out
    refine ⟨a1, a2, a3, ?_, ?_⟩ <;> simp only at a3 a4 a5 ⊢ <;> omega)
  clear hr3
  refine wp_region_held_drew (S := fun w' => KB W4 w' (fun k => k = m) ∧ MI w' m) (by kernel_rfl) (⟨KB.of_below (below_drew (Below.refl _ _)) _, H4.out.po.map.below (below_drew (Below.refl _ _))⟩) (fun hW => ?_)
  have WDB := Aside0.mk (show Below W4.heap.size W4 W4.drew from below_drew (Below.refl _ _))
  generalize hWd : W4.drew = Wd at *
  clear hWd
  refine wpAnyH_take (i := 0) (oi := ⟨some 53, _, _, _, _, _⟩) (v := .pointer (some ⟨p, 0, none⟩)) rfl (by kernel_rfl) (by kernel_rfl) (by kernel_rfl) (fun _ _ _ h => h) (.inl ⟨by rfl, fun W1 h1 => by go_simp⟩) hW ?_
  try simp only [Act.put, List.setIfInBounds_toArray, List.set_cons_zero, List.set_cons_succ]
  refine wpAnyH_take (i := 1) (oi := ⟨some 54, _, _, _, _, _⟩) (v := .pointer (some ⟨p, 0, none⟩)) rfl (by kernel_rfl) (by kernel_rfl) (by kernel_rfl) (fun _ _ _ h => h) (.inl ⟨by rfl, fun W1 h1 => by go_simp⟩) hW ?_
  try simp only [Act.put, List.setIfInBounds_toArray, List.set_cons_zero, List.set_cons_succ]
  refine wpAnyH_take (i := 2) (oi := ⟨some 55, _, _, _, _, _⟩) (v := .pointer (some ⟨p, 0, none⟩)) rfl (by kernel_rfl) (by kernel_rfl) (by kernel_rfl) (fun _ _ _ h => h) (.inl ⟨by rfl, fun W1 h1 => by go_simp⟩) hW ?_
  try simp only [Act.put, List.setIfInBounds_toArray, List.set_cons_zero, List.set_cons_succ]
  refine wpAnyH_take (i := 3) (oi := ⟨some 56, _, _, _, _, _⟩) (v := .pointer (some ⟨d, 0, none⟩)) rfl (by kernel_rfl) (by kernel_rfl) (by kernel_rfl) (fun _ _ _ h => h) (.inl ⟨by rfl, fun W1 h1 => by have h2 := cell_kept C0.out h1.1.kept HPM.out; clear h1; go_simp⟩) hW ?_
  try simp only [Act.put, List.setIfInBounds_toArray, List.set_cons_zero, List.set_cons_succ]
  refine wpAnyH_take (i := 4) (oi := ⟨some 57, _, _, _, _, _⟩) (v := .int .i64 f) rfl (by kernel_rfl) (by kernel_rfl) (by kernel_rfl) (fun _ _ _ h => h) (.inl ⟨by rfl, fun W1 h1 => by go_simp⟩) hW ?_
  try simp only [Act.put, List.setIfInBounds_toArray, List.set_cons_zero, List.set_cons_succ]
  refine wpAnyH_take (i := 5) (oi := ⟨some 58, _, _, _, _, _⟩) (v := .pointer (some ⟨p, 0, none⟩)) rfl (by kernel_rfl) (by kernel_rfl) (by kernel_rfl) (fun _ _ _ h => h) (.inl ⟨by rfl, fun W1 h1 => by go_simp⟩) hW ?_
  try simp only [Act.put, List.setIfInBounds_toArray, List.set_cons_zero, List.set_cons_succ]
  refine wpAnyH_take (i := 6) (oi := ⟨some 59, _, _, _, _, _⟩) (v := .pointer (some ⟨p, 0, none⟩)) rfl (by kernel_rfl) (by kernel_rfl) (by kernel_rfl) (fun _ _ _ h => h) (.inl ⟨by rfl, fun W1 h1 => by go_simp⟩) hW ?_
  try simp only [Act.put, List.setIfInBounds_toArray, List.set_cons_zero, List.set_cons_succ]
  refine wpAnyH_take (i := 7) (oi := ⟨some 60, _, _, _, _, _⟩) (v := .pointer (some ⟨p, 2, none⟩)) rfl (by kernel_rfl) (by kernel_rfl) (by kernel_rfl) (fun _ _ _ h => h) (.inl ⟨by rfl, fun W1 h1 => by go_simp⟩) hW ?_
  try simp only [Act.put, List.setIfInBounds_toArray, List.set_cons_zero, List.set_cons_succ]
  refine wpAnyH_take (i := 8) (oi := ⟨some 61, _, _, _, _, _⟩) (v := .int .i64 ep) rfl (by kernel_rfl) (by kernel_rfl) (by kernel_rfl) (fun _ _ _ h => h) (.inl ⟨by rfl, fun W1 h1 => by have h2 := cell_kept C2.out h1.1.kept HPM.out; clear h1; go_simp⟩) hW ?_
  try simp only [Act.put, List.setIfInBounds_toArray, List.set_cons_zero, List.set_cons_succ]
  refine wpAnyH_take (i := 9) (oi := ⟨some 62, _, _, _, _, _⟩) (v := .slice A n c) rfl (by kernel_rfl) (by kernel_rfl) (by kernel_rfl) (fun _ _ _ h => h) (.inl ⟨by rfl, fun W1 h1 => by go_simp⟩) hW ?_
  try simp only [Act.put, List.setIfInBounds_toArray, List.set_cons_zero, List.set_cons_succ]
  refine wpAnyH_ready (rs := [10, 14]) (by kernel_rfl) (by simp) (AllReadyH.cons rfl (fun K1 hK1 => ?_) (AllReadyH.cons rfl (fun K2 hK2 => ?_) AllReadyH.nil))
  · go_simp
    refine (write83K d N m lb rd f ep A c n L Wd (H4.out.sv.below WDB.out) (Kd.C_kept_step HDAT.out (Kept.of_below WDB.out _)) HD.out.2.1 HD.out.2.2.1 HRW.out (by rw [← HK.out]; exact HF.out.2.2.1)).mono ?_
    rintro e W6 ⟨he, hkb6, hs6⟩
    have hm6 := hs6.mi
    have HS6 := Aside0.mk hs6
    rw [← HR3.out.1] at he
    subst he
    have hal6 := HAL.out W6
    refine hK1.out _ _ (⟨hW.1.then_ hkb6 (fun k hk => .inl hk), hm6⟩) (fun hW => ?_)
    try simp only [Act.put, List.setIfInBounds_toArray, List.set_cons_zero, List.set_cons_succ]
    refine wpAnyH_take (i := 11) (oi := ⟨some 52, _, _, _, _, _⟩) (v := .tuple #[.agg r3, .int .i64 0]) rfl (by kernel_rfl) (by kernel_rfl) (by kernel_rfl) (fun _ _ _ h => h) (.inl ⟨by rfl, fun W1 h1 => by go_simp⟩) hW ?_
    try simp only [Act.put, List.setIfInBounds_toArray, List.set_cons_zero, List.set_cons_succ]
    refine wpAnyH_take (i := 12) (oi := ⟨some 64, _, _, _, _, _⟩) (v := .agg r3) rfl (by kernel_rfl) (by kernel_rfl) (by kernel_rfl) (fun _ _ _ h => h) (.inl ⟨by rfl, fun W1 h1 => by go_simp⟩) hW ?_
    try simp only [Act.put, List.setIfInBounds_toArray, List.set_cons_zero, List.set_cons_succ]
    refine wpAnyH_take (i := 13) (oi := ⟨some 65, _, _, _, _, _⟩) (v := .int .i64 0) rfl (by kernel_rfl) (by kernel_rfl) (by kernel_rfl) (fun _ _ _ h => h) (.inl ⟨by rfl, fun W1 h1 => by go_simp⟩) hW ?_
    try simp only [Act.put, List.setIfInBounds_toArray, List.set_cons_zero, List.set_cons_succ]
    refine wpAnyH_ready (rs := [14]) (by kernel_rfl) (by simp) (AllReadyH.cons rfl (fun K3 hK3 => ?_) AllReadyH.nil)
    go_simp
    have HGZ := Aside0.mk (blk_new W6 (.cells z 32))
    refine hK3.out _ _ (⟨hW.1.below (below_alloc (Below.refl _ _) _), hW.2.below (below_alloc (Below.refl _ _) _)⟩) (fun hW => ?_)
    try simp only [Act.put, List.setIfInBounds_toArray, List.set_cons_zero, List.set_cons_succ]
    obtain ⟨W7, hW7⟩ : ∃ W7, W7 = W6.alloc (.cells z 32) := ⟨_, rfl⟩
    have HS7 := Aside0.mk (show SV W7 d m N lb (putB rd f L) by rw [hW7]; exact HS6.out.below (below_alloc (Below.refl _ _) _))
    rw [← hW7] at HGZ hW ⊢
    clear hW7
    obtain ⟨g, hg⟩ : ∃ g, g = W6.heap.size := ⟨_, rfl⟩
    have HGW := Aside0.mk (show W4.heap.size ≤ g by rw [hg]; exact Nat.le_trans WDB.out.size hkb6.kept.1)
    rw [← hg] at HGZ ⊢
    clear hg hkb6 hm6 hs6 hal6
    refine wpAnyH_ready (rs := [15]) (by kernel_rfl) (by simp) (AllReadyH.cons rfl (fun K4 hK4 => ?_) AllReadyH.nil)
    refine wp_store_row (o := ⟨none, _, _, _, _, _⟩) 32 (.tmp 10) (.tmp 64) rfl g r3 rfl rfl 32 z HGZ.out (by rw [i33, HR3.out.2.1]) (by rw [HR3.out.2.1, HZS.out.1]) HR3.out.2.2 ?_
    refine hK4.out _ _ (⟨KB_setRow hW.1 HGW.out r3, MI_setRow hW.2 (by have h1 := HGW.out; obtain ⟨es, cl, h2, _⟩ := H4.out.po.map; have := blk_lt h2; omega) r3⟩) (fun hW => ?_)
    try simp only [Act.put, List.setIfInBounds_toArray, List.set_cons_zero, List.set_cons_succ]
    have HGR := Aside0.mk (setRow_heap _ g z r3 32 _ HGZ.out)
    obtain ⟨W8, hW8⟩ : ∃ W8, W8 = W7.setRow g r3 := ⟨_, rfl⟩
    have HS8 := Aside0.mk (show SV W8 d m N lb (putB rd f L) by rw [hW8]; exact SV_row HS7.out (H4.out.sv) HNN.out.1 HGW.out r3)
    rw [← hW8] at HGR hW ⊢
    clear hW8
    refine wpAnyH_take (i := 16) (oi := ⟨some 9, _, _, _, _, _⟩) (v := .int .i64 0) rfl (by kernel_rfl) (by kernel_rfl) (by kernel_rfl) (fun _ _ _ h => h) (.inl ⟨by rfl, fun W1 h1 => by go_simp⟩) hW ?_
    try simp only [Act.put, List.setIfInBounds_toArray, List.set_cons_zero, List.set_cons_succ]
    refine wpAnyH_done (by kernel_rfl) ?_ _
    clear hK1 hK3 hK4 K1 K3 K4
    have H8 := Aside0.mk (PV_disk H4.out hW.1.kept HS8.out)
    have HZ8 := Aside0.mk (show W8.heap[w.heap.size]? = some (.cells z 32 (0, 0)) from blk_kept HZ4.out hW.1.kept HZM.out)
    have HK8 := Aside0.mk (show KB w W8 (fun k => k = m ∨ k = a) from HKW.out.then_ hW.1 (fun k hk => .inl (.inl hk)))
    clear hW
    go_wp2_with (first | (refine wpList_load_row rfl 32 (.tmp 10) rfl g rfl 32 r3 (0, 0) _ HGR.out underl56 rfl (by rw [i33, HR3.out.2.1]) ?_) | (refine wpList_store_row rfl 32 (.tmp 4) (.tmp 78) rfl w.heap.size r3 rfl rfl 32 z HZ8.out (by rw [i33, HR3.out.2.1]) (by rw [HR3.out.2.1, HZS.out.1]) HR3.out.2.2 ?_))
    refine bodyPost_ret (res_ct (p := 4) (q := 5) _ rfl rfl (setRow_heap _ w.heap.size z r3 32 _ HZ8.out) Tryz.underlying32 rfl (by rw [i33, HR3.out.2.1])) rfl ?_
    rw [HP.out]
    exact ⟨by rw [HR3.out.1]; rfl, KB_setRow HK8.out (Nat.le_refl _) _, PV_row H8.out HZ8.out (by have := HLT.out; omega) _⟩
  · have halD := HAL.out Wd
    go_simp
    have HGZ0 := Aside0.mk (blk_new Wd (.cells z 32))
    refine hK2.out _ _ (⟨hW.1.below (below_alloc (Below.refl _ _) _), hW.2.below (below_alloc (Below.refl _ _) _)⟩) (fun hW => ?_)
    try simp only [Act.put, List.setIfInBounds_toArray, List.set_cons_zero, List.set_cons_succ]
    have WDB2 := Aside0.mk (show Below W4.heap.size W4 (Wd.alloc (.cells z 32)) from below_alloc WDB.out _)
    obtain ⟨Wa, hWa⟩ : ∃ Wa, Wa = Wd.alloc (.cells z 32) := ⟨_, rfl⟩
    rw [← hWa] at HGZ0 hW WDB2 ⊢
    clear hWa halD
    obtain ⟨g, hg⟩ : ∃ g, g = Wd.heap.size := ⟨_, rfl⟩
    have HGW := Aside0.mk (show W4.heap.size ≤ g by rw [hg]; exact WDB.out.size)
    rw [← hg] at HGZ0 ⊢
    clear hg
    refine wpAnyH_ready (rs := [10]) (by kernel_rfl) (by simp) (AllReadyH.cons rfl (fun K3 hK3 => ?_) AllReadyH.nil)
    go_simp
    refine (write83K d N m lb rd f ep A c n L Wa (H4.out.sv.below WDB2.out) (Kd.C_kept_step HDAT.out (Kept.of_below WDB2.out _)) HD.out.2.1 HD.out.2.2.1 HRW.out (by rw [← HK.out]; exact HF.out.2.2.1)).mono ?_
    rintro e W7 ⟨he, hkb6, hs6⟩
    have hm6 := hs6.mi
    have HS7 := Aside0.mk hs6
    rw [← HR3.out.1] at he
    subst he
    have hmg : ¬ g = m := by
      have h1 := HGW.out
      obtain ⟨es, cl, h2, _⟩ := H4.out.po.map
      have := blk_lt h2
      omega
    have HGZ := Aside0.mk (blk_kept HGZ0.out hkb6.kept hmg)
    refine hK3.out _ _ (⟨hW.1.then_ hkb6 (fun k hk => .inl hk), hm6⟩) (fun hW => ?_)
    try simp only [Act.put, List.setIfInBounds_toArray, List.set_cons_zero, List.set_cons_succ]
    clear hkb6 hm6 hs6 hmg HGZ0 WDB2
    refine wpAnyH_take (i := 11) (oi := ⟨some 52, _, _, _, _, _⟩) (v := .tuple #[.agg r3, .int .i64 0]) rfl (by kernel_rfl) (by kernel_rfl) (by kernel_rfl) (fun _ _ _ h => h) (.inl ⟨by rfl, fun W1 h1 => by go_simp⟩) hW ?_
    try simp only [Act.put, List.setIfInBounds_toArray, List.set_cons_zero, List.set_cons_succ]
    refine wpAnyH_take (i := 12) (oi := ⟨some 64, _, _, _, _, _⟩) (v := .agg r3) rfl (by kernel_rfl) (by kernel_rfl) (by kernel_rfl) (fun _ _ _ h => h) (.inl ⟨by rfl, fun W1 h1 => by go_simp⟩) hW ?_
    try simp only [Act.put, List.setIfInBounds_toArray, List.set_cons_zero, List.set_cons_succ]
    refine wpAnyH_take (i := 13) (oi := ⟨some 65, _, _, _, _, _⟩) (v := .int .i64 0) rfl (by kernel_rfl) (by kernel_rfl) (by kernel_rfl) (fun _ _ _ h => h) (.inl ⟨by rfl, fun W1 h1 => by go_simp⟩) hW ?_
    try simp only [Act.put, List.setIfInBounds_toArray, List.set_cons_zero, List.set_cons_succ]
    refine wpAnyH_ready (rs := [15]) (by kernel_rfl) (by simp) (AllReadyH.cons rfl (fun K4 hK4 => ?_) AllReadyH.nil)
    refine wp_store_row (o := ⟨none, _, _, _, _, _⟩) 32 (.tmp 10) (.tmp 64) rfl g r3 rfl rfl 32 z HGZ.out (by rw [i33, HR3.out.2.1]) (by rw [HR3.out.2.1, HZS.out.1]) HR3.out.2.2 ?_
    refine hK4.out _ _ (⟨KB_setRow hW.1 HGW.out r3, MI_setRow hW.2 (by have h1 := HGW.out; obtain ⟨es, cl, h2, _⟩ := H4.out.po.map; have := blk_lt h2; omega) r3⟩) (fun hW => ?_)
    try simp only [Act.put, List.setIfInBounds_toArray, List.set_cons_zero, List.set_cons_succ]
    have HGR := Aside0.mk (setRow_heap _ g z r3 32 _ HGZ.out)
    obtain ⟨W8, hW8⟩ : ∃ W8, W8 = W7.setRow g r3 := ⟨_, rfl⟩
    have HS8 := Aside0.mk (show SV W8 d m N lb (putB rd f L) by rw [hW8]; exact SV_row HS7.out (H4.out.sv) HNN.out.1 HGW.out r3)
    rw [← hW8] at HGR hW ⊢
    clear hW8
    refine wpAnyH_take (i := 16) (oi := ⟨some 9, _, _, _, _, _⟩) (v := .int .i64 0) rfl (by kernel_rfl) (by kernel_rfl) (by kernel_rfl) (fun _ _ _ h => h) (.inl ⟨by rfl, fun W1 h1 => by go_simp⟩) hW ?_
    try simp only [Act.put, List.setIfInBounds_toArray, List.set_cons_zero, List.set_cons_succ]
    refine wpAnyH_done (by kernel_rfl) ?_ _
    clear hK2 hK3 hK4 K2 K3 K4
    have H8 := Aside0.mk (PV_disk H4.out hW.1.kept HS8.out)
    have HZ8 := Aside0.mk (show W8.heap[w.heap.size]? = some (.cells z 32 (0, 0)) from blk_kept HZ4.out hW.1.kept HZM.out)
    have HK8 := Aside0.mk (show KB w W8 (fun k => k = m ∨ k = a) from HKW.out.then_ hW.1 (fun k hk => .inl (.inl hk)))
    clear hW
    go_wp2_with (first | (refine wpList_load_row rfl 32 (.tmp 10) rfl g rfl 32 r3 (0, 0) _ HGR.out underl56 rfl (by rw [i33, HR3.out.2.1]) ?_) | (refine wpList_store_row rfl 32 (.tmp 4) (.tmp 78) rfl w.heap.size r3 rfl rfl 32 z HZ8.out (by rw [i33, HR3.out.2.1]) (by rw [HR3.out.2.1, HZS.out.1]) HR3.out.2.2 ?_))
    refine bodyPost_ret (res_ct (p := 4) (q := 5) _ rfl rfl (setRow_heap _ w.heap.size z r3 32 _ HZ8.out) Tryz.underlying32 rfl (by rw [i33, HR3.out.2.1])) rfl ?_
    rw [HP.out]
    exact ⟨by rw [HR3.out.1]; rfl, KB_setRow HK8.out (Nat.le_refl _) _, PV_row H8.out HZ8.out (by have := HLT.out; omega) _⟩


end Go.Proofs.YtchhdafgmifhdaaGreat.PolK
/-
  DERIVED: THE SHELF's CONTRACTS AT THIS DUMP, IN PLAIN WORDS (tools/lay-plain.mjs out of 'TryzShelf.lean', which tools/lay-shelf.mjs wrote): THE SAME DECLARATIONS UNDER THE SAME NAMES: 'import', 'namespace', 'open', 'def', 'theorem' AND NOTHING ELSE: no command of the shelf's: FOR A HAND-IN. Each laying: the table of numbers ('.._ren') and one theorem, a field a fact of the dump's own or the kernel's comparison; each contract: ONE APPLICATION.
-/
namespace Go.Proofs
open Go.Shelf
def Tryz.lays129_ren : Go.Shelf.Ren := ⟨fun | 129 => 157 | n => n, fun | 53 => 197 | 3 => 3 | 4 => 4 | 46 => 216 | 5 => 5 | 9 => 9 | n => n, fun | n => n⟩
theorem Tryz.lays129 : Go.Proofs.Lays.n129 Tryz.prog Tryz.lays129_ren := {
  mixed := by kernel_rfl
  f129 := Tryz.func157.trans (congrArg some (by kernel_rfl))
  t3 := Tryz.underlying3
  a3 := Tryz.isAgg3
  z3 := Tryz.sizeOf3
  v3 := Tryz.zeroValue3
  t4 := Tryz.underlying4
  a4 := Tryz.isAgg4
  z4 := Tryz.sizeOf4
  v4 := Tryz.zeroValue4
  t5 := Tryz.underlying5
  a5 := Tryz.isAgg5
  z5 := Tryz.sizeOf5
  v5 := Tryz.zeroValue5
  t9 := Tryz.underlying9
  a9 := Tryz.isAgg9
  z9 := Tryz.sizeOf9
  v9 := Tryz.zeroValue9
  t46 := Tryz.underlying216
  a46 := Tryz.isAgg216
  z46 := Tryz.sizeOf216
  v46 := Tryz.zeroValue216
  t53 := Tryz.underlying197
  a53 := Tryz.isAgg197
  z53 := Tryz.sizeOf197
  v53 := Tryz.zeroValue197 }
/-- bits.Len64: "Len64 returns the minimum number of bits required to represent x; the result is 0 for x == 0.": IT RETURNS 'Lib.bitLen x'; the world is as it was. ('h0', 'h1': x is a uint64.) (LAID: no walk: one application.) -/
theorem Tryz.bits_Len64 (x : Int) (w : World) (h0 : 0 ≤ x) (h1 : x ≤ 18446744073709551615) :
    Calls Tryz.prog 157 #[.int .u64 x] w fun e w' => e = .returned (.int .i64 (Lib.bitLen x.toNat)) ∧ w' = w := Any.bits_Len64 Tryz.lays129 x w h0 h1
def Tryz.lays115_ren : Go.Shelf.Ren := ⟨fun | 115 => 138 | n => n, fun | 37 => 36 | 4 => 4 | 9 => 9 | 5 => 5 | n => n, fun | n => n⟩
theorem Tryz.lays115 : Go.Proofs.Lays.n115 Tryz.prog Tryz.lays115_ren := {
  mixed := by kernel_rfl
  f115 := Tryz.func138.trans (congrArg some (by kernel_rfl))
  t4 := Tryz.underlying4
  a4 := Tryz.isAgg4
  z4 := Tryz.sizeOf4
  v4 := Tryz.zeroValue4
  t9 := Tryz.underlying9
  a9 := Tryz.isAgg9
  z9 := Tryz.sizeOf9
  v9 := Tryz.zeroValue9
  t37 := Tryz.underlying36
  a37 := Tryz.isAgg36
  z37 := Tryz.sizeOf36
  v37 := Tryz.zeroValue36 }
open Go.Proofs Go.RowKit Go.Lib in
/-- bytes.Equal, each argument with what 'string(..)' of it gives. (LAID: no walk: one application.) -/
theorem Tryz.bytes_Equal_strs (v1 v2 : Value) (t1 t2 : ByteArray) (w : World) (h1 : (convert 36 9 v1).run Tryz.prog w = .ok (.string t1) w) (h2 : (convert 36 9 v2).run Tryz.prog w = .ok (.string t2) w) :
    Calls Tryz.prog 138 #[v1, v2] w fun e w' => e = .returned (.bool (t1.toList == t2.toList)) ∧ w' = w := Any.bytes_Equal_strs Tryz.lays115 v1 v2 t1 t2 w h1 h2
end Go.Proofs
