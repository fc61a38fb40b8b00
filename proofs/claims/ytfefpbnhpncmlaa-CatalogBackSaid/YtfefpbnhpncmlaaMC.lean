/- Own texts, one behind the other: CatK CatM CatN CatO CatR CatT CatU CatW CatV CatX CatY CatZ. -/
import Derived.Test.YtfefpbnhpncmlaaMB
import Derived.Test.YtfefpbnhpncmlaaMA
import Derived.Lib.SlBytesConst
import Derived.Test.YtfefpbnhpncmlaaOpens
/- Pointers in a row; RightValue: contracts. -/
namespace Go.Proofs.Ytfefpbnhpncmlaa.CatK
open Go.RowKit Go.Proofs.Ytfefpbnhpncmlaa.PtrB Go.Proofs.Ytfefpbnhpncmlaa.Agg Go.Proofs.Ytfefpbnhpncmlaa.B8 Go.Proofs.Ytfefpbnhpncmlaa.CodL Go.Proofs.Ytfefpbnhpncmlaa.CodA Go.Proofs.Ytfefpbnhpncmlaa.CodB Go.Proofs.Ytfefpbnhpncmlaa.CatL Go.Proofs.Ytfefpbnhpncmlaa.PtrA Go.Proofs.Ytfefpbnhpncmlaa.PtrE Go.Proofs.Ytfefpbnhpncmlaa.PtrF Go.Proofs.Ytfefpbnhpncmlaa.PBaseSigns Go.Proofs.YtfefpbnhpncmlaaW.PrintWords Go.Proofs.YtfefpbnhpncmlaaW.PrintLast Go.Proofs.YtfefpbnhpncmlaaW.PrintMore
set_option linter.unusedVariables false
set_option linter.unusedSimpArgs false

theorem enc_len {p : Ptr} (h : Ok p) : (encP p).toList.length = 36 := by rw [Array.length_toList, encP_size h.len]
theorem enc_one (p : Ptr) : ∀ u ∈ (encP p).toList, u.oneCell' = true := fun u hu => (Array.all_eq_true_iff_forall_mem.1 (PtrJ.a_enc p)) u (by simpa using hu)
/-- A pointer, as a kind. -/
def kP : Kd Ptr where
  sz := 36
  E := []
  K := fun _ p cs => cs = (encP p).toList ∧ Ok p
  M := fun _ _ _ p cs => cs = (encP p).toList ∧ Ok p
  K_len := fun h => by rw [h.1]; exact enc_len h.2
  K_one := fun h u hu => by rw [h.1] at hu; exact enc_one _ u hu
  K_below := fun _ h => h
  K_of_M := fun h => h
  M_mono := fun _ h => h
  M_bound := fun h => h
  M_move := fun _ h => h
  M_lower := fun _ h => h

theorem CP_ok {w : World} {A : Option Addr} {n : Nat} {l : List Ptr} (h : Kd.C kP w A n l) : ∀ p ∈ l, Ok p := by
  intro p hp
  obtain ⟨i, hi, rfl⟩ := List.getElem_of_mem hp
  obtain ⟨ad, c, rfl, _, hk, _⟩ := Kd.C_get h zeroP (i : Int) (by omega) (by have := h.1; omega)
  have := hk.2
  simpa [List.getD, hi] using this
/-- Where a row of pointers lies. -/
theorem CP_at {w : World} {A : Option Addr} {n : Nat} {l : List Ptr} (h : Kd.C kP w A n l) (h0 : 0 < n) :
    ∃ b off, A = some ⟨b, off, none⟩ ∧ b < w.heap.size ∧ ∀ i, i < n → Ok (l.getD i zeroP) ∧ w.rangeAt b (off + i * 36) (encP (l.getD i zeroP)).toList := by
  have each : ∀ i, i < n → ∃ ad, A = some ad ∧ Ok (l.getD i zeroP) ∧ ∀ j u, (encP (l.getD i zeroP)).toList[j]? = some u → w.cell? (ad.add (i * 36 + j)) = some u := by
    intro i hi
    obtain ⟨ad, c, e, _, hk, hj⟩ := Kd.C_get h zeroP (i : Int) (by omega) (by omega)
    rw [Int.toNat_natCast] at hk hj
    obtain ⟨rfl, ho⟩ := hk
    exact ⟨ad, e, ho, fun j u hu => hj j u hu⟩
  obtain ⟨ad, e, ho, hc⟩ := each 0 h0
  have g0 := hc 0 _ (by simp [encP]; rfl)
  have hs : ad.spot = none := by
    have := World.cell?_spot g0
    rwa [show ad.add (0 * 36 + 0) = ad from rfl] at this
  obtain ⟨b, off, s⟩ := ad
  simp only at hs
  subst hs
  refine ⟨b, off, e, World.block_lt_of_cell? w _ g0, fun i hi => ?_⟩
  obtain ⟨ad', e', ho', hc'⟩ := each i hi
  rw [e] at e'
  injection e' with e'
  subst e'
  refine ⟨ho', fun j u hu => ?_⟩
  have := hc' j u hu
  rwa [show (⟨b, off, none⟩ : Addr).add (i * 36 + j) = ⟨b, off + i * 36 + j, none⟩ from by rw [add_at]; simp [Nat.add_assoc]] at this

theorem rangeAt_below {w w1 : World} {b o B : Nat} {cs : List Value} (h : w.rangeAt b o cs) (hb : Below B w w1) (hB : b < B) : w1.rangeAt b o cs := fun j v hv => (hb.cell (p := ⟨b, o + j, none⟩) hB).trans (h j v hv)

section
variable {ops : Array Oper} {o : Oper} {rest : List Oper} {a : Act} {w : World} {Q : Exit → Act → World → Prop}
/-- A pointer is loaded out of a row. -/
theorem load_P (hgd : o.guard = none) (x : Operand) (ho : o.op = .load 56 x) (b off : Nat) (p : Ptr) (hx : a.eval x = .pointer (some ⟨b, off, none⟩)) (hk : Ok p) (hc : w.rangeAt b off (encP p).toList)
    (h : wpList Try.prog ops Q rest (a.put o.dst (.agg (encP p))) w) : wpList Try.prog ops Q (o :: rest) a w := by
  refine wpList_load_mid hgd 56 x ho b off hx (encP p).toList _ hc Try.underlying56 rfl (by rw [enc_len hk]; kernel_rfl) ?_
  simpa using h
/-- A pointer is loaded out of a block of its own. -/
theorem load_P1 (hgd : o.guard = none) (x : Operand) (ho : o.op = .load 56 x) (g : Nat) (p : Ptr) (hx : a.eval x = .pointer (some ⟨g, 0, none⟩)) (hk : Ok p) (hg : w.heap[g]? = some (.cells (encP p) 56 (0, 0)))
    (h : wpList Try.prog ops Q rest (a.put o.dst (.agg (encP p))) w) : wpList Try.prog ops Q (o :: rest) a w :=
  wpList_load_row hgd 56 x ho g hx 56 (encP p) (0, 0) _ hg Try.underlying56 rfl (si hk.len) h
/-- A pointer is laid in a new block. -/
theorem store_P (hgd : o.guard = none) (x y : Operand) (ho : o.op = .store 56 x y) (p : Ptr) (hx : a.eval x = .pointer (some ⟨w.heap.size, 0, none⟩)) (hy : a.eval y = .agg (encP p)) (hk : Ok p)
    (h : wpList Try.prog ops Q rest (a.put o.dst undef) (w.alloc (.cells (encP p) 56))) : wpList Try.prog ops Q (o :: rest) a (w.alloc (.cells Z56 56)) := by
  refine wpList_store_row hgd 56 x y ho w.heap.size (encP p) hx hy 56 Z56 (heap_new _ _) (si hk.len) (by rw [encP_size hk.len]; rfl) (PtrJ.a_enc p) ?_
  rw [World.setRow_alloc_new]
  exact h
end

/-- A value that is read. -/
structure VA (w : World) (A : Option Addr) (nb cb : Nat) (A2 : Option Addr) (ni ci : Nat) (v : Val) : Prop where
  blocks : Kd.C kP w A nb v.blocks
  inn : C8 w A2 ni v.inn
  lb : nb ≤ cb
  li : ni ≤ ci
  nb : nb = v.blocks.length
  ni : ni = v.inn.length
  ok : OkV v
theorem VA.below {w w1 : World} {A : Option Addr} {nb cb : Nat} {A2 : Option Addr} {ni ci : Nat} {v : Val} (h : VA w A nb cb A2 ni ci v) (hb : Below w.heap.size w w1) : VA w1 A nb cb A2 ni ci v :=
  ⟨Kd.C_below h.blocks hb, Kd.C_below h.inn hb, h.lb, h.li, h.nb, h.ni, h.ok⟩

theorem not_right (p : Ptr) (h : Ok p) (w : World) : Calls Try.prog 65 #[.agg (encP p)] w fun e w' => e = .returned (.bool (!rightB p)) ∧ Below w.heap.size w w' := by
  have g := Aside0.mk (blk_new w (.cells (encP p) 56))
  have HB := Aside0.mk (below_alloc (Below.refl w.heap.size w) (.cells (encP p) 56))
  have hpc := Aside0.mk (pc p h.len)
  have HK := Aside0.mk h
  clear h
  go_enter Try.func65, Try.ntmps65
  go_wp2_with (refine load_P1 rfl _ rfl w.heap.size p rfl HK.out g.out ?_)
  refine (right_calls (encP p) p hpc.out _).mono ?_
  rintro e w1 ⟨rfl, hb⟩
  have HB1 := Aside0.mk (below_then HB.out HB.out.size hb)
  clear hb
  go_wp2
  go_ret
  exact ⟨rfl, HB1.out⟩

/-- Where the first one is that is not right, or -1. -/
def TellsAt (w : World) (l : List Ptr) (e : Ending) (w' : World) : Prop := ∃ r : Int, e = .returned (.int .i64 r) ∧ (0 ≤ r ↔ ¬ ∀ p ∈ l, Right p) ∧ Below w.heap.size w w'
theorem rightB_iff (p : Ptr) : rightB p = true ↔ Right p := by simp [rightB]
set_option maxRecDepth 100000 in
set_option maxHeartbeats 1000000 in
theorem index_calls (A : Option Addr) (c n : Nat) (l : List Ptr) (hnl : n = l.length) (w : World) (hr : Kd.C kP w A n l) (hn : n ≤ c) (hm : n ≤ 1000) :
    Calls Try.prog 108 #[.slice A n c, .func (.func 65) #[] #[]] w (TellsAt w l) := by
  have HR := Aside0.mk hr
  have HN := Aside0.mk hnl
  clear hr hnl
  go_enter Try.func108, Try.ntmps108
  go_wp2
  go_loopw [8] (fun v8 wr => ∃ (j : Nat), v8 = .int .i64 (j : Int) ∧ j ≤ n ∧ Aside0 (∀ i, i < j → Right (l.getD i zeroP)) ∧ Aside0 (Below w.heap.size w wr)) (fun v _ => n - (intOf v).toNat)
  case atStart => exact ⟨0, rfl, Nat.zero_le _, ⟨fun i h => absurd h (Nat.not_lt_zero _)⟩, ⟨Below.refl _ _⟩⟩
  case round =>
    obtain ⟨j, rfl, hj, hall, HB⟩ := hrel
    by_cases hlt : j < n
    · obtain ⟨b, off, rfl, hb, hx⟩ := CP_at HR.out (by omega)
      obtain ⟨hok, hrg⟩ := hx j hlt
      have HK := Aside0.mk hok
      have hrg := Aside0.mk (rangeAt_below hrg HB.out hb)
      clear hx hok
      generalize hP : l.getD j zeroP = p at *
      have HP := Aside0.mk hP
      clear hP
      go_wp2_with (refine load_P rfl _ rfl b (off + j * 36) p rfl HK.out hrg.out ?_)
      refine (not_right p HK.out _).mono ?_
      rintro e w1 ⟨rfl, hb1⟩
      have HB1 := Aside0.mk (below_then HB.out HB.out.size hb1)
      clear hb1
      by_cases hrt : Right p
      · have hrb : rightB p = true := (rightB_iff p).2 hrt
        rw [hrb]
        have HRT := Aside0.mk hrt
        clear hrt hrb
        go_wp2
        go_roundw
        case rel => exact ⟨j + 1, by go_num, by omega, ⟨fun i h => by
          rcases Nat.lt_or_ge i j with h' | h'
          · exact hall.out i h'
          · obtain rfl : i = j := by omega
            rw [HP.out]
            exact HRT.out⟩, HB1⟩
        case measure => simp [intOf]; omega
      · have hrb : rightB p = false := by simp [rightB, hrt]
        rw [hrb]
        have HRT := Aside0.mk hrt
        clear hrt hrb
        go_wp2
        go_ret
        refine ⟨_, rfl, ⟨fun _ h => ?_, fun _ => by omega⟩, HB1.out⟩
        refine HRT.out ?_
        rw [← HP.out, List.getD, List.getElem?_eq_getElem (by rw [← HN.out]; exact hlt)]
        exact h _ (List.getElem_mem _)
    · obtain rfl : j = n := by omega
      go_wp2
      go_ret
      refine ⟨_, rfl, ⟨fun h => absurd h (by decide), fun h => absurd ?_ h⟩, HB.out⟩
      intro p hp
      obtain ⟨i, hi, rfl⟩ := List.getElem_of_mem hp
      have := hall.out i (by rw [HN.out]; exact hi)
      rwa [List.getD, List.getElem?_eq_getElem hi] at this
theorem contains_calls (A : Option Addr) (c n : Nat) (l : List Ptr) (hnl : n = l.length) (w : World) (hr : Kd.C kP w A n l) (hn : n ≤ c) (hm : n ≤ 1000) :
    Calls Try.prog 64 #[.slice A n c, .func (.func 65) #[] #[]] w (fun e w' => e = .returned (.bool (!decide (∀ p ∈ l, Right p))) ∧ Below w.heap.size w w') := by
  have HR := Aside0.mk hr
  have HN := Aside0.mk hnl
  obtain ⟨q, hq⟩ : ∃ q : Bool, q = !decide (∀ p ∈ l, Right p) := ⟨_, rfl⟩
  rw [← hq]
  have HQ := Aside0.mk hq
  clear hr hnl hq
  go_enter Try.func64, Try.ntmps64
  go_wp2_with fail
  refine (index_calls A c n l HN.out w HR.out hn hm).mono ?_
  rintro e w1 ⟨r, rfl, hi, hb⟩
  have HI := Aside0.mk hi
  have HB := Aside0.mk hb
  clear hi hb
  by_cases h0 : r ≥ 0
  · go_wp2
    go_ret
    refine ⟨?_, HB.out⟩
    rw [HQ.out, decide_eq_false (HI.out.1 h0)]
    rfl
  · have hd : decide (0 ≤ r) = false := decide_eq_false (by omega)
    go_wp2
    go_ret
    refine ⟨?_, HB.out⟩
    have : ∀ p ∈ l, Right p := Classical.byContradiction fun h => by have := HI.out.2 h; omega
    rw [HQ.out, decide_eq_true this]
    rfl
end Go.Proofs.Ytfefpbnhpncmlaa.CatK
/- RightValue, and the document's: contracts. -/
namespace Go.Proofs.Ytfefpbnhpncmlaa.CatM
open Go.RowKit Go.Proofs.Ytfefpbnhpncmlaa.CatK Go.Proofs.Ytfefpbnhpncmlaa.PtrB Go.Proofs.Ytfefpbnhpncmlaa.Agg Go.Proofs.Ytfefpbnhpncmlaa.B8 Go.Proofs.Ytfefpbnhpncmlaa.CodL Go.Proofs.Ytfefpbnhpncmlaa.CodA Go.Proofs.Ytfefpbnhpncmlaa.CodB Go.Proofs.Ytfefpbnhpncmlaa.CatL Go.Proofs.Ytfefpbnhpncmlaa.PtrA Go.Proofs.Ytfefpbnhpncmlaa.PtrE Go.Proofs.Ytfefpbnhpncmlaa.PtrF Go.Proofs.Ytfefpbnhpncmlaa.PBaseSigns Go.Proofs.YtfefpbnhpncmlaaW.PrintWords Go.Proofs.YtfefpbnhpncmlaaW.PrintLast Go.Proofs.YtfefpbnhpncmlaaW.PrintMore
set_option linter.unusedVariables false
set_option linter.unusedSimpArgs false

instance (v : Val) : Decidable (RightV v) := by unfold RightV; exact inferInstance
set_option maxRecDepth 100000 in
set_option maxHeartbeats 1000000 in
theorem rightV_calls (A : Option Addr) (nb cb : Nat) (A2 : Option Addr) (ni ci : Nat) (v : Val) (w : World) (h : VA w A nb cb A2 ni ci v) (hm : nb ≤ 1000) (hi : ni ≤ 10000) :
    Calls Try.prog 28 #[.agg #[.slice A nb cb, .slice A2 ni ci]] w (fun e w' => e = .returned (.bool (decide (RightV v))) ∧ Below w.heap.size w w') := by
  have HV := Aside0.mk h
  have HB := Aside0.mk (below_alloc (Below.refl w.heap.size w) (.cells #[.slice A nb cb, .slice A2 ni ci] 40))
  obtain ⟨q, hq⟩ : ∃ q : Bool, q = decide (RightV v) := ⟨_, rfl⟩
  rw [← hq]
  have HQ := Aside0.mk hq
  clear h hq
  by_cases h8 : nb ≤ 8
  · by_cases h400 : ni ≤ 400
    · go_enter Try.func28, Try.ntmps28
      go_wp2_with fail
      refine (contains_calls A cb nb v.blocks HV.out.nb _ (Kd.C_below HV.out.blocks HB.out) HV.out.lb hm).mono ?_
      rintro e w1 ⟨rfl, hb⟩
      have HB1 := Aside0.mk (below_then HB.out HB.out.size hb)
      clear hb
      generalize hr : decide (∀ p ∈ v.blocks, Right p) = r at *
      have HR := Aside0.mk hr
      clear hr
      go_wp2
      go_ret
      refine ⟨?_, HB1.out⟩
      have : q = r := by
        rw [HQ.out, ← HR.out, Bool.eq_iff_iff]
        simp only [decide_eq_true_eq]
        exact ⟨fun h => h.2.2, fun h => ⟨by rw [← HV.out.nb]; exact h8, by rw [← HV.out.ni]; exact h400, h⟩⟩
      rw [this]
      simp
    · have hq : q = false := by rw [HQ.out]; exact decide_eq_false (fun h => h400 (by rw [HV.out.ni]; exact h.2.1))
      subst hq
      go_enter Try.func28, Try.ntmps28
      go_wp2
      go_ret
      exact ⟨rfl, HB.out⟩
  · have hq : q = false := by rw [HQ.out]; exact decide_eq_false (fun h => h8 (by rw [HV.out.nb]; exact h.1))
    subst hq
    go_enter Try.func28, Try.ntmps28
    go_wp2
    go_ret
    exact ⟨rfl, HB.out⟩

set_option maxRecDepth 100000 in
set_option maxHeartbeats 1000000 in
theorem rrightV_calls (A : Option Addr) (nb cb : Nat) (A2 : Option Addr) (ni ci : Nat) (v : Val) (w : World) (h : VA w A nb cb A2 ni ci v) (hm : nb ≤ 1000) (hi : ni ≤ 10000) :
    Calls Try.prog 29 #[.agg #[.slice A nb cb, .slice A2 ni ci]] w (fun e w' => e = .returned (.bool (decide (RightV v))) ∧ Below w.heap.size w w') := by
  have HV := Aside0.mk h
  have HB := Aside0.mk (below_alloc (Below.refl w.heap.size w) (.cells #[.slice A nb cb, .slice A2 ni ci] 46))
  have G0 := Aside0.mk (blk_new w (.cells #[.slice A nb cb, .slice A2 ni ci] 46))
  obtain ⟨q, hq⟩ : ∃ q : Bool, q = decide (RightV v) := ⟨_, rfl⟩
  rw [← hq]
  have HQ := Aside0.mk hq
  clear h hq
  by_cases h8 : nb ≤ 8
  · by_cases h400 : ni ≤ 400
    · go_enter Try.func29, Try.ntmps29
      go_wp2
      go_loopw [3] (fun v3 wr => ∃ (j : Nat), v3 = .int .i64 (j : Int) ∧ j ≤ nb ∧ Aside0 (∀ i, i < j → Right (v.blocks.getD i zeroP)) ∧ Aside0 (wr.heap[w.heap.size]? = some (.cells #[.slice A nb cb, .slice A2 ni ci] 46 (0, 0)) ∧ Below w.heap.size w wr)) (fun v _ => nb - (intOf v).toNat)
      case atStart => exact ⟨0, rfl, Nat.zero_le _, ⟨fun i h => absurd h (Nat.not_lt_zero _)⟩, ⟨G0.out, HB.out⟩⟩
      case round =>
        obtain ⟨j, rfl, hj, hall, H⟩ := hrel
        clear G0 HB
        have x0 : wr.cell? ⟨w.heap.size, 0, none⟩ = some (.slice A nb cb) := by rw [cell_of_row _ _ 0 _ 46 (0, 0) H.out.1]; rfl
        by_cases hlt : j < nb
        · obtain ⟨b, off, rfl, hb, hx⟩ := CP_at HV.out.blocks (by omega)
          obtain ⟨hok, hrg⟩ := hx j hlt
          have HK := Aside0.mk hok
          have hrg := Aside0.mk (rangeAt_below hrg H.out.2 hb)
          clear hx hok
          generalize hP : v.blocks.getD j zeroP = p at *
          have HP := Aside0.mk hP
          have HPC := Aside0.mk (pc p HK.out.len)
          clear hP
          go_wp2_with (refine load_P rfl _ rfl b (off + j * 36) p rfl HK.out hrg.out ?_)
          refine (Go.Proofs.Ytfefpbnhpncmlaa.PtrC.rright_calls (encP p) p HPC.out _).mono ?_
          rintro e w1 ⟨rfl, hb1⟩
          have H1 := Aside0.mk (And.intro (blk_below H.out.1 hb1) (below_then H.out.2 H.out.2.size hb1))
          clear hb1 H x0
          by_cases hrt : Right p
          · have hrb : rightB p = true := (rightB_iff p).2 hrt
            rw [hrb]
            have HRT := Aside0.mk hrt
            clear hrt hrb
            go_wp2
            go_roundw
            case rel => exact ⟨j + 1, by go_num, by omega, ⟨fun i h => by
              rcases Nat.lt_or_ge i j with h' | h'
              · exact hall.out i h'
              · obtain rfl : i = j := by omega
                rw [HP.out]
                exact HRT.out⟩, H1⟩
            case measure => simp [intOf]; omega
          · have hrb : rightB p = false := by simp [rightB, hrt]
            rw [hrb]
            have hq : q = false := by
              rw [HQ.out]
              refine decide_eq_false (fun h => hrt ?_)
              rw [← HP.out, List.getD, List.getElem?_eq_getElem (by rw [← HV.out.nb]; exact hlt)]
              exact h.2.2 _ (List.getElem_mem _)
            subst hq
            clear hrt hrb
            go_wp2
            go_ret
            exact ⟨rfl, H1.out.2⟩
        · obtain rfl : j = nb := by omega
          have hq : q = true := by
            rw [HQ.out]
            refine decide_eq_true ⟨by rw [← HV.out.nb]; exact h8, by rw [← HV.out.ni]; exact h400, fun p hp => ?_⟩
            obtain ⟨i, hi, rfl⟩ := List.getElem_of_mem hp
            have := hall.out i (by rw [HV.out.nb]; exact hi)
            rwa [List.getD, List.getElem?_eq_getElem hi] at this
          subst hq
          go_wp2
          go_ret
          exact ⟨rfl, H.out.2⟩
    · have hq : q = false := by rw [HQ.out]; exact decide_eq_false (fun h => h400 (by rw [HV.out.ni]; exact h.2.1))
      subst hq
      go_enter Try.func29, Try.ntmps29
      go_wp2
      go_ret
      exact ⟨rfl, HB.out⟩
  · have hq : q = false := by rw [HQ.out]; exact decide_eq_false (fun h => h8 (by rw [HV.out.nb]; exact h.1))
    subst hq
    go_enter Try.func29, Try.ntmps29
    go_wp2
    go_ret
    exact ⟨rfl, HB.out⟩
end Go.Proofs.Ytfefpbnhpncmlaa.CatM
/- A value's bytes: contracts; the value is right. -/

namespace Go.Proofs.Ytfefpbnhpncmlaa.CatN
open Go.RowKit Go.Proofs.Ytfefpbnhpncmlaa.CatM Go.Proofs.Ytfefpbnhpncmlaa.CatK Go.Proofs.Ytfefpbnhpncmlaa.CatS Go.Proofs.Ytfefpbnhpncmlaa.PtrB Go.Proofs.Ytfefpbnhpncmlaa.Agg Go.Proofs.Ytfefpbnhpncmlaa.B8 Go.Proofs.Ytfefpbnhpncmlaa.CodL Go.Proofs.Ytfefpbnhpncmlaa.CodA Go.Proofs.Ytfefpbnhpncmlaa.CodB Go.Proofs.Ytfefpbnhpncmlaa.CatL Go.Proofs.Ytfefpbnhpncmlaa.PtrA Go.Proofs.Ytfefpbnhpncmlaa.PtrE Go.Proofs.Ytfefpbnhpncmlaa.PtrF Go.Proofs.Ytfefpbnhpncmlaa.PtrG Go.Proofs.Ytfefpbnhpncmlaa.PBaseSigns Go.Proofs.YtfefpbnhpncmlaaW.PrintWords Go.Proofs.YtfefpbnhpncmlaaW.PrintLast Go.Proofs.YtfefpbnhpncmlaaW.PrintMore
set_option linter.unusedVariables false
set_option linter.unusedSimpArgs false

theorem flat_le {l : List Ptr} (h : ∀ p ∈ l, Ok p) (n j : Nat) (hj : j ≤ l.length) : (shortL n ++ (l.take j).flatMap ptrL).length = glen n + 52 * j := by
  rw [List.length_append, flat_len (fun p hp => h p (List.mem_of_mem_take hp)), List.length_take, Nat.min_eq_left hj]
  rfl
theorem flat_snoc {l : List Ptr} (j : Nat) (hj : j < l.length) : (l.take (j + 1)).flatMap ptrL = (l.take j).flatMap ptrL ++ ptrL (l.getD j zeroP) := by
  rw [List.take_add_one, List.flatMap_append]
  simp [hj, List.getD]

set_option maxRecDepth 100000 in
set_option maxHeartbeats 1000000 in
theorem bytes_calls (A : Option Addr) (nb cb : Nat) (A2 : Option Addr) (ni ci : Nat) (v : Val) (w : World) (h : VA w A nb cb A2 ni ci v) (hv : RightV v) :
    Calls Try.prog 57 #[.agg #[.slice A nb cb, .slice A2 ni ci]] w (Tells w (valL v)) := by
  have HV := Aside0.mk h
  have HRV := Aside0.mk hv
  have hnb : nb ≤ 8 := by rw [h.nb]; exact hv.1
  have hni : ni ≤ 400 := by rw [h.ni]; exact hv.2.1
  have HB := Aside0.mk (below_alloc (Below.refl w.heap.size w) (.cells #[.slice A nb cb, .slice A2 ni ci] 40))
  have G0 := Aside0.mk (blk_new w (.cells #[.slice A nb cb, .slice A2 ni ci] 40))
  obtain ⟨L0, hL0⟩ : ∃ L, L = [] ++ shortL nb := ⟨_, rfl⟩
  have HL0 := Aside0.mk hL0
  have hg1 := glen_small (n := nb) (by omega)
  have HG := Aside0.mk hg1
  clear h hv hL0 hg1
  go_enter Try.func57, Try.ntmps57
  go_wp2_with fail
  refine (shorts_one none 0 0 [] L0 nb (w.heap.size + 1) _ rfl HL0.out (Kd.C_nil _ _) (by simp) (by omega) (by go_simp)).mono ?_
  rintro e w1 ⟨v1, rfl, hr1, hb1⟩
  have H1 := Aside0.mk (And.intro (Kd.R_lower (base' := w.heap.size) hr1 (by simp; omega)) (And.intro (blk_below (blk_alloc G0.out _) hb1) (below_then (below_alloc HB.out _) (by simp; omega) hb1)))
  clear hr1 hb1
  have x0 : w1.cell? ⟨w.heap.size, 0, none⟩ = some (.slice A nb cb) := by rw [cell_of_row _ _ 0 _ 40 (0, 0) H1.out.2.1]; rfl
  clear HB G0
  go_wp2
  go_loopw [3, 14] (fun v3 v14 wr => ∃ (j : Nat) (out : List Int), v14 = .int .i64 (j : Int) ∧ j ≤ nb ∧ Aside0 (out = shortL nb ++ (v.blocks.take j).flatMap ptrL) ∧ Aside0 (R8 wr w.heap.size v3 out ∧ wr.heap[w.heap.size]? = some (.cells #[.slice A nb cb, .slice A2 ni ci] 40 (0, 0)) ∧ Below w.heap.size w wr)) (fun _ v _ => nb - (intOf v).toNat)
  case atStart => exact ⟨0, L0, rfl, Nat.zero_le _, ⟨by rw [HL0.out]; simp⟩, H1⟩
  case round =>
    obtain ⟨j, out, rfl, hj, ho, H⟩ := hrel
    clear H1 x0
    have hlen : Aside0 (out.length = 1 + 52 * j) := ⟨by rw [ho.out, flat_le HV.out.ok.blocks nb j (by rw [← HV.out.nb]; exact hj), HG.out]⟩
    by_cases hlt : j < nb
    · obtain ⟨b, off, rfl, hb, hx⟩ := CP_at HV.out.blocks (by omega)
      obtain ⟨hok, hrg⟩ := hx j hlt
      have HK := Aside0.mk hok
      have hrg := Aside0.mk (rangeAt_below hrg H.out.2.2 hb)
      have hrt : Right (v.blocks.getD j zeroP) := by
        rw [List.getD, List.getElem?_eq_getElem (by rw [← HV.out.nb]; exact hlt)]
        exact HRV.out.2.2 _ (List.getElem_mem _)
      have HS := Aside0.mk (flat_snoc (l := v.blocks) j (by rw [← HV.out.nb]; exact hlt))
      clear hx hok
      generalize v.blocks.getD j zeroP = p at *
      have HRT := Aside0.mk hrt
      clear hrt
      obtain ⟨A3, c3, rfl, hle3, hC3⟩ := Kd.R_reads H.out.1
      have HC3 := Aside0.mk (And.intro hle3 hC3)
      clear hle3 hC3
      have GN := Aside0.mk (blk_new wr (.cells (encP p) 56))
      go_wp2_with (first | (refine load_P rfl _ rfl b (off + j * 36) p rfl HK.out hrg.out ?_) | (refine store_P rfl _ _ rfl p rfl rfl HK.out ?_) | (refine load_P1 rfl _ rfl wr.heap.size p rfl HK.out GN.out ?_))
      refine (put_calls A3 c3 out p ⟨HK.out, .inl HRT.out⟩ _ (Kd.C_below HC3.out.2 (below_alloc (Below.refl _ _) _)) (by have := hlen.out; omega)).mono ?_
      rintro e w2 ⟨v2, rfl, hr2, hb2⟩
      have H2 := Aside0.mk (And.intro (Kd.R_lower (base' := w.heap.size) hr2 (by have := H.out.2.2.size; simp; omega)) (And.intro (blk_below (blk_alloc H.out.2.1 _) hb2) (below_then (below_alloc H.out.2.2 _) (by have := H.out.2.2.size; simp; omega) hb2)))
      clear hr2 hb2
      go_wp2
      go_roundw
      case rel => exact ⟨j + 1, _, by go_num, by omega, ⟨by rw [ho.out, HS.out, List.append_assoc]⟩, H2⟩
      case measure => simp [intOf]; omega
    · obtain rfl : j = nb := by omega
      have x1 : wr.cell? ⟨w.heap.size, 1, none⟩ = some (.slice A2 ni ci) := by rw [cell_of_row _ _ 1 _ 40 (0, 0) H.out.2.1]; rfl
      have hsz := Aside0.mk H.out.2.2.size
      have HI := Aside0.mk (Kd.C_below HV.out.inn H.out.2.2)
      go_wp2_with (at_builtin; refine appRow (w0 := w) w.heap.size rfl (.tmp 22) (.tmp 24) rfl _ out v.inn A2 ni ci rfl rfl H.out.1 HI.out H.out.2.2 hsz.out (by have := hlen.out; omega) ?_; intro v3 w3 ho3 hb3 hgr; have H3 := Aside0.mk (And.intro ho3 hb3); clear ho3 hb3 hgr)
      go_ret
      refine ⟨_, rfl, ?_, H3.out.2⟩
      have h := H3.out.1
      rw [ho.out, HV.out.nb, List.take_length] at h
      exact h
end Go.Proofs.Ytfefpbnhpncmlaa.CatN
/- PutValue, and the document's: contracts. -/
namespace Go.Proofs.Ytfefpbnhpncmlaa.CatO
open Go.RowKit Go.Proofs.Ytfefpbnhpncmlaa.CatN Go.Proofs.Ytfefpbnhpncmlaa.CatM Go.Proofs.Ytfefpbnhpncmlaa.CatK Go.Proofs.Ytfefpbnhpncmlaa.CatS Go.Proofs.Ytfefpbnhpncmlaa.PtrB Go.Proofs.Ytfefpbnhpncmlaa.Agg Go.Proofs.Ytfefpbnhpncmlaa.B8 Go.Proofs.Ytfefpbnhpncmlaa.CodL Go.Proofs.Ytfefpbnhpncmlaa.CodA Go.Proofs.Ytfefpbnhpncmlaa.CodB Go.Proofs.Ytfefpbnhpncmlaa.CatL Go.Proofs.Ytfefpbnhpncmlaa.PtrA Go.Proofs.Ytfefpbnhpncmlaa.PtrE Go.Proofs.Ytfefpbnhpncmlaa.PtrF Go.Proofs.Ytfefpbnhpncmlaa.PtrG Go.Proofs.Ytfefpbnhpncmlaa.PBaseSigns Go.Proofs.YtfefpbnhpncmlaaW.PrintWords Go.Proofs.YtfefpbnhpncmlaaW.PrintLast Go.Proofs.YtfefpbnhpncmlaaW.PrintMore
set_option linter.unusedVariables false
set_option linter.unusedSimpArgs false

/-- A value's bytes are told, or none and a fault's number. -/
def TellsPut (w : World) (v : Val) (e : Ending) (w' : World) : Prop :=
  ∃ r, e = .returned (.tuple #[r, .int .i64 (if RightV v then 0 else 2)]) ∧ R8 w' w.heap.size r (if RightV v then valL v else []) ∧ Below w.heap.size w w'
set_option maxRecDepth 100000 in
set_option maxHeartbeats 1000000 in
theorem putV_calls (A : Option Addr) (nb cb : Nat) (A2 : Option Addr) (ni ci : Nat) (v : Val) (w : World) (h : VA w A nb cb A2 ni ci v) (hm : nb ≤ 1000) (hi : ni ≤ 10000) :
    Calls Try.prog 24 #[.agg #[.slice A nb cb, .slice A2 ni ci]] w (TellsPut w v) := by
  have HB := Aside0.mk (below_alloc (Below.refl w.heap.size w) (.cells #[.slice A nb cb, .slice A2 ni ci] 40))
  have HV := Aside0.mk (h.below HB.out)
  have HV0 := Aside0.mk h
  have G0 := Aside0.mk (blk_new w (.cells #[.slice A nb cb, .slice A2 ni ci] 40))
  obtain ⟨q, hq⟩ : ∃ q : Bool, q = decide (RightV v) := ⟨_, rfl⟩
  have HQ := Aside0.mk hq
  obtain ⟨P, hP⟩ : ∃ P : Ending → World → Prop, P = TellsPut w v := ⟨_, rfl⟩
  rw [← hP]
  have HP := Aside0.mk hP
  have hsz : w.heap.size ≤ (w.alloc (.cells #[.slice A nb cb, .slice A2 ni ci] 40)).heap.size := by simp
  have HS := Aside0.mk hsz
  clear h hq hP hsz
  go_enter Try.func24, Try.ntmps24
  go_wp2_with fail
  refine (rightV_calls A nb cb A2 ni ci v _ HV.out hm hi).mono ?_
  rw [← HQ.out]
  rintro e w1 ⟨rfl, hb1⟩
  have H1 := Aside0.mk (And.intro (blk_below G0.out hb1) (And.intro (below_then HB.out HS.out hb1) (HV.out.below hb1)))
  clear hb1
  have x0 : w1.cell? ⟨w.heap.size, 0, none⟩ = some (.slice A nb cb) := by rw [cell_of_row _ _ 0 _ 40 (0, 0) H1.out.1]; rfl
  have x1 : w1.cell? ⟨w.heap.size, 1, none⟩ = some (.slice A2 ni ci) := by rw [cell_of_row _ _ 1 _ 40 (0, 0) H1.out.1]; rfl
  by_cases hr : RightV v
  · have eq : q = true := by rw [HQ.out]; exact decide_eq_true hr
    subst eq
    have HR := Aside0.mk hr
    clear hr
    go_wp2_with fail
    refine (bytes_calls A nb cb A2 ni ci v _ H1.out.2.2 HR.out).mono ?_
    rintro e w2 ⟨r, rfl, hr2, hb2⟩
    have H2 := Aside0.mk (And.intro (Kd.R_lower (base' := w.heap.size) hr2 H1.out.2.1.size) (below_then H1.out.2.1 H1.out.2.1.size hb2))
    clear hr2 hb2
    go_wp2
    rw [HP.out]
    refine ⟨r, by rw [if_pos HR.out]; rfl, ?_, H2.out.2⟩
    rw [if_pos HR.out]
    exact H2.out.1
  · have eq : q = false := by rw [HQ.out]; exact decide_eq_false hr
    subst eq
    have HR := Aside0.mk hr
    clear hr
    go_wp2_with fail
    rw [HP.out]
    refine ⟨_, by rw [if_neg HR.out]; rfl, ?_, H1.out.2.1⟩
    rw [if_neg HR.out]
    exact Kd.R_nil _ _ _ _ _

set_option maxRecDepth 100000 in
set_option maxHeartbeats 1000000 in
theorem rputV_calls (A : Option Addr) (nb cb : Nat) (A2 : Option Addr) (ni ci : Nat) (v : Val) (w : World) (h : VA w A nb cb A2 ni ci v) (hm : nb ≤ 1000) (hi : ni ≤ 10000) :
    Calls Try.prog 25 #[.agg #[.slice A nb cb, .slice A2 ni ci]] w (TellsPut w v) := by
  have HB := Aside0.mk (below_alloc (Below.refl w.heap.size w) (.cells #[.slice A nb cb, .slice A2 ni ci] 46))
  have HV := Aside0.mk (h.below HB.out)
  have HV0 := Aside0.mk h
  have G0 := Aside0.mk (blk_new w (.cells #[.slice A nb cb, .slice A2 ni ci] 46))
  obtain ⟨q, hq⟩ : ∃ q : Bool, q = decide (RightV v) := ⟨_, rfl⟩
  have HQ := Aside0.mk hq
  obtain ⟨P, hP⟩ : ∃ P : Ending → World → Prop, P = TellsPut w v := ⟨_, rfl⟩
  rw [← hP]
  have HP := Aside0.mk hP
  have hsz : w.heap.size ≤ (w.alloc (.cells #[.slice A nb cb, .slice A2 ni ci] 46)).heap.size := by simp
  have HS := Aside0.mk hsz
  clear h hq hP hsz
  go_enter Try.func25, Try.ntmps25
  go_wp2_with fail
  refine (rrightV_calls A nb cb A2 ni ci v _ HV.out hm hi).mono ?_
  rw [← HQ.out]
  rintro e w1 ⟨rfl, hb1⟩
  have H1 := Aside0.mk (And.intro (blk_below G0.out hb1) (And.intro (below_then HB.out HS.out hb1) (HV.out.below hb1)))
  clear hb1
  have x0 : w1.cell? ⟨w.heap.size, 0, none⟩ = some (.slice A nb cb) := by rw [cell_of_row _ _ 0 _ 46 (0, 0) H1.out.1]; rfl
  by_cases hr : RightV v
  · have eq : q = true := by rw [HQ.out]; exact decide_eq_true hr
    subst eq
    have HRV := Aside0.mk hr
    have hnb : nb ≤ 8 := by rw [HV.out.nb]; exact hr.1
    have hni : ni ≤ 400 := by rw [HV.out.ni]; exact hr.2.1
    obtain ⟨L0, hL0⟩ : ∃ L, L = [] ++ shortL nb := ⟨_, rfl⟩
    have HL0 := Aside0.mk hL0
    have hg1 := glen_small (n := nb) (by omega)
    have HG := Aside0.mk hg1
    have hw : IntKind.u64.wrap (nb : Int) = (nb : Int) := wraps_u64 _ (by omega) (by omega)
    obtain ⟨x, hx⟩ : ∃ x : Int, x = (nb : Int) := ⟨_, rfl⟩
    clear hr hL0 hg1
    go_wp2_with fail
    refine (RefB.rshort_calls none 0 [] nb w1 (Kd.C_nil _ _) (by simp) (by omega)).mono ?_
    rintro e w2 ⟨v1, rfl, hr1, hb1⟩
    have H2 := Aside0.mk (And.intro (Kd.R_lower (base' := w.heap.size) hr1 H1.out.2.1.size) (And.intro (blk_below H1.out.1 hb1) (below_then H1.out.2.1 H1.out.2.1.size hb1)))
    clear hr1 hb1 x0
    clear HB G0 H1
    go_wp2
    go_loopw [4, 5] (fun v4 v5 wr => ∃ (j : Nat) (out : List Int), v5 = .int .i64 (j : Int) ∧ j ≤ nb ∧ Aside0 (out = shortL nb ++ (v.blocks.take j).flatMap ptrL) ∧ Aside0 (R8 wr w.heap.size v4 out ∧ wr.heap[w.heap.size]? = some (.cells #[.slice A nb cb, .slice A2 ni ci] 46 (0, 0)) ∧ Below w.heap.size w wr)) (fun _ v _ => nb - (intOf v).toNat)
    case atStart => exact ⟨0, _, rfl, Nat.zero_le _, ⟨by simp⟩, H2⟩
    case round =>
      obtain ⟨j, out, rfl, hj, ho, H⟩ := hrel
      clear H2
      have hlen : Aside0 (out.length = 1 + 52 * j) := ⟨by rw [ho.out, flat_le HV.out.ok.blocks nb j (by rw [← HV.out.nb]; exact hj), HG.out]⟩
      have x0 : wr.cell? ⟨w.heap.size, 0, none⟩ = some (.slice A nb cb) := by rw [cell_of_row _ _ 0 _ 46 (0, 0) H.out.2.1]; rfl
      by_cases hlt : j < nb
      · obtain ⟨b, off, rfl, hb, hx⟩ := CP_at HV0.out.blocks (by omega)
        obtain ⟨hok, hrg⟩ := hx j hlt
        have HK := Aside0.mk hok
        have hrg := Aside0.mk (rangeAt_below hrg H.out.2.2 hb)
        have hrt : Right (v.blocks.getD j zeroP) := by
          rw [List.getD, List.getElem?_eq_getElem (by rw [← HV.out.nb]; exact hlt)]
          exact HRV.out.2.2 _ (List.getElem_mem _)
        have HS := Aside0.mk (flat_snoc (l := v.blocks) j (by rw [← HV.out.nb]; exact hlt))
        clear hx hok
        generalize v.blocks.getD j zeroP = p at *
        have HRT := Aside0.mk hrt
        clear hrt
        obtain ⟨A3, c3, rfl, hle3, hC3⟩ := Kd.R_reads H.out.1
        have HC3 := Aside0.mk (And.intro hle3 hC3)
        clear hle3 hC3
        go_wp2_with (refine load_P rfl _ rfl b (off + j * 36) p rfl HK.out hrg.out ?_)
        refine (RefD.rput_calls A3 c3 out p ⟨HK.out, .inl HRT.out⟩ _ HC3.out.2 (by have := hlen.out; omega)).mono ?_
        rintro e w2 ⟨v2, rfl, hr2, hb2⟩
        have H2 := Aside0.mk (And.intro (Kd.R_lower (base' := w.heap.size) hr2 H.out.2.2.size) (And.intro (blk_below H.out.2.1 hb2) (below_then H.out.2.2 H.out.2.2.size hb2)))
        clear hr2 hb2
        go_wp2
        go_roundw
        case rel => exact ⟨j + 1, _, by go_num, by omega, ⟨by rw [ho.out, HS.out, List.append_assoc]⟩, H2⟩
        case measure => simp [intOf]; omega
      · obtain rfl : j = nb := by omega
        have x1 : wr.cell? ⟨w.heap.size, 1, none⟩ = some (.slice A2 ni ci) := by rw [cell_of_row _ _ 1 _ 46 (0, 0) H.out.2.1]; rfl
        have hsz := Aside0.mk H.out.2.2.size
        have HI := Aside0.mk (Kd.C_below HV0.out.inn H.out.2.2)
        go_wp2_with (at_builtin; refine appRow (w0 := w) w.heap.size rfl (.tmp 28) (.tmp 30) rfl _ out v.inn A2 ni ci rfl rfl H.out.1 HI.out H.out.2.2 hsz.out (by have := hlen.out; omega) ?_; intro v3 w3 ho3 hb3 hgr; have H3 := Aside0.mk (And.intro ho3 hb3); clear ho3 hb3 hgr)
        rw [HP.out]
        refine ⟨_, by rw [if_pos HRV.out]; rfl, ?_, H3.out.2⟩
        rw [if_pos HRV.out]
        have h := H3.out.1
        rw [ho.out, HV.out.nb, List.take_length] at h
        exact h
  · have eq : q = false := by rw [HQ.out]; exact decide_eq_false hr
    subst eq
    have HR := Aside0.mk hr
    clear hr
    go_wp2_with fail
    rw [HP.out]
    refine ⟨_, by rw [if_neg HR.out]; rfl, ?_, H1.out.2.1⟩
    rw [if_neg HR.out]
    exact Kd.R_nil _ _ _ _ _
end Go.Proofs.Ytfefpbnhpncmlaa.CatO
/- catalog's reader: numbers and block: contracts. -/
namespace Go.Proofs.Ytfefpbnhpncmlaa.CatR
open Go.RowKit Go.Proofs.Ytfefpbnhpncmlaa.CatK Go.Proofs.Ytfefpbnhpncmlaa.PtrB Go.Proofs.Ytfefpbnhpncmlaa.Agg Go.Proofs.Ytfefpbnhpncmlaa.B8 Go.Proofs.Ytfefpbnhpncmlaa.CodL Go.Proofs.Ytfefpbnhpncmlaa.CodA Go.Proofs.Ytfefpbnhpncmlaa.CodB Go.Proofs.Ytfefpbnhpncmlaa.CatL Go.Proofs.Ytfefpbnhpncmlaa.PtrA Go.Proofs.Ytfefpbnhpncmlaa.PtrE Go.Proofs.Ytfefpbnhpncmlaa.PtrF Go.Proofs.Ytfefpbnhpncmlaa.PBaseSigns Go.Proofs.YtfefpbnhpncmlaaW.PrintWords Go.Proofs.YtfefpbnhpncmlaaW.PrintLast Go.Proofs.YtfefpbnhpncmlaaW.PrintMore
set_option linter.unusedVariables false
set_option linter.unusedSimpArgs false

/-- Where a reader stands: what is left, and whether something was wrong. -/
structure RD (B : World) (g : Nat) (l : List Int) (bad : Bool) (W : World) : Prop where
  below : Below B.heap.size B W
  blk : ∃ A c, C8 B A l.length l ∧ l.length ≤ c ∧ W.heap[g]? = some (.cells #[.slice A l.length c, .bool bad] 107 (0, 0))
  g : B.heap.size ≤ g
  byt : Byt l
  len : l.length ≤ 100000

theorem RD.keep {B : World} {g : Nat} {l : List Int} {bad : Bool} {W W1 : World} (h : RD B g l bad W) (hb : Below B.heap.size B W1) (hg : W1.heap[g]? = W.heap[g]?) : RD B g l bad W1 := by
  obtain ⟨A, c, h1, h2, h3⟩ := h.blk
  exact ⟨hb, ⟨A, c, h1, h2, hg.trans h3⟩, h.g, h.byt, h.len⟩
theorem RD.on {B : World} {g : Nat} {l : List Int} {bad : Bool} {W W1 : World} (h : RD B g l bad W) (hb : Below W.heap.size W W1) : RD B g l bad W1 := by
  obtain ⟨A, c, h1, h2, h3⟩ := h.blk
  exact h.keep (below_then h.below h.below.size hb) (hb.block g (blk_lt h3))
theorem RD.lt {B : World} {g : Nat} {l : List Int} {bad : Bool} {W : World} (h : RD B g l bad W) : g < W.heap.size := by
  obtain ⟨A, c, h1, h2, h3⟩ := h.blk
  exact blk_lt h3

/-- A short number is none. -/
def badS (l : List Int) : Bool := decide ((readShort l).2.2 ≠ 0 ∨ 1152921504606846976 < (readShort l).1)
/-- What numbers of a reader leave: the cells, what is left, whether something was wrong. -/
def fin : List Nat → List Int → Array Value → Array Value × List Int × Bool
  | [], l, cs => (cs, l, false)
  | o :: offs, l, cs => if badS l then (cs, l, true) else fin offs (l.drop (readShort l).2.1) (cs.setIfInBounds o (.int .i64 (readShort l).1))

/-- What the call of numbers leaves. -/
def TellsNums (B : World) (g ge : Nat) (T : TypeId) (offs : List Nat) (l : List Int) (bad : Bool) (cs : Array Value) (w : World) (e : Ending) (w' : World) : Prop :=
  e = .returned (.tuple #[]) ∧ RD B g (fin offs l cs).2.1 (bad || (fin offs l cs).2.2) w' ∧ w'.heap[ge]? = some (.cells (fin offs l cs).1 T (0, 0)) ∧ KeepBut w w' g (some ge)

set_option maxRecDepth 100000 in
set_option maxHeartbeats 1000000 in
theorem numbers_calls (B : World) (g ge gp k : Nat) (T : TypeId) (offs : List Nat) (hk : k = offs.length) (l : List Int) (bad : Bool) (cs : Array Value) (w : World)
    (h : RD B g l bad w) (hge : B.heap.size ≤ ge) (hT : w.heap[ge]? = some (.cells cs T (0, 0))) (hne : g ≠ ge) (hp : w.heap[gp]? = some (.cells (offs.map fun o => Value.pointer (some ⟨ge, o, none⟩)).toArray 109 (0, 0))) (hpg : gp ≠ g) (hpe : gp ≠ ge) (hoff : ∀ o ∈ offs, ∃ n, cs[o]? = some (.int .i64 n)) (hk2 : k ≤ 100) :
    Calls Try.prog 60 #[.pointer (some ⟨g, 0, none⟩), .slice (some ⟨gp, 0, none⟩) k k] w (TellsNums B g ge T offs l bad cs w) := by
  have H0 := Aside0.mk (And.intro h (And.intro hT hp))
  have HK := Aside0.mk hk
  have HO := Aside0.mk hoff
  have HG := Aside0.mk (And.intro hge (And.intro hne (And.intro hpg hpe)))
  clear h hT hp hk hoff hge hne hpg hpe
  go_enter Try.func60, Try.ntmps60
  go_wp2
  go_loopw [11] (fun v11 wr => ∃ (j : Nat) (l1 : List Int) (cs1 : Array Value), v11 = .int .i64 (j : Int) ∧ j ≤ k ∧ Aside0 (fin (offs.drop j) l1 cs1 = fin offs l cs ∧ (∀ o ∈ offs, ∃ n, cs1[o]? = some (.int .i64 n))) ∧ Aside0 (RD B g l1 bad wr ∧ wr.heap[ge]? = some (.cells cs1 T (0, 0)) ∧ wr.heap[gp]? = some (.cells (offs.map fun o => Value.pointer (some ⟨ge, o, none⟩)).toArray 109 (0, 0)) ∧ KeepBut w wr g (some ge))) (fun v _ => k - (intOf v).toNat)
  case atStart => exact ⟨0, l, cs, rfl, Nat.zero_le _, ⟨rfl, HO.out⟩, ⟨H0.out.1, H0.out.2.1, H0.out.2.2, KeepBut.refl _ _ _⟩⟩
  case round =>
    obtain ⟨j, l1, cs1, rfl, hj, hf, H⟩ := hrel
    clear H0
    by_cases hlt : j < k
    · have hjo : j < offs.length := by rw [← HK.out]; exact hlt
      obtain ⟨o, ho⟩ : ∃ o, o = offs[j]'hjo := ⟨_, rfl⟩
      have hdrop : Aside0 (offs.drop j = o :: offs.drop (j + 1)) := ⟨by rw [ho, List.drop_eq_getElem_cons hjo]⟩
      have hcp : wr.cell? ⟨gp, j, none⟩ = some (.pointer (some ⟨ge, o, none⟩)) := by
        rw [cell_of_row _ _ j _ 109 (0, 0) H.out.2.2.1, ho]
        simp [hjo]
      have hom : o ∈ offs := by rw [ho]; exact List.getElem_mem _
      obtain ⟨n0, hn0⟩ := hf.out.2 o hom
      have hce : wr.cell? ⟨ge, o, none⟩ = some (.int .i64 n0) := by rw [cell_of_row _ _ o _ T (0, 0) H.out.2.1]; exact hn0
      have hfe := frozen_of_row wr ge o cs1 T H.out.2.1
      obtain ⟨A, c, hC, hlc, hgk⟩ := H.out.1.blk
      have hc0 : wr.cell? ⟨g, 0, none⟩ = some (.slice A l1.length c) := by rw [cell_of_row _ _ 0 _ 107 (0, 0) hgk]; rfl
      have hc1 : wr.cell? ⟨g, 1, none⟩ = some (.bool bad) := by rw [cell_of_row _ _ 1 _ 107 (0, 0) hgk]; rfl
      have hf0 := frozen_of_row wr g 0 _ 107 hgk
      have hf1 := frozen_of_row wr g 1 _ 107 hgk
      have HC := Aside0.mk (And.intro hC hlc)
      have HGK := Aside0.mk hgk
      have HON := Aside0.mk (And.intro ho hom)
      clear hC hlc hgk ho hom hn0
      go_wp2_with fail
      refine (CodC.readShort_calls A c l1 wr (Kd.C_below HC.out.1 H.out.1.below) H.out.1.byt HC.out.2 (by have := H.out.1.len; omega)).mono ?_
      rintro e w1 ⟨rfl, rfl⟩
      have hb := readShort_bound H.out.1.byt
      have hu := readShort_used l1
      obtain ⟨x, hx⟩ : ∃ x, x = (readShort l1).1 := ⟨_, rfl⟩
      obtain ⟨u, hu1⟩ : ∃ u, u = (readShort l1).2.1 := ⟨_, rfl⟩
      obtain ⟨er, her⟩ : ∃ er, er = (readShort l1).2.2 := ⟨_, rfl⟩
      have HBS : Aside0 (badS l1 = decide (er ≠ 0 ∨ 1152921504606846976 < x)) := ⟨by unfold badS; rw [hx, her]⟩
      have HX := Aside0.mk (And.intro hx (And.intro hu1 her))
      rw [← hx] at hb
      rw [← hu1] at hu
      rw [← hx, ← hu1, ← her]
      have hcut := cut8_from A l1.length c u hu
      have HD := Aside0.mk (C8_drop HC.out.1 HC.out.2 hu)
      generalize (if c = u then A else A.map (·.add u)) = A2 at hcut HD
      clear hx hu1 her
      have hw : wrap64 x = x ∨ 1152921504606846976 < x := by
        rcases Int.lt_or_le 1152921504606846976 x with h | h
        · exact .inr h
        · left; unfold wrap64; omega
      have hbad : Aside0 ((er ≠ 0 ∨ 1152921504606846976 < x) → (fin offs l cs) = (cs1, l1, true)) := ⟨fun h => by
        rw [← hf.out.1, hdrop.out]
        simp only [fin]
        rw [HBS.out, if_pos (by simpa using h)]⟩
      have hgood : Aside0 (er = 0 → ¬ 1152921504606846976 < x → fin (offs.drop (j + 1)) (l1.drop u) (cs1.setIfInBounds o (.int .i64 x)) = fin offs l cs) := ⟨fun h h2 => by
        rw [← hf.out.1, hdrop.out]
        simp only [fin]
        rw [HBS.out, if_neg (by simp [h]; omega), ← HX.out.1, ← HX.out.2.1]⟩
      have HEND : Aside0 ((er ≠ 0 ∨ 1152921504606846976 < x) → TellsNums B g ge T offs l bad cs w (.returned (.tuple #[])) (wr.setCell ⟨g, 1, none⟩ (.bool true))) := ⟨fun h => by
        have hfin := hbad.out h
        obtain ⟨A0, c0, q1, q2, q3⟩ := H.out.1.blk
        have hgl := H.out.1.g
        refine ⟨rfl, ?_, ?_, ?_⟩
        · rw [hfin]
          refine ⟨H.out.1.below.setCell hgl _, ⟨A0, c0, q1, q2, ?_⟩, hgl, H.out.1.byt, H.out.1.len⟩
          rw [heap_setCell_same _ _ _ _ _ _ q3]
          simp
        · rw [hfin]
          exact blk_far H.out.2.1 (by simp; exact fun h => HG.out.2.1 h.symm) _
        · exact H.out.2.2.2.set_ 1 _⟩
      by_cases he : er = 0
      · by_cases hbig : 1152921504606846976 < x
        · have HE2 := HEND.out (.inr hbig)
          have HE2 := Aside0.mk HE2
          subst he
          go_wp2
          first | refine bodyPost_ret (results_none rfl _ _ _) rfl ?_ | refine bodyPost_end (results_none rfl _ _ _) rfl ?_
          exact HE2.out
        · have hg2 := hgood.out he hbig
          have hg2 := Aside0.mk hg2
          have hwx : wrap64 x = x := by rcases hw with h | h; exact h; omega
          have q1 : (g = ge) = False := by simp [HG.out.2.1]
          have q2 : (ge = g) = False := by simp; exact fun h => HG.out.2.1 h.symm
          subst he
          clear hw
          go_wp2
          go_roundw
          case rel =>
            have hgl := H.out.1.g
            refine ⟨j + 1, l1.drop u, cs1.setIfInBounds o (.int .i64 x), by go_num, by omega, ⟨hg2.out, fun o' ho' => ?_⟩, ⟨⟨(H.out.1.below.setCell HG.out.1 _).setCell hgl _, ⟨A2, c - u, ?_, ?_, ?_⟩, hgl, H.out.1.byt.drop _, ?_⟩, ?_, ?_, ?_⟩⟩
            · obtain ⟨n1, hn1⟩ := hf.out.2 o' ho'
              rw [Array.getElem?_setIfInBounds]
              by_cases ho : o = o'
              · subst ho
                rw [if_pos rfl, if_pos (Array.getElem?_eq_some_iff.1 hn1).1]
                exact ⟨x, rfl⟩
              · rw [if_neg ho]
                exact ⟨n1, hn1⟩
            · rw [List.length_drop]; exact HD.out
            · rw [List.length_drop]; have := HC.out.2; omega
            · rw [heap_setCell_same _ _ _ _ _ _ (blk_far HGK.out (by simp; exact HG.out.2.1) _), List.length_drop]
              simp
            · rw [List.length_drop]; have := H.out.1.len; omega
            · exact blk_far (heap_setCell_same _ _ _ _ _ _ H.out.2.1) (by simp; exact fun h => HG.out.2.1 h.symm) _
            · exact blk_far (blk_far H.out.2.2.1 (by simp; exact HG.out.2.2.2) _) (by simp; exact HG.out.2.2.1) _
            · refine KeepBut.set_ ?_ 0 _
              refine ⟨by rw [World.size_setCell]; exact H.out.2.2.2.1, fun i hi h1 h2 => ?_⟩
              rw [Below.heap_setCell _ _ _ _ (by simp; exact fun h => h2 (by rw [h]))]
              exact H.out.2.2.2.2 i hi h1 h2
          case measure => simp [intOf]; omega
      · have HE2 := Aside0.mk (HEND.out (.inl he))
        have hbe : (er == 0) = false := by simp [he]
        have hbe2 : (er != 0) = true := by simp [he]
        clear he
        go_wp2
        first | refine bodyPost_ret (results_none rfl _ _ _) rfl ?_ | refine bodyPost_end (results_none rfl _ _ _) rfl ?_
        exact HE2.out
    · obtain rfl : j = k := by omega
      have hfin : fin offs l cs = (cs1, l1, false) := by
        have h := hf.out.1
        rw [List.drop_eq_nil_of_le (by rw [HK.out]; exact Nat.le_refl _)] at h
        rw [← h]
        rfl
      have HE2 : Aside0 (TellsNums B g ge T offs l bad cs w (.returned (.tuple #[])) wr) := ⟨rfl, by rw [hfin]; simpa using H.out.1, by rw [hfin]; exact H.out.2.1, H.out.2.2.2⟩
      clear hfin
      go_wp2
      first | refine bodyPost_ret (results_none rfl _ _ _) rfl ?_ | refine bodyPost_end (results_none rfl _ _ _) rfl ?_
      exact HE2.out
end Go.Proofs.Ytfefpbnhpncmlaa.CatR
/- catalog's reader: block: a contract; and the document's number and block. -/
namespace Go.Proofs.Ytfefpbnhpncmlaa.CatT
open Go.RowKit Go.Proofs.Ytfefpbnhpncmlaa.CatR Go.Proofs.Ytfefpbnhpncmlaa.CatK Go.Proofs.Ytfefpbnhpncmlaa.PtrB Go.Proofs.Ytfefpbnhpncmlaa.Agg Go.Proofs.Ytfefpbnhpncmlaa.B8 Go.Proofs.Ytfefpbnhpncmlaa.CodL Go.Proofs.Ytfefpbnhpncmlaa.CodA Go.Proofs.Ytfefpbnhpncmlaa.CodB Go.Proofs.Ytfefpbnhpncmlaa.CatL Go.Proofs.Ytfefpbnhpncmlaa.PtrA Go.Proofs.Ytfefpbnhpncmlaa.PtrE Go.Proofs.Ytfefpbnhpncmlaa.PtrF Go.Proofs.Ytfefpbnhpncmlaa.PBaseSigns Go.Proofs.YtfefpbnhpncmlaaW.PrintWords Go.Proofs.YtfefpbnhpncmlaaW.PrintLast Go.Proofs.YtfefpbnhpncmlaaW.PrintMore
set_option linter.unusedVariables false
set_option linter.unusedSimpArgs false

theorem readP_ok {l : List Int} (hb : Byt l) : Ok (readP l).1 := by
  unfold readP
  split
  · exact okZero
  · split
    · exact okZero
    · exact rawP_ok hb (by omega)
theorem readP_long {l : List Int} (h : (readP l).2 = 0) : 52 ≤ l.length := by
  unfold readP at h
  split at h
  · exact absurd h (by decide)
  · omega

theorem res_c {P : Program} {fn : Func} {w : World} {g : Nat} {t ty p : Nat} {cs : Array Value} {fr : Nat × Nat} {d : TypeDesc} (tmps : Array Value) (h : fn.results = #[.cell p ty]) (hp : tmps.getD p undef = .pointer (some ⟨g, 0, none⟩)) (hg : w.heap[g]? = some (.cells cs t fr))
    (hu : P.underlying ty = some d) (hd : (match d with | .struct _ | .array _ _ => true | _ => false) = true) (hi : (P.info? ty).map (·.size) = some cs.size) :
    (results fn tmps).run P w = .ok (.agg cs) w := by
  have hp' : tmps[p]?.getD undef = .pointer (some ⟨g, 0, none⟩) := by simpa using hp
  simp [results, h, hp', asAddr, run_loadVar_row w g t ty cs fr d hg hu hd hi]

theorem keep_end {w w1 : World} (hb : Below w.heap.size w w1) (g j : Nat) (X : Value) (o : Obj) (cs : Array Value) : KeepBut w (((w1.setCell ⟨g, j, none⟩ X).alloc o).setRow w.heap.size cs) g none := by
  refine ⟨?_, fun i hi h1 _ => ?_⟩
  · simp
    have := hb.size
    omega
  · rw [setRow_other _ _ _ _ (by omega), heap_old _ _ _ (by rw [World.size_setCell]; exact Nat.lt_of_lt_of_le hi hb.size), Below.heap_setCell _ _ _ _ (by exact h1)]
    exact hb.block i hi
theorem rd_end {B w w1 : World} {g : Nat} {l l' : List Int} {bad bad' : Bool} (h : RD B g l bad w1) (hB : B.heap.size ≤ w.heap.size) (hgw : g ≠ w.heap.size) (j : Nat) (X : Value) (o : Obj) (cs : Array Value) (hby : Byt l') (hl : l'.length ≤ 100000)
    (hx : ∃ A c, C8 B A l'.length l' ∧ l'.length ≤ c ∧ (w1.setCell ⟨g, j, none⟩ X).heap[g]? = some (.cells #[.slice A l'.length c, .bool bad'] 107 (0, 0))) : RD B g l' bad' (((w1.setCell ⟨g, j, none⟩ X).alloc o).setRow w.heap.size cs) := by
  obtain ⟨A, c, h1, h2, h3⟩ := hx
  refine ⟨below_setRow ((h.below.setCell h.g _).alloc (by rw [World.size_setCell]; exact h.below.size) _) hB _, ⟨A, c, h1, h2, ?_⟩, h.g, hby, hl⟩
  rw [setRow_other _ _ _ _ hgw]
  exact blk_alloc h3 _

/-- What the call of block leaves. -/
def TellsBlock (B : World) (g : Nat) (l : List Int) (bad : Bool) (w : World) (e : Ending) (w' : World) : Prop :=
  e = .returned (.agg (encP (readP l).1)) ∧ RD B g (if (readP l).2 = 0 then l.drop 52 else l) (bad || decide ((readP l).2 ≠ 0)) w' ∧ KeepBut w w' g none
set_option maxRecDepth 100000 in
set_option maxHeartbeats 1000000 in
theorem block_calls (B : World) (g : Nat) (l : List Int) (bad : Bool) (w : World) (h : RD B g l bad w) :
    Calls Try.prog 61 #[.pointer (some ⟨g, 0, none⟩)] w (TellsBlock B g l bad w) := by
  have HB := Aside0.mk (below_alloc (Below.refl w.heap.size w) (.cells Z56 56))
  have G0 := Aside0.mk (blk_new w (.cells Z56 56))
  have H := Aside0.mk (h.on HB.out)
  have hgl := h.lt
  have hgl2 := Aside0.mk (Nat.lt_of_lt_of_le hgl HB.out.size)
  obtain ⟨A, c, hC, hlc, hgk⟩ := H.out.blk
  have HC := Aside0.mk (And.intro hC hlc)
  have HGK := Aside0.mk hgk
  obtain ⟨A', c', hC', hlc', hgk'⟩ := h.blk
  have e1 : (w.alloc (.cells Z56 56)).heap[g]? = w.heap[g]? := heap_old _ _ _ hgl
  have e2 : some (Obj.cells #[Value.slice A l.length c, .bool bad] 107 (0, 0)) = some (Obj.cells #[Value.slice A' l.length c', .bool bad] 107 (0, 0)) := by rw [← hgk, ← hgk', e1]
  have e3 : A = A' ∧ c = c' := by simpa using e2
  obtain ⟨rfl, rfl⟩ := e3
  have hc0 : w.cell? ⟨g, 0, none⟩ = some (.slice A l.length c) := by rw [cell_of_row _ _ 0 _ 107 (0, 0) hgk']; rfl
  clear e1 e2 hC' hlc' hgk'
  obtain ⟨P, hP⟩ : ∃ P : Ending → World → Prop, P = TellsBlock B g l bad w := ⟨_, rfl⟩
  rw [← hP]
  have HP := Aside0.mk hP
  have hsz : w.heap.size < (w.alloc (.cells Z56 56)).heap.size := by simp
  have HS := Aside0.mk hsz
  have HBW := Aside0.mk h.below.size
  clear h hC hlc hgk hP hsz
  have hgne : Aside0 (g ≠ w.heap.size) := ⟨by
    intro e
    have h1 := G0.out
    have h2 := HGK.out
    rw [← e, h2] at h1
    injection h1 with h1
    injection h1 with h1 h3
    exact absurd h3 (by decide)⟩
  go_enter Try.func61, Try.ntmps61
  go_wp2_with fail
  refine (PtrL.read_calls A c l.length l rfl _ (Kd.C_below HC.out.1 H.out.below) H.out.byt HC.out.2 (by have := H.out.len; omega)).mono ?_
  rintro e w1 ⟨rfl, hb1⟩
  have H1 := Aside0.mk (H.out.on hb1)
  have B1 := Aside0.mk (below_then HB.out HB.out.size hb1)
  have G1 := Aside0.mk (blk_below G0.out hb1)
  have hgl1 := Aside0.mk (Nat.lt_of_lt_of_le hgl2.out hb1.size)
  have GK1 := Aside0.mk (blk_below HGK.out hb1)
  clear hb1 hc0 H HB G0 HGK hgl2
  obtain ⟨p, hp⟩ : ∃ p, p = (readP l).1 := ⟨_, rfl⟩
  obtain ⟨er, her⟩ : ∃ er, er = (readP l).2 := ⟨_, rfl⟩
  have hok := Aside0.mk (readP_ok H1.out.byt)
  rw [← hp] at hok
  rw [← hp, ← her]
  have HX := Aside0.mk (And.intro hp her)
  clear hp her
  have hsi := Aside0.mk (si hok.out.len)
  have hes2 : Aside0 (Z56.size = (encP p).size) := ⟨by rw [encP_size hok.out.len]; rfl⟩
  have GN := Aside0.mk (blk_new w1 (.cells (encP p) 56))
  have hc1 : w1.cell? ⟨g, 0, none⟩ = some (.slice A l.length c) := by rw [cell_of_row _ _ 0 _ 107 (0, 0) GK1.out]; rfl
  have hc2 : w1.cell? ⟨g, 1, none⟩ = some (.bool bad) := by rw [cell_of_row _ _ 1 _ 107 (0, 0) GK1.out]; rfl
  have hf0 := frozen_of_row w1 g 0 _ 107 GK1.out
  have hf1 := frozen_of_row w1 g 1 _ 107 GK1.out
  have hlt1 := hgl1.out
  have G2 := Aside0.mk (blk_alloc G1.out (.cells (encP p) 56))
  have hgw : (g = w1.heap.size) = False := by simp; omega
  have hwg : (w1.heap.size = g) = False := by simp; omega
  by_cases he : er = 0
  · have hl52 : 52 ≤ l.length := readP_long (by rw [← HX.out.2]; exact he)
    have hcut := cut8_from A l.length c 52 hl52
    have HD := Aside0.mk (C8_drop HC.out.1 HC.out.2 hl52)
    generalize (if c = 52 then A else A.map (·.add 52)) = A2 at hcut HD
    replace hcut : ∀ W : World, (Instr.slice 31 (.slice A l.length c) (some (.int .i64 52)) none none).run Try.prog W = .ok (.slice A2 (l.length - 52) (c - 52)) W := hcut
    have HE := Aside0.mk he
    subst he
    have GA := blk_new (w1.setCell ⟨g, 0, none⟩ (.slice A2 (l.length - 52) (c - 52))) (.cells (encP p) 56)
    have GB := blk_alloc (blk_far G1.out (p := ⟨g, 0, none⟩) (fun h => hgne.out h.symm) (.slice A2 (l.length - 52) (c - 52))) (.cells (encP p) 56)
    rw [World.size_setCell] at GA
    have GA := Aside0.mk GA
    have GB := Aside0.mk GB
    go_wp2_with (first | (refine wpList_store_row rfl 56 (.tmp 2) (.tmp 27) rfl w.heap.size (encP p) rfl rfl 56 Z56 GB.out hsi.out hes2.out (PtrJ.a_enc p) ?_) | (refine load_P1 rfl (.tmp 3) rfl w1.heap.size p rfl hok.out GA.out ?_) | (refine store_P rfl (.tmp 3) (.tmp 11) rfl p rfl rfl hok.out ?_))
    refine bodyPost_ret (res_c (p := 2) _ rfl rfl (setRow_heap _ w.heap.size Z56 (encP p) 56 _ GB.out) Try.underlying56 rfl hsi.out) rfl ?_
    rw [HP.out]
    refine ⟨by rw [← HX.out.1], ?_, keep_end B1.out _ _ _ _ _⟩
    rw [← HX.out.2, if_pos rfl]
    refine rd_end H1.out HBW.out hgne.out _ _ _ _ (H1.out.byt.drop _) (by rw [List.length_drop]; have := H1.out.len; omega) ⟨A2, c - 52, by rw [List.length_drop]; exact HD.out, by rw [List.length_drop]; have := HC.out.2; omega, ?_⟩
    rw [heap_setCell_same _ _ _ _ _ _ GK1.out, List.length_drop]
    simp
  · have HE := Aside0.mk he
    have hbe : (er == 0) = false := by simp [he]
    have hbe2 : (er != 0) = true := by simp [he]
    clear he
    have GA := blk_new (w1.setCell ⟨g, 1, none⟩ (.bool true)) (.cells (encP p) 56)
    have GB := blk_alloc (blk_far G1.out (p := ⟨g, 1, none⟩) (fun h => hgne.out h.symm) (.bool true)) (.cells (encP p) 56)
    rw [World.size_setCell] at GA
    have GA := Aside0.mk GA
    have GB := Aside0.mk GB
    go_wp2_with (first | (refine wpList_store_row rfl 56 (.tmp 2) (.tmp 18) rfl w.heap.size (encP p) rfl rfl 56 Z56 GB.out hsi.out hes2.out (PtrJ.a_enc p) ?_) | (refine load_P1 rfl (.tmp 3) rfl w1.heap.size p rfl hok.out GA.out ?_) | (refine store_P rfl (.tmp 3) (.tmp 11) rfl p rfl rfl hok.out ?_))
    refine bodyPost_ret (res_c (p := 2) _ rfl rfl (setRow_heap _ w.heap.size Z56 (encP p) 56 _ GB.out) Try.underlying56 rfl hsi.out) rfl ?_
    rw [HP.out]
    refine ⟨by rw [← HX.out.1], ?_, keep_end B1.out _ _ _ _ _⟩
    rw [← HX.out.2, if_neg HE.out]
    refine rd_end H1.out HBW.out hgne.out _ _ _ _ H1.out.byt H1.out.len ⟨A, c, HC.out.1, HC.out.2, ?_⟩
    rw [heap_setCell_same _ _ _ _ _ _ GK1.out]
    simp [HE.out]
end Go.Proofs.Ytfefpbnhpncmlaa.CatT
/- The document's number and block: contracts. -/
namespace Go.Proofs.Ytfefpbnhpncmlaa.CatU
open Go.RowKit Go.Proofs.Ytfefpbnhpncmlaa.CatT Go.Proofs.Ytfefpbnhpncmlaa.CatR Go.Proofs.Ytfefpbnhpncmlaa.CatK Go.Proofs.Ytfefpbnhpncmlaa.PtrB Go.Proofs.Ytfefpbnhpncmlaa.Agg Go.Proofs.Ytfefpbnhpncmlaa.B8 Go.Proofs.Ytfefpbnhpncmlaa.CodL Go.Proofs.Ytfefpbnhpncmlaa.CodA Go.Proofs.Ytfefpbnhpncmlaa.CodB Go.Proofs.Ytfefpbnhpncmlaa.CatL Go.Proofs.Ytfefpbnhpncmlaa.PtrA Go.Proofs.Ytfefpbnhpncmlaa.PtrE Go.Proofs.Ytfefpbnhpncmlaa.PtrF Go.Proofs.Ytfefpbnhpncmlaa.PBaseSigns Go.Proofs.YtfefpbnhpncmlaaW.PrintWords Go.Proofs.YtfefpbnhpncmlaaW.PrintLast Go.Proofs.YtfefpbnhpncmlaaW.PrintMore
set_option linter.unusedVariables false
set_option linter.unusedSimpArgs false

/-- The next number, and what is behind it. -/
def numR (l : List Int) : Int × List Int := if badS l then (-1, []) else ((readShort l).1, l.drop (readShort l).2.1)
def TellsNumber (B w : World) (l : List Int) (e : Ending) (w' : World) : Prop :=
  ∃ A c n, e = .returned (.tuple #[.int .i64 (numR l).1, .slice A n c]) ∧ n = (numR l).2.length ∧ n ≤ c ∧ C8 B A n (numR l).2 ∧ Below w.heap.size w w'
set_option maxRecDepth 100000 in
set_option maxHeartbeats 1000000 in
theorem number_calls (B : World) (A : Option Addr) (c : Nat) (n : Nat) (l : List Int) (hn : n = l.length) (w : World) (hB : Below B.heap.size B w) (hr : C8 B A n l) (hb : Byt l) (hc : n ≤ c) (hm : n ≤ 1000000) :
    Calls Try.prog 62 #[.slice A n c] w (TellsNumber B w l) := by
  subst hn
  have HBB := Aside0.mk hB
  clear hB
  have hb1 := readShort_bound hb
  have hu := readShort_used l
  obtain ⟨x, hx⟩ : ∃ x, x = (readShort l).1 := ⟨_, rfl⟩
  obtain ⟨u, hu1⟩ : ∃ u, u = (readShort l).2.1 := ⟨_, rfl⟩
  obtain ⟨er, her⟩ : ∃ er, er = (readShort l).2.2 := ⟨_, rfl⟩
  have HBS : Aside0 (badS l = decide (er ≠ 0 ∨ 1152921504606846976 < x)) := ⟨by unfold badS; rw [hx, her]⟩
  have HX := Aside0.mk (And.intro hx (And.intro hu1 her))
  rw [← hx] at hb1
  rw [← hu1] at hu
  have hcut := cut8_from A l.length c u hu
  have HD := Aside0.mk (C8_drop hr hc hu)
  generalize (if c = u then A else A.map (·.add u)) = A2 at hcut HD
  have HC := Aside0.mk (And.intro hr (And.intro hb hc))
  obtain ⟨P, hP⟩ : ∃ P : Ending → World → Prop, P = TellsNumber B w l := ⟨_, rfl⟩
  rw [← hP]
  have HP := Aside0.mk hP
  clear hx hu1 her hr hb hc hP
  have hbad : Aside0 ((er ≠ 0 ∨ 1152921504606846976 < x) → numR l = (-1, [])) := ⟨fun h => by unfold numR; rw [HBS.out, if_pos (by simpa using h)]⟩
  have hgood : Aside0 (er = 0 → ¬ 1152921504606846976 < x → numR l = (x, l.drop u)) := ⟨fun h h2 => by
    unfold numR
    rw [HBS.out, if_neg (by simp [h]; omega), ← HX.out.1, ← HX.out.2.1]⟩
  go_enter Try.func62, Try.ntmps62
  go_wp2_with fail
  refine (RefI.rreadShort_calls A c l w (Kd.C_below HC.out.1 HBB.out) HC.out.2.1 HC.out.2.2 (by omega)).mono ?_
  rintro e w1 ⟨rfl, rfl⟩
  rw [← HX.out.1, ← HX.out.2.1, ← HX.out.2.2]
  by_cases he : er = 0
  · by_cases hbig : 1152921504606846976 < x
    · have HF := Aside0.mk (hbad.out (.inr hbig))
      subst he
      go_wp2
      rw [HP.out]
      exact ⟨none, 0, 0, by rw [HF.out]; rfl, by rw [HF.out]; rfl, Nat.le_refl _, by rw [HF.out]; exact Kd.C_nil _ _, Below.refl _ _⟩
    · have HF := Aside0.mk (hgood.out he (by omega))
      have hwx : wrap64 x = x := by unfold wrap64; omega
      subst he
      go_wp2
      go_quiet (fail)
      go_wp2
      rw [HP.out]
      refine ⟨A2, c - u, l.length - u, by rw [HF.out]; rfl, by rw [HF.out, List.length_drop], by have := HC.out.2.2; omega, by rw [HF.out]; exact HD.out, pw_below_drewN (Below.refl _ _) _⟩
  · have HF := Aside0.mk (hbad.out (.inl he))
    have hbe : (er == 0) = false := by simp [he]
    have hbe2 : (er != 0) = true := by simp [he]
    clear he
    go_wp2
    rw [HP.out]
    exact ⟨none, 0, 0, by rw [HF.out]; rfl, by rw [HF.out]; rfl, Nat.le_refl _, by rw [HF.out]; exact Kd.C_nil _ _, Below.refl _ _⟩

/-- The next block, and what is behind it. -/
def blockR (l : List Int) : Ptr × List Int := if (readP l).2 = 0 then ((readP l).1, l.drop 52) else (zeroP, [])
def TellsBlockR (B w : World) (l : List Int) (e : Ending) (w' : World) : Prop :=
  ∃ A c n, e = .returned (.tuple #[.agg (encP (blockR l).1), .slice A n c]) ∧ n = (blockR l).2.length ∧ n ≤ c ∧ C8 B A n (blockR l).2 ∧ Below w.heap.size w w'
set_option maxRecDepth 100000 in
set_option maxHeartbeats 1000000 in
theorem rblock_calls (B : World) (A : Option Addr) (c : Nat) (n : Nat) (l : List Int) (hn : n = l.length) (w : World) (hB : Below B.heap.size B w) (hr : C8 B A n l) (hb : Byt l) (hc : n ≤ c) (hm : n ≤ 1000000) :
    Calls Try.prog 63 #[.slice A n c] w (TellsBlockR B w l) := by
  subst hn
  have HBB := Aside0.mk hB
  clear hB
  have HB := Aside0.mk (below_alloc (Below.refl w.heap.size w) (.cells Z56 56))
  have G0 := Aside0.mk (blk_new w (.cells Z56 56))
  have HC := Aside0.mk (And.intro hr (And.intro hb hc))
  obtain ⟨P, hP⟩ : ∃ P : Ending → World → Prop, P = TellsBlockR B w l := ⟨_, rfl⟩
  rw [← hP]
  have HP := Aside0.mk hP
  clear hr hb hc hP
  go_enter Try.func63, Try.ntmps63
  go_wp2_with fail
  refine (RefH.rread_calls A c l.length l rfl _ (Kd.C_below (Kd.C_below HC.out.1 HBB.out) HB.out) HC.out.2.1 HC.out.2.2 hm).mono ?_
  rintro e w1 ⟨rfl, hb1⟩
  have B1 := Aside0.mk (below_then HB.out HB.out.size hb1)
  have G1 := Aside0.mk (blk_below G0.out hb1)
  clear hb1 HB G0
  obtain ⟨p, hp⟩ : ∃ p, p = (readP l).1 := ⟨_, rfl⟩
  obtain ⟨er, her⟩ : ∃ er, er = (readP l).2 := ⟨_, rfl⟩
  have hok := Aside0.mk (readP_ok HC.out.2.1)
  rw [← hp] at hok
  rw [← hp, ← her]
  have HX := Aside0.mk (And.intro hp her)
  clear hp her
  have hsi := Aside0.mk (si hok.out.len)
  have hes2 : Aside0 (Z56.size = (encP p).size) := ⟨by rw [encP_size hok.out.len]; rfl⟩
  have GN := Aside0.mk (blk_new w1 (.cells (encP p) 56))
  have G2 := Aside0.mk (blk_alloc G1.out (.cells (encP p) 56))
  have B2 := Aside0.mk (B1.out.alloc B1.out.size (.cells (encP p) 56))
  by_cases he : er = 0
  · have hl52 : 52 ≤ l.length := readP_long (by rw [← HX.out.2]; exact he)
    have hcut := cut8_from A l.length c 52 hl52
    have HD := Aside0.mk (C8_drop HC.out.1 HC.out.2.2 hl52)
    generalize (if c = 52 then A else A.map (·.add 52)) = A2 at hcut HD
    replace hcut : ∀ W : World, (Instr.slice 31 (.slice A l.length c) (some (.int .i64 52)) none none).run Try.prog W = .ok (.slice A2 (l.length - 52) (c - 52)) W := hcut
    have HE := Aside0.mk he
    subst he
    go_wp2_with (refine store_P rfl (.tmp 4) (.tmp 9) rfl p rfl rfl hok.out ?_)
    have h56 := hsi.out
    generalize (w1.alloc (.cells (encP p) 56)) = W at *
    refine wp_region_held_drew (S := fun w' => w'.heap[w1.heap.size]? = some (.cells (encP p) 56 (0, 0)) ∧ Below w.heap.size w w') (by kernel_rfl) ⟨GN.out, below_drew B2.out⟩ (fun hW => ?_)
    refine wpAnyH_take (i := 0) (oi := ⟨some 14, _, _, _, _, _⟩) rfl (by kernel_rfl) (by kernel_rfl) (by kernel_rfl) (fun _ _ _ h => h) (yieldsIf_load_row (by rfl) 56 _ rfl w1.heap.size rfl 56 (encP p) (0, 0) _ (fun _ h => h.1) Try.underlying56 rfl h56) hW ?_
    try simp only [Act.put, List.setIfInBounds_toArray, List.set_cons_zero, List.set_cons_succ]
    refine wpAnyH_take (i := 1) (oi := ⟨some 15, _, _, _, _, _⟩) (v := .slice A l.length c) rfl (by kernel_rfl) (by kernel_rfl) (by kernel_rfl) (fun _ _ _ h => h) (.inl ⟨by rfl, fun W1 h1 => by go_simp⟩) hW ?_
    try simp only [Act.put, List.setIfInBounds_toArray, List.set_cons_zero, List.set_cons_succ]
    refine wpAnyH_take (i := 2) (oi := ⟨some 16, _, _, _, _, _⟩) (v := .slice A2 (l.length - 52) (c - 52)) rfl (by kernel_rfl) (by kernel_rfl) (by kernel_rfl) (fun _ _ _ h => h) (.inl ⟨by rfl, fun W1 h1 => by go_simp⟩) hW ?_
    try simp only [Act.put, List.setIfInBounds_toArray, List.set_cons_zero, List.set_cons_succ]
    refine wpAnyH_ready (rs := [3]) (by kernel_rfl) (by simp) (AllReadyH.cons rfl (fun K1 hK1 => ?_) AllReadyH.nil)
    refine wp_store_row (o := ⟨none, _, _, _, _, _⟩) 56 (.tmp 2) (.tmp 14) rfl w.heap.size (encP p) rfl rfl 56 Z56 G2.out h56 hes2.out (PtrJ.a_enc p) ?_
    have hlt : w.heap.size < w1.heap.size := blk_lt G1.out
    refine hK1.out _ _ ⟨(setRow_other _ _ _ _ (by omega)).trans hW.1, below_setRow hW.2 (Nat.le_refl _) _⟩ (fun hW1 => ?_)
    try simp only [Act.put, List.setIfInBounds_toArray, List.set_cons_zero, List.set_cons_succ]
    refine wpAnyH_take (i := 4) (oi := ⟨some 3, _, _, _, _, _⟩) (v := .slice A2 (l.length - 52) (c - 52)) rfl (by kernel_rfl) (by kernel_rfl) (by kernel_rfl) (fun _ _ _ h => h) (.inl ⟨by rfl, fun _ _ => by go_simp⟩) hW1 ?_
    try simp only [Act.put, List.setIfInBounds_toArray, List.set_cons_zero, List.set_cons_succ]
    refine wpAnyH_done (by kernel_rfl) ?_ _
    have G3 := Aside0.mk (setRow_heap W.drew w.heap.size Z56 (encP p) 56 _ G2.out)
    have B3 := Aside0.mk hW1.2
    clear hK1 K1 hW hW1 hlt
    go_wp2
    refine bodyPost_ret (res_ct (p := 2) (q := 3) _ rfl rfl G3.out Try.underlying56 rfl h56) rfl ?_
    rw [HP.out]
    have hbr : blockR l = (p, l.drop 52) := by unfold blockR; rw [← HX.out.2, if_pos rfl, ← HX.out.1]
    refine ⟨A2, c - 52, l.length - 52, by rw [hbr]; rfl, by rw [hbr, List.length_drop], by have := HC.out.2.2; omega, by rw [hbr]; exact HD.out, B3.out⟩
  · have HE := Aside0.mk he
    have hbe : (er == 0) = false := by simp [he]
    have hbe2 : (er != 0) = true := by simp [he]
    clear he
    go_wp2_with (first | (refine wpList_store_same rfl 56 (.tmp 2) (.tmp 13) rfl w.heap.size Z56 rfl rfl 56 G2.out i56 a56 ?_) | (refine store_P rfl (.tmp 4) (.tmp 9) rfl p rfl rfl hok.out ?_))
    refine bodyPost_ret (res_ct (p := 2) (q := 3) _ rfl rfl G2.out Try.underlying56 rfl i56) rfl ?_
    rw [HP.out]
    have hbr : blockR l = (zeroP, []) := by unfold blockR; rw [← HX.out.2, if_neg HE.out]
    exact ⟨none, 0, 0, by rw [hbr, enc_zero]; rfl, by rw [hbr]; rfl, Nat.le_refl _, by rw [hbr]; exact Kd.C_nil _ _, B2.out⟩
end Go.Proofs.Ytfefpbnhpncmlaa.CatU
/- A pointer is appended to a row of pointers of the call's own: laws of steps. -/
namespace Go.Proofs.Ytfefpbnhpncmlaa.CatW
open Go.RowKit Go.Proofs.Ytfefpbnhpncmlaa.CatK Go.Proofs.Ytfefpbnhpncmlaa.Agg Go.Proofs.Ytfefpbnhpncmlaa.B8 Go.Proofs.Ytfefpbnhpncmlaa.CatL Go.Proofs.Ytfefpbnhpncmlaa.PtrE Go.Proofs.Ytfefpbnhpncmlaa.PtrF Go.Proofs.YtfefpbnhpncmlaaW.PrintWords
set_option linter.unusedVariables false
set_option linter.unusedSimpArgs false

theorem info56 : (Try.prog.info? 56).map (fun i => (i.zero, i.size, i.bytes)) = some (some (.agg Z56), 36, 64) := by kernel_rfl
set_option maxRecDepth 100000 in
theorem run_one36 (cs : Array Value) (h : cs.size = 36) (W : World) : (Instr.buildSlice 38 1 #[(0, .agg cs)]).run Try.prog W = .ok (.slice (some ⟨W.heap.size, 0, none⟩) 1 1) (W.alloc (.cells cs 56)) := by
  rcases cs with ⟨l⟩
  rcases l with _ | ⟨c0, l⟩; · simp at h
  rcases l with _ | ⟨c1, l⟩; · simp at h
  rcases l with _ | ⟨c2, l⟩; · simp at h
  rcases l with _ | ⟨c3, l⟩; · simp at h
  rcases l with _ | ⟨c4, l⟩; · simp at h
  rcases l with _ | ⟨c5, l⟩; · simp at h
  rcases l with _ | ⟨c6, l⟩; · simp at h
  rcases l with _ | ⟨c7, l⟩; · simp at h
  rcases l with _ | ⟨c8, l⟩; · simp at h
  rcases l with _ | ⟨c9, l⟩; · simp at h
  rcases l with _ | ⟨c10, l⟩; · simp at h
  rcases l with _ | ⟨c11, l⟩; · simp at h
  rcases l with _ | ⟨c12, l⟩; · simp at h
  rcases l with _ | ⟨c13, l⟩; · simp at h
  rcases l with _ | ⟨c14, l⟩; · simp at h
  rcases l with _ | ⟨c15, l⟩; · simp at h
  rcases l with _ | ⟨c16, l⟩; · simp at h
  rcases l with _ | ⟨c17, l⟩; · simp at h
  rcases l with _ | ⟨c18, l⟩; · simp at h
  rcases l with _ | ⟨c19, l⟩; · simp at h
  rcases l with _ | ⟨c20, l⟩; · simp at h
  rcases l with _ | ⟨c21, l⟩; · simp at h
  rcases l with _ | ⟨c22, l⟩; · simp at h
  rcases l with _ | ⟨c23, l⟩; · simp at h
  rcases l with _ | ⟨c24, l⟩; · simp at h
  rcases l with _ | ⟨c25, l⟩; · simp at h
  rcases l with _ | ⟨c26, l⟩; · simp at h
  rcases l with _ | ⟨c27, l⟩; · simp at h
  rcases l with _ | ⟨c28, l⟩; · simp at h
  rcases l with _ | ⟨c29, l⟩; · simp at h
  rcases l with _ | ⟨c30, l⟩; · simp at h
  rcases l with _ | ⟨c31, l⟩; · simp at h
  rcases l with _ | ⟨c32, l⟩; · simp at h
  rcases l with _ | ⟨c33, l⟩; · simp at h
  rcases l with _ | ⟨c34, l⟩; · simp at h
  rcases l with _ | ⟨c35, l⟩; · simp at h
  rcases l with _ | ⟨c36, l⟩
  · kernel_rfl
  · simp at h
theorem run_oneP (p : Ptr) (h : Ok p) (W : World) : (Instr.buildSlice 38 1 #[(0, .agg (encP p))]).run Try.prog W = .ok (.slice (some ⟨W.heap.size, 0, none⟩) 1 1) (W.alloc (.cells (encP p) 56)) := run_one36 _ (encP_size h.len) W

section
variable {ops : Array Oper} {o : Oper} {rest : List Oper} {a : Act} {Q : Exit → Act → World → Prop} {K : Act → World → Prop}
/-- The box of append's one argument, of a region that draws its order -/
theorem wp_one_P {w : World} (x : Operand) (ho : o.op = .buildSlice 38 1 #[(0, x)]) (p : Ptr) (hk : Ok p) (hx : a.eval x = .agg (encP p))
    (h : K (a.put o.dst (.slice (some ⟨w.heap.size, 0, none⟩) 1 1)) (w.alloc (.cells (encP p) 56))) : o.wp Try.prog a w K Q := by
  unfold Oper.wp execOp
  have hm : (#[(0, x)] : Array (Nat × Operand)).map (fun (i, x) => (i, a.eval x)) = #[(0, .agg (encP p))] := by simp [hx]
  simp only [ho]
  rw [hm]
  simp only [Sem.run_bind, Sem.run_pure, Result.andThen_ok, run_oneP p hk w]
  exact h
theorem one_P {w : World} (hgd : o.guard = none) (x : Operand) (ho : o.op = .buildSlice 38 1 #[(0, x)]) (p : Ptr) (hk : Ok p) (hx : a.eval x = .agg (encP p))
    (h : wpList Try.prog ops Q rest (a.put o.dst (.slice (some ⟨w.heap.size, 0, none⟩) 1 1)) (w.alloc (.cells (encP p) 56))) : wpList Try.prog ops Q (o :: rest) a w :=
  wpList_plain hgd fun _ hK => wp_one_P x ho p hk hx (hK _ _ h)
/-- append(out, p), of a region that draws its order -/
theorem wp_append_P {w0 W : World} (base : Nat) (s x : Operand) (ho : o.op = .call { callee := .builtin .append, args := #[s, x], argTypes := #[38, 38] })
    (v : Value) (xs : List Ptr) (p : Ptr) (hk : Ok p) (hs : a.eval s = v) (hx : a.eval x = .slice (some ⟨W.heap.size, 0, none⟩) 1 1)
    (HO : Kd.R kP 56 W base (fun _ => True) v xs) (HB : Below base w0 W) (hbase : base ≤ W.heap.size) (hl : xs.length ≤ 100000)
    (h : ∀ v1 w1, Kd.R kP 56 w1 base (fun _ => True) v1 (xs ++ [p]) → Below base w0 w1 → W.grownBy w1 v.ownBlock → K (a.put o.dst v1) w1) :
    o.wp Try.prog a (W.alloc (.cells (encP p) 56)) K Q := by
  have hop : ({ o with guard := none } : Oper).op = .call { callee := .builtin .append, args := #[s, x], argTypes := #[38, 38] } := ho
  have := Kd.R_append_step (P := Try.prog) (ops := #[]) (o := { o with guard := none }) (a := a) (Q := Q) (Kc := K) kP (w0 := w0) base rfl s x 38 56 (.agg Z56) 64 hop Try.underlying38 info56 rfl (by decide) (by decide) v xs p (encP p).toList (fun _ => True) (fun _ => False) hs hx ⟨rfl, hk⟩ (fun _ h => h.elim) (fun _ _ => trivial) HO HB hbase (by omega)
    (fun v1 w1 h1 h2 h3 _ => h v1 w1 h1 h2 h3)
  have hw : Region.wanted { o with guard := none } (yielded #[] a.tmps) = true := rfl
  rw [if_pos hw] at this
  simp only [Array.toArray_toList] at this
  exact this
/-- append(out, p) -/
theorem append_P {w0 W : World} (base : Nat) (hgd : o.guard = none) (s x : Operand) (ho : o.op = .call { callee := .builtin .append, args := #[s, x], argTypes := #[38, 38] })
    (v : Value) (xs : List Ptr) (p : Ptr) (hk : Ok p) (hs : a.eval s = v) (hx : a.eval x = .slice (some ⟨W.heap.size, 0, none⟩) 1 1)
    (HO : Kd.R kP 56 W base (fun _ => True) v xs) (HB : Below base w0 W) (hbase : base ≤ W.heap.size) (hl : xs.length ≤ 100000)
    (h : ∀ v1 w1, Kd.R kP 56 w1 base (fun _ => True) v1 (xs ++ [p]) → Below base w0 w1 → W.grownBy w1 v.ownBlock → wpList Try.prog ops Q rest (a.put o.dst v1) w1) :
    wpList Try.prog ops Q (o :: rest) a (W.alloc (.cells (encP p) 56)) :=
  wpList_plain hgd fun _ hK => wp_append_P base s x ho v xs p hk hs hx HO HB hbase hl (fun v1 w1 h1 h2 h3 => hK _ _ (h v1 w1 h1 h2 h3))
/-- The same, the world compared last (an arm at another operation then fails at once). -/
theorem append_P2 {w0 W W' : World} (base : Nat) (hgd : o.guard = none) (s x : Operand) (ho : o.op = .call { callee := .builtin .append, args := #[s, x], argTypes := #[38, 38] })
    (v : Value) (xs : List Ptr) (p : Ptr) (hk : Ok p) (hs : a.eval s = v) (hW : W' = W.alloc (.cells (encP p) 56)) (hx : a.eval x = .slice (some ⟨W.heap.size, 0, none⟩) 1 1)
    (HO : Kd.R kP 56 W base (fun _ => True) v xs) (HB : Below base w0 W) (hbase : base ≤ W.heap.size) (hl : xs.length ≤ 100000)
    (h : ∀ v1 w1, Kd.R kP 56 w1 base (fun _ => True) v1 (xs ++ [p]) → Below base w0 w1 → W.grownBy w1 v.ownBlock → wpList Try.prog ops Q rest (a.put o.dst v1) w1) :
    wpList Try.prog ops Q (o :: rest) a W' := by
  subst hW
  exact append_P base hgd s x ho v xs p hk hs hx HO HB hbase hl h
theorem store_P2 {w W' : World} (hgd : o.guard = none) (x y : Operand) (ho : o.op = .store 56 x y) (p : Ptr) (hk : Ok p) (hy : a.eval y = .agg (encP p)) (hW : W' = w.alloc (.cells Z56 56)) (hx : a.eval x = .pointer (some ⟨w.heap.size, 0, none⟩))
    (h : wpList Try.prog ops Q rest (a.put o.dst undef) (w.alloc (.cells (encP p) 56))) : wpList Try.prog ops Q (o :: rest) a W' := by
  subst hW
  exact store_P hgd x y ho p hx hy hk h
end
end Go.Proofs.Ytfefpbnhpncmlaa.CatW
/- ReadValue: a contract. -/

namespace Go.Proofs.Ytfefpbnhpncmlaa.CatV
open Go.RowKit Go.Proofs.Ytfefpbnhpncmlaa.CatW Go.Proofs.Ytfefpbnhpncmlaa.CatT Go.Proofs.Ytfefpbnhpncmlaa.CatR Go.Proofs.Ytfefpbnhpncmlaa.CatK Go.Proofs.Ytfefpbnhpncmlaa.CatM Go.Proofs.Ytfefpbnhpncmlaa.CatN Go.Proofs.Ytfefpbnhpncmlaa.PtrB Go.Proofs.Ytfefpbnhpncmlaa.Agg Go.Proofs.Ytfefpbnhpncmlaa.B8 Go.Proofs.Ytfefpbnhpncmlaa.CodL Go.Proofs.Ytfefpbnhpncmlaa.CodA Go.Proofs.Ytfefpbnhpncmlaa.CodB Go.Proofs.Ytfefpbnhpncmlaa.CatL Go.Proofs.Ytfefpbnhpncmlaa.PtrA Go.Proofs.Ytfefpbnhpncmlaa.PtrE Go.Proofs.Ytfefpbnhpncmlaa.PtrF Go.Proofs.Ytfefpbnhpncmlaa.PBaseSigns Go.Proofs.YtfefpbnhpncmlaaW.PrintWords Go.Proofs.YtfefpbnhpncmlaaW.PrintLast Go.Proofs.YtfefpbnhpncmlaaW.PrintMore
set_option linter.unusedVariables false
set_option linter.unusedSimpArgs false

/-- What reading a value tells. -/
def TellsReadV (w : World) (L : List Int) (e : Ending) (w' : World) : Prop :=
  Below w.heap.size w w' ∧
  ((∃ v A nb c A2 ni c2, e = .returned (.tuple #[.agg #[.slice A nb c, .slice A2 ni c2], .int .i64 0]) ∧ VA w' A nb c A2 ni c2 v ∧ RightV v ∧ valL v = L) ∨
   (e = .returned (.tuple #[.agg #[.slice none 0 0, .slice none 0 0], .int .i64 11]) ∧ ∀ v0, OkV v0 → RightV v0 → valL v0 ≠ L))

/-- Reading goes along a value whose bytes these are. -/
def Goes (L : List Int) (j : Nat) (n : Int) (l : List Int) (bad : Bool) (blocks : List Ptr) : Prop :=
  ∀ v0, OkV v0 → RightV v0 → valL v0 = L → bad = false ∧ n = v0.blocks.length ∧ blocks = v0.blocks.take j ∧ l = (v0.blocks.drop j).flatMap ptrL ++ v0.inn

theorem goes_start (L : List Int) (hb : Byt L) : ∃ (n : Int) (l : List Int) (bad : Bool), fin [0] L #[.int .i64 0] = (#[.int .i64 n], l, bad) ∧ 0 ≤ n ∧ n ≤ 1152921504606846976 ∧ Goes L 0 n l bad [] ∧ (l.length ≤ L.length) := by
  have hbd := readShort_bound hb
  have key : ∀ v0, OkV v0 → RightV v0 → valL v0 = L → readShort L = ((v0.blocks.length : Int), glen v0.blocks.length, 0) ∧ L = shortL v0.blocks.length ++ (v0.blocks.flatMap ptrL ++ v0.inn) := by
    intro v0 h1 h2 h3
    have e : L = shortL v0.blocks.length ++ (v0.blocks.flatMap ptrL ++ v0.inn) := by rw [← h3, valL, List.append_assoc]
    refine ⟨?_, e⟩
    rw [e]
    exact readShort_shortL _ (by have := h2.1; omega) _
  by_cases hbs : badS L = true
  · refine ⟨0, L, true, by simp only [fin]; rw [if_pos hbs], by omega, by omega, ?_, Nat.le_refl _⟩
    intro v0 h1 h2 h3
    obtain ⟨e1, _⟩ := key v0 h1 h2 h3
    unfold badS at hbs
    rw [e1] at hbs
    have := h2.1
    simp at hbs
    omega
  · have hbs' : ¬ ((readShort L).2.2 ≠ 0 ∨ 1152921504606846976 < (readShort L).1) := by unfold badS at hbs; simpa using hbs
    refine ⟨(readShort L).1, L.drop (readShort L).2.1, false, by simp only [fin]; rw [if_neg hbs]; simp, hbd.1, by omega, ?_, by rw [List.length_drop]; omega⟩
    intro v0 h1 h2 h3
    obtain ⟨e1, e2⟩ := key v0 h1 h2 h3
    refine ⟨rfl, by rw [e1], by simp, ?_⟩
    rw [e1]
    simp only
    rw [List.drop_zero]
    conv => lhs; rw [e2]
    exact List.drop_left' rfl

theorem goes_step (L : List Int) (j : Nat) (n : Int) (l : List Int) (bad : Bool) (blocks : List Ptr) (h : Goes L j n l bad blocks) (hj : (j : Int) < n) :
    Goes L (j + 1) n (if (readP l).2 = 0 then l.drop 52 else l) (bad || decide ((readP l).2 ≠ 0)) (blocks ++ [(readP l).1]) := by
  intro v0 h1 h2 h3
  obtain ⟨e1, e2, e3, e4⟩ := h v0 h1 h2 h3
  have hlt : j < v0.blocks.length := by omega
  have hd : v0.blocks.drop j = v0.blocks[j] :: v0.blocks.drop (j + 1) := List.drop_eq_getElem_cons hlt
  have hl : Lays v0.blocks[j] := ⟨h1.blocks _ (List.getElem_mem _), .inl (h2.2.2 _ (List.getElem_mem _))⟩
  have hr : readP l = (v0.blocks[j], 0) := by
    rw [e4, hd]
    simp only [List.flatMap_cons, List.append_assoc]
    exact readP_ptrL hl _
  rw [hr]
  refine ⟨by simp [e1], e2, ?_, ?_⟩
  · rw [e3, List.take_add_one]
    simp [hlt]
  · simp only [if_pos]
    rw [e4, hd]
    simp only [List.flatMap_cons, List.append_assoc]
    exact List.drop_left' (ptrL_len hl.1)
theorem goes_end (L : List Int) (j : Nat) (n : Int) (l : List Int) (bad : Bool) (blocks : List Ptr) (h : Goes L j n l bad blocks) (hj : ¬ ((j : Int) < n ∧ bad = false ∧ j ≤ 8)) (hn : (j : Int) ≤ n) :
    ∀ v0, OkV v0 → RightV v0 → valL v0 = L → bad = false ∧ v0 = ⟨blocks, l⟩ := by
  intro v0 h1 h2 h3
  obtain ⟨e1, e2, e3, e4⟩ := h v0 h1 h2 h3
  have hl := h2.1
  have : j = v0.blocks.length := by
    rcases Int.lt_or_le (j : Int) n with h5 | h5
    · exact absurd ⟨h5, e1, by omega⟩ hj
    · omega
  subst this
  refine ⟨e1, ?_⟩
  rw [List.take_length] at e3
  rw [List.drop_length] at e4
  rw [e3, e4]
  rfl

/-- Where the walk stands. -/
structure IV (w : World) (g gv gn g2 : Nat) (n : Int) (l : List Int) (bad : Bool) (blocks : List Ptr) (vb : Value) (W : World) : Prop where
  rd : RD w g l bad W
  hv : W.heap[gv]? = some (.cells #[vb, .slice none 0 0] 40 (0, 0))
  hn : W.heap[gn]? = some (.cells #[.int .i64 n] 3 (0, 0))
  h2 : W.heap[g2]? = some (.cells #[.slice none 0 0, .slice none 0 0] 40 (0, 0))
  row : Kd.R kP 56 W w.heap.size (fun _ => True) vb blocks
  gle : w.heap.size ≤ gv
  ne : gv ≠ g ∧ gn ≠ g ∧ g2 ≠ g ∧ gn ≠ gv ∧ g2 ≠ gv
theorem IV.drew {w : World} {g gv gn g2 : Nat} {n : Int} {l : List Int} {bad : Bool} {blocks : List Ptr} {vb : Value} {W : World} (h : IV w g gv gn g2 n l bad blocks vb W) : IV w g gv gn g2 n l bad blocks vb W.drew :=
  ⟨h.rd.keep (below_drew h.rd.below) rfl, h.hv, h.hn, h.h2, Kd.R_below h.row (below_drew (Below.refl _ _)), h.gle, h.ne⟩
theorem IV.block {w : World} {g gv gn g2 : Nat} {n : Int} {l l' : List Int} {bad bad' : Bool} {blocks : List Ptr} {vb : Value} {W W1 : World} (h : IV w g gv gn g2 n l bad blocks vb W) (hr : RD w g l' bad' W1) (hk : KeepBut W W1 g none) : IV w g gv gn g2 n l' bad' blocks vb W1 := by
  obtain ⟨A, c, _, _, hg⟩ := h.rd.blk
  have hrow := Kd.R_mono (Kd.R_keep (Kd.R_types h.row hg (by intro q hq; simp [kP] at hq; omega)) hk (fun _ h => h.2)) (fun _ _ => trivial)
  exact ⟨hr, hk.blk h.hv h.ne.1 (by simp), hk.blk h.hn h.ne.2.1 (by simp), hk.blk h.h2 h.ne.2.2.1 (by simp), hrow, h.gle, h.ne⟩
theorem IV.push {w : World} {g gv gn g2 : Nat} {n : Int} {l : List Int} {bad : Bool} {blocks bl : List Ptr} {vb v1 : Value} {W W1 : World} (h : IV w g gv gn g2 n l bad blocks vb W) (hr : Kd.R kP 56 W1 w.heap.size (fun _ => True) v1 bl) (hb : Below w.heap.size w W1) (hg : W.grownBy W1 vb.ownBlock) :
    IV w g gv gn g2 n l bad bl v1 (W1.setCell ⟨gv, 0, none⟩ v1) := by
  obtain ⟨A, c, _, _, hgk⟩ := h.rd.blk
  have n1 := Kd.R_ne h.row h.hv (by decide)
  have n2 := Kd.R_ne h.row h.hn (by decide)
  have n3 := Kd.R_ne h.row h.h2 (by decide)
  have n4 := Kd.R_ne h.row hgk (by decide)
  have hv1 := blk_grown h.hv hg n1
  refine ⟨h.rd.keep (hb.setCell h.gle _) ?_, ?_, blk_far (blk_grown h.hn hg n2) (by simp; exact h.ne.2.2.2.1) _, blk_far (blk_grown h.h2 hg n3) (by simp; exact h.ne.2.2.2.2) _, Kd.R_set hr hv1 (by intro q hq; simp [kP] at hq; omega) 0 v1, h.gle, h.ne⟩
  · rw [Below.heap_setCell _ _ _ _ (by simp; exact fun e => h.ne.1 e.symm)]
    exact hg.block g h.rd.lt n4
  · rw [heap_setCell_same _ _ _ _ _ _ hv1]
    simp
theorem IV.on {w : World} {g gv gn g2 : Nat} {n : Int} {l : List Int} {bad : Bool} {blocks : List Ptr} {vb : Value} {W W1 : World} (h : IV w g gv gn g2 n l bad blocks vb W) (hb : Below W.heap.size W W1) : IV w g gv gn g2 n l bad blocks vb W1 :=
  ⟨h.rd.on hb, blk_below h.hv hb, blk_below h.hn hb, blk_below h.h2 hb, Kd.R_below h.row hb, h.gle, h.ne⟩

theorem conv_own {w : World} {base : Nat} {v : Value} {xs : List Int} (h : R8 w base v xs) : (convert 31 9 v).run Try.prog w = .ok (.string (strOfNums xs)) w :=
  own_string (P := Try.prog) Try.underlying31 Try.underlying5 Try.underlying9 (Kd.own_of_R h)
theorem bytes_str (l : List Int) (h : Byt l) : bytesOf (strOfNums l) = l := by
  simp only [bytesOf, strOfNums, List.map_map]
  refine (List.map_congr_left (g := id) fun x hx => ?_).trans (by simp)
  have := h x hx
  simp
  omega
theorem str_iff (l m : List Int) (hl : Byt l) (hm : Byt m) : ((strOfNums l).toList == (strOfNums m).toList) = decide (l = m) := by
  by_cases h : l = m
  · subst h
    simp
  · rw [decide_eq_false h]
    have h2 : strOfNums l ≠ strOfNums m := fun e => h (by rw [← bytes_str l hl, e, bytes_str m hm])
    rw [beq_eq_false_iff_ne]
    intro e
    rw [ByteArray.toList_eq, ByteArray.toList_eq] at e
    exact h2 (ByteArray.ext (Array.toList_inj.1 e))

/-- What has been read. -/
structure FV (w : World) (g gv g2 : Nat) (bad : Bool) (v : Val) (vb vi : Value) (W : World) : Prop where
  rd : ∃ x, W.heap[g]? = some (.cells #[x, .bool bad] 107 (0, 0))
  hv : W.heap[gv]? = some (.cells #[vb, vi] 40 (0, 0))
  h2 : W.heap[g2]? = some (.cells #[.slice none 0 0, .slice none 0 0] 40 (0, 0))
  below : Below w.heap.size w W
  row : Kd.R kP 56 W w.heap.size (fun _ => True) vb v.blocks
  inn : R8 W w.heap.size vi v.inn
  byt : Byt v.inn
  g2 : w.heap.size ≤ g2
theorem FV.on {w : World} {g gv g2 : Nat} {bad : Bool} {v : Val} {vb vi : Value} {W W1 : World} (h : FV w g gv g2 bad v vb vi W) (hb : Below W.heap.size W W1) : FV w g gv g2 bad v vb vi W1 := by
  obtain ⟨x, hx⟩ := h.rd
  exact ⟨⟨x, blk_below hx hb⟩, blk_below h.hv hb, blk_below h.h2 hb, below_then h.below h.below.size hb, Kd.R_below h.row hb, Kd.R_below h.inn hb, h.byt, h.g2⟩
theorem va_of {W : World} {B : Nat} {v : Val} {A : Option Addr} {nb cb : Nat} {A2 : Option Addr} {ni ci : Nat} (hr : Kd.R kP 56 W B (fun _ => True) (.slice A nb cb) v.blocks) (hi : R8 W B (.slice A2 ni ci) v.inn) (hb : Byt v.inn) : VA W A nb cb A2 ni ci v := by
  obtain ⟨A1, c1, e1, l1, k1⟩ := Kd.R_reads hr
  obtain ⟨A3, c3, e2, l2, k2⟩ := Kd.R_reads hi
  injection e1 with f1 f2 f3
  injection e2 with f4 f5 f6
  subst f1 f2 f3 f4 f5 f6
  exact ⟨k1, k2, l1, l2, rfl, rfl, ⟨CP_ok k1, hb⟩⟩
theorem FV.put {w : World} {g gv g2 : Nat} {bad : Bool} {v : Val} {A : Option Addr} {nb cb : Nat} {A2 : Option Addr} {ni ci : Nat} {W : World} (h : FV w g gv g2 bad v (.slice A nb cb) (.slice A2 ni ci) W) (cs : Array Value) : VA (W.setRow g2 cs) A nb cb A2 ni ci v := by
  have h1 := Kd.R_step (w1 := W.setRow g2 cs) (Kd.R_types h.row h.h2 (by intro q hq; simp [kP] at hq; omega)) (fun k hk _ => setRow_other _ _ _ _ hk.2)
  have h3 := Kd.R_step (w1 := W.setRow g2 cs) (Kd.R_types h.inn h.h2 (by intro q hq; simp [Kd.int, Kd.scalar] at hq; omega)) (fun k hk _ => setRow_other _ _ _ _ hk.2)
  exact va_of (Kd.R_mono h1 (fun _ _ => trivial)) (Kd.R_mono h3 (fun _ _ => trivial)) h.byt
theorem IV.fin {w : World} {g gv gn g2 : Nat} {n : Int} {l : List Int} {bad : Bool} {blocks : List Ptr} {vb vi : Value} {W W1 : World} (h : IV w g gv gn g2 n l bad blocks vb W) (hg : w.heap.size ≤ g2) (hr : R8 W1 w.heap.size vi l) (hb : Below W.heap.size W W1) :
    FV w g gv g2 bad ⟨blocks, l⟩ vb vi (W1.setCell ⟨gv, 1, none⟩ vi) := by
  have h1 := h.on hb
  obtain ⟨A, c, _, _, hgk⟩ := h1.rd.blk
  have hrow := Kd.R_set h1.row h1.hv (by intro q hq; simp [kP] at hq; omega) 1 vi
  have hr2 := Kd.R_set hr h1.hv (by intro q hq; simp [Kd.int, Kd.scalar] at hq; omega) 1 vi
  refine ⟨⟨_, blk_far hgk (by simp; exact fun e => h.ne.1 e.symm) _⟩, ?_, blk_far h1.h2 (by simp; exact h.ne.2.2.2.2) _, h1.rd.below.setCell h.gle _, hrow, hr2, h1.rd.byt, hg⟩
  rw [heap_setCell_same _ _ _ _ _ _ h1.hv]
  simp
theorem o40 (A : Option Addr) (n c : Nat) (A2 : Option Addr) (n2 c2 : Nat) : (#[.slice A n c, .slice A2 n2 c2] : Array Value).all (·.oneCell') = true := by simp [Value.oneCell']
theorem i40 (a b : Value) : (Try.prog.info? 40).map (·.size) = some (#[a, b] : Array Value).size := by kernel_rfl

set_option maxRecDepth 100000 in
set_option maxHeartbeats 1000000 in
theorem readV_calls (A : Option Addr) (c n : Nat) (L : List Int) (hn : n = L.length) (w : World) (hr : C8 w A n L) (hb : Byt L) (hc : n ≤ c) (hm : n ≤ 10000) :
    Calls Try.prog 26 #[.slice A n c] w (TellsReadV w L) := by
  subst hn
  have HC := Aside0.mk (And.intro hr (And.intro hb hc))
  obtain ⟨P, hP⟩ : ∃ P : Ending → World → Prop, P = TellsReadV w L := ⟨_, rfl⟩
  rw [← hP]
  have HP := Aside0.mk hP
  obtain ⟨n1, l1, bad1, hfin, hn0, hn1, hgoes, hlen1⟩ := goes_start L hb
  have HF := Aside0.mk (And.intro hfin (And.intro hgoes hlen1))
  have g0 := blk_new w (.cells #[.slice none 0 0, .slice none 0 0] 40)
  have g1 := blk_new (w.alloc (.cells #[.slice none 0 0, .slice none 0 0] 40)) (.cells #[.slice A L.length c, .bool false] 107)
  have g2 := blk_new ((w.alloc (.cells #[.slice none 0 0, .slice none 0 0] 40)).alloc (.cells #[.slice A L.length c, .bool false] 107)) (.cells #[.int .i64 0] 3)
  have g3 := blk_new (((w.alloc (.cells #[.slice none 0 0, .slice none 0 0] 40)).alloc (.cells #[.slice A L.length c, .bool false] 107)).alloc (.cells #[.int .i64 0] 3)) (.cells #[.pointer (some ⟨w.heap.size + 1 + 1, 0, none⟩)] 109)
  have s1 : (w.alloc (.cells #[.slice none 0 0, .slice none 0 0] 40)).heap.size = w.heap.size + 1 := by simp
  have s2 : ((w.alloc (.cells #[.slice none 0 0, .slice none 0 0] 40)).alloc (.cells #[.slice A L.length c, .bool false] 107)).heap.size = w.heap.size + 1 + 1 := by simp
  have s3 : (((w.alloc (.cells #[.slice none 0 0, .slice none 0 0] 40)).alloc (.cells #[.slice A L.length c, .bool false] 107)).alloc (.cells #[.int .i64 0] 3)).heap.size = w.heap.size + 1 + 1 + 1 := by simp
  rw [s1] at g1
  rw [s2] at g2
  rw [s3] at g3
  have B4 : Below w.heap.size w ((((w.alloc (.cells #[.slice none 0 0, .slice none 0 0] 40)).alloc (.cells #[.slice A L.length c, .bool false] 107)).alloc (.cells #[.int .i64 0] 3)).alloc (.cells #[.pointer (some ⟨w.heap.size + 1 + 1, 0, none⟩)] 109)) := ((((Below.refl w.heap.size w).alloc (Nat.le_refl _) _).alloc (by simp) _).alloc (by simp; omega) _).alloc (by simp; omega) _
  have h0 := blk_alloc (blk_alloc (blk_alloc g0 (.cells #[.slice A L.length c, .bool false] 107)) (.cells #[.int .i64 0] 3)) (.cells #[.pointer (some ⟨w.heap.size + 1 + 1, 0, none⟩)] 109)
  have h1 := blk_alloc (blk_alloc g1 (.cells #[.int .i64 0] 3)) (.cells #[.pointer (some ⟨w.heap.size + 1 + 1, 0, none⟩)] 109)
  have h2 := blk_alloc g2 (.cells #[.pointer (some ⟨w.heap.size + 1 + 1, 0, none⟩)] 109)
  have HB4 := Aside0.mk (And.intro B4 (And.intro h0 (And.intro h1 (And.intro h2 g3))))
  clear hr hb hc hP hfin hgoes g0 g1 g2 g3 s1 s2 s3 B4 h0 h1 h2 hlen1
  go_enter Try.func26, Try.ntmps26
  go_wp2_with fail
  refine (numbers_calls w (w.heap.size + 1) (w.heap.size + 1 + 1) (w.heap.size + 1 + 1 + 1) 1 3 [0] rfl L false #[.int .i64 0] _ ⟨HB4.out.1, ⟨A, c, HC.out.1, HC.out.2.2, HB4.out.2.2.1⟩, Nat.le_succ _, HC.out.2.1, by omega⟩ (by omega) HB4.out.2.2.2.1 (by omega) HB4.out.2.2.2.2 (by omega) (by omega) (by intro o ho; simp at ho; subst ho; exact ⟨0, rfl⟩) (by decide)).mono ?_
  rintro e w1 ⟨rfl, hrd, hcells, hkeep⟩
  rw [HF.out.1] at hrd hcells
  have hb1 : (false || bad1) = bad1 := rfl
  have hsz1 := blk_lt hcells
  have hIV : IV w (w.heap.size + 1) w1.heap.size (w.heap.size + 1 + 1) w.heap.size n1 l1 bad1 [] (.slice none 0 0) (w1.alloc (.cells #[.slice none 0 0, .slice none 0 0] 40)) := by
    refine ⟨?_, blk_new _ _, blk_alloc hcells _, blk_alloc (hkeep.blk HB4.out.2.1 (by omega) (by simp; omega)) _, Kd.R_nil _ _ _ _ _, by omega, by omega, by omega, by omega, by omega, by omega⟩
    exact RD.on hrd (below_alloc (Below.refl _ _) _)
  have H0 := Aside0.mk hIV
  clear hrd hcells hkeep hIV hb1 HB4
  go_wp2
  generalize hG : w.heap.size + 1 = g at *
  generalize hGN : g + 1 = gn at *
  generalize hGV : w1.heap.size = gv at *
  have HGG := Aside0.mk (And.intro hG (And.intro hGN hGV))
  clear hG hGN hGV

  go_loopw [7] (fun v7 wr => ∃ (j : Nat) (l : List Int) (bad : Bool) (blocks : List Ptr) (vb : Value), v7 = .int .i64 (j : Int) ∧ j ≤ 9 ∧ (j : Int) ≤ n1 ∧ Aside0 (IV w g gv gn w.heap.size n1 l bad blocks vb wr ∧ Goes L j n1 l bad blocks ∧ blocks.length = j ∧ l.length ≤ L.length)) (fun v _ => 10 - (intOf v).toNat)
  case atStart => exact ⟨0, l1, bad1, [], .slice none 0 0, rfl, by decide, by omega, ⟨H0.out, HF.out.2.1, rfl, HF.out.2.2⟩⟩
  case round =>
    obtain ⟨j, l, bad, blocks, vb, rfl, hj9, hjn, H⟩ := hrel
    clear H0
    have x5 : wr.cell? ⟨gn, 0, none⟩ = some (.int .i64 n1) := by rw [cell_of_row _ _ 0 _ 3 (0, 0) H.out.1.hn]; rfl
    obtain ⟨A1, c1, hC1, hlc1, hg1⟩ := H.out.1.rd.blk
    have xb : wr.cell? ⟨g, 1, none⟩ = some (.bool bad) := by rw [cell_of_row _ _ 1 _ 107 (0, 0) hg1]; rfl
    have xr : wr.cell? ⟨g, 0, none⟩ = some (.slice A1 l.length c1) := by rw [cell_of_row _ _ 0 _ 107 (0, 0) hg1]; rfl
    have HG1 := Aside0.mk (And.intro hC1 (And.intro hlc1 hg1))
    clear hC1 hlc1 hg1
    by_cases hgo : (j : Int) < n1 ∧ bad = false ∧ j ≤ 8
    · obtain ⟨hlt, hbf, hj8⟩ := hgo
      subst hbf
      have HD := Aside0.mk H.out.1.drew
      clear xr
      go_wp2
      refine wp_region_held_drew (S := fun _ => True) (by kernel_rfl) trivial (fun hW => ?_)
      generalize wr.drew = W at *
      refine wpAnyH_take (i := 0) (oi := ⟨some 30, _, _, _, _, _⟩) (v := .pointer (some ⟨gv, 0, none⟩)) rfl (by kernel_rfl) (by kernel_rfl) (by kernel_rfl) (fun _ _ _ h => h) (.inl ⟨by rfl, fun W1 h1 => by go_simp⟩) trivial ?_
      try simp only [Act.put, List.setIfInBounds_toArray, List.set_cons_zero, List.set_cons_succ]
      refine wpAnyH_take (i := 2) (oi := ⟨some 32, _, _, _, _, _⟩) (v := .pointer (some ⟨g, 0, none⟩)) rfl (by kernel_rfl) (by kernel_rfl) (by kernel_rfl) (fun _ _ _ h => h) (.inl ⟨by rfl, fun W1 h1 => by go_simp⟩) trivial ?_
      try simp only [Act.put, List.setIfInBounds_toArray, List.set_cons_zero, List.set_cons_succ]
      refine wpAnyH_ready (rs := [1, 3]) (by kernel_rfl) (by simp) (AllReadyH.cons rfl (fun K1_0 hK1_0 => ?_) (AllReadyH.cons rfl (fun K1_1 hK1_1 => ?_) AllReadyH.nil))
      · skip
        have x6 : W.cell? ⟨gv, 0, none⟩ = some vb := by rw [cell_of_row _ _ 0 _ 40 (0, 0) HD.out.hv]; rfl
        go_simp
        clear x6
        refine hK1_0.out _ _ trivial (fun _ => ?_)
        try simp only [Act.put, List.setIfInBounds_toArray, List.set_cons_zero, List.set_cons_succ]
        refine wpAnyH_ready (rs := [3]) (by kernel_rfl) (by simp) (AllReadyH.cons rfl (fun K2_0 hK2_0 => ?_) AllReadyH.nil)
        go_simp
        refine (block_calls w g l false W HD.out.rd).mono ?_
        rintro e W1 ⟨rfl, hrd1, hkp1⟩
        have H1 := Aside0.mk (HD.out.block hrd1 hkp1)
        have hpk := Aside0.mk (readP_ok HD.out.rd.byt)
        have hgs := Aside0.mk (goes_step L j n1 l false blocks H.out.2.1 hlt)
        have hll : Aside0 ((if (readP l).2 = 0 then l.drop 52 else l).length ≤ L.length) := ⟨by have := H.out.2.2.2; split <;> (try rw [List.length_drop]) <;> omega⟩
        clear hrd1 hkp1
        generalize (if (readP l).2 = 0 then l.drop 52 else l) = l2 at *
        generalize (false || decide ((readP l).2 ≠ 0)) = bad2 at *
        generalize (readP l).1 = pt at *
        refine hK2_0.out _ _ trivial (fun _ => ?_)
        try simp only [Act.put, List.setIfInBounds_toArray, List.set_cons_zero, List.set_cons_succ]
        refine wpAnyH_ready (rs := [4]) (by kernel_rfl) (by simp) (AllReadyH.cons rfl (fun K3_0 hK3_0 => ?_) AllReadyH.nil)
        refine wp_one_P (o := ⟨some 34, _, _, _, _, _⟩) (.tmp 33) rfl pt hpk.out rfl ?_
        refine hK3_0.out _ _ trivial (fun _ => ?_)
        try simp only [Act.put, List.setIfInBounds_toArray, List.set_cons_zero, List.set_cons_succ]
        refine wpAnyH_ready (rs := [5]) (by kernel_rfl) (by simp) (AllReadyH.cons rfl (fun K4_0 hK4_0 => ?_) AllReadyH.nil)
        refine wp_append_P (o := ⟨some 35, _, _, _, _, _⟩) (w0 := w) w.heap.size (.tmp 31) (.tmp 34) rfl vb blocks pt hpk.out rfl rfl H1.out.row H1.out.rd.below H1.out.rd.below.size (by have := H.out.2.2.1; omega) ?_
        intro v2 W2 hr2 hb2 hg2
        obtain ⟨A2_, c2_, hv2e⟩ := Kd.R_slice hr2
        generalize (blocks ++ [pt]).length = nb2 at hv2e
        subst hv2e
        have H2 := Aside0.mk (H1.out.push hr2 hb2 hg2)
        have n1_ := Kd.R_ne H1.out.row H1.out.hv (by decide)
        have hv2 := blk_grown H1.out.hv hg2 n1_
        have x7 : W2.cell? ⟨gv, 0, none⟩ = some vb := by rw [cell_of_row _ _ 0 _ 40 (0, 0) hv2]; rfl
        have f7 := frozen_of_row W2 gv 0 _ 40 hv2
        clear hr2 hb2 hg2 n1_ hv2
        refine hK4_0.out _ _ trivial (fun _ => ?_)
        try simp only [Act.put, List.setIfInBounds_toArray, List.set_cons_zero, List.set_cons_succ]
        refine wpAnyH_take (i := 6) (oi := ⟨some 36, _, _, _, _, _⟩) (v := .pointer (some ⟨gv, 0, none⟩)) rfl (by kernel_rfl) (by kernel_rfl) (by kernel_rfl) (fun _ _ _ h => h) (.inl ⟨by rfl, fun W1 h1 => by go_simp⟩) trivial ?_
        try simp only [Act.put, List.setIfInBounds_toArray, List.set_cons_zero, List.set_cons_succ]
        refine wpAnyH_ready (rs := [7]) (by kernel_rfl) (by simp) (AllReadyH.cons rfl (fun K5_0 hK5_0 => ?_) AllReadyH.nil)
        go_simp
        refine hK5_0.out _ _ trivial (fun _ => ?_)
        try simp only [Act.put, List.setIfInBounds_toArray, List.set_cons_zero, List.set_cons_succ]
        refine wpAnyH_done (by kernel_rfl) ?_ _
        clear x7 f7
        go_wp2
        go_roundw
        case rel => exact ⟨j + 1, l2, bad2, blocks ++ [pt], _, by go_num, by omega, by omega, ⟨H2.out, hgs.out, by rw [List.length_append, H.out.2.2.1]; rfl, hll.out⟩⟩
        case measure => simp [intOf]; omega
      · skip
        go_simp
        refine (block_calls w g l false W HD.out.rd).mono ?_
        rintro e W1 ⟨rfl, hrd1, hkp1⟩
        have H1 := Aside0.mk (HD.out.block hrd1 hkp1)
        have hpk := Aside0.mk (readP_ok HD.out.rd.byt)
        have hgs := Aside0.mk (goes_step L j n1 l false blocks H.out.2.1 hlt)
        have hll : Aside0 ((if (readP l).2 = 0 then l.drop 52 else l).length ≤ L.length) := ⟨by have := H.out.2.2.2; split <;> (try rw [List.length_drop]) <;> omega⟩
        clear hrd1 hkp1
        generalize (if (readP l).2 = 0 then l.drop 52 else l) = l2 at *
        generalize (false || decide ((readP l).2 ≠ 0)) = bad2 at *
        generalize (readP l).1 = pt at *
        refine hK1_1.out _ _ trivial (fun _ => ?_)
        try simp only [Act.put, List.setIfInBounds_toArray, List.set_cons_zero, List.set_cons_succ]
        refine wpAnyH_ready (rs := [1, 4]) (by kernel_rfl) (by simp) (AllReadyH.cons rfl (fun K6_0 hK6_0 => ?_) (AllReadyH.cons rfl (fun K6_1 hK6_1 => ?_) AllReadyH.nil))
        · skip
          have x6 : W1.cell? ⟨gv, 0, none⟩ = some vb := by rw [cell_of_row _ _ 0 _ 40 (0, 0) H1.out.hv]; rfl
          go_simp
          clear x6
          refine hK6_0.out _ _ trivial (fun _ => ?_)
          try simp only [Act.put, List.setIfInBounds_toArray, List.set_cons_zero, List.set_cons_succ]
          refine wpAnyH_ready (rs := [4]) (by kernel_rfl) (by simp) (AllReadyH.cons rfl (fun K7_0 hK7_0 => ?_) AllReadyH.nil)
          refine wp_one_P (o := ⟨some 34, _, _, _, _, _⟩) (.tmp 33) rfl pt hpk.out rfl ?_
          refine hK7_0.out _ _ trivial (fun _ => ?_)
          try simp only [Act.put, List.setIfInBounds_toArray, List.set_cons_zero, List.set_cons_succ]
          refine wpAnyH_ready (rs := [5]) (by kernel_rfl) (by simp) (AllReadyH.cons rfl (fun K8_0 hK8_0 => ?_) AllReadyH.nil)
          refine wp_append_P (o := ⟨some 35, _, _, _, _, _⟩) (w0 := w) w.heap.size (.tmp 31) (.tmp 34) rfl vb blocks pt hpk.out rfl rfl H1.out.row H1.out.rd.below H1.out.rd.below.size (by have := H.out.2.2.1; omega) ?_
          intro v2 W2 hr2 hb2 hg2
          obtain ⟨A2_, c2_, hv2e⟩ := Kd.R_slice hr2
          generalize (blocks ++ [pt]).length = nb2 at hv2e
          subst hv2e
          have H2 := Aside0.mk (H1.out.push hr2 hb2 hg2)
          have n1_ := Kd.R_ne H1.out.row H1.out.hv (by decide)
          have hv2 := blk_grown H1.out.hv hg2 n1_
          have x7 : W2.cell? ⟨gv, 0, none⟩ = some vb := by rw [cell_of_row _ _ 0 _ 40 (0, 0) hv2]; rfl
          have f7 := frozen_of_row W2 gv 0 _ 40 hv2
          clear hr2 hb2 hg2 n1_ hv2
          refine hK8_0.out _ _ trivial (fun _ => ?_)
          try simp only [Act.put, List.setIfInBounds_toArray, List.set_cons_zero, List.set_cons_succ]
          refine wpAnyH_take (i := 6) (oi := ⟨some 36, _, _, _, _, _⟩) (v := .pointer (some ⟨gv, 0, none⟩)) rfl (by kernel_rfl) (by kernel_rfl) (by kernel_rfl) (fun _ _ _ h => h) (.inl ⟨by rfl, fun W1 h1 => by go_simp⟩) trivial ?_
          try simp only [Act.put, List.setIfInBounds_toArray, List.set_cons_zero, List.set_cons_succ]
          refine wpAnyH_ready (rs := [7]) (by kernel_rfl) (by simp) (AllReadyH.cons rfl (fun K9_0 hK9_0 => ?_) AllReadyH.nil)
          go_simp
          refine hK9_0.out _ _ trivial (fun _ => ?_)
          try simp only [Act.put, List.setIfInBounds_toArray, List.set_cons_zero, List.set_cons_succ]
          refine wpAnyH_done (by kernel_rfl) ?_ _
          clear x7 f7
          go_wp2
          go_roundw
          case rel => exact ⟨j + 1, l2, bad2, blocks ++ [pt], _, by go_num, by omega, by omega, ⟨H2.out, hgs.out, by rw [List.length_append, H.out.2.2.1]; rfl, hll.out⟩⟩
          case measure => simp [intOf]; omega
        · skip
          refine wp_one_P (o := ⟨some 34, _, _, _, _, _⟩) (.tmp 33) rfl pt hpk.out rfl ?_
          refine hK6_1.out _ _ trivial (fun _ => ?_)
          try simp only [Act.put, List.setIfInBounds_toArray, List.set_cons_zero, List.set_cons_succ]
          refine wpAnyH_ready (rs := [1]) (by kernel_rfl) (by simp) (AllReadyH.cons rfl (fun K10_0 hK10_0 => ?_) AllReadyH.nil)
          have x6 : (W1.alloc (.cells (encP pt) 56)).cell? ⟨gv, 0, none⟩ = some vb := by rw [cell_of_row _ _ 0 _ 40 (0, 0) (blk_alloc H1.out.hv _)]; rfl
          go_simp
          clear x6
          refine hK10_0.out _ _ trivial (fun _ => ?_)
          try simp only [Act.put, List.setIfInBounds_toArray, List.set_cons_zero, List.set_cons_succ]
          refine wpAnyH_ready (rs := [5]) (by kernel_rfl) (by simp) (AllReadyH.cons rfl (fun K11_0 hK11_0 => ?_) AllReadyH.nil)
          refine wp_append_P (o := ⟨some 35, _, _, _, _, _⟩) (w0 := w) w.heap.size (.tmp 31) (.tmp 34) rfl vb blocks pt hpk.out rfl rfl H1.out.row H1.out.rd.below H1.out.rd.below.size (by have := H.out.2.2.1; omega) ?_
          intro v2 W2 hr2 hb2 hg2
          obtain ⟨A2_, c2_, hv2e⟩ := Kd.R_slice hr2
          generalize (blocks ++ [pt]).length = nb2 at hv2e
          subst hv2e
          have H2 := Aside0.mk (H1.out.push hr2 hb2 hg2)
          have n1_ := Kd.R_ne H1.out.row H1.out.hv (by decide)
          have hv2 := blk_grown H1.out.hv hg2 n1_
          have x7 : W2.cell? ⟨gv, 0, none⟩ = some vb := by rw [cell_of_row _ _ 0 _ 40 (0, 0) hv2]; rfl
          have f7 := frozen_of_row W2 gv 0 _ 40 hv2
          clear hr2 hb2 hg2 n1_ hv2
          refine hK11_0.out _ _ trivial (fun _ => ?_)
          try simp only [Act.put, List.setIfInBounds_toArray, List.set_cons_zero, List.set_cons_succ]
          refine wpAnyH_take (i := 6) (oi := ⟨some 36, _, _, _, _, _⟩) (v := .pointer (some ⟨gv, 0, none⟩)) rfl (by kernel_rfl) (by kernel_rfl) (by kernel_rfl) (fun _ _ _ h => h) (.inl ⟨by rfl, fun W1 h1 => by go_simp⟩) trivial ?_
          try simp only [Act.put, List.setIfInBounds_toArray, List.set_cons_zero, List.set_cons_succ]
          refine wpAnyH_ready (rs := [7]) (by kernel_rfl) (by simp) (AllReadyH.cons rfl (fun K12_0 hK12_0 => ?_) AllReadyH.nil)
          go_simp
          refine hK12_0.out _ _ trivial (fun _ => ?_)
          try simp only [Act.put, List.setIfInBounds_toArray, List.set_cons_zero, List.set_cons_succ]
          refine wpAnyH_done (by kernel_rfl) ?_ _
          clear x7 f7
          go_wp2
          go_roundw
          case rel => exact ⟨j + 1, l2, bad2, blocks ++ [pt], _, by go_num, by omega, by omega, ⟨H2.out, hgs.out, by rw [List.length_append, H.out.2.2.1]; rfl, hll.out⟩⟩
          case measure => simp [intOf]; omega
    · have HEnd := Aside0.mk (goes_end L j n1 l bad blocks H.out.2.1 hgo hjn)
      have hs0 := Aside0.mk H.out.1.rd.below.size
      have HR := Aside0.mk (Kd.C_below (Kd.C_below HG1.out.1 H.out.1.rd.below) (below_alloc (Below.refl wr.heap.size wr) (.cells #[] 5)))
      have HO := Aside0.mk (R8_new wr wr.heap.size (Nat.le_refl _) [] (by simp))
      have HB := Aside0.mk (below_alloc (Below.refl wr.heap.size wr) (.cells #[] 5))
      have hs : wr.heap.size ≤ (wr.alloc (.cells #[] 5)).heap.size := by simp
      have hll := Aside0.mk H.out.2.2.2
      have hlen : l.length ≤ 100000 := by have := hll.out; omega
      have hglt : g < wr.heap.size := H.out.1.rd.lt
      obtain ⟨Ab, cb, hvb⟩ := Kd.R_slice H.out.1.row
      have HVB := Aside0.mk hvb
      have hgvlt := blk_lt H.out.1.hv
      have xv1 : wr.cell? ⟨gv, 1, none⟩ = some (.slice none 0 0) := by rw [cell_of_row _ _ 1 _ 40 (0, 0) H.out.1.hv]; rfl
      clear hvb

      have key : ∀ (K : Prop), (bad = true → K) → (bad = false → K) → K := fun K a b => by
        cases hb : bad with
        | true => exact a hb
        | false => exact b hb
      refine key _ (fun h0 => ?_) (fun h0 => ?_)
      · subst h0
        clear key
        by_cases h1 : (j : Int) < n1
        all_goals
          clear hgo
          go_wp2_with (at_builtin; refine appRow (w0 := wr) wr.heap.size rfl (.tmp 37) (.tmp 41) rfl _ [] l A1 l.length c1 rfl rfl HO.out HR.out HB.out hs (by simp; omega) ?_; intro vi w2 ho hb hgr; obtain ⟨Ai, ci, hvi⟩ := Kd.R_slice ho; generalize ([] ++ l).length = ni at hvi; subst hvi; have H2 := Aside0.mk (H.out.1.fin (Nat.le_refl _) (Kd.R_lower (base' := w.heap.size) ho hs0.out) hb); have xw1 := (hb.cell (p := ⟨gv, 1, none⟩) hgvlt).trans xv1; have fw1 := frozen_of_row w2 gv 1 _ 40 (blk_below H.out.1.hv hb); clear ho hb hgr)
          have hjb := Aside0.mk H.out.2.2.1
          clear HR HO HB hs xv1 xw1 fw1 H xb xr x5
          generalize w2.setCell ⟨gv, 1, none⟩ (.slice Ai ni ci) = W3 at *
          obtain ⟨Av, cbv, hvb⟩ := Kd.R_slice H2.out.row
          generalize (⟨blocks, l⟩ : Val).blocks.length = nb at hvb
          subst hvb
          have HVA := Aside0.mk (va_of H2.out.row H2.out.inn H2.out.byt)
          have hnb : nb ≤ 1000 := by have h := HVA.out.nb; rw [h]; show blocks.length ≤ 1000; have := hjb.out; omega
          have hni : ni ≤ 10000 := by have h := HVA.out.ni; rw [h]; show l.length ≤ 10000; have := hll.out; omega
          obtain ⟨xg, hxg⟩ := H2.out.rd
          have HXG := Aside0.mk hxg
          clear hxg
          refine wp_region_held_drew (S := fun w' => Below W3.heap.size W3 w') (by kernel_rfl) (below_drew (Below.refl _ _)) (fun hW => ?_)
          refine wpAnyH_take (i := 0) (oi := ⟨some 44, _, _, _, _, _⟩) (v := .pointer (some ⟨g, 0, none⟩)) rfl (by kernel_rfl) (by kernel_rfl) (by kernel_rfl) (fun _ _ _ h => h) (.inl ⟨by rfl, fun W1 h1 => by go_simp⟩) hW ?_
          try simp only [Act.put, List.setIfInBounds_toArray, List.set_cons_zero, List.set_cons_succ]
          refine wpAnyH_take (i := 1) (oi := ⟨some 45, _, _, _, _, _⟩) (v := .pointer (some ⟨g, 0, none⟩)) rfl (by kernel_rfl) (by kernel_rfl) (by kernel_rfl) (fun _ _ _ h => h) (.inl ⟨by rfl, fun W1 h1 => by go_simp⟩) hW ?_
          try simp only [Act.put, List.setIfInBounds_toArray, List.set_cons_zero, List.set_cons_succ]
          refine wpAnyH_take (i := 2) (oi := ⟨some 46, _, _, _, _, _⟩) (v := .pointer (some ⟨g, 1, none⟩)) rfl (by kernel_rfl) (by kernel_rfl) (by kernel_rfl) (fun _ _ _ h => h) (.inl ⟨by rfl, fun W1 h1 => by go_simp⟩) hW ?_
          try simp only [Act.put, List.setIfInBounds_toArray, List.set_cons_zero, List.set_cons_succ]
          refine wpAnyH_take (i := 3) (oi := ⟨some 47, _, _, _, _, _⟩) (v := .bool true) rfl (by kernel_rfl) (by kernel_rfl) (by kernel_rfl) (fun _ _ _ h => h) (.inl ⟨by rfl, fun W1 h1 => by (have x1 : W1.cell? ⟨g, 1, none⟩ = some (.bool true) := (by rw [cell_of_row _ _ 1 _ 107 (0, 0) (blk_below HXG.out h1)]; rfl)); go_simp⟩) hW ?_
          try simp only [Act.put, List.setIfInBounds_toArray, List.set_cons_zero, List.set_cons_succ]
          refine wpAnyH_take (i := 4) (oi := ⟨some 48, _, _, _, _, _⟩) (v := .bool true) rfl (by kernel_rfl) (by kernel_rfl) (by kernel_rfl) (fun _ _ _ h => h) (.inl ⟨by rfl, fun W1 h1 => by go_simp⟩) hW ?_
          try simp only [Act.put, List.setIfInBounds_toArray, List.set_cons_zero, List.set_cons_succ]
          refine wpAnyH_take (i := 5) (oi := ⟨some 49, _, _, _, _, _⟩) (v := undef) rfl (by kernel_rfl) (by kernel_rfl) (by kernel_rfl) (fun _ _ _ h => h) (.inr ⟨by rfl, rfl⟩) hW ?_
          try simp only [Act.put, List.setIfInBounds_toArray, List.set_cons_zero, List.set_cons_succ]
          refine wpAnyH_take (i := 6) (oi := ⟨some 50, _, _, _, _, _⟩) (v := undef) rfl (by kernel_rfl) (by kernel_rfl) (by kernel_rfl) (fun _ _ _ h => h) (.inr ⟨by rfl, rfl⟩) hW ?_
          try simp only [Act.put, List.setIfInBounds_toArray, List.set_cons_zero, List.set_cons_succ]
          refine wpAnyH_take (i := 7) (oi := ⟨some 51, _, _, _, _, _⟩) (v := undef) rfl (by kernel_rfl) (by kernel_rfl) (by kernel_rfl) (fun _ _ _ h => h) (.inr ⟨by rfl, rfl⟩) hW ?_
          try simp only [Act.put, List.setIfInBounds_toArray, List.set_cons_zero, List.set_cons_succ]
          refine wpAnyH_take (i := 8) (oi := ⟨some 52, _, _, _, _, _⟩) (v := .bool true) rfl (by kernel_rfl) (by kernel_rfl) (by kernel_rfl) (fun _ _ _ h => h) (.inl ⟨by rfl, fun W1 h1 => by go_simp⟩) hW ?_
          try simp only [Act.put, List.setIfInBounds_toArray, List.set_cons_zero, List.set_cons_succ]
          refine wpAnyH_take (i := 9) (oi := ⟨some 53, _, _, _, _, _⟩) (v := .bool true) rfl (by kernel_rfl) (by kernel_rfl) (by kernel_rfl) (fun _ _ _ h => h) (.inl ⟨by rfl, fun W1 h1 => by go_simp⟩) hW ?_
          try simp only [Act.put, List.setIfInBounds_toArray, List.set_cons_zero, List.set_cons_succ]
          refine wpAnyH_take (i := 10) (oi := ⟨some 54, _, _, _, _, _⟩) (v := undef) rfl (by kernel_rfl) (by kernel_rfl) (by kernel_rfl) (fun _ _ _ h => h) (.inr ⟨by rfl, rfl⟩) hW ?_
          try simp only [Act.put, List.setIfInBounds_toArray, List.set_cons_zero, List.set_cons_succ]
          refine wpAnyH_take (i := 11) (oi := ⟨some 55, _, _, _, _, _⟩) (v := undef) rfl (by kernel_rfl) (by kernel_rfl) (by kernel_rfl) (fun _ _ _ h => h) (.inr ⟨by rfl, rfl⟩) hW ?_
          try simp only [Act.put, List.setIfInBounds_toArray, List.set_cons_zero, List.set_cons_succ]
          refine wpAnyH_take (i := 12) (oi := ⟨some 56, _, _, _, _, _⟩) (v := undef) rfl (by kernel_rfl) (by kernel_rfl) (by kernel_rfl) (fun _ _ _ h => h) (.inr ⟨by rfl, rfl⟩) hW ?_
          try simp only [Act.put, List.setIfInBounds_toArray, List.set_cons_zero, List.set_cons_succ]
          refine wpAnyH_take (i := 13) (oi := ⟨some 57, _, _, _, _, _⟩) (v := undef) rfl (by kernel_rfl) (by kernel_rfl) (by kernel_rfl) (fun _ _ _ h => h) (.inr ⟨by rfl, rfl⟩) hW ?_
          try simp only [Act.put, List.setIfInBounds_toArray, List.set_cons_zero, List.set_cons_succ]
          refine wpAnyH_take (i := 14) (oi := ⟨some 58, _, _, _, _, _⟩) (v := undef) rfl (by kernel_rfl) (by kernel_rfl) (by kernel_rfl) (fun _ _ _ h => h) (.inr ⟨by rfl, rfl⟩) hW ?_
          try simp only [Act.put, List.setIfInBounds_toArray, List.set_cons_zero, List.set_cons_succ]
          refine wpAnyH_take (i := 15) (oi := ⟨some 59, _, _, _, _, _⟩) (v := undef) rfl (by kernel_rfl) (by kernel_rfl) (by kernel_rfl) (fun _ _ _ h => h) (.inr ⟨by rfl, rfl⟩) hW ?_
          try simp only [Act.put, List.setIfInBounds_toArray, List.set_cons_zero, List.set_cons_succ]
          refine wpAnyH_take (i := 16) (oi := ⟨some 60, _, _, _, _, _⟩) (v := .bool true) rfl (by kernel_rfl) (by kernel_rfl) (by kernel_rfl) (fun _ _ _ h => h) (.inl ⟨by rfl, fun W1 h1 => by go_simp⟩) hW ?_
          try simp only [Act.put, List.setIfInBounds_toArray, List.set_cons_zero, List.set_cons_succ]
          refine wpAnyH_done (by kernel_rfl) ?_ _
          have HF3 := Aside0.mk (H2.out.on hW)
          go_wp2_with (refine wpList_store_same rfl 40 (.tmp 2) (.tmp 61) rfl w.heap.size #[.slice none 0 0, .slice none 0 0] rfl rfl 40 HF3.out.h2 (i40 _ _) (o40 _ _ _ _ _ _) ?_)
          refine bodyPost_ret (res_ct (p := 2) (q := 3) _ rfl rfl HF3.out.h2 Try.underlying40 rfl (i40 _ _)) rfl ?_
          rw [HP.out]
          refine ⟨HF3.out.below, .inr ⟨rfl, fun v0 a0 a1 a2 => ?_⟩⟩
          obtain ⟨e1, e2⟩ := HEnd.out v0 a0 a1 a2
          exact absurd e1 (by decide)
      · subst h0
        clear key
        by_cases h1 : (j : Int) < n1
        case' pos => have h3 : ¬ j ≤ 8 := fun h => hgo ⟨h1, rfl, h⟩
        all_goals
          clear hgo
          go_wp2_with (at_builtin; refine appRow (w0 := wr) wr.heap.size rfl (.tmp 37) (.tmp 41) rfl _ [] l A1 l.length c1 rfl rfl HO.out HR.out HB.out hs (by simp; omega) ?_; intro vi w2 ho hb hgr; obtain ⟨Ai, ci, hvi⟩ := Kd.R_slice ho; generalize ([] ++ l).length = ni at hvi; subst hvi; have H2 := Aside0.mk (H.out.1.fin (Nat.le_refl _) (Kd.R_lower (base' := w.heap.size) ho hs0.out) hb); have xw1 := (hb.cell (p := ⟨gv, 1, none⟩) hgvlt).trans xv1; have fw1 := frozen_of_row w2 gv 1 _ 40 (blk_below H.out.1.hv hb); clear ho hb hgr)
          have hjb := Aside0.mk H.out.2.2.1
          clear HR HO HB hs xv1 xw1 fw1 H xb xr x5
          generalize w2.setCell ⟨gv, 1, none⟩ (.slice Ai ni ci) = W3 at *
          obtain ⟨Av, cbv, hvb⟩ := Kd.R_slice H2.out.row
          generalize (⟨blocks, l⟩ : Val).blocks.length = nb at hvb
          subst hvb
          have HVA := Aside0.mk (va_of H2.out.row H2.out.inn H2.out.byt)
          have hnb : nb ≤ 1000 := by have h := HVA.out.nb; rw [h]; show blocks.length ≤ 1000; have := hjb.out; omega
          have hni : ni ≤ 10000 := by have h := HVA.out.ni; rw [h]; show l.length ≤ 10000; have := hll.out; omega
          obtain ⟨xg, hxg⟩ := H2.out.rd
          have HXG := Aside0.mk hxg
          clear hxg
          refine wp_region_held_drew (S := fun w' => Below W3.heap.size W3 w') (by kernel_rfl) (below_drew (Below.refl _ _)) (fun hW => ?_)
          refine wpAnyH_take (i := 0) (oi := ⟨some 44, _, _, _, _, _⟩) (v := .pointer (some ⟨g, 0, none⟩)) rfl (by kernel_rfl) (by kernel_rfl) (by kernel_rfl) (fun _ _ _ h => h) (.inl ⟨by rfl, fun W1 h1 => by go_simp⟩) hW ?_
          try simp only [Act.put, List.setIfInBounds_toArray, List.set_cons_zero, List.set_cons_succ]
          refine wpAnyH_take (i := 1) (oi := ⟨some 45, _, _, _, _, _⟩) (v := .pointer (some ⟨g, 0, none⟩)) rfl (by kernel_rfl) (by kernel_rfl) (by kernel_rfl) (fun _ _ _ h => h) (.inl ⟨by rfl, fun W1 h1 => by go_simp⟩) hW ?_
          try simp only [Act.put, List.setIfInBounds_toArray, List.set_cons_zero, List.set_cons_succ]
          refine wpAnyH_take (i := 2) (oi := ⟨some 46, _, _, _, _, _⟩) (v := .pointer (some ⟨g, 1, none⟩)) rfl (by kernel_rfl) (by kernel_rfl) (by kernel_rfl) (fun _ _ _ h => h) (.inl ⟨by rfl, fun W1 h1 => by go_simp⟩) hW ?_
          try simp only [Act.put, List.setIfInBounds_toArray, List.set_cons_zero, List.set_cons_succ]
          refine wpAnyH_take (i := 3) (oi := ⟨some 47, _, _, _, _, _⟩) (v := .bool false) rfl (by kernel_rfl) (by kernel_rfl) (by kernel_rfl) (fun _ _ _ h => h) (.inl ⟨by rfl, fun W1 h1 => by (have x1 : W1.cell? ⟨g, 1, none⟩ = some (.bool false) := (by rw [cell_of_row _ _ 1 _ 107 (0, 0) (blk_below HXG.out h1)]; rfl)); go_simp⟩) hW ?_
          try simp only [Act.put, List.setIfInBounds_toArray, List.set_cons_zero, List.set_cons_succ]
          refine wpAnyH_take (i := 4) (oi := ⟨some 48, _, _, _, _, _⟩) (v := .bool false) rfl (by kernel_rfl) (by kernel_rfl) (by kernel_rfl) (fun _ _ _ h => h) (.inl ⟨by rfl, fun W1 h1 => by go_simp⟩) hW ?_
          try simp only [Act.put, List.setIfInBounds_toArray, List.set_cons_zero, List.set_cons_succ]
          refine wpAnyH_take (i := 5) (oi := ⟨some 49, _, _, _, _, _⟩) (v := .agg #[.slice Av nb cbv, .slice Ai ni ci]) rfl (by kernel_rfl) (by kernel_rfl) (by kernel_rfl) (fun _ _ _ h => h) (.inl ⟨by rfl, fun W1 h1 => by (have x1 : W1.cell? ⟨gv, 0, none⟩ = some (.slice Av nb cbv) := (by rw [cell_of_row _ _ 0 _ 40 (0, 0) (blk_below H2.out.hv h1)]; rfl)); (have x2 : W1.cell? ⟨gv, 1, none⟩ = some (.slice Ai ni ci) := (by rw [cell_of_row _ _ 1 _ 40 (0, 0) (blk_below H2.out.hv h1)]; rfl)); go_simp⟩) hW ?_
          try simp only [Act.put, List.setIfInBounds_toArray, List.set_cons_zero, List.set_cons_succ]
          refine wpAnyH_ready (rs := [6]) (by kernel_rfl) (by simp) (AllReadyH.cons rfl (fun K1 hK1 => ?_) AllReadyH.nil)
          go_simp
          refine (rightV_calls Av nb cbv Ai ni ci ⟨blocks, l⟩ _ (HVA.out.below hW) hnb hni).mono ?_
          rintro e W4 ⟨rfl, hb4⟩
          have hW4 := below_then hW hW.size hb4
          by_cases hrv : RightV ⟨blocks, l⟩
          · rw [decide_eq_true hrv]
            have HRV := Aside0.mk hrv
            clear hrv
            refine hK1.out _ _ hW4 (fun hW => ?_)
            try simp only [Act.put, List.setIfInBounds_toArray, List.set_cons_zero, List.set_cons_succ]
            refine wpAnyH_take (i := 7) (oi := ⟨some 51, _, _, _, _, _⟩) (v := .bool false) rfl (by kernel_rfl) (by kernel_rfl) (by kernel_rfl) (fun _ _ _ h => h) (.inl ⟨by rfl, fun W1 h1 => by go_simp⟩) hW ?_
            try simp only [Act.put, List.setIfInBounds_toArray, List.set_cons_zero, List.set_cons_succ]
            refine wpAnyH_take (i := 8) (oi := ⟨some 52, _, _, _, _, _⟩) (v := .bool false) rfl (by kernel_rfl) (by kernel_rfl) (by kernel_rfl) (fun _ _ _ h => h) (.inl ⟨by rfl, fun W1 h1 => by go_simp⟩) hW ?_
            try simp only [Act.put, List.setIfInBounds_toArray, List.set_cons_zero, List.set_cons_succ]
            refine wpAnyH_take (i := 9) (oi := ⟨some 53, _, _, _, _, _⟩) (v := .bool false) rfl (by kernel_rfl) (by kernel_rfl) (by kernel_rfl) (fun _ _ _ h => h) (.inl ⟨by rfl, fun W1 h1 => by go_simp⟩) hW ?_
            try simp only [Act.put, List.setIfInBounds_toArray, List.set_cons_zero, List.set_cons_succ]
            refine wpAnyH_take (i := 10) (oi := ⟨some 54, _, _, _, _, _⟩) (v := .agg #[.slice Av nb cbv, .slice Ai ni ci]) rfl (by kernel_rfl) (by kernel_rfl) (by kernel_rfl) (fun _ _ _ h => h) (.inl ⟨by rfl, fun W1 h1 => by (have x1 : W1.cell? ⟨gv, 0, none⟩ = some (.slice Av nb cbv) := (by rw [cell_of_row _ _ 0 _ 40 (0, 0) (blk_below H2.out.hv h1)]; rfl)); (have x2 : W1.cell? ⟨gv, 1, none⟩ = some (.slice Ai ni ci) := (by rw [cell_of_row _ _ 1 _ 40 (0, 0) (blk_below H2.out.hv h1)]; rfl)); go_simp⟩) hW ?_
            try simp only [Act.put, List.setIfInBounds_toArray, List.set_cons_zero, List.set_cons_succ]
            have c2 : ∀ W1, Below W3.heap.size W3 W1 → (convert 31 9 (.slice A L.length c)).run Try.prog W1 = .ok (.string (strOfNums L)) W1 := fun W1 h1 => Kd.C_string (P := Try.prog) Try.underlying31 Try.underlying5 Try.underlying9 (Kd.C_below (Kd.C_below HC.out.1 H2.out.below) h1)
            refine wpAnyH_take (i := 13) (oi := ⟨some 57, _, _, _, _, _⟩) (v := .slice A L.length c) rfl (by kernel_rfl) (by kernel_rfl) (by kernel_rfl) (fun _ _ _ h => h) (.inl ⟨by rfl, fun W1 h1 => by go_simp⟩) hW ?_
            try simp only [Act.put, List.setIfInBounds_toArray, List.set_cons_zero, List.set_cons_succ]
            refine wpAnyH_take (i := 14) (oi := ⟨some 58, _, _, _, _, _⟩) (v := .string (strOfNums L)) rfl (by kernel_rfl) (by kernel_rfl) (by kernel_rfl) (fun _ _ _ h => h) (.inl ⟨by rfl, fun W1 h1 => by (have x1 := c2 W1 h1); go_simp⟩) hW ?_
            try simp only [Act.put, List.setIfInBounds_toArray, List.set_cons_zero, List.set_cons_succ]
            refine wpAnyH_ready (rs := [11]) (by kernel_rfl) (by simp) (AllReadyH.cons rfl (fun K2 hK2 => ?_) AllReadyH.nil)
            go_simp
            refine (bytes_calls Av nb cbv Ai ni ci ⟨blocks, l⟩ _ (HVA.out.below hW) HRV.out).mono ?_
            rintro e W5 ⟨v5, rfl, hr5, hb5⟩
            have hW5 := below_then hW hW.size hb5
            have c5 := conv_own hr5
            have hS := str_iff (valL ⟨blocks, l⟩) L (valL_byt HVA.out.ok) HC.out.2.1
            generalize strOfNums (valL ⟨blocks, l⟩) = S5 at *
            refine hK2.out _ _ hW5 (fun hW => ?_)
            try simp only [Act.put, List.setIfInBounds_toArray, List.set_cons_zero, List.set_cons_succ]
            generalize strOfNums L = SL at *
            refine wpAnyH_ready (rs := [12]) (by kernel_rfl) (by simp) (AllReadyH.cons rfl (fun K3 hK3 => ?_) AllReadyH.nil)
            go_simp
            refine hK3.out _ _ hW5 (fun hW => ?_)
            try simp only [Act.put, List.setIfInBounds_toArray, List.set_cons_zero, List.set_cons_succ]
            by_cases heq : valL ⟨blocks, l⟩ = L
            · rw [decide_eq_true heq] at hS
              have HEQ := Aside0.mk heq
              clear heq
              refine wpAnyH_take (i := 15) (oi := ⟨some 59, _, _, _, _, _⟩) (v := .bool false) rfl (by kernel_rfl) (by kernel_rfl) (by kernel_rfl) (fun _ _ _ h => h) (.inl ⟨by rfl, fun W1 h1 => by go_simp⟩) hW ?_
              try simp only [Act.put, List.setIfInBounds_toArray, List.set_cons_zero, List.set_cons_succ]
              refine wpAnyH_take (i := 16) (oi := ⟨some 60, _, _, _, _, _⟩) (v := .bool false) rfl (by kernel_rfl) (by kernel_rfl) (by kernel_rfl) (fun _ _ _ h => h) (.inl ⟨by rfl, fun W1 h1 => by go_simp⟩) hW ?_
              try simp only [Act.put, List.setIfInBounds_toArray, List.set_cons_zero, List.set_cons_succ]
              refine wpAnyH_done (by kernel_rfl) ?_ _
              have HF3 := Aside0.mk (H2.out.on hW)
              clear hK1 K1 hK2 K2 hK3 K3 hW hW4 hb4 hW5 hb5 hr5 c5 c2 hS
              go_wp2_with (first | (refine wpList_store_row rfl 40 (.tmp 2) (.tmp 62) rfl w.heap.size #[.slice Av nb cbv, .slice Ai ni ci] rfl rfl 40 #[.slice none 0 0, .slice none 0 0] HF3.out.h2 (i40 _ _) rfl (o40 _ _ _ _ _ _) ?_) | (refine wpList_load_row rfl 40 (.tmp 6) rfl gv rfl 40 #[.slice Av nb cbv, .slice Ai ni ci] (0, 0) _ HF3.out.hv Try.underlying40 rfl (i40 _ _) ?_))
              refine bodyPost_ret (res_ct (p := 2) (q := 3) _ rfl rfl (setRow_heap _ w.heap.size _ #[.slice Av nb cbv, .slice Ai ni ci] 40 _ HF3.out.h2) Try.underlying40 rfl (i40 _ _)) rfl ?_
              rw [HP.out]
              exact ⟨below_setRow HF3.out.below (Nat.le_refl _) _, .inl ⟨⟨blocks, l⟩, Av, nb, cbv, Ai, ni, ci, rfl, HF3.out.put _, HRV.out, HEQ.out⟩⟩
            · rw [decide_eq_false heq] at hS
              have HEQ := Aside0.mk heq
              clear heq
              refine wpAnyH_take (i := 15) (oi := ⟨some 59, _, _, _, _, _⟩) (v := .bool true) rfl (by kernel_rfl) (by kernel_rfl) (by kernel_rfl) (fun _ _ _ h => h) (.inl ⟨by rfl, fun W1 h1 => by go_simp⟩) hW ?_
              try simp only [Act.put, List.setIfInBounds_toArray, List.set_cons_zero, List.set_cons_succ]
              refine wpAnyH_take (i := 16) (oi := ⟨some 60, _, _, _, _, _⟩) (v := .bool true) rfl (by kernel_rfl) (by kernel_rfl) (by kernel_rfl) (fun _ _ _ h => h) (.inl ⟨by rfl, fun W1 h1 => by go_simp⟩) hW ?_
              try simp only [Act.put, List.setIfInBounds_toArray, List.set_cons_zero, List.set_cons_succ]
              refine wpAnyH_done (by kernel_rfl) ?_ _
              have HF3 := Aside0.mk (H2.out.on hW)
              clear hK1 K1 hK2 K2 hK3 K3 hW hW4 hb4 hW5 hb5 hr5 c5 c2 hS
              go_wp2_with (refine wpList_store_same rfl 40 (.tmp 2) (.tmp 61) rfl w.heap.size #[.slice none 0 0, .slice none 0 0] rfl rfl 40 HF3.out.h2 (i40 _ _) (o40 _ _ _ _ _ _) ?_)
              refine bodyPost_ret (res_ct (p := 2) (q := 3) _ rfl rfl HF3.out.h2 Try.underlying40 rfl (i40 _ _)) rfl ?_
              rw [HP.out]
              refine ⟨HF3.out.below, .inr ⟨rfl, fun v0 a0 a1 a2 => ?_⟩⟩
              obtain ⟨e1, e2⟩ := HEnd.out v0 a0 a1 a2
              exact HEQ.out (by rw [← e2]; exact a2)
          · rw [decide_eq_false hrv]
            have HRV := Aside0.mk hrv
            clear hrv
            refine hK1.out _ _ hW4 (fun hW => ?_)
            try simp only [Act.put, List.setIfInBounds_toArray, List.set_cons_zero, List.set_cons_succ]
            refine wpAnyH_take (i := 7) (oi := ⟨some 51, _, _, _, _, _⟩) (v := .bool true) rfl (by kernel_rfl) (by kernel_rfl) (by kernel_rfl) (fun _ _ _ h => h) (.inl ⟨by rfl, fun W1 h1 => by go_simp⟩) hW ?_
            try simp only [Act.put, List.setIfInBounds_toArray, List.set_cons_zero, List.set_cons_succ]
            refine wpAnyH_take (i := 8) (oi := ⟨some 52, _, _, _, _, _⟩) (v := .bool true) rfl (by kernel_rfl) (by kernel_rfl) (by kernel_rfl) (fun _ _ _ h => h) (.inl ⟨by rfl, fun W1 h1 => by go_simp⟩) hW ?_
            try simp only [Act.put, List.setIfInBounds_toArray, List.set_cons_zero, List.set_cons_succ]
            refine wpAnyH_take (i := 9) (oi := ⟨some 53, _, _, _, _, _⟩) (v := .bool true) rfl (by kernel_rfl) (by kernel_rfl) (by kernel_rfl) (fun _ _ _ h => h) (.inl ⟨by rfl, fun W1 h1 => by go_simp⟩) hW ?_
            try simp only [Act.put, List.setIfInBounds_toArray, List.set_cons_zero, List.set_cons_succ]
            refine wpAnyH_take (i := 10) (oi := ⟨some 54, _, _, _, _, _⟩) (v := undef) rfl (by kernel_rfl) (by kernel_rfl) (by kernel_rfl) (fun _ _ _ h => h) (.inr ⟨by rfl, rfl⟩) hW ?_
            try simp only [Act.put, List.setIfInBounds_toArray, List.set_cons_zero, List.set_cons_succ]
            refine wpAnyH_take (i := 11) (oi := ⟨some 55, _, _, _, _, _⟩) (v := undef) rfl (by kernel_rfl) (by kernel_rfl) (by kernel_rfl) (fun _ _ _ h => h) (.inr ⟨by rfl, rfl⟩) hW ?_
            try simp only [Act.put, List.setIfInBounds_toArray, List.set_cons_zero, List.set_cons_succ]
            refine wpAnyH_take (i := 12) (oi := ⟨some 56, _, _, _, _, _⟩) (v := undef) rfl (by kernel_rfl) (by kernel_rfl) (by kernel_rfl) (fun _ _ _ h => h) (.inr ⟨by rfl, rfl⟩) hW ?_
            try simp only [Act.put, List.setIfInBounds_toArray, List.set_cons_zero, List.set_cons_succ]
            refine wpAnyH_take (i := 13) (oi := ⟨some 57, _, _, _, _, _⟩) (v := undef) rfl (by kernel_rfl) (by kernel_rfl) (by kernel_rfl) (fun _ _ _ h => h) (.inr ⟨by rfl, rfl⟩) hW ?_
            try simp only [Act.put, List.setIfInBounds_toArray, List.set_cons_zero, List.set_cons_succ]
            refine wpAnyH_take (i := 14) (oi := ⟨some 58, _, _, _, _, _⟩) (v := undef) rfl (by kernel_rfl) (by kernel_rfl) (by kernel_rfl) (fun _ _ _ h => h) (.inr ⟨by rfl, rfl⟩) hW ?_
            try simp only [Act.put, List.setIfInBounds_toArray, List.set_cons_zero, List.set_cons_succ]
            refine wpAnyH_take (i := 15) (oi := ⟨some 59, _, _, _, _, _⟩) (v := undef) rfl (by kernel_rfl) (by kernel_rfl) (by kernel_rfl) (fun _ _ _ h => h) (.inr ⟨by rfl, rfl⟩) hW ?_
            try simp only [Act.put, List.setIfInBounds_toArray, List.set_cons_zero, List.set_cons_succ]
            refine wpAnyH_take (i := 16) (oi := ⟨some 60, _, _, _, _, _⟩) (v := .bool true) rfl (by kernel_rfl) (by kernel_rfl) (by kernel_rfl) (fun _ _ _ h => h) (.inl ⟨by rfl, fun W1 h1 => by go_simp⟩) hW ?_
            try simp only [Act.put, List.setIfInBounds_toArray, List.set_cons_zero, List.set_cons_succ]
            refine wpAnyH_done (by kernel_rfl) ?_ _
            have HF3 := Aside0.mk (H2.out.on hW)
            clear hK1 K1 hW hW4 hb4
            go_wp2_with (refine wpList_store_same rfl 40 (.tmp 2) (.tmp 61) rfl w.heap.size #[.slice none 0 0, .slice none 0 0] rfl rfl 40 HF3.out.h2 (i40 _ _) (o40 _ _ _ _ _ _) ?_)
            refine bodyPost_ret (res_ct (p := 2) (q := 3) _ rfl rfl HF3.out.h2 Try.underlying40 rfl (i40 _ _)) rfl ?_
            rw [HP.out]
            refine ⟨HF3.out.below, .inr ⟨rfl, fun v0 a0 a1 a2 => ?_⟩⟩
            obtain ⟨e1, e2⟩ := HEnd.out v0 a0 a1 a2
            exact HRV.out (by rw [← e2]; exact a1)
end Go.Proofs.Ytfefpbnhpncmlaa.CatV
/- The document's ReadValue: a contract. -/
namespace Go.Proofs.Ytfefpbnhpncmlaa.CatX
open Go.RowKit Go.Proofs.Ytfefpbnhpncmlaa.CatV Go.Proofs.Ytfefpbnhpncmlaa.CatW Go.Proofs.Ytfefpbnhpncmlaa.CatU Go.Proofs.Ytfefpbnhpncmlaa.CatT Go.Proofs.Ytfefpbnhpncmlaa.CatR Go.Proofs.Ytfefpbnhpncmlaa.CatK Go.Proofs.Ytfefpbnhpncmlaa.CatM Go.Proofs.Ytfefpbnhpncmlaa.CatN Go.Proofs.Ytfefpbnhpncmlaa.CatO Go.Proofs.Ytfefpbnhpncmlaa.PtrB Go.Proofs.Ytfefpbnhpncmlaa.Agg Go.Proofs.Ytfefpbnhpncmlaa.B8 Go.Proofs.Ytfefpbnhpncmlaa.CodL Go.Proofs.Ytfefpbnhpncmlaa.CodA Go.Proofs.Ytfefpbnhpncmlaa.CodB Go.Proofs.Ytfefpbnhpncmlaa.CatL Go.Proofs.Ytfefpbnhpncmlaa.PtrA Go.Proofs.Ytfefpbnhpncmlaa.PtrE Go.Proofs.Ytfefpbnhpncmlaa.PtrF Go.Proofs.Ytfefpbnhpncmlaa.PBaseSigns Go.Proofs.YtfefpbnhpncmlaaW.PrintWords Go.Proofs.YtfefpbnhpncmlaaW.PrintLast Go.Proofs.YtfefpbnhpncmlaaW.PrintMore
set_option linter.unusedVariables false
set_option linter.unusedSimpArgs false

/-- Reading goes along a value whose bytes these are. -/
def GoesR (L : List Int) (j : Nat) (n : Int) (l : List Int) (blocks : List Ptr) : Prop :=
  ∀ v0, OkV v0 → RightV v0 → valL v0 = L → n = v0.blocks.length ∧ blocks = v0.blocks.take j ∧ l = (v0.blocks.drop j).flatMap ptrL ++ v0.inn
theorem goesR_start (L : List Int) (hb : Byt L) : GoesR L 0 (numR L).1 (numR L).2 [] ∧ (numR L).2.length ≤ L.length ∧ Byt (numR L).2 ∧ (-1 ≤ (numR L).1) ∧ (numR L).1 ≤ 1152921504606846976 := by
  obtain ⟨n, l, bad, hf, h0, h1, hg, hl⟩ := goes_start L hb
  have hbd := readShort_bound hb
  unfold numR
  by_cases hbs : badS L = true
  · rw [if_pos hbs]
    simp only [fin] at hf
    rw [if_pos hbs] at hf
    simp only [Prod.mk.injEq] at hf
    refine ⟨fun v0 a1 a2 a3 => ?_, by simp, fun x hx => by simp at hx, by decide, by decide⟩
    have := (hg v0 a1 a2 a3).1
    rw [← hf.2.2] at this
    exact absurd this (by decide)
  · rw [if_neg hbs]
    simp only [fin] at hf
    rw [if_neg hbs] at hf
    simp only [Prod.mk.injEq] at hf
    have e1 : (readShort L).1 = n := by simpa using hf.1
    have hbs' : ¬ ((readShort L).2.2 ≠ 0 ∨ 1152921504606846976 < (readShort L).1) := by unfold badS at hbs; simpa using hbs
    refine ⟨fun v0 a1 a2 a3 => ?_, by rw [List.length_drop]; omega, hb.drop _, by simp only; omega, by simp only; omega⟩
    obtain ⟨b1, b2, b3, b4⟩ := hg v0 a1 a2 a3
    refine ⟨by rw [e1]; exact b2, b3, ?_⟩
    rw [hf.2.1]
    exact b4
theorem goesR_step (L : List Int) (j : Nat) (n : Int) (l : List Int) (blocks : List Ptr) (h : GoesR L j n l blocks) (hj : (j : Int) < n) : GoesR L (j + 1) n (blockR l).2 (blocks ++ [(blockR l).1]) := by
  intro v0 h1 h2 h3
  have h' : Goes L j n l false blocks := fun v a b c => ⟨rfl, h v a b c⟩
  obtain ⟨b1, b2, b3, b4⟩ := goes_step L j n l false blocks h' hj v0 h1 h2 h3
  have e : (readP l).2 = 0 := by simpa using b1
  rw [if_pos e] at b4
  have hbr : blockR l = ((readP l).1, l.drop 52) := by unfold blockR; rw [if_pos e]
  rw [hbr]
  exact ⟨b2, b3, b4⟩
theorem blockR_ok {l : List Int} (hb : Byt l) : Ok (blockR l).1 ∧ Byt (blockR l).2 ∧ (blockR l).2.length ≤ l.length := by
  unfold blockR
  split
  · exact ⟨readP_ok hb, hb.drop _, by rw [List.length_drop]; omega⟩
  · exact ⟨okZero, fun x hx => by simp at hx, by simp⟩
theorem goesR_end (L : List Int) (j : Nat) (n : Int) (l : List Int) (blocks : List Ptr) (h : GoesR L j n l blocks) (hj : ¬ (j : Int) < n) (hn : j = 0 ∨ (j : Int) ≤ n) :
    ∀ v0, OkV v0 → RightV v0 → valL v0 = L → 0 ≤ n ∧ v0 = ⟨blocks, l⟩ := by
  intro v0 h1 h2 h3
  obtain ⟨e2, e3, e4⟩ := h v0 h1 h2 h3
  have : j = v0.blocks.length := by omega
  subst this
  refine ⟨by omega, ?_⟩
  rw [List.take_length] at e3
  rw [List.drop_length] at e4
  rw [e3, e4]
  rfl

/-- Where the walk stands. -/
structure IR (w : World) (gv g2 : Nat) (A : Option Addr) (nl c : Nat) (l : List Int) (blocks : List Ptr) (vb vi : Value) (W : World) : Prop where
  below : Below w.heap.size w W
  rest : C8 w A nl l
  hnl : nl = l.length
  hnc : nl ≤ c
  byt : Byt l
  hv : W.heap[gv]? = some (.cells #[vb, vi] 46 (0, 0))
  h2 : W.heap[g2]? = some (.cells #[.slice none 0 0, .slice none 0 0] 46 (0, 0))
  row : Kd.R kP 56 W w.heap.size (fun _ => True) vb blocks
  gle : w.heap.size ≤ gv
  ne : g2 ≠ gv
theorem IR.on {w : World} {gv g2 : Nat} {A : Option Addr} {nl c : Nat} {l : List Int} {blocks : List Ptr} {vb vi : Value} {W W1 : World} (h : IR w gv g2 A nl c l blocks vb vi W) (hb : Below W.heap.size W W1) : IR w gv g2 A nl c l blocks vb vi W1 :=
  ⟨below_then h.below h.below.size hb, h.rest, h.hnl, h.hnc, h.byt, blk_below h.hv hb, blk_below h.h2 hb, Kd.R_below h.row hb, h.gle, h.ne⟩
theorem IR.push {w : World} {gv g2 : Nat} {A : Option Addr} {nl c : Nat} {l : List Int} {blocks bl : List Ptr} {vb vi v1 : Value} {W W1 : World} (h : IR w gv g2 A nl c l blocks vb vi W) (hr : Kd.R kP 56 W1 w.heap.size (fun _ => True) v1 bl) (hb : Below w.heap.size w W1) (hg : W.grownBy W1 vb.ownBlock) :
    IR w gv g2 A nl c l bl v1 vi (W1.setCell ⟨gv, 0, none⟩ v1) := by
  have n1 := Kd.R_ne h.row h.hv (by decide)
  have n3 := Kd.R_ne h.row h.h2 (by decide)
  have hv1 := blk_grown h.hv hg n1
  refine ⟨hb.setCell h.gle _, h.rest, h.hnl, h.hnc, h.byt, ?_, blk_far (blk_grown h.h2 hg n3) (by simp; exact h.ne) _, Kd.R_set hr hv1 (by intro q hq; simp [kP] at hq; omega) 0 v1, h.gle, h.ne⟩
  rw [heap_setCell_same _ _ _ _ _ _ hv1]
  simp
theorem IR.rest' {w : World} {gv g2 : Nat} {A A' : Option Addr} {nl c nl' c' : Nat} {l l' : List Int} {blocks : List Ptr} {vb vi : Value} {W : World} (h : IR w gv g2 A nl c l blocks vb vi W) (h1 : C8 w A' nl' l') (h2 : nl' = l'.length) (h3 : nl' ≤ c') (h4 : Byt l') : IR w gv g2 A' nl' c' l' blocks vb vi W :=
  ⟨h.below, h1, h2, h3, h4, h.hv, h.h2, h.row, h.gle, h.ne⟩
/-- What has been read. -/
structure FR (w : World) (gv g2 : Nat) (v : Val) (vb vi : Value) (W : World) : Prop where
  hv : W.heap[gv]? = some (.cells #[vb, vi] 46 (0, 0))
  h2 : W.heap[g2]? = some (.cells #[.slice none 0 0, .slice none 0 0] 46 (0, 0))
  below : Below w.heap.size w W
  row : Kd.R kP 56 W w.heap.size (fun _ => True) vb v.blocks
  inn : R8 W w.heap.size vi v.inn
  byt : Byt v.inn
theorem FR.on {w : World} {gv g2 : Nat} {v : Val} {vb vi : Value} {W W1 : World} (h : FR w gv g2 v vb vi W) (hb : Below W.heap.size W W1) : FR w gv g2 v vb vi W1 :=
  ⟨blk_below h.hv hb, blk_below h.h2 hb, below_then h.below h.below.size hb, Kd.R_below h.row hb, Kd.R_below h.inn hb, h.byt⟩
theorem FR.put {w : World} {gv g2 : Nat} {v : Val} {A : Option Addr} {nb cb : Nat} {A2 : Option Addr} {ni ci : Nat} {W : World} (h : FR w gv g2 v (.slice A nb cb) (.slice A2 ni ci) W) (cs : Array Value) : VA (W.setRow g2 cs) A nb cb A2 ni ci v := by
  have h1 := Kd.R_step (w1 := W.setRow g2 cs) (Kd.R_types h.row h.h2 (by intro q hq; simp [kP] at hq; omega)) (fun k hk _ => setRow_other _ _ _ _ hk.2)
  have h3 := Kd.R_step (w1 := W.setRow g2 cs) (Kd.R_types h.inn h.h2 (by intro q hq; simp [Kd.int, Kd.scalar] at hq; omega)) (fun k hk _ => setRow_other _ _ _ _ hk.2)
  exact va_of (Kd.R_mono h1 (fun _ _ => trivial)) (Kd.R_mono h3 (fun _ _ => trivial)) h.byt
theorem IR.fin {w : World} {gv g2 : Nat} {A : Option Addr} {nl c : Nat} {l : List Int} {blocks : List Ptr} {vb v0 vi : Value} {W W1 : World} (h : IR w gv g2 A nl c l blocks vb v0 W) (hr : R8 W1 w.heap.size vi l) (hb : Below W.heap.size W W1) :
    FR w gv g2 ⟨blocks, l⟩ vb vi (W1.setCell ⟨gv, 1, none⟩ vi) := by
  have h1 := h.on hb
  have hrow := Kd.R_set h1.row h1.hv (by intro q hq; simp [kP] at hq; omega) 1 vi
  have hr2 := Kd.R_set hr h1.hv (by intro q hq; simp [Kd.int, Kd.scalar] at hq; omega) 1 vi
  refine ⟨?_, blk_far h1.h2 (by simp; exact h.ne) _, h1.below.setCell h.gle _, hrow, hr2, h1.byt⟩
  rw [heap_setCell_same _ _ _ _ _ _ h1.hv]
  simp
theorem i46 (a b : Value) : (Try.prog.info? 46).map (·.size) = some (#[a, b] : Array Value).size := by kernel_rfl

set_option maxRecDepth 100000 in
set_option maxHeartbeats 1000000 in
theorem rreadV_calls (A : Option Addr) (c n : Nat) (L : List Int) (hn : n = L.length) (w : World) (hr : C8 w A n L) (hb : Byt L) (hc : n ≤ c) (hm : n ≤ 10000) :
    Calls Try.prog 27 #[.slice A n c] w (TellsReadV w L) := by
  subst hn
  have HC := Aside0.mk (And.intro hr (And.intro hb hc))
  obtain ⟨P, hP⟩ : ∃ P : Ending → World → Prop, P = TellsReadV w L := ⟨_, rfl⟩
  rw [← hP]
  have HP := Aside0.mk hP
  obtain ⟨hg0, hl0, hy0, hn0, hn1⟩ := goesR_start L hb
  have HG0 := Aside0.mk (And.intro hg0 (And.intro hl0 hy0))
  have B1 := Aside0.mk (below_alloc (Below.refl w.heap.size w) (.cells #[.slice none 0 0, .slice none 0 0] 46))
  have G1 := Aside0.mk (blk_new w (.cells #[.slice none 0 0, .slice none 0 0] 46))
  clear hr hb hc hP hg0 hl0 hy0
  go_enter Try.func27, Try.ntmps27
  go_wp2_with fail
  refine (number_calls w A c L.length L rfl _ B1.out HC.out.1 HC.out.2.1 HC.out.2.2 (by omega)).mono ?_
  rintro e w1 ⟨A1, c1, nl, rfl, hnl, hnc, hrest, hb1⟩
  generalize hN : (numR L).1 = n1 at *
  generalize hLL : (numR L).2 = l1 at *
  have HN := Aside0.mk (And.intro hN hLL)
  have B2 := Aside0.mk (below_then B1.out B1.out.size hb1)
  have G2 := Aside0.mk (blk_below G1.out hb1)
  have HREST := Aside0.mk (And.intro hnl (And.intro hnc hrest))
  have B2' := Aside0.mk (B2.out.alloc B2.out.size (.cells #[.slice none 0 0, .slice none 0 0] 46))
  have G2' := Aside0.mk (blk_alloc G2.out (.cells #[.slice none 0 0, .slice none 0 0] 46))
  clear hN hLL hb1 B1 G1 hnl hnc hrest
  by_cases h8 : 8 < n1
  · go_wp2_with (refine wpList_store_same rfl 46 (.tmp 2) (.tmp 20) rfl w.heap.size #[.slice none 0 0, .slice none 0 0] rfl rfl 46 G2'.out (i46 _ _) (o40 _ _ _ _ _ _) ?_)
    refine bodyPost_ret (res_ct (p := 2) (q := 3) _ rfl rfl G2'.out Try.underlying46 rfl (i46 _ _)) rfl ?_
    rw [HP.out]
    refine ⟨B2'.out, .inr ⟨rfl, fun v0 a0 a1 a2 => ?_⟩⟩
    obtain ⟨e1, _⟩ := HG0.out.1 v0 a0 a1 a2
    have := a1.1
    omega
  · have H0a : IR w w1.heap.size w.heap.size A1 nl c1 l1 [] (.slice none 0 0) (.slice none 0 0) (w1.alloc (.cells #[.slice none 0 0, .slice none 0 0] 46)) :=
      ⟨B2'.out, HREST.out.2.2, HREST.out.1, HREST.out.2.1, HG0.out.2.2, blk_new _ _, G2'.out, Kd.R_nil _ _ _ _ _, B2.out.size, by have := blk_lt G2.out; omega⟩
    have H0 := Aside0.mk H0a
    clear H0a B2 B2' G2 G2' HREST
    go_wp2
    generalize hGV : w1.heap.size = gv at *
    have HGV := Aside0.mk hGV
    clear hGV
    go_loopw [5, 7] (fun v5 v7 wr => ∃ (j : Nat) (A2 : Option Addr) (c2 n2 : Nat) (l : List Int) (blocks : List Ptr) (vb : Value), v7 = .int .i64 (j : Int) ∧ v5 = .slice A2 n2 c2 ∧ j ≤ 8 ∧ (j = 0 ∨ (j : Int) ≤ n1) ∧ Aside0 (IR w gv w.heap.size A2 n2 c2 l blocks vb (.slice none 0 0) wr ∧ GoesR L j n1 l blocks ∧ blocks.length = j ∧ l.length ≤ L.length)) (fun _ v _ => 10 - (intOf v).toNat)
    case atStart => exact ⟨0, A1, c1, nl, l1, [], .slice none 0 0, rfl, rfl, by decide, .inl rfl, ⟨H0.out, HG0.out.1, rfl, HG0.out.2.1⟩⟩
    case round =>
      obtain ⟨j, A2, c2, n2, l, blocks, vb, rfl, rfl, hj8, hjn, H⟩ := hrel
      clear H0
      have HJN := Aside0.mk hjn
      clear hjn
      by_cases hlt : (j : Int) < n1
      · have hob := Aside0.mk (blockR_ok H.out.1.byt)
        have hgs := Aside0.mk (goesR_step L j n1 l blocks H.out.2.1 hlt)
        have hsz := Aside0.mk H.out.2.2.2
        go_wp2_with fail
        refine (rblock_calls w A2 c2 n2 l H.out.1.hnl wr H.out.1.below H.out.1.rest H.out.1.byt H.out.1.hnc (by have := H.out.1.hnl; have := hsz.out; omega)).mono ?_
        rintro e w2 ⟨A3, c3, n3, rfl, h3n, h3c, h3r, hb2⟩
        generalize (blockR l).1 = pt at *
        generalize (blockR l).2 = l3 at *
        have H2 := Aside0.mk ((H.out.1.on hb2).rest' h3r h3n h3c hob.out.2.1)
        clear h3n h3c h3r hb2
        have x0 : w2.cell? ⟨gv, 0, none⟩ = some vb := by rw [cell_of_row _ _ 0 _ 46 (0, 0) H2.out.hv]; rfl
        have hgl := blk_lt H2.out.hv
        have GN := Aside0.mk (blk_new w2 (.cells (encP pt) 56))
        have H3 := Aside0.mk (H2.out.on (below_alloc (Below.refl _ _) (.cells (encP pt) 56)))
        have hs3 : w.heap.size ≤ (w2.alloc (.cells (encP pt) 56)).heap.size := H3.out.below.size
        have HS3 := Aside0.mk hs3
        clear hs3
        go_wp2_with (first | (refine one_P rfl (.tmp 33) rfl pt hob.out.1 rfl ?_) | (refine load_P1 rfl (.tmp 8) rfl w2.heap.size pt rfl hob.out.1 GN.out ?_) | (refine append_P2 (w0 := w) (W := w2.alloc (.cells (encP pt) 56)) w.heap.size rfl (.tmp 32) (.tmp 34) rfl vb blocks pt hob.out.1 rfl rfl rfl H3.out.row H3.out.below HS3.out (by have := H.out.2.2.1; omega) ?_; intro v4 w4 hr4 hb4 hg4; obtain ⟨A4, c4, hv4⟩ := Kd.R_slice hr4; generalize (blocks ++ [pt]).length = n4 at hv4; subst hv4; have H4 := Aside0.mk (H3.out.push hr4 hb4 hg4); have hv4' := blk_grown H3.out.hv hg4 (Kd.R_ne H3.out.row H3.out.hv (by decide)); have x4 : w4.cell? ⟨gv, 0, none⟩ = some vb := (by rw [cell_of_row _ _ 0 _ 46 (0, 0) hv4']; rfl); have f4 := frozen_of_row w4 gv 0 _ 46 hv4'; clear hr4 hb4 hg4 hv4') | (refine store_P2 (w := w2) rfl (.tmp 8) (.tmp 29) rfl pt hob.out.1 rfl rfl rfl ?_))
        go_roundw
        case rel => exact ⟨j + 1, A3, c3, n3, l3, blocks ++ [pt], _, by go_num, rfl, by omega, by omega, ⟨H4.out, hgs.out, by rw [List.length_append, H.out.2.2.1]; rfl, by have := hob.out.2.2; have := hsz.out; omega⟩⟩
        case measure => simp [intOf]; omega
      · have HEnd := Aside0.mk (goesR_end L j n1 l blocks H.out.2.1 hlt HJN.out)
        have hs0 := Aside0.mk H.out.1.below.size
        have HR := Aside0.mk (Kd.C_below (Kd.C_below H.out.1.rest H.out.1.below) (below_alloc (Below.refl wr.heap.size wr) (.cells #[] 5)))
        have HO := Aside0.mk (R8_new wr wr.heap.size (Nat.le_refl _) [] (by simp))
        have HB := Aside0.mk (below_alloc (Below.refl wr.heap.size wr) (.cells #[] 5))
        have hs : wr.heap.size ≤ (wr.alloc (.cells #[] 5)).heap.size := by simp
        have hn2 : n2 ≤ 100000 := by have h1 := H.out.1.hnl; have := H.out.2.2.2; omega
        have hgvlt := blk_lt H.out.1.hv
        have xv1 : wr.cell? ⟨gv, 1, none⟩ = some (.slice none 0 0) := by rw [cell_of_row _ _ 1 _ 46 (0, 0) H.out.1.hv]; rfl
        go_wp2_with (first | (refine wpList_load_row rfl 46 (.tmp 6) rfl gv rfl 46 #[.slice Ab nb cb, .slice Ai ni ci] (0, 0) _ GV2.out Try.underlying46 rfl (i46 _ _) ?_) | (at_builtin; refine appRow (w0 := wr) wr.heap.size rfl (.tmp 38) (.tmp 39) rfl _ [] l A2 n2 c2 rfl rfl HO.out HR.out HB.out hs (by simp; omega) ?_; intro vi w2 ho hb hgr; obtain ⟨Ai, ci, hvi⟩ := Kd.R_slice ho; generalize ([] ++ l).length = ni at hvi; subst hvi; have H2 := Aside0.mk (H.out.1.fin (Kd.R_lower (base' := w.heap.size) ho hs0.out) hb); obtain ⟨Ab, cb, hvb⟩ := Kd.R_slice H.out.1.row; generalize blocks.length = nb at hvb; subst hvb; have xw1 := (hb.cell (p := ⟨gv, 1, none⟩) hgvlt).trans xv1; have fw1 := frozen_of_row w2 gv 1 _ 46 (blk_below H.out.1.hv hb); have GV2 := Aside0.mk (H2.out.hv); clear ho hb hgr))
        have HVA := Aside0.mk (va_of H2.out.row H2.out.inn H2.out.byt)
        have hnb : nb ≤ 1000 := by have h := HVA.out.nb; rw [h]; show blocks.length ≤ 1000; have := H.out.2.2.1; omega
        have hni : ni ≤ 10000 := by have h := HVA.out.ni; rw [h]; show l.length ≤ 10000; have := H.out.2.2.2; omega
        clear HR HO HB hs xv1 xw1 fw1 GV2
        refine (rputV_calls Ab nb cb Ai ni ci ⟨blocks, l⟩ _ HVA.out hnb hni).mono ?_
        rintro e w5 ⟨r5, rfl, hr5, hb5⟩
        have H5 := Aside0.mk (H2.out.on hb5)
        obtain ⟨A5, c5, hv5⟩ := Kd.R_slice hr5
        have HV5 := Aside0.mk hv5
        have c1 := conv_own hr5
        have c2 : (convert 31 9 (.slice A L.length c)).run Try.prog w5 = .ok (.string (strOfNums L)) w5 := Kd.C_string (P := Try.prog) Try.underlying31 Try.underlying5 Try.underlying9 (Kd.C_below HC.out.1 H5.out.below)
        clear hr5 hb5 hv5
        by_cases hneg : n1 < 0
        · have hd : decide (n1 < 0) = true := decide_eq_true hneg
          clear c1 c2
          go_wp2_with (refine wpList_store_same rfl 46 (.tmp 2) (.tmp 60) rfl w.heap.size #[.slice none 0 0, .slice none 0 0] rfl rfl 46 H5.out.h2 (i46 _ _) (o40 _ _ _ _ _ _) ?_)
          all_goals
            refine bodyPost_ret (res_ct (p := 2) (q := 3) _ rfl rfl H5.out.h2 Try.underlying46 rfl (i46 _ _)) rfl ?_
            rw [HP.out]
            refine ⟨H5.out.below, .inr ⟨rfl, fun v0 a0 a1 a2 => ?_⟩⟩
            have := (HEnd.out v0 a0 a1 a2).1
            omega
        · have hd : decide (n1 < 0) = false := decide_eq_false hneg
          by_cases hrv : RightV ⟨blocks, l⟩
          · rw [if_pos hrv] at c1 ⊢
            have HRV := Aside0.mk hrv
            have hS := str_iff (valL ⟨blocks, l⟩) L (valL_byt HVA.out.ok) HC.out.2.1
            generalize strOfNums (valL ⟨blocks, l⟩) = S5 at *
            generalize strOfNums L = SL at *
            clear hrv
            by_cases heq : valL ⟨blocks, l⟩ = L
            · rw [decide_eq_true heq] at hS
              have HEQ := Aside0.mk heq
              clear heq
              go_wp2_with (first | (refine wpList_store_row rfl 46 (.tmp 2) (.tmp 61) rfl w.heap.size #[.slice Ab nb cb, .slice Ai ni ci] rfl rfl 46 #[.slice none 0 0, .slice none 0 0] H5.out.h2 (i46 _ _) rfl (o40 _ _ _ _ _ _) ?_) | (refine wpList_load_row rfl 46 (.tmp 6) rfl gv rfl 46 #[.slice Ab nb cb, .slice Ai ni ci] (0, 0) _ H5.out.hv Try.underlying46 rfl (i46 _ _) ?_))
              refine bodyPost_ret (res_ct (p := 2) (q := 3) _ rfl rfl (setRow_heap _ w.heap.size _ #[.slice Ab nb cb, .slice Ai ni ci] 46 _ H5.out.h2) Try.underlying46 rfl (i46 _ _)) rfl ?_
              rw [HP.out]
              exact ⟨below_setRow H5.out.below (Nat.le_refl _) _, .inl ⟨⟨blocks, l⟩, Ab, nb, cb, Ai, ni, ci, rfl, H5.out.put _, HRV.out, HEQ.out⟩⟩
            · rw [decide_eq_false heq] at hS
              have HEQ := Aside0.mk heq
              clear heq
              go_wp2_with (refine wpList_store_same rfl 46 (.tmp 2) (.tmp 60) rfl w.heap.size #[.slice none 0 0, .slice none 0 0] rfl rfl 46 H5.out.h2 (i46 _ _) (o40 _ _ _ _ _ _) ?_)
              refine bodyPost_ret (res_ct (p := 2) (q := 3) _ rfl rfl H5.out.h2 Try.underlying46 rfl (i46 _ _)) rfl ?_
              rw [HP.out]
              refine ⟨H5.out.below, .inr ⟨rfl, fun v0 a0 a1 a2 => ?_⟩⟩
              have h := (HEnd.out v0 a0 a1 a2).2
              exact HEQ.out (by rw [← h]; exact a2)
          · rw [if_neg hrv] at c1 ⊢
            have HRV := Aside0.mk hrv
            clear hrv c1 c2
            go_wp2_with (refine wpList_store_same rfl 46 (.tmp 2) (.tmp 60) rfl w.heap.size #[.slice none 0 0, .slice none 0 0] rfl rfl 46 H5.out.h2 (i46 _ _) (o40 _ _ _ _ _ _) ?_)
            all_goals
              refine bodyPost_ret (res_ct (p := 2) (q := 3) _ rfl rfl H5.out.h2 Try.underlying46 rfl (i46 _ _)) rfl ?_
              rw [HP.out]
              refine ⟨H5.out.below, .inr ⟨rfl, fun v0 a0 a1 a2 => ?_⟩⟩
              have h := (HEnd.out v0 a0 a1 a2).2
              exact HRV.out (by rw [← h]; exact a1)
end Go.Proofs.Ytfefpbnhpncmlaa.CatX
/- CatalogValues: the law. -/
namespace Go.Proofs.Ytfefpbnhpncmlaa.CatY
open Go.RowKit Go.Proofs.Ytfefpbnhpncmlaa.CatV Go.Proofs.Ytfefpbnhpncmlaa.CatW Go.Proofs.Ytfefpbnhpncmlaa.CatK Go.Proofs.Ytfefpbnhpncmlaa.CatM Go.Proofs.Ytfefpbnhpncmlaa.CatN Go.Proofs.Ytfefpbnhpncmlaa.CatO Go.Proofs.Ytfefpbnhpncmlaa.CatX Go.Proofs.Ytfefpbnhpncmlaa.PtrB Go.Proofs.Ytfefpbnhpncmlaa.Agg Go.Proofs.Ytfefpbnhpncmlaa.B8 Go.Proofs.Ytfefpbnhpncmlaa.CodL Go.Proofs.Ytfefpbnhpncmlaa.CodA Go.Proofs.Ytfefpbnhpncmlaa.CodB Go.Proofs.Ytfefpbnhpncmlaa.CatL Go.Proofs.Ytfefpbnhpncmlaa.PtrA Go.Proofs.Ytfefpbnhpncmlaa.PtrE Go.Proofs.Ytfefpbnhpncmlaa.PtrF Go.Proofs.Ytfefpbnhpncmlaa.PBaseSigns Go.Proofs.YtfefpbnhpncmlaaW.PrintWords Go.Proofs.YtfefpbnhpncmlaaW.PrintLast Go.Proofs.YtfefpbnhpncmlaaW.PrintMore
set_option linter.unusedVariables false
set_option linter.unusedSimpArgs false

open Classical in
/-- What bytes tell: a value, or none and a fault's number. -/
noncomputable def readV (L : List Int) : Val × Int := if h : ∃ v0, OkV v0 ∧ RightV v0 ∧ valL v0 = L then (h.choose, 0) else (⟨[], []⟩, 11)
def TellsR (w : World) (L : List Int) (e : Ending) (w' : World) : Prop :=
  ∃ A nb c A2 ni c2, e = .returned (.tuple #[.agg #[.slice A nb c, .slice A2 ni c2], .int .i64 (readV L).2]) ∧ VA w' A nb c A2 ni c2 (readV L).1 ∧ nb ≤ 8 ∧ ni ≤ 400 ∧ Below w.heap.size w w'
theorem TellsReadV.fun_ {w w' : World} {L : List Int} {e : Ending} (h : TellsReadV w L e w') : TellsR w L e w' := by
  obtain ⟨hb, ⟨v, A, nb, c, A2, ni, c2, rfl, hva, hr, hl⟩ | ⟨rfl, hno⟩⟩ := h
  · have hx : ∃ v0, OkV v0 ∧ RightV v0 ∧ valL v0 = L := ⟨v, hva.ok, hr, hl⟩
    have hs := hx.choose_spec
    have e1 : hx.choose = v := valL_inj hs.1 hva.ok hs.2.1 hr (hs.2.2.trans hl.symm)
    have e2 : readV L = (v, 0) := by
      unfold readV
      rw [dif_pos hx, e1]
    refine ⟨A, nb, c, A2, ni, c2, by rw [e2], by rw [e2]; exact hva, by rw [hva.nb]; exact hr.1, by rw [hva.ni]; exact hr.2.1, hb⟩
  · have e2 : readV L = (⟨[], []⟩, 11) := by
      unfold readV
      rw [dif_neg]
      rintro ⟨v0, a, b, d⟩
      exact hno v0 a b d
    refine ⟨none, 0, 0, none, 0, 0, by rw [e2], ?_, by decide, by decide, hb⟩
    rw [e2]
    exact ⟨Kd.C_nil _ _, Kd.C_nil _ _, Nat.le_refl _, Nat.le_refl _, rfl, rfl, ⟨fun _ h => by simp at h, fun _ h => by simp at h⟩⟩
theorem C8_mark (w : World) (c : List Int) (t : TypeId) (fr : Nat × Nat) (hc : c.length ≤ 9223372036854775807) : C8 (w.alloc (.cells (c.map (Value.int .u8)).toArray t fr)) (some ⟨w.heap.size, 0, none⟩) c.length c := by
  refine ⟨rfl, hc, fun _ => ⟨_, rfl, fun j p hj => ⟨[.int .u8 p], rfl, rfl, fun i u hu => ?_⟩⟩⟩
  match i with
  | 0 =>
    simp only [show (Kd.int .u8).sz = 1 from rfl, Nat.mul_one, Nat.add_zero]
    rw [show (⟨w.heap.size, 0, none⟩ : Addr).add j = ⟨w.heap.size, j, none⟩ from by rw [add_at]; simp]
    rw [World.cell?_alloc_mark]
    simp only [List.getElem?_cons_zero, Option.some.injEq] at hu
    subst hu
    simp [hj]
  | i + 1 => simp at hu
theorem hi_calls (w : World) : Calls Try.prog 24 #[.agg #[.slice none 0 0, .slice (some ⟨w.heap.size, 0, none⟩) 2 2]] (w.alloc (.cells #[.int .u8 104, .int .u8 105] 5 (2, 3))) (fun e w' => ∃ r, e = .returned (.tuple #[r, .int .i64 0]) ∧ (convert 31 9 r).run Try.prog w' = .ok (.string ⟨#[0, 104, 105]⟩) w' ∧ Below w.heap.size w w') := by
  have hva : VA (w.alloc (.cells #[.int .u8 104, .int .u8 105] 5 (2, 3))) none 0 0 (some ⟨w.heap.size, 0, none⟩) 2 2 ⟨[], [104, 105]⟩ :=
    ⟨Kd.C_nil _ _, C8_mark w [104, 105] 5 (2, 3) (by simp), Nat.le_refl _, Nat.le_refl _, rfl, rfl, ⟨fun _ h => by simp at h, fun x hx => by simp at hx; omega⟩⟩
  have hr : RightV ⟨[], [104, 105]⟩ := ⟨by simp, by simp, fun p hp => by simp at hp⟩
  refine (putV_calls none 0 0 _ 2 2 ⟨[], [104, 105]⟩ _ hva (by decide) (by decide)).mono ?_
  rintro e w' ⟨r, rfl, h8, hb⟩
  rw [if_pos hr] at h8 ⊢
  refine ⟨r, rfl, ?_, (below_alloc (Below.refl _ _) _).trans (hb.mono (by simp))⟩
  have := conv_own h8
  rw [this]
  have e : valL ⟨[], [104, 105]⟩ = [0, 104, 105] := by
    simp only [valL, List.length_nil, List.flatMap_nil, List.append_nil]
    rw [shortL_small (by decide)]
    rfl
  rw [e, show strOfNums [0, 104, 105] = ⟨#[0, 104, 105]⟩ from by decide +kernel]

theorem yieldsIf_load_P {ops : Array Oper} {S : World → Prop} {op : Oper} {a : Act} (hw : Region.wanted op (yielded ops a.tmps) = true) (x : Operand) (ho : op.op = .load 56 x)
    (b o : Nat) (p : Ptr) (hk : Ok p) (hx : a.eval x = .pointer (some ⟨b, o, none⟩)) (hS : ∀ w, S w → w.rangeAt b o (encP p).toList) : YieldsIf Try.prog ops S op (.agg (encP p)) a := by
  have := yieldsIf_load_mid (P := Try.prog) (S := S) hw 56 x ho b o hx (encP p).toList _ hS Try.underlying56 rfl (by rw [enc_len hk]; kernel_rfl)
  simpa using this

set_option maxRecDepth 100000 in
set_option maxHeartbeats 1000000 in
theorem law (A : Option Addr) (nb cb : Nat) (A2 : Option Addr) (ni ci : Nat) (v : Val) (Ab : Option Addr) (c n : Nat) (L : List Int) (w : World) (h : VA w A nb cb A2 ni ci v) (hn : n = L.length) (hr : C8 w Ab n L) (hb : Byt L) (hc : n ≤ c) :
    Calls Try.prog 8 #[.agg #[.slice A nb cb, .slice A2 ni ci], .slice Ab n c] w fun e w' => e = .returned (.bool true) ∧ Below w.heap.size w w' := by
  subst hn
  have HB := Aside0.mk (below_alloc (Below.refl w.heap.size w) (.cells #[.slice A nb cb, .slice A2 ni ci] 40))
  have HV := Aside0.mk (h.below HB.out)
  have HC := Aside0.mk (And.intro (Kd.C_below hr HB.out) (And.intro hb hc))
  have G0 := Aside0.mk (blk_new w (.cells #[.slice A nb cb, .slice A2 ni ci] 40))
  obtain ⟨P, hP⟩ : ∃ P : Ending → World → Prop, P = (fun e w' => e = .returned (.bool true) ∧ Below w.heap.size w w') := ⟨_, rfl⟩
  rw [← hP]
  have HP := Aside0.mk hP
  clear h hr hb hc hP
  by_cases h1 : 20 < nb
  · go_enter Try.func8, Try.ntmps8
    go_wp2
    rw [HP.out]
    exact ⟨rfl, HB.out⟩
  by_cases h2 : 600 < ni
  · go_enter Try.func8, Try.ntmps8
    go_wp2
    rw [HP.out]
    exact ⟨rfl, HB.out⟩
  by_cases h3 : 1000 < L.length
  · go_enter Try.func8, Try.ntmps8
    go_wp2
    rw [HP.out]
    exact ⟨rfl, HB.out⟩
  go_enter Try.func8, Try.ntmps8
  go_wp2_with fail
  refine (putV_calls A nb cb A2 ni ci v _ HV.out (by omega) (by omega)).mono ?_
  rintro e w1 ⟨r1, rfl, hr1, hb1⟩
  obtain ⟨q1, hq1⟩ : ∃ q : Int, q = (if RightV v then 0 else 2) := ⟨_, rfl⟩
  have HQ1 := Aside0.mk hq1
  rw [← hq1]
  clear hq1
  have HV1 := Aside0.mk (HV.out.below hb1)
  have B1 := Aside0.mk (below_then HB.out HB.out.size hb1)
  have G1 := Aside0.mk (blk_below G0.out hb1)
  have HC1 := Aside0.mk (And.intro (Kd.C_below HC.out.1 hb1) (And.intro HC.out.2.1 HC.out.2.2))
  have R1 := Aside0.mk hr1
  have x0 : w1.cell? ⟨w.heap.size, 0, none⟩ = some (.slice A nb cb) := by rw [cell_of_row _ _ 0 _ 40 (0, 0) G1.out]; rfl
  have x1 : w1.cell? ⟨w.heap.size, 1, none⟩ = some (.slice A2 ni ci) := by rw [cell_of_row _ _ 1 _ 40 (0, 0) G1.out]; rfl
  clear hr1 hb1 HV G0 HC
  go_wp2_with fail
  refine (rputV_calls A nb cb A2 ni ci v _ HV1.out (by omega) (by omega)).mono ?_
  rintro e w2 ⟨r2, rfl, hr2, hb2⟩
  rw [← HQ1.out]
  have HV2 := Aside0.mk (HV1.out.below hb2)
  have B2 := Aside0.mk (below_then B1.out B1.out.size hb2)
  have G2 := Aside0.mk (blk_below G1.out hb2)
  have HC2 := Aside0.mk (And.intro (Kd.C_below HC1.out.1 hb2) (And.intro HC1.out.2.1 HC1.out.2.2))
  have R12 := Aside0.mk (And.intro (Kd.R_below R1.out hb2) hr2)
  clear hr2 hb2 HV1 G1 HC1 R1 B1 HB x0 x1
  generalize (if RightV v then valL v else []) = lx at *
  go_wp2_with fail
  refine (readV_calls Ab c L.length L rfl _ HC2.out.1 HC2.out.2.1 HC2.out.2.2 (by omega)).mono ?_
  intro e w3 ht3
  obtain ⟨A3, nb3, cb3, Ai3, ni3, ci3, rfl, hva3, l3, m3, hb3⟩ := TellsReadV.fun_ ht3
  clear ht3
  obtain ⟨vr, hvr⟩ : ∃ x, x = (readV L).1 := ⟨_, rfl⟩
  obtain ⟨er, her⟩ : ∃ x, x = (readV L).2 := ⟨_, rfl⟩
  rw [← hvr] at hva3
  rw [← her]
  have HRD := Aside0.mk (And.intro hvr her)
  have HV3 := Aside0.mk (And.intro (HV2.out.below hb3) hva3)
  have B3 := Aside0.mk (below_then B2.out B2.out.size hb3)
  have G3 := Aside0.mk (blk_below G2.out hb3)
  have HC3 := Aside0.mk (And.intro (Kd.C_below HC2.out.1 hb3) (And.intro HC2.out.2.1 HC2.out.2.2))
  have R123 := Aside0.mk (And.intro (Kd.R_below R12.out.1 hb3) (Kd.R_below R12.out.2 hb3))
  have bal := Aside0.mk (below_alloc (Below.refl w3.heap.size w3) (.cells #[.slice A3 nb3 cb3, .slice Ai3 ni3 ci3] 40))
  have GN3 := Aside0.mk (blk_new w3 (.cells #[.slice A3 nb3 cb3, .slice Ai3 ni3 ci3] 40))
  clear hvr her hva3 hb3 HV2 G2 HC2 R12 B2
  go_wp2_with fail
  refine (rreadV_calls Ab c L.length L rfl _ (Kd.C_below HC3.out.1 bal.out) HC3.out.2.1 HC3.out.2.2 (by omega)).mono ?_
  intro e w4 ht4
  obtain ⟨A4, nb4, cb4, Ai4, ni4, ci4, rfl, hva4, l4, m4, hb4⟩ := TellsReadV.fun_ ht4
  clear ht4
  rw [← HRD.out.1] at hva4
  rw [← HRD.out.2]
  have bal2 := below_then bal.out bal.out.size hb4
  have HV4 := Aside0.mk (And.intro (HV3.out.1.below bal2) (And.intro (HV3.out.2.below bal2) hva4))
  have B4 := Aside0.mk (below_then B3.out B3.out.size bal2)
  have G4 := Aside0.mk (And.intro (blk_below G3.out bal2) (blk_below GN3.out hb4))
  have R4 := Aside0.mk (And.intro (Kd.R_below R123.out.1 bal2) (Kd.R_below R123.out.2 bal2))
  clear hva4 hb4 bal2 HV3 G3 HC3 R123 B3 bal GN3
  go_wp2_with fail
  have bal5 := below_alloc (Below.refl w4.heap.size w4) (.cells #[.slice A4 nb4 cb4, .slice Ai4 ni4 ci4] 46)
  have HV5 := Aside0.mk (And.intro (HV4.out.1.below bal5) (And.intro (HV4.out.2.1.below bal5) (HV4.out.2.2.below bal5)))
  have B5 := Aside0.mk (below_then B4.out B4.out.size bal5)
  have G5 := Aside0.mk (And.intro (blk_below G4.out.1 bal5) (And.intro (blk_below G4.out.2 bal5) (blk_new w4 (.cells #[.slice A4 nb4 cb4, .slice Ai4 ni4 ci4] 46))))
  have R5 := Aside0.mk (And.intro (Kd.R_below R4.out.1 bal5) (Kd.R_below R4.out.2 bal5))
  clear bal5 HV4 B4 G4 R4
  generalize (w4.alloc (.cells #[.slice A4 nb4 cb4, .slice Ai4 ni4 ci4] 46)) = W5 at *
  generalize w3.heap.size = g3 at *
  generalize w4.heap.size = g4 at *
  have e3 : nb3 = nb4 := HV5.out.2.1.nb.trans HV5.out.2.2.nb.symm
  have e4 : ni3 = ni4 := HV5.out.2.1.ni.trans HV5.out.2.2.ni.symm
  subst e3 e4
  have d1 : decide ((20 : Int) < (nb : Int)) = false := decide_eq_false (by omega)
  have d2 : decide ((600 : Int) < (ni : Int)) = false := decide_eq_false (by omega)
  generalize hS1 : strOfNums lx = S1 at *
  have HS1 := Aside0.mk hS1
  generalize hS2 : strOfNums vr.inn = S2 at *
  have HS2 := Aside0.mk hS2
  clear hS1 hS2
  obtain ⟨q2, hq2⟩ : ∃ q : Bool, q = decide (RightV v) := ⟨_, rfl⟩
  have HQ2 := Aside0.mk hq2
  clear hq2
  refine wp_region_held_drew (S := fun w' => Below W5.heap.size W5 w') (by kernel_rfl) (below_drew (Below.refl _ _)) (fun hW => ?_)
  refine wpAnyH_take (i := 0) (oi := ⟨some 51, _, _, _, _, _⟩) (v := r1) rfl (by kernel_rfl) (by kernel_rfl) (by kernel_rfl) (fun _ _ _ h => h) (.inl ⟨by rfl, fun W1 h1 => by go_simp⟩) hW ?_
  try simp only [Act.put, List.setIfInBounds_toArray, List.set_cons_zero, List.set_cons_succ]
  refine wpAnyH_take (i := 1) (oi := ⟨some 52, _, _, _, _, _⟩) (v := .string S1) rfl (by kernel_rfl) (by kernel_rfl) (by kernel_rfl) (fun _ _ _ h => h) (.inl ⟨by rfl, fun W1 h1 => by (have x1 := conv_own (Kd.R_below R5.out.1 h1)); rw [HS1.out] at x1; go_simp⟩) hW ?_
  try simp only [Act.put, List.setIfInBounds_toArray, List.set_cons_zero, List.set_cons_succ]
  refine wpAnyH_take (i := 2) (oi := ⟨some 53, _, _, _, _, _⟩) (v := r2) rfl (by kernel_rfl) (by kernel_rfl) (by kernel_rfl) (fun _ _ _ h => h) (.inl ⟨by rfl, fun W1 h1 => by go_simp⟩) hW ?_
  try simp only [Act.put, List.setIfInBounds_toArray, List.set_cons_zero, List.set_cons_succ]
  refine wpAnyH_take (i := 3) (oi := ⟨some 54, _, _, _, _, _⟩) (v := .string S1) rfl (by kernel_rfl) (by kernel_rfl) (by kernel_rfl) (fun _ _ _ h => h) (.inl ⟨by rfl, fun W1 h1 => by (have x1 := conv_own (Kd.R_below R5.out.2 h1)); rw [HS1.out] at x1; go_simp⟩) hW ?_
  try simp only [Act.put, List.setIfInBounds_toArray, List.set_cons_zero, List.set_cons_succ]
  refine wpAnyH_take (i := 4) (oi := ⟨some 55, _, _, _, _, _⟩) (v := .bool false) rfl (by kernel_rfl) (by kernel_rfl) (by kernel_rfl) (fun _ _ _ h => h) (.inl ⟨by rfl, fun W1 h1 => by go_simp⟩) hW ?_
  try simp only [Act.put, List.setIfInBounds_toArray, List.set_cons_zero, List.set_cons_succ]
  refine wpAnyH_take (i := 5) (oi := ⟨some 56, _, _, _, _, _⟩) (v := .bool false) rfl (by kernel_rfl) (by kernel_rfl) (by kernel_rfl) (fun _ _ _ h => h) (.inl ⟨by rfl, fun W1 h1 => by go_simp⟩) hW ?_
  try simp only [Act.put, List.setIfInBounds_toArray, List.set_cons_zero, List.set_cons_succ]
  refine wpAnyH_take (i := 6) (oi := ⟨some 57, _, _, _, _, _⟩) (v := .int .i64 q1) rfl (by kernel_rfl) (by kernel_rfl) (by kernel_rfl) (fun _ _ _ h => h) (.inl ⟨by rfl, fun W1 h1 => by go_simp⟩) hW ?_
  try simp only [Act.put, List.setIfInBounds_toArray, List.set_cons_zero, List.set_cons_succ]
  refine wpAnyH_take (i := 7) (oi := ⟨some 58, _, _, _, _, _⟩) (v := .int .i64 q1) rfl (by kernel_rfl) (by kernel_rfl) (by kernel_rfl) (fun _ _ _ h => h) (.inl ⟨by rfl, fun W1 h1 => by go_simp⟩) hW ?_
  try simp only [Act.put, List.setIfInBounds_toArray, List.set_cons_zero, List.set_cons_succ]
  refine wpAnyH_take (i := 8) (oi := ⟨some 59, _, _, _, _, _⟩) (v := .bool false) rfl (by kernel_rfl) (by kernel_rfl) (by kernel_rfl) (fun _ _ _ h => h) (.inl ⟨by rfl, fun W1 h1 => by go_simp⟩) hW ?_
  try simp only [Act.put, List.setIfInBounds_toArray, List.set_cons_zero, List.set_cons_succ]
  refine wpAnyH_take (i := 9) (oi := ⟨some 60, _, _, _, _, _⟩) (v := .bool false) rfl (by kernel_rfl) (by kernel_rfl) (by kernel_rfl) (fun _ _ _ h => h) (.inl ⟨by rfl, fun W1 h1 => by go_simp⟩) hW ?_
  try simp only [Act.put, List.setIfInBounds_toArray, List.set_cons_zero, List.set_cons_succ]
  refine wpAnyH_take (i := 10) (oi := ⟨some 61, _, _, _, _, _⟩) (v := .bool false) rfl (by kernel_rfl) (by kernel_rfl) (by kernel_rfl) (fun _ _ _ h => h) (.inl ⟨by rfl, fun W1 h1 => by go_simp⟩) hW ?_
  try simp only [Act.put, List.setIfInBounds_toArray, List.set_cons_zero, List.set_cons_succ]
  refine wpAnyH_take (i := 11) (oi := ⟨some 62, _, _, _, _, _⟩) (v := .agg #[.slice A nb cb, .slice A2 ni ci]) rfl (by kernel_rfl) (by kernel_rfl) (by kernel_rfl) (fun _ _ _ h => h) (.inl ⟨by rfl, fun W1 h1 => by (have x1 : W1.cell? ⟨w.heap.size, 0, none⟩ = some (.slice A nb cb) := (by rw [cell_of_row _ _ 0 _ 40 (0, 0) (blk_below G5.out.1 h1)]; rfl)); (have x2 : W1.cell? ⟨w.heap.size, 1, none⟩ = some (.slice A2 ni ci) := (by rw [cell_of_row _ _ 1 _ 40 (0, 0) (blk_below G5.out.1 h1)]; rfl)); go_simp⟩) hW ?_
  try simp only [Act.put, List.setIfInBounds_toArray, List.set_cons_zero, List.set_cons_succ]
  refine wpAnyH_take (i := 13) (oi := ⟨some 64, _, _, _, _, _⟩) (v := .agg #[.slice A nb cb, .slice A2 ni ci]) rfl (by kernel_rfl) (by kernel_rfl) (by kernel_rfl) (fun _ _ _ h => h) (.inl ⟨by rfl, fun W1 h1 => by (have x1 : W1.cell? ⟨w.heap.size, 0, none⟩ = some (.slice A nb cb) := (by rw [cell_of_row _ _ 0 _ 40 (0, 0) (blk_below G5.out.1 h1)]; rfl)); (have x2 : W1.cell? ⟨w.heap.size, 1, none⟩ = some (.slice A2 ni ci) := (by rw [cell_of_row _ _ 1 _ 40 (0, 0) (blk_below G5.out.1 h1)]; rfl)); go_simp⟩) hW ?_
  try simp only [Act.put, List.setIfInBounds_toArray, List.set_cons_zero, List.set_cons_succ]
  refine wpAnyH_ready (rs := [12]) (by kernel_rfl) (by simp) (AllReadyH.cons rfl (fun K1 hK1 => ?_) AllReadyH.nil)
  go_simp
  refine (rightV_calls A nb cb A2 ni ci v _ (HV5.out.1.below hW) (by omega) (by omega)).mono ?_
  rintro e W1_ ⟨rfl, hb1_⟩
  rw [← HQ2.out]
  have hW1 := below_then hW hW.size hb1_
  refine hK1.out _ _ hW1 (fun hW => ?_)
  try simp only [Act.put, List.setIfInBounds_toArray, List.set_cons_zero, List.set_cons_succ]
  refine wpAnyH_ready (rs := [14]) (by kernel_rfl) (by simp) (AllReadyH.cons rfl (fun K2 hK2 => ?_) AllReadyH.nil)
  go_simp
  refine (rrightV_calls A nb cb A2 ni ci v _ (HV5.out.1.below hW) (by omega) (by omega)).mono ?_
  rintro e W2_ ⟨rfl, hb2_⟩
  rw [← HQ2.out]
  have hW2 := below_then hW hW.size hb2_
  refine hK2.out _ _ hW2 (fun hW => ?_)
  try simp only [Act.put, List.setIfInBounds_toArray, List.set_cons_zero, List.set_cons_succ]
  refine wpAnyH_take (i := 15) (oi := ⟨some 66, _, _, _, _, _⟩) (v := .bool false) rfl (by kernel_rfl) (by kernel_rfl) (by kernel_rfl) (fun _ _ _ h => h) (.inl ⟨by rfl, fun W1 h1 => by go_simp⟩) hW ?_
  try simp only [Act.put, List.setIfInBounds_toArray, List.set_cons_zero, List.set_cons_succ]
  refine wpAnyH_take (i := 16) (oi := ⟨some 67, _, _, _, _, _⟩) (v := .bool false) rfl (by kernel_rfl) (by kernel_rfl) (by kernel_rfl) (fun _ _ _ h => h) (.inl ⟨by rfl, fun W1 h1 => by go_simp⟩) hW ?_
  try simp only [Act.put, List.setIfInBounds_toArray, List.set_cons_zero, List.set_cons_succ]
  refine wpAnyH_take (i := 17) (oi := ⟨some 68, _, _, _, _, _⟩) (v := .bool false) rfl (by kernel_rfl) (by kernel_rfl) (by kernel_rfl) (fun _ _ _ h => h) (.inl ⟨by rfl, fun W1 h1 => by go_simp⟩) hW ?_
  try simp only [Act.put, List.setIfInBounds_toArray, List.set_cons_zero, List.set_cons_succ]
  refine wpAnyH_take (i := 18) (oi := ⟨some 69, _, _, _, _, _⟩) (v := .int .i64 er) rfl (by kernel_rfl) (by kernel_rfl) (by kernel_rfl) (fun _ _ _ h => h) (.inl ⟨by rfl, fun W1 h1 => by go_simp⟩) hW ?_
  try simp only [Act.put, List.setIfInBounds_toArray, List.set_cons_zero, List.set_cons_succ]
  refine wpAnyH_take (i := 19) (oi := ⟨some 70, _, _, _, _, _⟩) (v := .int .i64 er) rfl (by kernel_rfl) (by kernel_rfl) (by kernel_rfl) (fun _ _ _ h => h) (.inl ⟨by rfl, fun W1 h1 => by go_simp⟩) hW ?_
  try simp only [Act.put, List.setIfInBounds_toArray, List.set_cons_zero, List.set_cons_succ]
  refine wpAnyH_take (i := 20) (oi := ⟨some 71, _, _, _, _, _⟩) (v := .bool false) rfl (by kernel_rfl) (by kernel_rfl) (by kernel_rfl) (fun _ _ _ h => h) (.inl ⟨by rfl, fun W1 h1 => by go_simp⟩) hW ?_
  try simp only [Act.put, List.setIfInBounds_toArray, List.set_cons_zero, List.set_cons_succ]
  refine wpAnyH_take (i := 21) (oi := ⟨some 72, _, _, _, _, _⟩) (v := .bool false) rfl (by kernel_rfl) (by kernel_rfl) (by kernel_rfl) (fun _ _ _ h => h) (.inl ⟨by rfl, fun W1 h1 => by go_simp⟩) hW ?_
  try simp only [Act.put, List.setIfInBounds_toArray, List.set_cons_zero, List.set_cons_succ]
  refine wpAnyH_take (i := 22) (oi := ⟨some 73, _, _, _, _, _⟩) (v := .bool false) rfl (by kernel_rfl) (by kernel_rfl) (by kernel_rfl) (fun _ _ _ h => h) (.inl ⟨by rfl, fun W1 h1 => by go_simp⟩) hW ?_
  try simp only [Act.put, List.setIfInBounds_toArray, List.set_cons_zero, List.set_cons_succ]
  refine wpAnyH_take (i := 23) (oi := ⟨some 74, _, _, _, _, _⟩) (v := .pointer (some ⟨g3, 1, none⟩)) rfl (by kernel_rfl) (by kernel_rfl) (by kernel_rfl) (fun _ _ _ h => h) (.inl ⟨by rfl, fun W1 h1 => by go_simp⟩) hW ?_
  try simp only [Act.put, List.setIfInBounds_toArray, List.set_cons_zero, List.set_cons_succ]
  refine wpAnyH_take (i := 24) (oi := ⟨some 75, _, _, _, _, _⟩) (v := .slice Ai3 ni3 ci3) rfl (by kernel_rfl) (by kernel_rfl) (by kernel_rfl) (fun _ _ _ h => h) (.inl ⟨by rfl, fun W1 h1 => by (have x1 : W1.cell? ⟨g3, 1, none⟩ = some (.slice Ai3 ni3 ci3) := (by rw [cell_of_row _ _ 1 _ 40 (0, 0) (blk_below G5.out.2.1 h1)]; rfl)); go_simp⟩) hW ?_
  try simp only [Act.put, List.setIfInBounds_toArray, List.set_cons_zero, List.set_cons_succ]
  refine wpAnyH_take (i := 25) (oi := ⟨some 76, _, _, _, _, _⟩) (v := .string S2) rfl (by kernel_rfl) (by kernel_rfl) (by kernel_rfl) (fun _ _ _ h => h) (.inl ⟨by rfl, fun W1 h1 => by (have x1 := Kd.C_string (c := ci3) (P := Try.prog) Try.underlying31 Try.underlying5 Try.underlying9 (Kd.C_below HV5.out.2.1.inn h1)); rw [HS2.out] at x1; go_simp⟩) hW ?_
  try simp only [Act.put, List.setIfInBounds_toArray, List.set_cons_zero, List.set_cons_succ]
  refine wpAnyH_take (i := 26) (oi := ⟨some 77, _, _, _, _, _⟩) (v := .pointer (some ⟨g4, 1, none⟩)) rfl (by kernel_rfl) (by kernel_rfl) (by kernel_rfl) (fun _ _ _ h => h) (.inl ⟨by rfl, fun W1 h1 => by go_simp⟩) hW ?_
  try simp only [Act.put, List.setIfInBounds_toArray, List.set_cons_zero, List.set_cons_succ]
  refine wpAnyH_take (i := 27) (oi := ⟨some 78, _, _, _, _, _⟩) (v := .slice Ai4 ni3 ci4) rfl (by kernel_rfl) (by kernel_rfl) (by kernel_rfl) (fun _ _ _ h => h) (.inl ⟨by rfl, fun W1 h1 => by (have x1 : W1.cell? ⟨g4, 1, none⟩ = some (.slice Ai4 ni3 ci4) := (by rw [cell_of_row _ _ 1 _ 46 (0, 0) (blk_below G5.out.2.2 h1)]; rfl)); go_simp⟩) hW ?_
  try simp only [Act.put, List.setIfInBounds_toArray, List.set_cons_zero, List.set_cons_succ]
  refine wpAnyH_take (i := 28) (oi := ⟨some 79, _, _, _, _, _⟩) (v := .string S2) rfl (by kernel_rfl) (by kernel_rfl) (by kernel_rfl) (fun _ _ _ h => h) (.inl ⟨by rfl, fun W1 h1 => by (have x1 := Kd.C_string (c := ci4) (P := Try.prog) Try.underlying31 Try.underlying5 Try.underlying9 (Kd.C_below HV5.out.2.2.inn h1)); rw [HS2.out] at x1; go_simp⟩) hW ?_
  try simp only [Act.put, List.setIfInBounds_toArray, List.set_cons_zero, List.set_cons_succ]
  refine wpAnyH_take (i := 29) (oi := ⟨some 80, _, _, _, _, _⟩) (v := .bool false) rfl (by kernel_rfl) (by kernel_rfl) (by kernel_rfl) (fun _ _ _ h => h) (.inl ⟨by rfl, fun W1 h1 => by go_simp⟩) hW ?_
  try simp only [Act.put, List.setIfInBounds_toArray, List.set_cons_zero, List.set_cons_succ]
  refine wpAnyH_take (i := 30) (oi := ⟨some 81, _, _, _, _, _⟩) (v := .bool false) rfl (by kernel_rfl) (by kernel_rfl) (by kernel_rfl) (fun _ _ _ h => h) (.inl ⟨by rfl, fun W1 h1 => by go_simp⟩) hW ?_
  try simp only [Act.put, List.setIfInBounds_toArray, List.set_cons_zero, List.set_cons_succ]
  refine wpAnyH_take (i := 31) (oi := ⟨some 82, _, _, _, _, _⟩) (v := .bool false) rfl (by kernel_rfl) (by kernel_rfl) (by kernel_rfl) (fun _ _ _ h => h) (.inl ⟨by rfl, fun W1 h1 => by go_simp⟩) hW ?_
  try simp only [Act.put, List.setIfInBounds_toArray, List.set_cons_zero, List.set_cons_succ]
  refine wpAnyH_take (i := 32) (oi := ⟨some 83, _, _, _, _, _⟩) (v := .pointer (some ⟨g3, 0, none⟩)) rfl (by kernel_rfl) (by kernel_rfl) (by kernel_rfl) (fun _ _ _ h => h) (.inl ⟨by rfl, fun W1 h1 => by go_simp⟩) hW ?_
  try simp only [Act.put, List.setIfInBounds_toArray, List.set_cons_zero, List.set_cons_succ]
  refine wpAnyH_take (i := 33) (oi := ⟨some 84, _, _, _, _, _⟩) (v := .slice A3 nb3 cb3) rfl (by kernel_rfl) (by kernel_rfl) (by kernel_rfl) (fun _ _ _ h => h) (.inl ⟨by rfl, fun W1 h1 => by (have x1 : W1.cell? ⟨g3, 0, none⟩ = some (.slice A3 nb3 cb3) := (by rw [cell_of_row _ _ 0 _ 40 (0, 0) (blk_below G5.out.2.1 h1)]; rfl)); go_simp⟩) hW ?_
  try simp only [Act.put, List.setIfInBounds_toArray, List.set_cons_zero, List.set_cons_succ]
  refine wpAnyH_take (i := 34) (oi := ⟨some 85, _, _, _, _, _⟩) (v := .int .i64 (nb3 : Int)) rfl (by kernel_rfl) (by kernel_rfl) (by kernel_rfl) (fun _ _ _ h => h) (.inl ⟨by rfl, fun W1 h1 => by go_simp⟩) hW ?_
  try simp only [Act.put, List.setIfInBounds_toArray, List.set_cons_zero, List.set_cons_succ]
  refine wpAnyH_take (i := 35) (oi := ⟨some 86, _, _, _, _, _⟩) (v := .pointer (some ⟨g4, 0, none⟩)) rfl (by kernel_rfl) (by kernel_rfl) (by kernel_rfl) (fun _ _ _ h => h) (.inl ⟨by rfl, fun W1 h1 => by go_simp⟩) hW ?_
  try simp only [Act.put, List.setIfInBounds_toArray, List.set_cons_zero, List.set_cons_succ]
  refine wpAnyH_take (i := 36) (oi := ⟨some 87, _, _, _, _, _⟩) (v := .slice A4 nb3 cb4) rfl (by kernel_rfl) (by kernel_rfl) (by kernel_rfl) (fun _ _ _ h => h) (.inl ⟨by rfl, fun W1 h1 => by (have x1 : W1.cell? ⟨g4, 0, none⟩ = some (.slice A4 nb3 cb4) := (by rw [cell_of_row _ _ 0 _ 46 (0, 0) (blk_below G5.out.2.2 h1)]; rfl)); go_simp⟩) hW ?_
  try simp only [Act.put, List.setIfInBounds_toArray, List.set_cons_zero, List.set_cons_succ]
  refine wpAnyH_take (i := 37) (oi := ⟨some 88, _, _, _, _, _⟩) (v := .int .i64 (nb3 : Int)) rfl (by kernel_rfl) (by kernel_rfl) (by kernel_rfl) (fun _ _ _ h => h) (.inl ⟨by rfl, fun W1 h1 => by go_simp⟩) hW ?_
  try simp only [Act.put, List.setIfInBounds_toArray, List.set_cons_zero, List.set_cons_succ]
  refine wpAnyH_take (i := 38) (oi := ⟨some 89, _, _, _, _, _⟩) (v := .bool false) rfl (by kernel_rfl) (by kernel_rfl) (by kernel_rfl) (fun _ _ _ h => h) (.inl ⟨by rfl, fun W1 h1 => by go_simp⟩) hW ?_
  try simp only [Act.put, List.setIfInBounds_toArray, List.set_cons_zero, List.set_cons_succ]
  refine wpAnyH_take (i := 39) (oi := ⟨some 90, _, _, _, _, _⟩) (v := .bool false) rfl (by kernel_rfl) (by kernel_rfl) (by kernel_rfl) (fun _ _ _ h => h) (.inl ⟨by rfl, fun W1 h1 => by go_simp⟩) hW ?_
  try simp only [Act.put, List.setIfInBounds_toArray, List.set_cons_zero, List.set_cons_succ]
  refine wpAnyH_done (by kernel_rfl) ?_ _
  have HW := Aside0.mk hW
  clear hK1 K1 hK2 K2 hW1 hW2 hW hb1_ hb2_ R5
  go_wp2
  go_loopw [13] (fun v13 wr => ∃ (j : Nat), v13 = .int .i64 (j : Int) ∧ j ≤ nb3 ∧ Aside0 (Below W5.heap.size W5 wr)) (fun v _ => nb3 - (intOf v).toNat)
  case atStart => exact ⟨0, rfl, Nat.zero_le _, HW⟩
  case round =>
    obtain ⟨j, rfl, hj, H⟩ := hrel
    clear HW
    have x4 : wr.cell? ⟨g4, 0, none⟩ = some (.slice A4 nb3 cb4) := by rw [cell_of_row _ _ 0 _ 46 (0, 0) (blk_below G5.out.2.2 H.out)]; rfl
    by_cases hlt : j < nb3
    · obtain ⟨b3, off3, rfl, hb3, hx3⟩ := CP_at HV5.out.2.1.blocks (by omega)
      obtain ⟨b4, off4, rfl, hb4, hx4⟩ := CP_at HV5.out.2.2.blocks (by omega)
      obtain ⟨hok, hr3⟩ := hx3 j hlt
      obtain ⟨_, hr4⟩ := hx4 j hlt
      have HK := Aside0.mk hok
      have HR3 := Aside0.mk hr3
      have HR4 := Aside0.mk hr4
      have HB34 := Aside0.mk (And.intro hb3 hb4)
      clear hx3 hx4 hok hr3 hr4 hb3 hb4
      generalize vr.blocks.getD j zeroP = pt at *
      have hq : ∀ W : World, (binOp .neq 56 (.agg (encP pt)) (.agg (encP pt))).run Try.prog W = .ok (.bool false) W := fun W => by rw [neq56 pt pt HK.out.len HK.out.len W, decide_eq_true rfl]; rfl
      have hbw := Aside0.mk (below_drew H.out)
      go_wp2
      refine wp_region_held_drew (S := fun w' => Below W5.heap.size W5 w') (by kernel_rfl) hbw.out (fun hW => ?_)
      refine wpAnyH_take (i := 0) (oi := ⟨some 98, _, _, _, _, _⟩) (v := .pointer (some ⟨g3, 0, none⟩)) rfl (by kernel_rfl) (by kernel_rfl) (by kernel_rfl) (fun _ _ _ h => h) (.inl ⟨by rfl, fun W1 h1 => by go_simp⟩) hW ?_
      try simp only [Act.put, List.setIfInBounds_toArray, List.set_cons_zero, List.set_cons_succ]
      refine wpAnyH_take (i := 1) (oi := ⟨some 99, _, _, _, _, _⟩) (v := .slice (some ⟨b3, off3, none⟩) nb3 cb3) rfl (by kernel_rfl) (by kernel_rfl) (by kernel_rfl) (fun _ _ _ h => h) (.inl ⟨by rfl, fun W1 h1 => by (have x1 : W1.cell? ⟨g3, 0, none⟩ = some (.slice (some ⟨b3, off3, none⟩) nb3 cb3) := (by rw [cell_of_row _ _ 0 _ 40 (0, 0) (blk_below G5.out.2.1 h1)]; rfl)); go_simp⟩) hW ?_
      try simp only [Act.put, List.setIfInBounds_toArray, List.set_cons_zero, List.set_cons_succ]
      refine wpAnyH_take (i := 2) (oi := ⟨some 100, _, _, _, _, _⟩) (v := .int .i64 (j : Int)) rfl (by kernel_rfl) (by kernel_rfl) (by kernel_rfl) (fun _ _ _ h => h) (.inl ⟨by rfl, fun W1 h1 => by go_simp⟩) hW ?_
      try simp only [Act.put, List.setIfInBounds_toArray, List.set_cons_zero, List.set_cons_succ]
      refine wpAnyH_take (i := 3) (oi := ⟨some 101, _, _, _, _, _⟩) (v := .pointer (some ⟨b3, off3 + j * 36, none⟩)) rfl (by kernel_rfl) (by kernel_rfl) (by kernel_rfl) (fun _ _ _ h => h) (.inl ⟨by rfl, fun W1 h1 => by go_simp⟩) hW ?_
      try simp only [Act.put, List.setIfInBounds_toArray, List.set_cons_zero, List.set_cons_succ]
      refine wpAnyH_take (i := 4) (oi := ⟨some 102, _, _, _, _, _⟩) rfl (by kernel_rfl) (by kernel_rfl) (by kernel_rfl) (fun _ _ _ h => h) (yieldsIf_load_P (by rfl) _ rfl b3 (off3 + j * 36) pt HK.out rfl (fun _ h => rangeAt_below HR3.out h HB34.out.1)) hW ?_
      try simp only [Act.put, List.setIfInBounds_toArray, List.set_cons_zero, List.set_cons_succ]
      refine wpAnyH_take (i := 5) (oi := ⟨some 103, _, _, _, _, _⟩) (v := .pointer (some ⟨g4, 0, none⟩)) rfl (by kernel_rfl) (by kernel_rfl) (by kernel_rfl) (fun _ _ _ h => h) (.inl ⟨by rfl, fun W1 h1 => by go_simp⟩) hW ?_
      try simp only [Act.put, List.setIfInBounds_toArray, List.set_cons_zero, List.set_cons_succ]
      refine wpAnyH_take (i := 6) (oi := ⟨some 104, _, _, _, _, _⟩) (v := .slice (some ⟨b4, off4, none⟩) nb3 cb4) rfl (by kernel_rfl) (by kernel_rfl) (by kernel_rfl) (fun _ _ _ h => h) (.inl ⟨by rfl, fun W1 h1 => by (have x1 : W1.cell? ⟨g4, 0, none⟩ = some (.slice (some ⟨b4, off4, none⟩) nb3 cb4) := (by rw [cell_of_row _ _ 0 _ 46 (0, 0) (blk_below G5.out.2.2 h1)]; rfl)); go_simp⟩) hW ?_
      try simp only [Act.put, List.setIfInBounds_toArray, List.set_cons_zero, List.set_cons_succ]
      refine wpAnyH_take (i := 7) (oi := ⟨some 105, _, _, _, _, _⟩) (v := .int .i64 (j : Int)) rfl (by kernel_rfl) (by kernel_rfl) (by kernel_rfl) (fun _ _ _ h => h) (.inl ⟨by rfl, fun W1 h1 => by go_simp⟩) hW ?_
      try simp only [Act.put, List.setIfInBounds_toArray, List.set_cons_zero, List.set_cons_succ]
      refine wpAnyH_take (i := 8) (oi := ⟨some 106, _, _, _, _, _⟩) (v := .pointer (some ⟨b4, off4 + j * 36, none⟩)) rfl (by kernel_rfl) (by kernel_rfl) (by kernel_rfl) (fun _ _ _ h => h) (.inl ⟨by rfl, fun W1 h1 => by go_simp⟩) hW ?_
      try simp only [Act.put, List.setIfInBounds_toArray, List.set_cons_zero, List.set_cons_succ]
      refine wpAnyH_take (i := 9) (oi := ⟨some 107, _, _, _, _, _⟩) rfl (by kernel_rfl) (by kernel_rfl) (by kernel_rfl) (fun _ _ _ h => h) (yieldsIf_load_P (by rfl) _ rfl b4 (off4 + j * 36) pt HK.out rfl (fun _ h => rangeAt_below HR4.out h HB34.out.2)) hW ?_
      try simp only [Act.put, List.setIfInBounds_toArray, List.set_cons_zero, List.set_cons_succ]
      refine wpAnyH_take (i := 10) (oi := ⟨some 108, _, _, _, _, _⟩) (v := .bool false) rfl (by kernel_rfl) (by kernel_rfl) (by kernel_rfl) (fun _ _ _ h => h) (.inl ⟨by rfl, fun W1 h1 => by (have x1 := hq W1); go_simp⟩) hW ?_
      try simp only [Act.put, List.setIfInBounds_toArray, List.set_cons_zero, List.set_cons_succ]
      refine wpAnyH_done (by kernel_rfl) ?_ _
      clear hW hq
      go_wp2
      go_roundw
      case rel => exact ⟨j + 1, by go_num, by omega, hbw⟩
      case measure => simp [intOf]; omega
    · have cv31 : (convert 31 31 (.slice (some ⟨wr.heap.size, 0, none⟩) 2 2)).run Try.prog (wr.alloc (.cells #[.int .u8 104, .int .u8 105] 5)) = .ok (.slice (some ⟨wr.heap.size, 0, none⟩) 2 2) (wr.alloc (.cells #[.int .u8 104, .int .u8 105] 5 (2, 3))) := Lib.run_convert_bytes_const wr 31 5 #[.int .u8 104, .int .u8 105] 2 2 Try.underlying31 Try.underlying5
      have B6 := Aside0.mk (below_then B5.out B5.out.size H.out)
      clear HV5 G5 HRD
      go_wp2_with fail
      refine (hi_calls wr).mono ?_
      rintro e w7 ⟨r7, rfl, c7, b7⟩
      have B7 := Aside0.mk (below_then B6.out B6.out.size b7)
      clear b7
      go_wp2
      rw [HP.out]
      exact ⟨rfl, B7.out⟩
end Go.Proofs.Ytfefpbnhpncmlaa.CatY
/- What a pointer, and a value, that can be read as data look like in memory. -/
namespace Go.Proofs.Ytfefpbnhpncmlaa.CatZ
open Go.RowKit Go.Proofs.YtfefpbnhpncmlaaW.PrintWords Go.Proofs.YtfefpbnhpncmlaaW.Opens Go.Proofs.Ytfefpbnhpncmlaa.CatK Go.Proofs.Ytfefpbnhpncmlaa.CodL Go.Proofs.Ytfefpbnhpncmlaa.CatL Go.Proofs.Ytfefpbnhpncmlaa.PtrE Go.Proofs.Ytfefpbnhpncmlaa.B8
set_option linter.unusedVariables false

theorem byte_wf {x : Int} (h : (Lit.int .u8 x).wf = true) : 0 ≤ x ∧ x < 256 := by
  have : 0 ≤ x ∧ x ≤ 255 := by simpa [Lit.wf, IntKind.min, IntKind.max, IntKind.signed, IntKind.bits] using h
  omega
theorem u32_wf {x : Int} (h : (Lit.int .u32 x).wf = true) : 0 ≤ x ∧ x < 4294967296 := by
  have : 0 ≤ x ∧ x ≤ 4294967295 := by simpa [Lit.wf, IntKind.min, IntKind.max, IntKind.signed, IntKind.bits] using h
  omega
/-- 32 bytes, side by side. -/
def k32 : Kd (List Int) where
  sz := 32
  E := []
  K := fun _ l cs => cs = l.map (Value.int .u8) ∧ l.length = 32
  M := fun _ _ _ l cs => cs = l.map (Value.int .u8) ∧ l.length = 32
  K_len := fun h => by rw [h.1, List.length_map, h.2]
  K_one := fun h u hu => by
    rw [h.1] at hu
    obtain ⟨x, _, rfl⟩ := List.mem_map.1 hu
    rfl
  K_below := fun _ h => h
  K_of_M := fun h => h
  M_mono := fun _ h => h
  M_bound := fun h => h
  M_move := fun _ h => h
  M_lower := fun _ h => h
theorem cells54 : Try.prog.cellsOf 54 = 32 := by kernel_rfl
theorem cells5 : Try.prog.cellsOf 5 = 1 := by kernel_rfl
theorem under54 : Try.prog.underlying 54 = some (.array 32 5) := by kernel_rfl
theorem opens54 : Opens Try.prog 54 k32 (fun l => Byt l) := by
  intro H enc w base spare held n cs x h
  obtain ⟨xs, m, _, _, hl, hxl, hf⟩ := DataW.trod_array under54 h
  rw [cells54] at hl
  rw [cells5] at hf
  have each : ∀ i, i < 32 → ∃ y : Int, cs[i]? = some (.int .u8 y) ∧ 0 ≤ y ∧ y < 256 := by
    intro i hi
    have h1 := hf i hi
    rw [List.getElem?_eq_getElem (by omega)] at h1
    have e : (cs.drop (i * 1)).take 1 = [cs[i]'(by omega)] := by
      rw [Nat.mul_one, List.drop_eq_getElem_cons (by omega)]
      rfl
    rw [e] at h1
    obtain ⟨y, hy, _, hw⟩ := DataW.trod_int Try.underlying5 h1
    have : cs[i]'(by omega) = .int .u8 y := by simpa using hy
    exact ⟨y, by rw [List.getElem?_eq_getElem (by omega), this], byte_wf hw⟩
  obtain ⟨f, hff⟩ := Go.Deep.choose_lt each
  refine ⟨(List.range 32).map f, ⟨?_, by simp⟩, ?_⟩
  · apply List.ext_getElem?
    intro i
    by_cases hi : i < 32
    · rw [(hff i hi).1]
      simp [hi]
    · rw [List.getElem?_eq_none (by omega), List.getElem?_eq_none (by simp; omega)]
  · intro y hy
    obtain ⟨i, hi, rfl⟩ := List.mem_map.1 hy
    exact (hff i (List.mem_range.1 hi)).2
theorem cells56 : Try.prog.cellsOf 56 = 36 := by kernel_rfl
theorem cells3 : Try.prog.cellsOf 3 = 1 := by kernel_rfl
theorem cells53 : Try.prog.cellsOf 53 = 1 := by kernel_rfl
abbrev k5 : Kd (Int × Int × Int × Int × List Int) := Kd.pair (Kd.int .i64) (Kd.pair (Kd.int .i64) (Kd.pair (Kd.int .i64) (Kd.pair (Kd.int .u32) k32)))
theorem opens56' : Opens Try.prog 56 k5 (fun x => (Lit.int .i64 x.1).wf = true ∧ (Lit.int .i64 x.2.1).wf = true ∧ (Lit.int .i64 x.2.2.1).wf = true ∧ (Lit.int .u32 x.2.2.2.1).wf = true ∧ Byt x.2.2.2.2) := by
  refine opens_struct underl56 (by rw [cells56]; rfl) ?_
  have hf := fields56
  generalize (Try.prog.fieldsOf 56).toList = fs at hf
  rcases fs with _ | ⟨f0, fs⟩; · simp at hf
  rcases fs with _ | ⟨f1, fs⟩; · simp at hf
  rcases fs with _ | ⟨f2, fs⟩; · simp at hf
  rcases fs with _ | ⟨f3, fs⟩; · simp at hf
  rcases fs with _ | ⟨f4, fs⟩; · simp at hf
  rcases fs with _ | ⟨f5, fs⟩
  · simp only [List.map_cons, List.map_nil, List.cons.injEq, Prod.mk.injEq, and_true] at hf
    obtain ⟨⟨n0, t0, o0⟩, ⟨n1, t1, o1⟩, ⟨n2, t2, o2⟩, ⟨n3, t3, o3⟩, n4, t4, o4⟩ := hf
    refine opensF_cons (P := Try.prog) (d0 := Kd.int .i64) (d1 := (Kd.pair (Kd.int .i64) (Kd.pair (Kd.int .i64) (Kd.pair (Kd.int .u32) k32)))) (G0 := fun x => (Lit.int .i64 x).wf = true) (G1 := fun x : Int × Int × Int × List Int => (Lit.int .i64 x.1).wf = true ∧ (Lit.int .i64 x.2.1).wf = true ∧ (Lit.int .u32 x.2.2.1).wf = true ∧ Byt x.2.2.2) o0 (by rw [t0]; exact cells3) (by rw [t0]; exact opens_int Try.underlying3) ?_
    refine opensF_cons (P := Try.prog) (d0 := Kd.int .i64) (d1 := (Kd.pair (Kd.int .i64) (Kd.pair (Kd.int .u32) k32))) (G0 := fun x => (Lit.int .i64 x).wf = true) (G1 := fun x : Int × Int × List Int => (Lit.int .i64 x.1).wf = true ∧ (Lit.int .u32 x.2.1).wf = true ∧ Byt x.2.2) o1 (by rw [t1]; exact cells3) (by rw [t1]; exact opens_int Try.underlying3) ?_
    refine opensF_cons (P := Try.prog) (d0 := Kd.int .i64) (d1 := (Kd.pair (Kd.int .u32) k32)) (G0 := fun x => (Lit.int .i64 x).wf = true) (G1 := fun x : Int × List Int => (Lit.int .u32 x.1).wf = true ∧ Byt x.2) o2 (by rw [t2]; exact cells3) (by rw [t2]; exact opens_int Try.underlying3) ?_
    refine opensF_cons (P := Try.prog) (d0 := Kd.int .u32) (d1 := k32) (G0 := fun x => (Lit.int .u32 x).wf = true) (G1 := fun x : List Int => Byt x) o3 (by rw [t3]; exact cells53) (by rw [t3]; exact opens_int Try.underlying53) ?_
    exact opensF_last (P := Try.prog) (d := k32) o4 (by rw [t4]; exact cells54) (by rw [t4]; exact opens54)
  · simp at hf
theorem opens56 : Opens Try.prog 56 kP (fun _ => True) := by
  intro H enc w base spare held n cs x h
  obtain ⟨⟨a, b, c, d, l⟩, hk, _, _, _, h4, h5⟩ := opens56' H enc w base spare held n cs x h
  obtain ⟨c0, r0, rfl, hk0, c1, r1, rfl, hk1, c2, r2, rfl, hk2, c3, c4, rfl, hk3, hk4⟩ := hk
  have e0 : c0 = [.int .i64 a] := hk0
  have e1 : c1 = [.int .i64 b] := hk1
  have e2 : c2 = [.int .i64 c] := hk2
  have e3 : c3 = [.int .u32 d] := hk3
  obtain ⟨e4, h32⟩ := hk4
  subst e0 e1 e2 e3 e4
  have hu := u32_wf h4
  refine ⟨⟨a, b, c, d, l⟩, ⟨?_, ⟨hu.1, hu.2, h32, h5⟩⟩, trivial⟩
  simp [encP]
abbrev kV : Kd Val := Kd.iso (Kd.pair (Kd.slice 56 kP) (Kd.slice 5 (Kd.int .u8))) (fun v : Val => (v.blocks, v.inn))
theorem cells40 : Try.prog.cellsOf 40 = 2 := by kernel_rfl
theorem cells38 : Try.prog.cellsOf 38 = 1 := by kernel_rfl
theorem cells31 : Try.prog.cellsOf 31 = 1 := by kernel_rfl
theorem opens38 : Opens Try.prog 38 (Kd.slice 56 kP) (fun _ => True) := opens_mono (opens_slice Try.underlying38 (by rw [cells56]; rfl) opens56) (fun _ _ => trivial)
theorem opens31 : Opens Try.prog 31 (Kd.slice 5 (Kd.int .u8)) (fun l => Byt l) := opens_mono (opens_slice Try.underlying31 (by rw [cells5]; rfl) (opens_int Try.underlying5)) (fun l h x hx => byte_wf (h x hx))
theorem opens40 : Opens Try.prog 40 kV (fun v => Byt v.inn) := by
  refine opens_iso (d := Kd.pair (Kd.slice 56 kP) (Kd.slice 5 (Kd.int .u8))) (G := fun x => Byt x.2) (fun v : Val => (v.blocks, v.inn)) (fun x => ⟨x.1, x.2⟩) (fun _ => rfl) ?_
  refine opens_mono (G := fun x => True ∧ Byt x.2) (opens_struct Try.underlying40 (by rw [cells40]; rfl) ?_) (fun x h => h.2)
  exact opensF_cons (G0 := fun _ => True) (G1 := Byt) rfl (by rw [cells38]; rfl) opens38 (opensF_last rfl (by rw [cells31]; rfl) opens31)
/-- What a value's cells are. -/
theorem kV_open {w : World} {v : Val} {cs : List Value} (h : kV.K w v cs) (hb : Byt v.inn) : ∃ A cb A2 ci, cs = [.slice A v.blocks.length cb, .slice A2 v.inn.length ci] ∧ VA w A v.blocks.length cb A2 v.inn.length ci v := by
  obtain ⟨c0, c1, rfl, ⟨A, cb, e0, l0, k0⟩, A2, ci, e1, l1, k1⟩ := h
  subst e0 e1
  exact ⟨A, cb, A2, ci, rfl, k0, k1, l0, l1, rfl, rfl, ⟨CP_ok k0, hb⟩⟩
end Go.Proofs.Ytfefpbnhpncmlaa.CatZ
