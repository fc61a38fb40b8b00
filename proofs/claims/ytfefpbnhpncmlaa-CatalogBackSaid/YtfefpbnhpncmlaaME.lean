/- Own texts, one behind the other: BckL BckM. -/
import Derived.Test.YtfefpbnhpncmlaaMD
/- CatalogBack: what is put is read as it was: plain laws. -/
namespace Go.Proofs.Ytfefpbnhpncmlaa.BckL
open Go.RowKit Go.Proofs.Ytfefpbnhpncmlaa.EntL Go.Proofs.Ytfefpbnhpncmlaa.EntB Go.Proofs.Ytfefpbnhpncmlaa.EntC Go.Proofs.Ytfefpbnhpncmlaa.EntD Go.Proofs.Ytfefpbnhpncmlaa.EntE Go.Proofs.Ytfefpbnhpncmlaa.EntF Go.Proofs.Ytfefpbnhpncmlaa.EntH Go.Proofs.Ytfefpbnhpncmlaa.EntI Go.Proofs.Ytfefpbnhpncmlaa.EntJ Go.Proofs.Ytfefpbnhpncmlaa.CatU Go.Proofs.Ytfefpbnhpncmlaa.CatK Go.Proofs.Ytfefpbnhpncmlaa.CatO Go.Proofs.Ytfefpbnhpncmlaa.CatV Go.Proofs.Ytfefpbnhpncmlaa.CatY Go.Proofs.Ytfefpbnhpncmlaa.B8 Go.Proofs.Ytfefpbnhpncmlaa.CodL Go.Proofs.Ytfefpbnhpncmlaa.CodA Go.Proofs.Ytfefpbnhpncmlaa.CodB Go.Proofs.Ytfefpbnhpncmlaa.CatL Go.Proofs.Ytfefpbnhpncmlaa.PtrB Go.Proofs.YtfefpbnhpncmlaaW.PrintWords Go.Proofs.YtfefpbnhpncmlaaW.PrintLast Go.Proofs.YtfefpbnhpncmlaaW.PrintMore
set_option linter.unusedVariables false
set_option linter.unusedSimpArgs false

/-- An entry's bytes tell it, whatever follows them. -/
theorem entL_pre {e f : Ent} (he : OkE e) (hf : OkE f) (re : RightE e) (rf : RightE f) {r s : List Int} (h : entL e ++ r = entL f ++ s) : r = s := by
  rw [entL_t4, entL_t4] at h
  have ke := kind_bd re
  have kf := kind_bd rf
  simp only [List.append_assoc] at h
  obtain ⟨a0, h⟩ := sh_inj (by have := re.id.1; omega) re.id.2 (by have := rf.id.1; omega) rf.id.2 h
  obtain ⟨a1, h⟩ := sh_inj ke.1 ke.2.1 kf.1 kf.2.1 h
  obtain ⟨a2, h⟩ := sh_inj ke.2.2.1 ke.2.2.2 kf.2.2.1 kf.2.2.2 h
  unfold t4 at h
  simp only [List.append_assoc] at h
  obtain ⟨a3, h⟩ := text_inj re.n1 rf.n1 h
  obtain ⟨a4, h⟩ := ptr_inj (lays_of he.root re.root) (lays_of hf.root rf.root) h
  obtain ⟨a5, h⟩ := ptr_inj (lays_of he.dead re.dead) (lays_of hf.dead rf.dead) h
  unfold t7 at h
  simp only [List.append_assoc] at h
  obtain ⟨a6, h⟩ := sh_inj re.born.1 re.born.2 rf.born.1 rf.born.2 h
  obtain ⟨a7, h⟩ := sh_inj re.prev.1 re.prev.2 rf.prev.1 rf.prev.2 h
  obtain ⟨a8, h⟩ := sh_inj re.next.1 re.next.2 rf.next.1 rf.next.2 h
  obtain ⟨a9, h⟩ := sh_inj re.origin.1 re.origin.2 rf.origin.1 rf.origin.2 h
  obtain ⟨a10, h⟩ := sh_inj re.clones.1 re.clones.2 rf.clones.1 rf.clones.2 h
  exact h
theorem readEs_entL {e : Ent} (he : OkE e) (re : RightE e) : readEs (entL e) = (e, 0) := by
  have hx : ∃ e0, OkE e0 ∧ RightE e0 ∧ entL e0 = entL e := ⟨e, he, re, rfl⟩
  have hs := hx.choose_spec
  unfold readEs
  rw [dif_pos hx, entL_inj hs.1 he hs.2.1 re hs.2.2]
theorem readEs_short {e : Ent} (he : OkE e) (re : RightE e) (m : Nat) (hm : m < (entL e).length) : readEs ((entL e).take m) = (zeroE, 11) := by
  unfold readEs
  rw [dif_neg]
  rintro ⟨e0, h0, r0, h⟩
  have := entL_pre h0 he r0 re (r := (entL e).drop m) (s := []) (by rw [h, List.take_append_drop, List.append_nil])
  have := congrArg List.length this
  rw [List.length_drop] at this
  simp at this
  omega
theorem entL_bd {e : Ent} (he : OkE e) (re : RightE e) : 0 < (entL e).length ∧ (entL e).length ≤ 10000 := by
  have ke := kind_bd re
  have hb : bytesOf e.name = bytesOf e.name := rfl
  have b1 := shI_len (n := e.id) (by have := re.id.1; omega) re.id.2
  have b2 := shI_len ke.1 ke.2.1
  have b3 := shI_len ke.2.2.1 ke.2.2.2
  have b4 := shI_len re.born.1 re.born.2
  have b5 := shI_len re.prev.1 re.prev.2
  have b6 := shI_len re.next.1 re.next.2
  have b7 := shI_len re.origin.1 re.origin.2
  have b8 := shI_len re.clones.1 re.clones.2
  have b9 : (shortL e.name.size).length ≤ 10 := glen_ten (by have := re.n1; omega)
  have p0 : 0 < (shI e.id).length := glen_pos _
  have n0 : (bytesOf e.name).length = e.name.size := by simp [bytesOf]
  have n1 := re.n1
  simp only [entL, textL, List.length_append, ptrL_len he.root, ptrL_len he.dead, n0]
  omega
theorem readV_valL {v : Val} (hv : OkV v) (rv : RightV v) : readV (valL v) = (v, 0) := by
  have hx : ∃ v0, OkV v0 ∧ RightV v0 ∧ valL v0 = valL v := ⟨v, hv, rv, rfl⟩
  have hs := hx.choose_spec
  unfold readV
  rw [dif_pos hx, valL_inj hs.1 hv hs.2.1 rv hs.2.2]
theorem valL_817 {v : Val} (h : OkV v) (hr : RightV v) : (valL v).length ≤ 817 := by
  obtain ⟨h1, h2, h3⟩ := hr
  simp only [valL, List.length_append, flat_len h.blocks]
  rw [shortL_small (by omega)]
  simp only [List.length_singleton]
  omega
theorem C8_take {w : World} {A : Option Addr} {l : List Int} (h : C8 w A l.length l) (m : Nat) (hm : m ≤ l.length) : C8 w A m (l.take m) := by
  have := Kd.C_take h hm
  rwa [List.length_take, Nat.min_eq_left hm] at this
theorem zero_calls (w : World) : Calls Try.prog 24 #[.agg #[.slice none 0 0, .slice none 0 0]] w (fun e w' => ∃ A c, e = .returned (.tuple #[.slice A 1 c, .int .i64 0]) ∧ Below w.heap.size w w') := by
  have hva : VA w none 0 0 none 0 0 ⟨[], []⟩ := ⟨Kd.C_nil _ _, Kd.C_nil _ _, Nat.le_refl _, Nat.le_refl _, rfl, rfl, ⟨fun _ h => by simp at h, fun _ h => by simp at h⟩⟩
  have hr : RightV ⟨[], []⟩ := ⟨by simp, by simp, fun p hp => by simp at hp⟩
  refine (putV_calls none 0 0 _ 0 0 ⟨[], []⟩ _ hva (by decide) (by decide)).mono ?_
  rintro e w' ⟨r, rfl, h8, hb⟩
  rw [if_pos hr] at h8 ⊢
  obtain ⟨A, c, rfl, _⟩ := Kd.R_reads h8
  have e : (valL ⟨[], []⟩).length = 1 := by
    simp only [valL, List.length_nil, List.flatMap_nil, List.append_nil]
    rw [shortL_small (by decide)]
    rfl
  rw [e]
  exact ⟨A, c, rfl, hb⟩
end Go.Proofs.Ytfefpbnhpncmlaa.BckL
/- CatalogBack: the law. -/
namespace Go.Proofs.Ytfefpbnhpncmlaa.BckM
open Go.RowKit Go.Proofs.Ytfefpbnhpncmlaa.BckL Go.Proofs.Ytfefpbnhpncmlaa.EntL Go.Proofs.Ytfefpbnhpncmlaa.EntB Go.Proofs.Ytfefpbnhpncmlaa.EntC Go.Proofs.Ytfefpbnhpncmlaa.EntD Go.Proofs.Ytfefpbnhpncmlaa.EntE Go.Proofs.Ytfefpbnhpncmlaa.EntH Go.Proofs.Ytfefpbnhpncmlaa.EntI Go.Proofs.Ytfefpbnhpncmlaa.EntJ Go.Proofs.Ytfefpbnhpncmlaa.EntK Go.Proofs.Ytfefpbnhpncmlaa.CatV Go.Proofs.Ytfefpbnhpncmlaa.CatM Go.Proofs.Ytfefpbnhpncmlaa.CatO Go.Proofs.Ytfefpbnhpncmlaa.CatK Go.Proofs.Ytfefpbnhpncmlaa.CatW Go.Proofs.Ytfefpbnhpncmlaa.CatY Go.Proofs.Ytfefpbnhpncmlaa.PtrB Go.Proofs.Ytfefpbnhpncmlaa.Agg Go.Proofs.Ytfefpbnhpncmlaa.B8 Go.Proofs.Ytfefpbnhpncmlaa.CodL Go.Proofs.Ytfefpbnhpncmlaa.CodA Go.Proofs.Ytfefpbnhpncmlaa.CodB Go.Proofs.Ytfefpbnhpncmlaa.CatL Go.Proofs.Ytfefpbnhpncmlaa.PtrA Go.Proofs.Ytfefpbnhpncmlaa.PtrE Go.Proofs.Ytfefpbnhpncmlaa.PtrF Go.Proofs.Ytfefpbnhpncmlaa.PBaseSigns Go.Proofs.YtfefpbnhpncmlaaW.PrintWords Go.Proofs.YtfefpbnhpncmlaaW.PrintLast Go.Proofs.YtfefpbnhpncmlaaW.PrintMore
set_option linter.unusedVariables false
set_option linter.unusedSimpArgs false

set_option maxRecDepth 100000 in
set_option maxHeartbeats 2000000 in
theorem law (e : Ent) (hk : OkE e) (A : Option Addr) (nb cb : Nat) (A2 : Option Addr) (ni ci : Nat) (v : Val) (w : World) (h : VA w A nb cb A2 ni ci v) :
    Calls Try.prog 13 #[.agg (encE e), .agg #[.slice A nb cb, .slice A2 ni ci]] w fun r w' => r = .returned (.bool true) ∧ Below w.heap.size w w' := by
  have HK := Aside0.mk hk
  have b0 := below_alloc (Below.refl w.heap.size w) (.cells (encE e) 59)
  have b1 := below_alloc (Below.refl (w.alloc (.cells (encE e) 59)).heap.size (w.alloc (.cells (encE e) 59))) (.cells #[.slice A nb cb, .slice A2 ni ci] 40)
  have B0 := Aside0.mk (below_then b0 b0.size b1)
  have G0 := Aside0.mk (And.intro (blk_below (blk_new w (.cells (encE e) 59)) b1) (show ((w.alloc (.cells (encE e) 59)).alloc (.cells #[.slice A nb cb, .slice A2 ni ci] 40)).heap[w.heap.size + 1]? = some (.cells #[.slice A nb cb, .slice A2 ni ci] 40) from by have := blk_new (w.alloc (.cells (encE e) 59)) (.cells #[.slice A nb cb, .slice A2 ni ci] 40); simpa using this))
  have HV0 := Aside0.mk (h.below B0.out)
  have x3 := (ec_of G0.out.1 hk).x3
  have x0 : ((w.alloc (.cells (encE e) 59)).alloc (.cells #[.slice A nb cb, .slice A2 ni ci] 40)).cell? ⟨w.heap.size + 1, 0, none⟩ = some (.slice A nb cb) := by rw [cell_of_row _ _ 0 _ 40 (0, 0) G0.out.2]; rfl
  have x1 : ((w.alloc (.cells (encE e) 59)).alloc (.cells #[.slice A nb cb, .slice A2 ni ci] 40)).cell? ⟨w.heap.size + 1, 1, none⟩ = some (.slice A2 ni ci) := by rw [cell_of_row _ _ 1 _ 40 (0, 0) G0.out.2]; rfl
  obtain ⟨P, hP⟩ : ∃ P : Ending → World → Prop, P = (fun r w' => r = .returned (.bool true) ∧ Below w.heap.size w w') := ⟨_, rfl⟩
  rw [← hP]
  have HP := Aside0.mk hP
  clear h hP hk b0 b1
  by_cases h1 : 200 < e.name.size
  · go_enter Try.func13, Try.ntmps13
    go_wp2
    rw [HP.out]
    exact ⟨rfl, B0.out⟩
  by_cases h2 : 20 < nb
  · go_enter Try.func13, Try.ntmps13
    go_wp2
    rw [HP.out]
    exact ⟨rfl, B0.out⟩
  by_cases h3 : 600 < ni
  · go_enter Try.func13, Try.ntmps13
    go_wp2
    rw [HP.out]
    exact ⟨rfl, B0.out⟩
  have d1 : decide ((200 : Int) < (e.name.size : Int)) = false := decide_eq_false (by omega)
  have d2 : decide ((20 : Int) < (nb : Int)) = false := decide_eq_false (by omega)
  have d3 : decide ((600 : Int) < (ni : Int)) = false := decide_eq_false (by omega)
  go_enter Try.func13, Try.ntmps13
  go_wp2_with (refine load_E rfl (.tmp 2) rfl w.heap.size e rfl HK.out 59 G0.out.1 ?_)
  refine (putE_calls e HK.out _).mono ?_
  rintro r w1 ⟨A1, n1, c1, rfl, hn1, hc1, hr1, hb1⟩
  have G1 := Aside0.mk (And.intro (blk_below G0.out.1 hb1) (blk_below G0.out.2 hb1))
  have HV1 := Aside0.mk (HV0.out.below hb1)
  have B1 := Aside0.mk (below_then B0.out B0.out.size hb1)
  clear x0 x1 x3
  by_cases hR : RightE e
  · rw [if_pos hR] at hn1 hr1
    rw [if_pos hR]
    have hbd := entL_bd HK.out hR
    rw [← hn1] at hbd
    obtain ⟨m, rfl⟩ : ∃ m, n1 = m + 1 := ⟨n1 - 1, by omega⟩
    have hmb : m + 1 ≤ 10000 := hbd.2
    have C1 := Aside0.mk (And.intro hn1 (And.intro hc1 hr1))
    have H1 := Aside0.mk hb1
    have HR := Aside0.mk hR
    clear hn1 hc1 hr1 hbd G0 HV0 B0 hb1 hR
    have z1 : decide (((m + 1 : Nat) : Int) = 0) = false := decide_eq_false (by omega)
    go_wp2_with fail
    refine (readE_calls A1 c1 (m + 1) (entL e) C1.out.1 w1 C1.out.2.2 (entL_byt HK.out) C1.out.2.1 (by omega)).mono ?_
    intro r w2 ht2
    obtain ⟨rfl, _, hb2⟩ := TellsReadE.fun_ ht2
    clear ht2
    rw [readEs_entL HK.out HR.out]
    dsimp only
    have bal := Aside0.mk (hb2.alloc hb2.size (.cells (encE e) 59))
    have G2 := Aside0.mk (And.intro (blk_below G1.out.1 bal.out) (And.intro (blk_below G1.out.2 bal.out) (blk_new w2 (.cells (encE e) 59))))
    have HV2 := Aside0.mk (HV1.out.below bal.out)
    have B2 := Aside0.mk (below_then B1.out B1.out.size bal.out)
    have C2 := Aside0.mk (And.intro C1.out.1 (And.intro C1.out.2.1 (Kd.C_below C1.out.2.2 bal.out)))
    have cut1 : ∀ W : World, (Instr.slice 31 (.slice A1 (m + 1) c1) none (some (.int .i64 (m : Int))) none).run Try.prog W = .ok (.slice A1 m c1) W := fun W => cut8_to A1 (m + 1) c1 m (by omega) C1.out.2.1 W
    clear hb2 G1 HV1 B1 C1 H1 bal
    go_wp2_with (refine store_E (w := w2) rfl (.tmp 7) (.tmp 46) rfl e HK.out rfl rfl rfl ?_)
    refine (readE_calls A1 c1 m ((entL e).take m) (by rw [List.length_take, ← C2.out.1]; omega) _ (C8_take (by have := C2.out.2.2; rw [C2.out.1] at this; exact this) m (by rw [← C2.out.1]; omega)) ((entL_byt HK.out).take m) (by have := C2.out.2.1; omega) (by omega)).mono ?_
    intro r w3 ht3
    obtain ⟨rfl, _, hb3⟩ := TellsReadE.fun_ ht3
    clear ht3
    rw [readEs_short HK.out HR.out m (by rw [← C2.out.1]; omega)]
    dsimp only
    have bal := Aside0.mk (hb3.alloc hb3.size (.cells (encE zeroE) 59))
    have G3 := Aside0.mk (And.intro (blk_below G2.out.1 bal.out) (And.intro (blk_below G2.out.2.1 bal.out) (blk_below G2.out.2.2 bal.out)))
    have HV3 := Aside0.mk (HV2.out.below bal.out)
    have B3 := Aside0.mk (below_then B2.out B2.out.size bal.out)
    have hq := neq59 e HK.out
    clear hb3 G2 HV2 B2 C2 cut1 bal
    have x0 : (w3.alloc (.cells (encE zeroE) 59)).cell? ⟨w.heap.size + 1, 0, none⟩ = some (.slice A nb cb) := by rw [cell_of_row _ _ 0 _ 40 (0, 0) G3.out.2.1]; rfl
    have x1 : (w3.alloc (.cells (encE zeroE) 59)).cell? ⟨w.heap.size + 1, 1, none⟩ = some (.slice A2 ni ci) := by rw [cell_of_row _ _ 1 _ 40 (0, 0) G3.out.2.1]; rfl
    go_wp2_with first
      | (refine store_E (w := w3) rfl (.tmp 9) (.tmp 55) rfl zeroE okZeroE rfl rfl rfl ?_)
      | ((with_reducible refine gate_on (o := ⟨some 60, _, _, _, _, _⟩) ?_ ?_); rotate_left; dsimp only; (refine load_E rfl (.tmp 7) rfl w2.heap.size e rfl HK.out 59 G3.out.2.2 ?_); rotate_left; kernel_rfl)
      | ((with_reducible refine gate_on (o := ⟨some 61, _, _, _, _, _⟩) ?_ ?_); rotate_left; dsimp only; (refine load_E rfl (.tmp 2) rfl w.heap.size e rfl HK.out 59 G3.out.1 ?_); rotate_left; kernel_rfl)

    refine (putV_calls A nb cb A2 ni ci v _ HV3.out (by omega) (by omega)).mono ?_
    rintro r w6 ⟨r1, rfl, hr6, hb6⟩
    have G6 := Aside0.mk (blk_below G3.out.2.1 hb6)
    have HV6 := Aside0.mk (HV3.out.below hb6)
    have B6 := Aside0.mk (below_then B3.out B3.out.size hb6)
    clear x0 x1
    have x0 : w6.cell? ⟨w.heap.size + 1, 0, none⟩ = some (.slice A nb cb) := by rw [cell_of_row _ _ 0 _ 40 (0, 0) G6.out]; rfl
    have x1 : w6.cell? ⟨w.heap.size + 1, 1, none⟩ = some (.slice A2 ni ci) := by rw [cell_of_row _ _ 1 _ 40 (0, 0) G6.out]; rfl
    by_cases hV : RightV v
    · rw [if_pos hV] at hr6
      rw [if_pos hV]
      obtain ⟨A6, c6, rfl, hc6, hC6⟩ := Kd.R_reads hr6
      have hl6 := valL_817 HV6.out.ok hV
      obtain ⟨n6, hn6⟩ : ∃ n, n = (valL v).length := ⟨_, rfl⟩
      rw [← hn6] at hC6 hc6 hl6 ⊢
      have C6 := Aside0.mk (And.intro hn6 (And.intro hc6 hC6))
      have HRV := Aside0.mk hV
      clear hn6 hc6 hC6 hr6 hb6 hV x0 x1 HV3 B3 G3
      go_wp2_with fail
      refine (readV_calls A6 c6 n6 (valL v) C6.out.1 _ C6.out.2.2 (valL_byt HV6.out.ok) C6.out.2.1 (by omega)).mono ?_
      intro r w7 ht7
      obtain ⟨A3, nb3, cb3, Ai3, ni3, ci3, rfl, hva3, l3, m3, hb7⟩ := TellsReadV.fun_ ht7
      clear ht7
      rw [readV_valL HV6.out.ok HRV.out] at hva3 ⊢
      dsimp only at hva3 ⊢
      obtain rfl : nb = nb3 := HV6.out.nb.trans hva3.nb.symm
      obtain rfl : ni = ni3 := HV6.out.ni.trans hva3.ni.symm
      have bal := Aside0.mk (hb7.alloc hb7.size (.cells #[.slice A3 nb cb3, .slice Ai3 ni ci3] 40))
      have G7 := Aside0.mk (And.intro (blk_below G6.out bal.out) (blk_new w7 (.cells #[.slice A3 nb cb3, .slice Ai3 ni ci3] 40)))
      have b7 := Aside0.mk (below_alloc (Below.refl w7.heap.size w7) (.cells #[.slice A3 nb cb3, .slice Ai3 ni ci3] 40))
      have HV7 := Aside0.mk (And.intro (HV6.out.below bal.out) (hva3.below b7.out))
      have B7 := Aside0.mk (below_then B6.out B6.out.size bal.out)
      have cvA : (convert 31 9 (.slice Ai3 ni ci3)).run Try.prog (w7.alloc (.cells #[.slice A3 nb cb3, .slice Ai3 ni ci3] 40)) = .ok (.string (strOfNums v.inn)) (w7.alloc (.cells #[.slice A3 nb cb3, .slice Ai3 ni ci3] 40)) := Kd.C_string (c := ci3) (P := Try.prog) Try.underlying31 Try.underlying5 Try.underlying9 HV7.out.2.inn
      have cvB : (convert 31 9 (.slice A2 ni ci)).run Try.prog (w7.alloc (.cells #[.slice A3 nb cb3, .slice Ai3 ni ci3] 40)) = .ok (.string (strOfNums v.inn)) (w7.alloc (.cells #[.slice A3 nb cb3, .slice Ai3 ni ci3] 40)) := Kd.C_string (c := ci) (P := Try.prog) Try.underlying31 Try.underlying5 Try.underlying9 HV7.out.1.inn
      have x0 : (w7.alloc (.cells #[.slice A3 nb cb3, .slice Ai3 ni ci3] 40)).cell? ⟨w.heap.size + 1, 0, none⟩ = some (.slice A nb cb) := by rw [cell_of_row _ _ 0 _ 40 (0, 0) G7.out.1]; rfl
      have x1 : (w7.alloc (.cells #[.slice A3 nb cb3, .slice Ai3 ni ci3] 40)).cell? ⟨w.heap.size + 1, 1, none⟩ = some (.slice A2 ni ci) := by rw [cell_of_row _ _ 1 _ 40 (0, 0) G7.out.1]; rfl
      generalize strOfNums v.inn = S1 at *
      clear hb7 hva3 G6 HV6 B6 C6 bal b7
      go_wp2
      generalize (w7.alloc (.cells #[.slice A3 nb cb3, .slice Ai3 ni ci3] 40)) = W7 at *
      generalize w7.heap.size = g7 at *
      clear x0 x1 cvA cvB
      go_loopw [16] (fun v16 wr => ∃ (j : Nat), v16 = .int .i64 (j : Int) ∧ j ≤ nb ∧ Aside0 (Below W7.heap.size W7 wr)) (fun v _ => nb - (intOf v).toNat)
      case atStart => exact ⟨0, rfl, Nat.zero_le _, ⟨Below.refl _ _⟩⟩
      case round =>
        obtain ⟨j, rfl, hj, H⟩ := hrel
        by_cases hlt : j < nb
        · obtain ⟨b3, off3, rfl, hb3, hx3⟩ := CP_at HV7.out.2.blocks (by omega)
          obtain ⟨b4, off4, rfl, hb4, hx4⟩ := CP_at HV7.out.1.blocks (by omega)
          obtain ⟨hok, hr3⟩ := hx3 j hlt
          obtain ⟨_, hr4⟩ := hx4 j hlt
          have HK5 := Aside0.mk hok
          have HR3 := Aside0.mk hr3
          have HR4 := Aside0.mk hr4
          have HB34 := Aside0.mk (And.intro hb3 hb4)
          have x0 : wr.cell? ⟨w.heap.size + 1, 0, none⟩ = some (.slice (some ⟨b4, off4, none⟩) nb cb) := by rw [cell_of_row _ _ 0 _ 40 (0, 0) (blk_below G7.out.1 H.out)]; rfl
          clear hx3 hx4 hok hr3 hr4 hb3 hb4
          generalize v.blocks.getD j zeroP = pt at *
          have hq : ∀ W : World, (binOp .neq 56 (.agg (encP pt)) (.agg (encP pt))).run Try.prog W = .ok (.bool false) W := fun W => by rw [neq56 pt pt HK5.out.len HK5.out.len W, decide_eq_true rfl]; rfl
          have hbw := Aside0.mk (below_drew H.out)
          go_wp2
          refine wp_region_held_drew (S := fun w' => Below W7.heap.size W7 w') (by kernel_rfl) hbw.out (fun hW => ?_)
          refine wpAnyH_take (i := 0) (oi := ⟨some 126, _, _, _, _, _⟩) (v := .pointer (some ⟨g7, 0, none⟩)) rfl (by kernel_rfl) (by kernel_rfl) (by kernel_rfl) (fun _ _ _ h => h) (.inl ⟨by rfl, fun W1 h1 => by go_simp⟩) hW ?_
          try simp only [Act.put, List.setIfInBounds_toArray, List.set_cons_zero, List.set_cons_succ]
          refine wpAnyH_take (i := 1) (oi := ⟨some 127, _, _, _, _, _⟩) (v := .slice (some ⟨b3, off3, none⟩) nb cb3) rfl (by kernel_rfl) (by kernel_rfl) (by kernel_rfl) (fun _ _ _ h => h) (.inl ⟨by rfl, fun W1 h1 => by (have x1 : W1.cell? ⟨g7, 0, none⟩ = some (.slice (some ⟨b3, off3, none⟩) nb cb3) := (by rw [cell_of_row _ _ 0 _ 40 (0, 0) (blk_below G7.out.2 h1)]; rfl)); go_simp⟩) hW ?_
          try simp only [Act.put, List.setIfInBounds_toArray, List.set_cons_zero, List.set_cons_succ]
          refine wpAnyH_take (i := 2) (oi := ⟨some 128, _, _, _, _, _⟩) (v := .int .i64 (j : Int)) rfl (by kernel_rfl) (by kernel_rfl) (by kernel_rfl) (fun _ _ _ h => h) (.inl ⟨by rfl, fun W1 h1 => by go_simp⟩) hW ?_
          try simp only [Act.put, List.setIfInBounds_toArray, List.set_cons_zero, List.set_cons_succ]
          refine wpAnyH_take (i := 3) (oi := ⟨some 129, _, _, _, _, _⟩) (v := .pointer (some ⟨b3, off3 + j * 36, none⟩)) rfl (by kernel_rfl) (by kernel_rfl) (by kernel_rfl) (fun _ _ _ h => h) (.inl ⟨by rfl, fun W1 h1 => by go_simp⟩) hW ?_
          try simp only [Act.put, List.setIfInBounds_toArray, List.set_cons_zero, List.set_cons_succ]
          refine wpAnyH_take (i := 4) (oi := ⟨some 130, _, _, _, _, _⟩) rfl (by kernel_rfl) (by kernel_rfl) (by kernel_rfl) (fun _ _ _ h => h) (yieldsIf_load_P (by rfl) _ rfl b3 (off3 + j * 36) pt HK5.out rfl (fun _ h => rangeAt_below HR3.out h HB34.out.1)) hW ?_
          try simp only [Act.put, List.setIfInBounds_toArray, List.set_cons_zero, List.set_cons_succ]
          refine wpAnyH_take (i := 5) (oi := ⟨some 131, _, _, _, _, _⟩) (v := .pointer (some ⟨w.heap.size + 1, 0, none⟩)) rfl (by kernel_rfl) (by kernel_rfl) (by kernel_rfl) (fun _ _ _ h => h) (.inl ⟨by rfl, fun W1 h1 => by go_simp⟩) hW ?_
          try simp only [Act.put, List.setIfInBounds_toArray, List.set_cons_zero, List.set_cons_succ]
          refine wpAnyH_take (i := 6) (oi := ⟨some 132, _, _, _, _, _⟩) (v := .slice (some ⟨b4, off4, none⟩) nb cb) rfl (by kernel_rfl) (by kernel_rfl) (by kernel_rfl) (fun _ _ _ h => h) (.inl ⟨by rfl, fun W1 h1 => by (have x1 : W1.cell? ⟨w.heap.size + 1, 0, none⟩ = some (.slice (some ⟨b4, off4, none⟩) nb cb) := (by rw [cell_of_row _ _ 0 _ 40 (0, 0) (blk_below G7.out.1 h1)]; rfl)); go_simp⟩) hW ?_
          try simp only [Act.put, List.setIfInBounds_toArray, List.set_cons_zero, List.set_cons_succ]
          refine wpAnyH_take (i := 7) (oi := ⟨some 133, _, _, _, _, _⟩) (v := .int .i64 (j : Int)) rfl (by kernel_rfl) (by kernel_rfl) (by kernel_rfl) (fun _ _ _ h => h) (.inl ⟨by rfl, fun W1 h1 => by go_simp⟩) hW ?_
          try simp only [Act.put, List.setIfInBounds_toArray, List.set_cons_zero, List.set_cons_succ]
          refine wpAnyH_take (i := 8) (oi := ⟨some 134, _, _, _, _, _⟩) (v := .pointer (some ⟨b4, off4 + j * 36, none⟩)) rfl (by kernel_rfl) (by kernel_rfl) (by kernel_rfl) (fun _ _ _ h => h) (.inl ⟨by rfl, fun W1 h1 => by go_simp⟩) hW ?_
          try simp only [Act.put, List.setIfInBounds_toArray, List.set_cons_zero, List.set_cons_succ]
          refine wpAnyH_take (i := 9) (oi := ⟨some 135, _, _, _, _, _⟩) rfl (by kernel_rfl) (by kernel_rfl) (by kernel_rfl) (fun _ _ _ h => h) (yieldsIf_load_P (by rfl) _ rfl b4 (off4 + j * 36) pt HK5.out rfl (fun _ h => rangeAt_below HR4.out h HB34.out.2)) hW ?_
          try simp only [Act.put, List.setIfInBounds_toArray, List.set_cons_zero, List.set_cons_succ]
          refine wpAnyH_take (i := 10) (oi := ⟨some 136, _, _, _, _, _⟩) (v := .bool false) rfl (by kernel_rfl) (by kernel_rfl) (by kernel_rfl) (fun _ _ _ h => h) (.inl ⟨by rfl, fun W1 h1 => by (have x1 := hq W1); go_simp⟩) hW ?_
          try simp only [Act.put, List.setIfInBounds_toArray, List.set_cons_zero, List.set_cons_succ]
          refine wpAnyH_done (by kernel_rfl) ?_ _
          clear hW hq
          go_wp2
          go_roundw
          case rel => exact ⟨j + 1, by go_num, by omega, hbw⟩
          case measure => simp [intOf]; omega
        · have x0 : wr.cell? ⟨w.heap.size + 1, 0, none⟩ = some (.slice A nb cb) := by rw [cell_of_row _ _ 0 _ 40 (0, 0) (blk_below G7.out.1 H.out)]; rfl
          have B8 := Aside0.mk (below_then B7.out B7.out.size H.out)
          have d8 : decide ((n6 : Int) ≤ 817) = true := decide_eq_true (by omega)
          clear HV7 G7
          go_wp2
          rw [HP.out]
          exact ⟨rfl, B8.out⟩
    · rw [if_neg hV]
      have HRV := Aside0.mk hV
      clear hr6 hb6 hV HV3 B3 G3
      go_wp2_with fail
      refine (zero_calls _).mono ?_
      rintro r w7 ⟨A7, c7, rfl, hb7⟩
      have G7 := Aside0.mk (blk_below G6.out hb7)
      have HV7 := Aside0.mk (HV6.out.below hb7)
      have B7 := Aside0.mk (below_then B6.out B6.out.size hb7)
      have y0 : w7.cell? ⟨w.heap.size + 1, 0, none⟩ = some (.slice A nb cb) := by rw [cell_of_row _ _ 0 _ 40 (0, 0) G7.out]; rfl
      have y1 : w7.cell? ⟨w.heap.size + 1, 1, none⟩ = some (.slice A2 ni ci) := by rw [cell_of_row _ _ 1 _ 40 (0, 0) G7.out]; rfl
      clear hb7 G6 HV6 B6 x0 x1
      go_wp2_with fail
      refine (rightV_calls A nb cb A2 ni ci v _ HV7.out (by omega) (by omega)).mono ?_
      rintro r w8 ⟨rfl, hb8⟩
      rw [decide_eq_false HRV.out]
      have B8 := Aside0.mk (below_then B7.out B7.out.size hb8)
      clear hb8 y0 y1 B7 HV7 G7
      go_wp2
      rw [HP.out]
      exact ⟨rfl, B8.out⟩
  · rw [if_neg hR] at hn1 hr1
    rw [if_neg hR]
    have HR := Aside0.mk hR
    clear hn1 hc1 hr1 hb1 G0 HV0 B0 hR
    go_wp2_with (refine load_E rfl (.tmp 2) rfl w.heap.size e rfl HK.out 59 G1.out.1 ?_)
    refine (rightE_calls e HK.out _).mono ?_
    rintro r w2 ⟨rfl, hb2⟩
    rw [decide_eq_false HR.out]
    have G2 := Aside0.mk (And.intro (blk_below G1.out.1 hb2) (blk_below G1.out.2 hb2))
    have HV2 := Aside0.mk (HV1.out.below hb2)
    have B2 := Aside0.mk (below_then B1.out B1.out.size hb2)
    have x0 : w2.cell? ⟨w.heap.size + 1, 0, none⟩ = some (.slice A nb cb) := by rw [cell_of_row _ _ 0 _ 40 (0, 0) G2.out.2]; rfl
    have x1 : w2.cell? ⟨w.heap.size + 1, 1, none⟩ = some (.slice A2 ni ci) := by rw [cell_of_row _ _ 1 _ 40 (0, 0) G2.out.2]; rfl
    clear hb2 G1 HV1 B1
    go_wp2_with fail
    refine (putV_calls A nb cb A2 ni ci v _ HV2.out (by omega) (by omega)).mono ?_
    rintro r w6 ⟨r1, rfl, hr6, hb6⟩
    have G6 := Aside0.mk (blk_below G2.out.2 hb6)
    have HV6 := Aside0.mk (HV2.out.below hb6)
    have B6 := Aside0.mk (below_then B2.out B2.out.size hb6)
    clear x0 x1
    have x0 : w6.cell? ⟨w.heap.size + 1, 0, none⟩ = some (.slice A nb cb) := by rw [cell_of_row _ _ 0 _ 40 (0, 0) G6.out]; rfl
    have x1 : w6.cell? ⟨w.heap.size + 1, 1, none⟩ = some (.slice A2 ni ci) := by rw [cell_of_row _ _ 1 _ 40 (0, 0) G6.out]; rfl
    by_cases hV : RightV v
    · rw [if_pos hV] at hr6
      rw [if_pos hV]
      obtain ⟨A6, c6, rfl, hc6, hC6⟩ := Kd.R_reads hr6
      have hl6 := valL_817 HV6.out.ok hV
      obtain ⟨n6, hn6⟩ : ∃ n, n = (valL v).length := ⟨_, rfl⟩
      rw [← hn6] at hC6 hc6 hl6 ⊢
      have C6 := Aside0.mk (And.intro hn6 (And.intro hc6 hC6))
      have HRV := Aside0.mk hV
      clear hn6 hc6 hC6 hr6 hb6 hV x0 x1 HV2 B2 G2
      go_wp2_with fail
      refine (readV_calls A6 c6 n6 (valL v) C6.out.1 _ C6.out.2.2 (valL_byt HV6.out.ok) C6.out.2.1 (by omega)).mono ?_
      intro r w7 ht7
      obtain ⟨A3, nb3, cb3, Ai3, ni3, ci3, rfl, hva3, l3, m3, hb7⟩ := TellsReadV.fun_ ht7
      clear ht7
      rw [readV_valL HV6.out.ok HRV.out] at hva3 ⊢
      dsimp only at hva3 ⊢
      obtain rfl : nb = nb3 := HV6.out.nb.trans hva3.nb.symm
      obtain rfl : ni = ni3 := HV6.out.ni.trans hva3.ni.symm
      have bal := Aside0.mk (hb7.alloc hb7.size (.cells #[.slice A3 nb cb3, .slice Ai3 ni ci3] 40))
      have G7 := Aside0.mk (And.intro (blk_below G6.out bal.out) (blk_new w7 (.cells #[.slice A3 nb cb3, .slice Ai3 ni ci3] 40)))
      have b7 := Aside0.mk (below_alloc (Below.refl w7.heap.size w7) (.cells #[.slice A3 nb cb3, .slice Ai3 ni ci3] 40))
      have HV7 := Aside0.mk (And.intro (HV6.out.below bal.out) (hva3.below b7.out))
      have B7 := Aside0.mk (below_then B6.out B6.out.size bal.out)
      have cvA : (convert 31 9 (.slice Ai3 ni ci3)).run Try.prog (w7.alloc (.cells #[.slice A3 nb cb3, .slice Ai3 ni ci3] 40)) = .ok (.string (strOfNums v.inn)) (w7.alloc (.cells #[.slice A3 nb cb3, .slice Ai3 ni ci3] 40)) := Kd.C_string (c := ci3) (P := Try.prog) Try.underlying31 Try.underlying5 Try.underlying9 HV7.out.2.inn
      have cvB : (convert 31 9 (.slice A2 ni ci)).run Try.prog (w7.alloc (.cells #[.slice A3 nb cb3, .slice Ai3 ni ci3] 40)) = .ok (.string (strOfNums v.inn)) (w7.alloc (.cells #[.slice A3 nb cb3, .slice Ai3 ni ci3] 40)) := Kd.C_string (c := ci) (P := Try.prog) Try.underlying31 Try.underlying5 Try.underlying9 HV7.out.1.inn
      have x0 : (w7.alloc (.cells #[.slice A3 nb cb3, .slice Ai3 ni ci3] 40)).cell? ⟨w.heap.size + 1, 0, none⟩ = some (.slice A nb cb) := by rw [cell_of_row _ _ 0 _ 40 (0, 0) G7.out.1]; rfl
      have x1 : (w7.alloc (.cells #[.slice A3 nb cb3, .slice Ai3 ni ci3] 40)).cell? ⟨w.heap.size + 1, 1, none⟩ = some (.slice A2 ni ci) := by rw [cell_of_row _ _ 1 _ 40 (0, 0) G7.out.1]; rfl
      generalize strOfNums v.inn = S1 at *
      clear hb7 hva3 G6 HV6 B6 C6 bal b7
      go_wp2
      generalize (w7.alloc (.cells #[.slice A3 nb cb3, .slice Ai3 ni ci3] 40)) = W7 at *
      generalize w7.heap.size = g7 at *
      clear x0 x1 cvA cvB
      go_loopw [16] (fun v16 wr => ∃ (j : Nat), v16 = .int .i64 (j : Int) ∧ j ≤ nb ∧ Aside0 (Below W7.heap.size W7 wr)) (fun v _ => nb - (intOf v).toNat)
      case atStart => exact ⟨0, rfl, Nat.zero_le _, ⟨Below.refl _ _⟩⟩
      case round =>
        obtain ⟨j, rfl, hj, H⟩ := hrel
        by_cases hlt : j < nb
        · obtain ⟨b3, off3, rfl, hb3, hx3⟩ := CP_at HV7.out.2.blocks (by omega)
          obtain ⟨b4, off4, rfl, hb4, hx4⟩ := CP_at HV7.out.1.blocks (by omega)
          obtain ⟨hok, hr3⟩ := hx3 j hlt
          obtain ⟨_, hr4⟩ := hx4 j hlt
          have HK5 := Aside0.mk hok
          have HR3 := Aside0.mk hr3
          have HR4 := Aside0.mk hr4
          have HB34 := Aside0.mk (And.intro hb3 hb4)
          have x0 : wr.cell? ⟨w.heap.size + 1, 0, none⟩ = some (.slice (some ⟨b4, off4, none⟩) nb cb) := by rw [cell_of_row _ _ 0 _ 40 (0, 0) (blk_below G7.out.1 H.out)]; rfl
          clear hx3 hx4 hok hr3 hr4 hb3 hb4
          generalize v.blocks.getD j zeroP = pt at *
          have hq : ∀ W : World, (binOp .neq 56 (.agg (encP pt)) (.agg (encP pt))).run Try.prog W = .ok (.bool false) W := fun W => by rw [neq56 pt pt HK5.out.len HK5.out.len W, decide_eq_true rfl]; rfl
          have hbw := Aside0.mk (below_drew H.out)
          go_wp2
          refine wp_region_held_drew (S := fun w' => Below W7.heap.size W7 w') (by kernel_rfl) hbw.out (fun hW => ?_)
          refine wpAnyH_take (i := 0) (oi := ⟨some 126, _, _, _, _, _⟩) (v := .pointer (some ⟨g7, 0, none⟩)) rfl (by kernel_rfl) (by kernel_rfl) (by kernel_rfl) (fun _ _ _ h => h) (.inl ⟨by rfl, fun W1 h1 => by go_simp⟩) hW ?_
          try simp only [Act.put, List.setIfInBounds_toArray, List.set_cons_zero, List.set_cons_succ]
          refine wpAnyH_take (i := 1) (oi := ⟨some 127, _, _, _, _, _⟩) (v := .slice (some ⟨b3, off3, none⟩) nb cb3) rfl (by kernel_rfl) (by kernel_rfl) (by kernel_rfl) (fun _ _ _ h => h) (.inl ⟨by rfl, fun W1 h1 => by (have x1 : W1.cell? ⟨g7, 0, none⟩ = some (.slice (some ⟨b3, off3, none⟩) nb cb3) := (by rw [cell_of_row _ _ 0 _ 40 (0, 0) (blk_below G7.out.2 h1)]; rfl)); go_simp⟩) hW ?_
          try simp only [Act.put, List.setIfInBounds_toArray, List.set_cons_zero, List.set_cons_succ]
          refine wpAnyH_take (i := 2) (oi := ⟨some 128, _, _, _, _, _⟩) (v := .int .i64 (j : Int)) rfl (by kernel_rfl) (by kernel_rfl) (by kernel_rfl) (fun _ _ _ h => h) (.inl ⟨by rfl, fun W1 h1 => by go_simp⟩) hW ?_
          try simp only [Act.put, List.setIfInBounds_toArray, List.set_cons_zero, List.set_cons_succ]
          refine wpAnyH_take (i := 3) (oi := ⟨some 129, _, _, _, _, _⟩) (v := .pointer (some ⟨b3, off3 + j * 36, none⟩)) rfl (by kernel_rfl) (by kernel_rfl) (by kernel_rfl) (fun _ _ _ h => h) (.inl ⟨by rfl, fun W1 h1 => by go_simp⟩) hW ?_
          try simp only [Act.put, List.setIfInBounds_toArray, List.set_cons_zero, List.set_cons_succ]
          refine wpAnyH_take (i := 4) (oi := ⟨some 130, _, _, _, _, _⟩) rfl (by kernel_rfl) (by kernel_rfl) (by kernel_rfl) (fun _ _ _ h => h) (yieldsIf_load_P (by rfl) _ rfl b3 (off3 + j * 36) pt HK5.out rfl (fun _ h => rangeAt_below HR3.out h HB34.out.1)) hW ?_
          try simp only [Act.put, List.setIfInBounds_toArray, List.set_cons_zero, List.set_cons_succ]
          refine wpAnyH_take (i := 5) (oi := ⟨some 131, _, _, _, _, _⟩) (v := .pointer (some ⟨w.heap.size + 1, 0, none⟩)) rfl (by kernel_rfl) (by kernel_rfl) (by kernel_rfl) (fun _ _ _ h => h) (.inl ⟨by rfl, fun W1 h1 => by go_simp⟩) hW ?_
          try simp only [Act.put, List.setIfInBounds_toArray, List.set_cons_zero, List.set_cons_succ]
          refine wpAnyH_take (i := 6) (oi := ⟨some 132, _, _, _, _, _⟩) (v := .slice (some ⟨b4, off4, none⟩) nb cb) rfl (by kernel_rfl) (by kernel_rfl) (by kernel_rfl) (fun _ _ _ h => h) (.inl ⟨by rfl, fun W1 h1 => by (have x1 : W1.cell? ⟨w.heap.size + 1, 0, none⟩ = some (.slice (some ⟨b4, off4, none⟩) nb cb) := (by rw [cell_of_row _ _ 0 _ 40 (0, 0) (blk_below G7.out.1 h1)]; rfl)); go_simp⟩) hW ?_
          try simp only [Act.put, List.setIfInBounds_toArray, List.set_cons_zero, List.set_cons_succ]
          refine wpAnyH_take (i := 7) (oi := ⟨some 133, _, _, _, _, _⟩) (v := .int .i64 (j : Int)) rfl (by kernel_rfl) (by kernel_rfl) (by kernel_rfl) (fun _ _ _ h => h) (.inl ⟨by rfl, fun W1 h1 => by go_simp⟩) hW ?_
          try simp only [Act.put, List.setIfInBounds_toArray, List.set_cons_zero, List.set_cons_succ]
          refine wpAnyH_take (i := 8) (oi := ⟨some 134, _, _, _, _, _⟩) (v := .pointer (some ⟨b4, off4 + j * 36, none⟩)) rfl (by kernel_rfl) (by kernel_rfl) (by kernel_rfl) (fun _ _ _ h => h) (.inl ⟨by rfl, fun W1 h1 => by go_simp⟩) hW ?_
          try simp only [Act.put, List.setIfInBounds_toArray, List.set_cons_zero, List.set_cons_succ]
          refine wpAnyH_take (i := 9) (oi := ⟨some 135, _, _, _, _, _⟩) rfl (by kernel_rfl) (by kernel_rfl) (by kernel_rfl) (fun _ _ _ h => h) (yieldsIf_load_P (by rfl) _ rfl b4 (off4 + j * 36) pt HK5.out rfl (fun _ h => rangeAt_below HR4.out h HB34.out.2)) hW ?_
          try simp only [Act.put, List.setIfInBounds_toArray, List.set_cons_zero, List.set_cons_succ]
          refine wpAnyH_take (i := 10) (oi := ⟨some 136, _, _, _, _, _⟩) (v := .bool false) rfl (by kernel_rfl) (by kernel_rfl) (by kernel_rfl) (fun _ _ _ h => h) (.inl ⟨by rfl, fun W1 h1 => by (have x1 := hq W1); go_simp⟩) hW ?_
          try simp only [Act.put, List.setIfInBounds_toArray, List.set_cons_zero, List.set_cons_succ]
          refine wpAnyH_done (by kernel_rfl) ?_ _
          clear hW hq
          go_wp2
          go_roundw
          case rel => exact ⟨j + 1, by go_num, by omega, hbw⟩
          case measure => simp [intOf]; omega
        · have x0 : wr.cell? ⟨w.heap.size + 1, 0, none⟩ = some (.slice A nb cb) := by rw [cell_of_row _ _ 0 _ 40 (0, 0) (blk_below G7.out.1 H.out)]; rfl
          have B8 := Aside0.mk (below_then B7.out B7.out.size H.out)
          have d8 : decide ((n6 : Int) ≤ 817) = true := decide_eq_true (by omega)
          clear HV7 G7
          go_wp2
          rw [HP.out]
          exact ⟨rfl, B8.out⟩
    · rw [if_neg hV]
      have HRV := Aside0.mk hV
      clear hr6 hb6 hV HV2 B2 G2
      go_wp2_with fail
      refine (zero_calls _).mono ?_
      rintro r w7 ⟨A7, c7, rfl, hb7⟩
      have G7 := Aside0.mk (blk_below G6.out hb7)
      have HV7 := Aside0.mk (HV6.out.below hb7)
      have B7 := Aside0.mk (below_then B6.out B6.out.size hb7)
      have y0 : w7.cell? ⟨w.heap.size + 1, 0, none⟩ = some (.slice A nb cb) := by rw [cell_of_row _ _ 0 _ 40 (0, 0) G7.out]; rfl
      have y1 : w7.cell? ⟨w.heap.size + 1, 1, none⟩ = some (.slice A2 ni ci) := by rw [cell_of_row _ _ 1 _ 40 (0, 0) G7.out]; rfl
      clear hb7 G6 HV6 B6 x0 x1
      go_wp2_with fail
      refine (rightV_calls A nb cb A2 ni ci v _ HV7.out (by omega) (by omega)).mono ?_
      rintro r w8 ⟨rfl, hb8⟩
      rw [decide_eq_false HRV.out]
      have B8 := Aside0.mk (below_then B7.out B7.out.size hb8)
      clear hb8 y0 y1 B7 HV7 G7
      go_wp2
      rw [HP.out]
      exact ⟨rfl, B8.out⟩
end Go.Proofs.Ytfefpbnhpncmlaa.BckM
